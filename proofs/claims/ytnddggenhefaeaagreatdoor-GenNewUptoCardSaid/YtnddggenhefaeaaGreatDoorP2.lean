/-
  A part of the proof. Text 2 of 10: TxD TxG TxM TxW TxE.
-/
import Derived.Test.YtnddggenhefaeaaGreatDoorP1
import Derived.Laws.CopyOwn
import Derived.Lib.AppendZerosOnto
import Derived.TacticsIn
import Derived.OrdersIn
import Derived.LoopNIn
import Derived.Sort.LoopGhostIn
import Derived.Sort.QuietThIn
import Derived.RangeFuncIn
import Derived.RangeFuncLeaves
import Derived.RangeFuncRecord
import Derived.RangeFuncStops
import Derived.LoopN
set_option linter.unusedSimpArgs false
set_option linter.unusedVariables false
open Nat renaming le_refl->jo,le_trans->kf,lt_of_lt_of_le->jN,blt->kv,le_of_ble_eq_true->jx,add_assoc->kM,mul_le_mul_right->kB,eq_of_beq_eq_true->jf,zero_add->ko,zero_le->jE,beq->jr
open List renaming getD_eq_getElem?_getD->jc,getElem?_append_left->jI,map_congr_left->ki,mem_of_getElem?->jB,take_succ_eq_append_getElem->jF,length_take->jO,map_cons->jW,getElem?_eq_getElem->jh,getElem?_set_self->kp,getElem?_set_ne->j6,take_of_length_le->jU,drop_eq_nil_of_le->j4,append_assoc->jM,length_append->jm,getElem?_append_right->jJ,ext_getElem?->kD,map_append->kG,length_map->jK,length_range->kz,getElem?_map->jy,range->jv,getElem?_range->kI,length_cons->kj,length->jV,eq_nil_of_length_eq_zero->kw,length_set->jq,ext_getElem->ku,getElem?_cons_zero->jH,getElem?_eq_none->kd,getElem_mem->jT,replicate->jd,getElem?_toArray->kL,mem_cons->kC
open Bool renaming and_eq_true->jg,not_eq_true'->jC,or_eq_true->jQ,false_eq_true->jY,eq_false_iff->ky
open Go.Sem renaming run_bind->jp,run_pure->jz,run->kJ
open Go.Result renaming andThen_ok->jk
open Int renaming toNat_of_nonneg->jS,le_refl->jl
open Array renaming toList_map->kK
open Option renaming map_some->jX
namespace Go
theorem W228{p:Prop}(h:p:=by simp;omega):p:=h
theorem W268{p:Prop}(h:p:=by cases h):p:=h
theorem W299{p:Prop}(h:p:=by simpa using hj):p:=h
theorem W305{p:Prop}(h:p:=by cases e;exact hf):p:=h
theorem W306{p:Prop}(h:p:=by rw[hg];exact gHolds_nil a):p:=h
end Go
namespace Go.Tx
open Go Go.RowKit
theorem Fr.refl(m:Nat->Prop)(w:World):Fr m w w:=⟨rfl,rfl,rfl,jo _,λ_ _ _=>rfl⟩
theorem Fr.step{m:Nat->Prop}{w0 w w':World}(h:Fr m w0 w)(hos:w'.os=w.os)(htp:w'.tape=w.tape)(hout:w'.output=w.output)(hsz:w.heap.size<=w'.heap.size)(hb:∀k,k<w0.heap.size->¬m k->w'.heap[k]?=w.heap[k]?):Fr m w0 w':=
 ⟨hos.trans h.os,htp.trans h.tape,hout.trans h.output,kf h.size hsz,λk hk hm=>(hb k hk hm).trans (h.block k hk hm)⟩
theorem Y7{r:Reg}(h:r.excl=true):r.live=true:=by
 cases r<;>first|rfl|cases h
section
variable {P:Program} {ε:Env} {M L:Nat->Prop} {w w':World} {e:Ent} {r:Reg}
theorem RdRow.map{fp:Nat->Prop}{h:Value}{size n:Nat}{ok ok':Nat->Nat->Value->Prop}(hr:RdRow w fp h size n ok)(hsz:w.heap.size<=w'.heap.size)(hb:∀b,fp b->b<w.heap.size->w'.heap[b]?=w.heap[b]?)
 (hok:∀i j u,i<n->j<size->ok i j u->ok' i j u):RdRow w' fp h size n ok':=by
  obtain⟨A,c,rfl,h1,h2,ha,hc⟩:=hr;refine⟨A,c,rfl,h1,h2,λa e hp=>⟨jN (ha a e hp).1 hsz,(ha a e hp).2⟩,λhn=>?_⟩;obtain⟨ad,rfl,hc2⟩:=hc hn;refine⟨ad,rfl,λi j hi hj=>?_⟩;obtain⟨u,h3,h4⟩:=hc2 i j hi hj;refine⟨u,?_,hok i j u hi hj h4⟩;rw[World.cell?_of_block (w:=w)];exact h3;rw[Jt];exact hb _ (ha ad rfl hn).2 (ha ad rfl hn).1
theorem Q1p{B ty size n:Nat}{xs:List Value}{h:Value}(ho:w.ownsRow B ty size h n xs){b:Nat}(hb:bk h=some b):b<w.heap.size:=by
 obtain⟨_,⟨rfl,_⟩|⟨g,cap,cur,rfl,_,hh,_⟩⟩:=ho;cases hb;cases hb;grind
theorem Qc0{B ty size n:Nat}{xs:List Value}{h:Value}(ho:w.ownsRow B ty size h n xs)(hb:∀b,bk h=some b->b<w.heap.size->w'.heap[b]?=w.heap[b]?):w'.ownsRow B ty size h n xs:=by
 have hlt:=λb=>Q1p ho (b:=b);obtain⟨h0,ho|⟨g,cap,cur,rfl,h2,hh,h3⟩⟩:=ho;exact⟨h0,.inl ho⟩;exact⟨h0,.inr ⟨g,cap,cur,rfl,h2,by rw[hb g rfl (hlt g rfl)];exact hh,h3⟩⟩
theorem OwnRow.map{M fp:Nat->Prop}{ty size n:Nat}{h:Value}{ok ok':Nat->Nat->(Nat->Prop)->Value->Prop}(ho:OwnRow w M fp ty size n h ok)(hb:∀b,fp b->b<w.heap.size->w'.heap[b]?=w.heap[b]?)
 (hok:∀i j fp' u,i<n->j<size->(∀b,fp' b->fp b)->ok i j fp' u->ok' i j fp' u):OwnRow w' M fp ty size n h ok':=by
  obtain⟨els,h1,h2,h3,h4,fps,h5,h6,h7⟩:=ho;refine⟨els,Qc0 h1 (λb hb' hlt=>hb b (h4 b hb').1 hlt),h2,h3,h4,fps,λi j hi hj=>?_,h6,h7⟩;grind
theorem RdC.world{fp:Nat->Prop}(hsz:w.heap.size<=w'.heap.size)(hb:∀b,fp b->b<w.heap.size->w'.heap[b]?=w.heap[b]?):∀(t:TC) {v:Value},RdC w fp t v->RdC w' fp t v
 |.val x,v,h=>h
 |.any,v,h=>h
 |.sub ty size n f,v,h=>RdRow.map (w':=w') h hsz hb (λi j u _ _ hu=>RdC.world hsz hb (f i j) hu)
theorem RdC.mono{fp fp':Nat->Prop}(hf:∀b,fp b->fp' b):∀(t:TC) {v:Value},RdC w fp t v->RdC w fp' t v
 |.val x,v,h=>h
 |.any,v,h=>h
 |.sub ty size n f,v,h=>by
  obtain⟨A,c,h0,h1,h2,ha,hc⟩:=h;refine⟨A,c,h0,h1,h2,λa e hp=>⟨(ha a e hp).1,hf _ (ha a e hp).2⟩,λhn=>?_⟩;obtain⟨ad,h3,hc2⟩:=hc hn;refine⟨ad,h3,λi j hi hj=>?_⟩;obtain⟨u,h4,h5⟩:=hc2 i j hi hj;exact⟨u,h4,RdC.mono hf (f i j) h5⟩
theorem OwnC.world:∀(t:TC) {fp:Nat->Prop} {v:Value},(∀b,fp b->b<w.heap.size->w'.heap[b]?=w.heap[b]?)->OwnC w M t fp v->OwnC w' M t fp v
 |.val x,fp,v,hb,h=>h
 |.any,fp,v,hb,h=>h
 |.sub ty size n f,fp,v,hb,h=>OwnRow.map (w':=w') h hb (λi j fp' u _ _ hf hu=>OwnC.world (f i j) (λb hb' hlt=>hb b (hf b hb') hlt) hu)
theorem Z4{fp:Nat->Prop}{ty size n:Nat}{h:Value}{ok:Nat->Nat->(Nat->Prop)->Value->Prop}{ok':Nat->Nat->Value->Prop}(ho:OwnRow w M fp ty size n h ok)
 (hok:∀i j fp' u,i<n->j<size->(∀b,fp' b->fp b)->ok i j fp' u->ok' i j u):RdRow w fp h size n ok':=by
  have hcell:=λi j hi hj=>OwnRow.cell ho (i:=i) (j:=j) hi hj;obtain⟨els,h1,h2,h3,h4,fps,h5,h6,h7⟩:=ho;have hlt:=λb=>Q1p h1 (b:=b);have hcell:∀i j,i<n->j<size->∃u,w.cell? ((haddr h).add (i * size+j))=some u/\ok' i j u:=λi j hi hj=>by grind[own_cell]
  rcases h1.2 with⟨rfl,h00⟩|⟨g,cap,cur,rfl,_,_,hnc,hcm,_,_⟩;subst h00;exact⟨none,0,rfl,jo _,by simp[maxLen],λa h _=>W268,λh=>absurd h W48⟩;exact⟨some ⟨g,0,none⟩,cap,rfl,hnc,hcm,λa h _=>by cases h;exact⟨hlt g rfl,(h4 g rfl).1⟩,λ_=>⟨_,rfl,hcell⟩⟩
theorem Zw:∀(t:TC) {fp fp':Nat->Prop} {v:Value},(∀b,fp b->fp' b)->OwnC w M t fp v->RdC w fp' t v
 |.val x,fp,fp',v,hf,h=>h
 |.any,fp,fp',v,hf,h=>h
 |.sub ty size n f,fp,fp',v,hf,h=>RdC.mono hf (.sub ty size n f) (Z4 (ok':=λi j u=>RdC w fp (f i j) u) h (λi j fp2 u _ _ hf2 hu=>Zw (f i j) hf2 hu))
theorem MapR.world{T:MT}{ty size n:Nat}{f:KA T.K->Nat×(Nat->Nat->TC)}{opn:Option (KA T.K×Nat×Option Int)}{fp:Nat->Prop}{h:Value}(hr:MapR ε w M fp T ty size h n f opn)(hb:∀b,fp b->b<w.heap.size->w'.heap[b]?=w.heap[b]?) :
 MapR ε w' M fp T ty size h n f opn:=by
  obtain⟨has,hd,fb,fps,h1,h2,h3,h4,h5,h6⟩:=hr;refine⟨has,hd,fb,fps,h1.world (λb hf _ hlt=>hb b (h2 b hf) hlt),h2,h3,h4,λa ha=>?_,λa q st e=>⟨(h6 a q st e).1,(h6 a q st e).2.1,λs hs=>((h6 a q st e).2.2 s hs).world h1 (λb hf hlt=>hb b (h2 b hf) hlt)⟩⟩;grind[OwnRow.map,OwnC.world]
theorem RegOk.world(hr:RegOk ε M w e r)(hsz:w.heap.size<=w'.heap.size)(hb:∀b,e.fp b->r.live=true->b<w.heap.size->w'.heap[b]?=w.heap[b]?):RegOk ε M w' e r:=by
 cases r with|box ty cells =>obtain⟨g,h0,h1,h2,hh⟩:=hr;(have hlt:g<w.heap.size:=by grind);exact⟨g,h0,h1,h2,by rw[hb g h2 rfl hlt];exact hh⟩|own ty size n f foc =>refine⟨OwnRow.map (w':=w') hr.1 (λb hf hlt=>hb b hf rfl hlt) (λi j fp' u _ _ hf hu=>?_),hr.2⟩;(cases foc with|none=>exact OwnC.world (f i j) (λb hb' hlt=>hb b (hf b hb') rfl hlt) hu|some kc=>exact⟨λhn=>OwnC.world (f i j) (λb hb' hlt=>hb b (hf b hb') rfl hlt) (hu.1 hn),hu.2⟩)|row size n f foc =>refine⟨RdRow.map (w':=w') hr.1 hsz (λb hf hlt=>hb b hf rfl hlt) (λi j u _ _ hu=>?_),hr.2⟩;(cases foc with|none=>exact RdC.world hsz (λb hf hlt=>hb b hf rfl hlt) (f i j) hu|some kc=>exact⟨RdC.world hsz (λb hf hlt=>hb b hf rfl hlt) (f i j) hu.1,hu.2⟩)|ro cells =>obtain⟨A,h0,ha,hf,hc⟩:=hr;refine⟨A,h0,jN ha hsz,hf,λj x hx=>?_⟩;rw[World.cell?_of_block (w:=w)];exact hc j x hx;rw[Jt];exact hb _ hf rfl ha|dead=>trivial|one=>exact hr|froz X=>(exact λb hx=>let⟨h1,h2,h3⟩:=hr b hx;⟨h1,jN h2 hsz,by rw[hb b h1 rfl h2];exact h3⟩)|mp T n has f it=>exact MapAt.world hr (λb hf hlt=>hb b hf rfl hlt)|itr q=>exact hr|mpv T z n ents=>exact MapV.world hr (λb hf _ hlt=>hb b hf rfl hlt)|mpr T ty size n f opn=>exact MapR.world hr (λb hf hlt=>hb b hf rfl hlt)
theorem Q99{ε:Env}{i:Nat}(h:i<ε.length)(x:Ent):Env.ent (ε++[x]) i=ε.ent i:=by
 simp_all[Env.ent,jc,jI]
theorem Q9a{ε:Env}(x:Ent):Env.ent (ε++[x]) ε.length=x:=by
 unfold Env.ent;simp
theorem Q2l{ε:Env}{i:Nat}(h:i<ε.length)(x:Ent):Env.at_ (ε++[x]) i=ε.at_ i:=by
 unfold Env.at_;rw[Q99 h]
theorem Z5{ε:Env}(x:Ent):Env.at_ (ε++[x]) ε.length=x.h:=by
 unfold Env.at_;rw[Q9a]
theorem Q4t{ε:Env}{i:Nat}(h:i<ε.length)(x:Ent):Env.fp (ε++[x]) i=ε.fp i:=by
 unfold Env.fp;rw[Q99 h]
theorem Q81{ε:Env}(x:Ent):Env.fp (ε++[x]) ε.length=x.fp:=by
 unfold Env.fp;rw[Q9a]
theorem Ga{ε ε':Env}{c:C}{n:Nat}(hs:c.scp n=true)(h:∀r,r<n->ε'.at_ r=ε.at_ r):c.den ε'=c.den ε:=by
 have at_:∀r,kv r n=true->Env.at_ ε' r=Env.at_ ε r:=λr hr=>h r (jx hr);cases c<;>simp only[C.scp] at hs<;>simp only[C.den];case hs=>rw[at_ _ hs]
 rw[at_ _ hs];rw[at_ _ hs];rw[at_ _ hs];rename_i f b caps;congr 1;grind[ki];rw[at_ _ hs]
theorem Gq{ε ε':Env}{cs:List C}{n:Nat}(hs:cs.all (C.scp n)=true)(h:∀r,r<n->ε'.at_ r=ε.at_ r):cs.map (C.den ε')=cs.map (C.den ε):=
 ki λc hc=>Ga (List.all_eq_true.1 hs c hc) h
theorem Qiy{ε ε':Env}{s:SV}{n:Nat}(hs:s.scp n=true)(h:∀r,r<n->ε'.at_ r=ε.at_ r):s.den ε'=s.den ε:=by
 cases s with|c c=>exact Ga hs h|agg cs=>simp only[SV.den];rw[Gq hs h]|tup vs =>simp only[SV.den];congr 2;refine ki λv hv=>?_;have:=List.all_eq_true.1 hs v hv;simp only[denPart,Gq this h]|u=>rfl
theorem Q4u{K:List CK}{n:Nat}:∀{l:List (KA K×C)} {q:KA K} {c:C},l.all (λx=>x.2.scp n)=true->entOf l q=some c->c.scp n=true
 |[],_,_,_,h=>by cases h
 |(a,c')::r,q,c,hs,h=>by
  simp only[List.all_cons,jg] at hs;unfold entOf at h;split at h;cases h;exact hs.1;exact Q4u hs.2 h
theorem RegOk.same{ε ε':Env}{n:Nat}(hr:RegOk ε M w e r)(hs:r.scp n=true)(h:∀r,r<n->ε'.at_ r=ε.at_ r):RegOk ε' M w e r:=by
 cases r with|box ty cells=>obtain⟨g,h1,h2,h3,h4⟩:=hr;exact⟨g,h1,h2,h3,by rw[Gq hs h];exact h4⟩|ro cells =>obtain⟨A,h1,h2,h3,h4⟩:=hr;refine⟨A,h1,h2,h3,λj y hy=>?_⟩;rw[Ga (List.all_eq_true.1 hs y (jB hy)) h];exact h4 j y hy|own ty size n f foc =>(cases foc with|none=>exact hr|some kc =>refine⟨OwnRow.map hr.1 (λ_ _ _=>rfl) (λi j fp' u _ _ hf hu=>⟨hu.1,λhk=>?_⟩),hr.2⟩;obtain⟨x,hx,he⟩:=hu.2 hk;exact⟨x,hx,by rw[Ga (List.all_eq_true.1 hs x (jB hx)) h];exact he⟩)|row size n f foc =>(cases foc with|none=>exact hr|some kc =>refine⟨RdRow.map hr.1 (jo _) (λ_ _ _=>rfl) (λi j u _ _ hu=>⟨hu.1,λhk=>?_⟩),hr.2⟩;obtain⟨x,hx,he⟩:=hu.2 hk;exact⟨x,hx,by rw[Ga (List.all_eq_true.1 hs x (jB hx)) h];exact he⟩)|dead=>trivial|one=>exact hr|froz X=>exact hr|mp T n has f it=>exact hr|itr q=>exact hr|mpv T z n ents =>(have e:entV ε' z ents=entV ε z ents:=by funext q;unfold entV;cases hq:entOf ents q with|none=>rfl|some c=>exact Ga (Q4u hs hq) h);show MapV w M _ T z _ n _ (entV ε' z ents);rw[e];exact hr|mpr T ty size n f opn =>obtain⟨has,hd,fb,fps,h1,h2,h3,h4,h5,h6⟩:=hr;refine⟨has,hd,fb,fps,h1,h2,h3,h4,h5,λa q st e=>?_⟩;subst e;rw[h q (jx hs)];exact h6 a q st rfl
theorem Q9b{c:C}{n:Nat}(hs:c.scp n=true)(hl:ε.length=n)(x:Ent):c.den (ε++[x])=c.den ε:=Ga hs (λr hr=>Q2l W48 x)
theorem Qf3{cs:List C}{n:Nat}(hs:cs.all (C.scp n)=true)(hl:ε.length=n)(x:Ent):cs.map (C.den (ε++[x]))=cs.map (C.den ε):=Gq hs (λr hr=>Q2l W48 x)
theorem idx_new{α:Type}{l:List α}{x y:α}{i:Nat}(h:(l++[x])[i]?=some y):(i<l.length/\l[i]?=some y)\/(i=l.length/\x=y):=by
 grind
theorem RegsOk.add{rg:List Reg}(hs:RegsOk ε M L w rg)(hsz:w.heap.size<=w'.heap.size)
 (hold:∀i ri b,rg[i]?=some ri->ri.live=true->ε.fp i b->w'.heap[b]?=w.heap[b]?) (hsc:rg.all (Reg.scp rg.length)=true)
 {x:Ent} {r:Reg} (hr:RegOk (ε++[x]) M w' x r) (hlt:r.live=true->∀b,x.fp b->b<w'.heap.size/\L b) (hlim:r.excl=true->∀b,x.fp b->M b)
 (hsep:∀b,x.fp b->r.live=true->∀i ri,rg[i]?=some ri->ri.live=true->(r.excl=true\/ri.excl=true)->¬ε.fp i b):RegsOk (ε++[x]) M L w' (rg++[r]):=by
  have hl:=hs.len;refine⟨by simp[hl],λi r' hi=>?_,λi r' hi hlv b hb=>?_,λi r' hi hex b hb=>?_,λi j ri rj hij hi hj he hlv b hb hb'=>?_⟩;rcases idx_new hi with⟨h1,h2⟩|⟨rfl,rfl⟩;rw[Q99 W48];have h0:=hs.reg i r' h2;exact(RegOk.world h0 hsz (λb hb hlv _=>hold i r' b h2 hlv hb)).same (List.all_eq_true.1 hsc r' (jB h2)) (λr hr=>Q2l W48 x);rw[<- hl,Q9a];exact hr;rcases idx_new hi with⟨h1,h2⟩|⟨rfl,rfl⟩;rw[Q4t W48] at hb;have:=hs.lt i r' h2 hlv b hb;exact⟨by omega,this.2⟩;rw[<- hl,Q81] at hb;exact hlt hlv b hb;rcases idx_new hi with⟨h1,h2⟩|⟨rfl,rfl⟩;rw[Q4t W48] at hb;exact hs.lim i r' h2 hex b hb;rw[<- hl,Q81] at hb;exact hlim hex b hb;rcases idx_new hi with⟨h1,h2⟩|⟨rfl,rfl⟩<;>rcases idx_new hj with⟨k1,k2⟩|⟨rfl,rfl⟩;rw[Q4t W48] at hb hb';exact hs.sep i j ri rj hij h2 k2 he hlv b hb hb';rw[Q4t W48] at hb;rw[<- hl,Q81] at hb';exact hsep b hb' hlv i ri h2 (Y7 he) (.inr he) hb;rw[<- hl,Q81] at hb;simp_all[Q4t,Y7];exact hij rfl
theorem Ql{st:St}(h:st.scp=true):(∀e∈st.fr,e.sv.scp st.rg.length=true)/\st.rg.all (Reg.scp st.rg.length)=true:=by
 simp_all[St.scp,jg]
theorem EnOk.same{ε ε':Env}{n N:Nat}{a:Act}{e:En}(h:EnOk ε N a e)(hs:e.sv.scp n=true)(hh:∀r,r<n->ε'.at_ r=ε.at_ r):EnOk ε' N a e:=
 ⟨h.1,λhg=>by rw[Qiy hs hh];exact h.2.1 hg,h.2.2⟩
theorem Qiz{b:List Value}{ε:Env}(h:b <+: ε.hs)(x:Ent):b <+: Env.hs (ε++[x]):=by
 unfold Env.hs at *;grind
theorem SatE.add{w0:Base}{st:St}{a:Act}(hs:SatE w0 st ε a w)(hsc:st.scp=true)(hb:Fr w0.m w0.w w')(hsz:w.heap.size<=w'.heap.size)
 (hold:∀i ri b,st.rg[i]?=some ri->ri.live=true->ε.fp i b->w'.heap[b]?=w.heap[b]?)
 {x:Ent} {r:Reg} (hr:RegOk (ε++[x]) w0.M w' x r) (hlt:r.live=true->∀b,x.fp b->b<w'.heap.size/\w0.L b) (hlim:r.excl=true->∀b,x.fp b->w0.M b)
 (hsep:∀b,x.fp b->r.live=true->∀i ri,st.rg[i]?=some ri->ri.live=true->(r.excl=true\/ri.excl=true)->¬ε.fp i b):SatE w0 { st with rg:=st.rg++[r] } (ε++[x]) a w':=by
  obtain⟨h1,h2⟩:=Ql hsc;exact⟨hs.defs,hs.size,λe he=>(hs.fr e he).same (h1 e he) (λr hr=>Q2l (by rw[hs.regs.len];exact hr) x),hs.regs.add hsz hold h2 hr hlt hlim hsep,hb,Qiz hs.pre x⟩
theorem Zf(w:World)(o:Obj){b:Nat}(h:b<w.heap.size):(w.alloc o).heap[b]?=w.heap[b]?:=Below.heap_alloc w o b h
theorem Base.fresh_M{w0:Base}{st:St}{a:Act}(hs:SatE w0 st ε a w){b:Nat}(h:w.heap.size<=b):w0.M b/\w0.L b:=⟨.inl (kf hs.below.size h),.inl (kf hs.below.size h)⟩
theorem SatE.fresh{w0:Base}{st:St}{a:Act}(hs:SatE w0 st ε a w)(hsc:st.scp=true)(o:Obj){x:Ent}{r:Reg}(hx:∀b,x.fp b->b=w.heap.size)(hr:RegOk (ε++[x]) w0.M (w.alloc o) x r) :
 SatE w0 { st with rg:=st.rg++[r] } (ε++[x]) a (w.alloc o):=by
  refine hs.add (w':=w.alloc o) hsc (hs.below.step (w':=w.alloc o) rfl rfl rfl W207 (λk hk _=>Zf w o (jN hk hs.below.size))) W207 (λi ri b hi hl hb=>Zf w _ (hs.regs.lt i ri hi hl b hb).1) hr (λ_ b hb=>?_) (λ_ b hb=>?_) (λb hb _ i ri hi hl _ hb'=>?_);have:=hx b hb;subst this;exact⟨by simp,(Base.fresh_M hs (jo _)).2⟩;have:=hx b hb;subst this;exact(Base.fresh_M hs (jo _)).1;have:=(hs.regs.lt i ri hi hl b hb').1;have:=hx b hb;omega
theorem SatE.alloc{w0:Base}{st:St}{a:Act}{ty:Nat}{cells:List C}(hs:SatE w0 st ε a w)(hsc:st.scp=true)(hc:cells.all (C.scp st.rg.length)=true) :
 SatE w0 { st with rg:=st.rg++[.box ty cells] } (ε++[⟨.pointer (some ⟨w.heap.size,0,none⟩),λb=>b=w.heap.size⟩]) a (w.alloc (.cells (cells.map (C.den ε)).toArray ty)):=by
  refine hs.fresh hsc _ (λb hb=>hb) ⟨_,rfl,(Base.fresh_M hs (jo _)).1,rfl,?_⟩;rw[Qf3 hc hs.regs.len];exact heap_alloc_new w _
theorem SatE.upd{w0:Base}{st:St}{a:Act}(hs:SatE w0 st ε a w){r g:Nat}{old new:Reg}(ho:st.rg[r]?=some old)(hex:old.excl=true)
 (hg:ε.fp r g) (hsz:w'.heap.size=w.heap.size) (hos:w'.os=w.os) (htp:w'.tape=w.tape) (hout:w'.output=w.output)
 (hold:∀b,b≠g->w'.heap[b]?=w.heap[b]?) (hn:RegOk ε w0.M w' (ε.ent r) new) {rg:List Reg} (hrg:rg=st.rg.set r new) :
 SatE w0 { st with rg } ε a w':=by
  subst hrg;have hr:r<st.rg.length:=(List.getElem?_eq_some_iff.1 ho).1;have old_of:∀(k:Nat) (rk:Reg),(st.rg.set r new)[k]?=some rk->(k=r/\rk=new)\/(k≠r/\st.rg[k]?=some rk):=λk rk hk=>by grind
  have hMg:=hs.regs.lim r old ho hex g hg;refine⟨hs.defs,hs.size,hs.fr,⟨by simp[hs.regs.len],λi ri hi=>?_,λi ri hi hl b hb=>?_,λi ri hi he b hb=>?_,λi j ri rj hij hi hj he hl b hb1 hb2=>?_⟩,hs.below.step hos htp hout W48 (λk hk hm=>hold k (λe=>?_)),hs.pre⟩;rcases old_of i ri hi with⟨rfl,rfl⟩|⟨hne,h2⟩;exact hn;refine RegOk.world (hs.regs.reg i ri h2) W48 (λb hb' hl _=>hold b (λe=>?_));subst e;exact hs.regs.sep r i old ri (Ne.symm hne) ho h2 hex hl b hg hb';rcases old_of i ri hi with⟨rfl,rfl⟩|⟨hne,h2⟩;have:=hs.regs.lt i old ho (Y7 hex) b hb;exact⟨by omega,this.2⟩;have:=hs.regs.lt i ri h2 hl b hb;exact⟨by omega,this.2⟩;rcases old_of i ri hi with⟨rfl,rfl⟩|⟨hne,h2⟩;exact hs.regs.lim i old ho hex b hb;exact hs.regs.lim i ri h2 he b hb;have h1:∃oi,st.rg[i]?=some oi/\oi.excl=true:=by grind
  have h3:∃oj,st.rg[j]?=some oj/\oj.live=true:=by rcases old_of j rj hj with⟨rfl,rfl⟩|⟨hne,h2⟩;exact⟨old,ho,Y7 hex⟩;exact⟨rj,h2,hl⟩
  obtain⟨oi,h1,h2⟩:=h1;obtain⟨oj,h3,h4⟩:=h3;exact hs.regs.sep i j oi oj hij h1 h3 h2 h4 b hb1 hb2;subst e;rcases hMg with h|h;omega;exact hm h
theorem SatE.updG{w0:Base}{st:St}{a:Act}(hs:SatE w0 st ε a w){r g:Nat}{old new:Reg}(ho:st.rg[r]?=some old)(hex:old.excl=true)
 (hg:ε.fp r g) (hsz:w.heap.size<=w'.heap.size) (hos:w'.os=w.os) (htp:w'.tape=w.tape) (hout:w'.output=w.output)
 (hold:∀b,b<w.heap.size->b≠g->w'.heap[b]?=w.heap[b]?) (hn:RegOk ε w0.M w' (ε.ent r) new) {rg:List Reg} (hrg:rg=st.rg.set r new) :
 SatE w0 { st with rg } ε a w':=by
  subst hrg;have hr:r<st.rg.length:=(List.getElem?_eq_some_iff.1 ho).1;have old_of:∀(k:Nat) (rk:Reg),(st.rg.set r new)[k]?=some rk->(k=r/\rk=new)\/(k≠r/\st.rg[k]?=some rk):=λk rk hk=>by grind
  have hMg:=hs.regs.lim r old ho hex g hg;refine⟨hs.defs,hs.size,hs.fr,⟨by simp[hs.regs.len],λi ri hi=>?_,λi ri hi hl b hb=>?_,λi ri hi he b hb=>?_,λi j ri rj hij hi hj he hl b hb1 hb2=>?_⟩,hs.below.step hos htp hout W48 (λk hk hm=>hold k (jN hk hs.below.size) (λe=>?_)),hs.pre⟩;rcases old_of i ri hi with⟨rfl,rfl⟩|⟨hne,h2⟩;exact hn;refine RegOk.world (hs.regs.reg i ri h2) W48 (λb hb' hl hlt=>hold b hlt (λe=>?_));subst e;exact hs.regs.sep r i old ri (Ne.symm hne) ho h2 hex hl b hg hb';rcases old_of i ri hi with⟨rfl,rfl⟩|⟨hne,h2⟩;have:=hs.regs.lt i old ho (Y7 hex) b hb;exact⟨by omega,this.2⟩;have:=hs.regs.lt i ri h2 hl b hb;exact⟨by omega,this.2⟩;rcases old_of i ri hi with⟨rfl,rfl⟩|⟨hne,h2⟩;exact hs.regs.lim i old ho hex b hb;exact hs.regs.lim i ri h2 he b hb;have h1:∃oi,st.rg[i]?=some oi/\oi.excl=true:=by grind
  have h3:∃oj,st.rg[j]?=some oj/\oj.live=true:=by rcases old_of j rj hj with⟨rfl,rfl⟩|⟨hne,h2⟩;exact⟨old,ho,Y7 hex⟩;exact⟨rj,h2,hl⟩
  obtain⟨oi,h1,h2⟩:=h1;obtain⟨oj,h3,h4⟩:=h3;exact hs.regs.sep i j oi oj hij h1 h3 h2 h4 b hb1 hb2;subst e;rcases hMg with h|h;omega;exact hm h
end
section
variable {P:Program} {ε:Env} {w:World} {w0:Base} {st:St} {a:Act} {M L:Nat->Prop}
theorem Qal{α:Type}{l l':List α}{off:Nat}{xs:List α}(h:setCut l off xs=some l'):l'=l.take off++xs++l.drop (off+xs.length):=by
 induction xs generalizing l off with|nil=>simp only[setCut,Option.some.injEq] at h;subst h;simp|cons x r ih =>simp only[setCut] at h;split at h;rename_i l1 h1;obtain⟨hlt,rfl⟩:=Y1 h1;rw[ih h];rw[List.take_set,List.drop_set,if_pos W48];(have e1:List.set (l.take (off+1)) off x=l.take off++[x]:=by rw[jF hlt,List.set_append,if_neg W228,jO];simp[Nat.min_eq_left (Nat.le_of_lt hlt)]);rw[e1];simp[kM,Nat.add_comm 1];cases h
theorem Gt(hs:RegsOk ε M L w st.rg){x:SV}{cs:List C}(h:x.cells st=some cs):(x.den ε).cells=(cs.map (C.den ε)).toArray/\∀v∈cs.map (C.den ε),v.oneCell'=true:=by
 unfold SV.cells at h;split at h;rename_i c;split at h;rename_i h1;cases h;have h2:=Gp hs h1;exact⟨Q4p h2,λv hv=>by simp at hv;subst hv;exact h2⟩;cases h;split at h;rename_i cs' h1;cases h;refine⟨rfl,λv hv=>?_⟩;obtain⟨c,hc,rfl⟩:=List.mem_map.1 hv;exact Gp hs (List.all_eq_true.1 h1 c hc);cases h;cases h
theorem Q4v{t sz g off:Nat}{ty:TypeId}{cur:Array Value}{v:Value}{vs:List Value}(hsz:tySize P t=some sz)(hv:v.cells=vs.toArray)(hl:vs.length=sz)(h1:∀u∈vs,u.oneCell'=true)
 (hg:w.heap[g]?=some (.cells cur ty (0,0))) (hroom:off+vs.length<=cur.size) :
 (storeVar t ((⟨g,0,none⟩:Addr).add off) v).run P w=.ok () (w.setRow g (cur.toList.take off++vs++cur.toList.drop (off+vs.length)).toArray):=by
  have e:(⟨g,0,none⟩:Addr).add off=⟨g,off,none⟩:=by unfold Addr.add;split<;>simp_all
  rw[e];have:=run_storeCells_at (P:=P) g off ty vs 0 cur w hg W48 h1;simp_all[Nat.add_zero,storeVar,jp,Qu,jk,List.size_toArray,ne_eq]
theorem Q4a{t:Nat}{A:Addr}{v:Value}(hsz:tySize P t=some 0)(hv:v.cells=#[]):(storeVar t A v).run P w=.ok () w:=by
 simp_all[storeVar,jp,Qu,jk,storeCells]
theorem Qam(hs:SatE w0 st ε a w){t sz r:Nat}{ty:Nat}{cells cells':List C}{x:SV}{cs cs':List C}{off off':Nat}{rg:List Reg}(hr:nth st.rg r=some (.box ty cells))(hsz:tySize P t=some sz)(hx:x.cells st=some cs)(hl:cs.length=sz)
 (hc:setCut cells off' cs'=some cells') (hlen2:cs≠[]->off+cs.length<=cells.length)
 (hden:(cells.map (C.den ε)).take off++cs.map (C.den ε)++(cells.map (C.den ε)).drop (off+cs.length)=cells'.map (C.den ε))
 (hrg:setAt st.rg r (.box ty cells')=some rg) :
 ∃w',(storeVar t ((haddr (ε.at_ r)).add off) (x.den ε)).run P w=.ok () w'/\SatE w0 { st with rg } ε a w':=by
  obtain⟨hx1,hx2⟩:=Gt hs.regs hx;obtain⟨g,he,hM,hf,hh⟩:=Qf hs hr;obtain⟨_,hrg'⟩:=Y1 hrg;have hheap:∀cur:Array Value,(w.setRow g cur).heap[g]?=some (.cells cur ty (0,0)):=λcur=>setRow_heap w g _ cur ty _ hh;rw[show ε.at_ r=.pointer (some ⟨g,0,none⟩) from he];show ∃w',(storeVar t ((⟨g,0,none⟩:Addr).add off) (x.den ε)).run P w=.ok () w'/\_;by_cases hcs:cs=[];subst hcs;have h0:sz=0:=by simpa using hl.symm
  subst h0;refine⟨w,Q4a hsz (by simpa using hx1),?_⟩;refine hs.upd (Qd hr) rfl hf rfl rfl rfl rfl (λb hb=>rfl) ?_ hrg';refine⟨g,he,hM,hf,?_⟩;rw[hh,<- hden];simp;refine⟨_,Q4v hsz hx1 (by simpa using hl) hx2 hh (by simpa using hlen2 hcs),?_⟩;refine hs.upd (w':=w.setRow g _) (Qd hr) rfl hf W207 rfl rfl rfl (λb hb=>setRow_other w g b _ hb) ?_ hrg';refine⟨g,he,hM,hf,?_⟩;rw[hheap,<- hden];simp
theorem Q3e{cells cells' cs:List C}{off:Nat}(hc:setCut cells off cs=some cells'):(cells.map (C.den ε)).take off++cs.map (C.den ε)++(cells.map (C.den ε)).drop (off+cs.length)=cells'.map (C.den ε):=by
 rw[Qal hc];simp
theorem Q1q{cs:List C}{vs:List Value}(h:vals cs=some vs):cs.map (C.den ε)=vs:=by
 induction cs generalizing vs with|nil=>simp only[vals,Option.some.injEq] at h;subst h;rfl|cons c r ih =>simp only[vals] at h;split at h;rename_i v vs' h1 h2;cases h;simp only[jW,ih h2];congr 1;cases c<;>simp only[C.val,Option.some.injEq,reduceCtorEq] at h1<;>(try(subst h1;rfl));split at h1;cases h1;rfl;cases h1;cases h
theorem Qln{α:Type}{l:List α}{i:Nat}{x:α}(h:l[i]?=some x):l=l.take i++x::l.drop (i+1):=by
 obtain⟨hlt,rfl⟩:=List.getElem?_eq_some_iff.1 h;rw[List.getElem_cons_drop];simp
theorem Ja{els:List (List Value)}{size:Nat}(h:∀el∈els,el.length=size):els.flatten.length=els.length * size:=by
 induction els with|nil=>simp|cons e r ih=>grind
theorem Qan{fp:Nat->Prop}{ty size n ix off sz t:Nat}{h v:Value}{ok:Nat->Nat->(Nat->Prop)->Value->Prop}{vs:List Value}(ho:OwnRow w M fp ty size n h ok)(hix:ix<n)(hsz:tySize P t=some sz)
 (hv:v.cells=vs.toArray) (hl:vs.length=sz) (h1:∀u∈vs,u.oneCell'=true) (hroom:vs≠[]->off+sz<=size) :
 ∃w' g,bk h=some g/\(storeVar t ((haddr h).add (ix * size+off)) v).run P w=.ok () w'/\w'.heap.size=w.heap.size/\w'.os=w.os/\w'.tape=w.tape/\w'.output=w.output/\(∀b,b≠g->w'.heap[b]?=w.heap[b]?) /\
  ∀ok':Nat->Nat->(Nat->Prop)->Value->Prop,
   (∀i j fp' u,i<n->j<size->¬(i=ix/\off<=j/\j<off+sz)->(∀b,fp' b->fp b/\b≠g)->ok i j fp' u->ok' i j fp' u) ->
   (∀j u,vs[j]?=some u->ok' ix (off+j) (λ_=>False) u)->OwnRow w' M fp ty size n h ok':=by
    obtain⟨els,hown,hn,hel,h4,fps,h5,h6,h7⟩:=ho;obtain⟨h0,ho⟩:=hown;rcases ho with⟨_,h00⟩|⟨g,cap,cur,rfl,hB,hh,hnc,hcm,hcs,hcur⟩;omega;have hfix:els[ix]?=some (els[ix]'W48):=jh W48;generalize hfe:els[ix]'W48=fe at hfix;have hfl:fe.length=size:=hel _ (jB hfix);have hsplit:=Qln hfix;have hpre:(els.take ix).flatten.length=ix * size:=by rw[Ja (λe he=>hel e (List.mem_of_mem_take he)),jO,hn];rw[Nat.min_eq_left W48]
    have hcurl:cur.toList=(els.take ix).flatten++(fe++((els.drop (ix+1)).flatten++cur.toList.drop (n * size))):=by(have h1:cur.toList=els.flatten++cur.toList.drop (n * size):=by rw[<- hcur];simp);grind
    have hbound:(ix+1) * size<=cur.size:=by rw[hcs];exact kB _ W48
    rw[Nat.succ_mul] at hbound;have hnew:∀(el:List Value) (w':World),el.length=size->(∃cur':Array Value,w'.heap[g]?=some (.cells cur' ty (0,0))/\cur'.toList=(els.take ix).flatten++(el++((els.drop (ix+1)).flatten++cur.toList.drop (n * size)))/\cur'.size=cap * size) -> (∀j,el[j]?=if off<=j/\j<off+sz then vs[j-off]? else fe[j]?) -> ∀ok':Nat->Nat->(Nat->Prop)->Value->Prop,(∀i j fp' u,i<n->j<size->¬(i=ix/\off<=j/\j<off+sz)->(∀b,fp' b->fp b/\b≠g)->ok i j fp' u->ok' i j fp' u) -> (∀j u,vs[j]?=some u->ok' ix (off+j) (λ_=>False) u)->OwnRow w' M fp ty size n (.slice (some ⟨g,0,none⟩) n cap) ok':=by intro el w' hellen ⟨cur',hh',hc',hs'⟩ hget ok' hold hnew;(have hels:els.set ix el=els.take ix++el::els.drop (ix+1):=by rw[List.set_eq_take_append_cons_drop,if_pos W48]);(have hall:∀e∈els.set ix el,e.length=size:=λe he=>by grind);(have hflat:(els.set ix el).flatten.length=n * size:=by rw[Ja hall];simp[hn]);refine⟨els.set ix el,⟨by rw[hflat],.inr ⟨g,cap,cur',rfl,hB,hh',hnc,hcm,hs',?_⟩⟩,by simp[hn],hall,h4,λi j b=>(fps i j b/\¬(i=ix/\off<=j/\j<off+sz)),λi j hi hj=>?_,λi j b hi hj hb=>h6 i j b hi hj hb.1,λi j i' j' b hi hj hi' hj' hb hb'=>h7 i j i' j' b hi hj hi' hj' hb.1 hb'.1⟩;grind;obtain⟨u,hu,hok⟩:=h5 i j hi hj;by_cases hin:i=ix/\off<=j/\j<off+sz;obtain⟨rfl,hj1,hj2⟩:=hin;(have hlt:j-off<vs.length:=by omega);refine⟨vs[j-off],?_,?_⟩;unfold getV;grind;have:=hnew (j-off) _ (jh hlt);rw[show off+(j-off)=j by omega] at this;(have e:(λb=>fps i j b/\¬(i=i/\off<=j/\j<off+sz))=λ_=>False:=by funext b;simp[hj1,hj2]);grind;refine⟨u,?_,?_⟩;unfold getV at hu⊢;by_cases hii:i=ix;subst hii;rw[kp W48,Option.bind_some,hget,if_neg (λh=>hin ⟨rfl,h⟩)];rw[hfix] at hu;exact hu;rw[j6 (Ne.symm hii)];exact hu;(have e:(λb=>fps i j b/\¬(i=ix/\off<=j/\j<off+sz))=fps i j:=by funext b;simp only[hin,not_false_eq_true,and_true]);show ok' i j (λb=>fps i j b/\¬(i=ix/\off<=j/\j<off+sz)) _;rw[e];refine hold i j _ u hi hj hin (λb hb=>⟨(h6 i j b hi hj hb).1,λe=>(h6 i j b hi hj hb).2 (by rw[e];rfl)⟩) hok
    show ∃w' g',some g=some g'/\(storeVar t ((⟨g,0,none⟩:Addr).add (ix * size+off)) v).run P w=.ok () w'/\_;by_cases hvs:vs=[];subst hvs;have h0:sz=0:=by simpa using hl.symm
    subst h0;refine⟨w,g,rfl,Q4a hsz (by simpa using hv),rfl,rfl,rfl,rfl,λ_ _=>rfl,hnew fe w hfl ⟨cur,hh,hcurl,hcs⟩ (λj=>?_)⟩;rw[if_neg W48];have hroom:=hroom hvs;refine⟨_,g,rfl,Q4v hsz hv hl h1 hh W48,by simp,rfl,rfl,rfl,λb hb=>setRow_other w g b _ hb,?_⟩;refine hnew (fe.take off++vs++fe.drop (off+sz)) _ (by simp[hl,hfl];omega) ⟨_,setRow_heap w g _ _ ty _ hh,?_,?_⟩ (λj=>?_);have t1:cur.toList.take (ix * size+off)=(els.take ix).flatten++fe.take off:=by rw[hcurl,List.take_append,hpre,jU W48];congr 1;rw[show ix * size+off-ix * size=off by omega,List.take_append_of_le_length W48]
    have t2:cur.toList.drop (ix * size+off+vs.length)=fe.drop (off+sz)++((els.drop (ix+1)).flatten++cur.toList.drop (n * size)):=by(conv=>lhs;rw[hcurl]);rw[List.drop_append,hpre,j4 W48,List.nil_append];rw[show ix * size+off+vs.length-ix * size=off+sz by omega,List.drop_append_of_le_length W48]
    simp only[t1,t2,jM];simp only[List.size_toArray,jm,jO,List.length_drop,Array.length_toList];omega;by_cases hj:off<=j/\j<off+sz;rw[if_pos hj,jI W228,jJ W228];congr 1;simp;omega;rw[if_neg hj];rcases Nat.lt_or_ge j off with h|h;rw[jI W228,jI W228,List.getElem?_take,if_pos h];rw[jJ W228,List.getElem?_drop];congr 1;simp;omega
theorem Qf4{off ix len:Nat}{x:C}{cells cells':List C}(h:setArr off ix x cells len=some cells')(hix:ix<len) :
 off+len<=cells.length/\(cells.map (C.den ε)).take (off+ix)++[x.den ε]++(cells.map (C.den ε)).drop (off+ix+1)=cells'.map (C.den ε):=by
  unfold setArr at h;split at h;rename_i k ns k' n h1;split at h;rename_i hk;have:=kR hk;subst this;cases hcut:cut cells off len with|none=>rw[hcut] at h1;cases h1|some r =>rw[hcut] at h1;have hr:=Q6r h1;obtain⟨hl,hcs,hle⟩:=Q76 hcut;(have hnl:ns.length=len:=by rw[<- hl,hr];simp);(have hroom:off+len<=cells.length:=by rw[Nat.max_def] at hle;split at hle<;>omega);refine⟨hroom,?_⟩;rw[Qal h];apply kD;intro j;simp only[kG,List.map_take,List.map_drop,List.map_map,jK,kz];(have hcell:∀j,off<=j->j<off+len->(cells.map (C.den ε))[j]?=some (.int k (ns.getD (j-off) 0)):=λj h1 h2=>by have:=hcs (j-off) W48;rw[hr,jy,show off+(j-off)=j by omega] at this;rw[jy,<- this,jc,jh (by omega:j-off<ns.length)];rfl);(have hcl:(cells.map (C.den ε)).length=cells.length:=by simp);generalize cells.map (C.den ε)=ds at *;rcases Nat.lt_or_ge j off with hj|hj;grind;rcases Nat.lt_or_ge j (off+len) with hj2|hj2;(have rhs:(ds.take off++(jv ns.length).map ((C.den ε) ∘ λj=>C.i k (if ix=j then n else ns.getD j 0))++ds.drop (off+ns.length))[j]?=some (.int k (if ix=j-off then n else ns.getD (j-off) 0)):=by rw[jI W228,jJ W228];simp only[jO,jy];rw[Nat.min_eq_left W48,kI W48];rfl);rw[rhs];rcases Nat.lt_trichotomy j (off+ix) with h3|h3|h3;grind;subst h3;rw[jI W228,jJ W228];grind;rw[jJ W228,List.getElem?_drop,if_neg W48];grind;rw[jJ W228,jJ W228];simp only[List.getElem?_drop];congr 1;simp;omega
  cases h;cases h
theorem Q4b{cells cells' cs:List C}{off sz len ix off2:Nat}{vc:List Prop}(h:storeArr cells off sz len ix off2 cs=some (cells',vc))(hv:All vc) :
 (cs≠[]->off+(ix * sz+off2)+cs.length<=cells.length)/\cells'.length=cells.length/\(cells.map (C.den ε)).take (off+(ix * sz+off2))++cs.map (C.den ε)++(cells.map (C.den ε)).drop (off+(ix * sz+off2)+cs.length)=cells'.map (C.den ε):=by
  have key:∀{cells':List C} {vc:List Prop},(setCut cells (off+(ix * sz+off2)) cs).map (·,([]:List Prop))=some (cells',vc) -> (cs≠[]->off+(ix * sz+off2)+cs.length<=cells.length)/\cells'.length=cells.length/\(cells.map (C.den ε)).take (off+(ix * sz+off2))++cs.map (C.den ε)++(cells.map (C.den ε)).drop (off+(ix * sz+off2)+cs.length)=cells'.map (C.den ε):=λh=>by obtain⟨r,hr,he⟩:=map_nil h;cases he;exact⟨λhne=>(Q22 hr).resolve_left hne,Q3c hr,Q3e hr⟩
  unfold storeArr at h;split at h;rename_i x h1 h2;have e1:=jf h1;have e2:=jf h2;split at h;rename_i r hr;cases h;subst e1 e2;have hix:ix<len:=hv.one;obtain⟨s1,s2⟩:=Qf4 (ε:=ε) hr hix;simp only[Nat.mul_one,Nat.add_zero,jW,List.map_nil,kj,List.length_nil,ko];refine⟨λ_=>by omega,?_,s2⟩;have:=congrArg jV s2;simp at this;omega;exact key h;exact key h
end
section
variable {P:Program} {ε:Env} {w:World} {w0:Base} {st:St} {a:Act} {M L:Nat->Prop}
theorem Qhl(hs:SatE w0 st ε a w){t sz r ty size n ix off:Nat}{f:Nat->Nat->TC}{x:SV}{cs:List C}{vs:List Value}{rg:List Reg}(hr:nth st.rg r=some (.own ty size n f none))(hsz:tySize P t=some sz)
 (hx:x.cells st=some cs) (hl:cs.length=sz) (hroom:off+sz<=size) (hvs:vals cs=some vs) (hix:ix<n) (hrg:setAt st.rg r (.own ty size n (updT f ix off vs) none)=some rg) :
 ∃w',(storeVar t ((haddr (ε.at_ r)).add (ix * size+off)) (x.den ε)).run P w=.ok () w'/\SatE w0 { st with rg } ε a w':=by
  obtain⟨hx1,hx2⟩:=Gt hs.regs hx;rw[Q1q (ε:=ε) hvs] at hx1 hx2;have hvl:vs.length=sz:=by rw[<- Q1q (ε:=ε) hvs];simpa using hl
  obtain⟨_,hrg'⟩:=Y1 hrg;obtain⟨ho,_⟩:=Qf hs hr;have hfp:∀b,bk (ε.at_ r)=some b->ε.fp r b:=by obtain⟨_,_,_,_,h4,_⟩:=ho;exact λb hb=>(h4 b hb).1
  obtain⟨w',g,hg,hrun,e1,e2,e3,e4,e5,hown⟩:=Qan (P:=P) ho hix hsz hx1 hvl hx2 (λ_=>hroom);refine⟨w',hrun,hs.upd (new:=.own ty size n (updT f ix off vs) none) (Qd hr) rfl (hfp g hg) e1 e2 e3 e4 e5 ⟨hown _ (λi j fp' u hi hj hn hf hu=>?_) (λj u hu=>?_),trivial⟩ hrg'⟩;simp only[okO,updT] at hu⊢;rw[if_neg (by rw[hvl];exact hn)];grind[OwnC.world];have hj:=(List.getElem?_eq_some_iff.1 hu).1;simp only[okO,updT];rw[if_pos ⟨trivial,by omega,by omega⟩];simp only[OwnC,jc];rw[show off+j-off=j by omega,hu];rfl
theorem Qao(hs:SatE w0 st ε a w){t sz r ty size n k off:Nat}{f:Nat->Nat->TC}{x:SV}{cells cells' cs:List C}{rg:List Reg}(hr:nth st.rg r=some (.own ty size n f (some (k,cells))))(hsz:tySize P t=some sz)
 (hx:x.cells st=some cs) (hl:cs.length=sz) (hroom:cs≠[]->off+cs.length<=cells.length) (hlen:cells'.length=cells.length)
 (hden:(cells.map (C.den ε)).take off++cs.map (C.den ε)++(cells.map (C.den ε)).drop (off+cs.length)=cells'.map (C.den ε)) (hrg:setAt st.rg r (.own ty size n f (some (k,cells')))=some rg) :
 ∃w',(storeVar t ((haddr (ε.at_ r)).add (k * size+off)) (x.den ε)).run P w=.ok () w'/\SatE w0 { st with rg } ε a w':=by
  obtain⟨hx1,hx2⟩:=Gt hs.regs hx;obtain⟨_,hrg'⟩:=Y1 hrg;obtain⟨ho,hk,hcl⟩:=Qf hs hr;have hfp:∀b,bk (ε.at_ r)=some b->ε.fp r b:=by obtain⟨_,_,_,_,h4,_⟩:=ho;exact λb hb=>(h4 b hb).1
  obtain⟨w',g,hg,hrun,e1,e2,e3,e4,e5,hown⟩:=Qan (P:=P) (off:=off) ho hk hsz hx1 (by simpa using hl) hx2 (λhne=>by have:=hroom (by intro h;apply hne;simp[h]);omega);have hget:∀j,(cells'.map (C.den ε))[j]?=if off<=j/\j<off+sz then(cs.map (C.den ε))[j-off]? else(cells.map (C.den ε))[j]?:=λj=>by grind
  refine⟨w',hrun,hs.upd (new:=.own ty size n f (some (k,cells'))) (Qd hr) rfl (hfp g hg) e1 e2 e3 e4 e5 ⟨hown _ (λi j fp' u hi hj hn hf hu=>?_) (λj u hu=>?_),hk,hlen.trans hcl⟩ hrg'⟩;simp only[okO] at hu⊢;refine⟨λhik=>OwnC.world (f i j) (λb hb _=>e5 b (hf b hb).2) (hu.1 hik),λhik=>?_⟩;obtain⟨y,hy,he⟩:=hu.2 hik;have:=hget j;grind;have hj:j<cs.length:=by grind
  simp only[okO];refine⟨λh=>absurd rfl h,λ_=>?_⟩;have:=hget (off+j);grind
theorem Qf5(hs:SatE w0 st ε a w){t:Nat}{c:C}{x:SV}{st':St}{vc:List Prop}(h:storeC P st t c x=some (st',vc))(hv:All vc) :
 ∃w',(Instr.storeAt t (c.den ε) (x.den ε)).run P w=.ok () w'/\SatE w0 st' ε a w':=by
  have key:∀(A:Addr) {w'},(storeVar t A (x.den ε)).run P w=.ok () w'->(Instr.storeAt t (.pointer (some A)) (x.den ε)).run P w=.ok () w':=λA w' h=>by grind[Instr.storeAt,Instr.sureAddr,jp,jz,jk]
  unfold storeC at h;split at h;rename_i cs sz hx hsz;split at h;rename_i hb;have hl:=jf hb;split at h;rename_i r off;split at h;rename_i ty cells hr;split at h;rename_i cells' hc;obtain⟨rg,h1,h2⟩:=map_nil h;cases h2;obtain⟨w',e1,e2⟩:=Qam hs hr hsz hx hl hc (λhne=>(Q22 hc).resolve_left hne) (Q3e hc) h1;exact⟨w',key _ e1,e2⟩;cases h;cases h;rename_i r es ix off;split at h;rename_i ty size n f hr;split at h;rename_i hse;simp only[jg] at hse;have:=jf hse.1;subst this;split at h;rename_i vs hvs;obtain⟨rg,h1,h2⟩:=map_nil h;cases h2;obtain⟨w',e1,e2⟩:=Qhl hs hr hsz hx hl (jx hse.2) hvs hv.one h1;exact⟨w',key _ e1,e2⟩;cases h;cases h;rename_i ty size n f k cells hr;split at h;rename_i hse;have:=jf hse;subst this;split at h;rename_i cells' hc;obtain⟨rg,h1,h2⟩:=map_nil h;cases h2;have hk:=hv.one;subst hk;obtain⟨w',e1,e2⟩:=Qao hs hr hsz hx hl (λhne=>(Q22 hc).resolve_left hne) (Q3c hc) (Q3e hc) h1;exact⟨w',key _ e1,e2⟩;cases h;cases h;cases h;rename_i r sz0 ix0 off sz2 len ix off2;split at h;rename_i ty cells hr;split at h;rename_i h0;have:=jf h0;subst this;split at h;rename_i cells' vc' hc;obtain⟨rg,h1,h2⟩:=map_nil h;cases h2;obtain⟨s1,s2,s3⟩:=Q4b (ε:=ε) hc hv;obtain⟨w',e1,e2⟩:=Qam (off':=0) (cs':=cells') (off:=off+(ix * sz2+off2)) hs hr hsz hx hl (cells':=cells') (by(have:∀(l l':List C) (p:List C),l.length=l'.length->setCut (p++l) p.length l'=some (p++l'):=by intro l l';induction l' generalizing l with|nil=>intro p hl;simp[kw hl,setCut]|cons y r ih =>intro p hl;cases l with|nil=>cases hl|cons z l =>(have hset:setAt (p++z::l) p.length y=some (p++y::l):=by clear ih hl;induction p with|nil=>rfl|cons q p ihp=>simp[setAt,ihp]);simp only[setCut,hset];have:=ih l (p++[y]) (by simpa using hl);simpa using this);exact this cells cells' [] s2.symm) s1 s3 h1;simp_all[C.den,Nat.mul_zero,ko];cases h;cases h;rename_i ty size n f k cells hr;split at h;rename_i hse;have:=jf hse;subst this;split at h;rename_i cells' vc' hc;obtain⟨rg,h1,h2⟩:=map_nil h;cases h2;have hk:=hv.right.one;subst hk;obtain⟨s1,s2,s3⟩:=Q4b (ε:=ε) hc hv.left;obtain⟨w',e1,e2⟩:=Qao (off:=off+(ix * sz2+off2)) hs hr hsz hx hl s1 s2 s3 h1;exact⟨w',key _ e1,e2⟩;cases h;cases h;cases h;cases h;cases h;cases h
end
section
variable {P:Program} {ε:Env} {w:World} {w0:Base} {st:St} {a:Act} {M L:Nat->Prop}
theorem Q6b(base:Nat)(t ty e:TypeId)(i:TypeInfo)(size:Nat)(ht:P.underlying t=some (.slice e))(hi:P.info? e=some i)
 (v:Value) (n:Nat) (xs:List Value) (hown:w.ownsRow base e size v n xs) (c:Nat):(Builtin.append_ #[t,t] ty #[v,.slice none 0 c]).run P w=.ok v w:=by
  rcases hown.2 with⟨rfl,rfl⟩|⟨g,cap,cur,rfl,_,_,hnc,_⟩;simp[Builtin.append_,run_underlying ht,sizeOf,typeInfo,hi,Builtin.lenOf,Builtin.firstCells];simp[Builtin.append_,run_underlying ht,sizeOf,typeInfo,hi,Builtin.lenOf,Builtin.firstCells,hnc,storeCells]
theorem Q9c(base:Nat)(t ty e:TypeId)(i:TypeInfo)(z:Value)(size bytes:Nat)(ht:P.underlying t=some (.slice e))(hi:P.info? e=some i)(hz:i.zero=some z)
 (hsize:i.size=size) (hby:i.bytes=bytes) (hzs:z.cells.size=size) (hsz:0<size)
 (v:Value) (n:Nat) (xs:List Value) (hown:w.ownsRow base e size v n xs)
 (A:Option Addr) (m c:Nat) (news:List Value) (hl:news.length=m * size) (hA:A=none->m=0) (hr:∀ad,A=some ad->∀j u,news[j]?=some u->w.cell? (ad.add j)=some u) (h1:∀u∈news,u.oneCell'=true)
 (h63:n+m<=maxLen) (hbytes:(n+m) * bytes<=140737488355328) (hbase:base<=w.heap.size) :
 ∃v' w',(Builtin.append_ #[t,t] ty #[v,.slice A m c]).run P w=.ok v' w'/\w'.ownsRow base e size v' (n+m) (xs++news)/\w.grownBy w' v.ownBlock /\
  (v'.ownBlock=v.ownBlock\/v'.ownBlock=some w.heap.size):=by
   rcases A with _|ad;have hm:m=0:=hA rfl;subst hm;have hn:news=[]:=kw (by simpa using hl);subst hn;exact⟨v,w,Q6b base t ty e i size ht hi v n xs hown c,by simpa using hown,World.grownBy.refl w _,.inl rfl⟩;obtain⟨v',w',hrun,h2,h3,_,h5⟩:=run_append_own_at (P:=P) w base t ty e i z size bytes ht hi hz hsize hby hzs hsz v n xs hown ad m c news hl (hr ad rfl) h1 h63 hbytes hbase;exact⟨v',w',hrun,h2,h3,h5⟩
theorem Q78(base:Nat)(t tn ty e:TypeId)(i:TypeInfo)(z:Value)(size bytes:Nat)(k kn:IntKind)(ht:P.underlying t=some (.slice e))(htn:P.underlying tn=some (.int kn))(hi:P.info? e=some i)
 (hz:i.zero=some z) (hsize:i.size=size) (hby:i.bytes=bytes) (hzs:z.cells.size=size) (hsz:0<size) (v:Value) (n:Nat) (xs:List Value) (hown:w.ownsRow base e size v n xs)
 (m:Nat) (h1:∀u∈(Builtin.zeroCells z.cells m).toList,u.oneCell'=true) (h63:n+m<=maxLen) (hbytes:(n+m) * bytes<=140737488355328) (hbase:base<=w.heap.size) :
 ∃v' w',(Builtin.append_ #[t,tn] ty #[v,.int k m]).run P w=.ok v' w'/\w'.ownsRow base e size v' (n+m) (xs++(Builtin.zeroCells z.cells m).toList)/\w.grownBy w' v.ownBlock /\
  (v'.ownBlock=v.ownBlock\/v'.ownBlock=some w.heap.size):=by
   subst hsize;subst hby;have hsmall:n+m<=9223372036854775807:=by simp only[maxLen] at h63;omega
   have hl:(Builtin.zeroCells z.cells m).toList.length=m * i.size:=by rw[Array.length_toList,size_zeroCells,hzs]
   have hlen:(xs++(Builtin.zeroCells z.cells m).toList).length=(n+m) * i.size:=by rw[jm,hown.1,hl,Nat.add_mul]
   have hw:IntKind.i64.wrap (m:Int)=m:=by rw[IntKind.wrap_i64];omega
   have hneg:¬((m:Int)<0):=by omega
   have hm48:m * i.bytes<=281474976710656:=kf (kB _ (Nat.le_add_left m n)) W48;have h48i:¬(281474976710656<(m:Int) * (i.bytes:Int)):=by rw[<- Int.natCast_mul];omega
   have grown:∀(old:Nat),old<n+m->∀(row:Option Nat),(w.drew.alloc (.cells (xs.toArray++Builtin.zeroCells z.cells m++Builtin.zeroCells z.cells (grownCap w (n+m) old e-(n+m))) e)).ownsRow base e i.size (.slice (some ⟨w.heap.size,0,none⟩) (n+m) (grownCap w (n+m) old e)) (n+m) (xs++(Builtin.zeroCells z.cells m).toList) /\ w.grownBy (w.drew.alloc (.cells (xs.toArray++Builtin.zeroCells z.cells m++Builtin.zeroCells z.cells (grownCap w (n+m) old e-(n+m))) e)) row:=by intro old ho row;have hge:=grownCap_ge w (n+m) old e;have hcm:grownCap w (n+m) old e<=maxLen:=grownCap_le_maxLen w (n+m) old e h63;refine⟨⟨hlen,.inr ⟨w.heap.size,_,_,rfl,hbase,heap_alloc_new w.drew _,hge,hcm,?_,?_⟩⟩,⟨rfl,rfl,rfl,by simp,λk hk _=>heap_alloc_old w.drew _ hk⟩⟩;simp only[Array.size_append,List.size_toArray,size_zeroCells,hzs,hown.1,<- Nat.add_mul];congr 1;omega;grind
   rcases hown.2 with⟨rfl,rfl⟩|⟨g,cap,cur,rfl,hbg,hg,hnc,hcm,hcs,htake⟩;have hx:xs=[]:=kw (by simpa using hown.1);subst hx;by_cases hm:m=0;subst hm;refine⟨.slice none 0 0,w,?_,by grind,⟨rfl,rfl,rfl,jo _,λ_ _ _=>rfl⟩,.inl rfl⟩;have hw0:IntKind.i64.wrap 0=0:=rfl;simp[Builtin.append_,run_underlying ht,run_underlying htn,sizeOf,typeInfo,hi,asInt,asIntOf,hw0,Builtin.firstCells,loadCells,loadCellsFrom];have hr:=Lib.run_append_nil_zeros (P:=P) w t tn ty e i z k kn ht htn hi hz m W48 W48 W48 hm48;have hgr:=grown 0 W48 (Value.ownBlock (.slice none 0 0));simp only[ko,List.nil_append,Array.empty_append] at hgr⊢;exact⟨_,_,hr,hgr.1,hgr.2,.inr rfl⟩;by_cases hroom:n+m<=cap;have hfit:n * i.size+(Builtin.zeroCells z.cells m).toList.length<=cur.size:=by rw[hl,hcs,<- Nat.add_mul];exact kB _ hroom
   have hst:=run_storeCells_at P g (n * i.size) e (Builtin.zeroCells z.cells m).toList 0 cur w hg (by simpa using hfit) h1;simp only[Nat.add_zero] at hst;have hr:(Builtin.append_ #[t,tn] ty #[.slice (some ⟨g,0,none⟩) n cap,.int k m]).run P w = .ok (.slice (some ⟨g,0,none⟩) (n+m) cap) (w.setRow g (cur.toList.take (n * i.size)++(Builtin.zeroCells z.cells m).toList++cur.toList.drop (n * i.size+(Builtin.zeroCells z.cells m).toList.length)).toArray):=by by_cases hm:m * i.size=0;(have hz0:Builtin.zeroCells z.cells m=#[]:=by grind);rw[hz0] at hst⊢;simp[Builtin.append_,run_underlying ht,run_underlying htn,sizeOf,typeInfo,hi,asInt,asIntOf,hw,hneg,h48i,hm,hroom,Addr.add_lit] at hst⊢;rw[hst];rfl;simp[Builtin.append_,run_underlying ht,run_underlying htn,sizeOf,typeInfo,zeroValue,hi,hz,asInt,asIntOf,hw,hneg,h48i,hm,hroom,Addr.add_lit];simp_all
   refine⟨_,_,hr,⟨hlen,.inr ⟨g,cap,_,rfl,hbg,setRow_heap w g cur _ e _ hg,hroom,hcm,?_,?_⟩⟩,⟨rfl,rfl,rfl,by simp,λk _ hk=>setRow_other w g k _ (λe=>hk (by simp[Value.ownBlock,e]))⟩,.inl rfl⟩;grind;rw[htake,<- hlen];exact List.take_left;have hold:=run_firstCells_some (P:=P) w.drew i.size n ⟨g,0,none⟩ n cap xs hown.1 (λj u h=>(hown.cells (g:=g) rfl) j u h);have hr:=Lib.run_append_grow_zeros (P:=P) w t tn ty e i z k kn ht htn hi hz (some ⟨g,0,none⟩) n cap xs hold m W48 hsz W48 W48 hm48 (growslice_fits W48 hbytes);have hgr:=grown cap W48 (Value.ownBlock (.slice (some ⟨g,0,none⟩) n cap));exact⟨_,_,hr,hgr.1,hgr.2,.inr rfl⟩
theorem Qcp{els:List (List Value)}{size:Nat}(hel:∀el∈els,el.length=size){j:Nat}{u:Value}(h:els.flatten[j]?=some u)(hs:0<size) :
 ∃el,els[j / size]?=some el/\el[j % size]?=some u:=by
  induction els generalizing j with|nil=>simp at h|cons e r ih =>have he:=hel e (.head _);rw[List.flatten_cons] at h;by_cases hj:j<size;rw[jI W48] at h;exact⟨e,by rw[Nat.div_eq_of_lt hj];rfl,by rw[Nat.mod_eq_of_lt hj];exact h⟩;rw[jJ W48,he] at h;obtain⟨el,h1,h2⟩:=ih (λel hm=>hel el (.tail _ hm)) h;(have e1:j / size=(j-size) / size+1:=by(have:j=(j-size)+size:=by omega);(conv=>lhs;rw[this]);rw[Nat.add_div_right _ hs]);refine⟨el,by rw[e1];simpa using h1,?_⟩;(have e2:j % size=(j-size) % size:=by(have:j=(j-size)+size:=by omega);(conv=>lhs;rw[this]);rw[Nat.add_mod_right]);rw[e2];exact h2
def rows(m size:Nat)(g:Nat->Nat->Value):List (List Value):=(jv m).map λi=>(jv size).map λj=>g i j
theorem Jb(m size:Nat)(g:Nat->Nat->Value):(rows m size g).length=m/\∀el∈rows m size g,el.length=size:=by
 refine⟨by simp[rows],λel hel=>?_⟩;obtain⟨i,_,rfl⟩:=List.mem_map.1 hel;simp
theorem Gb{m size:Nat}{g:Nat->Nat->Value}{i j:Nat}(hi:i<m)(hj:j<size):getV (rows m size g) i j=some (g i j):=by
 simp[getV,rows,hi,hj]
theorem Qlo{m size:Nat}{g:Nat->Nat->Value}{el:List Value}(hel:el∈rows m size g){u:Value}(hu:u∈el):∃i j,i<m/\j<size/\u=g i j:=by
 obtain⟨i,hi,rfl⟩:=List.mem_map.1 hel;grind
def valOf:TC->Value
 |.val x=>x
 |_=>undef
def News.vals(ε:Env)(size:Nat):News->List (List Value)
 |.flat m f=>rows m size λi j=>valOf (f i j)
 |.one cs=>[cs.map (C.den ε)]
def News.ok(ε:Env):News->Nat->Nat->Value->Prop
 |.flat _ f=>λi j u=>f i j=.val u
 |.one cs=>λ_ j u=>∃x,cs[j]?=some x/\u=x.den ε
theorem Qhm(hs:SatE w0 st ε a w){size:Nat}{x:C}{news:News}{vc:List Prop}(h:newsOf st size x=some (news,vc))(hv:All vc)(hs0:0<size) :
 ∃A c,x.den ε=.slice A news.len c/\(news.vals ε size).length=news.len/\(∀el∈news.vals ε size,el.length=size)/\(∀el∈news.vals ε size,∀u∈el,u.oneCell'=true)/\(A=none->news.len=0) /\
  (∀ad,A=some ad->∀j u,(news.vals ε size).flatten[j]?=some u->w.cell? (ad.add j)=some u)/\(∀i j,i<news.len->j<size->∃u,getV (news.vals ε size) i j=some u/\news.ok ε i j u):=by
   have flat:∀{r m:Nat} {f:Nat->Nat->TC} {y:Reg},nth st.rg r=some y->((∃foc,y=.row size m f foc)\/∃ty,y=.own ty size m f none)->(∃A c,ε.at_ r=.slice A m c/\m<=c/\(0<m->∃ad,A=some ad))->(∀i j,i<m->j<size->flatT (f i j)) -> ∃A c,ε.at_ r=.slice A (News.flat m f).len c/\((News.flat m f).vals ε size).length=(News.flat m f).len/\(∀el∈(News.flat m f).vals ε size,el.length=size)/\(∀el∈(News.flat m f).vals ε size,∀u∈el,u.oneCell'=true)/\(A=none->(News.flat m f).len=0) /\ (∀ad,A=some ad->∀j u,((News.flat m f).vals ε size).flatten[j]?=some u->w.cell? (ad.add j)=some u)/\(∀i j,i<(News.flat m f).len->j<size->∃u,getV ((News.flat m f).vals ε size) i j=some u/\(News.flat m f).ok ε i j u):=by intro r m f y hr hy ⟨A,c,he,_,hA⟩ hfl;obtain⟨l1,l2⟩:=Jb m size λi j=>valOf (f i j);refine⟨A,c,he,l1,l2,λel hel u hu=>?_,λhn=>?_,λad had j u hu=>?_,λi j hi hj=>?_⟩;obtain⟨i,j,hi,hj,rfl⟩:=Qlo hel hu;obtain⟨x,hx,h1⟩:=hfl i j hi hj;rw[hx];exact h1;rcases Nat.eq_zero_or_pos m with h|h;exact h;grind;obtain⟨el,h1,h2⟩:=Qcp l2 hu hs0;(have hj1:j / size<m:=by grind);have hj2:j % size<size:=Nat.mod_lt _ hs0;(have hg:getV (rows m size λi j=>valOf (f i j)) (j / size) (j % size)=some u:=by unfold getV;rw[h1];exact h2);have hg2:=Gb (g:=λi j=>valOf (f i j)) hj1 hj2;rw[hg2] at hg;cases hg;obtain⟨x,hx,h1⟩:=hfl _ _ hj1 hj2;have:=Qfo hs hr hy hj1 hj2 (c:=toC x) (by rw[hx];rfl);rw[Q93,he,had] at this;(have e1:j / size * size+j % size=j:=by rw[Nat.mul_comm];exact Nat.div_add_mod j size);rw[e1] at this;rw[show haddr (.slice (some ad) m c)=ad from rfl] at this;rw[this,hx];rfl;obtain⟨x,hx,h1⟩:=hfl i j hi hj;have hg2:=Gb (g:=λi j=>valOf (f i j)) (m:=m) (size:=size) hi hj;rw[hx] at hg2;exact⟨x,hg2,hx⟩
   unfold newsOf at h;split at h;rename_i r;split at h;rename_i ty sz m f hr;split at h;rename_i hb;have:=jf hb;subst this;cases h;exact flat hr (.inr ⟨_,rfl⟩) (Zl (Qf hs hr).1) hv.one;cases h;rename_i sz m f hr;split at h;rename_i hb;have:=jf hb;subst this;cases h;exact flat hr (.inl ⟨_,rfl⟩) (Jv (Qf hs hr).1) hv.one;cases h;rename_i ty sz m f k cs hr;split at h;rename_i hb;cases h;simp only[jg] at hb;obtain⟨⟨⟨b1,b2⟩,b3⟩,b4⟩:=hb;have e1:=jf b1;have e2:=jf b2;have e3:=jf b3;subst e1 e2 e3;obtain⟨A,c,he,_,hA⟩:=Zl (Qf hs hr).1;obtain⟨_,_,hcl⟩:=Qf hs hr;have hfoc:=Q77 hs hr (.inr ⟨_,rfl⟩);refine⟨A,c,he,rfl,λel hel=>?_,λel hel u hu=>?_,λhn=>?_,λad had j u hu=>?_,λi j hi hj=>?_⟩;cases List.mem_singleton.1 hel;simpa using hcl;cases List.mem_singleton.1 hel;obtain⟨c,hc,rfl⟩:=List.mem_map.1 hu;exact Gp hs.regs (List.all_eq_true.1 b4 c hc);grind;have hu:(cs.map (C.den ε))[j]?=some u:=by simpa[News.vals] using hu
   rw[jy] at hu;cases hc:cs[j]? with|none=>rw[hc] at hu;cases hu|some y =>rw[hc] at hu;cases hu;have:=hfoc j y hc;rw[show ε.at_ r=_ from he,had] at this;simpa[haddr] using this
   have hi0:i=0:=by simp only[News.len] at hi;omega
   subst hi0;have hlt:j<cs.length:=by omega
   refine⟨(cs[j]).den ε,?_,cs[j],jh hlt,rfl⟩;simp[getV,News.vals,jh hlt];cases h;cases h;cases h
theorem RegsOk.kill{rg:List Reg}(hs:RegsOk ε M L w rg)(r:Nat):RegsOk ε M L w (rg.set r .dead):=by
 have old_of:∀(k:Nat) (rk:Reg),(rg.set r .dead)[k]?=some rk->rk=.dead\/rg[k]?=some rk:=λk rk hk=>by grind
 refine⟨by simp[hs.len],λi ri hi=>?_,λi ri hi hl b hb=>?_,λi ri hi he b hb=>?_,λi j ri rj hij hi hj he hl b hb1 hb2=>?_⟩;rcases old_of i ri hi with rfl|h;trivial;exact hs.reg i ri h;rcases old_of i ri hi with rfl|h;cases hl;exact hs.lt i ri h hl b hb;rcases old_of i ri hi with rfl|h;cases he;exact hs.lim i ri h he b hb;rcases old_of i ri hi with rfl|h1;cases he;rcases old_of j rj hj with rfl|h2;cases hl;exact hs.sep i j ri rj hij h1 h2 he hl b hb1 hb2
theorem Q0y{h:Value}{B e size n:Nat}{xs:List Value}(ho:w.ownsRow B e size h n xs):bk h=h.ownBlock:=by
 obtain⟨_,⟨rfl,_⟩|⟨g,cap,cur,rfl,_⟩⟩:=ho<;>rfl
theorem Q6u{e sz by_:Nat}{z:Value}(h1:tySize P e=some sz)(h2:tyBytes P e=some by_)(h3:tyZero P e=some z):∃i,P.info? e=some i/\i.size=sz/\i.bytes=by_/\i.zero=some z:=by
 grind[Q6q,tyBytes,tyZero]
theorem St.scoped_kill{st:St}(h:st.scp=true)(r:Nat):St.scp { st with rg:=st.rg.set r .dead }=true:=by
 obtain⟨h1,h2⟩:=Ql h;unfold St.scp;simp only[jg,jq];refine⟨List.all_eq_true.2 h1,List.all_eq_true.2 λx hx=>?_⟩;rcases List.mem_or_eq_of_mem_set hx with h|h;exact List.all_eq_true.1 h2 x h;rw[h];rfl
theorem Qj0{els news:List (List Value)}{i j n:Nat}(hn:els.length=n)(hi:i<n):getV (els++news) i j=getV els i j:=by
 unfold getV;rw[jI W48]
theorem Qhn{els news:List (List Value)}{i j n:Nat}(hn:els.length=n)(hi:n<=i):getV (els++news) i j=getV news (i-n) j:=by
 unfold getV;rw[jJ W48,hn]
theorem OwnRow.appended{w':World}{fp fp2:Nat->Prop}{ty size n m:Nat}{h v':Value}{ok:Nat->Nat->(Nat->Prop)->Value->Prop}{els news:List (List Value)}{fps:Nat->Nat->Nat->Prop}
 (hn:els.length=n) (hel:∀el∈els,el.length=size) (hm:news.length=m) (hel2:∀el∈news,el.length=size)
 (h5:∀i j,i<n->j<size->∃u,getV els i j=some u/\ok i j (fps i j) u) (h6:∀i j b,i<n->j<size->fps i j b->fp2 b/\bk v'≠some b)
 (h7:∀i j i' j' b,i<n->j<size->i'<n->j'<size->fps i j b->fps i' j' b->i=i'/\j=j')
 (hown:w'.ownsRow 0 ty size v' (n+m) (els.flatten++news.flatten)) (hv:∀b,bk v'=some b->fp2 b/\M b) {ok':Nat->Nat->(Nat->Prop)->Value->Prop}
 (hold:∀i j u,i<n->j<size->ok i j (fps i j) u->ok' i j (fps i j) u) (hnew:∀i j,i<m->j<size->∃u,getV news i j=some u/\ok' (n+i) j (λ_=>False) u) :
 OwnRow w' M fp2 ty size (n+m) v' ok':=by
  refine⟨els++news,by rw[List.flatten_append];exact hown,by simp[hn,hm],λel he=>?_,hv,λi j b=>i<n/\fps i j b,λi j hi hj=>?_,λi j b hi hj hb=>h6 i j b hb.1 hj hb.2,λi j i' j' b hi hj hi' hj' hb hb'=>h7 i j i' j' b hb.1 hj hb'.1 hj' hb.2 hb'.2⟩;grind;by_cases hin:i<n;obtain⟨u,hu,hok⟩:=h5 i j hin hj;refine⟨u,by rw[Qj0 hn hin];exact hu,?_⟩;have e:(λb=>i<n/\fps i j b)=fps i j:=by funext b;simp[hin]
  grind;obtain⟨u,hu,hok⟩:=hnew (i-n) j W48 hj;refine⟨u,by rw[Qhn hn W48];exact hu,?_⟩;grind
theorem Qho{size:Nat}{x:C}{cs:List C}{vc:List Prop}(h:newsOf st size x=some (.one cs,vc)):∃r ty m f k,nth st.rg r=some (.own ty size m f (some (k,cs))):=by
 unfold newsOf at h;split at h;rename_i r;split at h;split at h;cases h;cases h;split at h;cases h;cases h;rename_i ty sz m f k cs' hr;split at h;rename_i hb;simp only[jg] at hb;grind[jf];cases h;cases h;cases h
theorem Qhp{z:Array Value}(m:Nat)(hz:0<z.size):(rows m z.size λ_ j=>valOf (valT z.toList j)).flatten=(Builtin.zeroCells z m).toList:=by
 obtain⟨l1,l2⟩:=Jb m z.size λ_ j=>valOf (valT z.toList j);have hlen:(rows m z.size λ_ j=>valOf (valT z.toList j)).flatten.length=m * z.size:=by rw[Ja l2,l1]
 refine ku (by rw[hlen,Array.length_toList,size_zeroCells]) λk h1 h2=>?_;have hk:k<m * z.size:=by omega
 obtain⟨el,h3,h4⟩:=Qcp l2 (jh h1) hz;have hd:k / z.size<m:=Nat.div_lt_of_lt_mul (by rw[Nat.mul_comm];exact hk);have hm:=Nat.mod_lt k hz;have hg:=Gb (g:=λ_ j=>valOf (valT z.toList j)) hd hm;rw[show getV (rows m z.size λ_ j=>valOf (valT z.toList j)) (k / z.size) (k % z.size)=some _ by unfold getV;rw[h3];exact h4] at hg;grind[Option.some.inj,valT,Q2f,valOf,Builtin.zeroCells]
theorem Qj1{t t' size:Nat}{z:List Value}{x:C}{cs:List C}{vc:List Prop}(h:newsA P st t t' size z x=some (.one cs,vc)):∃r ty m f k,nth st.rg r=some (.own ty size m f (some (k,cs))):=by
 unfold newsA at h;split at h;exact Qho h;unfold newsZ at h;split at h;split at h<;>cases h;cases h
theorem Q6v(hs:SatE w0 st ε a w){t t' e sz by_:Nat}(ty:Nat){i:TypeInfo}{z:Value}{x:C}{news:News}{vc:List Prop}(ht:P.underlying t=some (.slice e))(hi:P.info? e=some i)(hz:i.zero=some z)
 (h1:i.size=sz+1) (h2:i.bytes=by_) (hzs:z.cells.size=sz+1) (h:newsA P st t t' (sz+1) z.cells.toList x=some (news,vc)) (hv:All vc) :
 (news.vals ε (sz+1)).length=news.len/\(∀el∈news.vals ε (sz+1),el.length=sz+1)/\(∀i j,i<news.len->j<sz+1->∃u,getV (news.vals ε (sz+1)) i j=some u/\news.ok ε i j u) /\
 ∀(v:Value) (n:Nat) (xs:List Value),w.ownsRow 0 e (sz+1) v n xs->n+news.len<=maxLen->(n+news.len) * by_<=140737488355328 ->
  ∃v' w',(Builtin.append_ #[t,t'] ty #[v,x.den ε]).run P w=.ok v' w'/\w'.ownsRow 0 e (sz+1) v' (n+news.len) (xs++(news.vals ε (sz+1)).flatten)/\w.grownBy w' v.ownBlock /\
   (v'.ownBlock=v.ownBlock\/v'.ownBlock=some w.heap.size):=by
    unfold newsA at h;split at h;rename_i htt;have:=jf htt;subst this;obtain⟨A,c,hx,hm,hel2,hone,hA,hcells,hnok⟩:=Qhm hs h hv W48;refine⟨hm,hel2,hnok,λv n xs hown hm1 hm2=>?_⟩;rw[hx];exact Q9c (P:=P) (w:=w) 0 t ty e i z (sz+1) by_ ht hi hz h1 h2 hzs W48 v n xs hown A news.len c (news.vals ε (sz+1)).flatten (by rw[Ja hel2,hm]) hA hcells (λu hu=>by obtain⟨el,h3,h4⟩:=List.mem_flatten.1 hu;exact hone el h3 u h4) hm1 hm2 (jE _);unfold newsZ at h;split at h;rename_i k m;split at h;rename_i hb;simp only[jg] at hb;cases h;have hm0:0<=m:=hv.one;have hkn:∃kn,P.underlying t'=some (.int kn):=by grind[isIntT]
    obtain⟨kn,htn⟩:=hkn;obtain⟨l1,l2⟩:=Jb m.toNat (sz+1) λ_ j=>valOf (valT z.cells.toList j);have hfl:((News.flat m.toNat λ_ j=>valT z.cells.toList j).vals ε (sz+1)).flatten=(Builtin.zeroCells z.cells m.toNat).toList:=by have:=Qhp (z:=z.cells) m.toNat W48;rw[hzs] at this;exact this
    refine⟨l1,l2,λi j hi hj=>?_,λv n xs hown hm1 hm2=>?_⟩;have hg:=Gb (g:=λ_ j=>valOf (valT z.cells.toList j)) (m:=m.toNat) (size:=sz+1) hi hj;have hj':j<z.cells.size:=by omega
    have e1:valT z.cells.toList j=.val (z.cells.toList[j]'(by simpa using hj')):=by simp[valT,Q2f,hj']
    exact⟨_,hg,by simp only[News.ok,e1,valOf]⟩;rw[hfl];have hden:(C.i k m).den ε=.int k (m.toNat:Nat):=by simp only[C.den];rw[jS hm0]
    rw[hden];exact Q78 (P:=P) (w:=w) 0 t t' ty e i z (sz+1) by_ k kn ht htn hi hz h1 h2 hzs W48 v n xs hown m.toNat (λu hu=>by obtain⟨j,hj,rfl⟩:=List.getElem_of_mem hu;grind[size_zeroCells,Nat.mod_lt,Builtin.zeroCells]) hm1 hm2 (jE _);cases h;cases h
theorem Qcq(hs:SatE w0 st ε a w){t t' ty:Nat}{s x:C}{st':St}{sv:SV}{vc:List Prop}(h:appendC P st t t' s x=some (st',sv,vc))(hv:All vc) :
 ∃v w' ε',(Builtin.append_ #[t,t'] ty #[s.den ε,x.den ε]).run P w=.ok v w'/\SatE w0 st' ε' a w'/\v=sv.den ε':=by
  unfold appendC at h;split at h;rename_i e hsl;have ht:=Yk hsl;split at h;rename_i sz by_ z hsz hby hz;split at h;rename_i news nvc hnews;obtain⟨i,hi,hi1,hi2,hi3⟩:=Q6u hsz hby hz;split at h;rename_i hb;simp only[jg] at hb;have hzs:=jf hb.1;have hsc:=(Ql hb.2).2;have hcsc:∀cs,news=.one cs->cs.all (C.scp st.rg.length)=true:=λcs hcs=>by subst hcs;obtain⟨r,ty',m,f,k,hr⟩:=Qj1 hnews;exact List.all_eq_true.1 hsc _ (jB (Qd hr))
  split at h;rename_i r;split at h;rename_i ty' size n f hr;split at h;rename_i hb2;simp only[jg,jC] at hb2;have hty:=jf hb2.1.1;have hsize:=jf hb2.1.2;subst hty hsize;obtain⟨rg,h1,h2⟩:=map_nil h;cases h2;obtain⟨hrl,rfl⟩:=Y1 h1;obtain⟨hm,hel2,hnok,hrunA⟩:=Q6v hs ty ht hi hi3 hi1 hi2 hzs hnews hv.left;obtain⟨⟨els,hown0,hn,hel,h4,fps,h5,h6,h7⟩,_⟩:=Qf hs hr;have hown0:w.ownsRow 0 ty' (sz+1) (ε.at_ r) n els.flatten:=hown0;have h4:∀b,bk (ε.at_ r)=some b->ε.fp r b/\w0.M b:=h4;have h6:∀i j b,i<n->j<sz+1->fps i j b->ε.fp r b/\bk (ε.at_ r)≠some b:=h6;have hm1:=hv.right.head;have hm2:=hv.right.tail.one;obtain⟨v',w',hrun,hown,hgrow,hblk⟩:=hrunA (ε.at_ r) n els.flatten hown0 hm1 hm2;have hbkv:∀b,bk v'=some b->ε.fp r b\/b=w.heap.size:=λb hb=>by rw[Q0y hown] at hb;rcases hblk with h3|h3;grind[Q0y];rw[h3] at hb;cases hb;exact .inr rfl
  have hlt0:=λb hb=>hs.regs.lt r _ (Qd hr) rfl b hb;have hltv:∀b,bk v'=some b->b<w'.heap.size:=λb hb=>Q1p hown hb;have hnest:∀i j b,i<n->j<sz+1->fps i j b->w'.heap[b]?=w.heap[b]?:=λi j b hi hj hb=>by obtain⟨k1,k2⟩:=h6 i j b hi hj hb;refine hgrow.block b (hlt0 b k1).1 (λe=>?_);grind[Q0y]
  have hregs:RegsOk (ε++[⟨v',λb=>ε.fp r b\/bk v'=some b⟩]) w0.M w0.L w' (st.rg.set r .dead++[news.reg ty' (sz+1) n f]):=by refine(hs.regs.kill r).add hgrow.size (λk rk b hk hl hbk=>?_) (Ql (St.scoped_kill hb.2 r)).2 ?_ (λ_ b hb=>?_) (λ_ b hb=>?_) (λb hbk hlv k rk hk hl _ hbk'=>?_);(have hkr:r≠k:=λe=>by subst e;rw[kp hrl] at hk;cases hk;cases hl);rw[j6 hkr] at hk;refine hgrow.block b (hs.regs.lt k rk hk hl b hbk).1 (λe=>?_);rw[<- Q0y hown0] at e;exact hs.regs.sep r k _ rk hkr (Qd hr) hk rfl hl b (h4 b e.symm).1 hbk;have hbase:∀(ok':Nat->Nat->(Nat->Prop)->Value->Prop),(∀i j u,i<n->j<sz+1->okO ε w w0.M f none i j (fps i j) u->ok' i j (fps i j) u) -> (∀i j,i<news.len->j<sz+1->∃u,getV (news.vals ε (sz+1)) i j=some u/\ok' (n+i) j (λ_=>False) u)->OwnRow w' w0.M (λb=>ε.fp r b\/bk v'=some b) ty' (sz+1) (n+news.len) v' ok':=λok' k1 k2 => OwnRow.appended (fp:=ε.fp r) (h:=ε.at_ r) hn hel hm hel2 h5 (λi j b hi hj hb=>⟨.inl (h6 i j b hi hj hb).1,λe=>by grind[Q0y]⟩) h7 hown (λb hb=>⟨.inr hb,by rcases hbkv b hb with h|h;exact hs.regs.lim r _ (Qd hr) rfl b h;exact(Base.fresh_M hs W48).1⟩) k1 k2;(cases news with|flat m g =>refine⟨hbase _ (λi j u hi hj hu=>?_) (λi j hi hj=>?_),trivial⟩;simp only[okO,hi,if_true] at hu⊢;grind[OwnC.world];obtain⟨u,k1,k2⟩:=hnok i j hi hj;refine⟨u,k1,?_⟩;simp only[News.ok] at k2;(have e1:¬(n+i<n):=by omega);(have e2:n+i-n=i:=by omega);simp only[okO,e1,if_false,e2,k2,OwnC]|one cs =>refine⟨hbase _ (λi j u hi hj hu=>?_) (λi j hi hj=>?_),(by show n<n+1;omega),?_⟩;grind[okO,OwnC.world,absurd];obtain⟨u,k1,y,k2,k3⟩:=hnok i j hi hj;refine⟨u,k1,?_⟩;(have hi0:i=0:=by simp only[News.len] at hi;omega);subst hi0;exact⟨λe=>absurd rfl e,λ_=>⟨y,k2,by rw[k3,Q9b (List.all_eq_true.1 (hcsc cs rfl) y (jB k2)) hs.regs.len]⟩⟩;have:=hel2 _ (.head _);simpa using this);rcases hb with hb|hb;have:=hlt0 b hb;exact⟨jN this.1 hgrow.size,this.2⟩;grind[Base.fresh_M];rcases hb with hb|hb;exact hs.regs.lim r _ (Qd hr) rfl b hb;rcases hbkv b hb with h|h;exact hs.regs.lim r _ (Qd hr) rfl b h;exact(Base.fresh_M hs W48).1;(have hkr:r≠k:=λe=>by subst e;rw[kp hrl] at hk;cases hk;cases hl);rw[j6 hkr] at hk;(have hfr:ε.fp r b\/b=w.heap.size:=by grind);rcases hfr with h|h;exact hs.regs.sep r k _ rk hkr (Qd hr) hk rfl hl b h hbk';have:=(hs.regs.lt k rk hk hl b hbk').1;omega
  refine⟨v',w',ε++[⟨v',λb=>ε.fp r b\/bk v'=some b⟩],hrun,⟨hs.defs,hs.size,λen hen=>(hs.fr en hen).same ((Ql hb.2).1 en hen) (λr hr=>Q2l (by rw[hs.regs.len];exact hr) _),hregs,?_,Qiz hs.pre _⟩,?_⟩;refine hs.below.step hgrow.os hgrow.tape hgrow.output hgrow.size (λk hk hm=>hgrow.block k (jN hk hs.below.size) (λe=>?_));rw[<- Q0y hown0] at e;rcases(h4 k e.symm).2 with h|h;omega;exact hm h;simp only[SV.den,C.den];rw[<- hs.regs.len,Z5];cases h;cases h;rename_i hns;split at h;rename_i hnil;cases h;have hsd:s.den ε=.slice none 0 0:=by unfold isNil at hnil;split at hnil;rfl;cases hnil
  obtain⟨hm,hel2,hnok,hrunA⟩:=Q6v hs ty ht hi hi3 hi1 hi2 hzs hnews hv.left;have hm1:=hv.right.head;have hm2:=hv.right.tail.one;obtain⟨v',w',hrun,hown,hgrow,hblk⟩:=hrunA (.slice none 0 0) 0 [] (World.ownsRow_nil w _ _ _) W48 (by simpa using hm2);have hbkv:∀b,bk v'=some b->b=w.heap.size:=λb hb=>by rw[Q0y hown] at hb;rcases hblk with h3|h3;rw[h3] at hb;cases hb;rw[h3] at hb;cases hb;rfl
  have hltv:∀b,bk v'=some b->b<w'.heap.size:=λb hb=>Q1p hown hb;refine⟨v',w',ε++[⟨v',λb=>bk v'=some b⟩],by rw[hsd];exact hrun,?_,?_⟩;refine hs.add hb.2 (hs.below.step hgrow.os hgrow.tape hgrow.output hgrow.size (λk hk hm=>hgrow.block k (jN hk hs.below.size) (λe=>by cases e))) hgrow.size (λk rk b hk hl hbk=>hgrow.block b (hs.regs.lt k rk hk hl b hbk).1 (λe=>by cases e)) ?_ (λ_ b hb=>⟨hltv b hb,(Base.fresh_M hs (by have:=hbkv b hb;omega)).2⟩) (λ_ b hb=>(Base.fresh_M hs (by have:=hbkv b hb;omega)).1) (λb hbk _ k rk hk hl _ hbk'=>?_);have hbase:∀(ok':Nat->Nat->(Nat->Prop)->Value->Prop),(∀i j,i<news.len->j<sz+1->∃u,getV (news.vals ε (sz+1)) i j=some u/\ok' (0+i) j (λ_=>False) u)->OwnRow w' w0.M (λb=>bk v'=some b) e (sz+1) (0+news.len) v' ok':=λok' k2 => OwnRow.appended (fp:=λ_=>False) (h:=.slice none 0 0) (els:=[]) (n:=0) (fps:=λ_ _ _=>False) (ok:=λ_ _ _ _=>True) rfl (λ_ h=>by cases h) hm hel2 (λi j hi=>absurd hi W48) (λi j b hi=>absurd hi W48) (λi j i' j' b hi=>absurd hi W48) (by simpa using hown) (λb hb=>⟨hb,(Base.fresh_M hs (by have:=hbkv b hb;omega)).1⟩) (λi j u hi=>absurd hi W48) k2;cases news with|flat m g =>have:=hbase (okO (ε++[⟨v',λb=>bk v'=some b⟩]) w' w0.M g none) (λi j hi hj=>by obtain⟨u,k1,k2⟩:=hnok i j hi hj;simp_all[News.ok,okO,ko,OwnC]);rw[ko] at this;exact⟨this,trivial⟩|one cs =>refine⟨hbase _ (λi j hi hj=>?_),(by show 0<1;omega),?_⟩;obtain⟨u,k1,y,k2,k3⟩:=hnok i j hi hj;refine⟨u,k1,?_⟩;(have hi0:i=0:=by simp only[News.len] at hi;omega);subst hi0;exact⟨λe=>absurd rfl e,λ_=>⟨y,k2,by rw[k3,Q9b (List.all_eq_true.1 (hcsc cs rfl) y (jB k2)) hs.regs.len]⟩⟩;have:=hel2 _ (.head _);simpa using this
  have:=hbkv b hbk;have:=(hs.regs.lt k rk hk hl b hbk').1;omega;simp only[SV.den,C.den];rw[<- hs.regs.len,Z5];cases h;cases h;cases h;cases h;cases h
theorem Qfp{ty size n:Nat}{els:List (List Value)}{f:Nat->Nat->TC}{foc:Option (Nat×List C)}{st':St}{sv:SV}(hs:SatE w0 st ε a w)(h:own st ty size n f foc=some (st',sv)){cur:Array Value}{cap:Nat}
 (hcap:n<=cap) (hcm:cap<=maxLen) (hcs:cur.size=cap * size) (hcur:cur.toList.take (n * size)=els.flatten) (hn:els.length=n) (hel:∀el∈els,el.length=size) (hfoc:focOk size n foc)
 (hok:∀(w':World) (x:Ent),(focScoped st.rg.length foc=true)->∀i j,i<n->j<size->∃u,getV els i j=some u/\okO (ε++[x]) w' w0.M f foc i j (λ_=>False) u) :
 SatE w0 st' (ε++[⟨.slice (some ⟨w.heap.size,0,none⟩) n cap,λb=>b=w.heap.size⟩]) a (w.alloc (.cells cur ty))/\sv.den (ε++[⟨.slice (some ⟨w.heap.size,0,none⟩) n cap,λb=>b=w.heap.size⟩])=.slice (some ⟨w.heap.size,0,none⟩) n cap:=by
  unfold own at h;split at h;rename_i hsc;simp only[jg] at hsc;cases h;refine⟨hs.fresh hsc.1 _ (λb hb=>hb) ⟨⟨els,⟨by rw[Ja hel,hn],.inr ⟨_,cap,cur,rfl,jE _,heap_alloc_new w _,hcap,hcm,hcs,hcur⟩⟩,hn,hel,λb hb=>?_,λ_ _ _=>False,hok _ _ hsc.2,λi j b _ _ hb=>hb.elim,λi j i' j' b _ _ _ _ hb=>hb.elim⟩,hfoc⟩,?_⟩;cases hb;exact⟨rfl,(Base.fresh_M hs (jo _)).1⟩;simp only[SV.den,C.den];rw[<- hs.regs.len,Z5];cases h
theorem Qj2{z:List C}{n:Nat}(hz:0<z.length):(zeros z n).map (C.den ε)=(madeCells (z.map (C.den ε)).toArray n).toList:=by
 unfold zeros madeCells;apply kD;intro j;simp only[jy,kK,Array.toList_range,Option.map_map];cases h:(jv n)[j]? with|none=>rfl|some i =>simp_all[Nat.mod_lt,jX,Function.comp,Qq,jh,Option.getD_some,List.size_toArray]
theorem Gc{x:Nat}:∀{l:List Nat},x∈l->hasN x l=true
 |y::r,h=>by
  simp only[hasN,jQ];cases h with|head=>exact .inl (Nat.beq_refl _)|tail _ h=>exact .inr (Gc h)
theorem Q4w{l:List Nat}(h:noDup l=true){i j x:Nat}(hij:i≠j)(h1:l[i]?=some x)(h2:l[j]?=some x):False:=by
 induction l generalizing i j with|nil=>simp at h1|cons y r ih =>simp only[noDup,jg,jC] at h;cases i with|zero=>(cases j with|zero=>exact hij rfl|succ j =>grind[jH,Option.some.injEq,Gc,jB])|succ i=>cases j with|zero =>grind[jH,Option.some.injEq,Gc,jB]|succ j=>grind
theorem Q3f{rs:List Nat}:∀{i:Nat} {l:List Reg},(killAt rs i l).length=l.length
 |_,[]=>rfl
 |i,r::l=>by
  simp[killAt,Q3f]
theorem killAt_spec{rs:List Nat}:∀{l:List Reg} {i q:Nat} {x:Reg},(killAt rs i l)[q]?=some x->x=.dead\/(i+q ∉ rs/\l[q]?=some x)
 |[],_,q,x,h=>by simp[killAt] at h
 |r::l,i,0,x,h=>by grind[killAt,jH,Option.some.injEq,Gc]
 |r::l,i,q+1,x,h=>by
  have:=killAt_spec (l:=l) (i:=i+1) (q:=q) (x:=x) (by simpa[killAt] using h);grind
theorem Qlp{c:C}{v:Value}(h:c.val=some v):c.den ε=v:=by
 have:=Q1q (ε:=ε) (cs:=[c]) (vs:=[v]) (by simp[vals,h]);simpa using this
theorem Qap{c:C}{x:TC×List Nat}(h:cellT st c=some x)(hc:∀r,c≠.h r):∃v,c.val=some v/\x=(.val v,[]):=by
 unfold cellT at h;grind
theorem Q6w:∀{cs:List C} {ts:List TC} {rs:List Nat},cellTs st cs=some (ts,rs)->ts.length=cs.length /\
 (∀(k:Nat) (c:C),cs[k]?=some c->∃x:TC×List Nat,cellT st c=some x/\ts[k]?=some x.1/\(∀r∈x.2,r∈rs))/\(∀r∈rs,∃k:Nat,cs[k]?=some (.h r)) /\
 (noDup rs=true->∀(k k' r:Nat),cs[k]?=some (.h r)->cs[k']?=some (.h r)->k=k')
 |[],ts,rs,h=>by cases h;grind
 |c::l,ts,rs,h=>by
  simp only[cellTs] at h;split at h;rename_i x y hx hy;cases h;obtain⟨yt,yr⟩:=y;obtain⟨h1,h2,h3,h4⟩:=Q6w hy;have hxr:∀r,c=.h r->x.2=[r]:=λr e=>by subst e;unfold cellT at hx;grind
  have hxn:∀r∈x.2,c=.h r:=λr hr=>by cases c with|h q =>grind|_ =>grind[Qap]
  refine⟨by simp[h1],λk d hk=>?_,λr hr=>?_,λhnd k k' r hk hk'=>?_⟩;grind;rcases List.mem_append.1 hr with hr|hr;exact⟨0,by rw[hxn r hr];rfl⟩;obtain⟨k,hk⟩:=h3 r hr;exact⟨k+1,by simpa using hk⟩;have hin:∀(q:Nat),l[q]?=some (C.h r)->r∈yr:=λq hq=>by grind[cellT]
  have hnd2:noDup yr=true/\(∀r,c=.h r->r ∉ yr):=by cases hc:x.2 with|nil =>grind|cons q t =>have e:=hxn q (by rw[hc];exact .head _);rw[hxr q e] at hnd;simp only[List.cons_append,List.nil_append,noDup,jg,jC] at hnd;grind[Gc]
  grind;cases h
theorem Qaq{len size:Nat}{vs:List Value}(hs0:0<size)(hvl:vs.length=len * size):(rows len size λi j=>vs.getD (i * size+j) undef).flatten=vs:=by
 obtain⟨l1,l2⟩:=Jb len size λi j=>vs.getD (i * size+j) undef;apply kD;intro j;by_cases hj:j<len * size;have hm:j % size<size:=Nat.mod_lt _ hs0;have hd:j / size<len:=by rw[Nat.div_lt_iff_lt_mul hs0];exact hj
 have e0:j / size * size+j % size=j:=by rw[Nat.mul_comm];exact Nat.div_add_mod j size
 have hg:=Gb (m:=len) (size:=size) (g:=λi j=>vs.getD (i * size+j) undef) hd hm;unfold getV at hg;cases he:(rows len size λi j=>vs.getD (i * size+j) undef)[j / size]? with|none=>rw[he] at hg;cases hg|some el =>rw[he] at hg;have:=Q96 _ _ el he l2 (j % size) _ hg hm;grind
 grind[kd,Ja]
theorem Qcr(hs:SatE w0 st ε a w){e size len:Nat}{cs:List C}{st':St}{sv:SV}(h:gatherC st e size len cs=some (st',sv))(hs0:0<size)(hlen:cs.length=len * size)(hmax:len<=maxLen) :
 ∃ε',SatE w0 st' ε' a (w.alloc (.cells (cs.map (C.den ε)).toArray e))/\sv.den ε'=.slice (some ⟨w.heap.size,0,none⟩) len len:=by
  unfold gatherC at h;split at h;rename_i ts rs hts;split at h;rename_i hb;simp only[jg] at hb;obtain⟨hnd,hscp⟩:=hb;cases h;obtain⟨c1,c2,c3,c4⟩:=Q6w hts;obtain⟨p1,p2⟩:=Ql hscp;have hin:∀r∈rs,∃ty n m f,st.rg[r]?=some (.own ty n m f none):=λr hr=>by grind[cellT,Qd]
  have hsk:SatE w0 { st with rg:=killAt rs 0 st.rg } ε a w:=by refine⟨hs.defs,hs.size,hs.fr,⟨by rw[Q3f];exact hs.regs.len,λi r hi=>?_,λi r hi hl=>?_,λi r hi he=>?_,λi j ri rj hij hi hj he hl=>?_⟩,hs.below,hs.pre⟩;rcases killAt_spec hi with rfl|⟨_,h2⟩;trivial;exact hs.regs.reg i r h2;rcases killAt_spec hi with rfl|⟨_,h2⟩;cases hl;exact hs.regs.lt i r h2 hl;rcases killAt_spec hi with rfl|⟨_,h2⟩;cases he;exact hs.regs.lim i r h2 he;rcases killAt_spec hi with rfl|⟨_,h2⟩;cases he;rcases killAt_spec hj with rfl|⟨_,h3⟩;cases hl;exact hs.regs.sep i j ri rj hij h2 h3 he hl
  have hsc':({ st with rg:=killAt rs 0 st.rg }:St).scp=true:=by unfold St.scp;simp only[jg,Q3f];refine⟨List.all_eq_true.2 p1,List.all_eq_true.2 λr hr=>?_⟩;obtain⟨q,hq⟩:=List.getElem?_of_mem hr;rcases killAt_spec hq with rfl|⟨_,h2⟩;rfl;exact List.all_eq_true.1 p2 r (jB h2)
  let F:Nat->Prop:=λb=>b=w.heap.size\/∃r∈rs,ε.fp r b;let X:Ent:=⟨.slice (some ⟨w.heap.size,0,none⟩) len len,F⟩;have hlt:∀r∈rs,∀b,ε.fp r b->(b<w.heap.size/\w0.L b)/\w0.M b:=λr hr b hb=>by obtain⟨ty,n,m,f,hq⟩:=hin r hr;exact⟨hs.regs.lt r _ hq rfl b hb,hs.regs.lim r _ hq rfl b hb⟩
  have hvl:(cs.map (C.den ε)).length=len * size:=by rw[jK];exact hlen
  obtain⟨l1,l2⟩:=Jb len size λi j=>(cs.map (C.den ε)).getD (i * size+j) undef;have hflat:=Qaq hs0 hvl;have hix:∀i j,i<len->j<size->i * size+j<cs.length:=λi j hi hj=>by rw[hlen];have:=kB size (Nat.succ_le_of_lt hi);rw[Nat.succ_mul] at this;omega
  refine⟨ε++[X],hsk.add (w':=w.alloc (.cells (cs.map (C.den ε)).toArray e)) hsc' (hs.below.step (w':=w.alloc _) rfl rfl rfl W207 (λk hk _=>Zf w _ (jN hk hs.below.size))) W207 (λi ri b hi hl hb=>Zf w _ (hsk.regs.lt i ri hi hl b hb).1) (x:=X) ⟨⟨rows len size λi j=>(cs.map (C.den ε)).getD (i * size+j) undef,⟨by rw[hflat,hvl],.inr ⟨_,len,_,rfl,jE _,heap_alloc_new w _,jo _,hmax,by simpa using hlen,by rw[hflat,<- hvl];exact List.take_length⟩⟩,l1,l2,λb hb=>?_,λi j b=>∃r,cs[i * size+j]?=some (.h r)/\ε.fp r b,λi j hi hj=>?_,λi j b hi hj hb=>?_,λi j i' j' b hi hj hi' hj' hb hb'=>?_⟩,trivial⟩ (λ_ b hb=>?_) (λ_ b hb=>?_) (λb hb _ i ri hi hl _ hb'=>?_),?_⟩;cases hb;exact⟨.inl rfl,(Base.fresh_M hs (jo _)).1⟩;have hk:=hix i j hi hj;have hc:cs[i * size+j]?=some cs[i * size+j]:=jh hk;refine⟨_,Gb hi hj,?_⟩;rw[jc,jy,hc];show OwnC _ w0.M (rowTC size ts i j) (λb=>∃r,cs[i * size+j]?=some (.h r)/\ε.fp r b) ((cs[i * size+j]).den ε);obtain⟨x,x1,x2,_⟩:=c2 _ _ hc;have hrow:rowTC size ts i j=x.1:=by unfold rowTC;rw[show kv j size=true from by simp only[Nat.blt_eq];exact hj,Qq,x2]
  rw[hrow];generalize hcc:cs[i * size+j]=c at x1 hc;cases c with|h r =>unfold cellT at x1;simp only at x1;split at x1;rename_i ty n m f hq;cases x1;(have hfe:(λb=>∃q,cs[i * size+j]?=some (.h q)/\ε.fp q b)=ε.fp r:=by grind);rw[hfe];have hreg:=(Qf hs hq).1;have hown:OwnC w w0.M (.sub ty n m f) (ε.fp r) (ε.at_ r):=hreg;exact OwnC.world (w':=w.alloc _) _ (λb hb hlt=>Zf w _ hlt) hown;cases x1|_ =>obtain⟨v,hv,ex⟩:=Qap x1 (λr=>by intro e;cases e);rw[ex,Qlp hv];rfl
  obtain⟨r,hr,hb⟩:=hb;obtain⟨x,x1,_,x3⟩:=c2 _ _ hr;have hrs:r∈rs:=x3 r (by grind[cellT]);refine⟨.inr ⟨r,hrs,hb⟩,λhbk=>?_⟩;have hbk:some w.heap.size=some b:=hbk;grind;obtain⟨r,hr,hb⟩:=hb;obtain⟨r',hr',hb'⟩:=hb';have mem:∀(k r:Nat),cs[k]?=some (.h r)->r∈rs:=λk r hk=>by grind[cellT]
  obtain⟨ty,n,m,f,hq⟩:=hin r (mem _ _ hr);obtain⟨ty',n',m',f',hq'⟩:=hin r' (mem _ _ hr');have hrr:r=r':=by by_cases hne:r=r';exact hne;exact absurd hb' (hs.regs.sep r r' _ _ hne hq hq' rfl rfl b hb)
  subst hrr;have hkk:=c4 hnd _ _ r hr hr';have e1:(i * size+j) / size=i:=by rw[Nat.mul_comm,Nat.mul_add_div hs0,Nat.div_eq_of_lt hj];rfl
  have e2:(i' * size+j') / size=i':=by rw[Nat.mul_comm,Nat.mul_add_div hs0,Nat.div_eq_of_lt hj'];rfl
  grind;rcases hb with rfl|⟨r,hr,hb⟩;exact⟨by simp,(Base.fresh_M hs (jo _)).2⟩;have:=(hlt r hr b hb).1;exact⟨by simp;omega,this.2⟩;rcases hb with rfl|⟨r,hr,hb⟩;exact(Base.fresh_M hs (jo _)).1;exact(hlt r hr b hb).2;rcases killAt_spec hi with rfl|⟨hni,h2⟩;cases hl;rcases hb with rfl|⟨r,hr,hb⟩;exact absurd (hs.regs.lt i ri h2 hl _ hb').1 (Nat.lt_irrefl _);obtain⟨ty,n,m,f,hq⟩:=hin r hr;exact hs.regs.sep r i _ ri (λe=>hni (by rw[ko,<- e];exact hr)) hq h2 rfl hl b hb hb';simp only[SV.den,C.den];rw[<- hs.regs.len,Z5];cases h;cases h
theorem Q79(hs:SatE w0 st ε a w){t len:Nat}{ps:List (Nat×SV)}{st':St}{sv:SV}(h:buildSliceC P st t len ps=some (st',sv)) :
 ∃v w' ε',(Instr.buildSlice t len (ps.map λx=>(x.1,x.2.den ε)).toArray).run P w=.ok v w'/\SatE w0 st' ε' a w'/\v=sv.den ε':=by
  unfold buildSliceC at h;split at h;rename_i e hsl;have ht:=Yk hsl;split at h;rename_i sz z hsz hz;split at h;rename_i hb;simp only[jg] at hb;obtain⟨⟨hb1,hb2⟩,hone⟩:=hb;have hzl:=jf hb1;have hlim:=jx hb2;split at h;rename_i cs hfill;have h1:∀i c,(i,SV.c c)∈ps->(c.den ε).cells=#[c.den ε]:=λi c hm=>Q4p (Gp hs.regs (List.all_eq_true.1 hone _ hm));obtain⟨zv,hzv,hzc⟩:=J9 (ε:=ε) hz;have hfs:=Q23 (ε:=ε) hfill (λi=>some (i * (sz+1),sz+1)) (λi p hp=>by rw[Qq,jy] at hp;grind) h1;have hlen:cs.length=len * (sz+1):=by(have:∀{ps:List (Nat×SV)} {places:List (Nat×Nat)} {z cs:List C},fillC places z ps=some cs->cs.length=z.length:=by intro ps;induction ps with|nil=>grind[fillC,Option.some.injEq]|cons p r ih =>intro places z cs h;obtain⟨i,v⟩:=p;simp only[fillC] at h;grind[Q3c]);rw[this hfill];simp[zeros]
  have hmax:len<=maxLen:=by have h2:len<=len * (sz+1):=Nat.le_mul_of_pos_right len (Nat.succ_pos sz);simp only[maxLen];omega
  have key:(gatherC st e (sz+1) len cs=some (st',sv))\/∃els f foc,own st e (sz+1) len f foc=some (st',sv)/\els.flatten=cs.map (C.den ε)/\els.length=len/\(∀el∈els,el.length=sz+1)/\focOk (sz+1) len foc /\ ∀w' x,(focScoped st.rg.length foc=true)->∀i j,i<len->j<sz+1->∃u,getV els i j=some u/\okO (ε++[x]) w' w0.M f foc i j (λ_=>False) u:=by split at h;rename_i hl1;have hl1:=jf hl1;subst hl1;refine .inr ⟨[cs.map (C.den ε)],_,_,h,by simp,rfl,λel hel=>(by cases List.mem_singleton.1 hel;simp;omega),⟨by omega,by omega⟩,λw' x hfs i j hi hj=>?_⟩;(have hi0:i=0:=by omega);subst hi0;(have hlt:j<cs.length:=by omega);refine⟨(cs[j]).den ε,by simp[getV,jh hlt],λe=>absurd rfl e,λ_=>⟨cs[j],jh hlt,?_⟩⟩;rw[Q9b (List.all_eq_true.1 hfs _ (jT hlt)) hs.regs.len];split at h;rename_i vs hvs;have hvs':=Q1q (ε:=ε) hvs;(have hvl:vs.length=len * (sz+1):=by rw[<- hvs'];simpa using hlen);obtain⟨l1,l2⟩:=Jb len (sz+1) λi j=>vs.getD (i * (sz+1)+j) undef;refine .inr ⟨rows len (sz+1) λi j=>vs.getD (i * (sz+1)+j) undef,_,_,h,?_,l1,l2,trivial,λw' x _ i j hi hj=>⟨_,Gb hi hj,(by show OwnC w' w0.M (rowT (sz+1) vs i j) _ _;unfold rowT;rw[show kv j (sz+1)=true from by simp only[Nat.blt_eq];exact hj];rfl)⟩⟩;rw[hvs'];exact Qaq W48 hvl;exact .inl h
  have key2:∃ε',SatE w0 st' ε' a (w.alloc (.cells (cs.map (C.den ε)).toArray e))/\sv.den ε'=.slice (some ⟨w.heap.size,0,none⟩) len len:=by rcases key with hg|⟨els,f,foc,hown,hfl,hel1,hel2,hfoc,hok⟩;exact Qcr hs hg W48 hlen hmax;obtain⟨s1,s2⟩:=Qfp (els:=els) (cur:=(cs.map (C.den ε)).toArray) (cap:=len) hs hown (jo _) hmax (by simp[hlen]) (by rw[hfl,<- hlen];exact(by rw[show cs.length=(cs.map (C.den ε)).length by simp];exact List.take_length)) hel1 hel2 hfoc hok;exact⟨_,s1,s2⟩
  obtain⟨ε',s1,s2⟩:=key2;refine⟨_,_,_,?_,s1,s2.symm⟩;have hzz:((Array.range (len * (sz+1))).map λi=>zv.cells[i % zv.cells.size]!)=((zeros z (len * (sz+1))).map (C.den ε)).toArray:=by grind[Qj2,Array.ext',madeCells]
  have hcell:zv.cells.size=sz+1:=by rw[hzc];simpa using hzl
  simp only[Instr.buildSlice,jp,run_underlying ht,jk,Qu hsz];have hnl:¬len * (sz+1)>2 ^ 24:=by omega
  simp only[hnl,if_false];by_cases h0:len * (sz+1)=0;have hl0:len=0:=by grind
  subst hl0;have hz0:zeros z (0 * (sz+1))=[]:=by simp[zeros]
  rw[hz0] at hfs;simp only[h0,if_true,jz,jk,Array.range_zero',List.map_toArray,List.map_nil,Array.map_empty];simp_all[Instr.fill,some,C.den,newRow,jp,newObj,kJ];simp only[h0,if_false,jp,G7 hzv,jk,jz,hzz,hfs,newRow,newObj,kJ];rfl;cases h;cases h;cases h;cases h
theorem Qlq(n:Nat)(z:List Value):(jd n z).flatten.length=n * z.length:=by
 simp
theorem Qlr{z:List Value}{n c:Nat}(hz:0<z.length)(hnc:n<=c):((madeCells z.toArray (c * z.length)).toList).take (n * z.length)=(jd n z).flatten:=by
 apply kD;intro j;rw[List.getElem?_take];by_cases hj:j<n * z.length;rw[if_pos hj];have h1:∀(n:Nat) (j:Nat),j<n * z.length->(jd n z).flatten[j]?=z[j % z.length]?:=by intro n;induction n with|zero=>intro j hj;simp at hj|succ n ih =>intro j hj;rw[List.replicate_succ,List.flatten_cons];by_cases hlt:j<z.length;rw[jI hlt,Nat.mod_eq_of_lt hlt];grind[Nat.succ_mul,Nat.mod_eq_sub_mod,Nat.le_of_not_lt,jJ]
 rw[h1 n j hj];have hlt:j % z.length<z.length:=Nat.mod_lt _ hz;have hjc:j<c * z.length:=jN hj (kB _ hnc);simp_all[madeCells,kK,Array.toList_range,jy,kI,jX,List.size_toArray];simp_all[if_neg,kd,Qlq]
theorem Qhq(hs:SatE w0 st ε a w){t:Nat}{l c:Int}{k k':IntKind}{st':St}{sv:SV}{vc:List Prop}(h:makeC P st t l c=some (st',sv,vc))(hv:All vc) :
 ∃v w' ε',(Instr.makeSlice t (.int k l) (.int k' c)).run P w=.ok v w'/\SatE w0 st' ε' a w'/\v=sv.den ε':=by
  unfold makeC at h;split at h;rename_i e hsl;have ht:=Yk hsl;split at h;rename_i sz z by_ hsz hz hby;obtain⟨i,hi,hi1,hi2,hi3⟩:=Q6u hsz hby hz;split at h;rename_i hb;have hzs:=jf hb;obtain⟨⟨st1,sv1⟩,h1,h2⟩:=map_nil h;cases h2;have h0:=hv.head;have hlc:=hv.tail.head;have hbytes:=hv.tail.tail.head;have hc63:=hv.tail.tail.tail.one;have hml:(maxLen:Int)=9223372036854775807:=by simp[maxLen]
  have hrun:=run_make (P:=P) w t e i z ht hi hi3 k k' l c h0 hlc (by rw[hi2,Int.mul_comm];omega) W48;rw[hi1] at hrun;have hzl:z.cells.toList.length=sz+1:=by simpa using hzs
  obtain⟨s1,s2⟩:=Qfp (els:=jd l.toNat z.cells.toList) (cur:=madeCells z.cells (c.toNat * (sz+1))) (cap:=c.toNat) hs h1 W48 W48 (size_madeCells _ _) (by have:=Qlr (z:=z.cells.toList) (n:=l.toNat) (c:=c.toNat) W48 W48;rw[hzl] at this;simpa using this) W207 (λel hel=>by rw[(List.mem_replicate.1 hel).2];exact hzl) trivial (λw' x _ i j hi hj=>by refine⟨z.cells.toList.getD j undef,?_,(by show OwnC w' w0.M (valT z.cells.toList j) _ _;unfold valT;rw[Q2f,jh W48,jc,jh W48];rfl)⟩;unfold getV;grind);exact⟨_,_,_,hrun,s1,s2.symm⟩;cases h;cases h;cases h
end
section
variable {P:Program} {ε:Env} {w:World} {w0:Base} {st:St} {a:Act}
theorem Qj3{t:Nat}{r:Nat}{size m:Nat}{f:Nat->Nat->TC}{foc:Option (Nat×List C)}{n:Int}{nvc:List Prop}(h:lenOfC P st t (.h r)=some (n,nvc))(hr:nth st.rg r=some (.row size m f foc)):n=m:=by
 unfold lenOfC at h;split at h;simp only[hr] at h;cases h;rfl;split at h;rename_i s _ hs;cases hs;cases h
theorem Qar{t:Nat}{r:Nat}{ty size m:Nat}{f:Nat->Nat->TC}{foc:Option (Nat×List C)}{n:Int}{nvc:List Prop}(h:lenOfC P st t (.h r)=some (n,nvc))(hr:nth st.rg r=some (.own ty size m f foc)):n=m:=by
 unfold lenOfC at h;split at h;simp only[hr] at h;cases h;rfl;split at h;rename_i s _ hs;cases hs;cases h
theorem Qf6(hs:SatE w0 st ε a w){t:Nat}{c:C}{lo hi:Option Operand}{l h n:Int}{st':St}{sv:SV}{vc nvc:List Prop}(hn:lenOfC P st t c=some (n,nvc))(hl:boundOf st [] lo 0=some l)(hh:boundOf st [] hi n=some h)
 (he:sliceC P st t c l h=some (st',sv,vc)) (hv:All vc) :
 ∃v ε',(Instr.sliceAt t (c.den ε) (lo.map a.eval) (hi.map a.eval) (Option.map a.eval none)).run P w=.ok v w/\SatE w0 st' ε' a w/\v=sv.den ε':=by
  unfold sliceC at he;split at he;rename_i e r hsl;have ht:=Yk hsl;split at he;rename_i size m f foc sz hr hsz;split at he;rename_i hb;simp only[jg] at hb;have:=jf hb.1;subst this;cases he;have h0:0<=l:=hv.head;have h1:l<=h:=hv.tail.head;have h2:h<=m:=hv.tail.tail.one;obtain⟨⟨A,c,hA,hmc,hcm,hab,hc⟩,_⟩:=Qf hs hr;have hA:ε.at_ r=.slice A m c:=hA;have hbs:(Instr.sliceBounds true m c (lo.map a.eval) (hi.map a.eval) none).run P w=.ok (l.toNat,h.toNat,c) w:=by have hnm:n=m:=Qj3 hn hr;subst hnm;simp only[Instr.sliceBounds,Option.isSome_none,jY,if_false];rcases bound_sound hs (gHolds_nil a) hh with⟨rfl,rfl⟩|⟨o,k,rfl,hx⟩<;>rcases bound_sound hs (gHolds_nil a) hl with⟨rfl,rfl⟩|⟨o',k',rfl,hx'⟩;simp;simp_all[Qm];simp[hx,Qm (P:=P) (w:=w) (k:=k) (y:=c) (code:=.sliceAcap) (by omega:0<=h) W48];(have h3:l<=(h.toNat:Int):=by omega);simp[hx,hx',Qm (P:=P) (w:=w) (k:=k) (y:=c) (code:=.sliceAcap) (by omega:0<=h) W48,Qm (P:=P) (w:=w) (k:=k') (code:=.sliceB) h0 h3]
  let x:Value:=.slice (if c=l.toNat then A else A.map (·.add (l.toNat * size))) (h.toNat-l.toNat) (c-l.toNat);refine⟨x,ε++[⟨x,ε.fp r⟩],?_,hs.add hb.2 hs.below (jo _) (λ_ _ _ _ _ _=>rfl) ⟨?_,trivial⟩ (λ_ b hb=>hs.regs.lt r _ (Qd hr) rfl b hb) (λh=>by cases h) (λb hbx _ k rk hk hlv hex hbk'=>?_),?_⟩;simp only[Instr.sliceAt,Instr.slice,C.den,hA,jp,run_underlying ht,jk,hbs,Qu hsz,jz,Option.map_none];rfl;refine⟨_,_,rfl,by omega,by simp only[maxLen] at hcm⊢;omega,λad had hp0=>?_,λhpos=>?_⟩;by_cases hcl:c=l.toNat;rw[if_pos hcl] at had;exact hab ad had W48;rw[if_neg hcl] at had;cases A with|none=>cases had|some ad'=>cases had;rw[Jt];exact hab ad' rfl W48
  obtain⟨ad,rfl,hcell⟩:=hc W48;refine⟨ad.add (l.toNat * size),by rw[if_neg W48];rfl,λi j hi hj=>?_⟩;rw[Y5,show l.toNat * size+(i * size+j)=(l.toNat+i) * size+j by rw[Nat.add_mul];omega];obtain⟨u,h3,h4⟩:=hcell (l.toNat+i) j W48 hj;refine⟨u,h3,?_⟩;cases foc with|none=>exact h4|some kc=>exact h4.1
  rcases hex with h|h;cases h;by_cases hkr:k=r;subst hkr;rw[Qd hr] at hk;cases hk;cases h;exact hs.regs.sep k r rk _ hkr hk (Qd hr) h rfl b hbk' hbx;simp only[SV.den,C.den];rw[<- hs.regs.len,Z5];cases he;rename_i ty0 size m f sz hr hsz;split at he;rename_i hb;simp only[jg] at hb;have e1:=jf hb.1;have e2:=jf hb.2;subst e1 e2;cases he;have h0:0<=l:=hv.head;have h1:l<=h:=hv.tail.head;have h2:h<=m:=hv.tail.tail.head;have h3:l<m:=hv.tail.tail.tail.one;obtain⟨⟨els,hown0,_⟩,_⟩:=Qf hs hr;have hown0:w.ownsRow 0 ty0 1 (ε.at_ r) m els.flatten:=hown0;obtain⟨_,ho⟩:=hown0;rcases ho with⟨_,h00⟩|⟨gb,c,cur,hA,_,_,hnc,hcm,_,_⟩;omega;have hbs:(Instr.sliceBounds true m c (lo.map a.eval) (hi.map a.eval) none).run P w=.ok (l.toNat,h.toNat,c) w:=by have hnm:n=m:=Qar hn hr;subst hnm;simp only[Instr.sliceBounds,Option.isSome_none,jY,if_false];rcases bound_sound hs (gHolds_nil a) hh with⟨rfl,rfl⟩|⟨o,k,rfl,hx⟩<;>rcases bound_sound hs (gHolds_nil a) hl with⟨rfl,rfl⟩|⟨o',k',rfl,hx'⟩;simp;simp_all[Qm];simp[hx,Qm (P:=P) (w:=w) (k:=k) (y:=c) (code:=.sliceAcap) (by omega:0<=h) W48];(have h3:l<=(h.toNat:Int):=by omega);simp[hx,hx',Qm (P:=P) (w:=w) (k:=k) (y:=c) (code:=.sliceAcap) (by omega:0<=h) W48,Qm (P:=P) (w:=w) (k:=k') (code:=.sliceB) h0 h3]
  refine⟨_,ε,?_,hs,rfl⟩;simp only[Instr.sliceAt,Instr.slice,SV.den,C.den,hA,jp,run_underlying ht,jk,hbs,Qu hsz,jz,Option.map_none,pieceV,Nat.mul_one];rw[if_neg (show ¬c=l.toNat by omega)];split at he;split at he;rename_i hb;have e1:=jf hb;subst e1;cases he;have h1:0<=h:=hv.head;have h2:h<=m:=hv.tail.head;have h3:0<m:=hv.tail.tail.one;obtain⟨⟨els,hown0,_⟩,_⟩:=Qf hs hr;have hown0:w.ownsRow 0 ty0 size (ε.at_ r) m els.flatten:=hown0;obtain⟨_,ho⟩:=hown0;rcases ho with⟨_,h00⟩|⟨gb,c,cur,hA,_,_,hnc,hcm,_,_⟩;omega;obtain⟨l,hl0⟩:∃l:Int,l=Int.ofNat 0:=⟨_,rfl⟩;rw[<- hl0] at hl;have h0:0<=l:=by rw[hl0];exact jl _
  have h1':l<=h:=by rw[hl0];exact h1
  have hbs:(Instr.sliceBounds true m c (lo.map a.eval) (hi.map a.eval) none).run P w=.ok (l.toNat,h.toNat,c) w:=by have hnm:n=m:=Qar hn hr;subst hnm;simp only[Instr.sliceBounds,Option.isSome_none,jY,if_false];rcases bound_sound hs (gHolds_nil a) hh with⟨rfl,rfl⟩|⟨o,k,rfl,hx⟩<;>rcases bound_sound hs (gHolds_nil a) hl with⟨rfl,rfl⟩|⟨o',k',rfl,hx'⟩;simp;simp_all[Qm];simp[hx,Qm (P:=P) (w:=w) (k:=k) (y:=c) (code:=.sliceAcap) (by omega:0<=h) W48];(have h3:l<=(h.toNat:Int):=by omega);simp[hx,hx',Qm (P:=P) (w:=w) (k:=k) (y:=c) (code:=.sliceAcap) (by omega:0<=h) W48,Qm (P:=P) (w:=w) (k:=k') (code:=.sliceB) h0 h3]
  have hl1:l.toNat=0:=by rw[hl0];rfl
  rw[hl1] at hbs;refine⟨_,ε,?_,hs,rfl⟩;simp only[Instr.sliceAt,Instr.slice,SV.den,C.den,hA,jp,run_underlying ht,jk,hbs,Qu hsz,jz,Option.map_none,pieceV];rw[if_neg (show ¬c=0 by omega),Nat.zero_mul];cases he;cases he;cases he;cases he
theorem Q5u{w:World}{M fp:Nat->Prop}{ty sz:Nat}{ok:Nat->Nat->(Nat->Prop)->Value->Prop}:OwnRow w M fp ty sz 0 (.slice none 0 0) ok:=
 ⟨[],World.ownsRow_nil w _ _ _,rfl,(λ_ h=>by cases h),(λb h=>by cases h),λ_ _ _=>False,λi j hi=>absurd hi W48,λi j b hi=>absurd hi W48,λi j i' j' b hi=>absurd hi W48⟩
theorem Q82{K:List CK}(a:KA K)(c:C)(r:List (KA K×C))(q:KA K):entOf ((a,c)::r) q=if q=a then some c else entOf r q:=by
 show(match decide (q=a) with|true=>some c|false=>entOf r q)=_;by_cases e:q=a<;>simp[e]
theorem Qc1(hs:SatE w0 st ε a w){t:Nat}{st':St}{sv:SV}{vc:List Prop}(h:makeMapC P st t=some (st',sv,vc))(hv:All vc) :
 ∃v w' ε',(Instr.makeMap t none).run P w=.ok v w'/\SatE w0 st' ε' a w'/\v=sv.den ε':=by
  unfold makeMapC at h;split at h;rename_i T hT;split at h;rename_i hsc;cases h;have hok:T.Ok:=hv.tail.one;refine⟨.map (some w.heap.size),w.alloc (.map #[] 0),ε++[⟨.map (some w.heap.size),λb=>b=w.heap.size⟩],?_,hs.fresh (x:=⟨.map (some w.heap.size),λb=>b=w.heap.size⟩) (r:=.mp T 0 (λ_=>false) (λ_=>KA.zero T.V) none) hsc (.map #[] 0) (λb hb=>hb) (MapAt.made (fp:=λb=>b=w.heap.size) hok (Base.fresh_M hs (jo _)).1 rfl),?_⟩;simp only[Instr.makeMap,newObj,jp,kJ,jk];rfl;simp only[SV.den,C.den];rw[<- hs.regs.len,Z5];cases h;split at h;rename_i T hT;split at h;rename_i hsc;split at h;rename_i e he;split at h;rename_i sz hsz;cases h;have hok:T.OkV (.slice none 0 0):=hv.tail.one;refine⟨.map (some w.heap.size),w.alloc (.map #[] 0),ε++[⟨.map (some w.heap.size),λb=>b=w.heap.size⟩],?_,hs.fresh (x:=⟨.map (some w.heap.size),λb=>b=w.heap.size⟩) (r:=.mpr T e sz 0 (λ_=>(0,λ_ _=>.any)) none) hsc (.map #[] 0) (λb hb=>hb) ⟨_,_,λb=>b=w.heap.size,λ_ _=>False,MapV.made (fp:=λb=>b=w.heap.size) hok (Base.fresh_M hs (jo _)).1 rfl,λb hb=>hb,λa b hb=>hb.elim,λa a' b hb=>hb.elim,λa _=>Q5u,λa q st e=>by cases e⟩,?_⟩;simp only[Instr.makeMap,newObj,jp,kJ,jk];rfl;simp only[SV.den,C.den];rw[<- hs.regs.len,Z5];cases h;split at h;split at h;rename_i x hx;cases h;have hok:T.OkV x:=hv.tail.one;refine⟨.map (some w.heap.size),w.alloc (.map #[] 0),ε++[⟨.map (some w.heap.size),λb=>b=w.heap.size⟩],?_,hs.fresh (x:=⟨.map (some w.heap.size),λb=>b=w.heap.size⟩) (r:=.mpv T x 0 []) hsc (.map #[] 0) (λb hb=>hb) (MapV.made (fp:=λb=>b=w.heap.size) hok (Base.fresh_M hs (jo _)).1 rfl),?_⟩;simp only[Instr.makeMap,newObj,jp,kJ,jk];rfl;simp only[SV.den,C.den];rw[<- hs.regs.len,Z5];cases h;cases h;cases h;cases h
theorem Q1r(hs:SatE w0 st ε a w){t:Nat}{m:C}{x v:SV}{st':St}{vc:List Prop}(h:mapUpdateC P st t m x v=some (st',vc))(hv:All vc) :
 ∃w',(Instr.mapUpdate t (m.den ε) (x.den ε) (v.den ε)).run P w=.ok () w'/\SatE w0 st' ε a w':=by
  unfold mapUpdateC at h;split at h;rename_i r;split at h;rename_i T n has f it hr;split at h;rename_i q y hT hx hy;obtain⟨rg,h1,h2⟩:=map_nil h;cases h2;obtain⟨hrl,rfl⟩:=Y1 h1;have hP:T.P=P:=hv.right.head;have hn:n<maxLen:=hv.right.tail.one;have ht:=jf hT;obtain⟨b,w',he,hrun,hgr,hM,hf,hm⟩:=MapAt.update (Qf hs hr) (KA.vc_wf _ _ hv.left) y hn;refine⟨w',?_,hs.updG (new:=.mp T (n+1) (λp=>decide (p=q)||has p) (λp=>if p=q then y else f p) none) (Qd hr) rfl hf hgr.size hgr.os hgr.tape hgr.output (λk hk hne=>hgr.block k hk (λe=>hne (Option.some.inj e))) hm rfl⟩;rw[hP,ht] at hrun;rw[Yx hx,Yx hy];exact hrun;cases h;rename_i T z n ents hr;split at h;rename_i q c hT hx;split at h;rename_i h1c;obtain⟨rg,h1,h2⟩:=map_nil h;cases h2;obtain⟨hrl,rfl⟩:=Y1 h1;have hP:T.P=P:=hv.right.head;have hn:n<maxLen:=hv.right.tail.one;have ht:=jf hT;obtain⟨b,w',he,hrun,hgr,hM,hf,hm⟩:=MapV.update (Qf hs hr) (KA.vc_wf _ _ hv.left) (c.den ε) hn;have e1:(λp=>decide (p=q)||(entOf ents p).isSome)=λp=>(entOf ((q,c)::ents) p).isSome:=by funext p;rw[Q82];by_cases e:p=q<;>simp[e]
  have e2:(λp=>if p=q then c.den ε else entV ε z ents p)=entV ε z ((q,c)::ents):=by funext p;grind[entV,Q82]
  rw[e1,e2] at hm;refine⟨w',?_,hs.updG (new:=.mpv T z (n+1) ((q,c)::ents)) (Qd hr) rfl hf hgr.size hgr.os hgr.tape hgr.output (λk hk hne=>hgr.block k hk (λe=>hne (Option.some.inj e))) hm rfl⟩;rw[hP,ht] at hrun;rw[Yx hx];exact hrun;cases h;cases h;rename_i T ty size n f a' q' st' hr;split at h;rename_i q q2 hT hx;split at h;rename_i h1c;obtain⟨rg,h1,h2⟩:=map_nil h;cases h2;obtain⟨hrl,rfl⟩:=Y1 h1;have hP:T.P=P:=hv.right.head;have hn:n<maxLen:=hv.right.tail.head;have ha:a'=q:=hv.right.tail.tail.one;subst ha;have ht:=jf hT;obtain⟨has,hd,fb,fps,g1,g2,g3,g4,g5,g6⟩:=Qf hs hr;obtain⟨b,w',he,hrun,hgr,hM,hf,hm⟩:=MapV.update g1 (KA.vc_wf _ _ hv.left) (C.den ε (.h q2)) hn;refine⟨w',?_,hs.updG (new:=.mpr T ty size (n+1) f (some (a',q2,none))) (Qd hr) rfl (g2 b hf) hgr.size hgr.os hgr.tape hgr.output (λk hk hne=>hgr.block k hk (λe=>hne (Option.some.inj e))) ⟨_,_,fb,fps,hm,g2,g3,g4,λa ha=>?_,λa q3 st3 e=>?_⟩ rfl⟩;rw[hP,ht] at hrun;rw[Yx hx];exact hrun;have hne:a≠a':=λe=>ha (by rw[e];rfl);simp only[if_neg hne];exact OwnRow.map (w':=w') (g5 a (λe=>ha (by simpa using e))) (λc hc hlt=>hgr.block c hlt (λe=>(g3 a c hc).2 W305)) (λi j fp' u _ _ hf' hu=>OwnC.world ((f a).2 i j) (λc hc hlt=>hgr.block c hlt (λe=>(g3 a c (hf' c hc)).2 W305)) hu);cases e;exact⟨if_pos rfl,(g6 _ _ _ rfl).2.1,λs hs=>by cases hs⟩;cases h;cases h;cases h;cases h
theorem Q7a(hs:SatE w0 st ε a w){t:Nat}{m s:C}{v:SV}{st':St}{vc:List Prop}(h:entryStoreC P st t m s v=some (st',vc))(hv:All vc) :
 ∃w',(Instr.entryStore t (m.den ε) (s.den ε) (v.den ε)).run P w=.ok () w'/\SatE w0 st' ε a w':=by
  unfold entryStoreC at h;split at h;rename_i r;split at h;rename_i T ty size n f a' q' s0 hr;split at h;rename_i s1 q2 hT;split at h;rename_i h1c;obtain⟨rg,h1,h2⟩:=map_nil h;cases h2;obtain⟨hrl,rfl⟩:=Y1 h1;have hP:T.P=P:=hv.right.head;have hn:n<maxLen:=hv.right.tail.head;have ha:s1=s0:=hv.right.tail.tail.one;subst ha;have ht:=jf hT;obtain⟨has,hd,fb,fps,g1,g2,g3,g4,g5,g6⟩:=Qf hs hr;obtain⟨b,w',he,hrun,hgr,hM,hf,hm⟩:=MapV.store g1 (KA.vc_wf _ _ hv.left) ((g6 _ _ _ rfl).2.2 _ rfl) (C.den ε (.h q2)) hn;refine⟨w',?_,hs.updG (new:=.mpr T ty size (n+1) f (some (a',q2,none))) (Qd hr) rfl (g2 b hf) hgr.size hgr.os hgr.tape hgr.output (λk hk hne=>hgr.block k hk (λe=>hne (Option.some.inj e))) ⟨_,_,fb,fps,hm,g2,g3,g4,λa ha=>?_,λa q3 st3 e=>?_⟩ rfl⟩;rw[hP,ht] at hrun;exact hrun;have hne:a≠a':=λe=>ha (by rw[e];rfl);simp only[if_neg hne];exact OwnRow.map (w':=w') (g5 a (λe=>ha (by simpa using e))) (λc hc hlt=>hgr.block c hlt (λe=>(g3 a c hc).2 W305)) (λi j fp' u _ _ hf' hu=>OwnC.world ((f a).2 i j) (λc hc hlt=>hgr.block c hlt (λe=>(g3 a c (hf' c hc)).2 W305)) hu);cases e;exact⟨if_pos rfl,(g6 _ _ _ rfl).2.1,λs hs=>by cases hs⟩;cases h;cases h;rename_i T n has f r1 l1 c1 a' s0 hr;split at h;rename_i s1 y hT hy;obtain⟨rg,h1,h2⟩:=map_nil h;cases h2;obtain⟨hrl,rfl⟩:=Y1 h1;have hP:T.P=P:=hv.right.head;have hn:n<maxLen:=hv.right.tail.head;have ha:s1=s0:=hv.right.tail.tail.one;subst ha;have ht:=jf hT;obtain⟨b,w',he,hrun,hgr,hM,hf,hm⟩:=MapAt.estore (Qf hs hr) (KA.vc_wf _ _ hv.left) y hn;refine⟨w',?_,hs.updG (new:=.mp T (n+1) (λp=>decide (p=a')||has p) (λp=>if p=a' then y else f p) none) (Qd hr) rfl hf hgr.size hgr.os hgr.tape hgr.output (λk hk hne=>hgr.block k hk (λe=>hne (Option.some.inj e))) hm rfl⟩;rw[hP,ht] at hrun;rw[Yx hy];exact hrun;cases h;cases h;cases h
theorem Q4x(hs:SatE w0 st ε a w){o:Oper}{st':St}{sv:SV}{vc:List Prop}(h:effOp P st o=some (st',sv,vc))(hv:All vc) :
 ∃w' ε',((execOp a.eval o).run P w=.ok (.value (sv.den ε')) w'\/((execOp a.eval o).run P w=.ok .skip w'/\sv.den ε'=undef))/\SatE w0 st' ε' a w':=by
  have hg:=gHolds_nil a;obtain⟨dst,op,type,pos,after,guard⟩:=o;unfold effOp at h;simp only at h;split at h;rename_i t;split at h;rename_i cs hz;split at h;rename_i h1;obtain⟨⟨st1,sv1⟩,h2,h3⟩:=map_nil h;cases h3;unfold alloc at h2;split at h2;rename_i hsc;simp only[jg] at hsc;cases h2;obtain⟨zv,hzv,hzc⟩:=J9 (ε:=ε) hz;refine⟨_,_,.inl ?_,hs.alloc hsc.1 hsc.2⟩;simp only[execOp,Instr.alloc,jp,G7 hzv,jk,newVar,newRow,newObj,kJ,hzc,jz,SV.den,C.den];rw[<- hs.regs.len,Z5];rfl;cases h2;cases h;cases h;rename_i t x;split at h;rename_i v hx;split at h;rename_i cs hcs;obtain⟨⟨st1,sv1⟩,h2,h3⟩:=map_nil h;cases h3;unfold alloc at h2;split at h2;rename_i hsc;simp only[jg] at hsc;cases h2;have hcells:=(Gt hs.regs hcs).1;refine⟨_,_,.inl ?_,hs.alloc hsc.1 hsc.2⟩;have hden:(SV.c (C.p st.rg.length 0)).den (ε++[⟨.pointer (some ⟨w.heap.size,0,none⟩),λb=>b=w.heap.size⟩])=.pointer (some ⟨w.heap.size,0,none⟩):=by simp only[SV.den,C.den];rw[<- hs.regs.len,Z5];rfl
  rw[hden];simp only[execOp,Instr.box,Qo hs hg hx,jp,jk,newVar,newRow,newObj,kJ,hcells,jz];rfl;cases h2;cases h;cases h;split at h;rename_i c v hc hx;obtain⟨⟨st1,vc1⟩,h2,h3⟩:=map_nil h;cases h3;obtain⟨w',e1,e2⟩:=Qf5 hs h2 hv;refine⟨w',ε,.inr ⟨?_,rfl⟩,e2⟩;grind[execOp,Qa,Qo,jp,jk,jz];cases h;rename_i args argTypes;split at h;rename_i s x t t' ha ht;split at h;rename_i cs cx hcs hcx;have happ:∃v w' ε',(Builtin.append_ #[t,t'] type #[cs.den ε,cx.den ε]).run P w=.ok v w'/\SatE w0 st' ε' a w'/\v=sv.den ε':=by split at h;rename_i r hr;cases h;exact Qcq (ty:=type) hs hr hv;cases h
  obtain⟨v,w',ε',hrun,hsat,hv'⟩:=happ;refine⟨w',ε',.inl ?_,hsat⟩;have e1:args=#[s,x]:=by cases args;simp_all
  have e2:argTypes=#[t,t']:=by cases argTypes;simp_all
  subst e1 e2;simp only[execOp,resolve,invoke,builtin,List.map_toArray,jW,List.map_nil,jp,jz,jk,Qa hs hg hcs,Qa hs hg hcx,hrun,hv'];cases h;cases h;rename_i t len parts;split at h;rename_i ps hp;obtain⟨⟨st1,sv1⟩,h2,h3⟩:=map_nil h;cases h3;obtain⟨v,w',ε',hrun,hsat,hv'⟩:=Q79 hs h2;refine⟨w',ε',.inl ?_,hsat⟩;have e:(parts.map λ(x:Nat×Operand)=>match x with|(i,x)=>(i,a.eval x))=(ps.map λx=>(x.1,x.2.den ε)).toArray:=by grind[Q49,Array.ext',kK]
  grind[execOp,jp,jk,jz];cases h;split at h;grind[Qf6,execOp,Qa,Y6];cases h;rename_i t;obtain⟨v,w',ε',hrun,hsat,hv'⟩:=Qc1 hs h hv;refine⟨w',ε',.inl ?_,hsat⟩;simp_all[execOp,Option.map_none,jp,jk,jz];split at h;rename_i m x v hm hx hvv;obtain⟨⟨st1,vc1⟩,h2,h3⟩:=map_nil h;cases h3;obtain⟨w',e1,e2⟩:=Q1r hs h2 hv;refine⟨w',ε,.inr ⟨?_,rfl⟩,e2⟩;grind[execOp,Qa,Qo,jp,jk,jz];cases h;split at h;rename_i m x v hm hx hvv;obtain⟨⟨st1,vc1⟩,h2,h3⟩:=map_nil h;cases h3;obtain⟨w',e1,e2⟩:=Q1r hs h2 hv;refine⟨w',ε,.inr ⟨?_,rfl⟩,e2⟩;grind[execOp,Qa,Qo,jp,jk,jz];cases h;split at h;rename_i m x v hm hx hvv;obtain⟨⟨st1,vc1⟩,h2,h3⟩:=map_nil h;cases h3;obtain⟨w',e1,e2⟩:=Q7a hs h2 hv;refine⟨w',ε,.inr ⟨?_,rfl⟩,e2⟩;grind[execOp,Qa,Qo,jp,jk,jz];cases h;split at h;rename_i k l k' c hl hc;obtain⟨v,w',ε',hrun,hsat,hv'⟩:=Qhq (k:=k) (k':=k') hs h hv;refine⟨w',ε',.inl ?_,hsat⟩;simp only[execOp,Qa hs hg hl,Qa hs hg hc,C.den,jp,hrun,jk,jz,hv'];cases h;cases h
end
inductive GRes where
 |run (g:List (Nat×Bool))
 |skip
 |bad
def guardOf(ops:List Oper)(st:St)(o:Oper):GRes:=
 match o.guard with
 |none=>.run []
 |some (j,want)=>match nth ops j with
   |some oj=>match oj.dst with
     |some d=>match lookup d st.fr with
       |some e=>match e.sv with
         |.c (.t x)=>if beqB x want then .run e.g else .skip
         |.c (.b _)=>.run (e.g++[(d,want)])
         |.u=>.skip
         |_=>.bad
       |none=>.bad
     |none=>.bad
   |none=>.bad
def putSt(st:St)(dst:Option Nat)(g:List (Nat×Bool))(sv:SV):Option St:=
 match dst with
 |none=>some st
 |some d=>if kv d st.N&&!(g.any λx=>jr x.1 d) then
    some { st with fr:={ slot:=d,g,sv }::st.fr.filter λe=>!(jr e.slot d)&&!(e.g.any λx=>jr x.1 d) }
   else none
def prem(st:St)(all:List (Nat×Bool)):List (Nat×Bool)->Prop->Prop
 |[],p=>p
 |(t,want)::r,p=>match lookup t st.fr with
   |some e=>match subG e.g all,e.sv with
     |true,.c (.b x)=>x=want->prem st all r p
     |_,_=>prem st all r p
   |none=>prem st all r p
def prems(st:St)(g:List (Nat×Bool))(vc:List Prop):List Prop:=match g with
 |[]=>vc
 |_=>vc.map (prem st g g)
def stepOp(P:Program)(ops:List Oper)(st:St)(o:Oper):Option (St×List Prop):=
 match guardOf ops st o with
 |.bad=>none
 |.skip=>(putSt st o.dst [] .u).map (·,[])
 |.run g=>match pureOp P st g o with
   |some (sv,vc)=>(putSt st o.dst g sv).map (·,prems st g vc)
   |none=>match g with
     |[]=>match effOp P st o with
       |some (st',sv,vc)=>(putSt st' o.dst [] sv).map (·,vc)
       |none=>none
     |_=>none
def cutG(t:Nat)(b:Bool):List (Nat×Bool)->Option (List (Nat×Bool))
 |[]=>some []
 |x::r=>match cutG t b r with
   |none=>none
   |some r'=>if jr x.1 t then(if beqB x.2 b then some r' else none) else some (x::r')
def litEn(t:Nat)(b:Bool)(e:En):En:=
 if jr e.slot t then { e with g:=[],sv:=.c (.t b) } else match cutG t b e.g with
  |some g=>{ e with g }
  |none=>{ e with g:=[],sv:=.u }
def litT(st:St)(t:Nat)(b:Bool):St:={ st with fr:=st.fr.map (litEn t b) }
def lit(st:St)(c:Operand)(b:Bool):St:=match c with
 |.tmp t=>litT st t b
 |_=>st
def splitOn(st:St):List (Nat×Bool)->Option (Nat×Bool)
 |[]=>none
 |(t,_)::r=>match lookup t st.fr with
   |some e=>match e.g,e.sv with
     |[],.c (.b x)=>some (t,x)
     |_,_=>splitOn st r
   |none=>splitOn st r
def noDefer(o:Oper):Bool:=match o.op with
 |.defer _=>false
 |_=>true
inductive K where
 |code (c:Code)
 |blk (id:Nat)
 |ops (all todo:List Oper)
 |jmp (J:Base->Act->World->Prop)
 |mix (all:List Oper) (listed:List Bool) (n:Nat)
 |mixAt (all:List Oper) (listed:List Bool) (n i:Nat)
 |rnd (body:Code) (n:Nat)
inductive Out where
 |cond (x:Bool) (k1 k2:List K) (st st1 st2:St)
 |ret (st:St)
 |call (f:Nat) (args:List SV) (dst:Option Nat) (g:List (Nat×Bool)) (drawn:Bool) (k0 k:List K) (st:St)
 |loop (body:Code) (k:List K) (st:St)
 |jump (J:Base->Act->World->Prop) (st:St)
 |fin (st:St)
 |op (all:List Oper) (o:Oper) (todo:List Oper) (k:List K) (st:St)
 |opR (all:List Oper) (listed:List Bool) (n i:Nat) (k:List K) (st:St)
 |any (all:List Oper) (listed:List Bool) (n:Nat) (l:List Nat) (k:List K) (st:St)
 |fail (why:Nat)
def popBlk(id:Nat):List K->Option (List K)
 |[]=>none
 |.blk id'::k=>if jr id' id then some k else popBlk id k
 |_::k=>popBlk id k
def callOf(st:St)(g:List (Nat×Bool))(o:Oper):Option (Nat×List SV):=
 match o.op with
 |.call { callee:=.value f,args,.. }=>match opndC st g f,opnds st g args.toList with
   |some (.fn id bnd caps),some vs=>match bnd with
     |true=>some (id,(caps.map λr=>.c (if isVar st r then .p r 0 else .h r))++vs)
     |false=>some (id,vs++caps.map λr=>.c (if isVar st r then .p r 0 else .h r))
   |_,_=>none
 |_=>none
def allPure(P:Program)(ops:List Oper):List Oper->St->Option (St×List Prop)
 |[],st=>some (st,[])
 |o::r,st=>match guardOf ops st o with
   |.bad=>none
   |.skip=>match putSt st o.dst [] .u with
     |some st'=>allPure P ops r st'
     |none=>none
   |.run g=>match pureOp P st g o with
     |some (sv,vc)=>match putSt st o.dst g sv with
       |some st'=>(allPure P ops r st').map λx=>(x.1,prems st g vc++x.2)
       |none=>none
     |none=>none
def St.dim(st:St):St:={ st with rg:=st.rg.map λ_=>.dead }
def Reg.roOf:Reg->Reg
 |.box _ cells=>.ro cells
 |.own _ size n f none=>.row size n f none
 |.own _ size n f (some (k,cs))=>.row size n (λi j=>if i=k then .any else f i j) (some (k,cs))
 |.mp ..=>.dead
 |.mpv ..=>.dead
 |.mpr ..=>.dead
 |r=>r
def St.roOf(st:St):St:={ st with rg:=st.rg.map Reg.roOf }
def calm(o:Oper):Bool:=match o.op with
 |.store ..=>false
 |.call { callee:=.builtin .append,.. }=>false
 |.mapUpdate ..=>false
 |.insert ..=>false
 |.mapEntry ..=>false
 |.entryStore ..=>false
 |_=>true
def unl(listed:List Bool)(i:Nat):Bool:=match nth listed i with
 |some b=>!b
 |none=>false
def lst(listed:List Bool)(i:Nat):Bool:=match nth listed i with
 |some b=>b
 |none=>false
def readyI(ops:List Oper)(listed:List Bool)(i:Nat):Bool:=unl listed i&&match nth ops i with
 |some o=>o.after.toList.all λe=>lst listed e.on||!Region.binds .any e
 |none=>false
def tmpsL:List Operand->List Nat
 |[]=>[]
 |.tmp t::r=>t::tmpsL r
 |_::r=>tmpsL r
def looksL(ops:List Oper)(o:Oper):List Nat:=match o.guard with
 |some (g,_)=>match(nth ops g).bind (·.dst) with
   |some d=>d::tmpsL o.op.operands.toList
   |none=>tmpsL o.op.operands.toList
 |none=>tmpsL o.op.operands.toList
def apartL(ops:List Oper)(x y:Oper):Bool:=
 (match x.dst with
  |some d=>!(hasN d (looksL ops y))&&!(match y.dst with|some e=>jr d e|none=>false)
  |none=>true) &&
 (match y.dst with
  |some d=>!(hasN d (looksL ops x))
  |none=>true)
def depsL(listed:List Bool)(i:Nat):Nat->List Oper->List Nat->List Nat
 |_,[],acc=>acc
 |j,o::r,acc=>if unl listed j&&o.after.toList.any (λe=>(jr e.on i||hasN e.on acc)&&Region.binds .any e) then depsL listed i (j+1) r (j::acc) else depsL listed i (j+1) r acc
def blindOp(o:Oper):Bool:=match o.op with
 |.move _=>true
 |.assign _=>true
 |.fieldAddr ..=>true
 |.indexAddr ..=>true
 |.nilCheck _=>true
 |.binOp ..=>true
 |.unOp ..=>true
 |.extract ..=>true
 |_=>false
def plainLoad(o:Oper):Bool:=match o.op with
 |.load ..=>true
 |_=>blindOp o
def writers:List Nat:=[]
 ++ [138]
def lastC(ops:List Oper)(j:Nat)(o:Oper):Bool:=match o.op with
 |.call { callee:=.value (.tmp _),.. }=>(jv ops.length).all λk=>jr k j||hasN j (depsL (jd ops.length false) k 0 ops [])||hasN k (depsL (jd ops.length false) j 0 ops [])||(match nth ops k with
    |some ok=>plainLoad ok
    |none=>false)
 |.call { callee:=.value (.func f),.. }=>writers.any (jr f)||(jv ops.length).all λk=>jr k j||hasN j (depsL (jd ops.length false) k 0 ops [])||hasN k (depsL (jd ops.length false) j 0 ops [])||(match nth ops k with
    |some ok=>blindOp ok
    |none=>false)
 |.call { callee:=.value _,.. }=>(jv ops.length).all λk=>jr k j||hasN j (depsL (jd ops.length false) k 0 ops [])||hasN k (depsL (jd ops.length false) j 0 ops [])||(match nth ops k with
    |some ok=>blindOp ok
    |none=>false)
 |.box ..=>(jv ops.length).all λk=>jr k j||hasN j (depsL (jd ops.length false) k 0 ops [])||hasN k (depsL (jd ops.length false) j 0 ops [])||(match nth ops k with
    |some ok=>blindOp ok
    |none=>false)
 |_=>false
def calmAt(ops:List Oper)(j:Nat)(o:Oper):Bool:=calm o&&!lastC ops j o
def freeI(ops:List Oper)(listed:List Bool)(i:Nat)(oi:Oper)(blind:Bool):Nat->List Oper->Bool
 |_,[]=>true
 |j,oj::r=>(jr j i||!unl listed j||((blind||calmAt ops j oj)&&apartL ops oi oj)||hasN j (depsL listed i 0 ops []))&&freeI ops listed i oi blind (j+1) r
def setL:List Bool->Nat->List Bool
 |[],_=>[]
 |_::r,0=>true::r
 |x::r,n+1=>x::setL r n
def takePure(P:Program)(all:List Oper)(listed:List Bool)(st:St)(i:Nat)(o:Oper):Option (St×List Prop):=
 if readyI all listed i then
  match guardOf all st o with
  |.bad=>none
  |.skip=>if freeI all listed i o true 0 all then(putSt st o.dst [] .u).map (·,[]) else none
  |.run g=>match pureOp P st.dim g o with
    |some (sv,vc)=>if freeI all listed i o true 0 all then(putSt st o.dst g sv).map (·,prems st g vc) else none
    |none=>match pureOp P st g o with
      |some (sv,vc)=>if freeI all listed i o false 0 all then(putSt st o.dst g sv).map (·,prems st g vc) else none
      |none=>none
 else none
def findPure(P:Program)(all:List Oper)(listed:List Bool)(st:St):Nat->List Oper->Option (Nat×St×List Prop)
 |_,[]=>none
 |i,o::r=>match takePure P all listed st i o with
   |some x=>some (i,x)
   |none=>findPure P all listed st (i+1) r
def readyL(all:List Oper)(listed:List Bool):List Nat:=(jv all.length).filter (readyI all listed)
def effCalm(P:Program)(cb:Bool)(st:St)(o:Oper):Option (List Prop):=
 if cb then(effOp P st.roOf o).map (·.2.2) else some []
def seg(P:Program):Nat->List K->St->List Prop×Out
 |0,_,_=>([],.fail 0)
 |fuel+1,k,st =>
   match k with
   |[]=>([],.fin st)
   |.jmp J::_=>([],.jump J st)
   |.blk _::k=>seg P fuel k st
   |.rnd _ 0::_=>([],.fail 16)
   |.rnd body (n+1)::k=>seg P fuel (.code body::.rnd body n::k) st
   |.ops _ []::k=>seg P fuel k st
   |.ops all (o::todo)::k =>
     match stepOp P all st o with
     |some (st',vc)=>let r:=seg P fuel (.ops all todo::k) st';(vc++r.1,r.2)
     |none=>match guardOf all st o with
       |.run g=>match callOf st g o with
         |some (f,args)=>([],.call f args o.dst g false (.ops all (o::todo)::k) (.ops all todo::k) st)
         |none=>match splitOn st g with
           |some (t,x)=>([],.cond x (.ops all (o::todo)::k) (.ops all (o::todo)::k) st (litT st t true) (litT st t false))
           |none=>([],.op all o todo k st)
       |_=>([],.op all o todo k st)
   |.mix all listed n::k=>match findPure P all listed st 0 all with
     |some (i,st',vc)=>match n with
       |0=>([],.fail 6)
       |n+1=>let r:=seg P fuel (.mix all (setL listed i) n::k) st';(vc++r.1,r.2)
     |none=>match readyL all listed with
       |[]=>seg P fuel k st
       |[i]=>match n with
         |0=>([],.fail 7)
         |n+1=>seg P fuel (.mixAt all listed n i::k) st
       |l=>match n with
         |0=>([],.fail 8)
         |n+1=>([],.any all listed n l k st)
   |.mixAt all listed n i::k=>match nth all i with
     |none=>([],.fail 9)
     |some o=>match guardOf all st o with
       |.run []=>match effOp P st o,effCalm P (calmAt all i o) st o with
         |some (st',sv,vc),some vc'=>match putSt st' o.dst [] sv with
           |some st''=>let r:=seg P fuel (.mix all (setL listed i) n::k) st'';((vc'++vc)++r.1,r.2)
           |none=>([],.fail 10)
         |_,_=>match callOf st [] o with
           |some (f,args)=>([],.call f args o.dst [] (calmAt all i o) (.mixAt all listed n i::k) (.mix all (setL listed i) n::k) st)
           |none=>match pureOp P st [] o with
             |some (sv,vc)=>match putSt st o.dst [] sv with
               |some st''=>let r:=seg P fuel (.mix all (setL listed i) n::k) st'';(vc++r.1,r.2)
               |none=>([],.fail 18)
             |none=>match o.op with
               |.mapEntry ..=>([],.opR all listed n i k st)
               |_=>([],.fail 11)
       |.run g=>match callOf st g o with
         |some (f,args)=>([],.call f args o.dst g (calmAt all i o) (.mixAt all listed n i::k) (.mix all (setL listed i) n::k) st)
         |none=>match splitOn st g with
           |some (t,x)=>([],.cond x (.mixAt all listed n i::k) (.mixAt all listed n i::k) st (litT st t true) (litT st t false))
           |none=>([],.fail 12)
       |.skip=>match putSt st o.dst [] .u with
         |some st'=>seg P fuel (.mix all (setL listed i) n::k) st'
         |none=>([],.fail 13)
       |.bad=>([],.fail 14)
   |.code .skip::k=>seg P fuel k st
   |.code (.label _)::k=>seg P fuel k st
   |.code (.seq a b)::k=>seg P fuel (.code a::.code b::k) st
   |.code (.block id c)::k=>seg P fuel (.code c::.blk id::k) st
   |.code (.exit id)::k=>match popBlk id k with
     |some k'=>seg P fuel k' st
     |none=>([],.fail 1)
   |.code .ret::_=>([],.ret st)
   |.code (.cond c x y)::k=>match opndC st [] c with
     |some (.t true)=>seg P fuel (.code x::k) st
     |some (.t false)=>seg P fuel (.code y::k) st
     |some (.b b)=>([],.cond b (.code x::k) (.code y::k) st (lit st c true) (lit st c false))
     |_=>([],.fail 2)
   |.code (.loop c)::k=>([],.loop c k st)
   |.code (.region _ ops draw)::k =>
     if !ops.toList.all noDefer then([],.fail 17) else
     if draw then
      match allPure P ops.toList ops.toList st,!st.rd&&Region.lexB .any ops with
      |some (st',vc),true=>let r:=seg P fuel k st';(vc++r.1,r.2)
      |_,_=>if Region.noSelect ops then seg P fuel (.mix ops.toList (jd ops.size false) ops.size::k) st else([],.fail 15)
     else seg P fuel (.ops ops.toList ops.toList::k) st
   |.code (.rangeFunc ..)::_=>([],.fail 7)
   |.code (.scope _)::_=>([],.fail 3)
   |.code (.goto _)::_=>([],.fail 4)
   |.code (.refuse _)::_=>([],.fail 5)
def Grow(w w':World):Prop:=Below w.heap.size w w'
theorem Grow.refl(w:World):Grow w w:=Below.refl _ _
theorem Grow.trans{a b c:World}(h:Grow a b)(k:Grow b c):Grow a c:=Below.trans h (k.mono h.size)
def stepR(P:Program)(cb:Bool)(o:Oper)(a:Act)(w:World)(K:Act->World->Prop):Prop:=
 match(execOp a.eval o).run P w with
 |.ok (.value u) w'=>(cb=true->Grow w w')/\K (a.put o.dst u) w'
 |.ok .skip w'=>(cb=true->Grow w w')/\K (a.put o.dst undef) w'
 |.ok (.enter f args) w'=>Calls P f args w' λe w''=>∃v,e=.returned v/\(cb=true->Grow w w'')/\K (a.put o.dst v) w''
 |_=>False
theorem Q83{P:Program}{cb:Bool}{o:Oper}{a:Act}{w:World}{K K':Act->World->Prop}(h:∀a' w',(cb=true->Grow w w')->K a' w'->K' a' w')(hh:stepR P cb o a w K):stepR P cb o a w K':=by
 unfold stepR at *;generalize (execOp a.eval o).run P w=r at *;cases r with|ok n w' =>cases n<;>simp only at hh⊢;(case enter f args=>exact hh.mono λe w'' ⟨v,h1,h2,h3⟩=>⟨v,h1,h2,h _ _ h2 h3⟩);(all_goals exact⟨hh.1,h _ _ hh.1 hh.2⟩)|halt x w'=>simp only at hh
theorem Qls{P:Program}{cb:Bool}{o:Oper}{a:Act}{w:World}{K:Act->World->Prop}{Q:Exit->Act->World->Prop}(hh:stepR P cb o a w K):o.wp P a w K Q:=by
 unfold stepR at hh;unfold Oper.wp;generalize (execOp a.eval o).run P w=r at *;cases r with|ok n w' =>cases n<;>simp only at hh<;>simp only[Oper.upon];(case enter f args=>exact hh.mono λe w'' ⟨v,h1,h2,h3⟩=>by subst h1;exact h3);(all_goals exact hh.2)|halt x w'=>simp only at hh
def wpOpR(P:Program)(ops:Array Oper)(i:Nat)(K:Act->World->Prop)(a:Act)(w:World):Prop:=
 match ops[i]? with
 |none=>K a w
 |some o=>if Region.wanted o (yielded ops a.tmps) then stepR P (calmAt ops.toList i o) o a w K else K (a.put o.dst undef) w
theorem Q3g{P:Program}{ops:Array Oper}{i:Nat}{a:Act}{w:World}{K K':Act->World->Prop}(h:∀a w,K a w->K' a w)(hh:wpOpR P ops i K a w):wpOpR P ops i K' a w:=by
 unfold wpOpR at *;split;rename_i ho;simp only[ho] at hh;exact h _ _ hh;rename_i o ho;simp only[ho] at hh;split;rename_i hw;simp only[hw,if_true] at hh;exact Q83 (λa' w' _ hk=>h _ _ hk) hh;rename_i hw;simp only[hw] at hh;exact h _ _ hh
def wpAnyR(P:Program)(ops:Array Oper)(Q:Act->World->Prop):Nat->Array Bool->Act->World->Prop
 |0,listed,a,w=>Region.ready .any ops listed=[]/\Q a w
 |fuel+1,listed,a,w =>
   (Region.ready .any ops listed=[]->Q a w) /\
   ∀i∈Region.ready .any ops listed,wpOpR P ops i (wpAnyR P ops Q fuel (listed.setIfInBounds i true)) a w
def StillIn(P:Program)(ops:Array Oper)(C:World->Prop)(o:Oper)(v:Value)(a:Act):Prop:=
 (Region.wanted o (yielded ops a.tmps)=true/\∀w,C w->(execOp a.eval o).run P w=.ok (.value v) w) \/
 (Region.wanted o (yielded ops a.tmps)=false/\v=undef)
theorem StillIn.step{P:Program}{ops:Array Oper}{C:World->Prop}{i:Nat}{o:Oper}{v:Value}{a:Act}{w:World}(hi:ops[i]?=some o)(hy:StillIn P ops C o v a)(hC:C w){K:Act->World->Prop}(h:K (a.put o.dst v) w):wpOpR P ops i K a w:=by
 unfold wpOpR;simp only[hi];rcases hy with⟨hw,hv⟩|⟨hw,rfl⟩;simp_all[if_true,stepR,Grow.refl];simp only[hw,jY,if_false];exact h
theorem StillIn.of_same{P:Program}{ops:Array Oper}{C:World->Prop}{o:Oper}{v:Value}{a a':Act}(hy:StillIn P ops C o v a)(he:execOp a'.eval o=execOp a.eval o)
 (hw:Region.wanted o (yielded ops a'.tmps)=Region.wanted o (yielded ops a.tmps)):StillIn P ops C o v a':=by
  unfold StillIn at *;rw[he,hw];exact hy
theorem Qj4{P:Program}{ops:Array Oper}{C:World->Prop}{j:Nat}{oi oj:Oper}{v:Value}(hj:ops[j]?=some oj)(hap:oi.apart ops oj=true)
 (hsi:∀cs b,oi.op≠.select cs b) (hsj:∀cs b,oj.op≠.select cs b) {K:Act->World->Prop} {a:Act} {w:World} (hC:C w) (hst:∀w',(calmAt ops.toList j oj=true->Grow w w')->C w')
 (hy:StillIn P ops C oi v a) (h:wpOpR P ops j K (a.put oi.dst v) w) :
 wpOpR P ops j (λa' w'=>C w'/\StillIn P ops C oi v a'/\K (a'.put oi.dst v) w') a w:=by
  obtain⟨h1,h2,h3⟩:=Oper.apart_spec hap;have keep:∀(a:Act),StillIn P ops C oi v a->∀u,StillIn P ops C oi v (a.put oj.dst u):=λa hy u => hy.of_same (execOp_put oi hsi a oj.dst u h3) (wanted_put oi a oj.dst u h3);unfold wpOpR at *;simp only[hj] at *;rw[wanted_put oj a oi.dst v h1] at h;split;rename_i hw;simp only[hw,if_true] at h;unfold stepR at *;rw[execOp_put oj hsj a oi.dst v h1] at h;generalize (execOp a.eval oj).run P w=r at *;grind[Act.put_comm,undef];grind[Act.put_comm,undef]
theorem Zm{P:Program}{ops:Array Oper}{C:World->Prop}{Q:Act->World->Prop}{i:Nat}{oi:Oper}{v:Value}(D:Nat->Prop)(hi:ops[i]?=some oi)(hsel:∀(j:Nat) (o:Oper) cs b,ops[j]?=some o->o.op≠.select cs b)
 (hCg:∀w w',C w->Grow w w'->C w'):∀(fuel:Nat) (listed:Array Bool) (a:Act) (w:World),
   (∀j oj,ops[j]?=some oj->j≠i->listed.getD j true=false->¬D j->oi.apart ops oj=true/\(calmAt ops.toList j oj=true\/∀w,C w)) ->
   (∀j,D j->listed.getD j true=false/\∃oj,ops[j]?=some oj/\∃e∈oj.after,Region.binds .any e=true/\(e.on=i\/D e.on)) ->
   i∈Region.ready .any ops listed->C w->StillIn P ops C oi v a ->
   wpAnyR P ops Q fuel (listed.setIfInBounds i true) (a.put oi.dst v) w->wpAnyR P ops Q (fuel+1) listed a w:=by
    intro fuel;induction fuel with|zero =>intro listed a w _ _ hr hC hy H;refine⟨λh=>(by rw[h] at hr;cases hr),λj hj=>?_⟩;by_cases hji:j=i;subst hji;exact hy.step hi hC H;have:=ready_mono hj hji;rw[H.1] at this;cases this|succ fuel ih =>intro listed a w hfree hD hr hC hy H;refine⟨λh=>(by rw[h] at hr;cases hr),λj hj=>?_⟩;by_cases hji:j=i;subst hji;exact hy.step hi hC H;have h1:=H.2 j (ready_mono hj hji);obtain⟨hjun,oj,hoj,hall⟩:=mem_ready.1 hj;(have un2:∀q:Nat,listed.getD q true=false->listed.getD q false=true->False:=λq h0 h1=>by grind);(have hnot:¬D j:=λhd=>by obtain⟨_,ok,hok,e,he,hb,hh⟩:=hD j hd;rw[hoj] at hok;cases hok;have h2:=hall e he hb;rcases hh with hh|hh;exact un2 i (mem_ready.1 hr).1 (hh▸h2);exact un2 _ (hD _ hh).1 h2);obtain⟨hap,hcl⟩:=hfree j oj hoj hji hjun hnot;have h2:=Qj4 (C:=C) hoj hap (λcs b=>hsel i oi cs b hi) (λcs b=>hsel j oj cs b hoj) hC (λw' hg=>by grind) hy h1;(have hfree':∀k ok,ops[k]?=some ok->k≠i->(listed.setIfInBounds j true).getD k true=false -> ¬D k->oi.apart ops ok=true/\(calmAt ops.toList k ok=true\/∀w,C w):=λk ok hk hki hun hno=>by refine hfree k ok hk hki ?_ hno;by_cases hjk:j=k;subst hjk;exact hjun;rw[getD_set_ne true hjk] at hun;exact hun);(have hD':∀k,D k->(listed.setIfInBounds j true).getD k true=false/\∃oj,ops[k]?=some oj/\∃e∈oj.after,Region.binds .any e=true/\(e.on=i\/D e.on):=λk hk=>by obtain⟨h3,h4⟩:=hD k hk;refine⟨?_,h4⟩;have hjk:j≠k:=λe=>hnot (e▸hk);rw[getD_set_ne true hjk];exact h3);refine Q3g (λa' w' h3=>ih (listed.setIfInBounds j true) a' w' hfree' hD' (ready_mono hr (Ne.symm hji)) h3.1 h3.2.1 ?_) h2;rw[Array.setIfInBounds_comm _ _ hji];exact h3.2.2
theorem Q7b{listed:List Bool}{i:Nat}:unl listed i=!(listed.toArray.getD i true):=by
 unfold unl;rw[Qq,Array.getD_eq_getD_getElem?,kL];cases listed[i]?<;>simp
theorem Qlt{listed:List Bool}{i:Nat}:lst listed i=listed.toArray.getD i false:=by
 unfold lst;rw[Qq,Array.getD_eq_getD_getElem?,kL];cases listed[i]?<;>simp
theorem Z9{ops:List Oper}{listed:List Bool}{i:Nat}:readyI ops listed i=true↔i∈Region.ready .any ops.toArray listed.toArray:=by
 rw[mem_ready];unfold readyI;rw[jg,Q7b,Qq,kL];cases ho:ops[i]? with|none=>simp|some o =>simp only[List.all_eq_true,Array.mem_toList_iff,jQ,jC,Qlt];grind
theorem Q84{ops:List Oper}{listed:List Bool}(h:readyL ops listed=[]):Region.ready .any ops.toArray listed.toArray=[]:=by
 apply List.eq_nil_iff_forall_not_mem.2;intro i hi;have h2:=(mem_ready.1 hi).2;obtain⟨o,ho,_⟩:=h2;have hlt:i<ops.length:=by grind
 have:i∈readyL ops listed:=List.mem_filter.2 ⟨List.mem_range.2 hlt,Z9.2 hi⟩;rw[h] at this;cases this
theorem Q3h{ops:List Oper}{listed:List Bool}{i:Nat}(hi:i∈Region.ready .any ops.toArray listed.toArray):i∈readyL ops listed:=by
 obtain⟨_,o,ho,_⟩:=mem_ready.1 hi;have hlt:i<ops.length:=by grind
 exact List.mem_filter.2 ⟨List.mem_range.2 hlt,Z9.2 hi⟩
theorem Qfq:∀(l:List Bool) (i:Nat),setL l i=l.set i true
 |[],_=>rfl
 |_::r,0=>rfl
 |x::r,n+1=>by
  simp[setL,Qfq r n]
theorem Ya(l:List Bool)(i:Nat):(setL l i).toArray=l.toArray.setIfInBounds i true:=by
 rw[Qfq];simp
theorem Q6x{x:Nat}:∀{l:List Nat},x∈l->hasN x l=true
 |y::r,h=>by
  simp only[hasN,jQ];cases h with|head=>exact .inl (Nat.beq_refl _)|tail _ h=>exact .inr (Q6x h)
theorem Qj5{t:Nat}{l:List Operand}(h:t∈(l.filterMap λ|.tmp t=>some t|_=>none)):t∈tmpsL l:=by
 induction l with|nil=>simp at h|cons x r ih =>cases x with|tmp u =>simp only[List.filterMap_cons,kC] at h;simp only[tmpsL,kC];exact h.imp id ih|_=>simp only[List.filterMap_cons] at h;exact ih h
theorem Qhr{ops:List Oper}{o:Oper}{d:Nat}(h:d∈o.looksAt ops.toArray):d∈looksL ops o:=by
 unfold Oper.looksAt at h;unfold looksL;rcases List.mem_append.1 h with h|h;have:=Qj5 h;grind;cases hg:o.guard with|none=>rw[hg] at h;simp at h|some g =>rw[hg] at h;simp only[kL,Option.mem_toList,Option.bind_eq_some_iff] at h;obtain⟨o',ho,hd⟩:=h;simp_all[Qq,Option.bind_some]
theorem Qcs{ops:List Oper}{x y:Oper}(h:apartL ops x y=true):x.apart ops.toArray y=true:=by
 unfold apartL at h;unfold Oper.apart;have no:∀{d:Nat} {o:Oper},(!(hasN d (looksL ops o)))=true->(!(o.looksAt ops.toArray).contains d)=true:=λ{d o} h=>by rw[jC,ky] at h⊢;grind[Q6x,Qhr]
 rw[jg] at h⊢;obtain⟨h1,h2⟩:=h;constructor;cases hx:x.dst with|none=>rfl|some d =>rw[hx] at h1;simp only[jg] at h1⊢;refine⟨no h1.1,?_⟩;cases hy:y.dst with|none=>rfl|some e =>grind[Nat.beq_refl]
 grind
theorem Q3i{listed:List Bool}{i:Nat}:∀{l:List Oper} {j0:Nat} {acc:List Nat} {x:Nat},hasN x acc=true->hasN x (depsL listed i j0 l acc)=true
 |[],_,_,_,h=>h
 |o::r,j0,acc,x,h=>by
  simp only[depsL];split;exact Q3i (by simp[hasN,h]);exact Q3i h
theorem depsL_spec{ops:List Oper}{listed:List Bool}{i:Nat}:∀{l:List Oper} {j0:Nat} {acc:List Nat},(∀k,l[k]?=ops[j0+k]?) ->
 ∀j,hasN j (depsL listed i j0 l acc)=true->hasN j acc=true\/(unl listed j=true/\∃oj,ops[j]?=some oj/\∃e∈oj.after,Region.binds .any e=true/\(e.on=i\/hasN e.on (depsL listed i j0 l acc)=true))
 |[],_,_,_,_,h=>.inl h
 |o::r,j0,acc,hl,j,h=>by
  have hl':∀k,r[k]?=ops[j0+1+k]?:=λk=>by have:=hl (k+1);simpa[kM,Nat.add_comm 1 k] using this
  simp only[depsL] at h⊢;split at h;rename_i hc;rw[if_pos hc];rcases depsL_spec hl' j h with h1|h1;simp only[hasN,jQ] at h1;rcases h1 with h1|h1;have hj:=jf h1;simp only[jg] at hc;obtain⟨e,he,hh⟩:=List.any_eq_true.1 hc.2;simp only[jg,jQ] at hh;have h0:=hl 0;simp only[jH,Nat.add_zero] at h0;grind[jf,Q3i,hasN];exact .inl h1;exact .inr h1;rename_i hc;rw[if_neg hc];exact depsL_spec hl' j h
theorem Q2m{ops:List Oper}{listed:List Bool}{i:Nat}(j:Nat)(h:hasN j (depsL listed i 0 ops [])=true) :
 listed.toArray.getD j true=false/\∃oj,ops.toArray[j]?=some oj/\∃e∈oj.after,Region.binds .any e=true/\(e.on=i\/hasN e.on (depsL listed i 0 ops [])=true):=by
  rcases depsL_spec (ops:=ops) (λk=>by simp) j h with h1|⟨h1,oj,h2,h3⟩;cases h1;grind[Q7b]
theorem Gu{ops:List Oper}{listed:List Bool}{i:Nat}{oi:Oper}{blind:Bool}:∀{l:List Oper} {j0:Nat},(∀k,l[k]?=ops[j0+k]?)->freeI ops listed i oi blind j0 l=true ->
 ∀j oj,j0<=j->ops[j]?=some oj->j≠i->listed.toArray.getD j true=false->¬hasN j (depsL listed i 0 ops [])=true->oi.apart ops.toArray oj=true/\(blind=true\/calmAt ops j oj=true)
 |[],j0,hl,_,j,oj,hj,hoj,_,_,_=>by have:=hl (j-j0);grind
 |o::l,j0,hl,h,j,oj,hj,hoj,hne,hun,hno=>by
  simp only[freeI,jg] at h;by_cases hjj:j=j0;subst hjj;have h0:=hl 0;simp only[jH,Nat.add_zero,hoj,Option.some.injEq] at h0;simp_all[jQ,jg,absurd,jf,Q7b,Qcs];exact Gu (λk=>by have:=hl (k+1);simpa[kM,Nat.add_comm 1 k] using this) h.2 j oj W48 hoj hne hun hno
def Wf(ro:Option Nat):Fence:={ Fence.wide with round:=ro }
def wpW(ro:Option Nat)(P:Program)(c:Code)(Q:Exit->Act->World->Prop)(a:Act)(w:World):Prop:=c.wpIn (Wf ro) 0 P Q a w
theorem Qct{ro:Option Nat}{n:Nat}{P:Program}{f:FuncId}{args:Array Value}{w:World}{R:Ending->World->Prop}:CallsIn (Wf ro) n P f args w R↔Calls P f args w R:=by
 show CallsIn Fence.wide n P f args w R↔_;exact callsIn_wide
theorem Qub{ro:Option Nat}{n:Nat}{P:Program}{row:String}{args:Array Value}{w:World}{R:Value->World->Prop}(h:Rows P row args w R):RowsIn (Wf ro) n P row args w R:=by
 intro c cs _;obtain⟨v,w',r,s⟩:=h c cs;exact⟨v,w',r,stepsIn_wide.2 s⟩
theorem Q4y{o:Oper}(h:noDefer o=true):∀c,o.op≠.defer c:=by
 intro c hc;unfold noDefer at h;rw[hc] at h;cases h
theorem Qog{ro:Option Nat}{P:Program}{o:Oper}{a:Act}{w:World}{K:Act->World->Prop}{Q:Exit->Act->World->Prop}(hd:noDefer o=true)(h:o.wp P a w K Q):o.wpIn (Wf ro) 0 P a w K Q:=by
 refine⟨λ_ _=>trivial,?_⟩;rw[Oper.semAt_eq _ _ _ (Q4y hd)];unfold Oper.wp at h;generalize (execOp a.eval o).run P w=r at *;cases r with|ok n w' =>cases n<;>simp only[Oper.upon] at h<;>simp only[Oper.uponIn];(case enter f args=>exact⟨(λh=>by cases h),Qct.2 h⟩);(case row r args=>exact⟨(λh=>by cases h),Qub h⟩);(all_goals exact h)|halt x w'=>cases x<;>simp only[Oper.upon] at h<;>simp only[Oper.uponIn]<;>exact h
def roundOp(P:Program)(o:Oper)(a:Act)(w:World)(K:Act->World->Prop):Prop:=
 ∃(l:Nat) (f:FuncId) (tmps:Array Value) (assign body:Code) (w':World),(execOp a.eval o).run P w=.ok (.round l f tmps assign body) w' /\
  RoundIn Fence.wide 0 P l f tmps assign body w' (λe w''=>∃v,e=.returned v/\K (a.put o.dst v) w'')
theorem Qs2{ro:Option Nat}{P:Program}{o:Oper}{a:Act}{w:World}{K:Act->World->Prop}{Q:Exit->Act->World->Prop}(hd:noDefer o=true)(h:roundOp P o a w K):o.wpIn (Wf ro) 0 P a w K Q:=by
 obtain⟨l,f,tmps,assign,body,w',h1,h2⟩:=h;refine⟨λ_ _=>trivial,?_⟩;rw[Oper.semAt_eq _ _ _ (Q4y hd),h1,Oper.uponIn_round];refine⟨(λh=>by cases h),?_⟩;have h3:RoundIn (Wf ro) (0-1) P l f tmps assign body w' (λe w''=>∃v,e=.returned v/\K (a.put o.dst v) w''):=h2;exact h3.mono λe w'' ⟨v,he,hk⟩=>by subst he;exact hk
def wpListW(P:Program)(ops:Array Oper)(Q:Exit->Act->World->Prop):List Oper->Act->World->Prop
 |[],a,w=>Q .normal a w
 |o::rest,a,w =>
   if Region.wanted o (yielded ops a.tmps) then o.wp P a w (wpListW P ops Q rest) Q\/roundOp P o a w (wpListW P ops Q rest) else wpListW P ops Q rest (a.put o.dst undef) w
theorem Q85{ro:Option Nat}{P:Program}{ops:Array Oper}{Q:Exit->Act->World->Prop}:∀{l:List Oper} {a:Act} {w:World},(∀o∈l,noDefer o=true)->wpListW P ops Q l a w->wpListIn (Wf ro) 0 P ops Q l a w
 |[],a,w,_,h=>h
 |o::rest,a,w,hd,h=>by
  have ih:∀a w,wpListW P ops Q rest a w->wpListIn (Wf ro) 0 P ops Q rest a w:=λa w=>Q85 (λo ho=>hd o (.tail _ ho));unfold wpListW at h;unfold wpListIn;split;rename_i hw;rw[if_pos hw] at h;rcases h with h|h;exact Oper.wpIn_mono ih (Qog (hd o (.head _)) h);exact Oper.wpIn_mono ih (Qs2 (hd o (.head _)) h);rename_i hw;rw[if_neg hw] at h;exact⟨λ_ _=>trivial,ih _ _ h⟩
theorem Q0z{P:Program}{ops:Array Oper}{Q:Exit->Act->World->Prop}{a:Act}{w:World}{o:Oper}{rest:List Oper}(hw:Region.wanted o (yielded ops a.tmps)=false)(h:wpListW P ops Q rest (a.put o.dst undef) w):wpListW P ops Q (o::rest) a w:=by
 unfold wpListW;rw[if_neg (by simp[hw])];exact h
theorem Yz{P:Program}{ops:Array Oper}{Q:Exit->Act->World->Prop}{a:Act}{w:World}{o:Oper}{rest:List Oper}(hw:Region.wanted o (yielded ops a.tmps)=true)(h:o.wp P a w (wpListW P ops Q rest) Q):wpListW P ops Q (o::rest) a w:=by
 unfold wpListW;rw[if_pos hw];exact .inl h
theorem Qc2{P:Program}{cb:Bool}{o:Oper}{a:Act}{w:World}{K:Act->World->Prop}{Q:Exit->Act->World->Prop}{ro:Option Nat}(hd:noDefer o=true)(h:stepR P cb o a w K):o.wpIn (Wf ro) 0 P a w K Q:=Qog hd (Qls h)
theorem Gv{ro:Option Nat}{P:Program}{ops:Array Oper}{Q:Exit->Act->World->Prop}(hd:∀(i:Nat) (o:Oper),ops[i]?=some o->noDefer o=true):∀(fuel:Nat) (listed:Array Bool) (a:Act) (w:World),wpAnyR P ops (λa w=>Q .normal a w) fuel listed a w->wpAnyIn (Wf ro) 0 P .any ops Q fuel listed a w
 |0,_,_,_,h=>h
 |fuel+1,listed,a,w,h=>⟨h.1,λi hi=>by have:=h.2 i hi;unfold wpOpR at this;unfold wpOpIn;split;rename_i ho;simp only[ho] at this;exact Gv hd fuel _ _ _ this;rename_i o ho;simp only[ho] at this;split;rename_i hw;simp only[hw,if_true] at this;exact Qc2 (hd i o ho) (Q83 (λa' w' _ hk=>Gv hd fuel _ _ _ hk) this);rename_i hw;simp only[hw] at this;exact⟨λ_ _=>trivial,Gv hd fuel _ _ _ this⟩⟩
theorem Qs3{ro:Option Nat}{P:Program}{o:Oper}{a:Act}{C:World->Prop}{K K':Act->Prop}(hk:∀a,K a->K' a)(h:o.quiet P a C K):o.quietIn (Wf ro) 0 P a C K':=by
 obtain⟨v,h1,h2⟩:=h;refine⟨v,λw hw=>?_,hk _ h2⟩;have:=h1 w hw;unfold Oper.quietAt at this;unfold Oper.quietAtIn;generalize (execOp a.eval o).run P w=r at *;cases r with|ok n w' =>cases n<;>simp only[Oper.quietUpon] at this<;>simp only[Oper.quietUponIn];(case enter f args=>exact⟨this.1,(λh=>by cases h),Qct.2 this.2⟩);(all_goals exact this)|halt x w'=>exact this.elim
theorem Q10{ro:Option Nat}{P:Program}{ops:Array Oper}{C:World->Prop}{Q:Act->Prop}:∀{l:List Oper} {a:Act},wpQuiet P ops C Q l a->wpQuietIn (Wf ro) 0 P ops C Q l a
 |[],a,h=>h
 |o::rest,a,h=>by
  unfold wpQuiet at h;unfold wpQuietIn;refine⟨λ_ _ _ _=>trivial,?_⟩;split;rename_i hw;rw[if_pos hw] at h;exact Qs3 (λa=>Q10) h;rename_i hw;rw[if_neg hw] at h;exact Q10 h
section
variable {ro:Option Nat} {P:Program} {Q:Exit->Act->World->Prop} {a:Act} {w:World}
theorem Q86{id:Nat}{ops:Array Oper}(hd:ops.toList.all noDefer=true)(h:wpListW P ops Q ops.toList a w):wpW ro P (.region id ops false) Q a w:=
 wpIn_region_list (Q85 (λo ho=>List.all_eq_true.1 hd o ho) h)
theorem Q9d{id:Nat}{ops:Array Oper}(hm:P.follows .mixedOrders=true)(hd:ops.toList.all noDefer=true)(h:wpAnyR P ops (λa w=>Q .normal a w) ops.size (Array.replicate ops.size false) a { w with drawn:=w.drawn+1 }):wpW ro P (.region id ops true) Q a w:=
 wpIn_region_any hm (Gv (λi o ho=>List.all_eq_true.1 hd o (by grind)) _ _ _ _ h)
end
section
variable {P:Program} {ε:Env} {w w':World} {w0:Base} {st:St} {a:Act}
theorem Q0q{d t:Nat}{v:Value}(h:d<a.tmps.size):get (a.put (some d) v) t=if t=d then v else get a t:=by
 unfold get Act.put;simp only[Array.getD_eq_getD_getElem?,Array.getElem?_setIfInBounds];grind
theorem Q0n{d:Nat}{v:Value}(h:d<a.tmps.size){g:List (Nat×Bool)}(hg:g.any (λx=>jr x.1 d)=false):gHolds (a.put (some d) v) g↔gHolds a g:=by
 have hne:∀x∈g,x.1≠d:=λx hx e=>by grind[Nat.beq_refl]
 constructor;intro hh x hx;have:=hh x hx;rwa [Q0q h,if_neg (hne x hx)] at this;intro hh x hx;rw[Q0q h,if_neg (hne x hx)];exact hh x hx
theorem Qi(hs:SatE w0 st ε a w){dst:Option Nat}{g:List (Nat×Bool)}{sv:SV}{st':St}(h:putSt st dst g sv=some st'){v:Value}
 (hv:gHolds a g->v=sv.den ε) (hn:¬gHolds a g->v=undef):SatE w0 st' ε (a.put dst v) w:=by
  unfold putSt at h;split at h;cases h;exact⟨hs.defs,hs.size,hs.fr,hs.regs,hs.below,hs.pre⟩;rename_i d;split at h;rename_i hb;simp only[jg,jC] at hb;cases h;have hd:d<st.N:=jx hb.1;have hda:d<a.tmps.size:=by rw[hs.size];exact hd
  refine⟨hs.defs,by simp only[Act.put,Array.size_setIfInBounds];exact hs.size,λe he=>?_,hs.regs,hs.below,hs.pre⟩;cases he with|head =>refine⟨hd,λhg=>?_,λhg=>?_⟩;simp_all[Q0n,Q0q,if_true];simp_all[Q0n,Q0q,if_true]|tail _ he =>obtain⟨h1,h2⟩:=List.mem_filter.1 he;simp only[jg,jC] at h2;(have hne:e.slot≠d:=λe'=>by rw[e',Nat.beq_refl] at h2;cases h2.1);obtain⟨h3,h4,h5⟩:=hs.fr e h1;refine⟨h3,λhg=>?_,λhg=>?_⟩;simp_all[Q0n,Q0q,if_neg];simp_all[Q0n,Q0q,if_neg]
  cases h
theorem Qhs{ops:List Oper}{j d:Nat}{oj:Oper}{want:Bool}(h1:nth ops j=some oj)(h2:oj.dst=some d)(hd:d<a.tmps.size):(yielded ops.toArray a.tmps j==some want)=true↔get a d=.bool want:=by
 rw[Qq] at h1;have e:yielded ops.toArray a.tmps j=match(some (get a d):Option Value) with|some (.bool b)=>some b|_=>none:=by unfold yielded;simp only[kL,h1,Option.bind_some,h2];(have:a.tmps[d]?=some (get a d):=by unfold get;simp_all);rw[this];cases get a d<;>rfl
 rw[e];cases get a d<;>simp
theorem Zx(hs:SatE w0 st ε a w){ops:List Oper}{o:Oper}:(∀g,guardOf ops st o=.run g->(Region.wanted o (yielded ops.toArray a.tmps)=true↔gHolds a g))/\(guardOf ops st o=.skip->Region.wanted o (yielded ops.toArray a.tmps)=false):=by
 unfold guardOf Region.wanted;cases ho:o.guard with|none=>exact⟨λg h=>(by cases h;exact⟨λ_=>gHolds_nil a,λ_=>rfl⟩),λh=>W268⟩|some jw =>obtain⟨j,want⟩:=jw;simp only;cases h1:nth ops j with|none=>exact⟨λg h=>W268,λh=>W268⟩|some oj =>simp only;cases h2:oj.dst with|none=>exact⟨λg h=>W268,λh=>W268⟩|some d =>simp only;cases h3:lookup d st.fr with|none=>exact⟨λg h=>W268,λh=>W268⟩|some e =>simp only;obtain⟨hm,hsl⟩:=Yy h3;obtain⟨hlt,hyes,hno⟩:=hs.fr e hm;rw[hsl] at hlt hyes hno;have hy:=Qhs (want:=want) h1 h2 (by rw[hs.size];exact hlt);split;rename_i x hsv;rw[hsv] at hyes;have hyes':gHolds a e.g->get a d=.bool x:=hyes;split;rename_i hxw;have hxw':=Zt.1 hxw;refine⟨λg h=>?_,λh=>W268⟩;cases h;rw[hy];constructor;intro hg;apply Classical.byContradiction;intro hne;rw[hno hne] at hg;cases hg;intro hg;rw[hyes' hg,hxw'];rename_i hxw;refine⟨λg h=>W268,λ_=>?_⟩;rw[ky];intro hw;have hg:=hy.1 hw;by_cases hgg:gHolds a e.g;rw[hyes' hgg] at hg;injection hg with hg;exact hxw (Zt.2 hg);rw[hno hgg] at hg;cases hg;rename_i x hsv;refine⟨λg h=>?_,λh=>W268⟩;cases h;rw[hy,Q21];constructor;intro hg;refine⟨?_,hg⟩;apply Classical.byContradiction;intro hne;rw[hno hne] at hg;cases hg;exact λh=>h.2;rename_i hsv;refine⟨λg h=>W268,λ_=>?_⟩;rw[ky];intro hw;have hg:=hy.1 hw;by_cases hgg:gHolds a e.g;rw[hyes hgg,hsv] at hg;cases hg;rw[hno hgg] at hg;cases hg;grind
theorem Q0o(hs:SatE w0 st ε a w){all:List (Nat×Bool)}(ha:gHolds a all){p:Prop}:∀(l:List (Nat×Bool)),gHolds a l->prem st all l p->p
 |[],_,h=>h
 |(t,want)::r,hl,h=>by
  have hr:gHolds a r:=λx hx=>hl x (.tail _ hx);have ht:get a t=.bool want:=hl (t,want) (.head _);simp only[prem] at h;split at h;rename_i e he;split at h;rename_i x hsub hsv;obtain⟨hm,hsl⟩:=Yy he;obtain⟨_,hyes,_⟩:=hs.fr e hm;have:=hyes (ha.sub hsub);rw[hsl,ht,hsv] at this;injection this with this;exact Q0o hs ha r hr (h this.symm);exact Q0o hs ha r hr h;exact Q0o hs ha r hr h
theorem All.prem1(hs:SatE w0 st ε a w){g:List (Nat×Bool)}(hg:gHolds a g){vc:List Prop}(h:All (vc.map (prem st g g))):All vc:=λp hp =>
 Q0o hs hg g hg (h _ (List.mem_map_of_mem hp))
theorem All.prem(hs:SatE w0 st ε a w){g:List (Nat×Bool)}(hg:gHolds a g){vc:List Prop}(h:All (prems st g vc)):All vc:=by
 unfold prems at h;split at h;exact h;exact All.prem1 hs hg h
theorem Qcu{b:Base}(hs:SatE b st ε a w){all:List Oper}{Q:Exit->Act->World->Prop}{o:Oper}{rest:List Oper}{st':St}{vc:List Prop}(h:stepOp P all st o=some (st',vc))(hv:All vc)
 (hk:∀a w,Sat b st' a w->wpListW P all.toArray Q rest a w):wpListW P all.toArray Q (o::rest) a w:=by
  obtain⟨g1,g2⟩:=Zx hs (ops:=all) (o:=o);unfold stepOp at h;split at h;cases h;rename_i hgd;obtain⟨st1,h1,h2⟩:=map_nil h;cases h2;exact Q0z (g2 hgd) (hk _ _ ⟨ε,Qi hs h1 (λ_=>rfl) (λ_=>rfl)⟩);rename_i g hgd;have hw:=g1 g hgd;split at h;rename_i sv vc' hp;obtain⟨st1,h1,h2⟩:=map_nil h;cases h2;by_cases hg:gHolds a g;refine Yz (hw.2 hg) ?_;unfold Oper.wp;rw[Zv hs hg hp (All.prem hs hg hv),Oper.upon_value];exact hk _ _ ⟨ε,Qi hs h1 (λ_=>rfl) (λhn=>absurd hg hn)⟩;refine Q0z (by rw[ky];exact λh=>hg (hw.1 h)) (hk _ _ ⟨ε,Qi hs h1 (λh=>absurd h hg) (λ_=>rfl)⟩);split at h;split at h;rename_i st2 sv vc' he;obtain⟨st1,h1,h2⟩:=map_nil h;cases h2;obtain⟨w',ε',hrun,hsat⟩:=Q4x hs he hv;refine Yz (hw.2 (gHolds_nil a)) ?_;unfold Oper.wp;rcases hrun with hrun|⟨hrun,hu⟩;rw[hrun,Oper.upon_value];exact hk _ _ ⟨ε',Qi hsat h1 (λ_=>rfl) (λhn=>absurd (gHolds_nil _) hn)⟩;rw[hrun,Oper.upon_skip];exact hk _ _ ⟨ε',Qi hsat h1 (λ_=>hu.symm) (λ_=>rfl)⟩;cases h;cases h
theorem RegsOk.world{M L:Nat->Prop}{rg:List Reg}(hs:RegsOk ε M L w rg)(hsz:w.heap.size<=w'.heap.size)(hb:∀b,b<w.heap.size->w'.heap[b]?=w.heap[b]?):RegsOk ε M L w' rg:=
 ⟨hs.len,λi r hi=>RegOk.world (hs.reg i r hi) hsz (λb _ _ hlt=>hb b hlt),λi r hi hl b hb'=>⟨jN (hs.lt i r hi hl b hb').1 hsz,(hs.lt i r hi hl b hb').2⟩,hs.lim,hs.sep⟩
theorem SatE.same(hs:SatE w0 st ε a w)(hh:w'.heap=w.heap)(h1:w'.os=w.os)(h2:w'.tape=w.tape)(h3:w'.output=w.output):SatE w0 st ε a w':=
 ⟨hs.defs,hs.size,hs.fr,hs.regs.world (by rw[hh];exact jo _) (λb _=>by rw[hh]),hs.below.step h1 h2 h3 (by rw[hh];exact jo _) (λk _ _=>by rw[hh]),hs.pre⟩
theorem SatE.drewN(hs:SatE w0 st ε a w)(n:Nat):SatE w0 st ε a (w.drewN n):=hs.same rfl rfl rfl rfl
theorem Jn{w:World}{all:List Oper}{K:Act->Prop}:∀{ops:List Oper} {st st':St} {a:Act} {vc:List Prop},(∀n,SatE w0 st ε a (w.drewN n))->allPure P all ops st=some (st',vc)->All vc ->
 (∀a,(∀n,SatE w0 st' ε a (w.drewN n))->K a)->wpQuiet P all.toArray (λw'=>∃n,w'=w.drewN n) K ops a
 |[],st,st',a,vc,hs,h,hv,hk=>by simp only[allPure,Option.some.injEq,Prod.mk.injEq] at h;obtain⟨rfl,rfl⟩:=h;exact hk a hs
 |o::r,st,st',a,vc,hs,h,hv,hk=>by
  obtain⟨g1,g2⟩:=Zx (hs 0) (ops:=all) (o:=o);simp only[allPure] at h;split at h;cases h;rename_i hgd;split at h;rename_i st1 h1;unfold wpQuiet;rw[if_neg (by simp[g2 hgd])];exact Jn (λn=>Qi (hs n) h1 (λ_=>rfl) (λ_=>rfl)) h hv hk;cases h;rename_i g hgd;have hw:=g1 g hgd;split at h;rename_i sv vc' hp;split at h;rename_i st1 h1;obtain⟨⟨st2,vc2⟩,h2,h3⟩:=map_nil h;cases h3;unfold wpQuiet;by_cases hg:gHolds a g;rw[if_pos (hw.2 hg)];refine⟨sv.den ε,λw' ⟨n,hn⟩=>?_,?_⟩;subst hn;unfold Oper.quietAt;rw[Zv (hs n) hg hp (All.prem (hs n) hg hv.left)];exact⟨rfl,rfl⟩;exact Jn (λn=>Qi (hs n) h1 (λ_=>rfl) (λhn=>absurd hg hn)) h2 hv.right hk;rw[if_neg (λh=>hg (hw.1 h))];exact Jn (λn=>Qi (hs n) h1 (λh=>absurd h hg) (λ_=>rfl)) h2 hv.right hk;cases h;cases h
def kpost(P:Program)(b:Base):K->(Exit->Act->World->Prop)->Exit->Act->World->Prop
 |.code c,Q=>Exit.then (wpW b.ro P c Q) Q
 |.blk id,Q=>Exit.inBlock id Q
 |.ops all todo,Q=>Exit.then (wpListW P all.toArray Q todo) Q
 |.jmp J,Q=>Exit.then (J b) Q
 |.mix all listed n,Q=>Exit.then (λa w=>Region.noSelect all.toArray=true->wpAnyR P all.toArray (λa w=>Q .normal a w) n listed.toArray a w) Q
 |.rnd body n,Q=>Exit.then (Code.roundsIn (Wf b.ro) 0 P body Q n) Q
 |.mixAt all listed n i,Q=>Exit.then (λa w=>Region.noSelect all.toArray=true->wpOpR P all.toArray i (wpAnyR P all.toArray (λa w=>Q .normal a w) n (setL listed i).toArray) a w) Q
def contQ(P:Program)(b:Base)(Q:Exit->Act->World->Prop):List K->Exit->Act->World->Prop
 |[]=>Q
 |x::k=>kpost P b x (contQ P b Q k)
def Run(P:Program)(b:Base)(Q:Exit->Act->World->Prop)(k:List K)(st:St):Prop:=∀a w,Sat b st a w->contQ P b Q k .normal a w
theorem Qas{b:Base}{Q:Exit->Act->World->Prop}:∀(k:List K) {a:Act} {w:World},Q .ret a w->contQ P b Q k .ret a w
 |[],_,_,h=>h
 |x::k,_,_,h=>by
  have:=Qas (b:=b) k h;cases x<;>exact this
theorem Yt{b:Base}{Q:Exit->Act->World->Prop}{id:Nat}:∀(k k':List K) {a:Act} {w:World},popBlk id k=some k'->contQ P b Q k' .normal a w->contQ P b Q k (.exit id) a w
 |[],_,_,_,h,_=>by cases h
 |.blk id'::k,k',a,w,h,hq=>by simp only[popBlk] at h;show Exit.inBlock id' (contQ P b Q k) (.exit id) a w;unfold Exit.inBlock;split at h;grind[jf];rename_i hb;(have hne:id≠id':=λe=>by subst e;exact hb (Nat.beq_refl _));simp only[hne,if_false];exact Yt (b:=b) k k' h hq
 |.code c::k,k',a,w,h,hq=>Yt (b:=b) k k' h hq
 |.ops all todo::k,k',a,w,h,hq=>Yt (b:=b) k k' h hq
 |.jmp J::k,k',a,w,h,hq=>Yt (b:=b) k k' h hq
 |.mix ..::k,k',a,w,h,hq=>Yt (b:=b) k k' h hq
 |.mixAt ..::k,k',a,w,h,hq=>Yt (b:=b) k k' h hq
 |.rnd ..::k,k',a,w,h,hq=>Yt (b:=b) k k' h hq
def Enters(P:Program)(f:Nat):Prop:=∀args w,(callFunc f args).run P w=.ok (.enter f args) w
def OutOk(P:Program)(b:Base)(Q:Exit->Act->World->Prop):Out->Prop
 |.cond x k1 k2 _ st1 st2=>(x=true->Run P b Q k1 st1)/\(x=false->Run P b Q k2 st2)
 |.ret st=>∀a w,Sat b st a w->Q .ret a w
 |.call f args dst g d k0 k st=>Run P b Q k0 st\/(Enters P f/\∀(ε:Env) a w,SatE b st ε a w ->
    (gHolds a g->Calls P f (args.map (SV.den ε)).toArray w (λe w'=>∃v,e=.returned v/\(d=true->Grow w w')/\contQ P b Q k .normal (a.put dst v) w'))/\(¬gHolds a g->contQ P b Q k .normal (a.put dst undef) w))
 |.loop body k st=>∀a w,Sat b st a w->wpW b.ro P (Code.loop body) (contQ P b Q k) a w
 |.jump J st=>∀a w,Sat b st a w->J b a w
 |.fin st=>∀a w,Sat b st a w->Q .normal a w
 |.op all o todo k st=>∀a w,Sat b st a w->wpListW P all.toArray (contQ P b Q k) (o::todo) a w
 |.opR all listed n i k st=>Run P b Q (.mixAt all listed n i::k) st
 |.any all listed n l k st=>∀i∈l,Run P b Q (.mixAt all listed n i::k) st
 |.fail _=>False
theorem Q11(hs:SatE w0 st ε a w){g:List (Nat×Bool)}(hg:gHolds a g){o:Oper}{f:Nat}{args:List SV}(h:callOf st g o=some (f,args))(he:Enters P f):(execOp a.eval o).run P w=.ok (.enter f (args.map (SV.den ε)).toArray) w:=by
 obtain⟨dst,op,type,pos,after,guard⟩:=o;unfold callOf at h;simp only at h;split at h;rename_i fo as ts;split at h;rename_i id bnd caps vs hf hvs;have e1:(as.map a.eval)=(vs.map (SV.den ε)).toArray:=by grind[Jm,Array.ext',kK]
 have e2:(caps.map ε.at_).toArray=(caps.map (λr=>SV.den ε (.c (if isVar st r then .p r 0 else .h r)))).toArray:=by congr 1;refine ki λr _=>?_;by_cases hv:isVar st r=true;rw[if_pos hv];exact(Q80 hs.regs hv).symm;rw[if_neg hv];rfl
 split at h;cases h;simp only[execOp,resolve,Qa hs hg hf,C.den,fnDen,Deferred.ofValue,jp,jz,jk,invoke,e1,e2];rw[he];simp;cases h;simp only[execOp,resolve,Qa hs hg hf,C.den,fnDen,Deferred.ofValue,jp,jz,jk,invoke,e1,e2];rw[he];simp;cases h;cases h
theorem Qc3(hs:SatE w0 st ε a w){all:List Oper}{Q:Exit->Act->World->Prop}{g:List (Nat×Bool)}{o:Oper}{rest:List Oper}{f:Nat}{args:List SV}(hgd:guardOf all st o=.run g)(h:callOf st g o=some (f,args))(he:Enters P f)
 (hc:gHolds a g->Calls P f (args.map (SV.den ε)).toArray w (λe w'=>∃v,e=.returned v/\(false=true->Grow w w')/\wpListW P all.toArray Q rest (a.put o.dst v) w')) (hn:¬gHolds a g->wpListW P all.toArray Q rest (a.put o.dst undef) w):wpListW P all.toArray Q (o::rest) a w:=by
  have hw:=(Zx hs).1 _ hgd;by_cases hg:gHolds a g;refine Yz (hw.2 hg) ?_;unfold Oper.wp;rw[Q11 hs hg h he,Oper.upon_enter];exact(hc hg).mono λe w' ⟨v,hev,_,hk⟩=>by subst hev;exact hk
  exact Q0z (by rw[ky];exact λh=>hg (hw.1 h)) (hn hg)
theorem Qat{t:Nat}{b:Bool}(ht:get a t=.bool b):∀{g:List (Nat×Bool)},(∀g',cutG t b g=some g'->(gHolds a g'↔gHolds a g))/\(cutG t b g=none->¬gHolds a g)
 |[]=>⟨λg' h=>(by cases h;exact Iff.rfl),λh=>W268⟩
 |x::r=>by
  obtain⟨h1,h2⟩:=Qat ht (g:=r);have hcons:gHolds a (x::r)↔(get a x.1=.bool x.2/\gHolds a r):=⟨λh=>⟨h x (.head _),λy hy=>h y (.tail _ hy)⟩,λh y hy=>by cases hy with|head=>exact h.1|tail _ hy=>exact h.2 y hy⟩;simp only[cutG];cases hc:cutG t b r with|none =>grind|some r' =>have hr:=h1 r' hc;simp only;by_cases hx:jr x.1 t=true;have hxt:=jf hx;rw[if_pos hx];by_cases hb:beqB x.2 b=true;rw[if_pos hb];refine⟨λg' h=>?_,λh=>W268⟩;cases h;rw[hcons,hr];exact⟨λh=>⟨by rw[hxt,ht,Zt.1 hb],h⟩,λh=>h.2⟩;rw[if_neg hb];refine⟨λg' h=>W268,λ_ h=>?_⟩;have:=(hcons.1 h).1;rw[hxt,ht] at this;injection this with this;exact hb (Zt.2 this.symm);rw[if_neg hx];grind[gHolds,get]
theorem Q87(hs:SatE w0 st ε a w){t:Nat}{b:Bool}(ht:get a t=.bool b):SatE w0 (litT st t b) ε a w:=by
 refine⟨hs.defs,hs.size,λe he=>?_,hs.regs,hs.below,hs.pre⟩;obtain⟨e0,he0,rfl⟩:=List.mem_map.1 he;obtain⟨g1,g2,g3⟩:=hs.fr e0 he0;unfold litEn;split;rename_i hb;have:=jf hb;refine⟨g1,λ_=>?_,λhn=>absurd (gHolds_nil a) hn⟩;show get a e0.slot=_;rw[this,ht];rfl;obtain⟨h1,h2⟩:=Qat ht (g:=e0.g);split;rename_i g' hg';exact⟨g1,λh=>g2 ((h1 g' hg').1 h),λh=>g3 (λh'=>h ((h1 g' hg').2 h'))⟩;rename_i hg';exact⟨g1,λ_=>g3 (h2 hg'),λhn=>absurd (gHolds_nil a) hn⟩
theorem Qau(hs:SatE w0 st ε a w){c:Operand}{x y:Bool}(hc:opndC st [] c=some (.b x))(hxy:x=y):SatE w0 (lit st c y) ε a w:=by
 unfold lit;split;rename_i t;refine Q87 hs ?_;have:=Qa hs (gHolds_nil a) hc;have e:a.eval (.tmp t)=get a t:=rfl;rw[e] at this;rw[this,<- hxy];rfl;exact hs
theorem Q12:∀{g:List (Nat×Bool)} {t:Nat} {x:Bool},splitOn st g=some (t,x)->∃e,lookup t st.fr=some e/\e.g=[]/\e.sv=.c (.b x)
 |[],_,_,h=>by cases h
 |(t0,_)::r,t,x,h=>by
  simp only[splitOn] at h;split at h;rename_i e he;split at h;grind;exact Q12 h;exact Q12 h
theorem Zg(hs:SatE w0 st ε a w){g:List (Nat×Bool)}{t:Nat}{x y:Bool}(h:splitOn st g=some (t,x))(hxy:x=y):SatE w0 (litT st t y) ε a w:=by
 obtain⟨e,he,hg,hsv⟩:=Q12 h;obtain⟨hm,hsl⟩:=Yy he;refine Q87 hs ?_;have:=(hs.fr e hm).2.1 W306;rw[hsl,hsv] at this;rw[this,<- hxy];rfl
theorem SatE.grow(hs:SatE w0 st ε a w)(hg:Grow w w'):SatE w0 st ε a w':=
 ⟨hs.defs,hs.size,hs.fr,hs.regs.world hg.size hg.block,hs.below.step hg.os hg.tape hg.output hg.size (λk hk _=>hg.block k (jN hk hs.below.size)),hs.pre⟩
def Base.of(b:Base)(w:World):Base:=⟨w,[],λ_=>False,λ_=>True,b.ro,b.d⟩
theorem SatE.dim(hs:SatE w0 st ε a w)(w':World):SatE (Base.of w0 w') st.dim ε a w':=by
 have key:∀(i:Nat) (r:Reg),st.dim.rg[i]?=some r->r=.dead:=λi r hi=>by simp only[St.dim,jy] at hi;cases h:st.rg[i]?<;>rw[h] at hi<;>cases hi;rfl
 refine⟨hs.defs,hs.size,hs.fr,⟨by simp[St.dim,hs.regs.len],λi r hi=>?_,λi r hi hl=>?_,λi r hi he=>?_,λi j ri rj _ hi _ he=>?_⟩,Fr.refl _ _,List.nil_prefix⟩;rw[key i r hi];trivial;rw[key i r hi] at hl;cases hl;rw[key i r hi] at he;cases he;rw[key i ri hi] at he;cases he
theorem Qp7{M:Nat->Prop}{e:Ent}{r:Reg}(hr:RegOk ε M w e r)(hlt:r.live=true->∀b,e.fp b->b<w.heap.size)(M':Nat->Prop):RegOk ε M' w e r.roOf:=by
 cases r with|box ty cells =>obtain⟨g,h1,h2,h3,h4⟩:=hr;refine⟨_,h1,hlt rfl g h3,h3,λj x hx=>?_⟩;rw[Jl h4];simp[hx]|own ty size n f foc =>(cases foc with|none=>exact⟨Z4 hr.1 (λi j fp' u _ _ hf hu=>Zw (f i j) hf hu),trivial⟩|some kc =>obtain⟨k,cs⟩:=kc;refine⟨Z4 hr.1 (λi j fp' u _ _ hf hu=>⟨?_,hu.2⟩),hr.2⟩;show RdC w e.fp (if i=k then TC.any else f i j) u;by_cases hik:i=k;rw[if_pos hik];trivial;rw[if_neg hik];exact Zw (f i j) hf (hu.1 hik))|row size n f foc=>exact hr|ro cells=>exact hr|dead=>trivial|one=>exact hr|froz X=>exact hr|mp T n has f it=>trivial|itr q=>exact hr|mpv T z n ents=>trivial|mpr T ty size n f opn=>trivial
theorem Qav(r:Reg):r.roOf.excl=false:=by
 cases r with|own ty size n f foc=>cases foc<;>rfl|_=>rfl
theorem Qj6{r:Reg}(h:r.roOf.live=true):r.live=true:=by
 cases r with|dead=>cases h|one=>cases h|itr q=>cases h|_=>rfl
theorem SatE.roOf(hs:SatE w0 st ε a w):SatE (Base.of w0 w) st.roOf ε a w:=by
 have key:∀(i:Nat) (r:Reg),st.roOf.rg[i]?=some r->∃r0:Reg,st.rg[i]?=some r0/\r=r0.roOf:=λi r hi=>by simp only[St.roOf,jy] at hi;grind
 refine⟨hs.defs,hs.size,hs.fr,⟨by simp[St.roOf,hs.regs.len],λi r hi=>?_,λi r hi hl b hb=>?_,λi r hi he=>?_,λi j ri rj _ hi _ he=>?_⟩,Fr.refl _ _,List.nil_prefix⟩;obtain⟨r0,h0,rfl⟩:=key i r hi;exact Qp7 (hs.regs.reg i r0 h0) (λhl b hb=>(hs.regs.lt i r0 h0 hl b hb).1) _;obtain⟨r0,h0,rfl⟩:=key i r hi;exact⟨(hs.regs.lt i r0 h0 (Qj6 hl) b hb).1,.inr trivial⟩;obtain⟨r0,h0,rfl⟩:=key i r hi;rw[Qav] at he;cases he;obtain⟨r0,h0,rfl⟩:=key i ri hi;rw[Qav] at he;cases he
theorem Fr.toGrow(h:Fr (λ_=>False) w w'):Grow w w':=⟨h.os,h.tape,h.output,h.size,λk hk=>h.block k hk (λh=>h)⟩
theorem Q2n{all:List Oper}{listed:List Bool}{i:Nat}{o:Oper}{st':St}{vc:List Prop}(hs:SatE w0 st ε a w)(hsel:Region.noSelect all.toArray=true)(ho:all[i]?=some o)
 (h:takePure P all listed st i o=some (st',vc)) (hv:All vc) {Q:Act->World->Prop} {n:Nat} (hk:∀v,SatE w0 st' ε (a.put o.dst v) w->wpAnyR P all.toArray Q n (setL listed i).toArray (a.put o.dst v) w):wpAnyR P all.toArray Q (n+1) listed.toArray a w:=by
  unfold takePure at h;split at h;rename_i hr;have hrd:=Z9.1 hr;have hsel':=Region.noSelect_spec hsel;obtain⟨g1,g2⟩:=Zx hs (ops:=all) (o:=o);have ho':all.toArray[i]?=some o:=by simpa using ho
  split at h;cases h;rename_i hgd;split at h;rename_i hfree;obtain⟨st1,h1,h2⟩:=map_nil h;cases h2;have:=hk undef (Qi hs h1 (λ_=>rfl) (λ_=>rfl));rw[Ya] at this;refine Zm (λj=>hasN j (depsL listed i 0 all [])=true) (C:=λ_=>True) ho' hsel' (λ_ _ _ _=>trivial) n _ a w (λj oj hj hne hun hno=>?_) Q2m hrd trivial (.inr ⟨g2 hgd,rfl⟩) this;obtain⟨e1,_⟩:=Gu (λk=>by simp) hfree j oj (jE _) W299 hne hun hno;exact⟨e1,.inr λ_=>trivial⟩;cases h;rename_i g hgd;have hw:=g1 g hgd;split at h;rename_i sv vc' hp;split at h;rename_i hfree;obtain⟨st1,h1,h2⟩:=map_nil h;cases h2;by_cases hg:gHolds a g;have:=hk (sv.den ε) (Qi hs h1 (λ_=>rfl) (λhn=>absurd hg hn));rw[Ya] at this;refine Zm (λj=>hasN j (depsL listed i 0 all [])=true) (C:=λ_=>True) ho' hsel' (λ_ _ _ _=>trivial) n _ a w (λj oj hj hne hun hno=>?_) Q2m hrd trivial (.inl ⟨hw.2 hg,λw' _=>Zv (hs.dim w') hg hp (All.prem hs hg hv)⟩) this;obtain⟨e1,_⟩:=Gu (λk=>by simp) hfree j oj (jE _) W299 hne hun hno;exact⟨e1,.inr λ_=>trivial⟩;have:=hk undef (Qi hs h1 (λh=>absurd h hg) (λ_=>rfl));rw[Ya] at this;refine Zm (λj=>hasN j (depsL listed i 0 all [])=true) (C:=λ_=>True) ho' hsel' (λ_ _ _ _=>trivial) n _ a w (λj oj hj hne hun hno=>?_) Q2m hrd trivial (.inr ⟨by rw[ky];exact λh=>hg (hw.1 h),rfl⟩) this;obtain⟨e1,_⟩:=Gu (λk=>by simp) hfree j oj (jE _) W299 hne hun hno;exact⟨e1,.inr λ_=>trivial⟩;cases h;split at h;rename_i sv vc' hp;split at h;rename_i hfree;obtain⟨st1,h1,h2⟩:=map_nil h;cases h2;have free:=λj oj (hj:all.toArray[j]?=some oj) hne hun hno=>Gu (λk=>by simp) hfree j oj (jE _) W299 hne hun hno;by_cases hg:gHolds a g;have:=hk (sv.den ε) (Qi hs h1 (λ_=>rfl) (λhn=>absurd hg hn));rw[Ya] at this;refine Zm (λj=>hasN j (depsL listed i 0 all [])=true) (C:=λw'=>Grow w w') ho' hsel' (λ_ _ h h'=>h.trans h') n _ a w (λj oj hj hne hun hno=>?_) Q2m hrd (Grow.refl w) (.inl ⟨hw.2 hg,λw' hgr=>Zv (hs.grow hgr) hg hp (All.prem hs hg hv)⟩) this;grind;have:=hk undef (Qi hs h1 (λh=>absurd h hg) (λ_=>rfl));rw[Ya] at this;refine Zm (λj=>hasN j (depsL listed i 0 all [])=true) (C:=λw'=>Grow w w') ho' hsel' (λ_ _ h h'=>h.trans h') n _ a w (λj oj hj hne hun hno=>?_) Q2m hrd (Grow.refl w) (.inr ⟨by rw[ky];exact λh=>hg (hw.1 h),rfl⟩) this;grind;cases h;cases h;cases h
theorem Q0a{all:List Oper}{listed:List Bool}{i:Nat}{st':St}{vc:List Prop}:∀{l:List Oper} {j0:Nat},(∀k,l[k]?=all[j0+k]?)->findPure P all listed st j0 l=some (i,st',vc)->∃o,all[i]?=some o/\takePure P all listed st i o=some (st',vc)
 |[],_,_,h=>by cases h
 |o::l,j0,hl,h=>by
  simp only[findPure] at h;split at h;rename_i x hx;cases h;exact⟨o,by simpa using(hl 0).symm,hx⟩;exact Q0a (j0:=j0+1) (λk=>by have:=hl (k+1);simpa[kM,Nat.add_comm 1 k] using this) h
theorem Qaw{b:Base}{cb:Bool}(hs:SatE w0 st ε a w){o:Oper}{st1:St}{sv:SV}{vc vc':List Prop}(h:effOp P st o=some (st1,sv,vc))(hc:effCalm P cb st o=some vc')(hv:All vc)(hv':All vc'){K:Act->World->Prop}
 (hk:∀v w' ε',v=sv.den ε'->SatE w0 st1 ε' a w'->K (a.put o.dst v) w'):stepR P cb o a w K:=by
  obtain⟨w',ε',hrun,hsat⟩:=Q4x hs h hv;have hgrow:cb=true->Grow w w':=λhcl=>by unfold effCalm at hc;rw[if_pos hcl] at hc;cases he:effOp P st.roOf o with|none=>rw[he] at hc;cases hc|some x =>obtain⟨st2,sv2,vc2⟩:=x;rw[he] at hc;cases hc;obtain⟨w2,ε2,hrun2,hsat2⟩:=Q4x hs.roOf he hv';(have:w2=w':=by grind);subst this;exact hsat2.below.toGrow
  unfold stepR;grind
theorem Qp{b:Base}(hm:P.follows .mixedOrders=true){Q:Exit->Act->World->Prop}:∀(fuel:Nat) (k:List K) (st:St) (vc:List Prop) (out:Out),seg P fuel k st=(vc,out)->All vc->OutOk P b Q out->Run P b Q k st
 |0,k,st,vc,out,h,_,ho=>by simp only[seg,Prod.mk.injEq] at h;obtain⟨rfl,rfl⟩:=h;exact ho.elim
 |fuel+1,k,st,vc,out,h,hv,ho=>by
  have ih:=Qp (b:=b) hm (Q:=Q) fuel;intro a w hsat;unfold seg at h;split at h;cases h;exact ho a w hsat;cases h;exact ho a w hsat;rename_i id k';exact ih _ _ _ _ h hv ho a w hsat;cases h;exact ho.elim;rename_i body n k';show Code.roundsIn (Wf b.ro) 0 P body (contQ P b Q k') (n+1) a w;rw[roundsIn_succ];exact ih _ _ _ _ h hv ho a w hsat;rename_i o k';exact ih _ _ _ _ h hv ho a w hsat;rename_i all o todo k';obtain⟨ε,hs⟩:=hsat;split at h;rename_i st' vc' hst;simp only[Prod.mk.injEq] at h;obtain⟨rfl,rfl⟩:=h;exact Qcu (Q:=contQ P b Q k') hs hst hv.left (λa w hs'=>ih _ _ _ _ rfl hv.right ho a w hs');split at h;rename_i g hgd;split at h;rename_i f args hc;cases h;rcases ho with ho|⟨he,hcall⟩;exact ho a w ⟨ε,hs⟩;exact Qc3 (Q:=contQ P b Q k') hs hgd hc he (hcall ε a w hs).1 (hcall ε a w hs).2;split at h;rename_i t x hsp;cases h;cases hx:x with|true=>exact ho.1 hx a w ⟨ε,Zg hs hsp hx⟩|false=>exact ho.2 hx a w ⟨ε,Zg hs hsp hx⟩
  cases h;exact ho a w ⟨ε,hs⟩;cases h;exact ho a w ⟨ε,hs⟩;rename_i all listed n k';obtain⟨ε,hs⟩:=hsat;intro hsel;split at h;rename_i i st' vc' hfp;split at h;cases h;exact ho.elim;rename_i n';simp only[Prod.mk.injEq] at h;obtain⟨rfl,rfl⟩:=h;obtain⟨o,hoi,htp⟩:=Q0a (λk=>by simp) hfp;exact Q2n hs hsel hoi htp hv.left (λv hs'=>ih _ _ _ _ rfl hv.right ho _ w ⟨ε,hs'⟩ hsel);split at h;rename_i hr;have hr':=Q84 hr;have hq:=ih _ _ _ _ h hv ho a w ⟨ε,hs⟩;cases n with|zero=>exact⟨hr',hq⟩|succ n=>exact⟨λ_=>hq,λi hi=>by rw[hr'] at hi;cases hi⟩
  rename_i i hr;split at h;cases h;exact ho.elim;rename_i n';have hq:=ih _ _ _ _ h hv ho a w ⟨ε,hs⟩ hsel;refine⟨λh0=>?_,λj hj=>?_⟩;have hi:i∈readyL all listed:=by rw[hr];exact .head _
  have:=Z9.1 (List.mem_filter.1 hi).2;rw[h0] at this;cases this;have:=Q3h hj;grind[Ya];rename_i l hne1 hne2;split at h;cases h;exact ho.elim;rename_i n';cases h;refine⟨λh0=>?_,λj hj=>?_⟩;cases hl:readyL all listed with|nil=>exact absurd hl hne1|cons i l =>(have hi:i∈readyL all listed:=by rw[hl];exact .head _);have:=Z9.1 (List.mem_filter.1 hi).2;rw[h0] at this;cases this
  have hq:=ho j (Q3h hj) a w ⟨ε,hs⟩ hsel;rw[<- Ya];exact hq;rename_i all listed n i k';obtain⟨ε,hs⟩:=hsat;intro hsel;split at h;cases h;exact ho.elim;rename_i o hoi;rw[Qq] at hoi;have hoi':all.toArray[i]?=some o:=by simpa using hoi
  obtain⟨g1,g2⟩:=Zx hs (ops:=all) (o:=o);split at h;rename_i hgd;have hw:=(g1 _ hgd).2 (gHolds_nil a);unfold wpOpR;simp only[hoi',hw,if_true];split at h;rename_i st' sv vc1 vc2 he hc;split at h;rename_i st'' hput;simp only[Prod.mk.injEq] at h;obtain⟨rfl,rfl⟩:=h;exact Qaw (b:=b) hs he hc hv.left.right hv.left.left (λv w' ε' hve hs'=>ih _ _ _ _ rfl hv.right ho _ w' ⟨ε',Qi hs' hput (λ_=>hve) (λhn=>absurd (gHolds_nil _) hn)⟩ hsel);cases h;exact ho.elim;split at h;rename_i f args hco;cases h;rcases ho with ho|⟨hen,hcall⟩;have:=ho a w ⟨ε,hs⟩ hsel;simp_all[wpOpR,if_true];unfold stepR;rw[Q11 hs (gHolds_nil a) hco hen];exact((hcall ε a w hs).1 (gHolds_nil a)).mono λe w' ⟨v,h1,h2,h3⟩=>⟨v,h1,λhc=>h2 hc,h3 hsel⟩;split at h;rename_i sv vc' hp;split at h;rename_i st'' hput;simp only[Prod.mk.injEq] at h;obtain⟨rfl,rfl⟩:=h;unfold stepR;rw[Zv hs (gHolds_nil a) hp hv.left];exact⟨λ_=>⟨rfl,rfl,rfl,jo _,λ_ _=>rfl⟩,ih _ _ _ _ rfl hv.right ho _ w ⟨ε,Qi hs hput (λ_=>rfl) (λhn=>absurd (gHolds_nil _) hn)⟩ hsel⟩;cases h;exact ho.elim;split at h;cases h;have:=ho a w ⟨ε,hs⟩ hsel;simp_all[wpOpR,if_true];cases h;exact ho.elim;rename_i g hne hgd;have hw:=g1 _ hgd;split at h;rename_i f args hco;cases h;rcases ho with ho|⟨hen,hcall⟩;exact ho a w ⟨ε,hs⟩ hsel;unfold wpOpR;simp only[hoi'];by_cases hg:gHolds a g;simp only[hw.2 hg,if_true];unfold stepR;rw[Q11 hs hg hco hen];exact((hcall ε a w hs).1 hg).mono λe w' ⟨v,h1,h2,h3⟩=>⟨v,h1,λhc=>h2 hc,h3 hsel⟩;have hwf:Region.wanted o (yielded all.toArray a.tmps)=false:=by rw[ky];exact λh=>hg (hw.1 h)
  simp only[hwf,jY,if_false];exact(hcall ε a w hs).2 hg hsel;split at h;rename_i t x hsp;cases h;cases hx:x with|true=>exact ho.1 hx a w ⟨ε,Zg hs hsp hx⟩ hsel|false=>exact ho.2 hx a w ⟨ε,Zg hs hsp hx⟩ hsel
  cases h;exact ho.elim;rename_i hgd;split at h;rename_i st' hput;have hw:=g2 hgd;unfold wpOpR;simp only[hoi',hw,jY,if_false];exact ih _ _ _ _ h hv ho _ w ⟨ε,Qi hs hput (λ_=>rfl) (λ_=>rfl)⟩ hsel;cases h;exact ho.elim;cases h;exact ho.elim;rename_i k';exact wpIn_skip (ih _ _ _ _ h hv ho a w hsat);rename_i l k';exact wpIn_label (ih _ _ _ _ h hv ho a w hsat);rename_i c d k';exact wpIn_seq (ih _ _ _ _ h hv ho a w hsat);rename_i id c k';exact wpIn_block (ih _ _ _ _ h hv ho a w hsat);rename_i id k';split at h;rename_i k2 hp;exact wpIn_exit (Yt _ _ hp (ih _ _ _ _ h hv ho a w hsat));cases h;exact ho.elim;rename_i k';cases h;exact wpIn_ret (Qas _ (ho a w hsat));rename_i c x y k';obtain⟨ε,hs⟩:=hsat;split at h;rename_i hc;exact wpIn_cond_true (Qa hs (gHolds_nil a) hc) (ih _ _ _ _ h hv ho a w ⟨ε,hs⟩);rename_i hc;exact wpIn_cond_false (Qa hs (gHolds_nil a) hc) (ih _ _ _ _ h hv ho a w ⟨ε,hs⟩);rename_i x hc;cases h;exact wpIn_cond_split (Qa hs (gHolds_nil a) hc) (λhx=>ho.1 hx a w ⟨ε,Qau hs hc hx⟩) (λhx=>ho.2 hx a w ⟨ε,Qau hs hc hx⟩);cases h;exact ho.elim;rename_i c k';cases h;exact ho a w hsat;rename_i id ops draw k';split at h;cases h;exact ho.elim;rename_i hnd;have hnd:ops.toList.all noDefer=true:=by simpa using hnd
  split at h;rename_i hd;subst hd;split at h;rename_i st' vc' hpure hlex;simp only[Prod.mk.injEq] at h;obtain⟨rfl,rfl⟩:=h;obtain⟨ε,hs⟩:=hsat;simp only[jg,jC] at hlex;have hro:(Wf b.ro).round=none:=hs.defs.2 hlex.1;refine wpIn_region_quiet (F:=Wf b.ro) (n:=0) (C:=λw'=>∃n,w'=w.drewN n) hro hm hlex.2 ⟨1,rfl⟩ ?_;have:=Jn (P:=P) (all:=ops.toList) (K:=λa'=>∀w',(∃n,w'=w.drewN n)->contQ P b Q k' .normal a' w') (λn=>hs.drewN n) hpure hv.left (λa' hs' w' ⟨n,hn⟩=>by subst hn;exact ih _ _ _ _ rfl hv.right ho a' _ ⟨ε,hs' n⟩);refine Q10 ?_;simpa using this;split at h;rename_i hsel;refine Q9d hm hnd ?_;obtain⟨ε,hs⟩:=hsat;have:=ih _ _ _ _ h hv ho a { w with drawn:=w.drawn+1 } ⟨ε,hs.same rfl rfl rfl rfl⟩ (by simpa using hsel);simpa using this;cases h;exact ho.elim;rename_i hd;have hd':draw=false:=by simpa using hd
  subst hd';refine Q86 hnd ?_;have:=ih _ _ _ _ h hv ho a w hsat;have e:contQ P b Q (.ops ops.toList ops.toList::k') .normal a w=wpListW P ops.toList.toArray (contQ P b Q k') ops.toList a w:=rfl;rw[e] at this;simpa using this;all_goals (cases h;exact ho.elim)
end
end Go.Tx
