/-
  A part of the proof. Text 4 of 10: TxZ TxO Ent EntB EntG EntO Data DataU Spec SpecW SpecN SpecSe SpecNm SpecV SpecTb SpecHd SpecCk SpecBo SpecRe SpecAh SpecBk SpecMt SpecLt SpecLv SpecLi SpecLj SpecLw DataG SpecFt TxU SpecRg.
-/
import Derived.Test.YtnddggenhefaeaaGreatDoorP3
import Derived.Test.YtnddggenhefaeaaGreatDoorRows
import Derived.Test.YtnddggenhefaeaaGreatDoorP1
import Derived.Laws.BitsAllLaws
import Derived.DeepKeys4
import Derived.Maps.RangeWalk
import Derived.StringKeys
set_option linter.unusedSimpArgs false
set_option linter.unusedVariables false
open Nat renaming le_refl->jo,zero_le->jE,beq->jr,eq_of_beq_eq_true->jf,mul_le_mul_right->kB,blt->kv,le_trans->kf,lt_of_lt_of_le->jN
open List renaming getD_eq_getElem?_getD->jc,getElem?_set_ne->j6,mem_of_getElem?->jB,mem_singleton->jG,mem_cons_self->kb,mem_cons_of_mem->j7,length_take->jO,length_set->jq,getElem?_set_self->kp,map_cons->jW,getElem?_append_right->jJ,range->jv,getElem?_map->jy,getElem?_range->kI,getElem?_eq_none->kd,getElem?_eq_getElem->jh,drop_eq_nil_of_le->j4,append_nil->jR,length_append->jm,replicate->jd,mem_append->kq,getElem?_replicate->ke,ext_getElem->ku,length_map->jK,getElem_mem->jT,map_congr_left->ki,take->jZ,mem_cons->kC,not_mem_nil->km,take_succ_eq_append_getElem->jF,mem_append_left->j5,take_of_length_le->jU,length_singleton->jP,length_cons->kj,eq_nil_of_length_eq_zero->kw,append_assoc->jM,length_replicate->ju,range_succ->kt,map_append->kG
open Bool renaming and_eq_true->jg,not_eq_true'->jC,eq_false_iff->ky,or_eq_false_iff->kg,not_eq_false'->j9,or_eq_true->jQ,true_and->kr
open Option renaming map_some->jX
open Go.Proofs.Tryz renaming prog->ja
open Go.BinOp renaming and->kh,or->kF
open Go.IntKind renaming u8->jD,u64->j8,i64->jb
open Go.Value renaming int->jn,bool->jL
open Int renaming le_refl->jl,toNat_natCast->kE
open Inhabited renaming default->kQ
namespace Go
theorem W0{p:Prop}(h:p:=by first|assumption|exact hn.a|exact hn.b|exact hn.slot (by omega)|decide|exact Nat.le_of_ble_eq_true rfl|omega|exact W318):p:=h
theorem W219{p:Prop}(h:p:=by decide):p:=h
theorem W272{p:Prop}(h:p:=by show st.length≠0;omega):p:=h
theorem W301{p:Prop}(h:p:=by rw[h];decide):p:=h
theorem W303{p:Prop}(h:p:=by rw[Qc (show m<l.length by omega)];exact List.getElem_mem _):p:=h
theorem W318{p:Prop}(h:p:=by simp only[List.length_append,Ze,List.length_cons,List.length_nil];have y1:=J4 (gm:=gm) (v:=n.a) (r:=13);have y2:=J4 (gm:=gm) (v:=n.b) (r:=14);have y3:=Qba (gm:=gm) (s:=n.slot);have y4:=Q5l (gm:=gm) (v:=n.a) (r:=gGoal gm n.slot);have y5:=Q5l (gm:=gm) (v:=n.a) (r:=15);omega):p:=h
end Go
namespace Go.Tx
open Go Go.RowKit
def Ext.Tab(X:Ext)(y:Value)(size n:Nat)(f:Nat->Nat->TC):Prop:=RdRow X.w0 X.ro y size n (λi j u=>RdC X.w0 X.ro (f i j) u)
def Ext.Into(X X':Ext):Prop:=∀y size n f,X.Tab y size n f->X'.Tab y size n f
theorem Ext.Tab.nil(X:Ext)(size:Nat)(f:Nat->Nat->TC):X.Tab (.slice none 0 0) size 0 f:=⟨none,0,rfl,jo _,jE _,λ_ h _=>W268,λh=>absurd h W48⟩
theorem RdRow.keep{w w':World}{fp fp':Nat->Prop}{h:Value}{size n:Nat}{ok ok':Nat->Nat->Value->Prop}(hr:RdRow w fp h size n ok)(hb:∀b,fp b->fp' b/\b<w'.heap.size/\w'.heap[b]?=w.heap[b]?)
 (hok:∀i j u,i<n->j<size->ok i j u->ok' i j u):RdRow w' fp' h size n ok':=by
  obtain⟨A,c,rfl,h1,h2,ha,hc⟩:=hr;refine⟨A,c,rfl,h1,h2,λa e hp=>⟨(hb _ (ha a e hp).2).2.1,(hb _ (ha a e hp).2).1⟩,λhn=>?_⟩;obtain⟨ad,rfl,hc2⟩:=hc hn;refine⟨ad,rfl,λi j hi hj=>?_⟩;obtain⟨u,h3,h4⟩:=hc2 i j hi hj;refine⟨u,?_,hok i j u hi hj h4⟩;rw[World.cell?_of_block (w:=w)];exact h3;rw[Jt];exact(hb _ (ha ad rfl hn).2).2.2
theorem RdC.keep{w w':World}{fp fp':Nat->Prop}(hb:∀b,fp b->fp' b/\b<w'.heap.size/\w'.heap[b]?=w.heap[b]?):∀(t:TC) {v:Value},RdC w fp t v->RdC w' fp' t v
 |.val x,v,h=>h
 |.any,v,h=>h
 |.sub ty size n f,v,h=>RdRow.keep (w':=w') h hb (λi j u _ _ hu=>RdC.keep hb (f i j) hu)
theorem Ext.Tab.keep{X:Ext}{w:World}{fp:Nat->Prop}(hb:∀b,X.ro b->fp b/\b<w.heap.size/\w.heap[b]?=X.w0.heap[b]?){y:Value}{size n:Nat}{f:Nat->Nat->TC}(h:X.Tab y size n f) :
 RdRow w fp y size n (λi j u=>RdC w fp (f i j) u):=RdRow.keep h hb (λi j u _ _ hu=>RdC.keep hb (f i j) hu)
def unH(r:Nat)(y:Value):SV->SV
 |.c (.h q)=>match jr q r with
   |true=>.c (.v y)
   |false=>.c (.h q)
 |s=>s
def unHs(r:Nat)(y:Value)(e:En):En:=⟨e.slot,e.g,unH r y e.sv⟩
theorem Qpd{ε:Env}{r:Nat}{y:Value}(h:ε.at_ r=y)(s:SV):(unH r y s).den ε=s.den ε:=by
 unfold unH;split;split;rename_i q hq;have:=jf hq;subst this;exact h.symm;rfl;rfl
def svsAt(s:Nat):List En->List SV
 |[]=>[]
 |e::r=>match jr e.slot s with
   |true=>e.sv::svsAt s r
   |false=>svsAt s r
def putH(s:Nat)(new:SV)(e:En):En:=match jr e.slot s with
 |true=>⟨e.slot,e.g,new⟩
 |false=>e
theorem Q56{s:Nat}:∀{l:List En} {e:En},e∈l->jr e.slot s=true->e.sv∈svsAt s l
 |x::r,e,h,he=>by
  rcases List.mem_cons.1 h with rfl|h;simp only[svsAt,he];exact .head _;simp only[svsAt];split;exact .tail _ (Q56 h he);exact Q56 h he
def tabinSt(st:St)(r t:Nat)(X':Ext)(y:Value):St:={ st with fr:=st.fr.map (unHs r y),rg:=(st.rg.set r .dead).set t (.froz X') }
def taboutSt(st:St)(s size n:Nat)(f:Nat->Nat->TC):St:={ st with fr:=st.fr.map (putH s (.c (.h st.rg.length))),rg:=st.rg++[.row size n f none] }
def tabnewSt(st:St)(X:Ext):St:={ st with rg:=st.rg++[.froz X] }
def cutV(v:Value)(k:Nat):Value:=match v with
 |.slice A _ c=>.slice A k c
 |v=>v
theorem Qpe(v:Value)(k:Nat):pieceV v 0 k=cutV v k:=by
 cases v<;>try rfl
 rename_i A n c;cases A with|none=>rfl|some ad=>cases ad;simp[pieceV,cutV,Addr.add]
def unP(r:Nat)(y:Value):SV->SV
 |.c (.hs q 0 k)=>match jr q r with
   |true=>.c (.v (cutV y k))
   |false=>.c (.hs q 0 k)
 |s=>s
def unPs(r:Nat)(y:Value)(e:En):En:=⟨e.slot,e.g,unP r y e.sv⟩
theorem Qpf{ε:Env}{r:Nat}{y:Value}(h:ε.at_ r=y)(s:SV):(unP r y s).den ε=s.den ε:=by
 unfold unP;split;split;rename_i q k hq;have h1:=jf hq;subst h1 h;exact(Qpe _ _).symm;rfl;rfl
def tabinPSt(st:St)(r t:Nat)(X':Ext)(y:Value):St:={ st with fr:=st.fr.map (unPs r y),rg:=(st.rg.set r .dead).set t (.froz X') }
def Cfg.here(P:Program)(c:Cfg):Option Cfg:=match(seg P 5000 c.k c.st).2 with
 |.op all o todo k st=>some ⟨.ops all (o::todo)::k,st⟩
 |_=>none
def Cfg.hereJ(P:Program)(c:Cfg):Option Cfg:=match(seg P 5000 c.k c.st).2 with
 |.jump J st=>some ⟨[.jmp J],st⟩
 |_=>none
section
variable {P:Program} {fn:Func} {n0:Nat} {U:Tgt} {c:Cfg}
theorem RunF.hereJ[hw:Wide P]{vc:List Prop}(h:(seg P 5000 c.k c.st).1=vc)(hj:(c.hereJ P).isSome=true)(hv:Conj vc)(next:RunF P fn n0 U (orNo (c.hereJ P))):RunF P fn n0 U c:=by
 unfold RunF at next⊢;intro b hb;unfold Cfg.hereJ at next hj;generalize hg:seg P 5000 c.k c.st=rr at h hj next;obtain⟨vc',out⟩:=rr;cases out<;>first|(cases hj;done)|skip
 case jump J' st =>cases h;exact Qp hw.mixed 5000 _ _ _ _ hg hv.toAll (λa w hsat=>next b hb a w hsat)
theorem RunF.here[hw:Wide P]{vc:List Prop}(h:see P fn c=(vc,.op))(hv:Conj vc)(next:RunF P fn n0 U (orNo (c.here P))):RunF P fn n0 U c:=by
 unfold RunF at next⊢;intro b hb;unfold see at h;unfold Cfg.here at next;generalize hg:seg P 5000 c.k c.st=rr at h next;obtain⟨vc',out⟩:=rr;cases out<;>simp only[Prod.mk.injEq,reduceCtorEq,and_false] at h;case op all o todo k st =>obtain⟨rfl,_⟩:=h;exact Qp hw.mixed 5000 _ _ _ _ hg hv.toAll (λa w hsat=>next b hb a w hsat)
 all_goals grind[callV]
theorem RunF.cutn[hw:Wide P]{X:Type}(m:Nat)(I:X->St)(J:X->Prop)(h1:RunF P fn n0 U ⟨cutK (AtSt I J) m (flatK 200 (openK 50 c.k)),c.st⟩)(h2:∀x,J x->RunF P fn n0 U ⟨(flatK 200 (openK 50 c.k)).drop m,I x⟩):RunF P fn n0 U c:=by
 unfold RunF at *;intro b hb a w hs;exact G5 50 _ (Jo 200 _ _ _ _ (Q3m m _ (λa w ⟨x,hx,hs⟩=>h2 x hx b hb a w hs) _ _ _ (h1 b hb a w hs)))
theorem RunF.tabnew(hsc:c.st.scp=true)(next:∀X:Ext,RunF P fn n0 U ⟨c.k,tabnewSt c.st X⟩):RunF P fn n0 U c:=by
 unfold RunF at next⊢;intro b hb a w ⟨ε,hs⟩;refine next ⟨0,0,λ_=>.u,λ_ _ _ _=>True,λ_=>False,w⟩ b hb a w ⟨ε++[⟨.slice none 0 0,λ_=>False⟩],?_⟩;exact hs.add hsc hs.below (jo _) (λ_ _ _ _ _ _=>rfl) (λb h=>h.elim) (λ_ b h=>h.elim) (λh=>by cases h) (λb h=>h.elim)
abbrev zen(y0:Env)(y1 y2:Nat):Ent:=⟨y0.at_ y1,λb=>y0.fp y1 b\/y0.fp y2 b⟩
theorem RunF.tabinG(r t:Nat)(T:Ext->Value->St)(Y:Value->Value)(V:Value->SV->SV)
 (hT:∀X' y,T X' y={ c.st with fr:=c.st.fr.map (λe=>⟨e.slot,e.g,V y e.sv⟩),rg:=(c.st.rg.set r .dead).set t (.froz X') })
 (hV:∀(ε:Env) y s,ε.at_ r=y->(V (Y y) s).den ε=s.den ε) {ty size n:Nat} {f:Nat->Nat->TC} {X:Ext} (hr:nth c.st.rg r=some (.own ty size n f none)) (ht:nth c.st.rg t=some (.froz X)) (hsc:c.st.scp=true)
 (next:∀(X':Ext) (A:Option Addr) (cp:Nat),(0<n->∃ad,A=some ad)->X.Into X'->X'.Tab (.slice A n cp) size n f->RunF P fn n0 U ⟨c.k,T X' (Y (.slice A n cp))⟩):RunF P fn n0 U c:=by
  unfold RunF at next⊢;intro b hb a w ⟨ε,hs⟩;obtain⟨s1,s2⟩:=Ql hsc;have hl:=hs.regs.len;have hrr:=Qd hr;have htt:=Qd ht;have hrl:r<c.st.rg.length:=(List.getElem?_eq_some_iff.1 hrr).1;have htl:t<c.st.rg.length:=(List.getElem?_eq_some_iff.1 htt).1;have hrt:r≠t:=λe=>by subst e;rw[hrr] at htt;cases htt
  have hfz:∀b,X.ro b->ε.fp t b/\b<w.heap.size/\w.heap[b]?=X.w0.heap[b]?:=Qf hs ht;generalize hX':(⟨X.l,X.n,X.enc,X.G,λb=>X.ro b\/ε.fp r b,w⟩:Ext)=X';have hro:X'.ro=λb=>X.ro b\/ε.fp r b:=by rw[<- hX']
  have hw0:X'.w0=w:=by rw[<- hX']
  have hinto:X.Into X':=λy size n f h=>by grind[Ext.Tab.keep,Ext.Tab]
  have htab:X'.Tab (ε.at_ r) size n f:=by unfold Ext.Tab;rw[hw0];have h0:RdRow w (ε.fp r) (ε.at_ r) size n (λi j u=>RdC w (ε.fp r) (f i j) u):=Z4 (Qf hs hr).1 (λi j fp' u _ _ hf hu=>Zw (f i j) hf hu);refine RdRow.keep h0 (λb hb=>⟨by rw[hro];exact .inr hb,(hs.regs.lt r _ hrr rfl b hb).1,rfl⟩) (λi j u _ _ hu=>RdC.mono (λb hb=>by rw[hro];exact .inr hb) (f i j) hu)
  obtain⟨A,cp,hA,_,hA0⟩:=Zl (Qf hs hr).1;have hA:ε.at_ r=.slice A n cp:=hA;refine(hT _ _▸next X' A cp hA0 hinto (by rw[<- hA];exact htab)) b hb a w ⟨ε.set t (zen ε t r),?_⟩;generalize hx:((zen ε t r):Ent)=x;have hxh:x.h=ε.at_ t:=by rw[<- hx]
  have hxf:x.fp=λb=>ε.fp t b\/ε.fp r b:=by rw[<- hx]
  obtain⟨atAll,hsAll⟩:=Env.set_same (ε:=ε) (r:=t) (x:=x) W48 hxh;have entT:Env.ent (ε.set t x) t=x:=Zy W276;have entO:∀j,j≠t->Env.ent (ε.set t x) j=ε.ent j:=λj hj=>by simp_all[Env.ent,jc,j6,Ne.symm]
  have cls:∀(j:Nat) (s:Reg),((c.st.rg.set r .dead).set t (.froz X'))[j]?=some s->(j=t/\s=.froz X')\/(j=r/\s=.dead)\/(j≠t/\j≠r/\c.st.rg[j]?=some s):=λj s hj=>by grind
  have fpO:∀j,j≠t->∀b,Env.fp (ε.set t x) j b->ε.fp j b:=λj hj b hb=>by unfold Env.fp at hb⊢;rwa [entO j hj] at hb
  have fpT:∀b,Env.fp (ε.set t x) t b->ε.fp t b\/ε.fp r b:=λb hb=>by unfold Env.fp at hb;rw[entT,hxf] at hb;exact hb
  refine⟨hs.defs,hs.size,λe he=>?_,⟨by simp[hl],λj s hj=>?_,λj s hj hl' b hb=>?_,λj s hj he b hb=>?_,λi j ri rj hij hi hj he hl' b hb1 hb2=>?_⟩,hs.below,by rw[hsAll];exact hs.pre⟩;obtain⟨e0,he0,rfl⟩:=List.mem_map.1 he;have h0:=(hs.fr e0 he0).same (s1 e0 he0) (λi _=>atAll i);refine⟨h0.1,λhg=>?_,h0.2.2⟩;show get a e0.slot=(V (Y (.slice A n cp)) e0.sv).den _;rw[hV _ _ _ ((atAll r).trans hA)];exact h0.2.1 hg;rcases cls j s hj with⟨rfl,rfl⟩|⟨rfl,rfl⟩|⟨k1,k2,k3⟩;rw[entT];intro b hb;rw[hro] at hb;rw[hxf,hw0];rcases hb with hb|hb;exact⟨.inl (hfz b hb).1,(hfz b hb).2.1,rfl⟩;exact⟨.inr hb,(hs.regs.lt r _ hrr rfl b hb).1,rfl⟩;trivial;rw[entO j k1];exact(hs.regs.reg j s k3).same (List.all_eq_true.1 s2 s (jB k3)) (λi _=>atAll i);rcases cls j s hj with⟨rfl,rfl⟩|⟨rfl,rfl⟩|⟨k1,k2,k3⟩;rcases fpT b hb with h|h;exact hs.regs.lt j _ htt rfl b h;exact hs.regs.lt r _ hrr rfl b h;cases hl';exact hs.regs.lt j s k3 hl' b (fpO j k1 b hb);rcases cls j s hj with⟨rfl,rfl⟩|⟨rfl,rfl⟩|⟨k1,k2,k3⟩;cases he;cases he;exact hs.regs.lim j s k3 he b (fpO j k1 b hb);rcases cls i ri hi with⟨rfl,rfl⟩|⟨rfl,rfl⟩|⟨k1,k2,k3⟩;cases he;cases he;have hb0:ε.fp i b:=fpO i k1 b hb1;rcases cls j rj hj with⟨e1,e2⟩|⟨e1,e2⟩|⟨m1,m2,m3⟩;subst e1 e2;rcases fpT b hb2 with h|h;exact hs.regs.sep i j ri _ k1 k3 htt he rfl b hb0 h;exact hs.regs.sep i r ri _ k2 k3 hrr he rfl b hb0 h;subst e2;cases hl';exact hs.regs.sep i j ri rj hij k3 m3 he hl' b hb0 (fpO j m1 b hb2)
theorem RunF.tabin(r t:Nat){ty size n:Nat}{f:Nat->Nat->TC}{X:Ext}(hr:nth c.st.rg r=some (.own ty size n f none))(ht:nth c.st.rg t=some (.froz X))(hsc:c.st.scp=true)
 (next:∀(X':Ext) (A:Option Addr) (cp:Nat),X.Into X'->X'.Tab (.slice A n cp) size n f->RunF P fn n0 U ⟨c.k,tabinSt c.st r t X' (.slice A n cp)⟩):RunF P fn n0 U c:=
 RunF.tabinG r t (λX' y=>tabinSt c.st r t X' y) id (unH r) (λ_ _=>rfl) (λ_ _ s h=>Qpd h s) hr ht hsc (λX' A cp _=>next X' A cp)
theorem RunF.tabinP(r t m:Nat){ty n:Nat}{f:Nat->Nat->TC}{X:Ext}(hr:nth c.st.rg r=some (.own ty 1 n f none))(ht:nth c.st.rg t=some (.froz X))(hsc:c.st.scp=true)(hm:m<=n)
 (next:∀(X':Ext) (A:Option Addr) (cp:Nat),X.Into X'->X'.Tab (.slice A m cp) 1 m f->RunF P fn n0 U ⟨c.k,tabinPSt c.st r t X' (.slice A n cp)⟩):RunF P fn n0 U c:=by
  refine RunF.tabinG r t (λX' y=>tabinPSt c.st r t X' y) id (unP r) (λ_ _=>rfl) (λε y s h=>Qpf h s) hr ht hsc (λX' A cp hA hin htab=>?_);refine next X' A cp hin ?_;obtain⟨A1,c1,e1,h1,h2,h3,h4⟩:=htab;cases e1;refine⟨A,cp,rfl,by omega,h2,λa ha hm0=>h3 a ha W48,λhm0=>?_⟩;obtain⟨ad,rfl,h5⟩:=h4 W48;exact⟨ad,rfl,λi j hi hj=>h5 i j W48 hj⟩
theorem Qpg{b:Base}{st:St}{ε:Env}{a:Act}{w:World}(hs:SatE b st ε a w)(hsc:st.scp=true){t:Nat}{X:Ext}(ht:nth st.rg t=some (.froz X)){y:Value}{size n:Nat}{f:Nat->Nat->TC}(h:X.Tab y size n f) :
 SatE b { st with rg:=st.rg++[.row size n f none] } (ε++[⟨y,ε.fp t⟩]) a w:=by
  have htt:=Qd ht;have hfz:∀b,X.ro b->ε.fp t b/\b<w.heap.size/\w.heap[b]?=X.w0.heap[b]?:=Qf hs ht;refine hs.add hsc hs.below (jo _) (λ_ _ _ _ _ _=>rfl) ⟨Ext.Tab.keep hfz h,trivial⟩ (λ_ b hb=>hs.regs.lt t _ htt rfl b hb) (λh=>by cases h) (λb hb _ i ri hi hl he hb'=>?_);rcases he with he|he;cases he;by_cases hit:i=t;subst hit;rw[htt] at hi;cases hi;cases he;exact hs.regs.sep i t ri _ hit hi htt he rfl b hb' hb
theorem RunF.tabout(s t:Nat){X:Ext}{y:Value}{size n:Nat}{f:Nat->Nat->TC}(hs0:svsAt s c.st.fr=[.c (.v y)])(ht:nth c.st.rg t=some (.froz X))(hsc:c.st.scp=true)(h:X.Tab y size n f)
 (next:RunF P fn n0 U ⟨c.k,taboutSt c.st s size n f⟩):RunF P fn n0 U c:=by
  unfold RunF at next⊢;intro b hb a w ⟨ε,hs⟩;have h1:=Qpg hs hsc ht h;refine next b hb a w ⟨_,h1.defs,h1.size,λe he=>?_,h1.regs,h1.below,h1.pre⟩;obtain⟨e0,he0,rfl⟩:=List.mem_map.1 he;have h0:=h1.fr e0 he0;unfold putH;split;rename_i hb;refine⟨h0.1,λhg=>?_,h0.2.2⟩;have hm:=Q56 he0 hb;rw[hs0,jG] at hm;rw[h0.2.1 hg,hm];show y=Env.at_ (ε++[⟨y,ε.fp t⟩]) c.st.rg.length;rw[<- hs.regs.len,Z5];exact h0
end
def mopenSt(st:St)(r:Nat)(T:MT)(ty sz n:Nat)(f:KA T.K->Nat×(Nat->Nat->TC))(a:KA T.K):St:={ st with rg:=st.rg.set r (.mpr T ty sz n f (some (a,st.rg.length,none)))++[.own ty sz (f a).1 (f a).2 none] }
def mcloseSt(st:St)(r q:Nat)(T:MT)(ty sz n:Nat)(f:KA T.K->Nat×(Nat->Nat->TC))(a:KA T.K)(m:Nat)(g:Nat->Nat->TC):St:={ st with rg:=(st.rg.set q .dead).set r (.mpr T ty sz n (λp=>if p=a then(m,g) else f p) none) }
def unT(r q:Nat):SV->SV
 |.c (.hs p 0 k)=>match jr p r with
   |true=>.c (.h q)
   |false=>.c (.hs p 0 k)
 |s=>s
theorem Qph{ε:Env}{r q m:Nat}(hq:ε.at_ q=pieceV (ε.at_ r) 0 m)(s:SV)(h:∀k,s=.c (.hs r 0 k)->k=m):(unT r q s).den ε=s.den ε:=by
 unfold unT;split;rename_i p k;split;rename_i hp;have e1:=jf hp;subst e1;have e2:=h k rfl;subst e2;exact hq;rfl;rfl
def trimSt(st:St)(r ty size m:Nat)(f:Nat->Nat->TC):St:={ st with fr:=st.fr.map (λe=>⟨e.slot,e.g,unT r st.rg.length e.sv⟩),rg:=st.rg.set r .dead++[.own ty size m f none] }
def trimVc(r m:Nat):List En->List Prop
 |[]=>[]
 |e::l=>match e.sv with
   |.c (.hs p 0 k)=>match jr p r with
     |true=>(k=m)::trimVc r m l
     |false=>trimVc r m l
   |_=>trimVc r m l
theorem Jp{r m:Nat}:∀{l:List En},All (trimVc r m l)->∀e∈l,∀k,e.sv=.c (.hs r 0 k)->k=m
 |x::l,h,e,he,k,hk=>by
  unfold trimVc at h;rcases List.mem_cons.1 he with rfl|he;rw[hk] at h;simp only[Nat.beq_refl] at h;exact h.head;split at h;split at h;exact Jp h.tail e he k hk;exact Jp h e he k hk;exact Jp h e he k hk
theorem Q18{α:Type}{size:Nat}:∀{l:List (List α)} {m:Nat},(∀x∈l,x.length=size)->(l.take m).flatten=l.flatten.take (m * size)
 |[],m,_=>by simp
 |x::r,0,_=>by simp
 |x::r,m+1,h=>by
  have hx:=h x kb;rw[List.take_succ_cons,List.flatten_cons,List.flatten_cons,Q18 (λy hy=>h y (j7 _ hy)),show(m+1) * size=x.length+m * size by rw[hx,Nat.succ_mul,Nat.add_comm],List.take_length_add_append]
theorem Qlv{w:World}{M fp:Nat->Prop}{ty size n m:Nat}{h:Value}{ok:Nat->Nat->(Nat->Prop)->Value->Prop}(ho:OwnRow w M fp ty size n h ok)(hm:m<=n)(h0:0<n):OwnRow w M fp ty size m (pieceV h 0 m) ok:=by
 obtain⟨els,⟨o1,ho⟩,o2,o3,o4,fps,o5,o6,o7⟩:=ho;rcases ho with⟨_,e⟩|⟨g,cap,cur,rfl,hb,hg,hnc,hcm,hsz,htk⟩;omega;have hp:pieceV (.slice (some ⟨g,0,none⟩) n cap) 0 m=.slice (some ⟨g,0,none⟩) m cap:=by simp[pieceV,Addr.add]
 rw[hp];have hgv:∀i j,i<m->getV (els.take m) i j=getV els i j:=λi j hi=>by unfold getV;rw[List.getElem?_take_of_lt hi]
 refine⟨els.take m,⟨?_,.inr ⟨g,cap,cur,rfl,hb,hg,by omega,hcm,hsz,?_⟩⟩,by simp[o2];omega,λel he=>o3 el (List.mem_of_mem_take he),o4,fps,λi j hi hj=>?_,λi j b hi hj=>o6 i j b W48 hj,λi j i' j' b hi hj hi' hj'=>o7 i j i' j' b W48 hj W48 hj'⟩;rw[Q18 o3,jO,o1];exact Nat.min_eq_left (kB _ hm);rw[Q18 o3,<- htk,List.take_take,Nat.min_eq_left (kB _ hm)];rw[hgv i j hi];exact o5 i j W48 hj
def Cfg.hereL(P:Program)(c:Cfg):Option Cfg:=match(seg P 5000 c.k c.st).2 with
 |.loop body k st=>some ⟨.code (.loop body)::k,st⟩
 |_=>none
def Cfg.hereC(P:Program)(c:Cfg):Option Cfg:=match(seg P 5000 c.k c.st).2 with
 |.call _ _ _ _ _ k0 _ st=>some ⟨k0,st⟩
 |_=>none
section
variable {P:Program} {fn:Func} {n0:Nat} {U:Tgt} {c:Cfg}
theorem RunF.hereC[hw:Wide P]{vc:List Prop}(h:(seg P 5000 c.k c.st).1=vc)(hj:(c.hereC P).isSome=true)(hv:Conj vc)(next:RunF P fn n0 U (orNo (c.hereC P))):RunF P fn n0 U c:=by
 unfold RunF at next⊢;intro b hb;unfold Cfg.hereC at next hj;generalize hg:seg P 5000 c.k c.st=rr at h hj next;obtain⟨vc',out⟩:=rr;cases out<;>first|(cases hj;done)|skip
 cases h;exact Qp hw.mixed 5000 _ _ _ _ hg hv.toAll (.inl (next b hb))
theorem RunF.hereL[hw:Wide P]{vc:List Prop}(h:see P fn c=(vc,.loop))(hv:Conj vc)(next:RunF P fn n0 U (orNo (c.hereL P))):RunF P fn n0 U c:=by
 unfold RunF at next⊢;intro b hb;unfold see at h;unfold Cfg.hereL at next;generalize hg:seg P 5000 c.k c.st=rr at h next;obtain⟨vc',out⟩:=rr;cases out<;>simp only[Prod.mk.injEq,reduceCtorEq,and_false] at h;case loop body k st =>obtain⟨rfl,_⟩:=h;exact Qp hw.mixed 5000 _ _ _ _ hg hv.toAll (λa w hsat=>next b hb a w hsat)
 all_goals grind[callV]
theorem RunF.prn(keep:List Nat)(next:RunF P fn n0 U (c.pr keep)):RunF P fn n0 U c:=by
 unfold RunF at next⊢;unfold Cfg.pr at next;intro b hb a w ⟨ε,hs⟩;exact next b hb a w ⟨ε,hs.defs,hs.size,λe he=>hs.fr e (List.mem_filter.1 he).1,hs.regs,hs.below,hs.pre⟩
theorem RunF.trim(r m:Nat){ty size n:Nat}{f:Nat->Nat->TC}{vc:List Prop}(hr:nth c.st.rg r=some (.own ty size n f none))(hsc:c.st.scp=true)(hm:m<=n/\0<n)(hvc:trimVc r m c.st.fr=vc)(hv:Conj vc)
 (next:RunF P fn n0 U ⟨c.k,trimSt c.st r ty size m f⟩):RunF P fn n0 U c:=by
  unfold RunF at next⊢;intro b hb a w ⟨ε,hs⟩;obtain⟨s1,s2⟩:=Ql hsc;have hl:=hs.regs.len;have hrr:=Qd hr;have hrl:r<c.st.rg.length:=(List.getElem?_eq_some_iff.1 hrr).1;have hown:=(Qf hs hr).1;have hkill:SatE b { c.st with rg:=c.st.rg.set r .dead } ε a w:=⟨hs.defs,hs.size,hs.fr,hs.regs.kill r,hs.below,hs.pre⟩;have hsc2:St.scp { c.st with rg:=c.st.rg.set r .dead }=true:=by unfold St.scp;rw[jg];simp only[jq];refine⟨List.all_eq_true.2 s1,List.all_eq_true.2 λs hs=>?_⟩;rcases List.mem_or_eq_of_mem_set hs with h|h;exact List.all_eq_true.1 s2 s h;subst h;rfl
  have hadd:=hkill.add (x:=⟨pieceV (ε.at_ r) 0 m,ε.fp r⟩) (r:=.own ty size m f none) hsc2 hs.below (jo _) (λ_ _ _ _ _ _=>rfl) ⟨Qlv hown hm.1 hm.2,trivial⟩ (λ_ q hq=>hs.regs.lt r _ hrr rfl q hq) (λ_ q hq=>hs.regs.lim r _ hrr rfl q hq) (λq hq _ i ri hi hlv _ hq'=>by by_cases hir:i=r;subst hir;simp only[kp hrl] at hi;cases hi;cases hlv;rw[j6 (Ne.symm hir)] at hi;exact hs.regs.sep r i _ ri (Ne.symm hir) hrr hi rfl hlv q hq hq');refine next b hb a w ⟨ε++[⟨pieceV (ε.at_ r) 0 m,ε.fp r⟩],hadd.defs,hadd.size,λe he=>?_,by simpa[trimSt] using hadd.regs,hadd.below,hadd.pre⟩;obtain⟨e0,he0,rfl⟩:=List.mem_map.1 he;have h0:=hadd.fr e0 he0;refine⟨h0.1,λhg=>?_,h0.2.2⟩;have h1:=h0.2.1 hg;show get a e0.slot=(unT r c.st.rg.length e0.sv).den _;rw[h1];refine(Qph ?_ _ (λk hk=>Jp (hvc▸hv.all) e0 he0 k hk)).symm;rw[<- hl,Z5,Q2l (show r<ε.length by omega)]
def Cfg.ment(P:Program)(c:Cfg)(r:Nat)(s:Int):Option Cfg:=
 match(seg P 5000 c.k c.st).2 with
 |.op all o todo k st=>match o.op,o.guard with
   |.mapEntry t m x,none=>match opndC st [] m,opnd st [] x with
     |some (.h r'),some kx=>match nth st.rg r' with
       |some (.mpr T ty sz n f (some (a,q,_)))=>match kaOf T.K T.kAgg kx with
         |some a'=>if jr r r'&&(jr T.t t&&st.scp) then
            (putSt { st with rg:=st.rg.set r' (.mpr T ty sz (n+1) f (some (a,q,some s))) } o.dst [] (.tup [(false,[.h q]),(false,[.i .i64 s])])).map λst'=>⟨.ops all todo::k,st'⟩
           else none
         |none=>none
       |_=>none
     |_,_=>none
   |_,_=>none
 |_=>none
def mentVc(P:Program)(c:Cfg)(r:Nat):List Prop:=
 match(seg P 5000 c.k c.st).2 with
 |.op all o todo k st=>match o.op,o.guard with
   |.mapEntry t m x,none=>match opnd st [] x with
     |some kx=>match nth st.rg r with
       |some (.mpr T ty sz n f (some (a,q,_)))=>match kaOf T.K T.kAgg kx with
         |some a'=>KA.vc T.K a'++[T.P=P,n<maxLen,a=a']
         |none=>[]
       |_=>[]
     |_=>[]
   |_,_=>[]
 |_=>[]
theorem RunF.ment[hw:Wide P]{vc vc2:List Prop}(r:Nat)(h:see P fn c=(vc,.op))(hv:Conj vc)(hm:mentVc P c r=vc2)(hv2:Conj vc2)(hsome:∀s,(c.ment P r s).isSome=true)
 (next:∀s:Int,RunF P fn n0 U (orNo (c.ment P r s))):RunF P fn n0 U c:=by
  unfold RunF at next⊢;intro b hb;subst hm;unfold see at h;unfold mentVc at hv2;unfold Cfg.ment at next hsome;generalize hg:seg P 5000 c.k c.st=rr at h hv2 next hsome;obtain⟨vc',out⟩:=rr;cases out<;>simp only[Prod.mk.injEq,reduceCtorEq,and_false] at h;case op all o todo k st =>obtain⟨rfl,_⟩:=h;refine Qp hw.mixed 5000 _ _ _ _ hg hv.toAll (λa w hsat=>?_);obtain⟨ε,hs⟩:=hsat;simp only at hv2 next hsome;obtain⟨dst,op,type,pos,after,guard⟩:=o;simp only at hsome next hv2;(have hfind:∃t m x kx T ty sz n f a1 q st0 a',op=.mapEntry t m x/\guard=none/\opndC st [] m=some (.h r)/\opnd st [] x=some kx/\nth st.rg r=some (.mpr T ty sz n f (some (a1,q,st0)))/\kaOf T.K T.kAgg kx=some a'/\T.t=t/\st.scp=true:=by have h0:=hsome 0;(cases op<;>first|(cases h0;done)|skip);rename_i t m x;cases guard with|some g=>cases h0|none =>simp only at h0;split at h0;rename_i r' kx hm hx;split at h0;rename_i T ty sz n f a1 q st0 hr;split at h0;rename_i a' hk;split at h0;rename_i hbc;simp only[jg] at hbc;have e:=jf hbc.1;subst e;exact⟨t,m,x,kx,T,ty,sz,n,f,a1,q,st0,a',rfl,rfl,hm,hx,hr,hk,jf hbc.2.1,hbc.2.2⟩;cases h0;cases h0;cases h0;cases h0);obtain⟨t,m,x,kx,T,ty,sz,n,f,a1,q,st0,a',rfl,rfl,hm,hx,hr,hk,ht,hsc⟩:=hfind;subst ht;(have hbq:(jr r r&&(jr T.t T.t&&st.scp))=true:=by simp[hsc]);simp only[hm,hx,hr,hk,if_pos hbq] at hsome next hv2;have hva:=hv2.toAll;have hP:T.P=P:=hva.right.head;have hn:n<maxLen:=hva.right.tail.head;have ha:a1=a':=hva.right.tail.tail.one;subst ha;obtain⟨has,hd,fb,fps,g1,g2,g3,g4,g5,g6⟩:=Qf hs hr;obtain⟨bb,w',s,he,hrun,hgr,hM,hf,hmv,hpd⟩:=MapV.entry g1 (KA.vc_wf _ _ hva.left) hn;have hs1:=hs.updG (new:=.mpr T ty sz (n+1) f (some (a1,q,some (s:Int)))) (Qd hr) rfl (g2 bb hf) hgr.size hgr.os hgr.tape hgr.output (λk hk hne=>hgr.block k hk (λe=>hne (Option.some.inj e))) (show MapR ε w' _ _ T ty sz _ (n+1) f (some (a1,q,some (s:Int))) from⟨_,_,fb,fps,hmv,g2,g3,g4,λa ha=>by exact OwnRow.map (w':=w') (g5 a (λe=>ha (by simpa using e))) (λc hc hlt=>hgr.block c hlt (λe=>(g3 a c hc).2 W305)) (λi j fp' u _ _ hf' hu=>OwnC.world ((f a).2 i j) (λc hc hlt=>hgr.block c hlt (λe=>(g3 a c (hf' c hc)).2 W305)) hu),λa q3 st3 e=>by grind⟩) rfl;have hn1:=next (s:Int);have hM1:=hsome (s:Int);refine Yz (G6 rfl _) ?_;unfold Oper.wp;(have hex:(execOp a.eval { dst,op:=.mapEntry T.t m x,type,pos,after,guard:=none }).run P w=.ok (.value ((SV.tup [(false,[C.h q]),(false,[C.i .i64 (s:Int)])]).den ε)) w':=by simp only[execOp,Qa hs (gHolds_nil a) hm,Qo hs (gHolds_nil a) hx];rw[hP] at hrun;refine Q5x ?_;rw[Yx hk];show(Instr.mapEntry T.t (ε.ent r).h (T.valK a1)).run P w=_;rw[hrun,(g6 _ _ _ rfl).1];rfl);rw[hex,Oper.upon_value];cases hput:putSt { st with rg:=st.rg.set r (.mpr T ty sz (n+1) f (some (a1,q,some (s:Int)))) } dst [] (.tup [(false,[C.h q]),(false,[C.i .i64 (s:Int)])]) with|none=>rw[hput] at hM1;cases hM1|some st' =>rw[hput] at hn1;simp only[jX,orNo] at hn1;exact hn1 b hb _ w' ⟨_,Qi hs1 hput (λ_=>rfl) (λhn=>absurd (gHolds_nil _) hn)⟩
  all_goals grind[callV]
def Cfg.mentP(P:Program)(c:Cfg)(r:Nat)(s:Int):Option Cfg:=
 match(seg P 5000 c.k c.st).2 with
 |.op all o todo k st=>match o.op,o.guard with
   |.mapEntry t m x,none=>match opndC st [] m,opnd st [] x with
     |some (.h r'),some kx=>match nth st.rg r' with
       |some (.mp T n has f _)=>match kaOf T.K T.kAgg kx with
         |some a'=>if jr r r'&&(jr T.t t&&st.scp) then
            (putSt { st with rg:=st.rg.set r' (.mp T (n+1) (λq=>decide (q=a')||has q) f (some ⟨0,λ_=>false,0,some a',some s⟩)) } o.dst [] (.tup [(T.vAgg,KA.cs T.V (f a')),(false,[.i .i64 s])])).map λst'=>⟨.ops all todo::k,st'⟩
           else none
         |none=>none
       |_=>none
     |_,_=>none
   |_,_=>none
 |_=>none
def Cfg.mentR(P:Program)(c:Cfg)(r:Nat)(s:Int):Option Cfg:=
 match(seg P 5000 c.k c.st).2 with
 |.opR all listed m i k st=>match nth all i with
   |none=>none
   |some o=>match o.op,o.guard with
   |.mapEntry t mm x,none=>match opndC st [] mm,opnd st [] x with
     |some (.h r'),some kx=>match nth st.rg r' with
       |some (.mp T n has f _)=>match kaOf T.K T.kAgg kx with
         |some a'=>if jr r r'&&(jr T.t t&&(st.scp&&!calmAt all i o)) then
            (putSt { st with rg:=st.rg.set r' (.mp T (n+1) (λq=>decide (q=a')||has q) f (some ⟨0,λ_=>false,0,some a',some s⟩)) } o.dst [] (.tup [(T.vAgg,KA.cs T.V (f a')),(false,[.i .i64 s])])).map λst'=>⟨.mix all (setL listed i) m::k,st'⟩
           else none
         |none=>none
       |_=>none
     |_,_=>none
   |_,_=>none
 |_=>none
def mentVcR(P:Program)(c:Cfg)(r:Nat):List Prop:=
 match(seg P 5000 c.k c.st).2 with
 |.opR all listed m i k st=>match nth all i with
   |none=>[]
   |some o=>match o.op,o.guard with
   |.mapEntry t mm x,none=>match opnd st [] x with
     |some kx=>match nth st.rg r with
       |some (.mp T n has f _)=>match kaOf T.K T.kAgg kx with
         |some a'=>KA.vc T.K a'++[T.P=P,n<maxLen]
         |none=>[]
       |_=>[]
     |_=>[]
   |_,_=>[]
 |_=>[]
theorem RunF.mentR[hw:Wide P]{vc vc2:List Prop}(r:Nat)(h:see P fn c=(vc,.opR))(hv:Conj vc)(hm:mentVcR P c r=vc2)(hv2:Conj vc2)(hsome:∀s,(c.mentR P r s).isSome=true)
 (next:∀s:Int,RunF P fn n0 U (orNo (c.mentR P r s))):RunF P fn n0 U c:=by
  unfold RunF at next⊢;intro b hb;subst hm;unfold see at h;unfold mentVcR at hv2;unfold Cfg.mentR at next hsome;generalize hg:seg P 5000 c.k c.st=rr at h hv2 next hsome;obtain⟨vc',out⟩:=rr;cases out<;>simp only[Prod.mk.injEq,reduceCtorEq,and_false] at h;case opR all listed m i k st =>obtain⟨rfl,_⟩:=h;refine Qp hw.mixed 5000 _ _ _ _ hg hv.toAll ?_;intro a w hsat hsel;obtain⟨ε,hs⟩:=hsat;simp only at hv2 next hsome;cases hoi:nth all i with|none=>simp only[hoi] at hsome;cases hsome 0|some o =>simp only[hoi] at hv2 next hsome;rw[Qq] at hoi;(have hoi':all.toArray[i]?=some o:=by simpa using hoi);obtain⟨dst,op,type,pos,after,guard⟩:=o;simp only at hsome next hv2;(have hfind:∃t mm x kx T n has f it a',op=.mapEntry t mm x/\guard=none/\opndC st [] mm=some (.h r)/\opnd st [] x=some kx/\nth st.rg r=some (.mp T n has f it)/\kaOf T.K T.kAgg kx=some a'/\T.t=t/\st.scp=true/\calmAt all i { dst,op:=.mapEntry t mm x,type,pos,after,guard:=none }=false:=by have h0:=hsome 0;(cases op<;>first|(cases h0;done)|skip);rename_i t mm x;cases guard with|some g=>cases h0|none =>simp only at h0;split at h0;rename_i r' kx hm hx;split at h0;rename_i T n has f it hr;split at h0;rename_i a' hk;split at h0;rename_i hbc;simp only[jg,jC] at hbc;have e:=jf hbc.1;subst e;exact⟨t,mm,x,kx,T,n,has,f,it,a',rfl,rfl,hm,hx,hr,hk,jf hbc.2.1,hbc.2.2.1,hbc.2.2.2⟩;cases h0;cases h0;cases h0;cases h0);obtain⟨t,mm,x,kx,T,n,has,f,it,a',rfl,rfl,hm,hx,hr,hk,ht,hsc,hcalm⟩:=hfind;subst ht;(have hbq:(jr r r&&(jr T.t T.t&&(st.scp&&!calmAt all i { dst,op:=.mapEntry T.t mm x,type,pos,after,guard:=none })))=true:=by simp[hsc,hcalm]);simp only[hm,hx,hr,hk,if_pos hbq] at hsome next hv2;have hva:=hv2.toAll;have hP:T.P=P:=hva.right.head;have hn:n<maxLen:=hva.right.tail.one;obtain⟨bb,w',s,he,hrun,hgr,hM,hf,hmv⟩:=MapAt.entry (Qf hs hr) (KA.vc_wf _ _ hva.left) hn;have hs1:=hs.updG (new:=.mp T (n+1) (λq=>decide (q=a')||has q) f (some ⟨0,λ_=>false,0,some a',some (s:Int)⟩)) (Qd hr) rfl hf hgr.size hgr.os hgr.tape hgr.output (λk hk hne=>hgr.block k hk (λe=>hne (Option.some.inj e))) hmv rfl;have hn1:=next (s:Int);have hM1:=hsome (s:Int);have hw1:Region.wanted ({ dst,op:=.mapEntry T.t mm x,type,pos,after,guard:=none }:Oper) (yielded all.toArray a.tmps)=true:=G6 rfl _;unfold wpOpR;simp only[hoi',hw1,if_true];(have hex:(execOp a.eval { dst,op:=.mapEntry T.t mm x,type,pos,after,guard:=none }).run P w=.ok (.value ((SV.tup [(T.vAgg,KA.cs T.V (f a')),(false,[C.i .i64 (s:Int)])]).den ε)) w':=by simp only[execOp,Qa hs (gHolds_nil a) hm,Qo hs (gHolds_nil a) hx];rw[hP] at hrun;refine Q5x ?_;rw[Yx hk];show(Instr.mapEntry T.t (ε.ent r).h (T.valK a')).run P w=_;rw[hrun];simp only[SV.den,jW,List.map_nil,Q39,KA.cs_den];rfl);unfold stepR;rw[hex];cases hput:putSt { st with rg:=st.rg.set r (.mp T (n+1) (λq=>decide (q=a')||has q) f (some ⟨0,λ_=>false,0,some a',some (s:Int)⟩)) } dst [] (.tup [(T.vAgg,KA.cs T.V (f a')),(false,[C.i .i64 (s:Int)])]) with|none=>rw[hput] at hM1;cases hM1|some st' =>rw[hput] at hn1;simp only[jX,orNo] at hn1;exact⟨λhc=>absurd hc (by rw[hcalm];decide),hn1 b hb _ w' ⟨_,Qi hs1 hput (λ_=>rfl) (λhn=>absurd (gHolds_nil _) hn)⟩ hsel⟩
  all_goals grind[callV]
attribute [irreducible] Cfg.ment
attribute [irreducible] Cfg.mentP
attribute [irreducible] Cfg.mentR
theorem RunF.mopen(r:Nat){T:MT}{ty sz n:Nat}{f:KA T.K->Nat×(Nat->Nat->TC)}(x:KA T.K)(hr:nth c.st.rg r=some (.mpr T ty sz n f none))(hsc:c.st.scp=true)
 (next:RunF P fn n0 U ⟨c.k,mopenSt c.st r T ty sz n f x⟩):RunF P fn n0 U c:=by
  unfold RunF at next⊢;intro b hb a w ⟨ε,hs⟩;obtain⟨s1,s2⟩:=Ql hsc;have hl:=hs.regs.len;have hrl:r<c.st.rg.length:=(List.getElem?_eq_some_iff.1 (Qd hr)).1;obtain⟨has,hd,fb,fps,g1,g2,g3,g4,g5,g6⟩:MapR ε w b.M (ε.fp r) T ty sz (ε.at_ r) n f none:=Qf hs hr;obtain⟨hregs,hat⟩:=hs.regs.split (x0:=(⟨ε.at_ r,λq=>ε.fp r q/\¬fps x q⟩:Ent)) (xs:=[⟨hd x,fps x⟩]) (regs:=[.own ty sz (f x).1 (f x).2 none]) (new:=.mpr T ty sz n f (some (x,c.st.rg.length,none))) (Qd hr) rfl rfl s2 (.inl rfl) rfl (λ_ h=>h.1) (λy hy q hq=>by rw[jG] at hy;subst hy;exact(g3 x q hq).1) (λ_ y hy q hq h0=>by grind) (λ_ i j y y' hij hy hy'=>by grind) (by(have hm:Env.at_ (ε.set r (⟨ε.at_ r,λq=>ε.fp r q/\¬fps x q⟩:Ent)++[⟨hd x,fps x⟩]) c.st.rg.length=hd x:=by simp_all[Env.at_,Zy,Ent,jJ]);refine⟨has,hd,fb,λp q=>p≠x/\fps p q,g1,λq hq=>⟨g2 q hq,λh=>(g3 x q h).2 hq⟩,λp q hq=>⟨⟨(g3 p q hq.2).1,λh=>hq.1 (g4 p x q hq.2 h)⟩,(g3 p q hq.2).2⟩,λp p' q h h'=>g4 p p' q h.2 h'.2,λp hp=>?_,λp q st e=>?_⟩;have hpx:p≠x:=λe=>hp (by rw[e];rfl);simp_all;grind) (λi s y hi hy=>by(have h1:i=0:=by grind);subst h1;cases hi;cases hy;exact⟨g5 x (λe=>by cases e),trivial⟩);exact next b hb a w ⟨_,Q17 hs hsc hregs hat W228⟩
theorem RunF.mclose(r q:Nat){T:MT}{ty sz n m:Nat}{f:KA T.K->Nat×(Nat->Nat->TC)}{x:KA T.K}{g:Nat->Nat->TC}(hr:nth c.st.rg r=some (.mpr T ty sz n f (some (x,q,none))))(hq:nth c.st.rg q=some (.own ty sz m g none))(hsc:c.st.scp=true)
 (next:RunF P fn n0 U ⟨c.k,mcloseSt c.st r q T ty sz n f x m g⟩):RunF P fn n0 U c:=by
  unfold RunF at next⊢;intro b hb a w ⟨ε,hs⟩;obtain⟨s1,s2⟩:=Ql hsc;have hl:=hs.regs.len;have hrr:=Qd hr;have hqq:=Qd hq;have hrl:r<c.st.rg.length:=(List.getElem?_eq_some_iff.1 hrr).1;have hql:q<c.st.rg.length:=(List.getElem?_eq_some_iff.1 hqq).1;have hqr:q≠r:=λe=>by subst e;rw[hrr] at hqq;cases hqq
  obtain⟨has,hd,fb,fps,g1,g2,g3,g4,g5,g6⟩:MapR ε w b.M (ε.fp r) T ty sz (ε.at_ r) n f (some (x,q,none)):=Qf hs hr;have hown:=(Qf hs hq).1;refine next b hb a w ⟨ε.set r (zen ε r q),?_⟩;generalize hx:((zen ε r q):Ent)=y;have hxh:y.h=ε.at_ r:=by rw[<- hx]
  have hxf:y.fp=λb=>ε.fp r b\/ε.fp q b:=by rw[<- hx]
  obtain⟨atAll,hsAll⟩:=Env.set_same (ε:=ε) (r:=r) (x:=y) W48 hxh;have entT:Env.ent (ε.set r y) r=y:=Zy W276;have entO:∀j,j≠r->Env.ent (ε.set r y) j=ε.ent j:=λj hj=>by simp_all[Env.ent,jc,j6,Ne.symm]
  have cls:∀(j:Nat) (s:Reg),((c.st.rg.set q .dead).set r (.mpr T ty sz n (λp=>if p=x then(m,g) else f p) none))[j]?=some s->(j=r/\s=.mpr T ty sz n (λp=>if p=x then(m,g) else f p) none)\/(j=q/\s=.dead)\/(j≠r/\j≠q/\c.st.rg[j]?=some s):=λj s hj=>by grind
  have fpO:∀j,j≠r->∀b,Env.fp (ε.set r y) j b->ε.fp j b:=λj hj b hb=>by unfold Env.fp at hb⊢;rwa [entO j hj] at hb
  have fpT:∀b,Env.fp (ε.set r y) r b->ε.fp r b\/ε.fp q b:=λb hb=>by unfold Env.fp at hb;rw[entT,hxf] at hb;exact hb
  refine⟨hs.defs,hs.size,λe he=>(hs.fr e he).same (s1 e he) (λi _=>atAll i),⟨by simp[mcloseSt,hl],λj s hj=>?_,λj s hj hl' b hb=>?_,λj s hj he b hb=>?_,λi j ri rj hij hi hj he hl' b hb1 hb2=>?_⟩,hs.below,by rw[hsAll];exact hs.pre⟩;rcases cls j s hj with⟨rfl,rfl⟩|⟨rfl,rfl⟩|⟨k1,k2,k3⟩;rw[entT];show MapR _ w b.M y.fp T ty sz y.h n _ none;rw[hxh,hxf];refine⟨has,hd,fb,λp d=>if p=x then ε.fp q d else fps p d,g1,λd hd=>.inl (g2 d hd),λp d hd=>?_,λp p' d h h'=>?_,λp _=>?_,λp q' st e=>by cases e⟩;dsimp only at hd;by_cases e:p=x;rw[if_pos e] at hd;exact⟨.inr hd,λh=>hs.regs.sep q j _ _ hqr hqq hrr rfl rfl d hd (g2 d h)⟩;grind;dsimp only at h h';by_cases e:p=x<;>by_cases e':p'=x;rw[e,e'];rw[if_pos e] at h;rw[if_neg e'] at h';exact absurd (g3 p' d h').1 (hs.regs.sep q j _ _ hqr hqq hrr rfl rfl d h);rw[if_neg e] at h;rw[if_pos e'] at h';exact absurd (g3 p d h).1 (hs.regs.sep q j _ _ hqr hqq hrr rfl rfl d h');grind;by_cases e:p=x;subst e;simp only[if_true];rw[(g6 p q _ rfl).1];exact hown;simp only[if_neg e];exact g5 p (λh=>e (by cases h;rfl));trivial;rw[entO j k1];exact(hs.regs.reg j s k3).same (List.all_eq_true.1 s2 s (jB k3)) (λi _=>atAll i);rcases cls j s hj with⟨rfl,rfl⟩|⟨rfl,rfl⟩|⟨k1,k2,k3⟩;rcases fpT b hb with h|h;exact hs.regs.lt j _ hrr rfl b h;exact hs.regs.lt q _ hqq rfl b h;cases hl';exact hs.regs.lt j s k3 hl' b (fpO j k1 b hb);rcases cls j s hj with⟨rfl,rfl⟩|⟨rfl,rfl⟩|⟨k1,k2,k3⟩;rcases fpT b hb with h|h;exact hs.regs.lim j _ hrr rfl b h;exact hs.regs.lim q _ hqq rfl b h;cases he;exact hs.regs.lim j s k3 he b (fpO j k1 b hb);rcases cls i ri hi with⟨rfl,rfl⟩|⟨rfl,rfl⟩|⟨k1,k2,k3⟩;rcases cls j rj hj with⟨e1,e2⟩|⟨e1,e2⟩|⟨m1,m2,m3⟩;exact hij e1.symm;subst e2;cases hl';rcases fpT b hb1 with h|h;exact hs.regs.sep i j _ rj (Ne.symm m1) hrr m3 rfl hl' b h (fpO j m1 b hb2);exact hs.regs.sep q j _ rj (Ne.symm m2) hqq m3 rfl hl' b h (fpO j m1 b hb2);cases he;have hb0:ε.fp i b:=fpO i k1 b hb1;rcases cls j rj hj with⟨e1,e2⟩|⟨e1,e2⟩|⟨m1,m2,m3⟩;subst e1 e2;rcases fpT b hb2 with h|h;exact hs.regs.sep i j ri _ k1 k3 hrr he rfl b hb0 h;exact hs.regs.sep i q ri _ k2 k3 hqq he rfl b hb0 h;subst e2;cases hl';exact hs.regs.sep i j ri rj hij k3 m3 he hl' b hb0 (fpO j m1 b hb2)
end
end Go.Tx
noncomputable section
namespace Go.Proofs.YtnddggenhefaeaaGreatDoor
open Go Go.Tx
instance:Wide ja:=⟨by kernel_rfl⟩
theorem Q6c:Enters ja 26:=Q1 Tryz.func26 (by kernel_rfl) (by kernel_rfl)
theorem Q0f:Enters ja 82:=Q1 Tryz.func82 (by kernel_rfl) (by kernel_rfl)
theorem Za:Enters ja 84:=Q1 Tryz.func84 (by kernel_rfl) (by kernel_rfl)
theorem Qd7:Enters ja 54:=Q1 Tryz.func54 (by kernel_rfl) (by kernel_rfl)
theorem Jx:Enters ja 120:=Q1 Tryz.func120 (by kernel_rfl) (by kernel_rfl)
theorem Q6d:Enters ja 121:=Q1 Tryz.func121 (by kernel_rfl) (by kernel_rfl)
theorem Q4g:Enters ja 122:=Q1 Tryz.func122 (by kernel_rfl) (by kernel_rfl)
theorem Q4e:Enters ja 88:=Q1 Tryz.func88 (by kernel_rfl) (by kernel_rfl)
theorem Qd8:Enters ja 89:=Q1 Tryz.func89 (by kernel_rfl) (by kernel_rfl)
theorem Q9i:Enters ja 90:=Q1 Tryz.func90 (by kernel_rfl) (by kernel_rfl)
theorem Y4:Enters ja 93:=Q1 Tryz.func93 (by kernel_rfl) (by kernel_rfl)
theorem Qc4:Enters ja 123:=Q1 Tryz.func123 (by kernel_rfl) (by kernel_rfl)
theorem Jq:Enters ja 31:=Q1 Tryz.func31 (by kernel_rfl) (by kernel_rfl)
theorem Qf9:Enters ja 46:=Q1 Tryz.func46 (by kernel_rfl) (by kernel_rfl)
theorem Qfa:Enters ja 47:=Q1 Tryz.func47 (by kernel_rfl) (by kernel_rfl)
theorem Q8j:Enters ja 48:=Q1 Tryz.func48 (by kernel_rfl) (by kernel_rfl)
theorem Q0c:Enters ja 75:=Q1 Tryz.func75 (by kernel_rfl) (by kernel_rfl)
theorem Qfb:Enters ja 76:=Q1 Tryz.func76 (by kernel_rfl) (by kernel_rfl)
theorem Y0:Enters ja 77:=Q1 Tryz.func77 (by kernel_rfl) (by kernel_rfl)
theorem G9:Enters ja 78:=Q1 Tryz.func78 (by kernel_rfl) (by kernel_rfl)
theorem Y8:Enters ja 79:=Q1 Tryz.func79 (by kernel_rfl) (by kernel_rfl)
theorem Yq:Enters ja 80:=Q1 Tryz.func80 (by kernel_rfl) (by kernel_rfl)
theorem Jy:Enters ja 81:=Q1 Tryz.func81 (by kernel_rfl) (by kernel_rfl)
theorem Jz:Enters ja 32:=Q1 Tryz.func32 (by kernel_rfl) (by kernel_rfl)
theorem Zo:Enters ja 49:=Q1 Tryz.func49 (by kernel_rfl) (by kernel_rfl)
theorem Q6e:Enters ja 50:=Q1 Tryz.func50 (by kernel_rfl) (by kernel_rfl)
theorem Q6f:Enters ja 51:=Q1 Tryz.func51 (by kernel_rfl) (by kernel_rfl)
theorem Q6g:Enters ja 83:=Q1 Tryz.func83 (by kernel_rfl) (by kernel_rfl)
theorem Qt:Enters ja 85:=Q1 Tryz.func85 (by kernel_rfl) (by kernel_rfl)
theorem Yv:Enters ja 86:=Q1 Tryz.func86 (by kernel_rfl) (by kernel_rfl)
theorem Yj:Enters ja 87:=Q1 Tryz.func87 (by kernel_rfl) (by kernel_rfl)
theorem Q0g:Enters ja 27:=Q1 Tryz.func27 (by kernel_rfl) (by kernel_rfl)
theorem Q2u:Enters ja 3:=Q1 Tryz.func3 (by kernel_rfl) (by kernel_rfl)
theorem Jd:Enters ja 7:=Q1 Tryz.func7 (by kernel_rfl) (by kernel_rfl)
theorem Q2v:Enters ja 8:=Q1 Tryz.func8 (by kernel_rfl) (by kernel_rfl)
theorem Q19:Enters ja 9:=Q1 Tryz.func9 (by kernel_rfl) (by kernel_rfl)
theorem Q4h:Enters ja 10:=Q1 Tryz.func10 (by kernel_rfl) (by kernel_rfl)
theorem Q00:Enters ja 11:=Q1 Tryz.func11 (by kernel_rfl) (by kernel_rfl)
theorem Q6h:Enters ja 12:=Q1 Tryz.func12 (by kernel_rfl) (by kernel_rfl)
theorem Q57:Enters ja 13:=Q1 Tryz.func13 (by kernel_rfl) (by kernel_rfl)
theorem Q6i:Enters ja 14:=Q1 Tryz.func14 (by kernel_rfl) (by kernel_rfl)
theorem Q6j:Enters ja 15:=Q1 Tryz.func15 (by kernel_rfl) (by kernel_rfl)
theorem Q8k:Enters ja 21:=Q1 Tryz.func21 (by kernel_rfl) (by kernel_rfl)
theorem Q1a:Enters ja 22:=Q1 Tryz.func22 (by kernel_rfl) (by kernel_rfl)
theorem Zp:Enters ja 23:=Q1 Tryz.func23 (by kernel_rfl) (by kernel_rfl)
theorem Zj:Enters ja 24:=Q1 Tryz.func24 (by kernel_rfl) (by kernel_rfl)
theorem Q01:Enters ja 25:=Q1 Tryz.func25 (by kernel_rfl) (by kernel_rfl)
theorem Q29:Enters ja 28:=Q1 Tryz.func28 (by kernel_rfl) (by kernel_rfl)
theorem Q02:Enters ja 29:=Q1 Tryz.func29 (by kernel_rfl) (by kernel_rfl)
theorem Q2a:Enters ja 30:=Q1 Tryz.func30 (by kernel_rfl) (by kernel_rfl)
theorem Qd9:Enters ja 34:=Q1 Tryz.func34 (by kernel_rfl) (by kernel_rfl)
theorem Qda:Enters ja 35:=Q1 Tryz.func35 (by kernel_rfl) (by kernel_rfl)
theorem Qfc:Enters ja 38:=Q1 Tryz.func38 (by kernel_rfl) (by kernel_rfl)
theorem Q7c:Enters ja 39:=Q1 Tryz.func39 (by kernel_rfl) (by kernel_rfl)
theorem Q4i:Enters ja 40:=Q1 Tryz.func40 (by kernel_rfl) (by kernel_rfl)
theorem Q58:Enters ja 41:=Q1 Tryz.func41 (by kernel_rfl) (by kernel_rfl)
theorem Q7d:Enters ja 42:=Q1 Tryz.func42 (by kernel_rfl) (by kernel_rfl)
theorem Qb:Enters ja 43:=Q1 Tryz.func43 (by kernel_rfl) (by kernel_rfl)
theorem G3:Enters ja 44:=Q1 Tryz.func44 (by kernel_rfl) (by kernel_rfl)
theorem Yo:Enters ja 45:=Q1 Tryz.func45 (by kernel_rfl) (by kernel_rfl)
theorem Qdb:Enters ja 59:=Q1 Tryz.func59 (by kernel_rfl) (by kernel_rfl)
theorem Qdc:Enters ja 60:=Q1 Tryz.func60 (by kernel_rfl) (by kernel_rfl)
theorem Q4j:Enters ja 61:=Q1 Tryz.func61 (by kernel_rfl) (by kernel_rfl)
theorem Q2w:Enters ja 62:=Q1 Tryz.func62 (by kernel_rfl) (by kernel_rfl)
theorem Qe:Enters ja 63:=Q1 Tryz.func63 (by kernel_rfl) (by kernel_rfl)
theorem Q6k:Enters ja 64:=Q1 Tryz.func64 (by kernel_rfl) (by kernel_rfl)
theorem Gy:Enters ja 65:=Q1 Tryz.func65 (by kernel_rfl) (by kernel_rfl)
theorem Q59:Enters ja 66:=Q1 Tryz.func66 (by kernel_rfl) (by kernel_rfl)
theorem J7:Enters ja 67:=Q1 Tryz.func67 (by kernel_rfl) (by kernel_rfl)
theorem Q5a:Enters ja 68:=Q1 Tryz.func68 (by kernel_rfl) (by kernel_rfl)
theorem Q2b:Enters ja 69:=Q1 Tryz.func69 (by kernel_rfl) (by kernel_rfl)
theorem Y9:Enters ja 70:=Q1 Tryz.func70 (by kernel_rfl) (by kernel_rfl)
theorem Y2:Enters ja 71:=Q1 Tryz.func71 (by kernel_rfl) (by kernel_rfl)
theorem Qy:Enters ja 72:=Q1 Tryz.func72 (by kernel_rfl) (by kernel_rfl)
theorem Q1l:Enters ja 73:=Q1 Tryz.func73 (by kernel_rfl) (by kernel_rfl)
theorem Q1m:Enters ja 74:=Q1 Tryz.func74 (by kernel_rfl) (by kernel_rfl)
theorem Q4f:Enters ja 94:=Q1 Tryz.func94 (by kernel_rfl) (by kernel_rfl)
theorem Qc5:Enters ja 95:=Q1 Tryz.func95 (by kernel_rfl) (by kernel_rfl)
theorem Qfd:Enters ja 96:=Q1 Tryz.func96 (by kernel_rfl) (by kernel_rfl)
theorem Qdd:Enters ja 97:=Q1 Tryz.func97 (by kernel_rfl) (by kernel_rfl)
theorem Q3n:Enters ja 98:=Q1 Tryz.func98 (by kernel_rfl) (by kernel_rfl)
theorem Q3o:Enters ja 99:=Q1 Tryz.func99 (by kernel_rfl) (by kernel_rfl)
theorem Q7e:Enters ja 100:=Q1 Tryz.func100 (by kernel_rfl) (by kernel_rfl)
theorem Q6l:Enters ja 101:=Q1 Tryz.func101 (by kernel_rfl) (by kernel_rfl)
theorem Q5b:Enters ja 102:=Q1 Tryz.func102 (by kernel_rfl) (by kernel_rfl)
theorem Q6m:Enters ja 103:=Q1 Tryz.func103 (by kernel_rfl) (by kernel_rfl)
theorem Q6n:Enters ja 104:=Q1 Tryz.func104 (by kernel_rfl) (by kernel_rfl)
theorem Q4k:Enters ja 105:=Q1 Tryz.func105 (by kernel_rfl) (by kernel_rfl)
theorem Q5c:Enters ja 106:=Q1 Tryz.func106 (by kernel_rfl) (by kernel_rfl)
theorem Q4l:Enters ja 107:=Q1 Tryz.func107 (by kernel_rfl) (by kernel_rfl)
theorem Q7f:Enters ja 108:=Q1 Tryz.func108 (by kernel_rfl) (by kernel_rfl)
theorem Q5d:Enters ja 109:=Q1 Tryz.func109 (by kernel_rfl) (by kernel_rfl)
theorem Q03:Enters ja 110:=Q1 Tryz.func110 (by kernel_rfl) (by kernel_rfl)
theorem Gz:Enters ja 111:=Q1 Tryz.func111 (by kernel_rfl) (by kernel_rfl)
theorem Q2c:Enters ja 112:=Q1 Tryz.func112 (by kernel_rfl) (by kernel_rfl)
theorem Q5e:Enters ja 113:=Q1 Tryz.func113 (by kernel_rfl) (by kernel_rfl)
theorem Q0h:Enters ja 114:=Q1 Tryz.func114 (by kernel_rfl) (by kernel_rfl)
theorem Zb:Enters ja 115:=Q1 Tryz.func115 (by kernel_rfl) (by kernel_rfl)
theorem Q0i:Enters ja 116:=Q1 Tryz.func116 (by kernel_rfl) (by kernel_rfl)
theorem Q0j:Enters ja 117:=Q1 Tryz.func117 (by kernel_rfl) (by kernel_rfl)
theorem Yp:Enters ja 118:=Q1 Tryz.func118 (by kernel_rfl) (by kernel_rfl)
theorem Gj:Enters ja 119:=Q1 Tryz.func119 (by kernel_rfl) (by kernel_rfl)
theorem Qde:Enters ja 124:=Q1 Tryz.func124 (by kernel_rfl) (by kernel_rfl)
theorem Q5f:Enters ja 125:=Q1 Tryz.func125 (by kernel_rfl) (by kernel_rfl)
theorem Qw:Enters ja 126:=Q1 Tryz.func126 (by kernel_rfl) (by kernel_rfl)
theorem Q9j:Enters ja 127:=Q1 Tryz.func127 (by kernel_rfl) (by kernel_rfl)
theorem Q8l:Enters ja 128:=Q1 Tryz.func128 (by kernel_rfl) (by kernel_rfl)
theorem Je:Enters ja 129:=Q1 Tryz.func129 (by kernel_rfl) (by kernel_rfl)
theorem Q8m:Enters ja 130:=Q1 Tryz.func130 (by kernel_rfl) (by kernel_rfl)
theorem Q2d:Enters ja 131:=Q1 Tryz.func131 (by kernel_rfl) (by kernel_rfl)
theorem Q2x:Enters ja 132:=Q1 Tryz.func132 (by kernel_rfl) (by kernel_rfl)
theorem Qfe:Enters ja 133:=Q1 Tryz.func133 (by kernel_rfl) (by kernel_rfl)
theorem Q5g:Enters ja 134:=Q1 Tryz.func134 (by kernel_rfl) (by kernel_rfl)
theorem Q0k:Enters ja 135:=Q1 Tryz.func135 (by kernel_rfl) (by kernel_rfl)
theorem Q0l:Enters ja 136:=Q1 Tryz.func136 (by kernel_rfl) (by kernel_rfl)
theorem Yi:Enters ja 137:=Q1 Tryz.func137 (by kernel_rfl) (by kernel_rfl)
theorem Qr:Enters ja 138:=Q1 Tryz.func138 (by kernel_rfl) (by kernel_rfl)
theorem J0:Enters ja 139:=Q1 Tryz.func139 (by kernel_rfl) (by kernel_rfl)
theorem Qc6:Enters ja 140:=Q1 Tryz.func140 (by kernel_rfl) (by kernel_rfl)
theorem Q2y:Enters ja 141:=Q1 Tryz.func141 (by kernel_rfl) (by kernel_rfl)
theorem Q2z:Enters ja 142:=Q1 Tryz.func142 (by kernel_rfl) (by kernel_rfl)
theorem Q6o:Enters ja 143:=Q1 Tryz.func143 (by kernel_rfl) (by kernel_rfl)
theorem Qdf:Enters ja 144:=Q1 Tryz.func144 (by kernel_rfl) (by kernel_rfl)
theorem Jr:Enters ja 145:=Q1 Tryz.func145 (by kernel_rfl) (by kernel_rfl)
theorem Q5h:Enters ja 146:=Q1 Tryz.func146 (by kernel_rfl) (by kernel_rfl)
theorem Yr:Enters ja 147:=Q1 Tryz.func147 (by kernel_rfl) (by kernel_rfl)
theorem Q7g:Enters ja 148:=Q1 Tryz.func148 (by kernel_rfl) (by kernel_rfl)
theorem Q6z:Enters ja 149:=Q1 Tryz.func149 (by kernel_rfl) (by kernel_rfl)
theorem Qc7:Enters ja 150:=Q1 Tryz.func150 (by kernel_rfl) (by kernel_rfl)
theorem Jf:Enters ja 151:=Q1 Tryz.func151 (by kernel_rfl) (by kernel_rfl)
theorem Q0m:Enters ja 152:=Q1 Tryz.func152 (by kernel_rfl) (by kernel_rfl)
theorem Q8n:Enters ja 153:=Q1 Tryz.func153 (by kernel_rfl) (by kernel_rfl)
theorem Q9k:Enters ja 154:=Q1 Tryz.func154 (by kernel_rfl) (by kernel_rfl)
theorem Q4m:Enters ja 155:=Q1 Tryz.func155 (by kernel_rfl) (by kernel_rfl)
theorem Jg:Enters ja 156:=Q1 Tryz.func156 (by kernel_rfl) (by kernel_rfl)
theorem Q9l:Enters ja 157:=Q1 Tryz.func157 (by kernel_rfl) (by kernel_rfl)
theorem Q9m:Enters ja 158:=Q1 Tryz.func158 (by kernel_rfl) (by kernel_rfl)
theorem Q9n:Enters ja 159:=Q1 Tryz.func159 (by kernel_rfl) (by kernel_rfl)
theorem Q8o:Enters ja 160:=Q1 Tryz.func160 (by kernel_rfl) (by kernel_rfl)
theorem Q5i:Enters ja 161:=Q1 Tryz.func161 (by kernel_rfl) (by kernel_rfl)
theorem Q9o:Enters ja 162:=Q1 Tryz.func162 (by kernel_rfl) (by kernel_rfl)
theorem J1:Enters ja 163:=Q1 Tryz.func163 (by kernel_rfl) (by kernel_rfl)
theorem Q3p:Enters ja 164:=Q1 Tryz.func164 (by kernel_rfl) (by kernel_rfl)
theorem Q8p:Enters ja 165:=Q1 Tryz.func165 (by kernel_rfl) (by kernel_rfl)
theorem Q9p:Enters ja 166:=Q1 Tryz.func166 (by kernel_rfl) (by kernel_rfl)
theorem Q7h:Enters ja 167:=Q1 Tryz.func167 (by kernel_rfl) (by kernel_rfl)
theorem Q6p:Enters ja 168:=Q1 Tryz.func168 (by kernel_rfl) (by kernel_rfl)
theorem Q7i:Enters ja 170:=Q1 Tryz.func170 (by kernel_rfl) (by kernel_rfl)
theorem Qhx:Enters ja 171:=Q1 Tryz.func171 (by kernel_rfl) (by kernel_rfl)
theorem Q04:Enters ja 169:=Q1 Tryz.func169 (by kernel_rfl) (by kernel_rfl)
def nthT(l:List TC)(j:Nat):TC:=match nth l j with
 |some t=>t
 |none=>.any
def rowOf{α:Type}[Inhabited α](size:Nat)(tc:α->Nat->TC)(l:List α):Reg:=.row size l.length (λi=>tc (l.getD i kQ)) none
def ownOf{α:Type}[Inhabited α](ty size:Nat)(tc:α->Nat->TC)(l:List α):Reg:=.own ty size l.length (λi=>tc (l.getD i kQ)) none
def i64T(n:Int):Nat->TC:=nthT [.val (.int .i64 n)]
theorem i64T.flat(x:Int):∀j,j<1->flatT (i64T x j):=by
 intro j hj;match j,hj with|0,_=>exact⟨_,rfl,rfl⟩
abbrev zeb(y0:List Int):Nat -> Nat -> TC:=λi=>i64T (y0.getD i 0)
abbrev IntRow(l:List Int):Reg:=.row 1 l.length (zeb l) none
abbrev IntOwn(l:List Int):Reg:=.own 3 1 l.length (zeb l) none
abbrev WordOwn(l:List Int):Reg:=.own 2 1 l.length (zeb l) none
structure Did where
 kind:Int
 core:Int
 pc:Int
 addr:Int
 word:Int
 put:Int
 own:Bool
 deriving Inhabited,DecidableEq
structure Cls where
 kind:Int
 thread:Int
 lock:Int
 deriving Inhabited,DecidableEq
def Cls.tl(x:Cls):List TC:=[.val (.int .u8 x.kind),.val (.int .i64 x.thread),.val (.int .i64 x.lock)]
def Cls.tc(x:Cls):Nat->TC:=nthT x.tl
abbrev Cls.ownR(l:List Cls):Reg:=ownOf 207 3 Cls.tc l
structure Prt where
 thread:Int
 word:Int
 deriving Inhabited,DecidableEq
structure Stp where
 kind:Int
 core:Int
 deriving Inhabited,DecidableEq
structure Sto where
 pos:Int
 addr:Int
 word:Int
 deriving Inhabited,DecidableEq
structure Ins where
 kind:Int
 op:Int
 d:Int
 a:Int
 b:Int
 addr:Int
 to:Int
 word:Int
 from_:Int
 deriving Inhabited,DecidableEq
def Ins.tl(x:Ins):List TC:=[.val (.int .u8 x.kind),.val (.int .u8 x.op),.val (.int .i64 x.d),.val (.int .i64 x.a),.val (.int .i64 x.b),.val (.int .i64 x.addr),.val (.int .i64 x.to),.val (.int .i64 x.word),.val (.int .i64 x.from_)]
def Ins.tc(x:Ins):Nat->TC:=nthT x.tl
abbrev Ins.rowR(l:List Ins):Reg:=rowOf 9 Ins.tc l
abbrev Ins.ownR(l:List Ins):Reg:=ownOf 48 9 Ins.tc l
structure Cor where
 name:ByteArray
 code:List Ins
 deriving Inhabited,DecidableEq
def Cor.tl(x:Cor):List TC:=[.val (.string x.name),.sub 48 9 (x.code).length (λi=>Ins.tc ((x.code).getD i kQ))]
def Cor.tc(x:Cor):Nat->TC:=nthT x.tl
abbrev Cor.rowR(l:List Cor):Reg:=rowOf 2 Cor.tc l
abbrev Cor.ownR(l:List Cor):Reg:=ownOf 44 2 Cor.tc l
theorem Q9q{α:Type}(d:α)(l r:List α){i:Nat}(h:i<l.length):(l++r).getD i d=l.getD i d:=by
 grind
theorem Qx{α:Type}(d:α)(l:List α)(x:α):(l++[x]).getD l.length d=x:=by
 grind
theorem Jh{α:Type}(d:α)(tc:α->Nat->TC)(l:List α)(x:α):∀i,i<(l++[x]).length->tc ((l++[x]).getD i d)=if i=l.length then tc x else tc (l.getD i d):=by
 grind
theorem Qv{α:Type}(l:List α)(x:α):(l++[x]).length=l.length+1:=by
 simp
theorem Yd{α:Type}{d:α}{l:List α}{x:α}{i:Nat}(h1:i<(l++[x]).length)(h2:i≠l.length):(l++[x]).getD i d=l.getD i d:=
 Q9q _ _ _ (by simp at h1;omega)
theorem Zc{α:Type}(d:α)(tc:α->Nat->TC)(l:List α)(k off:Nat)(x:α)(vs:List Value)(h:∀j,tc x j=if off<=j/\j<off+vs.length then .val (vs.getD (j-off) undef) else tc (l.getD k d) j) :
 ∀i,i<(l.set k x).length->tc ((l.set k x).getD i d)=updT (λi=>tc (l.getD i d)) k off vs i:=by
  intro i hi;rw[jq] at hi;funext j;unfold updT;grind
theorem Ym(l:List Int)(k:Nat)(x:Int):∀i,i<(l.set k x).length->i64T ((l.set k x).getD i 0)=updT (λi=>i64T (l.getD i 0)) k 0 [.int .i64 x] i:=
 Zc 0 i64T l k 0 x _ (λj=>by rcases j with _|j<;>simp[i64T,nthT,nth])
theorem Qlw{α:Type}(d:α)(tc:α->Nat->TC)(l:List α)(k n:Nat):∀i,i<((l.drop k).take n).length->tc (((l.drop k).take n).getD i d)=tc (l.getD (k+i) d):=by
 grind
theorem Qlx{α:Type}(l:List α)(k n:Nat)(h:k+n<=l.length):((l.drop k).take n).length=n:=by
 simp;omega
theorem Qly(size:Nat)(vs:List Value)(i:Nat)(tl:List TC)(h:((jv size).map λj=>TC.val (vs.getD (i * size+j) undef))=tl):nthT tl=rowT size vs i:=by
 subst h;funext j;unfold nthT rowT;have e:∀(l:List TC) (k:Nat),nth l k=l[k]?:=λl k=>Qq l k;rw[e,jy];by_cases hj:j<size;rw[kI hj,show kv j size=true by simp only[Nat.blt_eq];exact hj];rfl;rw[kd W228,show kv j size=false by simp_all[ky,ne_eq,Nat.blt_eq]];rfl
theorem Q05{α:Type}(d:α)(tl:α->List TC)(l:List α)(size:Nat)(vs:List Value)(h:((jv l.length).map λi=>(jv size).map λj=>TC.val (vs.getD (i * size+j) undef))=l.map tl):∀i,i<l.length->nthT (tl (l.getD i d))=rowT size vs i:=by
 intro i hi;refine Qly size vs i _ ?_;have:=congrArg (λx=>x[i]?) h;grind
structure Vl where
 slotted:Bool
 slot:Int
 word:Int
 deriving Inhabited,DecidableEq
def Vl.cs(x:Vl):List C:=[.b x.slotted,.i .i64 x.slot,.i .i64 x.word]
structure Dcl where
 name:ByteArray
 word:Int
 pos:Int
 deriving Inhabited,DecidableEq
def Dcl.tl(x:Dcl):List TC:=[.val (.string x.name),.val (.int .i64 x.word),.val (.int .i64 x.pos)]
def Dcl.tc(x:Dcl):Nat->TC:=nthT x.tl
theorem Dcl.flat(x:Dcl):∀j,j<3->flatT (x.tc j):=by
 intro j hj;match j,hj with|0,_=>exact⟨_,rfl,rfl⟩|1,_=>exact⟨_,rfl,rfl⟩|2,_=>exact⟨_,rfl,rfl⟩
abbrev Dcl.rowR(l:List Dcl):Reg:=rowOf 3 Dcl.tc l
abbrev Dcl.ownR(l:List Dcl):Reg:=ownOf 62 3 Dcl.tc l
structure Act where
 thread:Int
 node:Int
 kind:Int
 thing:Int
 word:Int
 put:Int
 deriving Inhabited,DecidableEq
structure Nod where
 kind:Int
 op:Int
 slot:Int
 thing:Int
 a:Vl
 b:Vl
 next:Int
 els:Int
 origin:Int
 deriving Inhabited,DecidableEq
def Nod.tl(x:Nod):List TC:=[.val (.int .u8 x.kind),.val (.int .u8 x.op),.val (.int .i64 x.slot),.val (.int .i64 x.thing),.val (.bool x.a.slotted),.val (.int .i64 x.a.slot),.val (.int .i64 x.a.word),.val (.bool x.b.slotted),.val (.int .i64 x.b.slot),.val (.int .i64 x.b.word),.val (.int .i64 x.next),.val (.int .i64 x.els),.val (.int .i64 x.origin)]
def Nod.tc(x:Nod):Nat->TC:=nthT x.tl
def Nod.cs(x:Nod):List C:=[.i .u8 x.kind,.i .u8 x.op,.i .i64 x.slot,.i .i64 x.thing,.b x.a.slotted,.i .i64 x.a.slot,.i .i64 x.a.word,.b x.b.slotted,.i .i64 x.b.slot,.i .i64 x.b.word,.i .i64 x.next,.i .i64 x.els,.i .i64 x.origin]
theorem Nod.flat(x:Nod):∀j,j<13->flatT (x.tc j):=by
 intro j hj;match j,hj with|0,_=>exact⟨_,rfl,rfl⟩|1,_=>exact⟨_,rfl,rfl⟩|2,_=>exact⟨_,rfl,rfl⟩|3,_=>exact⟨_,rfl,rfl⟩|4,_=>exact⟨_,rfl,rfl⟩|5,_=>exact⟨_,rfl,rfl⟩|6,_=>exact⟨_,rfl,rfl⟩|7,_=>exact⟨_,rfl,rfl⟩|8,_=>exact⟨_,rfl,rfl⟩|9,_=>exact⟨_,rfl,rfl⟩|10,_=>exact⟨_,rfl,rfl⟩|11,_=>exact⟨_,rfl,rfl⟩|12,_=>exact⟨_,rfl,rfl⟩
abbrev Nod.rowR(l:List Nod):Reg:=rowOf 13 Nod.tc l
abbrev Nod.ownR(l:List Nod):Reg:=ownOf 101 13 Nod.tc l
structure Grf where
 name:ByteArray
 locals:Int
 slots:Int
 nodes:List Nod
 deriving Inhabited,DecidableEq
def Grf.tl(x:Grf):List TC:=[.val (.string x.name),.val (.int .i64 x.locals),.val (.int .i64 x.slots),.sub 101 13 (x.nodes).length (λi=>Nod.tc ((x.nodes).getD i kQ))]
def Grf.tc(x:Grf):Nat->TC:=nthT x.tl
def Grf.cs(x:Grf)(r_nodes:Nat):List C:=[.v (.string x.name),.i .i64 x.locals,.i .i64 x.slots,.h r_nodes]
abbrev Grf.rowR(l:List Grf):Reg:=rowOf 4 Grf.tc l
abbrev Grf.ownR(l:List Grf):Reg:=ownOf 60 4 Grf.tc l
theorem BL:(∀a b:Bool,((a&&b)=true)=(a=true/\b=true))/\(∀a b:Bool,((a||b)=true)=(a=true\/b=true))/\(∀a b:Bool,((a&&b)=false)=(a=false\/b=false))/\(∀a b:Bool,((a||b)=false)=(a=false/\b=false)) /\
 (∀a:Bool,((!a)=true)=(a=false))/\(∀a:Bool,((!a)=false)=(a=true))/\(∀(p:Prop) [Decidable p],(decide p=true)=p)/\(∀(p:Prop) [Decidable p],(decide p=false)=¬p):=by
  exact⟨by simp,by simp,by intro a b;cases a<;>cases b<;>simp,by simp,by simp,by simp,by simp,by simp⟩
def twoB(op:Int):Bool:=decide (0<op)&&decide (op<19)&&!decide (op=17)&&!decide (op=18)
def opB(op:Int):Bool:=decide (0<op)&&decide (op<19)
def addrB(k:Int):Bool:=decide (k=2)||decide (k=3)||decide (k=4)||decide (k=8)
def didB(d:Did):Bool:=
 decide (0<d.kind)&&decide (d.kind<9)&&decide (0<=d.core)&&decide (d.core<8)&&decide (0<=d.pc)&&decide (d.pc<16384)&&decide (0<=d.addr)&&decide (d.addr<4096) &&
 (addrB d.kind||decide (d.addr=0))&&(addrB d.kind||decide (d.kind=6)||decide (d.word=0))&&(decide (d.kind=4)||decide (d.put=0))&&(decide (d.kind=2)||!d.own)
def digitB(c:Int):Bool:=decide (48<=c)&&decide (c<=57)
def letterB(c:Int):Bool:=decide (97<=c)&&decide (c<=122)||decide (65<=c)&&decide (c<=90)||decide (c=95)
def wordB(s:ByteArray):Bool:=
 decide (s={ data:=#[115,104,97,114,101,100] })||decide (s={ data:=#[108,111,99,107] })||decide (s={ data:=#[116,104,114,101,97,100] })||decide (s={ data:=#[108,111,99,97,108] })||decide (s={ data:=#[105,102] })||decide (s={ data:=#[101,108,115,101] })||decide (s={ data:=#[119,104,105,108,101] })||decide (s={ data:=#[112,114,105,110,116] })||decide (s={ data:=#[115,107,105,112] })||decide (s={ data:=#[115,119,97,112] })
def byteAt(s:ByteArray)(i:Nat):Int:=((s.data.toList.getD i 0).toNat:Int)
def letgB(c:UInt8):Bool:=letterB (c.toNat:Int)||digitB (c.toNat:Int)
def restB(s:ByteArray)(i:Int):Bool:=(s.data.toList.drop i.toNat).all letgB
def nameB(s:ByteArray):Bool:=decide (1<=(s.size:Int))&&decide ((s.size:Int)<=32)&&!digitB (byteAt s 0)&&!wordB s&&restB s 0
theorem Q3q(s:ByteArray)(i:Int)(h0:0<=i)(h:i<s.size):restB s i=((letterB (byteAt s i.toNat)||digitB (byteAt s i.toNat))&&restB s (i+1)):=by
 unfold restB byteAt;have hlt:i.toNat<s.data.toList.length:=by simp;omega
 have e:(i+1).toNat=i.toNat+1:=by omega
 rw[e,List.drop_eq_getElem_cons hlt,List.all_cons,jc,jh hlt];rfl
theorem Qjc(s:ByteArray)(i:Int)(h:(s.size:Int)<=i):restB s i=true:=by
 unfold restB;rw[j4 W228];rfl
def allFrom(p:Int->Bool)(i n:Int):Bool:=(jv (n-i).toNat).all λj=>p (i+j)
theorem Qdg(p:Int->Bool){i n:Int}(h:i<n):allFrom p i n=(p i&&allFrom p (i+1) n):=by
 unfold allFrom;rw[show(n-i).toNat=(n-(i+1)).toNat+1 by omega,List.range_succ_eq_map,List.all_cons,List.all_map];simp only[Function.comp_def];congr 1;simp;congr 1;funext j;congr 1;rw[show((Nat.succ j:Nat):Int)=(j:Int)+1 from rfl];omega
theorem Q6:IntKind.i64.min=-9223372036854775808:=rfl
theorem Q7:IntKind.i64.max=9223372036854775807:=rfl
theorem Q8:IntKind.u8.min=0:=rfl
theorem Q9:IntKind.u8.max=255:=rfl
def flwL(n:Nod):List Int:=if n.kind=9 then [] else if n.kind=8/\n.els≠n.next then [n.next,n.els] else [n.next]
theorem Qft{n:Nod}(h:decide (n.kind=9)=true):flwL n=[]:=by
 unfold flwL;rw[if_pos (kR h)]
theorem Qfu{n:Nod}(h:decide (n.kind=9)=false)(h2:(decide (n.kind=8)&&!decide (n.els=n.next))=true):flwL n=[n.next,n.els]:=by
 simp_all[flwL,if_neg,kS,if_pos]
theorem Q9r{n:Nod}(h:decide (n.kind=9)=false)(h2:(decide (n.kind=8)&&!decide (n.els=n.next))=false):flwL n=[n.next]:=by
 simp_all[flwL,if_neg,kS]
def prtN(n:Nod):Int:=if n.kind=1 then(if twoB n.op then 59 else 43) else if n.kind=2 then 38 else if n.kind=3 then 44 else if n.kind=4 then 46 else if n.kind=5 then 36 else if n.kind=6 then 36 else if n.kind=7 then 40 else if n.kind=8 then 104 else 0
theorem Qlz{n:Nod}(hk:n.kind=1)(h:(decide ((1:Int)=(1:Int))&&twoB n.op)=true):prtN n=59:=by
 unfold prtN;rw[if_pos hk,if_pos W259]
theorem Qm0{n:Nod}(hk:n.kind=1)(h:(decide ((1:Int)=(1:Int))&&twoB n.op)=false):prtN n=43:=by
 unfold prtN;rw[if_pos hk,if_neg W259]
def usesB(p h:Int):Bool:=!decide (bits kh jD p h=0)
def withinP(p k h most:Int):Bool:=!usesB p h&&decide (k=0)||(usesB p h&&decide (0<=k)&&decide (k<most))
def valueP(p slots:Int)(v:Vl)(h:Int):Bool:=if usesB p h=false then decide (v=⟨false,0,0⟩) else if v.slotted=true then decide (0<=v.slot)&&decide (v.slot<slots)&&decide (v.word=0) else decide (v.slot=0)
def rightN(ns nl:Int)(g:Grf)(n:Nod):Bool:=
 !(decide (n.kind=0)||decide (10<=n.kind)||decide (n.origin<0)||decide (4096<=n.origin)) &&
 (withinP (prtN n) n.op 1 19&&withinP (prtN n) n.slot 2 g.slots&&withinP (prtN n) n.thing 4 (if n.kind=5\/n.kind=6 then nl else ns) &&
  withinP (prtN n) n.next 32 g.nodes.length&&withinP (prtN n) n.els 64 g.nodes.length&&valueP (prtN n) g.slots n.a 8&&valueP (prtN n) g.slots n.b 16)
section
variable {ns nl:Int} {g:Grf} {n:Nod}
theorem Q8q(h:(decide (n.kind=0)||decide (10<=n.kind)||decide (n.origin<0)||decide (4096<=n.origin))=true):rightN ns nl g n=false:=by
 unfold rightN;rw[h];rfl
theorem Qjd(h:(decide (n.kind=0)||decide (10<=n.kind)||decide (n.origin<0)||decide (4096<=n.origin))=false)(h2:(decide (n.kind=5)||decide (n.kind=6))=true):rightN ns nl g n=(withinP (prtN n) n.op 1 19&&withinP (prtN n) n.slot 2 g.slots&&withinP (prtN n) n.thing 4 nl&&withinP (prtN n) n.next 32 g.nodes.length&&withinP (prtN n) n.els 64 g.nodes.length&&valueP (prtN n) g.slots n.a 8&&valueP (prtN n) g.slots n.b 16):=by
 unfold rightN;rw[h,if_pos W300];rfl
theorem Qje(h:(decide (n.kind=0)||decide (10<=n.kind)||decide (n.origin<0)||decide (4096<=n.origin))=false)(h2:(decide (n.kind=5)||decide (n.kind=6))=false):rightN ns nl g n=(withinP (prtN n) n.op 1 19&&withinP (prtN n) n.slot 2 g.slots&&withinP (prtN n) n.thing 4 ns&&withinP (prtN n) n.next 32 g.nodes.length&&withinP (prtN n) n.els 64 g.nodes.length&&valueP (prtN n) g.slots n.a 8&&valueP (prtN n) g.slots n.b 16):=by
 unfold rightN;rw[h,if_neg W300];rfl
end
def flrL(n:Nod):List Int:=if n.kind=9 then [] else if n.kind=8 then [n.next,n.els] else [n.next]
theorem Qfv{n:Nod}(h:decide (n.kind=9)=true):flrL n=[]:=by
 unfold flrL;rw[if_pos (kR h)]
theorem Qfw{n:Nod}(h:decide (n.kind=9)=false)(h2:decide (n.kind=8)=true):flrL n=[n.next,n.els]:=by
 simp_all[flrL,if_neg,kS,if_pos,kR]
theorem Qfx{n:Nod}(h:decide (n.kind=9)=false)(h2:decide (n.kind=8)=false):flrL n=[n.next]:=by
 simp_all[flrL,if_neg,kS]
theorem G0(n:Nod)(x:Int):x∈flrL n↔x∈flwL n:=by
 unfold flrL flwL;grind
theorem Q3r(n:Nod):(flrL n).length<=2:=by
 unfold flrL;split;simp;split<;>simp
def vlL(v:Vl):List Int:=if v.slotted=true then [v.slot] else []
theorem Qs7{v:Vl}(h:v.slotted=true):vlL v=[v.slot]:=by
 unfold vlL;rw[if_pos h]
theorem Qul{v:Vl}(l:List Int)(h:v.slotted=false):l++vlL v=l:=by
 simp_all[vlL,if_neg,decide,jR]
def useL(n:Nod):List Int:=if n.kind=1 then vlL n.a++(if twoB n.op then vlL n.b else []) else if n.kind=3\/n.kind=4\/n.kind=7\/n.kind=8 then vlL n.a else []
theorem Qpi(v:Vl):([]++vlL v).length<=2:=by
 unfold vlL;split<;>simp
theorem Qs8{n:Nod}(h:n.kind=1)(h2:twoB n.op=true):useL n=[]++vlL n.a++vlL n.b:=by
 unfold useL;rw[if_pos h,if_pos h2];rfl
theorem Qs9{n:Nod}(h:n.kind=1)(h2:twoB n.op=false):useL n=[]++vlL n.a:=by
 unfold useL;grind
theorem Qum{n:Nod}(h:n.kind=3\/n.kind=4\/n.kind=7\/n.kind=8):useL n=[]++vlL n.a:=by
 unfold useL;rw[if_neg W48,if_pos h];rfl
theorem Qun{n:Nod}(h:n.kind=2\/n.kind=5\/n.kind=6\/n.kind=9):useL n=[]:=by
 unfold useL;rw[if_neg W48,if_neg W48]
theorem Qdh(n:Nod):(useL n).length<=2:=by
 grind[Vl,vlL,useL,jm]
def addW(w:Nat->Int)(k:Int):Nat->Int:=λj=>if(k.tdiv 64).toNat=j then bits kF j8 (w (k.tdiv 64).toNat) (shlI j8 1 (k.tmod 64)) else w j
def takeW(w:Nat->Int)(k:Int):Nat->Int:=λj=>if(k.tdiv 64).toNat=j then bits BinOp.andNot j8 (w (k.tdiv 64).toNat) (shlI j8 1 (k.tmod 64)) else w j
def hasW(w:Nat->Int)(k:Int):Bool:=decide (bits kh j8 (shrI j8 (w (k.tdiv 64).toNat) (k.tmod 64)) 1=1)
def joinW(w v:Nat->Int)(m:Nat):Nat->Int:=λj=>if j<m then bits kF j8 (w j) (v j) else w j
theorem Qhy(w v:Nat->Int):joinW w v 0=w:=by
 funext j;simp[joinW]
theorem Qhz(w v:Nat->Int){x:Int}(h:0<=x)(j:Nat):joinW w v (x+1).toNat j=if x.toNat=j then bits kF j8 (joinW w v x.toNat x.toNat) (v x.toNat) else joinW w v x.toNat j:=by
 rw[show(x+1).toNat=x.toNat+1 by omega];by_cases e:x.toNat=j;subst e;simp[joinW];rw[if_neg e];unfold joinW;grind
def wsT(w:Nat->Int):Nat->TC:=nthT ((jv 65).map λj=>TC.val (jn .u64 (w j)))
theorem Q9s:∀(l:List Prop),(∀p∈l,p)->Conj l
 |[],_=>trivial
 |[p],h=>by first|exact h p kb|exact⟨h p kb,trivial⟩
 |p::q::r,h=>⟨h p kb,Q9s (q::r) λx hx=>h x (j7 _ hx)⟩
theorem Q3s{n:Nat}{P:Nat->Prop}(h:∀j,j<n->P j):Conj ((jv n).map P):=Q9s _ λp hp=>by
 grind
theorem Qm1{a b:List Prop}(h:Conj a)(h2:Conj b):Conj (a++b):=Q9s _ λp hp=>by
 rcases List.mem_append.1 hp with q|q;exact h.all p q;exact h2.all p q
theorem Qdi{n:Nat}(w:Nat->Int){i:Nat}(h:i<n):((jv n).map λj=>w j).getD i 0=w i:=by
 grind
def goN:List (ByteArray×Bool)->(ByteArray->Option Bool)->Bool
 |[],_=>true
 |s::r,D=>if(nameB s.1&&!(D s.1).getD false)=true/\s.2=true then goN r (λq=>if q=s.1 then some true else D q) else false
def nmS(l:List Dcl):List (ByteArray×Bool):=l.map λd=>(d.name,true)
def nmL(l:List Dcl):List (ByteArray×Bool):=l.map λd=>(d.name,decide (d.word=0))
def nmG(l:List Grf):List (ByteArray×Bool):=l.map λg=>(g.name,true)
def manyB(sh lk:List Dcl)(gs:List Grf):Bool:=decide (64<(sh.length:Int))||decide (16<(lk.length:Int))||decide (8<(gs.length:Int))
def namedB(sh lk:List Dcl)(gs:List Grf):Bool:=!manyB sh lk gs&&goN (nmS sh++(nmL lk++nmG gs)) (λ_=>none)
theorem Q2e{α β:Type}(f:α->β)(d:α){l:List α}{n:Nat}(h:n<l.length):(l.drop n).map f=f (l.getD n d)::(l.drop (n+1)).map f:=by
 rw[List.drop_eq_getElem_cons h,jW,jc,jh h];rfl
section
variable {sh lk:List Dcl} {gs:List Grf} {D:ByteArray->Option Bool} {n:Nat} {R:List (ByteArray×Bool)}
theorem Qoi(h:n<sh.length):goN (nmS (sh.drop n)++R) D=(if(nameB (sh.getD n kQ).name&&!(D (sh.getD n kQ).name).getD false)=true then goN (nmS (sh.drop (n+1))++R) (λq=>if q=(sh.getD n kQ).name then some true else D q) else false):=by
 unfold nmS;rw[Q2e _ kQ h,List.cons_append,goN];simp
theorem Qoj(h:n<lk.length):goN (nmL (lk.drop n)++R) D=(if(nameB (lk.getD n kQ).name&&!(D (lk.getD n kQ).name).getD false)=true/\(lk.getD n kQ).word=0 then goN (nmL (lk.drop (n+1))++R) (λq=>if q=(lk.getD n kQ).name then some true else D q) else false):=by
 unfold nmL;rw[Q2e _ kQ h,List.cons_append,goN];simp
theorem Qok(h:n<gs.length):goN (nmG (gs.drop n)) D=(if(nameB (gs.getD n kQ).name&&!(D (gs.getD n kQ).name).getD false)=true then goN (nmG (gs.drop (n+1))) (λq=>if q=(gs.getD n kQ).name then some true else D q) else false):=by
 unfold nmG;rw[Q2e _ kQ h,goN];simp
end
section
variable {sh lk:List Dcl} {gs:List Grf} {D:ByteArray->Option Bool} {n:Nat} {R:List (ByteArray×Bool)}
theorem Q8r(h:(decide ((64:Int)<(sh.length:Int))||decide ((16:Int)<(lk.length:Int))||decide ((8:Int)<(gs.length:Int)))=true):namedB sh lk gs=false:=by
 unfold namedB manyB;rw[h];rfl
theorem Q06(h:(decide ((64:Int)<(sh.length:Int))||decide ((16:Int)<(lk.length:Int))||decide ((8:Int)<(gs.length:Int)))=false):namedB sh lk gs=goN (nmS sh++(nmL lk++nmG gs)) (λ_=>none):=by
 unfold namedB manyB;rw[h];rfl
theorem Q1u(h:(decide ((64:Int)<(sh.length:Int))||decide ((16:Int)<(lk.length:Int))||decide ((8:Int)<(gs.length:Int)))=false):sh.length<=64/\lk.length<=16/\gs.length<=8:=by
 grind
theorem Qm2(h:n<sh.length)(hc:(!(nameB (sh.getD n kQ).name&&!(D (sh.getD n kQ).name).getD false))=true):goN (nmS (sh.drop n)++R) D=false:=by
 rw[Qoi h,if_neg];intro h2;rw[h2] at hc;cases hc
theorem Qm3(h:n<sh.length)(hc:(!(nameB (sh.getD n kQ).name&&!(D (sh.getD n kQ).name).getD false))=false) :
 goN (nmS (sh.drop n)++R) D=goN (nmS (sh.drop (n+1))++R) (λq=>if q=(sh.getD n kQ).name then some true else D q):=by
  rw[Qoi h,if_pos];simpa using hc
theorem Qm4(h:n<lk.length)(hc:(!(nameB (lk.getD n kQ).name&&!(D (lk.getD n kQ).name).getD false)||!decide ((lk.getD n kQ).word=(0:Int)))=true):goN (nmL (lk.drop n)++R) D=false:=by
 rw[Qoj h,if_neg];rintro ⟨h2,h3⟩;rw[h2,h3] at hc;cases hc
theorem Qm5(h:n<lk.length)(hc:(!(nameB (lk.getD n kQ).name&&!(D (lk.getD n kQ).name).getD false)||!decide ((lk.getD n kQ).word=(0:Int)))=false) :
 goN (nmL (lk.drop n)++R) D=goN (nmL (lk.drop (n+1))++R) (λq=>if q=(lk.getD n kQ).name then some true else D q):=by
  simp_all[kg,Qoj,if_pos]
theorem Qm6(h:n<gs.length)(hc:(!(nameB (gs.getD n kQ).name&&!(D (gs.getD n kQ).name).getD false))=true):goN (nmG (gs.drop n)) D=false:=by
 rw[Qok h,if_neg];intro h2;rw[h2] at hc;cases hc
theorem Qm7(h:n<gs.length)(hc:(!(nameB (gs.getD n kQ).name&&!(D (gs.getD n kQ).name).getD false))=false) :
 goN (nmG (gs.drop n)) D=goN (nmG (gs.drop (n+1))) (λq=>if q=(gs.getD n kQ).name then some true else D q):=by
  rw[Qok h,if_pos];simpa using hc
end
abbrev HL:=List (List Int)
abbrev HF:=Int->Option Bool
def hIn(now:List Int)(q:HL->HF->List Int->Int):List Int->HL->HF->List Int->Int
 |[],L,F,T=>q L F T
 |to::r,L,F,T=>if(F to).getD false=false then hIn now q r (L.set to.toNat now) (λa=>if a=to then some true else F a) (T++[to])
   else if L.getD to.toNat []=now then hIn now q r L F T else to
def nowH(n:Nod)(l:List Int):Option (List Int):=
 if n.kind=5 then some (l++[n.thing]) else if n.kind=6 then(if l.length=0\/l.getD (l.length-1) 0≠n.thing then none else some (l.take (l.length-1)))
 else if n.kind=9/\0<l.length then none else some l
def hOut(ns:List Nod):Nat->Nat->HL->HF->List Int->Int
 |0,_,_,_,_=>-1
 |fu+1,k,L,F,T=>if k<T.length then
    match nowH (ns.getD (T.getD k 0).toNat kQ) (L.getD (T.getD k 0).toNat []) with
    |none=>T.getD k 0
    |some now=>hIn now (hOut ns fu (k+1)) (flwL (ns.getD (T.getD k 0).toNat kQ)) L F T
   else -1
def heldF(ns:List Nod):Int:=hOut ns (ns.length+1) 0 (jd ns.length []) (λa=>if a=0 then some true else none) [0]
structure HInv(N k:Nat)(L:HL)(F:HF)(T:List Int):Prop where
 len:L.length=N
 nd:T.Nodup
 rng:∀x∈T,0<=x/\x<(N:Int)
 fd:∀x,(F x).getD false=true↔x∈T
 short:∀i,(L.getD i []).length<=k
theorem Q1b:∀(N:Nat) (T:List Int),T.Nodup->(∀x∈T,0<=x/\x<(N:Int))->T.length<=N
 |0,T,_,h=>by cases T with|nil=>exact jo _|cons x r=>have:=h x (.head _);omega
 |N+1,T,hn,h=>by
  by_cases hm:(N:Int)∈T;have h1:=Q1b N (T.erase (N:Int)) (hn.erase _) (λx hx=>by grind);have:=List.length_erase_of_mem hm;omega;have:=Q1b N T hn (λx hx=>by grind);omega
theorem HInv.le{N k:Nat}{L:HL}{F:HF}{T:List Int}(h:HInv N k L F T):T.length<=N:=Q1b N T h.nd h.rng
theorem HInv.up{N k k':Nat}{L:HL}{F:HF}{T:List Int}(h:HInv N k L F T)(hk:k<=k'):HInv N k' L F T:=⟨h.len,h.nd,h.rng,h.fd,λi=>kf (h.short i) hk⟩
theorem HInv.put{N k:Nat}{L:HL}{F:HF}{T:List Int}(h:HInv N k L F T){to:Int}(hf:(F to).getD false=false)(h0:0<=to)(h1:to<(N:Int)){now:List Int}(hn:now.length<=k) :
 HInv N k (L.set to.toNat now) (λa=>if a=to then some true else F a) (T++[to]):=by
  have hx:to ∉ T:=λhm=>by have:=(h.fd to).2 hm;rw[hf] at this;cases this
  refine⟨by rw[jq];exact h.len,?_,λx hx'=>?_,λx=>?_,λi=>?_⟩;rw[List.nodup_append];exact⟨h.nd,W207,λa ha b hb=>by grind⟩;rw[kq,jG] at hx';rcases hx' with hx'|rfl;exact h.rng x hx';exact⟨h0,h1⟩;rw[kq,jG];show(if x=to then some true else F x).getD false=true↔_;split;rename_i e;subst e;simp;rename_i e;rw[h.fd x];simp[e];rw[jc,List.getElem?_set];split;split;exact hn;simp;rw[<- jc];exact h.short i
theorem HInv.first{N:Nat}(h:0<N):HInv N 0 (jd N []) (λa=>if a=0 then some true else none) [0]:=by
 refine⟨by simp,W207,λx hx=>?_,λx=>?_,λi=>?_⟩;rw[jG] at hx;subst hx;omega;grind;grind
structure VCo where
 pos:Int
 halted:Bool
 regs:List Int
 buf:List Sto
 deriving Inhabited,DecidableEq
abbrev WordRow(l:List Int):Reg:=.row 1 l.length (zeb l) none
def setR(l:List Int)(n:Nat)(x:Int):List Int:=[if n=0 then x else l.getD 0 0,if n=1 then x else l.getD 1 0,if n=2 then x else l.getD 2 0,if n=3 then x else l.getD 3 0,if n=4 then x else l.getD 4 0,if n=5 then x else l.getD 5 0,if n=6 then x else l.getD 6 0,if n=7 then x else l.getD 7 0,if n=8 then x else l.getD 8 0,if n=9 then x else l.getD 9 0,if n=10 then x else l.getD 10 0,if n=11 then x else l.getD 11 0,if n=12 then x else l.getD 12 0,if n=13 then x else l.getD 13 0,if n=14 then x else l.getD 14 0,if n=15 then x else l.getD 15 0]
def bufUp(addr:Int)(b:List Sto)(w:Int):Nat->Int×Bool
 |0=>(w,false)
 |n+1=>if(b.getD n kQ).addr=addr then((b.getD n kQ).word,true) else bufUp addr b w n
def loadV(mem:List Int)(addr:Int)(b:List Sto):Int×Bool:=bufUp addr b (mem.getD addr.toNat 0) b.length
def loadT(i:Ins)(mem:List Int)(c:VCo):VCo:={ c with regs:=setR c.regs i.d.toNat (loadV mem i.addr c.buf).1 }
structure Hdl where
 a:Option Addr
 n:Nat
 c:Nat
 deriving Inhabited
def Hdl.none:Hdl:=⟨Option.none,0,0⟩
abbrev Hdl.v(h:Hdl):Value:=.slice h.a h.n h.c
def Hdl.tl(x:Hdl):List TC:=[.val (.slice x.a x.n x.c)]
def Hdl.tc(x:Hdl):Nat->TC:=nthT x.tl
abbrev Hdl.ownR(l:List Hdl):Reg:=ownOf 49 1 Hdl.tc l
theorem Qdj(n:Nat)(f:Nat->Nat->TC)(hf:f=λ_=>valT [.slice Option.none 0 0]):∀i,i<n->Hdl.tc ((jd n Hdl.none).getD i kQ)=f i:=by
 intro i hi;subst hf;rw[jc,ke,if_pos hi];funext j;match j with|0=>rfl|j+1=>rfl
theorem Qfy(l:List Hdl)(k:Nat)(x:Hdl):∀i,i<(l.set k x).length->Hdl.tc ((l.set k x).getD i kQ)=updT (λi=>Hdl.tc (l.getD i kQ)) k 0 [.slice x.a x.n x.c] i:=
 Zc kQ Hdl.tc l k 0 x _ (λj=>by rcases j with _|j<;>simp[Hdl.tc,Hdl.tl,nthT,nth])
def Is(X:Ext)(v:Value):Prop:=∃l:List Int,X.Tab v 1 l.length (λj=>i64T (l.getD j 0))
theorem Qpj{X:Ext}{v:Value}{l l':List Int}(h:X.Tab v 1 l.length (λj=>i64T (l.getD j 0)))(h':X.Tab v 1 l'.length (λj=>i64T (l'.getD j 0))):l=l':=by
 obtain⟨A,c,e,_,_,_,h1⟩:=h;obtain⟨A',c',e',_,_,_,h1'⟩:=h';rw[e] at e';injection e' with e1 e2 e3;refine ku e2 λi hi hi'=>?_;obtain⟨ad,ha,h2⟩:=h1 W48;obtain⟨ad',ha',h2'⟩:=h1' W48;rw[<- e1,ha] at ha';injection ha' with ha';subst ha';obtain⟨u,k1,k2⟩:=h2 i 0 hi W48;obtain⟨u',k1',k2'⟩:=h2' i 0 hi' W48;rw[k1] at k1';injection k1' with k1';subst k1';have k2:u=.int .i64 (l.getD i 0):=k2;have k2':u=.int .i64 (l'.getD i 0):=k2';grind
open Classical in
noncomputable def rd(X:Ext)(v:Value):List Int:=if h:Is X v then h.choose else []
theorem Y3{X:Ext}{v:Value}(h:Is X v):X.Tab v 1 (rd X v).length (λj=>i64T ((rd X v).getD j 0)):=by
 unfold rd;rw[dif_pos h];exact h.choose_spec
theorem Qcb{X:Ext}{v:Value}{l:List Int}(h:X.Tab v 1 l.length (λj=>i64T (l.getD j 0))):rd X v=l:=Qpj (Y3 ⟨l,h⟩) h
theorem Qsa(X:Ext):rd X Hdl.none.v=[]:=Qcb (l:=[]) (Ext.Tab.nil X 1 _)
theorem Qsb(X:Ext):Is X Hdl.none.v:=⟨[],Ext.Tab.nil X 1 _⟩
theorem Qfz{X X':Ext}(hi:X.Into X'){v:Value}(h:Is X v):Is X' v/\rd X' v=rd X v:=⟨⟨_,hi _ _ _ _ (Y3 h)⟩,Qcb (hi _ _ _ _ (Y3 h))⟩
noncomputable def rds(X:Ext)(l:List Hdl):List (List Int):=l.map λh=>rd X h.v
def Alls(X:Ext)(l:List Hdl):Prop:=∀h∈l,Is X h.v
theorem Q0s(X:Ext)(l:List Hdl):(rds X l).length=l.length:=jK _
theorem Ji(X:Ext)(l:List Hdl)(i:Nat)(hi:i<l.length):(rds X l).getD i []=rd X (l.getD i kQ).v:=by
 unfold rds;grind
theorem Q3t{X:Ext}{l:List Hdl}(h:Alls X l){i:Nat}(hi:i<l.length):Is X (l.getD i kQ).v:=by
 rw[jc,jh hi];exact h _ (jT hi)
theorem Qjf(X:Ext)(n:Nat):Alls X (jd n Hdl.none):=λh hh=>by
 rw[List.eq_of_mem_replicate hh];exact Qsb X
theorem Q7j(X:Ext)(n:Nat):rds X (jd n Hdl.none)=jd n []:=by
 unfold rds;rw[List.map_replicate,Qsa]
theorem Qb2{X X':Ext}(hi:X.Into X'){l:List Hdl}(h:Alls X l):Alls X' l/\rds X' l=rds X l:=
 ⟨λx hx=>(Qfz hi (h x hx)).1,ki λx hx=>(Qfz hi (h x hx)).2⟩
theorem Qdk{X X':Ext}(hi:X.Into X'){l:List Hdl}(h:Alls X l){now:List Int}{A:Option Addr}{cp:Nat}(ht:X'.Tab (.slice A now.length cp) 1 now.length (λj=>i64T (now.getD j 0)))(k:Nat) :
 Alls X' (l.set k ⟨A,now.length,cp⟩)/\rds X' (l.set k ⟨A,now.length,cp⟩)=(rds X l).set k now:=by
  have h0:=Qb2 hi h;refine⟨λx hx=>?_,?_⟩;rcases List.mem_or_eq_of_mem_set hx with hx|rfl;exact h0.1 x hx;exact⟨now,ht⟩;grind[rds,List.map_set,Qcb]
theorem Yn(n:Nod):(flwL n).length<=2:=by
 unfold flwL;split<;>(try split)<;>simp
structure HJ(ns:List Nod)(k:Int)(X:Ext)(V:List Hdl)(n:Nat)(F:HF)(T:List Int):Prop where
 k0:0<=k
 kn:k<=(ns.length:Int)
 inv:HInv ns.length k.toNat (rds X V) F T
 all:Alls X V
 cnt:n<=T.length
 run:heldF ns=hOut ns (ns.length+1-k.toNat) k.toNat (rds X V) F T
structure HK(ns:List Nod)(k:Int)(nd:Nod)(nw:List Int)(i:Int)(X:Ext)(V:List Hdl)(n:Nat)(F:HF)(T:List Int):Prop where
 i0:0<=i
 il:i<=((flwL nd).length:Int)
 k0:0<=k
 kn:k<(ns.length:Int)
 inv:HInv ns.length (k.toNat+1) (rds X V) F T
 all:Alls X V
 cnt:n<=T.length
 nl:nw.length<=k.toNat+1
 run:heldF ns=hIn nw (hOut ns (ns.length-k.toNat) (k.toNat+1)) ((flwL nd).drop i.toNat) (rds X V) F T
theorem HJ.start{ns:List Nod}(h:1<=ns.length)(X:Ext):HJ ns 0 X (jd ns.length Hdl.none) 1 (λq=>if q=0 then some true else none) [0]:=
 ⟨jl _,by omega,by rw[Q7j];exact HInv.first W48,Qjf X _,jo _,by rw[Q7j];rfl⟩
section
variable {ns:List Nod} {k:Int} {X:Ext} {V:List Hdl} {n:Nat} {F:HF} {T:List Int}
theorem HJ.len(h:HJ ns k X V n F T):V.length=ns.length:=by
 rw[<- Q0s X V];exact h.inv.len
theorem HJ.at_(h:HJ ns k X V n F T)(hk:k<(T.length:Int)):0<=T.getD k.toNat 0/\T.getD k.toNat 0<(ns.length:Int):=by
 have hk0:=h.k0;have hlt:k.toNat<T.length:=by omega
 rw[jc,jh hlt];exact h.inv.rng _ (jT hlt)
theorem HJ.most(h:HJ ns k X V n F T):T.length<=ns.length:=h.inv.le
theorem HJ.is(h:HJ ns k X V n F T)(hk:k<(T.length:Int)):Is X (V.getD (T.getD k.toNat 0).toNat kQ).v:=Q3t h.all (by have:=h.at_ hk;have:=h.len;omega)
theorem HJ.get(h:HJ ns k X V n F T)(hk:k<(T.length:Int)):(rds X V).getD (T.getD k.toNat 0).toNat []=rd X (V.getD (T.getD k.toNat 0).toNat kQ).v:=Ji X V _ (by have:=h.at_ hk;have:=h.len;omega)
theorem HJ.short(h:HJ ns k X V n F T)(hk:k<(T.length:Int)):(rd X (.slice (V.getD (T.getD k.toNat 0).toNat kQ).a (V.getD (T.getD k.toNat 0).toNat kQ).n (V.getD (T.getD k.toNat 0).toNat kQ).c)).length<=k.toNat:=by
 show(rd X (V.getD (T.getD k.toNat 0).toNat kQ).v).length<=k.toNat;rw[<- h.get hk];exact h.inv.short _
theorem HJ.step(h:HJ ns k X V n F T)(hk:k<(T.length:Int)):heldF ns=(match nowH (ns.getD (T.getD k.toNat 0).toNat kQ) (rd X (V.getD (T.getD k.toNat 0).toNat kQ).v) with
 |none=>T.getD k.toNat 0
 |some now=>hIn now (hOut ns (ns.length-k.toNat) (k.toNat+1)) (flwL (ns.getD (T.getD k.toNat 0).toNat kQ)) (rds X V) F T):=by
  have hk0:=h.k0;have hm:=h.most;rw[h.run,show ns.length+1-k.toNat=(ns.length-k.toNat)+1 by omega,hOut,if_pos W48,h.get hk]<;>rfl
theorem HJ.fault(h:HJ ns k X V n F T)(hk:k<(T.length:Int))(hn:nowH (ns.getD (T.getD k.toNat 0).toNat kQ) (rd X (V.getD (T.getD k.toNat 0).toNat kQ).v)=none):heldF ns=T.getD k.toNat 0:=by
 rw[h.step hk,hn]
theorem HJ.done(h:HJ ns k X V n F T)(hk:¬k<(T.length:Int)):heldF ns=-1:=by
 have hk0:=h.k0;have hkn:=h.kn;rw[h.run,show ns.length+1-k.toNat=(ns.length-k.toNat)+1 by omega,hOut,if_neg W48]
theorem Qm8{nd:Nod}{l nw:List Int}(h:nowH nd l=some nw):nw.length<=l.length+1:=by
 grind[nowH]
theorem HJ.inner(h:HJ ns k X V n F T)(hk:k<(T.length:Int)){nw:List Int}(hn:nowH (ns.getD (T.getD k.toNat 0).toNat kQ) (rd X (V.getD (T.getD k.toNat 0).toNat kQ).v)=some nw) :
 HK ns k (ns.getD (T.getD k.toNat 0).toNat kQ) nw 0 X V n F T:=
 ⟨jl _,by omega,h.k0,by have:=h.most;have:=h.k0;omega,h.inv.up W48,h.all,h.cnt,kf (Qm8 hn) (Nat.succ_le_succ (h.short hk)),by rw[h.step hk,hn];rfl⟩
end
section
variable {ns:List Nod} {k:Int} {nd:Nod} {nw:List Int} {i:Int} {X:Ext} {V:List Hdl} {n:Nat} {F:HF} {T:List Int}
theorem HK.len(h:HK ns k nd nw i X V n F T):V.length=ns.length:=by
 rw[<- Q0s X V];exact h.inv.len
theorem HK.most(h:HK ns k nd nw i X V n F T):T.length<=ns.length:=h.inv.le
theorem HK.to_(h:HK ns k nd nw i X V n F T)(hi:i<((flwL nd).length:Int))(hq:∀x∈flwL nd,0<=x/\x<(ns.length:Int)):0<=(flwL nd).getD i.toNat 0/\(flwL nd).getD i.toNat 0<(ns.length:Int):=by
 have h0:=h.i0;simp_all
theorem HK.drop(h:HK ns k nd nw i X V n F T)(hi:i<((flwL nd).length:Int)):(flwL nd).drop i.toNat=(flwL nd).getD i.toNat 0::(flwL nd).drop (i.toNat+1):=by
 have h0:=h.i0;simp_all
theorem HK.is(h:HK ns k nd nw i X V n F T){to:Int}(h0:0<=to/\to<(ns.length:Int)):Is X (V.getD to.toNat kQ).v:=Q3t h.all (by have:=h.len;omega)
theorem HK.put(h:HK ns k nd nw i X V n F T)(hi:i<((flwL nd).length:Int))(hq:∀x∈flwL nd,0<=x/\x<(ns.length:Int))(hf:(!(F ((flwL nd).getD i.toNat 0)).getD false)=true){X':Ext}{A:Option Addr}{c:Nat}(hin:X.Into X')
 (ht:X'.Tab (.slice A nw.length c) 1 nw.length (λj=>i64T (nw.getD j 0))) :
 HK ns k nd nw (i+1) X' (V.set ((flwL nd).getD i.toNat 0).toNat ⟨A,nw.length,c⟩) (n+1) (λa=>if a=(flwL nd).getD i.toNat 0 then some true else F a) (T++[(flwL nd).getD i.toNat 0]):=by
  have hs:=Qdk hin h.all ht ((flwL nd).getD i.toNat 0).toNat;have h0:=h.to_ hi hq;have hf:(F ((flwL nd).getD i.toNat 0)).getD false=false:=by simpa using hf
  have e:=h.i0;refine⟨by omega,by omega,h.k0,h.kn,by rw[hs.2];exact h.inv.put hf h0.1 h0.2 h.nl,hs.1,by simp;exact h.cnt,h.nl,?_⟩;rw[h.run,h.drop hi,hIn,if_pos hf,hs.2,show(i+1).toNat=i.toNat+1 by omega]
theorem HK.skip(h:HK ns k nd nw i X V n F T)(hi:i<((flwL nd).length:Int))(hq:∀x∈flwL nd,0<=x/\x<(ns.length:Int))(hf:(!(F ((flwL nd).getD i.toNat 0)).getD false)=false)(he:(!decide (rd X (V.getD ((flwL nd).getD i.toNat 0).toNat kQ).v=nw))=false) :
 HK ns k nd nw (i+1) X V n F T:=by
  have h0:=h.to_ hi hq;have hf:(F ((flwL nd).getD i.toNat 0)).getD false=true:=by simpa using hf
  have he:rd X (V.getD ((flwL nd).getD i.toNat 0).toNat kQ).v=nw:=by simpa using he
  have e:=h.i0;refine⟨by omega,by omega,h.k0,h.kn,h.inv,h.all,h.cnt,h.nl,?_⟩;rw[h.run,h.drop hi,hIn,if_neg (by rw[hf];decide),Ji X V _ (by have:=h.len;omega),if_pos he,show(i+1).toNat=i.toNat+1 by omega]
theorem HK.fault(h:HK ns k nd nw i X V n F T)(hi:i<((flwL nd).length:Int))(hq:∀x∈flwL nd,0<=x/\x<(ns.length:Int))(hf:(!(F ((flwL nd).getD i.toNat 0)).getD false)=false)(he:(!decide (rd X (V.getD ((flwL nd).getD i.toNat 0).toNat kQ).v=nw))=true) :
 heldF ns=(flwL nd).getD i.toNat 0:=by
  have h0:=h.to_ hi hq;have hf:(F ((flwL nd).getD i.toNat 0)).getD false=true:=by simpa using hf
  have he:¬rd X (V.getD ((flwL nd).getD i.toNat 0).toNat kQ).v=nw:=by simpa using he
  rw[h.run,h.drop hi,hIn,if_neg (by rw[hf];decide),Ji X V _ (by have:=h.len;omega),if_neg he]
theorem HK.done(h:HK ns k nd nw i X V n F T)(hi:¬i<((flwL nd).length:Int)):HJ ns (k+1) X V n F T:=by
 have h1:=h.il;have h2:=h.k0;have h3:=h.kn;refine⟨by omega,by omega,by rw[show(k+1).toNat=k.toNat+1 by omega];exact h.inv,h.all,h.cnt,?_⟩;rw[h.run,j4 W48,hIn,show(k+1).toNat=k.toNat+1 by omega,show ns.length+1-(k.toNat+1)=ns.length-k.toNat by omega]
end
section
variable {nd:Nod} {l:List Int}
theorem Qb3(h:decide (nd.kind=5)=true):nowH nd l=some (l++[nd.thing]):=by
 unfold nowH;rw[if_pos (kR h)]
theorem Qff(h:decide (nd.kind=5)=false)(h2:decide (nd.kind=6)=true)(h3:¬(l.length=0\/l.getD (l.length-1) 0≠nd.thing)):nowH nd l=some (l.take (l.length-1)):=by
 unfold nowH;grind
theorem Qm9(h:decide (nd.kind=5)=false)(h2:decide (nd.kind=6)=true)(h3:l.length=0\/l.getD (l.length-1) 0≠nd.thing):nowH nd l=none:=by
 simp_all[nowH,if_neg,kS,if_pos,kR]
theorem Q7k(h:decide (nd.kind=5)=false)(h2:decide (nd.kind=6)=false)(h3:decide (nd.kind=9)=true)(h4:decide ((0:Int)<(l.length:Int))=true):nowH nd l=none:=by
 simp_all[kR,nowH,if_neg,kS,if_pos]
theorem Q1v(h:decide (nd.kind=5)=false)(h2:decide (nd.kind=6)=false)(h3:¬(nd.kind=9/\0<l.length)):nowH nd l=some l:=by
 simp_all[nowH,if_neg,kS]
end
theorem Qdl{nd:Nod}{l:List Int}(h:decide (nd.kind=5)=false)(h2:decide (nd.kind=6)=true)(h3:(decide ((l.length:Int)=(0:Int))||!decide (l.getD ((l.length:Int)-(1:Int)).toNat (0:Int)=nd.thing))=false) :
 nowH nd l=some (jZ (((l.length:Int)-(1:Int)).toNat-0) (List.drop 0 l)):=by
  simp only[kg,decide_eq_false_iff_not,j9,decide_eq_true_eq] at h3;rw[show((l.length:Int)-1).toNat=l.length-1 by omega] at h3⊢;rw[Qff h h2 (λe=>e.elim (λe=>W48) (λe=>e h3.2))];rfl
theorem Quo{a N:Nat}{k:Int}(h:a<=k.toNat)(h2:k<=(N:Int))(h3:N<=4096):a * 64<=140737488355328:=by
 omega
theorem Qsc{a N:Nat}{k:Int}(h:a<=k.toNat+1)(h2:k<(N:Int))(h3:N<=4096):a * 64<=140737488355328:=by
 omega
theorem Q9t{nd:Nod}{l:List Int}(h:decide (nd.kind=5)=false)(h2:decide (nd.kind=6)=true)(h3:(decide ((l.length:Int)=(0:Int))||!decide (l.getD ((l.length:Int)-(1:Int)).toNat (0:Int)=nd.thing))=true):nowH nd l=none:=by
 simp_all[Qm9,Int,jQ,decide_eq_true_eq,jC,decide_eq_false_iff_not]
structure NodQ(ns nl:Nat)(g:Grf)(n:Nod):Prop where
 k:1<=n.kind/\n.kind<=9
 op:0<=n.op/\n.op<=18
 slot:n.kind=1\/n.kind=2\/n.kind=4->0<=n.slot/\n.slot<g.slots
 thing:n.kind=2\/n.kind=3\/n.kind=4->0<=n.thing/\n.thing<(ns:Int)
 lock:n.kind=5\/n.kind=6->0<=n.thing/\n.thing<(nl:Int)
 next:n.kind≠9->0<=n.next/\n.next<(g.nodes.length:Int)
 els:n.kind=8->0<=n.els/\n.els<(g.nodes.length:Int)
 a:n.a.slotted=true->0<=n.a.slot/\n.a.slot<g.slots
 b:n.b.slotted=true->0<=n.b.slot/\n.b.slot<g.slots
theorem Gk{p k h m:Int}(hu:usesB p h=true)(hw:withinP p k h m=true):0<=k/\k<m:=by
 unfold withinP at hw;rw[hu] at hw;simpa using hw
theorem Q8s{p k h m:Int}(hu:usesB p h=false)(hw:withinP p k h m=true):k=0:=by
 unfold withinP at hw;rw[hu] at hw;simpa using hw
theorem Qi0{p k h m:Int}(hm:0<m)(hw:withinP p k h m=true):0<=k/\k<m:=by
 cases hu:usesB p h with|true=>exact Gk hu hw|false=>have:=Q8s hu hw;omega
theorem Qdm{p s h:Int}{v:Vl}(hv:valueP p s v h=true)(hs:v.slotted=true):0<=v.slot/\v.slot<s:=by
 unfold valueP at hv;grind
theorem Q7l{ns nl:Nat}{g:Grf}{n:Nod}(h:rightN ns nl g n=true)(hk0:0<=n.kind):NodQ ns nl g n:=by
 unfold rightN at h;simp only[jg,jC,kg,decide_eq_false_iff_not] at h;obtain⟨⟨⟨⟨k0,k10⟩,o0⟩,o1⟩,⟨⟨⟨⟨⟨w1,w2⟩,w3⟩,w4⟩,w5⟩,w6⟩,w7⟩:=h;have hk:1<=n.kind/\n.kind<=9:=by omega
 have hop:=Qi0 W219 w1;refine⟨hk,by omega,λq=>?_,λq=>?_,λq=>?_,λq=>?_,λq=>?_,Qdm w6,Qdm w7⟩;refine Gk ?_ w2;rcases q with q|q|q;unfold prtN;rw[if_pos q];split<;>rfl;unfold prtN;rw[if_neg W48,if_pos q];rfl;unfold prtN;rw[if_neg W48,if_neg W48,if_neg W48,if_pos q];rfl;rw[if_neg W48] at w3;refine Gk ?_ w3;rcases q with q|q|q;unfold prtN;rw[if_neg W48,if_pos q];rfl;unfold prtN;rw[if_neg W48,if_neg W48,if_pos q];rfl;unfold prtN;rw[if_neg W48,if_neg W48,if_neg W48,if_pos q];rfl;rw[if_pos q] at w3;refine Gk ?_ w3;rcases q with q|q;unfold prtN;rw[if_neg W48,if_neg W48,if_neg W48,if_neg W48,if_pos q];rfl;unfold prtN;rw[if_neg W48,if_neg W48,if_neg W48,if_neg W48,if_neg W48,if_pos q];rfl;·refine Gk ?_ w4;(have q:n.kind=1\/n.kind=2\/n.kind=3\/n.kind=4\/n.kind=5\/n.kind=6\/n.kind=7\/n.kind=8:=by omega);unfold prtN;rcases q with q|q|q|q|q|q|q|q;rw[if_pos q];split<;>rfl;all_goals first|(rw[q];rfl)|(simp only[q];decide)|(rw[if_neg W48];simp[q];rfl)
 refine Gk ?_ w5;unfold prtN;rw[if_neg W48];simp[q];rfl
theorem NodQ.flw{ns nl:Nat}{g:Grf}{n:Nod}(h:NodQ ns nl g n):∀x∈flwL n,0<=x/\x<(g.nodes.length:Int):=by
 intro x hx;unfold flwL at hx;split at hx;cases hx;rename_i h9;split at hx;rename_i h8;simp only[kC,km,or_false] at hx;rcases hx with rfl|rfl;exact h.next h9;exact h.els h8.1;simp only[kC,km,or_false] at hx;subst hx;exact h.next h9
def badG(g:Grf):Bool:=decide (g.locals<0)||decide (64<g.locals)||decide (g.slots<g.locals)||decide (4160<g.slots)||decide ((g.nodes.length:Int)<1)||decide (4096<(g.nodes.length:Int))
def badN(ns nl:Nat)(g:Grf):List Nod->Int->Option Int
 |[],_=>none
 |n::r,i=>if rightN ns nl g n=true then badN ns nl g r (i+1) else some i
def chkGo(ns nl:Nat):List Grf->Int->Int×Int×Int
 |[],_=>(0,0,0)
 |g::r,t=>if badG g=true then(60,t,0) else match badN ns nl g g.nodes 0 with
   |some i=>(60,t,i)
   |none=>if 0<=heldF g.nodes then(60,t,heldF g.nodes) else chkGo ns nl r (t+1)
def chkU(sh lk:List Dcl)(gs:List Grf):Int×Int×Int:=if namedB sh lk gs=true then chkGo sh.length lk.length gs 0 else(60,0,0)
structure GrfQ(ns nl:Nat)(g:Grf):Prop where
 loc:0<=g.locals/\g.locals<=g.slots/\g.slots<=4160
 len:1<=g.nodes.length/\g.nodes.length<=4096
 nod:∀i:Nat,i<g.nodes.length->rightN ns nl g (g.nodes.getD i default)=true
theorem Q30{g:Grf}(h:badG g=false):(0<=g.locals/\g.locals<=g.slots/\g.slots<=4160)/\(1<=g.nodes.length/\g.nodes.length<=4096):=by
 grind[badG,kg,decide_eq_false_iff_not]
theorem Q5j{ns nl:Nat}{g:Grf}:∀{l:List Nod} {i:Int},badN ns nl g l i=none->∀j:Nat,j<l.length->rightN ns nl g (l.getD j kQ)=true
 |[],_,_,j,hj=>absurd hj W207
 |n::r,i,h,j,hj=>by
  unfold badN at h;split at h;rename_i hr;cases j with|zero=>exact hr|succ j=>exact Q5j h j W299
  cases h
theorem Qdn{ns nl:Nat}:∀{l:List Grf} {t:Int},(chkGo ns nl l t).1=0->∀j:Nat,j<l.length->GrfQ ns nl (l.getD j kQ)
 |[],_,_,j,hj=>absurd hj W207
 |g::r,t,h,j,hj=>by
  unfold chkGo at h;split at h;cases h;rename_i hb;split at h;cases h;rename_i hn;split at h;cases h;cases j with|zero =>have:=Q30 (by simpa using hb);exact⟨this.1,this.2,Q5j hn⟩|succ j=>exact Qdn h j W299
theorem Ye{sh lk:List Dcl}{gs:List Grf}(h:(chkU sh lk gs).1=0):(sh.length<=64/\lk.length<=16/\gs.length<=8)/\∀j:Nat,j<gs.length->GrfQ sh.length lk.length (gs.getD j kQ):=by
 unfold chkU at h;split at h;rename_i hn;refine⟨?_,Qdn h⟩;unfold namedB at hn;simp only[jg] at hn;have hm:manyB sh lk gs=false:=by have:=hn.1;simpa using this
 exact Q1u hm;cases h
section
variable {sh lk:List Dcl} {gs:List Grf} {t:Int}
structure CJ(sh lk:List Dcl)(gs:List Grf)(t:Int):Prop where
 t0:0<=t
 tl:t<=(gs.length:Int)
 run:chkU sh lk gs=chkGo sh.length lk.length (gs.drop t.toNat) t
theorem CJ.start(h:(!namedB sh lk gs)=false):CJ sh lk gs 0:=⟨jl _,by omega,by unfold chkU;rw[if_pos W259];rfl⟩
theorem CJ.first(h:(!namedB sh lk gs)=true):chkU sh lk gs=(60,0,0):=by
 unfold chkU;rw[if_neg W259]
theorem CJ.drop(h:CJ sh lk gs t)(ht:t<(gs.length:Int)):gs.drop t.toNat=gs.getD t.toNat kQ::gs.drop (t.toNat+1):=by
 have h0:=h.t0;simp_all
theorem CJ.bad(h:CJ sh lk gs t)(ht:t<(gs.length:Int))(hb:badG (gs.getD t.toNat kQ)=true):chkU sh lk gs=(60,t,0):=by
 rw[h.run,h.drop ht,chkGo,if_pos hb]
theorem CJ.nods(h:CJ sh lk gs t)(ht:t<(gs.length:Int))(hb:badG (gs.getD t.toNat kQ)=false){i:Int}(hn:badN sh.length lk.length (gs.getD t.toNat kQ) (gs.getD t.toNat kQ).nodes 0=some i):chkU sh lk gs=(60,t,i):=by
 rw[h.run,h.drop ht,chkGo,if_neg (by rw[hb];decide),hn]
theorem CJ.held(h:CJ sh lk gs t)(ht:t<(gs.length:Int))(hb:badG (gs.getD t.toNat kQ)=false)(hn:badN sh.length lk.length (gs.getD t.toNat kQ) (gs.getD t.toNat kQ).nodes 0=none)(hh:decide ((0:Int)<=heldF (gs.getD t.toNat kQ).nodes)=true) :
 chkU sh lk gs=(60,t,heldF (gs.getD t.toNat kQ).nodes):=by
  rw[h.run,h.drop ht,chkGo,if_neg (by rw[hb];decide),hn];dsimp only;rw[if_pos (kR hh)]
theorem CJ.next(h:CJ sh lk gs t)(ht:t<(gs.length:Int))(hb:badG (gs.getD t.toNat kQ)=false)(hn:badN sh.length lk.length (gs.getD t.toNat kQ) (gs.getD t.toNat kQ).nodes 0=none)(hh:decide ((0:Int)<=heldF (gs.getD t.toNat kQ).nodes)=false) :
 CJ sh lk gs (t+1):=by
  have h0:=h.t0;refine⟨by omega,by omega,?_⟩;rw[h.run,h.drop ht,chkGo,if_neg (by rw[hb];decide),hn];grind
theorem CJ.done(h:CJ sh lk gs t)(ht:¬t<(gs.length:Int)):chkU sh lk gs=(0,0,0):=by
 have h1:=h.tl;rw[h.run,j4 W48];rfl
structure CN(ns nl:Nat)(g:Grf)(i:Int):Prop where
 i0:0<=i
 il:i<=(g.nodes.length:Int)
 run:badN ns nl g g.nodes 0=badN ns nl g (g.nodes.drop i.toNat) i
end
section
variable {ns nl:Nat} {g:Grf} {i:Int}
theorem CN.start(ns nl:Nat)(g:Grf):CN ns nl g 0:=⟨jl _,by omega,rfl⟩
theorem CN.drop(h:CN ns nl g i)(hi:i<(g.nodes.length:Int)):g.nodes.drop i.toNat=g.nodes.getD i.toNat kQ::g.nodes.drop (i.toNat+1):=by
 have h0:=h.i0;simp_all
theorem CN.bad(h:CN ns nl g i)(hi:i<(g.nodes.length:Int))(hr:(!rightN ns nl g (g.nodes.getD i.toNat kQ))=true):badN ns nl g g.nodes 0=some i:=by
 rw[h.run,h.drop hi,badN,if_neg (by simpa using hr)]
theorem CN.next(h:CN ns nl g i)(hi:i<(g.nodes.length:Int))(hr:(!rightN ns nl g (g.nodes.getD i.toNat kQ))=false):CN ns nl g (i+1):=by
 have h0:=h.i0;refine⟨by omega,by omega,?_⟩;rw[h.run,h.drop hi,badN,if_pos (by simpa using hr),show(i+1).toNat=i.toNat+1 by omega]
theorem CN.done(h:CN ns nl g i)(hi:¬i<(g.nodes.length:Int)):badN ns nl g g.nodes 0=none:=by
 have h1:=h.il;rw[h.run,j4 W48];rfl
theorem Qjg(h:badN ns nl g g.nodes 0=none)(hk:∀j:Nat,0<=(g.nodes.getD j kQ).kind):∀j:Nat,j<g.nodes.length->∀x∈flwL (g.nodes.getD j kQ),0<=x/\x<(g.nodes.length:Int):=
 λj hj=>(Q7l (Q5j h j hj) (hk j)).flw
end
def UnitW(gs:List Grf):Prop:=∀a b:Nat,0<=((gs.getD a kQ).nodes.getD b kQ).kind/\0<=((gs.getD a kQ).nodes.getD b kQ).op/\((gs.getD a kQ).nodes.getD b kQ).op<=255
structure Bo where
 b:Bool
 deriving Inhabited,DecidableEq
def Bo.tl(x:Bo):List TC:=[.val (.bool x.b)]
def Bo.tc(x:Bo):Nat->TC:=nthT x.tl
abbrev Bo.rowR(l:List Bo):Reg:=rowOf 1 Bo.tc l
abbrev Bo.ownR(l:List Bo):Reg:=ownOf 4 1 Bo.tc l
theorem J2(l:List Bo)(k:Nat)(x:Bo):∀i,i<(l.set k x).length->Bo.tc ((l.set k x).getD i kQ)=updT (λi=>Bo.tc (l.getD i kQ)) k 0 [.bool x.b] i:=
 Zc kQ Bo.tc l k 0 x _ (λj=>by rcases j with _|j<;>simp[Bo.tc,Bo.tl,nthT,nth])
theorem Q5y{n:Nat}:∀i,i<((jd n (Bo.mk false)).set 0 ⟨true⟩).length->Bo.tc (((jd n (Bo.mk false)).set 0 ⟨true⟩).getD i kQ)=updT (λ_ j=>valT [jL false] j) 0 0 [jL true] i:=by
 intro i hi;rw[J2 _ _ _ i hi];have hi:i<n:=by simpa using hi
 unfold updT;funext j;have e:(jd n (Bo.mk false)).getD i kQ=⟨false⟩:=by grind
 simp only[e];first|rfl|(split<;>first|rfl|(rcases j with _|j<;>rfl))
inductive Rch(l:List Nod):Nat->Prop
 |zero:Rch l 0
 |step {i:Nat} {x:Int} (t:Rch l i) (h:x∈flwL (l.getD i kQ)):Rch l x.toNat
open Classical in
noncomputable def rchL(l:List Nod):List Bo:=(jv l.length).map λi=>⟨decide (Rch l i)⟩
theorem Qh(l:List Nod):(rchL l).length=l.length:=by
 simp[rchL]
theorem Qdo{l:List Nod}{i:Nat}(h:i<l.length):((rchL l).getD i kQ).b=true↔Rch l i:=by
 simp_all[rchL,jc,jy,kI]
def falses:List Bo->Nat
 |[]=>0
 |⟨true⟩::r=>falses r
 |⟨false⟩::r=>falses r+1
theorem Yf:∀{l:List Bo} {i:Nat},i<l.length->(l.getD i kQ).b=false->falses (l.set i ⟨true⟩)+1=falses l
 |[],_,h,_=>absurd h W207
 |⟨b⟩::r,0,_,h=>by have:b=false:=h;subst this;rfl
 |⟨b⟩::r,i+1,h,hb=>by
  have:=Yf (l:=r) (i:=i) W259 (by simpa using hb);cases b<;>simp only[List.set_cons_succ,falses]<;>omega
theorem Gl:∀l:List Bo,falses l<=l.length
 |[]=>jo _
 |⟨true⟩::r=>Nat.le_succ_of_le (Gl r)
 |⟨false⟩::r=>Nat.succ_le_succ (Gl r)
theorem Qk{α:Type}(d:α)(l:List α)(i j:Nat)(x:α)(h:i<l.length):(l.set i x).getD j d=if j=i then x else l.getD j d:=by
 grind
theorem Qc{α:Type}{l:List α}{i:Nat}{d:α}(h:i<l.length):l.getD i d=l[i]:=by
 grind
structure SprJ(l:List Nod)(out:List Bo)(todo:List Int)(at_:Option (Int×Int)):Prop where
 len:out.length=l.length
 lo:∀i,(out.getD i default).b=true->Rch l i
 td:∀x∈todo,0<=x/\x<(l.length:Int)/\(out.getD x.toNat default).b=true
 z:(out.getD 0 default).b=true
 hi:∀i,(out.getD i default).b=true->(∃x∈todo,x.toNat=i)\/(∃a j,at_=some (a,j)/\a.toNat=i)\/∀x∈flwL (l.getD i default),(out.getD x.toNat default).b=true
 cur:∀a j,at_=some (a,j)->0<=a/\a<(l.length:Int)/\(out.getD a.toNat default).b=true/\0<=j/\j<=((flwL (l.getD a.toNat default)).length:Int)/\∀x∈(flwL (l.getD a.toNat default)).take j.toNat,(out.getD x.toNat default).b=true
theorem Qma{α:Type}{l:List α}{d:α}(h:0<l.length):l.getD (l.length-1) d∈l:=by
 grind
theorem mem_take_last{l:List Int}{x:Int}(h:x∈l):x∈l.take (l.length-1)\/x=l.getD (l.length-1) 0:=by
 obtain⟨i,hi,rfl⟩:=List.mem_iff_getElem.1 h;by_cases e:i<l.length-1;left;exact List.mem_take_iff_getElem.2 ⟨i,by omega,rfl⟩;grind
theorem Qn{l:List Int}{j:Int}(h:j<(l.length:Int))(h0:0<=j):l.getD j.toNat 0∈l:=by
 rw[Qc W48];exact jT _
theorem SprJ.start{l:List Nod}(h:0<l.length):SprJ l ((jd l.length (Bo.mk false)).set 0 (Bo.mk true)) [0] none:=by
 have g:∀i,(((jd l.length (Bo.mk false)).set 0 (Bo.mk true)).getD i kQ).b=true->i=0:=λi hi=>by rw[Qk _ _ _ _ _ W259] at hi;by_cases e:i=0;exact e;rw[if_neg e,jc,ke] at hi;split at hi;simp at hi;exact absurd hi W219
 have z:(((jd l.length (Bo.mk false)).set 0 (Bo.mk true)).getD 0 kQ).b=true:=by rw[Qk _ _ _ _ _ W259,if_pos rfl]
 refine⟨by simp,λi hi=>by rw[g i hi];exact .zero,λx hx=>?_,z,λi hi=>?_,λa j e=>by cases e⟩;grind;exact .inl ⟨0,by simp,by rw[g i hi];rfl⟩
theorem SprJ.pop{l:List Nod}{out:List Bo}{todo:List Int}(h:SprJ l out todo none)(h0:0<todo.length):SprJ l out (todo.take (todo.length-1)) (some (todo.getD (todo.length-1) 0,0)):=by
 have hm:=h.td _ (Qma (d:=0) h0);refine⟨h.len,h.lo,λx hx=>h.td x (List.mem_of_mem_take hx),h.z,λi hi=>?_,λa j e=>?_⟩;rcases h.hi i hi with⟨x,hx,rfl⟩|⟨a,j,e,_⟩|h3;rcases mem_take_last hx with h1|h1;exact .inl ⟨x,h1,rfl⟩;exact .inr (.inl ⟨_,_,rfl,by rw[h1]⟩);cases e;exact .inr (.inr h3);cases e;grind
theorem SprJ.popI{l:List Nod}{out:List Bo}{todo:List Int}(h:SprJ l out todo none)(h0:0<todo.length):SprJ l out (todo.take (todo.length-1)) (some (todo.getD ((todo.length:Int)-(1:Int)).toNat 0,0)):=by
 rw[show((todo.length:Int)-1).toNat=todo.length-1 by omega];exact h.pop h0
theorem SprJ.old{l:List Nod}{out:List Bo}{todo:List Int}{a j:Int}(h:SprJ l out todo (some (a,j)))(hj:j<((flwL (l.getD a.toNat kQ)).length:Int))(ho:(out.getD ((flwL (l.getD a.toNat kQ)).getD j.toNat 0).toNat kQ).b=true):SprJ l out todo (some (a,j+1)):=by
 obtain⟨c1,c2,c3,c4,c5,c6⟩:=h.cur a j rfl;refine⟨h.len,h.lo,h.td,h.z,λi hi=>?_,λa' j' e=>?_⟩;rcases h.hi i hi with h1|⟨a',j',e,e2⟩|h3;exact .inl h1;cases e;exact .inr (.inl ⟨_,_,rfl,e2⟩);exact .inr (.inr h3);cases e;refine⟨c1,c2,c3,by omega,by omega,λx hx=>?_⟩;rw[show(j+1).toNat=j.toNat+1 by omega,jF W48,kq] at hx;grind
theorem SprJ.new{l:List Nod}{out:List Bo}{todo:List Int}{a j:Int}(hq:∀i<l.length,∀x∈flwL (l.getD i kQ),0<=x/\x<(l.length:Int))(h:SprJ l out todo (some (a,j)))(hj:j<((flwL (l.getD a.toNat kQ)).length:Int)) :
 SprJ l (out.set ((flwL (l.getD a.toNat kQ)).getD j.toNat 0).toNat ⟨true⟩) (todo++[(flwL (l.getD a.toNat kQ)).getD j.toNat 0]) (some (a,j+1)):=by
  obtain⟨c1,c2,c3,c4,c5,c6⟩:=h.cur a j rfl;have hmem:(flwL (l.getD a.toNat kQ)).getD j.toNat 0∈flwL (l.getD a.toNat kQ):=by grind
  have hr:=hq a.toNat W48 _ hmem;generalize hk:(flwL (l.getD a.toNat kQ)).getD j.toNat 0=k at *;have hlen:=h.len;have up:∀i,(out.getD i kQ).b=true->((out.set k.toNat ⟨true⟩).getD i kQ).b=true:=λi hi=>by grind
  have kk:((out.set k.toNat ⟨true⟩).getD k.toNat kQ).b=true:=by rw[Qk _ _ _ _ _ W48,if_pos rfl]
  refine⟨by simp[hlen],λi hi=>?_,λx hx=>?_,up _ h.z,λi hi=>?_,λa' j' e=>?_⟩;rw[Qk _ _ _ _ _ W48] at hi;by_cases e:i=k.toNat;subst e;exact .step (h.lo _ c3) hmem;rw[if_neg e] at hi;exact h.lo i hi;rcases List.mem_append.1 hx with hx|hx;have:=h.td x hx;exact⟨this.1,this.2.1,up _ this.2.2⟩;grind;rw[Qk _ _ _ _ _ W48] at hi;by_cases e:i=k.toNat;subst e;exact .inl ⟨k,by simp,rfl⟩;rw[if_neg e] at hi;rcases h.hi i hi with⟨x,h1,h2⟩|⟨a',j',e,e2⟩|h3;exact .inl ⟨x,j5 _ h1,h2⟩;cases e;exact .inr (.inl ⟨_,_,rfl,e2⟩);exact .inr (.inr λx hx=>up _ (h3 x hx));cases e;refine⟨c1,c2,up _ c3,by omega,by omega,λx hx=>?_⟩;rw[show(j+1).toNat=j.toNat+1 by omega,jF W48,kq] at hx;grind
theorem SprJ.close{l:List Nod}{out:List Bo}{todo:List Int}{a j:Int}(h:SprJ l out todo (some (a,j)))(hj:((flwL (l.getD a.toNat kQ)).length:Int)<=j):SprJ l out todo none:=by
 obtain⟨c1,c2,c3,c4,c5,c6⟩:=h.cur a j rfl;refine⟨h.len,h.lo,h.td,h.z,λi hi=>?_,λa j e=>by cases e⟩;grind[hi,jU]
theorem SprJ.done{l:List Nod}{out:List Bo}(h:SprJ l out [] none)(hq:∀i<l.length,∀x∈flwL (l.getD i kQ),0<=x/\x<(l.length:Int)):out=rchL l:=by
 have hr:∀i,Rch l i->(out.getD i kQ).b=true:=λi t=>by induction t with|zero=>exact h.z| @step i x t hx ih =>rcases h.hi i ih with⟨y,hy,_⟩|⟨a,j,e,_⟩|h3;cases hy;cases e;exact h3 x hx
 refine ku (by rw[h.len,Qh]) λi h1 h2=>?_;have e1:(out.getD i kQ)=out[i]:=by grind
 have e2:((rchL l).getD i kQ)=(rchL l)[i]:=by grind
 rw[<- e1,<- e2];have e3:(out.getD i kQ).b=((rchL l).getD i kQ).b:=by rw[Bool.eq_iff_iff,Qdo (by rw[<- h.len];exact h1)];exact⟨h.lo i,hr i⟩
 cases hx:out.getD i kQ;simp_all
structure Iln where
 l:List Int
 deriving Inhabited,DecidableEq
def Iln.tl(x:Iln):List TC:=[.sub 3 1 x.l.length (λi=>i64T (x.l.getD i 0))]
def Iln.tc(x:Iln):Nat->TC:=nthT x.tl
abbrev Iln.rowR(l:List Iln):Reg:=rowOf 1 Iln.tc l
abbrev Iln.ownR(l:List Iln):Reg:=ownOf 49 1 Iln.tc l
def ahd1(out:List Iln)(i x:Int):List Iln:=out.set x.toNat ⟨(out.getD x.toNat kQ).l++[i]⟩
def ahdN(l:List Nod):Nat->List Iln
 |0=>jd l.length ⟨[]⟩
 |i+1=>(flwL (l.getD i kQ)).foldl (λo x=>ahd1 o i x) (ahdN l i)
def ahdJ(l:List Nod)(i j:Nat):List Iln:=((flwL (l.getD i kQ)).take j).foldl (λo x=>ahd1 o i x) (ahdN l i)
def aheadL(l:List Nod):List Iln:=ahdN l l.length
theorem Qjh(l:List Nod)(i:Nat):ahdJ l i 0=ahdN l i:=by
 simp[ahdJ]
theorem Qji{l:List Nod}{i j:Nat}(h:j<(flwL (l.getD i kQ)).length):ahdJ l i (j+1)=ahd1 (ahdJ l i j) i ((flwL (l.getD i kQ)).getD j 0):=by
 unfold ahdJ;rw[jF h,List.foldl_append,Qc h];rfl
theorem Qjj{l:List Nod}{i j:Nat}(h:(flwL (l.getD i kQ)).length<=j):ahdJ l i j=ahdN l (i+1):=by
 unfold ahdJ;rw[jU h];rfl
theorem Qjk{l:List Nod}{i j:Int}(hi:0<=i)(hj:0<=j)(h:j<((flwL (l.getD i.toNat kQ)).length:Int)):ahd1 (ahdJ l i.toNat j.toNat) i ((flwL (l.getD i.toNat kQ)).getD j.toNat 0)=ahdJ l i.toNat (j+1).toNat:=by
 rw[show(j+1).toNat=j.toNat+1 by omega,Qji W48,show((i.toNat:Nat):Int)=i by omega]
theorem Qg0(o:List Iln)(i x:Int)(h:x.toNat<o.length):∀j,j<(ahd1 o i x).length->Iln.tc ((ahd1 o i x).getD j kQ)=if j=x.toNat then Iln.tc ⟨(o.getD x.toNat kQ).l++[i]⟩ else Iln.tc (o.getD j kQ):=by
 intro j hj;unfold ahd1;rw[Qk _ _ _ _ _ h];split<;>rfl
theorem Q1c(o:List Iln)(i x:Int):(ahd1 o i x).length=o.length:=by
 simp[ahd1]
theorem Q7m(i:Int):∀(xs:List Int) (o:List Iln),(xs.foldl (λo x=>ahd1 o i x) o).length=o.length
 |[],_=>rfl
 |x::r,o=>by
  rw[List.foldl_cons,Q7m i r,Q1c]
theorem Q3u(l:List Nod):∀n,(ahdN l n).length=l.length
 |0=>by simp[ahdN]
 |n+1=>by
  rw[ahdN,Q7m,Q3u l n]
theorem Qdp(l:List Nod)(i j:Nat):(ahdJ l i j).length=l.length:=by
 unfold ahdJ;rw[Q7m,Q3u]
theorem Qi1{o:List Iln}{i x:Int}{m:Nat}(h:∀k:Nat,(o.getD k kQ).l.length<=m)(k:Nat):((ahd1 o i x).getD k kQ).l.length<=m+1:=by
 grind[ahd1,Qk,jm,jP,List.set_eq_of_length_le]
theorem Q3v(i:Int):∀(xs:List Int) (o:List Iln) (m:Nat),(∀k:Nat,(o.getD k kQ).l.length<=m)->∀k:Nat,((xs.foldl (λo x=>ahd1 o i x) o).getD k kQ).l.length<=m+xs.length
 |[],_,m,h=>h
 |x::r,o,m,h=>λk=>by
  have:=Q3v i r (ahd1 o i x) (m+1) (Qi1 h) k;rw[List.foldl_cons];simp only[kj];omega
theorem Q0p(l:List Nod):∀(n k:Nat),((ahdN l n).getD k kQ).l.length<=2 * n
 |0,k=>by unfold ahdN;rw[jc,ke];split;simp;simp;rfl
 |n+1,k=>by
  have h1:=Q3v n (flwL (l.getD n kQ)) (ahdN l n) (2 * n) (Q0p l n) k;grind[Yn,default,ahdN]
theorem Qi2(l:List Nod)(i j k:Nat):((ahdJ l i j).getD k kQ).l.length<=2 * i+2:=by
 have h1:=Q3v i ((flwL (l.getD i kQ)).take j) (ahdN l i) (2 * i) (Q0p l i) k;grind[Yn,default,jO,flwL,ahdJ]
theorem Qmb{o:List Iln}{i x:Int}(hx:0<=x/\x.toNat<o.length)(k:Nat)(y:Int):y∈((ahd1 o i x).getD k kQ).l↔y∈(o.getD k kQ).l\/(y=i/\k=x.toNat):=by
 grind[ahd1,Qk]
theorem Qdq(i:Int)(n:Nat):∀(xs:List Int) (o:List Iln),o.length=n->(∀x∈xs,0<=x/\x<(n:Int))->∀(k:Nat) (y:Int),y∈((xs.foldl (λo x=>ahd1 o i x) o).getD k kQ).l↔y∈(o.getD k kQ).l\/(y=i/\(k:Int)∈xs)
 |[],o,_,_,k,y=>by simp
 |x::r,o,ho,hx,k,y=>by
  have h0:=hx x kb;rw[List.foldl_cons,Qdq i n r _ (by rw[Q1c];exact ho) (λz hz=>hx z (j7 _ hz)) k y,Qmb ⟨h0.1,by omega⟩];grind
theorem Qdr{l:List Nod}(hq:∀i:Nat,i<l.length->∀x∈flwL (l.getD i kQ),0<=x/\x<(l.length:Int)):∀n,n<=l.length->∀(k:Nat) (y:Int),y∈((ahdN l n).getD k kQ).l↔0<=y/\y<(n:Int)/\(k:Int)∈flwL (l.getD y.toNat kQ)
 |0,_,k,y=>by grind[ahdN,default,kw,Q0p]
 |n+1,hn,k,y=>by
  unfold ahdN;rw[Qdq n l.length _ _ (Q3u l n) (hq n W48) k y,Qdr hq n W48 k y];grind
theorem J3{l:List Nod}(hq:∀i:Nat,i<l.length->∀x∈flwL (l.getD i kQ),0<=x/\x<(l.length:Int))(k:Nat)(y:Int):y∈((aheadL l).getD k kQ).l↔0<=y/\y<(l.length:Int)/\(k:Int)∈flwL (l.getD y.toNat kQ):=Qdr hq _ (jo _) k y
structure Vis where
 pos:Int
 k:Int
 deriving Inhabited,DecidableEq
def Vis.tl(x:Vis):List TC:=[.val (.int .i64 x.pos),.val (.int .i64 x.k)]
def Vis.tc(x:Vis):Nat->TC:=nthT x.tl
abbrev Vis.ownR(l:List Vis):Reg:=ownOf 225 2 Vis.tc l
structure Bk where
 se:List Bo
 od:List Int
 st:List Vis
def flB(l:List Nod)(v:Vis):List Int:=flwL (l.getD v.pos.toNat kQ)
def topB(s:Bk):Vis:=s.st.getD (s.st.length-1) kQ
def bkStep(l:List Nod)(s:Bk):Bk:=
 if(topB s).k=((flB l (topB s)).length:Int) then⟨s.se,s.od++[(topB s).pos],s.st.take (s.st.length-1)⟩
 else
  if(s.se.getD ((flB l (topB s)).getD (topB s).k.toNat 0).toNat kQ).b=true then⟨s.se,s.od,s.st.set (s.st.length-1) ⟨(topB s).pos,(topB s).k+1⟩⟩
  else⟨s.se.set ((flB l (topB s)).getD (topB s).k.toNat 0).toNat ⟨true⟩,s.od,s.st.set (s.st.length-1) ⟨(topB s).pos,(topB s).k+1⟩++[⟨(flB l (topB s)).getD (topB s).k.toNat 0,0⟩]⟩
def wtB:List Vis->Nat
 |[]=>0
 |v::r=>(3-v.k.toNat)+wtB r
def msB(s:Bk):Nat:=4 * falses s.se+wtB s.st
def bkGo(l:List Nod):Nat->Bk->Bk
 |0,s=>s
 |n+1,s=>if s.st.length=0 then s else bkGo l n (bkStep l s)
def bk0(l:List Nod):Bk:=⟨(jd l.length (Bo.mk false)).set 0 (Bo.mk true),[],[⟨0,0⟩]⟩
def bkF(l:List Nod):Bk:=bkGo l (msB (bk0 l)) (bk0 l)
def psB(s:Bk):List Int:=s.st.map Vis.pos
structure BkJ(l:List Nod)(s:Bk):Prop where
 len:s.se.length=l.length
 st:∀v∈s.st,0<=v.k/\v.k<=((flB l v).length:Int)
 od:∀x∈s.od++psB s,0<=x/\x<(l.length:Int)
 sn:∀i:Nat,(s.se.getD i default).b=true↔(i:Int)∈s.od++psB s
 nd:(s.od++psB s).Nodup
 bot:psB s≠[]->(psB s).getD 0 0=0
 fin:psB s=[]->∃r,s.od=r++[0]
 cl:∀x∈s.od,∀y∈flwL (l.getD x.toNat default),(s.se.getD y.toNat default).b=true
 part:∀v∈s.st,∀y∈(flB l v).take v.k.toNat,(s.se.getD y.toNat default).b=true
 link:∀i:Nat,i+1<(psB s).length->(psB s).getD (i+1) 0∈flwL (l.getD ((psB s).getD i 0).toNat default)
 par:∀a x b,s.od=a++x::b->x≠0->∃p,0<=p/\x∈flwL (l.getD p.toNat default)/\(p∈psB s\/p∈b)
theorem Zd{α:Type}{d:α}{a b:List α}{i:Nat}(h:i<a.length):(a++b).getD i d=a.getD i d:=by
 grind
theorem Qb4{α:Type}{d x:α}{a:List α}:(a++[x]).getD a.length d=x:=by
 simp[jc]
theorem snoc_eq{α:Type}{o a b:List α}{v x:α}(h:o++[v]=a++x::b):(b=[]/\o=a/\v=x)\/∃c,b=c++[v]/\o=a++x::c:=by
 rcases List.eq_nil_or_concat b with rfl|⟨c,y,rfl⟩;simp_all;rw[show a++x::c.concat y=(a++x::c)++[y] by simp] at h;have:=List.append_inj' h rfl;grind
section
variable {l:List Nod} {se:List Bo} {od:List Int} {pre:List Vis} {v:Vis}
theorem BkJ.finish(h:BkJ l ⟨se,od,pre++[v]⟩)(hk:v.k=((flB l v).length:Int)):BkJ l ⟨se,od++[v.pos],pre⟩:=by
 have hps:psB ⟨se,od,pre++[v]⟩=pre.map Vis.pos++[v.pos]:=by simp[psB]
 have hp:∀o:List Int,psB ⟨se,o,pre⟩=pre.map Vis.pos:=λ_=>rfl;obtain⟨h1,h2,h3,h4,h5,h6,h7,h8,h9,h10,h11⟩:=h;rw[hps] at h3 h4 h5 h6 h7 h10 h11;have hperm:(od++(pre.map Vis.pos++[v.pos])).Perm (od++[v.pos]++pre.map Vis.pos):=by grind
 refine⟨h1,λx hx=>h2 x (j5 _ hx),λx hx=>h3 x (hperm.mem_iff.2 hx),λi=>by rw[h4 i];exact hperm.mem_iff,hperm.nodup_iff.1 h5,λhne=>?_,λhnil=>?_,λx hx y hy=>?_,λx hx=>h9 x (j5 _ hx),λi hi=>?_,λa x b hab hx=>?_⟩;rw[hp] at hne⊢;have:=h6 W207;rwa [Zd (List.length_pos_iff.2 hne)] at this;have hnil:pre.map Vis.pos=[]:=hnil;simp_all;rcases List.mem_append.1 hx with hx|hx;exact h8 x hx y hy;rw[jG] at hx;subst hx;exact h9 v W207 y (by rw[jU (by omega)];exact hy);rw[hp] at hi⊢;have:=h10 i (by rw[jm];omega);rwa [Zd hi,Zd W48] at this;rcases snoc_eq hab with⟨rfl,rfl,rfl⟩|⟨c,rfl,rfl⟩;have hne:0<(pre.map Vis.pos).length:=by grind
 have hl:=h10 ((pre.map Vis.pos).length-1) (by rw[jm,jP];omega);rw[show(pre.map Vis.pos).length-1+1=(pre.map Vis.pos).length by omega,Qb4,Zd W48] at hl;have hm:(pre.map Vis.pos).getD ((pre.map Vis.pos).length-1) 0∈pre.map Vis.pos:=by rw[Qc W48];exact jT _
 exact⟨_,(h3 _ (by simp only[kq];exact .inr (.inl hm))).1,hl,.inl hm⟩;obtain⟨p,p0,p1,p2⟩:=h11 a x c rfl hx;grind
theorem BkJ.again(h:BkJ l ⟨se,od,pre++[v]⟩)(hk:v.k≠((flB l v).length:Int))(hs:(se.getD ((flB l v).getD v.k.toNat 0).toNat kQ).b=true):BkJ l ⟨se,od,pre++[⟨v.pos,v.k+1⟩]⟩:=by
 obtain⟨h1,h2,h3,h4,h5,h6,h7,h8,h9,h10,h11⟩:=h;have hps:psB ⟨se,od,pre++[v]⟩=psB ⟨se,od,pre++[⟨v.pos,v.k+1⟩]⟩:=by simp[psB]
 rw[hps] at h3 h4 h5 h6 h7 h10 h11;have hv:=h2 v W207;refine⟨h1,λx hx=>?_,h3,h4,h5,h6,h7,h8,λx hx y hy=>?_,h10,h11⟩;rcases List.mem_append.1 hx with hx|hx;exact h2 x (j5 _ hx);grind[jG,flB,Int];rcases List.mem_append.1 hx with hx|hx;exact h9 x (j5 _ hx) y hy;rw[jG] at hx;subst hx;have hy:y∈(flB l v).take (v.k+1).toNat:=hy;rw[show(v.k+1).toNat=v.k.toNat+1 by omega,jF W48,kq] at hy;rcases hy with hy|hy;exact h9 v W207 y hy;rw[jG] at hy;rw[Qc (l:=flB l v) W48,<- hy] at hs;exact hs
theorem BkJ.push(hq:∀i:Nat,i<l.length->∀x∈flwL (l.getD i kQ),0<=x/\x<(l.length:Int))(h:BkJ l ⟨se,od,pre++[v]⟩)(hk:v.k≠((flB l v).length:Int))(hs:¬(se.getD ((flB l v).getD v.k.toNat 0).toNat kQ).b=true) :
 BkJ l ⟨se.set ((flB l v).getD v.k.toNat 0).toNat ⟨true⟩,od,pre++[⟨v.pos,v.k+1⟩]++[⟨(flB l v).getD v.k.toNat 0,0⟩]⟩:=by
  obtain⟨h1,h2,h3,h4,h5,h6,h7,h8,h9,h10,h11⟩:=h;have hv:=h2 v W207;have hvp:=h3 v.pos (by simp[psB]);have hmem:(flB l v).getD v.k.toNat 0∈flB l v:=by rw[Qc (l:=flB l v) W48];exact jT _
  have hto:=hq v.pos.toNat W48 _ hmem;have hk2:(flB l v).getD v.k.toNat 0=(flB l v)[v.k.toNat]'W48:=Qc _;generalize hg:(flB l v).getD v.k.toNat 0=to at *;have h1':se.length=l.length:=h1;have hps:psB ⟨se.set to.toNat ⟨true⟩,od,pre++[⟨v.pos,v.k+1⟩]++[⟨to,0⟩]⟩=psB ⟨se,od,pre++[v]⟩++[to]:=by simp[psB]
  have hne:to ∉ od++psB ⟨se,od,pre++[v]⟩:=λhm=>hs ((h4 to.toNat).2 (by rw[show((to.toNat:Nat):Int)=to by omega];exact hm));have up:∀i:Nat,(se.getD i kQ).b=true->((se.set to.toNat ⟨true⟩).getD i kQ).b=true:=λi hi=>by rw[Qk _ _ _ _ _ W48];split;rfl;exact hi
  have kk:((se.set to.toNat ⟨true⟩).getD to.toNat kQ).b=true:=by rw[Qk _ _ _ _ _ W48,if_pos rfl]
  have hlast:(psB ⟨se,od,pre++[v]⟩).getD ((psB ⟨se,od,pre++[v]⟩).length-1) 0=v.pos:=by simp[psB,jc]
  have hpos:0<(psB ⟨se,od,pre++[v]⟩).length:=by simp[psB]
  refine⟨by simpa using h1',λx hx=>?_,λx hx=>?_,λi=>?_,?_,λ_=>?_,λe=>?_,λx hx y hy=>up _ (h8 x hx y hy),λx hx y hy=>?_,λi hi=>?_,λa x b hab hx=>?_⟩;rcases List.mem_append.1 hx with hx|hx;rcases List.mem_append.1 hx with hx|hx;exact h2 x (j5 _ hx);grind[jG,flB,Int];simp_all;rw[hps,<- jM] at hx;rcases List.mem_append.1 hx with hx|hx;exact h3 x hx;rw[jG] at hx;subst hx;exact hto;rw[hps,<- jM,kq,jG,Qk _ _ _ _ _ W48];by_cases e:i=to.toNat;subst e;rw[if_pos rfl];exact⟨λ_=>.inr W48,λ_=>rfl⟩;rw[if_neg e,h4 i];exact⟨λh=>.inl h,λh=>h.resolve_right W48⟩;rw[hps,<- jM];exact List.nodup_append.2 ⟨h5,by simp,λx hx y hy e=>by grind⟩;grind;rw[hps] at e;simp at e;rcases List.mem_append.1 hx with hx|hx;rcases List.mem_append.1 hx with hx|hx;exact up _ (h9 x (j5 _ hx) y hy);rw[jG] at hx;subst hx;have hy:y∈(flB l v).take (v.k+1).toNat:=hy;rw[show(v.k+1).toNat=v.k.toNat+1 by omega,jF W48,kq] at hy;rcases hy with hy|hy;exact up _ (h9 v W207 y hy);grind;rw[jG] at hx;simp_all;rw[hps] at hi⊢;rw[jm,jP] at hi;by_cases e:i+1=(psB ⟨se,od,pre++[v]⟩).length;rw[e,Qb4,Zd W48,show i=(psB ⟨se,od,pre++[v]⟩).length-1 by omega,hlast];exact hmem;rw[Zd W48,Zd W48];exact h10 i W48;obtain⟨p,p0,p1,p2⟩:=h11 a x b hab hx;grind
end
theorem Qmc{α:Type}{d:α}{st:List α}(h:st.length≠0):st=st.take (st.length-1)++[st.getD (st.length-1) d]:=by
 grind[Qc,List.take_append_getElem,List.take_length]
theorem Qmd{α:Type}{pre:List α}{v x:α}:(pre++[v]).set ((pre++[v]).length-1) x=pre++[x]:=by
 simp
theorem Q31:∀(a b:List Vis),wtB (a++b)=wtB a+wtB b
 |[],b=>by simp[wtB]
 |x::r,b=>by
  simp only[List.cons_append,wtB,Q31 r b];omega
def BkS(l:List Nod)(s:Bk):Prop:=BkJ l s/\∃k,msB s<=k/\bkGo l k s=bkF l
theorem BkJ.step{l:List Nod}(hq:∀i:Nat,i<l.length->∀x∈flwL (l.getD i kQ),0<=x/\x<(l.length:Int)){s:Bk}(h:BkJ l s)(h0:s.st.length≠0):BkJ l (bkStep l s)/\msB (bkStep l s)<msB s:=by
 obtain⟨se,od,st⟩:=s;have h0:st.length≠0:=h0;have hsp:=Qmc (d:=kQ) h0;generalize hpre:st.take (st.length-1)=pre at hsp;generalize hv:st.getD (st.length-1) kQ=v at hsp;have htop:topB ⟨se,od,st⟩=v:=hv;have hset:∀x,st.set (st.length-1) x=pre++[x]:=λx=>by rw[hsp];exact Qmd
 have hbk:=h;rw[hsp] at hbk;have hvk:=hbk.st v W207;have htwo:=Yn (l.getD v.pos.toNat kQ);have hms:msB ⟨se,od,st⟩=4 * falses se+(wtB pre+(3-v.k.toNat)):=by show 4 * falses se+wtB st=_;rw[hsp,Q31];simp[wtB]
 have hfl:(flB l v).length<=2:=htwo;unfold bkStep;rw[htop];split;rename_i hk;show BkJ l ⟨se,od++[v.pos],st.take (st.length-1)⟩/\msB ⟨se,od++[v.pos],st.take (st.length-1)⟩<_;rw[hpre,hms];refine⟨hbk.finish hk,?_⟩;show 4 * falses se+wtB pre<_;omega;rename_i hk;split;rename_i hs;show BkJ l ⟨se,od,st.set (st.length-1) ⟨v.pos,v.k+1⟩⟩/\msB ⟨se,od,st.set (st.length-1) ⟨v.pos,v.k+1⟩⟩<_;rw[hset,hms];refine⟨hbk.again hk hs,?_⟩;show 4 * falses se+wtB (pre++[⟨v.pos,v.k+1⟩])<_;rw[Q31];simp only[wtB];omega;rename_i hs;show BkJ l ⟨se.set ((flB l v).getD v.k.toNat 0).toNat ⟨true⟩,od,st.set (st.length-1) ⟨v.pos,v.k+1⟩++[⟨(flB l v).getD v.k.toNat 0,0⟩]⟩/\msB ⟨se.set ((flB l v).getD v.k.toNat 0).toNat ⟨true⟩,od,st.set (st.length-1) ⟨v.pos,v.k+1⟩++[⟨(flB l v).getD v.k.toNat 0,0⟩]⟩<_;rw[hset,hms];refine⟨hbk.push hq hk hs,?_⟩;have hmem:(flB l v).getD v.k.toNat 0∈flB l v:=by rw[Qc (l:=flB l v) W48];exact jT _
 have hto:=hq v.pos.toNat (by have:=hbk.od v.pos (by simp[psB]);omega) _ hmem;have hlen:se.length=l.length:=hbk.len;have hf:=Yf (l:=se) (i:=((flB l v).getD v.k.toNat 0).toNat) W48 (by simpa using hs);show 4 * falses (se.set ((flB l v).getD v.k.toNat 0).toNat ⟨true⟩)+wtB (pre++[⟨v.pos,v.k+1⟩]++[⟨(flB l v).getD v.k.toNat 0,0⟩])<_;rw[Q31,Q31];simp only[wtB];have:(3-(0:Int).toNat)=3:=rfl;omega
theorem BkS.next{l:List Nod}(hq:∀i:Nat,i<l.length->∀x∈flwL (l.getD i kQ),0<=x/\x<(l.length:Int)){s:Bk}(h:BkS l s)(h0:s.st.length≠0):BkS l (bkStep l s)/\msB (bkStep l s)<msB s:=by
 obtain⟨h1,k,h2,h3⟩:=h;obtain⟨g1,g2⟩:=h1.step hq h0;refine⟨⟨g1,k-1,by omega,?_⟩,g2⟩;rw[show k=(k-1)+1 by omega] at h3;unfold bkGo at h3;rwa [if_neg h0] at h3
theorem BkS.done{l:List Nod}{s:Bk}(h:BkS l s)(h0:s.st.length=0):bkF l=s:=by
 obtain⟨_,k,_,h3⟩:=h;rw[<- h3];cases k with|zero=>rfl|succ k=>unfold bkGo;rw[if_pos h0]
theorem BkJ.start{l:List Nod}(h:0<l.length):BkJ l (bk0 l):=by
 have g:∀i,((bk0 l).se.getD i kQ).b=true↔i=0:=λi=>by show(((jd l.length (Bo.mk false)).set 0 (Bo.mk true)).getD i kQ).b=true↔i=0;rw[Qk _ _ _ _ _ W259];by_cases e:i=0;simp[e];rw[if_neg e,jc,ke];split;simp[e];simp only[e,iff_false];decide
 refine⟨by simp[bk0],λv hv=>?_,λx hx=>?_,λi=>?_,by simp[bk0,psB],λ_=>rfl,λe=>by simp[bk0,psB] at e,λx hx=>by simp[bk0] at hx,λv hv y hy=>?_,λi hi=>by simp[bk0,psB] at hi,λa x b hab=>by simp[bk0] at hab⟩;grind[bk0,Int];simp[bk0,psB] at hx;subst hx;omega;rw[g];simp[bk0,psB];simp[bk0] at hv;subst hv;simp at hy
theorem BkS.start{l:List Nod}(h:0<l.length):BkS l (bk0 l):=⟨.start h,_,jo _,rfl⟩
theorem Q9u{l:List Nod}(hq:∀i:Nat,i<l.length->∀x∈flwL (l.getD i kQ),0<=x/\x<(l.length:Int)):∀(k:Nat) (s:Bk),msB s<=k->BkJ l s->BkJ l (bkGo l k s)/\(bkGo l k s).st=[]
 |0,s,h,hj=>by refine⟨hj,?_⟩;show s.st=[];cases hst:s.st with|nil=>rfl|cons v r =>(have h1:wtB s.st=0:=by unfold msB at h;omega);rw[hst] at h1;unfold wtB at h1;have h2:=hj.st v (by rw[hst];simp);have h3:(flB l v).length<=2:=Yn _;omega
 |k+1,s,h,hj=>by
  unfold bkGo;split;rename_i e;exact⟨hj,kw e⟩;rename_i e;obtain⟨g1,g2⟩:=hj.step hq e;exact Q9u hq k _ W48 g1
def ordL(l:List Nod):List Int:=(bkF l).od.reverse
def plcU(o:List Int)(n:Nat):Nat->List Int
 |0=>jd n 0
 |i+1=>(plcU o n i).set (o.getD i 0).toNat i
def plcL(l:List Nod):List Int:=plcU (ordL l) l.length (ordL l).length
theorem Q3w(o:List Int)(n:Nat):∀i,(plcU o n i).length=n
 |0=>by simp[plcU]
 |i+1=>by
  rw[plcU,jq,Q3w o n i]
theorem Qds{o:List Int}{n:Nat}(hr:∀x∈o,0<=x/\x<(n:Int))(hn:o.Nodup):∀i,i<=o.length->∀j,j<i->(plcU o n i).getD (o.getD j 0).toNat 0=j
 |0,_,j,hj=>absurd hj W48
 |i+1,hi,j,hj=>by
  have hm:∀k,k<o.length->o.getD k 0∈o:=λk hk=>by rw[Qc hk];exact jT _
  have h1:=hr _ (hm i W48);unfold plcU;rw[Qk _ _ _ _ _ (by rw[Q3w];omega)];by_cases e:j=i;subst e;rw[if_pos rfl];have h2:=hr _ (hm j W48);rw[if_neg (λh=>e ?_)];exact Qds hr hn i W48 j W48;have h3:o.getD j 0=o.getD i 0:=by omega
  rw[Qc W48,Qc W48] at h3;exact absurd h3 (List.pairwise_iff_getElem.1 hn j i W48 W48 W48)
theorem Qme(l:List Vis)(k:Nat):∀i,i<(l.take k).length->((l.take k).getD i kQ).tc=(l.getD i kQ).tc:=λi hi=>by
 grind
theorem nb1{b:Bool}(h:(!b)=false):b=true:=by
 cases b<;>simp at h⊢
theorem nb2{b:Bool}(h:(!b)=true):¬b=true:=by
 cases b<;>simp at h⊢
theorem Q9v(n:Nat):∀i,i<(jd n (0:Int)).length->i64T ((jd n (0:Int)).getD i 0)=λj=>valT (jn jb 0).cells.toList j:=λi hi=>by
 rw[Qc hi,List.getElem_replicate];first|rfl|(funext j;first|rfl|(rcases j with _|j<;>first|rfl|simp[i64T,nthT,nth,valT,Value.cells]))
theorem Qol(l:List Vis)(k:Nat)(x:Int):∀i,i<(l.set k ⟨(l.getD k kQ).pos,x⟩).length->((l.set k ⟨(l.getD k kQ).pos,x⟩).getD i kQ).tc=updT (λi=>(l.getD i kQ).tc) k 1 [.int .i64 x] i:=
 Zc kQ Vis.tc l k 1 _ _ (λj=>by rcases j with _|_|j<;>simp[Vis.tc,Vis.tl,nthT,nth])
theorem Qsd(l:List Vis)(k:Nat)(x:Int)(v:Vis):∀i,i<(l.set k ⟨(l.getD k kQ).pos,x⟩++[v]).length->i≠l.length->((l.set k ⟨(l.getD k kQ).pos,x⟩++[v]).getD i kQ).tc=updT (λi=>(l.getD i kQ).tc) k 1 [.int .i64 x] i:=λi hi hn=>by
 have h:i<(l.set k ⟨(l.getD k kQ).pos,x⟩).length:=by simp at hi⊢;omega
 exact(congrArg Vis.tc (Zd h)).trans (Qol l k x i h)
theorem Qpk(l:List Vis)(k:Nat)(x v:Vis):(l.set k x++[v]).getD l.length kQ=v:=by
 grind
def tpB(st:List Vis):Vis:=st.getD ((st.length:Int)-1).toNat kQ
theorem Qdt(s:Bk)(h:s.st.length≠0):tpB s.st=topB s:=by
 simp_all[tpB,topB,Int]
theorem BkS.facts{l:List Nod}{se:List Bo}{od:List Int}{st:List Vis}(h:BkS l ⟨se,od,st⟩):se.length=l.length/\od.length<=l.length/\st.length<=l.length/\(st.length≠0->0<=(tpB st).pos/\(tpB st).pos<(l.length:Int)/\0<=(tpB st).k/\(tpB st).k<=((flwL (l.getD (tpB st).pos.toNat kQ)).length:Int)):=by
 have z:=Q1b l.length _ h.1.nd h.1.od;simp only[psB,jm,jK] at z;refine⟨h.1.len,by omega,by omega,λh0=>?_⟩;have hm:tpB st∈st:=by unfold tpB;rw[Qc W48];exact jT _
 have h1:=h.1.od (tpB st).pos (List.mem_append_right _ (List.mem_map.2 ⟨_,hm,rfl⟩));have h2:=h.1.st _ hm;exact⟨h1.1,h1.2,h2.1,h2.2⟩
theorem BkS.n1{l:List Nod}(hq:∀i:Nat,i<l.length->∀x∈flwL (l.getD i kQ),0<=x/\x<(l.length:Int)){se:List Bo}{od:List Int}{st:List Vis}(h:BkS l ⟨se,od,st⟩)(h0:(0:Int)<(st.length:Int))(hk:(tpB st).k=((flwL (l.getD (tpB st).pos.toNat kQ)).length:Int)):BkS l ⟨se,od++[(tpB st).pos],st.take (st.length-1)⟩/\msB ⟨se,od++[(tpB st).pos],st.take (st.length-1)⟩<msB ⟨se,od,st⟩:=by
 have z:=h.next hq W272;have e:=Qdt ⟨se,od,st⟩ W272;simp_all[bkStep,flB,if_pos]
theorem BkS.n2{l:List Nod}(hq:∀i:Nat,i<l.length->∀x∈flwL (l.getD i kQ),0<=x/\x<(l.length:Int)){se:List Bo}{od:List Int}{st:List Vis}(h:BkS l ⟨se,od,st⟩)(h0:(0:Int)<(st.length:Int))(hk:¬(tpB st).k=((flwL (l.getD (tpB st).pos.toNat kQ)).length:Int))(hs:(se.getD ((flwL (l.getD (tpB st).pos.toNat kQ)).getD (tpB st).k.toNat 0).toNat kQ).b=true):BkS l ⟨se,od,st.set ((st.length:Int)-1).toNat ⟨(tpB st).pos,(tpB st).k+1⟩⟩/\msB ⟨se,od,st.set ((st.length:Int)-1).toNat ⟨(tpB st).pos,(tpB st).k+1⟩⟩<msB ⟨se,od,st⟩:=by
 have z:=h.next hq W272;have e:=Qdt ⟨se,od,st⟩ W272;simp_all[bkStep,flB,if_neg,if_pos,Int]
theorem BkS.n3{l:List Nod}(hq:∀i:Nat,i<l.length->∀x∈flwL (l.getD i kQ),0<=x/\x<(l.length:Int)){se:List Bo}{od:List Int}{st:List Vis}(h:BkS l ⟨se,od,st⟩)(h0:(0:Int)<(st.length:Int))(hk:¬(tpB st).k=((flwL (l.getD (tpB st).pos.toNat kQ)).length:Int))(hs:¬(se.getD ((flwL (l.getD (tpB st).pos.toNat kQ)).getD (tpB st).k.toNat 0).toNat kQ).b=true):BkS l ⟨se.set ((flwL (l.getD (tpB st).pos.toNat kQ)).getD (tpB st).k.toNat 0).toNat ⟨true⟩,od,st.set ((st.length:Int)-1).toNat ⟨(tpB st).pos,(tpB st).k+1⟩++[⟨(flwL (l.getD (tpB st).pos.toNat kQ)).getD (tpB st).k.toNat 0,0⟩]⟩/\msB ⟨se.set ((flwL (l.getD (tpB st).pos.toNat kQ)).getD (tpB st).k.toNat 0).toNat ⟨true⟩,od,st.set ((st.length:Int)-1).toNat ⟨(tpB st).pos,(tpB st).k+1⟩++[⟨(flwL (l.getD (tpB st).pos.toNat kQ)).getD (tpB st).k.toNat 0,0⟩]⟩<msB ⟨se,od,st⟩:=by
 have z:=h.next hq W272;have e:=Qdt ⟨se,od,st⟩ W272;simp_all[bkStep,flB,if_neg,Int]
theorem BkS.ord{l:List Nod}{se:List Bo}{od:List Int}{st:List Vis}(h:BkS l ⟨se,od,st⟩){i:Nat}(hi:i<od.reverse.length):0<=od.reverse.getD i 0/\od.reverse.getD i 0<(l.length:Int):=by
 refine h.1.od _ (j5 _ (List.mem_reverse.1 ?_));rw[Qc hi];exact jT _
theorem Q32{l:List Nod}(hq:∀i:Nat,i<l.length->∀x∈flwL (l.getD i kQ),0<=x/\x<(l.length:Int))(h:0<l.length):(∀x∈ordL l,0<=x/\x<(l.length:Int))/\(ordL l).Nodup/\(ordL l).length<=l.length:=by
 have z:=(Q9u hq (msB (bk0 l)) _ (jo _) (.start h)).1;have h1:∀x∈ordL l,0<=x/\x<(l.length:Int):=λx hx=>z.od x (j5 _ (List.mem_reverse.1 hx));have h2:(ordL l).Nodup:=List.pairwise_reverse.2 ((List.nodup_append.1 z.nd).1.imp λh=>Ne.symm h);exact⟨h1,h2,Q1b _ _ h2 h1⟩
theorem Qjl(l:List Int)(a b:Nat)(x y:Int):∀i,i<((l.set a x).set b y).length->i64T (((l.set a x).set b y).getD i 0)=updT (updT (λi=>i64T (l.getD i 0)) a 0 [.int .i64 x]) b 0 [.int .i64 y] i:=by
 intro i hi;rw[Ym (l.set a x) b y i hi];have h:=Ym l a x i (by simpa using hi);funext j;simp_all[i64T,updT]
def RevJ(l x:List Int)(i j:Int):Prop:=x.length=l.length/\0<=i/\i+j=(l.length:Int)-1/\i<=j+1/\∀k:Nat,k<l.length->x.getD k 0=if(k:Int)<i\/j<(k:Int) then l.getD (l.length-1-k) 0 else l.getD k 0
theorem RevJ.start(l:List Int):RevJ l l 0 ((l.length:Int)-1):=⟨rfl,jl _,by omega,by omega,λk hk=>by rw[if_neg W48]⟩
theorem RevJ.next{l x:List Int}{i j:Int}(h:RevJ l x i j)(hij:i<j):RevJ l ((x.set i.toNat (x.getD j.toNat 0)).set j.toNat (x.getD i.toNat 0)) (i+1) (j-1):=by
 obtain⟨h1,h2,h3,h4,h5⟩:=h;refine⟨by simpa using h1,by omega,by omega,by omega,λk hk=>?_⟩;rw[Qk _ _ _ _ _ W228,Qk _ _ _ _ _ W48];have hi:=h5 i.toNat W48;have hj:=h5 j.toNat W48;rw[if_neg W48] at hi hj;by_cases e1:k=j.toNat;subst e1;rw[if_pos rfl,hi,if_pos W48];congr 1;omega;rw[if_neg e1];by_cases e2:k=i.toNat;subst e2;rw[if_pos rfl,hj,if_pos W48];congr 1;omega;rw[if_neg e2,h5 k hk];grind
theorem RevJ.done{l x:List Int}{i j:Int}(h:RevJ l x i j)(hij:j<=i):x=l.reverse:=by
 obtain⟨h1,h2,h3,h4,h5⟩:=h;refine ku W248 λk hk hk'=>?_;have:=h5 k W48;rw[Qc hk] at this;rw[this,List.getElem_reverse];split;rw[Qc W48];rename_i c;rw[Qc W48];congr 1;omega
section
def MtS(U:List Int)(x:Int):Prop:=0<=x/\x<(U.length:Int)/\0<=U.getD x.toNat 0
structure MtH(P U:List Int):Prop where
 len:P.length=U.length
 pos:∀x,MtS U x->0<=P.getD x.toNat 0
 up:∀x,MtS U x->0<P.getD x.toNat 0->MtS U (U.getD x.toNat 0)/\P.getD (U.getD x.toNat 0).toNat 0<P.getD x.toNat 0
 one:∀x y,MtS U x->MtS U y->P.getD x.toNat 0=P.getD y.toNat 0->x=y
def mtG(P U:List Int):Nat->Int->Int->Int
 |0,a,_=>a
 |k+1,a,b=>if a=b then a else if P.getD b.toNat 0<P.getD a.toNat 0 then mtG P U k (U.getD a.toNat 0) b else mtG P U k a (U.getD b.toNat 0)
def mtF(P U:List Int)(a b:Int):Int:=mtG P U (P.getD a.toNat 0+P.getD b.toNat 0).toNat a b
def MtJ(P U:List Int)(a b x y:Int):Prop:=MtS U x/\MtS U y/\∃k:Nat,P.getD x.toNat 0+P.getD y.toNat 0<=k/\mtG P U k x y=mtF P U a b
variable {P U:List Int} {a b x y:Int}
theorem nb3{b:Bool}(h:(!b)=true):b=false:=by
 cases b<;>simp at h⊢
theorem MtJ.start(ha:MtS U a)(hb:MtS U b):MtJ P U a b a b:=⟨ha,hb,_,by omega,rfl⟩
theorem MtJ.one(hM:MtH P U)(h:MtJ P U a b x y)(hl:P.getD y.toNat 0<P.getD x.toNat 0):MtJ P U a b (U.getD x.toNat 0) y/\P.getD (U.getD x.toNat 0).toNat 0<P.getD x.toNat 0/\0<=P.getD (U.getD x.toNat 0).toNat 0:=by
 obtain⟨h1,h2,k,h3,h4⟩:=h;have h5:=hM.pos y h2;have h6:=hM.up x h1 W48;refine⟨⟨h6.1,h2,?_⟩,h6.2,hM.pos _ h6.1⟩;match k,h3,h4 with|0,h3,_=>exact absurd h3 W48|k+1,h3,h4 =>refine⟨k,by omega,?_⟩;rw[<- h4];(conv=>rhs;unfold mtG);rw[if_neg (by rintro rfl;omega),if_pos hl]
theorem MtJ.two(hM:MtH P U)(h:MtJ P U a b x y)(hl:P.getD x.toNat 0<P.getD y.toNat 0):MtJ P U a b x (U.getD y.toNat 0)/\P.getD (U.getD y.toNat 0).toNat 0<P.getD y.toNat 0/\0<=P.getD (U.getD y.toNat 0).toNat 0:=by
 obtain⟨h1,h2,k,h3,h4⟩:=h;have h5:=hM.pos x h1;have h6:=hM.up y h2 W48;refine⟨⟨h1,h6.1,?_⟩,h6.2,hM.pos _ h6.1⟩;match k,h3,h4 with|0,h3,_=>exact absurd h3 W48|k+1,h3,h4 =>refine⟨k,by omega,?_⟩;rw[<- h4];(conv=>rhs;unfold mtG);rw[if_neg (by rintro rfl;omega),if_neg W48]
theorem MtJ.done(h:MtJ P U a b x y)(e:x=y):mtF P U a b=x:=by
 obtain⟨_,_,k,_,h4⟩:=h;rw[<- h4];subst e;cases k with|zero=>rfl|succ k=>unfold mtG;rw[if_pos rfl]
end
section
def idxF:List Int->Int->Int->Int
 |[],_,_=>-1
 |x::r,v,k=>if v=x then k else idxF r v (k+1)
theorem Qb5(x v k:Int)(r:List Int):idxF (x::r) v k=if v=x then k else idxF r v (k+1):=rfl
def idxJ(l:List Int)(v x:Int):Prop:=0<=x/\x<=(l.length:Int)/\idxF l v 0=idxF (l.drop x.toNat) v x
theorem idxJ.start(l:List Int)(v:Int):idxJ l v 0:=⟨jl _,by omega,rfl⟩
theorem Qjm{l:List Int}{x:Int}(h0:0<=x)(h:x<(l.length:Int)):l.drop x.toNat=l.getD x.toNat 0::l.drop (x+1).toNat:=by
 grind[List.drop_eq_getElem_cons,Qc]
theorem idxJ.next{l:List Int}{v x:Int}(h:idxJ l v x)(hx:x<(l.length:Int))(hn:¬v=l.getD x.toNat 0):idxJ l v (x+1):=by
 obtain⟨h1,h2,h3⟩:=h;refine⟨by omega,by omega,?_⟩;rw[h3,Qjm h1 hx,Qb5];rw[if_neg hn]
theorem idxJ.found{l:List Int}{v x:Int}(h:idxJ l v x)(hx:x<(l.length:Int))(hn:v=l.getD x.toNat 0):idxF l v 0=x:=by
 obtain⟨h1,h2,h3⟩:=h;rw[h3,Qjm h1 hx,Qb5];rw[if_pos hn]
theorem idxJ.done{l:List Int}{v x:Int}(h:idxJ l v x)(hx:¬x<(l.length:Int)):idxF l v 0=-1:=by
 obtain⟨h1,h2,h3⟩:=h;rw[h3,j4 W48];rfl
structure UpH(P U:List Int):Prop where
 len:P.length=U.length
 pos:∀x:Int,0<=x->x<(U.length:Int)->0<=P.getD x.toNat 0
 up:∀x:Int,0<=x->x<(U.length:Int)->U.getD x.toNat 0<(U.length:Int)/\(0<=U.getD x.toNat 0->P.getD (U.getD x.toNat 0).toNat 0<P.getD x.toNat 0)
def upM(P:List Int)(y:Int):Nat:=if 0<=y then(P.getD y.toNat 0).toNat+1 else 0
def upG(U:List Int)(x:Int):Nat->Int->Bool
 |0,_=>false
 |k+1,y=>if y<0 then false else if y=x then true else upG U x k (U.getD y.toNat 0)
def upF(P U:List Int)(x y:Int):Bool:=upG U x (upM P y) y
def upJ(P U:List Int)(x b y:Int):Prop:=y<(U.length:Int)/\∃k:Nat,upM P y<=k/\upG U x k y=upF P U x b
variable {P U:List Int} {x b y:Int}
theorem upJ.start(h:b<(U.length:Int)):upJ P U x b b:=⟨h,_,jo _,rfl⟩
theorem upJ.next(hM:UpH P U)(h:upJ P U x b y)(h0:0<=y)(hn:¬y=x):upJ P U x b (U.getD y.toNat 0)/\upM P (U.getD y.toNat 0)<upM P y:=by
 obtain⟨h1,k,h2,h3⟩:=h;have h4:=hM.up y h0 h1;have h5:upM P (U.getD y.toNat 0)<upM P y:=by unfold upM;rw[if_pos h0];split;rename_i e;have h6:=h4.2 e;have h7:=hM.pos _ e h4.1;omega;omega
 refine⟨⟨h4.1,?_⟩,h5⟩;match k,h2,h3 with|0,h2,_=>exact absurd h2 W48|k+1,h2,h3 =>refine⟨k,by omega,?_⟩;simp_all[upG,if_neg]
theorem upJ.found(h:upJ P U x b y)(h0:0<=y)(hn:y=x):upF P U x b=true:=by
 obtain⟨h1,k,h2,h3⟩:=h;rw[<- h3];match k,h2 with|0,h2=>simp_all[upM,if_pos,absurd]|k+1,_=>unfold upG;rw[if_neg W48,if_pos hn]
theorem upJ.done(h:upJ P U x b y)(h0:¬0<=y):upF P U x b=false:=by
 obtain⟨h1,k,h2,h3⟩:=h;rw[<- h3];match k with|0=>rfl|k+1=>unfold upG;rw[if_pos W48]
end
end Go.Proofs.YtnddggenhefaeaaGreatDoor
end
namespace Go.Lv
structure Gr where
 n:Nat
 s:Nat
 re:Nat->Bool
 use:Nat->Nat->Bool
 dfn:Nat->Nat->Bool
 flw:Nat->List Nat
inductive Live(g:Gr):Nat->Nat->Prop
 |use {i s:Nat} (hr:g.re i=true) (h:g.use i s=true):Live g i s
 |pass {i k s:Nat} (hr:g.re i=true) (h:g.dfn i s=false) (hk:k∈g.flw i) (t:Live g k s):Live g i s
abbrev Sets:=Nat->Nat->Bool
def behind(g:Gr)(A:Sets)(i s:Nat):Bool:=(g.flw i).any λk=>A k s
def ahead(g:Gr)(A:Sets)(i s:Nat):Bool:=g.use i s||(!g.dfn i s&&behind g A i s)
def put(A:Sets)(i:Nat)(r:Nat->Bool):Sets:=λj=>if j=i then r else A j
structure Inv(g:Gr)(A:Sets):Prop where
 lo:∀i s,A i s=true->Live g i s
 post:∀i s,A i s=true->ahead g A i s=true
 off:∀i,g.re i=false->∀s,A i s=false
variable {g:Gr} {A:Sets}
theorem Qfg{B:Sets}(h:∀i s,A i s=true->B i s=true){i s:Nat}(hb:behind g A i s=true):behind g B i s=true:=by
 obtain⟨k,h1,h2⟩:=List.any_eq_true.1 hb;exact List.any_eq_true.2 ⟨k,h1,h _ _ h2⟩
theorem Q8t{B:Sets}(h:∀i s,A i s=true->B i s=true){i s:Nat}(hb:ahead g A i s=true):ahead g B i s=true:=by
 simp only[ahead,jQ,jg] at hb⊢;grind[Qfg]
theorem Inv.none(g:Gr):Inv g (λ_ _=>false):=⟨λ_ _ h=>W268,λ_ _ h=>W268,λ_ _ _=>rfl⟩
theorem Inv.put_(h:Inv g A){i:Nat}(hr:g.re i=true):Inv g (put A i (ahead g A i)):=by
 have hup:∀j s,A j s=true->Lv.put A i (ahead g A i) j s=true:=by intro j s hj;unfold Lv.put;split;rename_i e;subst e;exact h.post _ _ hj;exact hj
 refine⟨λj s hj=>?_,λj s hj=>?_,λj hj s=>?_⟩;unfold Lv.put at hj;split at hj;rename_i e;subst e;simp only[ahead,jQ,jg,jC] at hj;rcases hj with hj|⟨h1,h2⟩;exact .use hr hj;obtain⟨k,h3,h4⟩:=List.any_eq_true.1 h2;exact .pass hr h1 h3 (h.lo _ _ h4);exact h.lo _ _ hj;unfold Lv.put at hj;split at hj;rename_i e;subst e;exact Q8t hup hj;exact Q8t hup (h.post _ _ hj);unfold Lv.put;split;rename_i e;subst e;rw[hr] at hj;cases hj;exact h.off _ hj _
theorem Inv.done(h:Inv g A)(hfix:∀i,g.re i=true->∀s,ahead g A i s=A i s)(i s:Nat):A i s=true↔Live g i s:=by
 refine⟨h.lo i s,λt=>?_⟩;induction t with|use hr hu=>rw[<- hfix _ hr];simp[ahead,hu]|pass hr hd hk t ih=>rw[<- hfix _ hr];simp only[ahead,jQ,jg,hd,Bool.not_false,true_and];exact .inr (List.any_eq_true.2 ⟨_,hk,ih⟩)
def miss1(r:Nat->Bool):Nat->Nat
 |0=>0
 |s+1=>(if r s then 0 else 1)+miss1 r s
def miss(S:Nat)(A:Sets):Nat->Nat
 |0=>0
 |n+1=>miss1 (A n) S+miss S A n
theorem Qdu{r q:Nat->Bool}(h:∀s,r s=true->q s=true):∀S,miss1 q S<=miss1 r S
 |0=>jo _
 |S+1=>by
  have:=Qdu h S;unfold miss1;grind
theorem Qdv{r q:Nat->Bool}(h:∀s,r s=true->q s=true){s:Nat}(h1:r s=false)(h2:q s=true):∀S,s<S->miss1 q S<miss1 r S
 |0,hs=>absurd hs W48
 |S+1,hs=>by
  unfold miss1;by_cases e:s=S;subst e;rw[h1,h2];have:=Qdu h s;simp;omega;have h3:=Qdv h h1 h2 S W48;grind
theorem Q70{S i:Nat}{r:Nat->Bool}:∀{n:Nat},n<=i->miss S (put A i r) n=miss S A n
 |0,_=>rfl
 |n+1,h=>by
  unfold miss;rw[Q70 W48,show put A i r n=A n from if_neg W48]
theorem Qdw{S i:Nat}{r:Nat->Bool}:∀{n:Nat},i<n->miss S (put A i r) n+miss1 (A i) S=miss S A n+miss1 r S
 |0,h=>absurd h W48
 |n+1,h=>by
  unfold miss;by_cases e:i=n;subst e;rw[Q70 (jo _),show put A i r i=r from if_pos rfl];omega;rw[show put A i r n=A n from if_neg (Ne.symm e)];have h9:miss S (put A i r) n+miss1 (A i) S=miss S A n+miss1 r S:=Qdw (show i<n by omega);omega
theorem Inv.fewer(h:Inv g A){S n i s:Nat}(hi:i<n)(hs:s<S)(hne:ahead g A i s≠A i s):miss S (Lv.put A i (ahead g A i)) n<miss S A n:=by
 have h1:=Qdw (S:=S) (r:=ahead g A i) (A:=A) hi;have h3:A i s=false:=by cases e:A i s with|false=>rfl|true=>exact absurd ((h.post i s e).trans e.symm) hne
 have h2:=Qdv (h.post i) h3 (by grind) S hs;omega
end Go.Lv
noncomputable section
namespace Go.Proofs.YtnddggenhefaeaaGreatDoor
open Go Go.Tx
abbrev WW:=Nat->Nat->Int
def joF(W:WW)(l:List Int):Nat->Nat->Int
 |0=>λ_=>0
 |m+1=>joinW (joF W l m) (W (l.getD m 0).toNat) 65
def dfB(n:Nod):Bool:=decide (n.kind=1)||decide (n.kind=2)||decide (n.kind=4)
def dfF(n:Nod)(w:Nat->Int):Nat->Int:=if dfB n=true then takeW w n.slot else w
def adF(l:List Int)(w:Nat->Int):Nat->Nat->Int
 |0=>w
 |m+1=>addW (adF l w m) (l.getD m 0)
def beF(l:List Nod)(W:WW)(i:Nat):Nat->Int:=joF W (flrL (l.getD i kQ)) (flrL (l.getD i kQ)).length
def ahF(l:List Nod)(W:WW)(i:Nat):Nat->Int:=adF (useL (l.getD i kQ)) (dfF (l.getD i kQ) (beF l W i)) (useL (l.getD i kQ)).length
def putW(W:WW)(i:Nat)(r:Nat->Int):WW:=λk=>if k=i then r else W k
abbrev SETS(ty n:Nat)(W:WW):Reg:=Reg.own ty 65 n (λi=>wsT (W i)) none
def memW(w:Nat->Int)(s:Nat):Bool:=(w (s / 64)).toNat.testBit (s % 64)
def OkW(w:Nat->Int):Prop:=∀j,0<=w j/\w j<18446744073709551616
theorem OkW.zero:OkW λ_=>0:=λj=>⟨jl _,by show(0:Int)<18446744073709551616;omega⟩
theorem Qcc{a b:Int}(ha:0<=a/\a<18446744073709551616)(hb:0<=b/\b<18446744073709551616):bits .or .u64 a b=((a.toNat |||b.toNat:Nat):Int)/\0<=bits .or .u64 a b/\bits .or .u64 a b<18446744073709551616:=by
 have h:=u64_or a b ha.1 ha.2 hb.1 hb.2;have hx:a.toNat |||b.toNat<2 ^ 64:=Nat.or_lt_two_pow W48 W48;rw[h];exact⟨rfl,by omega,by omega⟩
theorem Qjn{a b:Int}(ha:0<=a/\a<18446744073709551616)(hb:0<=b/\b<18446744073709551616):bits .andNot .u64 a b=((a.toNat &&& (18446744073709551615-b.toNat):Nat):Int)/\0<=bits .andNot .u64 a b/\bits .andNot .u64 a b<18446744073709551616:=by
 have h:=u64_andNot a b ha.1 ha.2 hb.1 hb.2;have hx:a.toNat &&& (18446744073709551615-b.toNat)<=a.toNat:=Nat.and_le_left;rw[h];exact⟨rfl,by omega,by omega⟩
theorem Q5z{k:Int}(h0:0<=k)(h:k<64):∃p:Nat,p=2 ^ k.toNat/\shlI .u64 1 k=(p:Int)/\p<18446744073709551616:=by
 have h1:(2:Nat) ^ k.toNat<2 ^ 64:=Nat.pow_lt_pow_right W48 W48;have e:((2:Int) ^ k.toNat)=((2 ^ k.toNat:Nat):Int):=by simp
 unfold shlI;rw[show IntKind.bits .u64=64 from rfl,Nat.min_eq_left W48,Int.one_mul,e];generalize (2:Nat) ^ k.toNat=p at h1;refine⟨p,rfl,?_,h1⟩;show(p:Int) % 18446744073709551616=p;omega
theorem Qpl{w v:Nat->Int}(hw:OkW w)(hv:OkW v)(m:Nat):OkW (joinW w v m):=λj=>by
 unfold joinW;split;exact(Qcc (hw j) (hv j)).2;exact hw j
theorem Qmf{w v:Nat->Int}(hw:OkW w)(hv:OkW v){s:Nat}(hs:s<4160):memW (joinW w v 65) s=(memW w s||memW v s):=by
 unfold memW joinW;rw[if_pos W48,(Qcc (hw _) (hv _)).1,kE,Nat.testBit_or]
theorem Q1d{k:Int}(h0:0<=k):(k.tdiv 64).toNat=k.toNat / 64/\k.tmod 64=((k.toNat % 64:Nat):Int)/\0<=k.tmod 64/\k.tmod 64<64:=by
 grind
theorem Qg1{k:Int}(h0:0<=k){s:Nat}(e:k.toNat / 64=s / 64):(k.tmod 64).toNat=s % 64↔(s:Int)=k:=by
 grind
theorem Qse{w:Nat->Int}(hw:OkW w){k:Int}(h0:0<=k):OkW (addW w k):=λj=>by
 obtain⟨d1,d2,d3,d4⟩:=Q1d h0;obtain⟨p,_,o1,o2⟩:=Q5z d3 d4;unfold addW;split;exact(Qcc (hw _) (by rw[o1];omega)).2;exact hw j
theorem Qpm{w:Nat->Int}(hw:OkW w){k:Int}(h0:0<=k)(s:Nat):memW (addW w k) s=(decide ((s:Int)=k)||memW w s):=by
 obtain⟨d1,d2,d3,d4⟩:=Q1d h0;obtain⟨p,hp,o1,o2⟩:=Q5z d3 d4;unfold memW addW;rw[d1];by_cases e:k.toNat / 64=s / 64;rw[if_pos e,(Qcc (hw _) (by rw[o1];omega)).1,kE,Nat.testBit_or,o1,kE,hp,Nat.testBit_two_pow,e,Bool.or_comm];congr 1;exact decide_eq_decide.2 (Qg1 h0 e);grind
theorem Qpn{w:Nat->Int}(hw:OkW w){k:Int}(h0:0<=k):OkW (takeW w k):=λj=>by
 obtain⟨d1,d2,d3,d4⟩:=Q1d h0;obtain⟨p,_,o1,o2⟩:=Q5z d3 d4;unfold takeW;split;exact(Qjn (hw _) (by rw[o1];omega)).2;exact hw j
theorem Qmg{w:Nat->Int}(hw:OkW w){k:Int}(h0:0<=k)(s:Nat):memW (takeW w k) s=(memW w s&&!decide ((s:Int)=k)):=by
 obtain⟨d1,d2,d3,d4⟩:=Q1d h0;obtain⟨p,hp,o1,o2⟩:=Q5z d3 d4;unfold memW takeW;rw[d1];by_cases e:k.toNat / 64=s / 64;rw[if_pos e,(Qjn (hw _) (by rw[o1];omega)).1,kE,Nat.testBit_and,o1,kE,e];have hx:(18446744073709551615-p:Nat)=2 ^ 64-(p+1):=by omega
 have hl:s % 64<64:=Nat.mod_lt _ W48;rw[hx,Nat.testBit_two_pow_sub_succ W48,hp,Nat.testBit_two_pow,decide_eq_true hl,kr];congr 2;exact decide_eq_decide.2 (Qg1 h0 e);grind
theorem Qpo{w:Nat->Int}(hw:OkW w){k:Int}(h0:0<=k):hasW w k=memW w k.toNat:=by
 obtain⟨d1,d2,d3,d4⟩:=Q1d h0;have h1:=hw (k.toNat / 64);unfold hasW memW;rw[d1,show shrI .u64 (w (k.toNat / 64)) (k.tmod 64)=(((w (k.toNat / 64)).toNat >>> (k.toNat % 64):Nat):Int) by unfold shrI;rw[show IntKind.bits .u64=64 from rfl,Nat.min_eq_left W48,d2,kE,Nat.shiftRight_eq_div_pow];grind];have h2:(w (k.toNat / 64)).toNat >>> (k.toNat % 64)<18446744073709551616:=by rw[Nat.shiftRight_eq_div_pow];have:=Nat.div_le_self (w (k.toNat / 64)).toNat (2 ^ (k.toNat % 64));omega
 rw[u64_and _ _ (Int.natCast_nonneg _) (by grind) W48 W48,kE];rw[Nat.testBit_eq_decide_div_mod_eq,<- Nat.shiftRight_eq_div_pow];grind
theorem Qpp{w v:Nat->Int}(hw:OkW w)(hv:OkW v)(h:∀s,s<4160->memW w s=memW v s):∀j,j<65->w j=v j:=by
 intro j hj;have e:(w j).toNat=(v j).toNat:=by refine Nat.eq_of_testBit_eq λi=>?_;by_cases hi:i<64;have:=h (64 * j+i) W48;unfold memW at this;rw[show(64 * j+i) / 64=j by omega,show(64 * j+i) % 64=i by omega] at this;exact this;have h1:(w j).toNat<2 ^ i:=jN (by have:=hw j;show _<2 ^ 64;omega) (Nat.pow_le_pow_right W48 W48);have h2:(v j).toNat<2 ^ i:=jN (by have:=hv j;show _<2 ^ 64;omega) (Nat.pow_le_pow_right W48 W48);rw[Nat.testBit_lt_two_pow h1,Nat.testBit_lt_two_pow h2]
 have:=hw j;have:=hv j;omega
theorem Qmh{w v:Nat->Int}(h:∀j,j<65->w j=v j){s:Nat}(hs:s<4160):memW w s=memW v s:=by
 unfold memW;rw[h _ W48]
theorem Qi3{W:WW}(h:∀i,OkW (W i))(l:List Int):∀m,OkW (joF W l m)
 |0=>OkW.zero
 |m+1=>Qpl (Qi3 h l m) (h _) 65
theorem Qjo{W:WW}(h:∀i,OkW (W i))(l:List Int){s:Nat}(hs:s<4160):∀m,m<=l.length->memW (joF W l m) s=(l.take m).any λk=>memW (W k.toNat) s
 |0,_=>by simp[joF,memW]
 |m+1,hm=>by
  rw[joF,Qmf (Qi3 h l m) (h _) hs,Qjo h l hs m W48,jF W48,List.any_append,Qc (show m<l.length by omega)];simp
theorem Qcd{W:WW}(h:∀i,OkW (W i))(l:List Nod)(i:Nat):OkW (beF l W i):=Qi3 h _ _
theorem Qsf{W:WW}(h:∀i,OkW (W i))(l:List Nod)(i:Nat){s:Nat}(hs:s<4160):memW (beF l W i) s=(flrL (l.getD i kQ)).any λk=>memW (W k.toNat) s:=by
 unfold beF;rw[Qjo h _ hs _ (jo _),List.take_length]
theorem Qi4{w:Nat->Int}(h:OkW w)(l:List Int)(hl:∀x∈l,0<=x):∀m,m<=l.length->OkW (adF l w m)
 |0,_=>h
 |m+1,hm=>by
  rw[adF];exact Qse (Qi4 h l hl m W48) (hl _ W303)
theorem Qjp{w:Nat->Int}(h:OkW w)(l:List Int)(hl:∀x∈l,0<=x)(s:Nat):∀m,m<=l.length->memW (adF l w m) s=(decide ((s:Int)∈l.take m)||memW w s)
 |0,_=>by simp[adF]
 |m+1,hm=>by
  rw[adF,Qpm (Qi4 h l hl m W48) (hl _ W303),Qjp h l hl s m W48,jF W48,Qc (show m<l.length by omega)];simp only[kq,jG];by_cases e:(s:Int)=l[m];simp[e];simp[e]
def SlH(l:List Nod):Prop:=∀i:Nat,i<l.length->(∀k∈useL (l.getD i kQ),0<=k/\k<4160)/\(dfB (l.getD i kQ)=true->0<=(l.getD i kQ).slot/\(l.getD i kQ).slot<4160)
theorem Qom{w:Nat->Int}(h:OkW w){l:List Nod}(hS:SlH l){i:Nat}(hi:i<l.length):OkW (dfF (l.getD i kQ) w):=by
 unfold dfF;split;rename_i e;exact Qpn h ((hS i hi).2 e).1;exact h
theorem Qon{W:WW}(h:∀i,OkW (W i)){l:List Nod}(hS:SlH l){i:Nat}(hi:i<l.length):OkW (ahF l W i):=
 Qi4 (Qom (Qcd h l i) hS hi) _ (λx hx=>((hS i hi).1 x hx).1) _ (jo _)
theorem Qsg{W:WW}(h:∀i,OkW (W i)){l:List Nod}(hS:SlH l){i:Nat}(hi:i<l.length)(s:Nat) :
 memW (ahF l W i) s=(decide ((s:Int)∈useL (l.getD i kQ))||(!(dfB (l.getD i kQ)&&decide ((l.getD i kQ).slot=(s:Int)))&&memW (beF l W i) s)):=by
  unfold ahF;rw[Qjp (Qom (Qcd h l i) hS hi) _ (λx hx=>((hS i hi).1 x hx).1) s _ (jo _),List.take_length];congr 1;unfold dfF;split;rename_i e;rw[Qmg (Qcd h l i) ((hS i hi).2 e).1,e,Bool.and_comm];congr 1;simp only[kr];congr 1;exact decide_eq_decide.2 ⟨λh=>h.symm,λh=>h.symm⟩;rename_i e;have e2:dfB (l.getD i kQ)=false:=by simpa using e
  rw[e2];simp
noncomputable def lvG(l:List Nod):Go.Lv.Gr:=⟨l.length,4160,λi=>decide (i<l.length)&&((rchL l).getD i kQ).b,λi s=>decide ((s:Int)∈useL (l.getD i kQ)),λi s=>dfB (l.getD i kQ)&&decide ((l.getD i kQ).slot=(s:Int)),λi=>(flrL (l.getD i kQ)).map Int.toNat⟩
def setsF(n:Nat)(W:WW):Go.Lv.Sets:=λi s=>decide (i<n)&&decide (s<4160)&&memW (W i) s
theorem Jj{α:Type}{p q:α->Bool}:∀{l:List α},(∀x∈l,p x=q x)->l.any p=l.any q
 |[],_=>rfl
 |x::r,h=>by
  rw[List.any_cons,List.any_cons,h x kb,Jj λy hy=>h y (j7 _ hy)]
section
variable {l:List Nod} (hq:∀i:Nat,i<l.length->∀x∈flwL (l.getD i kQ),0<=x/\x<(l.length:Int)) (hS:SlH l) {W V W0:WW}
theorem Qg2(hq:∀i:Nat,i<l.length->∀x∈flwL (l.getD i kQ),0<=x/\x<(l.length:Int))(h:∀i,OkW (W i)){i s:Nat}(hi:i<l.length):Go.Lv.behind (lvG l) (setsF l.length W) i s=(decide (s<4160)&&memW (beF l W i) s):=by
 unfold Go.Lv.behind;show((flrL (l.getD i kQ)).map Int.toNat).any _=_;rw[List.any_map];by_cases hs:s<4160;rw[Qsf h l i hs,decide_eq_true hs,kr];refine Jj ?_;intro k hk;have z:=hq i hi k ((G0 _ _).1 hk);show(decide (k.toNat<l.length)&&decide (s<4160)&&memW (W k.toNat) s)=_;rw[decide_eq_true (show k.toNat<l.length by omega),decide_eq_true hs];rfl;rw[decide_eq_false hs,Bool.false_and];refine List.any_eq_false.2 λk hk=>?_;show ¬(decide (k.toNat<l.length)&&decide (s<4160)&&memW (W k.toNat) s)=true;rw[decide_eq_false hs];simp
theorem Q9w(hq:∀i:Nat,i<l.length->∀x∈flwL (l.getD i kQ),0<=x/\x<(l.length:Int))(hS:SlH l)(h:∀i,OkW (W i)){i s:Nat}(hi:i<l.length):Go.Lv.ahead (lvG l) (setsF l.length W) i s=(decide (s<4160)&&memW (ahF l W i) s):=by
 unfold Go.Lv.ahead;rw[Qg2 hq h hi,Qsg h hS hi];show(decide ((s:Int)∈useL (l.getD i kQ))||(!(dfB (l.getD i kQ)&&decide ((l.getD i kQ).slot=(s:Int)))&&(decide (s<4160)&&memW (beF l W i) s)))=_;by_cases hs:s<4160;simp[hs];have h1:¬(s:Int)∈useL (l.getD i kQ):=λhm=>by have:=(hS i hi).1 _ hm;omega
 rw[decide_eq_false h1,decide_eq_false hs];simp
theorem Qmi(hq:∀i:Nat,i<l.length->∀x∈flwL (l.getD i kQ),0<=x/\x<(l.length:Int))(hS:SlH l)(h:∀i,OkW (W i)){i:Nat}(hi:i<l.length):setsF l.length (putW W i (ahF l W i))=Go.Lv.put (setsF l.length W) i (Go.Lv.ahead (lvG l) (setsF l.length W) i):=by
 funext k s;unfold Go.Lv.put;by_cases e:k=i;subst e;rw[if_pos rfl,Q9w hq hS h hi];unfold setsF putW;rw[if_pos rfl,decide_eq_true hi,kr];rw[if_neg e];unfold setsF putW;rw[if_neg e]
structure LvW(l:List Nod)(W:WW):Prop where
 ok:∀i,OkW (W i)
 inv:Go.Lv.Inv (lvG l) (setsF l.length W)
def LvFix(l:List Nod)(W V:WW)(lo:Nat):Prop:=∀k,lo<=k->k<l.length->((rchL l).getD k kQ).b=true->(∀s,s<4160->memW (ahF l W k) s=memW (W k) s)/\V k=beF l W k
noncomputable def lvM(l:List Nod)(W:WW):Nat:=Go.Lv.miss 4160 (setsF l.length W) l.length
structure LvS(l:List Nod)(W0:WW)(i:Int)(ag:Bool)(W V:WW):Prop where
 lo:-1<=i
 hi:i<(l.length:Int)
 w:LvW l W
 le:lvM l W<=lvM l W0
 no:ag=false->W=W0/\LvFix l W V (i+1).toNat
 yes:ag=true->lvM l W<lvM l W0
theorem LvW.start(l:List Nod):LvW l (λ_ _=>0):=⟨λ_=>OkW.zero,by(have:setsF l.length (λ_ _=>0)=λ_ _=>false:=by funext i s;simp[setsF,memW]);rw[this];exact .none _⟩
theorem LvS.start(h:LvW l W)(V:WW):LvS l W ((l.length:Int)-1) false W V:=⟨by omega,by omega,h,jo _,λ_=>⟨rfl,λk h1 h2=>absurd h2 W48⟩,λh=>absurd h W207⟩
theorem LvS.skip{i:Int}{ag:Bool}(h:LvS l W0 i ag W V)(h0:0<=i)(hr:((rchL l).getD i.toNat kQ).b=false):LvS l W0 (i-1) ag W V:=by
 refine⟨by omega,by have:=h.hi;omega,h.w,h.le,λhg=>⟨(h.no hg).1,λk h1 h2 h3=>?_⟩,h.yes⟩;by_cases e:k=i.toNat;subst e;rw[hr] at h3;cases h3;exact(h.no hg).2 k W48 h2 h3
theorem LvS.same{i:Int}{ag:Bool}(h:LvS l W0 i ag W V)(h0:0<=i)(e:∀j,j<65->ahF l W i.toNat j=W i.toNat j):LvS l W0 (i-1) ag W (putW V i.toNat (beF l W i.toNat)):=by
 refine⟨by omega,by have:=h.hi;omega,h.w,h.le,λhg=>⟨(h.no hg).1,λk h1 h2 h3=>?_⟩,h.yes⟩;by_cases e2:k=i.toNat;subst e2;exact⟨λs hs=>Qmh e hs,by unfold putW;rw[if_pos rfl]⟩;have z:=(h.no hg).2 k W48 h2 h3;exact⟨z.1,by unfold putW;rw[if_neg e2];exact z.2⟩
theorem LvS.diff(hq:∀i:Nat,i<l.length->∀x∈flwL (l.getD i kQ),0<=x/\x<(l.length:Int))(hS:SlH l){i:Int}{ag:Bool}(h:LvS l W0 i ag W V)(h0:0<=i)(hr:((rchL l).getD i.toNat kQ).b=true)(e:¬ ∀j,j<65->ahF l W i.toNat j=W i.toNat j)(V':WW):LvS l W0 (i-1) true (putW W i.toNat (ahF l W i.toNat)) V':=by
 have hi:=h.hi;have hin:i.toNat<l.length:=by omega
 have hre:(lvG l).re i.toNat=true:=by show(decide (i.toNat<l.length)&&_)=true;rw[decide_eq_true hin,hr];rfl
 have hp:=Qmi hq hS h.w.ok hin;have hw:LvW l (putW W i.toNat (ahF l W i.toNat)):=⟨λk=>by unfold putW;split;exact Qon h.w.ok hS hin;exact h.w.ok k,by rw[hp];exact h.w.inv.put_ hre⟩;have hlt:lvM l (putW W i.toNat (ahF l W i.toNat))<lvM l W:=by unfold lvM;rw[hp];(obtain⟨s,hs,hne⟩:∃s,s<4160/\memW (ahF l W i.toNat) s≠memW (W i.toNat) s:=by refine Classical.byContradiction λhn=>e (Qpp (Qon h.w.ok hS hin) (h.w.ok _) λs hs=>?_);exact Classical.byContradiction λhne=>hn ⟨s,hs,hne⟩);refine h.w.inv.fewer hin hs ?_;rw[Q9w hq hS h.w.ok hin];unfold setsF;rw[decide_eq_true hs,decide_eq_true hin];simpa using hne
 refine⟨by omega,by omega,hw,by have:=h.le;omega,λhg=>absurd hg W207,λ_=>by have:=h.le;omega⟩
theorem LvS.done{i:Int}{ag:Bool}(h:LvS l W0 i ag W V)(h0:¬0<=i):LvW l W/\(ag=false->LvFix l W V 0)/\(if ag=true then 1+lvM l W else 0)<1+lvM l W0:=by
 refine⟨h.w,λhg=>?_,?_⟩;have z:=(h.no hg).2;rwa [show(i+1).toNat=0 by omega] at z;split;rename_i e;have:=h.yes e;omega;omega
open Classical in
noncomputable def liveS(l:List Nod):Go.Lv.Sets:=λi s=>decide (Go.Lv.Live (lvG l) i s)
def LvQ(l:List Nod)(W V:WW):Prop:=∀i,i<l.length->((rchL l).getD i kQ).b=true->OkW (V i)/\∀s,s<4160->memW (V i) s=Go.Lv.behind (lvG l) (liveS l) i s
theorem LvW.fin(hq:∀i:Nat,i<l.length->∀x∈flwL (l.getD i kQ),0<=x/\x<(l.length:Int))(hS:SlH l)(h:LvW l W)(hf:LvFix l W V 0):LvQ l W V:=by
 have hd:∀i s,setsF l.length W i s=true↔Go.Lv.Live (lvG l) i s:=λi s=>h.inv.done (λk hk t=>by have hk2:(decide (k<l.length)&&((rchL l).getD k kQ).b)=true:=hk;rw[jg] at hk2;have hkn:=kR hk2.1;rw[Q9w hq hS h.ok hkn];unfold setsF;rw[decide_eq_true hkn,kr];by_cases ht:t<4160;rw[((hf k (jE _) hkn hk2.2).1 t ht)];rw[decide_eq_false ht];rfl) i s;have he:setsF l.length W=liveS l:=by funext i s;show _=@decide _ (Classical.propDecidable _);cases e:setsF l.length W i s with|true=>exact(@decide_eq_true _ (Classical.propDecidable _) ((hd i s).1 e)).symm|false=>exact(@decide_eq_false _ (Classical.propDecidable _) (λt=>by rw[(hd i s).2 t] at e;cases e)).symm
 intro i hi hr;have z:=(hf i (jE _) hi hr).2;rw[z];refine⟨Qcd h.ok l i,λs hs=>?_⟩;rw[<- he,Qg2 hq h.ok hi,decide_eq_true hs,kr]
end
theorem Q8u(w:Nat->Int){j:Nat}(h:j<65):wsT w j=TC.val (jn .u64 (w j)):=by
 unfold wsT nthT;rw[Qq,jy,kI h];rfl
theorem Qdx(w:Nat->Int){j:Nat}(h:¬j<65):wsT w j=TC.any:=by
 unfold wsT nthT;rw[Qq,kd W228]
theorem Qmj(j:Nat):wsT (λ_=>0) j=valT (jd 65 (jn .u64 0)) j:=by
 unfold valT;rw[Q2f];by_cases h:j<65;rw[Q8u _ h,ke,if_pos h];rw[Qdx _ h,ke,if_neg h]
theorem Qsh(V:WW)(k:Nat)(w:Nat->Int)(i:Nat):wsT (putW V k w i)=updT (λi=>wsT (V i)) k 0 ((jv 65).map λj=>jn .u64 (w j)) i:=by
 funext j;unfold updT putW;by_cases e:i=k;subst e;rw[if_pos rfl];by_cases hj:j<65;rw[if_pos ⟨rfl,jE _,by simpa using hj⟩,Q8u _ hj,Nat.sub_zero,jc,jy,kI hj];rfl;rw[if_neg W228,Qdx _ hj];exact(Qdx _ hj).symm;rw[if_neg e,if_neg (by simp[e])]
def all65(p:Nat->Bool):Nat->Nat->Bool
 |0,_=>true
 |n+1,k=>p k&&all65 p n (k+1)
theorem Q3x(p:Nat->Bool):∀(n k:Nat),all65 p n k=true↔∀j,k<=j->j<k+n->p j=true
 |0,k=>⟨λ_ j h1 h2=>absurd h2 W48,λ_=>rfl⟩
 |n+1,k=>by
  unfold all65;rw[jg,Q3x p n (k+1)];constructor;rintro ⟨h1,h2⟩ j h3 h4;by_cases e:j=k;subst e;exact h1;exact h2 j W48 W48;intro h;exact⟨h k (jo _) W48,λj h1 h2=>h j W48 W48⟩
theorem Qpq{W:WW}{l:List Int}{x:Int}(h:0<=x)(j:Nat):joF W l (x+1).toNat j=joinW (joF W l x.toNat) (W (l.getD x.toNat 0).toNat) 65 j:=by
 rw[show(x+1).toNat=x.toNat+1 by omega];rfl
theorem Qpr{w:Nat->Int}{l:List Int}{x:Int}(h:0<=x)(j:Nat):adF l w (x+1).toNat j=addW (adF l w x.toNat) (l.getD x.toNat 0) j:=by
 rw[show(x+1).toNat=x.toNat+1 by omega];rfl
theorem Qjq{l:List Nod}{W:WW}{i:Nat}{x:Int}(h:x<=((flrL (l.getD i kQ)).length:Int))(h2:¬x<((flrL (l.getD i kQ)).length:Int)):joF W (flrL (l.getD i kQ)) x.toNat=beF l W i:=by
 rw[show x.toNat=(flrL (l.getD i kQ)).length by omega];rfl
theorem Qdy{l:List Nod}{W:WW}{i:Nat}{x:Int}(h:x<=((useL (l.getD i kQ)).length:Int))(h2:¬x<((useL (l.getD i kQ)).length:Int)):adF (useL (l.getD i kQ)) (dfF (l.getD i kQ) (beF l W i)) x.toNat=ahF l W i:=by
 rw[show x.toNat=(useL (l.getD i kQ)).length by omega];rfl
def clB(l:List Nod)(R:List Bo)(V:WW)(a b:Int)(i:Nat):Bool:=(R.getD i kQ).b&&dfB (l.getD i kQ)&&(decide ((l.getD i kQ).slot=a)&&hasW (V i) b||decide ((l.getD i kQ).slot=b)&&hasW (V i) a)
noncomputable def clF(l:List Nod)(V:WW)(a b:Int):Bool:=!decide (a=b)&&(jv l.length).any (clB l (rchL l) V a b)
theorem Qsi{l:List Nod}{V:WW}{a b:Int}(h:decide (a=b)=true):clF l V a b=false:=by
 unfold clF;rw[h];rfl
theorem Qmk{l:List Nod}{V:WW}{a b x:Int}(h:decide (a=b)=false)(h0:0<=x)(hx:x<(l.length:Int))(hc:clB l (rchL l) V a b x.toNat=true):clF l V a b=true:=by
 unfold clF;rw[h,Bool.not_false,kr];exact List.any_eq_true.2 ⟨x.toNat,List.mem_range.2 W48,hc⟩
theorem Qjr{l:List Nod}{V:WW}{a b x:Int}(hx:¬x<(l.length:Int))(hc:∀k,k<x.toNat->clB l (rchL l) V a b k=false):clF l V a b=false:=by
 unfold clF;rw[List.any_eq_false.2 (λk hk=>by rw[hc k (by have:=List.mem_range.1 hk;omega)];decide),Bool.and_false]
theorem Qg3{P:Nat->Bool}{x:Int}(h0:0<=x)(h:∀k,k<x.toNat->P k=false)(hx:P x.toNat=false):∀k,k<(x+1).toNat->P k=false:=λk hk=>by
 by_cases e:k=x.toNat;subst e;exact hx;exact h k W48
theorem Qml{l:List Nod}{V:WW}{s x:Int}{L:List Int}(h0:0<=x)(hx:x<(L.length:Int))(hc:clF l V s (L.getD x.toNat 0)=true):(L.any λk=>clF l V s k)=true:=
 List.any_eq_true.2 ⟨_,Qn hx h0,hc⟩
theorem Qjs{l:List Nod}{V:WW}{s x:Int}{L:List Int}(hx:¬x<(L.length:Int))(hc:∀k,k<x.toNat->clF l V s (L.getD k 0)=false):(L.any λk=>clF l V s k)=false:=
 List.any_eq_false.2 λk hk=>by
  obtain⟨i,hi,rfl⟩:=List.mem_iff_getElem.1 hk;have:=hc i W48;rw[Qc hi] at this;rw[this];decide
def slL(n:Nod):List Int:=if dfB n=true then useL n++[n.slot] else useL n
def SlT(l:List Nod)(m:Int):Prop:=∀i:Nat,i<l.length->∀s∈slL (l.getD i kQ),0<=s/\s<m
def WtQ(l:List Nod)(m:Int)(w:List Int):Prop:=(w.length:Int)=m/\∀s:Nat,(s:Int)<m->0<=w.getD s 0/\(w.getD s 0≠0↔∃i,i<l.length/\((rchL l).getD i kQ).b=true/\(s:Int)∈slL (l.getD i kQ))
def wU(l:List Nod)(i:Nat)(s:Nat):Prop:=∃j,j<i/\((rchL l).getD j kQ).b=true/\(s:Int)∈slL (l.getD j kQ)
def WtK(l:List Nod)(m:Int)(i k:Nat)(w:List Int):Prop:=
 w.length=m.toNat/\∀s:Nat,s<m.toNat->0<=w.getD s 0/\w.getD s 0<=32768 * (i:Int)+4096 * (k:Int)/\(w.getD s 0≠0↔wU l i s\/(s:Int)∈(slL (l.getD i kQ)).take k)
def WtI(l:List Nod)(m:Int)(i:Nat)(w:List Int):Prop:=WtK l m i 0 w
theorem WtI.zero {l:List Nod} {m:Int}:WtI l m 0 (jd m.toNat 0):=by
 refine ⟨ju,fun s hs=>?_⟩;have e:(jd m.toNat (0:Int)).getD s 0=0:=by grind
 rw [e];refine ⟨by omega,by omega,fun h=>absurd rfl h,fun h=>?_⟩;rcases h with ⟨j,hj,_⟩ | h;omega;simp at h
theorem Qdz(n:Nod):(useL n).length<=2:=by
 grind[Vl,vlL,useL,jm]
theorem Q60(n:Nod):(slL n).length<=3:=by
 grind[Qdz,slL,jm]
theorem WtI.skip{l:List Nod}{m:Int}{i:Nat}{w:List Int}(h:WtI l m i w)(hr:((rchL l).getD i kQ).b=false):WtI l m (i+1) w:=by
 refine⟨h.1,λs hs=>?_⟩;obtain⟨a,b,c⟩:=h.2 s hs;refine⟨a,by omega,c.trans ?_⟩;simp only[List.take_zero,km,or_false];constructor;rintro ⟨j,hj,q⟩;exact⟨j,by omega,q⟩;rintro ⟨j,hj,q⟩;by_cases e:j=i;subst e;rw[hr] at q;exact absurd q.1 W207;exact⟨j,by omega,q⟩
theorem WtK.outer{l:List Nod}{m:Int}{i k:Nat}{w:List Int}(h:WtK l m i k w)(hk:(slL (l.getD i kQ)).length<=k)(h8:k<=8)(hr:((rchL l).getD i kQ).b=true):WtI l m (i+1) w:=by
 refine⟨h.1,λs hs=>?_⟩;obtain⟨a,b,c⟩:=h.2 s hs;refine⟨a,by omega,c.trans ?_⟩;rw[jU hk];simp only[List.take_zero,km,or_false];constructor;rintro (⟨j,hj,q⟩|q);exact⟨j,by omega,q⟩;exact⟨i,by omega,hr,q⟩;rintro ⟨j,hj,q⟩;by_cases e:j=i;subst e;exact .inr q.2;exact .inl ⟨j,by omega,q⟩
theorem Q9x{l:List Int}{k:Nat}(h:k<l.length)(x:Int):x∈l.take (k+1)↔x∈l.take k\/x=l.getD k 0:=by
 rw[List.take_add_one,jh h,Qc h,kq];simp
theorem WtK.stay{l:List Nod}{m:Int}{i k:Nat}{w:List Int}(h:WtK l m i k w)(hk:k<(slL (l.getD i kQ)).length)(hm:(slL (l.getD i kQ)).getD k 0∈(slL (l.getD i kQ)).take k):WtK l m i (k+1) w:=by
 refine⟨h.1,λs hs=>?_⟩;obtain⟨a,b,c⟩:=h.2 s hs;grind[Q9x]
theorem WtK.add{l:List Nod}{m c:Int}{i k:Nat}{w:List Int}(h:WtK l m i k w)(hk:k<(slL (l.getD i kQ)).length)(h0:0<=(slL (l.getD i kQ)).getD k 0/\(slL (l.getD i kQ)).getD k 0<m)(hc:1<=c/\c<=4096) :
 WtK l m i (k+1) (w.set ((slL (l.getD i kQ)).getD k 0).toNat (w.getD ((slL (l.getD i kQ)).getD k 0).toNat 0+c)):=by
  refine⟨by rw[jq];exact h.1,λs hs=>?_⟩;obtain⟨a,b,d⟩:=h.2 s hs;rw[Qk _ _ _ _ _ (by rw[h.1];omega),Q9x hk];grind
theorem WtI.bound{l:List Nod}{m:Int}{i k:Nat}{w:List Int}(h:WtK l m i k w)(s:Nat)(hs:s<m.toNat):0<=w.getD s 0/\w.getD s 0<=32768 * (i:Int)+4096 * (k:Int):=⟨(h.2 s hs).1,(h.2 s hs).2.1⟩
theorem WtI.done{l:List Nod}{m:Int}{w:List Int}(h:WtI l m l.length w)(hm:0<=m):WtQ l m w:=by
 refine⟨by rw[h.1];omega,λs hs=>?_⟩;obtain⟨a,b,c⟩:=h.2 s W48;refine⟨a,c.trans ?_⟩;simp only[List.take_zero,km,or_false];rfl
theorem Qoo(d:Int)(h:0<=d):1<=shlI jb 1 (3 * (if(4:Int)<d then 4 else d))/\shlI jb 1 (3 * (if(4:Int)<d then 4 else d))<=4096:=by
 have:(if(4:Int)<d then 4 else d)=0\/(if(4:Int)<d then 4 else d)=1\/(if(4:Int)<d then 4 else d)=2\/(if(4:Int)<d then 4 else d)=3\/(if(4:Int)<d then 4 else d)=4:=by split<;>omega
 rcases this with e|e|e|e|e<;>rw[e]<;>decide
def OnceF(l:List Int)(s:Int)(j:Nat)(b:Bool):Prop:=b=true↔s ∉ l.take j
theorem OnceF.zero{l:List Int}{s:Int}:OnceF l s 0 true:=by
 simp[OnceF]
theorem OnceF.next{l:List Int}{s:Int}{j:Nat}{b:Bool}(h:OnceF l s j b)(hj:j<l.length):OnceF l s (j+1) (b&&!decide (s=l.getD j 0)):=by
 simp_all[OnceF,Q9x,jg]
theorem OnceF.done{l:List Int}{s:Int}{j:Nat}{b:Bool}(h:OnceF l s j b)(hj:l.length<=j)(hb:b=false):s∈l:=by
 simp_all[OnceF,jU,Classical.byContradiction,absurd]
theorem Qjt{l:List Int}{k i:Nat}(h:i<(l.take k).length):(l.take k).getD i 0=l.getD i 0:=by
 grind
theorem Qi5{n:Nod}(h:dfB n=true):slL n=useL n++[n.slot]:=if_pos h
theorem Qop{n:Nod}(h:dfB n=false):slL n=useL n:=if_neg W301
theorem Qvx{d:Int}(h:0<=d):0<=(if(4:Int)<d then 4 else d)/\(if(4:Int)<d then 4 else d)<=4:=by
 split<;>omega
structure Plc where
 cell:Bool
 n:Int
 deriving Inhabited,DecidableEq
def Plc.tl(x:Plc):List TC:=[.val (.bool x.cell),.val (.int .i64 x.n)]
def Plc.tc(x:Plc):Nat->TC:=nthT x.tl
def Plc.cs(x:Plc):List C:=[.b x.cell,.i .i64 x.n]
abbrev Plc.rowR(l:List Plc):Reg:=rowOf 2 Plc.tc l
structure Alc where
 places:List Plc
 cells:Int
 deriving Inhabited,DecidableEq
def Alc.tl(x:Alc):List TC:=[.sub 74 2 (x.places).length (λi=>Plc.tc ((x.places).getD i kQ)),.val (.int .i64 x.cells)]
def Alc.tc(x:Alc):Nat->TC:=nthT x.tl
def Alc.cs(x:Alc)(r_places:Nat):List C:=[.h r_places,.i .i64 x.cells]
abbrev Alc.rowR(l:List Alc):Reg:=rowOf 2 Alc.tc l
def fit1(c:Int)(p:Plc):Bool:=!(decide (p.n<0)||decide ((if p.cell=true then c else 13)<=p.n))
def fitB(m:Int)(a:Alc):Bool:=decide ((a.places.length:Int)=m)&&!(decide (a.cells<0)||decide (4160<a.cells))&&a.places.all (fit1 a.cells)
theorem Qg4{m:Int}{a:Alc}(h:fitB m a=true):(a.places.length:Int)=m:=by
 simp_all[fitB,jg,kR]
theorem Q5k{m:Int}{a:Alc}(h:fitB m a=true):0<=a.cells/\a.cells<=4160:=by
 simp_all[fitB,jg,jC,kg,decide_eq_false_iff_not]
theorem Qju{m:Int}{a:Alc}(h:fitB m a=true){i:Nat}(hi:i<a.places.length):0<=(a.places.getD i kQ).n/\(a.places.getD i kQ).n<(if(a.places.getD i kQ).cell=true then a.cells else 13):=by
 simp_all[fitB,jg,jT,Qc,fit1,jC,kg]
theorem Qjv{m:Int}{a:Alc}{i:Nat}(hi:i<a.places.length)(h:fit1 a.cells (a.places.getD i kQ)=false):fitB m a=false:=by
 grind[fitB,Bool.and_eq_false_iff,jT,Qc,decide]
theorem Qg5{m:Int}{a:Alc}(h1:(a.places.length:Int)=m)(h2:¬a.cells<0)(h3:¬4160<a.cells){x:Int}(hx:¬x<(a.places.length:Int))(h:∀k,k<x.toNat->fit1 a.cells (a.places.getD k kQ)=true):fitB m a=true:=by
 unfold fitB;rw[jg,jg,decide_eq_true h1,decide_eq_false h2,decide_eq_false h3];refine⟨⟨rfl,rfl⟩,List.all_eq_true.2 λp hp=>?_⟩;obtain⟨i,hi,rfl⟩:=List.mem_iff_getElem.1 hp;have:=h i W48;rw[Qc hi] at this;exact this
theorem Qg6{m:Int}{a:Alc}(h:(!decide ((a.places.length:Int)=m)||decide (a.cells<0)||decide (4160<a.cells))=true):fitB m a=false:=by
 grind[fitB,decide,Int]
theorem Qjw{c:Int}{p:Plc}(h:p.cell=true):fit1 c p=!(decide (p.n<0)||decide (c<=p.n)):=by
 unfold fit1;rw[if_pos h]
theorem Qjx{c:Int}{p:Plc}(h:p.cell=false):fit1 c p=!(decide (p.n<0)||decide (13<=p.n)):=by
 unfold fit1;rw[if_neg W301]
theorem Jk{m:Int}{a:Alc}(h:(!decide ((a.places.length:Int)=m)||decide (a.cells<0)||decide (4160<a.cells))=false):(a.places.length:Int)=m/\¬a.cells<0/\¬4160<a.cells:=by
 grind
theorem Q1e{P:Nat->Bool}{x:Int}(h0:0<=x)(h:∀k,k<x.toNat->P k=true)(hx:P x.toNat=true):∀k,k<(x+1).toNat->P k=true:=λk hk=>by
 grind
end Go.Proofs.YtnddggenhefaeaaGreatDoor
end
namespace Go.Tx
open Go
theorem MpEq.put{T:MT}{n n':Nat}{D:KA T.K->Option (KA T.V)}{z:KA T.V}{k:KA T.K}{y:KA T.V}{it':Option (MIt T.K)}(h:n'<=n) :
 MpEq T n (λq=>(if q=k then some y else D q).isSome) (λq=>(if q=k then some y else D q).getD z) none T n' (λq=>decide (q=k)||(D q).isSome) (λq=>if q=k then y else(D q).getD z) it':=by
  grind[MpEq.mk']
def KA.mk{c:CK}{K:List CK}(x:c.α)(a:KA K):KA (c::K):=match K,a with
 |[],_=>x
 |_::_,a=>(x,a)
theorem KA.vals_mk{c:CK}{K:List CK}(x:c.α)(a:KA K):KA.vals (c::K) (KA.mk x a)=c.val x::KA.vals K a:=by
 cases K<;>rfl
theorem KA.wf_mk{c:CK}{K:List CK}(x:c.α)(a:KA K):KA.wf (c::K) (KA.mk x a)↔c.wf x/\KA.wf K a:=by
 cases K with|nil=>exact⟨λh=>⟨h,trivial⟩,λh=>h.1⟩|cons d r=>exact Iff.rfl
theorem KA.un_mk{c:CK}{K:List CK}(a:KA (c::K)):∃(x:c.α) (b:KA K),a=KA.mk x b:=by
 cases K with|nil=>exact⟨a,(),rfl⟩|cons d r=>exact⟨a.1,a.2,rfl⟩
def plainIs(P:Program)(t:TypeId):CK->Prop
 |.i k=>P.underlying t=some (.int k)
 |.s=>P.underlying t=some .string
 |.b=>P.underlying t=some .bool
def plainFs(P:Program):Nat->List Field->List CK->Prop
 |_,[],[]=>True
 |i,f::r,c::K=>f.offset=i/\P.cellsOf f.type=1/\plainIs P f.type c/\plainFs P (i+1) r K
 |_,_,_=>False
theorem Qps{P:Program}{d:Nat}{t:TypeId}{c:CK}(h:plainIs P t c)(x:c.α)(hw:c.wf x):∃ls,P.keyLits (d+1) t [c.val x]=some ls:=by
 cases c with|i k =>refine⟨[.int k x],?_⟩;simp only[Program.keyLits,show P.underlying t=_ from h,CK.val];exact if_pos ⟨trivial,hw⟩|s =>refine⟨[.string (ByteArray.data x).toList],?_⟩;simp only[Program.keyLits,show P.underlying t=_ from h,CK.val];exact if_pos hw|b =>refine⟨[.bool x],?_⟩;simp only[Program.keyLits,show P.underlying t=_ from h,CK.val]
theorem Qmm{α:Type}{l:List α}{i:Nat}{x:α}{r:List α}(h:l.drop i=x::r):(l.drop i).take 1=[x]/\l.drop (i+1)=r:=by
 refine⟨by rw[h];rfl,?_⟩;rw[<- List.drop_drop,h];rfl
theorem Q71{P:Program}{d:Nat}:∀{i:Nat} {fs:List Field} {K:List CK} (hp:plainFs P i fs K) {cs:List Value} {a:KA K},cs.drop i=KA.vals K a->KA.wf K a ->
 ∃ls,(fs.mapM λ(f:Field)=>P.keyLits (d+1) f.type ((cs.drop f.offset).take (P.cellsOf f.type)))=some ls
 |i,[],[],_,cs,a,h,hw=>⟨[],rfl⟩
 |i,f::r,c::K,hp,cs,a,h,hw=>by obtain⟨h1,h2,h3,h4⟩:=hp;obtain⟨x,b,rfl⟩:=KA.un_mk a;rw[KA.vals_mk] at h;obtain⟨w1,w2⟩:=(KA.wf_mk x b).1 hw;obtain⟨e1,e2⟩:=Qmm h;obtain⟨ls,hl⟩:=Qps (d:=d) h3 x w1;obtain⟨ls2,hl2⟩:=Q71 h4 e2 w2;refine⟨ls::ls2,?_⟩;rw[List.mapM_cons,h1,h2,e1,hl,hl2];rfl
 |_,[],_::_,hp,_,_,_,_=>hp.elim
 |_,_::_,[],hp,_,_,_,_=>hp.elim
theorem Q9y{P:Program}{d:Nat}{k:TypeId}{fs:Array Field}(hk:P.underlying k=some (.struct fs))(cs:List Value):P.keyLits (d+1) k cs =
 if cs.length = P.cellsOf k /\ fs.all (·.name != "_") = true then(fs.toList.mapM λf => P.keyLits d f.type ((cs.drop f.offset).take (P.cellsOf f.type))).map List.flatten else none := by
  conv=>lhs;unfold Program.keyLits
  simp only[hk]
section
variable {P:Program} {t k e:Nat} {K:List CK} {V:List CK} {va:Bool}
theorem MT.ok_int{q:IntKind}(ht:P.underlying t=some (.map k e))(hk:P.underlying k=some (.int q))(hv:va=true\/V.length=1)(hz:∀w,(zeroValue e).run P w=.ok (mkVal va (KA.vals V (KA.zero V))) w):MT.Ok ⟨P,t,k,e,[.i q],false,V,va⟩ where
 map:=ht
 key:=Go.Maps.int_keyed hk
 lit:=λa ha=>⟨_,Go.Maps.keyOf_int_mk hk ha⟩
 inv:=λv l h=>by obtain⟨x,rfl,_,hw⟩:=Go.Maps.keyOf_int_inv hk h;exact⟨x,hw,rfl⟩
 one:=.inr rfl
 oneE:=hv
 zero:=hz
theorem MT.ok_str(ht:P.underlying t=some (.map k e))(hk:P.underlying k=some .string)(hv:va=true\/V.length=1)(hz:∀w,(zeroValue e).run P w=.ok (mkVal va (KA.vals V (KA.zero V))) w):MT.Ok ⟨P,t,k,e,[.s],false,V,va⟩ where
 map:=ht
 key:=Go.Maps.string_keyed hk
 lit:=λa ha=>⟨_,Go.WideMaps.keyOf_string_mk hk ha⟩
 inv:=λv l h=>by obtain⟨x,rfl,_,hw⟩:=Go.WideMaps.string_of_keyOf hk h;exact⟨x,hw,rfl⟩
 one:=.inr rfl
 oneE:=hv
 zero:=hz
end
end Go.Tx
namespace Go.Tx
open Go
theorem MT.okv_struct{P : Program}{t k e : Nat}{K : List CK}{fs : Array Field}{z : Value}(ht : P.underlying t = some (.map k e))(hk : P.underlying k = some (.struct fs))(hkey : Go.Maps.Keyed P k)(hty : P.keyType k = true)(hn : fs.all (·.name != "_") = true)
 (hp:plainFs P 0 fs.toList K) (hc:P.cellsOf k=K.length) (hs:1<=P.types.size) (hz:∀w,(zeroValue e).run P w=.ok z w):MT.OkV ⟨P,t,k,e,K,true,[],false⟩ z where
 map:=ht
 key:=hkey
 lit:=λa ha=>by(have hcells:(Value.agg (KA.vals K a).toArray).formed P k=true:=by simp only[Value.formed,hk];simp[KA.vals_len,hc]);obtain⟨d,hd⟩:∃d,P.types.size=d+1:=⟨P.types.size-1,by omega⟩;obtain⟨ls,hls⟩:=Q71 (d:=d) hp (cs:=KA.vals K a) (a:=a) rfl ha;refine⟨.string (keyBytes ls.flatten),?_⟩;show keyOf P k (.agg (KA.vals K a).toArray)=_;unfold keyOf;simp only[hk,hty,hcells,Bool.and_self,if_true];rw[hd];show(P.keyLits (d+1+1) k (KA.vals K a)).map _=_;rw[Q9y hk,if_pos ⟨by rw[hc];exact KA.vals_len K a,hn⟩];rw[hls];rfl
 one:=.inl rfl
 zero:=hz
end Go.Tx
noncomputable section
namespace Go.Proofs.YtnddggenhefaeaaGreatDoor
open Go Go.Tx
section
variable {ns nl:Nat} {g:Grf}
theorem GrfQ.q(h:GrfQ ns nl g)(hw:∀b:Nat,0<=(g.nodes.getD b kQ).kind)(i:Nat)(hi:i<g.nodes.length):NodQ ns nl g (g.nodes.getD i kQ):=Q7l (h.nod i hi) (hw i)
theorem Qi6{n:Nod}{m:Int}{v:Vl}(h:v.slotted=true->0<=v.slot/\v.slot<m):∀k∈vlL v,0<=k/\k<m:=λk hk=>by
 grind[vlL,jG]
theorem NodQ.use{n:Nod}(h:NodQ ns nl g n):∀k∈useL n,0<=k/\k<g.slots:=λk hk=>by
 unfold useL at hk;split at hk;rcases List.mem_append.1 hk with q|q;exact Qi6 (n:=n) h.a k q;split at q;exact Qi6 (n:=n) h.b k q;cases q;split at hk;exact Qi6 (n:=n) h.a k hk;cases hk
theorem NodQ.dfn{n:Nod}(h:NodQ ns nl g n)(hd:dfB n=true):0<=n.slot/\n.slot<g.slots:=h.slot (by unfold dfB at hd;grind)
theorem GrfQ.hq(h:GrfQ ns nl g)(hw:∀b:Nat,0<=(g.nodes.getD b kQ).kind):∀i:Nat,i<g.nodes.length->∀x∈flwL (g.nodes.getD i kQ),0<=x/\x<(g.nodes.length:Int):=λi hi=>(h.q hw i hi).flw
theorem GrfQ.hk(h:GrfQ ns nl g)(hw:∀b:Nat,0<=(g.nodes.getD b kQ).kind):∀i:Nat,i<g.nodes.length->1<=(g.nodes.getD i kQ).kind/\(g.nodes.getD i kQ).kind<=9:=λi hi=>(h.q hw i hi).k
theorem GrfQ.hT(h:GrfQ ns nl g)(hw:∀b:Nat,0<=(g.nodes.getD b kQ).kind):SlT g.nodes g.slots:=λi hi s hs=>by
 have n:=h.q hw i hi;unfold slL at hs;split at hs;rename_i e;rcases List.mem_append.1 hs with q|q;exact n.use s q;rw[jG] at q;subst q;exact n.dfn e;exact n.use s hs
theorem GrfQ.hS(h:GrfQ ns nl g)(hw:∀b:Nat,0<=(g.nodes.getD b kQ).kind):SlH g.nodes:=λi hi=>by
 have n:=h.q hw i hi;have l:=h.loc;exact⟨λk hk=>by have:=n.use k hk;omega,λe=>by have:=n.dfn e;omega⟩
end
noncomputable def clE(l:List Nod)(a b:Int):Bool:=!decide (a=b)&&(jv l.length).any λi=>((rchL l).getD i kQ).b&&dfB (l.getD i kQ)&&(decide ((l.getD i kQ).slot=a)&&Go.Lv.behind (lvG l) (liveS l) i b.toNat||decide ((l.getD i kQ).slot=b)&&Go.Lv.behind (lvG l) (liveS l) i a.toNat)
theorem Qup{l:List Nod}{W V:WW}{a b:Int}(h:LvQ l W V)(ha:0<=a/\a<4160)(hb:0<=b/\b<4160):clF l V a b=clE l a b:=by
 unfold clF clE;congr 1;refine Jj λi hi=>?_;have hi:=List.mem_range.1 hi;unfold clB;cases hr:((rchL l).getD i kQ).b with|false=>simp|true =>obtain⟨h1,h2⟩:=h i hi hr;grind[hasW,Go.Lv.behind,lvG,liveS,Qpo]
open Classical in
noncomputable def useS(l:List Nod)(s:Nat):Bool:=decide (∃i,i<l.length/\((rchL l).getD i kQ).b=true/\(s:Int)∈slL (l.getD i kQ))
theorem Q7n{l:List Nod}{m:Int}{w:List Int}(h:WtQ l m w){s:Nat}(hs:(s:Int)<m)(h0:decide (w.getD s 0=0)=false):useS l s=true:=by
 unfold useS;exact decide_eq_true (((h.2 s hs).2).1 (kS h0))
theorem Qg7{l:List Nod}{m:Int}{w:List Int}(h:WtQ l m w){s:Nat}(hs:(s:Int)<m)(h0:decide (w.getD s 0=0)=true):useS l s=false:=by
 unfold useS;exact decide_eq_false λq=>(((h.2 s hs).2).2 q) (kR h0)
noncomputable def atL(l:List Nod)(ps:List Plc)(s:Nat)(p:Bool×Int):List Int:=((jv s).filter λk=>useS l k&&decide (((ps.getD k kQ).cell,(ps.getD k kQ).n)=p)).map λ(k:Nat)=>(k:Int)
noncomputable def okS(l:List Nod)(ps:List Plc)(s:Nat):Bool:=(jv s).all λj=>!useS l j||!((atL l ps j ((ps.getD j kQ).cell,(ps.getD j kQ).n)).any λk=>clE l j k)
noncomputable def okF(gs:List Grf)(al:List Alc)(n:Nat):Bool:=(jv n).all λt=>okS (gs.getD t kQ).nodes (al.getD t kQ).places (al.getD t kQ).places.length
noncomputable def rgtU(sh lk:List Dcl)(gs:List Grf)(al:List Alc):Bool×Int:=
 if(chkU sh lk gs).1≠0 then(false,(chkU sh lk gs).1) else if al.length≠gs.length then(false,150)
 else if(jv gs.length).all (λt=>fitB (gs.getD t kQ).slots (al.getD t kQ))=false then(false,150) else(okF gs al gs.length,0)
noncomputable def atM(l:List Nod)(ps:List Plc)(s:Nat):Bool×Int->Nat×(Nat->Nat->TC):=λp=>((atL l ps s p).length,λi=>i64T ((atL l ps s p).getD i 0))
theorem Qmn{l:List Nod}{ps:List Plc}{s:Nat}(h:useS l s=false)(p:Bool×Int):atL l ps (s+1) p=atL l ps s p:=by
 simp_all[atL,kt,List.filter_append,kG]
theorem Qpt{l:List Nod}{ps:List Plc}{s:Nat}(h:useS l s=true):atL l ps (s+1) ((ps.getD s kQ).cell,(ps.getD s kQ).n)=atL l ps s ((ps.getD s kQ).cell,(ps.getD s kQ).n)++[(s:Int)]:=by
 simp_all[atL,kt,List.filter_append,kG]
theorem Qpu{l:List Nod}{ps:List Plc}{s:Nat}{p:Bool×Int}(h:p≠((ps.getD s kQ).cell,(ps.getD s kQ).n)):atL l ps (s+1) p=atL l ps s p:=by
 have h2:(useS l s&&decide (((ps.getD s kQ).cell,(ps.getD s kQ).n)=p))=false:=by rw[decide_eq_false (Ne.symm h),Bool.and_false]
 simp_all[atL,kt,List.filter_append,kG,List.filter_cons_of_neg,decide]
theorem Qg8{l:List Nod}{ps:List Plc}{s:Nat}{p:Bool×Int}{x:Int}(h:x∈atL l ps s p):0<=x/\x<(s:Int):=by
 unfold atL at h;grind
theorem Q9z(l:List Nod)(ps:List Plc)(s:Nat)(p:Bool×Int):(atL l ps s p).length<=s:=by
 grind[atL,jK,kf,List.length_filter_le]
theorem Qmo{l:List Nod}{ps:List Plc}{s:Nat}(h:useS l s=false):okS l ps (s+1)=okS l ps s:=by
 unfold okS;rw[kt,List.all_append];simp[h]
theorem Qg9{l:List Nod}{ps:List Plc}{s:Nat}(h:useS l s=true):okS l ps (s+1)=(okS l ps s&&!((atL l ps s ((ps.getD s kQ).cell,(ps.getD s kQ).n)).any λk=>clE l s k)):=by
 unfold okS;rw[kt,List.all_append];simp[h]
theorem Qe0{gs:List Grf}{al:List Alc}{n:Nat}:okF gs al (n+1)=(okF gs al n&&okS (gs.getD n kQ).nodes (al.getD n kQ).places (al.getD n kQ).places.length):=by
 unfold okF;rw[kt,List.all_append];simp
theorem Quq{l:List Nod}{W V:WW}{ps:List Plc}{s:Nat}{p:Bool×Int}(h:LvQ l W V)(hs:s<4160):((atL l ps s p).any λk=>clF l V s k)=(atL l ps s p).any λk=>clE l s k:=
 Jj λk hk=>by
  have:=Qg8 hk;exact Qup h W48 W48
end Go.Proofs.YtnddggenhefaeaaGreatDoor
end
