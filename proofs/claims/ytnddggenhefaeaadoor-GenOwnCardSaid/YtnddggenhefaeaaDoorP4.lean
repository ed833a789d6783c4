/-
  A part of the proof. Text 4 of 9: TxT TxY TxX TxZ TxO TxU TxQ Ent EntB EntG EntO Data DataU Spec SpecW SpecN SpecNm SpecV SpecTb SpecHd SpecCk SpecBo SpecRe SpecAh SpecHt SpecLs SpecDm SpecLz SpecSe.
-/
import Derived.Test.YtnddggenhefaeaaDoorP3
import Derived.Laws.Cover3
import Derived.Test.YtnddggenhefaeaaDoorP1
import Derived.DeepKeys4
import Derived.Maps.RangeWalk
import Derived.StringKeys
import Derived.Test.YtnddggenhefaeaaDoorRows
set_option linter.unusedVariables false
set_option linter.unusedSimpArgs false
set_option linter.unusedSectionVars false
open Nat renaming beq→jr,lt_of_lt_of_le→jP,eq_of_beq_eq_true→jd,le_refl→jm,ble→kR,blt→kD,le_of_ble_eq_true→ju,zero_le→kb,min_eq_left→kL,mul_le_mul_right→kr,le_trans→kj
open Go.Sem renaming run_bind→jo,run_pure→jx
open Go.Result renaming andThen_ok→jh
open Bool renaming and_eq_true→je,false_eq_true→jY,not_eq_true'→jL,eq_false_iff→kH,or_eq_false_iff→j9,not_eq_false'→kC,or_eq_true→jO
open List renaming length_set→jt,mem_or_eq_of_mem_set→kE,map_cons→jV,map_nil→kZ,mem_cons_of_mem→jR,getElem?_map→jk,getElem?_cons_zero→jD,mem_of_getElem?→jq,mem_append_left→jT,getD_eq_getElem?_getD→jb,getElem?_eq_getElem→jc,getElem_mem→jQ,getElem?_set_ne→jC,getElem?_set_self→jE,mem_singleton→jI,mem_cons_self→j5,flatten_cons→kw,length_take→jJ,getElem?_append_right→jy,getElem?_append_left→jp,getElem?_drop→j4,range→jB,getElem?_range→ke,getElem?_eq_none→jX,drop_eq_getElem_cons→kF,drop_eq_nil_of_le→kq,replicate→ji,mem_append→kM,getElem?_replicate→j7,length_map→jK,map_congr_left→km,take→jS,mem_cons→ku,not_mem_nil→kg,take_succ_eq_append_getElem→jN,take_of_length_le→ky,length_append→jl,length_singleton→ki,length_cons→kd,eq_nil_of_length_eq_zero→kh,append_nil→j6
open Option renaming map_some→jM
open Go.BinOp renaming and→kt,or→kQ
open Go.IntKind renaming u8→jz,u32→jv,u64→kf
open Int renaming le_refl→jA
open Go.Value renaming bool→jU,int→jf
open Inhabited renaming default→ub
namespace Go.Tx
open Go
def Cfg.mrg (P:Program) (c:Cfg) (m:Nat) (T:MT) (n:Nat) (has:KA T.K→Bool) (f:KA T.K→KA T.V) (r cnt:Nat):Option Cfg:=
 match (seg P 5000 c.k c.st).2 with
 | .op all o todo k st=>match o.op,o.guard with
   | .range t x,none=>match opndC st [] x with
     | some (.h m')=>if jr m m'&&jr T.t t&&st.scp then
        (putSt { st with rg:=st.rg.set m (.mp T n has f (some ⟨r,has,cnt,none,none⟩))++[.itr r] } o.dst [] (.c (.h st.rg.length))).map fun st'=>⟨.ops all todo::k,st'⟩
       else none
     | _=>none
   | _,_=>none
 | _=>none
def orNo (c:Option Cfg):Cfg:=match c with
 | some c'=>c'
 | none=>noCfg
def Cfg.mnxD (P:Program) (c:Cfg) (j:Nat):Option Cfg:=
 match (seg P 5000 c.k c.st).2 with
 | .op all o todo k st=>match o.op,o.guard with
   | .next x false,none=>match opndC st [] x with
     | some (.h j')=>if jr j j'&&st.scp then (putSt st o.dst [] (.tup [(false,[.t false])])).map fun st'=>⟨.ops all todo::k,st'⟩ else none
     | _=>none
   | _,_=>none
 | _=>none
def Cfg.mnxM (P:Program) (c:Cfg) (m j:Nat) (T:MT) (n:Nat) (has:KA T.K→Bool) (f:KA T.K→KA T.V) (it:MIt T.K) (a:KA T.K) (cnt:Nat):Option Cfg:=
 match (seg P 5000 c.k c.st).2 with
 | .op all o todo k st=>match o.op,o.guard with
   | .next x false,none=>match opndC st [] x with
     | some (.h j')=>if jr j j'&&st.scp then
        (putSt { st with rg:=st.rg.set m (.mp T n has f (some ⟨it.r,fun q=>it.left q&&!decide (q=a),cnt,some a,none⟩)) } o.dst []
          (.tup [(false,[.t true]),(T.kAgg,KA.cs T.K a),(T.vAgg,KA.cs T.V (f a))])).map fun st'=>⟨.ops all todo::k,st'⟩
       else none
     | _=>none
   | _,_=>none
 | _=>none
def Cfg.rnil (P:Program) (c:Cfg) (r:Nat) (x:Bool):Option Cfg:=
 match (seg P 5000 c.k c.st).2 with
 | .op all o todo k st=>match o.op,o.guard with
   | .binOp .eql t u v _,none=>match opndC st [] u,opndC st [] v,sliceOf P t with
     | some (.h r'),some cv,some _=>if jr r r'&&isNil cv then (putSt st o.dst [] (.c (.b x))).map fun st'=>⟨.ops all todo::k,st'⟩ else none
     | _,_,_=>none
   | _,_=>none
 | _=>none
theorem Q45 {P:Program} {w w':World} {s:Sem Value} {v:Value} (hr:s.run P w=.ok v w'):(do pure (Go.Next.value (← s)):Sem Go.Next).run P w=.ok (.value v) w':=by
 simp only [jo,hr,jh,jx]
theorem Qad {w w':World} {row:Option Nat} (h:w.grownBy w' row) {m:Nat→Prop} (hm:∀ b,row=some b→m b):Fr m w w':=
 ⟨h.os,h.tape,h.output,h.size,fun k hk hn=>h.block k hk (fun e=>hn (hm k e.symm))⟩
section
variable {P:Program} [hw:Wide P] {fn:Func} {n0:Nat} {S:SV→List Reg→Prop} {U:Tgt} {c:Cfg} {vc:List Prop}
theorem Zt {o:Oper} (h:o.guard=none) (f:Nat→Option Bool):Region.wanted o f=true:=by
 unfold Region.wanted;rw [h]
theorem SatE.turn {b:Base} {st:St} {ε:Env} {a:Act} {w w':World} {m:Nat} {p new:Reg} {fp:Nat→Prop} (hs:SatE b st ε a w) (hsc:st.scp=true) (hm:st.rg[m]?=some p) (hp:p.excl=true) (hnl:new.excl=true)
 (hnew:RegOk (ε.set m ⟨ε.at_ m,fp⟩) b.M w' ⟨ε.at_ m,fp⟩ new) (hfp:∀ b,fp b→(ε.fp m b∨w.heap.size≤b)∧b<w'.heap.size) (hfr:Fr (ε.fp m) w w') :
 SatE b { st with rg:=st.rg.set m new } (ε.set m ⟨ε.at_ m,fp⟩) a w':=by
 have hml:m<ε.length:=by rw [hs.regs.len];exact (List.getElem?_eq_some_iff.1 hm).1
 obtain ⟨s1,s2⟩:=Qh hsc
 obtain ⟨e1,e2⟩:=Env.set_same (x:=⟨ε.at_ m,fp⟩) hml rfl
 refine ⟨hs.defs,hs.size,fun en hen=>(hs.fr en hen).same (s1 en hen) (fun q _=>e1 q),RegsOk.step1 hs.regs hs.below.size hm hp (Y0 hp) rfl hnew hfp hfr hnl s2,hs.below.step hfr.os hfr.tape hfr.output hfr.size (fun q hq hmq=>hfr.block q (jP hq hs.below.size) (fun hfq=>?_)),by rw [e2];exact hs.pre⟩
 rcases hs.regs.lim m p hm hp q hfq with h | h
 ·omega
 ·exact hmq h
theorem RunF.mrange {T:MT} {n:Nat} {has:KA T.K→Bool} {f:KA T.K→KA T.V} {it:Option (MIt T.K)} (m:Nat) (h:see P fn c=(vc,.op)) (hv:Conj vc)
 (hm:nth (c.at P).rg m=some (.mp T n has f it)) (hP:T.P=P) (hsome:∀ r cnt,(c.mrg P m T n has f r cnt).isSome=true)
 (next:∀ r cnt,RunF P fn n0 U (orNo (c.mrg P m T n has f r cnt))):RunF P fn n0 U c:=by
 unfold RunF at next ⊢
 intro b hb
 unfold see at h
 unfold Cfg.at at hm
 unfold Cfg.mrg at next hsome
 generalize hg:seg P 5000 c.k c.st=rr at h hm next hsome
 obtain ⟨vc',out⟩:=rr
 cases out<;>simp only [Prod.mk.injEq,reduceCtorEq,and_false] at h
 case op all o todo k st =>
  obtain ⟨rfl,_⟩:=h
  refine Qn hw.mixed 5000 _ _ _ _ hg hv.toAll (fun a w hsat=>?_)
  obtain ⟨ε,hs⟩:=hsat
  simp only at hm next hsome
  have hm':=Q6 hm
  have hso:=hsome w.heap.size
  have hne:=next w.heap.size
  obtain ⟨dst,op,type,pos,after,guard⟩:=o
  simp only at hso hne
  have hfind:∃ t x m',op=.range t x∧guard=none∧opndC st [] x=some (.h m')∧(jr m m'&&jr T.t t&&st.scp)=true:=by
   have h0:=hso 0
   cases op<;>first | (cases h0;done) | skip
   cases guard with
   | some g=>cases h0
   | none =>
     simp only at h0
     split at h0
     ·rename_i m' hx
      split at h0
      ·rename_i hbc;exact ⟨_,_,m',rfl,rfl,hx,hbc⟩
      ·cases h0
     ·cases h0
  obtain ⟨t,x,m',rfl,rfl,hx,hbc⟩:=hfind
  simp only [hx] at hso hne
  have hbc':=hbc
  simp only [je] at hbc
  have e1:=jd hbc.1.1
  have e2:=jd hbc.1.2
  have hsc:=hbc.2
  subst e1
  have hh:MapAt w b.M (ε.fp m) T (ε.at_ m) n has f none:=MapAt.close (hs.regs.reg m _ hm')
  obtain ⟨w',cnt,hrun,hgr,hsz,hmp⟩:=hh.range (M':=b.M) (fp':=fun q=>ε.fp m q∨q=w.heap.size) (fun _ h=>h) (fun _ h=>.inl h) (Base.fresh_M hs (jm _)).1 (.inr rfl)
  have hs1:=hs.turn (fp:=fun q=>ε.fp m q∨q=w.heap.size) (new:=.mp T n has f (some ⟨w.heap.size,has,cnt,none,none⟩)) hsc hm' rfl rfl hmp (fun q hq=>by
   rcases hq with hq | hq
   ·exact ⟨.inl hq,jP (hs.regs.lt m _ hm' rfl q hq).1 hgr.size⟩
   ·subst hq;exact ⟨.inr (jm _),by omega⟩) (Qad hgr (fun b hb=>by cases hb))
  have hsc1:St.scp { st with rg:=st.rg.set m (.mp T n has f (some ⟨w.heap.size,has,cnt,none,none⟩)) }=true:=by
   obtain ⟨s1,s2⟩:=Qh hsc
   unfold St.scp
   simp only [je,jt]
   refine ⟨List.all_eq_true.2 s1,List.all_eq_true.2 fun r hr=>?_⟩
   rcases kE hr with h | h
   ·exact List.all_eq_true.1 s2 r h
   ·subst h;rfl
  have hs2:=hs1.add (w':=w') (x:=⟨itPtr w.heap.size,fun _=>False⟩) (r:=.itr w.heap.size) hsc1 hs1.below (jm _) (fun _ _ _ _ _ _=>rfl) rfl (fun h=>by cases h) (fun h=>by cases h) (fun _ h=>h.elim)
  refine Yt (Zt rfl _) ?_
  unfold Oper.wp
  have hex:(execOp a.eval { dst,op:=.range t x,type,pos,after,guard:=none }).run P w=.ok (.value ((SV.c (.h st.rg.length)).den (ε.set m ⟨ε.at_ m,fun q=>ε.fp m q∨q=w.heap.size⟩++[⟨itPtr w.heap.size,fun _=>False⟩]))) w':=by
   have hlen:st.rg.length=(ε.set m ⟨ε.at_ m,fun q=>ε.fp m q∨q=w.heap.size⟩).length:=by rw [jt,hs.regs.len]
   rw [show (SV.c (.h st.rg.length)).den (ε.set m ⟨ε.at_ m,fun q=>ε.fp m q∨q=w.heap.size⟩++[⟨itPtr w.heap.size,fun _=>False⟩])=itPtr w.heap.size by simp only [SV.den,C.den];rw [hlen,Yk]]
   simp only [execOp,Q5 hs (gHolds_nil a) hx]
   rw [hP,e2] at hrun
   exact Q45 hrun
  rw [hex,Oper.upon_value]
  have hso':=hso cnt
  have hn1:=hne cnt
  rw [if_pos hbc'] at hso' hn1
  cases hput:putSt { st with rg:=st.rg.set m (.mp T n has f (some ⟨w.heap.size,has,cnt,none,none⟩))++[.itr w.heap.size] } dst [] (.c (.h st.rg.length)) with
  | none=>rw [hput] at hso';cases hso'
  | some st' =>
    rw [hput] at hn1
    simp only [jM,orNo] at hn1
    exact hn1 b hb _ w' ⟨_,Qg hs2 hput (fun _=>rfl) (fun hn=>absurd (gHolds_nil _) hn)⟩
 all_goals first | (unfold callV at h;split at h<;>simp at h;done) | (split at h<;>simp at h)
theorem RunF.mnext {A:Type} {T:MT} {n:Nat} {has:KA T.K→Bool} {f:KA T.K→KA T.V} {it:MIt T.K} (m j:Nat) (mk:A→KA T.K) (hmk:∀ a,∃ p,a=mk p) (h:see P fn c=(vc,.op)) (hv:Conj vc)
 (hm:nth (c.at P).rg m=some (.mp T n has f (some it))) (hj:nth (c.at P).rg j=some (.itr it.r)) (hP:T.P=P)
 (hD:(c.mnxD P j).isSome=true) (hM:∀ p cnt,(c.mnxM P m j T n has f it (mk p) cnt).isSome=true)
 (next1:(∀ p,it.left (mk p)=false)→RunF P fn n0 U (orNo (c.mnxD P j)))
 (next2:∀ (p:A) (cnt:Nat),KA.wf T.K (mk p)→it.left (mk p)=true→has (mk p)=true→cnt<it.cnt→RunF P fn n0 U (orNo (c.mnxM P m j T n has f it (mk p) cnt)))
 (hpd:it.pd=none:=by rfl):RunF P fn n0 U c:=by
 unfold RunF at next1 next2 ⊢
 intro b hb
 unfold see at h
 unfold Cfg.at at hm hj
 unfold Cfg.mnxD at next1 hD
 unfold Cfg.mnxM at next2 hM
 generalize hg:seg P 5000 c.k c.st=rr at h hm hj next1 next2 hD hM
 obtain ⟨vc',out⟩:=rr
 cases out<;>simp only [Prod.mk.injEq,reduceCtorEq,and_false] at h
 case op all o todo k st =>
  obtain ⟨rfl,_⟩:=h
  refine Qn hw.mixed 5000 _ _ _ _ hg hv.toAll (fun a w hsat=>?_)
  obtain ⟨ε,hs⟩:=hsat
  simp only at hm hj next1 next2 hD hM
  have hm':=Q6 hm
  have hj':ε.at_ j=itPtr it.r:=hs.regs.reg j _ (Q6 hj)
  obtain ⟨dst,op,type,pos,after,guard⟩:=o
  simp only at hD hM next1 next2
  have hfind:∃ x j',op=.next x false∧guard=none∧opndC st [] x=some (.h j')∧(jr j j'&&st.scp)=true:=by
   cases op<;>first | (cases hD;done) | skip
   rename_i x s
   cases s with
   | true=>cases hD
   | false =>
   cases guard with
   | some g=>cases hD
   | none =>
     simp only at hD
     split at hD
     ·rename_i m' hx
      split at hD
      ·rename_i hbc;exact ⟨_,m',rfl,rfl,hx,hbc⟩
      ·cases hD
     ·cases hD
  obtain ⟨x,j',rfl,rfl,hx,hbc⟩:=hfind
  simp only [hx,if_pos hbc] at hD hM next1 next2
  have hbc':=hbc
  simp only [je] at hbc
  have e1:=jd hbc.1
  have hsc:=hbc.2
  subst e1
  have hh:MapAt w b.M (ε.fp m) T (ε.at_ m) n has f (some it):=hs.regs.reg m _ hm'
  refine Yt (Zt rfl _) ?_
  unfold Oper.wp
  rcases hh.next hpd type with ⟨hl,hrun⟩ | ⟨q,w',cnt',hwf,hl,hha,hlt,hrun,hMr,hfr,hgr,hsz,hmp⟩
  ·have hex:(execOp a.eval { dst,op:=.next x false,type,pos,after,guard:=none }).run P w=.ok (.value ((SV.tup [(false,[.t false])]).den ε)) w:=by
    simp only [execOp,Q5 hs (gHolds_nil a) hx]
    rw [hP] at hrun
    refine Y6 ?_
    show (Instr.next (ε.at_ j) false type).run P w=_
    rw [hj'];exact hrun
   rw [hex,Oper.upon_value]
   have hn1:=next1 (fun p=>hl (mk p))
   cases hput:putSt st dst [] (.tup [(false,[.t false])]) with
   | none=>rw [hput] at hD;cases hD
   | some st' =>
     rw [hput] at hn1
     simp only [jM,orNo] at hn1
     exact hn1 b hb _ w ⟨_,Qg hs hput (fun _=>rfl) (fun hn=>absurd (gHolds_nil _) hn)⟩
  ·obtain ⟨p,rfl⟩:=hmk q
   have hs1:=hs.turn (fp:=ε.fp m) (new:=.mp T n has f (some ⟨it.r,fun q=>it.left q&&!decide (q=mk p),cnt',some (mk p),none⟩)) hsc hm' rfl rfl hmp (fun q hq=>⟨.inl hq,jP (hs.regs.lt m _ hm' rfl q hq).1 hgr.size⟩)
    (Qad hgr (fun b hb=>by cases hb;exact hfr))
   have hex:(execOp a.eval { dst,op:=.next x false,type,pos,after,guard:=none }).run P w=.ok (.value ((SV.tup [(false,[.t true]),(T.kAgg,KA.cs T.K (mk p)),(T.vAgg,KA.cs T.V (f (mk p)))]).den (ε.set m ⟨ε.at_ m,ε.fp m⟩))) w':=by
    simp only [execOp,Q5 hs (gHolds_nil a) hx]
    rw [hP] at hrun
    refine Q45 ?_
    show (Instr.next (ε.at_ j) false type).run P w=_
    rw [hj',hrun]
    simp only [SV.den,jV,kZ,Q1q,KA.cs_den]
    rfl
   rw [hex,Oper.upon_value]
   have hM1:=hM p cnt'
   have hn1:=next2 p cnt' hwf hl hha hlt
   cases hput:putSt { st with rg:=st.rg.set m (.mp T n has f (some ⟨it.r,fun q=>it.left q&&!decide (q=mk p),cnt',some (mk p),none⟩)) } dst [] (.tup [(false,[.t true]),(T.kAgg,KA.cs T.K (mk p)),(T.vAgg,KA.cs T.V (f (mk p)))]) with
   | none=>rw [hput] at hM1;cases hM1
   | some st' =>
     rw [hput] at hn1
     simp only [jM,orNo] at hn1
     exact hn1 b hb _ w' ⟨_,Qg hs1 hput (fun _=>rfl) (fun hn=>absurd (gHolds_nil _) hn)⟩
 all_goals first | (unfold callV at h;split at h<;>simp at h;done) | (split at h<;>simp at h)
theorem Q6a (t:TypeId) (x y:Option Addr) (i j k l:Nat):binOp .eql t (.slice x i j) (.slice y k l)=(do pure (.bool (← Op.equal t (.slice x i j) (.slice y k l)))):=rfl
theorem RunF.rnil (r:Nat) {n:Nat} (h:see P fn c=(vc,.op)) (hv:Conj vc) (hm:lenAt (c.at P) r=some n) (hsome:∀ x,(c.rnil P r x).isSome=true)
 (next:∀ x:Bool,(x=true→n=0)→RunF P fn n0 U (orNo (c.rnil P r x))):RunF P fn n0 U c:=by
 unfold RunF at next ⊢
 intro b hb
 unfold see at h
 unfold Cfg.at at hm
 unfold Cfg.rnil at next hsome
 generalize hg:seg P 5000 c.k c.st=rr at h hm next hsome
 obtain ⟨vc',out⟩:=rr
 cases out<;>simp only [Prod.mk.injEq,reduceCtorEq,and_false] at h
 case op all o todo k st =>
  obtain ⟨rfl,_⟩:=h
  refine Qn hw.mixed 5000 _ _ _ _ hg hv.toAll (fun a w hsat=>?_)
  obtain ⟨ε,hs⟩:=hsat
  simp only at hm next hsome
  obtain ⟨dst,op,type,pos,after,guard⟩:=o
  simp only at hsome next
  have hfind:∃ t u v q e cv,op=.binOp .eql t u v q∧guard=none∧opndC st [] u=some (.h r)∧opndC st [] v=some cv∧isNil cv=true∧sliceOf P t=some e:=by
   have h0:=hsome true
   cases op<;>first | (cases h0;done) | skip
   rename_i bop t u v q
   cases bop<;>first | (cases h0;done) | skip
   cases guard with
   | some g=>cases h0
   | none =>
     simp only at h0
     split at h0
     ·rename_i r' cv e hx hy hse
      split at h0
      ·rename_i hbc
       simp only [je] at hbc
       have:=jd hbc.1
       subst this
       exact ⟨t,u,v,q,e,cv,rfl,rfl,hx,hy,hbc.2,hse⟩
      ·cases h0
     ·cases h0
  obtain ⟨t,u,v,q,e,cv,rfl,rfl,hx,hy,hni,hse⟩:=hfind
  have hcv:cv=.v (.slice none 0 0):=by
   unfold isNil at hni
   split at hni
   ·rfl
   ·cases hni
  subst hcv
  have hbq:(jr r r&&isNil (.v (.slice none 0 0)))=true:=by simp [isNil]
  simp only [hx,hy,hse,if_pos hbq] at hsome next
  have hrow:∃ A c,ε.at_ r=.slice A n c∧(0<n→∃ ad,A=some ad):=by
   unfold lenAt at hm
   split at hm
   ·rename_i hr
    cases hm
    obtain ⟨A,c,h1,_,h2⟩:=G4 (Qe hs hr).1
    exact ⟨A,c,h1,h2⟩
   ·rename_i hr
    cases hm
    obtain ⟨A,c,h1,_,h2⟩:=Zd (Qe hs hr).1
    exact ⟨A,c,h1,h2⟩
   ·cases hm
  obtain ⟨A,cp,hA,hA0⟩:=hrow
  refine Yt (Zt rfl _) ?_
  unfold Oper.wp
  have hex:(execOp a.eval { dst,op:=.binOp .eql t u v q,type,pos,after,guard:=none }).run P w=.ok (.value ((SV.c (.b A.isNone)).den ε)) w:=by
   simp only [execOp,Q5 hs (gHolds_nil a) hx,Q5 hs (gHolds_nil a) hy]
   refine Y6 ?_
   simp only [C.den,hA]
   simp only [go_sem,jo,jx,jh,Q6a,run_equal_slice_nil w t e A n cp (Qz hse),SV.den,C.den]
  rw [hex,Oper.upon_value]
  have hso:=hsome A.isNone
  have hn1:=next A.isNone (fun hx=>by
   rcases Nat.eq_zero_or_pos n with h | h
   ·exact h
   ·obtain ⟨ad,h2⟩:=hA0 h
    rw [h2] at hx;cases hx)
  cases hput:putSt st dst [] (.c (.b A.isNone)) with
  | none=>rw [hput] at hso;cases hso
  | some st' =>
    rw [hput] at hn1
    simp only [jM,orNo] at hn1
    exact hn1 b hb _ w ⟨_,Qg hs hput (fun _=>rfl) (fun hn=>absurd (gHolds_nil _) hn)⟩
 all_goals first | (unfold callV at h;split at h<;>simp at h;done) | (split at h<;>simp at h)
end
attribute [irreducible] Cfg.mrg Cfg.mnxD Cfg.mnxM Cfg.rnil
def foldL:List (Nat×(Nat→TC))→St→Option (St×List Prop)
 | [],st=>some (st,[])
 | (r,g)::l,st=>match foldSt st r g with
   | some (st1,vc1)=>match foldL l st1 with
     | some (st2,vc2)=>some (st2,vc1++vc2)
     | none=>none
   | none=>none
theorem Q0w {b:Base} {a:Act} {w:World}:∀ {l:List (Nat×(Nat→TC))} {st st':St} {ε:Env} {vc:List Prop},SatE b st ε a w→foldL l st=some (st',vc)→All vc→∃ ε',SatE b st' ε' a w∧∀ i,Env.at_ ε' i=ε.at_ i
 | [],st,st',ε,vc,hs,h,hv=>by
   cases h
   exact ⟨ε,hs,fun _=>rfl⟩
 | (r,g)::l,st,st',ε,vc,hs,h,hv=>by
   simp only [foldL] at h
   split at h
   ·rename_i st1 vc1 h1
    split at h
    ·rename_i st2 vc2 h2
     cases h
     obtain ⟨ε1,g1,e1⟩:=Q69 hs h1 hv.left
     obtain ⟨ε2,g2,e2⟩:=Q0w g1 h2 hv.right
     exact ⟨ε2,g2,fun i=>(e2 i).trans (e1 i)⟩
    ·cases h
   ·cases h
theorem Qn0 {ε ε':Env} (h:∀ i,Env.at_ ε' i=ε.at_ i) (c:C):c.den ε'=c.den ε:=by
 have hf:Env.at_ ε'=Env.at_ ε:=funext h
 cases c<;>simp only [C.den,hf]
theorem Qkk {ε ε':Env} (h:∀ i,Env.at_ ε' i=ε.at_ i) (v:SV):v.den ε'=v.den ε:=by
 have hc:C.den ε'=C.den ε:=funext (Qn0 h)
 have hd:denPart ε'=denPart ε:=funext fun x=>by simp only [denPart,hc]
 cases v<;>simp only [SV.den,hc,hd]
def foldS (fs:List (Nat×(Nat→TC))) (st:St):St:=match foldL fs st with
 | some x=>x.1
 | none=>noCfg.st
section
variable {P:Program} [hw:Wide P] {fn:Func} {n0:Nat} {S:SV→List Reg→Prop} {U:Tgt} {c:Cfg} {vc:List Prop}
theorem RunF.retF {v:SV} (res:SV) (post:List Reg) (π:List Nat) (fs:List (Nat×(Nat→TC))) {vc2:List Prop} {E:List F} (h:see P fn c=(vc,.ret v)) (hv:Conj vc) (hS:S res post) (hf:(foldL fs (c.at P)).map (·.2)=some vc2) (hv2:Conj vc2)
 (he:retEnt n0 π (foldS fs (c.at P)) v res post=some E) (hE:AllF E):RunF P fn n0 (Rt P fn S) c:=by
 unfold RunF
 intro b hb
 unfold see at h
 unfold Cfg.at at he hf
 generalize hg:seg P 5000 c.k c.st=r at h he hf
 obtain ⟨vc',out⟩:=r
 cases out<;>simp only [Prod.mk.injEq,reduceCtorEq,and_false] at h
 ·rename_i st
  split at h
  ·rename_i v' vc2' hr
   simp only [Prod.mk.injEq,View.ret.injEq] at h
   obtain ⟨rfl,rfl⟩:=h
   refine Qn hw.mixed 5000 _ _ _ _ hg hv.toAll.left (fun a w ⟨ε,hs⟩=>?_)
   unfold foldS at he
   simp only at he hf
   cases hx:foldL fs st with
   | none=>rw [hx] at hf;cases hf
   | some y =>
     obtain ⟨st2,vc3⟩:=y
     rw [hx] at hf he
     simp only [jM,Option.some.injEq] at hf
     subst hf
     obtain ⟨ε2,g2,e2⟩:=Q0w hs hx hv2.toAll
     have:=Q3e hb he hE hS g2
     rw [Qkk e2] at this
     exact (Rt.mk hs.defs.1 (fun Ds hD=>Q0t hs hr hv.toAll.right hD) this).1
  ·simp at h
 all_goals first | (unfold callV at h;split at h<;>simp at h;done) | (split at h<;>simp at h)
theorem RunF.nextF {X:Type} {I:X→St} {J:X→Prop} {m:X→Nat} {x:X} (x':X) (π:List Nat) (fs:List (Nat×(Nat→TC))) {vc2:List Prop} {E:List F} (h:see P fn c=(vc,.jump (Next I J m x))) (hv:Conj vc) (hf:(foldL fs (c.at P)).map (·.2)=some vc2) (hv2:Conj vc2)
 (he:ent n0 π (foldS fs (c.at P)) (I x')=some E) (hE:AllF E) (hm:m x'<m x) (hJ:J x'):RunF P fn n0 U c:=by
 unfold RunF
 intro b hb
 unfold see at h
 unfold Cfg.at at he hf
 generalize hg:seg P 5000 c.k c.st=r at h he hf
 obtain ⟨vc',out⟩:=r
 cases out<;>simp only [Prod.mk.injEq,reduceCtorEq,and_false] at h
 case jump J' st =>
  simp only [View.jump.injEq] at h
  obtain ⟨rfl,rfl⟩:=h
  unfold foldS at he
  simp only at he hf
  cases hx:foldL fs st with
  | none=>rw [hx] at hf;cases hf
  | some y =>
    obtain ⟨st2,vc3⟩:=y
    rw [hx] at hf he
    simp only [jM,Option.some.injEq] at hf
    subst hf
    exact Qn hw.mixed 5000 _ _ _ _ hg hv.toAll (fun a w ⟨ε,hs⟩=>by
     obtain ⟨ε2,g2,_⟩:=Q0w hs hx hv2.toAll
     exact ⟨x',hm,hJ,J6 hb he hE ⟨ε2,g2⟩⟩)
 all_goals first | (unfold callV at h;split at h<;>simp at h;done) | (split at h<;>simp at h)
end
inductive Side where
 | n (a:Nat)
 | i (a:Int)
 | b (a:Bool)
 | v (a:Value)
 | t (a:TC)
 | f (a:Nat→Nat→TC)
 | x (a:Ext)
 | p (a:Prop)
def F.l:F→Side
 | .n x _=>.n x
 | .i x _=>.i x
 | .b x _=>.b x
 | .v x _=>.v x
 | .t x _=>.t x
 | .fn _ x _=>.f x
 | .fx _ _ x _=>.f x
 | .ex x _=>.x x
 | .p x=>.p x
def F.r:F→Side
 | .n _ x=>.n x
 | .i _ x=>.i x
 | .b _ x=>.b x
 | .v _ x=>.v x
 | .t _ x=>.t x
 | .fn _ _ x=>.f x
 | .fx _ _ _ x=>.f x
 | .ex _ x=>.x x
 | .p _=>.p True
theorem F.of_sides {f:F} (h:f.l=f.r):f.prop:=by
 cases f<;>simp only [F.l,F.r,Side.n.injEq,Side.i.injEq,Side.b.injEq,Side.v.injEq,Side.t.injEq,Side.f.injEq,Side.x.injEq,Side.p.injEq] at h<;>simp only [F.prop,h]<;>(try intros)<;>trivial
def cutF:Nat→List Nat→List F→List F×List F
 | _,_,[]=>([],[])
 | _,[],f::r=>(f::r,[])
 | j,m::ms,f::r=>if jr j m then ((cutF (j+1) ms r).1,f::(cutF (j+1) ms r).2) else (f::(cutF (j+1) (m::ms) r).1,(cutF (j+1) (m::ms) r).2)
theorem cutF_mem:∀ {l:List F} {j:Nat} {M:List Nat} {f:F},f∈l→f∈(cutF j M l).1∨f∈(cutF j M l).2
 | [],_,_,_,h=>by cases h
 | x::r,j,[],f,h=>.inl h
 | x::r,j,m::ms,f,h=>by
   simp only [cutF]
   split
   ·cases h with
    | head=>exact .inr (.head _)
    | tail _ h=>exact (cutF_mem h).imp id (jR _)
   ·cases h with
    | head=>exact .inl (.head _)
    | tail _ h=>exact (cutF_mem h).imp (jR _) id
def lF (M:List Nat) (o:Option (List F)):Option (List Side×List Prop):=match o with
 | some l=>some ((cutF 0 M l).1.map F.l,(cutF 0 M l).2.map F.prop)
 | none=>none
def rF (M:List Nat) (E:List Prop) (o:Option (List F)):Option (List Side×List Prop):=match o with
 | some l=>some ((cutF 0 M l).1.map F.r,E)
 | none=>some ([],[])
theorem Z1 {M:List Nat} {E:List Prop} {o:Option (List F)} (h:lF M o=rF M E o) (hE:Conj E):∃ l,o=some l∧AllF l:=by
 cases o with
 | none=>cases h
 | some l =>
   simp only [lF,rF,Option.some.injEq,Prod.mk.injEq] at h
   obtain ⟨h1,h2⟩:=h
   refine ⟨l,rfl,fun f hf=>?_⟩
   rcases cutF_mem (j:=0) (M:=M) hf with h3 | h3
   ·obtain ⟨i,hi⟩:=List.mem_iff_getElem?.1 h3
    have e:((cutF 0 M l).1.map F.l)[i]?=((cutF 0 M l).1.map F.r)[i]?:=by rw [h1]
    simp only [jk,hi,jM,Option.some.injEq] at e
    exact F.of_sides e
   ·subst h2
    exact hE.all _ (List.mem_map_of_mem h3)
def idN:Nat→Nat→List Nat
 | _,0=>[]
 | j,n+1=>j::idN (j+1) n
def piN (π:List Nat) (n:Nat):List Nat:=match π with
 | []=>idN 0 n
 | _::_=>π
def View.v:View→SV
 | .ret v=>v
 | .fin v=>v
 | _=>.u
def View.as:View→List SV
 | .call _ a=>a
 | .gcall _ a=>a
 | .yield _ a=>a
 | _=>[]
structure Lp (X:Type) where
 I:X→St
 J:X→Prop
 m:X→Nat
section
variable {P:Program} [hw:Wide P] {fn:Func} {n0:Nat} {S:SV→List Reg→Prop} {U:Tgt} {c:Cfg}
theorem tz (keep:List Nat) (next:RunF P fn n0 U (c.fz keep)):RunF P fn n0 U c:=RunF.fz keep next
theorem Q0 (x:Bool) (ht:x=true→RunF P fn n0 U (c.thn P)) (he:x=false→RunF P fn n0 U (c.els P)) (vc:List Prop:=[]) (hv:Conj vc:=by exact trivial) (h:see P fn c=(vc,.cond x):=by kernel_rfl):RunF P fn n0 U c:=RunF.cond h hv ht he
theorem Q3 {res:SV} {post:List Reg} (π:List Nat:=[]) (M:List Nat:=[]) (E:List Prop:=[]) (hE:Conj E:=by exact trivial) (vc:List Prop:=[]) (hv:Conj vc:=by exact trivial) (hS:S res post:=by exact ⟨rfl,rfl⟩)
 (h:see P fn c=(vc,.ret (see P fn c).2.v):=by kernel_rfl) (he:lF M (retEnt n0 (piN π post.length) (c.at P) (see P fn c).2.v res post)=rF M E (retEnt n0 (piN π post.length) (c.at P) (see P fn c).2.v res post):=by kernel_rfl):RunF P fn n0 (Rt P fn S) c:=
 let ⟨_,h1,h2⟩:=Z1 he hE
 RunF.ret res post _ h hv hS h1 h2
theorem Yh {res:SV} {post:List Reg} (π:List Nat:=[]) (M:List Nat:=[]) (E:List Prop:=[]) (hE:Conj E:=by exact trivial) (vc:List Prop:=[]) (hv:Conj vc:=by exact trivial) (hS:S res post:=by exact ⟨rfl,rfl⟩)
 (h:see P fn c=(vc,.fin (see P fn c).2.v):=by kernel_rfl) (he:lF M (retEnt n0 (piN π post.length) (c.at P) (see P fn c).2.v res post)=rF M E (retEnt n0 (piN π post.length) (c.at P) (see P fn c).2.v res post):=by kernel_rfl):RunF P fn n0 (Rt P fn S) c:=
 let ⟨_,h1,h2⟩:=Z1 he hE
 RunF.fin res post _ h hv hS h1 h2
theorem Qp7 {res:SV} {post:List Reg} (fs:List (Nat×(Nat→TC))) (π:List Nat:=[]) (M:List Nat:=[]) (E:List Prop:=[]) (hE:Conj E:=by exact trivial) (vc:List Prop:=[]) (hv:Conj vc:=by exact trivial) (vc2:List Prop:=[]) (hv2:Conj vc2:=by exact trivial) (hS:S res post:=by exact ⟨rfl,rfl⟩)
 (h:see P fn c=(vc,.ret (see P fn c).2.v):=by kernel_rfl) (hf:(foldL fs (c.at P)).map (·.2)=some vc2:=by kernel_rfl) (he:lF M (retEnt n0 (piN π post.length) (foldS fs (c.at P)) (see P fn c).2.v res post)=rF M E (retEnt n0 (piN π post.length) (foldS fs (c.at P)) (see P fn c).2.v res post):=by kernel_rfl):RunF P fn n0 (Rt P fn S) c:=
 let ⟨_,h1,h2⟩:=Z1 he hE
 RunF.retF res post _ fs h hv hS hf hv2 h1 h2
theorem tWk (st':St) (next:RunF P fn n0 U ⟨c.k,st'⟩) (π:List Nat:=[]) (M:List Nat:=[]) (E:List Prop:=[]) (hE:Conj E:=by exact trivial)
 (he:lF M (ent n0 (piN π st'.rg.length) c.st st')=rF M E (ent n0 (piN π st'.rg.length) c.st st'):=by kernel_rfl):RunF P fn n0 U c:=
 let ⟨_,h1,h2⟩:=Z1 he hE
 RunF.weaken st' _ h1 h2 next
theorem Q9 {X:Type} (L:Lp X) (x0:X) (hJ:L.J x0) (round:∀ x,L.J x→RunF P fn n0 U (c.round P (Next L.I L.J L.m x) (L.I x))) (π:List Nat:=[]) (M:List Nat:=[]) (E:List Prop:=[]) (hE:Conj E:=by exact trivial) (vc:List Prop:=[]) (hv:Conj vc:=by exact trivial)
 (h:see P fn c=(vc,.loop):=by kernel_rfl) (he:lF M (ent n0 (piN π (L.I x0).rg.length) (c.at P) (L.I x0))=rF M E (ent n0 (piN π (L.I x0).rg.length) (c.at P) (L.I x0)):=by kernel_rfl):RunF P fn n0 U c:=
 let ⟨_,h1,h2⟩:=Z1 he hE
 RunF.loop L.I L.J L.m x0 _ h hv h1 h2 hJ round
theorem Q4 {X:Type} (L:Lp X) (x x':X) (hm:L.m x'<L.m x) (hJ:L.J x') (π:List Nat:=[]) (M:List Nat:=[]) (E:List Prop:=[]) (hE:Conj E:=by exact trivial) (vc:List Prop:=[]) (hv:Conj vc:=by exact trivial)
 (h:see P fn c=(vc,.jump (Next L.I L.J L.m x)):=by kernel_rfl) (he:lF M (ent n0 (piN π (L.I x').rg.length) (c.at P) (L.I x'))=rF M E (ent n0 (piN π (L.I x').rg.length) (c.at P) (L.I x')):=by kernel_rfl):RunF P fn n0 U c:=
 let ⟨_,h1,h2⟩:=Z1 he hE
 RunF.next x' _ h hv h1 h2 hm hJ
theorem Q3g {X:Type} (L:Lp X) (x x':X) (hm:L.m x'<L.m x) (hJ:L.J x') (fs:List (Nat×(Nat→TC))) (π:List Nat:=[]) (M:List Nat:=[]) (E:List Prop:=[]) (hE:Conj E:=by exact trivial) (vc:List Prop:=[]) (hv:Conj vc:=by exact trivial) (vc2:List Prop:=[]) (hv2:Conj vc2:=by exact trivial)
 (h:see P fn c=(vc,.jump (Next L.I L.J L.m x)):=by kernel_rfl) (hf:(foldL fs (c.at P)).map (·.2)=some vc2:=by kernel_rfl) (he:lF M (ent n0 (piN π (L.I x').rg.length) (foldS fs (c.at P)) (L.I x'))=rF M E (ent n0 (piN π (L.I x').rg.length) (foldS fs (c.at P)) (L.I x')):=by kernel_rfl):RunF P fn n0 U c:=
 let ⟨_,h1,h2⟩:=Z1 he hE
 RunF.nextF x' _ fs h hv hf hv2 h1 h2 hm hJ
theorem Q04 {X:Type} (n:Nat) (I:X→St) (J:X→Prop) (hall:upTo (fun j=>RunF P fn n0 U (c.pick P (AtSt I J) j)) n) (hk:∀ x,J x→RunF P fn n0 U (c.rest P (I x))) (vc:List Prop:=[]) (hv:Conj vc:=by exact trivial)
 (h:see P fn c=(vc,.any n):=by kernel_rfl):RunF P fn n0 U c:=RunF.any I J h hv hall hk
theorem tTo {X:Type} (I:X→St) (J:X→Prop) (x':X) (hJ:J x') (π:List Nat:=[]) (M:List Nat:=[]) (E:List Prop:=[]) (hE:Conj E:=by exact trivial) (vc:List Prop:=[]) (hv:Conj vc:=by exact trivial)
 (h:see P fn c=(vc,.jump (AtSt I J)):=by kernel_rfl) (he:lF M (ent n0 (piN π (I x').rg.length) (c.at P) (I x'))=rF M E (ent n0 (piN π (I x').rg.length) (c.at P) (I x')):=by kernel_rfl):RunF P fn n0 U c:=
 let ⟨_,h1,h2⟩:=Z1 he hE
 RunF.to x' _ h hv h1 h2 hJ
abbrev zde (y0:Cfg) (y1:Program) (y2:List Nat) (y3:List Reg) (y4:List SV) (y5:Func):Option (List F):=callEnt (y0.drawn y1) (piN y2 y3.length) (y0.at y1) y3 y4 (see y1 y5 y0).2.as
theorem Q2 {f:Nat} {want:List SV} {pre:List Reg} {res:SV} {post:List Reg} (he:Enters P f) (spec:Ctr P f pre want (Det res post)) (σ:List Nat) (next:RunF P fn n0 U (c.ret P (piN σ pre.length) pre res post)) (M:List Nat:=[]) (E:List Prop:=[]) (hE:Conj E:=by exact trivial) (vc:List Prop:=[]) (hv:Conj vc:=by exact trivial)
 (h:see P fn c=(vc,.call f (see P fn c).2.as):=by kernel_rfl) (hc:lF M (zde c P σ pre want fn)=rF M E (zde c P σ pre want fn):=by kernel_rfl)
 (hok:((c.after P (piN σ pre.length) pre res post).isSome&&exclIn (c.at P).rg.length (piN σ pre.length) pre)=true:=by kernel_rfl):RunF P fn n0 U c:=
 let ⟨_,h1,h2⟩:=Z1 hc hE
 RunF.call he spec _ h hv h1 h2 hok next
theorem tG {f:Nat} {want:List SV} {pre:List Reg} {res:SV} {post:List Reg} (he:Enters P f) (spec:Ctr P f pre want (Det res post)) (σ:List Nat) (next:RunF P fn n0 U (c.gret P (piN σ pre.length) res)) (M:List Nat:=[]) (E:List Prop:=[]) (hE:Conj E:=by exact trivial) (vc:List Prop:=[]) (hv:Conj vc:=by exact trivial)
 (h:see P fn c=(vc,.gcall f (see P fn c).2.as):=by kernel_rfl) (hc:lF M (callEnt true (piN σ pre.length) (c.at P) pre want (see P fn c).2.as)=rF M E (callEnt true (piN σ pre.length) (c.at P) pre want (see P fn c).2.as):=by kernel_rfl)
 (hok:(c.gafter P (piN σ pre.length) res).isSome=true:=by kernel_rfl):RunF P fn n0 U c:=
 let ⟨_,h1,h2⟩:=Z1 hc hE
 RunF.gcall he spec _ h hv h1 h2 hok next
theorem Y3 (r k:Nat) (next:RunF P fn n0 U (c.with_ (focSt c.st r k))) (vc:List Prop:=[]) (hv:Conj vc:=by exact trivial) (h:(focSt c.st r k).map (·.2)=some vc:=by kernel_rfl):RunF P fn n0 U c:=RunF.focus r k h hv next
theorem Q25 (r:Nat) (g:Nat→TC) (next:RunF P fn n0 U (c.with_ (foldSt c.st r g))) (vc:List Prop:=[]) (hv:Conj vc:=by exact trivial) (h:(foldSt c.st r g).map (·.2)=some vc:=by kernel_rfl):RunF P fn n0 U c:=RunF.fold r g h hv next
theorem Qae (r:Nat) (g:Reg) (next:RunF P fn n0 U (c.with_ (regSt c.st r g))) (vc:List Prop:=[]) (hv:Conj vc:=by exact trivial) (h:(regSt c.st r g).map (·.2)=some vc:=by kernel_rfl):RunF P fn n0 U c:=RunF.reg r g h hv next
theorem Qk2 (r:Nat) (g:Nat→Nat→TC) (next:RunF P fn n0 U (c.with_ (nilsSt c.st r g))) (vc:List Prop:=[]) (hv:Conj vc:=by exact trivial) (h:(nilsSt c.st r g).map (·.2)=some vc:=by kernel_rfl):RunF P fn n0 U c:=RunF.nils r g h hv next
end
section
variable {P:Program} [hw:Wide P] {fn:Func} {n0:Nat} {c:Cfg}
end
attribute [irreducible] lF rF foldL foldS
def insFr (e:En):List En→List En
 | []=>[e]
 | x::r=>if kR e.slot x.slot then e::x::r else x::insFr e r
def sortFr:List En→List En
 | []=>[]
 | e::r=>insFr e (sortFr r)
theorem insFr_mem {e x:En}:∀ {l:List En},x∈insFr e l→x=e∨x∈l
 | [],h=>by simpa [insFr] using h
 | y::r,h=>by
   simp only [insFr] at h
   split at h
   ·simpa using h
   ·cases h with
    | head=>exact .inr (.head _)
    | tail _ h=>exact (insFr_mem h).imp id (jR _)
theorem Q6b {x:En}:∀ {l:List En},x∈sortFr l→x∈l
 | [],h=>h
 | y::r,h=>by
   rcases insFr_mem h with h | h
   ·subst h;exact .head _
   ·exact .tail _ (Q6b h)
def canon (st:St):St:=fS { st with fr:=sortFr st.fr } fun s=>s
theorem Q3h {b:Base} {st:St} {a:Act} {w:World} (h:Sat b st a w):Sat b (canon st) a w:=by
 obtain ⟨ε,hs⟩:=h
 unfold canon
 rw [Qk1]
 exact ⟨ε,hs.defs,hs.size,fun e he=>hs.fr e (Q6b he),hs.regs,hs.below,hs.pre⟩
def C.refs:C→List Nat
 | .p r _=>[r]
 | .h r=>[r]
 | .e r _ _ _=>[r]
 | .fn _ _ cs=>cs
 | .ar r _ _ _ _ _ _ _=>[r]
 | .hs r _ _=>[r]
 | _=>[]
def refsL:List C→List Nat
 | []=>[]
 | c::r=>c.refs++refsL r
def refsT:List (Bool×List C)→List Nat
 | []=>[]
 | x::r=>refsL x.2++refsT r
def SV.refs:SV→List Nat
 | .c x=>x.refs
 | .agg cs=>refsL cs
 | .tup vs=>refsT vs
 | .u=>[]
def refsF:List En→List Nat
 | []=>[]
 | e::r=>e.sv.refs++refsF r
def addNew (n m:Nat):List Nat→List Nat→List Nat
 | [],acc=>acc
 | x::r,acc=>addNew n m r (if kR n x&&kD x m&&!hasN x acc then acc++[x] else acc)
def upN:Nat→List Nat
 | 0=>[]
 | n+1=>upN n++[n]
def ordR (n0:Nat) (st:St):List Nat:=addNew n0 st.rg.length (upN st.rg.length) (addNew n0 st.rg.length (refsF (sortFr st.fr)) (upN n0))
def ixOf (x:Nat):List Nat→Nat
 | []=>0
 | y::r=>if jr x y then 0 else ixOf x r+1
def invOk (π:List Nat):Nat→Bool
 | 0=>true
 | n+1=>(match nth π (ixOf n π) with | some p=>jr p n | none=>false)&&invOk π n
def pickR (rg:List Reg) (τ:Nat→Nat):List Nat→Option (List Reg)
 | []=>some []
 | p::r=>match nth rg p,pickR rg τ r with
   | some x,some l=>some (x.ren τ::l)
   | _,_=>none
def permSt (n0:Nat) (π:List Nat) (st:St):Option St:=
 if st.scp&&jr π.length st.rg.length&&noDup π&&idOn π n0&&invOk π st.rg.length then
  (pickR st.rg (fun r=>ixOf r π) π).map fun rg=>{ st with fr:=st.fr.map fun e=>{ e with sv:=e.sv.ren fun r=>ixOf r π },rg }
 else none
theorem Q6c {π:List Nat}:∀ {n:Nat},invOk π n=true→∀ r,r<n→π[ixOf r π]?=some r
 | 0,_,r,hr=>by omega
 | n+1,h,r,hr=>by
   simp only [invOk,je] at h
   by_cases hrn:r=n
   ·subst hrn
    obtain ⟨h1,_⟩:=h
    split at h1
    ·rename_i p hp
     rw [Qo] at hp
     rw [hp,jd h1]
    ·cases h1
   ·exact Q6c h.2 r W31
theorem Q6d {rg:List Reg} {τ:Nat→Nat}:∀ {π:List Nat} {l:List Reg},pickR rg τ π=some l→l.length=π.length∧∀ (i:Nat) (r:Reg),l[i]?=some r→∃ (p:Nat) (x:Reg),π[i]?=some p∧rg[p]?=some x∧r=x.ren τ
 | [],l,h=>by cases h;exact ⟨rfl,fun i r h=>by simp at h⟩
 | p::π,l,h=>by
   simp only [pickR] at h
   split at h
   ·rename_i x l' hx hl
    cases h
    obtain ⟨h1,h2⟩:=Q6d hl
    refine ⟨by simp [h1],fun i r hi=>?_⟩
    cases i with
    | zero =>
      simp only [jD,Option.some.injEq] at hi
      exact ⟨p,x,rfl,by rw [Qo] at hx;exact hx,hi.symm⟩
    | succ i=>exact h2 i r W203
   ·cases h
theorem Qhy {b:Base} {n0:Nat} (hb:b.e.length=n0) {π:List Nat} {st st':St} (h:permSt n0 π st=some st') {a:Act} {w:World} (hs:Sat b st a w):Sat b st' a w:=by
 obtain ⟨ε,hs⟩:=hs
 unfold permSt at h
 split at h
 ·rename_i hc
  simp only [je] at hc
  obtain ⟨⟨⟨⟨c1,c2⟩,c3⟩,c4⟩,c5⟩:=hc
  obtain ⟨rg,h1,h2⟩:=map_nil h
  cases h2
  obtain ⟨s1,s2⟩:=Qh c1
  obtain ⟨hlen,hpk⟩:=Q6d h1
  have hτ:∀ r,r<st.rg.length→Env.at_ (π.map ε.ent) (ixOf r π)=ε.at_ r:=fun r hr=>Jz ε π (Q6c c5 r hr)
  refine ⟨π.map ε.ent,hs.defs,hs.size,fun e he=>?_,⟨by simp [hlen],fun i r hi=>?_,fun i r hi hlv b hb=>?_,fun i r hi hex b hb=>?_,fun i j ri rj hij hi hj he hlv b hb hb'=>?_⟩,hs.below,Qa7 hb hs.pre (Q0g c4)⟩
  ·obtain ⟨e0,he0,rfl⟩:=List.mem_map.1 he
   obtain ⟨k1,k2,k3⟩:=hs.fr e0 he0
   exact ⟨k1,fun hg=>by rw [k2 hg];exact (Zz hτ (s1 _ he0)).symm,k3⟩
  ·obtain ⟨p,x,hp,hx,rfl⟩:=hpk i r hi
   rw [Q1b ε π hp]
   have hok:=hs.regs.reg p x hx
   exact RegOk.reren hτ (List.all_eq_true.1 s2 x (jq hx)) (fun hex b hb=>hs.regs.lim p x hx hex b hb) hok
  ·obtain ⟨p,x,hp,hx,rfl⟩:=hpk i r hi
   rw [Y9 ε π hp] at hb
   exact hs.regs.lt p x hx (by rw [Q02] at hlv;exact hlv) b hb
  ·obtain ⟨p,x,hp,hx,rfl⟩:=hpk i r hi
   rw [Y9 ε π hp] at hb
   exact hs.regs.lim p x hx (by rw [Q01] at hex;exact hex) b hb
  ·obtain ⟨p,x,hp,hx,rfl⟩:=hpk i ri hi
   obtain ⟨q,y,hq,hy,rfl⟩:=hpk j rj hj
   rw [Y9 ε π hp] at hb
   rw [Y9 ε π hq] at hb'
   have hpq:p≠q:=fun e=>by subst e;exact Q38 c3 hij hp hq
   exact hs.regs.sep p q x y hpq hx hy (by rw [Q01] at he;exact he) (by rw [Q02] at hlv;exact hlv) b hb hb'
 ·cases h
def canonP (n0:Nat) (st:St):St:=match permSt n0 (ordR n0 st) st with
 | some st'=>canon st'
 | none=>canon st
def kap:Option Nat→St→St
 | none=>canon
 | some n0=>canonP n0
theorem Qkl {b:Base} {o:Option Nat} (ho:∀ n,o=some n→b.e.length=n) {st:St} {a:Act} {w:World} (h:Sat b st a w):Sat b (kap o st) a w:=by
 cases o with
 | none=>exact Q3h h
 | some n =>
   show Sat b (canonP n st) a w
   unfold canonP
   split
   ·rename_i st' hst
    exact Q3h (Qhy (ho n rfl) hst h)
   ·exact Q3h h
theorem Q7c {P:Program} {b:Base} {Q:Exit→Act→World→Prop} {k:List K} {o:Option Nat} (ho:∀ n,o=some n→b.e.length=n) {st:St} (h:Run P b Q k (kap o st)):Run P b Q k st:=fun a w hs=>h a w (Qkl ho hs)
def mixEff (P:Program) (all:List Oper) (st:St) (i:Nat):Option (St×List Prop):=match nth all i with
 | none=>none
 | some o=>match guardOf all st o with
   | .run []=>match effOp P st o,effCalm P (calmAt all i o) st o with
     | some (st',sv,vc),some vc'=>(putSt st' o.dst [] sv).map (·,vc'++vc)
     | _,_=>match callOf st [] o,pureOp P st [] o with
       | none,some (sv,vc)=>(putSt st o.dst [] sv).map (·,vc)
       | _,_=>none
   | .skip=>(putSt st o.dst [] .u).map (·,[])
   | _=>none
section
variable {P:Program} {b:Base} {Q:Exit→Act→World→Prop} {k:List K} {all:List Oper} {listed:List Bool} {st st':St} {vc:List Prop} {m i:Nat}
theorem Qkm (hfp:findPure P all listed st 0 all=some (i,st',vc)) (hv:All vc) (h:Run P b Q (.mix all (setL listed i) m::k) st'):Run P b Q (.mix all listed (m+1)::k) st:=fun a w ⟨ε,hs⟩ hsel=>by
 obtain ⟨o,hoi,htp⟩:=Jd (fun k=>by simp) hfp
 exact Q16 hs hsel hoi htp hv (fun v hs'=>h _ w ⟨ε,hs'⟩ hsel)
theorem Qn1 (he:mixEff P all st i=some (st',vc)) (hv:All vc) (h:Run P b Q (.mix all (setL listed i) m::k) st'):Run P b Q (.mixAt all listed m i::k) st:=fun a w ⟨ε,hs⟩ hsel=>by
 unfold mixEff at he
 split at he
 ·cases he
 ·rename_i o hoi
  rw [Qo] at hoi
  have hoi':all.toArray[i]?=some o:=by simpa using hoi
  obtain ⟨g1,g2⟩:=Z5 hs (ops:=all) (o:=o)
  split at he
  ·rename_i hgd
   have hw:=(g1 _ hgd).2 (gHolds_nil a)
   unfold wpOpR
   simp only [hoi',hw,if_true]
   split at he
   ·rename_i st1 sv vc1 vc2 h1 h2
    obtain ⟨st2,hput,he2⟩:=map_nil he
    cases he2
    exact Q8l (b:=b) hs h1 h2 hv.right hv.left (fun v w' ε' hve hs'=>h _ w' ⟨ε',Qg hs' hput (fun _=>hve) (fun hn=>absurd (gHolds_nil _) hn)⟩ hsel)
   ·split at he
    ·rename_i sv vc1 hco hp
     obtain ⟨st2,hput,he2⟩:=map_nil he
     cases he2
     unfold stepR
     rw [Zj hs (gHolds_nil a) hp hv]
     exact ⟨fun _=>⟨rfl,rfl,rfl,jm _,fun _ _=>rfl⟩,h _ w ⟨ε,Qg hs hput (fun _=>rfl) (fun hn=>absurd (gHolds_nil _) hn)⟩ hsel⟩
    ·cases he
  ·rename_i hgd
   obtain ⟨st2,hput,he2⟩:=map_nil he
   cases he2
   have hw:=g2 hgd
   unfold wpOpR
   simp only [hoi',hw,jY,if_false]
   exact h _ w ⟨ε,Qg hs hput (fun _=>rfl) (fun _=>rfl)⟩ hsel
  ·cases he
theorem Qn2 (hne:readyL all listed≠[]) (h:∀ i∈readyL all listed,Run P b Q (.mixAt all listed m i::k) st):Run P b Q (.mix all listed (m+1)::k) st:=fun a w hs hsel=>by
 refine ⟨fun h0=>?_,fun j hj=>?_⟩
 ·cases hl:readyL all listed with
  | nil=>exact absurd hl hne
  | cons i l =>
    have hi:i∈readyL all listed:=by rw [hl];exact .head _
    have:=Z4.1 (List.mem_filter.1 hi).2
    rw [h0] at this;cases this
 ·have hq:=h j (Q20 hj) a w hs hsel
  rw [← Yb]
  exact hq
theorem Qkn (hr:readyL all listed=[]) (h:Run P b Q k st):Run P b Q (.mix all listed m::k) st:=fun a w hs hsel=>by
 have hr':=Q61 hr
 have hq:=h a w hs
 cases m with
 | zero=>exact ⟨hr',hq⟩
 | succ n=>exact ⟨fun _=>hq,fun i hi=>by rw [hr'] at hi;cases hi⟩
end
abbrev Nd:=List Bool×St
abbrev Ask:=List (St×St)×List (List Prop)
def beqLB:List Bool→List Bool→Bool
 | [],[]=>true
 | x::r,y::s=>beqB x y&&beqLB r s
 | _,_=>false
theorem Qaf:∀ {a b:List Bool},beqLB a b=true→a=b
 | [],[],_=>rfl
 | x::r,y::s,h=>by
   simp only [beqLB,je] at h
   rw [Zh.1 h.1,Qaf h.2]
 | [],_::_,h=>by cases h
 | _::_,[],h=>by cases h
def findNd (l:List Bool):List Nd→Option St
 | []=>none
 | x::r=>if beqLB x.1 l then some x.2 else findNd l r
theorem Q6e {l:List Bool} {s:St}:∀ {T:List Nd},findNd l T=some s→(l,s)∈T
 | [],h=>by cases h
 | x::r,h=>by
   simp only [findNd] at h
   split at h
   ·rename_i hb
    cases h
    rw [← Qaf hb]
    exact .head _
   ·exact .tail _ (Q6e h)
def addNd (x:Nd) (T:List Nd) (q:Ask):List Nd×Ask:=match findNd x.1 T with
 | some s=>(T,(s,x.2)::q.1,q.2)
 | none=>(T++[x],q)
def addAll (P:Program) (o:Option Nat) (all:List Oper) (nd:Nd):List Nat→List Nd→Ask→Option (List Nd×Ask)
 | [],T,q=>some (T,q)
 | i::r,T,q=>match mixEff P all nd.2 i with
   | some (st',vc)=>addAll P o all nd r (addNd (setL nd.1 i,kap o st') T (q.1,vc::q.2)).1 (addNd (setL nd.1 i,kap o st') T (q.1,vc::q.2)).2
   | none=>none
def expand (P:Program) (o:Option Nat) (all:List Oper) (nd:Nd) (T:List Nd) (q:Ask):Option (List Nd×Ask):=match findPure P all nd.1 nd.2 0 all with
 | some (i,st',vc)=>some (addNd (setL nd.1 i,kap o st') T (q.1,vc::q.2))
 | none=>match readyL all nd.1 with
   | []=>none
   | i::r=>addAll P o all nd (i::r) T q
def level (P:Program) (o:Option Nat) (all:List Oper):List Nd→List Nd→Ask→Option (List Nd×Ask)
 | [],T,q=>some (T,q)
 | nd::r,T,q=>match expand P o all nd T q with
   | some (T',q')=>level P o all r T' q'
   | none=>none
def explore (P:Program) (o:Option Nat) (all:List Oper):Nat→List Nd→Ask→Option (St×Ask)
 | 0,nds,q=>match nds with
   | [nd]=>match readyL all nd.1 with
     | []=>some (nd.2,q)
     | _=>none
   | _=>none
 | m+1,nds,q=>match level P o all nds [] q with
   | some (T,q')=>explore P o all m T q'
   | none=>none
def AskOk (q:Ask):Prop:=(∀ p∈q.1,p.1=p.2)∧∀ v∈q.2,All v
def AskLe (q r:Ask):Prop:=(∀ p∈q.1,p∈r.1)∧∀ v∈q.2,v∈r.2
theorem AskLe.refl (q:Ask):AskLe q q:=⟨fun _ h=>h,fun _ h=>h⟩
theorem AskLe.trans {q r s:Ask} (h:AskLe q r) (h':AskLe r s):AskLe q s:=⟨fun p hp=>h'.1 p (h.1 p hp),fun v hv=>h'.2 v (h.2 v hv)⟩
theorem AskOk.le {q r:Ask} (h:AskLe q r) (hr:AskOk r):AskOk q:=⟨fun p hp=>hr.1 p (h.1 p hp),fun v hv=>hr.2 v (h.2 v hv)⟩
theorem Q6f (x:Nd) (T:List Nd) (q:Ask):AskLe q (addNd x T q).2∧(∀ y∈T,y∈(addNd x T q).1)∧(AskOk (addNd x T q).2→x∈(addNd x T q).1):=by
 unfold addNd
 split
 ·rename_i s hs
  refine ⟨⟨fun p hp=>.tail _ hp,fun v hv=>hv⟩,fun y hy=>hy,fun hq=>?_⟩
  have:=hq.1 (s,x.2) (.head _)
  simp only at this
  have hm:=Q6e hs
  rw [this] at hm
  exact hm
 ·exact ⟨AskLe.refl q,fun y hy=>jT _ hy,fun _=>List.mem_append_right _ (.head _)⟩
section
variable {P:Program} {b:Base} {Q:Exit→Act→World→Prop} {k:List K} {all:List Oper} {m:Nat} {o:Option Nat}
def NdRun (P:Program) (b:Base) (Q:Exit→Act→World→Prop) (k:List K) (all:List Oper) (m:Nat) (nd:Nd):Prop:=Run P b Q (.mix all nd.1 m::k) nd.2
theorem Q4r (ho:∀ n,o=some n→b.e.length=n) {nd:Nd}:∀ {l:List Nat} {T T':List Nd} {q q':Ask},addAll P o all nd l T q=some (T',q') →
 AskLe q q'∧(∀ y∈T,y∈T')∧(AskOk q'→(∀ y∈T',NdRun P b Q k all m y)→∀ i∈l,Run P b Q (.mixAt all nd.1 m i::k) nd.2)
 | [],T,T',q,q',h=>by
   cases h
   exact ⟨AskLe.refl _,fun _ h=>h,fun _ _ i hi=>by cases hi⟩
 | i::r,T,T',q,q',h=>by
   simp only [addAll] at h
   split at h
   ·rename_i st' vc he
    obtain ⟨h1,h2,h3⟩:=Q4r ho h
    obtain ⟨g1,g2,g3⟩:=Q6f (setL nd.1 i,kap o st') T (q.1,vc::q.2)
    refine ⟨AskLe.trans (r:=(q.1,vc::q.2)) ⟨fun p hp=>hp,fun v hv=>.tail _ hv⟩ (g1.trans h1),fun y hy=>h2 y (g2 y hy),fun hq hT j hj=>?_⟩
    cases hj with
    | head =>
      have hx:=h2 _ (g3 (AskOk.le h1 hq))
      have hvc:All vc:=(AskOk.le (g1.trans h1) hq).2 vc (.head _)
      exact Qn1 he hvc (Q7c ho (hT _ hx))
    | tail _ hj=>exact h3 hq hT j hj
   ·cases h
theorem Qca (ho:∀ n,o=some n→b.e.length=n) {nd:Nd} {T T':List Nd} {q q':Ask} (h:expand P o all nd T q=some (T',q')) :
 AskLe q q'∧(∀ y∈T,y∈T')∧(AskOk q'→(∀ y∈T',NdRun P b Q k all m y)→NdRun P b Q k all (m+1) nd):=by
 unfold expand at h
 split at h
 ·rename_i i st' vc he
  obtain ⟨g1,g2,g3⟩:=Q6f (setL nd.1 i,kap o st') T (q.1,vc::q.2)
  have e:=Option.some.inj h
  rw [e] at g1 g2 g3
  refine ⟨AskLe.trans (r:=(q.1,vc::q.2)) ⟨fun p hp=>hp,fun v hv=>.tail _ hv⟩ g1,g2,fun hq hT=>?_⟩
  have hvc:All vc:=(AskOk.le g1 hq).2 vc (.head _)
  exact Qkm he hvc (Q7c ho (hT _ (g3 hq)))
 ·split at h
  ·cases h
  ·rename_i i r hr
   obtain ⟨h1,h2,h3⟩:=Q4r (b:=b) (Q:=Q) (k:=k) (m:=m) ho h
   refine ⟨h1,h2,fun hq hT=>Qn2 (by rw [hr];simp) (fun j hj=>h3 hq hT j (by rw [← hr];exact hj))⟩
theorem Q6g (ho:∀ n,o=some n→b.e.length=n):∀ {nds:List Nd} {T T':List Nd} {q q':Ask},level P o all nds T q=some (T',q') →
 AskLe q q'∧(∀ y∈T,y∈T')∧(AskOk q'→(∀ y∈T',NdRun P b Q k all m y)→∀ nd∈nds,NdRun P b Q k all (m+1) nd)
 | [],T,T',q,q',h=>by
   cases h
   exact ⟨AskLe.refl _,fun _ h=>h,fun _ _ nd hn=>by cases hn⟩
 | nd::r,T,T',q,q',h=>by
   simp only [level] at h
   split at h
   ·rename_i T1 q1 he
    obtain ⟨h1,h2,h3⟩:=Q6g ho h
    obtain ⟨g1,g2,g3⟩:=Qca (b:=b) (Q:=Q) (k:=k) (m:=m) ho he
    refine ⟨g1.trans h1,fun y hy=>h2 y (g2 y hy),fun hq hT x hx=>?_⟩
    cases hx with
    | head=>exact g3 (AskOk.le h1 hq) (fun y hy=>hT y (h2 y hy))
    | tail _ hx=>exact h3 hq hT x hx
   ·cases h
theorem Q3i (ho:∀ n,o=some n→b.e.length=n):∀ {m:Nat} {nds:List Nd} {q:Ask} {st':St} {q':Ask},explore P o all m nds q=some (st',q') →
 AskLe q q'∧(AskOk q'→Run P b Q k st'→∀ nd∈nds,NdRun P b Q k all m nd)
 | 0,nds,q,st',q',h=>by
   simp only [explore] at h
   split at h
   ·rename_i nd
    split at h
    ·rename_i hr
     cases h
     refine ⟨AskLe.refl _,fun _ hq x hx=>?_⟩
     cases List.mem_singleton.1 hx
     exact Qkn hr hq
    ·cases h
   ·cases h
 | m+1,nds,q,st',q',h=>by
   simp only [explore] at h
   split at h
   ·rename_i T q1 hl
    obtain ⟨h1,h2⟩:=Q3i ho h
    obtain ⟨g1,g2,g3⟩:=Q6g (b:=b) (Q:=Q) (k:=k) (m:=m) ho hl
    exact ⟨g1.trans h1,fun hq hr=>g3 (AskOk.le h1 hq) (h2 hq hr)⟩
   ·cases h
end
def Cfg.dag (P:Program) (o:Option Nat) (c:Cfg):Option (St×Ask):=match (seg P 5000 c.k c.st).2 with
 | .any all listed n l _ st=>if l.all (readyI all listed) then explore P o all (n+1) [(listed,kap o st)] ([],[]) else none
 | _=>none
def Cfg.dagK (P:Program) (o:Option Nat) (c:Cfg):Cfg:=match (seg P 5000 c.k c.st).2 with
 | .any all listed n _ k st=>match explore P o all (n+1) [(listed,kap o st)] ([],[]) with
   | some x=>⟨k,x.1⟩
   | none=>noCfg
 | _=>noCfg
def lG (o:Option (St×Ask)):Option (List St×List (List Prop)):=match o with
 | some x=>some (x.2.1.map Prod.fst,x.2.2)
 | none=>none
def rG (V:List (List Prop)) (ix:List Nat) (o:Option (St×Ask)):Option (List St×List (List Prop)):=match o with
 | some x=>some (x.2.1.map Prod.snd,ix.map fun i=>V.getD i [False])
 | none=>some ([],[])
def flatP:List (List Prop)→List Prop
 | []=>[]
 | x::r=>x++flatP r
theorem Qfq {V:List (List Prop)} {v:List Prop} (h:v∈V) {p:Prop} (hp:p∈v):p∈flatP V:=by
 induction V with
 | nil=>cases h
 | cons x r ih =>
   cases h with
   | head=>exact jT _ hp
   | tail _ h=>exact List.mem_append_right _ (ih h)
section
variable {P:Program} [hw:Wide P] {fn:Func} {n0:Nat} {U:Tgt} {c:Cfg}
theorem RunF.dag {n:Nat} {vc:List Prop} (o:Option Nat) (ho:o=none∨o=some n0) (V:List (List Prop)) (ix:List Nat) (h:see P fn c=(vc,.any n)) (hv:Conj vc) (hd:lG (c.dag P o)=rG V ix (c.dag P o)) (hix:ix.all (fun i=>kD i V.length)=true) (hV:Conj (flatP V)) (next:RunF P fn n0 U (c.dagK P o)):RunF P fn n0 U c:=by
 unfold RunF at next ⊢
 intro b hb
 have ho':∀ n,o=some n→b.e.length=n:=fun n e=>by
  rcases ho with h | h
  ·rw [h] at e;cases e
  ·rw [h] at e;cases e;exact hb
 unfold see at h
 unfold Cfg.dag at hd
 unfold Cfg.dagK at next
 generalize hg:seg P 5000 c.k c.st=r at h hd next
 obtain ⟨vc',out⟩:=r
 cases out<;>simp only [Prod.mk.injEq,reduceCtorEq,and_false] at h
 case any all listed n' l k st =>
  simp only [View.any.injEq] at h
  obtain ⟨rfl,rfl⟩:=h
  simp only at hd next
  cases hl:l.all (readyI all listed) with
  | false=>rw [hl] at hd;cases hd
  | true =>
  rw [hl] at hd
  simp only [if_true] at hd
  cases hx:explore P o all (n'+1) [(listed,kap o st)] ([],[]) with
  | none=>rw [hx] at hd;cases hd
  | some x =>
    obtain ⟨stf,q⟩:=x
    rw [hx] at hd next
    simp only [lG,rG,Option.some.injEq,Prod.mk.injEq] at hd
    obtain ⟨hd1,hd2⟩:=hd
    have hq:AskOk q:=by
     refine ⟨fun p hp=>?_,fun v hvm=>?_⟩
     ·obtain ⟨i,hi⟩:=List.mem_iff_getElem?.1 hp
      have e:(q.1.map Prod.fst)[i]?=(q.1.map Prod.snd)[i]?:=by rw [hd1]
      simpa only [jk,hi,jM,Option.some.injEq] using e
     ·rw [hd2] at hvm
      obtain ⟨i,hi,rfl⟩:=List.mem_map.1 hvm
      have hlt:=jP (Nat.lt_of_succ_le (ju (List.all_eq_true.1 hix i hi))) (jm _)
      intro p hp
      rw [jb,jc hlt] at hp
      exact hV.all p (Qfq (jQ hlt) hp)
    obtain ⟨_,h2⟩:=Q3i (b:=b) (Q:=U b) (k:=k) ho' hx
    have hrun:=h2 hq (next b hb) _ (.head _)
    refine Qn hw.mixed 5000 _ _ _ _ hg hv.toAll (fun i hi a w hs hsel=>?_)
    have:=(Q7c ho' (show Run P b (U b) (.mix all listed (n'+1)::k) (kap o st) from hrun) a w hs hsel).2 i (Z4.1 (List.all_eq_true.1 hl i hi))
    rw [← Yb] at this
    exact this
 all_goals first | (unfold callV at h;split at h<;>simp at h;done) | (split at h<;>simp at h)
theorem Qk3 (n:Nat) (V:List (List Prop)) (ix:List Nat) (next:RunF P fn n0 U (c.dagK P (some n0))) (hV:Conj (flatP V):=by exact trivial) (vc:List Prop:=[]) (hv:Conj vc:=by exact trivial)
 (h:see P fn c=(vc,.any n):=by kernel_rfl) (hd:lG (c.dag P (some n0))=rG V ix (c.dag P (some n0)):=by kernel_rfl) (hix:ix.all (fun i=>Nat.blt i V.length)=true:=by kernel_rfl):RunF P fn n0 U c:=RunF.dag (some n0) (.inr rfl) V ix h hv hd hix hV next
end
def View.gf:View→Nat
 | .gcall f _=>f
 | _=>0
def View.ga:View→List SV
 | .gcall _ a=>a
 | _=>[]
theorem Q05 {P:Program} [hw:Wide P] {fn:Func} {n0:Nat} {U:Tgt} {c:Cfg} (x:Bool) (ht:x=true→RunF P fn n0 U (c.gthn P true)) (hf:x=false→RunF P fn n0 U (c.gthn P false)) (vc:List Prop:=[]) (hv:Conj vc:=by exact trivial)
 (h:see P fn c=(vc,.gcall (see P fn c).2.gf (see P fn c).2.ga):=by kernel_rfl) (hx:c.gx P=some x:=by kernel_rfl):RunF P fn n0 U c:=RunF.guard h hv hx ht hf
attribute [irreducible] Cfg.dag Cfg.dagK lG rG
def Ext.Tab (X:Ext) (y:Value) (size n:Nat) (f:Nat→Nat→TC):Prop:=RdRow X.w0 X.ro y size n (fun i j u=>RdC X.w0 X.ro (f i j) u)
def Ext.Into (X X':Ext):Prop:=∀ y size n f,X.Tab y size n f→X'.Tab y size n f
theorem Ext.Tab.nil (X:Ext) (size:Nat) (f:Nat→Nat→TC):X.Tab (.slice none 0 0) size 0 f:=⟨none,0,rfl,jm _,kb _,fun _ h _=>W167,fun h=>absurd h W31⟩
theorem RdRow.keep {w w':World} {fp fp':Nat→Prop} {h:Value} {size n:Nat} {ok ok':Nat→Nat→Value→Prop} (hr:RdRow w fp h size n ok) (hb:∀ b,fp b→fp' b∧b<w'.heap.size∧w'.heap[b]?=w.heap[b]?)
 (hok:∀ i j u,i<n→j<size→ok i j u→ok' i j u):RdRow w' fp' h size n ok':=by
 obtain ⟨A,c,rfl,h1,h2,ha,hc⟩:=hr
 refine ⟨A,c,rfl,h1,h2,fun a e hp=>⟨(hb _ (ha a e hp).2).2.1,(hb _ (ha a e hp).2).1⟩,fun hn=>?_⟩
 obtain ⟨ad,rfl,hc2⟩:=hc hn
 refine ⟨ad,rfl,fun i j hi hj=>?_⟩
 obtain ⟨u,h3,h4⟩:=hc2 i j hi hj
 refine ⟨u,?_,hok i j u hi hj h4⟩
 rw [World.cell?_of_block (w:=w)]
 ·exact h3
 ·rw [G3];exact (hb _ (ha ad rfl hn).2).2.2
theorem RdC.keep {w w':World} {fp fp':Nat→Prop} (hb:∀ b,fp b→fp' b∧b<w'.heap.size∧w'.heap[b]?=w.heap[b]?):∀ (t:TC) {v:Value},RdC w fp t v→RdC w' fp' t v
 | .val x,v,h=>h
 | .any,v,h=>h
 | .sub ty size n f,v,h=>RdRow.keep (w':=w') h hb (fun i j u _ _ hu=>RdC.keep hb (f i j) hu)
theorem Ext.Tab.keep {X:Ext} {w:World} {fp:Nat→Prop} (hb:∀ b,X.ro b→fp b∧b<w.heap.size∧w.heap[b]?=X.w0.heap[b]?) {y:Value} {size n:Nat} {f:Nat→Nat→TC} (h:X.Tab y size n f) :
 RdRow w fp y size n (fun i j u=>RdC w fp (f i j) u):=RdRow.keep h hb (fun i j u _ _ hu=>RdC.keep hb (f i j) hu)
def unH (r:Nat) (y:Value):SV→SV
 | .c (.h q)=>match jr q r with
   | true=>.c (.v y)
   | false=>.c (.h q)
 | s=>s
def unHs (r:Nat) (y:Value) (e:En):En:=⟨e.slot,e.g,unH r y e.sv⟩
theorem Qko {ε:Env} {r:Nat} {y:Value} (h:ε.at_ r=y) (s:SV):(unH r y s).den ε=s.den ε:=by
 unfold unH
 split
 ·split
  ·rename_i q hq
   have:=jd hq
   subst this
   exact h.symm
  ·rfl
 ·rfl
def svsAt (s:Nat):List En→List SV
 | []=>[]
 | e::r=>match jr e.slot s with
   | true=>e.sv::svsAt s r
   | false=>svsAt s r
def putH (s:Nat) (new:SV) (e:En):En:=match jr e.slot s with
 | true=>⟨e.slot,e.g,new⟩
 | false=>e
theorem Q3j {s:Nat}:∀ {l:List En} {e:En},e∈l→jr e.slot s=true→e.sv∈svsAt s l
 | x::r,e,h,he=>by
   rcases List.mem_cons.1 h with rfl | h
   ·simp only [svsAt,he];exact .head _
   ·simp only [svsAt]
    split
    ·exact .tail _ (Q3j h he)
    ·exact Q3j h he
def tabinSt (st:St) (r t:Nat) (X':Ext) (y:Value):St:={ st with fr:=st.fr.map (unHs r y),rg:=(st.rg.set r .dead).set t (.froz X') }
def taboutSt (st:St) (s size n:Nat) (f:Nat→Nat→TC):St:={ st with fr:=st.fr.map (putH s (.c (.h st.rg.length))),rg:=st.rg++[.row size n f none] }
def tabnewSt (st:St) (X:Ext):St:={ st with rg:=st.rg++[.froz X] }
def Cfg.hereJ (P:Program) (c:Cfg):Option Cfg:=match (seg P 5000 c.k c.st).2 with
 | .jump J st=>some ⟨[.jmp J],st⟩
 | _=>none
section
variable {P:Program} {fn:Func} {n0:Nat} {U:Tgt} {c:Cfg}
theorem RunF.hereJ [hw:Wide P] {vc:List Prop} (h:(seg P 5000 c.k c.st).1=vc) (hj:(c.hereJ P).isSome=true) (hv:Conj vc) (next:RunF P fn n0 U (orNo (c.hereJ P))):RunF P fn n0 U c:=by
 unfold RunF at next ⊢
 intro b hb
 unfold Cfg.hereJ at next hj
 generalize hg:seg P 5000 c.k c.st=rr at h hj next
 obtain ⟨vc',out⟩:=rr
 cases out<;>first | (cases hj;done) | skip
 case jump J' st =>
  cases h
  exact Qn hw.mixed 5000 _ _ _ _ hg hv.toAll (fun a w hsat=>next b hb a w hsat)
theorem RunF.cutn [hw:Wide P] {X:Type} (m:Nat) (I:X→St) (J:X→Prop) (h1:RunF P fn n0 U ⟨cutK (AtSt I J) m (flatK 200 (openK 50 c.k)),c.st⟩) (h2:∀ x,J x→RunF P fn n0 U ⟨(flatK 200 (openK 50 c.k)).drop m,I x⟩):RunF P fn n0 U c:=by
 unfold RunF at *
 intro b hb a w hs
 exact Zs 50 _ (J0 200 _ _ _ _ (Q24 m _ (fun a w ⟨x,hx,hs⟩=>h2 x hx b hb a w hs) _ _ _ (h1 b hb a w hs)))
theorem RunF.tabnew (hsc:c.st.scp=true) (next:∀ X:Ext,RunF P fn n0 U ⟨c.k,tabnewSt c.st X⟩):RunF P fn n0 U c:=by
 unfold RunF at next ⊢
 intro b hb a w ⟨ε,hs⟩
 refine next ⟨0,0,fun _=>.u,fun _ _ _ _=>True,fun _=>False,w⟩ b hb a w ⟨ε++[⟨.slice none 0 0,fun _=>False⟩],?_⟩
 exact hs.add hsc hs.below (jm _) (fun _ _ _ _ _ _=>rfl) (fun b h=>h.elim) (fun _ b h=>h.elim) (fun h=>by cases h) (fun b h=>h.elim)
abbrev zdf (y0:Env) (y1 y2:Nat):Ent:=⟨y0.at_ y1,fun b=>y0.fp y1 b∨y0.fp y2 b⟩
theorem RunF.tabinG (r t:Nat) (T:Ext→Value→St) (Y:Value→Value) (V:Value→SV→SV)
 (hT:∀ X' y,T X' y={ c.st with fr:=c.st.fr.map (fun e=>⟨e.slot,e.g,V y e.sv⟩),rg:=(c.st.rg.set r .dead).set t (.froz X') })
 (hV:∀ (ε:Env) y s,ε.at_ r=y→(V (Y y) s).den ε=s.den ε) {ty size n:Nat} {f:Nat→Nat→TC} {X:Ext} (hr:nth c.st.rg r=some (.own ty size n f none)) (ht:nth c.st.rg t=some (.froz X)) (hsc:c.st.scp=true)
 (next:∀ (X':Ext) (A:Option Addr) (cp:Nat),(0<n→∃ ad,A=some ad)→X.Into X'→X'.Tab (.slice A n cp) size n f→RunF P fn n0 U ⟨c.k,T X' (Y (.slice A n cp))⟩):RunF P fn n0 U c:=by
 unfold RunF at next ⊢
 intro b hb a w ⟨ε,hs⟩
 obtain ⟨s1,s2⟩:=Qh hsc
 have hl:=hs.regs.len
 have hrr:=Q6 hr
 have htt:=Q6 ht
 have hrl:r<c.st.rg.length:=(List.getElem?_eq_some_iff.1 hrr).1
 have htl:t<c.st.rg.length:=(List.getElem?_eq_some_iff.1 htt).1
 have hrt:r≠t:=fun e=>by subst e;rw [hrr] at htt;cases htt
 have hfz:∀ b,X.ro b→ε.fp t b∧b<w.heap.size∧w.heap[b]?=X.w0.heap[b]?:=Qe hs ht
 generalize hX':(⟨X.l,X.n,X.enc,X.G,fun b=>X.ro b∨ε.fp r b,w⟩:Ext)=X'
 have hro:X'.ro=fun b=>X.ro b∨ε.fp r b:=by rw [← hX']
 have hw0:X'.w0=w:=by rw [← hX']
 have hinto:X.Into X':=fun y size n f h=>by
  have:=Ext.Tab.keep (w:=w) (fp:=X'.ro) (fun b hb=>⟨by rw [hro];exact .inl hb,(hfz b hb).2⟩) h
  unfold Ext.Tab
  rw [hw0];exact this
 have htab:X'.Tab (ε.at_ r) size n f:=by
  unfold Ext.Tab
  rw [hw0]
  have h0:RdRow w (ε.fp r) (ε.at_ r) size n (fun i j u=>RdC w (ε.fp r) (f i j) u):=Yz (Qe hs hr).1 (fun i j fp' u _ _ hf hu=>Zk (f i j) hf hu)
  refine RdRow.keep h0 (fun b hb=>⟨by rw [hro];exact .inr hb,(hs.regs.lt r _ hrr rfl b hb).1,rfl⟩) (fun i j u _ _ hu=>RdC.mono (fun b hb=>by rw [hro];exact .inr hb) (f i j) hu)
 obtain ⟨A,cp,hA,_,hA0⟩:=Zd (Qe hs hr).1
 have hA:ε.at_ r=.slice A n cp:=hA
 refine (hT _ _▸next X' A cp hA0 hinto (by rw [← hA];exact htab)) b hb a w ⟨ε.set t (zdf ε t r),?_⟩
 generalize hx:((zdf ε t r):Ent)=x
 have hxh:x.h=ε.at_ t:=by rw [← hx]
 have hxf:x.fp=fun b=>ε.fp t b∨ε.fp r b:=by rw [← hx]
 obtain ⟨atAll,hsAll⟩:=Env.set_same (ε:=ε) (r:=t) (x:=x) W31 hxh
 have entT:Env.ent (ε.set t x) t=x:=Zl W181
 have entO:∀ j,j≠t→Env.ent (ε.set t x) j=ε.ent j:=fun j hj=>by
  unfold Env.ent;rw [jb,jb,jC (Ne.symm hj)]
 have cls:∀ (j:Nat) (s:Reg),((c.st.rg.set r .dead).set t (.froz X'))[j]?=some s→(j=t∧s=.froz X')∨(j=r∧s=.dead)∨(j≠t∧j≠r∧c.st.rg[j]?=some s):=fun j s hj=>by
  by_cases hjt:j=t
  ·subst hjt
   rw [jE (by simpa using htl)] at hj
   cases hj;exact .inl ⟨rfl,rfl⟩
  ·rw [jC (Ne.symm hjt)] at hj
   by_cases hjr:j=r
   ·subst hjr
    rw [jE hrl] at hj
    cases hj;exact .inr (.inl ⟨rfl,rfl⟩)
   ·rw [jC (Ne.symm hjr)] at hj
    exact .inr (.inr ⟨hjt,hjr,hj⟩)
 have fpO:∀ j,j≠t→∀ b,Env.fp (ε.set t x) j b→ε.fp j b:=fun j hj b hb=>by unfold Env.fp at hb ⊢;rwa [entO j hj] at hb
 have fpT:∀ b,Env.fp (ε.set t x) t b→ε.fp t b∨ε.fp r b:=fun b hb=>by unfold Env.fp at hb;rw [entT,hxf] at hb;exact hb
 refine ⟨hs.defs,hs.size,fun e he=>?_,⟨by simp [hl],fun j s hj=>?_,fun j s hj hl' b hb=>?_,fun j s hj he b hb=>?_,fun i j ri rj hij hi hj he hl' b hb1 hb2=>?_⟩,hs.below,by rw [hsAll];exact hs.pre⟩
 ·obtain ⟨e0,he0,rfl⟩:=List.mem_map.1 he
  have h0:=(hs.fr e0 he0).same (s1 e0 he0) (fun i _=>atAll i)
  refine ⟨h0.1,fun hg=>?_,h0.2.2⟩
  show get a e0.slot=(V (Y (.slice A n cp)) e0.sv).den _
  rw [hV _ _ _ ((atAll r).trans hA)]
  exact h0.2.1 hg
 ·rcases cls j s hj with ⟨rfl,rfl⟩ | ⟨rfl,rfl⟩ | ⟨k1,k2,k3⟩
  ·rw [entT]
   intro b hb
   rw [hro] at hb
   rw [hxf,hw0]
   rcases hb with hb | hb
   ·exact ⟨.inl (hfz b hb).1,(hfz b hb).2.1,rfl⟩
   ·exact ⟨.inr hb,(hs.regs.lt r _ hrr rfl b hb).1,rfl⟩
  ·trivial
  ·rw [entO j k1]
   exact (hs.regs.reg j s k3).same (List.all_eq_true.1 s2 s (jq k3)) (fun i _=>atAll i)
 ·rcases cls j s hj with ⟨rfl,rfl⟩ | ⟨rfl,rfl⟩ | ⟨k1,k2,k3⟩
  ·rcases fpT b hb with h | h
   ·exact hs.regs.lt j _ htt rfl b h
   ·exact hs.regs.lt r _ hrr rfl b h
  ·cases hl'
  ·exact hs.regs.lt j s k3 hl' b (fpO j k1 b hb)
 ·rcases cls j s hj with ⟨rfl,rfl⟩ | ⟨rfl,rfl⟩ | ⟨k1,k2,k3⟩
  ·cases he
  ·cases he
  ·exact hs.regs.lim j s k3 he b (fpO j k1 b hb)
 ·rcases cls i ri hi with ⟨rfl,rfl⟩ | ⟨rfl,rfl⟩ | ⟨k1,k2,k3⟩
  ·cases he
  ·cases he
  ·have hb0:ε.fp i b:=fpO i k1 b hb1
   rcases cls j rj hj with ⟨e1,e2⟩ | ⟨e1,e2⟩ | ⟨m1,m2,m3⟩
   ·subst e1 e2
    rcases fpT b hb2 with h | h
    ·exact hs.regs.sep i j ri _ k1 k3 htt he rfl b hb0 h
    ·exact hs.regs.sep i r ri _ k2 k3 hrr he rfl b hb0 h
   ·subst e2;cases hl'
   ·exact hs.regs.sep i j ri rj hij k3 m3 he hl' b hb0 (fpO j m1 b hb2)
theorem RunF.tabin (r t:Nat) {ty size n:Nat} {f:Nat→Nat→TC} {X:Ext} (hr:nth c.st.rg r=some (.own ty size n f none)) (ht:nth c.st.rg t=some (.froz X)) (hsc:c.st.scp=true)
 (next:∀ (X':Ext) (A:Option Addr) (cp:Nat),X.Into X'→X'.Tab (.slice A n cp) size n f→RunF P fn n0 U ⟨c.k,tabinSt c.st r t X' (.slice A n cp)⟩):RunF P fn n0 U c:=
 RunF.tabinG r t (fun X' y=>tabinSt c.st r t X' y) id (unH r) (fun _ _=>rfl) (fun _ _ s h=>Qko h s) hr ht hsc (fun X' A cp _=>next X' A cp)
theorem Qkp {b:Base} {st:St} {ε:Env} {a:Act} {w:World} (hs:SatE b st ε a w) (hsc:st.scp=true) {t:Nat} {X:Ext} (ht:nth st.rg t=some (.froz X)) {y:Value} {size n:Nat} {f:Nat→Nat→TC} (h:X.Tab y size n f) :
 SatE b { st with rg:=st.rg++[.row size n f none] } (ε++[⟨y,ε.fp t⟩]) a w:=by
 have htt:=Q6 ht
 have hfz:∀ b,X.ro b→ε.fp t b∧b<w.heap.size∧w.heap[b]?=X.w0.heap[b]?:=Qe hs ht
 refine hs.add hsc hs.below (jm _) (fun _ _ _ _ _ _=>rfl) ⟨Ext.Tab.keep hfz h,trivial⟩ (fun _ b hb=>hs.regs.lt t _ htt rfl b hb) (fun h=>by cases h) (fun b hb _ i ri hi hl he hb'=>?_)
 rcases he with he | he
 ·cases he
 ·by_cases hit:i=t
  ·subst hit;rw [htt] at hi;cases hi;cases he
  ·exact hs.regs.sep i t ri _ hit hi htt he rfl b hb' hb
theorem RunF.tabout (s t:Nat) {X:Ext} {y:Value} {size n:Nat} {f:Nat→Nat→TC} (hs0:svsAt s c.st.fr=[.c (.v y)]) (ht:nth c.st.rg t=some (.froz X)) (hsc:c.st.scp=true) (h:X.Tab y size n f)
 (next:RunF P fn n0 U ⟨c.k,taboutSt c.st s size n f⟩):RunF P fn n0 U c:=by
 unfold RunF at next ⊢
 intro b hb a w ⟨ε,hs⟩
 have h1:=Qkp hs hsc ht h
 refine next b hb a w ⟨_,h1.defs,h1.size,fun e he=>?_,h1.regs,h1.below,h1.pre⟩
 obtain ⟨e0,he0,rfl⟩:=List.mem_map.1 he
 have h0:=h1.fr e0 he0
 unfold putH
 split
 ·rename_i hb
  refine ⟨h0.1,fun hg=>?_,h0.2.2⟩
  have hm:=Q3j he0 hb
  rw [hs0,jI] at hm
  rw [h0.2.1 hg,hm]
  show y=Env.at_ (ε++[⟨y,ε.fp t⟩]) c.st.rg.length
  rw [← hs.regs.len,Yk]
 ·exact h0
end
def mopenSt (st:St) (r:Nat) (T:MT) (ty sz n:Nat) (f:KA T.K→Nat×(Nat→Nat→TC)) (a:KA T.K):St:={ st with rg:=st.rg.set r (.mpr T ty sz n f (some (a,st.rg.length,none)))++[.own ty sz (f a).1 (f a).2 none] }
def mcloseSt (st:St) (r q:Nat) (T:MT) (ty sz n:Nat) (f:KA T.K→Nat×(Nat→Nat→TC)) (a:KA T.K) (m:Nat) (g:Nat→Nat→TC):St:={ st with rg:=(st.rg.set q .dead).set r (.mpr T ty sz n (fun p=>if p=a then (m,g) else f p) none) }
def unT (r q:Nat):SV→SV
 | .c (.hs p 0 k)=>match jr p r with
   | true=>.c (.h q)
   | false=>.c (.hs p 0 k)
 | s=>s
theorem Qkq {ε:Env} {r q m:Nat} (hq:ε.at_ q=pieceV (ε.at_ r) 0 m) (s:SV) (h:∀ k,s=.c (.hs r 0 k)→k=m):(unT r q s).den ε=s.den ε:=by
 unfold unT
 split
 ·rename_i p k
  split
  ·rename_i hp
   have e1:=jd hp
   subst e1
   have e2:=h k rfl
   subst e2
   exact hq
  ·rfl
 ·rfl
def trimSt (st:St) (r ty size m:Nat) (f:Nat→Nat→TC):St:={ st with fr:=st.fr.map (fun e=>⟨e.slot,e.g,unT r st.rg.length e.sv⟩),rg:=st.rg.set r .dead++[.own ty size m f none] }
def trimVc (r m:Nat):List En→List Prop
 | []=>[]
 | e::l=>match e.sv with
   | .c (.hs p 0 k)=>match jr p r with
     | true=>(k=m)::trimVc r m l
     | false=>trimVc r m l
   | _=>trimVc r m l
theorem J1 {r m:Nat}:∀ {l:List En},All (trimVc r m l)→∀ e∈l,∀ k,e.sv=.c (.hs r 0 k)→k=m
 | x::l,h,e,he,k,hk=>by
   unfold trimVc at h
   rcases List.mem_cons.1 he with rfl | he
   ·rw [hk] at h
    simp only [Nat.beq_refl] at h
    exact h.head
   ·split at h
    ·split at h
     ·exact J1 h.tail e he k hk
     ·exact J1 h e he k hk
    ·exact J1 h e he k hk
theorem Q06 {α:Type} {size:Nat}:∀ {l:List (List α)} {m:Nat},(∀ x∈l,x.length=size)→(l.take m).flatten=l.flatten.take (m * size)
 | [],m,_=>by simp
 | x::r,0,_=>by simp
 | x::r,m+1,h=>by
   have hx:=h x j5
   rw [List.take_succ_cons,kw,kw,Q06 (fun y hy=>h y (jR _ hy)),show (m+1) * size=x.length+m * size by rw [hx,Nat.succ_mul,Nat.add_comm],List.take_length_add_append]
theorem Qhz {w:World} {M fp:Nat→Prop} {ty size n m:Nat} {h:Value} {ok:Nat→Nat→(Nat→Prop)→Value→Prop} (ho:OwnRow w M fp ty size n h ok) (hm:m≤n) (h0:0<n):OwnRow w M fp ty size m (pieceV h 0 m) ok:=by
 obtain ⟨els,⟨o1,ho⟩,o2,o3,o4,fps,o5,o6,o7⟩:=ho
 rcases ho with ⟨_,e⟩ | ⟨g,cap,cur,rfl,hb,hg,hnc,hcm,hsz,htk⟩
 ·omega
 have hp:pieceV (.slice (some ⟨g,0,none⟩) n cap) 0 m=.slice (some ⟨g,0,none⟩) m cap:=by simp [pieceV,Addr.add]
 rw [hp]
 have hgv:∀ i j,i<m→getV (els.take m) i j=getV els i j:=fun i j hi=>by
  unfold getV;rw [List.getElem?_take_of_lt hi]
 refine ⟨els.take m,⟨?_,.inr ⟨g,cap,cur,rfl,hb,hg,by omega,hcm,hsz,?_⟩⟩,by simp [o2];omega,fun el he=>o3 el (List.mem_of_mem_take he),o4,fps,fun i j hi hj=>?_,fun i j b hi hj=>o6 i j b W31 hj,fun i j i' j' b hi hj hi' hj'=>o7 i j i' j' b W31 hj W31 hj'⟩
 ·rw [Q06 o3,jJ,o1]
  exact kL (kr _ hm)
 ·rw [Q06 o3,← htk,List.take_take,kL (kr _ hm)]
 ·rw [hgv i j hi];exact o5 i j W31 hj
def Cfg.hereL (P:Program) (c:Cfg):Option Cfg:=match (seg P 5000 c.k c.st).2 with
 | .loop body k st=>some ⟨.code (.loop body)::k,st⟩
 | _=>none
def Cfg.hereC (P:Program) (c:Cfg):Option Cfg:=match (seg P 5000 c.k c.st).2 with
 | .call _ _ _ _ _ k0 _ st=>some ⟨k0,st⟩
 | _=>none
section
variable {P:Program} {fn:Func} {n0:Nat} {U:Tgt} {c:Cfg}
theorem RunF.hereC [hw:Wide P] {vc:List Prop} (h:(seg P 5000 c.k c.st).1=vc) (hj:(c.hereC P).isSome=true) (hv:Conj vc) (next:RunF P fn n0 U (orNo (c.hereC P))):RunF P fn n0 U c:=by
 unfold RunF at next ⊢
 intro b hb
 unfold Cfg.hereC at next hj
 generalize hg:seg P 5000 c.k c.st=rr at h hj next
 obtain ⟨vc',out⟩:=rr
 cases out<;>first | (cases hj;done) | skip
 cases h
 exact Qn hw.mixed 5000 _ _ _ _ hg hv.toAll (.inl (next b hb))
theorem RunF.hereL [hw:Wide P] {vc:List Prop} (h:see P fn c=(vc,.loop)) (hv:Conj vc) (next:RunF P fn n0 U (orNo (c.hereL P))):RunF P fn n0 U c:=by
 unfold RunF at next ⊢
 intro b hb
 unfold see at h
 unfold Cfg.hereL at next
 generalize hg:seg P 5000 c.k c.st=rr at h next
 obtain ⟨vc',out⟩:=rr
 cases out<;>simp only [Prod.mk.injEq,reduceCtorEq,and_false] at h
 case loop body k st =>
  obtain ⟨rfl,_⟩:=h
  exact Qn hw.mixed 5000 _ _ _ _ hg hv.toAll (fun a w hsat=>next b hb a w hsat)
 all_goals first | (unfold callV at h;split at h<;>simp at h;done) | (split at h<;>simp at h)
theorem RunF.trim (r m:Nat) {ty size n:Nat} {f:Nat→Nat→TC} {vc:List Prop} (hr:nth c.st.rg r=some (.own ty size n f none)) (hsc:c.st.scp=true) (hm:m≤n∧0<n) (hvc:trimVc r m c.st.fr=vc) (hv:Conj vc)
 (next:RunF P fn n0 U ⟨c.k,trimSt c.st r ty size m f⟩):RunF P fn n0 U c:=by
 unfold RunF at next ⊢
 intro b hb a w ⟨ε,hs⟩
 obtain ⟨s1,s2⟩:=Qh hsc
 have hl:=hs.regs.len
 have hrr:=Q6 hr
 have hrl:r<c.st.rg.length:=(List.getElem?_eq_some_iff.1 hrr).1
 have hown:=(Qe hs hr).1
 have hkill:SatE b { c.st with rg:=c.st.rg.set r .dead } ε a w:=⟨hs.defs,hs.size,hs.fr,hs.regs.kill r,hs.below,hs.pre⟩
 have hsc2:St.scp { c.st with rg:=c.st.rg.set r .dead }=true:=by
  unfold St.scp
  rw [je]
  simp only [jt]
  refine ⟨List.all_eq_true.2 s1,List.all_eq_true.2 fun s hs=>?_⟩
  rcases kE hs with h | h
  ·exact List.all_eq_true.1 s2 s h
  ·subst h;rfl
 have hadd:=hkill.add (x:=⟨pieceV (ε.at_ r) 0 m,ε.fp r⟩) (r:=.own ty size m f none) hsc2 hs.below (jm _) (fun _ _ _ _ _ _=>rfl) ⟨Qhz hown hm.1 hm.2,trivial⟩ (fun _ q hq=>hs.regs.lt r _ hrr rfl q hq) (fun _ q hq=>hs.regs.lim r _ hrr rfl q hq)
  (fun q hq _ i ri hi hlv _ hq'=>by
    by_cases hir:i=r
    ·subst hir
     simp only [jE hrl] at hi
     cases hi;cases hlv
    ·rw [jC (Ne.symm hir)] at hi
     exact hs.regs.sep r i _ ri (Ne.symm hir) hrr hi rfl hlv q hq hq')
 refine next b hb a w ⟨ε++[⟨pieceV (ε.at_ r) 0 m,ε.fp r⟩],hadd.defs,hadd.size,fun e he=>?_,by simpa [trimSt] using hadd.regs,hadd.below,hadd.pre⟩
 obtain ⟨e0,he0,rfl⟩:=List.mem_map.1 he
 have h0:=hadd.fr e0 he0
 refine ⟨h0.1,fun hg=>?_,h0.2.2⟩
 have h1:=h0.2.1 hg
 show get a e0.slot=(unT r c.st.rg.length e0.sv).den _
 rw [h1]
 refine (Qkq ?_ _ (fun k hk=>J1 (hvc▸hv.all) e0 he0 k hk)).symm
 rw [← hl,Yk,Q14 (show r<ε.length by omega)]
def Cfg.ment (P:Program) (c:Cfg) (r:Nat) (s:Int):Option Cfg:=
 match (seg P 5000 c.k c.st).2 with
 | .op all o todo k st=>match o.op,o.guard with
   | .mapEntry t m x,none=>match opndC st [] m,opnd st [] x with
     | some (.h r'),some kx=>match nth st.rg r' with
       | some (.mpr T ty sz n f (some (a,q,_)))=>match kaOf T.K T.kAgg kx with
         | some a'=>if jr r r'&&(jr T.t t&&st.scp) then
            (putSt { st with rg:=st.rg.set r' (.mpr T ty sz (n+1) f (some (a,q,some s))) } o.dst [] (.tup [(false,[.h q]),(false,[.i .i64 s])])).map fun st'=>⟨.ops all todo::k,st'⟩
           else none
         | none=>none
       | _=>none
     | _,_=>none
   | _,_=>none
 | _=>none
def mentVc (P:Program) (c:Cfg) (r:Nat):List Prop:=
 match (seg P 5000 c.k c.st).2 with
 | .op all o todo k st=>match o.op,o.guard with
   | .mapEntry t m x,none=>match opnd st [] x with
     | some kx=>match nth st.rg r with
       | some (.mpr T ty sz n f (some (a,q,_)))=>match kaOf T.K T.kAgg kx with
         | some a'=>KA.vc T.K a'++[T.P=P,n<maxLen,a=a']
         | none=>[]
       | _=>[]
     | _=>[]
   | _,_=>[]
 | _=>[]
theorem RunF.ment [hw:Wide P] {vc vc2:List Prop} (r:Nat) (h:see P fn c=(vc,.op)) (hv:Conj vc) (hm:mentVc P c r=vc2) (hv2:Conj vc2) (hsome:∀ s,(c.ment P r s).isSome=true)
 (next:∀ s:Int,RunF P fn n0 U (orNo (c.ment P r s))):RunF P fn n0 U c:=by
 unfold RunF at next ⊢
 intro b hb
 subst hm
 unfold see at h
 unfold mentVc at hv2
 unfold Cfg.ment at next hsome
 generalize hg:seg P 5000 c.k c.st=rr at h hv2 next hsome
 obtain ⟨vc',out⟩:=rr
 cases out<;>simp only [Prod.mk.injEq,reduceCtorEq,and_false] at h
 case op all o todo k st =>
  obtain ⟨rfl,_⟩:=h
  refine Qn hw.mixed 5000 _ _ _ _ hg hv.toAll (fun a w hsat=>?_)
  obtain ⟨ε,hs⟩:=hsat
  simp only at hv2 next hsome
  obtain ⟨dst,op,type,pos,after,guard⟩:=o
  simp only at hsome next hv2
  have hfind:∃ t m x kx T ty sz n f a1 q st0 a',op=.mapEntry t m x∧guard=none∧opndC st [] m=some (.h r)∧opnd st [] x=some kx∧nth st.rg r=some (.mpr T ty sz n f (some (a1,q,st0)))∧kaOf T.K T.kAgg kx=some a'∧T.t=t∧st.scp=true:=by
   have h0:=hsome 0
   cases op<;>first | (cases h0;done) | skip
   rename_i t m x
   cases guard with
   | some g=>cases h0
   | none =>
     simp only at h0
     split at h0
     ·rename_i r' kx hm hx
      split at h0
      ·rename_i T ty sz n f a1 q st0 hr
       split at h0
       ·rename_i a' hk
        split at h0
        ·rename_i hbc
         simp only [je] at hbc
         have e:=jd hbc.1
         subst e
         exact ⟨t,m,x,kx,T,ty,sz,n,f,a1,q,st0,a',rfl,rfl,hm,hx,hr,hk,jd hbc.2.1,hbc.2.2⟩
        ·cases h0
       ·cases h0
      ·cases h0
     ·cases h0
  obtain ⟨t,m,x,kx,T,ty,sz,n,f,a1,q,st0,a',rfl,rfl,hm,hx,hr,hk,ht,hsc⟩:=hfind
  subst ht
  have hbq:(jr r r&&(jr T.t T.t&&st.scp))=true:=by simp [hsc]
  simp only [hm,hx,hr,hk,if_pos hbq] at hsome next hv2
  have hva:=hv2.toAll
  have hP:T.P=P:=hva.right.head
  have hn:n<maxLen:=hva.right.tail.head
  have ha:a1=a':=hva.right.tail.tail.one
  subst ha
  obtain ⟨has,hd,fb,fps,g1,g2,g3,g4,g5,g6⟩:=Qe hs hr
  obtain ⟨bb,w',s,he,hrun,hgr,hM,hf,hmv,hpd⟩:=MapV.entry g1 (KA.vc_wf _ _ hva.left) hn
  have hs1:=hs.updG (new:=.mpr T ty sz (n+1) f (some (a1,q,some (s:Int)))) (Q6 hr) rfl (g2 bb hf) hgr.size hgr.os hgr.tape hgr.output (fun k hk hne=>hgr.block k hk (fun e=>hne (Option.some.inj e)))
   (show MapR ε w' _ _ T ty sz _ (n+1) f (some (a1,q,some (s:Int))) from ⟨_,_,fb,fps,hmv,g2,g3,g4,fun a ha=>by
     exact OwnRow.map (w':=w') (g5 a (fun e=>ha (by simpa using e))) (fun c hc hlt=>hgr.block c hlt (fun e=>(g3 a c hc).2 W199)) (fun i j fp' u _ _ hf' hu=>OwnC.world ((f a).2 i j) (fun c hc hlt=>hgr.block c hlt (fun e=>(g3 a c (hf' c hc)).2 W199)) hu),
     fun a q3 st3 e=>by cases e;exact ⟨(g6 _ _ _ rfl).1,(g6 _ _ _ rfl).2.1,fun s2 hs2=>by cases hs2;exact hpd⟩⟩) rfl
  have hn1:=next (s:Int)
  have hM1:=hsome (s:Int)
  refine Yt (Zt rfl _) ?_
  unfold Oper.wp
  have hex:(execOp a.eval { dst,op:=.mapEntry T.t m x,type,pos,after,guard:=none }).run P w=.ok (.value ((SV.tup [(false,[C.h q]),(false,[C.i .i64 (s:Int)])]).den ε)) w':=by
   simp only [execOp,Q5 hs (gHolds_nil a) hm,Qi hs (gHolds_nil a) hx]
   rw [hP] at hrun
   refine Q45 ?_
   rw [Yr hk]
   show (Instr.mapEntry T.t (ε.ent r).h (T.valK a1)).run P w=_
   rw [hrun,(g6 _ _ _ rfl).1]
   rfl
  rw [hex,Oper.upon_value]
  cases hput:putSt { st with rg:=st.rg.set r (.mpr T ty sz (n+1) f (some (a1,q,some (s:Int)))) } dst [] (.tup [(false,[C.h q]),(false,[C.i .i64 (s:Int)])]) with
  | none=>rw [hput] at hM1;cases hM1
  | some st' =>
    rw [hput] at hn1
    simp only [jM,orNo] at hn1
    exact hn1 b hb _ w' ⟨_,Qg hs1 hput (fun _=>rfl) (fun hn=>absurd (gHolds_nil _) hn)⟩
 all_goals first | (unfold callV at h;split at h<;>simp at h;done) | (split at h<;>simp at h)
def Cfg.mentP (P:Program) (c:Cfg) (r:Nat) (s:Int):Option Cfg:=
 match (seg P 5000 c.k c.st).2 with
 | .op all o todo k st=>match o.op,o.guard with
   | .mapEntry t m x,none=>match opndC st [] m,opnd st [] x with
     | some (.h r'),some kx=>match nth st.rg r' with
       | some (.mp T n has f _)=>match kaOf T.K T.kAgg kx with
         | some a'=>if jr r r'&&(jr T.t t&&st.scp) then
            (putSt { st with rg:=st.rg.set r' (.mp T (n+1) (fun q=>decide (q=a')||has q) f (some ⟨0,fun _=>false,0,some a',some s⟩)) } o.dst [] (.tup [(T.vAgg,KA.cs T.V (f a')),(false,[.i .i64 s])])).map fun st'=>⟨.ops all todo::k,st'⟩
           else none
         | none=>none
       | _=>none
     | _,_=>none
   | _,_=>none
 | _=>none
def Cfg.mentR (P:Program) (c:Cfg) (r:Nat) (s:Int):Option Cfg:=
 match (seg P 5000 c.k c.st).2 with
 | .opR all listed m i k st=>match nth all i with
   | none=>none
   | some o=>match o.op,o.guard with
   | .mapEntry t mm x,none=>match opndC st [] mm,opnd st [] x with
     | some (.h r'),some kx=>match nth st.rg r' with
       | some (.mp T n has f _)=>match kaOf T.K T.kAgg kx with
         | some a'=>if jr r r'&&(jr T.t t&&(st.scp&&!calmAt all i o)) then
            (putSt { st with rg:=st.rg.set r' (.mp T (n+1) (fun q=>decide (q=a')||has q) f (some ⟨0,fun _=>false,0,some a',some s⟩)) } o.dst [] (.tup [(T.vAgg,KA.cs T.V (f a')),(false,[.i .i64 s])])).map fun st'=>⟨.mix all (setL listed i) m::k,st'⟩
           else none
         | none=>none
       | _=>none
     | _,_=>none
   | _,_=>none
 | _=>none
def mentVcR (P:Program) (c:Cfg) (r:Nat):List Prop:=
 match (seg P 5000 c.k c.st).2 with
 | .opR all listed m i k st=>match nth all i with
   | none=>[]
   | some o=>match o.op,o.guard with
   | .mapEntry t mm x,none=>match opnd st [] x with
     | some kx=>match nth st.rg r with
       | some (.mp T n has f _)=>match kaOf T.K T.kAgg kx with
         | some a'=>KA.vc T.K a'++[T.P=P,n<maxLen]
         | none=>[]
       | _=>[]
     | _=>[]
   | _,_=>[]
 | _=>[]
theorem RunF.mentR [hw:Wide P] {vc vc2:List Prop} (r:Nat) (h:see P fn c=(vc,.opR)) (hv:Conj vc) (hm:mentVcR P c r=vc2) (hv2:Conj vc2) (hsome:∀ s,(c.mentR P r s).isSome=true)
 (next:∀ s:Int,RunF P fn n0 U (orNo (c.mentR P r s))):RunF P fn n0 U c:=by
 unfold RunF at next ⊢
 intro b hb
 subst hm
 unfold see at h
 unfold mentVcR at hv2
 unfold Cfg.mentR at next hsome
 generalize hg:seg P 5000 c.k c.st=rr at h hv2 next hsome
 obtain ⟨vc',out⟩:=rr
 cases out<;>simp only [Prod.mk.injEq,reduceCtorEq,and_false] at h
 case opR all listed m i k st =>
  obtain ⟨rfl,_⟩:=h
  refine Qn hw.mixed 5000 _ _ _ _ hg hv.toAll ?_
  intro a w hsat hsel
  obtain ⟨ε,hs⟩:=hsat
  simp only at hv2 next hsome
  cases hoi:nth all i with
  | none=>simp only [hoi] at hsome;cases hsome 0
  | some o =>
  simp only [hoi] at hv2 next hsome
  rw [Qo] at hoi
  have hoi':all.toArray[i]?=some o:=by simpa using hoi
  obtain ⟨dst,op,type,pos,after,guard⟩:=o
  simp only at hsome next hv2
  have hfind:∃ t mm x kx T n has f it a',op=.mapEntry t mm x∧guard=none∧opndC st [] mm=some (.h r)∧opnd st [] x=some kx∧nth st.rg r=some (.mp T n has f it)∧kaOf T.K T.kAgg kx=some a'∧T.t=t∧st.scp=true∧calmAt all i { dst,op:=.mapEntry t mm x,type,pos,after,guard:=none }=false:=by
   have h0:=hsome 0
   cases op<;>first | (cases h0;done) | skip
   rename_i t mm x
   cases guard with
   | some g=>cases h0
   | none =>
     simp only at h0
     split at h0
     ·rename_i r' kx hm hx
      split at h0
      ·rename_i T n has f it hr
       split at h0
       ·rename_i a' hk
        split at h0
        ·rename_i hbc
         simp only [je,jL] at hbc
         have e:=jd hbc.1
         subst e
         exact ⟨t,mm,x,kx,T,n,has,f,it,a',rfl,rfl,hm,hx,hr,hk,jd hbc.2.1,hbc.2.2.1,hbc.2.2.2⟩
        ·cases h0
       ·cases h0
      ·cases h0
     ·cases h0
  obtain ⟨t,mm,x,kx,T,n,has,f,it,a',rfl,rfl,hm,hx,hr,hk,ht,hsc,hcalm⟩:=hfind
  subst ht
  have hbq:(jr r r&&(jr T.t T.t&&(st.scp&&!calmAt all i { dst,op:=.mapEntry T.t mm x,type,pos,after,guard:=none })))=true:=by simp [hsc,hcalm]
  simp only [hm,hx,hr,hk,if_pos hbq] at hsome next hv2
  have hva:=hv2.toAll
  have hP:T.P=P:=hva.right.head
  have hn:n<maxLen:=hva.right.tail.one
  obtain ⟨bb,w',s,he,hrun,hgr,hM,hf,hmv⟩:=MapAt.entry (Qe hs hr) (KA.vc_wf _ _ hva.left) hn
  have hs1:=hs.updG (new:=.mp T (n+1) (fun q=>decide (q=a')||has q) f (some ⟨0,fun _=>false,0,some a',some (s:Int)⟩)) (Q6 hr) rfl hf hgr.size hgr.os hgr.tape hgr.output (fun k hk hne=>hgr.block k hk (fun e=>hne (Option.some.inj e))) hmv rfl
  have hn1:=next (s:Int)
  have hM1:=hsome (s:Int)
  have hw1:Region.wanted ({ dst,op:=.mapEntry T.t mm x,type,pos,after,guard:=none }:Oper) (yielded all.toArray a.tmps)=true:=Zt rfl _
  unfold wpOpR
  simp only [hoi',hw1,if_true]
  have hex:(execOp a.eval { dst,op:=.mapEntry T.t mm x,type,pos,after,guard:=none }).run P w=.ok (.value ((SV.tup [(T.vAgg,KA.cs T.V (f a')),(false,[C.i .i64 (s:Int)])]).den ε)) w':=by
   simp only [execOp,Q5 hs (gHolds_nil a) hm,Qi hs (gHolds_nil a) hx]
   rw [hP] at hrun
   refine Q45 ?_
   rw [Yr hk]
   show (Instr.mapEntry T.t (ε.ent r).h (T.valK a')).run P w=_
   rw [hrun]
   simp only [SV.den,jV,kZ,Q1q,KA.cs_den]
   rfl
  unfold stepR
  rw [hex]
  cases hput:putSt { st with rg:=st.rg.set r (.mp T (n+1) (fun q=>decide (q=a')||has q) f (some ⟨0,fun _=>false,0,some a',some (s:Int)⟩)) } dst [] (.tup [(T.vAgg,KA.cs T.V (f a')),(false,[C.i .i64 (s:Int)])]) with
  | none=>rw [hput] at hM1;cases hM1
  | some st' =>
    rw [hput] at hn1
    simp only [jM,orNo] at hn1
    exact ⟨fun hc=>absurd hc (by rw [hcalm];decide),hn1 b hb _ w' ⟨_,Qg hs1 hput (fun _=>rfl) (fun hn=>absurd (gHolds_nil _) hn)⟩ hsel⟩
 all_goals first | (unfold callV at h;split at h<;>simp at h;done) | (split at h<;>simp at h)
attribute [irreducible] Cfg.ment
attribute [irreducible] Cfg.mentP
attribute [irreducible] Cfg.mentR
theorem RunF.mopen (r:Nat) {T:MT} {ty sz n:Nat} {f:KA T.K→Nat×(Nat→Nat→TC)} (x:KA T.K) (hr:nth c.st.rg r=some (.mpr T ty sz n f none)) (hsc:c.st.scp=true)
 (next:RunF P fn n0 U ⟨c.k,mopenSt c.st r T ty sz n f x⟩):RunF P fn n0 U c:=by
 unfold RunF at next ⊢
 intro b hb a w ⟨ε,hs⟩
 obtain ⟨s1,s2⟩:=Qh hsc
 have hl:=hs.regs.len
 have hrl:r<c.st.rg.length:=(List.getElem?_eq_some_iff.1 (Q6 hr)).1
 obtain ⟨has,hd,fb,fps,g1,g2,g3,g4,g5,g6⟩:MapR ε w b.M (ε.fp r) T ty sz (ε.at_ r) n f none:=Qe hs hr
 obtain ⟨hregs,hat⟩:=hs.regs.split (x0:=(⟨ε.at_ r,fun q=>ε.fp r q∧¬ fps x q⟩:Ent)) (xs:=[⟨hd x,fps x⟩]) (regs:=[.own ty sz (f x).1 (f x).2 none]) (new:=.mpr T ty sz n f (some (x,c.st.rg.length,none))) (Q6 hr) rfl rfl s2 (.inl rfl) rfl (fun _ h=>h.1)
  (fun y hy q hq=>by
    rw [jI] at hy
    subst hy
    exact (g3 x q hq).1)
  (fun _ y hy q hq h0=>by
    rw [jI] at hy
    subst hy
    exact h0.2 hq)
  (fun _ i j y y' hij hy hy'=>by
    have h1:i=0:=by
     have:=(List.getElem?_eq_some_iff.1 hy).1
     simp at this;exact this
    have h2:j=0:=by
     have:=(List.getElem?_eq_some_iff.1 hy').1
     simp at this;exact this
    omega)
  (by
    have hm:Env.at_ (ε.set r (⟨ε.at_ r,fun q=>ε.fp r q∧¬ fps x q⟩:Ent)++[⟨hd x,fps x⟩]) c.st.rg.length=hd x:=by
     unfold Env.at_
     rw [Zl (x:=(⟨hd x,fps x⟩:Ent))]
     rw [jy W130]
     simp [hl]
    refine ⟨has,hd,fb,fun p q=>p≠x∧fps p q,g1,fun q hq=>⟨g2 q hq,fun h=>(g3 x q h).2 hq⟩,fun p q hq=>⟨⟨(g3 p q hq.2).1,fun h=>hq.1 (g4 p x q hq.2 h)⟩,(g3 p q hq.2).2⟩,fun p p' q h h'=>g4 p p' q h.2 h'.2,fun p hp=>?_,fun p q st e=>?_⟩
    ·have hpx:p≠x:=fun e=>hp (by rw [e];rfl)
     have e:(fun q=>p≠x∧fps p q)=fps p:=by funext q;simp [hpx]
     show OwnRow w b.M (fun q=>p≠x∧fps p q) ty sz (f p).1 (hd p) _
     rw [e]
     exact g5 p (fun e=>by cases e)
    ·cases e
     exact ⟨hm.symm,fun q h=>h.1 rfl,fun s hs=>by cases hs⟩)
  (fun i s y hi hy=>by
    have h1:i=0:=by
     have:=(List.getElem?_eq_some_iff.1 hy).1
     simp at this;exact this
    subst h1
    cases hi;cases hy
    exact ⟨g5 x (fun e=>by cases e),trivial⟩)
 exact next b hb a w ⟨_,Q03 hs hsc hregs hat W130⟩
theorem RunF.mclose (r q:Nat) {T:MT} {ty sz n m:Nat} {f:KA T.K→Nat×(Nat→Nat→TC)} {x:KA T.K} {g:Nat→Nat→TC} (hr:nth c.st.rg r=some (.mpr T ty sz n f (some (x,q,none)))) (hq:nth c.st.rg q=some (.own ty sz m g none)) (hsc:c.st.scp=true)
 (next:RunF P fn n0 U ⟨c.k,mcloseSt c.st r q T ty sz n f x m g⟩):RunF P fn n0 U c:=by
 unfold RunF at next ⊢
 intro b hb a w ⟨ε,hs⟩
 obtain ⟨s1,s2⟩:=Qh hsc
 have hl:=hs.regs.len
 have hrr:=Q6 hr
 have hqq:=Q6 hq
 have hrl:r<c.st.rg.length:=(List.getElem?_eq_some_iff.1 hrr).1
 have hql:q<c.st.rg.length:=(List.getElem?_eq_some_iff.1 hqq).1
 have hqr:q≠r:=fun e=>by subst e;rw [hrr] at hqq;cases hqq
 obtain ⟨has,hd,fb,fps,g1,g2,g3,g4,g5,g6⟩:MapR ε w b.M (ε.fp r) T ty sz (ε.at_ r) n f (some (x,q,none)):=Qe hs hr
 have hown:=(Qe hs hq).1
 refine next b hb a w ⟨ε.set r (zdf ε r q),?_⟩
 generalize hx:((zdf ε r q):Ent)=y
 have hxh:y.h=ε.at_ r:=by rw [← hx]
 have hxf:y.fp=fun b=>ε.fp r b∨ε.fp q b:=by rw [← hx]
 obtain ⟨atAll,hsAll⟩:=Env.set_same (ε:=ε) (r:=r) (x:=y) W31 hxh
 have entT:Env.ent (ε.set r y) r=y:=Zl W181
 have entO:∀ j,j≠r→Env.ent (ε.set r y) j=ε.ent j:=fun j hj=>by
  unfold Env.ent;rw [jb,jb,jC (Ne.symm hj)]
 have cls:∀ (j:Nat) (s:Reg),((c.st.rg.set q .dead).set r (.mpr T ty sz n (fun p=>if p=x then (m,g) else f p) none))[j]?=some s→(j=r∧s=.mpr T ty sz n (fun p=>if p=x then (m,g) else f p) none)∨(j=q∧s=.dead)∨(j≠r∧j≠q∧c.st.rg[j]?=some s):=fun j s hj=>by
  by_cases hjt:j=r
  ·subst hjt
   rw [jE (by simpa using hrl)] at hj
   cases hj;exact .inl ⟨rfl,rfl⟩
  ·rw [jC (Ne.symm hjt)] at hj
   by_cases hjr:j=q
   ·subst hjr
    rw [jE hql] at hj
    cases hj;exact .inr (.inl ⟨rfl,rfl⟩)
   ·rw [jC (Ne.symm hjr)] at hj
    exact .inr (.inr ⟨hjt,hjr,hj⟩)
 have fpO:∀ j,j≠r→∀ b,Env.fp (ε.set r y) j b→ε.fp j b:=fun j hj b hb=>by unfold Env.fp at hb ⊢;rwa [entO j hj] at hb
 have fpT:∀ b,Env.fp (ε.set r y) r b→ε.fp r b∨ε.fp q b:=fun b hb=>by unfold Env.fp at hb;rw [entT,hxf] at hb;exact hb
 refine ⟨hs.defs,hs.size,fun e he=>(hs.fr e he).same (s1 e he) (fun i _=>atAll i),⟨by simp [mcloseSt,hl],fun j s hj=>?_,fun j s hj hl' b hb=>?_,fun j s hj he b hb=>?_,fun i j ri rj hij hi hj he hl' b hb1 hb2=>?_⟩,hs.below,by rw [hsAll];exact hs.pre⟩
 ·rcases cls j s hj with ⟨rfl,rfl⟩ | ⟨rfl,rfl⟩ | ⟨k1,k2,k3⟩
  ·rw [entT]
   show MapR _ w b.M y.fp T ty sz y.h n _ none
   rw [hxh,hxf]
   refine ⟨has,hd,fb,fun p d=>if p=x then ε.fp q d else fps p d,g1,fun d hd=>.inl (g2 d hd),fun p d hd=>?_,fun p p' d h h'=>?_,fun p _=>?_,fun p q' st e=>by cases e⟩
   ·dsimp only at hd
    by_cases e:p=x
    ·rw [if_pos e] at hd
     exact ⟨.inr hd,fun h=>hs.regs.sep q j _ _ hqr hqq hrr rfl rfl d hd (g2 d h)⟩
    ·rw [if_neg e] at hd
     exact ⟨.inl (g3 p d hd).1,(g3 p d hd).2⟩
   ·dsimp only at h h'
    by_cases e:p=x<;>by_cases e':p'=x
    ·rw [e,e']
    ·rw [if_pos e] at h;rw [if_neg e'] at h'
     exact absurd (g3 p' d h').1 (hs.regs.sep q j _ _ hqr hqq hrr rfl rfl d h)
    ·rw [if_neg e] at h;rw [if_pos e'] at h'
     exact absurd (g3 p d h).1 (hs.regs.sep q j _ _ hqr hqq hrr rfl rfl d h')
    ·rw [if_neg e] at h;rw [if_neg e'] at h'
     exact g4 p p' d h h'
   ·by_cases e:p=x
    ·subst e
     simp only [if_true]
     rw [(g6 p q _ rfl).1]
     exact hown
    ·simp only [if_neg e]
     exact g5 p (fun h=>e (by cases h;rfl))
  ·trivial
  ·rw [entO j k1]
   exact (hs.regs.reg j s k3).same (List.all_eq_true.1 s2 s (jq k3)) (fun i _=>atAll i)
 ·rcases cls j s hj with ⟨rfl,rfl⟩ | ⟨rfl,rfl⟩ | ⟨k1,k2,k3⟩
  ·rcases fpT b hb with h | h
   ·exact hs.regs.lt j _ hrr rfl b h
   ·exact hs.regs.lt q _ hqq rfl b h
  ·cases hl'
  ·exact hs.regs.lt j s k3 hl' b (fpO j k1 b hb)
 ·rcases cls j s hj with ⟨rfl,rfl⟩ | ⟨rfl,rfl⟩ | ⟨k1,k2,k3⟩
  ·rcases fpT b hb with h | h
   ·exact hs.regs.lim j _ hrr rfl b h
   ·exact hs.regs.lim q _ hqq rfl b h
  ·cases he
  ·exact hs.regs.lim j s k3 he b (fpO j k1 b hb)
 ·rcases cls i ri hi with ⟨rfl,rfl⟩ | ⟨rfl,rfl⟩ | ⟨k1,k2,k3⟩
  ·rcases cls j rj hj with ⟨e1,e2⟩ | ⟨e1,e2⟩ | ⟨m1,m2,m3⟩
   ·exact hij e1.symm
   ·subst e2;cases hl'
   ·rcases fpT b hb1 with h | h
    ·exact hs.regs.sep i j _ rj (Ne.symm m1) hrr m3 rfl hl' b h (fpO j m1 b hb2)
    ·exact hs.regs.sep q j _ rj (Ne.symm m2) hqq m3 rfl hl' b h (fpO j m1 b hb2)
  ·cases he
  ·have hb0:ε.fp i b:=fpO i k1 b hb1
   rcases cls j rj hj with ⟨e1,e2⟩ | ⟨e1,e2⟩ | ⟨m1,m2,m3⟩
   ·subst e1 e2
    rcases fpT b hb2 with h | h
    ·exact hs.regs.sep i j ri _ k1 k3 hrr he rfl b hb0 h
    ·exact hs.regs.sep i q ri _ k2 k3 hqq he rfl b hb0 h
   ·subst e2;cases hl'
   ·exact hs.regs.sep i j ri rj hij k3 m3 he hl' b hb0 (fpO j m1 b hb2)
end
end Go.Tx
namespace Go.Tx
open Go
theorem MpEq.put {T:MT} {n n':Nat} {D:KA T.K→Option (KA T.V)} {z:KA T.V} {k:KA T.K} {y:KA T.V} {it':Option (MIt T.K)} (h:n'≤n) :
 MpEq T n (fun q=>(if q=k then some y else D q).isSome) (fun q=>(if q=k then some y else D q).getD z) none T n' (fun q=>decide (q=k)||(D q).isSome) (fun q=>if q=k then y else (D q).getD z) it':=by
 refine MpEq.mk' h (fun q=>?_) (fun q=>?_)
 ·by_cases e:q=k<;>simp [e]
 ·by_cases e:q=k<;>simp [e]
def KA.mk {c:CK} {K:List CK} (x:c.α) (a:KA K):KA (c::K):=match K,a with
 | [],_=>x
 | _::_,a=>(x,a)
theorem KA.vals_mk {c:CK} {K:List CK} (x:c.α) (a:KA K):KA.vals (c::K) (KA.mk x a)=c.val x::KA.vals K a:=by cases K<;>rfl
theorem KA.wf_mk {c:CK} {K:List CK} (x:c.α) (a:KA K):KA.wf (c::K) (KA.mk x a)↔c.wf x∧KA.wf K a:=by
 cases K with
 | nil=>exact ⟨fun h=>⟨h,trivial⟩,fun h=>h.1⟩
 | cons d r=>exact Iff.rfl
theorem KA.un_mk {c:CK} {K:List CK} (a:KA (c::K)):∃ (x:c.α) (b:KA K),a=KA.mk x b:=by
 cases K with
 | nil=>exact ⟨a,(),rfl⟩
 | cons d r=>exact ⟨a.1,a.2,rfl⟩
def plainIs (P:Program) (t:TypeId):CK→Prop
 | .i k=>P.underlying t=some (.int k)
 | .s=>P.underlying t=some .string
 | .b=>P.underlying t=some .bool
def plainFs (P:Program):Nat→List Field→List CK→Prop
 | _,[],[]=>True
 | i,f::r,c::K=>f.offset=i∧P.cellsOf f.type=1∧plainIs P f.type c∧plainFs P (i+1) r K
 | _,_,_=>False
theorem Qkr {P:Program} {d:Nat} {t:TypeId} {c:CK} (h:plainIs P t c) (x:c.α) (hw:c.wf x):∃ ls,P.keyLits (d+1) t [c.val x]=some ls:=by
 cases c with
 | i k =>
   refine ⟨[.int k x],?_⟩
   simp only [Program.keyLits,show P.underlying t=_ from h,CK.val]
   exact if_pos ⟨trivial,hw⟩
 | s =>
   refine ⟨[.string (ByteArray.data x).toList],?_⟩
   simp only [Program.keyLits,show P.underlying t=_ from h,CK.val]
   exact if_pos hw
 | b =>
   refine ⟨[.bool x],?_⟩
   simp only [Program.keyLits,show P.underlying t=_ from h,CK.val]
theorem Qi0 {α:Type} {l:List α} {i:Nat} {x:α} {r:List α} (h:l.drop i=x::r):(l.drop i).take 1=[x]∧l.drop (i+1)=r:=by
 refine ⟨by rw [h];rfl,?_⟩
 rw [← List.drop_drop,h];rfl
theorem Q4s {P:Program} {d:Nat}:∀ {i:Nat} {fs:List Field} {K:List CK} (hp:plainFs P i fs K) {cs:List Value} {a:KA K},cs.drop i=KA.vals K a→KA.wf K a →
 ∃ ls,(fs.mapM fun (f:Field)=>P.keyLits (d+1) f.type ((cs.drop f.offset).take (P.cellsOf f.type)))=some ls
 | i,[],[],_,cs,a,h,hw=>⟨[],rfl⟩
 | i,f::r,c::K,hp,cs,a,h,hw=>by
   obtain ⟨h1,h2,h3,h4⟩:=hp
   obtain ⟨x,b,rfl⟩:=KA.un_mk a
   rw [KA.vals_mk] at h
   obtain ⟨w1,w2⟩:=(KA.wf_mk x b).1 hw
   obtain ⟨e1,e2⟩:=Qi0 h
   obtain ⟨ls,hl⟩:=Qkr (d:=d) h3 x w1
   obtain ⟨ls2,hl2⟩:=Q4s h4 e2 w2
   refine ⟨ls::ls2,?_⟩
   rw [List.mapM_cons,h1,h2,e1,hl,hl2]
   rfl
 | _,[],_::_,hp,_,_,_,_=>hp.elim
 | _,_::_,[],hp,_,_,_,_=>hp.elim
theorem Q7d {P:Program} {d:Nat} {k:TypeId} {fs:Array Field} (hk:P.underlying k=some (.struct fs)) (cs:List Value):P.keyLits (d+1) k cs =
 if cs.length = P.cellsOf k ∧ fs.all (·.name != "_") = true then (fs.toList.mapM fun f => P.keyLits d f.type ((cs.drop f.offset).take (P.cellsOf f.type))).map List.flatten else none := by
 conv=>lhs;unfold Program.keyLits
 simp only [hk]
section
variable {P:Program} {t k e:Nat} {K:List CK} {V:List CK} {va:Bool}
theorem MT.ok_int {q:IntKind} (ht:P.underlying t=some (.map k e)) (hk:P.underlying k=some (.int q)) (hv:va=true∨V.length=1) (hz:∀ w,(zeroValue e).run P w=.ok (mkVal va (KA.vals V (KA.zero V))) w):MT.Ok ⟨P,t,k,e,[.i q],false,V,va⟩ where
 map:=ht
 key:=Go.Maps.int_keyed hk
 lit:=fun a ha=>⟨_,Go.Maps.keyOf_int_mk hk ha⟩
 inv:=fun v l h=>by obtain ⟨x,rfl,_,hw⟩:=Go.Maps.keyOf_int_inv hk h;exact ⟨x,hw,rfl⟩
 one:=.inr rfl
 oneE:=hv
 zero:=hz
theorem MT.ok_str (ht:P.underlying t=some (.map k e)) (hk:P.underlying k=some .string) (hv:va=true∨V.length=1) (hz:∀ w,(zeroValue e).run P w=.ok (mkVal va (KA.vals V (KA.zero V))) w):MT.Ok ⟨P,t,k,e,[.s],false,V,va⟩ where
 map:=ht
 key:=Go.Maps.string_keyed hk
 lit:=fun a ha=>⟨_,Go.WideMaps.keyOf_string_mk hk ha⟩
 inv:=fun v l h=>by obtain ⟨x,rfl,_,hw⟩:=Go.WideMaps.string_of_keyOf hk h;exact ⟨x,hw,rfl⟩
 one:=.inr rfl
 oneE:=hv
 zero:=hz
end
def DetE {Y:Type} (Q:Y→Prop) (res:Y→SV) (post:Y→List Reg):SV→List Reg→Prop:=fun r p=>∃ y,Q y∧r=res y∧p=post y
section
variable {P:Program} [hw:Wide P] {fn:Func} {n0:Nat} {U:Tgt} {c:Cfg} {vc:List Prop} {Y:Type}
theorem RunF.callQ {f:Nat} {args want:List SV} {pre:List Reg} {Q:Y→Prop} {res:Y→SV} {post:Y→List Reg} (he:Enters P f) (spec:Ctr P f pre want (DetE Q res post)) (σ:List Nat) {E:List F} (h:see P fn c=(vc,.call f args)) (hv:Conj vc)
 (hc:callEnt (c.drawn P) σ (c.at P) pre want args=some E) (hE:AllF E) (hx:exclIn (c.at P).rg.length σ pre=true) (hok:∀ y,(c.after P σ pre (res y) (post y)).isSome=true) (next:∀ y,Q y→RunF P fn n0 U (c.ret P σ pre (res y) (post y))):RunF P fn n0 U c:=
 RunF.callE he spec σ h hv hc hE hx fun r p ⟨y,hq,e1,e2⟩=>by subst e1;subst e2;exact ⟨hok y,next y hq⟩
theorem Ql {f:Nat} {want:List SV} {pre:List Reg} {Q:Y→Prop} {res:Y→SV} {post:Y→List Reg} (he:Enters P f) (spec:Ctr P f pre want (DetE Q res post)) (σ:List Nat) (next:∀ y,Q y→RunF P fn n0 U (c.ret P (piN σ pre.length) pre (res y) (post y))) (M:List Nat:=[]) (E:List Prop:=[]) (hE:Conj E:=by exact trivial) (vc:List Prop:=[]) (hv:Conj vc:=by exact trivial)
 (h:see P fn c=(vc,.call f (see P fn c).2.as):=by kernel_rfl) (hc:lF M (zde c P σ pre want fn)=rF M E (zde c P σ pre want fn):=by kernel_rfl)
 (hx:exclIn (c.at P).rg.length (piN σ pre.length) pre=true:=by kernel_rfl) (hok:∀ y,(c.after P (piN σ pre.length) pre (res y) (post y)).isSome=true:=by intro _;kernel_rfl):RunF P fn n0 U c:=
 let ⟨_,h1,h2⟩:=Z1 hc hE
 RunF.callQ he spec _ h hv h1 h2 hx hok next
end
end Go.Tx
noncomputable section
namespace Go.Proofs.YtnddggenhefaeaaDoor
open Go Go.Tx
instance:Wide Tryd.prog:=⟨by kernel_rfl⟩
theorem Q4e:Enters Tryd.prog 9:=Q1 Tryd.func9 (by kernel_rfl) (by kernel_rfl)
theorem Qag:Enters Tryd.prog 56:=Q1 Tryd.func56 (by kernel_rfl) (by kernel_rfl)
theorem Q2s:Enters Tryd.prog 77:=Q1 Tryd.func77 (by kernel_rfl) (by kernel_rfl)
theorem Qah:Enters Tryd.prog 78:=Q1 Tryd.func78 (by kernel_rfl) (by kernel_rfl)
theorem Q7e:Enters Tryd.prog 79:=Q1 Tryd.func79 (by kernel_rfl) (by kernel_rfl)
theorem Y7:Enters Tryd.prog 54:=Q1 Tryd.func54 (by kernel_rfl) (by kernel_rfl)
theorem Q9g:Enters Tryd.prog 76:=Q1 Tryd.func76 (by kernel_rfl) (by kernel_rfl)
theorem J2:Enters Tryd.prog 19:=Q1 Tryd.func19 (by kernel_rfl) (by kernel_rfl)
theorem Qcb:Enters Tryd.prog 36:=Q1 Tryd.func36 (by kernel_rfl) (by kernel_rfl)
theorem Qcc:Enters Tryd.prog 37:=Q1 Tryd.func37 (by kernel_rfl) (by kernel_rfl)
theorem Q6h:Enters Tryd.prog 38:=Q1 Tryd.func38 (by kernel_rfl) (by kernel_rfl)
theorem Je:Enters Tryd.prog 55:=Q1 Tryd.func55 (by kernel_rfl) (by kernel_rfl)
theorem Qcd:Enters Tryd.prog 57:=Q1 Tryd.func57 (by kernel_rfl) (by kernel_rfl)
theorem Y2:Enters Tryd.prog 58:=Q1 Tryd.func58 (by kernel_rfl) (by kernel_rfl)
theorem Zv:Enters Tryd.prog 59:=Q1 Tryd.func59 (by kernel_rfl) (by kernel_rfl)
theorem Ya:Enters Tryd.prog 60:=Q1 Tryd.func60 (by kernel_rfl) (by kernel_rfl)
theorem Yl:Enters Tryd.prog 61:=Q1 Tryd.func61 (by kernel_rfl) (by kernel_rfl)
theorem J7:Enters Tryd.prog 62:=Q1 Tryd.func62 (by kernel_rfl) (by kernel_rfl)
theorem Q1d:Enters Tryd.prog 5:=Q1 Tryd.func5 (by kernel_rfl) (by kernel_rfl)
theorem Q3k:Enters Tryd.prog 6:=Q1 Tryd.func6 (by kernel_rfl) (by kernel_rfl)
theorem Q3l:Enters Tryd.prog 4:=Q1 Tryd.func4 (by kernel_rfl) (by kernel_rfl)
theorem Q6i:Enters Tryd.prog 10:=Q1 Tryd.func10 (by kernel_rfl) (by kernel_rfl)
theorem J8:Enters Tryd.prog 8:=Q1 Tryd.func8 (by kernel_rfl) (by kernel_rfl)
theorem Qai:Enters Tryd.prog 12:=Q1 Tryd.func12 (by kernel_rfl) (by kernel_rfl)
theorem Qce:Enters Tryd.prog 11:=Q1 Tryd.func11 (by kernel_rfl) (by kernel_rfl)
theorem Q54:Enters Tryd.prog 13:=Q1 Tryd.func13 (by kernel_rfl) (by kernel_rfl)
theorem Qaj:Enters Tryd.prog 14:=Q1 Tryd.func14 (by kernel_rfl) (by kernel_rfl)
theorem Qak:Enters Tryd.prog 15:=Q1 Tryd.func15 (by kernel_rfl) (by kernel_rfl)
theorem Q2u:Enters Tryd.prog 16:=Q1 Tryd.func16 (by kernel_rfl) (by kernel_rfl)
theorem Q1e:Enters Tryd.prog 17:=Q1 Tryd.func17 (by kernel_rfl) (by kernel_rfl)
theorem Qf:Enters Tryd.prog 18:=Q1 Tryd.func18 (by kernel_rfl) (by kernel_rfl)
theorem Q2t:Enters Tryd.prog 20:=Q1 Tryd.func20 (by kernel_rfl) (by kernel_rfl)
theorem Q9h:Enters Tryd.prog 21:=Q1 Tryd.func21 (by kernel_rfl) (by kernel_rfl)
theorem Qcf:Enters Tryd.prog 22:=Q1 Tryd.func22 (by kernel_rfl) (by kernel_rfl)
theorem Qal:Enters Tryd.prog 23:=Q1 Tryd.func23 (by kernel_rfl) (by kernel_rfl)
theorem Q26:Enters Tryd.prog 24:=Q1 Tryd.func24 (by kernel_rfl) (by kernel_rfl)
theorem Q27:Enters Tryd.prog 25:=Q1 Tryd.func25 (by kernel_rfl) (by kernel_rfl)
theorem Q55:Enters Tryd.prog 26:=Q1 Tryd.func26 (by kernel_rfl) (by kernel_rfl)
theorem Q4f:Enters Tryd.prog 27:=Q1 Tryd.func27 (by kernel_rfl) (by kernel_rfl)
theorem Q3m:Enters Tryd.prog 28:=Q1 Tryd.func28 (by kernel_rfl) (by kernel_rfl)
theorem Q4g:Enters Tryd.prog 29:=Q1 Tryd.func29 (by kernel_rfl) (by kernel_rfl)
theorem Q4h:Enters Tryd.prog 30:=Q1 Tryd.func30 (by kernel_rfl) (by kernel_rfl)
theorem Q2v:Enters Tryd.prog 31:=Q1 Tryd.func31 (by kernel_rfl) (by kernel_rfl)
theorem Q3n:Enters Tryd.prog 32:=Q1 Tryd.func32 (by kernel_rfl) (by kernel_rfl)
theorem Q2w:Enters Tryd.prog 33:=Q1 Tryd.func33 (by kernel_rfl) (by kernel_rfl)
theorem Q56:Enters Tryd.prog 34:=Q1 Tryd.func34 (by kernel_rfl) (by kernel_rfl)
theorem Q3o:Enters Tryd.prog 35:=Q1 Tryd.func35 (by kernel_rfl) (by kernel_rfl)
theorem Qam:Enters Tryd.prog 39:=Q1 Tryd.func39 (by kernel_rfl) (by kernel_rfl)
theorem Q3p:Enters Tryd.prog 40:=Q1 Tryd.func40 (by kernel_rfl) (by kernel_rfl)
theorem Qw:Enters Tryd.prog 41:=Q1 Tryd.func41 (by kernel_rfl) (by kernel_rfl)
theorem Q7f:Enters Tryd.prog 42:=Q1 Tryd.func42 (by kernel_rfl) (by kernel_rfl)
theorem Q6j:Enters Tryd.prog 43:=Q1 Tryd.func43 (by kernel_rfl) (by kernel_rfl)
theorem Gq:Enters Tryd.prog 44:=Q1 Tryd.func44 (by kernel_rfl) (by kernel_rfl)
theorem Q6k:Enters Tryd.prog 45:=Q1 Tryd.func45 (by kernel_rfl) (by kernel_rfl)
theorem Q0x:Enters Tryd.prog 46:=Q1 Tryd.func46 (by kernel_rfl) (by kernel_rfl)
theorem Q1f:Enters Tryd.prog 47:=Q1 Tryd.func47 (by kernel_rfl) (by kernel_rfl)
theorem Qcg:Enters Tryd.prog 48:=Q1 Tryd.func48 (by kernel_rfl) (by kernel_rfl)
theorem Q3q:Enters Tryd.prog 49:=Q1 Tryd.func49 (by kernel_rfl) (by kernel_rfl)
theorem Jg:Enters Tryd.prog 50:=Q1 Tryd.func50 (by kernel_rfl) (by kernel_rfl)
theorem Jh:Enters Tryd.prog 51:=Q1 Tryd.func51 (by kernel_rfl) (by kernel_rfl)
theorem Yg:Enters Tryd.prog 52:=Q1 Tryd.func52 (by kernel_rfl) (by kernel_rfl)
theorem Qp:Enters Tryd.prog 53:=Q1 Tryd.func53 (by kernel_rfl) (by kernel_rfl)
theorem Q9i:Enters Tryd.prog 63:=Q1 Tryd.func63 (by kernel_rfl) (by kernel_rfl)
theorem Q1g:Enters Tryd.prog 64:=Q1 Tryd.func64 (by kernel_rfl) (by kernel_rfl)
theorem Q1h:Enters Tryd.prog 65:=Q1 Tryd.func65 (by kernel_rfl) (by kernel_rfl)
theorem Q4i:Enters Tryd.prog 66:=Q1 Tryd.func66 (by kernel_rfl) (by kernel_rfl)
theorem Qan:Enters Tryd.prog 67:=Q1 Tryd.func67 (by kernel_rfl) (by kernel_rfl)
theorem J3:Enters Tryd.prog 68:=Q1 Tryd.func68 (by kernel_rfl) (by kernel_rfl)
theorem Q3r:Enters Tryd.prog 69:=Q1 Tryd.func69 (by kernel_rfl) (by kernel_rfl)
theorem Ym:Enters Tryd.prog 70:=Q1 Tryd.func70 (by kernel_rfl) (by kernel_rfl)
theorem Q57:Enters Tryd.prog 71:=Q1 Tryd.func71 (by kernel_rfl) (by kernel_rfl)
theorem Q4t:Enters Tryd.prog 72:=Q1 Tryd.func72 (by kernel_rfl) (by kernel_rfl)
theorem Q9j:Enters Tryd.prog 73:=Q1 Tryd.func73 (by kernel_rfl) (by kernel_rfl)
theorem Gt:Enters Tryd.prog 74:=Q1 Tryd.func74 (by kernel_rfl) (by kernel_rfl)
theorem Ji:Enters Tryd.prog 75:=Q1 Tryd.func75 (by kernel_rfl) (by kernel_rfl)
theorem Q6l:Enters Tryd.prog 80:=Q1 Tryd.func80 (by kernel_rfl) (by kernel_rfl)
theorem Q7g:Enters Tryd.prog 81:=Q1 Tryd.func81 (by kernel_rfl) (by kernel_rfl)
theorem Q2x:Enters Tryd.prog 82:=Q1 Tryd.func82 (by kernel_rfl) (by kernel_rfl)
theorem Gu:Enters Tryd.prog 83:=Q1 Tryd.func83 (by kernel_rfl) (by kernel_rfl)
theorem Q7h:Enters Tryd.prog 84:=Q1 Tryd.func84 (by kernel_rfl) (by kernel_rfl)
theorem Q7i:Enters Tryd.prog 85:=Q1 Tryd.func85 (by kernel_rfl) (by kernel_rfl)
theorem Q7j:Enters Tryd.prog 86:=Q1 Tryd.func86 (by kernel_rfl) (by kernel_rfl)
theorem Q6m:Enters Tryd.prog 87:=Q1 Tryd.func87 (by kernel_rfl) (by kernel_rfl)
theorem Q3s:Enters Tryd.prog 88:=Q1 Tryd.func88 (by kernel_rfl) (by kernel_rfl)
theorem Q7k:Enters Tryd.prog 89:=Q1 Tryd.func89 (by kernel_rfl) (by kernel_rfl)
theorem Gh:Enters Tryd.prog 90:=Q1 Tryd.func90 (by kernel_rfl) (by kernel_rfl)
theorem Q28:Enters Tryd.prog 91:=Q1 Tryd.func91 (by kernel_rfl) (by kernel_rfl)
theorem Q6n:Enters Tryd.prog 92:=Q1 Tryd.func92 (by kernel_rfl) (by kernel_rfl)
theorem Q7l:Enters Tryd.prog 93:=Q1 Tryd.func93 (by kernel_rfl) (by kernel_rfl)
theorem Q58:Enters Tryd.prog 94:=Q1 Tryd.func94 (by kernel_rfl) (by kernel_rfl)
theorem Q4j:Enters Tryd.prog 95:=Q1 Tryd.func95 (by kernel_rfl) (by kernel_rfl)
theorem Q59:Enters Tryd.prog 97:=Q1 Tryd.func97 (by kernel_rfl) (by kernel_rfl)
theorem Qee:Enters Tryd.prog 98:=Q1 Tryd.func98 (by kernel_rfl) (by kernel_rfl)
theorem J9:Enters Tryd.prog 96:=Q1 Tryd.func96 (by kernel_rfl) (by kernel_rfl)
theorem Ja:Enters Tryd.prog 7:=Q1 Tryd.func7 (by kernel_rfl) (by kernel_rfl)
def nthT (l:List TC) (j:Nat):TC:=match nth l j with
 | some t=>t
 | none=>.any
def rowOf {α:Type} [Inhabited α] (size:Nat) (tc:α→Nat→TC) (l:List α):Reg:=.row size l.length (fun i=>tc (l.getD i ub)) none
def ownOf {α:Type} [Inhabited α] (ty size:Nat) (tc:α→Nat→TC) (l:List α):Reg:=.own ty size l.length (fun i=>tc (l.getD i ub)) none
def i64T (n:Int):Nat→TC:=nthT [.val (.int .i64 n)]
theorem i64T.flat (x:Int):∀ j,j<1→flatT (i64T x j):=by
 intro j hj
 match j,hj with
 | 0,_=>exact ⟨_,rfl,rfl⟩
abbrev IntRow (l:List Int):Reg:=.row 1 l.length (fun i=>i64T (l.getD i 0)) none
abbrev IntOwn (l:List Int):Reg:=.own 3 1 l.length (fun i=>i64T (l.getD i 0)) none
abbrev WordOwn (l:List Int):Reg:=.own 2 1 l.length (fun i=>i64T (l.getD i 0)) none
structure Did where
 kind:Int
 core:Int
 pc:Int
 addr:Int
 word:Int
 put:Int
 own:Bool
 deriving Inhabited,DecidableEq
structure Cls where
 kind:Int
 thread:Int
 lock:Int
 deriving Inhabited,DecidableEq
def Cls.tl (x:Cls):List TC:=[.val (.int .u8 x.kind),.val (.int .i64 x.thread),.val (.int .i64 x.lock)]
def Cls.tc (x:Cls):Nat→TC:=nthT x.tl
abbrev Cls.ownR (l:List Cls):Reg:=ownOf 145 3 Cls.tc l
structure Prt where
 thread:Int
 word:Int
 deriving Inhabited,DecidableEq
structure Stp where
 kind:Int
 core:Int
 deriving Inhabited,DecidableEq
structure Sto where
 pos:Int
 addr:Int
 word:Int
 deriving Inhabited,DecidableEq
structure Ins where
 kind:Int
 op:Int
 d:Int
 a:Int
 b:Int
 addr:Int
 to:Int
 word:Int
 from_:Int
 deriving Inhabited,DecidableEq
def Ins.tl (x:Ins):List TC:=[.val (.int .u8 x.kind),.val (.int .u8 x.op),.val (.int .i64 x.d),.val (.int .i64 x.a),.val (.int .i64 x.b),.val (.int .i64 x.addr),.val (.int .i64 x.to),.val (.int .i64 x.word),.val (.int .i64 x.from_)]
def Ins.tc (x:Ins):Nat→TC:=nthT x.tl
abbrev Ins.rowR (l:List Ins):Reg:=rowOf 9 Ins.tc l
abbrev Ins.ownR (l:List Ins):Reg:=ownOf 44 9 Ins.tc l
structure Cor where
 name:ByteArray
 code:List Ins
 deriving Inhabited,DecidableEq
def Cor.tl (x:Cor):List TC:=[.val (.string x.name),.sub 44 9 (x.code).length (fun i=>Ins.tc ((x.code).getD i ub))]
def Cor.tc (x:Cor):Nat→TC:=nthT x.tl
abbrev Cor.ownR (l:List Cor):Reg:=ownOf 40 2 Cor.tc l
theorem Q1i {α:Type} (d:α) (l r:List α) {i:Nat} (h:i<l.length):(l++r).getD i d=l.getD i d:=by
 rw [jb,jb,jp h]
theorem Qj {α:Type} (d:α) (l:List α) (x:α):(l++[x]).getD l.length d=x:=by
 rw [jb,jy (jm _)];simp
theorem Q5a {α:Type} (d:α) (tc:α→Nat→TC) (l:List α) (x:α):∀ i,i<(l++[x]).length→tc ((l++[x]).getD i d)=if i=l.length then tc x else tc (l.getD i d):=by
 intro i hi
 by_cases h:i=l.length
 ·subst h;rw [if_pos rfl,Qj]
 ·rw [if_neg h,Q1i]
  simp at hi;omega
theorem Qs {α:Type} (l:List α) (x:α):(l++[x]).length=l.length+1:=by simp
theorem Qu {α:Type} {d:α} {l:List α} {x:α} {i:Nat} (h1:i<(l++[x]).length) (h2:i≠l.length):(l++[x]).getD i d=l.getD i d:=
 Q1i _ _ _ (by simp at h1;omega)
theorem Zf {α:Type} (d:α) (tc:α→Nat→TC) (l:List α) (k off:Nat) (x:α) (vs:List Value) (h:∀ j,tc x j=if off≤j∧j<off+vs.length then .val (vs.getD (j-off) undef) else tc (l.getD k d) j) :
 ∀ i,i<(l.set k x).length→tc ((l.set k x).getD i d)=updT (fun i=>tc (l.getD i d)) k off vs i:=by
 intro i hi
 rw [jt] at hi
 funext j
 unfold updT
 by_cases e:i=k
 ·subst e
  rw [jb,jE hi]
  simp only [Option.getD_some,true_and]
  exact h j
 ·rw [jb,jC (Ne.symm e),← jb]
  simp [e]
theorem Qq (l:List Int) (k:Nat) (x:Int):∀ i,i<(l.set k x).length→i64T ((l.set k x).getD i 0)=updT (fun i=>i64T (l.getD i 0)) k 0 [.int .i64 x] i:=
 Zf 0 i64T l k 0 x _ (fun j=>by rcases j with _ | j<;>simp [i64T,nthT,nth])
theorem Qx {α:Type} (d:α) (tc:α→Nat→TC) (l:List α) (k n:Nat):∀ i,i<((l.drop k).take n).length→tc (((l.drop k).take n).getD i d)=tc (l.getD (k+i) d):=by
 intro i hi
 congr 1
 rw [jJ] at hi
 rw [jb,List.getElem?_take_of_lt W31,j4,← jb]
theorem Qy {α:Type} (l:List α) (k n:Nat) (h:k+n≤l.length):((l.drop k).take n).length=n:=by simp;omega
theorem Qi1 (size:Nat) (vs:List Value) (i:Nat) (tl:List TC) (h:((jB size).map fun j=>TC.val (vs.getD (i * size+j) undef))=tl):nthT tl=rowT size vs i:=by
 subst h
 funext j
 unfold nthT rowT
 have e:∀ (l:List TC) (k:Nat),nth l k=l[k]?:=fun l k=>Qo l k
 rw [e,jk]
 by_cases hj:j<size
 ·rw [ke hj,show kD j size=true by simp only [Nat.blt_eq];exact hj];rfl
 ·rw [jX W130,show kD j size=false by rw [kH];simp only [ne_eq,Nat.blt_eq];exact hj];rfl
theorem G5 {α:Type} (d:α) (tl:α→List TC) (l:List α) (size:Nat) (vs:List Value) (h:((jB l.length).map fun i=>(jB size).map fun j=>TC.val (vs.getD (i * size+j) undef))=l.map tl):∀ i,i<l.length→nthT (tl (l.getD i d))=rowT size vs i:=by
 intro i hi
 refine Qi1 size vs i _ ?_
 have:=congrArg (fun x=>x[i]?) h
 simp only [jk,ke hi,jc hi,jM,Option.some.injEq] at this
 rw [this,jb,jc hi];rfl
structure Vl where
 slotted:Bool
 slot:Int
 word:Int
 deriving Inhabited,DecidableEq
def Vl.cs (x:Vl):List C:=[.b x.slotted,.i .i64 x.slot,.i .i64 x.word]
structure Dcl where
 name:ByteArray
 word:Int
 pos:Int
 deriving Inhabited,DecidableEq
def Dcl.tl (x:Dcl):List TC:=[.val (.string x.name),.val (.int .i64 x.word),.val (.int .i64 x.pos)]
def Dcl.tc (x:Dcl):Nat→TC:=nthT x.tl
abbrev Dcl.rowR (l:List Dcl):Reg:=rowOf 3 Dcl.tc l
abbrev Dcl.ownR (l:List Dcl):Reg:=ownOf 66 3 Dcl.tc l
structure Act where
 thread:Int
 node:Int
 kind:Int
 thing:Int
 word:Int
 put:Int
 deriving Inhabited,DecidableEq
structure Nod where
 kind:Int
 op:Int
 slot:Int
 thing:Int
 a:Vl
 b:Vl
 next:Int
 els:Int
 origin:Int
 deriving Inhabited,DecidableEq
def Nod.tl (x:Nod):List TC:=[.val (.int .u8 x.kind),.val (.int .u8 x.op),.val (.int .i64 x.slot),.val (.int .i64 x.thing),.val (.bool x.a.slotted),.val (.int .i64 x.a.slot),.val (.int .i64 x.a.word),.val (.bool x.b.slotted),.val (.int .i64 x.b.slot),.val (.int .i64 x.b.word),.val (.int .i64 x.next),.val (.int .i64 x.els),.val (.int .i64 x.origin)]
def Nod.tc (x:Nod):Nat→TC:=nthT x.tl
def Nod.cs (x:Nod):List C:=[.i .u8 x.kind,.i .u8 x.op,.i .i64 x.slot,.i .i64 x.thing,.b x.a.slotted,.i .i64 x.a.slot,.i .i64 x.a.word,.b x.b.slotted,.i .i64 x.b.slot,.i .i64 x.b.word,.i .i64 x.next,.i .i64 x.els,.i .i64 x.origin]
abbrev Nod.rowR (l:List Nod):Reg:=rowOf 13 Nod.tc l
structure Grf where
 name:ByteArray
 locals:Int
 slots:Int
 nodes:List Nod
 deriving Inhabited,DecidableEq
def Grf.tl (x:Grf):List TC:=[.val (.string x.name),.val (.int .i64 x.locals),.val (.int .i64 x.slots),.sub 64 13 (x.nodes).length (fun i=>Nod.tc ((x.nodes).getD i ub))]
def Grf.tc (x:Grf):Nat→TC:=nthT x.tl
def Grf.cs (x:Grf) (r_nodes:Nat):List C:=[.v (.string x.name),.i .i64 x.locals,.i .i64 x.slots,.h r_nodes]
abbrev Grf.rowR (l:List Grf):Reg:=rowOf 4 Grf.tc l
abbrev Grf.ownR (l:List Grf):Reg:=ownOf 59 4 Grf.tc l
theorem BL:(∀ a b:Bool,((a&&b)=true)=(a=true∧b=true))∧(∀ a b:Bool,((a||b)=true)=(a=true∨b=true))∧(∀ a b:Bool,((a&&b)=false)=(a=false∨b=false))∧(∀ a b:Bool,((a||b)=false)=(a=false∧b=false)) ∧
 (∀ a:Bool,((!a)=true)=(a=false))∧(∀ a:Bool,((!a)=false)=(a=true))∧(∀ (p:Prop) [Decidable p],(decide p=true)=p)∧(∀ (p:Prop) [Decidable p],(decide p=false)=¬ p):=by
 exact ⟨by simp,by simp,by intro a b;cases a<;>cases b<;>simp,by simp,by simp,by simp,by simp,by simp⟩
def twoB (op:Int):Bool:=decide (0<op)&&decide (op<19)&&!decide (op=17)&&!decide (op=18)
def opB (op:Int):Bool:=decide (0<op)&&decide (op<19)
def useD (k:Int):Bool:=decide (k=1)||decide (k=2)||decide (k=3)||decide (k=5)
def useA (k:Int):Bool:=decide (k=2)||decide (k=4)||decide (k=7)||decide (k=9)
def useAddr (k:Int):Bool:=decide (k=3)||decide (k=4)||decide (k=5)
def useTo (k:Int):Bool:=decide (k=8)||decide (k=9)
def within (u:Bool) (n most:Int):Bool:=u&&decide (0≤n)&&decide (n<most)||!u&&decide (n=0)
def insB (i:Ins) (code memory:Int):Bool:=
 decide (0<i.kind)&&decide (i.kind<11)&&decide (0≤i.from_)&&decide (i.from_≤4096) &&
 (decide (i.kind=2)&&opB i.op||!decide (i.kind=2)&&decide (i.op=0)) &&
 within (useD i.kind) i.d 16&&within (useA i.kind) i.a 16&&within (decide (i.kind=2)&&twoB i.op) i.b 16 &&
 within (useAddr i.kind) i.addr memory&&within (useTo i.kind) i.to code&&(decide (i.kind=1)||decide (i.word=0))
def addrB (k:Int):Bool:=decide (k=2)||decide (k=3)||decide (k=4)||decide (k=8)
def didB (d:Did):Bool:=
 decide (0<d.kind)&&decide (d.kind<9)&&decide (0≤d.core)&&decide (d.core<8)&&decide (0≤d.pc)&&decide (d.pc<16384)&&decide (0≤d.addr)&&decide (d.addr<4096) &&
 (addrB d.kind||decide (d.addr=0))&&(addrB d.kind||decide (d.kind=6)||decide (d.word=0))&&(decide (d.kind=4)||decide (d.put=0))&&(decide (d.kind=2)||!d.own)
def digitB (c:Int):Bool:=decide (48≤c)&&decide (c≤57)
def letterB (c:Int):Bool:=decide (97≤c)&&decide (c≤122)||decide (65≤c)&&decide (c≤90)||decide (c=95)
def wordB (s:ByteArray):Bool:=
 decide (s={ data:=#[115,104,97,114,101,100] })||decide (s={ data:=#[108,111,99,107] })||decide (s={ data:=#[116,104,114,101,97,100] })||decide (s={ data:=#[108,111,99,97,108] })||decide (s={ data:=#[105,102] })||decide (s={ data:=#[101,108,115,101] })||decide (s={ data:=#[119,104,105,108,101] })||decide (s={ data:=#[112,114,105,110,116] })||decide (s={ data:=#[115,107,105,112] })||decide (s={ data:=#[115,119,97,112] })
def byteAt (s:ByteArray) (i:Nat):Int:=((s.data.toList.getD i 0).toNat:Int)
def letgB (c:UInt8):Bool:=letterB (c.toNat:Int)||digitB (c.toNat:Int)
def restB (s:ByteArray) (i:Int):Bool:=(s.data.toList.drop i.toNat).all letgB
def nameB (s:ByteArray):Bool:=decide (1≤(s.size:Int))&&decide ((s.size:Int)≤32)&&!digitB (byteAt s 0)&&!wordB s&&restB s 0
theorem Q6o (s:ByteArray) (i:Int) (h0:0≤i) (h:i<s.size):restB s i=((letterB (byteAt s i.toNat)||digitB (byteAt s i.toNat))&&restB s (i+1)):=by
 unfold restB byteAt
 have hlt:i.toNat<s.data.toList.length:=by simp;omega
 have e:(i+1).toNat=i.toNat+1:=by omega
 rw [e,kF hlt,List.all_cons,jb,jc hlt]
 rfl
theorem Qfr (s:ByteArray) (i:Int) (h:(s.size:Int)≤i):restB s i=true:=by
 unfold restB
 rw [kq W130]
 rfl
def allFrom (p:Int→Bool) (i n:Int):Bool:=(jB (n-i).toNat).all fun j=>p (i+j)
theorem Qao (p:Int→Bool) {i n:Int} (h:i<n):allFrom p i n=(p i&&allFrom p (i+1) n):=by
 unfold allFrom
 rw [show (n-i).toNat=(n-(i+1)).toNat+1 by omega,List.range_succ_eq_map,List.all_cons,List.all_map]
 simp only [Function.comp_def]
 congr 1
 ·simp
 ·congr 1;funext j
  congr 1
  rw [show ((Nat.succ j:Nat):Int)=(j:Int)+1 from rfl];omega
def findF (p:Int→Bool):Nat→Int→Int
 | 0,i=>i
 | n+1,i=>if p i then findF p n (i+1) else i
def findFrom (p:Int→Bool) (i n:Int):Int:=findF p (n-i).toNat i
def corAt (cs:List Cor) (i:Int):Cor:=cs.getD i.toNat ub
def insAt (l:List Ins) (i:Int):Ins:=l.getD i.toNat ub
def pDiff (cs:List Cor) (i k:Int):Bool:=!decide ((corAt cs k).name=(corAt cs i).name)
def corB (cs:List Cor) (i:Int):Bool:=
 nameB (corAt cs i).name&&allFrom (pDiff cs i) 0 i&&decide (1≤((corAt cs i).code.length:Int))&&decide (((corAt cs i).code.length:Int)≤16384) &&
 (decide ((insAt (corAt cs i).code (((corAt cs i).code.length:Int)-1)).kind=10)||decide ((insAt (corAt cs i).code (((corAt cs i).code.length:Int)-1)).kind=8))
def shapedB (mem:List Int) (shared locks bu:Int) (cs:List Cor):Bool:=
 decide (0≤shared)&&decide (shared≤64)&&decide (0≤locks)&&decide (locks≤16)&&decide (shared+locks≤(mem.length:Int))&&decide ((mem.length:Int)≤4096)&&decide (1≤bu)&&decide (bu≤16)&&decide ((cs.length:Int)≤8) &&
 allFrom (corB cs) 0 cs.length
def insOk (mem:List Int) (cs:List Cor) (i k:Int):Bool:=insB (insAt (corAt cs i).code k) (corAt cs i).code.length mem.length
def rowB (mem:List Int) (cs:List Cor) (i:Int):Bool:=decide (findFrom (insOk mem cs i) 0 (corAt cs i).code.length=(corAt cs i).code.length)
def badI (mem:List Int) (cs:List Cor):Int:=findFrom (rowB mem cs) 0 cs.length
def chkE (mem:List Int) (shared locks bu:Int) (cs:List Cor):Int:=if shapedB mem shared locks bu cs&&decide (badI mem cs=cs.length) then 0 else 160
theorem Q7:IntKind.i64.min=-9223372036854775808:=rfl
theorem Q8:IntKind.i64.max=9223372036854775807:=rfl
theorem Qa:IntKind.u8.min=0:=rfl
theorem Qb:IntKind.u8.max=255:=rfl
def flwL (n:Nod):List Int:=if n.kind=9 then [] else if n.kind=8∧n.els≠n.next then [n.next,n.els] else [n.next]
theorem Qks {n:Nod} (h:decide (n.kind=9)=true):flwL n=[]:=by
 unfold flwL;rw [if_pos (uc h)]
theorem Qkt {n:Nod} (h:decide (n.kind=9)=false) (h2:(decide (n.kind=8)&&!decide (n.els=n.next))=true):flwL n=[n.next,n.els]:=by
 unfold flwL;rw [if_neg (ud h),if_pos W166]
theorem Qku {n:Nod} (h:decide (n.kind=9)=false) (h2:(decide (n.kind=8)&&!decide (n.els=n.next))=false):flwL n=[n.next]:=by
 unfold flwL;rw [if_neg (ud h),if_neg (by intro h3;simp [h3] at h2)]
def prtN (n:Nod):Int:=if n.kind=1 then (if twoB n.op then 59 else 43) else if n.kind=2 then 38 else if n.kind=3 then 44 else if n.kind=4 then 46 else if n.kind=5 then 36 else if n.kind=6 then 36 else if n.kind=7 then 40 else if n.kind=8 then 104 else 0
theorem Qi2 {n:Nod} (hk:n.kind=1) (h:(decide ((1:Int)=(1:Int))&&twoB n.op)=true):prtN n=59:=by
 unfold prtN;rw [if_pos hk,if_pos W183]
theorem Qi3 {n:Nod} (hk:n.kind=1) (h:(decide ((1:Int)=(1:Int))&&twoB n.op)=false):prtN n=43:=by
 unfold prtN;rw [if_pos hk,if_neg W183]
def usesB (p h:Int):Bool:=!decide (bits kt jz p h=0)
def withinP (p k h most:Int):Bool:=!usesB p h&&decide (k=0)||(usesB p h&&decide (0≤k)&&decide (k<most))
def valueP (p slots:Int) (v:Vl) (h:Int):Bool:=if usesB p h=false then decide (v=⟨false,0,0⟩) else if v.slotted=true then decide (0≤v.slot)&&decide (v.slot<slots)&&decide (v.word=0) else decide (v.slot=0)
def rightN (ns nl:Int) (g:Grf) (n:Nod):Bool:=
 !(decide (n.kind=0)||decide (10≤n.kind)||decide (n.origin<0)||decide (4096≤n.origin)) &&
 (withinP (prtN n) n.op 1 19&&withinP (prtN n) n.slot 2 g.slots&&withinP (prtN n) n.thing 4 (if n.kind=5∨n.kind=6 then nl else ns) &&
  withinP (prtN n) n.next 32 g.nodes.length&&withinP (prtN n) n.els 64 g.nodes.length&&valueP (prtN n) g.slots n.a 8&&valueP (prtN n) g.slots n.b 16)
section
variable {ns nl:Int} {g:Grf} {n:Nod}
theorem Qef (h:(decide (n.kind=0)||decide (10≤n.kind)||decide (n.origin<0)||decide (4096≤n.origin))=true):rightN ns nl g n=false:=by unfold rightN;rw [h];rfl
theorem Qfs (h:(decide (n.kind=0)||decide (10≤n.kind)||decide (n.origin<0)||decide (4096≤n.origin))=false) (h2:(decide (n.kind=5)||decide (n.kind=6))=true):rightN ns nl g n=(withinP (prtN n) n.op 1 19&&withinP (prtN n) n.slot 2 g.slots&&withinP (prtN n) n.thing 4 nl&&withinP (prtN n) n.next 32 g.nodes.length&&withinP (prtN n) n.els 64 g.nodes.length&&valueP (prtN n) g.slots n.a 8&&valueP (prtN n) g.slots n.b 16):=by
 unfold rightN;rw [h,if_pos W166];rfl
theorem Qft (h:(decide (n.kind=0)||decide (10≤n.kind)||decide (n.origin<0)||decide (4096≤n.origin))=false) (h2:(decide (n.kind=5)||decide (n.kind=6))=false):rightN ns nl g n=(withinP (prtN n) n.op 1 19&&withinP (prtN n) n.slot 2 g.slots&&withinP (prtN n) n.thing 4 ns&&withinP (prtN n) n.next 32 g.nodes.length&&withinP (prtN n) n.els 64 g.nodes.length&&valueP (prtN n) g.slots n.a 8&&valueP (prtN n) g.slots n.b 16):=by
 unfold rightN;rw [h,if_neg W166];rfl
end
def goN:List (ByteArray×Bool)→(ByteArray→Option Bool)→Bool
 | [],_=>true
 | s::r,D=>if (nameB s.1&&!(D s.1).getD false)=true∧s.2=true then goN r (fun q=>if q=s.1 then some true else D q) else false
def nmS (l:List Dcl):List (ByteArray×Bool):=l.map fun d=>(d.name,true)
def nmL (l:List Dcl):List (ByteArray×Bool):=l.map fun d=>(d.name,decide (d.word=0))
def nmG (l:List Grf):List (ByteArray×Bool):=l.map fun g=>(g.name,true)
def manyB (sh lk:List Dcl) (gs:List Grf):Bool:=decide (64<(sh.length:Int))||decide (16<(lk.length:Int))||decide (8<(gs.length:Int))
def namedB (sh lk:List Dcl) (gs:List Grf):Bool:=!manyB sh lk gs&&goN (nmS sh++(nmL lk++nmG gs)) (fun _=>none)
theorem Q0y {α β:Type} (f:α→β) (d:α) {l:List α} {n:Nat} (h:n<l.length):(l.drop n).map f=f (l.getD n d)::(l.drop (n+1)).map f:=by
 rw [kF h,jV,jb,jc h];rfl
section
variable {sh lk:List Dcl} {gs:List Grf} {D:ByteArray→Option Bool} {n:Nat} {R:List (ByteArray×Bool)}
theorem Qk4 (h:n<sh.length):goN (nmS (sh.drop n)++R) D=(if (nameB (sh.getD n ub).name&&!(D (sh.getD n ub).name).getD false)=true then goN (nmS (sh.drop (n+1))++R) (fun q=>if q=(sh.getD n ub).name then some true else D q) else false):=by
 unfold nmS;rw [Q0y _ ub h,List.cons_append,goN];simp
theorem Qk5 (h:n<lk.length):goN (nmL (lk.drop n)++R) D=(if (nameB (lk.getD n ub).name&&!(D (lk.getD n ub).name).getD false)=true∧(lk.getD n ub).word=0 then goN (nmL (lk.drop (n+1))++R) (fun q=>if q=(lk.getD n ub).name then some true else D q) else false):=by
 unfold nmL;rw [Q0y _ ub h,List.cons_append,goN];simp
theorem Qk6 (h:n<gs.length):goN (nmG (gs.drop n)) D=(if (nameB (gs.getD n ub).name&&!(D (gs.getD n ub).name).getD false)=true then goN (nmG (gs.drop (n+1))) (fun q=>if q=(gs.getD n ub).name then some true else D q) else false):=by
 unfold nmG;rw [Q0y _ ub h,goN];simp
end
section
variable {sh lk:List Dcl} {gs:List Grf} {D:ByteArray→Option Bool} {n:Nat} {R:List (ByteArray×Bool)}
theorem Qeg (h:(decide ((64:Int)<(sh.length:Int))||decide ((16:Int)<(lk.length:Int))||decide ((8:Int)<(gs.length:Int)))=true):namedB sh lk gs=false:=by unfold namedB manyB;rw [h];rfl
theorem Q0i (h:(decide ((64:Int)<(sh.length:Int))||decide ((16:Int)<(lk.length:Int))||decide ((8:Int)<(gs.length:Int)))=false):namedB sh lk gs=goN (nmS sh++(nmL lk++nmG gs)) (fun _=>none):=by unfold namedB manyB;rw [h];rfl
theorem Q3t (h:(decide ((64:Int)<(sh.length:Int))||decide ((16:Int)<(lk.length:Int))||decide ((8:Int)<(gs.length:Int)))=false):sh.length≤64∧lk.length≤16∧gs.length≤8:=by
 simp only [j9,decide_eq_false_iff_not] at h;omega
theorem Qi4 (h:n<sh.length) (hc:(!(nameB (sh.getD n ub).name&&!(D (sh.getD n ub).name).getD false))=true):goN (nmS (sh.drop n)++R) D=false:=by
 rw [Qk4 h,if_neg];intro h2;rw [h2] at hc;cases hc
theorem Qi5 (h:n<sh.length) (hc:(!(nameB (sh.getD n ub).name&&!(D (sh.getD n ub).name).getD false))=false) :
 goN (nmS (sh.drop n)++R) D=goN (nmS (sh.drop (n+1))++R) (fun q=>if q=(sh.getD n ub).name then some true else D q):=by
 rw [Qk4 h,if_pos];simpa using hc
theorem Qi6 (h:n<lk.length) (hc:(!(nameB (lk.getD n ub).name&&!(D (lk.getD n ub).name).getD false)||!decide ((lk.getD n ub).word=(0:Int)))=true):goN (nmL (lk.drop n)++R) D=false:=by
 rw [Qk5 h,if_neg];rintro ⟨h2,h3⟩;rw [h2,h3] at hc;cases hc
theorem Qi7 (h:n<lk.length) (hc:(!(nameB (lk.getD n ub).name&&!(D (lk.getD n ub).name).getD false)||!decide ((lk.getD n ub).word=(0:Int)))=false) :
 goN (nmL (lk.drop n)++R) D=goN (nmL (lk.drop (n+1))++R) (fun q=>if q=(lk.getD n ub).name then some true else D q):=by
 simp only [j9] at hc
 rw [Qk5 h,if_pos];exact ⟨by simpa using hc.1,by simpa using hc.2⟩
theorem Qi8 (h:n<gs.length) (hc:(!(nameB (gs.getD n ub).name&&!(D (gs.getD n ub).name).getD false))=true):goN (nmG (gs.drop n)) D=false:=by
 rw [Qk6 h,if_neg];intro h2;rw [h2] at hc;cases hc
theorem Qi9 (h:n<gs.length) (hc:(!(nameB (gs.getD n ub).name&&!(D (gs.getD n ub).name).getD false))=false) :
 goN (nmG (gs.drop n)) D=goN (nmG (gs.drop (n+1))) (fun q=>if q=(gs.getD n ub).name then some true else D q):=by
 rw [Qk6 h,if_pos];simpa using hc
end
abbrev HL:=List (List Int)
abbrev HF:=Int→Option Bool
def hIn (now:List Int) (q:HL→HF→List Int→Int):List Int→HL→HF→List Int→Int
 | [],L,F,T=>q L F T
 | to::r,L,F,T=>if (F to).getD false=false then hIn now q r (L.set to.toNat now) (fun a=>if a=to then some true else F a) (T++[to])
   else if L.getD to.toNat []=now then hIn now q r L F T else to
def nowH (n:Nod) (l:List Int):Option (List Int):=
 if n.kind=5 then some (l++[n.thing]) else if n.kind=6 then (if l.length=0∨l.getD (l.length-1) 0≠n.thing then none else some (l.take (l.length-1)))
 else if n.kind=9∧0<l.length then none else some l
def hOut (ns:List Nod):Nat→Nat→HL→HF→List Int→Int
 | 0,_,_,_,_=>-1
 | fu+1,k,L,F,T=>if k<T.length then
    match nowH (ns.getD (T.getD k 0).toNat ub) (L.getD (T.getD k 0).toNat []) with
    | none=>T.getD k 0
    | some now=>hIn now (hOut ns fu (k+1)) (flwL (ns.getD (T.getD k 0).toNat ub)) L F T
   else -1
def heldF (ns:List Nod):Int:=hOut ns (ns.length+1) 0 (ji ns.length []) (fun a=>if a=0 then some true else none) [0]
structure HInv (N k:Nat) (L:HL) (F:HF) (T:List Int):Prop where
 len:L.length=N
 nd:T.Nodup
 rng:∀ x∈T,0≤x∧x<(N:Int)
 fd:∀ x,(F x).getD false=true↔x∈T
 short:∀ i,(L.getD i []).length≤k
theorem Q07:∀ (N:Nat) (T:List Int),T.Nodup→(∀ x∈T,0≤x∧x<(N:Int))→T.length≤N
 | 0,T,_,h=>by
   cases T with
   | nil=>exact jm _
   | cons x r=>have:=h x (.head _);omega
 | N+1,T,hn,h=>by
   by_cases hm:(N:Int)∈T
   ·have h1:=Q07 N (T.erase (N:Int)) (hn.erase _) (fun x hx=>by
     have h2:=(hn.mem_erase_iff).1 hx
     have:=h x h2.2
     have:=h2.1
     omega)
    have:=List.length_erase_of_mem hm
    omega
   ·have:=Q07 N T hn (fun x hx=>by
     have:=h x hx
     have:x≠(N:Int):=fun e=>hm (e▸hx)
     omega)
    omega
theorem HInv.le {N k:Nat} {L:HL} {F:HF} {T:List Int} (h:HInv N k L F T):T.length≤N:=Q07 N T h.nd h.rng
theorem HInv.up {N k k':Nat} {L:HL} {F:HF} {T:List Int} (h:HInv N k L F T) (hk:k≤k'):HInv N k' L F T:=⟨h.len,h.nd,h.rng,h.fd,fun i=>kj (h.short i) hk⟩
theorem HInv.put {N k:Nat} {L:HL} {F:HF} {T:List Int} (h:HInv N k L F T) {to:Int} (hf:(F to).getD false=false) (h0:0≤to) (h1:to<(N:Int)) {now:List Int} (hn:now.length≤k) :
 HInv N k (L.set to.toNat now) (fun a=>if a=to then some true else F a) (T++[to]):=by
 have hx:to ∉ T:=fun hm=>by have:=(h.fd to).2 hm;rw [hf] at this;cases this
 refine ⟨by rw [jt];exact h.len,?_,fun x hx'=>?_,fun x=>?_,fun i=>?_⟩
 ·rw [List.nodup_append]
  exact ⟨h.nd,W149,fun a ha b hb=>by rw [jI] at hb;subst hb;intro e;exact hx (e▸ha)⟩
 ·rw [kM,jI] at hx'
  rcases hx' with hx' | rfl
  ·exact h.rng x hx'
  ·exact ⟨h0,h1⟩
 ·rw [kM,jI]
  show (if x=to then some true else F x).getD false=true↔_
  split
  ·rename_i e;subst e;simp
  ·rename_i e;rw [h.fd x];simp [e]
 ·rw [jb,List.getElem?_set]
  split
  ·split
   ·exact hn
   ·simp
  ·rw [← jb];exact h.short i
theorem HInv.first {N:Nat} (h:0<N):HInv N 0 (ji N []) (fun a=>if a=0 then some true else none) [0]:=by
 refine ⟨by simp,W149,fun x hx=>?_,fun x=>?_,fun i=>?_⟩
 ·rw [jI] at hx;subst hx;omega
 ·rw [jI];show (if x=0 then some true else none).getD false=true↔_;split<;>simp_all
 ·rw [jb,j7];split<;>simp
structure VCo where
 pos:Int
 halted:Bool
 regs:List Int
 buf:List Sto
 deriving Inhabited,DecidableEq
def setR (l:List Int) (n:Nat) (x:Int):List Int:=[if n=0 then x else l.getD 0 0,if n=1 then x else l.getD 1 0,if n=2 then x else l.getD 2 0,if n=3 then x else l.getD 3 0,if n=4 then x else l.getD 4 0,if n=5 then x else l.getD 5 0,if n=6 then x else l.getD 6 0,if n=7 then x else l.getD 7 0,if n=8 then x else l.getD 8 0,if n=9 then x else l.getD 9 0,if n=10 then x else l.getD 10 0,if n=11 then x else l.getD 11 0,if n=12 then x else l.getD 12 0,if n=13 then x else l.getD 13 0,if n=14 then x else l.getD 14 0,if n=15 then x else l.getD 15 0]
def bufUp (addr:Int) (b:List Sto) (w:Int):Nat→Int×Bool
 | 0=>(w,false)
 | n+1=>if (b.getD n ub).addr=addr then ((b.getD n ub).word,true) else bufUp addr b w n
def loadV (mem:List Int) (addr:Int) (b:List Sto):Int×Bool:=bufUp addr b (mem.getD addr.toNat 0) b.length
def loadT (i:Ins) (mem:List Int) (c:VCo):VCo:={ c with regs:=setR c.regs i.d.toNat (loadV mem i.addr c.buf).1 }
structure Hdl where
 a:Option Addr
 n:Nat
 c:Nat
 deriving Inhabited
def Hdl.none:Hdl:=⟨Option.none,0,0⟩
abbrev Hdl.v (h:Hdl):Value:=.slice h.a h.n h.c
def Hdl.tl (x:Hdl):List TC:=[.val (.slice x.a x.n x.c)]
def Hdl.tc (x:Hdl):Nat→TC:=nthT x.tl
abbrev Hdl.ownR (l:List Hdl):Reg:=ownOf 49 1 Hdl.tc l
theorem Qia (n:Nat) (f:Nat→Nat→TC) (hf:f=fun _=>valT [.slice Option.none 0 0]):∀ i,i<n→Hdl.tc ((ji n Hdl.none).getD i ub)=f i:=by
 intro i hi
 subst hf
 rw [jb,j7,if_pos hi]
 funext j
 match j with
 | 0=>rfl
 | j+1=>rfl
theorem Qkv (l:List Hdl) (k:Nat) (x:Hdl):∀ i,i<(l.set k x).length→Hdl.tc ((l.set k x).getD i ub)=updT (fun i=>Hdl.tc (l.getD i ub)) k 0 [.slice x.a x.n x.c] i:=
 Zf ub Hdl.tc l k 0 x _ (fun j=>by rcases j with _ | j<;>simp [Hdl.tc,Hdl.tl,nthT,nth])
def Is (X:Ext) (v:Value):Prop:=∃ l:List Int,X.Tab v 1 l.length (fun j=>i64T (l.getD j 0))
theorem Qkw {X:Ext} {v:Value} {l l':List Int} (h:X.Tab v 1 l.length (fun j=>i64T (l.getD j 0))) (h':X.Tab v 1 l'.length (fun j=>i64T (l'.getD j 0))):l=l':=by
 obtain ⟨A,c,e,_,_,_,h1⟩:=h
 obtain ⟨A',c',e',_,_,_,h1'⟩:=h'
 rw [e] at e'
 injection e' with e1 e2 e3
 refine List.ext_getElem e2 fun i hi hi'=>?_
 obtain ⟨ad,ha,h2⟩:=h1 W31
 obtain ⟨ad',ha',h2'⟩:=h1' W31
 rw [← e1,ha] at ha'
 injection ha' with ha'
 subst ha'
 obtain ⟨u,k1,k2⟩:=h2 i 0 hi W31
 obtain ⟨u',k1',k2'⟩:=h2' i 0 hi' W31
 rw [k1] at k1'
 injection k1' with k1'
 subst k1'
 have k2:u=.int .i64 (l.getD i 0):=k2
 have k2':u=.int .i64 (l'.getD i 0):=k2'
 rw [k2] at k2'
 injection k2' with _ k3
 rw [jb,jb,jc hi,jc hi'] at k3
 exact k3
open Classical in
noncomputable def rd (X:Ext) (v:Value):List Int:=if h:Is X v then h.choose else []
theorem Yi {X:Ext} {v:Value} (h:Is X v):X.Tab v 1 (rd X v).length (fun j=>i64T ((rd X v).getD j 0)):=by
 unfold rd;rw [dif_pos h];exact h.choose_spec
theorem Qeh {X:Ext} {v:Value} {l:List Int} (h:X.Tab v 1 l.length (fun j=>i64T (l.getD j 0))):rd X v=l:=Qkw (Yi ⟨l,h⟩) h
theorem Qn3 (X:Ext):rd X Hdl.none.v=[]:=Qeh (l:=[]) (Ext.Tab.nil X 1 _)
theorem Qn4 (X:Ext):Is X Hdl.none.v:=⟨[],Ext.Tab.nil X 1 _⟩
theorem Qct {X X':Ext} (hi:X.Into X') {v:Value} (h:Is X v):Is X' v∧rd X' v=rd X v:=⟨⟨_,hi _ _ _ _ (Yi h)⟩,Qeh (hi _ _ _ _ (Yi h))⟩
noncomputable def rds (X:Ext) (l:List Hdl):List (List Int):=l.map fun h=>rd X h.v
def Alls (X:Ext) (l:List Hdl):Prop:=∀ h∈l,Is X h.v
theorem Q46 (X:Ext) (l:List Hdl):(rds X l).length=l.length:=jK _
theorem Q47 (X:Ext) (l:List Hdl) (i:Nat) (hi:i<l.length):(rds X l).getD i []=rd X (l.getD i ub).v:=by
 unfold rds
 rw [jb,jk,jb,jc hi];rfl
theorem Q5b {X:Ext} {l:List Hdl} (h:Alls X l) {i:Nat} (hi:i<l.length):Is X (l.getD i ub).v:=by
 rw [jb,jc hi]
 exact h _ (jQ hi)
theorem Qfu (X:Ext) (n:Nat):Alls X (ji n Hdl.none):=fun h hh=>by rw [List.eq_of_mem_replicate hh];exact Qn4 X
theorem Q5c (X:Ext) (n:Nat):rds X (ji n Hdl.none)=ji n []:=by unfold rds;rw [List.map_replicate,Qn3]
theorem Qfv {X X':Ext} (hi:X.Into X') {l:List Hdl} (h:Alls X l):Alls X' l∧rds X' l=rds X l:=
 ⟨fun x hx=>(Qct hi (h x hx)).1,km fun x hx=>(Qct hi (h x hx)).2⟩
theorem Qap {X X':Ext} (hi:X.Into X') {l:List Hdl} (h:Alls X l) {now:List Int} {A:Option Addr} {cp:Nat} (ht:X'.Tab (.slice A now.length cp) 1 now.length (fun j=>i64T (now.getD j 0))) (k:Nat) :
 Alls X' (l.set k ⟨A,now.length,cp⟩)∧rds X' (l.set k ⟨A,now.length,cp⟩)=(rds X l).set k now:=by
 have h0:=Qfv hi h
 refine ⟨fun x hx=>?_,?_⟩
 ·rcases kE hx with hx | rfl
  ·exact h0.1 x hx
  ·exact ⟨now,ht⟩
 ·unfold rds at h0 ⊢
  rw [List.map_set,h0.2,Qeh ht]
theorem Yv (n:Nod):(flwL n).length≤2:=by unfold flwL;split<;>(try split)<;>simp
structure HJ (ns:List Nod) (k:Int) (X:Ext) (V:List Hdl) (n:Nat) (F:HF) (T:List Int):Prop where
 k0:0≤k
 kn:k≤(ns.length:Int)
 inv:HInv ns.length k.toNat (rds X V) F T
 all:Alls X V
 cnt:n≤T.length
 run:heldF ns=hOut ns (ns.length+1-k.toNat) k.toNat (rds X V) F T
structure HK (ns:List Nod) (k:Int) (nd:Nod) (nw:List Int) (i:Int) (X:Ext) (V:List Hdl) (n:Nat) (F:HF) (T:List Int):Prop where
 i0:0≤i
 il:i≤((flwL nd).length:Int)
 k0:0≤k
 kn:k<(ns.length:Int)
 inv:HInv ns.length (k.toNat+1) (rds X V) F T
 all:Alls X V
 cnt:n≤T.length
 nl:nw.length≤k.toNat+1
 run:heldF ns=hIn nw (hOut ns (ns.length-k.toNat) (k.toNat+1)) ((flwL nd).drop i.toNat) (rds X V) F T
theorem HJ.start {ns:List Nod} (h:1≤ns.length) (X:Ext):HJ ns 0 X (ji ns.length Hdl.none) 1 (fun q=>if q=0 then some true else none) [0]:=
 ⟨jA _,by omega,by rw [Q5c];exact HInv.first W31,Qfu X _,jm _,by rw [Q5c];rfl⟩
section
variable {ns:List Nod} {k:Int} {X:Ext} {V:List Hdl} {n:Nat} {F:HF} {T:List Int}
theorem HJ.len (h:HJ ns k X V n F T):V.length=ns.length:=by rw [← Q46 X V];exact h.inv.len
theorem HJ.at_ (h:HJ ns k X V n F T) (hk:k<(T.length:Int)):0≤T.getD k.toNat 0∧T.getD k.toNat 0<(ns.length:Int):=by
 have hk0:=h.k0
 have hlt:k.toNat<T.length:=by omega
 rw [jb,jc hlt]
 exact h.inv.rng _ (jQ hlt)
theorem HJ.most (h:HJ ns k X V n F T):T.length≤ns.length:=h.inv.le
theorem HJ.is (h:HJ ns k X V n F T) (hk:k<(T.length:Int)):Is X (V.getD (T.getD k.toNat 0).toNat ub).v:=Q5b h.all (by have:=h.at_ hk;have:=h.len;omega)
theorem HJ.get (h:HJ ns k X V n F T) (hk:k<(T.length:Int)):(rds X V).getD (T.getD k.toNat 0).toNat []=rd X (V.getD (T.getD k.toNat 0).toNat ub).v:=Q47 X V _ (by have:=h.at_ hk;have:=h.len;omega)
theorem HJ.short (h:HJ ns k X V n F T) (hk:k<(T.length:Int)):(rd X (.slice (V.getD (T.getD k.toNat 0).toNat ub).a (V.getD (T.getD k.toNat 0).toNat ub).n (V.getD (T.getD k.toNat 0).toNat ub).c)).length≤k.toNat:=by
 show (rd X (V.getD (T.getD k.toNat 0).toNat ub).v).length≤k.toNat
 rw [← h.get hk];exact h.inv.short _
theorem HJ.step (h:HJ ns k X V n F T) (hk:k<(T.length:Int)):heldF ns=(match nowH (ns.getD (T.getD k.toNat 0).toNat ub) (rd X (V.getD (T.getD k.toNat 0).toNat ub).v) with
 | none=>T.getD k.toNat 0
 | some now=>hIn now (hOut ns (ns.length-k.toNat) (k.toNat+1)) (flwL (ns.getD (T.getD k.toNat 0).toNat ub)) (rds X V) F T):=by
 have hk0:=h.k0
 have hm:=h.most
 rw [h.run,show ns.length+1-k.toNat=(ns.length-k.toNat)+1 by omega,hOut,if_pos W31,h.get hk]<;>rfl
theorem HJ.fault (h:HJ ns k X V n F T) (hk:k<(T.length:Int)) (hn:nowH (ns.getD (T.getD k.toNat 0).toNat ub) (rd X (V.getD (T.getD k.toNat 0).toNat ub).v)=none):heldF ns=T.getD k.toNat 0:=by rw [h.step hk,hn]
theorem HJ.done (h:HJ ns k X V n F T) (hk:¬ k<(T.length:Int)):heldF ns=-1:=by
 have hk0:=h.k0
 have hkn:=h.kn
 rw [h.run,show ns.length+1-k.toNat=(ns.length-k.toNat)+1 by omega,hOut,if_neg W31]
theorem Qib {nd:Nod} {l nw:List Int} (h:nowH nd l=some nw):nw.length≤l.length+1:=by
 unfold nowH at h
 split at h
 ·cases h;simp
 ·split at h
  ·split at h
   ·cases h
   ·cases h;simp;omega
  ·split at h
   ·cases h
   ·cases h;omega
theorem HJ.inner (h:HJ ns k X V n F T) (hk:k<(T.length:Int)) {nw:List Int} (hn:nowH (ns.getD (T.getD k.toNat 0).toNat ub) (rd X (V.getD (T.getD k.toNat 0).toNat ub).v)=some nw) :
 HK ns k (ns.getD (T.getD k.toNat 0).toNat ub) nw 0 X V n F T:=
 ⟨jA _,by omega,h.k0,by have:=h.most;have:=h.k0;omega,h.inv.up W31,h.all,h.cnt,kj (Qib hn) (Nat.succ_le_succ (h.short hk)),by rw [h.step hk,hn];rfl⟩
end
section
variable {ns:List Nod} {k:Int} {nd:Nod} {nw:List Int} {i:Int} {X:Ext} {V:List Hdl} {n:Nat} {F:HF} {T:List Int}
theorem HK.len (h:HK ns k nd nw i X V n F T):V.length=ns.length:=by rw [← Q46 X V];exact h.inv.len
theorem HK.most (h:HK ns k nd nw i X V n F T):T.length≤ns.length:=h.inv.le
theorem HK.to_ (h:HK ns k nd nw i X V n F T) (hi:i<((flwL nd).length:Int)) (hq:∀ x∈flwL nd,0≤x∧x<(ns.length:Int)):0≤(flwL nd).getD i.toNat 0∧(flwL nd).getD i.toNat 0<(ns.length:Int):=by
 have h0:=h.i0
 have hlt:i.toNat<(flwL nd).length:=by omega
 rw [jb,jc hlt]
 exact hq _ (jQ hlt)
theorem HK.drop (h:HK ns k nd nw i X V n F T) (hi:i<((flwL nd).length:Int)):(flwL nd).drop i.toNat=(flwL nd).getD i.toNat 0::(flwL nd).drop (i.toNat+1):=by
 have h0:=h.i0
 have hlt:i.toNat<(flwL nd).length:=by omega
 rw [kF hlt,jb,jc hlt];rfl
theorem HK.is (h:HK ns k nd nw i X V n F T) {to:Int} (h0:0≤to∧to<(ns.length:Int)):Is X (V.getD to.toNat ub).v:=Q5b h.all (by have:=h.len;omega)
theorem HK.put (h:HK ns k nd nw i X V n F T) (hi:i<((flwL nd).length:Int)) (hq:∀ x∈flwL nd,0≤x∧x<(ns.length:Int)) (hf:(!(F ((flwL nd).getD i.toNat 0)).getD false)=true) {X':Ext} {A:Option Addr} {c:Nat} (hin:X.Into X')
 (ht:X'.Tab (.slice A nw.length c) 1 nw.length (fun j=>i64T (nw.getD j 0))) :
 HK ns k nd nw (i+1) X' (V.set ((flwL nd).getD i.toNat 0).toNat ⟨A,nw.length,c⟩) (n+1) (fun a=>if a=(flwL nd).getD i.toNat 0 then some true else F a) (T++[(flwL nd).getD i.toNat 0]):=by
 have hs:=Qap hin h.all ht ((flwL nd).getD i.toNat 0).toNat
 have h0:=h.to_ hi hq
 have hf:(F ((flwL nd).getD i.toNat 0)).getD false=false:=by simpa using hf
 have e:=h.i0
 refine ⟨by omega,by omega,h.k0,h.kn,by rw [hs.2];exact h.inv.put hf h0.1 h0.2 h.nl,hs.1,by simp;exact h.cnt,h.nl,?_⟩
 rw [h.run,h.drop hi,hIn,if_pos hf,hs.2,show (i+1).toNat=i.toNat+1 by omega]
theorem HK.skip (h:HK ns k nd nw i X V n F T) (hi:i<((flwL nd).length:Int)) (hq:∀ x∈flwL nd,0≤x∧x<(ns.length:Int)) (hf:(!(F ((flwL nd).getD i.toNat 0)).getD false)=false) (he:(!decide (rd X (V.getD ((flwL nd).getD i.toNat 0).toNat ub).v=nw))=false) :
 HK ns k nd nw (i+1) X V n F T:=by
 have h0:=h.to_ hi hq
 have hf:(F ((flwL nd).getD i.toNat 0)).getD false=true:=by simpa using hf
 have he:rd X (V.getD ((flwL nd).getD i.toNat 0).toNat ub).v=nw:=by simpa using he
 have e:=h.i0
 refine ⟨by omega,by omega,h.k0,h.kn,h.inv,h.all,h.cnt,h.nl,?_⟩
 rw [h.run,h.drop hi,hIn,if_neg (by rw [hf];decide),Q47 X V _ (by have:=h.len;omega),if_pos he,show (i+1).toNat=i.toNat+1 by omega]
theorem HK.fault (h:HK ns k nd nw i X V n F T) (hi:i<((flwL nd).length:Int)) (hq:∀ x∈flwL nd,0≤x∧x<(ns.length:Int)) (hf:(!(F ((flwL nd).getD i.toNat 0)).getD false)=false) (he:(!decide (rd X (V.getD ((flwL nd).getD i.toNat 0).toNat ub).v=nw))=true) :
 heldF ns=(flwL nd).getD i.toNat 0:=by
 have h0:=h.to_ hi hq
 have hf:(F ((flwL nd).getD i.toNat 0)).getD false=true:=by simpa using hf
 have he:¬ rd X (V.getD ((flwL nd).getD i.toNat 0).toNat ub).v=nw:=by simpa using he
 rw [h.run,h.drop hi,hIn,if_neg (by rw [hf];decide),Q47 X V _ (by have:=h.len;omega),if_neg he]
theorem HK.done (h:HK ns k nd nw i X V n F T) (hi:¬ i<((flwL nd).length:Int)):HJ ns (k+1) X V n F T:=by
 have h1:=h.il
 have h2:=h.k0
 have h3:=h.kn
 refine ⟨by omega,by omega,by rw [show (k+1).toNat=k.toNat+1 by omega];exact h.inv,h.all,h.cnt,?_⟩
 rw [h.run,kq W31,hIn,show (k+1).toNat=k.toNat+1 by omega,show ns.length+1-(k.toNat+1)=ns.length-k.toNat by omega]
end
section
variable {nd:Nod} {l:List Int}
theorem Qfw (h:decide (nd.kind=5)=true):nowH nd l=some (l++[nd.thing]):=by unfold nowH;rw [if_pos (uc h)]
theorem Qch (h:decide (nd.kind=5)=false) (h2:decide (nd.kind=6)=true) (h3:¬ (l.length=0∨l.getD (l.length-1) 0≠nd.thing)):nowH nd l=some (l.take (l.length-1)):=by
 unfold nowH;rw [if_neg (ud h),if_pos (uc h2),if_neg h3]
theorem Qic (h:decide (nd.kind=5)=false) (h2:decide (nd.kind=6)=true) (h3:l.length=0∨l.getD (l.length-1) 0≠nd.thing):nowH nd l=none:=by
 unfold nowH;rw [if_neg (ud h),if_pos (uc h2),if_pos h3]
theorem Qaq (h:decide (nd.kind=5)=false) (h2:decide (nd.kind=6)=false) (h3:decide (nd.kind=9)=true) (h4:decide ((0:Int)<(l.length:Int))=true):nowH nd l=none:=by
 have h4:0<l.length:=by have:=uc h4;omega
 unfold nowH;rw [if_neg (ud h),if_neg (ud h2),if_pos ⟨uc h3,h4⟩]
theorem Q8q (h:decide (nd.kind=5)=false) (h2:decide (nd.kind=6)=false) (h3:¬ (nd.kind=9∧0<l.length)):nowH nd l=some l:=by
 unfold nowH;rw [if_neg (ud h),if_neg (ud h2),if_neg h3]
end
theorem Qid {nd:Nod} {l:List Int} (h:decide (nd.kind=5)=false) (h2:decide (nd.kind=6)=true) (h3:(decide ((l.length:Int)=(0:Int))||!decide (l.getD ((l.length:Int)-(1:Int)).toNat (0:Int)=nd.thing))=false) :
 nowH nd l=some (jS (((l.length:Int)-(1:Int)).toNat-0) (List.drop 0 l)):=by
 simp only [j9,decide_eq_false_iff_not,kC,decide_eq_true_eq] at h3
 rw [show ((l.length:Int)-(1:Int)).toNat=l.length-1 by omega] at h3 ⊢
 rw [Qch h h2 (fun e=>e.elim (fun e=>W31) (fun e=>e h3.2))]
 rfl
theorem Qp8 {a N:Nat} {k:Int} (h:a≤k.toNat) (h2:k≤(N:Int)) (h3:N≤4096):a * 64≤140737488355328:=by omega
theorem Qn5 {a N:Nat} {k:Int} (h:a≤k.toNat+1) (h2:k<(N:Int)) (h3:N≤4096):a * 64≤140737488355328:=by omega
theorem Qcu {nd:Nod} {l:List Int} (h:decide (nd.kind=5)=false) (h2:decide (nd.kind=6)=true) (h3:(decide ((l.length:Int)=(0:Int))||!decide (l.getD ((l.length:Int)-(1:Int)).toNat (0:Int)=nd.thing))=true):nowH nd l=none:=by
 refine Qic h h2 ?_
 by_cases e:l.length=0
 ·exact .inl e
 ·refine .inr ?_
  rw [show ((l.length:Int)-(1:Int)).toNat=l.length-1 by omega] at h3
  simp only [jO,decide_eq_true_eq,jL,decide_eq_false_iff_not] at h3
  rcases h3 with h3 | h3
  ·omega
  ·exact h3
structure NodQ (ns nl:Nat) (g:Grf) (n:Nod):Prop where
 k:1≤n.kind∧n.kind≤9
 op:0≤n.op∧n.op≤18
 slot:n.kind=1∨n.kind=2∨n.kind=4→0≤n.slot∧n.slot<g.slots
 thing:n.kind=2∨n.kind=3∨n.kind=4→0≤n.thing∧n.thing<(ns:Int)
 lock:n.kind=5∨n.kind=6→0≤n.thing∧n.thing<(nl:Int)
 next:n.kind≠9→0≤n.next∧n.next<(g.nodes.length:Int)
 els:n.kind=8→0≤n.els∧n.els<(g.nodes.length:Int)
 a:n.a.slotted=true→0≤n.a.slot∧n.a.slot<g.slots
 b:n.b.slotted=true→0≤n.b.slot∧n.b.slot<g.slots
theorem G6 {p k h m:Int} (hu:usesB p h=true) (hw:withinP p k h m=true):0≤k∧k<m:=by
 unfold withinP at hw;rw [hu] at hw;simpa using hw
theorem Q6p {p k h m:Int} (hu:usesB p h=false) (hw:withinP p k h m=true):k=0:=by
 unfold withinP at hw;rw [hu] at hw;simpa using hw
theorem Qei {p k h m:Int} (hm:0<m) (hw:withinP p k h m=true):0≤k∧k<m:=by
 cases hu:usesB p h with
 | true=>exact G6 hu hw
 | false=>have:=Q6p hu hw;omega
theorem Qar {p s h:Int} {v:Vl} (hv:valueP p s v h=true) (hs:v.slotted=true):0≤v.slot∧v.slot<s:=by
 unfold valueP at hv
 split at hv
 ·have:=uc hv
  subst this
  cases hs
 ·first | rw [if_pos hs] at hv | skip
  simp only [je,decide_eq_true_eq] at hv
  exact hv.1
theorem Q5d {ns nl:Nat} {g:Grf} {n:Nod} (h:rightN ns nl g n=true) (hk0:0≤n.kind):NodQ ns nl g n:=by
 unfold rightN at h
 simp only [je,jL,j9,decide_eq_false_iff_not] at h
 obtain ⟨⟨⟨⟨k0,k10⟩,o0⟩,o1⟩,⟨⟨⟨⟨⟨w1,w2⟩,w3⟩,w4⟩,w5⟩,w6⟩,w7⟩:=h
 have hk:1≤n.kind∧n.kind≤9:=by omega
 have hop:=Qei W147 w1
 refine ⟨hk,by omega,fun q=>?_,fun q=>?_,fun q=>?_,fun q=>?_,fun q=>?_,Qar w6,Qar w7⟩
 ·refine G6 ?_ w2
  rcases q with q | q | q
  ·unfold prtN;rw [if_pos q];split<;>rfl
  ·unfold prtN;rw [if_neg W31,if_pos q];rfl
  ·unfold prtN;rw [if_neg W31,if_neg W31,if_neg W31,if_pos q];rfl
 ·rw [if_neg W31] at w3
  refine G6 ?_ w3
  rcases q with q | q | q
  ·unfold prtN;rw [if_neg W31,if_pos q];rfl
  ·unfold prtN;rw [if_neg W31,if_neg W31,if_pos q];rfl
  ·unfold prtN;rw [if_neg W31,if_neg W31,if_neg W31,if_pos q];rfl
 ·rw [if_pos q] at w3
  refine G6 ?_ w3
  rcases q with q | q
  ·unfold prtN;rw [if_neg W31,if_neg W31,if_neg W31,if_neg W31,if_pos q];rfl
  ·unfold prtN;rw [if_neg W31,if_neg W31,if_neg W31,if_neg W31,if_neg W31,if_pos q];rfl
 ·refine G6 ?_ w4
  have q:n.kind=1∨n.kind=2∨n.kind=3∨n.kind=4∨n.kind=5∨n.kind=6∨n.kind=7∨n.kind=8:=by omega
  unfold prtN
  rcases q with q | q | q | q | q | q | q | q
  ·rw [if_pos q];split<;>rfl
  all_goals first | (rw [q];rfl) | (simp only [q];decide) | (rw [if_neg W31];simp [q];rfl)
 ·refine G6 ?_ w5
  unfold prtN
  rw [if_neg W31];simp [q];rfl
theorem NodQ.flw {ns nl:Nat} {g:Grf} {n:Nod} (h:NodQ ns nl g n):∀ x∈flwL n,0≤x∧x<(g.nodes.length:Int):=by
 intro x hx
 unfold flwL at hx
 split at hx
 ·cases hx
 ·rename_i h9
  split at hx
  ·rename_i h8
   simp only [ku,kg,or_false] at hx
   rcases hx with rfl | rfl
   ·exact h.next h9
   ·exact h.els h8.1
  ·simp only [ku,kg,or_false] at hx
   subst hx
   exact h.next h9
def badG (g:Grf):Bool:=decide (g.locals<(0:Int))||decide ((64:Int)<g.locals)||decide (g.slots<g.locals)||decide ((4160:Int)<g.slots)||decide ((g.nodes.length:Int)<(1:Int))||decide ((4096:Int)<(g.nodes.length:Int))
def badN (ns nl:Nat) (g:Grf):List Nod→Int→Option Int
 | [],_=>none
 | n::r,i=>if rightN ns nl g n=true then badN ns nl g r (i+1) else some i
def chkGo (ns nl:Nat):List Grf→Int→Int×Int×Int
 | [],_=>(0,0,0)
 | g::r,t=>if badG g=true then (60,t,0) else match badN ns nl g g.nodes 0 with
   | some i=>(60,t,i)
   | none=>if 0≤heldF g.nodes then (60,t,heldF g.nodes) else chkGo ns nl r (t+1)
def chkU (sh lk:List Dcl) (gs:List Grf):Int×Int×Int:=if namedB sh lk gs=true then chkGo sh.length lk.length gs 0 else (60,0,0)
structure GrfQ (ns nl:Nat) (g:Grf):Prop where
 loc:0≤g.locals∧g.locals≤g.slots∧g.slots≤4160
 len:1≤g.nodes.length∧g.nodes.length≤4096
 nod:∀ i:Nat,i<g.nodes.length→rightN ns nl g (g.nodes.getD i default)=true
theorem Q7m {g:Grf} (h:badG g=false):(0≤g.locals∧g.locals≤g.slots∧g.slots≤4160)∧(1≤g.nodes.length∧g.nodes.length≤4096):=by
 unfold badG at h
 simp only [j9,decide_eq_false_iff_not] at h
 omega
theorem Q3u {ns nl:Nat} {g:Grf}:∀ {l:List Nod} {i:Int},badN ns nl g l i=none→∀ j:Nat,j<l.length→rightN ns nl g (l.getD j ub)=true
 | [],_,_,j,hj=>absurd hj W149
 | n::r,i,h,j,hj=>by
   unfold badN at h
   split at h
   ·rename_i hr
    cases j with
    | zero=>exact hr
    | succ j=>exact Q3u h j W196
   ·cases h
theorem Qas {ns nl:Nat}:∀ {l:List Grf} {t:Int},(chkGo ns nl l t).1=0→∀ j:Nat,j<l.length→GrfQ ns nl (l.getD j ub)
 | [],_,_,j,hj=>absurd hj W149
 | g::r,t,h,j,hj=>by
   unfold chkGo at h
   split at h
   ·cases h
   ·rename_i hb
    split at h
    ·cases h
    ·rename_i hn
     split at h
     ·cases h
     ·cases j with
      | zero =>
        have:=Q7m (by simpa using hb)
        exact ⟨this.1,this.2,Q3u hn⟩
      | succ j=>exact Qas h j W196
theorem Yj {sh lk:List Dcl} {gs:List Grf} (h:(chkU sh lk gs).1=0):(sh.length≤64∧lk.length≤16∧gs.length≤8)∧∀ j:Nat,j<gs.length→GrfQ sh.length lk.length (gs.getD j ub):=by
 unfold chkU at h
 split at h
 ·rename_i hn
  refine ⟨?_,Qas h⟩
  unfold namedB at hn
  simp only [je] at hn
  have hm:manyB sh lk gs=false:=by have:=hn.1;simpa using this
  exact Q3t hm
 ·cases h
section
variable {sh lk:List Dcl} {gs:List Grf} {t:Int}
structure CJ (sh lk:List Dcl) (gs:List Grf) (t:Int):Prop where
 t0:0≤t
 tl:t≤(gs.length:Int)
 run:chkU sh lk gs=chkGo sh.length lk.length (gs.drop t.toNat) t
theorem CJ.start (h:(!namedB sh lk gs)=false):CJ sh lk gs 0:=⟨jA _,by omega,by unfold chkU;rw [if_pos W183];rfl⟩
theorem CJ.first (h:(!namedB sh lk gs)=true):chkU sh lk gs=(60,0,0):=by unfold chkU;rw [if_neg W183]
theorem CJ.drop (h:CJ sh lk gs t) (ht:t<(gs.length:Int)):gs.drop t.toNat=gs.getD t.toNat ub::gs.drop (t.toNat+1):=by
 have h0:=h.t0
 have hlt:t.toNat<gs.length:=by omega
 rw [kF hlt,jb,jc hlt];rfl
theorem CJ.bad (h:CJ sh lk gs t) (ht:t<(gs.length:Int)) (hb:badG (gs.getD t.toNat ub)=true):chkU sh lk gs=(60,t,0):=by
 rw [h.run,h.drop ht,chkGo,if_pos hb]
theorem CJ.nods (h:CJ sh lk gs t) (ht:t<(gs.length:Int)) (hb:badG (gs.getD t.toNat ub)=false) {i:Int} (hn:badN sh.length lk.length (gs.getD t.toNat ub) (gs.getD t.toNat ub).nodes 0=some i):chkU sh lk gs=(60,t,i):=by
 rw [h.run,h.drop ht,chkGo,if_neg (by rw [hb];decide),hn]
theorem CJ.held (h:CJ sh lk gs t) (ht:t<(gs.length:Int)) (hb:badG (gs.getD t.toNat ub)=false) (hn:badN sh.length lk.length (gs.getD t.toNat ub) (gs.getD t.toNat ub).nodes 0=none) (hh:decide ((0:Int)≤heldF (gs.getD t.toNat ub).nodes)=true) :
 chkU sh lk gs=(60,t,heldF (gs.getD t.toNat ub).nodes):=by
 rw [h.run,h.drop ht,chkGo,if_neg (by rw [hb];decide),hn];dsimp only;rw [if_pos (uc hh)]
theorem CJ.next (h:CJ sh lk gs t) (ht:t<(gs.length:Int)) (hb:badG (gs.getD t.toNat ub)=false) (hn:badN sh.length lk.length (gs.getD t.toNat ub) (gs.getD t.toNat ub).nodes 0=none) (hh:decide ((0:Int)≤heldF (gs.getD t.toNat ub).nodes)=false) :
 CJ sh lk gs (t+1):=by
 have h0:=h.t0
 refine ⟨by omega,by omega,?_⟩
 rw [h.run,h.drop ht,chkGo,if_neg (by rw [hb];decide),hn];dsimp only;rw [if_neg (ud hh),show (t+1).toNat=t.toNat+1 by omega]
theorem CJ.done (h:CJ sh lk gs t) (ht:¬ t<(gs.length:Int)):chkU sh lk gs=(0,0,0):=by
 have h1:=h.tl
 rw [h.run,kq W31];rfl
structure CN (ns nl:Nat) (g:Grf) (i:Int):Prop where
 i0:0≤i
 il:i≤(g.nodes.length:Int)
 run:badN ns nl g g.nodes 0=badN ns nl g (g.nodes.drop i.toNat) i
end
section
variable {ns nl:Nat} {g:Grf} {i:Int}
theorem CN.start (ns nl:Nat) (g:Grf):CN ns nl g 0:=⟨jA _,by omega,rfl⟩
theorem CN.drop (h:CN ns nl g i) (hi:i<(g.nodes.length:Int)):g.nodes.drop i.toNat=g.nodes.getD i.toNat ub::g.nodes.drop (i.toNat+1):=by
 have h0:=h.i0
 have hlt:i.toNat<g.nodes.length:=by omega
 rw [kF hlt,jb,jc hlt];rfl
theorem CN.bad (h:CN ns nl g i) (hi:i<(g.nodes.length:Int)) (hr:(!rightN ns nl g (g.nodes.getD i.toNat ub))=true):badN ns nl g g.nodes 0=some i:=by
 rw [h.run,h.drop hi,badN,if_neg (by simpa using hr)]
theorem CN.next (h:CN ns nl g i) (hi:i<(g.nodes.length:Int)) (hr:(!rightN ns nl g (g.nodes.getD i.toNat ub))=false):CN ns nl g (i+1):=by
 have h0:=h.i0
 refine ⟨by omega,by omega,?_⟩
 rw [h.run,h.drop hi,badN,if_pos (by simpa using hr),show (i+1).toNat=i.toNat+1 by omega]
theorem CN.done (h:CN ns nl g i) (hi:¬ i<(g.nodes.length:Int)):badN ns nl g g.nodes 0=none:=by
 have h1:=h.il
 rw [h.run,kq W31];rfl
theorem Qn6 (h:badN ns nl g g.nodes 0=none) (hk:∀ j:Nat,0≤(g.nodes.getD j ub).kind):∀ j:Nat,j<g.nodes.length→∀ x∈flwL (g.nodes.getD j ub),0≤x∧x<(g.nodes.length:Int):=
 fun j hj=>(Q5d (Q3u h j hj) (hk j)).flw
end
def UnitW (gs:List Grf):Prop:=∀ a b:Nat,0≤((gs.getD a ub).nodes.getD b ub).kind∧0≤((gs.getD a ub).nodes.getD b ub).op∧((gs.getD a ub).nodes.getD b ub).op≤255
structure Bo where
 b:Bool
 deriving Inhabited,DecidableEq
def Bo.tl (x:Bo):List TC:=[.val (.bool x.b)]
def Bo.tc (x:Bo):Nat→TC:=nthT x.tl
abbrev Bo.rowR (l:List Bo):Reg:=rowOf 1 Bo.tc l
abbrev Bo.ownR (l:List Bo):Reg:=ownOf 4 1 Bo.tc l
theorem Q3v (l:List Bo) (k:Nat) (x:Bo):∀ i,i<(l.set k x).length→Bo.tc ((l.set k x).getD i ub)=updT (fun i=>Bo.tc (l.getD i ub)) k 0 [.bool x.b] i:=
 Zf ub Bo.tc l k 0 x _ (fun j=>by rcases j with _ | j<;>simp [Bo.tc,Bo.tl,nthT,nth])
theorem Q7n {n:Nat}:∀ i,i<((ji n (Bo.mk false)).set 0 ⟨true⟩).length→Bo.tc (((ji n (Bo.mk false)).set 0 ⟨true⟩).getD i ub)=updT (fun _ j=>valT [jU false] j) 0 0 [jU true] i:=by
 intro i hi
 rw [Q3v _ _ _ i hi]
 have hi:i<n:=by simpa using hi
 unfold updT
 funext j
 have e:(ji n (Bo.mk false)).getD i ub=⟨false⟩:=by rw [jb,j7,if_pos hi];rfl
 simp only [e]
 first | rfl | (split<;>first | rfl | (rcases j with _ | j<;>rfl))
inductive Rch (l:List Nod):Nat→Prop
 | zero:Rch l 0
 | step {i:Nat} {x:Int} (t:Rch l i) (h:x∈flwL (l.getD i ub)):Rch l x.toNat
open Classical in
noncomputable def rchL (l:List Nod):List Bo:=(jB l.length).map fun i=>⟨decide (Rch l i)⟩
theorem Qm (l:List Nod):(rchL l).length=l.length:=by simp [rchL]
theorem Qie {l:List Nod} {i:Nat} (h:i<l.length):((rchL l).getD i ub).b=true↔Rch l i:=by
 unfold rchL
 rw [jb,jk,ke h]
 simp
def falses:List Bo→Nat
 | []=>0
 | ⟨true⟩::r=>falses r
 | ⟨false⟩::r=>falses r+1
theorem Gi:∀ {l:List Bo} {i:Nat},i<l.length→(l.getD i ub).b=false→falses (l.set i ⟨true⟩)+1=falses l
 | [],_,h,_=>absurd h W149
 | ⟨b⟩::r,0,_,h=>by
   have:b=false:=h
   subst this;rfl
 | ⟨b⟩::r,i+1,h,hb=>by
   have:=Gi (l:=r) (i:=i) W183 (by simpa using hb)
   cases b<;>simp only [List.set_cons_succ,falses]<;>omega
theorem G7:∀ l:List Bo,falses l≤l.length
 | []=>jm _
 | ⟨true⟩::r=>Nat.le_succ_of_le (G7 r)
 | ⟨false⟩::r=>Nat.succ_le_succ (G7 r)
theorem Qr {α:Type} (d:α) (l:List α) (i j:Nat) (x:α) (h:i<l.length):(l.set i x).getD j d=if j=i then x else l.getD j d:=by
 rw [jb,List.getElem?_set,jb]
 by_cases e:i=j
 ·subst e;simp [h]
 ·simp [e,Ne.symm e]
theorem Qc {α:Type} {l:List α} {i:Nat} {d:α} (h:i<l.length):l.getD i d=l[i]:=by rw [jb,jc h];rfl
structure SprJ (l:List Nod) (out:List Bo) (todo:List Int) (at_:Option (Int×Int)):Prop where
 len:out.length=l.length
 lo:∀ i,(out.getD i default).b=true→Rch l i
 td:∀ x∈todo,0≤x∧x<(l.length:Int)∧(out.getD x.toNat default).b=true
 z:(out.getD 0 default).b=true
 hi:∀ i,(out.getD i default).b=true→(∃ x∈todo,x.toNat=i)∨(∃ a j,at_=some (a,j)∧a.toNat=i)∨∀ x∈flwL (l.getD i default),(out.getD x.toNat default).b=true
 cur:∀ a j,at_=some (a,j)→0≤a∧a<(l.length:Int)∧(out.getD a.toNat default).b=true∧0≤j∧j≤((flwL (l.getD a.toNat default)).length:Int)∧∀ x∈(flwL (l.getD a.toNat default)).take j.toNat,(out.getD x.toNat default).b=true
theorem Qif {α:Type} {l:List α} {d:α} (h:0<l.length):l.getD (l.length-1) d∈l:=by
 rw [jb,jc W31]
 exact jQ _
theorem mem_take_last {l:List Int} {x:Int} (h:x∈l):x∈l.take (l.length-1)∨x=l.getD (l.length-1) 0:=by
 obtain ⟨i,hi,rfl⟩:=List.mem_iff_getElem.1 h
 by_cases e:i<l.length-1
 ·left
  exact List.mem_take_iff_getElem.2 ⟨i,by omega,rfl⟩
 ·right
  have:i=l.length-1:=by omega
  subst this
  rw [jb,jc hi];rfl
theorem Y1 {l:List Int} {j:Int} (h:j<(l.length:Int)) (h0:0≤j):l.getD j.toNat 0∈l:=by
 rw [Qc W31];exact jQ _
theorem SprJ.start {l:List Nod} (h:0<l.length):SprJ l ((ji l.length (Bo.mk false)).set 0 (Bo.mk true)) [0] none:=by
 have g:∀ i,(((ji l.length (Bo.mk false)).set 0 (Bo.mk true)).getD i ub).b=true→i=0:=fun i hi=>by
  rw [Qr _ _ _ _ _ W183] at hi
  by_cases e:i=0
  ·exact e
  ·rw [if_neg e,jb,j7] at hi
   split at hi
   ·simp at hi
   ·exact absurd hi W147
 have z:(((ji l.length (Bo.mk false)).set 0 (Bo.mk true)).getD 0 ub).b=true:=by rw [Qr _ _ _ _ _ W183,if_pos rfl]
 refine ⟨by simp,fun i hi=>by rw [g i hi];exact .zero,fun x hx=>?_,z,fun i hi=>?_,fun a j e=>by cases e⟩
 ·rw [jI] at hx;subst hx
  exact ⟨by omega,by omega,z⟩
 ·exact .inl ⟨0,by simp,by rw [g i hi];rfl⟩
theorem SprJ.pop {l:List Nod} {out:List Bo} {todo:List Int} (h:SprJ l out todo none) (h0:0<todo.length):SprJ l out (todo.take (todo.length-1)) (some (todo.getD (todo.length-1) 0,0)):=by
 have hm:=h.td _ (Qif (d:=0) h0)
 refine ⟨h.len,h.lo,fun x hx=>h.td x (List.mem_of_mem_take hx),h.z,fun i hi=>?_,fun a j e=>?_⟩
 ·rcases h.hi i hi with ⟨x,hx,rfl⟩ | ⟨a,j,e,_⟩ | h3
  ·rcases mem_take_last hx with h1 | h1
   ·exact .inl ⟨x,h1,rfl⟩
   ·exact .inr (.inl ⟨_,_,rfl,by rw [h1]⟩)
  ·cases e
  ·exact .inr (.inr h3)
 ·cases e
  exact ⟨hm.1,hm.2.1,hm.2.2,jA _,by omega,fun x hx=>by simp at hx⟩
theorem SprJ.popI {l:List Nod} {out:List Bo} {todo:List Int} (h:SprJ l out todo none) (h0:0<todo.length):SprJ l out (todo.take (todo.length-1)) (some (todo.getD ((todo.length:Int)-(1:Int)).toNat 0,0)):=by
 rw [show ((todo.length:Int)-(1:Int)).toNat=todo.length-1 by omega];exact h.pop h0
theorem SprJ.old {l:List Nod} {out:List Bo} {todo:List Int} {a j:Int} (h:SprJ l out todo (some (a,j))) (hj:j<((flwL (l.getD a.toNat ub)).length:Int)) (ho:(out.getD ((flwL (l.getD a.toNat ub)).getD j.toNat 0).toNat ub).b=true):SprJ l out todo (some (a,j+1)):=by
 obtain ⟨c1,c2,c3,c4,c5,c6⟩:=h.cur a j rfl
 refine ⟨h.len,h.lo,h.td,h.z,fun i hi=>?_,fun a' j' e=>?_⟩
 ·rcases h.hi i hi with h1 | ⟨a',j',e,e2⟩ | h3
  ·exact .inl h1
  ·cases e;exact .inr (.inl ⟨_,_,rfl,e2⟩)
  ·exact .inr (.inr h3)
 ·cases e
  refine ⟨c1,c2,c3,by omega,by omega,fun x hx=>?_⟩
  rw [show (j+1).toNat=j.toNat+1 by omega,jN W31,kM] at hx
  rcases hx with hx | hx
  ·exact c6 x hx
  ·rw [jI] at hx;subst hx
   rw [Qc (l:=flwL (l.getD a.toNat ub)) W31] at ho;exact ho
theorem SprJ.new {l:List Nod} {out:List Bo} {todo:List Int} {a j:Int} (hq:∀ i<l.length,∀ x∈flwL (l.getD i ub),0≤x∧x<(l.length:Int)) (h:SprJ l out todo (some (a,j))) (hj:j<((flwL (l.getD a.toNat ub)).length:Int)) :
 SprJ l (out.set ((flwL (l.getD a.toNat ub)).getD j.toNat 0).toNat ⟨true⟩) (todo++[(flwL (l.getD a.toNat ub)).getD j.toNat 0]) (some (a,j+1)):=by
 obtain ⟨c1,c2,c3,c4,c5,c6⟩:=h.cur a j rfl
 have hmem:(flwL (l.getD a.toNat ub)).getD j.toNat 0∈flwL (l.getD a.toNat ub):=by
  rw [Qc (l:=flwL (l.getD a.toNat ub)) W31];exact jQ _
 have hr:=hq a.toNat W31 _ hmem
 generalize hk:(flwL (l.getD a.toNat ub)).getD j.toNat 0=k at *
 have hlen:=h.len
 have up:∀ i,(out.getD i ub).b=true→((out.set k.toNat ⟨true⟩).getD i ub).b=true:=fun i hi=>by
  rw [Qr _ _ _ _ _ W31];split
  ·rfl
  ·exact hi
 have kk:((out.set k.toNat ⟨true⟩).getD k.toNat ub).b=true:=by rw [Qr _ _ _ _ _ W31,if_pos rfl]
 refine ⟨by simp [hlen],fun i hi=>?_,fun x hx=>?_,up _ h.z,fun i hi=>?_,fun a' j' e=>?_⟩
 ·rw [Qr _ _ _ _ _ W31] at hi
  by_cases e:i=k.toNat
  ·subst e;exact .step (h.lo _ c3) hmem
  ·rw [if_neg e] at hi;exact h.lo i hi
 ·rcases List.mem_append.1 hx with hx | hx
  ·have:=h.td x hx;exact ⟨this.1,this.2.1,up _ this.2.2⟩
  ·rw [jI] at hx;subst hx;exact ⟨hr.1,hr.2,kk⟩
 ·rw [Qr _ _ _ _ _ W31] at hi
  by_cases e:i=k.toNat
  ·subst e;exact .inl ⟨k,by simp,rfl⟩
  ·rw [if_neg e] at hi
   rcases h.hi i hi with ⟨x,h1,h2⟩ | ⟨a',j',e,e2⟩ | h3
   ·exact .inl ⟨x,jT _ h1,h2⟩
   ·cases e;exact .inr (.inl ⟨_,_,rfl,e2⟩)
   ·exact .inr (.inr fun x hx=>up _ (h3 x hx))
 ·cases e
  refine ⟨c1,c2,up _ c3,by omega,by omega,fun x hx=>?_⟩
  rw [show (j+1).toNat=j.toNat+1 by omega,jN W31,kM] at hx
  rcases hx with hx | hx
  ·exact up _ (c6 x hx)
  ·rw [jI] at hx;subst hx
   rw [Qc (l:=flwL (l.getD a.toNat ub)) W31] at hk
   rw [show (flwL (l.getD a.toNat ub))[j.toNat]=k from hk];exact kk
theorem SprJ.close {l:List Nod} {out:List Bo} {todo:List Int} {a j:Int} (h:SprJ l out todo (some (a,j))) (hj:((flwL (l.getD a.toNat ub)).length:Int)≤j):SprJ l out todo none:=by
 obtain ⟨c1,c2,c3,c4,c5,c6⟩:=h.cur a j rfl
 refine ⟨h.len,h.lo,h.td,h.z,fun i hi=>?_,fun a j e=>by cases e⟩
 rcases h.hi i hi with h1 | ⟨a',j',e,e2⟩ | h3
 ·exact .inl h1
 ·cases e
  subst e2
  refine .inr (.inr fun x hx=>c6 x ?_)
  rw [ky W31];exact hx
 ·exact .inr (.inr h3)
theorem SprJ.done {l:List Nod} {out:List Bo} (h:SprJ l out [] none) (hq:∀ i<l.length,∀ x∈flwL (l.getD i ub),0≤x∧x<(l.length:Int)):out=rchL l:=by
 have hr:∀ i,Rch l i→(out.getD i ub).b=true:=fun i t=>by
  induction t with
  | zero=>exact h.z
  | @step i x t hx ih =>
    rcases h.hi i ih with ⟨y,hy,_⟩ | ⟨a,j,e,_⟩ | h3
    ·cases hy
    ·cases e
    ·exact h3 x hx
 refine List.ext_getElem (by rw [h.len,Qm]) fun i h1 h2=>?_
 have e1:(out.getD i ub)=out[i]:=by rw [jb,jc h1];rfl
 have e2:((rchL l).getD i ub)=(rchL l)[i]:=by rw [jb,jc h2];rfl
 rw [← e1,← e2]
 have e3:(out.getD i ub).b=((rchL l).getD i ub).b:=by
  rw [Bool.eq_iff_iff,Qie (by rw [← h.len];exact h1)]
  exact ⟨h.lo i,hr i⟩
 cases hx:out.getD i ub;cases hy:(rchL l).getD i ub
 rw [hx,hy] at e3
 exact congrArg Bo.mk e3
structure Iln where
 l:List Int
 deriving Inhabited,DecidableEq
def Iln.tl (x:Iln):List TC:=[.sub 3 1 x.l.length (fun i=>i64T (x.l.getD i 0))]
def Iln.tc (x:Iln):Nat→TC:=nthT x.tl
abbrev Iln.rowR (l:List Iln):Reg:=rowOf 1 Iln.tc l
abbrev Iln.ownR (l:List Iln):Reg:=ownOf 49 1 Iln.tc l
def ahd1 (out:List Iln) (i x:Int):List Iln:=out.set x.toNat ⟨(out.getD x.toNat ub).l++[i]⟩
def ahdN (l:List Nod):Nat→List Iln
 | 0=>ji l.length ⟨[]⟩
 | i+1=>(flwL (l.getD i ub)).foldl (fun o x=>ahd1 o i x) (ahdN l i)
def ahdJ (l:List Nod) (i j:Nat):List Iln:=((flwL (l.getD i ub)).take j).foldl (fun o x=>ahd1 o i x) (ahdN l i)
def aheadL (l:List Nod):List Iln:=ahdN l l.length
theorem Qfx (l:List Nod) (i:Nat):ahdJ l i 0=ahdN l i:=by simp [ahdJ]
theorem Qfy {l:List Nod} {i j:Nat} (h:j<(flwL (l.getD i ub)).length):ahdJ l i (j+1)=ahd1 (ahdJ l i j) i ((flwL (l.getD i ub)).getD j 0):=by
 unfold ahdJ
 rw [jN h,List.foldl_append,Qc h];rfl
theorem Qfz {l:List Nod} {i j:Nat} (h:(flwL (l.getD i ub)).length≤j):ahdJ l i j=ahdN l (i+1):=by
 unfold ahdJ;rw [ky h];rfl
theorem Qg0 {l:List Nod} {i j:Int} (hi:0≤i) (hj:0≤j) (h:j<((flwL (l.getD i.toNat ub)).length:Int)):ahd1 (ahdJ l i.toNat j.toNat) i ((flwL (l.getD i.toNat ub)).getD j.toNat 0)=ahdJ l i.toNat (j+1).toNat:=by
 rw [show (j+1).toNat=j.toNat+1 by omega,Qfy W31,show ((i.toNat:Nat):Int)=i by omega]
theorem Qkx (o:List Iln) (i x:Int) (h:x.toNat<o.length):∀ j,j<(ahd1 o i x).length→Iln.tc ((ahd1 o i x).getD j ub)=if j=x.toNat then Iln.tc ⟨(o.getD x.toNat ub).l++[i]⟩ else Iln.tc (o.getD j ub):=by
 intro j hj
 unfold ahd1
 rw [Qr _ _ _ _ _ h]
 split<;>rfl
theorem Q29 (o:List Iln) (i x:Int):(ahd1 o i x).length=o.length:=by simp [ahd1]
theorem Q5e (i:Int):∀ (xs:List Int) (o:List Iln),(xs.foldl (fun o x=>ahd1 o i x) o).length=o.length
 | [],_=>rfl
 | x::r,o=>by rw [List.foldl_cons,Q5e i r,Q29]
theorem Q2a (l:List Nod):∀ n,(ahdN l n).length=l.length
 | 0=>by simp [ahdN]
 | n+1=>by rw [ahdN,Q5e,Q2a l n]
theorem Qat (l:List Nod) (i j:Nat):(ahdJ l i j).length=l.length:=by unfold ahdJ;rw [Q5e,Q2a]
theorem Qej {o:List Iln} {i x:Int} {m:Nat} (h:∀ k:Nat,(o.getD k ub).l.length≤m) (k:Nat):((ahd1 o i x).getD k ub).l.length≤m+1:=by
 unfold ahd1
 by_cases e:x.toNat<o.length
 ·rw [Qr _ _ _ _ _ e]
  split
  ·have:=h x.toNat;rw [jl,ki];omega
  ·have:=h k;omega
 ·rw [List.set_eq_of_length_le W31];have:=h k;omega
theorem Q2b (i:Int):∀ (xs:List Int) (o:List Iln) (m:Nat),(∀ k:Nat,(o.getD k ub).l.length≤m)→∀ k:Nat,((xs.foldl (fun o x=>ahd1 o i x) o).getD k ub).l.length≤m+xs.length
 | [],_,m,h=>h
 | x::r,o,m,h=>fun k=>by
   have:=Q2b i r (ahd1 o i x) (m+1) (Qej h) k
   rw [List.foldl_cons];simp only [kd];omega
theorem Jm (l:List Nod):∀ (n k:Nat),((ahdN l n).getD k ub).l.length≤2 * n
 | 0,k=>by
   unfold ahdN
   rw [jb,j7]
   split
   ·simp
   ·simp;rfl
 | n+1,k=>by
   have h1:=Q2b n (flwL (l.getD n ub)) (ahdN l n) (2 * n) (Jm l n) k
   have h2:=Yv (l.getD n ub)
   unfold ahdN;omega
theorem Qek (l:List Nod) (i j k:Nat):((ahdJ l i j).getD k ub).l.length≤2 * i+2:=by
 have h1:=Q2b i ((flwL (l.getD i ub)).take j) (ahdN l i) (2 * i) (Jm l i) k
 have h2:=Yv (l.getD i ub)
 have h3:=jJ (i:=j) (l:=flwL (l.getD i ub))
 unfold ahdJ;omega
theorem Qig {o:List Iln} {i x:Int} (hx:0≤x∧x.toNat<o.length) (k:Nat) (y:Int):y∈((ahd1 o i x).getD k ub).l↔y∈(o.getD k ub).l∨(y=i∧k=x.toNat):=by
 unfold ahd1
 rw [Qr _ _ _ _ _ hx.2]
 by_cases e:k=x.toNat
 ·subst e;simp
 ·simp [e]
theorem Qau (i:Int) (n:Nat):∀ (xs:List Int) (o:List Iln),o.length=n→(∀ x∈xs,0≤x∧x<(n:Int))→∀ (k:Nat) (y:Int),y∈((xs.foldl (fun o x=>ahd1 o i x) o).getD k ub).l↔y∈(o.getD k ub).l∨(y=i∧(k:Int)∈xs)
 | [],o,_,_,k,y=>by simp
 | x::r,o,ho,hx,k,y=>by
   have h0:=hx x j5
   rw [List.foldl_cons,Qau i n r _ (by rw [Q29];exact ho) (fun z hz=>hx z (jR _ hz)) k y,Qig ⟨h0.1,by omega⟩]
   simp only [ku]
   constructor
   ·rintro ((h | ⟨h1,h2⟩) | ⟨h1,h2⟩)
    ·exact .inl h
    ·exact .inr ⟨h1,.inl W31⟩
    ·exact .inr ⟨h1,.inr h2⟩
   ·rintro (h | ⟨h1,h2 | h2⟩)
    ·exact .inl (.inl h)
    ·exact .inl (.inr ⟨h1,by omega⟩)
    ·exact .inr ⟨h1,h2⟩
theorem Qav {l:List Nod} (hq:∀ i:Nat,i<l.length→∀ x∈flwL (l.getD i ub),0≤x∧x<(l.length:Int)):∀ n,n≤l.length→∀ (k:Nat) (y:Int),y∈((ahdN l n).getD k ub).l↔0≤y∧y<(n:Int)∧(k:Int)∈flwL (l.getD y.toNat ub)
 | 0,_,k,y=>by
   have:((ahdN l 0).getD k ub).l=[]:=kh (by have:=Jm l 0 k;omega)
   rw [this];simp;omega
 | n+1,hn,k,y=>by
   unfold ahdN
   rw [Qau n l.length _ _ (Q2a l n) (hq n W31) k y,Qav hq n W31 k y]
   constructor
   ·rintro (⟨h1,h2,h3⟩ | ⟨h1,h2⟩)
    ·exact ⟨h1,by omega,h3⟩
    ·subst h1;exact ⟨by omega,by omega,h2⟩
   ·rintro ⟨h1,h2,h3⟩
    by_cases e:y=(n:Int)
    ·subst e;exact .inr ⟨rfl,h3⟩
    ·exact .inl ⟨h1,by omega,h3⟩
theorem Gj {l:List Nod} (hq:∀ i:Nat,i<l.length→∀ x∈flwL (l.getD i ub),0≤x∧x<(l.length:Int)) (k:Nat) (y:Int):y∈((aheadL l).getD k ub).l↔0≤y∧y<(l.length:Int)∧(k:Int)∈flwL (l.getD y.toNat ub):=Qav hq _ (jm _) k y
def hpos (l:List Int):Prop:=∀ x∈l,0≤x∧x<64
def rdsQ (X:Ext) (V:List Hdl):Prop:=∀ l∈rds X V,hpos l
def thQ (ns:List Nod):Prop:=∀ i:Nat,i<ns.length→(ns.getD i ub).kind=5→0≤(ns.getD i ub).thing∧(ns.getD i ub).thing<64
theorem Qih:hpos []:=fun x h=>by cases h
theorem Qii {nd:Nod} {l nw:List Int} (h:nowH nd l=some nw) (hl:hpos l) (ht:nd.kind=5→0≤nd.thing∧nd.thing<64):hpos nw:=by
 unfold nowH at h
 split at h
 ·rename_i e
  cases h
  intro x hx
  rcases List.mem_append.1 hx with q | q
  ·exact hl x q
  ·rw [jI] at q;subst q;exact ht e
 ·split at h
  ·split at h
   ·cases h
   ·cases h;exact fun x hx=>hl x (List.mem_of_mem_take hx)
  ·split at h
   ·cases h
   ·cases h;exact hl
structure HJt (ns:List Nod) (k:Int) (X:Ext) (V:List Hdl) (n:Nat) (F:HF) (T:List Int):Prop extends HJ ns k X V n F T where
 q:rdsQ X V
structure HKt (ns:List Nod) (k:Int) (nd:Nod) (nw:List Int) (i:Int) (X:Ext) (V:List Hdl) (n:Nat) (F:HF) (T:List Int):Prop extends HK ns k nd nw i X V n F T where
 q:rdsQ X V
 nq:hpos nw
theorem HJt.start {ns:List Nod} (h:1≤ns.length) (X:Ext):HJt ns 0 X (ji ns.length Hdl.none) 1 (fun q=>if q=0 then some true else none) [0]:=
 ⟨HJ.start h X,by
  unfold rdsQ;rw [Q5c]
  intro l hl;rw [List.eq_of_mem_replicate hl];exact Qih⟩
section
variable {ns:List Nod} {k:Int} {X:Ext} {V:List Hdl} {n:Nat} {F:HF} {T:List Int}
theorem HJt.inner (h:HJt ns k X V n F T) (ht:thQ ns) (hk:k<(T.length:Int)) {nw:List Int} (hn:nowH (ns.getD (T.getD k.toNat 0).toNat ub) (rd X (V.getD (T.getD k.toNat 0).toNat ub).v)=some nw) :
 HKt ns k (ns.getD (T.getD k.toNat 0).toNat ub) nw 0 X V n F T:=
 ⟨h.toHJ.inner hk hn,h.q,Qii hn (by
  rw [← h.toHJ.get hk]
  have hat:=h.toHJ.at_ hk
  have hl:(T.getD k.toNat 0).toNat<(rds X V).length:=by rw [Q46,h.toHJ.len];omega
  rw [jb,jc hl]
  exact h.q _ (jQ hl)) (ht _ (by have:=h.toHJ.at_ hk;omega))⟩
theorem HJt.fin (h:HJt ns k X V n F T) (hN:ns.length≤4096):(V.map fun v=>Iln.mk (rd X v.v)).length=ns.length∧∀ i:Nat,i<ns.length→hpos ((V.map fun v=>Iln.mk (rd X v.v)).getD i ub).l∧((V.map fun v=>Iln.mk (rd X v.v)).getD i ub).l.length≤4096:=by
 have hl:=h.toHJ.len
 refine ⟨by rw [jK,hl],fun i hi=>?_⟩
 have e:((V.map fun v=>Iln.mk (rd X v.v)).getD i ub).l=(rds X V).getD i []:=by
  rw [Q47 X V i W31,jb,jk,jc (by omega:i<V.length),jb,jc (by omega:i<V.length)]
  rfl
 rw [e]
 refine ⟨?_,?_⟩
 ·have hl2:i<(rds X V).length:=by rw [Q46];omega
  rw [jb,jc hl2]
  exact h.q _ (jQ hl2)
 ·have:=h.toHJ.inv.short i
  have:=h.kn
  have:=h.k0
  omega
end
section
variable {ns:List Nod} {k:Int} {nd:Nod} {nw:List Int} {i:Int} {X:Ext} {V:List Hdl} {n:Nat} {F:HF} {T:List Int}
theorem HKt.put (h:HKt ns k nd nw i X V n F T) (hi:i<((flwL nd).length:Int)) (hq:∀ x∈flwL nd,0≤x∧x<(ns.length:Int)) (hf:(!(F ((flwL nd).getD i.toNat 0)).getD false)=true) {X':Ext} {A:Option Addr} {c:Nat} (hin:X.Into X')
 (ht:X'.Tab (.slice A nw.length c) 1 nw.length (fun j=>i64T (nw.getD j 0))) :
 HKt ns k nd nw (i+1) X' (V.set ((flwL nd).getD i.toNat 0).toNat ⟨A,nw.length,c⟩) (n+1) (fun a=>if a=(flwL nd).getD i.toNat 0 then some true else F a) (T++[(flwL nd).getD i.toNat 0]):=
 ⟨h.toHK.put hi hq hf hin ht,by
  unfold rdsQ
  rw [(Qap hin h.all ht ((flwL nd).getD i.toNat 0).toNat).2]
  intro l hl
  rcases kE hl with q | q
  ·exact h.q l q
  ·rw [q];exact h.nq,h.nq⟩
theorem HKt.skip (h:HKt ns k nd nw i X V n F T) (hi:i<((flwL nd).length:Int)) (hq:∀ x∈flwL nd,0≤x∧x<(ns.length:Int)) (hf:(!(F ((flwL nd).getD i.toNat 0)).getD false)=false) (he:(!decide (rd X (V.getD ((flwL nd).getD i.toNat 0).toNat ub).v=nw))=false) :
 HKt ns k nd nw (i+1) X V n F T:=⟨h.toHK.skip hi hq hf he,h.q,h.nq⟩
theorem HKt.done (h:HKt ns k nd nw i X V n F T) (hi:¬ i<((flwL nd).length:Int)):HJt ns (k+1) X V n F T:=⟨h.toHK.done hi,h.q⟩
end
theorem Qky (X:Ext) (V:List Hdl):∀ i:Nat,i<(V.map fun v=>Iln.mk (rd X v.v)).length→((V.map fun v=>Iln.mk (rd X v.v)).getD i ub).tc=(Iln.mk (rd X (V.getD i ub).v)).tc:=fun i hi=>by
 have hi:i<V.length:=by simpa using hi
 rw [jb,jk,jc hi,jb,jc hi]
 rfl
theorem Qcv:IntKind.u32.min=0:=by decide
theorem Qcw:IntKind.u32.max=4294967295:=by decide
def lsQ (l:Int) (o:List Int):Prop:=(l≠0→1≤o.length)∧∀ x∈o,0≤x∧x≤255
theorem Qn7 {n:Int} (h:0≤n∧n<4294967296):IntKind.u32.wrap n=n:=by
 simp only [IntKind.wrap,IntKind.signed,IntKind.bits]
 simp;omega
theorem Qn8 {a b:Int} (ha:0≤a∧a<4294967296) (hb:0≤b∧b<4294967296):0≤bits kt jv a b∧bits kt jv a b≤b∧bits kt jv a b≤a:=by
 obtain ⟨n,rfl⟩:=Int.eq_ofNat_of_zero_le ha.1
 obtain ⟨m,rfl⟩:=Int.eq_ofNat_of_zero_le hb.1
 have e:bits kt jv (n:Int) (m:Int)=((n &&& m:Nat):Int):=by
  have h1:(BitVec.ofInt 32 (n:Int)).toNat=n:=by rw [BitVec.ofInt_natCast,BitVec.toNat_ofNat];exact Nat.mod_eq_of_lt W31
  have h2:(BitVec.ofInt 32 (m:Int)).toNat=m:=by rw [BitVec.ofInt_natCast,BitVec.toNat_ofNat];exact Nat.mod_eq_of_lt W31
  show IntKind.u32.wrap ((BitVec.ofInt 32 (n:Int) &&& BitVec.ofInt 32 (m:Int)).toNat:Int)=_
  rw [BitVec.toNat_and,h1,h2]
  have:n &&& m≤n:=Nat.and_le_left
  exact Qn7 W31
 rw [e]
 have h1:n &&& m≤n:=Nat.and_le_left
 have h2:n &&& m≤m:=Nat.and_le_right
 omega
structure LsJ (l:Int) (x:List Int×Int):Prop where
 lo:0≤x.2∧x.2<4294967296
 sum:(x.1.length:Int)+x.2≤l
 one:1≤x.1.length∨x.2=l
 rng:∀ y∈x.1,0≤y∧y≤255
theorem LsJ.start {l:Int} (h:0≤l∧l<4294967296):LsJ l ([],l):=⟨h,by simp,.inr rfl,fun y h=>by cases h⟩
theorem LsJ.next {l:Int} {x:List Int×Int} (h:LsJ l x) (hn:(!decide (x.2=(0:Int)))=true) {k:Int} (hk:0≤k∧k≤255):LsJ l (x.1++[k],bits kt jv x.2 (x.2-1))∧(bits kt jv x.2 (x.2-1)).toNat<x.2.toNat:=by
 have hn:x.2≠0:=by simpa using hn
 have h0:=h.lo
 have hs:=h.sum
 have z:=Qn8 (a:=x.2) (b:=x.2-1) h0 W31
 refine ⟨⟨⟨z.1,by omega⟩,by simp;omega,.inl W149,fun y hy=>?_⟩,by omega⟩
 rcases List.mem_append.1 hy with q | q
 ·exact h.rng y q
 ·rw [jI] at q;subst q;exact hk
theorem LsJ.done {l:Int} {x:List Int×Int} (h:LsJ l x) (hn:(!decide (x.2=(0:Int)))=false):lsQ l x.1:=by
 have hn:x.2=0:=by simpa using hn
 refine ⟨fun hl=>?_,h.rng⟩
 rcases h.one with q | q
 ·exact q
 ·omega
end Go.Proofs.YtnddggenhefaeaaDoor
end
namespace Go.Dm
structure Gr where
 n:Nat
 pre:Nat→List Nat
 ord:List Nat
 pl:Nat→Nat
structure Gr.Ok (g:Gr):Prop where
 lt:∀ m,m∈g.ord→m<g.n
 root:0∈g.ord
 rootP:g.pl 0=0
 pos:∀ m,m∈g.ord→m≠0→0<g.pl m
 inj:∀ a b,a∈g.ord→b∈g.ord→g.pl a=g.pl b→a=b
 closed:∀ p q,p∈g.ord→q<g.n→p∈g.pre q→q∈g.ord
abbrev Tree:=Nat→Option Nat
inductive Anc (o:Tree):Nat→Nat→Prop
 | refl (m:Nat):Anc o m m
 | up {m p a:Nat} (h0:m≠0) (h:o m=some p) (t:Anc o p a):Anc o m a
inductive Pth (g:Gr):List Nat→Nat→Nat→Prop
 | nil:Pth g [0] 0 0
 | snoc {l:List Nat} {k p q:Nat} (t:Pth g l k p) (hq:q<g.n) (h:p∈g.pre q):Pth g (q::l) (k+if g.pl p<g.pl q then 0 else 1) q
inductive Wy (g:Gr) (b:Nat):Nat→Prop
 | base:Wy g b b
 | step {p q:Nat} (t:Wy g b p) (hq:q<g.n) (h:p∈g.pre q) (hl:g.pl b<g.pl q):Wy g b q
def Dom (g:Gr) (d m:Nat):Prop:=∀ l k,Pth g l k m→d∈l
variable {g:Gr} {o:Tree}
theorem Pth.mem (hg:g.Ok) {l:List Nat} {k m:Nat} (h:Pth g l k m):m∈g.ord:=by
 induction h with
 | nil=>exact hg.root
 | snoc t hq h ih=>exact hg.closed _ _ ih hq h
theorem Pth.all (hg:g.Ok) {l:List Nat} {k m:Nat} (h:Pth g l k m):∀ x∈l,x∈g.ord:=by
 induction h with
 | nil=>intro x hx;simp at hx;subst hx;exact hg.root
 | snoc t hq h ih =>
   intro x hx
   rcases List.mem_cons.1 hx with rfl | hx
   ·exact hg.closed _ _ (t.mem hg) hq h
   ·exact ih x hx
theorem Pth.len {l:List Nat} {k m:Nat} (h:Pth g l k m):k+1≤l.length:=by
 induction h with
 | nil=>simp
 | snoc t hq h ih=>simp only [kd];split<;>omega
theorem Pth.cut {l:List Nat} {k m:Nat} (h:Pth g l k m) {q:Nat} (hq:q∈l):∃ l' k',Pth g l' k' q∧l' <:+ l∧k'≤k:=by
 induction h with
 | nil=>simp at hq;subst hq;exact ⟨_,_,.nil,List.suffix_refl _,jm _⟩
 | @snoc l k p r t hr h ih =>
   rcases List.mem_cons.1 hq with rfl | hq
   ·exact ⟨_,_,.snoc t hr h,List.suffix_refl _,jm _⟩
   ·obtain ⟨l',k',h1,h2,h3⟩:=ih hq
    exact ⟨l',k',h1,h2.trans (List.suffix_cons _ _),by omega⟩
theorem Pth.simple {l:List Nat} {k m:Nat} (h:Pth g l k m):∃ l' k',Pth g l' k' m∧l'.Nodup∧∀ x∈l',x∈l:=by
 induction h with
 | nil=>exact ⟨_,_,.nil,by simp,fun _ h=>h⟩
 | @snoc l k p q t hq h ih =>
   obtain ⟨l',k',h1,h2,h3⟩:=ih
   by_cases e:q∈l'
   ·obtain ⟨l'',k'',g1,g2,-⟩:=h1.cut e
    exact ⟨l'',k'',g1,g2.sublist.nodup h2,fun x hx=>jR _ (h3 x (g2.subset hx))⟩
   ·refine ⟨q::l',_,.snoc h1 hq h,List.nodup_cons.2 ⟨e,h2⟩,fun x hx=>?_⟩
    rcases List.mem_cons.1 hx with rfl | hx
    ·exact j5
    ·exact jR _ (h3 x hx)
theorem Q8r:∀ (n:Nat) (l:List Nat),l.Nodup→(∀ x∈l,x<n)→l.length≤n
 | 0,l,_,h=>by
   cases l with
   | nil=>simp
   | cons x r=>exact absurd (h x j5) W31
 | n+1,l,hn,h=>by
   have h1:=Q8r n (l.erase n) (hn.erase n) (fun x hx=>by
    have h2:=(List.Nodup.mem_erase_iff hn).1 hx
    have h3:=h x h2.2
    have h4:x≠n:=h2.1
    omega)
   have h2:=List.length_erase (a:=n) (l:=l)
   split at h2<;>omega
theorem Pth.few (hg:g.Ok) {l:List Nat} {k m:Nat} (h:Pth g l k m):∃ l' k',Pth g l' k' m∧k'+1≤g.n∧∀ x∈l',x∈l:=by
 obtain ⟨l',k',h1,h2,h3⟩:=h.simple
 have h4:=h1.len
 have h5:=Q8r g.n l' h2 (fun x hx=>hg.lt x (h1.all hg x hx))
 exact ⟨l',k',h1,by omega,h3⟩
structure Inv (g:Gr) (o:Tree) (r:Nat→Nat):Prop where
 root:o 0=some 0
 some_:∀ m,m≠0→(o m≠none↔m∈g.ord∧1≤r m)
 dec:∀ m p,m≠0→o m=some p→g.pl p<g.pl m∧o p≠none
 way:∀ m p,m≠0→o m=some p→Wy g p m
 B:∀ l k m,Pth g l k m→(m=0∨k+1≤r m)→∀ x,Anc o m x→x∈l
 A:∀ m d,o m≠none→Dom g d m→Anc o m d
theorem Anc.root {x:Nat} (h:Anc o 0 x):x=0:=by
 cases h with
 | refl=>rfl
 | up h0=>exact absurd rfl h0
variable {r:Nat→Nat}
theorem Inv.le (h:Inv g o r) {m x:Nat} (t:Anc o m x):x=m∨g.pl x<g.pl m:=by
 induction t with
 | refl=>exact .inl rfl
 | up h0 hp t ih =>
   have:=(h.dec _ _ h0 hp).1
   rcases ih with rfl | ih
   ·exact .inr this
   ·exact .inr W31
theorem Inv.mem (hg:g.Ok) (h:Inv g o r) {m:Nat} (hm:o m≠none):m∈g.ord:=by
 by_cases e:m=0
 ·subst e;exact hg.root
 ·exact ((h.some_ m e).1 hm).1
theorem Anc.trans {m x y:Nat} (h:Anc o m x) (h':Anc o x y):Anc o m y:=by
 induction h with
 | refl=>exact h'
 | up h0 hp t ih=>exact .up h0 hp (ih h')
theorem Wy.trans {a b c:Nat} (h:Wy g a b) (hl:a=b∨g.pl a<g.pl b) (h':Wy g b c):Wy g a c:=by
 induction h' with
 | base=>exact h
 | step t hq hp hl' ih=>exact .step ih hq hp (by rcases hl with rfl | hl<;>omega)
theorem Inv.wy (h:Inv g o r) {m x:Nat} (t:Anc o m x):Wy g x m:=by
 induction t with
 | refl=>exact .base
 | @up m p a h0 hp t ih =>
   refine ih.trans ?_ (h.way _ _ h0 hp)
   exact h.le t
theorem Pth.go {l:List Nat} {k b m:Nat} (h:Pth g l k b) (w:Wy g b m):∃ l' k',Pth g l' k' m∧∀ x∈l',x∈l∨g.pl b<g.pl x:=by
 induction w with
 | base=>exact ⟨l,k,h,fun _ hx=>.inl hx⟩
 | @step p q t hq hp hl ih =>
   obtain ⟨l',k',h1,h2⟩:=ih
   refine ⟨q::l',_,.snoc h1 hq hp,fun x hx=>?_⟩
   rcases List.mem_cons.1 hx with rfl | hx
   ·exact .inr hl
   ·exact h2 x hx
def Best (g:Gr) (o:Tree) (n c:Nat):Prop:=
 (∀ x,Anc o c x↔∀ p∈g.pre n,o p≠none→Anc o p x)∧o c≠none
def upd (o:Tree) (n c:Nat):Tree:=fun m=>if m=n then some c else o m
theorem Inv.meet_step (h:Inv g o r) {a b p:Nat} (h0:a≠0) (hp:o a=some p) (hl:g.pl b<g.pl a) (x:Nat):(Anc o a x∧Anc o b x)↔(Anc o p x∧Anc o b x):=by
 constructor
 ·rintro ⟨h1,h2⟩
  refine ⟨?_,h2⟩
  cases h1 with
  | refl =>
    rcases h.le h2 with e | e
    ·subst e;omega
    ·omega
  | up h0' hp' t=>rw [hp] at hp';cases hp';exact t
 ·rintro ⟨h1,h2⟩
  exact ⟨.up h0 hp h1,h2⟩
theorem Qcx {n c:Nat} (hn:n≠0) (h:Inv g o r) (hc:o c≠none) (hl:g.pl c<g.pl n) {m x:Nat} :
 (Anc o m x→¬ Anc o m n→Anc (upd o n c) m x):=by
 intro t
 induction t with
 | refl=>intro _;exact .refl _
 | @up m p a h0 hp t ih =>
   intro hno
   refine .up h0 ?_ (ih fun e=>hno (.up h0 hp e))
   have:m≠n:=fun e=>hno (e▸.refl _)
   rw [upd,if_neg this];exact hp
theorem anc_cases {n c:Nat} {m x:Nat} (t:Anc (upd o n c) m x):(Anc o m x)∨(Anc o m n∧Anc (upd o n c) c x):=by
 induction t with
 | refl=>exact .inl (.refl _)
 | @up m p a h0 hp t ih =>
   by_cases e:m=n
   ·subst e
    rw [upd,if_pos rfl] at hp
    cases hp
    exact .inr ⟨.refl _,t⟩
   ·rw [upd,if_neg e] at hp
    rcases ih with ih | ⟨i1,i2⟩
    ·exact .inl (.up h0 hp ih)
    ·exact .inr ⟨.up h0 hp i1,i2⟩
theorem Q8s {n c:Nat} (hn:n≠0) (h:Inv g o r) (hc:o c≠none) (hl:g.pl c<g.pl n) {x:Nat}:Anc (upd o n c) c x↔Anc o c x:=by
 have hno:¬ Anc o c n:=fun e=>by
  rcases h.le e with e | e
  ·subst e;omega
  ·omega
 constructor
 ·intro t
  rcases anc_cases t with t | ⟨t,-⟩
  ·exact t
  ·exact absurd t hno
 ·exact fun t=>Qcx hn h hc hl t hno
theorem Qn9 {c m a:Nat} (t:Anc o m a):Anc (upd o a c) m a:=by
 induction t with
 | refl=>exact .refl _
 | @up m p a h0 hp t ih =>
   by_cases e:m=a
   ·subst e;exact .refl _
   ·exact .up h0 (by rw [upd,if_neg e];exact hp) ih
theorem Inv.turn (hg:g.Ok) (h:Inv g o r) {n c k:Nat} (hn:n≠0) (hm:n∈g.ord) (hb:Best g o n c) (hk:1≤k)
 (hlo:∀ m∈g.ord,m≠0→g.pl m<g.pl n→r m=k) (hhi:∀ m∈g.ord,m≠0→g.pl n≤g.pl m→r m+1=k)
 (hs:∃ p∈g.pre n,o p≠none∧g.pl p<g.pl n):Inv g (upd o n c) (fun m=>if m=n then k else r m):=by
 have hlt:=hg.lt n hm
 obtain ⟨p0,hp0,hs0,hl0⟩:=hs
 have hcp:∀ p∈g.pre n,o p≠none→Anc o p c:=(hb.1 c).1 (.refl c)
 have hl:g.pl c<g.pl n:=by
  rcases h.le (hcp p0 hp0 hs0) with e | e
  ·subst e;exact hl0
  ·omega
 have hsome:∀ m,o m≠none→upd o n c m≠none:=fun m e=>by
  unfold upd;split
  ·simp
  ·exact e
 have hr:∀ m∈g.ord,m≠0→(if m=n then k else r m)≤k:=fun m hm' h0=>by
  split
  ·exact jm _
  ·by_cases e:g.pl m<g.pl n
   ·exact Nat.le_of_eq (hlo m hm' h0 e)
   ·have:=hhi m hm' h0 W31;omega
 have hBn:∀ l j,Pth g l j n→j+1≤k→∀ x,Anc (upd o n c) n x→x∈l:=by
  intro l j hp hj x hx
  cases hp with
  | nil=>exact absurd rfl hn
  | @snoc l' j' p _ t hq hpre =>
    cases hx with
    | refl=>exact j5
    | up h0 hup t' =>
      rw [upd,if_pos rfl] at hup
      cases hup
      have ht:Anc o c x:=(Q8s hn h hb.2 hl).1 t'
      have hmem:=t.mem hg
      by_cases e0:p=0
      ·subst e0
       have:Anc o 0 x:=(hb.1 x).1 ht 0 hpre (by rw [h.root];simp)
       exact jR _ (h.B _ _ _ t (.inl rfl) x this)
      ·by_cases e:g.pl p<g.pl n
       ·have hrp:=hlo p hmem e0 e
        have:Anc o p x:=(hb.1 x).1 ht p hpre ((h.some_ p e0).2 ⟨hmem,by omega⟩)
        rw [if_pos e] at hj
        exact jR _ (h.B _ _ _ t (.inr W31) x this)
       ·rw [if_neg e] at hj
        have hrp:=hhi p hmem e0 W31
        have:Anc o p x:=(hb.1 x).1 ht p hpre ((h.some_ p e0).2 ⟨hmem,by omega⟩)
        exact jR _ (h.B _ _ _ t (.inr W31) x this)
 refine ⟨?_,?_,?_,?_,?_,?_⟩
 ·rw [upd,if_neg (Ne.symm hn)];exact h.root
 ·intro m h0
  by_cases e:m=n
  ·subst e;simp [upd,hm,hk]
  ·simp only [upd,if_neg e];exact h.some_ m h0
 ·intro m p h0 hp
  by_cases e:m=n
  ·subst e
   rw [upd,if_pos rfl] at hp;cases hp
   exact ⟨hl,hsome _ hb.2⟩
  ·rw [upd,if_neg e] at hp
   exact ⟨(h.dec m p h0 hp).1,hsome _ (h.dec m p h0 hp).2⟩
 ·intro m p h0 hp
  by_cases e:m=n
  ·subst e
   rw [upd,if_pos rfl] at hp;cases hp
   exact .step (h.wy (hcp p0 hp0 hs0)) hlt hp0 hl
  ·rw [upd,if_neg e] at hp
   exact h.way m p h0 hp
 ·intro l j m hp hj x hx
  by_cases e:m=n
  ·subst e
   rw [if_pos rfl] at hj
   exact hBn l j hp (hj.resolve_left hn) x hx
  ·rw [if_neg e] at hj
   rcases anc_cases hx with t | ⟨t,t'⟩
   ·exact h.B l j m hp hj x t
   ·have hin:n∈l:=h.B l j m hp hj n t
    obtain ⟨l',k',g1,g2,g3⟩:=hp.cut hin
    have hm0:m≠0:=fun e0=>by subst e0;exact hn t.root
    have h5:=hr m (hp.mem hg) hm0
    rw [if_neg e] at h5
    have h6:j+1≤r m:=hj.resolve_left hm0
    exact g2.subset (hBn l' k' g1 W31 x (.up hn (by rw [upd,if_pos rfl]) t'))
 ·intro m d hs' hd
  have hAn:Dom g d n→Anc (upd o n c) n d:=by
   intro hd
   by_cases e:d=n
   ·subst e;exact .refl _
   refine .up hn (by rw [upd,if_pos rfl]) ((Q8s hn h hb.2 hl).2 ((hb.1 d).2 fun p hp hps=>h.A p d hps fun l j t=>?_))
   rcases List.mem_cons.1 (hd _ _ (.snoc t hlt hp)) with e' | e'
   ·exact absurd e' e
   ·exact e'
  by_cases e:m=n
  ·subst e;exact hAn hd
  ·rw [upd,if_neg e] at hs'
   have t:=h.A m d hs' hd
   by_cases hno:Anc o m n
   ·by_cases hdn:Anc o n d
    ·-- d above n: then d rules n
     have hAd:Dom g d n:=by
      intro l j hp
      by_cases e':d=n
      ·subst e';cases hp with
       | nil=>exact absurd rfl hn
       | snoc=>exact j5
      obtain ⟨l',k',g1,g2⟩:=hp.go (h.wy hno)
      rcases g2 d (hd _ _ g1) with g2 | g2
      ·exact g2
      ·rcases h.le hdn with e2 | e2
       ·exact absurd e2 e'
       ·omega
     exact (Qn9 hno).trans (hAn hAd)
    ·-- d between m and n
     clear hd hAn
     induction t with
     | refl=>exact .refl _
     | @up m p a h0 hp t ih =>
       refine .up h0 (by rw [upd,if_neg e];exact hp) ?_
       by_cases e2:p=n
       ·subst e2;exact absurd t hdn
       ·refine ih (h.dec _ _ h0 hp).2 e2 ?_ hdn
        cases hno with
        | refl=>exact absurd rfl e
        | up _ hp' t'=>rw [hp] at hp';cases hp';exact t'
   ·exact Qcx hn h hb.2 hl t hno
theorem Inv.still (hg:g.Ok) (h:Inv g o r) {n c p:Nat} (hn:n≠0) (hm:n∈g.ord) (hb:Best g o n c) (hp:o n=some p)
 (hall:∀ m∈g.ord,m≠0→g.n≤r m) (hs:∃ q∈g.pre n,o q≠none∧g.pl q<g.pl n):c=p:=by
 have hlt:=hg.lt n hm
 have hB:∀ l k m x,Pth g l k m→Anc o m x→x∈l:=by
  intro l k m x t a
  obtain ⟨l',k',h1,h2,h3⟩:=t.few hg
  refine h3 x (h.B _ _ _ h1 ?_ x a)
  by_cases e:m=0
  ·exact .inl e
  ·exact .inr (by have:=hall m (t.mem hg) e;omega)
 have hnp:o n≠none:=by rw [hp];simp
 obtain ⟨p0,hp0,hs0,hl0⟩:=hs
 have hl:g.pl c<g.pl n:=by
  rcases h.le ((hb.1 c).1 (.refl c) p0 hp0 hs0) with e | e
  ·subst e;exact hl0
  ·omega
 have h1:Anc o n c:=by
  refine h.A n c hnp fun l k t=>?_
  cases t with
  | nil=>exact absurd rfl hn
  | snoc t hq hpre =>
    refine jR _ (hB _ _ _ c t ((hb.1 c).1 (.refl c) _ hpre ?_))
    rename_i q
    by_cases e0:q=0
    ·rw [e0,h.root];simp
    ·exact (h.some_ q e0).2 ⟨t.mem hg,by have:=hall q (t.mem hg) e0;have:=hg.lt q (t.mem hg);omega⟩
 have h2:Anc o c p:=by
  refine (hb.1 p).2 fun q hq hqs=>h.A q p hqs fun l k t=>?_
  rcases List.mem_cons.1 (hB _ _ _ p (.snoc t hlt hq) (.up hn hp (.refl _))) with e | e
  ·have:=(h.dec n p hn hp).1;rw [e] at this;omega
  ·exact e
 have h3:Anc o p c:=by
  cases h1 with
  | refl=>omega
  | up _ hp' t=>rw [hp] at hp';cases hp';exact t
 have hc:=h.mem hg hb.2
 have hpm:=h.mem hg (h.dec n p hn hp).2
 rcases h.le h2 with e | e
 ·exact e.symm
 ·rcases h.le h3 with e' | e'
  ·exact e'
  ·omega
end Go.Dm
noncomputable section
namespace Go.Proofs.YtnddggenhefaeaaDoor
open Go Go.Tx
structure Lz where
 w:Int
 deriving Inhabited,DecidableEq
def Lz.tl (x:Lz):List TC:=[.val (.int .u32 x.w)]
def Lz.tc (x:Lz):Nat→TC:=nthT x.tl
abbrev Lz.ownR (l:List Lz):Reg:=ownOf 158 1 Lz.tc l
theorem Qg1 (l:List Lz) (k:Nat) (x:Lz):∀ i,i<(l.set k x).length→Lz.tc ((l.set k x).getD i ub)=updT (fun i=>Lz.tc (l.getD i ub)) k 0 [.int .u32 x.w] i:=
 Zf ub Lz.tc l k 0 x _ (fun j=>by rcases j with _ | j<;>simp [Lz.tc,Lz.tl,nthT,nth])
theorem Qkz {n:Nat}:∀ i,i<(ji n (Lz.mk 0)).length→Lz.tc ((ji n (Lz.mk 0)).getD i ub)=valT [jf .u32 0]:=by
 intro i hi
 have hi:i<n:=by simpa using hi
 have e:(ji n (Lz.mk 0)).getD i ub=⟨0⟩:=by rw [jb,j7,if_pos hi];rfl
 rw [e]
 funext j
 first | rfl | (rcases j with _ | j<;>rfl)
theorem Q6q (n:Int):0≤IntKind.u32.wrap n∧IntKind.u32.wrap n<4294967296:=by
 have e:IntKind.u32.wrap n=n % 4294967296:=by simp [IntKind.wrap,IntKind.signed,IntKind.bits]
 rw [e];omega
theorem or_rng (a b:Int):0≤bits kQ jv a b∧bits kQ jv a b<4294967296:=Q6q _
theorem Ql0 (a b:Int):0≤bits kt jv a b∧bits kt jv a b<4294967296:=Q6q _
def LzQ (l:List Lz):Prop:=∀ x∈l,0≤x.w∧x.w<4294967296
theorem LzQ.rep (n:Nat):LzQ (ji n (Lz.mk 0)):=fun x h=>by rw [List.eq_of_mem_replicate h];decide
theorem LzQ.set {l:List Lz} (h:LzQ l) {k:Nat} {x:Int} (hx:0≤x∧x<4294967296):LzQ (l.set k ⟨x⟩):=fun y hy=>by
 rcases kE hy with q | q
 ·exact h y q
 ·subst q;exact hx
theorem LzQ.at_ {l:List Lz} (h:LzQ l) {i:Nat} (hi:i<l.length):0≤(l.getD i ub).w∧(l.getD i ub).w<4294967296:=by
 rw [jb,jc hi];exact h _ (jQ hi)
def flrL (n:Nod):List Int:=if n.kind=9 then [] else if n.kind=8 then [n.next,n.els] else [n.next]
theorem Qcy {n:Nod} (h:decide (n.kind=9)=true):flrL n=[]:=by
 unfold flrL;rw [if_pos (uc h)]
theorem Qcz {n:Nod} (h:decide (n.kind=9)=false) (h2:decide (n.kind=8)=true):flrL n=[n.next,n.els]:=by
 unfold flrL;rw [if_neg (ud h),if_pos (uc h2)]
theorem Qd0 {n:Nod} (h:decide (n.kind=9)=false) (h2:decide (n.kind=8)=false):flrL n=[n.next]:=by
 unfold flrL;rw [if_neg (ud h),if_neg (ud h2)]
theorem Jp (n:Nod) (x:Int):x∈flrL n↔x∈flwL n:=by
 unfold flrL flwL
 split
 ·rfl
 ·by_cases h:n.kind=8
  ·by_cases e:n.els=n.next
   ·simp [h,e]
   ·simp [h,e]
  ·simp [h]
theorem Gv (n:Nod):(flrL n).length≤2:=by
 unfold flrL;split
 ·simp
 ·split<;>simp
def vlL (v:Vl):List Int:=if v.slotted=true then [v.slot] else []
theorem Qna {v:Vl} (h:v.slotted=true):vlL v=[v.slot]:=by unfold vlL;rw [if_pos h]
theorem Qp9 {v:Vl} (l:List Int) (h:v.slotted=false):l++vlL v=l:=by unfold vlL;rw [if_neg W197,j6]
def useL (n:Nod):List Int:=if n.kind=1 then vlL n.a++(if twoB n.op then vlL n.b else []) else if n.kind=3∨n.kind=4∨n.kind=7∨n.kind=8 then vlL n.a else []
theorem Ql1 (v:Vl):([]++vlL v).length≤2:=by unfold vlL;split<;>simp
theorem Qnb {n:Nod} (h:n.kind=1) (h2:twoB n.op=true):useL n=[]++vlL n.a++vlL n.b:=by unfold useL;rw [if_pos h,if_pos h2];rfl
theorem Qnc {n:Nod} (h:n.kind=1) (h2:twoB n.op=false):useL n=[]++vlL n.a:=by unfold useL;rw [if_pos h,if_neg (by rw [h2];decide),j6];rfl
theorem Qpa {n:Nod} (h:n.kind=3∨n.kind=4∨n.kind=7∨n.kind=8):useL n=[]++vlL n.a:=by unfold useL;rw [if_neg W31,if_pos h];rfl
theorem Qpb {n:Nod} (h:n.kind=2∨n.kind=5∨n.kind=6∨n.kind=9):useL n=[]:=by unfold useL;rw [if_neg W31,if_neg W31]
theorem Q2c (n:Nod):(useL n).length≤2:=by
 have h:∀ v:Vl,(vlL v).length≤1:=fun v=>by unfold vlL;split<;>simp
 have ha:=h n.a
 have hb:=h n.b
 unfold useL
 split
 ·rw [jl];split
  ·omega
  ·simp;omega
 ·split
  ·omega
  ·simp
def addW (w:Nat→Int) (k:Int):Nat→Int:=fun j=>if (k.tdiv 64).toNat=j then bits kQ kf (w (k.tdiv 64).toNat) (shlI kf 1 (k.tmod 64)) else w j
def takeW (w:Nat→Int) (k:Int):Nat→Int:=fun j=>if (k.tdiv 64).toNat=j then bits BinOp.andNot kf (w (k.tdiv 64).toNat) (shlI kf 1 (k.tmod 64)) else w j
def hasW (w:Nat→Int) (k:Int):Bool:=decide (bits kt kf (shrI kf (w (k.tdiv 64).toNat) (k.tmod 64)) 1=1)
def joinW (w v:Nat→Int) (m:Nat):Nat→Int:=fun j=>if j<m then bits kQ kf (w j) (v j) else w j
theorem Qel (w v:Nat→Int):joinW w v 0=w:=by funext j;simp [joinW]
theorem Qem (w v:Nat→Int) {x:Int} (h:0≤x) (j:Nat):joinW w v (x+1).toNat j=if x.toNat=j then bits kQ kf (joinW w v x.toNat x.toNat) (v x.toNat) else joinW w v x.toNat j:=by
 rw [show (x+1).toNat=x.toNat+1 by omega]
 by_cases e:x.toNat=j
 ·subst e;simp [joinW]
 ·rw [if_neg e];unfold joinW
  by_cases h2:j<x.toNat
  ·rw [if_pos h2,if_pos W31]
  ·rw [if_neg h2,if_neg W31]
def wsT (w:Nat→Int):Nat→TC:=nthT ((jB 65).map fun j=>TC.val (jf .u64 (w j)))
theorem Q7o:∀ (l:List Prop),(∀ p∈l,p)→Conj l
 | [],_=>trivial
 | [p],h=>by first | exact h p j5 | exact ⟨h p j5,trivial⟩
 | p::q::r,h=>⟨h p j5,Q7o (q::r) fun x hx=>h x (jR _ hx)⟩
theorem Q2d {n:Nat} {P:Nat→Prop} (h:∀ j,j<n→P j):Conj ((jB n).map P):=Q7o _ fun p hp=>by
 obtain ⟨j,hj,rfl⟩:=List.mem_map.1 hp
 exact h j (List.mem_range.1 hj)
theorem Qaw {a b:List Prop} (h:Conj a) (h2:Conj b):Conj (a++b):=Q7o _ fun p hp=>by
 rcases List.mem_append.1 hp with q | q
 ·exact h.all p q
 ·exact h2.all p q
theorem Q7p {n:Nat} (w:Nat→Int) {i:Nat} (h:i<n):((jB n).map fun j=>w j).getD i 0=w i:=by
 rw [jb,jk,ke h];rfl
end Go.Proofs.YtnddggenhefaeaaDoor
end
