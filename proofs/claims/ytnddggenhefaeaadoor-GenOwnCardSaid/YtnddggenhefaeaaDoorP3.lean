/-
  A part of the proof. Text 3 of 9: TxE TxF TxV TxR TxS.
-/
import Derived.Test.YtnddggenhefaeaaDoorP2
import Derived.LoopN
import Derived.Deep.LoopGhost
set_option linter.unusedSimpArgs false
set_option linter.unusedVariables false
set_option linter.unusedSectionVars false
open Array renaming getD_eq_getD_getElem?→kS,ext'→kV,toList_map→kW
open Nat renaming beq→jr,le_of_ble_eq_true→ju,lt_of_lt_of_le→jP,le_refl→jm,eq_of_beq_eq_true→jd,zero_le→kb,ble→kR,zero_add→j8,blt→kD,lt_or_ge→kO,le_trans→kj
open Bool renaming and_eq_true→je,not_eq_true'→jL,eq_false_iff→kH,false_eq_true→jY,or_eq_true→jO
open List renaming map_congr_left→km,getElem?_map→jk,mem_append_left→jT,getD_eq_getElem?_getD→jb,getElem?_eq_none→jX,map_cons→jV,getElem?_cons_zero→jD,length→jW,getElem?_eq_getElem→jc,ext_getElem?→kG,getElem?_take→jZ,getElem?_append_left→jp,mem_of_getElem?→jq,length_map→jK,append_nil→j6,length_cons→kd,getElem?_set_self→jE,getElem?_set_ne→jC,getElem?_append_right→jy,getElem?_drop→j4,getElem_mem→jQ,length_append→jl,length_set→jt
open Go.Sem renaming run_bind→jo,run_pure→jx,run→kX
open Go.Result renaming andThen_ok→jh
open Option renaming map_some→jM
namespace Go.Tx
open Go Go.RowKit
section
variable {P:Program} {ε:Env} {w w':World} {w0:Base} {st:St} {a:Act}
theorem Jn {d t:Nat} {v:Value} (h:d<a.tmps.size):get (a.put (some d) v) t=if t=d then v else get a t:=by
 unfold get Act.put
 simp only [kS,Array.getElem?_setIfInBounds]
 by_cases htd:d=t
 ·subst htd;simp [h]
 ·rw [if_neg htd,if_neg (fun e=>htd e.symm)]
theorem Jk {d:Nat} {v:Value} (h:d<a.tmps.size) {g:List (Nat×Bool)} (hg:g.any (fun x=>jr x.1 d)=false):gHolds (a.put (some d) v) g↔gHolds a g:=by
 have hne:∀ x∈g,x.1≠d:=fun x hx e=>by
  have:=List.any_eq_false.1 hg x hx
  apply this
  rw [e];exact Nat.beq_refl d
 constructor
 ·intro hh x hx
  have:=hh x hx
  rwa [Jn h,if_neg (hne x hx)] at this
 ·intro hh x hx
  rw [Jn h,if_neg (hne x hx)]
  exact hh x hx
theorem Qg (hs:SatE w0 st ε a w) {dst:Option Nat} {g:List (Nat×Bool)} {sv:SV} {st':St} (h:putSt st dst g sv=some st') {v:Value}
 (hv:gHolds a g→v=sv.den ε) (hn:¬ gHolds a g→v=undef):SatE w0 st' ε (a.put dst v) w:=by
 unfold putSt at h
 split at h
 ·cases h
  exact ⟨hs.defs,hs.size,hs.fr,hs.regs,hs.below,hs.pre⟩
 ·rename_i d
  split at h
  ·rename_i hb
   simp only [je,jL] at hb
   cases h
   have hd:d<st.N:=ju hb.1
   have hda:d<a.tmps.size:=by rw [hs.size];exact hd
   refine ⟨hs.defs,by simp only [Act.put,Array.size_setIfInBounds];exact hs.size,fun e he=>?_,hs.regs,hs.below,hs.pre⟩
   cases he with
   | head =>
     refine ⟨hd,fun hg=>?_,fun hg=>?_⟩
     ·rw [Jk hda hb.2] at hg
      simp only [Jn hda,if_true]
      exact hv hg
     ·rw [Jk hda hb.2] at hg
      simp only [Jn hda,if_true]
      exact hn hg
   | tail _ he =>
     obtain ⟨h1,h2⟩:=List.mem_filter.1 he
     simp only [je,jL] at h2
     have hne:e.slot≠d:=fun e'=>by rw [e',Nat.beq_refl] at h2;cases h2.1
     obtain ⟨h3,h4,h5⟩:=hs.fr e h1
     refine ⟨h3,fun hg=>?_,fun hg=>?_⟩
     ·rw [Jk hda h2.2] at hg
      rw [Jn hda,if_neg hne];exact h4 hg
     ·rw [Jk hda h2.2] at hg
      rw [Jn hda,if_neg hne];exact h5 hg
  ·cases h
theorem Qe9 {ops:List Oper} {j d:Nat} {oj:Oper} {want:Bool} (h1:nth ops j=some oj) (h2:oj.dst=some d) (hd:d<a.tmps.size):(yielded ops.toArray a.tmps j==some want)=true↔get a d=.bool want:=by
 rw [Qo] at h1
 have e:yielded ops.toArray a.tmps j=match (some (get a d):Option Value) with | some (.bool b)=>some b | _=>none:=by
  unfold yielded
  simp only [List.getElem?_toArray,h1,Option.bind_some,h2]
  have:a.tmps[d]?=some (get a d):=by
   unfold get
   rw [kS,Array.getElem?_eq_getElem hd]
   rfl
  rw [this]
  cases get a d<;>rfl
 rw [e]
 cases get a d<;>simp
theorem Z5 (hs:SatE w0 st ε a w) {ops:List Oper} {o:Oper}:(∀ g,guardOf ops st o=.run g→(Region.wanted o (yielded ops.toArray a.tmps)=true↔gHolds a g))∧(guardOf ops st o=.skip→Region.wanted o (yielded ops.toArray a.tmps)=false):=by
 unfold guardOf Region.wanted
 cases ho:o.guard with
 | none=>exact ⟨fun g h=>(by cases h;exact ⟨fun _=>gHolds_nil a,fun _=>rfl⟩),fun h=>W167⟩
 | some jw =>
   obtain ⟨j,want⟩:=jw
   simp only
   cases h1:nth ops j with
   | none=>exact ⟨fun g h=>W167,fun h=>W167⟩
   | some oj =>
     simp only
     cases h2:oj.dst with
     | none=>exact ⟨fun g h=>W167,fun h=>W167⟩
     | some d =>
       simp only
       cases h3:lookup d st.fr with
       | none=>exact ⟨fun g h=>W167,fun h=>W167⟩
       | some e =>
         simp only
         obtain ⟨hm,hsl⟩:=Ys h3
         obtain ⟨hlt,hyes,hno⟩:=hs.fr e hm
         rw [hsl] at hlt hyes hno
         have hy:=Qe9 (want:=want) h1 h2 (by rw [hs.size];exact hlt)
         split
         ·rename_i x hsv
          rw [hsv] at hyes
          have hyes':gHolds a e.g→get a d=.bool x:=hyes
          split
          ·rename_i hxw
           have hxw':=Zh.1 hxw
           refine ⟨fun g h=>?_,fun h=>W167⟩
           cases h
           rw [hy]
           constructor
           ·intro hg
            apply Classical.byContradiction
            intro hne
            rw [hno hne] at hg
            cases hg
           ·intro hg;rw [hyes' hg,hxw']
          ·rename_i hxw
           refine ⟨fun g h=>W167,fun _=>?_⟩
           rw [kH]
           intro hw
           have hg:=hy.1 hw
           by_cases hgg:gHolds a e.g
           ·rw [hyes' hgg] at hg
            injection hg with hg
            exact hxw (Zh.2 hg)
           ·rw [hno hgg] at hg;cases hg
         ·rename_i x hsv
          refine ⟨fun g h=>?_,fun h=>W167⟩
          cases h
          rw [hy,Q0o]
          constructor
          ·intro hg
           refine ⟨?_,hg⟩
           apply Classical.byContradiction
           intro hne
           rw [hno hne] at hg
           cases hg
          ·exact fun h=>h.2
         ·rename_i hsv
          refine ⟨fun g h=>W167,fun _=>?_⟩
          rw [kH]
          intro hw
          have hg:=hy.1 hw
          by_cases hgg:gHolds a e.g
          ·rw [hyes hgg,hsv] at hg;cases hg
          ·rw [hno hgg] at hg;cases hg
         ·exact ⟨fun g h=>W167,fun h=>W167⟩
theorem Jl (hs:SatE w0 st ε a w) {all:List (Nat×Bool)} (ha:gHolds a all) {p:Prop}:∀ (l:List (Nat×Bool)),gHolds a l→prem st all l p→p
 | [],_,h=>h
 | (t,want)::r,hl,h=>by
   have hr:gHolds a r:=fun x hx=>hl x (.tail _ hx)
   have ht:get a t=.bool want:=hl (t,want) (.head _)
   simp only [prem] at h
   split at h
   ·rename_i e he
    split at h
    ·rename_i x hsub hsv
     obtain ⟨hm,hsl⟩:=Ys he
     obtain ⟨_,hyes,_⟩:=hs.fr e hm
     have:=hyes (ha.sub hsub)
     rw [hsl,ht,hsv] at this
     injection this with this
     exact Jl hs ha r hr (h this.symm)
    ·exact Jl hs ha r hr h
   ·exact Jl hs ha r hr h
theorem All.prem1 (hs:SatE w0 st ε a w) {g:List (Nat×Bool)} (hg:gHolds a g) {vc:List Prop} (h:All (vc.map (prem st g g))):All vc:=fun p hp =>
 Jl hs hg g hg (h _ (List.mem_map_of_mem hp))
theorem All.prem (hs:SatE w0 st ε a w) {g:List (Nat×Bool)} (hg:gHolds a g) {vc:List Prop} (h:All (prems st g vc)):All vc:=by
 unfold prems at h
 split at h
 ·exact h
 ·exact All.prem1 hs hg h
theorem Qa3 {b:Base} (hs:SatE b st ε a w) {all:List Oper} {Q:Exit→Act→World→Prop} {o:Oper} {rest:List Oper} {st':St} {vc:List Prop} (h:stepOp P all st o=some (st',vc)) (hv:All vc)
 (hk:∀ a w,Sat b st' a w→wpListW P all.toArray Q rest a w):wpListW P all.toArray Q (o::rest) a w:=by
 obtain ⟨g1,g2⟩:=Z5 hs (ops:=all) (o:=o)
 unfold stepOp at h
 split at h
 ·cases h
 ·rename_i hgd
  obtain ⟨st1,h1,h2⟩:=map_nil h
  cases h2
  exact Jv (g2 hgd) (hk _ _ ⟨ε,Qg hs h1 (fun _=>rfl) (fun _=>rfl)⟩)
 ·rename_i g hgd
  have hw:=g1 g hgd
  split at h
  ·rename_i sv vc' hp
   obtain ⟨st1,h1,h2⟩:=map_nil h
   cases h2
   by_cases hg:gHolds a g
   ·refine Yt (hw.2 hg) ?_
    unfold Oper.wp
    rw [Zj hs hg hp (All.prem hs hg hv),Oper.upon_value]
    exact hk _ _ ⟨ε,Qg hs h1 (fun _=>rfl) (fun hn=>absurd hg hn)⟩
   ·refine Jv (by rw [kH];exact fun h=>hg (hw.1 h)) (hk _ _ ⟨ε,Qg hs h1 (fun h=>absurd h hg) (fun _=>rfl)⟩)
  ·split at h
   ·split at h
    ·rename_i st2 sv vc' he
     obtain ⟨st1,h1,h2⟩:=map_nil h
     cases h2
     obtain ⟨w',ε',hrun,hsat⟩:=Q39 hs he hv
     refine Yt (hw.2 (gHolds_nil a)) ?_
     unfold Oper.wp
     rcases hrun with hrun | ⟨hrun,hu⟩
     ·rw [hrun,Oper.upon_value]
      exact hk _ _ ⟨ε',Qg hsat h1 (fun _=>rfl) (fun hn=>absurd (gHolds_nil _) hn)⟩
     ·rw [hrun,Oper.upon_skip]
      exact hk _ _ ⟨ε',Qg hsat h1 (fun _=>hu.symm) (fun _=>rfl)⟩
    ·cases h
   ·cases h
theorem RegsOk.world {M L:Nat→Prop} {rg:List Reg} (hs:RegsOk ε M L w rg) (hsz:w.heap.size≤w'.heap.size) (hb:∀ b,b<w.heap.size→w'.heap[b]?=w.heap[b]?):RegsOk ε M L w' rg:=
 ⟨hs.len,fun i r hi=>RegOk.world (hs.reg i r hi) hsz (fun b _ _ hlt=>hb b hlt),fun i r hi hl b hb'=>⟨jP (hs.lt i r hi hl b hb').1 hsz,(hs.lt i r hi hl b hb').2⟩,hs.lim,hs.sep⟩
theorem SatE.same (hs:SatE w0 st ε a w) (hh:w'.heap=w.heap) (h1:w'.os=w.os) (h2:w'.tape=w.tape) (h3:w'.output=w.output):SatE w0 st ε a w':=
 ⟨hs.defs,hs.size,hs.fr,hs.regs.world (by rw [hh];exact jm _) (fun b _=>by rw [hh]),hs.below.step h1 h2 h3 (by rw [hh];exact jm _) (fun k _ _=>by rw [hh]),hs.pre⟩
theorem SatE.drewN (hs:SatE w0 st ε a w) (n:Nat):SatE w0 st ε a (w.drewN n):=hs.same rfl rfl rfl rfl
theorem Gz {w:World} {all:List Oper} {K:Act→Prop}:∀ {ops:List Oper} {st st':St} {a:Act} {vc:List Prop},(∀ n,SatE w0 st ε a (w.drewN n))→allPure P all ops st=some (st',vc)→All vc →
 (∀ a,(∀ n,SatE w0 st' ε a (w.drewN n))→K a)→wpQuiet P all.toArray (fun w'=>∃ n,w'=w.drewN n) K ops a
 | [],st,st',a,vc,hs,h,hv,hk=>by
   simp only [allPure,Option.some.injEq,Prod.mk.injEq] at h
   obtain ⟨rfl,rfl⟩:=h
   exact hk a hs
 | o::r,st,st',a,vc,hs,h,hv,hk=>by
   obtain ⟨g1,g2⟩:=Z5 (hs 0) (ops:=all) (o:=o)
   simp only [allPure] at h
   split at h
   ·cases h
   ·rename_i hgd
    split at h
    ·rename_i st1 h1
     unfold wpQuiet
     rw [if_neg (by simp [g2 hgd])]
     exact Gz (fun n=>Qg (hs n) h1 (fun _=>rfl) (fun _=>rfl)) h hv hk
    ·cases h
   ·rename_i g hgd
    have hw:=g1 g hgd
    split at h
    ·rename_i sv vc' hp
     split at h
     ·rename_i st1 h1
      obtain ⟨⟨st2,vc2⟩,h2,h3⟩:=map_nil h
      cases h3
      unfold wpQuiet
      by_cases hg:gHolds a g
      ·rw [if_pos (hw.2 hg)]
       refine ⟨sv.den ε,fun w' ⟨n,hn⟩=>?_,?_⟩
       ·subst hn
        unfold Oper.quietAt
        rw [Zj (hs n) hg hp (All.prem (hs n) hg hv.left)]
        exact ⟨rfl,rfl⟩
       ·exact Gz (fun n=>Qg (hs n) h1 (fun _=>rfl) (fun hn=>absurd hg hn)) h2 hv.right hk
      ·rw [if_neg (fun h=>hg (hw.1 h))]
       exact Gz (fun n=>Qg (hs n) h1 (fun h=>absurd h hg) (fun _=>rfl)) h2 hv.right hk
     ·cases h
    ·cases h
def kpost (P:Program) (b:Base):K→(Exit→Act→World→Prop)→Exit→Act→World→Prop
 | .code c,Q=>Exit.then (wpW b.ro P c Q) Q
 | .blk id,Q=>Exit.inBlock id Q
 | .ops all todo,Q=>Exit.then (wpListW P all.toArray Q todo) Q
 | .jmp J,Q=>Exit.then (J b) Q
 | .mix all listed n,Q=>Exit.then (fun a w=>Region.noSelect all.toArray=true→wpAnyR P all.toArray (fun a w=>Q .normal a w) n listed.toArray a w) Q
 | .rnd body n,Q=>Exit.then (Code.roundsIn (Wf b.ro) 0 P body Q n) Q
 | .mixAt all listed n i,Q=>Exit.then (fun a w=>Region.noSelect all.toArray=true→wpOpR P all.toArray i (wpAnyR P all.toArray (fun a w=>Q .normal a w) n (setL listed i).toArray) a w) Q
def contQ (P:Program) (b:Base) (Q:Exit→Act→World→Prop):List K→Exit→Act→World→Prop
 | []=>Q
 | x::k=>kpost P b x (contQ P b Q k)
def Run (P:Program) (b:Base) (Q:Exit→Act→World→Prop) (k:List K) (st:St):Prop:=∀ a w,Sat b st a w→contQ P b Q k .normal a w
theorem Q8h {b:Base} {Q:Exit→Act→World→Prop}:∀ (k:List K) {a:Act} {w:World},Q .ret a w→contQ P b Q k .ret a w
 | [],_,_,h=>h
 | x::k,_,_,h=>by
   have:=Q8h (b:=b) k h
   cases x<;>exact this
theorem Yo {b:Base} {Q:Exit→Act→World→Prop} {id:Nat}:∀ (k k':List K) {a:Act} {w:World},popBlk id k=some k'→contQ P b Q k' .normal a w→contQ P b Q k (.exit id) a w
 | [],_,_,_,h,_=>by cases h
 | .blk id'::k,k',a,w,h,hq=>by
   simp only [popBlk] at h
   show Exit.inBlock id' (contQ P b Q k) (.exit id) a w
   unfold Exit.inBlock
   split at h
   ·rename_i hb
    have:=jd hb
    subst this
    cases h
    simpa using hq
   ·rename_i hb
    have hne:id≠id':=fun e=>by subst e;exact hb (Nat.beq_refl _)
    simp only [hne,if_false]
    exact Yo (b:=b) k k' h hq
 | .code c::k,k',a,w,h,hq=>Yo (b:=b) k k' h hq
 | .ops all todo::k,k',a,w,h,hq=>Yo (b:=b) k k' h hq
 | .jmp J::k,k',a,w,h,hq=>Yo (b:=b) k k' h hq
 | .mix ..::k,k',a,w,h,hq=>Yo (b:=b) k k' h hq
 | .mixAt ..::k,k',a,w,h,hq=>Yo (b:=b) k k' h hq
 | .rnd ..::k,k',a,w,h,hq=>Yo (b:=b) k k' h hq
def Enters (P:Program) (f:Nat):Prop:=∀ args w,(callFunc f args).run P w=.ok (.enter f args) w
def OutOk (P:Program) (b:Base) (Q:Exit→Act→World→Prop):Out→Prop
 | .cond x k1 k2 _ st1 st2=>(x=true→Run P b Q k1 st1)∧(x=false→Run P b Q k2 st2)
 | .ret st=>∀ a w,Sat b st a w→Q .ret a w
 | .call f args dst g d k0 k st=>Run P b Q k0 st∨(Enters P f∧∀ (ε:Env) a w,SatE b st ε a w →
    (gHolds a g→Calls P f (args.map (SV.den ε)).toArray w (fun e w'=>∃ v,e=.returned v∧(d=true→Grow w w')∧contQ P b Q k .normal (a.put dst v) w'))∧(¬ gHolds a g→contQ P b Q k .normal (a.put dst undef) w))
 | .loop body k st=>∀ a w,Sat b st a w→wpW b.ro P (Code.loop body) (contQ P b Q k) a w
 | .jump J st=>∀ a w,Sat b st a w→J b a w
 | .fin st=>∀ a w,Sat b st a w→Q .normal a w
 | .op all o todo k st=>∀ a w,Sat b st a w→wpListW P all.toArray (contQ P b Q k) (o::todo) a w
 | .opR all listed n i k st=>Run P b Q (.mixAt all listed n i::k) st
 | .any all listed n l k st=>∀ i∈l,Run P b Q (.mixAt all listed n i::k) st
 | .yield r args dst k st=>∀ (ε:Env) a w,SatE b st ε a w→∃ l:Nat,ε.at_ r=.func (.yield l) #[] #[] ∧
    YieldAt Fence.wide 0 P l (args.map (SV.den ε)).toArray w (fun e w'=>∃ v,e=.returned v∧contQ P b Q k .normal (a.put dst v) w')
 | .range f params assign body k st=>∀ a w,Sat b st a w→wpW b.ro P (Code.rangeFunc f params.toArray assign body) (contQ P b Q k) a w
 | .fail _=>False
theorem Jx (hs:SatE w0 st ε a w) {g:List (Nat×Bool)} (hg:gHolds a g) {o:Oper} {f:Nat} {args:List SV} (h:callOf st g o=some (f,args)) (he:Enters P f):(execOp a.eval o).run P w=.ok (.enter f (args.map (SV.den ε)).toArray) w:=by
 obtain ⟨dst,op,type,pos,after,guard⟩:=o
 unfold callOf at h
 simp only at h
 split at h
 ·rename_i fo as ts
  split at h
  ·rename_i id bnd caps vs hf hvs
   have e1:(as.map a.eval)=(vs.map (SV.den ε)).toArray:=by
    rw [← Zr hs hg hvs]
    apply kV
    rw [kW]
   have e2:(caps.map ε.at_).toArray=(caps.map (fun r=>SV.den ε (.c (if isVar st r then .p r 0 else .h r)))).toArray:=by
    congr 1
    refine km fun r _=>?_
    by_cases hv:isVar st r=true
    ·rw [if_pos hv];exact (Q5v hs.regs hv).symm
    ·rw [if_neg hv];rfl
   split at h
   ·cases h
    simp only [execOp,resolve,Q5 hs hg hf,C.den,fnDen,Deferred.ofValue,jo,jx,jh,invoke,e1,e2]
    rw [he];simp
   ·cases h
    simp only [execOp,resolve,Q5 hs hg hf,C.den,fnDen,Deferred.ofValue,jo,jx,jh,invoke,e1,e2]
    rw [he];simp
  ·cases h
 ·cases h
theorem Q9e (hs:SatE w0 st ε a w) {o:Oper} {g:List (Nat×Bool)} {r:Nat} {args:List SV} (h:yieldOf st g o=some (r,args)) {l:Nat} (hl:ε.at_ r=.func (.yield l) #[] #[]):g=[]∧(execOp a.eval o).run P w=(Instr.yield l (args.map (SV.den ε)).toArray).run P w:=by
 obtain ⟨dst,op,type,pos,after,guard⟩:=o
 unfold yieldOf at h
 simp only at h
 split at h
 ·rename_i fo as ts
  split at h
  ·rename_i r' vs hf hvs
   split at h
   ·cases h
    refine ⟨rfl,?_⟩
    have e1:(as.map a.eval)=(args.map (SV.den ε)).toArray:=by
     rw [← Zr hs (gHolds_nil a) hvs]
     apply kV
     rw [kW]
    have hfv:=Q5 hs (gHolds_nil a) hf
    simp only [C.den] at hfv
    rw [hl] at hfv
    simp only [execOp,resolve,hfv,Deferred.ofValue,jo,jx,jh,invoke,e1]
    simp
   ·cases h
  ·cases h
 ·cases h
theorem Q9f (hs:SatE w0 st ε a w) {all:List Oper} {Q:Exit→Act→World→Prop} {g:List (Nat×Bool)} {o:Oper} {rest:List Oper} {f:Nat} {args:List SV} (hgd:guardOf all st o=.run g) (h:callOf st g o=some (f,args)) (he:Enters P f)
 (hc:gHolds a g→Calls P f (args.map (SV.den ε)).toArray w (fun e w'=>∃ v,e=.returned v∧(false=true→Grow w w')∧wpListW P all.toArray Q rest (a.put o.dst v) w')) (hn:¬ gHolds a g→wpListW P all.toArray Q rest (a.put o.dst undef) w):wpListW P all.toArray Q (o::rest) a w:=by
 have hw:=(Z5 hs).1 _ hgd
 by_cases hg:gHolds a g
 ·refine Yt (hw.2 hg) ?_
  unfold Oper.wp
  rw [Jx hs hg h he,Oper.upon_enter]
  exact (hc hg).mono fun e w' ⟨v,hev,_,hk⟩=>by subst hev;exact hk
 ·exact Jv (by rw [kH];exact fun h=>hg (hw.1 h)) (hn hg)
theorem Q8i {t:Nat} {b:Bool} (ht:get a t=.bool b):∀ {g:List (Nat×Bool)},(∀ g',cutG t b g=some g'→(gHolds a g'↔gHolds a g))∧(cutG t b g=none→¬ gHolds a g)
 | []=>⟨fun g' h=>(by cases h;exact Iff.rfl),fun h=>W167⟩
 | x::r=>by
   obtain ⟨h1,h2⟩:=Q8i ht (g:=r)
   have hcons:gHolds a (x::r)↔(get a x.1=.bool x.2∧gHolds a r):=⟨fun h=>⟨h x (.head _),fun y hy=>h y (.tail _ hy)⟩,fun h y hy=>by
    cases hy with
    | head=>exact h.1
    | tail _ hy=>exact h.2 y hy⟩
   simp only [cutG]
   cases hc:cutG t b r with
   | none =>
     exact ⟨fun g' h=>W167,fun _ h=>h2 hc (hcons.1 h).2⟩
   | some r' =>
     have hr:=h1 r' hc
     simp only
     by_cases hx:jr x.1 t=true
     ·have hxt:=jd hx
      rw [if_pos hx]
      by_cases hb:beqB x.2 b=true
      ·rw [if_pos hb]
       refine ⟨fun g' h=>?_,fun h=>W167⟩
       cases h
       rw [hcons,hr]
       exact ⟨fun h=>⟨by rw [hxt,ht,Zh.1 hb],h⟩,fun h=>h.2⟩
      ·rw [if_neg hb]
       refine ⟨fun g' h=>W167,fun _ h=>?_⟩
       have:=(hcons.1 h).1
       rw [hxt,ht] at this
       injection this with this
       exact hb (Zh.2 this.symm)
     ·rw [if_neg hx]
      refine ⟨fun g' h=>?_,fun h=>W167⟩
      cases h
      have hcons':gHolds a (x::r')↔(get a x.1=.bool x.2∧gHolds a r'):=⟨fun h=>⟨h x (.head _),fun y hy=>h y (.tail _ hy)⟩,fun h y hy=>by
       cases hy with
       | head=>exact h.1
       | tail _ hy=>exact h.2 y hy⟩
      rw [hcons,hcons',hr]
theorem Q64 (hs:SatE w0 st ε a w) {t:Nat} {b:Bool} (ht:get a t=.bool b):SatE w0 (litT st t b) ε a w:=by
 refine ⟨hs.defs,hs.size,fun e he=>?_,hs.regs,hs.below,hs.pre⟩
 obtain ⟨e0,he0,rfl⟩:=List.mem_map.1 he
 obtain ⟨g1,g2,g3⟩:=hs.fr e0 he0
 unfold litEn
 split
 ·rename_i hb
  have:=jd hb
  refine ⟨g1,fun _=>?_,fun hn=>absurd (gHolds_nil a) hn⟩
  show get a e0.slot=_
  rw [this,ht];rfl
 ·obtain ⟨h1,h2⟩:=Q8i ht (g:=e0.g)
  split
  ·rename_i g' hg'
   exact ⟨g1,fun h=>g2 ((h1 g' hg').1 h),fun h=>g3 (fun h'=>h ((h1 g' hg').2 h'))⟩
  ·rename_i hg'
   exact ⟨g1,fun _=>g3 (h2 hg'),fun hn=>absurd (gHolds_nil a) hn⟩
theorem Q8j (hs:SatE w0 st ε a w) {c:Operand} {x y:Bool} (hc:opndC st [] c=some (.b x)) (hxy:x=y):SatE w0 (lit st c y) ε a w:=by
 unfold lit
 split
 ·rename_i t
  refine Q64 hs ?_
  have:=Q5 hs (gHolds_nil a) hc
  have e:a.eval (.tmp t)=get a t:=rfl
  rw [e] at this
  rw [this,← hxy];rfl
 ·exact hs
theorem Jy:∀ {g:List (Nat×Bool)} {t:Nat} {x:Bool},splitOn st g=some (t,x)→∃ e,lookup t st.fr=some e∧e.g=[]∧e.sv=.c (.b x)
 | [],_,_,h=>by cases h
 | (t0,_)::r,t,x,h=>by
   simp only [splitOn] at h
   split at h
   ·rename_i e he
    split at h
    ·rename_i b hg hsv
     cases h
     exact ⟨e,he,hg,hsv⟩
    ·exact Jy h
   ·exact Jy h
theorem Z8 (hs:SatE w0 st ε a w) {g:List (Nat×Bool)} {t:Nat} {x y:Bool} (h:splitOn st g=some (t,x)) (hxy:x=y):SatE w0 (litT st t y) ε a w:=by
 obtain ⟨e,he,hg,hsv⟩:=Jy h
 obtain ⟨hm,hsl⟩:=Ys he
 refine Q64 hs ?_
 have:=(hs.fr e hm).2.1 W200
 rw [hsl,hsv] at this
 rw [this,← hxy];rfl
theorem SatE.grow (hs:SatE w0 st ε a w) (hg:Grow w w'):SatE w0 st ε a w':=
 ⟨hs.defs,hs.size,hs.fr,hs.regs.world hg.size hg.block,hs.below.step hg.os hg.tape hg.output hg.size (fun k hk _=>hg.block k (jP hk hs.below.size)),hs.pre⟩
def Base.of (b:Base) (w:World):Base:=⟨w,[],fun _=>False,fun _=>True,b.ro,b.d⟩
theorem SatE.dim (hs:SatE w0 st ε a w) (w':World):SatE (Base.of w0 w') st.dim ε a w':=by
 have key:∀ (i:Nat) (r:Reg),st.dim.rg[i]?=some r→r=.dead:=fun i r hi=>by
  simp only [St.dim,jk] at hi
  cases h:st.rg[i]?<;>rw [h] at hi<;>cases hi
  rfl
 refine ⟨hs.defs,hs.size,hs.fr,⟨by simp [St.dim,hs.regs.len],fun i r hi=>?_,fun i r hi hl=>?_,fun i r hi he=>?_,fun i j ri rj _ hi _ he=>?_⟩,Fr.refl _ _,List.nil_prefix⟩
 ·rw [key i r hi];trivial
 ·rw [key i r hi] at hl;cases hl
 ·rw [key i r hi] at he;cases he
 ·rw [key i ri hi] at he;cases he
theorem Qki {M:Nat→Prop} {e:Ent} {r:Reg} (hr:RegOk ε M w e r) (hlt:r.live=true→∀ b,e.fp b→b<w.heap.size) (M':Nat→Prop):RegOk ε M' w e r.roOf:=by
 cases r with
 | box ty cells =>
   obtain ⟨g,h1,h2,h3,h4⟩:=hr
   refine ⟨_,h1,hlt rfl g h3,h3,fun j x hx=>?_⟩
   rw [Gy h4]
   simp [hx]
 | own ty size n f foc =>
   cases foc with
   | none=>exact ⟨Yz hr.1 (fun i j fp' u _ _ hf hu=>Zk (f i j) hf hu),trivial⟩
   | some kc =>
     obtain ⟨k,cs⟩:=kc
     refine ⟨Yz hr.1 (fun i j fp' u _ _ hf hu=>⟨?_,hu.2⟩),hr.2⟩
     show RdC w e.fp (if i=k then TC.any else f i j) u
     by_cases hik:i=k
     ·rw [if_pos hik];trivial
     ·rw [if_neg hik];exact Zk (f i j) hf (hu.1 hik)
 | row size n f foc=>exact hr
 | ro cells=>exact hr
 | dead=>trivial
 | one=>exact hr
 | froz X=>exact hr
 | ext X k al=>trivial
 | mp T n has f it=>trivial
 | itr q=>exact hr
 | full size n f=>exact hr
 | mpv T z n ents=>trivial
 | mpr T ty size n f opn=>trivial
theorem Q8k (r:Reg):r.roOf.excl=false:=by
 cases r with
 | own ty size n f foc=>cases foc<;>rfl
 | _=>rfl
theorem Qfl {r:Reg} (h:r.roOf.live=true):r.live=true:=by
 cases r with
 | dead=>cases h
 | one=>cases h
 | itr q=>cases h
 | _=>rfl
theorem SatE.roOf (hs:SatE w0 st ε a w):SatE (Base.of w0 w) st.roOf ε a w:=by
 have key:∀ (i:Nat) (r:Reg),st.roOf.rg[i]?=some r→∃ r0:Reg,st.rg[i]?=some r0∧r=r0.roOf:=fun i r hi=>by
  simp only [St.roOf,jk] at hi
  cases h:st.rg[i]? with
  | none=>rw [h] at hi;cases hi
  | some r0=>rw [h] at hi;cases hi;exact ⟨r0,rfl,rfl⟩
 refine ⟨hs.defs,hs.size,hs.fr,⟨by simp [St.roOf,hs.regs.len],fun i r hi=>?_,fun i r hi hl b hb=>?_,fun i r hi he=>?_,fun i j ri rj _ hi _ he=>?_⟩,Fr.refl _ _,List.nil_prefix⟩
 ·obtain ⟨r0,h0,rfl⟩:=key i r hi
  exact Qki (hs.regs.reg i r0 h0) (fun hl b hb=>(hs.regs.lt i r0 h0 hl b hb).1) _
 ·obtain ⟨r0,h0,rfl⟩:=key i r hi
  exact ⟨(hs.regs.lt i r0 h0 (Qfl hl) b hb).1,.inr trivial⟩
 ·obtain ⟨r0,h0,rfl⟩:=key i r hi
  rw [Q8k] at he;cases he
 ·obtain ⟨r0,h0,rfl⟩:=key i ri hi
  rw [Q8k] at he;cases he
theorem Fr.toGrow (h:Fr (fun _=>False) w w'):Grow w w':=⟨h.os,h.tape,h.output,h.size,fun k hk=>h.block k hk (fun h=>h)⟩
theorem Q16 {all:List Oper} {listed:List Bool} {i:Nat} {o:Oper} {st':St} {vc:List Prop} (hs:SatE w0 st ε a w) (hsel:Region.noSelect all.toArray=true) (ho:all[i]?=some o)
 (h:takePure P all listed st i o=some (st',vc)) (hv:All vc) {Q:Act→World→Prop} {n:Nat} (hk:∀ v,SatE w0 st' ε (a.put o.dst v) w→wpAnyR P all.toArray Q n (setL listed i).toArray (a.put o.dst v) w):wpAnyR P all.toArray Q (n+1) listed.toArray a w:=by
 unfold takePure at h
 split at h
 ·rename_i hr
  have hrd:=Z4.1 hr
  have hsel':=Region.noSelect_spec hsel
  obtain ⟨g1,g2⟩:=Z5 hs (ops:=all) (o:=o)
  have ho':all.toArray[i]?=some o:=by simpa using ho
  split at h
  ·cases h
  ·rename_i hgd
   split at h
   ·rename_i hfree
    obtain ⟨st1,h1,h2⟩:=map_nil h
    cases h2
    have:=hk undef (Qg hs h1 (fun _=>rfl) (fun _=>rfl))
    rw [Yb] at this
    refine Ze (fun j=>hasN j (depsL listed i 0 all [])=true) (C:=fun _=>True) ho' hsel' (fun _ _ _ _=>trivial) n _ a w (fun j oj hj hne hun hno=>?_) Q15 hrd trivial (.inr ⟨g2 hgd,rfl⟩) this
    obtain ⟨e1,_⟩:=Gd (fun k=>by simp) hfree j oj (kb _) W196 hne hun hno
    exact ⟨e1,.inr fun _=>trivial⟩
   ·cases h
  ·rename_i g hgd
   have hw:=g1 g hgd
   split at h
   ·rename_i sv vc' hp
    split at h
    ·rename_i hfree
     obtain ⟨st1,h1,h2⟩:=map_nil h
     cases h2
     by_cases hg:gHolds a g
     ·have:=hk (sv.den ε) (Qg hs h1 (fun _=>rfl) (fun hn=>absurd hg hn))
      rw [Yb] at this
      refine Ze (fun j=>hasN j (depsL listed i 0 all [])=true) (C:=fun _=>True) ho' hsel' (fun _ _ _ _=>trivial) n _ a w (fun j oj hj hne hun hno=>?_) Q15 hrd trivial (.inl ⟨hw.2 hg,fun w' _=>Zj (hs.dim w') hg hp (All.prem hs hg hv)⟩) this
      obtain ⟨e1,_⟩:=Gd (fun k=>by simp) hfree j oj (kb _) W196 hne hun hno
      exact ⟨e1,.inr fun _=>trivial⟩
     ·have:=hk undef (Qg hs h1 (fun h=>absurd h hg) (fun _=>rfl))
      rw [Yb] at this
      refine Ze (fun j=>hasN j (depsL listed i 0 all [])=true) (C:=fun _=>True) ho' hsel' (fun _ _ _ _=>trivial) n _ a w (fun j oj hj hne hun hno=>?_) Q15 hrd trivial (.inr ⟨by rw [kH];exact fun h=>hg (hw.1 h),rfl⟩) this
      obtain ⟨e1,_⟩:=Gd (fun k=>by simp) hfree j oj (kb _) W196 hne hun hno
      exact ⟨e1,.inr fun _=>trivial⟩
    ·cases h
   ·split at h
    ·rename_i sv vc' hp
     split at h
     ·rename_i hfree
      obtain ⟨st1,h1,h2⟩:=map_nil h
      cases h2
      have free:=fun j oj (hj:all.toArray[j]?=some oj) hne hun hno=>Gd (fun k=>by simp) hfree j oj (kb _) W196 hne hun hno
      by_cases hg:gHolds a g
      ·have:=hk (sv.den ε) (Qg hs h1 (fun _=>rfl) (fun hn=>absurd hg hn))
       rw [Yb] at this
       refine Ze (fun j=>hasN j (depsL listed i 0 all [])=true) (C:=fun w'=>Grow w w') ho' hsel' (fun _ _ h h'=>h.trans h') n _ a w (fun j oj hj hne hun hno=>?_) Q15 hrd (Grow.refl w) (.inl ⟨hw.2 hg,fun w' hgr=>Zj (hs.grow hgr) hg hp (All.prem hs hg hv)⟩) this
       obtain ⟨e1,e2⟩:=free j oj hj hne hun hno
       exact ⟨e1,.inl (by simpa using e2)⟩
      ·have:=hk undef (Qg hs h1 (fun h=>absurd h hg) (fun _=>rfl))
       rw [Yb] at this
       refine Ze (fun j=>hasN j (depsL listed i 0 all [])=true) (C:=fun w'=>Grow w w') ho' hsel' (fun _ _ h h'=>h.trans h') n _ a w (fun j oj hj hne hun hno=>?_) Q15 hrd (Grow.refl w) (.inr ⟨by rw [kH];exact fun h=>hg (hw.1 h),rfl⟩) this
       obtain ⟨e1,e2⟩:=free j oj hj hne hun hno
       exact ⟨e1,.inl (by simpa using e2)⟩
     ·cases h
    ·cases h
 ·cases h
theorem Jd {all:List Oper} {listed:List Bool} {i:Nat} {st':St} {vc:List Prop}:∀ {l:List Oper} {j0:Nat},(∀ k,l[k]?=all[j0+k]?)→findPure P all listed st j0 l=some (i,st',vc)→∃ o,all[i]?=some o∧takePure P all listed st i o=some (st',vc)
 | [],_,_,h=>by cases h
 | o::l,j0,hl,h=>by
   simp only [findPure] at h
   split at h
   ·rename_i x hx
    cases h
    exact ⟨o,by simpa using (hl 0).symm,hx⟩
   ·exact Jd (j0:=j0+1) (fun k=>by have:=hl (k+1);simpa [Nat.add_assoc,Nat.add_comm 1 k] using this) h
theorem Q8l {b:Base} {cb:Bool} (hs:SatE w0 st ε a w) {o:Oper} {st1:St} {sv:SV} {vc vc':List Prop} (h:effOp P st o=some (st1,sv,vc)) (hc:effCalm P cb st o=some vc') (hv:All vc) (hv':All vc') {K:Act→World→Prop}
 (hk:∀ v w' ε',v=sv.den ε'→SatE w0 st1 ε' a w'→K (a.put o.dst v) w'):stepR P cb o a w K:=by
 obtain ⟨w',ε',hrun,hsat⟩:=Q39 hs h hv
 have hgrow:cb=true→Grow w w':=fun hcl=>by
  unfold effCalm at hc
  rw [if_pos hcl] at hc
  cases he:effOp P st.roOf o with
  | none=>rw [he] at hc;cases hc
  | some x =>
    obtain ⟨st2,sv2,vc2⟩:=x
    rw [he] at hc
    cases hc
    obtain ⟨w2,ε2,hrun2,hsat2⟩:=Q39 hs.roOf he hv'
    have:w2=w':=by
     rcases hrun with h1 | ⟨h1,_⟩<;>rcases hrun2 with h2 | ⟨h2,_⟩<;>rw [h1] at h2<;>injection h2 with _ h3<;>exact h3.symm
    subst this
    exact hsat2.below.toGrow
 unfold stepR
 rcases hrun with h1 | ⟨h1,hu⟩
 ·rw [h1]
  exact ⟨hgrow,hk _ _ _ rfl hsat⟩
 ·rw [h1]
  exact ⟨hgrow,hk _ _ _ hu.symm hsat⟩
theorem Qn {b:Base} (hm:P.follows .mixedOrders=true) {Q:Exit→Act→World→Prop}:∀ (fuel:Nat) (k:List K) (st:St) (vc:List Prop) (out:Out),seg P fuel k st=(vc,out)→All vc→OutOk P b Q out→Run P b Q k st
 | 0,k,st,vc,out,h,_,ho=>by
   simp only [seg,Prod.mk.injEq] at h
   obtain ⟨rfl,rfl⟩:=h
   exact ho.elim
 | fuel+1,k,st,vc,out,h,hv,ho=>by
   have ih:=Qn (b:=b) hm (Q:=Q) fuel
   intro a w hsat
   unfold seg at h
   split at h
   ·-- nothing left
    cases h;exact ho a w hsat
   ·cases h;exact ho a w hsat
   ·-- blk
    rename_i id k'
    exact ih _ _ _ _ h hv ho a w hsat
   ·cases h;exact ho.elim
   ·rename_i body n k'
    show Code.roundsIn (Wf b.ro) 0 P body (contQ P b Q k') (n+1) a w
    rw [roundsIn_succ]
    exact ih _ _ _ _ h hv ho a w hsat
   ·-- ops []
    rename_i o k'
    exact ih _ _ _ _ h hv ho a w hsat
   ·-- an operation
    rename_i all o todo k'
    obtain ⟨ε,hs⟩:=hsat
    split at h
    ·rename_i st' vc' hst
     simp only [Prod.mk.injEq] at h
     obtain ⟨rfl,rfl⟩:=h
     exact Qa3 (Q:=contQ P b Q k') hs hst hv.left (fun a w hs'=>ih _ _ _ _ rfl hv.right ho a w hs')
    ·split at h
     ·rename_i g hgd
      split at h
      ·rename_i f args hc
       cases h
       rcases ho with ho | ⟨he,hcall⟩
       ·exact ho a w ⟨ε,hs⟩
       ·exact Q9f (Q:=contQ P b Q k') hs hgd hc he (hcall ε a w hs).1 (hcall ε a w hs).2
      ·split at h
       ·rename_i t x hsp
        cases h
        cases hx:x with
        | true=>exact ho.1 hx a w ⟨ε,Z8 hs hsp hx⟩
        | false=>exact ho.2 hx a w ⟨ε,Z8 hs hsp hx⟩
       ·split at h
        ·rename_i r args hy
         cases h
         obtain ⟨l,hl,fn,tmps,assign,body,hrun,hround⟩:=ho ε a w hs
         obtain ⟨hg0,hex⟩:=Q9e (P:=P) hs hy hl
         subst hg0
         have hw:=(Z5 hs).1 _ hgd
         exact Q9c (hw.2 (gHolds_nil a)) ⟨l,fn,tmps,assign,body,w,hex.trans hrun,hround⟩
        ·cases h;exact ho a w ⟨ε,hs⟩
     ·cases h;exact ho a w ⟨ε,hs⟩
   ·-- a region that draws
    rename_i all listed n k'
    obtain ⟨ε,hs⟩:=hsat
    intro hsel
    split at h
    ·rename_i i st' vc' hfp
     split at h
     ·cases h;exact ho.elim
     ·rename_i n'
      simp only [Prod.mk.injEq] at h
      obtain ⟨rfl,rfl⟩:=h
      obtain ⟨o,hoi,htp⟩:=Jd (fun k=>by simp) hfp
      exact Q16 hs hsel hoi htp hv.left (fun v hs'=>ih _ _ _ _ rfl hv.right ho _ w ⟨ε,hs'⟩ hsel)
    ·split at h
     ·rename_i hr
      have hr':=Q61 hr
      have hq:=ih _ _ _ _ h hv ho a w ⟨ε,hs⟩
      cases n with
      | zero=>exact ⟨hr',hq⟩
      | succ n=>exact ⟨fun _=>hq,fun i hi=>by rw [hr'] at hi;cases hi⟩
     ·rename_i i hr
      split at h
      ·cases h;exact ho.elim
      ·rename_i n'
       have hq:=ih _ _ _ _ h hv ho a w ⟨ε,hs⟩ hsel
       refine ⟨fun h0=>?_,fun j hj=>?_⟩
       ·have hi:i∈readyL all listed:=by rw [hr];exact .head _
        have:=Z4.1 (List.mem_filter.1 hi).2
        rw [h0] at this;cases this
       ·have:=Q20 hj
        rw [hr] at this
        have hji:j=i:=by simpa using this
        subst hji
        rw [← Yb]
        exact hq
     ·rename_i l hne1 hne2
      split at h
      ·cases h;exact ho.elim
      ·rename_i n'
       cases h
       refine ⟨fun h0=>?_,fun j hj=>?_⟩
       ·cases hl:readyL all listed with
        | nil=>exact absurd hl hne1
        | cons i l =>
          have hi:i∈readyL all listed:=by rw [hl];exact .head _
          have:=Z4.1 (List.mem_filter.1 hi).2
          rw [h0] at this;cases this
       ·have hq:=ho j (Q20 hj) a w ⟨ε,hs⟩ hsel
        rw [← Yb]
        exact hq
   ·-- number i of a region that draws
    rename_i all listed n i k'
    obtain ⟨ε,hs⟩:=hsat
    intro hsel
    split at h
    ·cases h;exact ho.elim
    ·rename_i o hoi
     rw [Qo] at hoi
     have hoi':all.toArray[i]?=some o:=by simpa using hoi
     obtain ⟨g1,g2⟩:=Z5 hs (ops:=all) (o:=o)
     split at h
     ·rename_i hgd
      have hw:=(g1 _ hgd).2 (gHolds_nil a)
      unfold wpOpR
      simp only [hoi',hw,if_true]
      split at h
      ·rename_i st' sv vc1 vc2 he hc
       split at h
       ·rename_i st'' hput
        simp only [Prod.mk.injEq] at h
        obtain ⟨rfl,rfl⟩:=h
        exact Q8l (b:=b) hs he hc hv.left.right hv.left.left (fun v w' ε' hve hs'=>ih _ _ _ _ rfl hv.right ho _ w' ⟨ε',Qg hs' hput (fun _=>hve) (fun hn=>absurd (gHolds_nil _) hn)⟩ hsel)
       ·cases h;exact ho.elim
      ·split at h
       ·rename_i f args hco
        cases h
        rcases ho with ho | ⟨hen,hcall⟩
        ·have:=ho a w ⟨ε,hs⟩ hsel
         unfold wpOpR at this
         simpa only [hoi',hw,if_true] using this
        ·unfold stepR
         rw [Jx hs (gHolds_nil a) hco hen]
         exact ((hcall ε a w hs).1 (gHolds_nil a)).mono fun e w' ⟨v,h1,h2,h3⟩=>⟨v,h1,fun hc=>h2 hc,h3 hsel⟩
       ·split at h
        ·rename_i sv vc' hp
         split at h
         ·rename_i st'' hput
          simp only [Prod.mk.injEq] at h
          obtain ⟨rfl,rfl⟩:=h
          unfold stepR
          rw [Zj hs (gHolds_nil a) hp hv.left]
          exact ⟨fun _=>⟨rfl,rfl,rfl,jm _,fun _ _=>rfl⟩,ih _ _ _ _ rfl hv.right ho _ w ⟨ε,Qg hs hput (fun _=>rfl) (fun hn=>absurd (gHolds_nil _) hn)⟩ hsel⟩
         ·cases h;exact ho.elim
        ·split at h
         ·cases h
          have:=ho a w ⟨ε,hs⟩ hsel
          unfold wpOpR at this
          simpa only [hoi',hw,if_true] using this
         ·cases h;exact ho.elim
     ·rename_i g hne hgd
      have hw:=g1 _ hgd
      split at h
      ·rename_i f args hco
       cases h
       rcases ho with ho | ⟨hen,hcall⟩
       ·exact ho a w ⟨ε,hs⟩ hsel
       ·unfold wpOpR
        simp only [hoi']
        by_cases hg:gHolds a g
        ·simp only [hw.2 hg,if_true]
         unfold stepR
         rw [Jx hs hg hco hen]
         exact ((hcall ε a w hs).1 hg).mono fun e w' ⟨v,h1,h2,h3⟩=>⟨v,h1,fun hc=>h2 hc,h3 hsel⟩
        ·have hwf:Region.wanted o (yielded all.toArray a.tmps)=false:=by rw [kH];exact fun h=>hg (hw.1 h)
         simp only [hwf,jY,if_false]
         exact (hcall ε a w hs).2 hg hsel
      ·split at h
       ·rename_i t x hsp
        cases h
        cases hx:x with
        | true=>exact ho.1 hx a w ⟨ε,Z8 hs hsp hx⟩ hsel
        | false=>exact ho.2 hx a w ⟨ε,Z8 hs hsp hx⟩ hsel
       ·cases h;exact ho.elim
     ·rename_i hgd
      split at h
      ·rename_i st' hput
       have hw:=g2 hgd
       unfold wpOpR
       simp only [hoi',hw,jY,if_false]
       exact ih _ _ _ _ h hv ho _ w ⟨ε,Qg hs hput (fun _=>rfl) (fun _=>rfl)⟩ hsel
      ·cases h;exact ho.elim
     ·cases h;exact ho.elim
   ·rename_i k'
    exact wpIn_skip (ih _ _ _ _ h hv ho a w hsat)
   ·rename_i l k'
    exact wpIn_label (ih _ _ _ _ h hv ho a w hsat)
   ·rename_i c d k'
    exact wpIn_seq (ih _ _ _ _ h hv ho a w hsat)
   ·rename_i id c k'
    exact wpIn_block (ih _ _ _ _ h hv ho a w hsat)
   ·rename_i id k'
    split at h
    ·rename_i k2 hp
     exact wpIn_exit (Yo _ _ hp (ih _ _ _ _ h hv ho a w hsat))
    ·cases h;exact ho.elim
   ·rename_i k'
    cases h
    exact wpIn_ret (Q8h _ (ho a w hsat))
   ·rename_i c x y k'
    obtain ⟨ε,hs⟩:=hsat
    split at h
    ·rename_i hc
     exact wpIn_cond_true (Q5 hs (gHolds_nil a) hc) (ih _ _ _ _ h hv ho a w ⟨ε,hs⟩)
    ·rename_i hc
     exact wpIn_cond_false (Q5 hs (gHolds_nil a) hc) (ih _ _ _ _ h hv ho a w ⟨ε,hs⟩)
    ·rename_i x hc
     cases h
     exact wpIn_cond_split (Q5 hs (gHolds_nil a) hc) (fun hx=>ho.1 hx a w ⟨ε,Q8j hs hc hx⟩) (fun hx=>ho.2 hx a w ⟨ε,Q8j hs hc hx⟩)
    ·cases h;exact ho.elim
   ·rename_i c k'
    cases h;exact ho a w hsat
   ·rename_i id ops draw k'
    split at h
    ·cases h;exact ho.elim
    rename_i hnd
    have hnd:ops.toList.all noDefer=true:=by simpa using hnd
    split at h
    ·rename_i hd
     subst hd
     split at h
     ·rename_i st' vc' hpure hlex
      simp only [Prod.mk.injEq] at h
      obtain ⟨rfl,rfl⟩:=h
      obtain ⟨ε,hs⟩:=hsat
      simp only [je,jL] at hlex
      have hro:(Wf b.ro).round=none:=hs.defs.2 hlex.1
      refine wpIn_region_quiet (F:=Wf b.ro) (n:=0) (C:=fun w'=>∃ n,w'=w.drewN n) hro hm hlex.2 ⟨1,rfl⟩ ?_
      have:=Gz (P:=P) (all:=ops.toList) (K:=fun a'=>∀ w',(∃ n,w'=w.drewN n)→contQ P b Q k' .normal a' w') (fun n=>hs.drewN n) hpure hv.left (fun a' hs' w' ⟨n,hn⟩=>by
       subst hn
       exact ih _ _ _ _ rfl hv.right ho a' _ ⟨ε,hs' n⟩)
      refine Jw ?_
      simpa using this
     ·split at h
      ·rename_i hsel
       refine Q79 hm hnd ?_
       obtain ⟨ε,hs⟩:=hsat
       have:=ih _ _ _ _ h hv ho a { w with drawn:=w.drawn+1 } ⟨ε,hs.same rfl rfl rfl rfl⟩ (by simpa using hsel)
       simpa using this
      ·cases h;exact ho.elim
    ·rename_i hd
     have hd':draw=false:=by simpa using hd
     subst hd'
     refine Q63 hnd ?_
     have:=ih _ _ _ _ h hv ho a w hsat
     have e:contQ P b Q (.ops ops.toList ops.toList::k') .normal a w=wpListW P ops.toList.toArray (contQ P b Q k') ops.toList a w:=rfl
     rw [e] at this
     simpa using this
   ·rename_i f params assign body k'
    cases h
    show wpW b.ro P (Code.rangeFunc f params assign body) (contQ P b Q k') a w
    have:=ho a w hsat
    simpa using this
   all_goals (cases h;exact ho.elim)
end
theorem Q1 {P : Program} {f : Nat} {fn : Func} (hf : P.funcs[f]? = some fn) (hb : fn.body.isSome = true) (hn : (fn.name == "runtime.NumGoroutine") = false) : Enters P f := fun args w => by
 have hb':fn.body≠none:=fun e=>by rw [e] at hb;cases hb
 have hn' : fn.name ≠ "runtime.NumGoroutine" := by simpa using hn
 simp [callFunc,program,kX,hf,hn',hb']
def C.ren (τ:Nat→Nat):C→C
 | .p r off=>.p (τ r) off
 | .h r=>.h (τ r)
 | .e r sz ix off=>.e (τ r) sz ix off
 | .fn f bd caps=>.fn f bd (caps.map τ)
 | .ar r sz0 ix0 off sz len ix off2=>.ar (τ r) sz0 ix0 off sz len ix off2
 | .hs r lo n=>.hs (τ r) lo n
 | c=>c
def SV.ren (τ:Nat→Nat):SV→SV
 | .c x=>.c (x.ren τ)
 | .agg cs=>.agg (cs.map (C.ren τ))
 | .tup vs=>.tup (vs.map fun v=>(v.1,v.2.map (C.ren τ)))
 | .u=>.u
def focRen (τ:Nat→Nat):Option (Nat×List C)→Option (Nat×List C)
 | none=>none
 | some x=>some (x.1,x.2.map (C.ren τ))
def Reg.ren (τ:Nat→Nat):Reg→Reg
 | .box ty cells=>.box ty (cells.map (C.ren τ))
 | .own ty size n f foc=>.own ty size n f (focRen τ foc)
 | .row size n f foc=>.row size n f (focRen τ foc)
 | .ro cells=>.ro (cells.map (C.ren τ))
 | .mpv T z n ents=>.mpv T z n (ents.map fun x=>(x.1,x.2.ren τ))
 | .mpr T ty sz n f o=>.mpr T ty sz n f (o.map fun x=>(x.1,τ x.2.1,x.2.2))
 | r=>r
def at' (l:List Nat) (i:Nat):Nat:=match nth l i with
 | some x=>x
 | none=>0
theorem Q17 {ε ε':Env} {τ:Nat→Nat} {n:Nat} (h:∀ r,r<n→ε'.at_ (τ r)=ε.at_ r) {c:C} (hs:c.scp n=true):(c.ren τ).den ε'=c.den ε:=by
 cases c<;>simp only [C.scp] at hs<;>simp only [C.ren,C.den]
 case hs=>rw [h _ (ju hs)]
 ·rw [h _ (ju hs)]
 ·rw [h _ (ju hs)]
 ·rw [h _ (ju hs)]
 ·rename_i f bd caps
  congr 1
  rw [List.map_map]
  refine km fun r hr=>h r (ju (List.all_eq_true.1 hs r hr))
 ·rw [h _ (ju hs)]
theorem Yu {ε ε':Env} {τ:Nat→Nat} {n:Nat} (h:∀ r,r<n→ε'.at_ (τ r)=ε.at_ r) {cs:List C} (hs:cs.all (C.scp n)=true):(cs.map (C.ren τ)).map (C.den ε')=cs.map (C.den ε):=by
 rw [List.map_map]
 exact km fun c hc=>Q17 h (List.all_eq_true.1 hs c hc)
theorem Zz {ε ε':Env} {τ:Nat→Nat} {n:Nat} (h:∀ r,r<n→ε'.at_ (τ r)=ε.at_ r) {s:SV} (hs:s.scp n=true):(s.ren τ).den ε'=s.den ε:=by
 cases s with
 | c x=>exact Q17 h hs
 | agg cs=>simp only [SV.ren,SV.den,Yu h hs]
 | tup vs =>
   simp only [SV.ren,SV.den,List.map_map]
   congr 2
   refine km fun v hv=>?_
   have:=List.all_eq_true.1 hs v hv
   simp only [denPart,Function.comp,Yu h this]
 | u=>rfl
def beqL:List Nat→List Nat→Bool
 | [],[]=>true
 | x::r,y::r'=>jr x y&&beqL r r'
 | _,_=>false
def kindB (a b:IntKind):Bool:=decide (a=b)
inductive F where
 | n (a b:Nat)
 | i (a b:Int)
 | b (a b:Bool)
 | v (a b:Value)
 | t (a b:TC)
 | fn (n:Nat) (f g:Nat→Nat→TC)
 | fx (n k:Nat) (f g:Nat→Nat→TC)
 | ex (a b:Ext)
 | p (p:Prop)
def F.prop:F→Prop
 | .n x y=>x=y
 | .i x y=>x=y
 | .b x y=>x=y
 | .v x y=>x=y
 | .t x y=>x=y
 | .fn m f g=>∀ i,i<m→f i=g i
 | .fx m k f g=>∀ i,i<m→i≠k→f i=g i
 | .ex x y=>x=y
 | .p x=>x
def AllF (l:List F):Prop:=∀ p∈l,p.prop
theorem AllF.left {l r:List F} (h:AllF (l++r)):AllF l:=fun p hp=>h p (jT _ hp)
theorem AllF.right {l r:List F} (h:AllF (l++r)):AllF r:=fun p hp=>h p (List.mem_append_right _ hp)
theorem AllF.one {p:F} (h:AllF [p]):p.prop:=h p (.head _)
theorem AllF.head {p:F} {l:List F} (h:AllF (p::l)):p.prop:=h p (.head _)
theorem AllF.tail {p:F} {l:List F} (h:AllF (p::l)):AllF l:=fun q hq=>h q (.tail _ hq)
def cEq:C→C→Option (List F)
 | .i k n,.i k' m=>if kindB k k' then some [.i n m] else none
 | .b x,.b y=>some [.b x y]
 | .b x,.t y=>some [.b x y]
 | .t x,.b y=>some [.b x y]
 | .t x,.t y=>if beqB x y then some [] else none
 | .v x,.v y=>some [.v x y]
 | .v x,.i k n=>some [.v x (.int k n)]
 | .i k n,.v x=>some [.v (.int k n) x]
 | .v x,.b y=>some [.v x (.bool y)]
 | .b y,.v x=>some [.v (.bool y) x]
 | .p r o,.p r' o'=>if jr r r'&&jr o o' then some [] else none
 | .h r,.h r'=>if jr r r' then some [] else none
 | .e r sz ix o,.e r' sz' ix' o'=>if jr r r'&&jr sz sz'&&jr o o' then some [.n ix ix'] else none
 | .fn f bd cs,.fn f' bd' cs'=>if jr f f'&&beqB bd bd'&&beqL cs cs' then some [] else none
 | .h r,.v (.slice none 0 0)=>if kR 1000000 r then some [] else none
 | .ar r sz0 ix0 off sz len ix off2,.ar r' sz0' ix0' off' sz' len' ix' off2'=>if jr r r'&&jr sz0 sz0'&&jr off off'&&jr sz sz'&&jr off2 off2' then some [.n ix0 ix0',.n len len',.n ix ix'] else none
 | _,_=>none
def cEqs:List C→List C→Option (List F)
 | [],[]=>some []
 | x::r,y::r'=>match cEq x y,cEqs r r' with
   | some a,some b=>some (a++b)
   | _,_=>none
 | _,_=>none
def tEqs:List (Bool×List C)→List (Bool×List C)→Option (List F)
 | [],[]=>some []
 | (a,x)::r,(b,y)::r'=>if beqB a b then
     match cEqs x y,tEqs r r' with
     | some a,some b=>some (a++b)
     | _,_=>none
   else none
 | _,_=>none
def sEq:SV→SV→Option (List F)
 | .c x,.c y=>cEq x y
 | .agg xs,.agg ys=>cEqs xs ys
 | .tup xs,.tup ys=>tEqs xs ys
 | .u,.u=>some []
 | _,_=>none
def sEqs:List SV→List SV→Option (List F)
 | [],[]=>some []
 | x::r,y::r'=>match sEq x y,sEqs r r' with
   | some a,some b=>some (a++b)
   | _,_=>none
 | _,_=>none
theorem Qcr:∀ {a b:List Nat},beqL a b=true→a=b
 | [],[],_=>rfl
 | x::r,y::r',h=>by
   simp only [beqL,je] at h
   rw [jd h.1,Qcr h.2]
 | [],_::_,h=>by cases h
 | _::_,[],h=>by cases h
theorem Q18 {ε:Env} {r:Nat} (h:ε.length≤r):ε.ent r=⟨.slice none 0 0,fun _=>False⟩:=by
 unfold Env.ent;rw [jb,jX h];rfl
theorem Q65 {ε:Env} {r:Nat} (h:ε.length≤r):ε.at_ r=.slice none 0 0:=by unfold Env.at_;rw [Q18 h]
theorem Q8m {ε:Env} (hε:ε.length≤1000000) {x y:C} {vc:List F} (h:cEq x y=some vc) (hv:AllF vc):x.den ε=y.den ε:=by
 unfold cEq at h
 split at h<;>first
  | (cases h;done)
  | (cases h;have:=hv.one;dsimp only [F.prop] at this;simp only [C.den];rw [this];done)
  | (cases h;have:=hv.one;dsimp only [F.prop] at this;simp only [C.den];exact this)
  | (split at h
     ·rename_i hb
      cases h
      first
       | (have e:=uc hb;have:=hv.one;dsimp only [F.prop] at this;subst e;simp only [C.den];rw [this];done)
       | (have e:=Zh.1 hb;subst e;rfl)
       | (simp only [je] at hb;have e1:=jd hb.1.1;have e2:=jd hb.1.2;have e3:=jd hb.2;have:=hv.one;dsimp only [F.prop] at this;subst e1 e2 e3 this;rfl)
       | (simp only [je] at hb;have e1:=jd hb.1;have e2:=jd hb.2;have e3:=hv.head;have e4:=hv.tail.one;dsimp only [F.prop] at e3 e4;subst e1 e2 e3 e4;rfl)
       | (simp only [je] at hb;have e1:=jd hb.1;have e2:=jd hb.2;subst e1 e2;rfl)
       | (simp only [je] at hb;have e1:=jd hb.1.1;have e3:=Zh.1 hb.1.2;have e2:=Qcr hb.2;subst e1 e2 e3;rfl)
       | (have e1:=jd hb;subst e1;rfl)
       | (have e1:=ju hb;simp only [C.den];exact Q65 W31)
       | (simp only [je] at hb;obtain ⟨⟨⟨⟨b1,b2⟩,b3⟩,b4⟩,b5⟩:=hb;have e1:=jd b1;have e2:=jd b2;have e3:=jd b3;have e4:=jd b4;have e5:=jd b5;have e6:=hv.head;have e7:=hv.tail.head;have e8:=hv.tail.tail.one;dsimp only [F.prop] at e6 e7 e8;subst e1 e2 e3 e4 e5 e6 e7 e8;rfl)
     ·cases h)
theorem Yp {ε:Env} (hε:ε.length≤1000000):∀ {x y:List C} {vc:List F},cEqs x y=some vc→AllF vc→x.map (C.den ε)=y.map (C.den ε)
 | [],[],_,_,_=>rfl
 | x::r,y::r',vc,h,hv=>by
   simp only [cEqs] at h
   split at h
   ·rename_i h1 h2
    cases h
    simp only [jV,Q8m hε h1 hv.left,Yp hε h2 hv.right]
   ·cases h
 | [],_::_,_,h,_=>by cases h
 | _::_,[],_,h,_=>by cases h
theorem Q66 {ε:Env} (hε:ε.length≤1000000):∀ {x y:List (Bool×List C)} {vc:List F},tEqs x y=some vc→AllF vc→x.map (denPart ε)=y.map (denPart ε)
 | [],[],_,_,_=>rfl
 | (a,x)::r,(b,y)::r',vc,h,hv=>by
   simp only [tEqs] at h
   split at h
   ·rename_i hb
    have:=Zh.1 hb
    subst this
    split at h
    ·rename_i h1 h2
     cases h
     simp only [jV,denPart,Yp hε h1 hv.left,Q66 hε h2 hv.right]
    ·cases h
   ·cases h
 | [],_::_,_,h,_=>by cases h
 | _::_,[],_,h,_=>by cases h
theorem Q3b {ε:Env} (hε:ε.length≤1000000) {x y:SV} {vc:List F} (h:sEq x y=some vc) (hv:AllF vc):x.den ε=y.den ε:=by
 cases x<;>cases y<;>simp only [sEq,reduceCtorEq] at h
 ·exact Q8m hε h hv
 ·simp only [SV.den,Yp hε h hv]
 ·simp only [SV.den,Q66 hε h hv]
 ·rfl
theorem Q22 {ε:Env} (hε:ε.length≤1000000):∀ {x y:List SV} {vc:List F},sEqs x y=some vc→AllF vc→x.map (SV.den ε)=y.map (SV.den ε)
 | [],[],_,_,_=>rfl
 | x::r,y::r',vc,h,hv=>by
   simp only [sEqs] at h
   split at h
   ·rename_i h1 h2
    cases h
    simp only [jV,Q3b hε h1 hv.left,Q22 hε h2 hv.right]
   ·cases h
 | [],_::_,_,h,_=>by cases h
 | _::_,[],_,h,_=>by cases h
def flatVal:C→Option Value
 | .i k n=>some (.int k n)
 | .b x=>some (.bool x)
 | .t x=>some (.bool x)
 | .v y=>some y
 | _=>none
def flatCells (f:Nat→TC):Nat→List C→Option (List F)
 | _,[]=>some []
 | j,c::cs=>match flatVal c,flatCells f (j+1) cs with
   | some v,some l=>some (.t (f j) (.val v)::l)
   | _,_=>none
theorem Qc9 {c:C} {v:Value} (ε:Env) (h:flatVal c=some v):c.den ε=v:=by
 cases c<;>simp only [flatVal,Option.some.injEq,reduceCtorEq] at h<;>subst h<;>rfl
theorem Gp (ε:Env) {f:Nat→TC}:∀ {cs:List C} {j0:Nat} {vc:List F},flatCells f j0 cs=some vc→AllF vc→∀ q x,cs[q]?=some x→f (j0+q)=.val (x.den ε)
 | [],_,_,_,_,q,x,hx=>by simp at hx
 | c::cs,j0,vc,h,hv,q,x,hx=>by
   simp only [flatCells] at h
   split at h
   ·rename_i v l h1 h2
    cases h
    cases q with
    | zero =>
      simp only [jD,Option.some.injEq] at hx
      subst hx
      rw [Qc9 ε h1]
      exact hv.head
    | succ q =>
      have:=Gp ε h2 hv.tail q x (by simpa using hx)
      rw [show j0+(q+1)=j0+1+q by omega]
      exact this
   ·cases h
theorem Q3c {K:List CK} (τ:Nat→Nat):∀ (l:List (KA K×C)) (q:KA K),entOf (l.map fun x=>(x.1,x.2.ren τ)) q=(entOf l q).map (C.ren τ)
 | [],_=>rfl
 | (a,c)::r,q=>by
   simp only [jV,entOf]
   split
   ·rfl
   ·exact Q3c τ r q
theorem Q19 {K:List CK} {τ:Nat→Nat} (l:List (KA K×C)) (q:KA K):(entOf (l.map fun x=>(x.1,x.2.ren τ)) q).isSome=(entOf l q).isSome:=by rw [Q3c];cases entOf l q<;>rfl
theorem Qa4 {ε ε':Env} {τ:Nat→Nat} {n:Nat} (hτ:∀ r,r<n→ε'.at_ (τ r)=ε.at_ r) {K:List CK} {z:Value} {l:List (KA K×C)} (hsc:l.all (fun x=>x.2.scp n)=true):entV ε' z (l.map fun x=>(x.1,x.2.ren τ))=entV ε z l:=by
 funext q
 unfold entV
 rw [Q3c]
 cases h:entOf l q with
 | none=>rfl
 | some c=>exact Q17 hτ (Q35 hsc h)
def MrEq (T:MT) (ty sz n:Nat) (f:KA T.K→Nat×(Nat→Nat→TC)) (T':MT) (ty' sz' n':Nat) (f':KA T'.K→Nat×(Nat→Nat→TC)):Prop:=
 ∃ h:T'=T,ty=ty'∧sz=sz'∧n'≤n∧∀ a,(f (h▸a)).1=(f' a).1∧∀ i,i<(f' a).1→(f (h▸a)).2 i=(f' a).2 i
theorem MrEq.mk' {T:MT} {ty sz n n':Nat} {f f':KA T.K→Nat×(Nat→Nat→TC)} (h1:n'≤n) (h2:∀ a,(f a).1=(f' a).1∧∀ i,i<(f' a).1→(f a).2 i=(f' a).2 i):MrEq T ty sz n f T ty sz n' f':=⟨rfl,rfl,rfl,h1,h2⟩
theorem MrEq.apply {ε ε':Env} {w:World} {M fp:Nat→Prop} {T T':MT} {h:Value} {ty sz n ty' sz' n':Nat} {f:KA T.K→Nat×(Nat→Nat→TC)} {f':KA T'.K→Nat×(Nat→Nat→TC)} (e:MrEq T ty sz n f T' ty' sz' n' f')
 (hm:MapR ε' w M fp T' ty' sz' h n' f' none):MapR ε w M fp T ty sz h n f none:=by
 obtain ⟨hT,rfl,rfl,h1,h2⟩:=e
 subst hT
 obtain ⟨has,hd,fb,fps,⟨ok,b,D,g1,g2,g3,g4,g5⟩,g6,g7,g8,g9,g10⟩:=hm
 refine ⟨has,hd,fb,fps,⟨ok,b,D,g1,g2,g3,g4,World.ownsMap.mono g5 h1⟩,g6,g7,g8,fun a _=>?_,fun a q st e=>by cases e⟩
 have h3:=g9 a W149
 obtain ⟨k1,k2⟩:=h2 a
 have k1':(f a).1=(f' a).1:=k1
 rw [k1']
 refine OwnRow.map (w':=w) h3 (fun _ _ _=>rfl) (fun i j fp' u hi _ _ hu=>?_)
 have k2':(f a).2 i=(f' a).2 i:=k2 i hi
 rw [k2'];exact hu
def regMatch (τ:Nat→Nat) (want have_:Reg):Option (List F):=
 match want,have_ with
 | .dead,_=>some []
 | .box ty cs,.box ty' cs'=>if jr ty ty' then cEqs (cs.map (C.ren τ)) cs' else none
 | .own ty sz n f none,.own ty' sz' n' f' none=>if jr ty ty'&&jr sz sz' then some [.n n n',.fn n f f'] else none
 | .own ty sz n f (some (k,cs)),.own ty' sz' n' f' (some (k',cs'))=>if jr ty ty'&&jr sz sz' then (cEqs (cs.map (C.ren τ)) cs').map ([.n n n',.n k k',.fx n k f f']++·) else none
 | .row sz n f none,.row sz' n' f' _=>if jr sz sz' then some [.n n n',.fn n f f'] else none
 | .row sz n f (some (k,cs)),.row sz' n' f' (some (k',cs'))=>if jr sz sz' then (cEqs (cs.map (C.ren τ)) cs').map ([.n n n',.n k k',.fn n f f']++·) else none
 | .row sz n f none,.own _ sz' n' f' none=>if jr sz sz' then some [.n n n',.fn n f f'] else none
 | .ro cs,.box _ cs'=>cEqs (cs.map (C.ren τ)) cs'
 | .ro cs,.ro cs'=>cEqs (cs.map (C.ren τ)) cs'
 | .own ty sz n f none,.own ty' sz' n' f' (some (k,cs))=>if jr ty ty'&&jr sz sz' then (flatCells (f k) 0 cs).map ([.n n n',.fx n k f f']++·) else none
 | .one,.one=>some []
 | .froz X,.froz X'=>some [.ex X X']
 | .ext X k al,.ext X' k' al'=>some [.ex X X',.n k k',.b al al']
 | .row sz n f none,.own _ sz' n' f' (some (k,cs))=>if jr sz sz' then (flatCells (f k) 0 cs).map ([.n n n',.fx n k f f']++·) else none
 | .mp T n has f it,.mp T' n' has' f' it'=>some [.p (MpEq T n has f it T' n' has' f' it')]
 | .mpv T z n ents,.mpv T' z' n' ents'=>some [.p (Reg.mpv T z n (ents.map fun x=>(x.1,x.2.ren τ))=.mpv T' z' n' ents')]
 | .mpr T ty sz n f none,.mpr T' ty' sz' n' f' none=>some [.p (MrEq T ty sz n f T' ty' sz' n' f')]
 | .itr q,.itr q'=>some [.n q q']
 | .row sz n f none,.full sz' n' f'=>if jr sz sz' then some [.n n n',.fn n f f'] else none
 | .one,.own _ _ _ _ _=>some []
 | .one,.row _ _ _ _=>some []
 | _,_=>none
def nilMatch (want:Reg):Option (List F):=
 match want with
 | .dead=>some []
 | .own _ _ n _ none=>some [.n n 0]
 | .row _ n _ none=>some [.n n 0]
 | .one=>some []
 | _=>none
theorem Q3d {ε:Env} {M:Nat→Prop} {w:World} {e:Ent} {sz n n':Nat} {f f':Nat→Nat→TC} (hr:RdRow w e.fp e.h sz n' (fun i j u=>RdC w e.fp (f' i j) u)) (e1:n=n') (e2:∀ i,i<n→f i=f' i):RegOk ε M w e (.row sz n f none):=by
 subst e1
 exact ⟨hr.map (jm _) (fun _ _ _=>rfl) (fun i j u hi hj hu=>by show RdC w e.fp (f i j) u;rw [e2 i hi];exact hu),trivial⟩
theorem Qfm {ε ε':Env} {τ:Nat→Nat} {n:Nat} {cs cs':List C} (hτ:∀ r,r<n→ε.at_ (τ r)=ε'.at_ r) (hsc:cs.all (C.scp n)=true) (hc:(cs.map (C.ren τ)).map (C.den ε)=cs'.map (C.den ε)) :
 cs.length=cs'.length∧∀ (j:Nat) (x:C),cs'[j]?=some x→∃ y:C,cs[j]?=some y∧y.den ε'=x.den ε:=by
 rw [Yu hτ hsc] at hc
 refine ⟨by simpa using congrArg jW hc,fun j x hj=>?_⟩
 have e1:(cs.map (C.den ε'))[j]?=some (x.den ε):=by rw [hc,jk,hj];rfl
 rw [jk] at e1
 cases hy:cs[j]? with
 | none=>rw [hy] at e1;cases e1
 | some y =>
   rw [hy] at e1
   simp only [jM,Option.some.injEq] at e1
   exact ⟨y,rfl,e1⟩
theorem Q1a {ε ε':Env} (hε:ε.length≤1000000) {M:Nat→Prop} {w:World} {e:Ent} {τ:Nat→Nat} {n:Nat} {want have_:Reg} {vc:List F} (hτ:∀ r,r<n→ε.at_ (τ r)=ε'.at_ r) (hsc:want.scp n=true) (hm:regMatch τ want have_=some vc) (hv:AllF vc)
 (hlt:have_.live=true→∀ b,e.fp b→b<w.heap.size) (hr:RegOk ε M w e have_):RegOk ε' M w e want:=by
 unfold regMatch at hm
 split at hm
 ·trivial
 ·rename_i ty cs ty' cs'
  split at hm
  ·rename_i hb
   have:=jd hb
   subst this
   have hc:=Yp (ε:=ε) hε hm hv
   obtain ⟨g,h1,h2,h3,h4⟩:=hr
   refine ⟨g,h1,h2,h3,?_⟩
   rw [← Yu hτ hsc,hc]
   exact h4
  ·cases hm
 ·rename_i ty sz n1 f ty' sz' n' f'
  split at hm
  ·rename_i hb
   simp only [je] at hb
   cases hm
   have h1:=jd hb.1
   have h2:=jd hb.2
   have e1:=hv.head
   have e2:=hv.tail.one
   dsimp only [F.prop] at e1 e2
   subst h1 h2 e1
   exact ⟨OwnRow.map hr.1 (fun _ _ _=>rfl) (fun i j fp' u hi _ _ hu=>by show OwnC w M (f i j) fp' u;rw [e2 i hi];exact hu),trivial⟩
  ·cases hm
 ·rename_i ty sz n1 f k cs ty' sz' n' f' k' cs'
  split at hm
  ·rename_i hb
   simp only [je] at hb
   obtain ⟨vc1,hm1,he⟩:=map_nil hm
   subst he
   have h1:=jd hb.1
   have h2:=jd hb.2
   have e1:=hv.left.head
   have e2:=hv.left.tail.head
   have e3:=hv.left.tail.tail.one
   dsimp only [F.prop] at e1 e2 e3
   subst h1 h2 e1 e2
   obtain ⟨c1,c2⟩:=Qfm hτ hsc (Yp (ε:=ε) hε hm1 hv.right)
   refine ⟨OwnRow.map hr.1 (fun _ _ _=>rfl) (fun i j fp' u hi _ _ hu=>⟨fun hik=>?_,fun hik=>?_⟩),hr.2.1,c1.trans hr.2.2⟩
   ·rw [e3 i hi hik];exact hu.1 hik
   ·obtain ⟨x,hx,he⟩:=hu.2 hik
    obtain ⟨y,hy,he'⟩:=c2 j x hx
    exact ⟨y,hy,he.trans he'.symm⟩
  ·cases hm
 ·rename_i sz n1 f sz' n' f' foc
  split at hm
  ·rename_i hb
   cases hm
   have h1:=jd hb
   subst h1
   refine Q3d (ε:=ε') (M:=M) (hr.1.map (jm _) (fun _ _ _=>rfl) (fun i j u _ _ hu=>?_)) hv.head hv.tail.one
   cases foc with
   | none=>exact hu
   | some kc=>exact hu.1
  ·cases hm
 ·rename_i sz n1 f k cs sz' n' f' k' cs'
  split at hm
  ·rename_i hb
   obtain ⟨vc1,hm1,he⟩:=map_nil hm
   subst he
   have h1:=jd hb
   have e1:=hv.left.head
   have e2:=hv.left.tail.head
   have e3:=hv.left.tail.tail.one
   dsimp only [F.prop] at e1 e2 e3
   subst h1 e1 e2
   obtain ⟨c1,c2⟩:=Qfm hτ hsc (Yp (ε:=ε) hε hm1 hv.right)
   refine ⟨hr.1.map (jm _) (fun _ _ _=>rfl) (fun i j u hi _ hu=>⟨by rw [e3 i hi];exact hu.1,fun hik=>?_⟩),hr.2.1,c1.trans hr.2.2⟩
   obtain ⟨x,hx,he⟩:=hu.2 hik
   obtain ⟨y,hy,he'⟩:=c2 j x hx
   exact ⟨y,hy,he.trans he'.symm⟩
  ·cases hm
 ·rename_i sz n1 f ty' sz' n' f'
  split at hm
  ·rename_i hb
   cases hm
   have h1:=jd hb
   subst h1
   exact Q3d (ε:=ε') (M:=M) (Yz hr.1 (fun i j fp' u _ _ hf hu=>Zk (f' i j) hf hu)) hv.head hv.tail.one
  ·cases hm
 ·rename_i cs ty' cs'
  have hc:=Yp (ε:=ε) hε hm hv
  obtain ⟨g,h1,h2,h3,h4⟩:=hr
  refine ⟨_,h1,hlt rfl g h3,h3,fun j x hx=>?_⟩
  rw [← hc,Yu hτ hsc] at h4
  rw [Gy h4]
  simp [hx]
 ·rename_i cs cs'
  have hc:=Yp (ε:=ε) hε hm hv
  rw [Yu hτ hsc] at hc
  obtain ⟨A,h1,h2,h3,h4⟩:=hr
  refine ⟨A,h1,h2,h3,fun j x hx=>?_⟩
  have e1:(cs'.map (C.den ε))[j]?=some (x.den ε'):=by rw [← hc,jk,hx];rfl
  rw [jk] at e1
  cases hj:cs'[j]? with
  | none=>rw [hj] at e1;cases e1
  | some y =>
    rw [hj] at e1
    simp only [jM,Option.some.injEq] at e1
    rw [h4 j y hj,e1]
 ·rename_i ty sz n1 f ty' sz' n' f' k cs
  split at hm
  ·rename_i hb
   simp only [je] at hb
   obtain ⟨vc1,hm1,he⟩:=map_nil hm
   subst he
   have h1:=jd hb.1
   have h2:=jd hb.2
   have e1:=hv.left.head
   have e3:=hv.left.tail.one
   dsimp only [F.prop] at e1 e3
   subst h1 h2 e1
   refine ⟨OwnRow.map hr.1 (fun _ _ _=>rfl) (fun i j fp' u hi _ _ hu=>?_),trivial⟩
   show OwnC w M (f i j) fp' u
   by_cases hik:i=k
   ·obtain ⟨x,hx,he⟩:=hu.2 hik
    have:=Gp ε hm1 hv.right j x hx
    rw [j8] at this
    rw [hik,this]
    exact he
   ·rw [e3 i hi hik];exact hu.1 hik
  ·cases hm
 ·exact hr
 ·cases hm
  have e1:=hv.one
  dsimp only [F.prop] at e1
  subst e1
  exact hr
 ·cases hm
  have e1:=hv.head
  have e2:=hv.tail.head
  have e3:=hv.tail.tail.one
  dsimp only [F.prop] at e1 e2 e3
  subst e1 e2 e3
  exact hr
 ·rename_i sz n1 f ty' sz' n' f' k cs
  split at hm
  ·rename_i hb
   obtain ⟨vc1,hm1,he⟩:=map_nil hm
   subst he
   have h1:=jd hb
   have e1:=hv.left.head
   have e3:=hv.left.tail.one
   dsimp only [F.prop] at e1 e3
   subst h1 e1
   refine ⟨Yz hr.1 (fun i j fp' u hi _ hf hu=>?_),trivial⟩
   show RdC w e.fp (f i j) u
   by_cases hik:i=k
   ·obtain ⟨x,hx,he⟩:=hu.2 hik
    have:=Gp ε hm1 hv.right j x hx
    rw [j8] at this
    rw [hik,this]
    exact he
   ·rw [e3 i hi hik];exact Zk (f' i j) hf (hu.1 hik)
  ·cases hm
 ·cases hm
  exact MpEq.apply hv.one hr
 ·cases hm
  rename_i T z n1 ents T' z' n' ents'
  have e1:Reg.mpv T z n1 (ents.map fun x=>(x.1,x.2.ren τ))=.mpv T' z' n' ents':=hv.one
  rw [← e1] at hr
  have hr':MapV w M e.fp T z e.h n1 (fun q=>(entOf (ents.map fun x=>(x.1,x.2.ren τ)) q).isSome) (entV ε z (ents.map fun x=>(x.1,x.2.ren τ))):=hr
  rw [Qa4 (ε:=ε') (ε':=ε) hτ hsc,funext (Q19 ents)] at hr'
  exact hr'
 ·cases hm
  exact MrEq.apply hv.one hr
 ·cases hm
  have e1:=hv.one
  dsimp only [F.prop] at e1
  subst e1
  exact hr
 ·rename_i sz n1 f sz' n' f'
  split at hm
  ·rename_i hb
   cases hm
   have h1:=jd hb
   subst h1
   exact Q3d hr.1 hv.head hv.tail.one
  ·cases hm
 ·exact Q1v hr rfl
 ·exact Q1v hr rfl
 ·cases hm
theorem Q7a {ε':Env} {M:Nat→Prop} {w:World} {want:Reg} {vc:List F} (hm:nilMatch want=some vc) (hv:AllF vc):RegOk ε' M w ⟨.slice none 0 0,fun _=>False⟩ want:=by
 unfold nilMatch at hm
 split at hm
 ·trivial
 ·cases hm
  have:=hv.one
  dsimp only [F.prop] at this
  subst this
  exact ⟨Q42,trivial⟩
 ·cases hm
  have:=hv.one
  dsimp only [F.prop] at this
  subst this
  exact ⟨⟨none,0,rfl,jm _,by simp [maxLen],fun a h=>W167,fun h=>absurd h W31⟩,trivial⟩
 ·show Value.oneCell' (.slice none 0 0)=true
  rfl
 ·cases hm
def regsMatch (τ:Nat→Nat) (have_:List Reg):List Nat→List Reg→Option (List F)
 | [],[]=>some []
 | p::π,r::want=>match (match nth have_ p with | some h=>regMatch τ r h | none=>if kR 1000000 p then nilMatch r else none),regsMatch τ have_ π want with
   | some vc,some vc'=>some (vc++vc')
   | _,_=>none
 | _,_=>none
theorem Gf {ε ε':Env} (hε:ε.length≤1000000) {M L:Nat→Prop} {w:World} {τ:Nat→Nat} {n:Nat} {have_:List Reg} (hτ:∀ r,r<n→ε.at_ (τ r)=ε'.at_ r) (hr:RegsOk ε M L w have_) :
 ∀ {π:List Nat} {want:List Reg} {vc:List F},want.all (Reg.scp n)=true→regsMatch τ have_ π want=some vc→AllF vc→π.length=want.length∧∀ (j:Nat) (r:Reg),want[j]?=some r→∃ (p:Nat),π[j]?=some p∧RegOk ε' M w (ε.ent p) r∧((∃ h vc',have_[p]?=some h∧regMatch τ r h=some vc')∨have_.length≤p)
 | [],[],vc,_,_,_=>⟨rfl,fun j r h=>by simp at h⟩
 | p::π,r::want,vc,hsc,h,hv=>by
   simp only [List.all_cons,je] at hsc
   simp only [regsMatch] at h
   split at h
   ·rename_i vc1 vc2 h1 h2
    cases h
    obtain ⟨l1,l2⟩:=Gf hε hτ hr hsc.2 h2 hv.right
    refine ⟨by simp [l1],fun j r' hj=>?_⟩
    cases j with
    | zero =>
      cases hj
      refine ⟨p,rfl,?_⟩
      split at h1
      ·rename_i hh hn
       have hn:=Q6 hn
       exact ⟨Q1a hε hτ hsc.1 h1 hv.left (fun hl b hb=>(hr.lt p hh hn hl b hb).1) (hr.reg p hh hn),.inl ⟨hh,vc1,hn,h1⟩⟩
      ·rename_i hn
       split at h1
       ·rename_i hp
        have hp:=ju hp
        rw [Q18 W31]
        refine ⟨Q7a h1 hv.left,.inr ?_⟩
        rw [← hr.len];omega
       ·cases h1
    | succ j=>simpa using l2 j r' W196
   ·cases h
 | [],r::want,vc,_,h,_=>by cases h
 | p::π,[],vc,_,h,_=>by cases h
def liveIx:List Nat→List Reg→List Nat
 | p::π,r::w=>if r.live then p::liveIx π w else liveIx π w
 | _,_=>[]
theorem Q67:∀ {π:List Nat} {w:List Reg} {j p:Nat} {r:Reg},π[j]?=some p→w[j]?=some r→r.live=true→p∈liveIx π w
 | [],_,j,p,r,h,_,_=>by simp at h
 | _::_,[],j,p,r,_,h,_=>by simp at h
 | q::π,x::w,0,p,r,h1,h2,h3=>by
   simp only [jD,Option.some.injEq] at h1 h2
   subst h1 h2
   simp [liveIx,h3]
 | q::π,x::w,j+1,p,r,h1,h2,h3=>by
   have:=Q67 (π:=π) (w:=w) (j:=j) W133 W166 h3
   simp only [liveIx]
   split
   ·exact .tail _ this
   ·exact this
def exIx:List Nat→List Reg→List Nat
 | p::π,r::w=>if r.excl then p::exIx π w else exIx π w
 | _,_=>[]
theorem Qa5:∀ {π:List Nat} {w:List Reg} {j p:Nat} {r:Reg},π[j]?=some p→w[j]?=some r→r.excl=true→p∈exIx π w
 | [],_,j,p,r,h,_,_=>by simp at h
 | _::_,[],j,p,r,_,h,_=>by simp at h
 | q::π,x::w,0,p,r,h1,h2,h3=>by
   simp only [jD,Option.some.injEq] at h1 h2
   subst h1 h2
   simp [exIx,h3]
 | q::π,x::w,j+1,p,r,h1,h2,h3=>by
   have:=Qa5 (π:=π) (w:=w) (j:=j) W133 W166 h3
   simp only [exIx]
   split
   ·exact .tail _ this
   ·exact this
def okIx:List Nat→List Reg→Bool
 | p::π,r::w=>!(r.excl&&hasN p (liveIx π w))&&!(r.live&&hasN p (exIx π w))&&okIx π w
 | _,_=>true
theorem Qa6:∀ {π:List Nat} {w:List Reg} {i j p:Nat} {ri rj:Reg},okIx π w=true→i≠j→w[i]?=some ri→w[j]?=some rj→ri.excl=true→rj.live=true→π[i]?=some p→π[j]?=some p→False
 | [],_,i,_,_,_,_,_,_,_,_,_,_,h,_=>by simp at h
 | _::_,[],i,_,_,_,_,_,_,h,_,_,_,_,_=>by simp at h
 | q::π,x::w,i,j,p,ri,rj,hd,hij,h1,h2,h3,h4,h5,h6=>by
   simp only [okIx,je,jL] at hd
   cases i with
   | zero=>cases j with
     | zero=>exact hij rfl
     | succ j =>
       simp only [jD,Option.some.injEq] at h1 h5
       subst h1 h5
       have:=Zy (Q67 (by simpa using h6) W166 h4)
       rw [h3,this] at hd
       exact absurd hd.1.1 W147
   | succ i=>cases j with
     | zero =>
       simp only [jD,Option.some.injEq] at h2 h6
       subst h2 h6
       have:=Zy (Qa5 (by simpa using h5) W133 h3)
       rw [h4,this] at hd
       exact absurd hd.1.2 W147
     | succ j=>exact Qa6 hd.2 (fun e=>hij (congrArg (·+1) e)) W133 W166 h3 h4 (by simpa using h5) (by simpa using h6)
theorem Qv {τ:Nat→Nat} {want have_:Reg} {vc:List F} (h:regMatch τ want have_=some vc):(want.excl=true→have_.excl=true)∧(want.live=true→have_.live=true):=by
 unfold regMatch at h
 split at h<;>first | (cases h;done) | simp [Reg.excl,Reg.live]
theorem Q1b (ε:Env) (l:List Nat) {j p:Nat} (h:l[j]?=some p):Env.ent (l.map ε.ent) j=ε.ent p:=by
 unfold Env.ent
 rw [jb,jk,h]
 rfl
theorem Jz (ε:Env) (l:List Nat) {j p:Nat} (h:l[j]?=some p):Env.at_ (l.map ε.ent) j=ε.at_ p:=by unfold Env.at_;rw [Q1b ε l h]
theorem Y9 (ε:Env) (l:List Nat) {j p:Nat} (h:l[j]?=some p):Env.fp (l.map ε.ent) j=ε.fp p:=by unfold Env.fp;rw [Q1b ε l h]
theorem Q00 {l:List Nat} {j p:Nat} (h:l[j]?=some p):at' l j=p:=by
 unfold at'
 rw [Qo,h]
theorem Yf {τ:Nat→Nat} {have_:List Reg}:∀ {π:List Nat} {want:List Reg} {vc:List F},regsMatch τ have_ π want=some vc→π.length=want.length
 | [],[],_,_=>rfl
 | p::π,r::want,vc,h=>by
   simp only [regsMatch] at h
   split at h
   ·rename_i h2;simp [Yf h2]
   ·cases h
 | [],r::want,vc,h=>by cases h
 | p::π,[],vc,h=>by cases h
theorem RegsOk.renum {ε:Env} (hε:ε.length≤1000000) {M L:Nat→Prop} {w:World} {have_:List Reg} (hs:RegsOk ε M L w have_) {π:List Nat} {want:List Reg} {vc:List F} (hsc:want.all (Reg.scp want.length)=true) (hd:okIx π want=true)
 (hm:regsMatch (at' π) have_ π want=some vc) (hv:AllF vc):RegsOk (π.map ε.ent) M L w want:=by
 have hl:=Yf hm
 have hτ:∀ r,r<want.length→ε.at_ (at' π r)=Env.at_ (π.map ε.ent) r:=fun r hr=>by
  have hp:π[r]?=some (π[r]'W31):=jc W31
  rw [Jz ε π hp,Q00 hp]
 obtain ⟨_,h1⟩:=Gf hε hτ hs hsc hm hv
 have out:∀ p b,have_.length≤p→¬ ε.fp p b:=fun p b hp hb=>by
  unfold Env.fp at hb
  rw [Q18 (by rw [hs.len];exact hp)] at hb
  exact hb
 refine ⟨by simp [hl],fun i r hi=>?_,fun i r hi hlv b hb=>?_,fun i r hi hex b hb=>?_,fun i j ri rj hij hi hj he hlv b hb hb'=>?_⟩
 ·obtain ⟨p,hp,hok,_⟩:=h1 i r hi
  rw [Q1b ε π hp]
  exact hok
 ·obtain ⟨p,hp,_,⟨h,vc',hh,hm1⟩ | ho⟩:=h1 i r hi
  ·rw [Y9 ε π hp] at hb
   exact hs.lt p h hh ((Qv hm1).2 hlv) b hb
  ·rw [Y9 ε π hp] at hb
   exact absurd hb (out p b ho)
 ·obtain ⟨p,hp,_,⟨h,vc',hh,hm1⟩ | ho⟩:=h1 i r hi
  ·rw [Y9 ε π hp] at hb
   exact hs.lim p h hh ((Qv hm1).1 hex) b hb
  ·rw [Y9 ε π hp] at hb
   exact absurd hb (out p b ho)
 ·obtain ⟨p,hp,_,⟨h,vc',hh,hm1⟩ | ho⟩:=h1 i ri hi
  ·obtain ⟨q,hq,_,⟨h',vc'',hh',hm2⟩ | ho'⟩:=h1 j rj hj
   ·rw [Y9 ε π hp] at hb
    rw [Y9 ε π hq] at hb'
    have hpq:p≠q:=fun e=>by subst e;exact Qa6 hd hij hi hj he hlv hp hq
    exact hs.sep p q h h' hpq hh hh' ((Qv hm1).1 he) ((Qv hm2).2 hlv) b hb hb'
   ·rw [Y9 ε π hq] at hb'
    exact absurd hb' (out q b ho')
  ·rw [Y9 ε π hp] at hb
   exact absurd hb (out p b ho)
def frMatch (τ:Nat→Nat) (have_:List En):List En→Option (List F)
 | []=>some []
 | e::r=>match e.g,lookup e.slot have_,frMatch τ have_ r with
   | [],some e',some vc=>match e'.g with
     | []=>(sEq (e.sv.ren τ) e'.sv).map (·++vc)
     | _=>none
   | _,_,_=>none
def idOn (π:List Nat):Nat→Bool
 | 0=>true
 | n+1=>(match nth π n with | some p=>jr p n | none=>false)&&idOn π n
theorem Q0g {π:List Nat}:∀ {n:Nat},idOn π n=true→∀ i,i<n→π[i]?=some i
 | 0,_,i,hi=>by omega
 | n+1,h,i,hi=>by
   simp only [idOn,je] at h
   by_cases hin:i=n
   ·subst hin
    obtain ⟨h1,_⟩:=h
    split at h1
    ·rename_i p hp
     rw [Qo] at hp
     rw [hp,jd h1]
    ·cases h1
   ·exact Q0g h.2 i W31
def ent (n0:Nat) (π:List Nat) (st st':St):Option (List F):=
 if jr st.N st'.N&&kR st.rg.length 1000000&&kR n0 st.rg.length&&okIx π st'.rg&&idOn π n0&&kR n0 st'.rg.length&&st'.scp&&(!st.rd||st'.rd) then
  match regsMatch (at' π) st.rg π st'.rg,frMatch (at' π) st.fr st'.fr with
  | some vc,some vc'=>some (vc++vc')
  | _,_=>none
 else none
theorem Q2q {ε:Env} (hε:ε.length≤1000000) {a:Act} {N n:Nat} {π:List Nat} {have_:List En} (hh:∀ e∈have_,EnOk ε N a e) (hl:π.length=n):∀ {want:List En} {vc:List F},(∀ e∈want,e.sv.scp n=true)→frMatch (at' π) have_ want=some vc→AllF vc→∀ e∈want,EnOk (π.map ε.ent) N a e
 | [],_,_,_,_,_,h=>by cases h
 | e::r,vc,hsc,h,hv,e1,he1=>by
   simp only [frMatch] at h
   split at h
   ·rename_i e' vc' hg hlk hr
    split at h
    ·rename_i hg'
     obtain ⟨vs,hvs,he⟩:=map_nil h
     subst he
     cases he1 with
     | head =>
       obtain ⟨hm,hsl⟩:=Ys hlk
       obtain ⟨h1,h2,h3⟩:=hh e' hm
       rw [hsl] at h1 h2 h3
       rw [hg'] at h2
       have hval:=h2 (gHolds_nil a)
       refine ⟨h1,fun _=>?_,fun hn=>absurd W200 hn⟩
       rw [hval,← Q3b (ε:=ε) hε hvs hv.left]
       refine Zz (n:=n) (fun r hr=>?_) (hsc _ (.head _))
       have hp:π[r]?=some (π[r]'W31):=jc W31
       rw [Jz ε π hp,Q00 hp]
     | tail _ he1=>exact Q2q hε hh hl (fun e he=>hsc e (.tail _ he)) hr hv.right e1 he1
    ·cases h
   ·cases h
theorem Qa7 {ε:Env} {b:List Value} {π:List Nat} {n0:Nat} (hb:b.length=n0) (hpre:b <+: ε.hs) (hid:∀ i,i<n0→π[i]?=some i):b <+: Env.hs (π.map ε.ent):=by
 rw [List.prefix_iff_eq_take]
 apply kG
 intro i
 rw [jZ,hb]
 by_cases hi:i<n0
 ·rw [if_pos hi]
  unfold Env.hs
  rw [jk,jk,hid i hi]
  obtain ⟨t,ht⟩:=hpre
  have hlt:i<b.length:=by omega
  have h1:ε.hs[i]?=b[i]?:=by rw [← ht,jp hlt]
  unfold Env.hs at h1
  rw [jk] at h1
  have h2:b[i]?=some b[i]:=jc hlt
  rw [h2] at h1
  cases hx:ε[i]? with
  | none=>rw [hx] at h1;cases h1
  | some x =>
    rw [hx] at h1
    simp only [jM,Option.some.injEq] at h1 ⊢
    rw [h2]
    unfold Env.ent
    rw [jb,hx,← h1]
    rfl
 ·rw [if_neg hi,jX W31]
theorem J6 {b:Base} {n0:Nat} (hb:b.e.length=n0) {π:List Nat} {st st':St} {vc:List F} (h:ent n0 π st st'=some vc) (hv:AllF vc) {a:Act} {w:World} (hs:Sat b st a w):Sat b st' a w:=by
 obtain ⟨ε,hs⟩:=hs
 unfold ent at h
 split at h
 ·rename_i hc
  simp only [je] at hc
  obtain ⟨⟨⟨⟨⟨⟨⟨c1,c6⟩,c7⟩,c2⟩,c3⟩,c4⟩,c5⟩,c8⟩:=hc
  have hε:ε.length≤1000000:=by rw [hs.regs.len];exact ju c6
  split at h
  ·rename_i vc1 vc2 h1 h2
   cases h
   obtain ⟨s1,s2⟩:=Qh c5
   have hN:=jd c1
   have hl:=Yf h1
   have hregs:=hs.regs.renum hε s2 c2 h1 hv.left
   refine ⟨π.map ε.ent,⟨⟨hs.defs.1,fun hrd=>hs.defs.2 (by simpa [hrd] using c8)⟩,by rw [← hN];exact hs.size,?_,hregs,hs.below,Qa7 hb hs.pre (Q0g c3)⟩⟩
   rw [← hN]
   exact Q2q hε hs.fr hl s1 h2 hv.right
  ·cases h
 ·cases h
def Rets (b:Base) (S:SV→List Reg→Prop) (e:Ending) (w':World):Prop:=
 ∃ (res:SV) (post:List Reg) (ε':Env),S res post∧e=.returned (res.den ε')∧b.e <+: ε'.hs∧RegsOk ε' b.M b.L w' post∧Fr b.m b.w w'
structure Cfg where
 k:List K
 st:St
class Wide (P:Program):Prop where
 mixed:P.follows .mixedOrders=true
def Tgt:=Base→Exit→Act→World→Prop
def mark (D:Nat):Deferred:={ target:=.collected D,args:=#[] }
def shut (ds:List Nat) (w:World):World:=ds.foldl (fun w D=>w.putObj D (.deferred none)) w
def Rt (P:Program) (fn:Func) (S:SV→List Reg→Prop):Tgt:=fun b e a w=>match e with
 | .normal | .ret=>∃ (ds:List Nat) (v:Value),a.defers=ds.map mark++b.d∧ds.Nodup∧(∀ D∈ds,b.w.heap.size≤D∧w.heap[D]?=some (.deferred (some []))) ∧
    (∀ Ds:List Nat,(∀ D∈Ds,D<b.w.heap.size∧¬ b.l D)→(results fn a.tmps).run P (shut Ds (shut ds w))=.ok v (shut Ds (shut ds w)))∧Rets b S (.returned v) (shut ds w)
 | _=>False
theorem Rt.mk {P:Program} {fn:Func} {S:SV→List Reg→Prop} {b:Base} {a:Act} {w:World} {v:Value} (h:a.defers=b.d) (h1:∀ Ds:List Nat,(∀ D∈Ds,D<b.w.heap.size∧¬ b.l D)→(results fn a.tmps).run P (shut Ds w)=.ok v (shut Ds w)) (h2:Rets b S (.returned v) w):Rt P fn S b .ret a w∧Rt P fn S b .normal a w:=
 ⟨⟨[],v,by simpa using h,List.nodup_nil,by simp,h1,h2⟩,⟨[],v,by simpa using h,List.nodup_nil,by simp,h1,h2⟩⟩
theorem Q8n {ds:List Nat}:∀ {w:World},(shut ds w).heap.size=w.heap.size:=by
 induction ds with
 | nil=>intro w;rfl
 | cons D ds ih=>intro w;exact (ih (w:=w.putObj D (.deferred none))).trans W149
theorem Qea {ds:List Nat} {k:Nat} (h:k ∉ ds):∀ {w:World},(shut ds w).heap[k]?=w.heap[k]?:=by
 induction ds with
 | nil=>intro w;rfl
 | cons D ds ih =>
   intro w
   exact (ih (fun h'=>h (.tail _ h')) (w:=w.putObj D (.deferred none))).trans (World.putObj_heap_other (fun e=>h (e▸.head _)))
theorem Q0s {P:Program} {F:Fence} {n:Nat} {fn:Func} {tmps:Array Value} {R:Ending→World→Prop}:∀ (ds:List Nat) (w:World),ds.Nodup→(∀ D∈ds,w.heap[D]?=some (.deferred (some []))) →
 (∃ v,(results fn tmps).run P (shut ds w)=.ok v (shut ds w)∧R (.returned v) (shut ds w))→LeavesInM F n P fn tmps R (ds.map mark) .returning w
 | [],w,_,_,h=>h
 | D::ds,w,hn,hd,h=>by
   refine ⟨by simp,.inl ⟨D,w.putObj D (.deferred none),rfl,run_takeDeferred (hd D (.head _)),Q0s ds _ (List.nodup_cons.1 hn).2 (fun D' hD'=>?_) h⟩⟩
   rw [World.putObj_heap_other (show D'≠D from fun e=>(List.nodup_cons.1 hn).1 (by rw [← e];exact hD'))]
   exact hd D' (.tail _ hD')
def RunF (P:Program) (fn:Func) (n0:Nat) (U:Tgt) (c:Cfg):Prop:=
 ∀ b:Base,b.e.length=n0→Run P b (U b) c.k c.st
inductive View where
 | cond (x:Bool)
 | ret (v:SV)
 | call (f:Nat) (args:List SV)
 | gcall (f:Nat) (args:List SV)
 | loop
 | jump (J:Base→Act→World→Prop)
 | fin (v:SV)
 | op
 | opR
 | any (n:Nat)
 | yield (r:Nat) (args:List SV)
 | range
 | fail (n:Nat)
def resVal (P:Program) (st:St):ResultVar→Option (SV×List Prop)
 | .tmp t=>match lookup t st.fr with
   | some e=>match e.g with
     | []=>some (e.sv,[])
     | _=>none
   | none=>none
 | .cell t ty=>match lookup t st.fr with
   | some e=>match e.g,e.sv with
     | [],.c (.p r off)=>loadAt P st ty (.p r off)
     | _,_=>none
   | none=>none
def resPart:SV→Option (Bool×List C)
 | .c x=>some (false,[x])
 | .agg cs=>some (true,cs)
 | _=>none
def resVals (P:Program) (st:St):List ResultVar→Option (List SV×List Prop)
 | []=>some ([],[])
 | r::rs=>match resVal P st r,resVals P st rs with
   | some (s,vc),some (ps,vc')=>some (s::ps,vc++vc')
   | _,_=>none
def resParts:List SV→Option (List (Bool×List C))
 | []=>some []
 | s::r=>match resPart s,resParts r with
   | some p,some ps=>some (p::ps)
   | _,_=>none
def retVal (P:Program) (st:St) (rs:List ResultVar):Option (SV×List Prop):=
 match resVals P st rs with
 | some ([s],vc)=>some (s,vc)
 | some (ss,vc)=>match resParts ss with
   | some ps=>some (.tup ps,vc)
   | none=>none
 | none=>none
def callV (g:List (Nat×Bool)) (f:Nat) (args:List SV):View:=match g with
 | []=>.call f args
 | _=>.gcall f args
def see (P:Program) (fn:Func) (c:Cfg):List Prop×View:=
 match seg P 5000 c.k c.st with
 | (vc,.cond x _ _ _ _ _)=>(vc,.cond x)
 | (vc,.ret st)=>match retVal P st fn.results.toList with
   | some (v,vc')=>(vc++vc',.ret v)
   | none=>(vc,.fail 100)
 | (vc,.call f args _ g _ _ _ _)=>(vc,callV g f args)
 | (vc,.yield r args _ _ _)=>(vc,.yield r args)
 | (vc,.loop _ _ _)=>(vc,.loop)
 | (vc,.jump J _)=>(vc,.jump J)
 | (vc,.fin st)=>match retVal P st fn.results.toList with
   | some (v,vc')=>(vc++vc',.fin v)
   | none=>(vc,.fail 101)
 | (vc,.op ..)=>(vc,.op)
 | (vc,.opR ..)=>(vc,.opR)
 | (vc,.any _ _ _ l _ _)=>(vc,.any l.length)
 | (vc,.range ..)=>(vc,.range)
 | (vc,.fail n)=>(vc,.fail n)
def noCfg:Cfg:=⟨[],{ N:=0,fr:=[],rg:=[] }⟩
def Cfg.thn (P:Program) (c:Cfg):Cfg:=match (seg P 5000 c.k c.st).2 with
 | .cond _ k _ _ st _=>⟨k,st⟩
 | _=>noCfg
def Cfg.els (P:Program) (c:Cfg):Cfg:=match (seg P 5000 c.k c.st).2 with
 | .cond _ _ k _ _ st=>⟨k,st⟩
 | _=>noCfg
def Cfg.at (P:Program) (c:Cfg):St:=match (seg P 5000 c.k c.st).2 with
 | .cond _ _ _ st _ _ | .ret st | .call _ _ _ _ _ _ _ st | .loop _ _ st | .jump _ st | .fin st | .op _ _ _ _ st | .opR _ _ _ _ _ st | .any _ _ _ _ _ st | .range _ _ _ _ _ st | .yield _ _ _ _ st=>st
 | .fail _=>noCfg.st
def Cfg.round (P:Program) (c:Cfg) (J:Base→Act→World→Prop) (st:St):Cfg:=match (seg P 5000 c.k c.st).2 with
 | .loop body k _=>⟨.code body::.jmp J::k,st⟩
 | _=>noCfg
section
variable {P:Program} [hw:Wide P] {fn:Func} {n0:Nat} {S:SV→List Reg→Prop} {U:Tgt} {c:Cfg} {vc:List Prop}
theorem Conj.toAll {l:List Prop} (h:Conj l):All l:=h.all
theorem RunF.cond {x:Bool} (h:see P fn c=(vc,.cond x)) (hv:Conj vc) (ht:x=true→RunF P fn n0 U (c.thn P)) (he:x=false→RunF P fn n0 U (c.els P)):RunF P fn n0 U c:=by
 intro b hb
 unfold see at h
 unfold Cfg.thn at ht
 unfold Cfg.els at he
 generalize hg:seg P 5000 c.k c.st=r at h ht he
 obtain ⟨vc',out⟩:=r
 cases out<;>simp only [Prod.mk.injEq,View.cond.injEq,reduceCtorEq,and_false] at h
 ·obtain ⟨rfl,rfl⟩:=h
  exact Qn hw.mixed 5000 _ _ _ _ hg hv.toAll ⟨fun hx=>ht hx b hb,fun hx=>he hx b hb⟩
 all_goals first | (unfold callV at h;split at h<;>simp at h;done) | (split at h<;>simp at h)
def retEnt (n0:Nat) (π:List Nat) (st:St) (v:SV) (res:SV) (post:List Reg):Option (List F):=
 if okIx π post&&idOn π n0&&kR n0 st.rg.length&&kR st.rg.length 1000000&&post.all (Reg.scp post.length)&&res.scp post.length then
  match regsMatch (at' π) st.rg π post with
  | some vc=>(sEq (res.ren (at' π)) v).map (vc++·)
  | none=>none
 else none
def resSem (a:Act) (r:ResultVar):Sem Value:=match r with
 | .tmp t=>pure (a.tmps.getD t undef)
 | .cell p t=>do loadVar t (← asAddr (a.tmps.getD p undef))
theorem Qeb (fn:Func) (a:Act):results fn a.tmps=(do let vs ← fn.results.mapM (resSem a);pure (if h:vs.size=1 then vs[0] else .tuple vs)):=by
 unfold results
 congr 2
theorem Qa8 {w0:Base} {st:St} {ε:Env} {a:Act} {w:World} (hs:SatE w0 st ε a w) {r:ResultVar} {s:SV} {vc:List Prop} (h:resVal P st r=some (s,vc)) (hv:All vc):(resSem a r).run P w=.ok (s.den ε) w:=by
 unfold resSem
 cases r with
 | tmp t =>
   simp only [resVal] at h
   split at h
   ·rename_i e he
    split at h
    ·rename_i hg
     cases h
     obtain ⟨hm,hsl⟩:=Ys he
     have:=(hs.fr e hm).2.1 W200
     rw [hsl] at this
     simp only [jx]
     exact congrArg (fun v=>Result.ok v w) this
    ·cases h
   ·cases h
 | cell t ty =>
   simp only [resVal] at h
   split at h
   ·rename_i e he
    split at h
    ·rename_i r off hg hsv
     obtain ⟨hm,hsl⟩:=Ys he
     have hval:=(hs.fr e hm).2.1 W200
     rw [hsl,hsv] at hval
     have hval':a.tmps.getD t undef=.pointer (some ((haddr (ε.at_ r)).add off)):=hval
     have:=Q5t hs h hv
     simp only [C.den,Instr.loadAt,Instr.sureAddr,jo,jx,jh] at this
     simp only [hval',asAddr,jo,jx,jh]
     exact this
    ·cases h
   ·cases h
theorem Q2r {w0:Base} {st:St} {ε:Env} {a:Act} {w:World} (hs:SatE w0 st ε a w):∀ {rs:List ResultVar} {ss:List SV} {vc:List Prop},resVals P st rs=some (ss,vc)→All vc →
 (rs.mapM (resSem a)).run P w=.ok (ss.map (SV.den ε)) w
 | [],ss,vc,h,_=>by simp only [resVals,Option.some.injEq,Prod.mk.injEq] at h;obtain ⟨rfl,rfl⟩:=h;simp
 | r::rs,ss,vc,h,hv=>by
   simp only [resVals] at h
   split at h
   ·rename_i s vc1 ps vc2 h1 h2
    cases h
    have e1:=Qa8 hs h1 hv.left
    have e2:=Q2r hs h2 hv.right
    simp only [List.mapM_cons,jo,e1,jh,e2,jx,jV]
   ·cases h
theorem Q1c {ε:Env}:∀ {ss:List SV} {ps:List (Bool×List C)},resParts ss=some ps→ps.map (denPart ε)=ss.map (SV.den ε)
 | [],ps,h=>by simp only [resParts,Option.some.injEq] at h;subst h;rfl
 | s::r,ps,h=>by
   simp only [resParts] at h
   split at h
   ·rename_i p ps' h1 h2
    cases h
    simp only [jV,Q1c h2]
    congr 1
    cases s<;>simp only [resPart,Option.some.injEq,reduceCtorEq] at h1<;>subst h1<;>rfl
   ·cases h
theorem OwnC.reM {w:World} {M M':Nat→Prop}:∀ (t:TC) {fp:Nat→Prop} {v:Value},(∀ b,fp b→M' b)→OwnC w M t fp v→OwnC w M' t fp v
 | .val x,fp,v,hM,h=>h
 | .any,fp,v,hM,h=>h
 | .sub ty size n f,fp,v,hM,h=>by
   obtain ⟨els,h1,h2,h3,h4,fps,h5,h6,h7⟩:=h
   refine ⟨els,h1,h2,h3,fun b hb=>⟨(h4 b hb).1,hM b (h4 b hb).1⟩,fps,fun i j hi hj=>?_,h6,h7⟩
   obtain ⟨u,hu,h8⟩:=h5 i j hi hj
   exact ⟨u,hu,OwnC.reM (f i j) (fun b hb=>hM b (h6 i j b hi hj hb).1) h8⟩
theorem OwnRow.reM {w:World} {M M' fp:Nat→Prop} {ty size n:Nat} {h:Value} {ok ok':Nat→Nat→(Nat→Prop)→Value→Prop} (ho:OwnRow w M fp ty size n h ok) (hM:∀ b,fp b→M' b)
 (hok:∀ i j fp' u,i<n→j<size→(∀ b,fp' b→fp b)→ok i j fp' u→ok' i j fp' u):OwnRow w M' fp ty size n h ok':=by
 obtain ⟨els,h1,h2,h3,h4,fps,h5,h6,h7⟩:=ho
 refine ⟨els,h1,h2,h3,fun b hb=>⟨(h4 b hb).1,hM b (h4 b hb).1⟩,fps,fun i j hi hj=>?_,h6,h7⟩
 obtain ⟨u,hu,h8⟩:=h5 i j hi hj
 exact ⟨u,hu,hok i j _ u hi hj (fun b hb=>(h6 i j b hi hj hb).1) h8⟩
theorem MapR.reM {ε:Env} {w:World} {M M' fp:Nat→Prop} {T:MT} {ty sz n:Nat} {h:Value} {f:KA T.K→Nat×(Nat→Nat→TC)} {opn:Option (KA T.K×Nat×Option Int)} (hm:MapR ε w M fp T ty sz h n f opn) (hM:∀ b,fp b→M' b):MapR ε w M' fp T ty sz h n f opn:=by
 obtain ⟨has,hd,fb,fps,h1,h2,h3,h4,h5,h6⟩:=hm
 exact ⟨has,hd,fb,fps,h1.reM (fun b hb=>hM b (h2 b hb)) (fun _ h=>h),h2,h3,h4,
  fun a ha=>OwnRow.reM (h5 a ha) (fun b hb=>hM b (h3 a b hb).1) (fun i j fp' u _ _ hf hu=>OwnC.reM ((f a).2 i j) (fun b hb=>hM b (h3 a b (hf b hb)).1) hu),h6⟩
theorem RegOk.reM {ε:Env} {M M':Nat→Prop} {w:World} {e:Ent} {r:Reg} (hM:r.excl=true→∀ b,e.fp b→M' b) (hr:RegOk ε M w e r):RegOk ε M' w e r:=by
 cases r with
 | box ty cells=>obtain ⟨g,h1,h2,h3,h4⟩:=hr;exact ⟨g,h1,hM rfl g h3,h3,h4⟩
 | own ty size n f foc =>
   refine ⟨OwnRow.reM hr.1 (hM rfl) (fun i j fp' u _ _ hf hu=>?_),hr.2⟩
   cases foc with
   | none=>exact OwnC.reM (f i j) (fun b hb=>hM rfl b (hf b hb)) hu
   | some kc=>exact ⟨fun hik=>OwnC.reM (f i j) (fun b hb=>hM rfl b (hf b hb)) (hu.1 hik),hu.2⟩
 | row size n f foc=>exact hr
 | ro cells=>exact hr
 | dead=>trivial
 | one=>exact hr
 | froz X=>exact hr
 | ext X k al=>exact hr
 | mp T n has f it=>exact MapAt.reM hr (hM rfl) (fun _ h=>h)
 | itr q=>exact hr
 | full size n f=>exact hr
 | mpv T z n ents=>exact MapV.reM hr (hM rfl) (fun _ h=>h)
 | mpr T ty size n f opn=>exact MapR.reM hr (hM rfl)
theorem Qa9 {w0:Base} {st:St} {ε:Env} {a:Act} {w:World} (hs:SatE w0 st ε a w) {v:SV} {vc:List Prop} (h:retVal P st fn.results.toList=some (v,vc)) (hv:All vc):(results fn a.tmps).run P w=.ok (v.den ε) w:=by
 have key:∀ {ss:List SV} {vc:List Prop},resVals P st fn.results.toList=some (ss,vc)→All vc→∀ v:Value,(if h:(ss.map (SV.den ε)).toArray.size=1 then (ss.map (SV.den ε)).toArray[0] else .tuple (ss.map (SV.den ε)).toArray)=v→(results fn a.tmps).run P w=.ok v w:=by
  intro ss vc h1 h2 v hv
  have:=Q2r hs h1 h2
  rw [Qeb,Array.mapM_eq_mapM_toList]
  simp only [jo,Sem.run_map,this,jh,jx]
  rw [hv]
 unfold retVal at h
 split at h
 ·rename_i s vc' h1
  cases h
  exact key h1 hv _ rfl
 ·rename_i ss vc' hne h1
  split at h
  ·rename_i ps h2
   cases h
   refine key h1 hv _ ?_
   have hl:(ss.map (SV.den ε)).toArray.size≠1:=by
    intro e
    simp at e
    obtain ⟨s,hs⟩:=List.length_eq_one_iff.1 e
    subst hs
    exact hne s rfl
   rw [dif_neg hl,SV.den,Q1c h2]
  ·cases h
 ·cases h
theorem Q0t {b:Base} {st:St} {ε:Env} {a:Act} {w:World} (hs:SatE b st ε a w) {v:SV} {vc:List Prop} (h:retVal P st fn.results.toList=some (v,vc)) (hv:All vc) {Ds:List Nat} (hD:∀ D∈Ds,D<b.w.heap.size∧¬ b.l D) :
 (results fn a.tmps).run P (shut Ds w)=.ok (v.den ε) (shut Ds w):=by
 have hno:∀ k,(∃ (i:Nat) (r:Reg),st.rg[i]?=some r∧r.live=true∧ε.fp i k)→k ∉ Ds:=fun k ⟨i,r,h1,h2,h3⟩ hk=>by
  obtain ⟨_,h4⟩:=hs.regs.lt i r h1 h2 k h3
  obtain ⟨h5,h6⟩:=hD k hk
  rcases h4 with h4 | h4
  ·omega
  ·exact h6 h4
 refine Qa9 (w0:={ w:=shut Ds w,e:=[],m:=b.M,l:=b.L,ro:=b.ro,d:=b.d }) ⟨hs.defs,hs.size,hs.fr,⟨hs.regs.len,fun i r hi=>?_,fun i r hi hl k hk=>?_,fun i r hi he k hk=>.inr (hs.regs.lim i r hi he k hk),hs.regs.sep⟩,Fr.refl _ _,List.nil_prefix⟩ h hv
 ·have h1:RegOk ε b.M (shut Ds w) (ε.ent i) r:=RegOk.world (hs.regs.reg i r hi) (Nat.le_of_eq Q8n.symm) (fun k hk hl _=>Qea (hno k ⟨i,r,hi,hl,hk⟩))
  exact RegOk.reM (fun he k hk=>.inr (hs.regs.lim i r hi he k hk)) h1
 ·exact ⟨by rw [Q8n];exact (hs.regs.lt i r hi hl k hk).1,.inr (hs.regs.lt i r hi hl k hk).2⟩
theorem Q3e {b:Base} (hb:b.e.length=n0) {st:St} {v res:SV} {post:List Reg} {π:List Nat} {E:List F} (he:retEnt n0 π st v res post=some E) (hE:AllF E) (hS:S res post) {a:Act} {w:World} {ε:Env} (hs:SatE b st ε a w) :
 Rets b S (.returned (v.den ε)) w:=by
 unfold retEnt at he
 split at he
 ·rename_i hc
  simp only [je] at hc
  obtain ⟨⟨⟨⟨⟨c1,c2⟩,c3⟩,c4⟩,c5⟩,c6⟩:=hc
  have hε:ε.length≤1000000:=by rw [hs.regs.len];exact ju c4
  split at he
  ·rename_i vc1 h1
   obtain ⟨vc2,h2,he2⟩:=map_nil he
   subst he2
   have hl:=Yf h1
   have hτ:∀ r,r<post.length→ε.at_ (at' π r)=Env.at_ (π.map ε.ent) r:=fun r hr=>by
    have hp:π[r]?=some (π[r]'W31):=jc W31
    rw [Jz ε π hp,Q00 hp]
   have hval:=Q3b (ε:=ε) hε h2 hE.right
   refine ⟨res,post,π.map ε.ent,hS,?_,Qa7 hb hs.pre (Q0g c2),hs.regs.renum hε c5 c1 h1 hE.left,hs.below⟩
   rw [← Zz hτ c6,hval]
  ·cases he
 ·cases he
theorem RunF.ret {v:SV} (res:SV) (post:List Reg) (π:List Nat) {E:List F} (h:see P fn c=(vc,.ret v)) (hv:Conj vc) (hS:S res post) (he:retEnt n0 π (c.at P) v res post=some E) (hE:AllF E):RunF P fn n0 (Rt P fn S) c:=by
 intro b hb
 unfold see at h
 unfold Cfg.at at he
 generalize hg:seg P 5000 c.k c.st=r at h he
 obtain ⟨vc',out⟩:=r
 cases out<;>simp only [Prod.mk.injEq,reduceCtorEq,and_false] at h
 ·rename_i st
  split at h
  ·rename_i v' vc2 hr
   simp only [Prod.mk.injEq,View.ret.injEq] at h
   obtain ⟨rfl,rfl⟩:=h
   refine Qn hw.mixed 5000 _ _ _ _ hg hv.toAll.left (fun a w ⟨ε,hs⟩=>?_)
   exact (Rt.mk hs.defs.1 (fun Ds hD=>Q0t hs hr hv.toAll.right hD) (Q3e hb he hE hS hs)).1
  ·simp at h
 all_goals first | (unfold callV at h;split at h<;>simp at h;done) | (split at h<;>simp at h)
theorem RunF.fin {v:SV} (res:SV) (post:List Reg) (π:List Nat) {E:List F} (h:see P fn c=(vc,.fin v)) (hv:Conj vc) (hS:S res post) (he:retEnt n0 π (c.at P) v res post=some E) (hE:AllF E):RunF P fn n0 (Rt P fn S) c:=by
 intro b hb
 unfold see at h
 unfold Cfg.at at he
 generalize hg:seg P 5000 c.k c.st=r at h he
 obtain ⟨vc',out⟩:=r
 cases out<;>simp only [Prod.mk.injEq,reduceCtorEq,and_false] at h
 case fin st =>
  split at h
  ·rename_i v' vc2 hr
   simp only [Prod.mk.injEq,View.fin.injEq] at h
   obtain ⟨rfl,rfl⟩:=h
   refine Qn hw.mixed 5000 _ _ _ _ hg hv.toAll.left (fun a w ⟨ε,hs⟩=>?_)
   exact (Rt.mk hs.defs.1 (fun Ds hD=>Q0t hs hr hv.toAll.right hD) (Q3e hb he hE hS hs)).2
  ·simp at h
 all_goals first | (unfold callV at h;split at h<;>simp at h;done) | (split at h<;>simp at h)
theorem RunF.weaken (st':St) (π:List Nat) {E:List F} (he:ent n0 π c.st st'=some E) (hE:AllF E) (h:RunF P fn n0 U ⟨c.k,st'⟩):RunF P fn n0 U c:=
 fun b hb a w hs=>h b hb a w (J6 hb he hE hs)
theorem Qfn {ro:Option Nat} {P:Program} {body:Code} {Q:Exit→Act→World→Prop} {X:Type} (I:X→Act→World→Prop) (m:X→Nat)
 (round:∀ x a w,I x a w→wpW ro P body (Exit.then (fun a' w'=>∃ x',m x'<m x∧I x' a' w') Q) a w) {a:Act} {w:World} (x0:X) (h0:I x0 a w):wpW ro P (Code.loop body) Q a w:=by
 refine wpIn_loop_ghost (fun n a w=>∃ x,m x=n∧I x a w) (m x0) ⟨x0,rfl,h0⟩ (fun n a w ⟨x,hx,hI⟩=>?_)
 subst hx
 refine wpIn_mono (round x a w hI) fun e a' w' hq=>?_
 cases e with
 | normal=>obtain ⟨x',h1,h2⟩:=hq;exact ⟨m x',h1,x',rfl,h2⟩
 | _=>exact hq
def Next {X:Type} (I:X→St) (J:X→Prop) (m:X→Nat) (x:X):Base→Act→World→Prop:=fun b a w=>∃ x',m x'<m x∧J x'∧Sat b (I x') a w
theorem RunF.loop {X:Type} (I:X→St) (J:X→Prop) (m:X→Nat) (x0:X) (π:List Nat) {E:List F} (h:see P fn c=(vc,.loop)) (hv:Conj vc) (he:ent n0 π (c.at P) (I x0)=some E) (hE:AllF E) (hJ:J x0)
 (round:∀ x,J x→RunF P fn n0 U (c.round P (Next I J m x) (I x))):RunF P fn n0 U c:=by
 intro b hb
 unfold see at h
 unfold Cfg.at at he
 unfold Cfg.round at round
 generalize hg:seg P 5000 c.k c.st=r at h he round
 obtain ⟨vc',out⟩:=r
 cases out<;>simp only [Prod.mk.injEq,reduceCtorEq,and_false] at h
 case loop body k st =>
  obtain ⟨rfl,_⟩:=h
  refine Qn hw.mixed 5000 _ _ _ _ hg hv.toAll (fun a w hs=>?_)
  refine Qfn (fun x a w=>J x∧Sat b (I x) a w) m (fun x a w ⟨hJx,hI⟩=>?_) x0 ⟨hJ,J6 hb he hE hs⟩
  exact round x hJx b hb a w hI
 all_goals first | (unfold callV at h;split at h<;>simp at h;done) | (split at h<;>simp at h)
theorem RunF.next {X:Type} {I:X→St} {J:X→Prop} {m:X→Nat} {x:X} (x':X) (π:List Nat) {E:List F} (h:see P fn c=(vc,.jump (Next I J m x))) (hv:Conj vc) (he:ent n0 π (c.at P) (I x')=some E) (hE:AllF E) (hm:m x'<m x) (hJ:J x'):RunF P fn n0 U c:=by
 intro b hb
 unfold see at h
 unfold Cfg.at at he
 generalize hg:seg P 5000 c.k c.st=r at h he
 obtain ⟨vc',out⟩:=r
 cases out<;>simp only [Prod.mk.injEq,reduceCtorEq,and_false] at h
 case jump J' st =>
  simp only [View.jump.injEq] at h
  obtain ⟨rfl,rfl⟩:=h
  exact Qn hw.mixed 5000 _ _ _ _ hg hv.toAll (fun a w hs=>⟨x',hm,hJ,J6 hb he hE hs⟩)
 all_goals first | (unfold callV at h;split at h<;>simp at h;done) | (split at h<;>simp at h)
theorem Q0u {P:Program} {ops:Array Oper} {Q Q':Act→World→Prop} (h:∀ a w,Q a w→Q' a w):∀ (n:Nat) (listed:Array Bool) (a:Act) (w:World),wpAnyR P ops Q n listed a w→wpAnyR P ops Q' n listed a w
 | 0,_,_,_,hh=>⟨hh.1,h _ _ hh.2⟩
 | n+1,_,_,_,hh=>⟨fun h0=>h _ _ (hh.1 h0),fun i hi=>Q1z (fun a w=>Q0u h n _ a w) (hh.2 i hi)⟩
theorem Qaa {Q Q':Exit→Act→World→Prop} (hq:∀ e a w,Q e a w→Q' e a w) (h:LetsOut Q):LetsOut Q':=let ⟨a,w,h⟩:=h;⟨a,w,hq _ _ _ h⟩
theorem Oper.wp_both {P:Program} {o:Oper} {a:Act} {w:World} {K K':Act→World→Prop} {Q Q':Exit→Act→World→Prop} (h:∀ a w,K a w→K' a w) (hq:∀ e a w,Q e a w→Q' e a w) (hh:o.wp P a w K Q):o.wp P a w K' Q':=by
 unfold Oper.wp at *
 generalize (execOp a.eval o).run P w=r at *
 cases r with
 | ok n w' =>
   cases n<;>simp only [Oper.upon] at hh ⊢ <;>
    first
     | exact h _ _ hh
     | exact Calls.mono hh (fun e w'' he=>by cases e<;>first | exact h _ _ he | exact hq _ _ _ he | exact Qaa hq he)
     | exact Rows.mono hh (fun _ _ he=>h _ _ he)
 | halt x w'=>cases x<;>simp only [Oper.upon] at hh ⊢<;>first | exact hq _ _ _ hh | exact hh
theorem Qab {P:Program} {o:Oper} {a:Act} {w:World} {K K':Act→World→Prop} (h:∀ a w,K a w→K' a w) (hh:roundOp P o a w K):roundOp P o a w K':=by
 obtain ⟨l,f,tmps,assign,body,w',h1,h2⟩:=hh
 exact ⟨l,f,tmps,assign,body,w',h1,h2.mono fun e w'' ⟨v,he,hk⟩=>⟨v,he,h _ _ hk⟩⟩
theorem Gg {P:Program} {ops:Array Oper} {Q Q':Exit→Act→World→Prop} (hq:∀ e a w,Q e a w→Q' e a w):∀ (l:List Oper) (a:Act) (w:World),wpListW P ops Q l a w→wpListW P ops Q' l a w
 | [],a,w,h=>hq _ _ _ h
 | o::r,a,w,h=>by
   unfold wpListW at *
   split at h
   ·rename_i hw
    rw [if_pos hw]
    exact h.imp (Oper.wp_both (fun a w=>Gg hq r a w) hq) (Qab (fun a w=>Gg hq r a w))
   ·rename_i hw
    rw [if_neg hw]
    exact Gg hq r _ _ h
theorem Q23 {b:Base} {Q Q':Exit→Act→World→Prop} (h:∀ e a w,Q e a w→Q' e a w) (x:K):∀ e a w,kpost P b x Q e a w→kpost P b x Q' e a w:=by
 have hthen:∀ {R R':Act→World→Prop},(∀ a w,R a w→R' a w)→∀ e a w,Exit.then R Q e a w→Exit.then R' Q' e a w:=fun hr e a w hh=>by
  cases e<;>first | exact hr _ _ hh | exact h _ _ _ hh
 cases x with
 | code c=>exact hthen fun a w hh=>wpIn_mono hh h
 | blk id =>
   intro e a w hh
   cases e with
   | exit id' =>
     have hh':(if id'=id then Q .normal a w else Q (.exit id') a w):=hh
     show (if id'=id then Q' .normal a w else Q' (.exit id') a w)
     by_cases he:id'=id
     ·rw [if_pos he] at hh' ⊢;exact h _ _ _ hh'
     ·rw [if_neg he] at hh' ⊢;exact h _ _ _ hh'
   | _=>exact h _ _ _ hh
 | ops all todo=>exact hthen fun a w hh=>Gg h _ _ _ hh
 | jmp J=>exact hthen fun a w hh=>hh
 | rnd body n =>
   intro e a w hh
   have hr:∀ n a w,Code.roundsIn (Wf b.ro) 0 P body Q n a w→Code.roundsIn (Wf b.ro) 0 P body Q' n a w:=fun n=>by
    induction n with
    | zero=>intro a w h;exact h
    | succ n ih =>
      intro a w h0
      rw [roundsIn_succ] at h0 ⊢
      refine wpIn_mono h0 fun e a w hh=>?_
      cases e<;>first | exact ih _ _ hh | exact h _ _ _ hh
   cases e<;>first | exact hr _ _ _ hh | exact h _ _ _ hh
 | mix all listed n=>exact hthen fun a w hh hs=>Q0u (fun a w=>h _ a w) _ _ _ _ (hh hs)
 | mixAt all listed n i=>exact hthen fun a w hh hs=>Q1z (fun a w=>Q0u (fun a w=>h _ a w) _ _ a w) (hh hs)
def AtSt {X:Type} (I:X→St) (J:X→Prop):Base→Act→World→Prop:=fun b a w=>∃ x,J x∧Sat b (I x) a w
def insJ (J:Base→Act→World→Prop):List K→List K
 | []=>[.jmp J]
 | x::k=>x::.jmp J::k
def restK:List K→List K
 | []=>[]
 | _::k=>k
theorem Q68 {b:Base} {Q:Exit→Act→World→Prop} {J:Base→Act→World→Prop} (k:List K) (hk:∀ a w,J b a w→contQ P b Q (restK k) .normal a w) {a:Act} {w:World} (h:contQ P b Q (insJ J k) .normal a w):contQ P b Q k .normal a w:=by
 cases k with
 | nil=>exact hk a w h
 | cons x k =>
   refine Q23 (fun e a w hh=>?_) x _ _ _ h
   cases e<;>first | exact hk a w hh | exact hh
def Cfg.pick (P:Program) (c:Cfg) (J:Base→Act→World→Prop) (j:Nat):Cfg:=match (seg P 5000 c.k c.st).2 with
 | .any all listed n l k st=>match nth l j with
   | some i=>⟨.mixAt all listed n i::.jmp J::k,st⟩
   | none=>noCfg
 | _=>noCfg
def Cfg.rest (P:Program) (c:Cfg) (st:St):Cfg:=match (seg P 5000 c.k c.st).2 with
 | .any _ _ _ _ k _=>⟨k,st⟩
 | .cond _ k1 _ _ _ _=>⟨restK k1,st⟩
 | _=>noCfg
def upTo (p:Nat→Prop):Nat→Prop
 | 0=>True
 | n+1=>upTo p n∧p n
theorem Q8o {p:Nat→Prop}:∀ {n:Nat},upTo p n→∀ j,j<n→p j
 | 0,_,j,hj=>by omega
 | n+1,h,j,hj=>by
   by_cases hjn:j=n
   ·subst hjn;exact h.2
   ·exact Q8o h.1 j W31
theorem RunF.any {n:Nat} {X:Type} (I:X→St) (J:X→Prop) (h:see P fn c=(vc,.any n)) (hv:Conj vc) (hall:upTo (fun j=>RunF P fn n0 U (c.pick P (AtSt I J) j)) n)
 (hk:∀ x,J x→RunF P fn n0 U (c.rest P (I x))):RunF P fn n0 U c:=by
 intro b hb
 replace hall:=Q8o hall
 unfold see at h
 unfold Cfg.rest at hk
 unfold Cfg.pick at hall
 generalize hg:seg P 5000 c.k c.st=r at h hk hall
 obtain ⟨vc',out⟩:=r
 cases out<;>simp only [Prod.mk.injEq,reduceCtorEq,and_false] at h
 case any all listed n' l k st =>
  simp only [View.any.injEq] at h
  obtain ⟨rfl,rfl⟩:=h
  refine Qn hw.mixed 5000 _ _ _ _ hg hv.toAll (fun i hi a w hs=>?_)
  obtain ⟨j,hj,hji⟩:=List.mem_iff_getElem.1 hi
  have h1:=hall j hj
  have e:nth l j=some i:=by rw [Qo,jc hj,hji]
  simp only [e] at h1
  exact Q68 (.mixAt all listed n' i::k) (fun a w ⟨x,hx,hs⟩=>hk x hx b hb a w hs) (h1 b hb a w hs)
 all_goals first | (unfold callV at h;split at h<;>simp at h;done) | (split at h<;>simp at h)
theorem RunF.to {X:Type} {I:X→St} {J:X→Prop} (x':X) (π:List Nat) {E:List F} (h:see P fn c=(vc,.jump (AtSt I J))) (hv:Conj vc) (he:ent n0 π (c.at P) (I x')=some E) (hE:AllF E) (hJ:J x'):RunF P fn n0 U c:=by
 intro b hb
 unfold see at h
 unfold Cfg.at at he
 generalize hg:seg P 5000 c.k c.st=r at h he
 obtain ⟨vc',out⟩:=r
 cases out<;>simp only [Prod.mk.injEq,reduceCtorEq,and_false] at h
 case jump J' st =>
  simp only [View.jump.injEq] at h
  obtain ⟨rfl,rfl⟩:=h
  exact Qn hw.mixed 5000 _ _ _ _ hg hv.toAll (fun a w hs=>⟨x',hJ,J6 hb he hE hs⟩)
 all_goals first | (unfold callV at h;split at h<;>simp at h;done) | (split at h<;>simp at h)
end
theorem Q01 (r:Reg) (τ:Nat→Nat):(r.ren τ).excl=r.excl:=by cases r<;>rfl
theorem Q02 (r:Reg) (τ:Nat→Nat):(r.ren τ).live=r.live:=by cases r<;>rfl
theorem Qcs {ε ε':Env} {τ:Nat→Nat} {n:Nat} (hτ:∀ r,r<n→ε'.at_ (τ r)=ε.at_ r) {cs:List C} (hsc:cs.all (C.scp n)=true) {j:Nat} {u:Value} (h:∃ x:C,cs[j]?=some x∧u=x.den ε):∃ x:C,(cs.map (C.ren τ))[j]?=some x∧u=x.den ε':=by
 obtain ⟨x,hx,rfl⟩:=h
 exact ⟨x.ren τ,by rw [jk,hx];rfl,(Q17 hτ (List.all_eq_true.1 hsc x (jq hx))).symm⟩
theorem RegOk.reren {ε ε':Env} {τ:Nat→Nat} {n:Nat} {M M':Nat→Prop} {w:World} {e:Ent} {r:Reg} (hτ:∀ r,r<n→ε'.at_ (τ r)=ε.at_ r) (hsc:r.scp n=true) (hM:r.excl=true→∀ b,e.fp b→M' b) (hr:RegOk ε M w e r):RegOk ε' M' w e (r.ren τ):=by
 cases r with
 | box ty cells=>obtain ⟨g,h1,h2,h3,h4⟩:=hr;exact ⟨g,h1,hM rfl g h3,h3,by rw [Yu hτ hsc];exact h4⟩
 | ro cells =>
   obtain ⟨A,h1,h2,h3,h4⟩:=hr
   refine ⟨A,h1,h2,h3,fun j y hy=>?_⟩
   simp only [jk] at hy
   cases hj:cells[j]? with
   | none=>rw [hj] at hy;cases hy
   | some x =>
     rw [hj] at hy
     cases hy
     rw [Q17 hτ (List.all_eq_true.1 hsc x (jq hj))]
     exact h4 j x hj
 | own ty size n f foc =>
   cases foc with
   | none=>exact ⟨OwnRow.reM hr.1 (hM rfl) (fun i j fp' u _ _ hf hu=>OwnC.reM (f i j) (fun b hb=>hM rfl b (hf b hb)) hu),trivial⟩
   | some kc =>
     refine ⟨OwnRow.reM hr.1 (hM rfl) (fun i j fp' u _ _ hf hu=>⟨fun hik=>OwnC.reM (f i j) (fun b hb=>hM rfl b (hf b hb)) (hu.1 hik),fun hik=>Qcs hτ hsc (hu.2 hik)⟩),hr.2.1,?_⟩
     show (kc.2.map (C.ren τ)).length=size
     rw [jK];exact hr.2.2
 | row size n f foc =>
   cases foc with
   | none=>exact hr
   | some kc =>
     refine ⟨RdRow.map hr.1 (jm _) (fun _ _ _=>rfl) (fun i j u _ _ hu=>⟨hu.1,fun hik=>Qcs hτ hsc (hu.2 hik)⟩),hr.2.1,?_⟩
     show (kc.2.map (C.ren τ)).length=size
     rw [jK];exact hr.2.2
 | dead=>trivial
 | one=>exact hr
 | froz X=>exact hr
 | ext X k al=>exact hr
 | mp T n has f it=>exact MapAt.reM hr (hM rfl) (fun _ h=>h)
 | itr q=>exact hr
 | full size n f=>exact hr
 | mpv T z n ents =>
   show MapV w _ e.fp T z e.h n (fun q=>(entOf (ents.map fun x=>(x.1,x.2.ren τ)) q).isSome) (entV ε' z (ents.map fun x=>(x.1,x.2.ren τ)))
   rw [Qa4 hτ hsc,funext (Q19 ents)]
   exact MapV.reM hr (hM rfl) (fun _ h=>h)
 | mpr T ty size n f opn =>
   obtain ⟨has,hd,fb,fps,h1,h2,h3,h4,h5,h6⟩:=MapR.reM hr (hM rfl)
   refine ⟨has,hd,fb,fps,h1,h2,h3,h4,fun a ha=>h5 a (fun e'=>ha (by rw [← e'];cases opn<;>rfl)),fun a q st e'=>?_⟩
   cases opn with
   | none=>cases e'
   | some x =>
     cases e'
     rw [hτ _ (ju hsc)]
     exact h6 _ _ _ rfl
def Base.at_ (pre:List Reg) (ε:Env) (w:World):Base:=⟨w,ε.hs,fun b=>∃ (i:Nat) (r:Reg),pre[i]?=some r∧r.excl=true∧ε.fp i b,fun b=>∃ (i:Nat) (r:Reg),pre[i]?=some r∧r.live=true∧ε.fp i b,none,[]⟩
def Ctr (P:Program) (f:Nat) (pre:List Reg) (args:List SV) (S:SV→List Reg→Prop):Prop:=
 ∀ (ε:Env) (w:World),RegsOk ε (Base.at_ pre ε w).M (Base.at_ pre ε w).L w pre→Calls P f (args.map (SV.den ε)).toArray w (Rets (Base.at_ pre ε w) S)
def Det (res:SV) (post:List Reg):SV→List Reg→Prop:=fun r p=>r=res∧p=post
def argFr:Nat→List SV→List En
 | _,[]=>[]
 | i,x::r=>{ slot:=i,g:=[],sv:=x }::argFr (i+1) r
def bodyK (fn:Func):List K:=match fn.body with
 | some c=>[.code c]
 | none=>[]
def entry (fn:Func) (pre:List Reg) (args:List SV) (wr:List Nat):Cfg:=⟨bodyK fn,{ N:=fn.ntmps,fr:=argFr 0 args,rg:=pre,wr }⟩
theorem Qac {ε:Env} {a:Act} {N:Nat}:∀ (args:List SV) (i:Nat),(∀ j x,args[j]?=some x→i+j<N∧get a (i+j)=x.den ε)→∀ e∈argFr i args,EnOk ε N a e
 | [],_,_,_,h=>by cases h
 | x::r,i,hh,e,he=>by
   cases he with
   | head =>
     obtain ⟨h1,h2⟩:=hh 0 x rfl
     exact ⟨h1,fun _=>h2,fun hn=>absurd (gHolds_nil a) hn⟩
   | tail _ he =>
     refine Qac r (i+1) (fun j y hj=>?_) e he
     have:=hh (j+1) y W196
     rw [show i+1+j=i+(j+1) by omega]
     exact this
theorem Ctr.intro {P:Program} [hw:Wide P] {S:SV→List Reg→Prop} {f:Nat} {fn:Func} {pre:List Reg} {args:List SV} (wr:List Nat) (hf:P.funcs[f]?=some fn) (hb:fn.body.isSome=true) (hl:kR args.length fn.ntmps=true)
 (h:RunF P fn pre.length (Rt P fn S) (entry fn pre args wr)):Ctr P f pre args S:=by
 intro ε w hreg
 obtain ⟨body,hbody⟩:=Option.isSome_iff_exists.1 hb
 refine Qa2.1 (callsIn_of_wp_marks (F:=Wf none) (n:=0) hf hbody trivial ?_)
 have hle:=ju hl
 have hrun:=h (Base.at_ pre ε w) (by simp [Base.at_,Env.hs,hreg.len])
 unfold entry bodyK at hrun
 rw [hbody] at hrun
 refine wpIn_mono (hrun { tmps:=(args.map (SV.den ε)).toArray++Array.replicate (fn.ntmps-(args.map (SV.den ε)).toArray.size) undef,defers:=[] } w ⟨ε,⟨⟨rfl,fun _=>rfl⟩,?_,?_,hreg,Fr.refl _ _,List.prefix_refl _⟩⟩) (fun e a' w' hq=>?_)
 ·simp;omega
 ·refine Qac args 0 fun j x hj=>?_
  have hjl:j<args.length:=(List.getElem?_eq_some_iff.1 hj).1
  refine ⟨by simp;omega,?_⟩
  unfold get
  simp only [j8,kS]
  rw [Array.getElem?_append_left (by simpa using hjl)]
  simp [hj]
 ·have hq':Rt P fn S (Base.at_ pre ε w) e a' w':=hq
  cases e with
  | normal =>
    obtain ⟨ds,v,h1,h2,h3,h4,h5⟩:=hq'
    have h4:=h4 [] (fun D h=>by cases h)
    have h3:=fun D hD=>(h3 D hD).2
    show LeavesInM _ _ _ _ _ _ _ _ _
    rw [h1,show (Base.at_ pre ε w).d=[] from rfl,j6]
    exact Q0s ds w' h2 h3 ⟨v,h4,h5⟩
  | ret =>
    obtain ⟨ds,v,h1,h2,h3,h4,h5⟩:=hq'
    have h4:=h4 [] (fun D h=>by cases h)
    have h3:=fun D hD=>(h3 D hD).2
    show LeavesInM _ _ _ _ _ _ _ _ _
    rw [h1,show (Base.at_ pre ε w).d=[] from rfl,j6]
    exact Q0s ds w' h2 h3 ⟨v,h4,h5⟩
  | _=>exact hq'.elim
def callTau (n0 base:Nat) (σ:List Nat) (r:Nat):Nat:=if kD r n0 then at' σ r else base+(r-n0)
def back (τ:Nat→Nat):List Nat→List Reg→List Reg→List Reg→List Reg
 | q::σ,p::pre,s::post,rg=>back τ σ pre post (if p.excl then rg.set q (s.ren τ) else rg)
 | _,_,_,rg=>rg
def backE:List Nat→List Reg→Env→Env→Env
 | q::σ,p::pre,x::ε',ε=>backE σ pre ε' (if p.excl then ε.set q x else ε)
 | _,_,_,ε=>ε
theorem Q3f {τ:Nat→Nat} (j:Nat):∀ (σ:List Nat) (pre post:List Reg) (ε':Env) (rg:List Reg) (ε:Env),σ.length=pre.length→pre.length≤post.length→post.length≤ε'.length→rg.length=ε.length →
 (back τ σ pre post rg).length=rg.length∧(backE σ pre ε' ε).length=ε.length ∧
 (((back τ σ pre post rg)[j]?=rg[j]?∧(backE σ pre ε' ε)[j]?=ε[j]?∧∀ (i:Nat) (p:Reg),pre[i]?=some p→p.excl=true→σ[i]?≠some j) ∨
  ∃ (i:Nat) (p s:Reg) (x:Ent),σ[i]?=some j∧pre[i]?=some p∧p.excl=true∧post[i]?=some s∧ε'[i]?=some x∧(j<rg.length→(back τ σ pre post rg)[j]?=some (s.ren τ)∧(backE σ pre ε' ε)[j]?=some x))
 | [],[],post,ε',rg,ε,_,_,_,_=>⟨by simp [back],by simp [backE],.inl ⟨by simp [back],by simp [backE],fun i p h=>by simp at h⟩⟩
 | q::σ,p::pre,s::post,x::ε',rg,ε,h1,h2,h3,h4=>by
   simp only [kd] at h1 h2 h3
   obtain ⟨l1,l2,l3⟩:=Q3f (τ:=τ) j σ pre post ε' (if p.excl then rg.set q (s.ren τ) else rg) (if p.excl then ε.set q x else ε) W31 W31 W31 (by split<;>simp [h4])
   refine ⟨by simp only [back];rw [l1];split<;>simp,by simp only [backE];rw [l2];split<;>simp,?_⟩
   simp only [back,backE]
   have hlen:(if p.excl then rg.set q (s.ren τ) else rg).length=rg.length:=by split<;>simp
   rcases l3 with ⟨k1,k2,k3⟩ | ⟨i,p',s',x',k1,k2,k3,k4,k5,k6⟩
   ·by_cases hp:p.excl=true∧q=j
    ·obtain ⟨hp,rfl⟩:=hp
     refine .inr ⟨0,p,s,x,rfl,rfl,hp,rfl,rfl,fun hlt=>?_⟩
     rw [k1,k2,if_pos hp,if_pos hp,jE hlt,jE W31]
     exact ⟨rfl,rfl⟩
    ·refine .inl ⟨?_,?_,fun i p' hi he=>?_⟩
     ·rw [k1]
      split
      ·rename_i he
       rw [jC (fun e=>hp ⟨he,e⟩)]
      ·rfl
     ·rw [k2]
      split
      ·rename_i he
       rw [jC (fun e=>hp ⟨he,e⟩)]
      ·rfl
     ·cases i with
      | zero =>
        simp only [jD,Option.some.injEq] at hi ⊢
        subst hi
        exact fun e=>hp ⟨he,by injection e⟩
      | succ i=>simpa using k3 i p' W203 he
   ·refine .inr ⟨i+1,p',s',x',by simpa using k1,by simpa using k2,k3,by simpa using k4,by simpa using k5,fun hlt=>k6 W31⟩
 | [],_::_,_,_,_,_,h,_,_,_=>by simp at h
 | _::_,[],_,_,_,_,h,_,_,_=>by simp at h
 | _::_,_::_,[],_,_,_,_,h,_,_=>by simp at h
 | _::_,_::_,_::_,[],_,_,_,_,h,_=>by simp at h
def shareOk (rg:List Reg):List Nat→List Reg→Bool
 | q::σ,p::pre=>(p.excl||(match nth rg q with | some h=>!h.excl | none=>true))&&shareOk rg σ pre
 | _,_=>true
theorem shareOk_spec {rg:List Reg}:∀ {σ:List Nat} {pre:List Reg},shareOk rg σ pre=true→∀ (i q:Nat) (p h:Reg),pre[i]?=some p→σ[i]?=some q→rg[q]?=some h→p.excl=true∨h.excl=false
 | q::σ,p::pre,hh,i,q',p',h,h1,h2,h3=>by
   simp only [shareOk,je,jO] at hh
   cases i with
   | zero =>
     simp only [jD,Option.some.injEq] at h1 h2
     subst h1 h2
     rcases hh.1 with h4 | h4
     ·exact .inl h4
     ·rw [Qo,h3] at h4
      exact .inr (by simpa using h4)
   | succ i=>exact shareOk_spec hh.2 i q' p' h W133 W166 h3
 | [],_,_,i,_,_,_,_,h2,_=>by simp at h2
 | _::_,[],_,i,_,_,_,h1,_,_=>by simp at h1
theorem RegsOk.calls {bc:Base} {ε ε':Env} {w w':World} {rg pre post:List Reg} {σ:List Nat} (hs:RegsOk ε bc.M bc.L w rg) (hB:bc.w.heap.size≤w.heap.size) (hsc:rg.all (Reg.scp rg.length)=true) (hσ:σ.length=pre.length)
 (hreg:∀ (i:Nat) (p:Reg),pre[i]?=some p→∃ q:Nat,σ[i]?=some q∧(p.excl=true→∃ h:Reg,rg[q]?=some h∧h.excl=true)∧(p.live=true→(∃ h:Reg,rg[q]?=some h∧h.live=true)∨rg.length≤q))
 (hout:∀ q∈σ,q<rg.length∨rg.length+post.length≤q) (hdup:noDup σ=true∨∀ p∈pre,p.excl=false) (hn:pre.length≤post.length) (hpsc:post.all (Reg.scp post.length)=true)
 (hpost:RegsOk ε' (Base.at_ pre (σ.map ε.ent) w).M (Base.at_ pre (σ.map ε.ent) w).L w' post) (hpre:(Env.hs (σ.map ε.ent)) <+: ε'.hs) (hfr:Fr (Base.at_ pre (σ.map ε.ent) w).m w w')
 (hshare:(∀ r∈post,r.excl=true∨r.live=false)∨shareOk rg σ pre=true) :
 RegsOk (backE σ pre ε' ε++ε'.drop pre.length) bc.M bc.L w' (back (callTau pre.length rg.length σ) σ pre post rg++(post.drop pre.length).map (Reg.ren (callTau pre.length rg.length σ))) ∧
 (∀ r,r<rg.length→Env.at_ (backE σ pre ε' ε++ε'.drop pre.length) r=ε.at_ r) ∧
 (∀ r,r<post.length→Env.at_ (backE σ pre ε' ε++ε'.drop pre.length) (callTau pre.length rg.length σ r)=ε'.at_ r):=by
 have hlen:=hs.len
 have hplen:=hpost.len
 generalize hτd:callTau pre.length rg.length σ=τ
 have spec:=fun j=>Q3f (τ:=τ) j σ pre post ε' rg ε hσ hn W31 hlen.symm
 have lb:=(spec 0).1
 have lbe:=(spec 0).2.1
 have hin:∀ (i q:Nat),σ[i]?=some q→∀ (x:Ent),ε'[i]?=some x→x.h=ε.at_ q:=fun i q hi x hx=>by
  obtain ⟨t,ht⟩:=hpre
  have h1:(Env.hs (σ.map ε.ent))[i]?=some (ε.at_ q):=by
   unfold Env.hs
   rw [jk,jk,hi];rfl
  have h2:ε'.hs[i]?=some x.h:=by unfold Env.hs;rw [jk,hx];rfl
  have h3:i<(Env.hs (σ.map ε.ent)).length:=(List.getElem?_eq_some_iff.1 h1).1
  rw [← ht,jp h3,h1] at h2
  injection h2 with h2;exact h2.symm
 have entnew:∀ j,j<rg.length→Env.ent (backE σ pre ε' ε++ε'.drop pre.length) j=Env.ent (backE σ pre ε' ε) j:=fun j hj=>by
  unfold Env.ent
  rw [jb,jb,jp W31]
 have entnew2:∀ t,Env.ent (backE σ pre ε' ε++ε'.drop pre.length) (rg.length+t)=ε'.ent (pre.length+t):=fun t=>by
  unfold Env.ent
  rw [jb,jb,jy W31,j4]
  congr 2
  omega
 have hat:∀ r,r<rg.length→Env.at_ (backE σ pre ε' ε++ε'.drop pre.length) r=ε.at_ r:=fun r hr=>by
  unfold Env.at_
  rw [entnew r hr]
  rcases (spec r).2.2 with ⟨k1,k2,k3⟩ | ⟨i,p,s,x,k1,k2,k3,k4,k5,k6⟩
  ·unfold Env.ent
   rw [jb,jb,k2]
  ·have:=(k6 hr).2
   have e1:Env.ent (backE σ pre ε' ε) r=x:=by unfold Env.ent;rw [jb,this];rfl
   rw [e1]
   exact hin i r k1 x k5
 have hτ:∀ r,r<post.length→Env.at_ (backE σ pre ε' ε++ε'.drop pre.length) (τ r)=ε'.at_ r:=fun r hr=>by
  rw [← hτd]
  unfold callTau
  by_cases h:r<pre.length
  ·have h':kD r pre.length=true:=Nat.ble_eq_true_of_le h
   rw [if_pos h']
   have hp:σ[r]?=some (σ[r]):=jc W31
   have hx:ε'[r]?=some (ε'[r]):=jc W31
   have e2:ε'.at_ r=ε.at_ σ[r]:=by
    rw [← hin r _ hp _ hx]
    unfold Env.at_ Env.ent
    rw [jb,hx];rfl
   rw [Q00 hp,e2]
   rcases hout _ (jQ (by omega:r<σ.length)) with h1 | h1
   ·exact hat _ h1
   ·rw [Q65 (by simp [lbe];omega),Q65 W31]
  ·have h':¬ kD r pre.length=true:=fun e=>h (ju e)
   rw [if_neg h']
   unfold Env.at_
   rw [entnew2,show pre.length+(r-pre.length)=r by omega]
 refine ⟨?_,hat,hτ⟩
 have cls:∀ (j:Nat) (r:Reg),(back τ σ pre post rg++(post.drop pre.length).map (Reg.ren τ))[j]?=some r →
  (j<rg.length∧rg[j]?=some r∧Env.ent (backE σ pre ε' ε++ε'.drop pre.length) j=ε.ent j∧∀ (i:Nat) (p:Reg),pre[i]?=some p→p.excl=true→σ[i]?≠some j) ∨
  (∃ (i:Nat) (s:Reg),post[i]?=some s∧r=s.ren τ∧Env.ent (backE σ pre ε' ε++ε'.drop pre.length) j=ε'.ent i∧((i<pre.length∧j<rg.length∧σ[i]?=some j)∨(pre.length≤i∧j=rg.length+(i-pre.length)))):=fun j r hj=>by
  rcases kO j rg.length with h1 | h1
  ·rw [jp W31] at hj
   rcases (spec j).2.2 with ⟨k1,k2,k3⟩ | ⟨i,p,s,x,k1,k2,k3,k4,k5,k6⟩
   ·refine .inl ⟨h1,by rw [← k1];exact hj,?_,k3⟩
    rw [entnew j h1]
    unfold Env.ent
    rw [jb,jb,k2]
   ·obtain ⟨k7,k8⟩:=k6 h1
    rw [k7] at hj
    cases hj
    refine .inr ⟨i,s,k4,rfl,?_,.inl ⟨(List.getElem?_eq_some_iff.1 k2).1,h1,k1⟩⟩
    rw [entnew j h1]
    unfold Env.ent
    rw [jb,jb,k8,k5]
  ·rw [jy W31,jk,j4,lb] at hj
   cases hp:post[pre.length+(j-rg.length)]? with
   | none=>rw [hp] at hj;cases hj
   | some s =>
     rw [hp] at hj
     cases hj
     refine .inr ⟨_,s,hp,rfl,?_,.inr ⟨by omega,by omega⟩⟩
     have:=entnew2 (j-rg.length)
     rwa [show rg.length+(j-rg.length)=j by omega] at this
 have fpm:∀ (i q b:Nat),σ[i]?=some q→Env.fp (σ.map ε.ent) i b→ε.fp q b:=fun i q b hi hb=>by rwa [Y9 ε σ hi] at hb
 have fpo:∀ q b,rg.length≤q→¬ ε.fp q b:=fun q b hq hb=>by
  unfold Env.fp at hb
  rw [Q18 W31] at hb
  exact hb
 have mOf:∀ b,(Base.at_ pre (σ.map ε.ent) w).m b→∃ (i q:Nat) (h:Reg),σ[i]?=some q∧rg[q]?=some h∧h.excl=true∧ε.fp q b∧(∃ p:Reg,pre[i]?=some p∧p.excl=true):=fun b ⟨i,p,hp,he,hb⟩=>by
  obtain ⟨q,hq,h1,_⟩:=hreg i p hp
  obtain ⟨h,hh,hex⟩:=h1 he
  exact ⟨i,q,h,hq,hh,hex,fpm i q b hq hb,p,hp,he⟩
 have lOf:∀ b,(Base.at_ pre (σ.map ε.ent) w).l b→∃ (i q:Nat) (h p:Reg),σ[i]?=some q∧rg[q]?=some h∧h.live=true∧ε.fp q b∧pre[i]?=some p:=fun b ⟨i,p,hp,he,hb⟩=>by
  obtain ⟨q,hq,_,h1⟩:=hreg i p hp
  have hb:=fpm i q b hq hb
  rcases h1 he with ⟨h,hh,hlv⟩ | ho
  ·exact ⟨i,q,h,p,hq,hh,hlv,hb,hp⟩
  ·exact absurd hb (fpo q b ho)
 have MOf:∀ b,(Base.at_ pre (σ.map ε.ent) w).M b→bc.M b:=fun b hb=>by
  rcases hb with h | h
  ·exact .inl (kj hB h)
  ·obtain ⟨i,q,h,_,hh,hex,hf,_⟩:=mOf b h
   exact hs.lim q h hh hex b hf
 have LOf:∀ b,(Base.at_ pre (σ.map ε.ent) w).L b→bc.L b:=fun b hb=>by
  rcases hb with h | h
  ·exact .inl (kj hB h)
  ·obtain ⟨i,q,h,p,_,hh,hlv,hf,_⟩:=lOf b h
   exact (hs.lt q h hh hlv b hf).2
 have sepA:∀ (j:Nat) (r:Reg),rg[j]?=some r→r.live=true→(∀ (i:Nat) (p:Reg),pre[i]?=some p→p.excl=true→σ[i]?≠some j)→∀ b,ε.fp j b→¬ (Base.at_ pre (σ.map ε.ent) w).M b:=fun j r hj hlv hno b hb hM=>by
  rcases hM with h | h
  ·have h:w.heap.size≤b:=h
   have:=(hs.lt j r hj hlv b hb).1
   omega
  ·obtain ⟨i,q,h,hq,hh,hex,hf,p,hp,he⟩:=mOf b h
   have hqj:q≠j:=fun e=>hno i p hp he (by rw [hq,e])
   exact hs.sep q j h r hqj hh hj hex hlv b hf hb
 refine ⟨by simp [lb,lbe,hlen,hplen],fun j r hj=>?_,fun j r hj hlv b hb=>?_,fun j r hj hex b hb=>?_,fun i j ri rj hij hi hj he hlv b hb1 hb2=>?_⟩
 ·rcases cls j r hj with ⟨k1,k2,k3,k4⟩ | ⟨i,s,k1,k2,k3,k4⟩
  ·rw [k3]
   refine (RegOk.world (hs.reg j r k2) hfr.size (fun b hb hlv hlt=>hfr.block b hlt (fun hm=>sepA j r k2 hlv k4 b hb (.inr hm)))).same (List.all_eq_true.1 hsc r (jq k2)) hat
  ·rw [k3,k2]
   exact RegOk.reren hτ (List.all_eq_true.1 hpsc s (jq k1)) (fun hex b hb=>MOf b (hpost.lim i s k1 hex b hb)) (hpost.reg i s k1)
 ·unfold Env.fp at hb
  rcases cls j r hj with ⟨k1,k2,k3,k4⟩ | ⟨i,s,k1,k2,k3,k4⟩
  ·rw [k3] at hb
   have:=hs.lt j r k2 hlv b hb
   exact ⟨jP this.1 hfr.size,this.2⟩
  ·rw [k3] at hb
   rw [k2,Q02] at hlv
   have:=hpost.lt i s k1 hlv b hb
   exact ⟨this.1,LOf b this.2⟩
 ·unfold Env.fp at hb
  rcases cls j r hj with ⟨k1,k2,k3,k4⟩ | ⟨i,s,k1,k2,k3,k4⟩
  ·rw [k3] at hb
   exact hs.lim j r k2 hex b hb
  ·rw [k3] at hb
   rw [k2,Q01] at hex
   exact MOf b (hpost.lim i s k1 hex b hb)
 ·unfold Env.fp at hb1 hb2
  rcases cls i ri hi with ⟨k1,k2,k3,k4⟩ | ⟨t,s,k1,k2,k3,k4⟩<;>rcases cls j rj hj with ⟨m1,m2,m3,m4⟩ | ⟨t',s',m1,m2,m3,m4⟩
  ·rw [k3] at hb1;rw [m3] at hb2
   exact hs.sep i j ri rj hij k2 m2 he hlv b hb1 hb2
  ·rw [k3] at hb1;rw [m3] at hb2
   rw [m2,Q02] at hlv
   cases hse:s'.excl with
   | true=>exact sepA i ri k2 (Y0 he) k4 b hb1 (hpost.lim t' s' m1 hse b hb2)
   | false =>
     rcases hshare with hsh | hsh
     ·rcases hsh s' (jq m1) with h | h
      ·rw [hse] at h;cases h
      ·rw [hlv] at h;cases h
     ·rcases (hpost.lt t' s' m1 hlv b hb2).2 with h | h
      ·have h:w.heap.size≤b:=h
       have:=(hs.lt i ri k2 (Y0 he) b hb1).1
       omega
      ·obtain ⟨u,q,h,p,hq,hh,hlv',hf,hp⟩:=lOf b h
       by_cases hqi:q=i
       ·subst hqi
        rw [k2] at hh
        cases hh
        rcases shareOk_spec hsh u q p _ hp hq k2 with h1 | h1
        ·exact k4 u p hp h1 hq
        ·rw [he] at h1;cases h1
       ·exact hs.sep i q ri h (Ne.symm hqi) k2 hh he hlv' b hb1 hf
  ·rw [k3] at hb1;rw [m3] at hb2
   rw [k2,Q01] at he
   exact sepA j rj m2 hlv m4 b hb2 (hpost.lim t s k1 he b hb1)
  ·rw [k3] at hb1;rw [m3] at hb2
   rw [k2,Q01] at he
   rw [m2,Q02] at hlv
   refine hpost.sep t t' s s' (fun e=>hij ?_) k1 m1 he hlv b hb1 hb2
   subst e
   rcases k4 with ⟨a1,_,a2⟩ | ⟨a1,a2⟩<;>rcases m4 with ⟨b1,_,b2⟩ | ⟨b1,b2⟩
   ·rw [a2] at b2;cases b2;rfl
   ·omega
   ·omega
   ·omega
def Cfg.after (P:Program) (c:Cfg) (σ:List Nat) (pre:List Reg) (res:SV) (post:List Reg):Option Cfg:=match (seg P 5000 c.k c.st).2 with
 | .call _ _ dst _ _ _ k st =>
   let τ:=callTau pre.length st.rg.length σ
   if st.scp&&post.all (Reg.scp post.length)&&res.scp post.length&&kR pre.length post.length&&σ.all (fun q=>kD q st.rg.length||kR (st.rg.length+post.length) q) &&
    (noDup σ||pre.all fun p=>!p.excl)&&(post.all (fun r=>r.excl||!r.live)||shareOk st.rg σ pre) then
    (putSt { st with rg:=back τ σ pre post st.rg++(post.drop pre.length).map (Reg.ren τ) } dst [] (res.ren τ)).map fun st'=>⟨k,st'⟩
   else none
 | _=>none
def Cfg.ret (P:Program) (c:Cfg) (σ:List Nat) (pre:List Reg) (res:SV) (post:List Reg):Cfg:=match c.after P σ pre res post with
 | some c'=>c'
 | none=>noCfg
def Cfg.drawn (P:Program) (c:Cfg):Bool:=match (seg P 5000 c.k c.st).2 with
 | .call _ _ _ _ d _ _ _=>d
 | _=>true
def callEnt (drawn:Bool) (σ:List Nat) (st:St) (pre:List Reg) (want have_:List SV):Option (List F):=
 if pre.all (Reg.scp pre.length)&&want.all (SV.scp pre.length)&&(!drawn||pre.all (fun r=>!r.excl))&&kR st.rg.length 1000000&&(noDup σ||pre.all fun p=>!p.excl) then
  match regsMatch (at' σ) st.rg σ pre with
  | some vc=>(sEqs (want.map (SV.ren (at' σ))) have_).map (vc++·)
  | none=>none
 else none
section
variable {P:Program} [hw:Wide P] {fn:Func} {n0:Nat} {S:SV→List Reg→Prop} {U:Tgt} {c:Cfg} {vc:List Prop}
theorem Qec {bc:Base} {ε:Env} (hε:ε.length≤1000000) {w:World} {rg pre:List Reg} {σ:List Nat} {E:List F} (hs:RegsOk ε bc.M bc.L w rg) (hsc:pre.all (Reg.scp pre.length)=true) (hd:noDup σ=true∨∀ p∈pre,p.excl=false)
 (h:regsMatch (at' σ) rg σ pre=some E) (hE:AllF E) (hex:∀ (i q:Nat) (p:Reg),pre[i]?=some p→σ[i]?=some q→p.excl=true→q<rg.length) :
 RegsOk (σ.map ε.ent) (Base.at_ pre (σ.map ε.ent) w).M (Base.at_ pre (σ.map ε.ent) w).L w pre ∧
 (∀ (i:Nat) (p:Reg),pre[i]?=some p→∃ q:Nat,σ[i]?=some q∧(p.excl=true→∃ h:Reg,rg[q]?=some h∧h.excl=true)∧(p.live=true→(∃ h:Reg,rg[q]?=some h∧h.live=true)∨rg.length≤q)):=by
 have hl:=Yf h
 have hτ:∀ r,r<pre.length→ε.at_ (at' σ r)=Env.at_ (σ.map ε.ent) r:=fun r hr=>by
  have hp:σ[r]?=some (σ[r]'W31):=jc W31
  rw [Jz ε σ hp,Q00 hp]
 obtain ⟨_,h1⟩:=Gf hε hτ hs hsc h hE
 have out:∀ p b,rg.length≤p→¬ ε.fp p b:=fun p b hp hb=>by
  unfold Env.fp at hb
  rw [Q18 (by rw [hs.len];exact hp)] at hb
  exact hb
 have hreg:∀ (i:Nat) (p:Reg),pre[i]?=some p→∃ q:Nat,σ[i]?=some q∧(p.excl=true→∃ h:Reg,rg[q]?=some h∧h.excl=true)∧(p.live=true→(∃ h:Reg,rg[q]?=some h∧h.live=true)∨rg.length≤q):=fun i p hp=>by
  obtain ⟨q,hq,_,⟨h,vc',hh,hm⟩ | ho⟩:=h1 i p hp
  ·exact ⟨q,hq,fun he=>⟨h,hh,(Qv hm).1 he⟩,fun he=>.inl ⟨h,hh,(Qv hm).2 he⟩⟩
  ·refine ⟨q,hq,fun he=>?_,fun _=>.inr ho⟩
   have:=hex i q p hp hq he
   omega
 refine ⟨⟨by simp [hl],fun i r hi=>?_,fun i r hi hlv b hb=>?_,fun i r hi he b hb=>.inr ⟨i,r,hi,he,hb⟩,fun i j ri rj hij hi hj he hlv b hb hb'=>?_⟩,hreg⟩
 ·obtain ⟨q,hq,hok,_⟩:=h1 i r hi
  rw [Q1b ε σ hq]
  have:=RegOk.reren (ε:=σ.map ε.ent) (ε':=σ.map ε.ent) (τ:=id) (n:=pre.length) (M':=(Base.at_ pre (σ.map ε.ent) w).M) (fun _ _=>rfl) (List.all_eq_true.1 hsc r (jq hi)) (fun he b hb=>.inr ⟨i,r,hi,he,by rw [Y9 ε σ hq];exact hb⟩) hok
  have hid:∀ r:Reg,r.ren id=r:=fun r=>by
   have hc:∀ cs:List C,cs.map (C.ren id)=cs:=fun cs=>by
    conv=>rhs;rw [← List.map_id cs]
    exact km fun c _=>by cases c<;>simp [C.ren]
   have hf:∀ foc:Option (Nat×List C),focRen id foc=foc:=fun foc=>by
    cases foc with
    | none=>rfl
    | some kc=>simp only [focRen,hc]
   have hc1:∀ c:C,C.ren id c=c:=fun c=>by cases c<;>simp [C.ren]
   cases r<;>simp only [Reg.ren,hc,hf,hc1]
   ·simp
   ·rename_i o;cases o<;>rfl
  rw [hid] at this
  exact this
 ·obtain ⟨q,hq,_,hkind⟩:=h1 i r hi
  refine ⟨?_,.inr ⟨i,r,hi,hlv,hb⟩⟩
  rw [Y9 ε σ hq] at hb
  rcases hkind with ⟨h,vc',hh,hm⟩ | ho
  ·exact (hs.lt q h hh ((Qv hm).2 hlv) b hb).1
  ·exact absurd hb (out q b ho)
 ·obtain ⟨p,hp,_,⟨h,vc',hh,hm1⟩ | ho⟩:=h1 i ri hi
  ·obtain ⟨q,hq,_,⟨h',vc'',hh',hm2⟩ | ho'⟩:=h1 j rj hj
   ·rw [Y9 ε σ hp] at hb
    rw [Y9 ε σ hq] at hb'
    have hpq:p≠q:=fun e=>by
     rcases hd with hd | hd
     ·subst e;exact Q38 hd hij hp hq
     ·rw [hd ri (jq hi)] at he;cases he
    exact hs.sep p q h h' hpq hh hh' ((Qv hm1).1 he) ((Qv hm2).2 hlv) b hb hb'
   ·rw [Y9 ε σ hq] at hb'
    exact absurd hb' (out q b ho')
  ·rw [Y9 ε σ hp] at hb
   exact absurd hb (out p b ho)
theorem RunF.callX {f:Nat} {args want:List SV} {pre:List Reg} {T:SV→List Reg→Prop} (he:Enters P f) (spec:Ctr P f pre want T) (σ:List Nat) {E:List F} (h:see P fn c=(vc,.call f args)) (hv:Conj vc)
 (hc:callEnt (c.drawn P) σ (c.at P) pre want args=some E) (hE:AllF E) (hlt:∀ (i q:Nat) (p:Reg),pre[i]?=some p→σ[i]?=some q→p.excl=true→q<(c.at P).rg.length)
 (next:∀ res post,T res post→(c.after P σ pre res post).isSome=true∧RunF P fn n0 U (c.ret P σ pre res post)):RunF P fn n0 U c:=by
 intro b hb
 unfold see at h
 unfold Cfg.at Cfg.drawn at hc
 unfold Cfg.at at hlt
 unfold Cfg.ret Cfg.after at next
 generalize hg:seg P 5000 c.k c.st=r at h hc next hlt
 obtain ⟨vc',out⟩:=r
 cases out<;>simp only [Prod.mk.injEq,reduceCtorEq,and_false] at h
 case call f' args' dst g d k0 k st =>
  cases g with
  | cons=>simp [callV] at h
  | nil =>
  simp only [callV,Prod.mk.injEq,View.call.injEq] at h
  obtain ⟨rfl,rfl,rfl⟩:=h
  refine Qn hw.mixed 5000 _ _ _ _ hg hv.toAll (.inr ⟨he,fun ε a w hs=>⟨fun _=>?_,fun hn=>absurd (gHolds_nil a) hn⟩⟩)
  simp only at hc hlt
  unfold callEnt at hc
  split at hc
  ·rename_i hcc
   simp only [je] at hcc
   obtain ⟨⟨⟨⟨c1,c2⟩,c3⟩,c4⟩,c5⟩:=hcc
   have hε:ε.length≤1000000:=by rw [hs.regs.len];exact ju c4
   have hdup:noDup σ=true∨∀ p∈pre,p.excl=false:=by
    rw [jO] at c5
    exact c5.imp id (fun h p hp=>by simpa using List.all_eq_true.1 h p hp)
   split at hc
   ·rename_i vc1 h1
    obtain ⟨vc2,h2,he2⟩:=map_nil hc
    subst he2
    have hE':=hE
    have hl:=Yf h1
    have hτ:∀ r,r<pre.length→ε.at_ (at' σ r)=Env.at_ (σ.map ε.ent) r:=fun r hr=>by
     have hp:σ[r]?=some (σ[r]'W31):=jc W31
     rw [Jz ε σ hp,Q00 hp]
    obtain ⟨hgiven,hreg⟩:=Qec hε hs.regs c1 hdup h1 hE'.left hlt
    have hargs:args'.map (SV.den ε)=want.map (SV.den (σ.map ε.ent)):=by
     rw [← Q22 (ε:=ε) hε h2 hE'.right,List.map_map]
     exact km fun s hs'=>Zz hτ (List.all_eq_true.1 c2 s hs')
    rw [hargs]
    refine (spec (σ.map ε.ent) w hgiven).mono ?_
    rintro e w' ⟨res,post,ε',hT,rfl,hpre,hpost,hfr⟩
    obtain ⟨hsome,hnext⟩:=next res post hT
    simp only at hsome hnext
    split at hsome
    ·rename_i hcond
     rw [if_pos hcond] at hnext
     simp only [je] at hcond
     obtain ⟨⟨⟨⟨⟨⟨d1,d2⟩,d3⟩,d4⟩,d5⟩,d6⟩,d7⟩:=hcond
     obtain ⟨s1,s2⟩:=Qh d1
     have hshare:(∀ r∈post,r.excl=true∨r.live=false)∨shareOk st.rg σ pre=true:=by
      rw [jO] at d7
      exact d7.imp (fun h r hr=>by have:=List.all_eq_true.1 h r hr;simpa using this) id
     obtain ⟨hregs',hat,hτ2⟩:=hs.regs.calls (w':=w') (ε':=ε') (post:=post) (σ:=σ) (pre:=pre) hs.below.size s2 hl hreg (fun q hq=>by
      have:=List.all_eq_true.1 d5 q hq
      rw [jO] at this
      exact this.imp ju ju) hdup (ju d4) d2 hpost hpre hfr hshare
     cases hput:putSt { st with rg:=back (callTau pre.length st.rg.length σ) σ pre post st.rg++(post.drop pre.length).map (Reg.ren (callTau pre.length st.rg.length σ)) } dst [] (res.ren (callTau pre.length st.rg.length σ)) with
     | none=>rw [hput] at hsome;cases hsome
     | some st' =>
       rw [hput] at hnext
       simp only [jM] at hnext
       have hm:∀ k,k<b.w.heap.size→¬ b.m k→¬ (Base.at_ pre (σ.map ε.ent) w).m k:=fun k hk hm ⟨i,p,hp,hex,hfp⟩=>by
        obtain ⟨q,hq,hx,_⟩:=hreg i p hp
        obtain ⟨h,hh,hhex⟩:=hx hex
        rw [Y9 ε σ hq] at hfp
        rcases hs.regs.lim q h hh hhex k hfp with h | h
        ·omega
        ·exact hm h
       have hsat:SatE b { st with rg:=back (callTau pre.length st.rg.length σ) σ pre post st.rg++(post.drop pre.length).map (Reg.ren (callTau pre.length st.rg.length σ)) } (backE σ pre ε' ε++ε'.drop pre.length) a w':=by
        refine ⟨hs.defs,hs.size,fun en hen=>(hs.fr en hen).same (s1 en hen) hat,hregs',hs.below.step hfr.os hfr.tape hfr.output hfr.size (fun k hk hmk=>hfr.block k (jP hk hs.below.size) (hm k hk hmk)),?_⟩
        have hbl:=(Q3f (τ:=id) 0 σ pre post ε' st.rg ε hl (ju d4) (by rw [hpost.len];exact jm _) hs.regs.len.symm).2.1
        have e1:(Env.hs (backE σ pre ε' ε++ε'.drop pre.length)).take ε.length=ε.hs:=by
         apply kG
         intro i
         rw [jZ]
         by_cases hi:i<ε.length
         ·rw [if_pos hi]
          have:=hat i (by rw [← hs.regs.len];exact hi)
          unfold Env.hs
          have hi2:i<(backE σ pre ε' ε++ε'.drop pre.length).length:=by rw [jl,hbl];omega
          rw [jk,jk,jc hi,jc hi2]
          unfold Env.at_ Env.ent at this
          rw [jb,jb,jc hi,jc hi2] at this
          simpa using this
         ·rw [if_neg hi]
          unfold Env.hs
          rw [jX W203]
        exact (hs.pre.trans (by rw [← e1];exact List.take_prefix _ _))
       refine ⟨_,rfl,fun hd=>?_,hnext b hb _ w' ⟨_,Qg hsat hput (fun _=>?_) (fun hn=>absurd (gHolds_nil _) hn)⟩⟩
       ·subst hd
        have c3:pre.all (fun r=>!r.excl)=true:=by simpa using c3
        refine ⟨hfr.os,hfr.tape,hfr.output,hfr.size,fun k hk=>hfr.block k hk fun ⟨i,p,hp,hex,_⟩=>?_⟩
        have:=List.all_eq_true.1 c3 p (jq hp)
        rw [hex] at this;cases this
       ·exact (Zz hτ2 d3).symm
    ·cases hsome
   ·cases hc
  ·cases hc
 all_goals first | (unfold callV at h;split at h<;>simp at h;done) | (split at h<;>simp at h)
def exclIn (n:Nat):List Nat→List Reg→Bool
 | q::σ,p::pre=>(!p.excl||kD q n)&&exclIn n σ pre
 | _,_=>true
theorem Q0v {n:Nat}:∀ {σ:List Nat} {pre:List Reg},exclIn n σ pre=true→∀ (i q:Nat) (p:Reg),pre[i]?=some p→σ[i]?=some q→p.excl=true→q<n
 | q::σ,p::pre,h,i,q',p',h1,h2,h3=>by
   simp only [exclIn,je,jO,jL] at h
   cases i with
   | zero =>
     simp only [jD,Option.some.injEq] at h1 h2
     subst h1 h2
     rcases h.1 with h4 | h4
     ·rw [h3] at h4;cases h4
     ·exact ju h4
   | succ i=>exact Q0v h.2 i q' p' W133 W166 h3
 | [],_,_,i,_,_,_,h2,_=>by simp at h2
 | _::_,[],_,i,_,_,h1,_,_=>by simp at h1
theorem RunF.call {f:Nat} {args want:List SV} {pre:List Reg} {res:SV} {post:List Reg} (he:Enters P f) (spec:Ctr P f pre want (Det res post)) (σ:List Nat) {E:List F} (h:see P fn c=(vc,.call f args)) (hv:Conj vc)
 (hc:callEnt (c.drawn P) σ (c.at P) pre want args=some E) (hE:AllF E) (hok:((c.after P σ pre res post).isSome&&exclIn (c.at P).rg.length σ pre)=true) (next:RunF P fn n0 U (c.ret P σ pre res post)):RunF P fn n0 U c:=by
 rw [je] at hok
 exact RunF.callX he spec σ h hv hc hE (Q0v hok.2) fun r p ⟨h1,h2⟩=>by subst h1;subst h2;exact ⟨hok.1,next⟩
theorem RunF.callE {f:Nat} {args want:List SV} {pre:List Reg} {T:SV→List Reg→Prop} (he:Enters P f) (spec:Ctr P f pre want T) (σ:List Nat) {E:List F} (h:see P fn c=(vc,.call f args)) (hv:Conj vc)
 (hc:callEnt (c.drawn P) σ (c.at P) pre want args=some E) (hE:AllF E) (hok:exclIn (c.at P).rg.length σ pre=true) (next:∀ res post,T res post→(c.after P σ pre res post).isSome=true∧RunF P fn n0 U (c.ret P σ pre res post)):RunF P fn n0 U c:=
 RunF.callX he spec σ h hv hc hE (Q0v hok) next
def Cfg.gafter (P:Program) (c:Cfg) (σ:List Nat) (res:SV):Option Cfg:=match (seg P 5000 c.k c.st).2 with
 | .call _ _ dst g _ _ k st=>if res.scp σ.length then (putSt st dst g (res.ren (at' σ))).map fun st'=>⟨k,st'⟩ else none
 | _=>none
def Cfg.gret (P:Program) (c:Cfg) (σ:List Nat) (res:SV):Cfg:=match c.gafter P σ res with
 | some c'=>c'
 | none=>noCfg
def Cfg.gx (P:Program) (c:Cfg):Option Bool:=match (seg P 5000 c.k c.st).2 with
 | .call _ _ _ g _ _ _ st=>(splitOn st g).map (·.2)
 | _=>none
def Cfg.gthn (P:Program) (c:Cfg) (b:Bool):Cfg:=match (seg P 5000 c.k c.st).2 with
 | .call _ _ _ g _ k0 _ st=>match splitOn st g with
   | some (t,_)=>⟨k0,litT st t b⟩
   | none=>noCfg
 | _=>noCfg
theorem RunF.guard {f:Nat} {args:List SV} {x:Bool} (h:see P fn c=(vc,.gcall f args)) (hv:Conj vc) (hx:c.gx P=some x) (ht:x=true→RunF P fn n0 U (c.gthn P true)) (hf:x=false→RunF P fn n0 U (c.gthn P false)):RunF P fn n0 U c:=by
 intro b hb
 unfold see at h
 unfold Cfg.gx at hx
 unfold Cfg.gthn at ht hf
 generalize hg:seg P 5000 c.k c.st=r at h hx ht hf
 obtain ⟨vc',out⟩:=r
 cases out<;>simp only [Prod.mk.injEq,reduceCtorEq,and_false] at h
 case call f' args' dst g d k0 k st =>
  have hvc:vc'=vc:=by cases g<;>simp [callV] at h<;>exact h.1
  subst hvc
  simp only at hx ht hf
  cases hsp:splitOn st g with
  | none=>rw [hsp] at hx;cases hx
  | some tx =>
    obtain ⟨t,y⟩:=tx
    rw [hsp] at hx ht hf
    cases hx
    refine Qn hw.mixed 5000 _ _ _ _ hg hv.toAll (.inl fun a w ⟨ε,hs⟩=>?_)
    cases hy:y with
    | true=>exact ht hy b hb a w ⟨ε,Z8 hs hsp hy⟩
    | false=>exact hf hy b hb a w ⟨ε,Z8 hs hsp hy⟩
 all_goals first | (unfold callV at h;split at h<;>simp at h;done) | (split at h<;>simp at h)
theorem RunF.gcall {f:Nat} {args want:List SV} {pre:List Reg} {res:SV} {post:List Reg} (he:Enters P f) (spec:Ctr P f pre want (Det res post)) (σ:List Nat) {E:List F} (h:see P fn c=(vc,.gcall f args)) (hv:Conj vc)
 (hc:callEnt true σ (c.at P) pre want args=some E) (hE:AllF E) (hok:(c.gafter P σ res).isSome=true) (next:RunF P fn n0 U (c.gret P σ res)):RunF P fn n0 U c:=by
 intro b hb
 unfold see at h
 unfold Cfg.at at hc
 unfold Cfg.gret at next
 unfold Cfg.gafter at next hok
 generalize hg:seg P 5000 c.k c.st=r at h hc next hok
 obtain ⟨vc',out⟩:=r
 cases out<;>simp only [Prod.mk.injEq,reduceCtorEq,and_false] at h
 case call f' args' dst g d k0 k st =>
  have hvc:vc'=vc∧f'=f∧args'=args:=by cases g<;>simp [callV] at h<;>exact h
  obtain ⟨rfl,rfl,rfl⟩:=hvc
  simp only at hc hok next
  split at hok
  ·rename_i hsc
   rw [if_pos hsc] at next
   cases hput:putSt st dst g (res.ren (at' σ)) with
   | none=>rw [hput] at hok;cases hok
   | some st' =>
     rw [hput] at next
     simp only [jM] at next
     refine Qn hw.mixed 5000 _ _ _ _ hg hv.toAll (.inr ⟨he,fun ε a w hs=>⟨fun hgh=>?_,fun hn=>?_⟩⟩)
     ·unfold callEnt at hc
      split at hc
      ·rename_i hcc
       simp only [je] at hcc
       obtain ⟨⟨⟨⟨c1,c2⟩,c3⟩,c4⟩,c5⟩:=hcc
       have c3:∀ p∈pre,p.excl=false:=fun p hp=>by
        have c3:pre.all (fun r=>!r.excl)=true:=by simpa using c3
        simpa using List.all_eq_true.1 c3 p hp
       have hε:ε.length≤1000000:=by rw [hs.regs.len];exact ju c4
       split at hc
       ·rename_i vc1 h1
        obtain ⟨vc2,h2,he2⟩:=map_nil hc
        subst he2
        have hE':=hE
        have hl:=Yf h1
        have hτ:∀ r,r<pre.length→ε.at_ (at' σ r)=Env.at_ (σ.map ε.ent) r:=fun r hr=>by
         have hp:σ[r]?=some (σ[r]'W31):=jc W31
         rw [Jz ε σ hp,Q00 hp]
        obtain ⟨hgiven,hreg⟩:=Qec hε hs.regs c1 (.inr c3) h1 hE'.left (fun i q p hp _ hex=>by rw [c3 p (jq hp)] at hex;cases hex)
        have hargs:args'.map (SV.den ε)=want.map (SV.den (σ.map ε.ent)):=by
         rw [← Q22 (ε:=ε) hε h2 hE'.right,List.map_map]
         exact km fun s hs'=>Zz hτ (List.all_eq_true.1 c2 s hs')
        rw [hargs]
        refine (spec (σ.map ε.ent) w hgiven).mono ?_
        rintro e w' ⟨res',post',ε',⟨rfl,rfl⟩,rfl,hpre,hpost,hfr⟩
        have hgrow:Grow w w':=⟨hfr.os,hfr.tape,hfr.output,hfr.size,fun k hk=>hfr.block k hk fun ⟨i,p,hp,hex,_⟩=>by rw [c3 p (jq hp)] at hex;cases hex⟩
        refine ⟨_,rfl,fun _=>hgrow,next b hb _ w' ⟨ε,Qg (hs.grow hgrow) hput (fun _=>?_) (fun hn=>absurd hgh hn)⟩⟩
        refine (Zz (n:=σ.length) (fun r hr=>?_) hsc).symm
        rw [hτ r W31]
        obtain ⟨t,ht⟩:=hpre
        have hlt:r<(Env.hs (σ.map ε.ent)).length:=by simp [Env.hs];omega
        have e1:ε'.hs[r]?=(Env.hs (σ.map ε.ent))[r]?:=by
         have:((Base.at_ pre (σ.map ε.ent) w).e++t)[r]?=(Env.hs (σ.map ε.ent))[r]?:=jp hlt
         rw [← this,ht]
        generalize σ.map ε.ent=η at hlt e1 ⊢
        unfold Env.hs at e1 hlt
        rw [jK] at hlt
        rw [jk,jk,jc hlt] at e1
        unfold Env.at_ Env.ent
        rw [jb,jb,jc hlt]
        cases hx:ε'[r]? with
        | none=>rw [hx] at e1;cases e1
        | some x =>
          rw [hx] at e1
          simp only [jM,Option.some.injEq] at e1
          simp [e1]
       ·cases hc
      ·cases hc
     ·exact next b hb _ w ⟨ε,Qg hs hput (fun h=>absurd h hn) (fun _=>rfl)⟩
  ·cases hok
 all_goals first | (unfold callV at h;split at h<;>simp at h;done) | (split at h<;>simp at h)
def openCells (own:Bool):Nat→List TC→Option (List C×List Reg)
 | _,[]=>some ([],[])
 | base,.val x::r=>(openCells own base r).map fun y=>(toC x::y.1,y.2)
 | base,.sub ty s n f::r=>(openCells own (base+1) r).map fun y=>(.h base::y.1,(if own then .own ty s n f none else .row s n f none)::y.2)
 | _,.any::_=>none
def tcs (g:Nat→TC):Nat→Nat→List TC
 | _,0=>[]
 | j,n+1=>g j::tcs g (j+1) n
def focSt (st:St) (r k:Nat):Option (St×List Prop):=
 if st.scp then
  match nth st.rg r with
  | some (.own ty size n f none)=>(openCells true st.rg.length (tcs (f k) 0 size)).map fun y=>({ st with rg:=st.rg.set r (.own ty size n f (some (k,y.1)))++y.2 },[k<n])
  | some (.row size n f _)=>(openCells false st.rg.length (tcs (f k) 0 size)).map fun y=>({ st with rg:=st.rg.set r (.row size n f (some (k,y.1)))++y.2 },[k<n])
  | _=>none
 else none
end
theorem Zl {ε:Env} {i:Nat} {x:Ent} (h:ε[i]?=some x):ε.ent i=x:=by unfold Env.ent;rw [jb,h];rfl
theorem RegsOk.split {ε:Env} {M L:Nat→Prop} {w:World} {rg regs:List Reg} {r:Nat} {old new:Reg} {x0:Ent} {xs:Env} (hs:RegsOk ε M L w rg) (ho:rg[r]?=some old) (hlv:old.live=true) (hx0:x0.h=ε.at_ r) (hsc:rg.all (Reg.scp rg.length)=true)
 (hk:old.excl=true∨(new.excl=false∧∀ s∈regs,s.excl=false)) (hl:xs.length=regs.length) (hf0:∀ b,x0.fp b→ε.fp r b) (hfx:∀ x∈xs,∀ b,x.fp b→ε.fp r b)
 (hd0:old.excl=true→∀ x∈xs,∀ b,x.fp b→¬ x0.fp b) (hdx:old.excl=true→∀ (q q':Nat) (x x':Ent),q≠q'→xs[q]?=some x→xs[q']?=some x'→∀ b,x.fp b→¬ x'.fp b)
 (hnew:RegOk (ε.set r x0++xs) M w x0 new) (hregs:∀ (q:Nat) (s:Reg) (x:Ent),regs[q]?=some s→xs[q]?=some x→RegOk (ε.set r x0++xs) M w x s) :
 RegsOk (ε.set r x0++xs) M L w (rg.set r new++regs)∧∀ i,i<rg.length→Env.at_ (ε.set r x0++xs) i=ε.at_ i:=by
 have hlen:=hs.len
 have hr:r<rg.length:=(List.getElem?_eq_some_iff.1 ho).1
 have e1:∀ i,i<rg.length→i≠r→Env.ent (ε.set r x0++xs) i=ε.ent i:=fun i hi hne=>by
  unfold Env.ent
  rw [jb,jb,jp (by simpa using by omega),jC (Ne.symm hne)]
 have e2:Env.ent (ε.set r x0++xs) r=x0:=Zl (by rw [jp (by simpa using by omega),jE (by omega)])
 have e3:∀ q x,xs[q]?=some x→Env.ent (ε.set r x0++xs) (rg.length+q)=x:=fun q x hx=>Zl (by
  rw [jy W130]
  simp only [jt]
  rw [← hx];congr 1;omega)
 have hat:∀ i,i<rg.length→Env.at_ (ε.set r x0++xs) i=ε.at_ i:=fun i hi=>by
  by_cases hir:i=r
  ·subst hir;unfold Env.at_;rw [e2];exact hx0
  ·unfold Env.at_;rw [e1 i hi hir]
 refine ⟨?_,hat⟩
 have cls:∀ (j:Nat) (s:Reg),(rg.set r new++regs)[j]?=some s→(j<rg.length∧j≠r∧rg[j]?=some s∧Env.ent (ε.set r x0++xs) j=ε.ent j)∨(j=r∧s=new∧Env.ent (ε.set r x0++xs) j=x0) ∨
  (∃ (q:Nat) (x:Ent),j=rg.length+q∧regs[q]?=some s∧xs[q]?=some x∧Env.ent (ε.set r x0++xs) j=x):=fun j s hj=>by
  rcases kO j rg.length with h1 | h1
  ·rw [jp W133] at hj
   by_cases hjr:j=r
   ·subst hjr
    rw [jE h1] at hj
    cases hj
    exact .inr (.inl ⟨rfl,rfl,e2⟩)
   ·rw [jC (Ne.symm hjr)] at hj
    exact .inl ⟨h1,hjr,hj,e1 j h1 hjr⟩
  ·rw [jy W133] at hj
   simp only [jt] at hj
   have hlt:=(List.getElem?_eq_some_iff.1 hj).1
   have hx:xs[j-rg.length]?=some (xs[j-rg.length]'W31):=jc W31
   refine .inr (.inr ⟨j-rg.length,_,by omega,hj,hx,?_⟩)
   have:=e3 _ _ hx
   rwa [show rg.length+(j-rg.length)=j by omega] at this
 have hpart:∀ (j:Nat) (s:Reg),(rg.set r new++regs)[j]?=some s→¬ (j<rg.length∧j≠r)→(∀ b,Env.fp (ε.set r x0++xs) j b→ε.fp r b):=fun j s hj hn b hb=>by
  unfold Env.fp at hb
  rcases cls j s hj with ⟨k1,k2,_⟩ | ⟨_,_,k3⟩ | ⟨q,x,_,_,k3,k4⟩
  ·exact absurd ⟨k1,k2⟩ hn
  ·rw [k3] at hb;exact hf0 b hb
  ·rw [k4] at hb;exact hfx x (jq k3) b hb
 have hexcl:∀ (j:Nat) (s:Reg),(rg.set r new++regs)[j]?=some s→¬ (j<rg.length∧j≠r)→s.excl=true→old.excl=true:=fun j s hj hn he=>by
  rcases hk with hk | ⟨h1,h2⟩
  ·exact hk
  ·rcases cls j s hj with ⟨k1,k2,_⟩ | ⟨_,rfl,_⟩ | ⟨q,x,_,k2,_⟩
   ·exact absurd ⟨k1,k2⟩ hn
   ·rw [h1] at he;cases he
   ·rw [h2 s (jq k2)] at he;cases he
 refine ⟨by simp [hlen,hl],fun j s hj=>?_,fun j s hj hl' b hb=>?_,fun j s hj he b hb=>?_,fun i j ri rj hij hi hj he hl' b hb1 hb2=>?_⟩
 ·rcases cls j s hj with ⟨k1,k2,k3,k4⟩ | ⟨rfl,rfl,k3⟩ | ⟨q,x,rfl,k2,k3,k4⟩
  ·rw [k4]
   exact (hs.reg j s k3).same (List.all_eq_true.1 hsc s (jq k3)) hat
  ·rw [k3];exact hnew
  ·rw [k4];exact hregs q s x k2 k3
 ·rcases cls j s hj with ⟨k1,k2,k3,k4⟩ | h
  ·unfold Env.fp at hb
   rw [k4] at hb
   exact hs.lt j s k3 hl' b hb
  ·exact hs.lt r old ho hlv b (hpart j s hj (fun ⟨a1,a2⟩=>by rcases h with ⟨h,_⟩ | ⟨q,x,h,_⟩<;>omega) b hb)
 ·rcases cls j s hj with ⟨k1,k2,k3,k4⟩ | h
  ·unfold Env.fp at hb
   rw [k4] at hb
   exact hs.lim j s k3 he b hb
  ·have hn:¬ (j<rg.length∧j≠r):=fun ⟨a1,a2⟩=>by rcases h with ⟨h,_⟩ | ⟨q,x,h,_⟩<;>omega
   exact hs.lim r old ho (hexcl j s hj hn he) b (hpart j s hj hn b hb)
 ·by_cases hni:i<rg.length∧i≠r
  ·have ci:=cls i ri hi
   rcases ci with ⟨k1,k2,k3,k4⟩ | ⟨h,_⟩ | ⟨q,x,h,_⟩
   ·have hb1':ε.fp i b:=by unfold Env.fp at hb1;rw [k4] at hb1;exact hb1
    by_cases hnj:j<rg.length∧j≠r
    ·rcases cls j rj hj with ⟨m1,m2,m3,m4⟩ | ⟨h,_⟩ | ⟨q,x,h,_⟩
     ·have hb2':ε.fp j b:=by unfold Env.fp at hb2;rw [m4] at hb2;exact hb2
      exact hs.sep i j ri rj hij k3 m3 he hl' b hb1' hb2'
     ·exact hnj.2 h
     ·omega
    ·exact hs.sep i r ri old k2 k3 ho he hlv b hb1' (hpart j rj hj hnj b hb2)
   ·exact hni.2 h
   ·omega
  ·have hex:=hexcl i ri hi hni he
   have hb1':=hpart i ri hi hni b hb1
   by_cases hnj:j<rg.length∧j≠r
   ·rcases cls j rj hj with ⟨m1,m2,m3,m4⟩ | ⟨h,_⟩ | ⟨q,x,h,_⟩
    ·have hb2':ε.fp j b:=by unfold Env.fp at hb2;rw [m4] at hb2;exact hb2
     exact hs.sep r j old rj (Ne.symm m2) ho m3 hex hl' b hb1' hb2'
    ·exact hnj.2 h
    ·omega
   ·unfold Env.fp at hb1 hb2
    rcases cls i ri hi with ⟨k1,k2,_⟩ | ⟨rfl,rfl,k3⟩ | ⟨q,x,rfl,k2,k3,k4⟩<;>rcases cls j rj hj with ⟨m1,m2,_⟩ | ⟨rfl,rfl,m3⟩ | ⟨q',x',rfl,m2,m3,m4⟩
    ·exact hni ⟨k1,k2⟩
    ·exact hni ⟨k1,k2⟩
    ·exact hni ⟨k1,k2⟩
    ·exact hnj ⟨m1,m2⟩
    ·exact hij rfl
    ·rw [k3] at hb1;rw [m4] at hb2
     exact hd0 hex x' (jq m3) b hb2 hb1
    ·exact hnj ⟨m1,m2⟩
    ·rw [k4] at hb1;rw [m3] at hb2
     exact hd0 hex x (jq k3) b hb1 hb2
    ·rw [k4] at hb1;rw [m4] at hb2
     exact hdx hex q q' x x' (fun e=>hij (by rw [e])) k3 m3 b hb1 hb2
theorem Q43 {g:Nat→TC}:∀ {n j0 q:Nat},q<n→(tcs g j0 n)[q]?=some (g (j0+q))
 | 0,_,q,h=>by omega
 | n+1,j0,0,_=>rfl
 | n+1,j0,q+1,h=>by
   simp only [tcs,List.getElem?_cons_succ]
   rw [Q43 W31,show j0+1+q=j0+(q+1) by omega]
theorem Jo {g:Nat→TC}:∀ {n j0:Nat},(tcs g j0 n).length=n
 | 0,_=>rfl
 | n+1,j0=>by simp [tcs,Jo (n:=n)]
theorem Zm {w:World} {M:Nat→Prop} {own:Bool} (us:Nat→Value) (Fs:Nat→Nat→Prop):∀ {ts:List TC} {base j0:Nat} {cells:List C} {regs:List Reg},openCells own base ts=some (cells,regs) →
 (∀ q t,ts[q]?=some t→if own then OwnC w M t (Fs (j0+q)) (us (j0+q)) else RdC w (Fs (j0+q)) t (us (j0+q))) →
 ∃ js:List Nat,js.length=regs.length∧cells.length=ts.length∧(∀ x∈js,j0≤x∧x<j0+ts.length)∧(∀ (a b:Nat) x,js[a]?=some x→js[b]?=some x→a=b) ∧
  (∀ s∈regs,s.excl=own∧∀ m,s.scp m=true)∧(∀ (q:Nat) (s:Reg) (x:Nat),regs[q]?=some s→js[q]?=some x→∀ ε,RegOk ε M w ⟨us x,Fs x⟩ s) ∧
  (∀ ε:Env,(∀ (q x:Nat),js[q]?=some x→ε.at_ (base+q)=us x)→∀ (q:Nat) (c:C),cells[q]?=some c→c.den ε=us (j0+q))
 | [],base,j0,cells,regs,h,_=>by
   simp only [openCells,Option.some.injEq,Prod.mk.injEq] at h
   obtain ⟨rfl,rfl⟩:=h
   exact ⟨[],rfl,rfl,(fun x h=>by cases h),(fun a b x h=>by simp at h),(fun s h=>by cases h),(fun q s x h=>by simp at h),fun ε _ q c h=>by simp at h⟩
 | .val v::ts,base,j0,cells,regs,h,hv=>by
   simp only [openCells] at h
   obtain ⟨⟨cs,rs⟩,h1,h2⟩:=map_nil h
   cases h2
   obtain ⟨js,k1,k2,k3,k4,k5,k6,k7⟩:=Zm (w:=w) (M:=M) us Fs (j0:=j0+1) h1 (fun q t ht=>by
    have:=hv (q+1) t W205
    rwa [show j0+(q+1)=j0+1+q by omega] at this)
   refine ⟨js,k1,by simp [k2],fun x hx=>?_,k4,k5,k6,fun ε hε q c hc=>?_⟩
   ·have:=k3 x hx;simp only [kd];omega
   ·cases q with
    | zero =>
      simp only [jD,Option.some.injEq] at hc
      subst hc
      rw [Q70]
      have:=hv 0 (.val v) rfl
      cases own<;>simp only [OwnC,RdC,jY,if_false,if_true] at this<;>exact this.symm
    | succ q =>
      have:=k7 ε hε q c W202
      rwa [show j0+1+q=j0+(q+1) by omega] at this
 | .sub ty s n f::ts,base,j0,cells,regs,h,hv=>by
   simp only [openCells] at h
   obtain ⟨⟨cs,rs⟩,h1,h2⟩:=map_nil h
   cases h2
   obtain ⟨js,k1,k2,k3,k4,k5,k6,k7⟩:=Zm (w:=w) (M:=M) us Fs (j0:=j0+1) h1 (fun q t ht=>by
    have:=hv (q+1) t W205
    rwa [show j0+(q+1)=j0+1+q by omega] at this)
   refine ⟨j0::js,by simp [k1],by simp [k2],fun x hx=>?_,fun a b x ha hb=>?_,fun s' hs'=>?_,fun q s' x hq hx=>?_,fun ε hε q c hc=>?_⟩
   ·simp only [kd]
    cases hx with
    | head=>omega
    | tail _ hx=>have:=k3 x hx;omega
   ·cases a with
    | zero =>
      simp only [jD,Option.some.injEq] at ha
      subst ha
      cases b with
      | zero=>rfl
      | succ b =>
        have:=k3 _ (jq (by simpa using hb))
        omega
    | succ a=>cases b with
      | zero =>
        simp only [jD,Option.some.injEq] at hb
        subst hb
        have:=k3 _ (jq (by simpa using ha))
        omega
      | succ b=>rw [k4 a b x (by simpa using ha) (by simpa using hb)]
   ·cases hs' with
    | head=>cases own<;>exact ⟨rfl,fun m=>rfl⟩
    | tail _ hs'=>exact k5 s' hs'
   ·cases q with
    | zero =>
      simp only [jD,Option.some.injEq] at hq hx
      subst hq hx
      intro ε
      have:=hv 0 _ rfl
      cases own
      ·simp only [jY,if_false,Nat.add_zero] at this
       exact ⟨this,trivial⟩
      ·simp only [if_true,Nat.add_zero] at this
       exact ⟨this,trivial⟩
    | succ q=>exact k6 q s' x (by simpa using hq) (by simpa using hx)
   ·cases q with
    | zero =>
      simp only [jD,Option.some.injEq] at hc
      subst hc
      have:=hε 0 j0 rfl
      simpa [C.den] using this
    | succ q =>
      have:=k7 ε (fun q x hx=>by
       have:=hε (q+1) x (by simpa using hx)
       rwa [show base+(q+1)=base+1+q by omega] at this) q c W202
      rwa [show j0+1+q=j0+(q+1) by omega] at this
 | .any::_,_,_,_,_,h,_=>by cases h
theorem Q03 {b:Base} {st:St} {ε ε':Env} {a:Act} {w:World} {rg:List Reg} (hs:SatE b st ε a w) (hsc:st.scp=true) (hregs:RegsOk ε' b.M b.L w rg) (hat:∀ i,i<st.rg.length→ε'.at_ i=ε.at_ i) (hle:st.rg.length≤ε'.length):SatE b { st with rg } ε' a w:=by
 refine ⟨hs.defs,hs.size,fun en hen=>(hs.fr en hen).same ((Qh hsc).1 en hen) hat,hregs,hs.below,?_⟩
 have hl:=hs.regs.len
 have e1:ε'.hs.take ε.length=ε.hs:=by
  apply kG
  intro i
  rw [jZ]
  by_cases hi:i<ε.length
  ·rw [if_pos hi]
   have:=hat i W31
   unfold Env.hs
   have hi2:i<ε'.length:=by omega
   rw [jk,jk,jc hi,jc hi2]
   unfold Env.at_ Env.ent at this
   rw [jb,jb,jc hi,jc hi2] at this
   simpa using this
  ·rw [if_neg hi]
   unfold Env.hs
   rw [jX W203]
 exact hs.pre.trans (by rw [← e1];exact List.take_prefix _ _)
theorem Qfo {b:Base} {st st':St} {ε:Env} {a:Act} {w:World} {r k:Nat} {vc:List Prop} (hs:SatE b st ε a w) (h:focSt st r k=some (st',vc)) (hv:All vc):∃ ε',SatE b st' ε' a w:=by
 unfold focSt at h
 split at h
 ·rename_i hsc
  obtain ⟨s1,s2⟩:=Qh hsc
  have hl:=hs.regs.len
  split at h
  ·rename_i ty size n f hr
   obtain ⟨⟨cells,regs⟩,h1,h2⟩:=map_nil h
   cases h2
   have hk:k<n:=hv.one
   obtain ⟨els,o1,o2,o3,o4,fps,o5,o6,o7⟩:=(Qe hs hr).1
   have hget:∀ j,j<size→getV els k j=some ((getV els k j).getD undef):=fun j hj=>by obtain ⟨u,hu,_⟩:=o5 k j hk hj;rw [hu];rfl
   obtain ⟨js,k1,k2,k3,k4,k5,k6,k7⟩:=Zm (w:=w) (M:=b.M) (own:=true) (fun j=>(getV els k j).getD undef) (fps k) (j0:=0) h1 (fun q t ht=>by
    have hq:q<size:=by
     have:=(List.getElem?_eq_some_iff.1 ht).1
     rwa [Jo] at this
    rw [Q43 hq] at ht
    cases ht
    obtain ⟨u,hu,hok⟩:=o5 k q hk hq
    simp only [j8,if_true,hu,Option.getD_some]
    exact hok)
   have k3:∀ x∈js,x<size:=fun x hx=>by have:=(k3 x hx).2;rwa [Jo,j8] at this
   have k2:cells.length=size:=by rw [k2,Jo]
   generalize hxsd:(js.map fun x=>(⟨(getV els k x).getD undef,fps k x⟩:Ent))=xs
   have hxs:∀ (q:Nat) (x:Ent),xs[q]?=some x→∃ j,js[q]?=some j∧x=⟨(getV els k j).getD undef,fps k j⟩:=fun q x hx=>by
    rw [← hxsd,jk] at hx
    cases hj:js[q]? with
    | none=>rw [hj] at hx;cases hx
    | some j=>rw [hj] at hx;cases hx;exact ⟨j,rfl,rfl⟩
   have hxl:xs.length=regs.length:=by rw [← hxsd];simp [k1]
   have hsc':∀ foc,(Reg.own ty size n f foc).excl=true:=fun _=>rfl
   obtain ⟨hregs,hat⟩:=hs.regs.split (x0:=(⟨ε.at_ r,fun bb=>ε.fp r bb∧∀ j,j<size→¬ fps k j bb⟩:Ent)) (xs:=xs) (regs:=regs) (new:=.own ty size n f (some (k,cells))) (Q6 hr) rfl rfl s2 (.inl rfl) hxl (fun bb hb=>hb.1)
    (fun x hx bb hb=>by
      obtain ⟨q,hq,rfl⟩:=List.mem_iff_getElem.1 hx
      obtain ⟨j,hj,he⟩:=hxs q _ (jc hq)
      rw [he] at hb
      exact (o6 k j bb hk (k3 j (jq hj)) hb).1)
    (fun _ x hx bb hb hb0=>by
      obtain ⟨q,hq,rfl⟩:=List.mem_iff_getElem.1 hx
      obtain ⟨j,hj,he⟩:=hxs q _ (jc hq)
      rw [he] at hb
      exact hb0.2 j (k3 j (jq hj)) hb)
    (fun _ q q' x x' hqq hx hx' bb hb hb'=>by
      obtain ⟨j,hj,rfl⟩:=hxs q x hx
      obtain ⟨j',hj',rfl⟩:=hxs q' x' hx'
      have:=(o7 k j k j' bb hk (k3 j (jq hj)) hk (k3 j' (jq hj')) hb hb').2
      subst this
      exact hqq (k4 q q' j hj hj'))
    (by
      have hcells:∀ (q:Nat) (c:C),cells[q]?=some c→c.den (ε.set r (⟨ε.at_ r,fun bb=>ε.fp r bb∧∀ j,j<size→¬ fps k j bb⟩:Ent)++xs)=(getV els k q).getD undef:=fun q c hc=>by
       have:=k7 (ε.set r (⟨ε.at_ r,fun bb=>ε.fp r bb∧∀ j,j<size→¬ fps k j bb⟩:Ent)++xs) (fun q x hx=>by
        unfold Env.at_
        rw [Zl (x:=(⟨(getV els k x).getD undef,fps k x⟩:Ent))]
        rw [jy W130,← hxsd,jk]
        simp only [jt]
        rw [show st.rg.length+q-ε.length=q by omega,hx];rfl) q c hc
       rwa [j8] at this
      refine ⟨⟨els,o1,o2,o3,fun bb hb=>⟨⟨(o4 bb hb).1,fun j hj hf=>(o6 k j bb hk hj hf).2 hb⟩,(o4 bb hb).2⟩,fun i j bb=>fps i j bb∧i≠k,fun i j hi hj=>?_,fun i j bb hi hj hb=>⟨⟨(o6 i j bb hi hj hb.1).1,fun j' hj' hf=>hb.2 (o7 i j k j' bb hi hj hk hj' hb.1 hf).1⟩,(o6 i j bb hi hj hb.1).2⟩,
       fun i j i' j' bb hi hj hi' hj' hb hb'=>o7 i j i' j' bb hi hj hi' hj' hb.1 hb'.1⟩,hk,k2⟩
      obtain ⟨u,hu,hok⟩:=o5 i j hi hj
      refine ⟨u,hu,fun hik=>?_,fun hik=>?_⟩
      ·have e:(fun bb=>fps i j bb∧i≠k)=fps i j:=by funext bb;simp [hik]
       show OwnC w b.M (f i j) (fun bb=>fps i j bb∧i≠k) u
       rw [e];exact hok
      ·subst hik
       have hlt:j<cells.length:=by omega
       refine ⟨cells[j],jc hlt,?_⟩
       rw [hcells j _ (jc hlt),hu];rfl)
    (fun q s x hq hx=>by
      obtain ⟨j,hj,rfl⟩:=hxs q x hx
      exact k6 q s j hq hj _)
   exact ⟨_,Q03 hs hsc hregs hat W130⟩
  ·rename_i size n f foc hr
   obtain ⟨⟨cells,regs⟩,h1,h2⟩:=map_nil h
   cases h2
   have hk:k<n:=hv.one
   have hrd:RdRow w (ε.fp r) (ε.at_ r) size n (fun i j u=>RdC w (ε.fp r) (f i j) u):=by
    refine (Qe hs hr).1.map (jm _) (fun _ _ _=>rfl) (fun i j u _ _ hu=>?_)
    cases foc with
    | none=>exact hu
    | some kc=>exact hu.1
   have hcell:=fun j (hj:j<size)=>RdRow.cell hrd hk hj
   have hus:∃ us:Nat→Value,∀ j,j<size→w.cell? ((haddr (ε.at_ r)).add (k * size+j))=some (us j)∧RdC w (ε.fp r) (f k j) (us j):=by
    refine ⟨fun j=>(w.cell? ((haddr (ε.at_ r)).add (k * size+j))).getD undef,fun j hj=>?_⟩
    obtain ⟨u,h3,h4⟩:=hcell j hj
    simp only [h3,Option.getD_some]
    exact ⟨trivial,h4⟩
   obtain ⟨us,hus⟩:=hus
   obtain ⟨js,k1,k2,k3,k4,k5,k6,k7⟩:=Zm (w:=w) (M:=b.M) (own:=false) us (fun _=>ε.fp r) (j0:=0) h1 (fun q t ht=>by
    have hq:q<size:=by
     have:=(List.getElem?_eq_some_iff.1 ht).1
     rwa [Jo] at this
    rw [Q43 hq] at ht
    cases ht
    simp only [jY,if_false,j8]
    exact (hus q hq).2)
   have k2:cells.length=size:=by rw [k2,Jo]
   generalize hxsd:(js.map fun x=>(⟨us x,ε.fp r⟩:Ent))=xs
   have hxs:∀ (q:Nat) (x:Ent),xs[q]?=some x→∃ j,js[q]?=some j∧x=⟨us j,ε.fp r⟩:=fun q x hx=>by
    rw [← hxsd,jk] at hx
    cases hj:js[q]? with
    | none=>rw [hj] at hx;cases hx
    | some j=>rw [hj] at hx;cases hx;exact ⟨j,rfl,rfl⟩
   have hxl:xs.length=regs.length:=by rw [← hxsd];simp [k1]
   obtain ⟨hregs,hat⟩:=hs.regs.split (x0:=(⟨ε.at_ r,ε.fp r⟩:Ent)) (xs:=xs) (regs:=regs) (new:=.row size n f (some (k,cells))) (Q6 hr) rfl rfl s2 (.inr ⟨rfl,fun s hs=>(k5 s hs).1⟩) hxl (fun bb hb=>hb)
    (fun x hx bb hb=>by
      obtain ⟨q,hq,rfl⟩:=List.mem_iff_getElem.1 hx
      obtain ⟨j,hj,he⟩:=hxs q _ (jc hq)
      rw [he] at hb
      exact hb) (fun h=>by cases h) (fun h=>by cases h)
    (by
      have hcells:∀ (q:Nat) (c:C),cells[q]?=some c→c.den (ε.set r (⟨ε.at_ r,ε.fp r⟩:Ent)++xs)=us q:=fun q c hc=>by
       have:=k7 (ε.set r (⟨ε.at_ r,ε.fp r⟩:Ent)++xs) (fun q x hx=>by
        unfold Env.at_
        rw [Zl (x:=(⟨us x,ε.fp r⟩:Ent))]
        rw [jy W130,← hxsd,jk]
        simp only [jt]
        rw [show st.rg.length+q-ε.length=q by omega,hx];rfl) q c hc
       rwa [j8] at this
      obtain ⟨A,c,e1,e2,e3,e4,e5⟩:=hrd
      refine ⟨⟨A,c,e1,e2,e3,e4,fun hn=>?_⟩,hk,k2⟩
      obtain ⟨ad,rfl,hc⟩:=e5 hn
      refine ⟨ad,rfl,fun i j hi hj=>?_⟩
      obtain ⟨u,h3,h4⟩:=hc i j hi hj
      refine ⟨u,h3,h4,fun hik=>?_⟩
      subst hik
      have hlt:j<cells.length:=by omega
      refine ⟨cells[j],jc hlt,?_⟩
      rw [hcells j _ (jc hlt)]
      have h5:=(hus j hj).1
      rw [e1,show haddr (.slice (some ad) n c)=ad from rfl,h3] at h5
      injection h5)
    (fun q s x hq hx=>by
      obtain ⟨j,hj,rfl⟩:=hxs q x hx
      exact k6 q s j hq hj _)
   exact ⟨_,Q03 hs hsc hregs hat W130⟩
  ·cases h
 ·cases h
def foldCell (x:Value) (c:C):Option (List Prop):=
 match x,c with
 | .int k n,.i k' m=>if kindB k k' then some [n=m] else none
 | .bool a,.b b=>some [a=b]
 | .bool a,.t b=>some [a=b]
 | x,.v y=>some [x=y]
 | _,_=>none
def foldCells (rg:List Reg) (r:Nat):Nat→List TC→List C→Option (List Prop×List (Nat×Nat))
 | _,[],[]=>some ([],[])
 | j,.val x::ts,c::cs=>match foldCell x c,foldCells rg r (j+1) ts cs with
   | some e,some y=>some (e++y.1,y.2)
   | _,_=>none
 | j,.any::ts,_::cs=>foldCells rg r (j+1) ts cs
 | j,.sub ty s n f::ts,c::cs=>match c,foldCells rg r (j+1) ts cs with
   | .h q,some y=>match nth rg q with
     | some (.own ty' s' n' f' none)=>if jr ty ty'&&jr s s'&&!Nat.beq q r then some ([n=n',∀ i,i<n→f i=f' i]++y.1,(j,q)::y.2) else none
     | none=>if kR 1000000 q then some ([n=0]++y.1,y.2) else none
     | _=>none
   | .v (.slice none 0 0),some y=>some ([n=0]++y.1,y.2)
   | _,_=>none
 | _,_,_=>none
def kill:List (Nat×Nat)→List Reg→List Reg
 | [],rg=>rg
 | (_,q)::l,rg=>kill l (rg.set q .dead)
def foldSt (st:St) (r:Nat) (g:Nat→TC):Option (St×List Prop):=
 match nth st.rg r with
 | some (.own ty size n f (some (k,cs)))=>match foldCells st.rg r 0 (tcs g 0 size) cs with
   | some y=>if noDup (y.2.map (·.2))&&st.scp&&kR st.rg.length 1000000 then some ({ st with rg:=kill y.2 (st.rg.set r (.own ty size n (fun i=>if i=k then g else f i) none)) },y.1) else none
   | none=>none
 | _=>none
theorem Q8p {rg:List Reg} (j:Nat):∀ {l:List (Nat×Nat)},(kill l rg).length=rg.length∧((∃ p∈l,p.2=j)→∀ s,(kill l rg)[j]?=some s→s=.dead)∧((∀ p∈l,p.2≠j)→(kill l rg)[j]?=rg[j]?):=by
 intro l
 induction l generalizing rg with
 | nil=>exact ⟨rfl,(fun ⟨p,hp,_⟩=>by cases hp),fun _=>rfl⟩
 | cons p l ih =>
   obtain ⟨j0,q⟩:=p
   obtain ⟨h1,h2,h3⟩:=ih (rg:=rg.set q .dead)
   simp only [kill]
   refine ⟨by rw [h1];simp,fun ⟨p,hp,he⟩ s hs=>?_,fun hn=>?_⟩
   ·by_cases hex:∃ p∈l,p.2=j
    ·exact h2 hex s hs
    ·rw [h3 (fun p hp he=>hex ⟨p,hp,he⟩)] at hs
     cases hp with
     | head =>
       have he:q=j:=he
       subst he
       rw [List.getElem?_set] at hs
       simp at hs
       exact hs.2.symm
     | tail _ hp=>exact absurd ⟨p,hp,he⟩ hex
   ·rw [h3 (fun p hp=>hn p (.tail _ hp)),jC (hn (j0,q) (.head _))]
theorem Q7b {ε:Env} {x:Value} {c:C} {vc:List Prop} (h:foldCell x c=some vc) (hv:All vc):x=c.den ε:=by
 unfold foldCell at h
 split at h
 ·split at h
  ·rename_i hk
   cases h
   have:=uc hk
   subst this
   rw [hv.one];rfl
  ·cases h
 ·cases h;rw [hv.one];rfl
 ·cases h;rw [hv.one];rfl
 ·cases h;rw [hv.one];rfl
 ·cases h
theorem Z0 {ε:Env} {M L:Nat→Prop} {w:World} {rg:List Reg} {r:Nat} (hε:rg.length≤1000000) (hs:RegsOk ε M L w rg):∀ {ts:List TC} {cs:List C} {j0:Nat} {vc:List Prop} {ps:List (Nat×Nat)},foldCells rg r j0 ts cs=some (vc,ps)→All vc →
 (∀ p∈ps,j0≤p.1∧p.1<j0+ts.length∧p.2≠r∧∃ h:Reg,rg[p.2]?=some h∧h.excl=true)∧(∀ (a b:Nat×Nat),a∈ps→b∈ps→a.1=b.1→a=b) ∧
 ∀ (q:Nat) (t:TC) (c:C),ts[q]?=some t→cs[q]?=some c→OwnC w M t (fun b=>∃ p∈ps,p.1=j0+q∧ε.fp p.2 b) (c.den ε)
 | [],[],j0,vc,ps,h,_=>by
   simp only [foldCells,Option.some.injEq,Prod.mk.injEq] at h
   obtain ⟨rfl,rfl⟩:=h
   exact ⟨(fun p h=>by cases h),(fun a b h=>by cases h),fun q t c h=>by simp at h⟩
 | .val x::ts,c::cs,j0,vc,ps,h,hv=>by
   simp only [foldCells] at h
   split at h
   ·rename_i e y h1 h2
    obtain ⟨vc2,ps2⟩:=y
    cases h
    obtain ⟨k1,k2,k3⟩:=Z0 hε hs h2 hv.right
    refine ⟨fun p hp=>by have:=k1 p hp;simp only [kd];exact ⟨by omega,by omega,this.2.2⟩,k2,fun q t c' ht hc=>?_⟩
    cases q with
    | zero =>
      simp only [jD,Option.some.injEq] at ht hc
      subst ht hc
      exact (Q7b h1 hv.left).symm
    | succ q =>
      have:=k3 q t c' W205 W202
      rwa [show j0+1+q=j0+(q+1) by omega] at this
   ·cases h
 | .any::ts,c::cs,j0,vc,ps,h,hv=>by
   simp only [foldCells] at h
   obtain ⟨k1,k2,k3⟩:=Z0 hε hs h hv
   refine ⟨fun p hp=>by have:=k1 p hp;simp only [kd];exact ⟨by omega,by omega,this.2.2⟩,k2,fun q t c' ht hc=>?_⟩
   cases q with
   | zero =>
     simp only [jD,Option.some.injEq] at ht
     subst ht
     trivial
   | succ q =>
     have:=k3 q t c' W205 W202
     rwa [show j0+1+q=j0+(q+1) by omega] at this
 | .sub ty s n f::ts,c::cs,j0,vc,ps,h,hv=>by
   have nil:∀ {n:Nat} {fp:Nat→Prop},n=0→OwnC w M (.sub ty s n f) fp (.slice none 0 0):=fun hn=>by subst hn;exact Q42
   have keep:∀ {vc2:List Prop} {ps2:List (Nat×Nat)},foldCells rg r (j0+1) ts cs=some (vc2,ps2)→All vc2→(∀ fp,OwnC w M (.sub ty s n f) fp (c.den ε)) →
    (∀ p∈ps2,j0≤p.1∧p.1<j0+(TC.sub ty s n f::ts).length∧p.2≠r∧∃ h:Reg,rg[p.2]?=some h∧h.excl=true)∧(∀ (a b:Nat×Nat),a∈ps2→b∈ps2→a.1=b.1→a=b) ∧
    ∀ (q:Nat) (t:TC) (c':C),(TC.sub ty s n f::ts)[q]?=some t→(c::cs)[q]?=some c'→OwnC w M t (fun b=>∃ p∈ps2,p.1=j0+q∧ε.fp p.2 b) (c'.den ε):=fun h2 hv2 hok=>by
    obtain ⟨k1,k2,k3⟩:=Z0 hε hs h2 hv2
    refine ⟨fun p hp=>by have:=k1 p hp;simp only [kd];exact ⟨by omega,by omega,this.2.2⟩,k2,fun q t c' ht hc=>?_⟩
    cases q with
    | zero =>
      simp only [jD,Option.some.injEq] at ht hc
      subst ht hc
      exact hok _
    | succ q =>
      have:=k3 q t c' W205 W202
      rwa [show j0+1+q=j0+(q+1) by omega] at this
   simp only [foldCells] at h
   split at h
   ·rename_i q y h2
    obtain ⟨vc2,ps2⟩:=y
    split at h
    ·rename_i ty' s' n' f' hq
     split at h
     ·rename_i hb
      cases h
      simp only [je,jL] at hb
      obtain ⟨⟨b1,b2⟩,b3⟩:=hb
      have e1:=jd b1
      have e2:=jd b2
      subst e1 e2
      have hv1:=hv.left
      have e3:=hv1.head
      have e4:=hv1.tail.one
      subst e3
      have hqr:q≠r:=fun e=>by subst e;rw [Nat.beq_refl] at b3;cases b3
      obtain ⟨k1,k2,k3⟩:=Z0 hε hs h2 hv.right
      refine ⟨fun p hp=>?_,fun a b ha hb he=>?_,fun q' t c' ht hc=>?_⟩
      ·simp only [kd]
       cases hp with
       | head=>exact ⟨jm _,by show j0<_;omega,hqr,_,Q6 hq,rfl⟩
       | tail _ hp=>have:=k1 p hp;exact ⟨by omega,by omega,this.2.2⟩
      ·cases ha with
       | head=>cases hb with
         | head=>rfl
         | tail _ hb =>
           have:=(k1 b hb).1
           have he:j0=b.1:=he
           omega
       | tail _ ha=>cases hb with
         | head =>
           have:=(k1 a ha).1
           have he:a.1=j0:=he
           omega
         | tail _ hb=>exact k2 a b ha hb he
      ·cases q' with
       | zero =>
         simp only [jD,Option.some.injEq] at ht hc
         subst ht hc
         have hok:=(hs.reg q _ (Q6 hq)).1
         have e:(fun b=>∃ p∈(j0,q)::ps2,p.1=j0+0∧ε.fp p.2 b)=ε.fp q:=by
          funext b
          apply propext
          constructor
          ·rintro ⟨p,hp,he,hf⟩
           cases hp with
           | head=>exact hf
           | tail _ hp=>have:=(k1 p hp).1;omega
          ·exact fun hf=>⟨_,.head _,rfl,hf⟩
         rw [e]
         exact OwnRow.map hok (fun _ _ _=>rfl) (fun i j fp' u hi _ _ hu=>by show OwnC w M (f i j) fp' u;rw [e4 i hi];exact hu)
       | succ q' =>
         have:=k3 q' t c' W205 W202
         have e:(fun b=>∃ p∈(j0,q)::ps2,p.1=j0+(q'+1)∧ε.fp p.2 b)=(fun b=>∃ p∈ps2,p.1=j0+1+q'∧ε.fp p.2 b):=by
          funext b
          apply propext
          constructor
          ·rintro ⟨p,hp,he,hf⟩
           cases hp with
           | head=>simp only at he;omega
           | tail _ hp=>exact ⟨p,hp,by omega,hf⟩
          ·exact fun ⟨p,hp,he,hf⟩=>⟨p,.tail _ hp,by omega,hf⟩
         rw [e];exact this
     ·cases h
    ·split at h
     ·rename_i hq hb
      cases h
      exact keep h2 hv.right (fun fp=>by
       have:(C.h q).den ε=.slice none 0 0:=Q65 (by rw [hs.len];have:=ju hb;omega)
       rw [this];exact nil hv.left.one)
     ·cases h
    ·cases h
   ·rename_i y h2
    obtain ⟨vc2,ps2⟩:=y
    cases h
    exact keep h2 hv.right (fun fp=>nil hv.left.one)
   ·cases h
 | [],_::_,_,_,_,h,_=>by cases h
 | .val _::_,[],_,_,_,h,_=>by cases h
 | .any::_,[],_,_,_,h,_=>by cases h
 | .sub ..::_,[],_,_,_,h,_=>by cases h
theorem Q69 {b:Base} {st st':St} {ε:Env} {a:Act} {w:World} {r:Nat} {g:Nat→TC} {vc:List Prop} (hs:SatE b st ε a w) (h:foldSt st r g=some (st',vc)) (hv:All vc):∃ ε',SatE b st' ε' a w∧∀ i,Env.at_ ε' i=ε.at_ i:=by
 unfold foldSt at h
 split at h
 ·rename_i ty size n f k cs hr
  split at h
  ·rename_i y hy
   obtain ⟨vc1,ps⟩:=y
   split at h
   ·rename_i hb
    simp only [je] at hb
    cases h
    obtain ⟨⟨hnd,hsc⟩,h6⟩:=hb
    obtain ⟨s1,s2⟩:=Qh hsc
    have hl:=hs.regs.len
    generalize hf':(fun i=>if i=k then g else f i)=f'
    have hvf:∀ i,i<n→i≠k→f' i=f i:=fun i _ hik=>by rw [← hf'];exact if_neg hik
    have hgk:g=f' k:=by rw [← hf'];exact (if_pos rfl).symm
    subst hgk
    obtain ⟨p1,p2,p3⟩:=Z0 (ju h6) hs.regs hy hv
    obtain ⟨⟨els,o1,o2,o3,o4,fps,o5,o6,o7⟩,hk,hcl⟩:=Qe hs hr
    have hrr:=Q6 hr
    have hrl:r<st.rg.length:=(List.getElem?_eq_some_iff.1 hrr).1
    have hq:∀ p∈ps,∀ q∈ps,p.2=q.2→p=q:=fun p hp q hq he=>by
     obtain ⟨i,hi,rfl⟩:=List.mem_iff_getElem.1 hp
     obtain ⟨j,hj,rfl⟩:=List.mem_iff_getElem.1 hq
     by_cases hij:i=j
     ·subst hij;rfl
     ·exact (Q38 hnd hij (x:=ps[i].2) (by rw [jk,jc hi];rfl) (by rw [jk,jc hj,he];rfl)).elim
    let x0:Ent:=⟨ε.at_ r,fun bb=>ε.fp r bb∨∃ p∈ps,ε.fp p.2 bb⟩
    have eq1:∀ i,i≠r→Env.ent (ε.set r x0) i=ε.ent i:=fun i hne=>by
     unfold Env.ent
     rw [jb,jb,jC (Ne.symm hne)]
    have eq2:Env.ent (ε.set r x0) r=x0:=Zl W181
    have hat:∀ i,Env.at_ (ε.set r x0) i=ε.at_ i:=fun i=>by
     by_cases hir:i=r
     ·subst hir;unfold Env.at_;rw [eq2];rfl
     ·unfold Env.at_;rw [eq1 i hir]
    have cls:∀ (j:Nat) (s:Reg),(kill ps (st.rg.set r (.own ty size n f' none)))[j]?=some s→s=.dead∨(j=r∧s=.own ty size n f' none)∨(j≠r∧st.rg[j]?=some s∧∀ p∈ps,p.2≠j):=fun j s hj=>by
     obtain ⟨_,k2,k3⟩:=Q8p (rg:=st.rg.set r (.own ty size n f' none)) j (l:=ps)
     by_cases hex:∃ p∈ps,p.2=j
     ·exact .inl (k2 hex s hj)
     ·have hex:∀ p∈ps,p.2≠j:=fun p hp he=>hex ⟨p,hp,he⟩
      rw [k3 hex] at hj
      by_cases hjr:j=r
      ·subst hjr
       rw [jE hrl] at hj
       cases hj
       exact .inr (.inl ⟨rfl,rfl⟩)
      ·rw [jC (Ne.symm hjr)] at hj
       exact .inr (.inr ⟨hjr,hj,hex⟩)
    have fp0:∀ bb,Env.fp (ε.set r x0) r bb→ε.fp r bb∨∃ p∈ps,ε.fp p.2 bb:=fun bb hb=>by
     unfold Env.fp at hb;rw [eq2] at hb;exact hb
    have fp1:∀ j bb,j≠r→Env.fp (ε.set r x0) j bb→ε.fp j bb:=fun j bb hj hb=>by
     unfold Env.fp at hb;rw [eq1 j hj] at hb;exact hb
    have hrq:∀ p∈ps,∀ bb,ε.fp r bb→¬ ε.fp p.2 bb:=fun p hp bb h1 h2=>by
     obtain ⟨_,_,hne,h,hh,hex⟩:=p1 p hp
     exact hs.regs.sep r p.2 _ h (Ne.symm hne) hrr hh rfl (Y0 hex) bb h1 h2
    refine ⟨ε.set r x0,Q03 hs hsc ⟨?_,fun j s hj=>?_,fun j s hj hl' bb hb=>?_,fun j s hj he bb hb=>?_,fun i j ri rj hij hi hj he hl' bb hb1 hb2=>?_⟩ (fun i _=>hat i) W130,hat⟩
    ·rw [jt,(Q8p 0).1,jt];exact hl
    ·rcases cls j s hj with rfl | ⟨rfl,rfl⟩ | ⟨k1,k2,_⟩
     ·trivial
     ·rw [eq2]
      have hcell:∀ j,j<size→OwnC w b.M (f' k j) (fun bb=>∃ p∈ps,p.1=j∧ε.fp p.2 bb) ((cs.getD j (.v undef)).den ε):=fun j hj=>by
       have:=p3 j (f' k j) (cs.getD j (.v undef)) (by rw [Q43 hj,j8]) (by rw [jb,jc (by omega)];rfl)
       simpa using this
      refine ⟨⟨els,o1,o2,o3,fun bb hb=>⟨.inl (o4 bb hb).1,(o4 bb hb).2⟩,fun i jj bb=>if i=k then (∃ p∈ps,p.1=jj∧ε.fp p.2 bb) else fps i jj bb,fun i jj hi hjj=>?_,fun i jj bb hi hjj hb=>?_,fun i jj i' jj' bb hi hjj hi' hjj' hb hb'=>?_⟩,trivial⟩
      ·obtain ⟨u,hu,hok⟩:=o5 i jj hi hjj
       refine ⟨u,hu,?_⟩
       show OwnC w b.M (f' i jj) (fun bb=>if i=k then (∃ p∈ps,p.1=jj∧ε.fp p.2 bb) else fps i jj bb) u
       by_cases hik:i=k
       ·subst hik
        obtain ⟨x,hx,rfl⟩:=hok.2 rfl
        have:=hcell jj hjj
        rw [jb,hx] at this
        simpa using this
       ·simp only [hik,if_false]
        rw [hvf i hi hik]
        exact hok.1 hik
      ·by_cases hik:i=k
       ·simp only [hik,if_true] at hb
        obtain ⟨p,hp,_,hf⟩:=hb
        exact ⟨.inr ⟨p,hp,hf⟩,fun hbk=>hrq p hp bb (o4 bb hbk).1 hf⟩
       ·simp only [hik,if_false] at hb
        exact ⟨.inl (o6 i jj bb hi hjj hb).1,(o6 i jj bb hi hjj hb).2⟩
      ·by_cases hik:i=k<;>by_cases hik':i'=k<;>simp only [hik,hik',if_true,if_false] at hb hb'
       ·obtain ⟨p,hp,e1,hf⟩:=hb
        obtain ⟨p',hp',e1',hf'⟩:=hb'
        have:p=p':=by
         apply hq p hp p' hp'
         apply Classical.byContradiction
         intro hne
         obtain ⟨_,_,_,h,hh,hex⟩:=p1 p hp
         obtain ⟨_,_,_,h',hh',hex'⟩:=p1 p' hp'
         exact hs.regs.sep _ _ h h' hne hh hh' hex (Y0 hex') bb hf hf'
        subst this
        exact ⟨by omega,by omega⟩
       ·obtain ⟨p,hp,e1,hf⟩:=hb
        exact (hrq p hp bb (o6 i' jj' bb hi' hjj' hb').1 hf).elim
       ·obtain ⟨p,hp,e1,hf⟩:=hb'
        exact (hrq p hp bb (o6 i jj bb hi hjj hb).1 hf).elim
       ·exact o7 i jj i' jj' bb hi hjj hi' hjj' hb hb'
     ·rw [eq1 j k1]
      exact (hs.regs.reg j s k2).same (List.all_eq_true.1 s2 s (jq k2)) (fun i _=>hat i)
    ·rcases cls j s hj with rfl | ⟨rfl,rfl⟩ | ⟨k1,k2,_⟩
     ·cases hl'
     ·rcases fp0 bb hb with h | ⟨p,hp,h⟩
      ·exact hs.regs.lt j _ hrr rfl bb h
      ·obtain ⟨_,_,_,h',hh,hex⟩:=p1 p hp
       exact hs.regs.lt p.2 h' hh (Y0 hex) bb h
     ·exact hs.regs.lt j s k2 hl' bb (fp1 j bb k1 hb)
    ·rcases cls j s hj with rfl | ⟨rfl,rfl⟩ | ⟨k1,k2,_⟩
     ·cases he
     ·rcases fp0 bb hb with h | ⟨p,hp,h⟩
      ·exact hs.regs.lim j _ hrr rfl bb h
      ·obtain ⟨_,_,_,h',hh,hex⟩:=p1 p hp
       exact hs.regs.lim p.2 h' hh hex bb h
     ·exact hs.regs.lim j s k2 he bb (fp1 j bb k1 hb)
    ·rcases cls i ri hi with rfl | ⟨rfl,rfl⟩ | ⟨k1,k2,k3⟩
     ·cases he
     ·rcases cls j rj hj with rfl | ⟨rfl,rfl⟩ | ⟨m1,m2,m3⟩
      ·cases hl'
      ·exact hij rfl
      ·have hb2:=fp1 j bb m1 hb2
       rcases fp0 bb hb1 with h | ⟨p,hp,h⟩
       ·exact hs.regs.sep i j _ rj hij hrr m2 rfl hl' bb h hb2
       ·obtain ⟨_,_,_,h',hh,hex⟩:=p1 p hp
        exact hs.regs.sep p.2 j h' rj (m3 p hp) hh m2 hex hl' bb h hb2
     ·have hb1':=fp1 i bb k1 hb1
      rcases cls j rj hj with rfl | ⟨rfl,rfl⟩ | ⟨m1,m2,m3⟩
      ·cases hl'
      ·rcases fp0 bb hb2 with h | ⟨p,hp,h⟩
       ·exact hs.regs.sep i j ri _ hij k2 hrr he rfl bb hb1' h
       ·obtain ⟨_,_,_,h',hh,hex⟩:=p1 p hp
        exact hs.regs.sep i p.2 ri h' (Ne.symm (k3 p hp)) k2 hh he (Y0 hex) bb hb1' h
      ·exact hs.regs.sep i j ri rj hij k2 m2 he hl' bb hb1' (fp1 j bb m1 hb2)
   ·cases h
  ·cases h
 ·cases h
def nilsSt (st:St) (r:Nat) (f':Nat→Nat→TC):Option (St×List Prop):=
 match nth st.rg r with
 | some (.own ty size n f none)=>some ({ st with rg:=st.rg.set r (.own ty size n f' none) },[∀ i j,i<n→j<size→f' i j=f i j∨(f i j=.val (.slice none 0 0)∧∃ ty s g,f' i j=.sub ty s 0 g)])
 | _=>none
theorem Qed {b:Base} {st st':St} {ε:Env} {a:Act} {w:World} {r:Nat} {f':Nat→Nat→TC} {vc:List Prop} (hs:SatE b st ε a w) (h:nilsSt st r f'=some (st',vc)) (hv:All vc):∃ ε',SatE b st' ε' a w:=by
 unfold nilsSt at h
 split at h
 ·rename_i ty size n f hr
  cases h
  have hvf:=hv.one
  have hrr:=Q6 hr
  have hrl:r<st.rg.length:=(List.getElem?_eq_some_iff.1 hrr).1
  have cls:∀ (j:Nat) (s:Reg),(st.rg.set r (.own ty size n f' none))[j]?=some s→(j=r∧s=.own ty size n f' none)∨(j≠r∧st.rg[j]?=some s):=fun j s hj=>by
   by_cases hjr:j=r
   ·subst hjr
    rw [jE hrl] at hj
    cases hj;exact .inl ⟨rfl,rfl⟩
   ·rw [jC (Ne.symm hjr)] at hj
    exact .inr ⟨hjr,hj⟩
  have old:∀ (j:Nat) (s:Reg),(st.rg.set r (.own ty size n f' none))[j]?=some s→∃ o:Reg,st.rg[j]?=some o∧(s.live=true→o.live=true)∧(s.excl=true→o.excl=true):=fun j s hj=>by
   rcases cls j s hj with ⟨rfl,rfl⟩ | ⟨k1,k2⟩
   ·exact ⟨_,hrr,fun _=>rfl,fun _=>rfl⟩
   ·exact ⟨s,k2,id,id⟩
  refine ⟨ε,hs.defs,hs.size,hs.fr,⟨by simp [hs.regs.len],fun j s hj=>?_,fun j s hj hl bb hb=>?_,fun j s hj he bb hb=>?_,fun i j ri rj hij hi hj he hl bb hb1 hb2=>?_⟩,hs.below,hs.pre⟩
  ·rcases cls j s hj with ⟨rfl,rfl⟩ | ⟨k1,k2⟩
   ·refine ⟨OwnRow.map (Qe hs hr).1 (fun _ _ _=>rfl) (fun i jj fp' u hi hjj hf hu=>?_),trivial⟩
    show OwnC w b.M (f' i jj) fp' u
    rcases hvf i jj hi hjj with h | ⟨h1,ty',s',g,h2⟩
    ·rw [h];exact hu
    ·simp only [okO,h1,OwnC] at hu
     rw [h2,hu]
     exact Q42
   ·exact hs.regs.reg j s k2
  ·obtain ⟨o,h1,h2,h3⟩:=old j s hj
   exact hs.regs.lt j o h1 (h2 hl) bb hb
  ·obtain ⟨o,h1,h2,h3⟩:=old j s hj
   exact hs.regs.lim j o h1 (h3 he) bb hb
  ·obtain ⟨o,h1,h2,h3⟩:=old i ri hi
   obtain ⟨o',h1',h2',h3'⟩:=old j rj hj
   exact hs.regs.sep i j o o' hij h1 h1' (h3 he) (h2' hl) bb hb1 hb2
 ·cases h
def regSt (st:St) (r:Nat) (new:Reg):Option (St×List Prop):=
 match nth st.rg r with
 | some old=>if new.scp st.rg.length&&kR st.rg.length 1000000 then (regMatch id new old).map fun vc=>({ st with rg:=st.rg.set r new },vc.map F.prop) else none
 | none=>none
theorem Qfp {b:Base} {st st':St} {ε:Env} {a:Act} {w:World} {r:Nat} {new:Reg} {vc:List Prop} (hs:SatE b st ε a w) (h:regSt st r new=some (st',vc)) (hv:All vc):∃ ε',SatE b st' ε' a w:=by
 unfold regSt at h
 split at h
 ·rename_i o hr
  split at h
  ·rename_i hsc
   simp only [je] at hsc
   obtain ⟨vc',hm,he⟩:=map_nil h
   cases he
   have hε:ε.length≤1000000:=by rw [hs.regs.len];exact ju hsc.2
   have hrr:=Q6 hr
   have hrl:r<st.rg.length:=(List.getElem?_eq_some_iff.1 hrr).1
   have old:∀ (j:Nat) (s:Reg),(st.rg.set r new)[j]?=some s→∃ o:Reg,st.rg[j]?=some o∧(s.live=true→o.live=true)∧(s.excl=true→o.excl=true):=fun j s hj=>by
    by_cases hjr:j=r
    ·subst hjr
     rw [jE hrl] at hj
     cases hj
     exact ⟨_,hrr,(Qv hm).2,(Qv hm).1⟩
    ·rw [jC (Ne.symm hjr)] at hj
     exact ⟨s,hj,id,id⟩
   refine ⟨ε,hs.defs,hs.size,hs.fr,⟨by simp [hs.regs.len],fun j s hj=>?_,fun j s hj hl bb hb=>?_,fun j s hj he bb hb=>?_,fun i j ri rj hij hi hj he hl bb hb1 hb2=>?_⟩,hs.below,hs.pre⟩
   ·by_cases hjr:j=r
    ·subst hjr
     rw [jE hrl] at hj
     cases hj
     exact Q1a hε (fun _ _=>rfl) hsc.1 hm (fun p hp=>hv _ (List.mem_map_of_mem hp)) (fun hl bb hb=>(hs.regs.lt j _ hrr hl bb hb).1) (hs.regs.reg j _ hrr)
    ·rw [jC (Ne.symm hjr)] at hj
     exact hs.regs.reg j s hj
   ·obtain ⟨o,h1,h2,h3⟩:=old j s hj
    exact hs.regs.lt j o h1 (h2 hl) bb hb
   ·obtain ⟨o,h1,h2,h3⟩:=old j s hj
    exact hs.regs.lim j o h1 (h3 he) bb hb
   ·obtain ⟨o,h1,h2,h3⟩:=old i ri hi
    obtain ⟨o',h1',h2',h3'⟩:=old j rj hj
    exact hs.regs.sep i j o o' hij h1 h1' (h3 he) (h2' hl) bb hb1 hb2
  ·cases h
 ·cases h
def sub:Code→List Nat→Code
 | c,[]=>c
 | .seq a b,n::p=>match n with
   | 0=>sub a p
   | _=>sub b p
 | .cond _ a b,n::p=>match n with
   | 0=>sub a p
   | _=>sub b p
 | .block _ b,_::p=>sub b p
 | .loop b,_::p=>sub b p
 | .rangeFunc _ _ a b,n::p=>match n with
   | 0=>sub a p
   | _=>sub b p
 | .scope b,_::p=>sub b p
 | _,_=>.skip
def prune (keep:List Nat) (st:St):St:={ st with fr:=st.fr.filter fun e=>hasN e.slot keep }
def Cfg.pr (c:Cfg) (keep:List Nat):Cfg:=⟨c.k,prune keep c.st⟩
section
variable {P:Program} [hw:Wide P] {fn:Func} {n0:Nat} {S:SV→List Reg→Prop} {U:Tgt} {c:Cfg} {vc:List Prop}
def Cfg.with_ (c:Cfg) (x:Option (St×List Prop)):Cfg:=⟨c.k,match x with | some y=>y.1 | none=>noCfg.st⟩
theorem RunF.focus (r k:Nat) {vc:List Prop} (h:(focSt c.st r k).map (·.2)=some vc) (hv:Conj vc) (next:RunF P fn n0 U (c.with_ (focSt c.st r k))):RunF P fn n0 U c:=by
 intro b hb a w ⟨ε,hs⟩
 cases hf:focSt c.st r k with
 | none=>rw [hf] at h;cases h
 | some y =>
   obtain ⟨st',vc'⟩:=y
   rw [hf] at h next
   simp only [jM,Option.some.injEq] at h
   subst h
   obtain ⟨ε',hs'⟩:=Qfo hs hf hv.toAll
   exact next b hb a w ⟨ε',hs'⟩
theorem RunF.fold (r:Nat) (g:Nat→TC) {vc:List Prop} (h:(foldSt c.st r g).map (·.2)=some vc) (hv:Conj vc) (next:RunF P fn n0 U (c.with_ (foldSt c.st r g))):RunF P fn n0 U c:=by
 intro b hb a w ⟨ε,hs⟩
 cases hf:foldSt c.st r g with
 | none=>rw [hf] at h;cases h
 | some y =>
   obtain ⟨st',vc'⟩:=y
   rw [hf] at h next
   simp only [jM,Option.some.injEq] at h
   subst h
   obtain ⟨ε',hs',_⟩:=Q69 hs hf hv.toAll
   exact next b hb a w ⟨ε',hs'⟩
theorem RunF.nils (r:Nat) (f':Nat→Nat→TC) {vc:List Prop} (h:(nilsSt c.st r f').map (·.2)=some vc) (hv:Conj vc) (next:RunF P fn n0 U (c.with_ (nilsSt c.st r f'))):RunF P fn n0 U c:=by
 intro b hb a w ⟨ε,hs⟩
 cases hf:nilsSt c.st r f' with
 | none=>rw [hf] at h;cases h
 | some y =>
   obtain ⟨st',vc'⟩:=y
   rw [hf] at h next
   simp only [jM,Option.some.injEq] at h
   subst h
   obtain ⟨ε',hs'⟩:=Qed hs hf hv.toAll
   exact next b hb a w ⟨ε',hs'⟩
theorem RunF.reg (r:Nat) (f':Reg) {vc:List Prop} (h:(regSt c.st r f').map (·.2)=some vc) (hv:Conj vc) (next:RunF P fn n0 U (c.with_ (regSt c.st r f'))):RunF P fn n0 U c:=by
 intro b hb a w ⟨ε,hs⟩
 cases hf:regSt c.st r f' with
 | none=>rw [hf] at h;cases h
 | some y =>
   obtain ⟨st',vc'⟩:=y
   rw [hf] at h next
   simp only [jM,Option.some.injEq] at h
   subst h
   obtain ⟨ε',hs'⟩:=Qfp hs hf hv.toAll
   exact next b hb a w ⟨ε',hs'⟩
def lenAt (st:St) (r:Nat):Option Nat:=match nth st.rg r with
 | some (.row _ n _ _)=>some n
 | some (.own _ _ n _ _)=>some n
 | _=>none
theorem RunF.lens (r:Nat) {m:Nat} (h:lenAt c.st r=some m) (next:(m:Int)≤9223372036854775807→RunF P fn n0 U c):RunF P fn n0 U c:=by
 intro b hb a w ⟨ε,hs⟩
 unfold lenAt at h
 have hm:m≤maxLen:=by
  split at h
  ·rename_i size n f foc hr
   cases h
   obtain ⟨⟨A,cc,_,h1,h2,_⟩,_⟩:=hs.regs.reg r _ (Q6 hr)
   exact kj h1 h2
  ·rename_i ty size n f foc hr
   cases h
   obtain ⟨⟨els,h1,_⟩,_⟩:=hs.regs.reg r _ (Q6 hr)
   rcases h1.2 with ⟨_,h0⟩ | ⟨g,cap,cur,_,_,_,h2,h3,_⟩
   ·omega
   ·exact kj h2 h3
  ·cases h
 have hml:maxLen=9223372036854775807:=by simp [maxLen]
 exact next W31 b hb a w ⟨ε,hs⟩
end
attribute [irreducible] see RunF Cfg.thn Cfg.els Cfg.at Cfg.round Cfg.after Cfg.ret Cfg.pick Cfg.rest callEnt retEnt ent entry Cfg.gafter Cfg.gret Cfg.gx Cfg.gthn Cfg.with_ Cfg.drawn focSt foldSt nilsSt regSt lenAt Cfg.pr
universe u
section
variable {α:Sort u}
def fN:Nat→(Nat→α)→α
 | 0,k=>k 0
 | n+1,k=>k (n+1)
def fB:Bool→(Bool→α)→α
 | true,k=>k true
 | false,k=>k false
def fL {β:Type} (f:β→(β→α)→α):List β→(List β→α)→α
 | [],k=>k []
 | x::r,k=>f x fun x=>fL f r fun r=>k (x::r)
def fC:C→(C→α)→α
 | .i k n,q=>q (.i k n)
 | .b x,q=>q (.b x)
 | .t x,q=>fB x fun x=>q (.t x)
 | .v x,q=>q (.v x)
 | .p r o,q=>fN r fun r=>fN o fun o=>q (.p r o)
 | .h r,q=>fN r fun r=>q (.h r)
 | .e r sz ix o,q=>fN r fun r=>fN sz fun sz=>fN o fun o=>q (.e r sz ix o)
 | .fn f bd cs,q=>fN f fun f=>fB bd fun bd=>fL fN cs fun cs=>q (.fn f bd cs)
 | .ar r sz0 ix0 off sz len ix off2,q=>fN r fun r=>fN sz0 fun sz0=>fN off fun off=>fN sz fun sz=>fN len fun len=>fN off2 fun off2=>q (.ar r sz0 ix0 off sz len ix off2)
 | .hs r lo n,q=>fN r fun r=>q (.hs r lo n)
def fT:Bool×List C→(Bool×List C→α)→α
 | (b,cs),q=>fB b fun b=>fL fC cs fun cs=>q (b,cs)
def fV:SV→(SV→α)→α
 | .c x,q=>fC x fun x=>q (.c x)
 | .agg cs,q=>fL fC cs fun cs=>q (.agg cs)
 | .tup vs,q=>fL fT vs fun vs=>q (.tup vs)
 | .u,q=>q .u
def fG:Nat×Bool→(Nat×Bool→α)→α
 | (n,b),q=>fN n fun n=>fB b fun b=>q (n,b)
def fE:En→(En→α)→α
 | ⟨s,g,v⟩,q=>fN s fun s=>fL fG g fun g=>fV v fun v=>q ⟨s,g,v⟩
def fF:Option (Nat×List C)→(Option (Nat×List C)→α)→α
 | none,q=>q none
 | some (k,cs),q=>fL fC cs fun cs=>q (some (k,cs))
def fEnt {K:List CK}:KA K×C→(KA K×C→α)→α
 | (a,c),q=>fC c fun c=>q (a,c)
def fR:Reg→(Reg→α)→α
 | .box ty cs,q=>fN ty fun ty=>fL fC cs fun cs=>q (.box ty cs)
 | .own ty sz n f foc,q=>fN ty fun ty=>fN sz fun sz=>fF foc fun foc=>q (.own ty sz n f foc)
 | .row sz n f foc,q=>fN sz fun sz=>fF foc fun foc=>q (.row sz n f foc)
 | .ro cs,q=>fL fC cs fun cs=>q (.ro cs)
 | .dead,q=>q .dead
 | .one,q=>q .one
 | .froz X,q=>q (.froz X)
 | .ext X k a,q=>q (.ext X k a)
 | .mp T n has f it,q=>q (.mp T n has f it)
 | .itr r,q=>q (.itr r)
 | .full sz n f,q=>fN sz fun sz=>q (.full sz n f)
 | .mpv T z n ents,q=>fL fEnt ents fun ents=>q (.mpv T z n ents)
 | .mpr T ty sz n f o,q=>fN sz fun sz=>q (.mpr T ty sz n f o)
def fS:St→(St→α)→α
 | ⟨N,fr,rg,wr⟩,q=>fN N fun N=>fL fE fr fun fr=>fL fR rg fun rg=>fL fN wr fun wr=>q ⟨N,fr,rg,wr⟩
def fK:K→(K→α)→α
 | .code c,q=>q (.code c)
 | .blk id,q=>fN id fun id=>q (.blk id)
 | .ops all todo,q=>q (.ops all todo)
 | .jmp J,q=>q (.jmp J)
 | .mix all listed n,q=>fL fB listed fun listed=>fN n fun n=>q (.mix all listed n)
 | .mixAt all listed n i,q=>fL fB listed fun listed=>fN n fun n=>fN i fun i=>q (.mixAt all listed n i)
 | .rnd body n,q=>q (.rnd body n)
def fZ:Cfg→(Cfg→α)→α
 | ⟨k,st⟩,q=>fL fK k fun k=>fS st fun st=>q ⟨k,st⟩
theorem Q0h (n:Nat) (q:Nat→α):fN n q=q n:=by cases n<;>rfl
theorem Q9l (n:Bool) (q:Bool→α):fB n q=q n:=by cases n<;>rfl
theorem Zc {β:Type} {f:β→(β→α)→α} (hf:∀ x q,f x q=q x):∀ (l:List β) (q:List β→α),fL f l q=q l
 | [],q=>rfl
 | x::r,q=>by simp only [fL];rw [hf,Zc hf r]
theorem Q44 (x:C) (q:C→α):fC x q=q x:=by cases x<;>simp only [fC,Q0h,Q9l,Zc Q0h]
theorem Qoz (x:Bool×List C) (q:Bool×List C→α):fT x q=q x:=by cases x;simp only [fT,Q9l,Zc Q44]
theorem Qp0 (x:SV) (q:SV→α):fV x q=q x:=by cases x<;>simp only [fV,Q44,Zc Q44,Zc Qoz]
theorem Qp1 (x:Nat×Bool) (q:Nat×Bool→α):fG x q=q x:=by cases x;simp only [fG,Q0h,Q9l]
theorem Qp2 (x:En) (q:En→α):fE x q=q x:=by cases x;simp only [fE,Q0h,Qp0,Zc Qp1]
theorem Qp3 (x:Option (Nat×List C)) (q:Option (Nat×List C)→α):fF x q=q x:=by
 cases x with
 | none=>rfl
 | some y=>cases y;simp only [fF,Zc Q44]
theorem Qkj {K:List CK} (x:KA K×C) (q:KA K×C→α):fEnt x q=q x:=by cases x;simp only [fEnt,Q44]
theorem Qp4 (x:Reg) (q:Reg→α):fR x q=q x:=by cases x<;>simp only [fR,Q0h,Qp3,Zc Q44,Zc Qkj]
theorem Qk1 (x:St) (q:St→α):fS x q=q x:=by cases x;simp only [fS,Q0h,Zc Qp2,Zc Qp4,Zc Q0h]
theorem Qp5 (x:K) (q:K→α):fK x q=q x:=by cases x<;>simp only [fK,Q0h,Zc Q9l]
theorem Qp6 (x:Cfg) (q:Cfg→α):fZ x q=q x:=by cases x;simp only [fZ,Qk1,Zc Qp5]
end
def Cfg.fz (c:Cfg) (keep:List Nat):Cfg:=fZ (c.pr keep) fun c=>c
section
variable {P:Program} {fn:Func} {n0:Nat} {U:Tgt} {c:Cfg}
theorem RunF.fz (keep:List Nat) (next:RunF P fn n0 U (c.fz keep)):RunF P fn n0 U c:=by
 unfold Cfg.fz at next
 rw [Qp6] at next
 unfold RunF at next ⊢
 unfold Cfg.pr at next
 intro b hb a w ⟨ε,hs⟩
 exact next b hb a w ⟨ε,hs.defs,hs.size,fun e he=>hs.fr e (List.mem_filter.1 he).1,hs.regs,hs.below,hs.pre⟩
end
attribute [irreducible] Cfg.fz
section
variable {P:Program} [hw:Wide P] {fn:Func} {n0:Nat} {U:Tgt} {c:Cfg} {vc:List Prop}
theorem RegsOk.step1 {bc:Base} {ε:Env} {w w':World} {rg:List Reg} {r:Nat} {p new:Reg} {x:Ent} (hs:RegsOk ε bc.M bc.L w rg) (hB:bc.w.heap.size≤w.heap.size) (hr:rg[r]?=some p) (hp:p.excl=true) (hpl:p.live=true)
 (hx:x.h=ε.at_ r) (hnew:RegOk (ε.set r x) bc.M w' x new) (hfp:∀ b,x.fp b→(ε.fp r b∨w.heap.size≤b)∧b<w'.heap.size) (hfr:Fr (ε.fp r) w w') (hnl:new.excl=true) (hsc:rg.all (Reg.scp rg.length)=true) :
 RegsOk (ε.set r x) bc.M bc.L w' (rg.set r new):=by
 have hrl:r<rg.length:=(List.getElem?_eq_some_iff.1 hr).1
 have hεl:r<ε.length:=by rw [hs.len];exact hrl
 have entR:Env.ent (ε.set r x) r=x:=by
  unfold Env.ent;rw [jb,jE hεl];rfl
 have entO:∀ j,j≠r→Env.ent (ε.set r x) j=ε.ent j:=fun j hj=>by
  unfold Env.ent;rw [jb,jb,jC (Ne.symm hj)]
 have atAll:∀ j,Env.at_ (ε.set r x) j=ε.at_ j:=fun j=>by
  by_cases hj:j=r
  ·subst hj;unfold Env.at_ at *;rw [entR];exact hx
  ·unfold Env.at_;rw [entO j hj]
 have old:∀ (j:Nat) (s:Reg),(rg.set r new)[j]?=some s→(j=r∧s=new)∨(j≠r∧rg[j]?=some s):=fun j s hj=>by
  by_cases hjr:j=r
  ·subst hjr
   rw [jE hrl] at hj
   cases hj
   exact .inl ⟨rfl,rfl⟩
  ·rw [jC (Ne.symm hjr)] at hj
   exact .inr ⟨hjr,hj⟩
 have keep:∀ (j:Nat) (s:Reg),j≠r→rg[j]?=some s→s.live=true→∀ b,ε.fp j b→¬ ε.fp r b:=fun j s hj hjs hl b hb hb'=>hs.sep r j p s (Ne.symm hj) hr hjs hp hl b hb' hb
 refine ⟨by simp [hs.len],fun j s hj=>?_,fun j s hj hl b hb=>?_,fun j s hj he b hb=>?_,fun i j ri rj hij hi hj he hl b hb1 hb2=>?_⟩
 ·rcases old j s hj with ⟨rfl,rfl⟩ | ⟨hjr,hj'⟩
  ·rw [entR];exact hnew
  ·rw [entO j hjr]
   refine RegOk.same (n:=rg.length) (RegOk.world (hs.reg j s hj') hfr.size (fun b hb hl hlt=>hfr.block b hlt (keep j s hjr hj' hl b hb))) (List.all_eq_true.1 hsc s (jq hj')) (fun q _=>atAll q)
 ·rcases old j s hj with ⟨rfl,rfl⟩ | ⟨hjr,hj'⟩
  ·unfold Env.fp at hb
   rw [entR] at hb
   obtain ⟨h1,h2⟩:=hfp b hb
   refine ⟨h2,?_⟩
   rcases h1 with h1 | h1
   ·exact (hs.lt _ p hr hpl b h1).2
   ·exact .inl (kj hB h1)
  ·unfold Env.fp at hb
   rw [entO j hjr] at hb
   obtain ⟨h1,h2⟩:=hs.lt j s hj' hl b hb
   exact ⟨jP h1 hfr.size,h2⟩
 ·rcases old j s hj with ⟨rfl,rfl⟩ | ⟨hjr,hj'⟩
  ·unfold Env.fp at hb
   rw [entR] at hb
   rcases (hfp b hb).1 with h1 | h1
   ·exact hs.lim _ p hr hp b h1
   ·exact .inl (kj hB h1)
  ·unfold Env.fp at hb
   rw [entO j hjr] at hb
   exact hs.lim j s hj' he b hb
 ·unfold Env.fp at hb1 hb2
  rcases old i ri hi with ⟨rfl,rfl⟩ | ⟨hir,hi'⟩
  ·rcases old j rj hj with ⟨rfl,rfl⟩ | ⟨hjr,hj'⟩
   ·exact hij rfl
   ·rw [entR] at hb1
    rw [entO j hjr] at hb2
    rcases (hfp b hb1).1 with h1 | h1
    ·exact keep j rj hjr hj' hl b hb2 h1
    ·exact absurd (hs.lt j rj hj' hl b hb2).1 W31
  ·rcases old j rj hj with ⟨rfl,rfl⟩ | ⟨hjr,hj'⟩
   ·rw [entO i hir] at hb1
    rw [entR] at hb2
    rcases (hfp b hb2).1 with h1 | h1
    ·exact hs.sep i _ ri p hir hi' hr he hpl b hb1 h1
    ·have hlive:ri.live=true:=by cases ri<;>first | rfl | cases he
     exact absurd (hs.lt i ri hi' hlive b hb1).1 W31
   ·rw [entO i hir] at hb1
    rw [entO j hjr] at hb2
    exact hs.sep i j ri rj hij hi' hj' he hl b hb1 hb2
theorem Env.set_same {ε:Env} {r:Nat} {x:Ent} (hr:r<ε.length) (hx:x.h=ε.at_ r):(∀ j,Env.at_ (ε.set r x) j=ε.at_ j)∧Env.hs (ε.set r x)=ε.hs:=by
 constructor
 ·intro j
  by_cases hj:j=r
  ·subst hj
   rw [← hx]
   unfold Env.at_ Env.ent;rw [jb,jE hr];rfl
  ·unfold Env.at_ Env.ent;rw [jb,jb,jC (Ne.symm hj)]
 ·unfold Env.hs
  apply kG
  intro i
  rw [jk,jk]
  by_cases hi:i=r
  ·subst hi
   rw [jE hr,jc hr]
   simp only [jM,hx]
   unfold Env.at_ Env.ent
   rw [jb,jc hr]
   rfl
  ·rw [jC (Ne.symm hi)]
end
section
variable {P:Program} [hw:Wide P] {fn:Func} {n0:Nat} {U:Tgt} {c:Cfg} {vc:List Prop}
end
section
variable {P:Program}
end
def K.isJmp:K→Bool
 | .jmp _=>true
 | _=>false
def Cfg.rgF (P:Program) (c:Cfg) (st:St):Option (Nat×List Nat):=match (seg P 5000 c.k c.st).2 with
 | .range f [p] _ _ k _=>match k.any K.isJmp,kD p st.N,opndC st [] f with
   | false,true,some (.fn fi false caps)=>some (fi,caps)
   | _,_,_=>none
 | _=>none
section
variable {P:Program} [hw:Wide P] {fn:Func} {n0:Nat} {c:Cfg} {vc:List Prop}
end
def openK:Nat→List K→List K
 | n+1,.code (.seq a b)::k=>openK n (.code a::.code b::k)
 | n+1,.code .skip::k=>openK n k
 | n+1,.code (.block id c)::k=>openK n (.code c::.blk id::k)
 | _,k=>k
theorem Zs {P:Program} {b:Base} {Q:Exit→Act→World→Prop} {a:Act} {w:World}:∀ (n:Nat) (k:List K),contQ P b Q (openK n k) .normal a w→contQ P b Q k .normal a w
 | 0,k,h=>by simpa [openK] using h
 | n+1,k,h=>by
   unfold openK at h
   split at h
   ·rename_i heq
    cases heq
    exact wpIn_seq (Zs _ _ h)
   ·rename_i heq
    cases heq
    exact wpIn_skip (Zs _ _ h)
   ·rename_i heq
    cases heq
    exact wpIn_block (Zs _ _ h)
   ·exact h
theorem RunF.cut {P:Program} [hw:Wide P] {fn:Func} {n0:Nat} {U:Tgt} {c:Cfg} {X:Type} (I:X→St) (J:X→Prop) (h1:RunF P fn n0 U ⟨insJ (AtSt I J) (openK 50 c.k),c.st⟩) (h2:∀ x,J x→RunF P fn n0 U ⟨restK (openK 50 c.k),I x⟩):RunF P fn n0 U c:=by
 unfold RunF at *
 intro b hb a w hs
 exact Zs 50 _ (Q68 _ (fun a w ⟨x,hx,hs⟩=>h2 x hx b hb a w hs) (h1 b hb a w hs))
def flatK:Nat→List K→List K
 | n+1,.code (.seq a b)::k=>flatK n (.code a::.code b::k)
 | n+1,x::k=>x::flatK n k
 | _,k=>k
theorem J0 {P:Program} [hw:Wide P] {b:Base} {Q:Exit→Act→World→Prop}:∀ (n:Nat) (k:List K) (e:Exit) (a:Act) (w:World),contQ P b Q (flatK n k) e a w→contQ P b Q k e a w
 | 0,k,e,a,w,h=>by simpa [flatK] using h
 | n+1,k,e,a,w,h=>by
   unfold flatK at h
   split at h
   ·rename_i heq
    cases heq
    have h1:=J0 _ _ e a w h
    cases e with
    | normal=>exact wpIn_seq h1
    | _=>exact h1
   ·rename_i heq
    cases heq
    exact Q23 (fun e a w hq=>J0 _ _ e a w hq) _ e a w h
   ·exact h
def cutK (J:Base→Act→World→Prop):Nat→List K→List K
 | 0,k=>.jmp J::k
 | m+1,x::k=>x::cutK J m k
 | _+1,[]=>[.jmp J]
theorem Q24 {P:Program} [hw:Wide P] {b:Base} {Q:Exit→Act→World→Prop} {J:Base→Act→World→Prop}:∀ (m:Nat) (k:List K),(∀ a w,J b a w→contQ P b Q (k.drop m) .normal a w)→∀ e a w,contQ P b Q (cutK J m k) e a w→contQ P b Q k e a w
 | 0,k,h,e,a,w,hq=>by
   unfold cutK at hq
   cases e with
   | normal=>exact h a w hq
   | _=>exact hq
 | m+1,[],h,e,a,w,hq=>by
   unfold cutK at hq
   cases e with
   | normal=>exact h a w hq
   | _=>exact hq
 | m+1,x::k,h,e,a,w,hq=>by
   unfold cutK at hq
   exact Q23 (fun e a w hq=>Q24 m k h e a w hq) _ e a w hq
theorem RunF.cutm {P:Program} [hw:Wide P] {fn:Func} {n0:Nat} {U:Tgt} {c:Cfg} {X:Type} (m:Nat) (I:X→St) (J:X→Prop) (h1:RunF P fn n0 U ⟨cutK (AtSt I J) m (flatK 200 c.k),c.st⟩) (h2:∀ x,J x→RunF P fn n0 U ⟨(flatK 200 c.k).drop m,I x⟩):RunF P fn n0 U c:=by
 unfold RunF at *
 intro b hb a w hs
 exact J0 200 _ _ _ _ (Q24 m _ (fun a w ⟨x,hx,hs⟩=>h2 x hx b hb a w hs) _ _ _ (h1 b hb a w hs))
attribute [irreducible] Cfg.rgF
end Go.Tx
