/-
  Every Order and Follow of the program is the reference's. Text 4 of 8: TxS TxT TxY TxX Ent EntB Data DataU Spec SpecW SpecN SpecNm TxZ SpecV SpecTb SpecHd SpecCk SpecSm.
-/
import Derived.Test.YtmaodngbpfjnnaaGreatP3
import Derived.Laws.Cover3
import Derived.Test.YtmaodngbpfjnnaaGreatRows
set_option linter.unusedSimpArgs false
set_option linter.unusedVariables false
set_option linter.unusedSectionVars false
namespace Go.Tx
open Go Go.RowKit
theorem RegsOk.world2 {ε:Env} {M L:Nat→Prop} {w w':World} {rg:List Reg} (hs:RegsOk ε M L w rg) (hsz:w.heap.size≤w'.heap.size)
 (hb:∀ (i:Nat) (r:Reg),rg[i]?=some r→r.live=true→∀ b,ε.fp i b→b<w.heap.size→w'.heap[b]?=w.heap[b]?):RegsOk ε M L w' rg:=
 ⟨hs.len,fun i r hi=>RegOk.world (hs.reg i r hi) hsz (fun b h1 h2 h3=>hb i r hi h2 b h1 h3),fun i r hi hl b hb'=>⟨Nat.lt_of_lt_of_le (hs.lt i r hi hl b hb').1 hsz,(hs.lt i r hi hl b hb').2⟩,hs.lim,hs.sep⟩
theorem RegsOk.narrow {ε:Env} {M L M' L':Nat→Prop} {w:World} {rg:List Reg} (hs:RegsOk ε M L w rg) (hM:∀ (i:Nat) (r:Reg),rg[i]?=some r→r.excl=true→∀ b,ε.fp i b→M' b)
 (hL:∀ (i:Nat) (r:Reg),rg[i]?=some r→r.live=true→∀ b,ε.fp i b→L' b):RegsOk ε M' L' w rg:=
 ⟨hs.len,fun i r hi=>RegOk.reM (fun he b hb=>hM i r hi he b hb) (hs.reg i r hi),fun i r hi hl b hb=>⟨(hs.lt i r hi hl b hb).1,hL i r hi hl b hb⟩,fun i r hi he b hb=>hM i r hi he b hb,hs.sep⟩
def exclFp (rg:List Reg) (ε:Env) (b:Nat):Prop:=∃ (i:Nat) (r:Reg),rg[i]?=some r∧r.excl=true∧ε.fp i b
def liveFp (rg:List Reg) (ε:Env) (b:Nat):Prop:=∃ (i:Nat) (r:Reg),rg[i]?=some r∧r.live=true∧ε.fp i b
theorem Q6b {rg:List Reg} {ε:Env} {b:Nat} (h:exclFp rg ε b):liveFp rg ε b:=let ⟨i,r,h1,h2,h3⟩:=h;⟨i,r,h1,Qv h2,h3⟩
theorem RegsOk.M_of {ε:Env} {M L:Nat→Prop} {w:World} {rg:List Reg} (hs:RegsOk ε M L w rg) {b:Nat} (h:exclFp rg ε b):M b:=let ⟨i,r,h1,h2,h3⟩:=h;hs.lim i r h1 h2 b h3
theorem RegsOk.L_of {ε:Env} {M L:Nat→Prop} {w:World} {rg:List Reg} (hs:RegsOk ε M L w rg) {b:Nat} (h:liveFp rg ε b):b<w.heap.size∧L b:=let ⟨i,r,h1,h2,h3⟩:=h;hs.lt i r h1 h2 b h3
def RegsAt {X:Type} (I:X→List Reg) (J:X→Prop):Base→World→Prop:=fun b w=>∃ (x:X) (ε:Env),J x∧b.e <+: ε.hs∧RegsOk ε b.M b.L w (I x)∧Fr b.m b.w w
def Tround {X:Type} (I:X→List Reg) (J:X→Prop) (Jx:Code→X→Prop):Tgt:=fun b e a w=>match e with
 | .normal=>RegsAt I J b w
 | .ret=>RegsAt I (Jx .ret) b w
 | .exit id=>RegsAt I (Jx (.exit id)) b w
 | _=>False
def endEnt (n0:Nat) (π:List Nat) (st:St) (rg:List Reg):Option (List F):=
 if okIx π rg&&idOn π n0&&Nat.ble n0 st.rg.length&&Nat.ble st.rg.length 1000000&&rg.all (Reg.scp rg.length) then regsMatch (at' π) st.rg π rg else none
theorem Qbv {X:Type} {I:X→List Reg} {J:X→Prop} {b:Base} {n0:Nat} (hb:b.e.length=n0) {π:List Nat} {st:St} {x:X} {E:List F} (h:endEnt n0 π st (I x)=some E) (hE:AllF E) (hJ:J x) {a:Act} {w:World} (hs:Sat b st a w):RegsAt I J b w:=by
 obtain ⟨ε,hs⟩:=hs
 unfold endEnt at h
 split at h
 ·rename_i hc
  simp only [Bool.and_eq_true] at hc
  obtain ⟨⟨⟨⟨c1,c2⟩,c3⟩,c4⟩,c5⟩:=hc
  have hε:ε.length≤1000000:=by rw [hs.regs.len];exact Nat.le_of_ble_eq_true c4
  exact ⟨x,π.map ε.ent,hJ,Q80 hb hs.pre (Q0c c2),hs.regs.renum hε c5 c1 h hE,hs.below⟩
 ·cases h
section
variable {P:Program} [hw:Wide P] {fn:Func} {n0:Nat} {U:Tgt} {c:Cfg} {vc:List Prop}
theorem RunF.endRound {X:Type} {I:X→List Reg} {J:X→Prop} {Jx:Code→X→Prop} (x:X) (π:List Nat) {E:List F} (h:see P fn c=(vc,.jump (fun b _ w=>RegsAt I J b w))) (hv:Conj vc)
 (he:endEnt n0 π (c.at P) (I x)=some E) (hE:AllF E) (hJ:J x):RunF P fn n0 (Tround I J Jx) c:=by
 unfold RunF
 intro b hb
 unfold see at h
 unfold Cfg.at at he
 generalize hg:seg P 5000 c.k c.st=rr at h he
 obtain ⟨vc',out⟩:=rr
 cases out<;>simp only [Prod.mk.injEq,reduceCtorEq,and_false] at h
 case jump J' st =>
  simp only [View.jump.injEq] at h
  obtain ⟨rfl,rfl⟩:=h
  exact Qn hw.mixed 5000 _ _ _ _ hg hv.toAll (fun a w hs=>Qbv hb he hE hJ hs)
 all_goals first | (unfold callV at h;split at h<;>simp at h;done) | (split at h<;>simp at h)
end
structure Rng where
 fn:FuncId
 tmps:Array Value
 p:Tmp
 assign:Code
 body:Code
 D:Nat
 W1:World
 hs0:List Value
 bM:Nat→Prop
 bL:Nat→Prop
 ro:Nat→Prop
def Rng.lp (g:Rng) (st:LoopState) (pe:Option Code):Loop:={ state:=st,pending:=pe,fn:=g.fn,tmps:=g.tmps,params:=#[g.p],assign:=g.assign,body:=g.body,defers:=g.D }
def Rng.fpOf (g:Rng) (rg:List Reg) (ε:Env) (b:Nat):Prop:=b=g.D∨b=g.D+1∨(liveFp rg ε b∧¬ g.ro b)
structure Rng.At (g:Rng) (rg:List Reg) (ε:Env) (st:LoopState) (pe:Option Code) (w:World):Prop where
 hs:g.hs0 <+: ε.hs
 regs:RegsOk ε g.bM g.bL w rg
 excl:∀ b,exclFp rg ε b→¬ g.ro b
 loop:w.heap[g.D+1]?=some (.loop (g.lp st pe))
 mrk:w.heap[g.D]?=some (.deferred (some []))
 off:∀ b,liveFp rg ε b→b≠g.D∧b≠g.D+1
 same:∀ b,g.ro b→w.heap[b]?=g.W1.heap[b]?
 size:g.W1.heap.size≤w.heap.size
 old:∀ b,g.ro b→b<g.D
def Rng.G (g:Rng) {X:Type} (I:X→List Reg) (J:Nat→X→Prop) (Jx:Code→X→Prop) (k:Nat) (al:Bool) (fp:Nat→Prop) (w:World):Prop:=
 ∃ (x:X) (ε:Env),(∀ b,fp b↔g.fpOf (I x) ε b) ∧
  ((al=true∧J k x∧g.At (I x) ε .ready none w)∨(al=false∧∃ c,Jx c x∧g.At (I x) ε .done (some c) w))
theorem Rng.At.move {g:Rng} {rg:List Reg} {ε:Env} {st:LoopState} {pe:Option Code} {w1 w:World} (h:g.At rg ε st pe w1) (hsz:w1.heap.size≤w.heap.size)
 (hb:∀ b,g.fpOf rg ε b→w.heap[b]?=w1.heap[b]?) (hro:∀ b,g.ro b→w.heap[b]?=g.W1.heap[b]?):g.At rg ε st pe w:=by
 refine ⟨h.hs,h.regs.world2 hsz (fun i r hi hl b hf _=>?_),h.excl,?_,?_,h.off,hro,Nat.le_trans h.size hsz,h.old⟩
 ·by_cases hr:g.ro b
  ·rw [hro b hr,h.same b hr]
  ·exact hb b (.inr (.inr ⟨⟨i,r,hi,hl,hf⟩,hr⟩))
 ·rw [hb _ (.inr (.inl rfl))];exact h.loop
 ·rw [hb _ (.inl rfl)];exact h.mrk
theorem Rng.G.move {g:Rng} {X:Type} {I:X→List Reg} {J:Nat→X→Prop} {Jx:Code→X→Prop} {k:Nat} {al:Bool} {fp:Nat→Prop} {w1 w:World} (h:g.G I J Jx k al fp w1) (hsz:w1.heap.size≤w.heap.size)
 (hb:∀ b,fp b→b<w.heap.size∧w.heap[b]?=w1.heap[b]?) (hro:∀ b,g.ro b→w.heap[b]?=g.W1.heap[b]?):g.G I J Jx k al fp w:=by
 obtain ⟨x,ε,hf,h⟩:=h
 refine ⟨x,ε,hf,?_⟩
 have hb':∀ b,g.fpOf (I x) ε b→w.heap[b]?=w1.heap[b]?:=fun b h=>(hb b ((hf b).2 h)).2
 rcases h with ⟨h1,h2,h3⟩ | ⟨h1,c,h2,h3⟩
 ·exact .inl ⟨h1,h2,h3.move hsz hb' hro⟩
 ·exact .inr ⟨h1,c,h2,h3.move hsz hb' hro⟩
theorem Rng.At.put {g:Rng} {rg:List Reg} {ε:Env} {w:World} {o:Obj} (hM:RegsOk ε g.bM g.bL w rg) (hoff:∀ b,liveFp rg ε b→b≠g.D∧b≠g.D+1):RegsOk ε g.bM g.bL (w.putObj (g.D+1) o) rg:=by
 refine hM.world2 W148 (fun i r hi hl b hf _=>?_)
 exact World.putObj_heap_other (hoff b ⟨i,r,hi,hl,hf⟩).2
def Rng.b0 (g:Rng) (rg:List Reg) (ε:Env) (w:World):Base:={ w:=w,e:=g.hs0,m:=exclFp rg ε,l:=liveFp rg ε,ro:=some (g.D+1),d:=[] }
theorem Q1x {l:List Value} {ε:Env} (h:l <+: ε.hs) {r:Nat} (hr:r<l.length):ε.at_ r=l.getD r (.slice none 0 0):=by
 obtain ⟨t,ht⟩:=h
 have h1:ε.hs[r]?=some l[r]:=by rw [← ht,List.getElem?_append_left hr,List.getElem?_eq_getElem hr]
 unfold Env.hs at h1
 rw [List.getElem?_map] at h1
 cases h2:ε[r]? with
 | none=>rw [h2] at h1;cases h1
 | some x =>
   rw [h2] at h1
   simp only [Option.map_some,Option.some.injEq] at h1
   unfold Env.at_
   rw [Jt h2,h1,List.getD_eq_getElem?_getD,List.getElem?_eq_getElem hr]
   rfl
def keepsFr (p N nf:Nat) (fr:List En):Bool:=fr.all fun e=>e.g.isEmpty&&!(Nat.beq e.slot p)&&Nat.blt e.slot N&&e.sv.scp nf
def roundSt (g:Rng) (N:Nat) (fr:List En) (v:SV) (rg:List Reg):St:={ N,fr:={ slot:=g.p,g:=[],sv:=v }::fr,rg,wr:=[1000000007] }
section
variable {P:Program}
theorem Qbw {m m':Nat→Prop} {w w1 w2:World} (h1:Fr m w w1) (h2:Fr m' w1 w2) (hm:∀ b,m' b→b<w.heap.size→m b):Fr m w w2:=
 h1.step h2.os h2.tape h2.output h2.size (fun k hk hn=>h2.block k (Nat.lt_of_lt_of_le hk h1.size) (fun h=>hn (hm k h hk)))
theorem Fr.put {m:Nat→Prop} {w:World} {r:Nat} (o:Obj) (hm:m r):Fr m w (w.putObj r o):=
 ⟨rfl,rfl,rfl,by simp,fun k _ hn=>World.putObj_heap_other (fun e=>hn (e▸hm))⟩
theorem Rng.round (g:Rng) {X:Type} {I:X→List Reg} {J:Nat→X→Prop} {Jx:Code→X→Prop} {fn:Func} {n N nf:Nat} {enc:Nat→SV} {fr0:List En} {stA:Nat→X→St}
 (hnf:g.hs0.length=nf) (hN:g.tmps.size=N) (hp:g.p<N) (hk0:keepsFr g.p N nf fr0=true) (hget:∀ e∈fr0,∀ ε:Env,g.hs0 <+: ε.hs→g.tmps.getD e.slot undef=e.sv.den ε)
 (hbM:∀ b,g.W1.heap.size≤b→g.bM b) (hbL:∀ b,g.W1.heap.size≤b→g.bL b) (henc:∀ k,(enc k).scp 0=true)
 (hassign:∀ k x,k<n→J k x→RunF P fn nf (fun _ _ _ _=>False) ⟨[.code g.assign,.jmp (AtSt (fun _:Unit=>stA k x) (fun _=>True))],roundSt g N fr0 (enc k) (I x)⟩)
 (hrd:∀ k x,(stA k x).rd=true)
 (hbody:∀ k x,k<n→J k x→RunF P fn nf (Tround I (J (k+1)) Jx) ⟨[.code g.body,.jmp (fun b _ w=>RegsAt I (J (k+1)) b w)],stA k x⟩)
 {k:Nat} {fp:Nat→Prop} {w:World} (hk:k<n) (hG:g.G I J Jx k true fp w) :
 YieldAt Fence.wide 0 P (g.D+1) #[(enc k).den []] w fun e w'=>∃ (al:Bool) (fp':Nat→Prop),e=.returned (.bool al)∧g.G I J Jx (k+1) al fp' w' ∧
  (∀ b,fp' b→(fp b∨w.heap.size≤b)∧b<w'.heap.size)∧Fr fp w w':=by
 obtain ⟨x,ε,hfp,⟨_,hJ,hA⟩ | ⟨h,_⟩⟩:=hG
 case inr=>cases h
 have hDlt:g.D+1<w.heap.size:=(Array.getElem?_eq_some_iff.1 hA.loop).1
 refine ⟨_,_,_,_,run_yield hA.loop rfl,roundIn_of_wpIn trivial ?_⟩
 let B1:Base:=g.b0 (I x) ε w
 have hM1:∀ b,B1.M b→w.heap.size≤b∨exclFp (I x) ε b:=fun b h=>h
 have hL1:∀ b,B1.L b→w.heap.size≤b∨liveFp (I x) ε b:=fun b h=>h
 have hsat1:SatE B1 (roundSt g N fr0 (enc k) (I x)) ε { tmps:=((#[g.p].zip #[(enc k).den []]).foldl (fun t (p,v)=>t.setIfInBounds p v) g.tmps),defers:=[] } w:=by
  have hz:((#[g.p].zip #[(enc k).den []]).foldl (fun (t:Array Value) (p,v)=>t.setIfInBounds p v) g.tmps)=g.tmps.setIfInBounds g.p ((enc k).den []):=by simp
  rw [hz]
  refine ⟨⟨rfl,fun h=>by cases h⟩,by simp [hN,roundSt],fun e he=>?_,hA.regs.narrow (fun i r h1 h2 b h3=>.inr ⟨i,r,h1,h2,h3⟩) (fun i r h1 h2 b h3=>.inr ⟨i,r,h1,h2,h3⟩),Fr.refl _ _,hA.hs⟩
  cases he with
  | head =>
    refine ⟨hp,fun _=>?_,fun hn=>absurd (gHolds_nil _) hn⟩
    unfold get
    simp only [Array.getD_eq_getD_getElem?]
    rw [Array.getElem?_setIfInBounds_self_of_lt (by rw [hN];exact hp)]
    exact Q08 (henc k) (fun r hr=>absurd hr W37)
  | tail _ he =>
    have h1:=List.all_eq_true.1 hk0 e he
    simp only [Bool.and_eq_true,Bool.not_eq_true'] at h1
    obtain ⟨⟨⟨h1,h2⟩,h3⟩,h4⟩:=h1
    have hg:e.g=[]:=by cases hh:e.g with
     | nil=>rfl
     | cons a l=>rw [hh] at h1;cases h1
    refine ⟨Nat.le_of_ble_eq_true h3,fun _=>?_,fun hn=>absurd (by rw [hg];exact gHolds_nil _) hn⟩
    unfold get
    simp only [Array.getD_eq_getD_getElem?]
    rw [Array.getElem?_setIfInBounds_ne (fun e'=>by rw [← e',Nat.beq_refl] at h2;cases h2)]
    have:=hget e he ε hA.hs
    rw [Array.getD_eq_getD_getElem?] at this
    exact this
 have hassign1:=hassign k x hk hJ
 unfold RunF at hassign1
 have hrun1:=hassign1 B1 hnf _ w ⟨ε,hsat1⟩
 have hbody1:=hbody k x hk hJ
 unfold RunF at hbody1
 refine wpIn_mono hrun1 (fun e a1 w1 hq=>?_)
 cases e with
 | normal =>
   obtain ⟨_,_,ε1,hs1⟩:=hq
   have hM1':∀ b,exclFp (stA k x).rg ε1 b→w.heap.size≤b∨exclFp (I x) ε b:=fun b h=>hs1.regs.M_of h
   have hL1':∀ b,liveFp (stA k x).rg ε1 b→w.heap.size≤b∨liveFp (I x) ε b:=fun b h=>(hs1.regs.L_of h).2
   have hfr1:Fr (exclFp (I x) ε) w w1:=hs1.below
   have hnx:∀ b,b=g.D∨b=g.D+1→¬ exclFp (I x) ε b:=fun b hb h=>by
    have:=hA.off b (Q6b h)
    rcases hb with hb | hb
    ·exact this.1 hb
    ·exact this.2 hb
   have hl1:w1.heap[g.D+1]?=some (.loop (g.lp .ready none)):=(hfr1.block _ hDlt (hnx _ (.inr rfl))).trans hA.loop
   have hd1:w1.heap[g.D]?=some (.deferred (some [])):=(hfr1.block _ W37 (hnx _ (.inl rfl))).trans hA.mrk
   refine ⟨_,run_beginRound hl1 rfl,?_⟩
   generalize hw2:w1.putObj (g.D+1) (.loop { g.lp .ready none with state:=.busy })=w2
   have hsz2:w2.heap.size=w1.heap.size:=by rw [← hw2];simp
   have hoff1:∀ b,liveFp (stA k x).rg ε1 b→b≠g.D∧b≠g.D+1:=fun b h=>by
    rcases hL1' b h with h | h
    ·omega
    ·exact hA.off b h
   have hregs2:RegsOk ε1 B1.M B1.L w2 (stA k x).rg:=by
    rw [← hw2]
    exact Rng.At.put (g:={ g with bM:=B1.M,bL:=B1.L }) hs1.regs hoff1
   let B2:Base:=g.b0 (stA k x).rg ε1 w2
   have hsat2:SatE B2 (stA k x) ε1 a1 w2:=
    ⟨⟨hs1.defs.1,fun h=>by rw [hrd] at h;cases h⟩,hs1.size,hs1.fr,hregs2.narrow (fun i r h1 h2 b h3=>.inr ⟨i,r,h1,h2,h3⟩) (fun i r h1 h2 b h3=>.inr ⟨i,r,h1,h2,h3⟩),Fr.refl _ _,hs1.pre⟩
   have hl2:w2.heap[g.D+1]?=some (.loop (g.lp .busy none)):=by
    rw [← hw2];exact World.putObj_heap_same (Nat.lt_of_lt_of_le hDlt hfr1.size)
   have hd2:w2.heap[g.D]?=some (.deferred (some [])):=by
    rw [← hw2];exact (World.putObj_heap_other W37).trans hd1
   have hfp2:∀ b,fp b↔(b=g.D∨b=g.D+1∨(liveFp (I x) ε b∧¬ g.ro b)):=hfp
   have hexfp:∀ b,exclFp (I x) ε b→fp b:=fun b h=>(hfp2 b).2 (.inr (.inr ⟨Q6b h,hA.excl b h⟩))
   have hfr2:Fr fp w w2:=by
    rw [← hw2]
    refine Fr.step (w:=w1) ⟨hfr1.os,hfr1.tape,hfr1.output,hfr1.size,fun b hb hn=>hfr1.block b hb (fun h=>hn (hexfp b h))⟩ rfl rfl rfl W148 (fun b hb hn=>World.putObj_heap_other (fun e=>hn ((hfp2 b).2 (.inr (.inl e)))))
   refine wpIn_mono (hbody1 B2 hnf a1 w2 ⟨ε1,hsat2⟩) (fun e a3 w3 hq3=>?_)
   have hend:∀ (K:X→Prop) (jump:Option Code) (x3:X) (ε3:Env),g.hs0 <+: ε3.hs→RegsOk ε3 B2.M B2.L w3 (I x3)→Fr B2.m B2.w w3 →
    w3.heap[g.D+1]?=some (.loop (g.lp .busy none)) ∧
    (∀ w4,w4=w3.putObj (g.D+1) (.loop (g.lp (if jump.isNone then .ready else .done) jump)) →
      g.At (I x3) ε3 (if jump.isNone then .ready else .done) jump w4∧(∀ b,g.fpOf (I x3) ε3 b→(fp b∨w.heap.size≤b)∧b<w4.heap.size)∧Fr fp w w4):=by
    intro K jump x3 ε3 hp3 hr3 hf3
    have hM3:∀ b,exclFp (I x3) ε3 b→w.heap.size≤b∨exclFp (I x) ε b:=fun b h=>by
     rcases hr3.M_of h with h | h
     ·exact .inl (Nat.le_trans hfr1.size (hsz2▸h))
     ·exact hM1' b h
    have hL3:∀ b,liveFp (I x3) ε3 b→b<w3.heap.size∧(w.heap.size≤b∨liveFp (I x) ε b):=fun b h=>by
     obtain ⟨h1,h2⟩:=hr3.L_of h
     refine ⟨h1,?_⟩
     rcases h2 with h | h
     ·exact .inl (Nat.le_trans hfr1.size (hsz2▸h))
     ·exact hL1' b h
    have hf3':Fr (exclFp (stA k x).rg ε1) w2 w3:=hf3
    have hn2:∀ b,b<w.heap.size→¬ exclFp (I x) ε b→¬ exclFp (stA k x).rg ε1 b:=fun b hb hn h=>by
     rcases hM1' b h with h | h
     ·omega
     ·exact hn h
    have hfr3:Fr fp w w3:=hfr2.step hf3'.os hf3'.tape hf3'.output hf3'.size (fun b hb hn=>hf3'.block b (Nat.lt_of_lt_of_le hb hfr2.size) (hn2 b hb (fun h=>hn (hexfp b h))))
    have hl3:w3.heap[g.D+1]?=some (.loop (g.lp .busy none)):=(hf3'.block _ (Nat.lt_of_lt_of_le hDlt hfr2.size) (hn2 _ hDlt (hnx _ (.inr rfl)))).trans hl2
    have hd3:w3.heap[g.D]?=some (.deferred (some [])):=(hf3'.block _ (Nat.lt_of_lt_of_le W37 hfr2.size) (hn2 _ W37 (hnx _ (.inl rfl)))).trans hd2
    refine ⟨hl3,fun w4 hw4=>?_⟩
    have hoff3:∀ b,liveFp (I x3) ε3 b→b≠g.D∧b≠g.D+1:=fun b h=>by
     rcases (hL3 b h).2 with h | h
     ·omega
     ·exact hA.off b h
    have hsz4:w4.heap.size=w3.heap.size:=by rw [hw4];simp
    refine ⟨⟨hp3,?_,fun b h hro=>?_,?_,?_,hoff3,fun b hro=>?_,?_,hA.old⟩,fun b h=>?_,?_⟩
    ·have hn:RegsOk ε3 g.bM g.bL w3 (I x3):=hr3.narrow (fun i r h1 h2 b h3=>by
      rcases hM3 b ⟨i,r,h1,h2,h3⟩ with h | h
      ·exact hbM b (Nat.le_trans hA.size h)
      ·exact hA.regs.M_of h)
      (fun i r h1 h2 b h3=>by
        rcases (hL3 b ⟨i,r,h1,h2,h3⟩).2 with h | h
        ·exact hbL b (Nat.le_trans hA.size h)
        ·exact (hA.regs.L_of h).2)
     rw [hw4]
     exact Rng.At.put hn hoff3
    ·rcases hM3 b h with h | h
     ·have:=hA.old b hro;omega
     ·exact hA.excl b h hro
    ·rw [hw4];exact World.putObj_heap_same (Array.getElem?_eq_some_iff.1 hl3).1
    ·rw [hw4];exact (World.putObj_heap_other W37).trans hd3
    ·have hb:=hA.old b hro
     have hnf:¬ fp b:=fun h=>by
      rcases (hfp2 b).1 h with h | h | h
      ·omega
      ·omega
      ·exact h.2 hro
     rw [hw4,World.putObj_heap_other W37,hfr3.block b W37 hnf]
     exact hA.same b hro
    ·rw [hsz4];exact Nat.le_trans hA.size hfr3.size
    ·rcases h with h | h | ⟨h1,h2⟩
     ·exact ⟨.inl ((hfp2 b).2 (.inl h)),by rw [hsz4,h];exact Nat.lt_of_lt_of_le W37 hfr3.size⟩
     ·exact ⟨.inl ((hfp2 b).2 (.inr (.inl h))),by rw [hsz4,h];exact Nat.lt_of_lt_of_le hDlt hfr3.size⟩
     ·refine ⟨?_,by rw [hsz4];exact (hL3 b h1).1⟩
      rcases (hL3 b h1).2 with h | h
      ·exact .inr h
      ·exact .inl ((hfp2 b).2 (.inr (.inr ⟨h,h2⟩)))
    ·rw [hw4]
     exact hfr3.step rfl rfl rfl W148 (fun b hb hn=>World.putObj_heap_other (fun e=>hn ((hfp2 b).2 (.inr (.inl e)))))
   cases e with
   | normal =>
     have hq3':RegsAt I (J (k+1)) B2 w3:=hq3
     obtain ⟨x3,ε3,hJ3,hp3,hr3,hf3⟩:=hq3'
     obtain ⟨h1,h2⟩:=hend (J (k+1)) none x3 ε3 hp3 hr3 hf3
     obtain ⟨h3,h4,h5⟩:=h2 _ rfl
     exact ⟨_,_,run_endRound none h1,true,_,rfl,⟨x3,ε3,fun b=>Iff.rfl,.inl ⟨rfl,hJ3,h3⟩⟩,h4,h5⟩
   | ret =>
     have hq3':RegsAt I (Jx .ret) B2 w3:=hq3
     obtain ⟨x3,ε3,hJ3,hp3,hr3,hf3⟩:=hq3'
     obtain ⟨h1,h2⟩:=hend (J (k+1)) (some .ret) x3 ε3 hp3 hr3 hf3
     obtain ⟨h3,h4,h5⟩:=h2 _ rfl
     exact ⟨_,_,run_endRound (some .ret) h1,false,_,rfl,⟨x3,ε3,fun b=>Iff.rfl,.inr ⟨rfl,.ret,hJ3,h3⟩⟩,h4,h5⟩
   | exit id =>
     have hq3':RegsAt I (Jx (.exit id)) B2 w3:=hq3
     obtain ⟨x3,ε3,hJ3,hp3,hr3,hf3⟩:=hq3'
     obtain ⟨h1,h2⟩:=hend (J (k+1)) (some (.exit id)) x3 ε3 hp3 hr3 hf3
     obtain ⟨h3,h4,h5⟩:=h2 _ rfl
     exact ⟨_,_,run_endRound (some (.exit id)) h1,false,_,rfl,⟨x3,ε3,fun b=>Iff.rfl,.inr ⟨rfl,.exit id,hJ3,h3⟩⟩,h4,h5⟩
   | _=>exact hq3.elim
 | _=>exact hq.elim
end
def keepFr (nf:Nat) (fr:List En):List En:=fr.filter fun e=>e.g.isEmpty&&e.sv.scp nf
def K.isJmp:K→Bool
 | .jmp _=>true
 | _=>false
def Cfg.rgF (P:Program) (c:Cfg) (st:St):Option (Nat×List Nat):=match (seg P 5000 c.k c.st).2 with
 | .range f [p] _ _ k _=>match k.any K.isJmp,Nat.blt p st.N,opndC st [] f with
   | false,true,some (.fn fi false caps)=>some (fi,caps)
   | _,_,_=>none
 | _=>none
def Cfg.rgA (P:Program) (c:Cfg) (J:Base→Act→World→Prop) (st:St) (nf:Nat) (v:SV) (rg:List Reg):Cfg:=match (seg P 5000 c.k c.st).2 with
 | .range _ [p] assign _ _ _=>⟨[.code assign,.jmp J],{ N:=st.N,fr:={ slot:=p,g:=[],sv:=v }::(keepFr nf st.fr).filter (fun e=>!(Nat.beq e.slot p)),rg,wr:=[1000000007] }⟩
 | _=>noCfg
def Cfg.rgB (P:Program) (c:Cfg) (J:Base→Act→World→Prop) (st:St):Cfg:=match (seg P 5000 c.k c.st).2 with
 | .range _ _ _ body _ _=>⟨[.code body,.jmp J],st⟩
 | _=>noCfg
def Cfg.rgK (P:Program) (c:Cfg) (st:St) (nf:Nat) (rg:List Reg):Cfg:=match (seg P 5000 c.k c.st).2 with
 | .range _ _ _ _ k _=>⟨k,{ N:=st.N,fr:=keepFr nf st.fr,rg,wr:=st.wr }⟩
 | _=>noCfg
def Cfg.rgC (P:Program) (c:Cfg) (cd:Code) (st:St) (nf:Nat) (rg:List Reg):Cfg:=match (seg P 5000 c.k c.st).2 with
 | .range _ _ _ _ k _=>⟨.code cd::k,{ N:=st.N,fr:=keepFr nf st.fr,rg,wr:=st.wr }⟩
 | _=>noCfg
def RangeEnd (X:Ext) (m:Nat):SV→List Reg→Prop:=fun _ post=>∃ (k:Nat) (al:Bool),(al=true→k=X.n)∧post[m]?=some (.ext X k al)
theorem Q33 {P:Program} [hw:Wide P] {b b':Base} {Q Q':Exit→Act→World→Prop} (hro:b'.ro=b.ro) (h:∀ e a w,Q' e a w→Q e a w):∀ (k:List K),k.any K.isJmp=false→∀ e a w,contQ P b' Q' k e a w→contQ P b Q k e a w
 | [],_,e,a,w,hq=>h e a w hq
 | x::k,hj,e,a,w,hq=>by
   simp only [List.any_cons,Bool.or_eq_false_iff] at hj
   have ih:=Q33 (P:=P) hro h k hj.2
   have h1:kpost P b' x (contQ P b Q k) e a w:=Q0x ih x e a w hq
   have h2:kpost P b x (contQ P b Q k) e a w:=by
    cases x with
    | jmp J=>cases hj.1
    | code c=>simp only [kpost,hro] at h1 ⊢;exact h1
    | rnd body n=>simp only [kpost,hro] at h1 ⊢;exact h1
    | _=>exact h1
   exact h2
theorem Q6c {ds es:List Nat} {w:World}:shut (ds++es) w=shut es (shut ds w):=by
 unfold shut;rw [List.foldl_append]
theorem Rt.unmark {P:Program} {fn:Func} {S:SV→List Reg→Prop} {b:Base} {D:Nat} {w4:World} {b':Base} (hb':b'={ w:=w4,e:=b.e,m:=fun g=>b.M g∧g≠D∧g≠D+1,l:=fun g=>b.L g∧g≠D∧g≠D+1,ro:=b.ro,d:=mark D::b.d })
 (hD:b.w.heap.size≤D) (hD4:D<w4.heap.size) (hd:w4.heap[D]?=some (.deferred (some []))) (hfr:Fr b.m b.w w4) (e:Exit) (a:Act) (w:World) (h:Rt P fn S b' e a w):Rt P fn S b e a w:=by
 subst hb'
 have main:∀ (ds:List Nat) (v:Value),a.defers=ds.map mark++(mark D::b.d)→ds.Nodup→(∀ D'∈ds,w4.heap.size≤D'∧w.heap[D']?=some (.deferred (some []))) →
  (∀ Ds:List Nat,(∀ D'∈Ds,D'<w4.heap.size∧¬ (b.L D'∧D'≠D∧D'≠D+1))→(results fn a.tmps).run P (shut Ds (shut ds w))=.ok v (shut Ds (shut ds w))) →
  Rets { w:=w4,e:=b.e,m:=fun g=>b.M g∧g≠D∧g≠D+1,l:=fun g=>b.L g∧g≠D∧g≠D+1,ro:=b.ro,d:=mark D::b.d } S (.returned v) (shut ds w) →
  ∃ (ds:List Nat) (v:Value),a.defers=ds.map mark++b.d∧ds.Nodup∧(∀ D∈ds,b.w.heap.size≤D∧w.heap[D]?=some (.deferred (some []))) ∧
  (∀ Ds:List Nat,(∀ D∈Ds,D<b.w.heap.size∧¬ b.l D)→(results fn a.tmps).run P (shut Ds (shut ds w))=.ok v (shut Ds (shut ds w)))∧Rets b S (.returned v) (shut ds w):=by
  intro ds v h1 h2 h3 h4 h5
  have hn:D ∉ ds:=fun h=>by have:=(h3 D h).1;omega
  obtain ⟨res,post,ε',hS,hv,hpre,hreg,hfr'⟩:=h5
  have hfr'':Fr (fun g=>b.M g∧g≠D∧g≠D+1) w4 (shut ds w):=hfr'
  have hdw:w.heap[D]?=some (.deferred (some [])):=by
   rw [← Q81 (ds:=ds) hn]
   exact (hfr''.block D hD4 (fun h=>h.2.1 rfl)).trans hd
  refine ⟨ds++[D],v,by simp [h1],?_,fun D' hD'=>?_,fun Ds hDs=>?_,?_⟩
  ·rw [List.nodup_append]
   exact ⟨h2,by simp,fun x hx y hy=>by
    have:y=D:=by simpa using hy
    subst this
    exact fun e=>hn (e▸hx)⟩
  ·rcases List.mem_append.1 hD' with h | h
   ·exact ⟨Nat.le_trans hfr.size (h3 D' h).1,(h3 D' h).2⟩
   ·have:D'=D:=by simpa using h
    subst this
    exact ⟨hD,hdw⟩
  ·have:=h4 (D::Ds) (fun D' hD'=>by
    cases hD' with
    | head=>exact ⟨hD4,fun h=>h.2.1 rfl⟩
    | tail _ hD' =>
      obtain ⟨h6,h7⟩:=hDs D' hD'
      refine ⟨Nat.lt_of_lt_of_le h6 hfr.size,fun h=>?_⟩
      rcases h.1 with h | h
      ·omega
      ·exact h7 h)
   rw [Q6c]
   exact this
  ·have hwD:shut (ds++[D]) w=(shut ds w).putObj D (.deferred none):=by rw [Q6c];rfl
   have hlv:∀ (i:Nat) (r:Reg),post[i]?=some r→r.live=true→∀ k,ε'.fp i k→k≠D:=fun i r hi hl k hk e=>by
    rcases (hreg.lt i r hi hl k hk).2 with h | h
    ·subst e;exact absurd hD4 (Nat.not_lt.2 h)
    ·exact h.2.1 e
   refine ⟨res,post,ε',hS,hv,hpre,?_,?_⟩
   ·rw [hwD]
    have h6:=hreg.world2 (w':=(shut ds w).putObj D (.deferred none)) W148 (fun i r hi hl k hk _=>World.putObj_heap_other (hlv i r hi hl k hk))
    refine h6.narrow (fun i r hi he k hk=>?_) (fun i r hi hl k hk=>?_)
    ·rcases hreg.lim i r hi he k hk with h | h
     ·exact .inl (Nat.le_trans hfr.size h)
     ·exact h.1
    ·rcases (hreg.lt i r hi hl k hk).2 with h | h
     ·exact .inl (Nat.le_trans hfr.size h)
     ·exact h.1
   ·rw [hwD]
    refine (Qbw hfr hfr'' (fun k hk hlt=>?_)).step rfl rfl rfl W148 (fun k hk hm=>World.putObj_heap_other W37)
    rcases hk.1 with h | h
    ·omega
    ·exact h
 cases e with
 | normal=>obtain ⟨ds,v,h1,h2,h3,h4,h5⟩:=h;exact main ds v h1 h2 h3 h4 h5
 | ret=>obtain ⟨ds,v,h1,h2,h3,h4,h5⟩:=h;exact main ds v h1 h2 h3 h4 h5
 | _=>exact h.elim
theorem Qgs {pre:List Reg} {ε0 ε1:Env} {w W1:World} {X:Ext} {hv fv:Value} {fp:Nat→Prop} (hpre:pre.all (fun r=>!r.excl)=true) (hsc:pre.all (Reg.scp pre.length)=true)
 (hg:RegsOk ε0 (Base.at_ pre ε0 w).M (Base.at_ pre ε0 w).L w pre) (hsz:w.heap.size≤W1.heap.size) (hsame:∀ k,k<w.heap.size→W1.heap[k]?=w.heap[k]?)
 (hε1:ε1=ε0++[⟨fv,X.ro⟩,⟨hv,fp⟩]) (hro:∀ (i:Nat) (r:Reg),pre[i]?=some r→r.live=true→∀ k,ε0.fp i k→X.ro k) (hro2:∀ k,X.ro k→k<W1.heap.size∧W1.heap[k]?=X.w0.heap[k]?)
 (hh:hv=.func (.yield X.l) #[] #[]) (hG:X.G 0 true fp W1) (hfp:∀ k,fp k→k<W1.heap.size∧¬ X.ro k) :
 RegsOk ε1 (Base.at_ (pre++[.froz X,.ext X 0 true]) ε1 W1).M (Base.at_ (pre++[.froz X,.ext X 0 true]) ε1 W1).L W1 (pre++[.froz X,.ext X 0 true]):=by
 have hlen:=hg.len
 have eOld:∀ i,i<pre.length→Env.ent ε1 i=ε0.ent i:=fun i hi=>by
  unfold Env.ent
  rw [hε1,List.getD_eq_getElem?_getD,List.getD_eq_getElem?_getD,List.getElem?_append_left W37]
 have eF:Env.ent ε1 pre.length=⟨fv,X.ro⟩:=by
  unfold Env.ent
  rw [hε1,List.getD_eq_getElem?_getD,List.getElem?_append_right W37,hlen]
  simp
 have eX:Env.ent ε1 (pre.length+1)=⟨hv,fp⟩:=by
  unfold Env.ent
  rw [hε1,List.getD_eq_getElem?_getD,List.getElem?_append_right W37,hlen]
  simp
 have cases3:∀ (i:Nat) (r:Reg),(pre++[.froz X,.ext X 0 true])[i]?=some r→(i<pre.length∧pre[i]?=some r)∨(i=pre.length∧r=.froz X)∨(i=pre.length+1∧r=.ext X 0 true):=fun i r hi=>by
  by_cases h:i<pre.length
  ·rw [List.getElem?_append_left h] at hi;exact .inl ⟨h,hi⟩
  ·rw [List.getElem?_append_right W37] at hi
   by_cases h2:i=pre.length
   ·subst h2;simp at hi;exact .inr (.inl ⟨rfl,hi.symm⟩)
   ·by_cases h3:i=pre.length+1
    ·subst h3;simp at hi;exact .inr (.inr ⟨rfl,hi.symm⟩)
    ·have:i-pre.length=(i-pre.length-2)+2:=by omega
     rw [this] at hi;simp at hi
 have hnx:∀ (i:Nat) (r:Reg),pre[i]?=some r→r.excl=false:=fun i r hi=>by simpa using List.all_eq_true.1 hpre r (List.mem_of_getElem? hi)
 have hlt:∀ (i:Nat) (r:Reg),(pre++[.froz X,.ext X 0 true])[i]?=some r→r.live=true→∀ k,Env.fp ε1 i k→k<W1.heap.size:=fun i r hi hl k hk=>by
  unfold Env.fp at hk
  rcases cases3 i r hi with ⟨h1,h2⟩ | ⟨rfl,rfl⟩ | ⟨rfl,rfl⟩
  ·rw [eOld i h1] at hk
   exact Nat.lt_of_lt_of_le (hg.lt i r h2 hl k hk).1 hsz
  ·rw [eF] at hk;exact (hro2 k hk).1
  ·rw [eX] at hk;exact (hfp k hk).1
 refine ⟨by rw [hε1];simp [hlen],fun i r hi=>?_,fun i r hi hl k hk=>⟨hlt i r hi hl k hk,.inr ⟨i,r,hi,hl,hk⟩⟩,fun i r hi he k hk=>.inr ⟨i,r,hi,he,hk⟩,fun i j ri rj hij hi hj he hl k hk hk'=>?_⟩
 ·rcases cases3 i r hi with ⟨h1,h2⟩ | ⟨rfl,rfl⟩ | ⟨rfl,rfl⟩
  ·rw [eOld i h1]
   have h3:RegOk ε0 (Base.at_ pre ε0 w).M W1 (ε0.ent i) r:=RegOk.world (hg.reg i r h2) hsz (fun k hk hl hlt=>hsame k hlt)
   have h4:=RegOk.same (ε':=ε1) h3 (List.all_eq_true.1 hsc r (List.mem_of_getElem? h2)) (fun q hq=>by unfold Env.at_;rw [eOld q hq])
   exact RegOk.reM (fun h=>by rw [hnx i r h2] at h;cases h) h4
  ·rw [eF];exact fun k hk=>⟨hk,hro2 k hk⟩
  ·rw [eX];exact ⟨hh,W1,hG,Nat.le_refl _,fun k hk=>⟨(hfp k hk).1,rfl⟩⟩
 ·unfold Env.fp at hk hk'
  rcases cases3 i ri hi with ⟨h1,h2⟩ | ⟨rfl,rfl⟩ | ⟨rfl,rfl⟩
  ·rw [hnx i ri h2] at he;cases he
  ·cases he
  ·rw [eX] at hk
   rcases cases3 j rj hj with ⟨h1,h2⟩ | ⟨rfl,rfl⟩ | ⟨rfl,rfl⟩
   ·rw [eOld j h1] at hk'
    exact (hfp k hk).2 (hro j rj h2 hl k hk')
   ·rw [eF] at hk';exact (hfp k hk).2 hk'
   ·exact hij rfl
section
variable {P:Program} [hw:Wide P] {fn:Func} {n0:Nat} {c:Cfg} {vc:List Prop}
theorem RunF.range {S:SV→List Reg→Prop} {X:Type} {I:X→List Reg} {J:Nat→X→Prop} {Jx:Code→X→Prop} {n nf fi:Nat} {enc:Nat→SV} {stA:Nat→X→St} {preI:List Reg} {argsI:List SV} {caps:List Nat}
 (x0:X) (st':St) (π σ:List Nat) {E E2:List F} (h:see P fn c=(vc,.range)) (hv:Conj vc)
 (he:ent n0 π (c.at P) st'=some E) (hE:AllF E) (hf:c.rgF P st'=some (fi,caps)) (hen:Enters P fi)
 (hI:st'.rg=I x0) (hrd:st'.rd=false) (hn0:Nat.ble n0 nf=true) (hnf:Nat.ble nf st'.rg.length=true) (hle:Nat.ble st'.rg.length 1000000=true) (hJ:J 0 x0)
 (hc:callEnt false σ st' preI argsI (caps.map fun r=>.c (if isVar st' r then .p r 0 else .h r))=some E2) (hE2:AllF E2)
 (hpre:preI.all (fun r=>!r.excl)=true) (hσ:σ.all (fun q=>match nth st'.rg q with | some h=>!h.excl&&h.live | none=>true)=true)
 (henc:∀ k,(enc k).scp 0=true)
 (hit:∀ Xe:Ext,Xe.n=n→Xe.enc=enc→Xe.Yields P→Ctr P fi (preI++[.froz Xe,.ext Xe 0 true]) (.c (.h (preI.length+1))::argsI) (RangeEnd Xe (preI.length+1)))
 (hassign:∀ k x,k<n→J k x→RunF P fn nf (fun _ _ _ _=>False) (c.rgA P (AtSt (fun _:Unit=>stA k x) (fun _=>True)) st' nf (enc k) (I x)))
 (hrdA:∀ k x,(stA k x).rd=true)
 (hbody:∀ k x,k<n→J k x→RunF P fn nf (Tround I (J (k+1)) Jx) (c.rgB P (fun b _ w=>RegsAt I (J (k+1)) b w) (stA k x)))
 (hdone:∀ x,J n x→RunF P fn n0 (Rt P fn S) (c.rgK P st' nf (I x)))
 (hstop:∀ cd x,Jx cd x→RunF P fn n0 (Rt P fn S) (c.rgC P cd st' nf (I x))):RunF P fn n0 (Rt P fn S) c:=by
 unfold RunF
 intro b hb
 unfold see at h
 unfold Cfg.at at he
 unfold Cfg.rgF at hf
 unfold Cfg.rgA at hassign
 unfold Cfg.rgB at hbody
 unfold Cfg.rgK at hdone
 unfold Cfg.rgC at hstop
 generalize hg:seg P 5000 c.k c.st=rr at h he hf hassign hbody hdone hstop
 obtain ⟨vc',out⟩:=rr
 cases out<;>simp only [Prod.mk.injEq,reduceCtorEq,and_false] at h
 case range f params assign body k st =>
  obtain ⟨rfl,_⟩:=h
  cases params with
  | nil=>cases hf
  | cons p ps =>
  cases ps with
  | cons=>cases hf
  | nil =>
  simp only at hf he hassign hbody hdone hstop
  split at hf
  case h_2=>cases hf
  rename_i fi' caps' hj hp hop
  cases hf
  have hp:=Nat.le_of_ble_eq_true hp
  refine Qn hw.mixed 5000 _ _ _ _ hg hv.toAll (fun a w hs=>?_)
  obtain ⟨ε,hs⟩:=J6 hb he hE hs
  have hro:b.ro=none:=hs.defs.2 hrd
  have hε:ε.length≤1000000:=by rw [hs.regs.len];exact Nat.le_of_ble_eq_true hle
  have hval:=Q4 hs (gHolds_nil a) hop
  unfold callEnt at hc
  split at hc
  case isFalse=>cases hc
  rename_i hcc
  simp only [Bool.and_eq_true] at hcc
  obtain ⟨⟨⟨⟨c1,c2⟩,c3⟩,c4⟩,c5⟩:=hcc
  split at hc
  case h_2=>cases hc
  rename_i vc1 h1
  obtain ⟨vc2,h2,he2⟩:=map_nil hc
  subst he2
  have hE':=hE2
  have hl:=Yi h1
  have hτ:∀ r,r<preI.length→ε.at_ (at' σ r)=Env.at_ (σ.map ε.ent) r:=fun r hr=>by
   have hp:σ[r]?=some (σ[r]'W37):=List.getElem?_eq_getElem W37
   rw [Q0a ε σ hp,Q0b hp]
  have hnx:∀ (i:Nat) (r:Reg),preI[i]?=some r→r.excl=false:=fun i r hi=>by simpa using List.all_eq_true.1 hpre r (List.mem_of_getElem? hi)
  obtain ⟨hgiven,hreg⟩:=Q83 hε hs.regs c1 (.inr fun p hp=>by simpa using List.all_eq_true.1 hpre p hp) h1 hE'.left (fun i q p hi _ hx=>by rw [hnx i p hi] at hx;cases hx)
  have hargs:(caps.map fun r=>SV.c (if isVar st' r then .p r 0 else .h r)).map (SV.den ε)=argsI.map (SV.den (σ.map ε.ent)):=by
   rw [← Jj (ε:=ε) hε h2 hE'.right,List.map_map]
   exact List.map_congr_left fun s hs'=>G2 hτ (List.all_eq_true.1 c2 s hs')
  have hcaps:caps.map ε.at_=(caps.map fun r=>SV.c (if isVar st' r then .p r 0 else .h r)).map (SV.den ε):=by
   rw [List.map_map]
   refine List.map_congr_left fun r _=>?_
   show ε.at_ r=SV.den ε (.c (if isVar st' r then .p r 0 else .h r))
   by_cases hv:isVar st' r=true
   ·rw [if_pos hv];exact (Q2w hs.regs hv).symm
   ·rw [if_neg hv];rfl
  generalize hD:w.heap.size=D
  have hbD:b.w.heap.size≤D:=hD▸hs.below.size
  generalize hxro:(fun k=>∃ (q:Nat) (r:Reg),st'.rg[q]?=some r∧r.live=true∧r.excl=false∧ε.fp q k)=xro
  have hxlt:∀ k,xro k→k<D∧∃ (q:Nat) (r:Reg),st'.rg[q]?=some r∧r.live=true∧r.excl=false∧ε.fp q k:=fun k hk=>by
   rw [← hxro] at hk
   obtain ⟨q,r,h3,h4,h5,h6⟩:=hk
   exact ⟨hD▸(hs.regs.lt q r h3 h4 k h6).1,q,r,h3,h4,h5,h6⟩
  have hseq:∀ fnid,Fence.wide.fn fnid→∃ g:Rng,g={ fn:=fnid,tmps:=a.tmps,p:=p,assign:=assign,body:=body,D:=D,W1:=(w.alloc (.deferred (some []))).alloc (.loop { state:=.ready,pending:=none,fn:=fnid,tmps:=a.tmps,params:=#[p],assign:=assign,body:=body,defers:=D }),hs0:=ε.hs.take nf,bM:=fun k=>b.M k∧k≠D∧k≠D+1,bL:=fun k=>b.L k∧k≠D∧k≠D+1,ro:=xro }:=fun fnid _=>⟨_,rfl⟩
  refine wpIn_rangeFunc (fun fnid hfn=>?_)
  obtain ⟨g,hgdef⟩:=hseq fnid trivial
  have gD:g.D=D:=by rw [hgdef]
  have gro:g.ro=xro:=by rw [hgdef]
  have hW1sz:g.W1.heap.size=D+2:=by rw [hgdef];simp [hD]
  have hsame:∀ k,k<D→g.W1.heap[k]?=w.heap[k]?:=fun k hk=>by
   rw [hgdef]
   exact (Below.heap_alloc _ _ _ W117).trans (Below.heap_alloc _ _ _ W37)
  have hmrk:g.W1.heap[D]?=some (.deferred (some [])):=by
   rw [hgdef]
   exact (Below.heap_alloc _ _ _ W117).trans (by have:=World.alloc_heap_new w (.deferred (some []));rwa [hD] at this)
  have hloop:g.W1.heap[D+1]?=some (.loop (g.lp .ready none)):=by
   have:=World.alloc_heap_new (w.alloc (.deferred (some []))) (.loop (g.lp .ready none))
   rw [World.size_alloc,hD] at this
   rw [hgdef] at this ⊢
   exact this
  have hhs0:g.hs0=ε.hs.take nf:=by rw [hgdef]
  have hnfl:=Nat.le_of_ble_eq_true hnf
  have hn0l:=Nat.le_of_ble_eq_true hn0
  have hhl:g.hs0.length=nf:=by rw [hhs0,List.length_take];simp [Env.hs,hs.regs.len];omega
  have hfrW1:Fr (fun _=>False) w g.W1:=⟨by rw [hgdef];rfl,by rw [hgdef];rfl,by rw [hgdef];rfl,by rw [hW1sz];omega,fun k hk _=>hsame k (hD▸hk)⟩
  have hoff:∀ k,liveFp (I x0) ε k→k≠D∧k≠D+1:=fun k ⟨i,r,h3,h4,h5⟩=>by
   have:=(hs.regs.lt i r (hI▸h3) h4 k h5).1
   omega
  have hexro:∀ k,exclFp (I x0) ε k→¬ xro k:=fun k ⟨i,r,h3,h4,h5⟩ hk=>by
   obtain ⟨_,q,r',h6,h7,h8,h9⟩:=hxlt k hk
   have hiq:i≠q:=fun e=>by subst e;rw [hI,h3] at h6;cases h6;rw [h4] at h8;cases h8
   exact hs.regs.sep i q r r' hiq (hI▸h3) h6 h4 h7 k h5 h9
  have hregW1:RegsOk ε b.M b.L g.W1 st'.rg:=hs.regs.world2 hfrW1.size (fun i r h1 h2 k h3 h4=>hsame k (hD▸h4))
  have hAt0:g.At (I x0) ε .ready none g.W1:=by
   refine ⟨by rw [hhs0];exact List.take_prefix _ _,?_,fun k h=>by rw [gro];exact hexro k h,by rw [gD];exact hloop,by rw [gD];exact hmrk,fun k h=>by rw [gD];exact hoff k h,fun _ _=>rfl,Nat.le_refl _,fun k h=>by rw [gD];rw [gro] at h;exact (hxlt k h).1⟩
   rw [← hI]
   rw [hgdef] at hregW1 ⊢
   exact hregW1.narrow (fun i r h1 h2 k h3=>⟨hs.regs.lim i r h1 h2 k h3,hoff k ⟨i,r,hI▸h1,Qv h2,h3⟩⟩) (fun i r h1 h2 k h3=>⟨(hs.regs.lt i r h1 h2 k h3).2,hoff k ⟨i,r,hI▸h1,h2,h3⟩⟩)
  let Xe:Ext:={ l:=g.D+1,n:=n,enc:=enc,G:=g.G I J Jx,ro:=g.ro,w0:=g.W1 }
  have hkf:keepsFr g.p st'.N nf ((keepFr nf st'.fr).filter (fun e=>!(Nat.beq e.slot p)))=true:=by
   refine List.all_eq_true.2 fun e he=>?_
   obtain ⟨h3,h4⟩:=List.mem_filter.1 he
   obtain ⟨h5,h6⟩:=List.mem_filter.1 h3
   rw [Bool.and_eq_true] at h6
   simp only [Bool.and_eq_true]
   refine ⟨⟨⟨h6.1,?_⟩,?_⟩,h6.2⟩
   ·rw [show g.p=p from by rw [hgdef]];exact h4
   ·have:=(hs.fr e h5).1;exact Nat.ble_eq_true_of_le this
  have hyields:Xe.Yields P:=by
   intro k fp w' hk hG hro' hdis
   obtain ⟨w1,hG1,hsz1,hb1⟩:=hG
   have hG2:g.G I J Jx k true fp w':=Rng.G.move hG1 hsz1 hb1 (fun k hk=>(hro' k hk).2)
   refine Rng.round g (fn:=fn) (n:=n) (N:=st'.N) (nf:=nf) (fr0:=(keepFr nf st'.fr).filter (fun e=>!(Nat.beq e.slot p))) (stA:=stA) hhl ?_ ?_ hkf ?_ ?_ ?_ henc ?_ hrdA ?_ (by exact hk) hG2
   ·rw [hgdef];exact hs.size
   ·rw [show g.p=p from by rw [hgdef]];exact hp
   ·intro e he ε' hpre'
    obtain ⟨h3,h4⟩:=List.mem_filter.1 he
    obtain ⟨h5,h6⟩:=List.mem_filter.1 h3
    rw [Bool.and_eq_true] at h6
    have hg0:e.g=[]:=by
     cases hh:e.g with
     | nil=>rfl
     | cons a l=>rw [hh] at h6;cases h6.1
    have h7:=(hs.fr e h5).2.1 (by rw [hg0];exact gHolds_nil a)
    have h8:g.tmps=a.tmps:=by rw [hgdef]
    rw [h8]
    refine h7.trans ?_
    refine Q08 h6.2 (fun r hr=>?_)
    rw [Q1x (l:=g.hs0) hAt0.hs W37,Q1x (l:=g.hs0) hpre' W37]
   ·intro k hk;rw [hW1sz] at hk;rw [hgdef];exact ⟨.inl W37,by omega,by omega⟩
   ·intro k hk;rw [hW1sz] at hk;rw [hgdef];exact ⟨.inl W37,by omega,by omega⟩
   ·intro k x hk hJ'
    have:=hassign k x hk hJ'
    rw [show g.assign=assign from by rw [hgdef],show roundSt g st'.N _ (enc k) (I x)={ N:=st'.N,fr:={ slot:=p,g:=[],sv:=enc k }::(keepFr nf st'.fr).filter (fun e=>!(Nat.beq e.slot p)),rg:=I x,wr:=[1000000007] } from by unfold roundSt;rw [hgdef]]
    exact this
   ·intro k x hk hJ'
    have:=hbody k x hk hJ'
    rw [show g.body=body from by rw [hgdef]]
    exact this
  have hG0:g.G I J Jx 0 true (g.fpOf (I x0) ε) g.W1:=⟨x0,ε,fun _=>Iff.rfl,.inl ⟨rfl,hJ,hAt0⟩⟩
  have hgx:=Qgs (X:=Xe) (ε1:=σ.map ε.ent++[⟨undef,Xe.ro⟩,⟨.func (.yield Xe.l) #[] #[],g.fpOf (I x0) ε⟩]) (fv:=undef) hpre c1 hgiven hfrW1.size (fun k hk=>hfrW1.block k hk (fun h=>h)) rfl
   (fun i r hi hl k hk=>by
     show g.ro k
     rw [gro,← hxro]
     have hil:i<preI.length:=(List.getElem?_eq_some_iff.1 hi).1
     have hq:σ[i]?=some (σ[i]'W37):=List.getElem?_eq_getElem W37
     rw [Y7 ε σ hq] at hk
     have h3:=List.all_eq_true.1 hσ _ (List.mem_of_getElem? hq)
     cases hr:st'.rg[(σ[i]'W37)]? with
     | none =>
       have:ε.length≤σ[i]'W37:=by rw [hs.regs.len];exact List.getElem?_eq_none_iff.1 hr
       unfold Env.fp at hk
       rw [Q0z this] at hk
       exact hk.elim
     | some r' =>
       rw [Qp,hr] at h3
       simp only [Bool.and_eq_true,Bool.not_eq_true'] at h3
       exact ⟨_,r',hr,h3.2,h3.1,hk⟩)
   (fun k hk=>by
     have hk':g.ro k:=hk
     rw [gro] at hk'
     exact ⟨by rw [hW1sz];have:=(hxlt k hk').1;omega,rfl⟩) rfl hG0
   (fun k hk=>by
     show k<g.W1.heap.size∧¬ g.ro k
     rw [hW1sz,gro]
     rcases hk with h | h | ⟨⟨i,r,h3,h4,h5⟩,h6⟩
     ·rw [gD] at h;exact ⟨by omega,fun hx=>by have:=(hxlt k hx).1;omega⟩
     ·rw [gD] at h;exact ⟨by omega,fun hx=>by have:=(hxlt k hx).1;omega⟩
     ·refine ⟨?_,by rw [← gro];exact h6⟩
      have:=(hs.regs.lt i r (hI▸h3) h4 k h5).1;omega)
  refine ⟨D+1,[mark D],g.W1,{ target:=.fn (.func fi) (caps.map ε.at_).toArray,args:=#[.func (.yield (D+1)) #[] #[]] },g.W1,fi,#[.func (.yield (D+1)) #[] #[]]++(caps.map ε.at_).toArray,g.W1,?_,?_,fun _ _=>trivial,?_,(fun h=>by cases h),?_⟩
  ·have:=run_enterLoop_outer (P:=P) (w:=w) fnid a.tmps #[p] assign body
   rw [hD] at this
   rw [show (Wf b.ro).round=none from hro,hgdef]
   exact this
  ·simp only [resolve,hval,C.den,fnDen]
   simp [go_sem]
  ·have hen':∀ args w,(callFunc fi args).run P w=.ok (.enter fi args) w:=hen
   simp [invoke,go_sem,hen']
  ·refine Q7t.2 ?_
   have hcall:=hit Xe rfl rfl hyields _ g.W1 hgx
   have hargs2:((SV.c (.h (preI.length+1))::argsI).map (SV.den (σ.map ε.ent++[⟨undef,Xe.ro⟩,⟨.func (.yield Xe.l) #[] #[],g.fpOf (I x0) ε⟩]))).toArray=#[.func (.yield (D+1)) #[] #[]]++(caps.map ε.at_).toArray:=by
    have e1:argsI.map (SV.den (σ.map ε.ent++[⟨undef,Xe.ro⟩,⟨.func (.yield Xe.l) #[] #[],g.fpOf (I x0) ε⟩]))=caps.map ε.at_:=by
     rw [hcaps,hargs]
     refine List.map_congr_left fun s hs'=>Q08 (List.all_eq_true.1 c2 s hs') (fun r hr=>?_)
     unfold Env.at_ Env.ent
     rw [List.getD_eq_getElem?_getD,List.getD_eq_getElem?_getD,List.getElem?_append_left W117]
    have e2:SV.den (σ.map ε.ent++[⟨undef,Xe.ro⟩,⟨.func (.yield Xe.l) #[] #[],g.fpOf (I x0) ε⟩]) (.c (.h (preI.length+1)))=.func (.yield (D+1)) #[] #[]:=by
     show Env.at_ _ _=_
     unfold Env.at_ Env.ent
     rw [List.getD_eq_getElem?_getD,List.getElem?_append_right W117]
     simp [hl,Xe,gD]
    rw [List.map_cons,e1,e2]
    simp
   rw [hargs2] at hcall
   refine hcall.mono ?_
   rintro e w3 ⟨res,post,ε3,⟨k3,al,hal,hpx⟩,rfl,hpre3,hreg3,hfr3⟩
   obtain ⟨_,w1',hG3,hsz3,hb3⟩:=hreg3.reg _ _ hpx
   have hfrx:Fr (g.fpOf (I x0) ε) g.W1 w3:=by
    refine ⟨hfr3.os,hfr3.tape,hfr3.output,hfr3.size,fun k hk hn=>hfr3.block k hk (fun ⟨i,r,h3,h4,h5⟩=>hn ?_)⟩
    by_cases hil:i<preI.length
    ·rw [List.getElem?_append_left hil] at h3
     rw [hnx i r h3] at h4;cases h4
    ·rw [List.getElem?_append_right W37] at h3
     by_cases h6:i=preI.length
     ·subst h6;simp at h3;subst h3;cases h4
     ·by_cases h7:i=preI.length+1
      ·subst h7
       unfold Env.fp Env.ent at h5
       rw [List.getD_eq_getElem?_getD,List.getElem?_append_right W117] at h5
       simp [hl] at h5
       exact h5
      ·have:i-preI.length=(i-preI.length-2)+2:=by omega
       rw [this] at h3;simp at h3
   have hnro:∀ k,xro k→¬ g.fpOf (I x0) ε k:=fun k hk h=>by
    rcases h with h | h | h
    ·have:=(hxlt k hk).1;omega
    ·have:=(hxlt k hk).1;omega
    ·exact h.2 (by rw [gro];exact hk)
   have hG4:g.G I J Jx k3 al (ε3.fp (preI.length+1)) w3:=Rng.G.move hG3 hsz3 hb3 (fun k hk=>by
    rw [gro] at hk
    exact hfrx.block k (by rw [hW1sz];have:=(hxlt k hk).1;omega) (hnro k hk))
   have hfrb3:Fr b.m b.w w3:=by
    refine (Qbw (Qbw hs.below hfrW1 (fun k h=>h.elim)) hfrx (fun k hk hlt=>?_))
    rcases hk with h | h | ⟨⟨i,r,h3,h4,h5⟩,h6⟩
    ·omega
    ·omega
    ·cases hx:r.excl with
     | false=>exact absurd (by rw [gro,← hxro];exact ⟨i,r,hI▸h3,h4,hx,h5⟩) h6
     | true =>
       rcases hs.regs.lim i r (hI▸h3) hx k h5 with h | h
       ·omega
       ·exact h
   obtain ⟨x4,ε4,hfp4,hG4⟩:=hG4
   have hout:∀ (stt:LoopState) (jump:Option Code),stt≠.busy→g.At (I x4) ε4 stt jump w3→∃ w4,(Instr.endLoop (D+1)).run P w3=.ok jump w4 ∧
    ∀ (kk:List K),RunF P fn n0 (Rt P fn S) ⟨kk,{ N:=st'.N,fr:=keepFr nf st'.fr,rg:=I x4,wr:=st'.wr }⟩ →
     contQ P { w:=w4,e:=b.e,m:=fun k=>b.M k∧k≠D∧k≠D+1,l:=fun k=>b.L k∧k≠D∧k≠D+1,ro:=b.ro,d:=mark D::b.d } (Rt P fn S { w:=w4,e:=b.e,m:=fun k=>b.M k∧k≠D∧k≠D+1,l:=fun k=>b.L k∧k≠D∧k≠D+1,ro:=b.ro,d:=mark D::b.d }) kk .normal { a with defers:=mark D::a.defers } w4 ∧
     (∀ e a' w',Rt P fn S { w:=w4,e:=b.e,m:=fun k=>b.M k∧k≠D∧k≠D+1,l:=fun k=>b.L k∧k≠D∧k≠D+1,ro:=b.ro,d:=mark D::b.d } e a' w'→Rt P fn S b e a' w'):=by
    intro stt jump hne hA4
    have hl4:=hA4.loop
    have hd4:=hA4.mrk
    rw [gD] at hl4 hd4
    have hlt4:D+1<w3.heap.size:=(Array.getElem?_eq_some_iff.1 hl4).1
    refine ⟨_,run_endLoop hl4 hne,fun kk hrun=>?_⟩
    generalize hw4:w3.putObj (D+1) _=w4
    have hsz4:w4.heap.size=w3.heap.size:=by rw [← hw4];simp
    have hfr4:Fr b.m b.w w4:=by
     rw [← hw4]
     exact hfrb3.step rfl rfl rfl W148 (fun k hk _=>World.putObj_heap_other W37)
    have hreg4:RegsOk ε4 g.bM g.bL w4 (I x4):=by
     rw [← hw4,← gD]
     exact Rng.At.put hA4.regs hA4.off
    have hbM':g.bM=fun k=>b.M k∧k≠D∧k≠D+1:=by rw [hgdef]
    have hbL':g.bL=fun k=>b.L k∧k≠D∧k≠D+1:=by rw [hgdef]
    refine ⟨?_,fun e a' w' hrt=>Rt.unmark rfl hbD W37 ?_ hfr4 e a' w' hrt⟩
    ·unfold RunF at hrun
     refine hrun { w:=w4,e:=b.e,m:=fun k=>b.M k∧k≠D∧k≠D+1,l:=fun k=>b.L k∧k≠D∧k≠D+1,ro:=b.ro,d:=mark D::b.d } hb { a with defers:=mark D::a.defers } w4 ⟨ε4,⟨⟨?_,fun _=>hro⟩,hs.size,fun e he=>?_,?_,Fr.refl _ _,?_⟩⟩
     ·show mark D::a.defers=mark D::b.d
      rw [hs.defs.1]
     ·obtain ⟨h5,h6⟩:=List.mem_filter.1 he
      rw [Bool.and_eq_true] at h6
      refine EnOk.same (hs.fr e h5) h6.2 (fun r hr=>?_)
      rw [Q1x (l:=g.hs0) hAt0.hs W37,Q1x (l:=g.hs0) hA4.hs W37]
     ·exact hreg4.narrow (fun i r h1 h2 k h3=>.inr (by have:=hreg4.lim i r h1 h2 k h3;rw [hbM'] at this;exact this)) (fun i r h1 h2 k h3=>.inr (by have:=(hreg4.lt i r h1 h2 k h3).2;rw [hbL'] at this;exact this))
     ·exact List.IsPrefix.trans (List.prefix_of_prefix_length_le hs.pre hAt0.hs (by rw [hb,hhl];exact hn0l)) hA4.hs
    ·rw [← hw4]
     exact (World.putObj_heap_other W37).trans hd4
   rcases hG4 with ⟨rfl,hJ4,hA4⟩ | ⟨rfl,cd,hJ4,hA4⟩
   ·obtain ⟨w4,h5,h6⟩:=hout _ _ W148 hA4
    have hk3:=hal rfl
    have hk3':k3=n:=hk3
    subst hk3'
    obtain ⟨h7,h8⟩:=h6 k (hdone x4 hJ4)
    refine ⟨none,w4,h5,?_⟩
    show contQ P b (Rt P fn S b) k .normal { a with defers:=mark D::a.defers } w4
    exact Q33 (P:=P) (b:=b) (b':={ w:=w4,e:=b.e,m:=fun k=>b.M k∧k≠D∧k≠D+1,l:=fun k=>b.L k∧k≠D∧k≠D+1,ro:=b.ro,d:=mark D::b.d }) rfl h8 k hj _ _ _ h7
   ·obtain ⟨w4,h5,h6⟩:=hout _ _ W148 hA4
    obtain ⟨h7,h8⟩:=h6 _ (hstop cd x4 hJ4)
    refine ⟨some cd,w4,h5,?_⟩
    show contQ P b (Rt P fn S b) (.code cd::k) .normal { a with defers:=mark D::a.defers } w4
    exact Q33 (P:=P) (b:=b) (b':={ w:=w4,e:=b.e,m:=fun k=>b.M k∧k≠D∧k≠D+1,l:=fun k=>b.L k∧k≠D∧k≠D+1,ro:=b.ro,d:=mark D::b.d }) rfl h8 (.code cd::k) (by simp [K.isJmp,hj]) _ _ _ h7
 all_goals first | (unfold callV at h;split at h<;>simp at h;done) | (split at h<;>simp at h)
end
def openK:Nat→List K→List K
 | n+1,.code (.seq a b)::k=>openK n (.code a::.code b::k)
 | n+1,.code .skip::k=>openK n k
 | n+1,.code (.block id c)::k=>openK n (.code c::.blk id::k)
 | _,k=>k
theorem Gr {P:Program} {b:Base} {Q:Exit→Act→World→Prop} {a:Act} {w:World}:∀ (n:Nat) (k:List K),contQ P b Q (openK n k) .normal a w→contQ P b Q k .normal a w
 | 0,k,h=>by simpa [openK] using h
 | n+1,k,h=>by
   unfold openK at h
   split at h
   ·rename_i heq
    cases heq
    exact wpIn_seq (Gr _ _ h)
   ·rename_i heq
    cases heq
    exact wpIn_skip (Gr _ _ h)
   ·rename_i heq
    cases heq
    exact wpIn_block (Gr _ _ h)
   ·exact h
theorem RunF.cut {P:Program} [hw:Wide P] {fn:Func} {n0:Nat} {U:Tgt} {c:Cfg} {X:Type} (I:X→St) (J:X→Prop) (h1:RunF P fn n0 U ⟨insJ (AtSt I J) (openK 50 c.k),c.st⟩) (h2:∀ x,J x→RunF P fn n0 U ⟨restK (openK 50 c.k),I x⟩):RunF P fn n0 U c:=by
 unfold RunF at *
 intro b hb a w hs
 exact Gr 50 _ (Q82 _ (fun a w ⟨x,hx,hs⟩=>h2 x hx b hb a w hs) (h1 b hb a w hs))
def flatK:Nat→List K→List K
 | n+1,.code (.seq a b)::k=>flatK n (.code a::.code b::k)
 | n+1,x::k=>x::flatK n k
 | _,k=>k
theorem Q05 {P:Program} [hw:Wide P] {b:Base} {Q:Exit→Act→World→Prop}:∀ (n:Nat) (k:List K) (e:Exit) (a:Act) (w:World),contQ P b Q (flatK n k) e a w→contQ P b Q k e a w
 | 0,k,e,a,w,h=>by simpa [flatK] using h
 | n+1,k,e,a,w,h=>by
   unfold flatK at h
   split at h
   ·rename_i heq
    cases heq
    have h1:=Q05 _ _ e a w h
    cases e with
    | normal=>exact wpIn_seq h1
    | _=>exact h1
   ·rename_i heq
    cases heq
    exact Q0x (fun e a w hq=>Q05 _ _ e a w hq) _ e a w h
   ·exact h
def cutK (J:Base→Act→World→Prop):Nat→List K→List K
 | 0,k=>.jmp J::k
 | m+1,x::k=>x::cutK J m k
 | _+1,[]=>[.jmp J]
theorem Q34 {P:Program} [hw:Wide P] {b:Base} {Q:Exit→Act→World→Prop} {J:Base→Act→World→Prop}:∀ (m:Nat) (k:List K),(∀ a w,J b a w→contQ P b Q (k.drop m) .normal a w)→∀ e a w,contQ P b Q (cutK J m k) e a w→contQ P b Q k e a w
 | 0,k,h,e,a,w,hq=>by
   unfold cutK at hq
   cases e with
   | normal=>exact h a w hq
   | _=>exact hq
 | m+1,[],h,e,a,w,hq=>by
   unfold cutK at hq
   cases e with
   | normal=>exact h a w hq
   | _=>exact hq
 | m+1,x::k,h,e,a,w,hq=>by
   unfold cutK at hq
   exact Q0x (fun e a w hq=>Q34 m k h e a w hq) _ e a w hq
theorem RunF.cutm {P:Program} [hw:Wide P] {fn:Func} {n0:Nat} {U:Tgt} {c:Cfg} {X:Type} (m:Nat) (I:X→St) (J:X→Prop) (h1:RunF P fn n0 U ⟨cutK (AtSt I J) m (flatK 200 c.k),c.st⟩) (h2:∀ x,J x→RunF P fn n0 U ⟨(flatK 200 c.k).drop m,I x⟩):RunF P fn n0 U c:=by
 unfold RunF at *
 intro b hb a w hs
 exact Q05 200 _ _ _ _ (Q34 m _ (fun a w ⟨x,hx,hs⟩=>h2 x hx b hb a w hs) _ _ _ (h1 b hb a w hs))
attribute [irreducible] endEnt Cfg.rgF Cfg.rgA Cfg.rgB Cfg.rgK Cfg.rgC
end Go.Tx
namespace Go.Tx
open Go
def Cfg.mrg (P:Program) (c:Cfg) (m:Nat) (T:MT) (n:Nat) (has:KA T.K→Bool) (f:KA T.K→KA T.V) (r cnt:Nat):Option Cfg:=
 match (seg P 5000 c.k c.st).2 with
 | .op all o todo k st=>match o.op,o.guard with
   | .range t x,none=>match opndC st [] x with
     | some (.h m')=>if Nat.beq m m'&&Nat.beq T.t t&&st.scp then
        (putSt { st with rg:=st.rg.set m (.mp T n has f (some ⟨r,has,cnt,none⟩))++[.itr r] } o.dst [] (.c (.h st.rg.length))).map fun st'=>⟨.ops all todo::k,st'⟩
       else none
     | _=>none
   | _,_=>none
 | _=>none
def orNo (c:Option Cfg):Cfg:=match c with
 | some c'=>c'
 | none=>noCfg
def Cfg.rnil (P:Program) (c:Cfg) (r:Nat) (x:Bool):Option Cfg:=
 match (seg P 5000 c.k c.st).2 with
 | .op all o todo k st=>match o.op,o.guard with
   | .binOp .eql t u v _,none=>match opndC st [] u,opndC st [] v,sliceOf P t with
     | some (.h r'),some cv,some _=>if Nat.beq r r'&&isNil cv then (putSt st o.dst [] (.c (.b x))).map fun st'=>⟨.ops all todo::k,st'⟩ else none
     | _,_,_=>none
   | _,_=>none
 | _=>none
section
variable {P:Program} [hw:Wide P] {fn:Func} {n0:Nat} {S:SV→List Reg→Prop} {U:Tgt} {c:Cfg} {vc:List Prop}
theorem Qdk {o:Oper} (h:o.guard=none) (f:Nat→Option Bool):Region.wanted o f=true:=by
 unfold Region.wanted;rw [h]
theorem Q86 (t:TypeId) (x y:Option Addr) (i j k l:Nat):binOp .eql t (.slice x i j) (.slice y k l)=(do pure (.bool (← Op.equal t (.slice x i j) (.slice y k l)))):=rfl
theorem RunF.rnil (r:Nat) {n:Nat} (h:see P fn c=(vc,.op)) (hv:Conj vc) (hm:lenAt (c.at P) r=some n) (hsome:∀ x,(c.rnil P r x).isSome=true)
 (next:∀ x:Bool,(x=true→n=0)→RunF P fn n0 U (orNo (c.rnil P r x))):RunF P fn n0 U c:=by
 unfold RunF at next ⊢
 intro b hb
 unfold see at h
 unfold Cfg.at at hm
 unfold Cfg.rnil at next hsome
 generalize hg:seg P 5000 c.k c.st=rr at h hm next hsome
 obtain ⟨vc',out⟩:=rr
 cases out<;>simp only [Prod.mk.injEq,reduceCtorEq,and_false] at h
 case op all o todo k st =>
  obtain ⟨rfl,_⟩:=h
  refine Qn hw.mixed 5000 _ _ _ _ hg hv.toAll (fun a w hsat=>?_)
  obtain ⟨ε,hs⟩:=hsat
  simp only at hm next hsome
  obtain ⟨dst,op,type,pos,after,guard⟩:=o
  simp only at hsome next
  have hfind:∃ t u v q e cv,op=.binOp .eql t u v q∧guard=none∧opndC st [] u=some (.h r)∧opndC st [] v=some cv∧isNil cv=true∧sliceOf P t=some e:=by
   have h0:=hsome true
   cases op<;>first | (cases h0;done) | skip
   rename_i bop t u v q
   cases bop<;>first | (cases h0;done) | skip
   cases guard with
   | some g=>cases h0
   | none =>
     simp only at h0
     split at h0
     ·rename_i r' cv e hx hy hse
      split at h0
      ·rename_i hbc
       simp only [Bool.and_eq_true] at hbc
       have:=Nat.eq_of_beq_eq_true hbc.1
       subst this
       exact ⟨t,u,v,q,e,cv,rfl,rfl,hx,hy,hbc.2,hse⟩
      ·cases h0
     ·cases h0
  obtain ⟨t,u,v,q,e,cv,rfl,rfl,hx,hy,hni,hse⟩:=hfind
  have hcv:cv=.v (.slice none 0 0):=by
   unfold isNil at hni
   split at hni
   ·rfl
   ·cases hni
  subst hcv
  have hbq:(Nat.beq r r&&isNil (.v (.slice none 0 0)))=true:=by simp [isNil]
  simp only [hx,hy,hse,if_pos hbq] at hsome next
  have hrow:∃ A c,ε.at_ r=.slice A n c∧(0<n→∃ ad,A=some ad):=by
   unfold lenAt at hm
   split at hm
   ·rename_i hr
    cases hm
    obtain ⟨A,c,h1,_,h2⟩:=J5 (Ql hs hr).1
    exact ⟨A,c,h1,h2⟩
   ·rename_i hr
    cases hm
    obtain ⟨A,c,h1,_,h2⟩:=Zz (Ql hs hr).1
    exact ⟨A,c,h1,h2⟩
   ·cases hm
  obtain ⟨A,cp,hA,hA0⟩:=hrow
  refine Q02 (Qdk rfl _) ?_
  unfold Oper.wp
  have hex:(execOp a.eval { dst,op:=.binOp .eql t u v q,type,pos,after,guard:=none }).run P w=.ok (.value ((SV.c (.b A.isNone)).den ε)) w:=by
   simp only [execOp,Q4 hs (gHolds_nil a) hx,Q4 hs (gHolds_nil a) hy]
   refine Ya ?_
   simp only [C.den,hA]
   simp only [go_sem,Sem.run_bind,Sem.run_pure,Result.andThen_ok,Q86,run_equal_slice_nil w t e A n cp (Qz hse),SV.den,C.den]
  rw [hex,Oper.upon_value]
  have hso:=hsome A.isNone
  have hn1:=next A.isNone (fun hx=>by
   rcases Nat.eq_zero_or_pos n with h | h
   ·exact h
   ·obtain ⟨ad,h2⟩:=hA0 h
    rw [h2] at hx;cases hx)
  cases hput:putSt st dst [] (.c (.b A.isNone)) with
  | none=>rw [hput] at hso;cases hso
  | some st' =>
    rw [hput] at hn1
    simp only [Option.map_some,orNo] at hn1
    exact hn1 b hb _ w ⟨_,Qj hs hput (fun _=>rfl) (fun hn=>absurd (gHolds_nil _) hn)⟩
 all_goals first | (unfold callV at h;split at h<;>simp at h;done) | (split at h<;>simp at h)
end
attribute [irreducible] Cfg.mrg Cfg.rnil
end Go.Tx
namespace Go.Tx
open Go Go.RowKit
def foldL:List (Nat×(Nat→TC))→St→Option (St×List Prop)
 | [],st=>some (st,[])
 | (r,g)::l,st=>match foldSt st r g with
   | some (st1,vc1)=>match foldL l st1 with
     | some (st2,vc2)=>some (st2,vc1++vc2)
     | none=>none
   | none=>none
theorem Q06 {b:Base} {a:Act} {w:World}:∀ {l:List (Nat×(Nat→TC))} {st st':St} {ε:Env} {vc:List Prop},SatE b st ε a w→foldL l st=some (st',vc)→All vc→∃ ε',SatE b st' ε' a w∧∀ i,Env.at_ ε' i=ε.at_ i
 | [],st,st',ε,vc,hs,h,hv=>by
   cases h
   exact ⟨ε,hs,fun _=>rfl⟩
 | (r,g)::l,st,st',ε,vc,hs,h,hv=>by
   simp only [foldL] at h
   split at h
   ·rename_i st1 vc1 h1
    split at h
    ·rename_i st2 vc2 h2
     cases h
     obtain ⟨ε1,g1,e1⟩:=Q84 hs h1 hv.left
     obtain ⟨ε2,g2,e2⟩:=Q06 g1 h2 hv.right
     exact ⟨ε2,g2,fun i=>(e2 i).trans (e1 i)⟩
    ·cases h
   ·cases h
theorem Qml {ε ε':Env} (h:∀ i,Env.at_ ε' i=ε.at_ i) (c:C):c.den ε'=c.den ε:=by
 have hf:Env.at_ ε'=Env.at_ ε:=funext h
 cases c<;>simp only [C.den,hf]
theorem Qec {ε ε':Env} (h:∀ i,Env.at_ ε' i=ε.at_ i) (v:SV):v.den ε'=v.den ε:=by
 have hc:C.den ε'=C.den ε:=funext (Qml h)
 have hd:denPart ε'=denPart ε:=funext fun x=>by simp only [denPart,hc]
 cases v<;>simp only [SV.den,hc,hd]
def foldS (fs:List (Nat×(Nat→TC))) (st:St):St:=match foldL fs st with
 | some x=>x.1
 | none=>noCfg.st
section
variable {P:Program} [hw:Wide P] {fn:Func} {n0:Nat} {S:SV→List Reg→Prop} {U:Tgt} {c:Cfg} {vc:List Prop}
theorem RunF.retF {v:SV} (res:SV) (post:List Reg) (π:List Nat) (fs:List (Nat×(Nat→TC))) {vc2:List Prop} {E:List F} (h:see P fn c=(vc,.ret v)) (hv:Conj vc) (hS:S res post) (hf:(foldL fs (c.at P)).map (·.2)=some vc2) (hv2:Conj vc2)
 (he:retEnt n0 π (foldS fs (c.at P)) v res post=some E) (hE:AllF E):RunF P fn n0 (Rt P fn S) c:=by
 unfold RunF
 intro b hb
 unfold see at h
 unfold Cfg.at at he hf
 generalize hg:seg P 5000 c.k c.st=r at h he hf
 obtain ⟨vc',out⟩:=r
 cases out<;>simp only [Prod.mk.injEq,reduceCtorEq,and_false] at h
 ·rename_i st
  split at h
  ·rename_i v' vc2' hr
   simp only [Prod.mk.injEq,View.ret.injEq] at h
   obtain ⟨rfl,rfl⟩:=h
   refine Qn hw.mixed 5000 _ _ _ _ hg hv.toAll.left (fun a w ⟨ε,hs⟩=>?_)
   unfold foldS at he
   simp only at he hf
   cases hx:foldL fs st with
   | none=>rw [hx] at hf;cases hf
   | some y =>
     obtain ⟨st2,vc3⟩:=y
     rw [hx] at hf he
     simp only [Option.map_some,Option.some.injEq] at hf
     subst hf
     obtain ⟨ε2,g2,e2⟩:=Q06 hs hx hv2.toAll
     have:=Q1v hb he hE hS g2
     rw [Qec e2] at this
     exact (Rt.mk hs.defs.1 (fun Ds hD=>Q04 hs hr hv.toAll.right hD) this).1
  ·simp at h
 all_goals first | (unfold callV at h;split at h<;>simp at h;done) | (split at h<;>simp at h)
theorem RunF.nextF {X:Type} {I:X→St} {J:X→Prop} {m:X→Nat} {x:X} (x':X) (π:List Nat) (fs:List (Nat×(Nat→TC))) {vc2:List Prop} {E:List F} (h:see P fn c=(vc,.jump (Next I J m x))) (hv:Conj vc) (hf:(foldL fs (c.at P)).map (·.2)=some vc2) (hv2:Conj vc2)
 (he:ent n0 π (foldS fs (c.at P)) (I x')=some E) (hE:AllF E) (hm:m x'<m x) (hJ:J x'):RunF P fn n0 U c:=by
 unfold RunF
 intro b hb
 unfold see at h
 unfold Cfg.at at he hf
 generalize hg:seg P 5000 c.k c.st=r at h he hf
 obtain ⟨vc',out⟩:=r
 cases out<;>simp only [Prod.mk.injEq,reduceCtorEq,and_false] at h
 case jump J' st =>
  simp only [View.jump.injEq] at h
  obtain ⟨rfl,rfl⟩:=h
  unfold foldS at he
  simp only at he hf
  cases hx:foldL fs st with
  | none=>rw [hx] at hf;cases hf
  | some y =>
    obtain ⟨st2,vc3⟩:=y
    rw [hx] at hf he
    simp only [Option.map_some,Option.some.injEq] at hf
    subst hf
    exact Qn hw.mixed 5000 _ _ _ _ hg hv.toAll (fun a w ⟨ε,hs⟩=>by
     obtain ⟨ε2,g2,_⟩:=Q06 hs hx hv2.toAll
     exact ⟨x',hm,hJ,J6 hb he hE ⟨ε2,g2⟩⟩)
 all_goals first | (unfold callV at h;split at h<;>simp at h;done) | (split at h<;>simp at h)
theorem RunF.finF {v:SV} (res:SV) (post:List Reg) (π:List Nat) (fs:List (Nat×(Nat→TC))) {vc2:List Prop} {E:List F} (h:see P fn c=(vc,.fin v)) (hv:Conj vc) (hS:S res post) (hf:(foldL fs (c.at P)).map (·.2)=some vc2) (hv2:Conj vc2)
 (he:retEnt n0 π (foldS fs (c.at P)) v res post=some E) (hE:AllF E):RunF P fn n0 (Rt P fn S) c:=by
 unfold RunF
 intro b hb
 unfold see at h
 unfold Cfg.at at he hf
 generalize hg:seg P 5000 c.k c.st=r at h he hf
 obtain ⟨vc',out⟩:=r
 cases out<;>simp only [Prod.mk.injEq,reduceCtorEq,and_false] at h
 case fin st =>
  split at h
  ·rename_i v' vc2' hr
   simp only [Prod.mk.injEq,View.fin.injEq] at h
   obtain ⟨rfl,rfl⟩:=h
   refine Qn hw.mixed 5000 _ _ _ _ hg hv.toAll.left (fun a w ⟨ε,hs⟩=>?_)
   unfold foldS at he
   simp only at he hf
   cases hx:foldL fs st with
   | none=>rw [hx] at hf;cases hf
   | some y =>
     obtain ⟨st2,vc3⟩:=y
     rw [hx] at hf he
     simp only [Option.map_some,Option.some.injEq] at hf
     subst hf
     obtain ⟨ε2,g2,e2⟩:=Q06 hs hx hv2.toAll
     have:=Q1v hb he hE hS g2
     rw [Qec e2] at this
     exact (Rt.mk hs.defs.1 (fun Ds hD=>Q04 hs hr hv.toAll.right hD) this).2
  ·simp at h
 all_goals first | (unfold callV at h;split at h<;>simp at h;done) | (split at h<;>simp at h)
end
inductive Side where
 | n (a:Nat)
 | i (a:Int)
 | b (a:Bool)
 | v (a:Value)
 | t (a:TC)
 | f (a:Nat→Nat→TC)
 | x (a:Ext)
 | p (a:Prop)
def F.l:F→Side
 | .n x _=>.n x
 | .i x _=>.i x
 | .b x _=>.b x
 | .v x _=>.v x
 | .t x _=>.t x
 | .fn _ x _=>.f x
 | .fx _ _ x _=>.f x
 | .ex x _=>.x x
 | .p x=>.p x
def F.r:F→Side
 | .n _ x=>.n x
 | .i _ x=>.i x
 | .b _ x=>.b x
 | .v _ x=>.v x
 | .t _ x=>.t x
 | .fn _ _ x=>.f x
 | .fx _ _ _ x=>.f x
 | .ex _ x=>.x x
 | .p _=>.p True
theorem F.of_sides {f:F} (h:f.l=f.r):f.prop:=by
 cases f<;>simp only [F.l,F.r,Side.n.injEq,Side.i.injEq,Side.b.injEq,Side.v.injEq,Side.t.injEq,Side.f.injEq,Side.x.injEq,Side.p.injEq] at h<;>simp only [F.prop,h]<;>(try intros)<;>trivial
def cutF:Nat→List Nat→List F→List F×List F
 | _,_,[]=>([],[])
 | _,[],f::r=>(f::r,[])
 | j,m::ms,f::r=>if Nat.beq j m then ((cutF (j+1) ms r).1,f::(cutF (j+1) ms r).2) else (f::(cutF (j+1) (m::ms) r).1,(cutF (j+1) (m::ms) r).2)
theorem cutF_mem:∀ {l:List F} {j:Nat} {M:List Nat} {f:F},f∈l→f∈(cutF j M l).1∨f∈(cutF j M l).2
 | [],_,_,_,h=>by cases h
 | x::r,j,[],f,h=>.inl h
 | x::r,j,m::ms,f,h=>by
   simp only [cutF]
   split
   ·cases h with
    | head=>exact .inr (.head _)
    | tail _ h=>exact (cutF_mem h).imp id (List.mem_cons_of_mem _)
   ·cases h with
    | head=>exact .inl (.head _)
    | tail _ h=>exact (cutF_mem h).imp (List.mem_cons_of_mem _) id
def lF (M:List Nat) (o:Option (List F)):Option (List Side×List Prop):=match o with
 | some l=>some ((cutF 0 M l).1.map F.l,(cutF 0 M l).2.map F.prop)
 | none=>none
def rF (M:List Nat) (E:List Prop) (o:Option (List F)):Option (List Side×List Prop):=match o with
 | some l=>some ((cutF 0 M l).1.map F.r,E)
 | none=>some ([],[])
theorem Yj {M:List Nat} {E:List Prop} {o:Option (List F)} (h:lF M o=rF M E o) (hE:Conj E):∃ l,o=some l∧AllF l:=by
 cases o with
 | none=>cases h
 | some l =>
   simp only [lF,rF,Option.some.injEq,Prod.mk.injEq] at h
   obtain ⟨h1,h2⟩:=h
   refine ⟨l,rfl,fun f hf=>?_⟩
   rcases cutF_mem (j:=0) (M:=M) hf with h3 | h3
   ·obtain ⟨i,hi⟩:=List.mem_iff_getElem?.1 h3
    have e:((cutF 0 M l).1.map F.l)[i]?=((cutF 0 M l).1.map F.r)[i]?:=by rw [h1]
    simp only [List.getElem?_map,hi,Option.map_some,Option.some.injEq] at e
    exact F.of_sides e
   ·subst h2
    exact hE.all _ (List.mem_map_of_mem h3)
def idN:Nat→Nat→List Nat
 | _,0=>[]
 | j,n+1=>j::idN (j+1) n
def piN (π:List Nat) (n:Nat):List Nat:=match π with
 | []=>idN 0 n
 | _::_=>π
def View.v:View→SV
 | .ret v=>v
 | .fin v=>v
 | _=>.u
def View.as:View→List SV
 | .call _ a=>a
 | .gcall _ a=>a
 | .yield _ a=>a
 | _=>[]
structure Lp (X:Type) where
 I:X→St
 J:X→Prop
 m:X→Nat
section
variable {P:Program} [hw:Wide P] {fn:Func} {n0:Nat} {S:SV→List Reg→Prop} {U:Tgt} {c:Cfg}
theorem tz (keep:List Nat) (next:RunF P fn n0 U (c.fz keep)):RunF P fn n0 U c:=RunF.fz keep next
theorem Q0 (x:Bool) (ht:x=true→RunF P fn n0 U (c.thn P)) (he:x=false→RunF P fn n0 U (c.els P)) (vc:List Prop:=[]) (hv:Conj vc:=by exact trivial) (h:see P fn c=(vc,.cond x):=by kernel_rfl):RunF P fn n0 U c:=RunF.cond h hv ht he
theorem Q1 {res:SV} {post:List Reg} (π:List Nat:=[]) (M:List Nat:=[]) (E:List Prop:=[]) (hE:Conj E:=by exact trivial) (vc:List Prop:=[]) (hv:Conj vc:=by exact trivial) (hS:S res post:=by exact ⟨rfl,rfl⟩)
 (h:see P fn c=(vc,.ret (see P fn c).2.v):=by kernel_rfl) (he:lF M (retEnt n0 (piN π post.length) (c.at P) (see P fn c).2.v res post)=rF M E (retEnt n0 (piN π post.length) (c.at P) (see P fn c).2.v res post):=by kernel_rfl):RunF P fn n0 (Rt P fn S) c:=
 let ⟨_,h1,h2⟩:=Yj he hE
 RunF.ret res post _ h hv hS h1 h2
theorem Qmm {res:SV} {post:List Reg} (π:List Nat:=[]) (M:List Nat:=[]) (E:List Prop:=[]) (hE:Conj E:=by exact trivial) (vc:List Prop:=[]) (hv:Conj vc:=by exact trivial) (hS:S res post:=by exact ⟨rfl,rfl⟩)
 (h:see P fn c=(vc,.fin (see P fn c).2.v):=by kernel_rfl) (he:lF M (retEnt n0 (piN π post.length) (c.at P) (see P fn c).2.v res post)=rF M E (retEnt n0 (piN π post.length) (c.at P) (see P fn c).2.v res post):=by kernel_rfl):RunF P fn n0 (Rt P fn S) c:=
 let ⟨_,h1,h2⟩:=Yj he hE
 RunF.fin res post _ h hv hS h1 h2
theorem Q87 {res:SV} {post:List Reg} (fs:List (Nat×(Nat→TC))) (π:List Nat:=[]) (M:List Nat:=[]) (E:List Prop:=[]) (hE:Conj E:=by exact trivial) (vc:List Prop:=[]) (hv:Conj vc:=by exact trivial) (vc2:List Prop:=[]) (hv2:Conj vc2:=by exact trivial) (hS:S res post:=by exact ⟨rfl,rfl⟩)
 (h:see P fn c=(vc,.ret (see P fn c).2.v):=by kernel_rfl) (hf:(foldL fs (c.at P)).map (·.2)=some vc2:=by kernel_rfl) (he:lF M (retEnt n0 (piN π post.length) (foldS fs (c.at P)) (see P fn c).2.v res post)=rF M E (retEnt n0 (piN π post.length) (foldS fs (c.at P)) (see P fn c).2.v res post):=by kernel_rfl):RunF P fn n0 (Rt P fn S) c:=
 let ⟨_,h1,h2⟩:=Yj he hE
 RunF.retF res post _ fs h hv hS hf hv2 h1 h2
theorem Qo4 {res:SV} {post:List Reg} (fs:List (Nat×(Nat→TC))) (π:List Nat:=[]) (M:List Nat:=[]) (E:List Prop:=[]) (hE:Conj E:=by exact trivial) (vc:List Prop:=[]) (hv:Conj vc:=by exact trivial) (vc2:List Prop:=[]) (hv2:Conj vc2:=by exact trivial) (hS:S res post:=by exact ⟨rfl,rfl⟩)
 (h:see P fn c=(vc,.fin (see P fn c).2.v):=by kernel_rfl) (hf:(foldL fs (c.at P)).map (·.2)=some vc2:=by kernel_rfl) (he:lF M (retEnt n0 (piN π post.length) (foldS fs (c.at P)) (see P fn c).2.v res post)=rF M E (retEnt n0 (piN π post.length) (foldS fs (c.at P)) (see P fn c).2.v res post):=by kernel_rfl):RunF P fn n0 (Rt P fn S) c:=
 let ⟨_,h1,h2⟩:=Yj he hE
 RunF.finF res post _ fs h hv hS hf hv2 h1 h2
theorem tWk (st':St) (next:RunF P fn n0 U ⟨c.k,st'⟩) (π:List Nat:=[]) (M:List Nat:=[]) (E:List Prop:=[]) (hE:Conj E:=by exact trivial)
 (he:lF M (ent n0 (piN π st'.rg.length) c.st st')=rF M E (ent n0 (piN π st'.rg.length) c.st st'):=by kernel_rfl):RunF P fn n0 U c:=
 let ⟨_,h1,h2⟩:=Yj he hE
 RunF.weaken st' _ h1 h2 next
theorem Qb {X:Type} (L:Lp X) (x0:X) (hJ:L.J x0) (round:∀ x,L.J x→RunF P fn n0 U (c.round P (Next L.I L.J L.m x) (L.I x))) (π:List Nat:=[]) (M:List Nat:=[]) (E:List Prop:=[]) (hE:Conj E:=by exact trivial) (vc:List Prop:=[]) (hv:Conj vc:=by exact trivial)
 (h:see P fn c=(vc,.loop):=by kernel_rfl) (he:lF M (ent n0 (piN π (L.I x0).rg.length) (c.at P) (L.I x0))=rF M E (ent n0 (piN π (L.I x0).rg.length) (c.at P) (L.I x0)):=by kernel_rfl):RunF P fn n0 U c:=
 let ⟨_,h1,h2⟩:=Yj he hE
 RunF.loop L.I L.J L.m x0 _ h hv h1 h2 hJ round
theorem Q6 {X:Type} (L:Lp X) (x x':X) (hm:L.m x'<L.m x) (hJ:L.J x') (π:List Nat:=[]) (M:List Nat:=[]) (E:List Prop:=[]) (hE:Conj E:=by exact trivial) (vc:List Prop:=[]) (hv:Conj vc:=by exact trivial)
 (h:see P fn c=(vc,.jump (Next L.I L.J L.m x)):=by kernel_rfl) (he:lF M (ent n0 (piN π (L.I x').rg.length) (c.at P) (L.I x'))=rF M E (ent n0 (piN π (L.I x').rg.length) (c.at P) (L.I x')):=by kernel_rfl):RunF P fn n0 U c:=
 let ⟨_,h1,h2⟩:=Yj he hE
 RunF.next x' _ h hv h1 h2 hm hJ
theorem Q1e {X:Type} (L:Lp X) (x x':X) (hm:L.m x'<L.m x) (hJ:L.J x') (fs:List (Nat×(Nat→TC))) (π:List Nat:=[]) (M:List Nat:=[]) (E:List Prop:=[]) (hE:Conj E:=by exact trivial) (vc:List Prop:=[]) (hv:Conj vc:=by exact trivial) (vc2:List Prop:=[]) (hv2:Conj vc2:=by exact trivial)
 (h:see P fn c=(vc,.jump (Next L.I L.J L.m x)):=by kernel_rfl) (hf:(foldL fs (c.at P)).map (·.2)=some vc2:=by kernel_rfl) (he:lF M (ent n0 (piN π (L.I x').rg.length) (foldS fs (c.at P)) (L.I x'))=rF M E (ent n0 (piN π (L.I x').rg.length) (foldS fs (c.at P)) (L.I x')):=by kernel_rfl):RunF P fn n0 U c:=
 let ⟨_,h1,h2⟩:=Yj he hE
 RunF.nextF x' _ fs h hv hf hv2 h1 h2 hm hJ
theorem Qi {X:Type} (n:Nat) (I:X→St) (J:X→Prop) (hall:upTo (fun j=>RunF P fn n0 U (c.pick P (AtSt I J) j)) n) (hk:∀ x,J x→RunF P fn n0 U (c.rest P (I x))) (vc:List Prop:=[]) (hv:Conj vc:=by exact trivial)
 (h:see P fn c=(vc,.any n):=by kernel_rfl):RunF P fn n0 U c:=RunF.any I J h hv hall hk
theorem tTo {X:Type} (I:X→St) (J:X→Prop) (x':X) (hJ:J x') (π:List Nat:=[]) (M:List Nat:=[]) (E:List Prop:=[]) (hE:Conj E:=by exact trivial) (vc:List Prop:=[]) (hv:Conj vc:=by exact trivial)
 (h:see P fn c=(vc,.jump (AtSt I J)):=by kernel_rfl) (he:lF M (ent n0 (piN π (I x').rg.length) (c.at P) (I x'))=rF M E (ent n0 (piN π (I x').rg.length) (c.at P) (I x')):=by kernel_rfl):RunF P fn n0 U c:=
 let ⟨_,h1,h2⟩:=Yj he hE
 RunF.to x' _ h hv h1 h2 hJ
theorem Q2 {f:Nat} {want:List SV} {pre:List Reg} {res:SV} {post:List Reg} (he:Enters P f) (spec:Ctr P f pre want (Det res post)) (σ:List Nat) (next:RunF P fn n0 U (c.ret P (piN σ pre.length) pre res post)) (M:List Nat:=[]) (E:List Prop:=[]) (hE:Conj E:=by exact trivial) (vc:List Prop:=[]) (hv:Conj vc:=by exact trivial)
 (h:see P fn c=(vc,.call f (see P fn c).2.as):=by kernel_rfl) (hc:lF M (callEnt (c.drawn P) (piN σ pre.length) (c.at P) pre want (see P fn c).2.as)=rF M E (callEnt (c.drawn P) (piN σ pre.length) (c.at P) pre want (see P fn c).2.as):=by kernel_rfl)
 (hok:((c.after P (piN σ pre.length) pre res post).isSome&&exclIn (c.at P).rg.length (piN σ pre.length) pre)=true:=by kernel_rfl):RunF P fn n0 U c:=
 let ⟨_,h1,h2⟩:=Yj hc hE
 RunF.call he spec _ h hv h1 h2 hok next
theorem tG {f:Nat} {want:List SV} {pre:List Reg} {res:SV} {post:List Reg} (he:Enters P f) (spec:Ctr P f pre want (Det res post)) (σ:List Nat) (next:RunF P fn n0 U (c.gret P (piN σ pre.length) res)) (M:List Nat:=[]) (E:List Prop:=[]) (hE:Conj E:=by exact trivial) (vc:List Prop:=[]) (hv:Conj vc:=by exact trivial)
 (h:see P fn c=(vc,.gcall f (see P fn c).2.as):=by kernel_rfl) (hc:lF M (callEnt true (piN σ pre.length) (c.at P) pre want (see P fn c).2.as)=rF M E (callEnt true (piN σ pre.length) (c.at P) pre want (see P fn c).2.as):=by kernel_rfl)
 (hok:(c.gafter P (piN σ pre.length) res).isSome=true:=by kernel_rfl):RunF P fn n0 U c:=
 let ⟨_,h1,h2⟩:=Yj hc hE
 RunF.gcall he spec _ h hv h1 h2 hok next
theorem Yu (r k:Nat) (next:RunF P fn n0 U (c.with_ (focSt c.st r k))) (vc:List Prop:=[]) (hv:Conj vc:=by exact trivial) (h:(focSt c.st r k).map (·.2)=some vc:=by kernel_rfl):RunF P fn n0 U c:=RunF.focus r k h hv next
theorem Qo5 (r:Nat) (g:Nat→TC) (next:RunF P fn n0 U (c.with_ (foldSt c.st r g))) (vc:List Prop:=[]) (hv:Conj vc:=by exact trivial) (h:(foldSt c.st r g).map (·.2)=some vc:=by kernel_rfl):RunF P fn n0 U c:=RunF.fold r g h hv next
theorem Qmn {X:Type} {I:X→List Reg} {J:X→Prop} {Jx:Code→X→Prop} (x:X) (hJ:J x) (π:List Nat:=[]) (M:List Nat:=[]) (E:List Prop:=[]) (hE:Conj E:=by exact trivial) (vc:List Prop:=[]) (hv:Conj vc:=by exact trivial)
 (h:see P fn c=(vc,.jump (fun b _ w=>RegsAt I J b w)):=by kernel_rfl) (he:lF M (endEnt n0 (piN π (I x).length) (c.at P) (I x))=rF M E (endEnt n0 (piN π (I x).length) (c.at P) (I x)):=by kernel_rfl):RunF P fn n0 (Tround I J Jx) c:=
 let ⟨_,h1,h2⟩:=Yj he hE
 RunF.endRound x _ h hv h1 h2 hJ
theorem Q1f {X:Ext} (hy:X.Yields P) (r rf k:Nat) (arg:SV) (hk:k<X.n) (he:X.enc k=arg) (next:∀ al:Bool,RunF P fn n0 U (c.yret P r (.ext X (k+1) al) al)) (M:List Nat:=[]) (E:List Prop:=[]) (hE:Conj E:=by exact trivial) (vc:List Prop:=[]) (hv:Conj vc:=by exact trivial)
 (h:see P fn c=(vc,.yield r (see P fn c).2.as):=by kernel_rfl) (hr:nth (c.at P).rg r=some (.ext X k true):=by kernel_rfl) (hf:nth (c.at P).rg rf=some (.froz X):=by kernel_rfl) (hle:Nat.ble (c.at P).rg.length 1000000=true:=by kernel_rfl) (hcl:arg.scp 0=true:=by kernel_rfl)
 (ha:lF M (sEqs [arg] (see P fn c).2.as)=rF M E (sEqs [arg] (see P fn c).2.as):=by kernel_rfl) (hsome:∀ al,(c.yielded P r (.ext X (k+1) al) al).isSome=true:=by intro al;cases al<;>kernel_rfl):RunF P fn n0 U c:=
 let ⟨_,h1,h2⟩:=Yj ha hE
 RunF.yield hy rf h hv hr hf hle hk he hcl h1 h2 hsome next
end
section
variable {P:Program} [hw:Wide P] {fn:Func} {n0:Nat} {c:Cfg}
theorem Qgt {S:SV→List Reg→Prop} {X:Type} {I:X→List Reg} {J:Nat→X→Prop} {Jx:Code→X→Prop} {n nf fi:Nat} {enc:Nat→SV} {stA:Nat→X→St} {preI:List Reg} {argsI:List SV} {caps:List Nat}
 (x0:X) (st':St) (π σ:List Nat) (hJ:J 0 x0) (hen:Enters P fi)
 (hit:∀ Xe:Ext,Xe.n=n→Xe.enc=enc→Xe.Yields P→Ctr P fi (preI++[.froz Xe,.ext Xe 0 true]) (.c (.h (preI.length+1))::argsI) (RangeEnd Xe (preI.length+1)))
 (hassign:∀ k x,k<n→J k x→RunF P fn nf (fun _ _ _ _=>False) (c.rgA P (AtSt (fun _:Unit=>stA k x) (fun _=>True)) st' nf (enc k) (I x)))
 (hbody:∀ k x,k<n→J k x→RunF P fn nf (Tround I (J (k+1)) Jx) (c.rgB P (fun b _ w=>RegsAt I (J (k+1)) b w) (stA k x)))
 (hdone:∀ x,J n x→RunF P fn n0 (Rt P fn S) (c.rgK P st' nf (I x)))
 (hstop:∀ cd x,Jx cd x→RunF P fn n0 (Rt P fn S) (c.rgC P cd st' nf (I x)))
 (M:List Nat:=[]) (E:List Prop:=[]) (hE:Conj E:=by exact trivial) (M2:List Nat:=[]) (E2:List Prop:=[]) (hE2:Conj E2:=by exact trivial) (vc:List Prop:=[]) (hv:Conj vc:=by exact trivial)
 (h:see P fn c=(vc,.range):=by kernel_rfl) (he:lF M (ent n0 (piN π st'.rg.length) (c.at P) st')=rF M E (ent n0 (piN π st'.rg.length) (c.at P) st'):=by kernel_rfl) (hf:c.rgF P st'=some (fi,caps):=by kernel_rfl)
 (hI:st'.rg=I x0:=by kernel_rfl) (hrd:st'.rd=false:=by kernel_rfl) (hn0:Nat.ble n0 nf=true:=by kernel_rfl) (hnf:Nat.ble nf st'.rg.length=true:=by kernel_rfl) (hle:Nat.ble st'.rg.length 1000000=true:=by kernel_rfl)
 (hc:lF M2 (callEnt false (piN σ preI.length) st' preI argsI (caps.map fun r=>.c (if isVar st' r then .p r 0 else .h r)))=rF M2 E2 (callEnt false (piN σ preI.length) st' preI argsI (caps.map fun r=>.c (if isVar st' r then .p r 0 else .h r))):=by kernel_rfl)
 (hpre:preI.all (fun r=>!r.excl)=true:=by kernel_rfl) (hσ:(piN σ preI.length).all (fun q=>match nth st'.rg q with | some h=>!h.excl&&h.live | none=>true)=true:=by kernel_rfl)
 (henc:∀ k,(enc k).scp 0=true:=by intro k;kernel_rfl) (hrdA:∀ k x,(stA k x).rd=true:=by intro _ _;kernel_rfl):RunF P fn n0 (Rt P fn S) c:=
 let ⟨_,h1,h2⟩:=Yj he hE
 let ⟨_,h3,h4⟩:=Yj hc hE2
 RunF.range x0 st' _ _ h hv h1 h2 hf hen hI hrd hn0 hnf hle hJ h3 h4 hpre hσ henc hit hassign hrdA hbody hdone hstop
end
attribute [irreducible] lF rF foldL foldS
end Go.Tx
namespace Go.Tx
open Go Go.RowKit
def insFr (e:En):List En→List En
 | []=>[e]
 | x::r=>if Nat.ble e.slot x.slot then e::x::r else x::insFr e r
def sortFr:List En→List En
 | []=>[]
 | e::r=>insFr e (sortFr r)
theorem insFr_mem {e x:En}:∀ {l:List En},x∈insFr e l→x=e∨x∈l
 | [],h=>by simpa [insFr] using h
 | y::r,h=>by
   simp only [insFr] at h
   split at h
   ·simpa using h
   ·cases h with
    | head=>exact .inr (.head _)
    | tail _ h=>exact (insFr_mem h).imp id (List.mem_cons_of_mem _)
theorem Q88 {x:En}:∀ {l:List En},x∈sortFr l→x∈l
 | [],h=>h
 | y::r,h=>by
   rcases insFr_mem h with h | h
   ·subst h;exact .head _
   ·exact .tail _ (Q88 h)
def canon (st:St):St:=fS { st with fr:=sortFr st.fr } fun s=>s
theorem Q4k {b:Base} {st:St} {a:Act} {w:World} (h:Sat b st a w):Sat b (canon st) a w:=by
 obtain ⟨ε,hs⟩:=h
 unfold canon
 rw [Qkp]
 exact ⟨ε,hs.defs,hs.size,fun e he=>hs.fr e (Q88 he),hs.regs,hs.below,hs.pre⟩
def C.refs:C→List Nat
 | .p r _=>[r]
 | .h r=>[r]
 | .e r _ _ _=>[r]
 | .fn _ _ cs=>cs
 | .ar r _ _ _ _ _ _ _=>[r]
 | .hs r _ _=>[r]
 | _=>[]
def refsL:List C→List Nat
 | []=>[]
 | c::r=>c.refs++refsL r
def refsT:List (Bool×List C)→List Nat
 | []=>[]
 | x::r=>refsL x.2++refsT r
def SV.refs:SV→List Nat
 | .c x=>x.refs
 | .agg cs=>refsL cs
 | .tup vs=>refsT vs
 | .u=>[]
def refsF:List En→List Nat
 | []=>[]
 | e::r=>e.sv.refs++refsF r
def addNew (n m:Nat):List Nat→List Nat→List Nat
 | [],acc=>acc
 | x::r,acc=>addNew n m r (if Nat.ble n x&&Nat.blt x m&&!hasN x acc then acc++[x] else acc)
def upN:Nat→List Nat
 | 0=>[]
 | n+1=>upN n++[n]
def ordR (n0:Nat) (st:St):List Nat:=addNew n0 st.rg.length (upN st.rg.length) (addNew n0 st.rg.length (refsF (sortFr st.fr)) (upN n0))
def ixOf (x:Nat):List Nat→Nat
 | []=>0
 | y::r=>if Nat.beq x y then 0 else ixOf x r+1
def invOk (π:List Nat):Nat→Bool
 | 0=>true
 | n+1=>(match nth π (ixOf n π) with | some p=>Nat.beq p n | none=>false)&&invOk π n
def pickR (rg:List Reg) (τ:Nat→Nat):List Nat→Option (List Reg)
 | []=>some []
 | p::r=>match nth rg p,pickR rg τ r with
   | some x,some l=>some (x.ren τ::l)
   | _,_=>none
def permSt (n0:Nat) (π:List Nat) (st:St):Option St:=
 if st.scp&&Nat.beq π.length st.rg.length&&noDup π&&idOn π n0&&invOk π st.rg.length then
  (pickR st.rg (fun r=>ixOf r π) π).map fun rg=>{ st with fr:=st.fr.map fun e=>{ e with sv:=e.sv.ren fun r=>ixOf r π },rg }
 else none
theorem Q89 {π:List Nat}:∀ {n:Nat},invOk π n=true→∀ r,r<n→π[ixOf r π]?=some r
 | 0,_,r,hr=>by omega
 | n+1,h,r,hr=>by
   simp only [invOk,Bool.and_eq_true] at h
   by_cases hrn:r=n
   ·subst hrn
    obtain ⟨h1,_⟩:=h
    split at h1
    ·rename_i p hp
     rw [Qp] at hp
     rw [hp,Nat.eq_of_beq_eq_true h1]
    ·cases h1
   ·exact Q89 h.2 r W37
theorem Q8a {rg:List Reg} {τ:Nat→Nat}:∀ {π:List Nat} {l:List Reg},pickR rg τ π=some l→l.length=π.length∧∀ (i:Nat) (r:Reg),l[i]?=some r→∃ (p:Nat) (x:Reg),π[i]?=some p∧rg[p]?=some x∧r=x.ren τ
 | [],l,h=>by cases h;exact ⟨rfl,fun i r h=>by simp at h⟩
 | p::π,l,h=>by
   simp only [pickR] at h
   split at h
   ·rename_i x l' hx hl
    cases h
    obtain ⟨h1,h2⟩:=Q8a hl
    refine ⟨by simp [h1],fun i r hi=>?_⟩
    cases i with
    | zero =>
      simp only [List.getElem?_cons_zero,Option.some.injEq] at hi
      exact ⟨p,x,rfl,by rw [Qp] at hx;exact hx,hi.symm⟩
    | succ i=>exact h2 i r W162
   ·cases h
theorem Qix {b:Base} {n0:Nat} (hb:b.e.length=n0) {π:List Nat} {st st':St} (h:permSt n0 π st=some st') {a:Act} {w:World} (hs:Sat b st a w):Sat b st' a w:=by
 obtain ⟨ε,hs⟩:=hs
 unfold permSt at h
 split at h
 ·rename_i hc
  simp only [Bool.and_eq_true] at hc
  obtain ⟨⟨⟨⟨c1,c2⟩,c3⟩,c4⟩,c5⟩:=hc
  obtain ⟨rg,h1,h2⟩:=map_nil h
  cases h2
  obtain ⟨s1,s2⟩:=Qq c1
  obtain ⟨hlen,hpk⟩:=Q8a h1
  have hτ:∀ r,r<st.rg.length→Env.at_ (π.map ε.ent) (ixOf r π)=ε.at_ r:=fun r hr=>Q0a ε π (Q89 c5 r hr)
  refine ⟨π.map ε.ent,hs.defs,hs.size,fun e he=>?_,⟨by simp [hlen],fun i r hi=>?_,fun i r hi hlv b hb=>?_,fun i r hi hex b hb=>?_,fun i j ri rj hij hi hj he hlv b hb hb'=>?_⟩,hs.below,Q80 hb hs.pre (Q0c c4)⟩
  ·obtain ⟨e0,he0,rfl⟩:=List.mem_map.1 he
   obtain ⟨k1,k2,k3⟩:=hs.fr e0 he0
   exact ⟨k1,fun hg=>by rw [k2 hg];exact (G2 hτ (s1 _ he0)).symm,k3⟩
  ·obtain ⟨p,x,hp,hx,rfl⟩:=hpk i r hi
   rw [Q2l ε π hp]
   have hok:=hs.regs.reg p x hx
   exact RegOk.reren hτ (List.all_eq_true.1 s2 x (List.mem_of_getElem? hx)) (fun hex b hb=>hs.regs.lim p x hx hex b hb) hok
  ·obtain ⟨p,x,hp,hx,rfl⟩:=hpk i r hi
   rw [Y7 ε π hp] at hb
   exact hs.regs.lt p x hx (by rw [Q1d] at hlv;exact hlv) b hb
  ·obtain ⟨p,x,hp,hx,rfl⟩:=hpk i r hi
   rw [Y7 ε π hp] at hb
   exact hs.regs.lim p x hx (by rw [Q1c] at hex;exact hex) b hb
  ·obtain ⟨p,x,hp,hx,rfl⟩:=hpk i ri hi
   obtain ⟨q,y,hq,hy,rfl⟩:=hpk j rj hj
   rw [Y7 ε π hp] at hb
   rw [Y7 ε π hq] at hb'
   have hpq:p≠q:=fun e=>by subst e;exact Q4e c3 hij hp hq
   exact hs.regs.sep p q x y hpq hx hy (by rw [Q1c] at he;exact he) (by rw [Q1d] at hlv;exact hlv) b hb hb'
 ·cases h
def canonP (n0:Nat) (st:St):St:=match permSt n0 (ordR n0 st) st with
 | some st'=>canon st'
 | none=>canon st
def kap:Option Nat→St→St
 | none=>canon
 | some n0=>canonP n0
theorem Ql0 {b:Base} {o:Option Nat} (ho:∀ n,o=some n→b.e.length=n) {st:St} {a:Act} {w:World} (h:Sat b st a w):Sat b (kap o st) a w:=by
 cases o with
 | none=>exact Q4k h
 | some n =>
   show Sat b (canonP n st) a w
   unfold canonP
   split
   ·rename_i st' hst
    exact Q4k (Qix (ho n rfl) hst h)
   ·exact Q4k h
theorem Q96 {P:Program} {b:Base} {Q:Exit→Act→World→Prop} {k:List K} {o:Option Nat} (ho:∀ n,o=some n→b.e.length=n) {st:St} (h:Run P b Q k (kap o st)):Run P b Q k st:=fun a w hs=>h a w (Ql0 ho hs)
def mixEff (P:Program) (all:List Oper) (st:St) (i:Nat):Option (St×List Prop):=match nth all i with
 | none=>none
 | some o=>match guardOf all st o with
   | .run []=>match effOp P st o,effCalm P st o with
     | some (st',sv,vc),some vc'=>(putSt st' o.dst [] sv).map (·,vc'++vc)
     | _,_=>match callOf st [] o,pureOp P st [] o with
       | none,some (sv,vc)=>(putSt st o.dst [] sv).map (·,vc)
       | _,_=>none
   | .skip=>(putSt st o.dst [] .u).map (·,[])
   | _=>none
section
variable {P:Program} {b:Base} {Q:Exit→Act→World→Prop} {k:List K} {all:List Oper} {listed:List Bool} {st st':St} {vc:List Prop} {m i:Nat}
theorem Ql1 (hfp:findPure P all listed st 0 all=some (i,st',vc)) (hv:All vc) (h:Run P b Q (.mix all (setL listed i) m::k) st'):Run P b Q (.mix all listed (m+1)::k) st:=fun a w ⟨ε,hs⟩ hsel=>by
 obtain ⟨o,hoi,htp⟩:=Q0q (fun k=>by simp) hfp
 exact Q2j hs hsel hoi htp hv (fun v hs'=>h _ w ⟨ε,hs'⟩ hsel)
theorem Qmo (he:mixEff P all st i=some (st',vc)) (hv:All vc) (h:Run P b Q (.mix all (setL listed i) m::k) st'):Run P b Q (.mixAt all listed m i::k) st:=fun a w ⟨ε,hs⟩ hsel=>by
 unfold mixEff at he
 split at he
 ·cases he
 ·rename_i o hoi
  rw [Qp] at hoi
  have hoi':all.toArray[i]?=some o:=by simpa using hoi
  obtain ⟨g1,g2⟩:=Zm hs (ops:=all) (o:=o)
  split at he
  ·rename_i hgd
   have hw:=(g1 _ hgd).2 (gHolds_nil a)
   unfold wpOpR
   simp only [hoi',hw,if_true]
   split at he
   ·rename_i st1 sv vc1 vc2 h1 h2
    obtain ⟨st2,hput,he2⟩:=map_nil he
    cases he2
    exact Q9x (b:=b) hs h1 h2 hv.right hv.left Q69 (fun v w' ε' hve hs'=>h _ w' ⟨ε',Qj hs' hput (fun _=>hve) (fun hn=>absurd (gHolds_nil _) hn)⟩ hsel)
   ·split at he
    ·rename_i sv vc1 hco hp
     obtain ⟨st2,hput,he2⟩:=map_nil he
     cases he2
     unfold stepR
     rw [Ge hs (gHolds_nil a) hp hv]
     exact ⟨fun _=>⟨rfl,rfl,rfl,Nat.le_refl _,fun _ _=>rfl⟩,h _ w ⟨ε,Qj hs hput (fun _=>rfl) (fun hn=>absurd (gHolds_nil _) hn)⟩ hsel⟩
    ·cases he
  ·rename_i hgd
   obtain ⟨st2,hput,he2⟩:=map_nil he
   cases he2
   have hw:=g2 hgd
   unfold wpOpR
   simp only [hoi',hw,Bool.false_eq_true,if_false]
   exact h _ w ⟨ε,Qj hs hput (fun _=>rfl) (fun _=>rfl)⟩ hsel
  ·cases he
theorem Qmp (hne:readyL all listed≠[]) (h:∀ i∈readyL all listed,Run P b Q (.mixAt all listed m i::k) st):Run P b Q (.mix all listed (m+1)::k) st:=fun a w hs hsel=>by
 refine ⟨fun h0=>?_,fun j hj=>?_⟩
 ·cases hl:readyL all listed with
  | nil=>exact absurd hl hne
  | cons i l =>
    have hi:i∈readyL all listed:=by rw [hl];exact .head _
    have:=Zl.1 (List.mem_filter.1 hi).2
    rw [h0] at this;cases this
 ·have hq:=h j (Q31 hj) a w hs hsel
  rw [← Yf]
  exact hq
theorem Ql2 (hr:readyL all listed=[]) (h:Run P b Q k st):Run P b Q (.mix all listed m::k) st:=fun a w hs hsel=>by
 have hr':=Q7s hr
 have hq:=h a w hs
 cases m with
 | zero=>exact ⟨hr',hq⟩
 | succ n=>exact ⟨fun _=>hq,fun i hi=>by rw [hr'] at hi;cases hi⟩
end
abbrev Nd:=List Bool×St
abbrev Ask:=List (St×St)×List (List Prop)
def beqLB:List Bool→List Bool→Bool
 | [],[]=>true
 | x::r,y::s=>beqB x y&&beqLB r s
 | _,_=>false
theorem Qbx:∀ {a b:List Bool},beqLB a b=true→a=b
 | [],[],_=>rfl
 | x::r,y::s,h=>by
   simp only [beqLB,Bool.and_eq_true] at h
   rw [Gc.1 h.1,Qbx h.2]
 | [],_::_,h=>by cases h
 | _::_,[],h=>by cases h
def findNd (l:List Bool):List Nd→Option St
 | []=>none
 | x::r=>if beqLB x.1 l then some x.2 else findNd l r
theorem Q8b {l:List Bool} {s:St}:∀ {T:List Nd},findNd l T=some s→(l,s)∈T
 | [],h=>by cases h
 | x::r,h=>by
   simp only [findNd] at h
   split at h
   ·rename_i hb
    cases h
    rw [← Qbx hb]
    exact .head _
   ·exact .tail _ (Q8b h)
def addNd (x:Nd) (T:List Nd) (q:Ask):List Nd×Ask:=match findNd x.1 T with
 | some s=>(T,(s,x.2)::q.1,q.2)
 | none=>(T++[x],q)
def addAll (P:Program) (o:Option Nat) (all:List Oper) (nd:Nd):List Nat→List Nd→Ask→Option (List Nd×Ask)
 | [],T,q=>some (T,q)
 | i::r,T,q=>match mixEff P all nd.2 i with
   | some (st',vc)=>addAll P o all nd r (addNd (setL nd.1 i,kap o st') T (q.1,vc::q.2)).1 (addNd (setL nd.1 i,kap o st') T (q.1,vc::q.2)).2
   | none=>none
def expand (P:Program) (o:Option Nat) (all:List Oper) (nd:Nd) (T:List Nd) (q:Ask):Option (List Nd×Ask):=match findPure P all nd.1 nd.2 0 all with
 | some (i,st',vc)=>some (addNd (setL nd.1 i,kap o st') T (q.1,vc::q.2))
 | none=>match readyL all nd.1 with
   | []=>none
   | i::r=>addAll P o all nd (i::r) T q
def level (P:Program) (o:Option Nat) (all:List Oper):List Nd→List Nd→Ask→Option (List Nd×Ask)
 | [],T,q=>some (T,q)
 | nd::r,T,q=>match expand P o all nd T q with
   | some (T',q')=>level P o all r T' q'
   | none=>none
def explore (P:Program) (o:Option Nat) (all:List Oper):Nat→List Nd→Ask→Option (St×Ask)
 | 0,nds,q=>match nds with
   | [nd]=>match readyL all nd.1 with
     | []=>some (nd.2,q)
     | _=>none
   | _=>none
 | m+1,nds,q=>match level P o all nds [] q with
   | some (T,q')=>explore P o all m T q'
   | none=>none
def AskOk (q:Ask):Prop:=(∀ p∈q.1,p.1=p.2)∧∀ v∈q.2,All v
def AskLe (q r:Ask):Prop:=(∀ p∈q.1,p∈r.1)∧∀ v∈q.2,v∈r.2
theorem AskLe.refl (q:Ask):AskLe q q:=⟨fun _ h=>h,fun _ h=>h⟩
theorem AskLe.trans {q r s:Ask} (h:AskLe q r) (h':AskLe r s):AskLe q s:=⟨fun p hp=>h'.1 p (h.1 p hp),fun v hv=>h'.2 v (h.2 v hv)⟩
theorem AskOk.le {q r:Ask} (h:AskLe q r) (hr:AskOk r):AskOk q:=⟨fun p hp=>hr.1 p (h.1 p hp),fun v hv=>hr.2 v (h.2 v hv)⟩
theorem Q8c (x:Nd) (T:List Nd) (q:Ask):AskLe q (addNd x T q).2∧(∀ y∈T,y∈(addNd x T q).1)∧(AskOk (addNd x T q).2→x∈(addNd x T q).1):=by
 unfold addNd
 split
 ·rename_i s hs
  refine ⟨⟨fun p hp=>.tail _ hp,fun v hv=>hv⟩,fun y hy=>hy,fun hq=>?_⟩
  have:=hq.1 (s,x.2) (.head _)
  simp only at this
  have hm:=Q8b hs
  rw [this] at hm
  exact hm
 ·exact ⟨AskLe.refl q,fun y hy=>List.mem_append_left _ hy,fun _=>List.mem_append_right _ (.head _)⟩
section
variable {P:Program} {b:Base} {Q:Exit→Act→World→Prop} {k:List K} {all:List Oper} {m:Nat} {o:Option Nat}
def NdRun (P:Program) (b:Base) (Q:Exit→Act→World→Prop) (k:List K) (all:List Oper) (m:Nat) (nd:Nd):Prop:=Run P b Q (.mix all nd.1 m::k) nd.2
theorem Q6d (ho:∀ n,o=some n→b.e.length=n) {nd:Nd}:∀ {l:List Nat} {T T':List Nd} {q q':Ask},addAll P o all nd l T q=some (T',q') →
 AskLe q q'∧(∀ y∈T,y∈T')∧(AskOk q'→(∀ y∈T',NdRun P b Q k all m y)→∀ i∈l,Run P b Q (.mixAt all nd.1 m i::k) nd.2)
 | [],T,T',q,q',h=>by
   cases h
   exact ⟨AskLe.refl _,fun _ h=>h,fun _ _ i hi=>by cases hi⟩
 | i::r,T,T',q,q',h=>by
   simp only [addAll] at h
   split at h
   ·rename_i st' vc he
    obtain ⟨h1,h2,h3⟩:=Q6d ho h
    obtain ⟨g1,g2,g3⟩:=Q8c (setL nd.1 i,kap o st') T (q.1,vc::q.2)
    refine ⟨AskLe.trans (r:=(q.1,vc::q.2)) ⟨fun p hp=>hp,fun v hv=>.tail _ hv⟩ (g1.trans h1),fun y hy=>h2 y (g2 y hy),fun hq hT j hj=>?_⟩
    cases hj with
    | head =>
      have hx:=h2 _ (g3 (AskOk.le h1 hq))
      have hvc:All vc:=(AskOk.le (g1.trans h1) hq).2 vc (.head _)
      exact Qmo he hvc (Q96 ho (hT _ hx))
    | tail _ hj=>exact h3 hq hT j hj
   ·cases h
theorem Qdl (ho:∀ n,o=some n→b.e.length=n) {nd:Nd} {T T':List Nd} {q q':Ask} (h:expand P o all nd T q=some (T',q')) :
 AskLe q q'∧(∀ y∈T,y∈T')∧(AskOk q'→(∀ y∈T',NdRun P b Q k all m y)→NdRun P b Q k all (m+1) nd):=by
 unfold expand at h
 split at h
 ·rename_i i st' vc he
  obtain ⟨g1,g2,g3⟩:=Q8c (setL nd.1 i,kap o st') T (q.1,vc::q.2)
  have e:=Option.some.inj h
  rw [e] at g1 g2 g3
  refine ⟨AskLe.trans (r:=(q.1,vc::q.2)) ⟨fun p hp=>hp,fun v hv=>.tail _ hv⟩ g1,g2,fun hq hT=>?_⟩
  have hvc:All vc:=(AskOk.le g1 hq).2 vc (.head _)
  exact Ql1 he hvc (Q96 ho (hT _ (g3 hq)))
 ·split at h
  ·cases h
  ·rename_i i r hr
   obtain ⟨h1,h2,h3⟩:=Q6d (b:=b) (Q:=Q) (k:=k) (m:=m) ho h
   refine ⟨h1,h2,fun hq hT=>Qmp (by rw [hr];simp) (fun j hj=>h3 hq hT j (by rw [← hr];exact hj))⟩
theorem Q8d (ho:∀ n,o=some n→b.e.length=n):∀ {nds:List Nd} {T T':List Nd} {q q':Ask},level P o all nds T q=some (T',q') →
 AskLe q q'∧(∀ y∈T,y∈T')∧(AskOk q'→(∀ y∈T',NdRun P b Q k all m y)→∀ nd∈nds,NdRun P b Q k all (m+1) nd)
 | [],T,T',q,q',h=>by
   cases h
   exact ⟨AskLe.refl _,fun _ h=>h,fun _ _ nd hn=>by cases hn⟩
 | nd::r,T,T',q,q',h=>by
   simp only [level] at h
   split at h
   ·rename_i T1 q1 he
    obtain ⟨h1,h2,h3⟩:=Q8d ho h
    obtain ⟨g1,g2,g3⟩:=Qdl (b:=b) (Q:=Q) (k:=k) (m:=m) ho he
    refine ⟨g1.trans h1,fun y hy=>h2 y (g2 y hy),fun hq hT x hx=>?_⟩
    cases hx with
    | head=>exact g3 (AskOk.le h1 hq) (fun y hy=>hT y (h2 y hy))
    | tail _ hx=>exact h3 hq hT x hx
   ·cases h
theorem Q4l (ho:∀ n,o=some n→b.e.length=n):∀ {m:Nat} {nds:List Nd} {q:Ask} {st':St} {q':Ask},explore P o all m nds q=some (st',q') →
 AskLe q q'∧(AskOk q'→Run P b Q k st'→∀ nd∈nds,NdRun P b Q k all m nd)
 | 0,nds,q,st',q',h=>by
   simp only [explore] at h
   split at h
   ·rename_i nd
    split at h
    ·rename_i hr
     cases h
     refine ⟨AskLe.refl _,fun _ hq x hx=>?_⟩
     cases List.mem_singleton.1 hx
     exact Ql2 hr hq
    ·cases h
   ·cases h
 | m+1,nds,q,st',q',h=>by
   simp only [explore] at h
   split at h
   ·rename_i T q1 hl
    obtain ⟨h1,h2⟩:=Q4l ho h
    obtain ⟨g1,g2,g3⟩:=Q8d (b:=b) (Q:=Q) (k:=k) (m:=m) ho hl
    exact ⟨g1.trans h1,fun hq hr=>g3 (AskOk.le h1 hq) (h2 hq hr)⟩
   ·cases h
end
def Cfg.dag (P:Program) (o:Option Nat) (c:Cfg):Option (St×Ask):=match (seg P 5000 c.k c.st).2 with
 | .any all listed n l _ st=>if l.all (readyI all listed) then explore P o all (n+1) [(listed,kap o st)] ([],[]) else none
 | _=>none
def Cfg.dagK (P:Program) (o:Option Nat) (c:Cfg):Cfg:=match (seg P 5000 c.k c.st).2 with
 | .any all listed n _ k st=>match explore P o all (n+1) [(listed,kap o st)] ([],[]) with
   | some x=>⟨k,x.1⟩
   | none=>noCfg
 | _=>noCfg
def lG (o:Option (St×Ask)):Option (List St×List (List Prop)):=match o with
 | some x=>some (x.2.1.map Prod.fst,x.2.2)
 | none=>none
def rG (V:List (List Prop)) (ix:List Nat) (o:Option (St×Ask)):Option (List St×List (List Prop)):=match o with
 | some x=>some (x.2.1.map Prod.snd,ix.map fun i=>V.getD i [False])
 | none=>some ([],[])
def flatP:List (List Prop)→List Prop
 | []=>[]
 | x::r=>x++flatP r
theorem Qgu {V:List (List Prop)} {v:List Prop} (h:v∈V) {p:Prop} (hp:p∈v):p∈flatP V:=by
 induction V with
 | nil=>cases h
 | cons x r ih =>
   cases h with
   | head=>exact List.mem_append_left _ hp
   | tail _ h=>exact List.mem_append_right _ (ih h)
section
variable {P:Program} [hw:Wide P] {fn:Func} {n0:Nat} {U:Tgt} {c:Cfg}
theorem RunF.dag {n:Nat} {vc:List Prop} (o:Option Nat) (ho:o=none∨o=some n0) (V:List (List Prop)) (ix:List Nat) (h:see P fn c=(vc,.any n)) (hv:Conj vc) (hd:lG (c.dag P o)=rG V ix (c.dag P o)) (hix:ix.all (fun i=>Nat.blt i V.length)=true) (hV:Conj (flatP V)) (next:RunF P fn n0 U (c.dagK P o)):RunF P fn n0 U c:=by
 unfold RunF at next ⊢
 intro b hb
 have ho':∀ n,o=some n→b.e.length=n:=fun n e=>by
  rcases ho with h | h
  ·rw [h] at e;cases e
  ·rw [h] at e;cases e;exact hb
 unfold see at h
 unfold Cfg.dag at hd
 unfold Cfg.dagK at next
 generalize hg:seg P 5000 c.k c.st=r at h hd next
 obtain ⟨vc',out⟩:=r
 cases out<;>simp only [Prod.mk.injEq,reduceCtorEq,and_false] at h
 case any all listed n' l k st =>
  simp only [View.any.injEq] at h
  obtain ⟨rfl,rfl⟩:=h
  simp only at hd next
  cases hl:l.all (readyI all listed) with
  | false=>rw [hl] at hd;cases hd
  | true =>
  rw [hl] at hd
  simp only [if_true] at hd
  cases hx:explore P o all (n'+1) [(listed,kap o st)] ([],[]) with
  | none=>rw [hx] at hd;cases hd
  | some x =>
    obtain ⟨stf,q⟩:=x
    rw [hx] at hd next
    simp only [lG,rG,Option.some.injEq,Prod.mk.injEq] at hd
    obtain ⟨hd1,hd2⟩:=hd
    have hq:AskOk q:=by
     refine ⟨fun p hp=>?_,fun v hvm=>?_⟩
     ·obtain ⟨i,hi⟩:=List.mem_iff_getElem?.1 hp
      have e:(q.1.map Prod.fst)[i]?=(q.1.map Prod.snd)[i]?:=by rw [hd1]
      simpa only [List.getElem?_map,hi,Option.map_some,Option.some.injEq] using e
     ·rw [hd2] at hvm
      obtain ⟨i,hi,rfl⟩:=List.mem_map.1 hvm
      have hlt:=Nat.lt_of_lt_of_le (Nat.lt_of_succ_le (Nat.le_of_ble_eq_true (List.all_eq_true.1 hix i hi))) (Nat.le_refl _)
      intro p hp
      rw [List.getD_eq_getElem?_getD,List.getElem?_eq_getElem hlt] at hp
      exact hV.all p (Qgu (List.getElem_mem hlt) hp)
    obtain ⟨_,h2⟩:=Q4l (b:=b) (Q:=U b) (k:=k) ho' hx
    have hrun:=h2 hq (next b hb) _ (.head _)
    refine Qn hw.mixed 5000 _ _ _ _ hg hv.toAll (fun i hi a w hs hsel=>?_)
    have:=(Q96 ho' (show Run P b (U b) (.mix all listed (n'+1)::k) (kap o st) from hrun) a w hs hsel).2 i (Zl.1 (List.all_eq_true.1 hl i hi))
    rw [← Yf] at this
    exact this
 all_goals first | (unfold callV at h;split at h<;>simp at h;done) | (split at h<;>simp at h)
theorem Ju (n:Nat) (V:List (List Prop)) (ix:List Nat) (next:RunF P fn n0 U (c.dagK P none)) (hV:Conj (flatP V):=by exact trivial) (vc:List Prop:=[]) (hv:Conj vc:=by exact trivial)
 (h:see P fn c=(vc,.any n):=by kernel_rfl) (hd:lG (c.dag P none)=rG V ix (c.dag P none):=by kernel_rfl) (hix:ix.all (fun i=>Nat.blt i V.length)=true:=by kernel_rfl):RunF P fn n0 U c:=RunF.dag none (.inl rfl) V ix h hv hd hix hV next
theorem Qkq (n:Nat) (V:List (List Prop)) (ix:List Nat) (next:RunF P fn n0 U (c.dagK P (some n0))) (hV:Conj (flatP V):=by exact trivial) (vc:List Prop:=[]) (hv:Conj vc:=by exact trivial)
 (h:see P fn c=(vc,.any n):=by kernel_rfl) (hd:lG (c.dag P (some n0))=rG V ix (c.dag P (some n0)):=by kernel_rfl) (hix:ix.all (fun i=>Nat.blt i V.length)=true:=by kernel_rfl):RunF P fn n0 U c:=RunF.dag (some n0) (.inr rfl) V ix h hv hd hix hV next
end
def View.gf:View→Nat
 | .gcall f _=>f
 | _=>0
def View.ga:View→List SV
 | .gcall _ a=>a
 | _=>[]
theorem Qgv {P:Program} [hw:Wide P] {fn:Func} {n0:Nat} {U:Tgt} {c:Cfg} (x:Bool) (ht:x=true→RunF P fn n0 U (c.gthn P true)) (hf:x=false→RunF P fn n0 U (c.gthn P false)) (vc:List Prop:=[]) (hv:Conj vc:=by exact trivial)
 (h:see P fn c=(vc,.gcall (see P fn c).2.gf (see P fn c).2.ga):=by kernel_rfl) (hx:c.gx P=some x:=by kernel_rfl):RunF P fn n0 U c:=RunF.guard h hv hx ht hf
attribute [irreducible] Cfg.dag Cfg.dagK lG rG
end Go.Tx
namespace Go.Proofs.YtmaodngbpfjnnaaGreat
open Go Go.Tx
instance:Wide Tryz.prog:=⟨by kernel_rfl⟩
theorem Q0t:Enters Tryz.prog 9:=Q3 Tryz.func9 (by kernel_rfl) (by kernel_rfl)
theorem Q3v:Enters Tryz.prog 13:=Q3 Tryz.func13 (by kernel_rfl) (by kernel_rfl)
theorem Q97:Enters Tryz.prog 11:=Q3 Tryz.func11 (by kernel_rfl) (by kernel_rfl)
theorem Q4m:Enters Tryz.prog 29:=Q3 Tryz.func29 (by kernel_rfl) (by kernel_rfl)
theorem Q3w:Enters Tryz.prog 30:=Q3 Tryz.func30 (by kernel_rfl) (by kernel_rfl)
theorem Q4n:Enters Tryz.prog 31:=Q3 Tryz.func31 (by kernel_rfl) (by kernel_rfl)
theorem Q98:Enters Tryz.prog 24:=Q3 Tryz.func24 (by kernel_rfl) (by kernel_rfl)
theorem Qb5:Enters Tryz.prog 25:=Q3 Tryz.func25 (by kernel_rfl) (by kernel_rfl)
theorem Q99:Enters Tryz.prog 26:=Q3 Tryz.func26 (by kernel_rfl) (by kernel_rfl)
theorem Q3x:Enters Tryz.prog 49:=Q3 Tryz.func49 (by kernel_rfl) (by kernel_rfl)
theorem Q4o:Enters Tryz.prog 50:=Q3 Tryz.func50 (by kernel_rfl) (by kernel_rfl)
theorem Q4p:Enters Tryz.prog 51:=Q3 Tryz.func51 (by kernel_rfl) (by kernel_rfl)
theorem Q8e:Enters Tryz.prog 41:=Q3 Tryz.func41 (by kernel_rfl) (by kernel_rfl)
theorem Q9a:Enters Tryz.prog 42:=Q3 Tryz.func42 (by kernel_rfl) (by kernel_rfl)
theorem Y2:Enters Tryz.prog 43:=Q3 Tryz.func43 (by kernel_rfl) (by kernel_rfl)
theorem Q6u:Enters Tryz.prog 44:=Q3 Tryz.func44 (by kernel_rfl) (by kernel_rfl)
theorem Q5:Enters Tryz.prog 45:=Q3 Tryz.func45 (by kernel_rfl) (by kernel_rfl)
theorem Gn:Enters Tryz.prog 73:=Q3 Tryz.func73 (by kernel_rfl) (by kernel_rfl)
theorem Q5q:Enters Tryz.prog 74:=Q3 Tryz.func74 (by kernel_rfl) (by kernel_rfl)
theorem Zn:Enters Tryz.prog 75:=Q3 Tryz.func75 (by kernel_rfl) (by kernel_rfl)
theorem Gz:Enters Tryz.prog 76:=Q3 Tryz.func76 (by kernel_rfl) (by kernel_rfl)
theorem Q5r:Enters Tryz.prog 63:=Q3 Tryz.func63 (by kernel_rfl) (by kernel_rfl)
theorem Q4q:Enters Tryz.prog 64:=Q3 Tryz.func64 (by kernel_rfl) (by kernel_rfl)
theorem Q2n:Enters Tryz.prog 65:=Q3 Tryz.func65 (by kernel_rfl) (by kernel_rfl)
theorem Qb6:Enters Tryz.prog 66:=Q3 Tryz.func66 (by kernel_rfl) (by kernel_rfl)
theorem Yx:Enters Tryz.prog 67:=Q3 Tryz.func67 (by kernel_rfl) (by kernel_rfl)
theorem Q5s:Enters Tryz.prog 68:=Q3 Tryz.func68 (by kernel_rfl) (by kernel_rfl)
theorem Jv:Enters Tryz.prog 69:=Q3 Tryz.func69 (by kernel_rfl) (by kernel_rfl)
theorem Q35:Enters Tryz.prog 70:=Q3 Tryz.func70 (by kernel_rfl) (by kernel_rfl)
theorem Yo:Enters Tryz.prog 71:=Q3 Tryz.func71 (by kernel_rfl) (by kernel_rfl)
theorem Yp:Enters Tryz.prog 72:=Q3 Tryz.func72 (by kernel_rfl) (by kernel_rfl)
theorem Q0d:Enters Tryz.prog 99:=Q3 Tryz.func99 (by kernel_rfl) (by kernel_rfl)
theorem Q5t:Enters Tryz.prog 100:=Q3 Tryz.func100 (by kernel_rfl) (by kernel_rfl)
theorem Q3y:Enters Tryz.prog 101:=Q3 Tryz.func101 (by kernel_rfl) (by kernel_rfl)
theorem Q3t:Enters Tryz.prog 91:=Q3 Tryz.func91 (by kernel_rfl) (by kernel_rfl)
theorem Qby:Enters Tryz.prog 92:=Q3 Tryz.func92 (by kernel_rfl) (by kernel_rfl)
theorem Q9b:Enters Tryz.prog 93:=Q3 Tryz.func93 (by kernel_rfl) (by kernel_rfl)
theorem Q4r:Enters Tryz.prog 94:=Q3 Tryz.func94 (by kernel_rfl) (by kernel_rfl)
theorem Q9c:Enters Tryz.prog 95:=Q3 Tryz.func95 (by kernel_rfl) (by kernel_rfl)
theorem Qu:Enters Tryz.prog 96:=Q3 Tryz.func96 (by kernel_rfl) (by kernel_rfl)
theorem Qh:Enters Tryz.prog 97:=Q3 Tryz.func97 (by kernel_rfl) (by kernel_rfl)
theorem Yl:Enters Tryz.prog 98:=Q3 Tryz.func98 (by kernel_rfl) (by kernel_rfl)
theorem Q3u:Enters Tryz.prog 120:=Q3 Tryz.func120 (by kernel_rfl) (by kernel_rfl)
theorem Q4s:Enters Tryz.prog 8:=Q3 Tryz.func8 (by kernel_rfl) (by kernel_rfl)
theorem Zo:Enters Tryz.prog 6:=Q3 Tryz.func6 (by kernel_rfl) (by kernel_rfl)
theorem Q1g:Enters Tryz.prog 32:=Q3 Tryz.func32 (by kernel_rfl) (by kernel_rfl)
theorem Q36:Enters Tryz.prog 22:=Q3 Tryz.func22 (by kernel_rfl) (by kernel_rfl)
theorem Q1n:Enters Tryz.prog 34:=Q3 Tryz.func34 (by kernel_rfl) (by kernel_rfl)
theorem Q4t:Enters Tryz.prog 23:=Q3 Tryz.func23 (by kernel_rfl) (by kernel_rfl)
theorem Q1o:Enters Tryz.prog 35:=Q3 Tryz.func35 (by kernel_rfl) (by kernel_rfl)
theorem Q2a:Enters Tryz.prog 36:=Q3 Tryz.func36 (by kernel_rfl) (by kernel_rfl)
theorem Q8f:Enters Tryz.prog 4:=Q3 Tryz.func4 (by kernel_rfl) (by kernel_rfl)
theorem G3:Enters Tryz.prog 21:=Q3 Tryz.func21 (by kernel_rfl) (by kernel_rfl)
theorem Yq:Enters Tryz.prog 15:=Q3 Tryz.func15 (by kernel_rfl) (by kernel_rfl)
theorem Yg:Enters Tryz.prog 16:=Q3 Tryz.func16 (by kernel_rfl) (by kernel_rfl)
theorem Gm:Enters Tryz.prog 17:=Q3 Tryz.func17 (by kernel_rfl) (by kernel_rfl)
theorem Q6e:Enters Tryz.prog 52:=Q3 Tryz.func52 (by kernel_rfl) (by kernel_rfl)
theorem Jp:Enters Tryz.prog 53:=Q3 Tryz.func53 (by kernel_rfl) (by kernel_rfl)
theorem Q3z:Enters Tryz.prog 54:=Q3 Tryz.func54 (by kernel_rfl) (by kernel_rfl)
theorem J7:Enters Tryz.prog 82:=Q3 Tryz.func82 (by kernel_rfl) (by kernel_rfl)
theorem Q37:Enters Tryz.prog 57:=Q3 Tryz.func57 (by kernel_rfl) (by kernel_rfl)
theorem Q38:Enters Tryz.prog 58:=Q3 Tryz.func58 (by kernel_rfl) (by kernel_rfl)
theorem Y3:Enters Tryz.prog 59:=Q3 Tryz.func59 (by kernel_rfl) (by kernel_rfl)
theorem Q5u:Enters Tryz.prog 12:=Q3 Tryz.func12 (by kernel_rfl) (by kernel_rfl)
theorem Q0e:Enters Tryz.prog 40:=Q3 Tryz.func40 (by kernel_rfl) (by kernel_rfl)
theorem Ye:Enters Tryz.prog 33:=Q3 Tryz.func33 (by kernel_rfl) (by kernel_rfl)
theorem Qdm:Enters Tryz.prog 77:=Q3 Tryz.func77 (by kernel_rfl) (by kernel_rfl)
theorem Qdn:Enters Tryz.prog 78:=Q3 Tryz.func78 (by kernel_rfl) (by kernel_rfl)
theorem Qf8:Enters Tryz.prog 79:=Q3 Tryz.func79 (by kernel_rfl) (by kernel_rfl)
theorem Qc:Enters Tryz.prog 109:=Q3 Tryz.func109 (by kernel_rfl) (by kernel_rfl)
theorem Z7:Enters Tryz.prog 80:=Q3 Tryz.func80 (by kernel_rfl) (by kernel_rfl)
theorem Q40:Enters Tryz.prog 27:=Q3 Tryz.func27 (by kernel_rfl) (by kernel_rfl)
theorem Q6v:Enters Tryz.prog 28:=Q3 Tryz.func28 (by kernel_rfl) (by kernel_rfl)
theorem Yy:Enters Tryz.prog 55:=Q3 Tryz.func55 (by kernel_rfl) (by kernel_rfl)
theorem Q41:Enters Tryz.prog 56:=Q3 Tryz.func56 (by kernel_rfl) (by kernel_rfl)
theorem Q0r:Enters Tryz.prog 102:=Q3 Tryz.func102 (by kernel_rfl) (by kernel_rfl)
theorem Qdo:Enters Tryz.prog 103:=Q3 Tryz.func103 (by kernel_rfl) (by kernel_rfl)
theorem Y1:Enters Tryz.prog 104:=Q3 Tryz.func104 (by kernel_rfl) (by kernel_rfl)
theorem Gw:Enters Tryz.prog 105:=Q3 Tryz.func105 (by kernel_rfl) (by kernel_rfl)
theorem G4:Enters Tryz.prog 106:=Q3 Tryz.func106 (by kernel_rfl) (by kernel_rfl)
theorem Qb7:Enters Tryz.prog 107:=Q3 Tryz.func107 (by kernel_rfl) (by kernel_rfl)
theorem Q4u:Enters Tryz.prog 108:=Q3 Tryz.func108 (by kernel_rfl) (by kernel_rfl)
theorem Zx:Enters Tryz.prog 121:=Q3 Tryz.func121 (by kernel_rfl) (by kernel_rfl)
theorem Zp:Enters Tryz.prog 122:=Q3 Tryz.func122 (by kernel_rfl) (by kernel_rfl)
theorem Zf:Enters Tryz.prog 123:=Q3 Tryz.func123 (by kernel_rfl) (by kernel_rfl)
theorem Zq:Enters Tryz.prog 124:=Q3 Tryz.func124 (by kernel_rfl) (by kernel_rfl)
theorem Zr:Enters Tryz.prog 125:=Q3 Tryz.func125 (by kernel_rfl) (by kernel_rfl)
theorem Z8:Enters Tryz.prog 126:=Q3 Tryz.func126 (by kernel_rfl) (by kernel_rfl)
theorem Zg:Enters Tryz.prog 127:=Q3 Tryz.func127 (by kernel_rfl) (by kernel_rfl)
theorem Z9:Enters Tryz.prog 128:=Q3 Tryz.func128 (by kernel_rfl) (by kernel_rfl)
theorem G5:Enters Tryz.prog 46:=Q3 Tryz.func46 (by kernel_rfl) (by kernel_rfl)
theorem G6:Enters Tryz.prog 47:=Q3 Tryz.func47 (by kernel_rfl) (by kernel_rfl)
theorem Q4v:Enters Tryz.prog 48:=Q3 Tryz.func48 (by kernel_rfl) (by kernel_rfl)
theorem J8:Enters Tryz.prog 81:=Q3 Tryz.func81 (by kernel_rfl) (by kernel_rfl)
theorem Q1h:Enters Tryz.prog 83:=Q3 Tryz.func83 (by kernel_rfl) (by kernel_rfl)
theorem Y4:Enters Tryz.prog 131:=Q3 Tryz.func131 (by kernel_rfl) (by kernel_rfl)
theorem Qf9:Enters Tryz.prog 132:=Q3 Tryz.func132 (by kernel_rfl) (by kernel_rfl)
theorem Qdp:Enters Tryz.prog 133:=Q3 Tryz.func133 (by kernel_rfl) (by kernel_rfl)
theorem Yh:Enters Tryz.prog 134:=Q3 Tryz.func134 (by kernel_rfl) (by kernel_rfl)
theorem Q7:Enters Tryz.prog 137:=Q3 Tryz.func137 (by kernel_rfl) (by kernel_rfl)
theorem Q6w:Enters Tryz.prog 138:=Q3 Tryz.func138 (by kernel_rfl) (by kernel_rfl)
theorem Q6x:Enters Tryz.prog 139:=Q3 Tryz.func139 (by kernel_rfl) (by kernel_rfl)
theorem Q6y:Enters Tryz.prog 140:=Q3 Tryz.func140 (by kernel_rfl) (by kernel_rfl)
theorem Q1i:Enters Tryz.prog 141:=Q3 Tryz.func141 (by kernel_rfl) (by kernel_rfl)
theorem Q6z:Enters Tryz.prog 142:=Q3 Tryz.func142 (by kernel_rfl) (by kernel_rfl)
theorem Q70:Enters Tryz.prog 143:=Q3 Tryz.func143 (by kernel_rfl) (by kernel_rfl)
theorem Q8g:Enters Tryz.prog 144:=Q3 Tryz.func144 (by kernel_rfl) (by kernel_rfl)
theorem Q71:Enters Tryz.prog 145:=Q3 Tryz.func145 (by kernel_rfl) (by kernel_rfl)
theorem Q72:Enters Tryz.prog 146:=Q3 Tryz.func146 (by kernel_rfl) (by kernel_rfl)
theorem Q73:Enters Tryz.prog 147:=Q3 Tryz.func147 (by kernel_rfl) (by kernel_rfl)
theorem Q8h:Enters Tryz.prog 148:=Q3 Tryz.func148 (by kernel_rfl) (by kernel_rfl)
theorem Q4w:Enters Tryz.prog 149:=Q3 Tryz.func149 (by kernel_rfl) (by kernel_rfl)
theorem Q5v:Enters Tryz.prog 150:=Q3 Tryz.func150 (by kernel_rfl) (by kernel_rfl)
theorem Q5w:Enters Tryz.prog 151:=Q3 Tryz.func151 (by kernel_rfl) (by kernel_rfl)
theorem Q4x:Enters Tryz.prog 152:=Q3 Tryz.func152 (by kernel_rfl) (by kernel_rfl)
theorem Q4y:Enters Tryz.prog 153:=Q3 Tryz.func153 (by kernel_rfl) (by kernel_rfl)
theorem Q4z:Enters Tryz.prog 154:=Q3 Tryz.func154 (by kernel_rfl) (by kernel_rfl)
theorem Q74:Enters Tryz.prog 155:=Q3 Tryz.func155 (by kernel_rfl) (by kernel_rfl)
theorem Ys:Enters Tryz.prog 156:=Q3 Tryz.func156 (by kernel_rfl) (by kernel_rfl)
end Go.Proofs.YtmaodngbpfjnnaaGreat
namespace Go.Proofs.YtmaodngbpfjnnaaGreat
open Go Go.Tx
theorem Q8i:Enters Tryz.prog 84:=Q3 Tryz.func84 (by kernel_rfl) (by kernel_rfl)
theorem Q5x:Enters Tryz.prog 111:=Q3 Tryz.func111 (by kernel_rfl) (by kernel_rfl)
theorem Q50:Enters Tryz.prog 5:=Q3 Tryz.func5 (by kernel_rfl) (by kernel_rfl)
theorem Q42:Enters Tryz.prog 7:=Q3 Tryz.func7 (by kernel_rfl) (by kernel_rfl)
theorem Q5y:Enters Tryz.prog 10:=Q3 Tryz.func10 (by kernel_rfl) (by kernel_rfl)
theorem J0:Enters Tryz.prog 37:=Q3 Tryz.func37 (by kernel_rfl) (by kernel_rfl)
theorem Yk:Enters Tryz.prog 62:=Q3 Tryz.func62 (by kernel_rfl) (by kernel_rfl)
theorem Zc:Enters Tryz.prog 88:=Q3 Tryz.func88 (by kernel_rfl) (by kernel_rfl)
theorem Q0u:Enters Tryz.prog 89:=Q3 Tryz.func89 (by kernel_rfl) (by kernel_rfl)
theorem Jm:Enters Tryz.prog 90:=Q3 Tryz.func90 (by kernel_rfl) (by kernel_rfl)
theorem Q39:Enters Tryz.prog 14:=Q3 Tryz.func14 (by kernel_rfl) (by kernel_rfl)
theorem Z2:Enters Tryz.prog 18:=Q3 Tryz.func18 (by kernel_rfl) (by kernel_rfl)
theorem Jn:Enters Tryz.prog 19:=Q3 Tryz.func19 (by kernel_rfl) (by kernel_rfl)
theorem Q51:Enters Tryz.prog 20:=Q3 Tryz.func20 (by kernel_rfl) (by kernel_rfl)
theorem Q0f:Enters Tryz.prog 60:=Q3 Tryz.func60 (by kernel_rfl) (by kernel_rfl)
theorem Q5z:Enters Tryz.prog 117:=Q3 Tryz.func117 (by kernel_rfl) (by kernel_rfl)
theorem Q43:Enters Tryz.prog 118:=Q3 Tryz.func118 (by kernel_rfl) (by kernel_rfl)
theorem Yb:Enters Tryz.prog 119:=Q3 Tryz.func119 (by kernel_rfl) (by kernel_rfl)
theorem Zy:Enters Tryz.prog 38:=Q3 Tryz.func38 (by kernel_rfl) (by kernel_rfl)
theorem Q0g:Enters Tryz.prog 39:=Q3 Tryz.func39 (by kernel_rfl) (by kernel_rfl)
theorem G7:Enters Tryz.prog 85:=Q3 Tryz.func85 (by kernel_rfl) (by kernel_rfl)
theorem Q60:Enters Tryz.prog 86:=Q3 Tryz.func86 (by kernel_rfl) (by kernel_rfl)
theorem Q61:Enters Tryz.prog 87:=Q3 Tryz.func87 (by kernel_rfl) (by kernel_rfl)
theorem Q8j:Enters Tryz.prog 129:=Q3 Tryz.func129 (by kernel_rfl) (by kernel_rfl)
theorem Q75:Enters Tryz.prog 130:=Q3 Tryz.func130 (by kernel_rfl) (by kernel_rfl)
theorem Zs:Enters Tryz.prog 61:=Q3 Tryz.func61 (by kernel_rfl) (by kernel_rfl)
theorem Q62:Enters Tryz.prog 112:=Q3 Tryz.func112 (by kernel_rfl) (by kernel_rfl)
theorem Qs:Enters Tryz.prog 113:=Q3 Tryz.func113 (by kernel_rfl) (by kernel_rfl)
theorem Z3:Enters Tryz.prog 114:=Q3 Tryz.func114 (by kernel_rfl) (by kernel_rfl)
theorem Q3a:Enters Tryz.prog 115:=Q3 Tryz.func115 (by kernel_rfl) (by kernel_rfl)
theorem Q63:Enters Tryz.prog 116:=Q3 Tryz.func116 (by kernel_rfl) (by kernel_rfl)
theorem J9:Enters Tryz.prog 135:=Q3 Tryz.func135 (by kernel_rfl) (by kernel_rfl)
theorem Y0:Enters Tryz.prog 136:=Q3 Tryz.func136 (by kernel_rfl) (by kernel_rfl)
end Go.Proofs.YtmaodngbpfjnnaaGreat
namespace Go.Proofs.YtmaodngbpfjnnaaGreat
open Go Go.Tx
def nthT (l:List TC) (j:Nat):TC:=match nth l j with
 | some t=>t
 | none=>.any
def rowOf {α:Type} [Inhabited α] (size:Nat) (tc:α→Nat→TC) (l:List α):Reg:=.row size l.length (fun i=>tc (l.getD i default)) none
def ownOf {α:Type} [Inhabited α] (ty size:Nat) (tc:α→Nat→TC) (l:List α):Reg:=.own ty size l.length (fun i=>tc (l.getD i default)) none
def i64T (n:Int):Nat→TC:=nthT [.val (.int .i64 n)]
theorem i64T.flat (x:Int):∀ j,j<1→flatT (i64T x j):=by
 intro j hj
 match j,hj with
 | 0,_=>exact ⟨_,rfl,rfl⟩
abbrev IntRow (l:List Int):Reg:=.row 1 l.length (fun i=>i64T (l.getD i 0)) none
abbrev IntOwn (l:List Int):Reg:=.own 3 1 l.length (fun i=>i64T (l.getD i 0)) none
abbrev WordOwn (l:List Int):Reg:=.own 2 1 l.length (fun i=>i64T (l.getD i 0)) none
structure Did where
 kind:Int
 core:Int
 pc:Int
 addr:Int
 word:Int
 put:Int
 own:Bool
 deriving Inhabited,DecidableEq
def Did.tl (x:Did):List TC:=[.val (.int .u8 x.kind),.val (.int .i64 x.core),.val (.int .i64 x.pc),.val (.int .i64 x.addr),.val (.int .i64 x.word),.val (.int .i64 x.put),.val (.bool x.own)]
def Did.tc (x:Did):Nat→TC:=nthT x.tl
def Did.cs (x:Did):List C:=[.i .u8 x.kind,.i .i64 x.core,.i .i64 x.pc,.i .i64 x.addr,.i .i64 x.word,.i .i64 x.put,.b x.own]
theorem Did.flat (x:Did):∀ j,j<7→flatT (x.tc j):=by
 intro j hj
 match j,hj with
 | 0,_=>exact ⟨_,rfl,rfl⟩
 | 1,_=>exact ⟨_,rfl,rfl⟩
 | 2,_=>exact ⟨_,rfl,rfl⟩
 | 3,_=>exact ⟨_,rfl,rfl⟩
 | 4,_=>exact ⟨_,rfl,rfl⟩
 | 5,_=>exact ⟨_,rfl,rfl⟩
 | 6,_=>exact ⟨_,rfl,rfl⟩
abbrev Did.rowR (l:List Did):Reg:=rowOf 7 Did.tc l
structure Ev where
 kind:Int
 core:Int
 thing:Int
 word:Int
 put:Int
 own:Bool
 pos:Int
 deriving Inhabited,DecidableEq
def Ev.tl (x:Ev):List TC:=[.val (.int .u8 x.kind),.val (.int .i64 x.core),.val (.int .i64 x.thing),.val (.int .i64 x.word),.val (.int .i64 x.put),.val (.bool x.own),.val (.int .i64 x.pos)]
def Ev.tc (x:Ev):Nat→TC:=nthT x.tl
def Ev.cs (x:Ev):List C:=[.i .u8 x.kind,.i .i64 x.core,.i .i64 x.thing,.i .i64 x.word,.i .i64 x.put,.b x.own,.i .i64 x.pos]
theorem Ev.flat (x:Ev):∀ j,j<7→flatT (x.tc j):=by
 intro j hj
 match j,hj with
 | 0,_=>exact ⟨_,rfl,rfl⟩
 | 1,_=>exact ⟨_,rfl,rfl⟩
 | 2,_=>exact ⟨_,rfl,rfl⟩
 | 3,_=>exact ⟨_,rfl,rfl⟩
 | 4,_=>exact ⟨_,rfl,rfl⟩
 | 5,_=>exact ⟨_,rfl,rfl⟩
 | 6,_=>exact ⟨_,rfl,rfl⟩
abbrev Ev.rowR (l:List Ev):Reg:=rowOf 7 Ev.tc l
abbrev Ev.ownR (l:List Ev):Reg:=ownOf 53 7 Ev.tc l
structure Blk where
 lock:Int
 core:Int
 from_:Int
 left:Int
 to:Int
 deriving Inhabited,DecidableEq
def Blk.tl (x:Blk):List TC:=[.val (.int .i64 x.lock),.val (.int .i64 x.core),.val (.int .i64 x.from_),.val (.int .i64 x.left),.val (.int .i64 x.to)]
def Blk.tc (x:Blk):Nat→TC:=nthT x.tl
def Blk.cs (x:Blk):List C:=[.i .i64 x.lock,.i .i64 x.core,.i .i64 x.from_,.i .i64 x.left,.i .i64 x.to]
theorem Blk.flat (x:Blk):∀ j,j<5→flatT (x.tc j):=by
 intro j hj
 match j,hj with
 | 0,_=>exact ⟨_,rfl,rfl⟩
 | 1,_=>exact ⟨_,rfl,rfl⟩
 | 2,_=>exact ⟨_,rfl,rfl⟩
 | 3,_=>exact ⟨_,rfl,rfl⟩
 | 4,_=>exact ⟨_,rfl,rfl⟩
structure Hnd where
 thing:Int
 core:Int
 pos:Int
 read:Int
 last:Int
 deriving Inhabited,DecidableEq
def Hnd.tl (x:Hnd):List TC:=[.val (.int .i64 x.thing),.val (.int .i64 x.core),.val (.int .i64 x.pos),.val (.int .i64 x.read),.val (.int .i64 x.last)]
def Hnd.tc (x:Hnd):Nat→TC:=nthT x.tl
def Hnd.cs (x:Hnd):List C:=[.i .i64 x.thing,.i .i64 x.core,.i .i64 x.pos,.i .i64 x.read,.i .i64 x.last]
theorem Hnd.flat (x:Hnd):∀ j,j<5→flatT (x.tc j):=by
 intro j hj
 match j,hj with
 | 0,_=>exact ⟨_,rfl,rfl⟩
 | 1,_=>exact ⟨_,rfl,rfl⟩
 | 2,_=>exact ⟨_,rfl,rfl⟩
 | 3,_=>exact ⟨_,rfl,rfl⟩
 | 4,_=>exact ⟨_,rfl,rfl⟩
structure Cls where
 kind:Int
 thread:Int
 lock:Int
 deriving Inhabited,DecidableEq
def Cls.tl (x:Cls):List TC:=[.val (.int .u8 x.kind),.val (.int .i64 x.thread),.val (.int .i64 x.lock)]
def Cls.tc (x:Cls):Nat→TC:=nthT x.tl
def Cls.cs (x:Cls):List C:=[.i .u8 x.kind,.i .i64 x.thread,.i .i64 x.lock]
theorem Cls.flat (x:Cls):∀ j,j<3→flatT (x.tc j):=by
 intro j hj
 match j,hj with
 | 0,_=>exact ⟨_,rfl,rfl⟩
 | 1,_=>exact ⟨_,rfl,rfl⟩
 | 2,_=>exact ⟨_,rfl,rfl⟩
abbrev Cls.rowR (l:List Cls):Reg:=rowOf 3 Cls.tc l
structure Prt where
 thread:Int
 word:Int
 deriving Inhabited,DecidableEq
def Prt.tl (x:Prt):List TC:=[.val (.int .i64 x.thread),.val (.int .i64 x.word)]
def Prt.tc (x:Prt):Nat→TC:=nthT x.tl
def Prt.cs (x:Prt):List C:=[.i .i64 x.thread,.i .i64 x.word]
theorem Prt.flat (x:Prt):∀ j,j<2→flatT (x.tc j):=by
 intro j hj
 match j,hj with
 | 0,_=>exact ⟨_,rfl,rfl⟩
 | 1,_=>exact ⟨_,rfl,rfl⟩
abbrev Prt.rowR (l:List Prt):Reg:=rowOf 2 Prt.tc l
abbrev Prt.ownR (l:List Prt):Reg:=ownOf 74 2 Prt.tc l
structure Stp where
 kind:Int
 core:Int
 deriving Inhabited,DecidableEq
def Stp.tl (x:Stp):List TC:=[.val (.int .u8 x.kind),.val (.int .i64 x.core)]
def Stp.tc (x:Stp):Nat→TC:=nthT x.tl
def Stp.cs (x:Stp):List C:=[.i .u8 x.kind,.i .i64 x.core]
theorem Stp.flat (x:Stp):∀ j,j<2→flatT (x.tc j):=by
 intro j hj
 match j,hj with
 | 0,_=>exact ⟨_,rfl,rfl⟩
 | 1,_=>exact ⟨_,rfl,rfl⟩
structure Sto where
 pos:Int
 addr:Int
 word:Int
 deriving Inhabited,DecidableEq
def Sto.tl (x:Sto):List TC:=[.val (.int .i64 x.pos),.val (.int .i64 x.addr),.val (.int .i64 x.word)]
def Sto.tc (x:Sto):Nat→TC:=nthT x.tl
def Sto.cs (x:Sto):List C:=[.i .i64 x.pos,.i .i64 x.addr,.i .i64 x.word]
theorem Sto.flat (x:Sto):∀ j,j<3→flatT (x.tc j):=by
 intro j hj
 match j,hj with
 | 0,_=>exact ⟨_,rfl,rfl⟩
 | 1,_=>exact ⟨_,rfl,rfl⟩
 | 2,_=>exact ⟨_,rfl,rfl⟩
structure Ins where
 kind:Int
 op:Int
 d:Int
 a:Int
 b:Int
 addr:Int
 to:Int
 word:Int
 from_:Int
 deriving Inhabited,DecidableEq
def Ins.tl (x:Ins):List TC:=[.val (.int .u8 x.kind),.val (.int .u8 x.op),.val (.int .i64 x.d),.val (.int .i64 x.a),.val (.int .i64 x.b),.val (.int .i64 x.addr),.val (.int .i64 x.to),.val (.int .i64 x.word),.val (.int .i64 x.from_)]
def Ins.tc (x:Ins):Nat→TC:=nthT x.tl
def Ins.cs (x:Ins):List C:=[.i .u8 x.kind,.i .u8 x.op,.i .i64 x.d,.i .i64 x.a,.i .i64 x.b,.i .i64 x.addr,.i .i64 x.to,.i .i64 x.word,.i .i64 x.from_]
theorem Ins.flat (x:Ins):∀ j,j<9→flatT (x.tc j):=by
 intro j hj
 match j,hj with
 | 0,_=>exact ⟨_,rfl,rfl⟩
 | 1,_=>exact ⟨_,rfl,rfl⟩
 | 2,_=>exact ⟨_,rfl,rfl⟩
 | 3,_=>exact ⟨_,rfl,rfl⟩
 | 4,_=>exact ⟨_,rfl,rfl⟩
 | 5,_=>exact ⟨_,rfl,rfl⟩
 | 6,_=>exact ⟨_,rfl,rfl⟩
 | 7,_=>exact ⟨_,rfl,rfl⟩
 | 8,_=>exact ⟨_,rfl,rfl⟩
abbrev Ins.rowR (l:List Ins):Reg:=rowOf 9 Ins.tc l
structure Cor where
 name:ByteArray
 code:List Ins
 deriving Inhabited,DecidableEq
def Cor.tl (x:Cor):List TC:=[.val (.string x.name),.sub 116 9 (x.code).length (fun i=>Ins.tc ((x.code).getD i default))]
def Cor.tc (x:Cor):Nat→TC:=nthT x.tl
def Cor.cs (x:Cor) (r_code:Nat):List C:=[.v (.string x.name),.h r_code]
abbrev Cor.rowR (l:List Cor):Reg:=rowOf 2 Cor.tc l
theorem Gi {α:Type} (d:α) (l r:List α) {i:Nat} (h:i<l.length):(l++r).getD i d=l.getD i d:=by
 rw [List.getD_eq_getElem?_getD,List.getD_eq_getElem?_getD,List.getElem?_append_left h]
theorem Yc {α:Type} (d:α) (l:List α) (x:α):(l++[x]).getD l.length d=x:=by
 rw [List.getD_eq_getElem?_getD,List.getElem?_append_right (Nat.le_refl _)];simp
theorem Y5 {α:Type} (d:α) (tc:α→Nat→TC) (l:List α) (x:α):∀ i,i<(l++[x]).length→tc ((l++[x]).getD i d)=if i=l.length then tc x else tc (l.getD i d):=by
 intro i hi
 by_cases h:i=l.length
 ·subst h;rw [if_pos rfl,Yc]
 ·rw [if_neg h,Gi]
  simp at hi;omega
theorem Y6 {α:Type} (l:List α) (x:α):(l++[x]).length=l.length+1:=by simp
theorem Zh {α:Type} {d:α} {l:List α} {x:α} {i:Nat} (h1:i<(l++[x]).length) (h2:i≠l.length):(l++[x]).getD i d=l.getD i d:=
 Gi _ _ _ (by simp at h1;omega)
theorem Q76 {α:Type} (d:α) (tc:α→Nat→TC) (l:List α) (k off:Nat) (x:α) (vs:List Value) (h:∀ j,tc x j=if off≤j∧j<off+vs.length then .val (vs.getD (j-off) undef) else tc (l.getD k d) j) :
 ∀ i,i<(l.set k x).length→tc ((l.set k x).getD i d)=updT (fun i=>tc (l.getD i d)) k off vs i:=by
 intro i hi
 rw [List.length_set] at hi
 funext j
 unfold updT
 by_cases e:i=k
 ·subst e
  rw [List.getD_eq_getElem?_getD,List.getElem?_set_self hi]
  simp only [Option.getD_some,true_and]
  exact h j
 ·rw [List.getD_eq_getElem?_getD,List.getElem?_set_ne (Ne.symm e),← List.getD_eq_getElem?_getD]
  simp [e]
theorem Qx (l:List Int) (k:Nat) (x:Int):∀ i,i<(l.set k x).length→i64T ((l.set k x).getD i 0)=updT (fun i=>i64T (l.getD i 0)) k 0 [.int .i64 x] i:=
 Q76 0 i64T l k 0 x _ (fun j=>by rcases j with _ | j<;>simp [i64T,nthT,nth])
theorem J1 {α:Type} (d:α) (tc:α→Nat→TC) (l:List α) (k n:Nat):∀ i,i<((l.drop k).take n).length→tc (((l.drop k).take n).getD i d)=tc (l.getD (k+i) d):=by
 intro i hi
 congr 1
 rw [List.length_take] at hi
 rw [List.getD_eq_getElem?_getD,List.getElem?_take_of_lt W37,List.getElem?_drop,← List.getD_eq_getElem?_getD]
theorem J2 {α:Type} (l:List α) (k n:Nat) (h:k+n≤l.length):((l.drop k).take n).length=n:=by simp;omega
theorem Qiy (size:Nat) (vs:List Value) (i:Nat) (tl:List TC) (h:((List.range size).map fun j=>TC.val (vs.getD (i * size+j) undef))=tl):nthT tl=rowT size vs i:=by
 subst h
 funext j
 unfold nthT rowT
 have e:∀ (l:List TC) (k:Nat),nth l k=l[k]?:=fun l k=>Qp l k
 rw [e,List.getElem?_map]
 by_cases hj:j<size
 ·rw [List.getElem?_range hj,show Nat.blt j size=true by simp only [Nat.blt_eq];exact hj];rfl
 ·rw [List.getElem?_eq_none W117,show Nat.blt j size=false by rw [Bool.eq_false_iff];simp only [ne_eq,Nat.blt_eq];exact hj];rfl
theorem Q0h {α:Type} (d:α) (tl:α→List TC) (l:List α) (size:Nat) (vs:List Value) (h:((List.range l.length).map fun i=>(List.range size).map fun j=>TC.val (vs.getD (i * size+j) undef))=l.map tl):∀ i,i<l.length→nthT (tl (l.getD i d))=rowT size vs i:=by
 intro i hi
 refine Qiy size vs i _ ?_
 have:=congrArg (fun x=>x[i]?) h
 simp only [List.getElem?_map,List.getElem?_range hi,List.getElem?_eq_getElem hi,Option.map_some,Option.some.injEq] at this
 rw [this,List.getD_eq_getElem?_getD,List.getElem?_eq_getElem hi];rfl
theorem Ja (n:Nat):∀ i,i<(List.replicate n (0:Int)).length→i64T ((List.replicate n (0:Int)).getD i 0)=fun j=>valT [.int .i64 0] j:=by
 intro i hi
 rw [List.getD_eq_getElem?_getD,List.getElem?_replicate,if_pos W162]
 funext j
 rcases j with _ | j<;>rfl
end Go.Proofs.YtmaodngbpfjnnaaGreat
namespace Go.Proofs.YtmaodngbpfjnnaaGreat
open Go Go.Tx
structure Vl where
 slotted:Bool
 slot:Int
 word:Int
 deriving Inhabited,DecidableEq
def Vl.tl (x:Vl):List TC:=[.val (.bool x.slotted),.val (.int .i64 x.slot),.val (.int .i64 x.word)]
def Vl.tc (x:Vl):Nat→TC:=nthT x.tl
def Vl.cs (x:Vl):List C:=[.b x.slotted,.i .i64 x.slot,.i .i64 x.word]
theorem Vl.flat (x:Vl):∀ j,j<3→flatT (x.tc j):=by
 intro j hj
 match j,hj with
 | 0,_=>exact ⟨_,rfl,rfl⟩
 | 1,_=>exact ⟨_,rfl,rfl⟩
 | 2,_=>exact ⟨_,rfl,rfl⟩
structure Dcl where
 name:ByteArray
 word:Int
 pos:Int
 deriving Inhabited,DecidableEq
def Dcl.tl (x:Dcl):List TC:=[.val (.string x.name),.val (.int .i64 x.word),.val (.int .i64 x.pos)]
def Dcl.tc (x:Dcl):Nat→TC:=nthT x.tl
def Dcl.cs (x:Dcl):List C:=[.v (.string x.name),.i .i64 x.word,.i .i64 x.pos]
theorem Dcl.flat (x:Dcl):∀ j,j<3→flatT (x.tc j):=by
 intro j hj
 match j,hj with
 | 0,_=>exact ⟨_,rfl,rfl⟩
 | 1,_=>exact ⟨_,rfl,rfl⟩
 | 2,_=>exact ⟨_,rfl,rfl⟩
abbrev Dcl.rowR (l:List Dcl):Reg:=rowOf 3 Dcl.tc l
abbrev Dcl.ownR (l:List Dcl):Reg:=ownOf 104 3 Dcl.tc l
structure Act where
 thread:Int
 node:Int
 kind:Int
 thing:Int
 word:Int
 put:Int
 deriving Inhabited,DecidableEq
def Act.tl (x:Act):List TC:=[.val (.int .i64 x.thread),.val (.int .i64 x.node),.val (.int .u8 x.kind),.val (.int .i64 x.thing),.val (.int .i64 x.word),.val (.int .i64 x.put)]
def Act.tc (x:Act):Nat→TC:=nthT x.tl
def Act.cs (x:Act):List C:=[.i .i64 x.thread,.i .i64 x.node,.i .u8 x.kind,.i .i64 x.thing,.i .i64 x.word,.i .i64 x.put]
theorem Act.flat (x:Act):∀ j,j<6→flatT (x.tc j):=by
 intro j hj
 match j,hj with
 | 0,_=>exact ⟨_,rfl,rfl⟩
 | 1,_=>exact ⟨_,rfl,rfl⟩
 | 2,_=>exact ⟨_,rfl,rfl⟩
 | 3,_=>exact ⟨_,rfl,rfl⟩
 | 4,_=>exact ⟨_,rfl,rfl⟩
 | 5,_=>exact ⟨_,rfl,rfl⟩
structure Nod where
 kind:Int
 op:Int
 slot:Int
 thing:Int
 a:Vl
 b:Vl
 next:Int
 els:Int
 origin:Int
 deriving Inhabited,DecidableEq
def Nod.tl (x:Nod):List TC:=[.val (.int .u8 x.kind),.val (.int .u8 x.op),.val (.int .i64 x.slot),.val (.int .i64 x.thing),.val (.bool x.a.slotted),.val (.int .i64 x.a.slot),.val (.int .i64 x.a.word),.val (.bool x.b.slotted),.val (.int .i64 x.b.slot),.val (.int .i64 x.b.word),.val (.int .i64 x.next),.val (.int .i64 x.els),.val (.int .i64 x.origin)]
def Nod.tc (x:Nod):Nat→TC:=nthT x.tl
def Nod.cs (x:Nod):List C:=[.i .u8 x.kind,.i .u8 x.op,.i .i64 x.slot,.i .i64 x.thing,.b x.a.slotted,.i .i64 x.a.slot,.i .i64 x.a.word,.b x.b.slotted,.i .i64 x.b.slot,.i .i64 x.b.word,.i .i64 x.next,.i .i64 x.els,.i .i64 x.origin]
theorem Nod.flat (x:Nod):∀ j,j<13→flatT (x.tc j):=by
 intro j hj
 match j,hj with
 | 0,_=>exact ⟨_,rfl,rfl⟩
 | 1,_=>exact ⟨_,rfl,rfl⟩
 | 2,_=>exact ⟨_,rfl,rfl⟩
 | 3,_=>exact ⟨_,rfl,rfl⟩
 | 4,_=>exact ⟨_,rfl,rfl⟩
 | 5,_=>exact ⟨_,rfl,rfl⟩
 | 6,_=>exact ⟨_,rfl,rfl⟩
 | 7,_=>exact ⟨_,rfl,rfl⟩
 | 8,_=>exact ⟨_,rfl,rfl⟩
 | 9,_=>exact ⟨_,rfl,rfl⟩
 | 10,_=>exact ⟨_,rfl,rfl⟩
 | 11,_=>exact ⟨_,rfl,rfl⟩
 | 12,_=>exact ⟨_,rfl,rfl⟩
abbrev Nod.rowR (l:List Nod):Reg:=rowOf 13 Nod.tc l
abbrev Nod.ownR (l:List Nod):Reg:=ownOf 137 13 Nod.tc l
structure Grf where
 name:ByteArray
 locals:Int
 slots:Int
 nodes:List Nod
 deriving Inhabited,DecidableEq
def Grf.tl (x:Grf):List TC:=[.val (.string x.name),.val (.int .i64 x.locals),.val (.int .i64 x.slots),.sub 137 13 (x.nodes).length (fun i=>Nod.tc ((x.nodes).getD i default))]
def Grf.tc (x:Grf):Nat→TC:=nthT x.tl
def Grf.cs (x:Grf) (r_nodes:Nat):List C:=[.v (.string x.name),.i .i64 x.locals,.i .i64 x.slots,.h r_nodes]
abbrev Grf.rowR (l:List Grf):Reg:=rowOf 4 Grf.tc l
abbrev Grf.ownR (l:List Grf):Reg:=ownOf 107 4 Grf.tc l
end Go.Proofs.YtmaodngbpfjnnaaGreat
namespace Go.Proofs.YtmaodngbpfjnnaaGreat
open Go Go.Tx
theorem BL:(∀ a b:Bool,((a&&b)=true)=(a=true∧b=true))∧(∀ a b:Bool,((a||b)=true)=(a=true∨b=true))∧(∀ a b:Bool,((a&&b)=false)=(a=false∨b=false))∧(∀ a b:Bool,((a||b)=false)=(a=false∧b=false)) ∧
 (∀ a:Bool,((!a)=true)=(a=false))∧(∀ a:Bool,((!a)=false)=(a=true))∧(∀ (p:Prop) [Decidable p],(decide p=true)=p)∧(∀ (p:Prop) [Decidable p],(decide p=false)=¬ p):=by
 exact ⟨by simp,by simp,by intro a b;cases a<;>cases b<;>simp,by simp,by simp,by simp,by simp,by simp⟩
def twoB (op:Int):Bool:=decide (0<op)&&decide (op<19)&&!decide (op=17)&&!decide (op=18)
def opB (op:Int):Bool:=decide (0<op)&&decide (op<19)
def useD (k:Int):Bool:=decide (k=1)||decide (k=2)||decide (k=3)||decide (k=5)
def useA (k:Int):Bool:=decide (k=2)||decide (k=4)||decide (k=7)||decide (k=9)
def useAddr (k:Int):Bool:=decide (k=3)||decide (k=4)||decide (k=5)
def useTo (k:Int):Bool:=decide (k=8)||decide (k=9)
def within (u:Bool) (n most:Int):Bool:=u&&decide (0≤n)&&decide (n<most)||!u&&decide (n=0)
def insB (i:Ins) (code memory:Int):Bool:=
 decide (0<i.kind)&&decide (i.kind<11)&&decide (0≤i.from_)&&decide (i.from_≤4096) &&
 (decide (i.kind=2)&&opB i.op||!decide (i.kind=2)&&decide (i.op=0)) &&
 within (useD i.kind) i.d 16&&within (useA i.kind) i.a 16&&within (decide (i.kind=2)&&twoB i.op) i.b 16 &&
 within (useAddr i.kind) i.addr memory&&within (useTo i.kind) i.to code&&(decide (i.kind=1)||decide (i.word=0))
def addrB (k:Int):Bool:=decide (k=2)||decide (k=3)||decide (k=4)||decide (k=8)
def didB (d:Did):Bool:=
 decide (0<d.kind)&&decide (d.kind<9)&&decide (0≤d.core)&&decide (d.core<8)&&decide (0≤d.pc)&&decide (d.pc<16384)&&decide (0≤d.addr)&&decide (d.addr<4096) &&
 (addrB d.kind||decide (d.addr=0))&&(addrB d.kind||decide (d.kind=6)||decide (d.word=0))&&(decide (d.kind=4)||decide (d.put=0))&&(decide (d.kind=2)||!d.own)
def digitB (c:Int):Bool:=decide (48≤c)&&decide (c≤57)
def letterB (c:Int):Bool:=decide (97≤c)&&decide (c≤122)||decide (65≤c)&&decide (c≤90)||decide (c=95)
def wordB (s:ByteArray):Bool:=
 decide (s={ data:=#[115,104,97,114,101,100] })||decide (s={ data:=#[108,111,99,107] })||decide (s={ data:=#[116,104,114,101,97,100] })||decide (s={ data:=#[108,111,99,97,108] })||decide (s={ data:=#[105,102] })||decide (s={ data:=#[101,108,115,101] })||decide (s={ data:=#[119,104,105,108,101] })||decide (s={ data:=#[112,114,105,110,116] })||decide (s={ data:=#[115,107,105,112] })||decide (s={ data:=#[115,119,97,112] })
def byteAt (s:ByteArray) (i:Nat):Int:=((s.data.toList.getD i 0).toNat:Int)
def letgB (c:UInt8):Bool:=letterB (c.toNat:Int)||digitB (c.toNat:Int)
def restB (s:ByteArray) (i:Int):Bool:=(s.data.toList.drop i.toNat).all letgB
def nameB (s:ByteArray):Bool:=decide (1≤(s.size:Int))&&decide ((s.size:Int)≤32)&&!digitB (byteAt s 0)&&!wordB s&&restB s 0
theorem Q3b (s:ByteArray) (i:Int) (h0:0≤i) (h:i<s.size):restB s i=((letterB (byteAt s i.toNat)||digitB (byteAt s i.toNat))&&restB s (i+1)):=by
 unfold restB byteAt
 have hlt:i.toNat<s.data.toList.length:=by simp;omega
 have e:(i+1).toNat=i.toNat+1:=by omega
 rw [e,List.drop_eq_getElem_cons hlt,List.all_cons,List.getD_eq_getElem?_getD,List.getElem?_eq_getElem hlt]
 rfl
theorem Qgw (s:ByteArray) (i:Int) (h:(s.size:Int)≤i):restB s i=true:=by
 unfold restB
 rw [List.drop_eq_nil_of_le W117]
 rfl
def opNames:List ByteArray:=[⟨#[]⟩,⟨#[97,100,100]⟩,⟨#[115,117,98]⟩,⟨#[109,117,108]⟩,⟨#[100,105,118]⟩,⟨#[114,101,109]⟩,⟨#[97,110,100]⟩,⟨#[111,114]⟩,⟨#[120,111,114]⟩,⟨#[115,104,108]⟩,⟨#[115,104,114]⟩,⟨#[105,115]⟩,⟨#[105,115,110,111,116]⟩,⟨#[108,101,115,115]⟩,⟨#[109,111,115,116]⟩,⟨#[97,98,111,118,101]⟩,⟨#[108,101,97,115,116]⟩,⟨#[109,105,110,117,115]⟩,⟨#[110,111,116]⟩]
def kindNames:List ByteArray:=[⟨#[]⟩,⟨#[115,101,116]⟩,⟨#[]⟩,⟨#[108,111,97,100]⟩,⟨#[115,116,111,114,101]⟩,⟨#[115,119,97,112]⟩,⟨#[102,101,110,99,101]⟩,⟨#[112,114,105,110,116]⟩,⟨#[106,117,109,112]⟩,⟨#[122,101,114,111]⟩,⟨#[104,97,108,116]⟩]
def useTab:List (List Int):=[[0,2,1,2,4,2,0,4,32,4,0],[0,64,2,16,16,16,0,0,0,32,0],[0,0,4,0,0,0,0,0,0,0,0],[0,0,8,0,0,0,0,0,0,0,0]]
def opStr (op:Int):ByteArray:=if decide (19≤op) then ⟨#[]⟩ else opNames.getD op.toNat ⟨#[]⟩
def formW (k:Int):ByteArray:=if decide (k=0)||decide (11≤k) then ⟨#[]⟩ else kindNames.getD k.toNat ⟨#[]⟩
def formU (k:Int) (j:Nat):Int:=if decide (k=0)||decide (11≤k) then 0 else (useTab.getD j []).getD k.toNat 0
def formOk (k:Int):Bool:=!(decide (k=0)||decide (11≤k))
def usedAll (k:Int):Int:=bits .or .u8 (bits .or .u8 (bits .or .u8 (bits .or .u8 0 (formU k 0)) (formU k 1)) (formU k 2)) (formU k 3)
def usedI (k op:Int):Int:=if decide (k=2)&&!twoB op then bits .andNot .u8 (usedAll k) 8 else usedAll k
def withinU (all n u most:Int):Bool:=decide (bits .and .u8 all u=0)&&decide (n=0)||!decide (bits .and .u8 all u=0)&&decide (0≤n)&&decide (n<most)
theorem Qiz (k op:Int) (h:1≤k∧k≤10):usedI k op=if decide (k=2) then (if twoB op then 15 else 7) else [0,66,0,18,20,18,0,4,32,36,0].getD k.toNat 0:=by
 have:k=1∨k=2∨k=3∨k=4∨k=5∨k=6∨k=7∨k=8∨k=9∨k=10:=by omega
 rcases this with rfl | rfl | rfl | rfl | rfl | rfl | rfl | rfl | rfl | rfl
 all_goals (unfold usedI;first | rfl | (cases twoB op<;>rfl))
theorem Qj0 (op:Int) (h:0≤op):decide (opStr op=⟨#[]⟩)=!opB op:=by
 by_cases h19:19≤op
 ·simp only [opStr,h19,decide_true,if_true,opB]
  simp;omega
 ·have:op=0∨op=1∨op=2∨op=3∨op=4∨op=5∨op=6∨op=7∨op=8∨op=9∨op=10∨op=11∨op=12∨op=13∨op=14∨op=15∨op=16∨op=17∨op=18:=by omega
  rcases this with rfl | rfl | rfl | rfl | rfl | rfl | rfl | rfl | rfl | rfl | rfl | rfl | rfl | rfl | rfl | rfl | rfl | rfl | rfl
  all_goals decide
theorem Qbz:bits BinOp.and IntKind.u8 66 1=0∧bits BinOp.and IntKind.u8 66 2=2∧bits BinOp.and IntKind.u8 66 4=0∧bits BinOp.and IntKind.u8 66 8=0∧bits BinOp.and IntKind.u8 66 16=0∧bits BinOp.and IntKind.u8 66 32=0∧bits BinOp.and IntKind.u8 66 64=64∧bits BinOp.and IntKind.u8 7 1=1∧bits BinOp.and IntKind.u8 7 2=2∧bits BinOp.and IntKind.u8 7 4=4∧bits BinOp.and IntKind.u8 7 8=0∧bits BinOp.and IntKind.u8 7 16=0∧bits BinOp.and IntKind.u8 7 32=0∧bits BinOp.and IntKind.u8 7 64=0∧bits BinOp.and IntKind.u8 15 1=1∧bits BinOp.and IntKind.u8 15 2=2∧bits BinOp.and IntKind.u8 15 4=4∧bits BinOp.and IntKind.u8 15 8=8∧bits BinOp.and IntKind.u8 15 16=0∧bits BinOp.and IntKind.u8 15 32=0∧bits BinOp.and IntKind.u8 15 64=0∧bits BinOp.and IntKind.u8 18 1=0∧bits BinOp.and IntKind.u8 18 2=2∧bits BinOp.and IntKind.u8 18 4=0∧bits BinOp.and IntKind.u8 18 8=0∧bits BinOp.and IntKind.u8 18 16=16∧bits BinOp.and IntKind.u8 18 32=0∧bits BinOp.and IntKind.u8 18 64=0∧bits BinOp.and IntKind.u8 20 1=0∧bits BinOp.and IntKind.u8 20 2=0∧bits BinOp.and IntKind.u8 20 4=4∧bits BinOp.and IntKind.u8 20 8=0∧bits BinOp.and IntKind.u8 20 16=16∧bits BinOp.and IntKind.u8 20 32=0∧bits BinOp.and IntKind.u8 20 64=0∧bits BinOp.and IntKind.u8 0 1=0∧bits BinOp.and IntKind.u8 0 2=0∧bits BinOp.and IntKind.u8 0 4=0∧bits BinOp.and IntKind.u8 0 8=0∧bits BinOp.and IntKind.u8 0 16=0∧bits BinOp.and IntKind.u8 0 32=0∧bits BinOp.and IntKind.u8 0 64=0∧bits BinOp.and IntKind.u8 4 1=0∧bits BinOp.and IntKind.u8 4 2=0∧bits BinOp.and IntKind.u8 4 4=4∧bits BinOp.and IntKind.u8 4 8=0∧bits BinOp.and IntKind.u8 4 16=0∧bits BinOp.and IntKind.u8 4 32=0∧bits BinOp.and IntKind.u8 4 64=0∧bits BinOp.and IntKind.u8 32 1=0∧bits BinOp.and IntKind.u8 32 2=0∧bits BinOp.and IntKind.u8 32 4=0∧bits BinOp.and IntKind.u8 32 8=0∧bits BinOp.and IntKind.u8 32 16=0∧bits BinOp.and IntKind.u8 32 32=32∧bits BinOp.and IntKind.u8 32 64=0∧bits BinOp.and IntKind.u8 36 1=0∧bits BinOp.and IntKind.u8 36 2=0∧bits BinOp.and IntKind.u8 36 4=4∧bits BinOp.and IntKind.u8 36 8=0∧bits BinOp.and IntKind.u8 36 16=0∧bits BinOp.and IntKind.u8 36 32=32∧bits BinOp.and IntKind.u8 36 64=0:=by repeat' (first | apply And.intro | rfl)
theorem Qgx (i:Ins) (code memory:Int) (hk:0≤i.kind) (ho:0≤i.op) (h1:(!formOk i.kind||decide (i.from_<0)||decide (4096<i.from_))=false) :
 insB i code memory=((decide (bits BinOp.and IntKind.u8 (usedI i.kind i.op) (1:Int)=(0:Int))&&decide (i.op=(0:Int))||!decide (bits BinOp.and IntKind.u8 (usedI i.kind i.op) (1:Int)=(0:Int))&&!decide (opStr i.op={ data:=#[] }))&&withinU (usedI i.kind i.op) i.d (2:Int) (16:Int)&&withinU (usedI i.kind i.op) i.a (4:Int) (16:Int)&&withinU (usedI i.kind i.op) i.b (8:Int) (16:Int)&&withinU (usedI i.kind i.op) i.addr (16:Int) memory&&withinU (usedI i.kind i.op) i.to (32:Int) code&&(!decide (bits BinOp.and IntKind.u8 (usedI i.kind i.op) (64:Int)=(0:Int))||decide (i.word=(0:Int)))):=by
 have hk2:1≤i.kind∧i.kind≤10:=by simp [formOk] at h1;omega
 have hf:0≤i.from_∧i.from_≤4096:=by simp at h1;omega
 rw [Qiz _ _ hk2,Qj0 _ ho]
 obtain ⟨kind,op,d,a,b,addr,to,word,from_⟩:=i
 simp only at *
 have:kind=1∨kind=2∨kind=3∨kind=4∨kind=5∨kind=6∨kind=7∨kind=8∨kind=9∨kind=10:=by omega
 have e0:decide (0≤from_)=true:=by simpa using hf.1
 have e1:decide (from_≤4096)=true:=by simpa using hf.2
 rcases this with rfl | rfl | rfl | rfl | rfl | rfl | rfl | rfl | rfl | rfl
 case inr.inl =>
  cases htw:twoB op<;>simp [insB,within,useD,useA,useAddr,useTo,withinU,htw,e0,e1,Qbz]
 all_goals
  simp [insB,within,useD,useA,useAddr,useTo,withinU,e0,e1,Qbz]
def allFrom (p:Int→Bool) (i n:Int):Bool:=(List.range (n-i).toNat).all fun j=>p (i+j)
theorem Za (p:Int→Bool) {i n:Int} (h:n≤i):allFrom p i n=true:=by
 unfold allFrom
 rw [show (n-i).toNat=0 by omega];rfl
theorem Jo (p:Int→Bool) {i n:Int} (h:i<n):allFrom p i n=(p i&&allFrom p (i+1) n):=by
 unfold allFrom
 rw [show (n-i).toNat=(n-(i+1)).toNat+1 by omega,List.range_succ_eq_map,List.all_cons,List.all_map]
 simp only [Function.comp_def]
 congr 1
 ·simp
 ·congr 1;funext j
  congr 1
  rw [show ((Nat.succ j:Nat):Int)=(j:Int)+1 from rfl];omega
theorem G8 (p:Int→Bool) {i n:Int} (h:i<n) (hp:p i=true):allFrom p i n=allFrom p (i+1) n:=by rw [Jo p h,hp];rfl
theorem G9 (p:Int→Bool) {i n:Int} (h:i<n) (hp:p i=false):allFrom p i n=false:=by rw [Jo p h,hp];rfl
def findF (p:Int→Bool):Nat→Int→Int
 | 0,i=>i
 | n+1,i=>if p i then findF p n (i+1) else i
def findFrom (p:Int→Bool) (i n:Int):Int:=findF p (n-i).toNat i
theorem Zi (p:Int→Bool) {i n:Int} (h:n=i):findFrom p i n=n:=by
 unfold findFrom;rw [show (n-i).toNat=0 by omega];exact h.symm
theorem Yt (p:Int→Bool) {i n:Int} (h:i<n) (hp:p i=true):findFrom p i n=findFrom p (i+1) n:=by
 unfold findFrom
 rw [show (n-i).toNat=(n-(i+1)).toNat+1 by omega,findF,if_pos hp]
theorem Zu (p:Int→Bool) {i n:Int} (h:i<n) (hp:p i=false):findFrom p i n=i:=by
 unfold findFrom
 rw [show (n-i).toNat=(n-(i+1)).toNat+1 by omega,findF,if_neg W154]
def corAt (cs:List Cor) (i:Int):Cor:=cs.getD i.toNat default
def insAt (l:List Ins) (i:Int):Ins:=l.getD i.toNat default
def pDiff (cs:List Cor) (i k:Int):Bool:=!decide ((corAt cs k).name=(corAt cs i).name)
def corB (cs:List Cor) (i:Int):Bool:=
 nameB (corAt cs i).name&&allFrom (pDiff cs i) 0 i&&decide (1≤((corAt cs i).code.length:Int))&&decide (((corAt cs i).code.length:Int)≤16384) &&
 (decide ((insAt (corAt cs i).code (((corAt cs i).code.length:Int)-1)).kind=10)||decide ((insAt (corAt cs i).code (((corAt cs i).code.length:Int)-1)).kind=8))
def shapedB (mem:List Int) (s9 l9 bu:Int) (cs:List Cor):Bool:=
 decide (0≤s9)&&decide (s9≤64)&&decide (0≤l9)&&decide (l9≤16)&&decide (s9+l9≤(mem.length:Int))&&decide ((mem.length:Int)≤4096)&&decide (1≤bu)&&decide (bu≤16)&&decide ((cs.length:Int)≤8) &&
 allFrom (corB cs) 0 cs.length
def nDiff (cs:List Cor) (b:ByteArray) (k:Int):Bool:=!decide ((corAt cs k).name=b)
def indexName (cs:List Cor) (n:Nat) (b:ByteArray):Int:=if findFrom (nDiff cs b) 0 n=n then -1 else findFrom (nDiff cs b) 0 n
theorem Qdq (p:Int→Bool) {n:Int}:∀ (m:Nat) (i:Int),(n-i).toNat=m→i≤n→i≤findFrom p i n∧findFrom p i n≤n:=by
 intro m
 induction m with
 | zero=>intro i h hi;rw [Zi p (show n=i by omega)];omega
 | succ m ih =>
   intro i h hi
   cases hp:p i with
   | true=>rw [Yt p W37 hp];have:=ih (i+1) W37 W37;omega
   | false=>rw [Zu p W37 hp];omega
theorem Qc0 (p:Int→Bool) {n:Int}:∀ (m:Nat) (i:Int),(n-i).toNat=m→i≤n→decide (findFrom p i n=n)=allFrom p i n:=by
 intro m
 induction m with
 | zero=>intro i h hi;rw [Zi p (show n=i by omega)];rw [Za p (show n≤i by omega)];simp
 | succ m ih =>
   intro i h hi
   cases hp:p i with
   | true=>rw [Yt p W37 hp,G8 p W37 hp];exact ih (i+1) W37 W37
   | false=>rw [Zu p W37 hp,G9 p W37 hp];simp;omega
def insK (i:Ins):Prop:=(0≤i.kind∧i.kind≤255)∧(0≤i.op∧i.op≤255)
def insOk (mem:List Int) (cs:List Cor) (i k:Int):Bool:=insB (insAt (corAt cs i).code k) (corAt cs i).code.length mem.length
def rowB (mem:List Int) (cs:List Cor) (i:Int):Bool:=decide (findFrom (insOk mem cs i) 0 (corAt cs i).code.length=(corAt cs i).code.length)
def badI (mem:List Int) (cs:List Cor):Int:=findFrom (rowB mem cs) 0 cs.length
def chkE (mem:List Int) (s9 l9 bu:Int) (cs:List Cor):Int:=if shapedB mem s9 l9 bu cs&&decide (badI mem cs=cs.length) then 0 else 160
def chkI (mem:List Int) (s9 l9 bu:Int) (cs:List Cor):Int:=if shapedB mem s9 l9 bu cs&&!decide (badI mem cs=cs.length) then badI mem cs else 0
def chkK (mem:List Int) (s9 l9 bu:Int) (cs:List Cor):Int:=if shapedB mem s9 l9 bu cs&&!decide (badI mem cs=cs.length) then findFrom (insOk mem cs (badI mem cs)) 0 (corAt cs (badI mem cs)).code.length else 0
theorem Q9:IntKind.i64.min=-9223372036854775808:=rfl
theorem Qa:IntKind.i64.max=9223372036854775807:=rfl
theorem Qf:IntKind.u8.min=0:=rfl
theorem Qg:IntKind.u8.max=255:=rfl
end Go.Proofs.YtmaodngbpfjnnaaGreat
namespace Go.Proofs.YtmaodngbpfjnnaaGreat
open Go Go.Tx
def w64 (n:Int):Int:=IntKind.i64.wrap n
def truthI (b:Bool):Int:=if b then 1 else 0
def divI (a b:Int):Int:=if b=0 then 0 else if b=-1 then w64 (0-a) else w64 (a.tdiv b)
def remI (a b:Int):Int:=if b=0 then a else w64 (a-w64 (divI a b * b))
def cntI (b:Int):Int:=bits .and .u64 (IntKind.u64.wrap b) 63
theorem Q2b (b:Int):0≤cntI b:=by
 unfold cntI bits
 simp only [IntKind.wrap,IntKind.signed,IntKind.bits]
 simp
 exact Int.emod_nonneg _ W131
def opTwo (k a b:Int):Int:=
 if k=1 then w64 (a+b) else if k=2 then w64 (a-b) else if k=3 then w64 (a * b) else if k=4 then divI a b else if k=5 then remI a b
 else if k=6 then bits .and .i64 a b else if k=7 then bits .or .i64 a b else if k=8 then bits .xor .i64 a b
 else if k=9 then shlI .i64 a (cntI b) else if k=10 then shrI .i64 a (cntI b)
 else if k=11 then truthI (decide (a=b)) else if k=12 then truthI (!decide (a=b)) else if k=13 then truthI (decide (a<b)) else if k=14 then truthI (decide (a≤b))
 else if k=15 then truthI (decide (b<a)) else if k=16 then truthI (decide (b≤a)) else 0
def opOne (k a:Int):Int:=if k=17 then w64 (0-a) else truthI (decide (a=0))
end Go.Proofs.YtmaodngbpfjnnaaGreat
namespace Go.Proofs.YtmaodngbpfjnnaaGreat
open Go Go.Tx
def flwL (n:Nod):List Int:=if n.kind=9 then [] else if n.kind=8∧n.els≠n.next then [n.next,n.els] else [n.next]
theorem Ql3 {n:Nod} (h:decide (n.kind=9)=true):flwL n=[]:=by
 unfold flwL;rw [if_pos (of_decide_eq_true h)]
theorem Ql4 {n:Nod} (h:decide (n.kind=9)=false) (h2:(decide (n.kind=8)&&!decide (n.els=n.next))=true):flwL n=[n.next,n.els]:=by
 unfold flwL;rw [if_neg (of_decide_eq_false h),if_pos W128]
theorem Ql5 {n:Nod} (h:decide (n.kind=9)=false) (h2:(decide (n.kind=8)&&!decide (n.els=n.next))=false):flwL n=[n.next]:=by
 unfold flwL;rw [if_neg (of_decide_eq_false h),if_neg (by intro h3;simp [h3] at h2)]
def prtN (n:Nod):Int:=if n.kind=1 then (if twoB n.op then 59 else 43) else if n.kind=2 then 38 else if n.kind=3 then 44 else if n.kind=4 then 46 else if n.kind=5 then 36 else if n.kind=6 then 36 else if n.kind=7 then 40 else if n.kind=8 then 104 else 0
theorem Qj1 {n:Nod} (hk:n.kind=1) (h:(decide ((1:Int)=(1:Int))&&twoB n.op)=true):prtN n=59:=by
 unfold prtN;rw [if_pos hk,if_pos W144]
theorem Qj2 {n:Nod} (hk:n.kind=1) (h:(decide ((1:Int)=(1:Int))&&twoB n.op)=false):prtN n=43:=by
 unfold prtN;rw [if_pos hk,if_neg W144]
def usesB (p h:Int):Bool:=!decide (bits BinOp.and IntKind.u8 p h=0)
def withinP (p k h most:Int):Bool:=!usesB p h&&decide (k=0)||(usesB p h&&decide (0≤k)&&decide (k<most))
def valueP (p slots:Int) (v:Vl) (h:Int):Bool:=if usesB p h=false then decide (v=⟨false,0,0⟩) else if v.slotted=true then decide (0≤v.slot)&&decide (v.slot<slots)&&decide (v.word=0) else decide (v.slot=0)
def rightN (ns nl:Int) (g:Grf) (n:Nod):Bool:=
 !(decide (n.kind=0)||decide (10≤n.kind)||decide (n.origin<0)||decide (4096≤n.origin)) &&
 (withinP (prtN n) n.op 1 19&&withinP (prtN n) n.slot 2 g.slots&&withinP (prtN n) n.thing 4 (if n.kind=5∨n.kind=6 then nl else ns) &&
  withinP (prtN n) n.next 32 g.nodes.length&&withinP (prtN n) n.els 64 g.nodes.length&&valueP (prtN n) g.slots n.a 8&&valueP (prtN n) g.slots n.b 16)
section
variable {ns nl:Int} {g:Grf} {n:Nod}
theorem Q8k (h:(decide (n.kind=0)||decide (10≤n.kind)||decide (n.origin<0)||decide (4096≤n.origin))=true):rightN ns nl g n=false:=by unfold rightN;rw [h];rfl
theorem Qgy (h:(decide (n.kind=0)||decide (10≤n.kind)||decide (n.origin<0)||decide (4096≤n.origin))=false) (h2:(decide (n.kind=5)||decide (n.kind=6))=true):rightN ns nl g n=(withinP (prtN n) n.op 1 19&&withinP (prtN n) n.slot 2 g.slots&&withinP (prtN n) n.thing 4 nl&&withinP (prtN n) n.next 32 g.nodes.length&&withinP (prtN n) n.els 64 g.nodes.length&&valueP (prtN n) g.slots n.a 8&&valueP (prtN n) g.slots n.b 16):=by
 unfold rightN;rw [h,if_pos W128];rfl
theorem Qgz (h:(decide (n.kind=0)||decide (10≤n.kind)||decide (n.origin<0)||decide (4096≤n.origin))=false) (h2:(decide (n.kind=5)||decide (n.kind=6))=false):rightN ns nl g n=(withinP (prtN n) n.op 1 19&&withinP (prtN n) n.slot 2 g.slots&&withinP (prtN n) n.thing 4 ns&&withinP (prtN n) n.next 32 g.nodes.length&&withinP (prtN n) n.els 64 g.nodes.length&&valueP (prtN n) g.slots n.a 8&&valueP (prtN n) g.slots n.b 16):=by
 unfold rightN;rw [h,if_neg W128];rfl
end
def visN (cl:List Cls) (n:Nod):Bool:=
 if n.kind=5∨n.kind=6∨n.kind=7 then true
 else if n.kind=2∨n.kind=3∨n.kind=4 then decide (0≤n.thing)&&decide (n.thing<cl.length)&&decide ((cl.getD n.thing.toNat default).kind=3)
 else false
end Go.Proofs.YtmaodngbpfjnnaaGreat
namespace Go.Proofs.YtmaodngbpfjnnaaGreat
open Go Go.Tx
def goN:List (ByteArray×Bool)→(ByteArray→Option Bool)→Bool
 | [],_=>true
 | s::r,D=>if (nameB s.1&&!(D s.1).getD false)=true∧s.2=true then goN r (fun q=>if q=s.1 then some true else D q) else false
def nmS (l:List Dcl):List (ByteArray×Bool):=l.map fun d=>(d.name,true)
def nmL (l:List Dcl):List (ByteArray×Bool):=l.map fun d=>(d.name,decide (d.word=0))
def nmG (l:List Grf):List (ByteArray×Bool):=l.map fun g=>(g.name,true)
def manyB (sh lk:List Dcl) (gs:List Grf):Bool:=decide (64<(sh.length:Int))||decide (16<(lk.length:Int))||decide (8<(gs.length:Int))
def namedB (sh lk:List Dcl) (gs:List Grf):Bool:=!manyB sh lk gs&&goN (nmS sh++(nmL lk++nmG gs)) (fun _=>none)
theorem Q2c {α β:Type} (f:α→β) (d:α) {l:List α} {n:Nat} (h:n<l.length):(l.drop n).map f=f (l.getD n d)::(l.drop (n+1)).map f:=by
 rw [List.drop_eq_getElem_cons h,List.map_cons,List.getD_eq_getElem?_getD,List.getElem?_eq_getElem h];rfl
section
variable {sh lk:List Dcl} {gs:List Grf} {D:ByteArray→Option Bool} {n:Nat} {R:List (ByteArray×Bool)}
theorem Qkr (h:n<sh.length):goN (nmS (sh.drop n)++R) D=(if (nameB (sh.getD n default).name&&!(D (sh.getD n default).name).getD false)=true then goN (nmS (sh.drop (n+1))++R) (fun q=>if q=(sh.getD n default).name then some true else D q) else false):=by
 unfold nmS;rw [Q2c _ default h,List.cons_append,goN];simp
theorem Qks (h:n<lk.length):goN (nmL (lk.drop n)++R) D=(if (nameB (lk.getD n default).name&&!(D (lk.getD n default).name).getD false)=true∧(lk.getD n default).word=0 then goN (nmL (lk.drop (n+1))++R) (fun q=>if q=(lk.getD n default).name then some true else D q) else false):=by
 unfold nmL;rw [Q2c _ default h,List.cons_append,goN];simp
theorem Qkt (h:n<gs.length):goN (nmG (gs.drop n)) D=(if (nameB (gs.getD n default).name&&!(D (gs.getD n default).name).getD false)=true then goN (nmG (gs.drop (n+1))) (fun q=>if q=(gs.getD n default).name then some true else D q) else false):=by
 unfold nmG;rw [Q2c _ default h,goN];simp
end
section
variable {sh lk:List Dcl} {gs:List Grf} {D:ByteArray→Option Bool} {n:Nat} {R:List (ByteArray×Bool)}
theorem Q8l (h:(decide ((64:Int)<(sh.length:Int))||decide ((16:Int)<(lk.length:Int))||decide ((8:Int)<(gs.length:Int)))=true):namedB sh lk gs=false:=by unfold namedB manyB;rw [h];rfl
theorem Q0i (h:(decide ((64:Int)<(sh.length:Int))||decide ((16:Int)<(lk.length:Int))||decide ((8:Int)<(gs.length:Int)))=false):namedB sh lk gs=goN (nmS sh++(nmL lk++nmG gs)) (fun _=>none):=by unfold namedB manyB;rw [h];rfl
theorem Q0j (h:(decide ((64:Int)<(sh.length:Int))||decide ((16:Int)<(lk.length:Int))||decide ((8:Int)<(gs.length:Int)))=false):sh.length≤64∧lk.length≤16∧gs.length≤8:=by
 simp only [Bool.or_eq_false_iff,decide_eq_false_iff_not] at h;omega
theorem Qj3 (h:n<sh.length) (hc:(!(nameB (sh.getD n default).name&&!(D (sh.getD n default).name).getD false))=true):goN (nmS (sh.drop n)++R) D=false:=by
 rw [Qkr h,if_neg];intro h2;rw [h2] at hc;cases hc
theorem Qj4 (h:n<sh.length) (hc:(!(nameB (sh.getD n default).name&&!(D (sh.getD n default).name).getD false))=false) :
 goN (nmS (sh.drop n)++R) D=goN (nmS (sh.drop (n+1))++R) (fun q=>if q=(sh.getD n default).name then some true else D q):=by
 rw [Qkr h,if_pos];simpa using hc
theorem Qj5 (h:n<lk.length) (hc:(!(nameB (lk.getD n default).name&&!(D (lk.getD n default).name).getD false)||!decide ((lk.getD n default).word=(0:Int)))=true):goN (nmL (lk.drop n)++R) D=false:=by
 rw [Qks h,if_neg];rintro ⟨h2,h3⟩;rw [h2,h3] at hc;cases hc
theorem Qj6 (h:n<lk.length) (hc:(!(nameB (lk.getD n default).name&&!(D (lk.getD n default).name).getD false)||!decide ((lk.getD n default).word=(0:Int)))=false) :
 goN (nmL (lk.drop n)++R) D=goN (nmL (lk.drop (n+1))++R) (fun q=>if q=(lk.getD n default).name then some true else D q):=by
 simp only [Bool.or_eq_false_iff] at hc
 rw [Qks h,if_pos];exact ⟨by simpa using hc.1,by simpa using hc.2⟩
theorem Qj7 (h:n<gs.length) (hc:(!(nameB (gs.getD n default).name&&!(D (gs.getD n default).name).getD false))=true):goN (nmG (gs.drop n)) D=false:=by
 rw [Qkt h,if_neg];intro h2;rw [h2] at hc;cases hc
theorem Qj8 (h:n<gs.length) (hc:(!(nameB (gs.getD n default).name&&!(D (gs.getD n default).name).getD false))=false) :
 goN (nmG (gs.drop n)) D=goN (nmG (gs.drop (n+1))) (fun q=>if q=(gs.getD n default).name then some true else D q):=by
 rw [Qkt h,if_pos];simpa using hc
end
abbrev HL:=List (List Int)
abbrev HF:=Int→Option Bool
def hIn (now:List Int) (q:HL→HF→List Int→Int):List Int→HL→HF→List Int→Int
 | [],L,F,T=>q L F T
 | to::r,L,F,T=>if (F to).getD false=false then hIn now q r (L.set to.toNat now) (fun a=>if a=to then some true else F a) (T++[to])
   else if L.getD to.toNat []=now then hIn now q r L F T else to
def nowH (n:Nod) (l:List Int):Option (List Int):=
 if n.kind=5 then some (l++[n.thing]) else if n.kind=6 then (if l.length=0∨l.getD (l.length-1) 0≠n.thing then none else some (l.take (l.length-1)))
 else if n.kind=9∧0<l.length then none else some l
def hOut (ns:List Nod):Nat→Nat→HL→HF→List Int→Int
 | 0,_,_,_,_=>-1
 | fu+1,k,L,F,T=>if k<T.length then
    match nowH (ns.getD (T.getD k 0).toNat default) (L.getD (T.getD k 0).toNat []) with
    | none=>T.getD k 0
    | some now=>hIn now (hOut ns fu (k+1)) (flwL (ns.getD (T.getD k 0).toNat default)) L F T
   else -1
def heldF (ns:List Nod):Int:=hOut ns (ns.length+1) 0 (List.replicate ns.length []) (fun a=>if a=0 then some true else none) [0]
structure HInv (N k:Nat) (L:HL) (F:HF) (T:List Int):Prop where
 len:L.length=N
 nd:T.Nodup
 rng:∀ x∈T,0≤x∧x<(N:Int)
 fd:∀ x,(F x).getD false=true↔x∈T
 short:∀ i,(L.getD i []).length≤k
theorem Q77:∀ (N:Nat) (T:List Int),T.Nodup→(∀ x∈T,0≤x∧x<(N:Int))→T.length≤N
 | 0,T,_,h=>by
   cases T with
   | nil=>exact Nat.le_refl _
   | cons x r=>have:=h x (.head _);omega
 | N+1,T,hn,h=>by
   by_cases hm:(N:Int)∈T
   ·have h1:=Q77 N (T.erase (N:Int)) (hn.erase _) (fun x hx=>by
     have h2:=(hn.mem_erase_iff).1 hx
     have:=h x h2.2
     have:=h2.1
     omega)
    have:=List.length_erase_of_mem hm
    omega
   ·have:=Q77 N T hn (fun x hx=>by
     have:=h x hx
     have:x≠(N:Int):=fun e=>hm (e▸hx)
     omega)
    omega
theorem HInv.le {N k:Nat} {L:HL} {F:HF} {T:List Int} (h:HInv N k L F T):T.length≤N:=Q77 N T h.nd h.rng
theorem HInv.up {N k k':Nat} {L:HL} {F:HF} {T:List Int} (h:HInv N k L F T) (hk:k≤k'):HInv N k' L F T:=⟨h.len,h.nd,h.rng,h.fd,fun i=>Nat.le_trans (h.short i) hk⟩
theorem HInv.put {N k:Nat} {L:HL} {F:HF} {T:List Int} (h:HInv N k L F T) {to:Int} (hf:(F to).getD false=false) (h0:0≤to) (h1:to<(N:Int)) {now:List Int} (hn:now.length≤k) :
 HInv N k (L.set to.toNat now) (fun a=>if a=to then some true else F a) (T++[to]):=by
 have hx:to ∉ T:=fun hm=>by have:=(h.fd to).2 hm;rw [hf] at this;cases this
 refine ⟨by rw [List.length_set];exact h.len,?_,fun x hx'=>?_,fun x=>?_,fun i=>?_⟩
 ·rw [List.nodup_append]
  exact ⟨h.nd,W148,fun a ha b hb=>by rw [List.mem_singleton] at hb;subst hb;intro e;exact hx (e▸ha)⟩
 ·rw [List.mem_append,List.mem_singleton] at hx'
  rcases hx' with hx' | rfl
  ·exact h.rng x hx'
  ·exact ⟨h0,h1⟩
 ·rw [List.mem_append,List.mem_singleton]
  show (if x=to then some true else F x).getD false=true↔_
  split
  ·rename_i e;subst e;simp
  ·rename_i e;rw [h.fd x];simp [e]
 ·rw [List.getD_eq_getElem?_getD,List.getElem?_set]
  split
  ·split
   ·exact hn
   ·simp
  ·rw [← List.getD_eq_getElem?_getD];exact h.short i
theorem HInv.first {N:Nat} (h:0<N):HInv N 0 (List.replicate N []) (fun a=>if a=0 then some true else none) [0]:=by
 refine ⟨by simp,W148,fun x hx=>?_,fun x=>?_,fun i=>?_⟩
 ·rw [List.mem_singleton] at hx;subst hx;omega
 ·rw [List.mem_singleton];show (if x=0 then some true else none).getD false=true↔_;split<;>simp_all
 ·rw [List.getD_eq_getElem?_getD,List.getElem?_replicate];split<;>simp
end Go.Proofs.YtmaodngbpfjnnaaGreat
namespace Go.Tx
open Go Go.RowKit
def Ext.Tab (X:Ext) (y:Value) (size n:Nat) (f:Nat→Nat→TC):Prop:=RdRow X.w0 X.ro y size n (fun i j u=>RdC X.w0 X.ro (f i j) u)
def Ext.Into (X X':Ext):Prop:=∀ y size n f,X.Tab y size n f→X'.Tab y size n f
theorem Ext.Tab.nil (X:Ext) (size:Nat) (f:Nat→Nat→TC):X.Tab (.slice none 0 0) size 0 f:=⟨none,0,rfl,Nat.le_refl _,Nat.zero_le _,fun _ h _=>W146,fun h=>absurd h W37⟩
theorem RdRow.keep {w w':World} {fp fp':Nat→Prop} {h:Value} {size n:Nat} {ok ok':Nat→Nat→Value→Prop} (hr:RdRow w fp h size n ok) (hb:∀ b,fp b→fp' b∧b<w'.heap.size∧w'.heap[b]?=w.heap[b]?)
 (hok:∀ i j u,i<n→j<size→ok i j u→ok' i j u):RdRow w' fp' h size n ok':=by
 obtain ⟨A,c,rfl,h1,h2,ha,hc⟩:=hr
 refine ⟨A,c,rfl,h1,h2,fun a e hp=>⟨(hb _ (ha a e hp).2).2.1,(hb _ (ha a e hp).2).1⟩,fun hn=>?_⟩
 obtain ⟨ad,rfl,hc2⟩:=hc hn
 refine ⟨ad,rfl,fun i j hi hj=>?_⟩
 obtain ⟨u,h3,h4⟩:=hc2 i j hi hj
 refine ⟨u,?_,hok i j u hi hj h4⟩
 rw [World.cell?_of_block (w:=w)]
 ·exact h3
 ·rw [J4];exact (hb _ (ha ad rfl hn).2).2.2
theorem RdC.keep {w w':World} {fp fp':Nat→Prop} (hb:∀ b,fp b→fp' b∧b<w'.heap.size∧w'.heap[b]?=w.heap[b]?):∀ (t:TC) {v:Value},RdC w fp t v→RdC w' fp' t v
 | .val x,v,h=>h
 | .any,v,h=>h
 | .sub ty size n f,v,h=>RdRow.keep (w':=w') h hb (fun i j u _ _ hu=>RdC.keep hb (f i j) hu)
theorem Ext.Tab.keep {X:Ext} {w:World} {fp:Nat→Prop} (hb:∀ b,X.ro b→fp b∧b<w.heap.size∧w.heap[b]?=X.w0.heap[b]?) {y:Value} {size n:Nat} {f:Nat→Nat→TC} (h:X.Tab y size n f) :
 RdRow w fp y size n (fun i j u=>RdC w fp (f i j) u):=RdRow.keep h hb (fun i j u _ _ hu=>RdC.keep hb (f i j) hu)
def unH (r:Nat) (y:Value):SV→SV
 | .c (.h q)=>match Nat.beq q r with
   | true=>.c (.v y)
   | false=>.c (.h q)
 | s=>s
def unHs (r:Nat) (y:Value) (e:En):En:=⟨e.slot,e.g,unH r y e.sv⟩
theorem Ql6 {ε:Env} {r:Nat} {y:Value} (h:ε.at_ r=y) (s:SV):(unH r y s).den ε=s.den ε:=by
 unfold unH
 split
 ·split
  ·rename_i q hq
   have:=Nat.eq_of_beq_eq_true hq
   subst this
   exact h.symm
  ·rfl
 ·rfl
def svsAt (s:Nat):List En→List SV
 | []=>[]
 | e::r=>match Nat.beq e.slot s with
   | true=>e.sv::svsAt s r
   | false=>svsAt s r
def putH (s:Nat) (new:SV) (e:En):En:=match Nat.beq e.slot s with
 | true=>⟨e.slot,e.g,new⟩
 | false=>e
theorem Q52 {s:Nat}:∀ {l:List En} {e:En},e∈l→Nat.beq e.slot s=true→e.sv∈svsAt s l
 | x::r,e,h,he=>by
   rcases List.mem_cons.1 h with rfl | h
   ·simp only [svsAt,he];exact .head _
   ·simp only [svsAt]
    split
    ·exact .tail _ (Q52 h he)
    ·exact Q52 h he
def tabinSt (st:St) (r t:Nat) (X':Ext) (y:Value):St:={ st with fr:=st.fr.map (unHs r y),rg:=(st.rg.set r .dead).set t (.froz X') }
def taboutSt (st:St) (s size n:Nat) (f:Nat→Nat→TC):St:={ st with fr:=st.fr.map (putH s (.c (.h st.rg.length))),rg:=st.rg++[.row size n f none] }
def tabnewSt (st:St) (X:Ext):St:={ st with rg:=st.rg++[.froz X] }
def cutV (v:Value) (k:Nat):Value:=match v with
 | .slice A _ c=>.slice A k c
 | v=>v
theorem Ql7 (v:Value) (k:Nat):pieceV v 0 k=cutV v k:=by
 cases v<;>try rfl
 rename_i A n c
 cases A with
 | none=>rfl
 | some ad=>cases ad;simp [pieceV,cutV,Addr.add]
def unP (r:Nat) (y:Value):SV→SV
 | .c (.hs q 0 k)=>match Nat.beq q r with
   | true=>.c (.v (cutV y k))
   | false=>.c (.hs q 0 k)
 | s=>s
def unPs (r:Nat) (y:Value) (e:En):En:=⟨e.slot,e.g,unP r y e.sv⟩
theorem Ql8 {ε:Env} {r:Nat} {y:Value} (h:ε.at_ r=y) (s:SV):(unP r y s).den ε=s.den ε:=by
 unfold unP
 split
 ·split
  ·rename_i q k hq
   have h1:=Nat.eq_of_beq_eq_true hq
   subst h1 h
   exact (Ql7 _ _).symm
  ·rfl
 ·rfl
def tabinPSt (st:St) (r t:Nat) (X':Ext) (y:Value):St:={ st with fr:=st.fr.map (unPs r y),rg:=(st.rg.set r .dead).set t (.froz X') }
def Cfg.here (P:Program) (c:Cfg):Option Cfg:=match (seg P 5000 c.k c.st).2 with
 | .op all o todo k st=>some ⟨.ops all (o::todo)::k,st⟩
 | _=>none
def Cfg.hereJ (P:Program) (c:Cfg):Option Cfg:=match (seg P 5000 c.k c.st).2 with
 | .jump J st=>some ⟨[.jmp J],st⟩
 | _=>none
section
variable {P:Program} {fn:Func} {n0:Nat} {U:Tgt} {c:Cfg}
theorem RunF.hereJ [hw:Wide P] {vc:List Prop} (h:(seg P 5000 c.k c.st).1=vc) (hj:(c.hereJ P).isSome=true) (hv:Conj vc) (next:RunF P fn n0 U (orNo (c.hereJ P))):RunF P fn n0 U c:=by
 unfold RunF at next ⊢
 intro b hb
 unfold Cfg.hereJ at next hj
 generalize hg:seg P 5000 c.k c.st=rr at h hj next
 obtain ⟨vc',out⟩:=rr
 cases out<;>first | (cases hj;done) | skip
 case jump J' st =>
  cases h
  exact Qn hw.mixed 5000 _ _ _ _ hg hv.toAll (fun a w hsat=>next b hb a w hsat)
theorem RunF.here [hw:Wide P] {vc:List Prop} (h:see P fn c=(vc,.op)) (hv:Conj vc) (next:RunF P fn n0 U (orNo (c.here P))):RunF P fn n0 U c:=by
 unfold RunF at next ⊢
 intro b hb
 unfold see at h
 unfold Cfg.here at next
 generalize hg:seg P 5000 c.k c.st=rr at h next
 obtain ⟨vc',out⟩:=rr
 cases out<;>simp only [Prod.mk.injEq,reduceCtorEq,and_false] at h
 case op all o todo k st =>
  obtain ⟨rfl,_⟩:=h
  exact Qn hw.mixed 5000 _ _ _ _ hg hv.toAll (fun a w hsat=>next b hb a w hsat)
 all_goals first | (unfold callV at h;split at h<;>simp at h;done) | (split at h<;>simp at h)
theorem RunF.cutn [hw:Wide P] {X:Type} (m:Nat) (I:X→St) (J:X→Prop) (h1:RunF P fn n0 U ⟨cutK (AtSt I J) m (flatK 200 (openK 50 c.k)),c.st⟩) (h2:∀ x,J x→RunF P fn n0 U ⟨(flatK 200 (openK 50 c.k)).drop m,I x⟩):RunF P fn n0 U c:=by
 unfold RunF at *
 intro b hb a w hs
 exact Gr 50 _ (Q05 200 _ _ _ _ (Q34 m _ (fun a w ⟨x,hx,hs⟩=>h2 x hx b hb a w hs) _ _ _ (h1 b hb a w hs)))
theorem RunF.tabnew (hsc:c.st.scp=true) (next:∀ X:Ext,RunF P fn n0 U ⟨c.k,tabnewSt c.st X⟩):RunF P fn n0 U c:=by
 unfold RunF at next ⊢
 intro b hb a w ⟨ε,hs⟩
 refine next ⟨0,0,fun _=>.u,fun _ _ _ _=>True,fun _=>False,w⟩ b hb a w ⟨ε++[⟨.slice none 0 0,fun _=>False⟩],?_⟩
 exact hs.add hsc hs.below (Nat.le_refl _) (fun _ _ _ _ _ _=>rfl) (fun b h=>h.elim) (fun _ b h=>h.elim) (fun h=>by cases h) (fun b h=>h.elim)
theorem RunF.tabinG (r t:Nat) (T:Ext→Value→St) (Y:Value→Value) (V:Value→SV→SV)
 (hT:∀ X' y,T X' y={ c.st with fr:=c.st.fr.map (fun e=>⟨e.slot,e.g,V y e.sv⟩),rg:=(c.st.rg.set r .dead).set t (.froz X') })
 (hV:∀ (ε:Env) y s,ε.at_ r=y→(V (Y y) s).den ε=s.den ε) {ty size n:Nat} {f:Nat→Nat→TC} {X:Ext} (hr:nth c.st.rg r=some (.own ty size n f none)) (ht:nth c.st.rg t=some (.froz X)) (hsc:c.st.scp=true)
 (next:∀ (X':Ext) (A:Option Addr) (cp:Nat),(0<n→∃ ad,A=some ad)→X.Into X'→X'.Tab (.slice A n cp) size n f→RunF P fn n0 U ⟨c.k,T X' (Y (.slice A n cp))⟩):RunF P fn n0 U c:=by
 unfold RunF at next ⊢
 intro b hb a w ⟨ε,hs⟩
 obtain ⟨s1,s2⟩:=Qq hsc
 have hl:=hs.regs.len
 have hrr:=Q8 hr
 have htt:=Q8 ht
 have hrl:r<c.st.rg.length:=(List.getElem?_eq_some_iff.1 hrr).1
 have htl:t<c.st.rg.length:=(List.getElem?_eq_some_iff.1 htt).1
 have hrt:r≠t:=fun e=>by subst e;rw [hrr] at htt;cases htt
 have hfz:∀ b,X.ro b→ε.fp t b∧b<w.heap.size∧w.heap[b]?=X.w0.heap[b]?:=Ql hs ht
 generalize hX':(⟨X.l,X.n,X.enc,X.G,fun b=>X.ro b∨ε.fp r b,w⟩:Ext)=X'
 have hro:X'.ro=fun b=>X.ro b∨ε.fp r b:=by rw [← hX']
 have hw0:X'.w0=w:=by rw [← hX']
 have hinto:X.Into X':=fun y size n f h=>by
  have:=Ext.Tab.keep (w:=w) (fp:=X'.ro) (fun b hb=>⟨by rw [hro];exact .inl hb,(hfz b hb).2⟩) h
  unfold Ext.Tab
  rw [hw0];exact this
 have htab:X'.Tab (ε.at_ r) size n f:=by
  unfold Ext.Tab
  rw [hw0]
  have h0:RdRow w (ε.fp r) (ε.at_ r) size n (fun i j u=>RdC w (ε.fp r) (f i j) u):=Zd (Ql hs hr).1 (fun i j fp' u _ _ hf hu=>Gf (f i j) hf hu)
  refine RdRow.keep h0 (fun b hb=>⟨by rw [hro];exact .inr hb,(hs.regs.lt r _ hrr rfl b hb).1,rfl⟩) (fun i j u _ _ hu=>RdC.mono (fun b hb=>by rw [hro];exact .inr hb) (f i j) hu)
 obtain ⟨A,cp,hA,_,hA0⟩:=Zz (Ql hs hr).1
 have hA:ε.at_ r=.slice A n cp:=hA
 refine (hT _ _▸next X' A cp hA0 hinto (by rw [← hA];exact htab)) b hb a w ⟨ε.set t ⟨ε.at_ t,fun b=>ε.fp t b∨ε.fp r b⟩,?_⟩
 generalize hx:(⟨ε.at_ t,fun b=>ε.fp t b∨ε.fp r b⟩:Ent)=x
 have hxh:x.h=ε.at_ t:=by rw [← hx]
 have hxf:x.fp=fun b=>ε.fp t b∨ε.fp r b:=by rw [← hx]
 obtain ⟨atAll,hsAll⟩:=Env.set_same (ε:=ε) (r:=t) (x:=x) W37 hxh
 have entT:Env.ent (ε.set t x) t=x:=Jt (by rw [List.getElem?_set_self (by omega)])
 have entO:∀ j,j≠t→Env.ent (ε.set t x) j=ε.ent j:=fun j hj=>by
  unfold Env.ent;rw [List.getD_eq_getElem?_getD,List.getD_eq_getElem?_getD,List.getElem?_set_ne (Ne.symm hj)]
 have cls:∀ (j:Nat) (s:Reg),((c.st.rg.set r .dead).set t (.froz X'))[j]?=some s→(j=t∧s=.froz X')∨(j=r∧s=.dead)∨(j≠t∧j≠r∧c.st.rg[j]?=some s):=fun j s hj=>by
  by_cases hjt:j=t
  ·subst hjt
   rw [List.getElem?_set_self (by simpa using htl)] at hj
   cases hj;exact .inl ⟨rfl,rfl⟩
  ·rw [List.getElem?_set_ne (Ne.symm hjt)] at hj
   by_cases hjr:j=r
   ·subst hjr
    rw [List.getElem?_set_self hrl] at hj
    cases hj;exact .inr (.inl ⟨rfl,rfl⟩)
   ·rw [List.getElem?_set_ne (Ne.symm hjr)] at hj
    exact .inr (.inr ⟨hjt,hjr,hj⟩)
 have fpO:∀ j,j≠t→∀ b,Env.fp (ε.set t x) j b→ε.fp j b:=fun j hj b hb=>by unfold Env.fp at hb ⊢;rwa [entO j hj] at hb
 have fpT:∀ b,Env.fp (ε.set t x) t b→ε.fp t b∨ε.fp r b:=fun b hb=>by unfold Env.fp at hb;rw [entT,hxf] at hb;exact hb
 refine ⟨hs.defs,hs.size,fun e he=>?_,⟨by simp [hl],fun j s hj=>?_,fun j s hj hl' b hb=>?_,fun j s hj he b hb=>?_,fun i j ri rj hij hi hj he hl' b hb1 hb2=>?_⟩,hs.below,by rw [hsAll];exact hs.pre⟩
 ·obtain ⟨e0,he0,rfl⟩:=List.mem_map.1 he
  have h0:=(hs.fr e0 he0).same (s1 e0 he0) (fun i _=>atAll i)
  refine ⟨h0.1,fun hg=>?_,h0.2.2⟩
  show get a e0.slot=(V (Y (.slice A n cp)) e0.sv).den _
  rw [hV _ _ _ ((atAll r).trans hA)]
  exact h0.2.1 hg
 ·rcases cls j s hj with ⟨rfl,rfl⟩ | ⟨rfl,rfl⟩ | ⟨k1,k2,k3⟩
  ·rw [entT]
   intro b hb
   rw [hro] at hb
   rw [hxf,hw0]
   rcases hb with hb | hb
   ·exact ⟨.inl (hfz b hb).1,(hfz b hb).2.1,rfl⟩
   ·exact ⟨.inr hb,(hs.regs.lt r _ hrr rfl b hb).1,rfl⟩
  ·trivial
  ·rw [entO j k1]
   exact (hs.regs.reg j s k3).same (List.all_eq_true.1 s2 s (List.mem_of_getElem? k3)) (fun i _=>atAll i)
 ·rcases cls j s hj with ⟨rfl,rfl⟩ | ⟨rfl,rfl⟩ | ⟨k1,k2,k3⟩
  ·rcases fpT b hb with h | h
   ·exact hs.regs.lt j _ htt rfl b h
   ·exact hs.regs.lt r _ hrr rfl b h
  ·cases hl'
  ·exact hs.regs.lt j s k3 hl' b (fpO j k1 b hb)
 ·rcases cls j s hj with ⟨rfl,rfl⟩ | ⟨rfl,rfl⟩ | ⟨k1,k2,k3⟩
  ·cases he
  ·cases he
  ·exact hs.regs.lim j s k3 he b (fpO j k1 b hb)
 ·rcases cls i ri hi with ⟨rfl,rfl⟩ | ⟨rfl,rfl⟩ | ⟨k1,k2,k3⟩
  ·cases he
  ·cases he
  ·have hb0:ε.fp i b:=fpO i k1 b hb1
   rcases cls j rj hj with ⟨e1,e2⟩ | ⟨e1,e2⟩ | ⟨m1,m2,m3⟩
   ·subst e1 e2
    rcases fpT b hb2 with h | h
    ·exact hs.regs.sep i j ri _ k1 k3 htt he rfl b hb0 h
    ·exact hs.regs.sep i r ri _ k2 k3 hrr he rfl b hb0 h
   ·subst e2;cases hl'
   ·exact hs.regs.sep i j ri rj hij k3 m3 he hl' b hb0 (fpO j m1 b hb2)
theorem RunF.tabin (r t:Nat) {ty size n:Nat} {f:Nat→Nat→TC} {X:Ext} (hr:nth c.st.rg r=some (.own ty size n f none)) (ht:nth c.st.rg t=some (.froz X)) (hsc:c.st.scp=true)
 (next:∀ (X':Ext) (A:Option Addr) (cp:Nat),X.Into X'→X'.Tab (.slice A n cp) size n f→RunF P fn n0 U ⟨c.k,tabinSt c.st r t X' (.slice A n cp)⟩):RunF P fn n0 U c:=
 RunF.tabinG r t (fun X' y=>tabinSt c.st r t X' y) id (unH r) (fun _ _=>rfl) (fun _ _ s h=>Ql6 h s) hr ht hsc (fun X' A cp _=>next X' A cp)
theorem RunF.tabinP (r t m:Nat) {ty n:Nat} {f:Nat→Nat→TC} {X:Ext} (hr:nth c.st.rg r=some (.own ty 1 n f none)) (ht:nth c.st.rg t=some (.froz X)) (hsc:c.st.scp=true) (hm:m≤n)
 (next:∀ (X':Ext) (A:Option Addr) (cp:Nat),X.Into X'→X'.Tab (.slice A m cp) 1 m f→RunF P fn n0 U ⟨c.k,tabinPSt c.st r t X' (.slice A n cp)⟩):RunF P fn n0 U c:=by
 refine RunF.tabinG r t (fun X' y=>tabinPSt c.st r t X' y) id (unP r) (fun _ _=>rfl) (fun ε y s h=>Ql8 h s) hr ht hsc (fun X' A cp hA hin htab=>?_)
 refine next X' A cp hin ?_
 obtain ⟨A1,c1,e1,h1,h2,h3,h4⟩:=htab
 cases e1
 refine ⟨A,cp,rfl,by omega,h2,fun a ha hm0=>h3 a ha W37,fun hm0=>?_⟩
 obtain ⟨ad,rfl,h5⟩:=h4 W37
 exact ⟨ad,rfl,fun i j hi hj=>h5 i j W37 hj⟩
theorem Ql9 {b:Base} {st:St} {ε:Env} {a:Act} {w:World} (hs:SatE b st ε a w) (hsc:st.scp=true) {t:Nat} {X:Ext} (ht:nth st.rg t=some (.froz X)) {y:Value} {size n:Nat} {f:Nat→Nat→TC} (h:X.Tab y size n f) :
 SatE b { st with rg:=st.rg++[.row size n f none] } (ε++[⟨y,ε.fp t⟩]) a w:=by
 have htt:=Q8 ht
 have hfz:∀ b,X.ro b→ε.fp t b∧b<w.heap.size∧w.heap[b]?=X.w0.heap[b]?:=Ql hs ht
 refine hs.add hsc hs.below (Nat.le_refl _) (fun _ _ _ _ _ _=>rfl) ⟨Ext.Tab.keep hfz h,trivial⟩ (fun _ b hb=>hs.regs.lt t _ htt rfl b hb) (fun h=>by cases h) (fun b hb _ i ri hi hl he hb'=>?_)
 rcases he with he | he
 ·cases he
 ·by_cases hit:i=t
  ·subst hit;rw [htt] at hi;cases hi;cases he
  ·exact hs.regs.sep i t ri _ hit hi htt he rfl b hb' hb
theorem RunF.tabout (s t:Nat) {X:Ext} {y:Value} {size n:Nat} {f:Nat→Nat→TC} (hs0:svsAt s c.st.fr=[.c (.v y)]) (ht:nth c.st.rg t=some (.froz X)) (hsc:c.st.scp=true) (h:X.Tab y size n f)
 (next:RunF P fn n0 U ⟨c.k,taboutSt c.st s size n f⟩):RunF P fn n0 U c:=by
 unfold RunF at next ⊢
 intro b hb a w ⟨ε,hs⟩
 have h1:=Ql9 hs hsc ht h
 refine next b hb a w ⟨_,h1.defs,h1.size,fun e he=>?_,h1.regs,h1.below,h1.pre⟩
 obtain ⟨e0,he0,rfl⟩:=List.mem_map.1 he
 have h0:=h1.fr e0 he0
 unfold putH
 split
 ·rename_i hb
  refine ⟨h0.1,fun hg=>?_,h0.2.2⟩
  have hm:=Q52 he0 hb
  rw [hs0,List.mem_singleton] at hm
  rw [h0.2.1 hg,hm]
  show y=Env.at_ (ε++[⟨y,ε.fp t⟩]) c.st.rg.length
  rw [← hs.regs.len,G0]
 ·exact h0
end
end Go.Tx
namespace Go.Proofs.YtmaodngbpfjnnaaGreat
open Go Go.Tx
structure VCo where
 pos:Int
 halted:Bool
 regs:List Int
 buf:List Sto
 deriving Inhabited,DecidableEq
def VCo.cs (x:VCo) (rb:Nat):List C:=[.i .i64 x.pos,.b x.halted,
 .i .i64 (x.regs.getD 0 0),.i .i64 (x.regs.getD 1 0),.i .i64 (x.regs.getD 2 0),.i .i64 (x.regs.getD 3 0),.i .i64 (x.regs.getD 4 0),.i .i64 (x.regs.getD 5 0),
 .i .i64 (x.regs.getD 6 0),.i .i64 (x.regs.getD 7 0),.i .i64 (x.regs.getD 8 0),.i .i64 (x.regs.getD 9 0),.i .i64 (x.regs.getD 10 0),.i .i64 (x.regs.getD 11 0),
 .i .i64 (x.regs.getD 12 0),.i .i64 (x.regs.getD 13 0),.i .i64 (x.regs.getD 14 0),.i .i64 (x.regs.getD 15 0),.h rb]
abbrev WordRow (l:List Int):Reg:=.row 1 l.length (fun i=>i64T (l.getD i 0)) none
theorem Zj {α:Type} (d:α) (tc:α→Nat→TC) (l:List α) (k:Nat) (x:α):∀ i,i<(l.set k x).length→tc ((l.set k x).getD i d)=if i=k then tc x else tc (l.getD i d):=by
 intro i hi
 rw [List.length_set] at hi
 rw [List.getD_eq_getElem?_getD,List.getElem?_set,List.getD_eq_getElem?_getD]
 by_cases h:k=i
 ·subst h;simp [hi]
 ·rw [if_neg h,if_neg (Ne.symm h)]
def setR (l:List Int) (n:Nat) (x:Int):List Int:=[if n=0 then x else l.getD 0 0,if n=1 then x else l.getD 1 0,if n=2 then x else l.getD 2 0,if n=3 then x else l.getD 3 0,if n=4 then x else l.getD 4 0,if n=5 then x else l.getD 5 0,if n=6 then x else l.getD 6 0,if n=7 then x else l.getD 7 0,if n=8 then x else l.getD 8 0,if n=9 then x else l.getD 9 0,if n=10 then x else l.getD 10 0,if n=11 then x else l.getD 11 0,if n=12 then x else l.getD 12 0,if n=13 then x else l.getD 13 0,if n=14 then x else l.getD 14 0,if n=15 then x else l.getD 15 0]
def bufUp (addr:Int) (b:List Sto) (w:Int):Nat→Int×Bool
 | 0=>(w,false)
 | n+1=>if (b.getD n default).addr=addr then ((b.getD n default).word,true) else bufUp addr b w n
def loadV (mem:List Int) (addr:Int) (b:List Sto):Int×Bool:=bufUp addr b (mem.getD addr.toNat 0) b.length
def loadT (i:Ins) (mem:List Int) (c:VCo):VCo:={ c with regs:=setR c.regs i.d.toNat (loadV mem i.addr c.buf).1 }
end Go.Proofs.YtmaodngbpfjnnaaGreat
namespace Go.Proofs.YtmaodngbpfjnnaaGreat
open Go Go.Tx
structure Hdl where
 a:Option Addr
 n:Nat
 c:Nat
 deriving Inhabited
def Hdl.none:Hdl:=⟨Option.none,0,0⟩
abbrev Hdl.v (h:Hdl):Value:=.slice h.a h.n h.c
def Hdl.tl (x:Hdl):List TC:=[.val (.slice x.a x.n x.c)]
def Hdl.tc (x:Hdl):Nat→TC:=nthT x.tl
abbrev Hdl.ownR (l:List Hdl):Reg:=ownOf 32 1 Hdl.tc l
theorem Qc1 (n:Nat) (f:Nat→Nat→TC) (hf:f=fun _=>valT [.slice Option.none 0 0]):∀ i,i<n→Hdl.tc ((List.replicate n Hdl.none).getD i default)=f i:=by
 intro i hi
 subst hf
 rw [List.getD_eq_getElem?_getD,List.getElem?_replicate,if_pos hi]
 funext j
 match j with
 | 0=>rfl
 | j+1=>rfl
theorem Qed (l:List Hdl) (k:Nat) (x:Hdl):∀ i,i<(l.set k x).length→Hdl.tc ((l.set k x).getD i default)=updT (fun i=>Hdl.tc (l.getD i default)) k 0 [.slice x.a x.n x.c] i:=
 Q76 default Hdl.tc l k 0 x _ (fun j=>by rcases j with _ | j<;>simp [Hdl.tc,Hdl.tl,nthT,nth])
def Is (X:Ext) (v:Value):Prop:=∃ l:List Int,X.Tab v 1 l.length (fun j=>i64T (l.getD j 0))
theorem Qla {X:Ext} {v:Value} {l l':List Int} (h:X.Tab v 1 l.length (fun j=>i64T (l.getD j 0))) (h':X.Tab v 1 l'.length (fun j=>i64T (l'.getD j 0))):l=l':=by
 obtain ⟨A,c,e,_,_,_,h1⟩:=h
 obtain ⟨A',c',e',_,_,_,h1'⟩:=h'
 rw [e] at e'
 injection e' with e1 e2 e3
 refine List.ext_getElem e2 fun i hi hi'=>?_
 obtain ⟨ad,ha,h2⟩:=h1 W37
 obtain ⟨ad',ha',h2'⟩:=h1' W37
 rw [← e1,ha] at ha'
 injection ha' with ha'
 subst ha'
 obtain ⟨u,k1,k2⟩:=h2 i 0 hi W37
 obtain ⟨u',k1',k2'⟩:=h2' i 0 hi' W37
 rw [k1] at k1'
 injection k1' with k1'
 subst k1'
 have k2:u=.int .i64 (l.getD i 0):=k2
 have k2':u=.int .i64 (l'.getD i 0):=k2'
 rw [k2] at k2'
 injection k2' with _ k3
 rw [List.getD_eq_getElem?_getD,List.getD_eq_getElem?_getD,List.getElem?_eq_getElem hi,List.getElem?_eq_getElem hi'] at k3
 exact k3
open Classical in
noncomputable def rd (X:Ext) (v:Value):List Int:=if h:Is X v then h.choose else []
theorem Yw {X:Ext} {v:Value} (h:Is X v):X.Tab v 1 (rd X v).length (fun j=>i64T ((rd X v).getD j 0)):=by
 unfold rd;rw [dif_pos h];exact h.choose_spec
theorem Qba {X:Ext} {v:Value} {l:List Int} (h:X.Tab v 1 l.length (fun j=>i64T (l.getD j 0))):rd X v=l:=Qla (Yw ⟨l,h⟩) h
theorem Qmq (X:Ext):rd X Hdl.none.v=[]:=Qba (l:=[]) (Ext.Tab.nil X 1 _)
theorem Qmr (X:Ext):Is X Hdl.none.v:=⟨[],Ext.Tab.nil X 1 _⟩
theorem Qee {X X':Ext} (hi:X.Into X') {v:Value} (h:Is X v):Is X' v∧rd X' v=rd X v:=⟨⟨_,hi _ _ _ _ (Yw h)⟩,Qba (hi _ _ _ _ (Yw h))⟩
noncomputable def rds (X:Ext) (l:List Hdl):List (List Int):=l.map fun h=>rd X h.v
def Alls (X:Ext) (l:List Hdl):Prop:=∀ h∈l,Is X h.v
theorem Q5h (X:Ext) (l:List Hdl):(rds X l).length=l.length:=List.length_map _
theorem Q11 (X:Ext) (l:List Hdl) (i:Nat) (hi:i<l.length):(rds X l).getD i []=rd X (l.getD i default).v:=by
 unfold rds
 rw [List.getD_eq_getElem?_getD,List.getElem?_map,List.getD_eq_getElem?_getD,List.getElem?_eq_getElem hi];rfl
theorem Q78 {X:Ext} {l:List Hdl} (h:Alls X l) {i:Nat} (hi:i<l.length):Is X (l.getD i default).v:=by
 rw [List.getD_eq_getElem?_getD,List.getElem?_eq_getElem hi]
 exact h _ (List.getElem_mem hi)
theorem Qh0 (X:Ext) (n:Nat):Alls X (List.replicate n Hdl.none):=fun h hh=>by rw [List.eq_of_mem_replicate hh];exact Qmr X
theorem Qc2 (X:Ext) (n:Nat):rds X (List.replicate n Hdl.none)=List.replicate n []:=by unfold rds;rw [List.map_replicate,Qmq]
theorem Qa2 {X X':Ext} (hi:X.Into X') {l:List Hdl} (h:Alls X l):Alls X' l∧rds X' l=rds X l:=
 ⟨fun x hx=>(Qee hi (h x hx)).1,List.map_congr_left fun x hx=>(Qee hi (h x hx)).2⟩
theorem Qj9 {X X':Ext} (hi:X.Into X') {l:List Hdl} (h:Alls X l) {now:List Int} {A:Option Addr} {cp:Nat} (ht:X'.Tab (.slice A now.length cp) 1 now.length (fun j=>i64T (now.getD j 0))) (k:Nat) :
 Alls X' (l.set k ⟨A,now.length,cp⟩)∧rds X' (l.set k ⟨A,now.length,cp⟩)=(rds X l).set k now:=by
 have h0:=Qa2 hi h
 refine ⟨fun x hx=>?_,?_⟩
 ·rcases List.mem_or_eq_of_mem_set hx with hx | rfl
  ·exact h0.1 x hx
  ·exact ⟨now,ht⟩
 ·unfold rds at h0 ⊢
  rw [List.map_set,h0.2,Qba ht]
end Go.Proofs.YtmaodngbpfjnnaaGreat
namespace Go.Proofs.YtmaodngbpfjnnaaGreat
open Go Go.Tx
theorem Qja (n:Nod):(flwL n).length≤2:=by unfold flwL;split<;>(try split)<;>simp
structure HJ (ns:List Nod) (k:Int) (X:Ext) (V:List Hdl) (n:Nat) (F:HF) (T:List Int):Prop where
 k0:0≤k
 kn:k≤(ns.length:Int)
 inv:HInv ns.length k.toNat (rds X V) F T
 all:Alls X V
 cnt:n≤T.length
 run:heldF ns=hOut ns (ns.length+1-k.toNat) k.toNat (rds X V) F T
structure HK (ns:List Nod) (k:Int) (nd:Nod) (nw:List Int) (i:Int) (X:Ext) (V:List Hdl) (n:Nat) (F:HF) (T:List Int):Prop where
 i0:0≤i
 il:i≤((flwL nd).length:Int)
 k0:0≤k
 kn:k<(ns.length:Int)
 inv:HInv ns.length (k.toNat+1) (rds X V) F T
 all:Alls X V
 cnt:n≤T.length
 nl:nw.length≤k.toNat+1
 run:heldF ns=hIn nw (hOut ns (ns.length-k.toNat) (k.toNat+1)) ((flwL nd).drop i.toNat) (rds X V) F T
theorem HJ.start {ns:List Nod} (h:1≤ns.length) (X:Ext):HJ ns 0 X (List.replicate ns.length Hdl.none) 1 (fun q=>if q=0 then some true else none) [0]:=
 ⟨Int.le_refl _,by omega,by rw [Qc2];exact HInv.first W37,Qh0 X _,Nat.le_refl _,by rw [Qc2];rfl⟩
section
variable {ns:List Nod} {k:Int} {X:Ext} {V:List Hdl} {n:Nat} {F:HF} {T:List Int}
theorem HJ.len (h:HJ ns k X V n F T):V.length=ns.length:=by rw [← Q5h X V];exact h.inv.len
theorem HJ.at_ (h:HJ ns k X V n F T) (hk:k<(T.length:Int)):0≤T.getD k.toNat 0∧T.getD k.toNat 0<(ns.length:Int):=by
 have hk0:=h.k0
 have hlt:k.toNat<T.length:=by omega
 rw [List.getD_eq_getElem?_getD,List.getElem?_eq_getElem hlt]
 exact h.inv.rng _ (List.getElem_mem hlt)
theorem HJ.most (h:HJ ns k X V n F T):T.length≤ns.length:=h.inv.le
theorem HJ.is (h:HJ ns k X V n F T) (hk:k<(T.length:Int)):Is X (V.getD (T.getD k.toNat 0).toNat default).v:=Q78 h.all (by have:=h.at_ hk;have:=h.len;omega)
theorem HJ.get (h:HJ ns k X V n F T) (hk:k<(T.length:Int)):(rds X V).getD (T.getD k.toNat 0).toNat []=rd X (V.getD (T.getD k.toNat 0).toNat default).v:=Q11 X V _ (by have:=h.at_ hk;have:=h.len;omega)
theorem HJ.short (h:HJ ns k X V n F T) (hk:k<(T.length:Int)):(rd X (.slice (V.getD (T.getD k.toNat 0).toNat default).a (V.getD (T.getD k.toNat 0).toNat default).n (V.getD (T.getD k.toNat 0).toNat default).c)).length≤k.toNat:=by
 show (rd X (V.getD (T.getD k.toNat 0).toNat default).v).length≤k.toNat
 rw [← h.get hk];exact h.inv.short _
theorem HJ.step (h:HJ ns k X V n F T) (hk:k<(T.length:Int)):heldF ns=(match nowH (ns.getD (T.getD k.toNat 0).toNat default) (rd X (V.getD (T.getD k.toNat 0).toNat default).v) with
 | none=>T.getD k.toNat 0
 | some now=>hIn now (hOut ns (ns.length-k.toNat) (k.toNat+1)) (flwL (ns.getD (T.getD k.toNat 0).toNat default)) (rds X V) F T):=by
 have hk0:=h.k0
 have hm:=h.most
 rw [h.run,show ns.length+1-k.toNat=(ns.length-k.toNat)+1 by omega,hOut,if_pos W37,h.get hk]<;>rfl
theorem HJ.fault (h:HJ ns k X V n F T) (hk:k<(T.length:Int)) (hn:nowH (ns.getD (T.getD k.toNat 0).toNat default) (rd X (V.getD (T.getD k.toNat 0).toNat default).v)=none):heldF ns=T.getD k.toNat 0:=by rw [h.step hk,hn]
theorem HJ.done (h:HJ ns k X V n F T) (hk:¬ k<(T.length:Int)):heldF ns=-1:=by
 have hk0:=h.k0
 have hkn:=h.kn
 rw [h.run,show ns.length+1-k.toNat=(ns.length-k.toNat)+1 by omega,hOut,if_neg W37]
theorem Qjb {nd:Nod} {l nw:List Int} (h:nowH nd l=some nw):nw.length≤l.length+1:=by
 unfold nowH at h
 split at h
 ·cases h;simp
 ·split at h
  ·split at h
   ·cases h
   ·cases h;simp;omega
  ·split at h
   ·cases h
   ·cases h;omega
theorem HJ.inner (h:HJ ns k X V n F T) (hk:k<(T.length:Int)) {nw:List Int} (hn:nowH (ns.getD (T.getD k.toNat 0).toNat default) (rd X (V.getD (T.getD k.toNat 0).toNat default).v)=some nw) :
 HK ns k (ns.getD (T.getD k.toNat 0).toNat default) nw 0 X V n F T:=
 ⟨Int.le_refl _,by omega,h.k0,by have:=h.most;have:=h.k0;omega,h.inv.up W37,h.all,h.cnt,Nat.le_trans (Qjb hn) (Nat.succ_le_succ (h.short hk)),by rw [h.step hk,hn];rfl⟩
end
section
variable {ns:List Nod} {k:Int} {nd:Nod} {nw:List Int} {i:Int} {X:Ext} {V:List Hdl} {n:Nat} {F:HF} {T:List Int}
theorem HK.len (h:HK ns k nd nw i X V n F T):V.length=ns.length:=by rw [← Q5h X V];exact h.inv.len
theorem HK.most (h:HK ns k nd nw i X V n F T):T.length≤ns.length:=h.inv.le
theorem HK.to_ (h:HK ns k nd nw i X V n F T) (hi:i<((flwL nd).length:Int)) (hq:∀ x∈flwL nd,0≤x∧x<(ns.length:Int)):0≤(flwL nd).getD i.toNat 0∧(flwL nd).getD i.toNat 0<(ns.length:Int):=by
 have h0:=h.i0
 have hlt:i.toNat<(flwL nd).length:=by omega
 rw [List.getD_eq_getElem?_getD,List.getElem?_eq_getElem hlt]
 exact hq _ (List.getElem_mem hlt)
theorem HK.drop (h:HK ns k nd nw i X V n F T) (hi:i<((flwL nd).length:Int)):(flwL nd).drop i.toNat=(flwL nd).getD i.toNat 0::(flwL nd).drop (i.toNat+1):=by
 have h0:=h.i0
 have hlt:i.toNat<(flwL nd).length:=by omega
 rw [List.drop_eq_getElem_cons hlt,List.getD_eq_getElem?_getD,List.getElem?_eq_getElem hlt];rfl
theorem HK.is (h:HK ns k nd nw i X V n F T) {to:Int} (h0:0≤to∧to<(ns.length:Int)):Is X (V.getD to.toNat default).v:=Q78 h.all (by have:=h.len;omega)
theorem HK.put (h:HK ns k nd nw i X V n F T) (hi:i<((flwL nd).length:Int)) (hq:∀ x∈flwL nd,0≤x∧x<(ns.length:Int)) (hf:(!(F ((flwL nd).getD i.toNat 0)).getD false)=true) {X':Ext} {A:Option Addr} {c:Nat} (hin:X.Into X')
 (ht:X'.Tab (.slice A nw.length c) 1 nw.length (fun j=>i64T (nw.getD j 0))) :
 HK ns k nd nw (i+1) X' (V.set ((flwL nd).getD i.toNat 0).toNat ⟨A,nw.length,c⟩) (n+1) (fun a=>if a=(flwL nd).getD i.toNat 0 then some true else F a) (T++[(flwL nd).getD i.toNat 0]):=by
 have hs:=Qj9 hin h.all ht ((flwL nd).getD i.toNat 0).toNat
 have h0:=h.to_ hi hq
 have hf:(F ((flwL nd).getD i.toNat 0)).getD false=false:=by simpa using hf
 have e:=h.i0
 refine ⟨by omega,by omega,h.k0,h.kn,by rw [hs.2];exact h.inv.put hf h0.1 h0.2 h.nl,hs.1,by simp;exact h.cnt,h.nl,?_⟩
 rw [h.run,h.drop hi,hIn,if_pos hf,hs.2,show (i+1).toNat=i.toNat+1 by omega]
theorem HK.skip (h:HK ns k nd nw i X V n F T) (hi:i<((flwL nd).length:Int)) (hq:∀ x∈flwL nd,0≤x∧x<(ns.length:Int)) (hf:(!(F ((flwL nd).getD i.toNat 0)).getD false)=false) (he:(!decide (rd X (V.getD ((flwL nd).getD i.toNat 0).toNat default).v=nw))=false) :
 HK ns k nd nw (i+1) X V n F T:=by
 have h0:=h.to_ hi hq
 have hf:(F ((flwL nd).getD i.toNat 0)).getD false=true:=by simpa using hf
 have he:rd X (V.getD ((flwL nd).getD i.toNat 0).toNat default).v=nw:=by simpa using he
 have e:=h.i0
 refine ⟨by omega,by omega,h.k0,h.kn,h.inv,h.all,h.cnt,h.nl,?_⟩
 rw [h.run,h.drop hi,hIn,if_neg (by rw [hf];decide),Q11 X V _ (by have:=h.len;omega),if_pos he,show (i+1).toNat=i.toNat+1 by omega]
theorem HK.fault (h:HK ns k nd nw i X V n F T) (hi:i<((flwL nd).length:Int)) (hq:∀ x∈flwL nd,0≤x∧x<(ns.length:Int)) (hf:(!(F ((flwL nd).getD i.toNat 0)).getD false)=false) (he:(!decide (rd X (V.getD ((flwL nd).getD i.toNat 0).toNat default).v=nw))=true) :
 heldF ns=(flwL nd).getD i.toNat 0:=by
 have h0:=h.to_ hi hq
 have hf:(F ((flwL nd).getD i.toNat 0)).getD false=true:=by simpa using hf
 have he:¬ rd X (V.getD ((flwL nd).getD i.toNat 0).toNat default).v=nw:=by simpa using he
 rw [h.run,h.drop hi,hIn,if_neg (by rw [hf];decide),Q11 X V _ (by have:=h.len;omega),if_neg he]
theorem HK.done (h:HK ns k nd nw i X V n F T) (hi:¬ i<((flwL nd).length:Int)):HJ ns (k+1) X V n F T:=by
 have h1:=h.il
 have h2:=h.k0
 have h3:=h.kn
 refine ⟨by omega,by omega,by rw [show (k+1).toNat=k.toNat+1 by omega];exact h.inv,h.all,h.cnt,?_⟩
 rw [h.run,List.drop_eq_nil_of_le W37,hIn,show (k+1).toNat=k.toNat+1 by omega,show ns.length+1-(k.toNat+1)=ns.length-k.toNat by omega]
end
section
variable {nd:Nod} {l:List Int}
theorem Qa3 (h:decide (nd.kind=5)=true):nowH nd l=some (l++[nd.thing]):=by unfold nowH;rw [if_pos (of_decide_eq_true h)]
theorem Qdr (h:decide (nd.kind=5)=false) (h2:decide (nd.kind=6)=true) (h3:¬ (l.length=0∨l.getD (l.length-1) 0≠nd.thing)):nowH nd l=some (l.take (l.length-1)):=by
 unfold nowH;rw [if_neg (of_decide_eq_false h),if_pos (of_decide_eq_true h2),if_neg h3]
theorem Qjc (h:decide (nd.kind=5)=false) (h2:decide (nd.kind=6)=true) (h3:l.length=0∨l.getD (l.length-1) 0≠nd.thing):nowH nd l=none:=by
 unfold nowH;rw [if_neg (of_decide_eq_false h),if_pos (of_decide_eq_true h2),if_pos h3]
theorem Qc3 (h:decide (nd.kind=5)=false) (h2:decide (nd.kind=6)=false) (h3:decide (nd.kind=9)=true) (h4:decide ((0:Int)<(l.length:Int))=true):nowH nd l=none:=by
 have h4:0<l.length:=by have:=of_decide_eq_true h4;omega
 unfold nowH;rw [if_neg (of_decide_eq_false h),if_neg (of_decide_eq_false h2),if_pos ⟨of_decide_eq_true h3,h4⟩]
theorem Q1y (h:decide (nd.kind=5)=false) (h2:decide (nd.kind=6)=false) (h3:¬ (nd.kind=9∧0<l.length)):nowH nd l=some l:=by
 unfold nowH;rw [if_neg (of_decide_eq_false h),if_neg (of_decide_eq_false h2),if_neg h3]
end
theorem Qc4 {nd:Nod} {l:List Int} (h:decide (nd.kind=5)=false) (h2:decide (nd.kind=6)=true) (h3:(decide ((l.length:Int)=(0:Int))||!decide (l.getD ((l.length:Int)-(1:Int)).toNat (0:Int)=nd.thing))=false) :
 nowH nd l=some (List.take (((l.length:Int)-(1:Int)).toNat-0) (List.drop 0 l)):=by
 simp only [Bool.or_eq_false_iff,decide_eq_false_iff_not,Bool.not_eq_false',decide_eq_true_eq] at h3
 rw [show ((l.length:Int)-(1:Int)).toNat=l.length-1 by omega] at h3 ⊢
 rw [Qdr h h2 (fun e=>e.elim (fun e=>W37) (fun e=>e h3.2))]
 rfl
theorem Qo6 {a N:Nat} {k:Int} (h:a≤k.toNat) (h2:k≤(N:Int)) (h3:N≤4096):a * 64≤140737488355328:=by omega
theorem Qms {a N:Nat} {k:Int} (h:a≤k.toNat+1) (h2:k<(N:Int)) (h3:N≤4096):a * 64≤140737488355328:=by omega
theorem Qef {nd:Nod} {l:List Int} (h:decide (nd.kind=5)=false) (h2:decide (nd.kind=6)=true) (h3:(decide ((l.length:Int)=(0:Int))||!decide (l.getD ((l.length:Int)-(1:Int)).toNat (0:Int)=nd.thing))=true):nowH nd l=none:=by
 refine Qjc h h2 ?_
 by_cases e:l.length=0
 ·exact .inl e
 ·refine .inr ?_
  rw [show ((l.length:Int)-(1:Int)).toNat=l.length-1 by omega] at h3
  simp only [Bool.or_eq_true,decide_eq_true_eq,Bool.not_eq_true',decide_eq_false_iff_not] at h3
  rcases h3 with h3 | h3
  ·omega
  ·exact h3
end Go.Proofs.YtmaodngbpfjnnaaGreat
namespace Go.Proofs.YtmaodngbpfjnnaaGreat
open Go Go.Tx
structure NodQ (ns nl:Nat) (g:Grf) (n:Nod):Prop where
 k:1≤n.kind∧n.kind≤9
 op:0≤n.op∧n.op≤18
 slot:n.kind=1∨n.kind=2∨n.kind=4→0≤n.slot∧n.slot<g.slots
 thing:n.kind=2∨n.kind=3∨n.kind=4→0≤n.thing∧n.thing<(ns:Int)
 lock:n.kind=5∨n.kind=6→0≤n.thing∧n.thing<(nl:Int)
 next:n.kind≠9→0≤n.next∧n.next<(g.nodes.length:Int)
 els:n.kind=8→0≤n.els∧n.els<(g.nodes.length:Int)
 a:n.a.slotted=true→0≤n.a.slot∧n.a.slot<g.slots
 b:n.b.slotted=true→0≤n.b.slot∧n.b.slot<g.slots
theorem Jb {p k h m:Int} (hu:usesB p h=true) (hw:withinP p k h m=true):0≤k∧k<m:=by
 unfold withinP at hw;rw [hu] at hw;simpa using hw
theorem Qfa {p k h m:Int} (hu:usesB p h=false) (hw:withinP p k h m=true):k=0:=by
 unfold withinP at hw;rw [hu] at hw;simpa using hw
theorem Qfb {p k h m:Int} (hm:0<m) (hw:withinP p k h m=true):0≤k∧k<m:=by
 cases hu:usesB p h with
 | true=>exact Jb hu hw
 | false=>have:=Qfa hu hw;omega
theorem Qc5 {p s h:Int} {v:Vl} (hv:valueP p s v h=true) (hs:v.slotted=true):0≤v.slot∧v.slot<s:=by
 unfold valueP at hv
 split at hv
 ·have:=of_decide_eq_true hv
  subst this
  cases hs
 ·first | rw [if_pos hs] at hv | skip
  simp only [Bool.and_eq_true,decide_eq_true_eq] at hv
  exact hv.1
theorem Qc6 {ns nl:Nat} {g:Grf} {n:Nod} (h:rightN ns nl g n=true) (hk0:0≤n.kind):NodQ ns nl g n:=by
 unfold rightN at h
 simp only [Bool.and_eq_true,Bool.not_eq_true',Bool.or_eq_false_iff,decide_eq_false_iff_not] at h
 obtain ⟨⟨⟨⟨k0,k10⟩,o0⟩,o1⟩,⟨⟨⟨⟨⟨w1,w2⟩,w3⟩,w4⟩,w5⟩,w6⟩,w7⟩:=h
 have hk:1≤n.kind∧n.kind≤9:=by omega
 have hop:=Qfb W131 w1
 refine ⟨hk,by omega,fun q=>?_,fun q=>?_,fun q=>?_,fun q=>?_,fun q=>?_,Qc5 w6,Qc5 w7⟩
 ·refine Jb ?_ w2
  rcases q with q | q | q
  ·unfold prtN;rw [if_pos q];split<;>rfl
  ·unfold prtN;rw [if_neg W37,if_pos q];rfl
  ·unfold prtN;rw [if_neg W37,if_neg W37,if_neg W37,if_pos q];rfl
 ·rw [if_neg W37] at w3
  refine Jb ?_ w3
  rcases q with q | q | q
  ·unfold prtN;rw [if_neg W37,if_pos q];rfl
  ·unfold prtN;rw [if_neg W37,if_neg W37,if_pos q];rfl
  ·unfold prtN;rw [if_neg W37,if_neg W37,if_neg W37,if_pos q];rfl
 ·rw [if_pos q] at w3
  refine Jb ?_ w3
  rcases q with q | q
  ·unfold prtN;rw [if_neg W37,if_neg W37,if_neg W37,if_neg W37,if_pos q];rfl
  ·unfold prtN;rw [if_neg W37,if_neg W37,if_neg W37,if_neg W37,if_neg W37,if_pos q];rfl
 ·refine Jb ?_ w4
  have q:n.kind=1∨n.kind=2∨n.kind=3∨n.kind=4∨n.kind=5∨n.kind=6∨n.kind=7∨n.kind=8:=by omega
  unfold prtN
  rcases q with q | q | q | q | q | q | q | q
  ·rw [if_pos q];split<;>rfl
  all_goals first | (rw [q];rfl) | (simp only [q];decide) | (rw [if_neg W37];simp [q];rfl)
 ·refine Jb ?_ w5
  unfold prtN
  rw [if_neg W37];simp [q];rfl
theorem NodQ.flw {ns nl:Nat} {g:Grf} {n:Nod} (h:NodQ ns nl g n):∀ x∈flwL n,0≤x∧x<(g.nodes.length:Int):=by
 intro x hx
 unfold flwL at hx
 split at hx
 ·cases hx
 ·rename_i h9
  split at hx
  ·rename_i h8
   simp only [List.mem_cons,List.not_mem_nil,or_false] at hx
   rcases hx with rfl | rfl
   ·exact h.next h9
   ·exact h.els h8.1
  ·simp only [List.mem_cons,List.not_mem_nil,or_false] at hx
   subst hx
   exact h.next h9
def badG (g:Grf):Bool:=decide (g.locals<(0:Int))||decide ((64:Int)<g.locals)||decide (g.slots<g.locals)||decide ((4160:Int)<g.slots)||decide ((g.nodes.length:Int)<(1:Int))||decide ((4096:Int)<(g.nodes.length:Int))
def badN (ns nl:Nat) (g:Grf):List Nod→Int→Option Int
 | [],_=>none
 | n::r,i=>if rightN ns nl g n=true then badN ns nl g r (i+1) else some i
def chkGo (ns nl:Nat):List Grf→Int→Int×Int×Int
 | [],_=>(0,0,0)
 | g::r,t=>if badG g=true then (60,t,0) else match badN ns nl g g.nodes 0 with
   | some i=>(60,t,i)
   | none=>if 0≤heldF g.nodes then (60,t,heldF g.nodes) else chkGo ns nl r (t+1)
def chkU (sh lk:List Dcl) (gs:List Grf):Int×Int×Int:=if namedB sh lk gs=true then chkGo sh.length lk.length gs 0 else (60,0,0)
structure GrfQ (ns nl:Nat) (g:Grf):Prop where
 loc:0≤g.locals∧g.locals≤g.slots∧g.slots≤4160
 len:1≤g.nodes.length∧g.nodes.length≤4096
 nod:∀ i:Nat,i<g.nodes.length→rightN ns nl g (g.nodes.getD i default)=true
theorem Q2o {g:Grf} (h:badG g=false):(0≤g.locals∧g.locals≤g.slots∧g.slots≤4160)∧(1≤g.nodes.length∧g.nodes.length≤4096):=by
 unfold badG at h
 simp only [Bool.or_eq_false_iff,decide_eq_false_iff_not] at h
 omega
theorem Q53 {ns nl:Nat} {g:Grf}:∀ {l:List Nod} {i:Int},badN ns nl g l i=none→∀ j:Nat,j<l.length→rightN ns nl g (l.getD j default)=true
 | [],_,_,j,hj=>absurd hj W148
 | n::r,i,h,j,hj=>by
   unfold badN at h
   split at h
   ·rename_i hr
    cases j with
    | zero=>exact hr
    | succ j=>exact Q53 h j W156
   ·cases h
theorem Qc7 {ns nl:Nat}:∀ {l:List Grf} {t:Int},(chkGo ns nl l t).1=0→∀ j:Nat,j<l.length→GrfQ ns nl (l.getD j default)
 | [],_,_,j,hj=>absurd hj W148
 | g::r,t,h,j,hj=>by
   unfold chkGo at h
   split at h
   ·cases h
   ·rename_i hb
    split at h
    ·cases h
    ·rename_i hn
     split at h
     ·cases h
     ·cases j with
      | zero =>
        have:=Q2o (by simpa using hb)
        exact ⟨this.1,this.2,Q53 hn⟩
      | succ j=>exact Qc7 h j W156
theorem Q2p {sh lk:List Dcl} {gs:List Grf} (h:(chkU sh lk gs).1=0):(sh.length≤64∧lk.length≤16∧gs.length≤8)∧∀ j:Nat,j<gs.length→GrfQ sh.length lk.length (gs.getD j default):=by
 unfold chkU at h
 split at h
 ·rename_i hn
  refine ⟨?_,Qc7 h⟩
  unfold namedB at hn
  simp only [Bool.and_eq_true] at hn
  have hm:manyB sh lk gs=false:=by have:=hn.1;simpa using this
  exact Q0j hm
 ·cases h
section
variable {sh lk:List Dcl} {gs:List Grf} {t:Int}
structure CJ (sh lk:List Dcl) (gs:List Grf) (t:Int):Prop where
 t0:0≤t
 tl:t≤(gs.length:Int)
 run:chkU sh lk gs=chkGo sh.length lk.length (gs.drop t.toNat) t
theorem CJ.start (h:(!namedB sh lk gs)=false):CJ sh lk gs 0:=⟨Int.le_refl _,by omega,by unfold chkU;rw [if_pos W144];rfl⟩
theorem CJ.first (h:(!namedB sh lk gs)=true):chkU sh lk gs=(60,0,0):=by unfold chkU;rw [if_neg W144]
theorem CJ.drop (h:CJ sh lk gs t) (ht:t<(gs.length:Int)):gs.drop t.toNat=gs.getD t.toNat default::gs.drop (t.toNat+1):=by
 have h0:=h.t0
 have hlt:t.toNat<gs.length:=by omega
 rw [List.drop_eq_getElem_cons hlt,List.getD_eq_getElem?_getD,List.getElem?_eq_getElem hlt];rfl
theorem CJ.bad (h:CJ sh lk gs t) (ht:t<(gs.length:Int)) (hb:badG (gs.getD t.toNat default)=true):chkU sh lk gs=(60,t,0):=by
 rw [h.run,h.drop ht,chkGo,if_pos hb]
theorem CJ.nods (h:CJ sh lk gs t) (ht:t<(gs.length:Int)) (hb:badG (gs.getD t.toNat default)=false) {i:Int} (hn:badN sh.length lk.length (gs.getD t.toNat default) (gs.getD t.toNat default).nodes 0=some i):chkU sh lk gs=(60,t,i):=by
 rw [h.run,h.drop ht,chkGo,if_neg (by rw [hb];decide),hn]
theorem CJ.held (h:CJ sh lk gs t) (ht:t<(gs.length:Int)) (hb:badG (gs.getD t.toNat default)=false) (hn:badN sh.length lk.length (gs.getD t.toNat default) (gs.getD t.toNat default).nodes 0=none) (hh:decide ((0:Int)≤heldF (gs.getD t.toNat default).nodes)=true) :
 chkU sh lk gs=(60,t,heldF (gs.getD t.toNat default).nodes):=by
 rw [h.run,h.drop ht,chkGo,if_neg (by rw [hb];decide),hn];dsimp only;rw [if_pos (of_decide_eq_true hh)]
theorem CJ.next (h:CJ sh lk gs t) (ht:t<(gs.length:Int)) (hb:badG (gs.getD t.toNat default)=false) (hn:badN sh.length lk.length (gs.getD t.toNat default) (gs.getD t.toNat default).nodes 0=none) (hh:decide ((0:Int)≤heldF (gs.getD t.toNat default).nodes)=false) :
 CJ sh lk gs (t+1):=by
 have h0:=h.t0
 refine ⟨by omega,by omega,?_⟩
 rw [h.run,h.drop ht,chkGo,if_neg (by rw [hb];decide),hn];dsimp only;rw [if_neg (of_decide_eq_false hh),show (t+1).toNat=t.toNat+1 by omega]
theorem CJ.done (h:CJ sh lk gs t) (ht:¬ t<(gs.length:Int)):chkU sh lk gs=(0,0,0):=by
 have h1:=h.tl
 rw [h.run,List.drop_eq_nil_of_le W37];rfl
structure CN (ns nl:Nat) (g:Grf) (i:Int):Prop where
 i0:0≤i
 il:i≤(g.nodes.length:Int)
 run:badN ns nl g g.nodes 0=badN ns nl g (g.nodes.drop i.toNat) i
end
section
variable {ns nl:Nat} {g:Grf} {i:Int}
theorem CN.start (ns nl:Nat) (g:Grf):CN ns nl g 0:=⟨Int.le_refl _,by omega,rfl⟩
theorem CN.drop (h:CN ns nl g i) (hi:i<(g.nodes.length:Int)):g.nodes.drop i.toNat=g.nodes.getD i.toNat default::g.nodes.drop (i.toNat+1):=by
 have h0:=h.i0
 have hlt:i.toNat<g.nodes.length:=by omega
 rw [List.drop_eq_getElem_cons hlt,List.getD_eq_getElem?_getD,List.getElem?_eq_getElem hlt];rfl
theorem CN.bad (h:CN ns nl g i) (hi:i<(g.nodes.length:Int)) (hr:(!rightN ns nl g (g.nodes.getD i.toNat default))=true):badN ns nl g g.nodes 0=some i:=by
 rw [h.run,h.drop hi,badN,if_neg (by simpa using hr)]
theorem CN.next (h:CN ns nl g i) (hi:i<(g.nodes.length:Int)) (hr:(!rightN ns nl g (g.nodes.getD i.toNat default))=false):CN ns nl g (i+1):=by
 have h0:=h.i0
 refine ⟨by omega,by omega,?_⟩
 rw [h.run,h.drop hi,badN,if_pos (by simpa using hr),show (i+1).toNat=i.toNat+1 by omega]
theorem CN.done (h:CN ns nl g i) (hi:¬ i<(g.nodes.length:Int)):badN ns nl g g.nodes 0=none:=by
 have h1:=h.il
 rw [h.run,List.drop_eq_nil_of_le W37];rfl
theorem Qh1 (h:badN ns nl g g.nodes 0=none) (hk:∀ j:Nat,0≤(g.nodes.getD j default).kind):∀ j:Nat,j<g.nodes.length→∀ x∈flwL (g.nodes.getD j default),0≤x∧x<(g.nodes.length:Int):=
 fun j hj=>(Qc6 (Q53 h j hj) (hk j)).flw
end
def UnitW (gs:List Grf):Prop:=∀ a b:Nat,0≤((gs.getD a default).nodes.getD b default).kind∧0≤((gs.getD a default).nodes.getD b default).op∧((gs.getD a default).nodes.getD b default).op≤255
end Go.Proofs.YtmaodngbpfjnnaaGreat
namespace Go.Proofs.YtmaodngbpfjnnaaGreat
open Go Go.Tx
structure Slt where
 l:List Int
 deriving Inhabited
def Slt.tl (x:Slt):List TC:=[.sub 2 1 x.l.length (fun i=>i64T (x.l.getD i 0))]
def Slt.tc (x:Slt):Nat→TC:=nthT x.tl
abbrev Slt.rowR (l:List Slt):Reg:=rowOf 1 Slt.tc l
abbrev Slt.ownR (l:List Slt):Reg:=ownOf 26 1 Slt.tc l
structure Mch where
 pos:List Int
 sl:List Slt
 mem:List Int
 ho:List Int
 pr:List Prt
 deriving Inhabited
def actC (rm:Nat) (t:Int) (n:Nod) (d:Act):List C:=[.p rm 0,.i .i64 t,.i .u8 n.kind,.i .u8 n.op,.i .i64 n.slot,.i .i64 n.thing,.b n.a.slotted,.i .i64 n.a.slot,.i .i64 n.a.word,.b n.b.slotted,.i .i64 n.b.slot,.i .i64 n.b.word,
 .i .i64 n.next,.i .i64 n.els,.i .i64 n.origin,.i .i64 d.thread,.i .i64 d.node,.i .u8 d.kind,.i .i64 d.thing,.i .i64 d.word,.i .i64 d.put]
def actW (rm:Nat) (t:Int) (n:Nod) (d1 d2 d3 d4 d5 d6:Int):List C:=[.p rm 0,.i .i64 t,.i .u8 n.kind,.i .u8 n.op,.i .i64 n.slot,.i .i64 n.thing,.b n.a.slotted,.i .i64 n.a.slot,.i .i64 n.a.word,.b n.b.slotted,.i .i64 n.b.slot,.i .i64 n.b.word,
 .i .i64 n.next,.i .i64 n.els,.i .i64 n.origin,.i .i64 d1,.i .i64 d2,.i .u8 d3,.i .i64 d4,.i .i64 d5,.i .i64 d6]
def slotW (sl:List Slt) (t:Int) (s:Int):Int:=(sl.getD t.toNat default).l.getD s.toNat 0
def wordV (sl:List Slt) (t:Int) (v:Vl):Int:=if v.slotted=true then slotW sl t v.slot else v.word
def putsL (sl:List Slt) (t s w:Int):List Slt:=sl.set t.toNat ⟨(sl.getD t.toNat default).l.set s.toNat w⟩
def setW (sl:List Slt) (t:Int) (n:Nod):Int:=
 if twoB n.op=true then opTwo n.op (wordV sl t n.a) (wordV sl t n.b) else if n.op=0 then wordV sl t n.a else if (opB n.op&&!twoB n.op)=true then opOne n.op (wordV sl t n.a) else 0
theorem Qh2 {sl:List Slt} {t:Int} {n:Nod} (h:twoB n.op=true):setW sl t n=if twoB n.op=true then opTwo n.op (wordV sl t n.a) (wordV sl t n.b) else 0:=by unfold setW;rw [if_pos h,if_pos h]
theorem Qh3 {sl:List Slt} {t:Int} {n:Nod} (h:twoB n.op=false) (h2:(!decide (n.op=(0:Int)))=true):setW sl t n=if (opB n.op&&!twoB n.op)=true then opOne n.op (wordV sl t n.a) else 0:=by
 unfold setW;rw [if_neg (by rw [h];decide),if_neg W128]
theorem Qmt {sl:List Slt} {t:Int} {n:Nod} (h:twoB n.op=false) (h2:(!decide (n.op=(0:Int)))=false):setW sl t n=wordV sl t n.a:=by
 unfold setW;rw [if_neg (by rw [h];decide),if_pos W128]
structure Don where
 m:Mch
 d:Act
 to:Int
def aSet (t:Int) (n:Nod) (m:Mch) (d:Act):Don:=⟨{ m with sl:=putsL m.sl t n.slot (setW m.sl t n) },{ d with word:=setW m.sl t n },n.next⟩
def aLoad (t:Int) (n:Nod) (m:Mch) (d:Act):Don:=⟨{ m with sl:=putsL m.sl t n.slot (m.mem.getD n.thing.toNat 0) },{ d with thing:=n.thing,word:=m.mem.getD n.thing.toNat 0 },n.next⟩
def aStore (t:Int) (n:Nod) (m:Mch) (d:Act):Don:=⟨{ m with mem:=m.mem.set n.thing.toNat (wordV m.sl t n.a) },{ d with thing:=n.thing,word:=wordV m.sl t n.a },n.next⟩
def aSwap (t:Int) (n:Nod) (m:Mch) (d:Act):Don:=
 ⟨{ m with sl:=putsL m.sl t n.slot (m.mem.getD n.thing.toNat 0),mem:=m.mem.set n.thing.toNat (wordV m.sl t n.a) },{ d with thing:=n.thing,word:=m.mem.getD n.thing.toNat 0,put:=wordV m.sl t n.a },n.next⟩
def aLock (t:Int) (n:Nod) (m:Mch) (d:Act):Don:=⟨{ m with ho:=m.ho.set n.thing.toNat t },{ d with thing:=n.thing },n.next⟩
def aUnlock (t:Int) (n:Nod) (m:Mch) (d:Act):Don:=⟨{ m with ho:=m.ho.set n.thing.toNat (-1) },{ d with thing:=n.thing },n.next⟩
def aPrint (t:Int) (n:Nod) (m:Mch) (d:Act):Don:=⟨{ m with pr:=m.pr++[⟨t,wordV m.sl t n.a⟩] },{ d with word:=wordV m.sl t n.a },n.next⟩
def aBranch (t:Int) (n:Nod) (m:Mch) (d:Act):Don:=⟨m,{ d with word:=wordV m.sl t n.a },if wordV m.sl t n.a=0 then n.els else n.next⟩
def aDo (t:Int) (n:Nod) (m:Mch) (d:Act):Don:=
 if n.kind=1 then aSet t n m d else if n.kind=2 then aLoad t n m d else if n.kind=3 then aStore t n m d else if n.kind=4 then aSwap t n m d
 else if n.kind=5 then aLock t n m d else if n.kind=6 then aUnlock t n m d else if n.kind=7 then aPrint t n m d else if n.kind=8 then aBranch t n m d else ⟨m,d,0⟩
theorem Qfc {t:Int} {n:Nod} {m:Mch} {d:Act} (h:n.kind=1):aDo t n m d=aSet t n m d:=by unfold aDo;rw [if_pos h]
theorem Qfd {t:Int} {n:Nod} {m:Mch} {d:Act} (h:n.kind=2):aDo t n m d=aLoad t n m d:=by unfold aDo;rw [if_neg W37,if_pos h]
theorem Qfe {t:Int} {n:Nod} {m:Mch} {d:Act} (h:n.kind=3):aDo t n m d=aStore t n m d:=by unfold aDo;rw [if_neg W37,if_neg W37,if_pos h]
theorem Qff {t:Int} {n:Nod} {m:Mch} {d:Act} (h:n.kind=4):aDo t n m d=aSwap t n m d:=by unfold aDo;rw [if_neg W37,if_neg W37,if_neg W37,if_pos h]
theorem Qfg {t:Int} {n:Nod} {m:Mch} {d:Act} (h:n.kind=5):aDo t n m d=aLock t n m d:=by unfold aDo;rw [if_neg W37,if_neg W37,if_neg W37,if_neg W37,if_pos h]
theorem Qfh {t:Int} {n:Nod} {m:Mch} {d:Act} (h:n.kind=6):aDo t n m d=aUnlock t n m d:=by unfold aDo;rw [if_neg W37,if_neg W37,if_neg W37,if_neg W37,if_neg W37,if_pos h]
theorem Qfi {t:Int} {n:Nod} {m:Mch} {d:Act} (h:n.kind=7):aDo t n m d=aPrint t n m d:=by unfold aDo;rw [if_neg W37,if_neg W37,if_neg W37,if_neg W37,if_neg W37,if_neg W37,if_pos h]
theorem Qfj {t:Int} {n:Nod} {m:Mch} {d:Act} (h:n.kind=8):aDo t n m d=aBranch t n m d:=by unfold aDo;rw [if_neg W37,if_neg W37,if_neg W37,if_neg W37,if_neg W37,if_neg W37,if_neg W37,if_pos h]
def nodA (gs:List Grf) (pos:List Int) (t:Int):Nod:=(gs.getD t.toNat default).nodes.getD (pos.getD t.toNat 0).toNat default
def barV (gs:List Grf) (pos ho:List Int) (t:Int):Int:=
 if t<0∨(pos.length:Int)≤t then 2 else if (nodA gs pos t).kind=9 then 70 else if (nodA gs pos t).kind=5∧0≤ho.getD (nodA gs pos t).thing.toNat 0 then 71 else 0
structure Stp1 where
 err:Int
 d:Act
 m:Mch
def stepM (gs:List Grf) (t:Int) (m:Mch):Stp1:=
 if barV gs m.pos m.ho t=0 then ⟨0,(aDo t (nodA gs m.pos t) m ⟨t,m.pos.getD t.toNat 0,(nodA gs m.pos t).kind,0,0,0⟩).d,
  { (aDo t (nodA gs m.pos t) m ⟨t,m.pos.getD t.toNat 0,(nodA gs m.pos t).kind,0,0,0⟩).m with pos:=m.pos.set t.toNat (aDo t (nodA gs m.pos t) m ⟨t,m.pos.getD t.toNat 0,(nodA gs m.pos t).kind,0,0,0⟩).to }⟩
 else ⟨barV gs m.pos m.ho t,⟨0,0,0,0,0,0⟩,m⟩
theorem Qc8 {gs:List Grf} {t:Int} {m:Mch} (h:(!decide (barV gs m.pos m.ho t=(0:Int)))=true):stepM gs t m=⟨barV gs m.pos m.ho t,⟨0,0,0,0,0,0⟩,m⟩:=by unfold stepM;rw [if_neg W144]
theorem Yd {gs:List Grf} {t:Int} {m:Mch} (h:(!decide (barV gs m.pos m.ho t=(0:Int)))=false) {R:Don} (hR:aDo t (nodA gs m.pos t) m ⟨t,m.pos.getD t.toNat 0,(nodA gs m.pos t).kind,0,0,0⟩=R) :
 stepM gs t m=⟨0,R.d,{ R.m with pos:=m.pos.set t.toNat R.to }⟩:=by unfold stepM;rw [if_pos W144,hR]
theorem Qr {gs:List Grf} {pos ho:List Int} {t:Int} (h:(!decide (barV gs pos ho t=(0:Int)))=false):0≤t∧t<(pos.length:Int)∧(nodA gs pos t).kind≠9:=by
 have h:barV gs pos ho t=0:=by simpa using h
 unfold barV at h
 split at h
 ·cases h
 ·split at h
  ·cases h
  ·rename_i h1 h2
   exact ⟨by omega,by omega,h2⟩
theorem kinds8 {ns nl:Nat} {g:Grf} {n:Nod} (h:NodQ ns nl g n) (h9:n.kind≠9):n.kind=1∨n.kind=2∨n.kind=3∨n.kind=4∨n.kind=5∨n.kind=6∨n.kind=7∨n.kind=8:=by have:=h.k;omega
def newM (sh lk:List Dcl) (gs:List Grf):Mch:=⟨List.replicate gs.length 0,gs.map (fun g=>⟨List.replicate g.slots.toNat 0⟩),sh.map (·.word),List.replicate lk.length (-1),[]⟩
structure MchQ (ns nl:Nat) (gs:List Grf) (m:Mch):Prop where
 gl:m.pos.length=gs.length
 sn:m.sl.length=gs.length
 mn:m.mem.length=ns
 hn:m.ho.length=nl
 g:∀ j:Nat,j<gs.length→GrfQ ns nl (gs.getD j default)
 at_:∀ j:Nat,j<gs.length→0≤m.pos.getD j 0∧m.pos.getD j 0<((gs.getD j default).nodes.length:Int)
 sw:∀ j:Nat,j<gs.length→((m.sl.getD j default).l.length:Int)=(gs.getD j default).slots
section
variable {ns nl:Nat} {gs:List Grf} {m:Mch} {t:Int}
theorem MchQ.nod (h:MchQ ns nl gs m) (hw:UnitW gs) (h0:0≤t) (h1:t<(m.pos.length:Int)):NodQ ns nl (gs.getD t.toNat default) (nodA gs m.pos t):=by
 have e:=h.gl
 have ha:=h.at_ t.toNat W37
 exact Qc6 ((h.g t.toNat W37).nod _ W37) (hw _ _).1
theorem MchQ.at_t (h:MchQ ns nl gs m) (h0:0≤t) (h1:t<(m.pos.length:Int)):0≤m.pos.getD t.toNat 0∧m.pos.getD t.toNat 0<((gs.getD t.toNat default).nodes.length:Int)∧(gs.getD t.toNat default).nodes.length≤4096:=by
 have e:=h.gl
 have:=h.at_ t.toNat W37
 exact ⟨this.1,this.2,(h.g t.toNat W37).len.2⟩
theorem MchQ.lk (h:MchQ ns nl gs m) (hw:UnitW gs) (h0:0≤t) (h1:t<(m.pos.length:Int)) (hk:decide (((gs.getD t.toNat default).nodes.getD (m.pos.getD t.toNat 0).toNat default).kind=(5:Int))=true) :
 0≤((gs.getD t.toNat default).nodes.getD (m.pos.getD t.toNat 0).toNat default).thing∧((gs.getD t.toNat default).nodes.getD (m.pos.getD t.toNat 0).toNat default).thing<(m.ho.length:Int):=by
 rw [h.hn];exact (h.nod hw h0 h1).lock (.inl (of_decide_eq_true hk))
theorem MchQ.slots (h:MchQ ns nl gs m) (h0:0≤t) (h1:t<(m.pos.length:Int)):((m.sl.getD t.toNat default).l.length:Int)=(gs.getD t.toNat default).slots:=by
 have e:=h.gl
 exact h.sw t.toNat W37
theorem Qmu (h:MchQ ns nl gs m) (z:0≤t∧t<(m.pos.length:Int)∧(nodA gs m.pos t).kind≠9):0≤t∧t<(m.sl.length:Int):=by
 have e:=h.gl
 have e2:=h.sn
 omega
theorem Q9d (h:MchQ ns nl gs m) (hw:UnitW gs) (z:0≤t∧t<(m.pos.length:Int)∧(nodA gs m.pos t).kind≠9) (hk:(nodA gs m.pos t).kind=1∨(nodA gs m.pos t).kind=2∨(nodA gs m.pos t).kind=4) :
 0≤(nodA gs m.pos t).slot∧(nodA gs m.pos t).slot<((m.sl.getD t.toNat default).l.length:Int):=by
 rw [h.slots z.1 z.2.1];exact (h.nod hw z.1 z.2.1).slot hk
theorem Qmv (h:MchQ ns nl gs m) (hw:UnitW gs) (z:0≤t∧t<(m.pos.length:Int)∧(nodA gs m.pos t).kind≠9):(nodA gs m.pos t).a.slotted=true→0≤(nodA gs m.pos t).a.slot∧(nodA gs m.pos t).a.slot<((m.sl.getD t.toNat default).l.length:Int):=by
 rw [h.slots z.1 z.2.1];exact (h.nod hw z.1 z.2.1).a
theorem Qmw (h:MchQ ns nl gs m) (hw:UnitW gs) (z:0≤t∧t<(m.pos.length:Int)∧(nodA gs m.pos t).kind≠9):(nodA gs m.pos t).b.slotted=true→0≤(nodA gs m.pos t).b.slot∧(nodA gs m.pos t).b.slot<((m.sl.getD t.toNat default).l.length:Int):=by
 rw [h.slots z.1 z.2.1];exact (h.nod hw z.1 z.2.1).b
theorem Qc9 (h:MchQ ns nl gs m) (hw:UnitW gs) (z:0≤t∧t<(m.pos.length:Int)∧(nodA gs m.pos t).kind≠9) (hk:(nodA gs m.pos t).kind=2∨(nodA gs m.pos t).kind=3∨(nodA gs m.pos t).kind=4) :
 0≤(nodA gs m.pos t).thing∧(nodA gs m.pos t).thing<(m.mem.length:Int):=by
 rw [h.mn];exact (h.nod hw z.1 z.2.1).thing hk
theorem Q9e (h:MchQ ns nl gs m) (hw:UnitW gs) (z:0≤t∧t<(m.pos.length:Int)∧(nodA gs m.pos t).kind≠9) (hk:(nodA gs m.pos t).kind=5∨(nodA gs m.pos t).kind=6) :
 0≤(nodA gs m.pos t).thing∧(nodA gs m.pos t).thing<(m.ho.length:Int):=by
 rw [h.hn];exact (h.nod hw z.1 z.2.1).lock hk
end
theorem Qh4 {gs:List Grf} {pos ho:List Int} {t:Int} (h:(!(decide ((0:Int)≤t)&&decide (t<(pos.length:Int))))=true):barV gs pos ho t=2:=by
 unfold barV;rw [if_pos];simp at h;omega
theorem Q54 {pos:List Int} {t:Int} (h:(!(decide ((0:Int)≤t)&&decide (t<(pos.length:Int))))=false):0≤t∧t<(pos.length:Int):=by simp at h;omega
theorem Qlb {gs:List Grf} {pos ho:List Int} {t:Int} (h:0≤t∧t<(pos.length:Int)) (h2:decide ((nodA gs pos t).kind=9)=true):barV gs pos ho t=70:=by
 unfold barV;rw [if_neg W37,if_pos (of_decide_eq_true h2)]
theorem Qjd {gs:List Grf} {pos ho:List Int} {t:Int} (h:0≤t∧t<(pos.length:Int)) (h2:decide ((nodA gs pos t).kind=9)=false) (h3:(decide ((nodA gs pos t).kind=5)&&decide ((0:Int)≤ho.getD (nodA gs pos t).thing.toNat 0))=true):barV gs pos ho t=71:=by
 unfold barV;rw [if_neg W37,if_neg (of_decide_eq_false h2),if_pos (by simpa using h3)]
theorem Qmx {gs:List Grf} {pos ho:List Int} {t:Int} (h:0≤t∧t<(pos.length:Int)) (h2:decide ((nodA gs pos t).kind=9)=false) (h3:(decide ((nodA gs pos t).kind=5)&&decide ((0:Int)≤ho.getD (nodA gs pos t).thing.toNat 0))=false):barV gs pos ho t=0:=by
 unfold barV;rw [if_neg W37,if_neg (of_decide_eq_false h2),if_neg (by intro q;rw [decide_eq_true q.1,decide_eq_true q.2] at h3;cases h3)]
end Go.Proofs.YtmaodngbpfjnnaaGreat
