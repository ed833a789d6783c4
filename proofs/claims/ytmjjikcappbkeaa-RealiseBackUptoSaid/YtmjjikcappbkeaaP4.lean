/-
  A part of the proof. Text 4 of 8: TxS TxT TxY TxX Data Spec SpecW SpecV Ent Leaf Leaf40 Leaf41 Leaf42.
-/
import Derived.Test.YtmjjikcappbkeaaP3
import Derived.Laws.Cover3
import Derived.Test.YtmjjikcappbkeaaRows
set_option linter.unusedSimpArgs false
set_option linter.unusedVariables false
set_option linter.unusedSectionVars false
set_option maxHeartbeats 4000000
namespace Go.Tx
open Go Go.RowKit
theorem RegsOk.world2 {ε:Env} {M L:Nat→Prop} {w w':World} {rg:List Reg} (hs:RegsOk ε M L w rg) (hsz:w.heap.size≤w'.heap.size)
 (hb:∀ (i:Nat) (r:Reg),rg[i]?=some r→r.live=true→∀ b,ε.fp i b→b<w.heap.size→w'.heap[b]?=w.heap[b]?):RegsOk ε M L w' rg:=
 ⟨hs.len,fun i r hi=>RegOk.world (hs.reg i r hi) hsz (fun b h1 h2 h3=>hb i r hi h2 b h1 h3),fun i r hi hl b hb'=>⟨Nat.lt_of_lt_of_le (hs.lt i r hi hl b hb').1 hsz,(hs.lt i r hi hl b hb').2⟩,hs.lim,hs.sep⟩
theorem RegsOk.narrow {ε:Env} {M L M' L':Nat→Prop} {w:World} {rg:List Reg} (hs:RegsOk ε M L w rg) (hM:∀ (i:Nat) (r:Reg),rg[i]?=some r→r.excl=true→∀ b,ε.fp i b→M' b)
 (hL:∀ (i:Nat) (r:Reg),rg[i]?=some r→r.live=true→∀ b,ε.fp i b→L' b):RegsOk ε M' L' w rg:=
 ⟨hs.len,fun i r hi=>RegOk.reM (fun he b hb=>hM i r hi he b hb) (hs.reg i r hi),fun i r hi hl b hb=>⟨(hs.lt i r hi hl b hb).1,hL i r hi hl b hb⟩,fun i r hi he b hb=>hM i r hi he b hb,hs.sep⟩
def exclFp (rg:List Reg) (ε:Env) (b:Nat):Prop:=∃ (i:Nat) (r:Reg),rg[i]?=some r∧r.excl=true∧ε.fp i b
def liveFp (rg:List Reg) (ε:Env) (b:Nat):Prop:=∃ (i:Nat) (r:Reg),rg[i]?=some r∧r.live=true∧ε.fp i b
theorem exclFp_live {rg:List Reg} {ε:Env} {b:Nat} (h:exclFp rg ε b):liveFp rg ε b:=let ⟨i,r,h1,h2,h3⟩:=h;⟨i,r,h1,excl_live h2,h3⟩
theorem RegsOk.M_of {ε:Env} {M L:Nat→Prop} {w:World} {rg:List Reg} (hs:RegsOk ε M L w rg) {b:Nat} (h:exclFp rg ε b):M b:=let ⟨i,r,h1,h2,h3⟩:=h;hs.lim i r h1 h2 b h3
theorem RegsOk.L_of {ε:Env} {M L:Nat→Prop} {w:World} {rg:List Reg} (hs:RegsOk ε M L w rg) {b:Nat} (h:liveFp rg ε b):b<w.heap.size∧L b:=let ⟨i,r,h1,h2,h3⟩:=h;hs.lt i r h1 h2 b h3
def RegsAt {X:Type} (I:X→List Reg) (J:X→Prop):Base→World→Prop:=fun b w=>∃ (x:X) (ε:Env),J x∧b.e <+: ε.hs∧RegsOk ε b.M b.L w (I x)∧Fr b.m b.w w
def Tround {X:Type} (I:X→List Reg) (J:X→Prop) (Jx:Code→X→Prop):Tgt:=fun b e a w=>match e with
 | .normal=>RegsAt I J b w
 | .ret=>RegsAt I (Jx .ret) b w
 | .exit id=>RegsAt I (Jx (.exit id)) b w
 | _=>False
def endEnt (n0:Nat) (π:List Nat) (st:St) (rg:List Reg):Option (List F):=
 if noDup (liveIx π rg)&&idOn π n0&&Nat.ble n0 st.rg.length&&Nat.ble st.rg.length 1000000&&rg.all (Reg.scp rg.length) then regsMatch (at' π) st.rg π rg else none
theorem endEnt_sound {X:Type} {I:X→List Reg} {J:X→Prop} {b:Base} {n0:Nat} (hb:b.e.length=n0) {π:List Nat} {st:St} {x:X} {E:List F} (h:endEnt n0 π st (I x)=some E) (hE:AllF E) (hJ:J x) {a:Act} {w:World} (hs:Sat b st a w):RegsAt I J b w:=by
 obtain ⟨ε,hs⟩:=hs
 unfold endEnt at h
 split at h
 ·rename_i hc
  simp only [Bool.and_eq_true] at hc
  obtain ⟨⟨⟨⟨c1,c2⟩,c3⟩,c4⟩,c5⟩:=hc
  have hε:ε.length≤1000000:=by rw [hs.regs.len];exact Nat.le_of_ble_eq_true c4
  exact ⟨x,π.map ε.ent,hJ,hs_map hb hs.pre (idOn_spec c2),hs.regs.renum hε c5 c1 h hE,hs.below⟩
 ·cases h
section
variable {P:Program} [hw:Wide P] {fn:Func} {n0:Nat} {U:Tgt} {c:Cfg} {vc:List Prop}
theorem RunF.endRound {X:Type} {I:X→List Reg} {J:X→Prop} {Jx:Code→X→Prop} (x:X) (π:List Nat) {E:List F} (h:see P fn c=(vc,.jump (fun b _ w=>RegsAt I J b w))) (hv:Conj vc)
 (he:endEnt n0 π (c.at P) (I x)=some E) (hE:AllF E) (hJ:J x):RunF P fn n0 (Tround I J Jx) c:=by
 unfold RunF
 intro b hb
 unfold see at h
 unfold Cfg.at at he
 generalize hg:seg P 5000 c.k c.st=rr at h he
 obtain ⟨vc',out⟩:=rr
 cases out<;>simp only [Prod.mk.injEq,reduceCtorEq,and_false] at h
 case jump J' st =>
  simp only [View.jump.injEq] at h
  obtain ⟨rfl,rfl⟩:=h
  exact seg_sound hw.mixed 5000 _ _ _ _ hg hv.toAll (fun a w hs=>endEnt_sound hb he hE hJ hs)
 all_goals first | (unfold callV at h;split at h<;>simp at h;done) | (split at h<;>simp at h)
end
structure Rng where
 fn:FuncId
 tmps:Array Value
 p:Tmp
 assign:Code
 body:Code
 D:Nat
 W1:World
 hs0:List Value
 bM:Nat→Prop
 bL:Nat→Prop
 ro:Nat→Prop
def Rng.lp (g:Rng) (st:LoopState) (pe:Option Code):Loop:={ state:=st,pending:=pe,fn:=g.fn,tmps:=g.tmps,params:=#[g.p],assign:=g.assign,body:=g.body,defers:=g.D }
def Rng.fpOf (g:Rng) (rg:List Reg) (ε:Env) (b:Nat):Prop:=b=g.D∨b=g.D+1∨(liveFp rg ε b∧¬ g.ro b)
structure Rng.At (g:Rng) (rg:List Reg) (ε:Env) (st:LoopState) (pe:Option Code) (w:World):Prop where
 hs:g.hs0 <+: ε.hs
 regs:RegsOk ε g.bM g.bL w rg
 excl:∀ b,exclFp rg ε b→¬ g.ro b
 loop:w.heap[g.D+1]?=some (.loop (g.lp st pe))
 mrk:w.heap[g.D]?=some (.deferred (some []))
 off:∀ b,liveFp rg ε b→b≠g.D∧b≠g.D+1
 same:∀ b,g.ro b→w.heap[b]?=g.W1.heap[b]?
 size:g.W1.heap.size≤w.heap.size
 old:∀ b,g.ro b→b<g.D
def Rng.G (g:Rng) {X:Type} (I:X→List Reg) (J:Nat→X→Prop) (Jx:Code→X→Prop) (k:Nat) (al:Bool) (fp:Nat→Prop) (w:World):Prop:=
 ∃ (x:X) (ε:Env),(∀ b,fp b↔g.fpOf (I x) ε b) ∧
  ((al=true∧J k x∧g.At (I x) ε .ready none w)∨(al=false∧∃ c,Jx c x∧g.At (I x) ε .done (some c) w))
theorem Rng.At.move {g:Rng} {rg:List Reg} {ε:Env} {st:LoopState} {pe:Option Code} {w1 w:World} (h:g.At rg ε st pe w1) (hsz:w1.heap.size≤w.heap.size)
 (hb:∀ b,g.fpOf rg ε b→w.heap[b]?=w1.heap[b]?) (hro:∀ b,g.ro b→w.heap[b]?=g.W1.heap[b]?):g.At rg ε st pe w:=by
 refine ⟨h.hs,h.regs.world2 hsz (fun i r hi hl b hf _=>?_),h.excl,?_,?_,h.off,hro,Nat.le_trans h.size hsz,h.old⟩
 ·by_cases hr:g.ro b
  ·rw [hro b hr,h.same b hr]
  ·exact hb b (.inr (.inr ⟨⟨i,r,hi,hl,hf⟩,hr⟩))
 ·rw [hb _ (.inr (.inl rfl))];exact h.loop
 ·rw [hb _ (.inl rfl)];exact h.mrk
theorem Rng.G.move {g:Rng} {X:Type} {I:X→List Reg} {J:Nat→X→Prop} {Jx:Code→X→Prop} {k:Nat} {al:Bool} {fp:Nat→Prop} {w1 w:World} (h:g.G I J Jx k al fp w1) (hsz:w1.heap.size≤w.heap.size)
 (hb:∀ b,fp b→b<w.heap.size∧w.heap[b]?=w1.heap[b]?) (hro:∀ b,g.ro b→w.heap[b]?=g.W1.heap[b]?):g.G I J Jx k al fp w:=by
 obtain ⟨x,ε,hf,h⟩:=h
 refine ⟨x,ε,hf,?_⟩
 have hb':∀ b,g.fpOf (I x) ε b→w.heap[b]?=w1.heap[b]?:=fun b h=>(hb b ((hf b).2 h)).2
 rcases h with ⟨h1,h2,h3⟩ | ⟨h1,c,h2,h3⟩
 ·exact .inl ⟨h1,h2,h3.move hsz hb' hro⟩
 ·exact .inr ⟨h1,c,h2,h3.move hsz hb' hro⟩
theorem Rng.At.put {g:Rng} {rg:List Reg} {ε:Env} {w:World} {o:Obj} (hM:RegsOk ε g.bM g.bL w rg) (hoff:∀ b,liveFp rg ε b→b≠g.D∧b≠g.D+1):RegsOk ε g.bM g.bL (w.putObj (g.D+1) o) rg:=by
 refine hM.world2 (by simp) (fun i r hi hl b hf _=>?_)
 exact World.putObj_heap_other (hoff b ⟨i,r,hi,hl,hf⟩).2
def Rng.b0 (g:Rng) (rg:List Reg) (ε:Env) (w:World):Base:={ w:=w,e:=g.hs0,m:=exclFp rg ε,l:=liveFp rg ε,ro:=some (g.D+1),d:=[] }
theorem prefix_at {l:List Value} {ε:Env} (h:l <+: ε.hs) {r:Nat} (hr:r<l.length):ε.at_ r=l.getD r (.slice none 0 0):=by
 obtain ⟨t,ht⟩:=h
 have h1:ε.hs[r]?=some l[r]:=by rw [← ht,List.getElem?_append_left hr,List.getElem?_eq_getElem hr]
 unfold Env.hs at h1
 rw [List.getElem?_map] at h1
 cases h2:ε[r]? with
 | none=>rw [h2] at h1;cases h1
 | some x =>
   rw [h2] at h1
   simp only [Option.map_some,Option.some.injEq] at h1
   unfold Env.at_
   rw [ent_get h2,h1,List.getD_eq_getElem?_getD,List.getElem?_eq_getElem hr]
   rfl
def keepsFr (p N nf:Nat) (fr:List En):Bool:=fr.all fun e=>e.g.isEmpty&&!(Nat.beq e.slot p)&&Nat.blt e.slot N&&e.sv.scp nf
def roundSt (g:Rng) (N:Nat) (fr:List En) (v:SV) (rg:List Reg):St:={ N,fr:={ slot:=g.p,g:=[],sv:=v }::fr,rg,wr:=[1000000007] }
section
variable {P:Program}
theorem fr_two {m m':Nat→Prop} {w w1 w2:World} (h1:Fr m w w1) (h2:Fr m' w1 w2) (hm:∀ b,m' b→b<w.heap.size→m b):Fr m w w2:=
 h1.step h2.os h2.tape h2.output h2.size (fun k hk hn=>h2.block k (Nat.lt_of_lt_of_le hk h1.size) (fun h=>hn (hm k h hk)))
theorem Fr.put {m:Nat→Prop} {w:World} {r:Nat} (o:Obj) (hm:m r):Fr m w (w.putObj r o):=
 ⟨rfl,rfl,rfl,by simp,fun k _ hn=>World.putObj_heap_other (fun e=>hn (e▸hm))⟩
theorem Rng.round (g:Rng) {X:Type} {I:X→List Reg} {J:Nat→X→Prop} {Jx:Code→X→Prop} {fn:Func} {n N nf:Nat} {enc:Nat→SV} {fr0:List En} {stA:Nat→X→St}
 (hnf:g.hs0.length=nf) (hN:g.tmps.size=N) (hp:g.p<N) (hk0:keepsFr g.p N nf fr0=true) (hget:∀ e∈fr0,∀ ε:Env,g.hs0 <+: ε.hs→g.tmps.getD e.slot undef=e.sv.den ε)
 (hbM:∀ b,g.W1.heap.size≤b→g.bM b) (hbL:∀ b,g.W1.heap.size≤b→g.bL b) (henc:∀ k,(enc k).scp 0=true)
 (hassign:∀ k x,k<n→J k x→RunF P fn nf (fun _ _ _ _=>False) ⟨[.code g.assign,.jmp (AtSt (fun _:Unit=>stA k x) (fun _=>True))],roundSt g N fr0 (enc k) (I x)⟩)
 (hrd:∀ k x,(stA k x).rd=true)
 (hbody:∀ k x,k<n→J k x→RunF P fn nf (Tround I (J (k+1)) Jx) ⟨[.code g.body,.jmp (fun b _ w=>RegsAt I (J (k+1)) b w)],stA k x⟩)
 {k:Nat} {fp:Nat→Prop} {w:World} (hk:k<n) (hG:g.G I J Jx k true fp w) :
 YieldAt Fence.wide 0 P (g.D+1) #[(enc k).den []] w fun e w'=>∃ (al:Bool) (fp':Nat→Prop),e=.returned (.bool al)∧g.G I J Jx (k+1) al fp' w' ∧
  (∀ b,fp' b→(fp b∨w.heap.size≤b)∧b<w'.heap.size)∧Fr fp w w':=by
 obtain ⟨x,ε,hfp,⟨_,hJ,hA⟩ | ⟨h,_⟩⟩:=hG
 case inr=>cases h
 have hDlt:g.D+1<w.heap.size:=(Array.getElem?_eq_some_iff.1 hA.loop).1
 refine ⟨_,_,_,_,run_yield hA.loop rfl,roundIn_of_wpIn trivial ?_⟩
 let B1:Base:=g.b0 (I x) ε w
 have hM1:∀ b,B1.M b→w.heap.size≤b∨exclFp (I x) ε b:=fun b h=>h
 have hL1:∀ b,B1.L b→w.heap.size≤b∨liveFp (I x) ε b:=fun b h=>h
 have hsat1:SatE B1 (roundSt g N fr0 (enc k) (I x)) ε { tmps:=((#[g.p].zip #[(enc k).den []]).foldl (fun t (p,v)=>t.setIfInBounds p v) g.tmps),defers:=[] } w:=by
  have hz:((#[g.p].zip #[(enc k).den []]).foldl (fun (t:Array Value) (p,v)=>t.setIfInBounds p v) g.tmps)=g.tmps.setIfInBounds g.p ((enc k).den []):=by simp
  rw [hz]
  refine ⟨⟨rfl,fun h=>by cases h⟩,by simp [hN,roundSt],fun e he=>?_,hA.regs.narrow (fun i r h1 h2 b h3=>.inr ⟨i,r,h1,h2,h3⟩) (fun i r h1 h2 b h3=>.inr ⟨i,r,h1,h2,h3⟩),Fr.refl _ _,hA.hs⟩
  cases he with
  | head =>
    refine ⟨hp,fun _=>?_,fun hn=>absurd (gHolds_nil _) hn⟩
    unfold get
    simp only [Array.getD_eq_getD_getElem?]
    rw [Array.getElem?_setIfInBounds_self_of_lt (by rw [hN];exact hp)]
    exact sden_same (henc k) (fun r hr=>absurd hr (by omega))
  | tail _ he =>
    have h1:=List.all_eq_true.1 hk0 e he
    simp only [Bool.and_eq_true,Bool.not_eq_true'] at h1
    obtain ⟨⟨⟨h1,h2⟩,h3⟩,h4⟩:=h1
    have hg:e.g=[]:=by cases hh:e.g with
     | nil=>rfl
     | cons a l=>rw [hh] at h1;cases h1
    refine ⟨Nat.le_of_ble_eq_true h3,fun _=>?_,fun hn=>absurd (by rw [hg];exact gHolds_nil _) hn⟩
    unfold get
    simp only [Array.getD_eq_getD_getElem?]
    rw [Array.getElem?_setIfInBounds_ne (fun e'=>by rw [← e',Nat.beq_refl] at h2;cases h2)]
    have:=hget e he ε hA.hs
    rw [Array.getD_eq_getD_getElem?] at this
    exact this
 have hassign1:=hassign k x hk hJ
 unfold RunF at hassign1
 have hrun1:=hassign1 B1 hnf _ w ⟨ε,hsat1⟩
 have hbody1:=hbody k x hk hJ
 unfold RunF at hbody1
 refine wpIn_mono hrun1 (fun e a1 w1 hq=>?_)
 cases e with
 | normal =>
   obtain ⟨_,_,ε1,hs1⟩:=hq
   have hM1':∀ b,exclFp (stA k x).rg ε1 b→w.heap.size≤b∨exclFp (I x) ε b:=fun b h=>hs1.regs.M_of h
   have hL1':∀ b,liveFp (stA k x).rg ε1 b→w.heap.size≤b∨liveFp (I x) ε b:=fun b h=>(hs1.regs.L_of h).2
   have hfr1:Fr (exclFp (I x) ε) w w1:=hs1.below
   have hnx:∀ b,b=g.D∨b=g.D+1→¬ exclFp (I x) ε b:=fun b hb h=>by
    have:=hA.off b (exclFp_live h)
    rcases hb with hb | hb
    ·exact this.1 hb
    ·exact this.2 hb
   have hl1:w1.heap[g.D+1]?=some (.loop (g.lp .ready none)):=(hfr1.block _ hDlt (hnx _ (.inr rfl))).trans hA.loop
   have hd1:w1.heap[g.D]?=some (.deferred (some [])):=(hfr1.block _ (by omega) (hnx _ (.inl rfl))).trans hA.mrk
   refine ⟨_,run_beginRound hl1 rfl,?_⟩
   generalize hw2:w1.putObj (g.D+1) (.loop { g.lp .ready none with state:=.busy })=w2
   have hsz2:w2.heap.size=w1.heap.size:=by rw [← hw2];simp
   have hoff1:∀ b,liveFp (stA k x).rg ε1 b→b≠g.D∧b≠g.D+1:=fun b h=>by
    rcases hL1' b h with h | h
    ·omega
    ·exact hA.off b h
   have hregs2:RegsOk ε1 B1.M B1.L w2 (stA k x).rg:=by
    rw [← hw2]
    exact Rng.At.put (g:={ g with bM:=B1.M,bL:=B1.L }) hs1.regs hoff1
   let B2:Base:=g.b0 (stA k x).rg ε1 w2
   have hsat2:SatE B2 (stA k x) ε1 a1 w2:=
    ⟨⟨hs1.defs.1,fun h=>by rw [hrd] at h;cases h⟩,hs1.size,hs1.fr,hregs2.narrow (fun i r h1 h2 b h3=>.inr ⟨i,r,h1,h2,h3⟩) (fun i r h1 h2 b h3=>.inr ⟨i,r,h1,h2,h3⟩),Fr.refl _ _,hs1.pre⟩
   have hl2:w2.heap[g.D+1]?=some (.loop (g.lp .busy none)):=by
    rw [← hw2];exact World.putObj_heap_same (Nat.lt_of_lt_of_le hDlt hfr1.size)
   have hd2:w2.heap[g.D]?=some (.deferred (some [])):=by
    rw [← hw2];exact (World.putObj_heap_other (by omega)).trans hd1
   have hfp2:∀ b,fp b↔(b=g.D∨b=g.D+1∨(liveFp (I x) ε b∧¬ g.ro b)):=hfp
   have hexfp:∀ b,exclFp (I x) ε b→fp b:=fun b h=>(hfp2 b).2 (.inr (.inr ⟨exclFp_live h,hA.excl b h⟩))
   have hfr2:Fr fp w w2:=by
    rw [← hw2]
    refine Fr.step (w:=w1) ⟨hfr1.os,hfr1.tape,hfr1.output,hfr1.size,fun b hb hn=>hfr1.block b hb (fun h=>hn (hexfp b h))⟩ rfl rfl rfl (by simp) (fun b hb hn=>World.putObj_heap_other (fun e=>hn ((hfp2 b).2 (.inr (.inl e)))))
   refine wpIn_mono (hbody1 B2 hnf a1 w2 ⟨ε1,hsat2⟩) (fun e a3 w3 hq3=>?_)
   have hend:∀ (K:X→Prop) (jump:Option Code) (x3:X) (ε3:Env),g.hs0 <+: ε3.hs→RegsOk ε3 B2.M B2.L w3 (I x3)→Fr B2.m B2.w w3 →
    w3.heap[g.D+1]?=some (.loop (g.lp .busy none)) ∧
    (∀ w4,w4=w3.putObj (g.D+1) (.loop (g.lp (if jump.isNone then .ready else .done) jump)) →
      g.At (I x3) ε3 (if jump.isNone then .ready else .done) jump w4∧(∀ b,g.fpOf (I x3) ε3 b→(fp b∨w.heap.size≤b)∧b<w4.heap.size)∧Fr fp w w4):=by
    intro K jump x3 ε3 hp3 hr3 hf3
    have hM3:∀ b,exclFp (I x3) ε3 b→w.heap.size≤b∨exclFp (I x) ε b:=fun b h=>by
     rcases hr3.M_of h with h | h
     ·exact .inl (Nat.le_trans hfr1.size (hsz2▸h))
     ·exact hM1' b h
    have hL3:∀ b,liveFp (I x3) ε3 b→b<w3.heap.size∧(w.heap.size≤b∨liveFp (I x) ε b):=fun b h=>by
     obtain ⟨h1,h2⟩:=hr3.L_of h
     refine ⟨h1,?_⟩
     rcases h2 with h | h
     ·exact .inl (Nat.le_trans hfr1.size (hsz2▸h))
     ·exact hL1' b h
    have hf3':Fr (exclFp (stA k x).rg ε1) w2 w3:=hf3
    have hn2:∀ b,b<w.heap.size→¬ exclFp (I x) ε b→¬ exclFp (stA k x).rg ε1 b:=fun b hb hn h=>by
     rcases hM1' b h with h | h
     ·omega
     ·exact hn h
    have hfr3:Fr fp w w3:=hfr2.step hf3'.os hf3'.tape hf3'.output hf3'.size (fun b hb hn=>hf3'.block b (Nat.lt_of_lt_of_le hb hfr2.size) (hn2 b hb (fun h=>hn (hexfp b h))))
    have hl3:w3.heap[g.D+1]?=some (.loop (g.lp .busy none)):=(hf3'.block _ (Nat.lt_of_lt_of_le hDlt hfr2.size) (hn2 _ hDlt (hnx _ (.inr rfl)))).trans hl2
    have hd3:w3.heap[g.D]?=some (.deferred (some [])):=(hf3'.block _ (Nat.lt_of_lt_of_le (by omega) hfr2.size) (hn2 _ (by omega) (hnx _ (.inl rfl)))).trans hd2
    refine ⟨hl3,fun w4 hw4=>?_⟩
    have hoff3:∀ b,liveFp (I x3) ε3 b→b≠g.D∧b≠g.D+1:=fun b h=>by
     rcases (hL3 b h).2 with h | h
     ·omega
     ·exact hA.off b h
    have hsz4:w4.heap.size=w3.heap.size:=by rw [hw4];simp
    refine ⟨⟨hp3,?_,fun b h hro=>?_,?_,?_,hoff3,fun b hro=>?_,?_,hA.old⟩,fun b h=>?_,?_⟩
    ·have hn:RegsOk ε3 g.bM g.bL w3 (I x3):=hr3.narrow (fun i r h1 h2 b h3=>by
      rcases hM3 b ⟨i,r,h1,h2,h3⟩ with h | h
      ·exact hbM b (Nat.le_trans hA.size h)
      ·exact hA.regs.M_of h)
      (fun i r h1 h2 b h3=>by
        rcases (hL3 b ⟨i,r,h1,h2,h3⟩).2 with h | h
        ·exact hbL b (Nat.le_trans hA.size h)
        ·exact (hA.regs.L_of h).2)
     rw [hw4]
     exact Rng.At.put hn hoff3
    ·rcases hM3 b h with h | h
     ·have:=hA.old b hro;omega
     ·exact hA.excl b h hro
    ·rw [hw4];exact World.putObj_heap_same (Array.getElem?_eq_some_iff.1 hl3).1
    ·rw [hw4];exact (World.putObj_heap_other (by omega)).trans hd3
    ·have hb:=hA.old b hro
     have hnf:¬ fp b:=fun h=>by
      rcases (hfp2 b).1 h with h | h | h
      ·omega
      ·omega
      ·exact h.2 hro
     rw [hw4,World.putObj_heap_other (by omega),hfr3.block b (by omega) hnf]
     exact hA.same b hro
    ·rw [hsz4];exact Nat.le_trans hA.size hfr3.size
    ·rcases h with h | h | ⟨h1,h2⟩
     ·exact ⟨.inl ((hfp2 b).2 (.inl h)),by rw [hsz4,h];exact Nat.lt_of_lt_of_le (by omega) hfr3.size⟩
     ·exact ⟨.inl ((hfp2 b).2 (.inr (.inl h))),by rw [hsz4,h];exact Nat.lt_of_lt_of_le hDlt hfr3.size⟩
     ·refine ⟨?_,by rw [hsz4];exact (hL3 b h1).1⟩
      rcases (hL3 b h1).2 with h | h
      ·exact .inr h
      ·exact .inl ((hfp2 b).2 (.inr (.inr ⟨h,h2⟩)))
    ·rw [hw4]
     exact hfr3.step rfl rfl rfl (by simp) (fun b hb hn=>World.putObj_heap_other (fun e=>hn ((hfp2 b).2 (.inr (.inl e)))))
   cases e with
   | normal =>
     have hq3':RegsAt I (J (k+1)) B2 w3:=hq3
     obtain ⟨x3,ε3,hJ3,hp3,hr3,hf3⟩:=hq3'
     obtain ⟨h1,h2⟩:=hend (J (k+1)) none x3 ε3 hp3 hr3 hf3
     obtain ⟨h3,h4,h5⟩:=h2 _ rfl
     exact ⟨_,_,run_endRound none h1,true,_,rfl,⟨x3,ε3,fun b=>Iff.rfl,.inl ⟨rfl,hJ3,h3⟩⟩,h4,h5⟩
   | ret =>
     have hq3':RegsAt I (Jx .ret) B2 w3:=hq3
     obtain ⟨x3,ε3,hJ3,hp3,hr3,hf3⟩:=hq3'
     obtain ⟨h1,h2⟩:=hend (J (k+1)) (some .ret) x3 ε3 hp3 hr3 hf3
     obtain ⟨h3,h4,h5⟩:=h2 _ rfl
     exact ⟨_,_,run_endRound (some .ret) h1,false,_,rfl,⟨x3,ε3,fun b=>Iff.rfl,.inr ⟨rfl,.ret,hJ3,h3⟩⟩,h4,h5⟩
   | exit id =>
     have hq3':RegsAt I (Jx (.exit id)) B2 w3:=hq3
     obtain ⟨x3,ε3,hJ3,hp3,hr3,hf3⟩:=hq3'
     obtain ⟨h1,h2⟩:=hend (J (k+1)) (some (.exit id)) x3 ε3 hp3 hr3 hf3
     obtain ⟨h3,h4,h5⟩:=h2 _ rfl
     exact ⟨_,_,run_endRound (some (.exit id)) h1,false,_,rfl,⟨x3,ε3,fun b=>Iff.rfl,.inr ⟨rfl,.exit id,hJ3,h3⟩⟩,h4,h5⟩
   | _=>exact hq3.elim
 | _=>exact hq.elim
end
def keepFr (nf:Nat) (fr:List En):List En:=fr.filter fun e=>e.g.isEmpty&&e.sv.scp nf
def K.isJmp:K→Bool
 | .jmp _=>true
 | _=>false
def Cfg.rgF (P:Program) (c:Cfg) (st:St):Option (Nat×List Nat):=match (seg P 5000 c.k c.st).2 with
 | .range f [p] _ _ k _=>match k.any K.isJmp,Nat.blt p st.N,opndC st [] f with
   | false,true,some (.fn fi false caps)=>some (fi,caps)
   | _,_,_=>none
 | _=>none
def Cfg.rgA (P:Program) (c:Cfg) (J:Base→Act→World→Prop) (st:St) (nf:Nat) (v:SV) (rg:List Reg):Cfg:=match (seg P 5000 c.k c.st).2 with
 | .range _ [p] assign _ _ _=>⟨[.code assign,.jmp J],{ N:=st.N,fr:={ slot:=p,g:=[],sv:=v }::(keepFr nf st.fr).filter (fun e=>!(Nat.beq e.slot p)),rg,wr:=[1000000007] }⟩
 | _=>noCfg
def Cfg.rgB (P:Program) (c:Cfg) (J:Base→Act→World→Prop) (st:St):Cfg:=match (seg P 5000 c.k c.st).2 with
 | .range _ _ _ body _ _=>⟨[.code body,.jmp J],st⟩
 | _=>noCfg
def Cfg.rgK (P:Program) (c:Cfg) (st:St) (nf:Nat) (rg:List Reg):Cfg:=match (seg P 5000 c.k c.st).2 with
 | .range _ _ _ _ k _=>⟨k,{ N:=st.N,fr:=keepFr nf st.fr,rg,wr:=st.wr }⟩
 | _=>noCfg
def Cfg.rgC (P:Program) (c:Cfg) (cd:Code) (st:St) (nf:Nat) (rg:List Reg):Cfg:=match (seg P 5000 c.k c.st).2 with
 | .range _ _ _ _ k _=>⟨.code cd::k,{ N:=st.N,fr:=keepFr nf st.fr,rg,wr:=st.wr }⟩
 | _=>noCfg
def RangeEnd (X:Ext) (m:Nat):SV→List Reg→Prop:=fun _ post=>∃ (k:Nat) (al:Bool),(al=true→k=X.n)∧post[m]?=some (.ext X k al)
theorem contQ_base {P:Program} [hw:Wide P] {b b':Base} {Q Q':Exit→Act→World→Prop} (hro:b'.ro=b.ro) (h:∀ e a w,Q' e a w→Q e a w):∀ (k:List K),k.any K.isJmp=false→∀ e a w,contQ P b' Q' k e a w→contQ P b Q k e a w
 | [],_,e,a,w,hq=>h e a w hq
 | x::k,hj,e,a,w,hq=>by
   simp only [List.any_cons,Bool.or_eq_false_iff] at hj
   have ih:=contQ_base (P:=P) hro h k hj.2
   have h1:kpost P b' x (contQ P b Q k) e a w:=kpost_mono ih x e a w hq
   have h2:kpost P b x (contQ P b Q k) e a w:=by
    cases x with
    | jmp J=>cases hj.1
    | code c=>simp only [kpost,hro] at h1 ⊢;exact h1
    | rnd body n=>simp only [kpost,hro] at h1 ⊢;exact h1
    | _=>exact h1
   exact h2
theorem shut_append {ds es:List Nat} {w:World}:shut (ds++es) w=shut es (shut ds w):=by
 unfold shut;rw [List.foldl_append]
theorem Rt.unmark {P:Program} {fn:Func} {S:SV→List Reg→Prop} {b:Base} {D:Nat} {w4:World} {b':Base} (hb':b'={ w:=w4,e:=b.e,m:=fun g=>b.M g∧g≠D∧g≠D+1,l:=fun g=>b.L g∧g≠D∧g≠D+1,ro:=b.ro,d:=mark D::b.d })
 (hD:b.w.heap.size≤D) (hD4:D<w4.heap.size) (hd:w4.heap[D]?=some (.deferred (some []))) (hfr:Fr b.m b.w w4) (e:Exit) (a:Act) (w:World) (h:Rt P fn S b' e a w):Rt P fn S b e a w:=by
 subst hb'
 have main:∀ (ds:List Nat) (v:Value),a.defers=ds.map mark++(mark D::b.d)→ds.Nodup→(∀ D'∈ds,w4.heap.size≤D'∧w.heap[D']?=some (.deferred (some []))) →
  (∀ Ds:List Nat,(∀ D'∈Ds,D'<w4.heap.size∧¬ (b.L D'∧D'≠D∧D'≠D+1))→(results fn a.tmps).run P (shut Ds (shut ds w))=.ok v (shut Ds (shut ds w))) →
  Rets { w:=w4,e:=b.e,m:=fun g=>b.M g∧g≠D∧g≠D+1,l:=fun g=>b.L g∧g≠D∧g≠D+1,ro:=b.ro,d:=mark D::b.d } S (.returned v) (shut ds w) →
  ∃ (ds:List Nat) (v:Value),a.defers=ds.map mark++b.d∧ds.Nodup∧(∀ D∈ds,b.w.heap.size≤D∧w.heap[D]?=some (.deferred (some []))) ∧
  (∀ Ds:List Nat,(∀ D∈Ds,D<b.w.heap.size∧¬ b.l D)→(results fn a.tmps).run P (shut Ds (shut ds w))=.ok v (shut Ds (shut ds w)))∧Rets b S (.returned v) (shut ds w):=by
  intro ds v h1 h2 h3 h4 h5
  have hn:D ∉ ds:=fun h=>by have:=(h3 D h).1;omega
  obtain ⟨res,post,ε',hS,hv,hpre,hreg,hfr'⟩:=h5
  have hfr'':Fr (fun g=>b.M g∧g≠D∧g≠D+1) w4 (shut ds w):=hfr'
  have hdw:w.heap[D]?=some (.deferred (some [])):=by
   rw [← shut_other (ds:=ds) hn]
   exact (hfr''.block D hD4 (fun h=>h.2.1 rfl)).trans hd
  refine ⟨ds++[D],v,by simp [h1],?_,fun D' hD'=>?_,fun Ds hDs=>?_,?_⟩
  ·rw [List.nodup_append]
   exact ⟨h2,by simp,fun x hx y hy=>by
    have:y=D:=by simpa using hy
    subst this
    exact fun e=>hn (e▸hx)⟩
  ·rcases List.mem_append.1 hD' with h | h
   ·exact ⟨Nat.le_trans hfr.size (h3 D' h).1,(h3 D' h).2⟩
   ·have:D'=D:=by simpa using h
    subst this
    exact ⟨hD,hdw⟩
  ·have:=h4 (D::Ds) (fun D' hD'=>by
    cases hD' with
    | head=>exact ⟨hD4,fun h=>h.2.1 rfl⟩
    | tail _ hD' =>
      obtain ⟨h6,h7⟩:=hDs D' hD'
      refine ⟨Nat.lt_of_lt_of_le h6 hfr.size,fun h=>?_⟩
      rcases h.1 with h | h
      ·omega
      ·exact h7 h)
   rw [shut_append]
   exact this
  ·have hwD:shut (ds++[D]) w=(shut ds w).putObj D (.deferred none):=by rw [shut_append];rfl
   have hlv:∀ (i:Nat) (r:Reg),post[i]?=some r→r.live=true→∀ k,ε'.fp i k→k≠D:=fun i r hi hl k hk e=>by
    rcases (hreg.lt i r hi hl k hk).2 with h | h
    ·subst e;exact absurd hD4 (Nat.not_lt.2 h)
    ·exact h.2.1 e
   refine ⟨res,post,ε',hS,hv,hpre,?_,?_⟩
   ·rw [hwD]
    have h6:=hreg.world2 (w':=(shut ds w).putObj D (.deferred none)) (by simp) (fun i r hi hl k hk _=>World.putObj_heap_other (hlv i r hi hl k hk))
    refine h6.narrow (fun i r hi he k hk=>?_) (fun i r hi hl k hk=>?_)
    ·rcases hreg.lim i r hi he k hk with h | h
     ·exact .inl (Nat.le_trans hfr.size h)
     ·exact h.1
    ·rcases (hreg.lt i r hi hl k hk).2 with h | h
     ·exact .inl (Nat.le_trans hfr.size h)
     ·exact h.1
   ·rw [hwD]
    refine (fr_two hfr hfr'' (fun k hk hlt=>?_)).step rfl rfl rfl (by simp) (fun k hk hm=>World.putObj_heap_other (by omega))
    rcases hk.1 with h | h
    ·omega
    ·exact h
 cases e with
 | normal=>obtain ⟨ds,v,h1,h2,h3,h4,h5⟩:=h;exact main ds v h1 h2 h3 h4 h5
 | ret=>obtain ⟨ds,v,h1,h2,h3,h4,h5⟩:=h;exact main ds v h1 h2 h3 h4 h5
 | _=>exact h.elim
theorem given_ext {pre:List Reg} {ε0 ε1:Env} {w W1:World} {X:Ext} {hv fv:Value} {fp:Nat→Prop} (hpre:pre.all (fun r=>!r.excl)=true) (hsc:pre.all (Reg.scp pre.length)=true)
 (hg:RegsOk ε0 (Base.at_ pre ε0 w).M (Base.at_ pre ε0 w).L w pre) (hsz:w.heap.size≤W1.heap.size) (hsame:∀ k,k<w.heap.size→W1.heap[k]?=w.heap[k]?)
 (hε1:ε1=ε0++[⟨fv,X.ro⟩,⟨hv,fp⟩]) (hro:∀ (i:Nat) (r:Reg),pre[i]?=some r→r.live=true→∀ k,ε0.fp i k→X.ro k) (hro2:∀ k,X.ro k→k<W1.heap.size∧W1.heap[k]?=X.w0.heap[k]?)
 (hh:hv=.func (.yield X.l) #[] #[]) (hG:X.G 0 true fp W1) (hfp:∀ k,fp k→k<W1.heap.size∧¬ X.ro k) :
 RegsOk ε1 (Base.at_ (pre++[.froz X,.ext X 0 true]) ε1 W1).M (Base.at_ (pre++[.froz X,.ext X 0 true]) ε1 W1).L W1 (pre++[.froz X,.ext X 0 true]):=by
 have hlen:=hg.len
 have eOld:∀ i,i<pre.length→Env.ent ε1 i=ε0.ent i:=fun i hi=>by
  unfold Env.ent
  rw [hε1,List.getD_eq_getElem?_getD,List.getD_eq_getElem?_getD,List.getElem?_append_left (by omega)]
 have eF:Env.ent ε1 pre.length=⟨fv,X.ro⟩:=by
  unfold Env.ent
  rw [hε1,List.getD_eq_getElem?_getD,List.getElem?_append_right (by omega),hlen]
  simp
 have eX:Env.ent ε1 (pre.length+1)=⟨hv,fp⟩:=by
  unfold Env.ent
  rw [hε1,List.getD_eq_getElem?_getD,List.getElem?_append_right (by omega),hlen]
  simp
 have cases3:∀ (i:Nat) (r:Reg),(pre++[.froz X,.ext X 0 true])[i]?=some r→(i<pre.length∧pre[i]?=some r)∨(i=pre.length∧r=.froz X)∨(i=pre.length+1∧r=.ext X 0 true):=fun i r hi=>by
  by_cases h:i<pre.length
  ·rw [List.getElem?_append_left h] at hi;exact .inl ⟨h,hi⟩
  ·rw [List.getElem?_append_right (by omega)] at hi
   by_cases h2:i=pre.length
   ·subst h2;simp at hi;exact .inr (.inl ⟨rfl,hi.symm⟩)
   ·by_cases h3:i=pre.length+1
    ·subst h3;simp at hi;exact .inr (.inr ⟨rfl,hi.symm⟩)
    ·have:i-pre.length=(i-pre.length-2)+2:=by omega
     rw [this] at hi;simp at hi
 have hnx:∀ (i:Nat) (r:Reg),pre[i]?=some r→r.excl=false:=fun i r hi=>by simpa using List.all_eq_true.1 hpre r (List.mem_of_getElem? hi)
 have hlt:∀ (i:Nat) (r:Reg),(pre++[.froz X,.ext X 0 true])[i]?=some r→r.live=true→∀ k,Env.fp ε1 i k→k<W1.heap.size:=fun i r hi hl k hk=>by
  unfold Env.fp at hk
  rcases cases3 i r hi with ⟨h1,h2⟩ | ⟨rfl,rfl⟩ | ⟨rfl,rfl⟩
  ·rw [eOld i h1] at hk
   exact Nat.lt_of_lt_of_le (hg.lt i r h2 hl k hk).1 hsz
  ·rw [eF] at hk;exact (hro2 k hk).1
  ·rw [eX] at hk;exact (hfp k hk).1
 refine ⟨by rw [hε1];simp [hlen],fun i r hi=>?_,fun i r hi hl k hk=>⟨hlt i r hi hl k hk,.inr ⟨i,r,hi,hl,hk⟩⟩,fun i r hi he k hk=>.inr ⟨i,r,hi,he,hk⟩,fun i j ri rj hij hi hj he hl k hk hk'=>?_⟩
 ·rcases cases3 i r hi with ⟨h1,h2⟩ | ⟨rfl,rfl⟩ | ⟨rfl,rfl⟩
  ·rw [eOld i h1]
   have h3:RegOk ε0 (Base.at_ pre ε0 w).M W1 (ε0.ent i) r:=RegOk.world (hg.reg i r h2) hsz (fun k hk hl hlt=>hsame k hlt)
   have h4:=RegOk.same (ε':=ε1) h3 (List.all_eq_true.1 hsc r (List.mem_of_getElem? h2)) (fun q hq=>by unfold Env.at_;rw [eOld q hq])
   exact RegOk.reM (fun h=>by rw [hnx i r h2] at h;cases h) h4
  ·rw [eF];exact fun k hk=>⟨hk,hro2 k hk⟩
  ·rw [eX];exact ⟨hh,W1,hG,Nat.le_refl _,fun k hk=>⟨(hfp k hk).1,rfl⟩⟩
 ·unfold Env.fp at hk hk'
  rcases cases3 i ri hi with ⟨h1,h2⟩ | ⟨rfl,rfl⟩ | ⟨rfl,rfl⟩
  ·rw [hnx i ri h2] at he;cases he
  ·cases he
  ·rw [eX] at hk
   rcases cases3 j rj hj with ⟨h1,h2⟩ | ⟨rfl,rfl⟩ | ⟨rfl,rfl⟩
   ·rw [eOld j h1] at hk'
    exact (hfp k hk).2 (hro j rj h2 hl k hk')
   ·rw [eF] at hk';exact (hfp k hk).2 hk'
   ·exact hij rfl
section
variable {P:Program} [hw:Wide P] {fn:Func} {n0:Nat} {c:Cfg} {vc:List Prop}
theorem RunF.range {S:SV→List Reg→Prop} {X:Type} {I:X→List Reg} {J:Nat→X→Prop} {Jx:Code→X→Prop} {n nf fi:Nat} {enc:Nat→SV} {stA:Nat→X→St} {preI:List Reg} {argsI:List SV} {caps:List Nat}
 (x0:X) (st':St) (π σ:List Nat) {E E2:List F} (h:see P fn c=(vc,.range)) (hv:Conj vc)
 (he:ent n0 π (c.at P) st'=some E) (hE:AllF E) (hf:c.rgF P st'=some (fi,caps)) (hen:Enters P fi)
 (hI:st'.rg=I x0) (hrd:st'.rd=false) (hn0:Nat.ble n0 nf=true) (hnf:Nat.ble nf st'.rg.length=true) (hle:Nat.ble st'.rg.length 1000000=true) (hJ:J 0 x0)
 (hc:callEnt false σ st' preI argsI (caps.map fun r=>.c (if isVar st' r then .p r 0 else .h r))=some E2) (hE2:AllF E2)
 (hpre:preI.all (fun r=>!r.excl)=true) (hσ:σ.all (fun q=>match nth st'.rg q with | some h=>!h.excl&&h.live | none=>true)=true)
 (henc:∀ k,(enc k).scp 0=true)
 (hit:∀ Xe:Ext,Xe.n=n→Xe.enc=enc→Xe.Yields P→Ctr P fi (preI++[.froz Xe,.ext Xe 0 true]) (.c (.h (preI.length+1))::argsI) (RangeEnd Xe (preI.length+1)))
 (hassign:∀ k x,k<n→J k x→RunF P fn nf (fun _ _ _ _=>False) (c.rgA P (AtSt (fun _:Unit=>stA k x) (fun _=>True)) st' nf (enc k) (I x)))
 (hrdA:∀ k x,(stA k x).rd=true)
 (hbody:∀ k x,k<n→J k x→RunF P fn nf (Tround I (J (k+1)) Jx) (c.rgB P (fun b _ w=>RegsAt I (J (k+1)) b w) (stA k x)))
 (hdone:∀ x,J n x→RunF P fn n0 (Rt P fn S) (c.rgK P st' nf (I x)))
 (hstop:∀ cd x,Jx cd x→RunF P fn n0 (Rt P fn S) (c.rgC P cd st' nf (I x))):RunF P fn n0 (Rt P fn S) c:=by
 unfold RunF
 intro b hb
 unfold see at h
 unfold Cfg.at at he
 unfold Cfg.rgF at hf
 unfold Cfg.rgA at hassign
 unfold Cfg.rgB at hbody
 unfold Cfg.rgK at hdone
 unfold Cfg.rgC at hstop
 generalize hg:seg P 5000 c.k c.st=rr at h he hf hassign hbody hdone hstop
 obtain ⟨vc',out⟩:=rr
 cases out<;>simp only [Prod.mk.injEq,reduceCtorEq,and_false] at h
 case range f params assign body k st =>
  obtain ⟨rfl,_⟩:=h
  cases params with
  | nil=>cases hf
  | cons p ps =>
  cases ps with
  | cons=>cases hf
  | nil =>
  simp only at hf he hassign hbody hdone hstop
  split at hf
  case h_2=>cases hf
  rename_i fi' caps' hj hp hop
  cases hf
  have hp:=Nat.le_of_ble_eq_true hp
  refine seg_sound hw.mixed 5000 _ _ _ _ hg hv.toAll (fun a w hs=>?_)
  obtain ⟨ε,hs⟩:=ent_sound hb he hE hs
  have hro:b.ro=none:=hs.defs.2 hrd
  have hε:ε.length≤1000000:=by rw [hs.regs.len];exact Nat.le_of_ble_eq_true hle
  have hval:=opndC_sound hs (gHolds_nil a) hop
  unfold callEnt at hc
  split at hc
  case isFalse=>cases hc
  rename_i hcc
  simp only [Bool.and_eq_true] at hcc
  obtain ⟨⟨⟨⟨c1,c2⟩,c3⟩,c4⟩,c5⟩:=hcc
  split at hc
  case h_2=>cases hc
  rename_i vc1 h1
  obtain ⟨vc2,h2,he2⟩:=map_nil hc
  subst he2
  have hE':=hE2
  have hl:=regsMatch_len h1
  have hτ:∀ r,r<preI.length→ε.at_ (at' σ r)=Env.at_ (σ.map ε.ent) r:=fun r hr=>by
   have hp:σ[r]?=some (σ[r]'(by omega)):=List.getElem?_eq_getElem (by omega)
   rw [at_map ε σ hp,at'_eq hp]
  have hnx:∀ (i:Nat) (r:Reg),preI[i]?=some r→r.excl=false:=fun i r hi=>by simpa using List.all_eq_true.1 hpre r (List.mem_of_getElem? hi)
  obtain ⟨hgiven,hreg⟩:=given hε hs.regs c1 (.inr fun p hp=>by simpa using List.all_eq_true.1 hpre p hp) h1 hE'.left (fun i q p hi _ hx=>by rw [hnx i p hi] at hx;cases hx)
  have hargs:(caps.map fun r=>SV.c (if isVar st' r then .p r 0 else .h r)).map (SV.den ε)=argsI.map (SV.den (σ.map ε.ent)):=by
   rw [← sEqs_sound (ε:=ε) hε h2 hE'.right,List.map_map]
   exact List.map_congr_left fun s hs'=>sden_ren hτ (List.all_eq_true.1 c2 s hs')
  have hcaps:caps.map ε.at_=(caps.map fun r=>SV.c (if isVar st' r then .p r 0 else .h r)).map (SV.den ε):=by
   rw [List.map_map]
   refine List.map_congr_left fun r _=>?_
   show ε.at_ r=SV.den ε (.c (if isVar st' r then .p r 0 else .h r))
   by_cases hv:isVar st' r=true
   ·rw [if_pos hv];exact (var_handle hs.regs hv).symm
   ·rw [if_neg hv];rfl
  generalize hD:w.heap.size=D
  have hbD:b.w.heap.size≤D:=hD▸hs.below.size
  generalize hxro:(fun k=>∃ (q:Nat) (r:Reg),st'.rg[q]?=some r∧r.live=true∧r.excl=false∧ε.fp q k)=xro
  have hxlt:∀ k,xro k→k<D∧∃ (q:Nat) (r:Reg),st'.rg[q]?=some r∧r.live=true∧r.excl=false∧ε.fp q k:=fun k hk=>by
   rw [← hxro] at hk
   obtain ⟨q,r,h3,h4,h5,h6⟩:=hk
   exact ⟨hD▸(hs.regs.lt q r h3 h4 k h6).1,q,r,h3,h4,h5,h6⟩
  have hseq:∀ fnid,Fence.wide.fn fnid→∃ g:Rng,g={ fn:=fnid,tmps:=a.tmps,p:=p,assign:=assign,body:=body,D:=D,W1:=(w.alloc (.deferred (some []))).alloc (.loop { state:=.ready,pending:=none,fn:=fnid,tmps:=a.tmps,params:=#[p],assign:=assign,body:=body,defers:=D }),hs0:=ε.hs.take nf,bM:=fun k=>b.M k∧k≠D∧k≠D+1,bL:=fun k=>b.L k∧k≠D∧k≠D+1,ro:=xro }:=fun fnid _=>⟨_,rfl⟩
  refine wpIn_rangeFunc (fun fnid hfn=>?_)
  obtain ⟨g,hgdef⟩:=hseq fnid trivial
  have gD:g.D=D:=by rw [hgdef]
  have gro:g.ro=xro:=by rw [hgdef]
  have hW1sz:g.W1.heap.size=D+2:=by rw [hgdef];simp [hD]
  have hsame:∀ k,k<D→g.W1.heap[k]?=w.heap[k]?:=fun k hk=>by
   rw [hgdef]
   exact (Below.heap_alloc _ _ _ (by simp;omega)).trans (Below.heap_alloc _ _ _ (by omega))
  have hmrk:g.W1.heap[D]?=some (.deferred (some [])):=by
   rw [hgdef]
   exact (Below.heap_alloc _ _ _ (by simp;omega)).trans (by have:=World.alloc_heap_new w (.deferred (some []));rwa [hD] at this)
  have hloop:g.W1.heap[D+1]?=some (.loop (g.lp .ready none)):=by
   have:=World.alloc_heap_new (w.alloc (.deferred (some []))) (.loop (g.lp .ready none))
   rw [World.size_alloc,hD] at this
   rw [hgdef] at this ⊢
   exact this
  have hhs0:g.hs0=ε.hs.take nf:=by rw [hgdef]
  have hnfl:=Nat.le_of_ble_eq_true hnf
  have hn0l:=Nat.le_of_ble_eq_true hn0
  have hhl:g.hs0.length=nf:=by rw [hhs0,List.length_take];simp [Env.hs,hs.regs.len];omega
  have hfrW1:Fr (fun _=>False) w g.W1:=⟨by rw [hgdef];rfl,by rw [hgdef];rfl,by rw [hgdef];rfl,by rw [hW1sz];omega,fun k hk _=>hsame k (hD▸hk)⟩
  have hoff:∀ k,liveFp (I x0) ε k→k≠D∧k≠D+1:=fun k ⟨i,r,h3,h4,h5⟩=>by
   have:=(hs.regs.lt i r (hI▸h3) h4 k h5).1
   omega
  have hexro:∀ k,exclFp (I x0) ε k→¬ xro k:=fun k ⟨i,r,h3,h4,h5⟩ hk=>by
   obtain ⟨_,q,r',h6,h7,h8,h9⟩:=hxlt k hk
   have hiq:i≠q:=fun e=>by subst e;rw [hI,h3] at h6;cases h6;rw [h4] at h8;cases h8
   exact hs.regs.sep i q r r' hiq (hI▸h3) h6 h4 h7 k h5 h9
  have hregW1:RegsOk ε b.M b.L g.W1 st'.rg:=hs.regs.world2 hfrW1.size (fun i r h1 h2 k h3 h4=>hsame k (hD▸h4))
  have hAt0:g.At (I x0) ε .ready none g.W1:=by
   refine ⟨by rw [hhs0];exact List.take_prefix _ _,?_,fun k h=>by rw [gro];exact hexro k h,by rw [gD];exact hloop,by rw [gD];exact hmrk,fun k h=>by rw [gD];exact hoff k h,fun _ _=>rfl,Nat.le_refl _,fun k h=>by rw [gD];rw [gro] at h;exact (hxlt k h).1⟩
   rw [← hI]
   rw [hgdef] at hregW1 ⊢
   exact hregW1.narrow (fun i r h1 h2 k h3=>⟨hs.regs.lim i r h1 h2 k h3,hoff k ⟨i,r,hI▸h1,excl_live h2,h3⟩⟩) (fun i r h1 h2 k h3=>⟨(hs.regs.lt i r h1 h2 k h3).2,hoff k ⟨i,r,hI▸h1,h2,h3⟩⟩)
  let Xe:Ext:={ l:=g.D+1,n:=n,enc:=enc,G:=g.G I J Jx,ro:=g.ro,w0:=g.W1 }
  have hkf:keepsFr g.p st'.N nf ((keepFr nf st'.fr).filter (fun e=>!(Nat.beq e.slot p)))=true:=by
   refine List.all_eq_true.2 fun e he=>?_
   obtain ⟨h3,h4⟩:=List.mem_filter.1 he
   obtain ⟨h5,h6⟩:=List.mem_filter.1 h3
   rw [Bool.and_eq_true] at h6
   simp only [Bool.and_eq_true]
   refine ⟨⟨⟨h6.1,?_⟩,?_⟩,h6.2⟩
   ·rw [show g.p=p from by rw [hgdef]];exact h4
   ·have:=(hs.fr e h5).1;exact Nat.ble_eq_true_of_le this
  have hyields:Xe.Yields P:=by
   intro k fp w' hk hG hro' hdis
   obtain ⟨w1,hG1,hsz1,hb1⟩:=hG
   have hG2:g.G I J Jx k true fp w':=Rng.G.move hG1 hsz1 hb1 (fun k hk=>(hro' k hk).2)
   refine Rng.round g (fn:=fn) (n:=n) (N:=st'.N) (nf:=nf) (fr0:=(keepFr nf st'.fr).filter (fun e=>!(Nat.beq e.slot p))) (stA:=stA) hhl ?_ ?_ hkf ?_ ?_ ?_ henc ?_ hrdA ?_ (by exact hk) hG2
   ·rw [hgdef];exact hs.size
   ·rw [show g.p=p from by rw [hgdef]];exact hp
   ·intro e he ε' hpre'
    obtain ⟨h3,h4⟩:=List.mem_filter.1 he
    obtain ⟨h5,h6⟩:=List.mem_filter.1 h3
    rw [Bool.and_eq_true] at h6
    have hg0:e.g=[]:=by
     cases hh:e.g with
     | nil=>rfl
     | cons a l=>rw [hh] at h6;cases h6.1
    have h7:=(hs.fr e h5).2.1 (by rw [hg0];exact gHolds_nil a)
    have h8:g.tmps=a.tmps:=by rw [hgdef]
    rw [h8]
    refine h7.trans ?_
    refine sden_same h6.2 (fun r hr=>?_)
    rw [prefix_at (l:=g.hs0) hAt0.hs (by omega),prefix_at (l:=g.hs0) hpre' (by omega)]
   ·intro k hk;rw [hW1sz] at hk;rw [hgdef];exact ⟨.inl (by omega),by omega,by omega⟩
   ·intro k hk;rw [hW1sz] at hk;rw [hgdef];exact ⟨.inl (by omega),by omega,by omega⟩
   ·intro k x hk hJ'
    have:=hassign k x hk hJ'
    rw [show g.assign=assign from by rw [hgdef],show roundSt g st'.N _ (enc k) (I x)={ N:=st'.N,fr:={ slot:=p,g:=[],sv:=enc k }::(keepFr nf st'.fr).filter (fun e=>!(Nat.beq e.slot p)),rg:=I x,wr:=[1000000007] } from by unfold roundSt;rw [hgdef]]
    exact this
   ·intro k x hk hJ'
    have:=hbody k x hk hJ'
    rw [show g.body=body from by rw [hgdef]]
    exact this
  have hG0:g.G I J Jx 0 true (g.fpOf (I x0) ε) g.W1:=⟨x0,ε,fun _=>Iff.rfl,.inl ⟨rfl,hJ,hAt0⟩⟩
  have hgx:=given_ext (X:=Xe) (ε1:=σ.map ε.ent++[⟨undef,Xe.ro⟩,⟨.func (.yield Xe.l) #[] #[],g.fpOf (I x0) ε⟩]) (fv:=undef) hpre c1 hgiven hfrW1.size (fun k hk=>hfrW1.block k hk (fun h=>h)) rfl
   (fun i r hi hl k hk=>by
     show g.ro k
     rw [gro,← hxro]
     have hil:i<preI.length:=(List.getElem?_eq_some_iff.1 hi).1
     have hq:σ[i]?=some (σ[i]'(by omega)):=List.getElem?_eq_getElem (by omega)
     rw [fp_map ε σ hq] at hk
     have h3:=List.all_eq_true.1 hσ _ (List.mem_of_getElem? hq)
     cases hr:st'.rg[(σ[i]'(by omega))]? with
     | none =>
       have:ε.length≤σ[i]'(by omega):=by rw [hs.regs.len];exact List.getElem?_eq_none_iff.1 hr
       unfold Env.fp at hk
       rw [ent_out this] at hk
       exact hk.elim
     | some r' =>
       rw [nth_eq,hr] at h3
       simp only [Bool.and_eq_true,Bool.not_eq_true'] at h3
       exact ⟨_,r',hr,h3.2,h3.1,hk⟩)
   (fun k hk=>by
     have hk':g.ro k:=hk
     rw [gro] at hk'
     exact ⟨by rw [hW1sz];have:=(hxlt k hk').1;omega,rfl⟩) rfl hG0
   (fun k hk=>by
     show k<g.W1.heap.size∧¬ g.ro k
     rw [hW1sz,gro]
     rcases hk with h | h | ⟨⟨i,r,h3,h4,h5⟩,h6⟩
     ·rw [gD] at h;exact ⟨by omega,fun hx=>by have:=(hxlt k hx).1;omega⟩
     ·rw [gD] at h;exact ⟨by omega,fun hx=>by have:=(hxlt k hx).1;omega⟩
     ·refine ⟨?_,by rw [← gro];exact h6⟩
      have:=(hs.regs.lt i r (hI▸h3) h4 k h5).1;omega)
  refine ⟨D+1,[mark D],g.W1,{ target:=.fn (.func fi) (caps.map ε.at_).toArray,args:=#[.func (.yield (D+1)) #[] #[]] },g.W1,fi,#[.func (.yield (D+1)) #[] #[]]++(caps.map ε.at_).toArray,g.W1,?_,?_,fun _ _=>trivial,?_,(fun h=>by cases h),?_⟩
  ·have:=run_enterLoop_outer (P:=P) (w:=w) fnid a.tmps #[p] assign body
   rw [hD] at this
   rw [show (Wf b.ro).round=none from hro,hgdef]
   exact this
  ·simp only [resolve,hval,C.den,fnDen]
   simp [go_sem]
  ·have hen':∀ args w,(callFunc fi args).run P w=.ok (.enter fi args) w:=hen
   simp [invoke,go_sem,hen']
  ·refine callsW.2 ?_
   have hcall:=hit Xe rfl rfl hyields _ g.W1 hgx
   have hargs2:((SV.c (.h (preI.length+1))::argsI).map (SV.den (σ.map ε.ent++[⟨undef,Xe.ro⟩,⟨.func (.yield Xe.l) #[] #[],g.fpOf (I x0) ε⟩]))).toArray=#[.func (.yield (D+1)) #[] #[]]++(caps.map ε.at_).toArray:=by
    have e1:argsI.map (SV.den (σ.map ε.ent++[⟨undef,Xe.ro⟩,⟨.func (.yield Xe.l) #[] #[],g.fpOf (I x0) ε⟩]))=caps.map ε.at_:=by
     rw [hcaps,hargs]
     refine List.map_congr_left fun s hs'=>sden_same (List.all_eq_true.1 c2 s hs') (fun r hr=>?_)
     unfold Env.at_ Env.ent
     rw [List.getD_eq_getElem?_getD,List.getD_eq_getElem?_getD,List.getElem?_append_left (by simp;omega)]
    have e2:SV.den (σ.map ε.ent++[⟨undef,Xe.ro⟩,⟨.func (.yield Xe.l) #[] #[],g.fpOf (I x0) ε⟩]) (.c (.h (preI.length+1)))=.func (.yield (D+1)) #[] #[]:=by
     show Env.at_ _ _=_
     unfold Env.at_ Env.ent
     rw [List.getD_eq_getElem?_getD,List.getElem?_append_right (by simp;omega)]
     simp [hl,Xe,gD]
    rw [List.map_cons,e1,e2]
    simp
   rw [hargs2] at hcall
   refine hcall.mono ?_
   rintro e w3 ⟨res,post,ε3,⟨k3,al,hal,hpx⟩,rfl,hpre3,hreg3,hfr3⟩
   obtain ⟨_,w1',hG3,hsz3,hb3⟩:=hreg3.reg _ _ hpx
   have hfrx:Fr (g.fpOf (I x0) ε) g.W1 w3:=by
    refine ⟨hfr3.os,hfr3.tape,hfr3.output,hfr3.size,fun k hk hn=>hfr3.block k hk (fun ⟨i,r,h3,h4,h5⟩=>hn ?_)⟩
    by_cases hil:i<preI.length
    ·rw [List.getElem?_append_left hil] at h3
     rw [hnx i r h3] at h4;cases h4
    ·rw [List.getElem?_append_right (by omega)] at h3
     by_cases h6:i=preI.length
     ·subst h6;simp at h3;subst h3;cases h4
     ·by_cases h7:i=preI.length+1
      ·subst h7
       unfold Env.fp Env.ent at h5
       rw [List.getD_eq_getElem?_getD,List.getElem?_append_right (by simp;omega)] at h5
       simp [hl] at h5
       exact h5
      ·have:i-preI.length=(i-preI.length-2)+2:=by omega
       rw [this] at h3;simp at h3
   have hnro:∀ k,xro k→¬ g.fpOf (I x0) ε k:=fun k hk h=>by
    rcases h with h | h | h
    ·have:=(hxlt k hk).1;omega
    ·have:=(hxlt k hk).1;omega
    ·exact h.2 (by rw [gro];exact hk)
   have hG4:g.G I J Jx k3 al (ε3.fp (preI.length+1)) w3:=Rng.G.move hG3 hsz3 hb3 (fun k hk=>by
    rw [gro] at hk
    exact hfrx.block k (by rw [hW1sz];have:=(hxlt k hk).1;omega) (hnro k hk))
   have hfrb3:Fr b.m b.w w3:=by
    refine (fr_two (fr_two hs.below hfrW1 (fun k h=>h.elim)) hfrx (fun k hk hlt=>?_))
    rcases hk with h | h | ⟨⟨i,r,h3,h4,h5⟩,h6⟩
    ·omega
    ·omega
    ·cases hx:r.excl with
     | false=>exact absurd (by rw [gro,← hxro];exact ⟨i,r,hI▸h3,h4,hx,h5⟩) h6
     | true =>
       rcases hs.regs.lim i r (hI▸h3) hx k h5 with h | h
       ·omega
       ·exact h
   obtain ⟨x4,ε4,hfp4,hG4⟩:=hG4
   have hout:∀ (stt:LoopState) (jump:Option Code),stt≠.busy→g.At (I x4) ε4 stt jump w3→∃ w4,(Instr.endLoop (D+1)).run P w3=.ok jump w4 ∧
    ∀ (kk:List K),RunF P fn n0 (Rt P fn S) ⟨kk,{ N:=st'.N,fr:=keepFr nf st'.fr,rg:=I x4,wr:=st'.wr }⟩ →
     contQ P { w:=w4,e:=b.e,m:=fun k=>b.M k∧k≠D∧k≠D+1,l:=fun k=>b.L k∧k≠D∧k≠D+1,ro:=b.ro,d:=mark D::b.d } (Rt P fn S { w:=w4,e:=b.e,m:=fun k=>b.M k∧k≠D∧k≠D+1,l:=fun k=>b.L k∧k≠D∧k≠D+1,ro:=b.ro,d:=mark D::b.d }) kk .normal { a with defers:=mark D::a.defers } w4 ∧
     (∀ e a' w',Rt P fn S { w:=w4,e:=b.e,m:=fun k=>b.M k∧k≠D∧k≠D+1,l:=fun k=>b.L k∧k≠D∧k≠D+1,ro:=b.ro,d:=mark D::b.d } e a' w'→Rt P fn S b e a' w'):=by
    intro stt jump hne hA4
    have hl4:=hA4.loop
    have hd4:=hA4.mrk
    rw [gD] at hl4 hd4
    have hlt4:D+1<w3.heap.size:=(Array.getElem?_eq_some_iff.1 hl4).1
    refine ⟨_,run_endLoop hl4 hne,fun kk hrun=>?_⟩
    generalize hw4:w3.putObj (D+1) _=w4
    have hsz4:w4.heap.size=w3.heap.size:=by rw [← hw4];simp
    have hfr4:Fr b.m b.w w4:=by
     rw [← hw4]
     exact hfrb3.step rfl rfl rfl (by simp) (fun k hk _=>World.putObj_heap_other (by omega))
    have hreg4:RegsOk ε4 g.bM g.bL w4 (I x4):=by
     rw [← hw4,← gD]
     exact Rng.At.put hA4.regs hA4.off
    have hbM':g.bM=fun k=>b.M k∧k≠D∧k≠D+1:=by rw [hgdef]
    have hbL':g.bL=fun k=>b.L k∧k≠D∧k≠D+1:=by rw [hgdef]
    refine ⟨?_,fun e a' w' hrt=>Rt.unmark rfl hbD (by omega) ?_ hfr4 e a' w' hrt⟩
    ·unfold RunF at hrun
     refine hrun { w:=w4,e:=b.e,m:=fun k=>b.M k∧k≠D∧k≠D+1,l:=fun k=>b.L k∧k≠D∧k≠D+1,ro:=b.ro,d:=mark D::b.d } hb { a with defers:=mark D::a.defers } w4 ⟨ε4,⟨⟨?_,fun _=>hro⟩,hs.size,fun e he=>?_,?_,Fr.refl _ _,?_⟩⟩
     ·show mark D::a.defers=mark D::b.d
      rw [hs.defs.1]
     ·obtain ⟨h5,h6⟩:=List.mem_filter.1 he
      rw [Bool.and_eq_true] at h6
      refine EnOk.same (hs.fr e h5) h6.2 (fun r hr=>?_)
      rw [prefix_at (l:=g.hs0) hAt0.hs (by omega),prefix_at (l:=g.hs0) hA4.hs (by omega)]
     ·exact hreg4.narrow (fun i r h1 h2 k h3=>.inr (by have:=hreg4.lim i r h1 h2 k h3;rw [hbM'] at this;exact this)) (fun i r h1 h2 k h3=>.inr (by have:=(hreg4.lt i r h1 h2 k h3).2;rw [hbL'] at this;exact this))
     ·exact List.IsPrefix.trans (List.prefix_of_prefix_length_le hs.pre hAt0.hs (by rw [hb,hhl];exact hn0l)) hA4.hs
    ·rw [← hw4]
     exact (World.putObj_heap_other (by omega)).trans hd4
   rcases hG4 with ⟨rfl,hJ4,hA4⟩ | ⟨rfl,cd,hJ4,hA4⟩
   ·obtain ⟨w4,h5,h6⟩:=hout _ _ (by simp) hA4
    have hk3:=hal rfl
    have hk3':k3=n:=hk3
    subst hk3'
    obtain ⟨h7,h8⟩:=h6 k (hdone x4 hJ4)
    refine ⟨none,w4,h5,?_⟩
    show contQ P b (Rt P fn S b) k .normal { a with defers:=mark D::a.defers } w4
    exact contQ_base (P:=P) (b:=b) (b':={ w:=w4,e:=b.e,m:=fun k=>b.M k∧k≠D∧k≠D+1,l:=fun k=>b.L k∧k≠D∧k≠D+1,ro:=b.ro,d:=mark D::b.d }) rfl h8 k hj _ _ _ h7
   ·obtain ⟨w4,h5,h6⟩:=hout _ _ (by simp) hA4
    obtain ⟨h7,h8⟩:=h6 _ (hstop cd x4 hJ4)
    refine ⟨some cd,w4,h5,?_⟩
    show contQ P b (Rt P fn S b) (.code cd::k) .normal { a with defers:=mark D::a.defers } w4
    exact contQ_base (P:=P) (b:=b) (b':={ w:=w4,e:=b.e,m:=fun k=>b.M k∧k≠D∧k≠D+1,l:=fun k=>b.L k∧k≠D∧k≠D+1,ro:=b.ro,d:=mark D::b.d }) rfl h8 (.code cd::k) (by simp [K.isJmp,hj]) _ _ _ h7
 all_goals first | (unfold callV at h;split at h<;>simp at h;done) | (split at h<;>simp at h)
end
def openK:Nat→List K→List K
 | n+1,.code (.seq a b)::k=>openK n (.code a::.code b::k)
 | n+1,.code .skip::k=>openK n k
 | n+1,.code (.block id c)::k=>openK n (.code c::.blk id::k)
 | _,k=>k
theorem openK_sound {P:Program} {b:Base} {Q:Exit→Act→World→Prop} {a:Act} {w:World}:∀ (n:Nat) (k:List K),contQ P b Q (openK n k) .normal a w→contQ P b Q k .normal a w
 | 0,k,h=>by simpa [openK] using h
 | n+1,k,h=>by
   unfold openK at h
   split at h
   ·rename_i heq
    cases heq
    exact wpIn_seq (openK_sound _ _ h)
   ·rename_i heq
    cases heq
    exact wpIn_skip (openK_sound _ _ h)
   ·rename_i heq
    cases heq
    exact wpIn_block (openK_sound _ _ h)
   ·exact h
theorem RunF.cut {P:Program} [hw:Wide P] {fn:Func} {n0:Nat} {U:Tgt} {c:Cfg} {X:Type} (I:X→St) (J:X→Prop) (h1:RunF P fn n0 U ⟨insJ (AtSt I J) (openK 50 c.k),c.st⟩) (h2:∀ x,J x→RunF P fn n0 U ⟨restK (openK 50 c.k),I x⟩):RunF P fn n0 U c:=by
 unfold RunF at *
 intro b hb a w hs
 exact openK_sound 50 _ (insJ_sound _ (fun a w ⟨x,hx,hs⟩=>h2 x hx b hb a w hs) (h1 b hb a w hs))
def flatK:Nat→List K→List K
 | n+1,.code (.seq a b)::k=>flatK n (.code a::.code b::k)
 | n+1,x::k=>x::flatK n k
 | _,k=>k
theorem flatK_sound {P:Program} [hw:Wide P] {b:Base} {Q:Exit→Act→World→Prop}:∀ (n:Nat) (k:List K) (e:Exit) (a:Act) (w:World),contQ P b Q (flatK n k) e a w→contQ P b Q k e a w
 | 0,k,e,a,w,h=>by simpa [flatK] using h
 | n+1,k,e,a,w,h=>by
   unfold flatK at h
   split at h
   ·rename_i heq
    cases heq
    have h1:=flatK_sound _ _ e a w h
    cases e with
    | normal=>exact wpIn_seq h1
    | _=>exact h1
   ·rename_i heq
    cases heq
    exact kpost_mono (fun e a w hq=>flatK_sound _ _ e a w hq) _ e a w h
   ·exact h
def cutK (J:Base→Act→World→Prop):Nat→List K→List K
 | 0,k=>.jmp J::k
 | m+1,x::k=>x::cutK J m k
 | _+1,[]=>[.jmp J]
theorem cutK_sound {P:Program} [hw:Wide P] {b:Base} {Q:Exit→Act→World→Prop} {J:Base→Act→World→Prop}:∀ (m:Nat) (k:List K),(∀ a w,J b a w→contQ P b Q (k.drop m) .normal a w)→∀ e a w,contQ P b Q (cutK J m k) e a w→contQ P b Q k e a w
 | 0,k,h,e,a,w,hq=>by
   unfold cutK at hq
   cases e with
   | normal=>exact h a w hq
   | _=>exact hq
 | m+1,[],h,e,a,w,hq=>by
   unfold cutK at hq
   cases e with
   | normal=>exact h a w hq
   | _=>exact hq
 | m+1,x::k,h,e,a,w,hq=>by
   unfold cutK at hq
   exact kpost_mono (fun e a w hq=>cutK_sound m k h e a w hq) _ e a w hq
theorem RunF.cutm {P:Program} [hw:Wide P] {fn:Func} {n0:Nat} {U:Tgt} {c:Cfg} {X:Type} (m:Nat) (I:X→St) (J:X→Prop) (h1:RunF P fn n0 U ⟨cutK (AtSt I J) m (flatK 200 c.k),c.st⟩) (h2:∀ x,J x→RunF P fn n0 U ⟨(flatK 200 c.k).drop m,I x⟩):RunF P fn n0 U c:=by
 unfold RunF at *
 intro b hb a w hs
 exact flatK_sound 200 _ _ _ _ (cutK_sound m _ (fun a w ⟨x,hx,hs⟩=>h2 x hx b hb a w hs) _ _ _ (h1 b hb a w hs))
attribute [irreducible] endEnt Cfg.rgF Cfg.rgA Cfg.rgB Cfg.rgK Cfg.rgC
end Go.Tx
namespace Go.Tx
open Go
def Cfg.mrg (P:Program) (c:Cfg) (m:Nat) (T:MT) (n:Nat) (has:KA T.K→Bool) (f:KA T.K→KA T.V) (r cnt:Nat):Option Cfg:=
 match (seg P 5000 c.k c.st).2 with
 | .op all o todo k st=>match o.op,o.guard with
   | .range t x,none=>match opndC st [] x with
     | some (.h m')=>if Nat.beq m m'&&Nat.beq T.t t&&st.scp then
        (putSt { st with rg:=st.rg.set m (.mp T n has f (some ⟨r,has,cnt,none⟩))++[.itr r] } o.dst [] (.c (.h st.rg.length))).map fun st'=>⟨.ops all todo::k,st'⟩
       else none
     | _=>none
   | _,_=>none
 | _=>none
def orNo (c:Option Cfg):Cfg:=match c with
 | some c'=>c'
 | none=>noCfg
def Cfg.rnil (P:Program) (c:Cfg) (r:Nat) (x:Bool):Option Cfg:=
 match (seg P 5000 c.k c.st).2 with
 | .op all o todo k st=>match o.op,o.guard with
   | .binOp .eql t u v _,none=>match opndC st [] u,opndC st [] v,sliceOf P t with
     | some (.h r'),some cv,some _=>if Nat.beq r r'&&isNil cv then (putSt st o.dst [] (.c (.b x))).map fun st'=>⟨.ops all todo::k,st'⟩ else none
     | _,_,_=>none
   | _,_=>none
 | _=>none
section
variable {P:Program} [hw:Wide P] {fn:Func} {n0:Nat} {S:SV→List Reg→Prop} {U:Tgt} {c:Cfg} {vc:List Prop}
theorem wanted_none {o:Oper} (h:o.guard=none) (f:Nat→Option Bool):Region.wanted o f=true:=by
 unfold Region.wanted;rw [h]
theorem binOp_slice_eql (t:TypeId) (x y:Option Addr) (i j k l:Nat):binOp .eql t (.slice x i j) (.slice y k l)=(do pure (.bool (← Op.equal t (.slice x i j) (.slice y k l)))):=rfl
theorem RunF.rnil (r:Nat) {n:Nat} (h:see P fn c=(vc,.op)) (hv:Conj vc) (hm:lenAt (c.at P) r=some n) (hsome:∀ x,(c.rnil P r x).isSome=true)
 (next:∀ x:Bool,(x=true→n=0)→RunF P fn n0 U (orNo (c.rnil P r x))):RunF P fn n0 U c:=by
 unfold RunF at next ⊢
 intro b hb
 unfold see at h
 unfold Cfg.at at hm
 unfold Cfg.rnil at next hsome
 generalize hg:seg P 5000 c.k c.st=rr at h hm next hsome
 obtain ⟨vc',out⟩:=rr
 cases out<;>simp only [Prod.mk.injEq,reduceCtorEq,and_false] at h
 case op all o todo k st =>
  obtain ⟨rfl,_⟩:=h
  refine seg_sound hw.mixed 5000 _ _ _ _ hg hv.toAll (fun a w hsat=>?_)
  obtain ⟨ε,hs⟩:=hsat
  simp only at hm next hsome
  obtain ⟨dst,op,type,pos,after,guard⟩:=o
  simp only at hsome next
  have hfind:∃ t u v q e cv,op=.binOp .eql t u v q∧guard=none∧opndC st [] u=some (.h r)∧opndC st [] v=some cv∧isNil cv=true∧sliceOf P t=some e:=by
   have h0:=hsome true
   cases op<;>first | (cases h0;done) | skip
   rename_i bop t u v q
   cases bop<;>first | (cases h0;done) | skip
   cases guard with
   | some g=>cases h0
   | none =>
     simp only at h0
     split at h0
     ·rename_i r' cv e hx hy hse
      split at h0
      ·rename_i hbc
       simp only [Bool.and_eq_true] at hbc
       have:=Nat.eq_of_beq_eq_true hbc.1
       subst this
       exact ⟨t,u,v,q,e,cv,rfl,rfl,hx,hy,hbc.2,hse⟩
      ·cases h0
     ·cases h0
  obtain ⟨t,u,v,q,e,cv,rfl,rfl,hx,hy,hni,hse⟩:=hfind
  have hcv:cv=.v (.slice none 0 0):=by
   unfold isNil at hni
   split at hni
   ·rfl
   ·cases hni
  subst hcv
  have hbq:(Nat.beq r r&&isNil (.v (.slice none 0 0)))=true:=by simp [isNil]
  simp only [hx,hy,hse,if_pos hbq] at hsome next
  have hrow:∃ A c,ε.at_ r=.slice A n c∧(0<n→∃ ad,A=some ad):=by
   unfold lenAt at hm
   split at hm
   ·rename_i hr
    cases hm
    obtain ⟨A,c,h1,_,h2⟩:=row_slice (reg_at hs hr).1
    exact ⟨A,c,h1,h2⟩
   ·rename_i hr
    cases hm
    obtain ⟨A,c,h1,_,h2⟩:=own_slice (reg_at hs hr).1
    exact ⟨A,c,h1,h2⟩
   ·cases hm
  obtain ⟨A,cp,hA,hA0⟩:=hrow
  refine wpListW_run (wanted_none rfl _) ?_
  unfold Oper.wp
  have hex:(execOp a.eval { dst,op:=.binOp .eql t u v q,type,pos,after,guard:=none }).run P w=.ok (.value ((SV.c (.b A.isNone)).den ε)) w:=by
   simp only [execOp,opndC_sound hs (gHolds_nil a) hx,opndC_sound hs (gHolds_nil a) hy]
   refine exec_v ?_
   simp only [C.den,hA]
   simp only [go_sem,Sem.run_bind,Sem.run_pure,Result.andThen_ok,binOp_slice_eql,run_equal_slice_nil w t e A n cp (sliceOf_spec hse),SV.den,C.den]
  rw [hex,Oper.upon_value]
  have hso:=hsome A.isNone
  have hn1:=next A.isNone (fun hx=>by
   rcases Nat.eq_zero_or_pos n with h | h
   ·exact h
   ·obtain ⟨ad,h2⟩:=hA0 h
    rw [h2] at hx;cases hx)
  cases hput:putSt st dst [] (.c (.b A.isNone)) with
  | none=>rw [hput] at hso;cases hso
  | some st' =>
    rw [hput] at hn1
    simp only [Option.map_some,orNo] at hn1
    exact hn1 b hb _ w ⟨_,put_sound hs hput (fun _=>rfl) (fun hn=>absurd (gHolds_nil _) hn)⟩
 all_goals first | (unfold callV at h;split at h<;>simp at h;done) | (split at h<;>simp at h)
end
attribute [irreducible] Cfg.mrg Cfg.rnil
end Go.Tx
namespace Go.Tx
open Go Go.RowKit
def foldL:List (Nat×(Nat→TC))→St→Option (St×List Prop)
 | [],st=>some (st,[])
 | (r,g)::l,st=>match foldSt st r g with
   | some (st1,vc1)=>match foldL l st1 with
     | some (st2,vc2)=>some (st2,vc1++vc2)
     | none=>none
   | none=>none
theorem foldL_sound {b:Base} {a:Act} {w:World}:∀ {l:List (Nat×(Nat→TC))} {st st':St} {ε:Env} {vc:List Prop},SatE b st ε a w→foldL l st=some (st',vc)→All vc→∃ ε',SatE b st' ε' a w∧∀ i,Env.at_ ε' i=ε.at_ i
 | [],st,st',ε,vc,hs,h,hv=>by
   cases h
   exact ⟨ε,hs,fun _=>rfl⟩
 | (r,g)::l,st,st',ε,vc,hs,h,hv=>by
   simp only [foldL] at h
   split at h
   ·rename_i st1 vc1 h1
    split at h
    ·rename_i st2 vc2 h2
     cases h
     obtain ⟨ε1,g1,e1⟩:=fold_sound hs h1 hv.left
     obtain ⟨ε2,g2,e2⟩:=foldL_sound g1 h2 hv.right
     exact ⟨ε2,g2,fun i=>(e2 i).trans (e1 i)⟩
    ·cases h
   ·cases h
theorem den_at {ε ε':Env} (h:∀ i,Env.at_ ε' i=ε.at_ i) (c:C):c.den ε'=c.den ε:=by
 have hf:Env.at_ ε'=Env.at_ ε:=funext h
 cases c<;>simp only [C.den,hf]
theorem sden_at {ε ε':Env} (h:∀ i,Env.at_ ε' i=ε.at_ i) (v:SV):v.den ε'=v.den ε:=by
 have hc:C.den ε'=C.den ε:=funext (den_at h)
 have hd:denPart ε'=denPart ε:=funext fun x=>by simp only [denPart,hc]
 cases v<;>simp only [SV.den,hc,hd]
def foldS (fs:List (Nat×(Nat→TC))) (st:St):St:=match foldL fs st with
 | some x=>x.1
 | none=>noCfg.st
section
variable {P:Program} [hw:Wide P] {fn:Func} {n0:Nat} {S:SV→List Reg→Prop} {U:Tgt} {c:Cfg} {vc:List Prop}
theorem RunF.retF {v:SV} (res:SV) (post:List Reg) (π:List Nat) (fs:List (Nat×(Nat→TC))) {vc2:List Prop} {E:List F} (h:see P fn c=(vc,.ret v)) (hv:Conj vc) (hS:S res post) (hf:(foldL fs (c.at P)).map (·.2)=some vc2) (hv2:Conj vc2)
 (he:retEnt n0 π (foldS fs (c.at P)) v res post=some E) (hE:AllF E):RunF P fn n0 (Rt P fn S) c:=by
 unfold RunF
 intro b hb
 unfold see at h
 unfold Cfg.at at he hf
 generalize hg:seg P 5000 c.k c.st=r at h he hf
 obtain ⟨vc',out⟩:=r
 cases out<;>simp only [Prod.mk.injEq,reduceCtorEq,and_false] at h
 ·rename_i st
  split at h
  ·rename_i v' vc2' hr
   simp only [Prod.mk.injEq,View.ret.injEq] at h
   obtain ⟨rfl,rfl⟩:=h
   refine seg_sound hw.mixed 5000 _ _ _ _ hg hv.toAll.left (fun a w ⟨ε,hs⟩=>?_)
   unfold foldS at he
   simp only at he hf
   cases hx:foldL fs st with
   | none=>rw [hx] at hf;cases hf
   | some y =>
     obtain ⟨st2,vc3⟩:=y
     rw [hx] at hf he
     simp only [Option.map_some,Option.some.injEq] at hf
     subst hf
     obtain ⟨ε2,g2,e2⟩:=foldL_sound hs hx hv2.toAll
     have:=ret_sound hb he hE hS g2
     rw [sden_at e2] at this
     exact (Rt.mk hs.defs.1 (fun Ds hD=>retVal_shut hs hr hv.toAll.right hD) this).1
  ·simp at h
 all_goals first | (unfold callV at h;split at h<;>simp at h;done) | (split at h<;>simp at h)
theorem RunF.nextF {X:Type} {I:X→St} {J:X→Prop} {m:X→Nat} {x:X} (x':X) (π:List Nat) (fs:List (Nat×(Nat→TC))) {vc2:List Prop} {E:List F} (h:see P fn c=(vc,.jump (Next I J m x))) (hv:Conj vc) (hf:(foldL fs (c.at P)).map (·.2)=some vc2) (hv2:Conj vc2)
 (he:ent n0 π (foldS fs (c.at P)) (I x')=some E) (hE:AllF E) (hm:m x'<m x) (hJ:J x'):RunF P fn n0 U c:=by
 unfold RunF
 intro b hb
 unfold see at h
 unfold Cfg.at at he hf
 generalize hg:seg P 5000 c.k c.st=r at h he hf
 obtain ⟨vc',out⟩:=r
 cases out<;>simp only [Prod.mk.injEq,reduceCtorEq,and_false] at h
 case jump J' st =>
  simp only [View.jump.injEq] at h
  obtain ⟨rfl,rfl⟩:=h
  unfold foldS at he
  simp only at he hf
  cases hx:foldL fs st with
  | none=>rw [hx] at hf;cases hf
  | some y =>
    obtain ⟨st2,vc3⟩:=y
    rw [hx] at hf he
    simp only [Option.map_some,Option.some.injEq] at hf
    subst hf
    exact seg_sound hw.mixed 5000 _ _ _ _ hg hv.toAll (fun a w ⟨ε,hs⟩=>by
     obtain ⟨ε2,g2,_⟩:=foldL_sound hs hx hv2.toAll
     exact ⟨x',hm,hJ,ent_sound hb he hE ⟨ε2,g2⟩⟩)
 all_goals first | (unfold callV at h;split at h<;>simp at h;done) | (split at h<;>simp at h)
theorem RunF.finF {v:SV} (res:SV) (post:List Reg) (π:List Nat) (fs:List (Nat×(Nat→TC))) {vc2:List Prop} {E:List F} (h:see P fn c=(vc,.fin v)) (hv:Conj vc) (hS:S res post) (hf:(foldL fs (c.at P)).map (·.2)=some vc2) (hv2:Conj vc2)
 (he:retEnt n0 π (foldS fs (c.at P)) v res post=some E) (hE:AllF E):RunF P fn n0 (Rt P fn S) c:=by
 unfold RunF
 intro b hb
 unfold see at h
 unfold Cfg.at at he hf
 generalize hg:seg P 5000 c.k c.st=r at h he hf
 obtain ⟨vc',out⟩:=r
 cases out<;>simp only [Prod.mk.injEq,reduceCtorEq,and_false] at h
 case fin st =>
  split at h
  ·rename_i v' vc2' hr
   simp only [Prod.mk.injEq,View.fin.injEq] at h
   obtain ⟨rfl,rfl⟩:=h
   refine seg_sound hw.mixed 5000 _ _ _ _ hg hv.toAll.left (fun a w ⟨ε,hs⟩=>?_)
   unfold foldS at he
   simp only at he hf
   cases hx:foldL fs st with
   | none=>rw [hx] at hf;cases hf
   | some y =>
     obtain ⟨st2,vc3⟩:=y
     rw [hx] at hf he
     simp only [Option.map_some,Option.some.injEq] at hf
     subst hf
     obtain ⟨ε2,g2,e2⟩:=foldL_sound hs hx hv2.toAll
     have:=ret_sound hb he hE hS g2
     rw [sden_at e2] at this
     exact (Rt.mk hs.defs.1 (fun Ds hD=>retVal_shut hs hr hv.toAll.right hD) this).2
  ·simp at h
 all_goals first | (unfold callV at h;split at h<;>simp at h;done) | (split at h<;>simp at h)
end
inductive Side where
 | n (a:Nat)
 | i (a:Int)
 | b (a:Bool)
 | v (a:Value)
 | t (a:TC)
 | f (a:Nat→Nat→TC)
 | x (a:Ext)
 | p (a:Prop)
def F.l:F→Side
 | .n x _=>.n x
 | .i x _=>.i x
 | .b x _=>.b x
 | .v x _=>.v x
 | .t x _=>.t x
 | .fn _ x _=>.f x
 | .fx _ _ x _=>.f x
 | .ex x _=>.x x
 | .p x=>.p x
def F.r:F→Side
 | .n _ x=>.n x
 | .i _ x=>.i x
 | .b _ x=>.b x
 | .v _ x=>.v x
 | .t _ x=>.t x
 | .fn _ _ x=>.f x
 | .fx _ _ _ x=>.f x
 | .ex _ x=>.x x
 | .p _=>.p True
theorem F.of_sides {f:F} (h:f.l=f.r):f.prop:=by
 cases f<;>simp only [F.l,F.r,Side.n.injEq,Side.i.injEq,Side.b.injEq,Side.v.injEq,Side.t.injEq,Side.f.injEq,Side.x.injEq,Side.p.injEq] at h<;>simp only [F.prop,h]<;>(try intros)<;>trivial
def cutF:Nat→List Nat→List F→List F×List F
 | _,_,[]=>([],[])
 | _,[],f::r=>(f::r,[])
 | j,m::ms,f::r=>if Nat.beq j m then ((cutF (j+1) ms r).1,f::(cutF (j+1) ms r).2) else (f::(cutF (j+1) (m::ms) r).1,(cutF (j+1) (m::ms) r).2)
theorem cutF_mem:∀ {l:List F} {j:Nat} {M:List Nat} {f:F},f∈l→f∈(cutF j M l).1∨f∈(cutF j M l).2
 | [],_,_,_,h=>by cases h
 | x::r,j,[],f,h=>.inl h
 | x::r,j,m::ms,f,h=>by
   simp only [cutF]
   split
   ·cases h with
    | head=>exact .inr (.head _)
    | tail _ h=>exact (cutF_mem h).imp id (List.mem_cons_of_mem _)
   ·cases h with
    | head=>exact .inl (.head _)
    | tail _ h=>exact (cutF_mem h).imp (List.mem_cons_of_mem _) id
def lF (M:List Nat) (o:Option (List F)):Option (List Side×List Prop):=match o with
 | some l=>some ((cutF 0 M l).1.map F.l,(cutF 0 M l).2.map F.prop)
 | none=>none
def rF (M:List Nat) (E:List Prop) (o:Option (List F)):Option (List Side×List Prop):=match o with
 | some l=>some ((cutF 0 M l).1.map F.r,E)
 | none=>some ([],[])
theorem lr_spec {M:List Nat} {E:List Prop} {o:Option (List F)} (h:lF M o=rF M E o) (hE:Conj E):∃ l,o=some l∧AllF l:=by
 cases o with
 | none=>cases h
 | some l =>
   simp only [lF,rF,Option.some.injEq,Prod.mk.injEq] at h
   obtain ⟨h1,h2⟩:=h
   refine ⟨l,rfl,fun f hf=>?_⟩
   rcases cutF_mem (j:=0) (M:=M) hf with h3 | h3
   ·obtain ⟨i,hi⟩:=List.mem_iff_getElem?.1 h3
    have e:((cutF 0 M l).1.map F.l)[i]?=((cutF 0 M l).1.map F.r)[i]?:=by rw [h1]
    simp only [List.getElem?_map,hi,Option.map_some,Option.some.injEq] at e
    exact F.of_sides e
   ·subst h2
    exact hE.all _ (List.mem_map_of_mem h3)
def idN:Nat→Nat→List Nat
 | _,0=>[]
 | j,n+1=>j::idN (j+1) n
def piN (π:List Nat) (n:Nat):List Nat:=match π with
 | []=>idN 0 n
 | _::_=>π
def View.v:View→SV
 | .ret v=>v
 | .fin v=>v
 | _=>.u
def View.as:View→List SV
 | .call _ a=>a
 | .gcall _ a=>a
 | .yield _ a=>a
 | _=>[]
structure Lp (X:Type) where
 I:X→St
 J:X→Prop
 m:X→Nat
section
variable {P:Program} [hw:Wide P] {fn:Func} {n0:Nat} {S:SV→List Reg→Prop} {U:Tgt} {c:Cfg}
theorem tz (keep:List Nat) (next:RunF P fn n0 U (c.fz keep)):RunF P fn n0 U c:=RunF.fz keep next
theorem tCond (x:Bool) (ht:x=true→RunF P fn n0 U (c.thn P)) (he:x=false→RunF P fn n0 U (c.els P)) (vc:List Prop:=[]) (hv:Conj vc:=by exact trivial) (h:see P fn c=(vc,.cond x):=by kernel_rfl):RunF P fn n0 U c:=RunF.cond h hv ht he
theorem tRet {res:SV} {post:List Reg} (π:List Nat:=[]) (M:List Nat:=[]) (E:List Prop:=[]) (hE:Conj E:=by exact trivial) (vc:List Prop:=[]) (hv:Conj vc:=by exact trivial) (hS:S res post:=by exact ⟨rfl,rfl⟩)
 (h:see P fn c=(vc,.ret (see P fn c).2.v):=by kernel_rfl) (he:lF M (retEnt n0 (piN π post.length) (c.at P) (see P fn c).2.v res post)=rF M E (retEnt n0 (piN π post.length) (c.at P) (see P fn c).2.v res post):=by kernel_rfl):RunF P fn n0 (Rt P fn S) c:=
 let ⟨_,h1,h2⟩:=lr_spec he hE
 RunF.ret res post _ h hv hS h1 h2
theorem tFin {res:SV} {post:List Reg} (π:List Nat:=[]) (M:List Nat:=[]) (E:List Prop:=[]) (hE:Conj E:=by exact trivial) (vc:List Prop:=[]) (hv:Conj vc:=by exact trivial) (hS:S res post:=by exact ⟨rfl,rfl⟩)
 (h:see P fn c=(vc,.fin (see P fn c).2.v):=by kernel_rfl) (he:lF M (retEnt n0 (piN π post.length) (c.at P) (see P fn c).2.v res post)=rF M E (retEnt n0 (piN π post.length) (c.at P) (see P fn c).2.v res post):=by kernel_rfl):RunF P fn n0 (Rt P fn S) c:=
 let ⟨_,h1,h2⟩:=lr_spec he hE
 RunF.fin res post _ h hv hS h1 h2
theorem tRetF {res:SV} {post:List Reg} (fs:List (Nat×(Nat→TC))) (π:List Nat:=[]) (M:List Nat:=[]) (E:List Prop:=[]) (hE:Conj E:=by exact trivial) (vc:List Prop:=[]) (hv:Conj vc:=by exact trivial) (vc2:List Prop:=[]) (hv2:Conj vc2:=by exact trivial) (hS:S res post:=by exact ⟨rfl,rfl⟩)
 (h:see P fn c=(vc,.ret (see P fn c).2.v):=by kernel_rfl) (hf:(foldL fs (c.at P)).map (·.2)=some vc2:=by kernel_rfl) (he:lF M (retEnt n0 (piN π post.length) (foldS fs (c.at P)) (see P fn c).2.v res post)=rF M E (retEnt n0 (piN π post.length) (foldS fs (c.at P)) (see P fn c).2.v res post):=by kernel_rfl):RunF P fn n0 (Rt P fn S) c:=
 let ⟨_,h1,h2⟩:=lr_spec he hE
 RunF.retF res post _ fs h hv hS hf hv2 h1 h2
theorem tFinF {res:SV} {post:List Reg} (fs:List (Nat×(Nat→TC))) (π:List Nat:=[]) (M:List Nat:=[]) (E:List Prop:=[]) (hE:Conj E:=by exact trivial) (vc:List Prop:=[]) (hv:Conj vc:=by exact trivial) (vc2:List Prop:=[]) (hv2:Conj vc2:=by exact trivial) (hS:S res post:=by exact ⟨rfl,rfl⟩)
 (h:see P fn c=(vc,.fin (see P fn c).2.v):=by kernel_rfl) (hf:(foldL fs (c.at P)).map (·.2)=some vc2:=by kernel_rfl) (he:lF M (retEnt n0 (piN π post.length) (foldS fs (c.at P)) (see P fn c).2.v res post)=rF M E (retEnt n0 (piN π post.length) (foldS fs (c.at P)) (see P fn c).2.v res post):=by kernel_rfl):RunF P fn n0 (Rt P fn S) c:=
 let ⟨_,h1,h2⟩:=lr_spec he hE
 RunF.finF res post _ fs h hv hS hf hv2 h1 h2
theorem tWk (st':St) (next:RunF P fn n0 U ⟨c.k,st'⟩) (π:List Nat:=[]) (M:List Nat:=[]) (E:List Prop:=[]) (hE:Conj E:=by exact trivial)
 (he:lF M (ent n0 (piN π st'.rg.length) c.st st')=rF M E (ent n0 (piN π st'.rg.length) c.st st'):=by kernel_rfl):RunF P fn n0 U c:=
 let ⟨_,h1,h2⟩:=lr_spec he hE
 RunF.weaken st' _ h1 h2 next
theorem tLoop {X:Type} (L:Lp X) (x0:X) (hJ:L.J x0) (round:∀ x,L.J x→RunF P fn n0 U (c.round P (Next L.I L.J L.m x) (L.I x))) (π:List Nat:=[]) (M:List Nat:=[]) (E:List Prop:=[]) (hE:Conj E:=by exact trivial) (vc:List Prop:=[]) (hv:Conj vc:=by exact trivial)
 (h:see P fn c=(vc,.loop):=by kernel_rfl) (he:lF M (ent n0 (piN π (L.I x0).rg.length) (c.at P) (L.I x0))=rF M E (ent n0 (piN π (L.I x0).rg.length) (c.at P) (L.I x0)):=by kernel_rfl):RunF P fn n0 U c:=
 let ⟨_,h1,h2⟩:=lr_spec he hE
 RunF.loop L.I L.J L.m x0 _ h hv h1 h2 hJ round
theorem tNext {X:Type} (L:Lp X) (x x':X) (hm:L.m x'<L.m x) (hJ:L.J x') (π:List Nat:=[]) (M:List Nat:=[]) (E:List Prop:=[]) (hE:Conj E:=by exact trivial) (vc:List Prop:=[]) (hv:Conj vc:=by exact trivial)
 (h:see P fn c=(vc,.jump (Next L.I L.J L.m x)):=by kernel_rfl) (he:lF M (ent n0 (piN π (L.I x').rg.length) (c.at P) (L.I x'))=rF M E (ent n0 (piN π (L.I x').rg.length) (c.at P) (L.I x')):=by kernel_rfl):RunF P fn n0 U c:=
 let ⟨_,h1,h2⟩:=lr_spec he hE
 RunF.next x' _ h hv h1 h2 hm hJ
theorem tNextF {X:Type} (L:Lp X) (x x':X) (hm:L.m x'<L.m x) (hJ:L.J x') (fs:List (Nat×(Nat→TC))) (π:List Nat:=[]) (M:List Nat:=[]) (E:List Prop:=[]) (hE:Conj E:=by exact trivial) (vc:List Prop:=[]) (hv:Conj vc:=by exact trivial) (vc2:List Prop:=[]) (hv2:Conj vc2:=by exact trivial)
 (h:see P fn c=(vc,.jump (Next L.I L.J L.m x)):=by kernel_rfl) (hf:(foldL fs (c.at P)).map (·.2)=some vc2:=by kernel_rfl) (he:lF M (ent n0 (piN π (L.I x').rg.length) (foldS fs (c.at P)) (L.I x'))=rF M E (ent n0 (piN π (L.I x').rg.length) (foldS fs (c.at P)) (L.I x')):=by kernel_rfl):RunF P fn n0 U c:=
 let ⟨_,h1,h2⟩:=lr_spec he hE
 RunF.nextF x' _ fs h hv hf hv2 h1 h2 hm hJ
theorem tAny {X:Type} (n:Nat) (I:X→St) (J:X→Prop) (hall:upTo (fun j=>RunF P fn n0 U (c.pick P (AtSt I J) j)) n) (hk:∀ x,J x→RunF P fn n0 U (c.rest P (I x))) (vc:List Prop:=[]) (hv:Conj vc:=by exact trivial)
 (h:see P fn c=(vc,.any n):=by kernel_rfl):RunF P fn n0 U c:=RunF.any I J h hv hall hk
theorem tTo {X:Type} (I:X→St) (J:X→Prop) (x':X) (hJ:J x') (π:List Nat:=[]) (M:List Nat:=[]) (E:List Prop:=[]) (hE:Conj E:=by exact trivial) (vc:List Prop:=[]) (hv:Conj vc:=by exact trivial)
 (h:see P fn c=(vc,.jump (AtSt I J)):=by kernel_rfl) (he:lF M (ent n0 (piN π (I x').rg.length) (c.at P) (I x'))=rF M E (ent n0 (piN π (I x').rg.length) (c.at P) (I x')):=by kernel_rfl):RunF P fn n0 U c:=
 let ⟨_,h1,h2⟩:=lr_spec he hE
 RunF.to x' _ h hv h1 h2 hJ
theorem tCall {f:Nat} {want:List SV} {pre:List Reg} {res:SV} {post:List Reg} (he:Enters P f) (spec:Ctr P f pre want (Det res post)) (σ:List Nat) (next:RunF P fn n0 U (c.ret P (piN σ pre.length) pre res post)) (M:List Nat:=[]) (E:List Prop:=[]) (hE:Conj E:=by exact trivial) (vc:List Prop:=[]) (hv:Conj vc:=by exact trivial)
 (h:see P fn c=(vc,.call f (see P fn c).2.as):=by kernel_rfl) (hc:lF M (callEnt (c.drawn P) (piN σ pre.length) (c.at P) pre want (see P fn c).2.as)=rF M E (callEnt (c.drawn P) (piN σ pre.length) (c.at P) pre want (see P fn c).2.as):=by kernel_rfl)
 (hok:((c.after P (piN σ pre.length) pre res post).isSome&&exclIn (c.at P).rg.length (piN σ pre.length) pre)=true:=by kernel_rfl):RunF P fn n0 U c:=
 let ⟨_,h1,h2⟩:=lr_spec hc hE
 RunF.call he spec _ h hv h1 h2 hok next
theorem tG {f:Nat} {want:List SV} {pre:List Reg} {res:SV} {post:List Reg} (he:Enters P f) (spec:Ctr P f pre want (Det res post)) (σ:List Nat) (next:RunF P fn n0 U (c.gret P (piN σ pre.length) res)) (M:List Nat:=[]) (E:List Prop:=[]) (hE:Conj E:=by exact trivial) (vc:List Prop:=[]) (hv:Conj vc:=by exact trivial)
 (h:see P fn c=(vc,.gcall f (see P fn c).2.as):=by kernel_rfl) (hc:lF M (callEnt true (piN σ pre.length) (c.at P) pre want (see P fn c).2.as)=rF M E (callEnt true (piN σ pre.length) (c.at P) pre want (see P fn c).2.as):=by kernel_rfl)
 (hok:(c.gafter P (piN σ pre.length) res).isSome=true:=by kernel_rfl):RunF P fn n0 U c:=
 let ⟨_,h1,h2⟩:=lr_spec hc hE
 RunF.gcall he spec _ h hv h1 h2 hok next
theorem tFoc (r k:Nat) (next:RunF P fn n0 U (c.with_ (focSt c.st r k))) (vc:List Prop:=[]) (hv:Conj vc:=by exact trivial) (h:(focSt c.st r k).map (·.2)=some vc:=by kernel_rfl):RunF P fn n0 U c:=RunF.focus r k h hv next
theorem tFold (r:Nat) (g:Nat→TC) (next:RunF P fn n0 U (c.with_ (foldSt c.st r g))) (vc:List Prop:=[]) (hv:Conj vc:=by exact trivial) (h:(foldSt c.st r g).map (·.2)=some vc:=by kernel_rfl):RunF P fn n0 U c:=RunF.fold r g h hv next
theorem tReg (r:Nat) (g:Reg) (next:RunF P fn n0 U (c.with_ (regSt c.st r g))) (vc:List Prop:=[]) (hv:Conj vc:=by exact trivial) (h:(regSt c.st r g).map (·.2)=some vc:=by kernel_rfl):RunF P fn n0 U c:=RunF.reg r g h hv next
theorem tNils (r:Nat) (g:Nat→Nat→TC) (next:RunF P fn n0 U (c.with_ (nilsSt c.st r g))) (vc:List Prop:=[]) (hv:Conj vc:=by exact trivial) (h:(nilsSt c.st r g).map (·.2)=some vc:=by kernel_rfl):RunF P fn n0 U c:=RunF.nils r g h hv next
theorem tEnd {X:Type} {I:X→List Reg} {J:X→Prop} {Jx:Code→X→Prop} (x:X) (hJ:J x) (π:List Nat:=[]) (M:List Nat:=[]) (E:List Prop:=[]) (hE:Conj E:=by exact trivial) (vc:List Prop:=[]) (hv:Conj vc:=by exact trivial)
 (h:see P fn c=(vc,.jump (fun b _ w=>RegsAt I J b w)):=by kernel_rfl) (he:lF M (endEnt n0 (piN π (I x).length) (c.at P) (I x))=rF M E (endEnt n0 (piN π (I x).length) (c.at P) (I x)):=by kernel_rfl):RunF P fn n0 (Tround I J Jx) c:=
 let ⟨_,h1,h2⟩:=lr_spec he hE
 RunF.endRound x _ h hv h1 h2 hJ
theorem tYield {X:Ext} (hy:X.Yields P) (r rf k:Nat) (arg:SV) (hk:k<X.n) (he:X.enc k=arg) (next:∀ al:Bool,RunF P fn n0 U (c.yret P r (.ext X (k+1) al) al)) (M:List Nat:=[]) (E:List Prop:=[]) (hE:Conj E:=by exact trivial) (vc:List Prop:=[]) (hv:Conj vc:=by exact trivial)
 (h:see P fn c=(vc,.yield r (see P fn c).2.as):=by kernel_rfl) (hr:nth (c.at P).rg r=some (.ext X k true):=by kernel_rfl) (hf:nth (c.at P).rg rf=some (.froz X):=by kernel_rfl) (hle:Nat.ble (c.at P).rg.length 1000000=true:=by kernel_rfl) (hcl:arg.scp 0=true:=by kernel_rfl)
 (ha:lF M (sEqs [arg] (see P fn c).2.as)=rF M E (sEqs [arg] (see P fn c).2.as):=by kernel_rfl) (hsome:∀ al,(c.yielded P r (.ext X (k+1) al) al).isSome=true:=by intro al;cases al<;>kernel_rfl):RunF P fn n0 U c:=
 let ⟨_,h1,h2⟩:=lr_spec ha hE
 RunF.yield hy rf h hv hr hf hle hk he hcl h1 h2 hsome next
end
section
variable {P:Program} [hw:Wide P] {fn:Func} {n0:Nat} {c:Cfg}
theorem tRange {S:SV→List Reg→Prop} {X:Type} {I:X→List Reg} {J:Nat→X→Prop} {Jx:Code→X→Prop} {n nf fi:Nat} {enc:Nat→SV} {stA:Nat→X→St} {preI:List Reg} {argsI:List SV} {caps:List Nat}
 (x0:X) (st':St) (π σ:List Nat) (hJ:J 0 x0) (hen:Enters P fi)
 (hit:∀ Xe:Ext,Xe.n=n→Xe.enc=enc→Xe.Yields P→Ctr P fi (preI++[.froz Xe,.ext Xe 0 true]) (.c (.h (preI.length+1))::argsI) (RangeEnd Xe (preI.length+1)))
 (hassign:∀ k x,k<n→J k x→RunF P fn nf (fun _ _ _ _=>False) (c.rgA P (AtSt (fun _:Unit=>stA k x) (fun _=>True)) st' nf (enc k) (I x)))
 (hbody:∀ k x,k<n→J k x→RunF P fn nf (Tround I (J (k+1)) Jx) (c.rgB P (fun b _ w=>RegsAt I (J (k+1)) b w) (stA k x)))
 (hdone:∀ x,J n x→RunF P fn n0 (Rt P fn S) (c.rgK P st' nf (I x)))
 (hstop:∀ cd x,Jx cd x→RunF P fn n0 (Rt P fn S) (c.rgC P cd st' nf (I x)))
 (M:List Nat:=[]) (E:List Prop:=[]) (hE:Conj E:=by exact trivial) (M2:List Nat:=[]) (E2:List Prop:=[]) (hE2:Conj E2:=by exact trivial) (vc:List Prop:=[]) (hv:Conj vc:=by exact trivial)
 (h:see P fn c=(vc,.range):=by kernel_rfl) (he:lF M (ent n0 (piN π st'.rg.length) (c.at P) st')=rF M E (ent n0 (piN π st'.rg.length) (c.at P) st'):=by kernel_rfl) (hf:c.rgF P st'=some (fi,caps):=by kernel_rfl)
 (hI:st'.rg=I x0:=by kernel_rfl) (hrd:st'.rd=false:=by kernel_rfl) (hn0:Nat.ble n0 nf=true:=by kernel_rfl) (hnf:Nat.ble nf st'.rg.length=true:=by kernel_rfl) (hle:Nat.ble st'.rg.length 1000000=true:=by kernel_rfl)
 (hc:lF M2 (callEnt false (piN σ preI.length) st' preI argsI (caps.map fun r=>.c (if isVar st' r then .p r 0 else .h r)))=rF M2 E2 (callEnt false (piN σ preI.length) st' preI argsI (caps.map fun r=>.c (if isVar st' r then .p r 0 else .h r))):=by kernel_rfl)
 (hpre:preI.all (fun r=>!r.excl)=true:=by kernel_rfl) (hσ:(piN σ preI.length).all (fun q=>match nth st'.rg q with | some h=>!h.excl&&h.live | none=>true)=true:=by kernel_rfl)
 (henc:∀ k,(enc k).scp 0=true:=by intro k;kernel_rfl) (hrdA:∀ k x,(stA k x).rd=true:=by intro _ _;kernel_rfl):RunF P fn n0 (Rt P fn S) c:=
 let ⟨_,h1,h2⟩:=lr_spec he hE
 let ⟨_,h3,h4⟩:=lr_spec hc hE2
 RunF.range x0 st' _ _ h hv h1 h2 hf hen hI hrd hn0 hnf hle hJ h3 h4 hpre hσ henc hit hassign hrdA hbody hdone hstop
end
attribute [irreducible] lF rF foldL foldS
end Go.Tx
namespace Go.Tx
open Go Go.RowKit
def insFr (e:En):List En→List En
 | []=>[e]
 | x::r=>if Nat.ble e.slot x.slot then e::x::r else x::insFr e r
def sortFr:List En→List En
 | []=>[]
 | e::r=>insFr e (sortFr r)
theorem insFr_mem {e x:En}:∀ {l:List En},x∈insFr e l→x=e∨x∈l
 | [],h=>by simpa [insFr] using h
 | y::r,h=>by
   simp only [insFr] at h
   split at h
   ·simpa using h
   ·cases h with
    | head=>exact .inr (.head _)
    | tail _ h=>exact (insFr_mem h).imp id (List.mem_cons_of_mem _)
theorem sortFr_mem {x:En}:∀ {l:List En},x∈sortFr l→x∈l
 | [],h=>h
 | y::r,h=>by
   rcases insFr_mem h with h | h
   ·subst h;exact .head _
   ·exact .tail _ (sortFr_mem h)
def canon (st:St):St:=fS { st with fr:=sortFr st.fr } fun s=>s
theorem canon_sat {b:Base} {st:St} {a:Act} {w:World} (h:Sat b st a w):Sat b (canon st) a w:=by
 obtain ⟨ε,hs⟩:=h
 unfold canon
 rw [fS_eq]
 exact ⟨ε,hs.defs,hs.size,fun e he=>hs.fr e (sortFr_mem he),hs.regs,hs.below,hs.pre⟩
theorem canon_run {P:Program} {b:Base} {Q:Exit→Act→World→Prop} {k:List K} {st:St} (h:Run P b Q k (canon st)):Run P b Q k st:=fun a w hs=>h a w (canon_sat hs)
def mixEff (P:Program) (all:List Oper) (st:St) (i:Nat):Option (St×List Prop):=match nth all i with
 | none=>none
 | some o=>match guardOf all st o with
   | .run []=>match effOp P st o,effCalm P st o with
     | some (st',sv,vc),some vc'=>(putSt st' o.dst [] sv).map (·,vc'++vc)
     | _,_=>match callOf st [] o,pureOp P st [] o with
       | none,some (sv,vc)=>(putSt st o.dst [] sv).map (·,vc)
       | _,_=>none
   | .skip=>(putSt st o.dst [] .u).map (·,[])
   | _=>none
section
variable {P:Program} {b:Base} {Q:Exit→Act→World→Prop} {k:List K} {all:List Oper} {listed:List Bool} {st st':St} {vc:List Prop} {m i:Nat}
theorem runPure (hfp:findPure P all listed st 0 all=some (i,st',vc)) (hv:All vc) (h:Run P b Q (.mix all (setL listed i) m::k) st'):Run P b Q (.mix all listed (m+1)::k) st:=fun a w ⟨ε,hs⟩ hsel=>by
 obtain ⟨o,hoi,htp⟩:=findPure_spec (fun k=>by simp) hfp
 exact takePure_sound hs hsel hoi htp hv (fun v hs'=>h _ w ⟨ε,hs'⟩ hsel)
theorem runEff (he:mixEff P all st i=some (st',vc)) (hv:All vc) (h:Run P b Q (.mix all (setL listed i) m::k) st'):Run P b Q (.mixAt all listed m i::k) st:=fun a w ⟨ε,hs⟩ hsel=>by
 unfold mixEff at he
 split at he
 ·cases he
 ·rename_i o hoi
  rw [nth_eq] at hoi
  have hoi':all.toArray[i]?=some o:=by simpa using hoi
  obtain ⟨g1,g2⟩:=guard_spec hs (ops:=all) (o:=o)
  split at he
  ·rename_i hgd
   have hw:=(g1 _ hgd).2 (gHolds_nil a)
   unfold wpOpR
   simp only [hoi',hw,if_true]
   split at he
   ·rename_i st1 sv vc1 vc2 h1 h2
    obtain ⟨st2,hput,he2⟩:=map_nil he
    cases he2
    exact stepR_eff (b:=b) hs h1 h2 hv.right hv.left calmAt_calm (fun v w' ε' hve hs'=>h _ w' ⟨ε',put_sound hs' hput (fun _=>hve) (fun hn=>absurd (gHolds_nil _) hn)⟩ hsel)
   ·split at he
    ·rename_i sv vc1 hco hp
     obtain ⟨st2,hput,he2⟩:=map_nil he
     cases he2
     unfold stepR
     rw [pure_sound hs (gHolds_nil a) hp hv]
     exact ⟨fun _=>⟨rfl,rfl,rfl,Nat.le_refl _,fun _ _=>rfl⟩,h _ w ⟨ε,put_sound hs hput (fun _=>rfl) (fun hn=>absurd (gHolds_nil _) hn)⟩ hsel⟩
    ·cases he
  ·rename_i hgd
   obtain ⟨st2,hput,he2⟩:=map_nil he
   cases he2
   have hw:=g2 hgd
   unfold wpOpR
   simp only [hoi',hw,Bool.false_eq_true,if_false]
   exact h _ w ⟨ε,put_sound hs hput (fun _=>rfl) (fun _=>rfl)⟩ hsel
  ·cases he
theorem runAll (hne:readyL all listed≠[]) (h:∀ i∈readyL all listed,Run P b Q (.mixAt all listed m i::k) st):Run P b Q (.mix all listed (m+1)::k) st:=fun a w hs hsel=>by
 refine ⟨fun h0=>?_,fun j hj=>?_⟩
 ·cases hl:readyL all listed with
  | nil=>exact absurd hl hne
  | cons i l =>
    have hi:i∈readyL all listed:=by rw [hl];exact .head _
    have:=readyI_iff.1 (List.mem_filter.1 hi).2
    rw [h0] at this;cases this
 ·have hq:=h j (mem_readyL hj) a w hs hsel
  rw [← setL_toArray]
  exact hq
theorem runDone (hr:readyL all listed=[]) (h:Run P b Q k st):Run P b Q (.mix all listed m::k) st:=fun a w hs hsel=>by
 have hr':=readyL_nil hr
 have hq:=h a w hs
 cases m with
 | zero=>exact ⟨hr',hq⟩
 | succ n=>exact ⟨fun _=>hq,fun i hi=>by rw [hr'] at hi;cases hi⟩
end
abbrev Nd:=List Bool×St
abbrev Ask:=List (St×St)×List (List Prop)
def beqLB:List Bool→List Bool→Bool
 | [],[]=>true
 | x::r,y::s=>beqB x y&&beqLB r s
 | _,_=>false
theorem beqLB_eq:∀ {a b:List Bool},beqLB a b=true→a=b
 | [],[],_=>rfl
 | x::r,y::s,h=>by
   simp only [beqLB,Bool.and_eq_true] at h
   rw [beqB_eq.1 h.1,beqLB_eq h.2]
 | [],_::_,h=>by cases h
 | _::_,[],h=>by cases h
def findNd (l:List Bool):List Nd→Option St
 | []=>none
 | x::r=>if beqLB x.1 l then some x.2 else findNd l r
theorem findNd_mem {l:List Bool} {s:St}:∀ {T:List Nd},findNd l T=some s→(l,s)∈T
 | [],h=>by cases h
 | x::r,h=>by
   simp only [findNd] at h
   split at h
   ·rename_i hb
    cases h
    rw [← beqLB_eq hb]
    exact .head _
   ·exact .tail _ (findNd_mem h)
def addNd (x:Nd) (T:List Nd) (q:Ask):List Nd×Ask:=match findNd x.1 T with
 | some s=>(T,(s,x.2)::q.1,q.2)
 | none=>(T++[x],q)
def addAll (P:Program) (all:List Oper) (nd:Nd):List Nat→List Nd→Ask→Option (List Nd×Ask)
 | [],T,q=>some (T,q)
 | i::r,T,q=>match mixEff P all nd.2 i with
   | some (st',vc)=>addAll P all nd r (addNd (setL nd.1 i,canon st') T (q.1,vc::q.2)).1 (addNd (setL nd.1 i,canon st') T (q.1,vc::q.2)).2
   | none=>none
def expand (P:Program) (all:List Oper) (nd:Nd) (T:List Nd) (q:Ask):Option (List Nd×Ask):=match findPure P all nd.1 nd.2 0 all with
 | some (i,st',vc)=>some (addNd (setL nd.1 i,canon st') T (q.1,vc::q.2))
 | none=>match readyL all nd.1 with
   | []=>none
   | i::r=>addAll P all nd (i::r) T q
def level (P:Program) (all:List Oper):List Nd→List Nd→Ask→Option (List Nd×Ask)
 | [],T,q=>some (T,q)
 | nd::r,T,q=>match expand P all nd T q with
   | some (T',q')=>level P all r T' q'
   | none=>none
def explore (P:Program) (all:List Oper):Nat→List Nd→Ask→Option (St×Ask)
 | 0,nds,q=>match nds with
   | [nd]=>match readyL all nd.1 with
     | []=>some (nd.2,q)
     | _=>none
   | _=>none
 | m+1,nds,q=>match level P all nds [] q with
   | some (T,q')=>explore P all m T q'
   | none=>none
def AskOk (q:Ask):Prop:=(∀ p∈q.1,p.1=p.2)∧∀ v∈q.2,All v
def AskLe (q r:Ask):Prop:=(∀ p∈q.1,p∈r.1)∧∀ v∈q.2,v∈r.2
theorem AskLe.refl (q:Ask):AskLe q q:=⟨fun _ h=>h,fun _ h=>h⟩
theorem AskLe.trans {q r s:Ask} (h:AskLe q r) (h':AskLe r s):AskLe q s:=⟨fun p hp=>h'.1 p (h.1 p hp),fun v hv=>h'.2 v (h.2 v hv)⟩
theorem AskOk.le {q r:Ask} (h:AskLe q r) (hr:AskOk r):AskOk q:=⟨fun p hp=>hr.1 p (h.1 p hp),fun v hv=>hr.2 v (h.2 v hv)⟩
theorem addNd_spec (x:Nd) (T:List Nd) (q:Ask):AskLe q (addNd x T q).2∧(∀ y∈T,y∈(addNd x T q).1)∧(AskOk (addNd x T q).2→x∈(addNd x T q).1):=by
 unfold addNd
 split
 ·rename_i s hs
  refine ⟨⟨fun p hp=>.tail _ hp,fun v hv=>hv⟩,fun y hy=>hy,fun hq=>?_⟩
  have:=hq.1 (s,x.2) (.head _)
  simp only at this
  have hm:=findNd_mem hs
  rw [this] at hm
  exact hm
 ·exact ⟨AskLe.refl q,fun y hy=>List.mem_append_left _ hy,fun _=>List.mem_append_right _ (.head _)⟩
section
variable {P:Program} {b:Base} {Q:Exit→Act→World→Prop} {k:List K} {all:List Oper} {m:Nat}
def NdRun (P:Program) (b:Base) (Q:Exit→Act→World→Prop) (k:List K) (all:List Oper) (m:Nat) (nd:Nd):Prop:=Run P b Q (.mix all nd.1 m::k) nd.2
theorem addAll_spec {nd:Nd}:∀ {l:List Nat} {T T':List Nd} {q q':Ask},addAll P all nd l T q=some (T',q') →
 AskLe q q'∧(∀ y∈T,y∈T')∧(AskOk q'→(∀ y∈T',NdRun P b Q k all m y)→∀ i∈l,Run P b Q (.mixAt all nd.1 m i::k) nd.2)
 | [],T,T',q,q',h=>by
   cases h
   exact ⟨AskLe.refl _,fun _ h=>h,fun _ _ i hi=>by cases hi⟩
 | i::r,T,T',q,q',h=>by
   simp only [addAll] at h
   split at h
   ·rename_i st' vc he
    obtain ⟨h1,h2,h3⟩:=addAll_spec h
    obtain ⟨g1,g2,g3⟩:=addNd_spec (setL nd.1 i,canon st') T (q.1,vc::q.2)
    refine ⟨AskLe.trans (r:=(q.1,vc::q.2)) ⟨fun p hp=>hp,fun v hv=>.tail _ hv⟩ (g1.trans h1),fun y hy=>h2 y (g2 y hy),fun hq hT j hj=>?_⟩
    cases hj with
    | head =>
      have hx:=h2 _ (g3 (AskOk.le h1 hq))
      have hvc:All vc:=(AskOk.le (g1.trans h1) hq).2 vc (.head _)
      exact runEff he hvc (canon_run (hT _ hx))
    | tail _ hj=>exact h3 hq hT j hj
   ·cases h
theorem expand_spec {nd:Nd} {T T':List Nd} {q q':Ask} (h:expand P all nd T q=some (T',q')) :
 AskLe q q'∧(∀ y∈T,y∈T')∧(AskOk q'→(∀ y∈T',NdRun P b Q k all m y)→NdRun P b Q k all (m+1) nd):=by
 unfold expand at h
 split at h
 ·rename_i i st' vc he
  obtain ⟨g1,g2,g3⟩:=addNd_spec (setL nd.1 i,canon st') T (q.1,vc::q.2)
  have e:=Option.some.inj h
  rw [e] at g1 g2 g3
  refine ⟨AskLe.trans (r:=(q.1,vc::q.2)) ⟨fun p hp=>hp,fun v hv=>.tail _ hv⟩ g1,g2,fun hq hT=>?_⟩
  have hvc:All vc:=(AskOk.le g1 hq).2 vc (.head _)
  exact runPure he hvc (canon_run (hT _ (g3 hq)))
 ·split at h
  ·cases h
  ·rename_i i r hr
   obtain ⟨h1,h2,h3⟩:=addAll_spec (b:=b) (Q:=Q) (k:=k) (m:=m) h
   refine ⟨h1,h2,fun hq hT=>runAll (by rw [hr];simp) (fun j hj=>h3 hq hT j (by rw [← hr];exact hj))⟩
theorem level_spec:∀ {nds:List Nd} {T T':List Nd} {q q':Ask},level P all nds T q=some (T',q') →
 AskLe q q'∧(∀ y∈T,y∈T')∧(AskOk q'→(∀ y∈T',NdRun P b Q k all m y)→∀ nd∈nds,NdRun P b Q k all (m+1) nd)
 | [],T,T',q,q',h=>by
   cases h
   exact ⟨AskLe.refl _,fun _ h=>h,fun _ _ nd hn=>by cases hn⟩
 | nd::r,T,T',q,q',h=>by
   simp only [level] at h
   split at h
   ·rename_i T1 q1 he
    obtain ⟨h1,h2,h3⟩:=level_spec h
    obtain ⟨g1,g2,g3⟩:=expand_spec (b:=b) (Q:=Q) (k:=k) (m:=m) he
    refine ⟨g1.trans h1,fun y hy=>h2 y (g2 y hy),fun hq hT x hx=>?_⟩
    cases hx with
    | head=>exact g3 (AskOk.le h1 hq) (fun y hy=>hT y (h2 y hy))
    | tail _ hx=>exact h3 hq hT x hx
   ·cases h
theorem explore_spec:∀ {m:Nat} {nds:List Nd} {q:Ask} {st':St} {q':Ask},explore P all m nds q=some (st',q') →
 AskLe q q'∧(AskOk q'→Run P b Q k st'→∀ nd∈nds,NdRun P b Q k all m nd)
 | 0,nds,q,st',q',h=>by
   simp only [explore] at h
   split at h
   ·rename_i nd
    split at h
    ·rename_i hr
     cases h
     refine ⟨AskLe.refl _,fun _ hq x hx=>?_⟩
     cases List.mem_singleton.1 hx
     exact runDone hr hq
    ·cases h
   ·cases h
 | m+1,nds,q,st',q',h=>by
   simp only [explore] at h
   split at h
   ·rename_i T q1 hl
    obtain ⟨h1,h2⟩:=explore_spec h
    obtain ⟨g1,g2,g3⟩:=level_spec (b:=b) (Q:=Q) (k:=k) (m:=m) hl
    exact ⟨g1.trans h1,fun hq hr=>g3 (AskOk.le h1 hq) (h2 hq hr)⟩
   ·cases h
end
def Cfg.dag (P:Program) (c:Cfg):Option (St×Ask):=match (seg P 5000 c.k c.st).2 with
 | .any all listed n l _ st=>if l.all (readyI all listed) then explore P all (n+1) [(listed,canon st)] ([],[]) else none
 | _=>none
def Cfg.dagK (P:Program) (c:Cfg):Cfg:=match (seg P 5000 c.k c.st).2 with
 | .any all listed n _ k st=>match explore P all (n+1) [(listed,canon st)] ([],[]) with
   | some x=>⟨k,x.1⟩
   | none=>noCfg
 | _=>noCfg
def lG (o:Option (St×Ask)):Option (List St×List (List Prop)):=match o with
 | some x=>some (x.2.1.map Prod.fst,x.2.2)
 | none=>none
def rG (V:List (List Prop)) (ix:List Nat) (o:Option (St×Ask)):Option (List St×List (List Prop)):=match o with
 | some x=>some (x.2.1.map Prod.snd,ix.map fun i=>V.getD i [False])
 | none=>some ([],[])
def flatP:List (List Prop)→List Prop
 | []=>[]
 | x::r=>x++flatP r
theorem flatP_mem {V:List (List Prop)} {v:List Prop} (h:v∈V) {p:Prop} (hp:p∈v):p∈flatP V:=by
 induction V with
 | nil=>cases h
 | cons x r ih =>
   cases h with
   | head=>exact List.mem_append_left _ hp
   | tail _ h=>exact List.mem_append_right _ (ih h)
section
variable {P:Program} [hw:Wide P] {fn:Func} {n0:Nat} {U:Tgt} {c:Cfg}
theorem RunF.dag {n:Nat} {vc:List Prop} (V:List (List Prop)) (ix:List Nat) (h:see P fn c=(vc,.any n)) (hv:Conj vc) (hd:lG (c.dag P)=rG V ix (c.dag P)) (hix:ix.all (fun i=>Nat.blt i V.length)=true) (hV:Conj (flatP V)) (next:RunF P fn n0 U (c.dagK P)):RunF P fn n0 U c:=by
 unfold RunF at next ⊢
 intro b hb
 unfold see at h
 unfold Cfg.dag at hd
 unfold Cfg.dagK at next
 generalize hg:seg P 5000 c.k c.st=r at h hd next
 obtain ⟨vc',out⟩:=r
 cases out<;>simp only [Prod.mk.injEq,reduceCtorEq,and_false] at h
 case any all listed n' l k st =>
  simp only [View.any.injEq] at h
  obtain ⟨rfl,rfl⟩:=h
  simp only at hd next
  cases hl:l.all (readyI all listed) with
  | false=>rw [hl] at hd;cases hd
  | true =>
  rw [hl] at hd
  simp only [if_true] at hd
  cases hx:explore P all (n'+1) [(listed,canon st)] ([],[]) with
  | none=>rw [hx] at hd;cases hd
  | some x =>
    obtain ⟨stf,q⟩:=x
    rw [hx] at hd next
    simp only [lG,rG,Option.some.injEq,Prod.mk.injEq] at hd
    obtain ⟨hd1,hd2⟩:=hd
    have hq:AskOk q:=by
     refine ⟨fun p hp=>?_,fun v hvm=>?_⟩
     ·obtain ⟨i,hi⟩:=List.mem_iff_getElem?.1 hp
      have e:(q.1.map Prod.fst)[i]?=(q.1.map Prod.snd)[i]?:=by rw [hd1]
      simpa only [List.getElem?_map,hi,Option.map_some,Option.some.injEq] using e
     ·rw [hd2] at hvm
      obtain ⟨i,hi,rfl⟩:=List.mem_map.1 hvm
      have hlt:=Nat.lt_of_lt_of_le (Nat.lt_of_succ_le (Nat.le_of_ble_eq_true (List.all_eq_true.1 hix i hi))) (Nat.le_refl _)
      intro p hp
      rw [List.getD_eq_getElem?_getD,List.getElem?_eq_getElem hlt] at hp
      exact hV.all p (flatP_mem (List.getElem_mem hlt) hp)
    obtain ⟨_,h2⟩:=explore_spec (b:=b) (Q:=U b) (k:=k) hx
    have hrun:=h2 hq (next b hb) _ (.head _)
    refine seg_sound hw.mixed 5000 _ _ _ _ hg hv.toAll (fun i hi a w hs hsel=>?_)
    have:=(canon_run (show Run P b (U b) (.mix all listed (n'+1)::k) (canon st) from hrun) a w hs hsel).2 i (readyI_iff.1 (List.all_eq_true.1 hl i hi))
    rw [← setL_toArray] at this
    exact this
 all_goals first | (unfold callV at h;split at h<;>simp at h;done) | (split at h<;>simp at h)
theorem tDag (n:Nat) (V:List (List Prop)) (ix:List Nat) (next:RunF P fn n0 U (c.dagK P)) (hV:Conj (flatP V):=by exact trivial) (vc:List Prop:=[]) (hv:Conj vc:=by exact trivial)
 (h:see P fn c=(vc,.any n):=by kernel_rfl) (hd:lG (c.dag P)=rG V ix (c.dag P):=by kernel_rfl) (hix:ix.all (fun i=>Nat.blt i V.length)=true:=by kernel_rfl):RunF P fn n0 U c:=RunF.dag V ix h hv hd hix hV next
end
attribute [irreducible] Cfg.dag Cfg.dagK lG rG
end Go.Tx
namespace Go.Proofs.Ytmjjikcappbkeaa
open Go Go.Tx
def nthT (l:List TC) (j:Nat):TC:=match nth l j with
 | some t=>t
 | none=>.any
def rowOf {α:Type} [Inhabited α] (size:Nat) (tc:α→Nat→TC) (l:List α):Reg:=.row size l.length (fun i=>tc (l.getD i default)) none
def ownOf {α:Type} [Inhabited α] (ty size:Nat) (tc:α→Nat→TC) (l:List α):Reg:=.own ty size l.length (fun i=>tc (l.getD i default)) none
def i64T (n:Int):Nat→TC:=nthT [.val (.int .i64 n)]
theorem i64T.flat (x:Int):∀ j,j<1→flatT (i64T x j):=by
 intro j hj
 match j,hj with
 | 0,_=>exact ⟨_,rfl,rfl⟩
abbrev IntRow (l:List Int):Reg:=.row 1 l.length (fun i=>i64T (l.getD i 0)) none
abbrev IntOwn (l:List Int):Reg:=.own 3 1 l.length (fun i=>i64T (l.getD i 0)) none
abbrev WordOwn (l:List Int):Reg:=.own 2 1 l.length (fun i=>i64T (l.getD i 0)) none
structure Did where
 kind:Int
 core:Int
 pc:Int
 addr:Int
 word:Int
 put:Int
 own:Bool
 deriving Inhabited,DecidableEq
def Did.tl (x:Did):List TC:=[.val (.int .u8 x.kind),.val (.int .i64 x.core),.val (.int .i64 x.pc),.val (.int .i64 x.addr),.val (.int .i64 x.word),.val (.int .i64 x.put),.val (.bool x.own)]
def Did.tc (x:Did):Nat→TC:=nthT x.tl
def Did.cs (x:Did):List C:=[.i .u8 x.kind,.i .i64 x.core,.i .i64 x.pc,.i .i64 x.addr,.i .i64 x.word,.i .i64 x.put,.b x.own]
theorem Did.flat (x:Did):∀ j,j<7→flatT (x.tc j):=by
 intro j hj
 match j,hj with
 | 0,_=>exact ⟨_,rfl,rfl⟩
 | 1,_=>exact ⟨_,rfl,rfl⟩
 | 2,_=>exact ⟨_,rfl,rfl⟩
 | 3,_=>exact ⟨_,rfl,rfl⟩
 | 4,_=>exact ⟨_,rfl,rfl⟩
 | 5,_=>exact ⟨_,rfl,rfl⟩
 | 6,_=>exact ⟨_,rfl,rfl⟩
abbrev Did.rowR (l:List Did):Reg:=rowOf 7 Did.tc l
abbrev Did.ownR (l:List Did):Reg:=ownOf 66 7 Did.tc l
structure Ev where
 kind:Int
 core:Int
 thing:Int
 word:Int
 put:Int
 own:Bool
 pos:Int
 deriving Inhabited,DecidableEq
def Ev.tl (x:Ev):List TC:=[.val (.int .u8 x.kind),.val (.int .i64 x.core),.val (.int .i64 x.thing),.val (.int .i64 x.word),.val (.int .i64 x.put),.val (.bool x.own),.val (.int .i64 x.pos)]
def Ev.tc (x:Ev):Nat→TC:=nthT x.tl
def Ev.cs (x:Ev):List C:=[.i .u8 x.kind,.i .i64 x.core,.i .i64 x.thing,.i .i64 x.word,.i .i64 x.put,.b x.own,.i .i64 x.pos]
theorem Ev.flat (x:Ev):∀ j,j<7→flatT (x.tc j):=by
 intro j hj
 match j,hj with
 | 0,_=>exact ⟨_,rfl,rfl⟩
 | 1,_=>exact ⟨_,rfl,rfl⟩
 | 2,_=>exact ⟨_,rfl,rfl⟩
 | 3,_=>exact ⟨_,rfl,rfl⟩
 | 4,_=>exact ⟨_,rfl,rfl⟩
 | 5,_=>exact ⟨_,rfl,rfl⟩
 | 6,_=>exact ⟨_,rfl,rfl⟩
abbrev Ev.rowR (l:List Ev):Reg:=rowOf 7 Ev.tc l
abbrev Ev.ownR (l:List Ev):Reg:=ownOf 168 7 Ev.tc l
structure Blk where
 lock:Int
 core:Int
 from_:Int
 left:Int
 to:Int
 deriving Inhabited,DecidableEq
def Blk.tl (x:Blk):List TC:=[.val (.int .i64 x.lock),.val (.int .i64 x.core),.val (.int .i64 x.from_),.val (.int .i64 x.left),.val (.int .i64 x.to)]
def Blk.tc (x:Blk):Nat→TC:=nthT x.tl
def Blk.cs (x:Blk):List C:=[.i .i64 x.lock,.i .i64 x.core,.i .i64 x.from_,.i .i64 x.left,.i .i64 x.to]
theorem Blk.flat (x:Blk):∀ j,j<5→flatT (x.tc j):=by
 intro j hj
 match j,hj with
 | 0,_=>exact ⟨_,rfl,rfl⟩
 | 1,_=>exact ⟨_,rfl,rfl⟩
 | 2,_=>exact ⟨_,rfl,rfl⟩
 | 3,_=>exact ⟨_,rfl,rfl⟩
 | 4,_=>exact ⟨_,rfl,rfl⟩
structure Hnd where
 thing:Int
 core:Int
 pos:Int
 read:Int
 last:Int
 deriving Inhabited,DecidableEq
def Hnd.tl (x:Hnd):List TC:=[.val (.int .i64 x.thing),.val (.int .i64 x.core),.val (.int .i64 x.pos),.val (.int .i64 x.read),.val (.int .i64 x.last)]
def Hnd.tc (x:Hnd):Nat→TC:=nthT x.tl
def Hnd.cs (x:Hnd):List C:=[.i .i64 x.thing,.i .i64 x.core,.i .i64 x.pos,.i .i64 x.read,.i .i64 x.last]
theorem Hnd.flat (x:Hnd):∀ j,j<5→flatT (x.tc j):=by
 intro j hj
 match j,hj with
 | 0,_=>exact ⟨_,rfl,rfl⟩
 | 1,_=>exact ⟨_,rfl,rfl⟩
 | 2,_=>exact ⟨_,rfl,rfl⟩
 | 3,_=>exact ⟨_,rfl,rfl⟩
 | 4,_=>exact ⟨_,rfl,rfl⟩
structure Cls where
 kind:Int
 thread:Int
 lock:Int
 deriving Inhabited,DecidableEq
def Cls.tl (x:Cls):List TC:=[.val (.int .u8 x.kind),.val (.int .i64 x.thread),.val (.int .i64 x.lock)]
def Cls.tc (x:Cls):Nat→TC:=nthT x.tl
def Cls.cs (x:Cls):List C:=[.i .u8 x.kind,.i .i64 x.thread,.i .i64 x.lock]
theorem Cls.flat (x:Cls):∀ j,j<3→flatT (x.tc j):=by
 intro j hj
 match j,hj with
 | 0,_=>exact ⟨_,rfl,rfl⟩
 | 1,_=>exact ⟨_,rfl,rfl⟩
 | 2,_=>exact ⟨_,rfl,rfl⟩
abbrev Cls.rowR (l:List Cls):Reg:=rowOf 3 Cls.tc l
structure Prt where
 thread:Int
 word:Int
 deriving Inhabited,DecidableEq
def Prt.tl (x:Prt):List TC:=[.val (.int .i64 x.thread),.val (.int .i64 x.word)]
def Prt.tc (x:Prt):Nat→TC:=nthT x.tl
def Prt.cs (x:Prt):List C:=[.i .i64 x.thread,.i .i64 x.word]
theorem Prt.flat (x:Prt):∀ j,j<2→flatT (x.tc j):=by
 intro j hj
 match j,hj with
 | 0,_=>exact ⟨_,rfl,rfl⟩
 | 1,_=>exact ⟨_,rfl,rfl⟩
abbrev Prt.rowR (l:List Prt):Reg:=rowOf 2 Prt.tc l
abbrev Prt.ownR (l:List Prt):Reg:=ownOf 81 2 Prt.tc l
structure Stp where
 kind:Int
 core:Int
 deriving Inhabited,DecidableEq
def Stp.tl (x:Stp):List TC:=[.val (.int .u8 x.kind),.val (.int .i64 x.core)]
def Stp.tc (x:Stp):Nat→TC:=nthT x.tl
def Stp.cs (x:Stp):List C:=[.i .u8 x.kind,.i .i64 x.core]
theorem Stp.flat (x:Stp):∀ j,j<2→flatT (x.tc j):=by
 intro j hj
 match j,hj with
 | 0,_=>exact ⟨_,rfl,rfl⟩
 | 1,_=>exact ⟨_,rfl,rfl⟩
abbrev Stp.rowR (l:List Stp):Reg:=rowOf 2 Stp.tc l
abbrev Stp.ownR (l:List Stp):Reg:=ownOf 63 2 Stp.tc l
structure Sto where
 pos:Int
 addr:Int
 word:Int
 deriving Inhabited,DecidableEq
def Sto.tl (x:Sto):List TC:=[.val (.int .i64 x.pos),.val (.int .i64 x.addr),.val (.int .i64 x.word)]
def Sto.tc (x:Sto):Nat→TC:=nthT x.tl
def Sto.cs (x:Sto):List C:=[.i .i64 x.pos,.i .i64 x.addr,.i .i64 x.word]
theorem Sto.flat (x:Sto):∀ j,j<3→flatT (x.tc j):=by
 intro j hj
 match j,hj with
 | 0,_=>exact ⟨_,rfl,rfl⟩
 | 1,_=>exact ⟨_,rfl,rfl⟩
 | 2,_=>exact ⟨_,rfl,rfl⟩
abbrev Sto.rowR (l:List Sto):Reg:=rowOf 3 Sto.tc l
abbrev Sto.ownR (l:List Sto):Reg:=ownOf 144 3 Sto.tc l
structure Ins where
 kind:Int
 op:Int
 d:Int
 a:Int
 b:Int
 addr:Int
 to:Int
 word:Int
 from_:Int
 deriving Inhabited,DecidableEq
def Ins.tl (x:Ins):List TC:=[.val (.int .u8 x.kind),.val (.int .u8 x.op),.val (.int .i64 x.d),.val (.int .i64 x.a),.val (.int .i64 x.b),.val (.int .i64 x.addr),.val (.int .i64 x.to),.val (.int .i64 x.word),.val (.int .i64 x.from_)]
def Ins.tc (x:Ins):Nat→TC:=nthT x.tl
def Ins.cs (x:Ins):List C:=[.i .u8 x.kind,.i .u8 x.op,.i .i64 x.d,.i .i64 x.a,.i .i64 x.b,.i .i64 x.addr,.i .i64 x.to,.i .i64 x.word,.i .i64 x.from_]
theorem Ins.flat (x:Ins):∀ j,j<9→flatT (x.tc j):=by
 intro j hj
 match j,hj with
 | 0,_=>exact ⟨_,rfl,rfl⟩
 | 1,_=>exact ⟨_,rfl,rfl⟩
 | 2,_=>exact ⟨_,rfl,rfl⟩
 | 3,_=>exact ⟨_,rfl,rfl⟩
 | 4,_=>exact ⟨_,rfl,rfl⟩
 | 5,_=>exact ⟨_,rfl,rfl⟩
 | 6,_=>exact ⟨_,rfl,rfl⟩
 | 7,_=>exact ⟨_,rfl,rfl⟩
 | 8,_=>exact ⟨_,rfl,rfl⟩
abbrev Ins.rowR (l:List Ins):Reg:=rowOf 9 Ins.tc l
abbrev Ins.ownR (l:List Ins):Reg:=ownOf 135 9 Ins.tc l
structure Cor where
 name:ByteArray
 code:List Ins
 deriving Inhabited,DecidableEq
def Cor.tl (x:Cor):List TC:=[.val (.string x.name),.sub 135 9 (x.code).length (fun i=>Ins.tc ((x.code).getD i default))]
def Cor.tc (x:Cor):Nat→TC:=nthT x.tl
def Cor.cs (x:Cor) (r_code:Nat):List C:=[.v (.string x.name),.h r_code]
abbrev Cor.rowR (l:List Cor):Reg:=rowOf 2 Cor.tc l
abbrev Cor.ownR (l:List Cor):Reg:=ownOf 131 2 Cor.tc l
theorem getD_append_lt {α:Type} (d:α) (l r:List α) {i:Nat} (h:i<l.length):(l++r).getD i d=l.getD i d:=by
 rw [List.getD_eq_getElem?_getD,List.getD_eq_getElem?_getD,List.getElem?_append_left h]
theorem getD_snoc {α:Type} (d:α) (l:List α) (x:α):(l++[x]).getD l.length d=x:=by
 rw [List.getD_eq_getElem?_getD,List.getElem?_append_right (Nat.le_refl _)];simp
theorem snoc_get {α:Type} (d:α) (tc:α→Nat→TC) (l:List α) (x:α):∀ i,i<(l++[x]).length→tc ((l++[x]).getD i d)=if i=l.length then tc x else tc (l.getD i d):=by
 intro i hi
 by_cases h:i=l.length
 ·subst h;rw [if_pos rfl,getD_snoc]
 ·rw [if_neg h,getD_append_lt]
  simp at hi;omega
theorem snoc_len {α:Type} (l:List α) (x:α):(l++[x]).length=l.length+1:=by simp
theorem snoc_lo {α:Type} {d:α} {l:List α} {x:α} {i:Nat} (h1:i<(l++[x]).length) (h2:i≠l.length):(l++[x]).getD i d=l.getD i d:=
 getD_append_lt _ _ _ (by simp at h1;omega)
theorem set_updT {α:Type} (d:α) (tc:α→Nat→TC) (l:List α) (k off:Nat) (x:α) (vs:List Value) (h:∀ j,tc x j=if off≤j∧j<off+vs.length then .val (vs.getD (j-off) undef) else tc (l.getD k d) j) :
 ∀ i,i<(l.set k x).length→tc ((l.set k x).getD i d)=updT (fun i=>tc (l.getD i d)) k off vs i:=by
 intro i hi
 rw [List.length_set] at hi
 funext j
 unfold updT
 by_cases e:i=k
 ·subst e
  rw [List.getD_eq_getElem?_getD,List.getElem?_set_self hi]
  simp only [Option.getD_some,true_and]
  exact h j
 ·rw [List.getD_eq_getElem?_getD,List.getElem?_set_ne (Ne.symm e),← List.getD_eq_getElem?_getD]
  simp [e]
theorem set_ints (l:List Int) (k:Nat) (x:Int):∀ i,i<(l.set k x).length→i64T ((l.set k x).getD i 0)=updT (fun i=>i64T (l.getD i 0)) k 0 [.int .i64 x] i:=
 set_updT 0 i64T l k 0 x _ (fun j=>by rcases j with _ | j<;>simp [i64T,nthT,nth])
theorem take_row {α:Type} (d:α) (tc:α→Nat→TC) (l:List α) (k n:Nat):∀ i,i<((l.drop k).take n).length→tc (((l.drop k).take n).getD i d)=tc (l.getD (k+i) d):=by
 intro i hi
 congr 1
 rw [List.length_take] at hi
 rw [List.getD_eq_getElem?_getD,List.getElem?_take_of_lt (by omega),List.getElem?_drop,← List.getD_eq_getElem?_getD]
theorem take_len {α:Type} (l:List α) (k n:Nat) (h:k+n≤l.length):((l.drop k).take n).length=n:=by simp;omega
theorem nthT_row (size:Nat) (vs:List Value) (i:Nat) (tl:List TC) (h:((List.range size).map fun j=>TC.val (vs.getD (i * size+j) undef))=tl):nthT tl=rowT size vs i:=by
 subst h
 funext j
 unfold nthT rowT
 have e:∀ (l:List TC) (k:Nat),nth l k=l[k]?:=fun l k=>nth_eq l k
 rw [e,List.getElem?_map]
 by_cases hj:j<size
 ·rw [List.getElem?_range hj,show Nat.blt j size=true by simp only [Nat.blt_eq];exact hj];rfl
 ·rw [List.getElem?_eq_none (by simp;omega),show Nat.blt j size=false by rw [Bool.eq_false_iff];simp only [ne_eq,Nat.blt_eq];exact hj];rfl
theorem rowT_list {α:Type} (d:α) (tl:α→List TC) (l:List α) (size:Nat) (vs:List Value) (h:((List.range l.length).map fun i=>(List.range size).map fun j=>TC.val (vs.getD (i * size+j) undef))=l.map tl):∀ i,i<l.length→nthT (tl (l.getD i d))=rowT size vs i:=by
 intro i hi
 refine nthT_row size vs i _ ?_
 have:=congrArg (fun x=>x[i]?) h
 simp only [List.getElem?_map,List.getElem?_range hi,List.getElem?_eq_getElem hi,Option.map_some,Option.some.injEq] at this
 rw [this,List.getD_eq_getElem?_getD,List.getElem?_eq_getElem hi];rfl
end Go.Proofs.Ytmjjikcappbkeaa
namespace Go.Proofs.Ytmjjikcappbkeaa
open Go Go.Tx
theorem BL:(∀ a b:Bool,((a&&b)=true)=(a=true∧b=true))∧(∀ a b:Bool,((a||b)=true)=(a=true∨b=true))∧(∀ a b:Bool,((a&&b)=false)=(a=false∨b=false))∧(∀ a b:Bool,((a||b)=false)=(a=false∧b=false)) ∧
 (∀ a:Bool,((!a)=true)=(a=false))∧(∀ a:Bool,((!a)=false)=(a=true))∧(∀ (p:Prop) [Decidable p],(decide p=true)=p)∧(∀ (p:Prop) [Decidable p],(decide p=false)=¬ p):=by
 exact ⟨by simp,by simp,by intro a b;cases a<;>cases b<;>simp,by simp,by simp,by simp,by simp,by simp⟩
def twoB (op:Int):Bool:=decide (0<op)&&decide (op<19)&&!decide (op=17)&&!decide (op=18)
def opB (op:Int):Bool:=decide (0<op)&&decide (op<19)
def useD (k:Int):Bool:=decide (k=1)||decide (k=2)||decide (k=3)||decide (k=5)
def useA (k:Int):Bool:=decide (k=2)||decide (k=4)||decide (k=7)||decide (k=9)
def useAddr (k:Int):Bool:=decide (k=3)||decide (k=4)||decide (k=5)
def useTo (k:Int):Bool:=decide (k=8)||decide (k=9)
def within (u:Bool) (n most:Int):Bool:=u&&decide (0≤n)&&decide (n<most)||!u&&decide (n=0)
def insB (i:Ins) (code memory:Int):Bool:=
 decide (0<i.kind)&&decide (i.kind<11)&&decide (0≤i.from_)&&decide (i.from_≤4096) &&
 (decide (i.kind=2)&&opB i.op||!decide (i.kind=2)&&decide (i.op=0)) &&
 within (useD i.kind) i.d 16&&within (useA i.kind) i.a 16&&within (decide (i.kind=2)&&twoB i.op) i.b 16 &&
 within (useAddr i.kind) i.addr memory&&within (useTo i.kind) i.to code&&(decide (i.kind=1)||decide (i.word=0))
def addrB (k:Int):Bool:=decide (k=2)||decide (k=3)||decide (k=4)||decide (k=8)
def didB (d:Did):Bool:=
 decide (0<d.kind)&&decide (d.kind<9)&&decide (0≤d.core)&&decide (d.core<8)&&decide (0≤d.pc)&&decide (d.pc<16384)&&decide (0≤d.addr)&&decide (d.addr<4096) &&
 (addrB d.kind||decide (d.addr=0))&&(addrB d.kind||decide (d.kind=6)||decide (d.word=0))&&(decide (d.kind=4)||decide (d.put=0))&&(decide (d.kind=2)||!d.own)
def digitB (c:Int):Bool:=decide (48≤c)&&decide (c≤57)
def letterB (c:Int):Bool:=decide (97≤c)&&decide (c≤122)||decide (65≤c)&&decide (c≤90)||decide (c=95)
def wordB (s:ByteArray):Bool:=
 decide (s={ data:=#[115,104,97,114,101,100] })||decide (s={ data:=#[108,111,99,107] })||decide (s={ data:=#[116,104,114,101,97,100] })||decide (s={ data:=#[108,111,99,97,108] })||decide (s={ data:=#[105,102] })||decide (s={ data:=#[101,108,115,101] })||decide (s={ data:=#[119,104,105,108,101] })||decide (s={ data:=#[112,114,105,110,116] })||decide (s={ data:=#[115,107,105,112] })||decide (s={ data:=#[115,119,97,112] })
def byteAt (s:ByteArray) (i:Nat):Int:=((s.data.toList.getD i 0).toNat:Int)
def letgB (c:UInt8):Bool:=letterB (c.toNat:Int)||digitB (c.toNat:Int)
def restB (s:ByteArray) (i:Int):Bool:=(s.data.toList.drop i.toNat).all letgB
def nameB (s:ByteArray):Bool:=decide (1≤(s.size:Int))&&decide ((s.size:Int)≤32)&&!digitB (byteAt s 0)&&!wordB s&&restB s 0
theorem restB_step (s:ByteArray) (i:Int) (h0:0≤i) (h:i<s.size):restB s i=((letterB (byteAt s i.toNat)||digitB (byteAt s i.toNat))&&restB s (i+1)):=by
 unfold restB byteAt
 have hlt:i.toNat<s.data.toList.length:=by simp;omega
 have e:(i+1).toNat=i.toNat+1:=by omega
 rw [e,List.drop_eq_getElem_cons hlt,List.all_cons,List.getD_eq_getElem?_getD,List.getElem?_eq_getElem hlt]
 rfl
theorem restB_end (s:ByteArray) (i:Int) (h:(s.size:Int)≤i):restB s i=true:=by
 unfold restB
 rw [List.drop_eq_nil_of_le (by simp;omega)]
 rfl
def opNames:List ByteArray:=[⟨#[]⟩,⟨#[97,100,100]⟩,⟨#[115,117,98]⟩,⟨#[109,117,108]⟩,⟨#[100,105,118]⟩,⟨#[114,101,109]⟩,⟨#[97,110,100]⟩,⟨#[111,114]⟩,⟨#[120,111,114]⟩,⟨#[115,104,108]⟩,⟨#[115,104,114]⟩,⟨#[105,115]⟩,⟨#[105,115,110,111,116]⟩,⟨#[108,101,115,115]⟩,⟨#[109,111,115,116]⟩,⟨#[97,98,111,118,101]⟩,⟨#[108,101,97,115,116]⟩,⟨#[109,105,110,117,115]⟩,⟨#[110,111,116]⟩]
def kindNames:List ByteArray:=[⟨#[]⟩,⟨#[115,101,116]⟩,⟨#[]⟩,⟨#[108,111,97,100]⟩,⟨#[115,116,111,114,101]⟩,⟨#[115,119,97,112]⟩,⟨#[102,101,110,99,101]⟩,⟨#[112,114,105,110,116]⟩,⟨#[106,117,109,112]⟩,⟨#[122,101,114,111]⟩,⟨#[104,97,108,116]⟩]
def useTab:List (List Int):=[[0,2,1,2,4,2,0,4,32,4,0],[0,64,2,16,16,16,0,0,0,32,0],[0,0,4,0,0,0,0,0,0,0,0],[0,0,8,0,0,0,0,0,0,0,0]]
def opStr (op:Int):ByteArray:=if decide (19≤op) then ⟨#[]⟩ else opNames.getD op.toNat ⟨#[]⟩
def formW (k:Int):ByteArray:=if decide (k=0)||decide (11≤k) then ⟨#[]⟩ else kindNames.getD k.toNat ⟨#[]⟩
def formU (k:Int) (j:Nat):Int:=if decide (k=0)||decide (11≤k) then 0 else (useTab.getD j []).getD k.toNat 0
def formOk (k:Int):Bool:=!(decide (k=0)||decide (11≤k))
def usedAll (k:Int):Int:=bits .or .u8 (bits .or .u8 (bits .or .u8 (bits .or .u8 0 (formU k 0)) (formU k 1)) (formU k 2)) (formU k 3)
def usedI (k op:Int):Int:=if decide (k=2)&&!twoB op then bits .andNot .u8 (usedAll k) 8 else usedAll k
def withinU (all n u most:Int):Bool:=decide (bits .and .u8 all u=0)&&decide (n=0)||!decide (bits .and .u8 all u=0)&&decide (0≤n)&&decide (n<most)
theorem used_val (k op:Int) (h:1≤k∧k≤10):usedI k op=if decide (k=2) then (if twoB op then 15 else 7) else [0,66,0,18,20,18,0,4,32,36,0].getD k.toNat 0:=by
 have:k=1∨k=2∨k=3∨k=4∨k=5∨k=6∨k=7∨k=8∨k=9∨k=10:=by omega
 rcases this with rfl | rfl | rfl | rfl | rfl | rfl | rfl | rfl | rfl | rfl
 all_goals (unfold usedI;first | rfl | (cases twoB op<;>rfl))
theorem opStr_ne (op:Int) (h:0≤op):decide (opStr op=⟨#[]⟩)=!opB op:=by
 by_cases h19:19≤op
 ·simp only [opStr,h19,decide_true,if_true,opB]
  simp;omega
 ·have:op=0∨op=1∨op=2∨op=3∨op=4∨op=5∨op=6∨op=7∨op=8∨op=9∨op=10∨op=11∨op=12∨op=13∨op=14∨op=15∨op=16∨op=17∨op=18:=by omega
  rcases this with rfl | rfl | rfl | rfl | rfl | rfl | rfl | rfl | rfl | rfl | rfl | rfl | rfl | rfl | rfl | rfl | rfl | rfl | rfl
  all_goals decide
theorem bits_tab:bits BinOp.and IntKind.u8 66 1=0∧bits BinOp.and IntKind.u8 66 2=2∧bits BinOp.and IntKind.u8 66 4=0∧bits BinOp.and IntKind.u8 66 8=0∧bits BinOp.and IntKind.u8 66 16=0∧bits BinOp.and IntKind.u8 66 32=0∧bits BinOp.and IntKind.u8 66 64=64∧bits BinOp.and IntKind.u8 7 1=1∧bits BinOp.and IntKind.u8 7 2=2∧bits BinOp.and IntKind.u8 7 4=4∧bits BinOp.and IntKind.u8 7 8=0∧bits BinOp.and IntKind.u8 7 16=0∧bits BinOp.and IntKind.u8 7 32=0∧bits BinOp.and IntKind.u8 7 64=0∧bits BinOp.and IntKind.u8 15 1=1∧bits BinOp.and IntKind.u8 15 2=2∧bits BinOp.and IntKind.u8 15 4=4∧bits BinOp.and IntKind.u8 15 8=8∧bits BinOp.and IntKind.u8 15 16=0∧bits BinOp.and IntKind.u8 15 32=0∧bits BinOp.and IntKind.u8 15 64=0∧bits BinOp.and IntKind.u8 18 1=0∧bits BinOp.and IntKind.u8 18 2=2∧bits BinOp.and IntKind.u8 18 4=0∧bits BinOp.and IntKind.u8 18 8=0∧bits BinOp.and IntKind.u8 18 16=16∧bits BinOp.and IntKind.u8 18 32=0∧bits BinOp.and IntKind.u8 18 64=0∧bits BinOp.and IntKind.u8 20 1=0∧bits BinOp.and IntKind.u8 20 2=0∧bits BinOp.and IntKind.u8 20 4=4∧bits BinOp.and IntKind.u8 20 8=0∧bits BinOp.and IntKind.u8 20 16=16∧bits BinOp.and IntKind.u8 20 32=0∧bits BinOp.and IntKind.u8 20 64=0∧bits BinOp.and IntKind.u8 0 1=0∧bits BinOp.and IntKind.u8 0 2=0∧bits BinOp.and IntKind.u8 0 4=0∧bits BinOp.and IntKind.u8 0 8=0∧bits BinOp.and IntKind.u8 0 16=0∧bits BinOp.and IntKind.u8 0 32=0∧bits BinOp.and IntKind.u8 0 64=0∧bits BinOp.and IntKind.u8 4 1=0∧bits BinOp.and IntKind.u8 4 2=0∧bits BinOp.and IntKind.u8 4 4=4∧bits BinOp.and IntKind.u8 4 8=0∧bits BinOp.and IntKind.u8 4 16=0∧bits BinOp.and IntKind.u8 4 32=0∧bits BinOp.and IntKind.u8 4 64=0∧bits BinOp.and IntKind.u8 32 1=0∧bits BinOp.and IntKind.u8 32 2=0∧bits BinOp.and IntKind.u8 32 4=0∧bits BinOp.and IntKind.u8 32 8=0∧bits BinOp.and IntKind.u8 32 16=0∧bits BinOp.and IntKind.u8 32 32=32∧bits BinOp.and IntKind.u8 32 64=0∧bits BinOp.and IntKind.u8 36 1=0∧bits BinOp.and IntKind.u8 36 2=0∧bits BinOp.and IntKind.u8 36 4=4∧bits BinOp.and IntKind.u8 36 8=0∧bits BinOp.and IntKind.u8 36 16=0∧bits BinOp.and IntKind.u8 36 32=32∧bits BinOp.and IntKind.u8 36 64=0:=by repeat' (first | apply And.intro | rfl)
theorem right_law (i:Ins) (code memory:Int) (hk:0≤i.kind) (ho:0≤i.op) (h1:(!formOk i.kind||decide (i.from_<0)||decide (4096<i.from_))=false) :
 insB i code memory=((decide (bits BinOp.and IntKind.u8 (usedI i.kind i.op) (1:Int)=(0:Int))&&decide (i.op=(0:Int))||!decide (bits BinOp.and IntKind.u8 (usedI i.kind i.op) (1:Int)=(0:Int))&&!decide (opStr i.op={ data:=#[] }))&&withinU (usedI i.kind i.op) i.d (2:Int) (16:Int)&&withinU (usedI i.kind i.op) i.a (4:Int) (16:Int)&&withinU (usedI i.kind i.op) i.b (8:Int) (16:Int)&&withinU (usedI i.kind i.op) i.addr (16:Int) memory&&withinU (usedI i.kind i.op) i.to (32:Int) code&&(!decide (bits BinOp.and IntKind.u8 (usedI i.kind i.op) (64:Int)=(0:Int))||decide (i.word=(0:Int)))):=by
 have hk2:1≤i.kind∧i.kind≤10:=by simp [formOk] at h1;omega
 have hf:0≤i.from_∧i.from_≤4096:=by simp at h1;omega
 rw [used_val _ _ hk2,opStr_ne _ ho]
 obtain ⟨kind,op,d,a,b,addr,to,word,from_⟩:=i
 simp only at *
 have:kind=1∨kind=2∨kind=3∨kind=4∨kind=5∨kind=6∨kind=7∨kind=8∨kind=9∨kind=10:=by omega
 have e0:decide (0≤from_)=true:=by simpa using hf.1
 have e1:decide (from_≤4096)=true:=by simpa using hf.2
 rcases this with rfl | rfl | rfl | rfl | rfl | rfl | rfl | rfl | rfl | rfl
 case inr.inl =>
  cases htw:twoB op<;>simp [insB,within,useD,useA,useAddr,useTo,withinU,htw,e0,e1,bits_tab]
 all_goals
  simp [insB,within,useD,useA,useAddr,useTo,withinU,e0,e1,bits_tab]
def allFrom (p:Int→Bool) (i n:Int):Bool:=(List.range (n-i).toNat).all fun j=>p (i+j)
theorem allFrom_end (p:Int→Bool) {i n:Int} (h:n≤i):allFrom p i n=true:=by
 unfold allFrom
 rw [show (n-i).toNat=0 by omega];rfl
theorem allFrom_step (p:Int→Bool) {i n:Int} (h:i<n):allFrom p i n=(p i&&allFrom p (i+1) n):=by
 unfold allFrom
 rw [show (n-i).toNat=(n-(i+1)).toNat+1 by omega,List.range_succ_eq_map,List.all_cons,List.all_map]
 simp only [Function.comp_def]
 congr 1
 ·simp
 ·congr 1;funext j
  congr 1
  rw [show ((Nat.succ j:Nat):Int)=(j:Int)+1 from rfl];omega
theorem allFrom_next (p:Int→Bool) {i n:Int} (h:i<n) (hp:p i=true):allFrom p i n=allFrom p (i+1) n:=by rw [allFrom_step p h,hp];rfl
theorem allFrom_stop (p:Int→Bool) {i n:Int} (h:i<n) (hp:p i=false):allFrom p i n=false:=by rw [allFrom_step p h,hp];rfl
def findF (p:Int→Bool):Nat→Int→Int
 | 0,i=>i
 | n+1,i=>if p i then findF p n (i+1) else i
def findFrom (p:Int→Bool) (i n:Int):Int:=findF p (n-i).toNat i
theorem findFrom_end (p:Int→Bool) {i n:Int} (h:n=i):findFrom p i n=n:=by
 unfold findFrom;rw [show (n-i).toNat=0 by omega];exact h.symm
theorem findFrom_next (p:Int→Bool) {i n:Int} (h:i<n) (hp:p i=true):findFrom p i n=findFrom p (i+1) n:=by
 unfold findFrom
 rw [show (n-i).toNat=(n-(i+1)).toNat+1 by omega,findF,if_pos hp]
theorem findFrom_stop (p:Int→Bool) {i n:Int} (h:i<n) (hp:p i=false):findFrom p i n=i:=by
 unfold findFrom
 rw [show (n-i).toNat=(n-(i+1)).toNat+1 by omega,findF,if_neg (by simp [hp])]
def corAt (cs:List Cor) (i:Int):Cor:=cs.getD i.toNat default
def insAt (l:List Ins) (i:Int):Ins:=l.getD i.toNat default
def pDiff (cs:List Cor) (i k:Int):Bool:=!decide ((corAt cs k).name=(corAt cs i).name)
def corB (cs:List Cor) (i:Int):Bool:=
 nameB (corAt cs i).name&&allFrom (pDiff cs i) 0 i&&decide (1≤((corAt cs i).code.length:Int))&&decide (((corAt cs i).code.length:Int)≤16384) &&
 (decide ((insAt (corAt cs i).code (((corAt cs i).code.length:Int)-1)).kind=10)||decide ((insAt (corAt cs i).code (((corAt cs i).code.length:Int)-1)).kind=8))
def shapedB (mem:List Int) (sh lk bu:Int) (cs:List Cor):Bool:=
 decide (0≤sh)&&decide (sh≤64)&&decide (0≤lk)&&decide (lk≤16)&&decide (sh+lk≤(mem.length:Int))&&decide ((mem.length:Int)≤4096)&&decide (1≤bu)&&decide (bu≤16)&&decide ((cs.length:Int)≤8) &&
 allFrom (corB cs) 0 cs.length
def nDiff (cs:List Cor) (b:ByteArray) (k:Int):Bool:=!decide ((corAt cs k).name=b)
def indexName (cs:List Cor) (n:Nat) (b:ByteArray):Int:=if findFrom (nDiff cs b) 0 n=n then -1 else findFrom (nDiff cs b) 0 n
theorem findFrom_ge (p:Int→Bool) {n:Int}:∀ (m:Nat) (i:Int),(n-i).toNat=m→i≤n→i≤findFrom p i n∧findFrom p i n≤n:=by
 intro m
 induction m with
 | zero=>intro i h hi;rw [findFrom_end p (show n=i by omega)];omega
 | succ m ih =>
   intro i h hi
   cases hp:p i with
   | true=>rw [findFrom_next p (by omega) hp];have:=ih (i+1) (by omega) (by omega);omega
   | false=>rw [findFrom_stop p (by omega) hp];omega
theorem findFrom_all (p:Int→Bool) {n:Int}:∀ (m:Nat) (i:Int),(n-i).toNat=m→i≤n→decide (findFrom p i n=n)=allFrom p i n:=by
 intro m
 induction m with
 | zero=>intro i h hi;rw [findFrom_end p (show n=i by omega)];rw [allFrom_end p (show n≤i by omega)];simp
 | succ m ih =>
   intro i h hi
   cases hp:p i with
   | true=>rw [findFrom_next p (by omega) hp,allFrom_next p (by omega) hp];exact ih (i+1) (by omega) (by omega)
   | false=>rw [findFrom_stop p (by omega) hp,allFrom_stop p (by omega) hp];simp;omega
def insK (i:Ins):Prop:=(0≤i.kind∧i.kind≤255)∧(0≤i.op∧i.op≤255)
def insOk (mem:List Int) (cs:List Cor) (i k:Int):Bool:=insB (insAt (corAt cs i).code k) (corAt cs i).code.length mem.length
def rowB (mem:List Int) (cs:List Cor) (i:Int):Bool:=decide (findFrom (insOk mem cs i) 0 (corAt cs i).code.length=(corAt cs i).code.length)
def badI (mem:List Int) (cs:List Cor):Int:=findFrom (rowB mem cs) 0 cs.length
def chkE (mem:List Int) (sh lk bu:Int) (cs:List Cor):Int:=if shapedB mem sh lk bu cs&&decide (badI mem cs=cs.length) then 0 else 160
def chkI (mem:List Int) (sh lk bu:Int) (cs:List Cor):Int:=if shapedB mem sh lk bu cs&&!decide (badI mem cs=cs.length) then badI mem cs else 0
def chkK (mem:List Int) (sh lk bu:Int) (cs:List Cor):Int:=if shapedB mem sh lk bu cs&&!decide (badI mem cs=cs.length) then findFrom (insOk mem cs (badI mem cs)) 0 (corAt cs (badI mem cs)).code.length else 0
theorem i64_min:IntKind.i64.min=-9223372036854775808:=rfl
theorem i64_max:IntKind.i64.max=9223372036854775807:=rfl
theorem u8_min:IntKind.u8.min=0:=rfl
theorem u8_max:IntKind.u8.max=255:=rfl
end Go.Proofs.Ytmjjikcappbkeaa
namespace Go.Proofs.Ytmjjikcappbkeaa
open Go Go.Tx
def w64 (n:Int):Int:=IntKind.i64.wrap n
def truthI (b:Bool):Int:=if b then 1 else 0
def divI (a b:Int):Int:=if b=0 then 0 else if b=-1 then w64 (0-a) else w64 (a.tdiv b)
def remI (a b:Int):Int:=if b=0 then a else w64 (a-w64 (divI a b * b))
def cntI (b:Int):Int:=bits .and .u64 (IntKind.u64.wrap b) 63
theorem cntI_nonneg (b:Int):0≤cntI b:=by
 unfold cntI bits
 simp only [IntKind.wrap,IntKind.signed,IntKind.bits]
 simp
 exact Int.emod_nonneg _ (by decide)
def opTwo (k a b:Int):Int:=
 if k=1 then w64 (a+b) else if k=2 then w64 (a-b) else if k=3 then w64 (a * b) else if k=4 then divI a b else if k=5 then remI a b
 else if k=6 then bits .and .i64 a b else if k=7 then bits .or .i64 a b else if k=8 then bits .xor .i64 a b
 else if k=9 then shlI .i64 a (cntI b) else if k=10 then shrI .i64 a (cntI b)
 else if k=11 then truthI (decide (a=b)) else if k=12 then truthI (!decide (a=b)) else if k=13 then truthI (decide (a<b)) else if k=14 then truthI (decide (a≤b))
 else if k=15 then truthI (decide (b<a)) else if k=16 then truthI (decide (b≤a)) else 0
def opOne (k a:Int):Int:=if k=17 then w64 (0-a) else truthI (decide (a=0))
end Go.Proofs.Ytmjjikcappbkeaa
namespace Go.Proofs.Ytmjjikcappbkeaa
open Go Go.Tx
structure VCo where
 pos:Int
 halted:Bool
 regs:List Int
 buf:List Sto
 deriving Inhabited,DecidableEq
def VCo.tl (x:VCo):List TC:=[.val (.int .i64 x.pos),.val (.bool x.halted),
 .val (.int .i64 (x.regs.getD 0 0)),.val (.int .i64 (x.regs.getD 1 0)),.val (.int .i64 (x.regs.getD 2 0)),.val (.int .i64 (x.regs.getD 3 0)),
 .val (.int .i64 (x.regs.getD 4 0)),.val (.int .i64 (x.regs.getD 5 0)),.val (.int .i64 (x.regs.getD 6 0)),.val (.int .i64 (x.regs.getD 7 0)),
 .val (.int .i64 (x.regs.getD 8 0)),.val (.int .i64 (x.regs.getD 9 0)),.val (.int .i64 (x.regs.getD 10 0)),.val (.int .i64 (x.regs.getD 11 0)),
 .val (.int .i64 (x.regs.getD 12 0)),.val (.int .i64 (x.regs.getD 13 0)),.val (.int .i64 (x.regs.getD 14 0)),.val (.int .i64 (x.regs.getD 15 0)),
 .sub 144 3 x.buf.length (fun i=>Sto.tc (x.buf.getD i default))]
def VCo.tc (x:VCo):Nat→TC:=nthT x.tl
def VCo.cs (x:VCo) (rb:Nat):List C:=[.i .i64 x.pos,.b x.halted,
 .i .i64 (x.regs.getD 0 0),.i .i64 (x.regs.getD 1 0),.i .i64 (x.regs.getD 2 0),.i .i64 (x.regs.getD 3 0),.i .i64 (x.regs.getD 4 0),.i .i64 (x.regs.getD 5 0),
 .i .i64 (x.regs.getD 6 0),.i .i64 (x.regs.getD 7 0),.i .i64 (x.regs.getD 8 0),.i .i64 (x.regs.getD 9 0),.i .i64 (x.regs.getD 10 0),.i .i64 (x.regs.getD 11 0),
 .i .i64 (x.regs.getD 12 0),.i .i64 (x.regs.getD 13 0),.i .i64 (x.regs.getD 14 0),.i .i64 (x.regs.getD 15 0),.h rb]
abbrev VCo.rowR (l:List VCo):Reg:=rowOf 19 VCo.tc l
abbrev VCo.ownR (l:List VCo):Reg:=ownOf 141 19 VCo.tc l
def vmC (sh lk bu:Int) (ro rc rm rp:Nat):List C:=[.v (.slice none 0 0),.i .i64 sh,.i .i64 lk,.i .i64 bu,.h ro,.h rc,.h rm,.h rp]
def stallB (bu:Int) (i:Ins) (b:List Sto):Bool:=
 if i.kind=4 then decide (bu≤(b.length:Int)) else if i.kind=5∨i.kind=6∨i.kind=7 then decide (0<(b.length:Int)) else false
def vmHas (n:Nat) (k:Int):Int:=if k<0∨(n:Int)≤k then 180 else 0
abbrev WordRow (l:List Int):Reg:=.row 1 l.length (fun i=>i64T (l.getD i 0)) none
theorem set_tc {α:Type} (d:α) (tc:α→Nat→TC) (l:List α) (k:Nat) (x:α):∀ i,i<(l.set k x).length→tc ((l.set k x).getD i d)=if i=k then tc x else tc (l.getD i d):=by
 intro i hi
 rw [List.length_set] at hi
 rw [List.getD_eq_getElem?_getD,List.getElem?_set,List.getD_eq_getElem?_getD]
 by_cases h:k=i
 ·subst h;simp [hi]
 ·rw [if_neg h,if_neg (Ne.symm h)]
def getR (l:List Int) (n:Nat):Int:=[l.getD 0 0,l.getD 1 0,l.getD 2 0,l.getD 3 0,l.getD 4 0,l.getD 5 0,l.getD 6 0,l.getD 7 0,l.getD 8 0,l.getD 9 0,l.getD 10 0,l.getD 11 0,l.getD 12 0,l.getD 13 0,l.getD 14 0,l.getD 15 0].getD n 0
def setR (l:List Int) (n:Nat) (x:Int):List Int:=[if n=0 then x else l.getD 0 0,if n=1 then x else l.getD 1 0,if n=2 then x else l.getD 2 0,if n=3 then x else l.getD 3 0,if n=4 then x else l.getD 4 0,if n=5 then x else l.getD 5 0,if n=6 then x else l.getD 6 0,if n=7 then x else l.getD 7 0,if n=8 then x else l.getD 8 0,if n=9 then x else l.getD 9 0,if n=10 then x else l.getD 10 0,if n=11 then x else l.getD 11 0,if n=12 then x else l.getD 12 0,if n=13 then x else l.getD 13 0,if n=14 then x else l.getD 14 0,if n=15 then x else l.getD 15 0]
def opV (k a b:Int):Int:=if (!decide ((if twoB k then (0:Int) else 2)=0))=true then (if opB k&&!twoB k then opOne k a else 0) else (if twoB k then opTwo k a b else 0)
def setT (i:Ins) (c:VCo):VCo:={ c with regs:=setR c.regs i.d.toNat i.word }
def opT (i:Ins) (c:VCo):VCo:={ c with regs:=setR c.regs i.d.toNat (opV i.op (getR c.regs i.a.toNat) (getR c.regs i.b.toNat)) }
def jumpT (i:Ins) (c:VCo):VCo:={ c with pos:=i.to }
def zeroT (i:Ins) (c:VCo):VCo:={ c with pos:=if getR c.regs i.a.toNat=0 then i.to else c.pos }
def haltT (pc:Int) (c:VCo):VCo:={ c with halted:=true,pos:=pc }
def storeT (i:Ins) (pc:Int) (c:VCo):VCo:={ c with buf:=c.buf++[⟨pc,i.addr,getR c.regs i.a.toNat⟩] }
def bufUp (addr:Int) (b:List Sto) (w:Int):Nat→Int×Bool
 | 0=>(w,false)
 | n+1=>if (b.getD n default).addr=addr then ((b.getD n default).word,true) else bufUp addr b w n
def loadV (mem:List Int) (addr:Int) (b:List Sto):Int×Bool:=bufUp addr b (mem.getD addr.toNat 0) b.length
def loadT (i:Ins) (mem:List Int) (c:VCo):VCo:={ c with regs:=setR c.regs i.d.toNat (loadV mem i.addr c.buf).1 }
def swapT (i:Ins) (mem:List Int) (c:VCo):VCo:={ c with regs:=setR c.regs i.d.toNat (mem.getD i.addr.toNat 0) }
end Go.Proofs.Ytmjjikcappbkeaa
namespace Go.Proofs.Ytmjjikcappbkeaa
open Go Go.Tx
instance:Wide Try.prog:=⟨by kernel_rfl⟩
theorem e_stileref07_Ints:Enters Try.prog 18:=enters_of Try.func18 (by kernel_rfl) (by kernel_rfl)
theorem e_trace_Events:Enters Try.prog 39:=enters_of Try.func39 (by kernel_rfl) (by kernel_rfl)
theorem e_target_Check:Enters Try.prog 41:=enters_of Try.func41 (by kernel_rfl) (by kernel_rfl)
theorem e_trace_right:Enters Try.prog 57:=enters_of Try.func57 (by kernel_rfl) (by kernel_rfl)
theorem e_trace_events:Enters Try.prog 58:=enters_of Try.func58 (by kernel_rfl) (by kernel_rfl)
theorem e_target_shaped:Enters Try.prog 61:=enters_of Try.func61 (by kernel_rfl) (by kernel_rfl)
theorem e_target_Right:Enters Try.prog 62:=enters_of Try.func62 (by kernel_rfl) (by kernel_rfl)
theorem e_trace_formOf:Enters Try.prog 87:=enters_of Try.func87 (by kernel_rfl) (by kernel_rfl)
theorem e_trace_events_1:Enters Try.prog 88:=enters_of Try.func88 (by kernel_rfl) (by kernel_rfl)
theorem e_trace_forms:Enters Try.prog 89:=enters_of Try.func89 (by kernel_rfl) (by kernel_rfl)
theorem e_target_shaped_1:Enters Try.prog 93:=enters_of Try.func93 (by kernel_rfl) (by kernel_rfl)
theorem e_lexer_Name:Enters Try.prog 69:=enters_of Try.func69 (by kernel_rfl) (by kernel_rfl)
theorem e_slices_ContainsFunc:Enters Try.prog 94:=enters_of Try.func94 (by kernel_rfl) (by kernel_rfl)
theorem e_target_used:Enters Try.prog 95:=enters_of Try.func95 (by kernel_rfl) (by kernel_rfl)
theorem e_target_Right_1:Enters Try.prog 96:=enters_of Try.func96 (by kernel_rfl) (by kernel_rfl)
theorem e_target_operator:Enters Try.prog 97:=enters_of Try.func97 (by kernel_rfl) (by kernel_rfl)
theorem e_trace_always:Enters Try.prog 120:=enters_of Try.func120 (by kernel_rfl) (by kernel_rfl)
theorem e_trace_on:Enters Try.prog 121:=enters_of Try.func121 (by kernel_rfl) (by kernel_rfl)
theorem e_trace_swapped:Enters Try.prog 122:=enters_of Try.func122 (by kernel_rfl) (by kernel_rfl)
theorem e_trace_drained:Enters Try.prog 123:=enters_of Try.func123 (by kernel_rfl) (by kernel_rfl)
theorem e_lexer_digit:Enters Try.prog 111:=enters_of Try.func111 (by kernel_rfl) (by kernel_rfl)
theorem e_lexer_Word:Enters Try.prog 112:=enters_of Try.func112 (by kernel_rfl) (by kernel_rfl)
theorem e_lexer_letter:Enters Try.prog 113:=enters_of Try.func113 (by kernel_rfl) (by kernel_rfl)
theorem e_slices_IndexFunc:Enters Try.prog 124:=enters_of Try.func124 (by kernel_rfl) (by kernel_rfl)
theorem e_target_forms:Enters Try.prog 125:=enters_of Try.func125 (by kernel_rfl) (by kernel_rfl)
theorem e_words_Two:Enters Try.prog 114:=enters_of Try.func114 (by kernel_rfl) (by kernel_rfl)
theorem e_trace_always_1:Enters Try.prog 130:=enters_of Try.func130 (by kernel_rfl) (by kernel_rfl)
theorem e_trace_on_1:Enters Try.prog 131:=enters_of Try.func131 (by kernel_rfl) (by kernel_rfl)
theorem e_words_known:Enters Try.prog 128:=enters_of Try.func128 (by kernel_rfl) (by kernel_rfl)
theorem e_stilelaw25_lives:Enters Try.prog 14:=enters_of Try.func14 (by kernel_rfl) (by kernel_rfl)
theorem e_realise_Steps:Enters Try.prog 15:=enters_of Try.func15 (by kernel_rfl) (by kernel_rfl)
theorem e_trace_Of:Enters Try.prog 16:=enters_of Try.func16 (by kernel_rfl) (by kernel_rfl)
theorem e_witness_Order:Enters Try.prog 17:=enters_of Try.func17 (by kernel_rfl) (by kernel_rfl)
theorem e_vm_New:Enters Try.prog 19:=enters_of Try.func19 (by kernel_rfl) (by kernel_rfl)
theorem e_vm_Machine_Step:Enters Try.prog 20:=enters_of Try.func20 (by kernel_rfl) (by kernel_rfl)
theorem e_vm_Machine_View:Enters Try.prog 21:=enters_of Try.func21 (by kernel_rfl) (by kernel_rfl)
theorem e_slices_Clone_int64:Enters Try.prog 31:=enters_of Try.func31 (by kernel_rfl) (by kernel_rfl)
theorem e_stilelaw25_known:Enters Try.prog 33:=enters_of Try.func33 (by kernel_rfl) (by kernel_rfl)
theorem e_realise_Ends:Enters Try.prog 34:=enters_of Try.func34 (by kernel_rfl) (by kernel_rfl)
theorem e_stileref18_Steps:Enters Try.prog 35:=enters_of Try.func35 (by kernel_rfl) (by kernel_rfl)
theorem e_realise_begun:Enters Try.prog 36:=enters_of Try.func36 (by kernel_rfl) (by kernel_rfl)
theorem e_realise_going_follow:Enters Try.prog 37:=enters_of Try.func37 (by kernel_rfl) (by kernel_rfl)
theorem e_vm_Play:Enters Try.prog 38:=enters_of Try.func38 (by kernel_rfl) (by kernel_rfl)
theorem e_witness_visible:Enters Try.prog 40:=enters_of Try.func40 (by kernel_rfl) (by kernel_rfl)
theorem e_slices_Clone_Instr:Enters Try.prog 42:=enters_of Try.func42 (by kernel_rfl) (by kernel_rfl)
theorem e_vm_Machine_Run:Enters Try.prog 43:=enters_of Try.func43 (by kernel_rfl) (by kernel_rfl)
theorem e_vm_Machine_Drain:Enters Try.prog 44:=enters_of Try.func44 (by kernel_rfl) (by kernel_rfl)
theorem e_vm_Machine_has:Enters Try.prog 45:=enters_of Try.func45 (by kernel_rfl) (by kernel_rfl)
theorem e_slices_Clone_Store:Enters Try.prog 46:=enters_of Try.func46 (by kernel_rfl) (by kernel_rfl)
theorem e_realise_going_until:Enters Try.prog 54:=enters_of Try.func54 (by kernel_rfl) (by kernel_rfl)
theorem e_realise_Ends_1:Enters Try.prog 55:=enters_of Try.func55 (by kernel_rfl) (by kernel_rfl)
theorem e_realise_going_visible:Enters Try.prog 56:=enters_of Try.func56 (by kernel_rfl) (by kernel_rfl)
theorem e_witness_visible_1:Enters Try.prog 59:=enters_of Try.func59 (by kernel_rfl) (by kernel_rfl)
theorem e_witness_counts:Enters Try.prog 60:=enters_of Try.func60 (by kernel_rfl) (by kernel_rfl)
theorem e_vm_Machine_next:Enters Try.prog 63:=enters_of Try.func63 (by kernel_rfl) (by kernel_rfl)
theorem e_vm_turn_stalls:Enters Try.prog 64:=enters_of Try.func64 (by kernel_rfl) (by kernel_rfl)
theorem e_vm_does:Enters Try.prog 65:=enters_of Try.func65 (by kernel_rfl) (by kernel_rfl)
theorem e_realise_going_one:Enters Try.prog 84:=enters_of Try.func84 (by kernel_rfl) (by kernel_rfl)
theorem e_realise_going_racy:Enters Try.prog 85:=enters_of Try.func85 (by kernel_rfl) (by kernel_rfl)
theorem e_realise_going_lock:Enters Try.prog 86:=enters_of Try.func86 (by kernel_rfl) (by kernel_rfl)
theorem e_witness_counts_1:Enters Try.prog 90:=enters_of Try.func90 (by kernel_rfl) (by kernel_rfl)
theorem e_witness_counts_2:Enters Try.prog 91:=enters_of Try.func91 (by kernel_rfl) (by kernel_rfl)
theorem e_witness_counts_3:Enters Try.prog 92:=enters_of Try.func92 (by kernel_rfl) (by kernel_rfl)
theorem e_vm_turn_set:Enters Try.prog 98:=enters_of Try.func98 (by kernel_rfl) (by kernel_rfl)
theorem e_vm_turn_op:Enters Try.prog 99:=enters_of Try.func99 (by kernel_rfl) (by kernel_rfl)
theorem e_vm_turn_load:Enters Try.prog 100:=enters_of Try.func100 (by kernel_rfl) (by kernel_rfl)
theorem e_vm_turn_store:Enters Try.prog 101:=enters_of Try.func101 (by kernel_rfl) (by kernel_rfl)
theorem e_vm_turn_swap:Enters Try.prog 102:=enters_of Try.func102 (by kernel_rfl) (by kernel_rfl)
theorem e_vm_turn_fence:Enters Try.prog 103:=enters_of Try.func103 (by kernel_rfl) (by kernel_rfl)
theorem e_vm_turn_print:Enters Try.prog 104:=enters_of Try.func104 (by kernel_rfl) (by kernel_rfl)
theorem e_vm_turn_jump:Enters Try.prog 105:=enters_of Try.func105 (by kernel_rfl) (by kernel_rfl)
theorem e_vm_turn_zero:Enters Try.prog 106:=enters_of Try.func106 (by kernel_rfl) (by kernel_rfl)
theorem e_vm_turn_halt:Enters Try.prog 107:=enters_of Try.func107 (by kernel_rfl) (by kernel_rfl)
theorem e_words_Do:Enters Try.prog 116:=enters_of Try.func116 (by kernel_rfl) (by kernel_rfl)
theorem e_words_One:Enters Try.prog 117:=enters_of Try.func117 (by kernel_rfl) (by kernel_rfl)
theorem e_realise_going_record:Enters Try.prog 119:=enters_of Try.func119 (by kernel_rfl) (by kernel_rfl)
theorem e_words_operators:Enters Try.prog 129:=enters_of Try.func129 (by kernel_rfl) (by kernel_rfl)
theorem e_words_word_add:Enters Try.prog 132:=enters_of Try.func132 (by kernel_rfl) (by kernel_rfl)
theorem e_words_word_sub:Enters Try.prog 133:=enters_of Try.func133 (by kernel_rfl) (by kernel_rfl)
theorem e_words_word_mul:Enters Try.prog 134:=enters_of Try.func134 (by kernel_rfl) (by kernel_rfl)
theorem e_words_word_div:Enters Try.prog 135:=enters_of Try.func135 (by kernel_rfl) (by kernel_rfl)
theorem e_words_word_rem:Enters Try.prog 136:=enters_of Try.func136 (by kernel_rfl) (by kernel_rfl)
theorem e_words_word_and:Enters Try.prog 137:=enters_of Try.func137 (by kernel_rfl) (by kernel_rfl)
theorem e_words_word_or:Enters Try.prog 138:=enters_of Try.func138 (by kernel_rfl) (by kernel_rfl)
theorem e_words_word_xor:Enters Try.prog 139:=enters_of Try.func139 (by kernel_rfl) (by kernel_rfl)
theorem e_words_word_shl:Enters Try.prog 140:=enters_of Try.func140 (by kernel_rfl) (by kernel_rfl)
theorem e_words_word_shr:Enters Try.prog 141:=enters_of Try.func141 (by kernel_rfl) (by kernel_rfl)
theorem e_words_word_is:Enters Try.prog 142:=enters_of Try.func142 (by kernel_rfl) (by kernel_rfl)
theorem e_words_word_isNot:Enters Try.prog 143:=enters_of Try.func143 (by kernel_rfl) (by kernel_rfl)
theorem e_words_word_less:Enters Try.prog 144:=enters_of Try.func144 (by kernel_rfl) (by kernel_rfl)
theorem e_words_word_most:Enters Try.prog 145:=enters_of Try.func145 (by kernel_rfl) (by kernel_rfl)
theorem e_words_word_above:Enters Try.prog 146:=enters_of Try.func146 (by kernel_rfl) (by kernel_rfl)
theorem e_words_word_least:Enters Try.prog 147:=enters_of Try.func147 (by kernel_rfl) (by kernel_rfl)
theorem e_words_word_minus:Enters Try.prog 148:=enters_of Try.func148 (by kernel_rfl) (by kernel_rfl)
theorem e_words_word_not:Enters Try.prog 149:=enters_of Try.func149 (by kernel_rfl) (by kernel_rfl)
theorem e_words_truth:Enters Try.prog 150:=enters_of Try.func150 (by kernel_rfl) (by kernel_rfl)
end Go.Proofs.Ytmjjikcappbkeaa
noncomputable section
namespace Go.Proofs.Ytmjjikcappbkeaa
open Go Go.Tx
theorem K {α:Sort _} {a b:α} (h:a=b:=by kernel_rfl):a=b:=h
theorem R {p:Prop} (h:p:=by repeat' first | refine And.intro ?_ ?_ | exact rfl | exact fun _ _=>rfl | trivial):p:=h
end Go.Proofs.Ytmjjikcappbkeaa
noncomputable section
namespace Go.Proofs.Ytmjjikcappbkeaa
open Go Go.Tx
theorem c_known (k:Int):Ctr Try.prog 128 [] [.c (.i .u8 k)]
 (Det (.c (.b (opB k))) []):=by
 refine Ctr.intro [] Try.func128 K K ?_
 exact tRet [] [0] [opB k=(decide (0<k)&&decide (k<19))] (by simp only [Conj,opB] at *<;>grind)
theorem c_two (k:Int):Ctr Try.prog 114 [] [.c (.i .u8 k)]
 (Det (.c (.b (twoB k))) []):=by
 refine Ctr.intro [] Try.func114 K K ?_
 refine tCall e_words_known (c_known (k:=k)) [] ?_
 exact tRet [] [0] [twoB k=(opB k&&!decide (k=17)&&!decide (k=18))] (by simp only [Conj,twoB,opB] at *<;>grind)
theorem c_digit (k:Int):Ctr Try.prog 111 [] [.c (.i .u8 k)]
 (Det (.c (.b (digitB k))) []):=by
 refine Ctr.intro [] Try.func111 K K ?_
 exact tRet [] [0] [digitB k=(decide (48≤k)&&decide (k≤57))] (by simp only [Conj,digitB] at *<;>grind)
theorem c_letter (k:Int):Ctr Try.prog 113 [] [.c (.i .u8 k)]
 (Det (.c (.b (letterB k))) []):=by
 refine Ctr.intro [] Try.func113 K K ?_
 exact tRet [] [0] [letterB k=(decide (97≤k)&&decide (k≤122)||decide (65≤k)&&decide (k≤90)||decide (k=95))] (by simp only [Conj,letterB] at *<;>grind)
end Go.Proofs.Ytmjjikcappbkeaa
end
noncomputable section
namespace Go.Proofs.Ytmjjikcappbkeaa
open Go Go.Tx
theorem c_truth (x:Bool):Ctr Try.prog 150 [] [.c (.b x)]
 (Det (.c (.i .i64 (truthI x))) []):=by
 refine Ctr.intro [] Try.func150 K K ?_
 refine tCond (x) (fun h1=>?_) (fun h1=>?_)
 ·exact tRet [] [0] [truthI x=(1:Int)] (by simp only [Conj,truthI] at *<;>grind)
 ·exact tRet [] [0] [truthI x=(0:Int)] (by simp only [Conj,truthI] at *<;>grind)
theorem c_w_add (a b:Int):Ctr Try.prog 132 [] [.c (.i .i64 a),.c (.i .i64 b)]
 (Det (.c (.i .i64 (w64 (a+b)))) []):=by
 refine Ctr.intro [7] Try.func132 K K ?_
 exact tRet [] [0] [w64 (a+b)=IntKind.i64.wrap (a+b)] (by simp only [Conj,w64,divI,remI,cntI,truthI] at *<;>first | rfl | grind)
theorem c_w_sub (a b:Int):Ctr Try.prog 133 [] [.c (.i .i64 a),.c (.i .i64 b)]
 (Det (.c (.i .i64 (w64 (a-b)))) []):=by
 refine Ctr.intro [7] Try.func133 K K ?_
 exact tRet [] [0] [w64 (a-b)=IntKind.i64.wrap (a-b)] (by simp only [Conj,w64,divI,remI,cntI,truthI] at *<;>first | rfl | grind)
theorem c_w_mul (a b:Int):Ctr Try.prog 134 [] [.c (.i .i64 a),.c (.i .i64 b)]
 (Det (.c (.i .i64 (w64 (a * b)))) []):=by
 refine Ctr.intro [7] Try.func134 K K ?_
 exact tRet [] [0] [w64 (a * b)=IntKind.i64.wrap (a * b)] (by simp only [Conj,w64,divI,remI,cntI,truthI] at *<;>first | rfl | grind)
theorem c_w_div (a b:Int):Ctr Try.prog 135 [] [.c (.i .i64 a),.c (.i .i64 b)]
 (Det (.c (.i .i64 (divI a b))) []):=by
 refine Ctr.intro [11,14] Try.func135 K K ?_
 refine tCond (decide (b=(0:Int))) (fun h1=>?_) (fun h1=>?_)
 ·exact tRet [] [0] [divI a b=(0:Int)] (by simp only [Conj,w64,divI,remI,cntI,truthI] at *<;>first | rfl | grind)
 ·refine tz [5,4,0,1] ?_
  refine tCond (decide (b=(-1:Int))) (fun h2=>?_) (fun h2=>?_)
  ·exact tRet [] [0] [divI a b=IntKind.i64.wrap ((0:Int)-a)] (by simp only [Conj,w64,divI,remI,cntI,truthI] at *<;>first | rfl | grind)
  ·exact tRet [] [0] [divI a b=IntKind.i64.wrap (a.tdiv b)] (by simp only [Conj,w64,divI,remI,cntI,truthI] at *<;>first | rfl | grind) (vc:=[b≠(0:Int)]) (hv:=(by simp only [Conj,Fits,i64_min,i64_max,u8_min,u8_max,News.len,maxLen];(repeat' (first | apply And.intro | intro _))<;>first | grind | (simp only [BL] at *;omega)))
theorem c_w_rem (a b:Int):Ctr Try.prog 136 [] [.c (.i .i64 a),.c (.i .i64 b)]
 (Det (.c (.i .i64 (remI a b))) []):=by
 refine Ctr.intro [13,14] Try.func136 K K ?_
 refine tCond (decide (b=(0:Int))) (fun h1=>?_) (fun h1=>?_)
 ·exact tRet [] [0] [remI a b=a] (by simp only [Conj,w64,divI,remI,cntI,truthI] at *<;>first | rfl | grind)
 ·refine tz [4,0,1] ?_
  refine tCall e_words_word_div (c_w_div (a:=a) (b:=b)) [] ?_
  exact tRet [] [0] [remI a b=IntKind.i64.wrap (a-IntKind.i64.wrap (divI a b * b))] (by simp only [Conj,w64,divI,remI,cntI,truthI] at *<;>first | rfl | grind)
theorem c_w_and (a b:Int):Ctr Try.prog 137 [] [.c (.i .i64 a),.c (.i .i64 b)]
 (Det (.c (.i .i64 (bits .and .i64 a b))) []):=by
 refine Ctr.intro [] Try.func137 K K ?_
 exact tRet
theorem c_w_or (a b:Int):Ctr Try.prog 138 [] [.c (.i .i64 a),.c (.i .i64 b)]
 (Det (.c (.i .i64 (bits .or .i64 a b))) []):=by
 refine Ctr.intro [] Try.func138 K K ?_
 exact tRet
theorem c_w_xor (a b:Int):Ctr Try.prog 139 [] [.c (.i .i64 a),.c (.i .i64 b)]
 (Det (.c (.i .i64 (bits .xor .i64 a b))) []):=by
 refine Ctr.intro [] Try.func139 K K ?_
 exact tRet
theorem c_w_shl (a b:Int):Ctr Try.prog 140 [] [.c (.i .i64 a),.c (.i .i64 b)]
 (Det (.c (.i .i64 (shlI .i64 a (cntI b)))) []):=by
 refine Ctr.intro [7] Try.func140 K K ?_
 exact tRet [] [0] [shlI IntKind.i64 a (cntI b)=shlI IntKind.i64 a (bits BinOp.and IntKind.u64 (IntKind.u64.wrap b) (63:Int))] (by simp only [Conj,w64,divI,remI,cntI,truthI] at *<;>first | rfl | grind) (vc:=[(0:Int)≤bits BinOp.and IntKind.u64 (IntKind.u64.wrap b) (63:Int)]) (hv:=(by simp only [Conj];exact cntI_nonneg b))
theorem c_w_shr (a b:Int):Ctr Try.prog 141 [] [.c (.i .i64 a),.c (.i .i64 b)]
 (Det (.c (.i .i64 (shrI .i64 a (cntI b)))) []):=by
 refine Ctr.intro [7] Try.func141 K K ?_
 exact tRet [] [0] [shrI IntKind.i64 a (cntI b)=shrI IntKind.i64 a (bits BinOp.and IntKind.u64 (IntKind.u64.wrap b) (63:Int))] (by simp only [Conj,w64,divI,remI,cntI,truthI] at *<;>first | rfl | grind) (vc:=[(0:Int)≤bits BinOp.and IntKind.u64 (IntKind.u64.wrap b) (63:Int)]) (hv:=(by simp only [Conj];exact cntI_nonneg b))
theorem c_w_is (a b:Int):Ctr Try.prog 142 [] [.c (.i .i64 a),.c (.i .i64 b)]
 (Det (.c (.i .i64 (truthI (decide (a=b))))) []):=by
 refine Ctr.intro [] Try.func142 K K ?_
 refine tCall e_words_truth (c_truth (x:=decide (a=b))) [] ?_
 exact tRet
theorem c_w_isNot (a b:Int):Ctr Try.prog 143 [] [.c (.i .i64 a),.c (.i .i64 b)]
 (Det (.c (.i .i64 (truthI (!decide (a=b))))) []):=by
 refine Ctr.intro [] Try.func143 K K ?_
 refine tCall e_words_truth (c_truth (x:=!decide (a=b))) [] ?_ [0] [(!decide (a=b))=!decide (a=b)] (rfl)
 exact tRet [] [0] [(truthI !decide (a=b))=truthI !decide (a=b)] (rfl)
theorem c_w_less (a b:Int):Ctr Try.prog 144 [] [.c (.i .i64 a),.c (.i .i64 b)]
 (Det (.c (.i .i64 (truthI (decide (a<b))))) []):=by
 refine Ctr.intro [] Try.func144 K K ?_
 refine tCall e_words_truth (c_truth (x:=decide (a<b))) [] ?_
 exact tRet
theorem c_w_most (a b:Int):Ctr Try.prog 145 [] [.c (.i .i64 a),.c (.i .i64 b)]
 (Det (.c (.i .i64 (truthI (decide (a≤b))))) []):=by
 refine Ctr.intro [] Try.func145 K K ?_
 refine tCall e_words_truth (c_truth (x:=decide (a≤b))) [] ?_
 exact tRet
theorem c_w_above (a b:Int):Ctr Try.prog 146 [] [.c (.i .i64 a),.c (.i .i64 b)]
 (Det (.c (.i .i64 (truthI (decide (b<a))))) []):=by
 refine Ctr.intro [] Try.func146 K K ?_
 refine tCall e_words_truth (c_truth (x:=decide (b<a))) [] ?_
 exact tRet
theorem c_w_least (a b:Int):Ctr Try.prog 147 [] [.c (.i .i64 a),.c (.i .i64 b)]
 (Det (.c (.i .i64 (truthI (decide (b≤a))))) []):=by
 refine Ctr.intro [] Try.func147 K K ?_
 refine tCall e_words_truth (c_truth (x:=decide (b≤a))) [] ?_
 exact tRet
theorem c_w_minus (a:Int):Ctr Try.prog 148 [] [.c (.i .i64 a)]
 (Det (.c (.i .i64 (w64 (0-a)))) []):=by
 refine Ctr.intro [4] Try.func148 K K ?_
 exact tRet [] [0] [w64 ((0:Int)-a)=IntKind.i64.wrap ((0:Int)-a)] (by simp only [Conj,w64] at *<;>grind)
theorem c_w_not (a:Int):Ctr Try.prog 149 [] [.c (.i .i64 a)]
 (Det (.c (.i .i64 (truthI (decide (a=0))))) []):=by
 refine Ctr.intro [] Try.func149 K K ?_
 refine tCall e_words_truth (c_truth (x:=decide (a=(0:Int)))) [] ?_
 exact tRet
end Go.Proofs.Ytmjjikcappbkeaa
end
noncomputable section
namespace Go.Proofs.Ytmjjikcappbkeaa
open Go Go.Tx
theorem c_operators :Ctr Try.prog 129 [] []
 (Det (.agg [.v Value.nilFunc,.v Value.nilFunc,C.fn 132 false [],.v Value.nilFunc,C.fn 133 false [],.v Value.nilFunc,C.fn 134 false [],.v Value.nilFunc,C.fn 135 false [],.v Value.nilFunc,C.fn 136 false [],.v Value.nilFunc,C.fn 137 false [],.v Value.nilFunc,C.fn 138 false [],.v Value.nilFunc,C.fn 139 false [],.v Value.nilFunc,C.fn 140 false [],.v Value.nilFunc,C.fn 141 false [],.v Value.nilFunc,C.fn 142 false [],.v Value.nilFunc,C.fn 143 false [],.v Value.nilFunc,C.fn 144 false [],.v Value.nilFunc,C.fn 145 false [],.v Value.nilFunc,C.fn 146 false [],.v Value.nilFunc,C.fn 147 false [],.v Value.nilFunc,.v Value.nilFunc,C.fn 148 false [],.v Value.nilFunc,C.fn 149 false []]) []):=by
 refine Ctr.intro [] Try.func129 K K ?_
 exact tRet
abbrev z41_1 (k:Int):=(if twoB k=true then (0:Int) else (2:Int))=(0:Int)
abbrev z41_2 (k:Int) (a:Int) (b:Int):=(if twoB k=true then opTwo k a b else (0:Int))
theorem c_do (k a b:Int):Ctr Try.prog 116 [] [.c (.i .u8 k),.c (.i .i64 a),.c (.i .i64 b)]
 (Det (.tup [(false,[.i .i64 (if twoB k then opTwo k a b else 0)]),(false,[.i .i64 (if twoB k then 0 else 2)])]) []):=by
 refine Ctr.intro [] Try.func116 K K ?_
 refine tCall e_words_Two (c_two (k:=k)) [] ?_
 refine tz [10,7,6,0,1,2] ?_
 refine tCond (!twoB k) (fun h1=>?_) (fun h1=>?_)
 ·exact tRet [] [0,1] [(z41_2 k a b)=(0:Int),(if twoB k=true then (0:Int) else (2:Int))=(2:Int)] (by simp only [Conj];first | (have e:twoB k=true:=(by simpa using h1);subst hs2;exact ⟨(if_pos e).trans rfl,(if_pos e).trans rfl⟩) | (simp only [BL] at h1;simp [h1];done))
 ·rcases (show k=(1:Int)∨k=(2:Int)∨k=(3:Int)∨k=(4:Int)∨k=(5:Int)∨k=(6:Int)∨k=(7:Int)∨k=(8:Int)∨k=(9:Int)∨k=(10:Int)∨k=(11:Int)∨k=(12:Int)∨k=(13:Int)∨k=(14:Int)∨k=(15:Int)∨k=(16:Int) from by (simp only [twoB,opB] at h1;simp only [BL] at *;omega)) with hs2 | hs2 | hs2 | hs2 | hs2 | hs2 | hs2 | hs2 | hs2 | hs2 | hs2 | hs2 | hs2 | hs2 | hs2 | hs2
  ·refine tWk (St.mk 20 [En.mk 11 [] (SV.c (C.t false)),En.mk 10 [] (SV.c (C.b (twoB (1:Int)))),En.mk 7 [] (SV.c (C.i .i64 0)),En.mk 6 [] (SV.c (C.i .i64 0)),En.mk 0 [] (SV.c (C.i .u8 1)),En.mk 1 [] (SV.c (C.i .i64 a)),En.mk 2 [] (SV.c (C.i .i64 b))] [] []) ?_ [] [0,3] [twoB (1:Int)=twoB k,(1:Int)=k] (by simp only [Conj];(repeat' apply And.intro)<;>first | trivial | rfl | (intros;rfl) | (exact Eq.symm (by assumption)) | grind)
   refine tz [7,6,0,1,2] ?_
   refine tCall e_words_operators (c_operators) [] ?_
   refine tz [12,7,6,0,1,2] ?_
   refine tCall e_words_word_add (c_w_add (a:=a) (b:=b)) [] ?_ (vc:=[(0:Int)≤(1:Int),(1:Int)<(19:Int)]) (hv:=(by simp only [Conj,Fits,i64_min,i64_max,u8_min,u8_max,News.len,maxLen];(repeat' (first | apply And.intro | intro _))<;>first | grind | (simp only [BL] at *;omega)))
   exact tRet [] [0,1] [(z41_2 k a b)=w64 (a+b),z41_1 k] (by simp only [Conj];first | (have e:twoB k=true:=(by simpa using h1);subst hs2;exact ⟨(if_pos e).trans rfl,(if_pos e).trans rfl⟩) | (simp only [BL] at h1;simp [h1];done))
  ·refine tWk (St.mk 20 [En.mk 11 [] (SV.c (C.t false)),En.mk 10 [] (SV.c (C.b (twoB (2:Int)))),En.mk 7 [] (SV.c (C.i .i64 0)),En.mk 6 [] (SV.c (C.i .i64 0)),En.mk 0 [] (SV.c (C.i .u8 2)),En.mk 1 [] (SV.c (C.i .i64 a)),En.mk 2 [] (SV.c (C.i .i64 b))] [] []) ?_ [] [0,3] [twoB (2:Int)=twoB k,(2:Int)=k] (by simp only [Conj];(repeat' apply And.intro)<;>first | trivial | rfl | (intros;rfl) | (exact Eq.symm (by assumption)) | grind)
   refine tz [7,6,0,1,2] ?_
   refine tCall e_words_operators (c_operators) [] ?_
   refine tz [12,7,6,0,1,2] ?_
   refine tCall e_words_word_sub (c_w_sub (a:=a) (b:=b)) [] ?_ (vc:=[(0:Int)≤(2:Int),(2:Int)<(19:Int)]) (hv:=(by simp only [Conj,Fits,i64_min,i64_max,u8_min,u8_max,News.len,maxLen];(repeat' (first | apply And.intro | intro _))<;>first | grind | (simp only [BL] at *;omega)))
   exact tRet [] [0,1] [(z41_2 k a b)=w64 (a-b),z41_1 k] (by simp only [Conj];first | (have e:twoB k=true:=(by simpa using h1);subst hs2;exact ⟨(if_pos e).trans rfl,(if_pos e).trans rfl⟩) | (simp only [BL] at h1;simp [h1];done))
  ·refine tWk (St.mk 20 [En.mk 11 [] (SV.c (C.t false)),En.mk 10 [] (SV.c (C.b (twoB (3:Int)))),En.mk 7 [] (SV.c (C.i .i64 0)),En.mk 6 [] (SV.c (C.i .i64 0)),En.mk 0 [] (SV.c (C.i .u8 3)),En.mk 1 [] (SV.c (C.i .i64 a)),En.mk 2 [] (SV.c (C.i .i64 b))] [] []) ?_ [] [0,3] [twoB (3:Int)=twoB k,(3:Int)=k] (by simp only [Conj];(repeat' apply And.intro)<;>first | trivial | rfl | (intros;rfl) | (exact Eq.symm (by assumption)) | grind)
   refine tz [7,6,0,1,2] ?_
   refine tCall e_words_operators (c_operators) [] ?_
   refine tz [12,7,6,0,1,2] ?_
   refine tCall e_words_word_mul (c_w_mul (a:=a) (b:=b)) [] ?_ (vc:=[(0:Int)≤(3:Int),(3:Int)<(19:Int)]) (hv:=(by simp only [Conj,Fits,i64_min,i64_max,u8_min,u8_max,News.len,maxLen];(repeat' (first | apply And.intro | intro _))<;>first | grind | (simp only [BL] at *;omega)))
   exact tRet [] [0,1] [(z41_2 k a b)=w64 (a * b),z41_1 k] (by simp only [Conj];first | (have e:twoB k=true:=(by simpa using h1);subst hs2;exact ⟨(if_pos e).trans rfl,(if_pos e).trans rfl⟩) | (simp only [BL] at h1;simp [h1];done))
  ·refine tWk (St.mk 20 [En.mk 11 [] (SV.c (C.t false)),En.mk 10 [] (SV.c (C.b (twoB (4:Int)))),En.mk 7 [] (SV.c (C.i .i64 0)),En.mk 6 [] (SV.c (C.i .i64 0)),En.mk 0 [] (SV.c (C.i .u8 4)),En.mk 1 [] (SV.c (C.i .i64 a)),En.mk 2 [] (SV.c (C.i .i64 b))] [] []) ?_ [] [0,3] [twoB (4:Int)=twoB k,(4:Int)=k] (by simp only [Conj];(repeat' apply And.intro)<;>first | trivial | rfl | (intros;rfl) | (exact Eq.symm (by assumption)) | grind)
   refine tz [7,6,0,1,2] ?_
   refine tCall e_words_operators (c_operators) [] ?_
   refine tz [12,7,6,0,1,2] ?_
   refine tCall e_words_word_div (c_w_div (a:=a) (b:=b)) [] ?_ (vc:=[(0:Int)≤(4:Int),(4:Int)<(19:Int)]) (hv:=(by simp only [Conj,Fits,i64_min,i64_max,u8_min,u8_max,News.len,maxLen];(repeat' (first | apply And.intro | intro _))<;>first | grind | (simp only [BL] at *;omega)))
   exact tRet [] [0,1] [(z41_2 k a b)=divI a b,z41_1 k] (by simp only [Conj];first | (have e:twoB k=true:=(by simpa using h1);subst hs2;exact ⟨(if_pos e).trans rfl,(if_pos e).trans rfl⟩) | (simp only [BL] at h1;simp [h1];done))
  ·refine tWk (St.mk 20 [En.mk 11 [] (SV.c (C.t false)),En.mk 10 [] (SV.c (C.b (twoB (5:Int)))),En.mk 7 [] (SV.c (C.i .i64 0)),En.mk 6 [] (SV.c (C.i .i64 0)),En.mk 0 [] (SV.c (C.i .u8 5)),En.mk 1 [] (SV.c (C.i .i64 a)),En.mk 2 [] (SV.c (C.i .i64 b))] [] []) ?_ [] [0,3] [twoB (5:Int)=twoB k,(5:Int)=k] (by simp only [Conj];(repeat' apply And.intro)<;>first | trivial | rfl | (intros;rfl) | (exact Eq.symm (by assumption)) | grind)
   refine tz [7,6,0,1,2] ?_
   refine tCall e_words_operators (c_operators) [] ?_
   refine tz [12,7,6,0,1,2] ?_
   refine tCall e_words_word_rem (c_w_rem (a:=a) (b:=b)) [] ?_ (vc:=[(0:Int)≤(5:Int),(5:Int)<(19:Int)]) (hv:=(by simp only [Conj,Fits,i64_min,i64_max,u8_min,u8_max,News.len,maxLen];(repeat' (first | apply And.intro | intro _))<;>first | grind | (simp only [BL] at *;omega)))
   exact tRet [] [0,1] [(z41_2 k a b)=remI a b,z41_1 k] (by simp only [Conj];first | (have e:twoB k=true:=(by simpa using h1);subst hs2;exact ⟨(if_pos e).trans rfl,(if_pos e).trans rfl⟩) | (simp only [BL] at h1;simp [h1];done))
  ·refine tWk (St.mk 20 [En.mk 11 [] (SV.c (C.t false)),En.mk 10 [] (SV.c (C.b (twoB (6:Int)))),En.mk 7 [] (SV.c (C.i .i64 0)),En.mk 6 [] (SV.c (C.i .i64 0)),En.mk 0 [] (SV.c (C.i .u8 6)),En.mk 1 [] (SV.c (C.i .i64 a)),En.mk 2 [] (SV.c (C.i .i64 b))] [] []) ?_ [] [0,3] [twoB (6:Int)=twoB k,(6:Int)=k] (by simp only [Conj];(repeat' apply And.intro)<;>first | trivial | rfl | (intros;rfl) | (exact Eq.symm (by assumption)) | grind)
   refine tz [7,6,0,1,2] ?_
   refine tCall e_words_operators (c_operators) [] ?_
   refine tz [12,7,6,0,1,2] ?_
   refine tCall e_words_word_and (c_w_and (a:=a) (b:=b)) [] ?_ (vc:=[(0:Int)≤(6:Int),(6:Int)<(19:Int)]) (hv:=(by simp only [Conj,Fits,i64_min,i64_max,u8_min,u8_max,News.len,maxLen];(repeat' (first | apply And.intro | intro _))<;>first | grind | (simp only [BL] at *;omega)))
   exact tRet [] [0,1] [(z41_2 k a b)=bits BinOp.and IntKind.i64 a b,z41_1 k] (by simp only [Conj];first | (have e:twoB k=true:=(by simpa using h1);subst hs2;exact ⟨(if_pos e).trans rfl,(if_pos e).trans rfl⟩) | (simp only [BL] at h1;simp [h1];done))
  ·refine tWk (St.mk 20 [En.mk 11 [] (SV.c (C.t false)),En.mk 10 [] (SV.c (C.b (twoB (7:Int)))),En.mk 7 [] (SV.c (C.i .i64 0)),En.mk 6 [] (SV.c (C.i .i64 0)),En.mk 0 [] (SV.c (C.i .u8 7)),En.mk 1 [] (SV.c (C.i .i64 a)),En.mk 2 [] (SV.c (C.i .i64 b))] [] []) ?_ [] [0,3] [twoB (7:Int)=twoB k,(7:Int)=k] (by simp only [Conj];(repeat' apply And.intro)<;>first | trivial | rfl | (intros;rfl) | (exact Eq.symm (by assumption)) | grind)
   refine tz [7,6,0,1,2] ?_
   refine tCall e_words_operators (c_operators) [] ?_
   refine tz [12,7,6,0,1,2] ?_
   refine tCall e_words_word_or (c_w_or (a:=a) (b:=b)) [] ?_ (vc:=[(0:Int)≤(7:Int),(7:Int)<(19:Int)]) (hv:=(by simp only [Conj,Fits,i64_min,i64_max,u8_min,u8_max,News.len,maxLen];(repeat' (first | apply And.intro | intro _))<;>first | grind | (simp only [BL] at *;omega)))
   exact tRet [] [0,1] [(z41_2 k a b)=bits BinOp.or IntKind.i64 a b,z41_1 k] (by simp only [Conj];first | (have e:twoB k=true:=(by simpa using h1);subst hs2;exact ⟨(if_pos e).trans rfl,(if_pos e).trans rfl⟩) | (simp only [BL] at h1;simp [h1];done))
  ·refine tWk (St.mk 20 [En.mk 11 [] (SV.c (C.t false)),En.mk 10 [] (SV.c (C.b (twoB (8:Int)))),En.mk 7 [] (SV.c (C.i .i64 0)),En.mk 6 [] (SV.c (C.i .i64 0)),En.mk 0 [] (SV.c (C.i .u8 8)),En.mk 1 [] (SV.c (C.i .i64 a)),En.mk 2 [] (SV.c (C.i .i64 b))] [] []) ?_ [] [0,3] [twoB (8:Int)=twoB k,(8:Int)=k] (by simp only [Conj];(repeat' apply And.intro)<;>first | trivial | rfl | (intros;rfl) | (exact Eq.symm (by assumption)) | grind)
   refine tz [7,6,0,1,2] ?_
   refine tCall e_words_operators (c_operators) [] ?_
   refine tz [12,7,6,0,1,2] ?_
   refine tCall e_words_word_xor (c_w_xor (a:=a) (b:=b)) [] ?_ (vc:=[(0:Int)≤(8:Int),(8:Int)<(19:Int)]) (hv:=(by simp only [Conj,Fits,i64_min,i64_max,u8_min,u8_max,News.len,maxLen];(repeat' (first | apply And.intro | intro _))<;>first | grind | (simp only [BL] at *;omega)))
   exact tRet [] [0,1] [(z41_2 k a b)=bits BinOp.xor IntKind.i64 a b,z41_1 k] (by simp only [Conj];first | (have e:twoB k=true:=(by simpa using h1);subst hs2;exact ⟨(if_pos e).trans rfl,(if_pos e).trans rfl⟩) | (simp only [BL] at h1;simp [h1];done))
  ·refine tWk (St.mk 20 [En.mk 11 [] (SV.c (C.t false)),En.mk 10 [] (SV.c (C.b (twoB (9:Int)))),En.mk 7 [] (SV.c (C.i .i64 0)),En.mk 6 [] (SV.c (C.i .i64 0)),En.mk 0 [] (SV.c (C.i .u8 9)),En.mk 1 [] (SV.c (C.i .i64 a)),En.mk 2 [] (SV.c (C.i .i64 b))] [] []) ?_ [] [0,3] [twoB (9:Int)=twoB k,(9:Int)=k] (by simp only [Conj];(repeat' apply And.intro)<;>first | trivial | rfl | (intros;rfl) | (exact Eq.symm (by assumption)) | grind)
   refine tz [7,6,0,1,2] ?_
   refine tCall e_words_operators (c_operators) [] ?_
   refine tz [12,7,6,0,1,2] ?_
   refine tCall e_words_word_shl (c_w_shl (a:=a) (b:=b)) [] ?_ (vc:=[(0:Int)≤(9:Int),(9:Int)<(19:Int)]) (hv:=(by simp only [Conj,Fits,i64_min,i64_max,u8_min,u8_max,News.len,maxLen];(repeat' (first | apply And.intro | intro _))<;>first | grind | (simp only [BL] at *;omega)))
   exact tRet [] [0,1] [(z41_2 k a b)=shlI IntKind.i64 a (cntI b),z41_1 k] (by simp only [Conj];first | (have e:twoB k=true:=(by simpa using h1);subst hs2;exact ⟨(if_pos e).trans rfl,(if_pos e).trans rfl⟩) | (simp only [BL] at h1;simp [h1];done))
  ·refine tWk (St.mk 20 [En.mk 11 [] (SV.c (C.t false)),En.mk 10 [] (SV.c (C.b (twoB (10:Int)))),En.mk 7 [] (SV.c (C.i .i64 0)),En.mk 6 [] (SV.c (C.i .i64 0)),En.mk 0 [] (SV.c (C.i .u8 10)),En.mk 1 [] (SV.c (C.i .i64 a)),En.mk 2 [] (SV.c (C.i .i64 b))] [] []) ?_ [] [0,3] [twoB (10:Int)=twoB k,(10:Int)=k] (by simp only [Conj];(repeat' apply And.intro)<;>first | trivial | rfl | (intros;rfl) | (exact Eq.symm (by assumption)) | grind)
   refine tz [7,6,0,1,2] ?_
   refine tCall e_words_operators (c_operators) [] ?_
   refine tz [12,7,6,0,1,2] ?_
   refine tCall e_words_word_shr (c_w_shr (a:=a) (b:=b)) [] ?_ (vc:=[(0:Int)≤(10:Int),(10:Int)<(19:Int)]) (hv:=(by simp only [Conj,Fits,i64_min,i64_max,u8_min,u8_max,News.len,maxLen];(repeat' (first | apply And.intro | intro _))<;>first | grind | (simp only [BL] at *;omega)))
   exact tRet [] [0,1] [(z41_2 k a b)=shrI IntKind.i64 a (cntI b),z41_1 k] (by simp only [Conj];first | (have e:twoB k=true:=(by simpa using h1);subst hs2;exact ⟨(if_pos e).trans rfl,(if_pos e).trans rfl⟩) | (simp only [BL] at h1;simp [h1];done))
  ·refine tWk (St.mk 20 [En.mk 11 [] (SV.c (C.t false)),En.mk 10 [] (SV.c (C.b (twoB (11:Int)))),En.mk 7 [] (SV.c (C.i .i64 0)),En.mk 6 [] (SV.c (C.i .i64 0)),En.mk 0 [] (SV.c (C.i .u8 11)),En.mk 1 [] (SV.c (C.i .i64 a)),En.mk 2 [] (SV.c (C.i .i64 b))] [] []) ?_ [] [0,3] [twoB (11:Int)=twoB k,(11:Int)=k] (by simp only [Conj];(repeat' apply And.intro)<;>first | trivial | rfl | (intros;rfl) | (exact Eq.symm (by assumption)) | grind)
   refine tz [7,6,0,1,2] ?_
   refine tCall e_words_operators (c_operators) [] ?_
   refine tz [12,7,6,0,1,2] ?_
   refine tCall e_words_word_is (c_w_is (a:=a) (b:=b)) [] ?_ (vc:=[(0:Int)≤(11:Int),(11:Int)<(19:Int)]) (hv:=(by simp only [Conj,Fits,i64_min,i64_max,u8_min,u8_max,News.len,maxLen];(repeat' (first | apply And.intro | intro _))<;>first | grind | (simp only [BL] at *;omega)))
   exact tRet [] [0,1] [(z41_2 k a b)=truthI (decide (a=b)),z41_1 k] (by simp only [Conj];first | (have e:twoB k=true:=(by simpa using h1);subst hs2;exact ⟨(if_pos e).trans rfl,(if_pos e).trans rfl⟩) | (simp only [BL] at h1;simp [h1];done))
  ·refine tWk (St.mk 20 [En.mk 11 [] (SV.c (C.t false)),En.mk 10 [] (SV.c (C.b (twoB (12:Int)))),En.mk 7 [] (SV.c (C.i .i64 0)),En.mk 6 [] (SV.c (C.i .i64 0)),En.mk 0 [] (SV.c (C.i .u8 12)),En.mk 1 [] (SV.c (C.i .i64 a)),En.mk 2 [] (SV.c (C.i .i64 b))] [] []) ?_ [] [0,3] [twoB (12:Int)=twoB k,(12:Int)=k] (by simp only [Conj];(repeat' apply And.intro)<;>first | trivial | rfl | (intros;rfl) | (exact Eq.symm (by assumption)) | grind)
   refine tz [7,6,0,1,2] ?_
   refine tCall e_words_operators (c_operators) [] ?_
   refine tz [12,7,6,0,1,2] ?_
   refine tCall e_words_word_isNot (c_w_isNot (a:=a) (b:=b)) [] ?_ (vc:=[(0:Int)≤(12:Int),(12:Int)<(19:Int)]) (hv:=(by simp only [Conj,Fits,i64_min,i64_max,u8_min,u8_max,News.len,maxLen];(repeat' (first | apply And.intro | intro _))<;>first | grind | (simp only [BL] at *;omega)))
   exact tRet [] [0,1] [(z41_2 k a b)=truthI !decide (a=b),z41_1 k] (by simp only [Conj];first | (have e:twoB k=true:=(by simpa using h1);subst hs2;exact ⟨(if_pos e).trans rfl,(if_pos e).trans rfl⟩) | (simp only [BL] at h1;simp [h1];done))
  ·refine tWk (St.mk 20 [En.mk 11 [] (SV.c (C.t false)),En.mk 10 [] (SV.c (C.b (twoB (13:Int)))),En.mk 7 [] (SV.c (C.i .i64 0)),En.mk 6 [] (SV.c (C.i .i64 0)),En.mk 0 [] (SV.c (C.i .u8 13)),En.mk 1 [] (SV.c (C.i .i64 a)),En.mk 2 [] (SV.c (C.i .i64 b))] [] []) ?_ [] [0,3] [twoB (13:Int)=twoB k,(13:Int)=k] (by simp only [Conj];(repeat' apply And.intro)<;>first | trivial | rfl | (intros;rfl) | (exact Eq.symm (by assumption)) | grind)
   refine tz [7,6,0,1,2] ?_
   refine tCall e_words_operators (c_operators) [] ?_
   refine tz [12,7,6,0,1,2] ?_
   refine tCall e_words_word_less (c_w_less (a:=a) (b:=b)) [] ?_ (vc:=[(0:Int)≤(13:Int),(13:Int)<(19:Int)]) (hv:=(by simp only [Conj,Fits,i64_min,i64_max,u8_min,u8_max,News.len,maxLen];(repeat' (first | apply And.intro | intro _))<;>first | grind | (simp only [BL] at *;omega)))
   exact tRet [] [0,1] [(z41_2 k a b)=truthI (decide (a<b)),z41_1 k] (by simp only [Conj];first | (have e:twoB k=true:=(by simpa using h1);subst hs2;exact ⟨(if_pos e).trans rfl,(if_pos e).trans rfl⟩) | (simp only [BL] at h1;simp [h1];done))
  ·refine tWk (St.mk 20 [En.mk 11 [] (SV.c (C.t false)),En.mk 10 [] (SV.c (C.b (twoB (14:Int)))),En.mk 7 [] (SV.c (C.i .i64 0)),En.mk 6 [] (SV.c (C.i .i64 0)),En.mk 0 [] (SV.c (C.i .u8 14)),En.mk 1 [] (SV.c (C.i .i64 a)),En.mk 2 [] (SV.c (C.i .i64 b))] [] []) ?_ [] [0,3] [twoB (14:Int)=twoB k,(14:Int)=k] (by simp only [Conj];(repeat' apply And.intro)<;>first | trivial | rfl | (intros;rfl) | (exact Eq.symm (by assumption)) | grind)
   refine tz [7,6,0,1,2] ?_
   refine tCall e_words_operators (c_operators) [] ?_
   refine tz [12,7,6,0,1,2] ?_
   refine tCall e_words_word_most (c_w_most (a:=a) (b:=b)) [] ?_ (vc:=[(0:Int)≤(14:Int),(14:Int)<(19:Int)]) (hv:=(by simp only [Conj,Fits,i64_min,i64_max,u8_min,u8_max,News.len,maxLen];(repeat' (first | apply And.intro | intro _))<;>first | grind | (simp only [BL] at *;omega)))
   exact tRet [] [0,1] [(z41_2 k a b)=truthI (decide (a≤b)),z41_1 k] (by simp only [Conj];first | (have e:twoB k=true:=(by simpa using h1);subst hs2;exact ⟨(if_pos e).trans rfl,(if_pos e).trans rfl⟩) | (simp only [BL] at h1;simp [h1];done))
  ·refine tWk (St.mk 20 [En.mk 11 [] (SV.c (C.t false)),En.mk 10 [] (SV.c (C.b (twoB (15:Int)))),En.mk 7 [] (SV.c (C.i .i64 0)),En.mk 6 [] (SV.c (C.i .i64 0)),En.mk 0 [] (SV.c (C.i .u8 15)),En.mk 1 [] (SV.c (C.i .i64 a)),En.mk 2 [] (SV.c (C.i .i64 b))] [] []) ?_ [] [0,3] [twoB (15:Int)=twoB k,(15:Int)=k] (by simp only [Conj];(repeat' apply And.intro)<;>first | trivial | rfl | (intros;rfl) | (exact Eq.symm (by assumption)) | grind)
   refine tz [7,6,0,1,2] ?_
   refine tCall e_words_operators (c_operators) [] ?_
   refine tz [12,7,6,0,1,2] ?_
   refine tCall e_words_word_above (c_w_above (a:=a) (b:=b)) [] ?_ (vc:=[(0:Int)≤(15:Int),(15:Int)<(19:Int)]) (hv:=(by simp only [Conj,Fits,i64_min,i64_max,u8_min,u8_max,News.len,maxLen];(repeat' (first | apply And.intro | intro _))<;>first | grind | (simp only [BL] at *;omega)))
   exact tRet [] [0,1] [(z41_2 k a b)=truthI (decide (b<a)),z41_1 k] (by simp only [Conj];first | (have e:twoB k=true:=(by simpa using h1);subst hs2;exact ⟨(if_pos e).trans rfl,(if_pos e).trans rfl⟩) | (simp only [BL] at h1;simp [h1];done))
  ·refine tWk (St.mk 20 [En.mk 11 [] (SV.c (C.t false)),En.mk 10 [] (SV.c (C.b (twoB (16:Int)))),En.mk 7 [] (SV.c (C.i .i64 0)),En.mk 6 [] (SV.c (C.i .i64 0)),En.mk 0 [] (SV.c (C.i .u8 16)),En.mk 1 [] (SV.c (C.i .i64 a)),En.mk 2 [] (SV.c (C.i .i64 b))] [] []) ?_ [] [0,3] [twoB (16:Int)=twoB k,(16:Int)=k] (by simp only [Conj];(repeat' apply And.intro)<;>first | trivial | rfl | (intros;rfl) | (exact Eq.symm (by assumption)) | grind)
   refine tz [7,6,0,1,2] ?_
   refine tCall e_words_operators (c_operators) [] ?_
   refine tz [12,7,6,0,1,2] ?_
   refine tCall e_words_word_least (c_w_least (a:=a) (b:=b)) [] ?_ (vc:=[(0:Int)≤(16:Int),(16:Int)<(19:Int)]) (hv:=(by simp only [Conj,Fits,i64_min,i64_max,u8_min,u8_max,News.len,maxLen];(repeat' (first | apply And.intro | intro _))<;>first | grind | (simp only [BL] at *;omega)))
   exact tRet [] [0,1] [(z41_2 k a b)=truthI (decide (b≤a)),z41_1 k] (by simp only [Conj];first | (have e:twoB k=true:=(by simpa using h1);subst hs2;exact ⟨(if_pos e).trans rfl,(if_pos e).trans rfl⟩) | (simp only [BL] at h1;simp [h1];done))
abbrev z41_3 (k:Int):=(if (opB k&&!twoB k)=true then (0:Int) else (2:Int))
theorem c_one (k a:Int):Ctr Try.prog 117 [] [.c (.i .u8 k),.c (.i .i64 a)]
 (Det (.tup [(false,[.i .i64 (if opB k&&!twoB k then opOne k a else 0)]),(false,[.i .i64 (if opB k&&!twoB k then 0 else 2)])]) []):=by
 refine Ctr.intro [] Try.func117 K K ?_
 refine tCall e_words_known (c_known (k:=k)) [] ?_
 refine tz [8,5,4,0,1] ?_
 refine tG e_words_Two (c_two (k:=k)) [] ?_
 refine tz [12,10,5,4,0,1] ?_
 refine tCond (!opB k||twoB k) (fun h1=>?_) (fun h1=>?_)
 ·exact tRet [] [0,1] [(if (opB k&&!twoB k)=true then opOne k a else (0:Int))=(0:Int),(z41_3 k)=(2:Int)] (by simp only [Conj];first | (have e:(opB k&&!twoB k)=true:=(by simp only [BL] at *;grind);subst hs2;exact ⟨(if_pos e).trans rfl,(if_pos e).trans rfl⟩) | (simp only [BL] at *;grind))
 ·rcases (show k=(17:Int)∨k=(18:Int) from by (simp only [twoB,opB] at h1;simp only [BL] at *;omega)) with hs2 | hs2
  ·refine tWk (St.mk 21 [En.mk 13 [] (SV.c (C.t false)),En.mk 10 [] (SV.c (C.b !opB (17:Int))),En.mk 5 [] (SV.c (C.i .i64 0)),En.mk 4 [] (SV.c (C.i .i64 0)),En.mk 0 [] (SV.c (C.i .u8 17)),En.mk 1 [] (SV.c (C.i .i64 a))] [] []) ?_ [] [0,3] [(!opB (17:Int))=!opB k,(17:Int)=k] (by simp only [Conj];(repeat' apply And.intro)<;>first | trivial | rfl | (intros;rfl) | (exact Eq.symm (by assumption)) | grind)
   refine tz [5,4,0,1] ?_
   refine tCall e_words_operators (c_operators) [] ?_
   refine tz [14,5,4,0,1] ?_
   refine tCall e_words_word_minus (c_w_minus (a:=a)) [] ?_ (vc:=[(0:Int)≤(17:Int),(17:Int)<(19:Int)]) (hv:=(by simp only [Conj,Fits,i64_min,i64_max,u8_min,u8_max,News.len,maxLen];(repeat' (first | apply And.intro | intro _))<;>first | grind | (simp only [BL] at *;omega)))
   exact tRet [] [0,1] [(if (opB k&&!twoB k)=true then opOne k a else (0:Int))=w64 ((0:Int)-a),(z41_3 k)=(0:Int)] (by simp only [Conj];first | (have e:(opB k&&!twoB k)=true:=(by simp only [BL] at *;grind);subst hs2;exact ⟨(if_pos e).trans rfl,(if_pos e).trans rfl⟩) | (simp only [BL] at *;grind))
  ·refine tWk (St.mk 21 [En.mk 13 [] (SV.c (C.t false)),En.mk 10 [] (SV.c (C.b !opB (18:Int))),En.mk 5 [] (SV.c (C.i .i64 0)),En.mk 4 [] (SV.c (C.i .i64 0)),En.mk 0 [] (SV.c (C.i .u8 18)),En.mk 1 [] (SV.c (C.i .i64 a))] [] []) ?_ [] [0,3] [(!opB (18:Int))=!opB k,(18:Int)=k] (by simp only [Conj];(repeat' apply And.intro)<;>first | trivial | rfl | (intros;rfl) | (exact Eq.symm (by assumption)) | grind)
   refine tz [5,4,0,1] ?_
   refine tCall e_words_operators (c_operators) [] ?_
   refine tz [14,5,4,0,1] ?_
   refine tCall e_words_word_not (c_w_not (a:=a)) [] ?_ (vc:=[(0:Int)≤(18:Int),(18:Int)<(19:Int)]) (hv:=(by simp only [Conj,Fits,i64_min,i64_max,u8_min,u8_max,News.len,maxLen];(repeat' (first | apply And.intro | intro _))<;>first | grind | (simp only [BL] at *;omega)))
   exact tRet [] [0,1] [(if (opB k&&!twoB k)=true then opOne k a else (0:Int))=truthI (decide (a=(0:Int))),(z41_3 k)=(0:Int)] (by simp only [Conj];first | (have e:(opB k&&!twoB k)=true:=(by simp only [BL] at *;grind);subst hs2;exact ⟨(if_pos e).trans rfl,(if_pos e).trans rfl⟩) | (simp only [BL] at *;grind))
end Go.Proofs.Ytmjjikcappbkeaa
end
noncomputable section
namespace Go.Proofs.Ytmjjikcappbkeaa
open Go Go.Tx
theorem c_has (sh lk bu:Int) (cs:List Cor) (vs:List VCo) (mem:List Int) (pr:List Prt) (k:Int):Ctr Try.prog 45 [Reg.ro (vmC sh lk bu 1 2 3 4),Cor.rowR cs,VCo.rowR vs,WordRow mem,Prt.rowR pr] [.c (.p 0 0),.c (.i .i64 k)]
 (Det (.c (.i .i64 (vmHas vs.length k))) [.dead,.dead,.dead,.dead,.dead]):=by
 refine Ctr.intro [] Try.func45 K K ?_
 refine tCond (decide (k<(0:Int))||decide ((↑vs.length:Int)≤k)) (fun h1=>?_) (fun h1=>?_)
 ·exact tRet [] [0] [vmHas vs.length k=(180:Int)] (by simp only [Conj,vmHas] at *<;>grind)
 ·exact tRet [] [0] [vmHas vs.length k=(0:Int)] (by simp only [Conj,vmHas] at *<;>grind)
abbrev z42_4 (bu:Int) (i:Ins) (vs:List VCo) (k:Nat):=[stallB bu i (vs.getD k default).buf=decide ((0:Int)<(↑(vs.getD k default).buf.length:Int))]
theorem c_stalls (sh lk bu:Int) (cs:List Cor) (vs:List VCo) (mem:List Int) (pr:List Prt) (k:Nat) (i:Ins) (core pc:Int) (hk:k<vs.length):Ctr Try.prog 64 [Reg.ro (vmC sh lk bu 1 2 3 4),Cor.rowR cs,VCo.rowR vs,WordRow mem,Prt.rowR pr,Reg.ro [.i .u8 0,.i .i64 core,.i .i64 pc,.i .i64 0,.i .i64 0,.i .i64 0,.t false]] [.agg [.p 0 0,.e 2 19 k 0,.i .u8 i.kind,.i .u8 i.op,.i .i64 i.d,.i .i64 i.a,.i .i64 i.b,.i .i64 i.addr,.i .i64 i.to,.i .i64 i.word,.i .i64 i.from_,.p 5 0]]
 (Det (.c (.b (stallB bu i (vs.getD k default).buf))) [.dead,.dead,.dead,.dead,.dead,.dead]):=by
 refine Ctr.intro [] Try.func64 K K ?_
 refine tFoc 2 (k) ?_ (vc:=[k<vs.length]) (hv:=(by simp only [Conj,Fits,i64_min,i64_max,u8_min,u8_max,News.len,maxLen]<;>(repeat' (first | apply And.intro | intro _))<;>first | grind | (simp only [BL] at *;omega)))
 refine tCond (decide (i.kind=(4:Int))) (fun h1=>?_) (fun h1=>?_)
 ·exact tRet [] [0] [stallB bu i (vs.getD k default).buf=decide (bu≤(↑(vs.getD k default).buf.length:Int))] (by simp only [Conj,stallB] at *<;>grind) (vc:=[k=k]) (hv:=(by simp only [Conj,Fits,i64_min,i64_max,u8_min,u8_max,News.len,maxLen]<;>(repeat' (first | apply And.intro | intro _))<;>first | grind | (simp only [BL] at *;omega)))
 ·refine tz [5,2,1] ?_
  refine tCond (decide (i.kind=(5:Int))) (fun h2=>?_) (fun h2=>?_)
  ·exact tRet [] [0] (z42_4 bu i vs k) (by simp only [Conj,stallB] at *<;>grind) (vc:=[k=k]) (hv:=(by simp only [Conj,Fits,i64_min,i64_max,u8_min,u8_max,News.len,maxLen]<;>(repeat' (first | apply And.intro | intro _))<;>first | grind | (simp only [BL] at *;omega)))
  ·refine tz [21,5,2,1] ?_
   refine tCond (decide (i.kind=(6:Int))) (fun h3=>?_) (fun h3=>?_)
   ·exact tRet [] [0] (z42_4 bu i vs k) (by simp only [Conj,stallB] at *<;>grind) (vc:=[k=k]) (hv:=(by simp only [Conj,Fits,i64_min,i64_max,u8_min,u8_max,News.len,maxLen]<;>(repeat' (first | apply And.intro | intro _))<;>first | grind | (simp only [BL] at *;omega)))
   ·refine tz [21,5,2,1] ?_
    refine tCond (decide (i.kind=(7:Int))) (fun h4=>?_) (fun h4=>?_)
    ·exact tRet [] [0] (z42_4 bu i vs k) (by simp only [Conj,stallB] at *<;>grind) (vc:=[k=k]) (hv:=(by simp only [Conj,Fits,i64_min,i64_max,u8_min,u8_max,News.len,maxLen]<;>(repeat' (first | apply And.intro | intro _))<;>first | grind | (simp only [BL] at *;omega)))
    ·exact tRet [] [0] [stallB bu i (vs.getD k default).buf=false] (by simp only [Conj,stallB] at *<;>grind)
abbrev z42_1 (core:Int) (pc:Int):=(Did.mk (1:Int) core pc (0:Int) (0:Int) (0:Int) false)
theorem c_t_set (sh lk bu:Int) (cs:List Cor) (vs:List VCo) (mem:List Int) (pr:List Prt) (k:Nat) (i:Ins) (core pc:Int) (hk:k<vs.length) (hd:0≤i.d∧i.d<16):Ctr Try.prog 98 [Reg.box 138 (vmC sh lk bu 1 2 3 4),Cor.rowR cs,VCo.ownR vs,WordOwn mem,Prt.ownR pr,Reg.box 66 [.i .u8 0,.i .i64 core,.i .i64 pc,.i .i64 0,.i .i64 0,.i .i64 0,.t false]] [.agg [.p 0 0,.e 2 19 k 0,.i .u8 i.kind,.i .u8 i.op,.i .i64 i.d,.i .i64 i.a,.i .i64 i.b,.i .i64 i.addr,.i .i64 i.to,.i .i64 i.word,.i .i64 i.from_,.p 5 0]]
 (Det (.tup []) [Reg.box 138 (vmC sh lk bu 1 2 3 6),.dead,VCo.ownR (vs.set k (setT i (vs.getD k default))),WordOwn (mem),.dead,Reg.box 66 (Did.cs ⟨1,core,pc,0,0,0,false⟩),Prt.ownR (pr)]):=by
 refine Ctr.intro [] Try.func98 K K ?_
 refine tFoc 2 (k) ?_ (vc:=[k<vs.length]) (hv:=(by simp only [Conj,Fits,i64_min,i64_max,u8_min,u8_max,News.len,maxLen]<;>(repeat' (first | apply And.intro | intro _))<;>first | grind | (simp only [BL] at *;omega)))
 exact tFinF [(2,(VCo.tc (setT i (vs.getD k default))))] [0,1,2,3,4,5,4] [4,5,8,9,10,11,12,13,14] [(vs.set k (setT i (vs.getD k default))).length=vs.length,∀ (i_1:Nat),i_1<(vs.set k (setT i (vs.getD k default))).length→((vs.set k (setT i (vs.getD k default))).getD i_1 default).tc=if i_1=k then (setT i (vs.getD k default)).tc else (vs.getD i_1 default).tc,(z42_1 core pc).kind=(1:Int),(z42_1 core pc).core=core,(z42_1 core pc).pc=pc,(z42_1 core pc).addr=(0:Int),(z42_1 core pc).word=(0:Int),(z42_1 core pc).put=(0:Int),(z42_1 core pc).own=false] (by simp only [Conj];(repeat' apply And.intro)<;>first | trivial | rfl | exact fun _ _=>rfl | exact List.length_set | exact set_ints _ _ _ | exact set_tc _ _ _ _ _ | (intro j hj;first | exact set_tc _ _ _ _ _ j hj | (rw [set_tc _ _ _ _ _ j hj];rfl)) | (intros;rfl) | grind) (vc:=[(0:Int)≤i.d,i.d<(16:Int),i.d.toNat<16,k=k]) (hv:=(by simp only [Conj,Fits,i64_min,i64_max,u8_min,u8_max,News.len,maxLen]<;>(repeat' (first | apply And.intro | intro _))<;>first | grind | (simp only [BL] at *;omega))) (vc2:=[(setT i (vs.getD k default)).pos=(vs.getD k default).pos,(setT i (vs.getD k default)).halted=(vs.getD k default).halted,(setT i (vs.getD k default)).regs.getD 0 (0:Int)=if i.d.toNat=0 then i.word else (vs.getD k default).regs.getD 0 (0:Int),(setT i (vs.getD k default)).regs.getD 1 (0:Int)=if i.d.toNat=1 then i.word else (vs.getD k default).regs.getD 1 (0:Int),(setT i (vs.getD k default)).regs.getD 2 (0:Int)=if i.d.toNat=2 then i.word else (vs.getD k default).regs.getD 2 (0:Int),(setT i (vs.getD k default)).regs.getD 3 (0:Int)=if i.d.toNat=3 then i.word else (vs.getD k default).regs.getD 3 (0:Int),(setT i (vs.getD k default)).regs.getD 4 (0:Int)=if i.d.toNat=4 then i.word else (vs.getD k default).regs.getD 4 (0:Int),(setT i (vs.getD k default)).regs.getD 5 (0:Int)=if i.d.toNat=5 then i.word else (vs.getD k default).regs.getD 5 (0:Int),(setT i (vs.getD k default)).regs.getD 6 (0:Int)=if i.d.toNat=6 then i.word else (vs.getD k default).regs.getD 6 (0:Int),(setT i (vs.getD k default)).regs.getD 7 (0:Int)=if i.d.toNat=7 then i.word else (vs.getD k default).regs.getD 7 (0:Int),(setT i (vs.getD k default)).regs.getD 8 (0:Int)=if i.d.toNat=8 then i.word else (vs.getD k default).regs.getD 8 (0:Int),(setT i (vs.getD k default)).regs.getD 9 (0:Int)=if i.d.toNat=9 then i.word else (vs.getD k default).regs.getD 9 (0:Int),(setT i (vs.getD k default)).regs.getD 10 (0:Int)=if i.d.toNat=10 then i.word else (vs.getD k default).regs.getD 10 (0:Int),(setT i (vs.getD k default)).regs.getD 11 (0:Int)=if i.d.toNat=11 then i.word else (vs.getD k default).regs.getD 11 (0:Int),(setT i (vs.getD k default)).regs.getD 12 (0:Int)=if i.d.toNat=12 then i.word else (vs.getD k default).regs.getD 12 (0:Int),(setT i (vs.getD k default)).regs.getD 13 (0:Int)=if i.d.toNat=13 then i.word else (vs.getD k default).regs.getD 13 (0:Int),(setT i (vs.getD k default)).regs.getD 14 (0:Int)=if i.d.toNat=14 then i.word else (vs.getD k default).regs.getD 14 (0:Int),(setT i (vs.getD k default)).regs.getD 15 (0:Int)=if i.d.toNat=15 then i.word else (vs.getD k default).regs.getD 15 (0:Int),(setT i (vs.getD k default)).buf.length=(vs.getD k default).buf.length,∀ (i_1:Nat),i_1<(setT i (vs.getD k default)).buf.length→((setT i (vs.getD k default)).buf.getD i_1 default).tc=((vs.getD k default).buf.getD i_1 default).tc]) (hv2:=(by simp only [Conj];(repeat' apply And.intro)<;>first | trivial | rfl | exact fun _ _=>rfl | (intros;rfl)))
abbrev z42_2 (core:Int) (pc:Int):=(Did.mk (5:Int) core pc (0:Int) (0:Int) (0:Int) false)
theorem c_t_fence (sh lk bu:Int) (cs:List Cor) (vs:List VCo) (mem:List Int) (pr:List Prt) (k:Nat) (i:Ins) (core pc:Int) (hk:k<vs.length):Ctr Try.prog 103 [Reg.box 138 (vmC sh lk bu 1 2 3 4),Cor.rowR cs,VCo.ownR vs,WordOwn mem,Prt.ownR pr,Reg.box 66 [.i .u8 0,.i .i64 core,.i .i64 pc,.i .i64 0,.i .i64 0,.i .i64 0,.t false]] [.agg [.p 0 0,.e 2 19 k 0,.i .u8 i.kind,.i .u8 i.op,.i .i64 i.d,.i .i64 i.a,.i .i64 i.b,.i .i64 i.addr,.i .i64 i.to,.i .i64 i.word,.i .i64 i.from_,.p 5 0]]
 (Det (.tup []) [Reg.box 138 (vmC sh lk bu 1 2 3 6),.dead,VCo.ownR (vs.set k (id (vs.getD k default))),WordOwn (mem),.dead,Reg.box 66 (Did.cs ⟨5,core,pc,0,0,0,false⟩),Prt.ownR (pr)]):=by
 refine Ctr.intro [] Try.func103 K K ?_
 refine tFoc 2 (k) ?_ (vc:=[k<vs.length]) (hv:=(by simp only [Conj,Fits,i64_min,i64_max,u8_min,u8_max,News.len,maxLen]<;>(repeat' (first | apply And.intro | intro _))<;>first | grind | (simp only [BL] at *;omega)))
 exact tFinF [(2,(VCo.tc (id (vs.getD k default))))] [0,1,2,3,4,5,4] [4,5,8,9,10,11,12,13,14] [(vs.set k (id (vs.getD k default))).length=vs.length,∀ (i:Nat),i<(vs.set k (id (vs.getD k default))).length→((vs.set k (id (vs.getD k default))).getD i default).tc=if i=k then (id (vs.getD k default)).tc else (vs.getD i default).tc,(z42_2 core pc).kind=(5:Int),(z42_2 core pc).core=core,(z42_2 core pc).pc=pc,(z42_2 core pc).addr=(0:Int),(z42_2 core pc).word=(0:Int),(z42_2 core pc).put=(0:Int),(z42_2 core pc).own=false] (by simp only [Conj];(repeat' apply And.intro)<;>first | trivial | rfl | exact fun _ _=>rfl | exact List.length_set | exact set_ints _ _ _ | exact set_tc _ _ _ _ _ | (intro j hj;first | exact set_tc _ _ _ _ _ j hj | (rw [set_tc _ _ _ _ _ j hj];rfl)) | (intros;rfl) | grind) (vc2:=[(id (vs.getD k default)).pos=(vs.getD k default).pos,(id (vs.getD k default)).halted=(vs.getD k default).halted,(id (vs.getD k default)).regs.getD 0 (0:Int)=(vs.getD k default).regs.getD 0 (0:Int),(id (vs.getD k default)).regs.getD 1 (0:Int)=(vs.getD k default).regs.getD 1 (0:Int),(id (vs.getD k default)).regs.getD 2 (0:Int)=(vs.getD k default).regs.getD 2 (0:Int),(id (vs.getD k default)).regs.getD 3 (0:Int)=(vs.getD k default).regs.getD 3 (0:Int),(id (vs.getD k default)).regs.getD 4 (0:Int)=(vs.getD k default).regs.getD 4 (0:Int),(id (vs.getD k default)).regs.getD 5 (0:Int)=(vs.getD k default).regs.getD 5 (0:Int),(id (vs.getD k default)).regs.getD 6 (0:Int)=(vs.getD k default).regs.getD 6 (0:Int),(id (vs.getD k default)).regs.getD 7 (0:Int)=(vs.getD k default).regs.getD 7 (0:Int),(id (vs.getD k default)).regs.getD 8 (0:Int)=(vs.getD k default).regs.getD 8 (0:Int),(id (vs.getD k default)).regs.getD 9 (0:Int)=(vs.getD k default).regs.getD 9 (0:Int),(id (vs.getD k default)).regs.getD 10 (0:Int)=(vs.getD k default).regs.getD 10 (0:Int),(id (vs.getD k default)).regs.getD 11 (0:Int)=(vs.getD k default).regs.getD 11 (0:Int),(id (vs.getD k default)).regs.getD 12 (0:Int)=(vs.getD k default).regs.getD 12 (0:Int),(id (vs.getD k default)).regs.getD 13 (0:Int)=(vs.getD k default).regs.getD 13 (0:Int),(id (vs.getD k default)).regs.getD 14 (0:Int)=(vs.getD k default).regs.getD 14 (0:Int),(id (vs.getD k default)).regs.getD 15 (0:Int)=(vs.getD k default).regs.getD 15 (0:Int),(id (vs.getD k default)).buf.length=(vs.getD k default).buf.length,∀ (i:Nat),i<(id (vs.getD k default)).buf.length→((id (vs.getD k default)).buf.getD i default).tc=((vs.getD k default).buf.getD i default).tc]) (hv2:=(by simp only [Conj];(repeat' apply And.intro)<;>first | trivial | rfl | exact fun _ _=>rfl | (intros;rfl)))
theorem c_t_jump (sh lk bu:Int) (cs:List Cor) (vs:List VCo) (mem:List Int) (pr:List Prt) (k:Nat) (i:Ins) (core pc:Int) (hk:k<vs.length):Ctr Try.prog 105 [Reg.box 138 (vmC sh lk bu 1 2 3 4),Cor.rowR cs,VCo.ownR vs,WordOwn mem,Prt.ownR pr,Reg.box 66 [.i .u8 0,.i .i64 core,.i .i64 pc,.i .i64 0,.i .i64 0,.i .i64 0,.t false]] [.agg [.p 0 0,.e 2 19 k 0,.i .u8 i.kind,.i .u8 i.op,.i .i64 i.d,.i .i64 i.a,.i .i64 i.b,.i .i64 i.addr,.i .i64 i.to,.i .i64 i.word,.i .i64 i.from_,.p 5 0]]
 (Det (.tup []) [Reg.box 138 (vmC sh lk bu 1 2 3 6),.dead,VCo.ownR (vs.set k (jumpT i (vs.getD k default))),WordOwn (mem),.dead,Reg.box 66 (Did.cs ⟨1,core,pc,0,0,0,false⟩),Prt.ownR (pr)]):=by
 refine Ctr.intro [] Try.func105 K K ?_
 refine tFoc 2 (k) ?_ (vc:=[k<vs.length]) (hv:=(by simp only [Conj,Fits,i64_min,i64_max,u8_min,u8_max,News.len,maxLen]<;>(repeat' (first | apply And.intro | intro _))<;>first | grind | (simp only [BL] at *;omega)))
 exact tFinF [(2,(VCo.tc (jumpT i (vs.getD k default))))] [0,1,2,3,4,5,4] [4,5,8,9,10,11,12,13,14] [(vs.set k (jumpT i (vs.getD k default))).length=vs.length,∀ (i_1:Nat),i_1<(vs.set k (jumpT i (vs.getD k default))).length→((vs.set k (jumpT i (vs.getD k default))).getD i_1 default).tc=if i_1=k then (jumpT i (vs.getD k default)).tc else (vs.getD i_1 default).tc,(z42_1 core pc).kind=(1:Int),(z42_1 core pc).core=core,(z42_1 core pc).pc=pc,(z42_1 core pc).addr=(0:Int),(z42_1 core pc).word=(0:Int),(z42_1 core pc).put=(0:Int),(z42_1 core pc).own=false] (by simp only [Conj];(repeat' apply And.intro)<;>first | trivial | rfl | exact fun _ _=>rfl | exact List.length_set | exact set_ints _ _ _ | exact set_tc _ _ _ _ _ | (intro j hj;first | exact set_tc _ _ _ _ _ j hj | (rw [set_tc _ _ _ _ _ j hj];rfl)) | (intros;rfl) | grind) (vc:=[k=k]) (hv:=(by simp only [Conj,Fits,i64_min,i64_max,u8_min,u8_max,News.len,maxLen]<;>(repeat' (first | apply And.intro | intro _))<;>first | grind | (simp only [BL] at *;omega))) (vc2:=[(jumpT i (vs.getD k default)).pos=i.to,(jumpT i (vs.getD k default)).halted=(vs.getD k default).halted,(jumpT i (vs.getD k default)).regs.getD 0 (0:Int)=(vs.getD k default).regs.getD 0 (0:Int),(jumpT i (vs.getD k default)).regs.getD 1 (0:Int)=(vs.getD k default).regs.getD 1 (0:Int),(jumpT i (vs.getD k default)).regs.getD 2 (0:Int)=(vs.getD k default).regs.getD 2 (0:Int),(jumpT i (vs.getD k default)).regs.getD 3 (0:Int)=(vs.getD k default).regs.getD 3 (0:Int),(jumpT i (vs.getD k default)).regs.getD 4 (0:Int)=(vs.getD k default).regs.getD 4 (0:Int),(jumpT i (vs.getD k default)).regs.getD 5 (0:Int)=(vs.getD k default).regs.getD 5 (0:Int),(jumpT i (vs.getD k default)).regs.getD 6 (0:Int)=(vs.getD k default).regs.getD 6 (0:Int),(jumpT i (vs.getD k default)).regs.getD 7 (0:Int)=(vs.getD k default).regs.getD 7 (0:Int),(jumpT i (vs.getD k default)).regs.getD 8 (0:Int)=(vs.getD k default).regs.getD 8 (0:Int),(jumpT i (vs.getD k default)).regs.getD 9 (0:Int)=(vs.getD k default).regs.getD 9 (0:Int),(jumpT i (vs.getD k default)).regs.getD 10 (0:Int)=(vs.getD k default).regs.getD 10 (0:Int),(jumpT i (vs.getD k default)).regs.getD 11 (0:Int)=(vs.getD k default).regs.getD 11 (0:Int),(jumpT i (vs.getD k default)).regs.getD 12 (0:Int)=(vs.getD k default).regs.getD 12 (0:Int),(jumpT i (vs.getD k default)).regs.getD 13 (0:Int)=(vs.getD k default).regs.getD 13 (0:Int),(jumpT i (vs.getD k default)).regs.getD 14 (0:Int)=(vs.getD k default).regs.getD 14 (0:Int),(jumpT i (vs.getD k default)).regs.getD 15 (0:Int)=(vs.getD k default).regs.getD 15 (0:Int),(jumpT i (vs.getD k default)).buf.length=(vs.getD k default).buf.length,∀ (i_1:Nat),i_1<(jumpT i (vs.getD k default)).buf.length→((jumpT i (vs.getD k default)).buf.getD i_1 default).tc=((vs.getD k default).buf.getD i_1 default).tc]) (hv2:=(by simp only [Conj];(repeat' apply And.intro)<;>first | trivial | rfl | exact fun _ _=>rfl | (intros;rfl)))
abbrev z42_3 (core:Int) (pc:Int):=(Did.mk (7:Int) core pc (0:Int) (0:Int) (0:Int) false)
theorem c_t_halt (sh lk bu:Int) (cs:List Cor) (vs:List VCo) (mem:List Int) (pr:List Prt) (k:Nat) (i:Ins) (core pc:Int) (hk:k<vs.length):Ctr Try.prog 107 [Reg.box 138 (vmC sh lk bu 1 2 3 4),Cor.rowR cs,VCo.ownR vs,WordOwn mem,Prt.ownR pr,Reg.box 66 [.i .u8 0,.i .i64 core,.i .i64 pc,.i .i64 0,.i .i64 0,.i .i64 0,.t false]] [.agg [.p 0 0,.e 2 19 k 0,.i .u8 i.kind,.i .u8 i.op,.i .i64 i.d,.i .i64 i.a,.i .i64 i.b,.i .i64 i.addr,.i .i64 i.to,.i .i64 i.word,.i .i64 i.from_,.p 5 0]]
 (Det (.tup []) [Reg.box 138 (vmC sh lk bu 1 2 3 6),.dead,VCo.ownR (vs.set k (haltT pc (vs.getD k default))),WordOwn (mem),.dead,Reg.box 66 (Did.cs ⟨7,core,pc,0,0,0,false⟩),Prt.ownR (pr)]):=by
 refine Ctr.intro [] Try.func107 K K ?_
 refine tFoc 2 (k) ?_ (vc:=[k<vs.length]) (hv:=(by simp only [Conj,Fits,i64_min,i64_max,u8_min,u8_max,News.len,maxLen]<;>(repeat' (first | apply And.intro | intro _))<;>first | grind | (simp only [BL] at *;omega)))
 exact tFinF [(2,(VCo.tc (haltT pc (vs.getD k default))))] [0,1,2,3,4,5,4] [4,5,8,9,10,11,12,13,14] [(vs.set k (haltT pc (vs.getD k default))).length=vs.length,∀ (i:Nat),i<(vs.set k (haltT pc (vs.getD k default))).length→((vs.set k (haltT pc (vs.getD k default))).getD i default).tc=if i=k then (haltT pc (vs.getD k default)).tc else (vs.getD i default).tc,(z42_3 core pc).kind=(7:Int),(z42_3 core pc).core=core,(z42_3 core pc).pc=pc,(z42_3 core pc).addr=(0:Int),(z42_3 core pc).word=(0:Int),(z42_3 core pc).put=(0:Int),(z42_3 core pc).own=false] (by simp only [Conj];(repeat' apply And.intro)<;>first | trivial | rfl | exact fun _ _=>rfl | exact List.length_set | exact set_ints _ _ _ | exact set_tc _ _ _ _ _ | (intro j hj;first | exact set_tc _ _ _ _ _ j hj | (rw [set_tc _ _ _ _ _ j hj];rfl)) | (intros;rfl) | grind) (vc:=[k=k,k=k]) (hv:=(by simp only [Conj,Fits,i64_min,i64_max,u8_min,u8_max,News.len,maxLen]<;>(repeat' (first | apply And.intro | intro _))<;>first | grind | (simp only [BL] at *;omega))) (vc2:=[(haltT pc (vs.getD k default)).pos=pc,(haltT pc (vs.getD k default)).halted=true,(haltT pc (vs.getD k default)).regs.getD 0 (0:Int)=(vs.getD k default).regs.getD 0 (0:Int),(haltT pc (vs.getD k default)).regs.getD 1 (0:Int)=(vs.getD k default).regs.getD 1 (0:Int),(haltT pc (vs.getD k default)).regs.getD 2 (0:Int)=(vs.getD k default).regs.getD 2 (0:Int),(haltT pc (vs.getD k default)).regs.getD 3 (0:Int)=(vs.getD k default).regs.getD 3 (0:Int),(haltT pc (vs.getD k default)).regs.getD 4 (0:Int)=(vs.getD k default).regs.getD 4 (0:Int),(haltT pc (vs.getD k default)).regs.getD 5 (0:Int)=(vs.getD k default).regs.getD 5 (0:Int),(haltT pc (vs.getD k default)).regs.getD 6 (0:Int)=(vs.getD k default).regs.getD 6 (0:Int),(haltT pc (vs.getD k default)).regs.getD 7 (0:Int)=(vs.getD k default).regs.getD 7 (0:Int),(haltT pc (vs.getD k default)).regs.getD 8 (0:Int)=(vs.getD k default).regs.getD 8 (0:Int),(haltT pc (vs.getD k default)).regs.getD 9 (0:Int)=(vs.getD k default).regs.getD 9 (0:Int),(haltT pc (vs.getD k default)).regs.getD 10 (0:Int)=(vs.getD k default).regs.getD 10 (0:Int),(haltT pc (vs.getD k default)).regs.getD 11 (0:Int)=(vs.getD k default).regs.getD 11 (0:Int),(haltT pc (vs.getD k default)).regs.getD 12 (0:Int)=(vs.getD k default).regs.getD 12 (0:Int),(haltT pc (vs.getD k default)).regs.getD 13 (0:Int)=(vs.getD k default).regs.getD 13 (0:Int),(haltT pc (vs.getD k default)).regs.getD 14 (0:Int)=(vs.getD k default).regs.getD 14 (0:Int),(haltT pc (vs.getD k default)).regs.getD 15 (0:Int)=(vs.getD k default).regs.getD 15 (0:Int),(haltT pc (vs.getD k default)).buf.length=(vs.getD k default).buf.length,∀ (i:Nat),i<(haltT pc (vs.getD k default)).buf.length→((haltT pc (vs.getD k default)).buf.getD i default).tc=((vs.getD k default).buf.getD i default).tc]) (hv2:=(by simp only [Conj];(repeat' apply And.intro)<;>first | trivial | rfl | exact fun _ _=>rfl | (intros;rfl)))
end Go.Proofs.Ytmjjikcappbkeaa
end
