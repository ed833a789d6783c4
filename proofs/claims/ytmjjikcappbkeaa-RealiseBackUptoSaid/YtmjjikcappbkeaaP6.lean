/-
  A part of the proof. Text 6 of 8: SpecM SpecR SpecP Leaf55 Leaf56 SpecO Leaf57 Leaf12 Leaf13.
-/
import Derived.Test.YtmjjikcappbkeaaP5
import Derived.Test.YtmjjikcappbkeaaP4
set_option linter.unusedSimpArgs false
set_option linter.unusedVariables false
set_option maxHeartbeats 1000000
set_option maxHeartbeats 4000000
namespace Go.Proofs.Ytmjjikcappbkeaa
open Go Go.Tx
theorem getD_set {α:Type} [Inhabited α] {l:List α} {k j:Nat} {x:α} (hk:k<l.length):(l.set k x).getD j default=if j=k then x else l.getD j default:=by
 rw [List.getD_eq_getElem?_getD,List.getElem?_set,List.getD_eq_getElem?_getD]
 by_cases h:k=j
 ·subst h;simp [hk]
 ·rw [if_neg h,if_neg (Ne.symm h)]
section
variable {mem:List Int} {sh lk bu:Int} {cs:List Cor}
theorem chk_parts (h:chkE mem sh lk bu cs=0):shapedB mem sh lk bu cs=true∧badI mem cs=cs.length:=by
 unfold chkE at h
 split at h
 ·rename_i hc
  simpa using hc
 ·simp at h
theorem chk_insb (h:chkE mem sh lk bu cs=0) (j q:Nat) (hj:j<cs.length) (hq:q<(cs.getD j default).code.length):insB ((cs.getD j default).code.getD q default) (cs.getD j default).code.length mem.length=true:=by
 have h1:=(chk_parts h).2
 have h2:decide (badI mem cs=cs.length)=true:=by simpa using h1
 unfold badI at h2
 rw [findFrom_all _ _ 0 rfl (by omega)] at h2
 have h3:=allFrom_at (k:=(j:Int)) _ 0 rfl h2 (by omega) (by omega)
 unfold rowB at h3
 rw [findFrom_all _ _ 0 rfl (by omega)] at h3
 have h4:=allFrom_at (k:=(q:Int)) _ 0 rfl h3 (by omega) (by unfold corAt;simpa using hq)
 unfold insOk insAt corAt at h4
 simpa using h4
theorem chk_cor (h:chkE mem sh lk bu cs=0) (j:Nat) (hj:j<cs.length):1≤(cs.getD j default).code.length ∧
 (((cs.getD j default).code.getD ((cs.getD j default).code.length-1) default).kind=10∨((cs.getD j default).code.getD ((cs.getD j default).code.length-1) default).kind=8):=by
 have hs:=(chk_parts h).1
 unfold shapedB at hs
 simp only [Bool.and_eq_true] at hs
 have h3:=allFrom_at (k:=(j:Int)) _ 0 rfl hs.2 (by omega) (by omega)
 unfold corB insAt corAt at h3
 simp only [Bool.and_eq_true,Bool.or_eq_true,decide_eq_true_eq,Int.toNat_natCast] at h3
 obtain ⟨⟨⟨_,h5⟩,_⟩,h6⟩:=h3
 have e:(((cs.getD j default).code.length:Int)-1).toNat=(cs.getD j default).code.length-1:=by omega
 rw [e] at h6
 exact ⟨by omega,h6⟩
theorem chk_num (h:chkE mem sh lk bu cs=0):(1≤bu∧bu≤16)∧cs.length≤8∧mem.length≤4096:=by
 have hs:=(chk_parts h).1
 unfold shapedB at hs
 simp only [Bool.and_eq_true,decide_eq_true_eq] at hs
 omega
theorem mac_new (h:chkE mem sh lk bu cs=0):MacOk bu cs (newVs cs.length) mem:=by
 have hn:=chk_num h
 have hl:(newVs cs.length).length=cs.length:=by simp [newVs]
 have hd:∀ j:Nat,((newVs cs.length).getD j default).buf=[]:=fun j=>by
  by_cases hj:j<cs.length
  ·rw [newVs_get hj]
  ·rw [List.getD_eq_getElem?_getD,List.getElem?_eq_none (by omega)];rfl
 refine ⟨hl.symm,hn.1,hn.2.1,hn.2.2,chk_insb h,fun j hj=>(chk_cor h j hj).2,fun j hj=>?_,(cors_bound h).2,fun j=>?_,fun j q hq=>?_,fun j hj=>?_⟩
 ·rw [newVs_get (by omega)]
  have:=(chk_cor h j (by omega)).1
  simp only;omega
 ·rw [hd];simp;omega
 ·rw [hd] at hq;simp at hq
 ·rw [newVs_get (by omega)];simp
end
section
variable {bu:Int} {cs:List Cor} {vs:List VCo} {mem:List Int}
theorem MacOk.set (h:MacOk bu cs vs mem) {k:Nat} (hk:k<vs.length) {c:VCo} {mem':List Int} (hl:mem'.length=mem.length) (hpos:0≤c.pos∧c.pos<(cs.getD k default).code.length) (hb:(c.buf.length:Int)≤bu)
 (hs:∀ q:Nat,q<c.buf.length→(0≤(c.buf.getD q default).addr∧(c.buf.getD q default).addr<mem.length)∧0≤(c.buf.getD q default).pos∧(c.buf.getD q default).pos<16384) (hr:c.regs.length=16):MacOk bu cs (vs.set k c) mem':=by
 refine ⟨by rw [List.length_set];exact h.len,h.bu16,h.cor8,by rw [hl];exact h.mem4,by rw [hl];exact h.insb,h.last,fun j hj=>?_,h.cod,fun j=>?_,fun j q hq=>?_,fun j hj=>?_⟩
 ·rw [getD_set hk]
  rw [List.length_set] at hj
  by_cases e:j=k
  ·subst e;rw [if_pos rfl];exact hpos
  ·rw [if_neg e];exact h.pos j hj
 ·rw [getD_set hk]
  by_cases e:j=k
  ·rw [if_pos e];exact hb
  ·rw [if_neg e];exact h.bufb j
 ·rw [getD_set hk] at hq ⊢
  rw [hl]
  by_cases e:j=k
  ·rw [if_pos e] at hq ⊢;exact hs q hq
  ·rw [if_neg e] at hq ⊢;exact h.stoa j q hq
 ·rw [getD_set hk]
  rw [List.length_set] at hj
  by_cases e:j=k
  ·rw [if_pos e];exact hr
  ·rw [if_neg e];exact h.regs j hj
theorem setR_len (l:List Int) (n:Nat) (x:Int):(setR l n x).length=16:=rfl
def nextT (bu:Int) (cs:List Cor) (k:Int) (vs:List VCo) (mem:List Int) (pr:List Prt):Trn:=
 turnV ((cs.getD k.toNat default).code.getD (vs.getD k.toNat default).pos.toNat default) ⟨0,k,(vs.getD k.toNat default).pos,0,0,0,false⟩ { vs.getD k.toNat default with pos:=(vs.getD k.toNat default).pos+1 } mem pr
theorem runV_cases (bu:Int) (cs:List Cor) (k:Int) (vs:List VCo) (mem:List Int) (pr:List Prt) :
 (vmHas vs.length k≠0∧runV bu cs k vs mem pr=⟨⟨0,0,0,0,0,0,false⟩,vmHas vs.length k,vs,mem,pr⟩) ∨
 ((0≤k∧k<vs.length)∧(vs.getD k.toNat default).halted=true∧runV bu cs k vs mem pr=⟨⟨0,0,0,0,0,0,false⟩,0,vs,mem,pr⟩) ∨
 ((0≤k∧k<vs.length)∧(vs.getD k.toNat default).halted=false∧stallB bu ((cs.getD k.toNat default).code.getD (vs.getD k.toNat default).pos.toNat default) (vs.getD k.toNat default).buf=true∧runV bu cs k vs mem pr=⟨⟨0,0,0,0,0,0,false⟩,181,vs,mem,pr⟩) ∨
 ((0≤k∧k<vs.length)∧(vs.getD k.toNat default).halted=false∧stallB bu ((cs.getD k.toNat default).code.getD (vs.getD k.toNat default).pos.toNat default) (vs.getD k.toNat default).buf=false ∧
   runV bu cs k vs mem pr=⟨(nextT bu cs k vs mem pr).did,0,vs.set k.toNat (nextT bu cs k vs mem pr).co,(nextT bu cs k vs mem pr).mem,(nextT bu cs k vs mem pr).pr⟩):=by
 by_cases h1:vmHas vs.length k=0
 ·have h1':(!decide (vmHas vs.length k=0))=false:=by simp [h1]
  have hk:=has_in h1'
  cases h2:(vs.getD k.toNat default).halted with
  | true=>exact .inr (.inl ⟨hk,rfl,run_halt h1' h2⟩)
  | false =>
    cases h3:stallB bu ((cs.getD k.toNat default).code.getD (vs.getD k.toNat default).pos.toNat default) (vs.getD k.toNat default).buf with
    | true=>exact .inr (.inr (.inl ⟨hk,rfl,rfl,run_stall h1' h2 h3⟩))
    | false =>
      refine .inr (.inr (.inr ⟨hk,rfl,rfl,?_⟩))
      unfold runV
      rw [if_neg (by simpa using h1'),if_neg (by rw [h2];simp),if_neg (by rw [show stallB bu (insAt' cs k (vs.getD k.toNat default).pos) (vs.getD k.toNat default).buf=false from h3];simp)]
      rfl
 ·exact .inl ⟨h1,run_has (by simp [h1])⟩
theorem drainV_cases (k:Int) (vs:List VCo) (mem:List Int) (pr:List Prt) :
 (vmHas vs.length k≠0∧drainV k vs mem pr=⟨⟨0,0,0,0,0,0,false⟩,vmHas vs.length k,vs,mem,pr⟩) ∨
 ((0≤k∧k<vs.length)∧(vs.getD k.toNat default).buf=[]∧drainV k vs mem pr=⟨⟨0,0,0,0,0,0,false⟩,0,vs,mem,pr⟩) ∨
 ((0≤k∧k<vs.length)∧0<(vs.getD k.toNat default).buf.length∧drainV k vs mem pr=⟨⟨8,k,((vs.getD k.toNat default).buf.getD 0 default).pos,((vs.getD k.toNat default).buf.getD 0 default).addr,((vs.getD k.toNat default).buf.getD 0 default).word,0,false⟩,0,
   vs.set k.toNat { vs.getD k.toNat default with buf:=(vs.getD k.toNat default).buf.drop 1 },mem.set ((vs.getD k.toNat default).buf.getD 0 default).addr.toNat ((vs.getD k.toNat default).buf.getD 0 default).word,pr⟩):=by
 by_cases h1:vmHas vs.length k=0
 ·have h1':(!decide (vmHas vs.length k=0))=false:=by simp [h1]
  have hk:=has_in h1'
  by_cases h2:(vs.getD k.toNat default).buf.length=0
  ·exact .inr (.inl ⟨hk,List.eq_nil_of_length_eq_zero h2,drain_none h1' (by simp only [decide_eq_true_eq];omega)⟩)
  ·exact .inr (.inr ⟨hk,by omega,drain_one h1' (by simp only [decide_eq_false_iff_not];omega)⟩)
 ·exact .inl ⟨h1,drain_has (by simp [h1])⟩
theorem nextT_ok (h:MacOk bu cs vs mem) {k:Int} (pr:List Prt) (hk:0≤k∧k<vs.length) (hst:stallB bu ((cs.getD k.toNat default).code.getD (vs.getD k.toNat default).pos.toNat default) (vs.getD k.toNat default).buf=false) :
 MacOk bu cs (vs.set k.toNat (nextT bu cs k vs mem pr).co) (nextT bu cs k vs mem pr).mem∧didB (nextT bu cs k vs mem pr).did=true∧(nextT bu cs k vs mem pr).did.core=k∧(nextT bu cs k vs mem pr).did.kind≤7∧0<(nextT bu cs k vs mem pr).did.kind ∧
  (nextT bu cs k vs mem pr).pr.length≤pr.length+1∧((nextT bu cs k vs mem pr).did.kind≠6→(nextT bu cs k vs mem pr).pr=pr):=by
 have hl:=h.len
 have hkl:k.toNat<vs.length:=by omega
 have hp:=h.pos k.toNat hkl
 have hins:=h.insb k.toNat (vs.getD k.toNat default).pos.toNat (by omega) (by omega)
 have hq:=insB_Q hins
 have hto:=insB_to hins
 have hla:=h.last k.toNat (by omega)
 have hcod:=h.cod k.toNat
 have hreg:=h.regs k.toNat hkl
 have hbuf:=h.bufb k.toNat
 have hsto:=h.stoa k.toNat
 have hb16:=h.bu16
 have hc8:=h.cor8
 have hm4:=h.mem4
 have hm0:0<mem.length∨mem.length=0:=by omega
 unfold nextT
 generalize hi:(cs.getD k.toNat default).code.getD (vs.getD k.toNat default).pos.toNat default=i at *
 generalize hv:vs.getD k.toNat default=v at *
 have hnx:i.kind≠10→i.kind≠8→v.pos+1<(cs.getD k.toNat default).code.length:=fun h1 h2=>by
  rcases Nat.lt_or_ge (v.pos.toNat+1) (cs.getD k.toNat default).code.length with h3 | h3
  ·omega
  ·have e:v.pos.toNat=(cs.getD k.toNat default).code.length-1:=by omega
   rw [← e,hi] at hla
   omega
 have hdid:∀ (kd ad w pt:Int) (ow:Bool),0<kd→kd<8→(0≤ad∧ad<mem.length∨ad=0)→(addrB kd=true∨ad=0)→(addrB kd=true∨kd=6∨w=0)→(kd=4∨pt=0)→(kd=2∨ow=false)→didB ⟨kd,k,v.pos,ad,w,pt,ow⟩=true:=fun kd ad w pt ow a1 a2 a3 a4 a5 a6 a7=>by
  unfold didB
  simp only [BL]
  refine ⟨⟨⟨⟨⟨⟨⟨⟨⟨⟨⟨?_,?_⟩,?_⟩,?_⟩,?_⟩,?_⟩,?_⟩,?_⟩,?_⟩,?_⟩,?_⟩,?_⟩<;>first | omega | grind
 have hsame:∀ c:VCo,c.buf=v.buf→(c.buf.length:Int)≤bu∧∀ q:Nat,q<c.buf.length→(0≤(c.buf.getD q default).addr∧(c.buf.getD q default).addr<mem.length)∧0≤(c.buf.getD q default).pos∧(c.buf.getD q default).pos<16384:=fun c e=>by
  rw [e];exact ⟨hbuf,hsto⟩
 rcases kinds10 hq with e | e | e | e | e | e | e | e | e | e
 ·rw [turn_1 e]
  exact ⟨h.set hkl rfl (by have:=hnx (by omega) (by omega);simp only [setT];omega) (hsame _ rfl).1 (hsame _ rfl).2 (setR_len _ _ _),hdid _ _ _ _ _ (by omega) (by omega) (.inr rfl) (.inr rfl) (.inr (.inr rfl)) (.inr rfl) (.inr rfl),rfl,by simp,by simp,by simp,fun _=>rfl⟩
 ·rw [turn_2 e]
  exact ⟨h.set hkl rfl (by have:=hnx (by omega) (by omega);simp only [opT];omega) (hsame _ rfl).1 (hsame _ rfl).2 (setR_len _ _ _),hdid _ _ _ _ _ (by omega) (by omega) (.inr rfl) (.inr rfl) (.inr (.inr rfl)) (.inr rfl) (.inr rfl),rfl,by simp,by simp,by simp,fun _=>rfl⟩
 ·rw [turn_3 e]
  exact ⟨h.set hkl rfl (by have:=hnx (by omega) (by omega);simp only [loadT];omega) (hsame _ rfl).1 (hsame _ rfl).2 (setR_len _ _ _),hdid _ _ _ _ _ (by omega) (by omega) (.inl (by unfold insQ at hq;omega)) (.inl rfl) (.inl rfl) (.inr rfl) (.inl rfl),rfl,by simp,by simp,by simp,fun _=>rfl⟩
 ·rw [turn_4 e]
  exact ⟨h.set hkl rfl (by have:=hnx (by omega) (by omega);simp only [storeT];omega) (by simp only [storeT,List.length_append,List.length_singleton];unfold stallB at hst;rw [if_pos e] at hst;simp at hst;omega) (fun q hq2=>by
   simp only [storeT] at hq2 ⊢
   by_cases hql:q<v.buf.length
   ·rw [getD_append_lt _ _ _ hql];exact hsto q hql
   ·have hqe:q=v.buf.length:=by simp at hq2;omega
    subst hqe
    rw [getD_snoc]
    exact ⟨by unfold insQ at hq;simp only;omega,by simp only;omega⟩) hreg,hdid _ _ _ _ _ (by omega) (by omega) (.inl (by unfold insQ at hq;omega)) (.inl rfl) (.inl rfl) (.inr rfl) (.inr rfl),rfl,by simp,by simp,by simp,fun _=>rfl⟩
 ·rw [turn_5 e]
  exact ⟨h.set hkl (by simp only [List.length_set]) (by have:=hnx (by omega) (by omega);simp only [swapT];omega) (hsame _ rfl).1 (hsame _ rfl).2 (setR_len _ _ _),hdid _ _ _ _ _ (by omega) (by omega) (.inl (by unfold insQ at hq;omega)) (.inl rfl) (.inl rfl) (.inl rfl) (.inr rfl),rfl,by simp,by simp,by simp,fun _=>rfl⟩
 ·rw [turn_6 e]
  exact ⟨h.set hkl rfl (by have:=hnx (by omega) (by omega);simp only [id];omega) (hsame _ rfl).1 (hsame _ rfl).2 hreg,hdid _ _ _ _ _ (by omega) (by omega) (.inr rfl) (.inr rfl) (.inr (.inr rfl)) (.inr rfl) (.inr rfl),rfl,by simp,by simp,by simp,fun _=>rfl⟩
 ·rw [turn_7 e]
  exact ⟨h.set hkl rfl (by have:=hnx (by omega) (by omega);simp only [id];omega) (hsame _ rfl).1 (hsame _ rfl).2 hreg,hdid _ _ _ _ _ (by omega) (by omega) (.inr rfl) (.inr rfl) (.inr (.inl rfl)) (.inr rfl) (.inr rfl),rfl,by simp,by simp,by simp,fun h7=>absurd rfl h7⟩
 ·rw [turn_8 e]
  exact ⟨h.set hkl rfl (by have:=hto (.inl e);simp only [jumpT];omega) (hsame _ rfl).1 (hsame _ rfl).2 hreg,hdid _ _ _ _ _ (by omega) (by omega) (.inr rfl) (.inr rfl) (.inr (.inr rfl)) (.inr rfl) (.inr rfl),rfl,by simp,by simp,by simp,fun _=>rfl⟩
 ·rw [turn_9 e]
  exact ⟨h.set hkl rfl (by have:=hto (.inr e);have:=hnx (by omega) (by omega);simp only [zeroT];split<;>omega) (hsame _ rfl).1 (hsame _ rfl).2 hreg,hdid _ _ _ _ _ (by omega) (by omega) (.inr rfl) (.inr rfl) (.inr (.inr rfl)) (.inr rfl) (.inr rfl),rfl,by simp,by simp,by simp,fun _=>rfl⟩
 ·rw [turn_10 e]
  exact ⟨h.set hkl rfl (by simp only [haltT];omega) (hsame _ rfl).1 (hsame _ rfl).2 hreg,hdid _ _ _ _ _ (by omega) (by omega) (.inr rfl) (.inr rfl) (.inr (.inr rfl)) (.inr rfl) (.inr rfl),rfl,by simp,by simp,by simp,fun _=>rfl⟩
end
end Go.Proofs.Ytmjjikcappbkeaa
namespace Go.Proofs.Ytmjjikcappbkeaa
open Go Go.Tx
def goC (sh lk bu most:Int) (rm rc rl rv rs:Nat):List C:=[.h rm,.i .i64 sh,.i .i64 lk,.i .i64 bu,.h rc,.h rl,.p rv 0,.i .i64 most,.h rs]
def lockB (sh lk addr:Int):Bool:=decide (sh≤addr)&&decide (addr<sh+lk)
def racyB (sh:Int) (cl:List Cls) (addr:Int):Bool:=decide (addr<sh)&&decide ((cl.getD addr.toNat default).kind=3)
def visB (sh lk:Int) (cl:List Cls) (d:Did):Bool:=
 if d.kind=6 then true
 else if d.kind=2 then racyB sh cl d.addr
 else if d.kind=4 then racyB sh cl d.addr||(lockB sh lk d.addr&&decide (d.word=0)&&!decide (d.put=0))
 else if d.kind=8 then racyB sh cl d.addr||(lockB sh lk d.addr&&decide (d.word=0))
 else false
def recE (steps:List Stp):Int:=if steps.length=1048576 then 3 else 0
def recL (steps:List Stp) (s:Stp):List Stp:=if steps.length=1048576 then steps else steps++[s]
theorem recE_full {steps:List Stp} (h:decide ((steps.length:Int)=1048576)=true):recE steps=3:=by
 unfold recE;rw [if_pos (by have:=of_decide_eq_true h;omega)]
theorem recE_room {steps:List Stp} (h:decide ((steps.length:Int)=1048576)=false):recE steps=0:=by
 unfold recE;rw [if_neg (by have:=of_decide_eq_false h;omega)]
theorem recL_full {steps:List Stp} {s:Stp} (h:decide ((steps.length:Int)=1048576)=true):recL steps s=steps:=by
 unfold recL;rw [if_pos (by have:=of_decide_eq_true h;omega)]
theorem recL_room {steps:List Stp} {s:Stp} (h:decide ((steps.length:Int)=1048576)=false):recL steps s=steps++[s]:=by
 unfold recL;rw [if_neg (by have:=of_decide_eq_false h;omega)]
structure Gs where
 vs:List VCo
 mem:List Int
 pr:List Prt
 steps:List Stp
structure Ons where
 did:Did
 err:Int
 g:Gs
def zDid:Did:=⟨0,0,0,0,0,0,false⟩
def oneV (sh lk bu:Int) (cs:List Cor) (k:Int) (g:Gs):Ons:=
 if decide ((g.steps.length:Int)=1048576)=true then ⟨zDid,3,g⟩
 else if (!decide ((runV bu cs k g.vs g.mem g.pr).err=0)||decide ((runV bu cs k g.vs g.mem g.pr).did.kind=4)&&lockB sh lk (runV bu cs k g.vs g.mem g.pr).did.addr&&!decide ((runV bu cs k g.vs g.mem g.pr).did.word=0))=true then ⟨(runV bu cs k g.vs g.mem g.pr).did,211,⟨(runV bu cs k g.vs g.mem g.pr).vs,(runV bu cs k g.vs g.mem g.pr).mem,(runV bu cs k g.vs g.mem g.pr).pr,g.steps⟩⟩
 else if (!decide ((runV bu cs k g.vs g.mem g.pr).did.kind=3))=true then ⟨(runV bu cs k g.vs g.mem g.pr).did,0,⟨(runV bu cs k g.vs g.mem g.pr).vs,(runV bu cs k g.vs g.mem g.pr).mem,(runV bu cs k g.vs g.mem g.pr).pr,g.steps++[Stp.mk 1 k]⟩⟩
 else if (!decide (recE (g.steps++[Stp.mk 1 k])=0))=true then ⟨(runV bu cs k g.vs g.mem g.pr).did,recE (g.steps++[Stp.mk 1 k]),⟨(runV bu cs k g.vs g.mem g.pr).vs,(runV bu cs k g.vs g.mem g.pr).mem,(runV bu cs k g.vs g.mem g.pr).pr,g.steps++[Stp.mk 1 k]⟩⟩
 else ⟨(drainV k (runV bu cs k g.vs g.mem g.pr).vs (runV bu cs k g.vs g.mem g.pr).mem (runV bu cs k g.vs g.mem g.pr).pr).did,0,⟨(drainV k (runV bu cs k g.vs g.mem g.pr).vs (runV bu cs k g.vs g.mem g.pr).mem (runV bu cs k g.vs g.mem g.pr).pr).vs,(drainV k (runV bu cs k g.vs g.mem g.pr).vs (runV bu cs k g.vs g.mem g.pr).mem (runV bu cs k g.vs g.mem g.pr).pr).mem,(drainV k (runV bu cs k g.vs g.mem g.pr).vs (runV bu cs k g.vs g.mem g.pr).mem (runV bu cs k g.vs g.mem g.pr).pr).pr,g.steps++[Stp.mk 1 k]++[Stp.mk 2 k]⟩⟩
section
variable {sh lk bu:Int} {cs:List Cor} {k:Int} {g:Gs}
theorem one_full (h1:decide ((g.steps.length:Int)=1048576)=true):oneV sh lk bu cs k g=⟨⟨0,0,0,0,0,0,false⟩,3,g⟩:=by
 unfold oneV;rw [if_pos h1];rfl
theorem one_bad (h1:decide ((g.steps.length:Int)=1048576)=false) (h2:(!decide ((runV bu cs k g.vs g.mem g.pr).err=0)||decide ((runV bu cs k g.vs g.mem g.pr).did.kind=4)&&lockB sh lk (runV bu cs k g.vs g.mem g.pr).did.addr&&!decide ((runV bu cs k g.vs g.mem g.pr).did.word=0))=true):oneV sh lk bu cs k g=⟨(runV bu cs k g.vs g.mem g.pr).did,211,⟨(runV bu cs k g.vs g.mem g.pr).vs,(runV bu cs k g.vs g.mem g.pr).mem,(runV bu cs k g.vs g.mem g.pr).pr,g.steps⟩⟩:=by
 unfold oneV;rw [if_neg (by rw [h1];simp),if_pos h2]
theorem one_run (h1:decide ((g.steps.length:Int)=1048576)=false) (h2:(!decide ((runV bu cs k g.vs g.mem g.pr).err=0)||decide ((runV bu cs k g.vs g.mem g.pr).did.kind=4)&&lockB sh lk (runV bu cs k g.vs g.mem g.pr).did.addr&&!decide ((runV bu cs k g.vs g.mem g.pr).did.word=0))=false) (h4:(!decide ((runV bu cs k g.vs g.mem g.pr).did.kind=3))=true) :
 oneV sh lk bu cs k g=⟨(runV bu cs k g.vs g.mem g.pr).did,0,⟨(runV bu cs k g.vs g.mem g.pr).vs,(runV bu cs k g.vs g.mem g.pr).mem,(runV bu cs k g.vs g.mem g.pr).pr,g.steps++[Stp.mk 1 k]⟩⟩:=by
 unfold oneV;rw [if_neg (by rw [h1];simp),if_neg (by rw [h2];simp),if_pos h4]
theorem one_many (h1:decide ((g.steps.length:Int)=1048576)=false) (h2:(!decide ((runV bu cs k g.vs g.mem g.pr).err=0)||decide ((runV bu cs k g.vs g.mem g.pr).did.kind=4)&&lockB sh lk (runV bu cs k g.vs g.mem g.pr).did.addr&&!decide ((runV bu cs k g.vs g.mem g.pr).did.word=0))=false) (h4:(!decide ((runV bu cs k g.vs g.mem g.pr).did.kind=3))=false) (h5:(!decide (recE (g.steps++[Stp.mk 1 k])=0))=true) :
 oneV sh lk bu cs k g=⟨(runV bu cs k g.vs g.mem g.pr).did,recE (g.steps++[Stp.mk 1 k]),⟨(runV bu cs k g.vs g.mem g.pr).vs,(runV bu cs k g.vs g.mem g.pr).mem,(runV bu cs k g.vs g.mem g.pr).pr,g.steps++[Stp.mk 1 k]⟩⟩:=by
 unfold oneV;rw [if_neg (by rw [h1];simp),if_neg (by rw [h2];simp),if_neg (by rw [h4];simp),if_pos h5]
theorem one_drain (h1:decide ((g.steps.length:Int)=1048576)=false) (h2:(!decide ((runV bu cs k g.vs g.mem g.pr).err=0)||decide ((runV bu cs k g.vs g.mem g.pr).did.kind=4)&&lockB sh lk (runV bu cs k g.vs g.mem g.pr).did.addr&&!decide ((runV bu cs k g.vs g.mem g.pr).did.word=0))=false) (h4:(!decide ((runV bu cs k g.vs g.mem g.pr).did.kind=3))=false) (h5:(!decide (recE (g.steps++[Stp.mk 1 k])=0))=false) :
 oneV sh lk bu cs k g=⟨(drainV k (runV bu cs k g.vs g.mem g.pr).vs (runV bu cs k g.vs g.mem g.pr).mem (runV bu cs k g.vs g.mem g.pr).pr).did,0,⟨(drainV k (runV bu cs k g.vs g.mem g.pr).vs (runV bu cs k g.vs g.mem g.pr).mem (runV bu cs k g.vs g.mem g.pr).pr).vs,(drainV k (runV bu cs k g.vs g.mem g.pr).vs (runV bu cs k g.vs g.mem g.pr).mem (runV bu cs k g.vs g.mem g.pr).pr).mem,(drainV k (runV bu cs k g.vs g.mem g.pr).vs (runV bu cs k g.vs g.mem g.pr).mem (runV bu cs k g.vs g.mem g.pr).pr).pr,g.steps++[Stp.mk 1 k]++[Stp.mk 2 k]⟩⟩:=by
 unfold oneV;rw [if_neg (by rw [h1];simp),if_neg (by rw [h2];simp),if_neg (by rw [h4];simp),if_neg (by rw [h5];simp)]
theorem recL_full' {steps:List Stp} {s:Stp} (h:(!decide (recE steps=0))=true):recL steps s=steps:=by
 unfold recL recE at *;split at h<;>simp_all
theorem recL_room' {steps:List Stp} {s:Stp} (h:(!decide (recE steps=0))=false):recL steps s=steps++[s]:=by
 unfold recL recE at *;split at h<;>simp_all
theorem rec_room' {steps:List Stp} (h:(!decide (recE steps=0))=false):steps.length≠1048576:=by
 unfold recE at *;split at h<;>simp_all
end
structure Uns where
 err:Int
 g:Gs
def stopB (k:Int) (vs:List VCo):Bool:=!decide (vmHas vs.length k=0)||(viewV vs k).halted
def untilV (p:Did→Bool) (sh lk bu:Int) (cs:List Cor) (k:Int):Nat→Gs→Uns
 | 0,g=>if stopB k g.vs=true then ⟨211,g⟩ else ⟨3,g⟩
 | n+1,g =>
   if stopB k g.vs=true then ⟨211,g⟩
   else if (!decide ((oneV sh lk bu cs k g).err=0))=true then ⟨(oneV sh lk bu cs k g).err,(oneV sh lk bu cs k g).g⟩
   else if p (oneV sh lk bu cs k g).did=true then ⟨0,(oneV sh lk bu cs k g).g⟩
   else if decide ((oneV sh lk bu cs k g).did.kind=7)=true then ⟨211,(oneV sh lk bu cs k g).g⟩
   else untilV p sh lk bu cs k n (oneV sh lk bu cs k g).g
section
variable {p:Did→Bool} {sh lk bu most:Int} {cs:List Cor} {k x:Int} {g:Gs} {u:Uns}
theorem until_stop (hu:u=untilV p sh lk bu cs k (most-x).toNat g) (h:stopB k g.vs=true):u=⟨211,g⟩:=by
 rw [hu]
 cases (most-x).toNat<;>(unfold untilV;rw [if_pos h])
theorem until_many (hu:u=untilV p sh lk bu cs k (most-x).toNat g) (h:stopB k g.vs=false) (hx:decide (x=most)=true):u=⟨3,g⟩:=by
 rw [hu]
 have:=of_decide_eq_true hx
 have e:(most-x).toNat=0:=by omega
 rw [e];unfold untilV;rw [if_neg (by rw [h];simp)]
theorem until_step (hu:u=untilV p sh lk bu cs k (most-x).toNat g) (h:stopB k g.vs=false) (hx:decide (x=most)=false) (hb:x≤most):u=if (!decide ((oneV sh lk bu cs k g).err=0))=true then ⟨(oneV sh lk bu cs k g).err,(oneV sh lk bu cs k g).g⟩
 else if p (oneV sh lk bu cs k g).did=true then ⟨0,(oneV sh lk bu cs k g).g⟩
 else if decide ((oneV sh lk bu cs k g).did.kind=7)=true then ⟨211,(oneV sh lk bu cs k g).g⟩
 else untilV p sh lk bu cs k (most-(x+1)).toNat (oneV sh lk bu cs k g).g:=by
 rw [hu]
 have:=of_decide_eq_false hx
 have e:(most-x).toNat=(most-(x+1)).toNat+1:=by omega
 rw [e,untilV,if_neg (by rw [h];simp)]
theorem until_err (hu:u=untilV p sh lk bu cs k (most-x).toNat g) (h:stopB k g.vs=false) (hx:decide (x=most)=false) (hb:x≤most) (h1:(!decide ((oneV sh lk bu cs k g).err=0))=true):u=⟨(oneV sh lk bu cs k g).err,(oneV sh lk bu cs k g).g⟩:=by
 rw [until_step hu h hx hb,if_pos h1]
theorem until_done (hu:u=untilV p sh lk bu cs k (most-x).toNat g) (h:stopB k g.vs=false) (hx:decide (x=most)=false) (hb:x≤most) (h1:(!decide ((oneV sh lk bu cs k g).err=0))=false) (h2:p (oneV sh lk bu cs k g).did=true):u=⟨0,(oneV sh lk bu cs k g).g⟩:=by
 rw [until_step hu h hx hb,if_neg (by rw [h1];simp),if_pos h2]
theorem until_halt (hu:u=untilV p sh lk bu cs k (most-x).toNat g) (h:stopB k g.vs=false) (hx:decide (x=most)=false) (hb:x≤most) (h1:(!decide ((oneV sh lk bu cs k g).err=0))=false) (h2:p (oneV sh lk bu cs k g).did=false) (h3:decide ((oneV sh lk bu cs k g).did.kind=7)=true):u=⟨211,(oneV sh lk bu cs k g).g⟩:=by
 rw [until_step hu h hx hb,if_neg (by rw [h1];simp),if_neg (by rw [h2];simp),if_pos h3]
theorem until_next (hu:u=untilV p sh lk bu cs k (most-x).toNat g) (h:stopB k g.vs=false) (hx:decide (x=most)=false) (hb:x≤most) (h1:(!decide ((oneV sh lk bu cs k g).err=0))=false) (h2:p (oneV sh lk bu cs k g).did=false) (h3:decide ((oneV sh lk bu cs k g).did.kind=7)=false):u=untilV p sh lk bu cs k (most-(x+1)).toNat (oneV sh lk bu cs k g).g:=by
 rw [until_step hu h hx hb,if_neg (by rw [h1];simp),if_neg (by rw [h2];simp),if_neg (by rw [h3];simp)]
end
def followV (sh lk bu most:Int) (cl:List Cls) (cs:List Cor):List Int→Gs→Uns
 | [],g=>⟨0,g⟩
 | k::r,g=>if (!decide ((untilV (visB sh lk cl) sh lk bu cs k most.toNat g).err=0))=true then untilV (visB sh lk cl) sh lk bu cs k most.toNat g else followV sh lk bu most cl cs r (untilV (visB sh lk cl) sh lk bu cs k most.toNat g).g
section
variable {sh lk bu most:Int} {cl:List Cls} {cs:List Cor} {x:Int} {order:List Int} {g:Gs} {u:Uns}
theorem drop_get {α:Type} [Inhabited α] {l:List α} {x:Int} (h0:0≤x) (h:x<l.length):l.drop x.toNat=l.getD x.toNat default::l.drop (x+1).toNat:=by
 have e:(x+1).toNat=x.toNat+1:=by omega
 rw [e,List.drop_eq_getElem_cons (by omega),List.getD_eq_getElem?_getD,List.getElem?_eq_getElem (by omega)];rfl
theorem follow_end (hu:u=followV sh lk bu most cl cs (order.drop x.toNat) g) (h:decide (x<(order.length:Int))=false):u=⟨0,g⟩:=by
 have:=of_decide_eq_false h
 rw [hu,List.drop_eq_nil_of_le (by omega)];rfl
theorem follow_err (hu:u=followV sh lk bu most cl cs (order.drop x.toNat) g) (h0:0≤x) (h:decide (x<(order.length:Int))=true) (h1:(!decide ((untilV (visB sh lk cl) sh lk bu cs (order.getD x.toNat 0) most.toNat g).err=0))=true):u=untilV (visB sh lk cl) sh lk bu cs (order.getD x.toNat 0) most.toNat g:=by
 rw [hu,drop_get h0 (of_decide_eq_true h),followV];exact if_pos h1
theorem follow_next (hu:u=followV sh lk bu most cl cs (order.drop x.toNat) g) (h0:0≤x) (h:decide (x<(order.length:Int))=true) (h1:(!decide ((untilV (visB sh lk cl) sh lk bu cs (order.getD x.toNat 0) most.toNat g).err=0))=false):u=followV sh lk bu most cl cs (order.drop (x+1).toNat) (untilV (visB sh lk cl) sh lk bu cs (order.getD x.toNat 0) most.toNat g).g:=by
 rw [hu,drop_get h0 (of_decide_eq_true h),followV];exact if_neg (by show ¬ (!decide ((untilV (visB sh lk cl) sh lk bu cs (order.getD x.toNat 0) most.toNat g).err=0))=true;rw [h1];simp)
end
def begE (mem:List Int) (sh lk bu:Int) (cs:List Cor) (cl:List Cls) (most:Int):Int:=
 if chkE mem sh lk bu cs≠0 then chkE mem sh lk bu cs else if (cl.length:Int)≠sh then 210 else if most<1∨1048576<most then 2 else 0
def g0 (mem:List Int) (cs:List Cor):Gs:=⟨newVs cs.length,mem,[],[]⟩
def stepsU (mem:List Int) (sh lk bu:Int) (cs:List Cor) (cl:List Cls) (order:List Int) (most:Int):Uns:=
 if begE mem sh lk bu cs cl most≠0 then ⟨begE mem sh lk bu cs cl most,⟨[],[],[],[]⟩⟩ else followV sh lk bu most cl cs order (g0 mem cs)
def stepsL (mem:List Int) (sh lk bu:Int) (cs:List Cor) (cl:List Cls) (order:List Int) (most:Int):List Stp:=
 if (stepsU mem sh lk bu cs cl order most).err=0 then (stepsU mem sh lk bu cs cl order most).g.steps else []
def stepsE (mem:List Int) (sh lk bu:Int) (cs:List Cor) (cl:List Cls) (order:List Int) (most:Int):Int:=(stepsU mem sh lk bu cs cl order most).err
section
variable {mem:List Int} {sh lk bu most:Int} {cs:List Cor} {cl:List Cls} {order:List Int}
theorem steps_noE (h:¬ begE mem sh lk bu cs cl most=0):stepsE mem sh lk bu cs cl order most=begE mem sh lk bu cs cl most:=by
 unfold stepsE stepsU;rw [if_pos h]
theorem steps_noL (h:¬ begE mem sh lk bu cs cl most=0):stepsL mem sh lk bu cs cl order most=[]:=by
 unfold stepsL stepsU;rw [if_pos h,if_neg h]
theorem steps_yU (h:begE mem sh lk bu cs cl most=0):stepsU mem sh lk bu cs cl order most=followV sh lk bu most cl cs order (g0 mem cs):=by
 unfold stepsU;rw [if_neg (by simp [h])]
theorem steps_yE (h:begE mem sh lk bu cs cl most=0):stepsE mem sh lk bu cs cl order most=(followV sh lk bu most cl cs order (g0 mem cs)).err:=by
 unfold stepsE;rw [steps_yU h]
theorem steps_errL (h:begE mem sh lk bu cs cl most=0) (h1:(!decide ((followV sh lk bu most cl cs order (g0 mem cs)).err=0))=true):stepsL mem sh lk bu cs cl order most=[]:=by
 unfold stepsL;rw [steps_yU h,if_neg (by simpa using h1)]
theorem steps_okL (h:begE mem sh lk bu cs cl most=0) (h1:(!decide ((followV sh lk bu most cl cs order (g0 mem cs)).err=0))=false):stepsL mem sh lk bu cs cl order most=(followV sh lk bu most cl cs order (g0 mem cs)).g.steps:=by
 unfold stepsL;rw [steps_yU h,if_pos (by simpa using h1)]
theorem steps_okE (h:begE mem sh lk bu cs cl most=0) (h1:(!decide ((followV sh lk bu most cl cs order (g0 mem cs)).err=0))=false):stepsE mem sh lk bu cs cl order most=0:=by
 rw [steps_yE h];simpa using h1
theorem beg_chk (h:begE mem sh lk bu cs cl most=0):chkE mem sh lk bu cs=0∧(cl.length:Int)=sh∧1≤most∧most≤1048576:=by
 unfold begE at h
 split at h
 ·rename_i h1;exact absurd h h1
 ·rename_i h1
  split at h
  ·simp at h
  ·rename_i h2
   split at h
   ·simp at h
   ·rename_i h3
    exact ⟨by simpa using h1,by simpa using h2,by omega⟩
end
structure GsOk (bu:Int) (cs:List Cor) (g:Gs):Prop where
 mac:MacOk bu cs g.vs g.mem
 prs:g.pr.length≤g.steps.length
 stp:g.steps.length≤1048576
section
variable {sh lk bu:Int} {cs:List Cor} {k:Int} {g:Gs}
theorem runV_mac {vs:List VCo} {mem:List Int} (h:MacOk bu cs vs mem) (k:Int) (pr:List Prt):MacOk bu cs (runV bu cs k vs mem pr).vs (runV bu cs k vs mem pr).mem∧(runV bu cs k vs mem pr).pr.length≤pr.length+1∧0≤(runV bu cs k vs mem pr).did.addr:=by
 rcases runV_cases bu cs k vs mem pr with ⟨_,e⟩ | ⟨_,_,e⟩ | ⟨_,_,_,e⟩ | ⟨hk,_,hs,e⟩
 ·rw [e];exact ⟨h,by simp,by simp⟩
 ·rw [e];exact ⟨h,by simp,by simp⟩
 ·rw [e];exact ⟨h,by simp,by simp⟩
 ·rw [e]
  have hn:=nextT_ok h pr hk hs
  refine ⟨hn.1,hn.2.2.2.2.2.1,?_⟩
  have:=hn.2.1
  unfold didB at this
  simp only [BL] at this
  show 0≤(nextT bu cs k vs mem pr).did.addr
  omega
theorem drainV_mac {vs:List VCo} {mem:List Int} (h:MacOk bu cs vs mem) (k:Int) (pr:List Prt):MacOk bu cs (drainV k vs mem pr).vs (drainV k vs mem pr).mem∧(drainV k vs mem pr).pr=pr∧0≤(drainV k vs mem pr).did.addr:=by
 rcases drainV_cases k vs mem pr with ⟨_,e⟩ | ⟨_,_,e⟩ | ⟨hk,hb,e⟩
 ·rw [e];exact ⟨h,rfl,by simp⟩
 ·rw [e];exact ⟨h,rfl,by simp⟩
 ·rw [e]
  have hp:=h.pos k.toNat (by omega)
  have hbu:=h.bufb k.toNat
  refine ⟨h.set (by omega) (by simp) hp (by simp only [List.length_drop];omega) (fun q hq=>?_) (h.regs _ (by omega)),rfl,(h.stoa _ 0 hb).1.1⟩
  simp only [drop1_get]
  simp only [List.length_drop] at hq
  exact h.stoa k.toNat (1+q) (by omega)
theorem oneV_ok (h:GsOk bu cs g):GsOk bu cs (oneV sh lk bu cs k g).g∧0≤(oneV sh lk bu cs k g).did.addr:=by
 have hr:=runV_mac h.mac k g.pr
 have hd:=drainV_mac hr.1 k (runV bu cs k g.vs g.mem g.pr).pr
 have hp:=h.prs
 have hs:=h.stp
 unfold oneV
 split
 ·exact ⟨h,by simp [zDid]⟩
 ·rename_i h1
  have h1':g.steps.length≠1048576:=fun e=>h1 (by simp [e])
  split
  ·rename_i h2
   refine ⟨⟨hr.1,?_,hs⟩,hr.2.2⟩
   rcases runV_cases bu cs k g.vs g.mem g.pr with ⟨_,e⟩ | ⟨_,_,e⟩ | ⟨_,_,_,e⟩ | ⟨hk,_,hs2,e⟩
   ·rw [e];exact hp
   ·rw [e];exact hp
   ·rw [e];exact hp
   ·have hn:=nextT_ok h.mac g.pr hk hs2
    rw [e] at h2 ⊢
    simp only [BL,decide_true,Bool.not_true,Bool.false_eq_true,false_or] at h2
    show (nextT bu cs k g.vs g.mem g.pr).pr.length≤g.steps.length
    rw [hn.2.2.2.2.2.2 (by omega)]
    exact hp
  ·split
   ·exact ⟨⟨hr.1,by simp only [List.length_append,List.length_singleton];omega,by simp only [List.length_append,List.length_singleton];omega⟩,hr.2.2⟩
   ·split
    ·exact ⟨⟨hr.1,by simp only [List.length_append,List.length_singleton];omega,by simp only [List.length_append,List.length_singleton];omega⟩,hr.2.2⟩
    ·rename_i h4
     have h5:=rec_room' (Bool.not_eq_true _▸h4)
     simp only [List.length_append,List.length_singleton] at h5
     exact ⟨⟨hd.1,by simp only [hd.2.1,List.length_append,List.length_singleton];omega,by simp only [List.length_append,List.length_singleton];omega⟩,hd.2.2⟩
theorem untilV_ok {p:Did→Bool}:∀ {n:Nat} {g:Gs},GsOk bu cs g→GsOk bu cs (untilV p sh lk bu cs k n g).g
 | 0,g,h=>by unfold untilV;split<;>exact h
 | n+1,g,h=>by
   have h1:=oneV_ok (sh:=sh) (lk:=lk) (k:=k) h
   unfold untilV
   split
   ·exact h
   ·split
    ·exact h1.1
    ·split
     ·exact h1.1
     ·split
      ·exact h1.1
      ·exact untilV_ok h1.1
variable {most:Int} {cl:List Cls}
theorem follow_ok:∀ {l:List Int} {g:Gs},GsOk bu cs g→GsOk bu cs (followV sh lk bu most cl cs l g).g
 | [],g,h=>h
 | k::r,g,h=>by
   rw [followV]
   split
   ·exact untilV_ok h
   ·exact follow_ok (untilV_ok h)
theorem g0_ok {mem:List Int} (h:chkE mem sh lk bu cs=0):GsOk bu cs (g0 mem cs):=⟨mac_new h,by simp [g0],by simp [g0]⟩
end
end Go.Proofs.Ytmjjikcappbkeaa
namespace Go.Proofs.Ytmjjikcappbkeaa
open Go Go.Tx
abbrev ErrOwn (l:List Int):Reg:=.own 33 1 l.length (fun i=>i64T (l.getD i 0)) none
structure Ps where
 vs:List VCo
 mem:List Int
 pr:List Prt
 dids:List Did
 errs:List Int
def playV (bu:Int) (cs:List Cor):List Stp→Ps→Ps
 | [],p=>p
 | s::r,p=>playV bu cs r ⟨(stepV bu cs s p.vs p.mem p.pr).vs,(stepV bu cs s p.vs p.mem p.pr).mem,(stepV bu cs s p.vs p.mem p.pr).pr,p.dids++[(stepV bu cs s p.vs p.mem p.pr).did],p.errs++[(stepV bu cs s p.vs p.mem p.pr).err]⟩
def p0 (mem:List Int) (cs:List Cor):Ps:=⟨newVs cs.length,mem,[],[],[]⟩
def playE (mem:List Int) (sh lk bu:Int) (cs:List Cor) (l:List Stp):Int:=
 if chkE mem sh lk bu cs=0 then (if decide (1048576<(l.length:Int))=true then 3 else 0) else chkE mem sh lk bu cs
def playP (mem:List Int) (sh lk bu:Int) (cs:List Cor) (l:List Stp):Ps:=
 if playE mem sh lk bu cs l=0 then playV bu cs l (p0 mem cs) else ⟨[],[],[],[],[]⟩
def ofL:List Did→List Int→List Did
 | d::ds,e::es=>if (decide (e=0)&&!decide (d.kind=0))=true then d::ofL ds es else ofL ds es
 | _,_=>[]
def ofV (mem:List Int) (sh lk bu:Int) (cs:List Cor) (l:List Stp):List Did:=ofL (playP mem sh lk bu cs l).dids (playP mem sh lk bu cs l).errs
structure PsOk (bu:Int) (cs:List Cor) (p:Ps):Prop where
 mac:MacOk bu cs p.vs p.mem
 prs:p.pr.length≤p.dids.length
 len:p.errs.length=p.dids.length
section
variable {bu:Int} {cs:List Cor} {vs:List VCo} {mem:List Int} {pr:List Prt} {s:Stp} {p u:Ps} {l:List Stp} {x:Int}
theorem stepV_mac (h:MacOk bu cs vs mem) (s:Stp) (pr:List Prt):MacOk bu cs (stepV bu cs s vs mem pr).vs (stepV bu cs s vs mem pr).mem∧(stepV bu cs s vs mem pr).pr.length≤pr.length+1:=by
 unfold stepV
 split
 ·exact ⟨(runV_mac h s.core pr).1,(runV_mac h s.core pr).2.1⟩
 ·split
  ·have:=drainV_mac h s.core pr
   exact ⟨this.1,by rw [this.2.1];omega⟩
  ·exact ⟨h,by simp⟩
def playS (bu:Int) (cs:List Cor) (s:Stp) (p:Ps):Ps:=⟨(stepV bu cs s p.vs p.mem p.pr).vs,(stepV bu cs s p.vs p.mem p.pr).mem,(stepV bu cs s p.vs p.mem p.pr).pr,p.dids++[(stepV bu cs s p.vs p.mem p.pr).did],p.errs++[(stepV bu cs s p.vs p.mem p.pr).err]⟩
theorem playS_ok (h:PsOk bu cs p) (s:Stp):PsOk bu cs (playS bu cs s p):=by
 have h1:=stepV_mac h.mac s p.pr
 have h2:=h.prs
 exact ⟨h1.1,by simp only [playS,List.length_append,List.length_singleton];omega,by simp only [playS,List.length_append,List.length_singleton,h.len]⟩
theorem play_end (hu:u=playV bu cs (l.drop x.toNat) p) (h:decide (x<(l.length:Int))=false):u=p:=by
 have:=of_decide_eq_false h
 rw [hu,List.drop_eq_nil_of_le (by omega)];rfl
theorem play_next (hu:u=playV bu cs (l.drop x.toNat) p) (h0:0≤x) (h:decide (x<(l.length:Int))=true):u=playV bu cs (l.drop (x+1).toNat) (playS bu cs (l.getD x.toNat default) p):=by
 rw [hu,drop_get h0 (of_decide_eq_true h)];rfl
theorem playV_len:∀ {l:List Stp} {p:Ps},(playV bu cs l p).dids.length=p.dids.length+l.length
 | [],p=>by simp [playV]
 | s::r,p=>by rw [playV,playV_len];simp;omega
theorem playV_ok:∀ {l:List Stp} {p:Ps},PsOk bu cs p→PsOk bu cs (playV bu cs l p)
 | [],p,h=>h
 | s::r,p,h=>by rw [playV];exact playV_ok (playS_ok h s)
theorem p0_ok {mem:List Int} {sh lk:Int} (h:chkE mem sh lk bu cs=0):PsOk bu cs (p0 mem cs):=⟨mac_new h,by simp [p0],by simp [p0]⟩
variable {ds out v:List Did} {es:List Int}
theorem of_end (hu:v=out++ofL (ds.drop x.toNat) (es.drop x.toNat)) (h:decide (x<(ds.length:Int))=false):v=out:=by
 have:=of_decide_eq_false h
 rw [hu,List.drop_eq_nil_of_le (by omega)];simp [ofL]
theorem of_take (hu:v=out++ofL (ds.drop x.toNat) (es.drop x.toNat)) (hl:es.length=ds.length) (h0:0≤x) (h:decide (x<(ds.length:Int))=true) (hc:(decide (es.getD x.toNat 0=0)&&!decide ((ds.getD x.toNat default).kind=0))=true) :
 v=(out++[ds.getD x.toNat default])++ofL (ds.drop (x+1).toNat) (es.drop (x+1).toNat):=by
 have hx:=of_decide_eq_true h
 rw [hu,drop_get h0 hx,drop_get (l:=es) h0 (by omega),ofL,if_pos (by exact hc)];simp
theorem of_skip (hu:v=out++ofL (ds.drop x.toNat) (es.drop x.toNat)) (hl:es.length=ds.length) (h0:0≤x) (h:decide (x<(ds.length:Int))=true) (hc:(decide (es.getD x.toNat 0=0)&&!decide ((ds.getD x.toNat default).kind=0))=false) :
 v=out++ofL (ds.drop (x+1).toNat) (es.drop (x+1).toNat):=by
 have hx:=of_decide_eq_true h
 rw [hu,drop_get h0 hx,drop_get (l:=es) h0 (by omega),ofL,if_neg (by intro h2;rw [show (decide (es.getD x.toNat default=0)&&!decide ((ds.getD x.toNat default).kind=0))=false from hc] at h2;cases h2)]
end
section
variable {mem:List Int} {sh lk bu:Int} {cs:List Cor} {l:List Stp}
theorem play_parts (h:playE mem sh lk bu cs l=0):chkE mem sh lk bu cs=0∧decide (1048576<(l.length:Int))=false:=by
 unfold playE at h
 split at h
 ·rename_i h1
  refine ⟨h1,?_⟩
  split at h
  ·simp at h
  ·rename_i h2;simpa using h2
 ·contradiction
theorem of_none (h:¬ playE mem sh lk bu cs l=0):ofV mem sh lk bu cs l=[]:=by unfold ofV playP;rw [if_neg h];rfl
theorem play_lens (h:playE mem sh lk bu cs l=0):(playP mem sh lk bu cs l).errs.length=(playP mem sh lk bu cs l).dids.length∧(playP mem sh lk bu cs l).dids.length≤1048576:=by
 have hp:=play_parts h
 have hq:=of_decide_eq_false hp.2
 have e:playP mem sh lk bu cs l=playV bu cs l (p0 mem cs):=by unfold playP;rw [if_pos h]
 rw [e]
 refine ⟨(playV_ok (p0_ok hp.1)).len,?_⟩
 rw [playV_len];simp only [p0,List.length_nil];omega
theorem playP_y (h:playE mem sh lk bu cs l=0):playP mem sh lk bu cs l=playV bu cs l (p0 mem cs):=by unfold playP;rw [if_pos h]
theorem playP_n (h:¬ playE mem sh lk bu cs l=0):playP mem sh lk bu cs l=⟨[],[],[],[],[]⟩:=by unfold playP;rw [if_neg h]
theorem playE_many (h:chkE mem sh lk bu cs=0) (h1:decide (1048576<(l.length:Int))=true):playE mem sh lk bu cs l=3:=by unfold playE;rw [if_pos h,if_pos h1]
theorem playE_chk (h:¬ chkE mem sh lk bu cs=0):playE mem sh lk bu cs l=chkE mem sh lk bu cs:=by unfold playE;rw [if_neg h]
end
end Go.Proofs.Ytmjjikcappbkeaa
noncomputable section
namespace Go.Proofs.Ytmjjikcappbkeaa
open Go Go.Tx
def L38_0_I (mem:List Int) (sh:Int) (lk:Int) (bu:Int) (cs:List Cor) (l:List Stp):Int×List Int×List Did×List VCo×List Int×List Prt→St:=fun x=>{ N:=53,fr:=[{ slot:=32,g:=[],sv:=SV.c (C.i .i64 x.1) },{ slot:=31,g:=[],sv:=SV.c (C.i .i64 (↑l.length:Int)) },{ slot:=30,g:=[],sv:=SV.c (C.h 2) },{ slot:=10,g:=[],sv:=SV.c (C.h 9) },{ slot:=9,g:=[],sv:=SV.c (C.h 10) },{ slot:=7,g:=[],sv:=SV.c (C.p 4 0) },{ slot:=6,g:=[],sv:=SV.c (C.i .i64 0) },{ slot:=5,g:=[],sv:=SV.c (C.v (Value.slice none 0 0)) },{ slot:=4,g:=[],sv:=SV.c (C.v (Value.slice none 0 0)) }],rg:=[Reg.row 1 mem.length (fun i=>i64T (mem.getD i (0:Int))) none,Reg.row 2 cs.length (fun i=>(cs.getD i default).tc) none,Reg.row 2 l.length (fun i=>(l.getD i default).tc) none,Reg.box 48 [C.h 0,C.i .i64 sh,C.i .i64 lk,C.i .i64 bu,C.h 1],Reg.box 138 [C.v (Value.slice none 0 0),C.i .i64 sh,C.i .i64 lk,C.i .i64 bu,C.h 5,C.h 6,C.h 7,C.h 8],Reg.own 131 2 cs.length (fun i=>(cs.getD i default).tc) none,VCo.ownR (x.2.2.2.1),WordOwn (x.2.2.2.2.1),Prt.ownR (x.2.2.2.2.2)]++[ErrOwn x.2.1]++[Did.ownR x.2.2.1],wr:=[] }
def L38_0_J (mem:List Int) (sh:Int) (lk:Int) (bu:Int) (cs:List Cor) (l:List Stp):Int×List Int×List Did×List VCo×List Int×List Prt→Prop:=fun x=>0≤x.1∧x.1≤(l.length:Int)∧(x.2.2.1.length:Int)=x.1∧PsOk bu cs (Ps.mk x.2.2.2.1 x.2.2.2.2.1 x.2.2.2.2.2 x.2.2.1 x.2.1)∧playP mem sh lk bu cs l=playV bu cs (l.drop x.1.toNat) (Ps.mk x.2.2.2.1 x.2.2.2.2.1 x.2.2.2.2.2 x.2.2.1 x.2.1)
def L38_0_m (mem:List Int) (sh:Int) (lk:Int) (bu:Int) (cs:List Cor) (l:List Stp):Int×List Int×List Did×List VCo×List Int×List Prt→Nat:=fun x=>((l.length:Int)-x.1).toNat
def L38_0 (mem:List Int) (sh:Int) (lk:Int) (bu:Int) (cs:List Cor) (l:List Stp):Lp (Int×List Int×List Did×List VCo×List Int×List Prt):=⟨L38_0_I mem sh lk bu cs l,L38_0_J mem sh lk bu cs l,L38_0_m mem sh lk bu cs l⟩
abbrev z55_2 (bu:Int) (cs:List Cor) (l:List Stp) (x3_0:Int) (x3_3:List VCo) (x3_4:List Int) (x3_5:List Prt):=(stepV bu cs (l.getD x3_0.toNat default) x3_3 x3_4 x3_5)
abbrev z55_1 (bu:Int) (cs:List Cor) (l:List Stp) (x3_0:Int) (x3_3:List VCo) (x3_4:List Int) (x3_5:List Prt):=[Did.mk (z55_2 bu cs l x3_0 x3_3 x3_4 x3_5).did.kind (z55_2 bu cs l x3_0 x3_3 x3_4 x3_5).did.core (z55_2 bu cs l x3_0 x3_3 x3_4 x3_5).did.pc (z55_2 bu cs l x3_0 x3_3 x3_4 x3_5).did.addr (z55_2 bu cs l x3_0 x3_3 x3_4 x3_5).did.word (z55_2 bu cs l x3_0 x3_3 x3_4 x3_5).did.put (z55_2 bu cs l x3_0 x3_3 x3_4 x3_5).did.own]
theorem c_play_y (mem:List Int) (sh lk bu:Int) (cs:List Cor) (hw:∀ a b:Nat,insK ((cs.getD a default).code.getD b default)) (l:List Stp) (hsel:playE mem sh lk bu cs l=0):Ctr Try.prog 38 [WordRow mem,Cor.rowR cs,Stp.rowR l] [.agg [.h 0,.i .i64 sh,.i .i64 lk,.i .i64 bu,.h 1],.c (.h 2)]
 (Det (.tup [(false,[.h 3]),(false,[.h 4]),(false,[.i .i64 (playE mem sh lk bu cs l)])]) [.dead,.dead,.dead,Did.ownR (playP mem sh lk bu cs l).dids,ErrOwn (playP mem sh lk bu cs l).errs]):=by
 have hp:=play_parts hsel
 refine Ctr.intro [] Try.func38 K K ?_
 have hsel3:chkE mem sh lk bu cs=0:=hp.1
 refine tCall e_vm_New (c_new_ok (mem:=mem) (sh:=sh) (lk:=lk) (bu:=bu) (cs:=cs) (hw:=by first | assumption | exact hJ3.2.2.2.1.mac | (have:=hJ3.2.2.2.1.prs;have:=of_decide_eq_false hp.2;have:=hJ3.2.2.1;simp only at *;omega)) (hsel:=by first | assumption | exact hJ3.2.2.2.1.mac | (have:=hJ3.2.2.2.1.prs;have:=of_decide_eq_false hp.2;have:=hJ3.2.2.1;simp only at *;omega))) [] ?_
 refine tz [17,6,5,4,1] ?_
 refine tCond (decide ((0:Int)=(0:Int))&&decide ((1048576:Int)<(↑l.length:Int))) (fun h1=>?_) (fun h1=>?_)
 ·exact (show False from by simp [hp.2] at h1).elim
 ·refine tz [8,7,6,5,4,1] ?_
  refine tCond (!decide ((0:Int)=(0:Int))) (fun h2=>?_) (fun h2=>?_)
  ·exact absurd h2 (by first | decide | simp)
  ·refine tz [7,6,5,4,1] ?_
   refine tLoop (L38_0 mem sh lk bu cs l) (((0:Int),[],[],newVs cs.length,mem,[])) ⟨by omega,by omega,rfl,p0_ok hp.1,playP_y hsel⟩ ?_ [0,1,2,3,4,5,6,7,8,1000009,1000010] [19,21,22] [(0:Nat)=0,(0:Nat)=0,(0:Nat)=0] (by (try simp only [Conj])<;>(repeat' apply And.intro)<;>first | done | trivial | rfl | (intros;first | rfl | trivial) | exact snoc_len _ _ | exact List.length_set | exact set_ints _ _ _ | exact take_row _ _ _ _ _ | (exact take_len _ _ _ (by first | omega | (have h0:=askE_ok (by simpa using h1);have hm:=evE_mem h0.1;have hs:=evE_ok h0.1;omega))) | exact MpEq.put (by omega) | (refine MpEq.mk' (by omega) ?_ ?_<;>intro q<;>first | rfl | (dsimp only;split<;>simp_all)) | (exact MpEq.mkIt (by omega) (fun _=>rfl) (fun _=>rfl) rfl rfl (fun _=>rfl)) | (intro i h1 h2;rw [snoc_lo h1 h2]) | (rw [getD_snoc];rfl))
   rintro ⟨x3_0,x3_1,x3_2,x3_3,x3_4,x3_5⟩ hJ3
   dsimp only [L38_0,L38_0_J] at hJ3
   refine tz [32,31,30,10,9,7,6,5,4] ?_
   refine tCond (decide (x3_0<(↑l.length:Int))) (fun h4=>?_) (fun h4=>?_)
   ·refine tz [32,31,30,10,9,7,6,5,4] ?_
    refine tCall e_vm_Machine_Step (c_step (sh:=sh) (lk:=lk) (bu:=bu) (cs:=cs) (vs:=x3_3) (mem:=x3_4) (pr:=x3_5) (s:=l.getD x3_0.toNat default) (hw:=by first | assumption | exact hJ3.2.2.2.1.mac | (have:=hJ3.2.2.2.1.prs;have:=of_decide_eq_false hp.2;have:=hJ3.2.2.1;simp only at *;omega)) (hp:=by first | assumption | exact hJ3.2.2.2.1.mac | (have:=hJ3.2.2.2.1.prs;have:=of_decide_eq_false hp.2;have:=hJ3.2.2.1;simp only at *;omega))) [4,5,6,7,8] ?_ (vc:=[(0:Int)≤x3_0,x3_0<(↑l.length:Int),x3_0.toNat<l.length]) (hv:=(by simp only [Conj,Fits,i64_min,i64_max,u8_min,u8_max,News.len,maxLen]<;>(repeat' (first | apply And.intro | intro _))<;>first | grind | (have hq:=of_decide_eq_false hp.2;have:=hJ3.2.2.1;have:=hJ3.2.2.2.1.len;simp only at *;omega) | (simp only [BL] at *;omega)))
    exact tNext (L38_0 mem sh lk bu cs l) (x3_0,x3_1,x3_2,x3_3,x3_4,x3_5) ((x3_0+(1:Int),x3_1++[(z55_2 bu cs l x3_0 x3_3 x3_4 x3_5).err],x3_2++(z55_1 bu cs l x3_0 x3_3 x3_4 x3_5),(z55_2 bu cs l x3_0 x3_3 x3_4 x3_5).vs,(z55_2 bu cs l x3_0 x3_3 x3_4 x3_5).mem,(z55_2 bu cs l x3_0 x3_3 x3_4 x3_5).pr)) (by dsimp only [L38_0,L38_0_m];(try simp only [decide_eq_true_eq] at *);omega) ⟨by omega,by have:=of_decide_eq_true h4;omega,by have:=hJ3.2.2.1;rw [snoc_len];simp only at *;omega,playS_ok hJ3.2.2.2.1 _,play_next hJ3.2.2.2.2 hJ3.1 h4⟩ [0,1,2,3,4,5,6,7,12,17,15] [21,22,23,24,25,26,27,28,29,30,31,32] [(x3_1++[(z55_2 bu cs l x3_0 x3_3 x3_4 x3_5).err]).length=x3_1.length+1,∀ (i:Nat),i<(x3_1++[(z55_2 bu cs l x3_0 x3_3 x3_4 x3_5).err]).length→i≠x3_1.length→i64T ((x3_1++[(z55_2 bu cs l x3_0 x3_3 x3_4 x3_5).err]).getD i (0:Int))=i64T (x3_1.getD i (0:Int)),i64T ((x3_1++[(z55_2 bu cs l x3_0 x3_3 x3_4 x3_5).err]).getD x3_1.length (0:Int)) 0=TC.val (Value.int IntKind.i64 (z55_2 bu cs l x3_0 x3_3 x3_4 x3_5).err),(x3_2++(z55_1 bu cs l x3_0 x3_3 x3_4 x3_5)).length=x3_2.length+1,∀ (i:Nat),i<(x3_2++(z55_1 bu cs l x3_0 x3_3 x3_4 x3_5)).length→i≠x3_2.length→((x3_2++(z55_1 bu cs l x3_0 x3_3 x3_4 x3_5)).getD i default).tc=(x3_2.getD i default).tc,((x3_2++(z55_1 bu cs l x3_0 x3_3 x3_4 x3_5)).getD x3_2.length default).tc 0=TC.val (Value.int IntKind.u8 (z55_2 bu cs l x3_0 x3_3 x3_4 x3_5).did.kind),((x3_2++(z55_1 bu cs l x3_0 x3_3 x3_4 x3_5)).getD x3_2.length default).tc 1=TC.val (Value.int IntKind.i64 (z55_2 bu cs l x3_0 x3_3 x3_4 x3_5).did.core),((x3_2++(z55_1 bu cs l x3_0 x3_3 x3_4 x3_5)).getD x3_2.length default).tc 2=TC.val (Value.int IntKind.i64 (z55_2 bu cs l x3_0 x3_3 x3_4 x3_5).did.pc),((x3_2++(z55_1 bu cs l x3_0 x3_3 x3_4 x3_5)).getD x3_2.length default).tc 3=TC.val (Value.int IntKind.i64 (z55_2 bu cs l x3_0 x3_3 x3_4 x3_5).did.addr),((x3_2++(z55_1 bu cs l x3_0 x3_3 x3_4 x3_5)).getD x3_2.length default).tc 4=TC.val (Value.int IntKind.i64 (z55_2 bu cs l x3_0 x3_3 x3_4 x3_5).did.word),((x3_2++(z55_1 bu cs l x3_0 x3_3 x3_4 x3_5)).getD x3_2.length default).tc 5=TC.val (Value.int IntKind.i64 (z55_2 bu cs l x3_0 x3_3 x3_4 x3_5).did.put),((x3_2++(z55_1 bu cs l x3_0 x3_3 x3_4 x3_5)).getD x3_2.length default).tc 6=TC.val (Value.bool (z55_2 bu cs l x3_0 x3_3 x3_4 x3_5).did.own)] (by (try simp only [Conj])<;>(repeat' apply And.intro)<;>first | done | trivial | rfl | (intros;first | rfl | trivial) | exact snoc_len _ _ | exact List.length_set | exact set_ints _ _ _ | exact take_row _ _ _ _ _ | (exact take_len _ _ _ (by first | omega | (have h0:=askE_ok (by simpa using h1);have hm:=evE_mem h0.1;have hs:=evE_ok h0.1;omega))) | exact MpEq.put (by omega) | (refine MpEq.mk' (by omega) ?_ ?_<;>intro q<;>first | rfl | (dsimp only;split<;>simp_all)) | (exact MpEq.mkIt (by omega) (fun _=>rfl) (fun _=>rfl) rfl rfl (fun _=>rfl)) | (intro i h1 h2;rw [snoc_lo h1 h2]) | (rw [getD_snoc];rfl)) (vc:=[x3_2.length+1≤maxLen,(x3_2.length+1) * 56≤140737488355328,x3_1.length+1≤maxLen,(x3_1.length+1) * 8≤140737488355328,Fits IntKind.i64 (x3_0+(1:Int))]) (hv:=(by simp only [Conj,Fits,i64_min,i64_max,u8_min,u8_max,News.len,maxLen]<;>(repeat' (first | apply And.intro | intro _))<;>first | grind | (have hq:=of_decide_eq_false hp.2;have:=hJ3.2.2.1;have:=hJ3.2.2.2.1.len;simp only at *;omega) | (simp only [BL] at *;omega)))
   ·rw [play_end hJ3.2.2.2.2 h4]
    rw [hsel]
    exact tRet [0,1,2,10,9]
theorem c_play_c (mem:List Int) (sh lk bu:Int) (cs:List Cor) (hw:∀ a b:Nat,insK ((cs.getD a default).code.getD b default)) (l:List Stp) (hsel:¬ chkE mem sh lk bu cs=0):Ctr Try.prog 38 [WordRow mem,Cor.rowR cs,Stp.rowR l] [.agg [.h 0,.i .i64 sh,.i .i64 lk,.i .i64 bu,.h 1],.c (.h 2)]
 (Det (.tup [(false,[.h 3]),(false,[.h 4]),(false,[.i .i64 (playE mem sh lk bu cs l)])]) [.dead,.dead,.dead,Did.ownR (playP mem sh lk bu cs l).dids,ErrOwn (playP mem sh lk bu cs l).errs]):=by
 refine Ctr.intro [] Try.func38 K K ?_
 refine tCall e_vm_New (c_new_no (mem:=mem) (sh:=sh) (lk:=lk) (bu:=bu) (cs:=cs) (hw:=by first | assumption | omega) (hsel:=by first | assumption | omega)) [] ?_
 refine tz [17,6,5,4,1] ?_
 refine tCond (decide (chkE mem sh lk bu cs=(0:Int))&&decide ((1048576:Int)<(↑l.length:Int))) (fun h1=>?_) (fun h1=>?_)
 ·exact (show False from by simp [hsel] at h1).elim
 ·refine tz [8,7,6,5,4,1] ?_
  refine tCond (!decide (chkE mem sh lk bu cs=(0:Int))) (fun h2=>?_) (fun h2=>?_)
  ·rw [playP_n (mem:=mem) (sh:=sh) (lk:=lk) (bu:=bu) (cs:=cs) (l:=l) (by rw [playE_chk hsel];exact hsel)]
   rw [playE_chk (l:=l) hsel]
   exact tRet [0,1,2,1000003,1000004] [0,1] [(0:Nat)=0,(0:Nat)=0] (by simp only [Conj] at *<;>grind)
  ·exact (show False from by simp [hsel] at h2).elim
theorem c_play_m (mem:List Int) (sh lk bu:Int) (cs:List Cor) (hw:∀ a b:Nat,insK ((cs.getD a default).code.getD b default)) (l:List Stp) (hsel:chkE mem sh lk bu cs=0) (hm:decide (1048576<(l.length:Int))=true):Ctr Try.prog 38 [WordRow mem,Cor.rowR cs,Stp.rowR l] [.agg [.h 0,.i .i64 sh,.i .i64 lk,.i .i64 bu,.h 1],.c (.h 2)]
 (Det (.tup [(false,[.h 3]),(false,[.h 4]),(false,[.i .i64 (playE mem sh lk bu cs l)])]) [.dead,.dead,.dead,Did.ownR (playP mem sh lk bu cs l).dids,ErrOwn (playP mem sh lk bu cs l).errs]):=by
 refine Ctr.intro [] Try.func38 K K ?_
 refine tCall e_vm_New (c_new_ok (mem:=mem) (sh:=sh) (lk:=lk) (bu:=bu) (cs:=cs) (hw:=by first | assumption | omega) (hsel:=by first | assumption | omega)) [] ?_
 refine tz [17,6,5,4,1] ?_
 refine tCond (decide ((0:Int)=(0:Int))&&decide ((1048576:Int)<(↑l.length:Int))) (fun h1=>?_) (fun h1=>?_)
 ·refine tz [8,7,6,5,4,1] ?_
  refine tCond (!decide ((3:Int)=(0:Int))) (fun h2=>?_) (fun h2=>?_)
  ·rw [playP_n (mem:=mem) (sh:=sh) (lk:=lk) (bu:=bu) (cs:=cs) (l:=l) (by rw [playE_many hsel hm];decide)]
   rw [playE_many hsel hm]
   exact tRet [0,1,2,1000003,1000004] [0,1] [(0:Nat)=0,(0:Nat)=0] (by simp only [Conj] at *<;>grind)
  ·exact absurd h2 (by first | decide | simp)
 ·exact (show False from by simp [hm] at h1).elim
theorem c_play (mem:List Int) (sh lk bu:Int) (cs:List Cor) (hw:∀ a b:Nat,insK ((cs.getD a default).code.getD b default)) (l:List Stp):Ctr Try.prog 38 [WordRow mem,Cor.rowR cs,Stp.rowR l] [.agg [.h 0,.i .i64 sh,.i .i64 lk,.i .i64 bu,.h 1],.c (.h 2)]
 (Det (.tup [(false,[.h 3]),(false,[.h 4]),(false,[.i .i64 (playE mem sh lk bu cs l)])]) [.dead,.dead,.dead,Did.ownR (playP mem sh lk bu cs l).dids,ErrOwn (playP mem sh lk bu cs l).errs]):=by
 by_cases h:chkE mem sh lk bu cs=0
 ·cases hm:decide (1048576<(l.length:Int)) with
  | true=>exact c_play_m mem sh lk bu cs hw l h hm
  | false=>exact c_play_y mem sh lk bu cs hw l (by unfold playE;rw [if_pos h,if_neg (by simp [hm])])
 ·exact c_play_c mem sh lk bu cs hw l h
end Go.Proofs.Ytmjjikcappbkeaa
end
noncomputable section
namespace Go.Proofs.Ytmjjikcappbkeaa
open Go Go.Tx
theorem c_of_n (mem:List Int) (sh lk bu:Int) (cs:List Cor) (hw:∀ a b:Nat,insK ((cs.getD a default).code.getD b default)) (l:List Stp) (hz:¬ playE mem sh lk bu cs l=0):Ctr Try.prog 16 [WordRow mem,Cor.rowR cs,Stp.rowR l] [.agg [.h 0,.i .i64 sh,.i .i64 lk,.i .i64 bu,.h 1],.c (.h 2)]
 (Det (.tup [(false,[.h 3]),(false,[.i .i64 (playE mem sh lk bu cs l)])]) [.dead,.dead,.dead,Did.ownR (ofV mem sh lk bu cs l)]):=by
 refine Ctr.intro [] Try.func16 K K ?_
 refine tCall e_vm_Play (c_play (mem:=mem) (sh:=sh) (lk:=lk) (bu:=bu) (cs:=cs) (hw:=by first | assumption | omega) (l:=l)) [] ?_
 refine tz [15,5,4] ?_
 refine tCond (!decide (playE mem sh lk bu cs l=(0:Int))) (fun h1=>?_) (fun h1=>?_)
 ·rw [of_none hz]
  exact tRet [0,1,2,1000003] [0] [(0:Nat)=0] (by simp only [Conj] at *<;>grind)
 ·exact (show False from by exact hz (by simpa using h1)).elim
def L16_20_I (mem:List Int) (sh:Int) (lk:Int) (bu:Int) (cs:List Cor) (l:List Stp):Int×List Did→St:=fun x=>{ N:=45,fr:=[{ slot:=24,g:=[],sv:=SV.c (C.i .i64 x.1) },{ slot:=23,g:=[],sv:=SV.c (C.i .i64 (↑(playP mem sh lk bu cs l).dids.length:Int)) },{ slot:=22,g:=[],sv:=SV.c (C.h 4) },{ slot:=9,g:=[],sv:=SV.c (C.h 6) },{ slot:=7,g:=[],sv:=SV.c (C.h 5) },{ slot:=5,g:=[],sv:=SV.c (C.i .i64 0) },{ slot:=4,g:=[],sv:=SV.c (C.v (Value.slice none 0 0)) }],rg:=[Reg.row 1 mem.length (fun i=>i64T (mem.getD i (0:Int))) none,Reg.row 2 cs.length (fun i=>(cs.getD i default).tc) none,Reg.row 2 l.length (fun i=>(l.getD i default).tc) none,Reg.box 48 [C.h 0,C.i .i64 sh,C.i .i64 lk,C.i .i64 bu,C.h 1],Reg.own 66 7 (playP mem sh lk bu cs l).dids.length (fun i=>((playP mem sh lk bu cs l).dids.getD i default).tc) none,Reg.own 33 1 (playP mem sh lk bu cs l).errs.length (fun i=>i64T ((playP mem sh lk bu cs l).errs.getD i (0:Int))) none]++[Did.ownR x.2],wr:=[] }
def L16_20_J (mem:List Int) (sh:Int) (lk:Int) (bu:Int) (cs:List Cor) (l:List Stp):Int×List Did→Prop:=fun x=>0≤x.1∧x.1≤((playP mem sh lk bu cs l).dids.length:Int)∧ofV mem sh lk bu cs l=x.2++ofL ((playP mem sh lk bu cs l).dids.drop x.1.toNat) ((playP mem sh lk bu cs l).errs.drop x.1.toNat)∧(x.2.length:Int)≤x.1
def L16_20_m (mem:List Int) (sh:Int) (lk:Int) (bu:Int) (cs:List Cor) (l:List Stp):Int×List Did→Nat:=fun x=>(((playP mem sh lk bu cs l).dids.length:Int)-x.1).toNat
def L16_20 (mem:List Int) (sh:Int) (lk:Int) (bu:Int) (cs:List Cor) (l:List Stp):Lp (Int×List Did):=⟨L16_20_I mem sh lk bu cs l,L16_20_J mem sh lk bu cs l,L16_20_m mem sh lk bu cs l⟩
abbrev z56_2 (mem:List Int) (sh:Int) (lk:Int) (bu:Int) (cs:List Cor) (l:List Stp) (x2_0:Int):=((playP mem sh lk bu cs l).dids.getD x2_0.toNat default)
abbrev z56_1 (mem:List Int) (sh:Int) (lk:Int) (bu:Int) (cs:List Cor) (l:List Stp) (x2_0:Int):=[Did.mk (z56_2 mem sh lk bu cs l x2_0).kind (z56_2 mem sh lk bu cs l x2_0).core (z56_2 mem sh lk bu cs l x2_0).pc (z56_2 mem sh lk bu cs l x2_0).addr (z56_2 mem sh lk bu cs l x2_0).word (z56_2 mem sh lk bu cs l x2_0).put (z56_2 mem sh lk bu cs l x2_0).own]
theorem c_of_y (mem:List Int) (sh lk bu:Int) (cs:List Cor) (hw:∀ a b:Nat,insK ((cs.getD a default).code.getD b default)) (l:List Stp) (hz:playE mem sh lk bu cs l=0):Ctr Try.prog 16 [WordRow mem,Cor.rowR cs,Stp.rowR l] [.agg [.h 0,.i .i64 sh,.i .i64 lk,.i .i64 bu,.h 1],.c (.h 2)]
 (Det (.tup [(false,[.h 3]),(false,[.i .i64 (playE mem sh lk bu cs l)])]) [.dead,.dead,.dead,Did.ownR (ofV mem sh lk bu cs l)]):=by
 have hlen:=play_lens hz
 refine Ctr.intro [] Try.func16 K K ?_
 refine tCall e_vm_Play (c_play (mem:=mem) (sh:=sh) (lk:=lk) (bu:=bu) (cs:=cs) (hw:=by first | assumption | omega) (l:=l)) [] ?_
 refine tz [15,5,4] ?_
 refine tCond (!decide (playE mem sh lk bu cs l=(0:Int))) (fun h1=>?_) (fun h1=>?_)
 ·exact (show False from by exact absurd hz (by simpa using h1)).elim
 ·refine tz [7,6,5,4] ?_
  refine tLoop (L16_20 mem sh lk bu cs l) (((0:Int),[])) ⟨by omega,by omega,rfl,by simp⟩ ?_ [0,1,2,3,4,5,1000006] [13] [(0:Nat)=0] (by (try simp only [Conj])<;>(repeat' apply And.intro)<;>first | done | trivial | rfl | (intros;first | rfl | trivial) | exact snoc_len _ _ | exact List.length_set | exact set_ints _ _ _ | exact take_row _ _ _ _ _ | (exact take_len _ _ _ (by first | omega | (have h0:=askE_ok (by simpa using h1);have hm:=evE_mem h0.1;have hs:=evE_ok h0.1;omega))) | exact MpEq.put (by omega) | (refine MpEq.mk' (by omega) ?_ ?_<;>intro q<;>first | rfl | (dsimp only;split<;>simp_all)) | (exact MpEq.mkIt (by omega) (fun _=>rfl) (fun _=>rfl) rfl rfl (fun _=>rfl)) | (intro i h1 h2;rw [snoc_lo h1 h2]) | (rw [getD_snoc];rfl))
  rintro ⟨x2_0,x2_1⟩ hJ2
  dsimp only [L16_20,L16_20_J] at hJ2
  refine tz [24,23,22,9,7,5,4] ?_
  refine tCond (decide (x2_0<(↑(playP mem sh lk bu cs l).dids.length:Int))) (fun h3=>?_) (fun h3=>?_)
  ·refine tz [24,23,22,9,7,5,4] ?_
   refine tCond (decide ((playP mem sh lk bu cs l).errs.getD x2_0.toNat (0:Int)=(0:Int))&&!decide ((z56_2 mem sh lk bu cs l x2_0).kind=(0:Int))) (fun h4=>?_) (fun h4=>?_) (vc:=[(0:Int)≤x2_0,x2_0<(↑(playP mem sh lk bu cs l).dids.length:Int),x2_0.toNat<(playP mem sh lk bu cs l).dids.length,(0:Int)≤x2_0,x2_0<(↑(playP mem sh lk bu cs l).errs.length:Int),x2_0.toNat<(playP mem sh lk bu cs l).errs.length]) (hv:=(by simp only [Conj,Fits,i64_min,i64_max,u8_min,u8_max,News.len,maxLen]<;>(repeat' (first | apply And.intro | intro _))<;>first | grind | (simp only [BL] at *;omega)))
   ·exact tNext (L16_20 mem sh lk bu cs l) (x2_0,x2_1) ((x2_0+(1:Int),x2_1++(z56_1 mem sh lk bu cs l x2_0))) (by dsimp only [L16_20,L16_20_m];(try simp only [decide_eq_true_eq] at *);omega) (by have hx:=of_decide_eq_true h3;first | exact ⟨by omega,by omega,of_take hJ2.2.2.1 hlen.1 hJ2.1 h3 h4,by rw [snoc_len];omega⟩ | exact ⟨by omega,by omega,of_skip hJ2.2.2.1 hlen.1 hJ2.1 h3 h4,by have:=hJ2.2.2.2;dsimp only;omega⟩) [0,1,2,3,4,5,9] [13,14,15,16,17,18,19,20,21] [(x2_1++(z56_1 mem sh lk bu cs l x2_0)).length=x2_1.length+1,∀ (i:Nat),i<(x2_1++(z56_1 mem sh lk bu cs l x2_0)).length→i≠x2_1.length→((x2_1++(z56_1 mem sh lk bu cs l x2_0)).getD i default).tc=(x2_1.getD i default).tc,((x2_1++(z56_1 mem sh lk bu cs l x2_0)).getD x2_1.length default).tc 0=TC.val (Value.int IntKind.u8 (z56_2 mem sh lk bu cs l x2_0).kind),((x2_1++(z56_1 mem sh lk bu cs l x2_0)).getD x2_1.length default).tc 1=TC.val (Value.int IntKind.i64 (z56_2 mem sh lk bu cs l x2_0).core),((x2_1++(z56_1 mem sh lk bu cs l x2_0)).getD x2_1.length default).tc 2=TC.val (Value.int IntKind.i64 (z56_2 mem sh lk bu cs l x2_0).pc),((x2_1++(z56_1 mem sh lk bu cs l x2_0)).getD x2_1.length default).tc 3=TC.val (Value.int IntKind.i64 (z56_2 mem sh lk bu cs l x2_0).addr),((x2_1++(z56_1 mem sh lk bu cs l x2_0)).getD x2_1.length default).tc 4=TC.val (Value.int IntKind.i64 (z56_2 mem sh lk bu cs l x2_0).word),((x2_1++(z56_1 mem sh lk bu cs l x2_0)).getD x2_1.length default).tc 5=TC.val (Value.int IntKind.i64 (z56_2 mem sh lk bu cs l x2_0).put),((x2_1++(z56_1 mem sh lk bu cs l x2_0)).getD x2_1.length default).tc 6=TC.val (Value.bool (z56_2 mem sh lk bu cs l x2_0).own)] (by (try simp only [Conj])<;>(repeat' apply And.intro)<;>first | done | trivial | rfl | (intros;first | rfl | trivial) | exact snoc_len _ _ | exact List.length_set | exact set_ints _ _ _ | exact take_row _ _ _ _ _ | (exact take_len _ _ _ (by first | omega | (have h0:=askE_ok (by simpa using h1);have hm:=evE_mem h0.1;have hs:=evE_ok h0.1;omega))) | exact MpEq.put (by omega) | (refine MpEq.mk' (by omega) ?_ ?_<;>intro q<;>first | rfl | (dsimp only;split<;>simp_all)) | (exact MpEq.mkIt (by omega) (fun _=>rfl) (fun _=>rfl) rfl rfl (fun _=>rfl)) | (intro i h1 h2;rw [snoc_lo h1 h2]) | (rw [getD_snoc];rfl)) (vc:=[x2_1.length+1≤maxLen,(x2_1.length+1) * 56≤140737488355328,Fits IntKind.i64 (x2_0+(1:Int))]) (hv:=(by simp only [Conj,Fits,i64_min,i64_max,u8_min,u8_max,News.len,maxLen]<;>(repeat' (first | apply And.intro | intro _))<;>first | grind | (simp only [BL] at *;omega)))
   ·exact tNext (L16_20 mem sh lk bu cs l) (x2_0,x2_1) ((x2_0+(1:Int),x2_1)) (by dsimp only [L16_20,L16_20_m];(try simp only [decide_eq_true_eq] at *);omega) (by have hx:=of_decide_eq_true h3;first | exact ⟨by omega,by omega,of_take hJ2.2.2.1 hlen.1 hJ2.1 h3 h4,by rw [snoc_len];omega⟩ | exact ⟨by omega,by omega,of_skip hJ2.2.2.1 hlen.1 hJ2.1 h3 h4,by have:=hJ2.2.2.2;dsimp only;omega⟩) (vc:=[Fits IntKind.i64 (x2_0+(1:Int))]) (hv:=(by simp only [Conj,Fits,i64_min,i64_max,u8_min,u8_max,News.len,maxLen]<;>(repeat' (first | apply And.intro | intro _))<;>first | grind | (simp only [BL] at *;omega)))
  ·rw [of_end hJ2.2.2.1 h3]
   rw [hz]
   exact tRet [0,1,2,6]
theorem c_of (mem:List Int) (sh lk bu:Int) (cs:List Cor) (hw:∀ a b:Nat,insK ((cs.getD a default).code.getD b default)) (l:List Stp):Ctr Try.prog 16 [WordRow mem,Cor.rowR cs,Stp.rowR l] [.agg [.h 0,.i .i64 sh,.i .i64 lk,.i .i64 bu,.h 1],.c (.h 2)]
 (Det (.tup [(false,[.h 3]),(false,[.i .i64 (playE mem sh lk bu cs l)])]) [.dead,.dead,.dead,Did.ownR (ofV mem sh lk bu cs l)]):=by
 by_cases h:playE mem sh lk bu cs l=0
 ·exact c_of_y mem sh lk bu cs hw l h
 ·exact c_of_n mem sh lk bu cs hw l h
end Go.Proofs.Ytmjjikcappbkeaa
end
namespace Go.Proofs.Ytmjjikcappbkeaa
open Go Go.Tx
def visE (cl:List Cls) (e:Ev):Bool:=
 if e.kind=1∨e.kind=2∨e.kind=3 then decide ((cl.getD e.thing.toNat default).kind=3) else decide (e.kind=4)||decide (e.kind=5)||decide (e.kind=6)
theorem visR {cl:List Cls} {e:Ev} {k:Int} {b:Bool} (hk:e.kind=k) (h3:k=1∨k=2∨k=3) (h:((decide (k=1)||decide (k=2)||decide (k=3))&&decide ((cl.getD e.thing.toNat default).kind=3))=b):visE cl e=b:=by
 unfold visE;rw [hk,if_pos h3,← h]
 rcases h3 with e | e | e<;>subst e<;>simp
theorem visA {cl:List Cls} {e:Ev} (hk:e.kind=4∨e.kind=5∨e.kind=6):visE cl e=true:=by
 unfold visE;rw [if_neg (by omega)]
 rcases hk with e | e | e<;>rw [e]<;>rfl
theorem visN {cl:List Cls} {e:Ev} (hk:e.kind=7):visE cl e=false:=by
 unfold visE;rw [if_neg (by omega),hk];rfl
def visUp (cl:List Cls) (l:List Ev):Nat→List Int
 | 0=>[]
 | n+1=>visUp cl l n++(if visE cl (l.getD n default)=true then [(l.getD n default).core] else [])
theorem vis_take {cl:List Cls} {l:List Ev} {i:Int} (h:0≤i) (hv:visE cl (l.getD i.toNat default)=true):visUp cl l (i+1).toNat=visUp cl l i.toNat++[(l.getD i.toNat default).core]:=by
 have h1:(i+1).toNat=i.toNat+1:=by omega
 rw [h1,visUp,if_pos hv]
theorem vis_skip {cl:List Cls} {l:List Ev} {i:Int} (h:0≤i) (hv:visE cl (l.getD i.toNat default)=false):visUp cl l (i+1).toNat=visUp cl l i.toNat:=by
 have h1:(i+1).toNat=i.toNat+1:=by omega
 rw [h1,visUp,if_neg (by rw [hv];simp),List.append_nil]
theorem visUp_prefix (cl:List Cls) (l:List Ev) {i:Nat}:∀ {n:Nat},i≤n→visUp cl l i <+: visUp cl l n
 | 0,h=>by rw [Nat.le_zero.1 h];exact List.prefix_refl _
 | n+1,h=>by
   by_cases e:i=n+1
   ·rw [e];exact List.prefix_refl _
   ·exact List.IsPrefix.trans (visUp_prefix cl l (by omega)) ⟨_,rfl⟩
theorem visUp_len (cl:List Cls) (l:List Ev):∀ n,(visUp cl l n).length≤n
 | 0=>Nat.le_refl _
 | n+1=>by
   have:=visUp_len cl l n
   rw [visUp,List.length_append]
   split<;>simp<;>omega
theorem vis_here {cl:List Cls} {l:List Ev} {i:Int} (h0:0≤i) (h1:i<l.length) (hv:visE cl (l.getD i.toNat default)=true) :
 (visUp cl l i.toNat).length<(visUp cl l l.length).length∧(visUp cl l l.length).getD (visUp cl l i.toNat).length 0=(l.getD i.toNat default).core:=by
 have h2:=vis_take (cl:=cl) (l:=l) h0 hv
 obtain ⟨t,ht⟩:=visUp_prefix cl l (show (i+1).toNat≤l.length by omega)
 rw [h2] at ht
 rw [← ht]
 refine ⟨by simp,?_⟩
 rw [List.append_assoc,List.getD_eq_getElem?_getD,List.getElem?_append_right (Nat.le_refl _)]
 simp
def EvQ (cl:List Cls) (l:List Ev):Prop:=∀ j:Nat,j<l.length→(1≤(l.getD j default).kind∧(l.getD j default).kind≤7)∧((l.getD j default).kind≤3→0≤(l.getD j default).thing∧(l.getD j default).thing<cl.length)
def ordE (mem:List Int) (sh lk bu:Int) (cs:List Cor) (cl:List Cls) (l:List Did):Int:=
 if evE mem sh lk bu cs l≠0 then evE mem sh lk bu cs l else if (cl.length:Int)≠sh then 210 else 0
def ordL (mem:List Int) (sh lk bu:Int) (cs:List Cor) (cl:List Cls) (l:List Did):List Int:=
 if ordE mem sh lk bu cs cl l=0 then visUp cl (evL mem sh lk bu cs l) (evL mem sh lk bu cs l).length else []
section
variable {mem:List Int} {sh lk bu:Int} {cs:List Cor} {cl:List Cls} {l:List Did}
theorem ordE_err (h1:(!decide (evE mem sh lk bu cs l=0))=true):ordE mem sh lk bu cs cl l=evE mem sh lk bu cs l:=by unfold ordE;rw [if_pos (by simpa using h1)]
theorem ordL_err (h1:(!decide (evE mem sh lk bu cs l=0))=true):ordL mem sh lk bu cs cl l=[]:=by unfold ordL;rw [ordE_err h1,if_neg (by simpa using h1)]
theorem ordE_cls (h1:(!decide (evE mem sh lk bu cs l=0))=false) (h2:(!decide ((cl.length:Int)=sh))=true):ordE mem sh lk bu cs cl l=210:=by unfold ordE;rw [if_neg (by simpa using h1),if_pos (by simpa using h2)]
theorem ordL_cls (h1:(!decide (evE mem sh lk bu cs l=0))=false) (h2:(!decide ((cl.length:Int)=sh))=true):ordL mem sh lk bu cs cl l=[]:=by unfold ordL;rw [ordE_cls h1 h2,if_neg (by decide)]
theorem ordE_ok (h1:(!decide (evE mem sh lk bu cs l=0))=false) (h2:(!decide ((cl.length:Int)=sh))=false):ordE mem sh lk bu cs cl l=0:=by unfold ordE;rw [if_neg (by simpa using h1),if_neg (by simpa using h2)]
theorem ordL_ok (h1:(!decide (evE mem sh lk bu cs l=0))=false) (h2:(!decide ((cl.length:Int)=sh))=false):ordL mem sh lk bu cs cl l=visUp cl (evL mem sh lk bu cs l) (evL mem sh lk bu cs l).length:=by unfold ordL;rw [ordE_ok h1 h2,if_pos rfl]
theorem evE_zero (h:evE mem sh lk bu cs l=0):chkE mem sh lk bu cs=0∧rightsB l=true:=by
 unfold evE at h
 split at h
 ·rename_i hc
  split at h
  ·rename_i hr;exact ⟨hc,hr⟩
  ·simp at h
 ·contradiction
end
theorem evOf_Q {sh lk:Int} {d:Did} {i:Int} (hs:0≤sh∧sh≤64∧0≤lk∧lk≤16) (hd:didB d=true) (hk:¬ (evOf sh lk d i).kind=0) :
 (1≤(evOf sh lk d i).kind∧(evOf sh lk d i).kind≤7)∧((evOf sh lk d i).kind≤3→0≤(evOf sh lk d i).thing∧(evOf sh lk d i).thing<sh):=by
 have hb:=didB_bounds hd
 have hp:=evOf_parts (i:=i) hs hd
 refine ⟨by omega,fun h3=>?_⟩
 clear hp
 obtain ⟨kind,core,pc,addr,word,put,own⟩:=d
 simp only at hb
 unfold evOf noEv at hk h3 ⊢
 simp only at hk h3 ⊢
 grind
theorem evUp_Q {sh lk:Int} {l:List Did} {cl:List Cls} (hs:0≤sh∧sh≤64∧0≤lk∧lk≤16) (hr:rightsB l=true) (hc:(cl.length:Int)=sh):∀ n:Nat,n≤l.length→EvQ cl (evUp sh lk l n)
 | 0,_=>fun j hj=>by simp [evUp] at hj
 | n+1,hn=>fun j hj=>by
   have ih:=evUp_Q hs hr hc n (by omega)
   rw [evUp] at hj ⊢
   by_cases h:j<(evUp sh lk l n).length
   ·rw [getD_append_lt _ _ _ h];exact ih j h
   ·by_cases hk:(evAt sh lk l n).kind=0
    ·rw [if_pos hk] at hj;simp at hj;omega
    ·rw [if_neg hk] at hj ⊢
     have e:j=(evUp sh lk l n).length:=by simp at hj;omega
     subst e
     rw [getD_snoc]
     have hd:=rights_at hr (i:=(n:Int)) (by omega) (by omega)
     have:=evOf_Q (i:=(n:Int)) hs hd hk
     rw [hc]
     exact this
theorem ev_Q {mem:List Int} {sh lk bu:Int} {cs:List Cor} {cl:List Cls} {l:List Did} (h1:(!decide (evE mem sh lk bu cs l=0))=false) (h2:(!decide ((cl.length:Int)=sh))=false) :
 EvQ cl (evL mem sh lk bu cs l)∧(evL mem sh lk bu cs l).length≤l.length:=by
 have h1':evE mem sh lk bu cs l=0:=by simpa using h1
 have h2':(cl.length:Int)=sh:=by simpa using h2
 have hz:=evE_zero h1'
 unfold evL
 rw [if_pos h1']
 exact ⟨evUp_Q (shr hz.1) hz.2 h2' _ (Nat.le_refl _),evUp_len _ _ _ _⟩
end Go.Proofs.Ytmjjikcappbkeaa
noncomputable section
namespace Go.Proofs.Ytmjjikcappbkeaa
open Go Go.Tx
theorem c_cnt1 (x:Bool):Ctr Try.prog 90 [] [.c (.b x)]
 (Det (.c (.b x)) []):=by
 refine Ctr.intro [] Try.func90 K K ?_
 exact tRet
theorem c_cnt2 (x:Bool):Ctr Try.prog 91 [] [.c (.b x)]
 (Det (.c (.t true)) []):=by
 refine Ctr.intro [] Try.func91 K K ?_
 exact tRet
theorem c_cnt3 (x:Bool):Ctr Try.prog 92 [] [.c (.b x)]
 (Det (.c (.t false)) []):=by
 refine Ctr.intro [] Try.func92 K K ?_
 exact tRet
theorem c_counts :Ctr Try.prog 60 [] []
 (Det (.agg [C.fn 92 false [],C.fn 90 false [],C.fn 90 false [],C.fn 90 false [],C.fn 91 false [],C.fn 91 false [],C.fn 91 false [],C.fn 92 false []]) []):=by
 refine Ctr.intro [] Try.func60 K K ?_
 exact tRet
theorem c_visF (l:List Ev) (cl:List Cls):Ctr Try.prog 40 [Ev.rowR l,Cls.rowR cl] [.c (.h 0),.c (.h 1)]
 (Det (.c (C.fn 59 false [2,3])) [.dead,.dead,Reg.box 122 [.h 0],Reg.box 26 [.h 1]]):=by
 refine Ctr.intro [] Try.func40 K K ?_
 exact tRet
abbrev z57_1:=Reg.box 170 [C.fn 92 false [],C.fn 90 false [],C.fn 90 false [],C.fn 90 false [],C.fn 91 false [],C.fn 91 false [],C.fn 91 false [],C.fn 92 false []]
abbrev z57_3 (cl:List Cls):=Reg.row 3 cl.length (fun i=>(cl.getD i default).tc) none
abbrev z57_4 (l:List Ev):=Reg.row 7 l.length (fun i=>(l.getD i default).tc) none
def L59_0_I (l:List Ev) (cl:List Cls) (Xe:Ext):Int×Nat→St:=fun x=>{ N:=53,fr:=[{ slot:=12,g:=[],sv:=SV.c (C.i .i64 x.1) },{ slot:=11,g:=[],sv:=SV.c (C.i .i64 (↑l.length:Int)) },{ slot:=10,g:=[],sv:=SV.c (C.h 0) },{ slot:=4,g:=[],sv:=SV.c (C.p 6 0) },{ slot:=0,g:=[],sv:=SV.c (C.h 5) },{ slot:=2,g:=[],sv:=SV.c (C.p 3 0) }],rg:=[z57_4 l,z57_3 cl,Reg.ro [C.h 0],Reg.ro [C.h 1],Reg.froz Xe,Reg.ext Xe x.2 true,z57_1],wr:=[] }
def L59_0_J (l:List Ev) (cl:List Cls) (Xe:Ext):Int×Nat→Prop:=fun x=>0≤x.1∧x.1≤(l.length:Int)∧x.2=(visUp cl l x.1.toNat).length
def L59_0_m (l:List Ev) (cl:List Cls) (Xe:Ext):Int×Nat→Nat:=fun x=>((l.length:Int)-x.1).toNat
def L59_0 (l:List Ev) (cl:List Cls) (Xe:Ext):Lp (Int×Nat):=⟨L59_0_I l cl Xe,L59_0_J l cl Xe,L59_0_m l cl Xe⟩
abbrev z57_2 (x1_0:Int) (l:List Ev):=[En.mk 6 [] (SV.c (C.p 7 0)),En.mk 12 [] (SV.c (C.i .i64 x1_0)),En.mk 11 [] (SV.c (C.i .i64 (↑l.length:Int))),En.mk 10 [] (SV.c (C.h 0)),En.mk 4 [] (SV.c (C.p 6 0)),En.mk 0 [] (SV.c (C.h 5)),En.mk 2 [] (SV.c (C.p 3 0))]
abbrev z57_5 (cl:List Cls) (l:List Ev) (x1_0:Int):=((cl.getD (l.getD x1_0.toNat default).thing.toNat default).kind=(3:Int))
abbrev z57_8 (l:List Ev) (x1_0:Int):=C.i .i64 (l.getD x1_0.toNat default).thing
abbrev z57_9 (l:List Ev) (x1_0:Int):=C.i .i64 (l.getD x1_0.toNat default).core
abbrev z57_10 (l:List Ev) (x1_0:Int):=C.i .i64 (l.getD x1_0.toNat default).word
abbrev z57_11 (l:List Ev) (x1_0:Int):=C.i .i64 (l.getD x1_0.toNat default).put
abbrev z57_12 (l:List Ev) (x1_0:Int):=C.i .i64 (l.getD x1_0.toNat default).pos
abbrev z57_6 (l:List Ev) (x1_0:Int):=Reg.box 168 [C.i .u8 (l.getD x1_0.toNat default).kind,z57_9 l x1_0,z57_8 l x1_0,z57_10 l x1_0,z57_11 l x1_0,C.b (l.getD x1_0.toNat default).own,z57_12 l x1_0]
abbrev z57_7 (l:List Ev) (x1_0:Int):=(SV.c (C.i .i64 (l.getD x1_0.toNat default).core))
theorem c_vis_it (l:List Ev) (cl:List Cls) (hq:EvQ cl l) (Xe:Ext) (hn:Xe.n=(visUp cl l l.length).length) (he:Xe.enc=fun k=>.c (.i .i64 ((visUp cl l l.length).getD k 0))) (hy:Xe.Yields Try.prog):Ctr Try.prog 59 ([Ev.rowR l,Cls.rowR cl,.ro [.h 0],.ro [.h 1]]++[.froz Xe,.ext Xe 0 true]) [.c (.h 5),.c (.p 2 0),.c (.p 3 0)]
 (RangeEnd Xe 5):=by
 refine Ctr.intro [] Try.func59 K K ?_
 refine RunF.lens 0 (m:=l.length) K (fun hlens_0=>?_)
 refine tCall e_witness_counts (c_counts) [] ?_
 refine tz [9,0,1,2] ?_
 refine tLoop (L59_0 l cl Xe) (((0:Int),0)) ⟨by omega,by omega,rfl⟩ ?_
 rintro ⟨x1_0,x1_1⟩ hJ1
 dsimp only [L59_0,L59_0_J] at hJ1
 refine tz [12,11,10,4,0,2] ?_
 refine tCond (decide (x1_0<(↑l.length:Int))) (fun h2=>?_) (fun h2=>?_)
 ·refine RunF.cut (fun _:Unit=>St.mk 53 (z57_2 x1_0 l) [z57_4 l,z57_3 cl,Reg.ro [C.h 0],Reg.ro [C.h 1],Reg.froz Xe,Reg.ext Xe x1_1 true,z57_1,z57_6 l x1_0] []) (fun _=>True) ?_ ?_
  ·exact tTo (fun x=>St.mk 53 (z57_2 x1_0 l) [z57_4 l,z57_3 cl,Reg.ro [C.h 0],Reg.ro [C.h 1],Reg.froz Xe,Reg.ext Xe x1_1 true,z57_1,z57_6 l x1_0] []) (fun x=>True) () trivial (vc:=[(0:Int)≤x1_0,x1_0<(↑l.length:Int),x1_0.toNat<l.length]) (hv:=(by simp only [Conj,Fits,i64_min,i64_max,u8_min,u8_max,News.len,maxLen]<;>(repeat' (first | apply And.intro | intro _))<;>first | grind | (have hx:=of_decide_eq_true h2;have hq1:=hq x1_0.toNat (by omega);omega) | (simp only [BL] at *;omega)))
  ·rintro ⟨⟩ _
   rcases (show (l.getD x1_0.toNat default).kind=(1:Int)∨(l.getD x1_0.toNat default).kind=(2:Int)∨(l.getD x1_0.toNat default).kind=(3:Int)∨(l.getD x1_0.toNat default).kind=(4:Int)∨(l.getD x1_0.toNat default).kind=(5:Int)∨(l.getD x1_0.toNat default).kind=(6:Int)∨(l.getD x1_0.toNat default).kind=(7:Int) from (by have hx:=of_decide_eq_true h2;have hq1:=hq x1_0.toNat (by omega);omega)) with hs3 | hs3 | hs3 | hs3 | hs3 | hs3 | hs3
   ·refine tWk (St.mk 53 (z57_2 x1_0 l) [z57_4 l,z57_3 cl,Reg.ro [C.h 0],Reg.ro [C.h 1],Reg.froz Xe,Reg.ext Xe x1_1 true,z57_1,Reg.box 168 [C.i .u8 1,z57_9 l x1_0,z57_8 l x1_0,z57_10 l x1_0,z57_11 l x1_0,C.b (l.getD x1_0.toNat default).own,z57_12 l x1_0]] []) ?_ [] [8] [(1:Int)=(l.getD x1_0.toNat default).kind] (by simp only [Conj];(repeat' apply And.intro)<;>first | trivial | rfl | (intros;rfl) | (exact Eq.symm (by assumption)) | grind)
    refine tz [6,12,11,10,4,0,2] ?_
    refine tCall e_witness_counts_1 (c_cnt1 (x:=(decide ((1:Int)=(1:Int))||decide ((1:Int)=(2:Int))||decide ((1:Int)=(3:Int)))&&decide ((cl.getD (l.getD x1_0.toNat default).thing.toNat default).kind=(3:Int)))) [] ?_ (vc:=[(decide ((1:Int)=(1:Int))||decide ((1:Int)=(2:Int))||decide ((1:Int)=(3:Int)))=true→(0:Int)≤(l.getD x1_0.toNat default).thing,(decide ((1:Int)=(1:Int))||decide ((1:Int)=(2:Int))||decide ((1:Int)=(3:Int)))=true→(l.getD x1_0.toNat default).thing<(↑cl.length:Int),(decide ((1:Int)=(1:Int))||decide ((1:Int)=(2:Int))||decide ((1:Int)=(3:Int)))=true→(l.getD x1_0.toNat default).thing.toNat<cl.length,(0:Int)≤(1:Int),(1:Int)<(8:Int)]) (hv:=(by simp only [Conj,Fits,i64_min,i64_max,u8_min,u8_max,News.len,maxLen]<;>(repeat' (first | apply And.intro | intro _))<;>first | grind | (have hx:=of_decide_eq_true h2;have hq1:=hq x1_0.toNat (by omega);omega) | (simp only [BL] at *;omega)))
    refine tz [44,6,12,11,10,4,0,2] ?_
    refine tCond ((decide ((1:Int)=(1:Int))||decide ((1:Int)=(2:Int))||decide ((1:Int)=(3:Int)))&&decide (z57_5 cl l x1_0)) (fun h4=>?_) (fun h4=>?_)
    ·refine tz [48,46,45,12,11,10,4,0,2] ?_
     refine tYield hy 5 4 x1_1 (z57_7 l x1_0) (by have hx:=of_decide_eq_true h2;rw [hn,hJ1.2.2];exact (vis_here hJ1.1 hx (by first | exact visR hs3 (by decide) h4 | exact visA (.inl hs3) | exact visA (.inr (.inl hs3)) | exact visA (.inr (.inr hs3)) | exact visN hs3)).1) (by have hx:=of_decide_eq_true h2;rw [he];dsimp only;rw [hJ1.2.2,(vis_here hJ1.1 hx (by first | exact visR hs3 (by decide) h4 | exact visA (.inl hs3) | exact visA (.inr (.inl hs3)) | exact visA (.inr (.inr hs3)) | exact visN hs3)).2]) (fun al5=>?_)
     refine tz [49,45,12,11,10,4,0,2] ?_
     refine tCond (!al5) (fun h6=>?_) (fun h6=>?_)
     ·exact tRet (res:=(SV.tup [])) (post:=([Reg.dead,Reg.dead,Reg.dead,Reg.dead,Reg.dead,Reg.ext Xe (x1_1+1) al5])) (hS:=⟨x1_1+1,al5,(by first | (intro _;rw [hn,hJ1.2.2,show x1_0.toNat=l.length by (simp only [BL] at *;omega)]) | (intro h;subst h;simp at *)),rfl⟩)
     ·exact tNext (L59_0 l cl Xe) (x1_0,x1_1) ((x1_0+(1:Int),x1_1+1)) (by dsimp only [L59_0,L59_0_m];(try simp only [decide_eq_true_eq] at *);omega) (by have hx:=of_decide_eq_true h2;refine ⟨by omega,by omega,?_⟩;first | (rw [vis_skip hJ1.1 (by first | exact visR hs3 (by decide) h4 | exact visA (.inl hs3) | exact visA (.inr (.inl hs3)) | exact visA (.inr (.inr hs3)) | exact visN hs3)];exact hJ1.2.2) | (rw [vis_take hJ1.1 (by first | exact visR hs3 (by decide) h4 | exact visA (.inl hs3) | exact visA (.inr (.inl hs3)) | exact visA (.inr (.inr hs3)) | exact visN hs3),List.length_append,← hJ1.2.2];rfl)) [] [7] [true=al5] (by simp only [Conj];(repeat' apply And.intro)<;>first | trivial | rfl | (intros;rfl) | (intros;trivial) | grind) (vc:=[Fits IntKind.i64 (x1_0+(1:Int))]) (hv:=(by simp only [Conj,Fits,i64_min,i64_max,u8_min,u8_max,News.len,maxLen]<;>(repeat' (first | apply And.intro | intro _))<;>first | grind | (have hx:=of_decide_eq_true h2;have hq1:=hq x1_0.toNat (by omega);omega) | (simp only [BL] at *;omega)))
    ·exact tNext (L59_0 l cl Xe) (x1_0,x1_1) ((x1_0+(1:Int),x1_1)) (by dsimp only [L59_0,L59_0_m];(try simp only [decide_eq_true_eq] at *);omega) (by have hx:=of_decide_eq_true h2;refine ⟨by omega,by omega,?_⟩;first | (rw [vis_skip hJ1.1 (by first | exact visR hs3 (by decide) h4 | exact visA (.inl hs3) | exact visA (.inr (.inl hs3)) | exact visA (.inr (.inr hs3)) | exact visN hs3)];exact hJ1.2.2) | (rw [vis_take hJ1.1 (by first | exact visR hs3 (by decide) h4 | exact visA (.inl hs3) | exact visA (.inr (.inl hs3)) | exact visA (.inr (.inr hs3)) | exact visN hs3),List.length_append,← hJ1.2.2];rfl)) (vc:=[Fits IntKind.i64 (x1_0+(1:Int))]) (hv:=(by simp only [Conj,Fits,i64_min,i64_max,u8_min,u8_max,News.len,maxLen]<;>(repeat' (first | apply And.intro | intro _))<;>first | grind | (have hx:=of_decide_eq_true h2;have hq1:=hq x1_0.toNat (by omega);omega) | (simp only [BL] at *;omega)))
   ·refine tWk (St.mk 53 (z57_2 x1_0 l) [z57_4 l,z57_3 cl,Reg.ro [C.h 0],Reg.ro [C.h 1],Reg.froz Xe,Reg.ext Xe x1_1 true,z57_1,Reg.box 168 [C.i .u8 2,z57_9 l x1_0,z57_8 l x1_0,z57_10 l x1_0,z57_11 l x1_0,C.b (l.getD x1_0.toNat default).own,z57_12 l x1_0]] []) ?_ [] [8] [(2:Int)=(l.getD x1_0.toNat default).kind] (by simp only [Conj];(repeat' apply And.intro)<;>first | trivial | rfl | (intros;rfl) | (exact Eq.symm (by assumption)) | grind)
    refine tz [6,12,11,10,4,0,2] ?_
    refine tCall e_witness_counts_1 (c_cnt1 (x:=(decide ((2:Int)=(1:Int))||decide ((2:Int)=(2:Int))||decide ((2:Int)=(3:Int)))&&decide ((cl.getD (l.getD x1_0.toNat default).thing.toNat default).kind=(3:Int)))) [] ?_ (vc:=[(decide ((2:Int)=(1:Int))||decide ((2:Int)=(2:Int))||decide ((2:Int)=(3:Int)))=true→(0:Int)≤(l.getD x1_0.toNat default).thing,(decide ((2:Int)=(1:Int))||decide ((2:Int)=(2:Int))||decide ((2:Int)=(3:Int)))=true→(l.getD x1_0.toNat default).thing<(↑cl.length:Int),(decide ((2:Int)=(1:Int))||decide ((2:Int)=(2:Int))||decide ((2:Int)=(3:Int)))=true→(l.getD x1_0.toNat default).thing.toNat<cl.length,(0:Int)≤(2:Int),(2:Int)<(8:Int)]) (hv:=(by simp only [Conj,Fits,i64_min,i64_max,u8_min,u8_max,News.len,maxLen]<;>(repeat' (first | apply And.intro | intro _))<;>first | grind | (have hx:=of_decide_eq_true h2;have hq1:=hq x1_0.toNat (by omega);omega) | (simp only [BL] at *;omega)))
    refine tz [44,6,12,11,10,4,0,2] ?_
    refine tCond ((decide ((2:Int)=(1:Int))||decide ((2:Int)=(2:Int))||decide ((2:Int)=(3:Int)))&&decide (z57_5 cl l x1_0)) (fun h4=>?_) (fun h4=>?_)
    ·refine tz [48,46,45,12,11,10,4,0,2] ?_
     refine tYield hy 5 4 x1_1 (z57_7 l x1_0) (by have hx:=of_decide_eq_true h2;rw [hn,hJ1.2.2];exact (vis_here hJ1.1 hx (by first | exact visR hs3 (by decide) h4 | exact visA (.inl hs3) | exact visA (.inr (.inl hs3)) | exact visA (.inr (.inr hs3)) | exact visN hs3)).1) (by have hx:=of_decide_eq_true h2;rw [he];dsimp only;rw [hJ1.2.2,(vis_here hJ1.1 hx (by first | exact visR hs3 (by decide) h4 | exact visA (.inl hs3) | exact visA (.inr (.inl hs3)) | exact visA (.inr (.inr hs3)) | exact visN hs3)).2]) (fun al5=>?_)
     refine tz [49,45,12,11,10,4,0,2] ?_
     refine tCond (!al5) (fun h6=>?_) (fun h6=>?_)
     ·exact tRet (res:=(SV.tup [])) (post:=([Reg.dead,Reg.dead,Reg.dead,Reg.dead,Reg.dead,Reg.ext Xe (x1_1+1) al5])) (hS:=⟨x1_1+1,al5,(by first | (intro _;rw [hn,hJ1.2.2,show x1_0.toNat=l.length by (simp only [BL] at *;omega)]) | (intro h;subst h;simp at *)),rfl⟩)
     ·exact tNext (L59_0 l cl Xe) (x1_0,x1_1) ((x1_0+(1:Int),x1_1+1)) (by dsimp only [L59_0,L59_0_m];(try simp only [decide_eq_true_eq] at *);omega) (by have hx:=of_decide_eq_true h2;refine ⟨by omega,by omega,?_⟩;first | (rw [vis_skip hJ1.1 (by first | exact visR hs3 (by decide) h4 | exact visA (.inl hs3) | exact visA (.inr (.inl hs3)) | exact visA (.inr (.inr hs3)) | exact visN hs3)];exact hJ1.2.2) | (rw [vis_take hJ1.1 (by first | exact visR hs3 (by decide) h4 | exact visA (.inl hs3) | exact visA (.inr (.inl hs3)) | exact visA (.inr (.inr hs3)) | exact visN hs3),List.length_append,← hJ1.2.2];rfl)) [] [7] [true=al5] (by simp only [Conj];(repeat' apply And.intro)<;>first | trivial | rfl | (intros;rfl) | (intros;trivial) | grind) (vc:=[Fits IntKind.i64 (x1_0+(1:Int))]) (hv:=(by simp only [Conj,Fits,i64_min,i64_max,u8_min,u8_max,News.len,maxLen]<;>(repeat' (first | apply And.intro | intro _))<;>first | grind | (have hx:=of_decide_eq_true h2;have hq1:=hq x1_0.toNat (by omega);omega) | (simp only [BL] at *;omega)))
    ·exact tNext (L59_0 l cl Xe) (x1_0,x1_1) ((x1_0+(1:Int),x1_1)) (by dsimp only [L59_0,L59_0_m];(try simp only [decide_eq_true_eq] at *);omega) (by have hx:=of_decide_eq_true h2;refine ⟨by omega,by omega,?_⟩;first | (rw [vis_skip hJ1.1 (by first | exact visR hs3 (by decide) h4 | exact visA (.inl hs3) | exact visA (.inr (.inl hs3)) | exact visA (.inr (.inr hs3)) | exact visN hs3)];exact hJ1.2.2) | (rw [vis_take hJ1.1 (by first | exact visR hs3 (by decide) h4 | exact visA (.inl hs3) | exact visA (.inr (.inl hs3)) | exact visA (.inr (.inr hs3)) | exact visN hs3),List.length_append,← hJ1.2.2];rfl)) (vc:=[Fits IntKind.i64 (x1_0+(1:Int))]) (hv:=(by simp only [Conj,Fits,i64_min,i64_max,u8_min,u8_max,News.len,maxLen]<;>(repeat' (first | apply And.intro | intro _))<;>first | grind | (have hx:=of_decide_eq_true h2;have hq1:=hq x1_0.toNat (by omega);omega) | (simp only [BL] at *;omega)))
   ·refine tWk (St.mk 53 (z57_2 x1_0 l) [z57_4 l,z57_3 cl,Reg.ro [C.h 0],Reg.ro [C.h 1],Reg.froz Xe,Reg.ext Xe x1_1 true,z57_1,Reg.box 168 [C.i .u8 3,z57_9 l x1_0,z57_8 l x1_0,z57_10 l x1_0,z57_11 l x1_0,C.b (l.getD x1_0.toNat default).own,z57_12 l x1_0]] []) ?_ [] [8] [(3:Int)=(l.getD x1_0.toNat default).kind] (by simp only [Conj];(repeat' apply And.intro)<;>first | trivial | rfl | (intros;rfl) | (exact Eq.symm (by assumption)) | grind)
    refine tz [6,12,11,10,4,0,2] ?_
    refine tCall e_witness_counts_1 (c_cnt1 (x:=(decide ((3:Int)=(1:Int))||decide ((3:Int)=(2:Int))||decide ((3:Int)=(3:Int)))&&decide ((cl.getD (l.getD x1_0.toNat default).thing.toNat default).kind=(3:Int)))) [] ?_ (vc:=[(decide ((3:Int)=(1:Int))||decide ((3:Int)=(2:Int))||decide ((3:Int)=(3:Int)))=true→(0:Int)≤(l.getD x1_0.toNat default).thing,(decide ((3:Int)=(1:Int))||decide ((3:Int)=(2:Int))||decide ((3:Int)=(3:Int)))=true→(l.getD x1_0.toNat default).thing<(↑cl.length:Int),(decide ((3:Int)=(1:Int))||decide ((3:Int)=(2:Int))||decide ((3:Int)=(3:Int)))=true→(l.getD x1_0.toNat default).thing.toNat<cl.length,(0:Int)≤(3:Int),(3:Int)<(8:Int)]) (hv:=(by simp only [Conj,Fits,i64_min,i64_max,u8_min,u8_max,News.len,maxLen]<;>(repeat' (first | apply And.intro | intro _))<;>first | grind | (have hx:=of_decide_eq_true h2;have hq1:=hq x1_0.toNat (by omega);omega) | (simp only [BL] at *;omega)))
    refine tz [44,6,12,11,10,4,0,2] ?_
    refine tCond ((decide ((3:Int)=(1:Int))||decide ((3:Int)=(2:Int))||decide ((3:Int)=(3:Int)))&&decide (z57_5 cl l x1_0)) (fun h4=>?_) (fun h4=>?_)
    ·refine tz [48,46,45,12,11,10,4,0,2] ?_
     refine tYield hy 5 4 x1_1 (z57_7 l x1_0) (by have hx:=of_decide_eq_true h2;rw [hn,hJ1.2.2];exact (vis_here hJ1.1 hx (by first | exact visR hs3 (by decide) h4 | exact visA (.inl hs3) | exact visA (.inr (.inl hs3)) | exact visA (.inr (.inr hs3)) | exact visN hs3)).1) (by have hx:=of_decide_eq_true h2;rw [he];dsimp only;rw [hJ1.2.2,(vis_here hJ1.1 hx (by first | exact visR hs3 (by decide) h4 | exact visA (.inl hs3) | exact visA (.inr (.inl hs3)) | exact visA (.inr (.inr hs3)) | exact visN hs3)).2]) (fun al5=>?_)
     refine tz [49,45,12,11,10,4,0,2] ?_
     refine tCond (!al5) (fun h6=>?_) (fun h6=>?_)
     ·exact tRet (res:=(SV.tup [])) (post:=([Reg.dead,Reg.dead,Reg.dead,Reg.dead,Reg.dead,Reg.ext Xe (x1_1+1) al5])) (hS:=⟨x1_1+1,al5,(by first | (intro _;rw [hn,hJ1.2.2,show x1_0.toNat=l.length by (simp only [BL] at *;omega)]) | (intro h;subst h;simp at *)),rfl⟩)
     ·exact tNext (L59_0 l cl Xe) (x1_0,x1_1) ((x1_0+(1:Int),x1_1+1)) (by dsimp only [L59_0,L59_0_m];(try simp only [decide_eq_true_eq] at *);omega) (by have hx:=of_decide_eq_true h2;refine ⟨by omega,by omega,?_⟩;first | (rw [vis_skip hJ1.1 (by first | exact visR hs3 (by decide) h4 | exact visA (.inl hs3) | exact visA (.inr (.inl hs3)) | exact visA (.inr (.inr hs3)) | exact visN hs3)];exact hJ1.2.2) | (rw [vis_take hJ1.1 (by first | exact visR hs3 (by decide) h4 | exact visA (.inl hs3) | exact visA (.inr (.inl hs3)) | exact visA (.inr (.inr hs3)) | exact visN hs3),List.length_append,← hJ1.2.2];rfl)) [] [7] [true=al5] (by simp only [Conj];(repeat' apply And.intro)<;>first | trivial | rfl | (intros;rfl) | (intros;trivial) | grind) (vc:=[Fits IntKind.i64 (x1_0+(1:Int))]) (hv:=(by simp only [Conj,Fits,i64_min,i64_max,u8_min,u8_max,News.len,maxLen]<;>(repeat' (first | apply And.intro | intro _))<;>first | grind | (have hx:=of_decide_eq_true h2;have hq1:=hq x1_0.toNat (by omega);omega) | (simp only [BL] at *;omega)))
    ·exact tNext (L59_0 l cl Xe) (x1_0,x1_1) ((x1_0+(1:Int),x1_1)) (by dsimp only [L59_0,L59_0_m];(try simp only [decide_eq_true_eq] at *);omega) (by have hx:=of_decide_eq_true h2;refine ⟨by omega,by omega,?_⟩;first | (rw [vis_skip hJ1.1 (by first | exact visR hs3 (by decide) h4 | exact visA (.inl hs3) | exact visA (.inr (.inl hs3)) | exact visA (.inr (.inr hs3)) | exact visN hs3)];exact hJ1.2.2) | (rw [vis_take hJ1.1 (by first | exact visR hs3 (by decide) h4 | exact visA (.inl hs3) | exact visA (.inr (.inl hs3)) | exact visA (.inr (.inr hs3)) | exact visN hs3),List.length_append,← hJ1.2.2];rfl)) (vc:=[Fits IntKind.i64 (x1_0+(1:Int))]) (hv:=(by simp only [Conj,Fits,i64_min,i64_max,u8_min,u8_max,News.len,maxLen]<;>(repeat' (first | apply And.intro | intro _))<;>first | grind | (have hx:=of_decide_eq_true h2;have hq1:=hq x1_0.toNat (by omega);omega) | (simp only [BL] at *;omega)))
   ·refine tWk (St.mk 53 (z57_2 x1_0 l) [z57_4 l,z57_3 cl,Reg.ro [C.h 0],Reg.ro [C.h 1],Reg.froz Xe,Reg.ext Xe x1_1 true,z57_1,Reg.box 168 [C.i .u8 4,z57_9 l x1_0,z57_8 l x1_0,z57_10 l x1_0,z57_11 l x1_0,C.b (l.getD x1_0.toNat default).own,z57_12 l x1_0]] []) ?_ [] [8] [(4:Int)=(l.getD x1_0.toNat default).kind] (by simp only [Conj];(repeat' apply And.intro)<;>first | trivial | rfl | (intros;rfl) | (exact Eq.symm (by assumption)) | grind)
    refine tz [6,12,11,10,4,0,2] ?_
    refine tCall e_witness_counts_2 (c_cnt2 (x:=(decide ((4:Int)=(1:Int))||decide ((4:Int)=(2:Int))||decide ((4:Int)=(3:Int)))&&decide ((cl.getD (l.getD x1_0.toNat default).thing.toNat default).kind=(3:Int)))) [] ?_ [0] [((decide ((4:Int)=(1:Int))||decide ((4:Int)=(2:Int))||decide ((4:Int)=(3:Int)))&&decide (z57_5 cl l x1_0))=false] (by (try simp only [Conj])<;>(repeat' apply And.intro)<;>first | done | trivial | rfl | (intros;first | rfl | trivial) | exact snoc_len _ _ | exact List.length_set | exact set_ints _ _ _ | exact take_row _ _ _ _ _ | (exact take_len _ _ _ (by first | omega | (have h0:=askE_ok (by simpa using h1);have hm:=evE_mem h0.1;have hs:=evE_ok h0.1;omega))) | exact MpEq.put (by omega) | (refine MpEq.mk' (by omega) ?_ ?_<;>intro q<;>first | rfl | (dsimp only;split<;>simp_all)) | (exact MpEq.mkIt (by omega) (fun _=>rfl) (fun _=>rfl) rfl rfl (fun _=>rfl)) | (intro i h1 h2;rw [snoc_lo h1 h2]) | (rw [getD_snoc];rfl)) (vc:=[(decide ((4:Int)=(1:Int))||decide ((4:Int)=(2:Int))||decide ((4:Int)=(3:Int)))=true→(0:Int)≤(l.getD x1_0.toNat default).thing,(decide ((4:Int)=(1:Int))||decide ((4:Int)=(2:Int))||decide ((4:Int)=(3:Int)))=true→(l.getD x1_0.toNat default).thing<(↑cl.length:Int),(decide ((4:Int)=(1:Int))||decide ((4:Int)=(2:Int))||decide ((4:Int)=(3:Int)))=true→(l.getD x1_0.toNat default).thing.toNat<cl.length,(0:Int)≤(4:Int),(4:Int)<(8:Int)]) (hv:=(by simp only [Conj,Fits,i64_min,i64_max,u8_min,u8_max,News.len,maxLen]<;>(repeat' (first | apply And.intro | intro _))<;>first | grind | (have hx:=of_decide_eq_true h2;have hq1:=hq x1_0.toNat (by omega);omega) | (simp only [BL] at *;omega)))
    refine tz [44,6,12,11,10,4,0,2] ?_
    refine tYield hy 5 4 x1_1 (z57_7 l x1_0) (by have hx:=of_decide_eq_true h2;rw [hn,hJ1.2.2];exact (vis_here hJ1.1 hx (by first | exact visR hs3 (by decide) h4 | exact visA (.inl hs3) | exact visA (.inr (.inl hs3)) | exact visA (.inr (.inr hs3)) | exact visN hs3)).1) (by have hx:=of_decide_eq_true h2;rw [he];dsimp only;rw [hJ1.2.2,(vis_here hJ1.1 hx (by first | exact visR hs3 (by decide) h4 | exact visA (.inl hs3) | exact visA (.inr (.inl hs3)) | exact visA (.inr (.inr hs3)) | exact visN hs3)).2]) (fun al4=>?_)
    refine tz [49,45,12,11,10,4,0,2] ?_
    refine tCond (!al4) (fun h5=>?_) (fun h5=>?_)
    ·exact tRet (res:=(SV.tup [])) (post:=([Reg.dead,Reg.dead,Reg.dead,Reg.dead,Reg.dead,Reg.ext Xe (x1_1+1) al4])) (hS:=⟨x1_1+1,al4,(by first | (intro _;rw [hn,hJ1.2.2,show x1_0.toNat=l.length by (simp only [BL] at *;omega)]) | (intro h;subst h;simp at *)),rfl⟩)
    ·exact tNext (L59_0 l cl Xe) (x1_0,x1_1) ((x1_0+(1:Int),x1_1+1)) (by dsimp only [L59_0,L59_0_m];(try simp only [decide_eq_true_eq] at *);omega) (by have hx:=of_decide_eq_true h2;refine ⟨by omega,by omega,?_⟩;first | (rw [vis_skip hJ1.1 (by first | exact visR hs3 (by decide) h4 | exact visA (.inl hs3) | exact visA (.inr (.inl hs3)) | exact visA (.inr (.inr hs3)) | exact visN hs3)];exact hJ1.2.2) | (rw [vis_take hJ1.1 (by first | exact visR hs3 (by decide) h4 | exact visA (.inl hs3) | exact visA (.inr (.inl hs3)) | exact visA (.inr (.inr hs3)) | exact visN hs3),List.length_append,← hJ1.2.2];rfl)) [] [7] [true=al4] (by simp only [Conj];(repeat' apply And.intro)<;>first | trivial | rfl | (intros;rfl) | (intros;trivial) | grind) (vc:=[Fits IntKind.i64 (x1_0+(1:Int))]) (hv:=(by simp only [Conj,Fits,i64_min,i64_max,u8_min,u8_max,News.len,maxLen]<;>(repeat' (first | apply And.intro | intro _))<;>first | grind | (have hx:=of_decide_eq_true h2;have hq1:=hq x1_0.toNat (by omega);omega) | (simp only [BL] at *;omega)))
   ·refine tWk (St.mk 53 (z57_2 x1_0 l) [z57_4 l,z57_3 cl,Reg.ro [C.h 0],Reg.ro [C.h 1],Reg.froz Xe,Reg.ext Xe x1_1 true,z57_1,Reg.box 168 [C.i .u8 5,z57_9 l x1_0,z57_8 l x1_0,z57_10 l x1_0,z57_11 l x1_0,C.b (l.getD x1_0.toNat default).own,z57_12 l x1_0]] []) ?_ [] [8] [(5:Int)=(l.getD x1_0.toNat default).kind] (by simp only [Conj];(repeat' apply And.intro)<;>first | trivial | rfl | (intros;rfl) | (exact Eq.symm (by assumption)) | grind)
    refine tz [6,12,11,10,4,0,2] ?_
    refine tCall e_witness_counts_2 (c_cnt2 (x:=(decide ((5:Int)=(1:Int))||decide ((5:Int)=(2:Int))||decide ((5:Int)=(3:Int)))&&decide ((cl.getD (l.getD x1_0.toNat default).thing.toNat default).kind=(3:Int)))) [] ?_ [0] [((decide ((5:Int)=(1:Int))||decide ((5:Int)=(2:Int))||decide ((5:Int)=(3:Int)))&&decide (z57_5 cl l x1_0))=false] (by (try simp only [Conj])<;>(repeat' apply And.intro)<;>first | done | trivial | rfl | (intros;first | rfl | trivial) | exact snoc_len _ _ | exact List.length_set | exact set_ints _ _ _ | exact take_row _ _ _ _ _ | (exact take_len _ _ _ (by first | omega | (have h0:=askE_ok (by simpa using h1);have hm:=evE_mem h0.1;have hs:=evE_ok h0.1;omega))) | exact MpEq.put (by omega) | (refine MpEq.mk' (by omega) ?_ ?_<;>intro q<;>first | rfl | (dsimp only;split<;>simp_all)) | (exact MpEq.mkIt (by omega) (fun _=>rfl) (fun _=>rfl) rfl rfl (fun _=>rfl)) | (intro i h1 h2;rw [snoc_lo h1 h2]) | (rw [getD_snoc];rfl)) (vc:=[(decide ((5:Int)=(1:Int))||decide ((5:Int)=(2:Int))||decide ((5:Int)=(3:Int)))=true→(0:Int)≤(l.getD x1_0.toNat default).thing,(decide ((5:Int)=(1:Int))||decide ((5:Int)=(2:Int))||decide ((5:Int)=(3:Int)))=true→(l.getD x1_0.toNat default).thing<(↑cl.length:Int),(decide ((5:Int)=(1:Int))||decide ((5:Int)=(2:Int))||decide ((5:Int)=(3:Int)))=true→(l.getD x1_0.toNat default).thing.toNat<cl.length,(0:Int)≤(5:Int),(5:Int)<(8:Int)]) (hv:=(by simp only [Conj,Fits,i64_min,i64_max,u8_min,u8_max,News.len,maxLen]<;>(repeat' (first | apply And.intro | intro _))<;>first | grind | (have hx:=of_decide_eq_true h2;have hq1:=hq x1_0.toNat (by omega);omega) | (simp only [BL] at *;omega)))
    refine tz [44,6,12,11,10,4,0,2] ?_
    refine tYield hy 5 4 x1_1 (z57_7 l x1_0) (by have hx:=of_decide_eq_true h2;rw [hn,hJ1.2.2];exact (vis_here hJ1.1 hx (by first | exact visR hs3 (by decide) h4 | exact visA (.inl hs3) | exact visA (.inr (.inl hs3)) | exact visA (.inr (.inr hs3)) | exact visN hs3)).1) (by have hx:=of_decide_eq_true h2;rw [he];dsimp only;rw [hJ1.2.2,(vis_here hJ1.1 hx (by first | exact visR hs3 (by decide) h4 | exact visA (.inl hs3) | exact visA (.inr (.inl hs3)) | exact visA (.inr (.inr hs3)) | exact visN hs3)).2]) (fun al4=>?_)
    refine tz [49,45,12,11,10,4,0,2] ?_
    refine tCond (!al4) (fun h5=>?_) (fun h5=>?_)
    ·exact tRet (res:=(SV.tup [])) (post:=([Reg.dead,Reg.dead,Reg.dead,Reg.dead,Reg.dead,Reg.ext Xe (x1_1+1) al4])) (hS:=⟨x1_1+1,al4,(by first | (intro _;rw [hn,hJ1.2.2,show x1_0.toNat=l.length by (simp only [BL] at *;omega)]) | (intro h;subst h;simp at *)),rfl⟩)
    ·exact tNext (L59_0 l cl Xe) (x1_0,x1_1) ((x1_0+(1:Int),x1_1+1)) (by dsimp only [L59_0,L59_0_m];(try simp only [decide_eq_true_eq] at *);omega) (by have hx:=of_decide_eq_true h2;refine ⟨by omega,by omega,?_⟩;first | (rw [vis_skip hJ1.1 (by first | exact visR hs3 (by decide) h4 | exact visA (.inl hs3) | exact visA (.inr (.inl hs3)) | exact visA (.inr (.inr hs3)) | exact visN hs3)];exact hJ1.2.2) | (rw [vis_take hJ1.1 (by first | exact visR hs3 (by decide) h4 | exact visA (.inl hs3) | exact visA (.inr (.inl hs3)) | exact visA (.inr (.inr hs3)) | exact visN hs3),List.length_append,← hJ1.2.2];rfl)) [] [7] [true=al4] (by simp only [Conj];(repeat' apply And.intro)<;>first | trivial | rfl | (intros;rfl) | (intros;trivial) | grind) (vc:=[Fits IntKind.i64 (x1_0+(1:Int))]) (hv:=(by simp only [Conj,Fits,i64_min,i64_max,u8_min,u8_max,News.len,maxLen]<;>(repeat' (first | apply And.intro | intro _))<;>first | grind | (have hx:=of_decide_eq_true h2;have hq1:=hq x1_0.toNat (by omega);omega) | (simp only [BL] at *;omega)))
   ·refine tWk (St.mk 53 (z57_2 x1_0 l) [z57_4 l,z57_3 cl,Reg.ro [C.h 0],Reg.ro [C.h 1],Reg.froz Xe,Reg.ext Xe x1_1 true,z57_1,Reg.box 168 [C.i .u8 6,z57_9 l x1_0,z57_8 l x1_0,z57_10 l x1_0,z57_11 l x1_0,C.b (l.getD x1_0.toNat default).own,z57_12 l x1_0]] []) ?_ [] [8] [(6:Int)=(l.getD x1_0.toNat default).kind] (by simp only [Conj];(repeat' apply And.intro)<;>first | trivial | rfl | (intros;rfl) | (exact Eq.symm (by assumption)) | grind)
    refine tz [6,12,11,10,4,0,2] ?_
    refine tCall e_witness_counts_2 (c_cnt2 (x:=(decide ((6:Int)=(1:Int))||decide ((6:Int)=(2:Int))||decide ((6:Int)=(3:Int)))&&decide ((cl.getD (l.getD x1_0.toNat default).thing.toNat default).kind=(3:Int)))) [] ?_ [0] [((decide ((6:Int)=(1:Int))||decide ((6:Int)=(2:Int))||decide ((6:Int)=(3:Int)))&&decide (z57_5 cl l x1_0))=false] (by (try simp only [Conj])<;>(repeat' apply And.intro)<;>first | done | trivial | rfl | (intros;first | rfl | trivial) | exact snoc_len _ _ | exact List.length_set | exact set_ints _ _ _ | exact take_row _ _ _ _ _ | (exact take_len _ _ _ (by first | omega | (have h0:=askE_ok (by simpa using h1);have hm:=evE_mem h0.1;have hs:=evE_ok h0.1;omega))) | exact MpEq.put (by omega) | (refine MpEq.mk' (by omega) ?_ ?_<;>intro q<;>first | rfl | (dsimp only;split<;>simp_all)) | (exact MpEq.mkIt (by omega) (fun _=>rfl) (fun _=>rfl) rfl rfl (fun _=>rfl)) | (intro i h1 h2;rw [snoc_lo h1 h2]) | (rw [getD_snoc];rfl)) (vc:=[(decide ((6:Int)=(1:Int))||decide ((6:Int)=(2:Int))||decide ((6:Int)=(3:Int)))=true→(0:Int)≤(l.getD x1_0.toNat default).thing,(decide ((6:Int)=(1:Int))||decide ((6:Int)=(2:Int))||decide ((6:Int)=(3:Int)))=true→(l.getD x1_0.toNat default).thing<(↑cl.length:Int),(decide ((6:Int)=(1:Int))||decide ((6:Int)=(2:Int))||decide ((6:Int)=(3:Int)))=true→(l.getD x1_0.toNat default).thing.toNat<cl.length,(0:Int)≤(6:Int),(6:Int)<(8:Int)]) (hv:=(by simp only [Conj,Fits,i64_min,i64_max,u8_min,u8_max,News.len,maxLen]<;>(repeat' (first | apply And.intro | intro _))<;>first | grind | (have hx:=of_decide_eq_true h2;have hq1:=hq x1_0.toNat (by omega);omega) | (simp only [BL] at *;omega)))
    refine tz [44,6,12,11,10,4,0,2] ?_
    refine tYield hy 5 4 x1_1 (z57_7 l x1_0) (by have hx:=of_decide_eq_true h2;rw [hn,hJ1.2.2];exact (vis_here hJ1.1 hx (by first | exact visR hs3 (by decide) h4 | exact visA (.inl hs3) | exact visA (.inr (.inl hs3)) | exact visA (.inr (.inr hs3)) | exact visN hs3)).1) (by have hx:=of_decide_eq_true h2;rw [he];dsimp only;rw [hJ1.2.2,(vis_here hJ1.1 hx (by first | exact visR hs3 (by decide) h4 | exact visA (.inl hs3) | exact visA (.inr (.inl hs3)) | exact visA (.inr (.inr hs3)) | exact visN hs3)).2]) (fun al4=>?_)
    refine tz [49,45,12,11,10,4,0,2] ?_
    refine tCond (!al4) (fun h5=>?_) (fun h5=>?_)
    ·exact tRet (res:=(SV.tup [])) (post:=([Reg.dead,Reg.dead,Reg.dead,Reg.dead,Reg.dead,Reg.ext Xe (x1_1+1) al4])) (hS:=⟨x1_1+1,al4,(by first | (intro _;rw [hn,hJ1.2.2,show x1_0.toNat=l.length by (simp only [BL] at *;omega)]) | (intro h;subst h;simp at *)),rfl⟩)
    ·exact tNext (L59_0 l cl Xe) (x1_0,x1_1) ((x1_0+(1:Int),x1_1+1)) (by dsimp only [L59_0,L59_0_m];(try simp only [decide_eq_true_eq] at *);omega) (by have hx:=of_decide_eq_true h2;refine ⟨by omega,by omega,?_⟩;first | (rw [vis_skip hJ1.1 (by first | exact visR hs3 (by decide) h4 | exact visA (.inl hs3) | exact visA (.inr (.inl hs3)) | exact visA (.inr (.inr hs3)) | exact visN hs3)];exact hJ1.2.2) | (rw [vis_take hJ1.1 (by first | exact visR hs3 (by decide) h4 | exact visA (.inl hs3) | exact visA (.inr (.inl hs3)) | exact visA (.inr (.inr hs3)) | exact visN hs3),List.length_append,← hJ1.2.2];rfl)) [] [7] [true=al4] (by simp only [Conj];(repeat' apply And.intro)<;>first | trivial | rfl | (intros;rfl) | (intros;trivial) | grind) (vc:=[Fits IntKind.i64 (x1_0+(1:Int))]) (hv:=(by simp only [Conj,Fits,i64_min,i64_max,u8_min,u8_max,News.len,maxLen]<;>(repeat' (first | apply And.intro | intro _))<;>first | grind | (have hx:=of_decide_eq_true h2;have hq1:=hq x1_0.toNat (by omega);omega) | (simp only [BL] at *;omega)))
   ·refine tWk (St.mk 53 (z57_2 x1_0 l) [z57_4 l,z57_3 cl,Reg.ro [C.h 0],Reg.ro [C.h 1],Reg.froz Xe,Reg.ext Xe x1_1 true,z57_1,Reg.box 168 [C.i .u8 7,z57_9 l x1_0,z57_8 l x1_0,z57_10 l x1_0,z57_11 l x1_0,C.b (l.getD x1_0.toNat default).own,z57_12 l x1_0]] []) ?_ [] [8] [(7:Int)=(l.getD x1_0.toNat default).kind] (by simp only [Conj];(repeat' apply And.intro)<;>first | trivial | rfl | (intros;rfl) | (exact Eq.symm (by assumption)) | grind)
    refine tz [6,12,11,10,4,0,2] ?_
    refine tCall e_witness_counts_3 (c_cnt3 (x:=(decide ((7:Int)=(1:Int))||decide ((7:Int)=(2:Int))||decide ((7:Int)=(3:Int)))&&decide ((cl.getD (l.getD x1_0.toNat default).thing.toNat default).kind=(3:Int)))) [] ?_ [0] [((decide ((7:Int)=(1:Int))||decide ((7:Int)=(2:Int))||decide ((7:Int)=(3:Int)))&&decide (z57_5 cl l x1_0))=false] (by (try simp only [Conj])<;>(repeat' apply And.intro)<;>first | done | trivial | rfl | (intros;first | rfl | trivial) | exact snoc_len _ _ | exact List.length_set | exact set_ints _ _ _ | exact take_row _ _ _ _ _ | (exact take_len _ _ _ (by first | omega | (have h0:=askE_ok (by simpa using h1);have hm:=evE_mem h0.1;have hs:=evE_ok h0.1;omega))) | exact MpEq.put (by omega) | (refine MpEq.mk' (by omega) ?_ ?_<;>intro q<;>first | rfl | (dsimp only;split<;>simp_all)) | (exact MpEq.mkIt (by omega) (fun _=>rfl) (fun _=>rfl) rfl rfl (fun _=>rfl)) | (intro i h1 h2;rw [snoc_lo h1 h2]) | (rw [getD_snoc];rfl)) (vc:=[(decide ((7:Int)=(1:Int))||decide ((7:Int)=(2:Int))||decide ((7:Int)=(3:Int)))=true→(0:Int)≤(l.getD x1_0.toNat default).thing,(decide ((7:Int)=(1:Int))||decide ((7:Int)=(2:Int))||decide ((7:Int)=(3:Int)))=true→(l.getD x1_0.toNat default).thing<(↑cl.length:Int),(decide ((7:Int)=(1:Int))||decide ((7:Int)=(2:Int))||decide ((7:Int)=(3:Int)))=true→(l.getD x1_0.toNat default).thing.toNat<cl.length,(0:Int)≤(7:Int),(7:Int)<(8:Int)]) (hv:=(by simp only [Conj,Fits,i64_min,i64_max,u8_min,u8_max,News.len,maxLen]<;>(repeat' (first | apply And.intro | intro _))<;>first | grind | (have hx:=of_decide_eq_true h2;have hq1:=hq x1_0.toNat (by omega);omega) | (simp only [BL] at *;omega)))
    exact tNext (L59_0 l cl Xe) (x1_0,x1_1) ((x1_0+(1:Int),x1_1)) (by dsimp only [L59_0,L59_0_m];(try simp only [decide_eq_true_eq] at *);omega) (by have hx:=of_decide_eq_true h2;refine ⟨by omega,by omega,?_⟩;first | (rw [vis_skip hJ1.1 (by first | exact visR hs3 (by decide) h4 | exact visA (.inl hs3) | exact visA (.inr (.inl hs3)) | exact visA (.inr (.inr hs3)) | exact visN hs3)];exact hJ1.2.2) | (rw [vis_take hJ1.1 (by first | exact visR hs3 (by decide) h4 | exact visA (.inl hs3) | exact visA (.inr (.inl hs3)) | exact visA (.inr (.inr hs3)) | exact visN hs3),List.length_append,← hJ1.2.2];rfl)) (vc:=[Fits IntKind.i64 (x1_0+(1:Int))]) (hv:=(by simp only [Conj,Fits,i64_min,i64_max,u8_min,u8_max,News.len,maxLen]<;>(repeat' (first | apply And.intro | intro _))<;>first | grind | (have hx:=of_decide_eq_true h2;have hq1:=hq x1_0.toNat (by omega);omega) | (simp only [BL] at *;omega)))
 ·exact tFin (res:=(SV.tup [])) (post:=([Reg.dead,Reg.dead,Reg.dead,Reg.dead,Reg.dead,Reg.ext Xe x1_1 true])) (hS:=⟨x1_1,true,(by first | (intro _;rw [hn,hJ1.2.2,show x1_0.toNat=l.length by (simp only [BL] at *;omega)]) | (intro h;subst h;simp at *)),rfl⟩)
end Go.Proofs.Ytmjjikcappbkeaa
end
noncomputable section
namespace Go.Proofs.Ytmjjikcappbkeaa
open Go Go.Tx
theorem c_always (k:Int):Ctr Try.prog 120 [] [.c (.i .u8 k)]
 (Det (.c (C.fn 130 false [0])) [Reg.box 166 [.i .u8 k]]):=by
 refine Ctr.intro [] Try.func120 K K ?_
 exact tRet
theorem c_on (k:Int):Ctr Try.prog 121 [] [.c (.i .u8 k)]
 (Det (.c (C.fn 131 false [0])) [Reg.box 166 [.i .u8 k]]):=by
 refine Ctr.intro [] Try.func121 K K ?_
 exact tRet
theorem c_always1 (w k:Int) (d:Did):Ctr Try.prog 130 [.ro [.i .u8 k]] [.c (.i .i64 w),.agg d.cs,.c (.p 0 0)]
 (Det (.c (.i .u8 k)) [.dead]):=by
 refine Ctr.intro [] Try.func130 K K ?_
 exact tRet
def onK (w k:Int):Int:=if w=1 then k else 0
def drK (w:Int) (d:Did):Int:=if w=2&&decide (d.word=0) then 5 else onK w 2
def swK (w:Int) (d:Did):Int:=if w=2&&decide (d.word=0)&&!decide (d.put=0) then 4 else onK w 3
theorem c_on1 (w k:Int) (d:Did):Ctr Try.prog 131 [.ro [.i .u8 k]] [.c (.i .i64 w),.agg d.cs,.c (.p 0 0)]
 (Det (.c (.i .u8 (onK w k))) [.dead]):=by
 refine Ctr.intro [] Try.func131 K K ?_
 refine tCond (decide (w=(1:Int))) (fun h1=>?_) (fun h1=>?_)
 ·exact tRet [] [0] [onK w k=k] (by simp only [Conj,onK] at *<;>grind)
 ·exact tRet [] [0] [onK w k=(0:Int)] (by simp only [Conj,onK] at *<;>grind)
theorem c_swapped (w:Int) (d:Did):Ctr Try.prog 122 [] [.c (.i .i64 w),.agg d.cs]
 (Det (.c (.i .u8 (swK w d))) []):=by
 refine Ctr.intro [] Try.func122 K K ?_
 refine tCond (decide (w=(2:Int))&&decide (d.word=(0:Int))&&!decide (d.put=(0:Int))) (fun h1=>?_) (fun h1=>?_)
 ·exact tRet [] [0] [swK w d=(4:Int)] (by simp only [Conj,swK,onK] at *<;>grind)
 ·refine tz [4,3,0] ?_
  refine tCall e_trace_on (c_on (k:=(3:Int))) [] ?_
  refine tz [17,19,18,4,3,0] ?_
  refine tCall e_trace_on_1 (c_on1 (w:=w) (k:=(3:Int)) (d:=d)) [1] ?_
  exact tRet [] [0] [swK w d=onK w (3:Int)] (by simp only [Conj,swK,onK] at *<;>grind)
theorem c_drained (w:Int) (d:Did):Ctr Try.prog 123 [] [.c (.i .i64 w),.agg d.cs]
 (Det (.c (.i .u8 (drK w d))) []):=by
 refine Ctr.intro [] Try.func123 K K ?_
 refine tCond (decide (w=(2:Int))&&decide (d.word=(0:Int))) (fun h1=>?_) (fun h1=>?_)
 ·exact tRet [] [0] [drK w d=(5:Int)] (by simp only [Conj,drK,onK] at *<;>grind)
 ·refine tz [4,3,0] ?_
  refine tCall e_trace_on (c_on (k:=(2:Int))) [] ?_
  refine tz [12,14,13,4,3,0] ?_
  refine tCall e_trace_on_1 (c_on1 (w:=w) (k:=(2:Int)) (d:=d)) [1] ?_
  exact tRet [] [0] [drK w d=onK w (2:Int)] (by simp only [Conj,drK,onK] at *<;>grind)
theorem c_formsT :Ctr Try.prog 89 [] []
 (Det (.agg ([.v (.string { data:=#[] }),.t false,.t false,.t false,.t false,.v Value.nilFunc]++[.v (.string { data:=#[99,111,109,112,117,116,101] }),.t false,.t false,.t false,.t false,C.fn 130 false [0]]++[.v (.string { data:=#[108,111,97,100] }),.t true,.t true,.t false,.t true,C.fn 131 false [1]]++[.v (.string { data:=#[115,116,111,114,101] }),.t true,.t true,.t false,.t false,C.fn 130 false [0]]++[.v (.string { data:=#[115,119,97,112] }),.t true,.t true,.t true,.t false,C.fn 122 false []]++[.v (.string { data:=#[102,101,110,99,101] }),.t false,.t false,.t false,.t false,C.fn 130 false [0]]++[.v (.string { data:=#[112,114,105,110,116] }),.t false,.t true,.t false,.t false,C.fn 130 false [2]]++[.v (.string { data:=#[104,97,108,116] }),.t false,.t false,.t false,.t false,C.fn 130 false [3]]++[.v (.string { data:=#[100,114,97,105,110] }),.t true,.t true,.t false,.t false,C.fn 123 false []])) [Reg.box 166 [.i .u8 0],Reg.box 166 [.i .u8 1],Reg.box 166 [.i .u8 6],Reg.box 166 [.i .u8 7]]):=by
 refine Ctr.intro [] Try.func89 K K ?_
 refine tCall e_trace_always (c_always (k:=(0:Int))) [] ?_
 refine tz [2,0] ?_
 refine tCall e_trace_on (c_on (k:=(1:Int))) [] ?_
 refine tz [5,4,1,0] ?_
 refine tCall e_trace_always (c_always (k:=(6:Int))) [] ?_
 refine tz [12,11,9,8,6,4,0] ?_
 refine tCall e_trace_always (c_always (k:=(7:Int))) [] ?_
 exact tRet [1,2,3,4]
abbrev z12_1:=Reg.box 195 [C.v (Value.string (ByteArray.mk #[])),C.t false,C.t false,C.t false,C.t false,C.v Value.nilFunc]
abbrev z12_2:=[En.mk 4 [] (SV.c (C.p 6 0)),En.mk 3 [] (SV.c (C.t false)),En.mk 2 [] (SV.c (C.p 1 0)),En.mk 1 [] (SV.c (C.p 0 0))]
abbrev z12_3:=Reg.box 195 [C.v (Value.string (ByteArray.mk #[(99:UInt8),(111:UInt8),(109:UInt8),(112:UInt8),(117:UInt8),(116:UInt8),(101:UInt8)])),C.t false,C.t false,C.t false,C.t false,C.fn 130 false [2]]
abbrev z12_4 (d:Did):=[En.mk 3 [] (SV.c (C.b (didB d))),En.mk 2 [] (SV.c (C.p 1 0))]
abbrev z12_11:=Reg.box 166 [C.i .u8 0]
abbrev z12_12 (d:Did):=[didB d=(decide ((0:Int)≤d.core)&&decide (d.core<(8:Int))&&decide ((0:Int)≤d.pc)&&decide (d.pc<(16384:Int))&&decide ((0:Int)≤d.addr)&&decide (d.addr<(4096:Int))&&decide (d.addr=(0:Int))&&decide (d.word=(0:Int))&&decide (d.put=(0:Int))&&!d.own)]
abbrev z12_14 (d:Did):=(decide ((0:Int)≤d.core)&&decide (d.core<(8:Int))&&decide ((0:Int)≤d.pc)&&decide (d.pc<(16384:Int))&&decide ((0:Int)≤d.addr)&&decide (d.addr<(4096:Int))&&decide (d.addr=(0:Int))&&decide (d.word=(0:Int))&&decide (d.put=(0:Int)))
abbrev z12_19 (d:Did):=St.mk 85 z12_2 [Reg.box 66 [C.i .u8 1,C.i .i64 d.core,C.i .i64 d.pc,C.i .i64 d.addr,C.i .i64 d.word,C.i .i64 d.put,C.b d.own],z12_1,z12_11,Reg.dead,Reg.dead,Reg.dead,z12_3] []
abbrev z12_27 (d:Did):=St.mk 85 (z12_4 d) [Reg.dead,z12_3,z12_11,Reg.dead,Reg.dead,Reg.dead,Reg.dead] []
theorem c_formOf1 (d:Did) (hk:d.kind=1):Ctr Try.prog 87 [] [.agg [.i .u8 1,.i .i64 d.core,.i .i64 d.pc,.i .i64 d.addr,.i .i64 d.word,.i .i64 d.put,.b d.own]]
 (Det (.tup [(true,[.v (.string { data:=#[99,111,109,112,117,116,101] }),.t false,.t false,.t false,.t false,C.fn 130 false [0]]),(false,[.b (didB d)])]) [.dead,.dead,.dead,.dead]):=by
 refine Ctr.intro [] Try.func87 K K ?_
 refine tCond (decide ((1:Int)≤(0:Int))||decide ((9:Int)≤(1:Int))) (fun h1=>?_) (fun h1=>?_)
 ·exact absurd h1 (by decide)
 ·refine tz [3,2,1] ?_
  refine tAny 2 (fun _:Unit=>z12_19 d) (fun _=>True) ?_ ?_
  ·refine ⟨⟨trivial,?_⟩,?_⟩
   ·refine tCall e_trace_forms (c_formsT) [] ?_
    exact tTo (fun x=>z12_19 d) (fun x=>True) () trivial (vc:=[(0:Int)≤(1:Int),(1:Int)<(9:Int)]) (hv:=(by simp only [Conj,Fits,i64_min,i64_max,u8_min,u8_max,News.len,maxLen]<;>(repeat' (first | apply And.intro | intro _))<;>first | grind | (simp only [BL] at *;omega)))
   ·refine tCall e_trace_forms (c_formsT) [] ?_
    exact tTo (fun x=>z12_19 d) (fun x=>True) () trivial [0,1,3,1000003,4,5,2] (vc:=[(0:Int)≤(1:Int),(1:Int)<(9:Int)]) (hv:=(by simp only [Conj,Fits,i64_min,i64_max,u8_min,u8_max,News.len,maxLen]<;>(repeat' (first | apply And.intro | intro _))<;>first | grind | (simp only [BL] at *;omega)))
  ·rintro ⟨⟩ _
   refine tz [4,3,2,1] ?_
   refine tAny 2 (fun _:Unit=>z12_27 d) (fun _=>True) ?_ ?_
   ·refine ⟨⟨trivial,?_⟩,?_⟩
    ·refine tCond (z12_14 d) (fun h2=>?_) (fun h2=>?_)
     ·exact tTo (fun x=>z12_27 d) (fun x=>True) () trivial [] [2] [didB d=!d.own] (by simp only [Conj];(repeat' apply And.intro)<;>first | trivial | rfl | (intros;rfl) | (simp only [didB,addrB,hk,BL] at *;first | grind | (simp;omega) | (apply Bool.eq_iff_iff.2;simp;omega)))
     ·exact tTo (fun x=>z12_27 d) (fun x=>True) () trivial [] [2] [didB d=false] (by simp only [Conj];(repeat' apply And.intro)<;>first | trivial | rfl | (intros;rfl) | (simp only [didB,addrB,hk,BL] at *;first | grind | (simp;omega) | (apply Bool.eq_iff_iff.2;simp;omega)))
    ·exact tTo (fun x=>z12_27 d) (fun x=>True) () trivial [] [2] (z12_12 d) (by simp only [Conj];(repeat' apply And.intro)<;>first | trivial | rfl | (intros;rfl) | (simp only [didB,addrB,hk,BL] at *;first | grind | (simp;omega) | (apply Bool.eq_iff_iff.2;simp;omega)))
   ·rintro ⟨⟩ _
    exact tRet [2,1,1000002,3]
abbrev z12_13 (d:Did):=St.mk 85 z12_2 [Reg.box 66 [C.i .u8 2,C.i .i64 d.core,C.i .i64 d.pc,C.i .i64 d.addr,C.i .i64 d.word,C.i .i64 d.put,C.b d.own],z12_1,Reg.dead,Reg.box 166 [C.i .u8 1],Reg.dead,Reg.dead,Reg.box 195 [C.v (Value.string (ByteArray.mk #[(108:UInt8),(111:UInt8),(97:UInt8),(100:UInt8)])),C.t true,C.t true,C.t false,C.t true,C.fn 131 false [3]]] []
theorem c_formOf2 (d:Did) (hk:d.kind=2):Ctr Try.prog 87 [] [.agg [.i .u8 2,.i .i64 d.core,.i .i64 d.pc,.i .i64 d.addr,.i .i64 d.word,.i .i64 d.put,.b d.own]]
 (Det (.tup [(true,[.v (.string { data:=#[108,111,97,100] }),.t true,.t true,.t false,.t true,C.fn 131 false [1]]),(false,[.b (didB d)])]) [.dead,.dead,.dead,.dead]):=by
 refine Ctr.intro [] Try.func87 K K ?_
 refine tCond (decide ((2:Int)≤(0:Int))||decide ((9:Int)≤(2:Int))) (fun h1=>?_) (fun h1=>?_)
 ·exact absurd h1 (by decide)
 ·refine tz [3,2,1] ?_
  refine tAny 2 (fun _:Unit=>z12_13 d) (fun _=>True) ?_ ?_
  ·refine ⟨⟨trivial,?_⟩,?_⟩
   ·refine tCall e_trace_forms (c_formsT) [] ?_
    exact tTo (fun x=>z12_13 d) (fun x=>True) () trivial (vc:=[(0:Int)≤(2:Int),(2:Int)<(9:Int)]) (hv:=(by simp only [Conj,Fits,i64_min,i64_max,u8_min,u8_max,News.len,maxLen]<;>(repeat' (first | apply And.intro | intro _))<;>first | grind | (simp only [BL] at *;omega)))
   ·refine tCall e_trace_forms (c_formsT) [] ?_
    exact tTo (fun x=>z12_13 d) (fun x=>True) () trivial [0,1,1000002,4,1000004,5,2] (vc:=[(0:Int)≤(2:Int),(2:Int)<(9:Int)]) (hv:=(by simp only [Conj,Fits,i64_min,i64_max,u8_min,u8_max,News.len,maxLen]<;>(repeat' (first | apply And.intro | intro _))<;>first | grind | (simp only [BL] at *;omega)))
  ·rintro ⟨⟩ _
   exact tRet [0,3,2,1000003] [1] [didB d=(decide ((0:Int)≤d.core)&&decide (d.core<(8:Int))&&decide ((0:Int)≤d.pc)&&decide (d.pc<(16384:Int))&&decide ((0:Int)≤d.addr)&&decide (d.addr<(4096:Int))&&true&&true&&decide (d.put=(0:Int))&&true)] (by simp only [Conj,didB,addrB] at *<;>grind)
abbrev z12_7:=Reg.box 195 [C.v (Value.string (ByteArray.mk #[(115:UInt8),(116:UInt8),(111:UInt8),(114:UInt8),(101:UInt8)])),C.t true,C.t true,C.t false,C.t false,C.fn 130 false [2]]
abbrev z12_20 (d:Did):=St.mk 85 z12_2 [Reg.box 66 [C.i .u8 3,C.i .i64 d.core,C.i .i64 d.pc,C.i .i64 d.addr,C.i .i64 d.word,C.i .i64 d.put,C.b d.own],z12_1,z12_11,Reg.dead,Reg.dead,Reg.dead,z12_7] []
abbrev z12_24 (d:Did):=[didB d=(decide ((0:Int)≤d.core)&&decide (d.core<(8:Int))&&decide ((0:Int)≤d.pc)&&decide (d.pc<(16384:Int))&&decide ((0:Int)≤d.addr)&&decide (d.addr<(4096:Int))&&true&&true&&decide (d.put=(0:Int))&&!d.own)]
abbrev z12_28 (d:Did):=St.mk 85 (z12_4 d) [Reg.dead,z12_7,z12_11,Reg.dead,Reg.dead,Reg.dead,Reg.dead] []
abbrev z12_30 (d:Did):=(decide ((0:Int)≤d.core)&&decide (d.core<(8:Int))&&decide ((0:Int)≤d.pc)&&decide (d.pc<(16384:Int))&&decide ((0:Int)≤d.addr)&&decide (d.addr<(4096:Int))&&true&&true&&decide (d.put=(0:Int)))
theorem c_formOf3 (d:Did) (hk:d.kind=3):Ctr Try.prog 87 [] [.agg [.i .u8 3,.i .i64 d.core,.i .i64 d.pc,.i .i64 d.addr,.i .i64 d.word,.i .i64 d.put,.b d.own]]
 (Det (.tup [(true,[.v (.string { data:=#[115,116,111,114,101] }),.t true,.t true,.t false,.t false,C.fn 130 false [0]]),(false,[.b (didB d)])]) [.dead,.dead,.dead,.dead]):=by
 refine Ctr.intro [] Try.func87 K K ?_
 refine tCond (decide ((3:Int)≤(0:Int))||decide ((9:Int)≤(3:Int))) (fun h1=>?_) (fun h1=>?_)
 ·exact absurd h1 (by decide)
 ·refine tz [3,2,1] ?_
  refine tAny 2 (fun _:Unit=>z12_20 d) (fun _=>True) ?_ ?_
  ·refine ⟨⟨trivial,?_⟩,?_⟩
   ·refine tCall e_trace_forms (c_formsT) [] ?_
    exact tTo (fun x=>z12_20 d) (fun x=>True) () trivial (vc:=[(0:Int)≤(3:Int),(3:Int)<(9:Int)]) (hv:=(by simp only [Conj,Fits,i64_min,i64_max,u8_min,u8_max,News.len,maxLen]<;>(repeat' (first | apply And.intro | intro _))<;>first | grind | (simp only [BL] at *;omega)))
   ·refine tCall e_trace_forms (c_formsT) [] ?_
    exact tTo (fun x=>z12_20 d) (fun x=>True) () trivial [0,1,3,1000003,4,5,2] (vc:=[(0:Int)≤(3:Int),(3:Int)<(9:Int)]) (hv:=(by simp only [Conj,Fits,i64_min,i64_max,u8_min,u8_max,News.len,maxLen]<;>(repeat' (first | apply And.intro | intro _))<;>first | grind | (simp only [BL] at *;omega)))
  ·rintro ⟨⟩ _
   refine tz [4,3,2,1] ?_
   refine tAny 2 (fun _:Unit=>z12_28 d) (fun _=>True) ?_ ?_
   ·refine ⟨⟨trivial,?_⟩,?_⟩
    ·refine tCond (z12_30 d) (fun h2=>?_) (fun h2=>?_)
     ·exact tTo (fun x=>z12_28 d) (fun x=>True) () trivial [] [2] [didB d=!d.own] (by simp only [Conj];(repeat' apply And.intro)<;>first | trivial | rfl | (intros;rfl) | (simp only [didB,addrB,hk,BL] at *;first | grind | (simp;omega) | (apply Bool.eq_iff_iff.2;simp;omega)))
     ·exact tTo (fun x=>z12_28 d) (fun x=>True) () trivial [] [2] [didB d=false] (by simp only [Conj];(repeat' apply And.intro)<;>first | trivial | rfl | (intros;rfl) | (simp only [didB,addrB,hk,BL] at *;first | grind | (simp;omega) | (apply Bool.eq_iff_iff.2;simp;omega)))
    ·exact tTo (fun x=>z12_28 d) (fun x=>True) () trivial [] [2] (z12_24 d) (by simp only [Conj];(repeat' apply And.intro)<;>first | trivial | rfl | (intros;rfl) | (simp only [didB,addrB,hk,BL] at *;first | grind | (simp;omega) | (apply Bool.eq_iff_iff.2;simp;omega)))
   ·rintro ⟨⟩ _
    exact tRet [2,1,1000002,3]
abbrev z12_10:=Reg.box 195 [C.v (Value.string (ByteArray.mk #[(115:UInt8),(119:UInt8),(97:UInt8),(112:UInt8)])),C.t true,C.t true,C.t true,C.t false,C.fn 122 false []]
abbrev z12_17 (d:Did):=St.mk 85 z12_2 [Reg.box 66 [C.i .u8 4,C.i .i64 d.core,C.i .i64 d.pc,C.i .i64 d.addr,C.i .i64 d.word,C.i .i64 d.put,C.b d.own],z12_1,Reg.dead,Reg.dead,Reg.dead,Reg.dead,z12_10] []
abbrev z12_25 (d:Did):=St.mk 85 (z12_4 d) [Reg.dead,z12_10,Reg.dead,Reg.dead,Reg.dead,Reg.dead,Reg.dead] []
theorem c_formOf4 (d:Did) (hk:d.kind=4):Ctr Try.prog 87 [] [.agg [.i .u8 4,.i .i64 d.core,.i .i64 d.pc,.i .i64 d.addr,.i .i64 d.word,.i .i64 d.put,.b d.own]]
 (Det (.tup [(true,[.v (.string { data:=#[115,119,97,112] }),.t true,.t true,.t true,.t false,C.fn 122 false []]),(false,[.b (didB d)])]) [.dead,.dead,.dead,.dead]):=by
 refine Ctr.intro [] Try.func87 K K ?_
 refine tCond (decide ((4:Int)≤(0:Int))||decide ((9:Int)≤(4:Int))) (fun h1=>?_) (fun h1=>?_)
 ·exact absurd h1 (by decide)
 ·refine tz [3,2,1] ?_
  refine tAny 2 (fun _:Unit=>z12_17 d) (fun _=>True) ?_ ?_
  ·refine ⟨⟨trivial,?_⟩,?_⟩
   ·refine tCall e_trace_forms (c_formsT) [] ?_
    exact tTo (fun x=>z12_17 d) (fun x=>True) () trivial (vc:=[(0:Int)≤(4:Int),(4:Int)<(9:Int)]) (hv:=(by simp only [Conj,Fits,i64_min,i64_max,u8_min,u8_max,News.len,maxLen]<;>(repeat' (first | apply And.intro | intro _))<;>first | grind | (simp only [BL] at *;omega)))
   ·refine tCall e_trace_forms (c_formsT) [] ?_
    exact tTo (fun x=>z12_17 d) (fun x=>True) () trivial [0,1,1000002,3,4,5,2] (vc:=[(0:Int)≤(4:Int),(4:Int)<(9:Int)]) (hv:=(by simp only [Conj,Fits,i64_min,i64_max,u8_min,u8_max,News.len,maxLen]<;>(repeat' (first | apply And.intro | intro _))<;>first | grind | (simp only [BL] at *;omega)))
  ·rintro ⟨⟩ _
   refine tz [4,3,2,1] ?_
   refine tAny 2 (fun _:Unit=>z12_25 d) (fun _=>True) ?_ ?_
   ·refine ⟨⟨trivial,?_⟩,?_⟩
    ·refine tCond (decide ((0:Int)≤d.core)&&decide (d.core<(8:Int))&&decide ((0:Int)≤d.pc)&&decide (d.pc<(16384:Int))&&decide ((0:Int)≤d.addr)&&decide (d.addr<(4096:Int))&&true&&true&&true) (fun h2=>?_) (fun h2=>?_)
     ·exact tTo (fun x=>z12_25 d) (fun x=>True) () trivial [] [1] [didB d=!d.own] (by simp only [Conj];(repeat' apply And.intro)<;>first | trivial | rfl | (intros;rfl) | (simp only [didB,addrB,hk,BL] at *;first | grind | (simp;omega) | (apply Bool.eq_iff_iff.2;simp;omega)))
     ·exact tTo (fun x=>z12_25 d) (fun x=>True) () trivial [] [1] [didB d=false] (by simp only [Conj];(repeat' apply And.intro)<;>first | trivial | rfl | (intros;rfl) | (simp only [didB,addrB,hk,BL] at *;first | grind | (simp;omega) | (apply Bool.eq_iff_iff.2;simp;omega)))
    ·exact tTo (fun x=>z12_25 d) (fun x=>True) () trivial [] [1] [didB d=(decide ((0:Int)≤d.core)&&decide (d.core<(8:Int))&&decide ((0:Int)≤d.pc)&&decide (d.pc<(16384:Int))&&decide ((0:Int)≤d.addr)&&decide (d.addr<(4096:Int))&&true&&true&&true&&!d.own)] (by simp only [Conj];(repeat' apply And.intro)<;>first | trivial | rfl | (intros;rfl) | (simp only [didB,addrB,hk,BL] at *;first | grind | (simp;omega) | (apply Bool.eq_iff_iff.2;simp;omega)))
   ·rintro ⟨⟩ _
    exact tRet
abbrev z12_5:=Reg.box 195 [C.v (Value.string (ByteArray.mk #[(102:UInt8),(101:UInt8),(110:UInt8),(99:UInt8),(101:UInt8)])),C.t false,C.t false,C.t false,C.t false,C.fn 130 false [2]]
abbrev z12_21 (d:Did):=St.mk 85 z12_2 [Reg.box 66 [C.i .u8 5,C.i .i64 d.core,C.i .i64 d.pc,C.i .i64 d.addr,C.i .i64 d.word,C.i .i64 d.put,C.b d.own],z12_1,z12_11,Reg.dead,Reg.dead,Reg.dead,z12_5] []
abbrev z12_29 (d:Did):=St.mk 85 (z12_4 d) [Reg.dead,z12_5,z12_11,Reg.dead,Reg.dead,Reg.dead,Reg.dead] []
theorem c_formOf5 (d:Did) (hk:d.kind=5):Ctr Try.prog 87 [] [.agg [.i .u8 5,.i .i64 d.core,.i .i64 d.pc,.i .i64 d.addr,.i .i64 d.word,.i .i64 d.put,.b d.own]]
 (Det (.tup [(true,[.v (.string { data:=#[102,101,110,99,101] }),.t false,.t false,.t false,.t false,C.fn 130 false [0]]),(false,[.b (didB d)])]) [.dead,.dead,.dead,.dead]):=by
 refine Ctr.intro [] Try.func87 K K ?_
 refine tCond (decide ((5:Int)≤(0:Int))||decide ((9:Int)≤(5:Int))) (fun h1=>?_) (fun h1=>?_)
 ·exact absurd h1 (by decide)
 ·refine tz [3,2,1] ?_
  refine tAny 2 (fun _:Unit=>z12_21 d) (fun _=>True) ?_ ?_
  ·refine ⟨⟨trivial,?_⟩,?_⟩
   ·refine tCall e_trace_forms (c_formsT) [] ?_
    exact tTo (fun x=>z12_21 d) (fun x=>True) () trivial (vc:=[(0:Int)≤(5:Int),(5:Int)<(9:Int)]) (hv:=(by simp only [Conj,Fits,i64_min,i64_max,u8_min,u8_max,News.len,maxLen]<;>(repeat' (first | apply And.intro | intro _))<;>first | grind | (simp only [BL] at *;omega)))
   ·refine tCall e_trace_forms (c_formsT) [] ?_
    exact tTo (fun x=>z12_21 d) (fun x=>True) () trivial [0,1,3,1000003,4,5,2] (vc:=[(0:Int)≤(5:Int),(5:Int)<(9:Int)]) (hv:=(by simp only [Conj,Fits,i64_min,i64_max,u8_min,u8_max,News.len,maxLen]<;>(repeat' (first | apply And.intro | intro _))<;>first | grind | (simp only [BL] at *;omega)))
  ·rintro ⟨⟩ _
   refine tz [4,3,2,1] ?_
   refine tAny 2 (fun _:Unit=>z12_29 d) (fun _=>True) ?_ ?_
   ·refine ⟨⟨trivial,?_⟩,?_⟩
    ·refine tCond (z12_14 d) (fun h2=>?_) (fun h2=>?_)
     ·exact tTo (fun x=>z12_29 d) (fun x=>True) () trivial [] [2] [didB d=!d.own] (by simp only [Conj];(repeat' apply And.intro)<;>first | trivial | rfl | (intros;rfl) | (simp only [didB,addrB,hk,BL] at *;first | grind | (simp;omega) | (apply Bool.eq_iff_iff.2;simp;omega)))
     ·exact tTo (fun x=>z12_29 d) (fun x=>True) () trivial [] [2] [didB d=false] (by simp only [Conj];(repeat' apply And.intro)<;>first | trivial | rfl | (intros;rfl) | (simp only [didB,addrB,hk,BL] at *;first | grind | (simp;omega) | (apply Bool.eq_iff_iff.2;simp;omega)))
    ·exact tTo (fun x=>z12_29 d) (fun x=>True) () trivial [] [2] (z12_12 d) (by simp only [Conj];(repeat' apply And.intro)<;>first | trivial | rfl | (intros;rfl) | (simp only [didB,addrB,hk,BL] at *;first | grind | (simp;omega) | (apply Bool.eq_iff_iff.2;simp;omega)))
   ·rintro ⟨⟩ _
    exact tRet [2,1,1000002,3]
abbrev z12_6:=Reg.box 195 [C.v (Value.string (ByteArray.mk #[(112:UInt8),(114:UInt8),(105:UInt8),(110:UInt8),(116:UInt8)])),C.t false,C.t true,C.t false,C.t false,C.fn 130 false [4]]
abbrev z12_15 (d:Did):=St.mk 85 z12_2 [Reg.box 66 [C.i .u8 6,C.i .i64 d.core,C.i .i64 d.pc,C.i .i64 d.addr,C.i .i64 d.word,C.i .i64 d.put,C.b d.own],z12_1,Reg.dead,Reg.dead,Reg.box 166 [C.i .u8 6],Reg.dead,z12_6] []
abbrev z12_22 (d:Did):=St.mk 85 (z12_4 d) [Reg.dead,z12_6,Reg.dead,Reg.dead,Reg.box 166 [C.i .u8 6],Reg.dead,Reg.dead] []
theorem c_formOf6 (d:Did) (hk:d.kind=6):Ctr Try.prog 87 [] [.agg [.i .u8 6,.i .i64 d.core,.i .i64 d.pc,.i .i64 d.addr,.i .i64 d.word,.i .i64 d.put,.b d.own]]
 (Det (.tup [(true,[.v (.string { data:=#[112,114,105,110,116] }),.t false,.t true,.t false,.t false,C.fn 130 false [2]]),(false,[.b (didB d)])]) [.dead,.dead,.dead,.dead]):=by
 refine Ctr.intro [] Try.func87 K K ?_
 refine tCond (decide ((6:Int)≤(0:Int))||decide ((9:Int)≤(6:Int))) (fun h1=>?_) (fun h1=>?_)
 ·exact absurd h1 (by decide)
 ·refine tz [3,2,1] ?_
  refine tAny 2 (fun _:Unit=>z12_15 d) (fun _=>True) ?_ ?_
  ·refine ⟨⟨trivial,?_⟩,?_⟩
   ·refine tCall e_trace_forms (c_formsT) [] ?_
    exact tTo (fun x=>z12_15 d) (fun x=>True) () trivial (vc:=[(0:Int)≤(6:Int),(6:Int)<(9:Int)]) (hv:=(by simp only [Conj,Fits,i64_min,i64_max,u8_min,u8_max,News.len,maxLen]<;>(repeat' (first | apply And.intro | intro _))<;>first | grind | (simp only [BL] at *;omega)))
   ·refine tCall e_trace_forms (c_formsT) [] ?_
    exact tTo (fun x=>z12_15 d) (fun x=>True) () trivial [0,1,1000002,3,5,1000005,2] (vc:=[(0:Int)≤(6:Int),(6:Int)<(9:Int)]) (hv:=(by simp only [Conj,Fits,i64_min,i64_max,u8_min,u8_max,News.len,maxLen]<;>(repeat' (first | apply And.intro | intro _))<;>first | grind | (simp only [BL] at *;omega)))
  ·rintro ⟨⟩ _
   refine tz [4,3,2,1] ?_
   refine tAny 2 (fun _:Unit=>z12_22 d) (fun _=>True) ?_ ?_
   ·refine ⟨⟨trivial,?_⟩,?_⟩
    ·refine tCond (decide ((0:Int)≤d.core)&&decide (d.core<(8:Int))&&decide ((0:Int)≤d.pc)&&decide (d.pc<(16384:Int))&&decide ((0:Int)≤d.addr)&&decide (d.addr<(4096:Int))&&decide (d.addr=(0:Int))&&true&&decide (d.put=(0:Int))) (fun h2=>?_) (fun h2=>?_)
     ·exact tTo (fun x=>z12_22 d) (fun x=>True) () trivial [] [2] [didB d=!d.own] (by simp only [Conj];(repeat' apply And.intro)<;>first | trivial | rfl | (intros;rfl) | (simp only [didB,addrB,hk,BL] at *;first | grind | (simp;omega) | (apply Bool.eq_iff_iff.2;simp;omega)))
     ·exact tTo (fun x=>z12_22 d) (fun x=>True) () trivial [] [2] [didB d=false] (by simp only [Conj];(repeat' apply And.intro)<;>first | trivial | rfl | (intros;rfl) | (simp only [didB,addrB,hk,BL] at *;first | grind | (simp;omega) | (apply Bool.eq_iff_iff.2;simp;omega)))
    ·exact tTo (fun x=>z12_22 d) (fun x=>True) () trivial [] [2] [didB d=(decide ((0:Int)≤d.core)&&decide (d.core<(8:Int))&&decide ((0:Int)≤d.pc)&&decide (d.pc<(16384:Int))&&decide ((0:Int)≤d.addr)&&decide (d.addr<(4096:Int))&&decide (d.addr=(0:Int))&&true&&decide (d.put=(0:Int))&&!d.own)] (by simp only [Conj];(repeat' apply And.intro)<;>first | trivial | rfl | (intros;rfl) | (simp only [didB,addrB,hk,BL] at *;first | grind | (simp;omega) | (apply Bool.eq_iff_iff.2;simp;omega)))
   ·rintro ⟨⟩ _
    exact tRet [0,1,4,3]
abbrev z12_9:=Reg.box 195 [C.v (Value.string (ByteArray.mk #[(104:UInt8),(97:UInt8),(108:UInt8),(116:UInt8)])),C.t false,C.t false,C.t false,C.t false,C.fn 130 false [5]]
abbrev z12_16 (d:Did):=St.mk 85 z12_2 [Reg.box 66 [C.i .u8 7,C.i .i64 d.core,C.i .i64 d.pc,C.i .i64 d.addr,C.i .i64 d.word,C.i .i64 d.put,C.b d.own],z12_1,Reg.dead,Reg.dead,Reg.dead,Reg.box 166 [C.i .u8 7],z12_9] []
abbrev z12_23 (d:Did):=St.mk 85 (z12_4 d) [Reg.dead,z12_9,Reg.dead,Reg.dead,Reg.dead,Reg.box 166 [C.i .u8 7],Reg.dead] []
theorem c_formOf7 (d:Did) (hk:d.kind=7):Ctr Try.prog 87 [] [.agg [.i .u8 7,.i .i64 d.core,.i .i64 d.pc,.i .i64 d.addr,.i .i64 d.word,.i .i64 d.put,.b d.own]]
 (Det (.tup [(true,[.v (.string { data:=#[104,97,108,116] }),.t false,.t false,.t false,.t false,C.fn 130 false [3]]),(false,[.b (didB d)])]) [.dead,.dead,.dead,.dead]):=by
 refine Ctr.intro [] Try.func87 K K ?_
 refine tCond (decide ((7:Int)≤(0:Int))||decide ((9:Int)≤(7:Int))) (fun h1=>?_) (fun h1=>?_)
 ·exact absurd h1 (by decide)
 ·refine tz [3,2,1] ?_
  refine tAny 2 (fun _:Unit=>z12_16 d) (fun _=>True) ?_ ?_
  ·refine ⟨⟨trivial,?_⟩,?_⟩
   ·refine tCall e_trace_forms (c_formsT) [] ?_
    exact tTo (fun x=>z12_16 d) (fun x=>True) () trivial (vc:=[(0:Int)≤(7:Int),(7:Int)<(9:Int)]) (hv:=(by simp only [Conj,Fits,i64_min,i64_max,u8_min,u8_max,News.len,maxLen]<;>(repeat' (first | apply And.intro | intro _))<;>first | grind | (simp only [BL] at *;omega)))
   ·refine tCall e_trace_forms (c_formsT) [] ?_
    exact tTo (fun x=>z12_16 d) (fun x=>True) () trivial [0,1,1000002,3,4,6,2] (vc:=[(0:Int)≤(7:Int),(7:Int)<(9:Int)]) (hv:=(by simp only [Conj,Fits,i64_min,i64_max,u8_min,u8_max,News.len,maxLen]<;>(repeat' (first | apply And.intro | intro _))<;>first | grind | (simp only [BL] at *;omega)))
  ·rintro ⟨⟩ _
   refine tz [4,3,2,1] ?_
   refine tAny 2 (fun _:Unit=>z12_23 d) (fun _=>True) ?_ ?_
   ·refine ⟨⟨trivial,?_⟩,?_⟩
    ·refine tCond (z12_14 d) (fun h2=>?_) (fun h2=>?_)
     ·exact tTo (fun x=>z12_23 d) (fun x=>True) () trivial [] [2] [didB d=!d.own] (by simp only [Conj];(repeat' apply And.intro)<;>first | trivial | rfl | (intros;rfl) | (simp only [didB,addrB,hk,BL] at *;first | grind | (simp;omega) | (apply Bool.eq_iff_iff.2;simp;omega)))
     ·exact tTo (fun x=>z12_23 d) (fun x=>True) () trivial [] [2] [didB d=false] (by simp only [Conj];(repeat' apply And.intro)<;>first | trivial | rfl | (intros;rfl) | (simp only [didB,addrB,hk,BL] at *;first | grind | (simp;omega) | (apply Bool.eq_iff_iff.2;simp;omega)))
    ·exact tTo (fun x=>z12_23 d) (fun x=>True) () trivial [] [2] (z12_12 d) (by simp only [Conj];(repeat' apply And.intro)<;>first | trivial | rfl | (intros;rfl) | (simp only [didB,addrB,hk,BL] at *;first | grind | (simp;omega) | (apply Bool.eq_iff_iff.2;simp;omega)))
   ·rintro ⟨⟩ _
    exact tRet [0,1,2,5]
abbrev z12_8:=Reg.box 195 [C.v (Value.string (ByteArray.mk #[(100:UInt8),(114:UInt8),(97:UInt8),(105:UInt8),(110:UInt8)])),C.t true,C.t true,C.t false,C.t false,C.fn 123 false []]
abbrev z12_18 (d:Did):=St.mk 85 z12_2 [Reg.box 66 [C.i .u8 8,C.i .i64 d.core,C.i .i64 d.pc,C.i .i64 d.addr,C.i .i64 d.word,C.i .i64 d.put,C.b d.own],z12_1,Reg.dead,Reg.dead,Reg.dead,Reg.dead,z12_8] []
abbrev z12_26 (d:Did):=St.mk 85 (z12_4 d) [Reg.dead,z12_8,Reg.dead,Reg.dead,Reg.dead,Reg.dead,Reg.dead] []
theorem c_formOf8 (d:Did) (hk:d.kind=8):Ctr Try.prog 87 [] [.agg [.i .u8 8,.i .i64 d.core,.i .i64 d.pc,.i .i64 d.addr,.i .i64 d.word,.i .i64 d.put,.b d.own]]
 (Det (.tup [(true,[.v (.string { data:=#[100,114,97,105,110] }),.t true,.t true,.t false,.t false,C.fn 123 false []]),(false,[.b (didB d)])]) [.dead,.dead,.dead,.dead]):=by
 refine Ctr.intro [] Try.func87 K K ?_
 refine tCond (decide ((8:Int)≤(0:Int))||decide ((9:Int)≤(8:Int))) (fun h1=>?_) (fun h1=>?_)
 ·exact absurd h1 (by decide)
 ·refine tz [3,2,1] ?_
  refine tAny 2 (fun _:Unit=>z12_18 d) (fun _=>True) ?_ ?_
  ·refine ⟨⟨trivial,?_⟩,?_⟩
   ·refine tCall e_trace_forms (c_formsT) [] ?_
    exact tTo (fun x=>z12_18 d) (fun x=>True) () trivial (vc:=[(0:Int)≤(8:Int),(8:Int)<(9:Int)]) (hv:=(by simp only [Conj,Fits,i64_min,i64_max,u8_min,u8_max,News.len,maxLen]<;>(repeat' (first | apply And.intro | intro _))<;>first | grind | (simp only [BL] at *;omega)))
   ·refine tCall e_trace_forms (c_formsT) [] ?_
    exact tTo (fun x=>z12_18 d) (fun x=>True) () trivial [0,1,1000002,3,4,5,2] (vc:=[(0:Int)≤(8:Int),(8:Int)<(9:Int)]) (hv:=(by simp only [Conj,Fits,i64_min,i64_max,u8_min,u8_max,News.len,maxLen]<;>(repeat' (first | apply And.intro | intro _))<;>first | grind | (simp only [BL] at *;omega)))
  ·rintro ⟨⟩ _
   refine tz [4,3,2,1] ?_
   refine tAny 2 (fun _:Unit=>z12_26 d) (fun _=>True) ?_ ?_
   ·refine ⟨⟨trivial,?_⟩,?_⟩
    ·refine tCond (z12_30 d) (fun h2=>?_) (fun h2=>?_)
     ·exact tTo (fun x=>z12_26 d) (fun x=>True) () trivial [] [1] [didB d=!d.own] (by simp only [Conj];(repeat' apply And.intro)<;>first | trivial | rfl | (intros;rfl) | (simp only [didB,addrB,hk,BL] at *;first | grind | (simp;omega) | (apply Bool.eq_iff_iff.2;simp;omega)))
     ·exact tTo (fun x=>z12_26 d) (fun x=>True) () trivial [] [1] [didB d=false] (by simp only [Conj];(repeat' apply And.intro)<;>first | trivial | rfl | (intros;rfl) | (simp only [didB,addrB,hk,BL] at *;first | grind | (simp;omega) | (apply Bool.eq_iff_iff.2;simp;omega)))
    ·exact tTo (fun x=>z12_26 d) (fun x=>True) () trivial [] [1] (z12_24 d) (by simp only [Conj];(repeat' apply And.intro)<;>first | trivial | rfl | (intros;rfl) | (simp only [didB,addrB,hk,BL] at *;first | grind | (simp;omega) | (apply Bool.eq_iff_iff.2;simp;omega)))
   ·rintro ⟨⟩ _
    exact tRet
theorem c_formOf0 (d:Did) (hk:¬ (1≤d.kind∧d.kind≤8)):Ctr Try.prog 87 [] [.agg d.cs]
 (Det (.tup [(true,[.v (.string { data:=#[] }),.t false,.t false,.t false,.t false,.v Value.nilFunc]),(false,[.b false])]) []):=by
 refine Ctr.intro [] Try.func87 K K ?_
 refine tCond (decide (d.kind≤(0:Int))||decide ((9:Int)≤d.kind)) (fun h1=>?_) (fun h1=>?_)
 ·exact tRet
 ·exact (show False from by simp only [BL] at h1;omega).elim
end Go.Proofs.Ytmjjikcappbkeaa
end
noncomputable section
namespace Go.Proofs.Ytmjjikcappbkeaa
open Go Go.Tx
abbrev z13_2 (l:List Did):=Reg.row 7 l.length (fun i=>(l.getD i default).tc) none
def L57_0_I (l:List Did):Int×Bool→St:=fun x=>{ N:=21,fr:=[{ slot:=9,g:=[],sv:=SV.c (C.i .i64 x.1) },{ slot:=8,g:=[],sv:=SV.c (C.i .i64 (↑l.length:Int)) },{ slot:=7,g:=[],sv:=SV.c (C.h 0) },{ slot:=2,g:=[],sv:=SV.c (C.b x.2) }],rg:=[z13_2 l],wr:=[] }
def L57_0_J (l:List Did):Int×Bool→Prop:=fun x=>0≤x.1∧x.1≤(l.length:Int)∧rightsB l=allFrom (rightP l) x.1 l.length
def L57_0_m (l:List Did):Int×Bool→Nat:=fun x=>((l.length:Int)-x.1).toNat
def L57_0 (l:List Did):Lp (Int×Bool):=⟨L57_0_I l,L57_0_J l,L57_0_m l⟩
abbrev z13_1 (x1_0:Int) (l:List Did) (x1_1:Bool):=[En.mk 4 [] (SV.c (C.p 1 0)),En.mk 9 [] (SV.c (C.i .i64 x1_0)),En.mk 8 [] (SV.c (C.i .i64 (↑l.length:Int))),En.mk 7 [] (SV.c (C.h 0)),En.mk 2 [] (SV.c (C.b x1_1))]
abbrev z13_4 (l:List Did) (x1_0:Int):=C.i .i64 (l.getD x1_0.toNat default).core
abbrev z13_5 (l:List Did) (x1_0:Int):=C.i .i64 (l.getD x1_0.toNat default).addr
abbrev z13_6 (l:List Did) (x1_0:Int):=C.i .i64 (l.getD x1_0.toNat default).word
abbrev z13_7 (l:List Did) (x1_0:Int):=C.i .i64 (l.getD x1_0.toNat default).put
abbrev z13_8 (l:List Did) (x1_0:Int):=C.i .i64 (l.getD x1_0.toNat default).pc
abbrev z13_3 (l:List Did) (x1_0:Int):=Reg.box 66 [C.i .u8 (l.getD x1_0.toNat default).kind,z13_4 l x1_0,z13_8 l x1_0,z13_5 l x1_0,z13_6 l x1_0,z13_7 l x1_0,C.b (l.getD x1_0.toNat default).own]
theorem c_right (l:List Did) (hl:∀ a:Nat,0≤(l.getD a default).kind∧(l.getD a default).kind≤255):Ctr Try.prog 57 [Did.rowR l] [.c (.h 0)]
 (Det (.c (.b (rightsB l))) [.dead]):=by
 refine Ctr.intro [] Try.func57 K K ?_
 refine RunF.lens 0 (m:=l.length) K (fun hlens_0=>?_)
 refine tLoop (L57_0 l) (((0:Int),false)) ⟨by grind,by grind,rfl⟩ ?_
 rintro ⟨x1_0,x1_1⟩ hJ1
 dsimp only [L57_0,L57_0_J] at hJ1
 refine tz [9,8,7,2] ?_
 refine tCond (decide (x1_0<(↑l.length:Int))) (fun h2=>?_) (fun h2=>?_)
 ·refine RunF.cut (fun _:Unit=>St.mk 21 (z13_1 x1_0 l x1_1) [z13_2 l,z13_3 l x1_0] []) (fun _=>True) ?_ ?_
  ·exact tTo (fun x=>St.mk 21 (z13_1 x1_0 l x1_1) [z13_2 l,z13_3 l x1_0] []) (fun x=>True) () trivial (vc:=[(0:Int)≤x1_0,x1_0<(↑l.length:Int),x1_0.toNat<l.length]) (hv:=(by simp only [Conj,Fits,i64_min,i64_max,u8_min,u8_max,News.len,maxLen]<;>(repeat' (first | apply And.intro | intro _))<;>first | grind | (simp only [BL] at *;omega)))
  ·rintro ⟨⟩ _
   rcases (show (l.getD x1_0.toNat default).kind=(1:Int)∨(l.getD x1_0.toNat default).kind=(2:Int)∨(l.getD x1_0.toNat default).kind=(3:Int)∨(l.getD x1_0.toNat default).kind=(4:Int)∨(l.getD x1_0.toNat default).kind=(5:Int)∨(l.getD x1_0.toNat default).kind=(6:Int)∨(l.getD x1_0.toNat default).kind=(7:Int)∨(l.getD x1_0.toNat default).kind=(8:Int)∨¬ ((1:Int)≤(l.getD x1_0.toNat default).kind∧(l.getD x1_0.toNat default).kind≤(8:Int)) from by omega) with hs3 | hs3 | hs3 | hs3 | hs3 | hs3 | hs3 | hs3 | hs3
   ·refine tWk (St.mk 21 (z13_1 x1_0 l x1_1) [z13_2 l,Reg.box 66 [C.i .u8 1,z13_4 l x1_0,z13_8 l x1_0,z13_5 l x1_0,z13_6 l x1_0,z13_7 l x1_0,C.b (l.getD x1_0.toNat default).own]] []) ?_ [] [2] [(1:Int)=(l.getD x1_0.toNat default).kind] (by simp only [Conj];(repeat' apply And.intro)<;>first | trivial | rfl | (intros;rfl) | (exact Eq.symm (by assumption)) | grind)
    refine tz [4,9,8,7,2] ?_
    refine tCall e_trace_formOf (c_formOf1 (d:=l.getD x1_0.toNat default) (hk:=by first | assumption | omega)) [] ?_
    refine tz [15,9,8,7,2] ?_
    refine tCond (!didB (l.getD x1_0.toNat default)) (fun h4=>?_) (fun h4=>?_)
    ·exact tRet [] [0] [rightsB l=false] (by simp only [Conj];first | grind | (have he:=allFrom_end (rightP l) (i:=x1_0) (n:=l.length) (by grind);grind) | (have hp:rightP l x1_0=false:=(by simp only [rightP,didAt];first | grind | (cases hd:didB (l.getD x1_0.toNat default) with | false=>rfl | true=>exact absurd (didB_bounds hd) (by omega)));have hs:=allFrom_stop (rightP l) (n:=l.length) (by grind) hp;grind))
    ·exact tNext (L57_0 l) (x1_0,x1_1) ((x1_0+(1:Int),x1_1)) (by dsimp only [L57_0,L57_0_m];(try simp only [decide_eq_true_eq] at *);omega) (by have hp:rightP l x1_0=true:=(by simp only [rightP,didAt];grind);have hs:=allFrom_next (rightP l) (n:=l.length) (by grind) hp;dsimp only [L57_0,L57_0_J] at *;grind) (vc:=[Fits IntKind.i64 (x1_0+(1:Int))]) (hv:=(by simp only [Conj,Fits,i64_min,i64_max,u8_min,u8_max,News.len,maxLen]<;>(repeat' (first | apply And.intro | intro _))<;>first | grind | (simp only [BL] at *;omega)))
   ·refine tWk (St.mk 21 (z13_1 x1_0 l x1_1) [z13_2 l,Reg.box 66 [C.i .u8 2,z13_4 l x1_0,z13_8 l x1_0,z13_5 l x1_0,z13_6 l x1_0,z13_7 l x1_0,C.b (l.getD x1_0.toNat default).own]] []) ?_ [] [2] [(2:Int)=(l.getD x1_0.toNat default).kind] (by simp only [Conj];(repeat' apply And.intro)<;>first | trivial | rfl | (intros;rfl) | (exact Eq.symm (by assumption)) | grind)
    refine tz [4,9,8,7,2] ?_
    refine tCall e_trace_formOf (c_formOf2 (d:=l.getD x1_0.toNat default) (hk:=by first | assumption | omega)) [] ?_
    refine tz [15,9,8,7,2] ?_
    refine tCond (!didB (l.getD x1_0.toNat default)) (fun h4=>?_) (fun h4=>?_)
    ·exact tRet [] [0] [rightsB l=false] (by simp only [Conj];first | grind | (have he:=allFrom_end (rightP l) (i:=x1_0) (n:=l.length) (by grind);grind) | (have hp:rightP l x1_0=false:=(by simp only [rightP,didAt];first | grind | (cases hd:didB (l.getD x1_0.toNat default) with | false=>rfl | true=>exact absurd (didB_bounds hd) (by omega)));have hs:=allFrom_stop (rightP l) (n:=l.length) (by grind) hp;grind))
    ·exact tNext (L57_0 l) (x1_0,x1_1) ((x1_0+(1:Int),x1_1)) (by dsimp only [L57_0,L57_0_m];(try simp only [decide_eq_true_eq] at *);omega) (by have hp:rightP l x1_0=true:=(by simp only [rightP,didAt];grind);have hs:=allFrom_next (rightP l) (n:=l.length) (by grind) hp;dsimp only [L57_0,L57_0_J] at *;grind) (vc:=[Fits IntKind.i64 (x1_0+(1:Int))]) (hv:=(by simp only [Conj,Fits,i64_min,i64_max,u8_min,u8_max,News.len,maxLen]<;>(repeat' (first | apply And.intro | intro _))<;>first | grind | (simp only [BL] at *;omega)))
   ·refine tWk (St.mk 21 (z13_1 x1_0 l x1_1) [z13_2 l,Reg.box 66 [C.i .u8 3,z13_4 l x1_0,z13_8 l x1_0,z13_5 l x1_0,z13_6 l x1_0,z13_7 l x1_0,C.b (l.getD x1_0.toNat default).own]] []) ?_ [] [2] [(3:Int)=(l.getD x1_0.toNat default).kind] (by simp only [Conj];(repeat' apply And.intro)<;>first | trivial | rfl | (intros;rfl) | (exact Eq.symm (by assumption)) | grind)
    refine tz [4,9,8,7,2] ?_
    refine tCall e_trace_formOf (c_formOf3 (d:=l.getD x1_0.toNat default) (hk:=by first | assumption | omega)) [] ?_
    refine tz [15,9,8,7,2] ?_
    refine tCond (!didB (l.getD x1_0.toNat default)) (fun h4=>?_) (fun h4=>?_)
    ·exact tRet [] [0] [rightsB l=false] (by simp only [Conj];first | grind | (have he:=allFrom_end (rightP l) (i:=x1_0) (n:=l.length) (by grind);grind) | (have hp:rightP l x1_0=false:=(by simp only [rightP,didAt];first | grind | (cases hd:didB (l.getD x1_0.toNat default) with | false=>rfl | true=>exact absurd (didB_bounds hd) (by omega)));have hs:=allFrom_stop (rightP l) (n:=l.length) (by grind) hp;grind))
    ·exact tNext (L57_0 l) (x1_0,x1_1) ((x1_0+(1:Int),x1_1)) (by dsimp only [L57_0,L57_0_m];(try simp only [decide_eq_true_eq] at *);omega) (by have hp:rightP l x1_0=true:=(by simp only [rightP,didAt];grind);have hs:=allFrom_next (rightP l) (n:=l.length) (by grind) hp;dsimp only [L57_0,L57_0_J] at *;grind) (vc:=[Fits IntKind.i64 (x1_0+(1:Int))]) (hv:=(by simp only [Conj,Fits,i64_min,i64_max,u8_min,u8_max,News.len,maxLen]<;>(repeat' (first | apply And.intro | intro _))<;>first | grind | (simp only [BL] at *;omega)))
   ·refine tWk (St.mk 21 (z13_1 x1_0 l x1_1) [z13_2 l,Reg.box 66 [C.i .u8 4,z13_4 l x1_0,z13_8 l x1_0,z13_5 l x1_0,z13_6 l x1_0,z13_7 l x1_0,C.b (l.getD x1_0.toNat default).own]] []) ?_ [] [2] [(4:Int)=(l.getD x1_0.toNat default).kind] (by simp only [Conj];(repeat' apply And.intro)<;>first | trivial | rfl | (intros;rfl) | (exact Eq.symm (by assumption)) | grind)
    refine tz [4,9,8,7,2] ?_
    refine tCall e_trace_formOf (c_formOf4 (d:=l.getD x1_0.toNat default) (hk:=by first | assumption | omega)) [] ?_
    refine tz [15,9,8,7,2] ?_
    refine tCond (!didB (l.getD x1_0.toNat default)) (fun h4=>?_) (fun h4=>?_)
    ·exact tRet [] [0] [rightsB l=false] (by simp only [Conj];first | grind | (have he:=allFrom_end (rightP l) (i:=x1_0) (n:=l.length) (by grind);grind) | (have hp:rightP l x1_0=false:=(by simp only [rightP,didAt];first | grind | (cases hd:didB (l.getD x1_0.toNat default) with | false=>rfl | true=>exact absurd (didB_bounds hd) (by omega)));have hs:=allFrom_stop (rightP l) (n:=l.length) (by grind) hp;grind))
    ·exact tNext (L57_0 l) (x1_0,x1_1) ((x1_0+(1:Int),x1_1)) (by dsimp only [L57_0,L57_0_m];(try simp only [decide_eq_true_eq] at *);omega) (by have hp:rightP l x1_0=true:=(by simp only [rightP,didAt];grind);have hs:=allFrom_next (rightP l) (n:=l.length) (by grind) hp;dsimp only [L57_0,L57_0_J] at *;grind) (vc:=[Fits IntKind.i64 (x1_0+(1:Int))]) (hv:=(by simp only [Conj,Fits,i64_min,i64_max,u8_min,u8_max,News.len,maxLen]<;>(repeat' (first | apply And.intro | intro _))<;>first | grind | (simp only [BL] at *;omega)))
   ·refine tWk (St.mk 21 (z13_1 x1_0 l x1_1) [z13_2 l,Reg.box 66 [C.i .u8 5,z13_4 l x1_0,z13_8 l x1_0,z13_5 l x1_0,z13_6 l x1_0,z13_7 l x1_0,C.b (l.getD x1_0.toNat default).own]] []) ?_ [] [2] [(5:Int)=(l.getD x1_0.toNat default).kind] (by simp only [Conj];(repeat' apply And.intro)<;>first | trivial | rfl | (intros;rfl) | (exact Eq.symm (by assumption)) | grind)
    refine tz [4,9,8,7,2] ?_
    refine tCall e_trace_formOf (c_formOf5 (d:=l.getD x1_0.toNat default) (hk:=by first | assumption | omega)) [] ?_
    refine tz [15,9,8,7,2] ?_
    refine tCond (!didB (l.getD x1_0.toNat default)) (fun h4=>?_) (fun h4=>?_)
    ·exact tRet [] [0] [rightsB l=false] (by simp only [Conj];first | grind | (have he:=allFrom_end (rightP l) (i:=x1_0) (n:=l.length) (by grind);grind) | (have hp:rightP l x1_0=false:=(by simp only [rightP,didAt];first | grind | (cases hd:didB (l.getD x1_0.toNat default) with | false=>rfl | true=>exact absurd (didB_bounds hd) (by omega)));have hs:=allFrom_stop (rightP l) (n:=l.length) (by grind) hp;grind))
    ·exact tNext (L57_0 l) (x1_0,x1_1) ((x1_0+(1:Int),x1_1)) (by dsimp only [L57_0,L57_0_m];(try simp only [decide_eq_true_eq] at *);omega) (by have hp:rightP l x1_0=true:=(by simp only [rightP,didAt];grind);have hs:=allFrom_next (rightP l) (n:=l.length) (by grind) hp;dsimp only [L57_0,L57_0_J] at *;grind) (vc:=[Fits IntKind.i64 (x1_0+(1:Int))]) (hv:=(by simp only [Conj,Fits,i64_min,i64_max,u8_min,u8_max,News.len,maxLen]<;>(repeat' (first | apply And.intro | intro _))<;>first | grind | (simp only [BL] at *;omega)))
   ·refine tWk (St.mk 21 (z13_1 x1_0 l x1_1) [z13_2 l,Reg.box 66 [C.i .u8 6,z13_4 l x1_0,z13_8 l x1_0,z13_5 l x1_0,z13_6 l x1_0,z13_7 l x1_0,C.b (l.getD x1_0.toNat default).own]] []) ?_ [] [2] [(6:Int)=(l.getD x1_0.toNat default).kind] (by simp only [Conj];(repeat' apply And.intro)<;>first | trivial | rfl | (intros;rfl) | (exact Eq.symm (by assumption)) | grind)
    refine tz [4,9,8,7,2] ?_
    refine tCall e_trace_formOf (c_formOf6 (d:=l.getD x1_0.toNat default) (hk:=by first | assumption | omega)) [] ?_
    refine tz [15,9,8,7,2] ?_
    refine tCond (!didB (l.getD x1_0.toNat default)) (fun h4=>?_) (fun h4=>?_)
    ·exact tRet [] [0] [rightsB l=false] (by simp only [Conj];first | grind | (have he:=allFrom_end (rightP l) (i:=x1_0) (n:=l.length) (by grind);grind) | (have hp:rightP l x1_0=false:=(by simp only [rightP,didAt];first | grind | (cases hd:didB (l.getD x1_0.toNat default) with | false=>rfl | true=>exact absurd (didB_bounds hd) (by omega)));have hs:=allFrom_stop (rightP l) (n:=l.length) (by grind) hp;grind))
    ·exact tNext (L57_0 l) (x1_0,x1_1) ((x1_0+(1:Int),x1_1)) (by dsimp only [L57_0,L57_0_m];(try simp only [decide_eq_true_eq] at *);omega) (by have hp:rightP l x1_0=true:=(by simp only [rightP,didAt];grind);have hs:=allFrom_next (rightP l) (n:=l.length) (by grind) hp;dsimp only [L57_0,L57_0_J] at *;grind) (vc:=[Fits IntKind.i64 (x1_0+(1:Int))]) (hv:=(by simp only [Conj,Fits,i64_min,i64_max,u8_min,u8_max,News.len,maxLen]<;>(repeat' (first | apply And.intro | intro _))<;>first | grind | (simp only [BL] at *;omega)))
   ·refine tWk (St.mk 21 (z13_1 x1_0 l x1_1) [z13_2 l,Reg.box 66 [C.i .u8 7,z13_4 l x1_0,z13_8 l x1_0,z13_5 l x1_0,z13_6 l x1_0,z13_7 l x1_0,C.b (l.getD x1_0.toNat default).own]] []) ?_ [] [2] [(7:Int)=(l.getD x1_0.toNat default).kind] (by simp only [Conj];(repeat' apply And.intro)<;>first | trivial | rfl | (intros;rfl) | (exact Eq.symm (by assumption)) | grind)
    refine tz [4,9,8,7,2] ?_
    refine tCall e_trace_formOf (c_formOf7 (d:=l.getD x1_0.toNat default) (hk:=by first | assumption | omega)) [] ?_
    refine tz [15,9,8,7,2] ?_
    refine tCond (!didB (l.getD x1_0.toNat default)) (fun h4=>?_) (fun h4=>?_)
    ·exact tRet [] [0] [rightsB l=false] (by simp only [Conj];first | grind | (have he:=allFrom_end (rightP l) (i:=x1_0) (n:=l.length) (by grind);grind) | (have hp:rightP l x1_0=false:=(by simp only [rightP,didAt];first | grind | (cases hd:didB (l.getD x1_0.toNat default) with | false=>rfl | true=>exact absurd (didB_bounds hd) (by omega)));have hs:=allFrom_stop (rightP l) (n:=l.length) (by grind) hp;grind))
    ·exact tNext (L57_0 l) (x1_0,x1_1) ((x1_0+(1:Int),x1_1)) (by dsimp only [L57_0,L57_0_m];(try simp only [decide_eq_true_eq] at *);omega) (by have hp:rightP l x1_0=true:=(by simp only [rightP,didAt];grind);have hs:=allFrom_next (rightP l) (n:=l.length) (by grind) hp;dsimp only [L57_0,L57_0_J] at *;grind) (vc:=[Fits IntKind.i64 (x1_0+(1:Int))]) (hv:=(by simp only [Conj,Fits,i64_min,i64_max,u8_min,u8_max,News.len,maxLen]<;>(repeat' (first | apply And.intro | intro _))<;>first | grind | (simp only [BL] at *;omega)))
   ·refine tWk (St.mk 21 (z13_1 x1_0 l x1_1) [z13_2 l,Reg.box 66 [C.i .u8 8,z13_4 l x1_0,z13_8 l x1_0,z13_5 l x1_0,z13_6 l x1_0,z13_7 l x1_0,C.b (l.getD x1_0.toNat default).own]] []) ?_ [] [2] [(8:Int)=(l.getD x1_0.toNat default).kind] (by simp only [Conj];(repeat' apply And.intro)<;>first | trivial | rfl | (intros;rfl) | (exact Eq.symm (by assumption)) | grind)
    refine tz [4,9,8,7,2] ?_
    refine tCall e_trace_formOf (c_formOf8 (d:=l.getD x1_0.toNat default) (hk:=by first | assumption | omega)) [] ?_
    refine tz [15,9,8,7,2] ?_
    refine tCond (!didB (l.getD x1_0.toNat default)) (fun h4=>?_) (fun h4=>?_)
    ·exact tRet [] [0] [rightsB l=false] (by simp only [Conj];first | grind | (have he:=allFrom_end (rightP l) (i:=x1_0) (n:=l.length) (by grind);grind) | (have hp:rightP l x1_0=false:=(by simp only [rightP,didAt];first | grind | (cases hd:didB (l.getD x1_0.toNat default) with | false=>rfl | true=>exact absurd (didB_bounds hd) (by omega)));have hs:=allFrom_stop (rightP l) (n:=l.length) (by grind) hp;grind))
    ·exact tNext (L57_0 l) (x1_0,x1_1) ((x1_0+(1:Int),x1_1)) (by dsimp only [L57_0,L57_0_m];(try simp only [decide_eq_true_eq] at *);omega) (by have hp:rightP l x1_0=true:=(by simp only [rightP,didAt];grind);have hs:=allFrom_next (rightP l) (n:=l.length) (by grind) hp;dsimp only [L57_0,L57_0_J] at *;grind) (vc:=[Fits IntKind.i64 (x1_0+(1:Int))]) (hv:=(by simp only [Conj,Fits,i64_min,i64_max,u8_min,u8_max,News.len,maxLen]<;>(repeat' (first | apply And.intro | intro _))<;>first | grind | (simp only [BL] at *;omega)))
   ·refine tz [4,9,8,7,2] ?_
    refine tCall e_trace_formOf (c_formOf0 (d:=l.getD x1_0.toNat default) (hk:=by first | assumption | omega)) [] ?_
    refine tz [15,9,8,7,2] ?_
    refine tCond (!false) (fun h4=>?_) (fun h4=>?_)
    ·exact tRet [] [0] [rightsB l=false] (by simp only [Conj];first | grind | (have he:=allFrom_end (rightP l) (i:=x1_0) (n:=l.length) (by grind);grind) | (have hp:rightP l x1_0=false:=(by simp only [rightP,didAt];first | grind | (cases hd:didB (l.getD x1_0.toNat default) with | false=>rfl | true=>exact absurd (didB_bounds hd) (by omega)));have hs:=allFrom_stop (rightP l) (n:=l.length) (by grind) hp;grind))
    ·exact absurd h4 (by decide)
 ·exact tRet [] [0] [rightsB l=true] (by simp only [Conj];first | grind | (have he:=allFrom_end (rightP l) (i:=x1_0) (n:=l.length) (by grind);grind) | (have hp:rightP l x1_0=false:=(by simp only [rightP,didAt];first | grind | (cases hd:didB (l.getD x1_0.toNat default) with | false=>rfl | true=>exact absurd (didB_bounds hd) (by omega)));have hs:=allFrom_stop (rightP l) (n:=l.length) (by grind) hp;grind))
end Go.Proofs.Ytmjjikcappbkeaa
end
