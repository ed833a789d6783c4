/-
  The law WitnessFront: whatever the object, the classes, the run and the number that are read (of bulk at most 1048576), the call returns true, and what came in reads as it did. Text 8 of 9: Leaf90 Leaf90b Leaf92 Leaf93 SpecO Leaf57 Leaf12 Leaf13 Leaf14 Leaf5 Leaf6 Leaf7 Leaf8.
-/
import Derived.Test.YtmjjikcappbkeaaGreatP4
import Derived.Test.YtmjjikcappbkeaaGreatP5
import Derived.Test.YtmjjikcappbkeaaGreatP7
set_option linter.unusedSimpArgs false
set_option linter.unusedVariables false
set_option maxHeartbeats 4000000
noncomputable section
namespace Go.Proofs.YtmjjikcappbkeaaGreat
open Go Go.Tx
abbrev z90_2 (sh:List Dcl) (lk:List Dcl) (gs:List Grf):=(Mch.mk (newM sh lk gs).pos (newM sh lk gs).sl (newM sh lk gs).mem (newM sh lk gs).ho [])
abbrev z90_1 (sh:List Dcl) (gs:List Grf) (cl:List Cls) (most:Int) (l:List Int) (lk:List Dcl):=(telGo sh.length gs cl most l (Tel.mk (0:Int) (z90_2 sh lk gs) []))
theorem c_flw_no (sh lk:List Dcl) (gs:List Grf) (hs:∀ j:Nat,(sh.getD j default).name.size≤maxLen) (hl:∀ j:Nat,(lk.getD j default).name.size≤maxLen) (hg:∀ j:Nat,(gs.getD j default).name.size≤maxLen) (hw:UnitW gs) (cl:List Cls) (l:List Int) (most:Int) (hsel:¬ (flwE sh lk gs cl l most)=0):Ctr Tryz.prog 18 [Dcl.rowR sh,Dcl.rowR lk,Grf.rowR gs,Cls.rowR cl,IntRow l] [.agg [.h 0,.h 1,.h 2],.c (.h 3),.c (.h 4),.c (.i .i64 most)]
 (Det (.tup [(true,[.v (.slice none 0 0),.v (.slice none 0 0),.v (.slice none 0 0),.t false]),(false,[.i .i64 (flwE sh lk gs cl l most)])]) [.dead,.dead,.dead,.dead,.dead]):=by
 refine Ctr.intro [] Tryz.func18 K K ?_
 by_cases hB:begT sh lk gs cl most=0
 ·have hF:¬ (telGo sh.length gs cl most l (Tel.mk 0 (z90_2 sh lk gs) [])).err=0:=fun h=>hsel ((flwE_t hB).trans h)
  refine tCall e_witness_begun (c_tbeg_ok (sh:=sh) (lk:=lk) (gs:=gs) (hs:=by first | assumption | exact new_Q (begT_ok hB).1 | exact (chkU_ok (begT_ok hB).1).1 | exact Nat.le_refl _ | exact Nat.zero_le _ | exact (fin_Q hw hB hF).1 | exact (fin_Q hw hB hF).2.2 | exact fin_pr hw hB hF | omega) (hl:=by first | assumption | exact new_Q (begT_ok hB).1 | exact (chkU_ok (begT_ok hB).1).1 | exact Nat.le_refl _ | exact Nat.zero_le _ | exact (fin_Q hw hB hF).1 | exact (fin_Q hw hB hF).2.2 | exact fin_pr hw hB hF | omega) (hg:=by first | assumption | exact new_Q (begT_ok hB).1 | exact (chkU_ok (begT_ok hB).1).1 | exact Nat.le_refl _ | exact Nat.zero_le _ | exact (fin_Q hw hB hF).1 | exact (fin_Q hw hB hF).2.2 | exact fin_pr hw hB hF | omega) (hw:=by first | assumption | exact new_Q (begT_ok hB).1 | exact (chkU_ok (begT_ok hB).1).1 | exact Nat.le_refl _ | exact Nat.zero_le _ | exact (fin_Q hw hB hF).1 | exact (fin_Q hw hB hF).2.2 | exact fin_pr hw hB hF | omega) (cl:=cl) (most:=most) (hsel:=by first | assumption | exact new_Q (begT_ok hB).1 | exact (chkU_ok (begT_ok hB).1).1 | exact Nat.le_refl _ | exact Nat.zero_le _ | exact (fin_Q hw hB hF).1 | exact (fin_Q hw hB hF).2.2 | exact fin_pr hw hB hF | omega)) [] ?_
  refine tz [17,9,8,2] ?_
  refine tCond (!decide ((0:Int)=(0:Int))) (fun h1=>?_) (fun h1=>?_)
  ·exact absurd h1 (by first | decide | simp)
  ·refine tz [10,9,8,2] ?_
   refine tCall e_witness_telling_follow (c_tfol_no (sh:=sh) (lk:=lk) (gs:=gs) (pos:=(newM sh lk gs).pos) (sl:=(newM sh lk gs).sl) (mem:=(newM sh lk gs).mem) (ho:=(newM sh lk gs).ho) (pr:=[]) (cl:=cl) (most:=most) (st:=[]) (l:=l) (hQ:=by first | assumption | exact new_Q (begT_ok hB).1 | exact (chkU_ok (begT_ok hB).1).1 | exact Nat.le_refl _ | exact Nat.zero_le _ | exact (fin_Q hw hB hF).1 | exact (fin_Q hw hB hF).2.2 | exact fin_pr hw hB hF | omega) (hb:=by first | assumption | exact new_Q (begT_ok hB).1 | exact (chkU_ok (begT_ok hB).1).1 | exact Nat.le_refl _ | exact Nat.zero_le _ | exact (fin_Q hw hB hF).1 | exact (fin_Q hw hB hF).2.2 | exact fin_pr hw hB hF | omega) (hp:=by first | assumption | exact new_Q (begT_ok hB).1 | exact (chkU_ok (begT_ok hB).1).1 | exact Nat.le_refl _ | exact Nat.zero_le _ | exact (fin_Q hw hB hF).1 | exact (fin_Q hw hB hF).2.2 | exact fin_pr hw hB hF | omega) (hw:=by first | assumption | exact new_Q (begT_ok hB).1 | exact (chkU_ok (begT_ok hB).1).1 | exact Nat.le_refl _ | exact Nat.zero_le _ | exact (fin_Q hw hB hF).1 | exact (fin_Q hw hB hF).2.2 | exact fin_pr hw hB hF | omega) (hst:=by first | assumption | exact new_Q (begT_ok hB).1 | exact (chkU_ok (begT_ok hB).1).1 | exact Nat.le_refl _ | exact Nat.zero_le _ | exact (fin_Q hw hB hF).1 | exact (fin_Q hw hB hF).2.2 | exact fin_pr hw hB hF | omega) (hpp:=by first | assumption | exact new_Q (begT_ok hB).1 | exact (chkU_ok (begT_ok hB).1).1 | exact Nat.le_refl _ | exact Nat.zero_le _ | exact (fin_Q hw hB hF).1 | exact (fin_Q hw hB hF).2.2 | exact fin_pr hw hB hF | omega) (hsel0:=by first | assumption | exact new_Q (begT_ok hB).1 | exact (chkU_ok (begT_ok hB).1).1 | exact Nat.le_refl _ | exact Nat.zero_le _ | exact (fin_Q hw hB hF).1 | exact (fin_Q hw hB hF).2.2 | exact fin_pr hw hB hF | omega)) [7,8,9,10,11,12,13,14,15,16,3,17,4] ?_ [15,19] [(0:Nat)=0,(0:Nat)=0] (by (try simp only [Conj])<;>(repeat' apply And.intro)<;>first | done | trivial | rfl | (intros;first | rfl | trivial) | exact snoc_len _ _ | exact List.length_set | exact set_ints _ _ _ | exact take_row _ _ _ _ _ | (exact take_len _ _ _ (by first | omega | (have h0:=askE_ok (by simpa using h1);have hm:=evE_mem h0.1;have hs:=evE_ok h0.1;omega))) | exact MpEq.put (by omega) | (refine MpEq.mk' (by omega) ?_ ?_<;>intro q<;>first | rfl | (dsimp only;split<;>simp_all)) | (exact MpEq.mkIt (by omega) (fun _=>rfl) (fun _=>rfl) rfl rfl (fun _=>rfl)) | (intro i h1 h2;rw [snoc_lo h1 h2]) | (rw [getD_snoc];rfl))
   refine tz [26,10,9,8] ?_
   refine tCond (!decide ((z90_1 sh gs cl most l lk).err=(0:Int))) (fun h2=>?_) (fun h2=>?_)
   ·exact tRet [] [3] [flwE sh lk gs cl l most=(z90_1 sh gs cl most l lk).err] (by simp only [Conj];(repeat' apply And.intro)<;>first | trivial | rfl | (intros;first | trivial | rfl) | exact flwE_b hB | exact flwE_t hB | exact (flwE_b hB).symm)
   ·exact (show False from by exact hF (by simpa using h2)).elim
 ·refine tCall e_witness_begun (c_tbeg_no (sh:=sh) (lk:=lk) (gs:=gs) (hs:=by first | assumption | exact new_Q (begT_ok hB).1 | exact (chkU_ok (begT_ok hB).1).1 | exact Nat.le_refl _ | exact Nat.zero_le _ | exact (fin_Q hw hB hF).1 | exact (fin_Q hw hB hF).2.2 | exact fin_pr hw hB hF | omega) (hl:=by first | assumption | exact new_Q (begT_ok hB).1 | exact (chkU_ok (begT_ok hB).1).1 | exact Nat.le_refl _ | exact Nat.zero_le _ | exact (fin_Q hw hB hF).1 | exact (fin_Q hw hB hF).2.2 | exact fin_pr hw hB hF | omega) (hg:=by first | assumption | exact new_Q (begT_ok hB).1 | exact (chkU_ok (begT_ok hB).1).1 | exact Nat.le_refl _ | exact Nat.zero_le _ | exact (fin_Q hw hB hF).1 | exact (fin_Q hw hB hF).2.2 | exact fin_pr hw hB hF | omega) (hw:=by first | assumption | exact new_Q (begT_ok hB).1 | exact (chkU_ok (begT_ok hB).1).1 | exact Nat.le_refl _ | exact Nat.zero_le _ | exact (fin_Q hw hB hF).1 | exact (fin_Q hw hB hF).2.2 | exact fin_pr hw hB hF | omega) (cl:=cl) (most:=most) (hsel:=by first | assumption | exact new_Q (begT_ok hB).1 | exact (chkU_ok (begT_ok hB).1).1 | exact Nat.le_refl _ | exact Nat.zero_le _ | exact (fin_Q hw hB hF).1 | exact (fin_Q hw hB hF).2.2 | exact fin_pr hw hB hF | omega)) [] ?_
  refine tz [17,9,8,2] ?_
  refine tCond (!decide (begT sh lk gs cl most=(0:Int))) (fun h1=>?_) (fun h1=>?_)
  ·exact tRet [] [3] [flwE sh lk gs cl l most=begT sh lk gs cl most] (by simp only [Conj];(repeat' apply And.intro)<;>first | trivial | rfl | (intros;first | trivial | rfl) | exact flwE_b hB | exact flwE_t hB | exact (flwE_b hB).symm)
  ·exact (show False from by exact hB (by simpa using h1)).elim
theorem c_flw_ok (sh lk:List Dcl) (gs:List Grf) (hs:∀ j:Nat,(sh.getD j default).name.size≤maxLen) (hl:∀ j:Nat,(lk.getD j default).name.size≤maxLen) (hg:∀ j:Nat,(gs.getD j default).name.size≤maxLen) (hw:UnitW gs) (cl:List Cls) (l:List Int) (most:Int) (hsel:(flwE sh lk gs cl l most)=0):Ctr Tryz.prog 18 [Dcl.rowR sh,Dcl.rowR lk,Grf.rowR gs,Cls.rowR cl,IntRow l] [.agg [.h 0,.h 1,.h 2],.c (.h 3),.c (.h 4),.c (.i .i64 most)]
 (Det (.tup [(true,[.h 5,.h 6,.h 7,.b (endM gs (telGo sh.length gs cl most l (Tel.mk 0 (Mch.mk (newM sh lk gs).pos (newM sh lk gs).sl (newM sh lk gs).mem (newM sh lk gs).ho []) [])).m.pos (telGo sh.length gs cl most l (Tel.mk 0 (Mch.mk (newM sh lk gs).pos (newM sh lk gs).sl (newM sh lk gs).mem (newM sh lk gs).ho []) [])).m.ho)]),(false,[.i .i64 0])]) [.dead,.dead,.dead,.dead,.dead,IntOwn (telGo sh.length gs cl most l (Tel.mk 0 (Mch.mk (newM sh lk gs).pos (newM sh lk gs).sl (newM sh lk gs).mem (newM sh lk gs).ho []) [])).st,Prt.ownR (telGo sh.length gs cl most l (Tel.mk 0 (Mch.mk (newM sh lk gs).pos (newM sh lk gs).sl (newM sh lk gs).mem (newM sh lk gs).ho []) [])).m.pr,WordOwn (telGo sh.length gs cl most l (Tel.mk 0 (Mch.mk (newM sh lk gs).pos (newM sh lk gs).sl (newM sh lk gs).mem (newM sh lk gs).ho []) [])).m.mem]):=by
 refine Ctr.intro [] Tryz.func18 K K ?_
 have hB:begT sh lk gs cl most=0:=(flwE_0 hsel).1
 have hF:(telGo sh.length gs cl most l (Tel.mk 0 (z90_2 sh lk gs) [])).err=0:=(flwE_0 hsel).2
 refine tCall e_witness_begun (c_tbeg_ok (sh:=sh) (lk:=lk) (gs:=gs) (hs:=by first | assumption | exact new_Q (begT_ok hB).1 | exact (chkU_ok (begT_ok hB).1).1 | exact Nat.le_refl _ | exact Nat.zero_le _ | exact (fin_Q hw hB hF).1 | exact (fin_Q hw hB hF).2.2 | exact fin_pr hw hB hF | omega) (hl:=by first | assumption | exact new_Q (begT_ok hB).1 | exact (chkU_ok (begT_ok hB).1).1 | exact Nat.le_refl _ | exact Nat.zero_le _ | exact (fin_Q hw hB hF).1 | exact (fin_Q hw hB hF).2.2 | exact fin_pr hw hB hF | omega) (hg:=by first | assumption | exact new_Q (begT_ok hB).1 | exact (chkU_ok (begT_ok hB).1).1 | exact Nat.le_refl _ | exact Nat.zero_le _ | exact (fin_Q hw hB hF).1 | exact (fin_Q hw hB hF).2.2 | exact fin_pr hw hB hF | omega) (hw:=by first | assumption | exact new_Q (begT_ok hB).1 | exact (chkU_ok (begT_ok hB).1).1 | exact Nat.le_refl _ | exact Nat.zero_le _ | exact (fin_Q hw hB hF).1 | exact (fin_Q hw hB hF).2.2 | exact fin_pr hw hB hF | omega) (cl:=cl) (most:=most) (hsel:=by first | assumption | exact new_Q (begT_ok hB).1 | exact (chkU_ok (begT_ok hB).1).1 | exact Nat.le_refl _ | exact Nat.zero_le _ | exact (fin_Q hw hB hF).1 | exact (fin_Q hw hB hF).2.2 | exact fin_pr hw hB hF | omega)) [] ?_
 refine tz [17,9,8,2] ?_
 refine tCond (!decide ((0:Int)=(0:Int))) (fun h1=>?_) (fun h1=>?_)
 ·exact absurd h1 (by first | decide | simp)
 ·refine tz [10,9,8,2] ?_
  refine tCall e_witness_telling_follow (c_tfol_ok (sh:=sh) (lk:=lk) (gs:=gs) (pos:=(newM sh lk gs).pos) (sl:=(newM sh lk gs).sl) (mem:=(newM sh lk gs).mem) (ho:=(newM sh lk gs).ho) (pr:=[]) (cl:=cl) (most:=most) (st:=[]) (l:=l) (hQ:=by first | assumption | exact new_Q (begT_ok hB).1 | exact (chkU_ok (begT_ok hB).1).1 | exact Nat.le_refl _ | exact Nat.zero_le _ | exact (fin_Q hw hB hF).1 | exact (fin_Q hw hB hF).2.2 | exact fin_pr hw hB hF | omega) (hb:=by first | assumption | exact new_Q (begT_ok hB).1 | exact (chkU_ok (begT_ok hB).1).1 | exact Nat.le_refl _ | exact Nat.zero_le _ | exact (fin_Q hw hB hF).1 | exact (fin_Q hw hB hF).2.2 | exact fin_pr hw hB hF | omega) (hp:=by first | assumption | exact new_Q (begT_ok hB).1 | exact (chkU_ok (begT_ok hB).1).1 | exact Nat.le_refl _ | exact Nat.zero_le _ | exact (fin_Q hw hB hF).1 | exact (fin_Q hw hB hF).2.2 | exact fin_pr hw hB hF | omega) (hw:=by first | assumption | exact new_Q (begT_ok hB).1 | exact (chkU_ok (begT_ok hB).1).1 | exact Nat.le_refl _ | exact Nat.zero_le _ | exact (fin_Q hw hB hF).1 | exact (fin_Q hw hB hF).2.2 | exact fin_pr hw hB hF | omega) (hst:=by first | assumption | exact new_Q (begT_ok hB).1 | exact (chkU_ok (begT_ok hB).1).1 | exact Nat.le_refl _ | exact Nat.zero_le _ | exact (fin_Q hw hB hF).1 | exact (fin_Q hw hB hF).2.2 | exact fin_pr hw hB hF | omega) (hpp:=by first | assumption | exact new_Q (begT_ok hB).1 | exact (chkU_ok (begT_ok hB).1).1 | exact Nat.le_refl _ | exact Nat.zero_le _ | exact (fin_Q hw hB hF).1 | exact (fin_Q hw hB hF).2.2 | exact fin_pr hw hB hF | omega) (hsel0:=by first | assumption | exact new_Q (begT_ok hB).1 | exact (chkU_ok (begT_ok hB).1).1 | exact Nat.le_refl _ | exact Nat.zero_le _ | exact (fin_Q hw hB hF).1 | exact (fin_Q hw hB hF).2.2 | exact fin_pr hw hB hF | omega)) [7,8,9,10,11,12,13,14,15,16,3,17,4] ?_ [15,19] [(0:Nat)=0,(0:Nat)=0] (by (try simp only [Conj])<;>(repeat' apply And.intro)<;>first | done | trivial | rfl | (intros;first | rfl | trivial) | exact snoc_len _ _ | exact List.length_set | exact set_ints _ _ _ | exact take_row _ _ _ _ _ | (exact take_len _ _ _ (by first | omega | (have h0:=askE_ok (by simpa using h1);have hm:=evE_mem h0.1;have hs:=evE_ok h0.1;omega))) | exact MpEq.put (by omega) | (refine MpEq.mk' (by omega) ?_ ?_<;>intro q<;>first | rfl | (dsimp only;split<;>simp_all)) | (exact MpEq.mkIt (by omega) (fun _=>rfl) (fun _=>rfl) rfl rfl (fun _=>rfl)) | (intro i h1 h2;rw [snoc_lo h1 h2]) | (rw [getD_snoc];rfl))
  refine tz [26,10,9,8] ?_
  refine tCond (!decide ((0:Int)=(0:Int))) (fun h2=>?_) (fun h2=>?_)
  ·exact absurd h2 (by first | decide | simp)
  ·refine tz [10,9,8] ?_
   refine tCall e_witness_telling_story (c_tstory (sh:=sh) (lk:=lk) (gs:=gs) (pos:=(z90_1 sh gs cl most l lk).m.pos) (sl:=(z90_1 sh gs cl most l lk).m.sl) (mem:=(z90_1 sh gs cl most l lk).m.mem) (ho:=(z90_1 sh gs cl most l lk).m.ho) (pr:=(z90_1 sh gs cl most l lk).m.pr) (cl:=cl) (most:=most) (st:=(z90_1 sh gs cl most l lk).st) (hQ:=by first | assumption | exact new_Q (begT_ok hB).1 | exact (chkU_ok (begT_ok hB).1).1 | exact Nat.le_refl _ | exact Nat.zero_le _ | exact (fin_Q hw hB hF).1 | exact (fin_Q hw hB hF).2.2 | exact fin_pr hw hB hF | omega) (hb:=by first | assumption | exact new_Q (begT_ok hB).1 | exact (chkU_ok (begT_ok hB).1).1 | exact Nat.le_refl _ | exact Nat.zero_le _ | exact (fin_Q hw hB hF).1 | exact (fin_Q hw hB hF).2.2 | exact fin_pr hw hB hF | omega) (hp:=by first | assumption | exact new_Q (begT_ok hB).1 | exact (chkU_ok (begT_ok hB).1).1 | exact Nat.le_refl _ | exact Nat.zero_le _ | exact (fin_Q hw hB hF).1 | exact (fin_Q hw hB hF).2.2 | exact fin_pr hw hB hF | omega) (hw:=by first | assumption | exact new_Q (begT_ok hB).1 | exact (chkU_ok (begT_ok hB).1).1 | exact Nat.le_refl _ | exact Nat.zero_le _ | exact (fin_Q hw hB hF).1 | exact (fin_Q hw hB hF).2.2 | exact fin_pr hw hB hF | omega) (hst:=by first | assumption | exact new_Q (begT_ok hB).1 | exact (chkU_ok (begT_ok hB).1).1 | exact Nat.le_refl _ | exact Nat.zero_le _ | exact (fin_Q hw hB hF).1 | exact (fin_Q hw hB hF).2.2 | exact fin_pr hw hB hF | omega)) [7,8,9,10,11,18,19,20,21,22,3,23] ?_
   exact tRet [0,1,2,3,4,23,24,25]
end Go.Proofs.YtmjjikcappbkeaaGreat
end
noncomputable section
namespace Go.Proofs.YtmjjikcappbkeaaGreat
open Go Go.Tx
theorem c_flwF (sh lk:List Dcl) (gs:List Grf) (hs:∀ j:Nat,(sh.getD j default).name.size≤maxLen) (hl:∀ j:Nat,(lk.getD j default).name.size≤maxLen) (hg:∀ j:Nat,(gs.getD j default).name.size≤maxLen) (hw:UnitW gs) (cl:List Cls) (l:List Int) (most:Int) (hsel:(flwE sh lk gs cl l most)=0):Ctr Tryz.prog 18 [Dcl.rowR sh,Dcl.rowR lk,Grf.rowR gs,Cls.rowR cl,IntRow l] [.agg [.h 0,.h 1,.h 2],.c (.h 3),.c (.h 4),.c (.i .i64 most)]
 (Det (.tup [(true,[.h 5,.h 6,.h 7,.b (endM gs (finT sh lk gs cl l most).m.pos (finT sh lk gs cl l most).m.ho)]),(false,[.i .i64 0])]) [.dead,.dead,.dead,.dead,.dead,IntOwn (finT sh lk gs cl l most).st,Prt.ownR (finT sh lk gs cl l most).m.pr,WordOwn (finT sh lk gs cl l most).m.mem]):=c_flw_ok sh lk gs hs hl hg hw cl l most hsel
end Go.Proofs.YtmjjikcappbkeaaGreat
end
noncomputable section
namespace Go.Proofs.YtmjjikcappbkeaaGreat
open Go Go.Tx
def kNods (own:Int):List Nod:=[⟨3,0,0,own,⟨false,0,1⟩,⟨false,0,0⟩,1,0,0⟩,⟨2,0,0,1-own,⟨false,0,0⟩,⟨false,0,0⟩,2,0,1⟩,⟨7,0,0,0,⟨true,0,0⟩,⟨false,0,0⟩,3,0,2⟩,⟨9,0,0,0,⟨false,0,0⟩,⟨false,0,0⟩,0,0,3⟩]
def kSh:List Dcl:=[⟨⟨#[120]⟩,0,0⟩,⟨⟨#[121]⟩,0,0⟩]
def kGs:List Grf:=[⟨⟨#[97]⟩,0,1,kNods 0⟩,⟨⟨#[98]⟩,0,1,kNods 1⟩]
theorem c_graph (nm:ByteArray) (own:Int) (ho:0≤own∧own≤1):Ctr Tryz.prog 83 [] [.c (.v (.string nm)),.c (.i .i64 own)]
 (Det (.agg [.v (.string nm),.i .i64 0,.i .i64 1,.h 0]) [Nod.ownR (kNods own)]):=by
 refine Ctr.intro [] Tryz.func83 K K ?_
 exact tRet [1] [0,1] [(kNods own).length=4,∀ (i:Nat),i<(kNods own).length→((kNods own).getD i default).tc=rowT 13 [Value.int IntKind.u8 (3:Int),Value.int IntKind.u8 (0:Int),Value.int IntKind.i64 (0:Int),Value.int IntKind.i64 own,Value.bool false,Value.int IntKind.i64 (0:Int),Value.int IntKind.i64 (1:Int),Value.bool false,Value.int IntKind.i64 (0:Int),Value.int IntKind.i64 (0:Int),Value.int IntKind.i64 (1:Int),Value.int IntKind.i64 (0:Int),Value.int IntKind.i64 (0:Int),Value.int IntKind.u8 (2:Int),Value.int IntKind.u8 (0:Int),Value.int IntKind.i64 (0:Int),Value.int IntKind.i64 ((1:Int)-own),Value.bool false,Value.int IntKind.i64 (0:Int),Value.int IntKind.i64 (0:Int),Value.bool false,Value.int IntKind.i64 (0:Int),Value.int IntKind.i64 (0:Int),Value.int IntKind.i64 (2:Int),Value.int IntKind.i64 (0:Int),Value.int IntKind.i64 (1:Int),Value.int IntKind.u8 (7:Int),Value.int IntKind.u8 (0:Int),Value.int IntKind.i64 (0:Int),Value.int IntKind.i64 (0:Int),Value.bool true,Value.int IntKind.i64 (0:Int),Value.int IntKind.i64 (0:Int),Value.bool false,Value.int IntKind.i64 (0:Int),Value.int IntKind.i64 (0:Int),Value.int IntKind.i64 (3:Int),Value.int IntKind.i64 (0:Int),Value.int IntKind.i64 (2:Int),Value.int IntKind.u8 (9:Int),Value.int IntKind.u8 (0:Int),Value.int IntKind.i64 (0:Int),Value.int IntKind.i64 (0:Int),Value.bool false,Value.int IntKind.i64 (0:Int),Value.int IntKind.i64 (0:Int),Value.bool false,Value.int IntKind.i64 (0:Int),Value.int IntKind.i64 (0:Int),Value.int IntKind.i64 (0:Int),Value.int IntKind.i64 (0:Int),Value.int IntKind.i64 (3:Int)] i] (by simp only [Conj];(repeat' apply And.intro)<;>first | rfl | trivial | (intros;trivial) | (intro i h1 h2;exact absurd h1 (by simp;omega)) | (exact rowT_list _ Nod.tl _ _ _ K) | (exact rowT_list _ Dcl.tl _ _ _ K) | (exact rowTC_list _ Grf.tl _ _ _ K) | skip) (vc:=[Fits IntKind.i64 ((1:Int)-own)]) (hv:=(by simp only [Conj,Fits,i64_min,i64_max,u8_min,u8_max,News.len,maxLen]<;>(repeat' (first | apply And.intro | intro _))<;>first | grind | (simp only [BL] at *;omega)))
theorem c_known21 :Ctr Tryz.prog 49 [] []
 (Det (.agg [.h 0,.v (.slice none 0 0),.h 1]) [Dcl.ownR kSh,Grf.ownR kGs]):=by
 refine Ctr.intro [] Tryz.func49 K K ?_
 refine tCall e_stilelaw21_graph (c_graph (nm:=ByteArray.mk #[(97:UInt8)]) (own:=(0:Int)) (ho:=by first | assumption | omega)) [] ?_
 refine tz [4,3,0] ?_
 refine tCall e_stilelaw21_graph (c_graph (nm:=ByteArray.mk #[(98:UInt8)]) (own:=(1:Int)) (ho:=by first | assumption | omega)) [] ?_
 exact tRet [1,4] [0,1,2,3] [kSh.length=2,∀ (i:Nat),i<kSh.length→(kSh.getD i default).tc=rowT 3 [Value.string (ByteArray.mk #[(120:UInt8)]),Value.int IntKind.i64 (0:Int),Value.int IntKind.i64 (0:Int),Value.string (ByteArray.mk #[(121:UInt8)]),Value.int IntKind.i64 (0:Int),Value.int IntKind.i64 (0:Int)] i,kGs.length=2,∀ (i:Nat),i<kGs.length→(kGs.getD i default).tc=rowTC 4 [TC.val (Value.string (ByteArray.mk #[(97:UInt8)])),TC.val (Value.int IntKind.i64 (0:Int)),TC.val (Value.int IntKind.i64 (1:Int)),TC.sub 69 13 4 fun i=>((kNods (0:Int)).getD i default).tc,TC.val (Value.string (ByteArray.mk #[(98:UInt8)])),TC.val (Value.int IntKind.i64 (0:Int)),TC.val (Value.int IntKind.i64 (1:Int)),TC.sub 69 13 (kNods (1:Int)).length fun i=>((kNods (1:Int)).getD i default).tc] i] (by simp only [Conj];(repeat' apply And.intro)<;>first | rfl | trivial | (intros;trivial) | (intro i h1 h2;exact absurd h1 (by simp;omega)) | (exact rowT_list _ Nod.tl _ _ _ K) | (exact rowT_list _ Dcl.tl _ _ _ K) | (exact rowTC_list _ Grf.tl _ _ _ K) | skip)
end Go.Proofs.YtmjjikcappbkeaaGreat
end
noncomputable section
namespace Go.Proofs.YtmjjikcappbkeaaGreat
open Go Go.Tx
abbrev kCl:List Cls:=[⟨3,0,0⟩,⟨3,0,0⟩]
theorem getD_ev {α:Type} (P:α→Prop) (l:List α) (d:α) (h:∀ x∈l,P x) (hd:P d) (a:Nat):P (l.getD a d):=by
 rw [List.getD_eq_getElem?_getD]
 cases e:l[a]? with
 | none=>exact hd
 | some x=>exact h x (List.mem_of_getElem? e)
theorem kUw:UnitW kGs:=fun a b=>by
 refine getD_ev (fun g:Grf=>0≤(g.nodes.getD b default).kind∧0≤(g.nodes.getD b default).op∧(g.nodes.getD b default).op≤255) kGs default (fun x hx=>?_) ?_ a
 ·refine getD_ev (fun n:Nod=>0≤n.kind∧0≤n.op∧n.op≤255) x.nodes default (fun n hn=>?_) (by decide) b
  simp only [kGs,List.mem_cons,List.not_mem_nil,or_false] at hx
  rcases hx with rfl | rfl<;>(simp only [kNods,List.mem_cons,List.not_mem_nil,or_false] at hn;rcases hn with rfl | rfl | rfl | rfl<;>decide)
 ·exact getD_ev (fun n:Nod=>0≤n.kind∧0≤n.op∧n.op≤255) [] default (fun n hn=>by cases hn) (by decide) b
theorem kSn:∀ j:Nat,(kSh.getD j default).name.size≤maxLen:=fun j=>getD_ev (fun d:Dcl=>d.name.size≤maxLen) kSh default (fun x hx=>by
 simp only [kSh,List.mem_cons,List.not_mem_nil,or_false] at hx
 rcases hx with rfl | rfl<;>decide) (by decide) j
theorem kLn:∀ j:Nat,(([]:List Dcl).getD j default).name.size≤maxLen:=fun j=>getD_ev (fun d:Dcl=>d.name.size≤maxLen) [] default (fun x hx=>by cases hx) (by decide) j
theorem kGn:∀ j:Nat,(kGs.getD j default).name.size≤maxLen:=fun j=>getD_ev (fun d:Grf=>d.name.size≤maxLen) kGs default (fun x hx=>by
 simp only [kGs,List.mem_cons,List.not_mem_nil,or_false] at hx
 rcases hx with rfl | rfl<;>decide) (by decide) j
theorem kF0:flwE kSh [] kGs kCl [0,1,0,1,0,1] 9=0:=by kernel_rfl
theorem kF1:flwE kSh [] kGs kCl [0,0,0,0] 9=211:=by kernel_rfl
theorem kF2:flwE kSh [] kGs kCl [2] 9=211:=by kernel_rfl
theorem kF1n:¬ flwE kSh [] kGs kCl [0,0,0,0] 9=0:=by rw [kF1];decide
theorem kF2n:¬ flwE kSh [] kGs kCl [2] 9=0:=by rw [kF2];decide
abbrev z93_1:=[Cls.mk (3:Int) (0:Int) (0:Int),Cls.mk (3:Int) (0:Int) (0:Int)]
abbrev z93_2:=[Value.int IntKind.u8 (3:Int),Value.int IntKind.i64 (0:Int),Value.int IntKind.i64 (0:Int),Value.int IntKind.u8 (3:Int),Value.int IntKind.i64 (0:Int),Value.int IntKind.i64 (0:Int)]
abbrev z93_4:=(finT kSh [] kGs z93_1 [(0:Int),(1:Int),(0:Int),(1:Int),(0:Int),(1:Int)] (9:Int))
theorem c_lives21 :Ctr Tryz.prog 20 [] []
 (Det (.c (.b true)) []):=by
 have hk0:=kF0
 have hk1:=kF1n
 have hk2:=kF2n
 refine Ctr.intro [] Tryz.func20 K K ?_
 refine tCall e_stilelaw21_known (c_known21) [] ?_
 refine tz [12,1,0] ?_
 refine tCall e_witness_Follow (c_flwF (sh:=kSh) (lk:=[]) (gs:=kGs) (hs:=by first | exact kUw | exact kSn | exact kLn | exact kGn | exact kF0 | exact kF1n | exact kF2n | decide) (hl:=by first | exact kUw | exact kSn | exact kLn | exact kGn | exact kF0 | exact kF1n | exact kF2n | decide) (hg:=by first | exact kUw | exact kSn | exact kLn | exact kGn | exact kF0 | exact kF1n | exact kF2n | decide) (hw:=by first | exact kUw | exact kSn | exact kLn | exact kGn | exact kF0 | exact kF1n | exact kF2n | decide) (cl:=z93_1) (l:=[(0:Int),(1:Int),(0:Int),(1:Int),(0:Int),(1:Int)]) (most:=(9:Int)) (hsel:=by first | exact kUw | exact kSn | exact kLn | exact kGn | exact kF0 | exact kF1n | exact kF2n | decide)) [1,1000001,2,0,3] ?_ [0,2,3,5,6,7,8] [kSh.length=2,(0:Nat)=0,kGs.length=2,z93_1.length=2,∀ (i:Nat),i<z93_1.length→(z93_1.getD i default).tc=rowT 3 z93_2 i,[(0:Int),(1:Int),(0:Int),(1:Int),(0:Int),(1:Int)].length=6,∀ (i:Nat),i < [(0:Int),(1:Int),(0:Int),(1:Int),(0:Int),(1:Int)].length→i64T ([(0:Int),(1:Int),(0:Int),(1:Int),(0:Int),(1:Int)].getD i (0:Int))=rowT 1 [Value.int IntKind.i64 (0:Int),Value.int IntKind.i64 (1:Int),Value.int IntKind.i64 (0:Int),Value.int IntKind.i64 (1:Int),Value.int IntKind.i64 (0:Int),Value.int IntKind.i64 (1:Int)] i] (by (try simp only [Conj])<;>(repeat' apply And.intro)<;>first | done | trivial | rfl | (intros;first | rfl | trivial) | (intro i h1 h2;first | omega | (simp at h1;omega)) | (exact rowT_list _ Cls.tl _ _ _ K) | (exact rowT_list (0:Int) (fun n=>[.val (.int .i64 n)]) _ _ _ K) | skip)
 refine tz [15,1,0] ?_
 refine tCall e_stilelaw21_known (c_known21) [] ?_
 refine tz [19,3,2,1,0] ?_
 refine tCall e_witness_Follow (c_flw_no (sh:=kSh) (lk:=[]) (gs:=kGs) (hs:=by first | exact kUw | exact kSn | exact kLn | exact kGn | exact kF0 | exact kF1n | exact kF2n | decide) (hl:=by first | exact kUw | exact kSn | exact kLn | exact kGn | exact kF0 | exact kF1n | exact kF2n | decide) (hg:=by first | exact kUw | exact kSn | exact kLn | exact kGn | exact kF0 | exact kF1n | exact kF2n | decide) (hw:=by first | exact kUw | exact kSn | exact kLn | exact kGn | exact kF0 | exact kF1n | exact kF2n | decide) (cl:=z93_1) (l:=[(0:Int),(0:Int),(0:Int),(0:Int)]) (most:=(9:Int)) (hsel:=by first | exact kUw | exact kSn | exact kLn | exact kGn | exact kF0 | exact kF1n | exact kF2n | decide)) [8,1000001,9,0,10] ?_ [0,2,3,5,6,7,8] [kSh.length=2,(0:Nat)=0,kGs.length=2,z93_1.length=2,∀ (i:Nat),i<z93_1.length→(z93_1.getD i default).tc=rowT 3 z93_2 i,[(0:Int),(0:Int),(0:Int),(0:Int)].length=4,∀ (i:Nat),i < [(0:Int),(0:Int),(0:Int),(0:Int)].length→i64T ([(0:Int),(0:Int),(0:Int),(0:Int)].getD i (0:Int))=rowT 1 [Value.int IntKind.i64 (0:Int),Value.int IntKind.i64 (0:Int),Value.int IntKind.i64 (0:Int),Value.int IntKind.i64 (0:Int)] i] (by (try simp only [Conj])<;>(repeat' apply And.intro)<;>first | done | trivial | rfl | (intros;first | rfl | trivial) | (intro i h1 h2;first | omega | (simp at h1;omega)) | (exact rowT_list _ Cls.tl _ _ _ K) | (exact rowT_list (0:Int) (fun n=>[.val (.int .i64 n)]) _ _ _ K) | skip)
 refine tz [22,3,2,1,0] ?_
 refine tCond (!decide ((0:Int)=(0:Int))||!decide (flwE kSh [] kGs z93_1 [(0:Int),(0:Int),(0:Int),(0:Int)] (9:Int)=(211:Int))||!decide ((2:Int)=(2:Int))||!(decide ((z93_4.m.pr.getD 0 default).thread=(0:Int))&&(decide ((z93_4.m.pr.getD 0 default).word=(1:Int))&&true))||!decide ((6:Int)=(6:Int))||!decide ((2:Int)=(2:Int))||!decide (z93_4.m.mem.getD 1 (0:Int)=(1:Int))||!endM kGs z93_4.m.pos z93_4.m.ho) (fun h1=>?_) (fun h1=>?_) (vc:=[(!decide ((0:Int)=(0:Int))||!decide (flwE kSh [] kGs [Cls.mk (3:Int) (0:Int) (0:Int),Cls.mk (3:Int) (0:Int) (0:Int)] [(0:Int),(0:Int),(0:Int),(0:Int)] (9:Int)=(211:Int))||!decide ((2:Int)=(2:Int)))=false→(0:Int)≤(0:Int),(!decide ((0:Int)=(0:Int))||!decide (flwE kSh [] kGs [Cls.mk (3:Int) (0:Int) (0:Int),Cls.mk (3:Int) (0:Int) (0:Int)] [(0:Int),(0:Int),(0:Int),(0:Int)] (9:Int)=(211:Int))||!decide ((2:Int)=(2:Int)))=false→(0:Int)<(2:Int),(!decide ((0:Int)=(0:Int))||!decide (flwE kSh [] kGs [Cls.mk (3:Int) (0:Int) (0:Int),Cls.mk (3:Int) (0:Int) (0:Int)] [(0:Int),(0:Int),(0:Int),(0:Int)] (9:Int)=(211:Int))||!decide ((2:Int)=(2:Int)))=false→0<2,(!decide ((0:Int)=(0:Int))||!decide (flwE kSh [] kGs [Cls.mk (3:Int) (0:Int) (0:Int),Cls.mk (3:Int) (0:Int) (0:Int)] [(0:Int),(0:Int),(0:Int),(0:Int)] (9:Int)=(211:Int))||!decide ((2:Int)=(2:Int))||!(decide (((finT kSh [] kGs [Cls.mk (3:Int) (0:Int) (0:Int),Cls.mk (3:Int) (0:Int) (0:Int)] [(0:Int),(1:Int),(0:Int),(1:Int),(0:Int),(1:Int)] (9:Int)).m.pr.getD 0 default).thread=(0:Int))&&(decide (((finT kSh [] kGs [Cls.mk (3:Int) (0:Int) (0:Int),Cls.mk (3:Int) (0:Int) (0:Int)] [(0:Int),(1:Int),(0:Int),(1:Int),(0:Int),(1:Int)] (9:Int)).m.pr.getD 0 default).word=(1:Int))&&true))||!decide ((6:Int)=(6:Int))||!decide ((2:Int)=(2:Int)))=false→(0:Int)≤(1:Int),(!decide ((0:Int)=(0:Int))||!decide (flwE kSh [] kGs [Cls.mk (3:Int) (0:Int) (0:Int),Cls.mk (3:Int) (0:Int) (0:Int)] [(0:Int),(0:Int),(0:Int),(0:Int)] (9:Int)=(211:Int))||!decide ((2:Int)=(2:Int))||!(decide (((finT kSh [] kGs [Cls.mk (3:Int) (0:Int) (0:Int),Cls.mk (3:Int) (0:Int) (0:Int)] [(0:Int),(1:Int),(0:Int),(1:Int),(0:Int),(1:Int)] (9:Int)).m.pr.getD 0 default).thread=(0:Int))&&(decide (((finT kSh [] kGs [Cls.mk (3:Int) (0:Int) (0:Int),Cls.mk (3:Int) (0:Int) (0:Int)] [(0:Int),(1:Int),(0:Int),(1:Int),(0:Int),(1:Int)] (9:Int)).m.pr.getD 0 default).word=(1:Int))&&true))||!decide ((6:Int)=(6:Int))||!decide ((2:Int)=(2:Int)))=false→(1:Int)<(2:Int),(!decide ((0:Int)=(0:Int))||!decide (flwE kSh [] kGs [Cls.mk (3:Int) (0:Int) (0:Int),Cls.mk (3:Int) (0:Int) (0:Int)] [(0:Int),(0:Int),(0:Int),(0:Int)] (9:Int)=(211:Int))||!decide ((2:Int)=(2:Int))||!(decide (((finT kSh [] kGs [Cls.mk (3:Int) (0:Int) (0:Int),Cls.mk (3:Int) (0:Int) (0:Int)] [(0:Int),(1:Int),(0:Int),(1:Int),(0:Int),(1:Int)] (9:Int)).m.pr.getD 0 default).thread=(0:Int))&&(decide (((finT kSh [] kGs [Cls.mk (3:Int) (0:Int) (0:Int),Cls.mk (3:Int) (0:Int) (0:Int)] [(0:Int),(1:Int),(0:Int),(1:Int),(0:Int),(1:Int)] (9:Int)).m.pr.getD 0 default).word=(1:Int))&&true))||!decide ((6:Int)=(6:Int))||!decide ((2:Int)=(2:Int)))=false→1<2]) (hv:=(by simp only [Conj,Fits,i64_min,i64_max,u8_min,u8_max,News.len,maxLen]<;>(repeat' (first | apply And.intro | intro _))<;>first | grind | (simp only [BL] at *;omega)))
 ·exact Bool.noConfusion (show true=false from h1.symm.trans (show _=false from by kernel_rfl))
 ·refine tz [1,0] ?_
  refine tCall e_stilelaw21_known (c_known21) [] ?_
  refine tz [70,1,0] ?_
  refine tCall e_witness_Follow (c_flw_no (sh:=kSh) (lk:=[]) (gs:=kGs) (hs:=by first | exact kUw | exact kSn | exact kLn | exact kGn | exact kF0 | exact kF1n | exact kF2n | decide) (hl:=by first | exact kUw | exact kSn | exact kLn | exact kGn | exact kF0 | exact kF1n | exact kF2n | decide) (hg:=by first | exact kUw | exact kSn | exact kLn | exact kGn | exact kF0 | exact kF1n | exact kF2n | decide) (hw:=by first | exact kUw | exact kSn | exact kLn | exact kGn | exact kF0 | exact kF1n | exact kF2n | decide) (cl:=z93_1) (l:=[(2:Int)]) (most:=(9:Int)) (hsel:=by first | exact kUw | exact kSn | exact kLn | exact kGn | exact kF0 | exact kF1n | exact kF2n | decide)) [12,1000001,13,0,14] ?_ [0,2,3,5,6,7,8,9] [kSh.length=2,(0:Nat)=0,kGs.length=2,z93_1.length=2,∀ (i:Nat),i<z93_1.length→(z93_1.getD i default).tc=rowT 3 z93_2 i,[(2:Int)].length=1,∀ (i:Nat),i < [(2:Int)].length→i≠0→i64T ([(2:Int)].getD i (0:Int))=fun x=>TC.any,i64T (2:Int) 0=TC.val (Value.int IntKind.i64 (2:Int))] (by (try simp only [Conj])<;>(repeat' apply And.intro)<;>first | done | trivial | rfl | (intros;first | rfl | trivial) | (intro i h1 h2;first | omega | (simp at h1;omega)) | (exact rowT_list _ Cls.tl _ _ _ K) | (exact rowT_list (0:Int) (fun n=>[.val (.int .i64 n)]) _ _ _ K) | skip)
  exact tRet
end Go.Proofs.YtmjjikcappbkeaaGreat
end
namespace Go.Proofs.YtmjjikcappbkeaaGreat
open Go Go.Tx
def visE (cl:List Cls) (e:Ev):Bool:=
 if e.kind=1∨e.kind=2∨e.kind=3 then decide ((cl.getD e.thing.toNat default).kind=3) else decide (e.kind=4)||decide (e.kind=5)||decide (e.kind=6)
theorem visR {cl:List Cls} {e:Ev} {k:Int} {b:Bool} (hk:e.kind=k) (h3:k=1∨k=2∨k=3) (h:((decide (k=1)||decide (k=2)||decide (k=3))&&decide ((cl.getD e.thing.toNat default).kind=3))=b):visE cl e=b:=by
 unfold visE;rw [hk,if_pos h3,← h]
 rcases h3 with e | e | e<;>subst e<;>simp
theorem visA {cl:List Cls} {e:Ev} (hk:e.kind=4∨e.kind=5∨e.kind=6):visE cl e=true:=by
 unfold visE;rw [if_neg (by omega)]
 rcases hk with e | e | e<;>rw [e]<;>rfl
theorem visNo {cl:List Cls} {e:Ev} (hk:e.kind=7):visE cl e=false:=by
 unfold visE;rw [if_neg (by omega),hk];rfl
def visUp (cl:List Cls) (l:List Ev):Nat→List Int
 | 0=>[]
 | n+1=>visUp cl l n++(if visE cl (l.getD n default)=true then [(l.getD n default).core] else [])
theorem vis_take {cl:List Cls} {l:List Ev} {i:Int} (h:0≤i) (hv:visE cl (l.getD i.toNat default)=true):visUp cl l (i+1).toNat=visUp cl l i.toNat++[(l.getD i.toNat default).core]:=by
 have h1:(i+1).toNat=i.toNat+1:=by omega
 rw [h1,visUp,if_pos hv]
theorem vis_skip {cl:List Cls} {l:List Ev} {i:Int} (h:0≤i) (hv:visE cl (l.getD i.toNat default)=false):visUp cl l (i+1).toNat=visUp cl l i.toNat:=by
 have h1:(i+1).toNat=i.toNat+1:=by omega
 rw [h1,visUp,if_neg (by rw [hv];simp),List.append_nil]
theorem visUp_prefix (cl:List Cls) (l:List Ev) {i:Nat}:∀ {n:Nat},i≤n→visUp cl l i <+: visUp cl l n
 | 0,h=>by rw [Nat.le_zero.1 h];exact List.prefix_refl _
 | n+1,h=>by
   by_cases e:i=n+1
   ·rw [e];exact List.prefix_refl _
   ·exact List.IsPrefix.trans (visUp_prefix cl l (by omega)) ⟨_,rfl⟩
theorem visUp_len (cl:List Cls) (l:List Ev):∀ n,(visUp cl l n).length≤n
 | 0=>Nat.le_refl _
 | n+1=>by
   have:=visUp_len cl l n
   rw [visUp,List.length_append]
   split<;>simp<;>omega
theorem vis_here {cl:List Cls} {l:List Ev} {i:Int} (h0:0≤i) (h1:i<l.length) (hv:visE cl (l.getD i.toNat default)=true) :
 (visUp cl l i.toNat).length<(visUp cl l l.length).length∧(visUp cl l l.length).getD (visUp cl l i.toNat).length 0=(l.getD i.toNat default).core:=by
 have h2:=vis_take (cl:=cl) (l:=l) h0 hv
 obtain ⟨t,ht⟩:=visUp_prefix cl l (show (i+1).toNat≤l.length by omega)
 rw [h2] at ht
 rw [← ht]
 refine ⟨by simp,?_⟩
 rw [List.append_assoc,List.getD_eq_getElem?_getD,List.getElem?_append_right (Nat.le_refl _)]
 simp
def EvQ (cl:List Cls) (l:List Ev):Prop:=∀ j:Nat,j<l.length→(1≤(l.getD j default).kind∧(l.getD j default).kind≤7)∧((l.getD j default).kind≤3→0≤(l.getD j default).thing∧(l.getD j default).thing<cl.length)
def ordE (mem:List Int) (sh lk bu:Int) (cs:List Cor) (cl:List Cls) (l:List Did):Int:=
 if evE mem sh lk bu cs l≠0 then evE mem sh lk bu cs l else if (cl.length:Int)≠sh then 210 else 0
def ordL (mem:List Int) (sh lk bu:Int) (cs:List Cor) (cl:List Cls) (l:List Did):List Int:=
 if ordE mem sh lk bu cs cl l=0 then visUp cl (evL mem sh lk bu cs l) (evL mem sh lk bu cs l).length else []
section
variable {mem:List Int} {sh lk bu:Int} {cs:List Cor} {cl:List Cls} {l:List Did}
theorem ordE_err (h1:(!decide (evE mem sh lk bu cs l=0))=true):ordE mem sh lk bu cs cl l=evE mem sh lk bu cs l:=by unfold ordE;rw [if_pos (by simpa using h1)]
theorem ordL_err (h1:(!decide (evE mem sh lk bu cs l=0))=true):ordL mem sh lk bu cs cl l=[]:=by unfold ordL;rw [ordE_err h1,if_neg (by simpa using h1)]
theorem ordE_cls (h1:(!decide (evE mem sh lk bu cs l=0))=false) (h2:(!decide ((cl.length:Int)=sh))=true):ordE mem sh lk bu cs cl l=210:=by unfold ordE;rw [if_neg (by simpa using h1),if_pos (by simpa using h2)]
theorem ordL_cls (h1:(!decide (evE mem sh lk bu cs l=0))=false) (h2:(!decide ((cl.length:Int)=sh))=true):ordL mem sh lk bu cs cl l=[]:=by unfold ordL;rw [ordE_cls h1 h2,if_neg (by decide)]
theorem ordE_ok (h1:(!decide (evE mem sh lk bu cs l=0))=false) (h2:(!decide ((cl.length:Int)=sh))=false):ordE mem sh lk bu cs cl l=0:=by unfold ordE;rw [if_neg (by simpa using h1),if_neg (by simpa using h2)]
theorem ordL_ok (h1:(!decide (evE mem sh lk bu cs l=0))=false) (h2:(!decide ((cl.length:Int)=sh))=false):ordL mem sh lk bu cs cl l=visUp cl (evL mem sh lk bu cs l) (evL mem sh lk bu cs l).length:=by unfold ordL;rw [ordE_ok h1 h2,if_pos rfl]
theorem evE_zero (h:evE mem sh lk bu cs l=0):chkE mem sh lk bu cs=0∧rightsB l=true:=by
 unfold evE at h
 split at h
 ·rename_i hc
  split at h
  ·rename_i hr;exact ⟨hc,hr⟩
  ·simp at h
 ·contradiction
end
theorem evOf_Q {sh lk:Int} {d:Did} {i:Int} (hs:0≤sh∧sh≤64∧0≤lk∧lk≤16) (hd:didB d=true) (hk:¬ (evOf sh lk d i).kind=0) :
 (1≤(evOf sh lk d i).kind∧(evOf sh lk d i).kind≤7)∧((evOf sh lk d i).kind≤3→0≤(evOf sh lk d i).thing∧(evOf sh lk d i).thing<sh):=by
 have hb:=didB_bounds hd
 have hp:=evOf_parts (i:=i) hs hd
 refine ⟨by omega,fun h3=>?_⟩
 clear hp
 obtain ⟨kind,core,pc,addr,word,put,own⟩:=d
 simp only at hb
 unfold evOf noEv at hk h3 ⊢
 simp only at hk h3 ⊢
 grind
theorem evUp_Q {sh lk:Int} {l:List Did} {cl:List Cls} (hs:0≤sh∧sh≤64∧0≤lk∧lk≤16) (hr:rightsB l=true) (hc:(cl.length:Int)=sh):∀ n:Nat,n≤l.length→EvQ cl (evUp sh lk l n)
 | 0,_=>fun j hj=>by simp [evUp] at hj
 | n+1,hn=>fun j hj=>by
   have ih:=evUp_Q hs hr hc n (by omega)
   rw [evUp] at hj ⊢
   by_cases h:j<(evUp sh lk l n).length
   ·rw [getD_append_lt _ _ _ h];exact ih j h
   ·by_cases hk:(evAt sh lk l n).kind=0
    ·rw [if_pos hk] at hj;simp at hj;omega
    ·rw [if_neg hk] at hj ⊢
     have e:j=(evUp sh lk l n).length:=by simp at hj;omega
     subst e
     rw [getD_snoc]
     have hd:=rights_at hr (i:=(n:Int)) (by omega) (by omega)
     have:=evOf_Q (i:=(n:Int)) hs hd hk
     rw [hc]
     exact this
theorem ev_Q {mem:List Int} {sh lk bu:Int} {cs:List Cor} {cl:List Cls} {l:List Did} (h1:(!decide (evE mem sh lk bu cs l=0))=false) (h2:(!decide ((cl.length:Int)=sh))=false) :
 EvQ cl (evL mem sh lk bu cs l)∧(evL mem sh lk bu cs l).length≤l.length:=by
 have h1':evE mem sh lk bu cs l=0:=by simpa using h1
 have h2':(cl.length:Int)=sh:=by simpa using h2
 have hz:=evE_zero h1'
 unfold evL
 rw [if_pos h1']
 exact ⟨evUp_Q (shr hz.1) hz.2 h2' _ (Nat.le_refl _),evUp_len _ _ _ _⟩
end Go.Proofs.YtmjjikcappbkeaaGreat
noncomputable section
namespace Go.Proofs.YtmjjikcappbkeaaGreat
open Go Go.Tx
theorem c_cnt1 (x:Bool):Ctr Tryz.prog 118 [] [.c (.b x)]
 (Det (.c (.b x)) []):=by
 refine Ctr.intro [] Tryz.func118 K K ?_
 exact tRet
theorem c_cnt2 (x:Bool):Ctr Tryz.prog 119 [] [.c (.b x)]
 (Det (.c (.t true)) []):=by
 refine Ctr.intro [] Tryz.func119 K K ?_
 exact tRet
theorem c_cnt3 (x:Bool):Ctr Tryz.prog 120 [] [.c (.b x)]
 (Det (.c (.t false)) []):=by
 refine Ctr.intro [] Tryz.func120 K K ?_
 exact tRet
theorem c_counts :Ctr Tryz.prog 74 [] []
 (Det (.agg [C.fn 120 false [],C.fn 118 false [],C.fn 118 false [],C.fn 118 false [],C.fn 119 false [],C.fn 119 false [],C.fn 119 false [],C.fn 120 false []]) []):=by
 refine Ctr.intro [] Tryz.func74 K K ?_
 exact tRet
theorem c_visF (l:List Ev) (cl:List Cls):Ctr Tryz.prog 40 [Ev.rowR l,Cls.rowR cl] [.c (.h 0),.c (.h 1)]
 (Det (.c (C.fn 73 false [2,3])) [.dead,.dead,Reg.box 115 [.h 0],Reg.box 30 [.h 1]]):=by
 refine Ctr.intro [] Tryz.func40 K K ?_
 exact tRet
abbrev z57_1:=Reg.box 186 [C.fn 120 false [],C.fn 118 false [],C.fn 118 false [],C.fn 118 false [],C.fn 119 false [],C.fn 119 false [],C.fn 119 false [],C.fn 120 false []]
abbrev z57_3 (cl:List Cls):=Reg.row 3 cl.length (fun i=>(cl.getD i default).tc) none
abbrev z57_4 (l:List Ev):=Reg.row 7 l.length (fun i=>(l.getD i default).tc) none
def L59_0_I (l:List Ev) (cl:List Cls) (Xe:Ext):Int×Nat→St:=fun x=>{ N:=53,fr:=[{ slot:=12,g:=[],sv:=SV.c (C.i .i64 x.1) },{ slot:=11,g:=[],sv:=SV.c (C.i .i64 (↑l.length:Int)) },{ slot:=10,g:=[],sv:=SV.c (C.h 0) },{ slot:=4,g:=[],sv:=SV.c (C.p 6 0) },{ slot:=0,g:=[],sv:=SV.c (C.h 5) },{ slot:=2,g:=[],sv:=SV.c (C.p 3 0) }],rg:=[z57_4 l,z57_3 cl,Reg.ro [C.h 0],Reg.ro [C.h 1],Reg.froz Xe,Reg.ext Xe x.2 true,z57_1],wr:=[] }
def L59_0_J (l:List Ev) (cl:List Cls) (Xe:Ext):Int×Nat→Prop:=fun x=>0≤x.1∧x.1≤(l.length:Int)∧x.2=(visUp cl l x.1.toNat).length
def L59_0_m (l:List Ev) (cl:List Cls) (Xe:Ext):Int×Nat→Nat:=fun x=>((l.length:Int)-x.1).toNat
def L59_0 (l:List Ev) (cl:List Cls) (Xe:Ext):Lp (Int×Nat):=⟨L59_0_I l cl Xe,L59_0_J l cl Xe,L59_0_m l cl Xe⟩
abbrev z57_2 (x1_0:Int) (l:List Ev):=[En.mk 6 [] (SV.c (C.p 7 0)),En.mk 12 [] (SV.c (C.i .i64 x1_0)),En.mk 11 [] (SV.c (C.i .i64 (↑l.length:Int))),En.mk 10 [] (SV.c (C.h 0)),En.mk 4 [] (SV.c (C.p 6 0)),En.mk 0 [] (SV.c (C.h 5)),En.mk 2 [] (SV.c (C.p 3 0))]
abbrev z57_5 (cl:List Cls) (l:List Ev) (x1_0:Int):=((cl.getD (l.getD x1_0.toNat default).thing.toNat default).kind=(3:Int))
abbrev z57_8 (l:List Ev) (x1_0:Int):=C.i .i64 (l.getD x1_0.toNat default).thing
abbrev z57_9 (l:List Ev) (x1_0:Int):=C.i .i64 (l.getD x1_0.toNat default).core
abbrev z57_10 (l:List Ev) (x1_0:Int):=C.i .i64 (l.getD x1_0.toNat default).word
abbrev z57_11 (l:List Ev) (x1_0:Int):=C.i .i64 (l.getD x1_0.toNat default).put
abbrev z57_12 (l:List Ev) (x1_0:Int):=C.i .i64 (l.getD x1_0.toNat default).pos
abbrev z57_6 (l:List Ev) (x1_0:Int):=Reg.box 123 [C.i .u8 (l.getD x1_0.toNat default).kind,z57_9 l x1_0,z57_8 l x1_0,z57_10 l x1_0,z57_11 l x1_0,C.b (l.getD x1_0.toNat default).own,z57_12 l x1_0]
abbrev z57_7 (l:List Ev) (x1_0:Int):=(SV.c (C.i .i64 (l.getD x1_0.toNat default).core))
theorem c_vis_it (l:List Ev) (cl:List Cls) (hq:EvQ cl l) (Xe:Ext) (hn:Xe.n=(visUp cl l l.length).length) (he:Xe.enc=fun k=>.c (.i .i64 ((visUp cl l l.length).getD k 0))) (hy:Xe.Yields Tryz.prog):Ctr Tryz.prog 73 ([Ev.rowR l,Cls.rowR cl,.ro [.h 0],.ro [.h 1]]++[.froz Xe,.ext Xe 0 true]) [.c (.h 5),.c (.p 2 0),.c (.p 3 0)]
 (RangeEnd Xe 5):=by
 refine Ctr.intro [] Tryz.func73 K K ?_
 refine RunF.lens 0 (m:=l.length) K (fun hlens_0=>?_)
 refine tCall e_witness_counts (c_counts) [] ?_
 refine tz [9,0,1,2] ?_
 refine tLoop (L59_0 l cl Xe) (((0:Int),0)) ⟨by omega,by omega,rfl⟩ ?_
 rintro ⟨x1_0,x1_1⟩ hJ1
 dsimp only [L59_0,L59_0_J] at hJ1
 refine tz [12,11,10,4,0,2] ?_
 refine tCond (decide (x1_0<(↑l.length:Int))) (fun h2=>?_) (fun h2=>?_)
 ·refine RunF.cut (fun _:Unit=>St.mk 53 (z57_2 x1_0 l) [z57_4 l,z57_3 cl,Reg.ro [C.h 0],Reg.ro [C.h 1],Reg.froz Xe,Reg.ext Xe x1_1 true,z57_1,z57_6 l x1_0] []) (fun _=>True) ?_ ?_
  ·exact tTo (fun x=>St.mk 53 (z57_2 x1_0 l) [z57_4 l,z57_3 cl,Reg.ro [C.h 0],Reg.ro [C.h 1],Reg.froz Xe,Reg.ext Xe x1_1 true,z57_1,z57_6 l x1_0] []) (fun x=>True) () trivial (vc:=[(0:Int)≤x1_0,x1_0<(↑l.length:Int),x1_0.toNat<l.length]) (hv:=(by simp only [Conj,Fits,i64_min,i64_max,u8_min,u8_max,News.len,maxLen]<;>(repeat' (first | apply And.intro | intro _))<;>first | grind | (have hx:=of_decide_eq_true h2;have hq1:=hq x1_0.toNat (by omega);omega) | (simp only [BL] at *;omega)))
  ·rintro ⟨⟩ _
   rcases (show (l.getD x1_0.toNat default).kind=(1:Int)∨(l.getD x1_0.toNat default).kind=(2:Int)∨(l.getD x1_0.toNat default).kind=(3:Int)∨(l.getD x1_0.toNat default).kind=(4:Int)∨(l.getD x1_0.toNat default).kind=(5:Int)∨(l.getD x1_0.toNat default).kind=(6:Int)∨(l.getD x1_0.toNat default).kind=(7:Int) from (by have hx:=of_decide_eq_true h2;have hq1:=hq x1_0.toNat (by omega);omega)) with hs3 | hs3 | hs3 | hs3 | hs3 | hs3 | hs3
   ·refine tWk (St.mk 53 (z57_2 x1_0 l) [z57_4 l,z57_3 cl,Reg.ro [C.h 0],Reg.ro [C.h 1],Reg.froz Xe,Reg.ext Xe x1_1 true,z57_1,Reg.box 123 [C.i .u8 1,z57_9 l x1_0,z57_8 l x1_0,z57_10 l x1_0,z57_11 l x1_0,C.b (l.getD x1_0.toNat default).own,z57_12 l x1_0]] []) ?_ [] [8] [(1:Int)=(l.getD x1_0.toNat default).kind] (by simp only [Conj];(repeat' apply And.intro)<;>first | trivial | rfl | (intros;rfl) | (exact Eq.symm (by assumption)) | grind)
    refine tz [6,12,11,10,4,0,2] ?_
    refine tCall e_witness_counts_1 (c_cnt1 (x:=(decide ((1:Int)=(1:Int))||decide ((1:Int)=(2:Int))||decide ((1:Int)=(3:Int)))&&decide ((cl.getD (l.getD x1_0.toNat default).thing.toNat default).kind=(3:Int)))) [] ?_ (vc:=[(decide ((1:Int)=(1:Int))||decide ((1:Int)=(2:Int))||decide ((1:Int)=(3:Int)))=true→(0:Int)≤(l.getD x1_0.toNat default).thing,(decide ((1:Int)=(1:Int))||decide ((1:Int)=(2:Int))||decide ((1:Int)=(3:Int)))=true→(l.getD x1_0.toNat default).thing<(↑cl.length:Int),(decide ((1:Int)=(1:Int))||decide ((1:Int)=(2:Int))||decide ((1:Int)=(3:Int)))=true→(l.getD x1_0.toNat default).thing.toNat<cl.length,(0:Int)≤(1:Int),(1:Int)<(8:Int)]) (hv:=(by simp only [Conj,Fits,i64_min,i64_max,u8_min,u8_max,News.len,maxLen]<;>(repeat' (first | apply And.intro | intro _))<;>first | grind | (have hx:=of_decide_eq_true h2;have hq1:=hq x1_0.toNat (by omega);omega) | (simp only [BL] at *;omega)))
    refine tz [44,6,12,11,10,4,0,2] ?_
    refine tCond ((decide ((1:Int)=(1:Int))||decide ((1:Int)=(2:Int))||decide ((1:Int)=(3:Int)))&&decide (z57_5 cl l x1_0)) (fun h4=>?_) (fun h4=>?_)
    ·refine tz [48,46,45,12,11,10,4,0,2] ?_
     refine tYield hy 5 4 x1_1 (z57_7 l x1_0) (by have hx:=of_decide_eq_true h2;rw [hn,hJ1.2.2];exact (vis_here hJ1.1 hx (by first | exact visR hs3 (by decide) h4 | exact visA (.inl hs3) | exact visA (.inr (.inl hs3)) | exact visA (.inr (.inr hs3)) | exact visNo hs3)).1) (by have hx:=of_decide_eq_true h2;rw [he];dsimp only;rw [hJ1.2.2,(vis_here hJ1.1 hx (by first | exact visR hs3 (by decide) h4 | exact visA (.inl hs3) | exact visA (.inr (.inl hs3)) | exact visA (.inr (.inr hs3)) | exact visNo hs3)).2]) (fun al5=>?_)
     refine tz [49,45,12,11,10,4,0,2] ?_
     refine tCond (!al5) (fun h6=>?_) (fun h6=>?_)
     ·exact tRet (res:=(SV.tup [])) (post:=([Reg.dead,Reg.dead,Reg.dead,Reg.dead,Reg.dead,Reg.ext Xe (x1_1+1) al5])) (hS:=⟨x1_1+1,al5,(by first | (intro _;rw [hn,hJ1.2.2,show x1_0.toNat=l.length by (simp only [BL] at *;omega)]) | (intro h;subst h;simp at *)),rfl⟩)
     ·exact tNext (L59_0 l cl Xe) (x1_0,x1_1) ((x1_0+(1:Int),x1_1+1)) (by dsimp only [L59_0,L59_0_m];(try simp only [decide_eq_true_eq] at *);omega) (by have hx:=of_decide_eq_true h2;refine ⟨by omega,by omega,?_⟩;first | (rw [vis_skip hJ1.1 (by first | exact visR hs3 (by decide) h4 | exact visA (.inl hs3) | exact visA (.inr (.inl hs3)) | exact visA (.inr (.inr hs3)) | exact visNo hs3)];exact hJ1.2.2) | (rw [vis_take hJ1.1 (by first | exact visR hs3 (by decide) h4 | exact visA (.inl hs3) | exact visA (.inr (.inl hs3)) | exact visA (.inr (.inr hs3)) | exact visNo hs3),List.length_append,← hJ1.2.2];rfl)) [] [7] [true=al5] (by simp only [Conj];(repeat' apply And.intro)<;>first | trivial | rfl | (intros;rfl) | (intros;trivial) | grind) (vc:=[Fits IntKind.i64 (x1_0+(1:Int))]) (hv:=(by simp only [Conj,Fits,i64_min,i64_max,u8_min,u8_max,News.len,maxLen]<;>(repeat' (first | apply And.intro | intro _))<;>first | grind | (have hx:=of_decide_eq_true h2;have hq1:=hq x1_0.toNat (by omega);omega) | (simp only [BL] at *;omega)))
    ·exact tNext (L59_0 l cl Xe) (x1_0,x1_1) ((x1_0+(1:Int),x1_1)) (by dsimp only [L59_0,L59_0_m];(try simp only [decide_eq_true_eq] at *);omega) (by have hx:=of_decide_eq_true h2;refine ⟨by omega,by omega,?_⟩;first | (rw [vis_skip hJ1.1 (by first | exact visR hs3 (by decide) h4 | exact visA (.inl hs3) | exact visA (.inr (.inl hs3)) | exact visA (.inr (.inr hs3)) | exact visNo hs3)];exact hJ1.2.2) | (rw [vis_take hJ1.1 (by first | exact visR hs3 (by decide) h4 | exact visA (.inl hs3) | exact visA (.inr (.inl hs3)) | exact visA (.inr (.inr hs3)) | exact visNo hs3),List.length_append,← hJ1.2.2];rfl)) (vc:=[Fits IntKind.i64 (x1_0+(1:Int))]) (hv:=(by simp only [Conj,Fits,i64_min,i64_max,u8_min,u8_max,News.len,maxLen]<;>(repeat' (first | apply And.intro | intro _))<;>first | grind | (have hx:=of_decide_eq_true h2;have hq1:=hq x1_0.toNat (by omega);omega) | (simp only [BL] at *;omega)))
   ·refine tWk (St.mk 53 (z57_2 x1_0 l) [z57_4 l,z57_3 cl,Reg.ro [C.h 0],Reg.ro [C.h 1],Reg.froz Xe,Reg.ext Xe x1_1 true,z57_1,Reg.box 123 [C.i .u8 2,z57_9 l x1_0,z57_8 l x1_0,z57_10 l x1_0,z57_11 l x1_0,C.b (l.getD x1_0.toNat default).own,z57_12 l x1_0]] []) ?_ [] [8] [(2:Int)=(l.getD x1_0.toNat default).kind] (by simp only [Conj];(repeat' apply And.intro)<;>first | trivial | rfl | (intros;rfl) | (exact Eq.symm (by assumption)) | grind)
    refine tz [6,12,11,10,4,0,2] ?_
    refine tCall e_witness_counts_1 (c_cnt1 (x:=(decide ((2:Int)=(1:Int))||decide ((2:Int)=(2:Int))||decide ((2:Int)=(3:Int)))&&decide ((cl.getD (l.getD x1_0.toNat default).thing.toNat default).kind=(3:Int)))) [] ?_ (vc:=[(decide ((2:Int)=(1:Int))||decide ((2:Int)=(2:Int))||decide ((2:Int)=(3:Int)))=true→(0:Int)≤(l.getD x1_0.toNat default).thing,(decide ((2:Int)=(1:Int))||decide ((2:Int)=(2:Int))||decide ((2:Int)=(3:Int)))=true→(l.getD x1_0.toNat default).thing<(↑cl.length:Int),(decide ((2:Int)=(1:Int))||decide ((2:Int)=(2:Int))||decide ((2:Int)=(3:Int)))=true→(l.getD x1_0.toNat default).thing.toNat<cl.length,(0:Int)≤(2:Int),(2:Int)<(8:Int)]) (hv:=(by simp only [Conj,Fits,i64_min,i64_max,u8_min,u8_max,News.len,maxLen]<;>(repeat' (first | apply And.intro | intro _))<;>first | grind | (have hx:=of_decide_eq_true h2;have hq1:=hq x1_0.toNat (by omega);omega) | (simp only [BL] at *;omega)))
    refine tz [44,6,12,11,10,4,0,2] ?_
    refine tCond ((decide ((2:Int)=(1:Int))||decide ((2:Int)=(2:Int))||decide ((2:Int)=(3:Int)))&&decide (z57_5 cl l x1_0)) (fun h4=>?_) (fun h4=>?_)
    ·refine tz [48,46,45,12,11,10,4,0,2] ?_
     refine tYield hy 5 4 x1_1 (z57_7 l x1_0) (by have hx:=of_decide_eq_true h2;rw [hn,hJ1.2.2];exact (vis_here hJ1.1 hx (by first | exact visR hs3 (by decide) h4 | exact visA (.inl hs3) | exact visA (.inr (.inl hs3)) | exact visA (.inr (.inr hs3)) | exact visNo hs3)).1) (by have hx:=of_decide_eq_true h2;rw [he];dsimp only;rw [hJ1.2.2,(vis_here hJ1.1 hx (by first | exact visR hs3 (by decide) h4 | exact visA (.inl hs3) | exact visA (.inr (.inl hs3)) | exact visA (.inr (.inr hs3)) | exact visNo hs3)).2]) (fun al5=>?_)
     refine tz [49,45,12,11,10,4,0,2] ?_
     refine tCond (!al5) (fun h6=>?_) (fun h6=>?_)
     ·exact tRet (res:=(SV.tup [])) (post:=([Reg.dead,Reg.dead,Reg.dead,Reg.dead,Reg.dead,Reg.ext Xe (x1_1+1) al5])) (hS:=⟨x1_1+1,al5,(by first | (intro _;rw [hn,hJ1.2.2,show x1_0.toNat=l.length by (simp only [BL] at *;omega)]) | (intro h;subst h;simp at *)),rfl⟩)
     ·exact tNext (L59_0 l cl Xe) (x1_0,x1_1) ((x1_0+(1:Int),x1_1+1)) (by dsimp only [L59_0,L59_0_m];(try simp only [decide_eq_true_eq] at *);omega) (by have hx:=of_decide_eq_true h2;refine ⟨by omega,by omega,?_⟩;first | (rw [vis_skip hJ1.1 (by first | exact visR hs3 (by decide) h4 | exact visA (.inl hs3) | exact visA (.inr (.inl hs3)) | exact visA (.inr (.inr hs3)) | exact visNo hs3)];exact hJ1.2.2) | (rw [vis_take hJ1.1 (by first | exact visR hs3 (by decide) h4 | exact visA (.inl hs3) | exact visA (.inr (.inl hs3)) | exact visA (.inr (.inr hs3)) | exact visNo hs3),List.length_append,← hJ1.2.2];rfl)) [] [7] [true=al5] (by simp only [Conj];(repeat' apply And.intro)<;>first | trivial | rfl | (intros;rfl) | (intros;trivial) | grind) (vc:=[Fits IntKind.i64 (x1_0+(1:Int))]) (hv:=(by simp only [Conj,Fits,i64_min,i64_max,u8_min,u8_max,News.len,maxLen]<;>(repeat' (first | apply And.intro | intro _))<;>first | grind | (have hx:=of_decide_eq_true h2;have hq1:=hq x1_0.toNat (by omega);omega) | (simp only [BL] at *;omega)))
    ·exact tNext (L59_0 l cl Xe) (x1_0,x1_1) ((x1_0+(1:Int),x1_1)) (by dsimp only [L59_0,L59_0_m];(try simp only [decide_eq_true_eq] at *);omega) (by have hx:=of_decide_eq_true h2;refine ⟨by omega,by omega,?_⟩;first | (rw [vis_skip hJ1.1 (by first | exact visR hs3 (by decide) h4 | exact visA (.inl hs3) | exact visA (.inr (.inl hs3)) | exact visA (.inr (.inr hs3)) | exact visNo hs3)];exact hJ1.2.2) | (rw [vis_take hJ1.1 (by first | exact visR hs3 (by decide) h4 | exact visA (.inl hs3) | exact visA (.inr (.inl hs3)) | exact visA (.inr (.inr hs3)) | exact visNo hs3),List.length_append,← hJ1.2.2];rfl)) (vc:=[Fits IntKind.i64 (x1_0+(1:Int))]) (hv:=(by simp only [Conj,Fits,i64_min,i64_max,u8_min,u8_max,News.len,maxLen]<;>(repeat' (first | apply And.intro | intro _))<;>first | grind | (have hx:=of_decide_eq_true h2;have hq1:=hq x1_0.toNat (by omega);omega) | (simp only [BL] at *;omega)))
   ·refine tWk (St.mk 53 (z57_2 x1_0 l) [z57_4 l,z57_3 cl,Reg.ro [C.h 0],Reg.ro [C.h 1],Reg.froz Xe,Reg.ext Xe x1_1 true,z57_1,Reg.box 123 [C.i .u8 3,z57_9 l x1_0,z57_8 l x1_0,z57_10 l x1_0,z57_11 l x1_0,C.b (l.getD x1_0.toNat default).own,z57_12 l x1_0]] []) ?_ [] [8] [(3:Int)=(l.getD x1_0.toNat default).kind] (by simp only [Conj];(repeat' apply And.intro)<;>first | trivial | rfl | (intros;rfl) | (exact Eq.symm (by assumption)) | grind)
    refine tz [6,12,11,10,4,0,2] ?_
    refine tCall e_witness_counts_1 (c_cnt1 (x:=(decide ((3:Int)=(1:Int))||decide ((3:Int)=(2:Int))||decide ((3:Int)=(3:Int)))&&decide ((cl.getD (l.getD x1_0.toNat default).thing.toNat default).kind=(3:Int)))) [] ?_ (vc:=[(decide ((3:Int)=(1:Int))||decide ((3:Int)=(2:Int))||decide ((3:Int)=(3:Int)))=true→(0:Int)≤(l.getD x1_0.toNat default).thing,(decide ((3:Int)=(1:Int))||decide ((3:Int)=(2:Int))||decide ((3:Int)=(3:Int)))=true→(l.getD x1_0.toNat default).thing<(↑cl.length:Int),(decide ((3:Int)=(1:Int))||decide ((3:Int)=(2:Int))||decide ((3:Int)=(3:Int)))=true→(l.getD x1_0.toNat default).thing.toNat<cl.length,(0:Int)≤(3:Int),(3:Int)<(8:Int)]) (hv:=(by simp only [Conj,Fits,i64_min,i64_max,u8_min,u8_max,News.len,maxLen]<;>(repeat' (first | apply And.intro | intro _))<;>first | grind | (have hx:=of_decide_eq_true h2;have hq1:=hq x1_0.toNat (by omega);omega) | (simp only [BL] at *;omega)))
    refine tz [44,6,12,11,10,4,0,2] ?_
    refine tCond ((decide ((3:Int)=(1:Int))||decide ((3:Int)=(2:Int))||decide ((3:Int)=(3:Int)))&&decide (z57_5 cl l x1_0)) (fun h4=>?_) (fun h4=>?_)
    ·refine tz [48,46,45,12,11,10,4,0,2] ?_
     refine tYield hy 5 4 x1_1 (z57_7 l x1_0) (by have hx:=of_decide_eq_true h2;rw [hn,hJ1.2.2];exact (vis_here hJ1.1 hx (by first | exact visR hs3 (by decide) h4 | exact visA (.inl hs3) | exact visA (.inr (.inl hs3)) | exact visA (.inr (.inr hs3)) | exact visNo hs3)).1) (by have hx:=of_decide_eq_true h2;rw [he];dsimp only;rw [hJ1.2.2,(vis_here hJ1.1 hx (by first | exact visR hs3 (by decide) h4 | exact visA (.inl hs3) | exact visA (.inr (.inl hs3)) | exact visA (.inr (.inr hs3)) | exact visNo hs3)).2]) (fun al5=>?_)
     refine tz [49,45,12,11,10,4,0,2] ?_
     refine tCond (!al5) (fun h6=>?_) (fun h6=>?_)
     ·exact tRet (res:=(SV.tup [])) (post:=([Reg.dead,Reg.dead,Reg.dead,Reg.dead,Reg.dead,Reg.ext Xe (x1_1+1) al5])) (hS:=⟨x1_1+1,al5,(by first | (intro _;rw [hn,hJ1.2.2,show x1_0.toNat=l.length by (simp only [BL] at *;omega)]) | (intro h;subst h;simp at *)),rfl⟩)
     ·exact tNext (L59_0 l cl Xe) (x1_0,x1_1) ((x1_0+(1:Int),x1_1+1)) (by dsimp only [L59_0,L59_0_m];(try simp only [decide_eq_true_eq] at *);omega) (by have hx:=of_decide_eq_true h2;refine ⟨by omega,by omega,?_⟩;first | (rw [vis_skip hJ1.1 (by first | exact visR hs3 (by decide) h4 | exact visA (.inl hs3) | exact visA (.inr (.inl hs3)) | exact visA (.inr (.inr hs3)) | exact visNo hs3)];exact hJ1.2.2) | (rw [vis_take hJ1.1 (by first | exact visR hs3 (by decide) h4 | exact visA (.inl hs3) | exact visA (.inr (.inl hs3)) | exact visA (.inr (.inr hs3)) | exact visNo hs3),List.length_append,← hJ1.2.2];rfl)) [] [7] [true=al5] (by simp only [Conj];(repeat' apply And.intro)<;>first | trivial | rfl | (intros;rfl) | (intros;trivial) | grind) (vc:=[Fits IntKind.i64 (x1_0+(1:Int))]) (hv:=(by simp only [Conj,Fits,i64_min,i64_max,u8_min,u8_max,News.len,maxLen]<;>(repeat' (first | apply And.intro | intro _))<;>first | grind | (have hx:=of_decide_eq_true h2;have hq1:=hq x1_0.toNat (by omega);omega) | (simp only [BL] at *;omega)))
    ·exact tNext (L59_0 l cl Xe) (x1_0,x1_1) ((x1_0+(1:Int),x1_1)) (by dsimp only [L59_0,L59_0_m];(try simp only [decide_eq_true_eq] at *);omega) (by have hx:=of_decide_eq_true h2;refine ⟨by omega,by omega,?_⟩;first | (rw [vis_skip hJ1.1 (by first | exact visR hs3 (by decide) h4 | exact visA (.inl hs3) | exact visA (.inr (.inl hs3)) | exact visA (.inr (.inr hs3)) | exact visNo hs3)];exact hJ1.2.2) | (rw [vis_take hJ1.1 (by first | exact visR hs3 (by decide) h4 | exact visA (.inl hs3) | exact visA (.inr (.inl hs3)) | exact visA (.inr (.inr hs3)) | exact visNo hs3),List.length_append,← hJ1.2.2];rfl)) (vc:=[Fits IntKind.i64 (x1_0+(1:Int))]) (hv:=(by simp only [Conj,Fits,i64_min,i64_max,u8_min,u8_max,News.len,maxLen]<;>(repeat' (first | apply And.intro | intro _))<;>first | grind | (have hx:=of_decide_eq_true h2;have hq1:=hq x1_0.toNat (by omega);omega) | (simp only [BL] at *;omega)))
   ·refine tWk (St.mk 53 (z57_2 x1_0 l) [z57_4 l,z57_3 cl,Reg.ro [C.h 0],Reg.ro [C.h 1],Reg.froz Xe,Reg.ext Xe x1_1 true,z57_1,Reg.box 123 [C.i .u8 4,z57_9 l x1_0,z57_8 l x1_0,z57_10 l x1_0,z57_11 l x1_0,C.b (l.getD x1_0.toNat default).own,z57_12 l x1_0]] []) ?_ [] [8] [(4:Int)=(l.getD x1_0.toNat default).kind] (by simp only [Conj];(repeat' apply And.intro)<;>first | trivial | rfl | (intros;rfl) | (exact Eq.symm (by assumption)) | grind)
    refine tz [6,12,11,10,4,0,2] ?_
    refine tCall e_witness_counts_2 (c_cnt2 (x:=(decide ((4:Int)=(1:Int))||decide ((4:Int)=(2:Int))||decide ((4:Int)=(3:Int)))&&decide ((cl.getD (l.getD x1_0.toNat default).thing.toNat default).kind=(3:Int)))) [] ?_ [0] [((decide ((4:Int)=(1:Int))||decide ((4:Int)=(2:Int))||decide ((4:Int)=(3:Int)))&&decide (z57_5 cl l x1_0))=false] (by (try simp only [Conj])<;>(repeat' apply And.intro)<;>first | done | trivial | rfl | (intros;first | rfl | trivial) | exact snoc_len _ _ | exact List.length_set | exact set_ints _ _ _ | exact take_row _ _ _ _ _ | (exact take_len _ _ _ (by first | omega | (have h0:=askE_ok (by simpa using h1);have hm:=evE_mem h0.1;have hs:=evE_ok h0.1;omega))) | exact MpEq.put (by omega) | (refine MpEq.mk' (by omega) ?_ ?_<;>intro q<;>first | rfl | (dsimp only;split<;>simp_all)) | (exact MpEq.mkIt (by omega) (fun _=>rfl) (fun _=>rfl) rfl rfl (fun _=>rfl)) | (intro i h1 h2;rw [snoc_lo h1 h2]) | (rw [getD_snoc];rfl)) (vc:=[(decide ((4:Int)=(1:Int))||decide ((4:Int)=(2:Int))||decide ((4:Int)=(3:Int)))=true→(0:Int)≤(l.getD x1_0.toNat default).thing,(decide ((4:Int)=(1:Int))||decide ((4:Int)=(2:Int))||decide ((4:Int)=(3:Int)))=true→(l.getD x1_0.toNat default).thing<(↑cl.length:Int),(decide ((4:Int)=(1:Int))||decide ((4:Int)=(2:Int))||decide ((4:Int)=(3:Int)))=true→(l.getD x1_0.toNat default).thing.toNat<cl.length,(0:Int)≤(4:Int),(4:Int)<(8:Int)]) (hv:=(by simp only [Conj,Fits,i64_min,i64_max,u8_min,u8_max,News.len,maxLen]<;>(repeat' (first | apply And.intro | intro _))<;>first | grind | (have hx:=of_decide_eq_true h2;have hq1:=hq x1_0.toNat (by omega);omega) | (simp only [BL] at *;omega)))
    refine tz [44,6,12,11,10,4,0,2] ?_
    refine tYield hy 5 4 x1_1 (z57_7 l x1_0) (by have hx:=of_decide_eq_true h2;rw [hn,hJ1.2.2];exact (vis_here hJ1.1 hx (by first | exact visR hs3 (by decide) h4 | exact visA (.inl hs3) | exact visA (.inr (.inl hs3)) | exact visA (.inr (.inr hs3)) | exact visNo hs3)).1) (by have hx:=of_decide_eq_true h2;rw [he];dsimp only;rw [hJ1.2.2,(vis_here hJ1.1 hx (by first | exact visR hs3 (by decide) h4 | exact visA (.inl hs3) | exact visA (.inr (.inl hs3)) | exact visA (.inr (.inr hs3)) | exact visNo hs3)).2]) (fun al4=>?_)
    refine tz [49,45,12,11,10,4,0,2] ?_
    refine tCond (!al4) (fun h5=>?_) (fun h5=>?_)
    ·exact tRet (res:=(SV.tup [])) (post:=([Reg.dead,Reg.dead,Reg.dead,Reg.dead,Reg.dead,Reg.ext Xe (x1_1+1) al4])) (hS:=⟨x1_1+1,al4,(by first | (intro _;rw [hn,hJ1.2.2,show x1_0.toNat=l.length by (simp only [BL] at *;omega)]) | (intro h;subst h;simp at *)),rfl⟩)
    ·exact tNext (L59_0 l cl Xe) (x1_0,x1_1) ((x1_0+(1:Int),x1_1+1)) (by dsimp only [L59_0,L59_0_m];(try simp only [decide_eq_true_eq] at *);omega) (by have hx:=of_decide_eq_true h2;refine ⟨by omega,by omega,?_⟩;first | (rw [vis_skip hJ1.1 (by first | exact visR hs3 (by decide) h4 | exact visA (.inl hs3) | exact visA (.inr (.inl hs3)) | exact visA (.inr (.inr hs3)) | exact visNo hs3)];exact hJ1.2.2) | (rw [vis_take hJ1.1 (by first | exact visR hs3 (by decide) h4 | exact visA (.inl hs3) | exact visA (.inr (.inl hs3)) | exact visA (.inr (.inr hs3)) | exact visNo hs3),List.length_append,← hJ1.2.2];rfl)) [] [7] [true=al4] (by simp only [Conj];(repeat' apply And.intro)<;>first | trivial | rfl | (intros;rfl) | (intros;trivial) | grind) (vc:=[Fits IntKind.i64 (x1_0+(1:Int))]) (hv:=(by simp only [Conj,Fits,i64_min,i64_max,u8_min,u8_max,News.len,maxLen]<;>(repeat' (first | apply And.intro | intro _))<;>first | grind | (have hx:=of_decide_eq_true h2;have hq1:=hq x1_0.toNat (by omega);omega) | (simp only [BL] at *;omega)))
   ·refine tWk (St.mk 53 (z57_2 x1_0 l) [z57_4 l,z57_3 cl,Reg.ro [C.h 0],Reg.ro [C.h 1],Reg.froz Xe,Reg.ext Xe x1_1 true,z57_1,Reg.box 123 [C.i .u8 5,z57_9 l x1_0,z57_8 l x1_0,z57_10 l x1_0,z57_11 l x1_0,C.b (l.getD x1_0.toNat default).own,z57_12 l x1_0]] []) ?_ [] [8] [(5:Int)=(l.getD x1_0.toNat default).kind] (by simp only [Conj];(repeat' apply And.intro)<;>first | trivial | rfl | (intros;rfl) | (exact Eq.symm (by assumption)) | grind)
    refine tz [6,12,11,10,4,0,2] ?_
    refine tCall e_witness_counts_2 (c_cnt2 (x:=(decide ((5:Int)=(1:Int))||decide ((5:Int)=(2:Int))||decide ((5:Int)=(3:Int)))&&decide ((cl.getD (l.getD x1_0.toNat default).thing.toNat default).kind=(3:Int)))) [] ?_ [0] [((decide ((5:Int)=(1:Int))||decide ((5:Int)=(2:Int))||decide ((5:Int)=(3:Int)))&&decide (z57_5 cl l x1_0))=false] (by (try simp only [Conj])<;>(repeat' apply And.intro)<;>first | done | trivial | rfl | (intros;first | rfl | trivial) | exact snoc_len _ _ | exact List.length_set | exact set_ints _ _ _ | exact take_row _ _ _ _ _ | (exact take_len _ _ _ (by first | omega | (have h0:=askE_ok (by simpa using h1);have hm:=evE_mem h0.1;have hs:=evE_ok h0.1;omega))) | exact MpEq.put (by omega) | (refine MpEq.mk' (by omega) ?_ ?_<;>intro q<;>first | rfl | (dsimp only;split<;>simp_all)) | (exact MpEq.mkIt (by omega) (fun _=>rfl) (fun _=>rfl) rfl rfl (fun _=>rfl)) | (intro i h1 h2;rw [snoc_lo h1 h2]) | (rw [getD_snoc];rfl)) (vc:=[(decide ((5:Int)=(1:Int))||decide ((5:Int)=(2:Int))||decide ((5:Int)=(3:Int)))=true→(0:Int)≤(l.getD x1_0.toNat default).thing,(decide ((5:Int)=(1:Int))||decide ((5:Int)=(2:Int))||decide ((5:Int)=(3:Int)))=true→(l.getD x1_0.toNat default).thing<(↑cl.length:Int),(decide ((5:Int)=(1:Int))||decide ((5:Int)=(2:Int))||decide ((5:Int)=(3:Int)))=true→(l.getD x1_0.toNat default).thing.toNat<cl.length,(0:Int)≤(5:Int),(5:Int)<(8:Int)]) (hv:=(by simp only [Conj,Fits,i64_min,i64_max,u8_min,u8_max,News.len,maxLen]<;>(repeat' (first | apply And.intro | intro _))<;>first | grind | (have hx:=of_decide_eq_true h2;have hq1:=hq x1_0.toNat (by omega);omega) | (simp only [BL] at *;omega)))
    refine tz [44,6,12,11,10,4,0,2] ?_
    refine tYield hy 5 4 x1_1 (z57_7 l x1_0) (by have hx:=of_decide_eq_true h2;rw [hn,hJ1.2.2];exact (vis_here hJ1.1 hx (by first | exact visR hs3 (by decide) h4 | exact visA (.inl hs3) | exact visA (.inr (.inl hs3)) | exact visA (.inr (.inr hs3)) | exact visNo hs3)).1) (by have hx:=of_decide_eq_true h2;rw [he];dsimp only;rw [hJ1.2.2,(vis_here hJ1.1 hx (by first | exact visR hs3 (by decide) h4 | exact visA (.inl hs3) | exact visA (.inr (.inl hs3)) | exact visA (.inr (.inr hs3)) | exact visNo hs3)).2]) (fun al4=>?_)
    refine tz [49,45,12,11,10,4,0,2] ?_
    refine tCond (!al4) (fun h5=>?_) (fun h5=>?_)
    ·exact tRet (res:=(SV.tup [])) (post:=([Reg.dead,Reg.dead,Reg.dead,Reg.dead,Reg.dead,Reg.ext Xe (x1_1+1) al4])) (hS:=⟨x1_1+1,al4,(by first | (intro _;rw [hn,hJ1.2.2,show x1_0.toNat=l.length by (simp only [BL] at *;omega)]) | (intro h;subst h;simp at *)),rfl⟩)
    ·exact tNext (L59_0 l cl Xe) (x1_0,x1_1) ((x1_0+(1:Int),x1_1+1)) (by dsimp only [L59_0,L59_0_m];(try simp only [decide_eq_true_eq] at *);omega) (by have hx:=of_decide_eq_true h2;refine ⟨by omega,by omega,?_⟩;first | (rw [vis_skip hJ1.1 (by first | exact visR hs3 (by decide) h4 | exact visA (.inl hs3) | exact visA (.inr (.inl hs3)) | exact visA (.inr (.inr hs3)) | exact visNo hs3)];exact hJ1.2.2) | (rw [vis_take hJ1.1 (by first | exact visR hs3 (by decide) h4 | exact visA (.inl hs3) | exact visA (.inr (.inl hs3)) | exact visA (.inr (.inr hs3)) | exact visNo hs3),List.length_append,← hJ1.2.2];rfl)) [] [7] [true=al4] (by simp only [Conj];(repeat' apply And.intro)<;>first | trivial | rfl | (intros;rfl) | (intros;trivial) | grind) (vc:=[Fits IntKind.i64 (x1_0+(1:Int))]) (hv:=(by simp only [Conj,Fits,i64_min,i64_max,u8_min,u8_max,News.len,maxLen]<;>(repeat' (first | apply And.intro | intro _))<;>first | grind | (have hx:=of_decide_eq_true h2;have hq1:=hq x1_0.toNat (by omega);omega) | (simp only [BL] at *;omega)))
   ·refine tWk (St.mk 53 (z57_2 x1_0 l) [z57_4 l,z57_3 cl,Reg.ro [C.h 0],Reg.ro [C.h 1],Reg.froz Xe,Reg.ext Xe x1_1 true,z57_1,Reg.box 123 [C.i .u8 6,z57_9 l x1_0,z57_8 l x1_0,z57_10 l x1_0,z57_11 l x1_0,C.b (l.getD x1_0.toNat default).own,z57_12 l x1_0]] []) ?_ [] [8] [(6:Int)=(l.getD x1_0.toNat default).kind] (by simp only [Conj];(repeat' apply And.intro)<;>first | trivial | rfl | (intros;rfl) | (exact Eq.symm (by assumption)) | grind)
    refine tz [6,12,11,10,4,0,2] ?_
    refine tCall e_witness_counts_2 (c_cnt2 (x:=(decide ((6:Int)=(1:Int))||decide ((6:Int)=(2:Int))||decide ((6:Int)=(3:Int)))&&decide ((cl.getD (l.getD x1_0.toNat default).thing.toNat default).kind=(3:Int)))) [] ?_ [0] [((decide ((6:Int)=(1:Int))||decide ((6:Int)=(2:Int))||decide ((6:Int)=(3:Int)))&&decide (z57_5 cl l x1_0))=false] (by (try simp only [Conj])<;>(repeat' apply And.intro)<;>first | done | trivial | rfl | (intros;first | rfl | trivial) | exact snoc_len _ _ | exact List.length_set | exact set_ints _ _ _ | exact take_row _ _ _ _ _ | (exact take_len _ _ _ (by first | omega | (have h0:=askE_ok (by simpa using h1);have hm:=evE_mem h0.1;have hs:=evE_ok h0.1;omega))) | exact MpEq.put (by omega) | (refine MpEq.mk' (by omega) ?_ ?_<;>intro q<;>first | rfl | (dsimp only;split<;>simp_all)) | (exact MpEq.mkIt (by omega) (fun _=>rfl) (fun _=>rfl) rfl rfl (fun _=>rfl)) | (intro i h1 h2;rw [snoc_lo h1 h2]) | (rw [getD_snoc];rfl)) (vc:=[(decide ((6:Int)=(1:Int))||decide ((6:Int)=(2:Int))||decide ((6:Int)=(3:Int)))=true→(0:Int)≤(l.getD x1_0.toNat default).thing,(decide ((6:Int)=(1:Int))||decide ((6:Int)=(2:Int))||decide ((6:Int)=(3:Int)))=true→(l.getD x1_0.toNat default).thing<(↑cl.length:Int),(decide ((6:Int)=(1:Int))||decide ((6:Int)=(2:Int))||decide ((6:Int)=(3:Int)))=true→(l.getD x1_0.toNat default).thing.toNat<cl.length,(0:Int)≤(6:Int),(6:Int)<(8:Int)]) (hv:=(by simp only [Conj,Fits,i64_min,i64_max,u8_min,u8_max,News.len,maxLen]<;>(repeat' (first | apply And.intro | intro _))<;>first | grind | (have hx:=of_decide_eq_true h2;have hq1:=hq x1_0.toNat (by omega);omega) | (simp only [BL] at *;omega)))
    refine tz [44,6,12,11,10,4,0,2] ?_
    refine tYield hy 5 4 x1_1 (z57_7 l x1_0) (by have hx:=of_decide_eq_true h2;rw [hn,hJ1.2.2];exact (vis_here hJ1.1 hx (by first | exact visR hs3 (by decide) h4 | exact visA (.inl hs3) | exact visA (.inr (.inl hs3)) | exact visA (.inr (.inr hs3)) | exact visNo hs3)).1) (by have hx:=of_decide_eq_true h2;rw [he];dsimp only;rw [hJ1.2.2,(vis_here hJ1.1 hx (by first | exact visR hs3 (by decide) h4 | exact visA (.inl hs3) | exact visA (.inr (.inl hs3)) | exact visA (.inr (.inr hs3)) | exact visNo hs3)).2]) (fun al4=>?_)
    refine tz [49,45,12,11,10,4,0,2] ?_
    refine tCond (!al4) (fun h5=>?_) (fun h5=>?_)
    ·exact tRet (res:=(SV.tup [])) (post:=([Reg.dead,Reg.dead,Reg.dead,Reg.dead,Reg.dead,Reg.ext Xe (x1_1+1) al4])) (hS:=⟨x1_1+1,al4,(by first | (intro _;rw [hn,hJ1.2.2,show x1_0.toNat=l.length by (simp only [BL] at *;omega)]) | (intro h;subst h;simp at *)),rfl⟩)
    ·exact tNext (L59_0 l cl Xe) (x1_0,x1_1) ((x1_0+(1:Int),x1_1+1)) (by dsimp only [L59_0,L59_0_m];(try simp only [decide_eq_true_eq] at *);omega) (by have hx:=of_decide_eq_true h2;refine ⟨by omega,by omega,?_⟩;first | (rw [vis_skip hJ1.1 (by first | exact visR hs3 (by decide) h4 | exact visA (.inl hs3) | exact visA (.inr (.inl hs3)) | exact visA (.inr (.inr hs3)) | exact visNo hs3)];exact hJ1.2.2) | (rw [vis_take hJ1.1 (by first | exact visR hs3 (by decide) h4 | exact visA (.inl hs3) | exact visA (.inr (.inl hs3)) | exact visA (.inr (.inr hs3)) | exact visNo hs3),List.length_append,← hJ1.2.2];rfl)) [] [7] [true=al4] (by simp only [Conj];(repeat' apply And.intro)<;>first | trivial | rfl | (intros;rfl) | (intros;trivial) | grind) (vc:=[Fits IntKind.i64 (x1_0+(1:Int))]) (hv:=(by simp only [Conj,Fits,i64_min,i64_max,u8_min,u8_max,News.len,maxLen]<;>(repeat' (first | apply And.intro | intro _))<;>first | grind | (have hx:=of_decide_eq_true h2;have hq1:=hq x1_0.toNat (by omega);omega) | (simp only [BL] at *;omega)))
   ·refine tWk (St.mk 53 (z57_2 x1_0 l) [z57_4 l,z57_3 cl,Reg.ro [C.h 0],Reg.ro [C.h 1],Reg.froz Xe,Reg.ext Xe x1_1 true,z57_1,Reg.box 123 [C.i .u8 7,z57_9 l x1_0,z57_8 l x1_0,z57_10 l x1_0,z57_11 l x1_0,C.b (l.getD x1_0.toNat default).own,z57_12 l x1_0]] []) ?_ [] [8] [(7:Int)=(l.getD x1_0.toNat default).kind] (by simp only [Conj];(repeat' apply And.intro)<;>first | trivial | rfl | (intros;rfl) | (exact Eq.symm (by assumption)) | grind)
    refine tz [6,12,11,10,4,0,2] ?_
    refine tCall e_witness_counts_3 (c_cnt3 (x:=(decide ((7:Int)=(1:Int))||decide ((7:Int)=(2:Int))||decide ((7:Int)=(3:Int)))&&decide ((cl.getD (l.getD x1_0.toNat default).thing.toNat default).kind=(3:Int)))) [] ?_ [0] [((decide ((7:Int)=(1:Int))||decide ((7:Int)=(2:Int))||decide ((7:Int)=(3:Int)))&&decide (z57_5 cl l x1_0))=false] (by (try simp only [Conj])<;>(repeat' apply And.intro)<;>first | done | trivial | rfl | (intros;first | rfl | trivial) | exact snoc_len _ _ | exact List.length_set | exact set_ints _ _ _ | exact take_row _ _ _ _ _ | (exact take_len _ _ _ (by first | omega | (have h0:=askE_ok (by simpa using h1);have hm:=evE_mem h0.1;have hs:=evE_ok h0.1;omega))) | exact MpEq.put (by omega) | (refine MpEq.mk' (by omega) ?_ ?_<;>intro q<;>first | rfl | (dsimp only;split<;>simp_all)) | (exact MpEq.mkIt (by omega) (fun _=>rfl) (fun _=>rfl) rfl rfl (fun _=>rfl)) | (intro i h1 h2;rw [snoc_lo h1 h2]) | (rw [getD_snoc];rfl)) (vc:=[(decide ((7:Int)=(1:Int))||decide ((7:Int)=(2:Int))||decide ((7:Int)=(3:Int)))=true→(0:Int)≤(l.getD x1_0.toNat default).thing,(decide ((7:Int)=(1:Int))||decide ((7:Int)=(2:Int))||decide ((7:Int)=(3:Int)))=true→(l.getD x1_0.toNat default).thing<(↑cl.length:Int),(decide ((7:Int)=(1:Int))||decide ((7:Int)=(2:Int))||decide ((7:Int)=(3:Int)))=true→(l.getD x1_0.toNat default).thing.toNat<cl.length,(0:Int)≤(7:Int),(7:Int)<(8:Int)]) (hv:=(by simp only [Conj,Fits,i64_min,i64_max,u8_min,u8_max,News.len,maxLen]<;>(repeat' (first | apply And.intro | intro _))<;>first | grind | (have hx:=of_decide_eq_true h2;have hq1:=hq x1_0.toNat (by omega);omega) | (simp only [BL] at *;omega)))
    exact tNext (L59_0 l cl Xe) (x1_0,x1_1) ((x1_0+(1:Int),x1_1)) (by dsimp only [L59_0,L59_0_m];(try simp only [decide_eq_true_eq] at *);omega) (by have hx:=of_decide_eq_true h2;refine ⟨by omega,by omega,?_⟩;first | (rw [vis_skip hJ1.1 (by first | exact visR hs3 (by decide) h4 | exact visA (.inl hs3) | exact visA (.inr (.inl hs3)) | exact visA (.inr (.inr hs3)) | exact visNo hs3)];exact hJ1.2.2) | (rw [vis_take hJ1.1 (by first | exact visR hs3 (by decide) h4 | exact visA (.inl hs3) | exact visA (.inr (.inl hs3)) | exact visA (.inr (.inr hs3)) | exact visNo hs3),List.length_append,← hJ1.2.2];rfl)) (vc:=[Fits IntKind.i64 (x1_0+(1:Int))]) (hv:=(by simp only [Conj,Fits,i64_min,i64_max,u8_min,u8_max,News.len,maxLen]<;>(repeat' (first | apply And.intro | intro _))<;>first | grind | (have hx:=of_decide_eq_true h2;have hq1:=hq x1_0.toNat (by omega);omega) | (simp only [BL] at *;omega)))
 ·exact tFin (res:=(SV.tup [])) (post:=([Reg.dead,Reg.dead,Reg.dead,Reg.dead,Reg.dead,Reg.ext Xe x1_1 true])) (hS:=⟨x1_1,true,(by first | (intro _;rw [hn,hJ1.2.2,show x1_0.toNat=l.length by (simp only [BL] at *;omega)]) | (intro h;subst h;simp at *)),rfl⟩)
end Go.Proofs.YtmjjikcappbkeaaGreat
end
noncomputable section
namespace Go.Proofs.YtmjjikcappbkeaaGreat
open Go Go.Tx
theorem c_always (k:Int):Ctr Tryz.prog 159 [] [.c (.i .u8 k)]
 (Det (.c (C.fn 188 false [0])) [Reg.box 121 [.i .u8 k]]):=by
 refine Ctr.intro [] Tryz.func159 K K ?_
 exact tRet
theorem c_on (k:Int):Ctr Tryz.prog 160 [] [.c (.i .u8 k)]
 (Det (.c (C.fn 189 false [0])) [Reg.box 121 [.i .u8 k]]):=by
 refine Ctr.intro [] Tryz.func160 K K ?_
 exact tRet
theorem c_always1 (w k:Int) (d:Did):Ctr Tryz.prog 188 [.ro [.i .u8 k]] [.c (.i .i64 w),.agg d.cs,.c (.p 0 0)]
 (Det (.c (.i .u8 k)) [.dead]):=by
 refine Ctr.intro [] Tryz.func188 K K ?_
 exact tRet
def onK (w k:Int):Int:=if w=1 then k else 0
def drK (w:Int) (d:Did):Int:=if w=2&&decide (d.word=0) then 5 else onK w 2
def swK (w:Int) (d:Did):Int:=if w=2&&decide (d.word=0)&&!decide (d.put=0) then 4 else onK w 3
theorem c_on1 (w k:Int) (d:Did):Ctr Tryz.prog 189 [.ro [.i .u8 k]] [.c (.i .i64 w),.agg d.cs,.c (.p 0 0)]
 (Det (.c (.i .u8 (onK w k))) [.dead]):=by
 refine Ctr.intro [] Tryz.func189 K K ?_
 refine tCond (decide (w=(1:Int))) (fun h1=>?_) (fun h1=>?_)
 ·exact tRet [] [0] [onK w k=k] (by simp only [Conj,onK] at *<;>grind)
 ·exact tRet [] [0] [onK w k=(0:Int)] (by simp only [Conj,onK] at *<;>grind)
theorem c_swapped (w:Int) (d:Did):Ctr Tryz.prog 161 [] [.c (.i .i64 w),.agg d.cs]
 (Det (.c (.i .u8 (swK w d))) []):=by
 refine Ctr.intro [] Tryz.func161 K K ?_
 refine tCond (decide (w=(2:Int))&&decide (d.word=(0:Int))&&!decide (d.put=(0:Int))) (fun h1=>?_) (fun h1=>?_)
 ·exact tRet [] [0] [swK w d=(4:Int)] (by simp only [Conj,swK,onK] at *<;>grind)
 ·refine tz [4,3,0] ?_
  refine tCall e_trace_on (c_on (k:=(3:Int))) [] ?_
  refine tz [17,19,18,4,3,0] ?_
  refine tCall e_trace_on_1 (c_on1 (w:=w) (k:=(3:Int)) (d:=d)) [1] ?_
  exact tRet [] [0] [swK w d=onK w (3:Int)] (by simp only [Conj,swK,onK] at *<;>grind)
theorem c_drained (w:Int) (d:Did):Ctr Tryz.prog 162 [] [.c (.i .i64 w),.agg d.cs]
 (Det (.c (.i .u8 (drK w d))) []):=by
 refine Ctr.intro [] Tryz.func162 K K ?_
 refine tCond (decide (w=(2:Int))&&decide (d.word=(0:Int))) (fun h1=>?_) (fun h1=>?_)
 ·exact tRet [] [0] [drK w d=(5:Int)] (by simp only [Conj,drK,onK] at *<;>grind)
 ·refine tz [4,3,0] ?_
  refine tCall e_trace_on (c_on (k:=(2:Int))) [] ?_
  refine tz [12,14,13,4,3,0] ?_
  refine tCall e_trace_on_1 (c_on1 (w:=w) (k:=(2:Int)) (d:=d)) [1] ?_
  exact tRet [] [0] [drK w d=onK w (2:Int)] (by simp only [Conj,drK,onK] at *<;>grind)
theorem c_formsT :Ctr Tryz.prog 117 [] []
 (Det (.agg ([.v (.string { data:=#[] }),.t false,.t false,.t false,.t false,.v Value.nilFunc]++[.v (.string { data:=#[99,111,109,112,117,116,101] }),.t false,.t false,.t false,.t false,C.fn 188 false [0]]++[.v (.string { data:=#[108,111,97,100] }),.t true,.t true,.t false,.t true,C.fn 189 false [1]]++[.v (.string { data:=#[115,116,111,114,101] }),.t true,.t true,.t false,.t false,C.fn 188 false [0]]++[.v (.string { data:=#[115,119,97,112] }),.t true,.t true,.t true,.t false,C.fn 161 false []]++[.v (.string { data:=#[102,101,110,99,101] }),.t false,.t false,.t false,.t false,C.fn 188 false [0]]++[.v (.string { data:=#[112,114,105,110,116] }),.t false,.t true,.t false,.t false,C.fn 188 false [2]]++[.v (.string { data:=#[104,97,108,116] }),.t false,.t false,.t false,.t false,C.fn 188 false [3]]++[.v (.string { data:=#[100,114,97,105,110] }),.t true,.t true,.t false,.t false,C.fn 162 false []])) [Reg.box 121 [.i .u8 0],Reg.box 121 [.i .u8 1],Reg.box 121 [.i .u8 6],Reg.box 121 [.i .u8 7]]):=by
 refine Ctr.intro [] Tryz.func117 K K ?_
 refine tCall e_trace_always (c_always (k:=(0:Int))) [] ?_
 refine tz [2,0] ?_
 refine tCall e_trace_on (c_on (k:=(1:Int))) [] ?_
 refine tz [5,4,1,0] ?_
 refine tCall e_trace_always (c_always (k:=(6:Int))) [] ?_
 refine tz [12,11,9,8,6,4,0] ?_
 refine tCall e_trace_always (c_always (k:=(7:Int))) [] ?_
 exact tRet [1,2,3,4]
abbrev z12_1:=Reg.box 218 [C.v (Value.string (ByteArray.mk #[])),C.t false,C.t false,C.t false,C.t false,C.v Value.nilFunc]
abbrev z12_2:=[En.mk 4 [] (SV.c (C.p 6 0)),En.mk 3 [] (SV.c (C.t false)),En.mk 2 [] (SV.c (C.p 1 0)),En.mk 1 [] (SV.c (C.p 0 0))]
abbrev z12_3:=Reg.box 218 [C.v (Value.string (ByteArray.mk #[(99:UInt8),(111:UInt8),(109:UInt8),(112:UInt8),(117:UInt8),(116:UInt8),(101:UInt8)])),C.t false,C.t false,C.t false,C.t false,C.fn 188 false [2]]
abbrev z12_4 (d:Did):=[En.mk 3 [] (SV.c (C.b (didB d))),En.mk 2 [] (SV.c (C.p 1 0))]
abbrev z12_11:=Reg.box 121 [C.i .u8 0]
abbrev z12_12 (d:Did):=[didB d=(decide ((0:Int)≤d.core)&&decide (d.core<(8:Int))&&decide ((0:Int)≤d.pc)&&decide (d.pc<(16384:Int))&&decide ((0:Int)≤d.addr)&&decide (d.addr<(4096:Int))&&decide (d.addr=(0:Int))&&decide (d.word=(0:Int))&&decide (d.put=(0:Int))&&!d.own)]
abbrev z12_14 (d:Did):=(decide ((0:Int)≤d.core)&&decide (d.core<(8:Int))&&decide ((0:Int)≤d.pc)&&decide (d.pc<(16384:Int))&&decide ((0:Int)≤d.addr)&&decide (d.addr<(4096:Int))&&decide (d.addr=(0:Int))&&decide (d.word=(0:Int))&&decide (d.put=(0:Int)))
abbrev z12_19 (d:Did):=St.mk 85 z12_2 [Reg.box 107 [C.i .u8 1,C.i .i64 d.core,C.i .i64 d.pc,C.i .i64 d.addr,C.i .i64 d.word,C.i .i64 d.put,C.b d.own],z12_1,z12_11,Reg.dead,Reg.dead,Reg.dead,z12_3] []
abbrev z12_27 (d:Did):=St.mk 85 (z12_4 d) [Reg.dead,z12_3,z12_11,Reg.dead,Reg.dead,Reg.dead,Reg.dead] []
theorem c_formOf1 (d:Did) (hk:d.kind=1):Ctr Tryz.prog 115 [] [.agg [.i .u8 1,.i .i64 d.core,.i .i64 d.pc,.i .i64 d.addr,.i .i64 d.word,.i .i64 d.put,.b d.own]]
 (Det (.tup [(true,[.v (.string { data:=#[99,111,109,112,117,116,101] }),.t false,.t false,.t false,.t false,C.fn 188 false [0]]),(false,[.b (didB d)])]) [.dead,.dead,.dead,.dead]):=by
 refine Ctr.intro [] Tryz.func115 K K ?_
 refine tCond (decide ((1:Int)≤(0:Int))||decide ((9:Int)≤(1:Int))) (fun h1=>?_) (fun h1=>?_)
 ·exact absurd h1 (by decide)
 ·refine tz [3,2,1] ?_
  refine tAny 2 (fun _:Unit=>z12_19 d) (fun _=>True) ?_ ?_
  ·refine ⟨⟨trivial,?_⟩,?_⟩
   ·refine tCall e_trace_forms (c_formsT) [] ?_
    exact tTo (fun x=>z12_19 d) (fun x=>True) () trivial (vc:=[(0:Int)≤(1:Int),(1:Int)<(9:Int)]) (hv:=(by simp only [Conj,Fits,i64_min,i64_max,u8_min,u8_max,News.len,maxLen]<;>(repeat' (first | apply And.intro | intro _))<;>first | grind | (simp only [BL] at *;omega)))
   ·refine tCall e_trace_forms (c_formsT) [] ?_
    exact tTo (fun x=>z12_19 d) (fun x=>True) () trivial [0,1,3,1000003,4,5,2] (vc:=[(0:Int)≤(1:Int),(1:Int)<(9:Int)]) (hv:=(by simp only [Conj,Fits,i64_min,i64_max,u8_min,u8_max,News.len,maxLen]<;>(repeat' (first | apply And.intro | intro _))<;>first | grind | (simp only [BL] at *;omega)))
  ·rintro ⟨⟩ _
   refine tz [4,3,2,1] ?_
   refine tAny 2 (fun _:Unit=>z12_27 d) (fun _=>True) ?_ ?_
   ·refine ⟨⟨trivial,?_⟩,?_⟩
    ·refine tCond (z12_14 d) (fun h2=>?_) (fun h2=>?_)
     ·exact tTo (fun x=>z12_27 d) (fun x=>True) () trivial [] [2] [didB d=!d.own] (by simp only [Conj];(repeat' apply And.intro)<;>first | trivial | rfl | (intros;rfl) | (simp only [didB,addrB,hk,BL] at *;first | grind | (simp;omega) | (apply Bool.eq_iff_iff.2;simp;omega)))
     ·exact tTo (fun x=>z12_27 d) (fun x=>True) () trivial [] [2] [didB d=false] (by simp only [Conj];(repeat' apply And.intro)<;>first | trivial | rfl | (intros;rfl) | (simp only [didB,addrB,hk,BL] at *;first | grind | (simp;omega) | (apply Bool.eq_iff_iff.2;simp;omega)))
    ·exact tTo (fun x=>z12_27 d) (fun x=>True) () trivial [] [2] (z12_12 d) (by simp only [Conj];(repeat' apply And.intro)<;>first | trivial | rfl | (intros;rfl) | (simp only [didB,addrB,hk,BL] at *;first | grind | (simp;omega) | (apply Bool.eq_iff_iff.2;simp;omega)))
   ·rintro ⟨⟩ _
    exact tRet [2,1,1000002,3]
abbrev z12_13 (d:Did):=St.mk 85 z12_2 [Reg.box 107 [C.i .u8 2,C.i .i64 d.core,C.i .i64 d.pc,C.i .i64 d.addr,C.i .i64 d.word,C.i .i64 d.put,C.b d.own],z12_1,Reg.dead,Reg.box 121 [C.i .u8 1],Reg.dead,Reg.dead,Reg.box 218 [C.v (Value.string (ByteArray.mk #[(108:UInt8),(111:UInt8),(97:UInt8),(100:UInt8)])),C.t true,C.t true,C.t false,C.t true,C.fn 189 false [3]]] []
theorem c_formOf2 (d:Did) (hk:d.kind=2):Ctr Tryz.prog 115 [] [.agg [.i .u8 2,.i .i64 d.core,.i .i64 d.pc,.i .i64 d.addr,.i .i64 d.word,.i .i64 d.put,.b d.own]]
 (Det (.tup [(true,[.v (.string { data:=#[108,111,97,100] }),.t true,.t true,.t false,.t true,C.fn 189 false [1]]),(false,[.b (didB d)])]) [.dead,.dead,.dead,.dead]):=by
 refine Ctr.intro [] Tryz.func115 K K ?_
 refine tCond (decide ((2:Int)≤(0:Int))||decide ((9:Int)≤(2:Int))) (fun h1=>?_) (fun h1=>?_)
 ·exact absurd h1 (by decide)
 ·refine tz [3,2,1] ?_
  refine tAny 2 (fun _:Unit=>z12_13 d) (fun _=>True) ?_ ?_
  ·refine ⟨⟨trivial,?_⟩,?_⟩
   ·refine tCall e_trace_forms (c_formsT) [] ?_
    exact tTo (fun x=>z12_13 d) (fun x=>True) () trivial (vc:=[(0:Int)≤(2:Int),(2:Int)<(9:Int)]) (hv:=(by simp only [Conj,Fits,i64_min,i64_max,u8_min,u8_max,News.len,maxLen]<;>(repeat' (first | apply And.intro | intro _))<;>first | grind | (simp only [BL] at *;omega)))
   ·refine tCall e_trace_forms (c_formsT) [] ?_
    exact tTo (fun x=>z12_13 d) (fun x=>True) () trivial [0,1,1000002,4,1000004,5,2] (vc:=[(0:Int)≤(2:Int),(2:Int)<(9:Int)]) (hv:=(by simp only [Conj,Fits,i64_min,i64_max,u8_min,u8_max,News.len,maxLen]<;>(repeat' (first | apply And.intro | intro _))<;>first | grind | (simp only [BL] at *;omega)))
  ·rintro ⟨⟩ _
   exact tRet [0,3,2,1000003] [1] [didB d=(decide ((0:Int)≤d.core)&&decide (d.core<(8:Int))&&decide ((0:Int)≤d.pc)&&decide (d.pc<(16384:Int))&&decide ((0:Int)≤d.addr)&&decide (d.addr<(4096:Int))&&true&&true&&decide (d.put=(0:Int))&&true)] (by simp only [Conj,didB,addrB] at *<;>grind)
abbrev z12_7:=Reg.box 218 [C.v (Value.string (ByteArray.mk #[(115:UInt8),(116:UInt8),(111:UInt8),(114:UInt8),(101:UInt8)])),C.t true,C.t true,C.t false,C.t false,C.fn 188 false [2]]
abbrev z12_20 (d:Did):=St.mk 85 z12_2 [Reg.box 107 [C.i .u8 3,C.i .i64 d.core,C.i .i64 d.pc,C.i .i64 d.addr,C.i .i64 d.word,C.i .i64 d.put,C.b d.own],z12_1,z12_11,Reg.dead,Reg.dead,Reg.dead,z12_7] []
abbrev z12_24 (d:Did):=[didB d=(decide ((0:Int)≤d.core)&&decide (d.core<(8:Int))&&decide ((0:Int)≤d.pc)&&decide (d.pc<(16384:Int))&&decide ((0:Int)≤d.addr)&&decide (d.addr<(4096:Int))&&true&&true&&decide (d.put=(0:Int))&&!d.own)]
abbrev z12_28 (d:Did):=St.mk 85 (z12_4 d) [Reg.dead,z12_7,z12_11,Reg.dead,Reg.dead,Reg.dead,Reg.dead] []
abbrev z12_30 (d:Did):=(decide ((0:Int)≤d.core)&&decide (d.core<(8:Int))&&decide ((0:Int)≤d.pc)&&decide (d.pc<(16384:Int))&&decide ((0:Int)≤d.addr)&&decide (d.addr<(4096:Int))&&true&&true&&decide (d.put=(0:Int)))
theorem c_formOf3 (d:Did) (hk:d.kind=3):Ctr Tryz.prog 115 [] [.agg [.i .u8 3,.i .i64 d.core,.i .i64 d.pc,.i .i64 d.addr,.i .i64 d.word,.i .i64 d.put,.b d.own]]
 (Det (.tup [(true,[.v (.string { data:=#[115,116,111,114,101] }),.t true,.t true,.t false,.t false,C.fn 188 false [0]]),(false,[.b (didB d)])]) [.dead,.dead,.dead,.dead]):=by
 refine Ctr.intro [] Tryz.func115 K K ?_
 refine tCond (decide ((3:Int)≤(0:Int))||decide ((9:Int)≤(3:Int))) (fun h1=>?_) (fun h1=>?_)
 ·exact absurd h1 (by decide)
 ·refine tz [3,2,1] ?_
  refine tAny 2 (fun _:Unit=>z12_20 d) (fun _=>True) ?_ ?_
  ·refine ⟨⟨trivial,?_⟩,?_⟩
   ·refine tCall e_trace_forms (c_formsT) [] ?_
    exact tTo (fun x=>z12_20 d) (fun x=>True) () trivial (vc:=[(0:Int)≤(3:Int),(3:Int)<(9:Int)]) (hv:=(by simp only [Conj,Fits,i64_min,i64_max,u8_min,u8_max,News.len,maxLen]<;>(repeat' (first | apply And.intro | intro _))<;>first | grind | (simp only [BL] at *;omega)))
   ·refine tCall e_trace_forms (c_formsT) [] ?_
    exact tTo (fun x=>z12_20 d) (fun x=>True) () trivial [0,1,3,1000003,4,5,2] (vc:=[(0:Int)≤(3:Int),(3:Int)<(9:Int)]) (hv:=(by simp only [Conj,Fits,i64_min,i64_max,u8_min,u8_max,News.len,maxLen]<;>(repeat' (first | apply And.intro | intro _))<;>first | grind | (simp only [BL] at *;omega)))
  ·rintro ⟨⟩ _
   refine tz [4,3,2,1] ?_
   refine tAny 2 (fun _:Unit=>z12_28 d) (fun _=>True) ?_ ?_
   ·refine ⟨⟨trivial,?_⟩,?_⟩
    ·refine tCond (z12_30 d) (fun h2=>?_) (fun h2=>?_)
     ·exact tTo (fun x=>z12_28 d) (fun x=>True) () trivial [] [2] [didB d=!d.own] (by simp only [Conj];(repeat' apply And.intro)<;>first | trivial | rfl | (intros;rfl) | (simp only [didB,addrB,hk,BL] at *;first | grind | (simp;omega) | (apply Bool.eq_iff_iff.2;simp;omega)))
     ·exact tTo (fun x=>z12_28 d) (fun x=>True) () trivial [] [2] [didB d=false] (by simp only [Conj];(repeat' apply And.intro)<;>first | trivial | rfl | (intros;rfl) | (simp only [didB,addrB,hk,BL] at *;first | grind | (simp;omega) | (apply Bool.eq_iff_iff.2;simp;omega)))
    ·exact tTo (fun x=>z12_28 d) (fun x=>True) () trivial [] [2] (z12_24 d) (by simp only [Conj];(repeat' apply And.intro)<;>first | trivial | rfl | (intros;rfl) | (simp only [didB,addrB,hk,BL] at *;first | grind | (simp;omega) | (apply Bool.eq_iff_iff.2;simp;omega)))
   ·rintro ⟨⟩ _
    exact tRet [2,1,1000002,3]
abbrev z12_10:=Reg.box 218 [C.v (Value.string (ByteArray.mk #[(115:UInt8),(119:UInt8),(97:UInt8),(112:UInt8)])),C.t true,C.t true,C.t true,C.t false,C.fn 161 false []]
abbrev z12_17 (d:Did):=St.mk 85 z12_2 [Reg.box 107 [C.i .u8 4,C.i .i64 d.core,C.i .i64 d.pc,C.i .i64 d.addr,C.i .i64 d.word,C.i .i64 d.put,C.b d.own],z12_1,Reg.dead,Reg.dead,Reg.dead,Reg.dead,z12_10] []
abbrev z12_25 (d:Did):=St.mk 85 (z12_4 d) [Reg.dead,z12_10,Reg.dead,Reg.dead,Reg.dead,Reg.dead,Reg.dead] []
theorem c_formOf4 (d:Did) (hk:d.kind=4):Ctr Tryz.prog 115 [] [.agg [.i .u8 4,.i .i64 d.core,.i .i64 d.pc,.i .i64 d.addr,.i .i64 d.word,.i .i64 d.put,.b d.own]]
 (Det (.tup [(true,[.v (.string { data:=#[115,119,97,112] }),.t true,.t true,.t true,.t false,C.fn 161 false []]),(false,[.b (didB d)])]) [.dead,.dead,.dead,.dead]):=by
 refine Ctr.intro [] Tryz.func115 K K ?_
 refine tCond (decide ((4:Int)≤(0:Int))||decide ((9:Int)≤(4:Int))) (fun h1=>?_) (fun h1=>?_)
 ·exact absurd h1 (by decide)
 ·refine tz [3,2,1] ?_
  refine tAny 2 (fun _:Unit=>z12_17 d) (fun _=>True) ?_ ?_
  ·refine ⟨⟨trivial,?_⟩,?_⟩
   ·refine tCall e_trace_forms (c_formsT) [] ?_
    exact tTo (fun x=>z12_17 d) (fun x=>True) () trivial (vc:=[(0:Int)≤(4:Int),(4:Int)<(9:Int)]) (hv:=(by simp only [Conj,Fits,i64_min,i64_max,u8_min,u8_max,News.len,maxLen]<;>(repeat' (first | apply And.intro | intro _))<;>first | grind | (simp only [BL] at *;omega)))
   ·refine tCall e_trace_forms (c_formsT) [] ?_
    exact tTo (fun x=>z12_17 d) (fun x=>True) () trivial [0,1,1000002,3,4,5,2] (vc:=[(0:Int)≤(4:Int),(4:Int)<(9:Int)]) (hv:=(by simp only [Conj,Fits,i64_min,i64_max,u8_min,u8_max,News.len,maxLen]<;>(repeat' (first | apply And.intro | intro _))<;>first | grind | (simp only [BL] at *;omega)))
  ·rintro ⟨⟩ _
   refine tz [4,3,2,1] ?_
   refine tAny 2 (fun _:Unit=>z12_25 d) (fun _=>True) ?_ ?_
   ·refine ⟨⟨trivial,?_⟩,?_⟩
    ·refine tCond (decide ((0:Int)≤d.core)&&decide (d.core<(8:Int))&&decide ((0:Int)≤d.pc)&&decide (d.pc<(16384:Int))&&decide ((0:Int)≤d.addr)&&decide (d.addr<(4096:Int))&&true&&true&&true) (fun h2=>?_) (fun h2=>?_)
     ·exact tTo (fun x=>z12_25 d) (fun x=>True) () trivial [] [1] [didB d=!d.own] (by simp only [Conj];(repeat' apply And.intro)<;>first | trivial | rfl | (intros;rfl) | (simp only [didB,addrB,hk,BL] at *;first | grind | (simp;omega) | (apply Bool.eq_iff_iff.2;simp;omega)))
     ·exact tTo (fun x=>z12_25 d) (fun x=>True) () trivial [] [1] [didB d=false] (by simp only [Conj];(repeat' apply And.intro)<;>first | trivial | rfl | (intros;rfl) | (simp only [didB,addrB,hk,BL] at *;first | grind | (simp;omega) | (apply Bool.eq_iff_iff.2;simp;omega)))
    ·exact tTo (fun x=>z12_25 d) (fun x=>True) () trivial [] [1] [didB d=(decide ((0:Int)≤d.core)&&decide (d.core<(8:Int))&&decide ((0:Int)≤d.pc)&&decide (d.pc<(16384:Int))&&decide ((0:Int)≤d.addr)&&decide (d.addr<(4096:Int))&&true&&true&&true&&!d.own)] (by simp only [Conj];(repeat' apply And.intro)<;>first | trivial | rfl | (intros;rfl) | (simp only [didB,addrB,hk,BL] at *;first | grind | (simp;omega) | (apply Bool.eq_iff_iff.2;simp;omega)))
   ·rintro ⟨⟩ _
    exact tRet
abbrev z12_5:=Reg.box 218 [C.v (Value.string (ByteArray.mk #[(102:UInt8),(101:UInt8),(110:UInt8),(99:UInt8),(101:UInt8)])),C.t false,C.t false,C.t false,C.t false,C.fn 188 false [2]]
abbrev z12_21 (d:Did):=St.mk 85 z12_2 [Reg.box 107 [C.i .u8 5,C.i .i64 d.core,C.i .i64 d.pc,C.i .i64 d.addr,C.i .i64 d.word,C.i .i64 d.put,C.b d.own],z12_1,z12_11,Reg.dead,Reg.dead,Reg.dead,z12_5] []
abbrev z12_29 (d:Did):=St.mk 85 (z12_4 d) [Reg.dead,z12_5,z12_11,Reg.dead,Reg.dead,Reg.dead,Reg.dead] []
theorem c_formOf5 (d:Did) (hk:d.kind=5):Ctr Tryz.prog 115 [] [.agg [.i .u8 5,.i .i64 d.core,.i .i64 d.pc,.i .i64 d.addr,.i .i64 d.word,.i .i64 d.put,.b d.own]]
 (Det (.tup [(true,[.v (.string { data:=#[102,101,110,99,101] }),.t false,.t false,.t false,.t false,C.fn 188 false [0]]),(false,[.b (didB d)])]) [.dead,.dead,.dead,.dead]):=by
 refine Ctr.intro [] Tryz.func115 K K ?_
 refine tCond (decide ((5:Int)≤(0:Int))||decide ((9:Int)≤(5:Int))) (fun h1=>?_) (fun h1=>?_)
 ·exact absurd h1 (by decide)
 ·refine tz [3,2,1] ?_
  refine tAny 2 (fun _:Unit=>z12_21 d) (fun _=>True) ?_ ?_
  ·refine ⟨⟨trivial,?_⟩,?_⟩
   ·refine tCall e_trace_forms (c_formsT) [] ?_
    exact tTo (fun x=>z12_21 d) (fun x=>True) () trivial (vc:=[(0:Int)≤(5:Int),(5:Int)<(9:Int)]) (hv:=(by simp only [Conj,Fits,i64_min,i64_max,u8_min,u8_max,News.len,maxLen]<;>(repeat' (first | apply And.intro | intro _))<;>first | grind | (simp only [BL] at *;omega)))
   ·refine tCall e_trace_forms (c_formsT) [] ?_
    exact tTo (fun x=>z12_21 d) (fun x=>True) () trivial [0,1,3,1000003,4,5,2] (vc:=[(0:Int)≤(5:Int),(5:Int)<(9:Int)]) (hv:=(by simp only [Conj,Fits,i64_min,i64_max,u8_min,u8_max,News.len,maxLen]<;>(repeat' (first | apply And.intro | intro _))<;>first | grind | (simp only [BL] at *;omega)))
  ·rintro ⟨⟩ _
   refine tz [4,3,2,1] ?_
   refine tAny 2 (fun _:Unit=>z12_29 d) (fun _=>True) ?_ ?_
   ·refine ⟨⟨trivial,?_⟩,?_⟩
    ·refine tCond (z12_14 d) (fun h2=>?_) (fun h2=>?_)
     ·exact tTo (fun x=>z12_29 d) (fun x=>True) () trivial [] [2] [didB d=!d.own] (by simp only [Conj];(repeat' apply And.intro)<;>first | trivial | rfl | (intros;rfl) | (simp only [didB,addrB,hk,BL] at *;first | grind | (simp;omega) | (apply Bool.eq_iff_iff.2;simp;omega)))
     ·exact tTo (fun x=>z12_29 d) (fun x=>True) () trivial [] [2] [didB d=false] (by simp only [Conj];(repeat' apply And.intro)<;>first | trivial | rfl | (intros;rfl) | (simp only [didB,addrB,hk,BL] at *;first | grind | (simp;omega) | (apply Bool.eq_iff_iff.2;simp;omega)))
    ·exact tTo (fun x=>z12_29 d) (fun x=>True) () trivial [] [2] (z12_12 d) (by simp only [Conj];(repeat' apply And.intro)<;>first | trivial | rfl | (intros;rfl) | (simp only [didB,addrB,hk,BL] at *;first | grind | (simp;omega) | (apply Bool.eq_iff_iff.2;simp;omega)))
   ·rintro ⟨⟩ _
    exact tRet [2,1,1000002,3]
abbrev z12_6:=Reg.box 218 [C.v (Value.string (ByteArray.mk #[(112:UInt8),(114:UInt8),(105:UInt8),(110:UInt8),(116:UInt8)])),C.t false,C.t true,C.t false,C.t false,C.fn 188 false [4]]
abbrev z12_15 (d:Did):=St.mk 85 z12_2 [Reg.box 107 [C.i .u8 6,C.i .i64 d.core,C.i .i64 d.pc,C.i .i64 d.addr,C.i .i64 d.word,C.i .i64 d.put,C.b d.own],z12_1,Reg.dead,Reg.dead,Reg.box 121 [C.i .u8 6],Reg.dead,z12_6] []
abbrev z12_22 (d:Did):=St.mk 85 (z12_4 d) [Reg.dead,z12_6,Reg.dead,Reg.dead,Reg.box 121 [C.i .u8 6],Reg.dead,Reg.dead] []
theorem c_formOf6 (d:Did) (hk:d.kind=6):Ctr Tryz.prog 115 [] [.agg [.i .u8 6,.i .i64 d.core,.i .i64 d.pc,.i .i64 d.addr,.i .i64 d.word,.i .i64 d.put,.b d.own]]
 (Det (.tup [(true,[.v (.string { data:=#[112,114,105,110,116] }),.t false,.t true,.t false,.t false,C.fn 188 false [2]]),(false,[.b (didB d)])]) [.dead,.dead,.dead,.dead]):=by
 refine Ctr.intro [] Tryz.func115 K K ?_
 refine tCond (decide ((6:Int)≤(0:Int))||decide ((9:Int)≤(6:Int))) (fun h1=>?_) (fun h1=>?_)
 ·exact absurd h1 (by decide)
 ·refine tz [3,2,1] ?_
  refine tAny 2 (fun _:Unit=>z12_15 d) (fun _=>True) ?_ ?_
  ·refine ⟨⟨trivial,?_⟩,?_⟩
   ·refine tCall e_trace_forms (c_formsT) [] ?_
    exact tTo (fun x=>z12_15 d) (fun x=>True) () trivial (vc:=[(0:Int)≤(6:Int),(6:Int)<(9:Int)]) (hv:=(by simp only [Conj,Fits,i64_min,i64_max,u8_min,u8_max,News.len,maxLen]<;>(repeat' (first | apply And.intro | intro _))<;>first | grind | (simp only [BL] at *;omega)))
   ·refine tCall e_trace_forms (c_formsT) [] ?_
    exact tTo (fun x=>z12_15 d) (fun x=>True) () trivial [0,1,1000002,3,5,1000005,2] (vc:=[(0:Int)≤(6:Int),(6:Int)<(9:Int)]) (hv:=(by simp only [Conj,Fits,i64_min,i64_max,u8_min,u8_max,News.len,maxLen]<;>(repeat' (first | apply And.intro | intro _))<;>first | grind | (simp only [BL] at *;omega)))
  ·rintro ⟨⟩ _
   refine tz [4,3,2,1] ?_
   refine tAny 2 (fun _:Unit=>z12_22 d) (fun _=>True) ?_ ?_
   ·refine ⟨⟨trivial,?_⟩,?_⟩
    ·refine tCond (decide ((0:Int)≤d.core)&&decide (d.core<(8:Int))&&decide ((0:Int)≤d.pc)&&decide (d.pc<(16384:Int))&&decide ((0:Int)≤d.addr)&&decide (d.addr<(4096:Int))&&decide (d.addr=(0:Int))&&true&&decide (d.put=(0:Int))) (fun h2=>?_) (fun h2=>?_)
     ·exact tTo (fun x=>z12_22 d) (fun x=>True) () trivial [] [2] [didB d=!d.own] (by simp only [Conj];(repeat' apply And.intro)<;>first | trivial | rfl | (intros;rfl) | (simp only [didB,addrB,hk,BL] at *;first | grind | (simp;omega) | (apply Bool.eq_iff_iff.2;simp;omega)))
     ·exact tTo (fun x=>z12_22 d) (fun x=>True) () trivial [] [2] [didB d=false] (by simp only [Conj];(repeat' apply And.intro)<;>first | trivial | rfl | (intros;rfl) | (simp only [didB,addrB,hk,BL] at *;first | grind | (simp;omega) | (apply Bool.eq_iff_iff.2;simp;omega)))
    ·exact tTo (fun x=>z12_22 d) (fun x=>True) () trivial [] [2] [didB d=(decide ((0:Int)≤d.core)&&decide (d.core<(8:Int))&&decide ((0:Int)≤d.pc)&&decide (d.pc<(16384:Int))&&decide ((0:Int)≤d.addr)&&decide (d.addr<(4096:Int))&&decide (d.addr=(0:Int))&&true&&decide (d.put=(0:Int))&&!d.own)] (by simp only [Conj];(repeat' apply And.intro)<;>first | trivial | rfl | (intros;rfl) | (simp only [didB,addrB,hk,BL] at *;first | grind | (simp;omega) | (apply Bool.eq_iff_iff.2;simp;omega)))
   ·rintro ⟨⟩ _
    exact tRet [0,1,4,3]
abbrev z12_9:=Reg.box 218 [C.v (Value.string (ByteArray.mk #[(104:UInt8),(97:UInt8),(108:UInt8),(116:UInt8)])),C.t false,C.t false,C.t false,C.t false,C.fn 188 false [5]]
abbrev z12_16 (d:Did):=St.mk 85 z12_2 [Reg.box 107 [C.i .u8 7,C.i .i64 d.core,C.i .i64 d.pc,C.i .i64 d.addr,C.i .i64 d.word,C.i .i64 d.put,C.b d.own],z12_1,Reg.dead,Reg.dead,Reg.dead,Reg.box 121 [C.i .u8 7],z12_9] []
abbrev z12_23 (d:Did):=St.mk 85 (z12_4 d) [Reg.dead,z12_9,Reg.dead,Reg.dead,Reg.dead,Reg.box 121 [C.i .u8 7],Reg.dead] []
theorem c_formOf7 (d:Did) (hk:d.kind=7):Ctr Tryz.prog 115 [] [.agg [.i .u8 7,.i .i64 d.core,.i .i64 d.pc,.i .i64 d.addr,.i .i64 d.word,.i .i64 d.put,.b d.own]]
 (Det (.tup [(true,[.v (.string { data:=#[104,97,108,116] }),.t false,.t false,.t false,.t false,C.fn 188 false [3]]),(false,[.b (didB d)])]) [.dead,.dead,.dead,.dead]):=by
 refine Ctr.intro [] Tryz.func115 K K ?_
 refine tCond (decide ((7:Int)≤(0:Int))||decide ((9:Int)≤(7:Int))) (fun h1=>?_) (fun h1=>?_)
 ·exact absurd h1 (by decide)
 ·refine tz [3,2,1] ?_
  refine tAny 2 (fun _:Unit=>z12_16 d) (fun _=>True) ?_ ?_
  ·refine ⟨⟨trivial,?_⟩,?_⟩
   ·refine tCall e_trace_forms (c_formsT) [] ?_
    exact tTo (fun x=>z12_16 d) (fun x=>True) () trivial (vc:=[(0:Int)≤(7:Int),(7:Int)<(9:Int)]) (hv:=(by simp only [Conj,Fits,i64_min,i64_max,u8_min,u8_max,News.len,maxLen]<;>(repeat' (first | apply And.intro | intro _))<;>first | grind | (simp only [BL] at *;omega)))
   ·refine tCall e_trace_forms (c_formsT) [] ?_
    exact tTo (fun x=>z12_16 d) (fun x=>True) () trivial [0,1,1000002,3,4,6,2] (vc:=[(0:Int)≤(7:Int),(7:Int)<(9:Int)]) (hv:=(by simp only [Conj,Fits,i64_min,i64_max,u8_min,u8_max,News.len,maxLen]<;>(repeat' (first | apply And.intro | intro _))<;>first | grind | (simp only [BL] at *;omega)))
  ·rintro ⟨⟩ _
   refine tz [4,3,2,1] ?_
   refine tAny 2 (fun _:Unit=>z12_23 d) (fun _=>True) ?_ ?_
   ·refine ⟨⟨trivial,?_⟩,?_⟩
    ·refine tCond (z12_14 d) (fun h2=>?_) (fun h2=>?_)
     ·exact tTo (fun x=>z12_23 d) (fun x=>True) () trivial [] [2] [didB d=!d.own] (by simp only [Conj];(repeat' apply And.intro)<;>first | trivial | rfl | (intros;rfl) | (simp only [didB,addrB,hk,BL] at *;first | grind | (simp;omega) | (apply Bool.eq_iff_iff.2;simp;omega)))
     ·exact tTo (fun x=>z12_23 d) (fun x=>True) () trivial [] [2] [didB d=false] (by simp only [Conj];(repeat' apply And.intro)<;>first | trivial | rfl | (intros;rfl) | (simp only [didB,addrB,hk,BL] at *;first | grind | (simp;omega) | (apply Bool.eq_iff_iff.2;simp;omega)))
    ·exact tTo (fun x=>z12_23 d) (fun x=>True) () trivial [] [2] (z12_12 d) (by simp only [Conj];(repeat' apply And.intro)<;>first | trivial | rfl | (intros;rfl) | (simp only [didB,addrB,hk,BL] at *;first | grind | (simp;omega) | (apply Bool.eq_iff_iff.2;simp;omega)))
   ·rintro ⟨⟩ _
    exact tRet [0,1,2,5]
abbrev z12_8:=Reg.box 218 [C.v (Value.string (ByteArray.mk #[(100:UInt8),(114:UInt8),(97:UInt8),(105:UInt8),(110:UInt8)])),C.t true,C.t true,C.t false,C.t false,C.fn 162 false []]
abbrev z12_18 (d:Did):=St.mk 85 z12_2 [Reg.box 107 [C.i .u8 8,C.i .i64 d.core,C.i .i64 d.pc,C.i .i64 d.addr,C.i .i64 d.word,C.i .i64 d.put,C.b d.own],z12_1,Reg.dead,Reg.dead,Reg.dead,Reg.dead,z12_8] []
abbrev z12_26 (d:Did):=St.mk 85 (z12_4 d) [Reg.dead,z12_8,Reg.dead,Reg.dead,Reg.dead,Reg.dead,Reg.dead] []
theorem c_formOf8 (d:Did) (hk:d.kind=8):Ctr Tryz.prog 115 [] [.agg [.i .u8 8,.i .i64 d.core,.i .i64 d.pc,.i .i64 d.addr,.i .i64 d.word,.i .i64 d.put,.b d.own]]
 (Det (.tup [(true,[.v (.string { data:=#[100,114,97,105,110] }),.t true,.t true,.t false,.t false,C.fn 162 false []]),(false,[.b (didB d)])]) [.dead,.dead,.dead,.dead]):=by
 refine Ctr.intro [] Tryz.func115 K K ?_
 refine tCond (decide ((8:Int)≤(0:Int))||decide ((9:Int)≤(8:Int))) (fun h1=>?_) (fun h1=>?_)
 ·exact absurd h1 (by decide)
 ·refine tz [3,2,1] ?_
  refine tAny 2 (fun _:Unit=>z12_18 d) (fun _=>True) ?_ ?_
  ·refine ⟨⟨trivial,?_⟩,?_⟩
   ·refine tCall e_trace_forms (c_formsT) [] ?_
    exact tTo (fun x=>z12_18 d) (fun x=>True) () trivial (vc:=[(0:Int)≤(8:Int),(8:Int)<(9:Int)]) (hv:=(by simp only [Conj,Fits,i64_min,i64_max,u8_min,u8_max,News.len,maxLen]<;>(repeat' (first | apply And.intro | intro _))<;>first | grind | (simp only [BL] at *;omega)))
   ·refine tCall e_trace_forms (c_formsT) [] ?_
    exact tTo (fun x=>z12_18 d) (fun x=>True) () trivial [0,1,1000002,3,4,5,2] (vc:=[(0:Int)≤(8:Int),(8:Int)<(9:Int)]) (hv:=(by simp only [Conj,Fits,i64_min,i64_max,u8_min,u8_max,News.len,maxLen]<;>(repeat' (first | apply And.intro | intro _))<;>first | grind | (simp only [BL] at *;omega)))
  ·rintro ⟨⟩ _
   refine tz [4,3,2,1] ?_
   refine tAny 2 (fun _:Unit=>z12_26 d) (fun _=>True) ?_ ?_
   ·refine ⟨⟨trivial,?_⟩,?_⟩
    ·refine tCond (z12_30 d) (fun h2=>?_) (fun h2=>?_)
     ·exact tTo (fun x=>z12_26 d) (fun x=>True) () trivial [] [1] [didB d=!d.own] (by simp only [Conj];(repeat' apply And.intro)<;>first | trivial | rfl | (intros;rfl) | (simp only [didB,addrB,hk,BL] at *;first | grind | (simp;omega) | (apply Bool.eq_iff_iff.2;simp;omega)))
     ·exact tTo (fun x=>z12_26 d) (fun x=>True) () trivial [] [1] [didB d=false] (by simp only [Conj];(repeat' apply And.intro)<;>first | trivial | rfl | (intros;rfl) | (simp only [didB,addrB,hk,BL] at *;first | grind | (simp;omega) | (apply Bool.eq_iff_iff.2;simp;omega)))
    ·exact tTo (fun x=>z12_26 d) (fun x=>True) () trivial [] [1] (z12_24 d) (by simp only [Conj];(repeat' apply And.intro)<;>first | trivial | rfl | (intros;rfl) | (simp only [didB,addrB,hk,BL] at *;first | grind | (simp;omega) | (apply Bool.eq_iff_iff.2;simp;omega)))
   ·rintro ⟨⟩ _
    exact tRet
theorem c_formOf0 (d:Did) (hk:¬ (1≤d.kind∧d.kind≤8)):Ctr Tryz.prog 115 [] [.agg d.cs]
 (Det (.tup [(true,[.v (.string { data:=#[] }),.t false,.t false,.t false,.t false,.v Value.nilFunc]),(false,[.b false])]) []):=by
 refine Ctr.intro [] Tryz.func115 K K ?_
 refine tCond (decide (d.kind≤(0:Int))||decide ((9:Int)≤d.kind)) (fun h1=>?_) (fun h1=>?_)
 ·exact tRet
 ·exact (show False from by simp only [BL] at h1;omega).elim
end Go.Proofs.YtmjjikcappbkeaaGreat
end
noncomputable section
namespace Go.Proofs.YtmjjikcappbkeaaGreat
open Go Go.Tx
abbrev z13_2 (l:List Did):=Reg.row 7 l.length (fun i=>(l.getD i default).tc) none
def L57_0_I (l:List Did):Int×Bool→St:=fun x=>{ N:=21,fr:=[{ slot:=9,g:=[],sv:=SV.c (C.i .i64 x.1) },{ slot:=8,g:=[],sv:=SV.c (C.i .i64 (↑l.length:Int)) },{ slot:=7,g:=[],sv:=SV.c (C.h 0) },{ slot:=2,g:=[],sv:=SV.c (C.b x.2) }],rg:=[z13_2 l],wr:=[] }
def L57_0_J (l:List Did):Int×Bool→Prop:=fun x=>0≤x.1∧x.1≤(l.length:Int)∧rightsB l=allFrom (rightP l) x.1 l.length
def L57_0_m (l:List Did):Int×Bool→Nat:=fun x=>((l.length:Int)-x.1).toNat
def L57_0 (l:List Did):Lp (Int×Bool):=⟨L57_0_I l,L57_0_J l,L57_0_m l⟩
abbrev z13_1 (x1_0:Int) (l:List Did) (x1_1:Bool):=[En.mk 4 [] (SV.c (C.p 1 0)),En.mk 9 [] (SV.c (C.i .i64 x1_0)),En.mk 8 [] (SV.c (C.i .i64 (↑l.length:Int))),En.mk 7 [] (SV.c (C.h 0)),En.mk 2 [] (SV.c (C.b x1_1))]
abbrev z13_4 (l:List Did) (x1_0:Int):=C.i .i64 (l.getD x1_0.toNat default).core
abbrev z13_5 (l:List Did) (x1_0:Int):=C.i .i64 (l.getD x1_0.toNat default).addr
abbrev z13_6 (l:List Did) (x1_0:Int):=C.i .i64 (l.getD x1_0.toNat default).word
abbrev z13_7 (l:List Did) (x1_0:Int):=C.i .i64 (l.getD x1_0.toNat default).put
abbrev z13_8 (l:List Did) (x1_0:Int):=C.i .i64 (l.getD x1_0.toNat default).pc
abbrev z13_3 (l:List Did) (x1_0:Int):=Reg.box 107 [C.i .u8 (l.getD x1_0.toNat default).kind,z13_4 l x1_0,z13_8 l x1_0,z13_5 l x1_0,z13_6 l x1_0,z13_7 l x1_0,C.b (l.getD x1_0.toNat default).own]
theorem c_right (l:List Did) (hl:∀ a:Nat,0≤(l.getD a default).kind∧(l.getD a default).kind≤255):Ctr Tryz.prog 71 [Did.rowR l] [.c (.h 0)]
 (Det (.c (.b (rightsB l))) [.dead]):=by
 refine Ctr.intro [] Tryz.func71 K K ?_
 refine RunF.lens 0 (m:=l.length) K (fun hlens_0=>?_)
 refine tLoop (L57_0 l) (((0:Int),false)) ⟨by grind,by grind,rfl⟩ ?_
 rintro ⟨x1_0,x1_1⟩ hJ1
 dsimp only [L57_0,L57_0_J] at hJ1
 refine tz [9,8,7,2] ?_
 refine tCond (decide (x1_0<(↑l.length:Int))) (fun h2=>?_) (fun h2=>?_)
 ·refine RunF.cut (fun _:Unit=>St.mk 21 (z13_1 x1_0 l x1_1) [z13_2 l,z13_3 l x1_0] []) (fun _=>True) ?_ ?_
  ·exact tTo (fun x=>St.mk 21 (z13_1 x1_0 l x1_1) [z13_2 l,z13_3 l x1_0] []) (fun x=>True) () trivial (vc:=[(0:Int)≤x1_0,x1_0<(↑l.length:Int),x1_0.toNat<l.length]) (hv:=(by simp only [Conj,Fits,i64_min,i64_max,u8_min,u8_max,News.len,maxLen]<;>(repeat' (first | apply And.intro | intro _))<;>first | grind | (simp only [BL] at *;omega)))
  ·rintro ⟨⟩ _
   rcases (show (l.getD x1_0.toNat default).kind=(1:Int)∨(l.getD x1_0.toNat default).kind=(2:Int)∨(l.getD x1_0.toNat default).kind=(3:Int)∨(l.getD x1_0.toNat default).kind=(4:Int)∨(l.getD x1_0.toNat default).kind=(5:Int)∨(l.getD x1_0.toNat default).kind=(6:Int)∨(l.getD x1_0.toNat default).kind=(7:Int)∨(l.getD x1_0.toNat default).kind=(8:Int)∨¬ ((1:Int)≤(l.getD x1_0.toNat default).kind∧(l.getD x1_0.toNat default).kind≤(8:Int)) from by omega) with hs3 | hs3 | hs3 | hs3 | hs3 | hs3 | hs3 | hs3 | hs3
   ·refine tWk (St.mk 21 (z13_1 x1_0 l x1_1) [z13_2 l,Reg.box 107 [C.i .u8 1,z13_4 l x1_0,z13_8 l x1_0,z13_5 l x1_0,z13_6 l x1_0,z13_7 l x1_0,C.b (l.getD x1_0.toNat default).own]] []) ?_ [] [2] [(1:Int)=(l.getD x1_0.toNat default).kind] (by simp only [Conj];(repeat' apply And.intro)<;>first | trivial | rfl | (intros;rfl) | (exact Eq.symm (by assumption)) | grind)
    refine tz [4,9,8,7,2] ?_
    refine tCall e_trace_formOf (c_formOf1 (d:=l.getD x1_0.toNat default) (hk:=by first | assumption | omega)) [] ?_
    refine tz [15,9,8,7,2] ?_
    refine tCond (!didB (l.getD x1_0.toNat default)) (fun h4=>?_) (fun h4=>?_)
    ·exact tRet [] [0] [rightsB l=false] (by simp only [Conj];first | grind | (have he:=allFrom_end (rightP l) (i:=x1_0) (n:=l.length) (by grind);grind) | (have hp:rightP l x1_0=false:=(by simp only [rightP,didAt];first | grind | (cases hd:didB (l.getD x1_0.toNat default) with | false=>rfl | true=>exact absurd (didB_bounds hd) (by omega)));have hs:=allFrom_stop (rightP l) (n:=l.length) (by grind) hp;grind))
    ·exact tNext (L57_0 l) (x1_0,x1_1) ((x1_0+(1:Int),x1_1)) (by dsimp only [L57_0,L57_0_m];(try simp only [decide_eq_true_eq] at *);omega) (by have hp:rightP l x1_0=true:=(by simp only [rightP,didAt];grind);have hs:=allFrom_next (rightP l) (n:=l.length) (by grind) hp;dsimp only [L57_0,L57_0_J] at *;grind) (vc:=[Fits IntKind.i64 (x1_0+(1:Int))]) (hv:=(by simp only [Conj,Fits,i64_min,i64_max,u8_min,u8_max,News.len,maxLen]<;>(repeat' (first | apply And.intro | intro _))<;>first | grind | (simp only [BL] at *;omega)))
   ·refine tWk (St.mk 21 (z13_1 x1_0 l x1_1) [z13_2 l,Reg.box 107 [C.i .u8 2,z13_4 l x1_0,z13_8 l x1_0,z13_5 l x1_0,z13_6 l x1_0,z13_7 l x1_0,C.b (l.getD x1_0.toNat default).own]] []) ?_ [] [2] [(2:Int)=(l.getD x1_0.toNat default).kind] (by simp only [Conj];(repeat' apply And.intro)<;>first | trivial | rfl | (intros;rfl) | (exact Eq.symm (by assumption)) | grind)
    refine tz [4,9,8,7,2] ?_
    refine tCall e_trace_formOf (c_formOf2 (d:=l.getD x1_0.toNat default) (hk:=by first | assumption | omega)) [] ?_
    refine tz [15,9,8,7,2] ?_
    refine tCond (!didB (l.getD x1_0.toNat default)) (fun h4=>?_) (fun h4=>?_)
    ·exact tRet [] [0] [rightsB l=false] (by simp only [Conj];first | grind | (have he:=allFrom_end (rightP l) (i:=x1_0) (n:=l.length) (by grind);grind) | (have hp:rightP l x1_0=false:=(by simp only [rightP,didAt];first | grind | (cases hd:didB (l.getD x1_0.toNat default) with | false=>rfl | true=>exact absurd (didB_bounds hd) (by omega)));have hs:=allFrom_stop (rightP l) (n:=l.length) (by grind) hp;grind))
    ·exact tNext (L57_0 l) (x1_0,x1_1) ((x1_0+(1:Int),x1_1)) (by dsimp only [L57_0,L57_0_m];(try simp only [decide_eq_true_eq] at *);omega) (by have hp:rightP l x1_0=true:=(by simp only [rightP,didAt];grind);have hs:=allFrom_next (rightP l) (n:=l.length) (by grind) hp;dsimp only [L57_0,L57_0_J] at *;grind) (vc:=[Fits IntKind.i64 (x1_0+(1:Int))]) (hv:=(by simp only [Conj,Fits,i64_min,i64_max,u8_min,u8_max,News.len,maxLen]<;>(repeat' (first | apply And.intro | intro _))<;>first | grind | (simp only [BL] at *;omega)))
   ·refine tWk (St.mk 21 (z13_1 x1_0 l x1_1) [z13_2 l,Reg.box 107 [C.i .u8 3,z13_4 l x1_0,z13_8 l x1_0,z13_5 l x1_0,z13_6 l x1_0,z13_7 l x1_0,C.b (l.getD x1_0.toNat default).own]] []) ?_ [] [2] [(3:Int)=(l.getD x1_0.toNat default).kind] (by simp only [Conj];(repeat' apply And.intro)<;>first | trivial | rfl | (intros;rfl) | (exact Eq.symm (by assumption)) | grind)
    refine tz [4,9,8,7,2] ?_
    refine tCall e_trace_formOf (c_formOf3 (d:=l.getD x1_0.toNat default) (hk:=by first | assumption | omega)) [] ?_
    refine tz [15,9,8,7,2] ?_
    refine tCond (!didB (l.getD x1_0.toNat default)) (fun h4=>?_) (fun h4=>?_)
    ·exact tRet [] [0] [rightsB l=false] (by simp only [Conj];first | grind | (have he:=allFrom_end (rightP l) (i:=x1_0) (n:=l.length) (by grind);grind) | (have hp:rightP l x1_0=false:=(by simp only [rightP,didAt];first | grind | (cases hd:didB (l.getD x1_0.toNat default) with | false=>rfl | true=>exact absurd (didB_bounds hd) (by omega)));have hs:=allFrom_stop (rightP l) (n:=l.length) (by grind) hp;grind))
    ·exact tNext (L57_0 l) (x1_0,x1_1) ((x1_0+(1:Int),x1_1)) (by dsimp only [L57_0,L57_0_m];(try simp only [decide_eq_true_eq] at *);omega) (by have hp:rightP l x1_0=true:=(by simp only [rightP,didAt];grind);have hs:=allFrom_next (rightP l) (n:=l.length) (by grind) hp;dsimp only [L57_0,L57_0_J] at *;grind) (vc:=[Fits IntKind.i64 (x1_0+(1:Int))]) (hv:=(by simp only [Conj,Fits,i64_min,i64_max,u8_min,u8_max,News.len,maxLen]<;>(repeat' (first | apply And.intro | intro _))<;>first | grind | (simp only [BL] at *;omega)))
   ·refine tWk (St.mk 21 (z13_1 x1_0 l x1_1) [z13_2 l,Reg.box 107 [C.i .u8 4,z13_4 l x1_0,z13_8 l x1_0,z13_5 l x1_0,z13_6 l x1_0,z13_7 l x1_0,C.b (l.getD x1_0.toNat default).own]] []) ?_ [] [2] [(4:Int)=(l.getD x1_0.toNat default).kind] (by simp only [Conj];(repeat' apply And.intro)<;>first | trivial | rfl | (intros;rfl) | (exact Eq.symm (by assumption)) | grind)
    refine tz [4,9,8,7,2] ?_
    refine tCall e_trace_formOf (c_formOf4 (d:=l.getD x1_0.toNat default) (hk:=by first | assumption | omega)) [] ?_
    refine tz [15,9,8,7,2] ?_
    refine tCond (!didB (l.getD x1_0.toNat default)) (fun h4=>?_) (fun h4=>?_)
    ·exact tRet [] [0] [rightsB l=false] (by simp only [Conj];first | grind | (have he:=allFrom_end (rightP l) (i:=x1_0) (n:=l.length) (by grind);grind) | (have hp:rightP l x1_0=false:=(by simp only [rightP,didAt];first | grind | (cases hd:didB (l.getD x1_0.toNat default) with | false=>rfl | true=>exact absurd (didB_bounds hd) (by omega)));have hs:=allFrom_stop (rightP l) (n:=l.length) (by grind) hp;grind))
    ·exact tNext (L57_0 l) (x1_0,x1_1) ((x1_0+(1:Int),x1_1)) (by dsimp only [L57_0,L57_0_m];(try simp only [decide_eq_true_eq] at *);omega) (by have hp:rightP l x1_0=true:=(by simp only [rightP,didAt];grind);have hs:=allFrom_next (rightP l) (n:=l.length) (by grind) hp;dsimp only [L57_0,L57_0_J] at *;grind) (vc:=[Fits IntKind.i64 (x1_0+(1:Int))]) (hv:=(by simp only [Conj,Fits,i64_min,i64_max,u8_min,u8_max,News.len,maxLen]<;>(repeat' (first | apply And.intro | intro _))<;>first | grind | (simp only [BL] at *;omega)))
   ·refine tWk (St.mk 21 (z13_1 x1_0 l x1_1) [z13_2 l,Reg.box 107 [C.i .u8 5,z13_4 l x1_0,z13_8 l x1_0,z13_5 l x1_0,z13_6 l x1_0,z13_7 l x1_0,C.b (l.getD x1_0.toNat default).own]] []) ?_ [] [2] [(5:Int)=(l.getD x1_0.toNat default).kind] (by simp only [Conj];(repeat' apply And.intro)<;>first | trivial | rfl | (intros;rfl) | (exact Eq.symm (by assumption)) | grind)
    refine tz [4,9,8,7,2] ?_
    refine tCall e_trace_formOf (c_formOf5 (d:=l.getD x1_0.toNat default) (hk:=by first | assumption | omega)) [] ?_
    refine tz [15,9,8,7,2] ?_
    refine tCond (!didB (l.getD x1_0.toNat default)) (fun h4=>?_) (fun h4=>?_)
    ·exact tRet [] [0] [rightsB l=false] (by simp only [Conj];first | grind | (have he:=allFrom_end (rightP l) (i:=x1_0) (n:=l.length) (by grind);grind) | (have hp:rightP l x1_0=false:=(by simp only [rightP,didAt];first | grind | (cases hd:didB (l.getD x1_0.toNat default) with | false=>rfl | true=>exact absurd (didB_bounds hd) (by omega)));have hs:=allFrom_stop (rightP l) (n:=l.length) (by grind) hp;grind))
    ·exact tNext (L57_0 l) (x1_0,x1_1) ((x1_0+(1:Int),x1_1)) (by dsimp only [L57_0,L57_0_m];(try simp only [decide_eq_true_eq] at *);omega) (by have hp:rightP l x1_0=true:=(by simp only [rightP,didAt];grind);have hs:=allFrom_next (rightP l) (n:=l.length) (by grind) hp;dsimp only [L57_0,L57_0_J] at *;grind) (vc:=[Fits IntKind.i64 (x1_0+(1:Int))]) (hv:=(by simp only [Conj,Fits,i64_min,i64_max,u8_min,u8_max,News.len,maxLen]<;>(repeat' (first | apply And.intro | intro _))<;>first | grind | (simp only [BL] at *;omega)))
   ·refine tWk (St.mk 21 (z13_1 x1_0 l x1_1) [z13_2 l,Reg.box 107 [C.i .u8 6,z13_4 l x1_0,z13_8 l x1_0,z13_5 l x1_0,z13_6 l x1_0,z13_7 l x1_0,C.b (l.getD x1_0.toNat default).own]] []) ?_ [] [2] [(6:Int)=(l.getD x1_0.toNat default).kind] (by simp only [Conj];(repeat' apply And.intro)<;>first | trivial | rfl | (intros;rfl) | (exact Eq.symm (by assumption)) | grind)
    refine tz [4,9,8,7,2] ?_
    refine tCall e_trace_formOf (c_formOf6 (d:=l.getD x1_0.toNat default) (hk:=by first | assumption | omega)) [] ?_
    refine tz [15,9,8,7,2] ?_
    refine tCond (!didB (l.getD x1_0.toNat default)) (fun h4=>?_) (fun h4=>?_)
    ·exact tRet [] [0] [rightsB l=false] (by simp only [Conj];first | grind | (have he:=allFrom_end (rightP l) (i:=x1_0) (n:=l.length) (by grind);grind) | (have hp:rightP l x1_0=false:=(by simp only [rightP,didAt];first | grind | (cases hd:didB (l.getD x1_0.toNat default) with | false=>rfl | true=>exact absurd (didB_bounds hd) (by omega)));have hs:=allFrom_stop (rightP l) (n:=l.length) (by grind) hp;grind))
    ·exact tNext (L57_0 l) (x1_0,x1_1) ((x1_0+(1:Int),x1_1)) (by dsimp only [L57_0,L57_0_m];(try simp only [decide_eq_true_eq] at *);omega) (by have hp:rightP l x1_0=true:=(by simp only [rightP,didAt];grind);have hs:=allFrom_next (rightP l) (n:=l.length) (by grind) hp;dsimp only [L57_0,L57_0_J] at *;grind) (vc:=[Fits IntKind.i64 (x1_0+(1:Int))]) (hv:=(by simp only [Conj,Fits,i64_min,i64_max,u8_min,u8_max,News.len,maxLen]<;>(repeat' (first | apply And.intro | intro _))<;>first | grind | (simp only [BL] at *;omega)))
   ·refine tWk (St.mk 21 (z13_1 x1_0 l x1_1) [z13_2 l,Reg.box 107 [C.i .u8 7,z13_4 l x1_0,z13_8 l x1_0,z13_5 l x1_0,z13_6 l x1_0,z13_7 l x1_0,C.b (l.getD x1_0.toNat default).own]] []) ?_ [] [2] [(7:Int)=(l.getD x1_0.toNat default).kind] (by simp only [Conj];(repeat' apply And.intro)<;>first | trivial | rfl | (intros;rfl) | (exact Eq.symm (by assumption)) | grind)
    refine tz [4,9,8,7,2] ?_
    refine tCall e_trace_formOf (c_formOf7 (d:=l.getD x1_0.toNat default) (hk:=by first | assumption | omega)) [] ?_
    refine tz [15,9,8,7,2] ?_
    refine tCond (!didB (l.getD x1_0.toNat default)) (fun h4=>?_) (fun h4=>?_)
    ·exact tRet [] [0] [rightsB l=false] (by simp only [Conj];first | grind | (have he:=allFrom_end (rightP l) (i:=x1_0) (n:=l.length) (by grind);grind) | (have hp:rightP l x1_0=false:=(by simp only [rightP,didAt];first | grind | (cases hd:didB (l.getD x1_0.toNat default) with | false=>rfl | true=>exact absurd (didB_bounds hd) (by omega)));have hs:=allFrom_stop (rightP l) (n:=l.length) (by grind) hp;grind))
    ·exact tNext (L57_0 l) (x1_0,x1_1) ((x1_0+(1:Int),x1_1)) (by dsimp only [L57_0,L57_0_m];(try simp only [decide_eq_true_eq] at *);omega) (by have hp:rightP l x1_0=true:=(by simp only [rightP,didAt];grind);have hs:=allFrom_next (rightP l) (n:=l.length) (by grind) hp;dsimp only [L57_0,L57_0_J] at *;grind) (vc:=[Fits IntKind.i64 (x1_0+(1:Int))]) (hv:=(by simp only [Conj,Fits,i64_min,i64_max,u8_min,u8_max,News.len,maxLen]<;>(repeat' (first | apply And.intro | intro _))<;>first | grind | (simp only [BL] at *;omega)))
   ·refine tWk (St.mk 21 (z13_1 x1_0 l x1_1) [z13_2 l,Reg.box 107 [C.i .u8 8,z13_4 l x1_0,z13_8 l x1_0,z13_5 l x1_0,z13_6 l x1_0,z13_7 l x1_0,C.b (l.getD x1_0.toNat default).own]] []) ?_ [] [2] [(8:Int)=(l.getD x1_0.toNat default).kind] (by simp only [Conj];(repeat' apply And.intro)<;>first | trivial | rfl | (intros;rfl) | (exact Eq.symm (by assumption)) | grind)
    refine tz [4,9,8,7,2] ?_
    refine tCall e_trace_formOf (c_formOf8 (d:=l.getD x1_0.toNat default) (hk:=by first | assumption | omega)) [] ?_
    refine tz [15,9,8,7,2] ?_
    refine tCond (!didB (l.getD x1_0.toNat default)) (fun h4=>?_) (fun h4=>?_)
    ·exact tRet [] [0] [rightsB l=false] (by simp only [Conj];first | grind | (have he:=allFrom_end (rightP l) (i:=x1_0) (n:=l.length) (by grind);grind) | (have hp:rightP l x1_0=false:=(by simp only [rightP,didAt];first | grind | (cases hd:didB (l.getD x1_0.toNat default) with | false=>rfl | true=>exact absurd (didB_bounds hd) (by omega)));have hs:=allFrom_stop (rightP l) (n:=l.length) (by grind) hp;grind))
    ·exact tNext (L57_0 l) (x1_0,x1_1) ((x1_0+(1:Int),x1_1)) (by dsimp only [L57_0,L57_0_m];(try simp only [decide_eq_true_eq] at *);omega) (by have hp:rightP l x1_0=true:=(by simp only [rightP,didAt];grind);have hs:=allFrom_next (rightP l) (n:=l.length) (by grind) hp;dsimp only [L57_0,L57_0_J] at *;grind) (vc:=[Fits IntKind.i64 (x1_0+(1:Int))]) (hv:=(by simp only [Conj,Fits,i64_min,i64_max,u8_min,u8_max,News.len,maxLen]<;>(repeat' (first | apply And.intro | intro _))<;>first | grind | (simp only [BL] at *;omega)))
   ·refine tz [4,9,8,7,2] ?_
    refine tCall e_trace_formOf (c_formOf0 (d:=l.getD x1_0.toNat default) (hk:=by first | assumption | omega)) [] ?_
    refine tz [15,9,8,7,2] ?_
    refine tCond (!false) (fun h4=>?_) (fun h4=>?_)
    ·exact tRet [] [0] [rightsB l=false] (by simp only [Conj];first | grind | (have he:=allFrom_end (rightP l) (i:=x1_0) (n:=l.length) (by grind);grind) | (have hp:rightP l x1_0=false:=(by simp only [rightP,didAt];first | grind | (cases hd:didB (l.getD x1_0.toNat default) with | false=>rfl | true=>exact absurd (didB_bounds hd) (by omega)));have hs:=allFrom_stop (rightP l) (n:=l.length) (by grind) hp;grind))
    ·exact absurd h4 (by decide)
 ·exact tRet [] [0] [rightsB l=true] (by simp only [Conj];first | grind | (have he:=allFrom_end (rightP l) (i:=x1_0) (n:=l.length) (by grind);grind) | (have hp:rightP l x1_0=false:=(by simp only [rightP,didAt];first | grind | (cases hd:didB (l.getD x1_0.toNat default) with | false=>rfl | true=>exact absurd (didB_bounds hd) (by omega)));have hs:=allFrom_stop (rightP l) (n:=l.length) (by grind) hp;grind))
end Go.Proofs.YtmjjikcappbkeaaGreat
end
noncomputable section
namespace Go.Proofs.YtmjjikcappbkeaaGreat
open Go Go.Tx
def drW (w word:Int):Int:=if w=2&&decide (word=0) then 5 else onK w 2
def swW (w word put:Int):Int:=if w=2&&decide (word=0)&&!decide (put=0) then 4 else onK w 3
theorem c_always1v (w k:Int) (a0 a1 a2 a3 a4 a5:Int) (a6:Bool):Ctr Tryz.prog 188 [.ro [.i .u8 k]] [.c (.i .i64 w),.agg [.i .u8 a0,.i .i64 a1,.i .i64 a2,.i .i64 a3,.i .i64 a4,.i .i64 a5,.b a6],.c (.p 0 0)]
 (Det (.c (.i .u8 k)) [.dead]):=by
 exact c_always1 w k ⟨a0,a1,a2,a3,a4,a5,a6⟩
theorem c_on1v (w k:Int) (a0 a1 a2 a3 a4 a5:Int) (a6:Bool):Ctr Tryz.prog 189 [.ro [.i .u8 k]] [.c (.i .i64 w),.agg [.i .u8 a0,.i .i64 a1,.i .i64 a2,.i .i64 a3,.i .i64 a4,.i .i64 a5,.b a6],.c (.p 0 0)]
 (Det (.c (.i .u8 (onK w k))) [.dead]):=by
 exact c_on1 w k ⟨a0,a1,a2,a3,a4,a5,a6⟩
theorem c_swappedv (w:Int) (a0 a1 a2 a3 a4 a5:Int) (a6:Bool):Ctr Tryz.prog 161 [] [.c (.i .i64 w),.agg [.i .u8 a0,.i .i64 a1,.i .i64 a2,.i .i64 a3,.i .i64 a4,.i .i64 a5,.b a6]]
 (Det (.c (.i .u8 (swW w a4 a5))) []):=by
 exact c_swapped w ⟨a0,a1,a2,a3,a4,a5,a6⟩
theorem c_drainedv (w:Int) (a0 a1 a2 a3 a4 a5:Int) (a6:Bool):Ctr Tryz.prog 162 [] [.c (.i .i64 w),.agg [.i .u8 a0,.i .i64 a1,.i .i64 a2,.i .i64 a3,.i .i64 a4,.i .i64 a5,.b a6]]
 (Det (.c (.i .u8 (drW w a4))) []):=by
 exact c_drained w ⟨a0,a1,a2,a3,a4,a5,a6⟩
theorem c_eventsF (mem:List Int) (sh lk bu:Int) (cs:List Cor) (l:List Did):Ctr Tryz.prog 72 [IntRow mem,Cor.rowR cs,Did.rowR l] [.agg [.h 0,.i .i64 sh,.i .i64 lk,.i .i64 bu,.h 1],.c (.h 2)]
 (Det (.c (C.fn 116 false [4,3])) [.dead,.dead,.dead,Reg.box 29 [.h 0,.i .i64 sh,.i .i64 lk,.i .i64 bu,.h 1],Reg.box 46 [.h 2]]):=by
 refine Ctr.intro [] Tryz.func72 K K ?_
 exact tRet
def C50 (sh lk bu:Int) (l:List Did) (Xe:Ext) (x1_0:Int) (x1_1:Nat):St:=St.mk 90 [En.mk 9 [] (SV.c (C.p 8 0)),En.mk 8 [] (SV.c (C.i .i64 (thD sh lk (l.getD x1_0.toNat default)))),En.mk 5 [] (SV.c (C.p 7 0)),En.mk 12 [] (SV.c (C.i .i64 x1_0)),En.mk 11 [] (SV.c (C.i .i64 (l.length:Int))),En.mk 10 [] (SV.c (C.h 0)),En.mk 0 [] (SV.c (C.h 6)),En.mk 2 [] (SV.c (C.p 2 0))] [Reg.row 7 l.length (fun i=>(l.getD i default).tc) none,Reg.ro [C.h 0],Reg.ro [C.h 3,C.i .i64 sh,C.i .i64 lk,C.i .i64 bu,C.h 4],Reg.dead,Reg.dead,Reg.froz Xe,Reg.ext Xe x1_1 true,Reg.box 107 [C.i .u8 (l.getD x1_0.toNat default).kind,C.i .i64 (l.getD x1_0.toNat default).core,C.i .i64 (l.getD x1_0.toNat default).pc,C.i .i64 (l.getD x1_0.toNat default).addr,C.i .i64 (l.getD x1_0.toNat default).word,C.i .i64 (l.getD x1_0.toNat default).put,C.b (l.getD x1_0.toNat default).own],Reg.box 123 [C.i .u8 (evOf sh lk (l.getD x1_0.toNat default) x1_0).kind,C.i .i64 (l.getD x1_0.toNat default).core,C.i .i64 0,C.i .i64 0,C.i .i64 0,C.t false,C.i .i64 x1_0]] []
def C50b (sh lk bu:Int) (l:List Did) (Xe:Ext) (x1_0:Int) (x1_1:Nat):St:=St.mk 90 [En.mk 60 [] (SV.c (C.b (decide ((evOf sh lk (l.getD x1_0.toNat default) x1_0).kind=1)||decide ((evOf sh lk (l.getD x1_0.toNat default) x1_0).kind=2)||decide ((evOf sh lk (l.getD x1_0.toNat default) x1_0).kind=3)))),En.mk 57 [] (SV.c (C.i .u8 (evOf sh lk (l.getD x1_0.toNat default) x1_0).kind)),En.mk 9 [] (SV.c (C.p 8 0)),En.mk 8 [] (SV.c (C.i .i64 (thD sh lk (l.getD x1_0.toNat default)))),En.mk 5 [] (SV.c (C.p 7 0)),En.mk 12 [] (SV.c (C.i .i64 x1_0)),En.mk 11 [] (SV.c (C.i .i64 (l.length:Int))),En.mk 10 [] (SV.c (C.h 0)),En.mk 0 [] (SV.c (C.h 6)),En.mk 2 [] (SV.c (C.p 2 0))] (C50 sh lk bu l Xe x1_0 x1_1).rg []
def C50y (sh lk bu:Int) (l:List Did) (Xe:Ext) (x1_0:Int) (x1_1:Nat):St:=St.mk 90 [En.mk 9 [] (SV.c (C.p 8 0)),En.mk 12 [] (SV.c (C.i .i64 x1_0)),En.mk 11 [] (SV.c (C.i .i64 (l.length:Int))),En.mk 10 [] (SV.c (C.h 0)),En.mk 0 [] (SV.c (C.h 6)),En.mk 2 [] (SV.c (C.p 2 0))] [Reg.row 7 l.length (fun i=>(l.getD i default).tc) none,Reg.ro [C.h 0],Reg.ro [C.h 3,C.i .i64 sh,C.i .i64 lk,C.i .i64 bu,C.h 4],Reg.dead,Reg.dead,Reg.froz Xe,Reg.ext Xe x1_1 true,Reg.dead,Reg.box 123 (evOf sh lk (l.getD x1_0.toNat default) x1_0).cs] []
def C50y_J (sh lk:Int) (l:List Did) (x1_0:Int):Prop:=¬ (evOf sh lk (l.getD x1_0.toNat default) x1_0).kind=0
abbrev z14_13 (l:List Did):=Reg.row 7 l.length (fun i=>(l.getD i default).tc) none
abbrev z14_14 (sh:Int) (lk:Int) (bu:Int):=Reg.ro [C.h 3,C.i .i64 sh,C.i .i64 lk,C.i .i64 bu,C.h 4]
def L88_0_I (sh:Int) (lk:Int) (bu:Int) (l:List Did) (Xe:Ext):Int×Nat→St:=fun x=>{ N:=90,fr:=[{ slot:=12,g:=[],sv:=SV.c (C.i .i64 x.1) },{ slot:=11,g:=[],sv:=SV.c (C.i .i64 (↑l.length:Int)) },{ slot:=10,g:=[],sv:=SV.c (C.h 0) },{ slot:=0,g:=[],sv:=SV.c (C.h 6) },{ slot:=2,g:=[],sv:=SV.c (C.p 2 0) }],rg:=[z14_13 l,Reg.ro [C.h 0],z14_14 sh lk bu,Reg.dead,Reg.dead,Reg.froz Xe,Reg.ext Xe x.2 true],wr:=[] }
def L88_0_J (sh:Int) (lk:Int) (bu:Int) (l:List Did) (Xe:Ext):Int×Nat→Prop:=fun x=>0≤x.1∧x.1≤(l.length:Int)∧x.2=(evUp sh lk l x.1.toNat).length
def L88_0_m (sh:Int) (lk:Int) (bu:Int) (l:List Did) (Xe:Ext):Int×Nat→Nat:=fun x=>((l.length:Int)-x.1).toNat
def L88_0 (sh:Int) (lk:Int) (bu:Int) (l:List Did) (Xe:Ext):Lp (Int×Nat):=⟨L88_0_I sh lk bu l Xe,L88_0_J sh lk bu l Xe,L88_0_m sh lk bu l Xe⟩
abbrev z14_54 (l:List Did):=En.mk 11 [] (SV.c (C.i .i64 (↑l.length:Int)))
abbrev z14_1 (x1_0:Int) (l:List Did):=[En.mk 6 [] (SV.c (C.p 12 0)),En.mk 4 [] (SV.c (C.i .i64 x1_0)),En.mk 5 [] (SV.c (C.p 7 0)),En.mk 12 [] (SV.c (C.i .i64 x1_0)),z14_54 l,En.mk 10 [] (SV.c (C.h 0)),En.mk 0 [] (SV.c (C.h 6)),En.mk 2 [] (SV.c (C.p 2 0))]
abbrev z14_2 (x1_0:Int) (l:List Did):=[En.mk 9 [] (SV.c (C.p 13 0)),En.mk 8 [] (SV.c (C.i .i64 0)),En.mk 5 [] (SV.c (C.p 7 0)),En.mk 12 [] (SV.c (C.i .i64 x1_0)),z14_54 l,En.mk 10 [] (SV.c (C.h 0)),En.mk 0 [] (SV.c (C.h 6)),En.mk 2 [] (SV.c (C.p 2 0))]
abbrev z14_25 (l:List Did) (x1_0:Int):=C.i .i64 (l.getD x1_0.toNat default).core
abbrev z14_34 (l:List Did) (x1_0:Int):=C.i .i64 (l.getD x1_0.toNat default).addr
abbrev z14_35 (l:List Did) (x1_0:Int):=C.i .i64 (l.getD x1_0.toNat default).word
abbrev z14_36 (l:List Did) (x1_0:Int):=C.i .i64 (l.getD x1_0.toNat default).put
abbrev z14_48 (l:List Did) (x1_0:Int):=C.i .i64 (l.getD x1_0.toNat default).pc
abbrev z14_17 (l:List Did) (x1_0:Int):=Reg.box 107 [C.i .u8 3,z14_25 l x1_0,z14_48 l x1_0,z14_34 l x1_0,z14_35 l x1_0,z14_36 l x1_0,C.b (l.getD x1_0.toNat default).own]
abbrev z14_18 (l:List Did) (x1_0:Int):=Reg.box 123 [C.i .u8 0,z14_25 l x1_0,C.i .i64 0,C.i .i64 0,C.i .i64 0,C.t false,C.i .i64 x1_0]
abbrev z14_3 (l:List Did) (sh:Int) (lk:Int) (bu:Int) (Xe:Ext) (x1_1:Nat) (x1_0:Int):=[z14_13 l,Reg.ro [C.h 0],z14_14 sh lk bu,Reg.dead,Reg.dead,Reg.froz Xe,Reg.ext Xe x1_1 true,z14_17 l x1_0,Reg.dead,Reg.dead,Reg.dead,Reg.dead,Reg.dead,z14_18 l x1_0]
abbrev z14_4 (l:List Did) (x1_0:Int):=Reg.box 107 [C.i .u8 2,z14_25 l x1_0,z14_48 l x1_0,z14_34 l x1_0,z14_35 l x1_0,z14_36 l x1_0,C.b (l.getD x1_0.toNat default).own]
abbrev z14_5 (l:List Did) (x1_0:Int):=Reg.box 107 [C.i .u8 4,z14_25 l x1_0,z14_48 l x1_0,z14_34 l x1_0,z14_35 l x1_0,z14_36 l x1_0,C.b (l.getD x1_0.toNat default).own]
abbrev z14_6 (l:List Did) (x1_0:Int):=Reg.box 107 [C.i .u8 8,z14_25 l x1_0,z14_48 l x1_0,z14_34 l x1_0,z14_35 l x1_0,z14_36 l x1_0,C.b (l.getD x1_0.toNat default).own]
abbrev z14_7 (l:List Did) (x1_0:Int) (sh:Int):=[En.mk 9 [] (SV.c (C.p 13 0)),En.mk 8 [] (SV.c (C.i .i64 ((l.getD x1_0.toNat default).addr-sh))),En.mk 5 [] (SV.c (C.p 7 0)),En.mk 12 [] (SV.c (C.i .i64 x1_0)),z14_54 l,En.mk 10 [] (SV.c (C.h 0)),En.mk 0 [] (SV.c (C.h 6)),En.mk 2 [] (SV.c (C.p 2 0))]
abbrev z14_8 (l:List Did) (x1_0:Int):=[En.mk 9 [] (SV.c (C.p 13 0)),En.mk 8 [] (SV.c (C.i .i64 (l.getD x1_0.toNat default).addr)),En.mk 5 [] (SV.c (C.p 7 0)),En.mk 12 [] (SV.c (C.i .i64 x1_0)),z14_54 l,En.mk 10 [] (SV.c (C.h 0)),En.mk 0 [] (SV.c (C.h 6)),En.mk 2 [] (SV.c (C.p 2 0))]
abbrev z14_9 (x1_0:Int) (l:List Did):=[En.mk 4 [] (SV.c (C.i .i64 x1_0)),En.mk 5 [] (SV.c (C.p 7 0)),En.mk 12 [] (SV.c (C.i .i64 x1_0)),z14_54 l,En.mk 10 [] (SV.c (C.h 0)),En.mk 0 [] (SV.c (C.h 6)),En.mk 2 [] (SV.c (C.p 2 0))]
abbrev z14_10 (l:List Did) (x1_0:Int):=Reg.box 107 [C.i .u8 1,z14_25 l x1_0,z14_48 l x1_0,z14_34 l x1_0,z14_35 l x1_0,z14_36 l x1_0,C.b (l.getD x1_0.toNat default).own]
abbrev z14_11 (l:List Did) (x1_0:Int):=Reg.box 107 [C.i .u8 5,z14_25 l x1_0,z14_48 l x1_0,z14_34 l x1_0,z14_35 l x1_0,z14_36 l x1_0,C.b (l.getD x1_0.toNat default).own]
abbrev z14_12 (l:List Did) (x1_0:Int):=Reg.box 107 [C.i .u8 6,z14_25 l x1_0,z14_48 l x1_0,z14_34 l x1_0,z14_35 l x1_0,z14_36 l x1_0,C.b (l.getD x1_0.toNat default).own]
abbrev z14_15 (l:List Did) (x1_0:Int):=Reg.box 107 [C.i .u8 7,z14_25 l x1_0,z14_48 l x1_0,z14_34 l x1_0,z14_35 l x1_0,z14_36 l x1_0,C.b (l.getD x1_0.toNat default).own]
abbrev z14_16 (sh:Int) (lk:Int) (l:List Did) (x1_0:Int):=(evOf sh lk (l.getD x1_0.toNat default) x1_0)
abbrev z14_19:=Reg.box 218 [C.v (Value.string (ByteArray.mk #[(99:UInt8),(111:UInt8),(109:UInt8),(112:UInt8),(117:UInt8),(116:UInt8),(101:UInt8)])),C.t false,C.t false,C.t false,C.t false,C.fn 188 false [8]]
abbrev z14_20:=Reg.box 218 [C.v (Value.string (ByteArray.mk #[(112:UInt8),(114:UInt8),(105:UInt8),(110:UInt8),(116:UInt8)])),C.t false,C.t true,C.t false,C.t false,C.fn 188 false [10]]
abbrev z14_21:=Reg.box 218 [C.v (Value.string (ByteArray.mk #[(102:UInt8),(101:UInt8),(110:UInt8),(99:UInt8),(101:UInt8)])),C.t false,C.t false,C.t false,C.t false,C.fn 188 false [8]]
abbrev z14_22:=Reg.box 218 [C.v (Value.string (ByteArray.mk #[(115:UInt8),(116:UInt8),(111:UInt8),(114:UInt8),(101:UInt8)])),C.t true,C.t true,C.t false,C.t false,C.fn 188 false [8]]
abbrev z14_23:=Reg.box 218 [C.v (Value.string (ByteArray.mk #[(100:UInt8),(114:UInt8),(97:UInt8),(105:UInt8),(110:UInt8)])),C.t true,C.t true,C.t false,C.t false,C.fn 162 false []]
abbrev z14_24:=Reg.box 218 [C.v (Value.string (ByteArray.mk #[(104:UInt8),(97:UInt8),(108:UInt8),(116:UInt8)])),C.t false,C.t false,C.t false,C.t false,C.fn 188 false [11]]
abbrev z14_26 (x1_0:Int) (l:List Did) (sh:Int) (lk:Int) (bu:Int) (Xe:Ext) (x1_1:Nat):=St.mk 90 (z14_1 x1_0 l) [z14_13 l,Reg.ro [C.h 0],z14_14 sh lk bu,Reg.dead,Reg.dead,Reg.froz Xe,Reg.ext Xe x1_1 true,z14_4 l x1_0,Reg.dead,Reg.box 121 [C.i .u8 1],Reg.dead,Reg.dead,Reg.box 218 [C.v (Value.string (ByteArray.mk #[(108:UInt8),(111:UInt8),(97:UInt8),(100:UInt8)])),C.t true,C.t true,C.t false,C.t true,C.fn 189 false [9]]] []
abbrev z14_27 (x1_0:Int) (l:List Did) (sh:Int) (lk:Int) (bu:Int) (Xe:Ext) (x1_1:Nat):=St.mk 90 (z14_1 x1_0 l) [z14_13 l,Reg.ro [C.h 0],z14_14 sh lk bu,Reg.dead,Reg.dead,Reg.froz Xe,Reg.ext Xe x1_1 true,z14_5 l x1_0,Reg.dead,Reg.dead,Reg.dead,Reg.dead,Reg.box 218 [C.v (Value.string (ByteArray.mk #[(115:UInt8),(119:UInt8),(97:UInt8),(112:UInt8)])),C.t true,C.t true,C.t true,C.t false,C.fn 161 false []]] []
abbrev z14_28 (sh:Int) (lk:Int) (l:List Did) (x1_0:Int):=(decide ((z14_16 sh lk l x1_0).kind=(1:Int))||decide ((z14_16 sh lk l x1_0).kind=(2:Int))||decide ((z14_16 sh lk l x1_0).kind=(3:Int)))
abbrev z14_29:=Reg.box 121 [C.i .u8 0]
abbrev z14_30 (x1_0:Int) (l:List Did) (sh:Int) (lk:Int) (bu:Int) (Xe:Ext) (x1_1:Nat):=St.mk 90 (z14_1 x1_0 l) [z14_13 l,Reg.ro [C.h 0],z14_14 sh lk bu,Reg.dead,Reg.dead,Reg.froz Xe,Reg.ext Xe x1_1 true,z14_12 l x1_0,Reg.dead,Reg.dead,Reg.box 121 [C.i .u8 6],Reg.dead,z14_20] []
abbrev z14_31 (x1_0:Int) (l:List Did) (sh:Int) (lk:Int) (bu:Int) (Xe:Ext) (x1_1:Nat):=St.mk 90 (z14_1 x1_0 l) [z14_13 l,Reg.ro [C.h 0],z14_14 sh lk bu,Reg.dead,Reg.dead,Reg.froz Xe,Reg.ext Xe x1_1 true,z14_15 l x1_0,Reg.dead,Reg.dead,Reg.dead,Reg.box 121 [C.i .u8 7],z14_24] []
abbrev z14_32 (x1_0:Int) (l:List Did) (sh:Int) (lk:Int) (bu:Int) (Xe:Ext) (x1_1:Nat):=St.mk 90 (z14_2 x1_0 l) [z14_13 l,Reg.ro [C.h 0],z14_14 sh lk bu,Reg.dead,Reg.dead,Reg.froz Xe,Reg.ext Xe x1_1 true,z14_10 l x1_0,Reg.dead,Reg.dead,Reg.dead,Reg.dead,Reg.dead,z14_18 l x1_0] []
abbrev z14_33 (x1_0:Int) (l:List Did) (sh:Int) (lk:Int) (bu:Int) (Xe:Ext) (x1_1:Nat):=St.mk 90 (z14_2 x1_0 l) [z14_13 l,Reg.ro [C.h 0],z14_14 sh lk bu,Reg.dead,Reg.dead,Reg.froz Xe,Reg.ext Xe x1_1 true,z14_11 l x1_0,Reg.dead,Reg.dead,Reg.dead,Reg.dead,Reg.dead,z14_18 l x1_0] []
abbrev z14_37 (l:List Did) (x1_0:Int) (sh:Int) (lk:Int) (bu:Int) (Xe:Ext) (x1_1:Nat):=St.mk 90 (z14_7 l x1_0 sh) [z14_13 l,Reg.ro [C.h 0],z14_14 sh lk bu,Reg.dead,Reg.dead,Reg.froz Xe,Reg.ext Xe x1_1 true,z14_5 l x1_0,Reg.dead,Reg.dead,Reg.dead,Reg.dead,Reg.dead,Reg.box 123 [C.i .u8 (swW (2:Int) (l.getD x1_0.toNat default).word (l.getD x1_0.toNat default).put),z14_25 l x1_0,C.i .i64 0,C.i .i64 0,C.i .i64 0,C.t false,C.i .i64 x1_0]] []
abbrev z14_38 (l:List Did) (x1_0:Int) (sh:Int) (lk:Int) (bu:Int) (Xe:Ext) (x1_1:Nat):=St.mk 90 (z14_8 l x1_0) [z14_13 l,Reg.ro [C.h 0],z14_14 sh lk bu,Reg.dead,Reg.dead,Reg.froz Xe,Reg.ext Xe x1_1 true,z14_5 l x1_0,Reg.dead,Reg.dead,Reg.dead,Reg.dead,Reg.dead,Reg.box 123 [C.i .u8 (swW (1:Int) (l.getD x1_0.toNat default).word (l.getD x1_0.toNat default).put),z14_25 l x1_0,C.i .i64 0,C.i .i64 0,C.i .i64 0,C.t false,C.i .i64 x1_0]] []
abbrev z14_39 (x1_0:Int) (l:List Did) (sh:Int) (lk:Int) (bu:Int) (Xe:Ext) (x1_1:Nat):=St.mk 90 (z14_2 x1_0 l) [z14_13 l,Reg.ro [C.h 0],z14_14 sh lk bu,Reg.dead,Reg.dead,Reg.froz Xe,Reg.ext Xe x1_1 true,z14_5 l x1_0,Reg.dead,Reg.dead,Reg.dead,Reg.dead,Reg.dead,Reg.box 123 [C.i .u8 (swW (0:Int) (l.getD x1_0.toNat default).word (l.getD x1_0.toNat default).put),z14_25 l x1_0,C.i .i64 0,C.i .i64 0,C.i .i64 0,C.t false,C.i .i64 x1_0]] []
abbrev z14_40 (l:List Did) (x1_0:Int) (sh:Int) (lk:Int) (bu:Int) (Xe:Ext) (x1_1:Nat):=St.mk 90 (z14_7 l x1_0 sh) [z14_13 l,Reg.ro [C.h 0],z14_14 sh lk bu,Reg.dead,Reg.dead,Reg.froz Xe,Reg.ext Xe x1_1 true,z14_6 l x1_0,Reg.dead,Reg.dead,Reg.dead,Reg.dead,Reg.dead,Reg.box 123 [C.i .u8 (drW (2:Int) (l.getD x1_0.toNat default).word),z14_25 l x1_0,C.i .i64 0,C.i .i64 0,C.i .i64 0,C.t false,C.i .i64 x1_0]] []
abbrev z14_41 (l:List Did) (x1_0:Int) (sh:Int) (lk:Int) (bu:Int) (Xe:Ext) (x1_1:Nat):=St.mk 90 (z14_8 l x1_0) [z14_13 l,Reg.ro [C.h 0],z14_14 sh lk bu,Reg.dead,Reg.dead,Reg.froz Xe,Reg.ext Xe x1_1 true,z14_6 l x1_0,Reg.dead,Reg.dead,Reg.dead,Reg.dead,Reg.dead,Reg.box 123 [C.i .u8 (drW (1:Int) (l.getD x1_0.toNat default).word),z14_25 l x1_0,C.i .i64 0,C.i .i64 0,C.i .i64 0,C.t false,C.i .i64 x1_0]] []
abbrev z14_42 (x1_0:Int) (l:List Did) (sh:Int) (lk:Int) (bu:Int) (Xe:Ext) (x1_1:Nat):=St.mk 90 (z14_2 x1_0 l) [z14_13 l,Reg.ro [C.h 0],z14_14 sh lk bu,Reg.dead,Reg.dead,Reg.froz Xe,Reg.ext Xe x1_1 true,z14_6 l x1_0,Reg.dead,Reg.dead,Reg.dead,Reg.dead,Reg.dead,Reg.box 123 [C.i .u8 (drW (0:Int) (l.getD x1_0.toNat default).word),z14_25 l x1_0,C.i .i64 0,C.i .i64 0,C.i .i64 0,C.t false,C.i .i64 x1_0]] []
abbrev z14_43 (l:List Did) (x1_0:Int) (sh:Int) (lk:Int) (bu:Int) (Xe:Ext) (x1_1:Nat):=St.mk 90 (z14_7 l x1_0 sh) [z14_13 l,Reg.ro [C.h 0],z14_14 sh lk bu,Reg.dead,Reg.dead,Reg.froz Xe,Reg.ext Xe x1_1 true,z14_4 l x1_0,Reg.dead,Reg.dead,Reg.dead,Reg.dead,Reg.dead,Reg.box 123 [C.i .u8 (onK (2:Int) (1:Int)),z14_25 l x1_0,C.i .i64 0,C.i .i64 0,C.i .i64 0,C.t false,C.i .i64 x1_0]] []
abbrev z14_44 (l:List Did) (x1_0:Int) (sh:Int) (lk:Int) (bu:Int) (Xe:Ext) (x1_1:Nat):=St.mk 90 (z14_8 l x1_0) [z14_13 l,Reg.ro [C.h 0],z14_14 sh lk bu,Reg.dead,Reg.dead,Reg.froz Xe,Reg.ext Xe x1_1 true,z14_4 l x1_0,Reg.dead,Reg.dead,Reg.dead,Reg.dead,Reg.dead,Reg.box 123 [C.i .u8 (onK (1:Int) (1:Int)),z14_25 l x1_0,C.i .i64 0,C.i .i64 0,C.i .i64 0,C.t false,C.i .i64 x1_0]] []
abbrev z14_45 (x1_0:Int) (l:List Did) (sh:Int) (lk:Int) (bu:Int) (Xe:Ext) (x1_1:Nat):=St.mk 90 (z14_2 x1_0 l) [z14_13 l,Reg.ro [C.h 0],z14_14 sh lk bu,Reg.dead,Reg.dead,Reg.froz Xe,Reg.ext Xe x1_1 true,z14_4 l x1_0,Reg.dead,Reg.dead,Reg.dead,Reg.dead,Reg.dead,Reg.box 123 [C.i .u8 (onK (0:Int) (1:Int)),z14_25 l x1_0,C.i .i64 0,C.i .i64 0,C.i .i64 0,C.t false,C.i .i64 x1_0]] []
abbrev z14_46 (x1_0:Int) (l:List Did) (sh:Int) (lk:Int) (bu:Int) (Xe:Ext) (x1_1:Nat):=St.mk 90 (z14_2 x1_0 l) [z14_13 l,Reg.ro [C.h 0],z14_14 sh lk bu,Reg.dead,Reg.dead,Reg.froz Xe,Reg.ext Xe x1_1 true,z14_12 l x1_0,Reg.dead,Reg.dead,Reg.dead,Reg.dead,Reg.dead,Reg.box 123 [C.i .u8 6,z14_25 l x1_0,C.i .i64 0,C.i .i64 0,C.i .i64 0,C.t false,C.i .i64 x1_0]] []
abbrev z14_47 (x1_0:Int) (l:List Did) (sh:Int) (lk:Int) (bu:Int) (Xe:Ext) (x1_1:Nat):=St.mk 90 (z14_2 x1_0 l) [z14_13 l,Reg.ro [C.h 0],z14_14 sh lk bu,Reg.dead,Reg.dead,Reg.froz Xe,Reg.ext Xe x1_1 true,z14_15 l x1_0,Reg.dead,Reg.dead,Reg.dead,Reg.dead,Reg.dead,Reg.box 123 [C.i .u8 7,z14_25 l x1_0,C.i .i64 0,C.i .i64 0,C.i .i64 0,C.t false,C.i .i64 x1_0]] []
abbrev z14_49 (x1_0:Int) (l:List Did) (sh:Int) (lk:Int) (bu:Int) (Xe:Ext) (x1_1:Nat):=St.mk 90 (z14_1 x1_0 l) [z14_13 l,Reg.ro [C.h 0],z14_14 sh lk bu,Reg.dead,Reg.dead,Reg.froz Xe,Reg.ext Xe x1_1 true,z14_6 l x1_0,Reg.dead,Reg.dead,Reg.dead,Reg.dead,z14_23] []
abbrev z14_50 (x1_0:Int) (l:List Did) (sh:Int) (lk:Int) (bu:Int) (Xe:Ext) (x1_1:Nat):=St.mk 90 (z14_1 x1_0 l) [z14_13 l,Reg.ro [C.h 0],z14_14 sh lk bu,Reg.dead,Reg.dead,Reg.froz Xe,Reg.ext Xe x1_1 true,z14_10 l x1_0,z14_29,Reg.dead,Reg.dead,Reg.dead,z14_19] []
abbrev z14_51 (x1_0:Int) (l:List Did) (sh:Int) (lk:Int) (bu:Int) (Xe:Ext) (x1_1:Nat):=St.mk 90 (z14_1 x1_0 l) [z14_13 l,Reg.ro [C.h 0],z14_14 sh lk bu,Reg.dead,Reg.dead,Reg.froz Xe,Reg.ext Xe x1_1 true,z14_17 l x1_0,z14_29,Reg.dead,Reg.dead,Reg.dead,z14_22] []
abbrev z14_52 (x1_0:Int) (l:List Did) (sh:Int) (lk:Int) (bu:Int) (Xe:Ext) (x1_1:Nat):=St.mk 90 (z14_1 x1_0 l) [z14_13 l,Reg.ro [C.h 0],z14_14 sh lk bu,Reg.dead,Reg.dead,Reg.froz Xe,Reg.ext Xe x1_1 true,z14_11 l x1_0,z14_29,Reg.dead,Reg.dead,Reg.dead,z14_21] []
abbrev z14_53 (x1_0:Int) (l:List Did) (sh:Int) (lk:Int) (bu:Int) (Xe:Ext) (x1_1:Nat):=St.mk 90 (z14_9 x1_0 l) [z14_13 l,Reg.ro [C.h 0],z14_14 sh lk bu,Reg.dead,Reg.dead,Reg.froz Xe,Reg.ext Xe x1_1 true,Reg.box 107 [C.i .u8 (l.getD x1_0.toNat default).kind,z14_25 l x1_0,z14_48 l x1_0,z14_34 l x1_0,z14_35 l x1_0,z14_36 l x1_0,C.b (l.getD x1_0.toNat default).own]] []
theorem c_events_it (mem:List Int) (sh lk bu:Int) (cs:List Cor) (l:List Did) (hs:0≤sh∧sh≤64∧0≤lk∧lk≤16) (hr:rightsB l=true) (Xe:Ext) (hn:Xe.n=(evUp sh lk l l.length).length) (he:Xe.enc=fun k=>.agg ((evUp sh lk l l.length).getD k default).cs) (hy:Xe.Yields Tryz.prog):Ctr Tryz.prog 116 ([Did.rowR l,.ro [.h 0],.ro [.h 3,.i .i64 sh,.i .i64 lk,.i .i64 bu,.h 4],.dead,.dead]++[.froz Xe,.ext Xe 0 true]) [.c (.h 6),.c (.p 1 0),.c (.p 2 0)]
 (RangeEnd Xe 6):=by
 refine Ctr.intro [] Tryz.func116 K K ?_
 refine RunF.lens 0 (m:=l.length) K (fun hlens_0=>?_)
 refine tLoop (L88_0 sh lk bu l Xe) (((0:Int),0)) ⟨Int.le_refl _,by grind,rfl⟩ ?_
 rintro ⟨x1_0,x1_1⟩ hJ1
 dsimp only [L88_0,L88_0_J] at hJ1
 refine tz [12,11,10,0,2] ?_
 refine tCond (decide (x1_0<(↑l.length:Int))) (fun h2=>?_) (fun h2=>?_)
 ·refine RunF.cut (fun _:Unit=>z14_53 x1_0 l sh lk bu Xe x1_1) (fun _=>True) ?_ ?_
  ·exact tTo (fun x=>z14_53 x1_0 l sh lk bu Xe x1_1) (fun x=>True) () trivial (vc:=[(0:Int)≤x1_0,x1_0<(↑l.length:Int),x1_0.toNat<l.length]) (hv:=(by simp only [Conj,Fits,i64_min,i64_max,u8_min,u8_max,News.len,maxLen]<;>(repeat' (first | apply And.intro | intro _))<;>first | grind | (simp only [BL] at *;omega)))
  ·rintro ⟨⟩ _
   refine RunF.cutm 4 (fun _:Unit=>C50 sh lk bu l Xe x1_0 x1_1) (fun _=>True) ?_ ?_
   ·rcases (show (l.getD x1_0.toNat default).kind=(1:Int)∨(l.getD x1_0.toNat default).kind=(2:Int)∨(l.getD x1_0.toNat default).kind=(3:Int)∨(l.getD x1_0.toNat default).kind=(4:Int)∨(l.getD x1_0.toNat default).kind=(5:Int)∨(l.getD x1_0.toNat default).kind=(6:Int)∨(l.getD x1_0.toNat default).kind=(7:Int)∨(l.getD x1_0.toNat default).kind=(8:Int) from (by have hb:=didB_bounds (rights_at hr (i:=x1_0) (by omega) (by simpa using h2));omega)) with hs3 | hs3 | hs3 | hs3 | hs3 | hs3 | hs3 | hs3
    ·refine tWk (St.mk 90 (z14_9 x1_0 l) [z14_13 l,Reg.ro [C.h 0],z14_14 sh lk bu,Reg.dead,Reg.dead,Reg.froz Xe,Reg.ext Xe x1_1 true,z14_10 l x1_0] []) ?_ [] [9] [(1:Int)=(l.getD x1_0.toNat default).kind] (by simp only [Conj];(repeat' apply And.intro)<;>first | trivial | rfl | (intros;rfl) | (exact Eq.symm (by assumption)) | grind)
     refine tz [4,5,12,11,10,0,2] ?_
     refine tAny 2 (fun _:Unit=>z14_50 x1_0 l sh lk bu Xe x1_1) (fun _=>True) ?_ ?_
     ·refine ⟨⟨trivial,?_⟩,?_⟩
      ·refine tCall e_trace_forms (c_formsT) [] ?_
       exact tTo (fun x=>z14_50 x1_0 l sh lk bu Xe x1_1) (fun x=>True) () trivial (vc:=[(0:Int)≤(1:Int),(1:Int)<(9:Int)]) (hv:=(by simp only [Conj,Fits,i64_min,i64_max,u8_min,u8_max,News.len,maxLen]<;>(repeat' (first | apply And.intro | intro _))<;>first | grind | (simp only [BL] at *;omega)))
      ·refine tCall e_trace_forms (c_formsT) [] ?_
       exact tTo (fun x=>z14_50 x1_0 l sh lk bu Xe x1_1) (fun x=>True) () trivial [0,1,2,3,4,5,6,7,9,1000009,10,11,8] (vc:=[(0:Int)≤(1:Int),(1:Int)<(9:Int)]) (hv:=(by simp only [Conj,Fits,i64_min,i64_max,u8_min,u8_max,News.len,maxLen]<;>(repeat' (first | apply And.intro | intro _))<;>first | grind | (simp only [BL] at *;omega)))
     ·rintro ⟨⟩ _
      refine tz [6,4,5,12,11,10,0,2] ?_
      refine tAny 2 (fun _:Unit=>z14_32 x1_0 l sh lk bu Xe x1_1) (fun _=>True) ?_ ?_
      ·refine ⟨⟨trivial,?_⟩,?_⟩
       ·refine tCall e_trace_always_1 (c_always1v (w:=(0:Int)) (k:=(0:Int)) (a0:=(1:Int)) (a1:=(l.getD x1_0.toNat default).core) (a2:=(l.getD x1_0.toNat default).pc) (a3:=(l.getD x1_0.toNat default).addr) (a4:=(l.getD x1_0.toNat default).word) (a5:=(l.getD x1_0.toNat default).put) (a6:=(l.getD x1_0.toNat default).own)) [8] ?_
        exact tTo (fun x=>z14_32 x1_0 l sh lk bu Xe x1_1) (fun x=>True) () trivial
       ·refine tCall e_trace_always_1 (c_always1v (w:=(0:Int)) (k:=(0:Int)) (a0:=(1:Int)) (a1:=(l.getD x1_0.toNat default).core) (a2:=(l.getD x1_0.toNat default).pc) (a3:=(l.getD x1_0.toNat default).addr) (a4:=(l.getD x1_0.toNat default).word) (a5:=(l.getD x1_0.toNat default).put) (a6:=(l.getD x1_0.toNat default).own)) [8] ?_
        exact tTo (fun x=>z14_32 x1_0 l sh lk bu Xe x1_1) (fun x=>True) () trivial
      ·rintro ⟨⟩ _
       exact tTo (fun x=>C50 sh lk bu l Xe x1_0 x1_1) (fun x=>True) () trivial [0,1,2,3,4,5,6,7,13] [9,16,22] [(l.getD x1_0.toNat default).kind=(1:Int),(z14_16 sh lk l x1_0).kind=(0:Int),thD sh lk (l.getD x1_0.toNat default)=(0:Int)] (by simp only [Conj];(repeat' apply And.intro)<;>first | trivial | rfl | (intros;rfl) | (intros;trivial) | (have hp:=evOf_parts (i:=x1_0) hs (rights_at hr (i:=x1_0) (by omega) (by simpa using h2));simp only [BL] at *;first | grind | omega) | (simp only [evOf,thD,noEv,onK,drW,swW,addrB,BL] at *;grind))
    ·refine tWk (St.mk 90 (z14_9 x1_0 l) [z14_13 l,Reg.ro [C.h 0],z14_14 sh lk bu,Reg.dead,Reg.dead,Reg.froz Xe,Reg.ext Xe x1_1 true,z14_4 l x1_0] []) ?_ [] [9] [(2:Int)=(l.getD x1_0.toNat default).kind] (by simp only [Conj];(repeat' apply And.intro)<;>first | trivial | rfl | (intros;rfl) | (exact Eq.symm (by assumption)) | grind)
     refine tz [4,5,12,11,10,0,2] ?_
     refine tAny 2 (fun _:Unit=>z14_26 x1_0 l sh lk bu Xe x1_1) (fun _=>True) ?_ ?_
     ·refine ⟨⟨trivial,?_⟩,?_⟩
      ·refine tCall e_trace_forms (c_formsT) [] ?_
       exact tTo (fun x=>z14_26 x1_0 l sh lk bu Xe x1_1) (fun x=>True) () trivial (vc:=[(0:Int)≤(2:Int),(2:Int)<(9:Int)]) (hv:=(by simp only [Conj,Fits,i64_min,i64_max,u8_min,u8_max,News.len,maxLen]<;>(repeat' (first | apply And.intro | intro _))<;>first | grind | (simp only [BL] at *;omega)))
      ·refine tCall e_trace_forms (c_formsT) [] ?_
       exact tTo (fun x=>z14_26 x1_0 l sh lk bu Xe x1_1) (fun x=>True) () trivial [0,1,2,3,4,5,6,7,1000008,10,1000010,11,8] (vc:=[(0:Int)≤(2:Int),(2:Int)<(9:Int)]) (hv:=(by simp only [Conj,Fits,i64_min,i64_max,u8_min,u8_max,News.len,maxLen]<;>(repeat' (first | apply And.intro | intro _))<;>first | grind | (simp only [BL] at *;omega)))
     ·rintro ⟨⟩ _
      refine tz [6,4,5,12,11,10,0,2] ?_
      refine tCond (decide ((l.getD x1_0.toNat default).addr<sh)) (fun h4=>?_) (fun h4=>?_)
      ·refine tz [8,7,6,4,5,12,11,10,0,2] ?_
       refine tAny 2 (fun _:Unit=>z14_44 l x1_0 sh lk bu Xe x1_1) (fun _=>True) ?_ ?_
       ·refine ⟨⟨trivial,?_⟩,?_⟩
        ·refine tCall e_trace_on_1 (c_on1v (w:=(1:Int)) (k:=(1:Int)) (a0:=(2:Int)) (a1:=(l.getD x1_0.toNat default).core) (a2:=(l.getD x1_0.toNat default).pc) (a3:=(l.getD x1_0.toNat default).addr) (a4:=(l.getD x1_0.toNat default).word) (a5:=(l.getD x1_0.toNat default).put) (a6:=(l.getD x1_0.toNat default).own)) [9] ?_
         exact tTo (fun x=>z14_44 l x1_0 sh lk bu Xe x1_1) (fun x=>True) () trivial
        ·refine tCall e_trace_on_1 (c_on1v (w:=(1:Int)) (k:=(1:Int)) (a0:=(2:Int)) (a1:=(l.getD x1_0.toNat default).core) (a2:=(l.getD x1_0.toNat default).pc) (a3:=(l.getD x1_0.toNat default).addr) (a4:=(l.getD x1_0.toNat default).word) (a5:=(l.getD x1_0.toNat default).put) (a6:=(l.getD x1_0.toNat default).own)) [9] ?_
         exact tTo (fun x=>z14_44 l x1_0 sh lk bu Xe x1_1) (fun x=>True) () trivial
       ·rintro ⟨⟩ _
        exact tTo (fun x=>C50 sh lk bu l Xe x1_0 x1_1) (fun x=>True) () trivial [0,1,2,3,4,5,6,7,13] [9,16,22] [(l.getD x1_0.toNat default).kind=(2:Int),(z14_16 sh lk l x1_0).kind=onK (1:Int) (1:Int),thD sh lk (l.getD x1_0.toNat default)=(l.getD x1_0.toNat default).addr] (by simp only [Conj];(repeat' apply And.intro)<;>first | trivial | rfl | (intros;rfl) | (intros;trivial) | (have hp:=evOf_parts (i:=x1_0) hs (rights_at hr (i:=x1_0) (by omega) (by simpa using h2));simp only [BL] at *;first | grind | omega) | (simp only [evOf,thD,noEv,onK,drW,swW,addrB,BL] at *;grind))
      ·refine tz [8,7,6,4,5,12,11,10,0,2] ?_
       refine tCond (decide ((l.getD x1_0.toNat default).addr<sh+lk)) (fun h5=>?_) (fun h5=>?_) (vc:=[Fits IntKind.i64 (sh+lk)]) (hv:=(by simp only [Conj,Fits,i64_min,i64_max,u8_min,u8_max,News.len,maxLen]<;>(repeat' (first | apply And.intro | intro _))<;>first | grind | (simp only [BL] at *;omega)))
       ·refine tz [8,7,6,4,5,12,11,10,0,2] ?_
        refine tAny 2 (fun _:Unit=>z14_43 l x1_0 sh lk bu Xe x1_1) (fun _=>True) ?_ ?_ (vc:=[Fits IntKind.i64 ((l.getD x1_0.toNat default).addr-sh)]) (hv:=(by simp only [Conj,Fits,i64_min,i64_max,u8_min,u8_max,News.len,maxLen]<;>(repeat' (first | apply And.intro | intro _))<;>first | grind | (simp only [BL] at *;omega)))
        ·refine ⟨⟨trivial,?_⟩,?_⟩
         ·refine tCall e_trace_on_1 (c_on1v (w:=(2:Int)) (k:=(1:Int)) (a0:=(2:Int)) (a1:=(l.getD x1_0.toNat default).core) (a2:=(l.getD x1_0.toNat default).pc) (a3:=(l.getD x1_0.toNat default).addr) (a4:=(l.getD x1_0.toNat default).word) (a5:=(l.getD x1_0.toNat default).put) (a6:=(l.getD x1_0.toNat default).own)) [9] ?_
          exact tTo (fun x=>z14_43 l x1_0 sh lk bu Xe x1_1) (fun x=>True) () trivial
         ·refine tCall e_trace_on_1 (c_on1v (w:=(2:Int)) (k:=(1:Int)) (a0:=(2:Int)) (a1:=(l.getD x1_0.toNat default).core) (a2:=(l.getD x1_0.toNat default).pc) (a3:=(l.getD x1_0.toNat default).addr) (a4:=(l.getD x1_0.toNat default).word) (a5:=(l.getD x1_0.toNat default).put) (a6:=(l.getD x1_0.toNat default).own)) [9] ?_
          exact tTo (fun x=>z14_43 l x1_0 sh lk bu Xe x1_1) (fun x=>True) () trivial
        ·rintro ⟨⟩ _
         exact tTo (fun x=>C50 sh lk bu l Xe x1_0 x1_1) (fun x=>True) () trivial [0,1,2,3,4,5,6,7,13] [9,16,22] [(l.getD x1_0.toNat default).kind=(2:Int),(z14_16 sh lk l x1_0).kind=onK (2:Int) (1:Int),thD sh lk (l.getD x1_0.toNat default)=(l.getD x1_0.toNat default).addr-sh] (by simp only [Conj];(repeat' apply And.intro)<;>first | trivial | rfl | (intros;rfl) | (intros;trivial) | (have hp:=evOf_parts (i:=x1_0) hs (rights_at hr (i:=x1_0) (by omega) (by simpa using h2));simp only [BL] at *;first | grind | omega) | (simp only [evOf,thD,noEv,onK,drW,swW,addrB,BL] at *;grind))
       ·refine tz [8,7,6,4,5,12,11,10,0,2] ?_
        refine tAny 2 (fun _:Unit=>z14_45 x1_0 l sh lk bu Xe x1_1) (fun _=>True) ?_ ?_
        ·refine ⟨⟨trivial,?_⟩,?_⟩
         ·refine tCall e_trace_on_1 (c_on1v (w:=(0:Int)) (k:=(1:Int)) (a0:=(2:Int)) (a1:=(l.getD x1_0.toNat default).core) (a2:=(l.getD x1_0.toNat default).pc) (a3:=(l.getD x1_0.toNat default).addr) (a4:=(l.getD x1_0.toNat default).word) (a5:=(l.getD x1_0.toNat default).put) (a6:=(l.getD x1_0.toNat default).own)) [9] ?_
          exact tTo (fun x=>z14_45 x1_0 l sh lk bu Xe x1_1) (fun x=>True) () trivial
         ·refine tCall e_trace_on_1 (c_on1v (w:=(0:Int)) (k:=(1:Int)) (a0:=(2:Int)) (a1:=(l.getD x1_0.toNat default).core) (a2:=(l.getD x1_0.toNat default).pc) (a3:=(l.getD x1_0.toNat default).addr) (a4:=(l.getD x1_0.toNat default).word) (a5:=(l.getD x1_0.toNat default).put) (a6:=(l.getD x1_0.toNat default).own)) [9] ?_
          exact tTo (fun x=>z14_45 x1_0 l sh lk bu Xe x1_1) (fun x=>True) () trivial
        ·rintro ⟨⟩ _
         exact tTo (fun x=>C50 sh lk bu l Xe x1_0 x1_1) (fun x=>True) () trivial [0,1,2,3,4,5,6,7,13] [9,16,22] [(l.getD x1_0.toNat default).kind=(2:Int),(z14_16 sh lk l x1_0).kind=onK (0:Int) (1:Int),thD sh lk (l.getD x1_0.toNat default)=(0:Int)] (by simp only [Conj];(repeat' apply And.intro)<;>first | trivial | rfl | (intros;rfl) | (intros;trivial) | (have hp:=evOf_parts (i:=x1_0) hs (rights_at hr (i:=x1_0) (by omega) (by simpa using h2));simp only [BL] at *;first | grind | omega) | (simp only [evOf,thD,noEv,onK,drW,swW,addrB,BL] at *;grind))
    ·refine tWk (St.mk 90 (z14_9 x1_0 l) [z14_13 l,Reg.ro [C.h 0],z14_14 sh lk bu,Reg.dead,Reg.dead,Reg.froz Xe,Reg.ext Xe x1_1 true,z14_17 l x1_0] []) ?_ [] [9] [(3:Int)=(l.getD x1_0.toNat default).kind] (by simp only [Conj];(repeat' apply And.intro)<;>first | trivial | rfl | (intros;rfl) | (exact Eq.symm (by assumption)) | grind)
     refine tz [4,5,12,11,10,0,2] ?_
     refine tAny 2 (fun _:Unit=>z14_51 x1_0 l sh lk bu Xe x1_1) (fun _=>True) ?_ ?_
     ·refine ⟨⟨trivial,?_⟩,?_⟩
      ·refine tCall e_trace_forms (c_formsT) [] ?_
       exact tTo (fun x=>z14_51 x1_0 l sh lk bu Xe x1_1) (fun x=>True) () trivial (vc:=[(0:Int)≤(3:Int),(3:Int)<(9:Int)]) (hv:=(by simp only [Conj,Fits,i64_min,i64_max,u8_min,u8_max,News.len,maxLen]<;>(repeat' (first | apply And.intro | intro _))<;>first | grind | (simp only [BL] at *;omega)))
      ·refine tCall e_trace_forms (c_formsT) [] ?_
       exact tTo (fun x=>z14_51 x1_0 l sh lk bu Xe x1_1) (fun x=>True) () trivial [0,1,2,3,4,5,6,7,9,1000009,10,11,8] (vc:=[(0:Int)≤(3:Int),(3:Int)<(9:Int)]) (hv:=(by simp only [Conj,Fits,i64_min,i64_max,u8_min,u8_max,News.len,maxLen]<;>(repeat' (first | apply And.intro | intro _))<;>first | grind | (simp only [BL] at *;omega)))
     ·rintro ⟨⟩ _
      refine tz [6,4,5,12,11,10,0,2] ?_
      refine tCond (decide ((l.getD x1_0.toNat default).addr<sh)) (fun h4=>?_) (fun h4=>?_)
      ·refine tz [8,7,6,4,5,12,11,10,0,2] ?_
       refine tAny 2 (fun _:Unit=>St.mk 90 (z14_8 l x1_0) (z14_3 l sh lk bu Xe x1_1 x1_0) []) (fun _=>True) ?_ ?_
       ·refine ⟨⟨trivial,?_⟩,?_⟩
        ·refine tCall e_trace_always_1 (c_always1v (w:=(1:Int)) (k:=(0:Int)) (a0:=(3:Int)) (a1:=(l.getD x1_0.toNat default).core) (a2:=(l.getD x1_0.toNat default).pc) (a3:=(l.getD x1_0.toNat default).addr) (a4:=(l.getD x1_0.toNat default).word) (a5:=(l.getD x1_0.toNat default).put) (a6:=(l.getD x1_0.toNat default).own)) [8] ?_
         exact tTo (fun x=>St.mk 90 (z14_8 l x1_0) (z14_3 l sh lk bu Xe x1_1 x1_0) []) (fun x=>True) () trivial
        ·refine tCall e_trace_always_1 (c_always1v (w:=(1:Int)) (k:=(0:Int)) (a0:=(3:Int)) (a1:=(l.getD x1_0.toNat default).core) (a2:=(l.getD x1_0.toNat default).pc) (a3:=(l.getD x1_0.toNat default).addr) (a4:=(l.getD x1_0.toNat default).word) (a5:=(l.getD x1_0.toNat default).put) (a6:=(l.getD x1_0.toNat default).own)) [8] ?_
         exact tTo (fun x=>St.mk 90 (z14_8 l x1_0) (z14_3 l sh lk bu Xe x1_1 x1_0) []) (fun x=>True) () trivial
       ·rintro ⟨⟩ _
        exact tTo (fun x=>C50 sh lk bu l Xe x1_0 x1_1) (fun x=>True) () trivial [0,1,2,3,4,5,6,7,13] [9,16,22] [(l.getD x1_0.toNat default).kind=(3:Int),(z14_16 sh lk l x1_0).kind=(0:Int),thD sh lk (l.getD x1_0.toNat default)=(l.getD x1_0.toNat default).addr] (by simp only [Conj];(repeat' apply And.intro)<;>first | trivial | rfl | (intros;rfl) | (intros;trivial) | (have hp:=evOf_parts (i:=x1_0) hs (rights_at hr (i:=x1_0) (by omega) (by simpa using h2));simp only [BL] at *;first | grind | omega) | (simp only [evOf,thD,noEv,onK,drW,swW,addrB,BL] at *;grind))
      ·refine tz [8,7,6,4,5,12,11,10,0,2] ?_
       refine tCond (decide ((l.getD x1_0.toNat default).addr<sh+lk)) (fun h5=>?_) (fun h5=>?_) (vc:=[Fits IntKind.i64 (sh+lk)]) (hv:=(by simp only [Conj,Fits,i64_min,i64_max,u8_min,u8_max,News.len,maxLen]<;>(repeat' (first | apply And.intro | intro _))<;>first | grind | (simp only [BL] at *;omega)))
       ·refine tz [8,7,6,4,5,12,11,10,0,2] ?_
        refine tAny 2 (fun _:Unit=>St.mk 90 (z14_7 l x1_0 sh) (z14_3 l sh lk bu Xe x1_1 x1_0) []) (fun _=>True) ?_ ?_ (vc:=[Fits IntKind.i64 ((l.getD x1_0.toNat default).addr-sh)]) (hv:=(by simp only [Conj,Fits,i64_min,i64_max,u8_min,u8_max,News.len,maxLen]<;>(repeat' (first | apply And.intro | intro _))<;>first | grind | (simp only [BL] at *;omega)))
        ·refine ⟨⟨trivial,?_⟩,?_⟩
         ·refine tCall e_trace_always_1 (c_always1v (w:=(2:Int)) (k:=(0:Int)) (a0:=(3:Int)) (a1:=(l.getD x1_0.toNat default).core) (a2:=(l.getD x1_0.toNat default).pc) (a3:=(l.getD x1_0.toNat default).addr) (a4:=(l.getD x1_0.toNat default).word) (a5:=(l.getD x1_0.toNat default).put) (a6:=(l.getD x1_0.toNat default).own)) [8] ?_
          exact tTo (fun x=>St.mk 90 (z14_7 l x1_0 sh) (z14_3 l sh lk bu Xe x1_1 x1_0) []) (fun x=>True) () trivial
         ·refine tCall e_trace_always_1 (c_always1v (w:=(2:Int)) (k:=(0:Int)) (a0:=(3:Int)) (a1:=(l.getD x1_0.toNat default).core) (a2:=(l.getD x1_0.toNat default).pc) (a3:=(l.getD x1_0.toNat default).addr) (a4:=(l.getD x1_0.toNat default).word) (a5:=(l.getD x1_0.toNat default).put) (a6:=(l.getD x1_0.toNat default).own)) [8] ?_
          exact tTo (fun x=>St.mk 90 (z14_7 l x1_0 sh) (z14_3 l sh lk bu Xe x1_1 x1_0) []) (fun x=>True) () trivial
        ·rintro ⟨⟩ _
         exact tTo (fun x=>C50 sh lk bu l Xe x1_0 x1_1) (fun x=>True) () trivial [0,1,2,3,4,5,6,7,13] [9,16,22] [(l.getD x1_0.toNat default).kind=(3:Int),(z14_16 sh lk l x1_0).kind=(0:Int),thD sh lk (l.getD x1_0.toNat default)=(l.getD x1_0.toNat default).addr-sh] (by simp only [Conj];(repeat' apply And.intro)<;>first | trivial | rfl | (intros;rfl) | (intros;trivial) | (have hp:=evOf_parts (i:=x1_0) hs (rights_at hr (i:=x1_0) (by omega) (by simpa using h2));simp only [BL] at *;first | grind | omega) | (simp only [evOf,thD,noEv,onK,drW,swW,addrB,BL] at *;grind))
       ·refine tz [8,7,6,4,5,12,11,10,0,2] ?_
        refine tAny 2 (fun _:Unit=>St.mk 90 (z14_2 x1_0 l) (z14_3 l sh lk bu Xe x1_1 x1_0) []) (fun _=>True) ?_ ?_
        ·refine ⟨⟨trivial,?_⟩,?_⟩
         ·refine tCall e_trace_always_1 (c_always1v (w:=(0:Int)) (k:=(0:Int)) (a0:=(3:Int)) (a1:=(l.getD x1_0.toNat default).core) (a2:=(l.getD x1_0.toNat default).pc) (a3:=(l.getD x1_0.toNat default).addr) (a4:=(l.getD x1_0.toNat default).word) (a5:=(l.getD x1_0.toNat default).put) (a6:=(l.getD x1_0.toNat default).own)) [8] ?_
          exact tTo (fun x=>St.mk 90 (z14_2 x1_0 l) (z14_3 l sh lk bu Xe x1_1 x1_0) []) (fun x=>True) () trivial
         ·refine tCall e_trace_always_1 (c_always1v (w:=(0:Int)) (k:=(0:Int)) (a0:=(3:Int)) (a1:=(l.getD x1_0.toNat default).core) (a2:=(l.getD x1_0.toNat default).pc) (a3:=(l.getD x1_0.toNat default).addr) (a4:=(l.getD x1_0.toNat default).word) (a5:=(l.getD x1_0.toNat default).put) (a6:=(l.getD x1_0.toNat default).own)) [8] ?_
          exact tTo (fun x=>St.mk 90 (z14_2 x1_0 l) (z14_3 l sh lk bu Xe x1_1 x1_0) []) (fun x=>True) () trivial
        ·rintro ⟨⟩ _
         exact tTo (fun x=>C50 sh lk bu l Xe x1_0 x1_1) (fun x=>True) () trivial [0,1,2,3,4,5,6,7,13] [9,16,22] [(l.getD x1_0.toNat default).kind=(3:Int),(z14_16 sh lk l x1_0).kind=(0:Int),thD sh lk (l.getD x1_0.toNat default)=(0:Int)] (by simp only [Conj];(repeat' apply And.intro)<;>first | trivial | rfl | (intros;rfl) | (intros;trivial) | (have hp:=evOf_parts (i:=x1_0) hs (rights_at hr (i:=x1_0) (by omega) (by simpa using h2));simp only [BL] at *;first | grind | omega) | (simp only [evOf,thD,noEv,onK,drW,swW,addrB,BL] at *;grind))
    ·refine tWk (St.mk 90 (z14_9 x1_0 l) [z14_13 l,Reg.ro [C.h 0],z14_14 sh lk bu,Reg.dead,Reg.dead,Reg.froz Xe,Reg.ext Xe x1_1 true,z14_5 l x1_0] []) ?_ [] [9] [(4:Int)=(l.getD x1_0.toNat default).kind] (by simp only [Conj];(repeat' apply And.intro)<;>first | trivial | rfl | (intros;rfl) | (exact Eq.symm (by assumption)) | grind)
     refine tz [4,5,12,11,10,0,2] ?_
     refine tAny 2 (fun _:Unit=>z14_27 x1_0 l sh lk bu Xe x1_1) (fun _=>True) ?_ ?_
     ·refine ⟨⟨trivial,?_⟩,?_⟩
      ·refine tCall e_trace_forms (c_formsT) [] ?_
       exact tTo (fun x=>z14_27 x1_0 l sh lk bu Xe x1_1) (fun x=>True) () trivial (vc:=[(0:Int)≤(4:Int),(4:Int)<(9:Int)]) (hv:=(by simp only [Conj,Fits,i64_min,i64_max,u8_min,u8_max,News.len,maxLen]<;>(repeat' (first | apply And.intro | intro _))<;>first | grind | (simp only [BL] at *;omega)))
      ·refine tCall e_trace_forms (c_formsT) [] ?_
       exact tTo (fun x=>z14_27 x1_0 l sh lk bu Xe x1_1) (fun x=>True) () trivial [0,1,2,3,4,5,6,7,1000008,9,10,11,8] (vc:=[(0:Int)≤(4:Int),(4:Int)<(9:Int)]) (hv:=(by simp only [Conj,Fits,i64_min,i64_max,u8_min,u8_max,News.len,maxLen]<;>(repeat' (first | apply And.intro | intro _))<;>first | grind | (simp only [BL] at *;omega)))
     ·rintro ⟨⟩ _
      refine tz [6,4,5,12,11,10,0,2] ?_
      refine tCond (decide ((l.getD x1_0.toNat default).addr<sh)) (fun h4=>?_) (fun h4=>?_)
      ·refine tz [8,7,6,4,5,12,11,10,0,2] ?_
       refine tAny 2 (fun _:Unit=>z14_38 l x1_0 sh lk bu Xe x1_1) (fun _=>True) ?_ ?_
       ·refine ⟨⟨trivial,?_⟩,?_⟩
        ·refine tCall e_trace_swapped (c_swappedv (w:=(1:Int)) (a0:=(4:Int)) (a1:=(l.getD x1_0.toNat default).core) (a2:=(l.getD x1_0.toNat default).pc) (a3:=(l.getD x1_0.toNat default).addr) (a4:=(l.getD x1_0.toNat default).word) (a5:=(l.getD x1_0.toNat default).put) (a6:=(l.getD x1_0.toNat default).own)) [] ?_
         exact tTo (fun x=>z14_38 l x1_0 sh lk bu Xe x1_1) (fun x=>True) () trivial
        ·refine tCall e_trace_swapped (c_swappedv (w:=(1:Int)) (a0:=(4:Int)) (a1:=(l.getD x1_0.toNat default).core) (a2:=(l.getD x1_0.toNat default).pc) (a3:=(l.getD x1_0.toNat default).addr) (a4:=(l.getD x1_0.toNat default).word) (a5:=(l.getD x1_0.toNat default).put) (a6:=(l.getD x1_0.toNat default).own)) [] ?_
         exact tTo (fun x=>z14_38 l x1_0 sh lk bu Xe x1_1) (fun x=>True) () trivial
       ·rintro ⟨⟩ _
        exact tTo (fun x=>C50 sh lk bu l Xe x1_0 x1_1) (fun x=>True) () trivial [0,1,2,3,4,5,6,7,13] [9,16,22] [(l.getD x1_0.toNat default).kind=(4:Int),(z14_16 sh lk l x1_0).kind=swW (1:Int) (l.getD x1_0.toNat default).word (l.getD x1_0.toNat default).put,thD sh lk (l.getD x1_0.toNat default)=(l.getD x1_0.toNat default).addr] (by simp only [Conj];(repeat' apply And.intro)<;>first | trivial | rfl | (intros;rfl) | (intros;trivial) | (have hp:=evOf_parts (i:=x1_0) hs (rights_at hr (i:=x1_0) (by omega) (by simpa using h2));simp only [BL] at *;first | grind | omega) | (simp only [evOf,thD,noEv,onK,drW,swW,addrB,BL] at *;grind))
      ·refine tz [8,7,6,4,5,12,11,10,0,2] ?_
       refine tCond (decide ((l.getD x1_0.toNat default).addr<sh+lk)) (fun h5=>?_) (fun h5=>?_) (vc:=[Fits IntKind.i64 (sh+lk)]) (hv:=(by simp only [Conj,Fits,i64_min,i64_max,u8_min,u8_max,News.len,maxLen]<;>(repeat' (first | apply And.intro | intro _))<;>first | grind | (simp only [BL] at *;omega)))
       ·refine tz [8,7,6,4,5,12,11,10,0,2] ?_
        refine tAny 2 (fun _:Unit=>z14_37 l x1_0 sh lk bu Xe x1_1) (fun _=>True) ?_ ?_ (vc:=[Fits IntKind.i64 ((l.getD x1_0.toNat default).addr-sh)]) (hv:=(by simp only [Conj,Fits,i64_min,i64_max,u8_min,u8_max,News.len,maxLen]<;>(repeat' (first | apply And.intro | intro _))<;>first | grind | (simp only [BL] at *;omega)))
        ·refine ⟨⟨trivial,?_⟩,?_⟩
         ·refine tCall e_trace_swapped (c_swappedv (w:=(2:Int)) (a0:=(4:Int)) (a1:=(l.getD x1_0.toNat default).core) (a2:=(l.getD x1_0.toNat default).pc) (a3:=(l.getD x1_0.toNat default).addr) (a4:=(l.getD x1_0.toNat default).word) (a5:=(l.getD x1_0.toNat default).put) (a6:=(l.getD x1_0.toNat default).own)) [] ?_
          exact tTo (fun x=>z14_37 l x1_0 sh lk bu Xe x1_1) (fun x=>True) () trivial
         ·refine tCall e_trace_swapped (c_swappedv (w:=(2:Int)) (a0:=(4:Int)) (a1:=(l.getD x1_0.toNat default).core) (a2:=(l.getD x1_0.toNat default).pc) (a3:=(l.getD x1_0.toNat default).addr) (a4:=(l.getD x1_0.toNat default).word) (a5:=(l.getD x1_0.toNat default).put) (a6:=(l.getD x1_0.toNat default).own)) [] ?_
          exact tTo (fun x=>z14_37 l x1_0 sh lk bu Xe x1_1) (fun x=>True) () trivial
        ·rintro ⟨⟩ _
         exact tTo (fun x=>C50 sh lk bu l Xe x1_0 x1_1) (fun x=>True) () trivial [0,1,2,3,4,5,6,7,13] [9,16,22] [(l.getD x1_0.toNat default).kind=(4:Int),(z14_16 sh lk l x1_0).kind=swW (2:Int) (l.getD x1_0.toNat default).word (l.getD x1_0.toNat default).put,thD sh lk (l.getD x1_0.toNat default)=(l.getD x1_0.toNat default).addr-sh] (by simp only [Conj];(repeat' apply And.intro)<;>first | trivial | rfl | (intros;rfl) | (intros;trivial) | (have hp:=evOf_parts (i:=x1_0) hs (rights_at hr (i:=x1_0) (by omega) (by simpa using h2));simp only [BL] at *;first | grind | omega) | (simp only [evOf,thD,noEv,onK,drW,swW,addrB,BL] at *;grind))
       ·refine tz [8,7,6,4,5,12,11,10,0,2] ?_
        refine tAny 2 (fun _:Unit=>z14_39 x1_0 l sh lk bu Xe x1_1) (fun _=>True) ?_ ?_
        ·refine ⟨⟨trivial,?_⟩,?_⟩
         ·refine tCall e_trace_swapped (c_swappedv (w:=(0:Int)) (a0:=(4:Int)) (a1:=(l.getD x1_0.toNat default).core) (a2:=(l.getD x1_0.toNat default).pc) (a3:=(l.getD x1_0.toNat default).addr) (a4:=(l.getD x1_0.toNat default).word) (a5:=(l.getD x1_0.toNat default).put) (a6:=(l.getD x1_0.toNat default).own)) [] ?_
          exact tTo (fun x=>z14_39 x1_0 l sh lk bu Xe x1_1) (fun x=>True) () trivial
         ·refine tCall e_trace_swapped (c_swappedv (w:=(0:Int)) (a0:=(4:Int)) (a1:=(l.getD x1_0.toNat default).core) (a2:=(l.getD x1_0.toNat default).pc) (a3:=(l.getD x1_0.toNat default).addr) (a4:=(l.getD x1_0.toNat default).word) (a5:=(l.getD x1_0.toNat default).put) (a6:=(l.getD x1_0.toNat default).own)) [] ?_
          exact tTo (fun x=>z14_39 x1_0 l sh lk bu Xe x1_1) (fun x=>True) () trivial
        ·rintro ⟨⟩ _
         exact tTo (fun x=>C50 sh lk bu l Xe x1_0 x1_1) (fun x=>True) () trivial [0,1,2,3,4,5,6,7,13] [9,16,22] [(l.getD x1_0.toNat default).kind=(4:Int),(z14_16 sh lk l x1_0).kind=swW (0:Int) (l.getD x1_0.toNat default).word (l.getD x1_0.toNat default).put,thD sh lk (l.getD x1_0.toNat default)=(0:Int)] (by simp only [Conj];(repeat' apply And.intro)<;>first | trivial | rfl | (intros;rfl) | (intros;trivial) | (have hp:=evOf_parts (i:=x1_0) hs (rights_at hr (i:=x1_0) (by omega) (by simpa using h2));simp only [BL] at *;first | grind | omega) | (simp only [evOf,thD,noEv,onK,drW,swW,addrB,BL] at *;grind))
    ·refine tWk (St.mk 90 (z14_9 x1_0 l) [z14_13 l,Reg.ro [C.h 0],z14_14 sh lk bu,Reg.dead,Reg.dead,Reg.froz Xe,Reg.ext Xe x1_1 true,z14_11 l x1_0] []) ?_ [] [9] [(5:Int)=(l.getD x1_0.toNat default).kind] (by simp only [Conj];(repeat' apply And.intro)<;>first | trivial | rfl | (intros;rfl) | (exact Eq.symm (by assumption)) | grind)
     refine tz [4,5,12,11,10,0,2] ?_
     refine tAny 2 (fun _:Unit=>z14_52 x1_0 l sh lk bu Xe x1_1) (fun _=>True) ?_ ?_
     ·refine ⟨⟨trivial,?_⟩,?_⟩
      ·refine tCall e_trace_forms (c_formsT) [] ?_
       exact tTo (fun x=>z14_52 x1_0 l sh lk bu Xe x1_1) (fun x=>True) () trivial (vc:=[(0:Int)≤(5:Int),(5:Int)<(9:Int)]) (hv:=(by simp only [Conj,Fits,i64_min,i64_max,u8_min,u8_max,News.len,maxLen]<;>(repeat' (first | apply And.intro | intro _))<;>first | grind | (simp only [BL] at *;omega)))
      ·refine tCall e_trace_forms (c_formsT) [] ?_
       exact tTo (fun x=>z14_52 x1_0 l sh lk bu Xe x1_1) (fun x=>True) () trivial [0,1,2,3,4,5,6,7,9,1000009,10,11,8] (vc:=[(0:Int)≤(5:Int),(5:Int)<(9:Int)]) (hv:=(by simp only [Conj,Fits,i64_min,i64_max,u8_min,u8_max,News.len,maxLen]<;>(repeat' (first | apply And.intro | intro _))<;>first | grind | (simp only [BL] at *;omega)))
     ·rintro ⟨⟩ _
      refine tz [6,4,5,12,11,10,0,2] ?_
      refine tAny 2 (fun _:Unit=>z14_33 x1_0 l sh lk bu Xe x1_1) (fun _=>True) ?_ ?_
      ·refine ⟨⟨trivial,?_⟩,?_⟩
       ·refine tCall e_trace_always_1 (c_always1v (w:=(0:Int)) (k:=(0:Int)) (a0:=(5:Int)) (a1:=(l.getD x1_0.toNat default).core) (a2:=(l.getD x1_0.toNat default).pc) (a3:=(l.getD x1_0.toNat default).addr) (a4:=(l.getD x1_0.toNat default).word) (a5:=(l.getD x1_0.toNat default).put) (a6:=(l.getD x1_0.toNat default).own)) [8] ?_
        exact tTo (fun x=>z14_33 x1_0 l sh lk bu Xe x1_1) (fun x=>True) () trivial
       ·refine tCall e_trace_always_1 (c_always1v (w:=(0:Int)) (k:=(0:Int)) (a0:=(5:Int)) (a1:=(l.getD x1_0.toNat default).core) (a2:=(l.getD x1_0.toNat default).pc) (a3:=(l.getD x1_0.toNat default).addr) (a4:=(l.getD x1_0.toNat default).word) (a5:=(l.getD x1_0.toNat default).put) (a6:=(l.getD x1_0.toNat default).own)) [8] ?_
        exact tTo (fun x=>z14_33 x1_0 l sh lk bu Xe x1_1) (fun x=>True) () trivial
      ·rintro ⟨⟩ _
       exact tTo (fun x=>C50 sh lk bu l Xe x1_0 x1_1) (fun x=>True) () trivial [0,1,2,3,4,5,6,7,13] [9,16,22] [(l.getD x1_0.toNat default).kind=(5:Int),(z14_16 sh lk l x1_0).kind=(0:Int),thD sh lk (l.getD x1_0.toNat default)=(0:Int)] (by simp only [Conj];(repeat' apply And.intro)<;>first | trivial | rfl | (intros;rfl) | (intros;trivial) | (have hp:=evOf_parts (i:=x1_0) hs (rights_at hr (i:=x1_0) (by omega) (by simpa using h2));simp only [BL] at *;first | grind | omega) | (simp only [evOf,thD,noEv,onK,drW,swW,addrB,BL] at *;grind))
    ·refine tWk (St.mk 90 (z14_9 x1_0 l) [z14_13 l,Reg.ro [C.h 0],z14_14 sh lk bu,Reg.dead,Reg.dead,Reg.froz Xe,Reg.ext Xe x1_1 true,z14_12 l x1_0] []) ?_ [] [9] [(6:Int)=(l.getD x1_0.toNat default).kind] (by simp only [Conj];(repeat' apply And.intro)<;>first | trivial | rfl | (intros;rfl) | (exact Eq.symm (by assumption)) | grind)
     refine tz [4,5,12,11,10,0,2] ?_
     refine tAny 2 (fun _:Unit=>z14_30 x1_0 l sh lk bu Xe x1_1) (fun _=>True) ?_ ?_
     ·refine ⟨⟨trivial,?_⟩,?_⟩
      ·refine tCall e_trace_forms (c_formsT) [] ?_
       exact tTo (fun x=>z14_30 x1_0 l sh lk bu Xe x1_1) (fun x=>True) () trivial (vc:=[(0:Int)≤(6:Int),(6:Int)<(9:Int)]) (hv:=(by simp only [Conj,Fits,i64_min,i64_max,u8_min,u8_max,News.len,maxLen]<;>(repeat' (first | apply And.intro | intro _))<;>first | grind | (simp only [BL] at *;omega)))
      ·refine tCall e_trace_forms (c_formsT) [] ?_
       exact tTo (fun x=>z14_30 x1_0 l sh lk bu Xe x1_1) (fun x=>True) () trivial [0,1,2,3,4,5,6,7,1000008,9,11,1000011,8] (vc:=[(0:Int)≤(6:Int),(6:Int)<(9:Int)]) (hv:=(by simp only [Conj,Fits,i64_min,i64_max,u8_min,u8_max,News.len,maxLen]<;>(repeat' (first | apply And.intro | intro _))<;>first | grind | (simp only [BL] at *;omega)))
     ·rintro ⟨⟩ _
      refine tz [6,4,5,12,11,10,0,2] ?_
      refine tAny 2 (fun _:Unit=>z14_46 x1_0 l sh lk bu Xe x1_1) (fun _=>True) ?_ ?_
      ·refine ⟨⟨trivial,?_⟩,?_⟩
       ·refine tCall e_trace_always_1 (c_always1v (w:=(0:Int)) (k:=(6:Int)) (a0:=(6:Int)) (a1:=(l.getD x1_0.toNat default).core) (a2:=(l.getD x1_0.toNat default).pc) (a3:=(l.getD x1_0.toNat default).addr) (a4:=(l.getD x1_0.toNat default).word) (a5:=(l.getD x1_0.toNat default).put) (a6:=(l.getD x1_0.toNat default).own)) [10] ?_
        exact tTo (fun x=>z14_46 x1_0 l sh lk bu Xe x1_1) (fun x=>True) () trivial
       ·refine tCall e_trace_always_1 (c_always1v (w:=(0:Int)) (k:=(6:Int)) (a0:=(6:Int)) (a1:=(l.getD x1_0.toNat default).core) (a2:=(l.getD x1_0.toNat default).pc) (a3:=(l.getD x1_0.toNat default).addr) (a4:=(l.getD x1_0.toNat default).word) (a5:=(l.getD x1_0.toNat default).put) (a6:=(l.getD x1_0.toNat default).own)) [10] ?_
        exact tTo (fun x=>z14_46 x1_0 l sh lk bu Xe x1_1) (fun x=>True) () trivial
      ·rintro ⟨⟩ _
       exact tTo (fun x=>C50 sh lk bu l Xe x1_0 x1_1) (fun x=>True) () trivial [0,1,2,3,4,5,6,7,13] [9,16,22] [(l.getD x1_0.toNat default).kind=(6:Int),(z14_16 sh lk l x1_0).kind=(6:Int),thD sh lk (l.getD x1_0.toNat default)=(0:Int)] (by simp only [Conj];(repeat' apply And.intro)<;>first | trivial | rfl | (intros;rfl) | (intros;trivial) | (have hp:=evOf_parts (i:=x1_0) hs (rights_at hr (i:=x1_0) (by omega) (by simpa using h2));simp only [BL] at *;first | grind | omega) | (simp only [evOf,thD,noEv,onK,drW,swW,addrB,BL] at *;grind))
    ·refine tWk (St.mk 90 (z14_9 x1_0 l) [z14_13 l,Reg.ro [C.h 0],z14_14 sh lk bu,Reg.dead,Reg.dead,Reg.froz Xe,Reg.ext Xe x1_1 true,z14_15 l x1_0] []) ?_ [] [9] [(7:Int)=(l.getD x1_0.toNat default).kind] (by simp only [Conj];(repeat' apply And.intro)<;>first | trivial | rfl | (intros;rfl) | (exact Eq.symm (by assumption)) | grind)
     refine tz [4,5,12,11,10,0,2] ?_
     refine tAny 2 (fun _:Unit=>z14_31 x1_0 l sh lk bu Xe x1_1) (fun _=>True) ?_ ?_
     ·refine ⟨⟨trivial,?_⟩,?_⟩
      ·refine tCall e_trace_forms (c_formsT) [] ?_
       exact tTo (fun x=>z14_31 x1_0 l sh lk bu Xe x1_1) (fun x=>True) () trivial (vc:=[(0:Int)≤(7:Int),(7:Int)<(9:Int)]) (hv:=(by simp only [Conj,Fits,i64_min,i64_max,u8_min,u8_max,News.len,maxLen]<;>(repeat' (first | apply And.intro | intro _))<;>first | grind | (simp only [BL] at *;omega)))
      ·refine tCall e_trace_forms (c_formsT) [] ?_
       exact tTo (fun x=>z14_31 x1_0 l sh lk bu Xe x1_1) (fun x=>True) () trivial [0,1,2,3,4,5,6,7,1000008,9,10,12,8] (vc:=[(0:Int)≤(7:Int),(7:Int)<(9:Int)]) (hv:=(by simp only [Conj,Fits,i64_min,i64_max,u8_min,u8_max,News.len,maxLen]<;>(repeat' (first | apply And.intro | intro _))<;>first | grind | (simp only [BL] at *;omega)))
     ·rintro ⟨⟩ _
      refine tz [6,4,5,12,11,10,0,2] ?_
      refine tAny 2 (fun _:Unit=>z14_47 x1_0 l sh lk bu Xe x1_1) (fun _=>True) ?_ ?_
      ·refine ⟨⟨trivial,?_⟩,?_⟩
       ·refine tCall e_trace_always_1 (c_always1v (w:=(0:Int)) (k:=(7:Int)) (a0:=(7:Int)) (a1:=(l.getD x1_0.toNat default).core) (a2:=(l.getD x1_0.toNat default).pc) (a3:=(l.getD x1_0.toNat default).addr) (a4:=(l.getD x1_0.toNat default).word) (a5:=(l.getD x1_0.toNat default).put) (a6:=(l.getD x1_0.toNat default).own)) [11] ?_
        exact tTo (fun x=>z14_47 x1_0 l sh lk bu Xe x1_1) (fun x=>True) () trivial
       ·refine tCall e_trace_always_1 (c_always1v (w:=(0:Int)) (k:=(7:Int)) (a0:=(7:Int)) (a1:=(l.getD x1_0.toNat default).core) (a2:=(l.getD x1_0.toNat default).pc) (a3:=(l.getD x1_0.toNat default).addr) (a4:=(l.getD x1_0.toNat default).word) (a5:=(l.getD x1_0.toNat default).put) (a6:=(l.getD x1_0.toNat default).own)) [11] ?_
        exact tTo (fun x=>z14_47 x1_0 l sh lk bu Xe x1_1) (fun x=>True) () trivial
      ·rintro ⟨⟩ _
       exact tTo (fun x=>C50 sh lk bu l Xe x1_0 x1_1) (fun x=>True) () trivial [0,1,2,3,4,5,6,7,13] [9,16,22] [(l.getD x1_0.toNat default).kind=(7:Int),(z14_16 sh lk l x1_0).kind=(7:Int),thD sh lk (l.getD x1_0.toNat default)=(0:Int)] (by simp only [Conj];(repeat' apply And.intro)<;>first | trivial | rfl | (intros;rfl) | (intros;trivial) | (have hp:=evOf_parts (i:=x1_0) hs (rights_at hr (i:=x1_0) (by omega) (by simpa using h2));simp only [BL] at *;first | grind | omega) | (simp only [evOf,thD,noEv,onK,drW,swW,addrB,BL] at *;grind))
    ·refine tWk (St.mk 90 (z14_9 x1_0 l) [z14_13 l,Reg.ro [C.h 0],z14_14 sh lk bu,Reg.dead,Reg.dead,Reg.froz Xe,Reg.ext Xe x1_1 true,z14_6 l x1_0] []) ?_ [] [9] [(8:Int)=(l.getD x1_0.toNat default).kind] (by simp only [Conj];(repeat' apply And.intro)<;>first | trivial | rfl | (intros;rfl) | (exact Eq.symm (by assumption)) | grind)
     refine tz [4,5,12,11,10,0,2] ?_
     refine tAny 2 (fun _:Unit=>z14_49 x1_0 l sh lk bu Xe x1_1) (fun _=>True) ?_ ?_
     ·refine ⟨⟨trivial,?_⟩,?_⟩
      ·refine tCall e_trace_forms (c_formsT) [] ?_
       exact tTo (fun x=>z14_49 x1_0 l sh lk bu Xe x1_1) (fun x=>True) () trivial (vc:=[(0:Int)≤(8:Int),(8:Int)<(9:Int)]) (hv:=(by simp only [Conj,Fits,i64_min,i64_max,u8_min,u8_max,News.len,maxLen]<;>(repeat' (first | apply And.intro | intro _))<;>first | grind | (simp only [BL] at *;omega)))
      ·refine tCall e_trace_forms (c_formsT) [] ?_
       exact tTo (fun x=>z14_49 x1_0 l sh lk bu Xe x1_1) (fun x=>True) () trivial [0,1,2,3,4,5,6,7,1000008,9,10,11,8] (vc:=[(0:Int)≤(8:Int),(8:Int)<(9:Int)]) (hv:=(by simp only [Conj,Fits,i64_min,i64_max,u8_min,u8_max,News.len,maxLen]<;>(repeat' (first | apply And.intro | intro _))<;>first | grind | (simp only [BL] at *;omega)))
     ·rintro ⟨⟩ _
      refine tz [6,4,5,12,11,10,0,2] ?_
      refine tCond (decide ((l.getD x1_0.toNat default).addr<sh)) (fun h4=>?_) (fun h4=>?_)
      ·refine tz [8,7,6,4,5,12,11,10,0,2] ?_
       refine tAny 2 (fun _:Unit=>z14_41 l x1_0 sh lk bu Xe x1_1) (fun _=>True) ?_ ?_
       ·refine ⟨⟨trivial,?_⟩,?_⟩
        ·refine tCall e_trace_drained (c_drainedv (w:=(1:Int)) (a0:=(8:Int)) (a1:=(l.getD x1_0.toNat default).core) (a2:=(l.getD x1_0.toNat default).pc) (a3:=(l.getD x1_0.toNat default).addr) (a4:=(l.getD x1_0.toNat default).word) (a5:=(l.getD x1_0.toNat default).put) (a6:=(l.getD x1_0.toNat default).own)) [] ?_
         exact tTo (fun x=>z14_41 l x1_0 sh lk bu Xe x1_1) (fun x=>True) () trivial
        ·refine tCall e_trace_drained (c_drainedv (w:=(1:Int)) (a0:=(8:Int)) (a1:=(l.getD x1_0.toNat default).core) (a2:=(l.getD x1_0.toNat default).pc) (a3:=(l.getD x1_0.toNat default).addr) (a4:=(l.getD x1_0.toNat default).word) (a5:=(l.getD x1_0.toNat default).put) (a6:=(l.getD x1_0.toNat default).own)) [] ?_
         exact tTo (fun x=>z14_41 l x1_0 sh lk bu Xe x1_1) (fun x=>True) () trivial
       ·rintro ⟨⟩ _
        exact tTo (fun x=>C50 sh lk bu l Xe x1_0 x1_1) (fun x=>True) () trivial [0,1,2,3,4,5,6,7,13] [9,16,22] [(l.getD x1_0.toNat default).kind=(8:Int),(z14_16 sh lk l x1_0).kind=drW (1:Int) (l.getD x1_0.toNat default).word,thD sh lk (l.getD x1_0.toNat default)=(l.getD x1_0.toNat default).addr] (by simp only [Conj];(repeat' apply And.intro)<;>first | trivial | rfl | (intros;rfl) | (intros;trivial) | (have hp:=evOf_parts (i:=x1_0) hs (rights_at hr (i:=x1_0) (by omega) (by simpa using h2));simp only [BL] at *;first | grind | omega) | (simp only [evOf,thD,noEv,onK,drW,swW,addrB,BL] at *;grind))
      ·refine tz [8,7,6,4,5,12,11,10,0,2] ?_
       refine tCond (decide ((l.getD x1_0.toNat default).addr<sh+lk)) (fun h5=>?_) (fun h5=>?_) (vc:=[Fits IntKind.i64 (sh+lk)]) (hv:=(by simp only [Conj,Fits,i64_min,i64_max,u8_min,u8_max,News.len,maxLen]<;>(repeat' (first | apply And.intro | intro _))<;>first | grind | (simp only [BL] at *;omega)))
       ·refine tz [8,7,6,4,5,12,11,10,0,2] ?_
        refine tAny 2 (fun _:Unit=>z14_40 l x1_0 sh lk bu Xe x1_1) (fun _=>True) ?_ ?_ (vc:=[Fits IntKind.i64 ((l.getD x1_0.toNat default).addr-sh)]) (hv:=(by simp only [Conj,Fits,i64_min,i64_max,u8_min,u8_max,News.len,maxLen]<;>(repeat' (first | apply And.intro | intro _))<;>first | grind | (simp only [BL] at *;omega)))
        ·refine ⟨⟨trivial,?_⟩,?_⟩
         ·refine tCall e_trace_drained (c_drainedv (w:=(2:Int)) (a0:=(8:Int)) (a1:=(l.getD x1_0.toNat default).core) (a2:=(l.getD x1_0.toNat default).pc) (a3:=(l.getD x1_0.toNat default).addr) (a4:=(l.getD x1_0.toNat default).word) (a5:=(l.getD x1_0.toNat default).put) (a6:=(l.getD x1_0.toNat default).own)) [] ?_
          exact tTo (fun x=>z14_40 l x1_0 sh lk bu Xe x1_1) (fun x=>True) () trivial
         ·refine tCall e_trace_drained (c_drainedv (w:=(2:Int)) (a0:=(8:Int)) (a1:=(l.getD x1_0.toNat default).core) (a2:=(l.getD x1_0.toNat default).pc) (a3:=(l.getD x1_0.toNat default).addr) (a4:=(l.getD x1_0.toNat default).word) (a5:=(l.getD x1_0.toNat default).put) (a6:=(l.getD x1_0.toNat default).own)) [] ?_
          exact tTo (fun x=>z14_40 l x1_0 sh lk bu Xe x1_1) (fun x=>True) () trivial
        ·rintro ⟨⟩ _
         exact tTo (fun x=>C50 sh lk bu l Xe x1_0 x1_1) (fun x=>True) () trivial [0,1,2,3,4,5,6,7,13] [9,16,22] [(l.getD x1_0.toNat default).kind=(8:Int),(z14_16 sh lk l x1_0).kind=drW (2:Int) (l.getD x1_0.toNat default).word,thD sh lk (l.getD x1_0.toNat default)=(l.getD x1_0.toNat default).addr-sh] (by simp only [Conj];(repeat' apply And.intro)<;>first | trivial | rfl | (intros;rfl) | (intros;trivial) | (have hp:=evOf_parts (i:=x1_0) hs (rights_at hr (i:=x1_0) (by omega) (by simpa using h2));simp only [BL] at *;first | grind | omega) | (simp only [evOf,thD,noEv,onK,drW,swW,addrB,BL] at *;grind))
       ·refine tz [8,7,6,4,5,12,11,10,0,2] ?_
        refine tAny 2 (fun _:Unit=>z14_42 x1_0 l sh lk bu Xe x1_1) (fun _=>True) ?_ ?_
        ·refine ⟨⟨trivial,?_⟩,?_⟩
         ·refine tCall e_trace_drained (c_drainedv (w:=(0:Int)) (a0:=(8:Int)) (a1:=(l.getD x1_0.toNat default).core) (a2:=(l.getD x1_0.toNat default).pc) (a3:=(l.getD x1_0.toNat default).addr) (a4:=(l.getD x1_0.toNat default).word) (a5:=(l.getD x1_0.toNat default).put) (a6:=(l.getD x1_0.toNat default).own)) [] ?_
          exact tTo (fun x=>z14_42 x1_0 l sh lk bu Xe x1_1) (fun x=>True) () trivial
         ·refine tCall e_trace_drained (c_drainedv (w:=(0:Int)) (a0:=(8:Int)) (a1:=(l.getD x1_0.toNat default).core) (a2:=(l.getD x1_0.toNat default).pc) (a3:=(l.getD x1_0.toNat default).addr) (a4:=(l.getD x1_0.toNat default).word) (a5:=(l.getD x1_0.toNat default).put) (a6:=(l.getD x1_0.toNat default).own)) [] ?_
          exact tTo (fun x=>z14_42 x1_0 l sh lk bu Xe x1_1) (fun x=>True) () trivial
        ·rintro ⟨⟩ _
         exact tTo (fun x=>C50 sh lk bu l Xe x1_0 x1_1) (fun x=>True) () trivial [0,1,2,3,4,5,6,7,13] [9,16,22] [(l.getD x1_0.toNat default).kind=(8:Int),(z14_16 sh lk l x1_0).kind=drW (0:Int) (l.getD x1_0.toNat default).word,thD sh lk (l.getD x1_0.toNat default)=(0:Int)] (by simp only [Conj];(repeat' apply And.intro)<;>first | trivial | rfl | (intros;rfl) | (intros;trivial) | (have hp:=evOf_parts (i:=x1_0) hs (rights_at hr (i:=x1_0) (by omega) (by simpa using h2));simp only [BL] at *;first | grind | omega) | (simp only [evOf,thD,noEv,onK,drW,swW,addrB,BL] at *;grind))
   ·rintro ⟨⟩ hCC50
    refine RunF.cutm 2 (fun _:Unit=>C50y sh lk bu l Xe x1_0 x1_1) (fun _=>C50y_J sh lk l x1_0) ?_ ?_
    ·refine tz [9,8,5,12,11,10,0,2] ?_
     refine tCond (decide ((z14_16 sh lk l x1_0).kind=(0:Int))) (fun h3=>?_) (fun h3=>?_)
     ·exact tNext (L88_0 sh lk bu l Xe) (x1_0,x1_1) ((x1_0+(1:Int),x1_1)) (by dsimp only [L88_0,L88_0_m];(try simp only [decide_eq_true_eq] at *);omega) (by dsimp only [L88_0,L88_0_J];refine ⟨by omega,by simp only [BL] at *;omega,?_⟩;first | (rw [evUp_skip sh lk l (i:=x1_0) hJ1.1 rfl (of_decide_eq_true h3)];exact hJ1.2.2) | (rw [evUp_take sh lk l (i:=x1_0) hJ1.1 rfl hCC50y,List.length_append,← hJ1.2.2];rfl)) (vc:=[Fits IntKind.i64 (x1_0+(1:Int))]) (hv:=(by simp only [Conj,Fits,i64_min,i64_max,u8_min,u8_max,News.len,maxLen]<;>(repeat' (first | apply And.intro | intro _))<;>first | grind | (simp only [BL] at *;omega)))
     ·refine RunF.cutm 2 (fun _:Unit=>C50b sh lk bu l Xe x1_0 x1_1) (fun _=>True) ?_ ?_
      ·refine tz [57,9,8,5,12,11,10,0,2] ?_
       refine tCond (decide ((z14_16 sh lk l x1_0).kind=(1:Int))) (fun h4=>?_) (fun h4=>?_)
       ·exact tTo (fun x=>C50b sh lk bu l Xe x1_0 x1_1) (fun x=>True) () trivial [] [22] [(z14_28 sh lk l x1_0)=true] (by simp only [Conj];(repeat' apply And.intro)<;>first | trivial | rfl | (intros;rfl) | (intros;trivial) | (have hp:=evOf_parts (i:=x1_0) hs (rights_at hr (i:=x1_0) (by omega) (by simpa using h2));simp only [BL] at *;first | grind | omega) | (simp only [evOf,thD,noEv,onK,drW,swW,addrB,BL] at *;grind))
       ·refine tz [60,57,9,8,5,12,11,10,0,2] ?_
        refine tCond (decide ((z14_16 sh lk l x1_0).kind=(2:Int))) (fun h5=>?_) (fun h5=>?_)
        ·exact tTo (fun x=>C50b sh lk bu l Xe x1_0 x1_1) (fun x=>True) () trivial [] [22] [(z14_28 sh lk l x1_0)=true] (by simp only [Conj];(repeat' apply And.intro)<;>first | trivial | rfl | (intros;rfl) | (intros;trivial) | (have hp:=evOf_parts (i:=x1_0) hs (rights_at hr (i:=x1_0) (by omega) (by simpa using h2));simp only [BL] at *;first | grind | omega) | (simp only [evOf,thD,noEv,onK,drW,swW,addrB,BL] at *;grind))
        ·exact tTo (fun x=>C50b sh lk bu l Xe x1_0 x1_1) (fun x=>True) () trivial [] [22] [(z14_28 sh lk l x1_0)=decide ((z14_16 sh lk l x1_0).kind=(3:Int))] (by simp only [Conj];(repeat' apply And.intro)<;>first | trivial | rfl | (intros;rfl) | (intros;trivial) | (have hp:=evOf_parts (i:=x1_0) hs (rights_at hr (i:=x1_0) (by omega) (by simpa using h2));simp only [BL] at *;first | grind | omega) | (simp only [evOf,thD,noEv,onK,drW,swW,addrB,BL] at *;grind))
      ·rintro ⟨⟩ hCC50b
       refine tz [60,57,9,8,5,12,11,10,0,2] ?_
       refine tCond (z14_28 sh lk l x1_0) (fun h4=>?_) (fun h4=>?_)
       ·refine tz [9,8,5,12,11,10,0,2] ?_
        refine tDag 4 [[]] [0,0,0,0,0,0,0,0,0,0,0,0,0,0,0,0,0,0,0,0,0,0,0,0,0,0,0,0,0,0,0,0,0,0,0,0,0,0,0,0,0,0,0,0,0,0] ?_
        exact tTo (fun x=>C50y sh lk bu l Xe x1_0 x1_1) (fun x=>C50y_J sh lk l x1_0) () (by dsimp only [C50y_J];simp only [BL] at *;assumption) [] [10,11,12,13,14,15] [(z14_16 sh lk l x1_0).core=(l.getD x1_0.toNat default).core,(z14_16 sh lk l x1_0).thing=thD sh lk (l.getD x1_0.toNat default),(z14_16 sh lk l x1_0).word=(l.getD x1_0.toNat default).word,(z14_16 sh lk l x1_0).put=(l.getD x1_0.toNat default).put,(z14_16 sh lk l x1_0).own=(l.getD x1_0.toNat default).own,(z14_16 sh lk l x1_0).pos=x1_0] (by simp only [Conj];(repeat' apply And.intro)<;>first | trivial | rfl | (intros;rfl) | (intros;trivial) | (have hp:=evOf_parts (i:=x1_0) hs (rights_at hr (i:=x1_0) (by omega) (by simpa using h2));simp only [BL] at *;first | grind | omega) | (simp only [evOf,thD,noEv,onK,drW,swW,addrB,BL] at *;grind))
       ·refine tz [57,9,8,5,12,11,10,0,2] ?_
        refine tCond (decide ((z14_16 sh lk l x1_0).kind=(4:Int))) (fun h5=>?_) (fun h5=>?_)
        ·exact tTo (fun x=>C50y sh lk bu l Xe x1_0 x1_1) (fun x=>C50y_J sh lk l x1_0) () (by dsimp only [C50y_J];simp only [BL] at *;assumption) [] [10,11,12,13,14,15] [(z14_16 sh lk l x1_0).core=(l.getD x1_0.toNat default).core,(z14_16 sh lk l x1_0).thing=thD sh lk (l.getD x1_0.toNat default),(z14_16 sh lk l x1_0).word=(0:Int),(z14_16 sh lk l x1_0).put=(0:Int),(z14_16 sh lk l x1_0).own=false,(z14_16 sh lk l x1_0).pos=x1_0] (by simp only [Conj];(repeat' apply And.intro)<;>first | trivial | rfl | (intros;rfl) | (intros;trivial) | (have hp:=evOf_parts (i:=x1_0) hs (rights_at hr (i:=x1_0) (by omega) (by simpa using h2));simp only [BL] at *;first | grind | omega) | (simp only [evOf,thD,noEv,onK,drW,swW,addrB,BL] at *;grind))
        ·refine tz [75,57,9,8,5,12,11,10,0,2] ?_
         refine tCond (decide ((z14_16 sh lk l x1_0).kind=(5:Int))) (fun h6=>?_) (fun h6=>?_)
         ·exact tTo (fun x=>C50y sh lk bu l Xe x1_0 x1_1) (fun x=>C50y_J sh lk l x1_0) () (by dsimp only [C50y_J];simp only [BL] at *;assumption) [] [10,11,12,13,14,15] [(z14_16 sh lk l x1_0).core=(l.getD x1_0.toNat default).core,(z14_16 sh lk l x1_0).thing=thD sh lk (l.getD x1_0.toNat default),(z14_16 sh lk l x1_0).word=(0:Int),(z14_16 sh lk l x1_0).put=(0:Int),(z14_16 sh lk l x1_0).own=false,(z14_16 sh lk l x1_0).pos=x1_0] (by simp only [Conj];(repeat' apply And.intro)<;>first | trivial | rfl | (intros;rfl) | (intros;trivial) | (have hp:=evOf_parts (i:=x1_0) hs (rights_at hr (i:=x1_0) (by omega) (by simpa using h2));simp only [BL] at *;first | grind | omega) | (simp only [evOf,thD,noEv,onK,drW,swW,addrB,BL] at *;grind))
         ·refine tz [57,9,5,12,11,10,0,2] ?_
          refine tCond (decide ((z14_16 sh lk l x1_0).kind=(6:Int))) (fun h7=>?_) (fun h7=>?_)
          ·exact tTo (fun x=>C50y sh lk bu l Xe x1_0 x1_1) (fun x=>C50y_J sh lk l x1_0) () (by dsimp only [C50y_J];simp only [BL] at *;assumption) [] [10,11,12,13,14,15] [(z14_16 sh lk l x1_0).core=(l.getD x1_0.toNat default).core,(z14_16 sh lk l x1_0).thing=(0:Int),(z14_16 sh lk l x1_0).word=(l.getD x1_0.toNat default).word,(z14_16 sh lk l x1_0).put=(0:Int),(z14_16 sh lk l x1_0).own=false,(z14_16 sh lk l x1_0).pos=x1_0] (by simp only [Conj];(repeat' apply And.intro)<;>first | trivial | rfl | (intros;rfl) | (intros;trivial) | (have hp:=evOf_parts (i:=x1_0) hs (rights_at hr (i:=x1_0) (by omega) (by simpa using h2));simp only [BL] at *;first | grind | omega) | (simp only [evOf,thD,noEv,onK,drW,swW,addrB,BL] at *;grind))
          ·exact tTo (fun x=>C50y sh lk bu l Xe x1_0 x1_1) (fun x=>C50y_J sh lk l x1_0) () (by dsimp only [C50y_J];simp only [BL] at *;assumption) [] [10,11,12,13,14,15] [(z14_16 sh lk l x1_0).core=(l.getD x1_0.toNat default).core,(z14_16 sh lk l x1_0).thing=(0:Int),(z14_16 sh lk l x1_0).word=(0:Int),(z14_16 sh lk l x1_0).put=(0:Int),(z14_16 sh lk l x1_0).own=false,(z14_16 sh lk l x1_0).pos=x1_0] (by simp only [Conj];(repeat' apply And.intro)<;>first | trivial | rfl | (intros;rfl) | (intros;trivial) | (have hp:=evOf_parts (i:=x1_0) hs (rights_at hr (i:=x1_0) (by omega) (by simpa using h2));simp only [BL] at *;first | grind | omega) | (simp only [evOf,thD,noEv,onK,drW,swW,addrB,BL] at *;grind))
    ·rintro ⟨⟩ hCC50y
     refine tz [9,12,11,10,0,2] ?_
     refine tYield hy 6 5 x1_1 (SV.agg (z14_16 sh lk l x1_0).cs) (by rw [hn,hJ1.2.2];exact (ev_here hJ1.1 (by simpa using h2) hCC50y).1) (by rw [he];dsimp only;rw [hJ1.2.2,(ev_here hJ1.1 (by simpa using h2) hCC50y).2]) (fun al3=>?_)
     refine tz [87,12,11,10,0,2] ?_
     refine tCond (!al3) (fun h4=>?_) (fun h4=>?_)
     ·exact tRet (res:=(SV.tup [])) (post:=([Reg.dead,Reg.dead,Reg.dead,Reg.dead,Reg.dead,Reg.dead,Reg.ext Xe (x1_1+1) al3])) (hS:=⟨x1_1+1,al3,(by first | (intro _;rw [hn,hJ1.2.2,show x1_0.toNat=l.length by (simp only [BL] at *;omega)]) | (intro h;subst h;simp at *)),rfl⟩)
     ·exact tNext (L88_0 sh lk bu l Xe) (x1_0,x1_1) ((x1_0+(1:Int),x1_1+1)) (by dsimp only [L88_0,L88_0_m];(try simp only [decide_eq_true_eq] at *);omega) (by dsimp only [L88_0,L88_0_J];refine ⟨by omega,by simp only [BL] at *;omega,?_⟩;first | (rw [evUp_skip sh lk l (i:=x1_0) hJ1.1 rfl (of_decide_eq_true h3)];exact hJ1.2.2) | (rw [evUp_take sh lk l (i:=x1_0) hJ1.1 rfl hCC50y,List.length_append,← hJ1.2.2];rfl)) [] [8] [true=al3] (by simp only [Conj];(repeat' apply And.intro)<;>first | trivial | rfl | (intros;rfl) | (intros;trivial) | (have hp:=evOf_parts (i:=x1_0) hs (rights_at hr (i:=x1_0) (by omega) (by simpa using h2));simp only [BL] at *;first | grind | omega) | (simp only [evOf,thD,noEv,onK,drW,swW,addrB,BL] at *;grind)) (vc:=[Fits IntKind.i64 (x1_0+(1:Int))]) (hv:=(by simp only [Conj,Fits,i64_min,i64_max,u8_min,u8_max,News.len,maxLen]<;>(repeat' (first | apply And.intro | intro _))<;>first | grind | (simp only [BL] at *;omega)))
 ·exact tFin (res:=(SV.tup [])) (post:=([Reg.dead,Reg.dead,Reg.dead,Reg.dead,Reg.dead,Reg.dead,Reg.ext Xe x1_1 true])) (hS:=⟨x1_1,true,(by first | (intro _;rw [hn,hJ1.2.2,show x1_0.toNat=l.length by (simp only [BL] at *;omega)]) | (intro h;subst h;simp at *)),rfl⟩)
end Go.Proofs.YtmjjikcappbkeaaGreat
end
noncomputable section
namespace Go.Proofs.YtmjjikcappbkeaaGreat
open Go Go.Tx
end Go.Proofs.YtmjjikcappbkeaaGreat
end
noncomputable section
namespace Go.Proofs.YtmjjikcappbkeaaGreat
open Go Go.Tx
end Go.Proofs.YtmjjikcappbkeaaGreat
end
noncomputable section
namespace Go.Proofs.YtmjjikcappbkeaaGreat
open Go Go.Tx
theorem c_sameName (a b:ByteArray) (la lb:List Ins):Ctr Tryz.prog 154 [Ins.rowR la,Reg.ro [.v (.string b),.h 2],Ins.rowR lb] [.agg [.v (.string a),.h 0],.c (.p 1 0)]
 (Det (.c (.b (decide (a=b)))) [.dead,.dead,.dead]):=by
 refine Ctr.intro [] Tryz.func154 K K ?_
 exact tRet
def L72_0_I (cs:List Cor) (n:Nat) (b:ByteArray) (lb:List Ins):Int×Int→St:=fun x=>{ N:=19,fr:=[{ slot:=8,g:=[],sv:=SV.c (C.i .i64 x.1) },{ slot:=7,g:=[],sv:=SV.c (C.i .i64 (↑n:Int)) },{ slot:=4,g:=[],sv:=SV.c (C.i .i64 x.2) },{ slot:=0,g:=[],sv:=SV.c (C.h 0) },{ slot:=1,g:=[],sv:=SV.c (C.fn 154 false [1]) }],rg:=[Reg.row 2 n (fun i=>(cs.getD (0+i) default).tc) none,Reg.ro [C.v (Value.string b),C.h 2],Reg.row 9 lb.length (fun i=>(lb.getD i default).tc) none],wr:=[] }
def L72_0_J (cs:List Cor) (n:Nat) (b:ByteArray) (lb:List Ins):Int×Int→Prop:=fun x=>0≤x.1∧x.1≤(n:Int)∧findFrom (nDiff cs b) 0 n=findFrom (nDiff cs b) x.1 n
def L72_0_m (cs:List Cor) (n:Nat) (b:ByteArray) (lb:List Ins):Int×Int→Nat:=fun x=>((n:Int)-x.1).toNat
def L72_0 (cs:List Cor) (n:Nat) (b:ByteArray) (lb:List Ins):Lp (Int×Int):=⟨L72_0_I cs n b lb,L72_0_J cs n b lb,L72_0_m cs n b lb⟩
theorem c_indexName (cs:List Cor) (n:Nat) (b:ByteArray) (lb:List Ins):Ctr Tryz.prog 186 [Reg.row 2 n (fun i=>(cs.getD (0+i) default).tc) none,Reg.ro [.v (.string b),.h 2],Ins.rowR lb] [.c (.h 0),.c (.fn 154 false [1])]
 (Det (.c (.i .i64 (indexName cs n b))) [.dead,.dead,.dead]):=by
 refine Ctr.intro [] Tryz.func186 K K ?_
 refine RunF.lens 0 (m:=n) K (fun hlens_0=>?_)
 refine tLoop (L72_0 cs n b lb) (((0:Int),(0:Int))) (by dsimp only [L72_0,L72_0_J];grind) ?_
 rintro ⟨x1_0,x1_1⟩ hJ1
 dsimp only [L72_0,L72_0_J] at hJ1
 refine tz [8,7,4,0,1] ?_
 refine tCond (decide (x1_0<(↑n:Int))) (fun h2=>?_) (fun h2=>?_)
 ·refine tFoc 0 (x1_0.toNat) ?_ (vc:=[x1_0.toNat<n]) (hv:=(by simp only [Conj,Fits,i64_min,i64_max,u8_min,u8_max];(repeat' (first | apply And.intro | intro _))<;>first | grind | (simp only [BL] at *;omega)))
  refine tz [8,7,4,0,1] ?_
  refine tCall e_target_shaped_1 (c_sameName (a:=(cs.getD (0+x1_0.toNat) default).name) (b:=b) (la:=(cs.getD (0+x1_0.toNat) default).code) (lb:=lb)) [3,1,2] ?_ (vc:=[(0:Int)≤x1_0,x1_0<(↑n:Int),x1_0.toNat=x1_0.toNat]) (hv:=(by simp only [Conj,Fits,i64_min,i64_max,u8_min,u8_max];(repeat' (first | apply And.intro | intro _))<;>first | grind | (simp only [BL] at *;omega)))
  refine tz [16,5,8,7,4,0,1] ?_
  refine tCond (decide ((cs.getD (0+x1_0.toNat) default).name=b)) (fun h3=>?_) (fun h3=>?_)
  ·exact tRet [] [0] [indexName cs n b=x1_0] (by simp only [Conj,indexName];first | grind | (have he:=findFrom_end (nDiff cs b) (i:=x1_0) (n:=n) (by grind);grind) | (have hp:nDiff cs b x1_0=false:=(by simp only [nDiff,corAt];grind);have hs:=findFrom_stop (nDiff cs b) (n:=n) (by grind) hp;grind))
  ·exact tNext (L72_0 cs n b lb) (x1_0,x1_1) ((x1_0+(1:Int),x1_1)) (by dsimp only [L72_0,L72_0_m];(try simp only [decide_eq_true_eq] at *);omega) (by have hp:nDiff cs b x1_0=true:=(by simp only [nDiff,corAt];grind);have hs:=findFrom_next (nDiff cs b) (n:=n) (by grind) hp;dsimp only [L72_0,L72_0_J] at *;grind) (vc:=[Fits IntKind.i64 (x1_0+(1:Int))]) (hv:=(by simp only [Conj,Fits,i64_min,i64_max,u8_min,u8_max];(repeat' (first | apply And.intro | intro _))<;>first | grind | (simp only [BL] at *;omega)))
 ·exact tRet [] [0] [indexName cs n b=(-1:Int)] (by simp only [Conj,indexName];first | grind | (have he:=findFrom_end (nDiff cs b) (i:=x1_0) (n:=n) (by grind);grind) | (have hp:nDiff cs b x1_0=false:=(by simp only [nDiff,corAt];grind);have hs:=findFrom_stop (nDiff cs b) (n:=n) (by grind) hp;grind))
theorem c_containsName (cs:List Cor) (n:Nat) (b:ByteArray) (lb:List Ins):Ctr Tryz.prog 155 [Reg.row 2 n (fun i=>(cs.getD (0+i) default).tc) none,Reg.ro [.v (.string b),.h 2],Ins.rowR lb] [.c (.h 0),.c (.fn 154 false [1])]
 (Det (.c (.b (!decide (findFrom (nDiff cs b) 0 n=n)))) [.dead,.dead,.dead]):=by
 refine Ctr.intro [] Tryz.func155 K K ?_
 refine tCall e_slices_IndexFunc (c_indexName (cs:=cs) (n:=n) (b:=b) (lb:=lb)) [] ?_
 exact tRet [] [0] [(!decide (findFrom (nDiff cs b) (0:Int) (↑n:Int)=(↑n:Int)))=decide ((0:Int)≤indexName cs n b)] (by simp only [Conj,indexName];have hg:=findFrom_ge (nDiff cs b) (n:=n) _ 0 rfl (by omega);grind)
end Go.Proofs.YtmjjikcappbkeaaGreat
end
noncomputable section
namespace Go.Proofs.YtmjjikcappbkeaaGreat
open Go Go.Tx
theorem corB_prog (cs:List Cor) (x:Int) (h:0≤x):corB cs x=(nameB (cs.getD x.toNat default).name&&decide (findFrom (nDiff cs (cs.getD x.toNat default).name) 0 ((x.toNat-0:Nat):Int)=((x.toNat-0:Nat):Int)) &&
 decide (1≤((cs.getD x.toNat default).code.length:Int))&&decide (((cs.getD x.toNat default).code.length:Int)≤16384) &&
 (decide (((cs.getD x.toNat default).code.getD (((cs.getD x.toNat default).code.length:Int)-1).toNat default).kind=10)||decide (((cs.getD x.toNat default).code.getD (((cs.getD x.toNat default).code.length:Int)-1).toNat default).kind=8))):=by
 rw [findFrom_all _ _ 0 rfl (by omega)]
 rw [show ((x.toNat-0:Nat):Int)=x by omega]
 rfl
def L47_0_I (mem:List Int) (sh:Int) (lk:Int) (bu:Int) (cs:List Cor):Int×Bool→St:=fun x=>{ N:=105,fr:=[{ slot:=62,g:=[],sv:=SV.c (C.i .i64 x.1) },{ slot:=61,g:=[],sv:=SV.c (C.i .i64 (↑cs.length:Int)) },{ slot:=60,g:=[],sv:=SV.c (C.h 1) },{ slot:=2,g:=[],sv:=SV.c (C.b x.2) },{ slot:=1,g:=[],sv:=SV.c (C.p 2 0) }],rg:=[Reg.row 1 mem.length (fun i=>i64T (mem.getD i (0:Int))) none,Reg.row 2 cs.length (fun i=>(cs.getD i default).tc) none,Reg.box 29 [C.h 0,C.i .i64 sh,C.i .i64 lk,C.i .i64 bu,C.h 1]],wr:=[] }
def L47_0_J (mem:List Int) (sh:Int) (lk:Int) (bu:Int) (cs:List Cor):Int×Bool→Prop:=fun x=>0≤x.1∧x.1≤(cs.length:Int)∧allFrom (corB cs) 0 cs.length=allFrom (corB cs) x.1 cs.length
def L47_0_m (mem:List Int) (sh:Int) (lk:Int) (bu:Int) (cs:List Cor):Int×Bool→Nat:=fun x=>((cs.length:Int)-x.1).toNat
def L47_0 (mem:List Int) (sh:Int) (lk:Int) (bu:Int) (cs:List Cor):Lp (Int×Bool):=⟨L47_0_I mem sh lk bu cs,L47_0_J mem sh lk bu cs,L47_0_m mem sh lk bu cs⟩
theorem c_shaped (mem:List Int) (sh lk bu:Int) (cs:List Cor):Ctr Tryz.prog 113 [IntRow mem,Cor.rowR cs] [.agg [.h 0,.i .i64 sh,.i .i64 lk,.i .i64 bu,.h 1]]
 (Det (.c (.b (shapedB mem sh lk bu cs))) [.dead,.dead]):=by
 refine Ctr.intro [] Tryz.func113 K K ?_
 refine RunF.lens 1 (m:=cs.length) K (fun hlens_1=>?_)
 refine tCond (decide (sh<(0:Int))||decide ((64:Int)<sh)||decide (lk<(0:Int))||decide ((16:Int)<lk)||decide ((↑mem.length:Int)<sh+lk)||decide ((4096:Int)<(↑mem.length:Int))||decide (bu<(1:Int))||decide ((16:Int)<bu)||decide ((8:Int)<(↑cs.length:Int))) (fun h1=>?_) (fun h1=>?_) (vc:=[(decide (sh<(0:Int))||decide ((64:Int)<sh)||decide (lk<(0:Int))||decide ((16:Int)<lk))=false→Fits IntKind.i64 (sh+lk)]) (hv:=(by simp only [Conj,Fits,i64_min,i64_max,u8_min,u8_max];(repeat' (first | apply And.intro | intro _))<;>first | grind | (simp only [BL] at *;omega)))
 ·exact tRet [] [0] [shapedB mem sh lk bu cs=false] (by simp only [Conj,shapedB];first | grind | (have he:=allFrom_end (corB cs) (i:=x2_0) (n:=cs.length) (by grind);grind) | (have hp:corB cs x2_0=false:=(by rw [corB_prog cs x2_0 (by grind)];grind);have hs:=allFrom_stop (corB cs) (n:=cs.length) (by grind) hp;grind))
 ·refine tz [2,1] ?_
  refine tLoop (L47_0 mem sh lk bu cs) (((0:Int),false)) (by dsimp only [L47_0,L47_0_J];grind) ?_
  rintro ⟨x2_0,x2_1⟩ hJ2
  dsimp only [L47_0,L47_0_J] at hJ2
  refine tz [62,61,60,2,1] ?_
  refine tCond (decide (x2_0<(↑cs.length:Int))) (fun h3=>?_) (fun h3=>?_)
  ·refine tFoc 1 (x2_0.toNat) ?_ (vc:=[x2_0.toNat<cs.length]) (hv:=(by simp only [Conj,Fits,i64_min,i64_max,u8_min,u8_max];(repeat' (first | apply And.intro | intro _))<;>first | grind | (simp only [BL] at *;omega)))
   refine RunF.lens 3 (m:=(cs.getD x2_0.toNat default).code.length) K (fun hlenh3t_3=>?_)
   refine tz [62,61,60,2,1] ?_
   refine tCall e_lexer_Name (c_name (s:=(cs.getD x2_0.toNat default).name)) [] ?_ (vc:=[(0:Int)≤x2_0,x2_0<(↑cs.length:Int),x2_0.toNat=x2_0.toNat]) (hv:=(by simp only [Conj,Fits,i64_min,i64_max,u8_min,u8_max];(repeat' (first | apply And.intro | intro _))<;>first | grind | (simp only [BL] at *;omega)))
   refine tz [73,6,5,3,4,62,61,60,2,1] ?_
   refine tCond (!nameB (cs.getD x2_0.toNat default).name) (fun h4=>?_) (fun h4=>?_)
   ·exact tRet [] [0] [shapedB mem sh lk bu cs=false] (by simp only [Conj,shapedB];first | grind | (have he:=allFrom_end (corB cs) (i:=x2_0) (n:=cs.length) (by grind);grind) | (have hp:corB cs x2_0=false:=(by rw [corB_prog cs x2_0 (by grind)];grind);have hs:=allFrom_stop (corB cs) (n:=cs.length) (by grind) hp;grind))
   ·refine tz [78,77,75,6,5,4,62,61,60,2,1] ?_
    refine tCall e_slices_ContainsFunc (c_containsName (cs:=cs) (n:=x2_0.toNat-0) (b:=(cs.getD x2_0.toNat default).name) (lb:=(cs.getD x2_0.toNat default).code)) [5,4,3] ?_ (vc:=[(0:Int)≤(0:Int),(0:Int)≤x2_0,x2_0≤(↑cs.length:Int)]) (hv:=(by simp only [Conj,Fits,i64_min,i64_max,u8_min,u8_max];(repeat' (first | apply And.intro | intro _))<;>first | grind | (simp only [BL] at *;omega)))
    refine tz [81,75,6,4,62,61,60,2,1] ?_
    refine tCond (!decide (findFrom (nDiff cs (cs.getD x2_0.toNat default).name) (0:Int) (↑(x2_0.toNat-0):Int)=(↑(x2_0.toNat-0):Int))||decide ((↑(cs.getD x2_0.toNat default).code.length:Int)<(1:Int))||decide ((16384:Int)<(↑(cs.getD x2_0.toNat default).code.length:Int))) (fun h5=>?_) (fun h5=>?_)
    ·exact tRet [] [0] [shapedB mem sh lk bu cs=false] (by simp only [Conj,shapedB];first | grind | (have he:=allFrom_end (corB cs) (i:=x2_0) (n:=cs.length) (by grind);grind) | (have hp:corB cs x2_0=false:=(by rw [corB_prog cs x2_0 (by grind)];grind);have hs:=allFrom_stop (corB cs) (n:=cs.length) (by grind) hp;grind))
    ·refine tz [6,4,62,61,60,2,1] ?_
     refine tCond (!decide (((cs.getD x2_0.toNat default).code.getD ((↑(cs.getD x2_0.toNat default).code.length:Int)-(1:Int)).toNat default).kind=(10:Int))&&!decide (((cs.getD x2_0.toNat default).code.getD ((↑(cs.getD x2_0.toNat default).code.length:Int)-(1:Int)).toNat default).kind=(8:Int))) (fun h6=>?_) (fun h6=>?_) (vc:=[Fits IntKind.i64 ((↑(cs.getD x2_0.toNat default).code.length:Int)-(1:Int)),(0:Int)≤(↑(cs.getD x2_0.toNat default).code.length:Int)-(1:Int),(↑(cs.getD x2_0.toNat default).code.length:Int)-(1:Int)<(↑(cs.getD x2_0.toNat default).code.length:Int),((↑(cs.getD x2_0.toNat default).code.length:Int)-(1:Int)).toNat<(cs.getD x2_0.toNat default).code.length]) (hv:=(by simp only [Conj,Fits,i64_min,i64_max,u8_min,u8_max];(repeat' (first | apply And.intro | intro _))<;>first | grind | (simp only [BL] at *;omega)))
     ·exact tRet [] [0] [shapedB mem sh lk bu cs=false] (by simp only [Conj,shapedB];first | grind | (have he:=allFrom_end (corB cs) (i:=x2_0) (n:=cs.length) (by grind);grind) | (have hp:corB cs x2_0=false:=(by rw [corB_prog cs x2_0 (by grind)];grind);have hs:=allFrom_stop (corB cs) (n:=cs.length) (by grind) hp;grind))
     ·exact tNext (L47_0 mem sh lk bu cs) (x2_0,x2_1) ((x2_0+(1:Int),x2_1)) (by dsimp only [L47_0,L47_0_m];(try simp only [decide_eq_true_eq] at *);omega) (by have hp:corB cs x2_0=true:=(by rw [corB_prog cs x2_0 (by grind)];grind);have hs:=allFrom_next (corB cs) (n:=cs.length) (by grind) hp;dsimp only [L47_0,L47_0_J] at *;grind) (vc:=[Fits IntKind.i64 (x2_0+(1:Int))]) (hv:=(by simp only [Conj,Fits,i64_min,i64_max,u8_min,u8_max];(repeat' (first | apply And.intro | intro _))<;>first | grind | (simp only [BL] at *;omega)))
  ·exact tRet [] [0] [shapedB mem sh lk bu cs=true] (by simp only [Conj,shapedB];first | grind | (have he:=allFrom_end (corB cs) (i:=x2_0) (n:=cs.length) (by grind);grind) | (have hp:corB cs x2_0=false:=(by rw [corB_prog cs x2_0 (by grind)];grind);have hs:=allFrom_stop (corB cs) (n:=cs.length) (by grind) hp;grind))
end Go.Proofs.YtmjjikcappbkeaaGreat
end
