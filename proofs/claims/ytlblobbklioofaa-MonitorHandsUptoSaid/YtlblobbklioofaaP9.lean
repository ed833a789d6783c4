/-
  Part of a proof of Rows.MonitorHandsUptoSaid: for every object, classes and run of at most 1048576 values and letters together, the law stilelaw23.MonitorHands returns true and leaves its arguments as they were. Text 9 of 9: FinA FinHands.
-/
import Derived.Test.YtlblobbklioofaaRows
import Derived.Test.YtlblobbklioofaaP8
import Derived.Test.YtlblobbklioofaaP3
import Derived.WalkKit
import Derived.ProofKit
import Derived.OpenShut
import Derived.JoinedCond
import Derived.Carry
set_option linter.unusedVariables false
set_option linter.unusedSimpArgs false
set_option maxRecDepth 100000
namespace Go.Proofs.Ytlblobbklioofaa
open Go Go.Tx
theorem u8_of {n : Int} (h : (Lit.int .u8 n).wf = true) : 0 ≤ n ∧ n ≤ 255 := by simpa [Lit.wf, IntKind.min, IntKind.max, IntKind.signed, IntKind.bits] using h
abbrev shDid : List Sh := [.num .u8, .num .i64, .num .i64, .num .i64, .num .i64, .num .i64, .boo]
theorem shT_Did : ShT Try.prog 75 shDid := .struct Try.underlying75 (by kernel_rfl) (.cons (s1 := [.num .u8]) (s2 := [.num .i64, .num .i64, .num .i64, .num .i64, .num .i64, .boo]) rfl (by kernel_rfl) (.int (by kernel_rfl)) (.cons (s1 := [.num .i64]) (s2 := [.num .i64, .num .i64, .num .i64, .num .i64, .boo]) rfl (by kernel_rfl) (.int (by kernel_rfl)) (.cons (s1 := [.num .i64]) (s2 := [.num .i64, .num .i64, .num .i64, .boo]) rfl (by kernel_rfl) (.int (by kernel_rfl)) (.cons (s1 := [.num .i64]) (s2 := [.num .i64, .num .i64, .boo]) rfl (by kernel_rfl) (.int (by kernel_rfl)) (.cons (s1 := [.num .i64]) (s2 := [.num .i64, .boo]) rfl (by kernel_rfl) (.int (by kernel_rfl)) (.cons (s1 := [.num .i64]) (s2 := [.boo]) rfl (by kernel_rfl) (.int (by kernel_rfl)) (.cons (s1 := [.boo]) (s2 := []) rfl (by kernel_rfl) (.bool (by kernel_rfl)) .nil)))))))
theorem of_Did {w : World} {t : List TC} (h : ShL shDid t) : ∃ x : Did, Imp w t x.tl ∧ (0 ≤ x.kind ∧ x.kind ≤ 255) := by
 obtain ⟨hl, hc⟩ := h
 rcases t with _ | ⟨c0, _ | ⟨c1, _ | ⟨c2, _ | ⟨c3, _ | ⟨c4, _ | ⟨c5, _ | ⟨c6, _ | ⟨c7, t⟩⟩⟩⟩⟩⟩⟩⟩
 all_goals first | (exfalso; simp at hl; done) | skip
 have h0 := hc 0 _ _ rfl rfl
 have h1 := hc 1 _ _ rfl rfl
 have h2 := hc 2 _ _ rfl rfl
 have h3 := hc 3 _ _ rfl rfl
 have h4 := hc 4 _ _ rfl rfl
 have h5 := hc 5 _ _ rfl rfl
 have h6 := hc 6 _ _ rfl rfl
 cases h0 with | num n0 w0 =>
 cases h1 with | num n1 w1 =>
 cases h2 with | num n2 w2 =>
 cases h3 with | num n3 w3 =>
 cases h4 with | num n4 w4 =>
 cases h5 with | num n5 w5 =>
 cases h6 with | boo n6 =>
 exact ⟨⟨n0, n1, n2, n3, n4, n5, n6⟩, Imp.of_eq rfl, u8_of w0⟩
abbrev shCls : List Sh := [.num .u8, .num .i64, .num .i64]
theorem shT_Cls : ShT Try.prog 72 shCls := .struct Try.underlying72 (by kernel_rfl) (.cons (s1 := [.num .u8]) (s2 := [.num .i64, .num .i64]) rfl (by kernel_rfl) (.int (by kernel_rfl)) (.cons (s1 := [.num .i64]) (s2 := [.num .i64]) rfl (by kernel_rfl) (.int (by kernel_rfl)) (.cons (s1 := [.num .i64]) (s2 := []) rfl (by kernel_rfl) (.int (by kernel_rfl)) .nil)))
theorem of_Cls {w : World} {t : List TC} (h : ShL shCls t) : ∃ x : Cls, Imp w t x.tl ∧ True := by
 obtain ⟨hl, hc⟩ := h
 rcases t with _ | ⟨c0, _ | ⟨c1, _ | ⟨c2, _ | ⟨c3, t⟩⟩⟩⟩
 all_goals first | (exfalso; simp at hl; done) | skip
 have h0 := hc 0 _ _ rfl rfl
 have h1 := hc 1 _ _ rfl rfl
 have h2 := hc 2 _ _ rfl rfl
 cases h0 with | num n0 w0 =>
 cases h1 with | num n1 w1 =>
 cases h2 with | num n2 w2 =>
 exact ⟨⟨n0, n1, n2⟩, Imp.of_eq rfl, trivial⟩
abbrev shIns : List Sh := [.num .u8, .num .u8, .num .i64, .num .i64, .num .i64, .num .i64, .num .i64, .num .i64, .num .i64]
theorem shT_Ins : ShT Try.prog 93 shIns := .struct Try.underlying93 (by kernel_rfl) (.cons (s1 := [.num .u8]) (s2 := [.num .u8, .num .i64, .num .i64, .num .i64, .num .i64, .num .i64, .num .i64, .num .i64]) rfl (by kernel_rfl) (.int (by kernel_rfl)) (.cons (s1 := [.num .u8]) (s2 := [.num .i64, .num .i64, .num .i64, .num .i64, .num .i64, .num .i64, .num .i64]) rfl (by kernel_rfl) (.int (by kernel_rfl)) (.cons (s1 := [.num .i64]) (s2 := [.num .i64, .num .i64, .num .i64, .num .i64, .num .i64, .num .i64]) rfl (by kernel_rfl) (.int (by kernel_rfl)) (.cons (s1 := [.num .i64]) (s2 := [.num .i64, .num .i64, .num .i64, .num .i64, .num .i64]) rfl (by kernel_rfl) (.int (by kernel_rfl)) (.cons (s1 := [.num .i64]) (s2 := [.num .i64, .num .i64, .num .i64, .num .i64]) rfl (by kernel_rfl) (.int (by kernel_rfl)) (.cons (s1 := [.num .i64]) (s2 := [.num .i64, .num .i64, .num .i64]) rfl (by kernel_rfl) (.int (by kernel_rfl)) (.cons (s1 := [.num .i64]) (s2 := [.num .i64, .num .i64]) rfl (by kernel_rfl) (.int (by kernel_rfl)) (.cons (s1 := [.num .i64]) (s2 := [.num .i64]) rfl (by kernel_rfl) (.int (by kernel_rfl)) (.cons (s1 := [.num .i64]) (s2 := []) rfl (by kernel_rfl) (.int (by kernel_rfl)) .nil)))))))))
theorem of_Ins {w : World} {t : List TC} (h : ShL shIns t) : ∃ x : Ins, Imp w t x.tl ∧ insK x := by
 obtain ⟨hl, hc⟩ := h
 rcases t with _ | ⟨c0, _ | ⟨c1, _ | ⟨c2, _ | ⟨c3, _ | ⟨c4, _ | ⟨c5, _ | ⟨c6, _ | ⟨c7, _ | ⟨c8, _ | ⟨c9, t⟩⟩⟩⟩⟩⟩⟩⟩⟩⟩
 all_goals first | (exfalso; simp at hl; done) | skip
 have h0 := hc 0 _ _ rfl rfl
 have h1 := hc 1 _ _ rfl rfl
 have h2 := hc 2 _ _ rfl rfl
 have h3 := hc 3 _ _ rfl rfl
 have h4 := hc 4 _ _ rfl rfl
 have h5 := hc 5 _ _ rfl rfl
 have h6 := hc 6 _ _ rfl rfl
 have h7 := hc 7 _ _ rfl rfl
 have h8 := hc 8 _ _ rfl rfl
 cases h0 with | num n0 w0 =>
 cases h1 with | num n1 w1 =>
 cases h2 with | num n2 w2 =>
 cases h3 with | num n3 w3 =>
 cases h4 with | num n4 w4 =>
 cases h5 with | num n5 w5 =>
 cases h6 with | num n6 w6 =>
 cases h7 with | num n7 w7 =>
 cases h8 with | num n8 w8 =>
 exact ⟨⟨n0, n1, n2, n3, n4, n5, n6, n7, n8⟩, Imp.of_eq rfl, ⟨u8_of w0, u8_of w1⟩⟩
abbrev shCor : List Sh := [.str, .sl 93 9 shIns]
theorem shT_Cor : ShT Try.prog 96 shCor := .struct Try.underlying96 (by kernel_rfl) (.cons (s1 := [.str]) (s2 := [.sl 93 9 shIns]) rfl (by kernel_rfl) (.str (by kernel_rfl)) (.cons (s1 := [.sl 93 9 shIns]) (s2 := []) rfl (by kernel_rfl) (.slice (el := shIns) (by kernel_rfl) (by kernel_rfl) (by decide) shT_Ins) .nil))
theorem insK_dflt : insK default := by unfold insK; decide
theorem of_Cor {w : World} {t : List TC} (h : ShL shCor t) : ∃ x : Cor, Imp w t x.tl ∧ ∀ b, insK (x.code.getD b default) := by
 obtain ⟨hl, hc⟩ := h
 rcases t with _ | ⟨c0, _ | ⟨c1, _ | ⟨c2, t⟩⟩⟩
 all_goals first | (exfalso; simp at hl; done) | skip
 have h0 := hc 0 _ _ rfl rfl
 have h1 := hc 1 _ _ rfl rfl
 cases h0 with | str n0 =>
 obtain ⟨code, hq, hr⟩ := row_of (w := w) (tl := Ins.tl) (Q := insK) rfl h1 (fun t ht => of_Ins ht) insK_dflt
 refine ⟨⟨n0, code⟩, fun j c u hj hu => ?_, hq⟩
 match j, hj with
 | 0, hj => cases hj; exact hu
 | 1, hj => cases hj; exact hr u hu
 | j + 2, hj => simp at hj
theorem of_Int {w : World} {t : List TC} (h : ShL [.num .i64] t) : ∃ x : Int, Imp w t [.val (.int .i64 x)] ∧ True := by
 obtain ⟨hl, hc⟩ := h
 rcases t with _ | ⟨c, _ | ⟨c', t⟩⟩
 ·simp at hl
 ·have h0 := hc 0 _ _ rfl rfl
  cases h0 with | num n w =>
  exact ⟨n, Imp.of_eq rfl, trivial⟩
 ·simp at hl
abbrev shObj : List Sh := [.sl 2 1 [.num .i64], .num .i64, .num .i64, .num .i64, .sl 96 2 shCor]
theorem shT_Obj : ShT Try.prog 25 shObj := .struct Try.underlying25 (by kernel_rfl)
 (.cons (s1 := [.sl 2 1 [.num .i64]]) (s2 := [.num .i64, .num .i64, .num .i64, .sl 96 2 shCor]) rfl (by kernel_rfl) (.slice (el := [.num .i64]) (by kernel_rfl) (by kernel_rfl) (by decide) (.int (by kernel_rfl)))
 (.cons (s1 := [.num .i64]) (s2 := [.num .i64, .num .i64, .sl 96 2 shCor]) rfl (by kernel_rfl) (.int (by kernel_rfl))
 (.cons (s1 := [.num .i64]) (s2 := [.num .i64, .sl 96 2 shCor]) rfl (by kernel_rfl) (.int (by kernel_rfl))
 (.cons (s1 := [.num .i64]) (s2 := [.sl 96 2 shCor]) rfl (by kernel_rfl) (.int (by kernel_rfl))
 (.cons (s1 := [.sl 96 2 shCor]) (s2 := []) rfl (by kernel_rfl) (.slice (el := shCor) (by kernel_rfl) (by kernel_rfl) (by decide) shT_Cor) .nil)))))
theorem shT_Dids : ShT Try.prog 26 [.sl 75 7 shDid] := .slice (el := shDid) (by kernel_rfl) (by kernel_rfl) (by decide) shT_Did
theorem shT_Clss : ShT Try.prog 40 [.sl 72 3 shCls] := .slice (el := shCls) (by kernel_rfl) (by kernel_rfl) (by decide) shT_Cls
section
variable {H : Type} {enc : TypeId × Value → H} {W : World} {base : Nat}
theorem row_ok {ε : Env} {M : Nat → Prop} {v : Value} {size n : Nat} {f : Nat → Nat → TC} (h : RdRow W (inW W) v size n (fun i j u => RdC W (inW W) (f i j) u)) : RegOk ε M W ⟨v, inW W⟩ (.row size n f none) := ⟨h, trivial⟩
theorem rows_ok {ε : Env} {pre : List Reg} (hl : ε.length = pre.length) (hx : pre.all (fun r => !r.excl) = true) (hf : ∀ i, i < pre.length → ε.fp i = inW W) (h : ∀ i r, pre[i]? = some r → RegOk ε (Base.at_ pre ε W).M W (ε.ent i) r) :
 RegsOk ε (Base.at_ pre ε W).M (Base.at_ pre ε W).L W pre := by
 have hx' : ∀ (i : Nat) (r : Reg), pre[i]? = some r → r.excl = false := fun i r hi => by simpa using List.all_eq_true.1 hx r (List.mem_of_getElem? hi)
 refine ⟨hl, h, fun i r hi hlv b hb => ?_, fun i r hi he => ?_, fun i j ri rj _ hi _ he => ?_⟩
 ·have hi' := (List.getElem?_eq_some_iff.1 hi).1
  have hb' : b < W.heap.size := by rw [hf i hi'] at hb; exact hb
  exact ⟨hb', .inr ⟨i, r, hi, hlv, hb⟩⟩
 ·rw [hx' i r hi] at he; cases he
 ·rw [hx' i ri hi] at he; cases he
theorem open_obj {v : Value} {d : DataW H} {p : List MemPlace} (hv : Value.okWide Try.prog W .any base 25 v) (h : DataW.Trod enc Try.prog W 0 (fun _ => true) true 25 v d p) :
 ∃ (u0 u4 : Value) (mem : List Int) (shared locks buffer : Int) (cs : List Cor), v = .agg #[u0, .int .i64 shared, .int .i64 locks, .int .i64 buffer, u4] ∧
  RdRow W (inW W) u0 1 mem.length (fun i j u => RdC W (inW W) (i64T (mem.getD i 0) j) u) ∧ RdRow W (inW W) u4 2 cs.length (fun i j u => RdC W (inW W) ((cs.getD i default).tc j) u) ∧
  ∀ a b : Nat, insK ((cs.getD a default).code.getD b default) := by
 obtain ⟨cs0, rfl, hsz⟩ := Go.WideShapes.okWide_struct Try.underlying25 hv
 obtain ⟨hlen, tl, ⟨hl, hc⟩, hh⟩ := readAt shT_Obj h
 have hlen : cs0.toList.length = 5 := hlen
 rcases tl with _ | ⟨c0, _ | ⟨c1, _ | ⟨c2, _ | ⟨c3, _ | ⟨c4, _ | ⟨c5, t⟩⟩⟩⟩⟩⟩
 all_goals first | (exfalso; simp at hl; done) | skip
 obtain ⟨l, rfl⟩ : ∃ l : List Value, cs0 = l.toArray := ⟨cs0.toList, by simp⟩
 simp only [List.toList_toArray] at hlen
 rcases l with _ | ⟨u0, _ | ⟨u1, _ | ⟨u2, _ | ⟨u3, _ | ⟨u4, _ | ⟨u5, t⟩⟩⟩⟩⟩⟩
 all_goals first | (exfalso; simp at hlen; done) | skip
 have h0 := hc 0 _ _ rfl rfl
 have h1 := hc 1 _ _ rfl rfl
 have h2 := hc 2 _ _ rfl rfl
 have h3 := hc 3 _ _ rfl rfl
 have h4 := hc 4 _ _ rfl rfl
 have g0 := hh 0 _ _ rfl rfl
 have g1 := hh 1 _ _ rfl rfl
 have g2 := hh 2 _ _ rfl rfl
 have g3 := hh 3 _ _ rfl rfl
 have g4 := hh 4 _ _ rfl rfl
 cases h1 with | num shared w1 =>
 cases h2 with | num locks w2 =>
 cases h3 with | num buffer w3 =>
 obtain ⟨mem, _, hm⟩ := row_of (w := W) (α := Int) (tl := fun n => [.val (.int .i64 n)]) (Q := fun _ => True) rfl h0 (fun t ht => of_Int ht) trivial
 obtain ⟨cs, hq, hr⟩ := row_of (w := W) (tl := Cor.tl) (Q := fun x : Cor => ∀ b, insK (x.code.getD b default)) rfl h4 (fun t ht => of_Cor ht) (fun b => by
  rw [List.getD_eq_getElem?_getD]; exact insK_dflt)
 have e1 : u1 = .int .i64 shared := g1
 have e2 : u2 = .int .i64 locks := g2
 have e3 : u3 = .int .i64 buffer := g3
 subst e1 e2 e3
 exact ⟨u0, u4, mem, shared, locks, buffer, cs, rfl, hm u0 g0, hr u4 g4, hq⟩
theorem open_dids {v : Value} {d : DataW H} {p : List MemPlace} (hv : Value.okWide Try.prog W .any base 26 v) (h : DataW.Trod enc Try.prog W 0 (fun _ => true) true 26 v d p) :
 ∃ l : List Did, RdRow W (inW W) v 7 l.length (fun i j u => RdC W (inW W) ((l.getD i default).tc j) u) ∧ ∀ a : Nat, 0 ≤ (l.getD a default).kind ∧ (l.getD a default).kind ≤ 255 := by
 obtain ⟨a, len, cap, rfl⟩ := Go.WideShapes.okWide_slice Try.underlying26 hv
 obtain ⟨hlen, tl, ⟨hl, hc⟩, hh⟩ := readAt shT_Dids h
 rcases tl with _ | ⟨c0, _ | ⟨c1, t⟩⟩
 all_goals first | (exfalso; simp at hl; done) | skip
 obtain ⟨l, hq, hr⟩ := row_of (w := W) (tl := Did.tl) (Q := fun x : Did => 0 ≤ x.kind ∧ x.kind ≤ 255) rfl (hc 0 _ _ rfl rfl) (fun t ht => of_Did ht) ⟨Int.le_refl _, by decide⟩
 exact ⟨l, hr _ (hh 0 _ _ rfl rfl), hq⟩
theorem open_clss {v : Value} {d : DataW H} {p : List MemPlace} (hv : Value.okWide Try.prog W .any base 40 v) (h : DataW.Trod enc Try.prog W 0 (fun _ => true) true 40 v d p) : ∃ l : List Cls, RdRow W (inW W) v 3 l.length (fun i j u => RdC W (inW W) ((l.getD i default).tc j) u) := by obtain ⟨a, len, cap, rfl⟩ := Go.WideShapes.okWide_slice Try.underlying40 hv; obtain ⟨hlen, tl, ⟨hl, hc⟩, hh⟩ := readAt shT_Clss h; (rcases tl with _ | ⟨c0, _ | ⟨c1, t⟩⟩ <;> first | (exfalso; simp at hl; done) | (obtain ⟨l, _, hr⟩ := row_of (w := W) (tl := Cls.tl) (Q := fun _ : Cls => True) rfl (hc 0 _ _ rfl rfl) (fun t ht => of_Cls ht) trivial; exact ⟨l, hr _ (hh 0 _ _ rfl rfl)⟩))
theorem bulk_len {t e : Nat} {v : Value} {d : DataW H} {p : List MemPlace} {size n : Nat} {ok : Nat → Nat → Value → Prop} (ht : Try.prog.underlying t = some (.slice e)) (h : DataW.Trod enc Try.prog W 0 (fun _ => true) true t v d p) (hr : RdRow W (inW W) v size n ok) : n ≤ Rows.uptoBulk d := by
 have all : ∀ l : List (DataW H), l.length ≤ Rows.uptoBulkAll l := fun l => by
  induction l with
  | nil => simp
  | cons x r ih =>
    have : 1 ≤ Rows.uptoBulk x := by
     cases x with
     | lit l => cases l <;> simp [Rows.uptoBulk]
     | _ => simp [Rows.uptoBulk]
    simp only [Rows.uptoBulkAll, List.length_cons]; omega
 obtain ⟨A, c, rfl, _⟩ := hr
 obtain ⟨fuel, hf⟩ := h
 rcases Go.Deep.open_slice ht hf with ⟨hcs, hd⟩ | ⟨a, len, cap, m, n', D, Pl, hcs, _, _, _, _, hd, _⟩
 ·simp only [Value.cells, List.cons.injEq, Value.slice.injEq] at hcs
  omega
 ·simp only [Value.cells, List.cons.injEq, Value.slice.injEq] at hcs
  simp only [Prod.mk.injEq] at hd
  rw [hd.1]
  have := all ((List.range len).map D)
  simp only [List.length_map, List.length_range] at this
  simp only [Rows.uptoBulk]
  omega
theorem bulk_part {d : DataW H} {l : List (DataW H)} (h : d ∈ l) : Rows.uptoBulk d ≤ Rows.uptoBulkAll l := by
 induction l with
 | nil => cases h
 | cons x r ih =>
   simp only [Rows.uptoBulkAll]
   cases List.mem_cons.1 h with
   | inl e => subst e; omega
   | inr e => have := ih e; omega
end
end Go.Proofs.Ytlblobbklioofaa
namespace Go.Proofs.Ytlblobbklioofaa.lawMonitorHands
open Go.ChangeShapes Go.WideShapes Go.ChangeAt Go.RowKit Go.Tx
theorem own : ownKnob Try.prog.godebug = none := by kernel_rfl
theorem results : Try.f4.resultTypes = #[4] := by kernel_rfl
theorem contract (H : Type) (enc : TypeId × Value → H) (W : World) (base : Nat) (args : Array Value) (ds gs : List (DataW H)) (before : List MemPlace)
 (hval : ∀ (j : Nat) t v, Try.f4.params[j]? = some t → args[j]? = some v → Value.okWide Try.prog W .any base t v)
 (hW : DataW.Whole enc Try.prog Try.f4.params.toList Rows.monitorHandsSpec.vars false W args.toList ds gs before) (hk : Rows.uptoSmall H (ds ++ gs) = true) :
 Calls Try.prog 4 args W fun e W' => ∃ v, e = .returned v ∧ Rows.monitorHandsSpec.post enc Try.prog Try.f4 false true false false W args v W' := by
 have hW' := hW
 have hlt := hW.lt
 obtain ⟨p, q, hA0, hV, rfl, hfz, hnd⟩ := hW
 have hA : DataW.TrodAll enc Try.prog W 0 (fun _ => true) true Try.f4.params.toList args.toList ds p := hA0
 rw [Try.params4] at hA hval
 obtain ⟨v0, vs0, d0, ds0, p0, q0, hargs0, rfl, rfl, h0, r0⟩ := trodAll_cons hA
 obtain ⟨v1, vs1, d1, ds1, p1, q1, hargs1, rfl, rfl, h1, r1⟩ := trodAll_cons r0
 obtain ⟨v2, vs2, d2, ds2, p2, q2, hargs2, rfl, rfl, h2, r2⟩ := trodAll_cons r1
 obtain ⟨rfl, rfl, rfl⟩ := trodAll_nil r2
 obtain rfl : args = #[v0, v1, v2] := by cases args; simp_all
 obtain ⟨rfl, rfl⟩ := trodVars_none hV
 clear hA0
 have hv0 := hval 0 25 v0 rfl rfl
 have hv1 := hval 1 40 v1 rfl rfl
 have hv2 := hval 2 26 v2 rfl rfl
 obtain ⟨l, hrl, hl⟩ := open_dids hv2 h2
 obtain ⟨cl, hrc⟩ := open_clss hv1 h1
 have hbl := bulk_len Try.underlying26 h2 hrl
 have hbk : Rows.uptoBulkAll [d0, d1, d2] ≤ 1048576 := by simpa [Rows.uptoSmall] using hk
 have hbp := bulk_part (d := d2) (l := [d0, d1, d2]) (by simp)
 have hn : (l.length : Int) * 4096 ≤ 140737488355328 := by omega
 obtain ⟨u0, u4, mem, shared, locks, buffer, cs, rfl, hr0, hr4, hw⟩ := open_obj hv0 h0
 have hregs : RegsOk ([⟨u0, inW W⟩, ⟨u4, inW W⟩, ⟨v2, inW W⟩, ⟨v1, inW W⟩] : Env) (Base.at_ [IntRow mem, Cor.rowR cs, Did.rowR l, Cls.rowR cl] [⟨u0, inW W⟩, ⟨u4, inW W⟩, ⟨v2, inW W⟩, ⟨v1, inW W⟩] W).M (Base.at_ [IntRow mem, Cor.rowR cs, Did.rowR l, Cls.rowR cl] [⟨u0, inW W⟩, ⟨u4, inW W⟩, ⟨v2, inW W⟩, ⟨v1, inW W⟩] W).L W [IntRow mem, Cor.rowR cs, Did.rowR l, Cls.rowR cl] := by
  refine rows_ok rfl rfl (fun i hi => ?_) (fun i r hi => ?_)
  ·match i, hi with
   | 0, _ => rfl
   | 1, _ => rfl
   | 2, _ => rfl
   | 3, _ => rfl
   | i + 4, hi => exact absurd hi (by simp)
  ·match i, hi with
   | 0, hi => cases hi; exact row_ok hr0
   | 1, hi => cases hi; exact row_ok hr4
   | 2, hi => cases hi; exact row_ok hrl
   | 3, hi => cases hi; exact row_ok hrc
   | i + 4, hi => simp at hi
 refine ((c_lawHands mem shared locks buffer cs l cl hw hl hn) [⟨u0, inW W⟩, ⟨u4, inW W⟩, ⟨v2, inW W⟩, ⟨v1, inW W⟩] W hregs).mono fun e W' hret => ?_
 obtain ⟨res, post, ε', ⟨rfl, _⟩, rfl, _, _, hfr⟩ := hret
 have hb : Below W.heap.size W W' := ⟨hfr.os, hfr.tape, hfr.output, hfr.size, fun k hk => hfr.block k hk (fun ⟨i, r, hi, he, _⟩ => by
  match i, hi with
  | 0, hi => cases hi; cases he
  | 1, hi => cases hi; cases he
  | 2, hi => cases hi; cases he
  | 3, hi => cases hi; cases he
  | i + 4, hi => simp at hi)⟩
 refine ⟨_, rfl, _, _, _, [], p0 ++ (p1 ++ (p2 ++ [])), [], hW', ?_, ?_, ?_, hb.frame _, fun h => by cases h⟩
 ·rw [results]
  exact trodAll_cons_mk (shut_bool Try.underlying4 _) trodAll_mk0
 ·rw [Try.params4]
  exact (trodAll_cons_mk (WideElems.Trod_stays laidT (by kernel_rfl) (of_decide_eq_true (by kernel_rfl)) h0 (fun p hp => hb.same (hlt p (by simp [hp]))) (fun p hp => by simpa using hlt p (by simp [hp]))) (trodAll_cons_mk (WideElems.Trod_stays laidT (by kernel_rfl) (of_decide_eq_true (by kernel_rfl)) h1 (fun p hp => hb.same (hlt p (by simp [hp]))) (fun p hp => by simpa using hlt p (by simp [hp]))) (trodAll_cons_mk (WideElems.Trod_stays laidT (by kernel_rfl) (of_decide_eq_true (by kernel_rfl)) h2 (fun p hp => hb.same (hlt p (by simp [hp]))) (fun p hp => by simpa using hlt p (by simp [hp]))) trodAll_mk0)))
 ·rfl
set_option maxRecDepth 100000 in
theorem lifted (os : Os) (started : os.Started) (H : Type) (enc : TypeId × Value → H) (F : Stop.Interp) :
 ReturnsInHanded {} Try.checked os 4 .any ((Rows.OpenSpec.upto Rows.monitorHandsSpec).pre6 enc Try.prog Try.f4 Rows.monitorHandsUptoRow.domain false) (((Rows.OpenSpec.upto Rows.monitorHandsSpec).at F).post enc Try.prog Try.f4 false true false false) := by
 refine returnsInHanded_of_cond (C := Try.checked) (s := Rows.OpenSpec.upto Rows.monitorHandsSpec) (k := Rows.uptoSmall) rfl own started (by kernel_rfl) Try.func4
  (OpenSpec.witness (enc := enc) (C := Try.checked) (s := Rows.OpenSpec.upto Rows.monitorHandsSpec) (k := Rows.uptoSmall) rfl false ⟨#[], #[.agg #[.slice none 0 0, .int .i64 0, .int .i64 0, .int .i64 0, .slice none 0 0], .slice none 0 0, .slice none 0 0], []⟩ 8 (by kernel_rfl) (by kernel_rfl) (by kernel_rfl)
    (x := ([.agg [.nil, .lit (.int .i64 0), .lit (.int .i64 0), .lit (.int .i64 0), .nil], .nil, .nil], [], [])) (by kernel_rfl) rfl (by kernel_rfl)) ?_
 intro W base args ds gs before hval hW _ hk _
 exact contract H enc W base args ds gs before hval hW hk
theorem proved : Rows.MonitorHandsUptoSaid :=
 OpenClaim.holds_of_cond 4 Try.f4 rfl rfl rfl rfl rfl rfl rfl ⟨rfl, rfl, rfl, rfl, rfl⟩ rfl rfl rfl rfl rfl (by kernel_rfl) Try.func4 (by kernel_rfl)
  (of_decide_eq_true (by kernel_rfl)) (by unfold Func.isWrapper; first | (rw [if_pos (by decide +kernel)]; kernel_rfl) | (rw [if_neg (by decide +kernel)]; exact ⟨rfl, rfl⟩))
  (fun os started H enc _ F => lifted os started H enc F)
end Go.Proofs.Ytlblobbklioofaa.lawMonitorHands
