/-
  Every Order and Follow of the program is the reference's. Text 1 of 8: TxK TxA TxB TxL TxC.
-/
import Derived.Maps.Own
import Derived.Maps.Range
import Derived.WalkKit
import Derived.WalkSpells
import Derived.Maps.AppendAt
import Derived.Deep.Quiet
import Derived.KernelRfl
set_option linter.unusedVariables false
set_option linter.unusedSimpArgs false
namespace Go.Tx
theorem W0{p:Prop}(h:p:=by (try simp only [Conj])<;>(repeat' apply And.intro)<;>first | done | trivial | rfl | (intros;first | rfl | trivial) | exact Y6 _ _ | exact List.length_set | exact Qx _ _ _ | exact J1 _ _ _ _ _ | (exact J2 _ _ _ (by first | omega | (have h0:=Jy (by simpa using h1);have hm:=Jw h0.1;have hs:=Q1j h0.1;omega))) | exact MpEq.put (by omega) | (refine MpEq.mk' (by omega) ?_ ?_<;>intro q<;>first | rfl | (dsimp only;split<;>simp_all)) | (exact MpEq.mkIt (by omega) (fun _=>rfl) (fun _=>rfl) rfl rfl (fun _=>rfl)) | (intro i h1 h2;rw [Zh h1 h2]) | (rw [Yc];rfl)):p:=h
theorem W1{p:Prop}(h:p:=by first | assumption | exact Qmu hQ (Qr h1) | exact Q9d hQ hw (Qr h1) (by omega) | exact Qmv hQ hw (Qr h1) | exact Qmw hQ hw (Qr h1) | exact Qc9 hQ hw (Qr h1) (by omega) | exact Q9e hQ hw (Qr h1) (by omega)):p:=h
theorem W2{p:Prop}(h:p:=by simp only [Conj,Fits,Q9,Qa,Qf,Qg,News.len,maxLen]<;>(repeat' (first | apply And.intro | intro _))<;>first | grind | (simp only [BL] at *;omega)):p:=h
theorem W3{p:Prop}(h:p:=by first | assumption | exact Qfk (Zk hB).1 | exact (Q2p (Zk hB).1).1 | exact Nat.le_refl _ | exact Nat.zero_le _ | exact (Q3g hw hB hF).1 | exact (Q3g hw hB hF).2.2 | exact Qha hw hB hF | omega):p:=h
theorem W4{p:Prop}(h:p:=by first | assumption | exact hs | exact hl | exact hg | exact hw | exact Qfk (Zk hB).1 | exact (Q2p (Zk hB).1).1 | exact Nat.le_refl _ | exact Nat.zero_le _ | exact (Q3g hw hB hF).1 | exact (Q3g hw hB hF).2.2 | exact Qha hw hB hF | exact Nat.le_trans (Q3g hw hB hF).2.1 (Q3g hw hB hF).2.2 | (simp;done) | omega):p:=h
theorem W5{p:Prop}(h:p:=by simp only [Conj,Fits,Q9,Qa,Qf,Qg,News.len,maxLen]<;>(repeat' (first | apply And.intro | intro _))<;>first | rfl | (have z:=Qr h1;have q:=hQ.at_t z.1 z.2.1;have q1:=hQ.gl;have q2:=hQ.sn;simp only [BL] at *;omega) | grind | (simp only [BL] at *;omega)):p:=h
theorem W6{p:Prop}(h:p:=by simp only [Conj,Fits,Q9,Qa,Qf,Qg,News.len,maxLen]<;>(repeat' (first | apply And.intro | intro _))<;>first | rfl | exact i64T.flat _ _ (by assumption) | grind | (have q:=of_decide_eq_true h2;have a1:=hJ1.at_ q;have a2:=hJ1.most;have a3:=hJ1.len;have a4:=hJ1.k0;have a5:=hJ1.kn;have a6:=hJ1.short q;have a7:=hJ1.fl;(try (have a8:nw0.length≤4096:=(by rw [hCC98A];omega)));(try simp only [maxLen] at *);simp only [BL] at *;omega) | (have a2:=hJ3.most;have a3:=hJ3.len;have a4:=hJ3.i0;have a5:=hJ3.il;have a7:=Qjy (g.nodes.getD (x1_5.getD x1_0.toNat 0).toNat default);have a8:=hJ3.fl;have q:=of_decide_eq_true h4;have a1:=hJ3.to_ q (hq _ (by have q:=hJ1.at_ (of_decide_eq_true h2);omega));(try simp only [maxLen] at *);simp only [BL] at *;omega) | (simp only [BL] at *;omega)):p:=h
theorem W7{p:Prop}(h:p:=by (try simp only [Conj])<;>(repeat' apply And.intro)<;>first | done | trivial | rfl | (intros;first | rfl | trivial) | exact Y6 _ _ | exact List.length_set | exact Qx _ _ _ | exact List.length_replicate | (intro i q;exact Qc1 _ _ rfl i (by simpa using q)) | (intro i q;exact Qed _ _ _ i q) | exact MpEq.put (D:=fun _=>none) (Nat.le_refl _) | exact MpEq.put (Nat.le_refl _) | (intro i q1 q2;simp at q1;omega) | exact J1 _ _ _ _ _ | (exact J2 _ _ _ (by first | omega | (have h0:=Jy (by simpa using h1);have hm:=Jw h0.1;have hs:=Q1j h0.1;omega))) | exact MpEq.put (by omega) | (refine MpEq.mk' (by omega) ?_ ?_<;>intro q<;>first | rfl | (dsimp only;split<;>simp_all)) | (exact MpEq.mkIt (by omega) (fun _=>rfl) (fun _=>rfl) rfl rfl (fun _=>rfl)) | (intro i h1 h2;rw [Zh h1 h2]) | (rw [Yc];rfl)):p:=h
theorem W8{p:Prop}(h:p:=by simp only [Conj,Fits,Q9,Qa,Qf,Qg,News.len,maxLen]<;>(repeat' (first | apply And.intro | intro _))<;>first | exact Qfs | rfl | grind | (have q:=of_decide_eq_true h2;have a1:=hJ1.at_ q;have a2:=hJ1.most;have a3:=hJ1.len;have a4:=hJ1.k0;have a5:=hJ1.kn;have a6:=hJ1.short q;(try simp only [maxLen] at *);simp only [BL] at *;omega) | (have a2:=hJ3.most;have a3:=hJ3.len;have a4:=hJ3.i0;have a5:=hJ3.il;have a7:=Qja (g.nodes.getD (x1_6.getD x1_0.toNat 0).toNat default);have a6:=hJ3.cnt;have q:=of_decide_eq_true h4;have a1:=hJ3.to_ q (hq _ (by have q:=hJ1.at_ (of_decide_eq_true h2);omega));(try simp only [maxLen] at *);simp only [BL] at *;omega) | (simp only [BL] at *;omega)):p:=h
theorem W9{p:Prop}(h:p:=by simp only [Conj,Fits,Q9,Qa,Qf,Qg,News.len,maxLen]<;>(repeat' (first | apply And.intro | intro _))<;>first | rfl | (have z:=Qr (Ym hz);have q:=hQ.at_t z.1 z.2.1;have q1:=hQ.gl;have q2:=hQ.sn;first | omega | (have k0:=Qc9 hQ hw z (by omega);omega) | (have k0:=Q9e hQ hw z (by omega);omega) | (have k0:=Q9d hQ hw z (by omega);omega) | (simp only [BL] at *;first | omega | (have k0:=Qc9 hQ hw z (by omega);omega) | (have k0:=Q9e hQ hw z (by omega);omega) | (have k0:=Q9d hQ hw z (by omega);omega))) | grind | (simp only [BL] at *;omega)):p:=h
theorem W10{p:Prop}(h:p:=by first | assumption | exact hJ3.q | exact (Q0k (Zw (m:=(Mch.mk pos sl mem ho pr)) hQ h1)).1 | exact (Qr h5).1 | exact (Qr h5).2.1 | (simpa using h5) | (have z:=hJ3.pr;have z2:=hJ3.hi;have z3:=(Q0k (Zw (m:=(Mch.mk pos sl mem ho pr)) hQ h1)).2.2.2.2;dsimp only at z;omega)):p:=h
theorem W11{p:Prop}(h:p:=by simp only [Conj];(repeat' apply And.intro)<;>first | trivial | rfl | (intros;rfl) | (intros;trivial) | (have hp:=Q8n (i:=x1_0) hs (Q20 hr (i:=x1_0) (by omega) (by simpa using h2));simp only [BL] at *;first | grind | omega) | (simp only [evOf,thD,noEv,onK,drW,swW,addrB,BL] at *;grind)):p:=h
theorem W12{p:Prop}(h:p:=by simp only [Conj];(repeat' apply And.intro)<;>first | trivial | rfl | (intros;rfl) | (exact Eq.symm (by assumption)) | grind):p:=h
theorem W13{p:Prop}(h:p:=by first | assumption | exact hJ1.q | exact hJ1.st | (have z:=hJ1.pr;have z2:=hJ1.st;dsimp only at z z2;omega)):p:=h
theorem W14{p:Prop}(h:p:=by simp only [Conj,Fits,Q9,Qa,Qf,Qg];(repeat' (first | apply And.intro | intro _))<;>first | grind | (simp only [BL] at *;omega)):p:=h
theorem W15{p:Prop}(h:p:=by simp only [Conj];(repeat' apply And.intro)<;>first | trivial | rfl | exact List.length_set | exact Qx _ _ _ | exact Zj _ _ _ _ _ | exact Y6 _ _ | (intro j hj;exact Qlx (by first | exact Qhm h2 | exact Qhn h2) hj) | (intro j hj;exact Y5 _ _ _ _ j hj) | (intro j hj;exact Qx _ _ _ j hj) | (intro j hj;exact Qeq (by first | exact if_pos (of_decide_eq_true h10) | exact if_neg (of_decide_eq_false h10)) hj) | (intro j hj;first | exact Zj _ _ _ _ _ j hj | (rw [Zj _ _ _ _ _ j hj];rfl)) | (intros;rfl) | grind):p:=h
theorem W16{p:Prop}(h:p:=by first | assumption | exact hs | exact hl | (rw [show x2_1=thrL gs from (by rw [hJ2.2.2,List.take_of_length_le (by have q:=of_decide_eq_false h3;omega)])];exact Qk2 hg) | exact Qh1 (hJ8.done (of_decide_eq_false h9)) (fun j=>(hw _ j).1) | exact (Q2o h7).2 | (have z:=Q0j h1;have a1:=@Q7f true sh [];have a2:=@Q7f false lk ((namR true sh []).getD []);simp only [List.length_nil] at *;first | omega | (rw [show x2_1=thrL gs from (by rw [hJ2.2.2,List.take_of_length_le (by have q:=of_decide_eq_false h3;omega)])];unfold thrL;rw [List.length_map];omega))):p:=h
theorem W17{p:Prop}(h:p:=by have hx:=of_decide_eq_true h2;refine ⟨by omega,by omega,?_⟩;first | (rw [Qcw hJ1.1 (by first | exact Qg2 hs3 (by decide) h4 | exact Q0s (.inl hs3) | exact Q0s (.inr (.inl hs3)) | exact Q0s (.inr (.inr hs3)) | exact Qbb hs3)];exact hJ1.2.2) | (rw [Q7g hJ1.1 (by first | exact Qg2 hs3 (by decide) h4 | exact Q0s (.inl hs3) | exact Q0s (.inr (.inl hs3)) | exact Q0s (.inr (.inr hs3)) | exact Qbb hs3),List.length_append,← hJ1.2.2];rfl)):p:=h
theorem W18{p:Prop}(h:p:=by simp only [Conj,Fits,Q9,Qa,Qf,Qg,News.len,maxLen]<;>(repeat' (first | apply And.intro | intro _))<;>first | grind | (have hx:=of_decide_eq_true h2;have hq1:=hq x1_0.toNat (by omega);omega) | (simp only [BL] at *;omega)):p:=h
theorem W19{p:Prop}(h:p:=by first | assumption | exact (Qr (Ym hz)).1 | exact (Qr (Ym hz)).2.1 | exact Qmu hQ (Qr (Ym hz)) | exact Qmv hQ hw (Qr (Ym hz)) | exact Qmw hQ hw (Qr (Ym hz)) | omega):p:=h
theorem W20{p:Prop}(h:p:=by simp only [Conj];(repeat' apply And.intro)<;>first | trivial | rfl | (intros;rfl) | (simp only [didB,addrB,hk,BL] at *;first | grind | (simp;omega) | (apply Bool.eq_iff_iff.2;simp;omega))):p:=h
theorem W21{p:Prop}(h:p:=by (first | rw [Qc8 h1] | rw [Yd h1 (Qfc hs2)] | rw [Yd h1 (Qfd hs2)] | rw [Yd h1 (Qfe hs2)] | rw [Yd h1 (Qff hs2)] | rw [Yd h1 (Qfg hs2)] | rw [Yd h1 (Qfh hs2)] | rw [Yd h1 (Qfi hs2)] | rw [Yd h1 (Qfj hs2)]);simp only [Conj];(repeat' apply And.intro)<;>first | trivial | rfl | exact List.length_set | exact Qx _ _ _ | (intros;rfl) | (intro j hj;exact Qx _ _ _ j hj) | grind):p:=h
theorem W22{p:Prop}(h:p:=by simp only [Conj];first | grind | (have he:=Za (rightP l) (i:=x1_0) (n:=l.length) (by grind);grind) | (have hp:rightP l x1_0=false:=(by simp only [rightP,didAt];first | grind | (cases hd:didB (l.getD x1_0.toNat default) with | false=>rfl | true=>exact absurd (Gt hd) (by omega)));have hs:=G9 (rightP l) (n:=l.length) (by grind) hp;grind)):p:=h
theorem W23{p:Prop}(h:p:=by simp only [Conj,Fits,Q9,Qa,Qf,Qg,News.len,maxLen]<;>(repeat' (first | apply And.intro | intro _))<;>first | (have z2:=hcb.1;omega) | (have q:=of_decide_eq_true h3;have z1:=hJ2.1;have z2:=hcb.2 x2_0.toNat (by omega);have z3:=z2.loc;have z4:x2_1.length≤8:=(by rw [hJ2.2.2.2.1,List.length_take];have:=hcb.1;omega);have z5:x2_2.length≤8:=(by rw [hJ2.2.2.2.2.1,List.length_map,List.length_take];have:=hcb.1;omega);omega) | (have q:=of_decide_eq_true h5;have z1:=hJ4.1;have z2:=hcb.1;have z5:x4_3.length≤64:=(by rw [hJ4.2.2.2.2.2,List.length_map,List.length_take];omega);omega) | (have q:=of_decide_eq_true h7;have z1:=hJ6.1;have z2:=hcb.1;omega) | grind | (simp only [BL] at *;omega)):p:=h
theorem W24{p:Prop}(h:p:=by first | rfl | (have z:=Q7e (l:=nw0++[(g.nodes.getD (x1_5.getD x1_0.toNat 0).toNat default).thing]) hTabX9 (by simp) (fun i hi=>Qhr hi);exact ⟨hInX9,z.1,by rw [z.2,hCC98A.symm];exact Qa3 h3⟩) | (have z:=Q7e (l:=List.take (((nw0.length:Int)-(1:Int)).toNat-0) (List.drop 0 nw0)) hTabX9 (by rw [List.length_take,List.drop_zero];omega) (fun i hi=>Qhs hi);exact ⟨hInX9,z.1,by rw [z.2,hCC98A.symm];exact Qc4 h3 h4 h5⟩) | (have z:=Q7e (l:=nw0) hTabX9 rfl (fun i hi=>rfl);exact ⟨hInX9,z.1,by rw [z.2,hCC98A.symm];first | exact Q1y h3 h4 (fun q=>by have q1:=of_decide_eq_false h6;have q2:=q.2;omega) | exact Q1y h3 h4 (fun q=>(of_decide_eq_false h5) q.1)⟩)):p:=h
theorem W25{p:Prop}(h:p:=by (try simp only [Conj])<;>(repeat' apply And.intro)<;>first | done | trivial | rfl | (intros;first | rfl | trivial) | exact Y6 _ _ | exact List.length_set | exact Qx _ _ _ | exact List.length_replicate | (intro i q;exact Qc1 _ _ rfl i (by simpa using q)) | (intro i q;exact Qed _ _ _ i q) | (intro i q;exact Qht _ _ _ i q) | (intro i q;exact Qm1 i q) | (intro i q;exact Qjz i) | (simp;done) | (intro i q1 q2;simp at q1;omega) | exact J1 _ _ _ _ _ | (exact J2 _ _ _ (by first | omega | (have h0:=Jy (by simpa using h1);have hm:=Jw h0.1;have hs:=Q1j h0.1;omega))) | exact MpEq.put (by omega) | (refine MpEq.mk' (by omega) ?_ ?_<;>intro q<;>first | rfl | (dsimp only;split<;>simp_all)) | (exact MpEq.mkIt (by omega) (fun _=>rfl) (fun _=>rfl) rfl rfl (fun _=>rfl)) | (intro i h1 h2;rw [Zh h1 h2]) | (rw [Yc];rfl)):p:=h
theorem W26{p:Prop}(h:p:=by simp only [Conj];first | (rw [CJ.first (by rw [Q8l h1];rfl)];exact ⟨rfl,rfl,rfl⟩) | (rw [CJ.first (Qes h1 (by rw [hJ2.2.2,List.take_of_length_le (by have q:=of_decide_eq_false h3;omega)]) h4)];exact ⟨rfl,rfl,rfl⟩) | (rw [hJ5.bad (of_decide_eq_true h6) h7];exact ⟨rfl,rfl,rfl⟩) | (rw [hJ5.nods (of_decide_eq_true h6) h7 (hJ8.bad (of_decide_eq_true h9) (Qaj h10 (hw _ _)))];exact ⟨rfl,rfl,rfl⟩) | (rw [hJ5.held (of_decide_eq_true h6) h7 (hJ8.done (of_decide_eq_false h9)) h10];exact ⟨rfl,rfl,rfl⟩) | (rw [hJ5.done (of_decide_eq_false h6)];exact ⟨rfl,rfl,rfl⟩)):p:=h
theorem W27{p:Prop}(h:p:=by first | assumption | omega):p:=h
theorem W28{p:Prop}(h:p:=by simp only [Conj,chkE,chkI,chkK];first | grind | (have he:=Zi (rowB mem cs) (i:=x2_0) (n:=cs.length) (by grind);grind) | (have hp:insOk mem cs x2_0 x4_0=false:=(by simp only [insOk,corAt,insAt];grind);have hs:=Zu (insOk mem cs x2_0) (n:=((cs.getD x2_0.toNat default).code.length:Int)) (by grind) hp;have hq:rowB mem cs x2_0=false:=(by simp only [rowB,corAt];grind);have hs2:=Zu (rowB mem cs) (n:=cs.length) (by grind) hq;have hb:badI mem cs=x2_0:=(by grind);rw [hb];simp only [corAt];grind)):p:=h
theorem W29{p:Prop}(h:p:=by simp only [Conj,Fits,Q9,Qa,Qf,Qg,News.len,maxLen]<;>(repeat' (first | apply And.intro | intro _))<;>first | rfl | (have q:=of_decide_eq_true h3;have z1:=hJ2.1;have z2:=hcb.2 x2_0.toNat (by omega);have z3:=z2.loc;have z4:x2_1.length≤8:=(by rw [hJ2.2.2.1,List.length_replicate];omega);have z5:x2_2.length≤8:=(by rw [hJ2.2.2.2,List.length_map,List.length_take];omega);(try simp only [maxLen] at *);omega) | (have q:=of_decide_eq_true h5;have z1:=hJ4.1;have z5:x4_1.length≤64:=(by rw [hJ4.2.2,List.length_map,List.length_take];omega);(try simp only [maxLen] at *);omega) | (have q:=of_decide_eq_true h7;have z1:=hJ6.1;have z5:x6_1.length≤16:=(by rw [hJ6.2.2,List.length_replicate];omega);(try simp only [maxLen] at *);omega) | grind | (simp only [BL] at *;omega)):p:=h
theorem W30{p:Prop}(h:p:=by simp only [Conj,Fits,Q9,Qa,Qf,Qg,News.len,maxLen]<;>(repeat' (first | apply And.intro | intro _))<;>first | rfl | grind | (have z:=Q0j h1;have z2:x2_1.length≤8:=(by rw [hJ2.2.2];unfold thrL;rw [List.length_map,List.length_take];omega);have q0:=hJ2.1;simp only [BL] at *;omega) | (have q0:=hJ5.t0;have q1:=of_decide_eq_true h6;simp only [BL] at *;omega) | (have q0:=hJ8.i0;have q1:=of_decide_eq_true h9;have q2:=(Q2o h7).2;simp only [BL] at *;omega) | (simp only [BL] at *;omega)):p:=h
theorem W31{p:Prop}(h:p:=by simp only [Conj,Fits,Q9,Qa,Qf,Qg,News.len,maxLen];(repeat' (first | apply And.intro | intro _))<;>first | grind | (simp only [BL] at *;omega)):p:=h
theorem W32{p:Prop}(h:p:=by first | assumption | exact hJ3.q | (have z:=hJ3.pr;have z2:=hJ3.hi;have z3:=(Q0k (m:=Mch.mk pos sl mem ho pr) h1).2.2.2.2;dsimp only at z;omega)):p:=h
theorem W33{p:Prop}(h:p:=by simp only [Conj,Fits,Q9,Qa,Qf,Qg,News.len,maxLen]<;>(repeat' (first | apply And.intro | intro _))<;>first | (exact i64T.flat _ _ (by assumption)) | (exact Prt.flat _ _ (by assumption)) | (have q0:=hQ.gl;have q1:=hQ.sn;have q2:=hQ.mn;have q3:=hQ.hn;(try simp only [maxLen] at *);omega) | (have z:=hJ1.1;have q:=of_decide_eq_true h2;have q0:=hQ.sn;have q1:=hQ.sw x1_0.toNat (by omega);have q2:=(hQ.g x1_0.toNat (by omega)).loc;omega) | (have q0:=hQ.sn;have z4:x1_1.length≤8:=(by rw [hJ1.2.2,List.length_take];omega);omega) | grind | (simp only [BL] at *;omega)):p:=h
theorem W34{p:Prop}(h:p:=by simp only [Conj];first | (have e:twoB k=true:=(by simpa using h1);subst hs2;exact ⟨(if_pos e).trans rfl,(if_pos e).trans rfl⟩) | (simp only [BL] at h1;simp [h1];done)):p:=h
theorem W35{p:Prop}(h:p:=by simp only [Conj,Fits,Q9,Qa,Qf,Qg,News.len,maxLen]<;>(repeat' (first | apply And.intro | intro _))<;>first | (have z:=Q0k (m:=Mch.mk pos sl mem ho pr) h1;dsimp only at z;have q0:=hQ.gl;have q:=hJ3.q.gl;have q2:=hJ3.q.at_t z.1 (by dsimp only at q q0 ⊢;omega);have q3:=hJ3.lo;have q4:=hJ3.hi;dsimp only at q q0 q2;omega) | grind | (simp only [BL] at *;omega)):p:=h
theorem W36{p:Prop}(h:p:=by simp only [Conj,Fits,Q9,Qa,Qf,Qg,News.len,maxLen]<;>(repeat' (first | apply And.intro | intro _))<;>first | (have z:=hJ1.lo;have q:=of_decide_eq_true h2;omega) | grind | (simp only [BL] at *;omega)):p:=h
theorem W37{p:Prop}(h:p:=by omega):p:=h
theorem W38{p:Prop}(h:p:=by simp only [Conj];first | (have c1:(!decide (evE mem s9 l9 bu cs l=0))=false:=(by simp at h1 ⊢;exact h1.1);have c2:(!decide ((cl.length:Int)=s9))=true:=(by simp at h1 ⊢;exact h1.2);exact ⟨by rw [Qcz c1 c2];rfl,Q7i c1 c2⟩) | exact ⟨by rw [Qcy h2];rfl,Q7h h2⟩ | (have e:x3_0.toNat=(evL mem s9 l9 bu cs l).length:=(by have q:=of_decide_eq_false h4;have z:=hJ3.2.1;omega);have q:=hJ3.2.2;rw [e] at q;subst q;rw [Q9j h2 (show (!decide ((cl.length:Int)=s9))=false by simp at h1 h2 ⊢;exact h1 h2),Qet h2 (show (!decide ((cl.length:Int)=s9))=false by simp at h1 h2 ⊢;exact h1 h2)];(repeat' apply And.intro)<;>first | rfl | (intros;rfl))):p:=h
theorem W39{p:Prop}(h:p:=by simp only [Conj];(repeat' apply And.intro)<;>first | trivial | rfl | exact List.length_set | exact Qx _ _ _ | exact Zj _ _ _ _ _ | exact Y6 _ _ | (intro j hj;exact Y5 _ _ _ _ j hj) | (intro j hj;first | exact Zj _ _ _ _ _ j hj | (rw [Zj _ _ _ _ _ j hj];rfl)) | (intros;rfl) | grind):p:=h
theorem W40{p:Prop}(h:p:=by simp only [Conj];first | exact Q8l h1 | (rw [Q0i h1,hJ2.2.2.2];exact Qj3 (by have q:=of_decide_eq_true h3;omega) h4) | (rw [Q0i h1,hJ4.2.2.2];exact Qj5 (by have q:=of_decide_eq_true h5;omega) h6) | (rw [Q0i h1,hJ6.2.2.2];exact Qj7 (by have q:=of_decide_eq_true h7;omega) h8) | (rw [Q0i h1,hJ6.2.2.2,List.drop_eq_nil_of_le (by have q:=of_decide_eq_false h7;omega)];rfl)):p:=h
theorem W41{p:Prop}(h:p:=by simp only [Conj,Fits,Q9,Qa,Qf,Qg,News.len,maxLen]<;>(repeat' (first | apply And.intro | intro _))<;>first | (exact i64T.flat _ _ (by assumption)) | (exact Prt.flat _ _ (by assumption)) | (have q0:=hQ.gl;have q1:=hQ.sn;have q2:=hQ.mn;have q3:=hQ.hn;dsimp only at q0 q1 q2 q3;omega) | (have z:=hJ1.1;have q:=of_decide_eq_true h2;have q0:=hQ.sn;have q1:=hQ.sw x1_0.toNat (by dsimp only at q0;omega);have q2:=(hQ.g x1_0.toNat (by dsimp only at q0;omega)).loc;dsimp only at q1;omega) | (have q0:=hQ.sn;dsimp only at q0;have z4:x1_1.length≤8:=(by rw [hJ1.2.2,List.length_take];omega);omega) | grind | (simp only [BL] at *;omega)):p:=h
theorem W42{p:Prop}(h:p:=by simp only [Conj,Fits,Q9,Qa,Qf,Qg,News.len,maxLen]<;>(repeat' (first | apply And.intro | intro _))<;>first | rfl | (have z1:=Q1k (ns:=sh.length) (gs:=gs) (cl:=cl) (t:=t) (most:=most) (m:=Mch.mk pos sl mem ho pr);have z2:=Jz hsel;omega) | (have z1:=Q1k (ns:=sh.length) (gs:=gs) (cl:=cl) (t:=t) (most:=most) (m:=Mch.mk pos sl mem ho pr);have z2:=Jz hsel;have q:=of_decide_eq_false h2;have q2:=of_decide_eq_true h4;have q3:=hJ3.1;have q4:=congrArg List.length hJ3.2.2;rw [List.length_append,List.length_replicate] at q4;(try simp only [maxLen] at *);omega) | grind | (simp only [BL] at *;omega)):p:=h
theorem W43{p:Prop}(h:p:=by simp only [Conj,evOf,noEv];(repeat' apply And.intro)<;>first | trivial | grind):p:=h
theorem W44{p:Prop}(h:p:=by simp only [Conj];first | (rw [CJ.first h1];exact ⟨rfl,rfl,rfl⟩) | (rw [hJ2.bad (of_decide_eq_true h3) h4];exact ⟨rfl,rfl,rfl⟩) | (rw [hJ2.nods (of_decide_eq_true h3) h4 (hJ5.bad (of_decide_eq_true h6) h7)];exact ⟨rfl,rfl,rfl⟩) | (rw [hJ2.held (of_decide_eq_true h3) h4 (hJ5.done (of_decide_eq_false h6)) h7];exact ⟨rfl,rfl,rfl⟩) | (rw [hJ2.done (of_decide_eq_false h3)];exact ⟨rfl,rfl,rfl⟩)):p:=h
theorem W45{p:Prop}(h:p:=by (try simp only [Conj])<;>(repeat' apply And.intro)<;>first | done | trivial | rfl | (intros;first | rfl | trivial) | exact Y6 _ _ | exact List.length_set | exact Qx _ _ _ | (intro i q;exact Y5 _ _ _ _ i q) | exact J1 _ _ _ _ _ | (exact J2 _ _ _ (by first | omega | (have h0:=Jy (by simpa using h1);have hm:=Jw h0.1;have hs:=Q1j h0.1;omega))) | exact MpEq.put (by omega) | (refine MpEq.mk' (by omega) ?_ ?_<;>intro q<;>first | rfl | (dsimp only;split<;>simp_all)) | (exact MpEq.mkIt (by omega) (fun _=>rfl) (fun _=>rfl) rfl rfl (fun _=>rfl)) | (intro i h1 h2;rw [Zh h1 h2]) | (rw [Yc];rfl)):p:=h
theorem W46{p:Prop}(h:p:=by simp only [Conj,Fits,Q9,Qa,Qf,Qg,News.len,maxLen]<;>(repeat' (first | apply And.intro | intro _))<;>first | exact Qa8 | grind | (have hm:=Q0j h1;simp only [BL] at *;omega) | (simp only [BL] at *;omega)):p:=h
theorem W47{p:Prop}(h:p:=by simp only [Conj,Fits,Q9,Qa,Qf,Qg,News.len,maxLen]<;>(repeat' (first | apply And.intro | intro _))<;>first | rfl | grind | (have q0:=hJ2.t0;have q1:=of_decide_eq_true h3;simp only [BL] at *;omega) | (have q0:=hJ5.i0;have q1:=of_decide_eq_true h6;have q2:=(Q2o h4).2;simp only [BL] at *;omega) | (simp only [BL] at *;omega)):p:=h
theorem W48{p:Prop}(h:p:=by simp only [Conj,Fits,Q9,Qa,Qf,Qg,News.len,maxLen]<;>(repeat' (first | apply And.intro | intro _))<;>first | grind | (have q1:=hJ1.2.2.1;simp only [BL] at *;omega) | (simp only [BL] at *;omega)):p:=h
theorem W49{p:Prop}(h:p:=by simp only [Conj,Fits,Q9,Qa,Qf,Qg,News.len,maxLen]<;>(repeat' (first | apply And.intro | intro _))<;>first | (intros;exact i64T.flat _ _ (by assumption)) | (have z1:=Q1k (ns:=sh.length) (gs:=gs) (cl:=cl) (t:=t) (most:=most) (m:=Mch.mk pos sl mem ho pr);have z2:=Jz hsel;simp only [List.length_replicate];omega) | (have z1:=Q1k (ns:=sh.length) (gs:=gs) (cl:=cl) (t:=t) (most:=most) (m:=Mch.mk pos sl mem ho pr);have z2:=Jz hsel;omega) | grind | (simp only [BL] at *;omega)):p:=h
theorem W50{p:Prop}(h:p:=by simp only [Conj];first | (simp only [evE,evL] at *;grind) | (have e:evL mem s9 l9 bu cs l=x3_0:=(by rw [hJ3,R33_n,List.take_length,show evL mem s9 l9 bu cs l=evUp s9 l9 l l.length by (simp only [evL,evE];grind)]);rw [e];exact ⟨rfl,fun _ _=>rfl,by simp only [evE];grind⟩) | (have e:evL mem s9 l9 bu cs l=x3_0:=(by rw [hJ3,R33_n,List.take_length,show evL mem s9 l9 bu cs l=evUp s9 l9 l l.length by (simp only [evL,evE];grind)]);rw [e];simp only [evE];grind)):p:=h
theorem W51{p:Prop}(h:p:=by first | exact kUw | exact kSn | exact kLn | exact kGn | exact kF0 | exact Qnm | exact Qnn | decide):p:=h
theorem W52{p:Prop}(h:p:=by simp only [Conj,Fits,Q9,Qa,Qf,Qg,News.len,maxLen]<;>(repeat' (first | apply And.intro | intro _))<;>first | rfl | (have z:=hJ3.1;have z1:=Q5b cl (evL mem s9 l9 bu cs l) x3_0.toNat;have z2:=(Qg3 (cl:=cl) h2 (show (!decide ((cl.length:Int)=s9))=false by simp at h1 h2 ⊢;exact h1 h2)).2;have z3:=of_decide_eq_true h4;have z4:=congrArg List.length hJ3.2.2;(try simp only [maxLen] at *);omega) | grind | (simp only [BL] at *;omega)):p:=h
theorem W53{p:Prop}(h:p:=by simp only [Conj]<;>(repeat' apply And.intro)<;>first | rfl | trivial | (intros;trivial) | (exact Q0h (0:Int) (fun n=>[.val (.int .i64 n)]) _ _ _ (by kernel_rfl)) | (intro i h1 h2;exact absurd h1 (by simp;omega)) | (intros;rfl)):p:=h
theorem W54{p:Prop}(h:p:=by simp only [Conj];first | exact Q5k (by simp at h1;omega) | exact Q3j hJ2.2.2.1 hJ2.2.2.2 h3 | exact Q5l (by show ¬ (a.getD x2_0.toNat 0=b.getD x2_0.toNat 0);simpa only [Bool.not_eq_true',decide_eq_false_iff_not] using h4)):p:=h
theorem W55{p:Prop}(h:p:=by have hx:=of_decide_eq_true h2;rw [he];dsimp only;rw [hJ1.2.2,(Qcx hJ1.1 hx (by first | exact Qg2 hs3 (by decide) h4 | exact Q0s (.inl hs3) | exact Q0s (.inr (.inl hs3)) | exact Q0s (.inr (.inr hs3)) | exact Qbb hs3)).2]):p:=h
theorem W56{p:Prop}(h:p:=by first | assumption | exact Jz hsel | exact Q1k | exact rfl | omega):p:=h
theorem W57{p:Prop}(h:p:=by simp only [Conj,shapedB];first | grind | (have he:=Za (corB cs) (i:=x2_0) (n:=cs.length) (by grind);grind) | (have hp:corB cs x2_0=false:=(by rw [Qam cs x2_0 (by grind)];grind);have hs:=G9 (corB cs) (n:=cs.length) (by grind) hp;grind)):p:=h
theorem W58{p:Prop}(h:p:=by (try simp only [Conj])<;>(repeat' apply And.intro)<;>first | done | trivial | rfl | (intros;first | rfl | trivial) | exact Y6 _ _ | exact List.length_set | (intro i hi;funext j;first | exact (if_pos hi).symm | exact if_pos hi) | exact Qx _ _ _ | exact J1 _ _ _ _ _ | (exact J2 _ _ _ (by first | omega | (have h0:=Jy (by simpa using h1);have hm:=Jw h0.1;have hs:=Q1j h0.1;omega))) | exact MpEq.put (by omega) | (refine MpEq.mk' (by omega) ?_ ?_<;>intro q<;>first | rfl | (dsimp only;split<;>simp_all)) | (exact MpEq.mkIt (by omega) (fun _=>rfl) (fun _=>rfl) rfl rfl (fun _=>rfl)) | (intro i h1 h2;rw [Zh h1 h2]) | (rw [Yc];rfl)):p:=h
theorem W59{p:Prop}(h:p:=by first | assumption | exact hs | exact hl | exact hg | exact hw | omega):p:=h
theorem W60{p:Prop}(h:p:=by first | assumption | exact hs | exact hl | exact hg | exact hw | (have z:=hcb.1;omega) | (have q:=of_decide_eq_true h3;have z:=(hcb.2 x2_0.toNat (by have z1:=hJ2.1;omega)).len;omega)):p:=h
theorem W61{p:Prop}(h:p:=by have hp:rightP l x1_0=true:=(by simp only [rightP,didAt];grind);have hs:=G8 (rightP l) (n:=l.length) (by grind) hp;dsimp only [L57_0] at *;grind):p:=h
theorem W62{p:Prop}(h:p:=by have hx:=of_decide_eq_true h2;rw [hn,hJ1.2.2];exact (Qcx hJ1.1 hx (by first | exact Qg2 hs3 (by decide) h4 | exact Q0s (.inl hs3) | exact Q0s (.inr (.inl hs3)) | exact Q0s (.inr (.inr hs3)) | exact Qbb hs3)).1):p:=h
theorem W63{p:Prop}(h:p:=by simp only [Conj,Fits,Q9,Qa,Qf,Qg,News.len,maxLen]<;>(repeat' (first | apply And.intro | intro _))<;>first | rfl | (have q3:=hJ3.lo;have q4:=hJ3.hi;have z3:=(Q0k (Zw (m:=(Mch.mk pos sl mem ho pr)) hQ h1)).2.2.2.2;omega) | (have q3:=hJ3.lo;have q4:=hJ3.hi;have z3:=(Q0k (Zw (m:=(Mch.mk pos sl mem ho pr)) hQ h1)).2.2.2.2;simp only [BL] at *;omega) | grind | (simp only [BL] at *;omega)):p:=h
theorem W64{p:Prop}(h:p:=by simp only [Conj];(repeat' apply And.intro)<;>first | trivial | rfl | (intros;first | trivial | rfl) | exact Y6 _ _ | exact Y5 default Grf.tc _ _ | exact Y5 default Slt.tc _ _ | exact Y5 0 i64T _ _ | exact List.length_set | exact Qx _ _ _ | (intro i q;exact Y5 _ _ _ _ i q) | (intro i h1 h2;rw [Zh h1 h2]) | (rw [Yc];rfl) | (intro i q;exact Qx _ _ _ i q)):p:=h
theorem W65{p:Prop}(h:p:=by simp only [Conj];first | exact hJ1.fault (of_decide_eq_true h2) hCC98A (Qef h3 h4 h5) | exact hJ1.fault (of_decide_eq_true h2) hCC98A (Qc3 h3 h4 h5 h6) | exact hJ1.done (of_decide_eq_false h2) | exact hJ3.fault (of_decide_eq_true h4) (hq _ (by have q:=hJ1.at_ (of_decide_eq_true h2);omega)) h5 h6):p:=h
theorem W66{p:Prop}(h:p:=by simp only [Conj,insB,within,useD,useA,useAddr,useTo,twoB,opB] at *<;>grind):p:=h
theorem W67{p:Prop}(h:p:=by simp only [Conj,nameB,byteAt,Int.toNat_zero] at *<;>first | grind | (have hs:=Q3b s x2_0 hA (by grind);simp only [byteAt] at *;grind) | (have he:=Qgw s x2_0 (by grind);grind)):p:=h
theorem W68{p:Prop}(h:p:=by simp only [Conj];(try subst hs1);first | (simp [prtN, *];done) | (exact Qj1 hs1 h2) | (exact Qj2 hs1 h2)):p:=h
theorem W69{p:Prop}(h:p:=by simp only [Conj];first | exact hJ1.fault (of_decide_eq_true h2) (Qef h3 h4 h5) | exact hJ1.fault (of_decide_eq_true h2) (Qc3 h3 h4 h5 h6) | exact hJ1.done (of_decide_eq_false h2) | exact hJ3.fault (of_decide_eq_true h4) (hq _ (by have q:=hJ1.at_ (of_decide_eq_true h2);omega)) h5 h6):p:=h
theorem W70{p:Prop}(h:p:=by simp only [Conj,aSet];(first | rw [Qh2 h1] | rw [Qh3 h1 h2] | rw [Qmt h1 h2]);(repeat' apply And.intro)<;>first | trivial | rfl | exact List.length_set | exact Qx _ _ _ | exact Zj _ _ _ _ _ | exact Y6 _ _ | (intro j hj;exact Y5 _ _ _ _ j hj) | (intro j hj;first | exact Zj _ _ _ _ _ j hj | (rw [Zj _ _ _ _ _ j hj];rfl)) | (intros;rfl) | grind):p:=h
theorem W71{p:Prop}(h:p:=by (try simp only [Conj,and_true])<;>(repeat' apply And.intro)<;>first | rfl | trivial | (apply Bool.eq_iff_iff.2;unfold didB;generalize d.own=o;cases o<;>simp only [didB,addrB,Bool.and_eq_true,Bool.or_eq_true,Bool.not_eq_true',Bool.not_eq_false',Bool.and_eq_false_iff,Bool.or_eq_false_iff,decide_eq_true_eq,decide_eq_false_iff_not,Bool.false_eq_true,Bool.true_eq,false_iff,iff_false,true_iff,iff_true,reduceCtorEq,eq_self,not_true_eq_false,not_false_eq_true,or_false,or_true,and_true,and_false,true_and,false_and,true_or,false_or] at *<;>omega)):p:=h
theorem W72{p:Prop}(h:p:=by first | (intro _;rw [hn,hJ1.2.2,show x1_0.toNat=l.length by (simp only [BL] at *;omega)]) | (intro h;subst h;simp at *)):p:=h
theorem W73{p:Prop}(h:p:=by simp only [Conj];(repeat' apply And.intro)<;>first | trivial | rfl | (intros;first | trivial | rfl) | exact Qh9 hB | exact Q8o hB | exact (Qh9 hB).symm):p:=h
theorem W74{p:Prop}(h:p:=by first | assumption | omega | exact hw | exact hl | exact rng (by first | assumption | grind) (by grind) (by grind) | exact shr (mem:=mem) (bu:=bu) (cs:=cs) (by grind)):p:=h
theorem W75{p:Prop}(h:p:=by simp only [Conj];(repeat' apply And.intro)<;>first | trivial | omega | (exact hn1 h2) | (intros;simp)):p:=h
theorem W76{p:Prop}(h:p:=by first | assumption | exact (hw _ _).1 | exact (hw _ _).2 | exact Qh1 (hJ5.done (of_decide_eq_false h6)) (fun j=>(hw _ j).1) | exact (Q2o h4).2):p:=h
theorem W77{p:Prop}(h:p:=by simp only [Conj,shapedB];first | grind | (have he:=Za (corB cs) (i:=x2_0) (n:=cs.length) (by grind);grind) | (have he:=Za (pDiff cs x2_0) (i:=x4_0) (n:=x2_0) (by grind);have hp:corB cs x2_0=false:=(by simp only [corB,corAt,insAt];grind);have hs:=G9 (corB cs) (n:=cs.length) (by grind) hp;grind)):p:=h
theorem W78{p:Prop}(h:p:=by simp only [Conj,Fits,Q9,Qa,Qf,Qg];grind):p:=h
theorem W79{p:Prop}(h:p:=by simp only [Conj,Fits,Q9,Qa,Qf,Qg,News.len,maxLen]<;>(repeat' (first | apply And.intro | intro _))<;>first | (have q:=Q54 h1;have q1:=hQ.gl;have q2:=hQ.at_t q.1 q.2;simp only [BL] at *;omega) | (have q:=Q54 h1;have z:=hQ.lk hw q.1 q.2 (by assumption);omega) | grind | (simp only [BL] at *;omega)):p:=h
theorem W80{p:Prop}(h:p:=by simp only [Conj,Fits,IntKind.min,IntKind.max,IntKind.signed,IntKind.bits,News.len,maxLen]<;>(repeat' (first | apply And.intro | intro _))<;>first | (intros;exact i64T.flat _ _ (by assumption)) | (obtain ⟨q0,q1,q2⟩:=hJ3;have e:x3_1.length=n.toNat:=(by rw [q2];exact Ga (by omega) q1);have z:=of_decide_eq_true h4;have z2:(x3_0.toNat-0).min (x3_1.length-x3_0.toNat)≤x3_1.length-x3_0.toNat:=Nat.min_le_right _ _;omega) | omega | grind | (simp only [BL] at *;omega)):p:=h
theorem W81{p:Prop}(h:p:=by obtain ⟨k0,k1,k2,k3⟩:=hJ1;simp only [Conj];first | (obtain ⟨q0,q1,q3⟩:=hJ3;have e:namR w l []=none:=(by rw [k3];refine Qhp (by have:=of_decide_eq_true h2;omega) ?_;rw [← Q5m (k:=x3_0.toNat) (by have:=of_decide_eq_false h4;omega),← q3];simpa using h5);rw [e];exact ⟨rfl,rfl⟩) | (have e:namR w l []=some x1_2:=(by rw [k3,List.drop_eq_nil_of_le (by have:=of_decide_eq_false h2;omega)];rfl);rw [e];(repeat' apply And.intro)<;>first | rfl | (intros;rfl))):p:=h
theorem W82{p:Prop}(h:p:=by obtain ⟨k0,k1,k2,k3⟩:=hJ1;simp only [Conj];first | (obtain ⟨q0,q1,q3⟩:=hJ3;have e:namR w l A=none:=(by rw [k3];refine Qhp (by have:=of_decide_eq_true h2;omega) ?_;rw [← Q5m (k:=x3_0.toNat) (by have:=of_decide_eq_false h4;omega),← q3];simpa using h5);rw [e];exact ⟨rfl,rfl⟩) | (have e:namR w l A=some x1_2:=(by rw [k3,List.drop_eq_nil_of_le (by have:=of_decide_eq_false h2;omega)];rfl);rw [e];(repeat' apply And.intro)<;>first | rfl | (intros;rfl))):p:=h
theorem W83{p:Prop}(h:p:=by first | assumption | omega | exact hJ3.isv | exact hJ3.is (hJ3.to_ (of_decide_eq_true h4) (hq _ (by have q:=hJ1.at_ (of_decide_eq_true h2);omega))) | exact Nat.le_trans (hJ3.short (hJ3.to_ (of_decide_eq_true h4) (hq _ (by have q:=hJ1.at_ (of_decide_eq_true h2);omega)))) (by have a:=hJ3.kn;have b:=hJ3.k0;omega)):p:=h
theorem W84{p:Prop}(h:p:=by first | assumption | exact fun hk=>((Qg3 (cl:=cl) h2 (show (!decide ((cl.length:Int)=s9))=false by simp at h1 h2 ⊢;exact h1 h2)).1 x3_0.toNat (by have q:=of_decide_eq_true h4;have z:=hJ3.1;omega)).2 (by omega) | omega):p:=h
theorem W85{p:Prop}(h:p:=by (try simp only [Conj])<;>(repeat' apply And.intro)<;>first | done | trivial | rfl | (intros;first | rfl | trivial) | (intro i h1 h2;first | omega | (simp at h1;omega)) | (exact Q0h _ Cls.tl _ _ _ (by kernel_rfl)) | (exact Q0h (0:Int) (fun n=>[.val (.int .i64 n)]) _ _ _ (by kernel_rfl)) | skip):p:=h
theorem W86{p:Prop}(h:p:=by show nowH _ _=some _;first | exact Qa3 h3 | exact Qc4 h3 h4 h5 | exact Q1y h3 h4 (fun q=>by have q1:=of_decide_eq_false h6;have q2:=q.2;omega) | exact Q1y h3 h4 (fun q=>(of_decide_eq_false h5) q.1)):p:=h
theorem W87{p:Prop}(h:p:=by first | assumption | omega | exact Qo6 (hJ1.short (of_decide_eq_true h2)) hJ1.kn hN.2 | exact Qms hJ3.nl hJ3.kn hN.2 | exact hJ3.is (hJ3.to_ (of_decide_eq_true h4) (hq _ (by have q:=hJ1.at_ (of_decide_eq_true h2);omega)))):p:=h
theorem W88{p:Prop}(h:p:=by simp only [Conj,wordB] at *<;>grind):p:=h
theorem W89{p:Prop}(h:p:=by simp only [Conj];(repeat' apply And.intro)<;>first | trivial | rfl | (intros;first | trivial | rfl) | exact Y6 _ _ | exact Y5 default Slt.tc _ _ | exact Y5 0 i64T _ _ | (intro i q;exact Y5 _ _ _ _ i q) | (intro i h1 h2;rw [Zh h1 h2]) | (rw [Yc];rfl)):p:=h
theorem W90{p:Prop}(h:p:=by simp only [Conj];first | exact Q5k (by simp at h1;omega) | exact Q3j hJ2.2.2.1 hJ2.2.2.2 h3 | exact Q5l (by show ¬ ((rd X (.slice A nn cc)).getD x2_0.toNat 0=(rd X (.slice A2 n2 c2)).getD x2_0.toNat 0);simpa only [Bool.not_eq_true',decide_eq_false_iff_not] using h4)):p:=h
theorem W91{p:Prop}(h:p:=by simp only [Conj];(repeat' apply And.intro)<;>first | trivial | rfl | exact List.length_set | (intro j hj;exact Qeq (by first | exact Qhm h2 | exact Qhn h2) hj) | exact fun _ _=>rfl | (intros;rfl)):p:=h
theorem W92{p:Prop}(h:p:=by simp only [Conj,evL,evE];first | grind | (have e:evL mem s9 l9 bu cs l=x3_1:=(by rw [show evL mem s9 l9 bu cs l=evUp s9 l9 l l.length by (simp only [evL,evE];grind)];grind);rw [e];exact ⟨rfl,fun _ _=>rfl,by simp only [evE];grind⟩)):p:=h
theorem W93{p:Prop}(h:p:=by simp only [Conj];first | (have e:=of_decide_eq_true h1;subst e;exact ⟨rfl,rfl⟩) | (have e:=of_decide_eq_true h2;subst e;exact ⟨rfl,rfl⟩) | (have e:(opB k&&!twoB k)=false:=(by simp only [twoB,opB] at *;simp only [BL] at *;grind);rw [e];exact ⟨rfl,rfl⟩)):p:=h
theorem W94{p:Prop}(h:p:=by simp only [Conj];first | exact Q5k (by simp at h1;omega) | exact Q3j hJ2.2.2.1 hJ2.2.2.2 h3 | exact Q5l (by show ¬ ((rd X (.slice A nn cc)).getD x2_0.toNat 0=now.getD x2_0.toNat 0);simpa only [Bool.not_eq_true',decide_eq_false_iff_not] using h4)):p:=h
theorem W95{p:Prop}(h:p:=by simp only [Conj,w64,divI,remI,cntI,truthI] at *<;>first | rfl | grind):p:=h
theorem W96{p:Prop}(h:p:=by simp only [Conj];(repeat' apply And.intro)<;>first | trivial | rfl | exact List.length_set | exact Qx _ _ _ | exact Zj _ _ _ _ _ | exact Y6 _ _ | (intro j hj;exact Y5 _ _ _ _ j hj) | (intro j hj;first | exact Zj _ _ _ _ _ j hj | (rw [Zj _ _ _ _ _ j hj];rfl)) | (intros;rfl) | exact if_pos (of_decide_eq_true h1) | exact if_neg (of_decide_eq_false h1)):p:=h
theorem W97{p:Prop}(h:p:=by dsimp only [L23_0];have hs:=Q55 s9 l9 l (i:=x3_0) (e:=evOf s9 l9 (l.getD x3_0.toNat default) x3_0) (by grind) rfl;have hz:=Qa6 s9 l9 l (i:=x3_0) (e:=evOf s9 l9 (l.getD x3_0.toNat default) x3_0) (by grind) rfl;refine ⟨by grind,by grind,?_⟩;first | (rw [hz (by grind)];exact hJ3.2.2) | (rw [hs (by grind),← hJ3.2.2])):p:=h
theorem W98{p:Prop}(h:p:=by dsimp only [L59_0];(try simp only [decide_eq_true_eq] at *);omega):p:=h
theorem W99{p:Prop}(h:p:=by first | decide | simp):p:=h
theorem W100{p:Prop}(h:p:=by simp only [Conj,Fits,Q9,Qa,Qf,Qg,News.len,maxLen]<;>(repeat' (first | apply And.intro | intro _))<;>first | (have z:=ht (by simp only [BL] at *;omega);omega) | grind | (simp only [BL] at *;omega)):p:=h
theorem W101{p:Prop}(h:p:=by simp only [Conj];(repeat' apply And.intro)<;>first | trivial | rfl | (intros;rfl) | (intros;trivial) | grind):p:=h
theorem W102{p:Prop}(h:p:=by simp only [Conj,Fits,Q9,Qa,Qf,Qg,News.len,maxLen];(repeat' (first | apply And.intro | intro _))<;>first | grind | (have hl3:=Q3e s9 l9 l x3_0.toNat;grind) | (simp only [BL] at *;omega)):p:=h
theorem W103{p:Prop}(h:p:=by first | assumption | exact hs _ | exact hl _ | exact hg _ | (have hm:=Q0j h1;simp only [maxLen];omega)):p:=h
theorem W104{p:Prop}(h:p:=by simp only [Conj];(repeat' apply And.intro)<;>first | trivial | rfl | (intros;first | trivial | rfl) | (intro i hi;funext j;first | exact (if_pos hi).symm | exact if_pos hi) | exact Y6 _ _ | exact Y5 default Slt.tc _ _ | (intro i q;exact Y5 _ _ _ _ i q) | (intro i h1 h2;rw [Zh h1 h2]) | (rw [Yc];rfl)):p:=h
theorem W105{p:Prop}(h:p:=by simp only [Conj];(repeat' apply And.intro)<;>first | trivial | exact Qjr h1 | exact Qnb h1 h2 | exact Qlt h1 h2 h3 | exact Qoc h1 h2 h3):p:=h
theorem W106{p:Prop}(h:p:=by simp only [Conj];(repeat' apply And.intro)<;>first | rfl | trivial | (intros;trivial) | (intro i h1 h2;exact absurd h1 (by simp;omega)) | (exact Q0h _ Nod.tl _ _ _ (by kernel_rfl)) | (exact Q0h _ Dcl.tl _ _ _ (by kernel_rfl)) | (exact Qfm _ Grf.tl _ _ _ (by kernel_rfl)) | skip):p:=h
theorem W107{p:Prop}(h:p:=by simp only [Conj];first | exact Qlz h1 | exact Qju h3 | exact Qjv h1 h2 h3 | exact Qjw h1 h2 h3):p:=h
theorem W108{p:Prop}(h:p:=by simp only [Conj];first | exact Qh4 h1 | exact Qlb (Q54 h1) h2 | exact Qjd (Q54 h1) h2 h3 | exact Qmx (Q54 h1) h2 h3):p:=h
theorem W109{p:Prop}(h:p:=by simp only [Conj];first | (have e:(opB k&&!twoB k)=true:=(by simp only [BL] at *;grind);subst hs2;exact ⟨(if_pos e).trans rfl,(if_pos e).trans rfl⟩) | (simp only [BL] at *;grind)):p:=h
theorem W110{p:Prop}(h:p:=by simp only [Conj,uS,uT,uA,uN];simp only [BL] at *;grind):p:=h
theorem W111{p:Prop}(h:p:=by dsimp only [L57_0];(try simp only [decide_eq_true_eq] at *);omega):p:=h
theorem W112{p:Prop}(h:p:=by simp only [Conj,useD,useA,useAddr,useTo] at *<;>grind):p:=h
theorem W113{p:Prop}(h:p:=by dsimp only [L88_0];refine ⟨by omega,by simp only [BL] at *;omega,?_⟩;first | (rw [Qa6 s9 l9 l (i:=x1_0) hJ1.1 rfl (of_decide_eq_true h3)];exact hJ1.2.2) | (rw [Q55 s9 l9 l (i:=x1_0) hJ1.1 rfl hCC50y,List.length_append,← hJ1.2.2];rfl)):p:=h
theorem W114{p:Prop}(h:p:=by simp only [Conj,indexName];first | grind | (have he:=Zi (nDiff cs b) (i:=x1_0) (n:=n) (by grind);grind) | (have hp:nDiff cs b x1_0=false:=(by simp only [nDiff,corAt];grind);have hs:=Zu (nDiff cs b) (n:=n) (by grind) hp;grind)):p:=h
theorem W115{p:Prop}(h:p:=by simp only [Conj,Fits,Q9,Qa,Qf,Qg,News.len,maxLen]<;>(repeat' (first | apply And.intro | intro _))<;>first | (have q0:=hQ.gl;dsimp only at q0;have q:=of_decide_eq_true h2;have z:=hJ1.1;omega) | grind | (simp only [BL] at *;omega)):p:=h
theorem W116{p:Prop}(h:p:=by simp only [Conj];first | grind | (have he:=Za (rightP l) (i:=x1_0) (n:=l.length) (by grind);grind) | (have hp:rightP l x1_0=false:=(by simp only [rightP,didAt];grind);have hs:=G9 (rightP l) (n:=l.length) (by grind) hp;grind)):p:=h
theorem W117{p:Prop}(h:p:=by simp;omega):p:=h
theorem W118{p:Prop}(h:p:=by simp only [Conj];first | exact Q5k (by simp at h1;omega) | exact Q3j hJ2.2.2.1 hJ2.2.2.2 h3 | exact Q5l (by intro e;rw [e] at h4;simp [eqCells] at h4)):p:=h
theorem W119{p:Prop}(h:p:=by simp only [Conj,opStr,formW,formU,formOk] at *;(try simp only [h1]);(repeat' apply And.intro)<;>first | rfl | simp):p:=h
theorem W120{p:Prop}(h:p:=by simp only [Conj,Fits,Q9,Qa,Qf,Qg,News.len,maxLen]<;>(repeat' (first | apply And.intro | intro _))<;>first | (have q1:=hQ.gl;have q2:=hQ.at_t h0 ht;omega) | grind | (simp only [BL] at *;omega)):p:=h
theorem W121{p:Prop}(h:p:=by first | exact hJ3.put (of_decide_eq_true h4) (hq _ (by have q:=hJ1.at_ (of_decide_eq_true h2);omega)) h5 hInX9 hTabX9 | exact hJ3.skip (of_decide_eq_true h4) (hq _ (by have q:=hJ1.at_ (of_decide_eq_true h2);omega)) h5 h6):p:=h
theorem W122{p:Prop}(h:p:=by simp only [Conj];(repeat' apply And.intro)<;>first | trivial | exact Qmz hJ1 h2 h3 | exact Qlc hJ1 h2):p:=h
theorem W123{p:Prop}(h:p:=by simp only [Conj];(repeat' apply And.intro)<;>first | trivial | rfl | exact List.length_set | exact Qx _ _ _ | exact fun _ _=>rfl | (intros;rfl) | exact Y6 _ _ | (intro j hj;exact Y5 _ _ _ _ j hj)):p:=h
theorem W124{p:Prop}(h:p:=by first | exact hJ3.put (of_decide_eq_true h4) (hq _ (by have q:=hJ1.at_ (of_decide_eq_true h2);omega)) h5 rfl | exact hJ3.skip (of_decide_eq_true h4) (hq _ (by have q:=hJ1.at_ (of_decide_eq_true h2);omega)) h5 h6):p:=h
theorem W125{p:Prop}(h:p:=by simp only [Conj,Fits,Q9,Qa,Qf,Qg,News.len,maxLen]<;>(repeat' (first | apply And.intro | intro _))<;>first | (exact i64T.flat _ _ (by assumption)) | grind | (simp only [BL] at *;omega)):p:=h
theorem W126{p:Prop}(h:p:=by simp only [Conj];(repeat' apply And.intro)<;>first | trivial | rfl | (intros;first | trivial | rfl) | exact List.length_replicate | exact Ja _ | (intro i hi;exact Ja _ i (by simpa using hi))):p:=h
theorem W127{p:Prop}(h:p:=by (try simp only [Conj])<;>(repeat' apply And.intro)<;>first | done | trivial | rfl | (intros;first | rfl | trivial) | exact Y6 _ _ | (intro i h1 h2;rw [Zh h1 h2]) | (rw [Yc];rfl)):p:=h
theorem W128{p:Prop}(h:p:=by simpa using h2):p:=h
theorem W129{p:Prop}(h:p:=by simp only [Conj,visE];simp only [BL] at *;grind):p:=h
theorem W130{p:Prop}(h:p:=by simp only [Conj];(repeat' apply And.intro)<;>first | trivial | rfl | (intros;first | trivial | rfl) | (intro i hi;funext j;first | exact (if_pos hi).symm | exact if_pos hi)):p:=h
theorem W131{p:Prop}(h:p:=by decide):p:=h
theorem W132{p:Prop}(h:p:=by dsimp only [L17_80];have q:=of_decide_eq_true h4;have z:=hJ3.1;refine ⟨by omega,by omega,?_⟩;first | (rw [Q7g z h5,← hJ3.2.2]) | (rw [Qcw z h5,← hJ3.2.2])):p:=h
theorem W133{p:Prop}(h:p:=by simpa using h1):p:=h
theorem W134{p:Prop}(h:p:=by first | assumption | exact (hw _ _).1 | exact (hw _ _).2 | exact hw _ _ | exact ⟨(hw _ _).1.1,(hw _ _).2.1⟩):p:=h
theorem W135{p:Prop}(h:p:=by simp only [Conj]<;>(repeat' apply And.intro)<;>first | trivial | rfl | (intros;first | trivial | rfl)):p:=h
theorem W136{p:Prop}(h:p:=by simp only [Conj,valueP,usesB] at *;first | grind | (obtain ⟨a,b,c⟩:=v;simp_all;done)):p:=h
theorem W137{p:Prop}(h:p:=by simp only [Conj];first | exact Q8k h1 | exact Qgy h1 h2 | exact Qgz h1 h2):p:=h
theorem W138{p:Prop}(h:p:=by first | assumption | exact (Q22 h1).1 | exact (Q22 h1).2 | omega):p:=h
theorem W139{p:Prop}(h:p:=by simp only [Conj,visN] at *<;>grind):p:=h
theorem W140{p:Prop}(h:p:=by dsimp only [C50y_J];simp only [BL] at *;assumption):p:=h
theorem W141{p:Prop}(h:p:=by simp only [Conj];first | exact Qlu h1 | exact Qlv h1 h2 | exact Qlw h1 h2):p:=h
theorem W142{p:Prop}(h:p:=by simp only [Conj,valR] at *;first | grind | (obtain ⟨a,b,c⟩:=v;simp_all;done)):p:=h
theorem W143{p:Prop}(h:p:=by simp only [Conj,visN];simp_all):p:=h
theorem W144{p:Prop}(h:p:=by simpa using h):p:=h
theorem W145{p:Prop}(h:p:=by simp only [Conj,begT] at *<;>grind):p:=h
theorem W146{p:Prop}(h:p:=by cases h):p:=h
theorem W147{p:Prop}(h:p:=by first | exact Qgx i code memory hk.1 ho.1 h1 | (simp only [Conj,insB,formOk] at *;grind)):p:=h
theorem W148{p:Prop}(h:p:=by simp):p:=h
theorem W149{p:Prop}(h:p:=by simp only [Conj,wordV,slotW] at *<;>grind):p:=h
theorem W150{p:Prop}(h:p:=by simp only [Conj,w64,divI] at *<;>first | rfl | grind):p:=h
theorem W151{p:Prop}(h:p:=by simp only [Conj,truthI] at *<;>grind):p:=h
theorem W152{p:Prop}(h:p:=by dsimp only [L98_81];have q:=of_decide_eq_true h4;have q2:=hJ3.i0;omega):p:=h
theorem W153{p:Prop}(h:p:=by dsimp only [L51_1];have q:=of_decide_eq_true h4;have q2:=hJ3.i0;omega):p:=h
theorem W154{p:Prop}(h:p:=by simp [hp]):p:=h
theorem W155{p:Prop}(h:p:=by dsimp only [L17_80];have q:=of_decide_eq_true h4;have z:=hJ3.1;omega):p:=h
theorem W156{p:Prop}(h:p:=by simpa using hj):p:=h
theorem W157{p:Prop}(h:p:=by dsimp only [L23_0];(try simp only [decide_eq_true_eq] at *);omega):p:=h
theorem W158{p:Prop}(h:p:=by dsimp only [L88_0];(try simp only [decide_eq_true_eq] at *);omega):p:=h
theorem W159{p:Prop}(h:p:=by simp only [Conj,twoB,opB] at *<;>grind):p:=h
theorem W160{p:Prop}(h:p:=by rw [hg];exact gHolds_nil a):p:=h
theorem W161{p:Prop}(h:p:=by simpa using hc):p:=h
theorem W162{p:Prop}(h:p:=by simpa using hi):p:=h
theorem W163{p:Prop}(h:p:=by simpa using ht):p:=h
end Go.Tx
namespace Go.Tx
open Go
inductive CK where
 | i (k:IntKind)
 | s
 | b
def CK.α:CK→Type
 | .i _=>Int
 | .s=>ByteArray
 | .b=>Bool
def CK.val:(c:CK)→c.α→Value
 | .i k,n=>.int k n
 | .s,x=>.string x
 | .b,x=>.bool x
def CK.zero:(c:CK)→c.α
 | .i _=>(0:Int)
 | .s=>(⟨#[]⟩:ByteArray)
 | .b=>false
def CK.wf:(c:CK)→c.α→Prop
 | .i k,n=>(Lit.int k n).wf=true
 | .s,x=>ByteArray.size x≤maxLen
 | .b,_=>True
def KA:List CK→Type
 | []=>Unit
 | [c]=>c.α
 | c::d::r=>c.α×KA (d::r)
def KA.vals:(K:List CK)→KA K→List Value
 | [],_=>[]
 | [c],x=>[c.val x]
 | c::d::r,x=>c.val x.1::KA.vals (d::r) x.2
def KA.zero:(K:List CK)→KA K
 | []=>()
 | [c]=>c.zero
 | c::d::r=>(c.zero,KA.zero (d::r))
def KA.wf:(K:List CK)→KA K→Prop
 | [],_=>True
 | [c],x=>c.wf x
 | c::d::r,x=>c.wf x.1∧KA.wf (d::r) x.2
instance (c:CK):DecidableEq c.α:=match c with
 | .i _=>inferInstanceAs (DecidableEq Int)
 | .s=>inferInstanceAs (DecidableEq ByteArray)
 | .b=>inferInstanceAs (DecidableEq Bool)
def KA.deq:(K:List CK)→DecidableEq (KA K)
 | []=>inferInstanceAs (DecidableEq Unit)
 | [c]=>inferInstanceAs (DecidableEq c.α)
 | c::d::r=>let _:=KA.deq (d::r);inferInstanceAs (DecidableEq (c.α×KA (d::r)))
instance (K:List CK):DecidableEq (KA K):=KA.deq K
structure MT where
 P:Program
 t:Nat
 k:Nat
 e:Nat
 K:List CK
 kAgg:Bool
 V:List CK
 vAgg:Bool
def mkVal (agg:Bool) (l:List Value):Value:=if agg then .agg l.toArray else l.headD undef
def MT.valK (T:MT) (a:KA T.K):Value:=mkVal T.kAgg (KA.vals T.K a)
def MT.valE (T:MT) (x:KA T.V):Value:=mkVal T.vAgg (KA.vals T.V x)
def heldR (v:Value):Option (DataW Value×List MemPlace):=some (.held v,[])
structure MT.Ok (T:MT):Prop where
 map:T.P.underlying T.t=some (.map T.k T.e)
 key:Go.Maps.Keyed T.P T.k
 lit:∀ a:KA T.K,KA.wf T.K a→∃ l,keyOf T.P T.k (T.valK a)=some l
 inv:∀ v l,keyOf T.P T.k v=some l→∃ a:KA T.K,KA.wf T.K a∧v=T.valK a
 one:T.kAgg=true∨T.K.length=1
 oneE:T.vAgg=true∨T.V.length=1
 zero:∀ w,(zeroValue T.e).run T.P w=.ok (T.valE (KA.zero T.V)) w
structure MT.Rep (T:MT) (has:KA T.K→Bool) (f:KA T.K→KA T.V) (D:DataW Value):Prop where
 at_:∀ a l,keyOf T.P T.k (T.valK a)=some l→Go.Maps.has D l=has a∧(has a=true→∀ z,D.atKey l z=.held (T.valE (f a)))
 off:∀ a,keyOf T.P T.k (T.valK a)=none→has a=false
 zero:∀ a,has a=false→f a=KA.zero T.V
structure MIt (K:List CK) where
 r:Nat
 left:KA K→Bool
 cnt:Nat
 cur:Option (KA K)
def itPtr (r:Nat):Value:=.pointer (some ⟨r,0,none⟩)
structure MRange (w:World) (T:MT) (b n:Nat) (D:DataW Value) (f:KA T.K→KA T.V) (it:MIt T.K):Prop where
 rg:∃ L:Lit→Bool,w.ranges T.P T.k heldR b it.r n D L it.cnt∧∀ a l,keyOf T.P T.k (T.valK a)=some l→L l=it.left a
 off:∀ a,keyOf T.P T.k (T.valK a)=none→it.left a=false
 cur:∀ a,it.cur=some a→(Instr.entry (itPtr it.r)).run T.P w=.ok (.tuple #[T.valK a,T.valE (f a)]) w
def MapAt (w:World) (M fp:Nat→Prop) (T:MT) (h:Value) (n:Nat) (has:KA T.K→Bool) (f:KA T.K→KA T.V) (it:Option (MIt T.K)):Prop:=
 T.Ok∧∃ b D,h=.map (some b)∧M b∧fp b∧T.Rep has f D∧match it with
  | none=>w.ownsMap T.P T.k heldR b n D
  | some x=>M x.r∧fp x.r∧MRange w T b n D f x
theorem Qbc {w w':World} {P:Program} {k b n:Nat} {D:DataW Value} (h:w.ownsMap P k heldR b n D) (hb:w'.heap[b]?=w.heap[b]?):w'.ownsMap P k heldR b n D:=by
 obtain ⟨es,clock,h1,h2⟩:=h
 exact ⟨es,clock,hb.trans h1,h2⟩
theorem Qd6 {w w':World} {P:Program} {k b r n cnt:Nat} {D:DataW Value} {L:Lit→Bool} (h:w.ranges P k heldR b r n D L cnt) (hb:w'.heap[b]?=w.heap[b]?) (hr:w'.heap[r]?=w.heap[r]?):w'.ranges P k heldR b r n D L cnt:=by
 obtain ⟨es,clock,since,seen,c0,h1,h2,h3,h4,h5,h6⟩:=h
 exact ⟨es,clock,since,seen,c0,hb.trans h1,h2,h3,h4,hr.trans h5,h6⟩
theorem Qew {w w':World} {P:Program} {k b r n cnt:Nat} {D:DataW Value} {L:Lit→Bool} {v:Value} (h:w.ranges P k heldR b r n D L cnt) (hb:w'.heap[b]?=w.heap[b]?) (hr:w'.heap[r]?=w.heap[r]?)
 (he:(Instr.entry (itPtr r)).run P w=.ok v w):(Instr.entry (itPtr r)).run P w'=.ok v w':=by
 obtain ⟨es,clock,since,seen,c0,h1,h2,h3,h4,h5,h6⟩:=h
 have h1':=hb.trans h1
 have h5':=hr.trans h5
 unfold itPtr at he ⊢
 simp only [Instr.entry,getObj,Sem.run_bind,Sem.run,h1,h5,Result.andThen] at he
 simp only [Instr.entry,getObj,Sem.run_bind,Sem.run,h1',h5',Result.andThen]
 cases hs:seen.back? with
 | none=>simp [hs,Sem.run] at he
 | some stamp =>
   simp only [hs,Sem.run_bind,getObj,Sem.run,h1,Result.andThen] at he
   simp only [Sem.run_bind,getObj,Sem.run,h1',Result.andThen]
   by_cases hc:(clock !=c0)=true
   ·simp [hc,Sem.run,Sem.run_bind,Result.andThen] at he
   ·simp only [hc,if_false,Bool.false_eq_true] at he ⊢
    cases hf:es.find? (fun x=>x.born==stamp) with
    | none=>simp [hf,Sem.run] at he
    | some e=>simp [hf,Sem.run] at he ⊢;exact he
theorem MRange.move {w w':World} {T:MT} {b n:Nat} {D:DataW Value} {f:KA T.K→KA T.V} {it:MIt T.K} (h:MRange w T b n D f it) (hb:w'.heap[b]?=w.heap[b]?) (hr:w'.heap[it.r]?=w.heap[it.r]?):MRange w' T b n D f it:=by
 obtain ⟨L,h1,h2⟩:=h.rg
 exact ⟨⟨L,Qd6 h1 hb hr,h2⟩,h.off,fun a ha=>Qew h1 hb hr (h.cur a ha)⟩
theorem Q9l {w:World} {P:Program} {k b r n cnt:Nat} {D:DataW Value} {L:Lit→Bool} (h:w.ranges P k heldR b r n D L cnt):b<w.heap.size∧r<w.heap.size:=⟨h.owns.lt,h.lt⟩
theorem MapAt.world {w w':World} {M fp:Nat→Prop} {T:MT} {h:Value} {n:Nat} {has:KA T.K→Bool} {f:KA T.K→KA T.V} {it:Option (MIt T.K)} (hm:MapAt w M fp T h n has f it)
 (hb:∀ b,fp b→b<w.heap.size→w'.heap[b]?=w.heap[b]?):MapAt w' M fp T h n has f it:=by
 obtain ⟨ok,b,D,h1,h2,h3,h4,h5⟩:=hm
 refine ⟨ok,b,D,h1,h2,h3,h4,?_⟩
 cases it with
 | none=>exact Qbc h5 (hb b h3 (World.ownsMap.lt h5))
 | some x =>
   obtain ⟨L,hL,_⟩:=h5.2.2.rg
   exact ⟨h5.1,h5.2.1,h5.2.2.move (hb b h3 (Q9l hL).1) (hb x.r h5.2.1 (Q9l hL).2)⟩
theorem MapAt.reM {w:World} {M M' fp fp':Nat→Prop} {T:MT} {h:Value} {n:Nat} {has:KA T.K→Bool} {f:KA T.K→KA T.V} {it:Option (MIt T.K)} (hm:MapAt w M fp T h n has f it)
 (hM:∀ b,fp b→M' b) (hf:∀ b,fp b→fp' b):MapAt w M' fp' T h n has f it:=by
 obtain ⟨ok,b,D,h1,h2,h3,h4,h5⟩:=hm
 refine ⟨ok,b,D,h1,hM b h3,hf b h3,h4,?_⟩
 cases it with
 | none=>exact h5
 | some x=>exact ⟨hM _ h5.2.1,hf _ h5.2.1,h5.2.2⟩
theorem MapAt.close {w:World} {M fp:Nat→Prop} {T:MT} {h:Value} {n:Nat} {has:KA T.K→Bool} {f:KA T.K→KA T.V} {it:Option (MIt T.K)} (hm:MapAt w M fp T h n has f it):MapAt w M fp T h n has f none:=by
 obtain ⟨ok,b,D,h1,h2,h3,h4,h5⟩:=hm
 refine ⟨ok,b,D,h1,h2,h3,h4,?_⟩
 cases it with
 | none=>exact h5
 | some x=>obtain ⟨L,hL,_⟩:=h5.2.2.rg;exact hL.owns
def MpEq (T:MT) (n:Nat) (has:KA T.K→Bool) (f:KA T.K→KA T.V) (it:Option (MIt T.K)) (T':MT) (n':Nat) (has':KA T'.K→Bool) (f':KA T'.K→KA T'.V) (it':Option (MIt T'.K)):Prop:=
 ∃ h:T'=T,n'≤n∧(∀ a,has (h▸a)=has' a)∧(∀ a,f (h▸a)=h▸(f' a))∧match it with
  | none=>True
  | some x=>∃ x',it'=some x'∧x.r=x'.r∧x.cnt=x'.cnt∧(∀ a,x.left (h▸a)=x'.left a)∧(∀ a,x.cur=some (h▸a)→x'.cur=some a)
theorem MpEq.mk' {T:MT} {n n':Nat} {has has':KA T.K→Bool} {f f':KA T.K→KA T.V} {it':Option (MIt T.K)} (h1:n'≤n) (h2:∀ a,has a=has' a) (h3:∀ a,f a=f' a):MpEq T n has f none T n' has' f' it':=
 ⟨rfl,h1,h2,h3,trivial⟩
theorem MpEq.mkIt {T:MT} {n n' r r' cnt cnt':Nat} {has has' left left':KA T.K→Bool} {f f':KA T.K→KA T.V} {cur':Option (KA T.K)} (h1:n'≤n) (h2:∀ a,has a=has' a) (h3:∀ a,f a=f' a) (h4:r=r') (h5:cnt=cnt') (h6:∀ a,left a=left' a) :
 MpEq T n has f (some ⟨r,left,cnt,none⟩) T n' has' f' (some ⟨r',left',cnt',cur'⟩):=
 ⟨rfl,h1,h2,h3,_,rfl,h4,h5,h6,fun a h=>by cases h⟩
theorem MpEq.apply {w:World} {M fp:Nat→Prop} {T T':MT} {h:Value} {n n':Nat} {has:KA T.K→Bool} {f:KA T.K→KA T.V} {it:Option (MIt T.K)} {has':KA T'.K→Bool} {f':KA T'.K→KA T'.V} {it':Option (MIt T'.K)}
 (e:MpEq T n has f it T' n' has' f' it') (hm:MapAt w M fp T' h n' has' f' it'):MapAt w M fp T h n has f it:=by
 obtain ⟨hT,e1,e2,e3,e4⟩:=e
 subst hT
 have e2':has=has':=funext e2
 have e3':f=f':=funext e3
 subst e2' e3'
 cases it with
 | none =>
   obtain ⟨ok,b,D,h1,h2,h3,h4,h5⟩:=hm.close
   exact ⟨ok,b,D,h1,h2,h3,h4,World.ownsMap.mono h5 e1⟩
 | some x =>
   obtain ⟨x',rfl,e5,e6,e7,e8⟩:=e4
   obtain ⟨ok,b,D,h1,h2,h3,h4,h5⟩:=hm
   obtain ⟨r,left,cnt,cur⟩:=x
   obtain ⟨r',left',cnt',cur'⟩:=x'
   simp only at e5 e6 e7 e8 h5
   subst e5 e6
   have e7':left=left':=funext e7
   subst e7'
   obtain ⟨L,hL,hl⟩:=h5.2.2.rg
   refine ⟨ok,b,D,h1,h2,h3,h4,h5.1,h5.2.1,⟨L,?_,hl⟩,h5.2.2.off,fun a ha=>h5.2.2.cur a (e8 a ha)⟩
   obtain ⟨es,clock,since,seen,c0,q1,q2,q3,q4⟩:=hL
   exact ⟨es,clock,since,seen,c0,q1,q2,Nat.le_trans q3 e1,q4⟩
theorem MapAt.lookup {w:World} {M fp:Nat→Prop} {T:MT} {h:Value} {n:Nat} {has:KA T.K→Bool} {f:KA T.K→KA T.V} {it:Option (MIt T.K)} (hm:MapAt w M fp T h n has f it) {a:KA T.K} (ha:KA.wf T.K a) :
 (Instr.lookup T.t h (T.valK a) false).run T.P w=.ok (T.valE (f a)) w∧(Instr.lookup T.t h (T.valK a) true).run T.P w=.ok (.tuple #[T.valE (f a),.bool (has a)]) w:=by
 obtain ⟨ok,b,D,rfl,h2,h3,h4,h5⟩:=hm.close
 obtain ⟨l,hl⟩:=ok.lit a ha
 have hat:=h4.at_ a l hl
 have key:D.atKey l (.held (T.valE (KA.zero T.V)))=.held (T.valE (f a)):=by
  cases hh:has a with
  | true=>exact hat.2 hh _
  | false =>
    rw [Go.Maps.atKey_of_not_has (by rw [hat.1,hh]),h4.zero a hh]
 constructor
 ·obtain ⟨v,ps,hrun,hv⟩:=World.ownsMap.lookup h5 ok.key ok.map (ok.zero w) (R:=heldR) rfl hl
  rw [key] at hv
  cases hv
  exact hrun
 ·obtain ⟨v,ps,hrun,hv⟩:=World.ownsMap.look_ok h5 ok.key ok.map (ok.zero w) (R:=heldR) rfl hl
  rw [key] at hv
  cases hv
  rw [← hat.1]
  exact hrun
theorem Qe4 {T:MT} (ok:T.Ok) {a b:KA T.K} {l:Lit} (h1:keyOf T.P T.k (T.valK a)=some l) (h2:keyOf T.P T.k (T.valK b)=some l):T.valK a=T.valK b:=ok.key.inj h1 h2
theorem CK.val_inj (c:CK) {x y:c.α} (h:c.val x=c.val y):x=y:=by
 cases c with
 | i k=>exact (Value.int.inj h).2
 | s=>exact Value.string.inj h
 | b=>exact Value.bool.inj h
theorem KA.vals_inj:∀ (K:List CK) {x y:KA K},KA.vals K x=KA.vals K y→x=y
 | [],_,_,_=>rfl
 | [c],x,y,h=>by simp only [KA.vals,List.cons.injEq,and_true] at h;exact c.val_inj h
 | c::d::r,x,y,h=>by
   simp only [KA.vals,List.cons.injEq] at h
   exact Prod.ext (c.val_inj h.1) (KA.vals_inj (d::r) h.2)
theorem Qg7 {agg:Bool} {K:List CK} (h1:agg=true∨K.length=1) {x y:KA K} (h:mkVal agg (KA.vals K x)=mkVal agg (KA.vals K y)):x=y:=by
 unfold mkVal at h
 split at h
 ·exact KA.vals_inj K W144
 ·rename_i hf
  have hl:K.length=1:=by rcases h1 with h1 | h1;exact absurd h1 hf;exact h1
  match K,x,y,h,hl with
  | [c],x,y,h,_=>exact c.val_inj (by simpa [KA.vals] using h)
theorem Qbd {T:MT} (ok:T.Ok) {a b:KA T.K} (h:T.valK a=T.valK b):a=b:=Qg7 ok.one h
theorem MapAt.update {w:World} {M fp:Nat→Prop} {T:MT} {h:Value} {n:Nat} {has:KA T.K→Bool} {f:KA T.K→KA T.V} {it:Option (MIt T.K)} (hm:MapAt w M fp T h n has f it) {a:KA T.K} (ha:KA.wf T.K a) (x:KA T.V) (hn:n<maxLen) :
 ∃ (b:Nat) (w':World),h=.map (some b)∧(Instr.mapUpdate T.t h (T.valK a) (T.valE x)).run T.P w=.ok () w'∧w.grownBy w' (some b)∧M b∧fp b∧MapAt w' M fp T h (n+1) (fun q=>decide (q=a)||has q) (fun q=>if q=a then x else f q) none:=by
 obtain ⟨ok,b,D,rfl,h2,h3,h4,h5⟩:=hm.close
 obtain ⟨l,hl⟩:=ok.lit a ha
 obtain ⟨w',hrun,how,hgr⟩:=World.ownsMap.update h5 ok.key ok.map hn hl (val:=T.valE x) (R:=heldR) rfl
 refine ⟨b,w',rfl,hrun,hgr,h2,h3,ok,b,_,rfl,h2,h3,⟨fun q lq hq=>?_,fun q hq=>?_,fun q hq=>?_⟩,how⟩
 ·by_cases e:q=a
  ·subst e
   have:lq=l:=Option.some.inj (hq.symm.trans hl)
   subst this
   refine ⟨by rw [Go.Maps.has_put_same (World.ownsMap.isMap h5) (ok.key.key hl)];simp,fun _ z=>?_⟩
   rw [Go.Maps.atKey_put_same (World.ownsMap.isMap h5) (ok.key.key hl),if_pos rfl]
  ·have hne:lq≠l:=fun e1=>e (Qbd ok (Qe4 ok hq (e1▸hl)))
   have:=h4.at_ q lq hq
   refine ⟨by rw [Go.Maps.has_put_other hne,this.1];simp [e],fun hh z=>?_⟩
   rw [Go.Maps.atKey_put_other hne,if_neg e]
   exact this.2 (by simpa [e] using hh) z
 ·have e:q≠a:=fun e=>by subst e;rw [hl] at hq;cases hq
  simp [e,h4.off q hq]
 ·by_cases e:q=a
  ·simp [e] at hq
  ·rw [if_neg e];exact h4.zero q (by simpa [e] using hq)
theorem MapAt.made {w:World} {M fp:Nat→Prop} {T:MT} (ok:T.Ok) (hM:M w.heap.size) (hf:fp w.heap.size):MapAt (w.alloc (.map #[] 0)) M fp T (.map (some w.heap.size)) 0 (fun _=>false) (fun _=>KA.zero T.V) none:=
 ⟨ok,_,_,rfl,hM,hf,⟨fun a l _=>⟨rfl,fun h=>by cases h⟩,fun _ _=>rfl,fun _ _=>rfl⟩,World.ownsMap_made w T.P T.k heldR⟩
theorem MapAt.range {w:World} {M fp:Nat→Prop} {T:MT} {h:Value} {n:Nat} {has:KA T.K→Bool} {f:KA T.K→KA T.V} (hm:MapAt w M fp T h n has f none) {M' fp':Nat→Prop} (hM:∀ b,M b→M' b) (hf:∀ b,fp b→fp' b)
 (hM':M' w.heap.size) (hf':fp' w.heap.size) :
 ∃ (w':World) (cnt:Nat),(Instr.range T.t h).run T.P w=.ok (itPtr w.heap.size) w'∧w.grownBy w' none∧w'.heap.size=w.heap.size+1∧MapAt w' M' fp' T h n has f (some ⟨w.heap.size,has,cnt,none⟩):=by
 obtain ⟨ok,b,D,rfl,h2,h3,h4,h5⟩:=hm
 obtain ⟨w',hrun,hrg,hgr,hsz⟩:=World.ownsMap.range h5 ok.key ok.map
 exact ⟨w',Go.Maps.size D,hrun,hgr,hsz,ok,b,D,rfl,hM b h2,hf b h3,h4,hM',hf',⟨_,hrg,fun a l hl=>(h4.at_ a l hl).1⟩,h4.off,fun a ha=>by cases ha⟩
theorem MapAt.next {w:World} {M fp:Nat→Prop} {T:MT} {h:Value} {n:Nat} {has:KA T.K→Bool} {f:KA T.K→KA T.V} {it:MIt T.K} (hm:MapAt w M fp T h n has f (some it)) (ty:TypeId) :
 ((∀ a,it.left a=false)∧(Instr.next (itPtr it.r) false ty).run T.P w=.ok (.tuple #[.bool false]) w) ∨
 ∃ (a:KA T.K) (w':World) (cnt':Nat),KA.wf T.K a∧it.left a=true∧has a=true∧cnt'<it.cnt∧(Instr.next (itPtr it.r) false ty).run T.P w=.ok (.tuple #[.bool true,T.valK a,T.valE (f a)]) w'∧M it.r∧fp it.r∧w.grownBy w' (some it.r)∧w'.heap.size=w.heap.size ∧
  MapAt w' M fp T h n has f (some ⟨it.r,fun q=>it.left q&&!decide (q=a),cnt',some a⟩):=by
 obtain ⟨ok,b,D,rfl,h2,h3,h4,h5,h6,h7⟩:=hm
 obtain ⟨L,hL,hl⟩:=h7.rg
 rcases World.ranges.next hL ok.key ty with ⟨_,hleft,hrun⟩ | ⟨key,v,kl,y,w',cnt',hkey,hk,hv,hat,hrun,hrg,hlt,hgr,hsz,hen⟩
 ·refine .inl ⟨fun a=>?_,hrun⟩
  cases hka:keyOf T.P T.k (T.valK a) with
  | none=>exact h7.off a hka
  | some l=>rw [← hl a l hka];exact hleft l
 ·obtain ⟨a,hwf,rfl⟩:=ok.inv key kl hkey
  have hla:it.left a=true:=by rw [← hl a kl hkey];exact hk
  have hv':v=T.valE (f a):=by
   have h0:=h4.at_ a kl hkey
   have h1:=h0.2 (by rw [← h0.1];exact Go.Maps.has_true_of_atKey hat) (.held v)
   rw [hat] at h1
   cases hv
   exact DataW.held.inj h1
  subst hv'
  refine .inr ⟨a,w',cnt',hwf,hla,by rw [← (h4.at_ a kl hkey).1];exact Go.Maps.has_true_of_atKey hat,hlt,hrun,h5,h6,hgr,hsz,ok,b,D,rfl,h2,h3,h4,h5,h6,⟨_,hrg,fun q l hq=>?_⟩,fun q hq=>?_,fun q hq=>?_⟩
  ·show (L l&&!l.sameKey kl)=(it.left q&&!decide (q=a))
   rw [hl q l hq]
   by_cases e:q=a
   ·subst e
    have:l=kl:=Option.some.inj (hq.symm.trans hkey)
    subst this
    rw [WideAt.sameKey_self (ok.key.key hkey)];simp
   ·have hne:l.sameKey kl=false:=Go.Maps.sameKey_ne (fun e1=>e (Qbd ok (Qe4 ok hq (e1▸hkey))))
    rw [hne];simp [e]
  ·simp [h7.off q hq]
  ·cases hq;exact hen
end Go.Tx
namespace Go.Tx
open Go Go.RowKit
inductive TC where
 | val (x:Value)
 | sub (ty size n:Nat) (f:Nat→Nat→TC)
 | any
def nthV:List Value→Nat→Option Value
 | [],_=>none
 | x::_,0=>some x
 | _::r,n+1=>nthV r n
def valT (l:List Value) (j:Nat):TC:=match nthV l j with
 | some x=>.val x
 | none=>.any
theorem Qe5:∀ (l:List Value) (i:Nat),nthV l i=l[i]?
 | [],_=>rfl
 | _::_,0=>rfl
 | _::r,n+1=>by show nthV r n=_;rw [Qe5 r n];simp
def rowT (size:Nat) (l:List Value) (i j:Nat):TC:=match Nat.blt j size with
 | true=>.val (l.getD (i * size+j) undef)
 | false=>.any
inductive C where
 | i (k:IntKind) (n:Int)
 | b (x:Bool)
 | t (x:Bool)
 | v (x:Value)
 | p (r off:Nat)
 | h (r:Nat)
 | e (r sz ix off:Nat)
 | fn (f:Nat) (bnd:Bool) (caps:List Nat)
 | ar (r sz0 ix0 off sz len ix off2:Nat)
 | hs (r lo n:Nat)
inductive SV where
 | c (x:C)
 | agg (cs:List C)
 | tup (vs:List (Bool×List C))
 | u
structure Ent where
 h:Value
 fp:Nat→Prop
abbrev Env:=List Ent
def haddr:Value→Addr
 | .pointer (some a)=>a
 | .slice (some a) _ _=>a
 | _=>⟨0,0,none⟩
def bk:Value→Option Nat
 | .pointer (some a)=>some a.block
 | .slice (some a) _ _=>some a.block
 | .map (some r)=>some r
 | _=>none
def Env.ent (ε:Env) (r:Nat):Ent:=ε.getD r ⟨.slice none 0 0,fun _=>False⟩
def Env.at_ (ε:Env) (r:Nat):Value:=(ε.ent r).h
def Env.fp (ε:Env) (r:Nat):Nat→Prop:=(ε.ent r).fp
def Env.hs (ε:Env):List Value:=ε.map Ent.h
def fnDen (f:Nat) (bnd:Bool) (l:List Value):Value:=match bnd with
 | true=>.func (.func f) l.toArray #[]
 | false=>.func (.func f) #[] l.toArray
def pieceV (v:Value) (lo n:Nat):Value:=match v with
 | .slice A _ c=>.slice (A.map (·.add lo)) n (c-lo)
 | v=>v
def C.den (ε:Env):C→Value
 | .i k n=>.int k n
 | .b x=>.bool x
 | .t x=>.bool x
 | .v x=>x
 | .p r off=>.pointer (some ((haddr (ε.at_ r)).add off))
 | .h r=>ε.at_ r
 | .e r sz ix off=>.pointer (some ((haddr (ε.at_ r)).add (ix * sz+off)))
 | .fn f bnd caps=>fnDen f bnd (caps.map ε.at_)
 | .ar r sz0 ix0 off sz _ ix off2=>.pointer (some ((haddr (ε.at_ r)).add (ix0 * sz0+(off+(ix * sz+off2)))))
 | .hs r lo n=>pieceV (ε.at_ r) lo n
def denPart (ε:Env) (x:Bool×List C):Value:=
 if x.1 then .agg (x.2.map (C.den ε)).toArray else (x.2.map (C.den ε)).headD undef
def SV.den (ε:Env):SV→Value
 | .c x=>x.den ε
 | .agg cs=>.agg (cs.map (C.den ε)).toArray
 | .tup vs=>.tuple (vs.map (denPart ε)).toArray
 | .u=>undef
structure Ext where
 l:Nat
 n:Nat
 enc:Nat→SV
 G:Nat→Bool→(Nat→Prop)→World→Prop
 ro:Nat→Prop
 w0:World
inductive Reg where
 | box (ty:Nat) (cells:List C)
 | own (ty size n:Nat) (f:Nat→Nat→TC) (foc:Option (Nat×List C))
 | row (size n:Nat) (f:Nat→Nat→TC) (foc:Option (Nat×List C))
 | ro (cells:List C)
 | dead
 | one
 | froz (X:Ext)
 | ext (X:Ext) (k:Nat) (alive:Bool)
 | mp (T:MT) (n:Nat) (has:KA T.K→Bool) (f:KA T.K→KA T.V) (it:Option (MIt T.K))
 | itr (r:Nat)
 | full (size n:Nat) (f:Nat→Nat→TC)
def Reg.excl:Reg→Bool
 | .box .. | .own .. | .ext .. | .mp ..=>true
 | _=>false
def Reg.hand:Reg→Bool
 | .dead | .froz _=>false
 | _=>true
def Reg.live:Reg→Bool
 | .dead | .one | .itr _=>false
 | _=>true
structure En where
 slot:Nat
 g:List (Nat×Bool)
 sv:SV
structure St where
 N:Nat
 fr:List En
 rg:List Reg
 wr:List Nat:=[]
def RdRow (w:World) (fp:Nat→Prop) (h:Value) (size n:Nat) (ok:Nat→Nat→Value→Prop):Prop:=
 ∃ A c,h=.slice A n c∧n≤c∧c≤maxLen∧(∀ a,A=some a→0<n→a.block<w.heap.size∧fp a.block) ∧
  (0<n→∃ a,A=some a∧∀ i j,i<n→j<size→∃ u,w.cell? (a.add (i * size+j))=some u∧ok i j u)
def getV (els:List (List Value)) (i j:Nat):Option Value:=(els[i]?).bind (·[j]?)
def OwnRow (w:World) (M fp:Nat→Prop) (ty size n:Nat) (h:Value) (ok:Nat→Nat→(Nat→Prop)→Value→Prop):Prop:=
 ∃ els:List (List Value),w.ownsRow 0 ty size h n els.flatten∧els.length=n∧(∀ el∈els,el.length=size)∧(∀ b,bk h=some b→fp b∧M b) ∧
  ∃ fps:Nat→Nat→Nat→Prop,
   (∀ i j,i<n→j<size→∃ u,getV els i j=some u∧ok i j (fps i j) u) ∧
   (∀ i j b,i<n→j<size→fps i j b→fp b∧bk h≠some b) ∧
   (∀ i j i' j' b,i<n→j<size→i'<n→j'<size→fps i j b→fps i' j' b→i=i'∧j=j')
def RdC (w:World) (fp:Nat→Prop):TC→Value→Prop
 | .val x,v=>v=x
 | .sub _ size n f,v=>RdRow w fp v size n fun i j u=>RdC w fp (f i j) u
 | .any,_=>True
def OwnC (w:World) (M:Nat→Prop):TC→(Nat→Prop)→Value→Prop
 | .val x,_,v=>v=x
 | .sub ty size n f,fp,v=>OwnRow w M fp ty size n v fun i j fp' u=>OwnC w M (f i j) fp' u
 | .any,_,_=>True
def focOk (size n:Nat):Option (Nat×List C)→Prop
 | none=>True
 | some (k,cs)=>k<n∧cs.length=size
def okR (ε:Env) (w:World) (fp:Nat→Prop) (f:Nat→Nat→TC):Option (Nat×List C)→Nat→Nat→Value→Prop
 | none=>fun i j u=>RdC w fp (f i j) u
 | some (k,cs)=>fun i j u=>RdC w fp (f i j) u∧(i=k→∃ x,cs[j]?=some x∧u=x.den ε)
def okO (ε:Env) (w:World) (M:Nat→Prop) (f:Nat→Nat→TC):Option (Nat×List C)→Nat→Nat→(Nat→Prop)→Value→Prop
 | none=>fun i j fp u=>OwnC w M (f i j) fp u
 | some (k,cs)=>fun i j fp u=>(i≠k→OwnC w M (f i j) fp u)∧(i=k→∃ x,cs[j]?=some x∧u=x.den ε)
def RegOk (ε:Env) (M:Nat→Prop) (w:World) (e:Ent):Reg→Prop
 | .box ty cells=>∃ g,e.h=.pointer (some ⟨g,0,none⟩)∧M g∧e.fp g∧w.heap[g]?=some (.cells (cells.map (C.den ε)).toArray ty (0,0))
 | .own ty size n f foc=>OwnRow w M e.fp ty size n e.h (okO ε w M f foc)∧focOk size n foc
 | .row size n f foc=>RdRow w e.fp e.h size n (okR ε w e.fp f foc)∧focOk size n foc
 | .ro cells=>∃ a,e.h=.pointer (some a)∧a.block<w.heap.size∧e.fp a.block∧∀ j x,cells[j]?=some x→w.cell? (a.add j)=some (x.den ε)
 | .dead=>True
 | .one=>e.h.oneCell'=true
 | .froz X=>∀ b,X.ro b→e.fp b∧b<w.heap.size∧w.heap[b]?=X.w0.heap[b]?
 | .ext X k alive=>e.h=.func (.yield X.l) #[] #[]∧∃ w1:World,X.G k alive e.fp w1∧w1.heap.size≤w.heap.size∧∀ b,e.fp b→b<w.heap.size∧w.heap[b]?=w1.heap[b]?
 | .mp T n has f it=>MapAt w M e.fp T e.h n has f it
 | .itr r=>e.h=itPtr r
 | .full size n f=>RdRow w e.fp e.h size n (fun i j u=>RdC w e.fp (f i j) u)∧∃ A,e.h=.slice A n n
def Sep (rg:List Reg) (ε:Env):Prop:=
 ∀ i j ri rj,i≠j→rg[i]?=some ri→rg[j]?=some rj→ri.excl=true→rj.live=true→∀ b,ε.fp i b→¬ ε.fp j b
def get (a:Act) (t:Nat):Value:=a.tmps.getD t undef
def gHolds (a:Act) (g:List (Nat×Bool)):Prop:=∀ x∈g,get a x.1=.bool x.2
def EnOk (ε:Env) (N:Nat) (a:Act) (e:En):Prop:=
 e.slot<N∧(gHolds a e.g→get a e.slot=e.sv.den ε)∧(¬ gHolds a e.g→get a e.slot=undef)
structure RegsOk (ε:Env) (M L:Nat→Prop) (w:World) (rg:List Reg):Prop where
 len:ε.length=rg.length
 reg:∀ i r,rg[i]?=some r→RegOk ε M w (ε.ent i) r
 lt:∀ i r,rg[i]?=some r→r.live=true→∀ b,ε.fp i b→b<w.heap.size∧L b
 lim:∀ i r,rg[i]?=some r→r.excl=true→∀ b,ε.fp i b→M b
 sep:Sep rg ε
structure Fr (m:Nat→Prop) (w w':World):Prop where
 os:w'.os=w.os
 tape:w'.tape=w.tape
 output:w'.output=w.output
 size:w.heap.size≤w'.heap.size
 block:∀ k,k<w.heap.size→¬ m k→w'.heap[k]?=w.heap[k]?
structure Base where
 w:World
 e:List Value
 m:Nat→Prop
 l:Nat→Prop
 ro:Option Nat:=none
 d:List Deferred:=[]
def Base.M (b:Base) (g:Nat):Prop:=b.w.heap.size≤g∨b.m g
def Base.L (b:Base) (g:Nat):Prop:=b.w.heap.size≤g∨b.l g
def inWr (n:Nat):List Nat→Bool
 | []=>false
 | m::r=>Nat.beq n m||inWr n r
def St.rd (st:St):Bool:=inWr 1000000007 st.wr
structure SatE (b:Base) (st:St) (ε:Env) (a:Act) (w:World):Prop where
 defs:a.defers=b.d∧(st.rd=false→b.ro=none)
 size:a.tmps.size=st.N
 fr:∀ e∈st.fr,EnOk ε st.N a e
 regs:RegsOk ε b.M b.L w st.rg
 below:Fr b.m b.w w
 pre:b.e <+: ε.hs
def Sat (b:Base) (st:St) (a:Act) (w:World):Prop:=∃ ε:Env,SatE b st ε a w
def lookup (t:Nat):List En→Option En
 | []=>none
 | e::r=>if Nat.beq e.slot t then some e else lookup t r
def beqB:Bool→Bool→Bool
 | true,b=>b
 | false,b=>!b
def hasG (x:Nat×Bool):List (Nat×Bool)→Bool
 | []=>false
 | y::r=>(Nat.beq x.1 y.1&&beqB x.2 y.2)||hasG x r
def subG:List (Nat×Bool)→List (Nat×Bool)→Bool
 | [],_=>true
 | x::r,g=>hasG x g&&subG r g
def toC:Value→C
 | .int k n=>.i k n
 | .bool x=>.b x
 | x=>.v x
def constC:Value→C
 | .int k n=>.i k n
 | .bool true=>.t true
 | .bool false=>.t false
 | x=>.v x
def constS:Value→Option SV
 | .agg cs=>some (.agg (cs.toList.map constC))
 | .tuple _=>none
 | x=>some (.c (constC x))
def opnd (st:St) (g:List (Nat×Bool)):Operand→Option SV
 | .tmp t=>match lookup t st.fr with
   | some e=>if subG e.g g then some e.sv else none
   | none=>none
 | .const v=>constS v
 | .func f=>some (.c (.fn f false []))
 | .global _=>none
def opndC (st:St) (g:List (Nat×Bool)) (x:Operand):Option C:=
 match opnd st g x with
 | some (.c c)=>some c
 | _=>none
def C.asBool:C→Option Bool
 | .b x=>some x
 | .t x=>some x
 | _=>none
def C.asInt:C→Option (IntKind×Int)
 | .i k n=>some (k,n)
 | _=>none
def C.asStr:C→Option ByteArray
 | .v (.string s)=>some s
 | _=>none
def tySize (P:Program) (t:Nat):Option Nat:=(P.info? t).map (·.size)
def tyZero (P:Program) (t:Nat):Option Value:=(P.info? t).bind (·.zero)
def tyBytes (P:Program) (t:Nat):Option Nat:=(P.info? t).map (·.bytes)
def isAggB (P:Program) (t:Nat):Option Bool:=
 match P.underlying t with
 | some (.struct _) | some (.array ..)=>some true
 | some _=>some false
 | none=>none
def structOf (P:Program) (t:Nat):Option (Array Field):=
 match P.underlying t with
 | some (.struct fs)=>some fs
 | _=>none
def sliceOf (P:Program) (t:Nat):Option Nat:=
 match P.underlying t with
 | some (.slice e)=>some e
 | _=>none
def arrayOf (P:Program) (t:Nat):Option (Nat×Nat):=
 match P.underlying t with
 | some (.array n e)=>some (n,e)
 | _=>none
def nth {α:Type}:List α→Nat→Option α
 | [],_=>none
 | x::_,0=>some x
 | _::r,n+1=>nth r n
def cut {α:Type} (l:List α) (off n:Nat):Option (List α):=
 match n with
 | 0=>some []
 | n+1=>match nth l off,cut l (off+1) n with
   | some x,some r=>some (x::r)
   | _,_=>none
def Fits (k:IntKind) (n:Int):Prop:=k.min≤n∧n≤k.max
def bin (op:BinOp) (wraps:Bool) (k:IntKind) (a b:Int):Option (C×List Prop):=
 match op with
 | .eql=>some (.b (decide (a=b)),[])
 | .neq=>some (.b (!decide (a=b)),[])
 | .lss=>some (.b (decide (a<b)),[])
 | .leq=>some (.b (decide (a≤b)),[])
 | .gtr=>some (.b (decide (b<a)),[])
 | .geq=>some (.b (decide (b≤a)),[])
 | .add=>some (if wraps then (.i k (k.wrap (a+b)),[]) else (.i k (a+b),[Fits k (a+b)]))
 | .sub=>some (if wraps then (.i k (k.wrap (a-b)),[]) else (.i k (a-b),[Fits k (a-b)]))
 | .mul=>some (if wraps then (.i k (k.wrap (a * b)),[]) else (.i k (a * b),[Fits k (a * b)]))
 | .quo=>some (if wraps then (.i k (k.wrap (a.tdiv b)),[b≠0]) else (.i k (a.tdiv b),[b≠0,Fits k (a.tdiv b)]))
 | .rem=>some (.i k (a.tmod b),[b≠0])
 | .and=>some (.i k (bits .and k a b),[])
 | .or=>some (.i k (bits .or k a b),[])
 | .xor=>some (.i k (bits .xor k a b),[])
 | .andNot=>some (.i k (bits .andNot k a b),[])
 | _=>none
def loadFrom (P:Program) (t:Nat) (cells:List C) (off:Nat):Option SV:=
 match isAggB P t,tySize P t with
 | some true,some n=>(cut cells off n).map .agg
 | some false,_=>(nth cells off).map .c
 | _,_=>none
def tcC:TC→Option C
 | .val x=>some (toC x)
 | _=>none
def cutT (g:Nat→TC) (off:Nat):Nat→Option (List C)
 | 0=>some []
 | n+1=>match tcC (g off),cutT g (off+1) n with
   | some x,some r=>some (x::r)
   | _,_=>none
def loadT (P:Program) (t size:Nat) (g:Nat→TC) (off:Nat):Option SV:=
 match isAggB P t,tySize P t with
 | some true,some n=>if Nat.ble (off+n) size then (cutT g off n).map .agg else none
 | some false,_=>if Nat.blt off size then (tcC (g off)).map .c else none
 | _,_=>none
def ints (k:IntKind):List C→Option (List Int)
 | []=>some []
 | .i k' n::r=>if decide (k=k') then (ints k r).map (n::·) else none
 | _::_=>none
def intsOf:List C→Option (IntKind×List Int)
 | .i k n::r=>(ints k r).map fun l=>(k,n::l)
 | _=>none
def strs:List C→Option (List ByteArray)
 | []=>some []
 | .v (.string s)::r=>(strs r).map (s::·)
 | _::_=>none
def bools:List C→Option (List Bool)
 | []=>some []
 | .b x::r=>(bools r).map (x::·)
 | .t x::r=>(bools r).map (x::·)
 | _::_=>none
def selC (col:List C) (ix:Nat):Option C:=
 match intsOf col with
 | some (k,ns)=>some (.i k (ns.getD ix 0))
 | none=>match strs col with
   | some ss=>some (.v (.string (ss.getD ix ⟨#[]⟩)))
   | none=>match bools col with
     | some bs=>some (.b (bs.getD ix false))
     | none=>none
def column (cells:List C) (off sz:Nat):Nat→Option (List C)
 | 0=>some []
 | n+1=>match nth cells off,column cells (off+sz) sz n with
   | some x,some r=>some (x::r)
   | _,_=>none
def selArr (cells:List C) (off sz len ix:Nat):Nat→Option (List C)
 | 0=>some []
 | n+1=>match (column cells off sz len).bind (selC · ix),selArr cells (off+1) sz len ix n with
   | some x,some r=>some (x::r)
   | _,_=>none
def loadArr (P:Program) (t:Nat) (cells:List C) (off sz len ix off2:Nat):Option (SV×List Prop):=
 match (match isAggB P t,tySize P t with
  | some true,some n=>(selArr cells (off+off2) sz len ix n).map SV.agg
  | some false,_=>((column cells (off+off2) sz len).bind (selC · ix)).map SV.c
  | _,_=>none) with
 | some s=>some (s,[ix<len])
 | none=>(loadFrom P t cells (off+(ix * sz+off2))).map (·,[])
def loadAt (P:Program) (st:St) (t:Nat):C→Option (SV×List Prop)
 | .p r off=>match nth st.rg r with
   | some (.box _ cells)=>(loadFrom P t cells off).map (·,[])
   | some (.ro cells)=>(loadFrom P t cells off).map (·,[])
   | _=>none
 | .e r sz ix off=>match nth st.rg r with
   | some (.row size n f none)=>if Nat.beq size sz then (loadT P t size (f ix) off).map (·,[ix<n]) else none
   | some (.own _ size n f none)=>if Nat.beq size sz then (loadT P t size (f ix) off).map (·,[ix<n]) else none
   | some (.row size n f (some (k,cs)))=>if Nat.beq size sz then (match loadT P t size (f ix) off with
     | some s=>some (s,[ix<n])
     | none=>(loadFrom P t cs off).map (·,[ix=k])) else none
   | some (.own _ size _ _ (some (k,cs)))=>if Nat.beq size sz then (loadFrom P t cs off).map (·,[ix=k]) else none
   | _=>none
 | .ar r sz0 ix0 off sz len ix off2=>match nth st.rg r with
   | some (.box _ cells)=>if Nat.beq sz0 0 then loadArr P t cells off sz len ix off2 else none
   | some (.ro cells)=>if Nat.beq sz0 0 then loadArr P t cells off sz len ix off2 else none
   | some (.row size _ _ (some (k,cs)))=>if Nat.beq size sz0 then (loadArr P t cs off sz len ix off2).map fun x=>(x.1,x.2++[ix0=k]) else none
   | some (.own _ size _ _ (some (k,cs)))=>if Nat.beq size sz0 then (loadArr P t cs off sz len ix off2).map fun x=>(x.1,x.2++[ix0=k]) else none
   | _=>none
 | _=>none
def fieldOf (P:Program) (s f:Nat):Option Field:=(structOf P s).bind fun fs=>nth fs.toList f
def noZero (P:Program) (t:Nat):Bool:=match tySize P t with
 | some 0=>false
 | some _=>true
 | none=>false
def setAt {α:Type}:List α→Nat→α→Option (List α)
 | [],_,_=>none
 | _::r,0,x=>some (x::r)
 | y::r,n+1,x=>(setAt r n x).map (y::·)
def setCut {α:Type} (l:List α) (off:Nat):List α→Option (List α)
 | []=>some l
 | x::r=>match setAt l off x with
   | some l'=>setCut l' (off+1) r
   | none=>none
def fillC (places:List (Nat×Nat)) (cells:List C):List (Nat×SV)→Option (List C)
 | []=>some cells
 | (i,v)::rest=>match nth places i,(match v with | .c x=>some [x] | .agg xs=>some xs | _=>none) with
   | some (off,sz),some xs=>if Nat.beq xs.length sz&&Nat.ble (off+sz) cells.length then
      match setCut cells off xs with
      | some cells'=>fillC places cells' rest
      | none=>none
     else none
   | _,_=>none
def opnds (st:St) (g:List (Nat×Bool)):List Operand→Option (List SV)
 | []=>some []
 | x::r=>match opnd st g x,opnds st g r with
   | some v,some vs=>some (v::vs)
   | _,_=>none
def partsOf (st:St) (g:List (Nat×Bool)):List (Nat×Operand)→Option (List (Nat×SV))
 | []=>some []
 | (i,x)::r=>match opnd st g x,partsOf st g r with
   | some v,some vs=>some ((i,v)::vs)
   | _,_=>none
def isVar (st:St) (r:Nat):Bool:=match nth st.rg r with
 | some (.box ..)=>true
 | some (.ro _)=>true
 | _=>false
def capOf (st:St):SV→Option Nat
 | .c (.p r 0)=>if isVar st r then some r else none
 | .c (.h r)=>some r
 | _=>none
def capsOf (st:St):List SV→Option (List Nat)
 | []=>some []
 | v::l=>match capOf st v,capsOf st l with
   | some r,some rs=>some (r::rs)
   | _,_=>none
def zeroCells (P:Program) (t:Nat):Option (List C):=match tyZero P t with
 | some z=>some (z.cells.toList.map constC)
 | none=>none
def hasN (n:Nat):List Nat→Bool
 | []=>false
 | m::r=>Nat.beq n m||hasN n r
def placesOf (P:Program):List Field→Option (List (Nat×Nat))
 | []=>some []
 | f::r=>match tySize P f.type,placesOf P r with
   | some n,some l=>some ((f.offset,n)::l)
   | _,_=>none
abbrev se (n:Nat) (x:C):En:=⟨n,[],.c x⟩
end Go.Tx
namespace Go.Tx
open Go Go.RowKit
def C.one:C→Bool
 | .v x=>x.oneCell'
 | .h _=>false
 | .hs ..=>false
 | _=>true
def C.one' (st:St):C→Bool
 | .h r=>match nth st.rg r with
   | some x=>x.hand
   | none=>false
 | c=>c.one
def partOne (st:St):Nat×SV→Bool
 | (_,.c x)=>x.one' st
 | _=>true
def CK.c:(c:CK)→c.α→C
 | .i k,n=>.i k n
 | .s,x=>.v (.string x)
 | .b,x=>.b x
def KA.cs:(K:List CK)→KA K→List C
 | [],_=>[]
 | [c],x=>[c.c x]
 | c::d::r,x=>c.c x.1::KA.cs (d::r) x.2
def CK.of:(c:CK)→C→Option c.α
 | .i k,.i k' n=>if decide (k=k') then (some n:Option Int) else none
 | .s,.v (.string x)=>some x
 | .b,.b x=>some x
 | .b,.t x=>some x
 | _,_=>none
def KA.of:(K:List CK)→List C→Option (KA K)
 | [],[]=>some ()
 | [c],[x]=>CK.of c x
 | c::d::r,x::xs=>match CK.of c x,KA.of (d::r) xs with
   | some a,some b=>some (a,b)
   | _,_=>none
 | _,_=>none
def kaOf (K:List CK) (agg:Bool):SV→Option (KA K)
 | .c x=>match agg with
   | true=>none
   | false=>KA.of K [x]
 | .agg xs=>match agg with
   | true=>KA.of K xs
   | false=>none
 | _=>none
def CK.vc:(c:CK)→c.α→List Prop
 | .i k,n=>[Fits k n]
 | .s,x=>[ByteArray.size x≤maxLen]
 | .b,_=>[]
def KA.vc:(K:List CK)→KA K→List Prop
 | [],_=>[]
 | [c],x=>c.vc x
 | c::d::r,x=>c.vc x.1++KA.vc (d::r) x.2
def svOf (agg:Bool) (l:List C):SV:=match agg with
 | true=>.agg l
 | false=>match l with
   | c::_=>.c c
   | []=>.u
def ckField (P:Program):List Field→Option (List CK)
 | []=>some []
 | f::r=>match P.underlying f.type,ckField P r with
   | some (.int k),some l=>some (.i k::l)
   | some .string,some l=>some (.s::l)
   | some .bool,some l=>some (.b::l)
   | _,_=>none
def ckOf (P:Program) (t:Nat):Option (List CK×Bool):=match P.underlying t with
 | some (.int k)=>some ([.i k],false)
 | some .string=>some ([.s],false)
 | some .bool=>some ([.b],false)
 | some (.struct fs)=>(ckField P fs.toList).map (·,true)
 | _=>none
def mtOf (P:Program) (t:Nat):Option MT:=match P.underlying t with
 | some (.map k e)=>match ckOf P k,ckOf P e with
   | some (K,ka),some (V,va)=>some ⟨P,t,k,e,K,ka,V,va⟩
   | _,_=>none
 | _=>none
def lookupC (P:Program) (st:St) (t:Nat) (m:C) (x:SV) (ok:Bool):Option (SV×List Prop):=
 match m with
 | .h r=>match nth st.rg r with
   | some (.mp T n has f it)=>match Nat.beq T.t t,kaOf T.K T.kAgg x with
     | true,some a=>some (match ok with
       | true=>.tup [(T.vAgg,KA.cs T.V (f a)),(false,[.b (has a)])]
       | false=>svOf T.vAgg (KA.cs T.V (f a)),KA.vc T.K a++[T.P=P])
     | _,_=>none
   | _=>none
 | _=>none
def curOf (P:Program) (r:Nat):List Reg→Option (SV×List Prop)
 | []=>none
 | .mp T n has f (some ⟨r',left,cnt,some a⟩)::_=>some (.tup [(T.kAgg,KA.cs T.K a),(T.vAgg,KA.cs T.V (f a))],[r=r',T.P=P])
 | _::l=>curOf P r l
def entryC (P:Program) (st:St) (x:C):Option (SV×List Prop):=
 match x with
 | .h j=>match nth st.rg j with
   | some (.itr r)=>curOf P r st.rg
   | _=>none
 | _=>none
def pickS (st:St) (g:List (Nat×Bool)) (c a b:Operand):Option SV:=
 match c,opndC st g c with
 | _,some (.t true)=>opnd st g a
 | _,some (.t false)=>opnd st g b
 | .tmp tc,some (.b x)=>match a,b with
   | .const (.bool true),y=>match opndC st (g++[(tc,false)]) y with
     | some cy=>match cy.asBool with
       | some yb=>some (.c (.b (x||yb)))
       | none=>none
     | none=>none
   | y,.const (.bool false)=>match opndC st (g++[(tc,true)]) y with
     | some cy=>match cy.asBool with
       | some yb=>some (.c (.b (x&&yb)))
       | none=>none
     | none=>none
   | _,_=>none
 | _,_=>none
def eqCells (P:Program):List Field→List C→List C→Option Bool
 | [],_,_=>some true
 | f::fs,xs,ys =>
   match nth xs f.offset,nth ys f.offset,P.underlying f.type,eqCells P fs xs ys with
   | some (.i k a),some (.i k' b),some (.int _),some r=>if decide (k=k') then some (decide (a=b)&&r) else none
   | some cx,some cy,some .bool,some r=>match cx.asBool,cy.asBool with
     | some x,some y=>some (decide (x=y)&&r)
     | _,_=>none
   | some cx,some cy,some .string,some r=>match cx.asStr,cy.asStr with
     | some x,some y=>some (decide (x=y)&&r)
     | _,_=>none
   | _,_,_,_=>none
def plainField (f : Field) : Bool := f.name != "_"
def isPtr:C→Bool
 | .p .. | .e .. | .ar ..=>true
 | _=>false
def isNilP:C→Bool
 | .v (.pointer none)=>true
 | _=>false
def ptrNil (P:Program) (op:BinOp) (t:Nat) (x y:C):Option (C×List Prop):=
 match P.underlying t with
 | some (.pointer _)=>if isNilP y&&(isPtr x||isNilP x) then
    match op with
    | .eql=>some (.t (isNilP x),[])
    | .neq=>some (.t (!isNilP x),[])
    | _=>none
   else none
 | _=>none
def binRest (P:Program) (op:BinOp) (t:Nat) (x y:C):Option (C×List Prop):=
 match x.asBool,y.asBool,P.underlying t with
 | some x,some y,some .bool=>match op with
   | .eql=>some (.b (decide (x=y)),[])
   | .neq=>some (.b (!decide (x=y)),[])
   | _=>none
 | _,_,_=>match x.asStr,y.asStr with
   | some x,some y=>match op with
     | .eql=>some (.b (decide (x=y)),[])
     | .neq=>some (.b (!decide (x=y)),[])
     | .add=>some (.v (.string (x++y)),[((x.size+y.size:Nat):Int)≤IntKind.i64.max])
     | _=>none
   | _,_=>ptrNil P op t x y
def shlI (k:IntKind) (a b:Int):Int:=k.wrap (a * 2 ^ min b.toNat k.bits)
def shrI (k:IntKind) (a b:Int):Int:=a.fdiv (2 ^ min b.toNat k.bits)
def shiftC (op:BinOp) (k:IntKind) (a b:Int):Option (C×List Prop):=
 match op with
 | .shl=>some (.i k (shlI k a b),[0≤b])
 | .shr=>some (.i k (shrI k a b),[0≤b])
 | _=>none
def binC (P:Program) (wraps:Bool) (op:BinOp) (t:Nat) (x y:C):Option (C×List Prop):=
 match x.asInt,y.asInt with
 | some (k,a),some (k',b)=>match shiftC op k a b with
   | some r=>some r
   | none=>if decide (k=k') then bin op wraps k a b else none
 | _,_=>binRest P op t x y
def addrOff (c:C) (n:Nat):Option C:=
 match c with
 | .p r off=>some (.p r (off+n))
 | .e r sz ix off=>some (.e r sz ix (off+n))
 | .ar r sz0 ix0 off sz len ix off2=>some (.ar r sz0 ix0 off sz len ix (off2+n))
 | _=>none
def indexAddrC (P:Program) (st:St) (t:Nat) (x:C) (i:Int):Option (C×List Prop):=
 match sliceOf P t,arrayOf P t with
 | some e,_=>match x,tySize P e with
   | .h r,some sz=>match nth st.rg r with
     | some (.row size n _ _)=>if Nat.beq size sz then some (.e r sz i.toNat 0,[0≤i,i<n]) else none
     | some (.own _ size n _ _)=>if Nat.beq size sz then some (.e r sz i.toNat 0,[0≤i,i<n]) else none
     | _=>none
   | _,_=>none
 | none,some (len,e)=>match x,tySize P e with
   | .p r off,some sz=>some (.ar r 0 0 off sz len i.toNat 0,[0≤i,i<len])
   | .e r sz0 ix0 off,some sz=>some (.ar r sz0 ix0 off sz len i.toNat 0,[0≤i,i<len])
   | _,_=>none
 | _,_=>none
def isStrT (P:Program) (t:Nat):Bool:=match P.underlying t with
 | some .string=>true
 | _=>false
def indexC (P:Program) (t:Nat) (x:SV) (i:Int):Option (SV×List Prop):=
 match arrayOf P t,x with
 | some (len,e),.agg cs=>match tySize P e with
   | some sz=>(loadArr P e cs 0 sz len i.toNat 0).map fun x=>(x.1,x.2++[0≤i,i<len])
   | none=>none
 | none,.c (.v (.string s))=>if isStrT P t then some (.c (.i .u8 ((s.data.toList.getD i.toNat 0).toNat:Int)),[0≤i,i<s.size]) else none
 | _,_=>none
def intOf2 (st:St) (g:List (Nat×Bool)) (x y:Operand):Option (IntKind×Int×Int):=
 match opndC st g x,opndC st g y with
 | some cx,some cy=>match cx.asInt,cy.asInt with
   | some (k,a),some (_,b)=>some (k,a,b)
   | _,_=>none
 | _,_=>none
def lenOfC (P:Program) (st:St) (t:Nat) (c:C):Option (Int×List Prop):=
 match sliceOf P t with
 | some _=>match c with
   | .h r=>match nth st.rg r with
     | some (.row _ n _ _)=>some (n,[])
     | some (.own _ _ n _ _)=>some (n,[])
     | _=>none
   | .v (.slice _ n _)=>some (n,[])
   | _=>none
 | none=>match isStrT P t,c.asStr with
   | true,some s=>some (s.size,[])
   | _,_=>none
def builtinC (P:Program) (st:St) (g:List (Nat×Bool)) (b:Builtin) (args:List Operand) (ts:List TypeId):Option (SV×List Prop):=
 match args,ts with
 | [x],[t]=>match b,opndC st g x with
   | .len,some c=>(lenOfC P st t c).map fun n=>(.c (.i .i64 n.1),n.2)
   | _,_=>none
 | [x,y],_=>match b,intOf2 st g x y with
   | .max,some (k,a,b)=>some (.c (.i k (if b>a then b else a)),[])
   | .min,some (k,a,b)=>some (.c (.i k (if b<a then b else a)),[])
   | _,_=>none
 | _,_=>none
def wraps (st:St) (o:Oper):Bool:=match o.dst with
 | some d=>hasN d st.wr
 | none=>false
def wrapOr (wr:Bool) (k:IntKind) (n:Int):SV×List Prop:=if wr then (.c (.i k (k.wrap n)),[]) else (.c (.i k n),[Fits k n])
def eqAggC (P:Program) (op:BinOp) (t:Nat) (xs ys:List C):Option (SV×List Prop):=
 match structOf P t with
 | some fs=>if fs.toList.all plainField&&!P.stoodInHeld t&&!P.eqGuardType P.depth t then
    match eqCells P fs.toList xs ys with
    | some r=>match op with
      | .eql=>some (.c (.b r),[])
      | .neq=>some (.c (.b !r),[])
      | _=>none
    | none=>none
   else none
 | none=>none
def buildC (P:Program) (t:Nat) (z:List C) (ps:List (Nat×SV)):Option (List C):=
 match structOf P t with
 | some fs=>match placesOf P fs.toList with
   | some places=>fillC places z ps
   | none=>none
 | none=>match arrayOf P t with
   | some (n,e)=>match tySize P e with
     | some sz=>fillC ((List.range n).map fun i=>(i * sz,sz)) z ps
     | none=>none
   | none=>none
def extractC (vs:List (Bool×List C)) (ix:Nat):Option SV:=
 match nth vs ix with
 | some (true,cs)=>some (.agg cs)
 | some (false,c::_)=>some (.c c)
 | _=>none
def boundOf (st:St) (g:List (Nat×Bool)) (x:Option Operand) (d:Int):Option Int:=
 match x with
 | none=>some d
 | some x=>match opndC st g x with
   | some (.i _ n)=>some n
   | _=>none
def pureOp (P:Program) (st:St) (g:List (Nat×Bool)) (o:Oper):Option (SV×List Prop):=
 match o.op with
 | .move x=>(opnd st g x).map (·,[])
 | .assign x=>(opnd st g x).map (·,[])
 | .pick c a b=>(pickS st g c a b).map (·,[])
 | .load t a=>match opndC st g a with
   | some c=>loadAt P st t c
   | none=>none
 | .nilCheck x=>match opndC st g x with
   | some (.p r off)=>some (.c (.p r off),[])
   | some (.e r sz ix off)=>some (.c (.e r sz ix off),[])
   | some (.ar r sz0 ix0 off sz len ix off2)=>some (.c (.ar r sz0 ix0 off sz len ix off2),[])
   | some (.fn f b cs)=>some (.c (.fn f b cs),[])
   | _=>none
 | .binOp op t x y _=>match opnd st g x,opnd st g y with
   | some (.c x),some (.c y)=>(binC P (wraps st o) op t x y).map fun r=>(.c r.1,r.2)
   | some (.agg xs),some (.agg ys)=>eqAggC P op t xs ys
   | _,_=>none
 | .unOp .not _ x=>match opndC st g x with
   | some (.b x)=>some (.c (.b !x),[])
   | some (.t x)=>some (.c (.t !x),[])
   | _=>none
 | .unOp .neg _ x=>match opndC st g x with
   | some (.i k n)=>some (wrapOr (wraps st o) k (0-n))
   | _=>none
 | .convert src dst x=>match P.underlying src,P.underlying dst,opndC st g x with
   | some (.int _),some (.int k),some (.i _ n)=>some (wrapOr (wraps st o) k n)
   | _,_,_=>none
 | .fieldAddr s x f=>match opndC st g x,fieldOf P s f with
   | some c,some fd=>if noZero P fd.type then (addrOff c fd.offset).map fun c=>(.c c,[]) else none
   | _,_=>none
 | .field t x f=>match opnd st g x,fieldOf P t f with
   | some (.agg cs),some fd=>(loadFrom P fd.type cs fd.offset).map (·,[])
   | _,_=>none
 | .indexAddr t x ix=>match opndC st g x,opndC st g ix with
   | some c,some (.i _ i)=>(indexAddrC P st t c i).map fun r=>(.c r.1,r.2)
   | _,_=>none
 | .index t x ix=>match opnd st g x,opndC st g ix with
   | some v,some (.i _ i)=>indexC P t v i
   | _,_=>none
 | .extract t ix=>match opnd st g t with
   | some (.tup vs)=>(extractC vs ix).map (·,[])
   | _=>none
 | .build t parts=>match zeroCells P t,partsOf st g parts.toList with
   | some z,some ps=>if ps.all (partOne st) then (buildC P t z ps).map fun cs=>(.agg cs,[]) else none
   | _,_=>none
 | .slice t x lo hi mx=>match isStrT P t,opndC st g x,mx with
   | true,some c,none=>match c.asStr,boundOf st g lo 0,boundOf st g hi ((match c.asStr with | some s=>s.size | none=>0:Nat):Int) with
     | some s,some l,some h=>some (.c (.v (.string (s.extract l.toNat h.toNat))),[0≤l,l≤h,h≤s.size])
     | _,_,_=>none
   | _,_,_=>none
 | .makeFunc (.func f) first caps=>match first.toList,opnds st g caps.toList with
   | [],some cs=>(capsOf st cs).map fun rs=>(.c (.fn f false rs),[])
   | [x],some []=>match opnds st g [x] with
     | some cs=>(capsOf st cs).map fun rs=>(.c (.fn f true rs),[])
     | none=>none
   | _,_=>none
 | .call { callee:=.builtin b,args,argTypes }=>builtinC P st g b args.toList argTypes.toList
 | .lookup t m x ok=>match opndC st g m,opnd st g x with
   | some m,some x=>lookupC P st t m x ok
   | _,_=>none
 | .entry x=>match opndC st g x with
   | some x=>entryC P st x
   | none=>none
 | _=>none
def C.scp (n:Nat):C→Bool
 | .p r _=>Nat.blt r n
 | .h r=>Nat.blt r n
 | .e r _ _ _=>Nat.blt r n
 | .ar r _ _ _ _ _ _ _=>Nat.blt r n
 | .hs r _ _=>Nat.blt r n
 | .fn _ _ caps=>caps.all fun r=>Nat.blt r n
 | _=>true
def SV.scp (n:Nat):SV→Bool
 | .c x=>x.scp n
 | .agg cs=>cs.all (C.scp n)
 | .tup vs=>vs.all fun v=>v.2.all (C.scp n)
 | .u=>true
def focScoped (n:Nat):Option (Nat×List C)→Bool
 | none=>true
 | some x=>x.2.all (C.scp n)
def Reg.scp (n:Nat):Reg→Bool
 | .box _ cells=>cells.all (C.scp n)
 | .own _ _ _ _ foc=>focScoped n foc
 | .row _ _ _ foc=>focScoped n foc
 | .ro cells=>cells.all (C.scp n)
 | _=>true
def St.scp (st:St):Bool:=st.fr.all (fun e=>e.sv.scp st.rg.length)&&st.rg.all (Reg.scp st.rg.length)
def SV.cells (st:St):SV→Option (List C)
 | .c x=>if x.one' st then some [x] else none
 | .agg cs=>if cs.all (C.one' st) then some cs else none
 | _=>none
def C.val:C→Option Value
 | .i k n=>some (.int k n)
 | .b x=>some (.bool x)
 | .t x=>some (.bool x)
 | .v x=>if x.oneCell' then some x else none
 | _=>none
def vals:List C→Option (List Value)
 | []=>some []
 | c::r=>match c.val,vals r with
   | some v,some vs=>some (v::vs)
   | _,_=>none
def alloc (st:St) (ty:Nat) (cells:List C):Option (St×SV):=
 if st.scp&&cells.all (C.scp st.rg.length) then some ({ st with rg:=st.rg++[.box ty cells] },.c (.p st.rg.length 0)) else none
def own (st:St) (ty size n:Nat) (f:Nat→Nat→TC) (foc:Option (Nat×List C)):Option (St×SV):=
 if st.scp&&focScoped st.rg.length foc then some ({ st with rg:=st.rg++[.own ty size n f foc] },.c (.h st.rg.length)) else none
def updT (f:Nat→Nat→TC) (ix off:Nat) (vs:List Value):Nat→Nat→TC:=fun i j =>
 if i=ix∧off≤j∧j<off+vs.length then .val (vs.getD (j-off) undef) else f i j
def setArr (off ix:Nat) (x:C) (cells:List C) (len:Nat):Option (List C):=
 match (cut cells off len).bind intsOf,x with
 | some (k,ns),.i k' n=>if decide (k=k') then setCut cells off ((List.range ns.length).map fun j=>C.i k (if ix=j then n else ns.getD j 0)) else none
 | _,_=>none
def storeArr (cells:List C) (off sz len ix off2:Nat) (cs:List C):Option (List C×List Prop):=
 match cs,Nat.beq sz 1,Nat.beq off2 0 with
 | [x],true,true=>match setArr off ix x cells len with
   | some r=>some (r,[ix<len])
   | none=>(setCut cells (off+(ix * sz+off2)) cs).map (·,[])
 | _,_,_=>(setCut cells (off+(ix * sz+off2)) cs).map (·,[])
def storeC (P:Program) (st:St) (t:Nat) (a:C) (x:SV):Option (St×List Prop):=
 match x.cells st,tySize P t with
 | some cs,some sz=>if Nat.beq cs.length sz then
    match a with
    | .p r off=>match nth st.rg r with
      | some (.box ty cells)=>match setCut cells off cs with
        | some cells'=>(setAt st.rg r (.box ty cells')).map fun rg=>({ st with rg },[])
        | none=>none
      | _=>none
    | .e r es ix off=>match nth st.rg r with
      | some (.own ty size n f none)=>if Nat.beq size es&&Nat.ble (off+sz) size then
         match vals cs with
         | some vs=>(setAt st.rg r (.own ty size n (updT f ix off vs) none)).map fun rg=>({ st with rg },[ix<n])
         | none=>none
        else none
      | some (.own ty size n f (some (k,cells)))=>if Nat.beq size es then
         match setCut cells off cs with
         | some cells'=>(setAt st.rg r (.own ty size n f (some (k,cells')))).map fun rg=>({ st with rg },[ix=k])
         | none=>none
        else none
      | _=>none
    | .ar r sz0 ix0 off sz2 len ix off2=>match nth st.rg r with
      | some (.box ty cells)=>if Nat.beq sz0 0 then
         match storeArr cells off sz2 len ix off2 cs with
         | some (cells',vc)=>(setAt st.rg r (.box ty cells')).map fun rg=>({ st with rg },vc)
         | none=>none
        else none
      | some (.own ty size n f (some (k,cells)))=>if Nat.beq size sz0 then
         match storeArr cells off sz2 len ix off2 cs with
         | some (cells',vc)=>(setAt st.rg r (.own ty size n f (some (k,cells')))).map fun rg=>({ st with rg },vc++[ix0=k])
         | none=>none
        else none
      | _=>none
    | _=>none
   else none
 | _,_=>none
def isNil:C→Bool
 | .v (.slice none 0 0)=>true
 | _=>false
def flatT (t:TC):Prop:=∃ x,t=.val x∧x.oneCell'=true
inductive News where
 | flat (m:Nat) (f:Nat→Nat→TC)
 | one (cs:List C)
def newsOf (st:St) (size:Nat):C→Option (News×List Prop)
 | .h r=>match nth st.rg r with
   | some (.own _ sz m f none)=>if Nat.beq sz size then some (.flat m f,[∀ i j,i<m→j<sz→flatT (f i j)]) else none
   | some (.row sz m f none)=>if Nat.beq sz size then some (.flat m f,[∀ i j,i<m→j<sz→flatT (f i j)]) else none
   | some (.own _ sz m _ (some (k,cs)))=>if Nat.beq sz size&&Nat.beq m 1&&Nat.beq k 0&&cs.all (C.one' st) then some (.one cs,[]) else none
   | _=>none
 | _=>none
def News.len:News→Nat
 | .flat m _=>m
 | .one _=>1
def News.reg (ty size n:Nat) (f:Nat→Nat→TC):News→Reg
 | .flat m g=>.own ty size (n+m) (fun i j=>if i<n then f i j else g (i-n) j) none
 | .one cs=>.own ty size (n+1) f (some (n,cs))
def News.reg0 (ty size:Nat):News→Reg
 | .flat m g=>.own ty size m g none
 | .one cs=>.own ty size 1 (fun _ _=>.any) (some (0,cs))
def isH:C→Nat→Bool
 | .h r',r=>Nat.beq r' r
 | _,_=>false
def appendC (P:Program) (st:St) (t:Nat) (s x:C):Option (St×SV×List Prop):=
 match sliceOf P t with
 | some e=>match tySize P e,tyBytes P e,newsOf st (match tySize P e with | some n=>n | none=>0) x with
   | some (sz+1),some by_,some (news,vc)=>match tyZero P e with
     | some z=>if Nat.beq z.cells.size (sz+1)&&st.scp then
        match s with
        | .h r=>match nth st.rg r with
          | some (.own ty size n f none) =>
            if Nat.beq ty e&&Nat.beq size (sz+1)&&!isH x r then
             (setAt st.rg r .dead).map fun rg =>
               ({ st with rg:=rg++[news.reg ty size n f] },.c (.h st.rg.length),
                 vc++[n+news.len≤maxLen,(n+news.len) * by_≤140737488355328])
            else none
          | _=>none
        | s=>if isNil s then
           some ({ st with rg:=st.rg++[news.reg0 e (sz+1)] },.c (.h st.rg.length),vc++[news.len≤maxLen,news.len * by_≤140737488355328])
          else none
       else none
     | none=>none
   | _,_,_=>none
 | none=>none
def appendFullC (P:Program) (st:St) (t:Nat) (s x:C):Option (St×SV×List Prop):=
 match sliceOf P t,s with
 | some e,.h r=>match tySize P e,tyBytes P e,tyZero P e,nth st.rg r,newsOf st (match tySize P e with | some n=>n | none=>0) x with
   | some (sz+1),some by_,some z,some (.full size n f),some (.one cs,vc)=>if Nat.beq z.cells.size (sz+1)&&st.scp&&Nat.beq size (sz+1)&&!isH x r then
      some ({ st with rg:=st.rg++[.own e (sz+1) (n+1) f (some (n,cs))] },.c (.h st.rg.length),vc++[∀ i j,i<n→j<sz+1→flatT (f i j),0<n,n+1≤maxLen,(n+1) * by_≤140737488355328])
     else none
   | _,_,_,_,_=>none
 | _,_=>none
def zeros (z:List C) (n:Nat):List C:=(List.range n).map fun i=>(nth z (i % z.length)).getD (.v undef)
def noDup:List Nat→Bool
 | []=>true
 | x::r=>!hasN x r&&noDup r
def cellT (st:St) (c:C):Option (TC×List Nat):=match c with
 | .h r=>match nth st.rg r with
   | some (.own ty size n f none)=>some (.sub ty size n f,[r])
   | _=>none
 | c=>match c.val with
   | some v=>some (.val v,[])
   | none=>none
def cellTs (st:St):List C→Option (List TC×List Nat)
 | []=>some ([],[])
 | c::r=>match cellT st c,cellTs st r with
   | some x,some l=>some (x.1::l.1,x.2++l.2)
   | _,_=>none
def killAt (rs:List Nat):Nat→List Reg→List Reg
 | _,[]=>[]
 | i,r::l=>(match hasN i rs with | true=>.dead | false=>r)::killAt rs (i+1) l
def rowTC (size:Nat) (ts:List TC) (i j:Nat):TC:=match Nat.blt j size with
 | true=>match nth ts (i * size+j) with
   | some t=>t
   | none=>.any
 | false=>.any
def gatherC (st:St) (e size len:Nat) (cs:List C):Option (St×SV):=match cellTs st cs with
 | some (ts,rs)=>if noDup rs&&st.scp then some ({ st with rg:=killAt rs 0 st.rg++[.own e size len (rowTC size ts) none] },.c (.h st.rg.length)) else none
 | none=>none
def buildSliceC (P:Program) (st:St) (t len:Nat) (ps:List (Nat×SV)):Option (St×SV):=
 match sliceOf P t with
 | some e=>match tySize P e,zeroCells P e with
   | some (sz+1),some z=>if Nat.beq z.length (sz+1)&&Nat.ble (len * (sz+1)) 16777216&&ps.all (partOne st) then
      match fillC ((List.range len).map fun i=>(i * (sz+1),sz+1)) (zeros z (len * (sz+1))) ps with
      | some cs=>if Nat.beq len 1 then own st e (sz+1) 1 (fun _ _=>.any) (some (0,cs))
        else match vals cs with
         | some vs=>own st e (sz+1) len (rowT (sz+1) vs) none
         | none=>gatherC st e (sz+1) len cs
      | none=>none
     else none
   | _,_=>none
 | none=>none
def makeC (P:Program) (st:St) (t:Nat) (l c:Int):Option (St×SV×List Prop):=
 match sliceOf P t with
 | some e=>match tySize P e,tyZero P e,tyBytes P e with
   | some (sz+1),some z,some by_=>if Nat.beq z.cells.size (sz+1) then
      (own st e (sz+1) l.toNat (fun _ j=>valT z.cells.toList j) none).map fun r=>(r.1,r.2,[0≤l,l≤c,c * (by_:Int)≤140737488355328,c≤(maxLen:Nat)])
     else none
   | _,_,_=>none
 | none=>none
def sliceC (P:Program) (st:St) (t:Nat) (x:C) (l h:Int):Option (St×SV×List Prop):=
 match sliceOf P t,x with
 | some e,.h r=>match nth st.rg r,tySize P e with
   | some (.row size n f _),some sz=>if Nat.beq size sz&&st.scp then
      some ({ st with rg:=st.rg++[.row size (h.toNat-l.toNat) (fun i=>f (l.toNat+i)) none] },.c (.h st.rg.length),[0≤l,l≤h,h≤n])
     else none
   | some (.own _ size n _ none),some sz=>if Nat.beq size 1&&Nat.beq sz 1 then some (st,.c (.hs r l.toNat (h.toNat-l.toNat)),[0≤l,l≤h,h≤n,l<n]) else none
   | _,_=>none
 | _,_=>none
def makeMapC (P:Program) (st:St) (t:Nat):Option (St×SV×List Prop):=
 match mtOf P t with
 | some T=>if st.scp then some ({ st with rg:=st.rg++[.mp T 0 (fun _=>false) (fun _=>KA.zero T.V) none] },.c (.h st.rg.length),[T.P=P,T.Ok]) else none
 | none=>none
def mapUpdateC (P:Program) (st:St) (t:Nat) (m:C) (x v:SV):Option (St×List Prop):=
 match m with
 | .h r=>match nth st.rg r with
   | some (.mp T n has f it)=>match Nat.beq T.t t,kaOf T.K T.kAgg x,kaOf T.V T.vAgg v with
     | true,some a,some y=>(setAt st.rg r (.mp T (n+1) (fun q=>decide (q=a)||has q) (fun q=>if q=a then y else f q) none)).map fun rg=>({ st with rg },KA.vc T.K a++[T.P=P,n<maxLen])
     | _,_,_=>none
   | _=>none
 | _=>none
def sliceFullC (P:Program) (st:St) (t:Nat) (x:C) (l h m:Int):Option (St×SV×List Prop):=
 match sliceOf P t,x with
 | some e,.h r=>match nth st.rg r,tySize P e with
   | some (.row size n f _),some sz=>if Nat.beq size sz&&st.scp then
      some ({ st with rg:=st.rg++[.full size (h.toNat-l.toNat) (fun i=>f (l.toNat+i))] },.c (.h st.rg.length),[0≤l,l≤h,h≤n,m=h])
     else none
   | _,_=>none
 | _,_=>none
def copyC (P:Program) (st:St) (t:Nat) (d s:C):Option (St×SV×List Prop):=
 match sliceOf P t,d with
 | some e,.h r=>match tySize P e,nth st.rg r with
   | some (sz+1),some (.own ty size n f none)=>if Nat.beq size (sz+1) then
      match newsOf st (sz+1) s with
      | some (.flat m g,vc)=>(setAt st.rg r (.own ty (sz+1) n (fun i j=>if i<m then g i j else f i j) none)).map fun rg=>({ st with rg },.c (.i .i64 m),vc++[m≤n])
      | some (.one cs,vc)=>(setAt st.rg r (.own ty (sz+1) n f (some (0,cs)))).map fun rg=>({ st with rg },.c (.i .i64 1),vc++[0<n])
      | _=>none
     else none
   | _,_=>none
 | some e,.hs r lo n1=>match tySize P e,nth st.rg r,s with
   | some 1,some (.own ty 1 n f none),.hs r' lo' n2=>if Nat.beq r r' then
      (setAt st.rg r (.own ty 1 n (fun i j=>if lo≤i∧i<lo+Nat.min n2 n1 then f (lo'+(i-lo)) j else f i j) none)).map fun rg =>
        ({ st with rg },.c (.i .i64 (Nat.min n2 n1:Nat)),[lo+n1≤n,lo'+n2≤n,0<n,∀ i j,i<n→j<1→flatT (f i j)])
     else none
   | _,_,_=>none
 | _,_=>none
def effOp (P:Program) (st:St) (o:Oper):Option (St×SV×List Prop):=
 match o.op with
 | .alloc t=>match zeroCells P t with
   | some cs=>if cs.all (C.one' st) then (alloc st t cs).map fun r=>(r.1,r.2,[]) else none
   | none=>none
 | .box t x=>match opnd st [] x with
   | some v=>match v.cells st with
     | some cs=>(alloc st t cs).map fun r=>(r.1,r.2,[])
     | none=>none
   | none=>none
 | .store t a x=>match opndC st [] a,opnd st [] x with
   | some c,some v=>(storeC P st t c v).map fun r=>(r.1,.u,r.2)
   | _,_=>none
 | .call { callee:=.builtin .append,args,argTypes }=>match args.toList,argTypes.toList with
   | [s,x],[t,t']=>if Nat.beq t t' then match opndC st [] s,opndC st [] x with
      | some s,some x=>match appendC P st t s x with
        | some r=>some r
        | none=>appendFullC P st t s x
      | _,_=>none
     else none
   | _,_=>none
 | .call { callee:=.builtin .copy,args,argTypes }=>match args.toList,argTypes.toList with
   | [d,s],[t,_]=>match opndC st [] d,opndC st [] s with
     | some d,some s=>copyC P st t d s
     | _,_=>none
   | _,_=>none
 | .buildSlice t len parts=>match partsOf st [] parts.toList with
   | some ps=>(buildSliceC P st t len ps).map fun r=>(r.1,r.2,[])
   | none=>none
 | .slice t x lo hi none=>match opndC st [] x with
   | some c=>match lenOfC P st t c with
     | some (n,_)=>match boundOf st [] lo 0,boundOf st [] hi n with
       | some l,some h=>sliceC P st t c l h
       | _,_=>none
     | none=>none
   | none=>none
 | .slice t x lo hi (some mx)=>match opndC st [] x,boundOf st [] lo 0,hi,boundOf st [] hi 0,opndC st [] mx with
   | some c,some l,some _,some h,some (.i _ m)=>sliceFullC P st t c l h m
   | _,_,_,_,_=>none
 | .makeMap t none=>makeMapC P st t
 | .mapUpdate t m x v=>match opndC st [] m,opnd st [] x,opnd st [] v with
   | some m,some x,some v=>(mapUpdateC P st t m x v).map fun r=>(r.1,.u,r.2)
   | _,_,_=>none
 | .insert t m x v=>match opndC st [] m,opnd st [] x,opnd st [] v with
   | some m,some x,some v=>(mapUpdateC P st t m x v).map fun r=>(r.1,.u,r.2)
   | _,_,_=>none
 | .makeSlice t l c=>match opndC st [] l,opndC st [] c with
   | some (.i _ l),some (.i _ c)=>makeC P st t l c
   | _,_=>none
 | _=>none
end Go.Tx
namespace Go.Tx
open Go
variable {ε:Env}
theorem CK.c_den (c:CK) (x:c.α):(c.c x).den ε=c.val x:=by cases c<;>rfl
theorem KA.cs_den:∀ (K:List CK) (x:KA K),(KA.cs K x).map (C.den ε)=KA.vals K x:=by
 intro K
 induction K with
 | nil=>intro x;rfl
 | cons c r ih =>
   cases r with
   | nil =>
     intro x
     exact congrArg (fun v=>[v]) (CK.c_den c x)
   | cons d r =>
     intro x
     exact congr (congrArg List.cons (CK.c_den c x.1)) (ih x.2)
theorem Qin (agg:Bool) (l:List C):(svOf agg l).den ε=mkVal agg (l.map (C.den ε)):=by
 cases agg with
 | true=>rfl
 | false=>cases l<;>rfl
theorem Qbe (agg:Bool) (l:List C):denPart ε (agg,l)=mkVal agg (l.map (C.den ε)):=by
 cases agg<;>rfl
theorem CK.of_den {c:CK} {x:C} {y:c.α} (h:CK.of c x=some y):x.den ε=c.val y:=by
 cases c with
 | i k =>
   cases x with
   | i k' n =>
     by_cases hk:k=k'
     ·subst hk
      have e:CK.of (.i k) (.i k n)=some (show CK.α (.i k) from n):=if_pos (decide_eq_true rfl)
      rw [e] at h
      cases h;rfl
     ·have e:CK.of (.i k) (.i k' n)=none:=if_neg (by simpa using hk)
      rw [e] at h
      cases h
   | _=>cases h
 | s =>
   cases x with
   | v x =>
     cases x with
     | string s=>cases h;rfl
     | _=>cases h
   | _=>cases h
 | b =>
   cases x with
   | b x=>cases h;rfl
   | t x=>cases h;rfl
   | _=>cases h
theorem KA.of_den:∀ (K:List CK) (xs:List C) (a:KA K),KA.of K xs=some a→xs.map (C.den ε)=KA.vals K a:=by
 intro K
 induction K with
 | nil =>
   intro xs a h
   cases xs with
   | nil=>rfl
   | cons x xs=>cases h
 | cons c r ih =>
   cases r with
   | nil =>
     intro xs a h
     rcases xs with _ | ⟨x,_ | ⟨y,ys⟩⟩
     ·cases h
     ·exact congrArg (fun v=>[v]) (CK.of_den (c:=c) (y:=a) h)
     ·cases h
   | cons d r =>
     intro xs a h
     rcases xs with _ | ⟨x,xs⟩
     ·cases h
     ·have h':(match CK.of c x,KA.of (d::r) xs with | some a,some b=>some (a,b) | _,_=>none)=some a:=h
      split at h'
      ·rename_i y b h1 h2
       cases h'
       exact congr (congrArg List.cons (CK.of_den h1)) (ih xs b h2)
      ·cases h'
theorem Q6l {K:List CK} {agg:Bool} {s:SV} {a:KA K} (h:kaOf K agg s=some a):s.den ε=mkVal agg (KA.vals K a):=by
 cases s with
 | c x =>
   cases agg with
   | true=>cases h
   | false =>
     have:=KA.of_den (ε:=ε) K [x] a h
     show x.den ε=(KA.vals K a).headD undef
     rw [← this];rfl
 | agg xs =>
   cases agg with
   | false=>cases h
   | true =>
     have:=KA.of_den (ε:=ε) K xs a h
     show Value.agg _=Value.agg (KA.vals K a).toArray
     rw [← this]
 | tup vs=>cases agg<;>cases h
 | u=>cases agg<;>cases h
end Go.Tx
namespace Go.Tx
open Go Go.RowKit
theorem Qp {α:Type} (l:List α) (i:Nat):nth l i=l[i]?:=by
 induction l generalizing i with
 | nil=>simp [nth]
 | cons x r ih=>cases i<;>simp [nth,ih]
theorem Q6m {α:Type} {l:List α} {off n:Nat} {r:List α} (h:cut l off n=some r):r.length=n∧(∀ j,j<n→r[j]?=l[off+j]?)∧off+n≤max l.length off:=by
 induction n generalizing off r with
 | zero=>simp [cut] at h;subst h;exact ⟨rfl,fun j hj=>absurd hj W37,by omega⟩
 | succ n ih =>
   simp only [cut] at h
   rw [Qp] at h
   split at h
   ·rename_i x r' hx hr
    obtain ⟨h1,h2,h3⟩:=ih hr
    cases h
    have hlt:off<l.length:=(List.getElem?_eq_some_iff.1 hx).1
    refine ⟨by simp [h1],fun j hj=>?_,by omega⟩
    cases j with
    | zero=>simpa using hx.symm
    | succ j=>simp only [List.getElem?_cons_succ];rw [h2 j W37];congr 1;omega
   ·cases h
theorem Z5 {t:Nat} {l:List En} {e:En} (h:lookup t l=some e):e∈l∧e.slot=t:=by
 induction l with
 | nil=>cases h
 | cons x r ih =>
   simp only [lookup] at h
   split at h
   ·rename_i hx
    cases h
    exact ⟨.head _,Nat.eq_of_beq_eq_true hx⟩
   ·exact ⟨.tail _ (ih h).1,(ih h).2⟩
theorem Gc {a b:Bool}:beqB a b=true↔a=b:=by cases a<;>cases b<;>simp [beqB]
theorem Qg8 {x:Nat×Bool} {g:List (Nat×Bool)} (h:hasG x g=true):x∈g:=by
 induction g with
 | nil=>cases h
 | cons y r ih =>
   simp only [hasG,Bool.or_eq_true,Bool.and_eq_true] at h
   rcases h with ⟨h1,h2⟩ | h
   ·have e1:=Nat.eq_of_beq_eq_true h1
    have e2:=Gc.1 h2
    have:x=y:=by cases x;cases y;simp_all
    subst this;exact .head _
   ·exact .tail _ (ih h)
theorem Qg9 {g g':List (Nat×Bool)} (h:subG g g'=true):∀ x∈g,x∈g':=by
 induction g with
 | nil=>intro x hx;cases hx
 | cons y r ih =>
   simp only [subG,Bool.and_eq_true] at h
   intro x hx
   cases hx with
   | head=>exact Qg8 h.1
   | tail _ hx=>exact ih h.2 x hx
theorem gHolds.sub {a:Act} {g g':List (Nat×Bool)} (h:gHolds a g') (hs:subG g g'=true):gHolds a g:=fun x hx=>h x (Qg9 hs x hx)
theorem gHolds_nil (a:Act):gHolds a []:=fun _ h=>by cases h
theorem Q24 {a:Act} {g:List (Nat×Bool)} {x:Nat×Bool}:gHolds a (g++[x])↔gHolds a g∧get a x.1=.bool x.2:=by
 unfold gHolds
 constructor
 ·intro h;exact ⟨fun y hy=>h y (by simp [hy]),h x W148⟩
 ·intro h y hy
  rcases List.mem_append.1 hy with hy | hy
  ·exact h.1 y hy
  ·cases List.mem_singleton.1 hy;exact h.2
theorem Q2s (ε:Env) (v:Value):(constC v).den ε=v:=by
 unfold constC;split<;>rfl
theorem Q8v (ε:Env) (v:Value):(toC v).den ε=v:=by
 unfold toC;split<;>rfl
theorem Q2e (ε:Env) (l:List Value):(l.map constC).map (C.den ε)=l:=by
 rw [List.map_map];conv=>rhs;rw [← List.map_id l]
 exact List.map_congr_left fun v _=>Q2s ε v
theorem Qex {ε:Env} {v:Value} {s:SV} (h:constS v=some s):s.den ε=v:=by
 cases v<;>simp only [constS,Option.some.injEq] at h<;>first
  | (subst h;exact Q2s ε _)
  | (subst h;simp only [SV.den,Q2s,Q2e])
  | cases h
section
variable {w0:Base} {st:St} {ε:Env} {a:Act} {w:World} {g:List (Nat×Bool)}
theorem Qk (hs:SatE w0 st ε a w) (hg:gHolds a g) {x:Operand} {s:SV} (h:opnd st g x=some s):a.eval x=s.den ε:=by
 cases x with
 | tmp t =>
   simp only [opnd] at h
   split at h
   ·rename_i e he
    split at h
    ·rename_i hsub
     cases h
     obtain ⟨hm,rfl⟩:=Z5 he
     exact (hs.fr e hm).2.1 (hg.sub hsub)
    ·cases h
   ·cases h
 | const v=>exact (Qex h).symm
 | func f =>
   simp only [opnd,Option.some.injEq] at h;subst h;rfl
 | global x=>cases h
theorem Q4 (hs:SatE w0 st ε a w) (hg:gHolds a g) {x:Operand} {c:C} (h:opndC st g x=some c):a.eval x=c.den ε:=by
 unfold opndC at h
 split at h
 ·rename_i c' hc;cases h;exact Qk hs hg hc
 ·cases h
theorem Gd {c:C} {x:Bool} (h:c.asBool=some x):c.den ε=.bool x:=by
 cases c<;>simp [C.asBool] at h<;>subst h<;>rfl
theorem J3 {c:C} {x:ByteArray} (h:c.asStr=some x):c.den ε=.string x:=by
 cases c<;>simp only [C.asStr] at h<;>try cases h
 split at h
 ·cases h;rename_i he;cases he;rfl
 ·cases h
end
section
variable {P:Program} {ε:Env} {w:World}
theorem Y9 (a:Addr) (i j:Nat):(a.add i).add j=a.add (i+j):=by
 unfold Addr.add
 by_cases hi:i=0<;>by_cases hj:j=0<;>simp [hi,hj,Nat.add_assoc]
theorem J4 (a:Addr) (n:Nat):(a.add n).block=a.block:=by unfold Addr.add;split<;>rfl
theorem Yz {t:Nat} {b:Bool} (h:isAggB P t=some b):(isAgg t).run P w=.ok b w:=by
 unfold isAggB at h
 unfold isAgg
 cases hu:P.underlying t with
 | none=>rw [hu] at h;cases h
 | some d =>
   rw [hu] at h
   simp only [Sem.run_bind,run_underlying hu,Result.andThen_ok]
   cases d<;>simp_all
theorem Q44 {t:Nat} {i:TypeInfo} (h:P.info? t=some i):(typeInfo t).run P w=.ok i w:=by
 simp [typeInfo,program,Sem.run,h]
theorem Q64 {t n:Nat} (h:tySize P t=some n):∃ i,P.info? t=some i∧i.size=n:=by
 unfold tySize at h
 cases hi:P.info? t with
 | none=>rw [hi] at h;cases h
 | some i=>rw [hi] at h;exact ⟨i,rfl,by simpa using h⟩
theorem Qo {t n:Nat} (h:tySize P t=some n):(sizeOf t).run P w=.ok n w:=by
 obtain ⟨i,hi,rfl⟩:=Q64 h
 simp [sizeOf,Q44 hi]
theorem Gv {t:Nat} {z:Value} (h:tyZero P t=some z):(zeroValue t).run P w=.ok z w:=by
 unfold tyZero at h
 cases hi:P.info? t with
 | none=>rw [hi] at h;cases h
 | some i =>
   rw [hi] at h
   have hz:i.zero=some z:=by simpa using h
   simp [zeroValue,Q44 hi,hz]
theorem Q0o {a:Addr} {v:Value} (h:w.cell? a=some v):(load a).run P w=.ok v w:=by simp [h]
theorem Gp {t off:Nat} {cells:List C} {s:SV} {A:Addr} (h:loadFrom P t cells off=some s)
 (hc:∀ j x,cells[j]?=some x→w.cell? (A.add j)=some (x.den ε)):(loadVar t (A.add off)).run P w=.ok (s.den ε) w:=by
 unfold loadFrom at h
 split at h
 ·rename_i n h1 h2
  cases hcut:cut cells off n with
  | none=>rw [hcut] at h;cases h
  | some r =>
    rw [hcut] at h
    cases h
    obtain ⟨hl,hr,_⟩:=Q6m hcut
    unfold loadVar
    simp only [Sem.run_bind,Yz h1,Result.andThen_ok,if_true,Qo h2]
    have:=run_loadCells_list (P:=P) (w:=w) (A.add off) (r.map (C.den ε)) (by
     intro j v hv
     rw [List.getElem?_map] at hv
     cases hj:r[j]? with
     | none=>rw [hj] at hv;cases hv
     | some x =>
       rw [hj] at hv
       cases hv
       have hlt:j<n:=by rw [← hl];exact (List.getElem?_eq_some_iff.1 hj).1
       rw [Y9]
       exact hc (off+j) x (by rw [← hr j hlt];exact hj))
    rw [List.length_map,hl] at this
    rw [this]
    rfl
 ·rename_i n h1
  cases hn:nth cells off with
  | none=>rw [hn] at h;cases h
  | some x =>
    rw [hn] at h
    cases h
    rw [Qp] at hn
    unfold loadVar
    simp only [Sem.run_bind,Yz h1,Result.andThen_ok,Bool.false_eq_true,if_false]
    exact Q0o (hc off x hn)
 ·cases h
theorem Q6n {t off:Nat} {cells:List C} {s:SV} (h:loadFrom P t cells off=some s):(part t (cells.map (C.den ε)).toArray off).run P w=.ok (s.den ε) w:=by
 unfold loadFrom at h
 split at h
 ·rename_i n h1 h2
  cases hcut:cut cells off n with
  | none=>rw [hcut] at h;cases h
  | some r =>
    rw [hcut] at h
    cases h
    obtain ⟨hl,hr,_⟩:=Q6m hcut
    unfold part
    simp only [Sem.run_bind,Yz h1,Result.andThen_ok,if_true,Qo h2,Sem.run_pure,SV.den]
    congr 2
    apply Array.ext'
    rw [Array.toList_extract]
    apply List.ext_getElem?
    intro j
    simp only [List.extract_eq_take_drop,List.getElem?_take,List.getElem?_drop,List.getElem?_map]
    by_cases hj:j<n
    ·rw [if_pos W37,hr j hj]
    ·rw [if_neg W37]
     rw [List.getElem?_eq_none W37]
     rfl
 ·rename_i n h1
  cases hn:nth cells off with
  | none=>rw [hn] at h;cases h
  | some x =>
    rw [hn] at h
    cases h
    rw [Qp] at hn
    unfold part
    simp only [Sem.run_bind,Yz h1,Result.andThen_ok,Bool.false_eq_true,if_false]
    simp [hn,SV.den]
 ·cases h
end
theorem Qio {α:Type} [BEq α] [LawfulBEq α] [DecidableEq α] (x y:α):(x==y)=decide (x=y):=by
 by_cases h:x=y<;>simp [h]
theorem Qkm (x y:Int):(x==y)=decide (x=y):=Qio x y
theorem Q07 {k:IntKind} {n:Int} (h:Fits k n):k.wrap n=n:=by
 obtain ⟨h1,h2⟩:=h
 cases k<;>simp [IntKind.wrap,IntKind.min,IntKind.max,IntKind.signed,IntKind.bits] at *<;>omega
def Conj:List Prop→Prop
 | []=>True
 | [p]=>p
 | p::q::r=>p∧Conj (q::r)
theorem Conj.all {l:List Prop} (h:Conj l):∀ p∈l,p:=by
 induction l with
 | nil=>intro p hp;cases hp
 | cons x r ih =>
   intro p hp
   cases r with
   | nil=>cases hp with
     | head=>exact h
     | tail _ h=>cases h
   | cons y r=>cases hp with
     | head=>exact h.1
     | tail _ hp=>exact ih h.2 p hp
def All (l:List Prop):Prop:=∀ p∈l,p
theorem All.left {l r:List Prop} (h:All (l++r)):All l:=fun p hp=>h p (List.mem_append_left _ hp)
theorem All.right {l r:List Prop} (h:All (l++r)):All r:=fun p hp=>h p (List.mem_append_right _ hp)
theorem All.one {p:Prop} (h:All [p]):p:=h p (.head _)
theorem All.head {p:Prop} {l:List Prop} (h:All (p::l)):p:=h p (.head _)
theorem All.tail {p:Prop} {l:List Prop} (h:All (p::l)):All l:=fun q hq=>h q (.tail _ hq)
section
variable {P:Program} {ε:Env} {w:World}
theorem Qga {op:BinOp} {wr:Bool} {k:IntKind} {x y:Int} {c:C} {vc:List Prop} {t:Nat} (h:bin op wr k x y=some (c,vc)) (hv:All vc) :
 (binOp op t (.int k x) (.int k y)).run P w=.ok (c.den ε) w:=by
 cases op<;>simp only [bin,Option.some.injEq,reduceCtorEq,Prod.mk.injEq] at h<;>(try cases h)
 case add=>cases wr<;>simp at h<;>obtain ⟨rfl,rfl⟩:=h<;>simp [go_sem,Op.intArith,C.den];exact Q07 hv.one
 case sub=>cases wr<;>simp at h<;>obtain ⟨rfl,rfl⟩:=h<;>simp [go_sem,Op.intArith,C.den];exact Q07 hv.one
 case mul=>cases wr<;>simp at h<;>obtain ⟨rfl,rfl⟩:=h<;>simp [go_sem,Op.intArith,C.den];exact Q07 hv.one
 case quo =>
  cases wr<;>simp at h<;>obtain ⟨rfl,rfl⟩:=h
  ·have h0:y≠0:=hv.head
   simp [go_sem,Op.intDiv,C.den,h0];exact Q07 hv.tail.one
  ·have h0:y≠0:=hv.one
   simp [go_sem,Op.intDiv,C.den,h0]
 case rem =>
  rename_i h1 h2
  subst h1 h2
  have h0:y≠0:=hv.one
  simp [go_sem,Op.intDiv,C.den,h0]
 all_goals (rename_i h1 h2;subst h1 h2;simp only [go_sem,C.den,bne,Qkm,Sem.run_pure,gt_iff_lt,ge_iff_le])
theorem Q8w (t:TypeId) (x y:Bool):binOp .eql t (.bool x) (.bool y)=(do pure (.bool (← Op.equal t (.bool x) (.bool y)))):=rfl
theorem Q8x (t:TypeId) (x y:Bool):binOp .neq t (.bool x) (.bool y)=(do pure (.bool (!(← Op.equal t (.bool x) (.bool y))))):=rfl
theorem Q2f {t:TypeId} (w:World) (h:P.underlying t=some .bool) (x y:Bool):(Op.equal t (.bool x) (.bool y)).run P w=.ok (decide (x=y)) w:=by
 have:=run_equalIn_bool' (P:=P) w 9999 t x y h
 rw [Qio] at this
 exact this
theorem Qey (a b:ByteArray):(a==b)=decide (a=b):=by
 by_cases h:a=b
 ·subst h
  rw [beq_toListBytes];simp
 ·rw [beq_toListBytes]
  simp only [h,decide_false]
  rw [Bool.eq_false_iff]
  intro hh
  have:=eq_of_beq hh
  rw [ByteArray.toList_eq,ByteArray.toList_eq] at this
  apply h
  cases a;cases b
  simp_all
theorem Q1p {c:C} {k:IntKind} {n:Int} (h:c.asInt=some (k,n)):c.den ε=.int k n:=by
 cases c<;>simp [C.asInt] at h
 obtain ⟨rfl,rfl⟩:=h;rfl
theorem Qap (t:TypeId) (x y:Option Addr):binOp .eql t (.pointer x) (.pointer y)=(do pure (.bool (← Op.equal t (.pointer x) (.pointer y)))):=rfl
theorem Qaq (t:TypeId) (x y:Option Addr):binOp .neq t (.pointer x) (.pointer y)=(do pure (.bool (!(← Op.equal t (.pointer x) (.pointer y))))):=rfl
theorem Qbf {op:BinOp} {t:Nat} {x y:C} {c:C} {vc:List Prop} {ox oy:Operand} (h:ptrNil P op t x y=some (c,vc)) :
 (do eqGuard op t ox oy (x.den ε) (y.den ε);binOp op t (x.den ε) (y.den ε):Sem Value).run P w=.ok (c.den ε) w:=by
 unfold ptrNil at h
 split at h
 ·rename_i e hu
  have hu':P.underlying t=some (.pointer (P.pointee t)):=by simp [Program.pointee,hu]
  split at h
  ·rename_i hc
   simp only [Bool.and_eq_true,Bool.or_eq_true] at hc
   have hy:y.den ε=.pointer none:=by
    have:=hc.1
    unfold isNilP at this
    split at this
    ·rfl
    ·cases this
   have hx:∃ a:Option Addr,x.den ε=.pointer a∧a.isNone=isNilP x:=by
    rcases hc.2 with h1 | h1
    ·cases x<;>simp [isPtr] at h1<;>exact ⟨_,rfl,rfl⟩
    ·refine ⟨none,?_,by simp [h1]⟩
     unfold isNilP at h1
     split at h1
     ·rfl
     ·cases h1
   obtain ⟨a,hx,ha⟩:=hx
   rw [hx,hy]
   split at h<;>cases h
   ·simp only [go_sem,Sem.run_bind,Sem.run_pure,Result.andThen_ok,Qap,run_equal_pointer_nil _ _ _ hu',C.den,ha]
   ·simp only [go_sem,Sem.run_bind,Sem.run_pure,Result.andThen_ok,Qaq,run_equal_pointer_nil _ _ _ hu',C.den,ha]
  ·cases h
 ·cases h
theorem Qar {op:BinOp} {t:Nat} {x y:C} {c:C} {vc:List Prop} {ox oy:Operand} (h:binRest P op t x y=some (c,vc)) (hv:All vc) :
 (do eqGuard op t ox oy (x.den ε) (y.den ε);binOp op t (x.den ε) (y.den ε):Sem Value).run P w=.ok (c.den ε) w:=by
 unfold binRest at h
 split at h
 ·rename_i x' y' hx hy hu
  rw [Gd hx,Gd hy]
  split at h<;>cases h
  ·simp only [go_sem,Sem.run_bind,Sem.run_pure,Result.andThen_ok,Q8w,Q2f _ hu,C.den]
  ·simp only [go_sem,Sem.run_bind,Sem.run_pure,Result.andThen_ok,Q8x,Q2f _ hu,C.den]
 ·split at h
  ·rename_i x' y' hx hy
   rw [J3 hx,J3 hy]
   split at h<;>cases h
   ·simp only [go_sem,Sem.run_bind,Sem.run_pure,Result.andThen_ok,C.den]
    rw [← beq_toListBytes,Qey]
   ·simp only [go_sem,Sem.run_bind,Sem.run_pure,Result.andThen_ok,C.den]
    rw [← beq_toListBytes,Qey]
   ·have:=hv.one
    simp only [go_sem,Sem.run_bind,Sem.run_pure,Result.andThen_ok,C.den,Op.stringOp]
    rw [if_neg W37]
    rfl
  ·exact Qbf h
theorem Qez {op:BinOp} {wr:Bool} {t:Nat} {x y:C} {c:C} {vc:List Prop} {ox oy:Operand} (h:binC P wr op t x y=some (c,vc)) (hv:All vc) :
 (do eqGuard op t ox oy (x.den ε) (y.den ε);binOp op t (x.den ε) (y.den ε):Sem Value).run P w=.ok (c.den ε) w:=by
 unfold binC at h
 split at h
 ·rename_i k x' k' y' hx hy
  rw [Q1p hx,Q1p hy]
  split at h
  ·rename_i r hr
   cases h
   unfold shiftC at hr
   split at hr
   ·cases hr
    have h0:¬ y'<0:=Int.not_lt.2 hv.one
    simp [go_sem,C.den,Op.shift,h0,shlI]
   ·cases hr
    have h0:¬ y'<0:=Int.not_lt.2 hv.one
    simp [go_sem,C.den,Op.shift,h0,shrI]
   ·cases hr
  split at h
  ·rename_i hk
   have:=of_decide_eq_true hk
   subst this
   have:=Qga (P:=P) (ε:=ε) (w:=w) (t:=t) h hv
   simpa [go_sem,C.den] using this
  ·cases h
 ·exact Qar h hv
end
section
variable {P:Program} {w0:Base} {st:St} {ε:Env} {a:Act} {w:World} {g:List (Nat×Bool)}
theorem Ya {s:Sem Value} {v:Value} (hr:s.run P w=.ok v w):(do pure (Next.value (← s)):Sem Next).run P w=.ok (.value v) w:=by
 simp [hr]
theorem Qf0 (hs:SatE w0 st ε a w) (hg:gHolds a g) {c x y:Operand} {s:SV} (h:pickS st g c x y=some s) :
 (do pure (Next.value (if ← asBool (a.eval c) then a.eval x else a.eval y)):Sem Next).run P w=.ok (.value (s.den ε)) w:=by
 unfold pickS at h
 split at h
 ·rename_i c' hc
  rw [Q4 hs hg hc,← Qk hs hg h]
  simp [C.den,asBool]
 ·rename_i c' hc
  rw [Q4 hs hg hc,← Qk hs hg h]
  simp [C.den,asBool]
 ·rename_i tc b hc
  have hcv:=Q4 hs hg hc
  have hget:get a tc=.bool b:=hcv
  split at h
  ·rename_i y'
   split at h
   ·rename_i cy hcy
    split at h
    ·rename_i yb hyb
     cases h
     rw [hcv]
     cases b
     ·have hy:=Q4 hs (Q24.2 ⟨hg,hget⟩) hcy
      rw [hy,Gd hyb]
      simp [C.den,asBool,SV.den]
     ·simp [C.den,asBool,SV.den,Act.eval]
    ·cases h
   ·cases h
  ·rename_i x' hx'
   split at h
   ·rename_i cy hcy
    split at h
    ·rename_i yb hyb
     cases h
     rw [hcv]
     cases b
     ·simp [C.den,asBool,SV.den,Act.eval]
     ·have hy:=Q4 hs (Q24.2 ⟨hg,hget⟩) hcy
      rw [hy,Gd hyb]
      simp [C.den,asBool,SV.den]
    ·cases h
   ·cases h
  ·cases h
 ·cases h
theorem Q8 {α:Type} {l:List α} {i:Nat} {x:α} (h:nth l i=some x):l[i]?=some x:=by rw [← Qp];exact h
theorem map_nil {α β:Type} {o:Option α} {f:α→β} {y:β} (h:o.map f=some y):∃ x,o=some x∧f x=y:=by
 cases o with
 | none=>cases h
 | some x=>exact ⟨x,rfl,by simpa using h⟩
theorem Q01 {g ty:Nat} {cs:Array Value} (h:w.heap[g]?=some (.cells cs ty (0,0))) (j:Nat):w.cell? ((⟨g,0,none⟩:Addr).add j)=cs[j]?:=by
 have e:(⟨g,0,none⟩:Addr).add j=⟨g,j,none⟩:=by unfold Addr.add;split<;>simp_all
 rw [e]
 simp [World.cell?,h]
theorem Qgb {g ty:Nat} {cells:List C} (h:w.heap[g]?=some (.cells (cells.map (C.den ε)).toArray ty (0,0))) :
 ∀ j x,cells[j]?=some x→w.cell? ((⟨g,0,none⟩:Addr).add j)=some (x.den ε):=by
 intro j x hj
 rw [Q01 h]
 simp [hj]
theorem Q8y:∀ (r:List (List Value)) (k:Nat) (e:List Value),r[k]?=some e→∀ {size:Nat},(∀ el∈r,el.length=size)→∀ j x,e[j]?=some x→j<size→r.flatten[k * size+j]?=some x
 | [],_,_,h,_,_,_,_,_,_=>by cases h
 | e'::r,0,e,h,size,hel,j,x,hj,hlt=>by
   simp only [List.getElem?_cons_zero,Option.some.injEq] at h
   rw [List.flatten_cons,Nat.zero_mul,Nat.zero_add,List.getElem?_append_left (by rw [hel e' (.head _)];exact hlt),h,hj]
 | e'::r,k+1,e,h,size,hel,j,x,hj,hlt=>by
   have he:e'.length=size:=hel e' (.head _)
   rw [List.flatten_cons,List.getElem?_append_right (by rw [he,Nat.succ_mul];omega),he]
   have e1:(k+1) * size+j-size=k * size+j:=by rw [Nat.succ_mul];omega
   rw [e1]
   exact Q8y r k e W144 (fun el hm=>hel el (.tail _ hm)) j x hj hlt
theorem Qbg {B ty size n:Nat} {els:List (List Value)} {h:Value} (ho:w.ownsRow B ty size h n els.flatten) (hel:∀ el∈els,el.length=size) {i j:Nat} (hi:i<n) (hj:j<size) {u:Value} (hu:getV els i j=some u) :
 w.cell? ((haddr h).add (i * size+j))=some u:=by
 obtain ⟨hlen,hn | ⟨g,cap,cur,rfl,hb,hh,hnc,hm,hsz,hcur⟩⟩:=ho
 ·omega
 ·rw [show haddr (.slice (some ⟨g,0,none⟩) n cap)=⟨g,0,none⟩ from rfl,Q01 hh]
  unfold getV at hu
  cases hi2:els[i]? with
  | none=>rw [hi2] at hu;cases hu
  | some e =>
    rw [hi2] at hu
    have hflat:=Q8y els i e hi2 hel j u hu hj
    rw [← hcur] at hflat
    have hlt:i * size+j<n * size:=by
     have:(i+1) * size≤n * size:=Nat.mul_le_mul_right _ hi
     rw [Nat.succ_mul] at this;omega
    rw [List.getElem?_take,if_pos hlt] at hflat
    simpa using hflat
theorem OwnRow.cell {M fp:Nat→Prop} {ty size n:Nat} {h:Value} {ok:Nat→Nat→(Nat→Prop)→Value→Prop} (ho:OwnRow w M fp ty size n h ok) {i j:Nat} (hi:i<n) (hj:j<size) :
 ∃ u fp',w.cell? ((haddr h).add (i * size+j))=some u∧ok i j fp' u:=by
 obtain ⟨els,h1,h2,h3,h4,fps,h5,h6,h7⟩:=ho
 obtain ⟨u,hu,hok⟩:=h5 i j hi hj
 exact ⟨u,_,Qbg h1 h3 hi hj hu,hok⟩
theorem RdRow.cell {fp:Nat→Prop} {size n:Nat} {h:Value} {ok:Nat→Nat→Value→Prop} (ho:RdRow w fp h size n ok) {i j:Nat} (hi:i<n) (hj:j<size) :
 ∃ u,w.cell? ((haddr h).add (i * size+j))=some u∧ok i j u:=by
 obtain ⟨A,c,rfl,_,_,_,hr⟩:=ho
 obtain ⟨ad,rfl,hc⟩:=hr W37
 exact hc i j hi hj
end
section
variable {P:Program} {w0:Base} {st:St} {ε:Env} {a:Act} {w:World} {g:List (Nat×Bool)}
theorem Ql (hs:SatE w0 st ε a w) {r:Nat} {x:Reg} (h:nth st.rg r=some x):RegOk ε w0.M w (ε.ent r) x:=hs.regs.reg r x (Q8 h)
theorem Q1q (hs:SatE w0 st ε a w) {r:Nat} {x:Reg} {cells:List C} (h:nth st.rg r=some x) (hx:x=.ro cells∨∃ ty,x=.box ty cells) :
 ∀ j x,cells[j]?=some x→w.cell? ((haddr (ε.at_ r)).add j)=some (x.den ε):=by
 have hr:=Ql hs h
 unfold Env.at_
 rcases hx with rfl | ⟨ty,rfl⟩
 ·obtain ⟨p,he,_,_,hc⟩:=hr
  rw [he];exact hc
 ·obtain ⟨p,he,_,_,hc⟩:=hr
  rw [he];exact Qgb hc
theorem Q15 {t:Nat} {A:Addr} {v:Value} (h:(loadVar t A).run P w=.ok v w):(Instr.loadAt t (.pointer (some A))).run P w=.ok v w:=by
 simp only [Instr.loadAt,Instr.sureAddr,Sem.run_bind,Sem.run_pure,Result.andThen_ok,h]
theorem Qe6 (hs:SatE w0 st ε a w) {r size n:Nat} {f:Nat→Nat→TC} {x:Reg} (h:nth st.rg r=some x) (hx:(∃ foc,x=.row size n f foc)∨∃ ty,x=.own ty size n f none) {i j:Nat} (hi:i<n) (hj:j<size) {c:C} (hc:tcC (f i j)=some c) :
 w.cell? ((haddr (ε.at_ r)).add (i * size+j))=some (c.den ε):=by
 have hr:=Ql hs h
 have key:∀ u,f i j=.val u→c.den ε=u:=fun u hu=>by
  rw [hu] at hc
  simp only [tcC,Option.some.injEq] at hc
  subst hc
  exact Q8v ε u
 rcases hx with ⟨foc,rfl⟩ | ⟨ty,rfl⟩
 ·obtain ⟨u,h1,h2⟩:=RdRow.cell hr.1 hi hj
  unfold Env.at_
  rw [h1]
  have h2:RdC w (ε.ent r).fp (f i j) u:=by
   cases foc with
   | none=>exact h2
   | some kc=>exact h2.1
  cases hf:f i j with
  | val y=>simp only [hf,RdC] at h2;subst h2;rw [key _ hf]
  | sub=>rw [hf] at hc;cases hc
  | any=>rw [hf] at hc;cases hc
 ·obtain ⟨u,fp',h1,h2⟩:=OwnRow.cell hr.1 hi hj
  unfold Env.at_
  rw [h1]
  cases hf:f i j with
  | val y=>simp only [okO,hf,OwnC] at h2;subst h2;rw [key _ hf]
  | sub=>rw [hf] at hc;cases hc
  | any=>rw [hf] at hc;cases hc
theorem Q6o (hs:SatE w0 st ε a w) {r size n k:Nat} {f:Nat→Nat→TC} {cs:List C} {x:Reg} (h:nth st.rg r=some x) (hx:x=.row size n f (some (k,cs))∨∃ ty,x=.own ty size n f (some (k,cs))) :
 ∀ j x,cs[j]?=some x→w.cell? ((haddr (ε.at_ r)).add (k * size+j))=some (x.den ε):=by
 intro j y hj
 have hr:=Ql hs h
 unfold Env.at_
 rcases hx with rfl | ⟨ty,rfl⟩
 ·obtain ⟨h0,hk,hl⟩:=hr
  have hjl:j<size:=by rw [← hl];exact (List.getElem?_eq_some_iff.1 hj).1
  obtain ⟨u,h1,_,h2⟩:=RdRow.cell h0 hk hjl
  obtain ⟨z,h3,h4⟩:=h2 rfl
  rw [hj] at h3
  cases h3
  rw [h1,h4]
 ·obtain ⟨h0,hk,hl⟩:=hr
  have hjl:j<size:=by rw [← hl];exact (List.getElem?_eq_some_iff.1 hj).1
  obtain ⟨u,fp',h1,_,h2⟩:=OwnRow.cell h0 hk hjl
  obtain ⟨z,h3,h4⟩:=h2 rfl
  rw [hj] at h3
  cases h3
  rw [h1,h4]
theorem Qgc {g:Nat→TC} {off n:Nat} {r:List C} (h:cutT g off n=some r):r.length=n∧∀ j,j<n→∃ c,r[j]?=some c∧tcC (g (off+j))=some c:=by
 induction n generalizing off r with
 | zero=>simp [cutT] at h;subst h;exact ⟨rfl,fun j hj=>absurd hj W37⟩
 | succ n ih =>
   simp only [cutT] at h
   split at h
   ·rename_i x r' hx hr
    obtain ⟨h1,h2⟩:=ih hr
    cases h
    refine ⟨by simp [h1],fun j hj=>?_⟩
    cases j with
    | zero=>exact ⟨x,rfl,hx⟩
    | succ j =>
      obtain ⟨c,h3,h4⟩:=h2 j W37
      exact ⟨c,h3,by rw [show off+(j+1)=off+1+j by omega];exact h4⟩
   ·cases h
theorem Qd7 {t size:Nat} {g:Nat→TC} {off:Nat} {s:SV} {A:Addr} (h:loadT P t size g off=some s) (hc:∀ j c,j<size→tcC (g j)=some c→w.cell? (A.add j)=some (c.den ε)) :
 (loadVar t (A.add off)).run P w=.ok (s.den ε) w:=by
 unfold loadT at h
 split at h
 ·rename_i n h1 h2
  split at h
  ·rename_i hb
   have hb:=Nat.le_of_ble_eq_true hb
   obtain ⟨r,hr,he⟩:=map_nil h
   cases he
   obtain ⟨hl,hcs⟩:=Qgc hr
   have:loadFrom P t r 0=some (.agg r):=by
    unfold loadFrom
    rw [h1,h2]
    have:cut r 0 n=some r:=by
     clear hcs h1 h2
     subst hl
     have:∀ (l:List C) (off:Nat),off≤l.length→cut l off (l.length-off)=some (l.drop off):=by
      intro l off ho
      induction h:l.length-off generalizing off with
      | zero=>simp [cut];omega
      | succ m ih =>
        have hlt:off<l.length:=by omega
        simp only [cut,Qp,List.getElem?_eq_getElem hlt]
        rw [ih (off+1) W37 W37]
        simp
     simpa using this r 0 W37
    simp [this]
   have:=Gp (P:=P) (w:=w) (ε:=ε) (A:=A.add off) this (fun j x hj=>by
    have hjl:j<n:=by rw [← hl];exact (List.getElem?_eq_some_iff.1 hj).1
    obtain ⟨c,h3,h4⟩:=hcs j hjl
    rw [hj] at h3
    cases h3
    rw [Y9]
    exact hc (off+j) x W37 h4)
   simpa [Addr.add] using this
  ·cases h
 ·rename_i n h1
  split at h
  ·rename_i hb
   have hb:off<size:=Nat.le_of_ble_eq_true hb
   obtain ⟨c,hr,he⟩:=map_nil h
   cases he
   unfold loadVar
   simp only [Sem.run_bind,Yz h1,Result.andThen_ok,Bool.false_eq_true,if_false]
   exact Q0o (hc off c hb hr)
  ·cases h
 ·cases h
theorem Qgd {k:IntKind} {l:List C} {ns:List Int} (h:ints k l=some ns):l=ns.map (C.i k):=by
 induction l generalizing ns with
 | nil=>simp only [ints,Option.some.injEq] at h;subst h;rfl
 | cons x r ih =>
   cases x<;>simp only [ints] at h<;>try cases h
   rename_i k' n
   split at h
   ·rename_i hk
    have:=of_decide_eq_true hk
    subst this
    obtain ⟨ns',h1,h2⟩:=map_nil h
    subst h2
    rw [ih h1]
    rfl
   ·cases h
theorem Q65 {k:IntKind} {l:List C} {ns:List Int} (h:intsOf l=some (k,ns)):l=ns.map (C.i k):=by
 cases l with
 | nil=>cases h
 | cons x r =>
   cases x<;>simp only [intsOf] at h<;>try cases h
   rename_i k' n
   obtain ⟨ns',h1,h2⟩:=map_nil h
   cases h2
   rw [Qgd h1]
   rfl
theorem Qge {l:List C} {ss:List ByteArray} (h:strs l=some ss):l=ss.map fun s=>C.v (.string s):=by
 induction l generalizing ss with
 | nil=>simp only [strs,Option.some.injEq] at h;subst h;rfl
 | cons x r ih =>
   unfold strs at h
   split at h
   ·cases ‹_::_=[]›
   ·rename_i hx
    cases hx
    obtain ⟨ss',h1,h2⟩:=map_nil h
    subst h2
    rw [ih h1]
    rfl
   ·cases h
theorem Qgf {l:List C} {bs:List Bool} (h:bools l=some bs):l.map (C.den ε)=bs.map Value.bool:=by
 induction l generalizing bs with
 | nil=>simp only [bools,Option.some.injEq] at h;subst h;rfl
 | cons x r ih =>
   unfold bools at h
   split at h
   ·cases ‹_::_=[]›
   ·rename_i hx
    cases hx
    obtain ⟨ss',h1,h2⟩:=map_nil h
    subst h2
    simp only [List.map_cons,ih h1,C.den]
   ·rename_i hx
    cases hx
    obtain ⟨ss',h1,h2⟩:=map_nil h
    subst h2
    simp only [List.map_cons,ih h1,C.den]
   ·cases h
theorem Qip {col:List C} {ix:Nat} {c:C} (h:selC col ix=some c) (hix:ix<col.length):c.den ε=(col[ix]).den ε:=by
 unfold selC at h
 split at h
 ·rename_i k ns h1
  cases h
  have:=Q65 h1
  subst this
  simp only [List.length_map] at hix
  simp only [C.den,List.getElem_map,List.getD_eq_getElem?_getD,List.getElem?_eq_getElem hix,Option.getD_some]
 ·split at h
  ·rename_i ss h1
   cases h
   have:=Qge h1
   subst this
   simp only [List.length_map] at hix
   simp only [C.den,List.getElem_map,List.getD_eq_getElem?_getD,List.getElem?_eq_getElem hix,Option.getD_some]
  ·split at h
   ·rename_i bs h1
    cases h
    have h2:=Qgf (ε:=ε) h1
    have h3:(col.map (C.den ε))[ix]?=(bs.map Value.bool)[ix]?:=by rw [h2]
    have hl:bs.length=col.length:=by simpa using (congrArg List.length h2).symm
    rw [List.getElem?_map,List.getElem?_map,List.getElem?_eq_getElem hix,List.getElem?_eq_getElem W37] at h3
    simp only [Option.map_some,Option.some.injEq] at h3
    rw [h3]
    simp only [C.den,List.getD_eq_getElem?_getD,List.getElem?_eq_getElem (by omega:ix<bs.length),Option.getD_some]
   ·cases h
theorem Qd8 {cells:List C} {off sz n:Nat} {col:List C} (h:column cells off sz n=some col):col.length=n∧∀ i,i<n→cells[off+i * sz]?=col[i]?:=by
 induction n generalizing off col with
 | zero=>simp only [column,Option.some.injEq] at h;subst h;exact ⟨rfl,fun i hi=>by omega⟩
 | succ n ih =>
   simp only [column,Qp] at h
   split at h
   ·rename_i x r h1 h2
    cases h
    obtain ⟨k1,k2⟩:=ih h2
    refine ⟨by simp [k1],fun i hi=>?_⟩
    cases i with
    | zero=>simpa using h1
    | succ i =>
      have:=k2 i W37
      rw [List.getElem?_cons_succ,← this]
      congr 1
      rw [Nat.succ_mul];omega
   ·cases h
theorem Q2t {cells:List C} {off sz len ix:Nat} {c:C} (h:(column cells off sz len).bind (selC · ix)=some c) (hix:ix<len):∃ x,cells[off+ix * sz]?=some x∧c.den ε=x.den ε:=by
 cases hc:column cells off sz len with
 | none=>rw [hc] at h;cases h
 | some col =>
   rw [hc] at h
   obtain ⟨k1,k2⟩:=Qd8 hc
   have hlt:ix<col.length:=by omega
   exact ⟨col[ix],by rw [k2 ix hix,List.getElem?_eq_getElem hlt],Qip h hlt⟩
theorem Q7l {cells:List C} {off sz len ix n:Nat} {r:List C} (h:selArr cells off sz len ix n=some r) (hix:ix<len):r.length=n∧∀ j,j<n→∃ c x,r[j]?=some c∧cells[off+ix * sz+j]?=some x∧c.den ε=x.den ε:=by
 induction n generalizing off r with
 | zero=>simp only [selArr,Option.some.injEq] at h;subst h;exact ⟨rfl,fun j hj=>by omega⟩
 | succ n ih =>
   simp only [selArr] at h
   split at h
   ·rename_i x r' h1 h2
    cases h
    obtain ⟨k1,k2⟩:=ih h2
    refine ⟨by simp [k1],fun j hj=>?_⟩
    cases j with
    | zero =>
      obtain ⟨y,h3,h4⟩:=Q2t (ε:=ε) h1 hix
      exact ⟨x,y,rfl,h3,h4⟩
    | succ j =>
      obtain ⟨c,y,h3,h4,h5⟩:=k2 j W37
      exact ⟨c,y,h3,by rw [← h4];congr 1;omega,h5⟩
   ·cases h
theorem Q0p {t:Nat} {cells:List C} {off sz len ix off2:Nat} {s:SV} {vc:List Prop} {A:Addr} (h:loadArr P t cells off sz len ix off2=some (s,vc)) (hv:All vc)
 (hc:∀ j x,cells[j]?=some x→w.cell? (A.add j)=some (x.den ε)):(loadVar t (A.add (off+(ix * sz+off2)))).run P w=.ok (s.den ε) w:=by
 unfold loadArr at h
 split at h
 ·rename_i s' hs'
  cases h
  have hix:ix<len:=hv.one
  split at hs'
  ·rename_i n h1 h2
   obtain ⟨r,hr,he⟩:=map_nil hs'
   subst he
   obtain ⟨k1,k2⟩:=Q7l (ε:=ε) hr hix
   unfold loadVar
   simp only [Sem.run_bind,Yz h1,Result.andThen_ok,if_true,Qo h2]
   have:=run_loadCells_list (P:=P) (w:=w) (A.add (off+(ix * sz+off2))) (r.map (C.den ε)) (by
    intro j v hv
    rw [List.getElem?_map] at hv
    have hj:j<n:=by
     rcases Nat.lt_or_ge j n with h | h
     ·exact h
     ·rw [List.getElem?_eq_none W37] at hv;cases hv
    obtain ⟨c,x,h3,h4,h5⟩:=k2 j hj
    rw [h3] at hv
    cases hv
    rw [Y9,h5]
    have:=hc _ x h4
    rwa [show off+off2+ix * sz+j=off+(ix * sz+off2)+j by omega] at this)
   rw [List.length_map,k1] at this
   rw [this]
   rfl
  ·rename_i h1
   obtain ⟨c,hr,he⟩:=map_nil hs'
   subst he
   obtain ⟨x,h3,h4⟩:=Q2t (ε:=ε) hr hix
   unfold loadVar
   simp only [Sem.run_bind,Yz h1,Result.andThen_ok,Bool.false_eq_true,if_false]
   have:=hc _ x h3
   rw [show off+off2+ix * sz=off+(ix * sz+off2) by omega] at this
   rw [Q0o this]
   simp only [SV.den,h4]
  ·cases hs'
 ·obtain ⟨s',hl,he⟩:=map_nil h
  cases he
  exact Gp hl hc
theorem Qas {t:Nat} {cells:List C} {sz len ix:Nat} {s:SV} {vc:List Prop} (h:loadArr P t cells 0 sz len ix 0=some (s,vc)) (hv:All vc) :
 (part t (cells.map (C.den ε)).toArray (ix * sz)).run P w=.ok (s.den ε) w:=by
 unfold loadArr at h
 split at h
 ·rename_i s' hs'
  cases h
  have hix:ix<len:=hv.one
  split at hs'
  ·rename_i n h1 h2
   obtain ⟨r,hr,he⟩:=map_nil hs'
   subst he
   obtain ⟨k1,k2⟩:=Q7l (ε:=ε) hr hix
   unfold part
   simp only [Sem.run_bind,Yz h1,Result.andThen_ok,if_true,Qo h2,Sem.run_pure,SV.den]
   congr 2
   apply Array.ext'
   rw [Array.toList_extract]
   apply List.ext_getElem?
   intro j
   simp only [List.extract_eq_take_drop,List.getElem?_take,List.getElem?_drop,List.getElem?_map]
   by_cases hj:j<n
   ·rw [if_pos W37]
    obtain ⟨c,x,h3,h4,h5⟩:=k2 j hj
    rw [h3]
    rw [show 0+0+ix * sz+j=ix * sz+j by omega] at h4
    rw [h4]
    simp only [Option.map_some,h5]
   ·rw [if_neg W37,List.getElem?_eq_none W37]
    rfl
  ·rename_i h1
   obtain ⟨c,hr,he⟩:=map_nil hs'
   subst he
   obtain ⟨x,h3,h4⟩:=Q2t (ε:=ε) hr hix
   rw [show 0+0+ix * sz=ix * sz by omega] at h3
   unfold part
   simp only [Sem.run_bind,Yz h1,Result.andThen_ok,Bool.false_eq_true,if_false]
   simp [h3,SV.den,h4]
  ·cases hs'
 ·obtain ⟨s',hl,he⟩:=map_nil h
  cases he
  have:=Q6n (P:=P) (w:=w) (ε:=ε) hl
  simpa using this
theorem Q7m (hs:SatE w0 st ε a w) {t:Nat} {c:C} {s:SV} {vc:List Prop} (h:loadAt P st t c=some (s,vc)) (hv:All vc) :
 (Instr.loadAt t (c.den ε)).run P w=.ok (s.den ε) w:=by
 have foc:∀ {r size n k:Nat} {f:Nat→Nat→TC} {cs:List C} {x:Reg} {off:Nat} {s':SV},nth st.rg r=some x→(x=.row size n f (some (k,cs))∨∃ ty,x=.own ty size n f (some (k,cs)))→loadFrom P t cs off=some s' →
  (loadVar t ((haddr (ε.at_ r)).add (k * size+off))).run P w=.ok (s'.den ε) w:=fun hr hx hl=>by
  rw [← Y9]
  exact Gp hl (fun j x hj=>by rw [Y9];exact Q6o hs hr hx j x hj)
 have focA:∀ {r size n k:Nat} {f:Nat→Nat→TC} {cs:List C} {x:Reg} {off sz len ix off2:Nat} {s':SV} {vc':List Prop},nth st.rg r=some x→(x=.row size n f (some (k,cs))∨∃ ty,x=.own ty size n f (some (k,cs)))→loadArr P t cs off sz len ix off2=some (s',vc')→All vc' →
  (loadVar t ((haddr (ε.at_ r)).add (k * size+(off+(ix * sz+off2))))).run P w=.ok (s'.den ε) w:=fun hr hx hl hv=>by
  rw [← Y9]
  exact Q0p hl hv (fun j x hj=>by rw [Y9];exact Q6o hs hr hx j x hj)
 have el:∀ {r size n ix:Nat} {f:Nat→Nat→TC} {x:Reg} {off:Nat} {s':SV},nth st.rg r=some x→((∃ foc,x=.row size n f foc)∨∃ ty,x=.own ty size n f none)→ix<n→loadT P t size (f ix) off=some s' →
  (loadVar t ((haddr (ε.at_ r)).add (ix * size+off))).run P w=.ok (s'.den ε) w:=fun hr hx hi hl=>by
  rw [← Y9]
  exact Qd7 hl (fun j c hj hc=>by rw [Y9];exact Qe6 hs hr hx hi hj hc)
 cases c with
 | p r off =>
   simp only [loadAt] at h
   refine Q15 ?_
   split at h
   ·rename_i ty cells hr
    obtain ⟨s',hl,he⟩:=map_nil h
    cases he
    exact Gp hl (Q1q hs hr (.inr ⟨_,rfl⟩))
   ·rename_i cells hr
    obtain ⟨s',hl,he⟩:=map_nil h
    cases he
    exact Gp hl (Q1q hs hr (.inl rfl))
   ·cases h
 | e r sz ix off =>
   simp only [loadAt] at h
   refine Q15 ?_
   split at h
   case h_3 hr =>
    split at h
    case isFalse=>cases h
    rename_i hsz
    have:=Nat.eq_of_beq_eq_true hsz
    subst this
    split at h
    ·rename_i s' hl
     cases h
     exact el hr (.inl ⟨_,rfl⟩) hv.one hl
    ·obtain ⟨s',hl,he⟩:=map_nil h
     cases he
     have hk:=hv.one
     subst hk
     exact foc hr (.inl rfl) hl
   all_goals first
    | (rename_i hr
       split at h
       case isFalse=>cases h
       rename_i hsz
       have:=Nat.eq_of_beq_eq_true hsz
       subst this
       obtain ⟨s',hl,he⟩:=map_nil h
       cases he
       first
        | exact el hr (.inl ⟨_,rfl⟩) hv.one hl
        | exact el hr (.inr ⟨_,rfl⟩) hv.one hl
        | (have hk:=hv.one
           subst hk
           first
            | exact foc hr (.inl rfl) hl
            | exact foc hr (.inr ⟨_,rfl⟩) hl))
    | cases h
 | ar r sz0 ix0 off sz len ix off2 =>
   simp only [loadAt] at h
   refine Q15 ?_
   split at h
   ·rename_i hr
    split at h
    ·rename_i h0
     have:=Nat.eq_of_beq_eq_true h0
     subst this
     simp only [Nat.mul_zero,Nat.zero_add]
     exact Q0p h hv (Q1q hs hr (.inr ⟨_,rfl⟩))
    ·cases h
   ·rename_i hr
    split at h
    ·rename_i h0
     have:=Nat.eq_of_beq_eq_true h0
     subst this
     simp only [Nat.mul_zero,Nat.zero_add]
     exact Q0p h hv (Q1q hs hr (.inl rfl))
    ·cases h
   all_goals first
    | (rename_i hr
       split at h
       case isFalse=>cases h
       rename_i hsz
       have:=Nat.eq_of_beq_eq_true hsz
       subst this
       obtain ⟨s',hl,he⟩:=map_nil h
       cases he
       have hk:=hv.right.one
       subst hk
       first
        | exact focA hr (.inl rfl) hl hv.left
        | exact focA hr (.inr ⟨_,rfl⟩) hl hv.left)
    | cases h
 | _=>cases h
theorem Qat {fs:List Field} {xs ys:List C} {b:Bool} (d:Nat) (h:eqCells P fs xs ys=some b) (hp:fs.all plainField=true) :
 (Op.eqFields (d+1) (xs.map (C.den ε)).toArray (ys.map (C.den ε)).toArray fs).run P w=.ok b w:=by
 induction fs generalizing b with
 | nil=>simp only [eqCells,Option.some.injEq] at h;subst h;simp [Op.eqFields]
 | cons f fs ih =>
   simp only [List.all_cons,Bool.and_eq_true] at hp
   have hname : f.name ≠ "_" := by simpa [plainField] using hp.1
   have part1:∀ (zs:List C) (c:C),nth zs f.offset=some c→(∃ d,P.underlying f.type=some d∧isAggB P f.type=some false) →
    (part f.type (zs.map (C.den ε)).toArray f.offset).run P w=.ok (c.den ε) w:=fun zs c hz ⟨_,_,hagg⟩ =>
    Q6n (s:=.c c) (by unfold loadFrom;rw [hagg];simp [hz])
   unfold eqCells at h
   simp only [Op.eqFields,if_pos hname,Sem.run_bind]
   split at h
   ·rename_i k x k' y kk r hx hy hu hr
    split at h
    ·rename_i hk
     have:=of_decide_eq_true hk
     subst this
     cases h
     have hagg:isAggB P f.type=some false:=by unfold isAggB;rw [hu]
     rw [part1 xs _ hx ⟨_,hu,hagg⟩,Result.andThen_ok,part1 ys _ hy ⟨_,hu,hagg⟩,Result.andThen_ok]
     simp only [C.den,run_equalIn_int _ d _ _ _ _ _ hu,Result.andThen_ok,Qkm]
     by_cases hxy:x=y
     ·simp [hxy,ih hr hp.2]
     ·simp [hxy]
    ·cases h
   ·rename_i cx cy r hx hy hu hr
    have hagg:isAggB P f.type=some false:=by unfold isAggB;rw [hu]
    split at h
    ·rename_i x y hbx hby
     cases h
     rw [part1 xs _ hx ⟨_,hu,hagg⟩,Result.andThen_ok,part1 ys _ hy ⟨_,hu,hagg⟩,Result.andThen_ok]
     rw [Gd hbx,Gd hby,run_equalIn_bool' _ d _ _ _ hu,Result.andThen_ok,Qio]
     by_cases hxy:x=y
     ·simp [hxy,ih hr hp.2]
     ·simp [hxy]
    ·cases h
   ·rename_i cx cy r hx hy hu hr
    have hagg:isAggB P f.type=some false:=by unfold isAggB;rw [hu]
    split at h
    ·rename_i x y hbx hby
     cases h
     rw [part1 xs _ hx ⟨_,hu,hagg⟩,Result.andThen_ok,part1 ys _ hy ⟨_,hu,hagg⟩,Result.andThen_ok]
     rw [J3 hbx,J3 hby,run_equalIn_string _ d _ _ _ hu,Result.andThen_ok,← beq_toListBytes,Qey]
     by_cases hxy:x=y
     ·simp [hxy,ih hr hp.2]
     ·simp [hxy]
    ·cases h
   ·cases h
theorem Q1r (t:Nat) (h:P.eqGuardType P.depth t=false) {op:BinOp} (hop:op=.eql∨op=.neq) {x y:Operand} {xs ys:Array Value}:(eqGuard op t x y (.agg xs) (.agg ys)).run P w=.ok () w:=by
 rcases hop with rfl | rfl<;>simp [eqGuard,program,Sem.run,h]
theorem Q66 {t:Nat} {fs:Array Field} {xs ys:List C} {b:Bool} (ht:structOf P t=some fs) (hp:fs.toList.all plainField=true) (hst:P.stoodInHeld t=false) (h:eqCells P fs.toList xs ys=some b) :
 (Op.equal t (.agg (xs.map (C.den ε)).toArray) (.agg (ys.map (C.den ε)).toArray)).run P w=.ok b w:=by
 unfold structOf at ht
 split at ht
 ·rename_i fs' hu
  cases ht
  have hf:P.fieldsOf t=fs:=by unfold Program.fieldsOf;rw [hu]
  have:=run_equalIn_struct (P:=P) w 9999 t (xs.map (C.den ε)).toArray (ys.map (C.den ε)).toArray (by rw [hf];exact hu) hst
  rw [hf] at this
  exact this.trans (Qat 9998 h hp)
 ·cases ht
theorem Qau (t:TypeId) (x y:Array Value):binOp .eql t (.agg x) (.agg y)=(do pure (.bool (← Op.equal t (.agg x) (.agg y)))):=rfl
theorem Qav (t:TypeId) (x y:Array Value):binOp .neq t (.agg x) (.agg y)=(do pure (.bool (!(← Op.equal t (.agg x) (.agg y))))):=rfl
theorem Qd9 {c c':C} {n:Nat} (h:addrOff c n=some c'):∃ A,c.den ε=.pointer (some A)∧c'.den ε=.pointer (some (A.add n)):=by
 cases c<;>simp only [addrOff,Option.some.injEq,reduceCtorEq] at h
 ·subst h;exact ⟨_,rfl,by simp only [C.den,Y9]⟩
 ·subst h;exact ⟨_,rfl,by simp only [C.den,Y9,Nat.add_assoc]⟩
 ·subst h;exact ⟨_,rfl,by simp only [C.den,Y9,Nat.add_assoc]⟩
theorem Q45 {s f:Nat} {fd:Field} (h:fieldOf P s f=some fd):∃ fs,P.underlying s=some (.struct fs)∧fs[f]?=some fd:=by
 unfold fieldOf structOf at h
 split at h
 ·rename_i fs hu
  refine ⟨fs,hu,?_⟩
  have h':nth fs.toList f=some fd:=h
  rw [Qp] at h'
  simpa using h'
 ·cases h
theorem Qaw {s f:Nat} {fd:Field} {c c':C} (hf:fieldOf P s f=some fd) (hz:noZero P fd.type=true) (h:addrOff c fd.offset=some c') :
 (Instr.fieldAt s (c.den ε) f).run P w=.ok (c'.den ε) w:=by
 obtain ⟨fs,hu,hfs⟩:=Q45 hf
 obtain ⟨A,h1,h2⟩:=Qd9 (ε:=ε) h
 unfold noZero at hz
 split at hz
 ·cases hz
 ·rename_i n hn hsz
  have hn0:n≠0:=fun e=>hn e
  simp only [Instr.fieldAt,Sem.run_bind,run_underlying hu,Result.andThen_ok,hfs,h1,Instr.sureAddr,Sem.run_pure,fieldPlace,Qo hsz,if_neg hn0,h2]
 ·cases hz
theorem Qda {t f:Nat} {fd:Field} {cs:List C} {s:SV} (hf:fieldOf P t f=some fd) (h:loadFrom P fd.type cs fd.offset=some s) :
 (Instr.field t (.agg (cs.map (C.den ε)).toArray) f).run P w=.ok (s.den ε) w:=by
 obtain ⟨fs,hu,hfs⟩:=Q45 hf
 simp only [Instr.field,Sem.run_bind,run_underlying hu,Result.andThen_ok,hfs,asAgg,Sem.run_pure,Q6n h]
theorem Qz {t e:Nat} (h:sliceOf P t=some e):P.underlying t=some (.slice e):=by
 unfold sliceOf at h;split at h
 ·rename_i hu;cases h;exact hu
 ·cases h
theorem Q16 {t n e:Nat} (h:arrayOf P t=some (n,e)):P.underlying t=some (.array n e):=by
 unfold arrayOf at h;split at h
 ·rename_i hu;cases h;exact hu
 ·cases h
theorem Q8z {t e sz n c:Nat} {A:Addr} {k:IntKind} {i:Int} (ht:P.underlying t=some (.slice e)) (hsz:tySize P e=some sz) (h0:0≤i) (h1:i<n) :
 (Instr.indexAt t (.slice (some A) n c) (.int k i)).run P w=.ok (.pointer (some (A.add (i.toNat * sz)))) w:=by
 simp only [Instr.indexAt,asIntOf,Sem.run_bind,Sem.run_pure,Result.andThen_ok,run_underlying ht,if_pos (And.intro h0 h1),Qo hsz,Sem.run_ite]
theorem Q2g {t e sz n:Nat} {A:Addr} {k:IntKind} {i:Int} (ht:P.underlying t=some (.array n e)) (hsz:tySize P e=some sz) (h0:0≤i) (h1:i<n) :
 (Instr.indexAt t (.pointer (some A)) (.int k i)).run P w=.ok (.pointer (some (A.add (i.toNat * sz)))) w:=by
 simp only [Instr.indexAt,asIntOf,Sem.run_bind,Sem.run_pure,Result.andThen_ok,run_underlying ht,Instr.sureAddr,if_pos (And.intro h0 h1),Qo hsz,Sem.run_ite]
theorem Zz {M fp:Nat→Prop} {ty size n:Nat} {h:Value} {ok:Nat→Nat→(Nat→Prop)→Value→Prop} (ho:OwnRow w M fp ty size n h ok):∃ A c,h=.slice A n c∧n≤c∧(0<n→∃ ad,A=some ad):=by
 obtain ⟨els,⟨_,ho⟩,_⟩:=ho
 rcases ho with ⟨rfl,rfl⟩ | ⟨g,cap,cur,rfl,_,_,hnc,_⟩
 ·exact ⟨_,_,rfl,Nat.le_refl _,fun h=>absurd h W37⟩
 ·exact ⟨_,_,rfl,hnc,fun _=>⟨_,rfl⟩⟩
theorem J5 {fp:Nat→Prop} {size n:Nat} {h:Value} {ok:Nat→Nat→Value→Prop} (ho:RdRow w fp h size n ok):∃ A c,h=.slice A n c∧n≤c∧(0<n→∃ ad,A=some ad):=by
 obtain ⟨A,c,rfl,hc,_,_,hr⟩:=ho
 exact ⟨_,_,rfl,hc,fun hn=>by obtain ⟨ad,rfl,_⟩:=hr hn;exact ⟨_,rfl⟩⟩
theorem Q7n (hs:SatE w0 st ε a w) {t:Nat} {x c:C} {k:IntKind} {i:Int} {vc:List Prop} (h:indexAddrC P st t x i=some (c,vc)) (hv:All vc) :
 (Instr.indexAt t (x.den ε) (.int k i)).run P w=.ok (c.den ε) w:=by
 have sl:∀ {t e sz n:Nat} {h:Value},P.underlying t=some (.slice e)→tySize P e=some sz→0≤i→i<n→(∃ A c,h=.slice A n c∧n≤c∧(0<n→∃ ad,A=some ad)) →
  (Instr.indexAt t h (.int k i)).run P w=.ok (.pointer (some ((haddr h).add (i.toNat * sz+0)))) w:=fun ht hsz h0 h1 ⟨A,c,he,_,hA⟩=>by
  obtain ⟨ad,rfl⟩:=hA W37
  rw [he,Q8z ht hsz h0 h1]
  simp [haddr]
 unfold indexAddrC at h
 split at h
 ·rename_i e hsl
  have ht:=Qz hsl
  split at h
  ·rename_i r sz hsz
   split at h
   ·rename_i hr
    split at h
    ·cases h
     exact sl ht hsz hv.head hv.tail.one (J5 (Ql hs hr).1)
    ·cases h
   ·rename_i hr
    split at h
    ·cases h
     exact sl ht hsz hv.head hv.tail.one (Zz (Ql hs hr).1)
    ·cases h
   ·cases h
  ·cases h
 ·rename_i len e _ harr
  have ht:=Q16 harr
  split at h
  ·rename_i r off sz hsz
   cases h
   have h0:0≤i:=hv.head
   have h1:i<len:=hv.tail.one
   simp only [C.den]
   rw [Q2g ht hsz h0 h1,Y9]
   simp
  ·rename_i r sz0 ix0 off sz hsz
   cases h
   have h0:0≤i:=hv.head
   have h1:i<len:=hv.tail.one
   simp only [C.den]
   rw [Q2g ht hsz h0 h1,Y9,Nat.add_zero,Nat.add_assoc]
  ·cases h
 ·cases h
theorem Qdb {t:Nat} {x s:SV} {k:IntKind} {i:Int} {vc:List Prop} (h:indexC P t x i=some (s,vc)) (hv:All vc) :
 (Instr.index t (x.den ε) (.int k i)).run P w=.ok (s.den ε) w:=by
 unfold indexC at h
 split at h
 ·rename_i len e cs harr
  have ht:=Q16 harr
  split at h
  ·rename_i sz hsz
   obtain ⟨s',hl,he⟩:=map_nil h
   cases he
   have h0:0≤i:=hv.right.head
   have h1:i<len:=hv.right.tail.one
   simp only [Instr.index,asIntOf,Sem.run_bind,Sem.run_pure,Result.andThen_ok,run_underlying ht,SV.den,if_pos (And.intro h0 h1),Qo hsz,Sem.run_ite]
   exact Qas hl hv.left
  ·cases h
 ·rename_i y _
  split at h
  case isFalse=>cases h
  rename_i hst
  cases h
  have h0:0≤i:=hv.head
  have h1:i<y.size:=hv.tail.one
  have ht:P.underlying t=some .string:=by
   unfold isStrT at hst
   split at hst
   ·assumption
   ·cases hst
  have hlt:i.toNat<y.size:=by omega
  simp only [Instr.index,asIntOf,Sem.run_bind,Sem.run_pure,Result.andThen_ok,run_underlying ht,SV.den,C.den,if_pos h0]
  have e1:y[i.toNat]?=some (y.data.toList.getD i.toNat 0):=by
   rw [getElem?_pos y i.toNat hlt]
   congr 1
   rw [List.getD_eq_getElem?_getD,List.getElem?_eq_getElem (by simpa using hlt)]
   rfl
  rw [e1]
  rfl
 ·cases h
end
section
variable {P:Program} {w0:Base} {st:St} {ε:Env} {a:Act} {w:World} {g:List (Nat×Bool)}
theorem Gq (hs:SatE w0 st ε a w) (hg:gHolds a g) {l:List Operand} {vs:List SV} (h:opnds st g l=some vs):l.map a.eval=vs.map (SV.den ε):=by
 induction l generalizing vs with
 | nil=>simp only [opnds,Option.some.injEq] at h;subst h;rfl
 | cons x r ih =>
   simp only [opnds] at h
   split at h
   ·rename_i v vs' hx hr
    cases h
    simp only [List.map_cons,Qk hs hg hx,ih hr]
   ·cases h
theorem Q3o (hs:SatE w0 st ε a w) (hg:gHolds a g) {l:List (Nat×Operand)} {vs:List (Nat×SV)} (h:partsOf st g l=some vs) :
 l.map (fun (x:Nat×Operand)=>(x.1,a.eval x.2))=vs.map (fun x=>(x.1,x.2.den ε)):=by
 induction l generalizing vs with
 | nil=>simp only [partsOf,Option.some.injEq] at h;subst h;rfl
 | cons x r ih =>
   obtain ⟨i,x⟩:=x
   simp only [partsOf] at h
   split at h
   ·rename_i v vs' hx hr
    cases h
    simp only [List.map_cons,Qk hs hg hx,ih hr]
   ·cases h
theorem Y8 {α:Type} {l l':List α} {i:Nat} {x:α} (h:setAt l i x=some l'):i<l.length∧l'=l.set i x:=by
 induction l generalizing i l' with
 | nil=>cases h
 | cons y r ih =>
   cases i with
   | zero=>simp only [setAt,Option.some.injEq] at h;subst h;exact ⟨by simp,rfl⟩
   | succ i =>
     simp only [setAt] at h
     obtain ⟨r',hr,he⟩:=map_nil h
     subst he
     obtain ⟨h1,h2⟩:=ih hr
     exact ⟨by simp;omega,by rw [h2];rfl⟩
theorem Q2u {α:Type} {l l':List α} {off:Nat} {xs:List α} (h:setCut l off xs=some l'):l'.length=l.length:=by
 induction xs generalizing l off with
 | nil=>simp only [setCut,Option.some.injEq] at h;rw [h]
 | cons x r ih =>
   simp only [setCut] at h
   split at h
   ·rename_i l1 h1
    rw [ih h,(Y8 h1).2];simp
   ·cases h
theorem Q25 {α:Type} {l l':List α} {off:Nat} {xs:List α} (h:setCut l off xs=some l'):xs=[]∨off+xs.length≤l.length:=by
 induction xs generalizing l off with
 | nil=>exact .inl rfl
 | cons x r ih =>
   simp only [setCut] at h
   split at h
   ·rename_i l1 h1
    obtain ⟨hlt,rfl⟩:=Y8 h1
    right
    rcases ih h with rfl | h2
    ·simp;omega
    ·simp at h2 ⊢;omega
   ·cases h
theorem Qgg (xs:List C):∀ (k:Nat) (cells cells':List C) (off:Nat),setCut cells (off+k) xs=some cells' →
 (((xs.map (C.den ε)).zipIdx k).foldl (fun cs (x:Value×Nat)=>cs.setIfInBounds (off+x.2) x.1) (cells.map (C.den ε)).toArray)=(cells'.map (C.den ε)).toArray:=by
 induction xs with
 | nil=>intro k cells cells' off h;simp only [setCut,Option.some.injEq] at h;subst h;rfl
 | cons x xs ih =>
   intro k cells cells' off h
   simp only [setCut] at h
   split at h
   ·rename_i l1 h1
    obtain ⟨hlt,rfl⟩:=Y8 h1
    simp only [List.map_cons,List.zipIdx_cons,List.foldl_cons]
    have e:(cells.map (C.den ε)).toArray.setIfInBounds (off+k) (x.den ε)=((cells.set (off+k) x).map (C.den ε)).toArray:=by
     simp [List.map_set]
    rw [e]
    exact ih (k+1) _ _ off h
   ·cases h
theorem Q26 {places:List (Nat×Nat)} {ps:List (Nat×SV)} {z cs:List C} (h:fillC places z ps=some cs) (f:Nat→Option (Nat×Nat)) (hf:∀ i p,nth places i=some p→f i=some p) (hone:∀ i c,(i,SV.c c)∈ps→(c.den ε).cells=#[c.den ε]) :
 Instr.fill f (z.map (C.den ε)).toArray (ps.map fun x=>(x.1,x.2.den ε))=some (cs.map (C.den ε)).toArray:=by
 induction ps generalizing z with
 | nil=>simp only [fillC,Option.some.injEq] at h;subst h;rfl
 | cons p rest ih =>
   obtain ⟨i,v⟩:=p
   simp only [fillC] at h
   split at h
   ·rename_i off sz xs hp hv
    split at h
    ·rename_i hb
     simp only [Bool.and_eq_true] at hb
     have hsz:=Nat.eq_of_beq_eq_true hb.1
     have hroom:=Nat.le_of_ble_eq_true hb.2
     split at h
     ·rename_i z' hz
      have hcells:(v.den ε).cells=(xs.map (C.den ε)).toArray:=by
       split at hv
       ·rename_i x
        cases hv
        exact hone i x (.head _)
       ·cases hv;rfl
       ·cases hv
      simp only [List.map_cons,Instr.fill,hf i _ hp,hcells]
      rw [if_neg]
      ·have:=Qgg (ε:=ε) xs 0 z z' off (by simpa using hz)
       have e:(xs.map (C.den ε)).toArray.zipIdx.foldl (fun cs (x:Value×Nat)=>cs.setIfInBounds (off+x.2) x.1) (z.map (C.den ε)).toArray=(z'.map (C.den ε)).toArray:=by
        rw [← this,← Array.foldl_toList]
        simp
       rw [show (fun (cs:Array Value) (x:Value×Nat)=>match x with | (c,j)=>cs.setIfInBounds (off+j) c)=(fun cs (x:Value×Nat)=>cs.setIfInBounds (off+x.2) x.1) from rfl,e]
       exact ih h (fun i c hm=>hone i c (.tail _ hm))
      ·have e1:((xs.map (C.den ε)).toArray).size=sz:=by simp [hsz]
       have e2:((z.map (C.den ε)).toArray).size=z.length:=by simp
       rw [e1,e2]
       intro hh
       simp at hh
       omega
     ·cases h
    ·cases h
   ·cases h
end
section
variable {P:Program} {w0:Base} {st:St} {ε:Env} {a:Act} {w:World} {g:List (Nat×Bool)}
theorem Q46 {v:Value} (h:v.oneCell'=true):v.cells=#[v]:=by cases v<;>first | rfl | cases h
theorem Q2v {M:Nat→Prop} {e:Ent} {x:Reg} (hr:RegOk ε M w e x) (hl:x.hand=true):e.h.oneCell'=true:=by
 cases x with
 | box ty cells=>obtain ⟨g,h,_⟩:=hr;rw [h];rfl
 | own ty size n f foc=>obtain ⟨A,c,h,_⟩:=Zz hr.1;rw [h];rfl
 | row size n f foc=>obtain ⟨A,c,h,_⟩:=J5 hr.1;rw [h];rfl
 | ro cells=>obtain ⟨A,h,_⟩:=hr;rw [h];rfl
 | dead=>cases hl
 | one=>exact hr
 | froz X=>cases hl
 | ext X k alive=>rw [hr.1];rfl
 | mp T n has f it=>obtain ⟨_,b,D,h,_⟩:=hr;rw [h];rfl
 | itr r=>rw [show e.h=itPtr r from hr];rfl
 | full size n f=>obtain ⟨A,c,h,_⟩:=J5 hr.1;rw [h];rfl
theorem Jd {M L:Nat→Prop} (hs:RegsOk ε M L w st.rg) {c:C} (h:c.one' st=true):(c.den ε).oneCell'=true:=by
 cases c with
 | h r =>
   simp only [C.one'] at h
   split at h
   ·rename_i x hr
    exact Q2v (hs.reg r x (Q8 hr)) h
   ·cases h
 | v x=>exact h
 | hs r lo n=>cases h
 | fn f b caps=>cases b<;>rfl
 | _=>rfl
theorem Q2w {M L:Nat→Prop} (hs:RegsOk ε M L w st.rg) {r:Nat} (h:isVar st r=true):(C.p r 0).den ε=ε.at_ r:=by
 unfold isVar at h
 split at h
 ·rename_i ty cells hr
  obtain ⟨g,he,_⟩:=hs.reg r _ (Q8 hr)
  simp [C.den,Env.at_,he,haddr,Addr.add]
 ·rename_i cells hr
  obtain ⟨g,he,_⟩:=hs.reg r _ (Q8 hr)
  simp [C.den,Env.at_,he,haddr,Addr.add]
 ·cases h
theorem Q47 {vs:List SV} {rs:List Nat} {M L:Nat→Prop} (hs:RegsOk ε M L w st.rg) (h:capsOf st vs=some rs):vs.map (SV.den ε)=rs.map ε.at_:=by
 induction vs generalizing rs with
 | nil=>simp only [capsOf,Option.some.injEq] at h;subst h;rfl
 | cons v l ih =>
   simp only [capsOf] at h
   split at h
   ·rename_i r rs' h1 h2
    cases h
    simp only [List.map_cons,ih h2]
    congr 1
    unfold capOf at h1
    split at h1
    ·split at h1
     ·rename_i hv;cases h1;exact Q2w hs hv
     ·cases h1
    ·cases h1;rfl
    ·cases h1
   ·cases h
theorem Q48 (hs:SatE w0 st ε a w) (hg:gHolds a g) {x y:Operand} {k:IntKind} {m n:Int} (h:intOf2 st g x y=some (k,m,n)):a.eval x=.int k m∧∃ k',a.eval y=.int k' n:=by
 unfold intOf2 at h
 split at h
 ·rename_i cx cy hx hy
  split at h
  ·rename_i k1 m1 k2 n1 h1 h2
   cases h
   exact ⟨by rw [Q4 hs hg hx,Q1p h1],_,by rw [Q4 hs hg hy,Q1p h2]⟩
  ·cases h
 ·cases h
theorem Qdc (hs:SatE w0 st ε a w) {t:Nat} {c:C} {n:Int} {vc:List Prop} (h:lenOfC P st t c=some (n,vc)) (hv:All vc) (ty:TypeId) :
 (Builtin.len_ #[t] ty #[c.den ε]).run P w=.ok (.int .i64 n) w:=by
 unfold lenOfC at h
 split at h
 ·rename_i e hsl
  have ht:=Qz hsl
  have key:∀ A n c,(Builtin.len_ #[t] ty #[.slice A n c]).run P w=.ok (.int .i64 (n:Int)) w:=by
   intro A n c
   simp [Builtin.len_,run_underlying ht,goInt]
  split at h
  ·rename_i r
   split at h
   ·rename_i hr
    cases h
    obtain ⟨A,c,he,_⟩:=J5 (Ql hs hr).1
    simp only [C.den,Env.at_,he]
    exact key _ _ _
   ·rename_i hr
    cases h
    obtain ⟨A,c,he,_⟩:=Zz (Ql hs hr).1
    simp only [C.den,Env.at_,he]
    exact key _ _ _
   ·cases h
  ·cases h;exact key _ _ _
  ·cases h
 ·split at h
  ·rename_i s hst hcs
   cases h
   have hu:P.underlying t=some .string:=by
    unfold isStrT at hst
    split at hst
    ·assumption
    ·cases hst
   rw [J3 hcs]
   simp [Builtin.len_,run_underlying hu,goInt]
  ·cases h
theorem Qax (hs:SatE w0 st ε a w) (hg:gHolds a g) {b:Builtin} {args:List Operand} {ts:List TypeId} {s:SV} {vc:List Prop} (h:builtinC P st g b args ts=some (s,vc)) (hv:All vc)
 {dst:Option Nat} {ty:TypeId} {pos:String} {af:Array Edge} {gd:Option (Nat×Bool)} :
 (execOp a.eval { dst,op:=.call { callee:=.builtin b,args:=args.toArray,argTypes:=ts.toArray },type:=ty,pos,after:=af,guard:=gd }).run P w=.ok (.value (s.den ε)) w:=by
 unfold builtinC at h
 split at h
 ·rename_i x t
  split at h
  ·rename_i c hc
   obtain ⟨⟨n,vc'⟩,hn,he⟩:=map_nil h
   cases he
   simp only [execOp,resolve,invoke,builtin,List.map_toArray,List.map_cons,List.map_nil,Sem.run_bind,Sem.run_pure,Result.andThen_ok,Q4 hs hg hc,Qdc hs hn hv]
   rfl
  ·cases h
 ·rename_i x y _
  split at h
  ·rename_i k m n hc
   cases h
   obtain ⟨h1,k',h2⟩:=Q48 hs hg hc
   simp [execOp,resolve,invoke,builtin,h1,h2,Builtin.max_,Builtin.max2,SV.den,C.den]
  ·rename_i k m n hc
   cases h
   obtain ⟨h1,k',h2⟩:=Q48 hs hg hc
   simp [execOp,resolve,invoke,builtin,h1,h2,Builtin.min_,Builtin.min2,SV.den,C.den]
  ·cases h
 ·cases h
theorem Q49 {wr:Bool} {k:IntKind} {n:Int} {s:SV} {vc:List Prop} (h:wrapOr wr k n=(s,vc)) (hv:All vc):s.den ε=.int k (k.wrap n):=by
 unfold wrapOr at h
 split at h<;>cases h
 ·rfl
 ·simp only [SV.den,C.den];rw [Q07 hv.one]
theorem Qf1 {fs:List Field} {ps:List (Nat×Nat)} (h:placesOf P fs=some ps):(fs.mapM (fun (f:Field)=>(do pure (f.offset,← sizeOf f.type):Sem (Nat×Nat)))).run P w=.ok ps w:=by
 induction fs generalizing ps with
 | nil=>simp only [placesOf,Option.some.injEq] at h;subst h;simp
 | cons f r ih =>
   simp only [placesOf] at h
   split at h
   ·rename_i n l hn hl
    cases h
    simp only [List.mapM_cons,Sem.run_bind,Qo hn,Result.andThen_ok,Sem.run_pure,ih hl]
   ·cases h
theorem Jq {t:Nat} {z:List C} (h:zeroCells P t=some z):∃ v,tyZero P t=some v∧v.cells=(z.map (C.den ε)).toArray:=by
 unfold zeroCells at h
 split at h
 ·rename_i v hv
  cases h
  exact ⟨v,hv,by rw [Q2e]⟩
 ·cases h
theorem Qdd (hs:SatE w0 st ε a w) {t:Nat} {z cs:List C} {ps:List (Nat×SV)} (hz:zeroCells P t=some z) (hone:ps.all (partOne st)=true) (h:buildC P t z ps=some cs) :
 (Instr.build t (ps.map fun x=>(x.1,x.2.den ε)).toArray).run P w=.ok (.agg (cs.map (C.den ε)).toArray) w:=by
 obtain ⟨v,hv,hcells⟩:=Jq (ε:=ε) hz
 have h1:∀ i c,(i,SV.c c)∈ps→(c.den ε).cells=#[c.den ε]:=fun i c hm=>Q46 (Jd hs.regs (List.all_eq_true.1 hone _ hm))
 unfold buildC at h
 split at h
 ·rename_i fs hst
  split at h
  ·rename_i places hpl
   have hu:P.underlying t=some (.struct fs):=by
    unfold structOf at hst;split at hst
    ·rename_i hu;cases hst;exact hu
    ·cases hst
   have hm:(fs.mapM (fun (f:Field)=>(do pure (f.offset,← sizeOf f.type):Sem (Nat×Nat)))).run P w=.ok places.toArray w:=by
    rw [Array.mapM_eq_mapM_toList,Sem.run_map,Qf1 hpl]
    rfl
   have hfill:=Q26 (ε:=ε) h (places.toArray[·]?) (fun i p hp=>by rw [Qp] at hp;simpa using hp) h1
   simp only [Instr.build,Sem.run_bind,Gv hv,Result.andThen_ok,run_underlying hu,hm,hcells,hfill,Sem.run_pure]
  ·cases h
 ·split at h
  ·rename_i n e harr
   split at h
   ·rename_i sz hsz
    have hu:=Q16 harr
    have hfill:=Q26 (ε:=ε) h (fun i=>some (i * sz,sz)) (fun i p hp=>by
     rw [Qp,List.getElem?_map] at hp
     cases hr:(List.range n)[i]? with
     | none=>rw [hr] at hp;cases hp
     | some j =>
       rw [hr] at hp
       have:i=j:=by
        rw [List.getElem?_eq_some_iff] at hr
        obtain ⟨_,hr⟩:=hr
        simpa using hr
       subst this
       simpa using hp) h1
    simp only [Instr.build,Sem.run_bind,Gv hv,Result.andThen_ok,run_underlying hu,Qo hsz,hcells,hfill,Sem.run_pure]
   ·cases h
  ·cases h
end
section
variable {P:Program} {w0:Base} {st:St} {ε:Env} {a:Act} {w:World} {g:List (Nat×Bool)}
theorem Qay {vs:List (Bool×List C)} {ix:Nat} {s:SV} (h:extractC vs ix=some s):(Instr.extract (SV.den ε (.tup vs)) ix).run P w=.ok (s.den ε) w:=by
 unfold extractC at h
 split at h
 ·rename_i cs hn
  cases h
  rw [Qp] at hn
  simp [Instr.extract,SV.den,hn,denPart]
 ·rename_i c r hn
  cases h
  rw [Qp] at hn
  simp [Instr.extract,SV.den,hn,denPart]
 ·cases h
theorem Qbh {op:BinOp} {t:Nat} {xs ys:List C} {s:SV} {vc:List Prop} {ox oy:Operand} (h:eqAggC P op t xs ys=some (s,vc)) :
 (do eqGuard op t ox oy (.agg (xs.map (C.den ε)).toArray) (.agg (ys.map (C.den ε)).toArray);binOp op t (.agg (xs.map (C.den ε)).toArray) (.agg (ys.map (C.den ε)).toArray):Sem Value).run P w=.ok (s.den ε) w:=by
 unfold eqAggC at h
 split at h
 ·rename_i fs hst
  split at h
  ·rename_i hc
   simp only [Bool.and_eq_true,Bool.not_eq_true'] at hc
   split at h
   ·rename_i r hr
    split at h
    ·cases h
     simp only [Sem.run_bind,Q1r t hc.2 (.inl rfl),Result.andThen_ok,Qau,Q66 hst hc.1.1 hc.1.2 hr,Sem.run_pure,SV.den,C.den]
    ·cases h
     simp only [Sem.run_bind,Q1r t hc.2 (.inr rfl),Result.andThen_ok,Qav,Q66 hst hc.1.1 hc.1.2 hr,Sem.run_pure,SV.den,C.den]
    ·cases h
   ·cases h
  ·cases h
 ·cases h
theorem bound_sound (hs:SatE w0 st ε a w) (hg:gHolds a g) {x:Option Operand} {d n:Int} (h:boundOf st g x d=some n) :
 (x=none∧n=d)∨∃ o k,x=some o∧a.eval o=.int k n:=by
 unfold boundOf at h
 split at h
 ·cases h;exact .inl ⟨rfl,rfl⟩
 ·rename_i o
  split at h
  ·rename_i k n' hc;cases h;exact .inr ⟨o,k,rfl,Q4 hs hg hc⟩
  ·cases h
theorem Qe {k:IntKind} {i:Int} {y:Nat} {code:BoundsCode} (h0:0≤i) (h1:i≤y):(Instr.sliceBound (.int k i) y code).run P w=.ok i.toNat w:=by
 simp only [Instr.sliceBound,asIntOf,Sem.run_bind,Sem.run_pure,Result.andThen_ok,if_pos (And.intro h0 h1)]
theorem Q90 (hs:SatE w0 st ε a w) (hg:gHolds a g) {t:Nat} {s:ByteArray} {lo hi:Option Operand} {l h:Int} (hu:P.underlying t=some .string)
 (hl:boundOf st g lo 0=some l) (hh:boundOf st g hi (s.size:Int)=some h) (hv:All [0≤l,l≤h,h≤(s.size:Int)]) :
 (Instr.sliceAt t (.string s) (lo.map a.eval) (hi.map a.eval) (Option.map a.eval none)).run P w=.ok (.string (s.extract l.toNat h.toNat)) w:=by
 have h0:0≤l:=hv.head
 have h1:l≤h:=hv.tail.head
 have h2:h≤(s.size:Int):=hv.tail.tail.one
 simp only [Instr.sliceAt,Instr.slice,Instr.sliceBounds,Sem.run_bind,run_underlying hu,Result.andThen_ok,Option.map_none,Option.isSome_none,Bool.false_eq_true,if_false,Sem.run_pure]
 rcases bound_sound hs hg hh with ⟨rfl,rfl⟩ | ⟨o,k,rfl,he⟩<;>rcases bound_sound hs hg hl with ⟨rfl,rfl⟩ | ⟨o',k',rfl,he'⟩
 ·simp
 ·simp [he',Qe (P:=P) (w:=w) (k:=k') (code:=.sliceB) h0 h1]
 ·simp [he,Qe (P:=P) (w:=w) (k:=k) (code:=.sliceAlen) (by omega:0≤h) h2]
 ·have h3:l≤(h.toNat:Int):=by omega
  simp [he,he',Qe (P:=P) (w:=w) (k:=k) (code:=.sliceAlen) (by omega:0≤h) h2,Qe (P:=P) (w:=w) (k:=k') (code:=.sliceB) h0 h3]
theorem CK.vc_wf {c:CK} {x:c.α} (h:All (c.vc x)):c.wf x:=by
 cases c with
 | i k =>
   have:Fits k x:=h.one
   show (Lit.int k x).wf=true
   simp only [Lit.wf,Bool.and_eq_true,decide_eq_true_eq]
   exact this
 | s=>exact h.one
 | b=>trivial
theorem KA.vc_wf:∀ (K:List CK) (x:KA K),All (KA.vc K x)→KA.wf K x:=by
 intro K
 induction K with
 | nil=>intro x h;trivial
 | cons c r ih =>
   cases r with
   | nil=>intro x h;exact CK.vc_wf (c:=c) h
   | cons d r=>intro x h;exact ⟨CK.vc_wf h.left,ih x.2 h.right⟩
theorem Qbi (hs:SatE w0 st ε a w) {t:Nat} {m:C} {x s:SV} {ok:Bool} {vc:List Prop} (h:lookupC P st t m x ok=some (s,vc)) (hv:All vc) :
 (Instr.lookup t (m.den ε) (x.den ε) ok).run P w=.ok (s.den ε) w:=by
 unfold lookupC at h
 split at h
 ·rename_i r
  split at h
  ·rename_i T n has f it hr
   split at h
   ·rename_i q hT hk
    cases h
    have hP:T.P=P:=hv.right.one
    have ht:=Nat.eq_of_beq_eq_true hT
    obtain ⟨h1,h2⟩:=MapAt.lookup (Ql hs hr) (KA.vc_wf _ _ hv.left)
    rw [hP,ht] at h1 h2
    rw [Q6l hk]
    cases ok with
    | false =>
      show (Instr.lookup t (ε.ent r).h (T.valK q) false).run P w=_
      rw [h1,Qin,KA.cs_den];rfl
    | true =>
      show (Instr.lookup t (ε.ent r).h (T.valK q) true).run P w=_
      rw [h2]
      simp only [SV.den,List.map_cons,List.map_nil,Qbe,KA.cs_den]
      rfl
   ·cases h
  ·cases h
 ·cases h
theorem Q9m {M L:Nat→Prop} {rg0:List Reg} (hs:RegsOk ε M L w rg0) {r:Nat} {s:SV} {vc:List Prop}:∀ {l:List Reg} {j0:Nat},(∀ k x,l[k]?=some x→rg0[j0+k]?=some x)→curOf P r l=some (s,vc)→All vc →
 (Instr.entry (itPtr r)).run P w=.ok (s.den ε) w
 | [],_,_,h,_=>by cases h
 | x::l,j0,hl,h,hv=>by
   unfold curOf at h
   split at h
   ·rename_i heq;cases heq
   ·rename_i T n has f r' left cnt q l' heq
    cases h
    cases heq
    have hr:r=r':=hv.head
    have hP:T.P=P:=hv.tail.one
    have h0:=hs.reg j0 _ (by have:=hl 0 _ rfl;simpa using this)
    obtain ⟨_,b,D,_,_,_,_,h5⟩:=h0
    have h6:=h5.2.2.cur q rfl
    simp only at h6
    rw [hP,← hr] at h6
    rw [h6]
    simp only [SV.den,List.map_cons,List.map_nil,Qbe,KA.cs_den]
    rfl
   ·rename_i y l' _ heq
    cases heq
    exact Q9m hs (j0:=j0+1) (fun k x hk=>by
     have:=hl (k+1) x (by simpa using hk)
     rw [show j0+1+k=j0+(k+1) by omega];exact this) h hv
theorem Qde (hs:SatE w0 st ε a w) {x:C} {s:SV} {vc:List Prop} (h:entryC P st x=some (s,vc)) (hv:All vc) :
 (Instr.entry (x.den ε)).run P w=.ok (s.den ε) w:=by
 unfold entryC at h
 split at h
 ·rename_i j
  split at h
  ·rename_i r hr
   have he:ε.at_ j=itPtr r:=Ql hs hr
   show (Instr.entry (ε.at_ j)).run P w=_
   rw [he]
   exact Q9m hs.regs (j0:=0) (fun k x hk=>by simpa using hk) h hv
  ·cases h
 ·cases h
theorem Ge (hs:SatE w0 st ε a w) (hg:gHolds a g) {o:Oper} {s:SV} {vc:List Prop} (h:pureOp P st g o=some (s,vc)) (hv:All vc) :
 (execOp a.eval o).run P w=.ok (.value (s.den ε)) w:=by
 obtain ⟨dst,op,type,pos,after,guard⟩:=o
 unfold pureOp at h
 simp only at h
 split at h
 ·-- move
  obtain ⟨s',h1,he⟩:=map_nil h
  cases he
  simp only [execOp,Qk hs hg h1,Sem.run_pure]
 ·-- assign
  obtain ⟨s',h1,he⟩:=map_nil h
  cases he
  simp only [execOp,Qk hs hg h1,Sem.run_pure]
 ·-- pick
  obtain ⟨s',h1,he⟩:=map_nil h
  cases he
  exact Qf0 hs hg h1
 ·-- load
  split at h
  ·rename_i c hc
   simp only [execOp,Q4 hs hg hc]
   exact Ya (Q7m hs h hv)
  ·cases h
 ·-- nilCheck
  split at h<;>cases h
  case h_4 =>
   rename_i f b cs hc
   simp only [execOp,Q4 hs hg hc]
   cases b<;>rfl
  all_goals (rename_i hc;simp only [execOp,Q4 hs hg hc];rfl)
 ·-- binOp
  split at h
  ·rename_i x y hx hy
   obtain ⟨⟨c,vc'⟩,h1,he⟩:=map_nil h
   cases he
   simp only [execOp,Qk hs hg hx,Qk hs hg hy]
   exact Ya (Qez h1 hv)
  ·rename_i xs ys hx hy
   simp only [execOp,Qk hs hg hx,Qk hs hg hy]
   exact Ya (Qbh h)
  ·cases h
 ·-- not
  split at h<;>cases h
  all_goals (rename_i hc;simp only [execOp,Q4 hs hg hc];exact Ya rfl)
 ·-- neg
  split at h
  ·rename_i k n hc
   have he:=Option.some.inj h
   simp only [execOp,Q4 hs hg hc]
   exact Ya (by simp [Op.unary,C.den,Op.intArith,Q49 (ε:=ε) he hv])
  ·cases h
 ·-- convert
  split at h
  ·rename_i k1 k k2 n h1 h2 hc
   have he:=Option.some.inj h
   simp only [execOp,Q4 hs hg hc]
   refine Ya ?_
   simp only [convert,Sem.run_bind,run_underlying h1,run_underlying h2,Result.andThen_ok,C.den,Conv.intToInt,Sem.run_pure,Q49 (ε:=ε) he hv]
  ·cases h
 ·-- fieldAddr
  split at h
  ·rename_i c fd hc hf
   split at h
   ·rename_i hz
    obtain ⟨c',h1,he⟩:=map_nil h
    cases he
    simp only [execOp,Q4 hs hg hc]
    exact Ya (Qaw hf hz h1)
   ·cases h
  ·cases h
 ·-- field
  split at h
  ·rename_i cs fd hc hf
   obtain ⟨s',h1,he⟩:=map_nil h
   cases he
   simp only [execOp,Qk hs hg hc]
   exact Ya (Qda hf h1)
  ·cases h
 ·-- indexAddr
  split at h
  ·rename_i c k i hc hi
   obtain ⟨⟨c',vc'⟩,h1,he⟩:=map_nil h
   cases he
   simp only [execOp,Q4 hs hg hc,Q4 hs hg hi]
   exact Ya (Q7n hs h1 hv)
  ·cases h
 ·-- index
  split at h
  ·rename_i v k i hc hi
   simp only [execOp,Qk hs hg hc,Q4 hs hg hi]
   exact Ya (Qdb h hv)
  ·cases h
 ·-- extract
  split at h
  ·rename_i vs hc
   obtain ⟨s',h1,he⟩:=map_nil h
   cases he
   simp only [execOp,Qk hs hg hc]
   exact Ya (Qay h1)
  ·cases h
 ·-- build
  rename_i t parts
  split at h
  ·rename_i z ps hz hp
   split at h
   ·rename_i hone
    obtain ⟨cs,h1,he⟩:=map_nil h
    cases he
    simp only [execOp]
    refine Ya ?_
    have e:(parts.map fun (x:Nat×Operand)=>match x with | (i,x)=>(i,a.eval x))=(ps.map fun x=>(x.1,x.2.den ε)).toArray:=by
     have:=Q3o hs hg hp
     rw [← this]
     apply Array.ext'
     rw [Array.toList_map]
    rw [e]
    exact Qdd hs hz hone h1
   ·cases h
  ·cases h
 ·-- slice of a string
  rename_i t x lo hi mx
  split at h
  ·rename_i c hst hc
   split at h
   ·rename_i y l n hy hlo hhi
    cases h
    have hu:P.underlying t=some .string:=by
     unfold isStrT at hst
     split at hst
     ·assumption
     ·cases hst
    simp only [execOp,Q4 hs hg hc,J3 hy]
    exact Ya (Q90 hs hg hu (by simpa [hy] using hlo) (by simpa [hy] using hhi) hv)
   ·cases h
  ·cases h
 ·-- makeFunc
  rename_i f first caps
  split at h
  ·rename_i cs hf hc
   obtain ⟨rs,h1,he⟩:=map_nil h
   cases he
   simp only [execOp]
   refine Ya ?_
   have e1:first.map a.eval=#[]:=by
    have:first=#[]:=by cases first;simp_all
    rw [this];simp
   have e2:caps.map a.eval=(rs.map ε.at_).toArray:=by
    rw [← Q47 hs.regs h1,← Gq hs hg hc]
    apply Array.ext'
    rw [Array.toList_map]
   rw [e1,e2]
   rfl
  ·rename_i x hf hc
   split at h
   ·rename_i cs hx
    obtain ⟨rs,h1,he⟩:=map_nil h
    cases he
    simp only [execOp]
    refine Ya ?_
    have e1:first.map a.eval=(rs.map ε.at_).toArray:=by
     rw [← Q47 hs.regs h1,← Gq hs hg hx,← hf]
     apply Array.ext'
     rw [Array.toList_map]
    have e2:caps.map a.eval=#[]:=by
     have h3:=Gq hs hg hc
     have:caps=#[]:=by cases caps;simp_all
     rw [this];simp
    rw [e1,e2]
    rfl
   ·cases h
  ·cases h
 ·-- builtin
  exact Qax (args:=_) (ts:=_) hs hg h hv
 ·-- lookup
  split at h
  ·rename_i m x hm hx
   simp only [execOp,Q4 hs hg hm,Qk hs hg hx]
   exact Ya (Qbi hs h hv)
  ·cases h
 ·-- entry
  split at h
  ·rename_i x hx
   simp only [execOp,Q4 hs hg hx]
   exact Ya (Qde hs h hv)
  ·cases h
 ·cases h
end
end Go.Tx
