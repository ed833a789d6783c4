/-
  A part of the proof. Text 7 of 9: Leaf122 Leaf123 Leaf128 Leaf129 Leaf131 Leaf132 Leaf133 Leaf134 TxP Leaf140 Leaf141 Leaf142 Leaf143 Leaf144 Leaf145 Leaf146.
-/
import Derived.Test.YtnddggenhefaeaaGreatDoorP3
import Derived.Test.YtnddggenhefaeaaGreatDoorP4
import Derived.Test.YtnddggenhefaeaaGreatDoorP5
import Derived.Test.YtnddggenhefaeaaGreatDoorP6
import Derived.WalkKit
set_option linter.unusedSimpArgs false
set_option linter.unusedVariables false
set_option maxHeartbeats 4000000
set_option linter.unusedSectionVars false
open Go.Proofs.Tryz renaming prog→jb
open Go.IntKind renaming i64→ja,u32→jv,u8→jx
open Go.Value renaming int→jg,slice→je,bool→jS,string→jC
open And renaming intro→jl
open List renaming replicate→jh,take→jR,length_set→jF,getD_eq_getElem?_getD→jc,getElem?_set_ne→jE,getElem?_set_self→jG,mem_of_getElem?→jq,length_map→jP,length_replicate→jI,length→kb,length_append→jt,length_singleton→kf
open Int renaming le_refl→jz,toNat_of_nonneg→kp
open Bool renaming not_eq_false'→kI
open Go.BinOp renaming and→km,or→kK
open Inhabited renaming default→ua
namespace Go
theorem W3{p:Prop}(h:p:=by first | assumption | omega | exact hp _ | exact (Q5n h1 hJ5.1 h6).hq (Qbc hw _) | exact (Q5n h1 hJ5.1 h6).len | exact (Q5n h1 hJ5.1 h6).hk (Qbc hw _) | exact (Q5n h1 hJ5.1 h6).hS (Qbc hw _) | exact (Q5n h1 hJ5.1 h6).hT (Qbc hw _) | (have z:=(Q5n h1 hJ5.1 h6).loc;omega) | exact W225 | (have z1:=Qbd h1 hJ5.1 h6 hF;have z2:=hJ9.1;have z3:=of_decide_eq_true h10;have z4:=hY8.1;have z5:=z1.2.2 uo.toNat (by omega);have z6:=Q7z (gs.getD uk.toNat default).nodes (al.getD uk.toNat default).places uo.toNat (((al.getD uk.toNat default).places.getD uo.toNat default).cell,((al.getD uk.toNat default).places.getD uo.toNat default).n);have z7:(atM (gs.getD uk.toNat default).nodes (al.getD uk.toNat default).places uo.toNat (((al.getD uk.toNat default).places.getD uo.toNat default).cell,((al.getD uk.toNat default).places.getD uo.toNat default).n)).1≤uo.toNat:=z6;intro x hx;have z7:=Qd7 hx;omega)):p:=h
theorem W5{p:Prop}(h:p:=by simp only [Conj,Fits,Q7,Q8,Q9,Qa,News.len,maxLen]<;>(repeat' apply And.intro)<;>first | exact Qk9 | (have z:=hJ8.ks _ hh12;have z1:=hJ11.len;have z2:=hJ11.val kv12_0.toNat (by omega);have z3:=hJ3.lo;have z4:=hJ3.hi;exact W226) | (have q9:=of_decide_eq_true h9;have q12:=of_decide_eq_true h12;have z:=hJ8.small hN.2;have z1:=hJ11.tl;have z2:=hJ11.lo;have z3:=Q72 hq hJ11.lo q12;have z4:=Qo g.nodes;have z5:=Yx g.nodes (ut.getD ((ut.length:Int)-(1:Int)).toNat (0:Int)).toNat;exact W226) | (have q9:=of_decide_eq_true h9;have z:=hJ8.small hN.2;have t:=hJ8.td.top q9;have a:=Q86 g.nodes;have z5:=Yx g.nodes (ut.getD ((ut.length:Int)-(1:Int)).toNat (0:Int)).toNat;(try have z2:=hJ11.lo);exact W226) | (have q4:=of_decide_eq_true h4;have q7:=of_decide_eq_true h7;have z:=hJ6.tl;have z1:=hJ6.nl;have z2:=hJ6.lo;have z3:=Q72 hq hJ6.lo q7;have z4:=Qo g.nodes;have z5:=Yx g.nodes ug.toNat;have z6:=hJ3.lo;exact W226) | (have q4:=of_decide_eq_true h4;have z:=hJ3.lo;have z1:=Qo g.nodes;have a:=Q86 g.nodes;have z2:=hJ3.len;have z5:=Yx g.nodes ug.toNat;exact W226) | grind):p:=h
theorem W8{p:Prop}(h:p:=by simp only [Conj,Fits,Q7,Q8,Q9,Qa,News.len,maxLen]<;>(repeat' (first | apply And.intro | intro _))<;>first | exact Qm6 | exact W248 | (have q:=of_decide_eq_true h6;omega) | (have z1:=Qbd h1 hJ5.1 h6 hF;have z2:=hJ9.1;have z3:=of_decide_eq_true h10;have z4:=hY8.1;have z5:=z1.2.2 uo.toNat (by omega);have z6:=Q7z (gs.getD uk.toNat default).nodes (al.getD uk.toNat default).places uo.toNat (((al.getD uk.toNat default).places.getD uo.toNat default).cell,((al.getD uk.toNat default).places.getD uo.toNat default).n);have z7:(atM (gs.getD uk.toNat default).nodes (al.getD uk.toNat default).places uo.toNat (((al.getD uk.toNat default).places.getD uo.toNat default).cell,((al.getD uk.toNat default).places.getD uo.toNat default).n)).1≤uo.toNat:=z6;exact W226) | grind):p:=h
theorem W13{p:Prop}(h:p:=by simp only [Conj,Fits,Q7,Q8,Q9,Qa,News.len,maxLen]<;>(repeat' apply And.intro)<;>first | omega | (have q:=of_decide_eq_true h3;have z:=hJ2.1;have z1:=Qo g.nodes;have d:=hY1.2 ue.toNat (by omega);have e:=Qrm d.1;have f:=hY1.1;exact W226) | (have z:=Qba (g.nodes.getD ue.toNat default);exact W226) | (have q:=of_decide_eq_true h6;have z:=hJ5.1;have zl:=Q47 (g.nodes.getD ue.toNat default);exact W226) | (have q:=of_decide_eq_true h8;have z:=hJ7.1;have zl:=Q47 (g.nodes.getD ue.toNat default);(try simp only [List.length_take] at *);omega) | (have q3:=of_decide_eq_true h3;have z2:=hJ2.1;have q:=of_decide_eq_true h6;have z:=hJ5.1;have t:=hT ue.toNat (by omega) _ (Y3 q z);have b:=WtI.bound hJ5.2.2 _ (by omega:((slL (g.nodes.getD ue.toNat default)).getD uk.toNat 0).toNat<g.slots.toNat);have l5:=hJ5.2.2.1;have zl:=Q47 (g.nodes.getD ue.toNat default);have d:=hY1.2 ue.toNat (by omega);have e:=Qkz _ d.1;omega)):p:=h
theorem W14{p:Prop}(h:p:=by first | assumption | (have q:=of_decide_eq_true h2;have z0:=hJ1.1;have T:=hT ud z0 q;have zl:=hL.1;have z:=hL.2 ud.toNat (by omega);have z1:=congrArg List.length z.1;have z2:=Qo (gs.getD ud.toNat default).nodes;have z3:=z.2.1;have z4:=T.hN;(try have q4:=of_decide_eq_true h4);(try have z5:=hJ3.1);(try have z6:=hJ3.2.1);(try have z7:=hJ3.2.2.1);(try have z8:=hJ1.2.2.1);omega) | (have q:=of_decide_eq_true h2;have z0:=hJ1.1;have T:=hT ud z0 q;have zl:=hL.1;have z:=hL.2 ud.toNat (by omega);have z1:=congrArg List.length z.1;have z2:=Qo (gs.getD ud.toNat default).nodes;have z3:=z.2.1;have z4:=T.hN;(try have q4:=of_decide_eq_true h4);(try have z5:=hJ3.1);(try have z6:=hJ3.2.1);(try have z7:=hJ3.2.2.1);(try have z8:=hJ1.2.2.1);exact T.hk _ (by omega)) | (have q:=of_decide_eq_true h2;have z0:=hJ1.1;have T:=hT ud z0 q;have zl:=hL.1;have z:=hL.2 ud.toNat (by omega);have z1:=congrArg List.length z.1;have z2:=Qo (gs.getD ud.toNat default).nodes;have z3:=z.2.1;have z4:=T.hN;(try have q4:=of_decide_eq_true h4);(try have z5:=hJ3.1);(try have z6:=hJ3.2.1);(try have z7:=hJ3.2.2.1);(try have z8:=hJ1.2.2.1);exact z.2.2.at_ (by omega)) | exact hJ3.2.2.2 | (have q:=of_decide_eq_true h2;have z0:=hJ1.1;have T:=hT ud z0 q;have zl:=hL.1;have z:=hL.2 ud.toNat (by omega);have z1:=congrArg List.length z.1;have z2:=Qo (gs.getD ud.toNat default).nodes;have z3:=z.2.1;have z4:=T.hN;(try have q4:=of_decide_eq_true h4);(try have z5:=hJ3.1);(try have z6:=hJ3.2.1);(try have z7:=hJ3.2.2.1);(try have z8:=hJ1.2.2.1);intro hk;have w:=T.hv _ (by omega) hk;omega)):p:=h
theorem W15{p:Prop}(h:p:=by simp only [Conj,Fits,Q7,Q8,Q9,Qa,News.len,maxLen]<;>(repeat' apply And.intro)<;>first | (have q7:=of_decide_eq_true h7;have q9:=of_decide_eq_true h9;have z:=hJ4.1.f2 hq (by omega) hJ6 q7;have y:=hJ4.1.f3 hq (by omega) hJ6 hJ8 q9;exact W226) | (have q7:=of_decide_eq_true h7;have z:=hJ4.1.f2 hq (by omega) hJ6 q7;(try have y:=hJ8.lo);exact W226) | (have e:=congrArg List.length hJ2.2.2;rw [Qk5] at e;have z:=hJ2.1;(try have q:=of_decide_eq_true h3);exact W226) | (have z:=hJ4.1.len hq (by omega);have o:=Qhb hq (by omega);exact W226) | grind):p:=h
theorem W17{p:Prop}(h:p:=by simp only [Conj,Fits,Q7,Q8,Q9,Qa,News.len,maxLen]<;>(repeat' (first | apply And.intro | intro _))<;>first | exact Qcm | exact W234 | exact W233 | grind):p:=h
theorem W19{p:Prop}(h:p:=by have q:=of_decide_eq_true h10;have z:=hJ9.1;first | exact ⟨by omega,by omega,Qm7 hJ9.1 (Qd6 hY8 W225 h11) hJ9.2.2⟩ | exact ⟨by omega,by omega,Qoo hY7 hJ9.1 W225 (Q5m hY8 W225 h11) h12 hJ9.2.2⟩ | exact ⟨by omega,by omega,Qop hJ9.1 (Q5m hY8 W225 h11) h12 hJ9.2.2⟩):p:=h
theorem W21{p:Prop}(h:p:=by (try simp only [Conj])<;>(repeat' apply And.intro)<;>first | trivial | exact Y6 _ _ | exact List.length_set | exact Zb _ _ _ | exact List.length_replicate | exact Qem _ | exact MpEq.put (Nat.le_refl _) | (rw [List.length_take];have q:=of_decide_eq_true h9;omega) | (intro i q;rw [List.getD_eq_getElem?_getD,List.getElem?_take_of_lt (by simp at q;omega),← List.getD_eq_getElem?_getD]) | (refine MpEq.mk' (by omega) ?_ ?_<;>intro q<;>rfl) | (exact MpEq.mkIt (by omega) (fun _=>rfl) (fun _=>rfl) rfl rfl (fun _=>rfl)) | (intro i h1 h2;rw [Yb h1 h2]) | (rw [Qw];rfl)):p:=h
theorem W23{p:Prop}(h:p:=by (try simp only [Conj])<;>(repeat' apply And.intro)<;>first | trivial | (intros;rfl) | exact Qm8 _ _ | exact Qm9 hJ9.1 (Qd6 hY8 W225 h11) | exact Qoq hJ9.1 (Q5m hY8 W225 h11)):p:=h
theorem W24{p:Prop}(h:p:=by simp only [Conj,Fits,Q7,Q8,Q9,Qa,News.len,maxLen]<;>(repeat' apply And.intro)<;>first | (have z:=hJ1.facts;have q:=of_decide_eq_true h4;have z5:=hJ1.ord (i:=ug.toNat) (by omega);have z6:ud.reverse.length=ud.length:=List.length_reverse;have z7:=hJ3.1;have z8:=hJ3.2.1;have z9:um.length=g.nodes.length:=(by rw [hJ3.2.2,Q2e]);exact W226) | (have z:=hJ1.facts;have q:=of_decide_eq_true h2;(try have q3:=of_decide_eq_false h3);have z1:=z.2.2.2 (by omega);simp only [tpB] at z1;(try have z2:=hq (uf.getD ((uf.length:Int)-1).toNat default).pos.toNat (by omega) _ (Y3 (by omega) z1.2.2.1));have z3:=Yz (g.nodes.getD (uf.getD ((uf.length:Int)-1).toNat default).pos.toNat default);exact W226) | grind):p:=h
theorem W29{p:Prop}(h:p:=by simp only [Conj,Fits,Q7,Q8,Q9,Qa,News.len,maxLen]<;>(repeat' apply And.intro)<;>first | (have q:=of_decide_eq_true h2;have z0:=hJ1.1;have T:=hT ud z0 q;have zl:=hL.1;have z:=hL.2 ud.toNat (by omega);have z1:=congrArg List.length z.1;have z2:=Qo (gs.getD ud.toNat default).nodes;have z3:=z.2.1;have z4:=T.hN;(try have q4:=of_decide_eq_true h4);(try have z5:=hJ3.1);(try have z6:=hJ3.2.1);(try have z7:=hJ3.2.2.1);(try have z8:=hJ1.2.2.1);exact W226) | grind):p:=h
theorem W38{p:Prop}(h:p:=by simp only [Conj,Fits,Q7,Q8,Q9,Qa,News.len,maxLen]<;>(repeat' apply And.intro)<;>first | (have q:=of_decide_eq_true h3;have z:=hJ2.1;have z1:=hY1.1;have z2:=hY1.2 ue.toNat (by omega);(try have q5:=of_decide_eq_true h5);(try have z4:=hJ4.1);(try have z5:=hJ4.2.1);(try have z6:=z2.1 _ (Y3 q5 z4));exact W226) | grind):p:=h
theorem W39{p:Prop}(h:p:=by first | assumption | exact (Yr h0 hw hJ2.1 (of_decide_eq_true h3)).hq | exact (Yr h0 hw hJ2.1 (of_decide_eq_true h3)).hN | exact (Yr h0 hw hJ2.1 (of_decide_eq_true h3)).hk | exact (Yr h0 hw hJ2.1 (of_decide_eq_true h3)).ht | exact (Yr h0 hw hJ2.1 (of_decide_eq_true h3)).hf | omega):p:=h
theorem W41{p:Prop}(h:p:=by first | assumption | omega | exact hJ4.1.mth hq (by omega) hJ6 | exact hJ8.set.resolve_left (by have q:=of_decide_eq_false h11;omega) | exact (hJ4.1.pt hq (by omega) hJ6 hJ8.lo (of_decide_eq_true h9)).2.2 (of_decide_eq_false h10)):p:=h
theorem W45{p:Prop}(h:p:=by simp only [Conj,Fits,Q7,Q8,Q9,Qa,News.len,maxLen]<;>(repeat' (first | apply And.intro | intro _))<;>(have q:=of_decide_eq_true h3;have z:=hJ2.1;have z1:=Qo g.nodes;exact W226)):p:=h
theorem W46{p:Prop}(h:p:=by (try simp only [Conj])<;>(repeat' apply And.intro)<;>first | exact List.length_set | exact Zb _ _ _ | exact List.length_replicate | exact Qem _ | (rw [Qep h5,List.length_append];rfl) | (intro i hi hn;rw [Qep h5] at hi ⊢;rw [Yb hi hn]) | (rw [Qep h5,Qw];rfl) | (intro i hi;rw [Ql0 h5]) | (rw [Ql0 h5];done) | (have q:=of_decide_eq_true h6;have z:=hJ5.1;(try simp only [List.length_take]);omega) | (intro i hi;rw [Qgf hi,Nat.zero_add])):p:=h
theorem W62{p:Prop}(h:p:=by simp only [Conj,Fits,Q7,Q8,Q9,Qa,News.len,maxLen]<;>(repeat' apply And.intro)<;>first | (have z:=hM.len;have q:=hJ5.1.1;have q1:=hJ5.1.2.1;have z1:=q.1;have z2:=q.2.1;have z3:=q1.1;have z4:=q1.2.1;omega) | (have z:=hM.len;have q:=hJ3.1.1;have q1:=hJ3.1.2.1;have z1:=q.1;have z2:=q.2.1;have z3:=q1.1;have z4:=q1.2.1;omega)):p:=h
theorem W63{p:Prop}(h:p:=by first | assumption | exact fun x h1 h2=>Yr h0 hw h1 h2 | exact ⟨(Yc h0).1.2.2,(Yc h0).1.1⟩ | exact Nat.zero_le _ | exact UseQ.none | omega):p:=h
theorem W67{p:Prop}(h:p:=by (try simp only [Conj])<;>(repeat' apply And.intro)<;>first | exact List.length_set | exact Zb _ _ _ | exact List.length_replicate | exact Qem _ | (have e:dm0 g.nodes=un.set 0 0:=(by have q:=of_decide_eq_false h3;rw [hJ2.2.2,show ue.toNat=g.nodes.length by omega];exact (Qk4 _).symm);rw [e];first | exact List.length_set | exact Zb _ _ _)):p:=h
theorem W68{p:Prop}(h:p:=by first | assumption | omega | exact (Qbr hq (by omega)).1 | (rw [(Qbr hq (by omega)).2.1];exact (Q72 hq hJ6.lo (of_decide_eq_true h7)).2)):p:=h
theorem W71{p:Prop}(h:p:=by (try have q:=of_decide_eq_true h2);simp only [Conj];(repeat' apply And.intro)<;>first | exact Y6 _ _ | (simp;done) | exact Zb _ _ _ | exact Q3t _ _ _ | exact Qkw _ _ _ | exact Qoh _ _ _ _ | (rw [Qlv];rfl) | exact Qix _ _ | (intro i h1 h2;rw [Yb h1 h2]) | (rw [Qw];rfl)):p:=h
theorem W76{p:Prop}(h:p:=by simp only [Conj];first | exact Qm3 h1 | exact Qm2 (Q5l h1).1 (Q5l h1).2.1 (Q5l h1).2.2 (of_decide_eq_false h3) hJ2.2.2 | exact Qon (i:=ue.toNat) W231 (by first | (rw [Qgh h4,h5];rfl) | (rw [Qgi h4,h5];rfl))):p:=h
theorem W77{p:Prop}(h:p:=by first | exact hJ8.skip (of_decide_eq_true h9) (of_decide_eq_true h10) | exact hJ8.first (of_decide_eq_true h9) ((hJ4.1.pt hq (by omega) hJ6 hJ8.lo (of_decide_eq_true h9)).2.2 (of_decide_eq_false h10)) (of_decide_eq_true h11) | exact hJ4.1.meet hq (by omega) hJ6 hJ8 (of_decide_eq_true h9) ((hJ4.1.pt hq (by omega) hJ6 hJ8.lo (of_decide_eq_true h9)).2.2 (of_decide_eq_false h10)) (of_decide_eq_false h11)):p:=h
theorem W83{p:Prop}(h:p:=by have q:=of_decide_eq_true h2;have z0:=hJ1.1;have T:=hT ud z0 q;have zl:=hL.1;have z:=hL.2 ud.toNat (by omega);have z1:=congrArg List.length z.1;have z2:=Qo (gs.getD ud.toNat default).nodes;have z3:=z.2.1;have z4:=T.hN;(try have q4:=of_decide_eq_true h4);(try have z5:=hJ3.1);(try have z6:=hJ3.2.1);(try have z7:=hJ3.2.2.1);(try have z8:=hJ1.2.2.1);first | (have y:=hY6.1;exact ⟨by omega,by omega,by show uu≤_;dsimp only;omega,hY6.2⟩) | exact ⟨by omega,by omega,by show um≤_;dsimp only;omega,hJ3.2.2.2⟩):p:=h
theorem W85{p:Prop}(h:p:=by simp only [Conj];first | (rw [Qql h1];exact ⟨rfl,rfl⟩) | (rw [Qqm h1 h2];exact ⟨rfl,rfl⟩) | (rw [Qqn h1 h2 hJ3.1 h4 h5];exact ⟨rfl,rfl⟩) | (rw [Qqo h1 h2 hF,hJ5.2.2,show uk.toNat=gs.length by (have q:=of_decide_eq_false h6;omega)];exact ⟨rfl,rfl⟩)):p:=h
theorem W91{p:Prop}(h:p:=by simp only [Conj];(repeat' apply And.intro)<;>first | exact Qom h1 | exact Qgd (of_decide_eq_false h3) hJ2.2.2 | exact Qj3 h1 hJ2.1 (of_decide_eq_true h3) (by unfold clB dfB;grind)):p:=h
theorem W101{p:Prop}(h:p:=by have q3:=of_decide_eq_true h3;have z2:=hJ2.1;have q:=of_decide_eq_true h6;have z:=hJ5.1;have e:(uk+1).toNat=uk.toNat+1:=(by omega);refine ⟨by omega,by omega,?_⟩;dsimp only;rw [e];first | exact WtK.stay hJ5.2.2 (by omega) (hJ7.2.2.done (by have w:=of_decide_eq_false h8;omega) h9) | exact WtK.add hJ5.2.2 (by omega) (hT ue.toNat (by omega) _ (Y3 q z)) (Qkz _ (hY1.2 ue.toNat (by omega)).1)):p:=h
theorem W109{p:Prop}(h:p:=by simp only [Conj,Fits,Q7,Q8,Q9,Qa,News.len,maxLen]<;>(repeat' apply And.intro)<;>first | (have z:=hv (by simp only [Bool.not_eq_false',Bool.or_eq_true,decide_eq_true_eq] at h1;omega);exact W226) | grind):p:=h
theorem W110{p:Prop}(h:p:=by simp only [Conj,Fits,Q7,Q8,Q9,Qa,News.len,maxLen]<;>(repeat' apply And.intro)<;>first | (have q:=of_decide_eq_true h3;have z:=hJ2.1;have z1:=hJ2.2.2.1;have z2:=(Yc h0).1;exact W226) | grind):p:=h
theorem W114{p:Prop}(h:p:=by have q:=of_decide_eq_true h3;have z:=hJ2.1;have e:(ue+1).toNat=ue.toNat+1:=(by omega);refine ⟨by omega,by omega,?_⟩;dsimp only;rw [e];first | exact WtI.skip hJ2.2.2 (by simpa using h4) | exact WtK.outer hJ5.2.2 (by have w:=of_decide_eq_false h6;omega) (by have w:=Q47 (g.nodes.getD ue.toNat default);have v:=hJ5.2.1;omega) (by simpa using h4)):p:=h
theorem W115{p:Prop}(h:p:=by have q:=of_decide_eq_true h3;have z:=hJ2.1;exact ⟨by omega,by omega,Qd4 z hJ2.2.2 (by unfold clB dfB;grind)⟩):p:=h
theorem W118{p:Prop}(h:p:=by simp only [Conj,Fits,Q7,Qcv,Qcw,Q8,Q9,Qa,News.len,maxLen]<;>(repeat' apply And.intro)<;>(have q:=of_decide_eq_false h1;(try have q3:=hY3.1 q);(try have q4:=hY4.1 (by simpa using h3));omega)):p:=h
theorem W120{p:Prop}(h:p:=by first | exact (hJ1.n1 hq (of_decide_eq_true h2) (of_decide_eq_true h3)).2 | exact (hJ1.n2 hq (of_decide_eq_true h2) (of_decide_eq_false h3) (nb1 h4)).2 | exact (hJ1.n3 hq (of_decide_eq_true h2) (of_decide_eq_false h3) (nb2 h4)).2):p:=h
theorem W121{p:Prop}(h:p:=by first | exact (hJ1.n1 hq (of_decide_eq_true h2) (of_decide_eq_true h3)).1 | exact (hJ1.n2 hq (of_decide_eq_true h2) (of_decide_eq_false h3) (nb1 h4)).1 | exact (hJ1.n3 hq (of_decide_eq_true h2) (of_decide_eq_false h3) (nb2 h4)).1):p:=h
theorem W130{p:Prop}(h:p:=by first | assumption | exact (hY1.get _).1 | exact (hY1.get _).2 | omega):p:=h
theorem W140{p:Prop}(h:p:=by first | assumption | omega | exact W231):p:=h
theorem W141{p:Prop}(h:p:=by simp only [Conj,Fits,Q7,Q8,Q9,Qa,News.len,maxLen]<;>(repeat' apply And.intro)<;>first | (have q:=of_decide_eq_true h4;have z:=hJ3.1;have z1:=hJ3.2.2;have z2:=(Yc h0).1;exact W226) | grind):p:=h
theorem W143{p:Prop}(h:p:=by first | assumption | omega | (have q:=of_decide_eq_true h3;have z:=hJ2.1;have k:=hk ue.toNat (by omega);exact k)):p:=h
theorem W144{p:Prop}(h:p:=by simp only [Conj,Fits,Q7,Q8,Q9,Qa,News.len,maxLen]<;>(repeat' apply And.intro)<;>(exact W231)):p:=h
theorem W145{p:Prop}(h:p:=by simp only [Conj,Fits,Q7,Q8,Q9,Qa,News.len,maxLen]<;>(repeat' apply And.intro)<;>first | (have q:=of_decide_eq_true h2;have z:=hJ1.1;have z1:=hJ1.2.1;have z2:=hJ1.2.2.1;have z3:=hJ1.2.2.2.1;omega) | grind):p:=h
theorem W147{p:Prop}(h:p:=by first | exact hJ6.diffI hq (by omega) hJ4.1 (of_decide_eq_true h7) hJ8 (of_decide_eq_false h9) (of_decide_eq_false (nb3 h10)) | exact hJ6.sameI hq (by omega) hJ4.1 (of_decide_eq_true h7) hJ8 (of_decide_eq_false h9) (of_decide_eq_true (nb1 h10))):p:=h
theorem W148{p:Prop}(h:p:=by first | exact hJ6.put (of_decide_eq_true h7) ⟨hJ3.lo,of_decide_eq_true h4⟩ (Q72 hq hJ6.lo (of_decide_eq_true h7)) | exact hJ6.skip (of_decide_eq_true h7)):p:=h
theorem W149{p:Prop}(h:p:=by dsimp only [uX];exact W231):p:=h
theorem W151{p:Prop}(h:p:=by simp only [Conj];(repeat' apply And.intro)<;>first | exact MpEq.put (Nat.le_refl _) | (refine MpEq.mk' (Nat.le_refl _) ?_ ?_<;>intro q<;>rfl)):p:=h
theorem W154{p:Prop}(h:p:=by simp only [Conj];first | (rw [if_pos (by simp only [Bool.or_eq_true,decide_eq_true_eq] at h2;exact h2)];done) | (rw [if_neg (by simp only [Bool.or_eq_false_iff,decide_eq_false_iff_not] at h2;omega)];done)):p:=h
theorem W156{p:Prop}(h:p:=by simp only [Conj,Fits,Q7,Q8,Q9,Qa,News.len,maxLen]<;>(repeat' apply And.intro)<;>(have q:=of_decide_eq_true h2;have z:=hJ1.1;exact W226)):p:=h
theorem W160{p:Prop}(h:p:=by simp only [Conj,Fits,Q7,Q8,Q9,Qa,News.len,maxLen]<;>(repeat' apply And.intro)<;>(have q:=of_decide_eq_true h2;have z:=hJ1.i0;have z1:=hJ1.il;omega)):p:=h
theorem W166{p:Prop}(h:p:=by have q:=of_decide_eq_true h3;have z:=hJ2.1;exact ⟨by omega,by omega,Qbb z hJ2.2.2 (by first | (rw [Qgh h4,h5];rfl) | (rw [Qgi h4,h5];rfl))⟩):p:=h
theorem W168{p:Prop}(h:p:=by (try simp only [Conj])<;>(repeat' apply And.intro)<;>first | trivial | exact List.length_replicate | (simp [bk0];done) | exact Q7u | exact Qem _):p:=h
theorem W169{p:Prop}(h:p:=by simp only [Conj];(repeat' apply And.intro)<;>first | exact Qj4 hJ1.1 (of_decide_eq_true h2) h3 | exact Qge (of_decide_eq_false h2) hJ1.2.2):p:=h
theorem W173{p:Prop}(h:p:=by first | exact ⟨Nat.le_succ _,hF⟩ | exact ⟨Nat.le_refl _,hF.put (or_rng _ _) (Qlt _ _)⟩):p:=h
theorem W175{p:Prop}(h:p:=by first | assumption | omega | (have q:=of_decide_eq_true h2;exact hl _ (Y3 q hJ1.1))):p:=h
theorem W176{p:Prop}(h:p:=by first | exact (DpD.done hJ8 hJ11 (Yx _ _) (hJ8.td.top (of_decide_eq_true h9)) h10).2 | exact (hJ8.pop (of_decide_eq_true h9)).2):p:=h
theorem W177{p:Prop}(h:p:=by first | exact (DpD.done hJ8 hJ11 (Yx _ _) (hJ8.td.top (of_decide_eq_true h9)) h10).1 | exact (hJ8.pop (of_decide_eq_true h9)).1):p:=h
theorem W178{p:Prop}(h:p:=by first | exact hJ11.put (of_decide_eq_true h12) (Q72 hq hJ11.lo (of_decide_eq_true h12)) | exact hJ11.skip (of_decide_eq_true h12)):p:=h
theorem W182{p:Prop}(h:p:=by dsimp only [vb];have q:=of_decide_eq_true h9;have z:=hJ8.lo;omega):p:=h
theorem W183{p:Prop}(h:p:=by dsimp only [vd];have q:=of_decide_eq_true h7;have z:=hJ6.lo;omega):p:=h
theorem W185{p:Prop}(h:p:=by have q:=of_decide_eq_true h4;have z:=hJ3.1;exact ⟨by omega,by omega,Qbb z hJ3.2.2 (by simpa using h5)⟩):p:=h
theorem W186{p:Prop}(h:p:=by dsimp only [ve];have q:=of_decide_eq_true h10;have z:=hJ9.1;omega):p:=h
theorem W188{p:Prop}(h:p:=by (try simp only [Conj])<;>(repeat' apply And.intro)<;>first | exact Y6 _ _ | exact Q27 _ _ _ _):p:=h
theorem W190{p:Prop}(h:p:=by simp only [Conj];(repeat' apply And.intro)<;>(refine MpEq.mk' (Nat.le_refl _) ?_ ?_<;>intro q<;>rfl)):p:=h
theorem W191{p:Prop}(h:p:=by simp only [Conj];first | exact hJ1.bad (of_decide_eq_true h2) h3 | exact hJ1.done (of_decide_eq_false h2)):p:=h
theorem W193{p:Prop}(h:p:=by first | exact hJ11.done hJ3.lo (of_decide_eq_true h4) | exact hJ3.next (of_decide_eq_true h4)):p:=h
theorem W194{p:Prop}(h:p:=by dsimp only [vr];have q:=of_decide_eq_true h7;have z:=hJ6.lo;rw [Qha];omega):p:=h
theorem W197{p:Prop}(h:p:=by simp only [Conj];(repeat' apply And.intro)<;>omega):p:=h
theorem W199{p:Prop}(h:p:=by dsimp only [vt];have q:=of_decide_eq_true h12;have z:=hJ11.lo;omega):p:=h
theorem W202{p:Prop}(h:p:=by dsimp only [vu];have q:=of_decide_eq_true h4;have z:=hJ3.lo;omega):p:=h
theorem W203{p:Prop}(h:p:=by dsimp only [vw];exact W244):p:=h
theorem W207{p:Prop}(h:p:=by dsimp only [vx];exact W231):p:=h
theorem W208{p:Prop}(h:p:=by dsimp only [vy];have q:=of_decide_eq_true h6;have z:=hJ5.1;omega):p:=h
theorem W209{p:Prop}(h:p:=by dsimp only [vz];exact W230):p:=h
theorem W211{p:Prop}(h:p:=by dsimp only [vA];exact W231):p:=h
theorem W225{p:Prop}(h:p:=by have z1:=Qbd h1 hJ5.1 h6 hF;have z2:=hJ9.1;have z3:=of_decide_eq_true h10;have z4:=hY8.1;have z5:=z1.2.2 uo.toNat (by omega);have z6:=Q7z (gs.getD uk.toNat default).nodes (al.getD uk.toNat default).places uo.toNat (((al.getD uk.toNat default).places.getD uo.toNat default).cell,((al.getD uk.toNat default).places.getD uo.toNat default).n);have z7:(atM (gs.getD uk.toNat default).nodes (al.getD uk.toNat default).places uo.toNat (((al.getD uk.toNat default).places.getD uo.toNat default).cell,((al.getD uk.toNat default).places.getD uo.toNat default).n)).1≤uo.toNat:=z6;omega):p:=h
theorem W231{p:Prop}(h:p:=by have q:=of_decide_eq_true h3;have z:=hJ2.1;omega):p:=h
theorem W246{p:Prop}(h:p:=by have q:=of_decide_eq_true h5;have z:=hJ4.1;omega):p:=h
end Go
noncomputable section
namespace Go.Proofs.YtnddggenhefaeaaGreatDoor
open Go Go.Tx
def vX (l:List Int):Lp (Int×Int×List Int):=⟨fun x=>{ N:=28,fr:=[se 3 (C.i .i64 x.1),se 2 (C.i .i64 x.2.1),se 0 (C.h 0)],rg:=[IntOwn (x.2.2)],wr:=[] },fun x=>RevJ l x.2.2 x.2.1 x.1,fun x=>(x.1-x.2.1).toNat⟩
abbrev zcI (y0:List Int) (y1 y2:Int):List Int:=(y0.set y1.toNat (y0.getD y2.toNat 0)).set y2.toNat (y0.getD y1.toNat 0)
theorem Qhd (l:List Int):Ctr jb 164 [IntOwn l] [.c (.h 0)]
 (Det (.tup []) [IntOwn l.reverse]):=by
 refine Ctr.intro [] Tryz.func164 K K ?_
 refine RunF.lens 0 (m:=l.length) K (fun hlens_0=>?_)
 refine Q6 (vX l) (((↑l.length:Int)-(1:Int),(0:Int),l)) (RevJ.start l) ?_ (vc:=[Fits ja ((↑l.length:Int)-(1:Int))]) (hv:=W145)
 rintro ⟨ud,ui,uf⟩ hJ1
 dsimp only [vX] at hJ1
 refine tz [3,2,0] ?_
 refine Q0 (decide (ui<ud)) (fun h2=>?_) (fun h2=>?_)
 ·exact Q4 (vX l) (ud,ui,uf) ((ud-(1:Int),ui+(1:Int),(zcI uf ui ud))) (by dsimp only [vX];exact W235) (hJ1.next (ub h2)) [] [0,1] [((zcI uf ui ud)).length=uf.length,∀ (i:Nat),i<((zcI uf ui ud)).length→i64T (((zcI uf ui ud)).getD i 0)=updT (updT (fun i=>i64T (uf.getD i 0)) ui.toNat 0 [jg ja (uf.getD ud.toNat 0)]) ud.toNat 0 [jg ja (uf.getD ui.toNat 0)] i] (by simp only [Conj];(repeat' apply jl)<;>first | (simp;done) | exact Qg7 _ _ _ _ _) (vc:=[(0:Int)≤ud,ud<(↑uf.length:Int),ud.toNat<uf.length,(0:Int)≤ui,ui<(↑uf.length:Int),ui.toNat<uf.length,(0:Int)≤ui,ui<(↑uf.length:Int),ui.toNat<uf.length,(0:Int)≤ud,ud<(↑uf.length:Int),ud.toNat<uf.length,Fits ja (ui+(1:Int)),Fits ja (ud-(1:Int))]) (hv:=W145)
 ·exact Ya [] [0,1] [l.reverse.length=uf.length,∀ (i:Nat),i<l.reverse.length→i64T (l.reverse.getD i 0)=i64T (uf.getD i 0)] (by simp only [Conj];have q:=uc h2;rw [hJ1.done (by omega)];exact ⟨rfl,fun _ _=>rfl⟩)
def vB (g:Grf):Lp (List Int×List Bo×List Vis):=⟨fun x=>{ N:=104,fr:=[se 6 (C.h 3),se 5 (C.h 4),se 4 (C.h 2),se 3 (C.v (je none 0 0)),zL,za3],rg:=[rowOf 13 (·.tc) g.nodes,ze g,Bo.ownR (x.2.1),Vis.ownR (x.2.2)]++[IntOwn x.1],wr:=[] },fun x=>BkS g.nodes ⟨x.2.1,x.1,x.2.2⟩,fun x=>msB ⟨x.2.1,x.1,x.2.2⟩⟩
def vC (g:Grf) (ud:List Int) (ui:List Bo) (uf:List Vis):Lp (Int×List Int):=⟨fun x=>{ N:=104,fr:=[se 92 (C.i .i64 x.1),se 91 (C.i .i64 (↑ud.reverse.length:Int)),se 90 (C.h 4),se 10 (C.h 5),se 5 (C.h 4),se 3 (C.v (je none 0 0)),zL],rg:=[rowOf 13 (·.tc) g.nodes,ze g,ownOf 4 1 (·.tc) ui,ownOf 225 2 (·.tc) uf,IntOwn ud.reverse,IntOwn (x.2)],wr:=[] },fun x=>0≤x.1∧x.1≤(ud.length:Int)∧x.2=plcU ud.reverse g.nodes.length x.1.toNat,fun x=>((ud.length:Int)-x.1).toNat⟩
abbrev zah (y0:Grf):List Prop:=[(jh y0.nodes.length (0:Int)).length=y0.nodes.length,∀ (i:Nat),i<(jh y0.nodes.length (0:Int)).length→i64T ((jh y0.nodes.length (0:Int)).getD i 0)=fun j=>valT (jg ja (0:Int)).cells.toList j]
abbrev zas (y0:Grf):List Prop:=[(0:Int)≤(↑y0.nodes.length:Int),(↑y0.nodes.length:Int)≤(↑y0.nodes.length:Int),(↑y0.nodes.length:Int) * (8:Int)≤(140737488355328:Int),(↑y0.nodes.length:Int)≤(↑maxLen:Int)]
abbrev zb7 (y0:Grf):Reg:=IntOwn (plcL y0.nodes)
theorem Qcl (g:Grf) (hq:zG g) (hN:1≤g.nodes.length∧g.nodes.length≤4096):Ctr jb 160 [zao g] [.agg (g.cs 0)]
 (Det (.tup [(false,[.h 1]),(false,[.h 2])]) [.dead,IntOwn (ordL g.nodes),zb7 g]):=by
 refine Ctr.intro [] Tryz.func160 K K ?_
 refine Q6 (vB g) (([],(bk0 g.nodes).se,[Vis.mk (0:Int) (0:Int)])) (BkS.start W30) ?_ [0,1,2,3,1000004] [5,6,7,8,9,10,11] [(bk0 g.nodes).se.length=g.nodes.length,∀ (i:Nat),i<(bk0 g.nodes).se.length→((bk0 g.nodes).se.getD i ua).tc=updT (fun x j=>valT (jS false).cells.toList j) 0 0 [jS true] i,[Vis.mk (0:Int) (0:Int)].length=1,∀ (i:Nat),i < [Vis.mk (0:Int) (0:Int)].length→i≠0→([Vis.mk (0:Int) (0:Int)].getD i ua).tc=fun x=>TC.any,(Vis.mk (0:Int) (0:Int)).tc 0=TC.val (jg ja (0:Int)),(Vis.mk (0:Int) (0:Int)).tc 1=TC.val (jg ja (0:Int)),(0:Nat)=0] W168 (vc:=(zaD g)) (hv:=W24)
 rintro ⟨ud,ui,uf⟩ hJ1
 dsimp only [vB] at hJ1
 refine tz [6,5,4,3,2,1] ?_
 refine Q0 (decide ((0:Int)<(↑uf.length:Int))) (fun h2=>?_) (fun h2=>?_)
 ·refine tz [6,5,4,3,2,1] ?_
  refine Q3 Ye (Zy (g.nodes.getD (uf.getD ((↑uf.length:Int)-(1:Int)).toNat ua).pos.toNat ua)) [] ?_ (vc:=[Fits ja ((↑uf.length:Int)-(1:Int)),(0:Int)≤(↑uf.length:Int)-(1:Int),(↑uf.length:Int)-(1:Int)<(↑uf.length:Int),((↑uf.length:Int)-(1:Int)).toNat<uf.length,(0:Int)≤(uf.getD ((↑uf.length:Int)-(1:Int)).toNat ua).pos,(uf.getD ((↑uf.length:Int)-(1:Int)).toNat ua).pos<(↑g.nodes.length:Int),(uf.getD ((↑uf.length:Int)-(1:Int)).toNat ua).pos.toNat<g.nodes.length]) (hv:=W24)
  refine tz [37,36,35,34,33,32,31,30,29,7,6,5,4,3,2,1] ?_
  refine Q0 (decide ((uf.getD ((↑uf.length:Int)-(1:Int)).toNat ua).k=(↑(flwL (g.nodes.getD (uf.getD ((↑uf.length:Int)-(1:Int)).toNat ua).pos.toNat ua)).length:Int))) (fun h3=>?_) (fun h3=>?_) (vc:=[((↑uf.length:Int)-(1:Int)).toNat<uf.length]) (hv:=W24)
  ·refine RunF.hereJ (vc:=[((↑uf.length:Int)-(1:Int)).toNat<uf.length,ud.length+1≤maxLen,(ud.length+1) * 8≤140737488355328,Fits ja ((↑uf.length:Int)-(1:Int)),(0:Int)≤(↑uf.length:Int)-(1:Int),(↑uf.length:Int)-(1:Int)≤(↑uf.length:Int),0<uf.length]) K K W24 ?_
   refine RunF.trim 3 ((uf.length-1)) (ty:=225) (size:=2) (n:=uf.length) (f:=fun i=>(uf.getD i ua).tc) (vc:=[((↑uf.length:Int)-(1:Int)).toNat-0=uf.length-1,((↑uf.length:Int)-(1:Int)).toNat-0=uf.length-1]) K K W174 K W197 ?_
   exact Q4 (vB g) (ud,ui,uf) ((ud++[(uf.getD ((↑uf.length:Int)-(1:Int)).toNat ua).pos],ui,jR (uf.length-1) uf)) W120 W121 [0,1,2,8,7] [7,8,9,10,11] [(jR (uf.length-1) uf).length=uf.length-1,∀ (i:Nat),i<(jR (uf.length-1) uf).length→((jR (uf.length-1) uf).getD i ua).tc=(uf.getD i ua).tc,(ud++[(uf.getD ((↑uf.length:Int)-(1:Int)).toNat ua).pos]).length=ud.length+1,∀ (i:Nat),i<(ud++[(uf.getD ((↑uf.length:Int)-(1:Int)).toNat ua).pos]).length→i≠ud.length→i64T ((ud++[(uf.getD ((↑uf.length:Int)-(1:Int)).toNat ua).pos]).getD i 0)=i64T (ud.getD i 0),i64T ((ud++[(uf.getD ((↑uf.length:Int)-(1:Int)).toNat ua).pos]).getD ud.length 0) 0=TC.val (jg ja (uf.getD ((↑uf.length:Int)-(1:Int)).toNat ua).pos)] W71
  ·refine tz [8,7,6,5,4,3,2,1] ?_
   refine Q0 (!(ui.getD ((flwL (g.nodes.getD (uf.getD ((↑uf.length:Int)-(1:Int)).toNat ua).pos.toNat ua)).getD (uf.getD ((↑uf.length:Int)-(1:Int)).toNat ua).k.toNat (0:Int)).toNat ua).b) (fun h4=>?_) (fun h4=>?_) (vc:=[((↑uf.length:Int)-(1:Int)).toNat<uf.length,(0:Int)≤(uf.getD ((↑uf.length:Int)-(1:Int)).toNat ua).k,(uf.getD ((↑uf.length:Int)-(1:Int)).toNat ua).k<(↑(flwL (g.nodes.getD (uf.getD ((↑uf.length:Int)-(1:Int)).toNat ua).pos.toNat ua)).length:Int),(uf.getD ((↑uf.length:Int)-(1:Int)).toNat ua).k.toNat<(flwL (g.nodes.getD (uf.getD ((↑uf.length:Int)-(1:Int)).toNat ua).pos.toNat ua)).length,((↑uf.length:Int)-(1:Int)).toNat<uf.length,Fits ja ((uf.getD ((↑uf.length:Int)-(1:Int)).toNat ua).k+(1:Int)),((↑uf.length:Int)-(1:Int)).toNat<uf.length,(0:Int)≤(flwL (g.nodes.getD (uf.getD ((↑uf.length:Int)-(1:Int)).toNat ua).pos.toNat ua)).getD (uf.getD ((↑uf.length:Int)-(1:Int)).toNat ua).k.toNat (0:Int),(flwL (g.nodes.getD (uf.getD ((↑uf.length:Int)-(1:Int)).toNat ua).pos.toNat ua)).getD (uf.getD ((↑uf.length:Int)-(1:Int)).toNat ua).k.toNat (0:Int)<(↑ui.length:Int),((flwL (g.nodes.getD (uf.getD ((↑uf.length:Int)-(1:Int)).toNat ua).pos.toNat ua)).getD (uf.getD ((↑uf.length:Int)-(1:Int)).toNat ua).k.toNat (0:Int)).toNat<ui.length]) (hv:=W24)
   ·exact Q4 (vB g) (ud,ui,uf) ((ud,ui.set ((flwL (g.nodes.getD (uf.getD ((↑uf.length:Int)-(1:Int)).toNat ua).pos.toNat ua)).getD (uf.getD ((↑uf.length:Int)-(1:Int)).toNat ua).k.toNat (0:Int)).toNat (Bo.mk true),uf.set ((↑uf.length:Int)-(1:Int)).toNat (Vis.mk (uf.getD ((↑uf.length:Int)-(1:Int)).toNat ua).pos ((uf.getD ((↑uf.length:Int)-(1:Int)).toNat ua).k+(1:Int)))++[Vis.mk ((flwL (g.nodes.getD (uf.getD ((↑uf.length:Int)-(1:Int)).toNat ua).pos.toNat ua)).getD (uf.getD ((↑uf.length:Int)-(1:Int)).toNat ua).k.toNat (0:Int)) (0:Int)])) W120 W121 [0,1,2,7,4] [5,6,7,8,9,10] [(ui.set ((flwL (g.nodes.getD (uf.getD ((↑uf.length:Int)-(1:Int)).toNat ua).pos.toNat ua)).getD (uf.getD ((↑uf.length:Int)-(1:Int)).toNat ua).k.toNat (0:Int)).toNat (Bo.mk true)).length=ui.length,∀ (i:Nat),i<(ui.set ((flwL (g.nodes.getD (uf.getD ((↑uf.length:Int)-(1:Int)).toNat ua).pos.toNat ua)).getD (uf.getD ((↑uf.length:Int)-(1:Int)).toNat ua).k.toNat (0:Int)).toNat (Bo.mk true)).length→((ui.set ((flwL (g.nodes.getD (uf.getD ((↑uf.length:Int)-(1:Int)).toNat ua).pos.toNat ua)).getD (uf.getD ((↑uf.length:Int)-(1:Int)).toNat ua).k.toNat (0:Int)).toNat (Bo.mk true)).getD i ua).tc=updT (fun i=>(ui.getD i ua).tc) ((flwL (g.nodes.getD (uf.getD ((↑uf.length:Int)-(1:Int)).toNat ua).pos.toNat ua)).getD (uf.getD ((↑uf.length:Int)-(1:Int)).toNat ua).k.toNat (0:Int)).toNat 0 [jS true] i,(uf.set ((↑uf.length:Int)-(1:Int)).toNat (Vis.mk (uf.getD ((↑uf.length:Int)-(1:Int)).toNat ua).pos ((uf.getD ((↑uf.length:Int)-(1:Int)).toNat ua).k+(1:Int)))++[Vis.mk ((flwL (g.nodes.getD (uf.getD ((↑uf.length:Int)-(1:Int)).toNat ua).pos.toNat ua)).getD (uf.getD ((↑uf.length:Int)-(1:Int)).toNat ua).k.toNat (0:Int)) (0:Int)]).length=uf.length+1,∀ (i:Nat),i<(uf.set ((↑uf.length:Int)-(1:Int)).toNat (Vis.mk (uf.getD ((↑uf.length:Int)-(1:Int)).toNat ua).pos ((uf.getD ((↑uf.length:Int)-(1:Int)).toNat ua).k+(1:Int)))++[Vis.mk ((flwL (g.nodes.getD (uf.getD ((↑uf.length:Int)-(1:Int)).toNat ua).pos.toNat ua)).getD (uf.getD ((↑uf.length:Int)-(1:Int)).toNat ua).k.toNat (0:Int)) (0:Int)]).length→i≠uf.length→((uf.set ((↑uf.length:Int)-(1:Int)).toNat (Vis.mk (uf.getD ((↑uf.length:Int)-(1:Int)).toNat ua).pos ((uf.getD ((↑uf.length:Int)-(1:Int)).toNat ua).k+(1:Int)))++[Vis.mk ((flwL (g.nodes.getD (uf.getD ((↑uf.length:Int)-(1:Int)).toNat ua).pos.toNat ua)).getD (uf.getD ((↑uf.length:Int)-(1:Int)).toNat ua).k.toNat (0:Int)) (0:Int)]).getD i ua).tc=updT (fun i=>(uf.getD i ua).tc) ((↑uf.length:Int)-(1:Int)).toNat 1 [jg ja ((uf.getD ((↑uf.length:Int)-(1:Int)).toNat ua).k+(1:Int))] i,((uf.set ((↑uf.length:Int)-(1:Int)).toNat (Vis.mk (uf.getD ((↑uf.length:Int)-(1:Int)).toNat ua).pos ((uf.getD ((↑uf.length:Int)-(1:Int)).toNat ua).k+(1:Int)))++[Vis.mk ((flwL (g.nodes.getD (uf.getD ((↑uf.length:Int)-(1:Int)).toNat ua).pos.toNat ua)).getD (uf.getD ((↑uf.length:Int)-(1:Int)).toNat ua).k.toNat (0:Int)) (0:Int)]).getD uf.length ua).tc 0=TC.val (jg ja ((flwL (g.nodes.getD (uf.getD ((↑uf.length:Int)-(1:Int)).toNat ua).pos.toNat ua)).getD (uf.getD ((↑uf.length:Int)-(1:Int)).toNat ua).k.toNat (0:Int))),((uf.set ((↑uf.length:Int)-(1:Int)).toNat (Vis.mk (uf.getD ((↑uf.length:Int)-(1:Int)).toNat ua).pos ((uf.getD ((↑uf.length:Int)-(1:Int)).toNat ua).k+(1:Int)))++[Vis.mk ((flwL (g.nodes.getD (uf.getD ((↑uf.length:Int)-(1:Int)).toNat ua).pos.toNat ua)).getD (uf.getD ((↑uf.length:Int)-(1:Int)).toNat ua).k.toNat (0:Int)) (0:Int)]).getD uf.length ua).tc 1=TC.val (jg ja (0:Int))] W71 (vc:=[(0:Int)≤(flwL (g.nodes.getD (uf.getD ((↑uf.length:Int)-(1:Int)).toNat ua).pos.toNat ua)).getD (uf.getD ((↑uf.length:Int)-(1:Int)).toNat ua).k.toNat (0:Int),(flwL (g.nodes.getD (uf.getD ((↑uf.length:Int)-(1:Int)).toNat ua).pos.toNat ua)).getD (uf.getD ((↑uf.length:Int)-(1:Int)).toNat ua).k.toNat (0:Int)<(↑ui.length:Int),((flwL (g.nodes.getD (uf.getD ((↑uf.length:Int)-(1:Int)).toNat ua).pos.toNat ua)).getD (uf.getD ((↑uf.length:Int)-(1:Int)).toNat ua).k.toNat (0:Int)).toNat<ui.length,uf.length+1≤maxLen,(uf.length+1) * 16≤140737488355328]) (hv:=W24)
   ·exact Q4 (vB g) (ud,ui,uf) ((ud,ui,uf.set ((↑uf.length:Int)-(1:Int)).toNat (Vis.mk (uf.getD ((↑uf.length:Int)-(1:Int)).toNat ua).pos ((uf.getD ((↑uf.length:Int)-(1:Int)).toNat ua).k+(1:Int))))) W120 W121 [] [7,8] [(uf.set ((↑uf.length:Int)-(1:Int)).toNat (Vis.mk (uf.getD ((↑uf.length:Int)-(1:Int)).toNat ua).pos ((uf.getD ((↑uf.length:Int)-(1:Int)).toNat ua).k+(1:Int)))).length=uf.length,∀ (i:Nat),i<(uf.set ((↑uf.length:Int)-(1:Int)).toNat (Vis.mk (uf.getD ((↑uf.length:Int)-(1:Int)).toNat ua).pos ((uf.getD ((↑uf.length:Int)-(1:Int)).toNat ua).k+(1:Int)))).length→((uf.set ((↑uf.length:Int)-(1:Int)).toNat (Vis.mk (uf.getD ((↑uf.length:Int)-(1:Int)).toNat ua).pos ((uf.getD ((↑uf.length:Int)-(1:Int)).toNat ua).k+(1:Int)))).getD i ua).tc=updT (fun i=>(uf.getD i ua).tc) ((↑uf.length:Int)-(1:Int)).toNat 1 [jg ja ((uf.getD ((↑uf.length:Int)-(1:Int)).toNat ua).k+(1:Int))] i] W71
 ·refine tz [6,5,4,3,2,1] ?_
  refine Q3 Q26 (Qhd ud) [4] ?_
  refine tz [5,3,2,1] ?_
  refine Q6 (vC g ud ui uf) (((0:Int),jh g.nodes.length (0:Int))) (⟨jz _,by omega,rfl⟩) ?_ [] [11,12] (zah g) W168 (vc:=(zas g)) (hv:=W24)
  rintro ⟨ug,um⟩ hJ3
  dsimp only [vC] at hJ3
  refine tz [92,91,90,10,5,3,2] ?_
  refine Q0 (decide (ug<(↑ud.reverse.length:Int))) (fun h4=>?_) (fun h4=>?_)
  ·exact Q4 (vC g ud ui uf) (ug,um) ((ug+(1:Int),um.set (ud.reverse.getD ug.toNat 0).toNat ug)) (by dsimp only [vC];have q:=ub h4;have z6:ud.reverse.length=ud.length:=List.length_reverse;omega) (by dsimp only [vC];have q:=ub h4;have z6:ud.reverse.length=ud.length:=List.length_reverse;have z7:=hJ3.1;refine ⟨by omega,by omega,?_⟩;rw [hJ3.2.2,show (ug+1).toNat=ug.toNat+1 by omega];simp only [plcU];rw [kp hJ3.1]) [] [11,12] [(um.set (ud.reverse.getD ug.toNat 0).toNat ug).length=um.length,∀ (i:Nat),i<(um.set (ud.reverse.getD ug.toNat 0).toNat ug).length→i64T ((um.set (ud.reverse.getD ug.toNat 0).toNat ug).getD i 0)=updT (fun i=>i64T (um.getD i 0)) (ud.reverse.getD ug.toNat 0).toNat 0 [jg ja ug] i] W71 (vc:=[(0:Int)≤ug,ug<(↑ud.reverse.length:Int),ug.toNat<ud.reverse.length,(0:Int)≤ud.reverse.getD ug.toNat 0,ud.reverse.getD ug.toNat 0<(↑um.length:Int),(ud.reverse.getD ug.toNat 0).toNat<um.length,Fits ja (ug+(1:Int))]) (hv:=W24)
  ·exact Q2 [0,4,5] [0,1,2,3] [(ordL g.nodes).length=ud.reverse.length,∀ (i:Nat),i<(ordL g.nodes).length→i64T ((ordL g.nodes).getD i 0)=i64T (ud.reverse.getD i 0),(plcL g.nodes).length=um.length,∀ (i:Nat),i<(plcL g.nodes).length→i64T ((plcL g.nodes).getD i 0)=i64T (um.getD i 0)] (by simp only [Conj];have q:=uc h4;have z6:ud.reverse.length=ud.length:=List.length_reverse;have z7:=hJ3.1;have z8:=hJ3.2.1;have e:=hJ1.done (by have z:=uc h2;show uf.length=0;omega);have e1:ordL g.nodes=ud.reverse:=(by unfold ordL;rw [e]);have e2:um=plcL g.nodes:=(by rw [hJ3.2.2];unfold plcL;rw [e1,show ug.toNat=ud.reverse.length by omega]);rw [e1,← e2];(repeat' apply jl)<;>first | rfl | (intros;rfl))
abbrev zby:Reg:=Reg.box 49 [C.h 3]
def vY (P:List Int) (U:List Int) (a:Int) (b:Int):Lp (Int×Int):=⟨fun x=>{ N:=37,fr:=[se 6 (C.i .i64 0),se 0 (C.i .i64 x.1),se 1 (C.i .i64 x.2),se 2 (C.p 0 0),se 3 (C.p 1 0)],rg:=[zaX,zby,IntOwn P,IntOwn U],wr:=[] },fun x=>MtJ P U a b x.1 x.2,fun x=>(P.getD x.1.toNat 0+P.getD x.2.toNat 0).toNat⟩
abbrev zbD (y0 y1:Int) (y2 y3:List Int):St:={ N:=37,fr:=[se 6 (C.i .i64 0),se 0 (C.i .i64 y0),se 1 (C.i .i64 y1),se 2 (C.p 0 0),se 3 (C.p 1 0)],rg:=[zaX,zby,IntOwn y2,IntOwn y3],wr:=[] }
def vD (P:List Int) (U:List Int) (ud:Int) (ui:Int) (a:Int) (b:Int):Lp (Int):=⟨fun x=>(zbD x ui P U),fun x=>MtJ P U a b x ui∧(x=ud∨P.getD x.toNat 0<P.getD ud.toNat 0),fun x=>(P.getD x.toNat 0).toNat⟩
def vE (P:List Int) (U:List Int) (ui:Int) (ug:Int) (a:Int) (b:Int) (ud:Int):Lp (Int):=⟨fun x=>(zbD ug x P U),fun x=>MtJ P U a b ug x∧((ug=ud∧x=ui)∨P.getD ug.toNat 0+P.getD x.toNat 0<P.getD ud.toNat 0+P.getD ui.toNat 0),fun x=>(P.getD x.toNat 0).toNat⟩
abbrev zbZ (y0:Int) (y1:List Int) (y2:Int):List Prop:=[(0:Int)≤y0,y0<(↑y1.length:Int),y0.toNat<y1.length,(0:Int)≤y2,y2<(↑y1.length:Int),y2.toNat<y1.length]
theorem Qpf (P U:List Int) (a b:Int) (hM:MtH P U) (ha:MtS U a) (hb:MtS U b):Ctr jb 161 [Reg.box 49 [.h 2],Reg.box 49 [.h 3],IntOwn P,IntOwn U] [zc8 a,zc8 b,.c (.p 0 0),.c (.p 1 0)]
 (Det (.c (.i .i64 (mtF P U a b))) [Reg.box 49 [.h 2],Reg.box 49 [.h 3],IntOwn P,IntOwn U]):=by
 refine Ctr.intro [] Tryz.func161 K K ?_
 refine Q6 (vY P U a b) ((a,b)) (.start ha hb) ?_
 rintro ⟨ud,ui⟩ hJ1
 dsimp only [vY] at hJ1
 refine tz [6,0,1,2,3] ?_
 refine Q0 (!decide (ud=ui)) (fun h2=>?_) (fun h2=>?_)
 ·refine tz [6,0,1,2,3] ?_
  refine Q6 (vD P U ud ui a b) (ud) (⟨hJ1,.inl rfl⟩) ?_
  rintro ug hJ3
  dsimp only [vD] at hJ3
  refine tz [6,0,1,2,3] ?_
  refine Q0 (decide (P.getD ui.toNat 0<P.getD ug.toNat 0)) (fun h4=>?_) (fun h4=>?_) (vc:=(zbZ ug P ui)) (hv:=W62)
  ·exact Q4 (vD P U ud ui a b) ug (U.getD ug.toNat 0) (by dsimp only [vD];have z:=hJ3.1.one hM (ub h4);omega) (by dsimp only [vD];have z:=hJ3.1.one hM (ub h4);exact ⟨z.1,.inr (by rcases hJ3.2 with e | e<;>first | (rw [← e];exact z.2.1) | omega)⟩) (vc:=(zax ug U)) (hv:=W62)
  ·refine tz [6,0,1,2,3] ?_
   refine Q6 (vE P U ui ug a b ud) (ui) (⟨hJ3.1,by rcases hJ3.2 with e | e<;>first | exact .inl ⟨e,rfl⟩ | exact .inr W30⟩) ?_
   rintro uk hJ5
   dsimp only [vE] at hJ5
   refine tz [6,0,1,2,3] ?_
   refine Q0 (decide (P.getD ug.toNat 0<P.getD uk.toNat 0)) (fun h6=>?_) (fun h6=>?_) (vc:=(zbZ uk P ug)) (hv:=W62)
   ·exact Q4 (vE P U ui ug a b ud) uk (U.getD uk.toNat 0) (by dsimp only [vE];have z:=hJ5.1.two hM (ub h6);omega) (by dsimp only [vE];have z:=hJ5.1.two hM (ub h6);exact ⟨z.1,.inr (by rcases hJ5.2 with ⟨e,e1⟩ | e<;>first | (rw [← e,← e1];omega) | omega)⟩) (vc:=(zax uk U)) (hv:=W62)
   ·exact Q4 (vY P U a b) (ud,ui) ((ug,uk)) (by dsimp only [vY];(have q4:=uc h4;have q6:=uc h6;have p1:=hM.pos _ hJ5.1.1;have p2:=hM.pos _ hJ5.1.2.1;rcases hJ5.2 with ⟨rfl,rfl⟩ | e<;>first | omega | exact absurd (hM.one _ _ hJ5.1.1 hJ5.1.2.1 (by omega)) (uc (nb3 h2)))) (hJ5.1)
 ·exact Q2 [] [4] [mtF P U a b=ud] (by have e:=hJ1.done (ub (nb1 h2));rw [e]<;>(try simp only [Conj])<;>(repeat' apply jl)<;>first | rfl | trivial)
abbrev zbN (y0:Grf):Reg:=IntRow (ordL y0.nodes)
def vF (g:Grf):Lp (Int×List Int):=⟨fun x=>{ N:=85,fr:=[se 31 (C.i .i64 x.1),se 30 (C.i .i64 (↑g.nodes.length:Int)),se 6 (C.p 7 0),se 5 (C.h 5),se 3 (C.h 2),se 4 (C.p 4 0),zL],rg:=[rowOf 13 (·.tc) g.nodes,ze g,zbN g,zb7 g,zby,rowOf 1 (·.tc) (aheadL g.nodes),IntOwn (x.2),Reg.box 49 [C.h 6]],wr:=[] },fun x=>0≤x.1∧x.1≤(g.nodes.length:Int)∧x.2=filF g.nodes.length x.1.toNat,fun x=>((g.nodes.length:Int)-x.1).toNat⟩
abbrev zch:En:=se 8 (C.fn 161 false [4,7])
def vZ (g:Grf) (un:List Int):Lp (Bool×List Int):=⟨fun x=>{ N:=85,fr:=[se 9 (C.b x.1),zch,se 6 (C.p 7 0),se 5 (C.h 5),se 3 (C.h 2),zL],rg:=[rowOf 13 (·.tc) g.nodes,ze g,zbN g,zb7 g,zby,rowOf 1 (·.tc) (aheadL g.nodes),IntOwn (x.2),Reg.box 49 [C.h 6]],wr:=[] },fun x=>DmJ g.nodes x.2∧(x.1=false→rnF g.nodes x.2=x.2),fun x=>(if x.1=true then 1+lfF g.nodes g.nodes.length x.2 else 0)⟩
abbrev zbP (y0:Grf):Reg:=Reg.row 1 ((ordL y0.nodes).length-1) (fun i=>i64T ((ordL y0.nodes).getD (1+i) 0)) none
def vr (g:Grf) (uv:List Int):Lp (Int×Bool×List Int):=⟨fun x=>{ N:=85,fr:=[se 45 (C.i .i64 x.1),{ slot:=44,g:=[],sv:=SV.c (C.i .i64 (↑((ordL g.nodes).length-1):Int)) },se 43 (C.h 8),se 9 (C.b x.2.1),zch,se 6 (C.p 7 0),se 5 (C.h 5),se 3 (C.h 2),zL],rg:=[rowOf 13 (·.tc) g.nodes,ze g,zbN g,zb7 g,zby,rowOf 1 (·.tc) (aheadL g.nodes),IntOwn (x.2.2),Reg.box 49 [C.h 6],zbP g],wr:=[] },fun x=>RnJ g.nodes uv x.2.2 x.1 x.2.1,fun x=>(((tlF g.nodes).length:Int)-x.1).toNat⟩
def vb (g:Grf) (uu:Int) (uI:Bool) (uD:List Int):Lp (Int×Int):=⟨fun x=>{ N:=85,fr:=[se 54 (C.i .i64 x.1),{ slot:=53,g:=[],sv:=SV.c (C.i .i64 (↑((aheadL g.nodes).getD ((ordL g.nodes).getD (1+uu.toNat) 0).toNat ua).l.length:Int)) },se 52 (C.h 9),se 12 (C.i .i64 x.2),se 11 (C.i .i64 ((ordL g.nodes).getD (1+uu.toNat) 0)),se 45 (C.i .i64 uu),{ slot:=44,g:=[],sv:=SV.c (C.i .i64 (↑((ordL g.nodes).length-1):Int)) },se 43 (C.h 8),se 9 (C.b uI),zch,se 6 (C.p 7 0),se 5 (C.h 5),se 3 (C.h 2),zL],rg:=[rowOf 13 (·.tc) g.nodes,ze g,zbN g,zb7 g,zby,Reg.row 1 (aheadL g.nodes).length (fun i=>((aheadL g.nodes).getD i ua).tc) (some (((ordL g.nodes).getD (1+uu.toNat) 0).toNat,[C.h 9])),IntOwn uD,Reg.box 49 [C.h 6],zbP g,Reg.row 1 ((aheadL g.nodes).getD ((ordL g.nodes).getD (1+uu.toNat) 0).toNat ua).l.length (fun i=>i64T (((aheadL g.nodes).getD ((ordL g.nodes).getD (1+uu.toNat) 0).toNat ua).l.getD i 0)) none],wr:=[] },fun x=>BsJ (plcL g.nodes) uD ((aheadL g.nodes).getD ((ordL g.nodes).getD (1+uu.toNat) 0).toNat ua).l x.1 x.2,fun x=>((((aheadL g.nodes).getD ((ordL g.nodes).getD (1+uu.toNat) 0).toNat ua).l.length:Int)-x.1).toNat⟩
abbrev zbg (y0:List Int):List Prop:=[(0:Int)≤(0:Int),(0:Int)<(↑y0.length:Int),0<y0.length]
abbrev zbi (y0:Grf):Reg:=IntOwn (domL y0.nodes)
abbrev zbL (y0:Grf):En:=En.mk 23 [] (SV.agg [C.v (jC y0.name),C.i .i64 y0.locals,C.i .i64 y0.slots,C.h 0])
abbrev zcd:En:=En.mk 20 [] (SV.tup [(false,[C.h 2]),(false,[C.h 3])])
theorem Qri (g:Grf) (hq:zG g) (hN:1≤g.nodes.length∧g.nodes.length≤4096) (hk:zW g):Ctr jb 148 [zao g] [.agg (g.cs 0)]
 (Det (.c (.h 1)) [.dead,zbi g]):=by
 refine Ctr.intro [] Tryz.func148 K K ?_
 refine Q3 Gt (Q4b g W41 W41 W41) [] ?_
 refine tz [16,2,1] ?_
 refine Q0 (!true) (fun h1=>?_) (fun h1=>?_)
 ·exact absurd h1 W81
 ·refine tz [2,1] ?_
  refine Q3 Q6q (Qcl g W41 W41) [] ?_
  refine tWk (St.mk 85 [zcd,En.mk 19 [] (SV.agg [C.v (jC g.name),C.i .i64 g.locals,C.i .i64 g.slots,C.h 0]),zL,za3] [rowOf 13 (·.tc) g.nodes,ze g,zbN g,zb7 g] []) ?_
  refine tz [20,2,1] ?_
  refine Q3 Q51 (Qdm g W41 W41 W41) [] ?_
  refine tWk (St.mk 85 [se 24 (C.h 5),zbL g,se 3 (C.h 2),se 4 (C.p 4 0),se 22 (C.h 3),se 21 (C.h 2),En.mk 18 [] (SV.tup [(false,[C.h 2]),(false,[C.h 3])]),zcd,zL,za3] [rowOf 13 (·.tc) g.nodes,ze g,zbN g,zb7 g,zby,rowOf 1 (·.tc) (aheadL g.nodes)] []) ?_
  refine tz [24,3,4,2,1] ?_
  refine Q6 (vF g) (((0:Int),jh g.nodes.length (0:Int))) (⟨jz _,by omega,(Qh8 _).symm⟩) ?_ [] [11,12] (zah g) W67 (vc:=(zas g)) (hv:=W15)
  rintro ⟨ue,un⟩ hJ2
  dsimp only [vF] at hJ2
  refine tz [31,30,6,5,3,4,2] ?_
  refine Q0 (decide (ue<(↑g.nodes.length:Int))) (fun h3=>?_) (fun h3=>?_)
  ·exact Q4 (vF g) (ue,un) ((ue+(1:Int),un.set ue.toNat (-1:Int))) (by dsimp only [vF];exact W242) (by dsimp only [vF];have q:=ub h3;refine ⟨by omega,by omega,?_⟩;rw [hJ2.2.2];exact Qh9 hJ2.1 q) [] [11,12] [(un.set ue.toNat (-1:Int)).length=un.length,∀ (i:Nat),i<(un.set ue.toNat (-1:Int)).length→i64T ((un.set ue.toNat (-1:Int)).getD i 0)=updT (fun i=>i64T (un.getD i 0)) ue.toNat 0 [jg ja (-1:Int)] i] W67 (vc:=[(0:Int)≤ue,ue<(↑un.length:Int),ue.toNat<un.length,Fits ja (ue+(1:Int))]) (hv:=W15)
  ·refine tz [31,30,6,5,3,4,2] ?_
   refine Q6 (vZ g un) ((true,dm0 g.nodes)) (⟨DmJ.start _,fun h=>absurd h W162⟩) ?_ [] [11,12] [(dm0 g.nodes).length=un.length,∀ (i:Nat),i<(dm0 g.nodes).length→i64T ((dm0 g.nodes).getD i 0)=updT (fun i=>i64T (un.getD i 0)) 0 0 [jg ja (0:Int)] i] W67 (vc:=(zbg un)) (hv:=W15)
   rintro ⟨ur,uv⟩ hJ4
   dsimp only [vZ] at hJ4
   refine tz [9,8,6,5,3,2] ?_
   refine Q0 (ur) (fun h5=>?_) (fun h5=>?_)
   ·refine tz [9,8,6,5,3,2] ?_
    refine Q6 (vr g uv) (((0:Int),false,uv)) (RnJ.start _) ?_ (vc:=[(0:Int)≤(1:Int),(1:Int)≤(↑(ordL g.nodes).length:Int),(↑(ordL g.nodes).length:Int)≤(↑(ordL g.nodes).length:Int)]) (hv:=W15)
    rintro ⟨uu,uI,uD⟩ hJ6
    dsimp only [vr] at hJ6
    refine tz [45,44,43,9,8,6,5,3,2] ?_
    refine Q0 (decide (uu<(↑((ordL g.nodes).length-1):Int))) (fun h7=>?_) (fun h7=>?_)
    ·refine Qv 5 (((ordL g.nodes).getD (1+uu.toNat) 0).toNat) ?_ (vc:=[((ordL g.nodes).getD (1+uu.toNat) 0).toNat<(aheadL g.nodes).length]) (hv:=W15)
     refine tz [45,44,43,9,8,6,5,3,2] ?_
     refine Q6 (vb g uu uI uD) (((0:Int),(-1:Int))) (BsJ.start _ _ _) ?_ (vc:=[(0:Int)≤uu,uu<(↑((ordL g.nodes).length-1):Int),uu.toNat<(ordL g.nodes).length-1,(0:Int)≤(ordL g.nodes).getD (1+uu.toNat) 0,(ordL g.nodes).getD (1+uu.toNat) 0<(↑(aheadL g.nodes).length:Int),((ordL g.nodes).getD (1+uu.toNat) 0).toNat=((ordL g.nodes).getD (1+uu.toNat) 0).toNat]) (hv:=W15)
     rintro ⟨uz,uB⟩ hJ8
     dsimp only [vb] at hJ8
     refine tz [54,53,52,12,11,45,44,43,9,8,6,5,3,2] ?_
     refine Q0 (decide (uz<(↑((aheadL g.nodes).getD ((ordL g.nodes).getD (1+uu.toNat) 0).toNat ua).l.length:Int))) (fun h9=>?_) (fun h9=>?_)
     ·refine tz [54,53,52,12,11,45,44,43,9,8,6,5,3,2] ?_
      refine Q0 (decide (uD.getD (((aheadL g.nodes).getD ((ordL g.nodes).getD (1+uu.toNat) 0).toNat ua).l.getD uz.toNat 0).toNat (0:Int)<(0:Int))) (fun h10=>?_) (fun h10=>?_) (vc:=[(0:Int)≤uz,uz<(↑((aheadL g.nodes).getD ((ordL g.nodes).getD (1+uu.toNat) 0).toNat ua).l.length:Int),uz.toNat<((aheadL g.nodes).getD ((ordL g.nodes).getD (1+uu.toNat) 0).toNat ua).l.length,(0:Int)≤((aheadL g.nodes).getD ((ordL g.nodes).getD (1+uu.toNat) 0).toNat ua).l.getD uz.toNat 0,((aheadL g.nodes).getD ((ordL g.nodes).getD (1+uu.toNat) 0).toNat ua).l.getD uz.toNat 0<(↑uD.length:Int),(((aheadL g.nodes).getD ((ordL g.nodes).getD (1+uu.toNat) 0).toNat ua).l.getD uz.toNat 0).toNat<uD.length]) (hv:=W15)
      ·exact Q4 (vb g uu uI uD) (uz,uB) ((uz+(1:Int),uB)) W182 W77 (vc:=(zF uz)) (hv:=W15)
      ·refine tz [14,54,53,52,12,11,45,44,43,9,8,6,5,3,2] ?_
       refine Q0 (decide (uB<(0:Int))) (fun h11=>?_) (fun h11=>?_)
       ·exact Q4 (vb g uu uI uD) (uz,uB) ((uz+(1:Int),((aheadL g.nodes).getD ((ordL g.nodes).getD (1+uu.toNat) 0).toNat ua).l.getD uz.toNat 0)) W182 W77 (vc:=(zF uz)) (hv:=W15)
       ·refine tz [14,54,53,52,12,11,45,44,43,9,8,6,5,3,2] ?_
        refine Q3 Q3r (Qpf (plcL g.nodes) uD uB (((aheadL g.nodes).getD ((ordL g.nodes).getD (1+uu.toNat) 0).toNat ua).l.getD uz.toNat 0) W41 W41 W41) [4,7,3,6] ?_
        exact Q4 (vb g uu uI uD) (uz,uB) ((uz+(1:Int),mtF (plcL g.nodes) uD uB (((aheadL g.nodes).getD ((ordL g.nodes).getD (1+uu.toNat) 0).toNat ua).l.getD uz.toNat 0))) W182 W77 (vc:=(zF uz)) (hv:=W15)
     ·refine tz [54,53,52,12,11,45,44,43,9,8,6,5,3,2] ?_
      refine Q0 (!decide (uD.getD ((ordL g.nodes).getD (1+uu.toNat) 0).toNat (0:Int)=uB)) (fun h10=>?_) (fun h10=>?_) (vc:=[(0:Int)≤(ordL g.nodes).getD (1+uu.toNat) 0,(ordL g.nodes).getD (1+uu.toNat) 0<(↑uD.length:Int),((ordL g.nodes).getD (1+uu.toNat) 0).toNat<uD.length]) (hv:=W15)
      ·exact Q4 (vr g uv) (uu,uI,uD) ((uu+(1:Int),true,uD.set ((ordL g.nodes).getD (1+uu.toNat) 0).toNat uB)) W194 W147 [] [11,12] [(uD.set ((ordL g.nodes).getD (1+uu.toNat) 0).toNat uB).length=uD.length,∀ (i:Nat),i<(uD.set ((ordL g.nodes).getD (1+uu.toNat) 0).toNat uB).length→i64T ((uD.set ((ordL g.nodes).getD (1+uu.toNat) 0).toNat uB).getD i 0)=updT (fun i=>i64T (uD.getD i 0)) ((ordL g.nodes).getD (1+uu.toNat) 0).toNat 0 [jg ja uB] i] W67 (vc:=[(0:Int)≤(ordL g.nodes).getD (1+uu.toNat) 0,(ordL g.nodes).getD (1+uu.toNat) 0<(↑uD.length:Int),((ordL g.nodes).getD (1+uu.toNat) 0).toNat<uD.length,Fits ja (uu+(1:Int))]) (hv:=W15)
      ·exact Q4 (vr g uv) (uu,uI,uD) ((uu+(1:Int),uI,uD)) W194 W147 (vc:=(zF uu)) (hv:=W15)
    ·exact Q4 (vZ g un) (ur,uv) ((uI,uD)) (by dsimp only [vZ];rw [if_pos h5];exact hJ6.less hq (by omega) hJ4.1 (uc h7)) (hJ6.both hq W30 hJ4.1 (uc h7))
   ·exact Q2 [0,6] [0,1] [(domL g.nodes).length=uv.length,∀ (i:Nat),i<(domL g.nodes).length→i64T ((domL g.nodes).getD i 0)=updT (fun i=>i64T (uv.getD i 0)) 0 0 [jg ja (-1:Int)] i] (by simp only [Conj];have e:=hJ4.1.fin hq (by omega) (hJ4.2 h5);rw [← e];exact ⟨jF,Zb _ _ _⟩) (vc:=(zbg uv)) (hv:=W15)
theorem Qk8 (g:Grf) (u b:Int) (hM:UpH (plcL g.nodes) (domL g.nodes)) (hb:b<((domL g.nodes).length:Int)):Ctr jb 150 [zbY,zbi g] [zc8 u,zc8 b,.c (.p 0 0)]
 (Det (.c (.b (upF (plcL g.nodes) (domL g.nodes) u b))) [zbY,zbi g]):=by
 exact Qn6 (plcL g.nodes) (domL g.nodes) u b hM hb
theorem Qk9:MT.Ok (MT.mk jb 141 3 4 [CK.i ja] false [CK.b] false):=MT.ok_int K K (.inr rfl) (fun w=>by kernel_rfl)
abbrev zbl (y0:Grf):En:=se 32 (C.i .i64 (↑y0.nodes.length:Int))
abbrev zb5:En:=se 6 (C.fn 150 false [3])
def vu (g:Grf):Lp (Int×List Int):=⟨fun x=>{ N:=119,fr:=[se 33 (C.i .i64 x.1),zbl g,se 7 (C.h 6),zb5,se 5 (C.h 5),se 4 (C.h 4),zL],rg:=[rowOf 13 (·.tc) g.nodes,ze g,zbi g,zaX,rowOf 1 (·.tc) (rchL g.nodes),rowOf 1 (·.tc) (aheadL g.nodes),IntOwn (x.2)],wr:=[] },fun x=>DpO g.nodes.length x.1 x.2,fun x=>((g.nodes.length:Int)-x.1).toNat⟩
abbrev zap (y0:Grf) (y1:Int):Reg:=Reg.row 1 ((aheadL y0.nodes).getD y1.toNat ua).l.length (fun i=>i64T (((aheadL y0.nodes).getD y1.toNat ua).l.getD i 0)) none
def vd (g:Grf) (ug:Int) (um:List Int):Lp (Int×List Int×Nat×(Int→Option (Bool))):=⟨fun x=>{ N:=119,fr:=[se 47 (C.i .i64 x.1),{ slot:=46,g:=[],sv:=SV.c (C.i .i64 (↑((aheadL g.nodes).getD ug.toNat ua).l.length:Int)) },se 45 (C.h 7),se 10 (C.h 9),se 9 (C.h 8),se 8 (C.i .i64 ug),se 33 (C.i .i64 ug),zbl g,se 7 (C.h 6),zb5,se 5 (C.h 5),se 4 (C.h 4),zL],rg:=[rowOf 13 (·.tc) g.nodes,ze g,zbi g,zaX,rowOf 1 (·.tc) (rchL g.nodes),Reg.row 1 (aheadL g.nodes).length (fun i=>((aheadL g.nodes).getD i ua).tc) (some (ug.toNat,[C.h 7])),IntOwn um,zap g ug,Reg.mp (MT.mk jb 141 3 4 [CK.i ja] false [CK.b] false) (x.2.2.1) (fun a=>(x.2.2.2 a).isSome) (fun a=>(x.2.2.2 a).getD (false)) none]++[IntOwn x.2.1],wr:=[] },fun x=>DpA g.nodes.length ((aheadL g.nodes).getD ug.toNat ua).l.length x.1 x.2.1 x.2.2.1 x.2.2.2,fun x=>((((aheadL g.nodes).getD ug.toNat ua).l.length:Int)-x.1).toNat⟩
def v5 (g:Grf) (ug:Int) (um:List Int) (uI:List Int) (uD:Nat) (uK:Int→Option Bool):Lp (Nat×(Int→Option (Bool))×List Int):=⟨fun x=>{ N:=119,fr:=[se 10 (C.h 9),se 9 (C.h 8),se 33 (C.i .i64 ug),zbl g,se 7 (C.h 6),zb5,se 5 (C.h 5),se 4 (C.h 4),zL],rg:=[rowOf 13 (·.tc) g.nodes,ze g,zbi g,zaX,rowOf 1 (·.tc) (rchL g.nodes),rowOf 1 (·.tc) (aheadL g.nodes),IntOwn um,zap g ug,Reg.mp (MT.mk jb 141 3 4 [CK.i ja] false [CK.b] false) (x.1) (fun a=>(x.2.1 a).isSome) (fun a=>(x.2.1 a).getD (false)) none,IntOwn (x.2.2)],wr:=[] },fun x=>DpB g.nodes.length x.1 x.2.1 x.2.2,fun x=>unmF g.nodes.length x.2.1 * (2 * g.nodes.length+1)+x.2.2.length⟩
def vt (g:Grf) (ug:Int) (um:List Int) (uz:Nat) (uB:Int→Option Bool) (ut:List Int):Lp (Int×List Int):=⟨fun x=>{ N:=119,fr:=[se 92 (C.i .i64 x.1),{ slot:=91,g:=[],sv:=SV.c (C.i .i64 (↑((aheadL g.nodes).getD (ut.getD ((↑ut.length:Int)-(1:Int)).toNat (0:Int)).toNat ua).l.length:Int)) },se 90 (C.h 10),se 10 (C.h 11),se 9 (C.h 8),se 33 (C.i .i64 ug),zbl g,se 7 (C.h 6),zb5,se 5 (C.h 5),se 4 (C.h 4),zL],rg:=[rowOf 13 (·.tc) g.nodes,ze g,zbi g,zaX,rowOf 1 (·.tc) (rchL g.nodes),Reg.row 1 (aheadL g.nodes).length (fun i=>((aheadL g.nodes).getD i ua).tc) (some ((ut.getD ((↑ut.length:Int)-(1:Int)).toNat (0:Int)).toNat,[C.h 10])),IntOwn um,zap g ug,Reg.mp (MT.mk jb 141 3 4 [CK.i ja] false [CK.b] false) (uz+1) (fun (q:Int)=>decide (q=ut.getD ((↑ut.length:Int)-(1:Int)).toNat (0:Int))||(uB q).isSome) (fun (q:Int)=>if q=ut.getD ((↑ut.length:Int)-(1:Int)).toNat (0:Int) then true else (uB q).getD false) none,Reg.dead,Reg.row 1 ((aheadL g.nodes).getD (ut.getD ((↑ut.length:Int)-(1:Int)).toNat (0:Int)).toNat ua).l.length (fun i=>i64T (((aheadL g.nodes).getD (ut.getD ((↑ut.length:Int)-(1:Int)).toNat (0:Int)).toNat ua).l.getD i 0)) none,IntOwn (x.2)],wr:=[] },fun x=>DpD g.nodes.length ((aheadL g.nodes).getD (ut.getD ((ut.length:Int)-(1:Int)).toNat (0:Int)).toNat ua).l.length ut.length x.1 x.2,fun x=>((((aheadL g.nodes).getD (ut.getD ((ut.length:Int)-(1:Int)).toNat (0:Int)).toNat ua).l.length:Int)-x.1).toNat⟩
def wA (g:Grf) (ug:Int) (um:List Int) (uz:Nat) (uB:Int→Option Bool) (ut:List Int) (rr10:Nat) (cc10:Nat):Lp (List Int×(Int→Bool)×Nat):=⟨fun x=>{ N:=119,fr:=[se 106 (C.h 10),se 33 (C.i .i64 ug),zbl g,se 7 (C.h 6),zb5,se 5 (C.h 5),se 4 (C.h 4),zL],rg:=[rowOf 13 (·.tc) g.nodes,ze g,zbi g,zaX,rowOf 1 (·.tc) (rchL g.nodes),rowOf 1 (·.tc) (aheadL g.nodes),IntOwn (x.1),zap g ug,Reg.mp (MT.mk jb 141 3 4 [CK.i ja] false [CK.b] false) (uz) (fun a=>(uB a).isSome) (fun a=>(uB a).getD false) (some (MIt.mk (rr10) (x.2.1) (x.2.2) none)),IntOwn ut,Reg.itr rr10],wr:=[] },fun x=>DpE g.nodes.length ug x.1 x.2.1,fun x=>x.2.2⟩
abbrev zk (y0:Nat) (y1:Int → Option Bool):List Prop:=[MpEq (MT.mk jb 141 3 4 [CK.i ja] false [CK.b] false) y0 (fun (a:Int)=>(y1 a).isSome) (fun (a:Int)=>(y1 a).getD false) none (MT.mk jb 141 3 4 [CK.i ja] false [CK.b] false) y0 (fun (a:Int)=>(y1 a).isSome) (fun (a:Int)=>(y1 a).getD false) none]
abbrev zaK (y0:List Int) (y1:Int):List Prop:=[y0.length+1≤maxLen,(y0.length+1) * 8≤140737488355328,Fits ja (y1+(1:Int))]
abbrev zbj (y0:Grf):List Prop:=[(aheadL y0.nodes).length=(aheadL y0.nodes).length,∀ (i:Nat),i<(aheadL y0.nodes).length→((aheadL y0.nodes).getD i ua).tc=((aheadL y0.nodes).getD i ua).tc]
abbrev zbo:En:=se 3 (C.p 3 0)
theorem Qn9 (g:Grf) (hq:zG g) (hN:1≤g.nodes.length∧g.nodes.length≤4096) (hk:zW g):Ctr jb 133 [zao g] [.agg (g.cs 0)]
 (DetE (fun D:List Int=>D.length=g.nodes.length∧∀ i:Nat,i<g.nodes.length→0≤D.getD i 0∧D.getD i 0≤4503599627370496) (fun _=>.c (.h 1)) (fun D=>[.dead,IntOwn D])):=by
 refine Ctr.intro [] Tryz.func133 K K ?_
 refine Q3 Q5d (Qri g W68 W68 W68) [] ?_
 refine tz [18,2,1] ?_
 refine RunF.rnil (n:=(domL g.nodes).length) (vc:=[]) 2 K trivial K (fun _=>by kernel_rfl) (fun nil1 hn1=>?_)
 refine tz [20,3,2,1] ?_
 refine Q0 (nil1) (fun h2=>?_) (fun h2=>?_)
 ·exact (show False from by have z:=hn1 h2;rw [(Qbr hq W30).2.1] at z;omega).elim
 ·refine tz [3,2,1] ?_
  refine Q3 Q3q (Qbl g W68 W68) [] ?_
  refine tWk (St.mk 119 [se 22 (C.h 4),En.mk 21 [] (SV.agg [C.v (jC g.name),C.i .i64 g.locals,C.i .i64 g.slots,C.h 0]),zbo,zL,za3] [rowOf 13 (·.tc) g.nodes,ze g,zbi g,zaX,rowOf 1 (·.tc) (rchL g.nodes)] []) ?_
  refine tz [22,3,2,1] ?_
  refine Q3 Q51 (Qdm g W68 W68 W68) [] ?_
  refine tWk (St.mk 119 [se 24 (C.h 5),zbL g,se 4 (C.h 4),se 22 (C.h 4),zbo,zL,za3] [rowOf 13 (·.tc) g.nodes,ze g,zbi g,zaX,rowOf 1 (·.tc) (rchL g.nodes),rowOf 1 (·.tc) (aheadL g.nodes)] []) ?_
  refine tz [24,4,3,2,1] ?_
  refine Q6 (vu g) (((0:Int),jh g.nodes.length (0:Int))) (DpO.start _) ?_ [] [11,12] (zah g) W21 (vc:=(zas g)) (hv:=W5)
  rintro ⟨ug,um⟩ hJ3
  dsimp only [vu] at hJ3
  refine tz [33,32,7,6,5,4,2] ?_
  refine Q0 (decide (ug<(↑g.nodes.length:Int))) (fun h4=>?_) (fun h4=>?_)
  ·refine tz [33,32,7,6,5,4,2] ?_
   refine Q0 (!((rchL g.nodes).getD ug.toNat ua).b) (fun h5=>?_) (fun h5=>?_) (vc:=[(0:Int)≤ug,ug<(↑(rchL g.nodes).length:Int),ug.toNat<(rchL g.nodes).length]) (hv:=W5)
   ·exact Q4 (vu g) (ug,um) ((ug+(1:Int),um)) W202 W193 (vc:=(zF ug)) (hv:=W5)
   ·refine Qv 5 (ug.toNat) ?_ (vc:=[ug.toNat<(aheadL g.nodes).length]) (hv:=W5)
    refine tz [8,33,32,7,6,5,4,2] ?_
    refine Q6 (vd g ug um) (((0:Int),[],0,fun x=>none)) (DpA.start _ _) ?_ [0,1,2,3,4,5,6,7,8,1000009] [16,17] [MpEq (MT.mk jb 141 3 4 [CK.i ja] false [CK.b] false) 0 (fun (a:Int)=>false) (fun (a:Int)=>false) none (MT.mk jb 141 3 4 [CK.i ja] false [CK.b] false) 0 (fun x=>false) (fun x=>KA.zero [CK.b]) none,(0:Nat)=0] W21 (vc:=[(MT.mk jb 141 3 4 [CK.i ja] false [CK.b] false).P=jb,(MT.mk jb 141 3 4 [CK.i ja] false [CK.b] false).Ok,(0:Int)≤ug,ug<(↑(aheadL g.nodes).length:Int),ug.toNat=ug.toNat]) (hv:=W5)
    rintro ⟨uu,uI,uD,uK⟩ hJ6
    dsimp only [vd] at hJ6
    refine tz [47,46,45,10,9,8,33,32,7,6,5,4,2] ?_
    refine Q0 (decide (uu<(↑((aheadL g.nodes).getD ug.toNat ua).l.length:Int))) (fun h7=>?_) (fun h7=>?_)
    ·refine tz [47,46,45,10,9,8,33,32,7,6,5,4,2] ?_
     refine Jz (((rchL g.nodes).getD (((aheadL g.nodes).getD ug.toNat ua).l.getD uu.toNat 0).toNat ua).b) (fun h8=>?_) (fun h8=>?_) (vc:=[(0:Int)≤uu,uu<(↑((aheadL g.nodes).getD ug.toNat ua).l.length:Int),uu.toNat<((aheadL g.nodes).getD ug.toNat ua).l.length,(0:Int)≤((aheadL g.nodes).getD ug.toNat ua).l.getD uu.toNat 0,((aheadL g.nodes).getD ug.toNat ua).l.getD uu.toNat 0<(↑(rchL g.nodes).length:Int),(((aheadL g.nodes).getD ug.toNat ua).l.getD uu.toNat 0).toNat<(rchL g.nodes).length]) (hv:=W5)
     ·refine tz [58,57,56,55,12,47,46,45,10,9,8,33,32,7,6,5,4,2] ?_
      refine Q3 Q9l (Qk8 g ug (((aheadL g.nodes).getD ug.toNat ua).l.getD uu.toNat 0) W68 W68) [3,2] ?_
      refine tz [59,55,12,47,46,45,10,9,8,33,32,7,6,5,4,2] ?_
      refine Q0 (upF (plcL g.nodes) (domL g.nodes) ug (((aheadL g.nodes).getD ug.toNat ua).l.getD uu.toNat 0)) (fun h9=>?_) (fun h9=>?_)
      ·exact Q4 (vd g ug um) (uu,uI,uD,uK) ((uu+(1:Int),uI++[((aheadL g.nodes).getD ug.toNat ua).l.getD uu.toNat 0],uD+1,fun (q:Int)=>if q=ug then some true else uK q)) W183 W148 [0,1,2,3,4,5,6,7,8,11] [16,17,18,19] [MpEq (MT.mk jb 141 3 4 [CK.i ja] false [CK.b] false) (uD+1) (fun (a:Int)=>(if a=ug then some true else uK a).isSome) (fun (a:Int)=>(if a=ug then some true else uK a).getD false) none (MT.mk jb 141 3 4 [CK.i ja] false [CK.b] false) (uD+1) (fun (q:Int)=>decide (q=ug)||(uK q).isSome) (fun (q:Int)=>if q=ug then true else (uK q).getD false) none,(uI++[((aheadL g.nodes).getD ug.toNat ua).l.getD uu.toNat 0]).length=uI.length+1,∀ (i:Nat),i<(uI++[((aheadL g.nodes).getD ug.toNat ua).l.getD uu.toNat 0]).length→i≠uI.length→i64T ((uI++[((aheadL g.nodes).getD ug.toNat ua).l.getD uu.toNat 0]).getD i 0)=i64T (uI.getD i 0),i64T ((uI++[((aheadL g.nodes).getD ug.toNat ua).l.getD uu.toNat 0]).getD uI.length 0) 0=TC.val (jg ja (((aheadL g.nodes).getD ug.toNat ua).l.getD uu.toNat 0))] W21 (vc:=[Fits ja ug,(MT.mk jb 141 3 4 [CK.i ja] false [CK.b] false).P=jb,uD<maxLen,uI.length+1≤maxLen,(uI.length+1) * 8≤140737488355328,Fits ja (uu+(1:Int))]) (hv:=W5)
      ·exact Q4 (vd g ug um) (uu,uI,uD,uK) ((uu+(1:Int),uI,uD,uK)) W183 W148 [] [16] (zk uD uK) W21 (vc:=(zF uu)) (hv:=W5)
     ·exact Q4 (vd g ug um) (uu,uI,uD,uK) ((uu+(1:Int),uI,uD,uK)) W183 W148 [] [16] (zk uD uK) W21 (vc:=(zF uu)) (hv:=W5)
    ·refine tz [47,46,45,10,9,8,33,32,7,6,5,4,2] ?_
     refine RunF.hereL (vc:=[]) K trivial ?_
     refine Qah 5 ((Iln.rowR (aheadL g.nodes))) ?_ (vc:=(zbj g)) (hv:=(by simp only [Conj];exact ⟨trivial,fun _ _=>trivial⟩))
     refine tz [10,9,33,32,7,6,5,4,2] ?_
     refine Q6 (v5 g ug um uI uD uK) ((uD,uK,uI)) (hJ6.done (Yx _ _)) ?_ [] [15] (zk uD uK) W21
     rintro ⟨uz,uB,ut⟩ hJ8
     dsimp only [v5] at hJ8
     refine tz [10,9,33,32,7,6,5,4,2] ?_
     refine Q0 (decide ((0:Int)<(↑ut.length:Int))) (fun h9=>?_) (fun h9=>?_)
     ·refine tz [10,9,33,32,7,6,5,4,2] ?_
      refine Q0 ((uB (ut.getD ((↑ut.length:Int)-(1:Int)).toNat (0:Int))).getD false) (fun h10=>?_) (fun h10=>?_) (vc:=[Fits ja ((↑ut.length:Int)-(1:Int)),(0:Int)≤(↑ut.length:Int)-(1:Int),(↑ut.length:Int)-(1:Int)<(↑ut.length:Int),((↑ut.length:Int)-(1:Int)).toNat<ut.length,Fits ja ((↑ut.length:Int)-(1:Int)),(0:Int)≤(0:Int),(0:Int)≤(↑ut.length:Int)-(1:Int),(↑ut.length:Int)-(1:Int)≤(↑ut.length:Int),(0:Int)<(↑ut.length:Int),Fits ja (ut.getD ((↑ut.length:Int)-(1:Int)).toNat (0:Int)),(MT.mk jb 141 3 4 [CK.i ja] false [CK.b] false).P=jb]) (hv:=W5)
      ·refine RunF.hereJ (vc:=[]) K K trivial ?_
       refine RunF.trim 9 ((ut.length-1)) (ty:=3) (size:=1) (n:=ut.length) (f:=fun i=>i64T (ut.getD i 0)) (vc:=(zaP ut)) K K (by have q:=ub h9;omega) K W197 ?_
       exact Q4 (v5 g ug um uI uD uK) (uz,uB,ut) ((uz,uB,jR (ut.length-1) ut)) W176 W177 [0,1,2,3,4,5,6,7,8,10] [15,16,17] [MpEq (MT.mk jb 141 3 4 [CK.i ja] false [CK.b] false) uz (fun (a:Int)=>(uB a).isSome) (fun (a:Int)=>(uB a).getD false) none (MT.mk jb 141 3 4 [CK.i ja] false [CK.b] false) uz (fun (a:Int)=>(uB a).isSome) (fun (a:Int)=>(uB a).getD false) none,(jR (ut.length-1) ut).length=ut.length-1,∀ (i:Nat),i<(jR (ut.length-1) ut).length→i64T ((jR (ut.length-1) ut).getD i 0)=i64T (ut.getD i 0)] W21
      ·refine Qv 5 ((ut.getD ((ut.length:Int)-(1:Int)).toNat (0:Int)).toNat) ?_ (vc:=[(ut.getD ((↑ut.length:Int)-(1:Int)).toNat (0:Int)).toNat<(aheadL g.nodes).length]) (hv:=W5)
       refine RunF.trim 9 ((ut.length-1)) (ty:=3) (size:=1) (n:=ut.length) (f:=fun i=>i64T (ut.getD i 0)) (vc:=(zaP ut)) K K (by have q:=ub h9;omega) K W197 ?_
       refine tz [10,13,9,33,32,7,6,5,4,2] ?_
       refine Q6 (vt g ug um uz uB ut) (((0:Int),jR (ut.length-1) ut)) (hJ8.inner (ub h9)) ?_ [] [16,19,20] [MpEq (MT.mk jb 141 3 4 [CK.i ja] false [CK.b] false) (uz+1) (fun (q:Int)=>decide (q=ut.getD ((↑ut.length:Int)-(1:Int)).toNat (0:Int))||(uB q).isSome) (fun (q:Int)=>if q=ut.getD ((↑ut.length:Int)-(1:Int)).toNat (0:Int) then true else (uB q).getD false) none (MT.mk jb 141 3 4 [CK.i ja] false [CK.b] false) (uz+1) (fun (q:Int)=>decide (q=ut.getD ((↑ut.length:Int)-(1:Int)).toNat (0:Int))||(uB q).isSome) (fun (q:Int)=>if q=ut.getD ((↑ut.length:Int)-(1:Int)).toNat (0:Int) then true else (uB q).getD false) none,(jR (ut.length-1) ut).length=ut.length-1,∀ (i:Nat),i<(jR (ut.length-1) ut).length→i64T ((jR (ut.length-1) ut).getD i 0)=i64T (ut.getD i 0)] W21 (vc:=[Fits ja (ut.getD ((↑ut.length:Int)-(1:Int)).toNat (0:Int)),(MT.mk jb 141 3 4 [CK.i ja] false [CK.b] false).P=jb,uz<maxLen,(0:Int)≤ut.getD ((↑ut.length:Int)-(1:Int)).toNat (0:Int),ut.getD ((↑ut.length:Int)-(1:Int)).toNat (0:Int)<(↑(aheadL g.nodes).length:Int),(ut.getD ((↑ut.length:Int)-(1:Int)).toNat (0:Int)).toNat=(ut.getD ((↑ut.length:Int)-(1:Int)).toNat (0:Int)).toNat]) (hv:=W5)
       rintro ⟨uH,uM⟩ hJ11
       dsimp only [vt] at hJ11
       refine tz [92,91,90,10,9,33,32,7,6,5,4,2] ?_
       refine Q0 (decide (uH<(↑((aheadL g.nodes).getD (ut.getD ((↑ut.length:Int)-(1:Int)).toNat (0:Int)).toNat ua).l.length:Int))) (fun h12=>?_) (fun h12=>?_)
       ·refine tz [92,91,90,10,9,33,32,7,6,5,4,2] ?_
        refine Q0 (((rchL g.nodes).getD (((aheadL g.nodes).getD (ut.getD ((↑ut.length:Int)-(1:Int)).toNat (0:Int)).toNat ua).l.getD uH.toNat 0).toNat ua).b) (fun h13=>?_) (fun h13=>?_) (vc:=[(0:Int)≤uH,uH<(↑((aheadL g.nodes).getD (ut.getD ((↑ut.length:Int)-(1:Int)).toNat (0:Int)).toNat ua).l.length:Int),uH.toNat<((aheadL g.nodes).getD (ut.getD ((↑ut.length:Int)-(1:Int)).toNat (0:Int)).toNat ua).l.length,(0:Int)≤((aheadL g.nodes).getD (ut.getD ((↑ut.length:Int)-(1:Int)).toNat (0:Int)).toNat ua).l.getD uH.toNat 0,((aheadL g.nodes).getD (ut.getD ((↑ut.length:Int)-(1:Int)).toNat (0:Int)).toNat ua).l.getD uH.toNat 0<(↑(rchL g.nodes).length:Int),(((aheadL g.nodes).getD (ut.getD ((↑ut.length:Int)-(1:Int)).toNat (0:Int)).toNat ua).l.getD uH.toNat 0).toNat<(rchL g.nodes).length]) (hv:=W5)
        ·exact Q4 (vt g ug um uz uB ut) (uH,uM) ((uH+(1:Int),uM++[((aheadL g.nodes).getD (ut.getD ((↑ut.length:Int)-(1:Int)).toNat (0:Int)).toNat ua).l.getD uH.toNat 0])) W199 W178 [0,1,2,3,4,5,6,7,8,9,10,13] [16,19,20,21] [MpEq (MT.mk jb 141 3 4 [CK.i ja] false [CK.b] false) (uz+1) (fun (q:Int)=>decide (q=ut.getD ((↑ut.length:Int)-(1:Int)).toNat (0:Int))||(uB q).isSome) (fun (q:Int)=>if q=ut.getD ((↑ut.length:Int)-(1:Int)).toNat (0:Int) then true else (uB q).getD false) none (MT.mk jb 141 3 4 [CK.i ja] false [CK.b] false) (uz+1) (fun (q:Int)=>decide (q=ut.getD ((↑ut.length:Int)-(1:Int)).toNat (0:Int))||(uB q).isSome) (fun (q:Int)=>if q=ut.getD ((↑ut.length:Int)-(1:Int)).toNat (0:Int) then true else (uB q).getD false) none,(uM++[((aheadL g.nodes).getD (ut.getD ((↑ut.length:Int)-(1:Int)).toNat (0:Int)).toNat ua).l.getD uH.toNat 0]).length=uM.length+1,∀ (i:Nat),i<(uM++[((aheadL g.nodes).getD (ut.getD ((↑ut.length:Int)-(1:Int)).toNat (0:Int)).toNat ua).l.getD uH.toNat 0]).length→i≠uM.length→i64T ((uM++[((aheadL g.nodes).getD (ut.getD ((↑ut.length:Int)-(1:Int)).toNat (0:Int)).toNat ua).l.getD uH.toNat 0]).getD i 0)=i64T (uM.getD i 0),i64T ((uM++[((aheadL g.nodes).getD (ut.getD ((↑ut.length:Int)-(1:Int)).toNat (0:Int)).toNat ua).l.getD uH.toNat 0]).getD uM.length 0) 0=TC.val (jg ja (((aheadL g.nodes).getD (ut.getD ((↑ut.length:Int)-(1:Int)).toNat (0:Int)).toNat ua).l.getD uH.toNat 0))] W21 (vc:=(zaK uM uH)) (hv:=W5)
        ·exact Q4 (vt g ug um uz uB ut) (uH,uM) ((uH+(1:Int),uM)) W199 W178 [] [16] [MpEq (MT.mk jb 141 3 4 [CK.i ja] false [CK.b] false) (uz+1) (fun (q:Int)=>decide (q=ut.getD ((↑ut.length:Int)-(1:Int)).toNat (0:Int))||(uB q).isSome) (fun (q:Int)=>if q=ut.getD ((↑ut.length:Int)-(1:Int)).toNat (0:Int) then true else (uB q).getD false) none (MT.mk jb 141 3 4 [CK.i ja] false [CK.b] false) (uz+1) (fun (q:Int)=>decide (q=ut.getD ((↑ut.length:Int)-(1:Int)).toNat (0:Int))||(uB q).isSome) (fun (q:Int)=>if q=ut.getD ((↑ut.length:Int)-(1:Int)).toNat (0:Int) then true else (uB q).getD false) none] W21 (vc:=(zF uH)) (hv:=W5)
       ·refine Qah 5 ((Iln.rowR (aheadL g.nodes))) ?_ (vc:=(zbj g)) (hv:=(by simp only [Conj];exact ⟨trivial,fun _ _=>trivial⟩))
        exact Q4 (v5 g ug um uI uD uK) (uz,uB,ut) ((uz+1,fun (q:Int)=>if q=ut.getD ((↑ut.length:Int)-(1:Int)).toNat (0:Int) then some true else uB q,uM)) W176 W177 [0,1,2,3,4,5,6,7,8,11] [15] [MpEq (MT.mk jb 141 3 4 [CK.i ja] false [CK.b] false) (uz+1) (fun (a:Int)=>(if a=ut.getD ((↑ut.length:Int)-(1:Int)).toNat (0:Int) then some true else uB a).isSome) (fun (a:Int)=>(if a=ut.getD ((↑ut.length:Int)-(1:Int)).toNat (0:Int) then some true else uB a).getD false) none (MT.mk jb 141 3 4 [CK.i ja] false [CK.b] false) (uz+1) (fun (q:Int)=>decide (q=ut.getD ((↑ut.length:Int)-(1:Int)).toNat (0:Int))||(uB q).isSome) (fun (q:Int)=>if q=ut.getD ((↑ut.length:Int)-(1:Int)).toNat (0:Int) then true else (uB q).getD false) none] W21
     ·refine tz [10,9,33,32,7,6,5,4,2] ?_
      refine RunF.mrange (T:=MT.mk jb 141 3 4 [CK.i ja] false [CK.b] false) (n:=uz) (has:=fun (a:Int)=>(uB a).isSome) (f:=fun (a:Int)=>(uB a).getD false) (it:=none) (vc:=[]) 8 K trivial K rfl (fun _ _=>by kernel_rfl) (fun rr10 cc10=>?_)
      refine tz [106,33,32,7,6,5,4,2] ?_
      refine Q6 (wA g ug um uz uB ut rr10 cc10) ((um,fun (a:Int)=>(uB a).isSome,cc10)) (DpE.start hJ3 hN.2 _) ?_ [] [15] [MpEq (MT.mk jb 141 3 4 [CK.i ja] false [CK.b] false) uz (fun (a:Int)=>(uB a).isSome) (fun (a:Int)=>(uB a).getD false) (some (MIt.mk (K:=[CK.i .i64]) rr10 (fun (a:Int)=>(uB a).isSome) cc10 none)) (MT.mk jb 141 3 4 [CK.i ja] false [CK.b] false) uz (fun (a:Int)=>(uB a).isSome) (fun (a:Int)=>(uB a).getD false) (some (MIt.mk (K:=[CK.i .i64]) rr10 (fun (a:Int)=>(uB a).isSome) cc10 none))] W21
      rintro ⟨uH,uM,v6⟩ hJ11
      dsimp only [wA] at hJ11
      refine tz [106,33,32,7,6,5,4,2] ?_
      refine RunF.mnext (A:=Int) (T:=MT.mk jb 141 3 4 [CK.i ja] false [CK.b] false) (n:=uz) (has:=fun (a:Int)=>(uB a).isSome) (f:=fun (a:Int)=>(uB a).getD false) (it:=MIt.mk (K:=[CK.i .i64]) rr10 uM v6 none) (vc:=[]) 8 10 (fun p=>p) (fun (a:Int)=>⟨a,rfl⟩) K trivial K K rfl K (fun _ _=>by kernel_rfl) ?_ ?_
      ·intro hl12
       dsimp only at hl12
       exact Q4 (vu g) (ug,um) ((ug+(1:Int),uH)) W202 W193 (vc:=(zF ug)) (hv:=W5)
      ·rintro kv12_0 cn12 hwf12 hl12 hh12 hc12
       dsimp only at hl12 hh12 hc12
       exact Q4 (wA g ug um uz uB ut rr10 cc10) (uH,uM,v6) ((uH.set kv12_0.toNat (uH.getD kv12_0.toNat 0+(1:Int)),fun (q:Int)=>(MIt.mk (K:=[CK.i .i64]) rr10 uM v6 none).left q&&!decide (q=kv12_0),cn12)) (by assumption) (hJ11.put (hJ8.ks _ hh12) hl12) [] [11,12,15] [(uH.set kv12_0.toNat (uH.getD kv12_0.toNat 0+(1:Int))).length=uH.length,∀ (i:Nat),i<(uH.set kv12_0.toNat (uH.getD kv12_0.toNat 0+(1:Int))).length→i64T ((uH.set kv12_0.toNat (uH.getD kv12_0.toNat 0+(1:Int))).getD i 0)=updT (fun i=>i64T (uH.getD i 0)) kv12_0.toNat 0 [jg ja (uH.getD kv12_0.toNat 0+(1:Int))] i,MpEq (MT.mk jb 141 3 4 [CK.i ja] false [CK.b] false) uz (fun (a:Int)=>(uB a).isSome) (fun (a:Int)=>(uB a).getD false) (some (MIt.mk (K:=[CK.i .i64]) rr10 (fun (q:Int)=>uM q&&!decide (q=kv12_0)) cn12 none)) (MT.mk jb 141 3 4 [CK.i ja] false [CK.b] false) uz (fun (a:Int)=>(uB a).isSome) (fun (a:Int)=>(uB a).getD false) (some (MIt.mk (K:=[CK.i .i64]) rr10 (fun (q:Int)=>uM q&&!decide (q=kv12_0)) cn12 (some kv12_0)))] W21 (vc:=[rr10=(MIt.mk (K:=[CK.i .i64]) rr10 uM v6 none).r,(MT.mk jb 141 3 4 [CK.i ja] false [CK.b] false).P=jb,(0:Int)≤kv12_0,kv12_0<(↑uH.length:Int),kv12_0.toNat<uH.length,Fits ja (uH.getD kv12_0.toNat 0+(1:Int)),(0:Int)≤kv12_0,kv12_0<(↑uH.length:Int),kv12_0.toNat<uH.length]) (hv:=W5)
  ·exact Q2 [0,6] (res:=_) (post:=_) (hS:=⟨um,⟨hJ3.len,fun i hi=>by have v:=hJ3.val i hi;have v2:=hJ3.hi;omega⟩,rfl,rfl⟩)
abbrev zO (y0:Grf):Reg:=Reg.box 189 [C.v (jC y0.name),C.i .i64 y0.locals,C.i .i64 y0.slots,C.h 0,C.h 1,C.h 2,C.h 3]
abbrev zZ (y0:Grf) (y1:WW):Reg:=Reg.row 65 y0.nodes.length (fun i=>wsT (y1 i)) none
abbrev zca:En:=se 0 (C.p 4 0)
def uX (g:Grf) (W:WW) (V:WW) (a:Int) (b:Int):Lp (Int×Bool):=⟨fun x=>{ N:=67,fr:=[se 18 (C.i .i64 x.1),zbW g,se 16 (C.h 0),se 6 (C.b x.2),zca,se 1 (C.i .i64 a),se 2 (C.i .i64 b)],rg:=[rowOf 13 (·.tc) g.nodes,rowOf 1 (·.tc) (rchL g.nodes),zZ g W,zZ g V,zO g],wr:=[] },fun x=>0≤x.1∧x.1≤(g.nodes.length:Int)∧∀ k,k<x.1.toNat→clB g.nodes (rchL g.nodes) V a b k=false,fun x=>((g.nodes.length:Int)-x.1).toNat⟩
abbrev zbq (y0:Int) (y1:Grf):List Prop:=[(0:Int)≤y0,y0<(↑y1.nodes.length:Int),y0.toNat<y1.nodes.length,(0:Int)≤y0,y0<(↑(rchL y1.nodes).length:Int),y0.toNat<(rchL y1.nodes).length]
abbrev zbt (y0:Grf) (y1 y2:Int):List Prop:=[decide ((y0.nodes.getD y1.toNat ua).slot=y2)=true→(0:Int)≤y1,decide ((y0.nodes.getD y1.toNat ua).slot=y2)=true→y1<(↑y0.nodes.length:Int)]
abbrev zb4 (y0:Grf):Reg:=Bo.rowR (rchL y0.nodes)
theorem Qna (g:Grf) (hN:1≤g.nodes.length∧g.nodes.length≤4096) (W V:WW) (a b:Int) (ha:0≤a∧a<4160) (hb:0≤b∧b<4160):Ctr jb 134 [zao g,zb4 g,zZ g W,zZ g V,zO g] [.c (.p 4 0),.c (.i .i64 a),.c (.i .i64 b)]
 (Det (.c (.b (clF g.nodes V a b))) [.dead,.dead,.dead,.dead,zO g]):=by
 refine Ctr.intro [] Tryz.func134 K K ?_
 refine Q0 (decide (a=b)) (fun h1=>?_) (fun h1=>?_)
 ·exact Q2 [] [3] [clF g.nodes V a b=false] W91
 ·refine tz [6,0,1,2] ?_
  refine Q6 (uX g W V a b) (((0:Int),false)) (⟨jz _,by omega,fun k hk=>absurd hk W162⟩) ?_
  rintro ⟨ue,un⟩ hJ2
  dsimp only [uX] at hJ2
  refine tz [18,17,16,6,0,1,2] ?_
  refine Q0 (decide (ue<(↑g.nodes.length:Int))) (fun h3=>?_) (fun h3=>?_)
  ·refine tz [18,17,16,6,0,1,2] ?_
   refine Jz (!((rchL g.nodes).getD ue.toNat ua).b) (fun h4=>?_) (fun h4=>?_) (vc:=(zbq ue g)) (hv:=W45)
   ·exact Q4 (uX g W V a b) (ue,un) ((ue+(1:Int),un)) W149 W115 (vc:=(zF ue)) (hv:=W45)
   ·refine tz [32,31,7,8,18,17,16,6,0,1,2] ?_
    refine Q3 Ge (Q3z (g.nodes.getD ue.toNat ua)) [] ?_
    refine tz [33,31,7,8,18,17,16,6,0,1,2] ?_
    refine Q0 (!(decide ((g.nodes.getD ue.toNat ua).kind=(1:Int))||decide ((g.nodes.getD ue.toNat ua).kind=(2:Int))||decide ((g.nodes.getD ue.toNat ua).kind=(4:Int)))) (fun h5=>?_) (fun h5=>?_)
    ·exact Q4 (uX g W V a b) (ue,un) ((ue+(1:Int),un)) W149 W115 (vc:=(zF ue)) (hv:=W45)
    ·refine tz [7,8,18,17,16,6,0,1,2] ?_
     refine Jz (decide ((g.nodes.getD ue.toNat ua).slot=a)) (fun h6=>?_) (fun h6=>?_) (vc:=(zbt g ue a)) (hv:=W45)
     ·refine tz [47,46,40,7,8,18,17,16,6,0,1,2] ?_
      refine Q3 Gf (Qbm V g.nodes.length ue.toNat b W140 W140) [3] ?_
      refine tz [48,40,7,8,18,17,16,6,0,1,2] ?_
      refine Jz (hasW (V ue.toNat) b) (fun h7=>?_) (fun h7=>?_) (vc:=[hasW (V ue.toNat) b=false→decide ((g.nodes.getD ue.toNat ua).slot=b)=true→(0:Int)≤ue,hasW (V ue.toNat) b=false→decide ((g.nodes.getD ue.toNat ua).slot=b)=true→ue<(↑g.nodes.length:Int)]) (hv:=W45)
      ·exact Q2 [] [3] [clF g.nodes V a b=true] W91
      ·refine tz [62,61,55,50,18,17,16,6,0,1,2] ?_
       refine Jz (decide ((g.nodes.getD ue.toNat ua).slot=b)) (fun h8=>?_) (fun h8=>?_)
       ·refine tz [62,61,55,50,18,17,16,6,0,1,2] ?_
        refine Q3 Gf (Qbm V g.nodes.length ue.toNat a W140 W140) [3] ?_
        refine tz [63,55,50,18,17,16,6,0,1,2] ?_
        refine Q0 (hasW (V ue.toNat) a) (fun h9=>?_) (fun h9=>?_)
        ·exact Q2 [] [3] [clF g.nodes V a b=true] W91
        ·exact Q4 (uX g W V a b) (ue,un) ((ue+(1:Int),un)) W149 W115 (vc:=(zF ue)) (hv:=W45)
       ·exact Q4 (uX g W V a b) (ue,un) ((ue+(1:Int),un)) W149 W115 (vc:=(zF ue)) (hv:=W45)
     ·refine tz [47,46,40,7,8,18,17,16,6,0,1,2] ?_
      refine Jz (decide ((g.nodes.getD ue.toNat ua).slot=b)) (fun h7=>?_) (fun h7=>?_) (vc:=(zbt g ue b)) (hv:=W45)
      ·refine tz [62,61,55,50,18,17,16,6,0,1,2] ?_
       refine Q3 Gf (Qbm V g.nodes.length ue.toNat a W140 W140) [3] ?_
       refine tz [63,55,50,18,17,16,6,0,1,2] ?_
       refine Q0 (hasW (V ue.toNat) a) (fun h8=>?_) (fun h8=>?_)
       ·exact Q2 [] [3] [clF g.nodes V a b=true] W91
       ·exact Q4 (uX g W V a b) (ue,un) ((ue+(1:Int),un)) W149 W115 (vc:=(zF ue)) (hv:=W45)
      ·exact Q4 (uX g W V a b) (ue,un) ((ue+(1:Int),un)) W149 W115 (vc:=(zF ue)) (hv:=W45)
  ·exact Q2 [] [3] [clF g.nodes V a b=false] W91
def v7 (g:Grf) (W:WW) (V:WW) (s:Int) (l:List Int):Lp (Int×Bool):=⟨fun x=>{ N:=20,fr:=[se 11 (C.i .i64 x.1),se 10 (C.i .i64 (↑l.length:Int)),se 9 (C.h 5),se 6 (C.b x.2),zca,se 1 (C.i .i64 s)],rg:=[rowOf 13 (·.tc) g.nodes,rowOf 1 (·.tc) (rchL g.nodes),zZ g W,zZ g V,zO g,IntRow l],wr:=[] },fun x=>0≤x.1∧x.1≤(l.length:Int)∧∀ k,k<x.1.toNat→clF g.nodes V s (l.getD k 0)=false,fun x=>((l.length:Int)-x.1).toNat⟩
theorem Qhe (g:Grf) (hN:1≤g.nodes.length∧g.nodes.length≤4096) (W V:WW) (s:Int) (l:List Int) (hs:0≤s∧s<4160) (hl:∀ x∈l,0≤x∧x<4160) (hm:l.length≤4160):Ctr jb 99 [zao g,zb4 g,zZ g W,zZ g V,zO g,IntRow l] [.c (.p 4 0),.c (.i .i64 s),.c (.h 5)]
 (Det (.c (.b (l.any fun k=>clF g.nodes V s k))) [.dead,.dead,.dead,.dead,zO g,.dead]):=by
 refine Ctr.intro [] Tryz.func99 K K ?_
 refine Q6 (v7 g W V s l) (((0:Int),false)) (⟨jz _,by omega,fun k hk=>absurd hk W162⟩) ?_
 rintro ⟨ud,ui⟩ hJ1
 dsimp only [v7] at hJ1
 refine tz [11,10,9,6,0,1] ?_
 refine Q0 (decide (ud<(↑l.length:Int))) (fun h2=>?_) (fun h2=>?_)
 ·refine tz [11,10,9,6,0,1] ?_
  refine Q3 Q3p (Qna g W175 W V s (l.getD ud.toNat 0) W175 W175) [] ?_ (vc:=(zax ud l)) (hv:=W156)
  refine tz [18,11,10,9,6,0,1] ?_
  refine Q0 (clF g.nodes V s (l.getD ud.toNat 0)) (fun h3=>?_) (fun h3=>?_)
  ·exact Q2 [] [3] [(l.any fun k=>clF g.nodes V s k)=true] W169
  ·exact Q4 (v7 g W V s l) (ud,ui) ((ud+(1:Int),ui)) (by dsimp only [v7];exact W228) (by have q:=ub h2;have z:=hJ1.1;exact ⟨by omega,by omega,Qd4 (P:=fun k=>clF g.nodes V s (l.getD k 0)) z hJ1.2.2 h3⟩) (vc:=(zF ud)) (hv:=W156)
 ·exact Q2 [] [3] [(l.any fun k=>clF g.nodes V s k)=false] W169
abbrev zb6 (y0:Grf):En:=se 30 (C.i .i64 (y0.nodes.length:Int))
def vx (g:Grf) (W:WW) (V:WW) (ud:List Int):Lp (Int×List Int):=⟨fun x=>St.mk 93 [se 31 (C.i .i64 x.1),zb6 g,se 29 (C.h 0),se 4 (C.h 6),se 3 (C.h 5),zL,zca] [zao g,zb4 g,zZ g W,zZ g V,zO g,IntOwn x.2,IntOwn ud] [],fun x=>0≤x.1∧x.1≤(g.nodes.length:Int)∧WtI g.nodes g.slots x.1.toNat x.2,fun x=>((g.nodes.length:Int)-x.1).toNat⟩
abbrev za9 (y0:List Int) (y1:Int):En:=En.mk 7 [] (SV.c (C.i .i64 (shlI ja (1:Int) ((3:Int) * if (4:Int)<y0.getD y1.toNat 0 then (4:Int) else y0.getD y1.toNat 0))))
abbrev zci (y0:Grf) (y1:Int):En:=En.mk 61 [] (SV.c (C.i .i64 ((slL (y0.nodes.getD y1.toNat ua)).length:Int)))
def vy (g:Grf) (W:WW) (V:WW) (ud:List Int) (ue:Int):Lp (Int×List Int):=⟨fun x=>St.mk 93 [se 62 (C.i .i64 x.1),zci g ue,se 60 (C.h 7),se 8 (C.h 7),za9 ud ue,se 31 (C.i .i64 ue),zb6 g,se 29 (C.h 0),se 4 (C.h 6),se 3 (C.h 5),zL,zca] [zao g,zb4 g,zZ g W,zZ g V,zO g,IntOwn x.2,IntOwn ud,IntRow (slL (g.nodes.getD ue.toNat ua))] [],fun x=>0≤x.1∧x.1≤((slL (g.nodes.getD ue.toNat ua)).length:Int)∧WtK g.nodes g.slots ue.toNat x.1.toNat x.2,fun x=>(((slL (g.nodes.getD ue.toNat ua)).length:Int)-x.1).toNat⟩
def v8 (g:Grf) (W:WW) (V:WW) (ud:List Int) (ue:Int) (uk:Int) (uy:List Int):Lp (Int×Bool):=⟨fun x=>St.mk 93 [se 71 (C.i .i64 x.1),En.mk 70 [] (SV.c (C.i .i64 ((jR uk.toNat (slL (g.nodes.getD ue.toNat ua))).length:Int))),se 69 (C.h 8),se 11 (C.b x.2),En.mk 10 [] (SV.c (C.i .i64 ((slL (g.nodes.getD ue.toNat ua)).getD uk.toNat 0))),se 9 (C.i .i64 uk),se 62 (C.i .i64 uk),zci g ue,se 60 (C.h 7),se 8 (C.h 7),za9 ud ue,se 31 (C.i .i64 ue),zb6 g,se 29 (C.h 0),se 4 (C.h 6),se 3 (C.h 5),zL,zca] [zao g,zb4 g,zZ g W,zZ g V,zO g,IntOwn uy,IntOwn ud,IntRow (slL (g.nodes.getD ue.toNat ua)),IntRow (jR uk.toNat (slL (g.nodes.getD ue.toNat ua)))] [],fun x=>0≤x.1∧x.1≤((jR uk.toNat (slL (g.nodes.getD ue.toNat ua))).length:Int)∧OnceF (jR uk.toNat (slL (g.nodes.getD ue.toNat ua))) ((slL (g.nodes.getD ue.toNat ua)).getD uk.toNat 0) x.1.toNat x.2,fun x=>(((jR uk.toNat (slL (g.nodes.getD ue.toNat ua))).length:Int)-x.1).toNat⟩
def C98w (g:Grf) (W V:WW) (ud:List Int) (ue:Int) (un:List Int):St:=St.mk 93 [se 8 (C.h 7),za9 ud ue,se 31 (C.i .i64 ue),zb6 g,se 29 (C.h 0),se 4 (C.h 6),se 3 (C.h 5),zL,zca] [zao g,zb4 g,zZ g W,zZ g V,zO g,IntOwn un,IntOwn ud,IntOwn (slL (g.nodes.getD ue.toNat ua))] []
theorem Qhf (g:Grf) (hq:zG g) (hN:1≤g.nodes.length∧g.nodes.length≤4096) (hk:zW g) (W V:WW) (hm:0≤g.slots∧g.slots≤4160) (hT:SlT g.nodes g.slots):Ctr jb 98 [zao g,zb4 g,zZ g W,zZ g V,zO g] [.c (.p 4 0)]
 (DetE (fun w:List Int=>WtQ g.nodes g.slots w) (fun _=>.c (.h 5)) (fun w=>[.dead,.dead,.dead,.dead,zO g,IntOwn w])):=by
 refine Ctr.intro [] Tryz.func98 K K ?_
 refine Qk Qcf (Qn9 g W143 W143 W143) [] ?_ (vc:=[(0:Int)≤g.slots,g.slots≤g.slots,g.slots * (8:Int)≤(140737488355328:Int),g.slots≤(↑maxLen:Int)]) (hv:=W13)
 rintro ud hY1
 try dsimp only at hY1
 refine tz [24,3,2,0] ?_
 refine Q6 (vx g W V ud) (((0:Int),jh g.slots.toNat (0:Int))) (⟨jz _,by omega,WtI.zero⟩) ?_ [] [11,12] [(jh g.slots.toNat (0:Int)).length=g.slots.toNat,∀ (i:Nat),i<(jh g.slots.toNat (0:Int)).length→i64T ((jh g.slots.toNat (0:Int)).getD i 0)=fun j=>valT (jg ja (0:Int)).cells.toList j] W46
 rintro ⟨ue,un⟩ hJ2
 dsimp only [vx] at hJ2
 refine tz [31,30,29,4,3,2,0] ?_
 refine Q0 (decide (ue<(↑g.nodes.length:Int))) (fun h3=>?_) (fun h3=>?_)
 ·refine tz [31,30,29,4,3,2,0] ?_
  refine Q0 (!((rchL g.nodes).getD ue.toNat ua).b) (fun h4=>?_) (fun h4=>?_) (vc:=(zbq ue g)) (hv:=W13)
  ·exact Q4 (vx g W V ud) (ue,un) ((ue+(1:Int),un)) W207 W114 (vc:=(zF ue)) (hv:=W13)
  ·refine RunF.cutn 4 (fun _:Unit=>C98w g W V ud ue un) (fun _=>True) ?_ ?_
   ·refine tz [5,6,31,30,29,4,3,2,0] ?_
    refine Q3 Q0w (Q82 (g.nodes.getD ue.toNat ua) W143) [] ?_ (vc:=[(0:Int)≤ue,ue<(↑ud.length:Int),ue.toNat<ud.length,Fits ja ((3:Int) * if (4:Int)<ud.getD ue.toNat 0 then (4:Int) else ud.getD ue.toNat 0),(0:Int)≤(3:Int) * if (4:Int)<ud.getD ue.toNat 0 then (4:Int) else ud.getD ue.toNat 0]) (hv:=W13)
    refine tz [52,7,6,31,30,29,4,3,2,0] ?_
    refine Q3 Ge (Q3z (g.nodes.getD ue.toNat ua)) [] ?_
    refine tz [54,8,7,6,31,30,29,4,3,2,0] ?_
    refine Q0 (decide ((g.nodes.getD ue.toNat ua).kind=(1:Int))||decide ((g.nodes.getD ue.toNat ua).kind=(2:Int))||decide ((g.nodes.getD ue.toNat ua).kind=(4:Int))) (fun h5=>?_) (fun h5=>?_)
    ·exact tTo (fun xUnit=>C98w g W V ud ue un) (fun xUnit=>True) () trivial [0,1,2,3,4,5,6,10] [15,16,17] [(slL (g.nodes.getD ue.toNat ua)).length=(useL (g.nodes.getD ue.toNat ua)).length+1,∀ (i:Nat),i<(slL (g.nodes.getD ue.toNat ua)).length→i≠(useL (g.nodes.getD ue.toNat ua)).length→i64T ((slL (g.nodes.getD ue.toNat ua)).getD i 0)=i64T ((useL (g.nodes.getD ue.toNat ua)).getD i 0),i64T ((slL (g.nodes.getD ue.toNat ua)).getD (useL (g.nodes.getD ue.toNat ua)).length (0:Int)) 0=TC.val (jg ja (g.nodes.getD ue.toNat ua).slot)] W46 (vc:=[(useL (g.nodes.getD ue.toNat ua)).length+1≤maxLen,((useL (g.nodes.getD ue.toNat ua)).length+1) * 8≤140737488355328]) (hv:=W13)
    ·exact tTo (fun xUnit=>C98w g W V ud ue un) (fun xUnit=>True) () trivial [0,1,2,3,4,5,6,8] [15,16] [(slL (g.nodes.getD ue.toNat ua)).length=(useL (g.nodes.getD ue.toNat ua)).length,∀ (i:Nat),i<(slL (g.nodes.getD ue.toNat ua)).length→i64T ((slL (g.nodes.getD ue.toNat ua)).getD i 0)=i64T ((useL (g.nodes.getD ue.toNat ua)).getD i 0)] W46
   ·rintro ⟨⟩ hCC98A
    refine tz [8,7,31,30,29,4,3,2,0] ?_
    refine Q6 (vy g W V ud ue) (((0:Int),un)) (⟨jz _,by omega,hJ2.2.2⟩) ?_
    rintro ⟨uk,uy⟩ hJ5
    dsimp only [vy] at hJ5
    refine tz [62,61,60,8,7,31,30,29,4,3,2,0] ?_
    refine Q0 (decide (uk<(↑(slL (g.nodes.getD ue.toNat ua)).length:Int))) (fun h6=>?_) (fun h6=>?_)
    ·refine tz [62,61,60,8,7,31,30,29,4,3,2,0] ?_
     refine Q6 (v8 g W V ud ue uk uy) (((0:Int),true)) (⟨jz _,by omega,OnceF.zero⟩) ?_ [] [17,18,20] [(jR uk.toNat (slL (g.nodes.getD ue.toNat ua))).length=uk.toNat-0,∀ (i:Nat),i<(jR uk.toNat (slL (g.nodes.getD ue.toNat ua))).length→i64T ((jR uk.toNat (slL (g.nodes.getD ue.toNat ua))).getD i 0)=i64T ((slL (g.nodes.getD ue.toNat ua)).getD (0+i) 0),(↑(jR uk.toNat (slL (g.nodes.getD ue.toNat ua))).length:Int)=(↑(uk.toNat-0):Int)] W46 (vc:=[(0:Int)≤uk,uk<(↑(slL (g.nodes.getD ue.toNat ua)).length:Int),uk.toNat<(slL (g.nodes.getD ue.toNat ua)).length,(0:Int)≤(0:Int),(0:Int)≤uk,uk≤(↑(slL (g.nodes.getD ue.toNat ua)).length:Int)]) (hv:=W13)
     rintro ⟨uO,uU⟩ hJ7
     dsimp only [v8] at hJ7
     refine tz [71,70,69,11,10,9,62,61,60,8,7,31,30,29,4,3,2,0] ?_
     refine Q0 (decide (uO<(↑(jR uk.toNat (slL (g.nodes.getD ue.toNat ua))).length:Int))) (fun h8=>?_) (fun h8=>?_)
     ·exact Q4 (v8 g W V ud ue uk uy) (uO,uU) ((uO+(1:Int),uU&&!decide ((slL (g.nodes.getD ue.toNat ua)).getD uk.toNat 0=(jR uk.toNat (slL (g.nodes.getD ue.toNat ua))).getD uO.toNat 0))) (by dsimp only [v8];have q:=ub h8;have z:=hJ7.1;omega) (by have q:=ub h8;have z:=hJ7.1;have e:(uO+1).toNat=uO.toNat+1:=(by omega);refine ⟨by omega,by omega,?_⟩;dsimp only;rw [e];exact OnceF.next hJ7.2.2 (by omega)) (vc:=[(0:Int)≤uO,uO<(↑(jR uk.toNat (slL (g.nodes.getD ue.toNat ua))).length:Int),uO.toNat<(jR uk.toNat (slL (g.nodes.getD ue.toNat ua))).length,Fits ja (uO+(1:Int))]) (hv:=W13)
     ·refine tz [71,70,69,11,10,9,62,61,60,8,7,31,30,29,4,3,2,0] ?_
      refine Q0 (uU) (fun h9=>?_) (fun h9=>?_)
      ·exact Q4 (vy g W V ud ue) (uk,uy) ((uk+(1:Int),uy.set ((slL (g.nodes.getD ue.toNat ua)).getD uk.toNat 0).toNat (uy.getD ((slL (g.nodes.getD ue.toNat ua)).getD uk.toNat 0).toNat (0:Int)+shlI ja (1:Int) ((3:Int) * if (4:Int)<ud.getD ue.toNat 0 then (4:Int) else ud.getD ue.toNat 0)))) W208 W101 [] [11,12] [(uy.set ((slL (g.nodes.getD ue.toNat ua)).getD uk.toNat 0).toNat (uy.getD ((slL (g.nodes.getD ue.toNat ua)).getD uk.toNat 0).toNat (0:Int)+shlI ja (1:Int) ((3:Int) * if (4:Int)<ud.getD ue.toNat 0 then (4:Int) else ud.getD ue.toNat 0))).length=uy.length,∀ (i:Nat),i<(uy.set ((slL (g.nodes.getD ue.toNat ua)).getD uk.toNat 0).toNat (uy.getD ((slL (g.nodes.getD ue.toNat ua)).getD uk.toNat 0).toNat (0:Int)+shlI ja (1:Int) ((3:Int) * if (4:Int)<ud.getD ue.toNat 0 then (4:Int) else ud.getD ue.toNat 0))).length→i64T ((uy.set ((slL (g.nodes.getD ue.toNat ua)).getD uk.toNat 0).toNat (uy.getD ((slL (g.nodes.getD ue.toNat ua)).getD uk.toNat 0).toNat (0:Int)+shlI ja (1:Int) ((3:Int) * if (4:Int)<ud.getD ue.toNat 0 then (4:Int) else ud.getD ue.toNat 0))).getD i 0)=updT (fun i=>i64T (uy.getD i 0)) ((slL (g.nodes.getD ue.toNat ua)).getD uk.toNat 0).toNat 0 [jg ja (uy.getD ((slL (g.nodes.getD ue.toNat ua)).getD uk.toNat 0).toNat (0:Int)+shlI ja (1:Int) ((3:Int) * if (4:Int)<ud.getD ue.toNat 0 then (4:Int) else ud.getD ue.toNat 0))] i] W46 (vc:=[(0:Int)≤(slL (g.nodes.getD ue.toNat ua)).getD uk.toNat 0,(slL (g.nodes.getD ue.toNat ua)).getD uk.toNat 0<(↑uy.length:Int),((slL (g.nodes.getD ue.toNat ua)).getD uk.toNat 0).toNat<uy.length,Fits ja (uy.getD ((slL (g.nodes.getD ue.toNat ua)).getD uk.toNat 0).toNat (0:Int)+shlI ja (1:Int) ((3:Int) * if (4:Int)<ud.getD ue.toNat 0 then (4:Int) else ud.getD ue.toNat 0)),(0:Int)≤(slL (g.nodes.getD ue.toNat ua)).getD uk.toNat 0,(slL (g.nodes.getD ue.toNat ua)).getD uk.toNat 0<(↑uy.length:Int),((slL (g.nodes.getD ue.toNat ua)).getD uk.toNat 0).toNat<uy.length,Fits ja (uk+(1:Int))]) (hv:=W13)
      ·exact Q4 (vy g W V ud ue) (uk,uy) ((uk+(1:Int),uy)) W208 W101 (vc:=(zF uk)) (hv:=W13)
    ·exact Q4 (vx g W V ud) (ue,un) ((ue+(1:Int),uy)) W207 W114 (vc:=(zF ue)) (hv:=W13)
 ·exact Q2 (res:=_) (post:=_) (hS:=⟨un,(by have q:=uc h3;have e:ue.toNat=g.nodes.length:=(by have v:=hJ2;omega);have w:=hJ2.2.2;rw [e] at w;exact w.done hm.1),rfl,rfl⟩)
def vA (g:Grf) (a:Alc):Lp (Int×Bool):=⟨fun x=>{ N:=45,fr:=[se 27 (C.i .i64 x.1),se 26 (C.i .i64 (↑a.places.length:Int)),se 25 (C.h 1),se 4 (C.b x.2),zbo],rg:=[rowOf 13 (·.tc) g.nodes,rowOf 2 (·.tc) a.places,ze g,Reg.box 72 [C.h 1,C.i .i64 a.cells]],wr:=[] },fun x=>0≤x.1∧x.1≤(a.places.length:Int)∧∀ k,k<x.1.toNat→fit1 a.cells (a.places.getD k ua)=true,fun x=>((a.places.length:Int)-x.1).toNat⟩
theorem Qpg (g:Grf) (a:Alc) (hp:a.places.length≤9223372036854775807):Ctr jb 96 [zao g,Plc.rowR a.places] [.agg (g.cs 0),.agg (a.cs 1)]
 (Det (.c (.b (fitB g.slots a))) [.dead,.dead]):=by
 refine Ctr.intro [] Tryz.func96 K K ?_
 refine Q0 (!decide ((↑a.places.length:Int)=g.slots)||decide (a.cells<(0:Int))||decide ((4160:Int)<a.cells)) (fun h1=>?_) (fun h1=>?_)
 ·exact Q2 [] [0] [fitB g.slots a=false] W76
 ·refine tz [4,3] ?_
  refine Q6 (vA g a) (((0:Int),false)) (⟨jz _,by omega,fun k hk=>absurd hk W162⟩) ?_
  rintro ⟨ue,un⟩ hJ2
  dsimp only [vA] at hJ2
  refine tz [27,26,25,4,3] ?_
  refine Q0 (decide (ue<(↑a.places.length:Int))) (fun h3=>?_) (fun h3=>?_)
  ·refine tz [27,26,25,4,3] ?_
   refine Q0 ((a.places.getD ue.toNat ua).cell) (fun h4=>?_) (fun h4=>?_) (vc:=[(0:Int)≤ue,ue<(↑a.places.length:Int),ue.toNat<a.places.length]) (hv:=W144)
   ·refine tz [7,6,27,26,25,4,3] ?_
    refine Q0 (decide ((a.places.getD ue.toNat ua).n<(0:Int))||decide (a.cells≤(a.places.getD ue.toNat ua).n)) (fun h5=>?_) (fun h5=>?_)
    ·exact Q2 [] [0] [fitB g.slots a=false] W76
    ·exact Q4 (vA g a) (ue,un) ((ue+(1:Int),un)) W211 W166 (vc:=(zF ue)) (hv:=W144)
   ·refine tz [7,6,27,26,25,4,3] ?_
    refine Q0 (decide ((a.places.getD ue.toNat ua).n<(0:Int))||decide ((13:Int)≤(a.places.getD ue.toNat ua).n)) (fun h5=>?_) (fun h5=>?_)
    ·exact Q2 [] [0] [fitB g.slots a=false] W76
    ·exact Q4 (vA g a) (ue,un) ((ue+(1:Int),un)) W211 W166 (vc:=(zF ue)) (hv:=W144)
  ·exact Q2 [] [0] [fitB g.slots a=true] W76
def v9 (sh:List Dcl) (lk:List Dcl) (gs:List Grf) (al:List Alc):Lp (Int×Int×Bool):=⟨fun x=>{ N:=100,fr:=[se 37 (C.i .i64 x.1),se 36 (C.i .i64 (↑gs.length:Int)),se 35 (C.h 2),se 5 (C.i .i64 x.2.1),se 4 (C.b x.2.2),se 2 (C.p 4 0),se 1 (C.h 3)],rg:=[rowOf 3 (·.tc) sh,rowOf 3 (·.tc) lk,rowOf 4 (·.tc) gs,rowOf 2 (·.tc) al,zP],wr:=[] },fun x=>0≤x.1∧x.1≤(gs.length:Int)∧∀ k,k<x.1.toNat→fitB (gs.getD k ua).slots (al.getD k ua)=true,fun x=>((gs.length:Int)-x.1).toNat⟩
def wa (sh:List Dcl) (lk:List Dcl) (gs:List Grf) (al:List Alc) (um:Int) (uq:Bool):Lp (Int×Bool):=⟨fun x=>{ N:=100,fr:=[se 53 (C.i .i64 x.1),se 52 (C.i .i64 (↑gs.length:Int)),se 51 (C.h 2),se 11 (C.b x.2),se 5 (C.i .i64 um),se 4 (C.b uq),se 1 (C.h 3)],rg:=[rowOf 3 (·.tc) sh,rowOf 3 (·.tc) lk,rowOf 4 (·.tc) gs,rowOf 2 (·.tc) al,zP],wr:=[] },fun x=>0≤x.1∧x.1≤(gs.length:Int)∧x.2=okF gs al x.1.toNat,fun x=>((gs.length:Int)-x.1).toNat⟩
abbrev zj (y0:List Grf) (y1:Int):Reg:=Reg.row 4 y0.length (fun i=>(y0.getD i ua).tc) (some (y1.toNat,[C.v (jC (y0.getD y1.toNat ua).name),C.i .i64 (y0.getD y1.toNat ua).locals,C.i .i64 (y0.getD y1.toNat ua).slots,C.h 5]))
def ve (sh:List Dcl) (lk:List Dcl) (gs:List Grf) (al:List Alc) (um:Int) (uq:Bool) (uk:Int) (uy:Bool) (uO:WW) (uU:Nat→Nat→Int) (uz:List Int):Lp (Int×Bool):=⟨fun x=>{ N:=100,fr:=[se 69 (C.i .i64 x.1),se 68 (C.i .i64 (↑(al.getD uk.toNat ua).places.length:Int)),se 67 (C.h 6),se 16 (C.h 13),se 15 (C.h 12),se 14 (C.p 8 0),se 53 (C.i .i64 uk),se 52 (C.i .i64 (↑gs.length:Int)),se 51 (C.h 2),se 11 (C.b x.2),se 5 (C.i .i64 um),se 4 (C.b uq),se 1 (C.h 3)],rg:=[rowOf 3 (·.tc) sh,rowOf 3 (·.tc) lk,zj gs uk,Reg.row 2 al.length (fun i=>(al.getD i ua).tc) (some (uk.toNat,[C.h 6,C.i .i64 (al.getD uk.toNat ua).cells])),zP,zt gs uk,Reg.row 2 (al.getD uk.toNat ua).places.length (fun i=>((al.getD uk.toNat ua).places.getD i ua).tc) none,Reg.box 60 [C.v (jC (gs.getD uk.toNat ua).name),C.i .i64 (gs.getD uk.toNat ua).locals,C.i .i64 (gs.getD uk.toNat ua).slots,C.h 5],Reg.box 189 [C.v (jC (gs.getD uk.toNat ua).name),C.i .i64 (gs.getD uk.toNat ua).locals,C.i .i64 (gs.getD uk.toNat ua).slots,C.h 5,C.h 9,C.h 10,C.h 11],ownOf 4 1 (·.tc) (rchL (gs.getD uk.toNat ua).nodes),Reg.own 192 65 (gs.getD uk.toNat ua).nodes.length (fun i=>wsT (uO i)) none,Reg.own 192 65 (gs.getD uk.toNat ua).nodes.length (fun i=>wsT (uU i)) none,IntOwn uz,Reg.mpr (MT.mk jb 163 74 49 [CK.b,CK.i ja] true [] false) 3 1 (2 * x.1.toNat) (atM (gs.getD uk.toNat ua).nodes (al.getD uk.toNat ua).places x.1.toNat) none],wr:=[] },fun x=>0≤x.1∧x.1≤((al.getD uk.toNat ua).places.length:Int)∧x.2=(okF gs al uk.toNat&&okS (gs.getD uk.toNat ua).nodes (al.getD uk.toNat ua).places x.1.toNat),fun x=>(((al.getD uk.toNat ua).places.length:Int)-x.1).toNat⟩
abbrev zac (y0:List Grf) (y1:Int) (y2:List Alc) (y3 y4:Int):List Prop:=[(atM (y0.getD y1.toNat ua).nodes (y2.getD y1.toNat ua).places y3.toNat (((y2.getD y1.toNat ua).places.getD y3.toNat ua).cell,((y2.getD y1.toNat ua).places.getD y3.toNat ua).n)).fst+1≤maxLen,((atM (y0.getD y1.toNat ua).nodes (y2.getD y1.toNat ua).places y3.toNat (((y2.getD y1.toNat ua).places.getD y3.toNat ua).cell,((y2.getD y1.toNat ua).places.getD y3.toNat ua).n)).fst+1) * 8≤140737488355328,Fits ja ((y2.getD y1.toNat ua).places.getD y3.toNat ua).n,(MT.mk jb 163 74 49 [CK.b,CK.i ja] true [] false).P=jb,2 * y3.toNat+1<maxLen,y4=y4,Fits ja (y3+(1:Int))]
abbrev zan (y0:List Alc) (y1 y2:Int):List Prop:=[Fits ja ((y0.getD y1.toNat ua).places.getD y2.toNat ua).n,(MT.mk jb 163 74 49 [CK.b,CK.i ja] true [] false).P=jb,2 * y2.toNat<maxLen,(((y0.getD y1.toNat ua).places.getD y2.toNat ua).cell,((y0.getD y1.toNat ua).places.getD y2.toNat ua).n)=(((y0.getD y1.toNat ua).places.getD y2.toNat ua).cell,((y0.getD y1.toNat ua).places.getD y2.toNat ua).n)]
abbrev zaE (y0:List Alc):Prop:=∀ j:Nat,(y0.getD j ua).places.length≤9223372036854775807
theorem Qnb (sh lk:List Dcl) (gs:List Grf) (al:List Alc) (hs:zy sh) (hl:zy lk) (hg:zT gs) (hw:UnitW gs) (hp:zaE al):Ctr jb 60 (zbS sh lk gs al) [.agg [.h 0,.h 1,.h 2],.c (.h 3)]
 (Det (.tup [(false,[.b (rgtU sh lk gs al).1]),(false,[.i .i64 (rgtU sh lk gs al).2])]) zbC):=by
 refine Ctr.intro [] Tryz.func60 K K ?_
 refine Q3 Z2 (Gj sh lk gs W3 W3 W3 W3) [] ?_
 refine tz [21,5,4,2,1] ?_
 refine Q0 (!decide ((chkU sh lk gs).fst=(0:Int))) (fun h1=>?_) (fun h1=>?_)
 ·exact Q2 [] [0,1] [(rgtU sh lk gs al).fst=false,(rgtU sh lk gs al).snd=(chkU sh lk gs).fst] W85
 ·refine tz [5,4,2,1] ?_
  refine Q0 (!decide ((↑al.length:Int)=(↑gs.length:Int))) (fun h2=>?_) (fun h2=>?_)
  ·exact Q2 [] [0,1] [(rgtU sh lk gs al).fst=false,(rgtU sh lk gs al).snd=(150:Int)] W85
  ·have hL:al.length=gs.length:=by (simp only [kI,decide_eq_true_eq] at h2;omega)
   have hN8:gs.length≤8:=(Yc W126).1.2.2
   refine tz [5,4,2,1] ?_
   refine Q6 (v9 sh lk gs al) (((0:Int),(0:Int),false)) (⟨jz _,by omega,fun k hk=>absurd hk W162⟩) ?_
   rintro ⟨ug,um,uq⟩ hJ3
   dsimp only [v9] at hJ3
   refine tz [37,36,35,5,4,2,1] ?_
   refine Q0 (decide (ug<(↑gs.length:Int))) (fun h4=>?_) (fun h4=>?_)
   ·refine Qv 2 (ug.toNat) ?_ (vc:=(zcc ug gs)) (hv:=W8)
    refine Qv 3 (ug.toNat) ?_ (vc:=[ug.toNat<al.length]) (hv:=W8)
    refine tz [37,36,35,5,4,2,1] ?_
    refine Q3 Qce (Qpg (gs.getD ug.toNat ua) (al.getD ug.toNat ua) W3) [5,6] ?_ (vc:=[(0:Int)≤ug,ug<(↑gs.length:Int),ug.toNat=ug.toNat,(0:Int)≤ug,ug<(↑al.length:Int),ug.toNat=ug.toNat]) (hv:=W8)
    refine tz [47,46,45,44,43,42,9,10,37,36,35,5,4,2,1] ?_
    refine Q0 (!fitB (gs.getD ug.toNat ua).slots (al.getD ug.toNat ua)) (fun h5=>?_) (fun h5=>?_)
    ·exact Q2 [] [0,1] [(rgtU sh lk gs al).fst=false,(rgtU sh lk gs al).snd=(150:Int)] W85
    ·exact Q4 (v9 sh lk gs al) (ug,um,uq) ((ug+(1:Int),um,uq)) (by dsimp only [v9];exact W230) W185 (vc:=(zF ug)) (hv:=W8)
   ·have hF:∀ k,k<gs.length→fitB (gs.getD k ua).slots (al.getD k ua)=true:=fun k hk=>hJ3.2.2 k (by have q:=uc h4;omega)
    refine tz [37,36,35,5,4,2,1] ?_
    refine Q6 (wa sh lk gs al um uq) (((0:Int),true)) (⟨jz _,by omega,rfl⟩) ?_
    rintro ⟨uk,uy⟩ hJ5
    dsimp only [wa] at hJ5
    refine tz [53,52,51,11,5,4,1] ?_
    refine Q0 (decide (uk<(↑gs.length:Int))) (fun h6=>?_) (fun h6=>?_)
    ·refine Qv 2 (uk.toNat) ?_ (vc:=(zcc uk gs)) (hv:=W8)
     refine Qv 3 (uk.toNat) ?_ (vc:=[uk.toNat<al.length]) (hv:=W8)
     refine tz [53,52,51,11,5,4,1] ?_
     refine Qk Qap (Qn7 (gs.getD uk.toNat ua) W3 W3 W3 W3) [5] ?_ (vc:=(za6 uk gs)) (hv:=W8)
     rintro ⟨uO,uU⟩ hY7
     try dsimp only at hY7
     refine tz [59,12,53,52,51,11,5,4,1] ?_
     refine Qk Q24 (Qhf (gs.getD uk.toNat ua) W3 W3 W3 uO uU W3 W3) [5,9,10,11,8] ?_
     rintro uz hY8
     try dsimp only at hY8
     refine tz [61,14,12,53,52,51,11,5,4,1] ?_
     refine Q6 (ve sh lk gs al um uq uk uy uO uU uz) (((0:Int),uy)) (⟨jz _,by omega,by show uy=_;rw [hJ5.2.2];exact (Bool.and_true _).symm⟩) ?_ [] [32] [MrEq (MT.mk jb 163 74 49 [CK.b,CK.i ja] true [] false) 3 1 0 (atM (gs.getD uk.toNat ua).nodes (al.getD uk.toNat ua).places 0) (MT.mk jb 163 74 49 [CK.b,CK.i ja] true [] false) 3 1 0 fun x=>(0,fun x x_1=>TC.any)] W23 (vc:=[(MT.mk jb 163 74 49 [CK.b,CK.i ja] true [] false).P=jb,(MT.mk jb 163 74 49 [CK.b,CK.i ja] true [] false).OkV (je none 0 0),(0:Int)≤uk,uk<(↑al.length:Int),uk.toNat=uk.toNat]) (hv:=W8)
     rintro ⟨uo,uW⟩ hJ9
     dsimp only [ve] at hJ9
     refine tz [69,68,67,16,15,14,53,52,51,11,5,4,1] ?_
     refine Q0 (decide (uo<(↑(al.getD uk.toNat ua).places.length:Int))) (fun h10=>?_) (fun h10=>?_)
     ·refine tz [69,68,67,16,15,14,53,52,51,11,5,4,1] ?_
      refine Q0 (decide (uz.getD uo.toNat 0=(0:Int))) (fun h11=>?_) (fun h11=>?_) (vc:=[(0:Int)≤uo,uo<(↑(al.getD uk.toNat ua).places.length:Int),uo.toNat<(al.getD uk.toNat ua).places.length,(0:Int)≤uo,uo<(↑uz.length:Int),uo.toNat<uz.length]) (hv:=W8)
      ·exact Q4 (ve sh lk gs al um uq uk uy uO uU uz) (uo,uW) ((uo+(1:Int),uW)) W186 W19 [] [32] [MrEq (MT.mk jb 163 74 49 [CK.b,CK.i ja] true [] false) 3 1 (2 * (uo+(1:Int)).toNat) (atM (gs.getD uk.toNat ua).nodes (al.getD uk.toNat ua).places (uo+(1:Int)).toNat) (MT.mk jb 163 74 49 [CK.b,CK.i ja] true [] false) 3 1 (2 * uo.toNat) (atM (gs.getD uk.toNat ua).nodes (al.getD uk.toNat ua).places uo.toNat)] W23 (vc:=(zF uo)) (hv:=W8)
      ·refine RunF.mopen 13 (T:=MT.mk jb 163 74 49 [CK.b,CK.i ja] true [] false) (ty:=3) (sz:=1) (n:=2 * uo.toNat) (f:=atM (gs.getD uk.toNat ua).nodes (al.getD uk.toNat ua).places uo.toNat) ((((al.getD uk.toNat ua).places.getD uo.toNat ua).cell,((al.getD uk.toNat ua).places.getD uo.toNat ua).n)) K K ?_
       refine tz [17,18,69,68,67,16,15,14,53,52,51,11,5,4,1] ?_
       refine Jz (uW) (fun h12=>?_) (fun h12=>?_) (vc:=[uW=true→Fits ja ((al.getD uk.toNat ua).places.getD uo.toNat ua).n,uW=true→(MT.mk jb 163 74 49 [CK.b,CK.i ja] true [] false).P=jb,uW=true→(((al.getD uk.toNat ua).places.getD uo.toNat ua).cell,((al.getD uk.toNat ua).places.getD uo.toNat ua).n)=(((al.getD uk.toNat ua).places.getD uo.toNat ua).cell,((al.getD uk.toNat ua).places.getD uo.toNat ua).n)]) (hv:=W8)
       ·refine tz [85,82,81,80,17,18,69,68,67,16,15,14,53,52,51,11,5,4,1] ?_
        refine Q3 Q25 (Qhe (gs.getD uk.toNat ua) W3 uO uU uo (atL (gs.getD uk.toNat ua).nodes (al.getD uk.toNat ua).places uo.toNat (((al.getD uk.toNat ua).places.getD uo.toNat ua).cell,((al.getD uk.toNat ua).places.getD uo.toNat ua).n)) W3 W3 W3) [5,9,10,11,8,15] ?_ [11,12] [(atL (gs.getD uk.toNat ua).nodes (al.getD uk.toNat ua).places uo.toNat (((al.getD uk.toNat ua).places.getD uo.toNat ua).cell,((al.getD uk.toNat ua).places.getD uo.toNat ua).n)).length=(atM (gs.getD uk.toNat ua).nodes (al.getD uk.toNat ua).places uo.toNat (((al.getD uk.toNat ua).places.getD uo.toNat ua).cell,((al.getD uk.toNat ua).places.getD uo.toNat ua).n)).fst,∀ (i:Nat),i<(atL (gs.getD uk.toNat ua).nodes (al.getD uk.toNat ua).places uo.toNat (((al.getD uk.toNat ua).places.getD uo.toNat ua).cell,((al.getD uk.toNat ua).places.getD uo.toNat ua).n)).length→i64T ((atL (gs.getD uk.toNat ua).nodes (al.getD uk.toNat ua).places uo.toNat (((al.getD uk.toNat ua).places.getD uo.toNat ua).cell,((al.getD uk.toNat ua).places.getD uo.toNat ua).n)).getD i 0)=(atM (gs.getD uk.toNat ua).nodes (al.getD uk.toNat ua).places uo.toNat (((al.getD uk.toNat ua).places.getD uo.toNat ua).cell,((al.getD uk.toNat ua).places.getD uo.toNat ua).n)).snd i] W23
        refine tz [86,80,17,18,69,68,67,16,15,14,53,52,51,11,5,4,1] ?_
        refine RunF.ment (vc:=[]) (vc2:=(zan al uk uo)) 13 K trivial K W8 (fun _=>by kernel_rfl) (fun st13=>?_)
        refine RunF.hereJ (vc:=(zac gs uk al uo st13)) K K W8 ?_
        refine Q0f 17 ((i64T uo)) ?_ (vc:=[uo=uo]) (hv:=(by simp only [Conj]))
        refine RunF.mclose 13 17 (T:=MT.mk jb 163 74 49 [CK.b,CK.i ja] true [] false) (ty:=3) (sz:=1) (n:=2 * uo.toNat+1+1) (m:=(atM (gs.getD uk.toNat ua).nodes (al.getD uk.toNat ua).places uo.toNat (((al.getD uk.toNat ua).places.getD uo.toNat ua).cell,((al.getD uk.toNat ua).places.getD uo.toNat ua).n)).fst+1) (f:=atM (gs.getD uk.toNat ua).nodes (al.getD uk.toNat ua).places uo.toNat) (x:=(((al.getD uk.toNat ua).places.getD uo.toNat ua).cell,((al.getD uk.toNat ua).places.getD uo.toNat ua).n)) (g:=fun i=>if i=(atM (gs.getD uk.toNat ua).nodes (al.getD uk.toNat ua).places uo.toNat (((al.getD uk.toNat ua).places.getD uo.toNat ua).cell,((al.getD uk.toNat ua).places.getD uo.toNat ua).n)).fst then i64T uo else (atM (gs.getD uk.toNat ua).nodes (al.getD uk.toNat ua).places uo.toNat (((al.getD uk.toNat ua).places.getD uo.toNat ua).cell,((al.getD uk.toNat ua).places.getD uo.toNat ua).n)).snd i) K K K ?_
        exact Q4 (ve sh lk gs al um uq uk uy uO uU uz) (uo,uW) ((uo+(1:Int),!(atL (gs.getD uk.toNat ua).nodes (al.getD uk.toNat ua).places uo.toNat (((al.getD uk.toNat ua).places.getD uo.toNat ua).cell,((al.getD uk.toNat ua).places.getD uo.toNat ua).n)).any fun k=>clF (gs.getD uk.toNat ua).nodes uU uo k)) W186 W19 [] [32,37] [MrEq (MT.mk jb 163 74 49 [CK.b,CK.i ja] true [] false) 3 1 (2 * (uo+(1:Int)).toNat) (atM (gs.getD uk.toNat ua).nodes (al.getD uk.toNat ua).places (uo+(1:Int)).toNat) (MT.mk jb 163 74 49 [CK.b,CK.i ja] true [] false) 3 1 (2 * uo.toNat+1+1) fun (p:Bool×Int)=>if p=(((al.getD uk.toNat ua).places.getD uo.toNat ua).cell,((al.getD uk.toNat ua).places.getD uo.toNat ua).n) then ((atM (gs.getD uk.toNat ua).nodes (al.getD uk.toNat ua).places uo.toNat (((al.getD uk.toNat ua).places.getD uo.toNat ua).cell,((al.getD uk.toNat ua).places.getD uo.toNat ua).n)).fst+1,fun i=>if i=(atM (gs.getD uk.toNat ua).nodes (al.getD uk.toNat ua).places uo.toNat (((al.getD uk.toNat ua).places.getD uo.toNat ua).cell,((al.getD uk.toNat ua).places.getD uo.toNat ua).n)).fst then i64T uo else (atM (gs.getD uk.toNat ua).nodes (al.getD uk.toNat ua).places uo.toNat (((al.getD uk.toNat ua).places.getD uo.toNat ua).cell,((al.getD uk.toNat ua).places.getD uo.toNat ua).n)).snd i) else atM (gs.getD uk.toNat ua).nodes (al.getD uk.toNat ua).places uo.toNat p,(!(atL (gs.getD uk.toNat ua).nodes (al.getD uk.toNat ua).places uo.toNat (((al.getD uk.toNat ua).places.getD uo.toNat ua).cell,((al.getD uk.toNat ua).places.getD uo.toNat ua).n)).any fun k=>clF (gs.getD uk.toNat ua).nodes uU uo k)=!(atL (gs.getD uk.toNat ua).nodes (al.getD uk.toNat ua).places uo.toNat (((al.getD uk.toNat ua).places.getD uo.toNat ua).cell,((al.getD uk.toNat ua).places.getD uo.toNat ua).n)).any fun k=>clF (gs.getD uk.toNat ua).nodes uU uo k] W23
       ·refine tz [85,82,81,80,17,18,69,68,67,16,15,14,53,52,51,11,5,4,1] ?_
        refine RunF.ment (vc:=[]) (vc2:=(zan al uk uo)) 13 K trivial K W8 (fun _=>by kernel_rfl) (fun st13=>?_)
        refine RunF.hereJ (vc:=(zac gs uk al uo st13)) K K W8 ?_
        refine Q0f 17 ((i64T uo)) ?_ (vc:=[uo=uo]) (hv:=(by simp only [Conj]))
        refine RunF.mclose 13 17 (T:=MT.mk jb 163 74 49 [CK.b,CK.i ja] true [] false) (ty:=3) (sz:=1) (n:=2 * uo.toNat+1+1) (m:=(atM (gs.getD uk.toNat ua).nodes (al.getD uk.toNat ua).places uo.toNat (((al.getD uk.toNat ua).places.getD uo.toNat ua).cell,((al.getD uk.toNat ua).places.getD uo.toNat ua).n)).fst+1) (f:=atM (gs.getD uk.toNat ua).nodes (al.getD uk.toNat ua).places uo.toNat) (x:=(((al.getD uk.toNat ua).places.getD uo.toNat ua).cell,((al.getD uk.toNat ua).places.getD uo.toNat ua).n)) (g:=fun i=>if i=(atM (gs.getD uk.toNat ua).nodes (al.getD uk.toNat ua).places uo.toNat (((al.getD uk.toNat ua).places.getD uo.toNat ua).cell,((al.getD uk.toNat ua).places.getD uo.toNat ua).n)).fst then i64T uo else (atM (gs.getD uk.toNat ua).nodes (al.getD uk.toNat ua).places uo.toNat (((al.getD uk.toNat ua).places.getD uo.toNat ua).cell,((al.getD uk.toNat ua).places.getD uo.toNat ua).n)).snd i) K K K ?_
        exact Q4 (ve sh lk gs al um uq uk uy uO uU uz) (uo,uW) ((uo+(1:Int),false)) W186 W19 [] [32] [MrEq (MT.mk jb 163 74 49 [CK.b,CK.i ja] true [] false) 3 1 (2 * (uo+(1:Int)).toNat) (atM (gs.getD uk.toNat ua).nodes (al.getD uk.toNat ua).places (uo+(1:Int)).toNat) (MT.mk jb 163 74 49 [CK.b,CK.i ja] true [] false) 3 1 (2 * uo.toNat+1+1) fun (p:Bool×Int)=>if p=(((al.getD uk.toNat ua).places.getD uo.toNat ua).cell,((al.getD uk.toNat ua).places.getD uo.toNat ua).n) then ((atM (gs.getD uk.toNat ua).nodes (al.getD uk.toNat ua).places uo.toNat (((al.getD uk.toNat ua).places.getD uo.toNat ua).cell,((al.getD uk.toNat ua).places.getD uo.toNat ua).n)).fst+1,fun i=>if i=(atM (gs.getD uk.toNat ua).nodes (al.getD uk.toNat ua).places uo.toNat (((al.getD uk.toNat ua).places.getD uo.toNat ua).cell,((al.getD uk.toNat ua).places.getD uo.toNat ua).n)).fst then i64T uo else (atM (gs.getD uk.toNat ua).nodes (al.getD uk.toNat ua).places uo.toNat (((al.getD uk.toNat ua).places.getD uo.toNat ua).cell,((al.getD uk.toNat ua).places.getD uo.toNat ua).n)).snd i) else atM (gs.getD uk.toNat ua).nodes (al.getD uk.toNat ua).places uo.toNat p] W23
     ·exact Q4 (wa sh lk gs al um uq) (uk,uy) ((uk+(1:Int),uW)) (by dsimp only [wa];have q:=ub h6;have z:=hJ5.1;omega) (by have q:=ub h6;have z:=hJ5.1;have w:=hJ9.1;have w2:=uc h10;refine ⟨by omega,by omega,?_⟩;show uW=_;rw [show (uk+1).toNat=uk.toNat+1 by omega,Qj7,hJ9.2.2,show uo.toNat=(al.getD uk.toNat ua).places.length by (have w3:=hJ9.2.1;omega)]) (vc:=(zF uk)) (hv:=W8)
    ·exact Q2 [] [0,1] [(rgtU sh lk gs al).fst=uy,(rgtU sh lk gs al).snd=(0:Int)] W85
end Go.Proofs.YtnddggenhefaeaaGreatDoor
end
namespace Go.Tx
open Go Go.RowKit
def tabrowSt (st:St) (r n:Nat) (f:Nat→Nat→TC):St:={ st with rg:=st.rg.set r (.row 1 n f none) }
section
variable {P:Program} [hw:Wide P] {fn:Func} {n0:Nat} {U:Tgt} {c:Cfg}
theorem RunF.tabrow (r t:Nat) {n:Nat} {g f:Nat→Nat→TC} {X:Ext} (hr:nth c.st.rg r=some (.row 1 n g none)) (ht:nth c.st.rg t=some (.froz X)) (hsc:c.st.scp=true)
 (h:∀ i,i<n→∃ y ty m h,g i 0=.val y∧f i 0=.sub ty 1 m h∧X.Tab y 1 m h) (next:RunF P fn n0 U ⟨c.k,tabrowSt c.st r n f⟩):RunF P fn n0 U c:=by
 unfold RunF at next ⊢
 intro b hb a w ⟨ε,hs⟩
 have hrr:=Qb hr
 have htt:=Qb ht
 have hfz:∀ b,X.ro b→ε.fp t b∧b<w.heap.size∧w.heap[b]?=X.w0.heap[b]?:=Qe hs ht
 have hlen:=hs.regs.len
 have hrl:r<c.st.rg.length:=(List.getElem?_eq_some_iff.1 hrr).1
 have hrow:RdRow w (ε.fp r) (ε.at_ r) 1 n (okR ε w (ε.fp r) g none):=(hs.regs.reg r _ hrr).1
 generalize hx0:(⟨ε.at_ r,fun k=>ε.fp r k∨ε.fp t k⟩:Ent)=x0
 have e1:∀ i,i≠r→Env.ent (ε.set r x0) i=ε.ent i:=fun i hne=>by
  unfold Env.ent
  rw [jc,jc,jE (Ne.symm hne)]
 have e2:Env.ent (ε.set r x0) r=x0:=Zh W198
 have hat:∀ i,i<c.st.rg.length→Env.at_ (ε.set r x0) i=ε.at_ i:=fun i _=>by
  by_cases hir:i=r
  ·subst hir;unfold Env.at_;rw [e2,← hx0];rfl
  ·unfold Env.at_;rw [e1 i hir]
 have hscr:c.st.rg.all (Reg.scp c.st.rg.length)=true:=(Qh hsc).2
 have cls:∀ (i:Nat) (s:Reg),(c.st.rg.set r (.row 1 n f none))[i]?=some s→(i=r∧s=.row 1 n f none)∨(i≠r∧c.st.rg[i]?=some s):=fun i s hi=>by
  by_cases hir:i=r
  ·subst hir;rw [jG hrl] at hi;cases hi;exact .inl ⟨rfl,rfl⟩
  ·rw [jE (Ne.symm hir)] at hi;exact .inr ⟨hir,hi⟩
 refine next b hb a w ⟨ε.set r x0,Jx hs hsc ⟨by simpa using hlen,fun i s hi=>?_,fun i s hi hl k hk=>?_,fun i s hi he k hk=>?_,fun i j ri rj hij hi hj he hl k hk1 hk2=>?_⟩ hat (by simp [hlen])⟩
 ·rcases cls i s hi with ⟨rfl,rfl⟩ | ⟨hne,hi⟩
  ·rw [e2,← hx0]
   refine ⟨?_,trivial⟩
   obtain ⟨A,cp,h0,h1,h2,h3,h4⟩:=hrow
   refine ⟨A,cp,h0,h1,h2,fun ad ha hp=>⟨(h3 ad ha hp).1,.inl (h3 ad ha hp).2⟩,fun hp=>?_⟩
   obtain ⟨ad,ha,h5⟩:=h4 hp
   refine ⟨ad,ha,fun i' j' hi' hj'=>?_⟩
   obtain ⟨u,k1,k2⟩:=h5 i' j' hi' hj'
   obtain rfl:j'=0:=by omega
   obtain ⟨y,ty,m,hh,g1,g2,g3⟩:=h i' hi'
   refine ⟨u,k1,?_⟩
   have k2:RdC w (ε.fp i) (g i' 0) u:=k2
   rw [g1] at k2
   have k2:u=y:=k2
   subst k2
   show RdC w _ (f i' 0) u
   rw [g2]
   exact Ext.Tab.keep (fun b hb=>⟨.inr (hfz b hb).1,(hfz b hb).2⟩) g3
  ·rw [e1 i hne]
   exact (hs.regs.reg i s hi).same (List.all_eq_true.1 hscr s (jq hi)) hat
 ·rcases cls i s hi with ⟨rfl,rfl⟩ | ⟨hne,hi⟩
  ·unfold Env.fp at hk;rw [e2,← hx0] at hk
   rcases hk with hk | hk
   ·exact hs.regs.lt i _ hrr rfl k hk
   ·exact hs.regs.lt t _ htt rfl k hk
  ·unfold Env.fp at hk;rw [e1 i hne] at hk
   exact hs.regs.lt i s hi hl k hk
 ·rcases cls i s hi with ⟨rfl,rfl⟩ | ⟨hne,hi⟩
  ·cases he
  ·unfold Env.fp at hk;rw [e1 i hne] at hk
   exact hs.regs.lim i s hi he k hk
 ·rcases cls i ri hi with ⟨rfl,rfl⟩ | ⟨hne,hi'⟩
  ·cases he
  ·unfold Env.fp at hk1;rw [e1 i hne] at hk1
   rcases cls j rj hj with ⟨hjr,rfl⟩ | ⟨hne2,hj⟩
   ·subst hjr
    clear cls
    unfold Env.fp at hk2;rw [e2,← hx0] at hk2
    rcases hk2 with hk2 | hk2
    ·exact hs.regs.sep i j ri _ hij hi' hrr he rfl k hk1 hk2
    ·by_cases hit:i=t
     ·subst hit;rw [htt] at hi';cases hi';cases he
     ·exact hs.regs.sep i t ri _ hit hi' htt he rfl k hk1 hk2
   ·unfold Env.fp at hk2;rw [e1 j hne2] at hk2
    exact hs.regs.sep i j ri rj hij hi' hj he hl k hk1 hk2
end
end Go.Tx
noncomputable section
namespace Go.Proofs.YtnddggenhefaeaaGreatDoor
open Go Go.Tx Go.RowKit
def TabX (X:Ext):Prop:=X.ro 0∧∀ i:Nat,i<32→∃ k:Int,0≤k∧k≤255∧X.w0.cell? ⟨0,i,none⟩=some (.int .u8 k)
theorem Qnc (x:Int) (hx:0≤x∧x<4294967296) (w:World) (hT:∀ i:Nat,i<32→∃ k:Int,0≤k∧k≤255∧w.cell? ⟨0,i,none⟩=some (.int .u8 k)) :
 Calls jb 169 #[.int .u32 x] w fun e w'=>∃ k:Int,0≤k∧k≤255∧e=.returned (.int .i64 k)∧w'=w:=by
 obtain ⟨idx,key,hi⟩:∃ idx:Nat,bits km jv x (-x % 4294967296) * 125613361 % 4294967296 / 134217728=(idx:Int)∧idx<32:=
  ⟨(bits km jv x (-x % 4294967296) * 125613361 % 4294967296 / 134217728).toNat,by omega,by omega⟩
 obtain ⟨k,hk0,hk1,hcell⟩:=hT idx hi
 by_cases hx0:x=0
 ·subst hx0
  go_enter Tryz.func169,Tryz.ntmps169
  go_wp2
  go_ret
  exact ⟨32,by decide,by decide,rfl,rfl⟩
 ·have hx1:(x==0)=false:=by simpa using hx0
  go_enter Tryz.func169,Tryz.ntmps169
  go_wp2_with (simp only [key])
  go_ret
  exact ⟨k,hk0,hk1,rfl,rfl⟩
theorem Qph {X:Ext} (hX:TabX X) (x:Int) (hx:0≤x∧x<4294967296):Ctr jb 169 [.froz X] [.c (.i .u32 x)] (DetE (fun k:Int=>0≤k∧k≤255) (fun k=>zc8 k) (fun _=>[.dead])):=by
 intro ε w hreg
 have hfz:∀ b,X.ro b→(ε.ent 0).fp b∧b<w.heap.size∧w.heap[b]?=X.w0.heap[b]?:=hreg.reg 0 _ rfl
 have h0:=hfz 0 hX.1
 have hT:∀ i:Nat,i<32→∃ k:Int,0≤k∧k≤255∧w.cell? ⟨0,i,none⟩=some (.int .u8 k):=fun i hi=>by
  obtain ⟨k,a,b,c⟩:=hX.2 i hi
  exact ⟨k,a,b,by rw [World.cell?_of_block (w:=X.w0)];exact c;exact h0.2.2⟩
 refine (Qnc x hx w hT).mono fun e w' ⟨k,k0,k1,he,hw⟩=>?_
 subst he;subst hw
 refine ⟨zc8 k,[.dead],ε,⟨k,⟨k0,k1⟩,rfl,rfl⟩,rfl,List.prefix_refl _,⟨hreg.len,fun i r hi=>?_,fun i r hi hl=>?_,fun i r hi he=>?_,fun i j ri rj hij hi hj he=>?_⟩,Fr.refl _ _⟩
 all_goals rcases i with _ | i
 all_goals first | (cases hi;first | trivial | cases hl | cases he) | (simp at hi;done)
theorem Qcm:MT.Ok (MT.mk jb 141 3 4 [CK.i ja] false [CK.b] false):=MT.ok_int K K (.inr rfl) (fun w=>by kernel_rfl)
def C71 (g:Grf) (ud:Int) (ui:Int) (uf:Ext) (uj:List Hdl) (uw:Nat) (ul:Int→Option Bool) (uh:List Int) (nw:List Int):St:=zbd ud ui g uf uj uw ul uh nw
def C71_J (g:Grf) (ud:Int) (ui:Int) (uf:Ext) (uj:List Hdl) (uw:Nat) (ul:Int→Option Bool) (uh:List Int) (nw:List Int):Prop:=nowH (g.nodes.getD (uh.getD ud.toNat 0).toNat ua) (rd uf (je (uj.getD (uh.getD ud.toNat 0).toNat ua).a (uj.getD (uh.getD ud.toNat 0).toNat ua).n (uj.getD (uh.getD ud.toNat 0).toNat ua).c))=some nw
abbrev zbJ (y0:Int × Int × Ext × List Hdl × Nat × (Int → Option Bool) × List Int):Reg:=Reg.mp (MT.mk jb 141 3 4 [CK.i ja] false [CK.b] false) (y0.2.2.2.2.1) (fun a=>(y0.2.2.2.2.2.1 a).isSome) (fun a=>(y0.2.2.2.2.2.1 a).getD (false)) none
def wb (g:Grf) (X0:Ext):Lp (Int×Int×Ext×List Hdl×Nat×(Int→Option (Bool))×List Int):=⟨fun x=>{ N:=109,fr:=[se 7 (C.i .i64 x.1),se 6 (C.h 5),se 5 (C.h 4),se 4 (C.h 3),se 3 (C.i .i64 x.2.1),zL,zb8],rg:=[rowOf 13 (·.tc) g.nodes,Reg.froz (x.2.2.1),ze g,Hdl.ownR (x.2.2.2.1),zbJ x,IntOwn (x.2.2.2.2.2.2)],wr:=[] },fun x=>HJt g.nodes x.1 x.2.2.1 x.2.2.2.1 x.2.2.2.2.1 x.2.2.2.2.2.1 x.2.2.2.2.2.2,fun x=>(g.nodes.length+1-x.1.toNat)⟩
def vw (g:Grf) (ud:Int) (ui:Int) (uf:Ext) (uj:List Hdl) (uw:Nat) (ul:Int→Option Bool) (uh:List Int) (nw:List Int):Lp (Int×Int×Ext×List Hdl×Nat×(Int→Option (Bool))×List Int):=⟨fun x=>{ N:=109,fr:=[se 80 (C.i .i64 x.1),{ slot:=79,g:=[],sv:=SV.c (C.i .i64 (↑(flwL (g.nodes.getD (uh.getD ud.toNat 0).toNat ua)).length:Int)) },se 78 (C.h 9),se 10 (C.h 7),zbA ud,se 6 (C.h 5),se 5 (C.h 4),se 4 (C.h 3),se 3 (C.i .i64 x.2.1),zL,zb8],rg:=[rowOf 13 (·.tc) g.nodes,Reg.froz (x.2.2.1),ze g,Hdl.ownR (x.2.2.2.1),zbJ x,IntOwn (x.2.2.2.2.2.2),zc g uh ud,IntRow nw,Reg.dead,IntOwn (flwL (g.nodes.getD (uh.getD ud.toNat 0).toNat ua))],wr:=[] },fun x=>HKt g.nodes ud (g.nodes.getD (uh.getD ud.toNat 0).toNat ua) nw x.1 x.2.2.1 x.2.2.2.1 x.2.2.2.2.1 x.2.2.2.2.2.1 x.2.2.2.2.2.2,fun x=>((flwL (g.nodes.getD (uh.getD ud.toNat 0).toNat ua)).length-x.1).toNat⟩
abbrev zaI (y0 y1:Int):List En:=[se 10 (C.h 10),se 9 (C.p 6 0),zbA y0,se 6 (C.h 5),se 5 (C.h 4),se 4 (C.h 3),zcg y1,zL,zb8]
abbrev zce (y0:Grf) (y1:List Iln):Prop:=∀ i:Nat,i<y0.nodes.length→hpos (y1.getD i ua).l∧(y1.getD i ua).l.length≤4096
theorem Qnd (g:Grf) (hq:zG g) (hN:1≤g.nodes.length∧g.nodes.length≤4096) (ht:thQ g.nodes) (hf:heldF g.nodes<0):Ctr jb 48 [zao g] [.agg (g.cs 0)]
 (DetE (fun L:List Iln=>L.length=g.nodes.length∧zce g L) (fun _=>.tup [(false,[.h 1]),(false,[.i .i64 (-1)])]) (fun L=>[.dead,Iln.rowR L])):=by
 refine Ctr.intro [] Tryz.func48 K K ?_
 refine RunF.tabnew K (fun X0=>?_)
 refine tz [0] ?_
 refine Q6 (wb g X0) (((0:Int),(0:Int),X0,jh g.nodes.length Hdl.none,1,fun (q:Int)=>if q=(0:Int) then some true else none,[(0:Int)])) (.start hN.1 X0) ?_ [] [6,7,8,9,10,11] [(jh g.nodes.length Hdl.none).length=g.nodes.length,∀ (i:Nat),i<(jh g.nodes.length Hdl.none).length→((jh g.nodes.length Hdl.none).getD i ua).tc=fun j=>valT (je none 0 0).cells.toList j,MpEq (MT.mk jb 141 3 4 [CK.i ja] false [CK.b] false) 1 (fun (a:Int)=>(if a=(0:Int) then some true else none).isSome) (fun (a:Int)=>(if a=(0:Int) then some true else none).getD false) none (MT.mk jb 141 3 4 [CK.i ja] false [CK.b] false) 1 (fun (q:Int)=>decide (q=(0:Int))||false) (fun (q:Int)=>if q=(0:Int) then true else KA.zero [CK.b]) none,[(0:Int)].length=1,∀ (i:Nat),i < [(0:Int)].length→i≠0→i64T ([(0:Int)].getD i 0)=fun x=>TC.any,i64T (0:Int) 0=TC.val (jg ja (0:Int))] W10 (vc:=(zam g)) (hv:=W17)
 rintro ⟨ud,ui,uf,uj,uw,ul,uh⟩ hJ1
 dsimp only [wb] at hJ1
 refine tz [7,6,5,4,3,2,1] ?_
 refine Q0 (decide (ud<(↑uh.length:Int))) (fun h2=>?_) (fun h2=>?_)
 ·refine RunF.cutn 5 (fun nw=>C71 g ud ui uf uj uw ul uh nw) (fun nw=>C71_J g ud ui uf uj uw ul uh nw) ?_ ?_
  ·refine tz [7,6,5,4,3,2,1] ?_
   refine Q0 (decide ((g.nodes.getD (uh.getD ud.toNat 0).toNat ua).kind=(5:Int))) (fun h3=>?_) (fun h3=>?_) (vc:=(za7 ud uh g uj)) (hv:=W17)
   ·refine RunF.tabout 10 1 (X:=uf) (y:=je (uj.getD (uh.getD ud.toNat 0).toNat ua).a (uj.getD (uh.getD ud.toNat 0).toNat ua).n (uj.getD (uh.getD ud.toNat 0).toNat ua).c) (size:=1) (n:=(rd uf (je (uj.getD (uh.getD ud.toNat 0).toNat ua).a (uj.getD (uh.getD ud.toNat 0).toNat ua).n (uj.getD (uh.getD ud.toNat 0).toNat ua).c)).length) (f:=fun j=>i64T ((rd uf (je (uj.getD (uh.getD ud.toNat 0).toNat ua).a (uj.getD (uh.getD ud.toNat 0).toNat ua).n (uj.getD (uh.getD ud.toNat 0).toNat ua).c)).getD j 0)) K K K (Qx (hJ1.is (ub h2))) ?_
    refine tz [10,9,7,6,5,4,3,2,1] ?_
    refine Jy 2 (fun _:Unit=>St.mk 109 (zaI ud ui) [rowOf 13 (·.tc) g.nodes,Reg.froz uf,ze g,ownOf 49 1 (·.tc) uj,zae uw ul,IntOwn uh,zc g uh ud,Reg.dead,Reg.dead,Reg.dead,zh uf uj uh ud g] []) (fun _=>True) ?_ ?_
    ·refine ⟨⟨trivial,?_⟩,?_⟩
     ·refine Q3 Y2 (Z3 (rd uf (je (uj.getD (uh.getD ud.toNat 0).toNat ua).a (uj.getD (uh.getD ud.toNat 0).toNat ua).n (uj.getD (uh.getD ud.toNat 0).toNat ua).c)) W56) [7] ?_
      exact tTo (fun x=>St.mk 109 (zaI ud ui) [rowOf 13 (·.tc) g.nodes,Reg.froz uf,ze g,ownOf 49 1 (·.tc) uj,zae uw ul,IntOwn uh,zc g uh ud,Reg.dead,Reg.dead,Reg.dead,zh uf uj uh ud g] []) (fun x=>True) () trivial [] [8] (zk uw ul) W10 (vc:=(zK uf uj uh ud)) (hv:=W17)
     ·refine Q3 Y2 (Z3 (rd uf (je (uj.getD (uh.getD ud.toNat 0).toNat ua).a (uj.getD (uh.getD ud.toNat 0).toNat ua).n (uj.getD (uh.getD ud.toNat 0).toNat ua).c)) W56) [7] ?_
      exact tTo (fun x=>St.mk 109 (zaI ud ui) [rowOf 13 (·.tc) g.nodes,Reg.froz uf,ze g,ownOf 49 1 (·.tc) uj,zae uw ul,IntOwn uh,zc g uh ud,Reg.dead,Reg.dead,Reg.dead,zh uf uj uh ud g] []) (fun x=>True) () trivial [] [8] (zk uw ul) W10 (vc:=(zK uf uj uh ud)) (hv:=W17)
    ·rintro ⟨⟩ _
     exact tTo (fun nw=>C71 g ud ui uf uj uw ul uh nw) (fun nw=>C71_J g ud ui uf uj uw ul uh nw) (rd uf (je (uj.getD (uh.getD ud.toNat 0).toNat ua).a (uj.getD (uh.getD ud.toNat 0).toNat ua).n (uj.getD (uh.getD ud.toNat 0).toNat ua).c)++[(g.nodes.getD (uh.getD ud.toNat 0).toNat ua).thing]) W55 [0,1,2,3,4,5,6,10,8] [8,24,25,26] [MpEq (MT.mk jb 141 3 4 [CK.i ja] false [CK.b] false) uw (fun (a:Int)=>(ul a).isSome) (fun (a:Int)=>(ul a).getD false) none (MT.mk jb 141 3 4 [CK.i ja] false [CK.b] false) uw (fun (a:Int)=>(ul a).isSome) (fun (a:Int)=>(ul a).getD false) none,(rd uf (je (uj.getD (uh.getD ud.toNat 0).toNat ua).a (uj.getD (uh.getD ud.toNat 0).toNat ua).n (uj.getD (uh.getD ud.toNat 0).toNat ua).c)++[(g.nodes.getD (uh.getD ud.toNat 0).toNat ua).thing]).length=(rd uf (je (uj.getD (uh.getD ud.toNat 0).toNat ua).a (uj.getD (uh.getD ud.toNat 0).toNat ua).n (uj.getD (uh.getD ud.toNat 0).toNat ua).c)).length+1,∀ (i:Nat),i<(rd uf (je (uj.getD (uh.getD ud.toNat 0).toNat ua).a (uj.getD (uh.getD ud.toNat 0).toNat ua).n (uj.getD (uh.getD ud.toNat 0).toNat ua).c)++[(g.nodes.getD (uh.getD ud.toNat 0).toNat ua).thing]).length→i≠(rd uf (je (uj.getD (uh.getD ud.toNat 0).toNat ua).a (uj.getD (uh.getD ud.toNat 0).toNat ua).n (uj.getD (uh.getD ud.toNat 0).toNat ua).c)).length→i64T ((rd uf (je (uj.getD (uh.getD ud.toNat 0).toNat ua).a (uj.getD (uh.getD ud.toNat 0).toNat ua).n (uj.getD (uh.getD ud.toNat 0).toNat ua).c)++[(g.nodes.getD (uh.getD ud.toNat 0).toNat ua).thing]).getD i 0)=i64T ((rd uf (je (uj.getD (uh.getD ud.toNat 0).toNat ua).a (uj.getD (uh.getD ud.toNat 0).toNat ua).n (uj.getD (uh.getD ud.toNat 0).toNat ua).c)).getD i 0),i64T ((rd uf (je (uj.getD (uh.getD ud.toNat 0).toNat ua).a (uj.getD (uh.getD ud.toNat 0).toNat ua).n (uj.getD (uh.getD ud.toNat 0).toNat ua).c)++[(g.nodes.getD (uh.getD ud.toNat 0).toNat ua).thing]).getD (rd uf (je (uj.getD (uh.getD ud.toNat 0).toNat ua).a (uj.getD (uh.getD ud.toNat 0).toNat ua).n (uj.getD (uh.getD ud.toNat 0).toNat ua).c)).length (0:Int)) 0=TC.val (jg ja (g.nodes.getD (uh.getD ud.toNat 0).toNat ua).thing)] W10
   ·refine tz [40,10,9,8,7,6,5,4,3,2,1] ?_
    refine Q0 (decide ((g.nodes.getD (uh.getD ud.toNat 0).toNat ua).kind=(6:Int))) (fun h4=>?_) (fun h4=>?_)
    ·refine RunF.tabout 10 1 (X:=uf) (y:=je (uj.getD (uh.getD ud.toNat 0).toNat ua).a (uj.getD (uh.getD ud.toNat 0).toNat ua).n (uj.getD (uh.getD ud.toNat 0).toNat ua).c) (size:=1) (n:=(rd uf (je (uj.getD (uh.getD ud.toNat 0).toNat ua).a (uj.getD (uh.getD ud.toNat 0).toNat ua).n (uj.getD (uh.getD ud.toNat 0).toNat ua).c)).length) (f:=fun j=>i64T ((rd uf (je (uj.getD (uh.getD ud.toNat 0).toNat ua).a (uj.getD (uh.getD ud.toNat 0).toNat ua).n (uj.getD (uh.getD ud.toNat 0).toNat ua).c)).getD j 0)) K K K (Qx (hJ1.is (ub h2))) ?_
     refine tz [10,9,8,7,6,5,4,3,2,1] ?_
     refine Q0 (decide ((↑(rd uf (je (uj.getD (uh.getD ud.toNat 0).toNat ua).a (uj.getD (uh.getD ud.toNat 0).toNat ua).n (uj.getD (uh.getD ud.toNat 0).toNat ua).c)).length:Int)=(0:Int))||!decide ((rd uf (je (uj.getD (uh.getD ud.toNat 0).toNat ua).a (uj.getD (uh.getD ud.toNat 0).toNat ua).n (uj.getD (uh.getD ud.toNat 0).toNat ua).c)).getD ((↑(rd uf (je (uj.getD (uh.getD ud.toNat 0).toNat ua).a (uj.getD (uh.getD ud.toNat 0).toNat ua).n (uj.getD (uh.getD ud.toNat 0).toNat ua).c)).length:Int)-(1:Int)).toNat (0:Int)=(g.nodes.getD (uh.getD ud.toNat 0).toNat ua).thing)) (fun h5=>?_) (fun h5=>?_) (vc:=(zn uf uj uh ud)) (hv:=W17)
     ·exact (show False from by have q:=hJ1.at_ (ub h2);have z:=hJ1.fault (ub h2) (Q7t h3 h4 h5);omega).elim
     ·exact tTo (fun nw=>C71 g ud ui uf uj uw ul uh nw) (fun nw=>C71_J g ud ui uf uj uw ul uh nw) (jR (((↑(rd uf (je (uj.getD (uh.getD ud.toNat 0).toNat ua).a (uj.getD (uh.getD ud.toNat 0).toNat ua).n (uj.getD (uh.getD ud.toNat 0).toNat ua).c)).length:Int)-(1:Int)).toNat-0) (List.drop 0 (rd uf (je (uj.getD (uh.getD ud.toNat 0).toNat ua).a (uj.getD (uh.getD ud.toNat 0).toNat ua).n (uj.getD (uh.getD ud.toNat 0).toNat ua).c)))) W55 [0,1,2,3,4,5,6,8,8] [8,24,25] [MpEq (MT.mk jb 141 3 4 [CK.i ja] false [CK.b] false) uw (fun (a:Int)=>(ul a).isSome) (fun (a:Int)=>(ul a).getD false) none (MT.mk jb 141 3 4 [CK.i ja] false [CK.b] false) uw (fun (a:Int)=>(ul a).isSome) (fun (a:Int)=>(ul a).getD false) none,(jR (((↑(rd uf (je (uj.getD (uh.getD ud.toNat 0).toNat ua).a (uj.getD (uh.getD ud.toNat 0).toNat ua).n (uj.getD (uh.getD ud.toNat 0).toNat ua).c)).length:Int)-(1:Int)).toNat-0) (List.drop 0 (rd uf (je (uj.getD (uh.getD ud.toNat 0).toNat ua).a (uj.getD (uh.getD ud.toNat 0).toNat ua).n (uj.getD (uh.getD ud.toNat 0).toNat ua).c)))).length=((↑(rd uf (je (uj.getD (uh.getD ud.toNat 0).toNat ua).a (uj.getD (uh.getD ud.toNat 0).toNat ua).n (uj.getD (uh.getD ud.toNat 0).toNat ua).c)).length:Int)-(1:Int)).toNat-0,∀ (i:Nat),i<(jR (((↑(rd uf (je (uj.getD (uh.getD ud.toNat 0).toNat ua).a (uj.getD (uh.getD ud.toNat 0).toNat ua).n (uj.getD (uh.getD ud.toNat 0).toNat ua).c)).length:Int)-(1:Int)).toNat-0) (List.drop 0 (rd uf (je (uj.getD (uh.getD ud.toNat 0).toNat ua).a (uj.getD (uh.getD ud.toNat 0).toNat ua).n (uj.getD (uh.getD ud.toNat 0).toNat ua).c)))).length→i64T ((jR (((↑(rd uf (je (uj.getD (uh.getD ud.toNat 0).toNat ua).a (uj.getD (uh.getD ud.toNat 0).toNat ua).n (uj.getD (uh.getD ud.toNat 0).toNat ua).c)).length:Int)-(1:Int)).toNat-0) (List.drop 0 (rd uf (je (uj.getD (uh.getD ud.toNat 0).toNat ua).a (uj.getD (uh.getD ud.toNat 0).toNat ua).n (uj.getD (uh.getD ud.toNat 0).toNat ua).c)))).getD i 0)=i64T ((rd uf (je (uj.getD (uh.getD ud.toNat 0).toNat ua).a (uj.getD (uh.getD ud.toNat 0).toNat ua).n (uj.getD (uh.getD ud.toNat 0).toNat ua).c)).getD (0+i) 0)] W10 (vc:=(zU uf uj uh ud)) (hv:=W17)
    ·refine tz [40,10,9,8,7,6,5,4,3,2,1] ?_
     refine Q0 (decide ((g.nodes.getD (uh.getD ud.toNat 0).toNat ua).kind=(9:Int))) (fun h5=>?_) (fun h5=>?_)
     ·refine RunF.tabout 10 1 (X:=uf) (y:=je (uj.getD (uh.getD ud.toNat 0).toNat ua).a (uj.getD (uh.getD ud.toNat 0).toNat ua).n (uj.getD (uh.getD ud.toNat 0).toNat ua).c) (size:=1) (n:=(rd uf (je (uj.getD (uh.getD ud.toNat 0).toNat ua).a (uj.getD (uh.getD ud.toNat 0).toNat ua).n (uj.getD (uh.getD ud.toNat 0).toNat ua).c)).length) (f:=fun j=>i64T ((rd uf (je (uj.getD (uh.getD ud.toNat 0).toNat ua).a (uj.getD (uh.getD ud.toNat 0).toNat ua).n (uj.getD (uh.getD ud.toNat 0).toNat ua).c)).getD j 0)) K K K (Qx (hJ1.is (ub h2))) ?_
      refine tz [10,9,8,7,6,5,4,3,2,1] ?_
      refine Q0 (decide ((0:Int)<(↑(rd uf (je (uj.getD (uh.getD ud.toNat 0).toNat ua).a (uj.getD (uh.getD ud.toNat 0).toNat ua).n (uj.getD (uh.getD ud.toNat 0).toNat ua).c)).length:Int))) (fun h6=>?_) (fun h6=>?_)
      ·exact (show False from by have q:=hJ1.at_ (ub h2);have z:=hJ1.fault (ub h2) (Q5h h3 h4 h5 h6);omega).elim
      ·exact tTo (fun nw=>C71 g ud ui uf uj uw ul uh nw) (fun nw=>C71_J g ud ui uf uj uw ul uh nw) (rd uf (je (uj.getD (uh.getD ud.toNat 0).toNat ua).a (uj.getD (uh.getD ud.toNat 0).toNat ua).n (uj.getD (uh.getD ud.toNat 0).toNat ua).c)) W55 [0,1,2,3,4,5,6,7,1000008] [8] (zk uw ul) W10
     ·refine RunF.tabout 10 1 (X:=uf) (y:=je (uj.getD (uh.getD ud.toNat 0).toNat ua).a (uj.getD (uh.getD ud.toNat 0).toNat ua).n (uj.getD (uh.getD ud.toNat 0).toNat ua).c) (size:=1) (n:=(rd uf (je (uj.getD (uh.getD ud.toNat 0).toNat ua).a (uj.getD (uh.getD ud.toNat 0).toNat ua).n (uj.getD (uh.getD ud.toNat 0).toNat ua).c)).length) (f:=fun j=>i64T ((rd uf (je (uj.getD (uh.getD ud.toNat 0).toNat ua).a (uj.getD (uh.getD ud.toNat 0).toNat ua).n (uj.getD (uh.getD ud.toNat 0).toNat ua).c)).getD j 0)) K K K (Qx (hJ1.is (ub h2))) ?_
      exact tTo (fun nw=>C71 g ud ui uf uj uw ul uh nw) (fun nw=>C71_J g ud ui uf uj uw ul uh nw) (rd uf (je (uj.getD (uh.getD ud.toNat 0).toNat ua).a (uj.getD (uh.getD ud.toNat 0).toNat ua).n (uj.getD (uh.getD ud.toNat 0).toNat ua).c)) W55 [0,1,2,3,4,5,6,7,1000008] [8] (zk uw ul) W10
  ·intro nw hCC71
   refine tz [10,9,7,6,5,4,3,2,1] ?_
   refine Q3 Ye (Zy (g.nodes.getD (uh.getD ud.toNat 0).toNat ua)) [] ?_
   refine tz [78,10,7,6,5,4,3,2,1] ?_
   refine Q6 (vw g ud ui uf uj uw ul uh nw) (((0:Int),ui,uf,uj,uw,ul,uh)) (hJ1.inner ht (ub h2) hCC71) ?_ [] [8] (zk uw ul) W10
   rintro ⟨ug,um,uq,ux,uE,uF,uJ⟩ hJ3
   dsimp only [vw] at hJ3
   refine tz [80,79,78,10,7,6,5,4,3,2,1] ?_
   refine Q0 (decide (ug<(↑(flwL (g.nodes.getD (uh.getD ud.toNat 0).toNat ua)).length:Int))) (fun h4=>?_) (fun h4=>?_)
   ·refine tz [80,79,78,10,7,6,5,4,3,2,1] ?_
    refine Q0 (!(uF ((flwL (g.nodes.getD (uh.getD ud.toNat 0).toNat ua)).getD ug.toNat 0)).getD false) (fun h5=>?_) (fun h5=>?_) (vc:=(za1 ug g uh ud)) (hv:=W17)
    ·refine tz [12,80,79,78,10,7,6,5,4,3,2,1] ?_
     refine Q3 Y2 (Z3 nw W56) [7] ?_ (vc:=(zb1 g uh ud ug uE)) (hv:=W17)
     refine RunF.tabin 10 1 (ty:=3) (size:=1) (n:=nw.length) (f:=fun i=>i64T (nw.getD i 0)) (X:=uq) K K K (fun X9 A9 c9 hInX9 hTabX9=>?_)
     exact Q4 (vw g ud ui uf uj uw ul uh nw) (ug,um,uq,ux,uE,uF,uJ) ((ug+(1:Int),um,X9,ux.set ((flwL (g.nodes.getD (uh.getD ud.toNat 0).toNat ua)).getD ug.toNat 0).toNat (Hdl.mk A9 nw.length c9),uE+1,fun (q:Int)=>if q=(flwL (g.nodes.getD (uh.getD ud.toNat 0).toNat ua)).getD ug.toNat 0 then some true else uF q,uJ++[(flwL (g.nodes.getD (uh.getD ud.toNat 0).toNat ua)).getD ug.toNat 0])) W203 W96 [0,1,2,3,4,12,6,7,8,9] [6,7,8,9,10,11] [(ux.set ((flwL (g.nodes.getD (uh.getD ud.toNat 0).toNat ua)).getD ug.toNat 0).toNat (Hdl.mk A9 nw.length c9)).length=ux.length,∀ (i:Nat),i<(ux.set ((flwL (g.nodes.getD (uh.getD ud.toNat 0).toNat ua)).getD ug.toNat 0).toNat (Hdl.mk A9 nw.length c9)).length→((ux.set ((flwL (g.nodes.getD (uh.getD ud.toNat 0).toNat ua)).getD ug.toNat 0).toNat (Hdl.mk A9 nw.length c9)).getD i ua).tc=updT (fun i=>(ux.getD i ua).tc) ((flwL (g.nodes.getD (uh.getD ud.toNat 0).toNat ua)).getD ug.toNat 0).toNat 0 [je A9 nw.length c9] i,MpEq (MT.mk jb 141 3 4 [CK.i ja] false [CK.b] false) (uE+1) (fun (a:Int)=>(if a=(flwL (g.nodes.getD (uh.getD ud.toNat 0).toNat ua)).getD ug.toNat 0 then some true else uF a).isSome) (fun (a:Int)=>(if a=(flwL (g.nodes.getD (uh.getD ud.toNat 0).toNat ua)).getD ug.toNat 0 then some true else uF a).getD false) none (MT.mk jb 141 3 4 [CK.i ja] false [CK.b] false) (uE+1) (fun (q:Int)=>decide (q=(flwL (g.nodes.getD (uh.getD ud.toNat 0).toNat ua)).getD ug.toNat 0)||(uF q).isSome) (fun (q:Int)=>if q=(flwL (g.nodes.getD (uh.getD ud.toNat 0).toNat ua)).getD ug.toNat 0 then true else (uF q).getD false) none,(uJ++[(flwL (g.nodes.getD (uh.getD ud.toNat 0).toNat ua)).getD ug.toNat 0]).length=uJ.length+1,∀ (i:Nat),i<(uJ++[(flwL (g.nodes.getD (uh.getD ud.toNat 0).toNat ua)).getD ug.toNat 0]).length→i≠uJ.length→i64T ((uJ++[(flwL (g.nodes.getD (uh.getD ud.toNat 0).toNat ua)).getD ug.toNat 0]).getD i 0)=i64T (uJ.getD i 0),i64T ((uJ++[(flwL (g.nodes.getD (uh.getD ud.toNat 0).toNat ua)).getD ug.toNat 0]).getD uJ.length 0) 0=TC.val (jg ja ((flwL (g.nodes.getD (uh.getD ud.toNat 0).toNat ua)).getD ug.toNat 0))] W10 (vc:=(za2 g uh ud ug ux uJ)) (hv:=W17)
    ·refine tz [12,80,79,78,10,7,6,5,4,3,2,1] ?_
     refine Q3 J0 (Ql6 uq ((ux.getD ((flwL (g.nodes.getD (uh.getD ud.toNat 0).toNat ua)).getD ug.toNat 0).toNat ua).a) ((ux.getD ((flwL (g.nodes.getD (uh.getD ud.toNat 0).toNat ua)).getD ug.toNat 0).toNat ua).n) ((ux.getD ((flwL (g.nodes.getD (uh.getD ud.toNat 0).toNat ua)).getD ug.toNat 0).toNat ua).c) nw W56) [7,1] ?_ (vc:=(zaL g uh ud ug ux)) (hv:=W17)
     refine tz [104,12,80,79,78,10,7,6,5,4,3,2,1] ?_
     refine Q0 (!decide (rd uq (je (ux.getD ((flwL (g.nodes.getD (uh.getD ud.toNat 0).toNat ua)).getD ug.toNat 0).toNat ua).a (ux.getD ((flwL (g.nodes.getD (uh.getD ud.toNat 0).toNat ua)).getD ug.toNat 0).toNat ua).n (ux.getD ((flwL (g.nodes.getD (uh.getD ud.toNat 0).toNat ua)).getD ug.toNat 0).toNat ua).c)=nw)) (fun h6=>?_) (fun h6=>?_)
     ·exact (show False from by have q:=hJ3.to_ (ub h4) (hq _ W216);have z:=hJ3.fault (ub h4) (hq _ W216) h5 h6;omega).elim
     ·exact Q4 (vw g ud ui uf uj uw ul uh nw) (ug,um,uq,ux,uE,uF,uJ) ((ug+(1:Int),um,uq,ux,uE,uF,uJ)) W203 W96 [] [8] (zk uE uF) W10 (vc:=(zF ug)) (hv:=W17)
   ·exact Q4 (wb g X0) (ud,ui,uf,uj,uw,ul,uh) ((ud+(1:Int),um,uq,ux,uE,uF,uJ)) (by dsimp only [wb];exact W240) (hJ3.done (uc h4)) [] [8] (zk uE uF) W10 (vc:=(zF ud)) (hv:=W17)
 ·refine tWk (St.mk 109 [se 23 (C.t false),se 22 (C.i .i64 (↑uh.length:Int)),se 21 (C.h 5),se 20 (C.i .i64 ud),zbA ud,se 6 (C.h 5),se 5 (C.h 4),se 4 (C.h 3),zcg ui,zL,zb8] [rowOf 13 (·.tc) g.nodes,Reg.froz uf,ze g,rowOf 1 (·.tc) uj,zae uw ul,IntOwn uh] []) ?_ [] [8] (zk uw ul) W10
  refine RunF.tabrow 3 1 (n:=uj.length) (g:=fun i=>(uj.getD i ua).tc) (f:=fun i=>(Iln.mk (rd uf (uj.getD i ua).v)).tc) (X:=uf) K K K (fun i hi=>⟨_,_,_,_,rfl,rfl,Qx (Q29 hJ1.all hi)⟩) ?_
  exact Q2 [0,3] [0,1] [(List.map (fun v=>Iln.mk (rd uf v.v)) uj).length=uj.length,∀ (i:Nat),i<(List.map (fun v=>Iln.mk (rd uf v.v)) uj).length→((List.map (fun v=>Iln.mk (rd uf v.v)) uj).getD i ua).tc=(Iln.mk (rd uf (uj.getD i ua).v)).tc] (by simp only [Conj];(repeat' apply jl)<;>first | exact jP _ | exact Qlr _ _) (res:=_) (post:=_) (hS:=⟨(uj.map fun v=>Iln.mk (rd uf v.v)),(hJ1.fin hN.2),rfl,rfl⟩)
def wc (X:Ext) (l:Int):Lp (List Int×Int):=⟨fun x=>{ N:=16,fr:=[se 3 (C.h 1),zL,se 0 (C.i .u32 x.2)],rg:=[Reg.froz X]++[IntOwn x.1],wr:=[] },fun x=>LsJ l x,fun x=>x.2.toNat⟩
abbrev zaf (y0:List Int) (y1:Int):List Prop:=[(y0++[y1]).length=y0.length+1,∀ (i:Nat),i<(y0++[y1]).length→i≠y0.length→i64T ((y0++[y1]).getD i 0)=i64T (y0.getD i 0),i64T ((y0++[y1]).getD y0.length 0) 0=TC.val (jg ja y1)]
theorem Qhg (X:Ext) (hX:TabX X) (l:Int) (hl:0≤l∧l<4294967296):Ctr jb 163 [.froz X] [.c (.i .u32 l)]
 (DetE (fun o:List Int=>lsQ l o) (fun _=>.c (.h 1)) (fun o=>[.dead,IntOwn o])):=by
 refine Ctr.intro [] Tryz.func163 K K ?_
 refine Q6 (wc X l) (([],l)) (LsJ.start hl) ?_ [0,1000001] [1] [(0:Nat)=0] W20
 rintro ⟨ud,ui⟩ hJ1
 dsimp only [wc] at hJ1
 refine tz [3,2,0] ?_
 refine Q0 (!decide (ui=(0:Int))) (fun h2=>?_) (fun h2=>?_)
 ·refine tz [3,2,0] ?_
  refine Qk J3 (Qph (X:=X) (hX:=by first | assumption | exact hJ1.lo | omega) (x:=ui) (hx:=by first | assumption | exact hJ1.lo | omega)) [] ?_
  rintro ug hY3
  try dsimp only at hY3
  exact Q4 (wc X l) (ud,ui) ((ud++[ug],bits km jv ui (ui-(1:Int)))) (by dsimp only [wc];exact (hJ1.next h2 hY3).2) ((hJ1.next h2 hY3).1) [0,3] [1,2,3] (zaf ud ug) W20 (vc:=[ud.length+1≤maxLen,(ud.length+1) * 8≤140737488355328,Fits jv (ui-(1:Int))]) (hv:=(by simp only [Conj,Fits,Q7,Qcv,Qcw,Q8,Q9,Qa,News.len,maxLen]<;>(repeat' apply jl)<;>(have q:ui≠0:=(by simpa using h2);have z:=hJ1.lo;have z1:=hJ1.sum;(try dsimp only at z z1);exact W226)))
 ·exact Q2 (res:=_) (post:=_) (hS:=⟨ud,(hJ1.done h2),rfl,rfl⟩)
theorem Qpi (g:Grf) (hq:zG g) (hN:1≤g.nodes.length∧g.nodes.length≤4096) (hk:zW g) (ht:thQ g.nodes) (hf:heldF g.nodes<0):Ctr jb 171 [zao g] [.agg (g.cs 0)]
 (DetE (fun L:List Iln=>L.length=g.nodes.length∧zce g L) (fun _=>.tup [(false,[.h 1]),(false,[.b true])]) (fun L=>[.dead,Iln.rowR L])):=by
 refine Ctr.intro [] Tryz.func171 K K ?_
 refine Q3 Gt (Q4b g W37 W37 W37) [] ?_
 refine tz [7,3,2,1] ?_
 refine Q0 (!true) (fun h1=>?_) (fun h1=>?_)
 ·exact absurd h1 W81
 ·refine tz [3,2,1] ?_
  refine Qk Q6l (Qnd g W37 W37 W37 W37) [] ?_
  rintro ue hY2
  try dsimp only at hY2
  exact Q2 [0,2] (res:=_) (post:=_) (hS:=⟨ue,hY2,rfl,rfl⟩)
theorem Qne (X:Ext) (hX:TabX X) (th gu:Int) (hl:0≤th∧th<4294967296) (hm:0≤gu∧gu<4294967296):Ctr jb 155 [.froz X] [.agg [.i .u32 th,.i .u32 gu]]
 (DetE (fun y:Int×Int×Int=>True) (fun y=>.agg [.i .u8 y.1,.i .i64 y.2.1,.i .i64 y.2.2]) (fun y=>[.dead])):=by
 refine Ctr.intro [] Tryz.func155 K K ?_
 refine Q0 (decide (th=(0:Int))) (fun h1=>?_) (fun h1=>?_)
 ·exact Q2 (res:=_) (post:=_) (hS:=⟨((0:Int),(0:Int),(0:Int)),trivial,rfl,rfl⟩)
 ·refine tz [2,1] ?_
  refine Q0 (decide (bits km jv th (th-(1:Int))=(0:Int))) (fun h2=>?_) (fun h2=>?_) (vc:=[Fits jv (th-(1:Int))]) (hv:=W118)
  ·refine tz [2,1] ?_
   refine Qk G6 (Qhg X W37 th W37) [] ?_
   rintro ug hY3
   try dsimp only at hY3
   exact Q2 (vc:=(zbg ug)) (hv:=W118) (res:=_) (post:=_) (hS:=⟨((1:Int),ug.getD 0 0,(0:Int)),trivial,rfl,rfl⟩)
  ·refine tz [2,1] ?_
   refine Q0 (!decide (gu=(0:Int))) (fun h3=>?_) (fun h3=>?_)
   ·refine tz [2,1] ?_
    refine Qk G6 (Qhg X W37 gu W37) [] ?_
    rintro ur hY4
    try dsimp only at hY4
    exact Q2 (vc:=(zbg ur)) (hv:=W118) (res:=_) (post:=_) (hS:=⟨((2:Int),(0:Int),ur.getD 0 0),trivial,rfl,rfl⟩)
   ·exact Q2 (res:=_) (post:=_) (hS:=⟨((3:Int),(0:Int),(0:Int)),trivial,rfl,rfl⟩)
abbrev zY:Reg:=Reg.box 240 [C.v (je none 0 0),C.v (je none 0 0)]
abbrev zaO:Reg:=Reg.box 240 [C.h 4,C.h 5]
abbrev zbh:En:=se 2 (C.p 2 0)
def wd (g:Grf) (ud:List Iln):Lp (Int×List Lz):=⟨fun x=>{ N:=47,fr:=[se 24 (C.i .i64 x.1),se 23 (C.i .i64 (↑ud.length:Int)),se 22 (C.h 6),zbh,zbo],rg:=[rowOf 13 (·.tc) g.nodes,ze g,zY,zaO,ownOf 4 1 (·.tc) (rchL g.nodes),Lz.ownR (x.2),rowOf 1 (·.tc) ud],wr:=[] },fun x=>0≤x.1∧x.2.length=g.nodes.length∧LzQ x.2,fun x=>((ud.length:Int)-x.1).toNat⟩
def we (g:Grf) (ud:List Iln) (ue:Int) (un:List Lz):Lp (Int×List Lz):=⟨fun x=>{ N:=47,fr:=[se 31 (C.i .i64 x.1),se 30 (C.i .i64 (↑(ud.getD ue.toNat ua).l.length:Int)),se 29 (C.h 7),se 6 (C.i .i64 ue),se 24 (C.i .i64 ue),se 23 (C.i .i64 (↑ud.length:Int)),se 22 (C.h 6),zbh,zbo],rg:=[rowOf 13 (·.tc) g.nodes,ze g,zY,zaO,ownOf 4 1 (·.tc) (rchL g.nodes),Lz.ownR (x.2),Reg.row 1 ud.length (fun i=>(ud.getD i ua).tc) (some (ue.toNat,[C.h 7])),Reg.row 1 (ud.getD ue.toNat ua).l.length (fun i=>i64T ((ud.getD ue.toNat ua).l.getD i 0)) none],wr:=[] },fun x=>0≤x.1∧x.2.length=g.nodes.length∧LzQ x.2,fun x=>(((ud.getD ue.toNat ua).l.length:Int)-x.1).toNat⟩
abbrev zN (y0:Grf):List Prop:=[(0:Int)≤(↑y0.nodes.length:Int),(↑y0.nodes.length:Int)≤(↑y0.nodes.length:Int),(↑y0.nodes.length:Int) * (4:Int)≤(140737488355328:Int),(↑y0.nodes.length:Int)≤(↑maxLen:Int),(0:Int)≤(↑y0.nodes.length:Int),(↑y0.nodes.length:Int)≤(↑y0.nodes.length:Int),(↑y0.nodes.length:Int) * (4:Int)≤(140737488355328:Int),(↑y0.nodes.length:Int)≤(↑maxLen:Int)]
abbrev zV (y0:Grf):List Prop:=[∀ (i:Nat),i<y0.nodes.length→(fun j=>valT (jg jv (0:Int)).cells.toList j)=fun j=>valT (jg jv (0:Int)).cells.toList j]
abbrev zX (y0:Grf):Reg:=Reg.own 215 1 y0.nodes.length (fun x j=>valT (jg jv (0:Int)).cells.toList j) none
theorem Qka (g:Grf) (hq:zG g) (hN:1≤g.nodes.length∧g.nodes.length≤4096) (hk:zW g) (ht:thQ g.nodes) (hf:heldF g.nodes<0):Ctr jb 170 [zao g] [.agg (g.cs 0)]
 (DetE (fun W:List Lz=>W.length=g.nodes.length∧LzQ W) (fun _=>.agg [.h 1,.h 2]) (fun W=>[.dead,zbx g,Lz.ownR W])):=by
 refine Ctr.intro [] Tryz.func170 K K ?_
 refine Jy 3 (fun _:Unit=>St.mk 47 [za3,zbh,zbo] [rowOf 13 (·.tc) g.nodes,ze g,zY,zaO,ownOf 4 1 (·.tc) (rchL g.nodes),zX g] []) (fun _=>True) ?_ ?_
 ·refine ⟨⟨⟨trivial,?_⟩,?_⟩,?_⟩
  ·refine Q3 Qs (Y7 g W37 W37 W37) [] ?_
   refine tz [11,14,13,12,10,2,1] ?_
   refine Qks 2 [[],(zN g)] [0,0,0,1,0,0,1] ?_ (by simp only [flatP,List.cons_append,List.nil_append,Conj,Fits,Q7,Q8,Q9,Qa,News.len,maxLen]<;>(repeat' apply jl)<;>grind)
   exact tTo (fun x=>St.mk 47 [za3,zbh,zbo] [rowOf 13 (·.tc) g.nodes,ze g,zY,zaO,ownOf 4 1 (·.tc) (rchL g.nodes),zX g] []) (fun x=>True) () trivial [] [10] (zV g) (fun _ _=>rfl)
  ·refine Jy 2 (fun _:Unit=>St.mk 47 [se 3 (C.p 5 0),zbh,za3] [rowOf 13 (·.tc) g.nodes,ze g,zY,zX g,ownOf 4 1 (·.tc) (rchL g.nodes),Reg.box 240 [C.h 4,C.h 3]] []) (fun _=>True) ?_ ?_ (vc:=(zN g)) (hv:=W38)
   ·refine ⟨⟨trivial,?_⟩,?_⟩
    ·refine Q3 Qs (Y7 g W37 W37 W37) [] ?_
     exact tTo (fun x=>St.mk 47 [se 3 (C.p 5 0),zbh,za3] [rowOf 13 (·.tc) g.nodes,ze g,zY,zX g,ownOf 4 1 (·.tc) (rchL g.nodes),Reg.box 240 [C.h 4,C.h 3]] []) (fun x=>True) () trivial [] [8] (zV g) (fun _ _=>rfl)
    ·refine Q3 Qs (Y7 g W37 W37 W37) [] ?_
     exact tTo (fun x=>St.mk 47 [se 3 (C.p 5 0),zbh,za3] [rowOf 13 (·.tc) g.nodes,ze g,zY,zX g,ownOf 4 1 (·.tc) (rchL g.nodes),Reg.box 240 [C.h 4,C.h 3]] []) (fun x=>True) () trivial [0,1,2,3,5,4] [8] (zV g) (fun _ _=>rfl)
   ·rintro ⟨⟩ _
    exact tTo (fun x=>St.mk 47 [za3,zbh,zbo] [rowOf 13 (·.tc) g.nodes,ze g,zY,zaO,ownOf 4 1 (·.tc) (rchL g.nodes),zX g] []) (fun x=>True) () trivial [0,1,2,5,4,3] [10] (zV g) (fun _ _=>rfl)
  ·refine Jy 2 (fun _:Unit=>St.mk 47 [zbo,zbh,za3] [rowOf 13 (·.tc) g.nodes,ze g,zY,zaO,ownOf 4 1 (·.tc) (rchL g.nodes),zX g] []) (fun _=>True) ?_ ?_
   ·refine ⟨⟨trivial,?_⟩,?_⟩
    ·refine Q3 Qs (Y7 g W37 W37 W37) [] ?_
     exact tTo (fun x=>St.mk 47 [zbo,zbh,za3] [rowOf 13 (·.tc) g.nodes,ze g,zY,zaO,ownOf 4 1 (·.tc) (rchL g.nodes),zX g] []) (fun x=>True) () trivial [] [10] (zV g) (fun _ _=>rfl) (vc:=(zN g)) (hv:=W38)
    ·refine Q3 Qs (Y7 g W37 W37 W37) [] ?_ (vc:=(zN g)) (hv:=W38)
     exact tTo (fun x=>St.mk 47 [zbo,zbh,za3] [rowOf 13 (·.tc) g.nodes,ze g,zY,zaO,ownOf 4 1 (·.tc) (rchL g.nodes),zX g] []) (fun x=>True) () trivial [0,1,2,3,5,4] [10] (zV g) (fun _ _=>rfl)
   ·rintro ⟨⟩ _
    exact tTo (fun x=>St.mk 47 [za3,zbh,zbo] [rowOf 13 (·.tc) g.nodes,ze g,zY,zaO,ownOf 4 1 (·.tc) (rchL g.nodes),zX g] []) (fun x=>True) () trivial [] [10] (zV g) (fun _ _=>rfl)
 ·rintro ⟨⟩ _
  refine tz [1,2,3] ?_
  refine Qk Qeg (Qpi g W37 W37 W37 W37 W37) [] ?_
  rintro ud hY1
  try dsimp only at hY1
  refine tz [19,2,3] ?_
  refine Q6 (wd g ud) (((0:Int),jh g.nodes.length (Lz.mk (0:Int)))) (⟨jz _,jI,LzQ.rep _⟩) ?_ [] [9,10] [(jh g.nodes.length (Lz.mk (0:Int))).length=g.nodes.length,∀ (i:Nat),i<(jh g.nodes.length (Lz.mk (0:Int))).length→((jh g.nodes.length (Lz.mk (0:Int))).getD i ua).tc=fun j=>valT (jg jv (0:Int)).cells.toList j] (by (try simp only [Conj])<;>(repeat' apply jl)<;>first | exact jI | exact Qls)
  rintro ⟨ue,un⟩ hJ2
  dsimp only [wd] at hJ2
  refine tz [24,23,22,2,3] ?_
  refine Q0 (decide (ue<(↑ud.length:Int))) (fun h3=>?_) (fun h3=>?_)
  ·refine Qv 6 (ue.toNat) ?_ (vc:=[ue.toNat<ud.length]) (hv:=W38)
   refine tz [24,23,22,2,3] ?_
   refine Q6 (we g ud ue un) (((0:Int),un)) (⟨jz _,hJ2.2⟩) ?_ (vc:=[(0:Int)≤ue,ue<(↑ud.length:Int),ue.toNat=ue.toNat]) (hv:=W38)
   rintro ⟨ur,uv⟩ hJ4
   dsimp only [we] at hJ4
   refine tz [31,30,29,6,24,23,22,2,3] ?_
   refine Q0 (decide (ur<(↑(ud.getD ue.toNat ua).l.length:Int))) (fun h5=>?_) (fun h5=>?_)
   ·exact Q4 (we g ud ue un) (ur,uv) ((ur+(1:Int),uv.set ue.toNat (Lz.mk (bits kK jv (uv.getD ue.toNat ua).w (shlI jv (1:Int) ((ud.getD ue.toNat ua).l.getD ur.toNat 0)))))) (by dsimp only [we];exact W246) (by have z:=hJ4.1;exact ⟨by omega,by rw [jF];exact hJ4.2.1,hJ4.2.2.set (or_rng _ _)⟩) [] [9,10] [(uv.set ue.toNat (Lz.mk (bits kK jv (uv.getD ue.toNat ua).w (shlI jv (1:Int) ((ud.getD ue.toNat ua).l.getD ur.toNat 0))))).length=uv.length,∀ (i:Nat),i<(uv.set ue.toNat (Lz.mk (bits kK jv (uv.getD ue.toNat ua).w (shlI jv (1:Int) ((ud.getD ue.toNat ua).l.getD ur.toNat 0))))).length→((uv.set ue.toNat (Lz.mk (bits kK jv (uv.getD ue.toNat ua).w (shlI jv (1:Int) ((ud.getD ue.toNat ua).l.getD ur.toNat 0))))).getD i ua).tc=updT (fun i=>(uv.getD i ua).tc) ue.toNat 0 [jg jv (bits kK jv (uv.getD ue.toNat ua).w (shlI jv (1:Int) ((ud.getD ue.toNat ua).l.getD ur.toNat 0)))] i] (by (try simp only [Conj])<;>(repeat' apply jl)<;>first | exact jF | exact Qod _ _ _) (vc:=[(0:Int)≤ur,ur<(↑(ud.getD ue.toNat ua).l.length:Int),ur.toNat<(ud.getD ue.toNat ua).l.length,(0:Int)≤ue,ue<(↑uv.length:Int),ue.toNat<uv.length,(0:Int)≤(ud.getD ue.toNat ua).l.getD ur.toNat 0,(0:Int)≤ue,ue<(↑uv.length:Int),ue.toNat<uv.length,Fits ja (ur+(1:Int))]) (hv:=W38)
   ·exact Q4 (wd g ud) (ue,un) ((ue+(1:Int),uv)) (by dsimp only [wd];exact W231) (by have z:=hJ2.1;exact ⟨by omega,hJ4.2⟩) (vc:=(zF ue)) (hv:=W38)
  ·exact Q2 [0,4,5] (res:=_) (post:=_) (hS:=⟨un,hJ2.2,rfl,rfl⟩)
abbrev zbe (y0:Nat × UF):Reg:=Reg.mp MTu y0.1 (fun a=>(y0.2 a).isSome) (fun a=>(y0.2 a).getD ((0:Int),(0:Int))) none
abbrev zbz (y0:Int) (y1:Nod) (y2:Nat):List Prop:=[(0:Int)≤y0,Fits ja y1.thing,(MT.mk jb 221 3 217 [CK.i ja] false [CK.i jv,CK.i jv] true).P=jb,y2<maxLen]
abbrev zcm (y0:Nat) (y1:UF):Reg:=Reg.mp MTu y0 (fun a=>(y1 a).isSome) (fun a=>(y1 a).getD ((0:Int),(0:Int))) none
abbrev zcw:MT:=(MT.mk jb 221 3 217 [CK.i ja] false [CK.i jv,CK.i jv] true)
abbrev zcK (y0:UF):Int → Bool:=fun (a:Int)=>(y0 a).isSome
abbrev zcW (y0:UF):Int → Int × Int:=fun (a:Int)=>(y0 a).getD zc6
abbrev zcX (y0:UF) (y1:Nod):Int × Int:=((y0 y1.thing).getD zc6)
abbrev zdy (y0:Int) (y1:Nod) (y2:UF) (y3 y4:Int):Option (Int × Int):=if y0=y1.thing then some (bits kK jv (zcX y2 y1).fst (shlI jv (1:Int) y3),bits km jv (65535:Int) y4) else y2 y0
abbrev zdz (y0:Int) (y1:Nod) (y2:UF) (y3 y4:Int):Option (Int × Int):=if y0=y1.thing then some (bits kK jv (zcX y2 y1).fst (shlI jv (1:Int) y3),bits km jv (zcX y2 y1).snd y4) else y2 y0
theorem Qpj (t i:Int) (n:Nod) (he:Int) (cN:Nat) (F:UF) (ht:0≤t∧t≤4096) (hk:1≤n.kind∧n.kind≤9) (hh:0≤he∧he<4294967296) (hv:n.kind=2∨n.kind=3∨n.kind=4→0≤n.thing∧n.thing<1000000) (hc:cN≤1000000) (hF:UseQ F):Ctr jb 167 [Reg.box 221 [.h 1],zcm cN F] [.agg [.i .i64 t,.i .i64 i],.agg n.cs,.c (.i .u32 he),.c (.p 0 0)]
 (DetE (fun y:Nat×UF=>y.1≤cN+1∧UseQ y.2) (fun _=>.tup []) (fun y=>[Reg.box 221 [.h 1],zbe y])):=by
 refine Ctr.intro [] Tryz.func167 K K ?_
 refine Q3 Q4q (Qh6 n) [] ?_
 refine tz [10,5,4,2,3] ?_
 refine Q0 (!(decide (n.kind=(2:Int))||decide (n.kind=(3:Int))||decide (n.kind=(4:Int)))) (fun h1=>?_) (fun h1=>?_)
 ·exact Q2 [] [0] [MpEq MTu cN (zcK F) (zcW F) none zcw cN (zcK F) (zcW F) none] W151 (res:=_) (post:=_) (hS:=⟨(cN,F),W173,rfl,rfl⟩)
 ·refine tz [5,4,2,3] ?_
  refine Q0 (!(F n.thing).isSome) (fun h2=>?_) (fun h2=>?_) (vc:=[Fits ja n.thing,zcw.P=jb]) (hv:=W109)
  ·exact Ya [] [0] [MpEq MTu (cN+1) (fun (a:Int)=>(zdy a n F t he).isSome) (fun (a:Int)=>(zdy a n F t he).getD zc6) none zcw (cN+1) (fun (q:Int)=>decide (q=n.thing)||(F q).isSome) (fun (q:Int)=>if q=n.thing then (bits kK jv (zcX F n).fst (shlI jv (1:Int) t),bits km jv (65535:Int) he) else (F q).getD zc6) none] W151 (vc:=(zbz t n cN)) (hv:=W109) (res:=_) (post:=_) (hS:=⟨(cN+1,fun (q:Int)=>if q=n.thing then some (bits kK jv (zcX F n).1 (shlI jv (1:Int) t),bits km jv (65535:Int) he) else F q),W173,rfl,rfl⟩)
  ·exact Ya [] [0] [MpEq MTu (cN+1) (fun (a:Int)=>(zdz a n F t he).isSome) (fun (a:Int)=>(zdz a n F t he).getD zc6) none zcw (cN+1) (fun (q:Int)=>decide (q=n.thing)||(F q).isSome) (fun (q:Int)=>if q=n.thing then (bits kK jv (zcX F n).fst (shlI jv (1:Int) t),bits km jv (zcX F n).snd he) else (F q).getD zc6) none] W151 (vc:=(zbz t n cN)) (hv:=W109) (res:=_) (post:=_) (hS:=⟨(cN+1,fun (q:Int)=>if q=n.thing then some (bits kK jv (zcX F n).1 (shlI jv (1:Int) t),bits km jv (zcX F n).2 he) else F q),W173,rfl,rfl⟩)
def wg (sh:List Dcl) (lk:List Dcl) (gs:List Grf):Lp (Int×List Lok):=⟨fun x=>{ N:=33,fr:=[se 22 (C.i .i64 x.1),se 21 (zdt gs),se 20 (C.h 2),se 7 (C.h 4),se 3 (C.i .i64 0),zL],rg:=[rowOf 3 (·.tc) sh,rowOf 3 (·.tc) lk,rowOf 4 (·.tc) gs,zP]++[Lok.ownR x.2],wr:=[] },fun x=>0≤x.1∧x.1≤(gs.length:Int)∧LokQ gs x.1.toNat x.2,fun x=>((gs.length:Int)-x.1).toNat⟩
abbrev zcN:Bool × List C:=(false,[.i .i64 0])
abbrev zcO (y0:List Grf) (y1:Int):List Bo:=rchL (zc1 y0 y1).nodes
theorem Qnf (sh lk:List Dcl) (gs:List Grf) (hs:zy sh) (hl:zy lk) (hg:zT gs) (hw:UnitW gs) (h0:(chkU sh lk gs).1=0):Ctr jb 165 (zbr sh lk gs) [zc4]
 (DetE (fun L:List Lok=>LokQ gs gs.length L) (fun _=>.tup [(false,[.h 3]),zcN]) (fun L=>[.dead,.dead,.dead,Lok.ownR L])):=by
 refine Ctr.intro [] Tryz.func165 K K ?_
 refine Q3 Z2 (Gj sh lk gs W39 W39 W39 W39) [] ?_
 refine tz [12,3,2,1] ?_
 refine Q0 (!decide ((chkU sh lk gs).fst=(0:Int))) (fun h1=>?_) (fun h1=>?_)
 ·exact (show False from by rw [h0] at h1;simp at h1).elim
 ·refine tz [3,2,1] ?_
  refine Q6 (wg sh lk gs) (((0:Int),[])) (⟨jz _,by omega,LokQ.nil gs⟩) ?_ [0,1,2,3,1000004] [6] [(0:Nat)=0] W20
  rintro ⟨ue,un⟩ hJ2
  dsimp only [wg] at hJ2
  refine tz [22,21,20,7,3,2] ?_
  refine Q0 (decide (ue<(↑gs.length:Int))) (fun h3=>?_) (fun h3=>?_)
  ·refine Qv 2 (ue.toNat) ?_ (vc:=(zcc ue gs)) (hv:=W110)
   refine tz [22,21,20,7,3,2] ?_
   refine Qk Q5f (Qka (zc1 gs ue) W39 W39 W39 W39 W39) [5] ?_ (vc:=(za6 ue gs)) (hv:=W110)
   rintro ur hY4
   try dsimp only at hY4
   exact Q1c (wg sh lk gs) (ue,un) ((ue+(1:Int),un++[Lok.mk (zcO gs ue) ur])) (by dsimp only [wg];exact W231) (by have q:=ub h3;have z:=hJ2.1;refine ⟨by omega,by omega,?_⟩;show LokQ gs (ue+1).toNat _;rw [show (ue+1).toNat=ue.toNat+1 by omega];exact hJ2.2.2.snoc rfl hY4.1 hY4.2) [(10,(Lok.tc (Lok.mk (zcO gs ue) ur)))] [0,1,2,3,10] [6,7] [(un++[Lok.mk (zcO gs ue) ur]).length=un.length+1,∀ (i:Nat),i<(un++[Lok.mk (zcO gs ue) ur]).length→((un++[Lok.mk (zcO gs ue) ur]).getD i ua).tc=if i=un.length then (Lok.mk (zcO gs ue) ur).tc else (un.getD i ua).tc] W188 (vc:=[un.length+1≤maxLen,(un.length+1) * 48≤140737488355328,Fits ja (ue+(1:Int))]) (hv:=W110) (vc2:=[(zcO gs ue).length=(zcO gs ue).length,∀ (i:Nat),i<(zcO gs ue).length→((zcO gs ue).getD i ua).tc=((zcO gs ue).getD i ua).tc,ur.length=ur.length,∀ (i:Nat),i<ur.length→(ur.getD i ua).tc=(ur.getD i ua).tc]) (hv2:=(by simp only [Conj];(repeat' apply jl)<;>first | trivial | (intros;trivial)))
  ·exact Q2 [0,1,2,4] (res:=_) (post:=_) (hS:=⟨un,(by have q:=uc h3;have e:ue.toNat=gs.length:=(by have z:=hJ2.2.1;omega);rw [← e];exact hJ2.2.2),rfl,rfl⟩)
abbrev zbn (y0:Int × Nat × (Int → Option (Int × Int))):Reg:=Reg.mp (MT.mk jb 221 3 217 [CK.i ja] false [CK.i jv,CK.i jv] true) (y0.2.1) (fun a=>(y0.2.2 a).isSome) (fun a=>(y0.2.2 a).getD (((0:Int),(0:Int)))) none
def wh (sh:List Dcl) (lk:List Dcl) (gs:List Grf) (L:List Lok) (cN:Nat) (F:UF):Lp (Int×Nat×(Int→Option ((Int×Int)))):=⟨fun x=>{ N:=50,fr:=[se 13 (C.i .i64 x.1),se 12 (C.i .i64 (↑gs.length:Int)),se 11 (C.h 2),se 1 (C.h 3),se 2 (C.fn 167 false [4])],rg:=[rowOf 3 (·.tc) sh,rowOf 3 (·.tc) lk,rowOf 4 (·.tc) gs,rowOf 2 (·.tc) L,Reg.box 221 [C.h 5],zbn x,zP],wr:=[] },fun x=>0≤x.1∧x.1≤(gs.length:Int)∧x.2.1≤cN+4096 * x.1.toNat∧UseQ x.2.2,fun x=>((gs.length:Int)-x.1).toNat⟩
def vz (sh:List Dcl) (lk:List Dcl) (gs:List Grf) (L:List Lok) (ud:Int) (ui:Nat) (uf:Int→Option (Int×Int)):Lp (Int×Nat×(Int→Option ((Int×Int)))):=⟨fun x=>{ N:=50,fr:=[se 21 (C.i .i64 x.1),se 20 (C.i .i64 (↑(gs.getD ud.toNat ua).nodes.length:Int)),se 19 (C.h 7),se 6 (C.i .i64 ud),se 13 (C.i .i64 ud),se 12 (C.i .i64 (↑gs.length:Int)),se 11 (C.h 2),se 1 (C.h 3),se 2 (C.fn 167 false [4])],rg:=[rowOf 3 (·.tc) sh,rowOf 3 (·.tc) lk,Reg.row 4 gs.length (fun i=>(gs.getD i ua).tc) (some (ud.toNat,[C.v (jC (gs.getD ud.toNat ua).name),C.i .i64 (gs.getD ud.toNat ua).locals,C.i .i64 (gs.getD ud.toNat ua).slots,C.h 7])),Reg.row 2 L.length (fun i=>(L.getD i ua).tc) (some (ud.toNat,[C.h 8,C.h 9])),Reg.box 221 [C.h 5],zbn x,zP,zt gs ud,Reg.row 1 (L.getD ud.toNat ua).reached.length (fun i=>((L.getD ud.toNat ua).reached.getD i ua).tc) none,Reg.row 1 (L.getD ud.toNat ua).held.length (fun i=>((L.getD ud.toNat ua).held.getD i ua).tc) none,Reg.box 60 [C.v (jC (gs.getD ud.toNat ua).name),C.i .i64 (gs.getD ud.toNat ua).locals,C.i .i64 (gs.getD ud.toNat ua).slots,C.h 7]],wr:=[] },fun x=>0≤x.1∧x.1≤((gs.getD ud.toNat ua).nodes.length:Int)∧x.2.1≤ui+x.1.toNat∧UseQ x.2.2,fun x=>(((gs.getD ud.toNat ua).nodes.length:Int)-x.1).toNat⟩
abbrev zab (y0:Nat) (y1:Int → Option (Int × Int)):List Prop:=[MpEq (MT.mk jb 221 3 217 [CK.i ja] false [CK.i jv,CK.i jv] true) y0 (fun (a:Int)=>(y1 a).isSome) (fun (a:Int)=>(y1 a).getD ((0:Int),(0:Int))) none (MT.mk jb 221 3 217 [CK.i ja] false [CK.i jv,CK.i jv] true) y0 (fun (a:Int)=>(y1 a).isSome) (fun (a:Int)=>(y1 a).getD ((0:Int),(0:Int))) none]
abbrev zau (y0:Nat) (y1:UF):List Prop:=[MpEq (MT.mk jb 221 3 217 [CK.i ja] false [CK.i jv,CK.i jv] true) y0 (fun (a:Int)=>(y1 a).isSome) (fun (a:Int)=>(y1 a).getD ((0:Int),(0:Int))) none (MT.mk jb 221 3 217 [CK.i ja] false [CK.i jv,CK.i jv] true) y0 (fun (a:Int)=>(y1 a).isSome) (fun (a:Int)=>(y1 a).getD ((0:Int),(0:Int))) none]
abbrev zaF (y0:Nat) (y1:Int → Option (Int × Int)):List Prop:=[MpEq MTu y0 (fun (a:Int)=>(y1 a).isSome) (fun (a:Int)=>(y1 a).getD ((0:Int),(0:Int))) none (MT.mk jb 221 3 217 [CK.i ja] false [CK.i jv,CK.i jv] true) y0 (fun (a:Int)=>(y1 a).isSome) (fun (a:Int)=>(y1 a).getD ((0:Int),(0:Int))) none]
theorem Qpk (sh lk:List Dcl) (gs:List Grf) (L:List Lok) (hL:LokQ gs gs.length L) (hT:∀ x:Int,0≤x→x<(gs.length:Int)→ThQ sh lk (gs.getD x.toNat ua)) (hn:gs.length≤8∧sh.length≤64) (cN:Nat) (F:UF) (hc:cN≤1000) (hF:UseQ F):Ctr jb 166 [Dcl.rowR sh,Dcl.rowR lk,Grf.rowR gs,Lok.rowR L,Reg.box 221 [.h 5],zcm cN F] [.agg [.h 0,.h 1,.h 2],.c (.h 3),.c (.fn 167 false [4])]
 (DetE (fun y:Nat×UF=>y.1≤cN+4096 * gs.length∧UseQ y.2) (fun _=>.tup []) (fun y=>[.dead,.dead,.dead,.dead,Reg.box 221 [.h 5],zbe y])):=by
 refine Ctr.intro [] Tryz.func166 K K ?_
 refine Q6 (wh sh lk gs L cN F) (((0:Int),cN,F)) (⟨jz _,by omega,by show cN≤_;omega,hF⟩) ?_ [] [8] (zau cN F) W20
 rintro ⟨ud,ui,uf⟩ hJ1
 dsimp only [wh] at hJ1
 refine tz [13,12,11,1,2] ?_
 refine Q0 (decide (ud<(↑gs.length:Int))) (fun h2=>?_) (fun h2=>?_)
 ·refine Qv 2 (ud.toNat) ?_ (vc:=(zcc ud gs)) (hv:=W29)
  refine Qv 3 (ud.toNat) ?_ (vc:=[ud.toNat<L.length]) (hv:=W29)
  refine tz [13,12,11,1,2] ?_
  refine Q6 (vz sh lk gs L ud ui uf) (((0:Int),ui,uf)) (⟨jz _,by omega,by show ui≤ui+_;omega,hJ1.2.2.2⟩) ?_ [] [13] (zab ui uf) W20 (vc:=(za6 ud gs)) (hv:=W29)
  rintro ⟨ug,um,uq⟩ hJ3
  dsimp only [vz] at hJ3
  refine tz [21,20,19,6,13,12,11,1,2] ?_
  refine Q0 (decide (ug<(↑(gs.getD ud.toNat ua).nodes.length:Int))) (fun h4=>?_) (fun h4=>?_)
  ·refine tz [21,20,19,6,13,12,11,1,2] ?_
   refine Q0 (((L.getD ud.toNat ua).reached.getD ug.toNat ua).b) (fun h5=>?_) (fun h5=>?_) (vc:=[(0:Int)≤ug,ug<(↑(gs.getD ud.toNat ua).nodes.length:Int),ug.toNat<(gs.getD ud.toNat ua).nodes.length,(0:Int)≤ud,ud<(↑L.length:Int),ud.toNat=ud.toNat,(0:Int)≤ug,ug<(↑(L.getD ud.toNat ua).reached.length:Int),ug.toNat<(L.getD ud.toNat ua).reached.length]) (hv:=W29)
   ·refine tz [8,9,21,20,19,6,13,12,11,1,2] ?_
    refine Qk Q5e (Qpj ud ug ((gs.getD ud.toNat ua).nodes.getD ug.toNat ua) (((L.getD ud.toNat ua).held.getD ug.toNat ua).w) um uq W14 W14 W14 W14 W14 W14) [4,5] ?_ [0] (zaF um uq) W20 (vc:=[(0:Int)≤ud,ud<(↑L.length:Int),ud.toNat=ud.toNat,(0:Int)≤ug,ug<(↑(L.getD ud.toNat ua).held.length:Int),ug.toNat<(L.getD ud.toNat ua).held.length]) (hv:=W29)
    rintro ⟨uu,uI⟩ hY6
    try dsimp only at hY6
    exact Q4 (vz sh lk gs L ud ui uf) (ug,um,uq) ((ug+(1:Int),uu,uI)) W209 W83 [] [13] (zau uu uI) W20 (vc:=(zF ug)) (hv:=W29)
   ·exact Q4 (vz sh lk gs L ud ui uf) (ug,um,uq) ((ug+(1:Int),um,uq)) W209 W83 [] [13] (zab um uq) W20 (vc:=(zF ug)) (hv:=W29)
  ·exact Q4 (wh sh lk gs L cN F) (ud,ui,uf) ((ud+(1:Int),um,uq)) (by dsimp only [wh];exact W228) (by have q:=ub h2;have z0:=hJ1.1;have T:=hT ud z0 q;have zl:=hL.1;have z:=hL.2 ud.toNat (by omega);have z1:=congrArg kb z.1;have z2:=Qo (gs.getD ud.toNat ua).nodes;have z3:=z.2.1;have z4:=T.hN;(try have q4:=ub h4);(try have z5:=hJ3.1);(try have z6:=hJ3.2.1);(try have z7:=hJ3.2.2.1);(try have z8:=hJ1.2.2.1);have w:=uc h4;exact ⟨by omega,by omega,by show um≤_;dsimp only;omega,hJ3.2.2.2⟩) [] [8] (zab um uq) W20 (vc:=(zF ud)) (hv:=W29)
 ·exact Ya [] [0] (zaF ui uf) W190 (res:=_) (post:=_) (hS:=⟨(ui,uf),(by have q:=uc h2;have z:=hJ1.2.1;have z1:=hJ1.1;have z2:=hJ1.2.2.1;exact ⟨by show ui≤_;omega,hJ1.2.2.2⟩),rfl,rfl⟩)
theorem Qpl (sh lk:List Dcl) (gs:List Grf) (hs:zy sh) (hl:zy lk) (hg:zT gs) (hw:UnitW gs) (h0:(chkU sh lk gs).1=0):Ctr jb 162 (zbr sh lk gs) [zc4]
 (DetE (fun y:Nat×UF=>UseQ y.2) (fun _=>.tup [(false,[.h 3]),zcN]) (fun y=>[.dead,.dead,.dead,zbe y])):=by
 refine Ctr.intro [] Tryz.func162 K K ?_
 refine Qk Q6r (Qnf sh lk gs W63 W63 W63 W63 W63) [] ?_
 rintro ud hY1
 try dsimp only at hY1
 refine tz [9,3,2,1] ?_
 refine Q0 (!decide ((0:Int)=(0:Int))) (fun h2=>?_) (fun h2=>?_)
 ·exact absurd h2 W81
 ·refine tz [4,3,2,1] ?_
  refine Qk Q7s (Qpk sh lk gs ud W63 W63 W63 0 (fun x=>none) W63 W63) [0,1,2,4,6,5] ?_ [8] [MpEq MTu 0 (fun (a:Int)=>false) (fun (a:Int)=>((0:Int),(0:Int))) none zcw 0 (fun x=>false) (fun x=>KA.zero [CK.i jv,CK.i jv]) none] W20 (vc:=[zcw.P=jb,zcw.Ok]) (hv:=(by simp only [Conj,Fits,Q7,Q8,Q9,Qa,News.len,maxLen]<;>(repeat' apply jl)<;>first | exact Qj8 | grind))
  rintro ⟨ug,um⟩ hY3
  try dsimp only at hY3
  exact Q2 [0,1,2,5] [0] [MpEq MTu ug (zcK um) (zcW um) none MTu ug (zcK um) (zcW um) none] W190 (res:=_) (post:=_) (hS:=⟨(ug,um),hY3.2,rfl,rfl⟩)
def wi (X:Ext) (sh:List Dcl) (lk:List Dcl) (gs:List Grf) (ud:Nat) (ui:Int→Option (Int×Int)):Lp (Int×List Cls):=⟨fun x=>{ N:=34,fr:=[se 21 (C.i .i64 x.1),se 20 (C.i .i64 (↑sh.length:Int)),se 8 (C.h 6),se 6 (C.h 5),se 5 (C.i .i64 0),zaH,se 1 (C.fn 155 false [])],rg:=[rowOf 3 (·.tc) sh,rowOf 3 (·.tc) lk,rowOf 4 (·.tc) gs,Reg.froz X,zP,Reg.mp zcw ud (fun a=>(ui a).isSome) (fun a=>(ui a).getD zc6) none]++[Cls.ownR x.2],wr:=[] },fun x=>0≤x.1∧x.1≤(sh.length:Int)∧x.2.length=x.1.toNat,fun x=>((sh.length:Int)-x.1).toNat⟩
abbrev zcP (y0:Int):TC:=TC.val (jg ja y0)
theorem Qpm (X:Ext) (hX:TabX X) (sh lk:List Dcl) (gs:List Grf) (hs:zy sh) (hl:zy lk) (hg:zT gs) (hw:UnitW gs) (h0:(chkU sh lk gs).1=0):Ctr jb 154 [Dcl.rowR sh,Dcl.rowR lk,Grf.rowR gs,.froz X] [zc4,.c (.fn 155 false [])]
 (DetE (fun C:List Cls=>C.length=sh.length) (fun _=>.tup [(false,[.h 4]),zcN]) (fun C=>[.dead,.dead,.dead,.dead,Cls.ownR C])):=by
 refine Ctr.intro [] Tryz.func154 K K ?_
 refine Qk Q7r (Qpl sh lk gs W130 W130 W130 W130 W130) [] ?_
 rintro ⟨ud,ui⟩ hY1
 try dsimp only at hY1
 refine tz [12,5,4,2,1] ?_
 refine Q0 (!decide ((0:Int)=(0:Int))) (fun h2=>?_) (fun h2=>?_)
 ·exact absurd h2 W81
 ·refine tz [6,5,4,2,1] ?_
  refine Q6 (wi X sh lk gs ud ui) (((0:Int),[])) (⟨jz _,by omega,rfl⟩) ?_ [0,1,2,3,4,5,1000006] [7,8] [MpEq zcw ud (zcK ui) (zcW ui) none zcw ud (zcK ui) (zcW ui) none,(0:Nat)=0] W20
  rintro ⟨ug,um⟩ hJ3
  dsimp only [wi] at hJ3
  refine tz [21,20,8,6,5,4,1] ?_
  refine Q0 (decide (ug<(↑sh.length:Int))) (fun h4=>?_) (fun h4=>?_)
  ·refine tz [21,20,8,6,5,4,1] ?_
   refine Qk Q2y (Qne X W130 (((ui ug).getD zc6).fst) (((ui ug).getD zc6).snd) W130 W130) [3] ?_ (vc:=[Fits ja ug,zcw.P=jb]) (hv:=W141)
   rintro ⟨uk,uy,uC⟩ hY5
   try dsimp only at hY5
   exact Q4 (wi X sh lk gs ud ui) (ug,um) ((ug+(1:Int),um++[Cls.mk uk uy uC])) (by dsimp only [wi];exact W230) (by have q:=ub h4;have z:=hJ3.1;have z2:=hJ3.2.2;exact ⟨by omega,by omega,by rw [jt,kf];show _=(ug+1).toNat;omega⟩) [0,1,2,3,4,5,8] [7,8,9,10,11,12] [MpEq zcw ud (zcK ui) (zcW ui) none zcw ud (zcK ui) (zcW ui) none,(um++[Cls.mk uk uy uC]).length=um.length+1,∀ (i:Nat),i<(um++[Cls.mk uk uy uC]).length→i≠um.length→((um++[Cls.mk uk uy uC]).getD i ua).tc=(um.getD i ua).tc,((um++[Cls.mk uk uy uC]).getD um.length ua).tc 0=TC.val (jg jx uk),((um++[Cls.mk uk uy uC]).getD um.length ua).tc 1=zcP uy,((um++[Cls.mk uk uy uC]).getD um.length ua).tc 2=zcP uC] W20 (vc:=[um.length+1≤maxLen,(um.length+1) * 24≤140737488355328,Fits ja (ug+(1:Int))]) (hv:=W141)
  ·exact Q2 [0,1,2,3,6] (res:=_) (post:=_) (hS:=⟨um,(by have q:=uc h4;have z:=hJ3.1;have z1:=hJ3.2.1;have z2:=hJ3.2.2;show um.length=_;omega),rfl,rfl⟩)
theorem Qhh (X:Ext) (hX:TabX X) (sh lk:List Dcl) (gs:List Grf) (hs:zy sh) (hl:zy lk) (hg:zT gs) (hw:UnitW gs) (h0:(chkU sh lk gs).1=0):Ctr jb 143 [Dcl.rowR sh,Dcl.rowR lk,Grf.rowR gs,.froz X] [zc4]
 (DetE (fun C:List Cls=>C.length=sh.length) (fun _=>.tup [(false,[.h 4]),zcN]) (fun C=>[.dead,.dead,.dead,.dead,Cls.ownR C])):=by
 refine Ctr.intro [] Tryz.func143 K K ?_
 refine Qk Q7n (Qpm X W37 sh lk gs W37 W37 W37 W37 W37) [] ?_
 rintro ud hY1
 try dsimp only at hY1
 exact Q2 [0,1,2,3,5] (res:=_) (post:=_) (hS:=⟨ud,hY1,rfl,rfl⟩)
abbrev zcL:Bool × Bool × Bool × Bool → SV:=(fun y=>.agg [.b y.1,.b y.2.1,.b y.2.2.1,.b y.2.2.2])
abbrev zdl:Bool × Bool × Bool × Bool → Prop:=(fun y:Bool×Bool×Bool×Bool=>True)
theorem Q87 (b:Bool):Ctr jb 156 [] [.c (.b b)]
 (DetE zdl zcL (fun _=>[])):=by
 refine Ctr.intro [] Tryz.func156 K K ?_
 exact Q2 (res:=_) (post:=_) (hS:=⟨(false,false,true,false),trivial,rfl,rfl⟩)
theorem Qng (b:Bool):Ctr jb 157 [] [.c (.b b)]
 (DetE zdl zcL (fun _=>[])):=by
 refine Ctr.intro [] Tryz.func157 K K ?_
 exact Q2 (res:=_) (post:=_) (hS:=⟨(b,false,false,false),trivial,rfl,rfl⟩)
theorem Qnh (b:Bool):Ctr jb 158 [] [.c (.b b)]
 (DetE zdl zcL (fun _=>[])):=by
 refine Ctr.intro [] Tryz.func158 K K ?_
 exact Q2 (res:=_) (post:=_) (hS:=⟨(true,false,false,false),trivial,rfl,rfl⟩)
theorem Qni (b:Bool):Ctr jb 159 [] [.c (.b b)]
 (DetE zdl zcL (fun _=>[])):=by
 refine Ctr.intro [] Tryz.func159 K K ?_
 exact Q2 (res:=_) (post:=_) (hS:=⟨(false,b,false,false),trivial,rfl,rfl⟩)
theorem Qpn :Ctr jb 144 [] []
 (Det (.agg [.v .nilFunc,.v .nilFunc,.fn 159 false [],.fn 157 false [],.fn 156 false [],.fn 156 false [],.fn 158 false [],.fn 156 false [],.v .nilFunc,.v .nilFunc]) []):=by
 refine Ctr.intro [] Tryz.func144 K K ?_
 exact Q2
def wj (g:Grf) (l:List Int):Lp (Int×Int×Bool):=⟨fun x=>{ N:=26,fr:=[se 10 (C.i .i64 x.1),se 9 (C.i .i64 (↑l.length:Int)),se 8 (C.h 1),se 5 (C.i .i64 x.2.1),se 4 (C.b x.2.2),zbh],rg:=[rowOf 13 (·.tc) g.nodes,IntRow l,ze g],wr:=[] },fun x=>FenJ (g.nodes.length:Int) l x.1 x.2.1,fun x=>((l.length:Int)-x.1).toNat⟩
theorem Qbu (g:Grf) (l:List Int) (hl:l.length≤9223372036854775807):Ctr jb 94 [zao g,IntRow l] [.agg (g.cs 0),.c (.h 1)]
 (Det (.c (.b (fenB (g.nodes.length:Int) l))) [.dead,.dead]):=by
 refine Ctr.intro [] Tryz.func94 K K ?_
 refine Q6 (wj g l) (((0:Int),(-1:Int),false)) (FenJ.start _ _) ?_
 rintro ⟨ud,ui,uf⟩ hJ1
 dsimp only [wj] at hJ1
 refine tz [10,9,8,5,4,2] ?_
 refine Q0 (decide (ud<(↑l.length:Int))) (fun h2=>?_) (fun h2=>?_)
 ·refine tz [10,9,8,5,4,2] ?_
  refine Q0 (decide (l.getD ud.toNat 0≤ui)||decide ((↑g.nodes.length:Int)≤l.getD ud.toNat 0)) (fun h3=>?_) (fun h3=>?_) (vc:=(zax ud l)) (hv:=W160)
  ·exact Q2 [] [0] [fenB (↑g.nodes.length:Int) l=false] W191
  ·exact Q4 (wj g l) (ud,ui,uf) ((ud+(1:Int),l.getD ud.toNat 0,uf)) (by dsimp only [wj];have q:=ub h2;have z:=hJ1.i0;omega) (hJ1.next (ub h2) h3) (vc:=(zF ud)) (hv:=W160)
 ·exact Q2 [] [0] [fenB (↑g.nodes.length:Int) l=true] W191
theorem Qf4 (n:Nod):Ctr jb 153 [] [.agg n.cs]
 (Det (.c (.h 0)) [IntOwn (flrL n)]):=by
 refine Ctr.intro [] Tryz.func153 K K ?_
 refine Q0 (decide (n.kind=(9:Int))) (fun h1=>?_) (fun h1=>?_)
 ·rw [Qcy h1]
  exact Q2 [1000000] [0] [(0:Nat)=0] W47
 ·refine tz [4,2,1] ?_
  refine Q0 (decide (n.kind=(8:Int))) (fun h2=>?_) (fun h2=>?_)
  ·rw [Qcz h1 h2]
   exact Q2 [1] [0,1] (zai n) W47
  ·rw [Qd0 h1 h2]
   exact Q2 [1] [0,1,2] (zak n) W47
theorem Qkb (sh lk:List Dcl) (gs:List Grf) (hs:zy sh) (hl:zy lk) (hg:zT gs) (hw:UnitW gs) (h0:(chkU sh lk gs).1=0) (t:Int):Ctr jb 140 (zbr sh lk gs) [zc4,zc8 t]
 (Det (.c (.i .i64 (if t<0∨(gs.length:Int)≤t then 2 else 0))) zb2):=by
 refine Ctr.intro [] Tryz.func140 K K ?_
 refine Q3 Z2 (Gj sh lk gs W37 W37 W37 W37) [] ?_
 refine tz [10,4,2,1] ?_
 refine Q0 (!decide ((chkU sh lk gs).fst=(0:Int))) (fun h1=>?_) (fun h1=>?_)
 ·exact (show False from by rw [h0] at h1;simp at h1).elim
 ·refine tz [4,2,1] ?_
  refine Q0 (decide (t<(0:Int))||decide ((↑gs.length:Int)≤t)) (fun h2=>?_) (fun h2=>?_)
  ·exact Q2 [] [0] [(if t<(0:Int)∨(↑gs.length:Int)≤t then (2:Int) else (0:Int))=(2:Int)] W154
  ·exact Q2 [] [0] [(if t<(0:Int)∨(↑gs.length:Int)≤t then (2:Int) else (0:Int))=(0:Int)] W154
end Go.Proofs.YtnddggenhefaeaaGreatDoor
end
