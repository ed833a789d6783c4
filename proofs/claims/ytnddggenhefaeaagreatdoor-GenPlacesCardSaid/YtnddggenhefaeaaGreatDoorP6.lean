/-
  A part of the proof. Text 6 of 9: SpecRh SpecRc Leaf103 SpecR1 Leaf97 Leaf101 Leaf102 Leaf104 Leaf105 Leaf157 SpecKn Leaf124 Leaf120 Leaf121 Leaf125 Leaf126 Leaf127 Leaf130 SpecDo SpecDe.
-/
import Derived.Test.YtnddggenhefaeaaGreatDoorP5
import Derived.Test.YtnddggenhefaeaaGreatDoorP3
import Derived.Test.YtnddggenhefaeaaGreatDoorP4
set_option linter.unusedSimpArgs false
set_option linter.unusedVariables false
open List renaming getD_eq_getElem?_getD→jc,getElem?_set_self→jG,replicate→jh,getElem?_replicate→jX,getElem?_eq_getElem→jd,getElem_mem→jN,drop_eq_getElem_cons→ki,length_set→jF,mem_or_eq_of_mem_set→ku,drop_eq_nil_of_le→j8,take→jR,append_nil→jZ,map_append→kG,getElem?_map→jm,length_append→jt,length_cons→j6,take_of_length_le→j7,mem_of_getElem?→jq,mem_cons→kD,not_mem_nil→kq,range→jB,length_replicate→jI,length_singleton→kf,length_take→jQ,eq_nil_of_length_eq_zero→kt,length→kb,getElem?_eq_none→jY,mem_append_left→jU,mem_cons_self→ke,mem_cons_of_mem→jW,getElem?_drop→kj,take_succ_eq_append_getElem→jM,length_map→jP,range_succ→kw,countP_append→kW,mem_singleton→jH
open Nat renaming zero_le→j9,le_refl→jn,mul_le_mul_right→kz
open Int renaming le_refl→jz,tdiv_eq_ediv_of_nonneg→kR
open Bool renaming true_and→kJ,or_eq_true→jK,or_eq_false_iff→jT,and_eq_true→ji
open Option renaming getD_some→kA
open Go.Value renaming slice→je,string→jC,bool→jS,int→jg
open Go.IntKind renaming i64→ja,u8→jx,u64→kd
open Go.Proofs.Tryz renaming prog→jb
open And renaming intro→jl
open Go.BinOp renaming or→kK,and→km
open Inhabited renaming default→ua
set_option maxHeartbeats 4000000
set_option maxRecDepth 10000
namespace Go
theorem W4{p:Prop}(h:p:=by simp only [Conj,Fits,Q7,Q8,Q9,Qa,News.len,maxLen]<;>(repeat' apply And.intro)<;>first | (have q:=of_decide_eq_true h4;have z:=hJ3.hi;have z1:=Qo g.nodes;have q7:=of_decide_eq_true h7;have y7:=hJ6.1;have z2:=hq ug.toNat (by omega) _ ((Q1j _ _).1 (Y3 q7 hJ6.1));have z3:=Q2c (g.nodes.getD ug.toNat default);exact W226) | (have q:=of_decide_eq_true h4;have z:=hJ3.hi;have z1:=Qo g.nodes;have q10:=of_decide_eq_true h10;have y10:=hJ9.1;have z4:=Qb1 (g.nodes.getD ug.toNat default);exact W226) | (have q:=of_decide_eq_true h4;have z:=hJ3.hi;have z1:=Qo g.nodes;have z3:=Q2c (g.nodes.getD ug.toNat default);have z4:=Qb1 (g.nodes.getD ug.toNat default);exact W226) | (have z1:=Qo g.nodes;exact W226) | grind):p:=h
theorem W12{p:Prop}(h:p:=by first | assumption | omega | exact hk ug.toNat W245 | (have q:=of_decide_eq_true h4;have z:=hJ3.hi;have q7:=of_decide_eq_true h7;have y7:=hJ6.1;have z2:=hq ug.toNat (by omega) _ ((Q1j _ _).1 (Y3 q7 hJ6.1));have z3:=Q2c (g.nodes.getD ug.toNat default);omega) | exact (hS ug.toNat W245).2 h8 | exact (hS ug.toNat W245).1 _ (Y3 (of_decide_eq_true h10) hJ9.1)):p:=h
theorem W16{p:Prop}(h:p:=by simp only [Conj,Fits,Q7,Q8,Q9,Qa,News.len,maxLen]<;>(repeat' (first | apply And.intro | intro _))<;>first | exact i64T.flat _ _ (by assumption) | exact W232 | (have a2:=hJ3.most;have a3:=hJ3.len;have a4:=hJ3.i0;have a5:=hJ3.il;have a7:=Qju (g.nodes.getD (ul.getD ud.toNat 0).toNat default);have a8:=hJ3.fl;have q:=of_decide_eq_true h4;have a1:=hJ3.to_ q (hq _ W229);exact W238) | grind):p:=h
theorem W22{p:Prop}(h:p:=by (repeat' first | refine Qiu ?_ ?_ | refine Q2d fun j hj=>?_)<;>first | rfl | exact Qm0 hJ6.1 _ | exact Qm1 hJ9.1 _ | exact Q6x _ hj | (intro i _;rw [Qgc hJ6.2 (of_decide_eq_false h7)];exact Qol _ _ _ i) | (rw [Qgc hJ6.2 (of_decide_eq_false h7)];show dfF _ _ j=_;unfold dfF;first | rw [if_pos (show dfB _=true from h8)] | rw [if_neg (show ¬ dfB _=true from by rw [show dfB _=false from h8];decide)]) | (intro i _ hne;unfold putW;rw [if_neg hne]) | (rw [Qb9 hJ9.2 (of_decide_eq_false h10)];unfold putW;rw [if_pos rfl,Q6x _ hj]) | (simp only [Conj];(repeat' apply And.intro)<;>(intro i _;funext j;refine (Qj2 j).trans ?_;rfl))):p:=h
theorem W27{p:Prop}(h:p:=by first | assumption | exact hs | exact hl | (rw [show un=thrL gs from (by rw [hJ2.2.2,List.take_of_length_le W247])];exact Qjx hg) | exact Qg2 (hJ8.done (of_decide_eq_false h9)) (fun j=>(hw _ j).1) | exact (Q1i h7).2 | (have z:=Q0h h1;have a1:=@Q5t true sh [];have a2:=@Q5t false lk ((namR true sh []).getD []);simp only [List.length_nil] at *;first | omega | (rw [show un=thrL gs from (by rw [hJ2.2.2,List.take_of_length_le W247])];unfold thrL;rw [List.length_map];omega))):p:=h
theorem W31{p:Prop}(h:p:=by simp only [Conj,Fits,Q7,Q8,Q9,Qa,News.len,maxLen]<;>(repeat' apply And.intro)<;>first | (have z:=(hJ1.1.popI W235).cur _ _ rfl;have z1:=hJ1.1.len;omega) | (have z:=hJ4.1.cur _ _ rfl;have z1:=hJ4.1.len;have q:=of_decide_eq_true h5;have z2:=hq _ (by omega) _ (Y3 q z.2.2.2.1);have z3:=Yz (g.nodes.getD (ui.getD ((ui.length:Int)-(1:Int)).toNat (0:Int)).toNat default);have z4:=Zx uv;have z5:=Zx ud;have z6:=hJ1.1.len;have z7:=hJ4.2.1;have z8:=hJ1.2;exact W226) | grind):p:=h
theorem W32{p:Prop}(h:p:=by first | rfl | (have z:=Q5s (l:=nw0++[(g.nodes.getD (ul.getD ud.toNat 0).toNat default).thing]) hTabX9 (by simp) (fun i hi=>Qh2 hi);exact ⟨hInX9,z.1,by rw [z.2,hCC98A.symm];exact Q8u h3⟩) | (have z:=Q5s (l:=List.take (((nw0.length:Int)-(1:Int)).toNat-0) (List.drop 0 nw0)) hTabX9 (by rw [List.length_take,List.drop_zero];omega) (fun i hi=>Qh3 hi);exact ⟨hInX9,z.1,by rw [z.2,hCC98A.symm];exact Qav h3 h4 h5⟩) | (have z:=Q5s (l:=nw0) hTabX9 rfl (fun i hi=>rfl);exact ⟨hInX9,z.1,by rw [z.2,hCC98A.symm];first | exact Q0i h3 h4 (fun q=>by have q1:=of_decide_eq_false h6;have q2:=q.2;omega) | exact Q0i h3 h4 (fun q=>(of_decide_eq_false h5) q.1)⟩)):p:=h
theorem W33{p:Prop}(h:p:=by simp only [Conj];first | (rw [CJ.first (by rw [Q6t h1];rfl)];exact ⟨rfl,rfl,rfl⟩) | (rw [CJ.first (Qdk h1 (by rw [hJ2.2.2,List.take_of_length_le W247]) h4)];exact ⟨rfl,rfl,rfl⟩) | (rw [hJ5.bad (of_decide_eq_true h6) h7];exact ⟨rfl,rfl,rfl⟩) | (rw [hJ5.nods (of_decide_eq_true h6) h7 (hJ8.bad (of_decide_eq_true h9) (Q90 h10 (hw _ _)))];exact ⟨rfl,rfl,rfl⟩) | (rw [hJ5.held (of_decide_eq_true h6) h7 (hJ8.done (of_decide_eq_false h9)) h10];exact ⟨rfl,rfl,rfl⟩) | (rw [hJ5.done (of_decide_eq_false h6)];exact ⟨rfl,rfl,rfl⟩)):p:=h
theorem W35{p:Prop}(h:p:=by simp only [Conj,Fits,Q7,Q8,Q9,Qa,News.len,maxLen]<;>(repeat' apply And.intro)<;>first | (have q:=of_decide_eq_true h2;exact W243) | (have q:=of_decide_eq_false h2;exact W243) | (have q:=of_decide_eq_true h4;have z:=hJ3;have e:=congrArg List.length hJ3.2.2.2;have y:=Q04 sh lk al (fun j h=>(hac j h).2) ug.toNat (by omega);have y2:=hac ug.toNat (by omega);have e2:=congrArg List.length hJ3.2.2.1;rw [Q48] at e2;exact W226) | grind):p:=h
theorem W36{p:Prop}(h:p:=by simp only [Conj,Fits,Q7,Q8,Q9,Qa,News.len,maxLen]<;>(repeat' apply And.intro)<;>first | (have z:=Q0h h1;have z2:un.length≤8:=(by rw [hJ2.2.2];unfold thrL;rw [List.length_map,List.length_take];omega);have q0:=hJ2.1;simp only [BL] at *;omega) | (have q0:=hJ5.t0;have q1:=of_decide_eq_true h6;simp only [BL] at *;omega) | (have q0:=hJ8.i0;have q1:=of_decide_eq_true h9;have q2:=(Q1i h7).2;simp only [BL] at *;omega) | grind):p:=h
theorem W37{p:Prop}(h:p:=by first | assumption | omega):p:=h
theorem W40{p:Prop}(h:p:=by simp only [Conj,Fits,Q7,Q8,Q9,Qa,News.len,maxLen]<;>(repeat' apply And.intro)<;>first | (have q:=of_decide_eq_true h3;have q1:=of_decide_eq_true h5;have z2:=hq _ (by omega) _ (Y3 q1 hJ4.1);have z3:=congrArg List.length hJ4.2.2;rw [Qay] at z3;have z4:=Qej g.nodes ue.toNat ur.toNat ((flwL (g.nodes.getD ue.toNat default)).getD ur.toNat 0).toNat;rw [← hJ4.2.2] at z4;have z5:=Yz (g.nodes.getD ue.toNat default);exact W226) | grind):p:=h
theorem W44{p:Prop}(h:p:=by first | exact hJ3.skip (of_decide_eq_true h4) (nb3 h5) | exact hJ3.same (of_decide_eq_true h4) (fun j hj=>by have z:=of_decide_eq_true ((Q2g _ 65 0).1 (nb1 h11) j (Nat.zero_le _) (by omega));rw [Qb9 hJ9.2 (of_decide_eq_false h10)] at z;exact z) | exact hJ3.diff hq hS (of_decide_eq_true h4) (nb1 h5) (fun hh=>by have z:=nb3 h11;rw [(Q2g _ 65 0).2 (fun j _ hj=>decide_eq_true (by rw [Qb9 hJ9.2 (of_decide_eq_false h10)];exact hh j (by omega)))] at z;cases z) _):p:=h
theorem W53{p:Prop}(h:p:=by (first | rw [Qof hs1 h3] | rw [Qog hs1 h3] | rw [Qqg (by omega)] | rw [Qqh (by omega)])<;>(try simp only [Conj])<;>(repeat' apply And.intro)<;>first | rfl | trivial | (intros;trivial)):p:=h
theorem W58{p:Prop}(h:p:=by (try simp only [Conj])<;>(repeat' apply And.intro)<;>first | trivial | (intros;rfl) | exact Y6 _ _ | exact List.length_set | exact List.length_replicate | (intro i q;exact Qat _ _ rfl i (by simpa using q)) | (intro i q;exact Qct _ _ _ i q) | (intro i q;exact Q3t _ _ _ i q) | (intro i q;exact Q7u i q) | (simp;done) | (intro i h1 h2;rw [Yb h1 h2]) | (rw [Qw];rfl)):p:=h
theorem W66{p:Prop}(h:p:=by (try simp only [Conj])<;>(repeat' apply And.intro)<;>first | trivial | exact Y6 _ _ | exact List.length_set | (intro i q;exact Q7u i (by simpa using q)) | (intro i q;exact Q3t _ _ _ i q) | (intro i q1 q2;simp at q1;omega) | (rw [List.length_set,List.length_replicate]) | (rw [List.length_take];omega) | (intro i q;rw [List.getD_eq_getElem?_getD,List.getElem?_take_of_lt (by simp at q;omega),← List.getD_eq_getElem?_getD]) | (intro i h1 h2;rw [Yb h1 h2]) | (rw [Qw];rfl)):p:=h
theorem W72{p:Prop}(h:p:=by (repeat' refine Q2d fun j hj=>?_)<;>first | (show joinW w (W ix) 0 j=w j;rw [Qek]) | (have q:=of_decide_eq_true h2;rw [Qel w (W ix) hJ1.1,Qb2 (joinW w (W ix) ud.toNat) (show ud.toNat<65 by have z:=hJ1.1;omega),Qb2 (W ix) (show ud.toNat<65 by have z:=hJ1.1;omega)]) | (have q:=of_decide_eq_false h2;rw [show ud.toNat=65 by have z:=hJ1.1;have z1:=hJ1.2;omega])):p:=h
theorem W73{p:Prop}(h:p:=by simp only [Conj];first | exact hJ1.fault (of_decide_eq_true h2) hCC98A (Q7t h3 h4 h5) | exact hJ1.fault (of_decide_eq_true h2) hCC98A (Q5h h3 h4 h5 h6) | exact hJ1.done (of_decide_eq_false h2) | exact hJ3.fault (of_decide_eq_true h4) (hq _ W229) h5 h6):p:=h
theorem W75{p:Prop}(h:p:=by simp only [Conj,Fits,Q7,Q8,Q9,Qa,News.len,maxLen]<;>(repeat' apply And.intro)<;>(exact W232)):p:=h
theorem W86{p:Prop}(h:p:=by simp only [Conj,Fits,Q7,Q8,Q9,Qa,News.len,maxLen]<;>(repeat' (first | apply And.intro | intro _))<;>first | (have z:=Int.tdiv_eq_ediv_of_nonneg (b:=64) hk.1;omega) | (have z:=Int.tmod_eq_emod_of_nonneg (b:=64) hk.1;omega) | grind):p:=h
theorem W88{p:Prop}(h:p:=by have q:=of_decide_eq_true h5;first | exact ⟨hJ4.1.old q (by simpa using h6),hJ4.2⟩ | (have z:=hJ4.1.cur _ _ rfl;have z1:=hJ4.1.len;have z2:=hq _ (by omega) _ (Y3 q z.2.2.2.1);refine ⟨hJ4.1.new hq q,?_,hJ4.2.2⟩;have z3:=G7 (l:=uv) (i:=((flwL (g.nodes.getD (ui.getD ((ui.length:Int)-(1:Int)).toNat (0:Int)).toNat default)).getD ur.toNat 0).toNat) (by omega) (by simpa using h6);have z4:=hJ4.2.1;(try dsimp only at z4 ⊢);simp only [List.length_append,List.length_singleton];omega)):p:=h
theorem W89{p:Prop}(h:p:=by obtain ⟨k0,k1,k2,k3⟩:=hJ1;simp only [Conj];first | (obtain ⟨q0,q1,q3⟩:=hJ3;have e:namR w l []=none:=(by rw [k3];refine Qh0 (by have:=of_decide_eq_true h2;omega) ?_;rw [← Q49 (k:=ug.toNat) (by have:=of_decide_eq_false h4;omega),← q3];simpa using h5);rw [e];exact ⟨rfl,rfl⟩) | (have e:namR w l []=some uf:=(by rw [k3,List.drop_eq_nil_of_le (by have:=of_decide_eq_false h2;omega)];rfl);rw [e];(repeat' apply And.intro)<;>first | rfl | (intros;rfl))):p:=h
theorem W90{p:Prop}(h:p:=by obtain ⟨k0,k1,k2,k3⟩:=hJ1;simp only [Conj];first | (obtain ⟨q0,q1,q3⟩:=hJ3;have e:namR w l A=none:=(by rw [k3];refine Qh0 (by have:=of_decide_eq_true h2;omega) ?_;rw [← Q49 (k:=ug.toNat) (by have:=of_decide_eq_false h4;omega),← q3];simpa using h5);rw [e];exact ⟨rfl,rfl⟩) | (have e:namR w l A=some uf:=(by rw [k3,List.drop_eq_nil_of_le (by have:=of_decide_eq_false h2;omega)];rfl);rw [e];(repeat' apply And.intro)<;>first | rfl | (intros;rfl))):p:=h
theorem W92{p:Prop}(h:p:=by first | assumption | omega | exact hJ3.isv | exact hJ3.is (hJ3.to_ (of_decide_eq_true h4) (hq _ W229)) | exact Nat.le_trans (hJ3.short (hJ3.to_ (of_decide_eq_true h4) (hq _ W229))) (by have a:=hJ3.kn;have b:=hJ3.k0;omega)):p:=h
theorem W99{p:Prop}(h:p:=by simp only [Conj,Fits,Q7,Q8,Q9,Qa,News.len,maxLen]<;>(repeat' apply And.intro)<;>first | (have z:=Yz (g.nodes.getD ue.toNat default);have q:=of_decide_eq_true h6;omega) | grind):p:=h
theorem W102{p:Prop}(h:p:=by simp only [Conj];first | exact Q80 (by simp at h1;omega) | exact Q5r hJ2.2.2.1 hJ2.2.2.2 h3 | exact Q81 (by show ¬ ((rd X (.slice A nn cc)).getD ue.toNat 0=(rd X (.slice A2 n2 c2)).getD ue.toNat 0);simpa only [Bool.not_eq_true',decide_eq_false_iff_not] using h4)):p:=h
theorem W119{p:Prop}(h:p:=by (first | rw [hJ1.found (of_decide_eq_true h2) (of_decide_eq_true h3)] | rw [hJ1.done (of_decide_eq_false h2)])<;>(try simp only [Conj])<;>(repeat' apply And.intro)<;>rfl):p:=h
theorem W128{p:Prop}(h:p:=by (try simp only [Conj])<;>(repeat' apply And.intro)<;>first | exact Y6 _ _ | (intro i h1 h2;rw [Yb h1 h2]) | (rw [Qw];rfl)):p:=h
theorem W129{p:Prop}(h:p:=by simp only [Conj];first | exact Qn0 h1 | exact Qjq h3 | exact Qjr h1 h2 h3 | exact Qjs h1 h2 h3):p:=h
theorem W133{p:Prop}(h:p:=by simp only [Conj,uS,uT,uA,uN];simp only [BL] at *;grind):p:=h
theorem W134{p:Prop}(h:p:=by first | exact ⟨Qjc hJ1.2.2 (by have q:=of_decide_eq_false h2;omega),Qjd hJ1.2.2 (by have q:=of_decide_eq_false h2;omega)⟩ | exact ⟨Qje hJ3.2.2.2 W248,Qjf hJ3.2.2.2 W248⟩):p:=h
theorem W153{p:Prop}(h:p:=by first | exact hJ3.put (of_decide_eq_true h4) (hq _ W229) h5 rfl | exact hJ3.skip (of_decide_eq_true h4) (hq _ W229) h5 h6):p:=h
theorem W158{p:Prop}(h:p:=by (try simp only [Conj])<;>(repeat' apply And.intro)<;>first | exact Y6 _ _ | (intro i q;exact Q27 _ _ _ _ i q)):p:=h
theorem W159{p:Prop}(h:p:=by simp only [Conj,Fits,Q7,Q8,Q9,Qa,News.len,maxLen]<;>(repeat' apply And.intro)<;>(have z:=hJ1.1;have z1:=hJ1.2.1;exact W235)):p:=h
theorem W161{p:Prop}(h:p:=by simp only [Conj,Fits,Q7,Q8,Q9,Qa,News.len,maxLen]<;>(repeat' apply And.intro)<;>first | (have z:=hJ1.1;exact W235) | grind):p:=h
theorem W163{p:Prop}(h:p:=by simp only [Conj]<;>(repeat' apply And.intro)<;>first | trivial | (intros;trivial)):p:=h
theorem W165{p:Prop}(h:p:=by first | assumption | exact Qlu _ | decide | omega):p:=h
theorem W170{p:Prop}(h:p:=by dsimp only [uY];exact W248):p:=h
theorem W174{p:Prop}(h:p:=by exact W235):p:=h
theorem W180{p:Prop}(h:p:=by simp only [Conj,valR] at *;first | (obtain ⟨a,b,c⟩:=v;simp_all;done) | grind):p:=h
theorem W195{p:Prop}(h:p:=by dsimp only [vh];have q:=of_decide_eq_true h5;have z:=hJ4.1.cur _ _ rfl;omega):p:=h
theorem W201{p:Prop}(h:p:=by dsimp only [vi];exact W244):p:=h
theorem W205{p:Prop}(h:p:=by dsimp only [uZ];have q:=of_decide_eq_true h10;have z:=hJ9.1;omega):p:=h
theorem W206{p:Prop}(h:p:=by have q:=of_decide_eq_true h10;have z:=hJ9.1;exact ⟨by omega,by omega⟩):p:=h
theorem W216{p:Prop}(h:p:=by exact W229):p:=h
theorem W221{p:Prop}(h:p:=by rw [Qha];exact h7):p:=h
theorem W226{p:Prop}(h:p:=by (try simp only [maxLen] at *);omega):p:=h
theorem W228{p:Prop}(h:p:=by have q:=of_decide_eq_true h2;have z:=hJ1.1;omega):p:=h
theorem W230{p:Prop}(h:p:=by have q:=of_decide_eq_true h4;have z:=hJ3.1;omega):p:=h
theorem W232{p:Prop}(h:p:=by have q:=of_decide_eq_true h2;have a1:=hJ1.at_ q;have a2:=hJ1.most;have a3:=hJ1.len;have a4:=hJ1.k0;have a5:=hJ1.kn;have a6:=hJ1.short q;have a7:=hJ1.fl;(try (have a8:nw0.length≤4096:=(by rw [hCC98A];omega)));exact W238):p:=h
theorem W235{p:Prop}(h:p:=by have q:=of_decide_eq_true h2;omega):p:=h
theorem W243{p:Prop}(h:p:=by have z:=hJ1;have e:=congrArg List.length hJ1.2.2;rw [List.length_map,List.length_take] at e;exact W226):p:=h
theorem W245{p:Prop}(h:p:=by have q:=of_decide_eq_true h4;have z:=hJ3.hi;omega):p:=h
theorem W247{p:Prop}(h:p:=by have q:=of_decide_eq_false h3;omega):p:=h
theorem W248{p:Prop}(h:p:=by have q:=of_decide_eq_true h4;omega):p:=h
end Go
noncomputable section
namespace Go.Proofs.YtnddggenhefaeaaGreatDoor
open Go Go.Tx
theorem Qjt {n:Nod} {x:Int} (h:x∈flwR n):x∈flwL n:=by
 unfold flwR at h
 unfold flwL
 split at h
 ·cases h
 ·rename_i h9
  rw [if_neg h9]
  split at h
  ·rename_i h8
   split
   ·exact h
   ·rename_i hn
    have e:n.els=n.next:=Classical.byContradiction fun q=>hn ⟨h8,q⟩
    rw [e] at h
    simpa using h
  ·rename_i h8
   rw [if_neg (fun q=>h8 q.1)];exact h
theorem Qju (n:Nod):(flwR n).length≤2:=by unfold flwR;split<;>(try split)<;>simp
theorem Qn1 {now:List Int} {q:HL→HF→List Int→Int} {n:Int} {L:HL} {F:HF} {T:List Int} (hn:n.toNat<L.length):hIn now q [n,n] L F T=hIn now q [n] L F T:=by
 simp only [hIn]
 split
 ·rw [if_neg W162,if_pos]
  rw [jc,jG hn];rfl
 ·split
  ·rfl
  ·rfl
theorem Qr8 {now:List Int} {q:HL→HF→List Int→Int} {nd:Nod} {L:HL} {F:HF} {T:List Int} (h:∀ x∈flwL nd,x.toNat<L.length):hIn now q (flwL nd) L F T=hIn now q (flwR nd) L F T:=by
 by_cases h8:nd.kind=8∧nd.els=nd.next
 ·have h9:¬ nd.kind=9:=by have:=h8.1;omega
  have e1:flwL nd=[nd.next]:=by unfold flwL;rw [if_neg h9,if_neg (fun q=>q.2 h8.2)]
  have e2:flwR nd=[nd.next,nd.next]:=by unfold flwR;rw [if_neg h9,if_pos h8.1,h8.2]
  rw [e1,e2,Qn1 (h _ (by rw [e1];exact .head _))]
 ·have:flwL nd=flwR nd:=by
   unfold flwL flwR
   split
   ·rfl
   ·split
    ·rename_i q;rw [if_pos q.1]
    ·rename_i q
     rw [if_neg (fun k=>q ⟨k,fun e=>h8 ⟨k,e⟩⟩)]
  rw [this]
def FM (ns:List Nod) (F:List Bo) (F':HF):Prop:=∀ x:Int,0≤x→x<(ns.length:Int)→(F.getD x.toNat ua).b=(F' x).getD false
theorem FM.put {ns:List Nod} {F:List Bo} {F':HF} (h:FM ns F F') (hl:F.length=ns.length) {to:Int} (h0:0≤to) (h1:to<(ns.length:Int)):FM ns (F.set to.toNat ⟨true⟩) (fun a=>if a=to then some true else F' a):=by
 intro x hx0 hx1
 rw [jc,List.getElem?_set]
 by_cases e:x=to
 ·subst e
  simp [show x.toNat<F.length by omega]
 ·show _=(if x=to then some true else F' x).getD false
  rw [if_neg W30,if_neg e,← jc];exact h x hx0 hx1
structure RJ (ns:List Nod) (k:Int) (X:Ext) (V:List Hdl) (F:List Bo) (T:List Int):Prop where
 fl:F.length=ns.length
 ex:∃ F',FM ns F F'∧HJ ns k X V 0 F' T
structure RK (ns:List Nod) (k:Int) (nd:Nod) (vv:Value) (nw:List Int) (i:Int) (X:Ext) (V:List Hdl) (F:List Bo) (T:List Int):Prop where
 i0:0≤i
 il:i≤((flwR nd).length:Int)
 k0:0≤k
 kn:k<(ns.length:Int)
 fl:F.length=ns.length
 all:Alls X V
 isv:Is X vv
 nv:rd X vv=nw
 nl:nw.length≤k.toNat+1
 ex:∃ F',FM ns F F'∧HInv ns.length (k.toNat+1) (rds X V) F' T∧heldF ns=hIn nw (hOut ns (ns.length-k.toNat) (k.toNat+1)) ((flwR nd).drop i.toNat) (rds X V) F' T
theorem HJ.zero {ns:List Nod} {k:Int} {X:Ext} {V:List Hdl} {n:Nat} {F:HF} {T:List Int} (h:HJ ns k X V n F T):HJ ns k X V 0 F T:=⟨h.k0,h.kn,h.inv,h.all,j9 _,h.run⟩
theorem RJ.start {ns:List Nod} (h:1≤ns.length) (X:Ext):RJ ns 0 X (jh ns.length Hdl.none) ((jh ns.length ⟨false⟩).set 0 ⟨true⟩) [0]:=by
 refine ⟨by simp,_,?_,HJ.start h X |>.zero⟩
 intro x h0 h1
 rw [jc,List.getElem?_set]
 by_cases e:x=0
 ·subst e;simp [show 0<ns.length by omega]
 ·show _=(if x=0 then some true else none).getD false
  rw [if_neg W30,if_neg e,jX,if_pos W30];rfl
section
variable {ns:List Nod} {k:Int} {X:Ext} {V:List Hdl} {F:List Bo} {T:List Int}
theorem RJ.k0 (h:RJ ns k X V F T):0≤k:=by obtain ⟨_,_,h⟩:=h.ex;exact h.k0
theorem RJ.kn (h:RJ ns k X V F T):k≤(ns.length:Int):=by obtain ⟨_,_,h⟩:=h.ex;exact h.kn
theorem RJ.len (h:RJ ns k X V F T):V.length=ns.length:=by obtain ⟨_,_,h⟩:=h.ex;exact h.len
theorem RJ.at_ (h:RJ ns k X V F T) (hk:k<(T.length:Int)):0≤T.getD k.toNat 0∧T.getD k.toNat 0<(ns.length:Int):=by obtain ⟨_,_,h⟩:=h.ex;exact h.at_ hk
theorem RJ.most (h:RJ ns k X V F T):T.length≤ns.length:=by obtain ⟨_,_,h⟩:=h.ex;exact h.most
theorem RJ.is (h:RJ ns k X V F T) (hk:k<(T.length:Int)):Is X (V.getD (T.getD k.toNat 0).toNat ua).v:=by obtain ⟨_,_,h⟩:=h.ex;exact h.is hk
theorem RJ.short (h:RJ ns k X V F T) (hk:k<(T.length:Int)):(rd X (.slice (V.getD (T.getD k.toNat 0).toNat ua).a (V.getD (T.getD k.toNat 0).toNat ua).n (V.getD (T.getD k.toNat 0).toNat ua).c)).length≤k.toNat:=by obtain ⟨_,_,h⟩:=h.ex;exact h.short hk
theorem RJ.fault (h:RJ ns k X V F T) (hk:k<(T.length:Int)) {l:List Int} (hl:l=rd X (V.getD (T.getD k.toNat 0).toNat ua).v) (hn:nowH (ns.getD (T.getD k.toNat 0).toNat ua) l=none):heldF ns=T.getD k.toNat 0:=by
 obtain ⟨_,_,h⟩:=h.ex;subst hl;exact h.fault hk hn
theorem RJ.done (h:RJ ns k X V F T) (hk:¬ k<(T.length:Int)):heldF ns=-1:=by obtain ⟨_,_,h⟩:=h.ex;exact h.done hk
theorem RJ.inner (h:RJ ns k X V F T) (hk:k<(T.length:Int)) (hq:∀ x∈flwL (ns.getD (T.getD k.toNat 0).toNat ua),0≤x∧x<(ns.length:Int)) {X':Ext} {vv:Value} (hin:X.Into X') (his:Is X' vv)
 (hn:nowH (ns.getD (T.getD k.toNat 0).toNat ua) (rd X (V.getD (T.getD k.toNat 0).toNat ua).v)=some (rd X' vv)) :
 RK ns k (ns.getD (T.getD k.toNat 0).toNat ua) vv (rd X' vv) 0 X' V F T:=by
 have fl:=h.fl
 obtain ⟨F',hf,h⟩:=h.ex
 have hk':=h.inner hk hn
 have ha:=Q8t hin h.all
 refine ⟨jz _,by omega,h.k0,hk'.kn,fl,ha.1,his,rfl,hk'.nl,F',hf,by rw [ha.2];exact hk'.inv,?_⟩
 rw [ha.2,hk'.run]
 exact Qr8 (fun x hx=>by have:=hq x hx;rw [Jk,h.len];omega)
end
section
variable {ns:List Nod} {k:Int} {nd:Nod} {vv:Value} {nw:List Int} {i:Int} {X:Ext} {V:List Hdl} {F:List Bo} {T:List Int}
theorem RK.len (h:RK ns k nd vv nw i X V F T):V.length=ns.length:=by obtain ⟨_,_,h,_⟩:=h.ex;rw [← Jk X V];exact h.len
theorem RK.most (h:RK ns k nd vv nw i X V F T):T.length≤ns.length:=by obtain ⟨_,_,h,_⟩:=h.ex;exact h.le
theorem RK.to_ (h:RK ns k nd vv nw i X V F T) (hi:i<((flwR nd).length:Int)) (hq:∀ x∈flwL nd,0≤x∧x<(ns.length:Int)):0≤(flwR nd).getD i.toNat 0∧(flwR nd).getD i.toNat 0<(ns.length:Int):=by
 have h0:=h.i0
 have hlt:i.toNat<(flwR nd).length:=by omega
 rw [jc,jd hlt]
 exact hq _ (Qjt (jN hlt))
theorem RK.drop (h:RK ns k nd vv nw i X V F T) (hi:i<((flwR nd).length:Int)):(flwR nd).drop i.toNat=(flwR nd).getD i.toNat 0::(flwR nd).drop (i.toNat+1):=by
 have h0:=h.i0
 have hlt:i.toNat<(flwR nd).length:=by omega
 rw [ki hlt,jc,jd hlt];rfl
theorem RK.is (h:RK ns k nd vv nw i X V F T) {to:Int} (h0:0≤to∧to<(ns.length:Int)):Is X (V.getD to.toNat ua).v:=Q29 h.all (by have:=h.len;omega)
theorem RK.short (h:RK ns k nd vv nw i X V F T) {to:Int} (h0:0≤to∧to<(ns.length:Int)):(rd X (V.getD to.toNat ua).v).length≤k.toNat+1:=by
 have hl:=h.len
 obtain ⟨_,_,hi,_⟩:=h.ex
 rw [← Gh X V _ W30];exact hi.short _
theorem RK.put (h:RK ns k nd vv nw i X V F T) (hi:i<((flwR nd).length:Int)) (hq:∀ x∈flwL nd,0≤x∧x<(ns.length:Int)) (hf:(!(F.getD ((flwR nd).getD i.toNat 0).toNat ua).b)=true) {A:Option Addr} {n c:Nat} (hv:vv=.slice A n c) :
 RK ns k nd vv nw (i+1) X (V.set ((flwR nd).getD i.toNat 0).toNat ⟨A,n,c⟩) (F.set ((flwR nd).getD i.toNat 0).toNat ⟨true⟩) (T++[(flwR nd).getD i.toNat 0]):=by
 have h0:=h.to_ hi hq
 have e:=h.i0
 have hfl:=h.fl
 have hd:=h.drop hi
 have hnl:=h.nl
 obtain ⟨F',hm,hinv,hrun⟩:=h.ex
 have hf':(F' ((flwR nd).getD i.toNat 0)).getD false=false:=by rw [← hm _ h0.1 h0.2];simpa using hf
 have hv':vv=(⟨A,n,c⟩:Hdl).v:=hv
 have hr:rds X (V.set ((flwR nd).getD i.toNat 0).toNat ⟨A,n,c⟩)=(rds X V).set ((flwR nd).getD i.toNat 0).toNat nw:=by
  unfold rds;rw [List.map_set,← hv',h.nv]
 refine ⟨by omega,by omega,h.k0,h.kn,by rw [jF];exact hfl,fun x hx=>?_,h.isv,h.nv,hnl,_,hm.put hfl h0.1 h0.2,by rw [hr];exact hinv.put hf' h0.1 h0.2 hnl,?_⟩
 ·rcases ku hx with hx | rfl
  ·exact h.all x hx
  ·rw [← hv'];exact h.isv
 ·rw [hrun,hd,hIn,if_pos hf',hr,show (i+1).toNat=i.toNat+1 by omega]
theorem RK.skip (h:RK ns k nd vv nw i X V F T) (hi:i<((flwR nd).length:Int)) (hq:∀ x∈flwL nd,0≤x∧x<(ns.length:Int)) (hf:(!(F.getD ((flwR nd).getD i.toNat 0).toNat ua).b)=false)
 (he:(!decide (rd X (V.getD ((flwR nd).getD i.toNat 0).toNat ua).v=rd X vv))=false):RK ns k nd vv nw (i+1) X V F T:=by
 have h0:=h.to_ hi hq
 have e:=h.i0
 have hd:=h.drop hi
 have hl:=h.len
 have he:rd X (V.getD ((flwR nd).getD i.toNat 0).toNat ua).v=nw:=by rw [← h.nv];simpa using he
 obtain ⟨F',hm,hinv,hrun⟩:=h.ex
 have hf':(F' ((flwR nd).getD i.toNat 0)).getD false=true:=by rw [← hm _ h0.1 h0.2];simpa using hf
 refine ⟨by omega,by omega,h.k0,h.kn,h.fl,h.all,h.isv,h.nv,h.nl,F',hm,hinv,?_⟩
 rw [hrun,hd,hIn,if_neg (by rw [hf'];decide),Gh X V _ W30,if_pos he,show (i+1).toNat=i.toNat+1 by omega]
theorem RK.fault (h:RK ns k nd vv nw i X V F T) (hi:i<((flwR nd).length:Int)) (hq:∀ x∈flwL nd,0≤x∧x<(ns.length:Int)) (hf:(!(F.getD ((flwR nd).getD i.toNat 0).toNat ua).b)=false)
 (he:(!decide (rd X (V.getD ((flwR nd).getD i.toNat 0).toNat ua).v=rd X vv))=true):heldF ns=(flwR nd).getD i.toNat 0:=by
 have h0:=h.to_ hi hq
 have hd:=h.drop hi
 have hl:=h.len
 have he:¬ rd X (V.getD ((flwR nd).getD i.toNat 0).toNat ua).v=nw:=by rw [← h.nv];simpa using he
 obtain ⟨F',hm,hinv,hrun⟩:=h.ex
 have hf':(F' ((flwR nd).getD i.toNat 0)).getD false=true:=by rw [← hm _ h0.1 h0.2];simpa using hf
 rw [hrun,hd,hIn,if_neg (by rw [hf'];decide),Gh X V _ W30,if_neg he]
theorem RK.done (h:RK ns k nd vv nw i X V F T) (hi:¬ i<((flwR nd).length:Int)):RJ ns (k+1) X V F T:=by
 have h1:=h.il
 have h2:=h.k0
 have h3:=h.kn
 obtain ⟨F',hm,hinv,hrun⟩:=h.ex
 refine ⟨h.fl,F',hm,by omega,by omega,by rw [show (k+1).toNat=k.toNat+1 by omega];exact hinv,h.all,j9 _,?_⟩
 rw [hrun,j8 W30,hIn,show (k+1).toNat=k.toNat+1 by omega,show ns.length+1-(k.toNat+1)=ns.length-k.toNat by omega]
end
theorem Q5s {X:Ext} {v:Value} {n:Nat} {f:Nat→Nat→TC} (h:X.Tab v 1 n f) {l:List Int} (hl:l.length=n) (hf:∀ i,i<n→f i 0=i64T (l.getD i 0) 0):Is X v∧rd X v=l:=by
 have:X.Tab v 1 l.length (fun j=>i64T (l.getD j 0)):=by
  obtain ⟨A,c,e1,h1,h2,h3,h4⟩:=h
  subst hl
  refine ⟨A,c,e1,h1,h2,h3,fun hn=>?_⟩
  obtain ⟨ad,e2,h5⟩:=h4 hn
  refine ⟨ad,e2,fun i j hi hj=>?_⟩
  obtain ⟨u,k1,k2⟩:=h5 i j hi hj
  have hj0:j=0:=by omega
  subst hj0
  refine ⟨u,k1,?_⟩
  rw [hf i hi] at k2
  exact k2
 exact ⟨⟨l,this⟩,Q9n this⟩
theorem Qh2 {l:List Int} {x:Int} {i:Nat} (hi:i<l.length+1):(if i=l.length then i64T x else i64T (l.getD i (0:Int))) 0=i64T ((l++[x]).getD i 0) 0:=by
 exact congrFun (Q27 (0:Int) i64T l x i W218).symm 0
theorem Qh3 {l:List Int} {m i:Nat} (hi:i<m):i64T (l.getD i (0:Int)) 0=i64T ((jR m (List.drop 0 l)).getD i 0) 0:=by
 rw [List.drop_zero,jc,jc,List.getElem?_take_of_lt hi]
theorem Qf1 (p k h m:Int):withinP p k h m=numR k (usesB p h) m:=by
 unfold withinP numR;cases usesB p h<;>simp
theorem Qh4 (p s:Int) (v:Vl) (h:Int):valueP p s v h=valR v (usesB p h) s:=by
 unfold valueP valR;cases usesB p h<;>simp
section
variable {n:Nod}
theorem Qp6 (hk:1≤n.kind∧n.kind≤9):usesB (prtN n) 1=decide (n.kind=1):=by
 have q:n.kind=1∨n.kind=2∨n.kind=3∨n.kind=4∨n.kind=5∨n.kind=6∨n.kind=7∨n.kind=8∨n.kind=9:=by omega
 unfold prtN
 rcases q with q | q | q | q | q | q | q | q | q<;>rw [q]<;>(cases twoB n.op)<;>rfl
theorem Qp7 (hk:1≤n.kind∧n.kind≤9):usesB (prtN n) 2=uS n.kind:=by
 have q:n.kind=1∨n.kind=2∨n.kind=3∨n.kind=4∨n.kind=5∨n.kind=6∨n.kind=7∨n.kind=8∨n.kind=9:=by omega
 unfold prtN
 rcases q with q | q | q | q | q | q | q | q | q<;>rw [q]<;>(cases twoB n.op)<;>rfl
theorem Qp8 (hk:1≤n.kind∧n.kind≤9):usesB (prtN n) 4=uT n.kind:=by
 have q:n.kind=1∨n.kind=2∨n.kind=3∨n.kind=4∨n.kind=5∨n.kind=6∨n.kind=7∨n.kind=8∨n.kind=9:=by omega
 unfold prtN
 rcases q with q | q | q | q | q | q | q | q | q<;>rw [q]<;>(cases twoB n.op)<;>rfl
theorem Qp9 (hk:1≤n.kind∧n.kind≤9):usesB (prtN n) 8=uA n.kind:=by
 have q:n.kind=1∨n.kind=2∨n.kind=3∨n.kind=4∨n.kind=5∨n.kind=6∨n.kind=7∨n.kind=8∨n.kind=9:=by omega
 unfold prtN
 rcases q with q | q | q | q | q | q | q | q | q<;>rw [q]<;>(cases twoB n.op)<;>rfl
theorem Qn2 (hk:1≤n.kind∧n.kind≤9):usesB (prtN n) 16=(decide (n.kind=1)&&twoB n.op):=by
 have q:n.kind=1∨n.kind=2∨n.kind=3∨n.kind=4∨n.kind=5∨n.kind=6∨n.kind=7∨n.kind=8∨n.kind=9:=by omega
 unfold prtN
 rcases q with q | q | q | q | q | q | q | q | q<;>rw [q]<;>(cases twoB n.op)<;>rfl
theorem Qn3 (hk:1≤n.kind∧n.kind≤9):usesB (prtN n) 32=uN n.kind:=by
 have q:n.kind=1∨n.kind=2∨n.kind=3∨n.kind=4∨n.kind=5∨n.kind=6∨n.kind=7∨n.kind=8∨n.kind=9:=by omega
 unfold prtN
 rcases q with q | q | q | q | q | q | q | q | q<;>rw [q]<;>(cases twoB n.op)<;>rfl
theorem Qn4 (hk:1≤n.kind∧n.kind≤9):usesB (prtN n) 64=decide (n.kind=8):=by
 have q:n.kind=1∨n.kind=2∨n.kind=3∨n.kind=4∨n.kind=5∨n.kind=6∨n.kind=7∨n.kind=8∨n.kind=9:=by omega
 unfold prtN
 rcases q with q | q | q | q | q | q | q | q | q<;>rw [q]<;>(cases twoB n.op)<;>rfl
theorem Qpa (ho:0≤n.op):numR n.op (decide (n.kind=1)) 19=!opR n:=by
 unfold numR opR
 by_cases h:n.kind=1
 ·simp only [h,decide_true,if_true,kJ,Bool.not_true,Bool.false_and,Bool.or_false,decide_eq_true ho]
  by_cases h2:n.op<19
  ·rw [decide_eq_true h2,decide_eq_false W30];rfl
  ·rw [decide_eq_false h2,decide_eq_true W30];rfl
 ·simp [h]
theorem Qjv {ns nl:Int} {g:Grf} (hk:0≤n.kind) (ho:0≤n.op):nodeR ns nl g n=rightN ns nl g n:=by
 by_cases hb:badR n=true
 ·have h2:(decide (n.kind=0)||decide (10≤n.kind)||decide (n.origin<0)||decide (4096≤n.origin))=true:=by
   unfold badR at hb;simp only [jK,decide_eq_true_eq] at hb ⊢;omega
  rw [Q6s h2];unfold nodeR;rw [hb];rfl
 ·have hb:badR n=false:=by simpa using hb
  have h2:(decide (n.kind=0)||decide (10≤n.kind)||decide (n.origin<0)||decide (4096≤n.origin))=false:=by
   unfold badR at hb;simp only [jT,decide_eq_false_iff_not] at hb ⊢;omega
  have hk9:1≤n.kind∧n.kind≤9:=by
   simp only [jT,decide_eq_false_iff_not] at h2;omega
  unfold nodeR rightN
  rw [hb,h2]
  simp only [Qf1,Qh4,Qp6 hk9,Qp7 hk9,Qp8 hk9,Qp9 hk9,Qn2 hk9,Qn3 hk9,Qn4 hk9,Qpa ho,allR,Bool.not_false,kJ]
  ac_rfl
end
def DM (A:List Nm) (D:ByteArray→Option Bool):Prop:=∀ s,(D s).getD false=A.contains ⟨s⟩
theorem DM.put {A:List Nm} {D:ByteArray→Option Bool} (h:DM A D) (s:ByteArray):DM (A++[⟨s⟩]) (fun q=>if q=s then some true else D q):=by
 intro t
 show (if t=s then some true else D t).getD false=_
 rw [List.contains_append]
 split
 ·rename_i e;subst e;simp
 ·rename_i e
  rw [h t]
  have:([⟨s⟩]:List Nm).contains ⟨t⟩=false:=by
   simp only [List.contains_cons,List.contains_nil,Bool.or_false]
   exact beq_eq_false_iff_ne.2 (fun q=>e (congrArg Nm.s q))
  rw [this,Bool.or_false]
def nmW (w:Bool) (l:List Dcl):List (ByteArray×Bool):=l.map fun d=>(d.name,w||decide (d.word=0))
theorem Q4a {w:Bool} {R:List (ByteArray×Bool)}:∀ {l:List Dcl} {A:List Nm} {D:ByteArray→Option Bool},DM A D →
 (namR w l A=none→goN (nmW w l++R) D=false)∧(∀ A',namR w l A=some A'→∃ D',DM A' D'∧goN (nmW w l++R) D=goN R D')
 | [],A,D,h=>⟨fun q=>(by cases q),fun A' q=>(by cases q;exact ⟨D,h,rfl⟩)⟩
 | d::r,A,D,h=>by
   have e:goN (nmW w (d::r)++R) D=if (nameB d.name&&!(D d.name).getD false)=true∧(w||decide (d.word=0))=true then goN (nmW w r++R) (fun q=>if q=d.name then some true else D q) else false:=rfl
   have e2:namR w (d::r) A=if (nameB d.name&&(w||decide (d.word=0))&&!A.contains ⟨d.name⟩)=true then namR w r (A++[⟨d.name⟩]) else none:=rfl
   by_cases hc:(nameB d.name&&(w||decide (d.word=0))&&!A.contains ⟨d.name⟩)=true
   ·rw [e,e2,if_pos hc,if_pos (by
     simp only [ji] at hc ⊢
     rw [h d.name];exact ⟨⟨hc.1.1,hc.2⟩,hc.1.2⟩)]
    exact Q4a (h.put d.name)
   ·rw [e,e2,if_neg hc,if_neg (by
     rintro ⟨q1,q2⟩
     rw [h d.name] at q1
     simp only [ji] at hc q1
     exact hc ⟨⟨q1.1,q2⟩,q1.2⟩)]
    exact ⟨fun _=>rfl,fun A' q=>by cases q⟩
def thrL (gs:List Grf):List Dcl:=gs.map fun g=>⟨g.name,0,0⟩
theorem Qr9 (l:List Dcl):nmW true l=nmS l:=by unfold nmW nmS;simp
theorem Qra (l:List Dcl):nmW false l=nmL l:=by unfold nmW nmL;simp
theorem Qrb (l:List Grf):nmW false (thrL l)=nmG l:=by unfold nmW thrL nmG;simp
def namA (sh lk:List Dcl) (gs:List Grf):Bool:=
 (namR true sh []).isSome&&(namR false lk ((namR true sh []).getD [])).isSome&&(namR false (thrL gs) ((namR false lk ((namR true sh []).getD [])).getD [])).isSome
theorem Qh5 (sh lk:List Dcl) (gs:List Grf):goN (nmS sh++(nmL lk++nmG gs)) (fun _=>none)=namA sh lk gs:=by
 unfold namA
 rw [← Qr9,← Qra,← Qrb]
 have h0:DM [] (fun _=>none):=fun s=>rfl
 have g1:=Q4a (w:=true) (R:=nmW false lk++nmW false (thrL gs)) (l:=sh) h0
 cases h1:namR true sh [] with
 | none=>rw [g1.1 h1];rfl
 | some A1 =>
   obtain ⟨D1,d1,e1⟩:=g1.2 A1 h1
   rw [e1]
   have g2:=Q4a (w:=false) (R:=nmW false (thrL gs)) (l:=lk) d1
   simp only [Option.isSome_some,kA,kJ]
   cases h2:namR false lk A1 with
   | none=>rw [g2.1 h2];rfl
   | some A2 =>
     obtain ⟨D2,d2,e2⟩:=g2.2 A2 h2
     rw [e2]
     have g3:=Q4a (w:=false) (R:=[]) (l:=thrL gs) d2
     rw [jZ] at g3
     simp only [Option.isSome_some,kA,kJ]
     cases h3:namR false (thrL gs) A2 with
     | none=>rw [g3.1 h3];rfl
     | some A3 =>
       obtain ⟨D3,_,e3⟩:=g3.2 A3 h3
       rw [e3];rfl
theorem Q90 {ns nl:Int} {g:Grf} {n:Nod} {b:Bool} (h:(!nodeR ns nl g n)=b) (hk:0≤n.kind∧0≤n.op∧n.op≤255):(!rightN ns nl g n)=b:=by rw [← Qjv hk.1 hk.2.1];exact h
theorem Qjw {gs:List Grf} {k:Nat} (h:k<gs.length):thrL (gs.take k)++[⟨(gs.getD k ua).name,0,0⟩]=thrL (gs.take (k+1)):=by
 rw [← Qgz h];unfold thrL;rw [kG];rfl
theorem Qjx {gs:List Grf} (hg:∀ j:Nat,(gs.getD j ua).name.size≤maxLen) (j:Nat):((thrL gs).getD j ua).name.size≤maxLen:=by
 have:=hg j
 unfold thrL
 rw [jc] at this ⊢
 rw [jm]
 cases h:gs[j]? with
 | none=>exact j9 _
 | some g=>rw [h] at this;exact this
theorem Q5t {w:Bool}:∀ {l:List Dcl} {A:List Nm},((namR w l A).getD []).length≤A.length+l.length
 | [],A=>by simp [namR]
 | d::r,A=>by
   unfold namR
   split
   ·have:=@Q5t w r (A++[⟨d.name⟩])
    simp only [jt,j6,List.length_nil] at this ⊢
    omega
   ·simp
section
variable {sh lk:List Dcl} {gs:List Grf} {l:List Dcl} {b:Bool}
theorem Qdk (h:(decide ((64:Int)<(sh.length:Int))||decide ((16:Int)<(lk.length:Int))||decide ((8:Int)<(gs.length:Int)))=false) (hl:l=thrL gs)
 (h2:(!(namR true sh []).isSome||!(namR false lk ((namR true sh []).getD [])).isSome||!(namR false l ((namR false lk ((namR true sh []).getD [])).getD [])).isSome)=b):(!namedB sh lk gs)=b:=by
 subst hl h2
 rw [J5 h,Qh5];unfold namA
 simp only [Bool.not_and]
end
abbrev z103_2 (l:List Dcl):=rowOf 3 (·.tc) l
abbrev zbp:En:=se 6 (C.v (je none 0 0))
def vj (l:List Dcl) (A:List Nm) (w:Bool):Lp (Int×Bool×List Nm):=⟨fun x=>{ N:=64,fr:=[se 8 (C.i .i64 x.1),se 7 (C.b x.2.1),zbp,se 0 (C.h 0),se 1 (C.h 2),se 2 (C.b w)],rg:=[z103_2 l,Reg.dead]++[Nm.ownR x.2.2],wr:=[] },fun x=>0≤x.1∧x.1≤(l.length:Int)∧(x.2.2.length:Int)=A.length+x.1∧namR w l A=namR w (l.drop x.1.toNat) x.2.2,fun x=>((l.length:Int)-x.1).toNat⟩
abbrev zda (y0:List Nm) (y1:List Dcl) (y2:Int) (y3:Bool):Int × Bool → Prop:=fun x=>0≤x.1∧x.1≤(y0.length:Int)∧x.2=((nameB (zc5 y1 y2).name&&(y3||decide ((zc5 y1 y2).word=(0:Int))))&&!(y0.take x.1.toNat).contains ⟨(zc5 y1 y2).name⟩)
def vk (l:List Dcl) (w:Bool) (ud:Int) (ui:Bool) (uf:List Nm):Lp (Int×Bool):=⟨fun x=>{ N:=64,fr:=[se 10 (C.i .i64 x.1),se 9 (C.b x.2),se 8 (C.i .i64 ud),se 7 (C.b ui),zbp,se 0 (C.h 0),se 1 (C.h 2),se 2 (C.b w)],rg:=[z103_2 l,Reg.dead,ownOf 9 1 (·.tc) uf],wr:=[] },zda uf l ud w,fun x=>((uf.length:Int)-x.1).toNat⟩
abbrev z103_1 (l:List Dcl) (ud:Int):=[Nm.mk (l.getD ud.toNat ua).name]
abbrev zaN (y0:List Nm) (y1:List Dcl) (y2:Int):List Prop:=[(y0++(z103_1 y1 y2)).length=y0.length+1,∀ (i:Nat),i<(y0++(z103_1 y1 y2)).length→((y0++(z103_1 y1 y2)).getD i ua).tc=if i=y0.length then (Nm.mk (y1.getD y2.toNat ua).name).tc else (y0.getD i ua).tc]
abbrev zaU (y0:List Dcl) (y1:Int) (y2:Bool):List Prop:=[nameB (y0.getD y1.toNat ua).name=true→y2=false→(0:Int)≤y1,nameB (y0.getD y1.toNat ua).name=true→y2=false→y1<(↑y0.length:Int),nameB (y0.getD y1.toNat ua).name=true→y2=false→y1.toNat<y0.length]
abbrev zaZ (y0:Bool) (y1:Int) (y2:List Nm) (y3:Int) (y4:List Dcl):List Prop:=[y0=true→(0:Int)≤y1,y0=true→y1<(↑y2.length:Int),y0=true→y1.toNat<y2.length,y0=true→(0:Int)≤y3,y0=true→y3<(↑y4.length:Int),y0=true→y3.toNat<y4.length,Fits ja (y1+(1:Int))]
abbrev zb3 (y0:Int) (y1:List Dcl) (y2:List Nm):List Prop:=[(0:Int)≤y0,y0<(↑y1.length:Int),y0.toNat<y1.length,y2.length+1≤maxLen,(y2.length+1) * 16≤140737488355328,Fits ja (y0+(1:Int))]
theorem Q91 (l:List Dcl) (A:List Nm) (w:Bool) (hs:zy l) (hA:l.length+A.length≤100):Ctr jb 49 [Dcl.rowR l,Nm.ownR A] [.c (.h 0),.c (.h 1),.c (.b w)]
 (Det (.tup [(false,[.h 2]),(false,[.b (namR w l A).isSome])]) [.dead,.dead,Nm.ownR ((namR w l A).getD [])]):=by
 refine Ctr.intro [] Tryz.func49 K K ?_
 refine Q6 (vj l A w) (((0:Int),false,A)) ⟨by omega,by omega,by simp,rfl⟩ ?_ [0,1,1]
 rintro ⟨ud,ui,uf⟩ hJ1
 dsimp only [vj] at hJ1
 refine tz [8,7,6,0,1,2] ?_
 refine Q0 (decide (ud<(↑l.length:Int))) (fun h2=>?_) (fun h2=>?_)
 ·refine tz [8,7,6,0,1,2] ?_
  refine Q3 Jb (Q71 ((zc5 l ud).name)) [] ?_ (vc:=(zbu ud l)) (hv:=W28)
  refine tz [22,8,7,6,0,1,2] ?_
  refine Q6 (vk l w ud ui uf) (((0:Int),nameB (zc5 l ud).name&&(w||decide ((zc5 l ud).word=(0:Int))))) ⟨by omega,by omega,by simp⟩ ?_ (vc:=(zaU l ud w)) (hv:=W28)
  rintro ⟨ug,um⟩ hJ3
  dsimp only [vk] at hJ3
  refine tz [10,9,8,7,6,0,1,2] ?_
  refine Q0 (decide (ug<(↑uf.length:Int))) (fun h4=>?_) (fun h4=>?_)
  ·exact Q4 (vk l w ud ui uf) (ug,um) ((ug+(1:Int),um&&!decide ((uf.getD ug.toNat ua).s=(zc5 l ud).name))) (by dsimp only [vk];exact W230) (by dsimp only [vk];obtain ⟨q0,q1,q3⟩:=hJ3;have q:=ub h4;refine ⟨by omega,by omega,?_⟩;rw [show (ug+1).toNat=ug.toNat+1 by omega,← Qbj (by omega),← q3]) (vc:=(zaZ um ug uf ud l)) (hv:=W28)
  ·refine tz [10,9,8,7,6,0,1,2] ?_
   refine Q0 (!um) (fun h5=>?_) (fun h5=>?_)
   ·exact Q2 [0,1,1000002] [0,1] [((namR w l A).getD []).length=0,(namR w l A).isSome=false] W90
   ·exact Q1c (vj l A w) (ud,ui,uf) ((ud+(1:Int),ui,uf++(z103_1 l ud))) (by dsimp only [vj];exact W228) (by dsimp only [vj];obtain ⟨k0,k1,k2,k3⟩:=hJ1;obtain ⟨q0,q1,q3⟩:=hJ3;have q:=ub h2;refine ⟨by omega,by omega,by simp;omega,?_⟩;rw [show (ud+1).toNat=ud.toNat+1 by omega,k3];refine Qh1 (by omega) ?_;rw [← Q49 (k:=ug.toNat) (by have:=uc h4;omega),← q3];simpa using h5) [(4,(Nm.tc ⟨(zc5 l ud).name⟩))] [0,1,4] [2,3] (zaN uf l ud) W158 (vc:=(zb3 ud l uf)) (hv:=W28) (vc2:=[jC (zc5 l ud).name=jC (zc5 l ud).name]) (hv2:=W163)
 ·exact Q2 [] [0,1,2] [((namR w l A).getD []).length=uf.length,∀ (i:Nat),i<((namR w l A).getD []).length→(((namR w l A).getD []).getD i ua).tc=(uf.getD i ua).tc,(namR w l A).isSome=true] W90
def vl (l:List Dcl) (w:Bool):Lp (Int×Bool×List Nm):=⟨fun x=>{ N:=64,fr:=[se 8 (C.i .i64 x.1),se 7 (C.b x.2.1),zbp,se 0 (C.h 0),se 1 (C.h 1),se 2 (C.b w)],rg:=[z103_2 l]++[Nm.ownR x.2.2],wr:=[] },fun x=>0≤x.1∧x.1≤(l.length:Int)∧(x.2.2.length:Int)=x.1∧namR w l []=namR w (l.drop x.1.toNat) x.2.2,fun x=>((l.length:Int)-x.1).toNat⟩
def vm (l:List Dcl) (w:Bool) (ud:Int) (ui:Bool) (uf:List Nm):Lp (Int×Bool):=⟨fun x=>{ N:=64,fr:=[se 10 (C.i .i64 x.1),se 9 (C.b x.2),se 8 (C.i .i64 ud),se 7 (C.b ui),zbp,se 0 (C.h 0),se 1 (C.h 1),se 2 (C.b w)],rg:=[z103_2 l,ownOf 9 1 (·.tc) uf],wr:=[] },zda uf l ud w,fun x=>((uf.length:Int)-x.1).toNat⟩
theorem Qf2 (l:List Dcl) (w:Bool) (hs:zy l) (hA:l.length≤100):Ctr jb 49 [Dcl.rowR l] [.c (.h 0),.c (.v (.slice none 0 0)),.c (.b w)]
 (Det (.tup [(false,[.h 1]),(false,[.b (namR w l []).isSome])]) [.dead,Nm.ownR ((namR w l []).getD [])]):=by
 refine Ctr.intro [] Tryz.func49 K K ?_
 refine Q6 (vl l w) (((0:Int),false,[])) ⟨by omega,by omega,by simp,rfl⟩ ?_ [0,1000001] [2] [(0:Nat)=0] W20
 rintro ⟨ud,ui,uf⟩ hJ1
 dsimp only [vl] at hJ1
 refine tz [8,7,6,0,1,2] ?_
 refine Q0 (decide (ud<(↑l.length:Int))) (fun h2=>?_) (fun h2=>?_)
 ·refine tz [8,7,6,0,1,2] ?_
  refine Q3 Jb (Q71 ((zc5 l ud).name)) [] ?_ (vc:=(zbu ud l)) (hv:=W28)
  refine tz [22,8,7,6,0,1,2] ?_
  refine Q6 (vm l w ud ui uf) (((0:Int),nameB (zc5 l ud).name&&(w||decide ((zc5 l ud).word=(0:Int))))) ⟨by omega,by omega,by simp⟩ ?_ (vc:=(zaU l ud w)) (hv:=W28)
  rintro ⟨ug,um⟩ hJ3
  dsimp only [vm] at hJ3
  refine tz [10,9,8,7,6,0,1,2] ?_
  refine Q0 (decide (ug<(↑uf.length:Int))) (fun h4=>?_) (fun h4=>?_)
  ·exact Q4 (vm l w ud ui uf) (ug,um) ((ug+(1:Int),um&&!decide ((uf.getD ug.toNat ua).s=(zc5 l ud).name))) (by dsimp only [vm];exact W230) (by dsimp only [vm];obtain ⟨q0,q1,q3⟩:=hJ3;have q:=ub h4;refine ⟨by omega,by omega,?_⟩;rw [show (ug+1).toNat=ug.toNat+1 by omega,← Qbj (by omega),← q3]) (vc:=(zaZ um ug uf ud l)) (hv:=W28)
  ·refine tz [10,9,8,7,6,0,1,2] ?_
   refine Q0 (!um) (fun h5=>?_) (fun h5=>?_)
   ·exact Q2 [0,1000001] [0,1] [((namR w l []).getD []).length=0,(namR w l []).isSome=false] W89
   ·exact Q1c (vl l w) (ud,ui,uf) ((ud+(1:Int),ui,uf++(z103_1 l ud))) (by dsimp only [vl];exact W228) (by dsimp only [vl];obtain ⟨k0,k1,k2,k3⟩:=hJ1;obtain ⟨q0,q1,q3⟩:=hJ3;have q:=ub h2;refine ⟨by omega,by omega,by simp;omega,?_⟩;rw [show (ud+1).toNat=ud.toNat+1 by omega,k3];refine Qh1 (by omega) ?_;rw [← Q49 (k:=ug.toNat) (by have:=uc h4;omega),← q3];simpa using h5) [(3,(Nm.tc ⟨(zc5 l ud).name⟩))] [0,3] [2,3] (zaN uf l ud) W158 (vc:=(zb3 ud l uf)) (hv:=W28) (vc2:=[jC (zc5 l ud).name=jC (zc5 l ud).name]) (hv2:=W163)
 ·exact Q2 [] [0,1,2] [((namR w l []).getD []).length=uf.length,∀ (i:Nat),i<((namR w l []).getD []).length→(((namR w l []).getD []).getD i ua).tc=(uf.getD i ua).tc,(namR w l []).isSome=true] W89
theorem Qdl (k:Int):Ctr jb 84 [] [.c (.i .u8 k)]
 (Det (.c (.b (twoB k))) []):=by
 refine Ctr.intro [] Tryz.func84 K K ?_
 exact Q2 [] [0] [twoB k=(decide ((1:Int)≤k)&&decide (k≤(16:Int)))] (by simp only [Conj,twoB,opB] at *<;>grind)
theorem Qck (n:Nod):Ctr jb 87 [] [.agg n.cs]
 (Det (.c (.h 0)) [IntOwn (flwR n)]):=by
 refine Ctr.intro [] Tryz.func87 K K ?_
 refine Q0 (decide (n.kind=(9:Int))) (fun h1=>?_) (fun h1=>?_)
 ·rw [(show flwR n=[] from if_pos (ub h1))]
  exact Q2 [1000000] [0] [(0:Nat)=0] W47
 ·refine tz [4,2,1] ?_
  refine Q0 (decide (n.kind=(8:Int))) (fun h2=>?_) (fun h2=>?_)
  ·rw [(show flwR n=[n.next,n.els] from (if_neg (uc h1)).trans (if_pos (ub h2)))]
   exact Q2 [1] [0,1] (zai n) W47
  ·rw [(show flwR n=[n.next] from (if_neg (uc h1)).trans (if_neg (uc h2)))]
   exact Q2 [1] [0,1,2] (zak n) W47
theorem Qjy (k:Int):Ctr jb 83 [] [.c (.i .u8 k)]
 (Det (.tup [(false,[.b (uS k)]),(false,[.b (uT k)]),(false,[.b (uA k)]),(false,[.b (uN k)])]) []):=by
 refine Ctr.intro [] Tryz.func83 K K ?_
 refine Q0 (decide (k=(1:Int))) (fun h1=>?_) (fun h1=>?_)
 ·exact Q2 [] [0,1,2,3] [uS k=true,uT k=false,uA k=true,uN k=true] W133
 ·refine tz [6,5,4,3,2] ?_
  refine Q0 (decide (k=(2:Int))) (fun h2=>?_) (fun h2=>?_)
  ·exact Q2 [] [0,1,2,3] [uS k=true,uT k=true,uA k=false,uN k=true] W133
  ·refine tz [6,5,4,3,2] ?_
   refine Q0 (decide (k=(3:Int))) (fun h3=>?_) (fun h3=>?_)
   ·exact Q2 [] [0,1,2,3] [uS k=false,uT k=true,uA k=true,uN k=true] W133
   ·refine tz [6,5,4,3,2] ?_
    refine Q0 (decide (k=(4:Int))) (fun h4=>?_) (fun h4=>?_)
    ·exact Q2 [] [0,1,2,3] [uS k=true,uT k=true,uA k=true,uN k=true] W133
    ·refine tz [6,5,4,3,2] ?_
     refine Q0 (decide (k=(5:Int))) (fun h5=>?_) (fun h5=>?_)
     ·exact Q2 [] [0,1,2,3] [uS k=false,uT k=true,uA k=false,uN k=true] W133
     ·refine tz [15,6,5,4,3,2] ?_
      refine Q0 (decide (k=(6:Int))) (fun h6=>?_) (fun h6=>?_)
      ·exact Q2 [] [0,1,2,3] [uS k=false,uT k=true,uA k=false,uN k=true] W133
      ·refine tz [6,5,4,3,2] ?_
       refine Q0 (decide (k=(7:Int))) (fun h7=>?_) (fun h7=>?_)
       ·exact Q2 [] [0,1,2,3] [uS k=false,uT k=false,uA k=true,uN k=true] W133
       ·refine tz [18,6,5,4,3,2] ?_
        refine Q0 (decide (k=(8:Int))) (fun h8=>?_) (fun h8=>?_)
        ·exact Q2 [] [0,1,2,3] [uS k=false,uT k=false,uA k=true,uN k=true] W133
        ·exact Q2 [] [0,1,2,3] [uS k=false,uT k=false,uA k=false,uN k=false] W133
theorem Q0m (v:Vl) (u:Bool) (s:Int):Ctr jb 86 [] [.agg v.cs,.c (.b u),zc8 s]
 (Det (.c (.b (valR v u s))) []):=by
 refine Ctr.intro [] Tryz.func86 K K ?_
 refine Q0 (!u) (fun h1=>?_) (fun h1=>?_)
 ·exact Q2 [] [0] [valR v u s=(decide (v.slotted=false)&&(decide (v.slot=(0:Int))&&(decide (v.word=(0:Int))&&true)))] W180
 ·refine tz [6,3,2] ?_
  refine Q0 (v.slotted) (fun h2=>?_) (fun h2=>?_)
  ·exact Q2 [] [0] [valR v u s=(decide ((0:Int)≤v.slot)&&decide (v.slot<s)&&decide (v.word=(0:Int)))] W180
  ·exact Q2 [] [0] [valR v u s=decide (v.slot=(0:Int))] W180
theorem Yk (n:Int) (u:Bool) (m:Int):Ctr jb 85 [] [zc8 n,.c (.b u),zc8 m]
 (Det (.c (.b (numR n u m))) []):=by
 refine Ctr.intro [] Tryz.func85 K K ?_
 refine Q0 (!u) (fun h1=>?_) (fun h1=>?_)
 ·exact Q2 [] [0] [numR n u m=decide (n=(0:Int))] (by simp only [Conj,numR] at *<;>grind)
 ·exact Q2 [] [0] [numR n u m=(decide ((0:Int)≤n)&&decide (n<m))] (by simp only [Conj,numR] at *<;>grind)
abbrev z101_1 (n:Nod):=(decide (n.kind=(1:Int))&&decide ((19:Int)≤n.op)||!decide (n.kind=(1:Int))&&!decide (n.op=(0:Int)))
theorem Qjz (sh lk:List Dcl) (gs:List Grf) (g:Grf) (n:Nod):Ctr jb 50 [Dcl.rowR sh,Dcl.rowR lk,Grf.rowR gs,zao g] [zc4,.agg (g.cs 3),.agg n.cs]
 (Det (.c (.b (nodeR sh.length lk.length g n))) zbC):=by
 refine Ctr.intro [] Tryz.func50 K K ?_
 refine Q0 (decide (n.kind≤(0:Int))||decide ((10:Int)≤n.kind)||decide (n.origin<(0:Int))||decide ((4096:Int)≤n.origin)) (fun h1=>?_) (fun h1=>?_)
 ·exact Q2 [] [0] [nodeR (↑sh.length:Int) (↑lk.length:Int) g n=false] W129
 ·refine tz [6,5,4,3] ?_
  refine Q3 Q4i (Qjy n.kind) [] ?_
  refine tz [34,6,5,4,3] ?_
  refine Q0 (decide (n.kind=(5:Int))||decide (n.kind=(6:Int))) (fun h2=>?_) (fun h2=>?_)
  ·refine tz [11,10,9,8,7,6,5,4,3] ?_
   refine Q0 (z101_1 n) (fun h3=>?_) (fun h3=>?_)
   ·exact Q2 [] [0] [nodeR (↑sh.length:Int) (↑lk.length:Int) g n=false] W129
   ·refine tz [11,10,9,8,7,6,5,4] ?_
    refine tG Q01 (Qdl n.op) [] ?_
    refine tz [77,74,11,10,9,8,7,6,5,4] ?_
    refine Q3 Qp (Yk n.slot (uS n.kind) g.slots) [] ?_
    refine tz [84,12,11,10,9,8,6,5,4] ?_
    refine tG Qp (Yk n.thing (uT n.kind) (↑lk.length:Int)) [] ?_
    refine tz [90,85,12,10,9,6,5,4] ?_
    refine tG Yj (Q0m n.a (uA n.kind) g.slots) [] ?_
    refine tz [98,92,12,10,6,5,4] ?_
    refine tG Yj (Q0m n.b (decide (n.kind=(1:Int))&&twoB n.op) g.slots) [] ?_
    refine tz [106,100,10,6,5,4] ?_
    refine tG Qp (Yk n.next (uN n.kind) (↑g.nodes.length:Int)) [] ?_
    refine tz [115,108,6,5,4] ?_
    refine tG Qp (Yk n.els (decide (n.kind=(8:Int))) (↑g.nodes.length:Int)) [] ?_
    exact Q2 [] [0] [nodeR (↑sh.length:Int) (↑lk.length:Int) g n=(numR n.slot (uS n.kind) g.slots&&numR n.thing (uT n.kind) (↑lk.length:Int)&&valR n.a (uA n.kind) g.slots&&valR n.b (decide (n.kind=(1:Int))&&twoB n.op) g.slots&&numR n.next (uN n.kind) (↑g.nodes.length:Int)&&numR n.els (decide (n.kind=(8:Int))) (↑g.nodes.length:Int))] W129
  ·refine tz [11,10,9,8,7,6,5,4] ?_
   refine Q0 (z101_1 n) (fun h3=>?_) (fun h3=>?_)
   ·exact Q2 [] [0] [nodeR (↑sh.length:Int) (↑lk.length:Int) g n=false] W129
   ·refine tz [11,10,9,8,7,6,5,4] ?_
    refine tG Q01 (Qdl n.op) [] ?_
    refine tz [77,74,11,10,9,8,7,6,5,4] ?_
    refine Q3 Qp (Yk n.slot (uS n.kind) g.slots) [] ?_
    refine tz [84,12,11,10,9,8,6,5,4] ?_
    refine tG Qp (Yk n.thing (uT n.kind) (↑sh.length:Int)) [] ?_
    refine tz [90,85,12,10,9,6,5,4] ?_
    refine tG Yj (Q0m n.a (uA n.kind) g.slots) [] ?_
    refine tz [98,92,12,10,6,5,4] ?_
    refine tG Yj (Q0m n.b (decide (n.kind=(1:Int))&&twoB n.op) g.slots) [] ?_
    refine tz [106,100,10,6,5,4] ?_
    refine tG Qp (Yk n.next (uN n.kind) (↑g.nodes.length:Int)) [] ?_
    refine tz [115,108,6,5,4] ?_
    refine tG Qp (Yk n.els (decide (n.kind=(8:Int))) (↑g.nodes.length:Int)) [] ?_
    exact Q2 [] [0] [nodeR (↑sh.length:Int) (↑lk.length:Int) g n=(numR n.slot (uS n.kind) g.slots&&numR n.thing (uT n.kind) (↑sh.length:Int)&&valR n.a (uA n.kind) g.slots&&valR n.b (decide (n.kind=(1:Int))&&twoB n.op) g.slots&&numR n.next (uN n.kind) (↑g.nodes.length:Int)&&numR n.els (decide (n.kind=(8:Int))) (↑g.nodes.length:Int))] W129
def vN (ns:List Nod) (X:Ext) (A:Option Addr) (nn:Nat) (cc:Nat) (A2:Option Addr) (n2:Nat) (c2:Nat):Lp (Int×Bool):=⟨fun x=>{ N:=26,fr:=[se 5 (C.i .i64 x.1),se 4 (C.b x.2),se 0 (C.h 2),se 1 (C.h 3)],rg:=[rowOf 13 (·.tc) ns,Reg.froz X,zbk X A nn cc,zbk X A2 n2 c2],wr:=[] },fun x=>0≤x.1∧x.1≤((rd X (.slice A nn cc)).length:Int)∧(rd X (.slice A nn cc)).length=(rd X (.slice A2 n2 c2)).length∧∀ j:Nat,(j:Int)<x.1→(rd X (.slice A nn cc)).getD j ua=(rd X (.slice A2 n2 c2)).getD j ua,fun x=>(((rd X (.slice A nn cc)).length:Int)-x.1).toNat⟩
theorem Qk0 (ns:List Nod) (X:Ext) (A:Option Addr) (nn cc:Nat) (A2:Option Addr) (n2 c2:Nat) (hT:Is X (.slice A nn cc)) (hT2:Is X (.slice A2 n2 c2)) (hL:(rd X (.slice A nn cc)).length≤4097):Ctr jb 27 [Nod.rowR ns,.froz X] [.c (.v (.slice A nn cc)),.c (.v (.slice A2 n2 c2))]
 (Det (.c (.b (decide ((rd X (.slice A nn cc))=(rd X (.slice A2 n2 c2)))))) [.dead,.dead]):=by
 refine Ctr.intro [] Tryz.func27 K K ?_
 refine RunF.tabout 0 1 (X:=X) (y:=je A nn cc) (size:=1) (n:=(rd X (je A nn cc)).length) (f:=fun j=>i64T ((rd X (je A nn cc)).getD j 0)) K K K (by first | exact Qx hT | exact Qx hT2) ?_
 refine RunF.tabout 1 1 (X:=X) (y:=je A2 n2 c2) (size:=1) (n:=(rd X (je A2 n2 c2)).length) (f:=fun j=>i64T ((rd X (je A2 n2 c2)).getD j 0)) K K K (by first | exact Qx hT | exact Qx hT2) ?_
 refine tz [0,1] ?_
 refine Q0 (!decide ((↑(rd X (je A nn cc)).length:Int)=(↑(rd X (je A2 n2 c2)).length:Int))) (fun h1=>?_) (fun h1=>?_)
 ·exact Q2 [] [0] [decide (rd X (je A nn cc)=rd X (je A2 n2 c2))=false] W102
 ·refine tz [4,0,1] ?_
  refine Q6 (vN ns X A nn cc A2 n2 c2) (((0:Int),false)) ⟨by omega,by omega,by simp at h1;omega,fun j hj=>absurd hj W30⟩ ?_
  rintro ⟨ue,un⟩ hJ2
  dsimp only [vN] at hJ2
  refine tz [5,4,0,1] ?_
  refine Q0 (decide (ue<(↑(rd X (je A nn cc)).length:Int))) (fun h3=>?_) (fun h3=>?_)
  ·refine tz [5,4,0,1] ?_
   refine Q0 (!decide ((rd X (je A nn cc)).getD ue.toNat 0=(rd X (je A2 n2 c2)).getD ue.toNat 0)) (fun h4=>?_) (fun h4=>?_) (vc:=[(0:Int)≤ue,ue<(↑(rd X (je A nn cc)).length:Int),ue.toNat<(rd X (je A nn cc)).length,(0:Int)≤ue,ue<(↑(rd X (je A2 n2 c2)).length:Int),ue.toNat<(rd X (je A2 n2 c2)).length]) (hv:=W28)
   ·exact Q2 [] [0] [decide (rd X (je A nn cc)=rd X (je A2 n2 c2))=false] W102
   ·exact Q4 (vN ns X A nn cc A2 n2 c2) (ue,un) ((ue+(1:Int),un)) (by dsimp only [vN];exact W236) ⟨by omega,by have:=ub h3;omega,hJ2.2.2.1,Q3y hJ2.2.2.2 hJ2.1 (by show (rd X (.slice A nn cc)).getD ue.toNat 0=(rd X (.slice A2 n2 c2)).getD ue.toNat 0;simpa using h4)⟩ (vc:=(zF ue)) (hv:=W28)
  ·exact Q2 [] [0] [decide (rd X (je A nn cc)=rd X (je A2 n2 c2))=true] W102
def C98A (g:Grf) (ud:Int) (ui:Int) (uf:Ext) (uj:List Hdl) (uw:List Bo) (ul:List Int) (nw0:List Int):St:=St.mk 140 [se 9 (C.h 7),se 8 (C.p 6 0),zbA ud,se 6 (C.h 5),se 5 (C.h 4),se 4 (C.h 3),zcg ui,zL,zb8] [zao g,Reg.froz uf,ze g,Hdl.ownR uj,Bo.ownR uw,IntOwn ul,zbM g ul ud,IntOwn nw0] []
def C98A_J (g:Grf) (ud:Int) (ui:Int) (uf:Ext) (uj:List Hdl) (uw:List Bo) (ul:List Int) (nw0:List Int):Prop:=nw0=rd uf (je (uj.getD (ul.getD ud.toNat 0).toNat ua).a (uj.getD (ul.getD ud.toNat 0).toNat ua).n (uj.getD (ul.getD ud.toNat 0).toNat ua).c)
def C98B (g:Grf) (ud:Int) (ui:Int) (uf:Ext) (uj:List Hdl) (uw:List Bo) (ul:List Int) (v:Ext×Option Addr×Nat×Nat):St:=St.mk 140 [se 9 (C.v (je v.2.1 v.2.2.1 v.2.2.2)),se 8 (C.p 6 0),zbA ud,se 6 (C.h 5),se 5 (C.h 4),se 4 (C.h 3),zcg ui,zL,zb8] [zao g,Reg.froz v.1,ze g,Hdl.ownR uj,Bo.ownR uw,IntOwn ul,zbM g ul ud] []
def C98B_J (g:Grf) (ud:Int) (ui:Int) (uf:Ext) (uj:List Hdl) (uw:List Bo) (ul:List Int) (v:Ext×Option Addr×Nat×Nat):Prop:=uf.Into v.1∧Is v.1 (je v.2.1 v.2.2.1 v.2.2.2)∧nowH (g.nodes.getD (ul.getD ud.toNat 0).toNat ua) (rd uf (je (uj.getD (ul.getD ud.toNat 0).toNat ua).a (uj.getD (ul.getD ud.toNat 0).toNat ua).n (uj.getD (ul.getD ud.toNat 0).toNat ua).c))=some (rd v.1 (je v.2.1 v.2.2.1 v.2.2.2))
def vO (g:Grf) (X0:Ext):Lp (Int×Int×Ext×List Hdl×List Bo×List Int):=⟨fun x=>{ N:=140,fr:=[se 7 (C.i .i64 x.1),se 6 (C.h 5),se 5 (C.h 4),se 4 (C.h 3),se 3 (C.i .i64 x.2.1),zL,zb8],rg:=[rowOf 13 (·.tc) g.nodes,Reg.froz (x.2.2.1),ze g,Hdl.ownR (x.2.2.2.1),Bo.ownR (x.2.2.2.2.1),IntOwn (x.2.2.2.2.2)],wr:=[] },fun x=>RJ g.nodes x.1 x.2.2.1 x.2.2.2.1 x.2.2.2.2.1 x.2.2.2.2.2,fun x=>(g.nodes.length+1-x.1.toNat)⟩
def vi (g:Grf) (ud:Int) (ui:Int) (uj:List Hdl) (uw:List Bo) (ul:List Int) (v:Ext×Option Addr×Nat×Nat):Lp (Int×Int×List Hdl×List Bo×List Int):=⟨fun x=>{ N:=140,fr:=[se 11 (C.i .i64 x.1),se 10 (C.h 7),se 9 (C.v (je v.snd.fst v.snd.snd.fst v.snd.snd.snd)),zbA ud,se 6 (C.h 5),se 5 (C.h 4),se 4 (C.h 3),se 3 (C.i .i64 x.2.1),zL,zb8],rg:=[rowOf 13 (·.tc) g.nodes,Reg.froz v.fst,ze g,Hdl.ownR (x.2.2.1),Bo.ownR (x.2.2.2.1),IntOwn (x.2.2.2.2),zc g ul ud,IntOwn (flwR (g.nodes.getD (ul.getD ud.toNat 0).toNat ua))],wr:=[] },fun x=>RK g.nodes ud (g.nodes.getD (ul.getD ud.toNat 0).toNat ua) (je v.2.1 v.2.2.1 v.2.2.2) (rd v.1 (je v.2.1 v.2.2.1 v.2.2.2)) x.1 v.1 x.2.2.1 x.2.2.2.1 x.2.2.2.2,fun x=>((flwR (g.nodes.getD (ul.getD ud.toNat 0).toNat ua)).length-x.1).toNat⟩
abbrev zax (y0:Int) (y1:List Int):List Prop:=[(0:Int)≤y0,y0<(↑y1.length:Int),y0.toNat<y1.length]
abbrev zbI (y0:List Int):List Prop:=[y0.length+1≤maxLen,(y0.length+1) * 8≤140737488355328]
theorem Qk1 (g:Grf) (hq:zG g) (hN:1≤g.nodes.length∧g.nodes.length≤4096):Ctr jb 51 [zao g] [.agg (g.cs 0)]
 (Det (.tup [(false,[.h 1]),(false,[.i .i64 (heldF g.nodes)])]) [.dead,.one]):=by
 refine Ctr.intro [] Tryz.func51 K K ?_
 refine RunF.tabnew K (fun X0=>?_)
 refine tz [0] ?_
 refine Q6 (vO g X0) (((0:Int),(0:Int),X0,jh g.nodes.length Hdl.none,(jh g.nodes.length (Bo.mk false)).set 0 (Bo.mk true),[(0:Int)])) (RJ.start hN.1 X0) ?_ [] [6,7,8,9,10,11,12] [(jh g.nodes.length Hdl.none).length=g.nodes.length,∀ (i:Nat),i<(jh g.nodes.length Hdl.none).length→((jh g.nodes.length Hdl.none).getD i ua).tc=fun j=>valT (je none 0 0).cells.toList j,((jh g.nodes.length (Bo.mk false)).set 0 (Bo.mk true)).length=g.nodes.length,∀ (i:Nat),i<((jh g.nodes.length (Bo.mk false)).set 0 (Bo.mk true)).length→(((jh g.nodes.length (Bo.mk false)).set 0 (Bo.mk true)).getD i ua).tc=updT (fun x j=>valT (jS false).cells.toList j) 0 0 [jS true] i,[(0:Int)].length=1,∀ (i:Nat),i < [(0:Int)].length→i≠0→i64T ([(0:Int)].getD i 0)=fun x=>TC.any,i64T (0:Int) 0=TC.val (jg ja (0:Int))] W58 (vc:=[(0:Int)≤(↑g.nodes.length:Int),(↑g.nodes.length:Int)≤(↑g.nodes.length:Int),(↑g.nodes.length:Int) * (24:Int)≤(140737488355328:Int),(↑g.nodes.length:Int)≤(↑maxLen:Int),(0:Int)≤(↑g.nodes.length:Int),(↑g.nodes.length:Int)≤(↑g.nodes.length:Int),(↑g.nodes.length:Int) * (1:Int)≤(140737488355328:Int),(↑g.nodes.length:Int)≤(↑maxLen:Int),(0:Int)≤(0:Int),(0:Int)<(↑g.nodes.length:Int),0<g.nodes.length]) (hv:=W16)
 rintro ⟨ud,ui,uf,uj,uw,ul⟩ hJ1
 dsimp only [vO] at hJ1
 refine tz [7,6,5,4,3,2,1] ?_
 refine Q0 (decide (ud<(↑ul.length:Int))) (fun h2=>?_) (fun h2=>?_)
 ·refine RunF.cutn 2 (fun nw0=>C98A g ud ui uf uj uw ul nw0) (fun nw0=>C98A_J g ud ui uf uj uw ul nw0) ?_ ?_
  ·refine tz [7,6,5,4,3,2,1] ?_
   refine RunF.here (vc:=[(0:Int)≤ud,ud<(↑ul.length:Int),ud.toNat<ul.length,(0:Int)≤ul.getD ud.toNat 0,ul.getD ud.toNat 0<(↑g.nodes.length:Int),(ul.getD ud.toNat 0).toNat<g.nodes.length,(0:Int)≤ud,ud<(↑ul.length:Int),ud.toNat<ul.length,(0:Int)≤ul.getD ud.toNat 0,ul.getD ud.toNat 0<(↑uj.length:Int),(ul.getD ud.toNat 0).toNat<uj.length]) K W75 ?_
   refine RunF.tabout 44 1 (X:=uf) (y:=je (uj.getD (ul.getD ud.toNat 0).toNat ua).a (uj.getD (ul.getD ud.toNat 0).toNat ua).n (uj.getD (ul.getD ud.toNat 0).toNat ua).c) (size:=1) (n:=(rd uf (je (uj.getD (ul.getD ud.toNat 0).toNat ua).a (uj.getD (ul.getD ud.toNat 0).toNat ua).n (uj.getD (ul.getD ud.toNat 0).toNat ua).c)).length) (f:=fun j=>i64T ((rd uf (je (uj.getD (ul.getD ud.toNat 0).toNat ua).a (uj.getD (ul.getD ud.toNat 0).toNat ua).n (uj.getD (ul.getD ud.toNat 0).toNat ua).c)).getD j 0)) K K K (Qx (hJ1.is (ub h2))) ?_
   exact tTo (fun nw0=>C98A g ud ui uf uj uw ul nw0) (fun nw0=>C98A_J g ud ui uf uj uw ul nw0) (rd uf (je (uj.getD (ul.getD ud.toNat 0).toNat ua).a (uj.getD (ul.getD ud.toNat 0).toNat ua).n (uj.getD (ul.getD ud.toNat 0).toNat ua).c)) W32 [0,1,2,3,4,5,6,9] [25,26] [(rd uf (je (uj.getD (ul.getD ud.toNat 0).toNat ua).a (uj.getD (ul.getD ud.toNat 0).toNat ua).n (uj.getD (ul.getD ud.toNat 0).toNat ua).c)).length=0+(rd uf (je (uj.getD (ul.getD ud.toNat 0).toNat ua).a (uj.getD (ul.getD ud.toNat 0).toNat ua).n (uj.getD (ul.getD ud.toNat 0).toNat ua).c)).length,∀ (i:Nat),i<(rd uf (je (uj.getD (ul.getD ud.toNat 0).toNat ua).a (uj.getD (ul.getD ud.toNat 0).toNat ua).n (uj.getD (ul.getD ud.toNat 0).toNat ua).c)).length→i64T ((rd uf (je (uj.getD (ul.getD ud.toNat 0).toNat ua).a (uj.getD (ul.getD ud.toNat 0).toNat ua).n (uj.getD (ul.getD ud.toNat 0).toNat ua).c)).getD i 0)=fun j=>if i<0 then rowT 1 [] i j else i64T ((rd uf (je (uj.getD (ul.getD ud.toNat 0).toNat ua).a (uj.getD (ul.getD ud.toNat 0).toNat ua).n (uj.getD (ul.getD ud.toNat 0).toNat ua).c)).getD (i-0) 0) j] W58 (vc:=[∀ (i j:Nat),i<(rd uf (je (uj.getD (ul.getD ud.toNat 0).toNat ua).a (uj.getD (ul.getD ud.toNat 0).toNat ua).n (uj.getD (ul.getD ud.toNat 0).toNat ua).c)).length→j<1→flatT (i64T ((rd uf (je (uj.getD (ul.getD ud.toNat 0).toNat ua).a (uj.getD (ul.getD ud.toNat 0).toNat ua).n (uj.getD (ul.getD ud.toNat 0).toNat ua).c)).getD i 0) j),0+(rd uf (je (uj.getD (ul.getD ud.toNat 0).toNat ua).a (uj.getD (ul.getD ud.toNat 0).toNat ua).n (uj.getD (ul.getD ud.toNat 0).toNat ua).c)).length≤maxLen,(0+(rd uf (je (uj.getD (ul.getD ud.toNat 0).toNat ua).a (uj.getD (ul.getD ud.toNat 0).toNat ua).n (uj.getD (ul.getD ud.toNat 0).toNat ua).c)).length) * 8≤140737488355328]) (hv:=W16)
  ·intro nw0 hCC98A
   refine RunF.cutn 2 (fun v=>C98B g ud ui uf uj uw ul v) (fun v=>C98B_J g ud ui uf uj uw ul v) ?_ ?_
   ·refine tz [9,8,7,6,5,4,3,2,1] ?_
    refine Q0 (decide ((g.nodes.getD (ul.getD ud.toNat 0).toNat ua).kind=(5:Int))) (fun h3=>?_) (fun h3=>?_)
    ·refine RunF.hereJ (vc:=(zbI nw0)) K K W75 ?_
     refine Q0f 9 ((i64T (g.nodes.getD (ul.getD ud.toNat 0).toNat ua).thing)) ?_ (vc:=[(g.nodes.getD (ul.getD ud.toNat 0).toNat ua).thing=(g.nodes.getD (ul.getD ud.toNat 0).toNat ua).thing]) (hv:=(by simp only [Conj]<;>(repeat' apply jl)<;>first | trivial | rfl | (intros;rfl)))
     refine RunF.tabin 9 1 (ty:=3) (size:=1) (n:=nw0.length+1) (f:=fun i=>if i=nw0.length then i64T (g.nodes.getD (ul.getD ud.toNat 0).toNat ua).thing else i64T (nw0.getD i 0)) (X:=uf) K K K (fun X9 A9 c9 hInX9 hTabX9=>?_)
     exact tTo (fun v=>C98B g ud ui uf uj uw ul v) (fun v=>C98B_J g ud ui uf uj uw ul v) ((X9,A9,nw0.length+1,c9)) W32
    ·refine tz [47,9,8,7,6,5,4,3,2,1] ?_
     refine Q0 (decide ((g.nodes.getD (ul.getD ud.toNat 0).toNat ua).kind=(6:Int))) (fun h4=>?_) (fun h4=>?_)
     ·refine tz [9,8,7,6,5,4,3,2,1] ?_
      refine Q0 (decide ((↑nw0.length:Int)=(0:Int))||!decide (nw0.getD ((↑nw0.length:Int)-(1:Int)).toNat (0:Int)=(g.nodes.getD (ul.getD ud.toNat 0).toNat ua).thing)) (fun h5=>?_) (fun h5=>?_) (vc:=[decide ((↑nw0.length:Int)=(0:Int))=false→Fits ja ((↑nw0.length:Int)-(1:Int)),decide ((↑nw0.length:Int)=(0:Int))=false→(0:Int)≤(↑nw0.length:Int)-(1:Int),decide ((↑nw0.length:Int)=(0:Int))=false→(↑nw0.length:Int)-(1:Int)<(↑nw0.length:Int),decide ((↑nw0.length:Int)=(0:Int))=false→((↑nw0.length:Int)-(1:Int)).toNat<nw0.length]) (hv:=W16)
      ·exact Q2 [0,1000001] [0] [heldF g.nodes=ul.getD ud.toNat 0] W73 (vc:=(zax ud ul)) (hv:=W16)
      ·refine RunF.hereJ (vc:=[Fits ja ((↑nw0.length:Int)-(1:Int)),(0:Int)≤(0:Int),(0:Int)≤(↑nw0.length:Int)-(1:Int),(↑nw0.length:Int)-(1:Int)≤(↑nw0.length:Int),(0:Int)<(↑nw0.length:Int)]) K K W75 ?_
       refine RunF.tabinP 7 1 ((((nw0.length:Int)-(1:Int)).toNat-0)) (ty:=3) (n:=nw0.length) (f:=fun i=>i64T (nw0.getD i 0)) (X:=uf) K K K W30 (fun X9 A9 c9 hInX9 hTabX9=>?_)
       exact tTo (fun v=>C98B g ud ui uf uj uw ul v) (fun v=>C98B_J g ud ui uf uj uw ul v) ((X9,A9,((↑nw0.length:Int)-(1:Int)).toNat-0,c9)) W32 [] [25] [je A9 (((↑nw0.length:Int)-(1:Int)).toNat-0) c9=cutV (je A9 nw0.length c9) (((↑nw0.length:Int)-(1:Int)).toNat-0)] W58
     ·refine tz [47,9,8,7,6,5,4,3,2,1] ?_
      refine Q0 (decide ((g.nodes.getD (ul.getD ud.toNat 0).toNat ua).kind=(9:Int))) (fun h5=>?_) (fun h5=>?_)
      ·refine tz [9,8,7,6,5,4,3,2,1] ?_
       refine Q0 (decide ((0:Int)<(↑nw0.length:Int))) (fun h6=>?_) (fun h6=>?_)
       ·exact Q2 [0,1000001] [0] [heldF g.nodes=ul.getD ud.toNat 0] W73 (vc:=(zax ud ul)) (hv:=W16)
       ·refine RunF.hereJ (vc:=[]) K K trivial ?_
        refine RunF.tabin 7 1 (ty:=3) (size:=1) (n:=nw0.length) (f:=fun i=>i64T (nw0.getD i 0)) (X:=uf) K K K (fun X9 A9 c9 hInX9 hTabX9=>?_)
        exact tTo (fun v=>C98B g ud ui uf uj uw ul v) (fun v=>C98B_J g ud ui uf uj uw ul v) ((X9,A9,nw0.length,c9)) W32
      ·refine RunF.hereJ (vc:=[]) K K trivial ?_
       refine RunF.tabin 7 1 (ty:=3) (size:=1) (n:=nw0.length) (f:=fun i=>i64T (nw0.getD i 0)) (X:=uf) K K K (fun X9 A9 c9 hInX9 hTabX9=>?_)
       exact tTo (fun v=>C98B g ud ui uf uj uw ul v) (fun v=>C98B_J g ud ui uf uj uw ul v) ((X9,A9,nw0.length,c9)) W32
   ·intro v hCC98B
    refine tz [9,8,7,6,5,4,3,2,1] ?_
    refine Q3 Q23 (Qck (g.nodes.getD (ul.getD ud.toNat 0).toNat ua)) [] ?_
    refine tz [90,9,7,6,5,4,3,2,1] ?_
    refine Q6 (vi g ud ui uj uw ul v) (((0:Int),ui,uj,uw,ul)) (hJ1.inner (ub h2) (hq _ W216) hCC98B.1 hCC98B.2.1 hCC98B.2.2) ?_
    rintro ⟨ug,um,uq,ux,uE⟩ hJ3
    dsimp only [vi] at hJ3
    refine tz [11,10,9,7,6,5,4,3,2,1] ?_
    refine Q0 (decide (ug<(↑(flwR (g.nodes.getD (ul.getD ud.toNat 0).toNat ua)).length:Int))) (fun h4=>?_) (fun h4=>?_)
    ·refine tz [11,10,9,7,6,5,4,3,2,1] ?_
     refine Q0 (!(ux.getD ((flwR (g.nodes.getD (ul.getD ud.toNat 0).toNat ua)).getD ug.toNat 0).toNat ua).b) (fun h5=>?_) (fun h5=>?_) (vc:=[(0:Int)≤ug,ug<(↑(flwR (g.nodes.getD (ul.getD ud.toNat 0).toNat ua)).length:Int),ug.toNat<(flwR (g.nodes.getD (ul.getD ud.toNat 0).toNat ua)).length,(0:Int)≤(flwR (g.nodes.getD (ul.getD ud.toNat 0).toNat ua)).getD ug.toNat 0,(flwR (g.nodes.getD (ul.getD ud.toNat 0).toNat ua)).getD ug.toNat 0<(↑ux.length:Int),((flwR (g.nodes.getD (ul.getD ud.toNat 0).toNat ua)).getD ug.toNat 0).toNat<ux.length]) (hv:=W16)
     ·exact Q4 (vi g ud ui uj uw ul v) (ug,um,uq,ux,uE) ((ug+(1:Int),um,uq.set ((flwR (g.nodes.getD (ul.getD ud.toNat 0).toNat ua)).getD ug.toNat 0).toNat (Hdl.mk v.snd.fst v.snd.snd.fst v.snd.snd.snd),ux.set ((flwR (g.nodes.getD (ul.getD ud.toNat 0).toNat ua)).getD ug.toNat 0).toNat (Bo.mk true),uE++[(flwR (g.nodes.getD (ul.getD ud.toNat 0).toNat ua)).getD ug.toNat 0])) W201 W153 [0,1,2,3,4,9,6,7] [6,7,8,9,10,11,12] [(uq.set ((flwR (g.nodes.getD (ul.getD ud.toNat 0).toNat ua)).getD ug.toNat 0).toNat (Hdl.mk v.snd.fst v.snd.snd.fst v.snd.snd.snd)).length=uq.length,∀ (i:Nat),i<(uq.set ((flwR (g.nodes.getD (ul.getD ud.toNat 0).toNat ua)).getD ug.toNat 0).toNat (Hdl.mk v.snd.fst v.snd.snd.fst v.snd.snd.snd)).length→((uq.set ((flwR (g.nodes.getD (ul.getD ud.toNat 0).toNat ua)).getD ug.toNat 0).toNat (Hdl.mk v.snd.fst v.snd.snd.fst v.snd.snd.snd)).getD i ua).tc=updT (fun i=>(uq.getD i ua).tc) ((flwR (g.nodes.getD (ul.getD ud.toNat 0).toNat ua)).getD ug.toNat 0).toNat 0 [je v.snd.fst v.snd.snd.fst v.snd.snd.snd] i,(ux.set ((flwR (g.nodes.getD (ul.getD ud.toNat 0).toNat ua)).getD ug.toNat 0).toNat (Bo.mk true)).length=ux.length,∀ (i:Nat),i<(ux.set ((flwR (g.nodes.getD (ul.getD ud.toNat 0).toNat ua)).getD ug.toNat 0).toNat (Bo.mk true)).length→((ux.set ((flwR (g.nodes.getD (ul.getD ud.toNat 0).toNat ua)).getD ug.toNat 0).toNat (Bo.mk true)).getD i ua).tc=updT (fun i=>(ux.getD i ua).tc) ((flwR (g.nodes.getD (ul.getD ud.toNat 0).toNat ua)).getD ug.toNat 0).toNat 0 [jS true] i,(uE++[(flwR (g.nodes.getD (ul.getD ud.toNat 0).toNat ua)).getD ug.toNat 0]).length=uE.length+1,∀ (i:Nat),i<(uE++[(flwR (g.nodes.getD (ul.getD ud.toNat 0).toNat ua)).getD ug.toNat 0]).length→i≠uE.length→i64T ((uE++[(flwR (g.nodes.getD (ul.getD ud.toNat 0).toNat ua)).getD ug.toNat 0]).getD i 0)=i64T (uE.getD i 0),i64T ((uE++[(flwR (g.nodes.getD (ul.getD ud.toNat 0).toNat ua)).getD ug.toNat 0]).getD uE.length 0) 0=TC.val (jg ja ((flwR (g.nodes.getD (ul.getD ud.toNat 0).toNat ua)).getD ug.toNat 0))] W58 (vc:=[(0:Int)≤ug,ug<(↑(flwR (g.nodes.getD (ul.getD ud.toNat 0).toNat ua)).length:Int),ug.toNat<(flwR (g.nodes.getD (ul.getD ud.toNat 0).toNat ua)).length,(0:Int)≤(flwR (g.nodes.getD (ul.getD ud.toNat 0).toNat ua)).getD ug.toNat 0,(flwR (g.nodes.getD (ul.getD ud.toNat 0).toNat ua)).getD ug.toNat 0<(↑ux.length:Int),((flwR (g.nodes.getD (ul.getD ud.toNat 0).toNat ua)).getD ug.toNat 0).toNat<ux.length,(0:Int)≤ug,ug<(↑(flwR (g.nodes.getD (ul.getD ud.toNat 0).toNat ua)).length:Int),ug.toNat<(flwR (g.nodes.getD (ul.getD ud.toNat 0).toNat ua)).length,(0:Int)≤(flwR (g.nodes.getD (ul.getD ud.toNat 0).toNat ua)).getD ug.toNat 0,(flwR (g.nodes.getD (ul.getD ud.toNat 0).toNat ua)).getD ug.toNat 0<(↑uq.length:Int),((flwR (g.nodes.getD (ul.getD ud.toNat 0).toNat ua)).getD ug.toNat 0).toNat<uq.length,(0:Int)≤ug,ug<(↑(flwR (g.nodes.getD (ul.getD ud.toNat 0).toNat ua)).length:Int),ug.toNat<(flwR (g.nodes.getD (ul.getD ud.toNat 0).toNat ua)).length,uE.length+1≤maxLen,(uE.length+1) * 8≤140737488355328,Fits ja (ug+(1:Int))]) (hv:=W16)
     ·refine tz [11,10,9,7,6,5,4,3,2,1] ?_
      refine Q3 Q4j (Qk0 g.nodes v.fst ((uq.getD ((flwR (g.nodes.getD (ul.getD ud.toNat 0).toNat ua)).getD ug.toNat 0).toNat ua).a) ((uq.getD ((flwR (g.nodes.getD (ul.getD ud.toNat 0).toNat ua)).getD ug.toNat 0).toNat ua).n) ((uq.getD ((flwR (g.nodes.getD (ul.getD ud.toNat 0).toNat ua)).getD ug.toNat 0).toNat ua).c) v.snd.fst v.snd.snd.fst v.snd.snd.snd W92 W92 W92) [] ?_ (vc:=[(0:Int)≤ug,ug<(↑(flwR (g.nodes.getD (ul.getD ud.toNat 0).toNat ua)).length:Int),ug.toNat<(flwR (g.nodes.getD (ul.getD ud.toNat 0).toNat ua)).length,(0:Int)≤(flwR (g.nodes.getD (ul.getD ud.toNat 0).toNat ua)).getD ug.toNat 0,(flwR (g.nodes.getD (ul.getD ud.toNat 0).toNat ua)).getD ug.toNat 0<(↑uq.length:Int),((flwR (g.nodes.getD (ul.getD ud.toNat 0).toNat ua)).getD ug.toNat 0).toNat<uq.length]) (hv:=W16)
      refine tz [133,11,10,9,7,6,5,4,3,2,1] ?_
      refine Q0 (!decide (rd v.fst (je (uq.getD ((flwR (g.nodes.getD (ul.getD ud.toNat 0).toNat ua)).getD ug.toNat 0).toNat ua).a (uq.getD ((flwR (g.nodes.getD (ul.getD ud.toNat 0).toNat ua)).getD ug.toNat 0).toNat ua).n (uq.getD ((flwR (g.nodes.getD (ul.getD ud.toNat 0).toNat ua)).getD ug.toNat 0).toNat ua).c)=rd v.fst (je v.snd.fst v.snd.snd.fst v.snd.snd.snd))) (fun h6=>?_) (fun h6=>?_)
      ·exact Q2 [0,1000001] [0] [heldF g.nodes=(flwR (g.nodes.getD (ul.getD ud.toNat 0).toNat ua)).getD ug.toNat 0] W73 (vc:=[(0:Int)≤ug,ug<(↑(flwR (g.nodes.getD (ul.getD ud.toNat 0).toNat ua)).length:Int),ug.toNat<(flwR (g.nodes.getD (ul.getD ud.toNat 0).toNat ua)).length]) (hv:=W16)
      ·exact Q4 (vi g ud ui uj uw ul v) (ug,um,uq,ux,uE) ((ug+(1:Int),um,uq,ux,uE)) W201 W153 (vc:=(zF ug)) (hv:=W16)
    ·exact Q4 (vO g X0) (ud,ui,uf,uj,uw,ul) ((ud+(1:Int),um,v.fst,uq,ux,uE)) (by dsimp only [vO];exact W240) (hJ3.done (uc h4)) (vc:=(zF ud)) (hv:=W16)
 ·exact Q2 [0,3] [0] [heldF g.nodes=(-1:Int)] W73
def vn (sh:List Dcl) (lk:List Dcl) (gs:List Grf):Lp (Int×List Dcl):=⟨fun x=>{ N:=151,fr:=[se 6 (C.i .i64 x.1),se 5 (C.h 4),se 4 (C.i .i64 0),se 3 (C.i .i64 0),se 2 (C.i .i64 0),zbO],rg:=[rowOf 3 (·.tc) sh,rowOf 3 (·.tc) lk,rowOf 4 (·.tc) gs,zP]++[Dcl.ownR x.2],wr:=[] },fun x=>0≤x.1∧x.1≤(gs.length:Int)∧x.2=thrL (gs.take x.1.toNat),fun x=>((gs.length:Int)-x.1).toNat⟩
def vP (sh:List Dcl) (lk:List Dcl) (gs:List Grf) (un:List Dcl):Lp (Int×Int×Int×Int):=⟨fun x=>{ N:=151,fr:=[se 12 (C.i .i64 x.1),se 4 (C.i .i64 x.2.1),se 3 (C.i .i64 x.2.2.1),se 2 (C.i .i64 x.2.2.2),zbO],rg:=[rowOf 3 (·.tc) sh,rowOf 3 (·.tc) lk,rowOf 4 (·.tc) gs,zP,ownOf 62 3 (·.tc) un,Reg.dead,Reg.dead,ownOf 9 1 (·.tc) ((namR false un ((namR false lk ((namR true sh []).getD [])).getD [])).getD [])],wr:=[] },fun x=>CJ sh lk gs x.1,fun x=>((gs.length:Int)-x.1).toNat⟩
def vQ (sh:List Dcl) (lk:List Dcl) (gs:List Grf) (un:List Dcl) (uk:Int) (uy:Int) (uC:Int) (uG:Int):Lp (Int×Int×Int×Int):=⟨fun x=>{ N:=151,fr:=[se 14 (C.i .i64 x.1),se 13 (C.p 9 0),se 12 (C.i .i64 uk),se 4 (C.i .i64 x.2.1),se 3 (C.i .i64 x.2.2.1),se 2 (C.i .i64 x.2.2.2),zbO],rg:=[rowOf 3 (·.tc) sh,rowOf 3 (·.tc) lk,Reg.row 4 gs.length (fun i=>(gs.getD i ua).tc) (some (uk.toNat,[C.v (jC (gs.getD uk.toNat ua).name),C.i .i64 (gs.getD uk.toNat ua).locals,C.i .i64 (gs.getD uk.toNat ua).slots,C.h 8])),zP,ownOf 62 3 (·.tc) un,Reg.dead,Reg.dead,ownOf 9 1 (·.tc) ((namR false un ((namR false lk ((namR true sh []).getD [])).getD [])).getD []),zt gs uk,Reg.box 60 [C.v (jC (gs.getD uk.toNat ua).name),C.i .i64 (gs.getD uk.toNat ua).locals,C.i .i64 (gs.getD uk.toNat ua).slots,C.h 8]],wr:=[] },fun x=>CN sh.length lk.length (gs.getD uk.toNat ua) x.1,fun x=>(((gs.getD uk.toNat ua).nodes.length:Int)-x.1).toNat⟩
theorem Q92 (sh lk:List Dcl) (gs:List Grf) (hs:zy sh) (hl:zy lk) (hg:zT gs) (hw:UnitW gs):Ctr jb 32 (zbr sh lk gs) [.agg [.h 0,.h 1,.h 2]]
 (Det (.tup [(false,[.i .i64 (chkU sh lk gs).1]),(false,[.i .i64 (chkU sh lk gs).2.1]),(false,[.i .i64 (chkU sh lk gs).2.2])]) zb2):=by
 refine Ctr.intro [] Tryz.func32 K K ?_
 refine Q0 (decide ((64:Int)<(↑sh.length:Int))||decide ((16:Int)<(↑lk.length:Int))||decide ((8:Int)<(↑gs.length:Int))) (fun h1=>?_) (fun h1=>?_)
 ·exact Q2 [] [0,1,2] (zbs sh lk gs) W33
 ·refine tz [4,3,2,1] ?_
  refine Q6 (vn sh lk gs) (((0:Int),[])) ⟨jz _,by omega,rfl⟩ ?_ [0,1,2,3,1000004] [6] [(0:Nat)=0] W20
  rintro ⟨ue,un⟩ hJ2
  dsimp only [vn] at hJ2
  refine tz [6,5,4,3,2,1] ?_
  refine Q0 (decide (ue<(↑gs.length:Int))) (fun h3=>?_) (fun h3=>?_)
  ·exact Q1c (vn sh lk gs) (ue,un) ((ue+(1:Int),un++[Dcl.mk (gs.getD ue.toNat ua).name (0:Int) (0:Int)])) (by dsimp only [vn];have q:=ub h3;have q2:=hJ2.1;omega) (by dsimp only [vn];have q:=ub h3;have q2:=hJ2.1;refine ⟨by omega,by omega,?_⟩;rw [show (ue+1).toNat=ue.toNat+1 by omega,hJ2.2.2];exact Qjw (by omega)) [(6,(Dcl.tc ⟨(gs.getD ue.toNat ua).name,0,0⟩))] [0,1,2,3,6] [6,7] [(un++[Dcl.mk (gs.getD ue.toNat ua).name (0:Int) (0:Int)]).length=un.length+1,∀ (i:Nat),i<(un++[Dcl.mk (gs.getD ue.toNat ua).name (0:Int) (0:Int)]).length→((un++[Dcl.mk (gs.getD ue.toNat ua).name (0:Int) (0:Int)]).getD i ua).tc=if i=un.length then (Dcl.mk (gs.getD ue.toNat ua).name (0:Int) (0:Int)).tc else (un.getD i ua).tc] W158 (vc:=[(0:Int)≤ue,ue<(↑gs.length:Int),ue.toNat<gs.length,un.length+1≤maxLen,(un.length+1) * 32≤140737488355328,Fits ja (ue+(1:Int))]) (hv:=W36) (vc2:=[jC (gs.getD ue.toNat ua).name=jC (gs.getD ue.toNat ua).name,(0:Int)=(0:Int),(0:Int)=(0:Int)]) (hv2:=W163)
  ·refine tz [6,5,4,3,2,1] ?_
   refine Q3 Z9 (Qf2 sh true W27 W27) [] ?_
   refine tz [53,5,4,3,2,1] ?_
   refine Q3 Z9 (Q91 lk ((namR true sh []).getD []) false W27 W27) [1,5] ?_
   refine tz [60,8,7,5,4,3,2,1] ?_
   refine Q3 Z9 (Q91 un ((namR false lk ((namR true sh []).getD [])).getD []) false W27 W27) [4,6] ?_
   refine tz [66,9,8,4,3,2,1] ?_
   refine Q0 (!(namR true sh []).isSome||!(namR false lk ((namR true sh []).getD [])).isSome||!(namR false un ((namR false lk ((namR true sh []).getD [])).getD [])).isSome) (fun h4=>?_) (fun h4=>?_)
   ·exact Q2 [] [0,1,2] (zbs sh lk gs) W33
   ·refine tz [4,3,2,1] ?_
    refine Q6 (vP sh lk gs un) (((0:Int),(0:Int),(0:Int),(0:Int))) (CJ.start (Qdk h1 (by rw [hJ2.2.2,j7 W247]) h4)) ?_
    rintro ⟨uk,uy,uC,uG⟩ hJ5
    dsimp only [vP] at hJ5
    refine tz [12,4,3,2,1] ?_
    refine Q0 (decide (uk<(↑gs.length:Int))) (fun h6=>?_) (fun h6=>?_)
    ·refine Qv 2 (uk.toNat) ?_ (vc:=(zcc uk gs)) (hv:=W36)
     refine tz [12,4,3,2,1] ?_
     refine Q0 (decide ((gs.getD uk.toNat ua).locals<(0:Int))||decide ((64:Int)<(gs.getD uk.toNat ua).locals)||decide ((gs.getD uk.toNat ua).slots<(gs.getD uk.toNat ua).locals)||decide ((4160:Int)<(gs.getD uk.toNat ua).slots)||decide ((↑(gs.getD uk.toNat ua).nodes.length:Int)<(1:Int))||decide ((4096:Int)<(↑(gs.getD uk.toNat ua).nodes.length:Int))) (fun h7=>?_) (fun h7=>?_) (vc:=(za6 uk gs)) (hv:=W36)
     ·exact Q2 [] [0,1,2] [(chkU sh lk gs).fst=(60:Int),(chkU sh lk gs).snd.fst=uk,(chkU sh lk gs).snd.snd=(0:Int)] W33
     ·refine tz [13,12,4,3,2,1] ?_
      refine Q6 (vQ sh lk gs un uk uy uC uG) (((0:Int),uy,uC,uG)) (CN.start _ _ _) ?_
      rintro ⟨uz,uB,ut,wx⟩ hJ8
      dsimp only [vQ] at hJ8
      refine tz [14,13,12,4,3,2,1] ?_
      refine Q0 (decide (uz<(↑(gs.getD uk.toNat ua).nodes.length:Int))) (fun h9=>?_) (fun h9=>?_)
      ·refine tz [14,13,12,4,3,2,1] ?_
       refine Q3 Q4g (Qjz sh lk gs (gs.getD uk.toNat ua) ((gs.getD uk.toNat ua).nodes.getD uz.toNat ua)) [0,1,2,8] ?_ (vc:=(zaT uz gs uk)) (hv:=W36)
       refine tz [138,137,136,135,134,133,132,131,14,13,12,4,3,2,1] ?_
       refine Q0 (!nodeR (↑sh.length:Int) (↑lk.length:Int) (gs.getD uk.toNat ua) ((gs.getD uk.toNat ua).nodes.getD uz.toNat ua)) (fun h10=>?_) (fun h10=>?_)
       ·exact Q2 [] [0,1,2] [(chkU sh lk gs).fst=(60:Int),(chkU sh lk gs).snd.fst=uk,(chkU sh lk gs).snd.snd=uz] W33
       ·exact Q4 (vQ sh lk gs un uk uy uC uG) (uz,uB,ut,wx) ((uz+(1:Int),uB,ut,wx)) (by dsimp only [vQ];have q:=ub h9;have q2:=hJ8.i0;omega) (hJ8.next (ub h9) (Q90 h10 (hw _ _))) (vc:=(zF uz)) (hv:=W36)
      ·refine tz [14,13,12,4,3,2,1] ?_
       refine Q3 Q4h (Qk1 (gs.getD uk.toNat ua) W27 W27) [8] ?_
       refine tz [144,12,4,3,2,1] ?_
       refine Q0 (decide ((0:Int)≤heldF (gs.getD uk.toNat ua).nodes)) (fun h10=>?_) (fun h10=>?_)
       ·exact Q2 [] [0,1,2] (zcl sh lk gs uk) W33
       ·exact Q4 (vP sh lk gs un) (uk,uy,uC,uG) ((uk+(1:Int),uB,ut,wx)) (by dsimp only [vP];have q:=ub h6;have q2:=hJ5.t0;omega) (hJ5.next (ub h6) h7 (hJ8.done (uc h9)) h10) (vc:=(zF uk)) (hv:=W36)
    ·exact Q2 [] [0,1,2] [(chkU sh lk gs).fst=(0:Int),(chkU sh lk gs).snd.fst=(0:Int),(chkU sh lk gs).snd.snd=(0:Int)] W33
abbrev zaH:En:=se 4 (C.v (je none 0 0))
def vR (sh:List Dcl) (lk:List Dcl) (gs:List Grf) (al:List Alc):Lp (Int×List Int):=⟨fun x=>{ N:=48,fr:=[se 15 (C.i .i64 x.1),se 14 (C.i .i64 (↑sh.length:Int)),se 13 (C.h 0),se 6 (C.h 5),se 5 (C.v (je none 0 0)),zaH,se 2 (C.p 4 0),se 1 (C.h 3)],rg:=[rowOf 3 (·.tc) sh,rowOf 3 (·.tc) lk,rowOf 4 (·.tc) gs,rowOf 2 (·.tc) al,zP]++[WordOwn x.2],wr:=[] },fun x=>0≤x.1∧x.1≤(sh.length:Int)∧x.2=(sh.take x.1.toNat).map (·.word),fun x=>((sh.length:Int)-x.1).toNat⟩
def vS (sh:List Dcl) (lk:List Dcl) (gs:List Grf) (al:List Alc):Lp (Int×List Int×List Int):=⟨fun x=>{ N:=48,fr:=[se 32 (C.i .i64 x.1),se 31 (C.i .i64 (↑al.length:Int)),se 30 (C.h 3),se 9 (C.h 7),se 6 (C.h 6),se 5 (C.v (je none 0 0)),zaH],rg:=[rowOf 3 (·.tc) sh,rowOf 3 (·.tc) lk,rowOf 4 (·.tc) gs,rowOf 2 (·.tc) al,zP,Reg.dead,WordOwn (x.2.2)]++[IntOwn x.2.1],wr:=[] },fun x=>0≤x.1∧x.1≤(al.length:Int)∧x.2.1=mAt sh lk al x.1.toNat∧x.2.2=memL sh lk al x.1.toNat,fun x=>((al.length:Int)-x.1).toNat⟩
abbrev zbS (y0 y1:List Dcl) (y2:List Grf) (y3:List Alc):List Reg:=[Dcl.rowR y0,Dcl.rowR y1,Grf.rowR y2,Alc.rowR y3]
abbrev zbU (y0:List Alc):Prop:=∀ j:Nat,j<y0.length→0≤(y0.getD j ua).cells∧(y0.getD j ua).cells≤4160
theorem Qbk (sh lk:List Dcl) (gs:List Grf) (al:List Alc) (hsl:sh.length≤1000000) (hll:lk.length≤1000000) (hal:al.length≤1000) (hac:zbU al):Ctr jb 35 (zbS sh lk gs al) [.agg [.h 0,.h 1,.h 2],.c (.h 3)]
 (Det (.tup [(false,[.h 4]),(false,[.h 5])]) [.dead,.dead,.dead,.dead,WordOwn (memL sh lk al al.length),IntOwn (mAt sh lk al al.length)]):=by
 refine Ctr.intro [] Tryz.func35 K K ?_
 refine Q6 (vR sh lk gs al) (((0:Int),[])) (⟨jz _,by omega,rfl⟩) ?_ [0,1,2,3,4,1000005] [8] [(0:Nat)=0] W128
 rintro ⟨ud,ui⟩ hJ1
 dsimp only [vR] at hJ1
 refine tz [15,14,13,6,5,4,2,1] ?_
 refine Q0 (decide (ud<(↑sh.length:Int))) (fun h2=>?_) (fun h2=>?_)
 ·exact Q4 (vR sh lk gs al) (ud,ui) ((ud+(1:Int),ui++[(sh.getD ud.toNat ua).word])) (by dsimp only [vR];exact W228) (⟨by omega,by have q:=ub h2;omega,by rw [hJ1.2.2,show (ud+1).toNat=ud.toNat+1 by omega,Qci sh _ W174]⟩) [0,1,2,3,4,8] [8,9,10] [(ui++[(sh.getD ud.toNat ua).word]).length=ui.length+1,∀ (i:Nat),i<(ui++[(sh.getD ud.toNat ua).word]).length→i≠ui.length→i64T ((ui++[(sh.getD ud.toNat ua).word]).getD i 0)=i64T (ui.getD i 0),i64T ((ui++[(sh.getD ud.toNat ua).word]).getD ui.length 0) 0=TC.val (jg ja (sh.getD ud.toNat ua).word)] W128 (vc:=[(0:Int)≤ud,ud<(↑sh.length:Int),ud.toNat<sh.length,ui.length+1≤maxLen,(ui.length+1) * 8≤140737488355328,Fits ja (ud+(1:Int))]) (hv:=W35)
 ·refine tz [15,14,13,6,5,4,2,1] ?_
  refine RunF.hereL (vc:=[(0:Int)≤(↑lk.length:Int),ui.length+lk.length≤maxLen,(ui.length+lk.length) * 8≤140737488355328]) K W35 ?_
  refine Qah 6 ((WordOwn (memL sh lk al 0))) ?_ (vc:=[(memL sh lk al 0).length=ui.length+lk.length,∀ (i:Nat),i<(memL sh lk al 0).length→i64T ((memL sh lk al 0).getD i 0)=fun j=>if i<ui.length then i64T (ui.getD i 0) j else valT (jg ja (0:Int)).cells.toList j]) (hv:=W134)
  refine tz [32,31,30,9,6,5,4] ?_
  refine Q6 (vS sh lk gs al) (((0:Int),[],memL sh lk al 0)) (⟨jz _,by omega,rfl,rfl⟩) ?_ [0,1,2,3,4,5,6,1000007] [10] [(0:Nat)=0] W128
  rintro ⟨ug,um,uq⟩ hJ3
  dsimp only [vS] at hJ3
  refine tz [32,31,30,9,6,5,4] ?_
  refine Q0 (decide (ug<(↑al.length:Int))) (fun h4=>?_) (fun h4=>?_)
  ·refine Qv 3 (ug.toNat) ?_ (vc:=[ug.toNat<al.length]) (hv:=W35)
   refine RunF.hereJ (vc:=[(0:Int)≤ug,ug<(↑al.length:Int),ug.toNat=ug.toNat,um.length+1≤maxLen,(um.length+1) * 8≤140737488355328,(0:Int)≤(al.getD ug.toNat ua).cells,uq.length+(al.getD ug.toNat ua).cells.toNat≤maxLen,(uq.length+(al.getD ug.toNat ua).cells.toNat) * 8≤140737488355328,Fits ja (ug+(1:Int))]) K K W35 ?_
   refine Qah 12 ((WordOwn (memL sh lk al (ug.toNat+1)))) ?_ (vc:=[(memL sh lk al (ug.toNat+1)).length=uq.length+(al.getD ug.toNat ua).cells.toNat,∀ (i:Nat),i<(memL sh lk al (ug.toNat+1)).length→i64T ((memL sh lk al (ug.toNat+1)).getD i 0)=fun j=>if i<uq.length then i64T (uq.getD i 0) j else valT (jg ja (0:Int)).cells.toList j]) (hv:=W134)
   exact Q4 (vS sh lk gs al) (ug,um,uq) ((ug+(1:Int),um++[(↑uq.length:Int)],memL sh lk al (ug.toNat+1))) (by dsimp only [vS];exact W230) (⟨by omega,by have q:=ub h4;omega,by rw [hJ3.2.2.1,hJ3.2.2.2,show (ug+1).toNat=ug.toNat+1 by omega,Qbg],by rw [show (ug+1).toNat=ug.toNat+1 by omega]⟩) [0,1,2,3,4,5,12,11] [10,11,12] [(um++[(↑uq.length:Int)]).length=um.length+1,∀ (i:Nat),i<(um++[(↑uq.length:Int)]).length→i≠um.length→i64T ((um++[(↑uq.length:Int)]).getD i 0)=i64T (um.getD i 0),i64T ((um++[(↑uq.length:Int)]).getD um.length 0) 0=TC.val (jg ja (↑uq.length:Int))] W128
  ·exact Q2 [0,1,2,3,6,7] [0,1,2,3] [(memL sh lk al al.length).length=uq.length,∀ (i:Nat),i<(memL sh lk al al.length).length→i64T ((memL sh lk al al.length).getD i 0)=i64T (uq.getD i 0),(mAt sh lk al al.length).length=um.length,∀ (i:Nat),i<(mAt sh lk al al.length).length→i64T ((mAt sh lk al al.length).getD i 0)=i64T (um.getD i 0)] (by simp only [Conj];(repeat' apply jl)<;>(have q:=uc h4;have e:ug.toNat=al.length:=(by omega);have e1:=hJ3.2.2.1;have e2:=hJ3.2.2.2;rw [e] at e1 e2;subst e1 e2;first | rfl | (intros;rfl)))
def kNs:List Nod:=[⟨3,0,0,0,⟨false,0,5⟩,⟨false,0,0⟩,1,0,0⟩,⟨2,0,0,0,⟨false,0,0⟩,⟨false,0,0⟩,2,0,1⟩,⟨7,0,0,0,⟨true,0,0⟩,⟨false,0,0⟩,3,0,2⟩,⟨9,0,0,0,⟨false,0,0⟩,⟨false,0,0⟩,0,0,3⟩]
def kSh:List Dcl:=[⟨⟨#[120]⟩,0,0⟩]
def kGs:List Grf:=[⟨⟨#[97]⟩,0,1,kNs⟩]
def kAl:List Alc:=[⟨[⟨false,0⟩],0⟩]
def kF1:List Iln:=[⟨[1]⟩]
def kF0:List Iln:=[⟨[]⟩]
theorem Zk {α:Type} (P:α→Prop) (l:List α) (d:α) (h:∀ x∈l,P x) (hd:P d) (a:Nat):P (l.getD a d):=by
 rw [jc]
 cases e:l[a]? with
 | none=>exact hd
 | some x=>exact h x (jq e)
theorem kUw:UnitW kGs:=fun a b=>by
 refine Zk (fun g:Grf=>0≤(g.nodes.getD b ua).kind∧0≤(g.nodes.getD b ua).op∧(g.nodes.getD b ua).op≤255) kGs ua (fun x hx=>?_) ?_ a
 ·refine Zk (fun n:Nod=>0≤n.kind∧0≤n.op∧n.op≤255) x.nodes ua (fun n hn=>?_) W164 b
  simp only [kGs,kD,kq,or_false] at hx
  subst hx
  simp only [kNs,kD,kq,or_false] at hn
  rcases hn with rfl | rfl | rfl | rfl<;>decide
 ·exact Zk (fun n:Nod=>0≤n.kind∧0≤n.op∧n.op≤255) [] ua (fun n hn=>by cases hn) W164 b
theorem kSn:∀ j:Nat,(kSh.getD j ua).name.size≤maxLen:=fun j=>Zk (fun d:Dcl=>d.name.size≤maxLen) kSh ua (fun x hx=>by
 simp only [kSh,kD,kq,or_false] at hx
 subst hx;decide) W164 j
theorem kLn:∀ j:Nat,(([]:List Dcl).getD j ua).name.size≤maxLen:=fun j=>Zk (fun d:Dcl=>d.name.size≤maxLen) [] ua (fun x hx=>by cases hx) W164 j
theorem kGn:∀ j:Nat,(kGs.getD j ua).name.size≤maxLen:=fun j=>Zk (fun d:Grf=>d.name.size≤maxLen) kGs ua (fun x hx=>by
 simp only [kGs,kD,kq,or_false] at hx
 subst hx;decide) W164 j
theorem kAn:∀ j:Nat,(kAl.getD j ua).places.length≤9223372036854775807:=fun j=>Zk (fun d:Alc=>d.places.length≤9223372036854775807) kAl ua (fun x hx=>by
 simp only [kAl,kD,kq,or_false] at hx
 subst hx;decide) W164 j
theorem Qrn:∀ j:Nat,(kF1.getD j ua).l.length≤9223372036854775807:=fun j=>Zk (fun d:Iln=>d.l.length≤9223372036854775807) kF1 ua (fun x hx=>by
 simp only [kF1,kD,kq,or_false] at hx
 subst hx;decide) W164 j
theorem Qro:∀ j:Nat,(kF0.getD j ua).l.length≤9223372036854775807:=fun j=>Zk (fun d:Iln=>d.l.length≤9223372036854775807) kF0 ua (fun x hx=>by
 simp only [kF0,kD,kq,or_false] at hx
 subst hx;decide) W164 j
theorem Qrp:(chkU kSh [] kGs).1=0:=by kernel_rfl
theorem Qpb:rgtU kSh [] kGs kAl=(true,0):=by
 unfold rgtU
 rw [if_neg (by rw [Qrp];decide),if_neg W164,if_neg (by rw [show ((jB kGs.length).all fun t=>fitB (kGs.getD t ua).slots (kAl.getD t ua))=true by kernel_rfl];decide)]
 have:okF kGs kAl kGs.length=true:=by
  unfold okF okS
  simp [kGs,kAl,atL]
 rw [this]
theorem Qrc:fauU kSh [] kGs kF1 kAl 4=0:=by
 unfold fauU
 rw [Qpb,if_neg (by rw [show safU kSh [] kGs kF1=0 by kernel_rfl];decide),if_neg W164,if_neg W164,if_neg W164]
theorem Qrd:fauU kSh [] kGs kF0 kAl 1=0:=by
 unfold fauU
 rw [Qpb,if_neg (by rw [show safU kSh [] kGs kF0=0 by kernel_rfl];decide),if_neg W164,if_neg W164,if_neg W164]
def kCode:List Ins:=[⟨1,0,13,0,0,0,0,5,1⟩,⟨4,0,0,13,0,0,0,0,1⟩,⟨6,0,0,0,0,0,0,0,2⟩,⟨3,0,0,0,0,0,0,0,2⟩,⟨7,0,0,0,0,0,0,0,3⟩,⟨10,0,0,0,0,0,0,0,4⟩]
theorem Qre:madU kSh [] kGs kF1 kAl 4=(0,[0],[⟨⟨#[97]⟩,kCode⟩],[⟨[0,2,4,5]⟩],1,0,4):=by
 unfold madU
 rw [Qrc,if_neg W164,if_neg W164,if_pos (by kernel_rfl)]
 kernel_rfl
theorem Qrf:∃ c,madU kSh [] kGs kF0 kAl 1=(0,[0],c,[⟨[0,2,3,4]⟩],1,0,1):=by
 refine ⟨corL kSh [] kGs kF0 kAl kGs.length,?_⟩
 unfold madU
 rw [Qrd,if_neg W164,if_neg W164,if_pos (by kernel_rfl)]
 kernel_rfl
def vT (l:List Int) (v:Int):Lp (Int×Int):=⟨fun x=>{ N:=19,fr:=[se 8 (C.i .i64 x.1),se 7 (C.i .i64 (↑l.length:Int)),se 4 (C.i .i64 x.2),se 0 (C.h 0),se 1 (C.i .i64 v)],rg:=[IntRow l],wr:=[] },fun x=>idxJ l v x.1,fun x=>((l.length:Int)-x.1).toNat⟩
abbrev zc6:Int × Int:=((0:Int),(0:Int))
theorem Qn5 (l:List Int) (v:Int) (hl:l.length≤8388608):Ctr jb 109 [IntRow l] [.c (.h 0),zc8 v]
 (Det (.c (.i .i64 (idxF l v 0))) [IntRow l]):=by
 refine Ctr.intro [] Tryz.func109 K K ?_
 refine Q6 (vT l v) (zc6) (.start l v) ?_
 rintro ⟨ud,ui⟩ hJ1
 dsimp only [vT] at hJ1
 refine tz [8,7,4,0,1] ?_
 refine Q0 (decide (ud<(↑l.length:Int))) (fun h2=>?_) (fun h2=>?_)
 ·refine tz [8,7,4,0,1] ?_
  refine Q0 (decide (v=l.getD ud.toNat 0)) (fun h3=>?_) (fun h3=>?_) (vc:=(zax ud l)) (hv:=W159)
  ·exact Q2 [] [2] [idxF l v (0:Int)=ud] W119
  ·exact Q4 (vT l v) (ud,ui) ((ud+(1:Int),ui)) (by dsimp only [vT];exact W235) (hJ1.next (ub h2) (uc h3)) (vc:=(zF ud)) (hv:=W159)
 ·exact Q2 [] [2] [idxF l v (0:Int)=(-1:Int)] W119
theorem Q3z (n:Nod):Ctr jb 129 [] [.agg n.cs]
 (Det (.c (.b (decide (n.kind=1)||decide (n.kind=2)||decide (n.kind=4)))) []):=by
 refine Ctr.intro [] Tryz.func129 K K ?_
 exact Q2
theorem Qh6 (n:Nod):Ctr jb 168 [] [.agg n.cs]
 (Det (.c (.b (decide (n.kind=2)||decide (n.kind=3)||decide (n.kind=4)))) []):=by
 refine Ctr.intro [] Tryz.func168 K K ?_
 exact Q2
def wz (U:List Int) (u:Int) (b:Int) (P:List Int):Lp (Bool×Int):=⟨fun x=>{ N:=15,fr:=[se 5 (C.b x.1),se 0 (C.i .i64 u),se 1 (C.i .i64 x.2),se 2 (C.p 0 0)],rg:=[Reg.box 49 [C.h 1],IntOwn U],wr:=[] },fun x=>upJ P U u b x.2,fun x=>upM P x.2⟩
abbrev zbY:Reg:=Reg.box 49 [.h 1]
theorem Qn6 (P U:List Int) (u b:Int) (hM:UpH P U) (hb:b<(U.length:Int)):Ctr jb 150 [zbY,IntOwn U] [zc8 u,zc8 b,.c (.p 0 0)]
 (Det (.c (.b (upF P U u b))) [zbY,IntOwn U]):=by
 refine Ctr.intro [] Tryz.func150 K K ?_
 refine Q6 (wz U u b P) ((false,b)) (.start hb) ?_
 rintro ⟨ud,ui⟩ hJ1
 dsimp only [wz] at hJ1
 refine tz [5,0,1,2] ?_
 refine Q0 (decide ((0:Int)≤ui)) (fun h2=>?_) (fun h2=>?_)
 ·refine tz [5,0,1,2] ?_
  refine Q0 (decide (ui=u)) (fun h3=>?_) (fun h3=>?_)
  ·exact Q2 [] [2] [upF P U u b=true] W119
  ·exact Q4 (wz U u b P) (ud,ui) ((ud,U.getD ui.toNat 0)) ((hJ1.next hM (ub h2) (uc h3)).2) ((hJ1.next hM (ub h2) (uc h3)).1) (vc:=(zax ui U)) (hv:=(by simp only [Conj,Fits,Q7,Q8,Q9,Qa,News.len,maxLen]<;>(repeat' apply jl)<;>(have z:=hJ1.1;exact W235)))
 ·exact Q2 [] [2] [upF P U u b=false] W119
abbrev za3:En:=se 1 (C.p 1 0)
def u7 (g:Grf):Lp (Int×Bool):=⟨fun x=>{ N:=50,fr:=[se 20 (C.i .i64 x.1),se 19 (C.i .i64 (↑g.nodes.length:Int)),se 18 (C.h 0),se 2 (C.b x.2),za3],rg:=[rowOf 13 (·.tc) g.nodes,ze g],wr:=[] },fun x=>0≤x.1∧x.1≤(g.nodes.length:Int),fun x=>((g.nodes.length:Int)-x.1).toNat⟩
abbrev zd (y0:Grf) (y1:Int):Reg:=Reg.box 101 [C.i .u8 (y0.nodes.getD y1.toNat ua).kind,C.i .u8 (y0.nodes.getD y1.toNat ua).op,C.i .i64 (y0.nodes.getD y1.toNat ua).slot,C.i .i64 (y0.nodes.getD y1.toNat ua).thing,C.b (y0.nodes.getD y1.toNat ua).a.slotted,C.i .i64 (y0.nodes.getD y1.toNat ua).a.slot,C.i .i64 (y0.nodes.getD y1.toNat ua).a.word,C.b (y0.nodes.getD y1.toNat ua).b.slotted,C.i .i64 (y0.nodes.getD y1.toNat ua).b.slot,C.i .i64 (y0.nodes.getD y1.toNat ua).b.word,C.i .i64 (y0.nodes.getD y1.toNat ua).next,C.i .i64 (y0.nodes.getD y1.toNat ua).els,C.i .i64 (y0.nodes.getD y1.toNat ua).origin]
def u9 (g:Grf) (ue:Int) (un:Bool):Lp (Int×Bool):=⟨fun x=>{ N:=50,fr:=[se 35 (C.i .i64 x.1),{ slot:=34,g:=[],sv:=SV.c (C.i .i64 (↑(flwL (g.nodes.getD ue.toNat ua)).length:Int)) },se 33 (C.h 3),se 20 (C.i .i64 ue),se 19 (C.i .i64 (↑g.nodes.length:Int)),se 18 (C.h 0),se 2 (C.b x.2),za3],rg:=[rowOf 13 (·.tc) g.nodes,ze g,zd g ue,IntOwn (flwL (g.nodes.getD ue.toNat ua))],wr:=[] },fun x=>0≤x.1∧x.1≤((flwL (g.nodes.getD ue.toNat ua)).length:Int),fun x=>(((flwL (g.nodes.getD ue.toNat ua)).length:Int)-x.1).toNat⟩
abbrev zW (y0:Grf):Prop:=∀ i:Nat,i<y0.nodes.length→1≤(y0.nodes.getD i ua).kind∧(y0.nodes.getD i ua).kind≤9
abbrev zat (y0:Int) (y1:Grf):List Prop:=[(0:Int)≤y0,y0<(↑y1.nodes.length:Int),y0.toNat<y1.nodes.length]
theorem Q4b (g:Grf) (hq:zG g) (hN:1≤g.nodes.length∧g.nodes.length≤4096) (hk:zW g):Ctr jb 145 [zao g] [.agg (g.cs 0)]
 (Det (.c (.b true)) [.dead]):=by
 refine Ctr.intro [] Tryz.func145 K K ?_
 refine Q0 (decide ((↑g.nodes.length:Int)<(1:Int))||decide ((4096:Int)<(↑g.nodes.length:Int))) (fun h1=>?_) (fun h1=>?_)
 ·exact (show False from by simp only [jK,decide_eq_true_eq] at h1;omega).elim
 ·refine tz [2,1] ?_
  refine Q6 (u7 g) (((0:Int),false)) (by dsimp only [u7];grind) ?_
  rintro ⟨ue,un⟩ hJ2
  dsimp only [u7] at hJ2
  refine tz [20,19,18,2,1] ?_
  refine Q0 (decide (ue<(↑g.nodes.length:Int))) (fun h3=>?_) (fun h3=>?_)
  ·refine tz [20,19,18,2,1] ?_
   refine Q0 (decide ((g.nodes.getD ue.toNat ua).kind=(0:Int))||decide ((10:Int)≤(g.nodes.getD ue.toNat ua).kind)) (fun h4=>?_) (fun h4=>?_) (vc:=(zat ue g)) (hv:=W99)
   ·exact (show False from by have q:=ub h3;have z:=hk ue.toNat W30;simp only [jK,decide_eq_true_eq] at h4;omega).elim
   ·refine tz [4,20,19,18,2,1] ?_
    refine Q3 Ye (Zy (g.nodes.getD ue.toNat ua)) [] ?_
    refine tz [33,20,19,18,2,1] ?_
    refine Q6 (u9 g ue un) (((0:Int),un)) (by dsimp only [u9];grind) ?_
    rintro ⟨uk,uy⟩ hJ5
    dsimp only [u9] at hJ5
    refine tz [35,34,33,20,19,18,2,1] ?_
    refine Q0 (decide (uk<(↑(flwL (g.nodes.getD ue.toNat ua)).length:Int))) (fun h6=>?_) (fun h6=>?_)
    ·refine tz [35,34,33,20,19,18,2,1] ?_
     refine Q0 (decide ((flwL (g.nodes.getD ue.toNat ua)).getD uk.toNat 0<(0:Int))||decide ((↑g.nodes.length:Int)≤(flwL (g.nodes.getD ue.toNat ua)).getD uk.toNat 0)) (fun h7=>?_) (fun h7=>?_) (vc:=[(0:Int)≤uk,uk<(↑(flwL (g.nodes.getD ue.toNat ua)).length:Int),uk.toNat<(flwL (g.nodes.getD ue.toNat ua)).length]) (hv:=W99)
     ·exact (show False from by have q:=ub h3;have z:=hq ue.toNat W30 _ (Y3 (ub h6) hJ5.1);simp only [jK,decide_eq_true_eq] at h7;omega).elim
     ·exact Q4 (u9 g ue un) (uk,uy) ((uk+(1:Int),uy)) (by dsimp only [u9];exact W236) (by dsimp only [u9];grind) (vc:=(zF uk)) (hv:=W99)
    ·exact Q4 (u7 g) (ue,un) ((ue+(1:Int),uy)) (by dsimp only [u7];exact W236) (by dsimp only [u7];grind) (vc:=(zF ue)) (hv:=W99)
  ·exact Q2
def vU (g:Grf):Lp (List Bo×List Int):=⟨fun x=>{ N:=59,fr:=[se 6 (C.h 3),se 5 (C.h 2),zaH,se 2 (C.p 1 0),se 1 (C.i .i64 (-1:Int))],rg:=[rowOf 13 (·.tc) g.nodes,ze g,Bo.ownR (x.1),IntOwn (x.2)],wr:=[] },fun x=>SprJ g.nodes x.1 x.2 none∧2 * falses x.1+x.2.length≤2 * g.nodes.length+1,fun x=>(2 * falses x.1+x.2.length)⟩
def vh (g:Grf) (ud:List Bo) (ui:List Int):Lp (Int×List Bo×List Int):=⟨fun x=>{ N:=59,fr:=[se 41 (C.i .i64 x.1),{ slot:=40,g:=[],sv:=SV.c (C.i .i64 (↑(flwL (g.nodes.getD (ui.getD ((↑ui.length:Int)-(1:Int)).toNat (0:Int)).toNat ua)).length:Int)) },se 39 (C.h 5),se 6 (C.h 4),se 5 (C.h 2),zaH,se 2 (C.p 1 0),se 1 (C.i .i64 (-1:Int))],rg:=[rowOf 13 (·.tc) g.nodes,ze g,Bo.ownR (x.2.1),Reg.dead,IntOwn (x.2.2),IntOwn (flwL (g.nodes.getD (ui.getD ((↑ui.length:Int)-(1:Int)).toNat (0:Int)).toNat ua))],wr:=[] },fun x=>SprJ g.nodes x.2.1 x.2.2 (some ((ui.getD ((ui.length:Int)-(1:Int)).toNat (0:Int)),x.1))∧2 * falses x.2.1+x.2.2.length+1≤2 * falses ud+ui.length∧0<ui.length,fun x=>((flwL (g.nodes.getD (ui.getD ((ui.length:Int)-(1:Int)).toNat (0:Int)).toNat ua)).length-x.1.toNat)⟩
abbrev zaD (y0:Grf):List Prop:=[(0:Int)≤(↑y0.nodes.length:Int),(↑y0.nodes.length:Int)≤(↑y0.nodes.length:Int),(↑y0.nodes.length:Int) * (1:Int)≤(140737488355328:Int),(↑y0.nodes.length:Int)≤(↑maxLen:Int),(0:Int)≤(0:Int),(0:Int)<(↑y0.nodes.length:Int),0<y0.nodes.length]
abbrev zaP (y0:List Int):List Prop:=[((↑y0.length:Int)-(1:Int)).toNat-0=y0.length-1,((↑y0.length:Int)-(1:Int)).toNat-0=y0.length-1]
abbrev zaV (y0:List Int):List Prop:=[(jR (y0.length-1) y0).length=y0.length-1,∀ (i:Nat),i<(jR (y0.length-1) y0).length→i64T ((jR (y0.length-1) y0).getD i 0)=i64T (y0.getD i 0)]
abbrev zbx (y0:Grf):Reg:=Bo.ownR (rchL y0.nodes)
theorem Qbl (g:Grf) (hq:zG g) (hN:1≤g.nodes.length∧g.nodes.length≤4096):Ctr jb 146 [zao g] [.agg (g.cs 0),.c (.i .i64 (-1))]
 (Det (.c (.h 1)) [.dead,zbx g]):=by
 refine Ctr.intro [] Tryz.func146 K K ?_
 refine Q6 (vU g) (((jh g.nodes.length (Bo.mk false)).set 0 (Bo.mk true),[(0:Int)])) (⟨SprJ.start W30,by have z:=Zx ((jh g.nodes.length (Bo.mk false)).set 0 (Bo.mk true));simp only [jF,jI] at z;simp only [kf];omega⟩) ?_ [] [5,6,7,8,9] [((jh g.nodes.length (Bo.mk false)).set 0 (Bo.mk true)).length=g.nodes.length,∀ (i:Nat),i<((jh g.nodes.length (Bo.mk false)).set 0 (Bo.mk true)).length→(((jh g.nodes.length (Bo.mk false)).set 0 (Bo.mk true)).getD i ua).tc=updT (fun x j=>valT (jS false).cells.toList j) 0 0 [jS true] i,[(0:Int)].length=1,∀ (i:Nat),i < [(0:Int)].length→i≠0→i64T ([(0:Int)].getD i 0)=fun x=>TC.any,i64T (0:Int) 0=TC.val (jg ja (0:Int))] W66 (vc:=(zaD g)) (hv:=W31)
 rintro ⟨ud,ui⟩ hJ1
 dsimp only [vU] at hJ1
 refine tz [6,5,4,2,1] ?_
 refine Q0 (decide ((0:Int)<(↑ui.length:Int))) (fun h2=>?_) (fun h2=>?_)
 ·refine tz [6,5,4,2,1] ?_
  refine Q0 (decide (ui.getD ((↑ui.length:Int)-(1:Int)).toNat (0:Int)=(-1:Int))) (fun h3=>?_) (fun h3=>?_) (vc:=[Fits ja ((↑ui.length:Int)-(1:Int)),(0:Int)≤(↑ui.length:Int)-(1:Int),(↑ui.length:Int)-(1:Int)<(↑ui.length:Int),((↑ui.length:Int)-(1:Int)).toNat<ui.length,Fits ja ((↑ui.length:Int)-(1:Int)),(0:Int)≤(0:Int),(0:Int)≤(↑ui.length:Int)-(1:Int),(↑ui.length:Int)-(1:Int)≤(↑ui.length:Int),(0:Int)<(↑ui.length:Int)]) (hv:=W31)
  ·exact (show False from by (have z:=(hJ1.1.popI W174).cur _ _ rfl;have q:=ub h3;omega)).elim
  ·refine RunF.trim 3 ((ui.length-1)) (ty:=3) (size:=1) (n:=ui.length) (f:=fun i=>i64T (ui.getD i 0)) (vc:=(zaP ui)) K K W174 K (by simp only [Conj]<;>(repeat' apply jl)<;>omega) ?_
   refine tz [6,7,5,4,2,1] ?_
   refine Q3 Ye (Zy (g.nodes.getD (ui.getD ((↑ui.length:Int)-(1:Int)).toNat (0:Int)).toNat ua)) [] ?_ (vc:=[(0:Int)≤ui.getD ((↑ui.length:Int)-(1:Int)).toNat (0:Int),ui.getD ((↑ui.length:Int)-(1:Int)).toNat (0:Int)<(↑g.nodes.length:Int),(ui.getD ((↑ui.length:Int)-(1:Int)).toNat (0:Int)).toNat<g.nodes.length]) (hv:=W31)
   refine tz [39,6,5,4,2,1] ?_
   refine Q6 (vh g ud ui) (((0:Int),ud,jR (ui.length-1) ui)) (⟨hJ1.1.popI W174,by show 2 * falses ud+(ui.take (ui.length-1)).length+1≤2 * falses ud+ui.length;rw [jQ];have q:=ub h2;omega,by have q:=ub h2;omega⟩) ?_ [] [7,8] (zaV ui) W66
   rintro ⟨ur,uv,uL⟩ hJ4
   dsimp only [vh] at hJ4
   refine tz [41,40,39,6,5,4,2,1] ?_
   refine Q0 (decide (ur<(↑(flwL (g.nodes.getD (ui.getD ((↑ui.length:Int)-(1:Int)).toNat (0:Int)).toNat ua)).length:Int))) (fun h5=>?_) (fun h5=>?_)
   ·refine tz [41,40,39,6,5,4,2,1] ?_
    refine Q0 (!(uv.getD ((flwL (g.nodes.getD (ui.getD ((↑ui.length:Int)-(1:Int)).toNat (0:Int)).toNat ua)).getD ur.toNat 0).toNat ua).b) (fun h6=>?_) (fun h6=>?_) (vc:=[(0:Int)≤ur,ur<(↑(flwL (g.nodes.getD (ui.getD ((↑ui.length:Int)-(1:Int)).toNat (0:Int)).toNat ua)).length:Int),ur.toNat<(flwL (g.nodes.getD (ui.getD ((↑ui.length:Int)-(1:Int)).toNat (0:Int)).toNat ua)).length,(0:Int)≤(flwL (g.nodes.getD (ui.getD ((↑ui.length:Int)-(1:Int)).toNat (0:Int)).toNat ua)).getD ur.toNat 0,(flwL (g.nodes.getD (ui.getD ((↑ui.length:Int)-(1:Int)).toNat (0:Int)).toNat ua)).getD ur.toNat 0<(↑uv.length:Int),((flwL (g.nodes.getD (ui.getD ((↑ui.length:Int)-(1:Int)).toNat (0:Int)).toNat ua)).getD ur.toNat 0).toNat<uv.length]) (hv:=W31)
    ·exact Q4 (vh g ud ui) (ur,uv,uL) ((ur+(1:Int),uv.set ((flwL (g.nodes.getD (ui.getD ((↑ui.length:Int)-(1:Int)).toNat (0:Int)).toNat ua)).getD ur.toNat 0).toNat (Bo.mk true),uL++[(flwL (g.nodes.getD (ui.getD ((↑ui.length:Int)-(1:Int)).toNat (0:Int)).toNat ua)).getD ur.toNat 0])) W195 W88 [0,1,2,3,7,5] [5,6,7,8,9] [(uv.set ((flwL (g.nodes.getD (ui.getD ((↑ui.length:Int)-(1:Int)).toNat (0:Int)).toNat ua)).getD ur.toNat 0).toNat (Bo.mk true)).length=uv.length,∀ (i:Nat),i<(uv.set ((flwL (g.nodes.getD (ui.getD ((↑ui.length:Int)-(1:Int)).toNat (0:Int)).toNat ua)).getD ur.toNat 0).toNat (Bo.mk true)).length→((uv.set ((flwL (g.nodes.getD (ui.getD ((↑ui.length:Int)-(1:Int)).toNat (0:Int)).toNat ua)).getD ur.toNat 0).toNat (Bo.mk true)).getD i ua).tc=updT (fun i=>(uv.getD i ua).tc) ((flwL (g.nodes.getD (ui.getD ((↑ui.length:Int)-(1:Int)).toNat (0:Int)).toNat ua)).getD ur.toNat 0).toNat 0 [jS true] i,(uL++[(flwL (g.nodes.getD (ui.getD ((↑ui.length:Int)-(1:Int)).toNat (0:Int)).toNat ua)).getD ur.toNat 0]).length=uL.length+1,∀ (i:Nat),i<(uL++[(flwL (g.nodes.getD (ui.getD ((↑ui.length:Int)-(1:Int)).toNat (0:Int)).toNat ua)).getD ur.toNat 0]).length→i≠uL.length→i64T ((uL++[(flwL (g.nodes.getD (ui.getD ((↑ui.length:Int)-(1:Int)).toNat (0:Int)).toNat ua)).getD ur.toNat 0]).getD i 0)=i64T (uL.getD i 0),i64T ((uL++[(flwL (g.nodes.getD (ui.getD ((↑ui.length:Int)-(1:Int)).toNat (0:Int)).toNat ua)).getD ur.toNat 0]).getD uL.length 0) 0=TC.val (jg ja ((flwL (g.nodes.getD (ui.getD ((↑ui.length:Int)-(1:Int)).toNat (0:Int)).toNat ua)).getD ur.toNat 0))] W66 (vc:=[(0:Int)≤(flwL (g.nodes.getD (ui.getD ((↑ui.length:Int)-(1:Int)).toNat (0:Int)).toNat ua)).getD ur.toNat 0,(flwL (g.nodes.getD (ui.getD ((↑ui.length:Int)-(1:Int)).toNat (0:Int)).toNat ua)).getD ur.toNat 0<(↑uv.length:Int),((flwL (g.nodes.getD (ui.getD ((↑ui.length:Int)-(1:Int)).toNat (0:Int)).toNat ua)).getD ur.toNat 0).toNat<uv.length,uL.length+1≤maxLen,(uL.length+1) * 8≤140737488355328,Fits ja (ur+(1:Int))]) (hv:=W31)
    ·exact Q4 (vh g ud ui) (ur,uv,uL) ((ur+(1:Int),uv,uL)) W195 W88 (vc:=(zF ur)) (hv:=W31)
   ·exact Q4 (vU g) (ud,ui) ((uv,uL)) (by dsimp only [vU];have z:=hJ4.2.1;omega) (⟨hJ4.1.close (by have q:=uc h5;omega),by show 2 * falses uv+uL.length≤2 * g.nodes.length+1;have z:=hJ4.2.1;have z2:=hJ1.2;(try dsimp only at z z2);omega⟩) [0,1,2,4]
 ·exact Q2 [0,2] [0,1] [(rchL g.nodes).length=ud.length,∀ (i:Nat),i<(rchL g.nodes).length→((rchL g.nodes).getD i ua).tc=(ud.getD i ua).tc] (by simp only [Conj];have q:=uc h2;have e:ui=[]:=kt (by omega);subst e;rw [hJ1.1.done hq];exact ⟨rfl,fun _ _=>rfl⟩)
theorem Y7 (g:Grf) (hq:zG g) (hN:1≤g.nodes.length∧g.nodes.length≤4096) (hk:zW g):Ctr jb 126 [zao g] [.agg (g.cs 0)]
 (Det (.c (.h 1)) [.dead,zbx g]):=by
 refine Ctr.intro [] Tryz.func126 K K ?_
 refine Q3 Gt (Q4b g W37 W37 W37) [] ?_
 refine tz [4,2,1] ?_
 refine Q0 (!true) (fun h1=>?_) (fun h1=>?_)
 ·exact absurd h1 W81
 ·refine tz [2,1] ?_
  refine Q3 Q3q (Qbl g W37 W37) [] ?_
  exact Q2 [0,2]
abbrev zbW (y0:Grf):En:=se 17 (C.i .i64 (↑y0.nodes.length:Int))
def vo (g:Grf):Lp (Int×List Iln):=⟨fun x=>{ N:=43,fr:=[se 18 (C.i .i64 x.1),zbW g,se 16 (C.h 0),se 3 (C.h 2),zL],rg:=[rowOf 13 (·.tc) g.nodes,ze g,Iln.ownR (x.2)],wr:=[] },fun x=>0≤x.1∧x.1≤(g.nodes.length:Int)∧x.2=ahdN g.nodes x.1.toNat,fun x=>((g.nodes.length:Int)-x.1).toNat⟩
def vp (g:Grf) (ue:Int) (un:List Iln):Lp (Int×List Iln):=⟨fun x=>{ N:=43,fr:=[se 26 (C.i .i64 x.1),{ slot:=25,g:=[],sv:=SV.c (C.i .i64 (↑(flwL (g.nodes.getD ue.toNat ua)).length:Int)) },se 24 (C.h 4),se 4 (C.i .i64 ue),se 18 (C.i .i64 ue),zbW g,se 16 (C.h 0),se 3 (C.h 2),zL],rg:=[rowOf 13 (·.tc) g.nodes,ze g,Iln.ownR (x.2),zd g ue,IntOwn (flwL (g.nodes.getD ue.toNat ua))],wr:=[] },fun x=>0≤x.1∧x.1≤((flwL (g.nodes.getD ue.toNat ua)).length:Int)∧x.2=ahdJ g.nodes ue.toNat x.1.toNat,fun x=>(((flwL (g.nodes.getD ue.toNat ua)).length:Int)-x.1).toNat⟩
theorem Qdm (g:Grf) (hq:zG g) (hN:1≤g.nodes.length∧g.nodes.length≤4096) (hk:zW g):Ctr jb 149 [zao g] [.agg (g.cs 0)]
 (Det (.c (.h 1)) [.dead,Iln.ownR (aheadL g.nodes)]):=by
 refine Ctr.intro [] Tryz.func149 K K ?_
 refine Q3 Gt (Q4b g W37 W37 W37) [] ?_
 refine tz [9,2,1] ?_
 refine Q0 (!true) (fun h1=>?_) (fun h1=>?_)
 ·exact absurd h1 W81
 ·refine tz [2,1] ?_
  refine RunF.hereL (vc:=[(0:Int)≤(↑g.nodes.length:Int),(↑g.nodes.length:Int)≤(↑g.nodes.length:Int),(↑g.nodes.length:Int) * (24:Int)≤(140737488355328:Int),(↑g.nodes.length:Int)≤(↑maxLen:Int)]) K W40 ?_
  refine Qkr 2 (fun _=>Iln.tc ⟨[]⟩) ?_ (vc:=[∀ (i j:Nat),i<g.nodes.length→j<1→(Iln.mk []).tc j=valT (je none 0 0).cells.toList j∨valT (je none 0 0).cells.toList j=TC.val (je none 0 0)∧∃ ty s g,(Iln.mk []).tc j=TC.sub ty s 0 g]) (hv:=(by simp only [Conj];intro i j hi hj;right;match j,hj with | 0,_=>exact ⟨rfl,_,_,_,rfl⟩))
  refine tz [18,17,16,3,2] ?_
  refine Q6 (vo g) (((0:Int),ahdN g.nodes 0)) (⟨jz _,by omega,rfl⟩) ?_ [] [5,6] [(ahdN g.nodes 0).length=g.nodes.length,∀ (i:Nat),i<(ahdN g.nodes 0).length→((ahdN g.nodes 0).getD i ua).tc=(Iln.mk []).tc] (by (try simp only [Conj])<;>(repeat' apply jl)<;>first | exact jI | (intro i q;unfold ahdN at q ⊢;rw [Qc (by simpa using q)];simp))
  rintro ⟨ue,un⟩ hJ2
  dsimp only [vo] at hJ2
  refine tz [18,17,16,3,2] ?_
  refine Q0 (decide (ue<(↑g.nodes.length:Int))) (fun h3=>?_) (fun h3=>?_)
  ·refine tz [18,17,16,3,2] ?_
   refine Q3 Ye (Zy (g.nodes.getD ue.toNat ua)) [] ?_ (vc:=(zat ue g)) (hv:=W40)
   refine tz [24,4,18,17,16,3,2] ?_
   refine Q6 (vp g ue un) (((0:Int),un)) (⟨jz _,by omega,by rw [hJ2.2.2];exact (Qg3 _ _).symm⟩) ?_
   rintro ⟨ur,uv⟩ hJ4
   dsimp only [vp] at hJ4
   refine tz [26,25,24,4,18,17,16,3,2] ?_
   refine Q0 (decide (ur<(↑(flwL (g.nodes.getD ue.toNat ua)).length:Int))) (fun h5=>?_) (fun h5=>?_)
   ·refine Qv 2 (((flwL (g.nodes.getD ue.toNat ua)).getD ur.toNat 0).toNat) ?_ (vc:=[((flwL (g.nodes.getD ue.toNat ua)).getD ur.toNat 0).toNat<uv.length]) (hv:=W40)
    exact Q1c (vp g ue un) (ur,uv) ((ur+(1:Int),ahd1 uv ue ((flwL (g.nodes.getD ue.toNat ua)).getD ur.toNat 0))) (by dsimp only [vp];have q:=ub h5;omega) (by dsimp only [vp];have q:=ub h5;refine ⟨by omega,by omega,?_⟩;rw [hJ4.2.2];exact Qg6 hJ2.1 hJ4.1 q) [(7,(i64T ue)),(2,(Iln.tc ⟨(uv.getD ((flwL (g.nodes.getD ue.toNat ua)).getD ur.toNat 0).toNat ua).l++[ue]⟩))] [] [5,6] [(ahd1 uv ue ((flwL (g.nodes.getD ue.toNat ua)).getD ur.toNat 0)).length=uv.length,∀ (i:Nat),i<(ahd1 uv ue ((flwL (g.nodes.getD ue.toNat ua)).getD ur.toNat 0)).length→((ahd1 uv ue ((flwL (g.nodes.getD ue.toNat ua)).getD ur.toNat 0)).getD i ua).tc=if i=((flwL (g.nodes.getD ue.toNat ua)).getD ur.toNat 0).toNat then (Iln.mk ((uv.getD ((flwL (g.nodes.getD ue.toNat ua)).getD ur.toNat 0).toNat ua).l++[ue])).tc else (uv.getD i ua).tc] (by simp only [Conj];(repeat' apply jl)<;>first | exact Q5j _ _ _ | (refine Qlq _ _ _ ?_;have z2:=hq _ W242 _ (Y3 (ub h5) hJ4.1);have z3:=congrArg kb hJ4.2.2;rw [Qay] at z3;omega)) (vc:=[(0:Int)≤ur,ur<(↑(flwL (g.nodes.getD ue.toNat ua)).length:Int),ur.toNat<(flwL (g.nodes.getD ue.toNat ua)).length,(0:Int)≤(flwL (g.nodes.getD ue.toNat ua)).getD ur.toNat 0,(flwL (g.nodes.getD ue.toNat ua)).getD ur.toNat 0<(↑uv.length:Int),((flwL (g.nodes.getD ue.toNat ua)).getD ur.toNat 0).toNat=((flwL (g.nodes.getD ue.toNat ua)).getD ur.toNat 0).toNat,(uv.getD ((flwL (g.nodes.getD ue.toNat ua)).getD ur.toNat 0).toNat ua).l.length+1≤maxLen,((uv.getD ((flwL (g.nodes.getD ue.toNat ua)).getD ur.toNat 0).toNat ua).l.length+1) * 8≤140737488355328,(0:Int)≤(flwL (g.nodes.getD ue.toNat ua)).getD ur.toNat 0,(flwL (g.nodes.getD ue.toNat ua)).getD ur.toNat 0<(↑uv.length:Int),((flwL (g.nodes.getD ue.toNat ua)).getD ur.toNat 0).toNat=((flwL (g.nodes.getD ue.toNat ua)).getD ur.toNat 0).toNat,Fits ja (ur+(1:Int))]) (hv:=W40) (vc2:=[ue=ue,((uv.getD ((flwL (g.nodes.getD ue.toNat ua)).getD ur.toNat 0).toNat ua).l++[ue]).length=(uv.getD ((flwL (g.nodes.getD ue.toNat ua)).getD ur.toNat 0).toNat ua).l.length+1,∀ (i:Nat),i<((uv.getD ((flwL (g.nodes.getD ue.toNat ua)).getD ur.toNat 0).toNat ua).l++[ue]).length→i64T (((uv.getD ((flwL (g.nodes.getD ue.toNat ua)).getD ur.toNat 0).toNat ua).l++[ue]).getD i 0)=if i=(uv.getD ((flwL (g.nodes.getD ue.toNat ua)).getD ur.toNat 0).toNat ua).l.length then i64T ue else i64T ((uv.getD ((flwL (g.nodes.getD ue.toNat ua)).getD ur.toNat 0).toNat ua).l.getD i 0)]) (hv2:=(by simp only [Conj];(repeat' apply jl)<;>first | trivial | exact Y6 _ _ | exact Q27 _ _ _ _))
   ·exact Q4 (vo g) (ue,un) ((ue+(1:Int),uv)) (by dsimp only [vo];exact W242) (by dsimp only [vo];have q:=ub h3;have q5:=uc h5;refine ⟨by omega,by omega,?_⟩;rw [hJ4.2.2,Qg5 (by omega),show (ue+1).toNat=ue.toNat+1 by omega]) (vc:=(zF ue)) (hv:=W40)
  ·exact Q2 [0,2] [0,1] [(aheadL g.nodes).length=un.length,∀ (i:Nat),i<(aheadL g.nodes).length→((aheadL g.nodes).getD i ua).tc=(un.getD i ua).tc] (by simp only [Conj];have q:=uc h3;have e:ue.toNat=g.nodes.length:=(by omega);rw [hJ2.2.2,e];exact ⟨rfl,fun _ _=>rfl⟩)
theorem Qf3 (n:Nod):Ctr jb 127 [] [.agg n.cs]
 (Det (.c (.h 0)) [IntOwn (flrL n)]):=by
 refine Ctr.intro [] Tryz.func127 K K ?_
 refine Q0 (decide (n.kind=(9:Int))) (fun h1=>?_) (fun h1=>?_)
 ·rw [Qcy h1]
  exact Q2 [1000000] [0] [(0:Nat)=0] W47
 ·refine tz [4,2,1] ?_
  refine Q0 (decide (n.kind=(8:Int))) (fun h2=>?_) (fun h2=>?_)
  ·rw [Qcz h1 h2]
   exact Q2 [1] [0,1] (zai n) W47
  ·rw [Qd0 h1 h2]
   exact Q2 [1] [0,1,2] (zak n) W47
theorem Q4c (l:List Int) (v:Vl) (hl:l.length≤2):Ctr jb 147 [zbY,IntOwn l] [.agg v.cs,.c (.p 0 0)]
 (Det (.tup []) [Reg.box 49 [.h 2],.dead,IntOwn (l++vlL v)]):=by
 refine Ctr.intro [] Tryz.func147 K K ?_
 refine Q0 (v.slotted) (fun h1=>?_) (fun h1=>?_)
 ·rw [Qoe h1]
  exact Ya [0,1,4] [0,1,2] [(l++[v.slot]).length=l.length+1,∀ (i:Nat),i<(l++[v.slot]).length→i≠l.length→i64T ((l++[v.slot]).getD i 0)=i64T (l.getD i 0),i64T ((l++[v.slot]).getD l.length 0) 0=TC.val (jg ja v.slot)] (by simp only [Conj]<;>(repeat' apply jl)<;>first | exact Y6 _ _ | (intro i h1 h2;rw [Yb h1 h2]) | (rw [Qw];rfl)) (vc:=(zbI l)) (hv:=W28)
 ·rw [Qqf l h1]
  exact Ya [0,1,1]
abbrev zaX:Reg:=Reg.box 49 [C.h 2]
def C131 (n:Nod):St:=St.mk 31 [se 7 (C.i jx n.kind),se 4 (C.fn 147 false [1]),se 3 (C.p 1 0),se 1 (C.p 0 0)] [Reg.box 101 n.cs,zaX,IntOwn []] []
theorem Q82 (n:Nod) (hk:1≤n.kind∧n.kind≤9):Ctr jb 131 [] [.agg n.cs]
 (Det (.c (.h 0)) [IntOwn (useL n)]):=by
 refine Ctr.intro [] Tryz.func131 K K ?_
 refine RunF.cutn 4 (fun _:Unit=>C131 n) (fun _=>True) ?_ ?_
 ·exact tTo (fun xUnit=>C131 n) (fun xUnit=>True) () trivial [0,1,1000002] [13] [(0:Nat)=0] W20
 ·rintro ⟨⟩ hCC131
  rcases (show n.kind=(1:Int)∨n.kind=(2:Int)∨n.kind=(3:Int)∨n.kind=(4:Int)∨n.kind=(5:Int)∨n.kind=(6:Int)∨n.kind=(7:Int)∨n.kind=(8:Int)∨n.kind=(9:Int) from W30) with hs1 | hs1 | hs1 | hs1 | hs1 | hs1 | hs1 | hs1 | hs1
  ·refine tWk (St.mk 31 [se 7 (C.i .u8 1),se 4 (C.fn 147 false [1]),se 3 (C.p 1 0),se 1 (C.p 0 0)] [Reg.box 101 [C.i .u8 1,C.i .u8 n.op,C.i .i64 n.slot,C.i .i64 n.thing,C.b n.a.slotted,C.i .i64 n.a.slot,C.i .i64 n.a.word,C.b n.b.slotted,C.i .i64 n.b.slot,C.i .i64 n.b.word,C.i .i64 n.next,C.i .i64 n.els,C.i .i64 n.origin],Reg.box 49 [C.h 2],Reg.own 3 1 0 (fun i=>i64T ([].getD i 0)) none] []) ?_ [] [0,15] [(1:Int)=n.kind,(1:Int)=n.kind] W48
   refine tz [7,4,3,1] ?_
   refine Q0 (decide ((1:Int)=(1:Int))) (fun h2=>?_) (fun h2=>?_)
   ·refine tz [4,3,1] ?_
    refine Q3 Yf (Q4c [] n.a W165) [1,2] ?_ [0] [(0:Nat)=0] W20
    refine tz [4,3,1] ?_
    refine Q3 Qy (G9 n.op) [] ?_
    refine tz [16,4,3,1] ?_
    refine Q0 (twoB n.op) (fun h3=>?_) (fun h3=>?_)
    ·refine tz [4,3,1] ?_
     refine Q3 Yf (Q4c ([]++vlL n.a) n.b W165) [1,3] ?_
     exact Q2 [4] [0,1] [(useL n).length=([]++vlL n.a++vlL n.b).length,∀ (i:Nat),i<(useL n).length→i64T ((useL n).getD i 0)=i64T (([]++vlL n.a++vlL n.b).getD i 0)] W53
    ·exact Q2 [3] [0,1] [(useL n).length=([]++vlL n.a).length,∀ (i:Nat),i<(useL n).length→i64T ((useL n).getD i 0)=i64T (([]++vlL n.a).getD i 0)] W53
   ·exact absurd h2 W81
  ·refine tWk (St.mk 31 [se 7 (C.i .u8 2),se 4 (C.fn 147 false [1]),se 3 (C.p 1 0),se 1 (C.p 0 0)] [Reg.box 101 [C.i .u8 2,C.i .u8 n.op,C.i .i64 n.slot,C.i .i64 n.thing,C.b n.a.slotted,C.i .i64 n.a.slot,C.i .i64 n.a.word,C.b n.b.slotted,C.i .i64 n.b.slot,C.i .i64 n.b.word,C.i .i64 n.next,C.i .i64 n.els,C.i .i64 n.origin],Reg.box 49 [C.h 2],Reg.own 3 1 0 (fun i=>i64T ([].getD i 0)) none] []) ?_ [] [0,15] [(2:Int)=n.kind,(2:Int)=n.kind] W48
   refine tz [7,4,3,1] ?_
   refine Q0 (decide ((2:Int)=(1:Int))) (fun h2=>?_) (fun h2=>?_)
   ·exact absurd h2 W81
   ·refine tz [7,4,3,1] ?_
    refine Q0 (decide ((2:Int)=(3:Int))) (fun h3=>?_) (fun h3=>?_)
    ·exact absurd h3 W81
    ·refine tz [21,7,4,3,1] ?_
     refine Q0 (decide ((2:Int)=(4:Int))) (fun h4=>?_) (fun h4=>?_)
     ·exact absurd h4 W81
     ·refine tz [21,7,4,3,1] ?_
      refine Q0 (decide ((2:Int)=(7:Int))) (fun h5=>?_) (fun h5=>?_)
      ·exact absurd h5 W81
      ·refine tz [21,7,4,3,1] ?_
       refine Q0 (decide ((2:Int)=(8:Int))) (fun h6=>?_) (fun h6=>?_)
       ·exact absurd h6 W81
       ·exact Q2 [2] [0,1] [(useL n).length=0,∀ (i:Nat),i<(useL n).length→i64T ((useL n).getD i 0)=i64T ([].getD i 0)] W53
  ·refine tWk (St.mk 31 [se 7 (C.i .u8 3),se 4 (C.fn 147 false [1]),se 3 (C.p 1 0),se 1 (C.p 0 0)] [Reg.box 101 [C.i .u8 3,C.i .u8 n.op,C.i .i64 n.slot,C.i .i64 n.thing,C.b n.a.slotted,C.i .i64 n.a.slot,C.i .i64 n.a.word,C.b n.b.slotted,C.i .i64 n.b.slot,C.i .i64 n.b.word,C.i .i64 n.next,C.i .i64 n.els,C.i .i64 n.origin],Reg.box 49 [C.h 2],Reg.own 3 1 0 (fun i=>i64T ([].getD i 0)) none] []) ?_ [] [0,15] [(3:Int)=n.kind,(3:Int)=n.kind] W48
   refine tz [7,4,3,1] ?_
   refine Q0 (decide ((3:Int)=(1:Int))) (fun h2=>?_) (fun h2=>?_)
   ·exact absurd h2 W81
   ·refine tz [7,4,3,1] ?_
    refine Q0 (decide ((3:Int)=(3:Int))) (fun h3=>?_) (fun h3=>?_)
    ·refine tz [21,4,3,1] ?_
     refine Q3 Yf (Q4c [] n.a W165) [1,2] ?_ [0] [(0:Nat)=0] W20
     exact Q2 [3] [0,1] [(useL n).length=([]++vlL n.a).length,∀ (i:Nat),i<(useL n).length→i64T ((useL n).getD i 0)=i64T (([]++vlL n.a).getD i 0)] W53
    ·exact absurd h3 W81
  ·refine tWk (St.mk 31 [se 7 (C.i .u8 4),se 4 (C.fn 147 false [1]),se 3 (C.p 1 0),se 1 (C.p 0 0)] [Reg.box 101 [C.i .u8 4,C.i .u8 n.op,C.i .i64 n.slot,C.i .i64 n.thing,C.b n.a.slotted,C.i .i64 n.a.slot,C.i .i64 n.a.word,C.b n.b.slotted,C.i .i64 n.b.slot,C.i .i64 n.b.word,C.i .i64 n.next,C.i .i64 n.els,C.i .i64 n.origin],Reg.box 49 [C.h 2],Reg.own 3 1 0 (fun i=>i64T ([].getD i 0)) none] []) ?_ [] [0,15] [(4:Int)=n.kind,(4:Int)=n.kind] W48
   refine tz [7,4,3,1] ?_
   refine Q0 (decide ((4:Int)=(1:Int))) (fun h2=>?_) (fun h2=>?_)
   ·exact absurd h2 W81
   ·refine tz [7,4,3,1] ?_
    refine Q0 (decide ((4:Int)=(3:Int))) (fun h3=>?_) (fun h3=>?_)
    ·exact absurd h3 W81
    ·refine tz [21,7,4,3,1] ?_
     refine Q0 (decide ((4:Int)=(4:Int))) (fun h4=>?_) (fun h4=>?_)
     ·refine tz [21,4,3,1] ?_
      refine Q3 Yf (Q4c [] n.a W165) [1,2] ?_ [0] [(0:Nat)=0] W20
      exact Q2 [3] [0,1] [(useL n).length=([]++vlL n.a).length,∀ (i:Nat),i<(useL n).length→i64T ((useL n).getD i 0)=i64T (([]++vlL n.a).getD i 0)] W53
     ·exact absurd h4 W81
  ·refine tWk (St.mk 31 [se 7 (C.i .u8 5),se 4 (C.fn 147 false [1]),se 3 (C.p 1 0),se 1 (C.p 0 0)] [Reg.box 101 [C.i .u8 5,C.i .u8 n.op,C.i .i64 n.slot,C.i .i64 n.thing,C.b n.a.slotted,C.i .i64 n.a.slot,C.i .i64 n.a.word,C.b n.b.slotted,C.i .i64 n.b.slot,C.i .i64 n.b.word,C.i .i64 n.next,C.i .i64 n.els,C.i .i64 n.origin],Reg.box 49 [C.h 2],Reg.own 3 1 0 (fun i=>i64T ([].getD i 0)) none] []) ?_ [] [0,15] [(5:Int)=n.kind,(5:Int)=n.kind] W48
   refine tz [7,4,3,1] ?_
   refine Q0 (decide ((5:Int)=(1:Int))) (fun h2=>?_) (fun h2=>?_)
   ·exact absurd h2 W81
   ·refine tz [7,4,3,1] ?_
    refine Q0 (decide ((5:Int)=(3:Int))) (fun h3=>?_) (fun h3=>?_)
    ·exact absurd h3 W81
    ·refine tz [21,7,4,3,1] ?_
     refine Q0 (decide ((5:Int)=(4:Int))) (fun h4=>?_) (fun h4=>?_)
     ·exact absurd h4 W81
     ·refine tz [21,7,4,3,1] ?_
      refine Q0 (decide ((5:Int)=(7:Int))) (fun h5=>?_) (fun h5=>?_)
      ·exact absurd h5 W81
      ·refine tz [21,7,4,3,1] ?_
       refine Q0 (decide ((5:Int)=(8:Int))) (fun h6=>?_) (fun h6=>?_)
       ·exact absurd h6 W81
       ·exact Q2 [2] [0,1] [(useL n).length=0,∀ (i:Nat),i<(useL n).length→i64T ((useL n).getD i 0)=i64T ([].getD i 0)] W53
  ·refine tWk (St.mk 31 [se 7 (C.i .u8 6),se 4 (C.fn 147 false [1]),se 3 (C.p 1 0),se 1 (C.p 0 0)] [Reg.box 101 [C.i .u8 6,C.i .u8 n.op,C.i .i64 n.slot,C.i .i64 n.thing,C.b n.a.slotted,C.i .i64 n.a.slot,C.i .i64 n.a.word,C.b n.b.slotted,C.i .i64 n.b.slot,C.i .i64 n.b.word,C.i .i64 n.next,C.i .i64 n.els,C.i .i64 n.origin],Reg.box 49 [C.h 2],Reg.own 3 1 0 (fun i=>i64T ([].getD i 0)) none] []) ?_ [] [0,15] [(6:Int)=n.kind,(6:Int)=n.kind] W48
   refine tz [7,4,3,1] ?_
   refine Q0 (decide ((6:Int)=(1:Int))) (fun h2=>?_) (fun h2=>?_)
   ·exact absurd h2 W81
   ·refine tz [7,4,3,1] ?_
    refine Q0 (decide ((6:Int)=(3:Int))) (fun h3=>?_) (fun h3=>?_)
    ·exact absurd h3 W81
    ·refine tz [21,7,4,3,1] ?_
     refine Q0 (decide ((6:Int)=(4:Int))) (fun h4=>?_) (fun h4=>?_)
     ·exact absurd h4 W81
     ·refine tz [21,7,4,3,1] ?_
      refine Q0 (decide ((6:Int)=(7:Int))) (fun h5=>?_) (fun h5=>?_)
      ·exact absurd h5 W81
      ·refine tz [21,7,4,3,1] ?_
       refine Q0 (decide ((6:Int)=(8:Int))) (fun h6=>?_) (fun h6=>?_)
       ·exact absurd h6 W81
       ·exact Q2 [2] [0,1] [(useL n).length=0,∀ (i:Nat),i<(useL n).length→i64T ((useL n).getD i 0)=i64T ([].getD i 0)] W53
  ·refine tWk (St.mk 31 [se 7 (C.i .u8 7),se 4 (C.fn 147 false [1]),se 3 (C.p 1 0),se 1 (C.p 0 0)] [Reg.box 101 [C.i .u8 7,C.i .u8 n.op,C.i .i64 n.slot,C.i .i64 n.thing,C.b n.a.slotted,C.i .i64 n.a.slot,C.i .i64 n.a.word,C.b n.b.slotted,C.i .i64 n.b.slot,C.i .i64 n.b.word,C.i .i64 n.next,C.i .i64 n.els,C.i .i64 n.origin],Reg.box 49 [C.h 2],Reg.own 3 1 0 (fun i=>i64T ([].getD i 0)) none] []) ?_ [] [0,15] [(7:Int)=n.kind,(7:Int)=n.kind] W48
   refine tz [7,4,3,1] ?_
   refine Q0 (decide ((7:Int)=(1:Int))) (fun h2=>?_) (fun h2=>?_)
   ·exact absurd h2 W81
   ·refine tz [7,4,3,1] ?_
    refine Q0 (decide ((7:Int)=(3:Int))) (fun h3=>?_) (fun h3=>?_)
    ·exact absurd h3 W81
    ·refine tz [21,7,4,3,1] ?_
     refine Q0 (decide ((7:Int)=(4:Int))) (fun h4=>?_) (fun h4=>?_)
     ·exact absurd h4 W81
     ·refine tz [21,7,4,3,1] ?_
      refine Q0 (decide ((7:Int)=(7:Int))) (fun h5=>?_) (fun h5=>?_)
      ·refine tz [21,4,3,1] ?_
       refine Q3 Yf (Q4c [] n.a W165) [1,2] ?_ [0] [(0:Nat)=0] W20
       exact Q2 [3] [0,1] [(useL n).length=([]++vlL n.a).length,∀ (i:Nat),i<(useL n).length→i64T ((useL n).getD i 0)=i64T (([]++vlL n.a).getD i 0)] W53
      ·exact absurd h5 W81
  ·refine tWk (St.mk 31 [se 7 (C.i .u8 8),se 4 (C.fn 147 false [1]),se 3 (C.p 1 0),se 1 (C.p 0 0)] [Reg.box 101 [C.i .u8 8,C.i .u8 n.op,C.i .i64 n.slot,C.i .i64 n.thing,C.b n.a.slotted,C.i .i64 n.a.slot,C.i .i64 n.a.word,C.b n.b.slotted,C.i .i64 n.b.slot,C.i .i64 n.b.word,C.i .i64 n.next,C.i .i64 n.els,C.i .i64 n.origin],Reg.box 49 [C.h 2],Reg.own 3 1 0 (fun i=>i64T ([].getD i 0)) none] []) ?_ [] [0,15] [(8:Int)=n.kind,(8:Int)=n.kind] W48
   refine tz [7,4,3,1] ?_
   refine Q0 (decide ((8:Int)=(1:Int))) (fun h2=>?_) (fun h2=>?_)
   ·exact absurd h2 W81
   ·refine tz [7,4,3,1] ?_
    refine Q0 (decide ((8:Int)=(3:Int))) (fun h3=>?_) (fun h3=>?_)
    ·exact absurd h3 W81
    ·refine tz [21,7,4,3,1] ?_
     refine Q0 (decide ((8:Int)=(4:Int))) (fun h4=>?_) (fun h4=>?_)
     ·exact absurd h4 W81
     ·refine tz [21,7,4,3,1] ?_
      refine Q0 (decide ((8:Int)=(7:Int))) (fun h5=>?_) (fun h5=>?_)
      ·exact absurd h5 W81
      ·refine tz [21,7,4,3,1] ?_
       refine Q0 (decide ((8:Int)=(8:Int))) (fun h6=>?_) (fun h6=>?_)
       ·refine tz [4,3,1] ?_
        refine Q3 Yf (Q4c [] n.a W165) [1,2] ?_ [0] [(0:Nat)=0] W20
        exact Q2 [3] [0,1] [(useL n).length=([]++vlL n.a).length,∀ (i:Nat),i<(useL n).length→i64T ((useL n).getD i 0)=i64T (([]++vlL n.a).getD i 0)] W53
       ·exact absurd h6 W81
  ·refine tWk (St.mk 31 [se 7 (C.i .u8 9),se 4 (C.fn 147 false [1]),se 3 (C.p 1 0),se 1 (C.p 0 0)] [Reg.box 101 [C.i .u8 9,C.i .u8 n.op,C.i .i64 n.slot,C.i .i64 n.thing,C.b n.a.slotted,C.i .i64 n.a.slot,C.i .i64 n.a.word,C.b n.b.slotted,C.i .i64 n.b.slot,C.i .i64 n.b.word,C.i .i64 n.next,C.i .i64 n.els,C.i .i64 n.origin],Reg.box 49 [C.h 2],Reg.own 3 1 0 (fun i=>i64T ([].getD i 0)) none] []) ?_ [] [0,15] [(9:Int)=n.kind,(9:Int)=n.kind] W48
   refine tz [7,4,3,1] ?_
   refine Q0 (decide ((9:Int)=(1:Int))) (fun h2=>?_) (fun h2=>?_)
   ·exact absurd h2 W81
   ·refine tz [7,4,3,1] ?_
    refine Q0 (decide ((9:Int)=(3:Int))) (fun h3=>?_) (fun h3=>?_)
    ·exact absurd h3 W81
    ·refine tz [21,7,4,3,1] ?_
     refine Q0 (decide ((9:Int)=(4:Int))) (fun h4=>?_) (fun h4=>?_)
     ·exact absurd h4 W81
     ·refine tz [21,7,4,3,1] ?_
      refine Q0 (decide ((9:Int)=(7:Int))) (fun h5=>?_) (fun h5=>?_)
      ·exact absurd h5 W81
      ·refine tz [21,7,4,3,1] ?_
       refine Q0 (decide ((9:Int)=(8:Int))) (fun h6=>?_) (fun h6=>?_)
       ·exact absurd h6 W81
       ·exact Q2 [2] [0,1] [(useL n).length=0,∀ (i:Nat),i<(useL n).length→i64T ((useL n).getD i 0)=i64T ([].getD i 0)] W53
abbrev zaC (y0:Int):List Prop:=[(64:Int)≠(0:Int),Fits ja (y0.tdiv (64:Int)),(0:Int)≤y0.tdiv (64:Int),y0.tdiv (64:Int)<(65:Int),(y0.tdiv (64:Int)).toNat<65,(64:Int)≠(0:Int),(0:Int)≤y0.tmod (64:Int),(0:Int)≤y0.tdiv (64:Int),y0.tdiv (64:Int)<(65:Int),(y0.tdiv (64:Int)).toNat<65]
abbrev zbG (y0:Nat → Int):Reg:=Reg.box 192 ((jB 65).map fun j=>C.i .u64 (y0 j))
abbrev zcA:List Nat:=(jB 65)
abbrev zcY:List Nat:=(zcA.map fun j65:Nat=>j65)
theorem Qh7 (w:Nat→Int) (k:Int) (hk:0≤k∧k<4160):Ctr jb 132 [zbG w] [.c (.p 0 0),zc8 k]
 (Det (.tup []) [Reg.box 192 (zcA.map fun j=>C.i .u64 (addW w k j))]):=by
 refine Ctr.intro [] Tryz.func132 K K ?_
 exact Ya [] zcY (zcA.map fun j65:Nat=>addW w k j65=if (k.tdiv (64:Int)).toNat=j65 then bits kK kd ((zcA.map fun j65:Nat=>w j65).getD (k.tdiv (64:Int)).toNat (0:Int)) (shlI kd (1:Int) (k.tmod (64:Int))) else w j65) (Q2d fun j hj=>by unfold addW;rw [Qb2 w (show (k.tdiv 64).toNat<65 by have z:=kR (b:=64) hk.1;omega)]) (vc:=(zaC k)) (hv:=W86)
theorem Qpc (w:Nat→Int) (k:Int) (hk:0≤k∧k<4160):Ctr jb 130 [zbG w] [.c (.p 0 0),zc8 k]
 (Det (.tup []) [Reg.box 192 (zcA.map fun j=>C.i .u64 (takeW w k j))]):=by
 refine Ctr.intro [] Tryz.func130 K K ?_
 exact Ya [] zcY (zcA.map fun j65:Nat=>takeW w k j65=if (k.tdiv (64:Int)).toNat=j65 then bits BinOp.andNot kd ((zcA.map fun j65:Nat=>w j65).getD (k.tdiv (64:Int)).toNat (0:Int)) (shlI kd (1:Int) (k.tmod (64:Int))) else w j65) (Q2d fun j hj=>by unfold takeW;rw [Qb2 w (show (k.tdiv 64).toNat<65 by have z:=kR (b:=64) hk.1;omega)]) (vc:=(zaC k)) (hv:=W86)
theorem Qbm (W:Nat→Nat→Int) (n ix:Nat) (k:Int) (hk:0≤k∧k<4160) (hi:ix<n):Ctr jb 151 [Reg.row 65 n (fun i=>wsT (W i)) none] [.c (.e 0 65 ix 0),zc8 k]
 (Det (.c (.b (hasW (W ix) k))) [.dead]):=by
 refine Ctr.intro [] Tryz.func151 K K ?_
 refine Qv 0 (ix) ?_ (vc:=[ix<n]) (hv:=W86)
 exact Q2 [] [0] [hasW (W ix) k=decide (bits km kd (shrI kd ((zcA.map fun j65:Nat=>W ix j65).getD (k.tdiv (64:Int)).toNat (0:Int)) (k.tmod (64:Int))) (1:Int)=(1:Int))] (by simp only [Conj];(rw [Qb2 (W ix) (show (k.tdiv 64).toNat<65 by have z:=kR (b:=64) hk.1;omega)];rfl)) (vc:=[(64:Int)≠(0:Int),Fits ja (k.tdiv (64:Int)),(0:Int)≤k.tdiv (64:Int),k.tdiv (64:Int)<(65:Int),(k.tdiv (64:Int)).toNat<65,ix=ix,(64:Int)≠(0:Int),(0:Int)≤k.tmod (64:Int)]) (hv:=W86)
abbrev zb9:En:=se 0 (C.p 0 0)
def vq (w:Nat→Int) (W:Nat→Nat→Int) (n:Nat) (ix:Nat):Lp (Int):=⟨fun x=>St.mk 23 [zbA x,se 6 (C.e 1 65 ix 0),zb9] [Reg.box 192 (zcA.map fun j=>C.i .u64 (joinW w (W ix) x.toNat j)),Reg.row 65 n (fun i=>wsT (W i)) (some (ix,(zcA.map fun j=>C.i .u64 (W ix j))))] [],fun x=>0≤x∧x≤65,fun x=>(65-x).toNat⟩
theorem Qpd (w:Nat→Int) (W:Nat→Nat→Int) (n ix:Nat) (hi:ix<n):Ctr jb 128 [zbG w,Reg.row 65 n (fun i=>wsT (W i)) none] [.c (.p 0 0),.c (.e 1 65 ix 0)]
 (Det (.tup []) [Reg.box 192 (zcA.map fun j=>C.i .u64 (joinW w (W ix) 65 j)),.dead]):=by
 refine Ctr.intro [] Tryz.func128 K K ?_
 refine Qv 1 (ix) ?_ (vc:=[ix<n]) (hv:=W161)
 refine Q6 (vq w W n ix) ((0:Int)) (⟨jz _,by decide⟩) ?_ [] zcY (zcA.map fun j65:Nat=>joinW w (W ix) 0 j65=w j65) W72
 rintro ud hJ1
 dsimp only [vq] at hJ1
 refine tz [7,6,0] ?_
 refine Q0 (decide (ud<(65:Int))) (fun h2=>?_) (fun h2=>?_)
 ·exact Q4 (vq w W n ix) ud (ud+(1:Int)) (by dsimp only [vq];exact W235) (by dsimp only [vq];exact W228) [] zcY (zcA.map fun j65:Nat=>joinW w (W ix) (ud+(1:Int)).toNat j65=if ud.toNat=j65 then bits kK kd ((zcA.map fun j65:Nat=>joinW w (W ix) ud.toNat j65).getD ud.toNat 0) ((zcA.map fun j65:Nat=>W ix j65).getD ud.toNat 0) else joinW w (W ix) ud.toNat j65) W72 (vc:=[(0:Int)≤ud,ud<(65:Int),ud.toNat<65,ix=ix,(0:Int)≤ud,ud<(65:Int),ud.toNat<65,(0:Int)≤ud,ud<(65:Int),ud.toNat<65,Fits ja (ud+(1:Int))]) (hv:=W161)
 ·exact Ya [] zcY (zcA.map fun j65:Nat=>joinW w (W ix) 65 j65=joinW w (W ix) ud.toNat j65) W72
abbrev zad (y0:Grf):Reg:=Reg.box 189 [C.v (jC y0.name),C.i .i64 y0.locals,C.i .i64 y0.slots,C.h 0,C.h 3,C.h 4,C.h 5]
abbrev zaB:En:=se 2 (C.v (Value.pointer none))
abbrev zbE (y0:Grf):En:=se 3 (C.i .i64 (y0.nodes.length:Int))
abbrev zbH:En:=se 4 (C.p 2 0)
def vV (g:Grf):Lp (Bool×WW×WW):=⟨fun x=>St.mk 109 [se 5 (C.b x.1),za3,zaB,zbE g,zbH] [zao g,ze g,zad g,zbx g,(SETS 192 g.nodes.length x.2.1),(SETS 192 g.nodes.length x.2.2)] [],fun x=>LvW g.nodes x.2.1∧(x.1=false→LvFix g.nodes x.2.1 x.2.2 0),fun x=>if x.1=true then 1+lvM g.nodes x.2.1 else 0⟩
def uY (g:Grf) (ui:WW):Lp (Int×Bool×WW×WW):=⟨fun x=>St.mk 109 [se 6 (C.i .i64 x.1),se 5 (C.b x.2.1),za3,zaB,zbE g,zbH] [zao g,ze g,zad g,zbx g,(SETS 192 g.nodes.length x.2.2.1),(SETS 192 g.nodes.length x.2.2.2)] [],fun x=>LvS g.nodes ui x.1 x.2.1 x.2.2.1 x.2.2.2,fun x=>(x.1+1).toNat⟩
def vW (g:Grf) (ug:Int) (um:Bool) (uq:WW) (ux:WW):Lp (Int):=⟨fun x=>St.mk 109 [se 46 (C.i .i64 x),En.mk 45 [] (SV.c (C.i .i64 ((flrL (g.nodes.getD ug.toNat ua)).length:Int))),se 44 (C.h 7),se 7 (C.p 6 0),se 6 (C.i .i64 ug),se 5 (C.b um),za3,zaB,zbE g,zbH] [zao g,ze g,zad g,zbx g,(SETS 192 g.nodes.length uq),(SETS 192 g.nodes.length ux),Reg.box 192 ((jB 65).map fun j=>C.i .u64 (joF uq (flrL (g.nodes.getD ug.toNat ua)) x.toNat j)),IntOwn (flrL (g.nodes.getD ug.toNat ua))] [],fun x=>0≤x∧x≤((flrL (g.nodes.getD ug.toNat ua)).length:Int),fun x=>(((flrL (g.nodes.getD ug.toNat ua)).length:Int)-x).toNat⟩
def uZ (g:Grf) (ug:Int) (um:Bool) (uq:WW) (ux:WW):Lp (Int):=⟨fun x=>St.mk 109 [se 85 (C.i .i64 x),En.mk 84 [] (SV.c (C.i .i64 ((useL (g.nodes.getD ug.toNat ua)).length:Int))),se 83 (C.h 8),se 7 (C.p 6 0),se 6 (C.i .i64 ug),se 5 (C.b um),za3,zaB,zbE g,zbH] [zao g,ze g,zad g,zbx g,(SETS 192 g.nodes.length uq),(SETS 192 g.nodes.length (putW ux ug.toNat (beF g.nodes uq ug.toNat))),Reg.box 192 ((jB 65).map fun j=>C.i .u64 (adF (useL (g.nodes.getD ug.toNat ua)) (dfF (g.nodes.getD ug.toNat ua) (beF g.nodes uq ug.toNat)) x.toNat j)),IntOwn (flrL (g.nodes.getD ug.toNat ua)),IntOwn (useL (g.nodes.getD ug.toNat ua))] [],fun x=>0≤x∧x≤((useL (g.nodes.getD ug.toNat ua)).length:Int),fun x=>(((useL (g.nodes.getD ug.toNat ua)).length:Int)-x).toNat⟩
abbrev zo (y0:Grf):List Prop:=[(0:Int)≤(↑y0.nodes.length:Int),(↑y0.nodes.length:Int)≤(↑y0.nodes.length:Int),(↑y0.nodes.length:Int) * (520:Int)≤(140737488355328:Int),(↑y0.nodes.length:Int)≤(↑maxLen:Int),(0:Int)≤(↑y0.nodes.length:Int),(↑y0.nodes.length:Int)≤(↑y0.nodes.length:Int),(↑y0.nodes.length:Int) * (520:Int)≤(140737488355328:Int),(↑y0.nodes.length:Int)≤(↑maxLen:Int)]
abbrev zaY (y0:Grf):Prop:=∀ (i:Nat),i<y0.nodes.length→(fun j=>valT (jh 65 (jg kd (0:Int))) j)=fun j=>valT (jh 65 (jg kd (0:Int))) j
abbrev zx (y0:Grf):List Prop:=[zaY y0,zaY y0]
abbrev zA (y0:Grf):Reg:=Reg.own 192 65 y0.nodes.length (fun x j=>valT (jh 65 (jg kd (0:Int))) j) none
abbrev zbm (y0:Grf):En:=se 3 (C.i .i64 (↑y0.nodes.length:Int))
abbrev zag (y0:Grf):List En:=[se 4 (C.p 5 0),zbm y0,zaB,za3]
abbrev zar (y0:Grf) (y1:Int) (y2:WW) (y3:Int):List Prop:=(([∀ (i:Nat),i<y0.nodes.length→i≠y1.toNat→wsT (putW y2 y1.toNat (ahF y0.nodes y2 y1.toNat) i)=wsT (y2 i)])++((jB 65).map fun j65:Nat=>wsT (putW y2 y1.toNat (ahF y0.nodes y2 y1.toNat) y1.toNat) j65=TC.val (jg kd (adF (useL (y0.nodes.getD y1.toNat ua)) (dfF (y0.nodes.getD y1.toNat ua) (beF y0.nodes y2 y1.toNat)) y3.toNat j65))))
abbrev zaw (y0:Grf) (y1:Int) (y2:WW) (y3:Int):List Prop:=((jB 65).map fun j65:Nat=>adF (useL (y0.nodes.getD y1.toNat ua)) (dfF (y0.nodes.getD y1.toNat ua) (beF y0.nodes y2 y1.toNat)) (y3+(1:Int)).toNat j65=addW (adF (useL (y0.nodes.getD y1.toNat ua)) (dfF (y0.nodes.getD y1.toNat ua) (beF y0.nodes y2 y1.toNat)) y3.toNat) ((useL (y0.nodes.getD y1.toNat ua)).getD y3.toNat 0) j65)
abbrev zaQ (y0:Grf):Reg:=Reg.box 189 [C.v (jC y0.name),C.i .i64 y0.locals,C.i .i64 y0.slots,C.h 0,C.h 3,C.h 2,C.h 4]
abbrev zaR (y0:Grf):Reg:=Reg.box 189 [C.v (jC y0.name),C.i .i64 y0.locals,C.i .i64 y0.slots,C.h 0,C.h 3,C.h 4,C.h 2]
abbrev zaS (y0:Grf) (y1:WW) (y2:Int) (y3:WW) (y4:Int):List Prop:=[∀ (i:Nat),i<y0.nodes.length→wsT (putW y1 y2.toNat (beF y0.nodes y3 y2.toNat) i)=updT (fun i=>wsT (y1 i)) y2.toNat 0 ((jB 65).map fun j65:Nat=>jg kd (joF y3 (flrL (y0.nodes.getD y2.toNat ua)) y4.toNat j65)) i]
abbrev zbF (y0:Int) (y1:Grf) (y2:Int):List Prop:=[(0:Int)≤y0,y0<(↑(useL (y1.nodes.getD y2.toNat ua)).length:Int),y0.toNat<(useL (y1.nodes.getD y2.toNat ua)).length]
abbrev zbK (y0:WW) (y1:Int):List Prop:=((jB 65).map fun j65:Nat=>wsT (y0 y1.toNat) j65=TC.val (jg kd (y0 y1.toNat j65)))
abbrev zbV (y0:Int) (y1:Grf):List Prop:=[(0:Int)≤y0,y0<(↑y1.nodes.length:Int),y0.toNat=y0.toNat,Fits ja (y0-(1:Int))]
theorem Qn7 (g:Grf) (hq:zG g) (hN:1≤g.nodes.length∧g.nodes.length≤4096) (hk:zW g) (hS:SlH g.nodes):Ctr jb 97 [zao g] [.agg (g.cs 0)]
 (DetE (fun y:WW×WW=>LvQ g.nodes y.1 y.2) (fun _=>.c (.p 1 0)) (fun y=>[.dead,Reg.box 189 [C.v (jC g.name),C.i .i64 g.locals,C.i .i64 g.slots,C.h 0,C.h 2,C.h 3,C.h 4],zbx g,(SETS 192 g.nodes.length y.1),(SETS 192 g.nodes.length y.2)])):=by
 refine Ctr.intro [] Tryz.func97 K K ?_
 refine Jy 3 (fun _:Unit=>St.mk 109 [za3,zaB,zbm g,zbH] [rowOf 13 (·.tc) g.nodes,ze g,zad g,ownOf 4 1 (·.tc) (rchL g.nodes),zA g,zA g] []) (fun _=>True) ?_ ?_
 ·refine ⟨⟨⟨trivial,?_⟩,?_⟩,?_⟩
  ·refine Q3 Qs (Y7 g W12 W12 W12) [] ?_
   refine tz [17,20,18,16,15,3,2,1] ?_
   refine Qks 2 [[],(zo g)] [0,0,0,1,1,1,1] ?_ (by simp only [flatP,List.cons_append,List.nil_append,Conj,Fits,Q7,Q8,Q9,Qa,News.len,maxLen]<;>(repeat' apply jl)<;>(have z1:=Qo g.nodes;exact W226))
   exact tTo (fun x=>St.mk 109 [za3,zaB,zbm g,zbH] [rowOf 13 (·.tc) g.nodes,ze g,zad g,ownOf 4 1 (·.tc) (rchL g.nodes),zA g,zA g] []) (fun x=>True) () trivial [] [11,13] (zx g) ⟨fun _ _=>rfl,fun _ _=>rfl⟩
  ·refine Jy 2 (fun _:Unit=>St.mk 109 (zag g) [rowOf 13 (·.tc) g.nodes,ze g,zA g,ownOf 4 1 (·.tc) (rchL g.nodes),zA g,zaQ g] []) (fun _=>True) ?_ ?_ (vc:=(zo g)) (hv:=W4)
   ·refine ⟨⟨trivial,?_⟩,?_⟩
    ·refine Q3 Qs (Y7 g W12 W12 W12) [] ?_
     exact tTo (fun x=>St.mk 109 (zag g) [rowOf 13 (·.tc) g.nodes,ze g,zA g,ownOf 4 1 (·.tc) (rchL g.nodes),zA g,zaQ g] []) (fun x=>True) () trivial [] [6,10] (zx g) ⟨fun _ _=>rfl,fun _ _=>rfl⟩ (vc:=(zo g)) (hv:=W4)
    ·refine Q3 Qs (Y7 g W12 W12 W12) [] ?_ (vc:=(zo g)) (hv:=W4)
     exact tTo (fun x=>St.mk 109 (zag g) [rowOf 13 (·.tc) g.nodes,ze g,zA g,ownOf 4 1 (·.tc) (rchL g.nodes),zA g,zaQ g] []) (fun x=>True) () trivial [0,1,2,4,3,5] [6,10] (zx g) ⟨fun _ _=>rfl,fun _ _=>rfl⟩
   ·rintro ⟨⟩ _
    exact tTo (fun x=>St.mk 109 [za3,zaB,zbm g,zbH] [rowOf 13 (·.tc) g.nodes,ze g,zad g,ownOf 4 1 (·.tc) (rchL g.nodes),zA g,zA g] []) (fun x=>True) () trivial [0,1,5,3,2,4] [11,13] (zx g) ⟨fun _ _=>rfl,fun _ _=>rfl⟩
  ·refine Jy 2 (fun _:Unit=>St.mk 109 (zag g) [rowOf 13 (·.tc) g.nodes,ze g,zA g,ownOf 4 1 (·.tc) (rchL g.nodes),zA g,zaR g] []) (fun _=>True) ?_ ?_ (vc:=(zo g)) (hv:=W4)
   ·refine ⟨⟨trivial,?_⟩,?_⟩
    ·refine Q3 Qs (Y7 g W12 W12 W12) [] ?_
     exact tTo (fun x=>St.mk 109 (zag g) [rowOf 13 (·.tc) g.nodes,ze g,zA g,ownOf 4 1 (·.tc) (rchL g.nodes),zA g,zaR g] []) (fun x=>True) () trivial [] [6,10] (zx g) ⟨fun _ _=>rfl,fun _ _=>rfl⟩ (vc:=(zo g)) (hv:=W4)
    ·refine Q3 Qs (Y7 g W12 W12 W12) [] ?_ (vc:=(zo g)) (hv:=W4)
     exact tTo (fun x=>St.mk 109 (zag g) [rowOf 13 (·.tc) g.nodes,ze g,zA g,ownOf 4 1 (·.tc) (rchL g.nodes),zA g,zaR g] []) (fun x=>True) () trivial [0,1,2,4,3,5] [6,10] (zx g) ⟨fun _ _=>rfl,fun _ _=>rfl⟩
   ·rintro ⟨⟩ _
    exact tTo (fun x=>St.mk 109 [za3,zaB,zbm g,zbH] [rowOf 13 (·.tc) g.nodes,ze g,zad g,ownOf 4 1 (·.tc) (rchL g.nodes),zA g,zA g] []) (fun x=>True) () trivial [0,1,5,3,4,2] [11,13] (zx g) ⟨fun _ _=>rfl,fun _ _=>rfl⟩
 ·rintro ⟨⟩ _
  refine tz [1,2,3,4] ?_
  refine Q6 (vV g) ((true,fun x x_1=>(0:Int),fun x x_1=>(0:Int))) (⟨LvW.start _,fun h=>absurd h W162⟩) ?_ [] [11,13] [∀ (i:Nat),i<g.nodes.length→(wsT fun x=>(0:Int))=fun j=>valT (jh 65 (jg kd (0:Int))) j,∀ (i:Nat),i<g.nodes.length→(wsT fun x=>(0:Int))=fun j=>valT (jh 65 (jg kd (0:Int))) j] W22
  rintro ⟨ud,ui,uf⟩ hJ1
  dsimp only [vV] at hJ1
  refine tz [5,1,2,3,4] ?_
  refine Q0 (ud) (fun h2=>?_) (fun h2=>?_)
  ·refine tz [5,1,2,3,4] ?_
   refine Q6 (uY g ui) (((↑g.nodes.length:Int)-(1:Int),false,ui,uf)) (LvS.start hJ1.1 _) ?_ (vc:=[Fits ja ((↑g.nodes.length:Int)-(1:Int))]) (hv:=W4)
   rintro ⟨ug,um,uq,ux⟩ hJ3
   dsimp only [uY] at hJ3
   refine tz [6,5,1,2,3,4] ?_
   refine Q0 (decide ((0:Int)≤ug)) (fun h4=>?_) (fun h4=>?_)
   ·refine tz [6,5,1,2,3,4] ?_
    refine Q0 (!((rchL g.nodes).getD ug.toNat ua).b) (fun h5=>?_) (fun h5=>?_) (vc:=[(0:Int)≤ug,ug<(↑(rchL g.nodes).length:Int),ug.toNat<(rchL g.nodes).length]) (hv:=W4)
    ·exact Q4 (uY g ui) (ug,um,uq,ux) ((ug-(1:Int),um,uq,ux)) W170 W44 (vc:=[Fits ja (ug-(1:Int))]) (hv:=W4)
    ·refine tz [6,5,1,2,3,4] ?_
     refine Q3 Q7m (Qf3 (g.nodes.getD ug.toNat ua)) [] ?_ (vc:=(zat ug g)) (hv:=W4)
     refine tz [44,7,6,5,1,2,3,4] ?_
     refine Q6 (vW g ug um uq ux) ((0:Int)) (⟨jz _,by omega⟩) ?_ [] ((jB 65).map fun j65:Nat=>(14+j65)) ((jB 65).map fun j65:Nat=>joF uq (flrL (g.nodes.getD ug.toNat ua)) 0 j65=(0:Int)) W22
     rintro uu hJ6
     dsimp only [vW] at hJ6
     refine tz [46,45,44,7,6,5,1,2,3,4] ?_
     refine Q0 (decide (uu<(↑(flrL (g.nodes.getD ug.toNat ua)).length:Int))) (fun h7=>?_) (fun h7=>?_)
     ·refine tz [46,45,44,7,6,5,1,2,3,4] ?_
      refine Q3 Q6n (Qpd (joF uq (flrL (g.nodes.getD ug.toNat ua)) uu.toNat) uq g.nodes.length (((flrL (g.nodes.getD ug.toNat ua)).getD uu.toNat 0).toNat) W12) [6,4] ?_ (vc:=[(0:Int)≤uu,uu<(↑(flrL (g.nodes.getD ug.toNat ua)).length:Int),uu.toNat<(flrL (g.nodes.getD ug.toNat ua)).length,(0:Int)≤(flrL (g.nodes.getD ug.toNat ua)).getD uu.toNat 0,(flrL (g.nodes.getD ug.toNat ua)).getD uu.toNat 0<(↑g.nodes.length:Int)]) (hv:=W4)
      exact Q4 (vW g ug um uq ux) uu (uu+(1:Int)) (by dsimp only [vW];have q:=ub h7;have z:=hJ6.1;omega) (by have q:=ub h7;have z:=hJ6.1;exact ⟨by omega,by omega⟩) [] ((jB 65).map fun j65:Nat=>(14+j65)) ((jB 65).map fun j65:Nat=>joF uq (flrL (g.nodes.getD ug.toNat ua)) (uu+(1:Int)).toNat j65=joinW (joF uq (flrL (g.nodes.getD ug.toNat ua)) uu.toNat) (uq ((flrL (g.nodes.getD ug.toNat ua)).getD uu.toNat 0).toNat) 65 j65) W22 (vc:=(zF uu)) (hv:=W4)
     ·refine tz [46,45,44,7,6,5,1,2,3,4] ?_
      refine Q3 Ge (Q3z (g.nodes.getD ug.toNat ua)) [] ?_ (vc:=[(0:Int)≤ug,ug<(↑g.nodes.length:Int),ug.toNat<g.nodes.length,(0:Int)≤ug,ug<(↑g.nodes.length:Int),ug.toNat<g.nodes.length]) (hv:=W4)
      refine tz [70,7,6,5,1,2,3,4] ?_
      refine Q0 (decide ((g.nodes.getD ug.toNat ua).kind=(1:Int))||decide ((g.nodes.getD ug.toNat ua).kind=(2:Int))||decide ((g.nodes.getD ug.toNat ua).kind=(4:Int))) (fun h8=>?_) (fun h8=>?_)
      ·refine tz [7,6,5,1,2,3,4] ?_
       refine Q3 Q6o (Qpc (joF uq (flrL (g.nodes.getD ug.toNat ua)) uu.toNat) ((g.nodes.getD ug.toNat ua).slot) W12) [6] ?_ (vc:=(zat ug g)) (hv:=W4)
       refine tz [7,6,5,1,2,3,4] ?_
       refine Q3 Q0w (Q82 (g.nodes.getD ug.toNat ua) W12) [] ?_ (vc:=(zat ug g)) (hv:=W4)
       refine tz [83,7,6,5,1,2,3,4] ?_
       refine Q6 (uZ g ug um uq ux) ((0:Int)) (⟨jz _,by omega⟩) ?_ [] (((jB 65).map fun j65:Nat=>(13+j65))++([78])) (((zaS g ux ug uq uu))++((jB 65).map fun j65:Nat=>adF (useL (g.nodes.getD ug.toNat ua)) (dfF (g.nodes.getD ug.toNat ua) (beF g.nodes uq ug.toNat)) 0 j65=takeW (joF uq (flrL (g.nodes.getD ug.toNat ua)) uu.toNat) (g.nodes.getD ug.toNat ua).slot j65)) W22
       rintro uo hJ9
       dsimp only [uZ] at hJ9
       refine tz [85,84,83,7,6,5,1,2,3,4] ?_
       refine Q0 (decide (uo<(↑(useL (g.nodes.getD ug.toNat ua)).length:Int))) (fun h10=>?_) (fun h10=>?_)
       ·refine tz [85,84,83,7,6,5,1,2,3,4] ?_
        refine Q3 Q1e (Qh7 (adF (useL (g.nodes.getD ug.toNat ua)) (dfF (g.nodes.getD ug.toNat ua) (beF g.nodes uq ug.toNat)) uo.toNat) ((useL (g.nodes.getD ug.toNat ua)).getD uo.toNat 0) W12) [6] ?_ (vc:=(zbF uo g ug)) (hv:=W4)
        exact Q4 (uZ g ug um uq ux) uo (uo+(1:Int)) W205 W206 [] ((jB 65).map fun j65:Nat=>(14+j65)) (zaw g ug uq uo) W22 (vc:=(zF uo)) (hv:=W4)
       ·refine Qv 4 (ug.toNat) ?_ (vc:=[ug.toNat<g.nodes.length]) (hv:=W4)
        refine tz [85,84,83,7,6,5,1,2,3,4] ?_
        refine Q0 (!(all65 (fun j=>decide (adF (useL (g.nodes.getD ug.toNat ua)) (dfF (g.nodes.getD ug.toNat ua) (beF g.nodes uq ug.toNat)) uo.toNat j=uq ug.toNat j)) 65 0)) (fun h11=>?_) (fun h11=>?_) (vc:=[(0:Int)≤ug,ug<(↑g.nodes.length:Int),ug.toNat=ug.toNat]) (hv:=W4)
        ·exact Q4 (uY g ui) (ug,um,uq,ux) ((ug-(1:Int),true,putW uq ug.toNat (ahF g.nodes uq ug.toNat),putW ux ug.toNat (beF g.nodes uq ug.toNat))) W170 W44 [] (((jB 65).map fun j65:Nat=>(11+j65))++([76])) (zar g ug uq uo) W22 (vc:=(zbV ug g)) (hv:=W4)
        ·exact Q4 (uY g ui) (ug,um,uq,ux) ((ug-(1:Int),um,uq,putW ux ug.toNat (beF g.nodes uq ug.toNat))) W170 W44 [] ((jB 65).map fun j65:Nat=>(12+j65)) (zbK uq ug) W22 (vc:=[Fits ja (ug-(1:Int))]) (hv:=W4)
      ·refine tz [7,6,5,1,2,3,4] ?_
       refine Q3 Q0w (Q82 (g.nodes.getD ug.toNat ua) W12) [] ?_ (vc:=(zat ug g)) (hv:=W4)
       refine tz [83,7,6,5,1,2,3,4] ?_
       refine Q6 (uZ g ug um uq ux) ((0:Int)) (⟨jz _,by omega⟩) ?_ [] (((jB 65).map fun j65:Nat=>(13+j65))++([78])) (((zaS g ux ug uq uu))++((jB 65).map fun j65:Nat=>adF (useL (g.nodes.getD ug.toNat ua)) (dfF (g.nodes.getD ug.toNat ua) (beF g.nodes uq ug.toNat)) 0 j65=joF uq (flrL (g.nodes.getD ug.toNat ua)) uu.toNat j65)) W22
       rintro uo hJ9
       dsimp only [uZ] at hJ9
       refine tz [85,84,83,7,6,5,1,2,3,4] ?_
       refine Q0 (decide (uo<(↑(useL (g.nodes.getD ug.toNat ua)).length:Int))) (fun h10=>?_) (fun h10=>?_)
       ·refine tz [85,84,83,7,6,5,1,2,3,4] ?_
        refine Q3 Q1e (Qh7 (adF (useL (g.nodes.getD ug.toNat ua)) (dfF (g.nodes.getD ug.toNat ua) (beF g.nodes uq ug.toNat)) uo.toNat) ((useL (g.nodes.getD ug.toNat ua)).getD uo.toNat 0) W12) [6] ?_ (vc:=(zbF uo g ug)) (hv:=W4)
        exact Q4 (uZ g ug um uq ux) uo (uo+(1:Int)) W205 W206 [] ((jB 65).map fun j65:Nat=>(14+j65)) (zaw g ug uq uo) W22 (vc:=(zF uo)) (hv:=W4)
       ·refine Qv 4 (ug.toNat) ?_ (vc:=[ug.toNat<g.nodes.length]) (hv:=W4)
        refine tz [85,84,83,7,6,5,1,2,3,4] ?_
        refine Q0 (!(all65 (fun j=>decide (adF (useL (g.nodes.getD ug.toNat ua)) (dfF (g.nodes.getD ug.toNat ua) (beF g.nodes uq ug.toNat)) uo.toNat j=uq ug.toNat j)) 65 0)) (fun h11=>?_) (fun h11=>?_) (vc:=[(0:Int)≤ug,ug<(↑g.nodes.length:Int),ug.toNat=ug.toNat]) (hv:=W4)
        ·exact Q4 (uY g ui) (ug,um,uq,ux) ((ug-(1:Int),true,putW uq ug.toNat (ahF g.nodes uq ug.toNat),putW ux ug.toNat (beF g.nodes uq ug.toNat))) W170 W44 [] (((jB 65).map fun j65:Nat=>(11+j65))++([76])) (zar g ug uq uo) W22 (vc:=(zbV ug g)) (hv:=W4)
        ·exact Q4 (uY g ui) (ug,um,uq,ux) ((ug-(1:Int),um,uq,putW ux ug.toNat (beF g.nodes uq ug.toNat))) W170 W44 [] ((jB 65).map fun j65:Nat=>(12+j65)) (zbK uq ug) W22 (vc:=[Fits ja (ug-(1:Int))]) (hv:=W4)
   ·exact Q4 (vV g) (ud,ui,uf) ((um,uq,ux)) (by dsimp only [vV];rw [if_pos h2];exact (hJ3.done (uc h4)).2.2) (⟨(hJ3.done (uc h4)).1,(hJ3.done (uc h4)).2.1⟩)
  ·exact Q2 [0,2,3,4,5] (res:=_) (post:=_) (hS:=⟨(ui,uf),(hJ1.1.fin hq hS (hJ1.2 h2)),rfl,rfl⟩)
def bsF (P U:List Int):List Int→Int→Int
 | [],b=>b
 | p::r,b=>bsF P U r (if U.getD p.toNat 0<0 then b else if b<0 then p else mtF P U b p)
def tnF (l:List Nod) (U:List Int) (n:Int):List Int:=U.set n.toNat (bsF (plcL l) U ((aheadL l).getD n.toNat ua).l (-1))
def tlF (l:List Nod):List Int:=(ordL l).drop 1
def rnG (l:List Nod) (U:List Int) (i:Nat):List Int:=((tlF l).take i).foldl (tnF l) U
def rnF (l:List Nod) (U:List Int):List Int:=(tlF l).foldl (tnF l) U
def itF (l:List Nod):Nat→List Int→List Int
 | 0,U=>U
 | k+1,U=>itF l k (rnF l U)
def dm0 (l:List Nod):List Int:=(jh l.length (-1)).set 0 0
def domL (l:List Nod):List Int:=(itF l l.length (dm0 l)).set 0 (-1)
def lfF (l:List Nod):Nat→List Int→Nat
 | 0,_=>0
 | k+1,U=>(if rnF l U=U then 0 else 1)+lfF l k (rnF l U)
theorem Q5u (l:List Nod):∀ (k:Nat) (U:List Int),itF l (k+1) U=rnF l (itF l k U)
 | 0,U=>rfl
 | k+1,U=>Q5u l k (rnF l U)
theorem Q1m (l:List Nod):∀ (a b:Nat) (U:List Int),itF l (a+b) U=itF l a (itF l b U)
 | a,0,U=>rfl
 | a,b+1,U=>Q1m l a b (rnF l U)
theorem Q0n {l:List Nod} {U:List Int} (h:rnF l U=U):∀ k,itF l k U=U
 | 0=>rfl
 | k+1=>by rw [itF,h];exact Q0n h k
theorem Qbn (l:List Nod):∀ (k:Nat) (U:List Int),lfF l (k+1) U=lfF l k U+(if rnF l (itF l k U)=itF l k U then 0 else 1)
 | 0,U=>by
   show (if rnF l U=U then 0 else 1)+0=0+(if rnF l U=U then 0 else 1)
   omega
 | k+1,U=>by
   have h:=Qbn l k (rnF l U)
   rw [lfF,h]
   conv=>rhs;rw [lfF]
   rw [itF]
   omega
theorem Qk2 {l:List Nod} {k:Nat} {U:List Int} (h:rnF l (itF l k U)=itF l k U) (hn:rnF l U≠U):lfF l k (rnF l U)+1=lfF l k U:=by
 have h1:=Qbn l k U
 rw [if_pos h,lfF,if_neg hn] at h1
 omega
def drG (l:List Nod):Go.Dm.Gr:=⟨l.length,fun q=>((aheadL l).getD q ua).l.map Int.toNat,(ordL l).map Int.toNat,fun m=>((plcL l).getD m 0).toNat⟩
def trU (U:List Int):Go.Dm.Tree:=fun m=>if 0≤U.getD m (-1) then some (U.getD m (-1)).toNat else none
theorem Q5v {U:List Int} {m:Nat} (h:m<U.length) (a b:Int):U.getD m a=U.getD m b:=by rw [Qc h,Qc h]
theorem Q5w (o:List Int) (n:Nat):∀ (i j:Nat),0≤(plcU o n i).getD j 0
 | 0,j=>by
   unfold plcU
   by_cases h:j<(jh n (0:Int)).length
   ·rw [Qc h];simp
   ·rw [jc,jY W30];exact jz _
 | i+1,j=>by
   unfold plcU
   by_cases h:(o.getD i 0).toNat<(plcU o n i).length
   ·rw [Qn _ _ _ _ _ h];split
    ·omega
    ·exact Q5w o n i j
   ·rw [List.set_eq_of_length_le W30];exact Q5w o n i j
section
variable {l:List Nod} (hq:∀ i:Nat,i<l.length→∀ x∈flwL (l.getD i ua),0≤x∧x<(l.length:Int)) (h0:0<l.length)
include hq h0
theorem Q83:BkJ l (bkF l)∧(bkF l).st=[]:=Q7w hq _ _ (jn _) (.start h0)
theorem Qdn:∃ r,ordL l=0::r:=by
 have z:=Q83 hq h0
 have z1:=z.1.fin (by simp [psB,z.2])
 obtain ⟨r,z1⟩:=z1
 exact ⟨r.reverse,by unfold ordL;rw [z1];simp⟩
theorem Q1n {j:Nat} (hj:j<(ordL l).length):(plcL l).getD ((ordL l).getD j 0).toNat 0=j:=by
 have z:=Q1l hq h0
 exact Qb3 z.1 z.2.1 _ (jn _) j hj
omit hq h0 in
theorem Qbo {j:Nat} (hj:j<(ordL l).length):(ordL l).getD j 0∈ordL l:=by rw [Qc hj];exact jN _
theorem Qdo {x:Int} (h:x∈ordL l):∃ j,j<(ordL l).length∧(ordL l).getD j 0=x∧(plcL l).getD x.toNat 0=j:=by
 obtain ⟨j,hj,e⟩:=List.mem_iff_getElem.1 h
 have e2:(ordL l).getD j 0=x:=by rw [Qc hj];exact e
 exact ⟨j,hj,e2,by rw [← e2];exact Q1n hq h0 hj⟩
theorem Qk3 {x:Int} (h:x∈ordL l) (hx:x≠0):∃ p∈ordL l,x∈flwL (l.getD p.toNat ua)∧(plcL l).getD p.toNat 0<(plcL l).getD x.toNat 0:=by
 have z:=Q83 hq h0
 have hod:(bkF l).od=(ordL l).reverse:=by unfold ordL;rw [List.reverse_reverse]
 obtain ⟨b,a,e⟩:=List.append_of_mem h
 have e1:(bkF l).od=a.reverse++x::b.reverse:=by rw [hod,e];simp
 obtain ⟨p,_,p1,p2⟩:=z.1.par _ _ _ e1 hx
 have p3:p∈b:=by
  rcases p2 with p2 | p2
  ·simp [psB,z.2] at p2
  ·exact List.mem_reverse.1 p2
 have hx2:(ordL l).getD b.length 0=x:=by rw [e];simp
 have px:=Q1n hq h0 (j:=b.length) (by rw [e];simp)
 rw [hx2] at px
 obtain ⟨j,hj,ej⟩:=List.mem_iff_getElem.1 p3
 have hp2:(ordL l).getD j 0=p:=by rw [e,Yp hj,Qc hj];exact ej
 have pp:=Q1n hq h0 (j:=j) (by rw [e];simp;omega)
 rw [hp2] at pp
 exact ⟨p,by rw [e];exact jU _ p3,p1,by rw [px,pp];omega⟩
theorem Q06:(drG l).Ok:=by
 have z:=Q1l hq h0
 have zb:=Q83 hq h0
 obtain ⟨r,hr⟩:=Qdn hq h0
 have ix:∀ m:Nat,m∈(drG l).ord→∃ j,j<(ordL l).length∧(ordL l).getD j 0=(m:Int)∧(drG l).pl m=j:=by
  intro m hm
  obtain ⟨x,hx,rfl⟩:=List.mem_map.1 hm
  obtain ⟨j,j1,j2,j3⟩:=Qdo hq h0 hx
  have:=z.1 x hx
  refine ⟨j,j1,by omega,?_⟩
  show ((plcL l).getD x.toNat 0).toNat=j
  rw [j3];rfl
 have p0:(ordL l).getD 0 0=0:=by rw [hr];rfl
 refine ⟨fun m hm=>?_,List.mem_map.2 ⟨0,by rw [hr];simp,rfl⟩,?_,fun m hm hne=>?_,fun a b ha hb e=>?_,fun p q hp hqn hpq=>?_⟩
 ·obtain ⟨x,hx,rfl⟩:=List.mem_map.1 hm
  have:=z.1 x hx
  show x.toNat<l.length
  omega
 ·have h1:=Q1n hq h0 (j:=0) (by rw [hr];simp)
  rw [p0] at h1
  show ((plcL l).getD 0 0).toNat=0
  rw [show (0:Nat)=(0:Int).toNat from rfl,h1];rfl
 ·obtain ⟨j,j1,j2,j3⟩:=ix m hm
  rw [j3]
  rcases Nat.eq_zero_or_pos j with e | e
  ·subst e;rw [p0] at j2;omega
  ·exact e
 ·obtain ⟨i,i1,i2,i3⟩:=ix a ha
  obtain ⟨j,j1,j2,j3⟩:=ix b hb
  have:i=j:=by omega
  subst this
  omega
 ·obtain ⟨x,hx,rfl⟩:=List.mem_map.1 hp
  obtain ⟨y,hy,e⟩:=List.mem_map.1 hpq
  have hy2:=(G8 hq _ _).1 hy
  have hx2:=z.1 x hx
  have exy:y=x:=by omega
  subst exy
  have hod:y∈(bkF l).od:=List.mem_reverse.1 hx
  have h1:=zb.1.cl y hod _ hy2.2.2
  have h2:=(zb.1.sn _).1 h1
  rw [show psB (bkF l)=[] by simp [psB,zb.2],jZ] at h2
  exact List.mem_map.2 ⟨(q:Int),List.mem_reverse.2 h2,rfl⟩
end
structure DmI (l:List Nod) (U:List Int) (k i:Nat):Prop where
 len:U.length=l.length
 rg:∀ m:Nat,m<l.length→-1≤U.getD m 0∧U.getD m 0<(l.length:Int)
 inv:Go.Dm.Inv (drG l) (trU U) (fun m=>if (drG l).pl m≤i then k+1 else k)
theorem Q93 {g:Go.Dm.Gr} {o:Go.Dm.Tree} {r r':Nat→Nat} (hg:g.Ok) (h:Go.Dm.Inv g o r) (e:∀ m∈g.ord,m≠0→r' m=r m):Go.Dm.Inv g o r':=by
 obtain ⟨a,b,c,d,f,q⟩:=h
 refine ⟨a,fun m hm=>?_,c,d,fun l k m t hk=>f l k m t ?_,q⟩
 ·rw [b m hm]
  constructor
  ·rintro ⟨x,y⟩;exact ⟨x,by rw [e m x hm];exact y⟩
  ·rintro ⟨x,y⟩;exact ⟨x,by rw [← e m x hm];exact y⟩
 ·rcases hk with hk | hk
  ·exact .inl hk
  ·by_cases e0:m=0
   ·exact .inl e0
   ·exact .inr (by rw [← e m (t.mem hg) e0];exact hk)
theorem Zu {U:List Int} {x:Int} (h:MtS U x):trU U x.toNat=some (U.getD x.toNat 0).toNat:=by
 unfold trU
 rw [Q5v (b:=0) (by have:=h.2.1;have:=h.1;omega),if_pos h.2.2]
theorem Q1o {U:List Int} {x:Int} (h0:0≤x) (h1:x<(U.length:Int)) (h:trU U x.toNat≠none):MtS U x:=by
 refine ⟨h0,h1,?_⟩
 unfold trU at h
 rw [Q5v (b:=0) W30] at h
 by_cases e:0≤U.getD x.toNat 0
 ·exact e
 ·rw [if_neg e] at h;exact absurd rfl h
theorem Qn8 {U:List Int} {n c:Int} (hn:0≤n∧n<(U.length:Int)) (hc:0≤c):trU (U.set n.toNat c)=Go.Dm.upd (trU U) n.toNat c.toNat:=by
 funext m
 unfold trU Go.Dm.upd
 rw [Qn _ _ _ _ _ W30]
 split
 ·simp [hc]
 ·rfl
section
variable {l:List Nod} (hq:∀ i:Nat,i<l.length→∀ x∈flwL (l.getD i ua),0≤x∧x<(l.length:Int)) (h0:0<l.length) {U:List Int} {k i:Nat}
include hq h0
omit hq h0 in
theorem pl_ge (m:Nat):0≤(plcL l).getD m 0:=Q5w _ _ _ _
theorem DmI.mth (h:DmI l U k i):MtH (plcL l) U:=by
 have hg:=Q06 hq h0
 have mem:∀ x,MtS U x→x.toNat∈(drG l).ord:=fun x hx=>h.inv.mem hg (by rw [Zu hx];simp)
 refine ⟨by unfold plcL;rw [Q2e,h.len],fun x _=>pl_ge _,fun x hx hp=>?_,fun x y hx hy e=>?_⟩
 ·have hx0:x.toNat≠0:=fun e=>by
   have z:=hg.rootP
   have z1:(drG l).pl x.toNat=((plcL l).getD x.toNat 0).toNat:=rfl
   rw [e] at z1
   rw [z] at z1
   rw [e] at hp
   omega
  have d:=h.inv.dec _ _ hx0 (Zu hx)
  have z:=(h.rg x.toNat (by have:=hx.2.1;have:=hx.1;have:=h.len;omega))
  have d1:((plcL l).getD (U.getD x.toNat 0).toNat 0).toNat<((plcL l).getD x.toNat 0).toNat:=d.1
  have z1:=pl_ge (l:=l) (U.getD x.toNat 0).toNat
  exact ⟨Q1o hx.2.2 (by rw [h.len];exact z.2) d.2,by omega⟩
 ·have e2:=hg.inj _ _ (mem x hx) (mem y hy) (by show ((plcL l).getD x.toNat 0).toNat=((plcL l).getD y.toNat 0).toNat;rw [e])
  have:=hx.1;have:=hy.1
  omega
omit hq in
theorem DmI.root (h:DmI l U k i):MtS U 0:=Q1o (x:=0) (jz _) (by rw [h.len];omega) (by show trU U 0≠none;rw [h.inv.root];simp)
theorem DmI.meet (h:DmI l U k i):∀ (n:Nat) (a b:Int),MtS U a→MtS U b→(plcL l).getD a.toNat 0+(plcL l).getD b.toNat 0≤n→MtS U (mtG (plcL l) U n a b)∧∀ x,Go.Dm.Anc (trU U) (mtG (plcL l) U n a b).toNat x↔Go.Dm.Anc (trU U) a.toNat x∧Go.Dm.Anc (trU U) b.toNat x
 | 0,a,b,ha,hb,hn=>by
   have p1:=pl_ge (l:=l) a.toNat
   have p2:=pl_ge (l:=l) b.toNat
   have e:=(h.mth hq h0).one a b ha hb W30
   subst e
   exact ⟨ha,fun x=>⟨fun t=>⟨t,t⟩,fun t=>t.1⟩⟩
 | n+1,a,b,ha,hb,hn=>by
   have hg:=Q06 hq h0
   have hM:=h.mth hq h0
   have p1:=pl_ge (l:=l) a.toNat
   have p2:=pl_ge (l:=l) b.toNat
   have nz:∀ x:Int,0<(plcL l).getD x.toNat 0→x.toNat≠0:=fun x hx e=>by
    have z:=hg.rootP
    have z1:(drG l).pl x.toNat=((plcL l).getD x.toNat 0).toNat:=rfl
    rw [e,z] at z1
    rw [e] at hx
    omega
   unfold mtG
   split
   ·rename_i e;subst e
    exact ⟨ha,fun x=>⟨fun t=>⟨t,t⟩,fun t=>t.1⟩⟩
   ·rename_i e
    split
    ·rename_i e2
     have u:=hM.up a ha W30
     obtain ⟨g1,g2⟩:=h.meet n _ b u.1 hb W30
     refine ⟨g1,fun x=>(g2 x).trans ?_⟩
     exact (h.inv.meet_step (nz a W30) (Zu ha) (by show ((plcL l).getD b.toNat 0).toNat<((plcL l).getD a.toNat 0).toNat;omega) x).symm
    ·rename_i e2
     have e3:(plcL l).getD a.toNat 0<(plcL l).getD b.toNat 0:=by
      rcases Int.lt_or_eq_of_le (show (plcL l).getD a.toNat 0≤(plcL l).getD b.toNat 0 by omega) with t | t
      ·exact t
      ·exact absurd (hM.one a b ha hb t) e
     have u:=hM.up b hb W30
     obtain ⟨g1,g2⟩:=h.meet n a _ ha u.1 W30
     refine ⟨g1,fun x=>(g2 x).trans ?_⟩
     have s:=h.inv.meet_step (nz b W30) (Zu hb) (by show ((plcL l).getD a.toNat 0).toNat<((plcL l).getD b.toNat 0).toNat;omega) x
     exact ⟨fun t=>⟨t.1,(s.2 ⟨t.2,t.1⟩).1⟩,fun t=>⟨t.1,(s.1 ⟨t.2,t.1⟩).1⟩⟩
theorem DmI.best (h:DmI l U k i):∀ (A:List Int) (b:Int),(∀ p∈A,0≤p∧p<(l.length:Int))→(b=-1∨MtS U b) →
 (bsF (plcL l) U A b=-1∧b=-1∧∀ p∈A,U.getD p.toNat 0<0)∨(MtS U (bsF (plcL l) U A b)∧∀ x,Go.Dm.Anc (trU U) (bsF (plcL l) U A b).toNat x↔(b=-1∨Go.Dm.Anc (trU U) b.toNat x)∧∀ p∈A,0≤U.getD p.toNat 0→Go.Dm.Anc (trU U) p.toNat x)
 | [],b,_,hb=>by
   rcases hb with hb | hb
   ·exact .inl ⟨hb,hb,fun p hp=>absurd hp W162⟩
   ·exact .inr ⟨hb,fun x=>⟨fun t=>⟨.inr t,fun p hp=>absurd hp W162⟩,fun t=>t.1.resolve_left (by have:=hb.1;omega)⟩⟩
 | p::r,b,hA,hb=>by
   have hp:=hA p ke
   have hr:∀ q∈r,0≤q∧q<(l.length:Int):=fun q hq=>hA q (jW _ hq)
   have hl:=h.len
   unfold bsF
   by_cases c1:U.getD p.toNat 0<0
   ·rw [if_pos c1]
    rcases h.best r b hr hb with ⟨g1,g2,g3⟩ | ⟨g1,g2⟩
    ·exact .inl ⟨g1,g2,fun q hq=>by rcases List.mem_cons.1 hq with rfl | hq;exact c1;exact g3 q hq⟩
    ·refine .inr ⟨g1,fun x=>(g2 x).trans ⟨fun t=>⟨t.1,fun q hq hs=>?_⟩,fun t=>⟨t.1,fun q hq=>t.2 q (jW _ hq)⟩⟩⟩
     rcases List.mem_cons.1 hq with rfl | hq
     ·omega
     ·exact t.2 q hq hs
   ·rw [if_neg c1]
    have hpS:MtS U p:=⟨hp.1,by omega,by omega⟩
    by_cases c2:b<0
    ·rw [if_pos c2]
     have hb1:b=-1:=hb.resolve_right (fun t=>by have:=t.1;omega)
     rcases h.best r p hr (.inr hpS) with ⟨g1,g2,g3⟩ | ⟨g1,g2⟩
     ·omega
     ·refine .inr ⟨g1,fun x=>(g2 x).trans ⟨fun t=>⟨.inl hb1,fun q hq hs=>?_⟩,fun t=>⟨.inr (t.2 p ke W30),fun q hq=>t.2 q (jW _ hq)⟩⟩⟩
      rcases List.mem_cons.1 hq with rfl | hq
      ·exact t.1.resolve_left W30
      ·exact t.2 q hq hs
    ·rw [if_neg c2]
     have hb1:MtS U b:=hb.resolve_left W30
     obtain ⟨m1,m2⟩:=h.meet hq h0 _ b p hb1 hpS (Int.self_le_toNat _)
     rcases h.best r (mtF (plcL l) U b p) hr (.inr m1) with ⟨g1,g2,g3⟩ | ⟨g1,g2⟩
     ·have:=m1.1;unfold mtF at g2;omega
     ·refine .inr ⟨g1,fun x=>(g2 x).trans ⟨fun t=>?_,fun t=>⟨.inr ((m2 x).2 ⟨t.1.resolve_left W30,t.2 p ke W30⟩),fun q hq=>t.2 q (jW _ hq)⟩⟩⟩
      have t1:=(m2 x).1 (t.1.resolve_left (by have:=m1.1;unfold mtF;omega))
      refine ⟨.inr t1.1,fun q hq hs=>?_⟩
      rcases List.mem_cons.1 hq with rfl | hq
      ·exact t1.2
      ·exact t.2 q hq hs
omit hq h0 in
theorem Qrg {i:Nat} (hi:i<(tlF l).length):(tlF l).getD i 0=(ordL l).getD (i+1) 0∧i+1<(ordL l).length:=by
 have h1:(tlF l).length=(ordL l).length-1:=by unfold tlF;rw [List.length_drop]
 refine ⟨?_,by omega⟩
 rw [jc,jc]
 unfold tlF
 rw [kj,Nat.add_comm]
def cbF (l:List Nod) (U:List Int) (n:Int):Int:=bsF (plcL l) U ((aheadL l).getD n.toNat ua).l (-1)
theorem Q2k {i:Nat} (hi:i<(tlF l).length):0≤(tlF l).getD i 0∧(tlF l).getD i 0<(l.length:Int)∧(tlF l).getD i 0≠0∧(tlF l).getD i 0∈ordL l∧(plcL l).getD ((tlF l).getD i 0).toNat 0=(i:Int)+1:=by
 obtain ⟨e,hi2⟩:=Qrg hi
 rw [e]
 have h1:=(Q1l hq h0).1 _ (Qbo hi2)
 have h2:=Q1n hq h0 hi2
 refine ⟨h1.1,h1.2,fun e0=>?_,Qbo hi2,by rw [h2];omega⟩
 have z:=(Q06 hq h0).rootP
 have z1:(drG l).pl 0=((plcL l).getD (0:Int).toNat 0).toNat:=rfl
 rw [e0] at h2
 rw [h2,z] at z1
 omega
theorem DmI.turn (h:DmI l U k i) (hi:i<(tlF l).length):MtS U (cbF l U ((tlF l).getD i 0))∧DmI l (tnF l U ((tlF l).getD i 0)) k (i+1)∧(l.length≤k→cbF l U ((tlF l).getD i 0)=U.getD ((tlF l).getD i 0).toNat 0):=by
 have hg:=Q06 hq h0
 obtain ⟨n0,n1,n2,n3,n4⟩:=Q2k hq h0 hi
 unfold tnF cbF
 generalize hn:(tlF l).getD i 0=n at n0 n1 n2 n3 n4
 have hl:=h.len
 have hA:∀ p∈((aheadL l).getD n.toNat ua).l,0≤p∧p<(l.length:Int):=fun p hp=>by
  have z:=(G8 hq _ _).1 hp
  exact ⟨z.1,z.2.1⟩
 have n0':n.toNat≠0:=by omega
 have nm:n.toNat∈(drG l).ord:=List.mem_map.2 ⟨n,n3,rfl⟩
 have npl:(drG l).pl n.toNat=i+1:=by show ((plcL l).getD n.toNat 0).toNat=i+1;rw [n4];omega
 obtain ⟨p,p1,p2,p3⟩:=Qk3 hq h0 n3 n2
 have pr:=(Q1l hq h0).1 p p1
 have pge:=pl_ge (l:=l) p.toNat
 have ppl:(drG l).pl p.toNat≤i:=by show ((plcL l).getD p.toNat 0).toNat≤i;omega
 have pA:p∈((aheadL l).getD n.toNat ua).l:=(G8 hq _ _).2 ⟨pr.1,pr.2,by rw [show ((n.toNat:Nat):Int)=n by omega];exact p2⟩
 have pset:trU U p.toNat≠none:=by
  by_cases e:p.toNat=0
  ·rw [e,h.inv.root];simp
  ·exact (h.inv.some_ _ e).2 ⟨List.mem_map.2 ⟨p,p1,rfl⟩,by rw [if_pos ppl];omega⟩
 have pS:MtS U p:=Q1o pr.1 W30 pset
 rcases h.best hq h0 _ (-1) hA (.inl rfl) with ⟨_,_,g3⟩ | ⟨g1,g2⟩
 ·have:=g3 p pA;have:=pS.2.2;omega
 generalize bsF (plcL l) U ((aheadL l).getD n.toNat ua).l (-1)=c at g1 g2
 have hb:Go.Dm.Best (drG l) (trU U) n.toNat c.toNat:=by
  refine ⟨fun x=>(g2 x).trans ⟨fun t q hq' hs=>?_,fun t=>⟨.inl rfl,fun q hq' hs=>?_⟩⟩,by rw [Zu g1];simp⟩
  ·obtain ⟨y,hy,rfl⟩:=List.mem_map.1 hq'
   have yr:=hA y hy
   exact t.2 y hy (Q1o yr.1 W30 hs).2.2
  ·have yr:=hA q hq'
   exact t q.toNat (List.mem_map.2 ⟨q,hq',rfl⟩) (by rw [Zu ⟨yr.1,by omega,hs⟩];simp)
 have hs:∃ q∈(drG l).pre n.toNat,trU U q≠none∧(drG l).pl q<(drG l).pl n.toNat:=⟨p.toNat,List.mem_map.2 ⟨p,pA,rfl⟩,pset,by omega⟩
 refine ⟨g1,⟨by rw [jF];exact hl,fun m hm=>?_,?_⟩,fun hk=>?_⟩
 ·rw [Qn _ _ _ _ _ W30]
  split
  ·have:=g1.1;have:=g1.2.1;omega
  ·exact h.rg m hm
 ·rw [Qn8 ⟨n0,by omega⟩ g1.1]
  refine Q93 hg (h.inv.turn hg (k:=k+1) n0' nm hb W30 (fun m _ _ hm=>?_) (fun m _ _ hm=>?_) hs) (fun m hm hm0=>?_)
  ·rw [if_pos W30]
  ·rw [if_neg W30]
  ·show (if (drG l).pl m≤i+1 then k+1 else k)=if m=n.toNat then k+1 else if (drG l).pl m≤i then k+1 else k
   by_cases e:m=n.toNat
   ·rw [if_pos e,if_pos (by rw [e,npl];omega)]
   ·rw [if_neg e]
    have:(drG l).pl m≠i+1:=fun e2=>e (hg.inj _ _ hm nm (by rw [e2,npl]))
    by_cases e3:(drG l).pl m≤i
    ·rw [if_pos e3,if_pos W30]
    ·rw [if_neg e3,if_neg W30]
 ·have hns:trU U n.toNat≠none:=(h.inv.some_ _ n0').2 ⟨nm,by split<;>omega⟩
  have nS:=Q1o n0 W30 hns
  have e:=h.inv.still hg n0' nm hb (Zu nS) (fun m _ _=>by show l.length≤_;split<;>omega) hs
  have:=g1.1;have:=nS.2.2
  omega
omit hq h0 in
theorem Q07 (hi:i<(tlF l).length) (U:List Int):rnG l U (i+1)=tnF l (rnG l U i) ((tlF l).getD i 0):=by
 unfold rnG
 rw [jM hi,List.foldl_append,Qc hi];rfl
theorem DmI.rounds (h:DmI l U k 0):∀ i,i≤(tlF l).length→DmI l (rnG l U i) k i
 | 0,_=>h
 | i+1,hi=>by
   rw [Q07 W30]
   exact ((h.rounds i W30).turn hq h0 W30).2.1
omit hq h0 in
theorem Q84 (U:List Int):rnG l U (tlF l).length=rnF l U:=by unfold rnG rnF;rw [List.take_length]
theorem DmI.round (h:DmI l U k 0):DmI l (rnF l U) (k+1) 0:=by
 have hg:=Q06 hq h0
 have z:=h.rounds hq h0 _ (jn _)
 rw [Q84] at z
 refine ⟨z.len,z.rg,Q93 hg z.inv fun m hm hm0=>?_⟩
 have hp:=hg.pos m hm hm0
 obtain ⟨x,hx,rfl⟩:=List.mem_map.1 hm
 obtain ⟨j,j1,j2,j3⟩:=Qdo hq h0 hx
 have h1:(tlF l).length=(ordL l).length-1:=by unfold tlF;rw [List.length_drop]
 have h2:(drG l).pl x.toNat=j:=by show ((plcL l).getD x.toNat 0).toNat=j;rw [j3];rfl
 show (if (drG l).pl x.toNat≤0 then k+1+1 else k+1)=if (drG l).pl x.toNat≤(tlF l).length then k+1 else k
 rw [if_neg W30,if_pos W30]
theorem DmI.start:DmI l (dm0 l) 0 0:=by
 have hg:=Q06 hq h0
 have g0:∀ m:Nat,m<l.length→(dm0 l).getD m 0=if m=0 then 0 else -1:=fun m hm=>by
  unfold dm0
  rw [Qn _ _ _ _ _ (by simpa using h0)]
  split
  ·rfl
  ·rw [Qc (by simpa using hm)];simp
 have hlen:(dm0 l).length=l.length:=by simp [dm0]
 have ht:∀ m:Nat,trU (dm0 l) m=if m=0 then some 0 else none:=fun m=>by
  unfold trU
  by_cases hm:m<l.length
  ·rw [Q5v (b:=0) W30,g0 m hm]
   by_cases e:m=0
   ·simp [e]
   ·simp [e]
  ·rw [jc,jY W30]
   have:m≠0:=by omega
   simp [this]
 refine ⟨hlen,fun m hm=>by rw [g0 m hm];split<;>omega,⟨by rw [ht];simp,fun m hm=>?_,fun m p hm hp=>?_,fun m p hm hp=>?_,fun ll kk m t hk x hx=>?_,fun m d hm hd=>?_⟩⟩
 ·rw [ht,if_neg hm]
  constructor
  ·intro h;exact absurd rfl h
  ·rintro ⟨hmm,hr⟩
   have:=hg.pos m hmm hm
   rw [if_neg W30] at hr
   omega
 ·rw [ht,if_neg hm] at hp;exact absurd hp W162
 ·rw [ht,if_neg hm] at hp;exact absurd hp W162
 ·have hm:m=0:=by
   rcases hk with hk | hk
   ·exact hk
   ·by_cases e:m=0
    ·exact e
    ·have:=hg.pos m (t.mem hg) e
     rw [if_neg W30] at hk
     omega
  subst hm
  have:=hx.root
  subst this
  cases t with
  | nil=>simp
  | snoc=>exact ke
 ·have hm0:m=0:=by
   by_cases e:m=0
   ·exact e
   ·rw [ht,if_neg e] at hm;exact absurd rfl hm
  subst hm0
  have z:=hd _ _ .nil
  simp at z
  subst z
  exact .refl _
theorem DmI.it:∀ j,DmI l (itF l j (dm0 l)) j 0
 | 0=>.start hq h0
 | j+1=>by rw [Q5u];exact (DmI.it j).round hq h0
theorem DmI.stop (h:DmI l U k 0) (hk:l.length≤k):rnF l U=U:=by
 have z:∀ i,i≤(tlF l).length→rnG l U i=U:=by
  intro i
  induction i with
  | zero=>intro _;rfl
  | succ i ih =>
    intro hi
    have e:=ih W30
    rw [Q07 W30,e]
    have t:=h.rounds hq h0 i W30
    rw [e] at t
    have u:=(t.turn hq h0 W30).2.2 hk
    have o:=Q2k hq h0 (show i<(tlF l).length by omega)
    unfold tnF
    unfold cbF at u
    rw [u]
    have hl:=h.len
    rw [Qc (l:=U) W30]
    exact List.set_getElem_self _
 rw [← Q84]
 exact z _ (jn _)
theorem Q85:rnF l (itF l l.length (dm0 l))=itF l l.length (dm0 l):=(DmI.it hq h0 _).stop hq h0 (jn _)
end
def DmJ (l:List Nod) (U:List Int):Prop:=∃ j,U=itF l j (dm0 l)
structure RnJ (l:List Nod) (U0 U:List Int) (i:Int) (ag:Bool):Prop where
 lo:0≤i
 hi:i≤((tlF l).length:Int)
 eq:U=rnG l U0 i.toNat
 no:ag=false→U=U0
 yes:ag=true→∃ m:Nat,m<i.toNat∧U.getD ((tlF l).getD m 0).toNat 0≠U0.getD ((tlF l).getD m 0).toNat 0
structure BsJ (P U A:List Int) (x b:Int):Prop where
 lo:0≤x
 hi:x≤(A.length:Int)
 eq:b=bsF P U (A.take x.toNat) (-1)
 set:b=-1∨MtS U b
theorem Qbp (P U:List Int) (p:Int):∀ (A:List Int) (b:Int),bsF P U (A++[p]) b=if U.getD p.toNat 0<0 then bsF P U A b else if bsF P U A b<0 then p else mtF P U (bsF P U A b) p
 | [],b=>rfl
 | q::r,b=>by rw [List.cons_append,bsF,Qbp P U p r];rfl
section
variable {l:List Nod} (hq:∀ i:Nat,i<l.length→∀ x∈flwL (l.getD i ua),0≤x∧x<(l.length:Int)) (h0:0<l.length) {U0 U:List Int} {i x b:Int} {ag:Bool}
include hq h0
theorem DmJ.rn (h:DmJ l U0) (h1:RnJ l U0 U i ag):∃ k,DmI l U k i.toNat:=by
 obtain ⟨j,rfl⟩:=h
 refine ⟨j,?_⟩
 rw [h1.eq]
 exact (DmI.it hq h0 j).rounds hq h0 _ (by have:=h1.lo;have:=h1.hi;omega)
omit hq h0 in
theorem RnJ.start (U0:List Int):RnJ l U0 U0 0 false:=⟨jz _,by omega,rfl,fun _=>rfl,fun h=>absurd h W162⟩
theorem RnJ.same (h:RnJ l U0 U i ag) (hj:DmJ l U0) (hi:i<((tlF l).length:Int)) (e:U.getD ((tlF l).getD i.toNat 0).toNat 0=cbF l U ((tlF l).getD i.toNat 0)):RnJ l U0 U (i+1) ag:=by
 obtain ⟨k,z⟩:=hj.rn hq h0 h
 obtain ⟨a1,a2,a3,a4,a5⟩:=h
 refine ⟨by omega,by omega,?_,a4,fun hg=>?_⟩
 ·rw [show (i+1).toNat=i.toNat+1 by omega,Q07 W30,← a3]
  have o:=Q2k hq h0 (show i.toNat<(tlF l).length by omega)
  have hl:=z.len
  unfold tnF
  unfold cbF at e
  rw [← e,Qc (l:=U) W30]
  exact (List.set_getElem_self _).symm
 ·obtain ⟨m,m1,m2⟩:=a5 hg
  exact ⟨m,by omega,m2⟩
theorem Qpe {a b:Nat} (ha:a<(tlF l).length) (hb:b<(tlF l).length) (e:((tlF l).getD a 0).toNat=((tlF l).getD b 0).toNat):a=b:=by
 have h1:=(Q2k hq h0 ha).2.2.2.2
 have h2:=(Q2k hq h0 hb).2.2.2.2
 rw [e,h2] at h1
 omega
theorem Qbq:∀ (i m:Nat),i≤m→m<(tlF l).length→∀ U:List Int,(rnG l U i).getD ((tlF l).getD m 0).toNat 0=U.getD ((tlF l).getD m 0).toNat 0
 | 0,m,_,_,U=>rfl
 | i+1,m,hi,hm,U=>by
   rw [Q07 W30]
   unfold tnF
   have z:=Qbq i m W30 hm U
   by_cases e:((tlF l).getD i 0).toNat<(rnG l U i).length
   ·rw [Qn _ _ _ _ _ e,if_neg (fun e2=>absurd (Qpe hq h0 hm W30 e2) W30)]
    exact z
   ·rw [List.set_eq_of_length_le W30];exact z
theorem RnJ.diff (h:RnJ l U0 U i ag) (hj:DmJ l U0) (hi:i<((tlF l).length:Int)) (e:¬ U.getD ((tlF l).getD i.toNat 0).toNat 0=cbF l U ((tlF l).getD i.toNat 0)):RnJ l U0 (U.set ((tlF l).getD i.toNat 0).toNat (cbF l U ((tlF l).getD i.toNat 0))) (i+1) true:=by
 obtain ⟨k,z⟩:=hj.rn hq h0 h
 have o:=Q2k hq h0 (show i.toNat<(tlF l).length by have:=h.lo;omega)
 have hl:=z.len
 obtain ⟨a1,a2,a3,a4,a5⟩:=h
 refine ⟨by omega,by omega,?_,fun h=>absurd h W162,fun _=>⟨i.toNat,by omega,?_⟩⟩
 ·rw [show (i+1).toNat=i.toNat+1 by omega,Q07 W30,← a3];rfl
 ·rw [Qn _ _ _ _ _ W30,if_pos rfl]
  have y:=Qbq hq h0 i.toNat i.toNat (jn _) W30 U0
  rw [← a3] at y
  rw [← y]
  exact fun e2=>e e2.symm
theorem RnJ.done (h:RnJ l U0 U i ag) (hj:DmJ l U0) (hi:¬ i<((tlF l).length:Int)):DmJ l U∧(ag=false→rnF l U=U)∧(ag=true→lfF l l.length U<lfF l l.length U0):=by
 have a1:=h.lo
 have a2:=h.hi
 have e:U=rnF l U0:=by rw [h.eq,show i.toNat=(tlF l).length by omega,Q84]
 obtain ⟨j,hj⟩:=hj
 refine ⟨⟨j+1,by rw [Q5u,← hj,e]⟩,fun hg=>?_,fun hg=>?_⟩
 ·have:=h.no hg
  rw [← this] at e
  exact e.symm
 ·obtain ⟨m,_,m2⟩:=h.yes hg
  have hne:rnF l U0≠U0:=fun e2=>m2 (by rw [e,e2])
  have st:rnF l (itF l l.length U0)=itF l l.length U0:=by
   rw [hj,← Q1m,Nat.add_comm,Q1m,Q0n (Q85 hq h0)]
   exact Q85 hq h0
  have:=Qk2 st hne
  rw [e];omega
theorem DmJ.fin (h:DmJ l U) (e:rnF l U=U):U.set 0 (-1)=domL l:=by
 obtain ⟨j,hj⟩:=h
 unfold domL
 have st:=Q85 hq h0
 congr 1
 rcases Nat.le_total j l.length with hl | hl
 ·rw [show l.length=(l.length-j)+j by omega,Q1m,← hj,Q0n e]
 ·rw [hj,show j=(j-l.length)+l.length by omega,Q1m,Q0n st]
omit hq h0 in
theorem BsJ.start (P U A:List Int):BsJ P U A 0 (-1):=⟨jz _,by omega,rfl,.inl rfl⟩
omit hq h0 in
theorem BsJ.at_ {P A:List Int} (h:BsJ P U A x b) (hx:x<(A.length:Int)):bsF P U (A.take (x+1).toNat) (-1)=if U.getD (A.getD x.toNat 0).toNat 0<0 then b else if b<0 then A.getD x.toNat 0 else mtF P U b (A.getD x.toNat 0):=by
 have a1:=h.lo
 rw [show (x+1).toNat=x.toNat+1 by omega,jM W30,Qbp,← h.eq,Qc (l:=A) W30]
omit hq h0 in
theorem BsJ.skip {P A:List Int} (h:BsJ P U A x b) (hx:x<(A.length:Int)) (e:U.getD (A.getD x.toNat 0).toNat 0<0):BsJ P U A (x+1) b:=by
 have a1:=h.lo
 exact ⟨by omega,by omega,by rw [h.at_ hx,if_pos e],h.set⟩
omit hq h0 in
theorem BsJ.first {P A:List Int} (h:BsJ P U A x b) (hx:x<(A.length:Int)) (hs:MtS U (A.getD x.toNat 0)) (hb:b<0):BsJ P U A (x+1) (A.getD x.toNat 0):=by
 have a1:=h.lo
 exact ⟨by omega,by omega,by rw [h.at_ hx,if_neg (by have:=hs.2.2;omega),if_pos hb],.inr hs⟩
theorem BsJ.meet {A:List Int} {k n:Nat} (hd:DmI l U k n) (h:BsJ (plcL l) U A x b) (hx:x<(A.length:Int)) (hs:MtS U (A.getD x.toNat 0)) (hb:¬ b<0):BsJ (plcL l) U A (x+1) (mtF (plcL l) U b (A.getD x.toNat 0)):=by
 have a1:=h.lo
 exact ⟨by omega,by omega,by rw [h.at_ hx,if_neg (by have:=hs.2.2;omega),if_neg hb],.inr (hd.meet hq h0 _ b _ (h.set.resolve_left W30) hs (Int.self_le_toNat _)).1⟩
omit hq h0 in
theorem BsJ.done {P A:List Int} (h:BsJ P U A x b) (hx:¬ x<(A.length:Int)):b=bsF P U A (-1):=by
 have a1:=h.hi
 have:=h.eq
 rwa [j7 W30] at this
theorem Qbr:UpH (plcL l) (domL l)∧(domL l).length=l.length∧∀ m:Nat,m<l.length→-1≤(domL l).getD m 0∧(domL l).getD m 0<(l.length:Int):=by
 have h:=DmI.it hq h0 l.length
 have hM:=h.mth hq h0
 have hr:=h.root h0
 unfold domL
 generalize itF l l.length (dm0 l)=U at h hM hr
 have hl:=h.len
 have rg:∀ m:Nat,m<l.length→-1≤(U.set 0 (-1)).getD m 0∧(U.set 0 (-1)).getD m 0<(l.length:Int):=fun m hm=>by
  rw [Qn _ _ _ _ _ W30];split
  ·omega
  ·exact h.rg m hm
 refine ⟨⟨by rw [jF];exact hM.len,fun x _ _=>pl_ge _,fun x hx hx2=>?_⟩,by rw [jF];exact hl,rg⟩
 rw [jF] at hx2 ⊢
 refine ⟨by have:=(rg x.toNat W30).2;omega,fun hge=>?_⟩
 rw [Qn _ _ _ _ _ W30] at hge ⊢
 by_cases e:x.toNat=0
 ·rw [if_pos e] at hge;omega
 ·rw [if_neg e] at hge ⊢
  have xS:MtS U x:=⟨hx,hx2,hge⟩
  rcases Int.lt_or_eq_of_le (pl_ge x.toNat) with t | t
  ·exact (hM.up x xS t).2
  ·have z:=(Q06 hq h0).rootP
   have z1:(drG l).pl 0=((plcL l).getD (0:Int).toNat 0).toNat:=rfl
   have z2:=pl_ge (l:=l) (0:Int).toNat
   rw [z] at z1
   have:=hM.one x 0 xS hr W30
   omega
end
def filF (n i:Nat):List Int:=(jB n).map fun j=>if j<i then -1 else 0
theorem Qh8 (n:Nat):filF n 0=jh n 0:=by
 refine List.ext_getElem (by simp [filF]) fun i h1 h2=>by simp [filF]
theorem Qh9 {n:Nat} {i:Int} (h:0≤i) (hi:i<(n:Int)):(filF n i.toNat).set i.toNat (-1)=filF n (i+1).toNat:=by
 refine List.ext_getElem (by simp [filF]) fun j h1 h2=>?_
 rw [List.getElem_set]
 simp only [filF,List.getElem_map,List.getElem_range]
 split
 ·rw [if_pos W30]
 ·split
  ·rw [if_pos W30]
  ·rw [if_neg W30]
theorem Qk4 (l:List Nod):(filF l.length l.length).set 0 0=dm0 l:=by
 unfold dm0
 congr 1
 refine List.ext_getElem (by simp [filF]) fun j h1 h2=>?_
 simp only [filF,jP,List.length_range] at h1
 simp [filF,h1]
theorem Qk5 (n i:Nat):(filF n i).length=n:=by simp [filF]
theorem Qbs (l:List Nod) (i:Nat):(ordL l).getD (1+i) 0=(tlF l).getD i 0:=by
 rw [jc,jc]
 unfold tlF
 rw [kj]
theorem Qha (l:List Nod):(tlF l).length=(ordL l).length-1:=by unfold tlF;rw [List.length_drop]
theorem DmJ.start (l:List Nod):DmJ l (dm0 l):=⟨0,rfl⟩
section
variable {l:List Nod} (hq:∀ i:Nat,i<l.length→∀ x∈flwL (l.getD i ua),0≤x∧x<(l.length:Int)) (h0:0<l.length) {U0 U:List Int} {i x n:Int} {ag:Bool}
include hq h0
theorem Qhb:1≤(ordL l).length∧(ordL l).length≤l.length:=by
 obtain ⟨r,hr⟩:=Qdn hq h0
 exact ⟨by rw [hr];simp,(Q1l hq h0).2.2⟩
theorem DmJ.len (h:DmJ l U):U.length=l.length:=by
 obtain ⟨j,rfl⟩:=h
 exact (DmI.it hq h0 j).len
theorem DmJ.len2 (h:DmJ l U0) (h1:RnJ l U0 U i ag):U.length=l.length:=by
 obtain ⟨k,z⟩:=h.rn hq h0 h1
 exact z.len
theorem Qrh (hi:0≤i) (h:i<((tlF l).length:Int)):0≤(tlF l).getD i.toNat 0∧(tlF l).getD i.toNat 0<(l.length:Int):=by
 have z:=Q2k hq h0 (show i.toNat<(tlF l).length by omega)
 exact ⟨z.1,z.2.1⟩
theorem DmJ.pt (h:DmJ l U0) (h1:RnJ l U0 U i ag) (hx0:0≤x) (hx:x<(((aheadL l).getD n.toNat ua).l.length:Int)) :
 0≤((aheadL l).getD n.toNat ua).l.getD x.toNat 0∧((aheadL l).getD n.toNat ua).l.getD x.toNat 0<(l.length:Int)∧(¬ U.getD (((aheadL l).getD n.toNat ua).l.getD x.toNat 0).toNat 0<0→MtS U (((aheadL l).getD n.toNat ua).l.getD x.toNat 0)):=by
 have z:=(G8 hq n.toNat _).1 (Y3 hx hx0)
 have e:=h.len2 hq h0 h1
 exact ⟨z.1,z.2.1,fun hn=>⟨z.1,by omega,by omega⟩⟩
theorem DmJ.mth (h:DmJ l U0) (h1:RnJ l U0 U i ag):MtH (plcL l) U:=by
 obtain ⟨k,z⟩:=h.rn hq h0 h1
 exact z.mth hq h0
theorem DmJ.meet {b:Int} {A:List Int} (h:DmJ l U0) (h1:RnJ l U0 U i ag) (h2:BsJ (plcL l) U A x b) (hx:x<(A.length:Int)) (hs:MtS U (A.getD x.toNat 0)) (hb:¬ b<0):BsJ (plcL l) U A (x+1) (mtF (plcL l) U b (A.getD x.toNat 0)):=by
 obtain ⟨k,z⟩:=h.rn hq h0 h1
 exact BsJ.meet hq h0 z h2 hx hs hb
omit hq h0 in
theorem Q86 (l:List Nod):(aheadL l).length=l.length:=Q2a _ _
omit hq h0 in
theorem Yx (l:List Nod) (k:Nat):((aheadL l).getD k ua).l.length≤2 * l.length:=Jh _ _ _
theorem DmJ.f2 (h:DmJ l U0) (h1:RnJ l U0 U i ag) (h7:i<(((ordL l).length-1:Nat):Int)):0≤i∧0≤(ordL l).getD (1+i.toNat) 0∧(ordL l).getD (1+i.toNat) 0<(l.length:Int)∧U.length=l.length∧(aheadL l).length=l.length∧((aheadL l).getD ((ordL l).getD (1+i.toNat) 0).toNat ua).l.length≤2 * l.length∧(ordL l).length≤l.length∧1≤(ordL l).length:=by
 have t:=Qrh hq h0 h1.lo W221
 have o:=Qhb hq h0
 rw [Qbs]
 exact ⟨h1.lo,t.1,t.2,h.len2 hq h0 h1,Q86 l,Yx l _,o.2,o.1⟩
theorem DmJ.f3 {b:Int} (h:DmJ l U0) (h1:RnJ l U0 U i ag) (h8:BsJ (plcL l) U ((aheadL l).getD n.toNat ua).l x b) (h9:x<(((aheadL l).getD n.toNat ua).l.length:Int)):0≤x∧0≤((aheadL l).getD n.toNat ua).l.getD x.toNat 0∧((aheadL l).getD n.toNat ua).l.getD x.toNat 0<(l.length:Int):=by
 have p:=h.pt hq h0 h1 h8.lo h9
 exact ⟨h8.lo,p.1,p.2.1⟩
theorem RnJ.less (h:RnJ l U0 U i ag) (hj:DmJ l U0) (h7:¬ i<(((ordL l).length-1:Nat):Int)):(if ag=true then 1+lfF l l.length U else 0)<1+lfF l l.length U0:=by
 have d:=(h.done hq h0 hj W221).2.2
 split
 ·rename_i e;have:=d e;omega
 ·omega
theorem RnJ.both (h:RnJ l U0 U i ag) (hj:DmJ l U0) (h7:¬ i<(((ordL l).length-1:Nat):Int)):DmJ l U∧(ag=false→rnF l U=U):=by
 have d:=h.done hq h0 hj W221
 exact ⟨d.1,d.2.1⟩
theorem RnJ.sameI {b:Int} (h:RnJ l U0 U i ag) (hj:DmJ l U0) (h7:i<(((ordL l).length-1:Nat):Int)) (hb:BsJ (plcL l) U ((aheadL l).getD ((ordL l).getD (1+i.toNat) 0).toNat ua).l x b) (h9:¬ x<(((aheadL l).getD ((ordL l).getD (1+i.toNat) 0).toNat ua).l.length:Int)) (e:U.getD ((ordL l).getD (1+i.toNat) 0).toNat 0=b):RnJ l U0 U (i+1) ag:=by
 have z:=hb.done h9
 rw [Qbs] at z e
 exact h.same hq h0 hj W221 (by rw [e,z];rfl)
theorem RnJ.diffI {b:Int} (h:RnJ l U0 U i ag) (hj:DmJ l U0) (h7:i<(((ordL l).length-1:Nat):Int)) (hb:BsJ (plcL l) U ((aheadL l).getD ((ordL l).getD (1+i.toNat) 0).toNat ua).l x b) (h9:¬ x<(((aheadL l).getD ((ordL l).getD (1+i.toNat) 0).toNat ua).l.length:Int)) (e:¬ U.getD ((ordL l).getD (1+i.toNat) 0).toNat 0=b):RnJ l U0 (U.set ((ordL l).getD (1+i.toNat) 0).toNat b) (i+1) true:=by
 have z:=hb.done h9
 rw [Qbs] at z e ⊢
 have r:=h.diff hq h0 hj W221 (by rw [z] at e;exact e)
 rw [z];exact r
end
def cntB (N:Nat) (p:Nat→Bool):Nat:=(jB N).countP p
theorem Qdp (N:Nat) (p:Nat→Bool):cntB N p≤N:=by
 have h:=List.countP_le_length (p:=p) (l:=jB N)
 rwa [List.length_range] at h
theorem Qhc {N:Nat} {p q:Nat→Bool} (h:∀ i,i<N→p i=q i):cntB N p=cntB N q:=by
 induction N with
 | zero=>rfl
 | succ n ih =>
   unfold cntB at ih ⊢
   rw [kw,kW,kW,ih (fun i hi=>h i W30)]
   simp [h n W30]
theorem Qbt {N k:Nat} {p q:Nat→Bool} (hk:k<N) (hp:p k=true) (hq:q k=false) (h:∀ i,i≠k→q i=p i):cntB N q+1=cntB N p:=by
 induction N with
 | zero=>omega
 | succ n ih =>
   by_cases e:k=n
   ·subst e
    have h1:=Qhc (N:=k) (p:=q) (q:=p) (fun i hi=>h i W30)
    unfold cntB at h1 ⊢
    rw [kw,kW,kW,h1]
    simp [hp,hq]
   ·have h1:=ih W30
    unfold cntB at h1 ⊢
    rw [kw,kW,kW]
    simp only [List.countP_cons,List.countP_nil]
    rw [h n (fun e2=>e e2.symm)]
    omega
def unmF (N:Nat) (D:Int→Option Bool):Nat:=cntB N fun i=>!((D (i:Int)).getD false)
theorem Qk6 {N:Nat} {D:Int→Option Bool} {q:Int} (h0:0≤q) (h1:q<(N:Int)) (h:(D q).getD false=false):unmF N (fun a=>if a=q then some true else D a)+1=unmF N D:=by
 refine Qbt (k:=q.toNat) W30 ?_ ?_ (fun i hi=>?_)
 ·show (!((D ((q.toNat:Nat):Int)).getD false))=true
  rw [show ((q.toNat:Nat):Int)=q by omega,h];rfl
 ·show (!(if ((q.toNat:Nat):Int)=q then some true else D ((q.toNat:Nat):Int)).getD false)=false
  rw [if_pos W30];rfl
 ·show (!(if (i:Int)=q then some true else D (i:Int)).getD false)=_
  rw [if_neg W30]
def lftF (N:Nat) (L:Int→Bool):Nat:=cntB N fun i=>L (i:Int)
theorem Qk7 {N:Nat} {L:Int→Bool} {q:Int} (h0:0≤q) (h1:q<(N:Int)) (h:L q=true):lftF N (fun a=>L a&&!decide (a=q))+1=lftF N L:=by
 refine Qbt (k:=q.toNat) W30 ?_ ?_ (fun i hi=>?_)
 ·show L ((q.toNat:Nat):Int)=true
  rw [show ((q.toNat:Nat):Int)=q by omega,h]
 ·show (L ((q.toNat:Nat):Int)&&!decide (((q.toNat:Nat):Int)=q))=false
  rw [decide_eq_true (show ((q.toNat:Nat):Int)=q by omega)];simp
 ·show (L (i:Int)&&!decide ((i:Int)=q))=L (i:Int)
  rw [decide_eq_false (show ¬ ((i:Int)=q) by omega)];simp
def KeysIn (N:Nat) (D:Int→Option Bool):Prop:=∀ q,(D q).isSome=true→0≤q∧q<(N:Int)
theorem KeysIn.none (N:Nat):KeysIn N (fun _=>Option.none):=fun q h=>absurd h W162
theorem KeysIn.put {N:Nat} {D:Int→Option Bool} (h:KeysIn N D) {q:Int} (h0:0≤q∧q<(N:Int)):KeysIn N (fun a=>if a=q then some true else D a):=by
 intro a ha
 by_cases e:a=q
 ·subst e;exact h0
 ·exact h a (by simpa [e] using ha)
def InR (N:Nat) (t:List Int):Prop:=∀ x∈t,0≤x∧x<(N:Int)
theorem InR.snoc {N:Nat} {t:List Int} (h:InR N t) {x:Int} (hx:0≤x∧x<(N:Int)):InR N (t++[x]):=fun y hy=>by
 rcases List.mem_append.1 hy with hy | hy
 ·exact h y hy
 ·rw [jH] at hy;subst hy;exact hx
theorem InR.take {N:Nat} {t:List Int} (h:InR N t) (k:Nat):InR N (t.take k):=fun y hy=>h y (List.mem_of_mem_take hy)
theorem InR.top {N:Nat} {t:List Int} (h:InR N t) (h0:(0:Int)<(t.length:Int)):0≤t.getD ((t.length:Int)-1).toNat 0∧t.getD ((t.length:Int)-1).toNat 0<(N:Int):=h _ (Y3 W30 W30)
structure DpO (N:Nat) (h:Int) (out:List Int):Prop where
 lo:0≤h
 hi:h≤(N:Int)
 len:out.length=N
 val:∀ i:Nat,i<N→0≤out.getD i 0∧out.getD i 0≤h * 4096
structure DpA (N m:Nat) (i:Int) (todo:List Int) (n:Nat) (D:Int→Option Bool):Prop where
 lo:0≤i
 hi:i≤(m:Int)
 td:InR N todo
 ks:KeysIn N D
 tl:(todo.length:Int)≤i
 nl:(n:Int)≤i
structure DpB (N n:Nat) (D:Int→Option Bool) (todo:List Int):Prop where
 td:InR N todo
 ks:KeysIn N D
 ms:unmF N D * (2 * N+1)+todo.length≤N * (2 * N+1)+2 * N
 nl:n+unmF N D≤3 * N
structure DpD (N m k:Nat) (i:Int) (todo:List Int):Prop where
 lo:0≤i
 hi:i≤(m:Int)
 td:InR N todo
 tl:(todo.length:Int)≤(k:Int)-1+i
structure DpE (N:Nat) (h:Int) (out:List Int) (L:Int→Bool):Prop where
 len:out.length=N
 val:∀ i:Nat,i<N→0≤out.getD i 0∧out.getD i 0+lftF N L≤h * 4096+4096
theorem DpO.start (N:Nat):DpO N 0 (jh N 0):=by
 refine ⟨jz _,by omega,by simp,fun i hi=>?_⟩
 rw [Qc W218]
 simp
theorem DpO.next {N:Nat} {h:Int} {out:List Int} (H:DpO N h out) (hl:h<(N:Int)):DpO N (h+1) out:=⟨by have:=H.lo;omega,by omega,H.len,fun i hi=>by have:=H.val i hi;omega⟩
theorem DpA.start (N m:Nat):DpA N m 0 [] 0 (fun _=>Option.none):=⟨jz _,by omega,fun x hx=>absurd hx W162,.none N,by simp,by simp⟩
theorem DpA.skip {N m n:Nat} {i:Int} {todo:List Int} {D:Int→Option Bool} (H:DpA N m i todo n D) (hi:i<(m:Int)):DpA N m (i+1) todo n D:=⟨by have:=H.lo;omega,by omega,H.td,H.ks,by have:=H.tl;omega,by have:=H.nl;omega⟩
theorem DpA.put {N m n:Nat} {i h x:Int} {todo:List Int} {D:Int→Option Bool} (H:DpA N m i todo n D) (hi:i<(m:Int)) (hh:0≤h∧h<(N:Int)) (hx:0≤x∧x<(N:Int)):DpA N m (i+1) (todo++[x]) (n+1) (fun q=>if q=h then some true else D q):=
 ⟨by have:=H.lo;omega,by omega,H.td.snoc hx,H.ks.put hh,by have:=H.tl;simp only [jt,kf];omega,by have:=H.nl;omega⟩
theorem DpA.done {N m n:Nat} {i:Int} {todo:List Int} {D:Int→Option Bool} (H:DpA N m i todo n D) (hm:m≤2 * N):DpB N n D todo:=by
 have h1:=Qdp N fun i=>!((D (i:Int)).getD false)
 have h2:=H.hi;have h3:=H.tl;have h4:=H.nl
 refine ⟨H.td,H.ks,?_,?_⟩
 ·have:=kz (2 * N+1) h1
  unfold unmF
  omega
 ·unfold unmF;omega
theorem DpB.pop {N n:Nat} {D:Int→Option Bool} {todo:List Int} (H:DpB N n D todo) (h0:(0:Int)<(todo.length:Int)):DpB N n D (todo.take (todo.length-1))∧unmF N D * (2 * N+1)+(todo.take (todo.length-1)).length<unmF N D * (2 * N+1)+todo.length:=by
 have h1:=H.ms
 have h2:(todo.take (todo.length-1)).length=todo.length-1:=by rw [jQ];omega
 exact ⟨⟨H.td.take _,H.ks,by rw [h2];omega,H.nl⟩,by rw [h2];omega⟩
theorem DpB.small {N n:Nat} {D:Int→Option Bool} {todo:List Int} (H:DpB N n D todo) (hN:N≤4096):todo.length≤33566720∧n≤12288:=by
 have h1:=H.ms;have h2:=H.nl
 have h3:N * (2 * N+1)≤4096 * 8193:=Nat.mul_le_mul hN W30
 generalize N * (2 * N+1)=C at h1 h3
 generalize unmF N D * (2 * N+1)=A at h1
 omega
theorem DpB.inner {N n m:Nat} {D:Int→Option Bool} {todo:List Int} (H:DpB N n D todo) (h0:(0:Int)<(todo.length:Int)):DpD N m todo.length 0 (todo.take (todo.length-1)):=⟨jz _,by omega,H.td.take _,by rw [jQ];omega⟩
theorem DpD.skip {N m k:Nat} {i:Int} {todo:List Int} (H:DpD N m k i todo) (hi:i<(m:Int)):DpD N m k (i+1) todo:=⟨by have:=H.lo;omega,by omega,H.td,by have:=H.tl;omega⟩
theorem DpD.put {N m k:Nat} {i x:Int} {todo:List Int} (H:DpD N m k i todo) (hi:i<(m:Int)) (hx:0≤x∧x<(N:Int)):DpD N m k (i+1) (todo++[x]):=⟨by have:=H.lo;omega,by omega,H.td.snoc hx,by have:=H.tl;simp only [jt,kf];omega⟩
theorem DpD.done {N n m:Nat} {i q:Int} {D:Int→Option Bool} {todo t2:List Int} (H:DpB N n D todo) (h:DpD N m todo.length i t2) (hm:m≤2 * N) (hq:0≤q∧q<(N:Int)) (hd:(D q).getD false=false) :
 DpB N (n+1) (fun a=>if a=q then some true else D a) t2∧unmF N (fun a=>if a=q then some true else D a) * (2 * N+1)+t2.length<unmF N D * (2 * N+1)+todo.length:=by
 have h1:=Qk6 hq.1 hq.2 hd
 have h2:=h.tl;have h3:=h.hi;have h4:=H.ms;have h5:=H.nl
 generalize hu:unmF N (fun a=>if a=q then some true else D a)=u at h1 ⊢
 have h6:unmF N D * (2 * N+1)=u * (2 * N+1)+(2 * N+1):=by rw [← h1,Nat.add_mul,Nat.one_mul]
 generalize unmF N D * (2 * N+1)=A at h4 h6 ⊢
 have h7:u * (2 * N+1)+t2.length<A+todo.length:=by
  generalize u * (2 * N+1)=B at h6 ⊢
  omega
 refine ⟨⟨h.td,H.ks.put hq,?_,by omega⟩,h7⟩
 generalize N * (2 * N+1)=C at h4 ⊢
 have h8:unmF N (fun a=>if a=q then some true else D a) * (2 * N+1)+t2.length<A+todo.length:=by
  rw [hu];exact h7
 omega
theorem DpE.start {N:Nat} {h:Int} {out:List Int} (H:DpO N h out) (hN:N≤4096) (L:Int→Bool):DpE N h out L:=⟨H.len,fun i hi=>by
 have h1:=H.val i hi
 have h2:=Qdp N fun i=>L (i:Int)
 unfold lftF
 omega⟩
theorem DpE.put {N:Nat} {h q:Int} {out:List Int} {L:Int→Bool} (H:DpE N h out L) (hq:0≤q∧q<(N:Int)) (hL:L q=true):DpE N h (out.set q.toNat (out.getD q.toNat 0+1)) (fun a=>L a&&!decide (a=q)):=by
 have h1:=Qk7 hq.1 hq.2 hL
 have hl:=H.len
 refine ⟨by rw [jF];exact H.len,fun i hi=>?_⟩
 rw [Qn _ _ _ _ _ W30]
 have h2:=H.val i hi
 split
 ·rename_i e;subst e;omega
 ·omega
theorem DpE.done {N:Nat} {h:Int} {out:List Int} {L:Int→Bool} (H:DpE N h out L) (h0:0≤h) (hl:h<(N:Int)):DpO N (h+1) out:=⟨by omega,by omega,H.len,fun i hi=>by have:=H.val i hi;omega⟩
theorem Q72 {l:List Nod} (hq:∀ i:Nat,i<l.length→∀ x∈flwL (l.getD i ua),0≤x∧x<(l.length:Int)) {k:Nat} {x:Int} (h0:0≤x) (h:x<(((aheadL l).getD k ua).l.length:Int)):0≤((aheadL l).getD k ua).l.getD x.toNat 0∧((aheadL l).getD k ua).l.getD x.toNat 0<(l.length:Int):=by
 have z:=(G8 hq k _).1 (Y3 h h0)
 exact ⟨z.1,z.2.1⟩
end Go.Proofs.YtnddggenhefaeaaGreatDoor
end
