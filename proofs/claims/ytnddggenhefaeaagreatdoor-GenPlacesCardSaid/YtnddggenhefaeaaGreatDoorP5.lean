/-
  A part of the proof. Text 5 of 9: SpecLj SpecLw DataG SpecFt SpecRg SpecRi SpecLk SpecDl SpecDs SpecSa SpecFa SpecMe SpecGn SpecGo SpecAl SpecCo SpecMa SpecCe Leaf Leaf2 Leaf3 Leaf4 Leaf74 Leaf75 SpecX SpecB SpecC SpecY SpecM SpecR SpecP SpecQ Leaf76 Leaf40 Leaf70 Leaf77 Leaf71 Leaf72 Leaf78 SpecR6.
-/
import Derived.Test.YtnddggenhefaeaaGreatDoorP4
import Derived.Test.YtnddggenhefaeaaGreatDoorP1
import Derived.Test.YtnddggenhefaeaaGreatDoorP3
set_option linter.unusedSimpArgs false
set_option linter.unusedVariables false
set_option maxHeartbeats 4000000
set_option maxHeartbeats 1000000
set_option linter.unusedSectionVars false
open List renaming take_succ_eq_append_getElem→jM,mem_append→kH,mem_singleton→jH,mem_cons_self→ke,mem_cons_of_mem→jW,getElem?_map→jm,getElem?_range→ko,getElem?_eq_none→jY,replicate→jh,getElem?_replicate→jX,range→jB,getD_eq_getElem?_getD→jc,length_replicate→jI,length_append→jt,not_mem_nil→kq,take_of_length_le→j7,getElem?_eq_getElem→jd,length_set→jF,length_take→jQ,getElem_mem→jN,range_succ→kw,map_append→kG,length_map→jP,drop_eq_getElem_cons→ki,drop_eq_nil_of_le→j8,length_cons→j6,length_singleton→kf,getElem?_append_left→jp,getElem?_append_right→jA,append_assoc→jV,append_nil→jZ,getElem?_set_ne→jE,mem_cons→kD,take→jR
open Nat renaming le_refl→jn,zero_le→j9,le_trans→kr
open Bool renaming true_and→kJ,and_eq_true→ji,not_eq_true'→jJ,or_eq_false_iff→jT,not_eq_false'→kI,or_eq_true→jK
open Go.Value renaming int→jg,slice→je,bool→jS,string→jC
open Go.IntKind renaming i64→ja,u32→jv,u8→jx
open Go.Proofs.Tryz renaming prog→jb
open Int renaming toNat_of_nonneg→kp,le_refl→jz
open And renaming intro→jl
open Option renaming getD_some→kA
open Go.BinOp renaming or→kK,and→km
open Inhabited renaming default→ua
namespace Go
theorem W0{p:Prop}(h:p:=by (try simp only [Conj])<;>(repeat' apply And.intro)<;>first | trivial | exact Y6 _ _ | exact List.length_set | exact Qgp _ _ _ | ((first | rw [Qox hJ1.x0 h3] | rw [Qoy hJ1.x0 h3] | rw [Qjj hJ1.x0 h3] | rw [Qjk hJ1.x0 h3]);first | done | (intros;rfl)) | (unfold nodC gmA;rw [Qml (by assumption)];first | done | (intros;rfl)) | (unfold nodC gmA;rw [Qmm (by assumption)];first | done | (intros;rfl)) | (unfold nodC gmA;rw [Qmn (by assumption)];first | done | (intros;rfl)) | (unfold nodC gmA;rw [Qmo (by assumption)];first | done | (intros;rfl)) | (unfold nodC gmA;rw [Qdb (by assumption)];first | done | (intros;rfl)) | (unfold nodC gmA;rw [Qmp (by assumption)];first | done | (intros;rfl)) | (unfold nodC gmA;rw [Qmq (by assumption)];first | done | (intros;rfl)) | (unfold nodC gmA;rw [Qmr (by assumption)];first | done | (intros;rfl)) | (unfold nodC gmA;rw [Qdc (by assumption)];first | done | (intros;rfl)) | (rw [Qov (by assumption)];exact MpEq.mk' (Nat.le_refl _) (fun _=>rfl) (fun _=>rfl)) | (rw [Qgn (by omega)];exact MpEq.mk' (by omega) (fun _=>rfl) (fun _=>rfl)) | exact MpEq.mk' (Nat.le_refl _) (fun _=>rfl) (fun _=>rfl) | (intro i q1 q2;simp at q1;omega) | (intro i h1 h2;rw [Yb h1 h2]) | (rw [Qw];rfl)):p:=h
theorem W10{p:Prop}(h:p:=by (try simp only [Conj])<;>(repeat' apply And.intro)<;>first | trivial | exact Y6 _ _ | exact List.length_set | exact List.length_replicate | (intro i q;exact Qat _ _ rfl i (by simpa using q)) | (intro i q;exact Qct _ _ _ i q) | exact MpEq.put (D:=fun _=>none) (Nat.le_refl _) | exact MpEq.put (Nat.le_refl _) | (intro i q1 q2;simp at q1;omega) | exact Qic _ _ _ _ _ | (exact Qid _ _ _ (by omega)) | (refine MpEq.mk' (by omega) ?_ ?_<;>intro q<;>rfl) | (intro i h1 h2;rw [Yb h1 h2]) | (rw [Qw];rfl)):p:=h
theorem W18{p:Prop}(h:p:=by simp only [Conj,Fits,Q7,Q8,Q9,Qa,News.len,maxLen]<;>(repeat' (first | apply And.intro | intro _))<;>first | exact Qf0 | exact W234 | exact W233 | grind):p:=h
theorem W20{p:Prop}(h:p:=by (try simp only [Conj])<;>(repeat' apply And.intro)<;>first | trivial | exact Y6 _ _ | (refine MpEq.mk' (by omega) ?_ ?_<;>intro q<;>rfl) | (intro i h1 h2;rw [Yb h1 h2]) | (rw [Qw];rfl)):p:=h
theorem W28{p:Prop}(h:p:=by simp only [Conj,Fits,Q7,Q8,Q9,Qa,News.len,maxLen]<;>(repeat' (first | apply And.intro | intro _))<;>grind):p:=h
theorem W47{p:Prop}(h:p:=by simp only [Conj]<;>(repeat' apply And.intro)<;>first | rfl | (exact Q0g (0:Int) (fun n=>[.val (.int .i64 n)]) _ _ _ (by kernel_rfl)) | (intro i h1 h2;exact absurd h1 (by simp;omega))):p:=h
theorem W48{p:Prop}(h:p:=by simp only [Conj];(repeat' apply And.intro)<;>(exact Eq.symm (by assumption))):p:=h
theorem W49{p:Prop}(h:p:=by simp only [Conj];first | exact Q6t h1 | (rw [J5 h1,hJ2.2.2.2];exact Qih W242 h4) | (rw [J5 h1,hJ4.2.2.2];exact Qij (by have q:=of_decide_eq_true h5;omega) h6) | (rw [J5 h1,hJ6.2.2.2];exact Qil (by have q:=of_decide_eq_true h7;omega) h8) | (rw [J5 h1,hJ6.2.2.2,List.drop_eq_nil_of_le (by have q:=of_decide_eq_false h7;omega)];rfl)):p:=h
theorem W52{p:Prop}(h:p:=by simp only [Conj];first | (rw [CJ.first h1];exact ⟨rfl,rfl,rfl⟩) | (rw [hJ2.bad (of_decide_eq_true h3) h4];exact ⟨rfl,rfl,rfl⟩) | (rw [hJ2.nods (of_decide_eq_true h3) h4 (hJ5.bad (of_decide_eq_true h6) h7)];exact ⟨rfl,rfl,rfl⟩) | (rw [hJ2.held (of_decide_eq_true h3) h4 (hJ5.done (of_decide_eq_false h6)) h7];exact ⟨rfl,rfl,rfl⟩) | (rw [hJ2.done (of_decide_eq_false h3)];exact ⟨rfl,rfl,rfl⟩)):p:=h
theorem W55{p:Prop}(h:p:=by show nowH _ _=some _;first | exact Q8u h3 | exact Qav h3 h4 h5 | exact Q0i h3 h4 (fun q=>by have q1:=of_decide_eq_false h6;have q2:=q.2;omega) | exact Q0i h3 h4 (fun q=>(of_decide_eq_false h5) q.1)):p:=h
theorem W56{p:Prop}(h:p:=by first | assumption | omega | exact Qqe (hJ1.short (of_decide_eq_true h2)) hJ1.kn hN.2 | exact Qo9 hJ3.nl hJ3.kn hN.2 | exact hJ3.is (hJ3.to_ (of_decide_eq_true h4) (hq _ W229))):p:=h
theorem W61{p:Prop}(h:p:=by simp only [Conj,Fits,Q7,Q8,Q9,Qa,News.len,maxLen]<;>(repeat' apply And.intro)<;>first | (have q0:=hJ2.t0;have q1:=of_decide_eq_true h3;simp only [BL] at *;omega) | (have q0:=hJ5.i0;have q1:=of_decide_eq_true h6;have q2:=(Q1i h4).2;simp only [BL] at *;omega) | grind):p:=h
theorem W79{p:Prop}(h:p:=by simp only [Conj,nameB,byteAt,Int.toNat_zero] at *<;>first | (have hs:=Q28 s ue hA (by grind);simp only [byteAt] at *;grind) | (have he:=Qfy s ue (by grind);grind) | grind):p:=h
theorem W80{p:Prop}(h:p:=by simp only [Conj];(try subst hs1);first | (simp [prtN, *];done) | (exact Qif hs1 h2) | (exact Qig hs1 h2)):p:=h
theorem W81{p:Prop}(h:p:=by first | decide | simp):p:=h
theorem W82{p:Prop}(h:p:=by simp only [Conj];first | exact hJ1.fault (of_decide_eq_true h2) (Q7t h3 h4 h5) | exact hJ1.fault (of_decide_eq_true h2) (Q5h h3 h4 h5 h6) | exact hJ1.done (of_decide_eq_false h2) | exact hJ3.fault (of_decide_eq_true h4) (hq _ W229) h5 h6):p:=h
theorem W84{p:Prop}(h:p:=by simp only [Conj,Fits,Q7,Q8,Q9,Qa,News.len,maxLen]<;>(repeat' apply And.intro)<;>first | exact Qgx | grind):p:=h
theorem W87{p:Prop}(h:p:=by first | assumption | exact (hw _ _).1 | exact (hw _ _).2 | exact Qg2 (hJ5.done (of_decide_eq_false h6)) (fun j=>(hw _ j).1) | exact (Q1i h4).2):p:=h
theorem W96{p:Prop}(h:p:=by first | exact hJ3.put (of_decide_eq_true h4) (hq _ W229) h5 hInX9 hTabX9 | exact hJ3.skip (of_decide_eq_true h4) (hq _ W229) h5 h6):p:=h
theorem W97{p:Prop}(h:p:=by simp only [Conj,wordB] at *<;>grind):p:=h
theorem W108{p:Prop}(h:p:=by simp only [Conj];first | exact Q80 (by simp at h1;omega) | exact Q5r hJ2.2.2.1 hJ2.2.2.2 h3 | exact Q81 (by show ¬ ((rd X (.slice A nn cc)).getD ue.toNat 0=now.getD ue.toNat 0);simpa only [Bool.not_eq_true',decide_eq_false_iff_not] using h4)):p:=h
theorem W122{p:Prop}(h:p:=by first | assumption | exact hs _ | exact hl _ | exact hg _ | (have hm:=Q0h h1;simp only [maxLen];omega)):p:=h
theorem W139{p:Prop}(h:p:=by simp only [Conj,Fits,Q7,Q8,Q9,Qa];grind):p:=h
theorem W171{p:Prop}(h:p:=by simp only [Conj,valueP,usesB] at *;first | (obtain ⟨a,b,c⟩:=v;simp_all;done) | grind):p:=h
theorem W172{p:Prop}(h:p:=by simp only [Conj];first | exact Q6s h1 | exact Qfz h1 h2 | exact Qg0 h1 h2):p:=h
theorem W192{p:Prop}(h:p:=by simp only [Conj];(repeat' apply And.intro)<;>first | omega | (exact hn1 h2) | (intros;simp)):p:=h
theorem W204{p:Prop}(h:p:=by dsimp only [vg];exact W244):p:=h
theorem W217{p:Prop}(h:p:=by rw [Qc (show m<l.length by omega)];exact List.getElem_mem _):p:=h
theorem W229{p:Prop}(h:p:=by have q:=hJ1.at_ (of_decide_eq_true h2);omega):p:=h
theorem W233{p:Prop}(h:p:=by have a2:=hJ3.most;have a3:=hJ3.len;have a4:=hJ3.i0;have a5:=hJ3.il;have a7:=Yz (g.nodes.getD (uh.getD ud.toNat 0).toNat default);have a6:=hJ3.cnt;have q:=of_decide_eq_true h4;have a1:=hJ3.to_ q (hq _ W229);exact W238):p:=h
theorem W234{p:Prop}(h:p:=by have q:=of_decide_eq_true h2;have a1:=hJ1.at_ q;have a2:=hJ1.most;have a3:=hJ1.len;have a4:=hJ1.k0;have a5:=hJ1.kn;have a6:=hJ1.short q;exact W238):p:=h
theorem W236{p:Prop}(h:p:=by (try simp only [decide_eq_true_eq] at *);omega):p:=h
theorem W238{p:Prop}(h:p:=by (try simp only [maxLen] at *);simp only [BL] at *;omega):p:=h
theorem W240{p:Prop}(h:p:=by have q:=of_decide_eq_true h2;have q1:=hJ1.most;have q2:=hJ1.k0;omega):p:=h
theorem W242{p:Prop}(h:p:=by have q:=of_decide_eq_true h3;omega):p:=h
theorem W244{p:Prop}(h:p:=by have q:=of_decide_eq_true h4;have q2:=hJ3.i0;omega):p:=h
end Go
noncomputable section
namespace Go.Proofs.YtnddggenhefaeaaGreatDoor
open Go Go.Tx
theorem Qen {W:WW} (h:∀ i,OkW (W i)) (l:List Int):∀ m,OkW (joF W l m)
 | 0=>OkW.zero
 | m+1=>Qlw (Qen h l m) (h _) 65
theorem Qga {W:WW} (h:∀ i,OkW (W i)) (l:List Int) {s:Nat} (hs:s<4160):∀ m,m≤l.length→memW (joF W l m) s=(l.take m).any fun k=>memW (W k.toNat) s
 | 0,_=>by simp [joF,memW]
 | m+1,hm=>by
   rw [joF,Qiy (Qen h l m) (h _) hs,Qga h l hs m W30,jM W30,List.any_append,Qc (show m<l.length by omega)]
   simp
theorem Q9p {W:WW} (h:∀ i,OkW (W i)) (l:List Nod) (i:Nat):OkW (beF l W i):=Qen h _ _
theorem Qoj {W:WW} (h:∀ i,OkW (W i)) (l:List Nod) (i:Nat) {s:Nat} (hs:s<4160):memW (beF l W i) s=(flrL (l.getD i ua)).any fun k=>memW (W k.toNat) s:=by
 unfold beF;rw [Qga h _ hs _ (jn _),List.take_length]
theorem Qeo {w:Nat→Int} (h:OkW w) (l:List Int) (hl:∀ x∈l,0≤x):∀ m,m≤l.length→OkW (adF l w m)
 | 0,_=>h
 | m+1,hm=>by
   rw [adF]
   exact Qoi (Qeo h l hl m W30) (hl _ W217)
theorem Qgb {w:Nat→Int} (h:OkW w) (l:List Int) (hl:∀ x∈l,0≤x) (s:Nat):∀ m,m≤l.length→memW (adF l w m) s=(decide ((s:Int)∈l.take m)||memW w s)
 | 0,_=>by simp [adF]
 | m+1,hm=>by
   rw [adF,Qlx (Qeo h l hl m W30) (hl _ W217),Qgb h l hl s m W30,jM W30,Qc (show m<l.length by omega)]
   simp only [kH,jH]
   by_cases e:(s:Int)=l[m]
   ·simp [e]
   ·simp [e]
def SlH (l:List Nod):Prop:=∀ i:Nat,i<l.length→(∀ k∈useL (l.getD i ua),0≤k∧k<4160)∧(dfB (l.getD i ua)=true→0≤(l.getD i ua).slot∧(l.getD i ua).slot<4160)
theorem Qkx {w:Nat→Int} (h:OkW w) {l:List Nod} (hS:SlH l) {i:Nat} (hi:i<l.length):OkW (dfF (l.getD i ua) w):=by
 unfold dfF;split
 ·rename_i e;exact Qly h ((hS i hi).2 e).1
 ·exact h
theorem Qky {W:WW} (h:∀ i,OkW (W i)) {l:List Nod} (hS:SlH l) {i:Nat} (hi:i<l.length):OkW (ahF l W i):=
 Qeo (Qkx (Q9p h l i) hS hi) _ (fun x hx=>((hS i hi).1 x hx).1) _ (jn _)
theorem Qok {W:WW} (h:∀ i,OkW (W i)) {l:List Nod} (hS:SlH l) {i:Nat} (hi:i<l.length) (s:Nat) :
 memW (ahF l W i) s=(decide ((s:Int)∈useL (l.getD i ua))||(!(dfB (l.getD i ua)&&decide ((l.getD i ua).slot=(s:Int)))&&memW (beF l W i) s)):=by
 unfold ahF
 rw [Qgb (Qkx (Q9p h l i) hS hi) _ (fun x hx=>((hS i hi).1 x hx).1) s _ (jn _),List.take_length]
 congr 1
 unfold dfF
 split
 ·rename_i e
  rw [Qiz (Q9p h l i) ((hS i hi).2 e).1,e,Bool.and_comm]
  congr 1
  simp only [kJ]
  congr 1
  exact decide_eq_decide.2 ⟨fun h=>h.symm,fun h=>h.symm⟩
 ·rename_i e
  have e2:dfB (l.getD i ua)=false:=by simpa using e
  rw [e2];simp
noncomputable def lvG (l:List Nod):Go.Lv.Gr:=⟨l.length,4160,fun i=>decide (i<l.length)&&((rchL l).getD i ua).b,fun i s=>decide ((s:Int)∈useL (l.getD i ua)),fun i s=>dfB (l.getD i ua)&&decide ((l.getD i ua).slot=(s:Int)),fun i=>(flrL (l.getD i ua)).map Int.toNat⟩
def setsF (n:Nat) (W:WW):Go.Lv.Sets:=fun i s=>decide (i<n)&&decide (s<4160)&&memW (W i) s
theorem Q2f {α:Type} {p q:α→Bool}:∀ {l:List α},(∀ x∈l,p x=q x)→l.any p=l.any q
 | [],_=>rfl
 | x::r,h=>by rw [List.any_cons,List.any_cons,h x ke,Q2f fun y hy=>h y (jW _ hy)]
section
variable {l:List Nod} (hq:∀ i:Nat,i<l.length→∀ x∈flwL (l.getD i ua),0≤x∧x<(l.length:Int)) (hS:SlH l) {W V W0:WW}
theorem Qd3 (hq:∀ i:Nat,i<l.length→∀ x∈flwL (l.getD i ua),0≤x∧x<(l.length:Int)) (h:∀ i,OkW (W i)) {i s:Nat} (hi:i<l.length):Go.Lv.behind (lvG l) (setsF l.length W) i s=(decide (s<4160)&&memW (beF l W i) s):=by
 unfold Go.Lv.behind
 show ((flrL (l.getD i ua)).map Int.toNat).any _=_
 rw [List.any_map]
 by_cases hs:s<4160
 ·rw [Qoj h l i hs,decide_eq_true hs,kJ]
  refine Q2f ?_
  intro k hk
  have z:=hq i hi k ((Q1j _ _).1 hk)
  show (decide (k.toNat<l.length)&&decide (s<4160)&&memW (W k.toNat) s)=_
  rw [decide_eq_true (show k.toNat<l.length by omega),decide_eq_true hs];rfl
 ·rw [decide_eq_false hs,Bool.false_and]
  refine List.any_eq_false.2 fun k hk=>?_
  show ¬ (decide (k.toNat<l.length)&&decide (s<4160)&&memW (W k.toNat) s)=true
  rw [decide_eq_false hs];simp
theorem Q7x (hq:∀ i:Nat,i<l.length→∀ x∈flwL (l.getD i ua),0≤x∧x<(l.length:Int)) (hS:SlH l) (h:∀ i,OkW (W i)) {i s:Nat} (hi:i<l.length):Go.Lv.ahead (lvG l) (setsF l.length W) i s=(decide (s<4160)&&memW (ahF l W i) s):=by
 unfold Go.Lv.ahead
 rw [Qd3 hq h hi,Qok h hS hi]
 show (decide ((s:Int)∈useL (l.getD i ua))||(!(dfB (l.getD i ua)&&decide ((l.getD i ua).slot=(s:Int)))&&(decide (s<4160)&&memW (beF l W i) s)))=_
 by_cases hs:s<4160
 ·simp [hs]
 ·have h1:¬ (s:Int)∈useL (l.getD i ua):=fun hm=>by have:=(hS i hi).1 _ hm;omega
  rw [decide_eq_false h1,decide_eq_false hs];simp
theorem Qj1 (hq:∀ i:Nat,i<l.length→∀ x∈flwL (l.getD i ua),0≤x∧x<(l.length:Int)) (hS:SlH l) (h:∀ i,OkW (W i)) {i:Nat} (hi:i<l.length):setsF l.length (putW W i (ahF l W i))=Go.Lv.put (setsF l.length W) i (Go.Lv.ahead (lvG l) (setsF l.length W) i):=by
 funext k s
 unfold Go.Lv.put
 by_cases e:k=i
 ·subst e
  rw [if_pos rfl,Q7x hq hS h hi]
  unfold setsF putW
  rw [if_pos rfl,decide_eq_true hi,kJ]
 ·rw [if_neg e]
  unfold setsF putW
  rw [if_neg e]
structure LvW (l:List Nod) (W:WW):Prop where
 ok:∀ i,OkW (W i)
 inv:Go.Lv.Inv (lvG l) (setsF l.length W)
def LvFix (l:List Nod) (W V:WW) (lo:Nat):Prop:=∀ k,lo≤k→k<l.length→((rchL l).getD k ua).b=true→(∀ s,s<4160→memW (ahF l W k) s=memW (W k) s)∧V k=beF l W k
noncomputable def lvM (l:List Nod) (W:WW):Nat:=Go.Lv.miss 4160 (setsF l.length W) l.length
structure LvS (l:List Nod) (W0:WW) (i:Int) (ag:Bool) (W V:WW):Prop where
 lo:-1≤i
 hi:i<(l.length:Int)
 w:LvW l W
 le:lvM l W≤lvM l W0
 no:ag=false→W=W0∧LvFix l W V (i+1).toNat
 yes:ag=true→lvM l W<lvM l W0
theorem LvW.start (l:List Nod):LvW l (fun _ _=>0):=⟨fun _=>OkW.zero,by
 have:setsF l.length (fun _ _=>0)=fun _ _=>false:=by funext i s;simp [setsF,memW]
 rw [this];exact .none _⟩
theorem LvS.start (h:LvW l W) (V:WW):LvS l W ((l.length:Int)-1) false W V:=⟨by omega,by omega,h,jn _,fun _=>⟨rfl,fun k h1 h2=>absurd h2 W30⟩,fun h=>absurd h W162⟩
theorem LvS.skip {i:Int} {ag:Bool} (h:LvS l W0 i ag W V) (h0:0≤i) (hr:((rchL l).getD i.toNat ua).b=false):LvS l W0 (i-1) ag W V:=by
 refine ⟨by omega,by have:=h.hi;omega,h.w,h.le,fun hg=>⟨(h.no hg).1,fun k h1 h2 h3=>?_⟩,h.yes⟩
 by_cases e:k=i.toNat
 ·subst e;rw [hr] at h3;cases h3
 ·exact (h.no hg).2 k W30 h2 h3
theorem LvS.same {i:Int} {ag:Bool} (h:LvS l W0 i ag W V) (h0:0≤i) (e:∀ j,j<65→ahF l W i.toNat j=W i.toNat j):LvS l W0 (i-1) ag W (putW V i.toNat (beF l W i.toNat)):=by
 refine ⟨by omega,by have:=h.hi;omega,h.w,h.le,fun hg=>⟨(h.no hg).1,fun k h1 h2 h3=>?_⟩,h.yes⟩
 by_cases e2:k=i.toNat
 ·subst e2
  exact ⟨fun s hs=>Qj0 e hs,by unfold putW;rw [if_pos rfl]⟩
 ·have z:=(h.no hg).2 k W30 h2 h3
  exact ⟨z.1,by unfold putW;rw [if_neg e2];exact z.2⟩
theorem LvS.diff (hq:∀ i:Nat,i<l.length→∀ x∈flwL (l.getD i ua),0≤x∧x<(l.length:Int)) (hS:SlH l) {i:Int} {ag:Bool} (h:LvS l W0 i ag W V) (h0:0≤i) (hr:((rchL l).getD i.toNat ua).b=true) (e:¬ ∀ j,j<65→ahF l W i.toNat j=W i.toNat j) (V':WW):LvS l W0 (i-1) true (putW W i.toNat (ahF l W i.toNat)) V':=by
 have hi:=h.hi
 have hin:i.toNat<l.length:=by omega
 have hre:(lvG l).re i.toNat=true:=by show (decide (i.toNat<l.length)&&_)=true;rw [decide_eq_true hin,hr];rfl
 have hp:=Qj1 hq hS h.w.ok hin
 have hw:LvW l (putW W i.toNat (ahF l W i.toNat)):=⟨fun k=>by unfold putW;split;exact Qky h.w.ok hS hin;exact h.w.ok k,by rw [hp];exact h.w.inv.put_ hre⟩
 have hlt:lvM l (putW W i.toNat (ahF l W i.toNat))<lvM l W:=by
  unfold lvM
  rw [hp]
  obtain ⟨s,hs,hne⟩:∃ s,s<4160∧memW (ahF l W i.toNat) s≠memW (W i.toNat) s:=by
   refine Classical.byContradiction fun hn=>e (Qlz (Qky h.w.ok hS hin) (h.w.ok _) fun s hs=>?_)
   exact Classical.byContradiction fun hne=>hn ⟨s,hs,hne⟩
  refine h.w.inv.fewer hin hs ?_
  rw [Q7x hq hS h.w.ok hin]
  unfold setsF
  rw [decide_eq_true hs,decide_eq_true hin]
  simpa using hne
 refine ⟨by omega,by omega,hw,by have:=h.le;omega,fun hg=>absurd hg W162,fun _=>by have:=h.le;omega⟩
theorem LvS.done {i:Int} {ag:Bool} (h:LvS l W0 i ag W V) (h0:¬ 0≤i):LvW l W∧(ag=false→LvFix l W V 0)∧(if ag=true then 1+lvM l W else 0)<1+lvM l W0:=by
 refine ⟨h.w,fun hg=>?_,?_⟩
 ·have z:=(h.no hg).2
  rwa [show (i+1).toNat=0 by omega] at z
 ·split
  ·rename_i e;have:=h.yes e;omega
  ·omega
open Classical in
noncomputable def liveS (l:List Nod):Go.Lv.Sets:=fun i s=>decide (Go.Lv.Live (lvG l) i s)
def LvQ (l:List Nod) (W V:WW):Prop:=∀ i,i<l.length→((rchL l).getD i ua).b=true→OkW (V i)∧∀ s,s<4160→memW (V i) s=Go.Lv.behind (lvG l) (liveS l) i s
theorem LvW.fin (hq:∀ i:Nat,i<l.length→∀ x∈flwL (l.getD i ua),0≤x∧x<(l.length:Int)) (hS:SlH l) (h:LvW l W) (hf:LvFix l W V 0):LvQ l W V:=by
 have hd:∀ i s,setsF l.length W i s=true↔Go.Lv.Live (lvG l) i s:=fun i s=>h.inv.done (fun k hk t=>by
  have hk2:(decide (k<l.length)&&((rchL l).getD k ua).b)=true:=hk
  rw [ji] at hk2
  have hkn:=ub hk2.1
  rw [Q7x hq hS h.ok hkn]
  unfold setsF
  rw [decide_eq_true hkn,kJ]
  by_cases ht:t<4160
  ·rw [((hf k (j9 _) hkn hk2.2).1 t ht)]
  ·rw [decide_eq_false ht];rfl) i s
 have he:setsF l.length W=liveS l:=by
  funext i s
  show _=@decide _ (Classical.propDecidable _)
  cases e:setsF l.length W i s with
  | true=>exact (@decide_eq_true _ (Classical.propDecidable _) ((hd i s).1 e)).symm
  | false=>exact (@decide_eq_false _ (Classical.propDecidable _) (fun t=>by rw [(hd i s).2 t] at e;cases e)).symm
 intro i hi hr
 have z:=(hf i (j9 _) hi hr).2
 rw [z]
 refine ⟨Q9p h.ok l i,fun s hs=>?_⟩
 rw [← he,Qd3 hq h.ok hi,decide_eq_true hs,kJ]
end
theorem Q6x (w:Nat→Int) {j:Nat} (h:j<65):wsT w j=TC.val (jg .u64 (w j)):=by
 unfold wsT nthT
 rw [Ql,jm,ko h];rfl
theorem Qb8 (w:Nat→Int) {j:Nat} (h:¬ j<65):wsT w j=TC.any:=by
 unfold wsT nthT
 rw [Ql,jY W138]
theorem Qj2 (j:Nat):wsT (fun _=>0) j=valT (jh 65 (jg .u64 0)) j:=by
 unfold valT
 rw [Q0y]
 by_cases h:j<65
 ·rw [Q6x _ h,jX,if_pos h]
 ·rw [Qb8 _ h,jX,if_neg h]
theorem Qol (V:WW) (k:Nat) (w:Nat→Int) (i:Nat):wsT (putW V k w i)=updT (fun i=>wsT (V i)) k 0 ((jB 65).map fun j=>jg .u64 (w j)) i:=by
 funext j
 unfold updT putW
 by_cases e:i=k
 ·subst e
  rw [if_pos rfl]
  by_cases hj:j<65
  ·rw [if_pos ⟨rfl,j9 _,by simpa using hj⟩,Q6x _ hj,Nat.sub_zero,jc,jm,ko hj];rfl
  ·rw [if_neg W138,Qb8 _ hj];exact (Qb8 _ hj).symm
 ·rw [if_neg e,if_neg (by simp [e])]
def all65 (p:Nat→Bool):Nat→Nat→Bool
 | 0,_=>true
 | n+1,k=>p k&&all65 p n (k+1)
theorem Q2g (p:Nat→Bool):∀ (n k:Nat),all65 p n k=true↔∀ j,k≤j→j<k+n→p j=true
 | 0,k=>⟨fun _ j h1 h2=>absurd h2 W30,fun _=>rfl⟩
 | n+1,k=>by
   unfold all65
   rw [ji,Q2g p n (k+1)]
   constructor
   ·rintro ⟨h1,h2⟩ j h3 h4
    by_cases e:j=k
    ·subst e;exact h1
    ·exact h2 j W30 W30
   ·intro h
    exact ⟨h k (jn _) W30,fun j h1 h2=>h j W30 W30⟩
theorem Qm0 {W:WW} {l:List Int} {x:Int} (h:0≤x) (j:Nat):joF W l (x+1).toNat j=joinW (joF W l x.toNat) (W (l.getD x.toNat 0).toNat) 65 j:=by
 rw [show (x+1).toNat=x.toNat+1 by omega];rfl
theorem Qm1 {w:Nat→Int} {l:List Int} {x:Int} (h:0≤x) (j:Nat):adF l w (x+1).toNat j=addW (adF l w x.toNat) (l.getD x.toNat 0) j:=by
 rw [show (x+1).toNat=x.toNat+1 by omega];rfl
theorem Qgc {l:List Nod} {W:WW} {i:Nat} {x:Int} (h:x≤((flrL (l.getD i ua)).length:Int)) (h2:¬ x<((flrL (l.getD i ua)).length:Int)):joF W (flrL (l.getD i ua)) x.toNat=beF l W i:=by
 rw [show x.toNat=(flrL (l.getD i ua)).length by omega];rfl
theorem Qb9 {l:List Nod} {W:WW} {i:Nat} {x:Int} (h:x≤((useL (l.getD i ua)).length:Int)) (h2:¬ x<((useL (l.getD i ua)).length:Int)):adF (useL (l.getD i ua)) (dfF (l.getD i ua) (beF l W i)) x.toNat=ahF l W i:=by
 rw [show x.toNat=(useL (l.getD i ua)).length by omega];rfl
def clB (l:List Nod) (R:List Bo) (V:WW) (a b:Int) (i:Nat):Bool:=(R.getD i ua).b&&dfB (l.getD i ua)&&(decide ((l.getD i ua).slot=a)&&hasW (V i) b||decide ((l.getD i ua).slot=b)&&hasW (V i) a)
noncomputable def clF (l:List Nod) (V:WW) (a b:Int):Bool:=!decide (a=b)&&(jB l.length).any (clB l (rchL l) V a b)
theorem Qom {l:List Nod} {V:WW} {a b:Int} (h:decide (a=b)=true):clF l V a b=false:=by unfold clF;rw [h];rfl
theorem Qj3 {l:List Nod} {V:WW} {a b x:Int} (h:decide (a=b)=false) (h0:0≤x) (hx:x<(l.length:Int)) (hc:clB l (rchL l) V a b x.toNat=true):clF l V a b=true:=by
 unfold clF
 rw [h,Bool.not_false,kJ]
 exact List.any_eq_true.2 ⟨x.toNat,List.mem_range.2 W30,hc⟩
theorem Qgd {l:List Nod} {V:WW} {a b x:Int} (hx:¬ x<(l.length:Int)) (hc:∀ k,k<x.toNat→clB l (rchL l) V a b k=false):clF l V a b=false:=by
 unfold clF
 rw [List.any_eq_false.2 (fun k hk=>by rw [hc k (by have:=List.mem_range.1 hk;omega)];decide),Bool.and_false]
theorem Qd4 {P:Nat→Bool} {x:Int} (h0:0≤x) (h:∀ k,k<x.toNat→P k=false) (hx:P x.toNat=false):∀ k,k<(x+1).toNat→P k=false:=fun k hk=>by
 by_cases e:k=x.toNat
 ·subst e;exact hx
 ·exact h k W30
theorem Qj4 {l:List Nod} {V:WW} {s x:Int} {L:List Int} (h0:0≤x) (hx:x<(L.length:Int)) (hc:clF l V s (L.getD x.toNat 0)=true):(L.any fun k=>clF l V s k)=true:=
 List.any_eq_true.2 ⟨_,Y3 hx h0,hc⟩
theorem Qge {l:List Nod} {V:WW} {s x:Int} {L:List Int} (hx:¬ x<(L.length:Int)) (hc:∀ k,k<x.toNat→clF l V s (L.getD k 0)=false):(L.any fun k=>clF l V s k)=false:=
 List.any_eq_false.2 fun k hk=>by
  obtain ⟨i,hi,rfl⟩:=List.mem_iff_getElem.1 hk
  have:=hc i W30
  rw [Qc hi] at this
  rw [this];decide
def slL (n:Nod):List Int:=if dfB n=true then useL n++[n.slot] else useL n
def SlT (l:List Nod) (m:Int):Prop:=∀ i:Nat,i<l.length→∀ s∈slL (l.getD i ua),0≤s∧s<m
def WtQ (l:List Nod) (m:Int) (w:List Int):Prop:=(w.length:Int)=m∧∀ s:Nat,(s:Int)<m→0≤w.getD s 0∧(w.getD s 0≠0↔∃ i,i<l.length∧((rchL l).getD i ua).b=true∧(s:Int)∈slL (l.getD i ua))
def wU (l:List Nod) (i:Nat) (s:Nat):Prop:=∃ j,j<i∧((rchL l).getD j ua).b=true∧(s:Int)∈slL (l.getD j ua)
def WtK (l:List Nod) (m:Int) (i k:Nat) (w:List Int):Prop:=
 w.length=m.toNat∧∀ s:Nat,s<m.toNat→0≤w.getD s 0∧w.getD s 0≤32768 * (i:Int)+4096 * (k:Int)∧(w.getD s 0≠0↔wU l i s∨(s:Int)∈(slL (l.getD i ua)).take k)
def WtI (l:List Nod) (m:Int) (i:Nat) (w:List Int):Prop:=WtK l m i 0 w
theorem WtI.zero {l:List Nod} {m:Int}:WtI l m 0 (jh m.toNat 0):=by
 refine ⟨jI,fun s hs=>?_⟩
 have e:(jh m.toNat (0:Int)).getD s 0=0:=by rw [Qc (by rw [jI];exact hs)];simp
 rw [e]
 refine ⟨by omega,by omega,fun h=>absurd rfl h,fun h=>?_⟩
 rcases h with ⟨j,hj,_⟩ | h
 ·omega
 ·simp at h
theorem Qba (n:Nod):(useL n).length≤2:=by
 have v:∀ x:Vl,(vlL x).length≤1:=fun x=>by unfold vlL;split<;>simp
 have a:=v n.a;have b:=v n.b
 unfold useL;split
 ·rw [jt];split
  ·omega
  ·simp;omega
 ·split
  ·omega
  ·simp
theorem Q47 (n:Nod):(slL n).length≤3:=by
 have:=Qba n
 unfold slL;split
 ·rw [jt];simp;omega
 ·omega
theorem WtI.skip {l:List Nod} {m:Int} {i:Nat} {w:List Int} (h:WtI l m i w) (hr:((rchL l).getD i ua).b=false):WtI l m (i+1) w:=by
 refine ⟨h.1,fun s hs=>?_⟩
 obtain ⟨a,b,c⟩:=h.2 s hs
 refine ⟨a,by omega,c.trans ?_⟩
 simp only [List.take_zero,kq,or_false]
 constructor
 ·rintro ⟨j,hj,q⟩;exact ⟨j,by omega,q⟩
 ·rintro ⟨j,hj,q⟩
  by_cases e:j=i
  ·subst e;rw [hr] at q;exact absurd q.1 W162
  ·exact ⟨j,by omega,q⟩
theorem WtK.outer {l:List Nod} {m:Int} {i k:Nat} {w:List Int} (h:WtK l m i k w) (hk:(slL (l.getD i ua)).length≤k) (h8:k≤8) (hr:((rchL l).getD i ua).b=true):WtI l m (i+1) w:=by
 refine ⟨h.1,fun s hs=>?_⟩
 obtain ⟨a,b,c⟩:=h.2 s hs
 refine ⟨a,by omega,c.trans ?_⟩
 rw [j7 hk]
 simp only [List.take_zero,kq,or_false]
 constructor
 ·rintro (⟨j,hj,q⟩ | q)
  ·exact ⟨j,by omega,q⟩
  ·exact ⟨i,by omega,hr,q⟩
 ·rintro ⟨j,hj,q⟩
  by_cases e:j=i
  ·subst e;exact .inr q.2
  ·exact .inl ⟨j,by omega,q⟩
theorem Q7y {l:List Int} {k:Nat} (h:k<l.length) (x:Int):x∈l.take (k+1)↔x∈l.take k∨x=l.getD k 0:=by
 rw [List.take_add_one,jd h,Qc h,kH];simp
theorem WtK.stay {l:List Nod} {m:Int} {i k:Nat} {w:List Int} (h:WtK l m i k w) (hk:k<(slL (l.getD i ua)).length) (hm:(slL (l.getD i ua)).getD k 0∈(slL (l.getD i ua)).take k):WtK l m i (k+1) w:=by
 refine ⟨h.1,fun s hs=>?_⟩
 obtain ⟨a,b,c⟩:=h.2 s hs
 refine ⟨a,by omega,c.trans ?_⟩
 rw [Q7y hk]
 constructor
 ·rintro (q | q)
  ·exact .inl q
  ·exact .inr (.inl q)
 ·rintro (q | q | q)
  ·exact .inl q
  ·exact .inr q
  ·rw [q];exact .inr hm
theorem WtK.add {l:List Nod} {m c:Int} {i k:Nat} {w:List Int} (h:WtK l m i k w) (hk:k<(slL (l.getD i ua)).length) (h0:0≤(slL (l.getD i ua)).getD k 0∧(slL (l.getD i ua)).getD k 0<m) (hc:1≤c∧c≤4096) :
 WtK l m i (k+1) (w.set ((slL (l.getD i ua)).getD k 0).toNat (w.getD ((slL (l.getD i ua)).getD k 0).toNat 0+c)):=by
 refine ⟨by rw [jF];exact h.1,fun s hs=>?_⟩
 obtain ⟨a,b,d⟩:=h.2 s hs
 rw [Qn _ _ _ _ _ (by rw [h.1];omega),Q7y hk]
 by_cases e:s=((slL (l.getD i ua)).getD k 0).toNat
 ·rw [if_pos e,← e]
  refine ⟨by omega,by omega,fun _=>.inr (.inr W30),fun _=>by omega⟩
 ·rw [if_neg e]
  refine ⟨a,by omega,d.trans ?_⟩
  constructor
  ·rintro (q | q)
   ·exact .inl q
   ·exact .inr (.inl q)
  ·rintro (q | q | q)
   ·exact .inl q
   ·exact .inr q
   ·exact absurd q W30
theorem WtI.bound {l:List Nod} {m:Int} {i k:Nat} {w:List Int} (h:WtK l m i k w) (s:Nat) (hs:s<m.toNat):0≤w.getD s 0∧w.getD s 0≤32768 * (i:Int)+4096 * (k:Int):=⟨(h.2 s hs).1,(h.2 s hs).2.1⟩
theorem WtI.done {l:List Nod} {m:Int} {w:List Int} (h:WtI l m l.length w) (hm:0≤m):WtQ l m w:=by
 refine ⟨by rw [h.1];omega,fun s hs=>?_⟩
 obtain ⟨a,b,c⟩:=h.2 s W30
 refine ⟨a,c.trans ?_⟩
 simp only [List.take_zero,kq,or_false];rfl
theorem Qkz (d:Int) (h:0≤d):1≤shlI ja 1 (3 * (if (4:Int)<d then 4 else d))∧shlI ja 1 (3 * (if (4:Int)<d then 4 else d))≤4096:=by
 have:(if (4:Int)<d then 4 else d)=0∨(if (4:Int)<d then 4 else d)=1∨(if (4:Int)<d then 4 else d)=2∨(if (4:Int)<d then 4 else d)=3∨(if (4:Int)<d then 4 else d)=4:=by split<;>omega
 rcases this with e | e | e | e | e<;>rw [e]<;>decide
def OnceF (l:List Int) (s:Int) (j:Nat) (b:Bool):Prop:=b=true↔s ∉ l.take j
theorem OnceF.zero {l:List Int} {s:Int}:OnceF l s 0 true:=by simp [OnceF]
theorem OnceF.next {l:List Int} {s:Int} {j:Nat} {b:Bool} (h:OnceF l s j b) (hj:j<l.length):OnceF l s (j+1) (b&&!decide (s=l.getD j 0)):=by
 unfold OnceF at *
 rw [Q7y hj,ji,h];simp
theorem OnceF.done {l:List Int} {s:Int} {j:Nat} {b:Bool} (h:OnceF l s j b) (hj:l.length≤j) (hb:b=false):s∈l:=by
 unfold OnceF at h
 rw [j7 hj] at h
 exact Classical.byContradiction fun n=>by rw [hb] at h;exact absurd (h.2 n) W162
theorem Qgf {l:List Int} {k i:Nat} (h:i<(l.take k).length):(l.take k).getD i 0=l.getD i 0:=by
 rw [jQ] at h
 rw [Qc (by rw [jQ];omega),List.getElem_take,Qc W30]
theorem Qep {n:Nod} (h:dfB n=true):slL n=useL n++[n.slot]:=if_pos h
theorem Ql0 {n:Nod} (h:dfB n=false):slL n=useL n:=if_neg W215
theorem Qrm {d:Int} (h:0≤d):0≤(if (4:Int)<d then 4 else d)∧(if (4:Int)<d then 4 else d)≤4:=by split<;>omega
structure Plc where
 cell:Bool
 n:Int
 deriving Inhabited,DecidableEq
def Plc.tl (x:Plc):List TC:=[.val (.bool x.cell),.val (.int .i64 x.n)]
def Plc.tc (x:Plc):Nat→TC:=nthT x.tl
def Plc.cs (x:Plc):List C:=[.b x.cell,.i .i64 x.n]
abbrev Plc.rowR (l:List Plc):Reg:=rowOf 2 Plc.tc l
structure Alc where
 places:List Plc
 cells:Int
 deriving Inhabited,DecidableEq
def Alc.tl (x:Alc):List TC:=[.sub 74 2 (x.places).length (fun i=>Plc.tc ((x.places).getD i ua)),.val (.int .i64 x.cells)]
def Alc.tc (x:Alc):Nat→TC:=nthT x.tl
def Alc.cs (x:Alc) (r_places:Nat):List C:=[.h r_places,.i .i64 x.cells]
abbrev Alc.rowR (l:List Alc):Reg:=rowOf 2 Alc.tc l
def fit1 (c:Int) (p:Plc):Bool:=!(decide (p.n<0)||decide ((if p.cell=true then c else 13)≤p.n))
def fitB (m:Int) (a:Alc):Bool:=decide ((a.places.length:Int)=m)&&!(decide (a.cells<0)||decide (4160<a.cells))&&a.places.all (fit1 a.cells)
theorem Qd5 {m:Int} {a:Alc} (h:fitB m a=true):(a.places.length:Int)=m:=by
 unfold fitB at h;rw [ji,ji] at h;exact ub h.1.1
theorem Q3v {m:Int} {a:Alc} (h:fitB m a=true):0≤a.cells∧a.cells≤4160:=by
 unfold fitB at h;rw [ji,ji] at h
 have:=h.1.2
 simp only [jJ,jT,decide_eq_false_iff_not] at this
 omega
theorem Qgg {m:Int} {a:Alc} (h:fitB m a=true) {i:Nat} (hi:i<a.places.length):0≤(a.places.getD i ua).n∧(a.places.getD i ua).n<(if (a.places.getD i ua).cell=true then a.cells else 13):=by
 unfold fitB at h;rw [ji] at h
 have:=List.all_eq_true.1 h.2 _ (jN hi)
 rw [Qc hi]
 unfold fit1 at this
 simp only [jJ,jT,decide_eq_false_iff_not] at this
 omega
theorem Qon {m:Int} {a:Alc} {i:Nat} (hi:i<a.places.length) (h:fit1 a.cells (a.places.getD i ua)=false):fitB m a=false:=by
 unfold fitB
 rw [Bool.and_eq_false_iff]
 refine .inr (List.all_eq_false.2 ⟨_,jN hi,?_⟩)
 rw [Qc hi] at h;rw [h];decide
theorem Qm2 {m:Int} {a:Alc} (h1:(a.places.length:Int)=m) (h2:¬ a.cells<0) (h3:¬ 4160<a.cells) {x:Int} (hx:¬ x<(a.places.length:Int)) (h:∀ k,k<x.toNat→fit1 a.cells (a.places.getD k ua)=true):fitB m a=true:=by
 unfold fitB
 rw [ji,ji,decide_eq_true h1,decide_eq_false h2,decide_eq_false h3]
 refine ⟨⟨rfl,rfl⟩,List.all_eq_true.2 fun p hp=>?_⟩
 obtain ⟨i,hi,rfl⟩:=List.mem_iff_getElem.1 hp
 have:=h i W30
 rw [Qc hi] at this;exact this
theorem Qm3 {m:Int} {a:Alc} (h:(!decide ((a.places.length:Int)=m)||decide (a.cells<0)||decide (4160<a.cells))=true):fitB m a=false:=by
 unfold fitB
 cases e1:decide ((a.places.length:Int)=m)<;>cases e2:decide (a.cells<0)<;>cases e3:decide (4160<a.cells)<;>simp_all
theorem Qgh {c:Int} {p:Plc} (h:p.cell=true):fit1 c p=!(decide (p.n<0)||decide (c≤p.n)):=by unfold fit1;rw [if_pos h]
theorem Qgi {c:Int} {p:Plc} (h:p.cell=false):fit1 c p=!(decide (p.n<0)||decide (13≤p.n)):=by unfold fit1;rw [if_neg W215]
theorem Q5l {m:Int} {a:Alc} (h:(!decide ((a.places.length:Int)=m)||decide (a.cells<0)||decide (4160<a.cells))=false):(a.places.length:Int)=m∧¬ a.cells<0∧¬ 4160<a.cells:=by
 simp only [jT,kI,decide_eq_true_eq,decide_eq_false_iff_not] at h
 exact ⟨h.1.1,h.1.2,h.2⟩
theorem Qbb {P:Nat→Bool} {x:Int} (h0:0≤x) (h:∀ k,k<x.toNat→P k=true) (hx:P x.toNat=true):∀ k,k<(x+1).toNat→P k=true:=fun k hk=>by
 by_cases e:k=x.toNat
 ·subst e;exact hx
 ·exact h k W30
end Go.Proofs.YtnddggenhefaeaaGreatDoor
end
namespace Go.Tx
open Go
theorem MT.okv_struct {P : Program} {t k e : Nat} {K : List CK} {fs : Array Field} {z : Value} (ht : P.underlying t = some (.map k e)) (hk : P.underlying k = some (.struct fs)) (hkey : Go.Maps.Keyed P k) (hty : P.keyType k = true) (hn : fs.all (·.name != "_") = true)
 (hp:plainFs P 0 fs.toList K) (hc:P.cellsOf k=K.length) (hs:1≤P.types.size) (hz:∀ w,(zeroValue e).run P w=.ok z w):MT.OkV ⟨P,t,k,e,K,true,[],false⟩ z where
 map:=ht
 key:=hkey
 lit:=fun a ha=>by
  have hcells:(Value.agg (KA.vals K a).toArray).formed P k=true:=by
   simp only [Value.formed,hk]
   simp [KA.vals_len,hc]
  obtain ⟨d,hd⟩:∃ d,P.types.size=d+1:=⟨P.types.size-1,by omega⟩
  obtain ⟨ls,hls⟩:=Q50 (d:=d) hp (cs:=KA.vals K a) (a:=a) rfl ha
  refine ⟨.string (keyBytes ls.flatten),?_⟩
  show keyOf P k (.agg (KA.vals K a).toArray)=_
  unfold keyOf
  simp only [hk,hty,hcells,Bool.and_self,if_true]
  rw [hd]
  show (P.keyLits (d+1+1) k (KA.vals K a)).map _=_
  rw [Q7j hk,if_pos ⟨by rw [hc];exact KA.vals_len K a,hn⟩]
  rw [hls];rfl
 one:=.inl rfl
 zero:=hz
end Go.Tx
noncomputable section
namespace Go.Proofs.YtnddggenhefaeaaGreatDoor
open Go Go.Tx
section
variable {ns nl:Nat} {g:Grf}
theorem GrfQ.q (h:GrfQ ns nl g) (hw:∀ b:Nat,0≤(g.nodes.getD b ua).kind) (i:Nat) (hi:i<g.nodes.length):NodQ ns nl g (g.nodes.getD i ua):=Q5i (h.nod i hi) (hw i)
theorem Qeq {n:Nod} {m:Int} {v:Vl} (h:v.slotted=true→0≤v.slot∧v.slot<m):∀ k∈vlL v,0≤k∧k<m:=fun k hk=>by
 unfold vlL at hk;split at hk
 ·rename_i e;rw [jH] at hk;subst hk;exact h e
 ·cases hk
theorem NodQ.use {n:Nod} (h:NodQ ns nl g n):∀ k∈useL n,0≤k∧k<g.slots:=fun k hk=>by
 unfold useL at hk;split at hk
 ·rcases List.mem_append.1 hk with q | q
  ·exact Qeq (n:=n) h.a k q
  ·split at q
   ·exact Qeq (n:=n) h.b k q
   ·cases q
 ·split at hk
  ·exact Qeq (n:=n) h.a k hk
  ·cases hk
theorem NodQ.dfn {n:Nod} (h:NodQ ns nl g n) (hd:dfB n=true):0≤n.slot∧n.slot<g.slots:=h.slot (by
 unfold dfB at hd
 simp only [jK,decide_eq_true_eq] at hd
 omega)
theorem GrfQ.hq (h:GrfQ ns nl g) (hw:∀ b:Nat,0≤(g.nodes.getD b ua).kind):∀ i:Nat,i<g.nodes.length→∀ x∈flwL (g.nodes.getD i ua),0≤x∧x<(g.nodes.length:Int):=fun i hi=>(h.q hw i hi).flw
theorem GrfQ.hk (h:GrfQ ns nl g) (hw:∀ b:Nat,0≤(g.nodes.getD b ua).kind):∀ i:Nat,i<g.nodes.length→1≤(g.nodes.getD i ua).kind∧(g.nodes.getD i ua).kind≤9:=fun i hi=>(h.q hw i hi).k
theorem GrfQ.hT (h:GrfQ ns nl g) (hw:∀ b:Nat,0≤(g.nodes.getD b ua).kind):SlT g.nodes g.slots:=fun i hi s hs=>by
 have n:=h.q hw i hi
 unfold slL at hs;split at hs
 ·rename_i e
  rcases List.mem_append.1 hs with q | q
  ·exact n.use s q
  ·rw [jH] at q;subst q;exact n.dfn e
 ·exact n.use s hs
theorem GrfQ.hS (h:GrfQ ns nl g) (hw:∀ b:Nat,0≤(g.nodes.getD b ua).kind):SlH g.nodes:=fun i hi=>by
 have n:=h.q hw i hi
 have l:=h.loc
 exact ⟨fun k hk=>by have:=n.use k hk;omega,fun e=>by have:=n.dfn e;omega⟩
end
noncomputable def clE (l:List Nod) (a b:Int):Bool:=!decide (a=b)&&(jB l.length).any fun i=>((rchL l).getD i ua).b&&dfB (l.getD i ua)&&(decide ((l.getD i ua).slot=a)&&Go.Lv.behind (lvG l) (liveS l) i b.toNat||decide ((l.getD i ua).slot=b)&&Go.Lv.behind (lvG l) (liveS l) i a.toNat)
theorem Qqi {l:List Nod} {W V:WW} {a b:Int} (h:LvQ l W V) (ha:0≤a∧a<4160) (hb:0≤b∧b<4160):clF l V a b=clE l a b:=by
 unfold clF clE
 congr 1
 refine Q2f fun i hi=>?_
 have hi:=List.mem_range.1 hi
 unfold clB
 cases hr:((rchL l).getD i ua).b with
 | false=>simp
 | true =>
   obtain ⟨h1,h2⟩:=h i hi hr
   have e1:hasW (V i) b=Go.Lv.behind (lvG l) (liveS l) i b.toNat:=by rw [← h2 b.toNat W30];exact Qd2 h1 hb.1
   have e2:hasW (V i) a=Go.Lv.behind (lvG l) (liveS l) i a.toNat:=by rw [← h2 a.toNat W30];exact Qd2 h1 ha.1
   rw [e1,e2]
open Classical in
noncomputable def useS (l:List Nod) (s:Nat):Bool:=decide (∃ i,i<l.length∧((rchL l).getD i ua).b=true∧(s:Int)∈slL (l.getD i ua))
theorem Q5m {l:List Nod} {m:Int} {w:List Int} (h:WtQ l m w) {s:Nat} (hs:(s:Int)<m) (h0:decide (w.getD s 0=0)=false):useS l s=true:=by
 unfold useS;exact decide_eq_true (((h.2 s hs).2).1 (uc h0))
theorem Qd6 {l:List Nod} {m:Int} {w:List Int} (h:WtQ l m w) {s:Nat} (hs:(s:Int)<m) (h0:decide (w.getD s 0=0)=true):useS l s=false:=by
 unfold useS;exact decide_eq_false fun q=>(((h.2 s hs).2).2 q) (ub h0)
noncomputable def atL (l:List Nod) (ps:List Plc) (s:Nat) (p:Bool×Int):List Int:=((jB s).filter fun k=>useS l k&&decide (((ps.getD k ua).cell,(ps.getD k ua).n)=p)).map fun (k:Nat)=>(k:Int)
noncomputable def okS (l:List Nod) (ps:List Plc) (s:Nat):Bool:=(jB s).all fun j=>!useS l j||!((atL l ps j ((ps.getD j ua).cell,(ps.getD j ua).n)).any fun k=>clE l j k)
noncomputable def okF (gs:List Grf) (al:List Alc) (n:Nat):Bool:=(jB n).all fun t=>okS (gs.getD t ua).nodes (al.getD t ua).places (al.getD t ua).places.length
noncomputable def rgtU (sh lk:List Dcl) (gs:List Grf) (al:List Alc):Bool×Int:=
 if (chkU sh lk gs).1≠0 then (false,(chkU sh lk gs).1) else if al.length≠gs.length then (false,150)
 else if (jB gs.length).all (fun t=>fitB (gs.getD t ua).slots (al.getD t ua))=false then (false,150) else (okF gs al gs.length,0)
noncomputable def atM (l:List Nod) (ps:List Plc) (s:Nat):Bool×Int→Nat×(Nat→Nat→TC):=fun p=>((atL l ps s p).length,fun i=>i64T ((atL l ps s p).getD i 0))
theorem Qj5 {l:List Nod} {ps:List Plc} {s:Nat} (h:useS l s=false) (p:Bool×Int):atL l ps (s+1) p=atL l ps s p:=by
 unfold atL;rw [kw,List.filter_append,kG];simp [h]
theorem Qm4 {l:List Nod} {ps:List Plc} {s:Nat} (h:useS l s=true):atL l ps (s+1) ((ps.getD s ua).cell,(ps.getD s ua).n)=atL l ps s ((ps.getD s ua).cell,(ps.getD s ua).n)++[(s:Int)]:=by
 unfold atL;rw [kw,List.filter_append,kG];simp [h]
theorem Qm5 {l:List Nod} {ps:List Plc} {s:Nat} {p:Bool×Int} (h:p≠((ps.getD s ua).cell,(ps.getD s ua).n)):atL l ps (s+1) p=atL l ps s p:=by
 have h2:(useS l s&&decide (((ps.getD s ua).cell,(ps.getD s ua).n)=p))=false:=by rw [decide_eq_false (Ne.symm h),Bool.and_false]
 unfold atL
 rw [kw,List.filter_append,kG,List.filter_cons_of_neg (by rw [h2];decide)]
 simp
theorem Qd7 {l:List Nod} {ps:List Plc} {s:Nat} {p:Bool×Int} {x:Int} (h:x∈atL l ps s p):0≤x∧x<(s:Int):=by
 unfold atL at h
 obtain ⟨k,hk,rfl⟩:=List.mem_map.1 h
 have:=List.mem_range.1 (List.mem_filter.1 hk).1
 omega
theorem Q7z (l:List Nod) (ps:List Plc) (s:Nat) (p:Bool×Int):(atL l ps s p).length≤s:=by
 unfold atL;rw [jP];exact kr (List.length_filter_le _ _) W162
theorem Qj6 {l:List Nod} {ps:List Plc} {s:Nat} (h:useS l s=false):okS l ps (s+1)=okS l ps s:=by
 unfold okS;rw [kw,List.all_append];simp [h]
theorem Qd8 {l:List Nod} {ps:List Plc} {s:Nat} (h:useS l s=true):okS l ps (s+1)=(okS l ps s&&!((atL l ps s ((ps.getD s ua).cell,(ps.getD s ua).n)).any fun k=>clE l s k)):=by
 unfold okS;rw [kw,List.all_append];simp [h]
theorem Qj7 {gs:List Grf} {al:List Alc} {n:Nat}:okF gs al (n+1)=(okF gs al n&&okS (gs.getD n ua).nodes (al.getD n ua).places (al.getD n ua).places.length):=by
 unfold okF;rw [kw,List.all_append];simp
theorem Qqj {l:List Nod} {W V:WW} {ps:List Plc} {s:Nat} {p:Bool×Int} (h:LvQ l W V) (hs:s<4160):((atL l ps s p).any fun k=>clF l V s k)=(atL l ps s p).any fun k=>clE l s k:=
 Q2f fun k hk=>by have:=Qd7 hk;exact Qqi h W30 W30
noncomputable abbrev MTpl:MT:=MT.mk jb 163 74 49 [CK.b,CK.i ja] true [] false
theorem Qqk:laidOutB jb=true:=by kernel_rfl
theorem Qm6:MTpl.OkV (je none 0 0):=
 MT.okv_struct (by kernel_rfl) Tryz.underlying74 (Go.Maps.Keyed.of_law (deep_law_laid Qqk (m:=2) W30 (ub (by kernel_rfl)) (by kernel_rfl) (by rw [Tryz.underlying74]))) (by kernel_rfl) (by kernel_rfl)
  ⟨rfl,by kernel_rfl,Tryz.underlying4,rfl,by kernel_rfl,Tryz.underlying3,trivial⟩ (by kernel_rfl) (ub (by kernel_rfl)) (fun w=>by kernel_rfl)
section
variable {sh lk:List Dcl} {gs:List Grf} {al:List Alc}
theorem Q5n (h1:(!decide ((chkU sh lk gs).1=(0:Int)))=false) {x:Int} (h0:0≤x) (ht:decide (x<(gs.length:Int))=true):GrfQ sh.length lk.length (gs.getD x.toNat ua):=
 (Yc W126).2 _ (by have:=ub ht;omega)
theorem Qbc (hw:UnitW gs) (t:Nat):∀ b:Nat,0≤((gs.getD t ua).nodes.getD b ua).kind:=fun b=>(hw t b).1
theorem Qql (h1:(!decide ((chkU sh lk gs).1=(0:Int)))=true):rgtU sh lk gs al=(false,(chkU sh lk gs).1):=by unfold rgtU;rw [if_pos W126]
theorem Qqm (h1:(!decide ((chkU sh lk gs).1=(0:Int)))=false) (h2:(!decide ((al.length:Int)=(gs.length:Int)))=true):rgtU sh lk gs al=(false,150):=by
 have h2:al.length≠gs.length:=by (simp only [jJ,decide_eq_false_iff_not] at h2;omega)
 unfold rgtU;rw [if_neg W126,if_pos h2]
theorem Qqn (h1:(!decide ((chkU sh lk gs).1=(0:Int)))=false) (h2:(!decide ((al.length:Int)=(gs.length:Int)))=false) {x:Int} (h0:0≤x) (ht:decide (x<(gs.length:Int))=true) (hf:(!fitB (gs.getD x.toNat ua).slots (al.getD x.toNat ua))=true):rgtU sh lk gs al=(false,150):=by
 have h2:¬ al.length≠gs.length:=by (simp only [kI,decide_eq_true_eq] at h2;omega)
 have ht:=ub ht
 unfold rgtU;rw [if_neg W126,if_neg h2,if_pos]
 exact List.all_eq_false.2 ⟨x.toNat,List.mem_range.2 W30,by simpa using hf⟩
theorem Qqo (h1:(!decide ((chkU sh lk gs).1=(0:Int)))=false) (h2:(!decide ((al.length:Int)=(gs.length:Int)))=false) (hf:∀ k,k<gs.length→fitB (gs.getD k ua).slots (al.getD k ua)=true):rgtU sh lk gs al=(okF gs al gs.length,0):=by
 have h2:¬ al.length≠gs.length:=by (simp only [kI,decide_eq_true_eq] at h2;omega)
 unfold rgtU;rw [if_neg W126,if_neg h2,if_neg]
 rw [Bool.not_eq_false]
 exact List.all_eq_true.2 fun t ht=>hf t (List.mem_range.1 ht)
theorem Qbd (h1:(!decide ((chkU sh lk gs).1=(0:Int)))=false) {x:Int} (h0:0≤x) (ht:decide (x<(gs.length:Int))=true) (hf:∀ k,k<gs.length→fitB (gs.getD k ua).slots (al.getD k ua)=true) :
 ((al.getD x.toNat ua).places.length:Int)=(gs.getD x.toNat ua).slots∧(al.getD x.toNat ua).places.length≤4160∧∀ s:Nat,s<(al.getD x.toNat ua).places.length→0≤((al.getD x.toNat ua).places.getD s ua).n∧((al.getD x.toNat ua).places.getD s ua).n≤4160:=by
 have q:=Q5n h1 h0 ht
 have ht:=ub ht
 have f:=hf x.toNat W30
 have l:=Qd5 f
 have c:=Q3v f
 have:=q.loc
 refine ⟨l,by omega,fun s hs=>?_⟩
 have p:=Qgg f hs
 have h3:(if ((al.getD x.toNat ua).places.getD s ua).cell=true then (al.getD x.toNat ua).cells else 13)≤4160:=by split<;>omega
 omega
section
variable {l:List Nod} {ps:List Plc} {x:Int} {b o:Bool}
theorem Qm7 (h0:0≤x) (hu:useS l x.toNat=false) (h:b=(o&&okS l ps x.toNat)):b=(o&&okS l ps (x+1).toNat):=by
 rw [show (x+1).toNat=x.toNat+1 by omega,Qj6 hu];exact h
theorem Qoo {W V:WW} (hv:LvQ l W V) (h0:0≤x) (hx:x<4160) (hu:useS l x.toNat=true) (hb:b=true) (h:b=(o&&okS l ps x.toNat)):(!(atL l ps x.toNat ((ps.getD x.toNat ua).cell,(ps.getD x.toNat ua).n)).any fun k=>clF l V x k)=(o&&okS l ps (x+1).toNat):=by
 rw [show (x+1).toNat=x.toNat+1 by omega,Qd8 hu,← Bool.and_assoc,← h,hb,kJ,← Qqj hv W30,kp h0]
theorem Qop (h0:0≤x) (hu:useS l x.toNat=true) (hb:b=false) (h:b=(o&&okS l ps x.toNat)):false=(o&&okS l ps (x+1).toNat):=by
 rw [show (x+1).toNat=x.toNat+1 by omega,Qd8 hu,← Bool.and_assoc,← h,hb,Bool.false_and]
theorem Qm8 (l:List Nod) (ps:List Plc):MrEq MTpl 3 1 0 (atM l ps 0) MTpl 3 1 0 (fun _=>(0,fun _ _=>TC.any)):=MrEq.mk' (jn _) fun (a:Bool×Int)=>⟨rfl,fun i hi=>absurd hi (Nat.not_lt_zero _)⟩
theorem Qm9 (h0:0≤x) (hu:useS l x.toNat=false):MrEq MTpl 3 1 (2 * (x+1).toNat) (atM l ps (x+1).toNat) MTpl 3 1 (2 * x.toNat) (atM l ps x.toNat):=
 MrEq.mk' W30 fun (a:Bool×Int)=>by
  rw [show (x+1).toNat=x.toNat+1 by omega]
  unfold atM
  rw [Qj5 hu]
  exact ⟨rfl,fun _ _=>rfl⟩
theorem Qoq (h0:0≤x) (hu:useS l x.toNat=true):MrEq MTpl 3 1 (2 * (x+1).toNat) (atM l ps (x+1).toNat) MTpl 3 1 (2 * x.toNat+1+1) (fun (p:Bool×Int)=>if p=((ps.getD x.toNat ua).cell,(ps.getD x.toNat ua).n) then ((atM l ps x.toNat ((ps.getD x.toNat ua).cell,(ps.getD x.toNat ua).n)).1+1,fun i=>if i=(atM l ps x.toNat ((ps.getD x.toNat ua).cell,(ps.getD x.toNat ua).n)).1 then i64T x else (atM l ps x.toNat ((ps.getD x.toNat ua).cell,(ps.getD x.toNat ua).n)).2 i) else atM l ps x.toNat p):=
 MrEq.mk' W30 fun (a:Bool×Int)=>by
  rw [show (x+1).toNat=x.toNat+1 by omega]
  by_cases e:a=((ps.getD x.toNat ua).cell,(ps.getD x.toNat ua).n)
  ·rw [if_pos e,e]
   unfold atM
   rw [Qm4 hu]
   refine ⟨by simp,fun i hi=>?_⟩
   dsimp only at hi ⊢
   split
   ·rename_i e1;subst e1;rw [Qw,kp h0]
   ·rename_i e1;rw [Yb W218 e1]
  ·rw [if_neg e]
   unfold atM
   rw [Qm5 e]
   exact ⟨rfl,fun _ _=>rfl⟩
end
end
structure Lok where
 reached:List Bo
 held:List Lz
 deriving Inhabited,DecidableEq
def Lok.tl (x:Lok):List TC:=[.sub 4 1 (x.reached).length (fun i=>Bo.tc ((x.reached).getD i ua)),.sub 215 1 (x.held).length (fun i=>Lz.tc ((x.held).getD i ua))]
def Lok.tc (x:Lok):Nat→TC:=nthT x.tl
abbrev Lok.rowR (l:List Lok):Reg:=rowOf 2 Lok.tc l
abbrev Lok.ownR (l:List Lok):Reg:=ownOf 240 2 Lok.tc l
theorem Q6y {ns nl:Nat}:∀ {l:List Grf} {t:Int},(chkGo ns nl l t).1=0→∀ j:Nat,j<l.length→heldF (l.getD j ua).nodes<0
 | [],_,_,j,hj=>absurd hj W162
 | g::r,t,h,j,hj=>by
   unfold chkGo at h
   split at h
   ·cases h
   ·split at h
    ·cases h
    ·split at h
     ·cases h
     ·rename_i hh
      cases j with
      | zero=>show heldF g.nodes<0;omega
      | succ j=>exact Q6y h j W214
theorem Qgj {sh lk:List Dcl} {gs:List Grf} (h:(chkU sh lk gs).1=0):∀ j:Nat,j<gs.length→heldF (gs.getD j ua).nodes<0:=by
 unfold chkU at h
 split at h
 ·exact Q6y h
 ·cases h
structure ThQ (sh lk:List Dcl) (g:Grf):Prop where
 hq:∀ i:Nat,i<g.nodes.length→∀ x∈flwL (g.nodes.getD i default),0≤x∧x<(g.nodes.length:Int)
 hN:1≤g.nodes.length∧g.nodes.length≤4096
 hk:∀ i:Nat,i<g.nodes.length→1≤(g.nodes.getD i default).kind∧(g.nodes.getD i default).kind≤9
 ht:thQ g.nodes
 hf:heldF g.nodes<0
 hv:∀ i:Nat,i<g.nodes.length→(g.nodes.getD i default).kind=2∨(g.nodes.getD i default).kind=3∨(g.nodes.getD i default).kind=4→0≤(g.nodes.getD i default).thing∧(g.nodes.getD i default).thing<(sh.length:Int)
 gq:GrfQ sh.length lk.length g
 nq:∀ i:Nat,i<g.nodes.length→NodQ sh.length lk.length g (g.nodes.getD i default)
theorem Yr {sh lk:List Dcl} {gs:List Grf} (h:(chkU sh lk gs).1=0) (hw:UnitW gs) {x:Int} (h0:0≤x) (hx:x<(gs.length:Int)):ThQ sh lk (gs.getD x.toNat ua):=by
 have hl:x.toNat<gs.length:=by omega
 have q:=(Yc h).2 _ hl
 have w:=Qbc hw x.toNat
 have m:=(Yc h).1
 refine ⟨q.hq w,q.len,q.hk w,fun i hi hk=>?_,Qgj h _ hl,fun i hi hk=>(q.q w i hi).thing hk,q,q.q w⟩
 have:=(q.q w i hi).lock (.inl hk)
 omega
abbrev UF:=Int→Option (Int×Int)
def UseQ (F:UF):Prop:=∀ a p,F a=some p→(0≤p.1∧p.1<4294967296)∧(0≤p.2∧p.2<4294967296)
theorem UseQ.none:UseQ (fun _=>Option.none):=fun a p h=>by cases h
theorem UseQ.put {F:UF} (h:UseQ F) {k a b:Int} (ha:0≤a∧a<4294967296) (hb:0≤b∧b<4294967296):UseQ (fun q=>if q=k then some (a,b) else F q):=fun q p hp=>by
 dsimp only at hp
 split at hp
 ·cases hp;exact ⟨ha,hb⟩
 ·exact h q p hp
theorem UseQ.get {F:UF} (h:UseQ F) (a:Int):(0≤((F a).getD (0,0)).1∧((F a).getD (0,0)).1<4294967296)∧(0≤((F a).getD (0,0)).2∧((F a).getD (0,0)).2<4294967296):=by
 cases e:F a with
 | none=>simp
 | some p=>exact h a p e
def LokQ (gs:List Grf) (n:Nat) (L:List Lok):Prop:=L.length=n∧∀ t:Nat,t<n→(L.getD t ua).reached=rchL (gs.getD t ua).nodes∧(L.getD t ua).held.length=(gs.getD t ua).nodes.length∧LzQ (L.getD t ua).held
theorem LokQ.nil (gs:List Grf):LokQ gs 0 []:=⟨rfl,fun t h=>absurd h (Nat.not_lt_zero _)⟩
theorem LokQ.snoc {gs:List Grf} {n:Nat} {L:List Lok} (h:LokQ gs n L) {x:Lok} (h1:x.reached=rchL (gs.getD n ua).nodes) (h2:x.held.length=(gs.getD n ua).nodes.length) (h3:LzQ x.held):LokQ gs (n+1) (L++[x]):=by
 refine ⟨by simp [h.1],fun t ht=>?_⟩
 by_cases e:t=n
 ·subst e
  have:(L++[x]).getD t ua=x:=by rw [← h.1];exact Qw _ _ _
  rw [this];exact ⟨h1,h2,h3⟩
 ·have:(L++[x]).getD t ua=L.getD t default:=Yb (by simp [h.1];omega) (by rw [h.1];exact e)
  rw [this];exact h.2 t W30
noncomputable abbrev MTu:MT:=MT.mk jb 221 3 217 [CK.i ja] false [CK.i jv,CK.i jv] true
theorem Qj8:MTu.Ok:=MT.ok_int (by kernel_rfl) (by kernel_rfl) (.inl rfl) (fun w=>by kernel_rfl)
structure Mrk where
 s:Bool
 l:Bool
 d:Bool
 f:Bool
 deriving Inhabited,DecidableEq
def Mrk.tl (x:Mrk):List TC:=[.val (.bool x.s),.val (.bool x.l),.val (.bool x.d),.val (.bool x.f)]
def Mrk.tc (x:Mrk):Nat→TC:=nthT x.tl
abbrev Mrk.rowR (l:List Mrk):Reg:=rowOf 4 Mrk.tc l
abbrev Mrk.ownR (l:List Mrk):Reg:=ownOf 186 4 Mrk.tc l
def fenR (N:Int) (last:Int):List Int→Bool
 | []=>true
 | n::r=>if n≤last∨N≤n then false else fenR N n r
def fenB (N:Int) (l:List Int):Bool:=fenR N (-1) l
structure FenJ (N:Int) (l:List Int) (i last:Int):Prop where
 i0:0≤i
 il:i≤(l.length:Int)
 lo:-1≤last
 run:fenB N l=fenR N last (l.drop i.toNat)
theorem FenJ.start (N:Int) (l:List Int):FenJ N l 0 (-1):=⟨jz _,by omega,jz _,rfl⟩
section
variable {N:Int} {l:List Int} {i last:Int}
theorem FenJ.drop (h:FenJ N l i last) (hi:i<(l.length:Int)):l.drop i.toNat=l.getD i.toNat 0::l.drop (i.toNat+1):=by
 have h0:=h.i0
 have hlt:i.toNat<l.length:=by omega
 rw [ki hlt,jc,jd hlt];rfl
theorem FenJ.bad (h:FenJ N l i last) (hi:i<(l.length:Int)) (hb:(decide (l.getD i.toNat 0≤last)||decide (N≤l.getD i.toNat 0))=true):fenB N l=false:=by
 rw [h.run,h.drop hi,fenR,if_pos (by simpa using hb)]
theorem FenJ.next (h:FenJ N l i last) (hi:i<(l.length:Int)) (hb:(decide (l.getD i.toNat 0≤last)||decide (N≤l.getD i.toNat 0))=false):FenJ N l (i+1) (l.getD i.toNat 0):=by
 have h0:=h.i0
 have hb:¬ (l.getD i.toNat 0≤last∨N≤l.getD i.toNat 0):=by simpa using hb
 refine ⟨by omega,by omega,by have:=h.lo;omega,?_⟩
 rw [h.run,h.drop hi,fenR,if_neg hb,show (i+1).toNat=i.toNat+1 by omega]
theorem FenJ.done (h:FenJ N l i last) (hi:¬ i<(l.length:Int)):fenB N l=true:=by
 have h0:=h.i0
 rw [h.run,j8 W30,fenR]
end
theorem Qbe {N:Int}:∀ {l:List Int} {last:Int},fenR N last l=true→∀ x∈l,last<x∧x<N
 | [],_,_,x,hx=>by cases hx
 | n::r,last,h,x,hx=>by
   unfold fenR at h
   split at h
   ·cases h
   ·rename_i hn
    cases hx with
    | head=>omega
    | tail _ hx=>have:=Qbe h x hx;omega
theorem fenR_len {N:Int}:∀ {l:List Int} {last:Int},fenR N last l=true→l=[]∨last+(l.length:Int)<N
 | [],_,_=>.inl rfl
 | n::r,last,h=>by
   unfold fenR at h
   split at h
   ·cases h
   ·rename_i hn
    rcases fenR_len h with q | q
    ·subst q;right;simp only [j6,List.length_nil];omega
    ·right;simp only [j6];omega
theorem Qma {N:Int} {l:List Int} (h:fenB N l=true):∀ x∈l,0≤x∧x<N:=fun x hx=>by have:=Qbe h x hx;omega
theorem Qmb (l:List Mrk) (k:Nat) (x:Mrk):∀ i,i<(l.set k x).length→Mrk.tc ((l.set k x).getD i ua)=updT (fun i=>Mrk.tc (l.getD i ua)) k 0 [.bool x.s,.bool x.l,.bool x.d,.bool x.f] i:=
 Za ua Mrk.tc l k 0 x _ (fun j=>by rcases j with _ | _ | _ | _ | j<;>simp [Mrk.tc,Mrk.tl,nthT,nth])
theorem Qj9 (l:List Mrk) (k:Nat):∀ i,i<(l.set k { l.getD k ua with f:=true }).length→Mrk.tc ((l.set k { l.getD k ua with f:=true }).getD i ua)=updT (fun i=>Mrk.tc (l.getD i ua)) k 3 [.bool true] i:=
 Za ua Mrk.tc l k 3 _ _ (fun j=>by rcases j with _ | _ | _ | _ | j<;>simp [Mrk.tc,Mrk.tl,nthT,nth])
theorem Qja {n:Nat}:∀ i,i<(jh n (Mrk.mk false false false false)).length→Mrk.tc ((jh n (Mrk.mk false false false false)).getD i ua)=valT [jS false,jS false,jS false,jS false]:=by
 intro i hi
 have hi:i<n:=by simpa using hi
 have e:(jh n (Mrk.mk false false false false)).getD i ua=⟨false,false,false,false⟩:=by rw [jc,jX,if_pos hi];rfl
 rw [e]
 funext j
 first | rfl | (rcases j with _ | _ | _ | _ | j<;>rfl)
theorem gAnd {a b:Bool} (h:(!a&&!b)=true):a=false:=by cases a<;>simp at h ⊢
theorem Qjb {n:Nat}:∀ i,i<(jh n (Bo.mk false)).length→Bo.tc ((jh n (Bo.mk false)).getD i ua)=valT [jS false]:=by
 intro i hi
 have hi:i<n:=by simpa using hi
 have e:(jh n (Bo.mk false)).getD i ua=⟨false⟩:=by rw [jc,jX,if_pos hi];rfl
 rw [e]
 funext j
 first | rfl | (rcases j with _ | j<;>rfl)
def inR (n:Nat) (t:List Int):Prop:=∀ x∈t,0≤x∧x<(n:Int)
theorem inR.nil (n:Nat):inR n []:=fun x h=>by cases h
theorem inR.take {n:Nat} {t:List Int} (h:inR n t) (k:Nat):inR n (t.take k):=fun x hx=>h x (List.mem_of_mem_take hx)
theorem inR.add {n:Nat} {t:List Int} (h:inR n t) {x:Int} (hx:0≤x∧x<(n:Int)):inR n (t++[x]):=fun y hy=>by
 rcases List.mem_append.1 hy with q | q
 ·exact h y q
 ·rw [jH] at q;subst q;exact hx
theorem inR.at_ {n:Nat} {t:List Int} (h:inR n t) {i:Nat} (hi:i<t.length):0≤t.getD i 0∧t.getD i 0<(n:Int):=by
 rw [jc,jd hi];exact h _ (jN hi)
structure SpO (n B:Nat) (o:List Bo) (t:List Int):Prop where
 len:o.length=n
 rng:inR n t
 ms:2 * falses o+t.length≤B
structure SpI (n B m fl:Nat) (x:Int) (o:List Bo) (t:List Int):Prop where
 len:o.length=n
 rng:inR n t
 ms:2 * falses o+t.length+1≤m
 mB:m≤B
 x0:0≤x
 xl:x≤(fl:Int)
theorem SpO.start {n B:Nat} {t:List Int} (h:inR n t) (hB:2 * n+t.length≤B):SpO n B (jh n (Bo.mk false)) t:=
 ⟨jI,h,by have z:=Zx (jh n (Bo.mk false));simp only [jI] at z;omega⟩
theorem SpO.inner {n B:Nat} {o:List Bo} {t:List Int} (h:SpO n B o t) (ht:0<t.length) (fl:Nat):SpI n B (2 * falses o+t.length) fl 0 o (t.take (t.length-1)):=
 ⟨h.len,h.rng.take _,by rw [jQ];omega,h.ms,jz _,by omega⟩
section
variable {n B m fl:Nat} {x:Int} {o:List Bo} {t:List Int}
theorem SpI.skip (h:SpI n B m fl x o t) (hx:x<(fl:Int)):SpI n B m fl (x+1) o t:=⟨h.len,h.rng,h.ms,h.mB,by have:=h.x0;omega,by omega⟩
theorem SpI.set (h:SpI n B m fl x o t) (hx:x<(fl:Int)) {k:Int} (hk:0≤k∧k<(n:Int)) (hf:(o.getD k.toNat ua).b=false):SpI n B m fl (x+1) (o.set k.toNat ⟨true⟩) t:=by
 have z:=G7 (l:=o) (i:=k.toNat) (by rw [h.len];omega) hf
 have z1:=h.ms
 exact ⟨by rw [jF,h.len],h.rng,by omega,h.mB,by have:=h.x0;omega,by omega⟩
theorem SpI.put (h:SpI n B m fl x o t) (hx:x<(fl:Int)) {k:Int} (hk:0≤k∧k<(n:Int)) (hf:(o.getD k.toNat ua).b=false):SpI n B m fl (x+1) (o.set k.toNat ⟨true⟩) (t++[k]):=by
 have z:=G7 (l:=o) (i:=k.toNat) (by rw [h.len];omega) hf
 have z1:=h.ms
 exact ⟨by rw [jF,h.len],h.rng.add hk,by rw [jt,kf];omega,h.mB,by have:=h.x0;omega,by omega⟩
theorem SpI.done (h:SpI n B m fl x o t):SpO n B o t∧2 * falses o+t.length<m:=⟨⟨h.len,h.rng,by have:=h.ms;have:=h.mB;omega⟩,by have:=h.ms;omega⟩
end
def fenAll (gs:List Grf) (fs:List Iln) (n:Nat):Bool:=(jB n).all fun t=>fenB ((gs.getD t ua).nodes.length:Int) (fs.getD t ua).l
def safU (sh lk:List Dcl) (gs:List Grf) (fs:List Iln):Int:=
 if (chkU sh lk gs).1≠0 then (chkU sh lk gs).1 else if fs.length≠gs.length then 110 else if fenAll gs fs gs.length=true then 0 else 110
section
variable {sh lk:List Dcl} {gs:List Grf} {fs:List Iln}
theorem Qqp (h1:(!decide ((chkU sh lk gs).1=(0:Int)))=true):(chkU sh lk gs).1=safU sh lk gs fs:=by unfold safU;rw [if_pos W126]
theorem Qqq (h1:(!decide ((chkU sh lk gs).1=(0:Int)))=false) (h2:(!decide ((fs.length:Int)=(gs.length:Int)))=true):110=safU sh lk gs fs:=by
 have h2:fs.length≠gs.length:=by (simp only [jJ,decide_eq_false_iff_not] at h2;omega)
 unfold safU;rw [if_neg W126,if_pos h2]
theorem Qqr (h1:(!decide ((chkU sh lk gs).1=(0:Int)))=false) (h2:(!decide ((fs.length:Int)=(gs.length:Int)))=false) {x:Int} (h0:0≤x) (hx:decide (x<(fs.length:Int))=true) (hf:(!fenB ((gs.getD x.toNat ua).nodes.length:Int) (fs.getD x.toNat ua).l)=true):110=safU sh lk gs fs:=by
 have h2:¬ fs.length≠gs.length:=by (simp only [kI,decide_eq_true_eq] at h2;omega)
 have hx:=ub hx
 have hn:¬ fenAll gs fs gs.length=true:=fun h=>by
  have:=List.all_eq_true.1 h x.toNat (List.mem_range.2 W30)
  rw [this] at hf;cases hf
 unfold safU;rw [if_neg W126,if_neg h2,if_neg hn]
theorem Qqs (h1:(!decide ((chkU sh lk gs).1=(0:Int)))=false) (h2:(!decide ((fs.length:Int)=(gs.length:Int)))=false) (hf:∀ k,k<fs.length→fenB ((gs.getD k ua).nodes.length:Int) (fs.getD k ua).l=true):0=safU sh lk gs fs:=by
 have h2:¬ fs.length≠gs.length:=by (simp only [kI,decide_eq_true_eq] at h2;omega)
 have hn:fenAll gs fs gs.length=true:=List.all_eq_true.2 fun t ht=>hf t (by have:=List.mem_range.1 ht;omega)
 unfold safU;rw [if_neg W126,if_neg h2,if_pos hn]
end
noncomputable def fauU (sh lk:List Dcl) (gs:List Grf) (fs:List Iln) (al:List Alc) (bf:Int):Int:=
 if safU sh lk gs fs≠0 then safU sh lk gs fs else if (rgtU sh lk gs al).2≠0 then (rgtU sh lk gs al).2 else if (rgtU sh lk gs al).1=false then 150 else if bf<1∨16<bf then 2 else 0
section
variable {sh lk:List Dcl} {gs:List Grf} {fs:List Iln} {al:List Alc} {bf e:Int}
theorem Qqt (he:e=safU sh lk gs fs) (h1:(!decide (e=(0:Int)))=true):fauU sh lk gs fs al bf=e:=by subst he;unfold fauU;rw [if_pos W126]
theorem Qqu (he:e=safU sh lk gs fs) (h1:(!decide (e=(0:Int)))=false) (h2:(!decide ((rgtU sh lk gs al).2=(0:Int)))=true):fauU sh lk gs fs al bf=(rgtU sh lk gs al).2:=by
 subst he;unfold fauU;rw [if_neg W126,if_pos W167]
theorem Qqv (he:e=safU sh lk gs fs) (h1:(!decide (e=(0:Int)))=false) (h2:(!decide ((rgtU sh lk gs al).2=(0:Int)))=false) (h3:(!(rgtU sh lk gs al).1)=true):fauU sh lk gs fs al bf=150:=by
 subst he;unfold fauU;rw [if_neg W126,if_neg W167,if_pos (by simpa using h3)]
theorem Qqw (he:e=safU sh lk gs fs) (h1:(!decide (e=(0:Int)))=false) (h2:(!decide ((rgtU sh lk gs al).2=(0:Int)))=false) (h3:(!(rgtU sh lk gs al).1)=false) (h4:(decide (bf<(1:Int))||decide ((16:Int)<bf))=true):fauU sh lk gs fs al bf=2:=by
 subst he;unfold fauU;rw [if_neg W126,if_neg W167,if_neg (by simpa using h3),if_pos (by simpa using h4)]
theorem Qqx (he:e=safU sh lk gs fs) (h1:(!decide (e=(0:Int)))=false) (h2:(!decide ((rgtU sh lk gs al).2=(0:Int)))=false) (h3:(!(rgtU sh lk gs al).1)=false) (h4:(decide (bf<(1:Int))||decide ((16:Int)<bf))=false):fauU sh lk gs fs al bf=0:=by
 have h4:¬ (bf<1∨16<bf):=by simp only [jT,decide_eq_false_iff_not] at h4;omega
 subst he;unfold fauU;rw [if_neg W126,if_neg W167,if_neg (by simpa using h3),if_neg h4]
end
def memL (sh lk:List Dcl) (al:List Alc) (i:Nat):List Int:=sh.map (·.word)++jh lk.length 0++((al.take i).flatMap fun a=>jh a.cells.toNat 0)
def mAt (sh lk:List Dcl) (al:List Alc) (i:Nat):List Int:=(jB i).map fun j=>((memL sh lk al j).length:Int)
theorem Qbf (sh lk:List Dcl) (al:List Alc):memL sh lk al 0=sh.map (·.word)++jh lk.length 0:=by simp [memL]
theorem Q0j (sh lk:List Dcl) (al:List Alc) (i:Nat) (h:i<al.length):memL sh lk al (i+1)=memL sh lk al i++jh (al.getD i ua).cells.toNat 0:=by
 unfold memL
 rw [jM h,List.flatMap_append]
 simp [jc,h]
theorem Qbg (sh lk:List Dcl) (al:List Alc) (i:Nat):mAt sh lk al (i+1)=mAt sh lk al i++[((memL sh lk al i).length:Int)]:=by
 simp [mAt,kw]
theorem Q48 (sh lk:List Dcl) (al:List Alc) (i:Nat):(mAt sh lk al i).length=i:=by simp [mAt]
theorem Qci (sh:List Dcl) (i:Nat) (h:i<sh.length):(sh.take (i+1)).map (·.word)=(sh.take i).map (·.word)++[(sh.getD i ua).word]:=by
 rw [jM h,kG]
 simp [jc,h]
theorem Q04 (sh lk:List Dcl) (al:List Alc) (hc:∀ j:Nat,j<al.length→(al.getD j ua).cells≤4160):∀ i:Nat,i≤al.length→(memL sh lk al i).length≤sh.length+lk.length+4160 * i
 | 0,_=>by rw [Qbf];simp
 | i+1,h=>by
   have:=Q04 sh lk al hc i W30
   have:=hc i W30
   rw [Q0j _ _ _ _ W30,jt,jI]
   omega
theorem Qd9 (l:List Int) (m:Nat):∀ i,i<(l++jh m (0:Int)).length→i64T ((l++jh m (0:Int)).getD i 0)=fun j=>if i<l.length then i64T (l.getD i 0) j else valT (jg ja (0:Int)).cells.toList j:=fun i hi=>by
 funext j
 split
 ·rename_i h
  rw [jc,jp h,← jc]
 ·rename_i h
  rw [jc,jA W30]
  rw [jt,jI] at hi
  rw [jX,if_pos W30]
  rcases j with _ | j<;>rfl
section
variable {sh lk:List Dcl} {al:List Alc} {l:List Int} {x:Int}
theorem Qda (h:l=(sh.take x.toNat).map (·.word)) (hx:x.toNat=sh.length):memL sh lk al 0=l++jh lk.length 0:=by rw [Qbf,h,hx,List.take_length]
theorem Qjc (h:l=(sh.take x.toNat).map (·.word)) (hx:x.toNat=sh.length):(memL sh lk al 0).length=l.length+lk.length:=by rw [Qda h hx,jt,jI]
theorem Qjd (h:l=(sh.take x.toNat).map (·.word)) (hx:x.toNat=sh.length):∀ i,i<(memL sh lk al 0).length→i64T ((memL sh lk al 0).getD i 0)=fun j=>if i<l.length then i64T (l.getD i 0) j else valT (jg ja (0:Int)).cells.toList j:=by
 rw [Qda h hx];exact Qd9 _ _
theorem Qje (h:l=memL sh lk al x.toNat) (hx:x.toNat<al.length):(memL sh lk al (x.toNat+1)).length=l.length+(al.getD x.toNat ua).cells.toNat:=by rw [Q0j _ _ _ _ hx,h,jt,jI]
theorem Qjf (h:l=memL sh lk al x.toNat) (hx:x.toNat<al.length):∀ i,i<(memL sh lk al (x.toNat+1)).length→i64T ((memL sh lk al (x.toNat+1)).getD i 0)=fun j=>if i<l.length then i64T (l.getD i 0) j else valT (jg ja (0:Int)).cells.toList j:=by
 rw [Q0j _ _ _ _ hx,← h];exact Qd9 _ _
end
structure Gm where
 ps:List Plc
 base:Int
 shared:Int
 fr:Int
def Gm.pl (x:Gm) (s:Int):Plc:=x.ps.getD s.toNat ua
def gSet (x:Gm) (d w:Int):Ins:={ (ua:Ins) with kind:=1,d:=d,word:=w,from_:=x.fr }
def gOr (x:Gm) (d p:Int):Ins:={ (ua:Ins) with kind:=2,op:=7,d:=d,a:=p,b:=p,from_:=x.fr }
def gLoad (x:Gm) (d w:Int):Ins:={ (ua:Ins) with kind:=3,d:=d,addr:=w,from_:=x.fr }
def gStore (x:Gm) (a w:Int):Ins:={ (ua:Ins) with kind:=4,a:=a,addr:=w,from_:=x.fr }
def gSwap (x:Gm) (d w:Int):Ins:={ (ua:Ins) with kind:=5,d:=d,addr:=w,from_:=x.fr }
def gPrint (x:Gm) (a:Int):Ins:={ (ua:Ins) with kind:=7,a:=a,from_:=x.fr }
def gJump (x:Gm) (t:Int):Ins:={ (ua:Ins) with kind:=8,to:=t,from_:=x.fr }
def gZero (x:Gm) (a t:Int):Ins:={ (ua:Ins) with kind:=9,a:=a,to:=t,from_:=x.fr }
def gFetch (x:Gm) (v:Vl) (r:Int):List Ins:=
 if v.slotted then (if (x.pl v.slot).cell then [gLoad x r (x.base+(x.pl v.slot).n)] else []) else [gSet x r v.word]
def gReg (x:Gm) (v:Vl) (r:Int):Int:=if v.slotted&&!(x.pl v.slot).cell then (x.pl v.slot).n else r
def gMove (x:Gm) (v:Vl) (r:Int):List Ins:=
 if v.slotted&&!(x.pl v.slot).cell then [gOr x r (x.pl v.slot).n] else gFetch x v r
def gGoal (x:Gm) (s:Int):Int:=if (x.pl s).cell then 15 else (x.pl s).n
def gKeep (x:Gm) (s:Int):List Ins:=if (x.pl s).cell then [gStore x 15 (x.base+(x.pl s).n)] else []
def gSetN (x:Gm) (n:Nod):List Ins:=
 if n.op=0 then gMove x n.a (gGoal x n.slot)++gKeep x n.slot
 else gFetch x n.a 13++(if twoB n.op then gFetch x n.b 14 else []) ++
  [{ (ua:Ins) with kind:=2,op:=n.op,d:=gGoal x n.slot,a:=gReg x n.a 13,b:=(if twoB n.op then gReg x n.b 14 else 0),from_:=x.fr }]++gKeep x n.slot
def gSwapN (x:Gm) (n:Nod):List Ins:=
 gMove x n.a 15++[gSwap x 15 n.thing]++(if (x.pl n.slot).cell then gKeep x n.slot else [gOr x (x.pl n.slot).n 15])
def gNode (x:Gm) (len:Int) (n:Nod):List Ins:=
 if n.kind=1 then gSetN x n
 else if n.kind=2 then [gLoad x (gGoal x n.slot) n.thing]++gKeep x n.slot
 else if n.kind=3 then gFetch x n.a 13++[gStore x (gReg x n.a 13) n.thing]
 else if n.kind=4 then gSwapN x n
 else if n.kind=5 then [gSet x 15 1,gSwap x 15 (x.shared+n.thing),gZero x 15 (len+4),gJump x len]
 else if n.kind=6 then [gSet x 15 0,gStore x 15 (x.shared+n.thing)]
 else if n.kind=7 then gFetch x n.a 13++[gPrint x (gReg x n.a 13)]
 else if n.kind=8 then (if n.els=n.next then [] else gFetch x n.a 13++[gZero x (gReg x n.a 13) n.els])
 else [{ (ua:Ins) with kind:=10,from_:=x.fr }]
noncomputable abbrev MTi:MT:=MT.mk jb 88 3 3 [CK.i ja] false [CK.i ja] false
theorem Qjg:MTi.Ok:=MT.ok_int (by kernel_rfl) (by kernel_rfl) (.inr rfl) (fun w=>by kernel_rfl)
def putL (fr:Int) (l:List Ins):List Ins:=l.map fun i=>{ i with from_:=fr }
theorem Qgk {fr:Int} {l:List Ins} {k:Int} (h0:0≤k) (h:k<(l.length:Int)) (code:List Ins):code++putL fr (l.take (k+1).toNat)=(code++putL fr (l.take k.toNat))++[{ l.getD k.toNat ua with from_:=fr }]:=by
 have hl:k.toNat<l.length:=by omega
 rw [show (k+1).toNat=k.toNat+1 by omega,jM hl,jV]
 unfold putL
 rw [kG,jc,jd hl]
 rfl
theorem Q05 (fr:Int) (l:List Ins):(putL fr l).length=l.length:=jP _
theorem gnt {b:Bool} (h:(!b)=true):b=false:=by cases b<;>simp at h ⊢
theorem gnf {b:Bool} (h:(!b)=false):b=true:=by cases b<;>simp at h ⊢
section
variable {gm:Gm} {s r:Int} {v:Vl} {n:Nod}
theorem Qmc (h:(gm.pl s).cell=true):gGoal gm s=15:=by unfold gGoal;rw [if_pos h]
theorem Qmd (h:(gm.pl s).cell=false):gGoal gm s=(gm.pl s).n:=by unfold gGoal;rw [if_neg W215]
theorem Qme (h:(gm.pl s).cell=true):gKeep gm s=putL gm.fr [Ins.mk 4 0 0 15 0 (gm.base+(gm.pl s).n) 0 0 0]:=by unfold gKeep;rw [if_pos h];rfl
theorem Qmf (h:(gm.pl s).cell=false):gKeep gm s=[]:=by unfold gKeep;rw [if_neg W215]
theorem Qjh (h:v.slotted=false):gFetch gm v r=putL gm.fr [Ins.mk 1 0 r 0 0 0 0 v.word 0]∧gReg gm v r=r:=by
 unfold gFetch gReg;rw [h];exact ⟨rfl,rfl⟩
theorem Qji (h:v.slotted=true) (h2:(gm.pl v.slot).cell=true):gFetch gm v r=putL gm.fr [Ins.mk 3 0 r 0 0 (gm.base+(gm.pl v.slot).n) 0 0 0]∧gReg gm v r=r:=by
 unfold gFetch gReg;rw [h,h2];exact ⟨rfl,rfl⟩
theorem Qbh (h:v.slotted=true) (h2:(gm.pl v.slot).cell=false):gFetch gm v r=[]∧gReg gm v r=(gm.pl v.slot).n:=by
 unfold gFetch gReg;rw [h,h2];exact ⟨rfl,rfl⟩
theorem Qmg (h:(v.slotted&&!(gm.pl v.slot).cell)=true):gMove gm v r=gFetch gm v r++putL gm.fr [Ins.mk 2 7 r (gReg gm v r) (gReg gm v r) 0 0 0 0]:=by
 have h2:=h
 rw [ji,jJ] at h2
 have e:=Qbh (gm:=gm) (v:=v) (r:=r) h2.1 h2.2
 unfold gMove;rw [if_pos h,e.1,e.2];rfl
theorem Qmh (h:(v.slotted&&!(gm.pl v.slot).cell)=false):gMove gm v r=gFetch gm v r:=by unfold gMove;rw [if_neg W215]
theorem Zj:(gFetch gm v r).length≤1:=by unfold gFetch;split<;>(try split)<;>simp
theorem Q8y:(gKeep gm s).length≤1:=by unfold gKeep;split<;>simp
theorem Q0k:(gMove gm v r).length≤1:=by unfold gMove;split<;>first | exact Zj | simp
theorem Qor (h:decide (n.op=(0:Int))=true):gSetN gm n=gMove gm n.a (gGoal gm n.slot)++gKeep gm n.slot:=by unfold gSetN;rw [if_pos (ub h)]
theorem Qos (h:decide (n.op=(0:Int))=false) (h2:twoB n.op=true):gSetN gm n=gFetch gm n.a 13++gFetch gm n.b 14++putL gm.fr [Ins.mk 2 n.op (gGoal gm n.slot) (gReg gm n.a 13) (gReg gm n.b 14) 0 0 0 0]++gKeep gm n.slot:=by
 unfold gSetN;rw [if_neg (uc h),if_pos h2,if_pos h2];rfl
theorem Qot (h:decide (n.op=(0:Int))=false) (h2:twoB n.op=false):gSetN gm n=gFetch gm n.a 13++putL gm.fr [Ins.mk 2 n.op (gGoal gm n.slot) (gReg gm n.a 13) 0 0 0 0 0]++gKeep gm n.slot:=by
 have h3:¬ twoB n.op=true:=by rw [h2];decide
 unfold gSetN;rw [if_neg (uc h),if_neg h3,if_neg h3,jZ];rfl
theorem Qmi (h:(gm.pl n.slot).cell=true):gSwapN gm n=gMove gm n.a 15++putL gm.fr [Ins.mk 5 0 15 0 0 n.thing 0 0 0]++gKeep gm n.slot:=by unfold gSwapN;rw [if_pos h];rfl
theorem Qmj (h:(gm.pl n.slot).cell=false):gSwapN gm n=gMove gm n.a 15++putL gm.fr [Ins.mk 5 0 15 0 0 n.thing 0 0 0]++putL gm.fr [Ins.mk 2 7 (gm.ps.getD n.slot.toNat ua).n 15 15 0 0 0 0]:=by unfold gSwapN;rw [if_neg W215];rfl
def gBranch (gm:Gm) (n:Nod):List Ins:=if n.els=n.next then [] else gFetch gm n.a 13++putL gm.fr [Ins.mk 9 0 0 (gReg gm n.a 13) 0 0 n.els 0 0]
theorem Qgl (h:decide (n.els=n.next)=true):gBranch gm n=[]:=by unfold gBranch;rw [if_pos (ub h)]
theorem Qgm (h:decide (n.els=n.next)=false):gBranch gm n=gFetch gm n.a 13++putL gm.fr [Ins.mk 9 0 0 (gReg gm n.a 13) 0 0 n.els 0 0]:=by unfold gBranch;rw [if_neg (uc h)]
structure NdQ (gm:Gm) (n:Nod):Prop where
 slot:n.kind=1∨n.kind=2∨n.kind=4→0≤n.slot∧n.slot<(gm.ps.length:Int)
 a:n.a.slotted=true→0≤n.a.slot∧n.a.slot<(gm.ps.length:Int)
 b:n.b.slotted=true→0≤n.b.slot∧n.b.slot<(gm.ps.length:Int)
 th:0≤n.thing∧n.thing≤1000
structure GmQ (gm:Gm):Prop where
 b0:0≤gm.base∧gm.base≤100000
 s0:0≤gm.shared∧gm.shared≤100000
 p0:∀ i:Nat,i<gm.ps.length→0≤(gm.ps.getD i default).n∧(gm.ps.getD i default).n≤4160
end
def innF (F:Int→Option Int) (n:Int):Int→Option Int:=fun a=>if a=n+3 then some 1 else if a=n+2 then some 1 else F a
theorem Qou (F:Int→Option Int) (n:Int) (cN:Nat):MpEq MTi (cN+4) (fun (a:Int)=>(innF F n a).isSome) (fun (a:Int)=>(innF F n a).getD (0:Int)) none MTi (cN+1+1+1+1) (fun (p:Int)=>decide (p=n+3)||(decide (p=n+3)||(decide (p=n+2)||(decide (p=n+2)||(F p).isSome))))
 (fun (p:Int)=>if p=n+3 then (1:Int) else if p=n+2 then (1:Int) else (F p).getD (0:Int)) none:=by
 refine MpEq.mk' (jn _) ?_ ?_<;>intro (q:Int)<;>unfold innF<;>(try dsimp only)<;>by_cases h1:q=n+3<;>by_cases h2:q=n+2<;>(simp [h1,h2];try rfl)
theorem MT.okv_int {P:Program} {t k e:Nat} {z:Value} {q:IntKind} (ht:P.underlying t=some (.map k e)) (hk:P.underlying k=some (.int q)) (hz:∀ w,(zeroValue e).run P w=.ok z w):MT.OkV ⟨P,t,k,e,[.i q],false,[],false⟩ z where
 map:=ht
 key:=Go.Maps.int_keyed hk
 lit:=fun a ha=>⟨_,Go.Maps.keyOf_int_mk hk ha⟩
 one:=.inr rfl
 zero:=hz
noncomputable abbrev MTm:MT:=MT.mk jb 123 97 104 [CK.i jx] false [] false
theorem Qmk:MTm.OkV .nilFunc:=MT.okv_int (by kernel_rfl) (by kernel_rfl) (fun w=>by kernel_rfl)
abbrev mkEnts:List (Int×C):=[((9:Int),C.fn 108 true [0]),((8:Int),C.fn 107 true [0]),((7:Int),C.fn 106 true [0]),((6:Int),C.fn 105 true [0]),((5:Int),C.fn 104 true [0]),((4:Int),C.fn 103 true [0]),((3:Int),C.fn 102 true [0]),((2:Int),C.fn 101 true [0]),((1:Int),C.fn 100 true [0])]
def hasF (fe:List Int) (k:Int):Bool:=decide (0≤idxF fe k 0)
def jmpB (k:Int) (n:Nod):Bool:=!decide (n.kind=9)&&!decide (n.next=k+1)
def innS (F:Int→Option Int) (nd:Nod) (n:Int):Int→Option Int:=if nd.kind=5 then innF F n else F
section
variable (ps:List Plc) (ba sh:Int) (fe:List Int) (l:List Nod)
def gmA (n:Nod):Gm:=⟨ps,ba,sh,n.origin+1⟩
def fenC (k:Nat) (code:List Ins):List Ins:=if hasF fe k then code++putL ((l.getD k ua).origin+1) [Ins.mk 6 0 0 0 0 0 0 0 0] else code
def nodC (k:Nat) (code:List Ins):List Ins:=fenC fe l k code++gNode (gmA ps ba sh (l.getD k ua)) ((fenC fe l k code).length:Int) (l.getD k ua)
def stepC (k:Nat) (code:List Ins):List Ins:=if jmpB k (l.getD k ua) then nodC ps ba sh fe l k code++putL ((l.getD k ua).origin+1) [Ins.mk 8 0 0 0 0 0 (l.getD k ua).next 0 0] else nodC ps ba sh fe l k code
def codeA:Nat→List Ins
 | 0=>[]
 | k+1=>stepC ps ba sh fe l k (codeA k)
def starA (k:Nat):List Int:=(jB k).map fun i=>((codeA ps ba sh fe l i).length:Int)
def innA:Nat→Int→Option Int
 | 0=>fun _=>none
 | k+1=>innS (innA k) (l.getD k ua) ((fenC fe l k (codeA ps ba sh fe l k)).length:Int)
end
section
variable {gm:Gm} {n:Nod} {k:Int}
theorem Qml (h:n.kind=1):gNode gm k n=gSetN gm n:=by unfold gNode;rw [if_pos h]
theorem Qmm (h:n.kind=2):gNode gm k n=putL gm.fr [Ins.mk 3 0 (gGoal gm n.slot) 0 0 n.thing 0 0 0]++gKeep gm n.slot:=by unfold gNode;rw [if_neg W30,if_pos h];rfl
theorem Qmn (h:n.kind=3):gNode gm k n=gFetch gm n.a 13++putL gm.fr [Ins.mk 4 0 0 (gReg gm n.a 13) 0 n.thing 0 0 0]:=by unfold gNode;rw [if_neg W30,if_neg W30,if_pos h];rfl
theorem Qmo (h:n.kind=4):gNode gm k n=gSwapN gm n:=by unfold gNode;rw [if_neg W30,if_neg W30,if_neg W30,if_pos h]
theorem Qdb (h:n.kind=5):gNode gm k n=putL gm.fr [Ins.mk 1 0 15 0 0 0 0 1 0,Ins.mk 5 0 15 0 0 (gm.shared+n.thing) 0 0 0,Ins.mk 9 0 0 15 0 0 (k+4) 0 0,Ins.mk 8 0 0 0 0 0 k 0 0]:=by
 unfold gNode;rw [if_neg W30,if_neg W30,if_neg W30,if_neg W30,if_pos h];rfl
theorem Qmp (h:n.kind=6):gNode gm k n=putL gm.fr [Ins.mk 1 0 15 0 0 0 0 0 0,Ins.mk 4 0 0 15 0 (gm.shared+n.thing) 0 0 0]:=by
 unfold gNode;rw [if_neg W30,if_neg W30,if_neg W30,if_neg W30,if_neg W30,if_pos h];rfl
theorem Qmq (h:n.kind=7):gNode gm k n=gFetch gm n.a 13++putL gm.fr [Ins.mk 7 0 0 (gReg gm n.a 13) 0 0 0 0 0]:=by
 unfold gNode;rw [if_neg W30,if_neg W30,if_neg W30,if_neg W30,if_neg W30,if_neg W30,if_pos h];rfl
theorem Qmr (h:n.kind=8):gNode gm k n=gBranch gm n:=by
 unfold gNode gBranch;rw [if_neg W30,if_neg W30,if_neg W30,if_neg W30,if_neg W30,if_neg W30,if_neg W30,if_pos h];rfl
theorem Qdc (h:n.kind=9):gNode gm k n=putL gm.fr [Ins.mk 10 0 0 0 0 0 0 0 0]:=by
 unfold gNode;rw [if_neg W30,if_neg W30,if_neg W30,if_neg W30,if_neg W30,if_neg W30,if_neg W30,if_neg W30];rfl
theorem Qov {F:Int→Option Int} (h:n.kind=5):innS F n k=innF F k:=by unfold innS;rw [if_pos h]
theorem Qgn {F:Int→Option Int} (h:n.kind≠5):innS F n k=F:=by unfold innS;rw [if_neg h]
end
def fixI (s:List Int) (F:Int→Option Int) (i:Nat) (c:Ins):Ins:=if (c.kind=8∨c.kind=9)∧(F (i:Int)).getD 0=0 then { c with to:=s.getD c.to.toNat 0 } else c
def fixN (s:List Int) (F:Int→Option Int) (code:List Ins):Nat→List Ins
 | 0=>code
 | k+1=>(fixN s F code k).set k (fixI s F k ((fixN s F code k).getD k ua))
theorem Q5o (s:List Int) (F:Int→Option Int) (code:List Ins):∀ k,(fixN s F code k).length=code.length
 | 0=>rfl
 | k+1=>by show ((fixN s F code k).set k _).length=_;rw [jF,Q5o s F code k]
theorem Qdd (s:List Int) (F:Int→Option Int) (code:List Ins):∀ (k i:Nat),k≤i→(fixN s F code k).getD i ua=code.getD i ua
 | 0,_,_=>rfl
 | k+1,i,h=>by
   show ((fixN s F code k).set k _).getD i ua=_
   rw [jc,jE W30,← jc,Qdd s F code k i W30]
structure AlJ (ps:List Plc) (ba sh:Int) (fe:List Int) (l:List Nod) (x:Int) (c:List Ins) (s:List Int) (n:Nat) (F:Int→Option Int):Prop where
 x0:0≤x
 xl:x≤(l.length:Int)
 code:c=codeA ps ba sh fe l x.toNat
 star:s=starA ps ba sh fe l x.toNat
 cnt:n≤4 * x.toNat
 inn:F=innA ps ba sh fe l x.toNat
 len:c.length≤16384
section
variable {ps:List Plc} {ba sh:Int} {fe:List Int} {l:List Nod} {x:Int} {c:List Ins} {s:List Int} {n:Nat} {F:Int→Option Int}
theorem AlJ.start {F0:Int→Option Int} (h:∀ a,F0 a=none):AlJ ps ba sh fe l 0 [] [] 0 F0:=⟨jz _,by omega,rfl,rfl,j9 _,funext h,j9 _⟩
theorem Qer:starA ps ba sh fe l (x.toNat+1)=starA ps ba sh fe l x.toNat++[((codeA ps ba sh fe l x.toNat).length:Int)]:=by unfold starA;rw [kw,kG];rfl
theorem AlJ.next (h:AlJ ps ba sh fe l x c s n F) (hx:x<(l.length:Int)) {c':List Ins} (hc:c'=stepC ps ba sh fe l x.toNat c) (hb:decide ((16384:Int)<(c'.length:Int))=false) :
 AlJ ps ba sh fe l (x+1) c' (s++[(c.length:Int)]) (n+4) (innS F (l.getD x.toNat ua) ((fenC fe l x.toNat c).length:Int)):=by
 have h0:=h.x0
 have e:(x+1).toNat=x.toNat+1:=by omega
 refine ⟨by omega,by omega,?_,?_,by have:=h.cnt;omega,?_,by have:=uc hb;omega⟩
 ·rw [e,hc,h.code];rfl
 ·rw [e,Qer,h.star,h.code]
 ·rw [e,h.inn,h.code];rfl
theorem Qms {k:Nat} (h:(!decide ((l.getD k ua).kind=(9:Int))&&!decide ((l.getD k ua).next=(k:Int)+1))=true):stepC ps ba sh fe l k c=nodC ps ba sh fe l k c++putL ((l.getD k ua).origin+1) [Ins.mk 8 0 0 0 0 0 (l.getD k ua).next 0 0]:=by unfold stepC jmpB;rw [if_pos h]
theorem Qmt {k:Nat} (h:(!decide ((l.getD k ua).kind=(9:Int))&&!decide ((l.getD k ua).next=(k:Int)+1))=false):stepC ps ba sh fe l k c=nodC ps ba sh fe l k c:=by unfold stepC jmpB;rw [if_neg W215]
end
theorem Qgo (gm:Gm) (k:Int) (n:Nod):(gNode gm k n).length≤4:=by
 have a1:=Zj (gm:=gm) (v:=n.a) (r:=13)
 have a2:=Zj (gm:=gm) (v:=n.b) (r:=14)
 have a3:=Q8y (gm:=gm) (s:=n.slot)
 have a4:=Q0k (gm:=gm) (v:=n.a) (r:=gGoal gm n.slot)
 have a5:=Q0k (gm:=gm) (v:=n.a) (r:=15)
 unfold gNode gSetN gSwapN
 repeat' split
 all_goals simp only [jt,j6,List.length_nil]
 all_goals omega
theorem Q2h (fe:List Int) (l:List Nod) (k:Nat) (c:List Ins):c.length≤(fenC fe l k c).length∧(fenC fe l k c).length≤c.length+1:=by
 unfold fenC;split<;>simp [Q05]
theorem Q5p (ps:List Plc) (ba sh:Int) (fe:List Int) (l:List Nod) (k:Nat) (c:List Ins):c.length≤(nodC ps ba sh fe l k c).length∧(nodC ps ba sh fe l k c).length≤c.length+5:=by
 have a:=Q2h fe l k c
 have b:=Qgo (gmA ps ba sh (l.getD k ua)) ((fenC fe l k c).length:Int) (l.getD k ua)
 unfold nodC;rw [jt];omega
theorem Q3w (ps:List Plc) (ba sh:Int) (fe:List Int) (l:List Nod) (k:Nat) (c:List Ins):c.length≤(stepC ps ba sh fe l k c).length∧(stepC ps ba sh fe l k c).length≤c.length+6:=by
 have a:=Q5p ps ba sh fe l k c
 unfold stepC;split
 ·rw [jt,Q05];simp only [j6,List.length_nil];omega
 ·omega
theorem Q6z (ps:List Plc) (ba sh:Int) (fe:List Int) (l:List Nod) (i:Nat):∀ d:Nat,(codeA ps ba sh fe l i).length≤(codeA ps ba sh fe l (i+d)).length
 | 0=>jn _
 | d+1=>kr (Q6z ps ba sh fe l i d) (Q3w ps ba sh fe l (i+d) _).1
def okA (ps:List Plc) (ba sh:Int) (fe:List Int) (l:List Nod):Bool:=decide ((codeA ps ba sh fe l l.length).length≤16384)
def finA (ps:List Plc) (ba sh:Int) (fe:List Int) (l:List Nod):List Ins:=fixN (starA ps ba sh fe l l.length) (innA ps ba sh fe l l.length) (codeA ps ba sh fe l l.length) (codeA ps ba sh fe l l.length).length
theorem Qow {ps:List Plc} {ba sh:Int} {fe:List Int} {l:List Nod} {x:Int} {c:List Ins} {s:List Int} {n:Nat} {F:Int→Option Int} (h:AlJ ps ba sh fe l x c s n F) (hx:x<(l.length:Int)) (hb:decide ((16384:Int)<((stepC ps ba sh fe l x.toNat c).length:Int))=true):false=okA ps ba sh fe l:=by
 have hb:=ub hb
 have h0:=h.x0
 have m:=Q6z ps ba sh fe l (x.toNat+1) (l.length-(x.toNat+1))
 rw [show x.toNat+1+(l.length-(x.toNat+1))=l.length by omega] at m
 have e:codeA ps ba sh fe l (x.toNat+1)=stepC ps ba sh fe l x.toNat c:=by rw [h.code];rfl
 rw [e] at m
 unfold okA
 rw [decide_eq_false W30]
def ToA (ps:List Plc) (ba sh:Int) (fe:List Int) (l:List Nod):Prop:=∀ i:Nat,i<(codeA ps ba sh fe l l.length).length→((codeA ps ba sh fe l l.length).getD i ua).kind=8∨((codeA ps ba sh fe l l.length).getD i ua).kind=9 →
 (innA ps ba sh fe l l.length (i:Int)).getD 0=0→0≤((codeA ps ba sh fe l l.length).getD i ua).to∧((codeA ps ba sh fe l l.length).getD i ua).to<(l.length:Int)
section
variable {ps:List Plc} {ba sh:Int} {fe:List Int} {l:List Nod} {x:Int} {c cd:List Ins} {s:List Int} {n:Nat} {F:Int→Option Int} {i:Int}
theorem Qox (h0:0≤x) (h:hasF fe x=true):fenC fe l x.toNat c=c++putL ((l.getD x.toNat ua).origin+1) [Ins.mk 6 0 0 0 0 0 0 0 0]:=by unfold fenC;rw [kp h0,if_pos h]
theorem Qoy (h0:0≤x) (h:hasF fe x=false):fenC fe l x.toNat c=c:=by unfold fenC;rw [kp h0,if_neg W215]
theorem Qjj (h0:0≤x) (h:(!decide ((l.getD x.toNat ua).kind=(9:Int))&&!decide ((l.getD x.toNat ua).next=x+1))=true):stepC ps ba sh fe l x.toNat c=nodC ps ba sh fe l x.toNat c++putL ((l.getD x.toNat ua).origin+1) [Ins.mk 8 0 0 0 0 0 (l.getD x.toNat ua).next 0 0]:=
 Qms (by rw [kp h0];exact h)
theorem Qjk (h0:0≤x) (h:(!decide ((l.getD x.toNat ua).kind=(9:Int))&&!decide ((l.getD x.toNat ua).next=x+1))=false):stepC ps ba sh fe l x.toNat c=nodC ps ba sh fe l x.toNat c:=
 Qmt (by rw [kp h0];exact h)
theorem Ql1 {a b d:Bool} (h:((a||b)&&d)=true):(a=true∨b=true)∧d=true:=by cases a<;>cases b<;>cases d<;>simp at h ⊢
theorem Qqy (h0:0≤i) (hcd:cd=fixN s F c i.toNat) (hb:((decide ((cd.getD i.toNat ua).kind=(8:Int))||decide ((cd.getD i.toNat ua).kind=(9:Int)))&&decide ((F i).getD (0:Int)=(0:Int)))=true) :
 cd.set i.toNat { cd.getD i.toNat ua with to:=s.getD (cd.getD i.toNat ua).to.toNat 0 }=fixN s F c (i+1).toNat:=by
 have b:=Ql1 hb
 rw [show (i+1).toNat=i.toNat+1 by omega,fixN,← hcd]
 unfold fixI
 rw [kp h0,if_pos ⟨by rcases b.1 with q | q;exact .inl (ub q);exact .inr (ub q),ub b.2⟩]
theorem Qqz (h0:0≤i) (hi:i<(c.length:Int)) (hcd:cd=fixN s F c i.toNat) (hb:((decide ((cd.getD i.toNat ua).kind=(8:Int))||decide ((cd.getD i.toNat ua).kind=(9:Int)))&&decide ((F i).getD (0:Int)=(0:Int)))=false) :
 cd=fixN s F c (i+1).toNat:=by
 have hl:i.toNat<cd.length:=by rw [hcd,Q5o];omega
 rw [show (i+1).toNat=i.toNat+1 by omega,fixN,← hcd]
 unfold fixI
 rw [kp h0,if_neg (fun q=>by
  rw [decide_eq_true q.2,Bool.and_true,jT] at hb
  rcases q.1 with q | q
  ·exact uc hb.1 q
  ·exact uc hb.2 q)]
 rw [jc,jd hl]
 exact (List.set_getElem_self hl).symm
theorem AlJ.to (h:AlJ ps ba sh fe l x c s n F) (hx:¬ x<(l.length:Int)) (ht:ToA ps ba sh fe l) (h0:0≤i) (hi:i<(c.length:Int)) (hcd:cd=fixN s F c i.toNat) (hb:((decide ((cd.getD i.toNat ua).kind=(8:Int))||decide ((cd.getD i.toNat ua).kind=(9:Int)))&&decide ((F i).getD (0:Int)=(0:Int)))=true) :
 0≤(cd.getD i.toNat ua).to∧(cd.getD i.toNat ua).to<(s.length:Int):=by
 have e:x.toNat=l.length:=by have:=h.x0;have:=h.xl;omega
 have b:=Ql1 hb
 have hg:cd.getD i.toNat ua=c.getD i.toNat default:=by rw [hcd];exact Qdd s F c _ _ (jn _)
 rw [hg] at b ⊢
 have hc:=h.code
 have hF:=h.inn
 have hs:=h.star
 rw [e] at hc hF hs
 subst hc hF hs
 have:=ht i.toNat W30 (by rcases b.1 with q | q;exact .inl (ub q);exact .inr (ub q)) (by rw [kp h0];exact ub b.2)
 refine ⟨this.1,?_⟩
 unfold starA;rw [jP,List.length_range];exact this.2
theorem AlJ.done (h:AlJ ps ba sh fe l x c s n F) (hx:¬ x<(l.length:Int)) (hi0:0≤i) (hi:i≤(c.length:Int)) (hi2:¬ i<(c.length:Int)) (hcd:cd=fixN s F c i.toNat):true=okA ps ba sh fe l∧(true=true→cd=finA ps ba sh fe l∧s=starA ps ba sh fe l l.length):=by
 have e:x.toNat=l.length:=by have:=h.x0;have:=h.xl;omega
 have hc:=h.code
 have hF:=h.inn
 have hs:=h.star
 have hl:=h.len
 rw [e] at hc hF hs
 have ei:i.toNat=c.length:=by omega
 refine ⟨?_,fun _=>⟨?_,hs⟩⟩
 ·unfold okA;rw [decide_eq_true (by rw [← hc];exact hl)]
 ·rw [hcd,ei];unfold finA;rw [← hc,← hF,← hs]
end
theorem Qgp (l:List Ins) (k:Nat) (v:Int):∀ i,i<(l.set k { l.getD k ua with to:=v }).length→Ins.tc ((l.set k { l.getD k ua with to:=v }).getD i ua)=updT (fun i=>Ins.tc (l.getD i ua)) k 6 [.int .i64 v] i:=
 Za ua Ins.tc l k 6 _ _ (fun j=>by rcases j with _ | _ | _ | _ | _ | _ | _ | _ | _ | j<;>simp [Ins.tc,Ins.tl,nthT,nth])
def Good (P:Ins→Prop) (N k L:Nat) (F:Int→Option Int) (i:Nat) (x:Ins):Prop:=
 P x∧(x.kind=8∨x.kind=9→if (F (i:Int)).getD 0=0 then 0≤x.to∧x.to<(N:Int) else 0≤x.to∧(x.to<(L:Int)∨(k<N∧x.to≤(L:Int))))
def CodJ (P:Ins→Prop) (N k:Nat) (c:List Ins) (F:Int→Option Int):Prop:=
 (∀ i:Nat,i<c.length→Good P N k c.length F i (c.getD i ua))∧∀ i:Nat,c.length≤i→F (i:Int)=none
theorem Q0l {l m:List Ins} {i:Nat} (h:i<l.length):(l++m).getD i ua=l.getD i default:=by
 rw [jc,jp h,← jc]
theorem Q3x {l m:List Ins} {i:Nat} (h:l.length≤i):(l++m).getD i ua=m.getD (i-l.length) default:=by
 rw [jc,jA h,← jc]
theorem Q2i {l:List Ins} {i:Nat} (h:i<l.length):l.getD i ua∈l:=by
 rw [jc,jd h];exact jN h
section
variable {P:Ins→Prop} {N k:Nat} {c seg:List Ins} {F F':Int→Option Int}
theorem CodJ.app (h:CodJ P N k c F) (hF:∀ i:Nat,i<c.length→F' (i:Int)=F (i:Int)) (hs:∀ j:Nat,j<seg.length→Good P N (k+1) (c.length+seg.length) F' (c.length+j) (seg.getD j ua))
 (hk:k<N) (hne:k+1=N→seg≠[]) (hhi:∀ i:Nat,c.length+seg.length≤i→F' (i:Int)=none):CodJ P N (k+1) (c++seg) F':=by
 refine ⟨fun i hi=>?_,fun i hi=>hhi i (by rw [jt] at hi;exact hi)⟩
 rw [jt] at hi ⊢
 by_cases hc:i<c.length
 ·rw [Q0l hc]
  obtain ⟨g1,g2⟩:=h.1 i hc
  refine ⟨g1,fun hj=>?_⟩
  have g:=g2 hj
  rw [hF i hc]
  split
  ·rename_i e;rw [if_pos e] at g;exact g
  ·rename_i e;rw [if_neg e] at g
   refine ⟨g.1,?_⟩
   rcases g.2 with q | q
   ·exact .inl W30
   ·by_cases hs0:seg=[]
    ·subst hs0
     refine .inr ⟨by have:=mt hne W162;omega,by simpa using q.2⟩
    ·have:0<seg.length:=List.length_pos_iff.2 hs0
     exact .inl W30
 ·rw [Q3x W30]
  have:=hs (i-c.length) W30
  rw [show c.length+(i-c.length)=i by omega] at this
  exact this
theorem CodJ.plain (h:CodJ P N k c F) (hs:∀ x∈seg,P x∧(x.kind=8∨x.kind=9→0≤x.to∧x.to<(N:Int))) (hk:k<N) (hne:k+1=N→seg≠[]):CodJ P N (k+1) (c++seg) F:=
 h.app (fun _ _=>rfl) (fun j hj=>by
  have:=hs _ (Q2i hj)
  refine ⟨this.1,fun q=>?_⟩
  rw [h.2 _ W30]
  exact this.2 q) hk hne (fun i hi=>h.2 i W30)
end
theorem nk {a:Int} (h:(a==8||a==9)=false):a≠8∧a≠9:=by
 simp only [jT,beq_eq_false_iff_ne] at h
 exact h
theorem nj {a:Int} (h:(a==8||a==9)=false) (q:a=8∨a=9):False:=q.elim (nk h).1 (nk h).2
theorem Q5q {gm:Gm} {v:Vl} {r:Int} {x:Ins} (h:x∈gFetch gm v r):x.kind≠8∧x.kind≠9:=by
 unfold gFetch at h
 split at h
 ·split at h
  ·cases List.mem_singleton.1 h;exact nk rfl
  ·cases h
 ·cases List.mem_singleton.1 h;exact nk rfl
theorem Qmu {gm:Gm} {s:Int} {x:Ins} (h:x∈gKeep gm s):x.kind≠8∧x.kind≠9:=by
 unfold gKeep at h
 split at h
 ·cases List.mem_singleton.1 h;exact nk rfl
 ·cases h
theorem Qmv {gm:Gm} {v:Vl} {r:Int} {x:Ins} (h:x∈gMove gm v r):x.kind≠8∧x.kind≠9:=by
 unfold gMove at h
 split at h
 ·cases List.mem_singleton.1 h;exact nk rfl
 ·exact Q5q h
theorem Qmw {gm:Gm} {len:Int} {n:Nod} (h5:n.kind≠5) {x:Ins} (h:x∈gNode gm len n) (hj:x.kind=8∨x.kind=9):n.kind=8∧x.to=n.els:=by
 unfold gNode gSetN gSwapN at h
 repeat' split at h
 all_goals simp only [kH,kD,kq,or_false] at h
 all_goals first
  | exact absurd ‹n.kind=5› h5
  | (rcases h with h | h
     ·have:=Q5q h;omega
     ·subst h;exact ⟨by assumption,rfl⟩)
  | (exfalso
     repeat' (rcases h with h | h)
     all_goals first
      | (have:=Q5q h;omega)
      | (have:=Qmv h;omega)
      | (have:=Qmu h;omega)
      | exact nj rfl hj
      | (subst h;exact nj rfl hj)
      | cases h)
section
variable {P:Ins→Prop} {ps:List Plc} {ba sh:Int} {fe:List Int} {l:List Nod}
structure NodG (P:Ins→Prop) (ps:List Plc) (ba sh:Int) (N:Nat) (n:Nod):Prop where
 fence:P { (Ins.mk 6 0 0 0 0 0 0 0 0) with from_:=n.origin+1 }
 code:∀ len:Int,∀ x∈gNode (gmA ps ba sh n) len n,P x
 jump:P { (Ins.mk 8 0 0 0 0 0 n.next 0 0) with from_:=n.origin+1 }
 next:n.kind≠9→0≤n.next∧n.next<(N:Int)
 els:n.kind=8→0≤n.els∧n.els<(N:Int)
theorem Qde {F:Int→Option Int} {nd:Nod} {n:Int} {i:Nat} (h:(i:Int)<n+2):innS F nd n (i:Int)=F (i:Int):=by
 unfold innS innF;split
 ·show (if (i:Int)=n+3 then some 1 else if (i:Int)=n+2 then some 1 else F i)=_
  rw [if_neg W30,if_neg W30]
 ·rfl
theorem Qdf {F:Int→Option Int} {nd:Nod} {n:Int} {i:Nat} (h:n+4≤(i:Int)):innS F nd n (i:Int)=F (i:Int):=by
 unfold innS innF;split
 ·show (if (i:Int)=n+3 then some 1 else if (i:Int)=n+2 then some 1 else F i)=_
  rw [if_neg W30,if_neg W30]
 ·rfl
theorem Qgq {k:Nat} {c:List Ins}:stepC ps ba sh fe l k c=c++((if hasF fe k then [{ (Ins.mk 6 0 0 0 0 0 0 0 0) with from_:=(l.getD k ua).origin+1 }] else [])++gNode (gmA ps ba sh (l.getD k ua)) ((fenC fe l k c).length:Int) (l.getD k ua)++(if jmpB k (l.getD k ua) then [{ (Ins.mk 8 0 0 0 0 0 (l.getD k ua).next 0 0) with from_:=(l.getD k ua).origin+1 }] else [])):=by
 unfold stepC nodC
 have e:fenC fe l k c=c++(if hasF fe k then [{ (Ins.mk 6 0 0 0 0 0 0 0 0) with from_:=(l.getD k ua).origin+1 }] else []):=by
  unfold fenC;split
  ·rfl
  ·rw [jZ]
 split
 ·rw [e];simp [putL]
 ·rw [e];simp
theorem CodJ.step {k:Nat} {c:List Ins} {F:Int→Option Int} (h:CodJ P l.length k c F) (hk:k<l.length) (hn:NodG P ps ba sh l.length (l.getD k ua)) :
 CodJ P l.length (k+1) (stepC ps ba sh fe l k c) (innS F (l.getD k ua) ((fenC fe l k c).length:Int)):=by
 have hlast:k+1=l.length→jmpB k (l.getD k ua)=true∨(l.getD k ua).kind=9:=fun e=>by
  by_cases h9:(l.getD k ua).kind=9
  ·exact .inr h9
  ·left
   have:=hn.next h9
   unfold jmpB
   rw [decide_eq_false h9,decide_eq_false W30];rfl
 have hjmp:jmpB k (l.getD k ua)=true→(l.getD k ua).kind≠9:=fun e q=>by
  unfold jmpB at e;rw [decide_eq_true q] at e;cases e
 have hf:=Q2h fe l k c
 have hfl:(fenC fe l k c).length=c.length+(if hasF fe k then [{ (Ins.mk 6 0 0 0 0 0 0 0 0) with from_:=(l.getD k ua).origin+1 }] else ([]:List Ins)).length:=by
  unfold fenC;split
  ·rw [jt,Q05];rfl
  ·rfl
 rw [Qgq]
 by_cases h5:(l.getD k ua).kind=5
 ·have hg:=Qdb (gm:=gmA ps ba sh (l.getD k ua)) (k:=((fenC fe l k c).length:Int)) h5
  have hin:∀ i:Nat,(innS F (l.getD k ua) ((fenC fe l k c).length:Int)) (i:Int)=if (i:Int)=((fenC fe l k c).length:Int)+3 then some 1 else if (i:Int)=((fenC fe l k c).length:Int)+2 then some 1 else F (i:Int):=fun i=>by unfold innS innF;rw [if_pos h5]
  have hcode:=hn.code ((fenC fe l k c).length:Int)
  rw [hg] at hcode ⊢
  have hl4:(putL (gmA ps ba sh (l.getD k ua)).fr [Ins.mk 1 0 15 0 0 0 0 1 0,Ins.mk 5 0 15 0 0 ((gmA ps ba sh (l.getD k ua)).shared+(l.getD k ua).thing) 0 0 0,Ins.mk 9 0 0 15 0 0 (((fenC fe l k c).length:Int)+4) 0 0,Ins.mk 8 0 0 0 0 0 ((fenC fe l k c).length:Int) 0 0]).length=4:=rfl
  generalize hA:(if hasF fe k then [{ (Ins.mk 6 0 0 0 0 0 0 0 0) with from_:=(l.getD k ua).origin+1 }] else ([]:List Ins))=A at hfl ⊢
  generalize hB:(if jmpB k (l.getD k ua) then [{ (Ins.mk 8 0 0 0 0 0 (l.getD k ua).next 0 0) with from_:=(l.getD k ua).origin+1 }] else ([]:List Ins))=B
  have hAm:∀ x∈A,P x∧(x.kind=8∨x.kind=9→0≤x.to∧x.to<(l.length:Int)):=fun x hx=>by
   rw [← hA] at hx
   split at hx
   ·cases List.mem_singleton.1 hx
    exact ⟨hn.fence,fun q=>(nj rfl q).elim⟩
   ·cases hx
  have hBm:∀ x∈B,P x∧(x.kind=8∨x.kind=9→0≤x.to∧x.to<(l.length:Int)):=fun x hx=>by
   rw [← hB] at hx
   split at hx
   ·rename_i e
    cases List.mem_singleton.1 hx
    exact ⟨hn.jump,fun _=>hn.next (hjmp e)⟩
   ·cases hx
  have hB1:k+1=l.length→B≠[]:=fun e=>by
   rcases hlast e with q | q
   ·rw [← hB,if_pos q];exact List.cons_ne_nil _ _
   ·omega
  refine h.app (fun i hi=>Qde W30) (fun j hj=>?_) hk (fun _=>by intro q;simp only [List.append_eq_nil_iff] at q;cases q.1.2) (fun i hi=>?_)
  ·simp only [jt,hl4] at hj ⊢
   have hlt:c.length+j<A.length∨True:=.inr trivial
   by_cases j1:j<A.length
   ·rw [Q0l (by rw [jt];omega),Q0l j1]
    have:=hAm _ (Q2i j1)
    refine ⟨this.1,fun q=>?_⟩
    rw [Qde W30,h.2 _ W30]
    exact this.2 q
   ·by_cases j2:j<A.length+4
    ·rw [Q0l (by rw [jt,hl4];omega),Q3x W30]
     have hm:(j-A.length)<4:=by omega
     have hx:=hcode _ (Q2i (i:=j-A.length) (by rw [hl4];exact hm))
     refine ⟨hx,fun q=>?_⟩
     have hj4:j-A.length=0∨j-A.length=1∨j-A.length=2∨j-A.length=3:=by omega
     rcases hj4 with e | e | e | e
     ·rw [e] at q;exact (nj rfl q).elim
     ·rw [e] at q;exact (nj rfl q).elim
     ·have hv:=hin (c.length+j)
      rw [if_neg W30,if_pos W30] at hv
      rw [e,hv,if_neg W164]
      show 0≤((fenC fe l k c).length:Int)+4∧(((fenC fe l k c).length:Int)+4<_∨(k+1<l.length∧((fenC fe l k c).length:Int)+4≤_))
      refine ⟨by omega,?_⟩
      by_cases hkn:k+1=l.length
      ·have:0<B.length:=List.length_pos_iff.2 (hB1 hkn)
       exact .inl W30
      ·exact .inr ⟨by omega,by omega⟩
     ·have hv:=hin (c.length+j)
      rw [if_pos W30] at hv
      rw [e,hv,if_neg W164]
      show 0≤((fenC fe l k c).length:Int)∧(((fenC fe l k c).length:Int)<_∨_)
      exact ⟨by omega,.inl W30⟩
    ·rw [Q3x (by rw [jt,hl4];omega),jt,hl4]
     have:=hBm _ (Q2i (i:=j-(A.length+4)) W30)
     refine ⟨this.1,fun q=>?_⟩
     rw [Qdf W30,h.2 _ W30]
     exact this.2 q
  ·simp only [jt,hl4] at hi
   rw [Qdf W30]
   exact h.2 i W30
 ·rw [Qgn h5]
  refine h.plain (fun x hx=>?_) hk (fun e=>?_)
  ·rcases List.mem_append.1 hx with hx | hx
   ·rcases List.mem_append.1 hx with hx | hx
    ·split at hx
     ·cases List.mem_singleton.1 hx
      exact ⟨hn.fence,fun q=>(nj rfl q).elim⟩
     ·cases hx
    ·refine ⟨hn.code _ x hx,fun q=>?_⟩
     have:=Qmw h5 hx q
     rw [this.2];exact hn.els this.1
   ·split at hx
    ·rename_i e
     cases List.mem_singleton.1 hx
     exact ⟨hn.jump,fun _=>hn.next (hjmp e)⟩
    ·cases hx
  ·rcases hlast e with q | q
   ·rw [if_pos q];intro z;simp at z
   ·rw [Qdc q];intro z;simp [putL] at z
theorem Qdg (hn:∀ k:Nat,k<l.length→NodG P ps ba sh l.length (l.getD k ua)):∀ k:Nat,k≤l.length→CodJ P l.length k (codeA ps ba sh fe l k) (innA ps ba sh fe l k)
 | 0,_=>⟨fun i hi=>absurd hi (by simp [codeA]),fun _ _=>rfl⟩
 | k+1,h=>(Qdg hn k W30).step W30 (hn k W30)
theorem Qoz (hn:∀ k:Nat,k<l.length→NodG P ps ba sh l.length (l.getD k ua)):ToA ps ba sh fe l:=fun i hi hk h0=>by
 have:=((Qdg hn l.length (jn _)).1 i hi).2 hk
 rw [if_pos h0] at this
 exact this
end
structure FauQ (sh lk:List Dcl) (gs:List Grf) (fs:List Iln) (al:List Alc) (bf:Int):Prop where
 nam:namedB sh lk gs=true
 ns:sh.length≤64
 nl:lk.length≤16
 ng:gs.length≤8
 grf:∀ t:Nat,t<gs.length→GrfQ sh.length lk.length (gs.getD t default)
 nf:fs.length=gs.length
 fen:∀ t:Nat,t<gs.length→fenB ((gs.getD t default).nodes.length:Int) (fs.getD t default).l=true
 na:al.length=gs.length
 fit:∀ t:Nat,t<gs.length→fitB (gs.getD t default).slots (al.getD t default)=true
 bf:1≤bf∧bf≤16
section
variable {sh lk:List Dcl} {gs:List Grf} {fs:List Iln} {al:List Alc} {bf:Int}
theorem Qes (h:fauU sh lk gs fs al bf=0):FauQ sh lk gs fs al bf:=by
 unfold fauU at h
 split at h
 ·rename_i h1;exact absurd h h1
 ·rename_i h1
  split at h
  ·rename_i h2;exact absurd h h2
  ·rename_i h2
   split at h
   ·exact absurd h W164
   ·rename_i h3
    split at h
    ·exact absurd h W164
    ·rename_i h4
     have h1:safU sh lk gs fs=0:=Decidable.not_not.1 h1
     have h2:(rgtU sh lk gs al).2=0:=Decidable.not_not.1 h2
     unfold safU at h1
     split at h1
     ·rename_i e;exact absurd h1 e
     ·rename_i e
      have e:(chkU sh lk gs).1=0:=Decidable.not_not.1 e
      have c:=Yc e
      split at h1
      ·exact absurd h1 W164
      ·rename_i e2
       split at h1
       ·rename_i e3
        unfold rgtU at h2
        rw [if_neg (by rw [e];decide)] at h2
        split at h2
        ·exact absurd h2 W164
        ·rename_i e4
         split at h2
         ·exact absurd h2 W164
         ·rename_i e5
          have hnm:namedB sh lk gs=true:=by
           unfold chkU at e
           split at e
           ·assumption
           ·exact absurd e W164
          refine ⟨hnm,c.1.1,c.1.2.1,c.1.2.2,c.2,by omega,fun t ht=>List.all_eq_true.1 e3 t (List.mem_range.2 ht),by omega,fun t ht=>?_,by omega⟩
          have:=List.all_eq_true.1 (by simpa using e5) t (List.mem_range.2 ht)
          exact this
       ·exact absurd h1 W164
end
section
variable (sh lk:List Dcl) (gs:List Grf) (fs:List Iln) (al:List Alc)
def baT (t:Nat):Int:=(mAt sh lk al al.length).getD t 0
def okT (t:Nat):Bool:=okA (al.getD t ua).places (baT sh lk al t) (sh.length:Int) (fs.getD t ua).l (gs.getD t ua).nodes
def codT (t:Nat):List Ins:=finA (al.getD t ua).places (baT sh lk al t) (sh.length:Int) (fs.getD t ua).l (gs.getD t ua).nodes
def staT (t:Nat):List Int:=starA (al.getD t ua).places (baT sh lk al t) (sh.length:Int) (fs.getD t ua).l (gs.getD t ua).nodes (gs.getD t ua).nodes.length
def corL (n:Nat):List Cor:=(jB n).map fun t=>⟨(gs.getD t ua).name,codT sh lk gs fs al t⟩
def sttL (n:Nat):List Iln:=(jB n).map fun t=>⟨staT sh lk gs fs al t⟩
abbrev MadY:=Int×List Int×List Cor×List Iln×Int×Int×Int
def madR (bf:Int):MadY:=(0,memL sh lk al al.length,corL sh lk gs fs al gs.length,sttL sh lk gs fs al gs.length,(sh.length:Int),(lk.length:Int),bf)
noncomputable def madU (bf:Int):MadY:=
 if fauU sh lk gs fs al bf≠0 then (fauU sh lk gs fs al bf,[],[],[],0,0,0)
 else if 4096<((memL sh lk al al.length).length:Int) then (3,[],[],[],0,0,0)
 else if (jB gs.length).all (okT sh lk gs fs al)=true then madR sh lk gs fs al bf else (3,[],[],[],0,0,0)
theorem Qgr (n:Nat):corL sh lk gs fs al (n+1)=corL sh lk gs fs al n++[⟨(gs.getD n ua).name,codT sh lk gs fs al n⟩]:=by unfold corL;rw [kw,kG];rfl
theorem Qgs (n:Nat):sttL sh lk gs fs al (n+1)=sttL sh lk gs fs al n++[⟨staT sh lk gs fs al n⟩]:=by unfold sttL;rw [kw,kG];rfl
theorem Qjl (n:Nat):(corL sh lk gs fs al n).length=n:=by unfold corL;rw [jP,List.length_range]
theorem Qjm (n:Nat):(sttL sh lk gs fs al n).length=n:=by unfold sttL;rw [jP,List.length_range]
end
section
variable {sh lk:List Dcl} {gs:List Grf} {fs:List Iln} {al:List Alc} {bf:Int}
theorem Qr0 (h1:(!decide (fauU sh lk gs fs al bf=(0:Int)))=true):(fauU sh lk gs fs al bf,[],[],[],0,0,0)=madU sh lk gs fs al bf:=by unfold madU;rw [if_pos W126]
theorem Qr1 (h1:(!decide (fauU sh lk gs fs al bf=(0:Int)))=false) (h2:decide ((4096:Int)<((memL sh lk al al.length).length:Int))=true):(3,[],[],[],0,0,0)=madU sh lk gs fs al bf:=by
 unfold madU;rw [if_neg W126,if_pos (ub h2)]
structure MadJ (sh lk:List Dcl) (gs:List Grf) (fs:List Iln) (al:List Alc) (x:Int) (c:List Cor) (s:List Iln):Prop where
 x0:0≤x
 xl:x≤(gs.length:Int)
 c:c=corL sh lk gs fs al x.toNat
 s:s=sttL sh lk gs fs al x.toNat
 ok:∀ t:Nat,t<x.toNat→okT sh lk gs fs al t=true
theorem MadJ.start:MadJ sh lk gs fs al 0 [] []:=⟨jz _,by omega,rfl,rfl,fun t h=>absurd h W162⟩
section
variable {x:Int} {c:List Cor} {s:List Iln}
theorem Qr2 (h1:(!decide (fauU sh lk gs fs al bf=(0:Int)))=false) (h2:decide ((4096:Int)<((memL sh lk al al.length).length:Int))=false) (h:MadJ sh lk gs fs al x c s) (hx:decide (x<(gs.length:Int))=true) (ho:(!okT sh lk gs fs al x.toNat)=true):(3,[],[],[],0,0,0)=madU sh lk gs fs al bf:=by
 have h0:=h.x0
 have hx:=ub hx
 have hn:¬ (jB gs.length).all (okT sh lk gs fs al)=true:=fun q=>by
  have:=List.all_eq_true.1 q x.toNat (List.mem_range.2 W30)
  rw [this] at ho;cases ho
 unfold madU;rw [if_neg W126,if_neg (uc h2),if_neg hn]
theorem Qr3 (h1:(!decide (fauU sh lk gs fs al bf=(0:Int)))=false) (h2:decide ((4096:Int)<((memL sh lk al al.length).length:Int))=false) (h:MadJ sh lk gs fs al x c s) (hx:decide (x<(gs.length:Int))=false):(0,memL sh lk al al.length,c,s,(sh.length:Int),(lk.length:Int),bf)=madU sh lk gs fs al bf:=by
 have h0:=h.x0
 have hl:=h.xl
 have hx:=uc hx
 have e:x.toNat=gs.length:=by omega
 have hn:(jB gs.length).all (okT sh lk gs fs al)=true:=List.all_eq_true.2 fun t ht=>h.ok t (by rw [e];exact List.mem_range.1 ht)
 unfold madU;rw [if_neg W126,if_neg (uc h2),if_pos hn,h.c,h.s,e];rfl
theorem MadJ.next (h:MadJ sh lk gs fs al x c s) (hx:decide (x<(gs.length:Int))=true) (ho:(!okT sh lk gs fs al x.toNat)=false):MadJ sh lk gs fs al (x+1) (c++[⟨(gs.getD x.toNat ua).name,codT sh lk gs fs al x.toNat⟩]) (s++[⟨staT sh lk gs fs al x.toNat⟩]):=by
 have h0:=h.x0
 have hx:=ub hx
 have e:(x+1).toNat=x.toNat+1:=by omega
 refine ⟨by omega,by omega,by rw [e,Qgr,h.c],by rw [e,Qgs,h.s],fun t ht=>?_⟩
 by_cases q:t<x.toNat
 ·exact h.ok t q
 ·have:t=x.toNat:=by omega
  subst this;simpa using ho
end
theorem Qgt {t:Nat} (h:t<al.length):baT sh lk al t=((memL sh lk al t).length:Int):=by
 unfold baT mAt
 rw [jc,jm,ko h];rfl
theorem FauQ.cells (h:FauQ sh lk gs fs al bf):∀ j:Nat,j<al.length→0≤(al.getD j ua).cells∧(al.getD j ua).cells≤4160:=fun j hj=>Q3v (h.fit j (by have:=h.na;omega))
theorem FauQ.ba (h:FauQ sh lk gs fs al bf) {t:Nat} (ht:t<gs.length):0≤baT sh lk al t∧baT sh lk al t≤100000:=by
 have:=h.na;have:=h.ns;have:=h.nl;have:=h.ng
 have:=Q04 sh lk al (fun j hj=>(h.cells j hj).2) t W30
 rw [Qgt W30]
 omega
theorem FauQ.fl (h:FauQ sh lk gs fs al bf) {t:Nat} (ht:t<gs.length):(fs.getD t ua).l.length≤8388608:=by
 have:=(h.grf t ht).len
 rcases fenR_len (h.fen t ht) with q | q
 ·rw [q];simp
 ·omega
theorem FauQ.ps (h:FauQ sh lk gs fs al bf) {t:Nat} (ht:t<gs.length):((al.getD t ua).places.length:Int)=(gs.getD t ua).slots:=Qd5 (h.fit t ht)
theorem FauQ.org (h:FauQ sh lk gs fs al bf) {t:Nat} (ht:t<gs.length) {i:Nat} (hi:i<(gs.getD t ua).nodes.length):0≤((gs.getD t ua).nodes.getD i ua).origin∧((gs.getD t ua).nodes.getD i ua).origin≤4095:=by
 have:=(h.grf t ht).nod i hi
 unfold rightN at this
 simp only [ji,jJ,jT,decide_eq_false_iff_not] at this
 omega
theorem FauQ.gm (h:FauQ sh lk gs fs al bf) {t:Nat} (ht:t<gs.length) (fr:Int):GmQ (Gm.mk (al.getD t ua).places (baT sh lk al t) (sh.length:Int) fr):=by
 refine ⟨h.ba ht,by have:=h.ns;show 0≤(sh.length:Int)∧(sh.length:Int)≤100000;omega,fun i hi=>?_⟩
 have a:=Qgg (h.fit t ht) hi
 have c:=Q3v (h.fit t ht)
 refine ⟨a.1,?_⟩
 have:=a.2
 split at this<;>(show ((al.getD t ua).places.getD i ua).n≤4160)<;>omega
section
variable {t:Nat}
theorem Qgu {ns nl:Nat} {g:Grf} {n:Nod} (h:rightN ns nl g n=true) (hk0:0≤n.kind) (h1:ns≤64) (h2:nl≤16):0≤n.thing∧n.thing≤1000:=by
 have q:=Q5i h hk0
 by_cases h5:n.kind=5∨n.kind=6
 ·have:=q.lock h5;omega
 ·by_cases h2:n.kind=2∨n.kind=3∨n.kind=4
  ·have:=q.thing h2;omega
  ·unfold rightN at h
   simp only [ji] at h
   have w3:=h.2.1.1.1.1.2
   have hz:usesB (prtN n) 4=false:=by
    have hk:=q.k
    have:n.kind=1∨n.kind=7∨n.kind=8∨n.kind=9:=by omega
    unfold prtN
    rcases this with e | e | e | e<;>rw [e]
    ·cases twoB n.op<;>rfl
    all_goals (simp;rfl)
   have:=Q6u hz w3
   omega
theorem FauQ.nd (h:FauQ sh lk gs fs al bf) (hw:UnitW gs) (ht:t<gs.length) {i:Nat} (hi:i<(gs.getD t ua).nodes.length) (fr:Int):NdQ (Gm.mk (al.getD t ua).places (baT sh lk al t) (sh.length:Int) fr) ((gs.getD t ua).nodes.getD i ua):=by
 have q:=(h.grf t ht).q (fun b=>(hw t b).1) i hi
 have p:=h.ps ht
 refine ⟨fun k=>?_,fun k=>?_,fun k=>?_,Qgu ((h.grf t ht).nod i hi) (hw t i).1 h.ns h.nl⟩
 ·have:=q.slot k;show 0≤_∧_<((al.getD t ua).places.length:Int);omega
 ·have:=q.a k;show 0≤_∧_<((al.getD t ua).places.length:Int);omega
 ·have:=q.b k;show 0≤_∧_<((al.getD t ua).places.length:Int);omega
theorem FauQ.to (h:FauQ sh lk gs fs al bf) (hw:UnitW gs) (ht:t<gs.length):ToA (al.getD t ua).places (baT sh lk al t) (sh.length:Int) (fs.getD t ua).l (gs.getD t ua).nodes:=
 Qoz (P:=fun _=>True) fun k hk=>by
  have q:=(h.grf t ht).q (fun b=>(hw t b).1) k hk
  exact ⟨trivial,fun _ _ _=>trivial,trivial,q.next,q.els⟩
end
end
def celB (c:Int):Bool:=decide (c<0)||decide (4160<c)
def acB (al:List Alc):Bool:=(jB al.length).any fun j=>celB (al.getD j ua).cells
section
variable {al:List Alc} {x:Int}
theorem Qdh {j:Nat} (hj:j<al.length) (h:celB (al.getD j ua).cells=true):acB al=true:=List.any_eq_true.2 ⟨j,List.mem_range.2 hj,h⟩
theorem Qgv (h:∀ j:Nat,j<x.toNat→celB (al.getD j ua).cells=false) (hx:¬ x<(al.length:Int)):acB al=false:=by
 unfold acB;rw [List.any_eq_false]
 intro j hj;rw [h j (by have:=List.mem_range.1 hj;omega)];decide
theorem Qgw (h:acB al=false):∀ j:Nat,j<al.length→0≤(al.getD j ua).cells∧(al.getD j ua).cells≤4160:=fun j hj=>by
 have:=List.any_eq_false.1 h j (List.mem_range.2 hj)
 unfold celB at this
 simp only [jK,decide_eq_true_eq] at this
 omega
theorem Qdi (h:∀ j:Nat,j<x.toNat→celB (al.getD j ua).cells=false) (h0:0≤x) (hb:celB (al.getD x.toNat ua).cells=false):∀ j:Nat,j<(x+1).toNat→celB (al.getD j ua).cells=false:=fun j hj=>by
 by_cases e:j<x.toNat
 ·exact h j e
 ·rw [show j=x.toNat by omega];exact hb
end
section
variable (sh lk:List Dcl) (gs:List Grf) (al:List Alc)
def lokU (x:Int):Int×Int:=
 if (chkU sh lk gs).1≠0 then (0,(chkU sh lk gs).1) else if x<0∨(lk.length:Int)≤x then (0,2) else ((sh.length:Int)+x,0)
def celU (t c:Int):Int×Int:=
 if (chkU sh lk gs).1≠0 then (0,(chkU sh lk gs).1) else if al.length≠gs.length∨acB al=true then (0,150)
 else if t<0∨(al.length:Int)≤t∨c<0∨(al.getD t.toNat ua).cells≤c then (0,2) else ((mAt sh lk al al.length).getD t.toNat 0+c,0)
end
section
variable {sh lk:List Dcl} {gs:List Grf} {al:List Alc} {x t c:Int}
theorem Q70 (h1:(!decide ((chkU sh lk gs).1=(0:Int)))=false):(chkU sh lk gs).1=0∧sh.length≤64∧lk.length≤16∧gs.length≤8:=by
 have e:(chkU sh lk gs).1=0:=by simpa using h1
 have k:=(Yc e).1
 exact ⟨e,k.1,k.2.1,k.2.2⟩
theorem Qr4 (h1:(!decide ((chkU sh lk gs).1=(0:Int)))=true):lokU sh lk gs x=(0,(chkU sh lk gs).1):=by unfold lokU;rw [if_pos W126]
theorem Qr5 (h1:(!decide ((chkU sh lk gs).1=(0:Int)))=false) (h2:(decide (x<0)||decide ((lk.length:Int)≤x))=true):lokU sh lk gs x=(0,2):=by
 unfold lokU;rw [if_neg W126,if_pos W167]
theorem Qr6 (h1:(!decide ((chkU sh lk gs).1=(0:Int)))=false) (h2:(decide (x<0)||decide ((lk.length:Int)≤x))=false):lokU sh lk gs x=((sh.length:Int)+x,0):=by
 unfold lokU;rw [if_neg W126,if_neg W167]
theorem Ql2 (h1:(!decide ((chkU sh lk gs).1=(0:Int)))=true):celU sh lk gs al t c=(0,(chkU sh lk gs).1):=by unfold celU;rw [if_pos W126]
theorem Qet (h1:(!decide ((chkU sh lk gs).1=(0:Int)))=false) (h2:al.length≠gs.length∨acB al=true):celU sh lk gs al t c=(0,150):=by
 unfold celU;rw [if_neg W126,if_pos h2]
theorem Ql3 (h1:(!decide ((chkU sh lk gs).1=(0:Int)))=false) (h2:¬ (al.length≠gs.length∨acB al=true)) (h3:(decide (t<0)||decide ((al.length:Int)≤t)||decide (c<0)||decide ((al.getD t.toNat ua).cells≤c))=true):celU sh lk gs al t c=(0,2):=by
 unfold celU;rw [if_neg W126,if_neg h2,if_pos (by simp only [jK,decide_eq_true_eq] at h3;omega)]
theorem Ql4 (h1:(!decide ((chkU sh lk gs).1=(0:Int)))=false) (h2:¬ (al.length≠gs.length∨acB al=true)) (h3:(decide (t<0)||decide ((al.length:Int)≤t)||decide (c<0)||decide ((al.getD t.toNat ua).cells≤c))=false):celU sh lk gs al t c=((mAt sh lk al al.length).getD t.toNat 0+c,0):=by
 unfold celU;rw [if_neg W126,if_neg h2,if_neg (by simp only [jT,decide_eq_false_iff_not] at h3;omega)]
theorem Qp0:(!decide ((al.length:Int)=(gs.length:Int))||acB al)=true↔(al.length≠gs.length∨acB al=true):=by
 simp only [jK,jJ,decide_eq_false_iff_not]
 constructor<;>rintro (h | h)<;>first | exact .inr h | exact .inl W30
theorem Qeu (h:(!decide ((al.length:Int)=(gs.length:Int))||acB al)=false):¬ (al.length≠gs.length∨acB al=true):=fun q=>by rw [Qp0.2 q] at h;cases h
theorem Qev (h:¬ (al.length≠gs.length∨acB al=true)):al.length=gs.length∧∀ j:Nat,j<al.length→0≤(al.getD j ua).cells∧(al.getD j ua).cells≤4160:=
 ⟨by omega,Qgw (by cases q:acB al;rfl;exact absurd (.inr q) h)⟩
theorem Ql5 (h:(decide (t<0)||decide ((al.length:Int)≤t)||decide (c<0)||decide ((al.getD t.toNat ua).cells≤c))=false):0≤t∧t<(al.length:Int)∧0≤c∧c<(al.getD t.toNat ua).cells:=by
 simp only [jT,decide_eq_false_iff_not] at h;omega
end
theorem Qp1 {sh lk:List Dcl} {al:List Alc} {i:Nat} (hi:i<al.length) (hc:∀ j:Nat,j<al.length→0≤(al.getD j ua).cells∧(al.getD j ua).cells≤4160) :
 0≤(mAt sh lk al al.length).getD i 0∧(mAt sh lk al al.length).getD i 0≤(sh.length:Int)+lk.length+4160 * i:=by
 have e:(mAt sh lk al al.length).getD i 0=((memL sh lk al i).length:Int):=Qgt (sh:=sh) (lk:=lk) hi
 have:=Q04 sh lk al (fun j h=>(hc j h).2) i W30
 rw [e];omega
section
variable {sh lk:List Dcl} {gs:List Grf} {al:List Alc} {x n:Int} {l:List Int}
def BasJ (sh lk:List Dcl) (al:List Alc) (x n:Int) (l:List Int):Prop:=0≤x∧x≤(al.length:Int)∧n=((memL sh lk al x.toNat).length:Int)∧l=mAt sh lk al x.toNat
theorem Qr7 (sh lk:List Dcl) (al:List Alc):BasJ sh lk al 0 ((sh.length:Int)+(lk.length:Int)) []:=⟨jz _,by omega,by show _=((memL sh lk al 0).length:Int);rw [Qbf,jt,jP,jI];omega,rfl⟩
theorem Qjn (h:BasJ sh lk al x n l) (hx:x<(al.length:Int)) (hc:0≤(al.getD x.toNat ua).cells):BasJ sh lk al (x+1) (n+(al.getD x.toNat ua).cells) (l++[n]):=by
 have h0:=h.1
 refine ⟨by omega,by omega,?_,?_⟩
 ·rw [show (x+1).toNat=x.toNat+1 by omega,Q0j _ _ _ _ W30,jt,jI,h.2.2.1];omega
 ·rw [show (x+1).toNat=x.toNat+1 by omega,Qbg,h.2.2.2,h.2.2.1]
theorem Qp2 (h:BasJ sh lk al x n l) (hc:∀ j:Nat,j<al.length→0≤(al.getD j ua).cells∧(al.getD j ua).cells≤4160):0≤n∧n≤(sh.length:Int)+lk.length+4160 * al.length∧(l.length:Int)=x:=by
 have h0:=h.1;have h1:=h.2.1
 have:=Q04 sh lk al (fun j h=>(hc j h).2) x.toNat W30
 rw [h.2.2.1,h.2.2.2,Q48];omega
theorem Qew (h2:(!decide ((al.length:Int)=(gs.length:Int)))=false) (h:∀ j:Nat,j<x.toNat→celB (al.getD j ua).cells=false) (h4:decide (x<(al.length:Int))=false):¬ (al.length≠gs.length∨acB al=true):=fun q=>by
 have e:(al.length:Int)=gs.length:=by simpa using h2
 rcases q with q | q
 ·omega
 ·rw [Qgv h (uc h4)] at q;cases q
end
theorem K {α:Sort _} {a b:α} (h:a=b:=by kernel_rfl):a=b:=h
theorem R {p:Prop} (h:p:=by repeat' first | refine And.intro ?_ ?_ | exact rfl | exact fun _ _=>rfl | trivial):p:=h
end Go.Proofs.YtnddggenhefaeaaGreatDoor
noncomputable section
namespace Go.Proofs.YtnddggenhefaeaaGreatDoor
open Go Go.Tx
theorem Qmx (k:Int):Ctr jb 123 [] [.c (.i .u8 k)]
 (Det (.c (.b (opB k))) []):=by
 refine Ctr.intro [] Tryz.func123 K K ?_
 exact Q2 [] [0] [opB k=(decide (0<k)&&decide (k<19))] (by simp only [Conj,opB] at *<;>grind)
theorem G9 (k:Int):Ctr jb 93 [] [.c (.i .u8 k)]
 (Det (.c (.b (twoB k))) []):=by
 refine Ctr.intro [] Tryz.func93 K K ?_
 refine Q3 Q9i (Qmx k) [] ?_
 exact Q2 [] [0] [twoB k=(opB k&&!decide (k=17)&&!decide (k=18))] (by simp only [Conj,twoB,opB] at *<;>grind)
theorem Q53 (k:Int):Ctr jb 120 [] [.c (.i .u8 k)]
 (Det (.c (.b (digitB k))) []):=by
 refine Ctr.intro [] Tryz.func120 K K ?_
 exact Q2 [] [0] [digitB k=(decide (48≤k)&&decide (k≤57))] (by simp only [Conj,digitB] at *<;>grind)
abbrev zbR (y0:Int):List Prop:=[letterB y0=(decide (97≤y0)&&decide (y0≤122)||decide (65≤y0)&&decide (y0≤90)||decide (y0=95))]
theorem Qbi (k:Int):Ctr jb 122 [] [.c (.i .u8 k)]
 (Det (.c (.b (letterB k))) []):=by
 refine Ctr.intro [] Tryz.func122 K K ?_
 exact Q2 [] [0] (zbR k) (by simp only [Conj,letterB] at *<;>grind)
theorem Qdj (k:Int):Ctr jb 88 [] [.c (.i .u8 k)]
 (Det (.c (.b (digitB k))) []):=by
 refine Ctr.intro [] Tryz.func88 K K ?_
 exact Q2 [] [0] [digitB k=(decide (48≤k)&&decide (k≤57))] (by simp only [Conj,digitB] at *<;>grind)
theorem Qjo (k:Int):Ctr jb 90 [] [.c (.i .u8 k)]
 (Det (.c (.b (letterB k))) []):=by
 refine Ctr.intro [] Tryz.func90 K K ?_
 exact Q2 [] [0] (zbR k) (by simp only [Conj,letterB] at *<;>grind)
abbrev zbw (y0:ByteArray):List Prop:=[wordB y0=true]
theorem Qex (s:ByteArray):Ctr jb 121 [] [.c (.v (.string s))]
 (Det (.c (.b (wordB s))) []):=by
 refine Ctr.intro [] Tryz.func121 K K ?_
 refine Q0 (decide (s={ data:=#[115,104,97,114,101,100] })) (fun h1=>?_) (fun h1=>?_)
 ·exact Q2 [] [0] (zbw s) W97
 ·refine tz [4,3,2] ?_
  refine Q0 (decide (s={ data:=#[108,111,99,107] })) (fun h2=>?_) (fun h2=>?_)
  ·exact Q2 [] [0] (zbw s) W97
  ·refine tz [4,3,2] ?_
   refine Q0 (decide (s={ data:=#[116,104,114,101,97,100] })) (fun h3=>?_) (fun h3=>?_)
   ·exact Q2 [] [0] (zbw s) W97
   ·refine tz [4,3,2] ?_
    refine Q0 (decide (s={ data:=#[108,111,99,97,108] })) (fun h4=>?_) (fun h4=>?_)
    ·exact Q2 [] [0] (zbw s) W97
    ·refine tz [4,3,2] ?_
     refine Q0 (decide (s={ data:=#[105,102] })) (fun h5=>?_) (fun h5=>?_)
     ·exact Q2 [] [0] (zbw s) W97
     ·refine tz [4,3,2] ?_
      refine Q0 (decide (s={ data:=#[101,108,115,101] })) (fun h6=>?_) (fun h6=>?_)
      ·exact Q2 [] [0] (zbw s) W97
      ·refine tz [4,3,2] ?_
       refine Q0 (decide (s={ data:=#[119,104,105,108,101] })) (fun h7=>?_) (fun h7=>?_)
       ·exact Q2 [] [0] (zbw s) W97
       ·refine tz [4,3,2] ?_
        refine Q0 (decide (s={ data:=#[112,114,105,110,116] })) (fun h8=>?_) (fun h8=>?_)
        ·exact Q2 [] [0] (zbw s) W97
        ·refine tz [4,3,2] ?_
         refine Q0 (decide (s={ data:=#[115,107,105,112] })) (fun h9=>?_) (fun h9=>?_)
         ·exact Q2 [] [0] (zbw s) W97
         ·refine tz [4,3,2] ?_
          refine Q0 (decide (s={ data:=#[115,119,97,112] })) (fun h10=>?_) (fun h10=>?_)
          ·exact Q2 [] [0] (zbw s) W97
          ·exact Q2 [] [0] [wordB s=false] W97
theorem Qp3 (s:ByteArray):Ctr jb 89 [] [.c (.v (.string s))]
 (Det (.c (.b (wordB s))) []):=by
 refine Ctr.intro [] Tryz.func89 K K ?_
 refine Q0 (decide (s={ data:=#[115,104,97,114,101,100] })) (fun h1=>?_) (fun h1=>?_)
 ·exact Q2 [] [0] (zbw s) W97
 ·refine tz [4,3,2] ?_
  refine Q0 (decide (s={ data:=#[108,111,99,107] })) (fun h2=>?_) (fun h2=>?_)
  ·exact Q2 [] [0] (zbw s) W97
  ·refine tz [4,3,2] ?_
   refine Q0 (decide (s={ data:=#[116,104,114,101,97,100] })) (fun h3=>?_) (fun h3=>?_)
   ·exact Q2 [] [0] (zbw s) W97
   ·refine tz [4,3,2] ?_
    refine Q0 (decide (s={ data:=#[108,111,99,97,108] })) (fun h4=>?_) (fun h4=>?_)
    ·exact Q2 [] [0] (zbw s) W97
    ·refine tz [4,3,2] ?_
     refine Q0 (decide (s={ data:=#[105,102] })) (fun h5=>?_) (fun h5=>?_)
     ·exact Q2 [] [0] (zbw s) W97
     ·refine tz [4,3,2] ?_
      refine Q0 (decide (s={ data:=#[101,108,115,101] })) (fun h6=>?_) (fun h6=>?_)
      ·exact Q2 [] [0] (zbw s) W97
      ·refine tz [4,3,2] ?_
       refine Q0 (decide (s={ data:=#[119,104,105,108,101] })) (fun h7=>?_) (fun h7=>?_)
       ·exact Q2 [] [0] (zbw s) W97
       ·refine tz [4,3,2] ?_
        refine Q0 (decide (s={ data:=#[112,114,105,110,116] })) (fun h8=>?_) (fun h8=>?_)
        ·exact Q2 [] [0] (zbw s) W97
        ·refine tz [4,3,2] ?_
         refine Q0 (decide (s={ data:=#[115,107,105,112] })) (fun h9=>?_) (fun h9=>?_)
         ·exact Q2 [] [0] (zbw s) W97
         ·refine tz [4,3,2] ?_
          refine Q0 (decide (s={ data:=#[115,119,97,112] })) (fun h10=>?_) (fun h10=>?_)
          ·exact Q2 [] [0] (zbw s) W97
          ·exact Q2 [] [0] [wordB s=false] W97
def L1_I (s:ByteArray):Int→St:=fun i=>{ N:=39,fr:=[se 3 (C.i ja i),se 2 (C.t false),se 0 (C.v (jC s))],rg:=[] }
def L1_J (s:ByteArray):Int→Prop:=fun i=>0≤i∧i≤(s.size:Int)∧restB s 0=restB s i
def L1_m (s:ByteArray):Int→Nat:=fun i=>((s.size:Int)-i).toNat
def L1 (s:ByteArray):Lp (Int):=⟨L1_I s,L1_J s,L1_m s⟩
abbrev zF (y0:Int):List Prop:=[Fits ja (y0+(1:Int))]
abbrev zba (y0:ByteArray) (y1:Int):List Prop:=[(!letterB (↑(y0.data.toList.getD y1.toNat (0:UInt8)).toNat:Int))=true→(0:Int)≤y1,(!letterB (↑(y0.data.toList.getD y1.toNat (0:UInt8)).toNat:Int))=true→y1<(↑y0.size:Int)]
abbrev zcG (y0:ByteArray) (y1:Int):UInt8:=y0.data.toList.getD y1.toNat (0:UInt8)
abbrev zcM (y0:ByteArray):UInt8:=y0.data.toList.getD (Int.toNat (0:Int)) (0:UInt8)
theorem Q71 (s:ByteArray):Ctr jb 82 [] [.c (.v (.string s))]
 (Det (.c (.b (nameB s))) []):=by
 have h0:s.size=0→s={ data:=#[] }:=(fun h=>by cases s;simp_all [ByteArray.size])
 have h00:s={ data:=#[] }→s.size=0:=(fun h=>by rw [h];rfl)
 refine Ctr.intro [] Tryz.func82 K K ?_
 refine tG Gz (Q53 (↑(zcM s).toNat:Int)) [] ?_ (vc:=[(decide ((↑s.size:Int)<(1:Int))||decide ((32:Int)<(↑s.size:Int)))=false→(0:Int)≤(0:Int),(decide ((↑s.size:Int)<(1:Int))||decide ((32:Int)<(↑s.size:Int)))=false→(0:Int)<(↑s.size:Int)]) (hv:=W139)
 refine tz [15,12,2,0] ?_
 refine tG Q4f (Qex s) [] ?_
 refine tz [19,17,2,0] ?_
 refine Q0 (decide ((↑s.size:Int)<(1:Int))||decide ((32:Int)<(↑s.size:Int))||digitB (↑(zcM s).toNat:Int)||wordB s) (fun h1=>?_) (fun h1=>?_)
 ·exact Q2 [] [0] [nameB s=false] W79
 ·refine tz [2,0] ?_
  refine Q6 (L1 s) ((0:Int)) ⟨jz _,by omega,rfl⟩ ?_
  rintro ue hJ2
  obtain ⟨hA,hB,hC⟩:=hJ2
  refine tz [3,2,0] ?_
  refine Q0 (decide (ue<(↑s.size:Int))) (fun h3=>?_) (fun h3=>?_)
  ·refine tz [3,2,0] ?_
   refine Q3 Q2u (Qbi (↑(zcG s ue).toNat:Int)) [] ?_ (vc:=[(0:Int)≤ue,ue<(↑s.size:Int)]) (hv:=W139)
   refine tz [30,3,2,0] ?_
   refine tG Gz (Q53 (↑(zcG s ue).toNat:Int)) [] ?_ (vc:=(zba s ue)) (hv:=W139)
   refine tz [36,32,3,2,0] ?_
   refine Q0 (!letterB (↑(zcG s ue).toNat:Int)&&!digitB (↑(zcG s ue).toNat:Int)) (fun h4=>?_) (fun h4=>?_)
   ·exact Q2 [] [0] [nameB s=false] W79
   ·exact Q4 (L1 s) ue (ue+(1:Int)) (by simp only [L1,L1_m];grind) (by have hs:=Q28 s ue hA (by grind);simp only [byteAt,L1,L1_J] at *;grind) (vc:=(zF ue)) (hv:=W139)
  ·exact Q2 [] [0] [nameB s=true] W79
def L2_I (s:ByteArray):Int→St:=fun i=>{ N:=38,fr:=[se 22 (C.i ja i),se 21 (C.i ja s.size),se 20 (C.v (jC s)),se 2 (C.t false),se 0 (C.v (jC s))],rg:=[] }
def L2_J (s:ByteArray):Int→Prop:=fun i=>0≤i∧i≤(s.size:Int)∧restB s 0=restB s i
def L2_m (s:ByteArray):Int→Nat:=fun i=>((s.size:Int)-i).toNat
def L2 (s:ByteArray):Lp (Int):=⟨L2_I s,L2_J s,L2_m s⟩
theorem Qp4 (s:ByteArray):Ctr jb 54 [] [.c (.v (.string s))]
 (Det (.c (.b (nameB s))) []):=by
 have h0:s.size=0→s={ data:=#[] }:=(fun h=>by cases s;simp_all [ByteArray.size])
 have h00:s={ data:=#[] }→s.size=0:=(fun h=>by rw [h];rfl)
 refine Ctr.intro [] Tryz.func54 K K ?_
 refine tG Q2s (Qdj (↑(zcM s).toNat:Int)) [] ?_ (vc:=[(decide (s={ data:=#[] })||decide ((32:Int)<(↑s.size:Int)))=false→(0:Int)≤(0:Int),(decide (s={ data:=#[] })||decide ((32:Int)<(↑s.size:Int)))=false→(0:Int)<(↑s.size:Int)]) (hv:=W139)
 refine tz [14,11,2,0] ?_
 refine tG Qak (Qp3 s) [] ?_
 refine tz [18,16,2,0] ?_
 refine Q0 (decide (s={ data:=#[] })||decide ((32:Int)<(↑s.size:Int))||digitB (↑(zcM s).toNat:Int)||wordB s) (fun h1=>?_) (fun h1=>?_)
 ·exact Q2 [] [0] [nameB s=false] W79
 ·refine tz [2,0] ?_
  refine Q6 (L2 s) ((0:Int)) ⟨jz _,by omega,rfl⟩ ?_
  rintro ue hJ2
  obtain ⟨hA,hB,hC⟩:=hJ2
  refine tz [22,21,20,2,0] ?_
  refine Q0 (decide (ue<(↑s.size:Int))) (fun h3=>?_) (fun h3=>?_)
  ·refine tz [22,21,20,2,0] ?_
   refine Q3 Q7k (Qjo (↑(zcG s ue).toNat:Int)) [] ?_ (vc:=[(0:Int)≤ue,ue<(↑s.size:Int)]) (hv:=W139)
   refine tz [28,3,22,21,20,2,0] ?_
   refine tG Q2s (Qdj (↑(zcG s ue).toNat:Int)) [] ?_ (vc:=(zba s ue)) (hv:=W139)
   refine tz [34,30,22,21,20,2,0] ?_
   refine Q0 (!letterB (↑(zcG s ue).toNat:Int)&&!digitB (↑(zcG s ue).toNat:Int)) (fun h4=>?_) (fun h4=>?_)
   ·exact Q2 [] [0] [nameB s=false] W79
   ·exact Q4 (L2 s) ue (ue+(1:Int)) (by simp only [L2,L2_m];grind) (by have hs:=Q28 s ue hA (by grind);simp only [byteAt,L2,L2_J] at *;grind) (vc:=(zF ue)) (hv:=W139)
  ·exact Q2 [] [0] [nameB s=true] W79
abbrev z74_1:=(MT.mk jb 136 9 4 [CK.s] false [CK.b] false)
theorem Qgx:MT.Ok z74_1:=MT.ok_str K K (.inr rfl) (fun w=>by kernel_rfl)
abbrev zc9:MT:=(MT.mk jb 136 9 4 [CK.s] false [CK.b] false)
theorem Qey (s:ByteArray) (n:Nat) (D:ByteArray→Option Bool) (hs:s.size≤maxLen) (hn:n<maxLen):Ctr jb 75 [Reg.box 136 [.h 1],Reg.mp zc9 n (fun q=>(D q).isSome) (fun q=>(D q).getD false) none] [.c (.v (.string s)),.c (.p 0 0)]
 (Det (.c (.b (nameB s&&!(D s).getD false))) [Reg.box 136 [.h 1],Reg.mp zc9 (n+1) (fun q=>((fun q=>if q=s then some true else D q) q).isSome) (fun q=>((fun q=>if q=s then some true else D q) q).getD false) none]):=by
 refine Ctr.intro [] Tryz.func75 K K ?_
 refine Q3 Qaj (Qp4 s) [] ?_
 exact Q2 [] [0] [MpEq z74_1 (n+1) (fun (q:ByteArray)=>(if q=s then some true else D q).isSome) (fun (q:ByteArray)=>(if q=s then some true else D q).getD false) none z74_1 (n+1) (fun (q:ByteArray)=>decide (q=s)||(D q).isSome) (fun (q:ByteArray)=>if q=s then true else (D q).getD false) none] (by simp only [Conj];exact MpEq.put (jn _)) (vc:=[nameB s=true→s.size≤maxLen,nameB s=true→zc9.P=jb,s.size≤maxLen,zc9.P=jb,n<maxLen]) (hv:=(by simp only [Conj,Fits,Q7,Q8,Q9,Qa,News.len,maxLen]<;>(repeat' (first | apply jl | intro _))<;>first | exact hs | exact hn | grind))
abbrev z75_1:=(MT.mk jb 136 9 4 [CK.s] false [CK.b] false)
abbrev zP:Reg:=Reg.box 25 [C.h 0,C.h 1,C.h 2]
abbrev zbv (y0:Int × Bool × Nat × (ByteArray → Option Bool)):Reg:=Reg.mp z75_1 (y0.2.2.1) (fun a=>(y0.2.2.2 a).isSome) (fun a=>(y0.2.2.2 a).getD (false)) none
abbrev zbO:En:=se 1 (C.p 3 0)
def u4 (sh:List Dcl) (lk:List Dcl) (gs:List Grf):Lp (Int×Bool×Nat×(ByteArray→Option (Bool))):=⟨fun x=>{ N:=73,fr:=[se 32 (C.i .i64 x.1),se 31 (C.i .i64 (↑sh.length:Int)),se 30 (C.h 0),se 4 (C.fn 75 false [5]),se 2 (C.b x.2.1),zbO],rg:=[rowOf 3 (·.tc) sh,rowOf 3 (·.tc) lk,rowOf 4 (·.tc) gs,zP,zbv x,Reg.box 136 [C.h 4]],wr:=[] },fun x=>0≤x.1∧x.1≤(sh.length:Int)∧(x.2.2.1:Int)≤x.1∧goN (nmS sh++(nmL lk++nmG gs)) (fun _=>none)=goN (nmS (sh.drop x.1.toNat)++(nmL lk++nmG gs)) x.2.2.2,fun x=>((sh.length:Int)-x.1).toNat⟩
def u5 (sh:List Dcl) (lk:List Dcl) (gs:List Grf) (un:Bool) (uR:Nat) (uQ:ByteArray→Option Bool):Lp (Int×Bool×Nat×(ByteArray→Option (Bool))):=⟨fun x=>{ N:=73,fr:=[se 45 (C.i .i64 x.1),se 44 (C.i .i64 (↑lk.length:Int)),se 43 (C.h 1),se 4 (C.fn 75 false [5]),se 2 (C.b x.2.1),zbO],rg:=[rowOf 3 (·.tc) sh,rowOf 3 (·.tc) lk,rowOf 4 (·.tc) gs,zP,zbv x,Reg.box 136 [C.h 4]],wr:=[] },fun x=>0≤x.1∧x.1≤(lk.length:Int)∧(x.2.2.1:Int)≤sh.length+x.1∧goN (nmS sh++(nmL lk++nmG gs)) (fun _=>none)=goN (nmL (lk.drop x.1.toNat)++nmG gs) x.2.2.2,fun x=>((lk.length:Int)-x.1).toNat⟩
abbrev zdt (y0:List Grf):C:=C.i .i64 (↑y0.length:Int)
def u6 (sh:List Dcl) (lk:List Dcl) (gs:List Grf) (uv:Bool) (uL:Nat) (uV:ByteArray→Option Bool):Lp (Int×Bool×Nat×(ByteArray→Option (Bool))):=⟨fun x=>{ N:=73,fr:=[se 63 (C.i .i64 x.1),se 62 (zdt gs),se 61 (C.h 2),se 4 (C.fn 75 false [5]),se 2 (C.b x.2.1)],rg:=[rowOf 3 (·.tc) sh,rowOf 3 (·.tc) lk,rowOf 4 (·.tc) gs,zP,zbv x,Reg.box 136 [C.h 4]],wr:=[] },fun x=>0≤x.1∧x.1≤(gs.length:Int)∧(x.2.2.1:Int)≤sh.length+lk.length+x.1∧goN (nmS sh++(nmL lk++nmG gs)) (fun _=>none)=goN (nmG (gs.drop x.1.toNat)) x.2.2.2,fun x=>((gs.length:Int)-x.1).toNat⟩
abbrev zy (y0:List Dcl):Prop:=∀ j:Nat,(y0.getD j ua).name.size≤maxLen
abbrev zT (y0:List Grf):Prop:=∀ j:Nat,(y0.getD j ua).name.size≤maxLen
abbrev zaq (y0:Nat) (y1:List Dcl) (y2:Int) (y3:ByteArray → Option Bool):List Prop:=[MpEq z75_1 (y0+1) (fun (a:ByteArray)=>(if a=(y1.getD y2.toNat ua).name then some true else y3 a).isSome) (fun (a:ByteArray)=>(if a=(y1.getD y2.toNat ua).name then some true else y3 a).getD false) none z75_1 (y0+1) (fun (q:ByteArray)=>(if q=(y1.getD y2.toNat ua).name then some true else y3 q).isSome) (fun (q:ByteArray)=>(if q=(y1.getD y2.toNat ua).name then some true else y3 q).getD false) none]
abbrev zav (y0:Nat) (y1:ByteArray → Option Bool):List Prop:=[MpEq z75_1 y0 (fun (q:ByteArray)=>(y1 q).isSome) (fun (q:ByteArray)=>(y1 q).getD false) none z75_1 y0 (fun (q:ByteArray)=>(y1 q).isSome) (fun (q:ByteArray)=>(y1 q).getD false) none]
abbrev za6 (y0:Int) (y1:List Grf):List Prop:=[(0:Int)≤y0,y0<(↑y1.length:Int),y0.toNat=y0.toNat]
abbrev zbf (y0:Nat) (y1:ByteArray → Option Bool):List Prop:=[MpEq z75_1 y0 (fun (a:ByteArray)=>(y1 a).isSome) (fun (a:ByteArray)=>(y1 a).getD false) none z75_1 y0 (fun (a:ByteArray)=>(y1 a).isSome) (fun (a:ByteArray)=>(y1 a).getD false) none]
abbrev zbr (y0 y1:List Dcl) (y2:List Grf):List Reg:=[Dcl.rowR y0,Dcl.rowR y1,Grf.rowR y2]
abbrev zbu (y0:Int) (y1:List Dcl):List Prop:=[(0:Int)≤y0,y0<(↑y1.length:Int),y0.toNat<y1.length]
abbrev zb2:List Reg:=[.dead,.dead,.dead]
abbrev zcc (y0:Int) (y1:List Grf):List Prop:=[y0.toNat<y1.length]
abbrev zc1 (y0:List Grf) (y1:Int):Grf:=y0.getD y1.toNat ua
abbrev zc4:SV:=.agg [.h 0,.h 1,.h 2]
abbrev zc5 (y0:List Dcl) (y1:Int):Dcl:=y0.getD y1.toNat ua
theorem Qmy (sh lk:List Dcl) (gs:List Grf) (hs:zy sh) (hl:zy lk) (hg:zT gs):Ctr jb 46 (zbr sh lk gs) [zc4]
 (Det (.c (.b (namedB sh lk gs))) zb2):=by
 refine Ctr.intro [] Tryz.func46 K K ?_
 refine Q0 (decide ((64:Int)<(↑sh.length:Int))||decide ((16:Int)<(↑lk.length:Int))||decide ((8:Int)<(↑gs.length:Int))) (fun h1=>?_) (fun h1=>?_)
 ·exact Q2 [] [0] [namedB sh lk gs=false] W49
 ·refine tz [2,1] ?_
  refine Q6 (u4 sh lk gs) (((0:Int),false,0,fun x=>none)) (by dsimp only [u4];exact ⟨jz _,by omega,jz _,rfl⟩) ?_ [] [6] [MpEq z75_1 0 (fun (a:ByteArray)=>false) (fun (a:ByteArray)=>false) none z75_1 0 (fun x=>false) (fun x=>KA.zero [CK.b]) none] W20 (vc:=[zc9.P=jb,zc9.Ok]) (hv:=W84)
  rintro ⟨ue,un,uR,uQ⟩ hJ2
  dsimp only [u4] at hJ2
  refine tz [32,31,30,4,2,1] ?_
  refine Q0 (decide (ue<(↑sh.length:Int))) (fun h3=>?_) (fun h3=>?_)
  ·refine tz [32,31,30,4,2,1] ?_
   refine Q3 J9 (Qey ((zc5 sh ue).name) uR uQ W122 W122) [5,4] ?_ [0] (zav uR uQ) W20 (vc:=(zbu ue sh)) (hv:=W84)
   refine tz [39,32,31,30,4,2,1] ?_
   refine Q0 (!(nameB (zc5 sh ue).name&&!(uQ (zc5 sh ue).name).getD false)) (fun h4=>?_) (fun h4=>?_)
   ·exact Q2 [] [0] [namedB sh lk gs=false] W49
   ·exact Q4 (u4 sh lk gs) (ue,un,uR,uQ) ((ue+(1:Int),un,uR+1,fun (a:ByteArray)=>if a=(zc5 sh ue).name then some true else uQ a)) (by dsimp only [u4];exact W242) (by dsimp only [u4];have q:=ub h3;refine ⟨by omega,by omega,by omega,?_⟩;rw [show (ue+1).toNat=ue.toNat+1 from by omega,hJ2.2.2.2];exact Qii (by omega) h4) [] [6] (zaq uR sh ue uQ) W20 (vc:=(zF ue)) (hv:=W84)
  ·refine tz [32,31,30,4,2,1] ?_
   refine Q6 (u5 sh lk gs un uR uQ) (((0:Int),un,uR,uQ)) (by dsimp only [u5];have q:=uc h3;refine ⟨jz _,by omega,by omega,?_⟩;rw [hJ2.2.2.2,j8 (by omega)];rfl) ?_ [] [6] (zbf uR uQ) W20
   rintro ⟨ur,uv,uL,uV⟩ hJ4
   dsimp only [u5] at hJ4
   refine tz [45,44,43,4,2,1] ?_
   refine Q0 (decide (ur<(↑lk.length:Int))) (fun h5=>?_) (fun h5=>?_)
   ·refine tz [45,44,43,4,2,1] ?_
    refine Q3 J9 (Qey ((zc5 lk ur).name) uL uV W122 W122) [5,4] ?_ [0] (zav uL uV) W20 (vc:=(zbu ur lk)) (hv:=W84)
    refine tz [52,8,45,44,43,4,2,1] ?_
    refine Q0 (!(nameB (zc5 lk ur).name&&!(uV (zc5 lk ur).name).getD false)||!decide ((zc5 lk ur).word=(0:Int))) (fun h6=>?_) (fun h6=>?_)
    ·exact Q2 [] [0] [namedB sh lk gs=false] W49
    ·exact Q4 (u5 sh lk gs un uR uQ) (ur,uv,uL,uV) ((ur+(1:Int),uv,uL+1,fun (a:ByteArray)=>if a=(zc5 lk ur).name then some true else uV a)) (by dsimp only [u5];have q:=ub h5;omega) (by dsimp only [u5];have q:=ub h5;refine ⟨by omega,by omega,by omega,?_⟩;rw [show (ur+1).toNat=ur.toNat+1 from by omega,hJ4.2.2.2];exact Qik (by omega) h6) [] [6] (zaq uL lk ur uV) W20 (vc:=(zF ur)) (hv:=W84)
   ·refine tz [45,44,43,4,2,1] ?_
    refine Q6 (u6 sh lk gs uv uL uV) (((0:Int),uv,uL,uV)) (by dsimp only [u6];have q:=uc h5;refine ⟨jz _,by omega,by omega,?_⟩;rw [hJ4.2.2.2,j8 (by omega)];rfl) ?_ [] [6] (zbf uL uV) W20
    rintro ⟨uu,uI,uD,uK⟩ hJ6
    dsimp only [u6] at hJ6
    refine tz [63,62,61,4,2] ?_
    refine Q0 (decide (uu<(↑gs.length:Int))) (fun h7=>?_) (fun h7=>?_)
    ·refine Qv 2 (uu.toNat) ?_ (vc:=(zcc uu gs)) (hv:=W84)
     refine tz [63,62,61,4,2] ?_
     refine Q3 J9 (Qey ((zc1 gs uu).name) uD uK W122 W122) [5,4] ?_ [0] (zav uD uK) W20 (vc:=(za6 uu gs)) (hv:=W84)
     refine tz [70,63,62,61,4,2] ?_
     refine Q0 (!(nameB (zc1 gs uu).name&&!(uK (zc1 gs uu).name).getD false)) (fun h8=>?_) (fun h8=>?_)
     ·exact Q2 [] [0] [namedB sh lk gs=false] W49
     ·exact Q4 (u6 sh lk gs uv uL uV) (uu,uI,uD,uK) ((uu+(1:Int),uI,uD+1,fun (a:ByteArray)=>if a=(zc1 gs uu).name then some true else uK a)) (by dsimp only [u6];have q:=ub h7;omega) (by dsimp only [u6];have q:=ub h7;refine ⟨by omega,by omega,by omega,?_⟩;rw [show (uu+1).toNat=uu.toNat+1 from by omega,hJ6.2.2.2];exact Qim (by omega) h8) [] [6] [MpEq z75_1 (uD+1) (fun (a:ByteArray)=>(if a=(zc1 gs uu).name then some true else uK a).isSome) (fun (a:ByteArray)=>(if a=(zc1 gs uu).name then some true else uK a).getD false) none z75_1 (uD+1) (fun (q:ByteArray)=>(if q=(zc1 gs uu).name then some true else uK q).isSome) (fun (q:ByteArray)=>(if q=(zc1 gs uu).name then some true else uK q).getD false) none] W20 (vc:=(zF uu)) (hv:=W84)
    ·exact Q2 [] [0] [namedB sh lk gs=true] W49
section
variable {bu:Int} {cs:List Cor} {k:Int} {vs:List VCo} {mem:List Int} {pr:List Prt}
variable {i:Ins} {d:Did} {c:VCo}
end
theorem Qez {p:Int→Bool} {n k:Int}:∀ (m:Nat) (i:Int),(n-i).toNat=m→allFrom p i n=true→i≤k→k<n→p k=true:=by
 intro m
 induction m with
 | zero=>intro i h _ h1 h2;omega
 | succ m ih =>
   intro i h ha h1 h2
   rw [Qas p W30,ji] at ha
   by_cases e:i=k
   ·subst e;exact ha.1
   ·exact ih (i+1) W30 ha.2 W30 h2
def didAt (l:List Did) (i:Int):Did:=l.getD i.toNat ua
def rightP (l:List Did) (i:Int):Bool:=didB (didAt l i)
def rightsB (l:List Did):Bool:=allFrom (rightP l) 0 l.length
theorem Qgy {l:List Did} (h:rightsB l=true) {i:Int} (h0:0≤i) (h1:i<l.length):didB (l.getD i.toNat ua)=true:=
 Qez (p:=rightP l) _ 0 rfl h h0 h1
theorem Qcj {d:Did} (h:didB d=true):0<d.kind∧d.kind<9∧0≤d.core∧d.core<8∧0≤d.addr∧d.addr<4096:=by
 unfold didB at h
 simp only [BL] at h
 omega
theorem rng {l:List Did} (hr:rightsB l=true) {i:Int} (h0:0≤i) (h1:i<l.length):0≤(l.getD i.toNat ua).addr∧(l.getD i.toNat ua).addr<4096:=by
 have:=Qcj (Qgy hr h0 h1);omega
theorem Qgz {α:Type} [Inhabited α] {L:List α} {k:Nat} (h:k<L.length):L.take k++[L.getD k ua]=L.take (k+1):=by
 rw [List.take_add_one,jc,jd h];rfl
section
variable {bu:Int} {cs:List Cor} {k:Int} {vs:List VCo} {mem:List Int} {pr:List Prt} {s:Stp}
end
section
variable {vs:List VCo} {k:Int} {r:Nat}
end
section
variable {bu:Int} {cs:List Cor} {vs:List VCo} {mem:List Int}
end
def newVs (n:Nat):List VCo:=jh n ⟨0,false,jh 16 0,[]⟩
section
variable {mem:List Int} {shared locks bu:Int} {cs:List Cor}
end
section
variable {bu:Int} {cs:List Cor} {vs:List VCo} {mem:List Int}
end
structure Gs where
 vs:List VCo
 mem:List Int
 pr:List Prt
 steps:List Stp
section
variable {shared locks bu:Int} {cs:List Cor} {k:Int} {g:Gs}
end
structure Uns where
 err:Int
 g:Gs
section
variable {p:Did→Bool} {shared locks bu most:Int} {cs:List Cor} {k x:Int} {g:Gs} {u:Uns}
end
section
variable {shared locks bu most:Int} {cl:List Cls} {cs:List Cor} {x:Int} {order:List Int} {g:Gs} {u:Uns}
end
def g0 (mem:List Int) (cs:List Cor):Gs:=⟨newVs cs.length,mem,[],[]⟩
section
variable {mem:List Int} {shared locks bu most:Int} {cs:List Cor} {cl:List Cls} {order:List Int}
end
section
variable {shared locks bu:Int} {cs:List Cor} {k:Int} {g:Gs}
variable {most:Int} {cl:List Cls}
end
structure Ps where
 vs:List VCo
 mem:List Int
 pr:List Prt
 dids:List Did
 errs:List Int
def p0 (mem:List Int) (cs:List Cor):Ps:=⟨newVs cs.length,mem,[],[],[]⟩
section
variable {bu:Int} {cs:List Cor} {vs:List VCo} {mem:List Int} {pr:List Prt} {s:Stp} {p u:Ps} {l:List Stp} {x:Int}
variable {ds out v:List Did} {es:List Int}
end
section
variable {mem:List Int} {shared locks bu:Int} {cs:List Cor} {l:List Stp}
end
section
variable {mem:List Int} {shared locks bu most x:Int} {cs:List Cor} {cl:List Cls} {order:List Int} {g:Gs} {u:Uns}
end
section
variable {α:Type} [Inhabited α] [DecidableEq α] {a b:List α} {x:Int}
theorem Q5r (hl:a.length=b.length) (hu:∀ j:Nat,(j:Int)<x→a.getD j ua=b.getD j ua) (h:decide (x<(a.length:Int))=false):decide (a=b)=true:=by
 have:=uc h
 refine decide_eq_true (List.ext_getElem hl fun i h1 h2=>?_)
 have:=hu i W30
 simpa only [jc,jd h1,jd h2,kA] using this
theorem Q3y (hu:∀ j:Nat,(j:Int)<x→a.getD j ua=b.getD j ua) (h0:0≤x) (h:a.getD x.toNat ua=b.getD x.toNat ua):∀ j:Nat,(j:Int)<x+1→a.getD j ua=b.getD j default:=fun j hj=>by
 by_cases e:(j:Int)=x
 ·have e2:x.toNat=j:=by omega
  rw [e2] at h;exact h
 ·exact hu j W30
theorem Q80 (hl:¬ a.length=b.length):decide (a=b)=false:=decide_eq_false (fun e=>hl (by rw [e]))
theorem Q81 (h:¬ a.getD x.toNat ua=b.getD x.toNat ua):decide (a=b)=false:=decide_eq_false (fun e=>h (by rw [e]))
end
theorem Z3 (l:List Int) (hl:l.length * 64≤140737488355328):Ctr jb 79 [IntRow l] [.c (.h 0)]
 (Det (.c (.h 1)) [.dead,IntOwn l]):=by
 refine Ctr.intro [] Tryz.func79 K K ?_
 refine RunF.rnil (n:=l.length) (vc:=[]) 0 K trivial K (fun _=>by kernel_rfl) (fun nil1 hn1=>?_)
 refine tz [4,2,0] ?_
 refine Q0 (nil1) (fun h2=>?_) (fun h2=>?_)
 ·exact Q2 [0,1000001] [0] [l.length=0] W192
 ·exact Q2 [0,2] [0,1] [l.length=0+l.length,∀ (i:Nat),i<l.length→i64T (l.getD i 0)=fun j=>if i<0 then rowT 1 [] i j else i64T (l.getD (i-0) 0) j] W192 (vc:=[∀ (i j:Nat),i<l.length→j<1→flatT (i64T (l.getD i 0) j),0+l.length≤maxLen,(0+l.length) * 8≤140737488355328]) (hv:=(by simp only [Conj,Fits,Q7,Q8,Q9,Qa,News.len,maxLen]<;>(repeat' (first | apply jl | intro _))<;>first | (exact i64T.flat _ _ (by assumption)) | grind))
abbrev zbk (y0:Ext) (y1:Option Addr) (y2 y3:Nat):Reg:=Reg.row 1 (rd y0 (je y1 y2 y3)).length (fun j=>i64T ((rd y0 (je y1 y2 y3)).getD j 0)) none
def vJ (X:Ext) (A:Option Addr) (nn:Nat) (cc:Nat) (now:List Int):Lp (Int×Bool):=⟨fun x=>{ N:=26,fr:=[se 13 (C.i .i64 x.1),{ slot:=12,g:=[],sv:=SV.c (C.i .i64 (↑(rd X (je A nn cc)).length:Int)) },se 4 (C.b x.2),se 0 (C.h 2),se 1 (C.h 0)],rg:=[IntRow now,Reg.froz X,zbk X A nn cc],wr:=[] },fun x=>0≤x.1∧x.1≤((rd X (.slice A nn cc)).length:Int)∧(rd X (.slice A nn cc)).length=now.length∧∀ j:Nat,(j:Int)<x.1→(rd X (.slice A nn cc)).getD j ua=now.getD j ua,fun x=>(((rd X (.slice A nn cc)).length:Int)-x.1).toNat⟩
theorem Ql6 (X:Ext) (A:Option Addr) (nn cc:Nat) (now:List Int) (hT:Is X (.slice A nn cc)):Ctr jb 81 [IntRow now,.froz X] [.c (.v (.slice A nn cc)),.c (.h 0)]
 (Det (.c (.b (decide (rd X (.slice A nn cc)=now)))) [.dead,.dead]):=by
 refine Ctr.intro [] Tryz.func81 K K ?_
 refine RunF.lens 0 (m:=now.length) K (fun hlens_0=>?_)
 refine RunF.tabout 0 1 (X:=X) (y:=je A nn cc) (size:=1) (n:=(rd X (je A nn cc)).length) (f:=fun j=>i64T ((rd X (je A nn cc)).getD j 0)) K K K (Qx hT) ?_
 refine tz [0,1] ?_
 refine Q0 (!decide ((↑(rd X (je A nn cc)).length:Int)=(↑now.length:Int))) (fun h1=>?_) (fun h1=>?_)
 ·exact Q2 [] [0] [decide (rd X (je A nn cc)=now)=false] W108
 ·refine tz [4,0,1] ?_
  refine Q6 (vJ X A nn cc now) (((0:Int),false)) ⟨by omega,by omega,by simp at h1;omega,fun j hj=>absurd hj W30⟩ ?_
  rintro ⟨ue,un⟩ hJ2
  dsimp only [vJ] at hJ2
  refine tz [13,12,4,0,1] ?_
  refine Q0 (decide (ue<(↑(rd X (je A nn cc)).length:Int))) (fun h3=>?_) (fun h3=>?_)
  ·refine tz [13,12,4,0,1] ?_
   refine Q0 (!decide ((rd X (je A nn cc)).getD ue.toNat 0=now.getD ue.toNat 0)) (fun h4=>?_) (fun h4=>?_) (vc:=[(0:Int)≤ue,ue<(↑(rd X (je A nn cc)).length:Int),ue.toNat<(rd X (je A nn cc)).length,(0:Int)≤ue,ue<(↑now.length:Int),ue.toNat<now.length]) (hv:=W28)
   ·exact Q2 [] [0] [decide (rd X (je A nn cc)=now)=false] W108
   ·exact Q4 (vJ X A nn cc now) (ue,un) ((ue+(1:Int),un)) (by dsimp only [vJ];exact W236) ⟨by omega,by have:=ub h3;omega,hJ2.2.2.1,Q3y hJ2.2.2.2 hJ2.1 (by show (rd X (.slice A nn cc)).getD ue.toNat 0=now.getD ue.toNat 0;simpa using h4)⟩ (vc:=(zF ue)) (hv:=W28)
  ·exact Q2 [] [0] [decide (rd X (je A nn cc)=now)=true] W108
abbrev zai (y0:Nod):List Prop:=[[y0.next,y0.els].length=2,∀ (i:Nat),i < [y0.next,y0.els].length→i64T ([y0.next,y0.els].getD i 0)=rowT 1 [jg ja y0.next,jg ja y0.els] i]
abbrev zak (y0:Nod):List Prop:=[[y0.next].length=1,∀ (i:Nat),i < [y0.next].length→i≠0→i64T ([y0.next].getD i 0)=fun x=>TC.any,i64T y0.next 0=TC.val (jg ja y0.next)]
theorem Zy (n:Nod):Ctr jb 80 [] [.agg n.cs]
 (Det (.c (.h 0)) [IntOwn (flwL n)]):=by
 refine Ctr.intro [] Tryz.func80 K K ?_
 refine Q0 (decide (n.kind=(9:Int))) (fun h1=>?_) (fun h1=>?_)
 ·rw [Qlm h1]
  exact Q2 [1000000] [0] [(0:Nat)=0] W47
 ·refine tz [2,1] ?_
  refine Q0 (decide (n.kind=(8:Int))&&!decide (n.els=n.next)) (fun h2=>?_) (fun h2=>?_)
  ·rw [Qln h1 h2]
   exact Q2 [1] [0,1] (zai n) W47
  ·rw [Qlo h1 h2]
   exact Q2 [1] [0,1,2] (zak n) W47
abbrev zcR (y0:Nod):C:=C.i .i64 y0.a.slot
abbrev zcS (y0:Nod):C:=C.i .i64 y0.a.word
abbrev zcT (y0:Nod):C:=C.i .i64 y0.b.slot
abbrev zcU (y0:Nod):C:=C.i .i64 y0.b.word
abbrev zcV (y0:Nod):C:=C.i .i64 y0.origin
abbrev zdd (y0:Nod):C:=C.i .i64 y0.thing
abbrev zdg (y0:Nod):C:=C.i .i64 y0.slot
abbrev zdh (y0:Nod):C:=C.b y0.a.slotted
abbrev zdi (y0:Nod):C:=C.b y0.b.slotted
abbrev zdj (y0:Nod):C:=C.i .i64 y0.next
abbrev zdn (y0:Nod):C:=C.i .i64 y0.els
theorem Qmz (n:Nod) (hk:1≤n.kind∧n.kind≤9):Ctr jb 76 [] [.agg n.cs]
 (Det (.c (.i .u8 (prtN n))) []):=by
 refine Ctr.intro [] Tryz.func76 K K ?_
 rcases (show n.kind=(1:Int)∨n.kind=(2:Int)∨n.kind=(3:Int)∨n.kind=(4:Int)∨n.kind=(5:Int)∨n.kind=(6:Int)∨n.kind=(7:Int)∨n.kind=(8:Int)∨n.kind=(9:Int) from W30) with hs1 | hs1 | hs1 | hs1 | hs1 | hs1 | hs1 | hs1 | hs1
 ·refine tWk (St.mk 21 [En.mk 0 [] (SV.agg [C.i .u8 1,C.i .u8 n.op,zdg n,zdd n,zdh n,zcR n,zcS n,zdi n,zcT n,zcU n,zdj n,zdn n,zcV n])] [] []) ?_ [] [0] [(1:Int)=n.kind] W48
  refine tz [0] ?_
  refine tG Qy (G9 n.op) [] ?_ (vc:=[(0:Int)≤(1:Int),(1:Int)<(10:Int),1<10]) (hv:=W28)
  refine tz [16,13,4,2] ?_
  refine Q0 (decide ((1:Int)=(1:Int))&&twoB n.op) (fun h2=>?_) (fun h2=>?_)
  ·exact Q2 [] [0] [prtN n=bits kK jx (43:Int) (16:Int)] W80
  ·exact Q2 [] [0] [prtN n=(43:Int)] W80
 ·refine tWk (St.mk 21 [En.mk 0 [] (SV.agg [C.i .u8 2,C.i .u8 n.op,zdg n,zdd n,zdh n,zcR n,zcS n,zdi n,zcT n,zcU n,zdj n,zdn n,zcV n])] [] []) ?_ [] [0] [(2:Int)=n.kind] W48
  refine tz [0] ?_
  refine tG Qy (G9 n.op) [] ?_ (vc:=[(0:Int)≤(2:Int),(2:Int)<(10:Int),2<10]) (hv:=W28)
  refine tz [16,13,4,2] ?_
  refine Q0 (decide ((2:Int)=(1:Int))&&twoB n.op) (fun h2=>?_) (fun h2=>?_)
  ·exact absurd h2 W81
  ·exact Q2 [] [0] [prtN n=(38:Int)] W80
 ·refine tWk (St.mk 21 [En.mk 0 [] (SV.agg [C.i .u8 3,C.i .u8 n.op,zdg n,zdd n,zdh n,zcR n,zcS n,zdi n,zcT n,zcU n,zdj n,zdn n,zcV n])] [] []) ?_ [] [0] [(3:Int)=n.kind] W48
  refine tz [0] ?_
  refine tG Qy (G9 n.op) [] ?_ (vc:=[(0:Int)≤(3:Int),(3:Int)<(10:Int),3<10]) (hv:=W28)
  refine tz [16,13,4,2] ?_
  refine Q0 (decide ((3:Int)=(1:Int))&&twoB n.op) (fun h2=>?_) (fun h2=>?_)
  ·exact absurd h2 W81
  ·exact Q2 [] [0] [prtN n=(44:Int)] W80
 ·refine tWk (St.mk 21 [En.mk 0 [] (SV.agg [C.i .u8 4,C.i .u8 n.op,zdg n,zdd n,zdh n,zcR n,zcS n,zdi n,zcT n,zcU n,zdj n,zdn n,zcV n])] [] []) ?_ [] [0] [(4:Int)=n.kind] W48
  refine tz [0] ?_
  refine tG Qy (G9 n.op) [] ?_ (vc:=[(0:Int)≤(4:Int),(4:Int)<(10:Int),4<10]) (hv:=W28)
  refine tz [16,13,4,2] ?_
  refine Q0 (decide ((4:Int)=(1:Int))&&twoB n.op) (fun h2=>?_) (fun h2=>?_)
  ·exact absurd h2 W81
  ·exact Q2 [] [0] [prtN n=(46:Int)] W80
 ·refine tWk (St.mk 21 [En.mk 0 [] (SV.agg [C.i .u8 5,C.i .u8 n.op,zdg n,zdd n,zdh n,zcR n,zcS n,zdi n,zcT n,zcU n,zdj n,zdn n,zcV n])] [] []) ?_ [] [0] [(5:Int)=n.kind] W48
  refine tz [0] ?_
  refine tG Qy (G9 n.op) [] ?_ (vc:=[(0:Int)≤(5:Int),(5:Int)<(10:Int),5<10]) (hv:=W28)
  refine tz [16,13,4,2] ?_
  refine Q0 (decide ((5:Int)=(1:Int))&&twoB n.op) (fun h2=>?_) (fun h2=>?_)
  ·exact absurd h2 W81
  ·exact Q2 [] [0] [prtN n=(36:Int)] W80
 ·refine tWk (St.mk 21 [En.mk 0 [] (SV.agg [C.i .u8 6,C.i .u8 n.op,zdg n,zdd n,zdh n,zcR n,zcS n,zdi n,zcT n,zcU n,zdj n,zdn n,zcV n])] [] []) ?_ [] [0] [(6:Int)=n.kind] W48
  refine tz [0] ?_
  refine tG Qy (G9 n.op) [] ?_ (vc:=[(0:Int)≤(6:Int),(6:Int)<(10:Int),6<10]) (hv:=W28)
  refine tz [16,13,4,2] ?_
  refine Q0 (decide ((6:Int)=(1:Int))&&twoB n.op) (fun h2=>?_) (fun h2=>?_)
  ·exact absurd h2 W81
  ·exact Q2 [] [0] [prtN n=(36:Int)] W80
 ·refine tWk (St.mk 21 [En.mk 0 [] (SV.agg [C.i .u8 7,C.i .u8 n.op,zdg n,zdd n,zdh n,zcR n,zcS n,zdi n,zcT n,zcU n,zdj n,zdn n,zcV n])] [] []) ?_ [] [0] [(7:Int)=n.kind] W48
  refine tz [0] ?_
  refine tG Qy (G9 n.op) [] ?_ (vc:=[(0:Int)≤(7:Int),(7:Int)<(10:Int),7<10]) (hv:=W28)
  refine tz [16,13,4,2] ?_
  refine Q0 (decide ((7:Int)=(1:Int))&&twoB n.op) (fun h2=>?_) (fun h2=>?_)
  ·exact absurd h2 W81
  ·exact Q2 [] [0] [prtN n=(40:Int)] W80
 ·refine tWk (St.mk 21 [En.mk 0 [] (SV.agg [C.i .u8 8,C.i .u8 n.op,zdg n,zdd n,zdh n,zcR n,zcS n,zdi n,zcT n,zcU n,zdj n,zdn n,zcV n])] [] []) ?_ [] [0] [(8:Int)=n.kind] W48
  refine tz [0] ?_
  refine tG Qy (G9 n.op) [] ?_ (vc:=[(0:Int)≤(8:Int),(8:Int)<(10:Int),8<10]) (hv:=W28)
  refine tz [16,13,4,2] ?_
  refine Q0 (decide ((8:Int)=(1:Int))&&twoB n.op) (fun h2=>?_) (fun h2=>?_)
  ·exact absurd h2 W81
  ·exact Q2 [] [0] [prtN n=(104:Int)] W80
 ·refine tWk (St.mk 21 [En.mk 0 [] (SV.agg [C.i .u8 9,C.i .u8 n.op,zdg n,zdd n,zdh n,zcR n,zcS n,zdi n,zcT n,zcU n,zdj n,zdn n,zcV n])] [] []) ?_ [] [0] [(9:Int)=n.kind] W48
  refine tz [0] ?_
  refine tG Qy (G9 n.op) [] ?_ (vc:=[(0:Int)≤(9:Int),(9:Int)<(10:Int),9<10]) (hv:=W28)
  refine tz [16,13,4,2] ?_
  refine Q0 (decide ((9:Int)=(1:Int))&&twoB n.op) (fun h2=>?_) (fun h2=>?_)
  ·exact absurd h2 W81
  ·exact Q2 [] [0] [prtN n=(0:Int)] W80
abbrev z77_1:=(MT.mk jb 141 3 4 [CK.i ja] false [CK.b] false)
theorem Qf0:MT.Ok z77_1:=MT.ok_int K K (.inr rfl) (fun w=>by kernel_rfl)
abbrev ze (y0:Grf):Reg:=Reg.box 60 [C.v (jC y0.name),C.i .i64 y0.locals,C.i .i64 y0.slots,C.h 0]
abbrev zL:En:=se 2 (C.v (je none 0 0))
abbrev zae (y0:Nat) (y1:Int → Option Bool):Reg:=Reg.mp (MT.mk jb 141 3 4 [CK.i ja] false [CK.b] false) y0 (fun (a:Int)=>(y1 a).isSome) (fun (a:Int)=>(y1 a).getD false) none
abbrev zao (y0:Grf):Reg:=Nod.rowR y0.nodes
abbrev zb8:En:=se 1 (C.p 2 0)
abbrev zbA (y0:Int):En:=se 7 (C.i .i64 y0)
abbrev zbM (y0:Grf) (y1:List Int) (y2:Int):Reg:=Reg.box 101 ((y0.nodes.getD (y1.getD y2.toNat 0).toNat ua)).cs
abbrev zcg (y0:Int):En:=se 3 (C.i .i64 y0)
abbrev zbd (y0 y1:Int) (y2:Grf) (y3:Ext) (y4:List Hdl) (y5:Nat) (y6:Int → Option Bool) (y7 y8:List Int):St:=St.mk 109 [se 10 (C.h 7),se 9 (C.p 6 0),zbA y0,se 6 (C.h 5),se 5 (C.h 4),se 4 (C.h 3),zcg y1,zL,zb8] [zao y2,Reg.froz y3,ze y2,Hdl.ownR y4,zae y5 y6,IntOwn y7,zbM y2 y7 y0,IntRow y8,Reg.dead] []
def C51 (g:Grf) (ud:Int) (ui:Int) (uf:Ext) (uj:List Hdl) (uw:Nat) (ul:Int→Option Bool) (uh:List Int) (nw:List Int):St:=zbd ud ui g uf uj uw ul uh nw
def C51_J (g:Grf) (ud:Int) (ui:Int) (uf:Ext) (uj:List Hdl) (uw:Nat) (ul:Int→Option Bool) (uh:List Int) (nw:List Int):Prop:=nowH (g.nodes.getD (uh.getD ud.toNat 0).toNat ua) (rd uf (je (uj.getD (uh.getD ud.toNat 0).toNat ua).a (uj.getD (uh.getD ud.toNat 0).toNat ua).n (uj.getD (uh.getD ud.toNat 0).toNat ua).c))=some nw
abbrev z77_4 (g:Grf):=Reg.box 60 [C.v (jC g.name),C.i .i64 g.locals,C.i .i64 g.slots,C.h 0]
abbrev z77_5 (g:Grf):=rowOf 13 (·.tc) g.nodes
def vK (g:Grf) (X0:Ext):Lp (Int×Int×Ext×List Hdl×Nat×(Int→Option (Bool))×List Int):=⟨fun x=>{ N:=109,fr:=[se 7 (C.i .i64 x.1),se 6 (C.h 5),se 5 (C.h 4),se 4 (C.h 3),se 3 (C.i .i64 x.2.1),zL,zb8],rg:=[z77_5 g,Reg.froz (x.2.2.1),z77_4 g,Hdl.ownR (x.2.2.2.1),Reg.mp z77_1 (x.2.2.2.2.1) (fun a=>(x.2.2.2.2.2.1 a).isSome) (fun a=>(x.2.2.2.2.2.1 a).getD (false)) none,IntOwn (x.2.2.2.2.2.2)],wr:=[] },fun x=>HJ g.nodes x.1 x.2.2.1 x.2.2.2.1 x.2.2.2.2.1 x.2.2.2.2.2.1 x.2.2.2.2.2.2,fun x=>(g.nodes.length+1-x.1.toNat)⟩
abbrev z77_2 (g:Grf) (uh:List Int) (ud:Int):=(g.nodes.getD (uh.getD ud.toNat 0).toNat ua)
def vg (g:Grf) (ud:Int) (ui:Int) (uf:Ext) (uj:List Hdl) (uw:Nat) (ul:Int→Option Bool) (uh:List Int) (nw:List Int):Lp (Int×Int×Ext×List Hdl×Nat×(Int→Option (Bool))×List Int):=⟨fun x=>{ N:=109,fr:=[se 80 (C.i .i64 x.1),{ slot:=79,g:=[],sv:=SV.c (C.i .i64 (↑(flwL (z77_2 g uh ud)).length:Int)) },se 78 (C.h 9),se 10 (C.h 7),zbA ud,se 6 (C.h 5),se 5 (C.h 4),se 4 (C.h 3),se 3 (C.i .i64 x.2.1),zL,zb8],rg:=[z77_5 g,Reg.froz (x.2.2.1),z77_4 g,Hdl.ownR (x.2.2.2.1),Reg.mp z77_1 (x.2.2.2.2.1) (fun a=>(x.2.2.2.2.2.1 a).isSome) (fun a=>(x.2.2.2.2.2.1 a).getD (false)) none,IntOwn (x.2.2.2.2.2.2),Reg.box 101 [C.i .u8 (z77_2 g uh ud).kind,C.i .u8 (z77_2 g uh ud).op,C.i .i64 (z77_2 g uh ud).slot,C.i .i64 (z77_2 g uh ud).thing,C.b (z77_2 g uh ud).a.slotted,C.i .i64 (z77_2 g uh ud).a.slot,C.i .i64 (z77_2 g uh ud).a.word,C.b (z77_2 g uh ud).b.slotted,C.i .i64 (z77_2 g uh ud).b.slot,C.i .i64 (z77_2 g uh ud).b.word,C.i .i64 (z77_2 g uh ud).next,C.i .i64 (z77_2 g uh ud).els,C.i .i64 (z77_2 g uh ud).origin],IntRow nw,Reg.dead,IntOwn (flwL (z77_2 g uh ud))],wr:=[] },fun x=>HK g.nodes ud (g.nodes.getD (uh.getD ud.toNat 0).toNat ua) nw x.1 x.2.2.1 x.2.2.2.1 x.2.2.2.2.1 x.2.2.2.2.2.1 x.2.2.2.2.2.2,fun x=>((flwL (g.nodes.getD (uh.getD ud.toNat 0).toNat ua)).length-x.1).toNat⟩
abbrev z77_3 (ud:Int) (ui:Int):=[se 10 (C.h 10),se 9 (C.p 6 0),se 7 (C.i .i64 ud),se 6 (C.h 5),se 5 (C.h 4),se 4 (C.h 3),se 3 (C.i .i64 ui),se 2 (C.v (je none 0 0)),se 1 (C.p 2 0)]
abbrev z77_6 (uj:List Hdl):=ownOf 49 1 (·.tc) uj
abbrev zc (y0:Grf) (y1:List Int) (y2:Int):Reg:=Reg.box 101 [C.i .u8 (y0.nodes.getD (y1.getD y2.toNat 0).toNat ua).kind,C.i .u8 (y0.nodes.getD (y1.getD y2.toNat 0).toNat ua).op,C.i .i64 (y0.nodes.getD (y1.getD y2.toNat 0).toNat ua).slot,C.i .i64 (y0.nodes.getD (y1.getD y2.toNat 0).toNat ua).thing,C.b (y0.nodes.getD (y1.getD y2.toNat 0).toNat ua).a.slotted,C.i .i64 (y0.nodes.getD (y1.getD y2.toNat 0).toNat ua).a.slot,C.i .i64 (y0.nodes.getD (y1.getD y2.toNat 0).toNat ua).a.word,C.b (y0.nodes.getD (y1.getD y2.toNat 0).toNat ua).b.slotted,C.i .i64 (y0.nodes.getD (y1.getD y2.toNat 0).toNat ua).b.slot,C.i .i64 (y0.nodes.getD (y1.getD y2.toNat 0).toNat ua).b.word,C.i .i64 (y0.nodes.getD (y1.getD y2.toNat 0).toNat ua).next,C.i .i64 (y0.nodes.getD (y1.getD y2.toNat 0).toNat ua).els,C.i .i64 (y0.nodes.getD (y1.getD y2.toNat 0).toNat ua).origin]
abbrev zh (y0:Ext) (y1:List Hdl) (y2:List Int) (y3:Int) (y4:Grf):Reg:=Reg.own 3 1 ((rd y0 (je (y1.getD (y2.getD y3.toNat 0).toNat ua).a (y1.getD (y2.getD y3.toNat 0).toNat ua).n (y1.getD (y2.getD y3.toNat 0).toNat ua).c)).length+1) (fun i=>i64T ((rd y0 (je (y1.getD (y2.getD y3.toNat 0).toNat ua).a (y1.getD (y2.getD y3.toNat 0).toNat ua).n (y1.getD (y2.getD y3.toNat 0).toNat ua).c)).getD i 0)) (some ((rd y0 (je (y1.getD (y2.getD y3.toNat 0).toNat ua).a (y1.getD (y2.getD y3.toNat 0).toNat ua).n (y1.getD (y2.getD y3.toNat 0).toNat ua).c)).length,[C.i .i64 (y4.nodes.getD (y2.getD y3.toNat 0).toNat ua).thing]))
abbrev zn (y0:Ext) (y1:List Hdl) (y2:List Int) (y3:Int):List Prop:=[decide ((↑(rd y0 (je (y1.getD (y2.getD y3.toNat 0).toNat ua).a (y1.getD (y2.getD y3.toNat 0).toNat ua).n (y1.getD (y2.getD y3.toNat 0).toNat ua).c)).length:Int)=(0:Int))=false→Fits ja ((↑(rd y0 (je (y1.getD (y2.getD y3.toNat 0).toNat ua).a (y1.getD (y2.getD y3.toNat 0).toNat ua).n (y1.getD (y2.getD y3.toNat 0).toNat ua).c)).length:Int)-(1:Int)),decide ((↑(rd y0 (je (y1.getD (y2.getD y3.toNat 0).toNat ua).a (y1.getD (y2.getD y3.toNat 0).toNat ua).n (y1.getD (y2.getD y3.toNat 0).toNat ua).c)).length:Int)=(0:Int))=false→(0:Int)≤(↑(rd y0 (je (y1.getD (y2.getD y3.toNat 0).toNat ua).a (y1.getD (y2.getD y3.toNat 0).toNat ua).n (y1.getD (y2.getD y3.toNat 0).toNat ua).c)).length:Int)-(1:Int),decide ((↑(rd y0 (je (y1.getD (y2.getD y3.toNat 0).toNat ua).a (y1.getD (y2.getD y3.toNat 0).toNat ua).n (y1.getD (y2.getD y3.toNat 0).toNat ua).c)).length:Int)=(0:Int))=false→(↑(rd y0 (je (y1.getD (y2.getD y3.toNat 0).toNat ua).a (y1.getD (y2.getD y3.toNat 0).toNat ua).n (y1.getD (y2.getD y3.toNat 0).toNat ua).c)).length:Int)-(1:Int)<(↑(rd y0 (je (y1.getD (y2.getD y3.toNat 0).toNat ua).a (y1.getD (y2.getD y3.toNat 0).toNat ua).n (y1.getD (y2.getD y3.toNat 0).toNat ua).c)).length:Int),decide ((↑(rd y0 (je (y1.getD (y2.getD y3.toNat 0).toNat ua).a (y1.getD (y2.getD y3.toNat 0).toNat ua).n (y1.getD (y2.getD y3.toNat 0).toNat ua).c)).length:Int)=(0:Int))=false→((↑(rd y0 (je (y1.getD (y2.getD y3.toNat 0).toNat ua).a (y1.getD (y2.getD y3.toNat 0).toNat ua).n (y1.getD (y2.getD y3.toNat 0).toNat ua).c)).length:Int)-(1:Int)).toNat<(rd y0 (je (y1.getD (y2.getD y3.toNat 0).toNat ua).a (y1.getD (y2.getD y3.toNat 0).toNat ua).n (y1.getD (y2.getD y3.toNat 0).toNat ua).c)).length]
abbrev zG (y0:Grf):Prop:=∀ i:Nat,i<y0.nodes.length→∀ x∈flwL (y0.nodes.getD i ua),0≤x∧x<(y0.nodes.length:Int)
abbrev zK (y0:Ext) (y1:List Hdl) (y2:List Int) (y3:Int):List Prop:=[(rd y0 (je (y1.getD (y2.getD y3.toNat 0).toNat ua).a (y1.getD (y2.getD y3.toNat 0).toNat ua).n (y1.getD (y2.getD y3.toNat 0).toNat ua).c)).length+1≤maxLen,((rd y0 (je (y1.getD (y2.getD y3.toNat 0).toNat ua).a (y1.getD (y2.getD y3.toNat 0).toNat ua).n (y1.getD (y2.getD y3.toNat 0).toNat ua).c)).length+1) * 8≤140737488355328]
abbrev zR (y0:Nat) (y1:Int → Option Bool):List Prop:=[MpEq z77_1 y0 (fun (a:Int)=>(y1 a).isSome) (fun (a:Int)=>(y1 a).getD false) none z77_1 y0 (fun (a:Int)=>(y1 a).isSome) (fun (a:Int)=>(y1 a).getD false) none]
abbrev zU (y0:Ext) (y1:List Hdl) (y2:List Int) (y3:Int):List Prop:=[Fits ja ((↑(rd y0 (je (y1.getD (y2.getD y3.toNat 0).toNat ua).a (y1.getD (y2.getD y3.toNat 0).toNat ua).n (y1.getD (y2.getD y3.toNat 0).toNat ua).c)).length:Int)-(1:Int)),(0:Int)≤(0:Int),(0:Int)≤(↑(rd y0 (je (y1.getD (y2.getD y3.toNat 0).toNat ua).a (y1.getD (y2.getD y3.toNat 0).toNat ua).n (y1.getD (y2.getD y3.toNat 0).toNat ua).c)).length:Int)-(1:Int),(↑(rd y0 (je (y1.getD (y2.getD y3.toNat 0).toNat ua).a (y1.getD (y2.getD y3.toNat 0).toNat ua).n (y1.getD (y2.getD y3.toNat 0).toNat ua).c)).length:Int)-(1:Int)≤(↑(rd y0 (je (y1.getD (y2.getD y3.toNat 0).toNat ua).a (y1.getD (y2.getD y3.toNat 0).toNat ua).n (y1.getD (y2.getD y3.toNat 0).toNat ua).c)).length:Int)]
abbrev zam (y0:Grf):List Prop:=[(0:Int)≤(↑y0.nodes.length:Int),(↑y0.nodes.length:Int)≤(↑y0.nodes.length:Int),(↑y0.nodes.length:Int) * (24:Int)≤(140737488355328:Int),(↑y0.nodes.length:Int)≤(↑maxLen:Int),(MT.mk jb 141 3 4 [CK.i ja] false [CK.b] false).P=jb,(MT.mk jb 141 3 4 [CK.i ja] false [CK.b] false).Ok,Fits ja (0:Int),(MT.mk jb 141 3 4 [CK.i ja] false [CK.b] false).P=jb,0<maxLen]
abbrev zay (y0 y1:Int) (y2:Grf) (y3:Ext) (y4:List Hdl) (y5:Nat) (y6:Int → Option Bool) (y7:List Int):St:=St.mk 109 (z77_3 y0 y1) [z77_5 y2,Reg.froz y3,z77_4 y2,z77_6 y4,Reg.mp z77_1 y5 (fun (a:Int)=>(y6 a).isSome) (fun (a:Int)=>(y6 a).getD false) none,IntOwn y7,zc y2 y7 y0,Reg.dead,Reg.dead,Reg.dead,zh y3 y4 y7 y0 y2] []
abbrev za1 (y0:Int) (y1:Grf) (y2:List Int) (y3:Int):List Prop:=[(0:Int)≤y0,y0<(↑(flwL (y1.nodes.getD (y2.getD y3.toNat 0).toNat ua)).length:Int),y0.toNat<(flwL (y1.nodes.getD (y2.getD y3.toNat 0).toNat ua)).length,Fits ja ((flwL (y1.nodes.getD (y2.getD y3.toNat 0).toNat ua)).getD y0.toNat 0),(MT.mk jb 141 3 4 [CK.i ja] false [CK.b] false).P=jb]
abbrev za2 (y0:Grf) (y1:List Int) (y2 y3:Int) (y4:List Hdl) (y5:List Int):List Prop:=[(0:Int)≤(flwL (y0.nodes.getD (y1.getD y2.toNat 0).toNat ua)).getD y3.toNat 0,(flwL (y0.nodes.getD (y1.getD y2.toNat 0).toNat ua)).getD y3.toNat 0<(↑y4.length:Int),((flwL (y0.nodes.getD (y1.getD y2.toNat 0).toNat ua)).getD y3.toNat 0).toNat<y4.length,y5.length+1≤maxLen,(y5.length+1) * 8≤140737488355328,Fits ja (y3+(1:Int))]
abbrev za7 (y0:Int) (y1:List Int) (y2:Grf) (y3:List Hdl):List Prop:=[(0:Int)≤y0,y0<(↑y1.length:Int),y0.toNat<y1.length,(0:Int)≤y1.getD y0.toNat 0,y1.getD y0.toNat 0<(↑y2.nodes.length:Int),(y1.getD y0.toNat 0).toNat<y2.nodes.length,(0:Int)≤y1.getD y0.toNat 0,y1.getD y0.toNat 0<(↑y3.length:Int),(y1.getD y0.toNat 0).toNat<y3.length]
abbrev zaL (y0:Grf) (y1:List Int) (y2 y3:Int) (y4:List Hdl):List Prop:=[(0:Int)≤(flwL (y0.nodes.getD (y1.getD y2.toNat 0).toNat ua)).getD y3.toNat 0,(flwL (y0.nodes.getD (y1.getD y2.toNat 0).toNat ua)).getD y3.toNat 0<(↑y4.length:Int),((flwL (y0.nodes.getD (y1.getD y2.toNat 0).toNat ua)).getD y3.toNat 0).toNat<y4.length]
abbrev zb1 (y0:Grf) (y1:List Int) (y2 y3:Int) (y4:Nat):List Prop:=[Fits ja ((flwL (y0.nodes.getD (y1.getD y2.toNat 0).toNat ua)).getD y3.toNat 0),(MT.mk jb 141 3 4 [CK.i ja] false [CK.b] false).P=jb,y4<maxLen]
theorem Qp5 (g:Grf) (hq:zG g) (hN:1≤g.nodes.length∧g.nodes.length≤4096):Ctr jb 48 [zao g] [.agg (g.cs 0)]
 (Det (.tup [(false,[.h 1]),(false,[.i .i64 (heldF g.nodes)])]) [.dead,.one]):=by
 refine Ctr.intro [] Tryz.func48 K K ?_
 refine RunF.tabnew K (fun X0=>?_)
 refine tz [0] ?_
 refine Q6 (vK g X0) (((0:Int),(0:Int),X0,jh g.nodes.length Hdl.none,1,fun (q:Int)=>if q=(0:Int) then some true else none,[(0:Int)])) (.start hN.1 X0) ?_ [] [6,7,8,9,10,11] [(jh g.nodes.length Hdl.none).length=g.nodes.length,∀ (i:Nat),i<(jh g.nodes.length Hdl.none).length→((jh g.nodes.length Hdl.none).getD i ua).tc=fun j=>valT (je none 0 0).cells.toList j,MpEq z77_1 1 (fun (a:Int)=>(if a=(0:Int) then some true else none).isSome) (fun (a:Int)=>(if a=(0:Int) then some true else none).getD false) none z77_1 1 (fun (q:Int)=>decide (q=(0:Int))||false) (fun (q:Int)=>if q=(0:Int) then true else KA.zero [CK.b]) none,[(0:Int)].length=1,∀ (i:Nat),i < [(0:Int)].length→i≠0→i64T ([(0:Int)].getD i 0)=fun x=>TC.any,i64T (0:Int) 0=TC.val (jg ja (0:Int))] W10 (vc:=(zam g)) (hv:=W18)
 rintro ⟨ud,ui,uf,uj,uw,ul,uh⟩ hJ1
 dsimp only [vK] at hJ1
 refine tz [7,6,5,4,3,2,1] ?_
 refine Q0 (decide (ud<(↑uh.length:Int))) (fun h2=>?_) (fun h2=>?_)
 ·refine RunF.cutn 5 (fun nw=>C51 g ud ui uf uj uw ul uh nw) (fun nw=>C51_J g ud ui uf uj uw ul uh nw) ?_ ?_
  ·refine tz [7,6,5,4,3,2,1] ?_
   refine Q0 (decide ((g.nodes.getD (uh.getD ud.toNat 0).toNat ua).kind=(5:Int))) (fun h3=>?_) (fun h3=>?_) (vc:=(za7 ud uh g uj)) (hv:=W18)
   ·refine RunF.tabout 10 1 (X:=uf) (y:=je (uj.getD (uh.getD ud.toNat 0).toNat ua).a (uj.getD (uh.getD ud.toNat 0).toNat ua).n (uj.getD (uh.getD ud.toNat 0).toNat ua).c) (size:=1) (n:=(rd uf (je (uj.getD (uh.getD ud.toNat 0).toNat ua).a (uj.getD (uh.getD ud.toNat 0).toNat ua).n (uj.getD (uh.getD ud.toNat 0).toNat ua).c)).length) (f:=fun j=>i64T ((rd uf (je (uj.getD (uh.getD ud.toNat 0).toNat ua).a (uj.getD (uh.getD ud.toNat 0).toNat ua).n (uj.getD (uh.getD ud.toNat 0).toNat ua).c)).getD j 0)) K K K (Qx (hJ1.is (ub h2))) ?_
    refine tz [10,9,7,6,5,4,3,2,1] ?_
    refine Jy 2 (fun _:Unit=>zay ud ui g uf uj uw ul uh) (fun _=>True) ?_ ?_
    ·refine ⟨⟨trivial,?_⟩,?_⟩
     ·refine Q3 Y2 (Z3 (rd uf (je (uj.getD (uh.getD ud.toNat 0).toNat ua).a (uj.getD (uh.getD ud.toNat 0).toNat ua).n (uj.getD (uh.getD ud.toNat 0).toNat ua).c)) W56) [7] ?_
      exact tTo (fun x=>zay ud ui g uf uj uw ul uh) (fun x=>True) () trivial [] [8] (zR uw ul) W10 (vc:=(zK uf uj uh ud)) (hv:=W18)
     ·refine Q3 Y2 (Z3 (rd uf (je (uj.getD (uh.getD ud.toNat 0).toNat ua).a (uj.getD (uh.getD ud.toNat 0).toNat ua).n (uj.getD (uh.getD ud.toNat 0).toNat ua).c)) W56) [7] ?_
      exact tTo (fun x=>zay ud ui g uf uj uw ul uh) (fun x=>True) () trivial [] [8] (zR uw ul) W10 (vc:=(zK uf uj uh ud)) (hv:=W18)
    ·rintro ⟨⟩ _
     exact tTo (fun nw=>C51 g ud ui uf uj uw ul uh nw) (fun nw=>C51_J g ud ui uf uj uw ul uh nw) (rd uf (je (uj.getD (uh.getD ud.toNat 0).toNat ua).a (uj.getD (uh.getD ud.toNat 0).toNat ua).n (uj.getD (uh.getD ud.toNat 0).toNat ua).c)++[(g.nodes.getD (uh.getD ud.toNat 0).toNat ua).thing]) W55 [0,1,2,3,4,5,6,10,8] [8,24,25,26] [MpEq z77_1 uw (fun (a:Int)=>(ul a).isSome) (fun (a:Int)=>(ul a).getD false) none z77_1 uw (fun (a:Int)=>(ul a).isSome) (fun (a:Int)=>(ul a).getD false) none,(rd uf (je (uj.getD (uh.getD ud.toNat 0).toNat ua).a (uj.getD (uh.getD ud.toNat 0).toNat ua).n (uj.getD (uh.getD ud.toNat 0).toNat ua).c)++[(g.nodes.getD (uh.getD ud.toNat 0).toNat ua).thing]).length=(rd uf (je (uj.getD (uh.getD ud.toNat 0).toNat ua).a (uj.getD (uh.getD ud.toNat 0).toNat ua).n (uj.getD (uh.getD ud.toNat 0).toNat ua).c)).length+1,∀ (i:Nat),i<(rd uf (je (uj.getD (uh.getD ud.toNat 0).toNat ua).a (uj.getD (uh.getD ud.toNat 0).toNat ua).n (uj.getD (uh.getD ud.toNat 0).toNat ua).c)++[(g.nodes.getD (uh.getD ud.toNat 0).toNat ua).thing]).length→i≠(rd uf (je (uj.getD (uh.getD ud.toNat 0).toNat ua).a (uj.getD (uh.getD ud.toNat 0).toNat ua).n (uj.getD (uh.getD ud.toNat 0).toNat ua).c)).length→i64T ((rd uf (je (uj.getD (uh.getD ud.toNat 0).toNat ua).a (uj.getD (uh.getD ud.toNat 0).toNat ua).n (uj.getD (uh.getD ud.toNat 0).toNat ua).c)++[(g.nodes.getD (uh.getD ud.toNat 0).toNat ua).thing]).getD i 0)=i64T ((rd uf (je (uj.getD (uh.getD ud.toNat 0).toNat ua).a (uj.getD (uh.getD ud.toNat 0).toNat ua).n (uj.getD (uh.getD ud.toNat 0).toNat ua).c)).getD i 0),i64T ((rd uf (je (uj.getD (uh.getD ud.toNat 0).toNat ua).a (uj.getD (uh.getD ud.toNat 0).toNat ua).n (uj.getD (uh.getD ud.toNat 0).toNat ua).c)++[(g.nodes.getD (uh.getD ud.toNat 0).toNat ua).thing]).getD (rd uf (je (uj.getD (uh.getD ud.toNat 0).toNat ua).a (uj.getD (uh.getD ud.toNat 0).toNat ua).n (uj.getD (uh.getD ud.toNat 0).toNat ua).c)).length (0:Int)) 0=TC.val (jg ja (g.nodes.getD (uh.getD ud.toNat 0).toNat ua).thing)] W10
   ·refine tz [40,10,9,8,7,6,5,4,3,2,1] ?_
    refine Q0 (decide ((g.nodes.getD (uh.getD ud.toNat 0).toNat ua).kind=(6:Int))) (fun h4=>?_) (fun h4=>?_)
    ·refine RunF.tabout 10 1 (X:=uf) (y:=je (uj.getD (uh.getD ud.toNat 0).toNat ua).a (uj.getD (uh.getD ud.toNat 0).toNat ua).n (uj.getD (uh.getD ud.toNat 0).toNat ua).c) (size:=1) (n:=(rd uf (je (uj.getD (uh.getD ud.toNat 0).toNat ua).a (uj.getD (uh.getD ud.toNat 0).toNat ua).n (uj.getD (uh.getD ud.toNat 0).toNat ua).c)).length) (f:=fun j=>i64T ((rd uf (je (uj.getD (uh.getD ud.toNat 0).toNat ua).a (uj.getD (uh.getD ud.toNat 0).toNat ua).n (uj.getD (uh.getD ud.toNat 0).toNat ua).c)).getD j 0)) K K K (Qx (hJ1.is (ub h2))) ?_
     refine tz [10,9,8,7,6,5,4,3,2,1] ?_
     refine Q0 (decide ((↑(rd uf (je (uj.getD (uh.getD ud.toNat 0).toNat ua).a (uj.getD (uh.getD ud.toNat 0).toNat ua).n (uj.getD (uh.getD ud.toNat 0).toNat ua).c)).length:Int)=(0:Int))||!decide ((rd uf (je (uj.getD (uh.getD ud.toNat 0).toNat ua).a (uj.getD (uh.getD ud.toNat 0).toNat ua).n (uj.getD (uh.getD ud.toNat 0).toNat ua).c)).getD ((↑(rd uf (je (uj.getD (uh.getD ud.toNat 0).toNat ua).a (uj.getD (uh.getD ud.toNat 0).toNat ua).n (uj.getD (uh.getD ud.toNat 0).toNat ua).c)).length:Int)-(1:Int)).toNat (0:Int)=(g.nodes.getD (uh.getD ud.toNat 0).toNat ua).thing)) (fun h5=>?_) (fun h5=>?_) (vc:=(zn uf uj uh ud)) (hv:=W18)
     ·exact Q2 [0,1000001] [0] [heldF g.nodes=uh.getD ud.toNat 0] W82
     ·exact tTo (fun nw=>C51 g ud ui uf uj uw ul uh nw) (fun nw=>C51_J g ud ui uf uj uw ul uh nw) (jR (((↑(rd uf (je (uj.getD (uh.getD ud.toNat 0).toNat ua).a (uj.getD (uh.getD ud.toNat 0).toNat ua).n (uj.getD (uh.getD ud.toNat 0).toNat ua).c)).length:Int)-(1:Int)).toNat-0) (List.drop 0 (rd uf (je (uj.getD (uh.getD ud.toNat 0).toNat ua).a (uj.getD (uh.getD ud.toNat 0).toNat ua).n (uj.getD (uh.getD ud.toNat 0).toNat ua).c)))) W55 [0,1,2,3,4,5,6,8,8] [8,24,25] [MpEq z77_1 uw (fun (a:Int)=>(ul a).isSome) (fun (a:Int)=>(ul a).getD false) none z77_1 uw (fun (a:Int)=>(ul a).isSome) (fun (a:Int)=>(ul a).getD false) none,(jR (((↑(rd uf (je (uj.getD (uh.getD ud.toNat 0).toNat ua).a (uj.getD (uh.getD ud.toNat 0).toNat ua).n (uj.getD (uh.getD ud.toNat 0).toNat ua).c)).length:Int)-(1:Int)).toNat-0) (List.drop 0 (rd uf (je (uj.getD (uh.getD ud.toNat 0).toNat ua).a (uj.getD (uh.getD ud.toNat 0).toNat ua).n (uj.getD (uh.getD ud.toNat 0).toNat ua).c)))).length=((↑(rd uf (je (uj.getD (uh.getD ud.toNat 0).toNat ua).a (uj.getD (uh.getD ud.toNat 0).toNat ua).n (uj.getD (uh.getD ud.toNat 0).toNat ua).c)).length:Int)-(1:Int)).toNat-0,∀ (i:Nat),i<(jR (((↑(rd uf (je (uj.getD (uh.getD ud.toNat 0).toNat ua).a (uj.getD (uh.getD ud.toNat 0).toNat ua).n (uj.getD (uh.getD ud.toNat 0).toNat ua).c)).length:Int)-(1:Int)).toNat-0) (List.drop 0 (rd uf (je (uj.getD (uh.getD ud.toNat 0).toNat ua).a (uj.getD (uh.getD ud.toNat 0).toNat ua).n (uj.getD (uh.getD ud.toNat 0).toNat ua).c)))).length→i64T ((jR (((↑(rd uf (je (uj.getD (uh.getD ud.toNat 0).toNat ua).a (uj.getD (uh.getD ud.toNat 0).toNat ua).n (uj.getD (uh.getD ud.toNat 0).toNat ua).c)).length:Int)-(1:Int)).toNat-0) (List.drop 0 (rd uf (je (uj.getD (uh.getD ud.toNat 0).toNat ua).a (uj.getD (uh.getD ud.toNat 0).toNat ua).n (uj.getD (uh.getD ud.toNat 0).toNat ua).c)))).getD i 0)=i64T ((rd uf (je (uj.getD (uh.getD ud.toNat 0).toNat ua).a (uj.getD (uh.getD ud.toNat 0).toNat ua).n (uj.getD (uh.getD ud.toNat 0).toNat ua).c)).getD (0+i) 0)] W10 (vc:=(zU uf uj uh ud)) (hv:=W18)
    ·refine tz [40,10,9,8,7,6,5,4,3,2,1] ?_
     refine Q0 (decide ((g.nodes.getD (uh.getD ud.toNat 0).toNat ua).kind=(9:Int))) (fun h5=>?_) (fun h5=>?_)
     ·refine RunF.tabout 10 1 (X:=uf) (y:=je (uj.getD (uh.getD ud.toNat 0).toNat ua).a (uj.getD (uh.getD ud.toNat 0).toNat ua).n (uj.getD (uh.getD ud.toNat 0).toNat ua).c) (size:=1) (n:=(rd uf (je (uj.getD (uh.getD ud.toNat 0).toNat ua).a (uj.getD (uh.getD ud.toNat 0).toNat ua).n (uj.getD (uh.getD ud.toNat 0).toNat ua).c)).length) (f:=fun j=>i64T ((rd uf (je (uj.getD (uh.getD ud.toNat 0).toNat ua).a (uj.getD (uh.getD ud.toNat 0).toNat ua).n (uj.getD (uh.getD ud.toNat 0).toNat ua).c)).getD j 0)) K K K (Qx (hJ1.is (ub h2))) ?_
      refine tz [10,9,8,7,6,5,4,3,2,1] ?_
      refine Q0 (decide ((0:Int)<(↑(rd uf (je (uj.getD (uh.getD ud.toNat 0).toNat ua).a (uj.getD (uh.getD ud.toNat 0).toNat ua).n (uj.getD (uh.getD ud.toNat 0).toNat ua).c)).length:Int))) (fun h6=>?_) (fun h6=>?_)
      ·exact Q2 [0,1000001] [0] [heldF g.nodes=uh.getD ud.toNat 0] W82
      ·exact tTo (fun nw=>C51 g ud ui uf uj uw ul uh nw) (fun nw=>C51_J g ud ui uf uj uw ul uh nw) (rd uf (je (uj.getD (uh.getD ud.toNat 0).toNat ua).a (uj.getD (uh.getD ud.toNat 0).toNat ua).n (uj.getD (uh.getD ud.toNat 0).toNat ua).c)) W55 [0,1,2,3,4,5,6,7,1000008] [8] (zR uw ul) W10
     ·refine RunF.tabout 10 1 (X:=uf) (y:=je (uj.getD (uh.getD ud.toNat 0).toNat ua).a (uj.getD (uh.getD ud.toNat 0).toNat ua).n (uj.getD (uh.getD ud.toNat 0).toNat ua).c) (size:=1) (n:=(rd uf (je (uj.getD (uh.getD ud.toNat 0).toNat ua).a (uj.getD (uh.getD ud.toNat 0).toNat ua).n (uj.getD (uh.getD ud.toNat 0).toNat ua).c)).length) (f:=fun j=>i64T ((rd uf (je (uj.getD (uh.getD ud.toNat 0).toNat ua).a (uj.getD (uh.getD ud.toNat 0).toNat ua).n (uj.getD (uh.getD ud.toNat 0).toNat ua).c)).getD j 0)) K K K (Qx (hJ1.is (ub h2))) ?_
      exact tTo (fun nw=>C51 g ud ui uf uj uw ul uh nw) (fun nw=>C51_J g ud ui uf uj uw ul uh nw) (rd uf (je (uj.getD (uh.getD ud.toNat 0).toNat ua).a (uj.getD (uh.getD ud.toNat 0).toNat ua).n (uj.getD (uh.getD ud.toNat 0).toNat ua).c)) W55 [0,1,2,3,4,5,6,7,1000008] [8] (zR uw ul) W10
  ·intro nw hCC51
   refine tz [10,9,7,6,5,4,3,2,1] ?_
   refine Q3 Ye (Zy (g.nodes.getD (uh.getD ud.toNat 0).toNat ua)) [] ?_
   refine tz [78,10,7,6,5,4,3,2,1] ?_
   refine Q6 (vg g ud ui uf uj uw ul uh nw) (((0:Int),ui,uf,uj,uw,ul,uh)) (hJ1.inner (ub h2) hCC51) ?_ [] [8] (zR uw ul) W10
   rintro ⟨ug,um,uq,ux,uE,uF,uJ⟩ hJ3
   dsimp only [vg] at hJ3
   refine tz [80,79,78,10,7,6,5,4,3,2,1] ?_
   refine Q0 (decide (ug<(↑(flwL (g.nodes.getD (uh.getD ud.toNat 0).toNat ua)).length:Int))) (fun h4=>?_) (fun h4=>?_)
   ·refine tz [80,79,78,10,7,6,5,4,3,2,1] ?_
    refine Q0 (!(uF ((flwL (g.nodes.getD (uh.getD ud.toNat 0).toNat ua)).getD ug.toNat 0)).getD false) (fun h5=>?_) (fun h5=>?_) (vc:=(za1 ug g uh ud)) (hv:=W18)
    ·refine tz [12,80,79,78,10,7,6,5,4,3,2,1] ?_
     refine Q3 Y2 (Z3 nw W56) [7] ?_ (vc:=(zb1 g uh ud ug uE)) (hv:=W18)
     refine RunF.tabin 10 1 (ty:=3) (size:=1) (n:=nw.length) (f:=fun i=>i64T (nw.getD i 0)) (X:=uq) K K K (fun X9 A9 c9 hInX9 hTabX9=>?_)
     exact Q4 (vg g ud ui uf uj uw ul uh nw) (ug,um,uq,ux,uE,uF,uJ) ((ug+(1:Int),um,X9,ux.set ((flwL (g.nodes.getD (uh.getD ud.toNat 0).toNat ua)).getD ug.toNat 0).toNat (Hdl.mk A9 nw.length c9),uE+1,fun (q:Int)=>if q=(flwL (g.nodes.getD (uh.getD ud.toNat 0).toNat ua)).getD ug.toNat 0 then some true else uF q,uJ++[(flwL (g.nodes.getD (uh.getD ud.toNat 0).toNat ua)).getD ug.toNat 0])) W204 W96 [0,1,2,3,4,12,6,7,8,9] [6,7,8,9,10,11] [(ux.set ((flwL (g.nodes.getD (uh.getD ud.toNat 0).toNat ua)).getD ug.toNat 0).toNat (Hdl.mk A9 nw.length c9)).length=ux.length,∀ (i:Nat),i<(ux.set ((flwL (g.nodes.getD (uh.getD ud.toNat 0).toNat ua)).getD ug.toNat 0).toNat (Hdl.mk A9 nw.length c9)).length→((ux.set ((flwL (g.nodes.getD (uh.getD ud.toNat 0).toNat ua)).getD ug.toNat 0).toNat (Hdl.mk A9 nw.length c9)).getD i ua).tc=updT (fun i=>(ux.getD i ua).tc) ((flwL (g.nodes.getD (uh.getD ud.toNat 0).toNat ua)).getD ug.toNat 0).toNat 0 [je A9 nw.length c9] i,MpEq z77_1 (uE+1) (fun (a:Int)=>(if a=(flwL (g.nodes.getD (uh.getD ud.toNat 0).toNat ua)).getD ug.toNat 0 then some true else uF a).isSome) (fun (a:Int)=>(if a=(flwL (g.nodes.getD (uh.getD ud.toNat 0).toNat ua)).getD ug.toNat 0 then some true else uF a).getD false) none z77_1 (uE+1) (fun (q:Int)=>decide (q=(flwL (g.nodes.getD (uh.getD ud.toNat 0).toNat ua)).getD ug.toNat 0)||(uF q).isSome) (fun (q:Int)=>if q=(flwL (g.nodes.getD (uh.getD ud.toNat 0).toNat ua)).getD ug.toNat 0 then true else (uF q).getD false) none,(uJ++[(flwL (g.nodes.getD (uh.getD ud.toNat 0).toNat ua)).getD ug.toNat 0]).length=uJ.length+1,∀ (i:Nat),i<(uJ++[(flwL (g.nodes.getD (uh.getD ud.toNat 0).toNat ua)).getD ug.toNat 0]).length→i≠uJ.length→i64T ((uJ++[(flwL (g.nodes.getD (uh.getD ud.toNat 0).toNat ua)).getD ug.toNat 0]).getD i 0)=i64T (uJ.getD i 0),i64T ((uJ++[(flwL (g.nodes.getD (uh.getD ud.toNat 0).toNat ua)).getD ug.toNat 0]).getD uJ.length 0) 0=TC.val (jg ja ((flwL (g.nodes.getD (uh.getD ud.toNat 0).toNat ua)).getD ug.toNat 0))] W10 (vc:=(za2 g uh ud ug ux uJ)) (hv:=W18)
    ·refine tz [12,80,79,78,10,7,6,5,4,3,2,1] ?_
     refine Q3 J0 (Ql6 uq ((ux.getD ((flwL (g.nodes.getD (uh.getD ud.toNat 0).toNat ua)).getD ug.toNat 0).toNat ua).a) ((ux.getD ((flwL (g.nodes.getD (uh.getD ud.toNat 0).toNat ua)).getD ug.toNat 0).toNat ua).n) ((ux.getD ((flwL (g.nodes.getD (uh.getD ud.toNat 0).toNat ua)).getD ug.toNat 0).toNat ua).c) nw W56) [7,1] ?_ (vc:=(zaL g uh ud ug ux)) (hv:=W18)
     refine tz [104,12,80,79,78,10,7,6,5,4,3,2,1] ?_
     refine Q0 (!decide (rd uq (je (ux.getD ((flwL (g.nodes.getD (uh.getD ud.toNat 0).toNat ua)).getD ug.toNat 0).toNat ua).a (ux.getD ((flwL (g.nodes.getD (uh.getD ud.toNat 0).toNat ua)).getD ug.toNat 0).toNat ua).n (ux.getD ((flwL (g.nodes.getD (uh.getD ud.toNat 0).toNat ua)).getD ug.toNat 0).toNat ua).c)=nw)) (fun h6=>?_) (fun h6=>?_)
     ·exact Q2 [0,1000001] [0] [heldF g.nodes=(flwL (g.nodes.getD (uh.getD ud.toNat 0).toNat ua)).getD ug.toNat 0] W82
     ·exact Q4 (vg g ud ui uf uj uw ul uh nw) (ug,um,uq,ux,uE,uF,uJ) ((ug+(1:Int),um,uq,ux,uE,uF,uJ)) W204 W96 [] [8] (zR uE uF) W10 (vc:=(zF ug)) (hv:=W18)
   ·exact Q4 (vK g X0) (ud,ui,uf,uj,uw,ul,uh) ((ud+(1:Int),um,uq,ux,uE,uF,uJ)) (by dsimp only [vK];exact W240) (hJ3.done (uc h4)) [] [8] (zR uE uF) W10 (vc:=(zF ud)) (hv:=W18)
 ·exact Q2 [0,3] [0] [heldF g.nodes=(-1:Int)] W82
abbrev zc8 (y0:Int):SV:=.c (.i .i64 y0)
theorem Yq (p k h most:Int):Ctr jb 77 [.ro [.i .u8 p]] [zc8 k,.c (.i .u8 h),zc8 most,.c (.p 0 0)]
 (Det (.c (.b (withinP p k h most))) [.dead]):=by
 refine Ctr.intro [] Tryz.func77 K K ?_
 exact Q2 [] [0] [withinP p k h most=(decide (bits km jx p h=(0:Int))&&decide (k=(0:Int))||!decide (bits km jx p h=(0:Int))&&decide ((0:Int)≤k)&&decide (k<most))] (by simp only [Conj,withinP,usesB] at *<;>grind)
theorem Q2j (p h:Int) (v:Vl) (g:Grf):Ctr jb 78 [.ro [.i .u8 p],.ro (g.cs 2),zao g] [.agg v.cs,.c (.i .u8 h),.c (.p 0 0),.c (.p 1 0)]
 (Det (.c (.b (valueP p g.slots v h))) zb2):=by
 refine Ctr.intro [] Tryz.func78 K K ?_
 refine Q0 (decide (bits km jx p h=(0:Int))) (fun h1=>?_) (fun h1=>?_)
 ·exact Q2 [] [0] [valueP p g.slots v h=(decide (v.slotted=false)&&(decide (v.slot=(0:Int))&&(decide (v.word=(0:Int))&&true)))] W171
 ·refine tz [6,4,3] ?_
  refine Q0 (v.slotted) (fun h2=>?_) (fun h2=>?_)
  ·exact Q2 [] [0] [valueP p g.slots v h=(decide ((0:Int)≤v.slot)&&decide (v.slot<g.slots)&&decide (v.word=(0:Int)))] W171
  ·exact Q2 [] [0] [valueP p g.slots v h=decide (v.slot=(0:Int))] W171
abbrev zbC:List Reg:=[.dead,.dead,.dead,.dead]
theorem Qjp (sh lk:List Dcl) (gs:List Grf) (g:Grf) (n:Nod) (hk:0≤n.kind) (ho:0≤n.op∧n.op≤255):Ctr jb 47 [Dcl.rowR sh,Dcl.rowR lk,Grf.rowR gs,zao g] [zc4,.agg (g.cs 3),.agg n.cs]
 (Det (.c (.b (rightN sh.length lk.length g n))) zbC):=by
 refine Ctr.intro [] Tryz.func47 K K ?_
 refine Q0 (decide (n.kind=(0:Int))||decide ((10:Int)≤n.kind)||decide (n.origin<(0:Int))||decide ((4096:Int)≤n.origin)) (fun h1=>?_) (fun h1=>?_)
 ·exact Q2 [] [0] [rightN (↑sh.length:Int) (↑lk.length:Int) g n=false] W172
 ·refine tz [6,5,4,3] ?_
  refine Q3 Qcc (Qmz n (by first | assumption | omega | (simp only [BL] at *;omega))) [] ?_
  refine tz [30,6,5,4,3] ?_
  refine Q0 (decide (n.kind=(5:Int))||decide (n.kind=(6:Int))) (fun h2=>?_) (fun h2=>?_)
  ·refine tz [10,9,8,6,5,4,3] ?_
   refine Q3 Qt (Yq (prtN n) n.op 1 19) [7] ?_ (vc:=[Fits ja n.op]) (hv:=W28)
   refine tz [51,10,9,8,6,5,4] ?_
   refine tG Qt (Yq (prtN n) n.slot 2 g.slots) [7] ?_
   refine tz [58,52,10,9,8,6,5,4] ?_
   refine tG Qt (Yq (prtN n) n.thing 4 (↑lk.length:Int)) [7] ?_
   refine tz [65,60,9,8,6,5,4] ?_
   refine tG Qt (Yq (prtN n) n.next 32 (↑g.nodes.length:Int)) [7] ?_
   refine tz [74,67,9,8,6,5,4] ?_
   refine tG Qt (Yq (prtN n) n.els 64 (↑g.nodes.length:Int)) [7] ?_
   refine tz [83,76,9,6,5] ?_
   refine tG Zp (Q2j (prtN n) 8 n.a g) [7,5,3] ?_
   refine tz [89,85,9,6,5] ?_
   refine tG Zp (Q2j (prtN n) 16 n.b g) [7,5,3] ?_
   exact Q2 [] [0] [rightN (↑sh.length:Int) (↑lk.length:Int) g n=(withinP (prtN n) n.op (1:Int) (19:Int)&&withinP (prtN n) n.slot (2:Int) g.slots&&withinP (prtN n) n.thing (4:Int) (↑lk.length:Int)&&withinP (prtN n) n.next (32:Int) (↑g.nodes.length:Int)&&withinP (prtN n) n.els (64:Int) (↑g.nodes.length:Int)&&valueP (prtN n) g.slots n.a (8:Int)&&valueP (prtN n) g.slots n.b (16:Int))] W172
  ·refine tz [10,9,8,6,5,4] ?_
   refine Q3 Qt (Yq (prtN n) n.op 1 19) [7] ?_ (vc:=[Fits ja n.op]) (hv:=W28)
   refine tz [51,10,9,8,6,5,4] ?_
   refine tG Qt (Yq (prtN n) n.slot 2 g.slots) [7] ?_
   refine tz [58,52,10,9,8,6,5,4] ?_
   refine tG Qt (Yq (prtN n) n.thing 4 (↑sh.length:Int)) [7] ?_
   refine tz [65,60,9,8,6,5,4] ?_
   refine tG Qt (Yq (prtN n) n.next 32 (↑g.nodes.length:Int)) [7] ?_
   refine tz [74,67,9,8,6,5,4] ?_
   refine tG Qt (Yq (prtN n) n.els 64 (↑g.nodes.length:Int)) [7] ?_
   refine tz [83,76,9,6,5] ?_
   refine tG Zp (Q2j (prtN n) 8 n.a g) [7,5,3] ?_
   refine tz [89,85,9,6,5] ?_
   refine tG Zp (Q2j (prtN n) 16 n.b g) [7,5,3] ?_
   exact Q2 [] [0] [rightN (↑sh.length:Int) (↑lk.length:Int) g n=(withinP (prtN n) n.op (1:Int) (19:Int)&&withinP (prtN n) n.slot (2:Int) g.slots&&withinP (prtN n) n.thing (4:Int) (↑sh.length:Int)&&withinP (prtN n) n.next (32:Int) (↑g.nodes.length:Int)&&withinP (prtN n) n.els (64:Int) (↑g.nodes.length:Int)&&valueP (prtN n) g.slots n.a (8:Int)&&valueP (prtN n) g.slots n.b (16:Int))] W172
def vL (sh:List Dcl) (lk:List Dcl) (gs:List Grf):Lp (Int×Int×Int×Int):=⟨fun x=>{ N:=81,fr:=[se 17 (C.i .i64 x.1),se 16 (zdt gs),se 15 (C.h 2),se 4 (C.i .i64 x.2.1),se 3 (C.i .i64 x.2.2.1),se 2 (C.i .i64 x.2.2.2),zbO],rg:=[rowOf 3 (·.tc) sh,rowOf 3 (·.tc) lk,rowOf 4 (·.tc) gs,zP],wr:=[] },fun x=>CJ sh lk gs x.1,fun x=>((gs.length:Int)-x.1).toNat⟩
abbrev z78_1 (gs:List Grf) (ue:Int):=[C.v (jC (gs.getD ue.toNat ua).name),C.i .i64 (gs.getD ue.toNat ua).locals,C.i .i64 (gs.getD ue.toNat ua).slots,C.h 4]
abbrev zt (y0:List Grf) (y1:Int):Reg:=Reg.row 13 (y0.getD y1.toNat ua).nodes.length (fun i=>((y0.getD y1.toNat ua).nodes.getD i ua).tc) none
def vM (sh:List Dcl) (lk:List Dcl) (gs:List Grf) (ue:Int) (un:Int) (uR:Int) (uQ:Int):Lp (Int×Int×Int×Int):=⟨fun x=>{ N:=81,fr:=[se 58 (C.i .i64 x.1),se 57 (C.i .i64 (↑(zc1 gs ue).nodes.length:Int)),se 56 (C.h 4),se 5 (C.i .i64 ue),se 6 (C.p 5 0),se 17 (C.i .i64 ue),se 16 (zdt gs),se 15 (C.h 2),se 4 (C.i .i64 x.2.1),se 3 (C.i .i64 x.2.2.1),se 2 (C.i .i64 x.2.2.2),zbO],rg:=[rowOf 3 (·.tc) sh,rowOf 3 (·.tc) lk,Reg.row 4 gs.length (fun i=>(gs.getD i ua).tc) (some (ue.toNat,(z78_1 gs ue))),zP,zt gs ue,Reg.box 60 (z78_1 gs ue)],wr:=[] },fun x=>CN sh.length lk.length (zc1 gs ue) x.1,fun x=>(((zc1 gs ue).nodes.length:Int)-x.1).toNat⟩
abbrev zaT (y0:Int) (y1:List Grf) (y2:Int):List Prop:=[(0:Int)≤y0,y0<(↑(y1.getD y2.toNat ua).nodes.length:Int),y0.toNat<(y1.getD y2.toNat ua).nodes.length]
abbrev zbs (y0 y1:List Dcl) (y2:List Grf):List Prop:=[(chkU y0 y1 y2).fst=(60:Int),(chkU y0 y1 y2).snd.fst=(0:Int),(chkU y0 y1 y2).snd.snd=(0:Int)]
abbrev zcl (y0 y1:List Dcl) (y2:List Grf) (y3:Int):List Prop:=[(chkU y0 y1 y2).fst=(60:Int),(chkU y0 y1 y2).snd.fst=y3,(chkU y0 y1 y2).snd.snd=heldF (y2.getD y3.toNat ua).nodes]
abbrev zdp:List Nat:=[58,57,56,5,6,17,16,15,4,3,2,1]
theorem Gj (sh lk:List Dcl) (gs:List Grf) (hs:zy sh) (hl:zy lk) (hg:zT gs) (hw:UnitW gs):Ctr jb 31 (zbr sh lk gs) [zc4]
 (Det (.tup [(false,[.i .i64 (chkU sh lk gs).1]),(false,[.i .i64 (chkU sh lk gs).2.1]),(false,[.i .i64 (chkU sh lk gs).2.2])]) zb2):=by
 refine Ctr.intro [] Tryz.func31 K K ?_
 refine RunF.lens 2 (m:=gs.length) K (fun hlens_2=>?_)
 refine Q3 Qca (Qmy sh lk gs W87 W87 W87) [] ?_
 refine tz [12,4,3,2,1] ?_
 refine Q0 (!namedB sh lk gs) (fun h1=>?_) (fun h1=>?_)
 ·exact Q2 [] [0,1,2] (zbs sh lk gs) W52
 ·refine tz [4,3,2,1] ?_
  refine Q6 (vL sh lk gs) (((0:Int),(0:Int),(0:Int),(0:Int))) (CJ.start h1) ?_
  rintro ⟨ue,un,uR,uQ⟩ hJ2
  dsimp only [vL] at hJ2
  refine tz [17,16,15,4,3,2,1] ?_
  refine Q0 (decide (ue<(↑gs.length:Int))) (fun h3=>?_) (fun h3=>?_)
  ·refine Qv 2 (ue.toNat) ?_ (vc:=(zcc ue gs)) (hv:=W61)
   refine tz [17,16,15,4,3,2,1] ?_
   refine Q0 (decide ((zc1 gs ue).locals<(0:Int))||decide ((64:Int)<(zc1 gs ue).locals)||decide ((zc1 gs ue).slots<(zc1 gs ue).locals)||decide ((4160:Int)<(zc1 gs ue).slots)||decide ((↑(zc1 gs ue).nodes.length:Int)<(1:Int))||decide ((4096:Int)<(↑(zc1 gs ue).nodes.length:Int))) (fun h4=>?_) (fun h4=>?_) (vc:=(za6 ue gs)) (hv:=W61)
   ·exact Q2 [] [0,1,2] [(chkU sh lk gs).fst=(60:Int),(chkU sh lk gs).snd.fst=ue,(chkU sh lk gs).snd.snd=(0:Int)] W52
   ·refine tz [5,6,17,16,15,4,3,2,1] ?_
    refine Q6 (vM sh lk gs ue un uR uQ) (((0:Int),un,uR,uQ)) (CN.start _ _ _) ?_
    rintro ⟨uk,uy,uC,uG⟩ hJ5
    dsimp only [vM] at hJ5
    refine tz zdp ?_
    refine Q0 (decide (uk<(↑(zc1 gs ue).nodes.length:Int))) (fun h6=>?_) (fun h6=>?_)
    ·refine tz zdp ?_
     refine Q3 Qcb (Qjp sh lk gs (zc1 gs ue) ((zc1 gs ue).nodes.getD uk.toNat ua) W87 W87) [0,1,2,4] ?_ (vc:=(zaT uk gs ue)) (hv:=W61)
     refine tz [66,7,58,57,56,5,6,17,16,15,4,3,2,1] ?_
     refine Q0 (!rightN (↑sh.length:Int) (↑lk.length:Int) (zc1 gs ue) ((zc1 gs ue).nodes.getD uk.toNat ua)) (fun h7=>?_) (fun h7=>?_)
     ·exact Q2 [] [0,1,2] [(chkU sh lk gs).fst=(60:Int),(chkU sh lk gs).snd.fst=ue,(chkU sh lk gs).snd.snd=uk] W52
     ·exact Q4 (vM sh lk gs ue un uR uQ) (uk,uy,uC,uG) ((uk+(1:Int),uy,uC,uG)) (by dsimp only [vM];have q:=ub h6;have q2:=hJ5.i0;omega) (hJ5.next (ub h6) h7) (vc:=(zF uk)) (hv:=W61)
    ·refine tz zdp ?_
     refine Q3 Q6l (Qp5 (zc1 gs ue) W87 W87) [4] ?_
     refine tz [73,5,17,16,15,4,3,2,1] ?_
     refine Q0 (decide ((0:Int)≤heldF (zc1 gs ue).nodes)) (fun h7=>?_) (fun h7=>?_)
     ·exact Q2 [] [0,1,2] (zcl sh lk gs ue) W52
     ·exact Q4 (vL sh lk gs) (ue,un,uR,uQ) ((ue+(1:Int),uy,uC,uG)) (by dsimp only [vL];have q:=ub h3;have q2:=hJ2.t0;omega) (hJ2.next (ub h3) h4 (hJ5.done (uc h6)) h7) (vc:=(zF ue)) (hv:=W61)
  ·exact Q2 [] [0,1,2] [(chkU sh lk gs).fst=(0:Int),(chkU sh lk gs).snd.fst=(0:Int),(chkU sh lk gs).snd.snd=(0:Int)] W52
def flwR (n:Nod):List Int:=if n.kind=9 then [] else if n.kind=8 then [n.next,n.els] else [n.next]
def uS (k:Int):Bool:=decide (k=1)||decide (k=2)||decide (k=4)
def uT (k:Int):Bool:=decide (k=2)||decide (k=3)||decide (k=4)||decide (k=5)||decide (k=6)
def uA (k:Int):Bool:=decide (k=1)||decide (k=3)||decide (k=4)||decide (k=7)||decide (k=8)
def uN (k:Int):Bool:=decide (1≤k)&&decide (k≤8)
def numR (n:Int) (u:Bool) (m:Int):Bool:=if u then decide (0≤n)&&decide (n<m) else decide (n=0)
def valR (v:Vl) (u:Bool) (s:Int):Bool:=if u then (if v.slotted then decide (0≤v.slot)&&decide (v.slot<s)&&decide (v.word=0) else decide (v.slot=0)) else decide (v=⟨false,0,0⟩)
def allR (ns:Int) (g:Grf) (n:Nod):Bool:=
 numR n.slot (uS n.kind) g.slots&&numR n.thing (uT n.kind) ns&&valR n.a (uA n.kind) g.slots&&valR n.b (decide (n.kind=1)&&twoB n.op) g.slots&&numR n.next (uN n.kind) g.nodes.length&&numR n.els (decide (n.kind=8)) g.nodes.length
def badR (n:Nod):Bool:=decide (n.kind≤0)||decide (10≤n.kind)||decide (n.origin<0)||decide (4096≤n.origin)
def opR (n:Nod):Bool:=(decide (n.kind=1)&&decide (19≤n.op))||(!decide (n.kind=1)&&!decide (n.op=0))
def nodeR (ns nl:Int) (g:Grf) (n:Nod):Bool:=!badR n&&(!opR n&&allR (if n.kind=5∨n.kind=6 then nl else ns) g n)
section
variable {ns nl:Int} {g:Grf} {n:Nod}
theorem Qn0 (h:(decide (n.kind≤(0:Int))||decide ((10:Int)≤n.kind)||decide (n.origin<(0:Int))||decide ((4096:Int)≤n.origin))=true):nodeR ns nl g n=false:=by
 unfold nodeR badR;rw [h];rfl
theorem Qjq (h:opR n=true):nodeR ns nl g n=false:=by
 unfold nodeR;rw [h];simp
theorem Qjr (h:(decide (n.kind≤(0:Int))||decide ((10:Int)≤n.kind)||decide (n.origin<(0:Int))||decide ((4096:Int)≤n.origin))=false) (h2:(decide (n.kind=5)||decide (n.kind=6))=true) (h3:opR n=false):nodeR ns nl g n=allR nl g n:=by
 unfold nodeR badR;rw [h,h3,if_pos W167];rfl
theorem Qjs (h:(decide (n.kind≤(0:Int))||decide ((10:Int)≤n.kind)||decide (n.origin<(0:Int))||decide ((4096:Int)≤n.origin))=false) (h2:(decide (n.kind=5)||decide (n.kind=6))=false) (h3:opR n=false):nodeR ns nl g n=allR ns g n:=by
 unfold nodeR badR;rw [h,h3,if_neg W167];rfl
end
structure Nm where
 s:ByteArray
 deriving Inhabited,DecidableEq
def Nm.tl (x:Nm):List TC:=[.val (.string x.s)]
def Nm.tc (x:Nm):Nat→TC:=nthT x.tl
abbrev Nm.ownR (l:List Nm):Reg:=ownOf 9 1 Nm.tc l
def namR (w:Bool):List Dcl→List Nm→Option (List Nm)
 | [],A=>some A
 | d::r,A=>if (nameB d.name&&(w||decide (d.word=0))&&!A.contains ⟨d.name⟩)=true then namR w r (A++[⟨d.name⟩]) else none
theorem Q8z {w:Bool} {l:List Dcl} {A:List Nm} {n:Nat} (h:n<l.length):namR w (l.drop n) A =
 if (nameB (l.getD n ua).name&&(w||decide ((l.getD n ua).word=0))&&!A.contains ⟨(l.getD n ua).name⟩)=true then namR w (l.drop (n+1)) (A++[⟨(l.getD n ua).name⟩]) else none:=by
 rw [ki h,jc,jd h];rfl
theorem Qbj {b:Bool} {A:List Nm} {k:Nat} {s:ByteArray} (h:k<A.length):(b&&!(A.take k).contains ⟨s⟩&&!decide ((A.getD k ua).s=s))=(b&&!(A.take (k+1)).contains ⟨s⟩):=by
 rw [List.take_add_one,jd h,jc,jd h]
 simp only [Option.toList,kA,List.contains_append,Bool.not_or]
 have:decide ((A[k]).s=s)=[A[k]].contains ⟨s⟩:=by
  by_cases e:(A[k]).s=s
  ·have:A[k]=⟨s⟩:=by cases hx:A[k];rw [hx] at e;cases e;rfl
   rw [this];simp
  ·have:A[k]≠⟨s⟩:=fun q=>e (by rw [q])
   simp only [decide_eq_false e,List.contains_cons,List.contains_nil,Bool.or_false]
   exact (beq_eq_false_iff_ne.2 (Ne.symm this)).symm
 rw [this,Bool.and_assoc]
section
variable {w:Bool} {l:List Dcl} {A B:List Nm} {n:Nat}
theorem Qh0 (hn:n<l.length) (hc:(nameB (l.getD n ua).name&&(w||decide ((l.getD n ua).word=0))&&!A.contains ⟨(l.getD n ua).name⟩)=false):namR w (l.drop n) A=none:=by
 rw [Q8z hn,if_neg (by rw [hc];decide)]
theorem Qh1 (hn:n<l.length) (hc:(nameB (l.getD n ua).name&&(w||decide ((l.getD n ua).word=0))&&!A.contains ⟨(l.getD n ua).name⟩)=true) :
 namR w (l.drop n) A=namR w (l.drop (n+1)) (A++[⟨(l.getD n ua).name⟩]):=by
 rw [Q8z hn,if_pos hc]
theorem Q49 {b:Bool} {k:Nat} {s:ByteArray} (h:A.length≤k):(b&&!(A.take k).contains ⟨s⟩)=(b&&!A.contains ⟨s⟩):=by rw [j7 h]
end
end Go.Proofs.YtnddggenhefaeaaGreatDoor
end
