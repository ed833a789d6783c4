/-
  GenPlaces: every Lock and Cell of the program answers as the document's (17). Conditions: none beyond the given card's. Text 9 of 9.
-/
import Derived.Test.YtnddggenhefaeaaGreatDoorP3
import Derived.Test.YtnddggenhefaeaaGreatDoorP4
import Derived.Test.YtnddggenhefaeaaGreatDoorP5
import Derived.Test.YtnddggenhefaeaaGreatDoorP8
import Derived.Test.YtnddggenhefaeaaGreatDoorP6
import Derived.Deep.Slices
import Derived.ChangeArms
import Derived.WideShapes
import Derived.ChangeOld
import Derived.Test.YtnddggenhefaeaaGreatDoorRows
import Derived.Test.YtnddggenhefaeaaGreatDoorP7
import Derived.Lib.LaidTab
import Derived.Test.YtnddggenhefaeaaGreatDoorCards
import Derived.Test.YtnddggenhefaeaaGreatDoorTie
import Derived.WalkKit
import Derived.ProofKit
import Derived.OpenShut
import Derived.JoinedCond
import Derived.Carry
import Derived.Deep.DeepHandedRow
set_option linter.unusedSimpArgs false
set_option linter.unusedVariables false
open Go.Value renaming string→jC,nilFunc→ky,slice→je,int→jg,bool→jS
open Go.Proofs.Tryz renaming prog→jb
open Go.IntKind renaming i64→ja,u8→jx
open Int renaming le_refl→jz
open And renaming intro→jl
open Nat renaming lt_or_ge→kL,zero_le→j9,le_refl→jn,lt_of_lt_of_le→jO,le_trans→kr
open List renaming getElem?_eq_getElem→jd,length_append→jt,getElem?_append_left→jp,getElem?_append_right→jA,getElem?_drop→kj,range→jB,getD_eq_getElem?_getD→jc,getElem?_map→jm,getElem?_range→ko,getElem?_eq_none→jY,mem_of_getElem?→jq
open Inhabited renaming default→ua
set_option maxHeartbeats 4000000
set_option maxRecDepth 100000
namespace Go
theorem W1{p:Prop}(h:p:=by first | assumption | exact hnd _ W227 _ | exact hgm _ | exact Nat.le_of_ble_eq_true rfl | exact W227):p:=h
theorem W6{p:Prop}(h:p:=by simp only [Conj,Fits,Q7,Q8,Q9,Qa,News.len,maxLen]<;>(repeat' (first | apply And.intro | intro _))<;>first | (have q:=of_decide_eq_true h2;have z:=hJ1.x0;have y0:=hJ1.len;have y4:=hJ1.cnt;have y1:=Q2h fe g.nodes ud.toNat uf;have y2:=Q5p ps ba sh fe g.nodes ud.toNat uf;have y3:=Q3w ps ba sh fe g.nodes ud.toNat uf;have y5:=hor ud.toNat (by omega);have y6:=congrArg List.length hJ1.star;unfold starA at y6;rw [List.length_map,List.length_range] at y6;exact W226) | (have q4:=of_decide_eq_true h4;have z3:=hJ3.1;have e1:=congrArg List.length hJ3.2.2.1;rw [Q5o] at e1;have e2:=congrArg List.length hJ3.2.2.2.1;have y0:=hJ1.len;(try have w:=hJ1.to (of_decide_eq_false h2) hto z3 q4 hJ3.2.2.1 (by rw [← hJ3.2.2.2.2];exact h5));(try rw [← hJ3.2.2.2.1] at w);exact W226) | grind):p:=h
theorem W11{p:Prop}(h:p:=by first | assumption | exact fun _=>rfl | (have q:=of_decide_eq_true h4;have z:=hJ3.x0;have fq:=Qes (by simpa using h1:fauU sh lk gs fs al bf=0);have ht:ug.toNat<gs.length:=(by omega);first | exact (fq.grf _ ht).len | exact (fq.grf _ ht).hk (fun b=>(hw _ b).1) | exact fun i hi fr=>fq.nd hw ht hi fr | exact fun fr=>fq.gm ht fr | (intro i hi;have o:=fq.org ht hi;omega) | exact fq.fl ht | exact fq.to hw ht) | (have fq:=Qes (by simpa using h1:fauU sh lk gs fs al bf=0);first | (have z:=fq.ns;omega) | (have z:=fq.nl;omega) | (have z:=fq.na;have y:=fq.ng;omega) | exact fq.cells) | omega):p:=h
theorem W42{p:Prop}(h:p:=by simp only [Conj,Fits,Q7,Q8,Q9,Qa,News.len,maxLen]<;>(repeat' apply And.intro)<;>first | exact Qjg | (have q:=of_decide_eq_true h4;have z:=hJ3.x0;have fq:=Qes (by simpa using h1:fauU sh lk gs fs al bf=0);have z1:=fq.na;have z2:=fq.nf;have z3:=fq.ng;have z4:=Q48 sh lk al al.length;have z5:=congrArg List.length hJ3.c;have z6:=congrArg List.length hJ3.s;rw [Qjl] at z5;rw [Qjm] at z6;exact W226) | grind):p:=h
theorem W43{p:Prop}(h:p:=by simp only [Conj,Fits,Q7,Q8,Q9,Qa,News.len,maxLen]<;>(repeat' (first | apply And.intro | intro _))<;>first | (have q:=of_decide_eq_true h4;have z:=hJ3.1;exact W226) | (have e:=Q70 h1;have q2:=Qev (Qew h2 hJ3.2.2 h4);have q3:=Ql5 h5;exact W237) | grind):p:=h
theorem W50{p:Prop}(h:p:=by simp only [Conj];first | (rw [Ql2 h1];exact ⟨rfl,rfl⟩) | (rw [Qet h1 (.inl (by have q:¬ (al.length:Int)=gs.length:=(by simpa using h2);omega))];exact ⟨rfl,rfl⟩) | (rw [Qet h1 (.inr (Qdh (j:=ug.toNat) W230 h5))];exact ⟨rfl,rfl⟩) | (rw [Ql3 h1 (Qew h2 hJ3.2.2 h4) h5];exact ⟨rfl,rfl⟩) | (rw [Ql4 h1 (Qew h2 hJ3.2.2 h4) h5];exact ⟨rfl,rfl⟩)):p:=h
theorem W69{p:Prop}(h:p:=by simp only [Conj];(repeat' apply And.intro)<;>first | trivial | (exact Eq.symm (by assumption)) | exact MpEq.mk' (Nat.le_refl _) (fun _=>rfl) (fun _=>rfl)):p:=h
theorem W70{p:Prop}(h:p:=by simp only [Conj];(repeat' apply And.intro)<;>first | rfl | (intro i hi;obtain rfl:i=0:=Nat.lt_one_iff.1 hi;rfl) | (exact Q0g (0:Int) (fun n=>[.val (.int .i64 n)]) _ _ _ (by kernel_rfl)) | trivial | (exact Q0g _ Nod.tl _ _ _ (by kernel_rfl))):p:=h
theorem W93{p:Prop}(h:p:=by first | assumption | (have e:=Q70 h1;have q2:=Qev (Qew h2 hJ3.2.2 h4);first | omega | exact q2.2) | omega):p:=h
theorem W103{p:Prop}(h:p:=by first | assumption | (have e:=Q70 h1;have q2:=Qev (Qeu h2);first | omega | exact q2.2) | omega):p:=h
theorem W104{p:Prop}(h:p:=by simp only [Conj];first | (rw [Qr4 h1];exact ⟨rfl,rfl⟩) | (rw [Qr5 h1 h2];exact ⟨rfl,rfl⟩) | (rw [Qr6 h1 h2];exact ⟨rfl,rfl⟩)):p:=h
theorem W105{p:Prop}(h:p:=by simp only [Conj,Fits,Q7,Q8,Q9,Qa,News.len,maxLen]<;>(repeat' apply And.intro)<;>first | (have q:=of_decide_eq_true h2;have z0:=hJ1.1;have z:=Qp2 hJ1 hac;have y2:=hac ud.toNat (by omega);exact W226) | grind):p:=h
theorem W106{p:Prop}(h:p:=by simp only [Conj];first | (rw [Ql2 h1];exact ⟨rfl,rfl⟩) | (rw [Qet h1 (Qp0.1 h2)];exact ⟨rfl,rfl⟩) | (rw [Ql3 h1 (Qeu h2) h3];exact ⟨rfl,rfl⟩) | (rw [Ql4 h1 (Qeu h2) h3];exact ⟨rfl,rfl⟩)):p:=h
theorem W107{p:Prop}(h:p:=by simp only [Conj,Fits,Q7,Q8,Q9,Qa,News.len,maxLen]<;>(repeat' (first | apply And.intro | intro _))<;>first | (have e:=Q70 h1;have q2:=Qev (Qeu h2);have q3:=Ql5 h3;exact W237) | grind):p:=h
theorem W111{p:Prop}(h:p:=by simp only [Conj]<;>(repeat' apply And.intro)<;>first | trivial | (intro i hi;obtain rfl:i=0:=Nat.lt_one_iff.1 hi;rfl)):p:=h
theorem W116{p:Prop}(h:p:=by simp only [Conj];first | exact Q80 (by simp at h1;omega) | exact Q5r hJ2.2.2.1 hJ2.2.2.2 h3 | exact Q81 (by show ¬ (a.getD ue.toNat 0=b.getD ue.toNat 0);simpa only [Bool.not_eq_true',decide_eq_false_iff_not] using h4)):p:=h
theorem W131{p:Prop}(h:p:=by first | exact Qr0 h1 | exact Qr1 h1 h2 | exact Qr2 h1 h2 hJ3 h4 (by have q6:=h6;rw [hY5.1] at q6;exact q6) | exact Qr3 h1 h2 hJ3 h4):p:=h
theorem W137{p:Prop}(h:p:=by have q:=of_decide_eq_true h4;have z:=hJ3.1;have e5:=hJ3.2.2.2.2;have e4:=hJ3.2.2.2.1;(try dsimp only at e4 e5);subst e4 e5;first | exact ⟨by omega,by omega,Qqy z hJ3.2.2.1 h5,rfl,rfl⟩ | exact ⟨by omega,by omega,Qqz z q hJ3.2.2.1 h5,rfl,rfl⟩):p:=h
theorem W142{p:Prop}(h:p:=by simp only [Conj,Fits,Q7,Q8,Q9,Qa,News.len,maxLen]<;>(repeat' apply And.intro)<;>(have e:=Q70 h1;(try have q:=h2);(try simp only [Bool.or_eq_false_iff,decide_eq_false_iff_not] at q);exact W226)):p:=h
theorem W155{p:Prop}(h:p:=by first | exact ⟨Qow hJ1 (of_decide_eq_true h2) h3,fun h=>absurd h (by simp)⟩ | (have e:=hJ3.2.2.2.1;subst e;exact hJ1.done (of_decide_eq_false h2) hJ3.1 hJ3.2.1 (of_decide_eq_false h4) hJ3.2.2.1)):p:=h
theorem W157{p:Prop}(h:p:=by first | (rw [Qgv hJ1.2.2 (of_decide_eq_false h2)];rfl) | (rw [Qdh (al:=al) (j:=ud.toNat) W228 h3];exact decide_eq_true hJ1.1)):p:=h
theorem W189{p:Prop}(h:p:=by simp only [Conj];(repeat' apply And.intro)<;>exact MpEq.mk' (Nat.le_refl _) (fun _=>rfl) (fun _=>rfl)):p:=h
theorem W213{p:Prop}(h:p:=by dsimp only [vI];exact W230):p:=h
theorem W222{p:Prop}(h:p:=by simp [hp]):p:=h
theorem W227{p:Prop}(h:p:=by have q:=of_decide_eq_true h2;have z:=hJ1.x0;have y0:=hJ1.len;have y4:=hJ1.cnt;have y1:=Q2h fe g.nodes ud.toNat uf;have y2:=Q5p ps ba sh fe g.nodes ud.toNat uf;have y3:=Q3w ps ba sh fe g.nodes ud.toNat uf;have y5:=hor ud.toNat (by omega);have y6:=congrArg List.length hJ1.star;unfold starA at y6;rw [List.length_map,List.length_range] at y6;omega):p:=h
theorem W237{p:Prop}(h:p:=by have c1:=q2.2 t.toNat (by omega);have c2:=Q48 sh lk al al.length;have c3:=Qp1 (sh:=sh) (lk:=lk) (i:=t.toNat) (by omega) q2.2;exact W226):p:=h
end Go
noncomputable section
namespace Go.Proofs.YtnddggenhefaeaaGreatDoor
open Go Go.Tx
abbrev zp (y0:Int) (y1:Grf) (y2:Bool):List En:=[se 4 (C.i .i64 y0),se 5 (C.p 10 0),se 16 (C.i .i64 y0),se 15 (C.i .i64 (↑y1.nodes.length:Int)),se 14 (C.h 1),se 3 (C.h 7),se 2 (C.b y2),zb9]
abbrev zu (y0:Grf) (y1 y2 y3 y4:Int):Reg:=Reg.box 90 [C.v (jC y0.name),C.i .i64 y0.locals,C.i .i64 y0.slots,C.h 1,C.h 2,C.i .i64 y1,C.h 3,C.i .i64 y2,C.i .i64 y3,C.h 8,C.h 5,C.h 12,C.i .i64 ((y0.nodes.getD y4.toNat ua).origin+(1:Int))]
abbrev zB (y0:Nat) (y1:Int → Option Int):Reg:=Reg.mp (MT.mk jb 88 3 3 [CK.i ja] false [CK.i ja] false) y0 (fun (a:Int)=>(y1 a).isSome) (fun (a:Int)=>(y1 a).getD (0:Int)) none
def C39 (g:Grf) (ps:List Plc) (ba sh ac:Int) (fe:List Int) (ud:Int) (ui:Bool) (uf:List Ins) (uj:List Int) (ul:Nat) (uh:Int→Option Int):St:=St.mk 129 (zp ud g ui) [zu g ac sh ba ud,rowOf 13 (·.tc) g.nodes,rowOf 2 (·.tc) ps,IntRow fe,Reg.dead,zB ul uh,Reg.dead,za,Ins.ownR (fenC fe g.nodes ud.toNat uf),Reg.dead,zd g ud,Reg.dead,IntOwn (uj++[(uf.length:Int)])] []
abbrev zaG (y0:Nat) (y1:Int → Option Int) (y2:Grf) (y3:Int) (y4:List Int) (y5:List Ins):Reg:=Reg.mp (MT.mk jb 88 3 3 [CK.i ja] false [CK.i ja] false) (y0+4) (fun (a:Int)=>(innS y1 (y2.nodes.getD y3.toNat ua) ((fenC y4 y2.nodes y3.toNat y5).length:Int) a).isSome) (fun (a:Int)=>(innS y1 (y2.nodes.getD y3.toNat ua) ((fenC y4 y2.nodes y3.toNat y5).length:Int) a).getD (0:Int)) none
def C39c (g:Grf) (ps:List Plc) (ba sh ac:Int) (fe:List Int) (ud:Int) (ui:Bool) (uf:List Ins) (uj:List Int) (ul:Nat) (uh:Int→Option Int):St:=St.mk 129 (zp ud g ui) [zu g ac sh ba ud,rowOf 13 (·.tc) g.nodes,rowOf 2 (·.tc) ps,IntRow fe,Reg.dead,zaG ul uh g ud fe uf,Reg.dead,za,Ins.ownR (stepC ps ba sh fe g.nodes ud.toNat uf),Reg.dead,zd g ud,Reg.dead,IntOwn (uj++[(uf.length:Int)])] []
def C39b (g:Grf) (ps:List Plc) (ba sh ac:Int) (fe:List Int) (ud:Int) (ui:Bool) (uf:List Ins) (uj:List Int) (ul:Nat) (uh:Int→Option Int):St:=St.mk 129 (zp ud g ui) [zu g ac sh ba ud,rowOf 13 (·.tc) g.nodes,rowOf 2 (·.tc) ps,IntRow fe,Reg.dead,zaG ul uh g ud fe uf,Reg.dead,za,Ins.ownR (nodC ps ba sh fe g.nodes ud.toNat uf),Reg.dead,zd g ud,Reg.dead,IntOwn (uj++[(uf.length:Int)])] []
def wq (g:Grf) (ps:List Plc) (ba:Int) (sh:Int) (ac:Int) (fe:List Int) (F0:Int→Option Int):Lp (Int×Bool×List Ins×List Int×Int×Nat×(Int→Option (Int))):=⟨fun x=>{ N:=129,fr:=[se 16 (C.i .i64 x.1),se 15 (C.i .i64 (↑g.nodes.length:Int)),se 14 (C.h 1),se 3 (C.h 7),se 2 (C.b x.2.1),zb9],rg:=[Reg.box 90 [C.v (jC g.name),C.i .i64 g.locals,C.i .i64 g.slots,C.h 1,C.h 2,C.i .i64 ac,C.h 3,C.i .i64 sh,C.i .i64 ba,C.h 8,C.h 5,C.h 9,C.i .i64 x.2.2.2.2.1],rowOf 13 (·.tc) g.nodes,rowOf 2 (·.tc) ps,IntRow fe,Reg.dead,Reg.mp (MT.mk jb 88 3 3 [CK.i ja] false [CK.i ja] false) (x.2.2.2.2.2.1) (fun a=>(x.2.2.2.2.2.2 a).isSome) (fun a=>(x.2.2.2.2.2.2 a).getD ((0:Int))) none,Reg.dead,za]++[Ins.ownR x.2.2.1]++[IntOwn x.2.2.2.1],wr:=[] },fun x=>AlJ ps ba sh fe g.nodes x.1 x.2.2.1 x.2.2.2.1 x.2.2.2.2.2.1 x.2.2.2.2.2.2,fun x=>((g.nodes.length:Int)-x.1).toNat⟩
def vI (g:Grf) (ps:List Plc) (ba:Int) (sh:Int) (ac:Int) (fe:List Int) (ui:Bool) (uf:List Ins) (uj:List Int) (uw:Int) (ul:Nat) (uh:Int→Option Int):Lp (Int×List Ins×List Int×Int×Nat×(Int→Option (Int))):=⟨fun x=>{ N:=129,fr:=[se 85 (C.i .i64 x.1),se 84 (C.i .i64 (↑uf.length:Int)),se 2 (C.b ui),zb9],rg:=[Reg.box 90 [C.v (jC g.name),C.i .i64 g.locals,C.i .i64 g.slots,C.h 1,C.h 2,C.i .i64 ac,C.h 3,C.i .i64 sh,C.i .i64 ba,C.h 10,C.h 5,C.h 11,C.i .i64 x.2.2.2.1],rowOf 13 (·.tc) g.nodes,rowOf 2 (·.tc) ps,IntRow fe,Reg.dead,Reg.mp (MT.mk jb 88 3 3 [CK.i ja] false [CK.i ja] false) (x.2.2.2.2.1) (fun a=>(x.2.2.2.2.2 a).isSome) (fun a=>(x.2.2.2.2.2 a).getD ((0:Int))) none,Reg.dead,za,Reg.dead,Reg.dead]++[Ins.ownR x.2.1]++[IntOwn x.2.2.1],wr:=[] },fun x=>0≤x.1∧x.1≤(uf.length:Int)∧x.2.1=fixN uj uh uf x.1.toNat∧x.2.2.1=uj∧x.2.2.2.2.2=uh,fun x=>((uf.length:Int)-x.1).toNat⟩
abbrev zf:Reg:=Reg.mpv (MT.mk jb 123 97 104 [CK.i jx] false [] false) ky 9 (List.map (fun x=>(x.fst,C.ren (at' [0,1,2,3,4,5,6,7,8,9,10,11,12]) x.snd)) [((9:Int),C.fn 108 true [0]),((8:Int),C.fn 107 true [0]),((7:Int),C.fn 106 true [0]),((6:Int),C.fn 105 true [0]),((5:Int),C.fn 104 true [0]),((4:Int),C.fn 103 true [0]),((3:Int),C.fn 102 true [0]),((2:Int),C.fn 101 true [0]),((1:Int),C.fn 100 true [0])])
abbrev zg:Reg:=Reg.mpv (MT.mk jb 123 97 104 [CK.i jx] false [] false) ky 9 (List.map (fun x=>(x.fst,C.ren (at' [0,1,2,3,4,5,6,7,13,9,10,11,12]) x.snd)) [((9:Int),C.fn 108 true [0]),((8:Int),C.fn 107 true [0]),((7:Int),C.fn 106 true [0]),((6:Int),C.fn 105 true [0]),((5:Int),C.fn 104 true [0]),((4:Int),C.fn 103 true [0]),((3:Int),C.fn 102 true [0]),((2:Int),C.fn 101 true [0]),((1:Int),C.fn 100 true [0])])
abbrev zaa (y0:Nat) (y1:Int → Option Int):List Prop:=[MpEq (MT.mk jb 88 3 3 [CK.i ja] false [CK.i ja] false) y0 (fun (a:Int)=>(y1 a).isSome) (fun (a:Int)=>(y1 a).getD (0:Int)) none (MT.mk jb 88 3 3 [CK.i ja] false [CK.i ja] false) y0 (fun (a:Int)=>(y1 a).isSome) (fun (a:Int)=>(y1 a).getD (0:Int)) none,Reg.mpv (MT.mk jb 123 97 104 [CK.i jx] false [] false) ky 9 (List.map (fun x=>(x.fst,C.ren (at' [0,1,2,3,4,5,6,7,8,9,10]) x.snd)) [((9:Int),C.fn 108 true [0]),((8:Int),C.fn 107 true [0]),((7:Int),C.fn 106 true [0]),((6:Int),C.fn 105 true [0]),((5:Int),C.fn 104 true [0]),((4:Int),C.fn 103 true [0]),((3:Int),C.fn 102 true [0]),((2:Int),C.fn 101 true [0]),((1:Int),C.fn 100 true [0])])=za]
abbrev zaj:Reg:=Reg.mpv (MT.mk jb 123 97 104 [CK.i jx] false [] false) ky 9 (List.map (fun x=>(x.fst,C.ren (at' [0,1,2,3,4,5,6,7,14,9,10,11,12]) x.snd)) [((9:Int),C.fn 108 true [0]),((8:Int),C.fn 107 true [0]),((7:Int),C.fn 106 true [0]),((6:Int),C.fn 105 true [0]),((5:Int),C.fn 104 true [0]),((4:Int),C.fn 103 true [0]),((3:Int),C.fn 102 true [0]),((2:Int),C.fn 101 true [0]),((1:Int),C.fn 100 true [0])])
abbrev zal:Reg:=Reg.mpv (MT.mk jb 123 97 104 [CK.i jx] false [] false) ky 9 (List.map (fun x=>(x.fst,C.ren (at' [0,1,2,3,4,5,6,7,8,9,10,11]) x.snd)) [((9:Int),C.fn 108 true [0]),((8:Int),C.fn 107 true [0]),((7:Int),C.fn 106 true [0]),((6:Int),C.fn 105 true [0]),((5:Int),C.fn 104 true [0]),((4:Int),C.fn 103 true [0]),((3:Int),C.fn 102 true [0]),((2:Int),C.fn 101 true [0]),((1:Int),C.fn 100 true [0])])
abbrev zaW (y0:List Int) (y1:List Ins):Reg:=IntOwn (y0++[(↑y1.length:Int)])
abbrev zbb (y0:Grf) (y1 y2 y3 y4:Int):Reg:=Reg.box 90 [C.v (jC y0.name),C.i .i64 y0.locals,C.i .i64 y0.slots,C.h 1,C.h 2,C.i .i64 y1,C.h 3,C.i .i64 y2,C.i .i64 y3,C.h 8,C.h 5,C.h 9,C.i .i64 ((y0.nodes.getD y4.toNat ua).origin+(1:Int))]
abbrev zb0 (y0:Grf) (y1 y2 y3 y4:Int):Reg:=Reg.box 90 [C.v (jC y0.name),C.i .i64 y0.locals,C.i .i64 y0.slots,C.h 1,C.h 2,C.i .i64 y1,C.h 3,C.i .i64 y2,C.i .i64 y3,C.h 8,C.h 5,C.h 9,C.i .i64 y4]
theorem Qrj (g:Grf) (ps:List Plc) (ba sh ac:Int) (fe:List Int) (F0:Int→Option Int) (hF0:∀ a,F0 a=none) (hN:1≤g.nodes.length∧g.nodes.length≤4096) (hk:zW g) (hnd:∀ i:Nat,i<g.nodes.length→∀ fr:Int,NdQ (Gm.mk ps ba sh fr) (g.nodes.getD i ua)) (hgm:∀ fr:Int,GmQ (Gm.mk ps ba sh fr)) (hor:∀ i:Nat,i<g.nodes.length→0≤(g.nodes.getD i ua).origin∧(g.nodes.getD i ua).origin≤4096) (hfl:fe.length≤8388608) (hto:ToA ps ba sh fe g.nodes):Ctr jb 39 [Reg.box 90 [C.v (jC g.name),C.i .i64 g.locals,C.i .i64 g.slots,C.h 1,C.h 2,C.i .i64 ac,C.h 3,C.i .i64 sh,C.i .i64 ba,C.v (je none 0 0),C.h 5,C.v (je none 0 0),C.i .i64 0],zao g,Plc.rowR ps,IntRow fe,.dead,Reg.mp MTi 0 (fun a=>(F0 a).isSome) (fun a=>(F0 a).getD (0:Int)) none,.dead] [.c (.p 0 0)]
 (DetE (fun y:Bool×List Ins×List Int×Nat×(Int→Option Int)×Int=>y.1=okA ps ba sh fe g.nodes∧(y.1=true→y.2.1=finA ps ba sh fe g.nodes∧y.2.2.1=starA ps ba sh fe g.nodes g.nodes.length)) (fun y=>.c (.b y.1)) (fun y=>[Reg.box 90 [C.v (jC g.name),C.i .i64 g.locals,C.i .i64 g.slots,C.h 1,C.h 2,C.i .i64 ac,C.h 3,C.i .i64 sh,C.i .i64 ba,C.h 7,C.h 5,C.h 8,C.i .i64 y.2.2.2.2.2],.dead,.dead,.dead,.dead,Reg.mp MTi y.2.2.2.1 (fun a=>(y.2.2.2.2.1 a).isSome) (fun a=>(y.2.2.2.2.1 a).getD (0:Int)) none,.dead,Ins.ownR y.2.1,IntOwn y.2.2.1])):=by
 refine Ctr.intro [] Tryz.func39 K K ?_
 refine Q3 Q2v (Qho g ba sh 0 ac) [0,1,2,3,1000004,5,1000006] ?_
 refine tz [9,2,0] ?_
 refine Q6 (wq g ps ba sh ac fe F0) (((0:Int),false,[],[],(0:Int),0,F0)) (AlJ.start hF0) ?_ [0,1,2,3,4,5,6,7,1000008,1000009] [13,14,15,16] [MpEq (MT.mk jb 88 3 3 [CK.i ja] false [CK.i ja] false) 0 (fun (a:Int)=>(F0 a).isSome) (fun (a:Int)=>(F0 a).getD (0:Int)) none (MT.mk jb 88 3 3 [CK.i ja] false [CK.i ja] false) 0 (fun (a:Int)=>(F0 a).isSome) (fun (a:Int)=>(F0 a).getD (0:Int)) none,Reg.mpv (MT.mk jb 123 97 104 [CK.i jx] false [] false) ky 9 (List.map (fun x=>(x.fst,C.ren (at' [0,1,2,3,4,5,6,7,1000008,1000009]) x.snd)) [((9:Int),C.fn 108 true [0]),((8:Int),C.fn 107 true [0]),((7:Int),C.fn 106 true [0]),((6:Int),C.fn 105 true [0]),((5:Int),C.fn 104 true [0]),((4:Int),C.fn 103 true [0]),((3:Int),C.fn 102 true [0]),((2:Int),C.fn 101 true [0]),((1:Int),C.fn 100 true [0])])=za,(0:Nat)=0,(0:Nat)=0] W0
 rintro ⟨ud,ui,uf,uj,uw,ul,uh⟩ hJ1
 dsimp only [wq] at hJ1
 refine tz [16,15,14,3,2,0] ?_
 refine Q0 (decide (ud<(↑g.nodes.length:Int))) (fun h2=>?_) (fun h2=>?_)
 ·refine RunF.cut (fun _:Unit=>St.mk 129 (zp ud g ui) [zb0 g ac sh ba uw,rowOf 13 (·.tc) g.nodes,rowOf 2 (·.tc) ps,IntRow fe,Reg.dead,zB ul uh,Reg.dead,za,ownOf 48 9 (·.tc) uf,IntOwn uj,zd g ud] []) (fun _=>True) ?_ ?_
  ·exact tTo (fun x=>St.mk 129 (zp ud g ui) [zb0 g ac sh ba uw,rowOf 13 (·.tc) g.nodes,rowOf 2 (·.tc) ps,IntRow fe,Reg.dead,zB ul uh,Reg.dead,za,ownOf 48 9 (·.tc) uf,IntOwn uj,zd g ud] []) (fun x=>True) () trivial [] [13,14] (zaa ul uh) W0 (vc:=(zat ud g)) (hv:=W6)
  ·rintro ⟨⟩ _
   refine RunF.cut (fun _:Unit=>St.mk 129 (zp ud g ui) [zbb g ac sh ba ud,rowOf 13 (·.tc) g.nodes,rowOf 2 (·.tc) ps,IntRow fe,Reg.dead,zB ul uh,Reg.dead,za,ownOf 48 9 (·.tc) uf,IntOwn uj,zd g ud] []) (fun _=>True) ?_ ?_
   ·exact tTo (fun x=>St.mk 129 (zp ud g ui) [zbb g ac sh ba ud,rowOf 13 (·.tc) g.nodes,rowOf 2 (·.tc) ps,IntRow fe,Reg.dead,zB ul uh,Reg.dead,za,ownOf 48 9 (·.tc) uf,IntOwn uj,zd g ud] []) (fun x=>True) () trivial [] [13,14] (zaa ul uh) W0 (vc:=[Fits ja ((g.nodes.getD ud.toNat ua).origin+(1:Int))]) (hv:=W6)
   ·rintro ⟨⟩ _
    refine RunF.cutm 3 (fun _:Unit=>C39 g ps ba sh ac fe ud ui uf uj ul uh) (fun _=>True) ?_ ?_
    ·refine tz [4,5,16,15,14,3,2,0] ?_
     refine Q3 Q1d (Qf5 fe ud W1) [3] ?_ (vc:=(zbI uj)) (hv:=W6)
     refine tz [46,4,5,16,15,14,3,2,0] ?_
     refine Q0 (hasF fe ud) (fun h3=>?_) (fun h3=>?_)
     ·refine tz [4,5,16,15,14,3,2,0] ?_
      refine Q3 Qd (Qhn g ps ba sh ((g.nodes.getD ud.toNat ua).origin+(1:Int)) ac [Ins.mk (6:Int) (0:Int) (0:Int) (0:Int) (0:Int) (0:Int) (0:Int) (0:Int) (0:Int)] uf W1 W1) [0,1,2,3,8,5,12,13] ?_ [11,12,13,14,15,16,17,18,19,20,21] [[Ins.mk (6:Int) (0:Int) (0:Int) (0:Int) (0:Int) (0:Int) (0:Int) (0:Int) (0:Int)].length=1,∀ (i:Nat),i < [Ins.mk (6:Int) (0:Int) (0:Int) (0:Int) (0:Int) (0:Int) (0:Int) (0:Int) (0:Int)].length→i≠0→([Ins.mk (6:Int) (0:Int) (0:Int) (0:Int) (0:Int) (0:Int) (0:Int) (0:Int) (0:Int)].getD i ua).tc=fun x=>TC.any,(Ins.mk (6:Int) (0:Int) (0:Int) (0:Int) (0:Int) (0:Int) (0:Int) (0:Int) (0:Int)).tc 0=TC.val (jg jx (6:Int)),(Ins.mk (6:Int) (0:Int) (0:Int) (0:Int) (0:Int) (0:Int) (0:Int) (0:Int) (0:Int)).tc 1=TC.val (jg jx (0:Int)),(Ins.mk (6:Int) (0:Int) (0:Int) (0:Int) (0:Int) (0:Int) (0:Int) (0:Int) (0:Int)).tc 2=TC.val (jg ja (0:Int)),(Ins.mk (6:Int) (0:Int) (0:Int) (0:Int) (0:Int) (0:Int) (0:Int) (0:Int) (0:Int)).tc 3=TC.val (jg ja (0:Int)),(Ins.mk (6:Int) (0:Int) (0:Int) (0:Int) (0:Int) (0:Int) (0:Int) (0:Int) (0:Int)).tc 4=TC.val (jg ja (0:Int)),(Ins.mk (6:Int) (0:Int) (0:Int) (0:Int) (0:Int) (0:Int) (0:Int) (0:Int) (0:Int)).tc 5=TC.val (jg ja (0:Int)),(Ins.mk (6:Int) (0:Int) (0:Int) (0:Int) (0:Int) (0:Int) (0:Int) (0:Int) (0:Int)).tc 6=TC.val (jg ja (0:Int)),(Ins.mk (6:Int) (0:Int) (0:Int) (0:Int) (0:Int) (0:Int) (0:Int) (0:Int) (0:Int)).tc 7=TC.val (jg ja (0:Int)),(Ins.mk (6:Int) (0:Int) (0:Int) (0:Int) (0:Int) (0:Int) (0:Int) (0:Int) (0:Int)).tc 8=TC.val (jg ja (0:Int))] W0
      exact tTo (fun xUnit=>C39 g ps ba sh ac fe ud ui uf uj ul uh) (fun xUnit=>True) () trivial [0,1,2,3,4,5,6,7,14,9,10,11,12] [13,14,15,16,30,31,32] [MpEq (MT.mk jb 88 3 3 [CK.i ja] false [CK.i ja] false) ul (fun (a:Int)=>(uh a).isSome) (fun (a:Int)=>(uh a).getD (0:Int)) none (MT.mk jb 88 3 3 [CK.i ja] false [CK.i ja] false) ul (fun (a:Int)=>(uh a).isSome) (fun (a:Int)=>(uh a).getD (0:Int)) none,zaj=za,(fenC fe g.nodes ud.toNat uf).length=(uf++putL ((g.nodes.getD ud.toNat ua).origin+(1:Int)) [Ins.mk (6:Int) (0:Int) (0:Int) (0:Int) (0:Int) (0:Int) (0:Int) (0:Int) (0:Int)]).length,∀ (i:Nat),i<(fenC fe g.nodes ud.toNat uf).length→((fenC fe g.nodes ud.toNat uf).getD i ua).tc=((uf++putL ((g.nodes.getD ud.toNat ua).origin+(1:Int)) [Ins.mk (6:Int) (0:Int) (0:Int) (0:Int) (0:Int) (0:Int) (0:Int) (0:Int) (0:Int)]).getD i ua).tc,(uj++[(↑uf.length:Int)]).length=uj.length+1,∀ (i:Nat),i<(uj++[(↑uf.length:Int)]).length→i≠uj.length→i64T ((uj++[(↑uf.length:Int)]).getD i 0)=i64T (uj.getD i 0),i64T ((uj++[(↑uf.length:Int)]).getD uj.length 0) 0=TC.val (jg ja (↑uf.length:Int))] W0
     ·exact tTo (fun xUnit=>C39 g ps ba sh ac fe ud ui uf uj ul uh) (fun xUnit=>True) () trivial [] [13,14,15,16,30,31,32] [MpEq (MT.mk jb 88 3 3 [CK.i ja] false [CK.i ja] false) ul (fun (a:Int)=>(uh a).isSome) (fun (a:Int)=>(uh a).getD (0:Int)) none (MT.mk jb 88 3 3 [CK.i ja] false [CK.i ja] false) ul (fun (a:Int)=>(uh a).isSome) (fun (a:Int)=>(uh a).getD (0:Int)) none,zf=za,(fenC fe g.nodes ud.toNat uf).length=uf.length,∀ (i:Nat),i<(fenC fe g.nodes ud.toNat uf).length→((fenC fe g.nodes ud.toNat uf).getD i ua).tc=(uf.getD i ua).tc,(uj++[(↑uf.length:Int)]).length=uj.length+1,∀ (i:Nat),i<(uj++[(↑uf.length:Int)]).length→i≠uj.length→i64T ((uj++[(↑uf.length:Int)]).getD i 0)=i64T (uj.getD i 0),i64T ((uj++[(↑uf.length:Int)]).getD uj.length 0) 0=TC.val (jg ja (↑uf.length:Int))] W0
    ·rintro ⟨⟩ hCC39
     refine RunF.cutm 1 (fun _:Unit=>C39b g ps ba sh ac fe ud ui uf uj ul uh) (fun _=>True) ?_ ?_
     ·rcases (show (g.nodes.getD ud.toNat ua).kind=(1:Int)∨(g.nodes.getD ud.toNat ua).kind=(2:Int)∨(g.nodes.getD ud.toNat ua).kind=(3:Int)∨(g.nodes.getD ud.toNat ua).kind=(4:Int)∨(g.nodes.getD ud.toNat ua).kind=(5:Int)∨(g.nodes.getD ud.toNat ua).kind=(6:Int)∨(g.nodes.getD ud.toNat ua).kind=(7:Int)∨(g.nodes.getD ud.toNat ua).kind=(8:Int)∨(g.nodes.getD ud.toNat ua).kind=(9:Int) from (by have z:=hk ud.toNat W227;omega)) with hs3 | hs3 | hs3 | hs3 | hs3 | hs3 | hs3 | hs3 | hs3
      ·refine tWk (St.mk 129 (zp ud g ui) [zu g ac sh ba ud,rowOf 13 (·.tc) g.nodes,rowOf 2 (·.tc) ps,IntRow fe,Reg.dead,zB ul uh,Reg.dead,za,ownOf 48 9 (·.tc) (fenC fe g.nodes ud.toNat uf),Reg.dead,Reg.box 101 [C.i .u8 1,C.i .u8 (g.nodes.getD ud.toNat ua).op,C.i .i64 (g.nodes.getD ud.toNat ua).slot,C.i .i64 (g.nodes.getD ud.toNat ua).thing,C.b (g.nodes.getD ud.toNat ua).a.slotted,C.i .i64 (g.nodes.getD ud.toNat ua).a.slot,C.i .i64 (g.nodes.getD ud.toNat ua).a.word,C.b (g.nodes.getD ud.toNat ua).b.slotted,C.i .i64 (g.nodes.getD ud.toNat ua).b.slot,C.i .i64 (g.nodes.getD ud.toNat ua).b.word,C.i .i64 (g.nodes.getD ud.toNat ua).next,C.i .i64 (g.nodes.getD ud.toNat ua).els,C.i .i64 (g.nodes.getD ud.toNat ua).origin],Reg.dead,zaW uj uf] []) ?_ [] [13,14,17] [MpEq (MT.mk jb 88 3 3 [CK.i ja] false [CK.i ja] false) ul (fun (a:Int)=>(uh a).isSome) (fun (a:Int)=>(uh a).getD (0:Int)) none (MT.mk jb 88 3 3 [CK.i ja] false [CK.i ja] false) ul (fun (a:Int)=>(uh a).isSome) (fun (a:Int)=>(uh a).getD (0:Int)) none,zf=za,(1:Int)=(g.nodes.getD ud.toNat ua).kind] W69
       refine tz [4,5,16,15,14,3,2,0] ?_
       refine Q3 Q5b (Qno g ps ba sh ((g.nodes.getD ud.toNat ua).origin+(1:Int)) ac (g.nodes.getD ud.toNat ua) W1 W1 (fenC fe g.nodes ud.toNat uf) W1 W1) [0,1,2,3,8,5,12] ?_ [11] [(g.nodes.getD ud.toNat ua).kind=(1:Int)] W0 (vc:=[Fits jx (1:Int),(MT.mk jb 123 97 104 [CK.i jx] false [] false).P=jb]) (hv:=W6)
       exact tTo (fun xUnit=>C39b g ps ba sh ac fe ud ui uf uj ul uh) (fun xUnit=>True) () trivial [0,1,2,3,4,5,6,7,13,9,10,11,12] [13,14,15,16,17] [MpEq (MT.mk jb 88 3 3 [CK.i ja] false [CK.i ja] false) (ul+4) (fun (a:Int)=>(innS uh (g.nodes.getD ud.toNat ua) (↑(fenC fe g.nodes ud.toNat uf).length:Int) a).isSome) (fun (a:Int)=>(innS uh (g.nodes.getD ud.toNat ua) (↑(fenC fe g.nodes ud.toNat uf).length:Int) a).getD (0:Int)) none (MT.mk jb 88 3 3 [CK.i ja] false [CK.i ja] false) ul (fun (a:Int)=>(uh a).isSome) (fun (a:Int)=>(uh a).getD (0:Int)) none,zg=za,(nodC ps ba sh fe g.nodes ud.toNat uf).length=(fenC fe g.nodes ud.toNat uf++gSetN (Gm.mk ps ba sh ((g.nodes.getD ud.toNat ua).origin+(1:Int))) (g.nodes.getD ud.toNat ua)).length,∀ (i:Nat),i<(nodC ps ba sh fe g.nodes ud.toNat uf).length→((nodC ps ba sh fe g.nodes ud.toNat uf).getD i ua).tc=((fenC fe g.nodes ud.toNat uf++gSetN (Gm.mk ps ba sh ((g.nodes.getD ud.toNat ua).origin+(1:Int))) (g.nodes.getD ud.toNat ua)).getD i ua).tc,(g.nodes.getD ud.toNat ua).kind=(1:Int)] W0
      ·refine tWk (St.mk 129 (zp ud g ui) [zu g ac sh ba ud,rowOf 13 (·.tc) g.nodes,rowOf 2 (·.tc) ps,IntRow fe,Reg.dead,zB ul uh,Reg.dead,za,ownOf 48 9 (·.tc) (fenC fe g.nodes ud.toNat uf),Reg.dead,Reg.box 101 [C.i .u8 2,C.i .u8 (g.nodes.getD ud.toNat ua).op,C.i .i64 (g.nodes.getD ud.toNat ua).slot,C.i .i64 (g.nodes.getD ud.toNat ua).thing,C.b (g.nodes.getD ud.toNat ua).a.slotted,C.i .i64 (g.nodes.getD ud.toNat ua).a.slot,C.i .i64 (g.nodes.getD ud.toNat ua).a.word,C.b (g.nodes.getD ud.toNat ua).b.slotted,C.i .i64 (g.nodes.getD ud.toNat ua).b.slot,C.i .i64 (g.nodes.getD ud.toNat ua).b.word,C.i .i64 (g.nodes.getD ud.toNat ua).next,C.i .i64 (g.nodes.getD ud.toNat ua).els,C.i .i64 (g.nodes.getD ud.toNat ua).origin],Reg.dead,zaW uj uf] []) ?_ [] [13,14,17] [MpEq (MT.mk jb 88 3 3 [CK.i ja] false [CK.i ja] false) ul (fun (a:Int)=>(uh a).isSome) (fun (a:Int)=>(uh a).getD (0:Int)) none (MT.mk jb 88 3 3 [CK.i ja] false [CK.i ja] false) ul (fun (a:Int)=>(uh a).isSome) (fun (a:Int)=>(uh a).getD (0:Int)) none,zf=za,(2:Int)=(g.nodes.getD ud.toNat ua).kind] W69
       refine tz [4,5,16,15,14,3,2,0] ?_
       refine Q3 Q4m (Qkg g ps ba sh ((g.nodes.getD ud.toNat ua).origin+(1:Int)) ac (g.nodes.getD ud.toNat ua) W1 W1 (fenC fe g.nodes ud.toNat uf) W1 W1) [0,1,2,3,8,5,12] ?_ [11] [(g.nodes.getD ud.toNat ua).kind=(2:Int)] W0 (vc:=[Fits jx (2:Int),(MT.mk jb 123 97 104 [CK.i jx] false [] false).P=jb]) (hv:=W6)
       exact tTo (fun xUnit=>C39b g ps ba sh ac fe ud ui uf uj ul uh) (fun xUnit=>True) () trivial [0,1,2,3,4,5,6,7,13,9,10,11,12] [13,14,15,16,17] [MpEq (MT.mk jb 88 3 3 [CK.i ja] false [CK.i ja] false) (ul+4) (fun (a:Int)=>(innS uh (g.nodes.getD ud.toNat ua) (↑(fenC fe g.nodes ud.toNat uf).length:Int) a).isSome) (fun (a:Int)=>(innS uh (g.nodes.getD ud.toNat ua) (↑(fenC fe g.nodes ud.toNat uf).length:Int) a).getD (0:Int)) none (MT.mk jb 88 3 3 [CK.i ja] false [CK.i ja] false) ul (fun (a:Int)=>(uh a).isSome) (fun (a:Int)=>(uh a).getD (0:Int)) none,zg=za,(nodC ps ba sh fe g.nodes ud.toNat uf).length=(fenC fe g.nodes ud.toNat uf++(putL ((g.nodes.getD ud.toNat ua).origin+(1:Int)) [Ins.mk (3:Int) (0:Int) (gGoal (Gm.mk ps ba sh ((g.nodes.getD ud.toNat ua).origin+(1:Int))) (g.nodes.getD ud.toNat ua).slot) (0:Int) (0:Int) (g.nodes.getD ud.toNat ua).thing (0:Int) (0:Int) (0:Int)]++gKeep (Gm.mk ps ba sh ((g.nodes.getD ud.toNat ua).origin+(1:Int))) (g.nodes.getD ud.toNat ua).slot)).length,∀ (i:Nat),i<(nodC ps ba sh fe g.nodes ud.toNat uf).length→((nodC ps ba sh fe g.nodes ud.toNat uf).getD i ua).tc=((fenC fe g.nodes ud.toNat uf++(putL ((g.nodes.getD ud.toNat ua).origin+(1:Int)) [Ins.mk (3:Int) (0:Int) (gGoal (Gm.mk ps ba sh ((g.nodes.getD ud.toNat ua).origin+(1:Int))) (g.nodes.getD ud.toNat ua).slot) (0:Int) (0:Int) (g.nodes.getD ud.toNat ua).thing (0:Int) (0:Int) (0:Int)]++gKeep (Gm.mk ps ba sh ((g.nodes.getD ud.toNat ua).origin+(1:Int))) (g.nodes.getD ud.toNat ua).slot)).getD i ua).tc,(g.nodes.getD ud.toNat ua).kind=(2:Int)] W0
      ·refine tWk (St.mk 129 (zp ud g ui) [zu g ac sh ba ud,rowOf 13 (·.tc) g.nodes,rowOf 2 (·.tc) ps,IntRow fe,Reg.dead,zB ul uh,Reg.dead,za,ownOf 48 9 (·.tc) (fenC fe g.nodes ud.toNat uf),Reg.dead,Reg.box 101 [C.i .u8 3,C.i .u8 (g.nodes.getD ud.toNat ua).op,C.i .i64 (g.nodes.getD ud.toNat ua).slot,C.i .i64 (g.nodes.getD ud.toNat ua).thing,C.b (g.nodes.getD ud.toNat ua).a.slotted,C.i .i64 (g.nodes.getD ud.toNat ua).a.slot,C.i .i64 (g.nodes.getD ud.toNat ua).a.word,C.b (g.nodes.getD ud.toNat ua).b.slotted,C.i .i64 (g.nodes.getD ud.toNat ua).b.slot,C.i .i64 (g.nodes.getD ud.toNat ua).b.word,C.i .i64 (g.nodes.getD ud.toNat ua).next,C.i .i64 (g.nodes.getD ud.toNat ua).els,C.i .i64 (g.nodes.getD ud.toNat ua).origin],Reg.dead,zaW uj uf] []) ?_ [] [13,14,17] [MpEq (MT.mk jb 88 3 3 [CK.i ja] false [CK.i ja] false) ul (fun (a:Int)=>(uh a).isSome) (fun (a:Int)=>(uh a).getD (0:Int)) none (MT.mk jb 88 3 3 [CK.i ja] false [CK.i ja] false) ul (fun (a:Int)=>(uh a).isSome) (fun (a:Int)=>(uh a).getD (0:Int)) none,zf=za,(3:Int)=(g.nodes.getD ud.toNat ua).kind] W69
       refine tz [4,5,16,15,14,3,2,0] ?_
       refine Q3 Q3l (Qhp g ps ba sh ((g.nodes.getD ud.toNat ua).origin+(1:Int)) ac (g.nodes.getD ud.toNat ua) W1 W1 (fenC fe g.nodes ud.toNat uf) W1 W1) [0,1,2,3,8,5,12] ?_ [11] [(g.nodes.getD ud.toNat ua).kind=(3:Int)] W0 (vc:=[Fits jx (3:Int),(MT.mk jb 123 97 104 [CK.i jx] false [] false).P=jb]) (hv:=W6)
       exact tTo (fun xUnit=>C39b g ps ba sh ac fe ud ui uf uj ul uh) (fun xUnit=>True) () trivial [0,1,2,3,4,5,6,7,13,9,10,11,12] [13,14,15,16,17] [MpEq (MT.mk jb 88 3 3 [CK.i ja] false [CK.i ja] false) (ul+4) (fun (a:Int)=>(innS uh (g.nodes.getD ud.toNat ua) (↑(fenC fe g.nodes ud.toNat uf).length:Int) a).isSome) (fun (a:Int)=>(innS uh (g.nodes.getD ud.toNat ua) (↑(fenC fe g.nodes ud.toNat uf).length:Int) a).getD (0:Int)) none (MT.mk jb 88 3 3 [CK.i ja] false [CK.i ja] false) ul (fun (a:Int)=>(uh a).isSome) (fun (a:Int)=>(uh a).getD (0:Int)) none,zg=za,(nodC ps ba sh fe g.nodes ud.toNat uf).length=(fenC fe g.nodes ud.toNat uf++(gFetch (Gm.mk ps ba sh ((g.nodes.getD ud.toNat ua).origin+(1:Int))) (g.nodes.getD ud.toNat ua).a (13:Int)++putL ((g.nodes.getD ud.toNat ua).origin+(1:Int)) [Ins.mk (4:Int) (0:Int) (0:Int) (gReg (Gm.mk ps ba sh ((g.nodes.getD ud.toNat ua).origin+(1:Int))) (g.nodes.getD ud.toNat ua).a (13:Int)) (0:Int) (g.nodes.getD ud.toNat ua).thing (0:Int) (0:Int) (0:Int)])).length,∀ (i:Nat),i<(nodC ps ba sh fe g.nodes ud.toNat uf).length→((nodC ps ba sh fe g.nodes ud.toNat uf).getD i ua).tc=((fenC fe g.nodes ud.toNat uf++(gFetch (Gm.mk ps ba sh ((g.nodes.getD ud.toNat ua).origin+(1:Int))) (g.nodes.getD ud.toNat ua).a (13:Int)++putL ((g.nodes.getD ud.toNat ua).origin+(1:Int)) [Ins.mk (4:Int) (0:Int) (0:Int) (gReg (Gm.mk ps ba sh ((g.nodes.getD ud.toNat ua).origin+(1:Int))) (g.nodes.getD ud.toNat ua).a (13:Int)) (0:Int) (g.nodes.getD ud.toNat ua).thing (0:Int) (0:Int) (0:Int)])).getD i ua).tc,(g.nodes.getD ud.toNat ua).kind=(3:Int)] W0
      ·refine tWk (St.mk 129 (zp ud g ui) [zu g ac sh ba ud,rowOf 13 (·.tc) g.nodes,rowOf 2 (·.tc) ps,IntRow fe,Reg.dead,zB ul uh,Reg.dead,za,ownOf 48 9 (·.tc) (fenC fe g.nodes ud.toNat uf),Reg.dead,Reg.box 101 [C.i .u8 4,C.i .u8 (g.nodes.getD ud.toNat ua).op,C.i .i64 (g.nodes.getD ud.toNat ua).slot,C.i .i64 (g.nodes.getD ud.toNat ua).thing,C.b (g.nodes.getD ud.toNat ua).a.slotted,C.i .i64 (g.nodes.getD ud.toNat ua).a.slot,C.i .i64 (g.nodes.getD ud.toNat ua).a.word,C.b (g.nodes.getD ud.toNat ua).b.slotted,C.i .i64 (g.nodes.getD ud.toNat ua).b.slot,C.i .i64 (g.nodes.getD ud.toNat ua).b.word,C.i .i64 (g.nodes.getD ud.toNat ua).next,C.i .i64 (g.nodes.getD ud.toNat ua).els,C.i .i64 (g.nodes.getD ud.toNat ua).origin],Reg.dead,zaW uj uf] []) ?_ [] [13,14,17] [MpEq (MT.mk jb 88 3 3 [CK.i ja] false [CK.i ja] false) ul (fun (a:Int)=>(uh a).isSome) (fun (a:Int)=>(uh a).getD (0:Int)) none (MT.mk jb 88 3 3 [CK.i ja] false [CK.i ja] false) ul (fun (a:Int)=>(uh a).isSome) (fun (a:Int)=>(uh a).getD (0:Int)) none,zf=za,(4:Int)=(g.nodes.getD ud.toNat ua).kind] W69
       refine tz [4,5,16,15,14,3,2,0] ?_
       refine Q3 Q4n (Qkh g ps ba sh ((g.nodes.getD ud.toNat ua).origin+(1:Int)) ac (g.nodes.getD ud.toNat ua) W1 W1 (fenC fe g.nodes ud.toNat uf) W1 W1) [0,1,2,3,8,5,12] ?_ [11] [(g.nodes.getD ud.toNat ua).kind=(4:Int)] W0 (vc:=[Fits jx (4:Int),(MT.mk jb 123 97 104 [CK.i jx] false [] false).P=jb]) (hv:=W6)
       exact tTo (fun xUnit=>C39b g ps ba sh ac fe ud ui uf uj ul uh) (fun xUnit=>True) () trivial [0,1,2,3,4,5,6,7,13,9,10,11,12] [13,14,15,16,17] [MpEq (MT.mk jb 88 3 3 [CK.i ja] false [CK.i ja] false) (ul+4) (fun (a:Int)=>(innS uh (g.nodes.getD ud.toNat ua) (↑(fenC fe g.nodes ud.toNat uf).length:Int) a).isSome) (fun (a:Int)=>(innS uh (g.nodes.getD ud.toNat ua) (↑(fenC fe g.nodes ud.toNat uf).length:Int) a).getD (0:Int)) none (MT.mk jb 88 3 3 [CK.i ja] false [CK.i ja] false) ul (fun (a:Int)=>(uh a).isSome) (fun (a:Int)=>(uh a).getD (0:Int)) none,zg=za,(nodC ps ba sh fe g.nodes ud.toNat uf).length=(fenC fe g.nodes ud.toNat uf++gSwapN (Gm.mk ps ba sh ((g.nodes.getD ud.toNat ua).origin+(1:Int))) (g.nodes.getD ud.toNat ua)).length,∀ (i:Nat),i<(nodC ps ba sh fe g.nodes ud.toNat uf).length→((nodC ps ba sh fe g.nodes ud.toNat uf).getD i ua).tc=((fenC fe g.nodes ud.toNat uf++gSwapN (Gm.mk ps ba sh ((g.nodes.getD ud.toNat ua).origin+(1:Int))) (g.nodes.getD ud.toNat ua)).getD i ua).tc,(g.nodes.getD ud.toNat ua).kind=(4:Int)] W0
      ·refine tWk (St.mk 129 (zp ud g ui) [zu g ac sh ba ud,rowOf 13 (·.tc) g.nodes,rowOf 2 (·.tc) ps,IntRow fe,Reg.dead,zB ul uh,Reg.dead,za,ownOf 48 9 (·.tc) (fenC fe g.nodes ud.toNat uf),Reg.dead,Reg.box 101 [C.i .u8 5,C.i .u8 (g.nodes.getD ud.toNat ua).op,C.i .i64 (g.nodes.getD ud.toNat ua).slot,C.i .i64 (g.nodes.getD ud.toNat ua).thing,C.b (g.nodes.getD ud.toNat ua).a.slotted,C.i .i64 (g.nodes.getD ud.toNat ua).a.slot,C.i .i64 (g.nodes.getD ud.toNat ua).a.word,C.b (g.nodes.getD ud.toNat ua).b.slotted,C.i .i64 (g.nodes.getD ud.toNat ua).b.slot,C.i .i64 (g.nodes.getD ud.toNat ua).b.word,C.i .i64 (g.nodes.getD ud.toNat ua).next,C.i .i64 (g.nodes.getD ud.toNat ua).els,C.i .i64 (g.nodes.getD ud.toNat ua).origin],Reg.dead,zaW uj uf] []) ?_ [] [13,14,17] [MpEq (MT.mk jb 88 3 3 [CK.i ja] false [CK.i ja] false) ul (fun (a:Int)=>(uh a).isSome) (fun (a:Int)=>(uh a).getD (0:Int)) none (MT.mk jb 88 3 3 [CK.i ja] false [CK.i ja] false) ul (fun (a:Int)=>(uh a).isSome) (fun (a:Int)=>(uh a).getD (0:Int)) none,zf=za,(5:Int)=(g.nodes.getD ud.toNat ua).kind] W69
       refine tz [4,5,16,15,14,3,2,0] ?_
       refine Q3 Q4o (Qki g ps ba sh ((g.nodes.getD ud.toNat ua).origin+(1:Int)) ac (g.nodes.getD ud.toNat ua) W1 W1 (fenC fe g.nodes ud.toNat uf) W1 ul uh W1 W1) [0,1,2,3,8,5,12] ?_ [11,12] [MpEq MTi ul (fun (a:Int)=>(uh a).isSome) (fun (a:Int)=>(uh a).getD (0:Int)) none (MT.mk jb 88 3 3 [CK.i ja] false [CK.i ja] false) ul (fun (a:Int)=>(uh a).isSome) (fun (a:Int)=>(uh a).getD (0:Int)) none,(g.nodes.getD ud.toNat ua).kind=(5:Int)] W0 (vc:=[Fits jx (5:Int),(MT.mk jb 123 97 104 [CK.i jx] false [] false).P=jb]) (hv:=W6)
       exact tTo (fun xUnit=>C39b g ps ba sh ac fe ud ui uf uj ul uh) (fun xUnit=>True) () trivial [0,1,2,3,4,5,6,7,13,9,10,11,12] [13,14,15,16,17] [MpEq (MT.mk jb 88 3 3 [CK.i ja] false [CK.i ja] false) (ul+4) (fun (a:Int)=>(innS uh (g.nodes.getD ud.toNat ua) (↑(fenC fe g.nodes ud.toNat uf).length:Int) a).isSome) (fun (a:Int)=>(innS uh (g.nodes.getD ud.toNat ua) (↑(fenC fe g.nodes ud.toNat uf).length:Int) a).getD (0:Int)) none (MT.mk jb 88 3 3 [CK.i ja] false [CK.i ja] false) (ul+4) (fun (a:Int)=>(innF uh (↑(fenC fe g.nodes ud.toNat uf).length:Int) a).isSome) (fun (a:Int)=>(innF uh (↑(fenC fe g.nodes ud.toNat uf).length:Int) a).getD (0:Int)) none,zg=za,(nodC ps ba sh fe g.nodes ud.toNat uf).length=(fenC fe g.nodes ud.toNat uf++putL ((g.nodes.getD ud.toNat ua).origin+(1:Int)) [Ins.mk (1:Int) (0:Int) (15:Int) (0:Int) (0:Int) (0:Int) (0:Int) (1:Int) (0:Int),Ins.mk (5:Int) (0:Int) (15:Int) (0:Int) (0:Int) (sh+(g.nodes.getD ud.toNat ua).thing) (0:Int) (0:Int) (0:Int),Ins.mk (9:Int) (0:Int) (0:Int) (15:Int) (0:Int) (0:Int) ((↑(fenC fe g.nodes ud.toNat uf).length:Int)+(4:Int)) (0:Int) (0:Int),Ins.mk (8:Int) (0:Int) (0:Int) (0:Int) (0:Int) (0:Int) (↑(fenC fe g.nodes ud.toNat uf).length:Int) (0:Int) (0:Int)]).length,∀ (i:Nat),i<(nodC ps ba sh fe g.nodes ud.toNat uf).length→((nodC ps ba sh fe g.nodes ud.toNat uf).getD i ua).tc=((fenC fe g.nodes ud.toNat uf++putL ((g.nodes.getD ud.toNat ua).origin+(1:Int)) [Ins.mk (1:Int) (0:Int) (15:Int) (0:Int) (0:Int) (0:Int) (0:Int) (1:Int) (0:Int),Ins.mk (5:Int) (0:Int) (15:Int) (0:Int) (0:Int) (sh+(g.nodes.getD ud.toNat ua).thing) (0:Int) (0:Int) (0:Int),Ins.mk (9:Int) (0:Int) (0:Int) (15:Int) (0:Int) (0:Int) ((↑(fenC fe g.nodes ud.toNat uf).length:Int)+(4:Int)) (0:Int) (0:Int),Ins.mk (8:Int) (0:Int) (0:Int) (0:Int) (0:Int) (0:Int) (↑(fenC fe g.nodes ud.toNat uf).length:Int) (0:Int) (0:Int)]).getD i ua).tc,(g.nodes.getD ud.toNat ua).kind=(5:Int)] W0
      ·refine tWk (St.mk 129 (zp ud g ui) [zu g ac sh ba ud,rowOf 13 (·.tc) g.nodes,rowOf 2 (·.tc) ps,IntRow fe,Reg.dead,zB ul uh,Reg.dead,za,ownOf 48 9 (·.tc) (fenC fe g.nodes ud.toNat uf),Reg.dead,Reg.box 101 [C.i .u8 6,C.i .u8 (g.nodes.getD ud.toNat ua).op,C.i .i64 (g.nodes.getD ud.toNat ua).slot,C.i .i64 (g.nodes.getD ud.toNat ua).thing,C.b (g.nodes.getD ud.toNat ua).a.slotted,C.i .i64 (g.nodes.getD ud.toNat ua).a.slot,C.i .i64 (g.nodes.getD ud.toNat ua).a.word,C.b (g.nodes.getD ud.toNat ua).b.slotted,C.i .i64 (g.nodes.getD ud.toNat ua).b.slot,C.i .i64 (g.nodes.getD ud.toNat ua).b.word,C.i .i64 (g.nodes.getD ud.toNat ua).next,C.i .i64 (g.nodes.getD ud.toNat ua).els,C.i .i64 (g.nodes.getD ud.toNat ua).origin],Reg.dead,zaW uj uf] []) ?_ [] [13,14,17] [MpEq (MT.mk jb 88 3 3 [CK.i ja] false [CK.i ja] false) ul (fun (a:Int)=>(uh a).isSome) (fun (a:Int)=>(uh a).getD (0:Int)) none (MT.mk jb 88 3 3 [CK.i ja] false [CK.i ja] false) ul (fun (a:Int)=>(uh a).isSome) (fun (a:Int)=>(uh a).getD (0:Int)) none,zf=za,(6:Int)=(g.nodes.getD ud.toNat ua).kind] W69
       refine tz [4,5,16,15,14,3,2,0] ?_
       refine Q3 Q2w (Qf6 g ps ba sh ((g.nodes.getD ud.toNat ua).origin+(1:Int)) ac (g.nodes.getD ud.toNat ua) W1 W1 (fenC fe g.nodes ud.toNat uf) W1 W1) [0,1,2,3,8,5,12] ?_ [11] [(g.nodes.getD ud.toNat ua).kind=(6:Int)] W0 (vc:=[Fits jx (6:Int),(MT.mk jb 123 97 104 [CK.i jx] false [] false).P=jb]) (hv:=W6)
       exact tTo (fun xUnit=>C39b g ps ba sh ac fe ud ui uf uj ul uh) (fun xUnit=>True) () trivial [0,1,2,3,4,5,6,7,13,9,10,11,12] [13,14,15,16,17] [MpEq (MT.mk jb 88 3 3 [CK.i ja] false [CK.i ja] false) (ul+4) (fun (a:Int)=>(innS uh (g.nodes.getD ud.toNat ua) (↑(fenC fe g.nodes ud.toNat uf).length:Int) a).isSome) (fun (a:Int)=>(innS uh (g.nodes.getD ud.toNat ua) (↑(fenC fe g.nodes ud.toNat uf).length:Int) a).getD (0:Int)) none (MT.mk jb 88 3 3 [CK.i ja] false [CK.i ja] false) ul (fun (a:Int)=>(uh a).isSome) (fun (a:Int)=>(uh a).getD (0:Int)) none,zg=za,(nodC ps ba sh fe g.nodes ud.toNat uf).length=(fenC fe g.nodes ud.toNat uf++putL ((g.nodes.getD ud.toNat ua).origin+(1:Int)) [Ins.mk (1:Int) (0:Int) (15:Int) (0:Int) (0:Int) (0:Int) (0:Int) (0:Int) (0:Int),Ins.mk (4:Int) (0:Int) (0:Int) (15:Int) (0:Int) (sh+(g.nodes.getD ud.toNat ua).thing) (0:Int) (0:Int) (0:Int)]).length,∀ (i:Nat),i<(nodC ps ba sh fe g.nodes ud.toNat uf).length→((nodC ps ba sh fe g.nodes ud.toNat uf).getD i ua).tc=((fenC fe g.nodes ud.toNat uf++putL ((g.nodes.getD ud.toNat ua).origin+(1:Int)) [Ins.mk (1:Int) (0:Int) (15:Int) (0:Int) (0:Int) (0:Int) (0:Int) (0:Int) (0:Int),Ins.mk (4:Int) (0:Int) (0:Int) (15:Int) (0:Int) (sh+(g.nodes.getD ud.toNat ua).thing) (0:Int) (0:Int) (0:Int)]).getD i ua).tc,(g.nodes.getD ud.toNat ua).kind=(6:Int)] W0
      ·refine tWk (St.mk 129 (zp ud g ui) [zu g ac sh ba ud,rowOf 13 (·.tc) g.nodes,rowOf 2 (·.tc) ps,IntRow fe,Reg.dead,zB ul uh,Reg.dead,za,ownOf 48 9 (·.tc) (fenC fe g.nodes ud.toNat uf),Reg.dead,Reg.box 101 [C.i .u8 7,C.i .u8 (g.nodes.getD ud.toNat ua).op,C.i .i64 (g.nodes.getD ud.toNat ua).slot,C.i .i64 (g.nodes.getD ud.toNat ua).thing,C.b (g.nodes.getD ud.toNat ua).a.slotted,C.i .i64 (g.nodes.getD ud.toNat ua).a.slot,C.i .i64 (g.nodes.getD ud.toNat ua).a.word,C.b (g.nodes.getD ud.toNat ua).b.slotted,C.i .i64 (g.nodes.getD ud.toNat ua).b.slot,C.i .i64 (g.nodes.getD ud.toNat ua).b.word,C.i .i64 (g.nodes.getD ud.toNat ua).next,C.i .i64 (g.nodes.getD ud.toNat ua).els,C.i .i64 (g.nodes.getD ud.toNat ua).origin],Reg.dead,zaW uj uf] []) ?_ [] [13,14,17] [MpEq (MT.mk jb 88 3 3 [CK.i ja] false [CK.i ja] false) ul (fun (a:Int)=>(uh a).isSome) (fun (a:Int)=>(uh a).getD (0:Int)) none (MT.mk jb 88 3 3 [CK.i ja] false [CK.i ja] false) ul (fun (a:Int)=>(uh a).isSome) (fun (a:Int)=>(uh a).getD (0:Int)) none,zf=za,(7:Int)=(g.nodes.getD ud.toNat ua).kind] W69
       refine tz [4,5,16,15,14,3,2,0] ?_
       refine Q3 Q3m (Qhq g ps ba sh ((g.nodes.getD ud.toNat ua).origin+(1:Int)) ac (g.nodes.getD ud.toNat ua) W1 W1 (fenC fe g.nodes ud.toNat uf) W1 W1) [0,1,2,3,8,5,12] ?_ [11] [(g.nodes.getD ud.toNat ua).kind=(7:Int)] W0 (vc:=[Fits jx (7:Int),(MT.mk jb 123 97 104 [CK.i jx] false [] false).P=jb]) (hv:=W6)
       exact tTo (fun xUnit=>C39b g ps ba sh ac fe ud ui uf uj ul uh) (fun xUnit=>True) () trivial [0,1,2,3,4,5,6,7,13,9,10,11,12] [13,14,15,16,17] [MpEq (MT.mk jb 88 3 3 [CK.i ja] false [CK.i ja] false) (ul+4) (fun (a:Int)=>(innS uh (g.nodes.getD ud.toNat ua) (↑(fenC fe g.nodes ud.toNat uf).length:Int) a).isSome) (fun (a:Int)=>(innS uh (g.nodes.getD ud.toNat ua) (↑(fenC fe g.nodes ud.toNat uf).length:Int) a).getD (0:Int)) none (MT.mk jb 88 3 3 [CK.i ja] false [CK.i ja] false) ul (fun (a:Int)=>(uh a).isSome) (fun (a:Int)=>(uh a).getD (0:Int)) none,zg=za,(nodC ps ba sh fe g.nodes ud.toNat uf).length=(fenC fe g.nodes ud.toNat uf++(gFetch (Gm.mk ps ba sh ((g.nodes.getD ud.toNat ua).origin+(1:Int))) (g.nodes.getD ud.toNat ua).a (13:Int)++putL ((g.nodes.getD ud.toNat ua).origin+(1:Int)) [Ins.mk (7:Int) (0:Int) (0:Int) (gReg (Gm.mk ps ba sh ((g.nodes.getD ud.toNat ua).origin+(1:Int))) (g.nodes.getD ud.toNat ua).a (13:Int)) (0:Int) (0:Int) (0:Int) (0:Int) (0:Int)])).length,∀ (i:Nat),i<(nodC ps ba sh fe g.nodes ud.toNat uf).length→((nodC ps ba sh fe g.nodes ud.toNat uf).getD i ua).tc=((fenC fe g.nodes ud.toNat uf++(gFetch (Gm.mk ps ba sh ((g.nodes.getD ud.toNat ua).origin+(1:Int))) (g.nodes.getD ud.toNat ua).a (13:Int)++putL ((g.nodes.getD ud.toNat ua).origin+(1:Int)) [Ins.mk (7:Int) (0:Int) (0:Int) (gReg (Gm.mk ps ba sh ((g.nodes.getD ud.toNat ua).origin+(1:Int))) (g.nodes.getD ud.toNat ua).a (13:Int)) (0:Int) (0:Int) (0:Int) (0:Int) (0:Int)])).getD i ua).tc,(g.nodes.getD ud.toNat ua).kind=(7:Int)] W0
      ·refine tWk (St.mk 129 (zp ud g ui) [zu g ac sh ba ud,rowOf 13 (·.tc) g.nodes,rowOf 2 (·.tc) ps,IntRow fe,Reg.dead,zB ul uh,Reg.dead,za,ownOf 48 9 (·.tc) (fenC fe g.nodes ud.toNat uf),Reg.dead,Reg.box 101 [C.i .u8 8,C.i .u8 (g.nodes.getD ud.toNat ua).op,C.i .i64 (g.nodes.getD ud.toNat ua).slot,C.i .i64 (g.nodes.getD ud.toNat ua).thing,C.b (g.nodes.getD ud.toNat ua).a.slotted,C.i .i64 (g.nodes.getD ud.toNat ua).a.slot,C.i .i64 (g.nodes.getD ud.toNat ua).a.word,C.b (g.nodes.getD ud.toNat ua).b.slotted,C.i .i64 (g.nodes.getD ud.toNat ua).b.slot,C.i .i64 (g.nodes.getD ud.toNat ua).b.word,C.i .i64 (g.nodes.getD ud.toNat ua).next,C.i .i64 (g.nodes.getD ud.toNat ua).els,C.i .i64 (g.nodes.getD ud.toNat ua).origin],Reg.dead,zaW uj uf] []) ?_ [] [13,14,17] [MpEq (MT.mk jb 88 3 3 [CK.i ja] false [CK.i ja] false) ul (fun (a:Int)=>(uh a).isSome) (fun (a:Int)=>(uh a).getD (0:Int)) none (MT.mk jb 88 3 3 [CK.i ja] false [CK.i ja] false) ul (fun (a:Int)=>(uh a).isSome) (fun (a:Int)=>(uh a).getD (0:Int)) none,zf=za,(8:Int)=(g.nodes.getD ud.toNat ua).kind] W69
       refine tz [4,5,16,15,14,3,2,0] ?_
       refine Q3 Q2x (Qf7 g ps ba sh ((g.nodes.getD ud.toNat ua).origin+(1:Int)) ac (g.nodes.getD ud.toNat ua) W1 W1 (fenC fe g.nodes ud.toNat uf) W1 W1) [0,1,2,3,8,5,12] ?_ [11] [(g.nodes.getD ud.toNat ua).kind=(8:Int)] W0 (vc:=[Fits jx (8:Int),(MT.mk jb 123 97 104 [CK.i jx] false [] false).P=jb]) (hv:=W6)
       exact tTo (fun xUnit=>C39b g ps ba sh ac fe ud ui uf uj ul uh) (fun xUnit=>True) () trivial [0,1,2,3,4,5,6,7,13,9,10,11,12] [13,14,15,16,17] [MpEq (MT.mk jb 88 3 3 [CK.i ja] false [CK.i ja] false) (ul+4) (fun (a:Int)=>(innS uh (g.nodes.getD ud.toNat ua) (↑(fenC fe g.nodes ud.toNat uf).length:Int) a).isSome) (fun (a:Int)=>(innS uh (g.nodes.getD ud.toNat ua) (↑(fenC fe g.nodes ud.toNat uf).length:Int) a).getD (0:Int)) none (MT.mk jb 88 3 3 [CK.i ja] false [CK.i ja] false) ul (fun (a:Int)=>(uh a).isSome) (fun (a:Int)=>(uh a).getD (0:Int)) none,zg=za,(nodC ps ba sh fe g.nodes ud.toNat uf).length=(fenC fe g.nodes ud.toNat uf++gBranch (Gm.mk ps ba sh ((g.nodes.getD ud.toNat ua).origin+(1:Int))) (g.nodes.getD ud.toNat ua)).length,∀ (i:Nat),i<(nodC ps ba sh fe g.nodes ud.toNat uf).length→((nodC ps ba sh fe g.nodes ud.toNat uf).getD i ua).tc=((fenC fe g.nodes ud.toNat uf++gBranch (Gm.mk ps ba sh ((g.nodes.getD ud.toNat ua).origin+(1:Int))) (g.nodes.getD ud.toNat ua)).getD i ua).tc,(g.nodes.getD ud.toNat ua).kind=(8:Int)] W0
      ·refine tWk (St.mk 129 (zp ud g ui) [zu g ac sh ba ud,rowOf 13 (·.tc) g.nodes,rowOf 2 (·.tc) ps,IntRow fe,Reg.dead,zB ul uh,Reg.dead,za,ownOf 48 9 (·.tc) (fenC fe g.nodes ud.toNat uf),Reg.dead,Reg.box 101 [C.i .u8 9,C.i .u8 (g.nodes.getD ud.toNat ua).op,C.i .i64 (g.nodes.getD ud.toNat ua).slot,C.i .i64 (g.nodes.getD ud.toNat ua).thing,C.b (g.nodes.getD ud.toNat ua).a.slotted,C.i .i64 (g.nodes.getD ud.toNat ua).a.slot,C.i .i64 (g.nodes.getD ud.toNat ua).a.word,C.b (g.nodes.getD ud.toNat ua).b.slotted,C.i .i64 (g.nodes.getD ud.toNat ua).b.slot,C.i .i64 (g.nodes.getD ud.toNat ua).b.word,C.i .i64 (g.nodes.getD ud.toNat ua).next,C.i .i64 (g.nodes.getD ud.toNat ua).els,C.i .i64 (g.nodes.getD ud.toNat ua).origin],Reg.dead,zaW uj uf] []) ?_ [] [13,14,17] [MpEq (MT.mk jb 88 3 3 [CK.i ja] false [CK.i ja] false) ul (fun (a:Int)=>(uh a).isSome) (fun (a:Int)=>(uh a).getD (0:Int)) none (MT.mk jb 88 3 3 [CK.i ja] false [CK.i ja] false) ul (fun (a:Int)=>(uh a).isSome) (fun (a:Int)=>(uh a).getD (0:Int)) none,zf=za,(9:Int)=(g.nodes.getD ud.toNat ua).kind] W69
       refine tz [4,5,16,15,14,3,2,0] ?_
       refine Q3 Q5c (Qnp g ps ba sh ((g.nodes.getD ud.toNat ua).origin+(1:Int)) ac (g.nodes.getD ud.toNat ua) W1 W1 (fenC fe g.nodes ud.toNat uf) W1 W1) [0,1,2,3,8,5,12] ?_ [11] [(g.nodes.getD ud.toNat ua).kind=(9:Int)] W0 (vc:=[Fits jx (9:Int),(MT.mk jb 123 97 104 [CK.i jx] false [] false).P=jb]) (hv:=W6)
       exact tTo (fun xUnit=>C39b g ps ba sh ac fe ud ui uf uj ul uh) (fun xUnit=>True) () trivial [0,1,2,3,4,5,6,7,13,9,10,11,12] [13,14,15,16,17] [MpEq (MT.mk jb 88 3 3 [CK.i ja] false [CK.i ja] false) (ul+4) (fun (a:Int)=>(innS uh (g.nodes.getD ud.toNat ua) (↑(fenC fe g.nodes ud.toNat uf).length:Int) a).isSome) (fun (a:Int)=>(innS uh (g.nodes.getD ud.toNat ua) (↑(fenC fe g.nodes ud.toNat uf).length:Int) a).getD (0:Int)) none (MT.mk jb 88 3 3 [CK.i ja] false [CK.i ja] false) ul (fun (a:Int)=>(uh a).isSome) (fun (a:Int)=>(uh a).getD (0:Int)) none,zg=za,(nodC ps ba sh fe g.nodes ud.toNat uf).length=(fenC fe g.nodes ud.toNat uf++putL ((g.nodes.getD ud.toNat ua).origin+(1:Int)) [Ins.mk (10:Int) (0:Int) (0:Int) (0:Int) (0:Int) (0:Int) (0:Int) (0:Int) (0:Int)]).length,∀ (i:Nat),i<(nodC ps ba sh fe g.nodes ud.toNat uf).length→((nodC ps ba sh fe g.nodes ud.toNat uf).getD i ua).tc=((fenC fe g.nodes ud.toNat uf++putL ((g.nodes.getD ud.toNat ua).origin+(1:Int)) [Ins.mk (10:Int) (0:Int) (0:Int) (0:Int) (0:Int) (0:Int) (0:Int) (0:Int) (0:Int)]).getD i ua).tc,(g.nodes.getD ud.toNat ua).kind=(9:Int)] W0
     ·rintro ⟨⟩ hCC39b
      refine RunF.cutm 2 (fun _:Unit=>C39c g ps ba sh ac fe ud ui uf uj ul uh) (fun _=>True) ?_ ?_
      ·refine tz [4,5,16,15,14,3,2,0] ?_
       refine Q0 (!decide ((g.nodes.getD ud.toNat ua).kind=(9:Int))&&!decide ((g.nodes.getD ud.toNat ua).next=ud+(1:Int))) (fun h3=>?_) (fun h3=>?_) (vc:=[(!decide ((g.nodes.getD ud.toNat ua).kind=(9:Int)))=true→Fits ja (ud+(1:Int))]) (hv:=W6)
       ·refine tz [4,5,16,15,14,3,2,0] ?_
        refine Q3 Qd (Qhn g ps ba sh ((g.nodes.getD ud.toNat ua).origin+(1:Int)) ac [Ins.mk (8:Int) (0:Int) (0:Int) (0:Int) (0:Int) (0:Int) (g.nodes.getD ud.toNat ua).next (0:Int) (0:Int)] (nodC ps ba sh fe g.nodes ud.toNat uf) W1 W1) [0,1,2,3,8,5,12,13] ?_ [11,12,13,14,15,16,17,18,19,20,21] [[Ins.mk (8:Int) (0:Int) (0:Int) (0:Int) (0:Int) (0:Int) (g.nodes.getD ud.toNat ua).next (0:Int) (0:Int)].length=1,∀ (i:Nat),i < [Ins.mk (8:Int) (0:Int) (0:Int) (0:Int) (0:Int) (0:Int) (g.nodes.getD ud.toNat ua).next (0:Int) (0:Int)].length→i≠0→([Ins.mk (8:Int) (0:Int) (0:Int) (0:Int) (0:Int) (0:Int) (g.nodes.getD ud.toNat ua).next (0:Int) (0:Int)].getD i ua).tc=fun x=>TC.any,(Ins.mk (8:Int) (0:Int) (0:Int) (0:Int) (0:Int) (0:Int) (g.nodes.getD ud.toNat ua).next (0:Int) (0:Int)).tc 0=TC.val (jg jx (8:Int)),(Ins.mk (8:Int) (0:Int) (0:Int) (0:Int) (0:Int) (0:Int) (g.nodes.getD ud.toNat ua).next (0:Int) (0:Int)).tc 1=TC.val (jg jx (0:Int)),(Ins.mk (8:Int) (0:Int) (0:Int) (0:Int) (0:Int) (0:Int) (g.nodes.getD ud.toNat ua).next (0:Int) (0:Int)).tc 2=TC.val (jg ja (0:Int)),(Ins.mk (8:Int) (0:Int) (0:Int) (0:Int) (0:Int) (0:Int) (g.nodes.getD ud.toNat ua).next (0:Int) (0:Int)).tc 3=TC.val (jg ja (0:Int)),(Ins.mk (8:Int) (0:Int) (0:Int) (0:Int) (0:Int) (0:Int) (g.nodes.getD ud.toNat ua).next (0:Int) (0:Int)).tc 4=TC.val (jg ja (0:Int)),(Ins.mk (8:Int) (0:Int) (0:Int) (0:Int) (0:Int) (0:Int) (g.nodes.getD ud.toNat ua).next (0:Int) (0:Int)).tc 5=TC.val (jg ja (0:Int)),(Ins.mk (8:Int) (0:Int) (0:Int) (0:Int) (0:Int) (0:Int) (g.nodes.getD ud.toNat ua).next (0:Int) (0:Int)).tc 6=TC.val (jg ja (g.nodes.getD ud.toNat ua).next),(Ins.mk (8:Int) (0:Int) (0:Int) (0:Int) (0:Int) (0:Int) (g.nodes.getD ud.toNat ua).next (0:Int) (0:Int)).tc 7=TC.val (jg ja (0:Int)),(Ins.mk (8:Int) (0:Int) (0:Int) (0:Int) (0:Int) (0:Int) (g.nodes.getD ud.toNat ua).next (0:Int) (0:Int)).tc 8=TC.val (jg ja (0:Int))] W0
        exact tTo (fun xUnit=>C39c g ps ba sh ac fe ud ui uf uj ul uh) (fun xUnit=>True) () trivial [0,1,2,3,4,5,6,7,14,9,10,11,12] [13,14,15,16] [MpEq (MT.mk jb 88 3 3 [CK.i ja] false [CK.i ja] false) (ul+4) (fun (a:Int)=>(innS uh (g.nodes.getD ud.toNat ua) (↑(fenC fe g.nodes ud.toNat uf).length:Int) a).isSome) (fun (a:Int)=>(innS uh (g.nodes.getD ud.toNat ua) (↑(fenC fe g.nodes ud.toNat uf).length:Int) a).getD (0:Int)) none (MT.mk jb 88 3 3 [CK.i ja] false [CK.i ja] false) (ul+4) (fun (a:Int)=>(innS uh (g.nodes.getD ud.toNat ua) (↑(fenC fe g.nodes ud.toNat uf).length:Int) a).isSome) (fun (a:Int)=>(innS uh (g.nodes.getD ud.toNat ua) (↑(fenC fe g.nodes ud.toNat uf).length:Int) a).getD (0:Int)) none,zaj=za,(stepC ps ba sh fe g.nodes ud.toNat uf).length=(nodC ps ba sh fe g.nodes ud.toNat uf++putL ((g.nodes.getD ud.toNat ua).origin+(1:Int)) [Ins.mk (8:Int) (0:Int) (0:Int) (0:Int) (0:Int) (0:Int) (g.nodes.getD ud.toNat ua).next (0:Int) (0:Int)]).length,∀ (i:Nat),i<(stepC ps ba sh fe g.nodes ud.toNat uf).length→((stepC ps ba sh fe g.nodes ud.toNat uf).getD i ua).tc=((nodC ps ba sh fe g.nodes ud.toNat uf++putL ((g.nodes.getD ud.toNat ua).origin+(1:Int)) [Ins.mk (8:Int) (0:Int) (0:Int) (0:Int) (0:Int) (0:Int) (g.nodes.getD ud.toNat ua).next (0:Int) (0:Int)]).getD i ua).tc] W0
       ·exact tTo (fun xUnit=>C39c g ps ba sh ac fe ud ui uf uj ul uh) (fun xUnit=>True) () trivial [] [13,14,15,16] [MpEq (MT.mk jb 88 3 3 [CK.i ja] false [CK.i ja] false) (ul+4) (fun (a:Int)=>(innS uh (g.nodes.getD ud.toNat ua) (↑(fenC fe g.nodes ud.toNat uf).length:Int) a).isSome) (fun (a:Int)=>(innS uh (g.nodes.getD ud.toNat ua) (↑(fenC fe g.nodes ud.toNat uf).length:Int) a).getD (0:Int)) none (MT.mk jb 88 3 3 [CK.i ja] false [CK.i ja] false) (ul+4) (fun (a:Int)=>(innS uh (g.nodes.getD ud.toNat ua) (↑(fenC fe g.nodes ud.toNat uf).length:Int) a).isSome) (fun (a:Int)=>(innS uh (g.nodes.getD ud.toNat ua) (↑(fenC fe g.nodes ud.toNat uf).length:Int) a).getD (0:Int)) none,zf=za,(stepC ps ba sh fe g.nodes ud.toNat uf).length=(nodC ps ba sh fe g.nodes ud.toNat uf).length,∀ (i:Nat),i<(stepC ps ba sh fe g.nodes ud.toNat uf).length→((stepC ps ba sh fe g.nodes ud.toNat uf).getD i ua).tc=((nodC ps ba sh fe g.nodes ud.toNat uf).getD i ua).tc] W0
      ·rintro ⟨⟩ hCC39c
       refine tz [16,15,14,3,2,0] ?_
       refine Q0 (decide ((16384:Int)<(↑(stepC ps ba sh fe g.nodes ud.toNat uf).length:Int))) (fun h3=>?_) (fun h3=>?_)
       ·exact Q2 [0,1,2,3,4,5,6,8,12] [7] [MpEq MTi (ul+4) (fun (a:Int)=>(innS uh (g.nodes.getD ud.toNat ua) (↑(fenC fe g.nodes ud.toNat uf).length:Int) a).isSome) (fun (a:Int)=>(innS uh (g.nodes.getD ud.toNat ua) (↑(fenC fe g.nodes ud.toNat uf).length:Int) a).getD (0:Int)) none (MT.mk jb 88 3 3 [CK.i ja] false [CK.i ja] false) (ul+4) (fun (a:Int)=>(innS uh (g.nodes.getD ud.toNat ua) (↑(fenC fe g.nodes ud.toNat uf).length:Int) a).isSome) (fun (a:Int)=>(innS uh (g.nodes.getD ud.toNat ua) (↑(fenC fe g.nodes ud.toNat uf).length:Int) a).getD (0:Int)) none] W189 (res:=_) (post:=_) (hS:=⟨(false,(stepC ps ba sh fe g.nodes ud.toNat uf),uj++[(uf.length:Int)],ul+4,innS uh (g.nodes.getD ud.toNat ua) ((fenC fe g.nodes ud.toNat uf).length:Int),(g.nodes.getD ud.toNat ua).origin+1),W155,rfl,rfl⟩)
       ·exact Q4 (wq g ps ba sh ac fe F0) (ud,ui,uf,uj,uw,ul,uh) ((ud+(1:Int),ui,stepC ps ba sh fe g.nodes ud.toNat uf,uj++[(↑uf.length:Int)],(g.nodes.getD ud.toNat ua).origin+(1:Int),ul+4,innS uh (g.nodes.getD ud.toNat ua) (↑(fenC fe g.nodes ud.toNat uf).length:Int))) (by dsimp only [wq];have q:=ub h2;have z:=hJ1.x0;omega) (hJ1.next (ub h2) rfl h3) [0,1,2,3,4,5,6,7,8,12] [13,14] [MpEq (MT.mk jb 88 3 3 [CK.i ja] false [CK.i ja] false) (ul+4) (fun (a:Int)=>(innS uh (g.nodes.getD ud.toNat ua) (↑(fenC fe g.nodes ud.toNat uf).length:Int) a).isSome) (fun (a:Int)=>(innS uh (g.nodes.getD ud.toNat ua) (↑(fenC fe g.nodes ud.toNat uf).length:Int) a).getD (0:Int)) none (MT.mk jb 88 3 3 [CK.i ja] false [CK.i ja] false) (ul+4) (fun (a:Int)=>(innS uh (g.nodes.getD ud.toNat ua) (↑(fenC fe g.nodes ud.toNat uf).length:Int) a).isSome) (fun (a:Int)=>(innS uh (g.nodes.getD ud.toNat ua) (↑(fenC fe g.nodes ud.toNat uf).length:Int) a).getD (0:Int)) none,Reg.mpv (MT.mk jb 123 97 104 [CK.i jx] false [] false) ky 9 (List.map (fun x=>(x.fst,C.ren (at' [0,1,2,3,4,5,6,7,8,12]) x.snd)) [((9:Int),C.fn 108 true [0]),((8:Int),C.fn 107 true [0]),((7:Int),C.fn 106 true [0]),((6:Int),C.fn 105 true [0]),((5:Int),C.fn 104 true [0]),((4:Int),C.fn 103 true [0]),((3:Int),C.fn 102 true [0]),((2:Int),C.fn 101 true [0]),((1:Int),C.fn 100 true [0])])=za] W0 (vc:=(zF ud)) (hv:=W6)
 ·refine tz [16,15,14,3,2,0] ?_
  refine Q6 (vI g ps ba sh ac fe ui uf uj uw ul uh) (((0:Int),uf,uj,uw,ul,uh)) (⟨jz _,by omega,rfl,rfl,rfl⟩) ?_ [0,1,2,3,4,5,6,7,8,9,8,9] [13,14] [MpEq (MT.mk jb 88 3 3 [CK.i ja] false [CK.i ja] false) ul (fun (a:Int)=>(uh a).isSome) (fun (a:Int)=>(uh a).getD (0:Int)) none (MT.mk jb 88 3 3 [CK.i ja] false [CK.i ja] false) ul (fun (a:Int)=>(uh a).isSome) (fun (a:Int)=>(uh a).getD (0:Int)) none,Reg.mpv (MT.mk jb 123 97 104 [CK.i jx] false [] false) ky 9 (List.map (fun x=>(x.fst,C.ren (at' [0,1,2,3,4,5,6,7,8,9,8,9]) x.snd)) [((9:Int),C.fn 108 true [0]),((8:Int),C.fn 107 true [0]),((7:Int),C.fn 106 true [0]),((6:Int),C.fn 105 true [0]),((5:Int),C.fn 104 true [0]),((4:Int),C.fn 103 true [0]),((3:Int),C.fn 102 true [0]),((2:Int),C.fn 101 true [0]),((1:Int),C.fn 100 true [0])])=za] W0
  rintro ⟨ug,um,uq,ux,uE,uF⟩ hJ3
  dsimp only [vI] at hJ3
  refine tz [85,84,2,0] ?_
  refine Q0 (decide (ug<(↑uf.length:Int))) (fun h4=>?_) (fun h4=>?_)
  ·refine tz [85,84,2,0] ?_
   refine Q0 ((decide ((um.getD ug.toNat ua).kind=(8:Int))||decide ((um.getD ug.toNat ua).kind=(9:Int)))&&decide ((uF ug).getD (0:Int)=(0:Int))) (fun h5=>?_) (fun h5=>?_) (vc:=[(0:Int)≤ug,ug<(↑um.length:Int),ug.toNat<um.length,decide ((um.getD ug.toNat ua).kind=(8:Int))=false→ug.toNat<um.length,(decide ((um.getD ug.toNat ua).kind=(8:Int))||decide ((um.getD ug.toNat ua).kind=(9:Int)))=true→Fits ja ug,(decide ((um.getD ug.toNat ua).kind=(8:Int))||decide ((um.getD ug.toNat ua).kind=(9:Int)))=true→(MT.mk jb 88 3 3 [CK.i ja] false [CK.i ja] false).P=jb]) (hv:=W6)
   ·exact Q4 (vI g ps ba sh ac fe ui uf uj uw ul uh) (ug,um,uq,ux,uE,uF) ((ug+(1:Int),um.set ug.toNat (Ins.mk (um.getD ug.toNat ua).kind (um.getD ug.toNat ua).op (um.getD ug.toNat ua).d (um.getD ug.toNat ua).a (um.getD ug.toNat ua).b (um.getD ug.toNat ua).addr (uq.getD (um.getD ug.toNat ua).to.toNat (0:Int)) (um.getD ug.toNat ua).word (um.getD ug.toNat ua).from_),uq,ux,uE,uF)) W213 W137 [] [13,14,15,16] [MpEq (MT.mk jb 88 3 3 [CK.i ja] false [CK.i ja] false) uE (fun (a:Int)=>(uF a).isSome) (fun (a:Int)=>(uF a).getD (0:Int)) none (MT.mk jb 88 3 3 [CK.i ja] false [CK.i ja] false) uE (fun (a:Int)=>(uF a).isSome) (fun (a:Int)=>(uF a).getD (0:Int)) none,zal=za,(um.set ug.toNat (Ins.mk (um.getD ug.toNat ua).kind (um.getD ug.toNat ua).op (um.getD ug.toNat ua).d (um.getD ug.toNat ua).a (um.getD ug.toNat ua).b (um.getD ug.toNat ua).addr (uq.getD (um.getD ug.toNat ua).to.toNat (0:Int)) (um.getD ug.toNat ua).word (um.getD ug.toNat ua).from_)).length=um.length,∀ (i:Nat),i<(um.set ug.toNat (Ins.mk (um.getD ug.toNat ua).kind (um.getD ug.toNat ua).op (um.getD ug.toNat ua).d (um.getD ug.toNat ua).a (um.getD ug.toNat ua).b (um.getD ug.toNat ua).addr (uq.getD (um.getD ug.toNat ua).to.toNat (0:Int)) (um.getD ug.toNat ua).word (um.getD ug.toNat ua).from_)).length→((um.set ug.toNat (Ins.mk (um.getD ug.toNat ua).kind (um.getD ug.toNat ua).op (um.getD ug.toNat ua).d (um.getD ug.toNat ua).a (um.getD ug.toNat ua).b (um.getD ug.toNat ua).addr (uq.getD (um.getD ug.toNat ua).to.toNat (0:Int)) (um.getD ug.toNat ua).word (um.getD ug.toNat ua).from_)).getD i ua).tc=updT (fun i=>(um.getD i ua).tc) ug.toNat 6 [jg ja (uq.getD (um.getD ug.toNat ua).to.toNat (0:Int))] i] W0 (vc:=[ug.toNat<um.length,(0:Int)≤(um.getD ug.toNat ua).to,(um.getD ug.toNat ua).to<(↑uq.length:Int),(um.getD ug.toNat ua).to.toNat<uq.length,ug.toNat<um.length,Fits ja (ug+(1:Int))]) (hv:=W6)
   ·exact Q4 (vI g ps ba sh ac fe ui uf uj uw ul uh) (ug,um,uq,ux,uE,uF) ((ug+(1:Int),um,uq,ux,uE,uF)) W213 W137 [] [13,14] [MpEq (MT.mk jb 88 3 3 [CK.i ja] false [CK.i ja] false) uE (fun (a:Int)=>(uF a).isSome) (fun (a:Int)=>(uF a).getD (0:Int)) none (MT.mk jb 88 3 3 [CK.i ja] false [CK.i ja] false) uE (fun (a:Int)=>(uF a).isSome) (fun (a:Int)=>(uF a).getD (0:Int)) none,zal=za] W0 (vc:=(zF ug)) (hv:=W6)
  ·exact Q2 [0,1,2,3,4,5,6,10,11] [7] [MpEq MTi uE (fun (a:Int)=>(uF a).isSome) (fun (a:Int)=>(uF a).getD (0:Int)) none (MT.mk jb 88 3 3 [CK.i ja] false [CK.i ja] false) uE (fun (a:Int)=>(uF a).isSome) (fun (a:Int)=>(uF a).getD (0:Int)) none] W189 (res:=_) (post:=_) (hS:=⟨(true,um,uq,uE,uF,ux),W155,rfl,rfl⟩)
def ws (X:Ext) (sh:List Dcl) (lk:List Dcl) (gs:List Grf) (fs:List Iln) (al:List Alc) (bf:Int):Lp (Int×List Iln×Int×List Cor):=⟨fun x=>{ N:=99,fr:=[se 50 (C.i .i64 x.1),se 49 (C.i .i64 (↑gs.length:Int)),se 48 (C.h 2),se 15 (C.h 11),se 14 (C.p 10 0),se 13 (C.h 9),se 10 (C.i .i64 x.2.2.1),se 9 (C.v (je none 0 0)),se 8 (C.p 7 0),se 1 (C.h 4),se 2 (C.h 5)],rg:=[rowOf 3 (·.tc) sh,rowOf 3 (·.tc) lk,rowOf 4 (·.tc) gs,Reg.froz X,rowOf 1 (·.tc) fs,rowOf 2 (·.tc) al,zP,Reg.box 31 [C.v (je none 0 0),C.i .i64 0,C.i .i64 0,C.i .i64 0,C.v (je none 0 0)],WordOwn (memL sh lk al al.length),IntOwn (mAt sh lk al al.length),Reg.box 31 [C.h 8,C.i .i64 (↑sh.length:Int),C.i .i64 (↑lk.length:Int),C.i .i64 bf,C.h 12]]++[Iln.ownR x.2.1]++[Cor.ownR x.2.2.2],wr:=[] },fun x=>MadJ sh lk gs fs al x.1 x.2.2.2 x.2.1,fun x=>((gs.length:Int)-x.1).toNat⟩
abbrev zcf:List Prop:=[(0:Nat)=0,(0:Nat)=0,(0:Nat)=0]
theorem Qhr (X:Ext) (hX:TabX X) (sh lk:List Dcl) (gs:List Grf) (hs:zy sh) (hl:zy lk) (hg:zT gs) (hw:UnitW gs) (fs:List Iln) (hfs:zaM fs) (al:List Alc) (hp:zaE al) (bf:Int):Ctr jb 21 (zck sh lk gs X fs al) [.agg [.h 0,.h 1,.h 2],.c (.h 4),.c (.h 5),.c (.i .i64 bf)]
 (DetE (fun y:MadY=>y=madU sh lk gs fs al bf) (fun y=>.tup [(true,[.h 6,.i .i64 y.2.2.2.2.1,.i .i64 y.2.2.2.2.2.1,.i .i64 y.2.2.2.2.2.2,.h 7]),(false,[.h 8]),(false,[.i .i64 y.1])]) (fun y=>[.dead,.dead,.dead,.dead,.dead,.dead,WordOwn y.2.1,Cor.ownR y.2.2.1,Iln.ownR y.2.2.2.1])):=by
 refine Ctr.intro [] Tryz.func21 K K ?_
 refine Q3 Qcd (Qnk X W11 sh lk gs W11 W11 W11 W11 fs W11 al W11 bf) [] ?_
 refine tz [23,10,9,8,4,1,2,3] ?_
 refine Q0 (!decide (fauU sh lk gs fs al bf=(0:Int))) (fun h1=>?_) (fun h1=>?_)
 ·exact Q2 [0,1,2,3,4,5,1000006,1000007,1000008] [0,1,2] zcf (by simp only [Conj] at *<;>grind) (res:=_) (post:=_) (hS:=⟨(fauU sh lk gs fs al bf,[],[],[],0,0,0),W131,rfl,rfl⟩)
 ·refine tz [10,9,8,4,1,2,3] ?_
  refine Q3 Q3k (Qbk sh lk gs al W11 W11 W11 W11) [0,1,2,5] ?_
  refine tz [31,10,9,8,4,1,2,3] ?_
  refine Q0 (decide ((4096:Int)<(↑(memL sh lk al al.length).length:Int))) (fun h2=>?_) (fun h2=>?_)
  ·exact Q2 [0,1,2,3,4,5,1000006,1000007,1000008] [0,1,2] zcf (by simp only [Conj] at *<;>grind) (res:=_) (post:=_) (hS:=⟨(3,[],[],[],0,0,0),W131,rfl,rfl⟩)
  ·refine tz [13,12,10,9,8,4,1,2,3] ?_
   refine Q6 (ws X sh lk gs fs al bf) (((0:Int),[],(0:Int),[])) MadJ.start ?_ [0,1,2,3,4,5,6,7,8,9,10,1000011,1000012] [23,24] [(0:Nat)=0,(0:Nat)=0] W20
   rintro ⟨ug,um,uq,ux⟩ hJ3
   dsimp only [ws] at hJ3
   refine tz [50,49,48,15,14,13,10,9,8,1,2] ?_
   refine Q0 (decide (ug<(↑gs.length:Int))) (fun h4=>?_) (fun h4=>?_)
   ·refine Qv 2 (ug.toNat) ?_ (vc:=(zcc ug gs)) (hv:=W42)
    refine Qv 4 (ug.toNat) ?_ (vc:=[ug.toNat<fs.length]) (hv:=W42)
    refine Qv 5 (ug.toNat) ?_ (vc:=[ug.toNat<al.length]) (hv:=W42)
    refine tz [50,49,48,15,14,13,10,9,8,1,2] ?_
    refine Qk Q5a (Qrj (gs.getD ug.toNat ua) ((al.getD ug.toNat ua).places) ((mAt sh lk al al.length).getD ug.toNat 0) (↑sh.length:Int) ((al.getD ug.toNat ua).cells) ((fs.getD ug.toNat ua).l) (fun x=>none) W11 W11 W11 W11 W11 W11 W11 W11) [18,13,15,14,4,17,6] ?_ [15] [MpEq MTi 0 (fun a=>false) (fun a=>(0:Int)) none (MT.mk jb 88 3 3 [CK.i ja] false [CK.i ja] false) 0 (fun x=>false) (fun x=>KA.zero [CK.i ja]) none] W20 (vc:=[(0:Int)≤ug,ug<(↑gs.length:Int),ug.toNat=ug.toNat,(0:Int)≤ug,ug<(↑al.length:Int),ug.toNat=ug.toNat,(0:Int)≤ug,ug<(↑fs.length:Int),ug.toNat=ug.toNat,(0:Int)≤ug,ug<(↑(mAt sh lk al al.length).length:Int),ug.toNat<(mAt sh lk al al.length).length,(MT.mk jb 88 3 3 [CK.i ja] false [CK.i ja] false).P=jb,(MT.mk jb 88 3 3 [CK.i ja] false [CK.i ja] false).Ok,(MT.mk jb 88 3 3 [CK.i ja] false [CK.i ja] false).P=jb,(MT.mk jb 88 3 3 [CK.i ja] false [CK.i ja] false).Ok]) (hv:=W42)
    rintro ⟨uk,uy,uC,uG,wB,wC⟩ hY5
    try dsimp only at hY5
    refine tz [74,18,17,50,49,48,15,14,13,10,9,8,1,2] ?_
    refine Q0 (!uk) (fun h6=>?_) (fun h6=>?_)
    ·exact Q2 [0,1,2,3,4,5,1000006,1000007,1000008] [0,1,2] zcf (by simp only [Conj] at *<;>grind) (res:=_) (post:=_) (hS:=⟨(3,[],[],[],0,0,0),W131,rfl,rfl⟩)
    ·exact Q1c (ws X sh lk gs fs al bf) (ug,um,uq,ux) ((ug+(1:Int),um++[Iln.mk uC],uq,ux++[Cor.mk (gs.getD ug.toNat ua).name uy])) (by dsimp only [ws];have q:=ub h4;have z:=hJ3.x0;omega) (by have e:=hY5.2 (by simpa using h6);have e1:=e.1;have e2:=e.2;subst e1 e2;exact hJ3.next h4 (by have q6:=h6;rw [hY5.1] at q6;exact q6)) [(22,(Cor.tc (Cor.mk (gs.getD ug.toNat ua).name uy))),(24,(Iln.tc (Iln.mk uC)))] [0,1,2,3,4,5,6,7,8,9,10,24,22] [23,24,25,26] [(um++[Iln.mk uC]).length=um.length+1,∀ (i:Nat),i<(um++[Iln.mk uC]).length→((um++[Iln.mk uC]).getD i ua).tc=if i=um.length then (Iln.mk uC).tc else (um.getD i ua).tc,(ux++[Cor.mk (gs.getD ug.toNat ua).name uy]).length=ux.length+1,∀ (i:Nat),i<(ux++[Cor.mk (gs.getD ug.toNat ua).name uy]).length→((ux++[Cor.mk (gs.getD ug.toNat ua).name uy]).getD i ua).tc=if i=ux.length then (Cor.mk (gs.getD ug.toNat ua).name uy).tc else (ux.getD i ua).tc] W188 (vc:=[ux.length+1≤maxLen,(ux.length+1) * 40≤140737488355328,um.length+1≤maxLen,(um.length+1) * 24≤140737488355328,Fits ja (ug+(1:Int))]) (hv:=W42) (vc2:=[jC (gs.getD ug.toNat ua).name=jC (gs.getD ug.toNat ua).name,uy.length=uy.length,∀ (i:Nat),i<uy.length→(uy.getD i ua).tc=(uy.getD i ua).tc,uC.length=uC.length,∀ (i:Nat),i<uC.length→i64T (uC.getD i 0)=i64T (uC.getD i 0)]) (hv2:=W163)
   ·exact Q2 [0,1,2,3,4,5,8,12,11] (res:=_) (post:=_) (hS:=⟨(0,memL sh lk al al.length,ux,um,(sh.length:Int),(lk.length:Int),bf),W131,rfl,rfl⟩)
theorem Qf8 (X:Ext) (hX:TabX X) (sh lk:List Dcl) (gs:List Grf) (hs:zy sh) (hl:zy lk) (hg:zT gs) (hw:UnitW gs) (fs:List Iln) (hfs:zaM fs) (al:List Alc) (hp:zaE al) (bf:Int):Ctr jb 7 (zck sh lk gs X fs al) [zc4,.c (.h 4),.c (.h 5),zc8 bf]
 (DetE (fun y:MadY=>y=madU sh lk gs fs al bf) (fun y=>.tup [(true,[.h 6,.i .i64 y.2.2.2.2.1,.i .i64 y.2.2.2.2.2.1,.i .i64 y.2.2.2.2.2.2,.h 7]),(false,[.i .i64 y.1])]) (fun y=>[.dead,.dead,.dead,.dead,.dead,.dead,WordOwn y.2.1,Cor.ownR y.2.2.1,.dead])):=by
 refine Ctr.intro [] Tryz.func7 K K ?_
 refine Qk Q6m (Qhr X W37 sh lk gs W37 W37 W37 W37 fs W37 al W37 bf) [] ?_
 rintro ⟨ud,ui,uf,uj,uw,ul,uh⟩ hY1
 try dsimp only at hY1
 exact Q2 [0,1,2,3,4,5,8,9,1000008] (res:=_) (post:=_) (hS:=⟨(ud,ui,uf,uj,uw,ul,uh),hY1,rfl,rfl⟩)
theorem Qkj (X:Ext) (hX:TabX X) (sh lk:List Dcl) (gs:List Grf) (hs:zy sh) (hl:zy lk) (hg:zT gs) (hw:UnitW gs) (fs:List Iln) (hfs:zaM fs) (al:List Alc) (hp:zaE al):Ctr jb 9 (zck sh lk gs X fs al) [zc4,.c (.h 4),.c (.h 5)]
 (DetE (fun y:MadY=>y=madU sh lk gs fs al 1) (fun y=>.tup [(false,[.h 8]),(false,[.i .i64 y.1])]) (fun y=>[.dead,.dead,.dead,.dead,.dead,.dead,.dead,.dead,Iln.ownR y.2.2.2.1])):=by
 refine Ctr.intro [] Tryz.func9 K K ?_
 refine Qk Q6m (Qhr X W37 sh lk gs W37 W37 W37 W37 fs W37 al W37 1) [] ?_
 rintro ⟨ud,ui,uf,uj,uw,ul,uh⟩ hY1
 try dsimp only at hY1
 exact Q2 [0,1,2,3,4,5,6,7,9] (res:=_) (post:=_) (hS:=⟨(ud,ui,uf,uj,uw,ul,uh),hY1,rfl,rfl⟩)
def wt (a:List Int) (b:List Int):Lp (Int×Bool):=⟨fun x=>{ N:=26,fr:=[se 13 (C.i .i64 x.1),se 12 (C.i .i64 (↑a.length:Int)),se 4 (C.b x.2),se 0 (C.h 0),se 1 (C.h 1)],rg:=[IntRow a,IntRow b],wr:=[] },fun x=>0≤x.1∧x.1≤(a.length:Int)∧a.length=b.length∧∀ j:Nat,(j:Int)<x.1→a.getD j ua=b.getD j ua,fun x=>((a.length:Int)-x.1).toNat⟩
theorem Qps (a b:List Int):Ctr jb 26 [IntRow a,IntRow b] [.c (.h 0),.c (.h 1)]
 (Det (.c (.b (decide (a=b)))) [.dead,.dead]):=by
 refine Ctr.intro [] Tryz.func26 K K ?_
 refine RunF.lens 0 (m:=a.length) K (fun hlens_0=>?_)
 refine Q0 (!decide ((↑a.length:Int)=(↑b.length:Int))) (fun h1=>?_) (fun h1=>?_)
 ·exact Q2 [] [0] [decide (a=b)=false] W116
 ·refine tz [4,0,1] ?_
  refine Q6 (wt a b) (((0:Int),false)) ⟨by omega,by omega,by simp at h1;omega,fun j hj=>absurd hj W30⟩ ?_
  rintro ⟨ue,un⟩ hJ2
  dsimp only [wt] at hJ2
  refine tz [13,12,4,0,1] ?_
  refine Q0 (decide (ue<(↑a.length:Int))) (fun h3=>?_) (fun h3=>?_)
  ·refine tz [13,12,4,0,1] ?_
   refine Q0 (!decide (a.getD ue.toNat 0=b.getD ue.toNat 0)) (fun h4=>?_) (fun h4=>?_) (vc:=[(0:Int)≤ue,ue<(↑a.length:Int),ue.toNat<a.length,(0:Int)≤ue,ue<(↑b.length:Int),ue.toNat<b.length]) (hv:=W28)
   ·exact Q2 [] [0] [decide (a=b)=false] W116
   ·exact Q4 (wt a b) (ue,un) ((ue+(1:Int),un)) (by dsimp only [wt];exact W236) ⟨by omega,by have:=ub h3;omega,hJ2.2.2.1,Q3y hJ2.2.2.2 hJ2.1 (by show a.getD ue.toNat 0=b.getD ue.toNat 0;simpa using h4)⟩ (vc:=(zF ue)) (hv:=W28)
  ·exact Q2 [] [0] [decide (a=b)=true] W116
theorem Qds {P:Program} {f:Nat} {pre:List Reg} {args:List SV} {S S':SV→List Reg→Prop} (h:Ctr P f pre args S) (hs:∀ r p,S r p→S' r p):Ctr P f pre args S':=fun ε w hr=>(h ε w hr).mono fun _ _ ⟨r,p,ε',h1,h2⟩=>⟨r,p,ε',hs r p h1,h2⟩
theorem Qpt (X:Ext) (hX:TabX X):Ctr jb 7 [Dcl.rowR kSh,Dcl.rowR [],Grf.rowR kGs,.froz X,Iln.rowR kF1,Alc.rowR kAl] [zc4,.c (.h 4),.c (.h 5),.c (.i .i64 4)]
 (Det (.tup [(true,[.h 6,.i .i64 1,.i .i64 0,.i .i64 4,.h 7]),zcN]) [.dead,.dead,.dead,.dead,.dead,.dead,WordOwn [0],Cor.ownR [⟨⟨#[97]⟩,kCode⟩],.dead]):=Qds (Qf8 X hX kSh [] kGs kSn kLn kGn kUw kF1 Qrn kAl kAn 4) fun r p ⟨y,h1,h2,h3⟩=>by
 rw [Qre] at h1;subst h1;exact ⟨h2,h3⟩
theorem Qpu (X:Ext) (hX:TabX X):Ctr jb 9 [Dcl.rowR kSh,Dcl.rowR [],Grf.rowR kGs,.froz X,Iln.rowR kF0,Alc.rowR kAl] [zc4,.c (.h 4),.c (.h 5)]
 (Det (.tup [(false,[.h 8]),zcN]) [.dead,.dead,.dead,.dead,.dead,.dead,.dead,.dead,Iln.ownR [⟨[0,2,3,4]⟩]]):=Qds (Qkj X hX kSh [] kGs kSn kLn kGn kUw kF0 Qro kAl kAn) fun r p ⟨y,h1,h2,h3⟩=>by
 obtain ⟨c,e⟩:=Qrf
 rw [e] at h1;subst h1;exact ⟨h2,h3⟩
abbrev zde:Value:=jS false
abbrev zdr:Value:=jg ja (2:Int)
abbrev zds:Value:=jg ja (3:Int)
theorem Q94 :Ctr jb 25 [] []
 (Det (.agg [.h 0,.v (.slice none 0 0),.h 1]) [Dcl.ownR kSh,Grf.ownR kGs]):=by
 refine Ctr.intro [] Tryz.func25 K K ?_
 exact Qqd [(2,(Dcl.tc ⟨⟨#[120]⟩,0,0⟩)),(3,(Grf.tc ⟨⟨#[97]⟩,0,1,kNs⟩))] [2,3] [0,1,2,3] [kSh.length=1,∀ (i:Nat),i<kSh.length→(kSh.getD i ua).tc=if i=0 then (Dcl.mk (ByteArray.mk #[(120:UInt8)]) (0:Int) (0:Int)).tc else fun x=>TC.any,kGs.length=1,∀ (i:Nat),i<kGs.length→(kGs.getD i ua).tc=if i=0 then (Grf.mk (ByteArray.mk #[(97:UInt8)]) (0:Int) (1:Int) kNs).tc else fun x=>TC.any] W70 (vc2:=[jC (ByteArray.mk #[(120:UInt8)])=jC (ByteArray.mk #[(120:UInt8)]),(0:Int)=(0:Int),(0:Int)=(0:Int),jC (ByteArray.mk #[(97:UInt8)])=jC (ByteArray.mk #[(97:UInt8)]),(0:Int)=(0:Int),(1:Int)=(1:Int),kNs.length=4,∀ (i:Nat),i<kNs.length→(kNs.getD i ua).tc=rowT 13 [zdv,zc7,zcp,zcp,zde,zcp,jg ja (5:Int),zde,zcp,zcp,zdq,zcp,zcp,zdw,zc7,zcp,zcp,zde,zcp,zcp,zde,zcp,zcp,zdr,zcp,zdq,zdx,zc7,zcp,zcp,jS true,zcp,zcp,zde,zcp,zcp,zds,zcp,zdr,jg jx (9:Int),zc7,zcp,zcp,zde,zcp,zcp,zde,zcp,zcp,zcp,zcp,zds] i]) (hv2:=W70)
abbrev zco:Ins:=((Cor.mk (ByteArray.mk #[(97:UInt8)]) kCode).code.getD 0 ua)
abbrev zcq:Ins:=((Cor.mk (ByteArray.mk #[(97:UInt8)]) kCode).code.getD 2 ua)
abbrev zcE:List Int:=[(0:Int),(2:Int),(3:Int),(4:Int)]
abbrev zcZ:Plc:=Plc.mk false (0:Int)
abbrev zdb:Value:=je none 0 0
theorem Qhs (X:Ext) (hX:TabX X):Ctr jb 11 [.froz X] []
 (Det (.c (.b true)) [.dead]):=by
 refine Ctr.intro [] Tryz.func11 K K ?_
 refine Q3 J2 (Q94) [] ?_
 refine tz [12,1,0] ?_
 refine RunF.hereC (vc:=[]) K K trivial ?_
 refine Q0f 1 ((Plc.tc ⟨false,0⟩)) ?_ (vc:=[false=false,(0:Int)=(0:Int)]) (hv:=W111)
 refine Q0f 2 ((Alc.tc ⟨[⟨false,0⟩],0⟩)) ?_ (vc:=[[zcZ].length=1,∀ (i:Nat),i < [zcZ].length→([zcZ].getD i ua).tc=if i=0 then (zcZ).tc else fun x=>TC.any,(0:Int)=(0:Int)]) (hv:=W111)
 refine Q0f 5 ((i64T 1)) ?_ (vc:=[(1:Int)=(1:Int)]) (hv:=W111)
 refine Q0f 6 ((Iln.tc ⟨[1]⟩)) ?_ (vc:=[[(1:Int)].length=1,∀ (i:Nat),i < [(1:Int)].length→i64T ([(1:Int)].getD i 0)=if i=0 then i64T (1:Int) else fun x=>TC.any]) (hv:=W111)
 refine tz [15,14,12,1,0] ?_
 refine Q3 Q7l (Qpt X (by first | assumption | decide)) [3,1000001,4,0,6,2] ?_ [0,2,3,6,7,8,9] [kSh.length=1,(0:Nat)=0,kGs.length=1,kF1.length=1,∀ (i:Nat),i<kF1.length→(kF1.getD i ua).tc=if i=0 then (Iln.mk [(1:Int)]).tc else fun x=>TC.any,kAl.length=1,∀ (i:Nat),i<kAl.length→(kAl.getD i ua).tc=if i=0 then (Alc.mk [zcZ] (0:Int)).tc else fun x=>TC.any] W70
 refine tz [16,1,0] ?_
 refine Q3 J2 (Q94) [] ?_
 refine tz [20,3,2,1,0] ?_
 refine RunF.hereC (vc:=[]) K K trivial ?_
 refine Q0f 13 ((fun _=>TC.val (zdb))) ?_ (vc:=[zdb=zdb]) (hv:=W111)
 refine Qkr 13 (fun _=>Iln.tc ⟨[]⟩) ?_ (vc:=[∀ (i j:Nat),i<1→j<1→(Iln.mk []).tc j=(if i=0 then fun x=>TC.val (zdb) else fun x=>TC.any) j∨(if i=0 then fun x=>TC.val (zdb) else fun x=>TC.any) j=TC.val (zdb)∧∃ ty s g,(Iln.mk []).tc j=TC.sub ty s 0 g]) (hv:=(by simp only [Conj];intro i j hi hj;obtain rfl:i=0:=Nat.lt_one_iff.1 hi;obtain rfl:j=0:=Nat.lt_one_iff.1 hj;exact .inr ⟨rfl,_,_,_,rfl⟩))
 refine Qah 13 ((Iln.ownR kF0)) ?_ (vc:=[kF0.length=1,∀ (i:Nat),i<kF0.length→(kF0.getD i ua).tc=(Iln.mk []).tc]) (hv:=W111)
 refine tz [22,21,20,3,2,0] ?_
 refine Q3 Qal (Qpu X (by first | assumption | decide)) [11,1000001,12,0,13,2] ?_ [0,2,3,6,8,9] [kSh.length=1,(0:Nat)=0,kGs.length=1,kF0.length=1,kAl.length=1,∀ (i:Nat),i<kAl.length→(kAl.getD i ua).tc=if i=0 then (Alc.mk [zcZ] (0:Int)).tc else fun x=>TC.any] W70
 refine tz [23,3,2,0] ?_
 refine Q0 (!decide ((0:Int)=(0:Int))||!decide ((0:Int)=(0:Int))||!decide ((1:Int)=(1:Int))) (fun h1=>?_) (fun h1=>?_) (vc:=[(!decide ((0:Int)=(0:Int))||!decide ((0:Int)=(0:Int))||!decide ((1:Int)=(1:Int)))=false→(0:Int)≤(0:Int),(!decide ((0:Int)=(0:Int))||!decide ((0:Int)=(0:Int))||!decide ((1:Int)=(1:Int)))=false→(0:Int)<(1:Int)]) (hv:=W28)
 ·exact Bool.noConfusion (show true=false from h1.symm.trans (show _=false from by kernel_rfl))
 ·refine Qv 8 (0) ?_ (vc:=[0<1]) (hv:=W28)
  refine tz [42,38,4,2,0] ?_
  refine Q0 (!decide ((6:Int)=(6:Int))||!decide ((4:Int)=(4:Int))||!decide ((1:Int)=(1:Int))) (fun h2=>?_) (fun h2=>?_) (vc:=[0=0,(!decide ((6:Int)=(6:Int))||!decide ((4:Int)=(4:Int))||!decide ((1:Int)=(1:Int)))=false→(0:Int)≤(0:Int),(!decide ((6:Int)=(6:Int))||!decide ((4:Int)=(4:Int))||!decide ((1:Int)=(1:Int)))=false→(0:Int)<(1:Int)]) (hv:=W28)
  ·exact Bool.noConfusion (show true=false from h2.symm.trans (show _=false from by kernel_rfl))
  ·refine Qv 16 (0) ?_ (vc:=[0<1]) (hv:=W28)
   refine tz [59,57,2,0] ?_
   refine Q3 Q4e (Qps ((Iln.mk zcE).l) zcE) [18,19] ?_ [0,2,3] [zcE.length=4,zcE.length=4,∀ (i:Nat),i < zcE.length→i64T (zcE.getD i 0)=rowT 1 [zcp,zdr,zds,jg ja (4:Int)] i] W70 (vc:=[0=0]) (hv:=W28)
   refine tz [62,57,2,0] ?_
   refine Q0 (!decide ((Iln.mk zcE).l=zcE)) (fun h3=>?_) (fun h3=>?_)
   ·exact Bool.noConfusion (show true=false from h3.symm.trans (show _=false from by kernel_rfl))
   ·exact Q2 (vc:=[(0:Int)≤(0:Int),(0:Int)<(1:Int),0=0,(0:Int)≤(0:Int),(0:Int)<(6:Int),0<6,(decide (zco.kind=(1:Int))&&(decide (zco.op=(0:Int))&&(decide (zco.d=(13:Int))&&(decide (zco.a=(0:Int))&&(decide (zco.b=(0:Int))&&(decide (zco.addr=(0:Int))&&(decide (zco.to=(0:Int))&&(decide (zco.word=(5:Int))&&(decide (zco.from_=(1:Int))&&true)))))))))=true→(0:Int)≤(2:Int),(decide (zco.kind=(1:Int))&&(decide (zco.op=(0:Int))&&(decide (zco.d=(13:Int))&&(decide (zco.a=(0:Int))&&(decide (zco.b=(0:Int))&&(decide (zco.addr=(0:Int))&&(decide (zco.to=(0:Int))&&(decide (zco.word=(5:Int))&&(decide (zco.from_=(1:Int))&&true)))))))))=true→(2:Int)<(6:Int),(decide (zco.kind=(1:Int))&&(decide (zco.op=(0:Int))&&(decide (zco.d=(13:Int))&&(decide (zco.a=(0:Int))&&(decide (zco.b=(0:Int))&&(decide (zco.addr=(0:Int))&&(decide (zco.to=(0:Int))&&(decide (zco.word=(5:Int))&&(decide (zco.from_=(1:Int))&&true)))))))))=true→2<6,(decide (zco.kind=(1:Int))&&(decide (zco.op=(0:Int))&&(decide (zco.d=(13:Int))&&(decide (zco.a=(0:Int))&&(decide (zco.b=(0:Int))&&(decide (zco.addr=(0:Int))&&(decide (zco.to=(0:Int))&&(decide (zco.word=(5:Int))&&(decide (zco.from_=(1:Int))&&true))))))))&&(decide (zcq.kind=(6:Int))&&(decide (zcq.op=(0:Int))&&(decide (zcq.d=(0:Int))&&(decide (zcq.a=(0:Int))&&(decide (zcq.b=(0:Int))&&(decide (zcq.addr=(0:Int))&&(decide (zcq.to=(0:Int))&&(decide (zcq.word=(0:Int))&&(decide (zcq.from_=(2:Int))&&true))))))))))=true→(0:Int)≤(5:Int),(decide (zco.kind=(1:Int))&&(decide (zco.op=(0:Int))&&(decide (zco.d=(13:Int))&&(decide (zco.a=(0:Int))&&(decide (zco.b=(0:Int))&&(decide (zco.addr=(0:Int))&&(decide (zco.to=(0:Int))&&(decide (zco.word=(5:Int))&&(decide (zco.from_=(1:Int))&&true))))))))&&(decide (zcq.kind=(6:Int))&&(decide (zcq.op=(0:Int))&&(decide (zcq.d=(0:Int))&&(decide (zcq.a=(0:Int))&&(decide (zcq.b=(0:Int))&&(decide (zcq.addr=(0:Int))&&(decide (zcq.to=(0:Int))&&(decide (zcq.word=(0:Int))&&(decide (zcq.from_=(2:Int))&&true))))))))))=true→(5:Int)<(6:Int),(decide (zco.kind=(1:Int))&&(decide (zco.op=(0:Int))&&(decide (zco.d=(13:Int))&&(decide (zco.a=(0:Int))&&(decide (zco.b=(0:Int))&&(decide (zco.addr=(0:Int))&&(decide (zco.to=(0:Int))&&(decide (zco.word=(5:Int))&&(decide (zco.from_=(1:Int))&&true))))))))&&(decide (zcq.kind=(6:Int))&&(decide (zcq.op=(0:Int))&&(decide (zcq.d=(0:Int))&&(decide (zcq.a=(0:Int))&&(decide (zcq.b=(0:Int))&&(decide (zcq.addr=(0:Int))&&(decide (zcq.to=(0:Int))&&(decide (zcq.word=(0:Int))&&(decide (zcq.from_=(2:Int))&&true))))))))))=true→5<6]) (hv:=W28)
theorem Qrq (a:Alc):Ctr jb 34 [Plc.rowR a.places] [.agg (a.cs 0)]
 (Det (.c (.b (celB a.cells))) [.dead]):=by
 refine Ctr.intro [] Tryz.func34 K K ?_
 exact Q2 [] [0] [celB a.cells=(decide (a.cells<(0:Int))||decide ((4160:Int)<a.cells))] (by simp only [Conj];rfl)
def wu (al:List Alc):Lp (Int×Int):=⟨fun x=>{ N:=19,fr:=[se 8 (C.i .i64 x.1),se 7 (C.i .i64 (↑al.length:Int)),se 4 (C.i .i64 x.2),se 0 (C.h 0),se 1 (C.fn 34 false [])],rg:=[rowOf 2 (·.tc) al],wr:=[] },fun x=>0≤x.1∧x.1≤(al.length:Int)∧∀ j:Nat,j<x.1.toNat→celB (al.getD j ua).cells=false,fun x=>((al.length:Int)-x.1).toNat⟩
abbrev zdf (y0:List Alc) (y1:Int):Alc:=y0.getD y1.toNat ua
theorem Qrk (al:List Alc):Ctr jb 52 [Alc.rowR al] [.c (.h 0),.c (.fn 34 false [])]
 (DetE (fun y:Int=>decide (0≤y)=acB al) (fun y=>zc8 y) (fun _=>[.dead])):=by
 refine Ctr.intro [] Tryz.func52 K K ?_
 refine RunF.lens 0 (m:=al.length) K (fun hlens_0=>?_)
 refine Q6 (wu al) (((0:Int),(0:Int))) (⟨jz _,by omega,fun j hj=>absurd hj W162⟩) ?_
 rintro ⟨ud,ui⟩ hJ1
 dsimp only [wu] at hJ1
 refine tz [8,7,4,0,1] ?_
 refine Q0 (decide (ud<(↑al.length:Int))) (fun h2=>?_) (fun h2=>?_)
 ·refine Qv 0 (ud.toNat) ?_ (vc:=[ud.toNat<al.length]) (hv:=W28)
  refine tz [8,7,4,0,1] ?_
  refine Q3 Qam (Qrq (al.getD ud.toNat ua)) [1] ?_ (vc:=[(0:Int)≤ud,ud<(↑al.length:Int),ud.toNat=ud.toNat]) (hv:=W28)
  refine tz [16,5,8,7,4,0,1] ?_
  refine Q0 (celB (al.getD ud.toNat ua).cells) (fun h3=>?_) (fun h3=>?_)
  ·exact Q2 (res:=_) (post:=_) (hS:=⟨ud,W157,rfl,rfl⟩)
  ·exact Q4 (wu al) (ud,ui) ((ud+(1:Int),ui)) (by dsimp only [wu];exact W228) (⟨by have z:=hJ1.1;omega,by have q:=ub h2;omega,Qdi hJ1.2.2 hJ1.1 h3⟩) (vc:=([Fits ja (ud+(1:Int))])) (hv:=W28)
 ·exact Q2 (res:=_) (post:=_) (hS:=⟨(-1:Int),W157,rfl,rfl⟩)
theorem Qpv (al:List Alc):Ctr jb 33 [Alc.rowR al] [.c (.h 0),.c (.fn 34 false [])]
 (Det (.c (.b (acB al))) [.dead]):=by
 refine Ctr.intro [] Tryz.func33 K K ?_
 refine Qk Q02 (Qrk al) [] ?_
 rintro ud hY1
 try dsimp only at hY1
 exact Q2 [] [0] [acB al=decide ((0:Int)≤ud)] (by simp only [Conj];exact hY1.symm)
theorem Qnq (sh lk:List Dcl) (gs:List Grf) (hs:zy sh) (hl:zy lk) (hg:zT gs) (hw:UnitW gs) (x:Int):Ctr jb 16 (zbr sh lk gs) [zc4,zc8 x]
 (Det (.tup [(false,[.i .i64 (lokU sh lk gs x).1]),(false,[.i .i64 (lokU sh lk gs x).2])]) zb2):=by
 refine Ctr.intro [] Tryz.func16 K K ?_
 refine Q3 Z2 (Gj sh lk gs W37 W37 W37 W37) [] ?_
 refine tz [11,5,4,2,1] ?_
 refine Q0 (!decide ((chkU sh lk gs).fst=(0:Int))) (fun h1=>?_) (fun h1=>?_)
 ·exact Q2 [] [0,1] [(lokU sh lk gs x).fst=(0:Int),(lokU sh lk gs x).snd=(chkU sh lk gs).fst] W104
 ·refine tz [5,4,2,1] ?_
  refine Q0 (decide (x<(0:Int))||decide ((↑lk.length:Int)≤x)) (fun h2=>?_) (fun h2=>?_)
  ·exact Q2 [] [0,1] [(lokU sh lk gs x).fst=(0:Int),(lokU sh lk gs x).snd=(2:Int)] W104
  ·exact Q2 [] [0,1] [(lokU sh lk gs x).fst=(↑sh.length:Int)+x,(lokU sh lk gs x).snd=(0:Int)] W104 (vc:=[Fits ja ((↑sh.length:Int)+x)]) (hv:=W142)
theorem Qnr (sh lk:List Dcl) (gs:List Grf) (hs:zy sh) (hl:zy lk) (hg:zT gs) (hw:UnitW gs) (x:Int):Ctr jb 17 (zbr sh lk gs) [zc4,zc8 x]
 (Det (.tup [(false,[.i .i64 (lokU sh lk gs x).1]),(false,[.i .i64 (lokU sh lk gs x).2])]) zb2):=by
 refine Ctr.intro [] Tryz.func17 K K ?_
 refine Q3 J1 (Q92 sh lk gs W37 W37 W37 W37) [] ?_
 refine tz [11,5,4,2,1] ?_
 refine Q0 (!decide ((chkU sh lk gs).fst=(0:Int))) (fun h1=>?_) (fun h1=>?_)
 ·exact Q2 [] [0,1] [(lokU sh lk gs x).fst=(0:Int),(lokU sh lk gs x).snd=(chkU sh lk gs).fst] W104
 ·refine tz [5,4,2,1] ?_
  refine Q0 (decide (x<(0:Int))||decide ((↑lk.length:Int)≤x)) (fun h2=>?_) (fun h2=>?_)
  ·exact Q2 [] [0,1] [(lokU sh lk gs x).fst=(0:Int),(lokU sh lk gs x).snd=(2:Int)] W104
  ·exact Q2 [] [0,1] [(lokU sh lk gs x).fst=(↑sh.length:Int)+x,(lokU sh lk gs x).snd=(0:Int)] W104 (vc:=[Fits ja ((↑sh.length:Int)+x)]) (hv:=W142)
abbrev zaA (y0:Int) (y1:List Alc) (y2:Int):List Prop:=[(decide (y0<(0:Int))||decide ((↑y1.length:Int)≤y0)||decide (y2<(0:Int)))=false→(0:Int)≤y0,(decide (y0<(0:Int))||decide ((↑y1.length:Int)≤y0)||decide (y2<(0:Int)))=false→y0<(↑y1.length:Int),(decide (y0<(0:Int))||decide ((↑y1.length:Int)≤y0)||decide (y2<(0:Int)))=false→y0.toNat<y1.length]
abbrev zbT (y0:Int) (y1 y2:List Dcl) (y3:List Alc) (y4:Int):List Prop:=[(0:Int)≤y0,y0<(↑(mAt y1 y2 y3 y3.length).length:Int),y0.toNat<(mAt y1 y2 y3 y3.length).length,Fits ja ((mAt y1 y2 y3 y3.length).getD y0.toNat 0+y4)]
theorem Qpw (sh lk:List Dcl) (gs:List Grf) (hs:zy sh) (hl:zy lk) (hg:zT gs) (hw:UnitW gs) (al:List Alc) (t c:Int):Ctr jb 18 (zbS sh lk gs al) [zc4,.c (.h 3),zc8 t,zc8 c]
 (Det (.tup [(false,[.i .i64 (celU sh lk gs al t c).1]),(false,[.i .i64 (celU sh lk gs al t c).2])]) zbC):=by
 refine Ctr.intro [] Tryz.func18 K K ?_
 refine Q3 Z2 (Gj sh lk gs W103 W103 W103 W103) [] ?_
 refine tz [18,9,8,4,1,2,3] ?_
 refine Q0 (!decide ((chkU sh lk gs).fst=(0:Int))) (fun h1=>?_) (fun h1=>?_)
 ·exact Q2 [] [0,1] [(celU sh lk gs al t c).fst=(0:Int),(celU sh lk gs al t c).snd=(chkU sh lk gs).fst] W106
 ·refine tz [9,8,4,1,2,3] ?_
  refine Q3 J4 (Qpv al) [3] ?_
  refine tz [26,9,8,4,1,2,3] ?_
  refine Q0 (!decide ((↑al.length:Int)=(↑gs.length:Int))||acB al) (fun h2=>?_) (fun h2=>?_)
  ·exact Q2 [] [0,1] [(celU sh lk gs al t c).fst=(0:Int),(celU sh lk gs al t c).snd=(150:Int)] W106
  ·refine tz [9,8,4,1,2,3] ?_
   refine Q0 (decide (t<(0:Int))||decide ((↑al.length:Int)≤t)||decide (c<(0:Int))||decide ((zdf al t).cells≤c)) (fun h3=>?_) (fun h3=>?_) (vc:=(zaA t al c)) (hv:=W107)
   ·exact Q2 [] [0,1] [(celU sh lk gs al t c).fst=(0:Int),(celU sh lk gs al t c).snd=(2:Int)] W106
   ·refine tz [9,8,4,1,2,3] ?_
    refine Q3 Q3k (Qbk sh lk gs al W103 W103 W103 W103) [] ?_
    exact Q2 [] [0,1] [(celU sh lk gs al t c).fst=(mAt sh lk al al.length).getD t.toNat 0+c,(celU sh lk gs al t c).snd=(0:Int)] W106 (vc:=(zbT t sh lk al c)) (hv:=W107)
def wv (sh:List Dcl) (lk:List Dcl) (gs:List Grf) (al:List Alc):Lp (Int×Int×List Int):=⟨fun x=>{ N:=34,fr:=[se 19 (C.i .i64 x.1),se 18 (C.i .i64 (↑al.length:Int)),se 17 (C.h 3),se 7 (C.i .i64 x.2.1),se 6 (C.h 5),se 5 (C.i .i64 0),zaH],rg:=[rowOf 3 (·.tc) sh,rowOf 3 (·.tc) lk,rowOf 4 (·.tc) gs,rowOf 2 (·.tc) al,zP]++[IntOwn x.2.2],wr:=[] },fun x=>BasJ sh lk al x.1 x.2.1 x.2.2,fun x=>((al.length:Int)-x.1).toNat⟩
theorem Qns (sh lk:List Dcl) (gs:List Grf) (al:List Alc) (hsl:sh.length≤1000000) (hll:lk.length≤1000000) (hal:al.length≤1000) (hac:zbU al):Ctr jb 23 (zbS sh lk gs al) [zc4,.c (.h 3)]
 (Det (.tup [(false,[.h 4]),(false,[.i .i64 ((memL sh lk al al.length).length:Int)])]) [.dead,.dead,.dead,.dead,IntOwn (mAt sh lk al al.length)]):=by
 refine Ctr.intro [] Tryz.func23 K K ?_
 refine Q6 (wv sh lk gs al) (((0:Int),(↑sh.length:Int)+(↑lk.length:Int),[])) (Qr7 _ _ _) ?_ [0,1,2,3,4,1000005] [8] [(0:Nat)=0] W20 (vc:=[Fits ja ((↑sh.length:Int)+(↑lk.length:Int))]) (hv:=W105)
 rintro ⟨ud,ui,uf⟩ hJ1
 dsimp only [wv] at hJ1
 refine tz [19,18,17,7,6,5,4] ?_
 refine Q0 (decide (ud<(↑al.length:Int))) (fun h2=>?_) (fun h2=>?_)
 ·refine Qv 3 (ud.toNat) ?_ (vc:=[ud.toNat<al.length]) (hv:=W105)
  exact Q4 (wv sh lk gs al) (ud,ui,uf) ((ud+(1:Int),ui+(al.getD ud.toNat ua).cells,uf++[ui])) (by dsimp only [wv];exact W228) (Qjn hJ1 (ub h2) (hac ud.toNat W228).1) [0,1,2,3,4,9] [8,9,10] ([(uf++[ui]).length=uf.length+1,∀ (i:Nat),i<(uf++[ui]).length→i≠uf.length→i64T ((uf++[ui]).getD i 0)=i64T (uf.getD i 0),i64T ((uf++[ui]).getD uf.length 0) 0=TC.val (jg ja ui)]) W20 (vc:=[(0:Int)≤ud,ud<(↑al.length:Int),ud.toNat=ud.toNat,uf.length+1≤maxLen,(uf.length+1) * 8≤140737488355328,Fits ja (ui+(al.getD ud.toNat ua).cells),Fits ja (ud+(1:Int))]) (hv:=W105)
 ·exact Q2 [0,1,2,3,5] [0,1,2] [(mAt sh lk al al.length).length=uf.length,∀ (i:Nat),i<(mAt sh lk al al.length).length→i64T ((mAt sh lk al al.length).getD i 0)=i64T (uf.getD i 0),(↑(memL sh lk al al.length).length:Int)=ui] (by simp only [Conj];have q:=uc h2;have z0:=hJ1.1;have z1:=hJ1.2.1;have e:ud.toNat=al.length:=(by omega);have e1:=hJ1.2.2.1;have e2:=hJ1.2.2.2;rw [e] at e1 e2;subst e1 e2;(repeat' apply jl)<;>first | trivial | (intros;trivial))
def ww (sh:List Dcl) (lk:List Dcl) (gs:List Grf) (al:List Alc) (t:Int) (c:Int):Lp (Int×Int×Int):=⟨fun x=>{ N:=80,fr:=[se 34 (C.i .i64 x.1),se 33 (C.i .i64 (↑al.length:Int)),se 32 (C.h 3),se 9 (C.i .i64 x.2.1),se 8 (C.i .i64 x.2.2),se 4 (C.p 4 0),se 1 (C.h 3),se 2 (C.i .i64 t),zcg c],rg:=[rowOf 3 (·.tc) sh,rowOf 3 (·.tc) lk,rowOf 4 (·.tc) gs,rowOf 2 (·.tc) al,zP],wr:=[] },fun x=>0≤x.1∧x.1≤(al.length:Int)∧∀ j:Nat,j<x.1.toNat→celB (al.getD j ua).cells=false,fun x=>((al.length:Int)-x.1).toNat⟩
theorem Qpx (sh lk:List Dcl) (gs:List Grf) (hs:zy sh) (hl:zy lk) (hg:zT gs) (hw:UnitW gs) (al:List Alc) (t c:Int):Ctr jb 19 (zbS sh lk gs al) [zc4,.c (.h 3),zc8 t,zc8 c]
 (Det (.tup [(false,[.i .i64 (celU sh lk gs al t c).1]),(false,[.i .i64 (celU sh lk gs al t c).2])]) zbC):=by
 refine Ctr.intro [] Tryz.func19 K K ?_
 refine RunF.lens 3 (m:=al.length) K (fun hlens_3=>?_)
 refine Q3 J1 (Q92 sh lk gs W93 W93 W93 W93) [] ?_
 refine tz [19,9,8,4,1,2,3] ?_
 refine Q0 (!decide ((chkU sh lk gs).fst=(0:Int))) (fun h1=>?_) (fun h1=>?_)
 ·exact Q2 [] [0,1] [(celU sh lk gs al t c).fst=(0:Int),(celU sh lk gs al t c).snd=(chkU sh lk gs).fst] W50
 ·refine tz [9,8,4,1,2,3] ?_
  refine Q0 (!decide ((↑al.length:Int)=(↑gs.length:Int))) (fun h2=>?_) (fun h2=>?_)
  ·exact Q2 [] [0,1] [(celU sh lk gs al t c).fst=(0:Int),(celU sh lk gs al t c).snd=(150:Int)] W50
  ·refine tz [9,8,4,1,2,3] ?_
   refine Q6 (ww sh lk gs al t c) (((0:Int),(0:Int),(0:Int))) (⟨jz _,by omega,fun j hj=>absurd hj W162⟩) ?_
   rintro ⟨ug,um,uq⟩ hJ3
   dsimp only [ww] at hJ3
   refine tz [34,33,32,9,8,4,1,2,3] ?_
   refine Q0 (decide (ug<(↑al.length:Int))) (fun h4=>?_) (fun h4=>?_)
   ·refine Qv 3 (ug.toNat) ?_ (vc:=[ug.toNat<al.length]) (hv:=W43)
    refine tz [34,33,32,9,8,4,1,2,3] ?_
    refine Q0 (decide ((zdf al ug).cells<(0:Int))||decide ((4160:Int)<(zdf al ug).cells)) (fun h5=>?_) (fun h5=>?_) (vc:=[(0:Int)≤ug,ug<(↑al.length:Int),ug.toNat=ug.toNat]) (hv:=W43)
    ·exact Q2 [] [0,1] [(celU sh lk gs al t c).fst=(0:Int),(celU sh lk gs al t c).snd=(150:Int)] W50
    ·exact Q4 (ww sh lk gs al t c) (ug,um,uq) ((ug+(1:Int),um,uq)) (by dsimp only [ww];exact W230) (⟨by have z:=hJ3.1;omega,by have q:=ub h4;omega,Qdi hJ3.2.2 hJ3.1 h5⟩) (vc:=(zF ug)) (hv:=W43)
   ·refine tz [34,33,32,9,8,4,1,2,3] ?_
    refine Q0 (decide (t<(0:Int))||decide ((↑al.length:Int)≤t)||decide (c<(0:Int))||decide ((zdf al t).cells≤c)) (fun h5=>?_) (fun h5=>?_) (vc:=(zaA t al c)) (hv:=W43)
    ·exact Q2 [] [0,1] [(celU sh lk gs al t c).fst=(0:Int),(celU sh lk gs al t c).snd=(2:Int)] W50
    ·refine tz [9,8,4,1,2,3] ?_
     refine Q3 Q3j (Qns sh lk gs al W93 W93 W93 W93) [] ?_
     exact Q2 [] [0,1] [(celU sh lk gs al t c).fst=(mAt sh lk al al.length).getD t.toNat 0+c,(celU sh lk gs al t c).snd=(0:Int)] W50 (vc:=(zbT t sh lk al c)) (hv:=W43)
theorem Qht (X:Ext) (hX:TabX X) (sh lk:List Dcl) (gs:List Grf) (hs:zy sh) (hl:zy lk) (hg:zT gs) (hw:UnitW gs) (al:List Alc) (x t c:Int):Ctr jb 5 [Dcl.rowR sh,Dcl.rowR lk,Grf.rowR gs,.froz X,Alc.rowR al] [zc4,.c (.h 4),zc8 x,zc8 t,zc8 c]
 (Det (.c (.b true)) [.dead,.dead,.dead,.dead,.dead]):=by
 refine Ctr.intro [] Tryz.func5 K K ?_
 refine Q3 Qee (Qnq sh lk gs W37 W37 W37 W37 x) [] ?_
 refine tz [22,10,5,1,2,3,4] ?_
 refine Q3 Q4k (Qnr sh lk gs W37 W37 W37 W37 x) [] ?_
 refine tz [28,12,11,10,5,1,3,4] ?_
 refine Q3 Qef (Qpw sh lk gs W37 W37 W37 W37 al t c) [0,1,2,4] ?_
 refine tz [36,14,13,12,11,10,5,1,3,4] ?_
 refine Q3 Q4l (Qpx sh lk gs W37 W37 W37 W37 al t c) [0,1,2,4] ?_
 refine tz [44,16,15,14,13,12,11,10] ?_
 refine Q3 Q3i (Qhs X W37) [3] ?_
 exact Q2 [] [0] [true=(true&&decide ((lokU sh lk gs x).fst=(lokU sh lk gs x).fst)&&decide ((lokU sh lk gs x).snd=(lokU sh lk gs x).snd)&&decide ((celU sh lk gs al t c).fst=(celU sh lk gs al t c).fst)&&decide ((celU sh lk gs al t c).snd=(celU sh lk gs al t c).snd))] (by simp only [Conj];simp)
section
inductive Sh where
 | num (k:IntKind)
 | str
 | boo
 | sl (e size:Nat) (el:List Sh)
mutual
/-- the cells of a type -/
inductive ShT (P:Program):Nat→List Sh→Prop
 | int {t:Nat} {k:IntKind} (ht:P.underlying t=some (.int k)):ShT P t [.num k]
 | str {t:Nat} (ht:P.underlying t=some .string):ShT P t [.str]
 | bool {t:Nat} (ht:P.underlying t=some .bool):ShT P t [.boo]
 | slice {t e:Nat} {el:List Sh} (ht:P.underlying t=some (.slice e)) (hc:P.cellsOf e=el.length) (hp:0<el.length) (h:ShT P e el):ShT P t [.sl e el.length el]
 | struct {t:Nat} {fs:Array Field} {ss:List Sh} (ht:P.underlying t=some (.struct fs)) (hc:P.cellsOf t=ss.length) (h:ShF P 0 fs.toList ss):ShT P t ss
/-- .. of fields,the first of which lies at cell i -/
inductive ShF (P:Program):Nat→List Field→List Sh→Prop
 | nil {i:Nat}:ShF P i [] []
 | cons {i:Nat} {f:Field} {fs:List Field} {s1 s2:List Sh} (ho:f.offset=i) (hc:P.cellsOf f.type=s1.length) (h:ShT P f.type s1) (r:ShF P (i+s1.length) fs s2):ShF P i (f::fs) (s1++s2)
end
inductive ShC:Sh→TC→Prop
 | num {k:IntKind} (n:Int) (h:(Lit.int k n).wf=true):ShC (.num k) (.val (.int k n))
 | str (x:ByteArray) (h:x.size≤maxLen):ShC .str (.val (.string x))
 | boo (x:Bool):ShC .boo (.val (.bool x))
 | sl {e size:Nat} {el:List Sh} (n:Nat) (g:Nat→List TC) (hn:n≤maxLen) (hl:∀ i,i<n→(g i).length=el.length) (h:∀ (i j:Nat) (s:Sh) (c:TC),i<n→el[j]?=some s→(g i)[j]?=some c→ShC s c) :
    ShC (.sl e size el) (.sub e size n (fun i=>nthT (g i)))
def ShL (ss:List Sh) (tl:List TC):Prop:=tl.length=ss.length∧∀ (j:Nat) (s:Sh) (c:TC),ss[j]?=some s→tl[j]?=some c→ShC s c
def inW (w:World) (b:Nat):Prop:=b<w.heap.size
def Holds (w:World) (tl:List TC) (cs:List Value):Prop:=∀ (j:Nat) (c:TC) (u:Value),tl[j]?=some c→cs[j]?=some u→RdC w (inW w) c u
theorem Q5x {tl:List TC} {j:Nat} {c:TC} (h:tl[j]?=some c):nthT tl j=c:=by
 unfold nthT;rw [Ql,h]
theorem Qf9 {w:World} {a:Addr} {u:Value} (h:w.cell? a=some u):a.block<w.heap.size:=by
 rcases kL a.block w.heap.size with h1 | h1
 ·exact h1
 ·unfold World.cell? at h
  rw [Array.getElem?_eq_none h1] at h
  simp at h
section
variable {H:Type} {enc:TypeId×Value→H} {P:Program} {w:World}
mutual
theorem Qfa:∀ {t:Nat} {ss:List Sh},ShT P t ss→∀ {n:Nat} {cs:List Value} {x:DataW H×List MemPlace},DataW.trod enc P w 0 (fun _=>true) true n t cs=some x →
 cs.length=ss.length∧∃ tl:List TC,ShL ss tl∧Holds w tl cs
 | t,_,(.int (k:=k) ht),n,cs,x,h=>by
   obtain ⟨m,rfl,_,hw⟩:=DataW.trod_int ht h
   refine ⟨rfl,[.val (.int k m)],⟨rfl,fun j s c hs hc=>?_⟩,fun j c u hc hu=>?_⟩
   ·match j,hs,hc with
    | 0,hs,hc=>cases hs;cases hc;exact .num m hw
    | j+1,hs,_=>simp at hs
   ·match j,hc,hu with
    | 0,hc,hu=>cases hc;cases hu;rfl
    | j+1,hc,_=>simp at hc
 | t,_,(.str ht),n,cs,x,h=>by
   obtain ⟨m,rfl,_,hw⟩:=DataW.trod_string ht h
   refine ⟨rfl,[.val (.string m)],⟨rfl,fun j s c hs hc=>?_⟩,fun j c u hc hu=>?_⟩
   ·match j,hs,hc with
    | 0,hs,hc=>cases hs;cases hc;exact .str m hw
    | j+1,hs,_=>simp at hs
   ·match j,hc,hu with
    | 0,hc,hu=>cases hc;cases hu;rfl
    | j+1,hc,_=>simp at hc
 | t,_,(.bool ht),n,cs,x,h=>by
   obtain ⟨m,rfl,_⟩:=DataW.trod_bool ht h
   refine ⟨rfl,[.val (.bool m)],⟨rfl,fun j s c hs hc=>?_⟩,fun j c u hc hu=>?_⟩
   ·match j,hs,hc with
    | 0,hs,hc=>cases hs;cases hc;exact .boo m
    | j+1,hs,_=>simp at hs
   ·match j,hc,hu with
    | 0,hc,hu=>cases hc;cases hu;rfl
    | j+1,hc,_=>simp at hc
 | t,_,(.slice (e:=e) (el:=el) ht hce hpos he),n,cs,x,h=>by
   have key:∀ (v:Value) (m:Nat) (g:Nat→List TC),m≤maxLen→(∀ i,i<m→ShL el (g i))→RdC w (inW w) (.sub e el.length m fun i=>nthT (g i)) v →
    ([v]:List Value).length=([.sl e el.length el]:List Sh).length∧∃ tl:List TC,ShL [.sl e el.length el] tl∧Holds w tl [v]:=fun v m g hn hg hv=>by
    refine ⟨rfl,[.sub e el.length m fun i=>nthT (g i)],⟨rfl,fun j s c hs hc=>?_⟩,fun j c u hc hu=>?_⟩
    ·match j,hs,hc with
     | 0,hs,hc=>cases hs;cases hc;exact .sl m g hn (fun i hi=>(hg i hi).1) (fun i j s c hi h1 h2=>(hg i hi).2 j s c h1 h2)
     | j+1,hs,_=>simp at hs
    ·match j,hc,hu with
     | 0,hc,hu=>cases hc;cases hu;exact hv
     | j+1,hc,_=>simp at hc
   rcases Go.Deep.open_slice ht h with ⟨rfl,_⟩ | ⟨a,len,cap,m,n',D,Pl,rfl,_,hlc,hcm,hm,_,hel⟩
   ·refine key _ 0 (fun _=>[]) (j9 _) (fun i hi=>absurd hi (Nat.not_lt_zero _)) ⟨none,0,rfl,jn _,by simp [maxLen],fun a ha _=>(by cases ha),fun h=>absurd h (Nat.lt_irrefl _)⟩
   ·have hm':m=cap:=by simpa using hm
    subst hm'
    have hall:∀ i,i<len→∃ tl:List TC,ShL el tl∧∃ cs',w.cells? 0 (a.add (i * P.cellsOf e)) (P.cellsOf e)=some cs'∧Holds w tl cs':=fun i hi=>by
     obtain ⟨cs',h1,h2⟩:=hel i (jO hi hlc)
     obtain ⟨h3,tl,h4,h5⟩:=Qfa he h2
     exact ⟨tl,h4,cs',h1,h5⟩
    obtain ⟨g,hg⟩:=Go.Deep.choose_lt hall
    refine key _ len g (kr hlc hcm) (fun i hi=>(hg i hi).1) ⟨some a,m,rfl,hlc,hcm,fun ad had hp=>?_,fun hp=>⟨a,rfl,fun i j hi hj=>?_⟩⟩
    ·cases had
     obtain ⟨_,cs',h2,_⟩:=hg 0 hp
     have:=World.cells?_block h2 (by rw [hce];exact hpos)
     rw [Gu] at this
     exact ⟨this,this⟩
    ·obtain ⟨h1,cs',h2,h3⟩:=hg i hi
     obtain ⟨_,h4,h5⟩:=World.cells?_some h2
     have hjl:j<cs'.length:=by rw [h4,hce];exact hj
     refine ⟨cs'[j],?_,?_⟩
     ·rw [hce] at h5
      have:=h5 j hj
      rw [Y5] at this
      rw [this,jd hjl]
     ·have hjt:j<(g i).length:=by rw [h1.1];exact hj
      show RdC w (inW w) (nthT (g i) j) _
      rw [Q5x (jd hjt)]
      exact h3 j _ _ (jd hjt) (jd hjl)
 | t,_,(.struct (fs:=fs) (ss:=ss) ht hc hf),n,cs,x,h=>by
   obtain ⟨xs,n',_,_,hl,hxl,hx⟩:=DataW.trod_struct ht h
   refine ⟨by rw [hl,hc],?_⟩
   have:=Ql7 hf (n:=n') (cs:=cs) (fun f hm=>by
    obtain ⟨k,hk⟩:=List.getElem?_of_mem hm
    have hk':fs[k]?=some f:=by simpa using hk
    have hlt:k<xs.length:=by rw [hxl];exact (Array.getElem?_eq_some_iff.1 hk').1
    exact ⟨xs[k],by rw [hx k f hk',jd hlt]⟩) (by rw [hl,hc];omega)
   simpa using this
theorem Ql7:∀ {i:Nat} {fs:List Field} {ss:List Sh},ShF P i fs ss→∀ {n:Nat} {cs:List Value},(∀ f∈fs,∃ x,DataW.trod enc P w 0 (fun _=>true) true n f.type ((cs.drop f.offset).take (P.cellsOf f.type))=some x) →
 i+ss.length≤cs.length→∃ tl:List TC,ShL ss tl∧Holds w tl (cs.drop i)
 | _,_,_,.nil,n,cs,h,hl=>⟨[],⟨rfl,fun j s c hs=>by simp at hs⟩,fun j c u hc=>by simp at hc⟩
 | i,_,_,(.cons (f:=f) (fs:=fs) (s1:=s1) (s2:=s2) ho hc hT hr),n,cs,h,hl=>by
   simp only [jt] at hl
   obtain ⟨x,hx⟩:=h f (.head _)
   obtain ⟨h1,t1,h2,h3⟩:=Qfa hT hx
   obtain ⟨t2,h4,h5⟩:=Ql7 hr (n:=n) (cs:=cs) (fun f' hf'=>h f' (.tail _ hf')) W30
   refine ⟨t1++t2,⟨by rw [jt,jt,h2.1,h4.1],fun j s c hs hcj=>?_⟩,fun j c u hcj hu=>?_⟩
   ·by_cases hj:j<s1.length
    ·rw [jp hj] at hs
     rw [jp (by rw [h2.1];exact hj)] at hcj
     exact h2.2 j s c hs hcj
    ·rw [jA W30] at hs
     rw [jA (by rw [h2.1];omega),h2.1] at hcj
     exact h4.2 _ s c hs hcj
   ·by_cases hj:j<s1.length
    ·rw [jp (by rw [h2.1];exact hj)] at hcj
     refine h3 j c u hcj ?_
     rw [List.getElem?_take_of_lt (by rw [hc];exact hj),ho]
     exact hu
    ·rw [jA (by rw [h2.1];omega),h2.1] at hcj
     refine h5 _ c u hcj ?_
     rw [kj] at hu ⊢
     rw [show i+s1.length+(j-s1.length)=i+j by omega]
     exact hu
end
end
theorem Qhu {H:Type} {enc:TypeId×Value→H} {P:Program} {w:World} {t:Nat} {ss:List Sh} {v:Value} {d:DataW H} {p:List MemPlace} (hs:ShT P t ss) (h:DataW.Trod enc P w 0 (fun _=>true) true t v d p) :
 v.cells.toList.length=ss.length∧∃ tl:List TC,ShL ss tl∧Holds w tl v.cells.toList:=by
 obtain ⟨n,hn⟩:=h
 exact Qfa hs hn
def Imp (w:World) (a b:List TC):Prop:=∀ (j:Nat) (c:TC) (u:Value),a[j]?=some c→RdC w (inW w) c u→RdC w (inW w) (nthT b j) u
theorem Imp.of_eq {w:World} {a b:List TC} (h:a=b):Imp w a b:=fun j c u hj hu=>by
 subst h;rw [Q5x hj];exact hu
theorem Qnt {α:Type} [Inhabited α] {w:World} {tl:α→List TC} {Q:α→Prop} {n:Nat} {g:Nat→List TC} (h:∀ i,i<n→∃ x,Imp w (g i) (tl x)∧Q x) (hd:Q ua) :
 ∃ l:List α,l.length=n∧(∀ i,i<n→Imp w (g i) (tl (l.getD i ua)))∧∀ i,Q (l.getD i ua):=by
 obtain ⟨f,hf⟩:=Go.Deep.choose_lt h
 refine ⟨(jB n).map f,by simp,fun i hi=>?_,fun i=>?_⟩
 ·rw [jc,jm,ko hi]
  exact (hf i hi).1
 ·rw [jc,jm]
  by_cases hi:i<n
  ·rw [ko hi];exact (hf i hi).2
  ·rw [jY W138];exact hd
theorem Qdt {α:Type} [Inhabited α] {w:World} {e size:Nat} {el:List Sh} {c:TC} {tl:α→List TC} {Q:α→Prop} (hs:size=el.length) (h:ShC (.sl e size el) c) (hx:∀ t:List TC,ShL el t→∃ x,Imp w t (tl x)∧Q x) (hd:Q ua) :
 ∃ l:List α,l.length≤maxLen∧(∀ i,Q (l.getD i ua))∧∀ v,RdC w (inW w) c v→RdRow w (inW w) v size l.length (fun i j u=>RdC w (inW w) (nthT (tl (l.getD i ua)) j) u):=by
 cases h with
 | sl n g hn hl hg =>
   obtain ⟨l,h1,h2,h3⟩:=Qnt (tl:=tl) (Q:=Q) (n:=n) (g:=g) (w:=w) (fun i hi=>hx _ ⟨hl i hi,fun j s c h1 h2=>hg i j s c hi h1 h2⟩) hd
   refine ⟨l,by rw [h1];exact hn,h3,fun v hv=>?_⟩
   rw [h1]
   refine RdRow.map hv (jn _) (fun _ _ _=>rfl) (fun i j u hi hj hu=>?_)
   have hjl:j<(g i).length:=by rw [hl i hi,← hs];exact hj
   have:nthT (g i) j=(g i)[j]:=Q5x (jd hjl)
   have hu:RdC w (inW w) (nthT (g i) j) u:=hu
   rw [this] at hu
   exact h2 i hi j _ u (jd hjl) hu
theorem Q41 {α:Type} [Inhabited α] {w:World} {e size:Nat} {el:List Sh} {c:TC} {tl:α→List TC} {Q:α→Prop} (hs:size=el.length) (h:ShC (.sl e size el) c) (hx:∀ t:List TC,ShL el t→∃ x,Imp w t (tl x)∧Q x) (hd:Q ua) :
 ∃ l:List α,(∀ i,Q (l.getD i ua))∧∀ v,RdC w (inW w) c v→RdRow w (inW w) v size l.length (fun i j u=>RdC w (inW w) (nthT (tl (l.getD i ua)) j) u):=
 let ⟨l,_,h⟩:=Qdt hs h hx hd
 ⟨l,h⟩
end
theorem Ql8 {n:Int} (h:(Lit.int .u8 n).wf=true):0≤n∧n≤255:=by simpa [Lit.wf,IntKind.min,IntKind.max,IntKind.signed,IntKind.bits] using h
section
variable {H:Type} {enc:TypeId×Value→H} {W:World} {base:Nat}
theorem Q73 {ε:Env} {M:Nat→Prop} {v:Value} {size n:Nat} {f:Nat→Nat→TC} (h:RdRow W (inW W) v size n (fun i j u=>RdC W (inW W) (f i j) u)):RegOk ε M W ⟨v,inW W⟩ (.row size n f none):=⟨h,trivial⟩
theorem Qnu {ε:Env} {pre:List Reg} (hl:ε.length=pre.length) (hx:pre.all (fun r=>!r.excl)=true) (hf:∀ i,i<pre.length→ε.fp i=inW W) (h:∀ i r,pre[i]?=some r→RegOk ε (Base.at_ pre ε W).M W (ε.ent i) r) :
 RegsOk ε (Base.at_ pre ε W).M (Base.at_ pre ε W).L W pre:=by
 have hx':∀ (i:Nat) (r:Reg),pre[i]?=some r→r.excl=false:=fun i r hi=>by simpa using List.all_eq_true.1 hx r (jq hi)
 refine ⟨hl,h,fun i r hi hlv b hb=>?_,fun i r hi he=>?_,fun i j ri rj _ hi _ he=>?_⟩
 ·have hi':=(List.getElem?_eq_some_iff.1 hi).1
  have hb':b<W.heap.size:=by rw [hf i hi'] at hb;exact hb
  exact ⟨hb',.inr ⟨i,r,hi,hlv,hb⟩⟩
 ·rw [hx' i r hi] at he;cases he
 ·rw [hx' i ri hi] at he;cases he
end
abbrev shVl:List Sh:=[.boo,.num .i64,.num .i64]
theorem Qhv:ShT jb 99 shVl:=.struct Tryz.underlying99 (by kernel_rfl) (.cons (s1:=[.boo]) (s2:=[.num .i64,.num .i64]) rfl (by kernel_rfl) (.bool (by kernel_rfl)) (.cons (s1:=[.num .i64]) (s2:=[.num .i64]) rfl (by kernel_rfl) (.int (by kernel_rfl)) (.cons (s1:=[.num .i64]) (s2:=[]) rfl (by kernel_rfl) (.int (by kernel_rfl)) .nil)))
abbrev shDcl:List Sh:=[.str,.num .i64,.num .i64]
theorem Qdu:ShT jb 62 shDcl:=.struct Tryz.underlying62 (by kernel_rfl) (.cons (s1:=[.str]) (s2:=[.num .i64,.num .i64]) rfl (by kernel_rfl) (.str (by kernel_rfl)) (.cons (s1:=[.num .i64]) (s2:=[.num .i64]) rfl (by kernel_rfl) (.int (by kernel_rfl)) (.cons (s1:=[.num .i64]) (s2:=[]) rfl (by kernel_rfl) (.int (by kernel_rfl)) .nil)))
theorem Qhw {w:World} {t:List TC} (h:ShL shDcl t):∃ x:Dcl,Imp w t x.tl∧x.name.size≤maxLen:=by
 obtain ⟨hl,hc⟩:=h
 rcases t with _ | ⟨c0,_ | ⟨c1,_ | ⟨c2,_ | ⟨c3,t⟩⟩⟩⟩
 all_goals first | (exfalso;simp at hl;done) | skip
 have h0:=hc 0 _ _ rfl rfl
 have h1:=hc 1 _ _ rfl rfl
 have h2:=hc 2 _ _ rfl rfl
 cases h0 with | str n0 w0 =>
 cases h1 with | num n1 w1 =>
 cases h2 with | num n2 w2 =>
 exact ⟨⟨n0,n1,n2⟩,Imp.of_eq rfl,w0⟩
abbrev shNod:List Sh:=[.num .u8,.num .u8,.num .i64,.num .i64,.boo,.num .i64,.num .i64,.boo,.num .i64,.num .i64,.num .i64,.num .i64,.num .i64]
theorem Qnv:ShT jb 101 shNod:=.struct Tryz.underlying101 (by kernel_rfl) (.cons (s1:=[.num .u8]) (s2:=[.num .u8,.num .i64,.num .i64,.boo,.num .i64,.num .i64,.boo,.num .i64,.num .i64,.num .i64,.num .i64,.num .i64]) rfl (by kernel_rfl) (.int (by kernel_rfl)) (.cons (s1:=[.num .u8]) (s2:=[.num .i64,.num .i64,.boo,.num .i64,.num .i64,.boo,.num .i64,.num .i64,.num .i64,.num .i64,.num .i64]) rfl (by kernel_rfl) (.int (by kernel_rfl)) (.cons (s1:=[.num .i64]) (s2:=[.num .i64,.boo,.num .i64,.num .i64,.boo,.num .i64,.num .i64,.num .i64,.num .i64,.num .i64]) rfl (by kernel_rfl) (.int (by kernel_rfl)) (.cons (s1:=[.num .i64]) (s2:=[.boo,.num .i64,.num .i64,.boo,.num .i64,.num .i64,.num .i64,.num .i64,.num .i64]) rfl (by kernel_rfl) (.int (by kernel_rfl)) (.cons (s1:=[.boo,.num .i64,.num .i64]) (s2:=[.boo,.num .i64,.num .i64,.num .i64,.num .i64,.num .i64]) rfl (by kernel_rfl) (Qhv) (.cons (s1:=[.boo,.num .i64,.num .i64]) (s2:=[.num .i64,.num .i64,.num .i64]) rfl (by kernel_rfl) (Qhv) (.cons (s1:=[.num .i64]) (s2:=[.num .i64,.num .i64]) rfl (by kernel_rfl) (.int (by kernel_rfl)) (.cons (s1:=[.num .i64]) (s2:=[.num .i64]) rfl (by kernel_rfl) (.int (by kernel_rfl)) (.cons (s1:=[.num .i64]) (s2:=[]) rfl (by kernel_rfl) (.int (by kernel_rfl)) .nil)))))))))
def nodK (x:Nod):Prop:=0≤x.kind∧0≤x.op∧x.op≤255
theorem Q95:nodK default:=by unfold nodK;decide
theorem Qpy {w:World} {t:List TC} (h:ShL shNod t):∃ x:Nod,Imp w t x.tl∧nodK x:=by
 obtain ⟨hl,hc⟩:=h
 rcases t with _ | ⟨c0,_ | ⟨c1,_ | ⟨c2,_ | ⟨c3,_ | ⟨c4,_ | ⟨c5,_ | ⟨c6,_ | ⟨c7,_ | ⟨c8,_ | ⟨c9,_ | ⟨c10,_ | ⟨c11,_ | ⟨c12,_ | ⟨c13,t⟩⟩⟩⟩⟩⟩⟩⟩⟩⟩⟩⟩⟩⟩
 all_goals first | (exfalso;simp at hl;done) | skip
 have h0:=hc 0 _ _ rfl rfl
 have h1:=hc 1 _ _ rfl rfl
 have h2:=hc 2 _ _ rfl rfl
 have h3:=hc 3 _ _ rfl rfl
 have h4:=hc 4 _ _ rfl rfl
 have h5:=hc 5 _ _ rfl rfl
 have h6:=hc 6 _ _ rfl rfl
 have h7:=hc 7 _ _ rfl rfl
 have h8:=hc 8 _ _ rfl rfl
 have h9:=hc 9 _ _ rfl rfl
 have h10:=hc 10 _ _ rfl rfl
 have h11:=hc 11 _ _ rfl rfl
 have h12:=hc 12 _ _ rfl rfl
 cases h0 with | num n0 w0 =>
 cases h1 with | num n1 w1 =>
 cases h2 with | num n2 w2 =>
 cases h3 with | num n3 w3 =>
 cases h4 with | boo n4 =>
 cases h5 with | num n5 w5 =>
 cases h6 with | num n6 w6 =>
 cases h7 with | boo n7 =>
 cases h8 with | num n8 w8 =>
 cases h9 with | num n9 w9 =>
 cases h10 with | num n10 w10 =>
 cases h11 with | num n11 w11 =>
 cases h12 with | num n12 w12 =>
 exact ⟨⟨n0,n1,n2,n3,⟨n4,n5,n6⟩,⟨n7,n8,n9⟩,n10,n11,n12⟩,Imp.of_eq rfl,⟨(Ql8 w0).1,Ql8 w1⟩⟩
abbrev shGrf:List Sh:=[.str,.num .i64,.num .i64,.sl 101 13 shNod]
theorem Qnw:ShT jb 60 shGrf:=.struct Tryz.underlying60 (by kernel_rfl) (.cons (s1:=[.str]) (s2:=[.num .i64,.num .i64,.sl 101 13 shNod]) rfl (by kernel_rfl) (.str (by kernel_rfl)) (.cons (s1:=[.num .i64]) (s2:=[.num .i64,.sl 101 13 shNod]) rfl (by kernel_rfl) (.int (by kernel_rfl)) (.cons (s1:=[.num .i64]) (s2:=[.sl 101 13 shNod]) rfl (by kernel_rfl) (.int (by kernel_rfl)) (.cons (s1:=[.sl 101 13 shNod]) (s2:=[]) rfl (by kernel_rfl) (.slice (el:=shNod) (by kernel_rfl) (by kernel_rfl) W164 Qnv) .nil))))
theorem Qpz {w:World} {t:List TC} (h:ShL shGrf t):∃ x:Grf,Imp w t x.tl∧x.name.size≤maxLen∧∀ b:Nat,nodK (x.nodes.getD b ua):=by
 obtain ⟨hl,hc⟩:=h
 rcases t with _ | ⟨c0,_ | ⟨c1,_ | ⟨c2,_ | ⟨c3,_ | ⟨c4,t⟩⟩⟩⟩⟩
 all_goals first | (exfalso;simp at hl;done) | skip
 have h0:=hc 0 _ _ rfl rfl
 have h1:=hc 1 _ _ rfl rfl
 have h2:=hc 2 _ _ rfl rfl
 have h3:=hc 3 _ _ rfl rfl
 cases h0 with | str n0 w0 =>
 cases h1 with | num n1 w1 =>
 cases h2 with | num n2 w2 =>
 obtain ⟨nodes,hq,hr⟩:=Q41 (w:=w) (tl:=Nod.tl) (Q:=nodK) rfl h3 (fun t ht=>Qpy ht) Q95
 refine ⟨⟨n0,n1,n2,nodes⟩,fun j c u hj hu=>?_,w0,hq⟩
 match j,hj with
 | 0,hj=>cases hj;exact hu
 | 1,hj=>cases hj;exact hu
 | 2,hj=>cases hj;exact hu
 | 3,hj=>cases hj;exact hr u hu
 | j+4,hj=>simp at hj
abbrev shUni:List Sh:=[.sl 62 3 shDcl,.sl 62 3 shDcl,.sl 60 4 shGrf]
theorem Qnx:ShT jb 25 shUni:=.struct Tryz.underlying25 (by kernel_rfl) (.cons (s1:=[.sl 62 3 shDcl]) (s2:=[.sl 62 3 shDcl,.sl 60 4 shGrf]) rfl (by kernel_rfl) (.slice (el:=shDcl) (by kernel_rfl) (by kernel_rfl) W164 Qdu) (.cons (s1:=[.sl 62 3 shDcl]) (s2:=[.sl 60 4 shGrf]) rfl (by kernel_rfl) (.slice (el:=shDcl) (by kernel_rfl) (by kernel_rfl) W164 Qdu) (.cons (s1:=[.sl 60 4 shGrf]) (s2:=[]) rfl (by kernel_rfl) (.slice (el:=shGrf) (by kernel_rfl) (by kernel_rfl) W164 Qnw) .nil)))
section
variable {H:Type} {enc:TypeId×Value→H} {W:World} {base:Nat}
theorem Qhx {v:Value} {d:DataW H} {p:List MemPlace} (hv:Value.okWide jb W .any base 25 v) (h:DataW.Trod enc jb W 0 (fun _=>true) true 25 v d p) :
 ∃ (u0 u1 u2:Value) (sh lk:List Dcl) (gs:List Grf),v=.agg #[u0,u1,u2] ∧
  RdRow W (inW W) u0 3 sh.length (fun i j u=>RdC W (inW W) ((sh.getD i ua).tc j) u)∧RdRow W (inW W) u1 3 lk.length (fun i j u=>RdC W (inW W) ((lk.getD i ua).tc j) u) ∧
  RdRow W (inW W) u2 4 gs.length (fun i j u=>RdC W (inW W) ((gs.getD i ua).tc j) u)∧(∀ j:Nat,(sh.getD j ua).name.size≤maxLen)∧(∀ j:Nat,(lk.getD j ua).name.size≤maxLen) ∧
  (∀ j:Nat,(gs.getD j ua).name.size≤maxLen)∧UnitW gs:=by
 obtain ⟨cs0,rfl,hsz⟩:=Go.WideShapes.okWide_struct Tryz.underlying25 hv
 obtain ⟨hlen,tl,⟨hl,hc⟩,hh⟩:=Qhu Qnx h
 have hlen:cs0.toList.length=3:=hlen
 rcases tl with _ | ⟨c0,_ | ⟨c1,_ | ⟨c2,_ | ⟨c3,t⟩⟩⟩⟩
 all_goals first | (exfalso;simp at hl;done) | skip
 obtain ⟨l,rfl⟩:∃ l:List Value,cs0=l.toArray:=⟨cs0.toList,by simp⟩
 simp only [List.toList_toArray] at hlen
 rcases l with _ | ⟨u0,_ | ⟨u1,_ | ⟨u2,_ | ⟨u3,t⟩⟩⟩⟩
 all_goals first | (exfalso;simp at hlen;done) | skip
 have h0:=hc 0 _ _ rfl rfl
 have h1:=hc 1 _ _ rfl rfl
 have h2:=hc 2 _ _ rfl rfl
 obtain ⟨sh,q0,r0⟩:=Q41 (w:=W) (tl:=Dcl.tl) (Q:=fun x:Dcl=>x.name.size≤maxLen) rfl h0 (fun t ht=>Qhw ht) (j9 _)
 obtain ⟨lk,q1,r1⟩:=Q41 (w:=W) (tl:=Dcl.tl) (Q:=fun x:Dcl=>x.name.size≤maxLen) rfl h1 (fun t ht=>Qhw ht) (j9 _)
 obtain ⟨gs,q2,r2⟩:=Q41 (w:=W) (tl:=Grf.tl) (Q:=fun x:Grf=>x.name.size≤maxLen∧∀ b:Nat,nodK (x.nodes.getD b ua)) rfl h2 (fun t ht=>Qpz ht) ⟨j9 _,fun b=>by
  rw [jc];exact Q95⟩
 exact ⟨u0,u1,u2,sh,lk,gs,rfl,r0 u0 (hh 0 _ _ rfl rfl),r1 u1 (hh 1 _ _ rfl rfl),r2 u2 (hh 2 _ _ rfl rfl),q0,q1,fun j=>(q2 j).1,fun a b=>(q2 a).2 b⟩
end
abbrev shPlc:List Sh:=[.boo,.num .i64]
theorem Qny:ShT jb 74 shPlc:=.struct Tryz.underlying74 (by kernel_rfl) (.cons (s1:=[.boo]) (s2:=[.num .i64]) rfl (by kernel_rfl) (.bool (by kernel_rfl)) (.cons (s1:=[.num .i64]) (s2:=[]) rfl (by kernel_rfl) (.int (by kernel_rfl)) .nil))
theorem Qq0 {w:World} {t:List TC} (h:ShL shPlc t):∃ x:Plc,Imp w t x.tl∧True:=by
 obtain ⟨hl,hc⟩:=h
 rcases t with _ | ⟨c0,_ | ⟨c1,_ | ⟨c2,t⟩⟩⟩
 all_goals first | (exfalso;simp at hl;done) | skip
 have h0:=hc 0 _ _ rfl rfl
 have h1:=hc 1 _ _ rfl rfl
 cases h0 with | boo n0 =>
 cases h1 with | num n1 w1 =>
 exact ⟨⟨n0,n1⟩,Imp.of_eq rfl,trivial⟩
abbrev shAlc:List Sh:=[.sl 74 2 shPlc,.num .i64]
theorem Qnz:ShT jb 72 shAlc:=.struct Tryz.underlying72 (by kernel_rfl) (.cons (s1:=[.sl 74 2 shPlc]) (s2:=[.num .i64]) rfl (by kernel_rfl) (.slice (el:=shPlc) (by kernel_rfl) (by kernel_rfl) W164 Qny) (.cons (s1:=[.num .i64]) (s2:=[]) rfl (by kernel_rfl) (.int (by kernel_rfl)) .nil))
theorem Qq1 {w:World} {t:List TC} (h:ShL shAlc t):∃ x:Alc,Imp w t x.tl∧x.places.length≤9223372036854775807:=by
 obtain ⟨hl,hc⟩:=h
 rcases t with _ | ⟨c0,_ | ⟨c1,_ | ⟨c2,t⟩⟩⟩
 all_goals first | (exfalso;simp at hl;done) | skip
 have h0:=hc 0 _ _ rfl rfl
 have h1:=hc 1 _ _ rfl rfl
 cases h1 with | num n1 w1 =>
 obtain ⟨ps,hn,_,hr⟩:=Qdt (w:=w) (tl:=Plc.tl) (Q:=fun _=>True) rfl h0 (fun t ht=>Qq0 ht) trivial
 refine ⟨⟨ps,n1⟩,fun j c u hj hu=>?_,by simpa [maxLen] using hn⟩
 match j,hj with
 | 0,hj=>cases hj;exact hr u hu
 | 1,hj=>cases hj;exact hu
 | j+2,hj=>simp at hj
theorem Qkk:ShT jb 27 [.sl 72 2 shAlc]:=.slice (el:=shAlc) (by kernel_rfl) (by kernel_rfl) W164 Qnz
section
variable {H:Type} {enc:TypeId×Value→H} {W:World} {base:Nat}
theorem Qhy {v:Value} {d:DataW H} {p:List MemPlace} (hv:Value.okWide jb W .any base 27 v) (h:DataW.Trod enc jb W 0 (fun _=>true) true 27 v d p) :
 ∃ l:List Alc,RdRow W (inW W) v 2 l.length (fun i j u=>RdC W (inW W) ((l.getD i ua).tc j) u)∧∀ j:Nat,(l.getD j ua).places.length≤9223372036854775807:=by
 obtain ⟨a,len,cap,rfl⟩:=Go.WideShapes.okWide_slice Tryz.underlying27 hv
 obtain ⟨hlen,tl,⟨hl,hc⟩,hh⟩:=Qhu Qkk h
 rcases tl with _ | ⟨c0,_ | ⟨c1,t⟩⟩
 all_goals first | (exfalso;simp at hl;done) | skip
 obtain ⟨l,hq,hr⟩:=Q41 (w:=W) (tl:=Alc.tl) (Q:=fun x:Alc=>x.places.length≤9223372036854775807) rfl (hc 0 _ _ rfl rfl) (fun t ht=>Qq1 ht) (j9 _)
 exact ⟨l,hr _ (hh 0 _ _ rfl rfl),hq⟩
def tab32:List Int:=[0,1,28,2,29,14,24,3,30,22,20,15,25,17,4,8,31,27,13,23,21,19,16,7,26,12,18,6,11,5,10,9]
theorem Qkl : Tryz.prog.globalNamed "math/bits.deBruijn32tab" = some 0 := by kernel_rfl
theorem Qkm:(Tryz.prog.globals[0]?).map (·.type)=some 242:=by kernel_rfl
theorem Qkn:Tryz.prog.cellsOf 242=32:=by kernel_rfl
theorem Qo0:Tryz.prog.cellsOf 5=1:=by kernel_rfl
theorem Ql9 (h : laidMetH jb [("math/bits.deBruijn32tab", Rows.laid_math_bits_deBruijn32tab)] W) : Lib.TabIs jb W "math/bits.deBruijn32tab" .u8 tab32 :=
 Lib.tabIs_of_head (rest:=[]) Qkl Qkm Tryz.underlying242 Tryz.underlying5 Qo0 Qkn h
def tabExt (W:World):Ext:=⟨0,0,fun _=>.u,fun _ _ _ _=>True,fun b=>b=0,W⟩
theorem Qq2 (h : laidMetH jb [("math/bits.deBruijn32tab", Rows.laid_math_bits_deBruijn32tab)] W) : TabX (tabExt W) := ⟨rfl, fun i hi => by
 have hb:∀ i:Nat,i<32→0≤tab32.getD i 0∧tab32.getD i 0≤255:=by decide
 exact ⟨_,(hb i hi).1,(hb i hi).2,(Ql9 h).cell Qkl i hi⟩⟩
theorem Qo1 {ε : Env} {M : Nat → Prop} {v : Value} (h : laidMetH jb [("math/bits.deBruijn32tab", Rows.laid_math_bits_deBruijn32tab)] W) : RegOk ε M W ⟨v, inW W⟩ (.froz (tabExt W)) := fun b hb => by
 have hb:b=0:=hb
 subst hb
 have:=Qf9 ((Ql9 h).cell Qkl 0 W164)
 exact ⟨this,this,rfl⟩
end
end Go.Proofs.YtnddggenhefaeaaGreatDoor
end
noncomputable section
namespace Go.Proofs.YtnddggenhefaeaaGreatDoor.lawGenPlaces
open Go.ChangeShapes Go.WideShapes Go.ChangeAt Go.RowKit Go.Tx
theorem Q74:laidOutB jb=true:=by kernel_rfl
theorem own:ownKnob Tryz.prog.godebug=none:=by kernel_rfl
theorem results:Tryz.f5.resultTypes=#[4]:=by kernel_rfl
theorem Qko (H:Type) (enc:TypeId×Value→H) (W:World) (base:Nat) (args:Array Value) (ds gs:List (DataW H)) (before:List MemPlace)
 (hval:∀ (j:Nat) t v,Tryz.f5.params[j]?=some t→args[j]?=some v→Value.okWide jb W .any base t v)
 (hW:DataW.Whole enc jb Tryz.f5.params.toList Rows.genPlacesSpec.vars false W args.toList ds gs before) (hL:laidMetH jb Rows.genPlacesRow.laid W) :
 Calls jb 5 args W fun e W'=>∃ v,e=.returned v∧Rows.genPlacesSpec.post enc jb Tryz.f5 false true false false W args v W':=by
 have hW':=hW
 have hlt:=hW.lt
 obtain ⟨p,q,hA0,hV,rfl,hfz,hnd⟩:=hW
 have hA:DataW.TrodAll enc jb W 0 (fun _=>true) true Tryz.f5.params.toList args.toList ds p:=hA0
 rw [Tryz.params5] at hA hval
 obtain ⟨v0,vs0,d0,ds0,p0,q0,hargs0,rfl,rfl,h0,r0⟩:=trodAll_cons hA
 obtain ⟨v1,vs1,d1,ds1,p1,q1,hargs1,rfl,rfl,h1,r1⟩:=trodAll_cons r0
 obtain ⟨v2,vs2,d2,ds2,p2,q2,hargs2,rfl,rfl,h2,r2⟩:=trodAll_cons r1
 obtain ⟨v3,vs3,d3,ds3,p3,q3,hargs3,rfl,rfl,h3,r3⟩:=trodAll_cons r2
 obtain ⟨v4,vs4,d4,ds4,p4,q4,hargs4,rfl,rfl,h4,r4⟩:=trodAll_cons r3
 obtain ⟨rfl,rfl,rfl⟩:=trodAll_nil r4
 obtain rfl:args=#[v0,v1,v2,v3,v4]:=by cases args;simp_all
 obtain ⟨rfl,rfl⟩:=trodVars_none hV
 clear hA0
 have hv0:=hval 0 25 v0 rfl rfl
 have hv1:=hval 1 27 v1 rfl rfl
 have hv2:=hval 2 3 v2 rfl rfl
 have hv3:=hval 3 3 v3 rfl rfl
 have hv4:=hval 4 3 v4 rfl rfl
 obtain ⟨al,hra,hp⟩:=Qhy hv1 h1
 obtain ⟨bf,rfl⟩:=Go.WideShapes.okWide_int Tryz.underlying3 hv2
 obtain ⟨bf1,rfl⟩:=Go.WideShapes.okWide_int Tryz.underlying3 hv3
 obtain ⟨bf2,rfl⟩:=Go.WideShapes.okWide_int Tryz.underlying3 hv4
 obtain ⟨u0,u1,u2,sh,lk,gs,rfl,hr0,hr1,hr2,hs,hl,hg,hw⟩:=Qhx hv0 h0
 have hX:=Qq2 hL
 have hregs:RegsOk ([⟨u0,inW W⟩,⟨u1,inW W⟩,⟨u2,inW W⟩,⟨u0,inW W⟩,⟨v1,inW W⟩]:Env) (Base.at_ [Dcl.rowR sh,Dcl.rowR lk,Grf.rowR gs,.froz (tabExt W),Alc.rowR al] [⟨u0,inW W⟩,⟨u1,inW W⟩,⟨u2,inW W⟩,⟨u0,inW W⟩,⟨v1,inW W⟩] W).M (Base.at_ [Dcl.rowR sh,Dcl.rowR lk,Grf.rowR gs,.froz (tabExt W),Alc.rowR al] [⟨u0,inW W⟩,⟨u1,inW W⟩,⟨u2,inW W⟩,⟨u0,inW W⟩,⟨v1,inW W⟩] W).L W [Dcl.rowR sh,Dcl.rowR lk,Grf.rowR gs,.froz (tabExt W),Alc.rowR al]:=by
  refine Qnu rfl rfl (fun i hi=>?_) (fun i r hi=>?_)
  ·match i,hi with
   | 0,_=>rfl
   | 1,_=>rfl
   | 2,_=>rfl
   | 3,_=>rfl
   | 4,_=>rfl
   | i+5,hi=>exact absurd hi W162
  ·match i,hi with
   | 0,hi=>cases hi;exact Q73 hr0
   | 1,hi=>cases hi;exact Q73 hr1
   | 2,hi=>cases hi;exact Q73 hr2
   | 3,hi=>cases hi;exact Qo1 hL
   | 4,hi=>cases hi;exact Q73 hra
   | i+5,hi=>simp at hi
 refine ((Qht (tabExt W) hX sh lk gs hs hl hg hw al bf bf1 bf2) [⟨u0,inW W⟩,⟨u1,inW W⟩,⟨u2,inW W⟩,⟨u0,inW W⟩,⟨v1,inW W⟩] W hregs).mono fun e W' hret=>?_
 obtain ⟨res,post,ε',⟨rfl,_⟩,rfl,_,_,hfr⟩:=hret
 have hb:Below W.heap.size W W':=⟨hfr.os,hfr.tape,hfr.output,hfr.size,fun k hk=>hfr.block k hk (fun ⟨i,r,hi,he,_⟩=>by
  match i,hi with
  | 0,hi=>cases hi;cases he
  | 1,hi=>cases hi;cases he
  | 2,hi=>cases hi;cases he
  | 3,hi=>cases hi;cases he
  | 4,hi=>cases hi;cases he
  | i+5,hi=>simp at hi)⟩
 refine ⟨_,rfl,_,_,_,[],p0++(p1++(p2++(p3++(p4++[])))),[],hW',?_,?_,?_,hb.frame _,fun h=>by cases h⟩
 ·rw [results]
  exact trodAll_cons_mk (shut_bool Tryz.underlying4 _) trodAll_mk0
 ·rw [Tryz.params5]
  exact (trodAll_cons_mk (WideElems.Trod_stays Q74 (by kernel_rfl) (ub (by kernel_rfl)) h0 (fun p hp=>hb.same (hlt p W222)) (fun p hp=>by simpa using hlt p W222)) (trodAll_cons_mk (WideElems.Trod_stays Q74 (by kernel_rfl) (ub (by kernel_rfl)) h1 (fun p hp=>hb.same (hlt p W222)) (fun p hp=>by simpa using hlt p W222)) (trodAll_cons_mk (WideElems.Trod_stays Q74 (by kernel_rfl) (ub (by kernel_rfl)) h2 (fun p hp=>hb.same (hlt p W222)) (fun p hp=>by simpa using hlt p W222)) (trodAll_cons_mk (WideElems.Trod_stays Q74 (by kernel_rfl) (ub (by kernel_rfl)) h3 (fun p hp=>hb.same (hlt p W222)) (fun p hp=>by simpa using hlt p W222)) (trodAll_cons_mk (WideElems.Trod_stays Q74 (by kernel_rfl) (ub (by kernel_rfl)) h4 (fun p hp=>hb.same (hlt p W222)) (fun p hp=>by simpa using hlt p W222)) trodAll_mk0)))))
 ·rfl
def laidWorld (os:Os):World:=
 { World.holding jb os ⟨#[],#[],[]⟩ with heap:=(World.holding jb os ⟨#[],#[],[]⟩).heap.modify 0 fun
  | .cells _ t frozen=>.cells (tab32.map fun z=>jg .u8 z).toArray t frozen
  | o=>o }
theorem laid_met (os:Os):laidMet jb Rows.genPlacesRow.laid ((laidWorld os).forCall (fun _ _=>0) ⟨#[],#[.agg #[.slice none 0 0,.slice none 0 0,.slice none 0 0],.slice none 0 0,.int .i64 0,.int .i64 0,.int .i64 0],[]⟩).memory:=
 laidMet_of_run' 8 (by kernel_rfl) (by kernel_rfl)
theorem Qrl (os:Os) {H:Type} (enc:TypeId×Value→H):∃ places,DataW.whole enc jb ((laidWorld os).forCall (fun _ _=>0) ⟨#[],#[.agg #[.slice none 0 0,.slice none 0 0,.slice none 0 0],.slice none 0 0,.int .i64 0,.int .i64 0,.int .i64 0],[]⟩).memory Tryz.f5.params.toList Rows.genPlacesSpec.vars false #[.agg #[.slice none 0 0,.slice none 0 0,.slice none 0 0],.slice none 0 0,.int .i64 0,.int .i64 0,.int .i64 0].toList 8=some ([.agg [.nil,.nil,.nil],.nil,.lit (.int .i64 0),.lit (.int .i64 0),.lit (.int .i64 0)],[],places):=
 ⟨[],by kernel_rfl⟩
set_option maxRecDepth 100000 in
theorem Qq3 (os:Os) (started:os.Started) (H:Type) (enc:TypeId×Value→H) (F:Stop.Interp) :
 ReturnsInHanded {} Tryz.checked os 5 .any ((OpenSpec.ofChange Rows.genPlacesSpec).preRow enc jb Tryz.f5 Rows.genPlacesRow.domain false Rows.genPlacesRow.laid) (((OpenSpec.ofChange Rows.genPlacesSpec).at F).post enc jb Tryz.f5 false true false false):=by
 obtain ⟨places,hx⟩:=Qrl os enc
 refine returnsInHanded_of_row (C:=Tryz.checked) (s:=OpenSpec.ofChange Rows.genPlacesSpec) own started (by kernel_rfl) Tryz.func5
  (witness_row_at (enc:=enc) (C:=Tryz.checked) false (laidWorld os) #[.agg #[.slice none 0 0,.slice none 0 0,.slice none 0 0],.slice none 0 0,.int .i64 0,.int .i64 0,.int .i64 0] rfl (by kernel_rfl) (by kernel_rfl) (by kernel_rfl)
    (OpenSpec.preRow_of_cond 8 hx (by kernel_rfl) (fun k hk=>by cases hk) (by kernel_rfl) (laid_met os))) ?_
 intro W base args ds gs before hval hW _ _ _ hL _ _
 exact Qko H enc W base args ds gs before hval hW hL
theorem Qrr:Rows.GenPlacesSaid:=
 OpenClaim.holds_of_cond 5 Tryz.f5 rfl rfl rfl rfl rfl rfl rfl ⟨rfl,rfl,rfl,rfl,rfl⟩ rfl rfl rfl rfl rfl (by kernel_rfl) Tryz.func5 (by kernel_rfl)
  (ub (by kernel_rfl)) (by unfold Func.isWrapper;(rw [if_neg (by decide +kernel)];exact ⟨rfl,rfl⟩))
  (fun os started H enc _ F=>by rw [OpenClaim.pre_eq_preRow];exact Qq3 os started H enc F)
theorem plain (f : FuncId) (fn : Func) (hf : Tryz.pinned.checked.prog.funcNamed "stile/stilelaw17.GenPlaces" = some f) (hfn : Tryz.pinned.checked.prog.funcs[f]? = some fn) :
 false=Tryz.pinned.checked.prog.looks []∧∀ (j:Nat) t,fn.params[j]?=some t→Tryz.pinned.checked.prog.wantsStandIn t=false:=by
 obtain rfl : f = 5 := Option.some.inj ((show Tryz.prog.funcNamed "stile/stilelaw17.GenPlaces" = some 5 by kernel_rfl).symm.trans hf) |>.symm
 obtain rfl:fn=Tryz.f5:=(Option.some.inj (Tryz.func5.symm.trans hfn)).symm
 refine ⟨by kernel_rfl,fun j t ht=>?_⟩
 rw [Tryz.params5] at ht
 have hm:t=25∨t=27∨t=3:=by simpa using Array.mem_of_getElem? ht
 rcases hm with rfl | rfl | rfl
 ·exact (show Tryz.prog.wantsStandIn 25=false by kernel_rfl)
 ·exact (show Tryz.prog.wantsStandIn 27=false by kernel_rfl)
 ·exact (show Tryz.prog.wantsStandIn 3=false by kernel_rfl)
theorem card:Rows.GenPlacesCardSaid:=
 Claim7.holds_tied_plain_at .later [] _ _ _ _ Qrr (fun _ h=>by cases h) (by kernel_rfl) (fun _ h=>by cases h) genPlaces_row_tie rfl ⟨rfl,rfl⟩ (by kernel_rfl) rfl plain (by kernel_rfl)
end Go.Proofs.YtnddggenhefaeaaGreatDoor.lawGenPlaces
end
