/-
  A part of the proof. Text 8 of 9: Leaf147 Leaf148 Leaf149 Leaf154 Leaf150 Leaf151 Leaf152 Leaf153 Leaf155.
-/
import Derived.Test.YtnddggenhefaeaaGreatDoorP3
import Derived.Test.YtnddggenhefaeaaGreatDoorP4
import Derived.Test.YtnddggenhefaeaaGreatDoorP7
import Derived.Test.YtnddggenhefaeaaGreatDoorP5
import Derived.Test.YtnddggenhefaeaaGreatDoorP6
set_option linter.unusedSimpArgs false
set_option linter.unusedVariables false
open Go.Value renaming nilFunc→ky,string→jC,bool→jS,int→jg
open Go.IntKind renaming i64→ja,u8→jx
open Go.Proofs.Tryz renaming prog→jb
open List renaming replicate→jh,length_replicate→jI,length_set→jF,take→jR,length→kb,length_append→jt,length_take→jQ
open Int renaming le_refl→jz
open Nat renaming le_refl→jn
open And renaming intro→jl
open Bool renaming not_eq_false'→kI
open Inhabited renaming default→ua
set_option maxHeartbeats 4000000
namespace Go
theorem W2{p:Prop}(h:p:=by first | assumption | exact hn.a | exact hn.b | exact hn.slot (by omega) | decide | exact Nat.le_of_ble_eq_true rfl | omega | (simp only [List.length_append,Q05,List.length_cons,List.length_nil];have y1:=Zj (gm:=gm) (v:=n.a) (r:=13);have y2:=Zj (gm:=gm) (v:=n.b) (r:=14);have y3:=Q8y (gm:=gm) (s:=n.slot);have y4:=Q0k (gm:=gm) (v:=n.a) (r:=gGoal gm n.slot);have y5:=Q0k (gm:=gm) (v:=n.a) (r:=15);omega)):p:=h
theorem W7{p:Prop}(h:p:=by simp only [Conj,Fits,Q7,Q8,Q9,Qa,News.len,maxLen]<;>(repeat' (first | apply And.intro | intro _))<;>first | (have T:=Yr h0 hw ht.1 ht.2;have z1:=Qo (gs.getD t.toNat default).nodes;(try have q:=of_decide_eq_true h3);(try have z:=hJ2.1);(try have zz:=hJ2.2);(try have z3:=hY1);(try have z4:=T.hv ue.toNat (by omega) (by omega));(try have q5:=of_decide_eq_true h5);(try have z6:=hJ4.1);(try have z7:=hJ4.2);(try have z5:=hfe _ (Y3 q5 hJ4.1));have z8:=T.hN;have z9:=(Yc h0).1;exact W226) | grind):p:=h
theorem W9{p:Prop}(h:p:=by first | assumption | (intro x hx;cases hx;done) | exact Nat.zero_le _ | exact Qma hfb | exact (Yr h0 hw ht.1 ht.2).hq | exact (Yr h0 hw ht.1 ht.2).hN | (have z:=(Yr h0 hw ht.1 ht.2).hN;omega) | exact hY3 | (have z:=hY3;rw [← z];exact hY4.2) | (have z:=(Yr h0 hw ht.1 ht.2).hN;have z1:=hY3;have z2:=hY4.1;omega) | omega):p:=h
theorem W25{p:Prop}(h:p:=by first | assumption | exact hfs _ | (simpa using h1) | exact ⟨hJ5,by have q:=of_decide_eq_true h6;omega⟩ | exact hF _ W241 | (rcases fenR_len (hF uk.toNat W241) with e | e<;>first | (rw [e];exact Nat.zero_le _) | (have w:=((Yc (by simpa using h1)).2 uk.toNat W241).len;omega)) | omega):p:=h
theorem W26{p:Prop}(h:p:=by simp only [Conj,Fits,Q7,Q8,Q9,Qa,News.len,maxLen]<;>(repeat' apply And.intro)<;>first | (have z:=hJ1.len;have z1:=hJ1.ms;have q:=of_decide_eq_true h2;have z2:=hJ1.rng.at_ (i:=((ui.length:Int)-1).toNat) (by omega);exact W226) | (have y:=hJ3.len;have y0:=hJ3.x0;have y1:=hJ3.ms;have y2:=hJ3.mB;have q:=of_decide_eq_true h2;have q4:=of_decide_eq_true h4;have z2:=hJ1.rng.at_ (i:=((ui.length:Int)-1).toNat) (by omega);have z3:=(hq _ (by omega) _ ((Q1j _ _).1 (Y3 q4 hJ3.x0)));have z4:=Q2c (g.nodes.getD (ui.getD ((ui.length:Int)-(1:Int)).toNat (0:Int)).toNat default);exact W226) | grind):p:=h
theorem W34{p:Prop}(h:p:=by (try simp only [Conj])<;>(repeat' apply And.intro)<;>first | trivial | exact List.length_set | exact List.length_replicate | exact Qja | exact Qmb _ _ _ | exact Qj9 _ _):p:=h
theorem W51{p:Prop}(h:p:=by simp only [Conj,Fits,Q7,Q8,Q9,Qa,News.len,maxLen]<;>(repeat' apply And.intro)<;>first | (have w:=(Yc (by simpa using h1)).1;(try have q:=of_decide_eq_true h4);(try have z:=hJ3.1);(try have q6:=of_decide_eq_true h6);(try have z6:=hJ5);omega) | grind):p:=h
theorem W54{p:Prop}(h:p:=by dsimp only [uP];have z1:=Qo (gs.getD t.toNat default).nodes;exact W231):p:=h
theorem W57{p:Prop}(h:p:=by (try simp only [Conj])<;>(repeat' apply And.intro)<;>first | trivial | exact Q0g _ Ins.tl _ _ _ (by kernel_rfl) | (intro i q1 q2;simp at q1;omega)):p:=h
theorem W59{p:Prop}(h:p:=by have z:=hJ2.1;first | exact ⟨by omega,hJ2.2⟩ | exact ⟨by omega,by rw [List.length_set];exact hJ2.2⟩):p:=h
theorem W60{p:Prop}(h:p:=by (try simp only [Conj])<;>(repeat' apply And.intro)<;>first | exact Y6 _ _ | exact List.length_set | (rw [List.length_replicate,hM]) | exact Qjb | exact Q3t _ _ _ | (rw [List.length_take];omega) | (intro i q;rw [List.getD_eq_getElem?_getD,List.getElem?_take_of_lt (by simp at q;omega),← List.getD_eq_getElem?_getD]) | (intro i h1 h2;rw [Yb h1 h2]) | (rw [Qw];rfl)):p:=h
theorem W64{p:Prop}(h:p:=by simp only [Conj,Fits,Q7,Q8,Q9,Qa,News.len,maxLen]<;>(repeat' apply And.intro)<;>first | omega | exact W239 | grind):p:=h
theorem W65{p:Prop}(h:p:=by first | assumption | exact T.hq | exact T.hN | exact T.hk | exact (Yr h0 hw ht.1 ht.2).hq | exact (Yr h0 hw ht.1 ht.2).hN | exact (Yr h0 hw ht.1 ht.2).hk | omega):p:=h
theorem W74{p:Prop}(h:p:=by simp only [Conj];(repeat' apply And.intro)<;>first | trivial | (intros;trivial) | (simp only [List.append_nil,List.append_assoc];done) | (intros;simp only [List.append_nil,List.append_assoc];done)):p:=h
theorem W78{p:Prop}(h:p:=by (first | (have e:=Qjh (gm:=gm) (r:=r) (gnt h1)) | (have e:=Qbh (gm:=gm) (r:=r) (gnf h1) (gnt h2)) | (have e:=Qji (gm:=gm) (r:=r) (gnf h1) (gnf h2)));rw [e.1,e.2];simp only [Conj];(repeat' apply And.intro)<;>first | trivial | (intros;trivial) | (simp only [List.append_nil,List.append_assoc];done) | (intros;simp only [List.append_nil,List.append_assoc];done)):p:=h
theorem W94{p:Prop}(h:p:=by first | assumption | (have z3:=hv (by exact gnf h1);have z:=hg.p0 v.slot.toNat (by omega);omega) | decide | exact Nat.le_of_ble_eq_true rfl | omega):p:=h
theorem W95{p:Prop}(h:p:=by (first | (have e:=Qor (gm:=gm) h1) | (have e:=Qos (gm:=gm) h1 h2) | (have e:=Qot (gm:=gm) h1 h2));rw [e];simp only [Conj];(repeat' apply And.intro)<;>first | (simp only [List.append_nil,List.append_assoc];done) | (intros;simp only [List.append_nil,List.append_assoc];done)):p:=h
theorem W98{p:Prop}(h:p:=by have q:=of_decide_eq_true h2;have q4:=of_decide_eq_true h4;have z2:=hJ1.rng.at_ (i:=((ui.length:Int)-1).toNat) (by omega);have z3:=(hq _ (by omega) _ ((Q1j _ _).1 (Y3 q4 hJ3.x0)));first | exact hJ3.skip q4 | exact hJ3.put q4 z3 (gAnd h5) | exact hJ3.set q4 z3 (gAnd h5)):p:=h
theorem W100{p:Prop}(h:p:=by simp only [Conj,Fits,Q7,Q8,Q9,Qa,News.len,maxLen]<;>(repeat' apply And.intro)<;>(have z0:=(Yr h0 hw ht.1 ht.2).hN;have z1:=hY1;have q:=of_decide_eq_true h5;have z:=hJ4.1;have z2:=hJ4.2;(try have z3:=hY3);exact W226)):p:=h
theorem W112{p:Prop}(h:p:=by simp only [Conj];first | exact Qqt hY1 h2 | exact Qqu hY1 h2 h3 | exact Qqv hY1 h2 h3 h4 | exact Qqw hY1 h2 h3 h4 h5 | exact Qqx hY1 h2 h3 h4 h5):p:=h
theorem W113{p:Prop}(h:p:=by first | assumption | decide | exact Nat.le_of_ble_eq_true rfl | omega | (rw [List.length_append];have z:=Zj (gm:=gm) (v:=v) (r:=r);omega)):p:=h
theorem W117{p:Prop}(h:p:=by simp only [Conj,Fits,Q7,Q8,Q9,Qa,News.len,maxLen]<;>(repeat' (first | apply And.intro | intro _))<;>(have z:=hg.b0;have z1:=hg.s0;(try have z2:=hg.p0 (v.slot).toNat (by omega));(try have z3:=hv (by first | assumption | exact gnf h1));(try have z2:=hg.p0 v.slot.toNat (by omega));exact W226)):p:=h
theorem W123{p:Prop}(h:p:=by have q:=of_decide_eq_true h2;have z:=hJ1.1;have z1:ui.length≤ud.toNat:=hJ1.2.2.1;first | exact ⟨by omega,by omega,by rw [List.length_append,List.length_singleton];show _≤(ud+1).toNat;omega,hJ1.2.2.2.add (by omega)⟩ | exact ⟨by omega,by omega,by show ui.length≤(ud+1).toNat;omega,hJ1.2.2.2⟩):p:=h
theorem W124{p:Prop}(h:p:=by (first | (have e:=Qmg (gm:=gm) (v:=v) (r:=r) h1) | (have e:=Qmh (gm:=gm) (v:=v) (r:=r) h1));rw [e];simp only [Conj];(repeat' apply And.intro)<;>first | trivial | (intros;trivial) | (simp only [List.append_nil,List.append_assoc];done) | (intros;simp only [List.append_nil,List.append_assoc];done)):p:=h
theorem W125{p:Prop}(h:p:=by simp only [Conj,Fits,Q7,Q8,Q9,Qa,News.len,maxLen]<;>(repeat' apply And.intro)<;>(have q:=of_decide_eq_true h2;have z:=hJ1.1;have z1:=hJ1.2.2.1;exact W226)):p:=h
theorem W127{p:Prop}(h:p:=by (first | (have e:=Qmi (gm:=gm) (n:=n) (gnf h1)) | (have e:=Qmj (gm:=gm) (n:=n) (gnt h1)));rw [e];simp only [Conj];(repeat' apply And.intro)<;>first | (simp only [List.append_nil,List.append_assoc];done) | (intros;simp only [List.append_nil,List.append_assoc];done)):p:=h
theorem W132{p:Prop}(h:p:=by simp only [Conj,Fits,Q7,Q8,Q9,Qa,News.len,maxLen]<;>(repeat' apply And.intro)<;>(exact W239)):p:=h
theorem W135{p:Prop}(h:p:=by have q:=of_decide_eq_true h5;have z:=hJ4.1;have z1:uv.length≤ur.toNat:=hJ4.2;first | exact ⟨by omega,by rw [List.length_append,List.length_singleton];show _≤(ur+1).toNat;omega⟩ | exact ⟨by omega,by show uv.length≤(ur+1).toNat;omega⟩):p:=h
theorem W136{p:Prop}(h:p:=by (first | (have e:=Qgl (gm:=gm) h1) | (have e:=Qgm (gm:=gm) h1));rw [e];simp only [Conj];(repeat' apply And.intro)<;>first | (simp only [List.append_nil,List.append_assoc];done) | (intros;simp only [List.append_nil,List.append_assoc];done)):p:=h
theorem W146{p:Prop}(h:p:=by first | exact Qqp h1 | exact Qqq h1 h2 | exact Qqr h1 h2 hJ3.1 h4 h5 | exact Qqs h1 h2 hF):p:=h
theorem W150{p:Prop}(h:p:=by first | assumption | (have z:=hg.p0 s.toNat (by omega);omega) | decide | exact Nat.le_of_ble_eq_true rfl | omega):p:=h
theorem W152{p:Prop}(h:p:=by (try simp only [Conj])<;>(repeat' apply And.intro)<;>first | trivial | (intro i q1 q2;simp at q1;omega)):p:=h
theorem W179{p:Prop}(h:p:=by simp only [Conj,Fits,Q7,Q8,Q9,Qa,News.len,maxLen]<;>(repeat' apply And.intro)<;>first | omega | grind):p:=h
theorem W184{p:Prop}(h:p:=by dsimp only [vf];have q:=of_decide_eq_true h4;have z:=hJ3.x0;omega):p:=h
theorem W187{p:Prop}(h:p:=by simp only [Conj,Fits,Q7,Q8,Q9,Qa,News.len,maxLen]<;>(repeat' apply And.intro)<;>omega):p:=h
theorem W210{p:Prop}(h:p:=by dsimp only [vG];exact W228):p:=h
theorem W212{p:Prop}(h:p:=by dsimp only [vH];exact W246):p:=h
theorem W239{p:Prop}(h:p:=by have z:=hg.b0;have z1:=hg.s0;have z2:=hn.th;(try have z3:=hn.slot (by omega));(try have z4:=hg.p0 n.slot.toNat (by omega));exact W226):p:=h
theorem W241{p:Prop}(h:p:=by have q:=of_decide_eq_true h6;have z:=hJ5;omega):p:=h
end Go
noncomputable section
namespace Go.Proofs.YtnddggenhefaeaaGreatDoor
open Go Go.Tx
abbrev zm:Reg:=Reg.box 203 [C.v ky,C.v ky,C.fn 159 false [],C.fn 157 false [],C.fn 156 false [],C.fn 156 false [],C.fn 158 false [],C.fn 156 false [],C.v ky,C.v ky]
abbrev zq (y0:List Grf) (y1:Int):Reg:=Reg.box 182 [C.v (jC (y0.getD y1.toNat ua).name),C.i .i64 (y0.getD y1.toNat ua).locals,C.i .i64 (y0.getD y1.toNat ua).slots,C.h 5,C.h 8]
abbrev zbB:En:=se 6 (C.v (Value.pointer none))
def uP (X:Ext) (sh:List Dcl) (lk:List Dcl) (gs:List Grf) (t:Int) (fe:List Int) (ud:List Cls):Lp (Int×List Mrk):=⟨fun x=>{ N:=112,fr:=[se 46 (C.i .i64 x.1),{ slot:=45,g:=[],sv:=SV.c (C.i .i64 (↑(rchL (gs.getD t.toNat ua).nodes).length:Int)) },se 44 (C.h 11),se 10 (C.p 10 0),se 9 (C.p 9 0),se 7 (C.h 7),zbB,se 2 (C.h 4)],rg:=[rowOf 3 (·.tc) sh,rowOf 3 (·.tc) lk,zj gs t,Reg.froz X,IntRow fe,zt gs t,zP,ownOf 207 3 (·.tc) ud,Mrk.ownR (x.2),zq gs t,zm,ownOf 4 1 (·.tc) (rchL (gs.getD t.toNat ua).nodes)],wr:=[] },fun x=>0≤x.1∧x.2.length=(gs.getD t.toNat ua).nodes.length,fun x=>(((gs.getD t.toNat ua).nodes.length:Int)-x.1).toNat⟩
def wk (X:Ext) (sh:List Dcl) (lk:List Dcl) (gs:List Grf) (t:Int) (fe:List Int) (ud:List Cls) (un:List Mrk):Lp (Int×List Mrk):=⟨fun x=>{ N:=112,fr:=[se 99 (C.i .i64 x.1),se 98 (C.i .i64 (↑fe.length:Int)),se 97 (C.h 4),se 9 (C.p 9 0),zbB],rg:=[rowOf 3 (·.tc) sh,rowOf 3 (·.tc) lk,zj gs t,Reg.froz X,IntRow fe,zt gs t,zP,ownOf 207 3 (·.tc) ud,Mrk.ownR (x.2),zq gs t,zm,ownOf 4 1 (·.tc) (rchL (gs.getD t.toNat ua).nodes)],wr:=[] },fun x=>0≤x.1∧x.2.length=(gs.getD t.toNat ua).nodes.length,fun x=>((fe.length:Int)-x.1).toNat⟩
abbrev zcj (y0:List Grf) (y1:Int):En:=En.mk 45 [] (SV.c (C.i .i64 (↑(rchL (y0.getD y1.toNat ua).nodes).length:Int)))
abbrev zi (y0:List Grf) (y1 y2:Int):List En:=[se 13 (C.p 12 0),En.mk 12 [] (SV.c (C.b ((rchL (y0.getD y1.toNat ua).nodes).getD y2.toNat ua).b)),se 11 (C.i .i64 y2),se 46 (C.i .i64 y2),zcj y0 y1,se 44 (C.h 11),se 10 (C.p 10 0),se 9 (C.p 9 0),se 7 (C.h 7),zbB,se 2 (C.h 4)]
abbrev zD (y0:List Mrk) (y1:Int) (y2 y3:Bool):List Prop:=[(y0.set y1.toNat (Mrk.mk false false y2 y3)).length=y0.length,∀ (i:Nat),i<(y0.set y1.toNat (Mrk.mk false false y2 y3)).length→((y0.set y1.toNat (Mrk.mk false false y2 y3)).getD i ua).tc=updT (fun i=>(y0.getD i ua).tc) y1.toNat 0 [jS false,jS false,jS y2,jS y3] i]
abbrev zE (y0:List Mrk) (y1:Int) (y2 y3 y4 y5:Bool):List Prop:=[(y0.set y1.toNat (Mrk.mk y2 y3 y4 y5)).length=y0.length,∀ (i:Nat),i<(y0.set y1.toNat (Mrk.mk y2 y3 y4 y5)).length→((y0.set y1.toNat (Mrk.mk y2 y3 y4 y5)).getD i ua).tc=updT (fun i=>(y0.getD i ua).tc) y1.toNat 0 [jS y2,jS y3,jS y4,jS y5] i]
abbrev zQ (y0:List Grf) (y1 y2:Int):Reg:=Reg.box 101 [C.i .u8 ((y0.getD y1.toNat ua).nodes.getD y2.toNat ua).kind,C.i .u8 ((y0.getD y1.toNat ua).nodes.getD y2.toNat ua).op,C.i .i64 ((y0.getD y1.toNat ua).nodes.getD y2.toNat ua).slot,C.i .i64 ((y0.getD y1.toNat ua).nodes.getD y2.toNat ua).thing,C.b ((y0.getD y1.toNat ua).nodes.getD y2.toNat ua).a.slotted,C.i .i64 ((y0.getD y1.toNat ua).nodes.getD y2.toNat ua).a.slot,C.i .i64 ((y0.getD y1.toNat ua).nodes.getD y2.toNat ua).a.word,C.b ((y0.getD y1.toNat ua).nodes.getD y2.toNat ua).b.slotted,C.i .i64 ((y0.getD y1.toNat ua).nodes.getD y2.toNat ua).b.slot,C.i .i64 ((y0.getD y1.toNat ua).nodes.getD y2.toNat ua).b.word,C.i .i64 ((y0.getD y1.toNat ua).nodes.getD y2.toNat ua).next,C.i .i64 ((y0.getD y1.toNat ua).nodes.getD y2.toNat ua).els,C.i .i64 ((y0.getD y1.toNat ua).nodes.getD y2.toNat ua).origin]
abbrev zS (y0:Int) (y1:List Mrk):List Prop:=[(0:Int)≤y0,y0<(↑y1.length:Int),y0.toNat<y1.length,Fits ja (y0+(1:Int))]
abbrev za4 (y0:List Grf) (y1 y2:Int):List En:=[En.mk 12 [] (SV.c (C.b ((rchL (y0.getD y1.toNat ua).nodes).getD y2.toNat ua).b)),se 11 (C.i .i64 y2),se 46 (C.i .i64 y2),zcj y0 y1,se 44 (C.h 11),se 10 (C.p 10 0),se 9 (C.p 9 0),se 7 (C.h 7),zbB,se 2 (C.h 4)]
theorem Qdq (X:Ext) (hX:TabX X) (sh lk:List Dcl) (gs:List Grf) (hs:zy sh) (hl:zy lk) (hg:zT gs) (hw:UnitW gs) (h0:(chkU sh lk gs).1=0) (t:Int) (ht:0≤t∧t<(gs.length:Int)) (fe:List Int) (hfe:∀ x∈fe,0≤x∧x<((gs.getD t.toNat ua).nodes.length:Int)) (hfl:fe.length≤4294967296):Ctr jb 125 [Dcl.rowR sh,Dcl.rowR lk,Grf.rowR gs,.froz X,IntRow fe] [.agg [.h 0,.h 1,.h 2],.c (.i .i64 t),.c (.h 4)]
 (DetE (fun M:List Mrk=>M.length=(gs.getD t.toNat ua).nodes.length) (fun _=>.c (.p 5 0)) (fun M=>[.dead,.dead,.dead,.dead,.dead,Reg.box 182 [C.v (jC (gs.getD t.toNat ua).name),C.i .i64 (gs.getD t.toNat ua).locals,C.i .i64 (gs.getD t.toNat ua).slots,C.h 6,C.h 7],Nod.rowR (gs.getD t.toNat ua).nodes,Mrk.ownR M])):=by
 refine Ctr.intro [] Tryz.func125 K K ?_
 refine Qv 2 (t.toNat) ?_ (vc:=(zcc t gs)) (hv:=W7)
 refine Qk Q4p (Qhh X W65 sh lk gs W65 W65 W65 W65 W65) [] ?_
 rintro ud hY1
 try dsimp only at hY1
 refine tz [21,6,3,1,2] ?_
 refine Q3 Qar (Qpn) [] ?_ (vc:=[(0:Int)≤t,t<(↑gs.length:Int),t.toNat=t.toNat,(0:Int)≤t,t<(↑gs.length:Int),t.toNat=t.toNat,(0:Int)≤(↑(gs.getD t.toNat ua).nodes.length:Int),(↑(gs.getD t.toNat ua).nodes.length:Int)≤(↑(gs.getD t.toNat ua).nodes.length:Int),(↑(gs.getD t.toNat ua).nodes.length:Int) * (4:Int)≤(140737488355328:Int),(↑(gs.getD t.toNat ua).nodes.length:Int)≤(↑maxLen:Int),(0:Int)≤(↑(gs.getD t.toNat ua).nodes.length:Int),(↑(gs.getD t.toNat ua).nodes.length:Int)≤(↑(gs.getD t.toNat ua).nodes.length:Int),(↑(gs.getD t.toNat ua).nodes.length:Int) * (4:Int)≤(140737488355328:Int),(↑(gs.getD t.toNat ua).nodes.length:Int)≤(↑maxLen:Int)]) (hv:=W7)
 refine tz [39,9,7,6,2] ?_
 refine Q3 Qs (Y7 (gs.getD t.toNat ua) W65 W65 W65) [5] ?_
 refine tz [44,10,9,7,6,2] ?_
 refine Q6 (uP X sh lk gs t fe ud) (((0:Int),jh (gs.getD t.toNat ua).nodes.length (Mrk.mk false false false false))) (⟨jz _,jI⟩) ?_ [] [17,18] [(jh (gs.getD t.toNat ua).nodes.length (Mrk.mk false false false false)).length=(gs.getD t.toNat ua).nodes.length,∀ (i:Nat),i<(jh (gs.getD t.toNat ua).nodes.length (Mrk.mk false false false false)).length→((jh (gs.getD t.toNat ua).nodes.length (Mrk.mk false false false false)).getD i ua).tc=fun j=>valT (Value.agg #[jS false,jS false,jS false,jS false]).cells.toList j] W34
 rintro ⟨ue,un⟩ hJ2
 dsimp only [uP] at hJ2
 refine tz [46,45,44,10,9,7,6,2] ?_
 refine Q0 (decide (ue<(↑(rchL (gs.getD t.toNat ua).nodes).length:Int))) (fun h3=>?_) (fun h3=>?_)
 ·refine RunF.cut (fun _:Unit=>St.mk 112 (za4 gs t ue) [rowOf 3 (·.tc) sh,rowOf 3 (·.tc) lk,zj gs t,Reg.froz X,IntRow fe,zt gs t,zP,ownOf 207 3 (·.tc) ud,ownOf 186 4 (·.tc) un,zq gs t,zm,ownOf 4 1 (·.tc) (rchL (gs.getD t.toNat ua).nodes)] []) (fun _=>True) ?_ ?_
  ·exact tTo (fun x=>St.mk 112 (za4 gs t ue) [rowOf 3 (·.tc) sh,rowOf 3 (·.tc) lk,zj gs t,Reg.froz X,IntRow fe,zt gs t,zP,ownOf 207 3 (·.tc) ud,ownOf 186 4 (·.tc) un,zq gs t,zm,ownOf 4 1 (·.tc) (rchL (gs.getD t.toNat ua).nodes)] []) (fun x=>True) () trivial (vc:=[(0:Int)≤ue,ue<(↑(rchL (gs.getD t.toNat ua).nodes).length:Int),ue.toNat<(rchL (gs.getD t.toNat ua).nodes).length]) (hv:=W7)
  ·rintro ⟨⟩ _
   refine RunF.cut (fun _:Unit=>St.mk 112 (zi gs t ue) [rowOf 3 (·.tc) sh,rowOf 3 (·.tc) lk,zj gs t,Reg.froz X,IntRow fe,zt gs t,zP,ownOf 207 3 (·.tc) ud,ownOf 186 4 (·.tc) un,zq gs t,zm,ownOf 4 1 (·.tc) (rchL (gs.getD t.toNat ua).nodes),zQ gs t ue] []) (fun _=>True) ?_ ?_
   ·exact tTo (fun x=>St.mk 112 (zi gs t ue) [rowOf 3 (·.tc) sh,rowOf 3 (·.tc) lk,zj gs t,Reg.froz X,IntRow fe,zt gs t,zP,ownOf 207 3 (·.tc) ud,ownOf 186 4 (·.tc) un,zq gs t,zm,ownOf 4 1 (·.tc) (rchL (gs.getD t.toNat ua).nodes),zQ gs t ue] []) (fun x=>True) () trivial (vc:=(zaT ue gs t)) (hv:=W7)
   ·rintro ⟨⟩ _
    rcases (show ((gs.getD t.toNat ua).nodes.getD ue.toNat ua).kind=(1:Int)∨((gs.getD t.toNat ua).nodes.getD ue.toNat ua).kind=(2:Int)∨((gs.getD t.toNat ua).nodes.getD ue.toNat ua).kind=(3:Int)∨((gs.getD t.toNat ua).nodes.getD ue.toNat ua).kind=(4:Int)∨((gs.getD t.toNat ua).nodes.getD ue.toNat ua).kind=(5:Int)∨((gs.getD t.toNat ua).nodes.getD ue.toNat ua).kind=(6:Int)∨((gs.getD t.toNat ua).nodes.getD ue.toNat ua).kind=(7:Int)∨((gs.getD t.toNat ua).nodes.getD ue.toNat ua).kind=(8:Int)∨((gs.getD t.toNat ua).nodes.getD ue.toNat ua).kind=(9:Int) from (by have T:=Yr h0 hw ht.1 ht.2;have q:=ub h3;have z:=hJ2.1;have z1:=Qo (gs.getD t.toNat ua).nodes;have z2:=T.hk ue.toNat (by omega);omega)) with hs4 | hs4 | hs4 | hs4 | hs4 | hs4 | hs4 | hs4 | hs4
    ·refine tWk (St.mk 112 (zi gs t ue) [rowOf 3 (·.tc) sh,rowOf 3 (·.tc) lk,zj gs t,Reg.froz X,IntRow fe,zt gs t,zP,ownOf 207 3 (·.tc) ud,ownOf 186 4 (·.tc) un,zq gs t,zm,ownOf 4 1 (·.tc) (rchL (gs.getD t.toNat ua).nodes),Reg.box 101 [C.i .u8 1,C.i .u8 ((gs.getD t.toNat ua).nodes.getD ue.toNat ua).op,C.i .i64 ((gs.getD t.toNat ua).nodes.getD ue.toNat ua).slot,C.i .i64 ((gs.getD t.toNat ua).nodes.getD ue.toNat ua).thing,C.b ((gs.getD t.toNat ua).nodes.getD ue.toNat ua).a.slotted,C.i .i64 ((gs.getD t.toNat ua).nodes.getD ue.toNat ua).a.slot,C.i .i64 ((gs.getD t.toNat ua).nodes.getD ue.toNat ua).a.word,C.b ((gs.getD t.toNat ua).nodes.getD ue.toNat ua).b.slotted,C.i .i64 ((gs.getD t.toNat ua).nodes.getD ue.toNat ua).b.slot,C.i .i64 ((gs.getD t.toNat ua).nodes.getD ue.toNat ua).b.word,C.i .i64 ((gs.getD t.toNat ua).nodes.getD ue.toNat ua).next,C.i .i64 ((gs.getD t.toNat ua).nodes.getD ue.toNat ua).els,C.i .i64 ((gs.getD t.toNat ua).nodes.getD ue.toNat ua).origin]] []) ?_ [] [28] [(1:Int)=((gs.getD t.toNat ua).nodes.getD ue.toNat ua).kind] W48
     exact Q4 (uP X sh lk gs t fe ud) (ue,un) ((ue+(1:Int),un)) W54 W59 (vc:=[(0:Int)≤(1:Int),(1:Int)<(10:Int),Fits ja (ue+(1:Int))]) (hv:=W7)
    ·refine tWk (St.mk 112 (zi gs t ue) [rowOf 3 (·.tc) sh,rowOf 3 (·.tc) lk,zj gs t,Reg.froz X,IntRow fe,zt gs t,zP,ownOf 207 3 (·.tc) ud,ownOf 186 4 (·.tc) un,zq gs t,zm,ownOf 4 1 (·.tc) (rchL (gs.getD t.toNat ua).nodes),Reg.box 101 [C.i .u8 2,C.i .u8 ((gs.getD t.toNat ua).nodes.getD ue.toNat ua).op,C.i .i64 ((gs.getD t.toNat ua).nodes.getD ue.toNat ua).slot,C.i .i64 ((gs.getD t.toNat ua).nodes.getD ue.toNat ua).thing,C.b ((gs.getD t.toNat ua).nodes.getD ue.toNat ua).a.slotted,C.i .i64 ((gs.getD t.toNat ua).nodes.getD ue.toNat ua).a.slot,C.i .i64 ((gs.getD t.toNat ua).nodes.getD ue.toNat ua).a.word,C.b ((gs.getD t.toNat ua).nodes.getD ue.toNat ua).b.slotted,C.i .i64 ((gs.getD t.toNat ua).nodes.getD ue.toNat ua).b.slot,C.i .i64 ((gs.getD t.toNat ua).nodes.getD ue.toNat ua).b.word,C.i .i64 ((gs.getD t.toNat ua).nodes.getD ue.toNat ua).next,C.i .i64 ((gs.getD t.toNat ua).nodes.getD ue.toNat ua).els,C.i .i64 ((gs.getD t.toNat ua).nodes.getD ue.toNat ua).origin]] []) ?_ [] [28] [(2:Int)=((gs.getD t.toNat ua).nodes.getD ue.toNat ua).kind] W48
     refine tz [13,12,11,46,45,44,10,9,7,6,2] ?_
     refine Qk Q7q (Qni ((decide ((2:Int)=(3:Int))||decide ((2:Int)=(2:Int)))&&decide ((ud.getD ((gs.getD t.toNat ua).nodes.getD ue.toNat ua).thing.toNat ua).kind=(3:Int)))) [] ?_ (vc:=[(0:Int)≤(2:Int),(2:Int)<(10:Int),(decide ((2:Int)=(3:Int))||decide ((2:Int)=(2:Int)))=true→(0:Int)≤((gs.getD t.toNat ua).nodes.getD ue.toNat ua).thing,(decide ((2:Int)=(3:Int))||decide ((2:Int)=(2:Int)))=true→((gs.getD t.toNat ua).nodes.getD ue.toNat ua).thing<(↑ud.length:Int),(decide ((2:Int)=(3:Int))||decide ((2:Int)=(2:Int)))=true→((gs.getD t.toNat ua).nodes.getD ue.toNat ua).thing.toNat<ud.length]) (hv:=W7)
     rintro ⟨uk,uy,uC,uG⟩ hY5
     try dsimp only at hY5
     refine tz [84,12,11,46,45,44,10,9,7,6,2] ?_
     refine Q0 (!((rchL (gs.getD t.toNat ua).nodes).getD ue.toNat ua).b) (fun h6=>?_) (fun h6=>?_)
     ·exact Q4 (uP X sh lk gs t fe ud) (ue,un) ((ue+(1:Int),un.set ue.toNat (Mrk.mk false false uC uG))) W54 W59 [] [17,18] (zD un ue uC uG) W34 (vc:=(zS ue un)) (hv:=W7)
     ·exact Q4 (uP X sh lk gs t fe ud) (ue,un) ((ue+(1:Int),un.set ue.toNat (Mrk.mk uk uy uC uG))) W54 W59 [] [17,18] (zE un ue uk uy uC uG) W34 (vc:=(zS ue un)) (hv:=W7)
    ·refine tWk (St.mk 112 (zi gs t ue) [rowOf 3 (·.tc) sh,rowOf 3 (·.tc) lk,zj gs t,Reg.froz X,IntRow fe,zt gs t,zP,ownOf 207 3 (·.tc) ud,ownOf 186 4 (·.tc) un,zq gs t,zm,ownOf 4 1 (·.tc) (rchL (gs.getD t.toNat ua).nodes),Reg.box 101 [C.i .u8 3,C.i .u8 ((gs.getD t.toNat ua).nodes.getD ue.toNat ua).op,C.i .i64 ((gs.getD t.toNat ua).nodes.getD ue.toNat ua).slot,C.i .i64 ((gs.getD t.toNat ua).nodes.getD ue.toNat ua).thing,C.b ((gs.getD t.toNat ua).nodes.getD ue.toNat ua).a.slotted,C.i .i64 ((gs.getD t.toNat ua).nodes.getD ue.toNat ua).a.slot,C.i .i64 ((gs.getD t.toNat ua).nodes.getD ue.toNat ua).a.word,C.b ((gs.getD t.toNat ua).nodes.getD ue.toNat ua).b.slotted,C.i .i64 ((gs.getD t.toNat ua).nodes.getD ue.toNat ua).b.slot,C.i .i64 ((gs.getD t.toNat ua).nodes.getD ue.toNat ua).b.word,C.i .i64 ((gs.getD t.toNat ua).nodes.getD ue.toNat ua).next,C.i .i64 ((gs.getD t.toNat ua).nodes.getD ue.toNat ua).els,C.i .i64 ((gs.getD t.toNat ua).nodes.getD ue.toNat ua).origin]] []) ?_ [] [28] [(3:Int)=((gs.getD t.toNat ua).nodes.getD ue.toNat ua).kind] W48
     refine tz [13,12,11,46,45,44,10,9,7,6,2] ?_
     refine Qk Q7o (Qng ((decide ((3:Int)=(3:Int))||decide ((3:Int)=(2:Int)))&&decide ((ud.getD ((gs.getD t.toNat ua).nodes.getD ue.toNat ua).thing.toNat ua).kind=(3:Int)))) [] ?_ (vc:=[(0:Int)≤(3:Int),(3:Int)<(10:Int),(decide ((3:Int)=(3:Int))||decide ((3:Int)=(2:Int)))=true→(0:Int)≤((gs.getD t.toNat ua).nodes.getD ue.toNat ua).thing,(decide ((3:Int)=(3:Int))||decide ((3:Int)=(2:Int)))=true→((gs.getD t.toNat ua).nodes.getD ue.toNat ua).thing<(↑ud.length:Int),(decide ((3:Int)=(3:Int))||decide ((3:Int)=(2:Int)))=true→((gs.getD t.toNat ua).nodes.getD ue.toNat ua).thing.toNat<ud.length]) (hv:=W7)
     rintro ⟨uk,uy,uC,uG⟩ hY5
     try dsimp only at hY5
     refine tz [84,12,11,46,45,44,10,9,7,6,2] ?_
     refine Q0 (!((rchL (gs.getD t.toNat ua).nodes).getD ue.toNat ua).b) (fun h6=>?_) (fun h6=>?_)
     ·exact Q4 (uP X sh lk gs t fe ud) (ue,un) ((ue+(1:Int),un.set ue.toNat (Mrk.mk false false uC uG))) W54 W59 [] [17,18] (zD un ue uC uG) W34 (vc:=(zS ue un)) (hv:=W7)
     ·exact Q4 (uP X sh lk gs t fe ud) (ue,un) ((ue+(1:Int),un.set ue.toNat (Mrk.mk uk uy uC uG))) W54 W59 [] [17,18] (zE un ue uk uy uC uG) W34 (vc:=(zS ue un)) (hv:=W7)
    ·refine tWk (St.mk 112 (zi gs t ue) [rowOf 3 (·.tc) sh,rowOf 3 (·.tc) lk,zj gs t,Reg.froz X,IntRow fe,zt gs t,zP,ownOf 207 3 (·.tc) ud,ownOf 186 4 (·.tc) un,zq gs t,zm,ownOf 4 1 (·.tc) (rchL (gs.getD t.toNat ua).nodes),Reg.box 101 [C.i .u8 4,C.i .u8 ((gs.getD t.toNat ua).nodes.getD ue.toNat ua).op,C.i .i64 ((gs.getD t.toNat ua).nodes.getD ue.toNat ua).slot,C.i .i64 ((gs.getD t.toNat ua).nodes.getD ue.toNat ua).thing,C.b ((gs.getD t.toNat ua).nodes.getD ue.toNat ua).a.slotted,C.i .i64 ((gs.getD t.toNat ua).nodes.getD ue.toNat ua).a.slot,C.i .i64 ((gs.getD t.toNat ua).nodes.getD ue.toNat ua).a.word,C.b ((gs.getD t.toNat ua).nodes.getD ue.toNat ua).b.slotted,C.i .i64 ((gs.getD t.toNat ua).nodes.getD ue.toNat ua).b.slot,C.i .i64 ((gs.getD t.toNat ua).nodes.getD ue.toNat ua).b.word,C.i .i64 ((gs.getD t.toNat ua).nodes.getD ue.toNat ua).next,C.i .i64 ((gs.getD t.toNat ua).nodes.getD ue.toNat ua).els,C.i .i64 ((gs.getD t.toNat ua).nodes.getD ue.toNat ua).origin]] []) ?_ [] [28] [(4:Int)=((gs.getD t.toNat ua).nodes.getD ue.toNat ua).kind] W48
     refine tz [13,12,11,46,45,44,10,9,7,6,2] ?_
     refine Qk Gg (Q87 ((decide ((4:Int)=(3:Int))||decide ((4:Int)=(2:Int)))&&decide ((ud.getD ((gs.getD t.toNat ua).nodes.getD ue.toNat ua).thing.toNat ua).kind=(3:Int)))) [] ?_ [0] [((decide ((4:Int)=(3:Int))||decide ((4:Int)=(2:Int)))&&decide ((ud.getD ((gs.getD t.toNat ua).nodes.getD ue.toNat ua).thing.toNat ua).kind=(3:Int)))=false] W34 (vc:=[(0:Int)≤(4:Int),(4:Int)<(10:Int),(decide ((4:Int)=(3:Int))||decide ((4:Int)=(2:Int)))=true→(0:Int)≤((gs.getD t.toNat ua).nodes.getD ue.toNat ua).thing,(decide ((4:Int)=(3:Int))||decide ((4:Int)=(2:Int)))=true→((gs.getD t.toNat ua).nodes.getD ue.toNat ua).thing<(↑ud.length:Int),(decide ((4:Int)=(3:Int))||decide ((4:Int)=(2:Int)))=true→((gs.getD t.toNat ua).nodes.getD ue.toNat ua).thing.toNat<ud.length]) (hv:=W7)
     rintro ⟨uk,uy,uC,uG⟩ hY5
     try dsimp only at hY5
     refine tz [84,12,11,46,45,44,10,9,7,6,2] ?_
     refine Q0 (!((rchL (gs.getD t.toNat ua).nodes).getD ue.toNat ua).b) (fun h6=>?_) (fun h6=>?_)
     ·exact Q4 (uP X sh lk gs t fe ud) (ue,un) ((ue+(1:Int),un.set ue.toNat (Mrk.mk false false uC uG))) W54 W59 [] [17,18] (zD un ue uC uG) W34 (vc:=(zS ue un)) (hv:=W7)
     ·exact Q4 (uP X sh lk gs t fe ud) (ue,un) ((ue+(1:Int),un.set ue.toNat (Mrk.mk uk uy uC uG))) W54 W59 [] [17,18] (zE un ue uk uy uC uG) W34 (vc:=(zS ue un)) (hv:=W7)
    ·refine tWk (St.mk 112 (zi gs t ue) [rowOf 3 (·.tc) sh,rowOf 3 (·.tc) lk,zj gs t,Reg.froz X,IntRow fe,zt gs t,zP,ownOf 207 3 (·.tc) ud,ownOf 186 4 (·.tc) un,zq gs t,zm,ownOf 4 1 (·.tc) (rchL (gs.getD t.toNat ua).nodes),Reg.box 101 [C.i .u8 5,C.i .u8 ((gs.getD t.toNat ua).nodes.getD ue.toNat ua).op,C.i .i64 ((gs.getD t.toNat ua).nodes.getD ue.toNat ua).slot,C.i .i64 ((gs.getD t.toNat ua).nodes.getD ue.toNat ua).thing,C.b ((gs.getD t.toNat ua).nodes.getD ue.toNat ua).a.slotted,C.i .i64 ((gs.getD t.toNat ua).nodes.getD ue.toNat ua).a.slot,C.i .i64 ((gs.getD t.toNat ua).nodes.getD ue.toNat ua).a.word,C.b ((gs.getD t.toNat ua).nodes.getD ue.toNat ua).b.slotted,C.i .i64 ((gs.getD t.toNat ua).nodes.getD ue.toNat ua).b.slot,C.i .i64 ((gs.getD t.toNat ua).nodes.getD ue.toNat ua).b.word,C.i .i64 ((gs.getD t.toNat ua).nodes.getD ue.toNat ua).next,C.i .i64 ((gs.getD t.toNat ua).nodes.getD ue.toNat ua).els,C.i .i64 ((gs.getD t.toNat ua).nodes.getD ue.toNat ua).origin]] []) ?_ [] [28] [(5:Int)=((gs.getD t.toNat ua).nodes.getD ue.toNat ua).kind] W48
     refine tz [13,12,11,46,45,44,10,9,7,6,2] ?_
     refine Qk Gg (Q87 ((decide ((5:Int)=(3:Int))||decide ((5:Int)=(2:Int)))&&decide ((ud.getD ((gs.getD t.toNat ua).nodes.getD ue.toNat ua).thing.toNat ua).kind=(3:Int)))) [] ?_ [0] [((decide ((5:Int)=(3:Int))||decide ((5:Int)=(2:Int)))&&decide ((ud.getD ((gs.getD t.toNat ua).nodes.getD ue.toNat ua).thing.toNat ua).kind=(3:Int)))=false] W34 (vc:=[(0:Int)≤(5:Int),(5:Int)<(10:Int),(decide ((5:Int)=(3:Int))||decide ((5:Int)=(2:Int)))=true→(0:Int)≤((gs.getD t.toNat ua).nodes.getD ue.toNat ua).thing,(decide ((5:Int)=(3:Int))||decide ((5:Int)=(2:Int)))=true→((gs.getD t.toNat ua).nodes.getD ue.toNat ua).thing<(↑ud.length:Int),(decide ((5:Int)=(3:Int))||decide ((5:Int)=(2:Int)))=true→((gs.getD t.toNat ua).nodes.getD ue.toNat ua).thing.toNat<ud.length]) (hv:=W7)
     rintro ⟨uk,uy,uC,uG⟩ hY5
     try dsimp only at hY5
     refine tz [84,12,11,46,45,44,10,9,7,6,2] ?_
     refine Q0 (!((rchL (gs.getD t.toNat ua).nodes).getD ue.toNat ua).b) (fun h6=>?_) (fun h6=>?_)
     ·exact Q4 (uP X sh lk gs t fe ud) (ue,un) ((ue+(1:Int),un.set ue.toNat (Mrk.mk false false uC uG))) W54 W59 [] [17,18] (zD un ue uC uG) W34 (vc:=(zS ue un)) (hv:=W7)
     ·exact Q4 (uP X sh lk gs t fe ud) (ue,un) ((ue+(1:Int),un.set ue.toNat (Mrk.mk uk uy uC uG))) W54 W59 [] [17,18] (zE un ue uk uy uC uG) W34 (vc:=(zS ue un)) (hv:=W7)
    ·refine tWk (St.mk 112 (zi gs t ue) [rowOf 3 (·.tc) sh,rowOf 3 (·.tc) lk,zj gs t,Reg.froz X,IntRow fe,zt gs t,zP,ownOf 207 3 (·.tc) ud,ownOf 186 4 (·.tc) un,zq gs t,zm,ownOf 4 1 (·.tc) (rchL (gs.getD t.toNat ua).nodes),Reg.box 101 [C.i .u8 6,C.i .u8 ((gs.getD t.toNat ua).nodes.getD ue.toNat ua).op,C.i .i64 ((gs.getD t.toNat ua).nodes.getD ue.toNat ua).slot,C.i .i64 ((gs.getD t.toNat ua).nodes.getD ue.toNat ua).thing,C.b ((gs.getD t.toNat ua).nodes.getD ue.toNat ua).a.slotted,C.i .i64 ((gs.getD t.toNat ua).nodes.getD ue.toNat ua).a.slot,C.i .i64 ((gs.getD t.toNat ua).nodes.getD ue.toNat ua).a.word,C.b ((gs.getD t.toNat ua).nodes.getD ue.toNat ua).b.slotted,C.i .i64 ((gs.getD t.toNat ua).nodes.getD ue.toNat ua).b.slot,C.i .i64 ((gs.getD t.toNat ua).nodes.getD ue.toNat ua).b.word,C.i .i64 ((gs.getD t.toNat ua).nodes.getD ue.toNat ua).next,C.i .i64 ((gs.getD t.toNat ua).nodes.getD ue.toNat ua).els,C.i .i64 ((gs.getD t.toNat ua).nodes.getD ue.toNat ua).origin]] []) ?_ [] [28] [(6:Int)=((gs.getD t.toNat ua).nodes.getD ue.toNat ua).kind] W48
     refine tz [13,12,11,46,45,44,10,9,7,6,2] ?_
     refine Qk Q7p (Qnh ((decide ((6:Int)=(3:Int))||decide ((6:Int)=(2:Int)))&&decide ((ud.getD ((gs.getD t.toNat ua).nodes.getD ue.toNat ua).thing.toNat ua).kind=(3:Int)))) [] ?_ [0] [((decide ((6:Int)=(3:Int))||decide ((6:Int)=(2:Int)))&&decide ((ud.getD ((gs.getD t.toNat ua).nodes.getD ue.toNat ua).thing.toNat ua).kind=(3:Int)))=false] W34 (vc:=[(0:Int)≤(6:Int),(6:Int)<(10:Int),(decide ((6:Int)=(3:Int))||decide ((6:Int)=(2:Int)))=true→(0:Int)≤((gs.getD t.toNat ua).nodes.getD ue.toNat ua).thing,(decide ((6:Int)=(3:Int))||decide ((6:Int)=(2:Int)))=true→((gs.getD t.toNat ua).nodes.getD ue.toNat ua).thing<(↑ud.length:Int),(decide ((6:Int)=(3:Int))||decide ((6:Int)=(2:Int)))=true→((gs.getD t.toNat ua).nodes.getD ue.toNat ua).thing.toNat<ud.length]) (hv:=W7)
     rintro ⟨uk,uy,uC,uG⟩ hY5
     try dsimp only at hY5
     refine tz [84,12,11,46,45,44,10,9,7,6,2] ?_
     refine Q0 (!((rchL (gs.getD t.toNat ua).nodes).getD ue.toNat ua).b) (fun h6=>?_) (fun h6=>?_)
     ·exact Q4 (uP X sh lk gs t fe ud) (ue,un) ((ue+(1:Int),un.set ue.toNat (Mrk.mk false false uC uG))) W54 W59 [] [17,18] (zD un ue uC uG) W34 (vc:=(zS ue un)) (hv:=W7)
     ·exact Q4 (uP X sh lk gs t fe ud) (ue,un) ((ue+(1:Int),un.set ue.toNat (Mrk.mk uk uy uC uG))) W54 W59 [] [17,18] (zE un ue uk uy uC uG) W34 (vc:=(zS ue un)) (hv:=W7)
    ·refine tWk (St.mk 112 (zi gs t ue) [rowOf 3 (·.tc) sh,rowOf 3 (·.tc) lk,zj gs t,Reg.froz X,IntRow fe,zt gs t,zP,ownOf 207 3 (·.tc) ud,ownOf 186 4 (·.tc) un,zq gs t,zm,ownOf 4 1 (·.tc) (rchL (gs.getD t.toNat ua).nodes),Reg.box 101 [C.i .u8 7,C.i .u8 ((gs.getD t.toNat ua).nodes.getD ue.toNat ua).op,C.i .i64 ((gs.getD t.toNat ua).nodes.getD ue.toNat ua).slot,C.i .i64 ((gs.getD t.toNat ua).nodes.getD ue.toNat ua).thing,C.b ((gs.getD t.toNat ua).nodes.getD ue.toNat ua).a.slotted,C.i .i64 ((gs.getD t.toNat ua).nodes.getD ue.toNat ua).a.slot,C.i .i64 ((gs.getD t.toNat ua).nodes.getD ue.toNat ua).a.word,C.b ((gs.getD t.toNat ua).nodes.getD ue.toNat ua).b.slotted,C.i .i64 ((gs.getD t.toNat ua).nodes.getD ue.toNat ua).b.slot,C.i .i64 ((gs.getD t.toNat ua).nodes.getD ue.toNat ua).b.word,C.i .i64 ((gs.getD t.toNat ua).nodes.getD ue.toNat ua).next,C.i .i64 ((gs.getD t.toNat ua).nodes.getD ue.toNat ua).els,C.i .i64 ((gs.getD t.toNat ua).nodes.getD ue.toNat ua).origin]] []) ?_ [] [28] [(7:Int)=((gs.getD t.toNat ua).nodes.getD ue.toNat ua).kind] W48
     refine tz [13,12,11,46,45,44,10,9,7,6,2] ?_
     refine Qk Gg (Q87 ((decide ((7:Int)=(3:Int))||decide ((7:Int)=(2:Int)))&&decide ((ud.getD ((gs.getD t.toNat ua).nodes.getD ue.toNat ua).thing.toNat ua).kind=(3:Int)))) [] ?_ [0] [((decide ((7:Int)=(3:Int))||decide ((7:Int)=(2:Int)))&&decide ((ud.getD ((gs.getD t.toNat ua).nodes.getD ue.toNat ua).thing.toNat ua).kind=(3:Int)))=false] W34 (vc:=[(0:Int)≤(7:Int),(7:Int)<(10:Int),(decide ((7:Int)=(3:Int))||decide ((7:Int)=(2:Int)))=true→(0:Int)≤((gs.getD t.toNat ua).nodes.getD ue.toNat ua).thing,(decide ((7:Int)=(3:Int))||decide ((7:Int)=(2:Int)))=true→((gs.getD t.toNat ua).nodes.getD ue.toNat ua).thing<(↑ud.length:Int),(decide ((7:Int)=(3:Int))||decide ((7:Int)=(2:Int)))=true→((gs.getD t.toNat ua).nodes.getD ue.toNat ua).thing.toNat<ud.length]) (hv:=W7)
     rintro ⟨uk,uy,uC,uG⟩ hY5
     try dsimp only at hY5
     refine tz [84,12,11,46,45,44,10,9,7,6,2] ?_
     refine Q0 (!((rchL (gs.getD t.toNat ua).nodes).getD ue.toNat ua).b) (fun h6=>?_) (fun h6=>?_)
     ·exact Q4 (uP X sh lk gs t fe ud) (ue,un) ((ue+(1:Int),un.set ue.toNat (Mrk.mk false false uC uG))) W54 W59 [] [17,18] (zD un ue uC uG) W34 (vc:=(zS ue un)) (hv:=W7)
     ·exact Q4 (uP X sh lk gs t fe ud) (ue,un) ((ue+(1:Int),un.set ue.toNat (Mrk.mk uk uy uC uG))) W54 W59 [] [17,18] (zE un ue uk uy uC uG) W34 (vc:=(zS ue un)) (hv:=W7)
    ·refine tWk (St.mk 112 (zi gs t ue) [rowOf 3 (·.tc) sh,rowOf 3 (·.tc) lk,zj gs t,Reg.froz X,IntRow fe,zt gs t,zP,ownOf 207 3 (·.tc) ud,ownOf 186 4 (·.tc) un,zq gs t,zm,ownOf 4 1 (·.tc) (rchL (gs.getD t.toNat ua).nodes),Reg.box 101 [C.i .u8 8,C.i .u8 ((gs.getD t.toNat ua).nodes.getD ue.toNat ua).op,C.i .i64 ((gs.getD t.toNat ua).nodes.getD ue.toNat ua).slot,C.i .i64 ((gs.getD t.toNat ua).nodes.getD ue.toNat ua).thing,C.b ((gs.getD t.toNat ua).nodes.getD ue.toNat ua).a.slotted,C.i .i64 ((gs.getD t.toNat ua).nodes.getD ue.toNat ua).a.slot,C.i .i64 ((gs.getD t.toNat ua).nodes.getD ue.toNat ua).a.word,C.b ((gs.getD t.toNat ua).nodes.getD ue.toNat ua).b.slotted,C.i .i64 ((gs.getD t.toNat ua).nodes.getD ue.toNat ua).b.slot,C.i .i64 ((gs.getD t.toNat ua).nodes.getD ue.toNat ua).b.word,C.i .i64 ((gs.getD t.toNat ua).nodes.getD ue.toNat ua).next,C.i .i64 ((gs.getD t.toNat ua).nodes.getD ue.toNat ua).els,C.i .i64 ((gs.getD t.toNat ua).nodes.getD ue.toNat ua).origin]] []) ?_ [] [28] [(8:Int)=((gs.getD t.toNat ua).nodes.getD ue.toNat ua).kind] W48
     exact Q4 (uP X sh lk gs t fe ud) (ue,un) ((ue+(1:Int),un)) W54 W59 (vc:=[(0:Int)≤(8:Int),(8:Int)<(10:Int),Fits ja (ue+(1:Int))]) (hv:=W7)
    ·refine tWk (St.mk 112 (zi gs t ue) [rowOf 3 (·.tc) sh,rowOf 3 (·.tc) lk,zj gs t,Reg.froz X,IntRow fe,zt gs t,zP,ownOf 207 3 (·.tc) ud,ownOf 186 4 (·.tc) un,zq gs t,zm,ownOf 4 1 (·.tc) (rchL (gs.getD t.toNat ua).nodes),Reg.box 101 [C.i .u8 9,C.i .u8 ((gs.getD t.toNat ua).nodes.getD ue.toNat ua).op,C.i .i64 ((gs.getD t.toNat ua).nodes.getD ue.toNat ua).slot,C.i .i64 ((gs.getD t.toNat ua).nodes.getD ue.toNat ua).thing,C.b ((gs.getD t.toNat ua).nodes.getD ue.toNat ua).a.slotted,C.i .i64 ((gs.getD t.toNat ua).nodes.getD ue.toNat ua).a.slot,C.i .i64 ((gs.getD t.toNat ua).nodes.getD ue.toNat ua).a.word,C.b ((gs.getD t.toNat ua).nodes.getD ue.toNat ua).b.slotted,C.i .i64 ((gs.getD t.toNat ua).nodes.getD ue.toNat ua).b.slot,C.i .i64 ((gs.getD t.toNat ua).nodes.getD ue.toNat ua).b.word,C.i .i64 ((gs.getD t.toNat ua).nodes.getD ue.toNat ua).next,C.i .i64 ((gs.getD t.toNat ua).nodes.getD ue.toNat ua).els,C.i .i64 ((gs.getD t.toNat ua).nodes.getD ue.toNat ua).origin]] []) ?_ [] [28] [(9:Int)=((gs.getD t.toNat ua).nodes.getD ue.toNat ua).kind] W48
     exact Q4 (uP X sh lk gs t fe ud) (ue,un) ((ue+(1:Int),un)) W54 W59 (vc:=[(0:Int)≤(9:Int),(9:Int)<(10:Int),Fits ja (ue+(1:Int))]) (hv:=W7)
 ·refine tz [46,45,44,10,9,7,6,2] ?_
  refine Q6 (wk X sh lk gs t fe ud un) (((0:Int),un)) (⟨jz _,hJ2.2⟩) ?_
  rintro ⟨ur,uv⟩ hJ4
  dsimp only [wk] at hJ4
  refine tz [99,98,97,9,6] ?_
  refine Q0 (decide (ur<(↑fe.length:Int))) (fun h5=>?_) (fun h5=>?_)
  ·exact Q4 (wk X sh lk gs t fe ud un) (ur,uv) ((ur+(1:Int),uv.set (fe.getD ur.toNat 0).toNat (Mrk.mk (uv.getD (fe.getD ur.toNat 0).toNat ua).s (uv.getD (fe.getD ur.toNat 0).toNat ua).l (uv.getD (fe.getD ur.toNat 0).toNat ua).d true))) (by dsimp only [wk];exact W246) (by have z:=hJ4.1;exact ⟨by omega,by rw [jF];exact hJ4.2⟩) [] [17,18] [(uv.set (fe.getD ur.toNat 0).toNat (Mrk.mk (uv.getD (fe.getD ur.toNat 0).toNat ua).s (uv.getD (fe.getD ur.toNat 0).toNat ua).l (uv.getD (fe.getD ur.toNat 0).toNat ua).d true)).length=uv.length,∀ (i:Nat),i<(uv.set (fe.getD ur.toNat 0).toNat (Mrk.mk (uv.getD (fe.getD ur.toNat 0).toNat ua).s (uv.getD (fe.getD ur.toNat 0).toNat ua).l (uv.getD (fe.getD ur.toNat 0).toNat ua).d true)).length→((uv.set (fe.getD ur.toNat 0).toNat (Mrk.mk (uv.getD (fe.getD ur.toNat 0).toNat ua).s (uv.getD (fe.getD ur.toNat 0).toNat ua).l (uv.getD (fe.getD ur.toNat 0).toNat ua).d true)).getD i ua).tc=updT (fun i=>(uv.getD i ua).tc) (fe.getD ur.toNat 0).toNat 3 [jS true] i] W34 (vc:=[(0:Int)≤ur,ur<(↑fe.length:Int),ur.toNat<fe.length,(0:Int)≤fe.getD ur.toNat 0,fe.getD ur.toNat 0<(↑uv.length:Int),(fe.getD ur.toNat 0).toNat<uv.length,Fits ja (ur+(1:Int))]) (hv:=W7)
  ·exact Q2 [0,1,2,3,4,9,5,8] (res:=_) (post:=_) (hS:=⟨uv,hJ4.2,rfl,rfl⟩)
abbrev zbc (y0:Grf):Reg:=Reg.ro [C.v (jC y0.name),C.i .i64 y0.locals,C.i .i64 y0.slots,C.h 1,C.h 2]
def vG (g:Grf) (M:List Mrk):Lp (Int×List Int):=⟨fun x=>{ N:=24,fr:=[se 11 (C.i .i64 x.1),se 10 (C.i .i64 (↑M.length:Int)),se 9 (C.h 2),se 3 (C.h 3),zL],rg:=[zbc g,Reg.dead,rowOf 4 (·.tc) M]++[IntOwn x.2],wr:=[] },fun x=>0≤x.1∧x.1≤(M.length:Int)∧x.2.length≤x.1.toNat∧inR M.length x.2,fun x=>((M.length:Int)-x.1).toNat⟩
abbrev zbX (y0:Grf):Reg:=.ro [C.v (jC y0.name),C.i .i64 y0.locals,C.i .i64 y0.slots,C.h 1,C.h 2]
theorem Qkc (g:Grf) (M:List Mrk) (hM:M.length≤4096):Ctr jb 142 [zbX g,.dead,Mrk.rowR M] [.c (.p 0 0)]
 (DetE (fun l:List Int=>l.length≤M.length∧inR M.length l) (fun _=>.c (.h 3)) (fun l=>[.dead,.dead,.dead,IntOwn l])):=by
 refine Ctr.intro [] Tryz.func142 K K ?_
 refine Q6 (vG g M) (((0:Int),[])) (⟨jz _,by omega,jn _,inR.nil _⟩) ?_ [0,1,2,1000003] [5] [(0:Nat)=0] W20
 rintro ⟨ud,ui⟩ hJ1
 dsimp only [vG] at hJ1
 refine tz [11,10,9,3,2] ?_
 refine Q0 (decide (ud<(↑M.length:Int))) (fun h2=>?_) (fun h2=>?_)
 ·refine tz [11,10,9,3,2] ?_
  refine Q0 ((M.getD ud.toNat ua).s) (fun h3=>?_) (fun h3=>?_) (vc:=[(0:Int)≤ud,ud<(↑M.length:Int),ud.toNat<M.length]) (hv:=W125)
  ·exact Q4 (vG g M) (ud,ui) ((ud+(1:Int),ui++[ud])) W210 W123 [0,1,2,6] [5,6,7] (zaf ui ud) W20 (vc:=(zaK ui ud)) (hv:=W125)
  ·exact Q4 (vG g M) (ud,ui) ((ud+(1:Int),ui)) W210 W123 (vc:=(zF ud)) (hv:=W125)
 ·exact Q2 (res:=_) (post:=_) (hS:=⟨ui,(by have z:=hJ1.2.2.1;have z1:=hJ1.2.1;have z0:=hJ1.1;exact ⟨by omega,hJ1.2.2.2⟩),rfl,rfl⟩)
def wl (g:Grf) (M:List Mrk) (td:List Int):Lp (List Bo×List Int):=⟨fun x=>{ N:=73,fr:=[se 5 (C.h 4),zaH,zb9,se 1 (C.h 5)],rg:=[zbc g,rowOf 13 (·.tc) g.nodes,rowOf 4 (·.tc) M,Reg.dead,Bo.ownR (x.1)]++[IntOwn x.2],wr:=[] },fun x=>SpO g.nodes.length (2 * g.nodes.length+4096) x.1 x.2,fun x=>(2 * falses x.1+x.2.length)⟩
def vf (g:Grf) (M:List Mrk) (ud:List Bo) (ui:List Int):Lp (Int×List Bo×List Int):=⟨fun x=>{ N:=73,fr:=[se 40 (C.i .i64 x.1),{ slot:=39,g:=[],sv:=SV.c (C.i .i64 (↑(flrL (g.nodes.getD (ui.getD ((↑ui.length:Int)-(1:Int)).toNat (0:Int)).toNat ua)).length:Int)) },se 38 (C.h 6),se 1 (C.h 7),se 5 (C.h 4),zaH,zb9],rg:=[zbc g,rowOf 13 (·.tc) g.nodes,rowOf 4 (·.tc) M,Reg.dead,Bo.ownR (x.2.1),Reg.dead,IntOwn (flrL (g.nodes.getD (ui.getD ((↑ui.length:Int)-(1:Int)).toNat (0:Int)).toNat ua)),IntOwn (x.2.2)],wr:=[] },fun x=>SpI g.nodes.length (2 * g.nodes.length+4096) (2 * falses ud+ui.length) (flrL (g.nodes.getD (ui.getD ((ui.length:Int)-(1:Int)).toNat (0:Int)).toNat ua)).length x.1 x.2.1 x.2.2,fun x=>(((flrL (g.nodes.getD (ui.getD ((ui.length:Int)-(1:Int)).toNat (0:Int)).toNat ua)).length:Int)-x.1).toNat⟩
theorem Qhi (g:Grf) (hq:zG g) (hN:1≤g.nodes.length∧g.nodes.length≤4096) (M:List Mrk) (hM:M.length=g.nodes.length) (td:List Int) (htd:inR g.nodes.length td) (hl:td.length≤4096):Ctr jb 141 [zbX g,zao g,Mrk.rowR M,IntOwn td] [.c (.p 0 0),.c (.h 3)]
 (DetE (fun O:List Bo=>O.length=g.nodes.length) (fun _=>.c (.h 4)) (fun O=>[.dead,.dead,.dead,.dead,Bo.ownR O])):=by
 refine Ctr.intro [] Tryz.func141 K K ?_
 refine Q6 (wl g M td) ((jh g.nodes.length (Bo.mk false),td)) (SpO.start htd (by show 2 * _+td.length≤_;omega)) ?_ [0,1,2,3,4,3] [7,8] [(jh g.nodes.length (Bo.mk false)).length=M.length,∀ (i:Nat),i<(jh g.nodes.length (Bo.mk false)).length→((jh g.nodes.length (Bo.mk false)).getD i ua).tc=fun j=>valT (jS false).cells.toList j] W60 (vc:=[(0:Int)≤(↑M.length:Int),(↑M.length:Int)≤(↑M.length:Int),(↑M.length:Int) * (1:Int)≤(140737488355328:Int),(↑M.length:Int)≤(↑maxLen:Int)]) (hv:=W26)
 rintro ⟨ud,ui⟩ hJ1
 dsimp only [wl] at hJ1
 refine tz [5,4,0,1] ?_
 refine Q0 (decide ((0:Int)<(↑ui.length:Int))) (fun h2=>?_) (fun h2=>?_)
 ·refine tz [5,4,0,1] ?_
  refine Q3 Q6p (Qf4 (g.nodes.getD (ui.getD ((↑ui.length:Int)-(1:Int)).toNat (0:Int)).toNat ua)) [] ?_ (vc:=[Fits ja ((↑ui.length:Int)-(1:Int)),(0:Int)≤(↑ui.length:Int)-(1:Int),(↑ui.length:Int)-(1:Int)<(↑ui.length:Int),((↑ui.length:Int)-(1:Int)).toNat<ui.length,Fits ja ((↑ui.length:Int)-(1:Int)),(0:Int)≤(0:Int),(0:Int)≤(↑ui.length:Int)-(1:Int),(↑ui.length:Int)-(1:Int)≤(↑ui.length:Int),(0:Int)<(↑ui.length:Int),(0:Int)≤ui.getD ((↑ui.length:Int)-(1:Int)).toNat (0:Int),ui.getD ((↑ui.length:Int)-(1:Int)).toNat (0:Int)<(↑g.nodes.length:Int),(ui.getD ((↑ui.length:Int)-(1:Int)).toNat (0:Int)).toNat<g.nodes.length]) (hv:=W26)
  refine tz [38,1,5,4,0] ?_
  refine RunF.hereL (vc:=[]) K trivial ?_
  refine RunF.trim 5 ((ui.length-1)) (ty:=3) (size:=1) (n:=ui.length) (f:=fun i=>i64T (ui.getD i 0)) (vc:=[((↑ui.length:Int)-(1:Int)).toNat-0=ui.length-1]) K K W174 K (by simp only [Conj]<;>(repeat' apply jl)<;>omega) ?_
  refine tz [40,39,38,1,5,4,0] ?_
  refine Q6 (vf g M ud ui) (((0:Int),ud,jR (ui.length-1) ui)) (hJ1.inner W174 _) ?_ [] [11,12] (zaV ui) W60
  rintro ⟨ug,um,uq⟩ hJ3
  dsimp only [vf] at hJ3
  refine tz [40,39,38,1,5,4,0] ?_
  refine Q0 (decide (ug<(↑(flrL (g.nodes.getD (ui.getD ((↑ui.length:Int)-(1:Int)).toNat (0:Int)).toNat ua)).length:Int))) (fun h4=>?_) (fun h4=>?_)
  ·refine tz [40,39,38,1,5,4,0] ?_
   refine Q0 (!(um.getD ((flrL (g.nodes.getD (ui.getD ((↑ui.length:Int)-(1:Int)).toNat (0:Int)).toNat ua)).getD ug.toNat 0).toNat ua).b&&!(M.getD ((flrL (g.nodes.getD (ui.getD ((↑ui.length:Int)-(1:Int)).toNat (0:Int)).toNat ua)).getD ug.toNat 0).toNat ua).f) (fun h5=>?_) (fun h5=>?_) (vc:=[(0:Int)≤ug,ug<(↑(flrL (g.nodes.getD (ui.getD ((↑ui.length:Int)-(1:Int)).toNat (0:Int)).toNat ua)).length:Int),ug.toNat<(flrL (g.nodes.getD (ui.getD ((↑ui.length:Int)-(1:Int)).toNat (0:Int)).toNat ua)).length,(0:Int)≤(flrL (g.nodes.getD (ui.getD ((↑ui.length:Int)-(1:Int)).toNat (0:Int)).toNat ua)).getD ug.toNat 0,(flrL (g.nodes.getD (ui.getD ((↑ui.length:Int)-(1:Int)).toNat (0:Int)).toNat ua)).getD ug.toNat 0<(↑M.length:Int),((flrL (g.nodes.getD (ui.getD ((↑ui.length:Int)-(1:Int)).toNat (0:Int)).toNat ua)).getD ug.toNat 0).toNat<M.length,(0:Int)≤(flrL (g.nodes.getD (ui.getD ((↑ui.length:Int)-(1:Int)).toNat (0:Int)).toNat ua)).getD ug.toNat 0,(flrL (g.nodes.getD (ui.getD ((↑ui.length:Int)-(1:Int)).toNat (0:Int)).toNat ua)).getD ug.toNat 0<(↑um.length:Int),((flrL (g.nodes.getD (ui.getD ((↑ui.length:Int)-(1:Int)).toNat (0:Int)).toNat ua)).getD ug.toNat 0).toNat<um.length]) (hv:=W26)
   ·refine tz [9,8,40,39,38,1,5,4,0] ?_
    refine Q0 (!(M.getD ((flrL (g.nodes.getD (ui.getD ((↑ui.length:Int)-(1:Int)).toNat (0:Int)).toNat ua)).getD ug.toNat 0).toNat ua).d) (fun h6=>?_) (fun h6=>?_) (vc:=[(0:Int)≤(flrL (g.nodes.getD (ui.getD ((↑ui.length:Int)-(1:Int)).toNat (0:Int)).toNat ua)).getD ug.toNat 0,(flrL (g.nodes.getD (ui.getD ((↑ui.length:Int)-(1:Int)).toNat (0:Int)).toNat ua)).getD ug.toNat 0<(↑um.length:Int),((flrL (g.nodes.getD (ui.getD ((↑ui.length:Int)-(1:Int)).toNat (0:Int)).toNat ua)).getD ug.toNat 0).toNat<um.length]) (hv:=W26)
    ·exact Q4 (vf g M ud ui) (ug,um,uq) ((ug+(1:Int),um.set ((flrL (g.nodes.getD (ui.getD ((↑ui.length:Int)-(1:Int)).toNat (0:Int)).toNat ua)).getD ug.toNat 0).toNat (Bo.mk true),uq++[(flrL (g.nodes.getD (ui.getD ((↑ui.length:Int)-(1:Int)).toNat (0:Int)).toNat ua)).getD ug.toNat 0])) W184 W98 [0,1,2,3,4,5,6,10] [7,8,11,12,13] [(um.set ((flrL (g.nodes.getD (ui.getD ((↑ui.length:Int)-(1:Int)).toNat (0:Int)).toNat ua)).getD ug.toNat 0).toNat (Bo.mk true)).length=um.length,∀ (i:Nat),i<(um.set ((flrL (g.nodes.getD (ui.getD ((↑ui.length:Int)-(1:Int)).toNat (0:Int)).toNat ua)).getD ug.toNat 0).toNat (Bo.mk true)).length→((um.set ((flrL (g.nodes.getD (ui.getD ((↑ui.length:Int)-(1:Int)).toNat (0:Int)).toNat ua)).getD ug.toNat 0).toNat (Bo.mk true)).getD i ua).tc=updT (fun i=>(um.getD i ua).tc) ((flrL (g.nodes.getD (ui.getD ((↑ui.length:Int)-(1:Int)).toNat (0:Int)).toNat ua)).getD ug.toNat 0).toNat 0 [jS true] i,(uq++[(flrL (g.nodes.getD (ui.getD ((↑ui.length:Int)-(1:Int)).toNat (0:Int)).toNat ua)).getD ug.toNat 0]).length=uq.length+1,∀ (i:Nat),i<(uq++[(flrL (g.nodes.getD (ui.getD ((↑ui.length:Int)-(1:Int)).toNat (0:Int)).toNat ua)).getD ug.toNat 0]).length→i≠uq.length→i64T ((uq++[(flrL (g.nodes.getD (ui.getD ((↑ui.length:Int)-(1:Int)).toNat (0:Int)).toNat ua)).getD ug.toNat 0]).getD i 0)=i64T (uq.getD i 0),i64T ((uq++[(flrL (g.nodes.getD (ui.getD ((↑ui.length:Int)-(1:Int)).toNat (0:Int)).toNat ua)).getD ug.toNat 0]).getD uq.length 0) 0=TC.val (jg ja ((flrL (g.nodes.getD (ui.getD ((↑ui.length:Int)-(1:Int)).toNat (0:Int)).toNat ua)).getD ug.toNat 0))] W60 (vc:=(zaK uq ug)) (hv:=W26)
    ·exact Q4 (vf g M ud ui) (ug,um,uq) ((ug+(1:Int),um.set ((flrL (g.nodes.getD (ui.getD ((↑ui.length:Int)-(1:Int)).toNat (0:Int)).toNat ua)).getD ug.toNat 0).toNat (Bo.mk true),uq)) W184 W98 [] [7,8] [(um.set ((flrL (g.nodes.getD (ui.getD ((↑ui.length:Int)-(1:Int)).toNat (0:Int)).toNat ua)).getD ug.toNat 0).toNat (Bo.mk true)).length=um.length,∀ (i:Nat),i<(um.set ((flrL (g.nodes.getD (ui.getD ((↑ui.length:Int)-(1:Int)).toNat (0:Int)).toNat ua)).getD ug.toNat 0).toNat (Bo.mk true)).length→((um.set ((flrL (g.nodes.getD (ui.getD ((↑ui.length:Int)-(1:Int)).toNat (0:Int)).toNat ua)).getD ug.toNat 0).toNat (Bo.mk true)).getD i ua).tc=updT (fun i=>(um.getD i ua).tc) ((flrL (g.nodes.getD (ui.getD ((↑ui.length:Int)-(1:Int)).toNat (0:Int)).toNat ua)).getD ug.toNat 0).toNat 0 [jS true] i] W60 (vc:=(zF ug)) (hv:=W26)
   ·exact Q4 (vf g M ud ui) (ug,um,uq) ((ug+(1:Int),um,uq)) W184 W98 (vc:=(zF ug)) (hv:=W26)
  ·exact Q4 (wl g M td) (ud,ui) ((um,uq)) (by dsimp only [wl];exact hJ3.done.2) (hJ3.done.1) [0,1,2,3,4,7]
 ·exact Q2 (res:=_) (post:=_) (hS:=⟨ud,hJ1.len,rfl,rfl⟩)
theorem Qpo (X:Ext) (hX:TabX X) (sh lk:List Dcl) (gs:List Grf) (hs:zy sh) (hl:zy lk) (hg:zT gs) (hw:UnitW gs) (h0:(chkU sh lk gs).1=0) (t:Int) (ht:0≤t∧t<(gs.length:Int)) (fe:List Int) (hfb:fenB ((gs.getD t.toNat ua).nodes.length:Int) fe=true) (hfl:fe.length≤4294967296):Ctr jb 124 [Dcl.rowR sh,Dcl.rowR lk,Grf.rowR gs,.froz X,IntRow fe] [zc4,zc8 t,.c (.h 4)]
 (DetE (fun O:List Bo=>O.length=(gs.getD t.toNat ua).nodes.length) (fun _=>.tup [(false,[.h 5]),(false,[.i .i64 0])]) (fun O=>[.dead,.dead,.dead,.dead,.dead,Bo.ownR O])):=by
 refine Ctr.intro [] Tryz.func124 K K ?_
 refine Qv 2 (t.toNat) ?_ (vc:=([t.toNat<gs.length])) (hv:=W179)
 refine Q3 Q9k (Qkb sh lk gs W9 W9 W9 W9 W9 t) [] ?_
 refine tz [12,7,6,3,1,2] ?_
 refine Q0 (!decide ((if t<(0:Int)∨(↑gs.length:Int)≤t then (2:Int) else (0:Int))=(0:Int))) (fun h1=>?_) (fun h1=>?_)
 ·exact (show False from by rw [if_neg W30] at h1;simp at h1).elim
 ·refine tz [7,6,3,1,2] ?_
  refine Q3 Q2t (Qbu (gs.getD t.toNat ua) fe W9) [5,4] ?_ (vc:=([(0:Int)≤t,t<(↑gs.length:Int),t.toNat=t.toNat])) (hv:=W179)
  refine tz [22,7,6,3,1,2] ?_
  refine Q0 (!fenB (↑(gs.getD t.toNat ua).nodes.length:Int) fe) (fun h2=>?_) (fun h2=>?_)
  ·exact (show False from by rw [hfb] at h2;simp at h2).elim
  ·refine tz [7,6,3,1,2] ?_
   refine Qk Q3o (Qdq X W9 sh lk gs W9 W9 W9 W9 W9 t W9 fe W9 W9) [] ?_
   rintro ug hY3
   try dsimp only at hY3
   refine tz [27,7,6] ?_
   refine Qk Q1g (Qkc (gs.getD t.toNat ua) ug W9) [7,8,9] ?_
   rintro ur hY4
   try dsimp only at hY4
   refine tz [30,28,7,6] ?_
   refine Qk Q1f (Qhi (gs.getD t.toNat ua) W9 W9 ug W9 ur W9 W9) [7,8,9,10] ?_
   rintro uk hY5
   try dsimp only at hY5
   exact Q2 [0,1,2,3,4,11] (res:=_) (post:=_) (hS:=⟨uk,hY5,rfl,rfl⟩)
def vH (X:Ext) (sh:List Dcl) (lk:List Dcl) (gs:List Grf) (t:Int) (fe:List Int) (ud:List Bo) (ug:List Mrk):Lp (Int×List Int):=⟨fun x=>{ N:=49,fr:=[se 30 (C.i .i64 x.1),se 29 (C.i .i64 (↑ug.length:Int)),se 28 (C.h 9),se 10 (C.h 10),se 8 (C.h 6),se 7 (C.i .i64 0),zbp],rg:=[rowOf 3 (·.tc) sh,rowOf 3 (·.tc) lk,rowOf 4 (·.tc) gs,Reg.froz X,IntRow fe,zP,ownOf 4 1 (·.tc) ud,Reg.box 182 [C.v (jC (gs.getD t.toNat ua).name),C.i .i64 (gs.getD t.toNat ua).locals,C.i .i64 (gs.getD t.toNat ua).slots,C.h 8,C.h 9],zt gs t,ownOf 186 4 (·.tc) ug]++[IntOwn x.2],wr:=[] },fun x=>0≤x.1∧x.2.length≤x.1.toNat,fun x=>((ug.length:Int)-x.1).toNat⟩
theorem Qnj (X:Ext) (hX:TabX X) (sh lk:List Dcl) (gs:List Grf) (hs:zy sh) (hl:zy lk) (hg:zT gs) (hw:UnitW gs) (h0:(chkU sh lk gs).1=0) (t:Int) (ht:0≤t∧t<(gs.length:Int)) (fe:List Int) (hfb:fenB ((gs.getD t.toNat ua).nodes.length:Int) fe=true) (hfl:fe.length≤4294967296):Ctr jb 95 [Dcl.rowR sh,Dcl.rowR lk,Grf.rowR gs,.froz X,IntRow fe] [zc4,zc8 t,.c (.h 4)]
 (DetE (fun l:List Int=>True) (fun _=>.tup [(false,[.h 5]),(false,[.i .i64 0])]) (fun l=>[.dead,.dead,.dead,.dead,.dead,IntOwn l])):=by
 refine Ctr.intro [] Tryz.func95 K K ?_
 refine Qk Qaq (Qpo X W9 sh lk gs W9 W9 W9 W9 W9 t W9 fe W9 W9) [] ?_
 rintro ud hY1
 try dsimp only at hY1
 refine tz [17,7,6,3,1] ?_
 refine Q0 (!decide ((0:Int)=(0:Int))) (fun h2=>?_) (fun h2=>?_)
 ·exact absurd h2 W81
 ·refine tz [8,7,6,3,1] ?_
  refine Qk Q3o (Qdq X W9 sh lk gs W9 W9 W9 W9 W9 t W9 [] W9 W9) [0,1,2,3,1000004] ?_ [7] [(0:Nat)=0] W20
  rintro ug hY3
  try dsimp only at hY3
  refine tz [25,10,8,7,6] ?_
  refine Q6 (vH X sh lk gs t fe ud ug) (((0:Int),[])) (⟨jz _,jn _⟩) ?_ [0,1,2,3,4,5,6,7,8,9,1000010] [18] [(0:Nat)=0] W20
  rintro ⟨ur,uv⟩ hJ4
  dsimp only [vH] at hJ4
  refine tz [30,29,28,10,8,7,6] ?_
  refine Q0 (decide (ur<(↑ug.length:Int))) (fun h5=>?_) (fun h5=>?_)
  ·refine tz [30,29,28,10,8,7,6] ?_
   refine Q0 ((ud.getD ur.toNat ua).b&&(ug.getD ur.toNat ua).l) (fun h6=>?_) (fun h6=>?_) (vc:=[(0:Int)≤ur,ur<(↑ug.length:Int),ur.toNat<ug.length,(0:Int)≤ur,ur<(↑ud.length:Int),ur.toNat<ud.length]) (hv:=W100)
   ·exact Q4 (vH X sh lk gs t fe ud ug) (ur,uv) ((ur+(1:Int),uv++[ur])) W212 W135 [0,1,2,3,4,5,6,7,8,9,13] [18,19,20] ([(uv++[ur]).length=uv.length+1,∀ (i:Nat),i<(uv++[ur]).length→i≠uv.length→i64T ((uv++[ur]).getD i 0)=i64T (uv.getD i 0),i64T ((uv++[ur]).getD uv.length 0) 0=TC.val (jg ja ur)]) W20 (vc:=([uv.length+1≤maxLen,(uv.length+1) * 8≤140737488355328,Fits ja (ur+(1:Int))])) (hv:=W100)
   ·exact Q4 (vH X sh lk gs t fe ud ug) (ur,uv) ((ur+(1:Int),uv)) W212 W135 (vc:=([Fits ja (ur+(1:Int))])) (hv:=W100)
  ·exact Q2 [0,1,2,3,4,10] (res:=_) (post:=_) (hS:=⟨uv,trivial,rfl,rfl⟩)
def wm (X:Ext) (sh:List Dcl) (lk:List Dcl) (gs:List Grf) (fs:List Iln):Lp (Int×Int×Bool):=⟨fun x=>{ N:=64,fr:=[se 32 (C.i .i64 x.1),se 31 (C.i .i64 (↑fs.length:Int)),se 30 (C.h 4),se 5 (C.i .i64 x.2.1),se 4 (C.b x.2.2),se 2 (C.p 5 0),se 1 (C.h 4)],rg:=[rowOf 3 (·.tc) sh,rowOf 3 (·.tc) lk,rowOf 4 (·.tc) gs,Reg.froz X,rowOf 1 (·.tc) fs,zP],wr:=[] },fun x=>0≤x.1∧x.1≤(fs.length:Int)∧∀ k,k<x.1.toNat→fenB ((gs.getD k ua).nodes.length:Int) (fs.getD k ua).l=true,fun x=>((fs.length:Int)-x.1).toNat⟩
def wn (X:Ext) (sh:List Dcl) (lk:List Dcl) (gs:List Grf) (fs:List Iln) (um:Int) (uq:Bool):Lp (Int×Int×Bool):=⟨fun x=>{ N:=64,fr:=[se 48 (C.i .i64 x.1),se 47 (C.i .i64 (↑fs.length:Int)),se 46 (C.h 4),se 5 (C.i .i64 x.2.1),se 4 (C.b x.2.2),se 2 (C.p 5 0)],rg:=[rowOf 3 (·.tc) sh,rowOf 3 (·.tc) lk,rowOf 4 (·.tc) gs,Reg.froz X,rowOf 1 (·.tc) fs,zP],wr:=[] },fun x=>0≤x.1,fun x=>((fs.length:Int)-x.1).toNat⟩
abbrev zaM (y0:List Iln):Prop:=∀ j:Nat,(y0.getD j ua).l.length≤9223372036854775807
theorem Qpp (X:Ext) (hX:TabX X) (sh lk:List Dcl) (gs:List Grf) (hs:zy sh) (hl:zy lk) (hg:zT gs) (hw:UnitW gs) (fs:List Iln) (hfs:zaM fs):Ctr jb 59 [Dcl.rowR sh,Dcl.rowR lk,Grf.rowR gs,.froz X,Iln.rowR fs] [zc4,.c (.h 4)]
 (DetE (fun y:Bool×Int=>y.2=safU sh lk gs fs) (fun y=>.tup [(false,[.b y.1]),(false,[.i .i64 y.2])]) (fun _=>[.dead,.dead,.dead,.dead,.dead])):=by
 refine Ctr.intro [] Tryz.func59 K K ?_
 refine Q3 Z2 (Gj sh lk gs W25 W25 W25 W25) [] ?_
 refine tz [17,5,4,2,1] ?_
 refine Q0 (!decide ((chkU sh lk gs).fst=(0:Int))) (fun h1=>?_) (fun h1=>?_)
 ·exact Q2 (res:=_) (post:=_) (hS:=⟨(false,(chkU sh lk gs).fst),W146,rfl,rfl⟩)
 ·refine tz [5,4,2,1] ?_
  refine Q0 (!decide ((↑fs.length:Int)=(↑gs.length:Int))) (fun h2=>?_) (fun h2=>?_)
  ·exact Q2 (res:=_) (post:=_) (hS:=⟨(false,(110:Int)),W146,rfl,rfl⟩)
  ·have hL:fs.length=gs.length:=by (simp only [kI,decide_eq_true_eq] at h2;omega)
   refine tz [5,4,2,1] ?_
   refine Q6 (wm X sh lk gs fs) (((0:Int),(0:Int),false)) (⟨jz _,by omega,fun k hk=>absurd hk W162⟩) ?_
   rintro ⟨ug,um,uq⟩ hJ3
   dsimp only [wm] at hJ3
   refine tz [32,31,30,5,4,2,1] ?_
   refine Q0 (decide (ug<(↑fs.length:Int))) (fun h4=>?_) (fun h4=>?_)
   ·refine Qv 4 (ug.toNat) ?_ (vc:=[ug.toNat<fs.length]) (hv:=W51)
    refine Qv 2 (ug.toNat) ?_ (vc:=(zcc ug gs)) (hv:=W51)
    refine tz [32,31,30,5,4,2,1] ?_
    refine Q3 Q2t (Qbu (zc1 gs ug) ((fs.getD ug.toNat ua).l) W25) [7,6] ?_ (vc:=[(0:Int)≤ug,ug<(↑fs.length:Int),ug.toNat=ug.toNat,(0:Int)≤ug,ug<(↑gs.length:Int),ug.toNat=ug.toNat]) (hv:=W51)
    refine tz [43,32,31,30,5,4,2,1] ?_
    refine Q0 (!fenB (↑(zc1 gs ug).nodes.length:Int) (fs.getD ug.toNat ua).l) (fun h5=>?_) (fun h5=>?_)
    ·exact Q2 (res:=_) (post:=_) (hS:=⟨(false,(110:Int)),W146,rfl,rfl⟩)
    ·exact Q4 (wm X sh lk gs fs) (ug,um,uq) ((ug+(1:Int),um,uq)) (by dsimp only [wm];exact W230) W185 (vc:=(zF ug)) (hv:=W51)
   ·have hF:∀ k,k<fs.length→fenB ((gs.getD k ua).nodes.length:Int) (fs.getD k ua).l=true:=fun k hk=>hJ3.2.2 k (by have q:=uc h4;omega)
    refine tz [32,31,30,5,4,2,1] ?_
    refine Q6 (wn X sh lk gs fs um uq) (((0:Int),um,uq)) (jz _) ?_
    rintro ⟨uk,uy,uC⟩ hJ5
    dsimp only [wn] at hJ5
    refine tz [48,47,46,5,4,2] ?_
    refine Q0 (decide (uk<(↑fs.length:Int))) (fun h6=>?_) (fun h6=>?_)
    ·refine Qv 4 (uk.toNat) ?_ (vc:=[uk.toNat<fs.length]) (hv:=W51)
     refine tz [48,47,46,5,4,2] ?_
     refine Qk Q9j (Qnj X W25 sh lk gs W25 W25 W25 W25 W25 uk W25 ((fs.getD uk.toNat ua).l) W25 W25) [0,1,2,3,6] ?_ (vc:=[(0:Int)≤uk,uk<(↑fs.length:Int),uk.toNat=uk.toNat]) (hv:=W51)
     rintro uO hY7
     try dsimp only at hY7
     refine tz [57,48,47,46,5,4,2] ?_
     refine Q0 (decide ((0:Int)<(↑uO.length:Int))) (fun h8=>?_) (fun h8=>?_)
     ·exact Q2 (res:=_) (post:=_) (hS:=⟨(false,(0:Int)),W146,rfl,rfl⟩)
     ·exact Q4 (wn X sh lk gs fs um uq) (uk,uy,uC) ((uk+(1:Int),uy,uC)) (by dsimp only [wn];exact W241) (by have z:=hJ5;show 0≤uk+1;omega) (vc:=(zF uk)) (hv:=W51)
    ·exact Q2 (res:=_) (post:=_) (hS:=⟨(true,(0:Int)),W146,rfl,rfl⟩)
abbrev zck (y0 y1:List Dcl) (y2:List Grf) (y3:Ext) (y4:List Iln) (y5:List Alc):List Reg:=[Dcl.rowR y0,Dcl.rowR y1,Grf.rowR y2,.froz y3,Iln.rowR y4,Alc.rowR y5]
theorem Qnk (X:Ext) (hX:TabX X) (sh lk:List Dcl) (gs:List Grf) (hs:zy sh) (hl:zy lk) (hg:zT gs) (hw:UnitW gs) (fs:List Iln) (hfs:zaM fs) (al:List Alc) (hp:zaE al) (bf:Int):Ctr jb 38 (zck sh lk gs X fs al) [zc4,.c (.h 4),.c (.h 5),zc8 bf]
 (Det (.c (.i .i64 (fauU sh lk gs fs al bf))) [.dead,.dead,.dead,.dead,.dead,.dead]):=by
 refine Ctr.intro [] Tryz.func38 K K ?_
 refine Qk Qan (Qpp X W37 sh lk gs W37 W37 W37 W37 fs W37) [] ?_
 rintro ⟨ud,ui⟩ hY1
 try dsimp only at hY1
 refine tz [16,8,4,2,3] ?_
 refine Q0 (!decide (ui=(0:Int))) (fun h2=>?_) (fun h2=>?_)
 ·exact Q2 [] [0] [fauU sh lk gs fs al bf=ui] W112
 ·refine tz [8,4,2,3] ?_
  refine Q3 Qao (Qnb sh lk gs al W37 W37 W37 W37 W37) [0,1,2,5] ?_
  refine tz [25,8,3] ?_
  refine Q0 (!decide ((rgtU sh lk gs al).snd=(0:Int))) (fun h3=>?_) (fun h3=>?_)
  ·exact Q2 [] [0] [fauU sh lk gs fs al bf=(rgtU sh lk gs al).snd] W112
  ·refine tz [11,8,3] ?_
   refine Q0 (!(rgtU sh lk gs al).fst) (fun h4=>?_) (fun h4=>?_)
   ·exact Q2 [] [0] [fauU sh lk gs fs al bf=(150:Int)] W112
   ·refine tz [8,3] ?_
    refine Q0 (decide (bf<(1:Int))||decide ((16:Int)<bf)) (fun h5=>?_) (fun h5=>?_)
    ·exact Q2 [] [0] [fauU sh lk gs fs al bf=(2:Int)] W112
    ·exact Q2 [] [0] [fauU sh lk gs fs al bf=(0:Int)] W112
abbrev zH (y0:Grf) (y1:Int) (y2:Gm):Reg:=Reg.box 90 [C.v (jC y0.name),C.i .i64 y0.locals,C.i .i64 y0.slots,C.h 1,C.h 2,C.i .i64 y1,C.h 3,C.i .i64 y2.shared,C.i .i64 y2.base,C.h 8,C.h 5,C.h 6,C.i .i64 y2.fr]
def wo (g:Grf) (gm:Gm) (ac:Int) (l:List Ins) (code:List Ins):Lp (Int×List Ins):=⟨fun x=>{ N:=28,fr:=[se 8 (C.i .i64 x.1),se 7 (C.i .i64 (↑l.length:Int)),se 6 (C.h 7),zb9],rg:=[zH g ac gm,Reg.dead,rowOf 2 (·.tc) gm.ps,Reg.dead,Reg.dead,Reg.dead,Reg.dead,rowOf 9 (·.tc) l]++[Ins.ownR x.2],wr:=[] },fun x=>0≤x.1∧x.1≤(l.length:Int)∧x.2=code++putL gm.fr (l.take x.1.toNat),fun x=>((l.length:Int)-x.1).toNat⟩
abbrev zaz (y0:Grf) (y1:Int) (y2:Gm):Reg:=Reg.box 90 [C.v (jC y0.name),C.i .i64 y0.locals,C.i .i64 y0.slots,C.h 1,C.h 2,C.i .i64 y1,C.h 3,C.i .i64 y2.shared,C.i .i64 y2.base,C.h 4,C.h 5,C.h 6,C.i .i64 y2.fr]
theorem Ys (g:Grf) (gm:Gm) (ac:Int) (l:List Ins) (code:List Ins) (hc:code.length≤1000000) (hl:l.length≤1000):Ctr jb 63 [zaz g ac gm,.dead,Plc.rowR gm.ps,.dead,Ins.ownR code,.dead,.dead,Ins.rowR l] [.c (.p 0 0),.c (.h 7)]
 (Det (.tup []) [zH g ac gm,.dead,.dead,.dead,.dead,.dead,.dead,.dead,Ins.ownR (code++putL gm.fr l)]):=by
 refine Ctr.intro [] Tryz.func63 K K ?_
 refine Q6 (wo g gm ac l code) (((0:Int),code)) (⟨jz _,by omega,by show code=code++putL _ (l.take 0);simp [putL]⟩) ?_ [0,1,2,3,4,5,6,7,4]
 rintro ⟨ud,ui⟩ hJ1
 dsimp only [wo] at hJ1
 refine tz [8,7,6,0] ?_
 refine Q0 (decide (ud<(↑l.length:Int))) (fun h2=>?_) (fun h2=>?_)
 ·exact Q4 (wo g gm ac l code) (ud,ui) ((ud+(1:Int),ui++[Ins.mk (l.getD ud.toNat ua).kind (l.getD ud.toNat ua).op (l.getD ud.toNat ua).d (l.getD ud.toNat ua).a (l.getD ud.toNat ua).b (l.getD ud.toNat ua).addr (l.getD ud.toNat ua).to (l.getD ud.toNat ua).word gm.fr])) (by dsimp only [wo];exact W228) (by have q:=ub h2;have z:=hJ1.1;refine ⟨by omega,by omega,?_⟩;show _=code++putL gm.fr (l.take (ud+1).toNat);rw [Qgk z q,← hJ1.2.2]) [0,1,2,3,4,5,6,7,11] [11,12,13,14,15,16,17,18,19,20,21] [(ui++[Ins.mk (l.getD ud.toNat ua).kind (l.getD ud.toNat ua).op (l.getD ud.toNat ua).d (l.getD ud.toNat ua).a (l.getD ud.toNat ua).b (l.getD ud.toNat ua).addr (l.getD ud.toNat ua).to (l.getD ud.toNat ua).word gm.fr]).length=ui.length+1,∀ (i:Nat),i<(ui++[Ins.mk (l.getD ud.toNat ua).kind (l.getD ud.toNat ua).op (l.getD ud.toNat ua).d (l.getD ud.toNat ua).a (l.getD ud.toNat ua).b (l.getD ud.toNat ua).addr (l.getD ud.toNat ua).to (l.getD ud.toNat ua).word gm.fr]).length→i≠ui.length→((ui++[Ins.mk (l.getD ud.toNat ua).kind (l.getD ud.toNat ua).op (l.getD ud.toNat ua).d (l.getD ud.toNat ua).a (l.getD ud.toNat ua).b (l.getD ud.toNat ua).addr (l.getD ud.toNat ua).to (l.getD ud.toNat ua).word gm.fr]).getD i ua).tc=(ui.getD i ua).tc,((ui++[Ins.mk (l.getD ud.toNat ua).kind (l.getD ud.toNat ua).op (l.getD ud.toNat ua).d (l.getD ud.toNat ua).a (l.getD ud.toNat ua).b (l.getD ud.toNat ua).addr (l.getD ud.toNat ua).to (l.getD ud.toNat ua).word gm.fr]).getD ui.length ua).tc 0=TC.val (jg jx (l.getD ud.toNat ua).kind),((ui++[Ins.mk (l.getD ud.toNat ua).kind (l.getD ud.toNat ua).op (l.getD ud.toNat ua).d (l.getD ud.toNat ua).a (l.getD ud.toNat ua).b (l.getD ud.toNat ua).addr (l.getD ud.toNat ua).to (l.getD ud.toNat ua).word gm.fr]).getD ui.length ua).tc 1=TC.val (jg jx (l.getD ud.toNat ua).op),((ui++[Ins.mk (l.getD ud.toNat ua).kind (l.getD ud.toNat ua).op (l.getD ud.toNat ua).d (l.getD ud.toNat ua).a (l.getD ud.toNat ua).b (l.getD ud.toNat ua).addr (l.getD ud.toNat ua).to (l.getD ud.toNat ua).word gm.fr]).getD ui.length ua).tc 2=TC.val (jg ja (l.getD ud.toNat ua).d),((ui++[Ins.mk (l.getD ud.toNat ua).kind (l.getD ud.toNat ua).op (l.getD ud.toNat ua).d (l.getD ud.toNat ua).a (l.getD ud.toNat ua).b (l.getD ud.toNat ua).addr (l.getD ud.toNat ua).to (l.getD ud.toNat ua).word gm.fr]).getD ui.length ua).tc 3=TC.val (jg ja (l.getD ud.toNat ua).a),((ui++[Ins.mk (l.getD ud.toNat ua).kind (l.getD ud.toNat ua).op (l.getD ud.toNat ua).d (l.getD ud.toNat ua).a (l.getD ud.toNat ua).b (l.getD ud.toNat ua).addr (l.getD ud.toNat ua).to (l.getD ud.toNat ua).word gm.fr]).getD ui.length ua).tc 4=TC.val (jg ja (l.getD ud.toNat ua).b),((ui++[Ins.mk (l.getD ud.toNat ua).kind (l.getD ud.toNat ua).op (l.getD ud.toNat ua).d (l.getD ud.toNat ua).a (l.getD ud.toNat ua).b (l.getD ud.toNat ua).addr (l.getD ud.toNat ua).to (l.getD ud.toNat ua).word gm.fr]).getD ui.length ua).tc 5=TC.val (jg ja (l.getD ud.toNat ua).addr),((ui++[Ins.mk (l.getD ud.toNat ua).kind (l.getD ud.toNat ua).op (l.getD ud.toNat ua).d (l.getD ud.toNat ua).a (l.getD ud.toNat ua).b (l.getD ud.toNat ua).addr (l.getD ud.toNat ua).to (l.getD ud.toNat ua).word gm.fr]).getD ui.length ua).tc 6=TC.val (jg ja (l.getD ud.toNat ua).to),((ui++[Ins.mk (l.getD ud.toNat ua).kind (l.getD ud.toNat ua).op (l.getD ud.toNat ua).d (l.getD ud.toNat ua).a (l.getD ud.toNat ua).b (l.getD ud.toNat ua).addr (l.getD ud.toNat ua).to (l.getD ud.toNat ua).word gm.fr]).getD ui.length ua).tc 7=TC.val (jg ja (l.getD ud.toNat ua).word),((ui++[Ins.mk (l.getD ud.toNat ua).kind (l.getD ud.toNat ua).op (l.getD ud.toNat ua).d (l.getD ud.toNat ua).a (l.getD ud.toNat ua).b (l.getD ud.toNat ua).addr (l.getD ud.toNat ua).to (l.getD ud.toNat ua).word gm.fr]).getD ui.length ua).tc 8=TC.val (jg ja gm.fr)] W20 (vc:=[(0:Int)≤ud,ud<(↑l.length:Int),ud.toNat<l.length,ui.length+1≤maxLen,(ui.length+1) * 64≤140737488355328,Fits ja (ud+(1:Int))]) (hv:=(by simp only [Conj,Fits,Q7,Q8,Q9,Qa,News.len,maxLen]<;>(repeat' apply jl)<;>(have q:=ub h2;have z:=hJ1.1;have z3:=congrArg kb hJ1.2.2;simp only [jt,Q05,jQ] at z3;exact W226)))
 ·exact Ya [] [7,8] [(code++putL gm.fr l).length=ui.length,∀ (i:Nat),i<(code++putL gm.fr l).length→((code++putL gm.fr l).getD i ua).tc=(ui.getD i ua).tc] (by have q:=uc h2;have e:ui=code++putL gm.fr l:=(by rw [hJ1.2.2,show ud.toNat=l.length by (have z:=hJ1.2.1;have z0:=hJ1.1;omega),List.take_length]);subst e;simp only [Conj];(repeat' apply jl)<;>first | trivial | (intros;trivial))
abbrev za5 (y0:Grf) (y1:Int) (y2:Gm):Reg:=.ro [C.v (jC y0.name),C.i .i64 y0.locals,C.i .i64 y0.slots,C.h 1,C.h 2,C.i .i64 y1,C.h 3,C.i .i64 y2.shared,C.i .i64 y2.base,C.h 4,C.h 5,C.h 6,C.i .i64 y2.fr]
theorem Qdr (g:Grf) (gm:Gm) (ac:Int) (p:Plc) (hp:0≤p.n∧p.n≤4160) (hg:GmQ gm):Ctr jb 152 [za5 g ac gm,.dead,Plc.rowR gm.ps,.dead,.dead,.dead,.dead] [.c (.p 0 0),.agg p.cs]
 (Det (.c (.i .i64 (gm.base+p.n))) [.dead,.dead,.dead,.dead,.dead,.dead,.dead]):=by
 refine Ctr.intro [] Tryz.func152 K K ?_
 exact Q2 (vc:=[Fits ja (gm.base+p.n)]) (hv:=(by simp only [Conj,Fits,Q7,Q8,Q9,Qa,News.len,maxLen]<;>(repeat' apply jl)<;>(have z:=hg.b0;have z1:=hg.s0;(try have z2:=hg.p0 (p.n).toNat (by omega));(try have z3:=hv (by assumption));(try have z2:=hg.p0 v.slot.toNat (by omega));exact W226)))
abbrev zdk (y0:Gm) (y1:Int):Plc:=y0.ps.getD y1.toNat ua
theorem Qhj (g:Grf) (gm:Gm) (ac:Int) (s:Int) (hs:0≤s∧s<(gm.ps.length:Int)) (hg:GmQ gm):Ctr jb 135 [za5 g ac gm,.dead,Plc.rowR gm.ps,.dead,.dead,.dead,.dead] [.c (.p 0 0),zc8 s]
 (Det (.c (.i .i64 (gGoal gm s))) [.dead,.dead,.dead,.dead,.dead,.dead,.dead]):=by
 refine Ctr.intro [] Tryz.func135 K K ?_
 refine Q0 (!(zdk gm s).cell) (fun h1=>?_) (fun h1=>?_) (vc:=[(0:Int)≤s,s<(↑gm.ps.length:Int),s.toNat<gm.ps.length]) (hv:=W187)
 ·rw [Qmd (gnt h1)]
  exact Q2 [] [0] [(gm.pl s).n=(zdk gm s).n] W74
 ·rw [Qmc (gnf h1)]
  exact Q2
abbrev zr (y0:Grf) (y1:Int) (y2:Gm) (y3:List Ins):List Reg:=[zaz y0 y1 y2,.dead,Plc.rowR y2.ps,.dead,Ins.ownR y3,.dead,.dead]
abbrev zC (y0:Grf) (y1:Int) (y2:Gm):Reg:=Reg.box 90 [C.v (jC y0.name),C.i .i64 y0.locals,C.i .i64 y0.slots,C.h 1,C.h 2,C.i .i64 y1,C.h 3,C.i .i64 y2.shared,C.i .i64 y2.base,C.h 7,C.h 5,C.h 6,C.i .i64 y2.fr]
abbrev zcp:Value:=jg ja (0:Int)
abbrev zcr (y0:Gm) (y1:Int):Ins:=Ins.mk (4:Int) (0:Int) (0:Int) (15:Int) (0:Int) (y0.base+(zdk y0 y1).n) (0:Int) (0:Int) (0:Int)
abbrev zc7:Value:=jg jx (0:Int)
abbrev zcB:Value:=jg ja (15:Int)
abbrev zcD:List Nat:=[11,12,13,14,15,16,17,18,19,20,21]
abbrev zcH (y0:Gm) (y1:Int):List Ins:=putL y0.fr [Ins.mk (4:Int) (0:Int) (0:Int) (15:Int) (0:Int) (y0.base+(y0.pl y1).n) (0:Int) (0:Int) (0:Int)]
abbrev zdc:List Nat:=[0,1,2,3,4,5,6,8]
abbrev zdm:List Nat:=[0,1,2,3,4,5,6,9]
theorem Q40 (g:Grf) (gm:Gm) (ac:Int) (s:Int) (hs:0≤s∧s<(gm.ps.length:Int)) (hg:GmQ gm) (code:List Ins) (hc:code.length≤1000000):Ctr jb 137 (zr g ac gm code) [.c (.p 0 0),zc8 s]
 (Det (.tup []) [zC g ac gm,.dead,.dead,.dead,.dead,.dead,.dead,Ins.ownR (code++gKeep gm s)]):=by
 refine Ctr.intro [] Tryz.func137 K K ?_
 refine Q0 ((zdk gm s).cell) (fun h1=>?_) (fun h1=>?_) (vc:=[(0:Int)≤s,s<(↑gm.ps.length:Int),s.toNat<gm.ps.length]) (hv:=W187)
 ·rw [Qme h1]
  refine tz [4,0] ?_
  refine Q3 Je (Qdr g gm ac (zdk gm s) W150 W150) [] ?_
  refine tz [18,15] ?_
  refine Q3 Qd (Ys g gm ac [zcr gm s] code W150 W150) zdc ?_ zcD [[zcr gm s].length=1,∀ (i:Nat),i < [zcr gm s].length→i≠0→([zcr gm s].getD i ua).tc=fun x=>TC.any,(zcr gm s).tc 0=TC.val (jg jx (4:Int)),(zcr gm s).tc 1=TC.val (zc7),(zcr gm s).tc 2=TC.val (zcp),(zcr gm s).tc 3=TC.val (zcB),(zcr gm s).tc 4=TC.val (zcp),(zcr gm s).tc 5=TC.val (jg ja (gm.base+(zdk gm s).n)),(zcr gm s).tc 6=TC.val (zcp),(zcr gm s).tc 7=TC.val (zcp),(zcr gm s).tc 8=TC.val (zcp)] W152
  exact Ya zdm [7,8] [(code++zcH gm s).length=(code++putL gm.fr [zcr gm s]).length,∀ (i:Nat),i<(code++zcH gm s).length→((code++zcH gm s).getD i ua).tc=((code++putL gm.fr [zcr gm s]).getD i ua).tc] W74
 ·rw [Qmf h1]
  exact Ya [0,1,2,3,4,5,6,4] [7,8] [(code++[]).length=code.length,∀ (i:Nat),i<(code++[]).length→((code++[]).getD i ua).tc=(code.getD i ua).tc] W74
abbrev zcQ (y0:Gm) (y1:Vl):Plc:=y0.ps.getD y1.slot.toNat ua
abbrev zcu (y0:Int) (y1:Gm) (y2:Vl):Ins:=Ins.mk (3:Int) (0:Int) y0 (0:Int) (0:Int) (y1.base+(zcQ y1 y2).n) (0:Int) (0:Int) (0:Int)
abbrev zc0 (y0:Int) (y1:Vl):Ins:=Ins.mk (1:Int) (0:Int) y0 (0:Int) (0:Int) (0:Int) (0:Int) y1.word (0:Int)
abbrev zdu:Value:=jg jx (1:Int)
abbrev zdv:Value:=jg jx (3:Int)
theorem Z4 (g:Grf) (gm:Gm) (ac:Int) (v:Vl) (r:Int) (hv:v.slotted=true→0≤v.slot∧v.slot<(gm.ps.length:Int)) (hg:GmQ gm) (code:List Ins) (hc:code.length≤1000000):Ctr jb 138 (zr g ac gm code) [.c (.p 0 0),.agg v.cs,zc8 r]
 (Det (.c (.i .i64 (gReg gm v r))) [zC g ac gm,.dead,.dead,.dead,.dead,.dead,.dead,Ins.ownR (code++gFetch gm v r)]):=by
 refine Ctr.intro [] Tryz.func138 K K ?_
 refine Q0 (!v.slotted) (fun h1=>?_) (fun h1=>?_)
 ·refine tz [6,4,0,2] ?_
  refine Q3 Qd (Ys g gm ac [zc0 r v] code W94 W94) zdc ?_ zcD [[zc0 r v].length=1,∀ (i:Nat),i < [zc0 r v].length→i≠0→([zc0 r v].getD i ua).tc=fun x=>TC.any,(zc0 r v).tc 0=TC.val (zdu),(zc0 r v).tc 1=TC.val (zc7),(zc0 r v).tc 2=zcP r,(zc0 r v).tc 3=TC.val (zcp),(zc0 r v).tc 4=TC.val (zcp),(zc0 r v).tc 5=TC.val (zcp),(zc0 r v).tc 6=TC.val (zcp),(zc0 r v).tc 7=TC.val (jg ja v.word),(zc0 r v).tc 8=TC.val (zcp)] W152
  exact Q2 zdm [7,8,9] [(code++gFetch gm v r).length=(code++putL gm.fr [zc0 r v]).length,∀ (i:Nat),i<(code++gFetch gm v r).length→((code++gFetch gm v r).getD i ua).tc=((code++putL gm.fr [zc0 r v]).getD i ua).tc,gReg gm v r=r] W78
 ·refine tz [6,4,0,2] ?_
  refine Q0 (!(zcQ gm v).cell) (fun h2=>?_) (fun h2=>?_) (vc:=[(0:Int)≤v.slot,v.slot<(↑gm.ps.length:Int),v.slot.toNat<gm.ps.length]) (hv:=W117)
  ·exact Q2 [0,1,2,3,4,5,6,4] [7,8,9] [(code++gFetch gm v r).length=code.length,∀ (i:Nat),i<(code++gFetch gm v r).length→((code++gFetch gm v r).getD i ua).tc=(code.getD i ua).tc,gReg gm v r=(zcQ gm v).n] W78
  ·refine tz [7,6,0,2] ?_
   refine Q3 Je (Qdr g gm ac (zcQ gm v) W94 W94) [] ?_
   refine tz [37,34,33,6,2] ?_
   refine Q3 Qd (Ys g gm ac [zcu r gm v] code W94 W94) zdm ?_ zcD [[zcu r gm v].length=1,∀ (i:Nat),i < [zcu r gm v].length→i≠0→([zcu r gm v].getD i ua).tc=fun x=>TC.any,(zcu r gm v).tc 0=TC.val (zdv),(zcu r gm v).tc 1=TC.val (zc7),(zcu r gm v).tc 2=zcP r,(zcu r gm v).tc 3=TC.val (zcp),(zcu r gm v).tc 4=TC.val (zcp),(zcu r gm v).tc 5=TC.val (jg ja (gm.base+(zcQ gm v).n)),(zcu r gm v).tc 6=TC.val (zcp),(zcu r gm v).tc 7=TC.val (zcp),(zcu r gm v).tc 8=TC.val (zcp)] W152
   exact Q2 [0,1,2,3,4,5,6,10] [7,8,9] [(code++gFetch gm v r).length=(code++putL gm.fr [zcu r gm v]).length,∀ (i:Nat),i<(code++gFetch gm v r).length→((code++gFetch gm v r).getD i ua).tc=((code++putL gm.fr [zcu r gm v]).getD i ua).tc,gReg gm v r=r] W78
abbrev zcy (y0:Int) (y1:Gm) (y2:Vl):Ins:=Ins.mk (2:Int) (7:Int) y0 (gReg y1 y2 y0) (gReg y1 y2 y0) (0:Int) (0:Int) (0:Int) (0:Int)
abbrev zdw:Value:=jg jx (2:Int)
abbrev zdx:Value:=jg jx (7:Int)
theorem Qhk (g:Grf) (gm:Gm) (ac:Int) (v:Vl) (r:Int) (hv:v.slotted=true→0≤v.slot∧v.slot<(gm.ps.length:Int)) (hg:GmQ gm) (code:List Ins) (hc:code.length≤500000):Ctr jb 136 (zr g ac gm code) [.c (.p 0 0),.agg v.cs,zc8 r]
 (Det (.tup []) [zC g ac gm,.dead,.dead,.dead,.dead,.dead,.dead,Ins.ownR (code++gMove gm v r)]):=by
 refine Ctr.intro [] Tryz.func136 K K ?_
 refine Q3 Qm (Z4 g gm ac v r W113 W113 code W113) [] ?_
 refine tz [10,4,0,2] ?_
 refine Q0 (v.slotted&&!(zcQ gm v).cell) (fun h1=>?_) (fun h1=>?_) (vc:=[v.slotted=true→(0:Int)≤v.slot,v.slotted=true→v.slot<(↑gm.ps.length:Int),v.slotted=true→v.slot.toNat<gm.ps.length]) (hv:=W117)
 ·refine tz [6,0,2] ?_
  refine Q3 Qd (Ys g gm ac [zcy r gm v] (code++gFetch gm v r) W113 W113) [0,1,2,3,8,5,6,9] ?_ zcD [[zcy r gm v].length=1,∀ (i:Nat),i < [zcy r gm v].length→i≠0→([zcy r gm v].getD i ua).tc=fun x=>TC.any,(zcy r gm v).tc 0=TC.val (zdw),(zcy r gm v).tc 1=TC.val (zdx),(zcy r gm v).tc 2=zcP r,(zcy r gm v).tc 3=TC.val (jg ja (gReg gm v r)),(zcy r gm v).tc 4=TC.val (jg ja (gReg gm v r)),(zcy r gm v).tc 5=TC.val (zcp),(zcy r gm v).tc 6=TC.val (zcp),(zcy r gm v).tc 7=TC.val (zcp),(zcy r gm v).tc 8=TC.val (zcp)] W152
  exact Ya [0,1,2,3,4,5,6,10] [7,8] [(code++gMove gm v r).length=(code++gFetch gm v r++putL gm.fr [zcy r gm v]).length,∀ (i:Nat),i<(code++gMove gm v r).length→((code++gMove gm v r).getD i ua).tc=((code++gFetch gm v r++putL gm.fr [zcy r gm v]).getD i ua).tc] W124
 ·exact Ya zdc [7,8] [(code++gMove gm v r).length=(code++gFetch gm v r).length,∀ (i:Nat),i<(code++gMove gm v r).length→((code++gMove gm v r).getD i ua).tc=((code++gFetch gm v r).getD i ua).tc] W124
abbrev zw (y0:Nod):Reg:=Reg.box 101 [C.i .u8 y0.kind,C.i .u8 y0.op,C.i .i64 y0.slot,C.i .i64 y0.thing,C.b y0.a.slotted,C.i .i64 y0.a.slot,C.i .i64 y0.a.word,C.b y0.b.slotted,C.i .i64 y0.b.slot,C.i .i64 y0.b.word,C.i .i64 y0.next,C.i .i64 y0.els,C.i .i64 y0.origin]
abbrev zI (y0:Nod) (y1:Gm):Reg:=Reg.box 48 [C.i .u8 2,C.i .u8 y0.op,C.i .i64 (gGoal y1 y0.slot),C.i .i64 (gReg y1 y0.a (13:Int)),C.i .i64 0,C.i .i64 0,C.i .i64 0,C.i .i64 0,C.i .i64 0]
abbrev za0 (y0:Grf) (y1:Int) (y2:Gm):Reg:=Reg.box 90 [C.v (jC y0.name),C.i .i64 y0.locals,C.i .i64 y0.slots,C.h 1,C.h 2,C.i .i64 y1,C.h 3,C.i .i64 y2.shared,C.i .i64 y2.base,C.h 9,C.h 5,C.h 6,C.i .i64 y2.fr]
abbrev za8:List En:=[se 5 (C.p 9 0),se 3 (C.p 7 0),zb9]
abbrev zcn:List En:=[se 5 (C.p 8 0),se 3 (C.p 7 0),zb9]
theorem Qpq (g:Grf) (gm:Gm) (ac:Int) (n:Nod) (hn:NdQ gm n) (hg:GmQ gm) (code:List Ins) (hc:code.length≤100000) (hk:n.kind=1):Ctr jb 100 (zr g ac gm code) [.c (.p 0 0),.agg n.cs]
 (Det (.tup []) [zC g ac gm,.dead,.dead,.dead,.dead,.dead,.dead,Ins.ownR (code++gSetN gm n)]):=by
 refine Ctr.intro [] Tryz.func100 K K ?_
 refine Q3 Jc (Qhj g gm ac n.slot W2 W2) [] ?_
 refine tz [9,3,0] ?_
 refine Q0 (decide (n.op=(0:Int))) (fun h1=>?_) (fun h1=>?_)
 ·refine tz [4,3,0] ?_
  refine Q3 Jd (Qhk g gm ac n.a (gGoal gm n.slot) W2 W2 code W2) [] ?_
  refine tz [4,3,0] ?_
  refine Q3 Y9 (Q40 g gm ac n.slot W2 W2 (code++gMove gm n.a (gGoal gm n.slot)) W2) [0,1,2,3,8,5,6] ?_
  exact Q2 [0,1,2,3,4,5,6,9] [7,8] [(code++gSetN gm n).length=(code++gMove gm n.a (gGoal gm n.slot)++gKeep gm n.slot).length,∀ (i:Nat),i<(code++gSetN gm n).length→((code++gSetN gm n).getD i ua).tc=((code++gMove gm n.a (gGoal gm n.slot)++gKeep gm n.slot).getD i ua).tc] W95
 ·refine tz [4,3,0] ?_
  refine Jy 3 (fun _:Unit=>St.mk 46 za8 [zH g ac gm,Reg.dead,rowOf 2 (·.tc) gm.ps,Reg.dead,Reg.dead,Reg.dead,Reg.dead,zw n,ownOf 48 9 (·.tc) (code++gFetch gm n.a (13:Int)),zI n gm] []) (fun _=>True) ?_ ?_
  ·refine ⟨⟨⟨trivial,?_⟩,?_⟩,?_⟩
   ·refine Jy 2 (fun _:Unit=>St.mk 46 za8 [zH g ac gm,Reg.dead,rowOf 2 (·.tc) gm.ps,Reg.dead,Reg.dead,Reg.dead,Reg.dead,zw n,ownOf 48 9 (·.tc) (code++gFetch gm n.a (13:Int)),zI n gm] []) (fun _=>True) ?_ ?_
    ·refine ⟨⟨trivial,?_⟩,?_⟩
     ·refine Q3 Qm (Z4 g gm ac n.a 13 W2 W2 code W2) [] ?_
      exact tTo (fun x=>St.mk 46 za8 [zH g ac gm,Reg.dead,rowOf 2 (·.tc) gm.ps,Reg.dead,Reg.dead,Reg.dead,Reg.dead,zw n,ownOf 48 9 (·.tc) (code++gFetch gm n.a (13:Int)),zI n gm] []) (fun x=>True) () trivial
     ·refine Q3 Qm (Z4 g gm ac n.a 13 W2 W2 code W2) [] ?_
      exact tTo (fun x=>St.mk 46 za8 [zH g ac gm,Reg.dead,rowOf 2 (·.tc) gm.ps,Reg.dead,Reg.dead,Reg.dead,Reg.dead,zw n,ownOf 48 9 (·.tc) (code++gFetch gm n.a (13:Int)),zI n gm] []) (fun x=>True) () trivial [0,1,2,3,4,5,6,7,9,8]
    ·rintro ⟨⟩ _
     exact tTo (fun x=>St.mk 46 za8 [zH g ac gm,Reg.dead,rowOf 2 (·.tc) gm.ps,Reg.dead,Reg.dead,Reg.dead,Reg.dead,zw n,ownOf 48 9 (·.tc) (code++gFetch gm n.a (13:Int)),zI n gm] []) (fun x=>True) () trivial
   ·refine Q3 Qm (Z4 g gm ac n.a 13 W2 W2 code W2) [] ?_
    exact tTo (fun x=>St.mk 46 za8 [zH g ac gm,Reg.dead,rowOf 2 (·.tc) gm.ps,Reg.dead,Reg.dead,Reg.dead,Reg.dead,zw n,ownOf 48 9 (·.tc) (code++gFetch gm n.a (13:Int)),zI n gm] []) (fun x=>True) () trivial
   ·refine Jy 2 (fun _:Unit=>St.mk 46 zcn [za0 g ac gm,Reg.dead,rowOf 2 (·.tc) gm.ps,Reg.dead,Reg.dead,Reg.dead,Reg.dead,zw n,zI n gm,ownOf 48 9 (·.tc) (code++gFetch gm n.a (13:Int))] []) (fun _=>True) ?_ ?_
    ·refine ⟨⟨trivial,?_⟩,?_⟩
     ·refine Q3 Qm (Z4 g gm ac n.a 13 W2 W2 code W2) [] ?_
      exact tTo (fun x=>St.mk 46 zcn [za0 g ac gm,Reg.dead,rowOf 2 (·.tc) gm.ps,Reg.dead,Reg.dead,Reg.dead,Reg.dead,zw n,zI n gm,ownOf 48 9 (·.tc) (code++gFetch gm n.a (13:Int))] []) (fun x=>True) () trivial
     ·refine Q3 Qm (Z4 g gm ac n.a 13 W2 W2 code W2) [] ?_
      exact tTo (fun x=>St.mk 46 zcn [za0 g ac gm,Reg.dead,rowOf 2 (·.tc) gm.ps,Reg.dead,Reg.dead,Reg.dead,Reg.dead,zw n,zI n gm,ownOf 48 9 (·.tc) (code++gFetch gm n.a (13:Int))] []) (fun x=>True) () trivial
    ·rintro ⟨⟩ _
     exact tTo (fun x=>St.mk 46 za8 [zH g ac gm,Reg.dead,rowOf 2 (·.tc) gm.ps,Reg.dead,Reg.dead,Reg.dead,Reg.dead,zw n,ownOf 48 9 (·.tc) (code++gFetch gm n.a (13:Int)),zI n gm] []) (fun x=>True) () trivial [0,1,2,3,4,5,6,7,9,8]
  ·rintro ⟨⟩ _
   refine tz [5,3,0] ?_
   refine Q3 Qy (G9 n.op) [] ?_
   refine tz [32,5,3,0] ?_
   refine Q0 (twoB n.op) (fun h2=>?_) (fun h2=>?_)
   ·refine tz [5,3,0] ?_
    refine Q3 Qm (Z4 g gm ac n.b 14 W2 W2 (code++gFetch gm n.a (13:Int)) W2) [0,1,2,3,8,5,6] ?_
    refine tz [36,5,3,0] ?_
    refine Q3 Qd (Ys g gm ac [Ins.mk (2:Int) n.op (gGoal gm n.slot) (gReg gm n.a (13:Int)) (gReg gm n.b (14:Int)) (0:Int) (0:Int) (0:Int) (0:Int)] (code++gFetch gm n.a (13:Int)++gFetch gm n.b (14:Int)) W2 W2) [0,1,2,3,10,5,6,11] ?_ [11,12,13,14,15,16,17,18,19,20,21] [[Ins.mk (2:Int) n.op (gGoal gm n.slot) (gReg gm n.a (13:Int)) (gReg gm n.b (14:Int)) (0:Int) (0:Int) (0:Int) (0:Int)].length=1,∀ (i:Nat),i < [Ins.mk (2:Int) n.op (gGoal gm n.slot) (gReg gm n.a (13:Int)) (gReg gm n.b (14:Int)) (0:Int) (0:Int) (0:Int) (0:Int)].length→i≠0→([Ins.mk (2:Int) n.op (gGoal gm n.slot) (gReg gm n.a (13:Int)) (gReg gm n.b (14:Int)) (0:Int) (0:Int) (0:Int) (0:Int)].getD i ua).tc=fun x=>TC.any,(Ins.mk (2:Int) n.op (gGoal gm n.slot) (gReg gm n.a (13:Int)) (gReg gm n.b (14:Int)) (0:Int) (0:Int) (0:Int) (0:Int)).tc 0=TC.val (jg jx (2:Int)),(Ins.mk (2:Int) n.op (gGoal gm n.slot) (gReg gm n.a (13:Int)) (gReg gm n.b (14:Int)) (0:Int) (0:Int) (0:Int) (0:Int)).tc 1=TC.val (jg jx n.op),(Ins.mk (2:Int) n.op (gGoal gm n.slot) (gReg gm n.a (13:Int)) (gReg gm n.b (14:Int)) (0:Int) (0:Int) (0:Int) (0:Int)).tc 2=TC.val (jg ja (gGoal gm n.slot)),(Ins.mk (2:Int) n.op (gGoal gm n.slot) (gReg gm n.a (13:Int)) (gReg gm n.b (14:Int)) (0:Int) (0:Int) (0:Int) (0:Int)).tc 3=TC.val (jg ja (gReg gm n.a (13:Int))),(Ins.mk (2:Int) n.op (gGoal gm n.slot) (gReg gm n.a (13:Int)) (gReg gm n.b (14:Int)) (0:Int) (0:Int) (0:Int) (0:Int)).tc 4=TC.val (jg ja (gReg gm n.b (14:Int))),(Ins.mk (2:Int) n.op (gGoal gm n.slot) (gReg gm n.a (13:Int)) (gReg gm n.b (14:Int)) (0:Int) (0:Int) (0:Int) (0:Int)).tc 5=TC.val (jg ja (0:Int)),(Ins.mk (2:Int) n.op (gGoal gm n.slot) (gReg gm n.a (13:Int)) (gReg gm n.b (14:Int)) (0:Int) (0:Int) (0:Int) (0:Int)).tc 6=TC.val (jg ja (0:Int)),(Ins.mk (2:Int) n.op (gGoal gm n.slot) (gReg gm n.a (13:Int)) (gReg gm n.b (14:Int)) (0:Int) (0:Int) (0:Int) (0:Int)).tc 7=TC.val (jg ja (0:Int)),(Ins.mk (2:Int) n.op (gGoal gm n.slot) (gReg gm n.a (13:Int)) (gReg gm n.b (14:Int)) (0:Int) (0:Int) (0:Int) (0:Int)).tc 8=TC.val (jg ja (0:Int))] W57
    refine tz [3,0] ?_
    refine Q3 Y9 (Q40 g gm ac n.slot W2 W2 (code++gFetch gm n.a (13:Int)++gFetch gm n.b (14:Int)++putL gm.fr [Ins.mk (2:Int) n.op (gGoal gm n.slot) (gReg gm n.a (13:Int)) (gReg gm n.b (14:Int)) (0:Int) (0:Int) (0:Int) (0:Int)]) W2) [0,1,2,3,12,5,6] ?_
    exact Ya [0,1,2,3,4,5,6,13] [7,8] [(code++gSetN gm n).length=(code++gFetch gm n.a (13:Int)++gFetch gm n.b (14:Int)++putL gm.fr [Ins.mk (2:Int) n.op (gGoal gm n.slot) (gReg gm n.a (13:Int)) (gReg gm n.b (14:Int)) (0:Int) (0:Int) (0:Int) (0:Int)]++gKeep gm n.slot).length,∀ (i:Nat),i<(code++gSetN gm n).length→((code++gSetN gm n).getD i ua).tc=((code++gFetch gm n.a (13:Int)++gFetch gm n.b (14:Int)++putL gm.fr [Ins.mk (2:Int) n.op (gGoal gm n.slot) (gReg gm n.a (13:Int)) (gReg gm n.b (14:Int)) (0:Int) (0:Int) (0:Int) (0:Int)]++gKeep gm n.slot).getD i ua).tc] W95
   ·refine tz [5,3,0] ?_
    refine Q3 Qd (Ys g gm ac [Ins.mk (2:Int) n.op (gGoal gm n.slot) (gReg gm n.a (13:Int)) (0:Int) (0:Int) (0:Int) (0:Int) (0:Int)] (code++gFetch gm n.a (13:Int)) W2 W2) [0,1,2,3,8,5,6,10] ?_ [11,12,13,14,15,16,17,18,19,20,21] [[Ins.mk (2:Int) n.op (gGoal gm n.slot) (gReg gm n.a (13:Int)) (0:Int) (0:Int) (0:Int) (0:Int) (0:Int)].length=1,∀ (i:Nat),i < [Ins.mk (2:Int) n.op (gGoal gm n.slot) (gReg gm n.a (13:Int)) (0:Int) (0:Int) (0:Int) (0:Int) (0:Int)].length→i≠0→([Ins.mk (2:Int) n.op (gGoal gm n.slot) (gReg gm n.a (13:Int)) (0:Int) (0:Int) (0:Int) (0:Int) (0:Int)].getD i ua).tc=fun x=>TC.any,(Ins.mk (2:Int) n.op (gGoal gm n.slot) (gReg gm n.a (13:Int)) (0:Int) (0:Int) (0:Int) (0:Int) (0:Int)).tc 0=TC.val (jg jx (2:Int)),(Ins.mk (2:Int) n.op (gGoal gm n.slot) (gReg gm n.a (13:Int)) (0:Int) (0:Int) (0:Int) (0:Int) (0:Int)).tc 1=TC.val (jg jx n.op),(Ins.mk (2:Int) n.op (gGoal gm n.slot) (gReg gm n.a (13:Int)) (0:Int) (0:Int) (0:Int) (0:Int) (0:Int)).tc 2=TC.val (jg ja (gGoal gm n.slot)),(Ins.mk (2:Int) n.op (gGoal gm n.slot) (gReg gm n.a (13:Int)) (0:Int) (0:Int) (0:Int) (0:Int) (0:Int)).tc 3=TC.val (jg ja (gReg gm n.a (13:Int))),(Ins.mk (2:Int) n.op (gGoal gm n.slot) (gReg gm n.a (13:Int)) (0:Int) (0:Int) (0:Int) (0:Int) (0:Int)).tc 4=TC.val (jg ja (0:Int)),(Ins.mk (2:Int) n.op (gGoal gm n.slot) (gReg gm n.a (13:Int)) (0:Int) (0:Int) (0:Int) (0:Int) (0:Int)).tc 5=TC.val (jg ja (0:Int)),(Ins.mk (2:Int) n.op (gGoal gm n.slot) (gReg gm n.a (13:Int)) (0:Int) (0:Int) (0:Int) (0:Int) (0:Int)).tc 6=TC.val (jg ja (0:Int)),(Ins.mk (2:Int) n.op (gGoal gm n.slot) (gReg gm n.a (13:Int)) (0:Int) (0:Int) (0:Int) (0:Int) (0:Int)).tc 7=TC.val (jg ja (0:Int)),(Ins.mk (2:Int) n.op (gGoal gm n.slot) (gReg gm n.a (13:Int)) (0:Int) (0:Int) (0:Int) (0:Int) (0:Int)).tc 8=TC.val (jg ja (0:Int))] W57
    refine tz [3,0] ?_
    refine Q3 Y9 (Q40 g gm ac n.slot W2 W2 (code++gFetch gm n.a (13:Int)++putL gm.fr [Ins.mk (2:Int) n.op (gGoal gm n.slot) (gReg gm n.a (13:Int)) (0:Int) (0:Int) (0:Int) (0:Int) (0:Int)]) W2) [0,1,2,3,11,5,6] ?_
    exact Ya [0,1,2,3,4,5,6,12] [7,8] [(code++gSetN gm n).length=(code++gFetch gm n.a (13:Int)++putL gm.fr [Ins.mk (2:Int) n.op (gGoal gm n.slot) (gReg gm n.a (13:Int)) (0:Int) (0:Int) (0:Int) (0:Int) (0:Int)]++gKeep gm n.slot).length,∀ (i:Nat),i<(code++gSetN gm n).length→((code++gSetN gm n).getD i ua).tc=((code++gFetch gm n.a (13:Int)++putL gm.fr [Ins.mk (2:Int) n.op (gGoal gm n.slot) (gReg gm n.a (13:Int)) (0:Int) (0:Int) (0:Int) (0:Int) (0:Int)]++gKeep gm n.slot).getD i ua).tc] W95
abbrev zcs (y0:Gm) (y1:Nod):Ins:=Ins.mk (3:Int) (0:Int) (gGoal y0 y1.slot) (0:Int) (0:Int) y1.thing (0:Int) (0:Int) (0:Int)
abbrev zcF (y0:Nod):List SV:=[.c (.p 0 0),.agg y0.cs]
theorem Qnl (g:Grf) (gm:Gm) (ac:Int) (n:Nod) (hn:NdQ gm n) (hg:GmQ gm) (code:List Ins) (hc:code.length≤100000) (hk:n.kind=2):Ctr jb 101 (zr g ac gm code) (zcF n)
 (Det (.tup []) [zC g ac gm,.dead,.dead,.dead,.dead,.dead,.dead,Ins.ownR (code++(putL gm.fr [Ins.mk 3 0 (gGoal gm n.slot) 0 0 n.thing 0 0 0]++gKeep gm n.slot))]):=by
 refine Ctr.intro [] Tryz.func101 K K ?_
 refine Q3 Jc (Qhj g gm ac n.slot W2 W2) [] ?_
 refine tz [8,10,9,7,6,5,4,3,0] ?_
 refine Q3 Qd (Ys g gm ac [zcs gm n] code W2 W2) zdc ?_ zcD [[zcs gm n].length=1,∀ (i:Nat),i < [zcs gm n].length→i≠0→([zcs gm n].getD i ua).tc=fun x=>TC.any,(zcs gm n).tc 0=TC.val (zdv),(zcs gm n).tc 1=TC.val (zc7),(zcs gm n).tc 2=TC.val (jg ja (gGoal gm n.slot)),(zcs gm n).tc 3=TC.val (zcp),(zcs gm n).tc 4=TC.val (zcp),(zcs gm n).tc 5=TC.val (jg ja n.thing),(zcs gm n).tc 6=TC.val (zcp),(zcs gm n).tc 7=TC.val (zcp),(zcs gm n).tc 8=TC.val (zcp)] W57
 refine tz [12,11,8,10,9,7,6,5,4,3,0] ?_
 refine Q3 Y9 (Q40 g gm ac n.slot W2 W2 (code++putL gm.fr [zcs gm n]) W2) [0,1,2,3,9,5,6] ?_
 exact Ya [0,1,2,3,4,5,6,10] [7,8] [(code++(putL gm.fr [zcs gm n]++gKeep gm n.slot)).length=(code++putL gm.fr [zcs gm n]++gKeep gm n.slot).length,∀ (i:Nat),i<(code++(putL gm.fr [zcs gm n]++gKeep gm n.slot)).length→((code++(putL gm.fr [zcs gm n]++gKeep gm n.slot)).getD i ua).tc=((code++putL gm.fr [zcs gm n]++gKeep gm n.slot).getD i ua).tc] W74
theorem Qkd (g:Grf) (gm:Gm) (ac:Int) (n:Nod) (hn:NdQ gm n) (hg:GmQ gm) (code:List Ins) (hc:code.length≤100000) (hk:n.kind=3):Ctr jb 102 (zr g ac gm code) [.c (.p 0 0),.agg n.cs]
 (Det (.tup []) [zC g ac gm,.dead,.dead,.dead,.dead,.dead,.dead,Ins.ownR (code++(gFetch gm n.a 13++putL gm.fr [Ins.mk 4 0 0 (gReg gm n.a 13) 0 n.thing 0 0 0]))]):=by
 refine Ctr.intro [] Tryz.func102 K K ?_
 refine Q3 Qm (Z4 g gm ac n.a 13 W2 W2 code W2) [] ?_
 refine tz [8,3,0] ?_
 refine Q3 Qd (Ys g gm ac [Ins.mk (4:Int) (0:Int) (0:Int) (gReg gm n.a (13:Int)) (0:Int) n.thing (0:Int) (0:Int) (0:Int)] (code++gFetch gm n.a (13:Int)) W2 W2) [0,1,2,3,8,5,6,9] ?_ [11,12,13,14,15,16,17,18,19,20,21] [[Ins.mk (4:Int) (0:Int) (0:Int) (gReg gm n.a (13:Int)) (0:Int) n.thing (0:Int) (0:Int) (0:Int)].length=1,∀ (i:Nat),i < [Ins.mk (4:Int) (0:Int) (0:Int) (gReg gm n.a (13:Int)) (0:Int) n.thing (0:Int) (0:Int) (0:Int)].length→i≠0→([Ins.mk (4:Int) (0:Int) (0:Int) (gReg gm n.a (13:Int)) (0:Int) n.thing (0:Int) (0:Int) (0:Int)].getD i ua).tc=fun x=>TC.any,(Ins.mk (4:Int) (0:Int) (0:Int) (gReg gm n.a (13:Int)) (0:Int) n.thing (0:Int) (0:Int) (0:Int)).tc 0=TC.val (jg jx (4:Int)),(Ins.mk (4:Int) (0:Int) (0:Int) (gReg gm n.a (13:Int)) (0:Int) n.thing (0:Int) (0:Int) (0:Int)).tc 1=TC.val (jg jx (0:Int)),(Ins.mk (4:Int) (0:Int) (0:Int) (gReg gm n.a (13:Int)) (0:Int) n.thing (0:Int) (0:Int) (0:Int)).tc 2=TC.val (jg ja (0:Int)),(Ins.mk (4:Int) (0:Int) (0:Int) (gReg gm n.a (13:Int)) (0:Int) n.thing (0:Int) (0:Int) (0:Int)).tc 3=TC.val (jg ja (gReg gm n.a (13:Int))),(Ins.mk (4:Int) (0:Int) (0:Int) (gReg gm n.a (13:Int)) (0:Int) n.thing (0:Int) (0:Int) (0:Int)).tc 4=TC.val (jg ja (0:Int)),(Ins.mk (4:Int) (0:Int) (0:Int) (gReg gm n.a (13:Int)) (0:Int) n.thing (0:Int) (0:Int) (0:Int)).tc 5=TC.val (jg ja n.thing),(Ins.mk (4:Int) (0:Int) (0:Int) (gReg gm n.a (13:Int)) (0:Int) n.thing (0:Int) (0:Int) (0:Int)).tc 6=TC.val (jg ja (0:Int)),(Ins.mk (4:Int) (0:Int) (0:Int) (gReg gm n.a (13:Int)) (0:Int) n.thing (0:Int) (0:Int) (0:Int)).tc 7=TC.val (jg ja (0:Int)),(Ins.mk (4:Int) (0:Int) (0:Int) (gReg gm n.a (13:Int)) (0:Int) n.thing (0:Int) (0:Int) (0:Int)).tc 8=TC.val (jg ja (0:Int))] W57
 exact Ya [0,1,2,3,4,5,6,10] [7,8] [(code++(gFetch gm n.a (13:Int)++putL gm.fr [Ins.mk (4:Int) (0:Int) (0:Int) (gReg gm n.a (13:Int)) (0:Int) n.thing (0:Int) (0:Int) (0:Int)])).length=(code++gFetch gm n.a (13:Int)++putL gm.fr [Ins.mk (4:Int) (0:Int) (0:Int) (gReg gm n.a (13:Int)) (0:Int) n.thing (0:Int) (0:Int) (0:Int)]).length,∀ (i:Nat),i<(code++(gFetch gm n.a (13:Int)++putL gm.fr [Ins.mk (4:Int) (0:Int) (0:Int) (gReg gm n.a (13:Int)) (0:Int) n.thing (0:Int) (0:Int) (0:Int)])).length→((code++(gFetch gm n.a (13:Int)++putL gm.fr [Ins.mk (4:Int) (0:Int) (0:Int) (gReg gm n.a (13:Int)) (0:Int) n.thing (0:Int) (0:Int) (0:Int)])).getD i ua).tc=((code++gFetch gm n.a (13:Int)++putL gm.fr [Ins.mk (4:Int) (0:Int) (0:Int) (gReg gm n.a (13:Int)) (0:Int) n.thing (0:Int) (0:Int) (0:Int)]).getD i ua).tc] W74
abbrev zct (y0:Gm) (y1:Nod):Ins:=Ins.mk (2:Int) (7:Int) (y0.ps.getD y1.slot.toNat ua).n (15:Int) (15:Int) (0:Int) (0:Int) (0:Int) (0:Int)
abbrev zcv (y0:Nod):Ins:=Ins.mk (5:Int) (0:Int) (15:Int) (0:Int) (0:Int) y0.thing (0:Int) (0:Int) (0:Int)
abbrev zcJ (y0:List Ins) (y1:Gm) (y2:Nod):List Ins:=y0++gMove y1 y2.a (15:Int)++putL y1.fr [zcv y2]
theorem Qnm (g:Grf) (gm:Gm) (ac:Int) (n:Nod) (hn:NdQ gm n) (hg:GmQ gm) (code:List Ins) (hc:code.length≤100000) (hk:n.kind=4):Ctr jb 103 (zr g ac gm code) (zcF n)
 (Det (.tup []) [zC g ac gm,.dead,.dead,.dead,.dead,.dead,.dead,Ins.ownR (code++gSwapN gm n)]):=by
 refine Ctr.intro [] Tryz.func103 K K ?_
 refine Q3 Jd (Qhk g gm ac n.a 15 W2 W2 code W2) [] ?_
 refine tz [3,0] ?_
 refine Q3 Qd (Ys g gm ac [zcv n] (code++gMove gm n.a (15:Int)) W2 W2) [0,1,2,3,8,5,6,9] ?_ zcD [[zcv n].length=1,∀ (i:Nat),i < [zcv n].length→i≠0→([zcv n].getD i ua).tc=fun x=>TC.any,(zcv n).tc 0=TC.val (jg jx (5:Int)),(zcv n).tc 1=TC.val (zc7),(zcv n).tc 2=TC.val (zcB),(zcv n).tc 3=TC.val (zcp),(zcv n).tc 4=TC.val (zcp),(zcv n).tc 5=TC.val (jg ja n.thing),(zcv n).tc 6=TC.val (zcp),(zcv n).tc 7=TC.val (zcp),(zcv n).tc 8=TC.val (zcp)] W57
 refine tz [3,0] ?_
 refine Q0 (!(gm.ps.getD n.slot.toNat ua).cell) (fun h1=>?_) (fun h1=>?_) (vc:=[(0:Int)≤n.slot,n.slot<(↑gm.ps.length:Int),n.slot.toNat<gm.ps.length]) (hv:=W132)
 ·refine tz [4,3,0] ?_
  refine Q3 Qd (Ys g gm ac [zct gm n] (zcJ code gm n) W2 W2) [0,1,2,3,10,5,6,12] ?_ zcD [[zct gm n].length=1,∀ (i:Nat),i < [zct gm n].length→i≠0→([zct gm n].getD i ua).tc=fun x=>TC.any,(zct gm n).tc 0=TC.val (zdw),(zct gm n).tc 1=TC.val (zdx),(zct gm n).tc 2=TC.val (jg ja (gm.ps.getD n.slot.toNat ua).n),(zct gm n).tc 3=TC.val (zcB),(zct gm n).tc 4=TC.val (zcB),(zct gm n).tc 5=TC.val (zcp),(zct gm n).tc 6=TC.val (zcp),(zct gm n).tc 7=TC.val (zcp),(zct gm n).tc 8=TC.val (zcp)] W57
  exact Q2 [0,1,2,3,4,5,6,13] [7,8] [(code++gSwapN gm n).length=(zcJ code gm n++putL gm.fr [zct gm n]).length,∀ (i:Nat),i<(code++gSwapN gm n).length→((code++gSwapN gm n).getD i ua).tc=((zcJ code gm n++putL gm.fr [zct gm n]).getD i ua).tc] W127
 ·refine tz [3,0] ?_
  refine Q3 Y9 (Q40 g gm ac n.slot W2 W2 (zcJ code gm n) W2) [0,1,2,3,10,5,6] ?_
  exact Ya [0,1,2,3,4,5,6,12] [7,8] [(code++gSwapN gm n).length=(zcJ code gm n++gKeep gm n.slot).length,∀ (i:Nat),i<(code++gSwapN gm n).length→((code++gSwapN gm n).getD i ua).tc=((zcJ code gm n++gKeep gm n.slot).getD i ua).tc] W127
abbrev zc3 (y0:Gm) (y1:Nod):List Ins:=[Ins.mk (1:Int) (0:Int) (15:Int) (0:Int) (0:Int) (0:Int) (0:Int) (0:Int) (0:Int),Ins.mk (4:Int) (0:Int) (0:Int) (15:Int) (0:Int) (y0.shared+y1.thing) (0:Int) (0:Int) (0:Int)]
theorem Qhl (g:Grf) (gm:Gm) (ac:Int) (n:Nod) (hn:NdQ gm n) (hg:GmQ gm) (code:List Ins) (hc:code.length≤100000) (hk:n.kind=6):Ctr jb 105 (zr g ac gm code) (zcF n)
 (Det (.tup []) [zC g ac gm,.dead,.dead,.dead,.dead,.dead,.dead,Ins.ownR (code++putL gm.fr [Ins.mk 1 0 15 0 0 0 0 0 0,Ins.mk 4 0 0 15 0 (gm.shared+n.thing) 0 0 0])]):=by
 refine Ctr.intro [] Tryz.func105 K K ?_
 refine Q3 Qd (Ys g gm ac (zc3 gm n) code W2 W2) zdc ?_ [11,12] [(zc3 gm n).length=2,∀ (i:Nat),i < (zc3 gm n).length→((zc3 gm n).getD i ua).tc=rowT 9 [zdu,zc7,zcB,zcp,zcp,zcp,zcp,zcp,zcp,jg jx (4:Int),zc7,zcp,zcB,zcp,jg ja (gm.shared+n.thing),zcp,zcp,zcp] i] W57 (vc:=[Fits ja (gm.shared+n.thing)]) (hv:=W132)
 exact Ya zdm
theorem Qke (g:Grf) (gm:Gm) (ac:Int) (n:Nod) (hn:NdQ gm n) (hg:GmQ gm) (code:List Ins) (hc:code.length≤100000) (hk:n.kind=7):Ctr jb 106 (zr g ac gm code) [.c (.p 0 0),.agg n.cs]
 (Det (.tup []) [zC g ac gm,.dead,.dead,.dead,.dead,.dead,.dead,Ins.ownR (code++(gFetch gm n.a 13++putL gm.fr [Ins.mk 7 0 0 (gReg gm n.a 13) 0 0 0 0 0]))]):=by
 refine Ctr.intro [] Tryz.func106 K K ?_
 refine Q3 Qm (Z4 g gm ac n.a 13 W2 W2 code W2) [] ?_
 refine tz [8,0] ?_
 refine Q3 Qd (Ys g gm ac [Ins.mk (7:Int) (0:Int) (0:Int) (gReg gm n.a (13:Int)) (0:Int) (0:Int) (0:Int) (0:Int) (0:Int)] (code++gFetch gm n.a (13:Int)) W2 W2) [0,1,2,3,8,5,6,9] ?_ [11,12,13,14,15,16,17,18,19,20,21] [[Ins.mk (7:Int) (0:Int) (0:Int) (gReg gm n.a (13:Int)) (0:Int) (0:Int) (0:Int) (0:Int) (0:Int)].length=1,∀ (i:Nat),i < [Ins.mk (7:Int) (0:Int) (0:Int) (gReg gm n.a (13:Int)) (0:Int) (0:Int) (0:Int) (0:Int) (0:Int)].length→i≠0→([Ins.mk (7:Int) (0:Int) (0:Int) (gReg gm n.a (13:Int)) (0:Int) (0:Int) (0:Int) (0:Int) (0:Int)].getD i ua).tc=fun x=>TC.any,(Ins.mk (7:Int) (0:Int) (0:Int) (gReg gm n.a (13:Int)) (0:Int) (0:Int) (0:Int) (0:Int) (0:Int)).tc 0=TC.val (jg jx (7:Int)),(Ins.mk (7:Int) (0:Int) (0:Int) (gReg gm n.a (13:Int)) (0:Int) (0:Int) (0:Int) (0:Int) (0:Int)).tc 1=TC.val (jg jx (0:Int)),(Ins.mk (7:Int) (0:Int) (0:Int) (gReg gm n.a (13:Int)) (0:Int) (0:Int) (0:Int) (0:Int) (0:Int)).tc 2=TC.val (jg ja (0:Int)),(Ins.mk (7:Int) (0:Int) (0:Int) (gReg gm n.a (13:Int)) (0:Int) (0:Int) (0:Int) (0:Int) (0:Int)).tc 3=TC.val (jg ja (gReg gm n.a (13:Int))),(Ins.mk (7:Int) (0:Int) (0:Int) (gReg gm n.a (13:Int)) (0:Int) (0:Int) (0:Int) (0:Int) (0:Int)).tc 4=TC.val (jg ja (0:Int)),(Ins.mk (7:Int) (0:Int) (0:Int) (gReg gm n.a (13:Int)) (0:Int) (0:Int) (0:Int) (0:Int) (0:Int)).tc 5=TC.val (jg ja (0:Int)),(Ins.mk (7:Int) (0:Int) (0:Int) (gReg gm n.a (13:Int)) (0:Int) (0:Int) (0:Int) (0:Int) (0:Int)).tc 6=TC.val (jg ja (0:Int)),(Ins.mk (7:Int) (0:Int) (0:Int) (gReg gm n.a (13:Int)) (0:Int) (0:Int) (0:Int) (0:Int) (0:Int)).tc 7=TC.val (jg ja (0:Int)),(Ins.mk (7:Int) (0:Int) (0:Int) (gReg gm n.a (13:Int)) (0:Int) (0:Int) (0:Int) (0:Int) (0:Int)).tc 8=TC.val (jg ja (0:Int))] W57
 exact Ya [0,1,2,3,4,5,6,10] [7,8] [(code++(gFetch gm n.a (13:Int)++putL gm.fr [Ins.mk (7:Int) (0:Int) (0:Int) (gReg gm n.a (13:Int)) (0:Int) (0:Int) (0:Int) (0:Int) (0:Int)])).length=(code++gFetch gm n.a (13:Int)++putL gm.fr [Ins.mk (7:Int) (0:Int) (0:Int) (gReg gm n.a (13:Int)) (0:Int) (0:Int) (0:Int) (0:Int) (0:Int)]).length,∀ (i:Nat),i<(code++(gFetch gm n.a (13:Int)++putL gm.fr [Ins.mk (7:Int) (0:Int) (0:Int) (gReg gm n.a (13:Int)) (0:Int) (0:Int) (0:Int) (0:Int) (0:Int)])).length→((code++(gFetch gm n.a (13:Int)++putL gm.fr [Ins.mk (7:Int) (0:Int) (0:Int) (gReg gm n.a (13:Int)) (0:Int) (0:Int) (0:Int) (0:Int) (0:Int)])).getD i ua).tc=((code++gFetch gm n.a (13:Int)++putL gm.fr [Ins.mk (7:Int) (0:Int) (0:Int) (gReg gm n.a (13:Int)) (0:Int) (0:Int) (0:Int) (0:Int) (0:Int)]).getD i ua).tc] W74
theorem Qhm (g:Grf) (gm:Gm) (ac:Int) (n:Nod) (hn:NdQ gm n) (hg:GmQ gm) (code:List Ins) (hc:code.length≤100000) (hk:n.kind=8):Ctr jb 107 (zr g ac gm code) [.c (.p 0 0),.agg n.cs]
 (Det (.tup []) [zC g ac gm,.dead,.dead,.dead,.dead,.dead,.dead,Ins.ownR (code++gBranch gm n)]):=by
 refine Ctr.intro [] Tryz.func107 K K ?_
 refine Q0 (decide (n.els=n.next)) (fun h1=>?_) (fun h1=>?_)
 ·exact Q2 [0,1,2,3,4,5,6,4] [7,8] [(code++gBranch gm n).length=code.length,∀ (i:Nat),i<(code++gBranch gm n).length→((code++gBranch gm n).getD i ua).tc=(code.getD i ua).tc] W136
 ·refine tz [3,0] ?_
  refine Q3 Qm (Z4 g gm ac n.a 13 W2 W2 code W2) [] ?_
  refine tz [13,3,0] ?_
  refine Q3 Qd (Ys g gm ac [Ins.mk (9:Int) (0:Int) (0:Int) (gReg gm n.a (13:Int)) (0:Int) (0:Int) n.els (0:Int) (0:Int)] (code++gFetch gm n.a (13:Int)) W2 W2) [0,1,2,3,8,5,6,9] ?_ [11,12,13,14,15,16,17,18,19,20,21] [[Ins.mk (9:Int) (0:Int) (0:Int) (gReg gm n.a (13:Int)) (0:Int) (0:Int) n.els (0:Int) (0:Int)].length=1,∀ (i:Nat),i < [Ins.mk (9:Int) (0:Int) (0:Int) (gReg gm n.a (13:Int)) (0:Int) (0:Int) n.els (0:Int) (0:Int)].length→i≠0→([Ins.mk (9:Int) (0:Int) (0:Int) (gReg gm n.a (13:Int)) (0:Int) (0:Int) n.els (0:Int) (0:Int)].getD i ua).tc=fun x=>TC.any,(Ins.mk (9:Int) (0:Int) (0:Int) (gReg gm n.a (13:Int)) (0:Int) (0:Int) n.els (0:Int) (0:Int)).tc 0=TC.val (jg jx (9:Int)),(Ins.mk (9:Int) (0:Int) (0:Int) (gReg gm n.a (13:Int)) (0:Int) (0:Int) n.els (0:Int) (0:Int)).tc 1=TC.val (jg jx (0:Int)),(Ins.mk (9:Int) (0:Int) (0:Int) (gReg gm n.a (13:Int)) (0:Int) (0:Int) n.els (0:Int) (0:Int)).tc 2=TC.val (jg ja (0:Int)),(Ins.mk (9:Int) (0:Int) (0:Int) (gReg gm n.a (13:Int)) (0:Int) (0:Int) n.els (0:Int) (0:Int)).tc 3=TC.val (jg ja (gReg gm n.a (13:Int))),(Ins.mk (9:Int) (0:Int) (0:Int) (gReg gm n.a (13:Int)) (0:Int) (0:Int) n.els (0:Int) (0:Int)).tc 4=TC.val (jg ja (0:Int)),(Ins.mk (9:Int) (0:Int) (0:Int) (gReg gm n.a (13:Int)) (0:Int) (0:Int) n.els (0:Int) (0:Int)).tc 5=TC.val (jg ja (0:Int)),(Ins.mk (9:Int) (0:Int) (0:Int) (gReg gm n.a (13:Int)) (0:Int) (0:Int) n.els (0:Int) (0:Int)).tc 6=TC.val (jg ja n.els),(Ins.mk (9:Int) (0:Int) (0:Int) (gReg gm n.a (13:Int)) (0:Int) (0:Int) n.els (0:Int) (0:Int)).tc 7=TC.val (jg ja (0:Int)),(Ins.mk (9:Int) (0:Int) (0:Int) (gReg gm n.a (13:Int)) (0:Int) (0:Int) n.els (0:Int) (0:Int)).tc 8=TC.val (jg ja (0:Int))] W57
  exact Ya [0,1,2,3,4,5,6,10] [7,8] [(code++gBranch gm n).length=(code++gFetch gm n.a (13:Int)++putL gm.fr [Ins.mk (9:Int) (0:Int) (0:Int) (gReg gm n.a (13:Int)) (0:Int) (0:Int) n.els (0:Int) (0:Int)]).length,∀ (i:Nat),i<(code++gBranch gm n).length→((code++gBranch gm n).getD i ua).tc=((code++gFetch gm n.a (13:Int)++putL gm.fr [Ins.mk (9:Int) (0:Int) (0:Int) (gReg gm n.a (13:Int)) (0:Int) (0:Int) n.els (0:Int) (0:Int)]).getD i ua).tc] W136
abbrev zcz:Ins:=Ins.mk (10:Int) (0:Int) (0:Int) (0:Int) (0:Int) (0:Int) (0:Int) (0:Int) (0:Int)
theorem Qpr (g:Grf) (gm:Gm) (ac:Int) (n:Nod) (hn:NdQ gm n) (hg:GmQ gm) (code:List Ins) (hc:code.length≤100000) (hk:n.kind=9):Ctr jb 108 (zr g ac gm code) (zcF n)
 (Det (.tup []) [zC g ac gm,.dead,.dead,.dead,.dead,.dead,.dead,Ins.ownR (code++putL gm.fr [Ins.mk 10 0 0 0 0 0 0 0 0])]):=by
 refine Ctr.intro [] Tryz.func108 K K ?_
 refine Q3 Qd (Ys g gm ac [zcz] code W2 W2) zdc ?_ zcD [[zcz].length=1,∀ (i:Nat),i < [zcz].length→i≠0→([zcz].getD i ua).tc=fun x=>TC.any,(zcz).tc 0=TC.val (jg jx (10:Int)),(zcz).tc 1=TC.val (zc7),(zcz).tc 2=TC.val (zcp),(zcz).tc 3=TC.val (zcp),(zcz).tc 4=TC.val (zcp),(zcz).tc 5=TC.val (zcp),(zcz).tc 6=TC.val (zcp),(zcz).tc 7=TC.val (zcp),(zcz).tc 8=TC.val (zcp)] W57
 exact Ya zdm
abbrev zcb (y0:Nat) (y1:Int → Option Int) (y2:List Ins):Reg:=Reg.mp MTi (y0+4) (fun a=>((innF y1 (y2.length:Int)) a).isSome) (fun a=>((innF y1 (y2.length:Int)) a).getD (0:Int)) none
abbrev zcx (y0:Gm) (y1:Nod) (y2:List Ins):List Ins:=[Ins.mk (1:Int) (0:Int) (15:Int) (0:Int) (0:Int) (0:Int) (0:Int) (1:Int) (0:Int),Ins.mk (5:Int) (0:Int) (15:Int) (0:Int) (0:Int) (y0.shared+y1.thing) (0:Int) (0:Int) (0:Int),Ins.mk (9:Int) (0:Int) (0:Int) (15:Int) (0:Int) (0:Int) ((↑y2.length:Int)+(4:Int)) (0:Int) (0:Int),Ins.mk (8:Int) (0:Int) (0:Int) (0:Int) (0:Int) (0:Int) (↑y2.length:Int) (0:Int) (0:Int)]
abbrev zcC:MT:=(MT.mk jb 88 3 3 [CK.i ja] false [CK.i ja] false)
abbrev zdq:Value:=jg ja (1:Int)
theorem Qnn (g:Grf) (gm:Gm) (ac:Int) (n:Nod) (hn:NdQ gm n) (hg:GmQ gm) (code:List Ins) (hc:code.length≤100000) (cN:Nat) (F:Int→Option Int) (hc2:cN≤1000000) (hk:n.kind=5):Ctr jb 104 [zaz g ac gm,.dead,Plc.rowR gm.ps,.dead,Ins.ownR code,Reg.mp MTi cN (fun a=>(F a).isSome) (fun a=>(F a).getD (0:Int)) none,.dead] (zcF n)
 (Det (.tup []) [zC g ac gm,.dead,.dead,.dead,.dead,zcb cN F code,.dead,Ins.ownR (code++putL gm.fr [Ins.mk 1 0 15 0 0 0 0 1 0,Ins.mk 5 0 15 0 0 (gm.shared+n.thing) 0 0 0,Ins.mk 9 0 0 15 0 0 ((code.length:Int)+4) 0 0,Ins.mk 8 0 0 0 0 0 (code.length:Int) 0 0])]):=by
 refine Ctr.intro [] Tryz.func104 K K ?_
 refine RunF.mentR (vc:=[Fits ja ((↑code.length:Int)+(2:Int)),Fits ja ((↑code.length:Int)+(3:Int))]) (vc2:=[Fits ja ((↑code.length:Int)+(2:Int)),MTi.P=jb,cN<maxLen]) 5 K W64 K W64 (fun _=>by kernel_rfl) (fun st1=>?_)
 refine tz [22,21,20,19,18,17,16,15,14,13,12,11,10,4,3,0] ?_
 refine RunF.mentR (vc:=[Fits ja ((↑code.length:Int)+(2:Int)),zcC.P=jb,cN+1<maxLen,st1=st1]) (vc2:=[Fits ja ((↑code.length:Int)+(3:Int)),zcC.P=jb,cN+1+1<maxLen]) 5 K W64 K W64 (fun _=>by kernel_rfl) (fun st2=>?_)
 refine tz [24,23,22,21,20,19,18,17,16,15,14,13,12,11,10,4,3,0] ?_
 refine Q3 Qd (Ys g gm ac (zcx gm n code) code W2 W2) zdc ?_ [11,12] [(zcx gm n code).length=4,∀ (i:Nat),i < (zcx gm n code).length→((zcx gm n code).getD i ua).tc=rowT 9 [zdu,zc7,zcB,zcp,zcp,zcp,zcp,zdq,zcp,jg jx (5:Int),zc7,zcB,zcp,zcp,jg ja (gm.shared+n.thing),zcp,zcp,zcp,jg jx (9:Int),zc7,zcp,zcB,zcp,zcp,jg ja ((↑code.length:Int)+(4:Int)),zcp,zcp,jg jx (8:Int),zc7,zcp,zcp,zcp,zcp,jg ja (↑code.length:Int),zcp,zcp] i] W57 (vc:=[Fits ja ((↑code.length:Int)+(3:Int)),zcC.P=jb,cN+1+1+1<maxLen,st2=st2,Fits ja (gm.shared+n.thing),Fits ja ((↑code.length:Int)+(4:Int))]) (hv:=W64)
 exact Ya zdm [7] [MpEq MTi (cN+4) (fun (a:Int)=>(innF F (↑code.length:Int) a).isSome) (fun (a:Int)=>(innF F (↑code.length:Int) a).getD (0:Int)) none zcC (cN+1+1+1+1) (fun (p:Int)=>decide (p=(↑code.length:Int)+(3:Int))||(decide (p=(↑code.length:Int)+(3:Int))||(decide (p=(↑code.length:Int)+(2:Int))||(decide (p=(↑code.length:Int)+(2:Int))||(F p).isSome)))) (fun (p:Int)=>if p=(↑code.length:Int)+(3:Int) then (1:Int) else if p=(↑code.length:Int)+(2:Int) then (1:Int) else (F p).getD (0:Int)) none] (by simp only [Conj];(repeat' apply jl)<;>exact Qou _ _ _)
abbrev za:Reg:=Reg.mpv (MT.mk jb 123 97 104 [CK.i jx] false [] false) ky 9 [((9:Int),C.fn 108 true [0]),((8:Int),C.fn 107 true [0]),((7:Int),C.fn 106 true [0]),((6:Int),C.fn 105 true [0]),((5:Int),C.fn 104 true [0]),((4:Int),C.fn 103 true [0]),((3:Int),C.fn 102 true [0]),((2:Int),C.fn 101 true [0]),((1:Int),C.fn 100 true [0])]
abbrev zbQ:List Reg:=[.dead,.dead,.dead,.dead,.dead,.dead,.dead,Reg.mpv MTm .nilFunc 9 mkEnts]
abbrev zc2:MT:=(MT.mk jb 123 97 104 [CK.i jx] false [] false)
theorem Qkf (g:Grf) (gm:Gm) (ac:Int):Ctr jb 61 [za5 g ac gm,.dead,.dead,.dead,.dead,.dead,.dead] [.c (.p 0 0)]
 (Det (.c (.h 7)) zbQ):=by
 refine Ctr.intro [] Tryz.func61 K K ?_
 exact Q2 [] [0] [Reg.mpv MTm ky 9 (List.map (fun x=>(x.fst,C.ren (at' [0,1,2,3,4,5,6,7]) x.snd)) mkEnts)=za] (by simp only [Conj];(repeat' apply jl)<;>trivial) (vc:=[zc2.P=jb,zc2.OkV ky,Fits jx (1:Int),zc2.P=jb,0<maxLen,Fits jx (2:Int),zc2.P=jb,1<maxLen,Fits jx (3:Int),zc2.P=jb,2<maxLen,Fits jx (4:Int),zc2.P=jb,3<maxLen,Fits jx (5:Int),zc2.P=jb,4<maxLen,Fits jx (6:Int),zc2.P=jb,5<maxLen,Fits jx (7:Int),zc2.P=jb,6<maxLen,Fits jx (8:Int),zc2.P=jb,7<maxLen,Fits jx (9:Int),zc2.P=jb,8<maxLen]) (hv:=(by simp only [Conj,Fits,Q7,Q8,Q9,Qa,News.len,maxLen]<;>(repeat' apply jl)<;>first | exact Qmk | grind))
theorem Qf5 (l:List Int) (v:Int) (hl:l.length≤8388608):Ctr jb 62 [IntRow l] [.c (.h 0),zc8 v]
 (Det (.c (.b (hasF l v))) [.dead]):=by
 refine Ctr.intro [] Tryz.func62 K K ?_
 refine Q3 Q3n (Qn5 l v W37) [] ?_
 exact Q2 [] [0] [hasF l v=decide ((0:Int)≤idxF l v (0:Int))] (by simp only [Conj];rfl)
abbrev zJ (y0:Grf) (y1 y2 y3 y4:Int):Reg:=Reg.box 90 [C.v (jC y0.name),C.i .i64 y0.locals,C.i .i64 y0.slots,C.h 1,C.h 2,C.i .i64 y1,C.h 3,C.i .i64 y2,C.i .i64 y3,C.h 4,C.h 5,C.h 6,C.i .i64 y4]
theorem Qhn (g:Grf) (ps:List Plc) (ba sh fr ac:Int) (l:List Ins) (code:List Ins) (hc:code.length≤1000000) (hl:l.length≤1000):Ctr jb 63 [zJ g ac sh ba fr,.dead,Plc.rowR ps,.dead,Ins.ownR code,.dead,.dead,Ins.rowR l] [.c (.p 0 0),.c (.h 7)]
 (Det (.tup []) [Reg.box 90 [C.v (jC g.name),C.i .i64 g.locals,C.i .i64 g.slots,C.h 1,C.h 2,C.i .i64 ac,C.h 3,C.i .i64 sh,C.i .i64 ba,C.h 8,C.h 5,C.h 6,C.i .i64 fr],.dead,.dead,.dead,.dead,.dead,.dead,.dead,Ins.ownR (code++putL fr l)]):=by
 exact Ys g (Gm.mk ps ba sh fr) ac l code hc hl
theorem Qho (g:Grf) (ba sh fr ac:Int):Ctr jb 61 [.ro [C.v (jC g.name),C.i .i64 g.locals,C.i .i64 g.slots,C.h 1,C.h 2,C.i .i64 ac,C.h 3,C.i .i64 sh,C.i .i64 ba,C.h 4,C.h 5,C.h 6,C.i .i64 fr],.dead,.dead,.dead,.dead,.dead,.dead] [.c (.p 0 0)]
 (Det (.c (.h 7)) zbQ):=by
 exact Qkf g (Gm.mk [] ba sh fr) ac
abbrev zM (y0:Grf) (y1 y2 y3 y4:Int):Reg:=Reg.box 90 [C.v (jC y0.name),C.i .i64 y0.locals,C.i .i64 y0.slots,C.h 1,C.h 2,C.i .i64 y1,C.h 3,C.i .i64 y2,C.i .i64 y3,C.h 7,C.h 5,C.h 6,C.i .i64 y4]
abbrev zaJ (y0:Grf) (y1 y2 y3 y4:Int) (y5:List Plc) (y6:List Ins):List Reg:=[zJ y0 y1 y2 y3 y4,.dead,Plc.rowR y5,.dead,Ins.ownR y6,.dead,.dead]
theorem Qno (g:Grf) (ps:List Plc) (ba sh fr ac:Int) (n:Nod) (hn:NdQ (Gm.mk ps ba sh fr) n) (hg:GmQ (Gm.mk ps ba sh fr)) (code:List Ins) (hc:code.length≤100000) (hk:n.kind=1):Ctr jb 100 (zaJ g ac sh ba fr ps code) (zcF n)
 (Det (.tup []) [zM g ac sh ba fr,.dead,.dead,.dead,.dead,.dead,.dead,Ins.ownR (code++gSetN (Gm.mk ps ba sh fr) n)]):=by
 exact Qpq g (Gm.mk ps ba sh fr) ac n hn hg code hc hk
theorem Qkg (g:Grf) (ps:List Plc) (ba sh fr ac:Int) (n:Nod) (hn:NdQ (Gm.mk ps ba sh fr) n) (hg:GmQ (Gm.mk ps ba sh fr)) (code:List Ins) (hc:code.length≤100000) (hk:n.kind=2):Ctr jb 101 (zaJ g ac sh ba fr ps code) (zcF n)
 (Det (.tup []) [zM g ac sh ba fr,.dead,.dead,.dead,.dead,.dead,.dead,Ins.ownR (code++(putL fr [Ins.mk 3 0 (gGoal (Gm.mk ps ba sh fr) n.slot) 0 0 n.thing 0 0 0]++gKeep (Gm.mk ps ba sh fr) n.slot))]):=by
 exact Qnl g (Gm.mk ps ba sh fr) ac n hn hg code hc hk
theorem Qhp (g:Grf) (ps:List Plc) (ba sh fr ac:Int) (n:Nod) (hn:NdQ (Gm.mk ps ba sh fr) n) (hg:GmQ (Gm.mk ps ba sh fr)) (code:List Ins) (hc:code.length≤100000) (hk:n.kind=3):Ctr jb 102 (zaJ g ac sh ba fr ps code) (zcF n)
 (Det (.tup []) [zM g ac sh ba fr,.dead,.dead,.dead,.dead,.dead,.dead,Ins.ownR (code++(gFetch (Gm.mk ps ba sh fr) n.a 13++putL fr [Ins.mk 4 0 0 (gReg (Gm.mk ps ba sh fr) n.a 13) 0 n.thing 0 0 0]))]):=by
 exact Qkd g (Gm.mk ps ba sh fr) ac n hn hg code hc hk
theorem Qkh (g:Grf) (ps:List Plc) (ba sh fr ac:Int) (n:Nod) (hn:NdQ (Gm.mk ps ba sh fr) n) (hg:GmQ (Gm.mk ps ba sh fr)) (code:List Ins) (hc:code.length≤100000) (hk:n.kind=4):Ctr jb 103 (zaJ g ac sh ba fr ps code) (zcF n)
 (Det (.tup []) [zM g ac sh ba fr,.dead,.dead,.dead,.dead,.dead,.dead,Ins.ownR (code++gSwapN (Gm.mk ps ba sh fr) n)]):=by
 exact Qnm g (Gm.mk ps ba sh fr) ac n hn hg code hc hk
theorem Qf6 (g:Grf) (ps:List Plc) (ba sh fr ac:Int) (n:Nod) (hn:NdQ (Gm.mk ps ba sh fr) n) (hg:GmQ (Gm.mk ps ba sh fr)) (code:List Ins) (hc:code.length≤100000) (hk:n.kind=6):Ctr jb 105 (zaJ g ac sh ba fr ps code) (zcF n)
 (Det (.tup []) [zM g ac sh ba fr,.dead,.dead,.dead,.dead,.dead,.dead,Ins.ownR (code++putL fr [Ins.mk 1 0 15 0 0 0 0 0 0,Ins.mk 4 0 0 15 0 (sh+n.thing) 0 0 0])]):=by
 exact Qhl g (Gm.mk ps ba sh fr) ac n hn hg code hc hk
theorem Qhq (g:Grf) (ps:List Plc) (ba sh fr ac:Int) (n:Nod) (hn:NdQ (Gm.mk ps ba sh fr) n) (hg:GmQ (Gm.mk ps ba sh fr)) (code:List Ins) (hc:code.length≤100000) (hk:n.kind=7):Ctr jb 106 (zaJ g ac sh ba fr ps code) (zcF n)
 (Det (.tup []) [zM g ac sh ba fr,.dead,.dead,.dead,.dead,.dead,.dead,Ins.ownR (code++(gFetch (Gm.mk ps ba sh fr) n.a 13++putL fr [Ins.mk 7 0 0 (gReg (Gm.mk ps ba sh fr) n.a 13) 0 0 0 0 0]))]):=by
 exact Qke g (Gm.mk ps ba sh fr) ac n hn hg code hc hk
theorem Qf7 (g:Grf) (ps:List Plc) (ba sh fr ac:Int) (n:Nod) (hn:NdQ (Gm.mk ps ba sh fr) n) (hg:GmQ (Gm.mk ps ba sh fr)) (code:List Ins) (hc:code.length≤100000) (hk:n.kind=8):Ctr jb 107 (zaJ g ac sh ba fr ps code) (zcF n)
 (Det (.tup []) [zM g ac sh ba fr,.dead,.dead,.dead,.dead,.dead,.dead,Ins.ownR (code++gBranch (Gm.mk ps ba sh fr) n)]):=by
 exact Qhm g (Gm.mk ps ba sh fr) ac n hn hg code hc hk
theorem Qnp (g:Grf) (ps:List Plc) (ba sh fr ac:Int) (n:Nod) (hn:NdQ (Gm.mk ps ba sh fr) n) (hg:GmQ (Gm.mk ps ba sh fr)) (code:List Ins) (hc:code.length≤100000) (hk:n.kind=9):Ctr jb 108 (zaJ g ac sh ba fr ps code) (zcF n)
 (Det (.tup []) [zM g ac sh ba fr,.dead,.dead,.dead,.dead,.dead,.dead,Ins.ownR (code++putL fr [Ins.mk 10 0 0 0 0 0 0 0 0])]):=by
 exact Qpr g (Gm.mk ps ba sh fr) ac n hn hg code hc hk
theorem Qki (g:Grf) (ps:List Plc) (ba sh fr ac:Int) (n:Nod) (hn:NdQ (Gm.mk ps ba sh fr) n) (hg:GmQ (Gm.mk ps ba sh fr)) (code:List Ins) (hc:code.length≤100000) (cN:Nat) (F:Int→Option Int) (hc2:cN≤1000000) (hk:n.kind=5):Ctr jb 104 [zJ g ac sh ba fr,.dead,Plc.rowR ps,.dead,Ins.ownR code,Reg.mp MTi cN (fun a=>(F a).isSome) (fun a=>(F a).getD (0:Int)) none,.dead] (zcF n)
 (Det (.tup []) [zM g ac sh ba fr,.dead,.dead,.dead,.dead,zcb cN F code,.dead,Ins.ownR (code++putL fr [Ins.mk 1 0 15 0 0 0 0 1 0,Ins.mk 5 0 15 0 0 (sh+n.thing) 0 0 0,Ins.mk 9 0 0 15 0 0 ((code.length:Int)+4) 0 0,Ins.mk 8 0 0 0 0 0 (code.length:Int) 0 0])]):=by
 exact Qnn g (Gm.mk ps ba sh fr) ac n hn hg code hc cN F hc2 hk
end Go.Proofs.YtnddggenhefaeaaGreatDoor
end
