/-
  A part of the proof. Text 9 of 9: Leaf156 Leaf157 Leaf158 Leaf159 SpecKn Leaf60 Leaf160 Leaf170 Read FinA FinU FinG FinOwn.
-/
import Derived.Test.YtnddggenhefaeaaDoorP4
import Derived.Test.YtnddggenhefaeaaDoorP5
import Derived.Test.YtnddggenhefaeaaDoorP8
import Derived.Test.YtnddggenhefaeaaDoorP6
import Derived.Deep.Slices
import Derived.ChangeArms
import Derived.WideShapes
import Derived.ChangeOld
import Derived.Test.YtnddggenhefaeaaDoorRows
import Derived.Test.YtnddggenhefaeaaDoorP7
import Derived.Lib.LaidTab
import Derived.Test.YtnddggenhefaeaaDoorCards
import Derived.Test.YtnddggenhefaeaaDoorTie
import Derived.WalkKit
import Derived.ProofKit
import Derived.OpenShut
import Derived.JoinedCond
import Derived.Carry
import Derived.Deep.DeepHandedRow
set_option linter.unusedSimpArgs false
set_option linter.unusedVariables false
open Go.Value renaming string→jF,nilFunc→kA,slice→jg,int→jf,bool→jU
open Go.IntKind renaming i64→ja,u8→jz
open List renaming length→jW,length_map→jK,length_range→kv,getD_eq_getElem?_getD→jb,mem_of_getElem?→jq,mem_cons→ku,not_mem_nil→kg,range→jB,getElem?_eq_getElem→jc,length_append→jl,getElem?_append_left→jp,getElem?_append_right→jy,getElem?_drop→j4,getElem?_map→jk,getElem?_range→ke,getElem?_eq_none→jX
open Int renaming le_refl→jA
open And renaming intro→jn
open Nat renaming lt_or_ge→kO,zero_le→kb,le_refl→jm,lt_of_lt_of_le→jP,le_trans→kj
open Inhabited renaming default→ub
set_option maxHeartbeats 4000000
set_option maxRecDepth 100000
noncomputable section
namespace Go.Proofs.YtnddggenhefaeaaDoor
open Go Go.Tx
abbrev zp (y0:Int) (y1:Grf) (y2:Bool):List En:=[se 4 (C.i .i64 y0),se 5 (C.p 10 0),se 16 (C.i .i64 y0),se 15 (C.i .i64 (↑y1.nodes.length:Int)),se 14 (C.h 1),se 3 (C.h 7),se 2 (C.b y2),zb7]
abbrev zu (y0:Grf) (y1 y2 y3 y4:Int):Reg:=Reg.box 73 [C.v (jF y0.name),C.i .i64 y0.locals,C.i .i64 y0.slots,C.h 1,C.h 2,C.i .i64 y1,C.h 3,C.i .i64 y2,C.i .i64 y3,C.h 8,C.h 5,C.h 12,C.i .i64 ((y0.nodes.getD y4.toNat ub).origin+(1:Int))]
abbrev zA (y0:Nat) (y1:Int → Option Int):Reg:=Reg.mp (MT.mk Tryd.prog 71 3 3 [CK.i ja] false [CK.i ja] false) y0 (fun (a:Int)=>(y1 a).isSome) (fun (a:Int)=>(y1 a).getD (0:Int)) none
def C39 (g:Grf) (ps:List Plc) (ba sh ac:Int) (fe:List Int) (ue:Int) (uj:Bool) (ug:List Ins) (ul:List Int) (uq:Nat) (ui:Int→Option Int):St:=St.mk 129 (zp ue g uj) [zu g ac sh ba ue,rowOf 13 (·.tc) g.nodes,rowOf 2 (·.tc) ps,IntRow fe,Reg.dead,zA uq ui,Reg.dead,za,Ins.ownR (fenC fe g.nodes ue.toNat ug),Reg.dead,zd g ue,Reg.dead,IntOwn (ul++[(ug.length:Int)])] []
abbrev zaK (y0:Nat) (y1:Int → Option Int) (y2:Grf) (y3:Int) (y4:List Int) (y5:List Ins):Reg:=Reg.mp (MT.mk Tryd.prog 71 3 3 [CK.i ja] false [CK.i ja] false) (y0+4) (fun (a:Int)=>(innS y1 (y2.nodes.getD y3.toNat ub) ((fenC y4 y2.nodes y3.toNat y5).length:Int) a).isSome) (fun (a:Int)=>(innS y1 (y2.nodes.getD y3.toNat ub) ((fenC y4 y2.nodes y3.toNat y5).length:Int) a).getD (0:Int)) none
def C39c (g:Grf) (ps:List Plc) (ba sh ac:Int) (fe:List Int) (ue:Int) (uj:Bool) (ug:List Ins) (ul:List Int) (uq:Nat) (ui:Int→Option Int):St:=St.mk 129 (zp ue g uj) [zu g ac sh ba ue,rowOf 13 (·.tc) g.nodes,rowOf 2 (·.tc) ps,IntRow fe,Reg.dead,zaK uq ui g ue fe ug,Reg.dead,za,Ins.ownR (stepC ps ba sh fe g.nodes ue.toNat ug),Reg.dead,zd g ue,Reg.dead,IntOwn (ul++[(ug.length:Int)])] []
def C39b (g:Grf) (ps:List Plc) (ba sh ac:Int) (fe:List Int) (ue:Int) (uj:Bool) (ug:List Ins) (ul:List Int) (uq:Nat) (ui:Int→Option Int):St:=St.mk 129 (zp ue g uj) [zu g ac sh ba ue,rowOf 13 (·.tc) g.nodes,rowOf 2 (·.tc) ps,IntRow fe,Reg.dead,zaK uq ui g ue fe ug,Reg.dead,za,Ins.ownR (nodC ps ba sh fe g.nodes ue.toNat ug),Reg.dead,zd g ue,Reg.dead,IntOwn (ul++[(ug.length:Int)])] []
def wd (g:Grf) (ps:List Plc) (ba:Int) (sh:Int) (ac:Int) (fe:List Int) (F0:Int→Option Int):Lp (Int×Bool×List Ins×List Int×Int×Nat×(Int→Option (Int))):=⟨fun x=>{ N:=129,fr:=[se 16 (C.i .i64 x.1),se 15 (C.i .i64 (↑g.nodes.length:Int)),se 14 (C.h 1),se 3 (C.h 7),se 2 (C.b x.2.1),zb7],rg:=[Reg.box 73 [C.v (jF g.name),C.i .i64 g.locals,C.i .i64 g.slots,C.h 1,C.h 2,C.i .i64 ac,C.h 3,C.i .i64 sh,C.i .i64 ba,C.h 8,C.h 5,C.h 9,C.i .i64 x.2.2.2.2.1],rowOf 13 (·.tc) g.nodes,rowOf 2 (·.tc) ps,IntRow fe,Reg.dead,Reg.mp (MT.mk Tryd.prog 71 3 3 [CK.i ja] false [CK.i ja] false) (x.2.2.2.2.2.1) (fun a=>(x.2.2.2.2.2.2 a).isSome) (fun a=>(x.2.2.2.2.2.2 a).getD ((0:Int))) none,Reg.dead,za]++[Ins.ownR x.2.2.1]++[IntOwn x.2.2.2.1],wr:=[] },fun x=>AlJ ps ba sh fe g.nodes x.1 x.2.2.1 x.2.2.2.1 x.2.2.2.2.2.1 x.2.2.2.2.2.2,fun x=>((g.nodes.length:Int)-x.1).toNat⟩
def vx (g:Grf) (ps:List Plc) (ba:Int) (sh:Int) (ac:Int) (fe:List Int) (uj:Bool) (ug:List Ins) (ul:List Int) (uA:Int) (uq:Nat) (ui:Int→Option Int):Lp (Int×List Ins×List Int×Int×Nat×(Int→Option (Int))):=⟨fun x=>{ N:=129,fr:=[se 85 (C.i .i64 x.1),se 84 (C.i .i64 (↑ug.length:Int)),se 2 (C.b uj),zb7],rg:=[Reg.box 73 [C.v (jF g.name),C.i .i64 g.locals,C.i .i64 g.slots,C.h 1,C.h 2,C.i .i64 ac,C.h 3,C.i .i64 sh,C.i .i64 ba,C.h 10,C.h 5,C.h 11,C.i .i64 x.2.2.2.1],rowOf 13 (·.tc) g.nodes,rowOf 2 (·.tc) ps,IntRow fe,Reg.dead,Reg.mp (MT.mk Tryd.prog 71 3 3 [CK.i ja] false [CK.i ja] false) (x.2.2.2.2.1) (fun a=>(x.2.2.2.2.2 a).isSome) (fun a=>(x.2.2.2.2.2 a).getD ((0:Int))) none,Reg.dead,za,Reg.dead,Reg.dead]++[Ins.ownR x.2.1]++[IntOwn x.2.2.1],wr:=[] },fun x=>0≤x.1∧x.1≤(ug.length:Int)∧x.2.1=fixN ul ui ug x.1.toNat∧x.2.2.1=ul∧x.2.2.2.2.2=ui,fun x=>((ug.length:Int)-x.1).toNat⟩
abbrev zf:Reg:=Reg.mpv (MT.mk Tryd.prog 77 60 81 [CK.i jz] false [] false) kA 9 (List.map (fun x=>(x.fst,C.ren (at' [0,1,2,3,4,5,6,7,8,9,10,11,12]) x.snd)) [((9:Int),C.fn 34 true [0]),((8:Int),C.fn 33 true [0]),((7:Int),C.fn 32 true [0]),((6:Int),C.fn 31 true [0]),((5:Int),C.fn 30 true [0]),((4:Int),C.fn 29 true [0]),((3:Int),C.fn 28 true [0]),((2:Int),C.fn 27 true [0]),((1:Int),C.fn 26 true [0])])
abbrev zi:Reg:=Reg.mpv (MT.mk Tryd.prog 77 60 81 [CK.i jz] false [] false) kA 9 (List.map (fun x=>(x.fst,C.ren (at' [0,1,2,3,4,5,6,7,13,9,10,11,12]) x.snd)) [((9:Int),C.fn 34 true [0]),((8:Int),C.fn 33 true [0]),((7:Int),C.fn 32 true [0]),((6:Int),C.fn 31 true [0]),((5:Int),C.fn 30 true [0]),((4:Int),C.fn 29 true [0]),((3:Int),C.fn 28 true [0]),((2:Int),C.fn 27 true [0]),((1:Int),C.fn 26 true [0])])
abbrev zaa (y0:Nat) (y1:Int → Option Int):List Prop:=[MpEq (MT.mk Tryd.prog 71 3 3 [CK.i ja] false [CK.i ja] false) y0 (fun (a:Int)=>(y1 a).isSome) (fun (a:Int)=>(y1 a).getD (0:Int)) none (MT.mk Tryd.prog 71 3 3 [CK.i ja] false [CK.i ja] false) y0 (fun (a:Int)=>(y1 a).isSome) (fun (a:Int)=>(y1 a).getD (0:Int)) none,Reg.mpv (MT.mk Tryd.prog 77 60 81 [CK.i jz] false [] false) kA 9 (List.map (fun x=>(x.fst,C.ren (at' [0,1,2,3,4,5,6,7,8,9,10]) x.snd)) [((9:Int),C.fn 34 true [0]),((8:Int),C.fn 33 true [0]),((7:Int),C.fn 32 true [0]),((6:Int),C.fn 31 true [0]),((5:Int),C.fn 30 true [0]),((4:Int),C.fn 29 true [0]),((3:Int),C.fn 28 true [0]),((2:Int),C.fn 27 true [0]),((1:Int),C.fn 26 true [0])])=za]
abbrev zam:Reg:=Reg.mpv (MT.mk Tryd.prog 77 60 81 [CK.i jz] false [] false) kA 9 (List.map (fun x=>(x.fst,C.ren (at' [0,1,2,3,4,5,6,7,14,9,10,11,12]) x.snd)) [((9:Int),C.fn 34 true [0]),((8:Int),C.fn 33 true [0]),((7:Int),C.fn 32 true [0]),((6:Int),C.fn 31 true [0]),((5:Int),C.fn 30 true [0]),((4:Int),C.fn 29 true [0]),((3:Int),C.fn 28 true [0]),((2:Int),C.fn 27 true [0]),((1:Int),C.fn 26 true [0])])
abbrev zan:Reg:=Reg.mpv (MT.mk Tryd.prog 77 60 81 [CK.i jz] false [] false) kA 9 (List.map (fun x=>(x.fst,C.ren (at' [0,1,2,3,4,5,6,7,8,9,10,11]) x.snd)) [((9:Int),C.fn 34 true [0]),((8:Int),C.fn 33 true [0]),((7:Int),C.fn 32 true [0]),((6:Int),C.fn 31 true [0]),((5:Int),C.fn 30 true [0]),((4:Int),C.fn 29 true [0]),((3:Int),C.fn 28 true [0]),((2:Int),C.fn 27 true [0]),((1:Int),C.fn 26 true [0])])
abbrev zaZ (y0:List Int) (y1:List Ins):Reg:=IntOwn (y0++[(↑y1.length:Int)])
abbrev zbb (y0:Grf) (y1 y2 y3 y4:Int):Reg:=Reg.box 73 [C.v (jF y0.name),C.i .i64 y0.locals,C.i .i64 y0.slots,C.h 1,C.h 2,C.i .i64 y1,C.h 3,C.i .i64 y2,C.i .i64 y3,C.h 8,C.h 5,C.h 9,C.i .i64 ((y0.nodes.getD y4.toNat ub).origin+(1:Int))]
abbrev zby (y0:Grf) (y1 y2 y3 y4:Int):Reg:=Reg.box 73 [C.v (jF y0.name),C.i .i64 y0.locals,C.i .i64 y0.slots,C.h 1,C.h 2,C.i .i64 y1,C.h 3,C.i .i64 y2,C.i .i64 y3,C.h 8,C.h 5,C.h 9,C.i .i64 y4]
theorem Qq3 (g:Grf) (ps:List Plc) (ba sh ac:Int) (fe:List Int) (F0:Int→Option Int) (hF0:∀ a,F0 a=none) (hN:1≤g.nodes.length∧g.nodes.length≤4096) (hk:zV g) (hnd:∀ i:Nat,i<g.nodes.length→∀ fr:Int,NdQ (Gm.mk ps ba sh fr) (g.nodes.getD i ub)) (hgm:∀ fr:Int,GmQ (Gm.mk ps ba sh fr)) (hor:∀ i:Nat,i<g.nodes.length→0≤(g.nodes.getD i ub).origin∧(g.nodes.getD i ub).origin≤4096) (hfl:fe.length≤8388608) (hto:ToA ps ba sh fe g.nodes):Ctr Tryd.prog 13 [Reg.box 73 [C.v (jF g.name),C.i .i64 g.locals,C.i .i64 g.slots,C.h 1,C.h 2,C.i .i64 ac,C.h 3,C.i .i64 sh,C.i .i64 ba,C.v (jg none 0 0),C.h 5,C.v (jg none 0 0),C.i .i64 0],zav g,Plc.rowR ps,IntRow fe,.dead,Reg.mp MTi 0 (fun a=>(F0 a).isSome) (fun a=>(F0 a).getD (0:Int)) none,.dead] [.c (.p 0 0)]
 (DetE (fun y:Bool×List Ins×List Int×Nat×(Int→Option Int)×Int=>y.1=okA ps ba sh fe g.nodes∧(y.1=true→y.2.1=finA ps ba sh fe g.nodes∧y.2.2.1=starA ps ba sh fe g.nodes g.nodes.length)) (fun y=>.c (.b y.1)) (fun y=>[Reg.box 73 [C.v (jF g.name),C.i .i64 g.locals,C.i .i64 g.slots,C.h 1,C.h 2,C.i .i64 ac,C.h 3,C.i .i64 sh,C.i .i64 ba,C.h 7,C.h 5,C.h 8,C.i .i64 y.2.2.2.2.2],.dead,.dead,.dead,.dead,Reg.mp MTi y.2.2.2.1 (fun a=>(y.2.2.2.2.1 a).isSome) (fun a=>(y.2.2.2.2.1 a).getD (0:Int)) none,.dead,Ins.ownR y.2.1,IntOwn y.2.2.1])):=by
 refine Ctr.intro [] Tryd.func13 K K ?_
 refine Q2 Q2u (Qhe g ba sh 0 ac) [0,1,2,3,1000004,5,1000006] ?_
 refine tz [9,2,0] ?_
 refine Q9 (wd g ps ba sh ac fe F0) (((0:Int),false,[],[],(0:Int),0,F0)) (AlJ.start hF0) ?_ [0,1,2,3,4,5,6,7,1000008,1000009] [13,14,15,16] [MpEq (MT.mk Tryd.prog 71 3 3 [CK.i ja] false [CK.i ja] false) 0 (fun (a:Int)=>(F0 a).isSome) (fun (a:Int)=>(F0 a).getD (0:Int)) none (MT.mk Tryd.prog 71 3 3 [CK.i ja] false [CK.i ja] false) 0 (fun (a:Int)=>(F0 a).isSome) (fun (a:Int)=>(F0 a).getD (0:Int)) none,Reg.mpv (MT.mk Tryd.prog 77 60 81 [CK.i jz] false [] false) kA 9 (List.map (fun x=>(x.fst,C.ren (at' [0,1,2,3,4,5,6,7,1000008,1000009]) x.snd)) [((9:Int),C.fn 34 true [0]),((8:Int),C.fn 33 true [0]),((7:Int),C.fn 32 true [0]),((6:Int),C.fn 31 true [0]),((5:Int),C.fn 30 true [0]),((4:Int),C.fn 29 true [0]),((3:Int),C.fn 28 true [0]),((2:Int),C.fn 27 true [0]),((1:Int),C.fn 26 true [0])])=za,(0:Nat)=0,(0:Nat)=0] W0
 rintro ⟨ue,uj,ug,ul,uA,uq,ui⟩ hJ1
 dsimp only [wd] at hJ1
 refine tz [16,15,14,3,2,0] ?_
 refine Q0 (decide (ue<(↑g.nodes.length:Int))) (fun h2=>?_) (fun h2=>?_)
 ·refine RunF.cut (fun _:Unit=>St.mk 129 (zp ue g uj) [zby g ac sh ba uA,rowOf 13 (·.tc) g.nodes,rowOf 2 (·.tc) ps,IntRow fe,Reg.dead,zA uq ui,Reg.dead,za,ownOf 44 9 (·.tc) ug,IntOwn ul,zd g ue] []) (fun _=>True) ?_ ?_
  ·exact tTo (fun x=>St.mk 129 (zp ue g uj) [zby g ac sh ba uA,rowOf 13 (·.tc) g.nodes,rowOf 2 (·.tc) ps,IntRow fe,Reg.dead,zA uq ui,Reg.dead,za,ownOf 44 9 (·.tc) ug,IntOwn ul,zd g ue] []) (fun x=>True) () trivial [] [13,14] (zaa uq ui) W0 (vc:=(zat ue g)) (hv:=W3)
  ·rintro ⟨⟩ _
   refine RunF.cut (fun _:Unit=>St.mk 129 (zp ue g uj) [zbb g ac sh ba ue,rowOf 13 (·.tc) g.nodes,rowOf 2 (·.tc) ps,IntRow fe,Reg.dead,zA uq ui,Reg.dead,za,ownOf 44 9 (·.tc) ug,IntOwn ul,zd g ue] []) (fun _=>True) ?_ ?_
   ·exact tTo (fun x=>St.mk 129 (zp ue g uj) [zbb g ac sh ba ue,rowOf 13 (·.tc) g.nodes,rowOf 2 (·.tc) ps,IntRow fe,Reg.dead,zA uq ui,Reg.dead,za,ownOf 44 9 (·.tc) ug,IntOwn ul,zd g ue] []) (fun x=>True) () trivial [] [13,14] (zaa uq ui) W0 (vc:=[Fits ja ((g.nodes.getD ue.toNat ub).origin+(1:Int))]) (hv:=W3)
   ·rintro ⟨⟩ _
    refine RunF.cutm 3 (fun _:Unit=>C39 g ps ba sh ac fe ue uj ug ul uq ui) (fun _=>True) ?_ ?_
    ·refine tz [4,5,16,15,14,3,2,0] ?_
     refine Q2 Q1e (Qez fe ue W1) [3] ?_ (vc:=[ul.length+1≤maxLen,(ul.length+1) * 8≤140737488355328]) (hv:=W3)
     refine tz [46,4,5,16,15,14,3,2,0] ?_
     refine Q0 (hasF fe ue) (fun h3=>?_) (fun h3=>?_)
     ·refine tz [4,5,16,15,14,3,2,0] ?_
      refine Q2 Qf (Qhd g ps ba sh ((g.nodes.getD ue.toNat ub).origin+(1:Int)) ac [Ins.mk (6:Int) (0:Int) (0:Int) (0:Int) (0:Int) (0:Int) (0:Int) (0:Int) (0:Int)] ug W1 W1) [0,1,2,3,8,5,12,13] ?_ [11,12,13,14,15,16,17,18,19,20,21] [[Ins.mk (6:Int) (0:Int) (0:Int) (0:Int) (0:Int) (0:Int) (0:Int) (0:Int) (0:Int)].length=1,∀ (i:Nat),i < [Ins.mk (6:Int) (0:Int) (0:Int) (0:Int) (0:Int) (0:Int) (0:Int) (0:Int) (0:Int)].length→i≠0→([Ins.mk (6:Int) (0:Int) (0:Int) (0:Int) (0:Int) (0:Int) (0:Int) (0:Int) (0:Int)].getD i ub).tc=fun x=>TC.any,(Ins.mk (6:Int) (0:Int) (0:Int) (0:Int) (0:Int) (0:Int) (0:Int) (0:Int) (0:Int)).tc 0=TC.val (jf jz (6:Int)),(Ins.mk (6:Int) (0:Int) (0:Int) (0:Int) (0:Int) (0:Int) (0:Int) (0:Int) (0:Int)).tc 1=TC.val (jf jz (0:Int)),(Ins.mk (6:Int) (0:Int) (0:Int) (0:Int) (0:Int) (0:Int) (0:Int) (0:Int) (0:Int)).tc 2=TC.val (jf ja (0:Int)),(Ins.mk (6:Int) (0:Int) (0:Int) (0:Int) (0:Int) (0:Int) (0:Int) (0:Int) (0:Int)).tc 3=TC.val (jf ja (0:Int)),(Ins.mk (6:Int) (0:Int) (0:Int) (0:Int) (0:Int) (0:Int) (0:Int) (0:Int) (0:Int)).tc 4=TC.val (jf ja (0:Int)),(Ins.mk (6:Int) (0:Int) (0:Int) (0:Int) (0:Int) (0:Int) (0:Int) (0:Int) (0:Int)).tc 5=TC.val (jf ja (0:Int)),(Ins.mk (6:Int) (0:Int) (0:Int) (0:Int) (0:Int) (0:Int) (0:Int) (0:Int) (0:Int)).tc 6=TC.val (jf ja (0:Int)),(Ins.mk (6:Int) (0:Int) (0:Int) (0:Int) (0:Int) (0:Int) (0:Int) (0:Int) (0:Int)).tc 7=TC.val (jf ja (0:Int)),(Ins.mk (6:Int) (0:Int) (0:Int) (0:Int) (0:Int) (0:Int) (0:Int) (0:Int) (0:Int)).tc 8=TC.val (jf ja (0:Int))] W0
      exact tTo (fun xUnit=>C39 g ps ba sh ac fe ue uj ug ul uq ui) (fun xUnit=>True) () trivial [0,1,2,3,4,5,6,7,14,9,10,11,12] [13,14,15,16,30,31,32] [MpEq (MT.mk Tryd.prog 71 3 3 [CK.i ja] false [CK.i ja] false) uq (fun (a:Int)=>(ui a).isSome) (fun (a:Int)=>(ui a).getD (0:Int)) none (MT.mk Tryd.prog 71 3 3 [CK.i ja] false [CK.i ja] false) uq (fun (a:Int)=>(ui a).isSome) (fun (a:Int)=>(ui a).getD (0:Int)) none,zam=za,(fenC fe g.nodes ue.toNat ug).length=(ug++putL ((g.nodes.getD ue.toNat ub).origin+(1:Int)) [Ins.mk (6:Int) (0:Int) (0:Int) (0:Int) (0:Int) (0:Int) (0:Int) (0:Int) (0:Int)]).length,∀ (i:Nat),i<(fenC fe g.nodes ue.toNat ug).length→((fenC fe g.nodes ue.toNat ug).getD i ub).tc=((ug++putL ((g.nodes.getD ue.toNat ub).origin+(1:Int)) [Ins.mk (6:Int) (0:Int) (0:Int) (0:Int) (0:Int) (0:Int) (0:Int) (0:Int) (0:Int)]).getD i ub).tc,(ul++[(↑ug.length:Int)]).length=ul.length+1,∀ (i:Nat),i<(ul++[(↑ug.length:Int)]).length→i≠ul.length→i64T ((ul++[(↑ug.length:Int)]).getD i 0)=i64T (ul.getD i 0),i64T ((ul++[(↑ug.length:Int)]).getD ul.length 0) 0=TC.val (jf ja (↑ug.length:Int))] W0
     ·exact tTo (fun xUnit=>C39 g ps ba sh ac fe ue uj ug ul uq ui) (fun xUnit=>True) () trivial [] [13,14,15,16,30,31,32] [MpEq (MT.mk Tryd.prog 71 3 3 [CK.i ja] false [CK.i ja] false) uq (fun (a:Int)=>(ui a).isSome) (fun (a:Int)=>(ui a).getD (0:Int)) none (MT.mk Tryd.prog 71 3 3 [CK.i ja] false [CK.i ja] false) uq (fun (a:Int)=>(ui a).isSome) (fun (a:Int)=>(ui a).getD (0:Int)) none,zf=za,(fenC fe g.nodes ue.toNat ug).length=ug.length,∀ (i:Nat),i<(fenC fe g.nodes ue.toNat ug).length→((fenC fe g.nodes ue.toNat ug).getD i ub).tc=(ug.getD i ub).tc,(ul++[(↑ug.length:Int)]).length=ul.length+1,∀ (i:Nat),i<(ul++[(↑ug.length:Int)]).length→i≠ul.length→i64T ((ul++[(↑ug.length:Int)]).getD i 0)=i64T (ul.getD i 0),i64T ((ul++[(↑ug.length:Int)]).getD ul.length 0) 0=TC.val (jf ja (↑ug.length:Int))] W0
    ·rintro ⟨⟩ hCC39
     refine RunF.cutm 1 (fun _:Unit=>C39b g ps ba sh ac fe ue uj ug ul uq ui) (fun _=>True) ?_ ?_
     ·rcases (show (g.nodes.getD ue.toNat ub).kind=(1:Int)∨(g.nodes.getD ue.toNat ub).kind=(2:Int)∨(g.nodes.getD ue.toNat ub).kind=(3:Int)∨(g.nodes.getD ue.toNat ub).kind=(4:Int)∨(g.nodes.getD ue.toNat ub).kind=(5:Int)∨(g.nodes.getD ue.toNat ub).kind=(6:Int)∨(g.nodes.getD ue.toNat ub).kind=(7:Int)∨(g.nodes.getD ue.toNat ub).kind=(8:Int)∨(g.nodes.getD ue.toNat ub).kind=(9:Int) from (by have z:=hk ue.toNat (by have q:=uc h2;have z:=hJ1.x0;have y0:=hJ1.len;have y4:=hJ1.cnt;have y1:=G0 fe g.nodes ue.toNat ug;have y2:=Gx ps ba sh fe g.nodes ue.toNat ug;have y3:=Zg ps ba sh fe g.nodes ue.toNat ug;have y5:=hor ue.toNat (by omega);have y6:=congrArg jW hJ1.star;unfold starA at y6;rw [jK,kv] at y6;omega);omega)) with hs3 | hs3 | hs3 | hs3 | hs3 | hs3 | hs3 | hs3 | hs3
      ·refine tWk (St.mk 129 (zp ue g uj) [zu g ac sh ba ue,rowOf 13 (·.tc) g.nodes,rowOf 2 (·.tc) ps,IntRow fe,Reg.dead,zA uq ui,Reg.dead,za,ownOf 44 9 (·.tc) (fenC fe g.nodes ue.toNat ug),Reg.dead,Reg.box 64 [C.i .u8 1,C.i .u8 (g.nodes.getD ue.toNat ub).op,C.i .i64 (g.nodes.getD ue.toNat ub).slot,C.i .i64 (g.nodes.getD ue.toNat ub).thing,C.b (g.nodes.getD ue.toNat ub).a.slotted,C.i .i64 (g.nodes.getD ue.toNat ub).a.slot,C.i .i64 (g.nodes.getD ue.toNat ub).a.word,C.b (g.nodes.getD ue.toNat ub).b.slotted,C.i .i64 (g.nodes.getD ue.toNat ub).b.slot,C.i .i64 (g.nodes.getD ue.toNat ub).b.word,C.i .i64 (g.nodes.getD ue.toNat ub).next,C.i .i64 (g.nodes.getD ue.toNat ub).els,C.i .i64 (g.nodes.getD ue.toNat ub).origin],Reg.dead,zaZ ul ug] []) ?_ [] [13,14,17] [MpEq (MT.mk Tryd.prog 71 3 3 [CK.i ja] false [CK.i ja] false) uq (fun (a:Int)=>(ui a).isSome) (fun (a:Int)=>(ui a).getD (0:Int)) none (MT.mk Tryd.prog 71 3 3 [CK.i ja] false [CK.i ja] false) uq (fun (a:Int)=>(ui a).isSome) (fun (a:Int)=>(ui a).getD (0:Int)) none,zf=za,(1:Int)=(g.nodes.getD ue.toNat ub).kind] W65
       refine tz [4,5,16,15,14,3,2,0] ?_
       refine Q2 Q55 (Qmn g ps ba sh ((g.nodes.getD ue.toNat ub).origin+(1:Int)) ac (g.nodes.getD ue.toNat ub) W1 W1 (fenC fe g.nodes ue.toNat ug) W1 W1) [0,1,2,3,8,5,12] ?_ [11] [(g.nodes.getD ue.toNat ub).kind=(1:Int)] W0 (vc:=[Fits jz (1:Int),(MT.mk Tryd.prog 77 60 81 [CK.i jz] false [] false).P=Tryd.prog]) (hv:=W3)
       exact tTo (fun xUnit=>C39b g ps ba sh ac fe ue uj ug ul uq ui) (fun xUnit=>True) () trivial [0,1,2,3,4,5,6,7,13,9,10,11,12] [13,14,15,16,17] [MpEq (MT.mk Tryd.prog 71 3 3 [CK.i ja] false [CK.i ja] false) (uq+4) (fun (a:Int)=>(innS ui (g.nodes.getD ue.toNat ub) (↑(fenC fe g.nodes ue.toNat ug).length:Int) a).isSome) (fun (a:Int)=>(innS ui (g.nodes.getD ue.toNat ub) (↑(fenC fe g.nodes ue.toNat ug).length:Int) a).getD (0:Int)) none (MT.mk Tryd.prog 71 3 3 [CK.i ja] false [CK.i ja] false) uq (fun (a:Int)=>(ui a).isSome) (fun (a:Int)=>(ui a).getD (0:Int)) none,zi=za,(nodC ps ba sh fe g.nodes ue.toNat ug).length=(fenC fe g.nodes ue.toNat ug++gSetN (Gm.mk ps ba sh ((g.nodes.getD ue.toNat ub).origin+(1:Int))) (g.nodes.getD ue.toNat ub)).length,∀ (i:Nat),i<(nodC ps ba sh fe g.nodes ue.toNat ug).length→((nodC ps ba sh fe g.nodes ue.toNat ug).getD i ub).tc=((fenC fe g.nodes ue.toNat ug++gSetN (Gm.mk ps ba sh ((g.nodes.getD ue.toNat ub).origin+(1:Int))) (g.nodes.getD ue.toNat ub)).getD i ub).tc,(g.nodes.getD ue.toNat ub).kind=(1:Int)] W0
      ·refine tWk (St.mk 129 (zp ue g uj) [zu g ac sh ba ue,rowOf 13 (·.tc) g.nodes,rowOf 2 (·.tc) ps,IntRow fe,Reg.dead,zA uq ui,Reg.dead,za,ownOf 44 9 (·.tc) (fenC fe g.nodes ue.toNat ug),Reg.dead,Reg.box 64 [C.i .u8 2,C.i .u8 (g.nodes.getD ue.toNat ub).op,C.i .i64 (g.nodes.getD ue.toNat ub).slot,C.i .i64 (g.nodes.getD ue.toNat ub).thing,C.b (g.nodes.getD ue.toNat ub).a.slotted,C.i .i64 (g.nodes.getD ue.toNat ub).a.slot,C.i .i64 (g.nodes.getD ue.toNat ub).a.word,C.b (g.nodes.getD ue.toNat ub).b.slotted,C.i .i64 (g.nodes.getD ue.toNat ub).b.slot,C.i .i64 (g.nodes.getD ue.toNat ub).b.word,C.i .i64 (g.nodes.getD ue.toNat ub).next,C.i .i64 (g.nodes.getD ue.toNat ub).els,C.i .i64 (g.nodes.getD ue.toNat ub).origin],Reg.dead,zaZ ul ug] []) ?_ [] [13,14,17] [MpEq (MT.mk Tryd.prog 71 3 3 [CK.i ja] false [CK.i ja] false) uq (fun (a:Int)=>(ui a).isSome) (fun (a:Int)=>(ui a).getD (0:Int)) none (MT.mk Tryd.prog 71 3 3 [CK.i ja] false [CK.i ja] false) uq (fun (a:Int)=>(ui a).isSome) (fun (a:Int)=>(ui a).getD (0:Int)) none,zf=za,(2:Int)=(g.nodes.getD ue.toNat ub).kind] W65
       refine tz [4,5,16,15,14,3,2,0] ?_
       refine Q2 Q4f (Qjo g ps ba sh ((g.nodes.getD ue.toNat ub).origin+(1:Int)) ac (g.nodes.getD ue.toNat ub) W1 W1 (fenC fe g.nodes ue.toNat ug) W1 W1) [0,1,2,3,8,5,12] ?_ [11] [(g.nodes.getD ue.toNat ub).kind=(2:Int)] W0 (vc:=[Fits jz (2:Int),(MT.mk Tryd.prog 77 60 81 [CK.i jz] false [] false).P=Tryd.prog]) (hv:=W3)
       exact tTo (fun xUnit=>C39b g ps ba sh ac fe ue uj ug ul uq ui) (fun xUnit=>True) () trivial [0,1,2,3,4,5,6,7,13,9,10,11,12] [13,14,15,16,17] [MpEq (MT.mk Tryd.prog 71 3 3 [CK.i ja] false [CK.i ja] false) (uq+4) (fun (a:Int)=>(innS ui (g.nodes.getD ue.toNat ub) (↑(fenC fe g.nodes ue.toNat ug).length:Int) a).isSome) (fun (a:Int)=>(innS ui (g.nodes.getD ue.toNat ub) (↑(fenC fe g.nodes ue.toNat ug).length:Int) a).getD (0:Int)) none (MT.mk Tryd.prog 71 3 3 [CK.i ja] false [CK.i ja] false) uq (fun (a:Int)=>(ui a).isSome) (fun (a:Int)=>(ui a).getD (0:Int)) none,zi=za,(nodC ps ba sh fe g.nodes ue.toNat ug).length=(fenC fe g.nodes ue.toNat ug++(putL ((g.nodes.getD ue.toNat ub).origin+(1:Int)) [Ins.mk (3:Int) (0:Int) (gGoal (Gm.mk ps ba sh ((g.nodes.getD ue.toNat ub).origin+(1:Int))) (g.nodes.getD ue.toNat ub).slot) (0:Int) (0:Int) (g.nodes.getD ue.toNat ub).thing (0:Int) (0:Int) (0:Int)]++gKeep (Gm.mk ps ba sh ((g.nodes.getD ue.toNat ub).origin+(1:Int))) (g.nodes.getD ue.toNat ub).slot)).length,∀ (i:Nat),i<(nodC ps ba sh fe g.nodes ue.toNat ug).length→((nodC ps ba sh fe g.nodes ue.toNat ug).getD i ub).tc=((fenC fe g.nodes ue.toNat ug++(putL ((g.nodes.getD ue.toNat ub).origin+(1:Int)) [Ins.mk (3:Int) (0:Int) (gGoal (Gm.mk ps ba sh ((g.nodes.getD ue.toNat ub).origin+(1:Int))) (g.nodes.getD ue.toNat ub).slot) (0:Int) (0:Int) (g.nodes.getD ue.toNat ub).thing (0:Int) (0:Int) (0:Int)]++gKeep (Gm.mk ps ba sh ((g.nodes.getD ue.toNat ub).origin+(1:Int))) (g.nodes.getD ue.toNat ub).slot)).getD i ub).tc,(g.nodes.getD ue.toNat ub).kind=(2:Int)] W0
      ·refine tWk (St.mk 129 (zp ue g uj) [zu g ac sh ba ue,rowOf 13 (·.tc) g.nodes,rowOf 2 (·.tc) ps,IntRow fe,Reg.dead,zA uq ui,Reg.dead,za,ownOf 44 9 (·.tc) (fenC fe g.nodes ue.toNat ug),Reg.dead,Reg.box 64 [C.i .u8 3,C.i .u8 (g.nodes.getD ue.toNat ub).op,C.i .i64 (g.nodes.getD ue.toNat ub).slot,C.i .i64 (g.nodes.getD ue.toNat ub).thing,C.b (g.nodes.getD ue.toNat ub).a.slotted,C.i .i64 (g.nodes.getD ue.toNat ub).a.slot,C.i .i64 (g.nodes.getD ue.toNat ub).a.word,C.b (g.nodes.getD ue.toNat ub).b.slotted,C.i .i64 (g.nodes.getD ue.toNat ub).b.slot,C.i .i64 (g.nodes.getD ue.toNat ub).b.word,C.i .i64 (g.nodes.getD ue.toNat ub).next,C.i .i64 (g.nodes.getD ue.toNat ub).els,C.i .i64 (g.nodes.getD ue.toNat ub).origin],Reg.dead,zaZ ul ug] []) ?_ [] [13,14,17] [MpEq (MT.mk Tryd.prog 71 3 3 [CK.i ja] false [CK.i ja] false) uq (fun (a:Int)=>(ui a).isSome) (fun (a:Int)=>(ui a).getD (0:Int)) none (MT.mk Tryd.prog 71 3 3 [CK.i ja] false [CK.i ja] false) uq (fun (a:Int)=>(ui a).isSome) (fun (a:Int)=>(ui a).getD (0:Int)) none,zf=za,(3:Int)=(g.nodes.getD ue.toNat ub).kind] W65
       refine tz [4,5,16,15,14,3,2,0] ?_
       refine Q2 Q3m (Qhf g ps ba sh ((g.nodes.getD ue.toNat ub).origin+(1:Int)) ac (g.nodes.getD ue.toNat ub) W1 W1 (fenC fe g.nodes ue.toNat ug) W1 W1) [0,1,2,3,8,5,12] ?_ [11] [(g.nodes.getD ue.toNat ub).kind=(3:Int)] W0 (vc:=[Fits jz (3:Int),(MT.mk Tryd.prog 77 60 81 [CK.i jz] false [] false).P=Tryd.prog]) (hv:=W3)
       exact tTo (fun xUnit=>C39b g ps ba sh ac fe ue uj ug ul uq ui) (fun xUnit=>True) () trivial [0,1,2,3,4,5,6,7,13,9,10,11,12] [13,14,15,16,17] [MpEq (MT.mk Tryd.prog 71 3 3 [CK.i ja] false [CK.i ja] false) (uq+4) (fun (a:Int)=>(innS ui (g.nodes.getD ue.toNat ub) (↑(fenC fe g.nodes ue.toNat ug).length:Int) a).isSome) (fun (a:Int)=>(innS ui (g.nodes.getD ue.toNat ub) (↑(fenC fe g.nodes ue.toNat ug).length:Int) a).getD (0:Int)) none (MT.mk Tryd.prog 71 3 3 [CK.i ja] false [CK.i ja] false) uq (fun (a:Int)=>(ui a).isSome) (fun (a:Int)=>(ui a).getD (0:Int)) none,zi=za,(nodC ps ba sh fe g.nodes ue.toNat ug).length=(fenC fe g.nodes ue.toNat ug++(gFetch (Gm.mk ps ba sh ((g.nodes.getD ue.toNat ub).origin+(1:Int))) (g.nodes.getD ue.toNat ub).a (13:Int)++putL ((g.nodes.getD ue.toNat ub).origin+(1:Int)) [Ins.mk (4:Int) (0:Int) (0:Int) (gReg (Gm.mk ps ba sh ((g.nodes.getD ue.toNat ub).origin+(1:Int))) (g.nodes.getD ue.toNat ub).a (13:Int)) (0:Int) (g.nodes.getD ue.toNat ub).thing (0:Int) (0:Int) (0:Int)])).length,∀ (i:Nat),i<(nodC ps ba sh fe g.nodes ue.toNat ug).length→((nodC ps ba sh fe g.nodes ue.toNat ug).getD i ub).tc=((fenC fe g.nodes ue.toNat ug++(gFetch (Gm.mk ps ba sh ((g.nodes.getD ue.toNat ub).origin+(1:Int))) (g.nodes.getD ue.toNat ub).a (13:Int)++putL ((g.nodes.getD ue.toNat ub).origin+(1:Int)) [Ins.mk (4:Int) (0:Int) (0:Int) (gReg (Gm.mk ps ba sh ((g.nodes.getD ue.toNat ub).origin+(1:Int))) (g.nodes.getD ue.toNat ub).a (13:Int)) (0:Int) (g.nodes.getD ue.toNat ub).thing (0:Int) (0:Int) (0:Int)])).getD i ub).tc,(g.nodes.getD ue.toNat ub).kind=(3:Int)] W0
      ·refine tWk (St.mk 129 (zp ue g uj) [zu g ac sh ba ue,rowOf 13 (·.tc) g.nodes,rowOf 2 (·.tc) ps,IntRow fe,Reg.dead,zA uq ui,Reg.dead,za,ownOf 44 9 (·.tc) (fenC fe g.nodes ue.toNat ug),Reg.dead,Reg.box 64 [C.i .u8 4,C.i .u8 (g.nodes.getD ue.toNat ub).op,C.i .i64 (g.nodes.getD ue.toNat ub).slot,C.i .i64 (g.nodes.getD ue.toNat ub).thing,C.b (g.nodes.getD ue.toNat ub).a.slotted,C.i .i64 (g.nodes.getD ue.toNat ub).a.slot,C.i .i64 (g.nodes.getD ue.toNat ub).a.word,C.b (g.nodes.getD ue.toNat ub).b.slotted,C.i .i64 (g.nodes.getD ue.toNat ub).b.slot,C.i .i64 (g.nodes.getD ue.toNat ub).b.word,C.i .i64 (g.nodes.getD ue.toNat ub).next,C.i .i64 (g.nodes.getD ue.toNat ub).els,C.i .i64 (g.nodes.getD ue.toNat ub).origin],Reg.dead,zaZ ul ug] []) ?_ [] [13,14,17] [MpEq (MT.mk Tryd.prog 71 3 3 [CK.i ja] false [CK.i ja] false) uq (fun (a:Int)=>(ui a).isSome) (fun (a:Int)=>(ui a).getD (0:Int)) none (MT.mk Tryd.prog 71 3 3 [CK.i ja] false [CK.i ja] false) uq (fun (a:Int)=>(ui a).isSome) (fun (a:Int)=>(ui a).getD (0:Int)) none,zf=za,(4:Int)=(g.nodes.getD ue.toNat ub).kind] W65
       refine tz [4,5,16,15,14,3,2,0] ?_
       refine Q2 Q4g (Qjp g ps ba sh ((g.nodes.getD ue.toNat ub).origin+(1:Int)) ac (g.nodes.getD ue.toNat ub) W1 W1 (fenC fe g.nodes ue.toNat ug) W1 W1) [0,1,2,3,8,5,12] ?_ [11] [(g.nodes.getD ue.toNat ub).kind=(4:Int)] W0 (vc:=[Fits jz (4:Int),(MT.mk Tryd.prog 77 60 81 [CK.i jz] false [] false).P=Tryd.prog]) (hv:=W3)
       exact tTo (fun xUnit=>C39b g ps ba sh ac fe ue uj ug ul uq ui) (fun xUnit=>True) () trivial [0,1,2,3,4,5,6,7,13,9,10,11,12] [13,14,15,16,17] [MpEq (MT.mk Tryd.prog 71 3 3 [CK.i ja] false [CK.i ja] false) (uq+4) (fun (a:Int)=>(innS ui (g.nodes.getD ue.toNat ub) (↑(fenC fe g.nodes ue.toNat ug).length:Int) a).isSome) (fun (a:Int)=>(innS ui (g.nodes.getD ue.toNat ub) (↑(fenC fe g.nodes ue.toNat ug).length:Int) a).getD (0:Int)) none (MT.mk Tryd.prog 71 3 3 [CK.i ja] false [CK.i ja] false) uq (fun (a:Int)=>(ui a).isSome) (fun (a:Int)=>(ui a).getD (0:Int)) none,zi=za,(nodC ps ba sh fe g.nodes ue.toNat ug).length=(fenC fe g.nodes ue.toNat ug++gSwapN (Gm.mk ps ba sh ((g.nodes.getD ue.toNat ub).origin+(1:Int))) (g.nodes.getD ue.toNat ub)).length,∀ (i:Nat),i<(nodC ps ba sh fe g.nodes ue.toNat ug).length→((nodC ps ba sh fe g.nodes ue.toNat ug).getD i ub).tc=((fenC fe g.nodes ue.toNat ug++gSwapN (Gm.mk ps ba sh ((g.nodes.getD ue.toNat ub).origin+(1:Int))) (g.nodes.getD ue.toNat ub)).getD i ub).tc,(g.nodes.getD ue.toNat ub).kind=(4:Int)] W0
      ·refine tWk (St.mk 129 (zp ue g uj) [zu g ac sh ba ue,rowOf 13 (·.tc) g.nodes,rowOf 2 (·.tc) ps,IntRow fe,Reg.dead,zA uq ui,Reg.dead,za,ownOf 44 9 (·.tc) (fenC fe g.nodes ue.toNat ug),Reg.dead,Reg.box 64 [C.i .u8 5,C.i .u8 (g.nodes.getD ue.toNat ub).op,C.i .i64 (g.nodes.getD ue.toNat ub).slot,C.i .i64 (g.nodes.getD ue.toNat ub).thing,C.b (g.nodes.getD ue.toNat ub).a.slotted,C.i .i64 (g.nodes.getD ue.toNat ub).a.slot,C.i .i64 (g.nodes.getD ue.toNat ub).a.word,C.b (g.nodes.getD ue.toNat ub).b.slotted,C.i .i64 (g.nodes.getD ue.toNat ub).b.slot,C.i .i64 (g.nodes.getD ue.toNat ub).b.word,C.i .i64 (g.nodes.getD ue.toNat ub).next,C.i .i64 (g.nodes.getD ue.toNat ub).els,C.i .i64 (g.nodes.getD ue.toNat ub).origin],Reg.dead,zaZ ul ug] []) ?_ [] [13,14,17] [MpEq (MT.mk Tryd.prog 71 3 3 [CK.i ja] false [CK.i ja] false) uq (fun (a:Int)=>(ui a).isSome) (fun (a:Int)=>(ui a).getD (0:Int)) none (MT.mk Tryd.prog 71 3 3 [CK.i ja] false [CK.i ja] false) uq (fun (a:Int)=>(ui a).isSome) (fun (a:Int)=>(ui a).getD (0:Int)) none,zf=za,(5:Int)=(g.nodes.getD ue.toNat ub).kind] W65
       refine tz [4,5,16,15,14,3,2,0] ?_
       refine Q2 Q4h (Qjq g ps ba sh ((g.nodes.getD ue.toNat ub).origin+(1:Int)) ac (g.nodes.getD ue.toNat ub) W1 W1 (fenC fe g.nodes ue.toNat ug) W1 uq ui W1 W1) [0,1,2,3,8,5,12] ?_ [11,12] [MpEq MTi uq (fun (a:Int)=>(ui a).isSome) (fun (a:Int)=>(ui a).getD (0:Int)) none (MT.mk Tryd.prog 71 3 3 [CK.i ja] false [CK.i ja] false) uq (fun (a:Int)=>(ui a).isSome) (fun (a:Int)=>(ui a).getD (0:Int)) none,(g.nodes.getD ue.toNat ub).kind=(5:Int)] W0 (vc:=[Fits jz (5:Int),(MT.mk Tryd.prog 77 60 81 [CK.i jz] false [] false).P=Tryd.prog]) (hv:=W3)
       exact tTo (fun xUnit=>C39b g ps ba sh ac fe ue uj ug ul uq ui) (fun xUnit=>True) () trivial [0,1,2,3,4,5,6,7,13,9,10,11,12] [13,14,15,16,17] [MpEq (MT.mk Tryd.prog 71 3 3 [CK.i ja] false [CK.i ja] false) (uq+4) (fun (a:Int)=>(innS ui (g.nodes.getD ue.toNat ub) (↑(fenC fe g.nodes ue.toNat ug).length:Int) a).isSome) (fun (a:Int)=>(innS ui (g.nodes.getD ue.toNat ub) (↑(fenC fe g.nodes ue.toNat ug).length:Int) a).getD (0:Int)) none (MT.mk Tryd.prog 71 3 3 [CK.i ja] false [CK.i ja] false) (uq+4) (fun (a:Int)=>(innF ui (↑(fenC fe g.nodes ue.toNat ug).length:Int) a).isSome) (fun (a:Int)=>(innF ui (↑(fenC fe g.nodes ue.toNat ug).length:Int) a).getD (0:Int)) none,zi=za,(nodC ps ba sh fe g.nodes ue.toNat ug).length=(fenC fe g.nodes ue.toNat ug++putL ((g.nodes.getD ue.toNat ub).origin+(1:Int)) [Ins.mk (1:Int) (0:Int) (15:Int) (0:Int) (0:Int) (0:Int) (0:Int) (1:Int) (0:Int),Ins.mk (5:Int) (0:Int) (15:Int) (0:Int) (0:Int) (sh+(g.nodes.getD ue.toNat ub).thing) (0:Int) (0:Int) (0:Int),Ins.mk (9:Int) (0:Int) (0:Int) (15:Int) (0:Int) (0:Int) ((↑(fenC fe g.nodes ue.toNat ug).length:Int)+(4:Int)) (0:Int) (0:Int),Ins.mk (8:Int) (0:Int) (0:Int) (0:Int) (0:Int) (0:Int) (↑(fenC fe g.nodes ue.toNat ug).length:Int) (0:Int) (0:Int)]).length,∀ (i:Nat),i<(nodC ps ba sh fe g.nodes ue.toNat ug).length→((nodC ps ba sh fe g.nodes ue.toNat ug).getD i ub).tc=((fenC fe g.nodes ue.toNat ug++putL ((g.nodes.getD ue.toNat ub).origin+(1:Int)) [Ins.mk (1:Int) (0:Int) (15:Int) (0:Int) (0:Int) (0:Int) (0:Int) (1:Int) (0:Int),Ins.mk (5:Int) (0:Int) (15:Int) (0:Int) (0:Int) (sh+(g.nodes.getD ue.toNat ub).thing) (0:Int) (0:Int) (0:Int),Ins.mk (9:Int) (0:Int) (0:Int) (15:Int) (0:Int) (0:Int) ((↑(fenC fe g.nodes ue.toNat ug).length:Int)+(4:Int)) (0:Int) (0:Int),Ins.mk (8:Int) (0:Int) (0:Int) (0:Int) (0:Int) (0:Int) (↑(fenC fe g.nodes ue.toNat ug).length:Int) (0:Int) (0:Int)]).getD i ub).tc,(g.nodes.getD ue.toNat ub).kind=(5:Int)] W0
      ·refine tWk (St.mk 129 (zp ue g uj) [zu g ac sh ba ue,rowOf 13 (·.tc) g.nodes,rowOf 2 (·.tc) ps,IntRow fe,Reg.dead,zA uq ui,Reg.dead,za,ownOf 44 9 (·.tc) (fenC fe g.nodes ue.toNat ug),Reg.dead,Reg.box 64 [C.i .u8 6,C.i .u8 (g.nodes.getD ue.toNat ub).op,C.i .i64 (g.nodes.getD ue.toNat ub).slot,C.i .i64 (g.nodes.getD ue.toNat ub).thing,C.b (g.nodes.getD ue.toNat ub).a.slotted,C.i .i64 (g.nodes.getD ue.toNat ub).a.slot,C.i .i64 (g.nodes.getD ue.toNat ub).a.word,C.b (g.nodes.getD ue.toNat ub).b.slotted,C.i .i64 (g.nodes.getD ue.toNat ub).b.slot,C.i .i64 (g.nodes.getD ue.toNat ub).b.word,C.i .i64 (g.nodes.getD ue.toNat ub).next,C.i .i64 (g.nodes.getD ue.toNat ub).els,C.i .i64 (g.nodes.getD ue.toNat ub).origin],Reg.dead,zaZ ul ug] []) ?_ [] [13,14,17] [MpEq (MT.mk Tryd.prog 71 3 3 [CK.i ja] false [CK.i ja] false) uq (fun (a:Int)=>(ui a).isSome) (fun (a:Int)=>(ui a).getD (0:Int)) none (MT.mk Tryd.prog 71 3 3 [CK.i ja] false [CK.i ja] false) uq (fun (a:Int)=>(ui a).isSome) (fun (a:Int)=>(ui a).getD (0:Int)) none,zf=za,(6:Int)=(g.nodes.getD ue.toNat ub).kind] W65
       refine tz [4,5,16,15,14,3,2,0] ?_
       refine Q2 Q2v (Qf0 g ps ba sh ((g.nodes.getD ue.toNat ub).origin+(1:Int)) ac (g.nodes.getD ue.toNat ub) W1 W1 (fenC fe g.nodes ue.toNat ug) W1 W1) [0,1,2,3,8,5,12] ?_ [11] [(g.nodes.getD ue.toNat ub).kind=(6:Int)] W0 (vc:=[Fits jz (6:Int),(MT.mk Tryd.prog 77 60 81 [CK.i jz] false [] false).P=Tryd.prog]) (hv:=W3)
       exact tTo (fun xUnit=>C39b g ps ba sh ac fe ue uj ug ul uq ui) (fun xUnit=>True) () trivial [0,1,2,3,4,5,6,7,13,9,10,11,12] [13,14,15,16,17] [MpEq (MT.mk Tryd.prog 71 3 3 [CK.i ja] false [CK.i ja] false) (uq+4) (fun (a:Int)=>(innS ui (g.nodes.getD ue.toNat ub) (↑(fenC fe g.nodes ue.toNat ug).length:Int) a).isSome) (fun (a:Int)=>(innS ui (g.nodes.getD ue.toNat ub) (↑(fenC fe g.nodes ue.toNat ug).length:Int) a).getD (0:Int)) none (MT.mk Tryd.prog 71 3 3 [CK.i ja] false [CK.i ja] false) uq (fun (a:Int)=>(ui a).isSome) (fun (a:Int)=>(ui a).getD (0:Int)) none,zi=za,(nodC ps ba sh fe g.nodes ue.toNat ug).length=(fenC fe g.nodes ue.toNat ug++putL ((g.nodes.getD ue.toNat ub).origin+(1:Int)) [Ins.mk (1:Int) (0:Int) (15:Int) (0:Int) (0:Int) (0:Int) (0:Int) (0:Int) (0:Int),Ins.mk (4:Int) (0:Int) (0:Int) (15:Int) (0:Int) (sh+(g.nodes.getD ue.toNat ub).thing) (0:Int) (0:Int) (0:Int)]).length,∀ (i:Nat),i<(nodC ps ba sh fe g.nodes ue.toNat ug).length→((nodC ps ba sh fe g.nodes ue.toNat ug).getD i ub).tc=((fenC fe g.nodes ue.toNat ug++putL ((g.nodes.getD ue.toNat ub).origin+(1:Int)) [Ins.mk (1:Int) (0:Int) (15:Int) (0:Int) (0:Int) (0:Int) (0:Int) (0:Int) (0:Int),Ins.mk (4:Int) (0:Int) (0:Int) (15:Int) (0:Int) (sh+(g.nodes.getD ue.toNat ub).thing) (0:Int) (0:Int) (0:Int)]).getD i ub).tc,(g.nodes.getD ue.toNat ub).kind=(6:Int)] W0
      ·refine tWk (St.mk 129 (zp ue g uj) [zu g ac sh ba ue,rowOf 13 (·.tc) g.nodes,rowOf 2 (·.tc) ps,IntRow fe,Reg.dead,zA uq ui,Reg.dead,za,ownOf 44 9 (·.tc) (fenC fe g.nodes ue.toNat ug),Reg.dead,Reg.box 64 [C.i .u8 7,C.i .u8 (g.nodes.getD ue.toNat ub).op,C.i .i64 (g.nodes.getD ue.toNat ub).slot,C.i .i64 (g.nodes.getD ue.toNat ub).thing,C.b (g.nodes.getD ue.toNat ub).a.slotted,C.i .i64 (g.nodes.getD ue.toNat ub).a.slot,C.i .i64 (g.nodes.getD ue.toNat ub).a.word,C.b (g.nodes.getD ue.toNat ub).b.slotted,C.i .i64 (g.nodes.getD ue.toNat ub).b.slot,C.i .i64 (g.nodes.getD ue.toNat ub).b.word,C.i .i64 (g.nodes.getD ue.toNat ub).next,C.i .i64 (g.nodes.getD ue.toNat ub).els,C.i .i64 (g.nodes.getD ue.toNat ub).origin],Reg.dead,zaZ ul ug] []) ?_ [] [13,14,17] [MpEq (MT.mk Tryd.prog 71 3 3 [CK.i ja] false [CK.i ja] false) uq (fun (a:Int)=>(ui a).isSome) (fun (a:Int)=>(ui a).getD (0:Int)) none (MT.mk Tryd.prog 71 3 3 [CK.i ja] false [CK.i ja] false) uq (fun (a:Int)=>(ui a).isSome) (fun (a:Int)=>(ui a).getD (0:Int)) none,zf=za,(7:Int)=(g.nodes.getD ue.toNat ub).kind] W65
       refine tz [4,5,16,15,14,3,2,0] ?_
       refine Q2 Q3n (Qhg g ps ba sh ((g.nodes.getD ue.toNat ub).origin+(1:Int)) ac (g.nodes.getD ue.toNat ub) W1 W1 (fenC fe g.nodes ue.toNat ug) W1 W1) [0,1,2,3,8,5,12] ?_ [11] [(g.nodes.getD ue.toNat ub).kind=(7:Int)] W0 (vc:=[Fits jz (7:Int),(MT.mk Tryd.prog 77 60 81 [CK.i jz] false [] false).P=Tryd.prog]) (hv:=W3)
       exact tTo (fun xUnit=>C39b g ps ba sh ac fe ue uj ug ul uq ui) (fun xUnit=>True) () trivial [0,1,2,3,4,5,6,7,13,9,10,11,12] [13,14,15,16,17] [MpEq (MT.mk Tryd.prog 71 3 3 [CK.i ja] false [CK.i ja] false) (uq+4) (fun (a:Int)=>(innS ui (g.nodes.getD ue.toNat ub) (↑(fenC fe g.nodes ue.toNat ug).length:Int) a).isSome) (fun (a:Int)=>(innS ui (g.nodes.getD ue.toNat ub) (↑(fenC fe g.nodes ue.toNat ug).length:Int) a).getD (0:Int)) none (MT.mk Tryd.prog 71 3 3 [CK.i ja] false [CK.i ja] false) uq (fun (a:Int)=>(ui a).isSome) (fun (a:Int)=>(ui a).getD (0:Int)) none,zi=za,(nodC ps ba sh fe g.nodes ue.toNat ug).length=(fenC fe g.nodes ue.toNat ug++(gFetch (Gm.mk ps ba sh ((g.nodes.getD ue.toNat ub).origin+(1:Int))) (g.nodes.getD ue.toNat ub).a (13:Int)++putL ((g.nodes.getD ue.toNat ub).origin+(1:Int)) [Ins.mk (7:Int) (0:Int) (0:Int) (gReg (Gm.mk ps ba sh ((g.nodes.getD ue.toNat ub).origin+(1:Int))) (g.nodes.getD ue.toNat ub).a (13:Int)) (0:Int) (0:Int) (0:Int) (0:Int) (0:Int)])).length,∀ (i:Nat),i<(nodC ps ba sh fe g.nodes ue.toNat ug).length→((nodC ps ba sh fe g.nodes ue.toNat ug).getD i ub).tc=((fenC fe g.nodes ue.toNat ug++(gFetch (Gm.mk ps ba sh ((g.nodes.getD ue.toNat ub).origin+(1:Int))) (g.nodes.getD ue.toNat ub).a (13:Int)++putL ((g.nodes.getD ue.toNat ub).origin+(1:Int)) [Ins.mk (7:Int) (0:Int) (0:Int) (gReg (Gm.mk ps ba sh ((g.nodes.getD ue.toNat ub).origin+(1:Int))) (g.nodes.getD ue.toNat ub).a (13:Int)) (0:Int) (0:Int) (0:Int) (0:Int) (0:Int)])).getD i ub).tc,(g.nodes.getD ue.toNat ub).kind=(7:Int)] W0
      ·refine tWk (St.mk 129 (zp ue g uj) [zu g ac sh ba ue,rowOf 13 (·.tc) g.nodes,rowOf 2 (·.tc) ps,IntRow fe,Reg.dead,zA uq ui,Reg.dead,za,ownOf 44 9 (·.tc) (fenC fe g.nodes ue.toNat ug),Reg.dead,Reg.box 64 [C.i .u8 8,C.i .u8 (g.nodes.getD ue.toNat ub).op,C.i .i64 (g.nodes.getD ue.toNat ub).slot,C.i .i64 (g.nodes.getD ue.toNat ub).thing,C.b (g.nodes.getD ue.toNat ub).a.slotted,C.i .i64 (g.nodes.getD ue.toNat ub).a.slot,C.i .i64 (g.nodes.getD ue.toNat ub).a.word,C.b (g.nodes.getD ue.toNat ub).b.slotted,C.i .i64 (g.nodes.getD ue.toNat ub).b.slot,C.i .i64 (g.nodes.getD ue.toNat ub).b.word,C.i .i64 (g.nodes.getD ue.toNat ub).next,C.i .i64 (g.nodes.getD ue.toNat ub).els,C.i .i64 (g.nodes.getD ue.toNat ub).origin],Reg.dead,zaZ ul ug] []) ?_ [] [13,14,17] [MpEq (MT.mk Tryd.prog 71 3 3 [CK.i ja] false [CK.i ja] false) uq (fun (a:Int)=>(ui a).isSome) (fun (a:Int)=>(ui a).getD (0:Int)) none (MT.mk Tryd.prog 71 3 3 [CK.i ja] false [CK.i ja] false) uq (fun (a:Int)=>(ui a).isSome) (fun (a:Int)=>(ui a).getD (0:Int)) none,zf=za,(8:Int)=(g.nodes.getD ue.toNat ub).kind] W65
       refine tz [4,5,16,15,14,3,2,0] ?_
       refine Q2 Q2w (Qf1 g ps ba sh ((g.nodes.getD ue.toNat ub).origin+(1:Int)) ac (g.nodes.getD ue.toNat ub) W1 W1 (fenC fe g.nodes ue.toNat ug) W1 W1) [0,1,2,3,8,5,12] ?_ [11] [(g.nodes.getD ue.toNat ub).kind=(8:Int)] W0 (vc:=[Fits jz (8:Int),(MT.mk Tryd.prog 77 60 81 [CK.i jz] false [] false).P=Tryd.prog]) (hv:=W3)
       exact tTo (fun xUnit=>C39b g ps ba sh ac fe ue uj ug ul uq ui) (fun xUnit=>True) () trivial [0,1,2,3,4,5,6,7,13,9,10,11,12] [13,14,15,16,17] [MpEq (MT.mk Tryd.prog 71 3 3 [CK.i ja] false [CK.i ja] false) (uq+4) (fun (a:Int)=>(innS ui (g.nodes.getD ue.toNat ub) (↑(fenC fe g.nodes ue.toNat ug).length:Int) a).isSome) (fun (a:Int)=>(innS ui (g.nodes.getD ue.toNat ub) (↑(fenC fe g.nodes ue.toNat ug).length:Int) a).getD (0:Int)) none (MT.mk Tryd.prog 71 3 3 [CK.i ja] false [CK.i ja] false) uq (fun (a:Int)=>(ui a).isSome) (fun (a:Int)=>(ui a).getD (0:Int)) none,zi=za,(nodC ps ba sh fe g.nodes ue.toNat ug).length=(fenC fe g.nodes ue.toNat ug++gBranch (Gm.mk ps ba sh ((g.nodes.getD ue.toNat ub).origin+(1:Int))) (g.nodes.getD ue.toNat ub)).length,∀ (i:Nat),i<(nodC ps ba sh fe g.nodes ue.toNat ug).length→((nodC ps ba sh fe g.nodes ue.toNat ug).getD i ub).tc=((fenC fe g.nodes ue.toNat ug++gBranch (Gm.mk ps ba sh ((g.nodes.getD ue.toNat ub).origin+(1:Int))) (g.nodes.getD ue.toNat ub)).getD i ub).tc,(g.nodes.getD ue.toNat ub).kind=(8:Int)] W0
      ·refine tWk (St.mk 129 (zp ue g uj) [zu g ac sh ba ue,rowOf 13 (·.tc) g.nodes,rowOf 2 (·.tc) ps,IntRow fe,Reg.dead,zA uq ui,Reg.dead,za,ownOf 44 9 (·.tc) (fenC fe g.nodes ue.toNat ug),Reg.dead,Reg.box 64 [C.i .u8 9,C.i .u8 (g.nodes.getD ue.toNat ub).op,C.i .i64 (g.nodes.getD ue.toNat ub).slot,C.i .i64 (g.nodes.getD ue.toNat ub).thing,C.b (g.nodes.getD ue.toNat ub).a.slotted,C.i .i64 (g.nodes.getD ue.toNat ub).a.slot,C.i .i64 (g.nodes.getD ue.toNat ub).a.word,C.b (g.nodes.getD ue.toNat ub).b.slotted,C.i .i64 (g.nodes.getD ue.toNat ub).b.slot,C.i .i64 (g.nodes.getD ue.toNat ub).b.word,C.i .i64 (g.nodes.getD ue.toNat ub).next,C.i .i64 (g.nodes.getD ue.toNat ub).els,C.i .i64 (g.nodes.getD ue.toNat ub).origin],Reg.dead,zaZ ul ug] []) ?_ [] [13,14,17] [MpEq (MT.mk Tryd.prog 71 3 3 [CK.i ja] false [CK.i ja] false) uq (fun (a:Int)=>(ui a).isSome) (fun (a:Int)=>(ui a).getD (0:Int)) none (MT.mk Tryd.prog 71 3 3 [CK.i ja] false [CK.i ja] false) uq (fun (a:Int)=>(ui a).isSome) (fun (a:Int)=>(ui a).getD (0:Int)) none,zf=za,(9:Int)=(g.nodes.getD ue.toNat ub).kind] W65
       refine tz [4,5,16,15,14,3,2,0] ?_
       refine Q2 Q56 (Qmo g ps ba sh ((g.nodes.getD ue.toNat ub).origin+(1:Int)) ac (g.nodes.getD ue.toNat ub) W1 W1 (fenC fe g.nodes ue.toNat ug) W1 W1) [0,1,2,3,8,5,12] ?_ [11] [(g.nodes.getD ue.toNat ub).kind=(9:Int)] W0 (vc:=[Fits jz (9:Int),(MT.mk Tryd.prog 77 60 81 [CK.i jz] false [] false).P=Tryd.prog]) (hv:=W3)
       exact tTo (fun xUnit=>C39b g ps ba sh ac fe ue uj ug ul uq ui) (fun xUnit=>True) () trivial [0,1,2,3,4,5,6,7,13,9,10,11,12] [13,14,15,16,17] [MpEq (MT.mk Tryd.prog 71 3 3 [CK.i ja] false [CK.i ja] false) (uq+4) (fun (a:Int)=>(innS ui (g.nodes.getD ue.toNat ub) (↑(fenC fe g.nodes ue.toNat ug).length:Int) a).isSome) (fun (a:Int)=>(innS ui (g.nodes.getD ue.toNat ub) (↑(fenC fe g.nodes ue.toNat ug).length:Int) a).getD (0:Int)) none (MT.mk Tryd.prog 71 3 3 [CK.i ja] false [CK.i ja] false) uq (fun (a:Int)=>(ui a).isSome) (fun (a:Int)=>(ui a).getD (0:Int)) none,zi=za,(nodC ps ba sh fe g.nodes ue.toNat ug).length=(fenC fe g.nodes ue.toNat ug++putL ((g.nodes.getD ue.toNat ub).origin+(1:Int)) [Ins.mk (10:Int) (0:Int) (0:Int) (0:Int) (0:Int) (0:Int) (0:Int) (0:Int) (0:Int)]).length,∀ (i:Nat),i<(nodC ps ba sh fe g.nodes ue.toNat ug).length→((nodC ps ba sh fe g.nodes ue.toNat ug).getD i ub).tc=((fenC fe g.nodes ue.toNat ug++putL ((g.nodes.getD ue.toNat ub).origin+(1:Int)) [Ins.mk (10:Int) (0:Int) (0:Int) (0:Int) (0:Int) (0:Int) (0:Int) (0:Int) (0:Int)]).getD i ub).tc,(g.nodes.getD ue.toNat ub).kind=(9:Int)] W0
     ·rintro ⟨⟩ hCC39b
      refine RunF.cutm 2 (fun _:Unit=>C39c g ps ba sh ac fe ue uj ug ul uq ui) (fun _=>True) ?_ ?_
      ·refine tz [4,5,16,15,14,3,2,0] ?_
       refine Q0 (!decide ((g.nodes.getD ue.toNat ub).kind=(9:Int))&&!decide ((g.nodes.getD ue.toNat ub).next=ue+(1:Int))) (fun h3=>?_) (fun h3=>?_) (vc:=[(!decide ((g.nodes.getD ue.toNat ub).kind=(9:Int)))=true→Fits ja (ue+(1:Int))]) (hv:=W3)
       ·refine tz [4,5,16,15,14,3,2,0] ?_
        refine Q2 Qf (Qhd g ps ba sh ((g.nodes.getD ue.toNat ub).origin+(1:Int)) ac [Ins.mk (8:Int) (0:Int) (0:Int) (0:Int) (0:Int) (0:Int) (g.nodes.getD ue.toNat ub).next (0:Int) (0:Int)] (nodC ps ba sh fe g.nodes ue.toNat ug) W1 W1) [0,1,2,3,8,5,12,13] ?_ [11,12,13,14,15,16,17,18,19,20,21] [[Ins.mk (8:Int) (0:Int) (0:Int) (0:Int) (0:Int) (0:Int) (g.nodes.getD ue.toNat ub).next (0:Int) (0:Int)].length=1,∀ (i:Nat),i < [Ins.mk (8:Int) (0:Int) (0:Int) (0:Int) (0:Int) (0:Int) (g.nodes.getD ue.toNat ub).next (0:Int) (0:Int)].length→i≠0→([Ins.mk (8:Int) (0:Int) (0:Int) (0:Int) (0:Int) (0:Int) (g.nodes.getD ue.toNat ub).next (0:Int) (0:Int)].getD i ub).tc=fun x=>TC.any,(Ins.mk (8:Int) (0:Int) (0:Int) (0:Int) (0:Int) (0:Int) (g.nodes.getD ue.toNat ub).next (0:Int) (0:Int)).tc 0=TC.val (jf jz (8:Int)),(Ins.mk (8:Int) (0:Int) (0:Int) (0:Int) (0:Int) (0:Int) (g.nodes.getD ue.toNat ub).next (0:Int) (0:Int)).tc 1=TC.val (jf jz (0:Int)),(Ins.mk (8:Int) (0:Int) (0:Int) (0:Int) (0:Int) (0:Int) (g.nodes.getD ue.toNat ub).next (0:Int) (0:Int)).tc 2=TC.val (jf ja (0:Int)),(Ins.mk (8:Int) (0:Int) (0:Int) (0:Int) (0:Int) (0:Int) (g.nodes.getD ue.toNat ub).next (0:Int) (0:Int)).tc 3=TC.val (jf ja (0:Int)),(Ins.mk (8:Int) (0:Int) (0:Int) (0:Int) (0:Int) (0:Int) (g.nodes.getD ue.toNat ub).next (0:Int) (0:Int)).tc 4=TC.val (jf ja (0:Int)),(Ins.mk (8:Int) (0:Int) (0:Int) (0:Int) (0:Int) (0:Int) (g.nodes.getD ue.toNat ub).next (0:Int) (0:Int)).tc 5=TC.val (jf ja (0:Int)),(Ins.mk (8:Int) (0:Int) (0:Int) (0:Int) (0:Int) (0:Int) (g.nodes.getD ue.toNat ub).next (0:Int) (0:Int)).tc 6=TC.val (jf ja (g.nodes.getD ue.toNat ub).next),(Ins.mk (8:Int) (0:Int) (0:Int) (0:Int) (0:Int) (0:Int) (g.nodes.getD ue.toNat ub).next (0:Int) (0:Int)).tc 7=TC.val (jf ja (0:Int)),(Ins.mk (8:Int) (0:Int) (0:Int) (0:Int) (0:Int) (0:Int) (g.nodes.getD ue.toNat ub).next (0:Int) (0:Int)).tc 8=TC.val (jf ja (0:Int))] W0
        exact tTo (fun xUnit=>C39c g ps ba sh ac fe ue uj ug ul uq ui) (fun xUnit=>True) () trivial [0,1,2,3,4,5,6,7,14,9,10,11,12] [13,14,15,16] [MpEq (MT.mk Tryd.prog 71 3 3 [CK.i ja] false [CK.i ja] false) (uq+4) (fun (a:Int)=>(innS ui (g.nodes.getD ue.toNat ub) (↑(fenC fe g.nodes ue.toNat ug).length:Int) a).isSome) (fun (a:Int)=>(innS ui (g.nodes.getD ue.toNat ub) (↑(fenC fe g.nodes ue.toNat ug).length:Int) a).getD (0:Int)) none (MT.mk Tryd.prog 71 3 3 [CK.i ja] false [CK.i ja] false) (uq+4) (fun (a:Int)=>(innS ui (g.nodes.getD ue.toNat ub) (↑(fenC fe g.nodes ue.toNat ug).length:Int) a).isSome) (fun (a:Int)=>(innS ui (g.nodes.getD ue.toNat ub) (↑(fenC fe g.nodes ue.toNat ug).length:Int) a).getD (0:Int)) none,zam=za,(stepC ps ba sh fe g.nodes ue.toNat ug).length=(nodC ps ba sh fe g.nodes ue.toNat ug++putL ((g.nodes.getD ue.toNat ub).origin+(1:Int)) [Ins.mk (8:Int) (0:Int) (0:Int) (0:Int) (0:Int) (0:Int) (g.nodes.getD ue.toNat ub).next (0:Int) (0:Int)]).length,∀ (i:Nat),i<(stepC ps ba sh fe g.nodes ue.toNat ug).length→((stepC ps ba sh fe g.nodes ue.toNat ug).getD i ub).tc=((nodC ps ba sh fe g.nodes ue.toNat ug++putL ((g.nodes.getD ue.toNat ub).origin+(1:Int)) [Ins.mk (8:Int) (0:Int) (0:Int) (0:Int) (0:Int) (0:Int) (g.nodes.getD ue.toNat ub).next (0:Int) (0:Int)]).getD i ub).tc] W0
       ·exact tTo (fun xUnit=>C39c g ps ba sh ac fe ue uj ug ul uq ui) (fun xUnit=>True) () trivial [] [13,14,15,16] [MpEq (MT.mk Tryd.prog 71 3 3 [CK.i ja] false [CK.i ja] false) (uq+4) (fun (a:Int)=>(innS ui (g.nodes.getD ue.toNat ub) (↑(fenC fe g.nodes ue.toNat ug).length:Int) a).isSome) (fun (a:Int)=>(innS ui (g.nodes.getD ue.toNat ub) (↑(fenC fe g.nodes ue.toNat ug).length:Int) a).getD (0:Int)) none (MT.mk Tryd.prog 71 3 3 [CK.i ja] false [CK.i ja] false) (uq+4) (fun (a:Int)=>(innS ui (g.nodes.getD ue.toNat ub) (↑(fenC fe g.nodes ue.toNat ug).length:Int) a).isSome) (fun (a:Int)=>(innS ui (g.nodes.getD ue.toNat ub) (↑(fenC fe g.nodes ue.toNat ug).length:Int) a).getD (0:Int)) none,zf=za,(stepC ps ba sh fe g.nodes ue.toNat ug).length=(nodC ps ba sh fe g.nodes ue.toNat ug).length,∀ (i:Nat),i<(stepC ps ba sh fe g.nodes ue.toNat ug).length→((stepC ps ba sh fe g.nodes ue.toNat ug).getD i ub).tc=((nodC ps ba sh fe g.nodes ue.toNat ug).getD i ub).tc] W0
      ·rintro ⟨⟩ hCC39c
       refine tz [16,15,14,3,2,0] ?_
       refine Q0 (decide ((16384:Int)<(↑(stepC ps ba sh fe g.nodes ue.toNat ug).length:Int))) (fun h3=>?_) (fun h3=>?_)
       ·exact Q3 [0,1,2,3,4,5,6,8,12] [7] [MpEq MTi (uq+4) (fun (a:Int)=>(innS ui (g.nodes.getD ue.toNat ub) (↑(fenC fe g.nodes ue.toNat ug).length:Int) a).isSome) (fun (a:Int)=>(innS ui (g.nodes.getD ue.toNat ub) (↑(fenC fe g.nodes ue.toNat ug).length:Int) a).getD (0:Int)) none (MT.mk Tryd.prog 71 3 3 [CK.i ja] false [CK.i ja] false) (uq+4) (fun (a:Int)=>(innS ui (g.nodes.getD ue.toNat ub) (↑(fenC fe g.nodes ue.toNat ug).length:Int) a).isSome) (fun (a:Int)=>(innS ui (g.nodes.getD ue.toNat ub) (↑(fenC fe g.nodes ue.toNat ug).length:Int) a).getD (0:Int)) none] W150 (res:=_) (post:=_) (hS:=⟨(false,(stepC ps ba sh fe g.nodes ue.toNat ug),ul++[(ug.length:Int)],uq+4,innS ui (g.nodes.getD ue.toNat ub) ((fenC fe g.nodes ue.toNat ug).length:Int),(g.nodes.getD ue.toNat ub).origin+1),W124,rfl,rfl⟩)
       ·exact Q4 (wd g ps ba sh ac fe F0) (ue,uj,ug,ul,uA,uq,ui) ((ue+(1:Int),uj,stepC ps ba sh fe g.nodes ue.toNat ug,ul++[(↑ug.length:Int)],(g.nodes.getD ue.toNat ub).origin+(1:Int),uq+4,innS ui (g.nodes.getD ue.toNat ub) (↑(fenC fe g.nodes ue.toNat ug).length:Int))) (by dsimp only [wd];have q:=uc h2;have z:=hJ1.x0;omega) (hJ1.next (uc h2) rfl h3) [0,1,2,3,4,5,6,7,8,12] [13,14] [MpEq (MT.mk Tryd.prog 71 3 3 [CK.i ja] false [CK.i ja] false) (uq+4) (fun (a:Int)=>(innS ui (g.nodes.getD ue.toNat ub) (↑(fenC fe g.nodes ue.toNat ug).length:Int) a).isSome) (fun (a:Int)=>(innS ui (g.nodes.getD ue.toNat ub) (↑(fenC fe g.nodes ue.toNat ug).length:Int) a).getD (0:Int)) none (MT.mk Tryd.prog 71 3 3 [CK.i ja] false [CK.i ja] false) (uq+4) (fun (a:Int)=>(innS ui (g.nodes.getD ue.toNat ub) (↑(fenC fe g.nodes ue.toNat ug).length:Int) a).isSome) (fun (a:Int)=>(innS ui (g.nodes.getD ue.toNat ub) (↑(fenC fe g.nodes ue.toNat ug).length:Int) a).getD (0:Int)) none,Reg.mpv (MT.mk Tryd.prog 77 60 81 [CK.i jz] false [] false) kA 9 (List.map (fun x=>(x.fst,C.ren (at' [0,1,2,3,4,5,6,7,8,12]) x.snd)) [((9:Int),C.fn 34 true [0]),((8:Int),C.fn 33 true [0]),((7:Int),C.fn 32 true [0]),((6:Int),C.fn 31 true [0]),((5:Int),C.fn 30 true [0]),((4:Int),C.fn 29 true [0]),((3:Int),C.fn 28 true [0]),((2:Int),C.fn 27 true [0]),((1:Int),C.fn 26 true [0])])=za] W0 (vc:=(zD ue)) (hv:=W3)
 ·refine tz [16,15,14,3,2,0] ?_
  refine Q9 (vx g ps ba sh ac fe uj ug ul uA uq ui) (((0:Int),ug,ul,uA,uq,ui)) (⟨jA _,by omega,rfl,rfl,rfl⟩) ?_ [0,1,2,3,4,5,6,7,8,9,8,9] [13,14] [MpEq (MT.mk Tryd.prog 71 3 3 [CK.i ja] false [CK.i ja] false) uq (fun (a:Int)=>(ui a).isSome) (fun (a:Int)=>(ui a).getD (0:Int)) none (MT.mk Tryd.prog 71 3 3 [CK.i ja] false [CK.i ja] false) uq (fun (a:Int)=>(ui a).isSome) (fun (a:Int)=>(ui a).getD (0:Int)) none,Reg.mpv (MT.mk Tryd.prog 77 60 81 [CK.i jz] false [] false) kA 9 (List.map (fun x=>(x.fst,C.ren (at' [0,1,2,3,4,5,6,7,8,9,8,9]) x.snd)) [((9:Int),C.fn 34 true [0]),((8:Int),C.fn 33 true [0]),((7:Int),C.fn 32 true [0]),((6:Int),C.fn 31 true [0]),((5:Int),C.fn 30 true [0]),((4:Int),C.fn 29 true [0]),((3:Int),C.fn 28 true [0]),((2:Int),C.fn 27 true [0]),((1:Int),C.fn 26 true [0])])=za] W0
  rintro ⟨uh,um,uu,uw,uJ,uG⟩ hJ3
  dsimp only [vx] at hJ3
  refine tz [85,84,2,0] ?_
  refine Q0 (decide (uh<(↑ug.length:Int))) (fun h4=>?_) (fun h4=>?_)
  ·refine tz [85,84,2,0] ?_
   refine Q0 ((decide ((um.getD uh.toNat ub).kind=(8:Int))||decide ((um.getD uh.toNat ub).kind=(9:Int)))&&decide ((uG uh).getD (0:Int)=(0:Int))) (fun h5=>?_) (fun h5=>?_) (vc:=[(0:Int)≤uh,uh<(↑um.length:Int),uh.toNat<um.length,decide ((um.getD uh.toNat ub).kind=(8:Int))=false→uh.toNat<um.length,(decide ((um.getD uh.toNat ub).kind=(8:Int))||decide ((um.getD uh.toNat ub).kind=(9:Int)))=true→Fits ja uh,(decide ((um.getD uh.toNat ub).kind=(8:Int))||decide ((um.getD uh.toNat ub).kind=(9:Int)))=true→(MT.mk Tryd.prog 71 3 3 [CK.i ja] false [CK.i ja] false).P=Tryd.prog]) (hv:=W3)
   ·exact Q4 (vx g ps ba sh ac fe uj ug ul uA uq ui) (uh,um,uu,uw,uJ,uG) ((uh+(1:Int),um.set uh.toNat (Ins.mk (um.getD uh.toNat ub).kind (um.getD uh.toNat ub).op (um.getD uh.toNat ub).d (um.getD uh.toNat ub).a (um.getD uh.toNat ub).b (um.getD uh.toNat ub).addr (uu.getD (um.getD uh.toNat ub).to.toNat (0:Int)) (um.getD uh.toNat ub).word (um.getD uh.toNat ub).from_),uu,uw,uJ,uG)) W195 W129 [] [13,14,15,16] [MpEq (MT.mk Tryd.prog 71 3 3 [CK.i ja] false [CK.i ja] false) uJ (fun (a:Int)=>(uG a).isSome) (fun (a:Int)=>(uG a).getD (0:Int)) none (MT.mk Tryd.prog 71 3 3 [CK.i ja] false [CK.i ja] false) uJ (fun (a:Int)=>(uG a).isSome) (fun (a:Int)=>(uG a).getD (0:Int)) none,zan=za,(um.set uh.toNat (Ins.mk (um.getD uh.toNat ub).kind (um.getD uh.toNat ub).op (um.getD uh.toNat ub).d (um.getD uh.toNat ub).a (um.getD uh.toNat ub).b (um.getD uh.toNat ub).addr (uu.getD (um.getD uh.toNat ub).to.toNat (0:Int)) (um.getD uh.toNat ub).word (um.getD uh.toNat ub).from_)).length=um.length,∀ (i:Nat),i<(um.set uh.toNat (Ins.mk (um.getD uh.toNat ub).kind (um.getD uh.toNat ub).op (um.getD uh.toNat ub).d (um.getD uh.toNat ub).a (um.getD uh.toNat ub).b (um.getD uh.toNat ub).addr (uu.getD (um.getD uh.toNat ub).to.toNat (0:Int)) (um.getD uh.toNat ub).word (um.getD uh.toNat ub).from_)).length→((um.set uh.toNat (Ins.mk (um.getD uh.toNat ub).kind (um.getD uh.toNat ub).op (um.getD uh.toNat ub).d (um.getD uh.toNat ub).a (um.getD uh.toNat ub).b (um.getD uh.toNat ub).addr (uu.getD (um.getD uh.toNat ub).to.toNat (0:Int)) (um.getD uh.toNat ub).word (um.getD uh.toNat ub).from_)).getD i ub).tc=updT (fun i=>(um.getD i ub).tc) uh.toNat 6 [jf ja (uu.getD (um.getD uh.toNat ub).to.toNat (0:Int))] i] W0 (vc:=[uh.toNat<um.length,(0:Int)≤(um.getD uh.toNat ub).to,(um.getD uh.toNat ub).to<(↑uu.length:Int),(um.getD uh.toNat ub).to.toNat<uu.length,uh.toNat<um.length,Fits ja (uh+(1:Int))]) (hv:=W3)
   ·exact Q4 (vx g ps ba sh ac fe uj ug ul uA uq ui) (uh,um,uu,uw,uJ,uG) ((uh+(1:Int),um,uu,uw,uJ,uG)) W195 W129 [] [13,14] [MpEq (MT.mk Tryd.prog 71 3 3 [CK.i ja] false [CK.i ja] false) uJ (fun (a:Int)=>(uG a).isSome) (fun (a:Int)=>(uG a).getD (0:Int)) none (MT.mk Tryd.prog 71 3 3 [CK.i ja] false [CK.i ja] false) uJ (fun (a:Int)=>(uG a).isSome) (fun (a:Int)=>(uG a).getD (0:Int)) none,zan=za] W0 (vc:=(zD uh)) (hv:=W3)
  ·exact Q3 [0,1,2,3,4,5,6,10,11] [7] [MpEq MTi uJ (fun (a:Int)=>(uG a).isSome) (fun (a:Int)=>(uG a).getD (0:Int)) none (MT.mk Tryd.prog 71 3 3 [CK.i ja] false [CK.i ja] false) uJ (fun (a:Int)=>(uG a).isSome) (fun (a:Int)=>(uG a).getD (0:Int)) none] W150 (res:=_) (post:=_) (hS:=⟨(true,um,uu,uJ,uG,uw),W124,rfl,rfl⟩)
def we (sh:List Dcl) (lk:List Dcl) (gs:List Grf) (al:List Alc):Lp (Int×List Int):=⟨fun x=>{ N:=48,fr:=[se 15 (C.i .i64 x.1),se 14 (C.i .i64 (↑sh.length:Int)),se 13 (C.h 0),se 6 (C.h 5),se 5 (C.v (jg none 0 0)),zaR,se 2 (C.p 4 0),se 1 (C.h 3)],rg:=[rowOf 3 (·.tc) sh,rowOf 3 (·.tc) lk,rowOf 4 (·.tc) gs,rowOf 2 (·.tc) al,zP]++[WordOwn x.2],wr:=[] },fun x=>0≤x.1∧x.1≤(sh.length:Int)∧x.2=(sh.take x.1.toNat).map (·.word),fun x=>((sh.length:Int)-x.1).toNat⟩
def wg (sh:List Dcl) (lk:List Dcl) (gs:List Grf) (al:List Alc):Lp (Int×List Int×List Int):=⟨fun x=>{ N:=48,fr:=[se 32 (C.i .i64 x.1),se 31 (C.i .i64 (↑al.length:Int)),se 30 (C.h 3),se 9 (C.h 7),se 6 (C.h 6),se 5 (C.v (jg none 0 0)),zaR],rg:=[rowOf 3 (·.tc) sh,rowOf 3 (·.tc) lk,rowOf 4 (·.tc) gs,rowOf 2 (·.tc) al,zP,Reg.dead,WordOwn (x.2.2)]++[IntOwn x.2.1],wr:=[] },fun x=>0≤x.1∧x.1≤(al.length:Int)∧x.2.1=mAt sh lk al x.1.toNat∧x.2.2=memL sh lk al x.1.toNat,fun x=>((al.length:Int)-x.1).toNat⟩
theorem Qjr (sh lk:List Dcl) (gs:List Grf) (al:List Alc) (hsl:sh.length≤1000000) (hll:lk.length≤1000000) (hal:al.length≤1000) (hac:∀ j:Nat,j<al.length→0≤(al.getD j ub).cells∧(al.getD j ub).cells≤4160):Ctr Tryd.prog 12 [Dcl.rowR sh,Dcl.rowR lk,Grf.rowR gs,Alc.rowR al] [.agg [.h 0,.h 1,.h 2],.c (.h 3)]
 (Det (.tup [(false,[.h 4]),(false,[.h 5])]) [.dead,.dead,.dead,.dead,WordOwn (memL sh lk al al.length),IntOwn (mAt sh lk al al.length)]):=by
 refine Ctr.intro [] Tryd.func12 K K ?_
 refine Q9 (we sh lk gs al) (((0:Int),[])) (⟨jA _,by omega,rfl⟩) ?_ [0,1,2,3,4,1000005] [8] [(0:Nat)=0] W46
 rintro ⟨ue,uj⟩ hJ1
 dsimp only [we] at hJ1
 refine tz [15,14,13,6,5,4,2,1] ?_
 refine Q0 (decide (ue<(↑sh.length:Int))) (fun h2=>?_) (fun h2=>?_)
 ·exact Q4 (we sh lk gs al) (ue,uj) ((ue+(1:Int),uj++[(sh.getD ue.toNat ub).word])) (by dsimp only [we];have q:=uc h2;have z:=hJ1.1;omega) (⟨by omega,by have q:=uc h2;omega,by rw [hJ1.2.2,show (ue+1).toNat=ue.toNat+1 by omega,Qcj sh _ W160]⟩) [0,1,2,3,4,8] [8,9,10] [(uj++[(sh.getD ue.toNat ub).word]).length=uj.length+1,∀ (i:Nat),i<(uj++[(sh.getD ue.toNat ub).word]).length→i≠uj.length→i64T ((uj++[(sh.getD ue.toNat ub).word]).getD i 0)=i64T (uj.getD i 0),i64T ((uj++[(sh.getD ue.toNat ub).word]).getD uj.length 0) 0=TC.val (jf ja (sh.getD ue.toNat ub).word)] W46 (vc:=[(0:Int)≤ue,ue<(↑sh.length:Int),ue.toNat<sh.length,uj.length+1≤maxLen,(uj.length+1) * 8≤140737488355328,Fits ja (ue+(1:Int))]) (hv:=W38)
 ·refine tz [15,14,13,6,5,4,2,1] ?_
  refine RunF.hereL (vc:=[(0:Int)≤(↑lk.length:Int),uj.length+lk.length≤maxLen,(uj.length+lk.length) * 8≤140737488355328]) K W38 ?_
  refine Qae 6 ((WordOwn (memL sh lk al 0))) ?_ (vc:=[(memL sh lk al 0).length=uj.length+lk.length,∀ (i:Nat),i<(memL sh lk al 0).length→i64T ((memL sh lk al 0).getD i 0)=fun j=>if i<uj.length then i64T (uj.getD i 0) j else valT (jf ja (0:Int)).cells.toList j]) (hv:=W127)
  refine tz [32,31,30,9,6,5,4] ?_
  refine Q9 (wg sh lk gs al) (((0:Int),[],memL sh lk al 0)) (⟨jA _,by omega,rfl,rfl⟩) ?_ [0,1,2,3,4,5,6,1000007] [10] [(0:Nat)=0] W46
  rintro ⟨uh,um,uu⟩ hJ3
  dsimp only [wg] at hJ3
  refine tz [32,31,30,9,6,5,4] ?_
  refine Q0 (decide (uh<(↑al.length:Int))) (fun h4=>?_) (fun h4=>?_)
  ·refine Y3 3 (uh.toNat) ?_ (vc:=[uh.toNat<al.length]) (hv:=W38)
   refine RunF.hereJ (vc:=[(0:Int)≤uh,uh<(↑al.length:Int),uh.toNat=uh.toNat,um.length+1≤maxLen,(um.length+1) * 8≤140737488355328,(0:Int)≤(al.getD uh.toNat ub).cells,uu.length+(al.getD uh.toNat ub).cells.toNat≤maxLen,(uu.length+(al.getD uh.toNat ub).cells.toNat) * 8≤140737488355328,Fits ja (uh+(1:Int))]) K K W38 ?_
   refine Qae 12 ((WordOwn (memL sh lk al (uh.toNat+1)))) ?_ (vc:=[(memL sh lk al (uh.toNat+1)).length=uu.length+(al.getD uh.toNat ub).cells.toNat,∀ (i:Nat),i<(memL sh lk al (uh.toNat+1)).length→i64T ((memL sh lk al (uh.toNat+1)).getD i 0)=fun j=>if i<uu.length then i64T (uu.getD i 0) j else valT (jf ja (0:Int)).cells.toList j]) (hv:=W127)
   exact Q4 (wg sh lk gs al) (uh,um,uu) ((uh+(1:Int),um++[(↑uu.length:Int)],memL sh lk al (uh.toNat+1))) (by dsimp only [wg];have q:=uc h4;have z:=hJ3.1;omega) (⟨by omega,by have q:=uc h4;omega,by rw [hJ3.2.2.1,hJ3.2.2.2,show (uh+1).toNat=uh.toNat+1 by omega,Qiy],by rw [show (uh+1).toNat=uh.toNat+1 by omega]⟩) [0,1,2,3,4,5,12,11] [10,11,12] [(um++[(↑uu.length:Int)]).length=um.length+1,∀ (i:Nat),i<(um++[(↑uu.length:Int)]).length→i≠um.length→i64T ((um++[(↑uu.length:Int)]).getD i 0)=i64T (um.getD i 0),i64T ((um++[(↑uu.length:Int)]).getD um.length 0) 0=TC.val (jf ja (↑uu.length:Int))] W46
  ·exact Q3 [0,1,2,3,6,7] [0,1,2,3] [(memL sh lk al al.length).length=uu.length,∀ (i:Nat),i<(memL sh lk al al.length).length→i64T ((memL sh lk al al.length).getD i 0)=i64T (uu.getD i 0),(mAt sh lk al al.length).length=um.length,∀ (i:Nat),i<(mAt sh lk al al.length).length→i64T ((mAt sh lk al al.length).getD i 0)=i64T (um.getD i 0)] (by simp only [Conj];(repeat' apply jn)<;>first | trivial | rfl | (intros;first | trivial | rfl) | (have q:=ud h4;have e:uh.toNat=al.length:=(by omega);have e1:=hJ3.2.2.1;have e2:=hJ3.2.2.2;rw [e] at e1 e2;subst e1 e2;first | rfl | (intros;rfl)))
def wh (X:Ext) (sh:List Dcl) (lk:List Dcl) (gs:List Grf) (fs:List Iln) (al:List Alc) (bf:Int):Lp (Int×List Iln×Int×List Cor):=⟨fun x=>{ N:=99,fr:=[se 50 (C.i .i64 x.1),se 49 (C.i .i64 (↑gs.length:Int)),se 48 (C.h 2),se 15 (C.h 11),se 14 (C.p 10 0),se 13 (C.h 9),se 10 (C.i .i64 x.2.2.1),se 9 (C.v (jg none 0 0)),se 8 (C.p 7 0),se 1 (C.h 4),se 2 (C.h 5)],rg:=[rowOf 3 (·.tc) sh,rowOf 3 (·.tc) lk,rowOf 4 (·.tc) gs,Reg.froz X,rowOf 1 (·.tc) fs,rowOf 2 (·.tc) al,zP,Reg.box 32 [C.v (jg none 0 0),C.i .i64 0,C.i .i64 0,C.i .i64 0,C.v (jg none 0 0)],WordOwn (memL sh lk al al.length),IntOwn (mAt sh lk al al.length),Reg.box 32 [C.h 8,C.i .i64 (↑sh.length:Int),C.i .i64 (↑lk.length:Int),C.i .i64 bf,C.h 12]]++[Iln.ownR x.2.1]++[Cor.ownR x.2.2.2],wr:=[] },fun x=>MadJ sh lk gs fs al x.1 x.2.2.2 x.2.1,fun x=>((gs.length:Int)-x.1).toNat⟩
abbrev zca:List Prop:=[(0:Nat)=0,(0:Nat)=0,(0:Nat)=0]
theorem Qhh (X:Ext) (hX:TabX X) (sh lk:List Dcl) (gs:List Grf) (hs:zF sh) (hl:zF lk) (hg:zab gs) (hw:UnitW gs) (fs:List Iln) (hfs:zaC fs) (al:List Alc) (hp:za6 al) (bf:Int):Ctr Tryd.prog 10 (zbz sh lk gs X fs al) [.agg [.h 0,.h 1,.h 2],.c (.h 4),.c (.h 5),.c (.i .i64 bf)]
 (DetE (fun y:MadY=>y=madU sh lk gs fs al bf) (fun y=>.tup [(true,[.h 6,.i .i64 y.2.2.2.2.1,.i .i64 y.2.2.2.2.2.1,.i .i64 y.2.2.2.2.2.2,.h 7]),(false,[.h 8]),(false,[.i .i64 y.1])]) (fun y=>[.dead,.dead,.dead,.dead,.dead,.dead,WordOwn y.2.1,Cor.ownR y.2.2.1,Iln.ownR y.2.2.2.1])):=by
 refine Ctr.intro [] Tryd.func10 K K ?_
 refine Q2 Qce (Qmj X W16 sh lk gs W16 W16 W16 W16 fs W16 al W16 bf) [] ?_
 refine tz [23,10,9,8,4,1,2,3] ?_
 refine Q0 (!decide (fauU sh lk gs fs al bf=(0:Int))) (fun h1=>?_) (fun h1=>?_)
 ·exact Q3 [0,1,2,3,4,5,1000006,1000007,1000008] [0,1,2] zca (by simp only [Conj] at *<;>grind) (res:=_) (post:=_) (hS:=⟨(fauU sh lk gs fs al bf,[],[],[],0,0,0),W126,rfl,rfl⟩)
 ·refine tz [10,9,8,4,1,2,3] ?_
  refine Q2 Qai (Qjr sh lk gs al W16 W16 W16 W16) [0,1,2,5] ?_
  refine tz [31,10,9,8,4,1,2,3] ?_
  refine Q0 (decide ((4096:Int)<(↑(memL sh lk al al.length).length:Int))) (fun h2=>?_) (fun h2=>?_)
  ·exact Q3 [0,1,2,3,4,5,1000006,1000007,1000008] [0,1,2] zca (by simp only [Conj] at *<;>grind) (res:=_) (post:=_) (hS:=⟨(3,[],[],[],0,0,0),W126,rfl,rfl⟩)
  ·refine tz [13,12,10,9,8,4,1,2,3] ?_
   refine Q9 (wh X sh lk gs fs al bf) (((0:Int),[],(0:Int),[])) MadJ.start ?_ [0,1,2,3,4,5,6,7,8,9,10,1000011,1000012] [23,24] [(0:Nat)=0,(0:Nat)=0] W8
   rintro ⟨uh,um,uu,uw⟩ hJ3
   dsimp only [wh] at hJ3
   refine tz [50,49,48,15,14,13,10,9,8,1,2] ?_
   refine Q0 (decide (uh<(↑gs.length:Int))) (fun h4=>?_) (fun h4=>?_)
   ·refine Y3 2 (uh.toNat) ?_ (vc:=(zbX uh gs)) (hv:=W43)
    refine Y3 4 (uh.toNat) ?_ (vc:=[uh.toNat<fs.length]) (hv:=W43)
    refine Y3 5 (uh.toNat) ?_ (vc:=[uh.toNat<al.length]) (hv:=W43)
    refine tz [50,49,48,15,14,13,10,9,8,1,2] ?_
    refine Ql Q54 (Qq3 (gs.getD uh.toNat ub) ((al.getD uh.toNat ub).places) ((mAt sh lk al al.length).getD uh.toNat 0) (↑sh.length:Int) ((al.getD uh.toNat ub).cells) ((fs.getD uh.toNat ub).l) (fun x=>none) W16 W16 W16 W16 W16 W16 W16 W16) [18,13,15,14,4,17,6] ?_ [15] [MpEq MTi 0 (fun a=>false) (fun a=>(0:Int)) none (MT.mk Tryd.prog 71 3 3 [CK.i ja] false [CK.i ja] false) 0 (fun x=>false) (fun x=>KA.zero [CK.i ja]) none] W8 (vc:=[(0:Int)≤uh,uh<(↑gs.length:Int),uh.toNat=uh.toNat,(0:Int)≤uh,uh<(↑al.length:Int),uh.toNat=uh.toNat,(0:Int)≤uh,uh<(↑fs.length:Int),uh.toNat=uh.toNat,(0:Int)≤uh,uh<(↑(mAt sh lk al al.length).length:Int),uh.toNat<(mAt sh lk al al.length).length,(MT.mk Tryd.prog 71 3 3 [CK.i ja] false [CK.i ja] false).P=Tryd.prog,(MT.mk Tryd.prog 71 3 3 [CK.i ja] false [CK.i ja] false).Ok,(MT.mk Tryd.prog 71 3 3 [CK.i ja] false [CK.i ja] false).P=Tryd.prog,(MT.mk Tryd.prog 71 3 3 [CK.i ja] false [CK.i ja] false).Ok]) (hv:=W43)
    rintro ⟨uk,uy,uB,uK,wo,wq⟩ hY5
    try dsimp only at hY5
    refine tz [74,18,17,50,49,48,15,14,13,10,9,8,1,2] ?_
    refine Q0 (!uk) (fun h6=>?_) (fun h6=>?_)
    ·exact Q3 [0,1,2,3,4,5,1000006,1000007,1000008] [0,1,2] zca (by simp only [Conj] at *<;>grind) (res:=_) (post:=_) (hS:=⟨(3,[],[],[],0,0,0),W126,rfl,rfl⟩)
    ·exact Q3g (wh X sh lk gs fs al bf) (uh,um,uu,uw) ((uh+(1:Int),um++[Iln.mk uB],uu,uw++[Cor.mk (gs.getD uh.toNat ub).name uy])) (by dsimp only [wh];have q:=uc h4;have z:=hJ3.x0;omega) (by have e:=hY5.2 (by simpa using h6);have e1:=e.1;have e2:=e.2;subst e1 e2;exact hJ3.next h4 (by have q6:=h6;rw [hY5.1] at q6;exact q6)) [(22,(Cor.tc (Cor.mk (gs.getD uh.toNat ub).name uy))),(24,(Iln.tc (Iln.mk uB)))] [0,1,2,3,4,5,6,7,8,9,10,24,22] [23,24,25,26] [(um++[Iln.mk uB]).length=um.length+1,∀ (i:Nat),i<(um++[Iln.mk uB]).length→((um++[Iln.mk uB]).getD i ub).tc=if i=um.length then (Iln.mk uB).tc else (um.getD i ub).tc,(uw++[Cor.mk (gs.getD uh.toNat ub).name uy]).length=uw.length+1,∀ (i:Nat),i<(uw++[Cor.mk (gs.getD uh.toNat ub).name uy]).length→((uw++[Cor.mk (gs.getD uh.toNat ub).name uy]).getD i ub).tc=if i=uw.length then (Cor.mk (gs.getD uh.toNat ub).name uy).tc else (uw.getD i ub).tc] W76 (vc:=[uw.length+1≤maxLen,(uw.length+1) * 40≤140737488355328,um.length+1≤maxLen,(um.length+1) * 24≤140737488355328,Fits ja (uh+(1:Int))]) (hv:=W43) (vc2:=[jF (gs.getD uh.toNat ub).name=jF (gs.getD uh.toNat ub).name,uy.length=uy.length,∀ (i:Nat),i<uy.length→(uy.getD i ub).tc=(uy.getD i ub).tc,uB.length=uB.length,∀ (i:Nat),i<uB.length→i64T (uB.getD i 0)=i64T (uB.getD i 0)]) (hv2:=W154)
   ·exact Q3 [0,1,2,3,4,5,8,12,11] (res:=_) (post:=_) (hS:=⟨(0,memL sh lk al al.length,uw,um,(sh.length:Int),(lk.length:Int),bf),W126,rfl,rfl⟩)
theorem Q6z (X:Ext) (hX:TabX X) (sh lk:List Dcl) (gs:List Grf) (hs:zF sh) (hl:zF lk) (hg:zab gs) (hw:UnitW gs) (fs:List Iln) (hfs:zaC fs) (al:List Alc) (hp:za6 al) (bf:Int):Ctr Tryd.prog 5 (zbz sh lk gs X fs al) [zcz,.c (.h 4),.c (.h 5),zc6 bf]
 (DetE (fun y:MadY=>y=madU sh lk gs fs al bf) (fun y=>.tup [(true,[.h 6,.i .i64 y.2.2.2.2.1,.i .i64 y.2.2.2.2.2.1,.i .i64 y.2.2.2.2.2.2,.h 7]),(false,[.i .i64 y.1])]) (fun y=>[.dead,.dead,.dead,.dead,.dead,.dead,WordOwn y.2.1,Cor.ownR y.2.2.1,.dead])):=by
 refine Ctr.intro [] Tryd.func5 K K ?_
 refine Ql Q6i (Qhh X W54 sh lk gs W54 W54 W54 W54 fs W54 al W54 bf) [] ?_
 rintro ⟨ue,uj,ug,ul,uA,uq,ui⟩ hY1
 try dsimp only at hY1
 exact Q3 [0,1,2,3,4,5,8,9,1000008] (res:=_) (post:=_) (hS:=⟨(ue,uj,ug,ul,uA,uq,ui),hY1,rfl,rfl⟩)
theorem Qbu (X:Ext) (hX:TabX X) (sh lk:List Dcl) (gs:List Grf) (hs:zF sh) (hl:zF lk) (hg:zab gs) (hw:UnitW gs) (fs:List Iln) (hfs:zaC fs) (al:List Alc) (hp:za6 al):Ctr Tryd.prog 6 (zbz sh lk gs X fs al) [zcz,.c (.h 4),.c (.h 5)]
 (DetE (fun y:MadY=>y=madU sh lk gs fs al 1) (fun y=>.tup [(false,[.h 8]),(false,[.i .i64 y.1])]) (fun y=>[.dead,.dead,.dead,.dead,.dead,.dead,.dead,.dead,Iln.ownR y.2.2.2.1])):=by
 refine Ctr.intro [] Tryd.func6 K K ?_
 refine Ql Q6i (Qhh X W54 sh lk gs W54 W54 W54 W54 fs W54 al W54 1) [] ?_
 rintro ⟨ue,uj,ug,ul,uA,uq,ui⟩ hY1
 try dsimp only at hY1
 exact Q3 [0,1,2,3,4,5,6,7,9] (res:=_) (post:=_) (hS:=⟨(ue,uj,ug,ul,uA,uq,ui),hY1,rfl,rfl⟩)
def kNs:List Nod:=[⟨3,0,0,0,⟨false,0,5⟩,⟨false,0,0⟩,1,0,0⟩,⟨2,0,0,0,⟨false,0,0⟩,⟨false,0,0⟩,2,0,1⟩,⟨7,0,0,0,⟨true,0,0⟩,⟨false,0,0⟩,3,0,2⟩,⟨9,0,0,0,⟨false,0,0⟩,⟨false,0,0⟩,0,0,3⟩]
def kSh:List Dcl:=[⟨⟨#[120]⟩,0,0⟩]
def kGs:List Grf:=[⟨⟨#[97]⟩,0,1,kNs⟩]
def kAl:List Alc:=[⟨[⟨false,0⟩],0⟩]
def kF1:List Iln:=[⟨[1]⟩]
def kF0:List Iln:=[⟨[]⟩]
theorem Zp {α:Type} (P:α→Prop) (l:List α) (d:α) (h:∀ x∈l,P x) (hd:P d) (a:Nat):P (l.getD a d):=by
 rw [jb]
 cases e:l[a]? with
 | none=>exact hd
 | some x=>exact h x (jq e)
theorem kUw:UnitW kGs:=fun a b=>by
 refine Zp (fun g:Grf=>0≤(g.nodes.getD b ub).kind∧0≤(g.nodes.getD b ub).op∧(g.nodes.getD b ub).op≤255) kGs ub (fun x hx=>?_) ?_ a
 ·refine Zp (fun n:Nod=>0≤n.kind∧0≤n.op∧n.op≤255) x.nodes ub (fun n hn=>?_) W147 b
  simp only [kGs,ku,kg,or_false] at hx
  subst hx
  simp only [kNs,ku,kg,or_false] at hn
  rcases hn with rfl | rfl | rfl | rfl<;>decide
 ·exact Zp (fun n:Nod=>0≤n.kind∧0≤n.op∧n.op≤255) [] ub (fun n hn=>by cases hn) W147 b
theorem kSn:∀ j:Nat,(kSh.getD j ub).name.size≤maxLen:=fun j=>Zp (fun d:Dcl=>d.name.size≤maxLen) kSh ub (fun x hx=>by
 simp only [kSh,ku,kg,or_false] at hx
 subst hx;decide) W147 j
theorem kLn:∀ j:Nat,(([]:List Dcl).getD j ub).name.size≤maxLen:=fun j=>Zp (fun d:Dcl=>d.name.size≤maxLen) [] ub (fun x hx=>by cases hx) W147 j
theorem kGn:∀ j:Nat,(kGs.getD j ub).name.size≤maxLen:=fun j=>Zp (fun d:Grf=>d.name.size≤maxLen) kGs ub (fun x hx=>by
 simp only [kGs,ku,kg,or_false] at hx
 subst hx;decide) W147 j
theorem kAn:∀ j:Nat,(kAl.getD j ub).places.length≤9223372036854775807:=fun j=>Zp (fun d:Alc=>d.places.length≤9223372036854775807) kAl ub (fun x hx=>by
 simp only [kAl,ku,kg,or_false] at hx
 subst hx;decide) W147 j
theorem Qqb:∀ j:Nat,(kF1.getD j ub).l.length≤9223372036854775807:=fun j=>Zp (fun d:Iln=>d.l.length≤9223372036854775807) kF1 ub (fun x hx=>by
 simp only [kF1,ku,kg,or_false] at hx
 subst hx;decide) W147 j
theorem Qqc:∀ j:Nat,(kF0.getD j ub).l.length≤9223372036854775807:=fun j=>Zp (fun d:Iln=>d.l.length≤9223372036854775807) kF0 ub (fun x hx=>by
 simp only [kF0,ku,kg,or_false] at hx
 subst hx;decide) W147 j
theorem Qqd:(chkU kSh [] kGs).1=0:=by kernel_rfl
theorem Qol:rgtU kSh [] kGs kAl=(true,0):=by
 unfold rgtU
 rw [if_neg (by rw [Qqd];decide),if_neg W147,if_neg (by rw [show ((jB kGs.length).all fun t=>fitB (kGs.getD t ub).slots (kAl.getD t ub))=true by kernel_rfl];decide)]
 have:okF kGs kAl kGs.length=true:=by
  unfold okF okS
  simp [kGs,kAl,atL]
 rw [this]
theorem Qq4:fauU kSh [] kGs kF1 kAl 4=0:=by
 unfold fauU
 rw [Qol,if_neg (by rw [show safU kSh [] kGs kF1=0 by kernel_rfl];decide),if_neg W147,if_neg W147,if_neg W147]
theorem Qq5:fauU kSh [] kGs kF0 kAl 1=0:=by
 unfold fauU
 rw [Qol,if_neg (by rw [show safU kSh [] kGs kF0=0 by kernel_rfl];decide),if_neg W147,if_neg W147,if_neg W147]
def kCode:List Ins:=[⟨1,0,13,0,0,0,0,5,1⟩,⟨4,0,0,13,0,0,0,0,1⟩,⟨6,0,0,0,0,0,0,0,2⟩,⟨3,0,0,0,0,0,0,0,2⟩,⟨7,0,0,0,0,0,0,0,3⟩,⟨10,0,0,0,0,0,0,0,4⟩]
theorem Qq6:madU kSh [] kGs kF1 kAl 4=(0,[0],[⟨⟨#[97]⟩,kCode⟩],[⟨[0,2,4,5]⟩],1,0,4):=by
 unfold madU
 rw [Qq4,if_neg W147,if_neg W147,if_pos (by kernel_rfl)]
 kernel_rfl
theorem Qq7:∃ c,madU kSh [] kGs kF0 kAl 1=(0,[0],c,[⟨[0,2,3,4]⟩],1,0,1):=by
 refine ⟨corL kSh [] kGs kF0 kAl kGs.length,?_⟩
 unfold madU
 rw [Qq5,if_neg W147,if_neg W147,if_pos (by kernel_rfl)]
 kernel_rfl
def wi (a:List Int) (b:List Int):Lp (Int×Bool):=⟨fun x=>{ N:=26,fr:=[se 13 (C.i .i64 x.1),se 12 (C.i .i64 (↑a.length:Int)),se 4 (C.b x.2),se 0 (C.h 0),se 1 (C.h 1)],rg:=[IntRow a,IntRow b],wr:=[] },fun x=>0≤x.1∧x.1≤(a.length:Int)∧a.length=b.length∧∀ j:Nat,(j:Int)<x.1→a.getD j ub=b.getD j ub,fun x=>((a.length:Int)-x.1).toNat⟩
theorem Qom (a b:List Int):Ctr Tryd.prog 9 [IntRow a,IntRow b] [.c (.h 0),.c (.h 1)]
 (Det (.c (.b (decide (a=b)))) [.dead,.dead]):=by
 refine Ctr.intro [] Tryd.func9 K K ?_
 refine RunF.lens 0 (m:=a.length) K (fun hlens_0=>?_)
 refine Q0 (!decide ((↑a.length:Int)=(↑b.length:Int))) (fun h1=>?_) (fun h1=>?_)
 ·exact Q3 [] [0] [decide (a=b)=false] W111
 ·refine tz [4,0,1] ?_
  refine Q9 (wi a b) (((0:Int),false)) ⟨by omega,by omega,by simp at h1;omega,fun j hj=>absurd hj W31⟩ ?_
  rintro ⟨uf,uo⟩ hJ2
  dsimp only [wi] at hJ2
  refine tz [13,12,4,0,1] ?_
  refine Q0 (decide (uf<(↑a.length:Int))) (fun h3=>?_) (fun h3=>?_)
  ·refine tz [13,12,4,0,1] ?_
   refine Q0 (!decide (a.getD uf.toNat 0=b.getD uf.toNat 0)) (fun h4=>?_) (fun h4=>?_) (vc:=[(0:Int)≤uf,uf<(↑a.length:Int),uf.toNat<a.length,(0:Int)≤uf,uf<(↑b.length:Int),uf.toNat<b.length]) (hv:=W34)
   ·exact Q3 [] [0] [decide (a=b)=false] W111
   ·exact Q4 (wi a b) (uf,uo) ((uf+(1:Int),uo)) (by dsimp only [wi];(try simp only [decide_eq_true_eq] at *);omega) ⟨by omega,by have:=uc h3;omega,hJ2.2.2.1,Q8y hJ2.2.2.2 hJ2.1 (by show a.getD uf.toNat 0=b.getD uf.toNat 0;simpa using h4)⟩ (vc:=(zD uf)) (hv:=W34)
  ·exact Q3 [] [0] [decide (a=b)=true] W111
theorem Qdu {P:Program} {f:Nat} {pre:List Reg} {args:List SV} {S S':SV→List Reg→Prop} (h:Ctr P f pre args S) (hs:∀ r p,S r p→S' r p):Ctr P f pre args S':=fun ε w hr=>(h ε w hr).mono fun _ _ ⟨r,p,ε',h1,h2⟩=>⟨r,p,ε',hs r p h1,h2⟩
theorem Qon (X:Ext) (hX:TabX X):Ctr Tryd.prog 5 [Dcl.rowR kSh,Dcl.rowR [],Grf.rowR kGs,.froz X,Iln.rowR kF1,Alc.rowR kAl] [zcz,.c (.h 4),.c (.h 5),.c (.i .i64 4)]
 (Det (.tup [(true,[.h 6,.i .i64 1,.i .i64 0,.i .i64 4,.h 7]),zcE]) [.dead,.dead,.dead,.dead,.dead,.dead,WordOwn [0],Cor.ownR [⟨⟨#[97]⟩,kCode⟩],.dead]):=Qdu (Q6z X hX kSh [] kGs kSn kLn kGn kUw kF1 Qqb kAl kAn 4) fun r p ⟨y,h1,h2,h3⟩=>by
 rw [Qq6] at h1;subst h1;exact ⟨h2,h3⟩
theorem Qoo (X:Ext) (hX:TabX X):Ctr Tryd.prog 6 [Dcl.rowR kSh,Dcl.rowR [],Grf.rowR kGs,.froz X,Iln.rowR kF0,Alc.rowR kAl] [zcz,.c (.h 4),.c (.h 5)]
 (Det (.tup [(false,[.h 8]),zcE]) [.dead,.dead,.dead,.dead,.dead,.dead,.dead,.dead,Iln.ownR [⟨[0,2,3,4]⟩]]):=Qdu (Qbu X hX kSh [] kGs kSn kLn kGn kUw kF0 Qqc kAl kAn) fun r p ⟨y,h1,h2,h3⟩=>by
 obtain ⟨c,e⟩:=Qq7
 rw [e] at h1;subst h1;exact ⟨h2,h3⟩
abbrev zcV:Value:=jU false
abbrev zdi:Value:=jf ja (2:Int)
abbrev zdj:Value:=jf ja (3:Int)
theorem Q90 :Ctr Tryd.prog 8 [] []
 (Det (.agg [.h 0,.v (.slice none 0 0),.h 1]) [Dcl.ownR kSh,Grf.ownR kGs]):=by
 refine Ctr.intro [] Tryd.func8 K K ?_
 exact Qp7 [(2,(Dcl.tc ⟨⟨#[120]⟩,0,0⟩)),(3,(Grf.tc ⟨⟨#[97]⟩,0,1,kNs⟩))] [2,3] [0,1,2,3] [kSh.length=1,∀ (i:Nat),i<kSh.length→(kSh.getD i ub).tc=if i=0 then (Dcl.mk (ByteArray.mk #[(120:UInt8)]) (0:Int) (0:Int)).tc else fun x=>TC.any,kGs.length=1,∀ (i:Nat),i<kGs.length→(kGs.getD i ub).tc=if i=0 then (Grf.mk (ByteArray.mk #[(97:UInt8)]) (0:Int) (1:Int) kNs).tc else fun x=>TC.any] W51 (vc2:=[jF (ByteArray.mk #[(120:UInt8)])=jF (ByteArray.mk #[(120:UInt8)]),(0:Int)=(0:Int),(0:Int)=(0:Int),jF (ByteArray.mk #[(97:UInt8)])=jF (ByteArray.mk #[(97:UInt8)]),(0:Int)=(0:Int),(1:Int)=(1:Int),kNs.length=4,∀ (i:Nat),i<kNs.length→(kNs.getD i ub).tc=rowT 13 [zdm,zcx,zci,zci,zcV,zci,jf ja (5:Int),zcV,zci,zci,zdh,zci,zci,zdn,zcx,zci,zci,zcV,zci,zci,zcV,zci,zci,zdi,zci,zdh,zdo,zcx,zci,zci,jU true,zci,zci,zcV,zci,zci,zdj,zci,zdi,jf jz (9:Int),zcx,zci,zci,zcV,zci,zci,zcV,zci,zci,zci,zci,zdj] i]) (hv2:=W51)
abbrev zch:Ins:=((Cor.mk (ByteArray.mk #[(97:UInt8)]) kCode).code.getD 0 ub)
abbrev zcj:Ins:=((Cor.mk (ByteArray.mk #[(97:UInt8)]) kCode).code.getD 2 ub)
abbrev zc5:List Int:=[(0:Int),(2:Int),(3:Int),(4:Int)]
abbrev zcS:Plc:=Plc.mk false (0:Int)
theorem Qhi (X:Ext) (hX:TabX X):Ctr Tryd.prog 4 [.froz X] []
 (Det (.c (.b true)) [.dead]):=by
 refine Ctr.intro [] Tryd.func4 K K ?_
 refine Q2 J8 (Q90) [] ?_
 refine tz [12,1,0] ?_
 refine RunF.hereC (vc:=[]) K K trivial ?_
 refine Q25 1 ((Plc.tc ⟨false,0⟩)) ?_ (vc:=[false=false,(0:Int)=(0:Int)]) (hv:=W102)
 refine Q25 2 ((Alc.tc ⟨[⟨false,0⟩],0⟩)) ?_ (vc:=[[zcS].length=1,∀ (i:Nat),i < [zcS].length→([zcS].getD i ub).tc=if i=0 then (zcS).tc else fun x=>TC.any,(0:Int)=(0:Int)]) (hv:=W102)
 refine Q25 5 ((i64T 1)) ?_ (vc:=[(1:Int)=(1:Int)]) (hv:=W102)
 refine Q25 6 ((Iln.tc ⟨[1]⟩)) ?_ (vc:=[[(1:Int)].length=1,∀ (i:Nat),i < [(1:Int)].length→i64T ([(1:Int)].getD i 0)=if i=0 then i64T (1:Int) else fun x=>TC.any]) (hv:=W102)
 refine tz [15,14,12,1,0] ?_
 refine Q2 Q1d (Qon X (by first | assumption | decide)) [3,1000001,4,0,6,2] ?_ [0,2,3,6,7,8,9] [kSh.length=1,(0:Nat)=0,kGs.length=1,kF1.length=1,∀ (i:Nat),i<kF1.length→(kF1.getD i ub).tc=if i=0 then (Iln.mk [(1:Int)]).tc else fun x=>TC.any,kAl.length=1,∀ (i:Nat),i<kAl.length→(kAl.getD i ub).tc=if i=0 then (Alc.mk [zcS] (0:Int)).tc else fun x=>TC.any] W51
 refine tz [16,1,0] ?_
 refine Q2 J8 (Q90) [] ?_
 refine tz [20,3,2,1,0] ?_
 refine RunF.hereC (vc:=[]) K K trivial ?_
 refine Q25 13 ((fun _=>TC.val (zcF))) ?_ (vc:=[zcF=zcF]) (hv:=W102)
 refine Qk2 13 (fun _=>Iln.tc ⟨[]⟩) ?_ (vc:=[∀ (i j:Nat),i<1→j<1→(Iln.mk []).tc j=(if i=0 then fun x=>TC.val (zcF) else fun x=>TC.any) j∨(if i=0 then fun x=>TC.val (zcF) else fun x=>TC.any) j=TC.val (zcF)∧∃ ty s g,(Iln.mk []).tc j=TC.sub ty s 0 g]) (hv:=(by simp only [Conj];intro i j hi hj;obtain rfl:i=0:=Nat.lt_one_iff.1 hi;obtain rfl:j=0:=Nat.lt_one_iff.1 hj;exact .inr ⟨rfl,_,_,_,rfl⟩))
 refine Qae 13 ((Iln.ownR kF0)) ?_ (vc:=[kF0.length=1,∀ (i:Nat),i<kF0.length→(kF0.getD i ub).tc=(Iln.mk []).tc]) (hv:=(by simp only [Conj]<;>(repeat' apply jn)<;>first | trivial | rfl | (intro i hi;obtain rfl:i=0:=Nat.lt_one_iff.1 hi;rfl)))
 refine tz [22,21,20,3,2,0] ?_
 refine Q2 Q3k (Qoo X (by first | assumption | decide)) [11,1000001,12,0,13,2] ?_ [0,2,3,6,8,9] [kSh.length=1,(0:Nat)=0,kGs.length=1,kF0.length=1,kAl.length=1,∀ (i:Nat),i<kAl.length→(kAl.getD i ub).tc=if i=0 then (Alc.mk [zcS] (0:Int)).tc else fun x=>TC.any] W51
 refine tz [23,3,2,0] ?_
 refine Q0 (!decide ((0:Int)=(0:Int))||!decide ((0:Int)=(0:Int))||!decide ((1:Int)=(1:Int))) (fun h1=>?_) (fun h1=>?_) (vc:=[(!decide ((0:Int)=(0:Int))||!decide ((0:Int)=(0:Int))||!decide ((1:Int)=(1:Int)))=false→(0:Int)≤(0:Int),(!decide ((0:Int)=(0:Int))||!decide ((0:Int)=(0:Int))||!decide ((1:Int)=(1:Int)))=false→(0:Int)<(1:Int)]) (hv:=W34)
 ·exact Bool.noConfusion (show true=false from h1.symm.trans (show _=false from by kernel_rfl))
 ·refine Y3 8 (0) ?_ (vc:=[0<1]) (hv:=W34)
  refine tz [42,38,4,2,0] ?_
  refine Q0 (!decide ((6:Int)=(6:Int))||!decide ((4:Int)=(4:Int))||!decide ((1:Int)=(1:Int))) (fun h2=>?_) (fun h2=>?_) (vc:=[0=0,(!decide ((6:Int)=(6:Int))||!decide ((4:Int)=(4:Int))||!decide ((1:Int)=(1:Int)))=false→(0:Int)≤(0:Int),(!decide ((6:Int)=(6:Int))||!decide ((4:Int)=(4:Int))||!decide ((1:Int)=(1:Int)))=false→(0:Int)<(1:Int)]) (hv:=W34)
  ·exact Bool.noConfusion (show true=false from h2.symm.trans (show _=false from by kernel_rfl))
  ·refine Y3 16 (0) ?_ (vc:=[0<1]) (hv:=W34)
   refine tz [59,57,2,0] ?_
   refine Q2 Q4e (Qom ((Iln.mk zc5).l) zc5) [18,19] ?_ [0,2,3] [zc5.length=4,zc5.length=4,∀ (i:Nat),i < zc5.length→i64T (zc5.getD i 0)=rowT 1 [zci,zdi,zdj,jf ja (4:Int)] i] W51 (vc:=[0=0]) (hv:=W34)
   refine tz [62,57,2,0] ?_
   refine Q0 (!decide ((Iln.mk zc5).l=zc5)) (fun h3=>?_) (fun h3=>?_)
   ·exact Bool.noConfusion (show true=false from h3.symm.trans (show _=false from by kernel_rfl))
   ·exact Q3 (vc:=[(0:Int)≤(0:Int),(0:Int)<(1:Int),0=0,(0:Int)≤(0:Int),(0:Int)<(6:Int),0<6,(decide (zch.kind=(1:Int))&&(decide (zch.op=(0:Int))&&(decide (zch.d=(13:Int))&&(decide (zch.a=(0:Int))&&(decide (zch.b=(0:Int))&&(decide (zch.addr=(0:Int))&&(decide (zch.to=(0:Int))&&(decide (zch.word=(5:Int))&&(decide (zch.from_=(1:Int))&&true)))))))))=true→(0:Int)≤(2:Int),(decide (zch.kind=(1:Int))&&(decide (zch.op=(0:Int))&&(decide (zch.d=(13:Int))&&(decide (zch.a=(0:Int))&&(decide (zch.b=(0:Int))&&(decide (zch.addr=(0:Int))&&(decide (zch.to=(0:Int))&&(decide (zch.word=(5:Int))&&(decide (zch.from_=(1:Int))&&true)))))))))=true→(2:Int)<(6:Int),(decide (zch.kind=(1:Int))&&(decide (zch.op=(0:Int))&&(decide (zch.d=(13:Int))&&(decide (zch.a=(0:Int))&&(decide (zch.b=(0:Int))&&(decide (zch.addr=(0:Int))&&(decide (zch.to=(0:Int))&&(decide (zch.word=(5:Int))&&(decide (zch.from_=(1:Int))&&true)))))))))=true→2<6,(decide (zch.kind=(1:Int))&&(decide (zch.op=(0:Int))&&(decide (zch.d=(13:Int))&&(decide (zch.a=(0:Int))&&(decide (zch.b=(0:Int))&&(decide (zch.addr=(0:Int))&&(decide (zch.to=(0:Int))&&(decide (zch.word=(5:Int))&&(decide (zch.from_=(1:Int))&&true))))))))&&(decide (zcj.kind=(6:Int))&&(decide (zcj.op=(0:Int))&&(decide (zcj.d=(0:Int))&&(decide (zcj.a=(0:Int))&&(decide (zcj.b=(0:Int))&&(decide (zcj.addr=(0:Int))&&(decide (zcj.to=(0:Int))&&(decide (zcj.word=(0:Int))&&(decide (zcj.from_=(2:Int))&&true))))))))))=true→(0:Int)≤(5:Int),(decide (zch.kind=(1:Int))&&(decide (zch.op=(0:Int))&&(decide (zch.d=(13:Int))&&(decide (zch.a=(0:Int))&&(decide (zch.b=(0:Int))&&(decide (zch.addr=(0:Int))&&(decide (zch.to=(0:Int))&&(decide (zch.word=(5:Int))&&(decide (zch.from_=(1:Int))&&true))))))))&&(decide (zcj.kind=(6:Int))&&(decide (zcj.op=(0:Int))&&(decide (zcj.d=(0:Int))&&(decide (zcj.a=(0:Int))&&(decide (zcj.b=(0:Int))&&(decide (zcj.addr=(0:Int))&&(decide (zcj.to=(0:Int))&&(decide (zcj.word=(0:Int))&&(decide (zcj.from_=(2:Int))&&true))))))))))=true→(5:Int)<(6:Int),(decide (zch.kind=(1:Int))&&(decide (zch.op=(0:Int))&&(decide (zch.d=(13:Int))&&(decide (zch.a=(0:Int))&&(decide (zch.b=(0:Int))&&(decide (zch.addr=(0:Int))&&(decide (zch.to=(0:Int))&&(decide (zch.word=(5:Int))&&(decide (zch.from_=(1:Int))&&true))))))))&&(decide (zcj.kind=(6:Int))&&(decide (zcj.op=(0:Int))&&(decide (zcj.d=(0:Int))&&(decide (zcj.a=(0:Int))&&(decide (zcj.b=(0:Int))&&(decide (zcj.addr=(0:Int))&&(decide (zcj.to=(0:Int))&&(decide (zcj.word=(0:Int))&&(decide (zcj.from_=(2:Int))&&true))))))))))=true→5<6]) (hv:=W34)
def u4 (sh:List Dcl) (lk:List Dcl) (gs:List Grf) (t:Int) (a:Int):Lp (Int×Bool):=⟨fun x=>{ N:=42,fr:=[se 16 (C.i .i64 x.1),se 15 (C.i .i64 (↑(gs.getD t.toNat ub).nodes.length:Int)),se 14 (C.h 3),se 6 (C.b x.2),se 3 (C.p 4 0),se 2 (C.i .i64 a)],rg:=[rowOf 3 (·.tc) sh,rowOf 3 (·.tc) lk,Reg.row 4 gs.length (fun i=>(gs.getD i ub).tc) (some (t.toNat,[C.v (jF (gs.getD t.toNat ub).name),C.i .i64 (gs.getD t.toNat ub).locals,C.i .i64 (gs.getD t.toNat ub).slots,C.h 3])),zt gs t,zP],wr:=[] },fun x=>0≤x.1∧∀ j:Nat,j<x.1.toNat→nmB (sh.length:Int) a ((gs.getD t.toNat ub).nodes.getD j ub)=false,fun x=>(((gs.getD t.toNat ub).nodes.length:Int)-x.1).toNat⟩
abbrev zbl (y0:List Dcl) (y1:Int) (y2:List Grf) (y3:Int):List Prop:=[nmU (↑y0.length:Int) y1 (y2.getD y3.toNat ub).nodes=true]
theorem Qdv (sh lk:List Dcl) (gs:List Grf) (fs:List Iln) (al:List Alc) (bf:Int) (hM:FauQ sh lk gs fs al bf) (hw:UnitW gs) (t a:Int) (ht:0≤t∧t<(gs.length:Int)):Ctr Tryd.prog 7 (zbK sh lk gs) [.agg [.h 0,.h 1,.h 2],.c (.i .i64 t),.c (.i .i64 a)]
 (Det (.c (.b (nmU (sh.length:Int) a (gs.getD t.toNat ub).nodes))) zbQ):=by
 refine Ctr.intro [] Tryd.func7 K K ?_
 refine Y3 2 (t.toNat) ?_ (vc:=(zbX t gs)) (hv:=W28)
 refine Q9 (u4 sh lk gs t a) (((0:Int),false)) (⟨jA _,fun j hj=>absurd hj W149⟩) ?_ (vc:=(zaD t gs)) (hv:=W28)
 rintro ⟨ue,uj⟩ hJ1
 dsimp only [u4] at hJ1
 refine tz [16,15,14,6,3,2] ?_
 refine Q0 (decide (ue<(↑(gs.getD t.toNat ub).nodes.length:Int))) (fun h2=>?_) (fun h2=>?_)
 ·refine tz [16,15,14,6,3,2] ?_
  refine Q0 (decide (((gs.getD t.toNat ub).nodes.getD ue.toNat ub).kind=(2:Int))) (fun h3=>?_) (fun h3=>?_) (vc:=(zaX ue gs t)) (hv:=W28)
  ·refine tz [22,21,8,16,15,14,6,3,2] ?_
   refine Q0 (decide (((gs.getD t.toNat ub).nodes.getD ue.toNat ub).thing=a)) (fun h4=>?_) (fun h4=>?_)
   ·exact Q3 [] [0] (zbl sh a gs t) W64
   ·exact Q4 (u4 sh lk gs t a) (ue,uj) ((ue+(1:Int),uj)) W142 (Jq hJ1.1 hJ1.2 W109) (vc:=(zD ue)) (hv:=W28)
  ·refine tz [22,21,8,16,15,14,6,3,2] ?_
   refine Q0 (decide (((gs.getD t.toNat ub).nodes.getD ue.toNat ub).kind=(3:Int))) (fun h4=>?_) (fun h4=>?_)
   ·refine tz [22,21,8,16,15,14,6,3,2] ?_
    refine Q0 (decide (((gs.getD t.toNat ub).nodes.getD ue.toNat ub).thing=a)) (fun h5=>?_) (fun h5=>?_)
    ·exact Q3 [] [0] (zbl sh a gs t) W64
    ·exact Q4 (u4 sh lk gs t a) (ue,uj) ((ue+(1:Int),uj)) W142 (Jq hJ1.1 hJ1.2 W109) (vc:=(zD ue)) (hv:=W28)
   ·refine tz [22,21,8,16,15,14,6,3,2] ?_
    refine Q0 (decide (((gs.getD t.toNat ub).nodes.getD ue.toNat ub).kind=(4:Int))) (fun h5=>?_) (fun h5=>?_)
    ·refine tz [8,16,15,14,6,3,2] ?_
     refine Q0 (decide (((gs.getD t.toNat ub).nodes.getD ue.toNat ub).thing=a)) (fun h6=>?_) (fun h6=>?_)
     ·exact Q3 [] [0] (zbl sh a gs t) W64
     ·exact Q4 (u4 sh lk gs t a) (ue,uj) ((ue+(1:Int),uj)) W142 (Jq hJ1.1 hJ1.2 W109) (vc:=(zD ue)) (hv:=W28)
    ·refine tz [21,8,16,15,14,6,3,2] ?_
     refine Q0 (decide (((gs.getD t.toNat ub).nodes.getD ue.toNat ub).kind=(5:Int))) (fun h6=>?_) (fun h6=>?_)
     ·refine tz [30,8,16,15,14,6,3,2] ?_
      refine Q0 (decide (((gs.getD t.toNat ub).nodes.getD ue.toNat ub).thing+(↑sh.length:Int)=a)) (fun h7=>?_) (fun h7=>?_) (vc:=[Fits ja (((gs.getD t.toNat ub).nodes.getD ue.toNat ub).thing+(↑sh.length:Int))]) (hv:=W28)
      ·exact Q3 [] [0] (zbl sh a gs t) W64
      ·exact Q4 (u4 sh lk gs t a) (ue,uj) ((ue+(1:Int),uj)) W142 (Jq hJ1.1 hJ1.2 W109) (vc:=(zD ue)) (hv:=W28)
     ·refine tz [30,21,8,16,15,14,6,3,2] ?_
      refine Q0 (decide (((gs.getD t.toNat ub).nodes.getD ue.toNat ub).kind=(6:Int))) (fun h7=>?_) (fun h7=>?_)
      ·refine tz [8,16,15,14,6,3,2] ?_
       refine Q0 (decide (((gs.getD t.toNat ub).nodes.getD ue.toNat ub).thing+(↑sh.length:Int)=a)) (fun h8=>?_) (fun h8=>?_) (vc:=[Fits ja (((gs.getD t.toNat ub).nodes.getD ue.toNat ub).thing+(↑sh.length:Int))]) (hv:=W28)
       ·exact Q3 [] [0] (zbl sh a gs t) W64
       ·exact Q4 (u4 sh lk gs t a) (ue,uj) ((ue+(1:Int),uj)) W142 (Jq hJ1.1 hJ1.2 W109) (vc:=(zD ue)) (hv:=W28)
      ·exact Q4 (u4 sh lk gs t a) (ue,uj) ((ue+(1:Int),uj)) W142 (Jq hJ1.1 hJ1.2 W109) (vc:=(zD ue)) (hv:=W28)
 ·exact Q3 [] [0] [nmU (↑sh.length:Int) a (gs.getD t.toNat ub).nodes=false] W64
abbrev zbG (y0 y1:List Dcl):En:=se 11 (C.i .i64 ((↑y0.length:Int)+(↑y1.length:Int)))
abbrev zbH (y0 y1 y2:Int):Reg:=Reg.box 32 [C.h 7,C.i .i64 y0,C.i .i64 y1,C.i .i64 y2,C.h 8]
def wj (X:Ext) (sh:List Dcl) (lk:List Dcl) (gs:List Grf) (fs:List Iln) (al:List Alc) (uo:List Int) (uz:List Cor) (uT:Int) (uU:Int) (uV:Int) (uw:List Iln):Lp (Int×Int×Bool):=⟨fun x=>{ N:=158,fr:=[se 57 (C.i .i64 x.1),se 56 (C.i .i64 (↑uz.length:Int)),se 55 (C.h 8),se 12 (C.i .i64 x.2.1),zbG sh lk,se 9 (C.h 13),se 6 (C.b x.2.2),se 3 (C.p 6 0),se 1 (C.h 4),se 2 (C.h 5)],rg:=[rowOf 3 (·.tc) sh,rowOf 3 (·.tc) lk,rowOf 4 (·.tc) gs,Reg.froz X,rowOf 1 (·.tc) fs,rowOf 2 (·.tc) al,zP,WordOwn uo,ownOf 40 2 (·.tc) uz,Reg.dead,zbH uT uU uV,Reg.dead,Reg.dead,ownOf 49 1 (·.tc) uw],wr:=[] },fun x=>OwnQ.B sh lk al x.1 x.2.1,fun x=>((gs.length:Int)-x.1).toNat⟩
abbrev zbu (y0:List Cor) (y1:Int):Reg:=Reg.own 40 2 y0.length (fun i=>(y0.getD i ub).tc) (some (y1.toNat,[C.v (jF (y0.getD y1.toNat ub).name),C.h 14]))
abbrev zb3 (y0:List Cor) (y1:Int):Reg:=Reg.own 44 9 (y0.getD y1.toNat ub).code.length (fun i=>((y0.getD y1.toNat ub).code.getD i ub).tc) none
def u6 (X:Ext) (sh:List Dcl) (lk:List Dcl) (gs:List Grf) (fs:List Iln) (al:List Alc) (uo:List Int) (uz:List Cor) (uT:Int) (uU:Int) (uV:Int) (uw:List Iln) (uk:Int) (uy:Int) (uB:Bool):Lp (Int×Int×Bool):=⟨fun x=>{ N:=158,fr:=[se 65 (C.i .i64 x.1),se 64 (C.i .i64 (↑(uz.getD uk.toNat ub).code.length:Int)),se 63 (C.h 14),se 15 (C.i .i64 x.2.1),se 13 (C.i .i64 uk),se 14 (C.p 15 0),se 57 (C.i .i64 uk),se 56 (C.i .i64 (↑uz.length:Int)),se 55 (C.h 8),se 12 (C.i .i64 uy),zbG sh lk,se 9 (C.h 13),se 6 (C.b x.2.2),se 3 (C.p 6 0),se 1 (C.h 4),se 2 (C.h 5)],rg:=[rowOf 3 (·.tc) sh,rowOf 3 (·.tc) lk,rowOf 4 (·.tc) gs,Reg.froz X,rowOf 1 (·.tc) fs,rowOf 2 (·.tc) al,zP,WordOwn uo,zbu uz uk,Reg.dead,zbH uT uU uV,Reg.dead,Reg.dead,ownOf 49 1 (·.tc) uw,zb3 uz uk,Reg.box 40 [C.v (jF (uz.getD uk.toNat ub).name),C.h 14]],wr:=[] },fun x=>OwnQ.F (uz.getD uk.toNat ub).code x.1 x.2.1,fun x=>(((uz.getD uk.toNat ub).code.length:Int)-x.1).toNat⟩
def wk (X:Ext) (sh:List Dcl) (lk:List Dcl) (gs:List Grf) (fs:List Iln) (al:List Alc) (uo:List Int) (uz:List Cor) (uT:Int) (uU:Int) (uV:Int) (uw:List Iln) (uk:Int) (uy:Int) (uW:Bool):Lp (Int×Bool):=⟨fun x=>{ N:=158,fr:=[se 132 (C.i .i64 x.1),se 131 (C.i .i64 (↑(fs.getD uk.toNat ub).l.length:Int)),se 130 (C.h 16),se 13 (C.i .i64 uk),se 14 (C.p 15 0),se 57 (C.i .i64 uk),se 56 (C.i .i64 (↑uz.length:Int)),se 55 (C.h 8),se 12 (C.i .i64 uy),zbG sh lk,se 9 (C.h 13),se 6 (C.b x.2),se 3 (C.p 6 0),se 1 (C.h 4),se 2 (C.h 5)],rg:=[rowOf 3 (·.tc) sh,rowOf 3 (·.tc) lk,rowOf 4 (·.tc) gs,Reg.froz X,Reg.row 1 fs.length (fun i=>(fs.getD i ub).tc) (some (uk.toNat,[C.h 16])),rowOf 2 (·.tc) al,zP,WordOwn uo,zbu uz uk,Reg.dead,zbH uT uU uV,Reg.dead,Reg.dead,ownOf 49 1 (·.tc) uw,zb3 uz uk,Reg.box 40 [C.v (jF (uz.getD uk.toNat ub).name),C.h 14],zbF fs uk],wr:=[] },fun x=>0≤x.1,fun x=>(((fs.getD uk.toNat ub).l.length:Int)-x.1).toNat⟩
abbrev zag (y0:Int) (y1:List Cor) (y2 y3:Int) (y4:List Alc):List Prop:=[decide (y0≤((y1.getD y2.toNat ub).code.getD y3.toNat ub).addr)=true→Fits ja (((y1.getD y2.toNat ub).code.getD y3.toNat ub).addr-y0),decide (y0≤((y1.getD y2.toNat ub).code.getD y3.toNat ub).addr)=true→(0:Int)≤y2,decide (y0≤((y1.getD y2.toNat ub).code.getD y3.toNat ub).addr)=true→y2<(↑y4.length:Int),decide (y0≤((y1.getD y2.toNat ub).code.getD y3.toNat ub).addr)=true→y2.toNat<y4.length]
theorem Qop (X:Ext) (hX:TabX X) (sh lk:List Dcl) (gs:List Grf) (hs:zF sh) (hl:zF lk) (hg:zab gs) (hw:UnitW gs) (fs:List Iln) (hfs:zaC fs) (al:List Alc) (hp:za6 al):Ctr Tryd.prog 3 (zbz sh lk gs X fs al) [.agg [.h 0,.h 1,.h 2],.c (.h 4),.c (.h 5)]
 (Det (.c (.b true)) [.dead,.dead,.dead,.dead,.dead,.dead]):=by
 refine Ctr.intro [] Tryd.func3 K K ?_
 refine Q2 Q3l (Qhi X W48) [3] ?_
 refine tz [21,6,3,1,2] ?_
 refine Q0 (!true) (fun h1=>?_) (fun h1=>?_)
 ·exact absurd h1 W80
 ·refine tz [6,3,1,2] ?_
  refine Ql Q1d (Q6z X W48 sh lk gs W48 W48 W48 W48 fs W48 al W48 1) [] ?_
  rintro ⟨uf,uo,uz,uS,uT,uU,uV⟩ hY2
  try dsimp only at hY2
  refine tz [27,6,3,1,2] ?_
  refine Ql Q3k (Qbu X W48 sh lk gs W48 W48 W48 W48 fs W48 al W48) [] ?_
  rintro ⟨uh,um,uu,uw,uJ,uG,uL⟩ hY3
  try dsimp only at hY3
  refine tz [34,8,7,6,3,1,2] ?_
  refine Q0 (!decide (uf=(0:Int))||!decide (uh=(0:Int))) (fun h4=>?_) (fun h4=>?_)
  ·exact Q3 [] [0] [true=decide (uf=uh)] (by simp only [Conj];first | exact Qo1 hY2 hY3 | trivial | rfl)
  ·have hM:OwnQ sh lk gs fs al uz uw:=Qo0 hY2 hY3 h4
   refine tz [9,7,6,3,1,2] ?_
   refine Q9 (wj X sh lk gs fs al uo uz uT uU uV uw) (((0:Int),(↑sh.length:Int)+(↑lk.length:Int),false)) OwnQ.start ?_ (vc:=[Fits ja ((↑sh.length:Int)+(↑lk.length:Int))]) (hv:=W15)
   rintro ⟨uk,uy,uB⟩ hJ5
   dsimp only [wj] at hJ5
   refine tz [57,56,55,12,11,9,6,3,1,2] ?_
   refine Q0 (decide (uk<(↑uz.length:Int))) (fun h6=>?_) (fun h6=>?_)
   ·refine Y3 8 (uk.toNat) ?_ (vc:=[uk.toNat<uz.length]) (hv:=W15)
    refine tz [57,56,55,12,11,9,6,3,1,2] ?_
    refine Q9 (u6 X sh lk gs fs al uo uz uT uU uV uw uk uy uB) (((0:Int),(0:Int),uB)) (OwnQ.F0 _) ?_ (vc:=[(0:Int)≤uk,uk<(↑uz.length:Int),uk.toNat=uk.toNat]) (hv:=W15)
    rintro ⟨uE,uO,uW⟩ hJ7
    dsimp only [u6] at hJ7
    refine tz [65,64,63,15,13,14,57,56,55,12,11,9,6,3,1,2] ?_
    refine Q0 (decide (uE<(↑(uz.getD uk.toNat ub).code.length:Int))) (fun h8=>?_) (fun h8=>?_)
    ·refine tz [65,64,63,15,13,14,57,56,55,12,11,9,6,3,1,2] ?_
     refine Q0 (decide (((uz.getD uk.toNat ub).code.getD uE.toNat ub).kind=(6:Int))) (fun h9=>?_) (fun h9=>?_) (vc:=[(0:Int)≤uE,uE<(↑(uz.getD uk.toNat ub).code.length:Int),uE.toNat<(uz.getD uk.toNat ub).code.length]) (hv:=W15)
     ·refine tz [17,65,64,63,15,13,14,57,56,55,12,11,9,6,3,1,2] ?_
      refine Q0 (!decide (((uz.getD uk.toNat ub).code.getD uE.toNat ub).kind=(3:Int))&&!decide (((uz.getD uk.toNat ub).code.getD uE.toNat ub).kind=(4:Int))&&!decide (((uz.getD uk.toNat ub).code.getD uE.toNat ub).kind=(5:Int))) (fun h10=>?_) (fun h10=>?_) (vc:=(zD uO)) (hv:=W15)
      ·exact Q4 (u6 X sh lk gs fs al uo uz uT uU uV uw uk uy uB) (uE,uO,uW) ((uE+(1:Int),uO+(1:Int),uW)) W155 W119 (vc:=(zD uE)) (hv:=W15)
      ·refine tz [15,17,65,64,63,13,14,57,56,55,12,11,9,6,3,1,2] ?_
       refine tG Ja (Qdv sh lk gs fs al 1 W48 W48 uk (((uz.getD uk.toNat ub).code.getD uE.toNat ub).addr) W48) [] ?_ (vc:=(zag uy uz uk uE al)) (hv:=W15)
       refine tz [115,110,105,15,65,64,63,13,14,57,56,55,12,11,9,6,3,1,2] ?_
       refine Q0 (!(decide (uy≤((uz.getD uk.toNat ub).code.getD uE.toNat ub).addr)&&decide (((uz.getD uk.toNat ub).code.getD uE.toNat ub).addr-uy<(al.getD uk.toNat ub).cells))&&(decide ((↑sh.length:Int)+(↑lk.length:Int)≤((uz.getD uk.toNat ub).code.getD uE.toNat ub).addr)||!nmU (↑sh.length:Int) ((uz.getD uk.toNat ub).code.getD uE.toNat ub).addr (gs.getD uk.toNat ub).nodes)) (fun h11=>?_) (fun h11=>?_)
       ·exact (show False from by exact hM.bad hw hJ5 h6 hJ7.1 h8 h10 h11).elim
       ·exact Q4 (u6 X sh lk gs fs al uo uz uT uU uV uw uk uy uB) (uE,uO,uW) ((uE+(1:Int),uO+(1:Int),uW)) W155 W119 (vc:=(zD uE)) (hv:=W15)
     ·refine tz [17,65,64,63,15,13,14,57,56,55,12,11,9,6,3,1,2] ?_
      refine Q0 (!decide (((uz.getD uk.toNat ub).code.getD uE.toNat ub).kind=(3:Int))&&!decide (((uz.getD uk.toNat ub).code.getD uE.toNat ub).kind=(4:Int))&&!decide (((uz.getD uk.toNat ub).code.getD uE.toNat ub).kind=(5:Int))) (fun h10=>?_) (fun h10=>?_)
      ·exact Q4 (u6 X sh lk gs fs al uo uz uT uU uV uw uk uy uB) (uE,uO,uW) ((uE+(1:Int),uO,uW)) W155 W119 (vc:=(zD uE)) (hv:=W15)
      ·refine tz [17,65,64,63,15,13,14,57,56,55,12,11,9,6,3,1,2] ?_
       refine tG Ja (Qdv sh lk gs fs al 1 W48 W48 uk (((uz.getD uk.toNat ub).code.getD uE.toNat ub).addr) W48) [] ?_ (vc:=(zag uy uz uk uE al)) (hv:=W15)
       refine tz [115,110,105,65,64,63,15,13,14,57,56,55,12,11,9,6,3,1,2] ?_
       refine Q0 (!(decide (uy≤((uz.getD uk.toNat ub).code.getD uE.toNat ub).addr)&&decide (((uz.getD uk.toNat ub).code.getD uE.toNat ub).addr-uy<(al.getD uk.toNat ub).cells))&&(decide ((↑sh.length:Int)+(↑lk.length:Int)≤((uz.getD uk.toNat ub).code.getD uE.toNat ub).addr)||!nmU (↑sh.length:Int) ((uz.getD uk.toNat ub).code.getD uE.toNat ub).addr (gs.getD uk.toNat ub).nodes)) (fun h11=>?_) (fun h11=>?_)
       ·exact (show False from by exact hM.bad hw hJ5 h6 hJ7.1 h8 h10 h11).elim
       ·exact Q4 (u6 X sh lk gs fs al uo uz uT uU uV uw uk uy uB) (uE,uO,uW) ((uE+(1:Int),uO,uW)) W155 W119 (vc:=(zD uE)) (hv:=W15)
    ·refine Y3 4 (uk.toNat) ?_ (vc:=[uk.toNat<fs.length]) (hv:=W15)
     refine tz [65,64,63,15,13,14,57,56,55,12,11,9,6,3,1,2] ?_
     refine Q0 (!decide (uO=(↑(fs.getD uk.toNat ub).l.length:Int))) (fun h9=>?_) (fun h9=>?_) (vc:=(zbq uk fs)) (hv:=W15)
     ·exact (show False from by have q:=uc h6;have l:=hM.len;have z:=hM.F_done hw hJ5.1 W31 hJ7 (ud h8);rw [z] at h9;simp at h9).elim
     ·refine tz [13,14,57,56,55,12,11,9,6,3,1,2] ?_
      refine Q9 (wk X sh lk gs fs al uo uz uT uU uV uw uk uy uW) (((0:Int),uW)) (jA _) ?_ (vc:=(zbq uk fs)) (hv:=W15)
      rintro ⟨uQ,wn⟩ hJ10
      dsimp only [wk] at hJ10
      refine tz [132,131,130,13,14,57,56,55,12,11,9,6,3,1,2] ?_
      refine Q0 (decide (uQ<(↑(fs.getD uk.toNat ub).l.length:Int))) (fun h11=>?_) (fun h11=>?_)
      ·refine Y3 13 (uk.toNat) ?_ (vc:=[uk.toNat<uw.length]) (hv:=W15)
       refine tz [132,131,130,13,14,57,56,55,12,11,9,6,3,1,2] ?_
       refine Q0 (!decide (((uz.getD uk.toNat ub).code.getD ((uw.getD uk.toNat ub).l.getD ((fs.getD uk.toNat ub).l.getD uQ.toNat 0).toNat (0:Int)).toNat ub).kind=(6:Int))) (fun h12=>?_) (fun h12=>?_) (vc:=[(0:Int)≤uQ,uQ<(↑(fs.getD uk.toNat ub).l.length:Int),uQ.toNat<(fs.getD uk.toNat ub).l.length,(0:Int)≤uk,uk<(↑uw.length:Int),uk.toNat=uk.toNat,(0:Int)≤(fs.getD uk.toNat ub).l.getD uQ.toNat 0,(fs.getD uk.toNat ub).l.getD uQ.toNat 0<(↑(uw.getD uk.toNat ub).l.length:Int),((fs.getD uk.toNat ub).l.getD uQ.toNat 0).toNat<(uw.getD uk.toNat ub).l.length,(0:Int)≤(uw.getD uk.toNat ub).l.getD ((fs.getD uk.toNat ub).l.getD uQ.toNat 0).toNat (0:Int),(uw.getD uk.toNat ub).l.getD ((fs.getD uk.toNat ub).l.getD uQ.toNat 0).toNat (0:Int)<(↑(uz.getD uk.toNat ub).code.length:Int),((uw.getD uk.toNat ub).l.getD ((fs.getD uk.toNat ub).l.getD uQ.toNat 0).toNat (0:Int)).toNat<(uz.getD uk.toNat ub).code.length]) (hv:=W15)
       ·exact (show False from by have q:=uc h6;have l:=hM.len;have f:=hM.fence hJ5.1 W31 hJ10 (uc h11);rw [f.2.2.2] at h12;simp at h12).elim
       ·exact Q3g (wk X sh lk gs fs al uo uz uT uU uV uw uk uy uW) (uQ,wn) ((uQ+(1:Int),wn)) (by dsimp only [wk];have q:=uc h11;have z:0≤uQ:=hJ10;omega) (by show 0≤uQ+1;have z:0≤uQ:=hJ10;omega) [(13,(Iln.tc (uw.getD uk.toNat ub)))] [] [22] [∀ (i:Nat),i<uw.length→(uw.getD i ub).tc=if i=uk.toNat then (uw.getD uk.toNat ub).tc else (uw.getD i ub).tc] W74 (vc:=(zD uQ)) (hv:=W15) (vc2:=[(uw.getD uk.toNat ub).l.length=(uw.getD uk.toNat ub).l.length,∀ (i:Nat),i<(uw.getD uk.toNat ub).l.length→i64T ((uw.getD uk.toNat ub).l.getD i 0)=i64T ((uw.getD uk.toNat ub).l.getD i 0)]) (hv2:=W154)
      ·exact Q3g (wj X sh lk gs fs al uo uz uT uU uV uw) (uk,uy,uB) ((uk+(1:Int),uy+(al.getD uk.toNat ub).cells,wn)) (by dsimp only [wj];have q:=uc h6;have l:=hM.len;have z0:=hJ5.1;omega) (hM.next hJ5 (by have q:=uc h6;have l:=hM.len;have z0:=hJ5.1;omega)) [(8,(Cor.tc (uz.getD uk.toNat ub)))] [] [14] [∀ (i:Nat),i<uz.length→(uz.getD i ub).tc=if i=uk.toNat then (uz.getD uk.toNat ub).tc else (uz.getD i ub).tc] W74 (vc:=[(0:Int)≤uk,uk<(↑al.length:Int),uk.toNat<al.length,Fits ja (uy+(al.getD uk.toNat ub).cells),Fits ja (uk+(1:Int))]) (hv:=W15) (vc2:=[jF (uz.getD uk.toNat ub).name=jF (uz.getD uk.toNat ub).name,(uz.getD uk.toNat ub).code.length=(uz.getD uk.toNat ub).code.length,∀ (i:Nat),i<(uz.getD uk.toNat ub).code.length→((uz.getD uk.toNat ub).code.getD i ub).tc=((uz.getD uk.toNat ub).code.getD i ub).tc]) (hv2:=W154)
   ·exact Q3
section
inductive Sh where
 | num (k:IntKind)
 | str
 | boo
 | sl (e size:Nat) (el:List Sh)
mutual
/-- the cells of a type -/
inductive ShT (P:Program):Nat→List Sh→Prop
 | int {t:Nat} {k:IntKind} (ht:P.underlying t=some (.int k)):ShT P t [.num k]
 | str {t:Nat} (ht:P.underlying t=some .string):ShT P t [.str]
 | bool {t:Nat} (ht:P.underlying t=some .bool):ShT P t [.boo]
 | slice {t e:Nat} {el:List Sh} (ht:P.underlying t=some (.slice e)) (hc:P.cellsOf e=el.length) (hp:0<el.length) (h:ShT P e el):ShT P t [.sl e el.length el]
 | struct {t:Nat} {fs:Array Field} {ss:List Sh} (ht:P.underlying t=some (.struct fs)) (hc:P.cellsOf t=ss.length) (h:ShF P 0 fs.toList ss):ShT P t ss
/-- .. of fields,the first of which lies at cell i -/
inductive ShF (P:Program):Nat→List Field→List Sh→Prop
 | nil {i:Nat}:ShF P i [] []
 | cons {i:Nat} {f:Field} {fs:List Field} {s1 s2:List Sh} (ho:f.offset=i) (hc:P.cellsOf f.type=s1.length) (h:ShT P f.type s1) (r:ShF P (i+s1.length) fs s2):ShF P i (f::fs) (s1++s2)
end
inductive ShC:Sh→TC→Prop
 | num {k:IntKind} (n:Int) (h:(Lit.int k n).wf=true):ShC (.num k) (.val (.int k n))
 | str (x:ByteArray) (h:x.size≤maxLen):ShC .str (.val (.string x))
 | boo (x:Bool):ShC .boo (.val (.bool x))
 | sl {e size:Nat} {el:List Sh} (n:Nat) (g:Nat→List TC) (hn:n≤maxLen) (hl:∀ i,i<n→(g i).length=el.length) (h:∀ (i j:Nat) (s:Sh) (c:TC),i<n→el[j]?=some s→(g i)[j]?=some c→ShC s c) :
    ShC (.sl e size el) (.sub e size n (fun i=>nthT (g i)))
def ShL (ss:List Sh) (tl:List TC):Prop:=tl.length=ss.length∧∀ (j:Nat) (s:Sh) (c:TC),ss[j]?=some s→tl[j]?=some c→ShC s c
def inW (w:World) (b:Nat):Prop:=b<w.heap.size
def Holds (w:World) (tl:List TC) (cs:List Value):Prop:=∀ (j:Nat) (c:TC) (u:Value),tl[j]?=some c→cs[j]?=some u→RdC w (inW w) c u
theorem Q5r {tl:List TC} {j:Nat} {c:TC} (h:tl[j]?=some c):nthT tl j=c:=by
 unfold nthT;rw [Qo,h]
theorem Qf2 {w:World} {a:Addr} {u:Value} (h:w.cell? a=some u):a.block<w.heap.size:=by
 rcases kO a.block w.heap.size with h1 | h1
 ·exact h1
 ·unfold World.cell? at h
  rw [Array.getElem?_eq_none h1] at h
  simp at h
section
variable {H:Type} {enc:TypeId×Value→H} {P:Program} {w:World}
mutual
theorem Qf3:∀ {t:Nat} {ss:List Sh},ShT P t ss→∀ {n:Nat} {cs:List Value} {x:DataW H×List MemPlace},DataW.trod enc P w 0 (fun _=>true) true n t cs=some x →
 cs.length=ss.length∧∃ tl:List TC,ShL ss tl∧Holds w tl cs
 | t,_,(.int (k:=k) ht),n,cs,x,h=>by
   obtain ⟨m,rfl,_,hw⟩:=DataW.trod_int ht h
   refine ⟨rfl,[.val (.int k m)],⟨rfl,fun j s c hs hc=>?_⟩,fun j c u hc hu=>?_⟩
   ·match j,hs,hc with
    | 0,hs,hc=>cases hs;cases hc;exact .num m hw
    | j+1,hs,_=>simp at hs
   ·match j,hc,hu with
    | 0,hc,hu=>cases hc;cases hu;rfl
    | j+1,hc,_=>simp at hc
 | t,_,(.str ht),n,cs,x,h=>by
   obtain ⟨m,rfl,_,hw⟩:=DataW.trod_string ht h
   refine ⟨rfl,[.val (.string m)],⟨rfl,fun j s c hs hc=>?_⟩,fun j c u hc hu=>?_⟩
   ·match j,hs,hc with
    | 0,hs,hc=>cases hs;cases hc;exact .str m hw
    | j+1,hs,_=>simp at hs
   ·match j,hc,hu with
    | 0,hc,hu=>cases hc;cases hu;rfl
    | j+1,hc,_=>simp at hc
 | t,_,(.bool ht),n,cs,x,h=>by
   obtain ⟨m,rfl,_⟩:=DataW.trod_bool ht h
   refine ⟨rfl,[.val (.bool m)],⟨rfl,fun j s c hs hc=>?_⟩,fun j c u hc hu=>?_⟩
   ·match j,hs,hc with
    | 0,hs,hc=>cases hs;cases hc;exact .boo m
    | j+1,hs,_=>simp at hs
   ·match j,hc,hu with
    | 0,hc,hu=>cases hc;cases hu;rfl
    | j+1,hc,_=>simp at hc
 | t,_,(.slice (e:=e) (el:=el) ht hce hpos he),n,cs,x,h=>by
   have key:∀ (v:Value) (m:Nat) (g:Nat→List TC),m≤maxLen→(∀ i,i<m→ShL el (g i))→RdC w (inW w) (.sub e el.length m fun i=>nthT (g i)) v →
    ([v]:List Value).length=([.sl e el.length el]:List Sh).length∧∃ tl:List TC,ShL [.sl e el.length el] tl∧Holds w tl [v]:=fun v m g hn hg hv=>by
    refine ⟨rfl,[.sub e el.length m fun i=>nthT (g i)],⟨rfl,fun j s c hs hc=>?_⟩,fun j c u hc hu=>?_⟩
    ·match j,hs,hc with
     | 0,hs,hc=>cases hs;cases hc;exact .sl m g hn (fun i hi=>(hg i hi).1) (fun i j s c hi h1 h2=>(hg i hi).2 j s c h1 h2)
     | j+1,hs,_=>simp at hs
    ·match j,hc,hu with
     | 0,hc,hu=>cases hc;cases hu;exact hv
     | j+1,hc,_=>simp at hc
   rcases Go.Deep.open_slice ht h with ⟨rfl,_⟩ | ⟨a,len,cap,m,n',D,Pl,rfl,_,hlc,hcm,hm,_,hel⟩
   ·refine key _ 0 (fun _=>[]) (kb _) (fun i hi=>absurd hi (Nat.not_lt_zero _)) ⟨none,0,rfl,jm _,by simp [maxLen],fun a ha _=>(by cases ha),fun h=>absurd h (Nat.lt_irrefl _)⟩
   ·have hm':m=cap:=by simpa using hm
    subst hm'
    have hall:∀ i,i<len→∃ tl:List TC,ShL el tl∧∃ cs',w.cells? 0 (a.add (i * P.cellsOf e)) (P.cellsOf e)=some cs'∧Holds w tl cs':=fun i hi=>by
     obtain ⟨cs',h1,h2⟩:=hel i (jP hi hlc)
     obtain ⟨h3,tl,h4,h5⟩:=Qf3 he h2
     exact ⟨tl,h4,cs',h1,h5⟩
    obtain ⟨g,hg⟩:=Go.Deep.choose_lt hall
    refine key _ len g (kj hlc hcm) (fun i hi=>(hg i hi).1) ⟨some a,m,rfl,hlc,hcm,fun ad had hp=>?_,fun hp=>⟨a,rfl,fun i j hi hj=>?_⟩⟩
    ·cases had
     obtain ⟨_,cs',h2,_⟩:=hg 0 hp
     have:=World.cells?_block h2 (by rw [hce];exact hpos)
     rw [G3] at this
     exact ⟨this,this⟩
    ·obtain ⟨h1,cs',h2,h3⟩:=hg i hi
     obtain ⟨_,h4,h5⟩:=World.cells?_some h2
     have hjl:j<cs'.length:=by rw [h4,hce];exact hj
     refine ⟨cs'[j],?_,?_⟩
     ·rw [hce] at h5
      have:=h5 j hj
      rw [Y8] at this
      rw [this,jc hjl]
     ·have hjt:j<(g i).length:=by rw [h1.1];exact hj
      show RdC w (inW w) (nthT (g i) j) _
      rw [Q5r (jc hjt)]
      exact h3 j _ _ (jc hjt) (jc hjl)
 | t,_,(.struct (fs:=fs) (ss:=ss) ht hc hf),n,cs,x,h=>by
   obtain ⟨xs,n',_,_,hl,hxl,hx⟩:=DataW.trod_struct ht h
   refine ⟨by rw [hl,hc],?_⟩
   have:=Qkf hf (n:=n') (cs:=cs) (fun f hm=>by
    obtain ⟨k,hk⟩:=List.getElem?_of_mem hm
    have hk':fs[k]?=some f:=by simpa using hk
    have hlt:k<xs.length:=by rw [hxl];exact (Array.getElem?_eq_some_iff.1 hk').1
    exact ⟨xs[k],by rw [hx k f hk',jc hlt]⟩) (by rw [hl,hc];omega)
   simpa using this
theorem Qkf:∀ {i:Nat} {fs:List Field} {ss:List Sh},ShF P i fs ss→∀ {n:Nat} {cs:List Value},(∀ f∈fs,∃ x,DataW.trod enc P w 0 (fun _=>true) true n f.type ((cs.drop f.offset).take (P.cellsOf f.type))=some x) →
 i+ss.length≤cs.length→∃ tl:List TC,ShL ss tl∧Holds w tl (cs.drop i)
 | _,_,_,.nil,n,cs,h,hl=>⟨[],⟨rfl,fun j s c hs=>by simp at hs⟩,fun j c u hc=>by simp at hc⟩
 | i,_,_,(.cons (f:=f) (fs:=fs) (s1:=s1) (s2:=s2) ho hc hT hr),n,cs,h,hl=>by
   simp only [jl] at hl
   obtain ⟨x,hx⟩:=h f (.head _)
   obtain ⟨h1,t1,h2,h3⟩:=Qf3 hT hx
   obtain ⟨t2,h4,h5⟩:=Qkf hr (n:=n) (cs:=cs) (fun f' hf'=>h f' (.tail _ hf')) W31
   refine ⟨t1++t2,⟨by rw [jl,jl,h2.1,h4.1],fun j s c hs hcj=>?_⟩,fun j c u hcj hu=>?_⟩
   ·by_cases hj:j<s1.length
    ·rw [jp hj] at hs
     rw [jp (by rw [h2.1];exact hj)] at hcj
     exact h2.2 j s c hs hcj
    ·rw [jy W31] at hs
     rw [jy (by rw [h2.1];omega),h2.1] at hcj
     exact h4.2 _ s c hs hcj
   ·by_cases hj:j<s1.length
    ·rw [jp (by rw [h2.1];exact hj)] at hcj
     refine h3 j c u hcj ?_
     rw [List.getElem?_take_of_lt (by rw [hc];exact hj),ho]
     exact hu
    ·rw [jy (by rw [h2.1];omega),h2.1] at hcj
     refine h5 _ c u hcj ?_
     rw [j4] at hu ⊢
     rw [show i+s1.length+(j-s1.length)=i+j by omega]
     exact hu
end
end
theorem Qbv {H:Type} {enc:TypeId×Value→H} {P:Program} {w:World} {t:Nat} {ss:List Sh} {v:Value} {d:DataW H} {p:List MemPlace} (hs:ShT P t ss) (h:DataW.Trod enc P w 0 (fun _=>true) true t v d p) :
 v.cells.toList.length=ss.length∧∃ tl:List TC,ShL ss tl∧Holds w tl v.cells.toList:=by
 obtain ⟨n,hn⟩:=h
 exact Qf3 hs hn
def Imp (w:World) (a b:List TC):Prop:=∀ (j:Nat) (c:TC) (u:Value),a[j]?=some c→RdC w (inW w) c u→RdC w (inW w) (nthT b j) u
theorem Imp.of_eq {w:World} {a b:List TC} (h:a=b):Imp w a b:=fun j c u hj hu=>by
 subst h;rw [Q5r hj];exact hu
theorem Qmp {α:Type} [Inhabited α] {w:World} {tl:α→List TC} {Q:α→Prop} {n:Nat} {g:Nat→List TC} (h:∀ i,i<n→∃ x,Imp w (g i) (tl x)∧Q x) (hd:Q ub) :
 ∃ l:List α,l.length=n∧(∀ i,i<n→Imp w (g i) (tl (l.getD i ub)))∧∀ i,Q (l.getD i ub):=by
 obtain ⟨f,hf⟩:=Go.Deep.choose_lt h
 refine ⟨(jB n).map f,by simp,fun i hi=>?_,fun i=>?_⟩
 ·rw [jb,jk,ke hi]
  exact (hf i hi).1
 ·rw [jb,jk]
  by_cases hi:i<n
  ·rw [ke hi];exact (hf i hi).2
  ·rw [jX W130];exact hd
theorem Q85 {α:Type} [Inhabited α] {w:World} {e size:Nat} {el:List Sh} {c:TC} {tl:α→List TC} {Q:α→Prop} (hs:size=el.length) (h:ShC (.sl e size el) c) (hx:∀ t:List TC,ShL el t→∃ x,Imp w t (tl x)∧Q x) (hd:Q ub) :
 ∃ l:List α,l.length≤maxLen∧(∀ i,Q (l.getD i ub))∧∀ v,RdC w (inW w) c v→RdRow w (inW w) v size l.length (fun i j u=>RdC w (inW w) (nthT (tl (l.getD i ub)) j) u):=by
 cases h with
 | sl n g hn hl hg =>
   obtain ⟨l,h1,h2,h3⟩:=Qmp (tl:=tl) (Q:=Q) (n:=n) (g:=g) (w:=w) (fun i hi=>hx _ ⟨hl i hi,fun j s c h1 h2=>hg i j s c hi h1 h2⟩) hd
   refine ⟨l,by rw [h1];exact hn,h3,fun v hv=>?_⟩
   rw [h1]
   refine RdRow.map hv (jm _) (fun _ _ _=>rfl) (fun i j u hi hj hu=>?_)
   have hjl:j<(g i).length:=by rw [hl i hi,← hs];exact hj
   have:nthT (g i) j=(g i)[j]:=Q5r (jc hjl)
   have hu:RdC w (inW w) (nthT (g i) j) u:=hu
   rw [this] at hu
   exact h2 i hi j _ u (jc hjl) hu
theorem Q1p {α:Type} [Inhabited α] {w:World} {e size:Nat} {el:List Sh} {c:TC} {tl:α→List TC} {Q:α→Prop} (hs:size=el.length) (h:ShC (.sl e size el) c) (hx:∀ t:List TC,ShL el t→∃ x,Imp w t (tl x)∧Q x) (hd:Q ub) :
 ∃ l:List α,(∀ i,Q (l.getD i ub))∧∀ v,RdC w (inW w) c v→RdRow w (inW w) v size l.length (fun i j u=>RdC w (inW w) (nthT (tl (l.getD i ub)) j) u):=
 let ⟨l,_,h⟩:=Q85 hs h hx hd
 ⟨l,h⟩
end
theorem Qkg {n:Int} (h:(Lit.int .u8 n).wf=true):0≤n∧n≤255:=by simpa [Lit.wf,IntKind.min,IntKind.max,IntKind.signed,IntKind.bits] using h
theorem Qoq {w:World} {t:List TC} (h:ShL [.num .i64] t):∃ x:Int,Imp w t [.val (.int .i64 x)]∧True:=by
 obtain ⟨hl,hc⟩:=h
 rcases t with _ | ⟨c,_ | ⟨c',t⟩⟩
 ·simp at hl
 ·have h0:=hc 0 _ _ rfl rfl
  cases h0 with | num n w =>
  exact ⟨n,Imp.of_eq rfl,trivial⟩
 ·simp at hl
section
variable {H:Type} {enc:TypeId×Value→H} {W:World} {base:Nat}
theorem Q40 {ε:Env} {M:Nat→Prop} {v:Value} {size n:Nat} {f:Nat→Nat→TC} (h:RdRow W (inW W) v size n (fun i j u=>RdC W (inW W) (f i j) u)):RegOk ε M W ⟨v,inW W⟩ (.row size n f none):=⟨h,trivial⟩
theorem Qmq {ε:Env} {pre:List Reg} (hl:ε.length=pre.length) (hx:pre.all (fun r=>!r.excl)=true) (hf:∀ i,i<pre.length→ε.fp i=inW W) (h:∀ i r,pre[i]?=some r→RegOk ε (Base.at_ pre ε W).M W (ε.ent i) r) :
 RegsOk ε (Base.at_ pre ε W).M (Base.at_ pre ε W).L W pre:=by
 have hx':∀ (i:Nat) (r:Reg),pre[i]?=some r→r.excl=false:=fun i r hi=>by simpa using List.all_eq_true.1 hx r (jq hi)
 refine ⟨hl,h,fun i r hi hlv b hb=>?_,fun i r hi he=>?_,fun i j ri rj _ hi _ he=>?_⟩
 ·have hi':=(List.getElem?_eq_some_iff.1 hi).1
  have hb':b<W.heap.size:=by rw [hf i hi'] at hb;exact hb
  exact ⟨hb',.inr ⟨i,r,hi,hlv,hb⟩⟩
 ·rw [hx' i r hi] at he;cases he
 ·rw [hx' i ri hi] at he;cases he
end
abbrev shVl:List Sh:=[.boo,.num .i64,.num .i64]
theorem Qhj:ShT Tryd.prog 62 shVl:=.struct Tryd.underlying62 (by kernel_rfl) (.cons (s1:=[.boo]) (s2:=[.num .i64,.num .i64]) rfl (by kernel_rfl) (.bool (by kernel_rfl)) (.cons (s1:=[.num .i64]) (s2:=[.num .i64]) rfl (by kernel_rfl) (.int (by kernel_rfl)) (.cons (s1:=[.num .i64]) (s2:=[]) rfl (by kernel_rfl) (.int (by kernel_rfl)) .nil)))
abbrev shDcl:List Sh:=[.str,.num .i64,.num .i64]
theorem Qdw:ShT Tryd.prog 66 shDcl:=.struct Tryd.underlying66 (by kernel_rfl) (.cons (s1:=[.str]) (s2:=[.num .i64,.num .i64]) rfl (by kernel_rfl) (.str (by kernel_rfl)) (.cons (s1:=[.num .i64]) (s2:=[.num .i64]) rfl (by kernel_rfl) (.int (by kernel_rfl)) (.cons (s1:=[.num .i64]) (s2:=[]) rfl (by kernel_rfl) (.int (by kernel_rfl)) .nil)))
theorem Qhk {w:World} {t:List TC} (h:ShL shDcl t):∃ x:Dcl,Imp w t x.tl∧x.name.size≤maxLen:=by
 obtain ⟨hl,hc⟩:=h
 rcases t with _ | ⟨c0,_ | ⟨c1,_ | ⟨c2,_ | ⟨c3,t⟩⟩⟩⟩
 all_goals first | (exfalso;simp at hl;done) | skip
 have h0:=hc 0 _ _ rfl rfl
 have h1:=hc 1 _ _ rfl rfl
 have h2:=hc 2 _ _ rfl rfl
 cases h0 with | str n0 w0 =>
 cases h1 with | num n1 w1 =>
 cases h2 with | num n2 w2 =>
 exact ⟨⟨n0,n1,n2⟩,Imp.of_eq rfl,w0⟩
abbrev shNod:List Sh:=[.num .u8,.num .u8,.num .i64,.num .i64,.boo,.num .i64,.num .i64,.boo,.num .i64,.num .i64,.num .i64,.num .i64,.num .i64]
theorem Qmr:ShT Tryd.prog 64 shNod:=.struct Tryd.underlying64 (by kernel_rfl) (.cons (s1:=[.num .u8]) (s2:=[.num .u8,.num .i64,.num .i64,.boo,.num .i64,.num .i64,.boo,.num .i64,.num .i64,.num .i64,.num .i64,.num .i64]) rfl (by kernel_rfl) (.int (by kernel_rfl)) (.cons (s1:=[.num .u8]) (s2:=[.num .i64,.num .i64,.boo,.num .i64,.num .i64,.boo,.num .i64,.num .i64,.num .i64,.num .i64,.num .i64]) rfl (by kernel_rfl) (.int (by kernel_rfl)) (.cons (s1:=[.num .i64]) (s2:=[.num .i64,.boo,.num .i64,.num .i64,.boo,.num .i64,.num .i64,.num .i64,.num .i64,.num .i64]) rfl (by kernel_rfl) (.int (by kernel_rfl)) (.cons (s1:=[.num .i64]) (s2:=[.boo,.num .i64,.num .i64,.boo,.num .i64,.num .i64,.num .i64,.num .i64,.num .i64]) rfl (by kernel_rfl) (.int (by kernel_rfl)) (.cons (s1:=[.boo,.num .i64,.num .i64]) (s2:=[.boo,.num .i64,.num .i64,.num .i64,.num .i64,.num .i64]) rfl (by kernel_rfl) (Qhj) (.cons (s1:=[.boo,.num .i64,.num .i64]) (s2:=[.num .i64,.num .i64,.num .i64]) rfl (by kernel_rfl) (Qhj) (.cons (s1:=[.num .i64]) (s2:=[.num .i64,.num .i64]) rfl (by kernel_rfl) (.int (by kernel_rfl)) (.cons (s1:=[.num .i64]) (s2:=[.num .i64]) rfl (by kernel_rfl) (.int (by kernel_rfl)) (.cons (s1:=[.num .i64]) (s2:=[]) rfl (by kernel_rfl) (.int (by kernel_rfl)) .nil)))))))))
def nodK (x:Nod):Prop:=0≤x.kind∧0≤x.op∧x.op≤255
theorem Q91:nodK default:=by unfold nodK;decide
theorem Qor {w:World} {t:List TC} (h:ShL shNod t):∃ x:Nod,Imp w t x.tl∧nodK x:=by
 obtain ⟨hl,hc⟩:=h
 rcases t with _ | ⟨c0,_ | ⟨c1,_ | ⟨c2,_ | ⟨c3,_ | ⟨c4,_ | ⟨c5,_ | ⟨c6,_ | ⟨c7,_ | ⟨c8,_ | ⟨c9,_ | ⟨c10,_ | ⟨c11,_ | ⟨c12,_ | ⟨c13,t⟩⟩⟩⟩⟩⟩⟩⟩⟩⟩⟩⟩⟩⟩
 all_goals first | (exfalso;simp at hl;done) | skip
 have h0:=hc 0 _ _ rfl rfl
 have h1:=hc 1 _ _ rfl rfl
 have h2:=hc 2 _ _ rfl rfl
 have h3:=hc 3 _ _ rfl rfl
 have h4:=hc 4 _ _ rfl rfl
 have h5:=hc 5 _ _ rfl rfl
 have h6:=hc 6 _ _ rfl rfl
 have h7:=hc 7 _ _ rfl rfl
 have h8:=hc 8 _ _ rfl rfl
 have h9:=hc 9 _ _ rfl rfl
 have h10:=hc 10 _ _ rfl rfl
 have h11:=hc 11 _ _ rfl rfl
 have h12:=hc 12 _ _ rfl rfl
 cases h0 with | num n0 w0 =>
 cases h1 with | num n1 w1 =>
 cases h2 with | num n2 w2 =>
 cases h3 with | num n3 w3 =>
 cases h4 with | boo n4 =>
 cases h5 with | num n5 w5 =>
 cases h6 with | num n6 w6 =>
 cases h7 with | boo n7 =>
 cases h8 with | num n8 w8 =>
 cases h9 with | num n9 w9 =>
 cases h10 with | num n10 w10 =>
 cases h11 with | num n11 w11 =>
 cases h12 with | num n12 w12 =>
 exact ⟨⟨n0,n1,n2,n3,⟨n4,n5,n6⟩,⟨n7,n8,n9⟩,n10,n11,n12⟩,Imp.of_eq rfl,⟨(Qkg w0).1,Qkg w1⟩⟩
abbrev shGrf:List Sh:=[.str,.num .i64,.num .i64,.sl 64 13 shNod]
theorem Qms:ShT Tryd.prog 59 shGrf:=.struct Tryd.underlying59 (by kernel_rfl) (.cons (s1:=[.str]) (s2:=[.num .i64,.num .i64,.sl 64 13 shNod]) rfl (by kernel_rfl) (.str (by kernel_rfl)) (.cons (s1:=[.num .i64]) (s2:=[.num .i64,.sl 64 13 shNod]) rfl (by kernel_rfl) (.int (by kernel_rfl)) (.cons (s1:=[.num .i64]) (s2:=[.sl 64 13 shNod]) rfl (by kernel_rfl) (.int (by kernel_rfl)) (.cons (s1:=[.sl 64 13 shNod]) (s2:=[]) rfl (by kernel_rfl) (.slice (el:=shNod) (by kernel_rfl) (by kernel_rfl) W147 Qmr) .nil))))
theorem Qos {w:World} {t:List TC} (h:ShL shGrf t):∃ x:Grf,Imp w t x.tl∧x.name.size≤maxLen∧∀ b:Nat,nodK (x.nodes.getD b ub):=by
 obtain ⟨hl,hc⟩:=h
 rcases t with _ | ⟨c0,_ | ⟨c1,_ | ⟨c2,_ | ⟨c3,_ | ⟨c4,t⟩⟩⟩⟩⟩
 all_goals first | (exfalso;simp at hl;done) | skip
 have h0:=hc 0 _ _ rfl rfl
 have h1:=hc 1 _ _ rfl rfl
 have h2:=hc 2 _ _ rfl rfl
 have h3:=hc 3 _ _ rfl rfl
 cases h0 with | str n0 w0 =>
 cases h1 with | num n1 w1 =>
 cases h2 with | num n2 w2 =>
 obtain ⟨nodes,hq,hr⟩:=Q1p (w:=w) (tl:=Nod.tl) (Q:=nodK) rfl h3 (fun t ht=>Qor ht) Q91
 refine ⟨⟨n0,n1,n2,nodes⟩,fun j c u hj hu=>?_,w0,hq⟩
 match j,hj with
 | 0,hj=>cases hj;exact hu
 | 1,hj=>cases hj;exact hu
 | 2,hj=>cases hj;exact hu
 | 3,hj=>cases hj;exact hr u hu
 | j+4,hj=>simp at hj
abbrev shUni:List Sh:=[.sl 66 3 shDcl,.sl 66 3 shDcl,.sl 59 4 shGrf]
theorem Qmt:ShT Tryd.prog 25 shUni:=.struct Tryd.underlying25 (by kernel_rfl) (.cons (s1:=[.sl 66 3 shDcl]) (s2:=[.sl 66 3 shDcl,.sl 59 4 shGrf]) rfl (by kernel_rfl) (.slice (el:=shDcl) (by kernel_rfl) (by kernel_rfl) W147 Qdw) (.cons (s1:=[.sl 66 3 shDcl]) (s2:=[.sl 59 4 shGrf]) rfl (by kernel_rfl) (.slice (el:=shDcl) (by kernel_rfl) (by kernel_rfl) W147 Qdw) (.cons (s1:=[.sl 59 4 shGrf]) (s2:=[]) rfl (by kernel_rfl) (.slice (el:=shGrf) (by kernel_rfl) (by kernel_rfl) W147 Qms) .nil)))
section
variable {H:Type} {enc:TypeId×Value→H} {W:World} {base:Nat}
theorem Qhl {v:Value} {d:DataW H} {p:List MemPlace} (hv:Value.okWide Tryd.prog W .any base 25 v) (h:DataW.Trod enc Tryd.prog W 0 (fun _=>true) true 25 v d p) :
 ∃ (u0 u1 u2:Value) (sh lk:List Dcl) (gs:List Grf),v=.agg #[u0,u1,u2] ∧
  RdRow W (inW W) u0 3 sh.length (fun i j u=>RdC W (inW W) ((sh.getD i ub).tc j) u)∧RdRow W (inW W) u1 3 lk.length (fun i j u=>RdC W (inW W) ((lk.getD i ub).tc j) u) ∧
  RdRow W (inW W) u2 4 gs.length (fun i j u=>RdC W (inW W) ((gs.getD i ub).tc j) u)∧(∀ j:Nat,(sh.getD j ub).name.size≤maxLen)∧(∀ j:Nat,(lk.getD j ub).name.size≤maxLen) ∧
  (∀ j:Nat,(gs.getD j ub).name.size≤maxLen)∧UnitW gs:=by
 obtain ⟨cs0,rfl,hsz⟩:=Go.WideShapes.okWide_struct Tryd.underlying25 hv
 obtain ⟨hlen,tl,⟨hl,hc⟩,hh⟩:=Qbv Qmt h
 have hlen:cs0.toList.length=3:=hlen
 rcases tl with _ | ⟨c0,_ | ⟨c1,_ | ⟨c2,_ | ⟨c3,t⟩⟩⟩⟩
 all_goals first | (exfalso;simp at hl;done) | skip
 obtain ⟨l,rfl⟩:∃ l:List Value,cs0=l.toArray:=⟨cs0.toList,by simp⟩
 simp only [List.toList_toArray] at hlen
 rcases l with _ | ⟨u0,_ | ⟨u1,_ | ⟨u2,_ | ⟨u3,t⟩⟩⟩⟩
 all_goals first | (exfalso;simp at hlen;done) | skip
 have h0:=hc 0 _ _ rfl rfl
 have h1:=hc 1 _ _ rfl rfl
 have h2:=hc 2 _ _ rfl rfl
 obtain ⟨sh,q0,r0⟩:=Q1p (w:=W) (tl:=Dcl.tl) (Q:=fun x:Dcl=>x.name.size≤maxLen) rfl h0 (fun t ht=>Qhk ht) (kb _)
 obtain ⟨lk,q1,r1⟩:=Q1p (w:=W) (tl:=Dcl.tl) (Q:=fun x:Dcl=>x.name.size≤maxLen) rfl h1 (fun t ht=>Qhk ht) (kb _)
 obtain ⟨gs,q2,r2⟩:=Q1p (w:=W) (tl:=Grf.tl) (Q:=fun x:Grf=>x.name.size≤maxLen∧∀ b:Nat,nodK (x.nodes.getD b ub)) rfl h2 (fun t ht=>Qos ht) ⟨kb _,fun b=>by
  rw [jb];exact Q91⟩
 exact ⟨u0,u1,u2,sh,lk,gs,rfl,r0 u0 (hh 0 _ _ rfl rfl),r1 u1 (hh 1 _ _ rfl rfl),r2 u2 (hh 2 _ _ rfl rfl),q0,q1,fun j=>(q2 j).1,fun a b=>(q2 a).2 b⟩
theorem Qjs:ShT Tryd.prog 49 [.sl 3 1 [.num .i64]]:=.slice (el:=[.num .i64]) (by kernel_rfl) (by kernel_rfl) W147 (.int (by kernel_rfl))
end
abbrev shIln:List Sh:=[.sl 3 1 [.num .i64]]
theorem Qot {w:World} {t:List TC} (h:ShL shIln t):∃ x:Iln,Imp w t x.tl∧x.l.length≤9223372036854775807:=by
 obtain ⟨hl,hc⟩:=h
 rcases t with _ | ⟨c0,_ | ⟨c1,t⟩⟩
 all_goals first | (exfalso;simp at hl;done) | skip
 obtain ⟨l,hn,_,hr⟩:=Q85 (w:=w) (α:=Int) (tl:=fun n=>[.val (.int .i64 n)]) (Q:=fun _=>True) rfl (hc 0 _ _ rfl rfl) (fun t ht=>Qoq ht) trivial
 refine ⟨⟨l⟩,fun j c u hj hu=>?_,by simpa [maxLen] using hn⟩
 match j,hj with
 | 0,hj=>cases hj;exact hr u hu
 | j+1,hj=>simp at hj
theorem Qjt:ShT Tryd.prog 26 [.sl 49 1 shIln]:=.slice (el:=shIln) (by kernel_rfl) (by kernel_rfl) W147 Qjs
abbrev shPlc:List Sh:=[.boo,.num .i64]
theorem Qmu:ShT Tryd.prog 52 shPlc:=.struct Tryd.underlying52 (by kernel_rfl) (.cons (s1:=[.boo]) (s2:=[.num .i64]) rfl (by kernel_rfl) (.bool (by kernel_rfl)) (.cons (s1:=[.num .i64]) (s2:=[]) rfl (by kernel_rfl) (.int (by kernel_rfl)) .nil))
theorem Qou {w:World} {t:List TC} (h:ShL shPlc t):∃ x:Plc,Imp w t x.tl∧True:=by
 obtain ⟨hl,hc⟩:=h
 rcases t with _ | ⟨c0,_ | ⟨c1,_ | ⟨c2,t⟩⟩⟩
 all_goals first | (exfalso;simp at hl;done) | skip
 have h0:=hc 0 _ _ rfl rfl
 have h1:=hc 1 _ _ rfl rfl
 cases h0 with | boo n0 =>
 cases h1 with | num n1 w1 =>
 exact ⟨⟨n0,n1⟩,Imp.of_eq rfl,trivial⟩
abbrev shAlc:List Sh:=[.sl 52 2 shPlc,.num .i64]
theorem Qmv:ShT Tryd.prog 47 shAlc:=.struct Tryd.underlying47 (by kernel_rfl) (.cons (s1:=[.sl 52 2 shPlc]) (s2:=[.num .i64]) rfl (by kernel_rfl) (.slice (el:=shPlc) (by kernel_rfl) (by kernel_rfl) W147 Qmu) (.cons (s1:=[.num .i64]) (s2:=[]) rfl (by kernel_rfl) (.int (by kernel_rfl)) .nil))
theorem Qov {w:World} {t:List TC} (h:ShL shAlc t):∃ x:Alc,Imp w t x.tl∧x.places.length≤9223372036854775807:=by
 obtain ⟨hl,hc⟩:=h
 rcases t with _ | ⟨c0,_ | ⟨c1,_ | ⟨c2,t⟩⟩⟩
 all_goals first | (exfalso;simp at hl;done) | skip
 have h0:=hc 0 _ _ rfl rfl
 have h1:=hc 1 _ _ rfl rfl
 cases h1 with | num n1 w1 =>
 obtain ⟨ps,hn,_,hr⟩:=Q85 (w:=w) (tl:=Plc.tl) (Q:=fun _=>True) rfl h0 (fun t ht=>Qou ht) trivial
 refine ⟨⟨ps,n1⟩,fun j c u hj hu=>?_,by simpa [maxLen] using hn⟩
 match j,hj with
 | 0,hj=>cases hj;exact hr u hu
 | 1,hj=>cases hj;exact hu
 | j+2,hj=>simp at hj
theorem Qju:ShT Tryd.prog 27 [.sl 47 2 shAlc]:=.slice (el:=shAlc) (by kernel_rfl) (by kernel_rfl) W147 Qmv
section
variable {H:Type} {enc:TypeId×Value→H} {W:World} {base:Nat}
theorem Qhm {v:Value} {d:DataW H} {p:List MemPlace} (hv:Value.okWide Tryd.prog W .any base 26 v) (h:DataW.Trod enc Tryd.prog W 0 (fun _=>true) true 26 v d p) :
 ∃ l:List Iln,RdRow W (inW W) v 1 l.length (fun i j u=>RdC W (inW W) ((l.getD i ub).tc j) u)∧∀ j:Nat,(l.getD j ub).l.length≤9223372036854775807:=by
 obtain ⟨a,len,cap,rfl⟩:=Go.WideShapes.okWide_slice Tryd.underlying26 hv
 obtain ⟨hlen,tl,⟨hl,hc⟩,hh⟩:=Qbv Qjt h
 rcases tl with _ | ⟨c0,_ | ⟨c1,t⟩⟩
 all_goals first | (exfalso;simp at hl;done) | skip
 obtain ⟨l,hq,hr⟩:=Q1p (w:=W) (tl:=Iln.tl) (Q:=fun x:Iln=>x.l.length≤9223372036854775807) rfl (hc 0 _ _ rfl rfl) (fun t ht=>Qot ht) (kb _)
 exact ⟨l,hr _ (hh 0 _ _ rfl rfl),hq⟩
theorem Qhn {v:Value} {d:DataW H} {p:List MemPlace} (hv:Value.okWide Tryd.prog W .any base 27 v) (h:DataW.Trod enc Tryd.prog W 0 (fun _=>true) true 27 v d p) :
 ∃ l:List Alc,RdRow W (inW W) v 2 l.length (fun i j u=>RdC W (inW W) ((l.getD i ub).tc j) u)∧∀ j:Nat,(l.getD j ub).places.length≤9223372036854775807:=by
 obtain ⟨a,len,cap,rfl⟩:=Go.WideShapes.okWide_slice Tryd.underlying27 hv
 obtain ⟨hlen,tl,⟨hl,hc⟩,hh⟩:=Qbv Qju h
 rcases tl with _ | ⟨c0,_ | ⟨c1,t⟩⟩
 all_goals first | (exfalso;simp at hl;done) | skip
 obtain ⟨l,hq,hr⟩:=Q1p (w:=W) (tl:=Alc.tl) (Q:=fun x:Alc=>x.places.length≤9223372036854775807) rfl (hc 0 _ _ rfl rfl) (fun t ht=>Qov ht) (kb _)
 exact ⟨l,hr _ (hh 0 _ _ rfl rfl),hq⟩
def tab32:List Int:=[0,1,28,2,29,14,24,3,30,22,20,15,25,17,4,8,31,27,13,23,21,19,16,7,26,12,18,6,11,5,10,9]
theorem Qjv : Tryd.prog.globalNamed "math/bits.deBruijn32tab" = some 0 := by kernel_rfl
theorem Qjw:(Tryd.prog.globals[0]?).map (·.type)=some 185:=by kernel_rfl
theorem Qjx:Tryd.prog.cellsOf 185=32:=by kernel_rfl
theorem Qmw:Tryd.prog.cellsOf 5=1:=by kernel_rfl
theorem Qkh (h : laidMetH Tryd.prog [("math/bits.deBruijn32tab", Rows.laid_math_bits_deBruijn32tab)] W) : Lib.TabIs Tryd.prog W "math/bits.deBruijn32tab" .u8 tab32 :=
 Lib.tabIs_of_head (rest:=[]) Qjv Qjw Tryd.underlying185 Tryd.underlying5 Qmw Qjx h
def tabExt (W:World):Ext:=⟨0,0,fun _=>.u,fun _ _ _ _=>True,fun b=>b=0,W⟩
theorem Qow (h : laidMetH Tryd.prog [("math/bits.deBruijn32tab", Rows.laid_math_bits_deBruijn32tab)] W) : TabX (tabExt W) := ⟨rfl, fun i hi => by
 have hb:∀ i:Nat,i<32→0≤tab32.getD i 0∧tab32.getD i 0≤255:=by decide
 exact ⟨_,(hb i hi).1,(hb i hi).2,(Qkh h).cell Qjv i hi⟩⟩
theorem Qmx {ε : Env} {M : Nat → Prop} {v : Value} (h : laidMetH Tryd.prog [("math/bits.deBruijn32tab", Rows.laid_math_bits_deBruijn32tab)] W) : RegOk ε M W ⟨v, inW W⟩ (.froz (tabExt W)) := fun b hb => by
 have hb:b=0:=hb
 subst hb
 have:=Qf2 ((Qkh h).cell Qjv 0 W147)
 exact ⟨this,this,rfl⟩
end
end Go.Proofs.YtnddggenhefaeaaDoor
end
noncomputable section
namespace Go.Proofs.YtnddggenhefaeaaDoor.lawGenOwn
open Go.ChangeShapes Go.WideShapes Go.ChangeAt Go.RowKit Go.Tx
theorem Qf4:laidOutB Tryd.prog=true:=by kernel_rfl
theorem own:ownKnob Tryd.prog.godebug=none:=by kernel_rfl
theorem results:Tryd.f3.resultTypes=#[4]:=by kernel_rfl
theorem Qjy (H:Type) (enc:TypeId×Value→H) (W:World) (base:Nat) (args:Array Value) (ds gs:List (DataW H)) (before:List MemPlace)
 (hval:∀ (j:Nat) t v,Tryd.f3.params[j]?=some t→args[j]?=some v→Value.okWide Tryd.prog W .any base t v)
 (hW:DataW.Whole enc Tryd.prog Tryd.f3.params.toList Rows.genOwnSpec.vars false W args.toList ds gs before) (hL:laidMetH Tryd.prog Rows.genOwnRow.laid W) :
 Calls Tryd.prog 3 args W fun e W'=>∃ v,e=.returned v∧Rows.genOwnSpec.post enc Tryd.prog Tryd.f3 false true false false W args v W':=by
 have hW':=hW
 have hlt:=hW.lt
 obtain ⟨p,q,hA0,hV,rfl,hfz,hnd⟩:=hW
 have hA:DataW.TrodAll enc Tryd.prog W 0 (fun _=>true) true Tryd.f3.params.toList args.toList ds p:=hA0
 rw [Tryd.params3] at hA hval
 obtain ⟨v0,vs0,d0,ds0,p0,q0,hargs0,rfl,rfl,h0,r0⟩:=trodAll_cons hA
 obtain ⟨v1,vs1,d1,ds1,p1,q1,hargs1,rfl,rfl,h1,r1⟩:=trodAll_cons r0
 obtain ⟨v2,vs2,d2,ds2,p2,q2,hargs2,rfl,rfl,h2,r2⟩:=trodAll_cons r1
 obtain ⟨rfl,rfl,rfl⟩:=trodAll_nil r2
 obtain rfl:args=#[v0,v1,v2]:=by cases args;simp_all
 obtain ⟨rfl,rfl⟩:=trodVars_none hV
 clear hA0
 have hv0:=hval 0 25 v0 rfl rfl
 have hv1:=hval 1 26 v1 rfl rfl
 have hv2:=hval 2 27 v2 rfl rfl
 obtain ⟨fs,hrf,hfs⟩:=Qhm hv1 h1
 obtain ⟨al,hra,hp⟩:=Qhn hv2 h2
 obtain ⟨u0,u1,u2,sh,lk,gs,rfl,hr0,hr1,hr2,hs,hl,hg,hw⟩:=Qhl hv0 h0
 have hX:=Qow hL
 have hregs:RegsOk ([⟨u0,inW W⟩,⟨u1,inW W⟩,⟨u2,inW W⟩,⟨u0,inW W⟩,⟨v1,inW W⟩,⟨v2,inW W⟩]:Env) (Base.at_ [Dcl.rowR sh,Dcl.rowR lk,Grf.rowR gs,.froz (tabExt W),Iln.rowR fs,Alc.rowR al] [⟨u0,inW W⟩,⟨u1,inW W⟩,⟨u2,inW W⟩,⟨u0,inW W⟩,⟨v1,inW W⟩,⟨v2,inW W⟩] W).M (Base.at_ [Dcl.rowR sh,Dcl.rowR lk,Grf.rowR gs,.froz (tabExt W),Iln.rowR fs,Alc.rowR al] [⟨u0,inW W⟩,⟨u1,inW W⟩,⟨u2,inW W⟩,⟨u0,inW W⟩,⟨v1,inW W⟩,⟨v2,inW W⟩] W).L W [Dcl.rowR sh,Dcl.rowR lk,Grf.rowR gs,.froz (tabExt W),Iln.rowR fs,Alc.rowR al]:=by
  refine Qmq rfl rfl (fun i hi=>?_) (fun i r hi=>?_)
  ·match i,hi with
   | 0,_=>rfl
   | 1,_=>rfl
   | 2,_=>rfl
   | 3,_=>rfl
   | 4,_=>rfl
   | 5,_=>rfl
   | i+6,hi=>exact absurd hi W149
  ·match i,hi with
   | 0,hi=>cases hi;exact Q40 hr0
   | 1,hi=>cases hi;exact Q40 hr1
   | 2,hi=>cases hi;exact Q40 hr2
   | 3,hi=>cases hi;exact Qmx hL
   | 4,hi=>cases hi;exact Q40 hrf
   | 5,hi=>cases hi;exact Q40 hra
   | i+6,hi=>simp at hi
 refine ((Qop (tabExt W) hX sh lk gs hs hl hg hw fs hfs al hp) [⟨u0,inW W⟩,⟨u1,inW W⟩,⟨u2,inW W⟩,⟨u0,inW W⟩,⟨v1,inW W⟩,⟨v2,inW W⟩] W hregs).mono fun e W' hret=>?_
 obtain ⟨res,post,ε',⟨rfl,_⟩,rfl,_,_,hfr⟩:=hret
 have hb:Below W.heap.size W W':=⟨hfr.os,hfr.tape,hfr.output,hfr.size,fun k hk=>hfr.block k hk (fun ⟨i,r,hi,he,_⟩=>by
  match i,hi with
  | 0,hi=>cases hi;cases he
  | 1,hi=>cases hi;cases he
  | 2,hi=>cases hi;cases he
  | 3,hi=>cases hi;cases he
  | 4,hi=>cases hi;cases he
  | 5,hi=>cases hi;cases he
  | i+6,hi=>simp at hi)⟩
 refine ⟨_,rfl,_,_,_,[],p0++(p1++(p2++[])),[],hW',?_,?_,?_,hb.frame _,fun h=>by cases h⟩
 ·rw [results]
  exact trodAll_cons_mk (shut_bool Tryd.underlying4 _) trodAll_mk0
 ·rw [Tryd.params3]
  exact (trodAll_cons_mk (WideElems.Trod_stays Qf4 (by kernel_rfl) (uc (by kernel_rfl)) h0 (fun p hp=>hb.same (hlt p (by simp [hp]))) (fun p hp=>by simpa using hlt p (by simp [hp]))) (trodAll_cons_mk (WideElems.Trod_stays Qf4 (by kernel_rfl) (uc (by kernel_rfl)) h1 (fun p hp=>hb.same (hlt p (by simp [hp]))) (fun p hp=>by simpa using hlt p (by simp [hp]))) (trodAll_cons_mk (WideElems.Trod_stays Qf4 (by kernel_rfl) (uc (by kernel_rfl)) h2 (fun p hp=>hb.same (hlt p (by simp [hp]))) (fun p hp=>by simpa using hlt p (by simp [hp]))) trodAll_mk0)))
 ·rfl
def laidWorld (os:Os):World:=
 { World.holding Tryd.prog os ⟨#[],#[],[]⟩ with heap:=(World.holding Tryd.prog os ⟨#[],#[],[]⟩).heap.modify 0 fun
  | .cells _ t frozen=>.cells (tab32.map fun z=>jf .u8 z).toArray t frozen
  | o=>o }
theorem laid_met (os:Os):laidMet Tryd.prog Rows.genOwnRow.laid ((laidWorld os).forCall (fun _ _=>0) ⟨#[],#[.agg #[.slice none 0 0,.slice none 0 0,.slice none 0 0],.slice none 0 0,.slice none 0 0],[]⟩).memory:=
 laidMet_of_run' 8 (by kernel_rfl) (by kernel_rfl)
theorem Qq8 (os:Os) {H:Type} (enc:TypeId×Value→H):∃ places,DataW.whole enc Tryd.prog ((laidWorld os).forCall (fun _ _=>0) ⟨#[],#[.agg #[.slice none 0 0,.slice none 0 0,.slice none 0 0],.slice none 0 0,.slice none 0 0],[]⟩).memory Tryd.f3.params.toList Rows.genOwnSpec.vars false #[.agg #[.slice none 0 0,.slice none 0 0,.slice none 0 0],.slice none 0 0,.slice none 0 0].toList 8=some ([.agg [.nil,.nil,.nil],.nil,.nil],[],places):=
 ⟨[],by kernel_rfl⟩
set_option maxRecDepth 100000 in
theorem Qox (os:Os) (started:os.Started) (H:Type) (enc:TypeId×Value→H) (F:Stop.Interp) :
 ReturnsInHanded {} Tryd.checked os 3 .any ((OpenSpec.ofChange Rows.genOwnSpec).preRow enc Tryd.prog Tryd.f3 Rows.genOwnRow.domain false Rows.genOwnRow.laid) (((OpenSpec.ofChange Rows.genOwnSpec).at F).post enc Tryd.prog Tryd.f3 false true false false):=by
 obtain ⟨places,hx⟩:=Qq8 os enc
 refine returnsInHanded_of_row (C:=Tryd.checked) (s:=OpenSpec.ofChange Rows.genOwnSpec) own started (by kernel_rfl) Tryd.func3
  (witness_row_at (enc:=enc) (C:=Tryd.checked) false (laidWorld os) #[.agg #[.slice none 0 0,.slice none 0 0,.slice none 0 0],.slice none 0 0,.slice none 0 0] rfl (by kernel_rfl) (by kernel_rfl) (by kernel_rfl)
    (OpenSpec.preRow_of_cond 8 hx (by kernel_rfl) (fun k hk=>by cases hk) (by kernel_rfl) (laid_met os))) ?_
 intro W base args ds gs before hval hW _ _ _ hL _ _
 exact Qjy H enc W base args ds gs before hval hW hL
theorem Qqe:Rows.GenOwnSaid:=
 OpenClaim.holds_of_cond 3 Tryd.f3 rfl rfl rfl rfl rfl rfl rfl ⟨rfl,rfl,rfl,rfl,rfl⟩ rfl rfl rfl rfl rfl (by kernel_rfl) Tryd.func3 (by kernel_rfl)
  (uc (by kernel_rfl)) (by unfold Func.isWrapper;first | (rw [if_pos (by decide +kernel)];kernel_rfl) | (rw [if_neg (by decide +kernel)];exact ⟨rfl,rfl⟩))
  (fun os started H enc _ F=>by rw [OpenClaim.pre_eq_preRow];exact Qox os started H enc F)
theorem plain (f : FuncId) (fn : Func) (hf : Tryd.pinned.checked.prog.funcNamed "stile/stilelaw17.GenOwn" = some f) (hfn : Tryd.pinned.checked.prog.funcs[f]? = some fn) :
 false=Tryd.pinned.checked.prog.looks []∧∀ (j:Nat) t,fn.params[j]?=some t→Tryd.pinned.checked.prog.wantsStandIn t=false:=by
 obtain rfl : f = 3 := Option.some.inj ((show Tryd.prog.funcNamed "stile/stilelaw17.GenOwn" = some 3 by kernel_rfl).symm.trans hf) |>.symm
 obtain rfl:fn=Tryd.f3:=(Option.some.inj (Tryd.func3.symm.trans hfn)).symm
 refine ⟨by kernel_rfl,fun j t ht=>?_⟩
 rw [Tryd.params3] at ht
 have hm:t=25∨t=26∨t=27:=by simpa using Array.mem_of_getElem? ht
 rcases hm with rfl | rfl | rfl
 ·exact (show Tryd.prog.wantsStandIn 25=false by kernel_rfl)
 ·exact (show Tryd.prog.wantsStandIn 26=false by kernel_rfl)
 ·exact (show Tryd.prog.wantsStandIn 27=false by kernel_rfl)
theorem card:Rows.GenOwnCardSaid:=
 Claim7.holds_tied_plain_at .later [] _ _ _ _ Qqe (fun _ h=>by cases h) (by kernel_rfl) (fun _ h=>by cases h) genOwn_row_tie rfl ⟨rfl,rfl⟩ (by kernel_rfl) rfl plain (by kernel_rfl)
end Go.Proofs.YtnddggenhefaeaaDoor.lawGenOwn
end
