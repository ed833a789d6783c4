/-
  A part of the proof. Text 9 of 9.
-/
import Derived.Test.YtnddggenhefaeaaGreatDoorP4
import Derived.Test.YtnddggenhefaeaaGreatDoorP5
import Derived.Test.YtnddggenhefaeaaGreatDoorP6
import Derived.Test.YtnddggenhefaeaaGreatDoorP8
import Derived.Deep.Slices
import Derived.ChangeArms
import Derived.WideShapes
import Derived.ChangeOld
import Derived.Test.YtnddggenhefaeaaGreatDoorRows
import Derived.Test.YtnddggenhefaeaaGreatDoorP7
import Derived.Lib.LaidTab
import Derived.Test.YtnddggenhefaeaaGreatDoorCards
import Derived.Test.YtnddggenhefaeaaGreatDoorTie
import Derived.WalkKit
import Derived.ProofKit
import Derived.OpenShut
import Derived.JoinedCond
import Derived.Carry
import Derived.Deep.DeepHandedRow
set_option linter.unusedSimpArgs false
set_option linter.unusedVariables false
open Go.Proofs.Tryz renaming prog→jb
open Go.Value renaming string→jG,nilFunc→kA,int→jg,bool→jC,slice→ji
open Go.IntKind renaming i64→ja,u8→jl
open List renaming length→j5,length_map→jP,length_range→kC,getD_eq_getElem?_getD→jc,mem_of_getElem?→ju,mem_cons→ky,not_mem_nil→ki,range→jD,length_set→jy,getElem?_eq_getElem→jd,length_append→jm,getElem?_append_left→jr,getElem?_append_right→jB,getElem?_drop→j8,getElem?_map→jn,getElem?_range→kh,getElem?_eq_none→jX
open Int renaming le_refl→jE
open And renaming intro→jo
open Bool renaming or_eq_true→jT,not_eq_true'→jN
open Nat renaming lt_or_ge→kO,zero_le→ke,le_refl→jp,lt_of_lt_of_le→jS,le_trans→kt
open Inhabited renaming default→ub
set_option maxHeartbeats 4000000
set_option maxRecDepth 100000
noncomputable section
namespace Go.Proofs.YtnddggenhefaeaaGreatDoor
open Go Go.Tx
theorem Qfm (l:List Int) (v:Int) (hl:l.length≤8388608):Ctr jb 62 [IntRow l] [.c (.h 0),zbK v]
 (Det (.c (.b (hasF l v))) [.dead]):=by
 refine Ctr.intro [] Tryz.func62 K K ?_
 refine Q3 Q42 (Qn3 l v W49) [] ?_
 exact Q2 [] [0] [hasF l v=decide ((0:Int)≤idxF l v (0:Int))] (by simp only [Conj];first | rfl | exact ⟨rfl,trivial⟩)
abbrev zB (y0:Grf) (y1 y2 y3 y4:Int):Reg:=Reg.box 90 [C.v (jG y0.name),C.i .i64 y0.locals,C.i .i64 y0.slots,C.h 1,C.h 2,C.i .i64 y1,C.h 3,C.i .i64 y2,C.i .i64 y3,C.h 4,C.h 5,C.h 6,C.i .i64 y4]
abbrev zc7 (y0:Grf):C:=C.v (jG y0.name)
abbrev zdj (y0:Grf):C:=C.i .i64 y0.locals
theorem Qi3 (g:Grf) (ps:List Plc) (ba sh fr ac:Int) (l:List Ins) (code:List Ins) (hc:code.length≤1000000) (hl:l.length≤1000):Ctr jb 63 [zB g ac sh ba fr,.dead,Plc.rowR ps,.dead,Ins.ownR code,.dead,.dead,Ins.rowR l] [.c (.p 0 0),.c (.h 7)]
 (Det (.tup []) [Reg.box 90 [zc7 g,zdj g,C.i .i64 g.slots,C.h 1,C.h 2,C.i .i64 ac,C.h 3,C.i .i64 sh,C.i .i64 ba,C.h 8,C.h 5,C.h 6,C.i .i64 fr],.dead,.dead,.dead,.dead,.dead,.dead,.dead,Ins.ownR (code++putL fr l)]):=by
 exact Yz g (Gm.mk ps ba sh fr) ac l code hc hl
theorem Qi4 (g:Grf) (ba sh fr ac:Int):Ctr jb 61 [.ro [zc7 g,zdj g,C.i .i64 g.slots,C.h 1,C.h 2,C.i .i64 ac,C.h 3,C.i .i64 sh,C.i .i64 ba,C.h 4,C.h 5,C.h 6,C.i .i64 fr],.dead,.dead,.dead,.dead,.dead,.dead] [.c (.p 0 0)]
 (Det (.c (.h 7)) zaM):=by
 exact Qkj g (Gm.mk [] ba sh fr) ac
abbrev zD (y0:Grf) (y1 y2 y3 y4:Int):Reg:=Reg.box 90 [C.v (jG y0.name),C.i .i64 y0.locals,C.i .i64 y0.slots,C.h 1,C.h 2,C.i .i64 y1,C.h 3,C.i .i64 y2,C.i .i64 y3,C.h 7,C.h 5,C.h 6,C.i .i64 y4]
abbrev zak (y0:Grf) (y1 y2 y3 y4:Int) (y5:List Plc) (y6:List Ins):List Reg:=[zB y0 y1 y2 y3 y4,.dead,Plc.rowR y5,.dead,Ins.ownR y6,.dead,.dead]
theorem Qno (g:Grf) (ps:List Plc) (ba sh fr ac:Int) (n:Nod) (hn:NdQ (Gm.mk ps ba sh fr) n) (hg:GmQ (Gm.mk ps ba sh fr)) (code:List Ins) (hc:code.length≤100000) (hk:n.kind=1):Ctr jb 100 (zak g ac sh ba fr ps code) (zbT n)
 (Det (.tup []) [zD g ac sh ba fr,.dead,.dead,.dead,.dead,.dead,.dead,Ins.ownR (code++gSetN (Gm.mk ps ba sh fr) n)]):=by
 exact Qpi g (Gm.mk ps ba sh fr) ac n hn hg code hc hk
theorem Qkk (g:Grf) (ps:List Plc) (ba sh fr ac:Int) (n:Nod) (hn:NdQ (Gm.mk ps ba sh fr) n) (hg:GmQ (Gm.mk ps ba sh fr)) (code:List Ins) (hc:code.length≤100000) (hk:n.kind=2):Ctr jb 101 (zak g ac sh ba fr ps code) (zbT n)
 (Det (.tup []) [zD g ac sh ba fr,.dead,.dead,.dead,.dead,.dead,.dead,Ins.ownR (code++(putL fr [Ins.mk 3 0 (gGoal (Gm.mk ps ba sh fr) n.slot) 0 0 n.thing 0 0 0]++gKeep (Gm.mk ps ba sh fr) n.slot))]):=by
 exact Qnl g (Gm.mk ps ba sh fr) ac n hn hg code hc hk
theorem Qi5 (g:Grf) (ps:List Plc) (ba sh fr ac:Int) (n:Nod) (hn:NdQ (Gm.mk ps ba sh fr) n) (hg:GmQ (Gm.mk ps ba sh fr)) (code:List Ins) (hc:code.length≤100000) (hk:n.kind=3):Ctr jb 102 (zak g ac sh ba fr ps code) (zbT n)
 (Det (.tup []) [zD g ac sh ba fr,.dead,.dead,.dead,.dead,.dead,.dead,Ins.ownR (code++(gFetch (Gm.mk ps ba sh fr) n.a 13++putL fr [Ins.mk 4 0 0 (gReg (Gm.mk ps ba sh fr) n.a 13) 0 n.thing 0 0 0]))]):=by
 exact Qkh g (Gm.mk ps ba sh fr) ac n hn hg code hc hk
theorem Qkl (g:Grf) (ps:List Plc) (ba sh fr ac:Int) (n:Nod) (hn:NdQ (Gm.mk ps ba sh fr) n) (hg:GmQ (Gm.mk ps ba sh fr)) (code:List Ins) (hc:code.length≤100000) (hk:n.kind=4):Ctr jb 103 (zak g ac sh ba fr ps code) (zbT n)
 (Det (.tup []) [zD g ac sh ba fr,.dead,.dead,.dead,.dead,.dead,.dead,Ins.ownR (code++gSwapN (Gm.mk ps ba sh fr) n)]):=by
 exact Qnm g (Gm.mk ps ba sh fr) ac n hn hg code hc hk
theorem Qfn (g:Grf) (ps:List Plc) (ba sh fr ac:Int) (n:Nod) (hn:NdQ (Gm.mk ps ba sh fr) n) (hg:GmQ (Gm.mk ps ba sh fr)) (code:List Ins) (hc:code.length≤100000) (hk:n.kind=6):Ctr jb 105 (zak g ac sh ba fr ps code) (zbT n)
 (Det (.tup []) [zD g ac sh ba fr,.dead,.dead,.dead,.dead,.dead,.dead,Ins.ownR (code++putL fr [Ins.mk 1 0 15 0 0 0 0 0 0,Ins.mk 4 0 0 15 0 (sh+n.thing) 0 0 0])]):=by
 exact Qi1 g (Gm.mk ps ba sh fr) ac n hn hg code hc hk
theorem Qi6 (g:Grf) (ps:List Plc) (ba sh fr ac:Int) (n:Nod) (hn:NdQ (Gm.mk ps ba sh fr) n) (hg:GmQ (Gm.mk ps ba sh fr)) (code:List Ins) (hc:code.length≤100000) (hk:n.kind=7):Ctr jb 106 (zak g ac sh ba fr ps code) (zbT n)
 (Det (.tup []) [zD g ac sh ba fr,.dead,.dead,.dead,.dead,.dead,.dead,Ins.ownR (code++(gFetch (Gm.mk ps ba sh fr) n.a 13++putL fr [Ins.mk 7 0 0 (gReg (Gm.mk ps ba sh fr) n.a 13) 0 0 0 0 0]))]):=by
 exact Qki g (Gm.mk ps ba sh fr) ac n hn hg code hc hk
theorem Qfo (g:Grf) (ps:List Plc) (ba sh fr ac:Int) (n:Nod) (hn:NdQ (Gm.mk ps ba sh fr) n) (hg:GmQ (Gm.mk ps ba sh fr)) (code:List Ins) (hc:code.length≤100000) (hk:n.kind=8):Ctr jb 107 (zak g ac sh ba fr ps code) (zbT n)
 (Det (.tup []) [zD g ac sh ba fr,.dead,.dead,.dead,.dead,.dead,.dead,Ins.ownR (code++gBranch (Gm.mk ps ba sh fr) n)]):=by
 exact Qi2 g (Gm.mk ps ba sh fr) ac n hn hg code hc hk
theorem Qnp (g:Grf) (ps:List Plc) (ba sh fr ac:Int) (n:Nod) (hn:NdQ (Gm.mk ps ba sh fr) n) (hg:GmQ (Gm.mk ps ba sh fr)) (code:List Ins) (hc:code.length≤100000) (hk:n.kind=9):Ctr jb 108 (zak g ac sh ba fr ps code) (zbT n)
 (Det (.tup []) [zD g ac sh ba fr,.dead,.dead,.dead,.dead,.dead,.dead,Ins.ownR (code++putL fr [Ins.mk 10 0 0 0 0 0 0 0 0])]):=by
 exact Qpj g (Gm.mk ps ba sh fr) ac n hn hg code hc hk
theorem Qkm (g:Grf) (ps:List Plc) (ba sh fr ac:Int) (n:Nod) (hn:NdQ (Gm.mk ps ba sh fr) n) (hg:GmQ (Gm.mk ps ba sh fr)) (code:List Ins) (hc:code.length≤100000) (cN:Nat) (F:Int→Option Int) (hc2:cN≤1000000) (hk:n.kind=5):Ctr jb 104 [zB g ac sh ba fr,.dead,Plc.rowR ps,.dead,Ins.ownR code,Reg.mp MTi cN (fun a=>(F a).isSome) (fun a=>(F a).getD (0:Int)) none,.dead] (zbT n)
 (Det (.tup []) [zD g ac sh ba fr,.dead,.dead,.dead,.dead,zaW cN F code,.dead,Ins.ownR (code++putL fr [Ins.mk 1 0 15 0 0 0 0 1 0,Ins.mk 5 0 15 0 0 (sh+n.thing) 0 0 0,Ins.mk 9 0 0 15 0 0 ((code.length:Int)+4) 0 0,Ins.mk 8 0 0 0 0 0 (code.length:Int) 0 0])]):=by
 exact Qnn g (Gm.mk ps ba sh fr) ac n hn hg code hc cN F hc2 hk
abbrev zm (y0:Int) (y1:Grf) (y2:Bool):List En:=[se 4 (C.i .i64 y0),se 5 (C.p 10 0),se 16 (C.i .i64 y0),se 15 (C.i .i64 (↑y1.nodes.length:Int)),se 14 (C.h 1),se 3 (C.h 7),se 2 (C.b y2),zaO]
abbrev zp (y0:Grf) (y1 y2 y3 y4:Int):Reg:=Reg.box 90 [C.v (jG y0.name),C.i .i64 y0.locals,C.i .i64 y0.slots,C.h 1,C.h 2,C.i .i64 y1,C.h 3,C.i .i64 y2,C.i .i64 y3,C.h 8,C.h 5,C.h 12,C.i .i64 ((y0.nodes.getD y4.toNat ub).origin+(1:Int))]
abbrev zu (y0:Nat) (y1:Int → Option Int):Reg:=Reg.mp (MT.mk jb 88 3 3 [CK.i ja] false [CK.i ja] false) y0 (fun (a:Int)=>(y1 a).isSome) (fun (a:Int)=>(y1 a).getD (0:Int)) none
abbrev zbt (y0:List Int) (y1:Grf) (y2:Int) (y3:List Ins):List Ins:=fenC y0 y1.nodes y2.toNat y3
def C39 (g:Grf) (ps:List Plc) (ba sh ac:Int) (fe:List Int) (ue:Int) (uj:Bool) (uh:List Ins) (uk:List Int) (uo:Nat) (ug:Int→Option Int):St:=St.mk 129 (zm ue g uj) [zp g ac sh ba ue,rowOf 13 (·.tc) g.nodes,rowOf 2 (·.tc) ps,IntRow fe,Reg.dead,zu uo ug,Reg.dead,za,Ins.ownR (zbt fe g ue uh),Reg.dead,zd g ue,Reg.dead,IntOwn (uk++[(uh.length:Int)])] []
abbrev zai (y0:Nat) (y1:Int → Option Int) (y2:Grf) (y3:Int) (y4:List Int) (y5:List Ins):Reg:=Reg.mp (MT.mk jb 88 3 3 [CK.i ja] false [CK.i ja] false) (y0+4) (fun (a:Int)=>(innS y1 (y2.nodes.getD y3.toNat ub) ((fenC y4 y2.nodes y3.toNat y5).length:Int) a).isSome) (fun (a:Int)=>(innS y1 (y2.nodes.getD y3.toNat ub) ((fenC y4 y2.nodes y3.toNat y5).length:Int) a).getD (0:Int)) none
def C39c (g:Grf) (ps:List Plc) (ba sh ac:Int) (fe:List Int) (ue:Int) (uj:Bool) (uh:List Ins) (uk:List Int) (uo:Nat) (ug:Int→Option Int):St:=St.mk 129 (zm ue g uj) [zp g ac sh ba ue,rowOf 13 (·.tc) g.nodes,rowOf 2 (·.tc) ps,IntRow fe,Reg.dead,zai uo ug g ue fe uh,Reg.dead,za,Ins.ownR (stepC ps ba sh fe g.nodes ue.toNat uh),Reg.dead,zd g ue,Reg.dead,IntOwn (uk++[(uh.length:Int)])] []
abbrev zbD (y0:List Plc) (y1 y2:Int) (y3:List Int) (y4:Grf) (y5:Int) (y6:List Ins):List Ins:=nodC y0 y1 y2 y3 y4.nodes y5.toNat y6
def C39b (g:Grf) (ps:List Plc) (ba sh ac:Int) (fe:List Int) (ue:Int) (uj:Bool) (uh:List Ins) (uk:List Int) (uo:Nat) (ug:Int→Option Int):St:=St.mk 129 (zm ue g uj) [zp g ac sh ba ue,rowOf 13 (·.tc) g.nodes,rowOf 2 (·.tc) ps,IntRow fe,Reg.dead,zai uo ug g ue fe uh,Reg.dead,za,Ins.ownR (zbD ps ba sh fe g ue uh),Reg.dead,zd g ue,Reg.dead,IntOwn (uk++[(uh.length:Int)])] []
def we (g:Grf) (ps:List Plc) (ba:Int) (sh:Int) (ac:Int) (fe:List Int) (F0:Int→Option Int):Lp (Int×Bool×List Ins×List Int×Int×Nat×(Int→Option (Int))):=⟨fun x=>{ N:=129,fr:=[se 16 (C.i .i64 x.1),se 15 (C.i .i64 (↑g.nodes.length:Int)),se 14 (C.h 1),se 3 (C.h 7),se 2 (C.b x.2.1),zaO],rg:=[Reg.box 90 [zc7 g,zdj g,C.i .i64 g.slots,C.h 1,C.h 2,C.i .i64 ac,C.h 3,C.i .i64 sh,C.i .i64 ba,C.h 8,C.h 5,C.h 9,C.i .i64 x.2.2.2.2.1],rowOf 13 (·.tc) g.nodes,rowOf 2 (·.tc) ps,IntRow fe,Reg.dead,Reg.mp zbf (x.2.2.2.2.2.1) (fun a=>(x.2.2.2.2.2.2 a).isSome) (fun a=>(x.2.2.2.2.2.2 a).getD ((0:Int))) none,Reg.dead,za]++[Ins.ownR x.2.2.1]++[IntOwn x.2.2.2.1],wr:=[] },fun x=>AlJ ps ba sh fe g.nodes x.1 x.2.2.1 x.2.2.2.1 x.2.2.2.2.2.1 x.2.2.2.2.2.2,fun x=>((g.nodes.length:Int)-x.1).toNat⟩
def vw (g:Grf) (ps:List Plc) (ba:Int) (sh:Int) (ac:Int) (fe:List Int) (uj:Bool) (uh:List Ins) (uk:List Int) (uz:Int) (uo:Nat) (ug:Int→Option Int):Lp (Int×List Ins×List Int×Int×Nat×(Int→Option (Int))):=⟨fun x=>{ N:=129,fr:=[se 85 (C.i .i64 x.1),se 84 (C.i .i64 (↑uh.length:Int)),se 2 (C.b uj),zaO],rg:=[Reg.box 90 [zc7 g,zdj g,C.i .i64 g.slots,C.h 1,C.h 2,C.i .i64 ac,C.h 3,C.i .i64 sh,C.i .i64 ba,C.h 10,C.h 5,C.h 11,C.i .i64 x.2.2.2.1],rowOf 13 (·.tc) g.nodes,rowOf 2 (·.tc) ps,IntRow fe,Reg.dead,Reg.mp zbf (x.2.2.2.2.1) (fun a=>(x.2.2.2.2.2 a).isSome) (fun a=>(x.2.2.2.2.2 a).getD ((0:Int))) none,Reg.dead,za,Reg.dead,Reg.dead]++[Ins.ownR x.2.1]++[IntOwn x.2.2.1],wr:=[] },fun x=>0≤x.1∧x.1≤(uh.length:Int)∧x.2.1=fixN uk ug uh x.1.toNat∧x.2.2.1=uk∧x.2.2.2.2.2=ug,fun x=>((uh.length:Int)-x.1).toNat⟩
abbrev zf:Reg:=Reg.mpv (MT.mk jb 123 97 104 [CK.i jl] false [] false) kA 9 (List.map (fun x=>(x.fst,C.ren (at' [0,1,2,3,4,5,6,7,8,9,10,11,12]) x.snd)) [((9:Int),C.fn 108 true [0]),((8:Int),C.fn 107 true [0]),((7:Int),C.fn 106 true [0]),((6:Int),C.fn 105 true [0]),((5:Int),C.fn 104 true [0]),((4:Int),C.fn 103 true [0]),((3:Int),C.fn 102 true [0]),((2:Int),C.fn 101 true [0]),((1:Int),C.fn 100 true [0])])
abbrev zg:Reg:=Reg.mpv (MT.mk jb 123 97 104 [CK.i jl] false [] false) kA 9 (List.map (fun x=>(x.fst,C.ren (at' [0,1,2,3,4,5,6,7,13,9,10,11,12]) x.snd)) [((9:Int),C.fn 108 true [0]),((8:Int),C.fn 107 true [0]),((7:Int),C.fn 106 true [0]),((6:Int),C.fn 105 true [0]),((5:Int),C.fn 104 true [0]),((4:Int),C.fn 103 true [0]),((3:Int),C.fn 102 true [0]),((2:Int),C.fn 101 true [0]),((1:Int),C.fn 100 true [0])])
abbrev zQ:Reg:=Reg.mpv (MT.mk jb 123 97 104 [CK.i jl] false [] false) kA 9 (List.map (fun x=>(x.fst,C.ren (at' [0,1,2,3,4,5,6,7,14,9,10,11,12]) x.snd)) [((9:Int),C.fn 108 true [0]),((8:Int),C.fn 107 true [0]),((7:Int),C.fn 106 true [0]),((6:Int),C.fn 105 true [0]),((5:Int),C.fn 104 true [0]),((4:Int),C.fn 103 true [0]),((3:Int),C.fn 102 true [0]),((2:Int),C.fn 101 true [0]),((1:Int),C.fn 100 true [0])])
abbrev zR:Reg:=Reg.mpv (MT.mk jb 123 97 104 [CK.i jl] false [] false) kA 9 (List.map (fun x=>(x.fst,C.ren (at' [0,1,2,3,4,5,6,7,8,9,10,11]) x.snd)) [((9:Int),C.fn 108 true [0]),((8:Int),C.fn 107 true [0]),((7:Int),C.fn 106 true [0]),((6:Int),C.fn 105 true [0]),((5:Int),C.fn 104 true [0]),((4:Int),C.fn 103 true [0]),((3:Int),C.fn 102 true [0]),((2:Int),C.fn 101 true [0]),((1:Int),C.fn 100 true [0])])
abbrev zS:Reg:=Reg.mpv (MT.mk jb 123 97 104 [CK.i jl] false [] false) kA 9 (List.map (fun x=>(x.fst,C.ren (at' [0,1,2,3,4,5,6,7,8,9,10]) x.snd)) [((9:Int),C.fn 108 true [0]),((8:Int),C.fn 107 true [0]),((7:Int),C.fn 106 true [0]),((6:Int),C.fn 105 true [0]),((5:Int),C.fn 104 true [0]),((4:Int),C.fn 103 true [0]),((3:Int),C.fn 102 true [0]),((2:Int),C.fn 101 true [0]),((1:Int),C.fn 100 true [0])])
abbrev zaq (y0:List Int) (y1:List Ins):Reg:=IntOwn (y0++[(↑y1.length:Int)])
abbrev zar (y0:Grf) (y1 y2 y3 y4:Int):Reg:=Reg.box 90 [C.v (jG y0.name),C.i .i64 y0.locals,C.i .i64 y0.slots,C.h 1,C.h 2,C.i .i64 y1,C.h 3,C.i .i64 y2,C.i .i64 y3,C.h 8,C.h 5,C.h 9,C.i .i64 ((y0.nodes.getD y4.toNat ub).origin+(1:Int))]
abbrev za5 (y0:Grf) (y1 y2 y3 y4:Int):Reg:=Reg.box 90 [C.v (jG y0.name),C.i .i64 y0.locals,C.i .i64 y0.slots,C.h 1,C.h 2,C.i .i64 y1,C.h 3,C.i .i64 y2,C.i .i64 y3,C.h 8,C.h 5,C.h 9,C.i .i64 y4]
abbrev zbq (y0:Int → Option Int):Int → Int:=fun (a:Int)=>(y0 a).getD (0:Int)
abbrev zbs:Ins:=Ins.mk (6:Int) (0:Int) (0:Int) (0:Int) (0:Int) (0:Int) (0:Int) (0:Int) (0:Int)
abbrev zbJ (y0:List Ins) (y1:Int):Ins:=y0.getD y1.toNat ub
abbrev zbu (y0:List Ins) (y1:Int) (y2:List Int):List Ins:=y0.set y1.toNat (Ins.mk (zbJ y0 y1).kind (zbJ y0 y1).op (zbJ y0 y1).d (zbJ y0 y1).a (zbJ y0 y1).b (zbJ y0 y1).addr (y2.getD (zbJ y0 y1).to.toNat (0:Int)) (zbJ y0 y1).word (zbJ y0 y1).from_)
abbrev zbx (y0:Int → Option Int) (y1:Grf) (y2:Int) (y3:List Int) (y4:List Ins) (y5:Int):Option Int:=innS y0 (zbe y1 y2) (↑(zbt y3 y1 y2 y4).length:Int) y5
abbrev zby (y0:Grf) (y1:Int):Ins:=Ins.mk (8:Int) (0:Int) (0:Int) (0:Int) (0:Int) (0:Int) (zbe y0 y1).next (0:Int) (0:Int)
abbrev zb1 (y0:Int → Option Int):Int → Bool:=fun (a:Int)=>(y0 a).isSome
abbrev zb3:List (Int × C):=[((9:Int),C.fn 108 true [0]),((8:Int),C.fn 107 true [0]),((7:Int),C.fn 106 true [0]),((6:Int),C.fn 105 true [0]),((5:Int),C.fn 104 true [0]),((4:Int),C.fn 103 true [0]),((3:Int),C.fn 102 true [0]),((2:Int),C.fn 101 true [0]),((1:Int),C.fn 100 true [0])]
abbrev zb9 (y0:List Int) (y1:Grf) (y2:Int) (y3:List Ins) (y4:Int):List Ins:=zbt y0 y1 y2 y3++putL ((zbe y1 y2).origin+(1:Int)) [zcK,Ins.mk (5:Int) (0:Int) (15:Int) (0:Int) (0:Int) (y4+(zbe y1 y2).thing) (0:Int) (0:Int) (0:Int),Ins.mk (9:Int) (0:Int) (0:Int) (15:Int) (0:Int) (0:Int) ((↑(zbt y0 y1 y2 y3).length:Int)+(4:Int)) (0:Int) (0:Int),Ins.mk (8:Int) (0:Int) (0:Int) (0:Int) (0:Int) (0:Int) (↑(zbt y0 y1 y2 y3).length:Int) (0:Int) (0:Int)]
abbrev zbA (y0:List Plc) (y1 y2:Int) (y3:Grf) (y4:Int):Gm:=Gm.mk y0 y1 y2 ((zbe y3 y4).origin+(1:Int))
abbrev zbP:List Nat:=[0,1,2,3,4,5,6,7,13,9,10,11,12]
abbrev zbS:List Nat:=[4,5,16,15,14,3,2,0]
abbrev zbU (y0:Int → Option Int) (y1:Grf) (y2:Int) (y3:List Int) (y4:List Ins):Int → Int:=fun (a:Int)=>(zbx y0 y1 y2 y3 y4 a).getD (0:Int)
abbrev zbV (y0:Int → Option Int) (y1:Grf) (y2:Int) (y3:List Int) (y4:List Ins):Int → Bool:=fun (a:Int)=>(zbx y0 y1 y2 y3 y4 a).isSome
abbrev zbY (y0:Grf) (y1 y2:Int):List Ins:=putL ((zbe y0 y1).origin+(1:Int)) [zcM,Ins.mk (4:Int) (0:Int) (0:Int) (15:Int) (0:Int) (y2+(zbe y0 y1).thing) (0:Int) (0:Int) (0:Int)]
abbrev zca:Unit → Prop:=(fun xUnit=>True)
abbrev zcc (y0:List Plc) (y1 y2:Int) (y3:Grf) (y4:Int):List Ins:=gFetch (zbA y0 y1 y2 y3 y4) (zbe y3 y4).a (13:Int)++putL ((zbe y3 y4).origin+(1:Int)) [Ins.mk (4:Int) (0:Int) (0:Int) (gReg (zbA y0 y1 y2 y3 y4) (zbe y3 y4).a (13:Int)) (0:Int) (zbe y3 y4).thing (0:Int) (0:Int) (0:Int)]
abbrev zcd (y0:Grf) (y1:Int) (y2:List Plc) (y3 y4:Int):List Ins:=putL ((zbe y0 y1).origin+(1:Int)) [Ins.mk (3:Int) (0:Int) (gGoal (zbA y2 y3 y4 y0 y1) (zbe y0 y1).slot) (0:Int) (0:Int) (zbe y0 y1).thing (0:Int) (0:Int) (0:Int)]++gKeep (zbA y2 y3 y4 y0 y1) (zbe y0 y1).slot
abbrev zce (y0:List Plc) (y1 y2:Int) (y3:Grf) (y4:Int):List Ins:=gFetch (zbA y0 y1 y2 y3 y4) (zbe y3 y4).a (13:Int)++putL ((zbe y3 y4).origin+(1:Int)) [Ins.mk (7:Int) (0:Int) (0:Int) (gReg (zbA y0 y1 y2 y3 y4) (zbe y3 y4).a (13:Int)) (0:Int) (0:Int) (0:Int) (0:Int) (0:Int)]
abbrev zcj (y0:Grf) (y1:Int):C:=C.i .i64 (zbe y0 y1).a.slot
abbrev zck (y0:Grf) (y1:Int):C:=C.i .i64 (zbe y0 y1).a.word
abbrev zcl (y0:Grf) (y1:Int):C:=C.i .i64 (zbe y0 y1).b.slot
abbrev zcm (y0:Grf) (y1:Int):C:=C.i .i64 (zbe y0 y1).b.word
abbrev zcn (y0:Grf) (y1:Int):C:=C.i .i64 (zbe y0 y1).origin
abbrev zcq (y0:Grf) (y1:Int):C:=C.i .i64 (zbe y0 y1).thing
abbrev zcw (y0:Grf) (y1:Int):C:=C.i .i64 (zbe y0 y1).slot
abbrev zcx (y0:Grf) (y1:Int):C:=C.b (zbe y0 y1).a.slotted
abbrev zcy (y0:Grf) (y1:Int):C:=C.b (zbe y0 y1).b.slotted
abbrev zcz (y0:Grf) (y1:Int):C:=C.i .i64 (zbe y0 y1).next
abbrev zc2:List Nat:=[0,1,2,3,8,5,12]
abbrev zc3:List Nat:=[13,14,15,16,17]
abbrev zc4 (y0:Grf) (y1:Int):C:=C.i .i64 (zbe y0 y1).els
abbrev zcG (y0:Grf) (y1:Int):C:=C.i .u8 (zbe y0 y1).op
abbrev zcH (y0:List Int) (y1:List Ins):List Int:=y0++[(↑y1.length:Int)]
abbrev zdt (y0:List Plc) (y1 y2:Int) (y3:List Int) (y4:Grf) (y5:Int) (y6:List Ins) (y7:Nat):Nat → TC:=((zbD y0 y1 y2 y3 y4 y5 y6).getD y7 ub).tc
theorem Qr0 (g:Grf) (ps:List Plc) (ba sh ac:Int) (fe:List Int) (F0:Int→Option Int) (hF0:∀ a,F0 a=none) (hN:1≤g.nodes.length∧g.nodes.length≤4096) (hk:zI g) (hnd:∀ i:Nat,i<g.nodes.length→∀ fr:Int,NdQ (Gm.mk ps ba sh fr) (g.nodes.getD i ub)) (hgm:∀ fr:Int,GmQ (Gm.mk ps ba sh fr)) (hor:∀ i:Nat,i<g.nodes.length→0≤(g.nodes.getD i ub).origin∧(g.nodes.getD i ub).origin≤4096) (hfl:fe.length≤8388608) (hto:ToA ps ba sh fe g.nodes):Ctr jb 39 [Reg.box 90 [zc7 g,zdj g,C.i .i64 g.slots,C.h 1,C.h 2,C.i .i64 ac,C.h 3,C.i .i64 sh,C.i .i64 ba,C.v (ji none 0 0),C.h 5,C.v (ji none 0 0),C.i .i64 0],zV g,Plc.rowR ps,IntRow fe,.dead,Reg.mp MTi 0 (fun a=>(F0 a).isSome) (fun a=>(F0 a).getD (0:Int)) none,.dead] [.c (.p 0 0)]
 (DetE (fun y:Bool×List Ins×List Int×Nat×(Int→Option Int)×Int=>y.1=okA ps ba sh fe g.nodes∧(y.1=true→y.2.1=finA ps ba sh fe g.nodes∧y.2.2.1=starA ps ba sh fe g.nodes g.nodes.length)) (fun y=>.c (.b y.1)) (fun y=>[Reg.box 90 [zc7 g,zdj g,C.i .i64 g.slots,C.h 1,C.h 2,C.i .i64 ac,C.h 3,C.i .i64 sh,C.i .i64 ba,C.h 7,C.h 5,C.h 8,C.i .i64 y.2.2.2.2.2],.dead,.dead,.dead,.dead,Reg.mp MTi y.2.2.2.1 (fun a=>(y.2.2.2.2.1 a).isSome) (fun a=>(y.2.2.2.2.1 a).getD (0:Int)) none,.dead,Ins.ownR y.2.1,IntOwn y.2.2.1])):=by
 refine Ctr.intro [] Tryz.func39 K K ?_
 refine Q3 Q38 (Qi4 g ba sh 0 ac) [0,1,2,3,1000004,5,1000006] ?_
 refine tz [9,2,0] ?_
 refine Q7 (we g ps ba sh ac fe F0) (((0:Int),false,[],[],(0:Int),0,F0)) (AlJ.start hF0) ?_ [0,1,2,3,4,5,6,7,1000008,1000009] [13,14,15,16] [MpEq zbf 0 (zb1 F0) (zbq F0) none zbf 0 (zb1 F0) (zbq F0) none,Reg.mpv zbo kA 9 (List.map (fun x=>(x.fst,C.ren (at' [0,1,2,3,4,5,6,7,1000008,1000009]) x.snd)) zb3)=za,(0:Nat)=0,(0:Nat)=0] W0
 rintro ⟨ue,uj,uh,uk,uz,uo,ug⟩ hJ1
 dsimp only [we] at hJ1
 refine tz [16,15,14,3,2,0] ?_
 refine Q0 (decide (ue<(↑g.nodes.length:Int))) (fun h2=>?_) (fun h2=>?_)
 ·refine RunF.cut (fun _:Unit=>St.mk 129 (zm ue g uj) [za5 g ac sh ba uz,rowOf 13 (·.tc) g.nodes,rowOf 2 (·.tc) ps,IntRow fe,Reg.dead,zu uo ug,Reg.dead,za,ownOf 48 9 (·.tc) uh,IntOwn uk,zd g ue] []) (fun _=>True) ?_ ?_
  ·exact tTo (fun x=>St.mk 129 (zm ue g uj) [za5 g ac sh ba uz,rowOf 13 (·.tc) g.nodes,rowOf 2 (·.tc) ps,IntRow fe,Reg.dead,zu uo ug,Reg.dead,za,ownOf 48 9 (·.tc) uh,IntOwn uk,zd g ue] []) (fun x=>True) () trivial [] [13,14] [MpEq zbf uo (zb1 ug) (zbq ug) none zbf uo (zb1 ug) (zbq ug) none,zS=za] W0 (vc:=[(0:Int)≤ue,ue<(↑g.nodes.length:Int),ue.toNat<g.nodes.length]) (hv:=W3)
  ·rintro ⟨⟩ _
   refine RunF.cut (fun _:Unit=>St.mk 129 (zm ue g uj) [zar g ac sh ba ue,rowOf 13 (·.tc) g.nodes,rowOf 2 (·.tc) ps,IntRow fe,Reg.dead,zu uo ug,Reg.dead,za,ownOf 48 9 (·.tc) uh,IntOwn uk,zd g ue] []) (fun _=>True) ?_ ?_
   ·exact tTo (fun x=>St.mk 129 (zm ue g uj) [zar g ac sh ba ue,rowOf 13 (·.tc) g.nodes,rowOf 2 (·.tc) ps,IntRow fe,Reg.dead,zu uo ug,Reg.dead,za,ownOf 48 9 (·.tc) uh,IntOwn uk,zd g ue] []) (fun x=>True) () trivial [] [13,14] [MpEq zbf uo (zb1 ug) (zbq ug) none zbf uo (zb1 ug) (zbq ug) none,zS=za] W0 (vc:=[Fits ja ((g.nodes.getD ue.toNat ub).origin+(1:Int))]) (hv:=W3)
   ·rintro ⟨⟩ _
    refine RunF.cutm 3 (fun _:Unit=>C39 g ps ba sh ac fe ue uj uh uk uo ug) (fun _=>True) ?_ ?_
    ·refine tz zbS ?_
     refine Q3 Q1o (Qfm fe ue W1) [3] ?_ (vc:=[uk.length+1≤maxLen,(uk.length+1) * 8≤140737488355328]) (hv:=W3)
     refine tz [46,4,5,16,15,14,3,2,0] ?_
     refine Q0 (hasF fe ue) (fun h3=>?_) (fun h3=>?_)
     ·refine tz zbS ?_
      refine Q3 Qf (Qi3 g ps ba sh ((g.nodes.getD ue.toNat ub).origin+(1:Int)) ac [(Ins.mk (6:Int) (0:Int) (0:Int) (0:Int) (0:Int) (0:Int) (0:Int) (0:Int) (0:Int))] uh W1 W1) [0,1,2,3,8,5,12,13] ?_ zbH [[(Ins.mk (6:Int) (0:Int) (0:Int) (0:Int) (0:Int) (0:Int) (0:Int) (0:Int) (0:Int))].length=1,∀ (i:Nat),i < [(Ins.mk (6:Int) (0:Int) (0:Int) (0:Int) (0:Int) (0:Int) (0:Int) (0:Int) (0:Int))].length→i≠0→([(Ins.mk (6:Int) (0:Int) (0:Int) (0:Int) (0:Int) (0:Int) (0:Int) (0:Int) (0:Int))].getD i ub).tc=fun x=>TC.any,(Ins.mk (6:Int) (0:Int) (0:Int) (0:Int) (0:Int) (0:Int) (0:Int) (0:Int) (0:Int)).tc 0=TC.val (jg jl (6:Int)),(Ins.mk (6:Int) (0:Int) (0:Int) (0:Int) (0:Int) (0:Int) (0:Int) (0:Int) (0:Int)).tc 1=TC.val (jg jl (0:Int)),(Ins.mk (6:Int) (0:Int) (0:Int) (0:Int) (0:Int) (0:Int) (0:Int) (0:Int) (0:Int)).tc 2=TC.val (jg ja (0:Int)),(Ins.mk (6:Int) (0:Int) (0:Int) (0:Int) (0:Int) (0:Int) (0:Int) (0:Int) (0:Int)).tc 3=TC.val (jg ja (0:Int)),(Ins.mk (6:Int) (0:Int) (0:Int) (0:Int) (0:Int) (0:Int) (0:Int) (0:Int) (0:Int)).tc 4=TC.val (jg ja (0:Int)),(Ins.mk (6:Int) (0:Int) (0:Int) (0:Int) (0:Int) (0:Int) (0:Int) (0:Int) (0:Int)).tc 5=TC.val (jg ja (0:Int)),(Ins.mk (6:Int) (0:Int) (0:Int) (0:Int) (0:Int) (0:Int) (0:Int) (0:Int) (0:Int)).tc 6=TC.val (jg ja (0:Int)),(Ins.mk (6:Int) (0:Int) (0:Int) (0:Int) (0:Int) (0:Int) (0:Int) (0:Int) (0:Int)).tc 7=TC.val (jg ja (0:Int)),(Ins.mk (6:Int) (0:Int) (0:Int) (0:Int) (0:Int) (0:Int) (0:Int) (0:Int) (0:Int)).tc 8=TC.val (jg ja (0:Int))] W0
      exact tTo (fun xUnit=>C39 g ps ba sh ac fe ue uj uh uk uo ug) zca () trivial [0,1,2,3,4,5,6,7,14,9,10,11,12] [13,14,15,16,30,31,32] [MpEq zbf uo (zb1 ug) (zbq ug) none zbf uo (zb1 ug) (zbq ug) none,zQ=za,(fenC fe g.nodes ue.toNat uh).length=(uh++putL ((g.nodes.getD ue.toNat ub).origin+(1:Int)) [(Ins.mk (6:Int) (0:Int) (0:Int) (0:Int) (0:Int) (0:Int) (0:Int) (0:Int) (0:Int))]).length,∀ (i:Nat),i<(fenC fe g.nodes ue.toNat uh).length→((fenC fe g.nodes ue.toNat uh).getD i ub).tc=((uh++putL ((g.nodes.getD ue.toNat ub).origin+(1:Int)) [(Ins.mk (6:Int) (0:Int) (0:Int) (0:Int) (0:Int) (0:Int) (0:Int) (0:Int) (0:Int))]).getD i ub).tc,(uk++[(↑uh.length:Int)]).length=uk.length+1,∀ (i:Nat),i<(uk++[(↑uh.length:Int)]).length→i≠uk.length→i64T ((uk++[(↑uh.length:Int)]).getD i 0)=(i64T (uk.getD i 0)),i64T ((uk++[(↑uh.length:Int)]).getD uk.length 0) 0=TC.val (jg ja (↑uh.length:Int))] W0
     ·exact tTo (fun xUnit=>C39 g ps ba sh ac fe ue uj uh uk uo ug) zca () trivial [] [13,14,15,16,30,31,32] [MpEq zbf uo (zb1 ug) (zbq ug) none zbf uo (zb1 ug) (zbq ug) none,zf=za,(fenC fe g.nodes ue.toNat uh).length=uh.length,∀ (i:Nat),i<(fenC fe g.nodes ue.toNat uh).length→((fenC fe g.nodes ue.toNat uh).getD i ub).tc=(uh.getD i ub).tc,(uk++[(↑uh.length:Int)]).length=uk.length+1,∀ (i:Nat),i<(uk++[(↑uh.length:Int)]).length→i≠uk.length→i64T ((uk++[(↑uh.length:Int)]).getD i 0)=(i64T (uk.getD i 0)),i64T ((uk++[(↑uh.length:Int)]).getD uk.length 0) 0=TC.val (jg ja (↑uh.length:Int))] W0
    ·rintro ⟨⟩ hCC39
     refine RunF.cutm 1 (fun _:Unit=>C39b g ps ba sh ac fe ue uj uh uk uo ug) (fun _=>True) ?_ ?_
     ·rcases (show (g.nodes.getD ue.toNat ub).kind=(1:Int)∨(g.nodes.getD ue.toNat ub).kind=(2:Int)∨(g.nodes.getD ue.toNat ub).kind=(3:Int)∨(g.nodes.getD ue.toNat ub).kind=(4:Int)∨(g.nodes.getD ue.toNat ub).kind=(5:Int)∨(g.nodes.getD ue.toNat ub).kind=(6:Int)∨(g.nodes.getD ue.toNat ub).kind=(7:Int)∨(g.nodes.getD ue.toNat ub).kind=(8:Int)∨(g.nodes.getD ue.toNat ub).kind=(9:Int) from (by have z:=hk ue.toNat (by have q:=uc h2;have z:=hJ1.x0;have y0:=hJ1.len;have y4:=hJ1.cnt;have y1:=G5 fe g.nodes ue.toNat uh;have y2:=J1 ps ba sh fe g.nodes ue.toNat uh;have y3:=Gd ps ba sh fe g.nodes ue.toNat uh;have y5:=hor ue.toNat (by omega);have y6:=congrArg j5 hJ1.star;unfold starA at y6;rw [jP,kC] at y6;omega);omega)) with hs3 | hs3 | hs3 | hs3 | hs3 | hs3 | hs3 | hs3 | hs3
      ·refine tWk (St.mk 129 (zm ue g uj) [zp g ac sh ba ue,rowOf 13 (·.tc) g.nodes,rowOf 2 (·.tc) ps,IntRow fe,Reg.dead,zu uo ug,Reg.dead,za,ownOf 48 9 (·.tc) (fenC fe g.nodes ue.toNat uh),Reg.dead,Reg.box 101 [C.i .u8 1,zcG g ue,zcw g ue,zcq g ue,zcx g ue,zcj g ue,zck g ue,zcy g ue,zcl g ue,zcm g ue,zcz g ue,zc4 g ue,zcn g ue],Reg.dead,zaq uk uh] []) ?_ [] [13,14,17] [MpEq zbf uo (zb1 ug) (zbq ug) none zbf uo (zb1 ug) (zbq ug) none,zf=za,(1:Int)=(g.nodes.getD ue.toNat ub).kind] W63
       refine tz zbS ?_
       refine Q3 Q5p (Qno g ps ba sh ((g.nodes.getD ue.toNat ub).origin+(1:Int)) ac (g.nodes.getD ue.toNat ub) W1 W1 (fenC fe g.nodes ue.toNat uh) W1 W1) zc2 ?_ [11] [(g.nodes.getD ue.toNat ub).kind=(1:Int)] W0 (vc:=[Fits jl (1:Int),zbo.P=jb]) (hv:=W3)
       exact tTo (fun xUnit=>C39b g ps ba sh ac fe ue uj uh uk uo ug) zca () trivial zbP zc3 [MpEq zbf (uo+4) (fun (a:Int)=>(innS ug (g.nodes.getD ue.toNat ub) (↑(fenC fe g.nodes ue.toNat uh).length:Int) a).isSome) (fun (a:Int)=>(innS ug (g.nodes.getD ue.toNat ub) (↑(fenC fe g.nodes ue.toNat uh).length:Int) a).getD (0:Int)) none zbf uo (zb1 ug) (zbq ug) none,zg=za,(nodC ps ba sh fe g.nodes ue.toNat uh).length=((fenC fe g.nodes ue.toNat uh)++gSetN (Gm.mk ps ba sh ((g.nodes.getD ue.toNat ub).origin+(1:Int))) (g.nodes.getD ue.toNat ub)).length,∀ (i:Nat),i<(nodC ps ba sh fe g.nodes ue.toNat uh).length→(((nodC ps ba sh fe g.nodes ue.toNat uh).getD i ub).tc)=(((fenC fe g.nodes ue.toNat uh)++gSetN (Gm.mk ps ba sh ((g.nodes.getD ue.toNat ub).origin+(1:Int))) (g.nodes.getD ue.toNat ub)).getD i ub).tc,(g.nodes.getD ue.toNat ub).kind=(1:Int)] W0
      ·refine tWk (St.mk 129 (zm ue g uj) [zp g ac sh ba ue,rowOf 13 (·.tc) g.nodes,rowOf 2 (·.tc) ps,IntRow fe,Reg.dead,zu uo ug,Reg.dead,za,ownOf 48 9 (·.tc) (fenC fe g.nodes ue.toNat uh),Reg.dead,Reg.box 101 [C.i .u8 2,zcG g ue,zcw g ue,zcq g ue,zcx g ue,zcj g ue,zck g ue,zcy g ue,zcl g ue,zcm g ue,zcz g ue,zc4 g ue,zcn g ue],Reg.dead,zaq uk uh] []) ?_ [] [13,14,17] [MpEq zbf uo (zb1 ug) (zbq ug) none zbf uo (zb1 ug) (zbq ug) none,zf=za,(2:Int)=(g.nodes.getD ue.toNat ub).kind] W63
       refine tz zbS ?_
       refine Q3 Q4y (Qkk g ps ba sh ((g.nodes.getD ue.toNat ub).origin+(1:Int)) ac (g.nodes.getD ue.toNat ub) W1 W1 (fenC fe g.nodes ue.toNat uh) W1 W1) zc2 ?_ [11] [(g.nodes.getD ue.toNat ub).kind=(2:Int)] W0 (vc:=[Fits jl (2:Int),zbo.P=jb]) (hv:=W3)
       exact tTo (fun xUnit=>C39b g ps ba sh ac fe ue uj uh uk uo ug) zca () trivial zbP zc3 [MpEq zbf (uo+4) (fun (a:Int)=>(innS ug (g.nodes.getD ue.toNat ub) (↑(fenC fe g.nodes ue.toNat uh).length:Int) a).isSome) (fun (a:Int)=>(innS ug (g.nodes.getD ue.toNat ub) (↑(fenC fe g.nodes ue.toNat uh).length:Int) a).getD (0:Int)) none zbf uo (zb1 ug) (zbq ug) none,zg=za,(nodC ps ba sh fe g.nodes ue.toNat uh).length=((fenC fe g.nodes ue.toNat uh)++(putL ((g.nodes.getD ue.toNat ub).origin+(1:Int)) [Ins.mk (3:Int) (0:Int) (gGoal (Gm.mk ps ba sh ((g.nodes.getD ue.toNat ub).origin+(1:Int))) (g.nodes.getD ue.toNat ub).slot) (0:Int) (0:Int) (g.nodes.getD ue.toNat ub).thing (0:Int) (0:Int) (0:Int)]++gKeep (Gm.mk ps ba sh ((g.nodes.getD ue.toNat ub).origin+(1:Int))) (g.nodes.getD ue.toNat ub).slot)).length,∀ (i:Nat),i<(nodC ps ba sh fe g.nodes ue.toNat uh).length→(((nodC ps ba sh fe g.nodes ue.toNat uh).getD i ub).tc)=(((fenC fe g.nodes ue.toNat uh)++(putL ((g.nodes.getD ue.toNat ub).origin+(1:Int)) [Ins.mk (3:Int) (0:Int) (gGoal (Gm.mk ps ba sh ((g.nodes.getD ue.toNat ub).origin+(1:Int))) (g.nodes.getD ue.toNat ub).slot) (0:Int) (0:Int) (g.nodes.getD ue.toNat ub).thing (0:Int) (0:Int) (0:Int)]++gKeep (Gm.mk ps ba sh ((g.nodes.getD ue.toNat ub).origin+(1:Int))) (g.nodes.getD ue.toNat ub).slot)).getD i ub).tc,(g.nodes.getD ue.toNat ub).kind=(2:Int)] W0
      ·refine tWk (St.mk 129 (zm ue g uj) [zp g ac sh ba ue,rowOf 13 (·.tc) g.nodes,rowOf 2 (·.tc) ps,IntRow fe,Reg.dead,zu uo ug,Reg.dead,za,ownOf 48 9 (·.tc) (fenC fe g.nodes ue.toNat uh),Reg.dead,Reg.box 101 [C.i .u8 3,zcG g ue,zcw g ue,zcq g ue,zcx g ue,zcj g ue,zck g ue,zcy g ue,zcl g ue,zcm g ue,zcz g ue,zc4 g ue,zcn g ue],Reg.dead,zaq uk uh] []) ?_ [] [13,14,17] [MpEq zbf uo (zb1 ug) (zbq ug) none zbf uo (zb1 ug) (zbq ug) none,zf=za,(3:Int)=(g.nodes.getD ue.toNat ub).kind] W63
       refine tz zbS ?_
       refine Q3 Q40 (Qi5 g ps ba sh ((g.nodes.getD ue.toNat ub).origin+(1:Int)) ac (g.nodes.getD ue.toNat ub) W1 W1 (fenC fe g.nodes ue.toNat uh) W1 W1) zc2 ?_ [11] [(g.nodes.getD ue.toNat ub).kind=(3:Int)] W0 (vc:=[Fits jl (3:Int),zbo.P=jb]) (hv:=W3)
       exact tTo (fun xUnit=>C39b g ps ba sh ac fe ue uj uh uk uo ug) zca () trivial zbP zc3 [MpEq zbf (uo+4) (fun (a:Int)=>(innS ug (g.nodes.getD ue.toNat ub) (↑(fenC fe g.nodes ue.toNat uh).length:Int) a).isSome) (fun (a:Int)=>(innS ug (g.nodes.getD ue.toNat ub) (↑(fenC fe g.nodes ue.toNat uh).length:Int) a).getD (0:Int)) none zbf uo (zb1 ug) (zbq ug) none,zg=za,(nodC ps ba sh fe g.nodes ue.toNat uh).length=((fenC fe g.nodes ue.toNat uh)++(gFetch (Gm.mk ps ba sh ((g.nodes.getD ue.toNat ub).origin+(1:Int))) (g.nodes.getD ue.toNat ub).a (13:Int)++putL ((g.nodes.getD ue.toNat ub).origin+(1:Int)) [Ins.mk (4:Int) (0:Int) (0:Int) (gReg (Gm.mk ps ba sh ((g.nodes.getD ue.toNat ub).origin+(1:Int))) (g.nodes.getD ue.toNat ub).a (13:Int)) (0:Int) (g.nodes.getD ue.toNat ub).thing (0:Int) (0:Int) (0:Int)])).length,∀ (i:Nat),i<(nodC ps ba sh fe g.nodes ue.toNat uh).length→(((nodC ps ba sh fe g.nodes ue.toNat uh).getD i ub).tc)=(((fenC fe g.nodes ue.toNat uh)++(gFetch (Gm.mk ps ba sh ((g.nodes.getD ue.toNat ub).origin+(1:Int))) (g.nodes.getD ue.toNat ub).a (13:Int)++putL ((g.nodes.getD ue.toNat ub).origin+(1:Int)) [Ins.mk (4:Int) (0:Int) (0:Int) (gReg (Gm.mk ps ba sh ((g.nodes.getD ue.toNat ub).origin+(1:Int))) (g.nodes.getD ue.toNat ub).a (13:Int)) (0:Int) (g.nodes.getD ue.toNat ub).thing (0:Int) (0:Int) (0:Int)])).getD i ub).tc,(g.nodes.getD ue.toNat ub).kind=(3:Int)] W0
      ·refine tWk (St.mk 129 (zm ue g uj) [zp g ac sh ba ue,rowOf 13 (·.tc) g.nodes,rowOf 2 (·.tc) ps,IntRow fe,Reg.dead,zu uo ug,Reg.dead,za,ownOf 48 9 (·.tc) (fenC fe g.nodes ue.toNat uh),Reg.dead,Reg.box 101 [C.i .u8 4,zcG g ue,zcw g ue,zcq g ue,zcx g ue,zcj g ue,zck g ue,zcy g ue,zcl g ue,zcm g ue,zcz g ue,zc4 g ue,zcn g ue],Reg.dead,zaq uk uh] []) ?_ [] [13,14,17] [MpEq zbf uo (zb1 ug) (zbq ug) none zbf uo (zb1 ug) (zbq ug) none,zf=za,(4:Int)=(g.nodes.getD ue.toNat ub).kind] W63
       refine tz zbS ?_
       refine Q3 Q4z (Qkl g ps ba sh ((g.nodes.getD ue.toNat ub).origin+(1:Int)) ac (g.nodes.getD ue.toNat ub) W1 W1 (fenC fe g.nodes ue.toNat uh) W1 W1) zc2 ?_ [11] [(g.nodes.getD ue.toNat ub).kind=(4:Int)] W0 (vc:=[Fits jl (4:Int),zbo.P=jb]) (hv:=W3)
       exact tTo (fun xUnit=>C39b g ps ba sh ac fe ue uj uh uk uo ug) zca () trivial zbP zc3 [MpEq zbf (uo+4) (fun (a:Int)=>(innS ug (g.nodes.getD ue.toNat ub) (↑(fenC fe g.nodes ue.toNat uh).length:Int) a).isSome) (fun (a:Int)=>(innS ug (g.nodes.getD ue.toNat ub) (↑(fenC fe g.nodes ue.toNat uh).length:Int) a).getD (0:Int)) none zbf uo (zb1 ug) (zbq ug) none,zg=za,(nodC ps ba sh fe g.nodes ue.toNat uh).length=((fenC fe g.nodes ue.toNat uh)++gSwapN (Gm.mk ps ba sh ((g.nodes.getD ue.toNat ub).origin+(1:Int))) (g.nodes.getD ue.toNat ub)).length,∀ (i:Nat),i<(nodC ps ba sh fe g.nodes ue.toNat uh).length→(((nodC ps ba sh fe g.nodes ue.toNat uh).getD i ub).tc)=(((fenC fe g.nodes ue.toNat uh)++gSwapN (Gm.mk ps ba sh ((g.nodes.getD ue.toNat ub).origin+(1:Int))) (g.nodes.getD ue.toNat ub)).getD i ub).tc,(g.nodes.getD ue.toNat ub).kind=(4:Int)] W0
      ·refine tWk (St.mk 129 (zm ue g uj) [zp g ac sh ba ue,rowOf 13 (·.tc) g.nodes,rowOf 2 (·.tc) ps,IntRow fe,Reg.dead,zu uo ug,Reg.dead,za,ownOf 48 9 (·.tc) (fenC fe g.nodes ue.toNat uh),Reg.dead,Reg.box 101 [C.i .u8 5,zcG g ue,zcw g ue,zcq g ue,zcx g ue,zcj g ue,zck g ue,zcy g ue,zcl g ue,zcm g ue,zcz g ue,zc4 g ue,zcn g ue],Reg.dead,zaq uk uh] []) ?_ [] [13,14,17] [MpEq zbf uo (zb1 ug) (zbq ug) none zbf uo (zb1 ug) (zbq ug) none,zf=za,(5:Int)=(g.nodes.getD ue.toNat ub).kind] W63
       refine tz zbS ?_
       refine Q3 Q50 (Qkm g ps ba sh ((g.nodes.getD ue.toNat ub).origin+(1:Int)) ac (g.nodes.getD ue.toNat ub) W1 W1 (fenC fe g.nodes ue.toNat uh) W1 uo ug W1 W1) zc2 ?_ [11,12] [MpEq MTi uo (zb1 ug) (zbq ug) none zbf uo (zb1 ug) (zbq ug) none,(g.nodes.getD ue.toNat ub).kind=(5:Int)] W0 (vc:=[Fits jl (5:Int),zbo.P=jb]) (hv:=W3)
       exact tTo (fun xUnit=>C39b g ps ba sh ac fe ue uj uh uk uo ug) zca () trivial zbP zc3 [MpEq zbf (uo+4) (fun (a:Int)=>(innS ug (g.nodes.getD ue.toNat ub) (↑(fenC fe g.nodes ue.toNat uh).length:Int) a).isSome) (fun (a:Int)=>(innS ug (g.nodes.getD ue.toNat ub) (↑(fenC fe g.nodes ue.toNat uh).length:Int) a).getD (0:Int)) none zbf (uo+4) (fun (a:Int)=>(innF ug (↑(fenC fe g.nodes ue.toNat uh).length:Int) a).isSome) (fun (a:Int)=>(innF ug (↑(fenC fe g.nodes ue.toNat uh).length:Int) a).getD (0:Int)) none,zg=za,(nodC ps ba sh fe g.nodes ue.toNat uh).length=((fenC fe g.nodes ue.toNat uh)++putL ((g.nodes.getD ue.toNat ub).origin+(1:Int)) [(Ins.mk (1:Int) (0:Int) (15:Int) (0:Int) (0:Int) (0:Int) (0:Int) (1:Int) (0:Int)),Ins.mk (5:Int) (0:Int) (15:Int) (0:Int) (0:Int) (sh+(g.nodes.getD ue.toNat ub).thing) (0:Int) (0:Int) (0:Int),Ins.mk (9:Int) (0:Int) (0:Int) (15:Int) (0:Int) (0:Int) ((↑(fenC fe g.nodes ue.toNat uh).length:Int)+(4:Int)) (0:Int) (0:Int),Ins.mk (8:Int) (0:Int) (0:Int) (0:Int) (0:Int) (0:Int) (↑(fenC fe g.nodes ue.toNat uh).length:Int) (0:Int) (0:Int)]).length,∀ (i:Nat),i<(nodC ps ba sh fe g.nodes ue.toNat uh).length→(((nodC ps ba sh fe g.nodes ue.toNat uh).getD i ub).tc)=(((fenC fe g.nodes ue.toNat uh)++putL ((g.nodes.getD ue.toNat ub).origin+(1:Int)) [(Ins.mk (1:Int) (0:Int) (15:Int) (0:Int) (0:Int) (0:Int) (0:Int) (1:Int) (0:Int)),Ins.mk (5:Int) (0:Int) (15:Int) (0:Int) (0:Int) (sh+(g.nodes.getD ue.toNat ub).thing) (0:Int) (0:Int) (0:Int),Ins.mk (9:Int) (0:Int) (0:Int) (15:Int) (0:Int) (0:Int) ((↑(fenC fe g.nodes ue.toNat uh).length:Int)+(4:Int)) (0:Int) (0:Int),Ins.mk (8:Int) (0:Int) (0:Int) (0:Int) (0:Int) (0:Int) (↑(fenC fe g.nodes ue.toNat uh).length:Int) (0:Int) (0:Int)]).getD i ub).tc,(g.nodes.getD ue.toNat ub).kind=(5:Int)] W0
      ·refine tWk (St.mk 129 (zm ue g uj) [zp g ac sh ba ue,rowOf 13 (·.tc) g.nodes,rowOf 2 (·.tc) ps,IntRow fe,Reg.dead,zu uo ug,Reg.dead,za,ownOf 48 9 (·.tc) (fenC fe g.nodes ue.toNat uh),Reg.dead,Reg.box 101 [C.i .u8 6,zcG g ue,zcw g ue,zcq g ue,zcx g ue,zcj g ue,zck g ue,zcy g ue,zcl g ue,zcm g ue,zcz g ue,zc4 g ue,zcn g ue],Reg.dead,zaq uk uh] []) ?_ [] [13,14,17] [MpEq zbf uo (zb1 ug) (zbq ug) none zbf uo (zb1 ug) (zbq ug) none,zf=za,(6:Int)=(g.nodes.getD ue.toNat ub).kind] W63
       refine tz zbS ?_
       refine Q3 Q39 (Qfn g ps ba sh ((g.nodes.getD ue.toNat ub).origin+(1:Int)) ac (g.nodes.getD ue.toNat ub) W1 W1 (fenC fe g.nodes ue.toNat uh) W1 W1) zc2 ?_ [11] [(g.nodes.getD ue.toNat ub).kind=(6:Int)] W0 (vc:=[Fits jl (6:Int),zbo.P=jb]) (hv:=W3)
       exact tTo (fun xUnit=>C39b g ps ba sh ac fe ue uj uh uk uo ug) zca () trivial zbP zc3 [MpEq zbf (uo+4) (fun (a:Int)=>(innS ug (g.nodes.getD ue.toNat ub) (↑(fenC fe g.nodes ue.toNat uh).length:Int) a).isSome) (fun (a:Int)=>(innS ug (g.nodes.getD ue.toNat ub) (↑(fenC fe g.nodes ue.toNat uh).length:Int) a).getD (0:Int)) none zbf uo (zb1 ug) (zbq ug) none,zg=za,(nodC ps ba sh fe g.nodes ue.toNat uh).length=((fenC fe g.nodes ue.toNat uh)++(putL ((g.nodes.getD ue.toNat ub).origin+(1:Int)) [(Ins.mk (1:Int) (0:Int) (15:Int) (0:Int) (0:Int) (0:Int) (0:Int) (0:Int) (0:Int)),Ins.mk (4:Int) (0:Int) (0:Int) (15:Int) (0:Int) (sh+(g.nodes.getD ue.toNat ub).thing) (0:Int) (0:Int) (0:Int)])).length,∀ (i:Nat),i<(nodC ps ba sh fe g.nodes ue.toNat uh).length→(((nodC ps ba sh fe g.nodes ue.toNat uh).getD i ub).tc)=(((fenC fe g.nodes ue.toNat uh)++(putL ((g.nodes.getD ue.toNat ub).origin+(1:Int)) [(Ins.mk (1:Int) (0:Int) (15:Int) (0:Int) (0:Int) (0:Int) (0:Int) (0:Int) (0:Int)),Ins.mk (4:Int) (0:Int) (0:Int) (15:Int) (0:Int) (sh+(g.nodes.getD ue.toNat ub).thing) (0:Int) (0:Int) (0:Int)])).getD i ub).tc,(g.nodes.getD ue.toNat ub).kind=(6:Int)] W0
      ·refine tWk (St.mk 129 (zm ue g uj) [zp g ac sh ba ue,rowOf 13 (·.tc) g.nodes,rowOf 2 (·.tc) ps,IntRow fe,Reg.dead,zu uo ug,Reg.dead,za,ownOf 48 9 (·.tc) (fenC fe g.nodes ue.toNat uh),Reg.dead,Reg.box 101 [C.i .u8 7,zcG g ue,zcw g ue,zcq g ue,zcx g ue,zcj g ue,zck g ue,zcy g ue,zcl g ue,zcm g ue,zcz g ue,zc4 g ue,zcn g ue],Reg.dead,zaq uk uh] []) ?_ [] [13,14,17] [MpEq zbf uo (zb1 ug) (zbq ug) none zbf uo (zb1 ug) (zbq ug) none,zf=za,(7:Int)=(g.nodes.getD ue.toNat ub).kind] W63
       refine tz zbS ?_
       refine Q3 Q41 (Qi6 g ps ba sh ((g.nodes.getD ue.toNat ub).origin+(1:Int)) ac (g.nodes.getD ue.toNat ub) W1 W1 (fenC fe g.nodes ue.toNat uh) W1 W1) zc2 ?_ [11] [(g.nodes.getD ue.toNat ub).kind=(7:Int)] W0 (vc:=[Fits jl (7:Int),zbo.P=jb]) (hv:=W3)
       exact tTo (fun xUnit=>C39b g ps ba sh ac fe ue uj uh uk uo ug) zca () trivial zbP zc3 [MpEq zbf (uo+4) (fun (a:Int)=>(innS ug (g.nodes.getD ue.toNat ub) (↑(fenC fe g.nodes ue.toNat uh).length:Int) a).isSome) (fun (a:Int)=>(innS ug (g.nodes.getD ue.toNat ub) (↑(fenC fe g.nodes ue.toNat uh).length:Int) a).getD (0:Int)) none zbf uo (zb1 ug) (zbq ug) none,zg=za,(nodC ps ba sh fe g.nodes ue.toNat uh).length=((fenC fe g.nodes ue.toNat uh)++(gFetch (Gm.mk ps ba sh ((g.nodes.getD ue.toNat ub).origin+(1:Int))) (g.nodes.getD ue.toNat ub).a (13:Int)++putL ((g.nodes.getD ue.toNat ub).origin+(1:Int)) [Ins.mk (7:Int) (0:Int) (0:Int) (gReg (Gm.mk ps ba sh ((g.nodes.getD ue.toNat ub).origin+(1:Int))) (g.nodes.getD ue.toNat ub).a (13:Int)) (0:Int) (0:Int) (0:Int) (0:Int) (0:Int)])).length,∀ (i:Nat),i<(nodC ps ba sh fe g.nodes ue.toNat uh).length→(((nodC ps ba sh fe g.nodes ue.toNat uh).getD i ub).tc)=(((fenC fe g.nodes ue.toNat uh)++(gFetch (Gm.mk ps ba sh ((g.nodes.getD ue.toNat ub).origin+(1:Int))) (g.nodes.getD ue.toNat ub).a (13:Int)++putL ((g.nodes.getD ue.toNat ub).origin+(1:Int)) [Ins.mk (7:Int) (0:Int) (0:Int) (gReg (Gm.mk ps ba sh ((g.nodes.getD ue.toNat ub).origin+(1:Int))) (g.nodes.getD ue.toNat ub).a (13:Int)) (0:Int) (0:Int) (0:Int) (0:Int) (0:Int)])).getD i ub).tc,(g.nodes.getD ue.toNat ub).kind=(7:Int)] W0
      ·refine tWk (St.mk 129 (zm ue g uj) [zp g ac sh ba ue,rowOf 13 (·.tc) g.nodes,rowOf 2 (·.tc) ps,IntRow fe,Reg.dead,zu uo ug,Reg.dead,za,ownOf 48 9 (·.tc) (fenC fe g.nodes ue.toNat uh),Reg.dead,Reg.box 101 [C.i .u8 8,zcG g ue,zcw g ue,zcq g ue,zcx g ue,zcj g ue,zck g ue,zcy g ue,zcl g ue,zcm g ue,zcz g ue,zc4 g ue,zcn g ue],Reg.dead,zaq uk uh] []) ?_ [] [13,14,17] [MpEq zbf uo (zb1 ug) (zbq ug) none zbf uo (zb1 ug) (zbq ug) none,zf=za,(8:Int)=(g.nodes.getD ue.toNat ub).kind] W63
       refine tz zbS ?_
       refine Q3 Q3a (Qfo g ps ba sh ((g.nodes.getD ue.toNat ub).origin+(1:Int)) ac (g.nodes.getD ue.toNat ub) W1 W1 (fenC fe g.nodes ue.toNat uh) W1 W1) zc2 ?_ [11] [(g.nodes.getD ue.toNat ub).kind=(8:Int)] W0 (vc:=[Fits jl (8:Int),zbo.P=jb]) (hv:=W3)
       exact tTo (fun xUnit=>C39b g ps ba sh ac fe ue uj uh uk uo ug) zca () trivial zbP zc3 [MpEq zbf (uo+4) (fun (a:Int)=>(innS ug (g.nodes.getD ue.toNat ub) (↑(fenC fe g.nodes ue.toNat uh).length:Int) a).isSome) (fun (a:Int)=>(innS ug (g.nodes.getD ue.toNat ub) (↑(fenC fe g.nodes ue.toNat uh).length:Int) a).getD (0:Int)) none zbf uo (zb1 ug) (zbq ug) none,zg=za,(nodC ps ba sh fe g.nodes ue.toNat uh).length=((fenC fe g.nodes ue.toNat uh)++gBranch (Gm.mk ps ba sh ((g.nodes.getD ue.toNat ub).origin+(1:Int))) (g.nodes.getD ue.toNat ub)).length,∀ (i:Nat),i<(nodC ps ba sh fe g.nodes ue.toNat uh).length→(((nodC ps ba sh fe g.nodes ue.toNat uh).getD i ub).tc)=(((fenC fe g.nodes ue.toNat uh)++gBranch (Gm.mk ps ba sh ((g.nodes.getD ue.toNat ub).origin+(1:Int))) (g.nodes.getD ue.toNat ub)).getD i ub).tc,(g.nodes.getD ue.toNat ub).kind=(8:Int)] W0
      ·refine tWk (St.mk 129 (zm ue g uj) [zp g ac sh ba ue,rowOf 13 (·.tc) g.nodes,rowOf 2 (·.tc) ps,IntRow fe,Reg.dead,zu uo ug,Reg.dead,za,ownOf 48 9 (·.tc) (fenC fe g.nodes ue.toNat uh),Reg.dead,Reg.box 101 [C.i .u8 9,zcG g ue,zcw g ue,zcq g ue,zcx g ue,zcj g ue,zck g ue,zcy g ue,zcl g ue,zcm g ue,zcz g ue,zc4 g ue,zcn g ue],Reg.dead,zaq uk uh] []) ?_ [] [13,14,17] [MpEq zbf uo (zb1 ug) (zbq ug) none zbf uo (zb1 ug) (zbq ug) none,zf=za,(9:Int)=(g.nodes.getD ue.toNat ub).kind] W63
       refine tz zbS ?_
       refine Q3 Q5q (Qnp g ps ba sh ((g.nodes.getD ue.toNat ub).origin+(1:Int)) ac (g.nodes.getD ue.toNat ub) W1 W1 (fenC fe g.nodes ue.toNat uh) W1 W1) zc2 ?_ [11] [(g.nodes.getD ue.toNat ub).kind=(9:Int)] W0 (vc:=[Fits jl (9:Int),zbo.P=jb]) (hv:=W3)
       exact tTo (fun xUnit=>C39b g ps ba sh ac fe ue uj uh uk uo ug) zca () trivial zbP zc3 [MpEq zbf (uo+4) (fun (a:Int)=>(innS ug (g.nodes.getD ue.toNat ub) (↑(fenC fe g.nodes ue.toNat uh).length:Int) a).isSome) (fun (a:Int)=>(innS ug (g.nodes.getD ue.toNat ub) (↑(fenC fe g.nodes ue.toNat uh).length:Int) a).getD (0:Int)) none zbf uo (zb1 ug) (zbq ug) none,zg=za,(nodC ps ba sh fe g.nodes ue.toNat uh).length=((fenC fe g.nodes ue.toNat uh)++putL ((g.nodes.getD ue.toNat ub).origin+(1:Int)) [(Ins.mk (10:Int) (0:Int) (0:Int) (0:Int) (0:Int) (0:Int) (0:Int) (0:Int) (0:Int))]).length,∀ (i:Nat),i<(nodC ps ba sh fe g.nodes ue.toNat uh).length→(((nodC ps ba sh fe g.nodes ue.toNat uh).getD i ub).tc)=(((fenC fe g.nodes ue.toNat uh)++putL ((g.nodes.getD ue.toNat ub).origin+(1:Int)) [(Ins.mk (10:Int) (0:Int) (0:Int) (0:Int) (0:Int) (0:Int) (0:Int) (0:Int) (0:Int))]).getD i ub).tc,(g.nodes.getD ue.toNat ub).kind=(9:Int)] W0
     ·rintro ⟨⟩ hCC39b
      refine RunF.cutm 2 (fun _:Unit=>C39c g ps ba sh ac fe ue uj uh uk uo ug) (fun _=>True) ?_ ?_
      ·refine tz zbS ?_
       refine Q0 (!decide ((g.nodes.getD ue.toNat ub).kind=(9:Int))&&!decide ((g.nodes.getD ue.toNat ub).next=ue+(1:Int))) (fun h3=>?_) (fun h3=>?_) (vc:=[(!decide ((g.nodes.getD ue.toNat ub).kind=(9:Int)))=true→Fits ja (ue+(1:Int))]) (hv:=W3)
       ·refine tz zbS ?_
        refine Q3 Qf (Qi3 g ps ba sh ((g.nodes.getD ue.toNat ub).origin+(1:Int)) ac [(Ins.mk (8:Int) (0:Int) (0:Int) (0:Int) (0:Int) (0:Int) (g.nodes.getD ue.toNat ub).next (0:Int) (0:Int))] (nodC ps ba sh fe g.nodes ue.toNat uh) W1 W1) [0,1,2,3,8,5,12,13] ?_ zbH [[(Ins.mk (8:Int) (0:Int) (0:Int) (0:Int) (0:Int) (0:Int) (g.nodes.getD ue.toNat ub).next (0:Int) (0:Int))].length=1,∀ (i:Nat),i < [(Ins.mk (8:Int) (0:Int) (0:Int) (0:Int) (0:Int) (0:Int) (g.nodes.getD ue.toNat ub).next (0:Int) (0:Int))].length→i≠0→([(Ins.mk (8:Int) (0:Int) (0:Int) (0:Int) (0:Int) (0:Int) (g.nodes.getD ue.toNat ub).next (0:Int) (0:Int))].getD i ub).tc=fun x=>TC.any,(Ins.mk (8:Int) (0:Int) (0:Int) (0:Int) (0:Int) (0:Int) (g.nodes.getD ue.toNat ub).next (0:Int) (0:Int)).tc 0=TC.val (jg jl (8:Int)),(Ins.mk (8:Int) (0:Int) (0:Int) (0:Int) (0:Int) (0:Int) (g.nodes.getD ue.toNat ub).next (0:Int) (0:Int)).tc 1=TC.val (jg jl (0:Int)),(Ins.mk (8:Int) (0:Int) (0:Int) (0:Int) (0:Int) (0:Int) (g.nodes.getD ue.toNat ub).next (0:Int) (0:Int)).tc 2=TC.val (jg ja (0:Int)),(Ins.mk (8:Int) (0:Int) (0:Int) (0:Int) (0:Int) (0:Int) (g.nodes.getD ue.toNat ub).next (0:Int) (0:Int)).tc 3=TC.val (jg ja (0:Int)),(Ins.mk (8:Int) (0:Int) (0:Int) (0:Int) (0:Int) (0:Int) (g.nodes.getD ue.toNat ub).next (0:Int) (0:Int)).tc 4=TC.val (jg ja (0:Int)),(Ins.mk (8:Int) (0:Int) (0:Int) (0:Int) (0:Int) (0:Int) (g.nodes.getD ue.toNat ub).next (0:Int) (0:Int)).tc 5=TC.val (jg ja (0:Int)),(Ins.mk (8:Int) (0:Int) (0:Int) (0:Int) (0:Int) (0:Int) (g.nodes.getD ue.toNat ub).next (0:Int) (0:Int)).tc 6=TC.val (jg ja (g.nodes.getD ue.toNat ub).next),(Ins.mk (8:Int) (0:Int) (0:Int) (0:Int) (0:Int) (0:Int) (g.nodes.getD ue.toNat ub).next (0:Int) (0:Int)).tc 7=TC.val (jg ja (0:Int)),(Ins.mk (8:Int) (0:Int) (0:Int) (0:Int) (0:Int) (0:Int) (g.nodes.getD ue.toNat ub).next (0:Int) (0:Int)).tc 8=TC.val (jg ja (0:Int))] W0
        exact tTo (fun xUnit=>C39c g ps ba sh ac fe ue uj uh uk uo ug) zca () trivial [0,1,2,3,4,5,6,7,14,9,10,11,12] [13,14,15,16] [MpEq zbf (uo+4) (fun (a:Int)=>(innS ug (g.nodes.getD ue.toNat ub) (↑(fenC fe g.nodes ue.toNat uh).length:Int) a).isSome) (fun (a:Int)=>(innS ug (g.nodes.getD ue.toNat ub) (↑(fenC fe g.nodes ue.toNat uh).length:Int) a).getD (0:Int)) none zbf (uo+4) (fun (a:Int)=>(innS ug (g.nodes.getD ue.toNat ub) (↑(fenC fe g.nodes ue.toNat uh).length:Int) a).isSome) (fun (a:Int)=>(innS ug (g.nodes.getD ue.toNat ub) (↑(fenC fe g.nodes ue.toNat uh).length:Int) a).getD (0:Int)) none,zQ=za,(stepC ps ba sh fe g.nodes ue.toNat uh).length=((nodC ps ba sh fe g.nodes ue.toNat uh)++putL ((g.nodes.getD ue.toNat ub).origin+(1:Int)) [(Ins.mk (8:Int) (0:Int) (0:Int) (0:Int) (0:Int) (0:Int) (g.nodes.getD ue.toNat ub).next (0:Int) (0:Int))]).length,∀ (i:Nat),i<(stepC ps ba sh fe g.nodes ue.toNat uh).length→((stepC ps ba sh fe g.nodes ue.toNat uh).getD i ub).tc=(((nodC ps ba sh fe g.nodes ue.toNat uh)++putL ((g.nodes.getD ue.toNat ub).origin+(1:Int)) [(Ins.mk (8:Int) (0:Int) (0:Int) (0:Int) (0:Int) (0:Int) (g.nodes.getD ue.toNat ub).next (0:Int) (0:Int))]).getD i ub).tc] W0
       ·exact tTo (fun xUnit=>C39c g ps ba sh ac fe ue uj uh uk uo ug) zca () trivial [] [13,14,15,16] [MpEq zbf (uo+4) (fun (a:Int)=>(innS ug (g.nodes.getD ue.toNat ub) (↑(fenC fe g.nodes ue.toNat uh).length:Int) a).isSome) (fun (a:Int)=>(innS ug (g.nodes.getD ue.toNat ub) (↑(fenC fe g.nodes ue.toNat uh).length:Int) a).getD (0:Int)) none zbf (uo+4) (fun (a:Int)=>(innS ug (g.nodes.getD ue.toNat ub) (↑(fenC fe g.nodes ue.toNat uh).length:Int) a).isSome) (fun (a:Int)=>(innS ug (g.nodes.getD ue.toNat ub) (↑(fenC fe g.nodes ue.toNat uh).length:Int) a).getD (0:Int)) none,zf=za,(stepC ps ba sh fe g.nodes ue.toNat uh).length=(nodC ps ba sh fe g.nodes ue.toNat uh).length,∀ (i:Nat),i<(stepC ps ba sh fe g.nodes ue.toNat uh).length→((stepC ps ba sh fe g.nodes ue.toNat uh).getD i ub).tc=(((nodC ps ba sh fe g.nodes ue.toNat uh).getD i ub).tc)] W0
      ·rintro ⟨⟩ hCC39c
       refine tz [16,15,14,3,2,0] ?_
       refine Q0 (decide ((16384:Int)<(↑(stepC ps ba sh fe g.nodes ue.toNat uh).length:Int))) (fun h3=>?_) (fun h3=>?_)
       ·exact Q2 [0,1,2,3,4,5,6,8,12] [7] [MpEq MTi (uo+4) (fun (a:Int)=>(innS ug (g.nodes.getD ue.toNat ub) (↑(fenC fe g.nodes ue.toNat uh).length:Int) a).isSome) (fun (a:Int)=>(innS ug (g.nodes.getD ue.toNat ub) (↑(fenC fe g.nodes ue.toNat uh).length:Int) a).getD (0:Int)) none zbf (uo+4) (fun (a:Int)=>(innS ug (g.nodes.getD ue.toNat ub) (↑(fenC fe g.nodes ue.toNat uh).length:Int) a).isSome) (fun (a:Int)=>(innS ug (g.nodes.getD ue.toNat ub) (↑(fenC fe g.nodes ue.toNat uh).length:Int) a).getD (0:Int)) none] W150 (res:=_) (post:=_) (hS:=⟨(false,(stepC ps ba sh fe g.nodes ue.toNat uh),uk++[(uh.length:Int)],uo+4,innS ug (g.nodes.getD ue.toNat ub) ((fenC fe g.nodes ue.toNat uh).length:Int),(g.nodes.getD ue.toNat ub).origin+1),W123,rfl,rfl⟩)
       ·exact Q4 (we g ps ba sh ac fe F0) (ue,uj,uh,uk,uz,uo,ug) ((ue+(1:Int),uj,stepC ps ba sh fe g.nodes ue.toNat uh,(uk++[(↑uh.length:Int)]),(g.nodes.getD ue.toNat ub).origin+(1:Int),uo+4,innS ug (g.nodes.getD ue.toNat ub) (↑(fenC fe g.nodes ue.toNat uh).length:Int))) (by dsimp only [we];have q:=uc h2;have z:=hJ1.x0;omega) (hJ1.next (uc h2) rfl h3) [0,1,2,3,4,5,6,7,8,12] [13,14] [MpEq zbf (uo+4) (fun (a:Int)=>(innS ug (g.nodes.getD ue.toNat ub) (↑(fenC fe g.nodes ue.toNat uh).length:Int) a).isSome) (fun (a:Int)=>(innS ug (g.nodes.getD ue.toNat ub) (↑(fenC fe g.nodes ue.toNat uh).length:Int) a).getD (0:Int)) none zbf (uo+4) (fun (a:Int)=>(innS ug (g.nodes.getD ue.toNat ub) (↑(fenC fe g.nodes ue.toNat uh).length:Int) a).isSome) (fun (a:Int)=>(innS ug (g.nodes.getD ue.toNat ub) (↑(fenC fe g.nodes ue.toNat uh).length:Int) a).getD (0:Int)) none,Reg.mpv zbo kA 9 (List.map (fun x=>(x.fst,C.ren (at' [0,1,2,3,4,5,6,7,8,12]) x.snd)) zb3)=za] W0 (vc:=([Fits ja (ue+(1:Int))])) (hv:=W3)
 ·refine tz [16,15,14,3,2,0] ?_
  refine Q7 (vw g ps ba sh ac fe uj uh uk uz uo ug) (((0:Int),uh,uk,uz,uo,ug)) (⟨jE _,by omega,rfl,rfl,rfl⟩) ?_ [0,1,2,3,4,5,6,7,8,9,8,9] [13,14] [MpEq zbf uo (zb1 ug) (zbq ug) none zbf uo (zb1 ug) (zbq ug) none,Reg.mpv zbo kA 9 (List.map (fun x=>(x.fst,C.ren (at' [0,1,2,3,4,5,6,7,8,9,8,9]) x.snd)) zb3)=za] W0
  rintro ⟨ui,uq,ut,uA,uL,uE⟩ hJ3
  dsimp only [vw] at hJ3
  refine tz [85,84,2,0] ?_
  refine Q0 (decide (ui<(↑uh.length:Int))) (fun h4=>?_) (fun h4=>?_)
  ·refine tz [85,84,2,0] ?_
   refine Q0 ((decide ((uq.getD ui.toNat ub).kind=(8:Int))||decide ((uq.getD ui.toNat ub).kind=(9:Int)))&&decide ((uE ui).getD (0:Int)=(0:Int))) (fun h5=>?_) (fun h5=>?_) (vc:=[(0:Int)≤ui,ui<(↑uq.length:Int),ui.toNat<uq.length,decide ((uq.getD ui.toNat ub).kind=(8:Int))=false→ui.toNat<uq.length,(decide ((uq.getD ui.toNat ub).kind=(8:Int))||decide ((uq.getD ui.toNat ub).kind=(9:Int)))=true→Fits ja ui,(decide ((uq.getD ui.toNat ub).kind=(8:Int))||decide ((uq.getD ui.toNat ub).kind=(9:Int)))=true→zbf.P=jb]) (hv:=W3)
   ·exact Q4 (vw g ps ba sh ac fe uj uh uk uz uo ug) (ui,uq,ut,uA,uL,uE) ((ui+(1:Int),(uq.set ui.toNat (Ins.mk (uq.getD ui.toNat ub).kind (uq.getD ui.toNat ub).op (uq.getD ui.toNat ub).d (uq.getD ui.toNat ub).a (uq.getD ui.toNat ub).b (uq.getD ui.toNat ub).addr (ut.getD (uq.getD ui.toNat ub).to.toNat (0:Int)) (uq.getD ui.toNat ub).word (uq.getD ui.toNat ub).from_)),ut,uA,uL,uE)) W195 W130 [] [13,14,15,16] [MpEq zbf uL (zb1 uE) (zbq uE) none zbf uL (zb1 uE) (zbq uE) none,zR=za,(uq.set ui.toNat (Ins.mk (uq.getD ui.toNat ub).kind (uq.getD ui.toNat ub).op (uq.getD ui.toNat ub).d (uq.getD ui.toNat ub).a (uq.getD ui.toNat ub).b (uq.getD ui.toNat ub).addr (ut.getD (uq.getD ui.toNat ub).to.toNat (0:Int)) (uq.getD ui.toNat ub).word (uq.getD ui.toNat ub).from_)).length=uq.length,∀ (i:Nat),i<(uq.set ui.toNat (Ins.mk (uq.getD ui.toNat ub).kind (uq.getD ui.toNat ub).op (uq.getD ui.toNat ub).d (uq.getD ui.toNat ub).a (uq.getD ui.toNat ub).b (uq.getD ui.toNat ub).addr (ut.getD (uq.getD ui.toNat ub).to.toNat (0:Int)) (uq.getD ui.toNat ub).word (uq.getD ui.toNat ub).from_)).length→((uq.set ui.toNat (Ins.mk (uq.getD ui.toNat ub).kind (uq.getD ui.toNat ub).op (uq.getD ui.toNat ub).d (uq.getD ui.toNat ub).a (uq.getD ui.toNat ub).b (uq.getD ui.toNat ub).addr (ut.getD (uq.getD ui.toNat ub).to.toNat (0:Int)) (uq.getD ui.toNat ub).word (uq.getD ui.toNat ub).from_)).getD i ub).tc=updT (fun i=>(uq.getD i ub).tc) ui.toNat 6 [jg ja (ut.getD (uq.getD ui.toNat ub).to.toNat (0:Int))] i] W0 (vc:=[ui.toNat<uq.length,(0:Int)≤(uq.getD ui.toNat ub).to,(uq.getD ui.toNat ub).to<(↑ut.length:Int),(uq.getD ui.toNat ub).to.toNat<ut.length,ui.toNat<uq.length,Fits ja (ui+(1:Int))]) (hv:=W3)
   ·exact Q4 (vw g ps ba sh ac fe uj uh uk uz uo ug) (ui,uq,ut,uA,uL,uE) ((ui+(1:Int),uq,ut,uA,uL,uE)) W195 W130 [] [13,14] [MpEq zbf uL (zb1 uE) (zbq uE) none zbf uL (zb1 uE) (zbq uE) none,zR=za] W0 (vc:=([Fits ja (ui+(1:Int))])) (hv:=W3)
  ·exact Q2 [0,1,2,3,4,5,6,10,11] [7] [MpEq MTi uL (zb1 uE) (zbq uE) none zbf uL (zb1 uE) (zbq uE) none] W150 (res:=_) (post:=_) (hS:=⟨(true,uq,ut,uL,uE,uA),W123,rfl,rfl⟩)
def wg (sh:List Dcl) (lk:List Dcl) (gs:List Grf) (al:List Alc):Lp (Int×List Int):=⟨fun x=>{ N:=48,fr:=[se 15 (C.i .i64 x.1),se 14 (zcr sh),se 13 (C.h 0),se 6 (C.h 5),se 5 (C.v (zbO)),zam,se 2 (C.p 4 0),se 1 (C.h 3)],rg:=[rowOf 3 (·.tc) sh,rowOf 3 (·.tc) lk,rowOf 4 (·.tc) gs,rowOf 2 (·.tc) al,zH]++[WordOwn x.2],wr:=[] },fun x=>0≤x.1∧x.1≤(sh.length:Int)∧x.2=(sh.take x.1.toNat).map (·.word),fun x=>((sh.length:Int)-x.1).toNat⟩
def wh (sh:List Dcl) (lk:List Dcl) (gs:List Grf) (al:List Alc):Lp (Int×List Int×List Int):=⟨fun x=>{ N:=48,fr:=[se 32 (C.i .i64 x.1),se 31 (C.i .i64 (↑al.length:Int)),se 30 (C.h 3),se 9 (C.h 7),se 6 (C.h 6),se 5 (C.v (zbO)),zam],rg:=[rowOf 3 (·.tc) sh,rowOf 3 (·.tc) lk,rowOf 4 (·.tc) gs,rowOf 2 (·.tc) al,zH,Reg.dead,WordOwn (x.2.2)]++[IntOwn x.2.1],wr:=[] },fun x=>0≤x.1∧x.1≤(al.length:Int)∧x.2.1=mAt sh lk al x.1.toNat∧x.2.2=memL sh lk al x.1.toNat,fun x=>((al.length:Int)-x.1).toNat⟩
abbrev zdv (y0:List Alc) (y1:Int):Alc:=y0.getD y1.toNat ub
theorem Qkn (sh lk:List Dcl) (gs:List Grf) (al:List Alc) (hsl:sh.length≤1000000) (hll:lk.length≤1000000) (hal:al.length≤1000) (hac:∀ j:Nat,j<al.length→0≤(al.getD j ub).cells∧(al.getD j ub).cells≤4160):Ctr jb 35 [Dcl.rowR sh,Dcl.rowR lk,Grf.rowR gs,Alc.rowR al] [zbC,.c (.h 3)]
 (Det (.tup [(false,[.h 4]),(false,[.h 5])]) [.dead,.dead,.dead,.dead,WordOwn (memL sh lk al al.length),IntOwn (mAt sh lk al al.length)]):=by
 refine Ctr.intro [] Tryz.func35 K K ?_
 refine Q7 (wg sh lk gs al) (((0:Int),[])) (⟨jE _,by omega,rfl⟩) ?_ [0,1,2,3,4,1000005] [8] [(0:Nat)=0] W45
 rintro ⟨ue,uj⟩ hJ1
 dsimp only [wg] at hJ1
 refine tz [15,14,13,6,5,4,2,1] ?_
 refine Q0 (decide (ue<(↑sh.length:Int))) (fun h2=>?_) (fun h2=>?_)
 ·exact Q4 (wg sh lk gs al) (ue,uj) ((ue+(1:Int),uj++[(sh.getD ue.toNat ub).word])) (by dsimp only [wg];have q:=uc h2;have z:=hJ1.1;omega) (⟨by omega,by have q:=uc h2;omega,by rw [hJ1.2.2,show (ue+1).toNat=ue.toNat+1 by omega,Qd3 sh _ W158]⟩) [0,1,2,3,4,8] [8,9,10] [(uj++[(sh.getD ue.toNat ub).word]).length=uj.length+1,∀ (i:Nat),i<(uj++[(sh.getD ue.toNat ub).word]).length→i≠uj.length→i64T ((uj++[(sh.getD ue.toNat ub).word]).getD i 0)=(i64T (uj.getD i 0)),i64T ((uj++[(sh.getD ue.toNat ub).word]).getD uj.length 0) 0=TC.val (jg ja (sh.getD ue.toNat ub).word)] W45 (vc:=[(0:Int)≤ue,ue<(↑sh.length:Int),ue.toNat<sh.length,uj.length+1≤maxLen,(uj.length+1) * 8≤140737488355328,Fits ja (ue+(1:Int))]) (hv:=W37)
 ·refine tz [15,14,13,6,5,4,2,1] ?_
  refine RunF.hereL (vc:=[(0:Int)≤(↑lk.length:Int),uj.length+lk.length≤maxLen,(uj.length+lk.length) * 8≤140737488355328]) K W37 ?_
  refine Qb4 6 ((WordOwn (memL sh lk al 0))) ?_ (vc:=[(memL sh lk al 0).length=uj.length+lk.length,∀ (i:Nat),i<(memL sh lk al 0).length→i64T ((memL sh lk al 0).getD i 0)=fun j=>if i<uj.length then i64T (uj.getD i 0) j else valT (jg ja (0:Int)).cells.toList j]) (hv:=W127)
  refine tz [32,31,30,9,6,5,4] ?_
  refine Q7 (wh sh lk gs al) (((0:Int),[],memL sh lk al 0)) (⟨jE _,by omega,rfl,rfl⟩) ?_ [0,1,2,3,4,5,6,1000007] [10] [(0:Nat)=0] W45
  rintro ⟨ui,uq,ut⟩ hJ3
  dsimp only [wh] at hJ3
  refine tz [32,31,30,9,6,5,4] ?_
  refine Q0 (decide (ui<(↑al.length:Int))) (fun h4=>?_) (fun h4=>?_)
  ·refine Y4 3 (ui.toNat) ?_ (vc:=[ui.toNat<al.length]) (hv:=W37)
   refine RunF.hereJ (vc:=[(0:Int)≤ui,ui<(↑al.length:Int),ui.toNat=ui.toNat,uq.length+1≤maxLen,(uq.length+1) * 8≤140737488355328,(0:Int)≤(al.getD ui.toNat ub).cells,ut.length+(al.getD ui.toNat ub).cells.toNat≤maxLen,(ut.length+(al.getD ui.toNat ub).cells.toNat) * 8≤140737488355328,Fits ja (ui+(1:Int))]) K K W37 ?_
   refine Qb4 12 ((WordOwn (memL sh lk al (ui.toNat+1)))) ?_ (vc:=[(memL sh lk al (ui.toNat+1)).length=ut.length+(al.getD ui.toNat ub).cells.toNat,∀ (i:Nat),i<(memL sh lk al (ui.toNat+1)).length→i64T ((memL sh lk al (ui.toNat+1)).getD i 0)=fun j=>if i<ut.length then i64T (ut.getD i 0) j else valT (jg ja (0:Int)).cells.toList j]) (hv:=W127)
   exact Q4 (wh sh lk gs al) (ui,uq,ut) ((ui+(1:Int),uq++[(↑ut.length:Int)],memL sh lk al (ui.toNat+1))) (by dsimp only [wh];have q:=uc h4;have z:=hJ3.1;omega) (⟨by omega,by have q:=uc h4;omega,by rw [hJ3.2.2.1,hJ3.2.2.2,show (ui+1).toNat=ui.toNat+1 by omega,Qjq],by rw [show (ui+1).toNat=ui.toNat+1 by omega]⟩) [0,1,2,3,4,5,12,11] [10,11,12] [(uq++[(↑ut.length:Int)]).length=uq.length+1,∀ (i:Nat),i<(uq++[(↑ut.length:Int)]).length→i≠uq.length→i64T ((uq++[(↑ut.length:Int)]).getD i 0)=(i64T (uq.getD i 0)),i64T ((uq++[(↑ut.length:Int)]).getD uq.length 0) 0=TC.val (jg ja (↑ut.length:Int))] W45
  ·exact Q2 [0,1,2,3,6,7] [0,1,2,3] [(memL sh lk al al.length).length=ut.length,∀ (i:Nat),i<(memL sh lk al al.length).length→i64T ((memL sh lk al al.length).getD i 0)=(i64T (ut.getD i 0)),(mAt sh lk al al.length).length=uq.length,∀ (i:Nat),i<(mAt sh lk al al.length).length→i64T ((mAt sh lk al al.length).getD i 0)=(i64T (uq.getD i 0))] (by simp only [Conj];(repeat' apply jo)<;>first | trivial | rfl | (intros;first | trivial | rfl) | (have q:=ud h4;have e:ui.toNat=al.length:=(by omega);have e1:=hJ3.2.2.1;have e2:=hJ3.2.2.2;rw [e] at e1 e2;subst e1 e2;first | rfl | (intros;rfl)))
def wi (X:Ext) (sh:List Dcl) (lk:List Dcl) (gs:List Grf) (fs:List Iln) (al:List Alc) (bf:Int):Lp (Int×List Iln×Int×List Cor):=⟨fun x=>{ N:=99,fr:=[se 50 (C.i .i64 x.1),se 49 (zcS gs),se 48 (C.h 2),se 15 (C.h 11),se 14 (C.p 10 0),se 13 (C.h 9),se 10 (C.i .i64 x.2.2.1),se 9 (C.v (zbO)),se 8 (C.p 7 0),se 1 (C.h 4),se 2 (C.h 5)],rg:=[rowOf 3 (·.tc) sh,rowOf 3 (·.tc) lk,rowOf 4 (·.tc) gs,Reg.froz X,rowOf 1 (·.tc) fs,rowOf 2 (·.tc) al,zH,Reg.box 31 [C.v (zbO),C.i .i64 0,C.i .i64 0,C.i .i64 0,C.v (zbO)],WordOwn (memL sh lk al al.length),IntOwn (mAt sh lk al al.length),Reg.box 31 [C.h 8,zcr sh,zcr lk,C.i .i64 bf,C.h 12]]++[Iln.ownR x.2.1]++[Cor.ownR x.2.2.2],wr:=[] },fun x=>MadJ sh lk gs fs al x.1 x.2.2.2 x.2.1,fun x=>((gs.length:Int)-x.1).toNat⟩
abbrev zcX:List Nat:=[0,1,2,3,4,5,1000006,1000007,1000008]
abbrev zdk:List Prop:=[(0:Nat)=0,(0:Nat)=0,(0:Nat)=0]
abbrev zdu (y0:MadY):List C:=[.h 6,.i .i64 y0.2.2.2.2.1,.i .i64 y0.2.2.2.2.2.1,.i .i64 y0.2.2.2.2.2.2,.h 7]
theorem Qi7 (X:Ext) (hX:TabX X) (sh lk:List Dcl) (gs:List Grf) (hs:zx sh) (hl:zx lk) (hg:zM gs) (hw:UnitW gs) (fs:List Iln) (hfs:zaf fs) (al:List Alc) (hp:zab al) (bf:Int):Ctr jb 21 (za6 sh lk gs X fs al) (zdd bf)
 (DetE (fun y:MadY=>y=madU sh lk gs fs al bf) (fun y=>.tup [(true,(zdu y)),(false,[.h 8]),(false,[.i .i64 y.1])]) (fun y=>[.dead,.dead,.dead,.dead,.dead,.dead,WordOwn y.2.1,Cor.ownR y.2.2.1,Iln.ownR y.2.2.2.1])):=by
 refine Ctr.intro [] Tryz.func21 K K ?_
 refine Q3 Qcx (Qnk X W15 sh lk gs W15 W15 W15 W15 fs W15 al W15 bf) [] ?_
 refine tz [23,10,9,8,4,1,2,3] ?_
 refine Q0 (!decide (fauU sh lk gs fs al bf=(0:Int))) (fun h1=>?_) (fun h1=>?_)
 ·exact Q2 zcX [0,1,2] [(0:Nat)=0,(0:Nat)=0,(0:Nat)=0] (by simp only [Conj] at *<;>grind) (res:=_) (post:=_) (hS:=⟨(fauU sh lk gs fs al bf,[],[],[],0,0,0),W125,rfl,rfl⟩)
 ·refine tz [10,9,8,4,1,2,3] ?_
  refine Q3 Qb8 (Qkn sh lk gs al W15 W15 W15 W15) [0,1,2,5] ?_
  refine tz [31,10,9,8,4,1,2,3] ?_
  refine Q0 (decide ((4096:Int)<(↑(memL sh lk al al.length).length:Int))) (fun h2=>?_) (fun h2=>?_)
  ·exact Q2 zcX [0,1,2] [(0:Nat)=0,(0:Nat)=0,(0:Nat)=0] (by simp only [Conj] at *<;>grind) (res:=_) (post:=_) (hS:=⟨(3,[],[],[],0,0,0),W125,rfl,rfl⟩)
  ·refine tz [13,12,10,9,8,4,1,2,3] ?_
   refine Q7 (wi X sh lk gs fs al bf) (((0:Int),[],(0:Int),[])) MadJ.start ?_ [0,1,2,3,4,5,6,7,8,9,10,1000011,1000012] [23,24] [(0:Nat)=0,(0:Nat)=0] W8
   rintro ⟨ui,uq,ut,uA⟩ hJ3
   dsimp only [wi] at hJ3
   refine tz [50,49,48,15,14,13,10,9,8,1,2] ?_
   refine Q0 (decide (ui<(↑gs.length:Int))) (fun h4=>?_) (fun h4=>?_)
   ·refine Y4 2 (ui.toNat) ?_ (vc:=[ui.toNat<gs.length]) (hv:=W42)
    refine Y4 4 (ui.toNat) ?_ (vc:=[ui.toNat<fs.length]) (hv:=W42)
    refine Y4 5 (ui.toNat) ?_ (vc:=[ui.toNat<al.length]) (hv:=W42)
    refine tz [50,49,48,15,14,13,10,9,8,1,2] ?_
    refine Qn Q5o (Qr0 (gs.getD ui.toNat ub) ((al.getD ui.toNat ub).places) ((mAt sh lk al al.length).getD ui.toNat 0) (↑sh.length:Int) ((al.getD ui.toNat ub).cells) ((fs.getD ui.toNat ub).l) (fun x=>none) W15 W15 W15 W15 W15 W15 W15 W15) [18,13,15,14,4,17,6] ?_ [15] [MpEq MTi 0 (fun a=>false) (fun a=>(0:Int)) none zbf 0 (fun x=>false) (fun x=>KA.zero [CK.i ja]) none] W8 (vc:=[(0:Int)≤ui,ui<(↑gs.length:Int),ui.toNat=ui.toNat,(0:Int)≤ui,ui<(↑al.length:Int),ui.toNat=ui.toNat,(0:Int)≤ui,ui<(↑fs.length:Int),ui.toNat=ui.toNat,(0:Int)≤ui,ui<(↑(mAt sh lk al al.length).length:Int),ui.toNat<(mAt sh lk al al.length).length,zbf.P=jb,zbf.Ok,zbf.P=jb,zbf.Ok]) (hv:=W42)
    rintro ⟨ul,ux,uy,uB,wo,wq⟩ hY5
    try dsimp only at hY5
    refine tz [74,18,17,50,49,48,15,14,13,10,9,8,1,2] ?_
    refine Q0 (!ul) (fun h6=>?_) (fun h6=>?_)
    ·exact Q2 zcX [0,1,2] [(0:Nat)=0,(0:Nat)=0,(0:Nat)=0] (by simp only [Conj] at *<;>grind) (res:=_) (post:=_) (hS:=⟨(3,[],[],[],0,0,0),W125,rfl,rfl⟩)
    ·exact Q6t (wi X sh lk gs fs al bf) (ui,uq,ut,uA) ((ui+(1:Int),uq++[Iln.mk uy],ut,uA++[Cor.mk (gs.getD ui.toNat ub).name ux])) (by dsimp only [wi];have q:=uc h4;have z:=hJ3.x0;omega) (by have e:=hY5.2 (by simpa using h6);have e1:=e.1;have e2:=e.2;subst e1 e2;exact hJ3.next h4 (by have q6:=h6;rw [hY5.1] at q6;exact q6)) [(22,(Cor.tc (Cor.mk (gs.getD ui.toNat ub).name ux))),(24,(Iln.tc (Iln.mk uy)))] [0,1,2,3,4,5,6,7,8,9,10,24,22] [23,24,25,26] [(uq++[Iln.mk uy]).length=uq.length+1,∀ (i:Nat),i<(uq++[Iln.mk uy]).length→((uq++[Iln.mk uy]).getD i ub).tc=if i=uq.length then (Iln.mk uy).tc else (uq.getD i ub).tc,(uA++[Cor.mk (gs.getD ui.toNat ub).name ux]).length=uA.length+1,∀ (i:Nat),i<(uA++[Cor.mk (gs.getD ui.toNat ub).name ux]).length→((uA++[Cor.mk (gs.getD ui.toNat ub).name ux]).getD i ub).tc=if i=uA.length then (Cor.mk (gs.getD ui.toNat ub).name ux).tc else (uA.getD i ub).tc] W75 (vc:=[uA.length+1≤maxLen,(uA.length+1) * 40≤140737488355328,uq.length+1≤maxLen,(uq.length+1) * 24≤140737488355328,Fits ja (ui+(1:Int))]) (hv:=W42) (vc2:=[jG (gs.getD ui.toNat ub).name=jG (gs.getD ui.toNat ub).name,ux.length=ux.length,∀ (i:Nat),i<ux.length→(ux.getD i ub).tc=(ux.getD i ub).tc,uy.length=uy.length,∀ (i:Nat),i<uy.length→(i64T (uy.getD i 0))=(i64T (uy.getD i 0))]) (hv2:=W172)
   ·exact Q2 [0,1,2,3,4,5,8,12,11] (res:=_) (post:=_) (hS:=⟨(0,memL sh lk al al.length,uA,uq,(sh.length:Int),(lk.length:Int),bf),W125,rfl,rfl⟩)
theorem Q7h (X:Ext) (hX:TabX X) (sh lk:List Dcl) (gs:List Grf) (hs:zx sh) (hl:zx lk) (hg:zM gs) (hw:UnitW gs) (fs:List Iln) (hfs:zaf fs) (al:List Alc) (hp:zab al) (bf:Int):Ctr jb 7 (za6 sh lk gs X fs al) (zdd bf)
 (DetE (fun y:MadY=>y=madU sh lk gs fs al bf) (fun y=>.tup [(true,(zdu y)),(false,[.i .i64 y.1])]) (fun y=>[.dead,.dead,.dead,.dead,.dead,.dead,WordOwn y.2.1,Cor.ownR y.2.2.1,.dead])):=by
 refine Ctr.intro [] Tryz.func7 K K ?_
 refine Qn Q72 (Qi7 X W49 sh lk gs W49 W49 W49 W49 fs W49 al W49 bf) [] ?_
 rintro ⟨ue,uj,uh,uk,uz,uo,ug⟩ hY1
 try dsimp only at hY1
 exact Q2 [0,1,2,3,4,5,8,9,1000008] (res:=_) (post:=_) (hS:=⟨(ue,uj,uh,uk,uz,uo,ug),hY1,rfl,rfl⟩)
theorem Qko (X:Ext) (hX:TabX X) (sh lk:List Dcl) (gs:List Grf) (hs:zx sh) (hl:zx lk) (hg:zM gs) (hw:UnitW gs) (fs:List Iln) (hfs:zaf fs) (al:List Alc) (hp:zab al):Ctr jb 9 (za6 sh lk gs X fs al) [zbC,.c (.h 4),.c (.h 5)]
 (DetE (fun y:MadY=>y=madU sh lk gs fs al 1) (fun y=>.tup [(false,[.h 8]),(false,[.i .i64 y.1])]) (fun y=>[.dead,.dead,.dead,.dead,.dead,.dead,.dead,.dead,Iln.ownR y.2.2.2.1])):=by
 refine Ctr.intro [] Tryz.func9 K K ?_
 refine Qn Q72 (Qi7 X W49 sh lk gs W49 W49 W49 W49 fs W49 al W49 1) [] ?_
 rintro ⟨ue,uj,uh,uk,uz,uo,ug⟩ hY1
 try dsimp only at hY1
 exact Q2 [0,1,2,3,4,5,6,7,9] (res:=_) (post:=_) (hS:=⟨(ue,uj,uh,uk,uz,uo,ug),hY1,rfl,rfl⟩)
def kNs:List Nod:=[⟨3,0,0,0,⟨false,0,5⟩,⟨false,0,0⟩,1,0,0⟩,⟨2,0,0,0,⟨false,0,0⟩,⟨false,0,0⟩,2,0,1⟩,⟨7,0,0,0,⟨true,0,0⟩,⟨false,0,0⟩,3,0,2⟩,⟨9,0,0,0,⟨false,0,0⟩,⟨false,0,0⟩,0,0,3⟩]
def kSh:List Dcl:=[⟨⟨#[120]⟩,0,0⟩]
def kGs:List Grf:=[⟨⟨#[97]⟩,0,1,kNs⟩]
def kAl:List Alc:=[⟨[⟨false,0⟩],0⟩]
def kF1:List Iln:=[⟨[1]⟩]
def kF0:List Iln:=[⟨[]⟩]
theorem Zs {α:Type} (P:α→Prop) (l:List α) (d:α) (h:∀ x∈l,P x) (hd:P d) (a:Nat):P (l.getD a d):=by
 rw [jc]
 cases e:l[a]? with
 | none=>exact hd
 | some x=>exact h x (ju e)
theorem kUw:UnitW kGs:=fun a b=>by
 refine Zs (fun g:Grf=>0≤(g.nodes.getD b ub).kind∧0≤(g.nodes.getD b ub).op∧(g.nodes.getD b ub).op≤255) kGs ub (fun x hx=>?_) ?_ a
 ·refine Zs (fun n:Nod=>0≤n.kind∧0≤n.op∧n.op≤255) x.nodes ub (fun n hn=>?_) W145 b
  simp only [kGs,ky,ki,or_false] at hx
  subst hx
  simp only [kNs,ky,ki,or_false] at hn
  rcases hn with rfl | rfl | rfl | rfl<;>decide
 ·exact Zs (fun n:Nod=>0≤n.kind∧0≤n.op∧n.op≤255) [] ub (fun n hn=>by cases hn) W145 b
theorem kSn:∀ j:Nat,(kSh.getD j ub).name.size≤maxLen:=fun j=>Zs (fun d:Dcl=>d.name.size≤maxLen) kSh ub (fun x hx=>by
 simp only [kSh,ky,ki,or_false] at hx
 subst hx;decide) W145 j
theorem kLn:∀ j:Nat,(([]:List Dcl).getD j ub).name.size≤maxLen:=fun j=>Zs (fun d:Dcl=>d.name.size≤maxLen) [] ub (fun x hx=>by cases hx) W145 j
theorem kGn:∀ j:Nat,(kGs.getD j ub).name.size≤maxLen:=fun j=>Zs (fun d:Grf=>d.name.size≤maxLen) kGs ub (fun x hx=>by
 simp only [kGs,ky,ki,or_false] at hx
 subst hx;decide) W145 j
theorem kAn:∀ j:Nat,(kAl.getD j ub).places.length≤9223372036854775807:=fun j=>Zs (fun d:Alc=>d.places.length≤9223372036854775807) kAl ub (fun x hx=>by
 simp only [kAl,ky,ki,or_false] at hx
 subst hx;decide) W145 j
theorem Qr7:∀ j:Nat,(kF1.getD j ub).l.length≤9223372036854775807:=fun j=>Zs (fun d:Iln=>d.l.length≤9223372036854775807) kF1 ub (fun x hx=>by
 simp only [kF1,ky,ki,or_false] at hx
 subst hx;decide) W145 j
theorem Qr8:∀ j:Nat,(kF0.getD j ub).l.length≤9223372036854775807:=fun j=>Zs (fun d:Iln=>d.l.length≤9223372036854775807) kF0 ub (fun x hx=>by
 simp only [kF0,ky,ki,or_false] at hx
 subst hx;decide) W145 j
theorem Qr9:(chkU kSh [] kGs).1=0:=by kernel_rfl
theorem Qpk:rgtU kSh [] kGs kAl=(true,0):=by
 unfold rgtU
 rw [if_neg (by rw [Qr9];decide),if_neg W145,if_neg (by rw [show ((jD kGs.length).all fun t=>fitB (kGs.getD t ub).slots (kAl.getD t ub))=true by kernel_rfl];decide)]
 have:okF kGs kAl kGs.length=true:=by
  unfold okF okS
  simp [kGs,kAl,atL]
 rw [this]
theorem Qr1:fauU kSh [] kGs kF1 kAl 4=0:=by
 unfold fauU
 rw [Qpk,if_neg (by rw [show safU kSh [] kGs kF1=0 by kernel_rfl];decide),if_neg W145,if_neg W145,if_neg W145]
theorem Qr2:fauU kSh [] kGs kF0 kAl 1=0:=by
 unfold fauU
 rw [Qpk,if_neg (by rw [show safU kSh [] kGs kF0=0 by kernel_rfl];decide),if_neg W145,if_neg W145,if_neg W145]
def kCode:List Ins:=[⟨1,0,13,0,0,0,0,5,1⟩,⟨4,0,0,13,0,0,0,0,1⟩,⟨6,0,0,0,0,0,0,0,2⟩,⟨3,0,0,0,0,0,0,0,2⟩,⟨7,0,0,0,0,0,0,0,3⟩,⟨10,0,0,0,0,0,0,0,4⟩]
theorem Qr3:madU kSh [] kGs kF1 kAl 4=(0,[0],[⟨⟨#[97]⟩,kCode⟩],[⟨[0,2,4,5]⟩],1,0,4):=by
 unfold madU
 rw [Qr1,if_neg W145,if_neg W145,if_pos (by kernel_rfl)]
 kernel_rfl
theorem Qr4:∃ c,madU kSh [] kGs kF0 kAl 1=(0,[0],c,[⟨[0,2,3,4]⟩],1,0,1):=by
 refine ⟨corL kSh [] kGs kF0 kAl kGs.length,?_⟩
 unfold madU
 rw [Qr2,if_neg W145,if_neg W145,if_pos (by kernel_rfl)]
 kernel_rfl
def wj (a:List Int) (b:List Int):Lp (Int×Bool):=⟨fun x=>{ N:=26,fr:=[se 13 (C.i .i64 x.1),se 12 (C.i .i64 (↑a.length:Int)),se 4 (C.b x.2),se 0 (C.h 0),se 1 (C.h 1)],rg:=[IntRow a,IntRow b],wr:=[] },fun x=>0≤x.1∧x.1≤(a.length:Int)∧a.length=b.length∧∀ j:Nat,(j:Int)<x.1→a.getD j ub=b.getD j ub,fun x=>((a.length:Int)-x.1).toNat⟩
theorem Qpl (a b:List Int):Ctr jb 26 [IntRow a,IntRow b] [.c (.h 0),.c (.h 1)]
 (Det (.c (.b (decide (a=b)))) [.dead,.dead]):=by
 refine Ctr.intro [] Tryz.func26 K K ?_
 refine RunF.lens 0 (m:=a.length) K (fun hlens_0=>?_)
 refine Q0 (!decide ((↑a.length:Int)=(↑b.length:Int))) (fun h1=>?_) (fun h1=>?_)
 ·exact Q2 [] [0] [decide (a=b)=false] W112
 ·refine tz [4,0,1] ?_
  refine Q7 (wj a b) (((0:Int),false)) ⟨by omega,by omega,by simp at h1;omega,fun j hj=>absurd hj W29⟩ ?_
  rintro ⟨uf,un⟩ hJ2
  dsimp only [wj] at hJ2
  refine tz [13,12,4,0,1] ?_
  refine Q0 (decide (uf<(↑a.length:Int))) (fun h3=>?_) (fun h3=>?_)
  ·refine tz [13,12,4,0,1] ?_
   refine Q0 (!decide (a.getD uf.toNat 0=b.getD uf.toNat 0)) (fun h4=>?_) (fun h4=>?_) (vc:=[(0:Int)≤uf,uf<(↑a.length:Int),uf.toNat<a.length,(0:Int)≤uf,uf<(↑b.length:Int),uf.toNat<b.length]) (hv:=W32)
   ·exact Q2 [] [0] [decide (a=b)=false] W112
   ·exact Q4 (wj a b) (uf,un) ((uf+(1:Int),un)) (by dsimp only [wj];(try simp only [decide_eq_true_eq] at *);omega) ⟨by omega,by have:=uc h3;omega,hJ2.2.2.1,Q9m hJ2.2.2.2 hJ2.1 (by show a.getD uf.toNat 0=b.getD uf.toNat 0;simpa using h4)⟩ (vc:=(zb4 uf)) (hv:=W32)
  ·exact Q2 [] [0] [decide (a=b)=true] W112
theorem Qee {P:Program} {f:Nat} {pre:List Reg} {args:List SV} {S S':SV→List Reg→Prop} (h:Ctr P f pre args S) (hs:∀ r p,S r p→S' r p):Ctr P f pre args S':=fun ε w hr=>(h ε w hr).mono fun _ _ ⟨r,p,ε',h1,h2⟩=>⟨r,p,ε',hs r p h1,h2⟩
theorem Qpm (X:Ext) (hX:TabX X):Ctr jb 7 [Dcl.rowR kSh,Dcl.rowR [],Grf.rowR kGs,.froz X,Iln.rowR kF1,Alc.rowR kAl] [zbC,.c (.h 4),.c (.h 5),.c (.i .i64 4)]
 (Det (.tup [(true,[.h 6,.i .i64 1,.i .i64 0,.i .i64 4,.h 7]),zc1]) [.dead,.dead,.dead,.dead,.dead,.dead,WordOwn [0],Cor.ownR [⟨⟨#[97]⟩,kCode⟩],.dead]):=Qee (Q7h X hX kSh [] kGs kSn kLn kGn kUw kF1 Qr7 kAl kAn 4) fun r p ⟨y,h1,h2,h3⟩=>by
 rw [Qr3] at h1;subst h1;exact ⟨h2,h3⟩
theorem Qpn (X:Ext) (hX:TabX X):Ctr jb 9 [Dcl.rowR kSh,Dcl.rowR [],Grf.rowR kGs,.froz X,Iln.rowR kF0,Alc.rowR kAl] [zbC,.c (.h 4),.c (.h 5)]
 (Det (.tup [(false,[.h 8]),zc1]) [.dead,.dead,.dead,.dead,.dead,.dead,.dead,.dead,Iln.ownR [⟨[0,2,3,4]⟩]]):=Qee (Qko X hX kSh [] kGs kSn kLn kGn kUw kF0 Qr8 kAl kAn) fun r p ⟨y,h1,h2,h3⟩=>by
 obtain ⟨c,e⟩:=Qr4
 rw [e] at h1;subst h1;exact ⟨h2,h3⟩
abbrev zcL:Value:=jC false
abbrev zdl:Value:=jg ja (2:Int)
abbrev zdm:Value:=jg ja (3:Int)
theorem Q9o :Ctr jb 25 [] []
 (Det (.agg [.h 0,.v (.slice none 0 0),.h 1]) [Dcl.ownR kSh,Grf.ownR kGs]):=by
 refine Ctr.intro [] Tryz.func25 K K ?_
 exact Qq5 [(2,(Dcl.tc ⟨⟨#[120]⟩,0,0⟩)),(3,(Grf.tc ⟨⟨#[97]⟩,0,1,kNs⟩))] [2,3] [0,1,2,3] [kSh.length=1,∀ (i:Nat),i<kSh.length→(kSh.getD i ub).tc=if i=0 then (Dcl.mk (ByteArray.mk #[(120:UInt8)]) (0:Int) (0:Int)).tc else fun x=>TC.any,kGs.length=1,∀ (i:Nat),i<kGs.length→(kGs.getD i ub).tc=if i=0 then (Grf.mk (ByteArray.mk #[(97:UInt8)]) (0:Int) (1:Int) kNs).tc else fun x=>TC.any] W50 (vc2:=[jG (ByteArray.mk #[(120:UInt8)])=jG (ByteArray.mk #[(120:UInt8)]),(0:Int)=(0:Int),(0:Int)=(0:Int),jG (ByteArray.mk #[(97:UInt8)])=jG (ByteArray.mk #[(97:UInt8)]),(0:Int)=(0:Int),(1:Int)=(1:Int),kNs.length=4,∀ (i:Nat),i<kNs.length→(kNs.getD i ub).tc=rowT 13 [zdq,zb6,zbh,zbh,zcL,zbh,jg ja (5:Int),zcL,zbh,zbh,zdi,zbh,zbh,zdr,zb6,zbh,zbh,zcL,zbh,zbh,zcL,zbh,zbh,zdl,zbh,zdi,zds,zb6,zbh,zbh,jC true,zbh,zbh,zcL,zbh,zbh,zdm,zbh,zdl,jg jl (9:Int),zb6,zbh,zbh,zcL,zbh,zbh,zcL,zbh,zbh,zbh,zbh,zdm] i]) (hv2:=W50)
abbrev zbg:Ins:=((Cor.mk (ByteArray.mk #[(97:UInt8)]) kCode).code.getD 0 ub)
abbrev zbi:Ins:=((Cor.mk (ByteArray.mk #[(97:UInt8)]) kCode).code.getD 2 ub)
abbrev zbR:List Int:=[(0:Int),(2:Int),(3:Int),(4:Int)]
abbrev zcE:Plc:=Plc.mk false (0:Int)
theorem Qi8 (X:Ext) (hX:TabX X):Ctr jb 11 [.froz X] []
 (Det (.c (.b true)) [.dead]):=by
 refine Ctr.intro [] Tryz.func11 K K ?_
 refine Q3 Je (Q9o) [] ?_
 refine tz [12,1,0] ?_
 refine RunF.hereC (vc:=[]) K K trivial ?_
 refine Q2f 1 ((Plc.tc ⟨false,0⟩)) ?_ (vc:=[false=false,(0:Int)=(0:Int)]) (hv:=W104)
 refine Q2f 2 ((Alc.tc ⟨[⟨false,0⟩],0⟩)) ?_ (vc:=[[zcE].length=1,∀ (i:Nat),i < [zcE].length→([zcE].getD i ub).tc=if i=0 then (zcE).tc else fun x=>TC.any,(0:Int)=(0:Int)]) (hv:=W104)
 refine Q2f 5 ((i64T 1)) ?_ (vc:=[(1:Int)=(1:Int)]) (hv:=W104)
 refine Q2f 6 ((Iln.tc ⟨[1]⟩)) ?_ (vc:=[[(1:Int)].length=1,∀ (i:Nat),i < [(1:Int)].length→i64T ([(1:Int)].getD i 0)=if i=0 then i64T (1:Int) else fun x=>TC.any]) (hv:=W104)
 refine tz [15,14,12,1,0] ?_
 refine Q3 Q1n (Qpm X (by first | assumption | decide)) [3,1000001,4,0,6,2] ?_ [0,2,3,6,7,8,9] [kSh.length=1,(0:Nat)=0,kGs.length=1,kF1.length=1,∀ (i:Nat),i<kF1.length→(kF1.getD i ub).tc=if i=0 then (Iln.mk [(1:Int)]).tc else fun x=>TC.any,kAl.length=1,∀ (i:Nat),i<kAl.length→(kAl.getD i ub).tc=if i=0 then (Alc.mk [zcE] (0:Int)).tc else fun x=>TC.any] W50
 refine tz [16,1,0] ?_
 refine Q3 Je (Q9o) [] ?_
 refine tz [20,3,2,1,0] ?_
 refine RunF.hereC (vc:=[]) K K trivial ?_
 refine Q2f 13 ((fun _=>TC.val (zbO))) ?_ (vc:=[zbO=zbO]) (hv:=W104)
 refine Ql0 13 (fun _=>Iln.tc ⟨[]⟩) ?_ (vc:=[∀ (i j:Nat),i<1→j<1→(Iln.mk []).tc j=(if i=0 then fun x=>TC.val (zbO) else fun x=>TC.any) j∨(if i=0 then fun x=>TC.val (zbO) else fun x=>TC.any) j=TC.val (zbO)∧∃ ty s g,(Iln.mk []).tc j=TC.sub ty s 0 g]) (hv:=(by simp only [Conj];intro i j hi hj;obtain rfl:i=0:=Nat.lt_one_iff.1 hi;obtain rfl:j=0:=Nat.lt_one_iff.1 hj;exact .inr ⟨rfl,_,_,_,rfl⟩))
 refine Qb4 13 ((Iln.ownR kF0)) ?_ (vc:=[kF0.length=1,∀ (i:Nat),i<kF0.length→(kF0.getD i ub).tc=(Iln.mk []).tc]) (hv:=(by simp only [Conj]<;>(repeat' apply jo)<;>first | trivial | rfl | (intro i hi;obtain rfl:i=0:=Nat.lt_one_iff.1 hi;rfl)))
 refine tz [22,21,20,3,2,0] ?_
 refine Q3 Qb7 (Qpn X (by first | assumption | decide)) [11,1000001,12,0,13,2] ?_ [0,2,3,6,8,9] [kSh.length=1,(0:Nat)=0,kGs.length=1,kF0.length=1,kAl.length=1,∀ (i:Nat),i<kAl.length→(kAl.getD i ub).tc=if i=0 then (Alc.mk [zcE] (0:Int)).tc else fun x=>TC.any] W50
 refine tz [23,3,2,0] ?_
 refine Q0 (!decide ((0:Int)=(0:Int))||!decide ((0:Int)=(0:Int))||!decide ((1:Int)=(1:Int))) (fun h1=>?_) (fun h1=>?_) (vc:=[(!decide ((0:Int)=(0:Int))||!decide ((0:Int)=(0:Int))||!decide ((1:Int)=(1:Int)))=false→(0:Int)≤(0:Int),(!decide ((0:Int)=(0:Int))||!decide ((0:Int)=(0:Int))||!decide ((1:Int)=(1:Int)))=false→(0:Int)<(1:Int)]) (hv:=W32)
 ·exact Bool.noConfusion (show true=false from h1.symm.trans (show _=false from by kernel_rfl))
 ·refine Y4 8 (0) ?_ (vc:=[0<1]) (hv:=W32)
  refine tz [42,38,4,2,0] ?_
  refine Q0 (!decide ((6:Int)=(6:Int))||!decide ((4:Int)=(4:Int))||!decide ((1:Int)=(1:Int))) (fun h2=>?_) (fun h2=>?_) (vc:=[0=0,(!decide ((6:Int)=(6:Int))||!decide ((4:Int)=(4:Int))||!decide ((1:Int)=(1:Int)))=false→(0:Int)≤(0:Int),(!decide ((6:Int)=(6:Int))||!decide ((4:Int)=(4:Int))||!decide ((1:Int)=(1:Int)))=false→(0:Int)<(1:Int)]) (hv:=W32)
  ·exact Bool.noConfusion (show true=false from h2.symm.trans (show _=false from by kernel_rfl))
  ·refine Y4 16 (0) ?_ (vc:=[0<1]) (hv:=W32)
   refine tz [59,57,2,0] ?_
   refine Q3 Q4u (Qpl ((Iln.mk zbR).l) zbR) [18,19] ?_ [0,2,3] [zbR.length=4,zbR.length=4,∀ (i:Nat),i < zbR.length→i64T (zbR.getD i 0)=rowT 1 [zbh,zdl,zdm,jg ja (4:Int)] i] W50 (vc:=[0=0]) (hv:=W32)
   refine tz [62,57,2,0] ?_
   refine Q0 (!decide ((Iln.mk zbR).l=zbR)) (fun h3=>?_) (fun h3=>?_)
   ·exact Bool.noConfusion (show true=false from h3.symm.trans (show _=false from by kernel_rfl))
   ·exact Q2 (vc:=[(0:Int)≤(0:Int),(0:Int)<(1:Int),0=0,(0:Int)≤(0:Int),(0:Int)<(6:Int),0<6,(decide (zbg.kind=(1:Int))&&(decide (zbg.op=(0:Int))&&(decide (zbg.d=(13:Int))&&(decide (zbg.a=(0:Int))&&(decide (zbg.b=(0:Int))&&(decide (zbg.addr=(0:Int))&&(decide (zbg.to=(0:Int))&&(decide (zbg.word=(5:Int))&&(decide (zbg.from_=(1:Int))&&true)))))))))=true→(0:Int)≤(2:Int),(decide (zbg.kind=(1:Int))&&(decide (zbg.op=(0:Int))&&(decide (zbg.d=(13:Int))&&(decide (zbg.a=(0:Int))&&(decide (zbg.b=(0:Int))&&(decide (zbg.addr=(0:Int))&&(decide (zbg.to=(0:Int))&&(decide (zbg.word=(5:Int))&&(decide (zbg.from_=(1:Int))&&true)))))))))=true→(2:Int)<(6:Int),(decide (zbg.kind=(1:Int))&&(decide (zbg.op=(0:Int))&&(decide (zbg.d=(13:Int))&&(decide (zbg.a=(0:Int))&&(decide (zbg.b=(0:Int))&&(decide (zbg.addr=(0:Int))&&(decide (zbg.to=(0:Int))&&(decide (zbg.word=(5:Int))&&(decide (zbg.from_=(1:Int))&&true)))))))))=true→2<6,(decide (zbg.kind=(1:Int))&&(decide (zbg.op=(0:Int))&&(decide (zbg.d=(13:Int))&&(decide (zbg.a=(0:Int))&&(decide (zbg.b=(0:Int))&&(decide (zbg.addr=(0:Int))&&(decide (zbg.to=(0:Int))&&(decide (zbg.word=(5:Int))&&(decide (zbg.from_=(1:Int))&&true))))))))&&(decide (zbi.kind=(6:Int))&&(decide (zbi.op=(0:Int))&&(decide (zbi.d=(0:Int))&&(decide (zbi.a=(0:Int))&&(decide (zbi.b=(0:Int))&&(decide (zbi.addr=(0:Int))&&(decide (zbi.to=(0:Int))&&(decide (zbi.word=(0:Int))&&(decide (zbi.from_=(2:Int))&&true))))))))))=true→(0:Int)≤(5:Int),(decide (zbg.kind=(1:Int))&&(decide (zbg.op=(0:Int))&&(decide (zbg.d=(13:Int))&&(decide (zbg.a=(0:Int))&&(decide (zbg.b=(0:Int))&&(decide (zbg.addr=(0:Int))&&(decide (zbg.to=(0:Int))&&(decide (zbg.word=(5:Int))&&(decide (zbg.from_=(1:Int))&&true))))))))&&(decide (zbi.kind=(6:Int))&&(decide (zbi.op=(0:Int))&&(decide (zbi.d=(0:Int))&&(decide (zbi.a=(0:Int))&&(decide (zbi.b=(0:Int))&&(decide (zbi.addr=(0:Int))&&(decide (zbi.to=(0:Int))&&(decide (zbi.word=(0:Int))&&(decide (zbi.from_=(2:Int))&&true))))))))))=true→(5:Int)<(6:Int),(decide (zbg.kind=(1:Int))&&(decide (zbg.op=(0:Int))&&(decide (zbg.d=(13:Int))&&(decide (zbg.a=(0:Int))&&(decide (zbg.b=(0:Int))&&(decide (zbg.addr=(0:Int))&&(decide (zbg.to=(0:Int))&&(decide (zbg.word=(5:Int))&&(decide (zbg.from_=(1:Int))&&true))))))))&&(decide (zbi.kind=(6:Int))&&(decide (zbi.op=(0:Int))&&(decide (zbi.d=(0:Int))&&(decide (zbi.a=(0:Int))&&(decide (zbi.b=(0:Int))&&(decide (zbi.addr=(0:Int))&&(decide (zbi.to=(0:Int))&&(decide (zbi.word=(0:Int))&&(decide (zbi.from_=(2:Int))&&true))))))))))=true→5<6]) (hv:=W32)
def wk (X:Ext) (sh:List Dcl) (lk:List Dcl) (gs:List Grf) (fs:List Iln) (al:List Alc) (un:List Int) (uG:List Cor) (uT:Int) (uU:Int) (uV:Int):Lp (Int×Bool):=⟨fun x=>{ N:=122,fr:=[se 90 (C.i .i64 x.1),se 89 (zdo uG),se 88 (C.h 8),se 9 (C.p 10 0),se 8 (C.b x.2),se 4 (C.p 6 0)],rg:=[rowOf 3 (·.tc) sh,rowOf 3 (·.tc) lk,rowOf 4 (·.tc) gs,Reg.froz X,rowOf 1 (·.tc) fs,rowOf 2 (·.tc) al,zH,WordOwn un,ownOf 44 2 (·.tc) uG,Reg.dead,Reg.box 31 [C.h 7,C.i .i64 uT,C.i .i64 uU,C.i .i64 uV,C.h 8]],wr:=[] },fun x=>0≤x.1,fun x=>((gs.length:Int)-x.1).toNat⟩
def wl (X:Ext) (sh:List Dcl) (lk:List Dcl) (gs:List Grf) (fs:List Iln) (al:List Alc) (un:List Int) (uG:List Cor) (uT:Int) (uU:Int) (uV:Int) (ux:Bool):Lp (Int×Bool):=⟨fun x=>{ N:=122,fr:=[se 108 (C.i .i64 x.1),se 107 (zcr sh),se 106 (C.h 0),se 9 (C.p 10 0),se 8 (C.b x.2)],rg:=[rowOf 3 (·.tc) sh,rowOf 3 (·.tc) lk,rowOf 4 (·.tc) gs,Reg.froz X,rowOf 1 (·.tc) fs,rowOf 2 (·.tc) al,zH,WordOwn un,ownOf 44 2 (·.tc) uG,Reg.dead,Reg.box 31 [C.h 7,C.i .i64 uT,C.i .i64 uU,C.i .i64 uV,C.h 8]],wr:=[] },fun x=>0≤x.1,fun x=>((sh.length:Int)-x.1).toNat⟩
theorem Qkp (X:Ext) (hX:TabX X) (sh lk:List Dcl) (gs:List Grf) (hs:zx sh) (hl:zx lk) (hg:zM gs) (hw:UnitW gs) (fs:List Iln) (hfs:zaf fs) (al:List Alc) (hp:zab al) (bf:Int):Ctr jb 6 (za6 sh lk gs X fs al) (zdd bf)
 (Det (.c (.b true)) [.dead,.dead,.dead,.dead,.dead,.dead]):=by
 refine Ctr.intro [] Tryz.func6 K K ?_
 refine Q3 Q3z (Qi8 X W126) [3] ?_
 refine tz [18,8,4,1,2,3] ?_
 refine Q0 (!true) (fun h1=>?_) (fun h1=>?_)
 ·exact absurd h1 W79
 ·refine tz [8,4,1,2,3] ?_
  refine Qn Q1n (Q7h X W126 sh lk gs W126 W126 W126 W126 fs W126 al W126 bf) [] ?_
  rintro ⟨uf,un,uG,uO,uT,uU,uV⟩ hY2
  try dsimp only at hY2
  refine tz [25,8,4,3] ?_
  refine Q0 (!decide (uf=(0:Int))) (fun h3=>?_) (fun h3=>?_)
  ·exact Q2 [] [0] [true=(decide ((↑uG.length:Int)=(0:Int))&&decide ((↑un.length:Int)=(0:Int)))] (by simp only [Conj];first | trivial | (obtain ⟨e1,e2⟩:=Qmy hY2 h3;subst e1 e2;rfl) | (repeat' apply jo)<;>first | trivial | rfl)
  ·have hM:FauQ sh lk gs fs al bf∧un=memL sh lk al al.length∧uG=corL sh lk gs fs al gs.length∧uO=sttL sh lk gs fs al gs.length∧uT=(sh.length:Int)∧uU=(lk.length:Int)∧uV=bf∧chkE un uT uU uV uG=0:=Qmz hY2 h3 hw
   refine tz [9,8,4,3] ?_
   refine Q3 Q7w (Qn2 un uT uU uV uG W126) [7,8] ?_
   refine tz [42,9,8,4,3] ?_
   refine Q0 (!decide (chkE un uT uU uV uG=(0:Int))||!decide ((↑uG.length:Int)=(↑gs.length:Int))||!decide (uT=(↑sh.length:Int))||!decide (uU=(↑lk.length:Int))||!decide (uV=bf)||decide ((↑un.length:Int)<uT)) (fun h4=>?_) (fun h4=>?_)
   ·exact (show False from by obtain ⟨q1,q2,q3,q4,q5,q6,q7,q8⟩:=hM;have z:=Qe4 (sh:=sh) (lk:=lk) (al:=al);have z1:=J2 sh lk gs fs al gs.length;rw [← q2] at z;rw [← q3] at z1;simp only [jT,jN,decide_eq_true_eq,decide_eq_false_iff_not] at h4;omega).elim
   ·refine tz [9,8,4] ?_
    refine Q7 (wk X sh lk gs fs al un uG uT uU uV) (((0:Int),false)) (jE _) ?_
    rintro ⟨ul,ux⟩ hJ5
    dsimp only [wk] at hJ5
    refine tz [90,89,88,9,8,4] ?_
    refine Q0 (decide (ul<(↑uG.length:Int))) (fun h6=>?_) (fun h6=>?_)
    ·refine Y4 2 (ul.toNat) ?_ (vc:=[ul.toNat<gs.length]) (hv:=W36)
     refine Y4 8 (ul.toNat) ?_ (vc:=[ul.toNat<uG.length]) (hv:=W36)
     refine tz [90,89,88,9,8,4] ?_
     refine Q0 (!decide ((uG.getD ul.toNat ub).name=(gs.getD ul.toNat ub).name)) (fun h7=>?_) (fun h7=>?_) (vc:=[(0:Int)≤ul,ul<(↑uG.length:Int),ul.toNat=ul.toNat,(0:Int)≤ul,ul<(↑gs.length:Int),ul.toNat<gs.length]) (hv:=W36)
     ·exact (show False from by obtain ⟨q1,q2,q3,q4,q5,q6,q7,q8⟩:=hM;have q:=uc h6;have z1:=J2 sh lk gs fs al gs.length;have z:0≤ul:=hJ5;rw [q3] at q h7;rw [Q4q W29] at h7;simp at h7).elim
     ·exact Q6t (wk X sh lk gs fs al un uG uT uU uV) (ul,ux) ((ul+(1:Int),ux)) (by dsimp only [wk];have q:=uc h6;obtain ⟨q1,q2,q3,q4,q5,q6,q7,q8⟩:=hM;have z1:=J2 sh lk gs fs al gs.length;rw [← q3] at z1;have z:0≤ul:=hJ5;omega) (by show 0≤ul+1;have z:0≤ul:=hJ5;omega) [(8,(Cor.tc (uG.getD ul.toNat ub)))] [] [14] [∀ (i:Nat),i<uG.length→(uG.getD i ub).tc=if i=ul.toNat then (uG.getD ul.toNat ub).tc else (uG.getD i ub).tc] (by (try simp only [Conj])<;>(repeat' apply jo)<;>first | done | trivial | rfl | (intros;first | rfl | trivial) | exact Qs _ _ | exact jy | exact Qq _ _ _ | (intro i hi;split<;>simp_all) | exact Qx _ _ _ _ _ | (exact Qy _ _ _ (by first | omega | (have h0:=Y6 (by simpa using h1);have hm:=Y5 h0.1;have hs:=Yc h0.1;omega))) | exact MpEq.put (by omega) | (refine MpEq.mk' (by omega) ?_ ?_<;>intro q<;>first | rfl | (dsimp only;split<;>simp_all)) | (exact MpEq.mkIt (by omega) (fun _=>rfl) (fun _=>rfl) rfl rfl (fun _=>rfl)) | (intro i h1 h2;rw [Qu h1 h2]) | (rw [Qj];rfl)) (vc:=([Fits ja (ul+(1:Int))])) (hv:=W36) (vc2:=[jG (uG.getD ul.toNat ub).name=jG (uG.getD ul.toNat ub).name,(uG.getD ul.toNat ub).code.length=(uG.getD ul.toNat ub).code.length,∀ (i:Nat),i<(uG.getD ul.toNat ub).code.length→((uG.getD ul.toNat ub).code.getD i ub).tc=((uG.getD ul.toNat ub).code.getD i ub).tc]) (hv2:=W172)
    ·refine tz [90,89,88,9,8,4] ?_
     refine Q7 (wl X sh lk gs fs al un uG uT uU uV ux) (((0:Int),ux)) (jE _) ?_
     rintro ⟨uJ,uR⟩ hJ7
     dsimp only [wl] at hJ7
     refine tz [108,107,106,9,8] ?_
     refine Q0 (decide (uJ<(↑sh.length:Int))) (fun h8=>?_) (fun h8=>?_)
     ·refine tz [108,107,106,9,8] ?_
      refine Q0 (!decide (un.getD uJ.toNat 0=(sh.getD uJ.toNat ub).word)) (fun h9=>?_) (fun h9=>?_) (vc:=[(0:Int)≤uJ,uJ<(↑sh.length:Int),uJ.toNat<sh.length,(0:Int)≤uJ,uJ<(↑un.length:Int),uJ.toNat<un.length]) (hv:=W36)
      ·exact (show False from by obtain ⟨q1,q2,q3,q4,q5,q6,q7,q8⟩:=hM;have q:=uc h8;have z:0≤uJ:=hJ7;rw [q2,Qhk W29] at h9;simp at h9).elim
      ·exact Q4 (wl X sh lk gs fs al un uG uT uU uV ux) (uJ,uR) ((uJ+(1:Int),uR)) (by dsimp only [wl];have q:=uc h8;omega) (by show 0≤uJ+1;have z:0≤uJ:=hJ7;omega) (vc:=([Fits ja (uJ+(1:Int))])) (hv:=W36)
     ·exact Q2
section
inductive Sh where
 | num (k:IntKind)
 | str
 | boo
 | sl (e size:Nat) (el:List Sh)
mutual
/-- the cells of a type -/
inductive ShT (P:Program):Nat→List Sh→Prop
 | int {t:Nat} {k:IntKind} (ht:P.underlying t=some (.int k)):ShT P t [.num k]
 | str {t:Nat} (ht:P.underlying t=some .string):ShT P t [.str]
 | bool {t:Nat} (ht:P.underlying t=some .bool):ShT P t [.boo]
 | slice {t e:Nat} {el:List Sh} (ht:P.underlying t=some (.slice e)) (hc:P.cellsOf e=el.length) (hp:0<el.length) (h:ShT P e el):ShT P t [.sl e el.length el]
 | struct {t:Nat} {fs:Array Field} {ss:List Sh} (ht:P.underlying t=some (.struct fs)) (hc:P.cellsOf t=ss.length) (h:ShF P 0 fs.toList ss):ShT P t ss
/-- .. of fields,the first of which lies at cell i -/
inductive ShF (P:Program):Nat→List Field→List Sh→Prop
 | nil {i:Nat}:ShF P i [] []
 | cons {i:Nat} {f:Field} {fs:List Field} {s1 s2:List Sh} (ho:f.offset=i) (hc:P.cellsOf f.type=s1.length) (h:ShT P f.type s1) (r:ShF P (i+s1.length) fs s2):ShF P i (f::fs) (s1++s2)
end
inductive ShC:Sh→TC→Prop
 | num {k:IntKind} (n:Int) (h:(Lit.int k n).wf=true):ShC (.num k) (.val (.int k n))
 | str (x:ByteArray) (h:x.size≤maxLen):ShC .str (.val (.string x))
 | boo (x:Bool):ShC .boo (.val (.bool x))
 | sl {e size:Nat} {el:List Sh} (n:Nat) (g:Nat→List TC) (hn:n≤maxLen) (hl:∀ i,i<n→(g i).length=el.length) (h:∀ (i j:Nat) (s:Sh) (c:TC),i<n→el[j]?=some s→(g i)[j]?=some c→ShC s c) :
    ShC (.sl e size el) (.sub e size n (fun i=>nthT (g i)))
def ShL (ss:List Sh) (tl:List TC):Prop:=tl.length=ss.length∧∀ (j:Nat) (s:Sh) (c:TC),ss[j]?=some s→tl[j]?=some c→ShC s c
def inW (w:World) (b:Nat):Prop:=b<w.heap.size
def Holds (w:World) (tl:List TC) (cs:List Value):Prop:=∀ (j:Nat) (c:TC) (u:Value),tl[j]?=some c→cs[j]?=some u→RdC w (inW w) c u
theorem Q69 {tl:List TC} {j:Nat} {c:TC} (h:tl[j]?=some c):nthT tl j=c:=by
 unfold nthT;rw [Qo,h]
theorem Qfp {w:World} {a:Addr} {u:Value} (h:w.cell? a=some u):a.block<w.heap.size:=by
 rcases kO a.block w.heap.size with h1 | h1
 ·exact h1
 ·unfold World.cell? at h
  rw [Array.getElem?_eq_none h1] at h
  simp at h
section
variable {H:Type} {enc:TypeId×Value→H} {P:Program} {w:World}
mutual
theorem Qfq:∀ {t:Nat} {ss:List Sh},ShT P t ss→∀ {n:Nat} {cs:List Value} {x:DataW H×List MemPlace},DataW.trod enc P w 0 (fun _=>true) true n t cs=some x →
 cs.length=ss.length∧∃ tl:List TC,ShL ss tl∧Holds w tl cs
 | t,_,(.int (k:=k) ht),n,cs,x,h=>by
   obtain ⟨m,rfl,_,hw⟩:=DataW.trod_int ht h
   refine ⟨rfl,[.val (.int k m)],⟨rfl,fun j s c hs hc=>?_⟩,fun j c u hc hu=>?_⟩
   ·match j,hs,hc with
    | 0,hs,hc=>cases hs;cases hc;exact .num m hw
    | j+1,hs,_=>simp at hs
   ·match j,hc,hu with
    | 0,hc,hu=>cases hc;cases hu;rfl
    | j+1,hc,_=>simp at hc
 | t,_,(.str ht),n,cs,x,h=>by
   obtain ⟨m,rfl,_,hw⟩:=DataW.trod_string ht h
   refine ⟨rfl,[.val (.string m)],⟨rfl,fun j s c hs hc=>?_⟩,fun j c u hc hu=>?_⟩
   ·match j,hs,hc with
    | 0,hs,hc=>cases hs;cases hc;exact .str m hw
    | j+1,hs,_=>simp at hs
   ·match j,hc,hu with
    | 0,hc,hu=>cases hc;cases hu;rfl
    | j+1,hc,_=>simp at hc
 | t,_,(.bool ht),n,cs,x,h=>by
   obtain ⟨m,rfl,_⟩:=DataW.trod_bool ht h
   refine ⟨rfl,[.val (.bool m)],⟨rfl,fun j s c hs hc=>?_⟩,fun j c u hc hu=>?_⟩
   ·match j,hs,hc with
    | 0,hs,hc=>cases hs;cases hc;exact .boo m
    | j+1,hs,_=>simp at hs
   ·match j,hc,hu with
    | 0,hc,hu=>cases hc;cases hu;rfl
    | j+1,hc,_=>simp at hc
 | t,_,(.slice (e:=e) (el:=el) ht hce hpos he),n,cs,x,h=>by
   have key:∀ (v:Value) (m:Nat) (g:Nat→List TC),m≤maxLen→(∀ i,i<m→ShL el (g i))→RdC w (inW w) (.sub e el.length m fun i=>nthT (g i)) v →
    ([v]:List Value).length=([.sl e el.length el]:List Sh).length∧∃ tl:List TC,ShL [.sl e el.length el] tl∧Holds w tl [v]:=fun v m g hn hg hv=>by
    refine ⟨rfl,[.sub e el.length m fun i=>nthT (g i)],⟨rfl,fun j s c hs hc=>?_⟩,fun j c u hc hu=>?_⟩
    ·match j,hs,hc with
     | 0,hs,hc=>cases hs;cases hc;exact .sl m g hn (fun i hi=>(hg i hi).1) (fun i j s c hi h1 h2=>(hg i hi).2 j s c h1 h2)
     | j+1,hs,_=>simp at hs
    ·match j,hc,hu with
     | 0,hc,hu=>cases hc;cases hu;exact hv
     | j+1,hc,_=>simp at hc
   rcases Go.Deep.open_slice ht h with ⟨rfl,_⟩ | ⟨a,len,cap,m,n',D,Pl,rfl,_,hlc,hcm,hm,_,hel⟩
   ·refine key _ 0 (fun _=>[]) (ke _) (fun i hi=>absurd hi (Nat.not_lt_zero _)) ⟨none,0,rfl,jp _,by simp [maxLen],fun a ha _=>(by cases ha),fun h=>absurd h (Nat.lt_irrefl _)⟩
   ·have hm':m=cap:=by simpa using hm
    subst hm'
    have hall:∀ i,i<len→∃ tl:List TC,ShL el tl∧∃ cs',w.cells? 0 (a.add (i * P.cellsOf e)) (P.cellsOf e)=some cs'∧Holds w tl cs':=fun i hi=>by
     obtain ⟨cs',h1,h2⟩:=hel i (jS hi hlc)
     obtain ⟨h3,tl,h4,h5⟩:=Qfq he h2
     exact ⟨tl,h4,cs',h1,h5⟩
    obtain ⟨g,hg⟩:=Go.Deep.choose_lt hall
    refine key _ len g (kt hlc hcm) (fun i hi=>(hg i hi).1) ⟨some a,m,rfl,hlc,hcm,fun ad had hp=>?_,fun hp=>⟨a,rfl,fun i j hi hj=>?_⟩⟩
    ·cases had
     obtain ⟨_,cs',h2,_⟩:=hg 0 hp
     have:=World.cells?_block h2 (by rw [hce];exact hpos)
     rw [G8] at this
     exact ⟨this,this⟩
    ·obtain ⟨h1,cs',h2,h3⟩:=hg i hi
     obtain ⟨_,h4,h5⟩:=World.cells?_some h2
     have hjl:j<cs'.length:=by rw [h4,hce];exact hj
     refine ⟨cs'[j],?_,?_⟩
     ·rw [hce] at h5
      have:=h5 j hj
      rw [Y8] at this
      rw [this,jd hjl]
     ·have hjt:j<(g i).length:=by rw [h1.1];exact hj
      show RdC w (inW w) (nthT (g i) j) _
      rw [Q69 (jd hjt)]
      exact h3 j _ _ (jd hjt) (jd hjl)
 | t,_,(.struct (fs:=fs) (ss:=ss) ht hc hf),n,cs,x,h=>by
   obtain ⟨xs,n',_,_,hl,hxl,hx⟩:=DataW.trod_struct ht h
   refine ⟨by rw [hl,hc],?_⟩
   have:=Qlc hf (n:=n') (cs:=cs) (fun f hm=>by
    obtain ⟨k,hk⟩:=List.getElem?_of_mem hm
    have hk':fs[k]?=some f:=by simpa using hk
    have hlt:k<xs.length:=by rw [hxl];exact (Array.getElem?_eq_some_iff.1 hk').1
    exact ⟨xs[k],by rw [hx k f hk',jd hlt]⟩) (by rw [hl,hc];omega)
   simpa using this
theorem Qlc:∀ {i:Nat} {fs:List Field} {ss:List Sh},ShF P i fs ss→∀ {n:Nat} {cs:List Value},(∀ f∈fs,∃ x,DataW.trod enc P w 0 (fun _=>true) true n f.type ((cs.drop f.offset).take (P.cellsOf f.type))=some x) →
 i+ss.length≤cs.length→∃ tl:List TC,ShL ss tl∧Holds w tl (cs.drop i)
 | _,_,_,.nil,n,cs,h,hl=>⟨[],⟨rfl,fun j s c hs=>by simp at hs⟩,fun j c u hc=>by simp at hc⟩
 | i,_,_,(.cons (f:=f) (fs:=fs) (s1:=s1) (s2:=s2) ho hc hT hr),n,cs,h,hl=>by
   simp only [jm] at hl
   obtain ⟨x,hx⟩:=h f (.head _)
   obtain ⟨h1,t1,h2,h3⟩:=Qfq hT hx
   obtain ⟨t2,h4,h5⟩:=Qlc hr (n:=n) (cs:=cs) (fun f' hf'=>h f' (.tail _ hf')) W29
   refine ⟨t1++t2,⟨by rw [jm,jm,h2.1,h4.1],fun j s c hs hcj=>?_⟩,fun j c u hcj hu=>?_⟩
   ·by_cases hj:j<s1.length
    ·rw [jr hj] at hs
     rw [jr (by rw [h2.1];exact hj)] at hcj
     exact h2.2 j s c hs hcj
    ·rw [jB W29] at hs
     rw [jB (by rw [h2.1];omega),h2.1] at hcj
     exact h4.2 _ s c hs hcj
   ·by_cases hj:j<s1.length
    ·rw [jr (by rw [h2.1];exact hj)] at hcj
     refine h3 j c u hcj ?_
     rw [List.getElem?_take_of_lt (by rw [hc];exact hj),ho]
     exact hu
    ·rw [jB (by rw [h2.1];omega),h2.1] at hcj
     refine h5 _ c u hcj ?_
     rw [j8] at hu ⊢
     rw [show i+s1.length+(j-s1.length)=i+j by omega]
     exact hu
end
end
theorem Qce {H:Type} {enc:TypeId×Value→H} {P:Program} {w:World} {t:Nat} {ss:List Sh} {v:Value} {d:DataW H} {p:List MemPlace} (hs:ShT P t ss) (h:DataW.Trod enc P w 0 (fun _=>true) true t v d p) :
 v.cells.toList.length=ss.length∧∃ tl:List TC,ShL ss tl∧Holds w tl v.cells.toList:=by
 obtain ⟨n,hn⟩:=h
 exact Qfq hs hn
def Imp (w:World) (a b:List TC):Prop:=∀ (j:Nat) (c:TC) (u:Value),a[j]?=some c→RdC w (inW w) c u→RdC w (inW w) (nthT b j) u
theorem Imp.of_eq {w:World} {a b:List TC} (h:a=b):Imp w a b:=fun j c u hj hu=>by
 subst h;rw [Q69 hj];exact hu
theorem Qnq {α:Type} [Inhabited α] {w:World} {tl:α→List TC} {Q:α→Prop} {n:Nat} {g:Nat→List TC} (h:∀ i,i<n→∃ x,Imp w (g i) (tl x)∧Q x) (hd:Q ub) :
 ∃ l:List α,l.length=n∧(∀ i,i<n→Imp w (g i) (tl (l.getD i ub)))∧∀ i,Q (l.getD i ub):=by
 obtain ⟨f,hf⟩:=Go.Deep.choose_lt h
 refine ⟨(jD n).map f,by simp,fun i hi=>?_,fun i=>?_⟩
 ·rw [jc,jn,kh hi]
  exact (hf i hi).1
 ·rw [jc,jn]
  by_cases hi:i<n
  ·rw [kh hi];exact (hf i hi).2
  ·rw [jX W131];exact hd
theorem Q8s {α:Type} [Inhabited α] {w:World} {e size:Nat} {el:List Sh} {c:TC} {tl:α→List TC} {Q:α→Prop} (hs:size=el.length) (h:ShC (.sl e size el) c) (hx:∀ t:List TC,ShL el t→∃ x,Imp w t (tl x)∧Q x) (hd:Q ub) :
 ∃ l:List α,l.length≤maxLen∧(∀ i,Q (l.getD i ub))∧∀ v,RdC w (inW w) c v→RdRow w (inW w) v size l.length (fun i j u=>RdC w (inW w) (nthT (tl (l.getD i ub)) j) u):=by
 cases h with
 | sl n g hn hl hg =>
   obtain ⟨l,h1,h2,h3⟩:=Qnq (tl:=tl) (Q:=Q) (n:=n) (g:=g) (w:=w) (fun i hi=>hx _ ⟨hl i hi,fun j s c h1 h2=>hg i j s c hi h1 h2⟩) hd
   refine ⟨l,by rw [h1];exact hn,h3,fun v hv=>?_⟩
   rw [h1]
   refine RdRow.map hv (jp _) (fun _ _ _=>rfl) (fun i j u hi hj hu=>?_)
   have hjl:j<(g i).length:=by rw [hl i hi,← hs];exact hj
   have:nthT (g i) j=(g i)[j]:=Q69 (jd hjl)
   have hu:RdC w (inW w) (nthT (g i) j) u:=hu
   rw [this] at hu
   exact h2 i hi j _ u (jd hjl) hu
theorem Q1z {α:Type} [Inhabited α] {w:World} {e size:Nat} {el:List Sh} {c:TC} {tl:α→List TC} {Q:α→Prop} (hs:size=el.length) (h:ShC (.sl e size el) c) (hx:∀ t:List TC,ShL el t→∃ x,Imp w t (tl x)∧Q x) (hd:Q ub) :
 ∃ l:List α,(∀ i,Q (l.getD i ub))∧∀ v,RdC w (inW w) c v→RdRow w (inW w) v size l.length (fun i j u=>RdC w (inW w) (nthT (tl (l.getD i ub)) j) u):=
 let ⟨l,_,h⟩:=Q8s hs h hx hd
 ⟨l,h⟩
end
theorem Qld {n:Int} (h:(Lit.int .u8 n).wf=true):0≤n∧n≤255:=by simpa [Lit.wf,IntKind.min,IntKind.max,IntKind.signed,IntKind.bits] using h
theorem Qpo {w:World} {t:List TC} (h:ShL [.num .i64] t):∃ x:Int,Imp w t [.val (.int .i64 x)]∧True:=by
 obtain ⟨hl,hc⟩:=h
 rcases t with _ | ⟨c,_ | ⟨c',t⟩⟩
 ·simp at hl
 ·have h0:=hc 0 _ _ rfl rfl
  cases h0 with | num n w =>
  exact ⟨n,Imp.of_eq rfl,trivial⟩
 ·simp at hl
section
variable {H:Type} {enc:TypeId×Value→H} {W:World} {base:Nat}
theorem Q4f {ε:Env} {M:Nat→Prop} {v:Value} {size n:Nat} {f:Nat→Nat→TC} (h:RdRow W (inW W) v size n (fun i j u=>RdC W (inW W) (f i j) u)):RegOk ε M W ⟨v,inW W⟩ (.row size n f none):=⟨h,trivial⟩
theorem Qnr {ε:Env} {pre:List Reg} (hl:ε.length=pre.length) (hx:pre.all (fun r=>!r.excl)=true) (hf:∀ i,i<pre.length→ε.fp i=inW W) (h:∀ i r,pre[i]?=some r→RegOk ε (Base.at_ pre ε W).M W (ε.ent i) r) :
 RegsOk ε (Base.at_ pre ε W).M (Base.at_ pre ε W).L W pre:=by
 have hx':∀ (i:Nat) (r:Reg),pre[i]?=some r→r.excl=false:=fun i r hi=>by simpa using List.all_eq_true.1 hx r (ju hi)
 refine ⟨hl,h,fun i r hi hlv b hb=>?_,fun i r hi he=>?_,fun i j ri rj _ hi _ he=>?_⟩
 ·have hi':=(List.getElem?_eq_some_iff.1 hi).1
  have hb':b<W.heap.size:=by rw [hf i hi'] at hb;exact hb
  exact ⟨hb',.inr ⟨i,r,hi,hlv,hb⟩⟩
 ·rw [hx' i r hi] at he;cases he
 ·rw [hx' i ri hi] at he;cases he
end
abbrev shVl:List Sh:=[.boo,.num .i64,.num .i64]
theorem Qi9:ShT jb 99 shVl:=.struct Tryz.underlying99 (by kernel_rfl) (.cons (s1:=[.boo]) (s2:=[.num .i64,.num .i64]) rfl (by kernel_rfl) (.bool (by kernel_rfl)) (.cons (s1:=[.num .i64]) (s2:=[.num .i64]) rfl (by kernel_rfl) (.int (by kernel_rfl)) (.cons (s1:=[.num .i64]) (s2:=[]) rfl (by kernel_rfl) (.int (by kernel_rfl)) .nil)))
abbrev shDcl:List Sh:=[.str,.num .i64,.num .i64]
theorem Qef:ShT jb 62 shDcl:=.struct Tryz.underlying62 (by kernel_rfl) (.cons (s1:=[.str]) (s2:=[.num .i64,.num .i64]) rfl (by kernel_rfl) (.str (by kernel_rfl)) (.cons (s1:=[.num .i64]) (s2:=[.num .i64]) rfl (by kernel_rfl) (.int (by kernel_rfl)) (.cons (s1:=[.num .i64]) (s2:=[]) rfl (by kernel_rfl) (.int (by kernel_rfl)) .nil)))
theorem Qia {w:World} {t:List TC} (h:ShL shDcl t):∃ x:Dcl,Imp w t x.tl∧x.name.size≤maxLen:=by
 obtain ⟨hl,hc⟩:=h
 rcases t with _ | ⟨c0,_ | ⟨c1,_ | ⟨c2,_ | ⟨c3,t⟩⟩⟩⟩
 all_goals first | (exfalso;simp at hl;done) | skip
 have h0:=hc 0 _ _ rfl rfl
 have h1:=hc 1 _ _ rfl rfl
 have h2:=hc 2 _ _ rfl rfl
 cases h0 with | str n0 w0 =>
 cases h1 with | num n1 w1 =>
 cases h2 with | num n2 w2 =>
 exact ⟨⟨n0,n1,n2⟩,Imp.of_eq rfl,w0⟩
abbrev shNod:List Sh:=[.num .u8,.num .u8,.num .i64,.num .i64,.boo,.num .i64,.num .i64,.boo,.num .i64,.num .i64,.num .i64,.num .i64,.num .i64]
theorem Qns:ShT jb 101 shNod:=.struct Tryz.underlying101 (by kernel_rfl) (.cons (s1:=[.num .u8]) (s2:=[.num .u8,.num .i64,.num .i64,.boo,.num .i64,.num .i64,.boo,.num .i64,.num .i64,.num .i64,.num .i64,.num .i64]) rfl (by kernel_rfl) (.int (by kernel_rfl)) (.cons (s1:=[.num .u8]) (s2:=[.num .i64,.num .i64,.boo,.num .i64,.num .i64,.boo,.num .i64,.num .i64,.num .i64,.num .i64,.num .i64]) rfl (by kernel_rfl) (.int (by kernel_rfl)) (.cons (s1:=[.num .i64]) (s2:=[.num .i64,.boo,.num .i64,.num .i64,.boo,.num .i64,.num .i64,.num .i64,.num .i64,.num .i64]) rfl (by kernel_rfl) (.int (by kernel_rfl)) (.cons (s1:=[.num .i64]) (s2:=[.boo,.num .i64,.num .i64,.boo,.num .i64,.num .i64,.num .i64,.num .i64,.num .i64]) rfl (by kernel_rfl) (.int (by kernel_rfl)) (.cons (s1:=[.boo,.num .i64,.num .i64]) (s2:=[.boo,.num .i64,.num .i64,.num .i64,.num .i64,.num .i64]) rfl (by kernel_rfl) (Qi9) (.cons (s1:=[.boo,.num .i64,.num .i64]) (s2:=[.num .i64,.num .i64,.num .i64]) rfl (by kernel_rfl) (Qi9) (.cons (s1:=[.num .i64]) (s2:=[.num .i64,.num .i64]) rfl (by kernel_rfl) (.int (by kernel_rfl)) (.cons (s1:=[.num .i64]) (s2:=[.num .i64]) rfl (by kernel_rfl) (.int (by kernel_rfl)) (.cons (s1:=[.num .i64]) (s2:=[]) rfl (by kernel_rfl) (.int (by kernel_rfl)) .nil)))))))))
def nodK (x:Nod):Prop:=0≤x.kind∧0≤x.op∧x.op≤255
theorem Q9p:nodK default:=by unfold nodK;decide
theorem Qpp {w:World} {t:List TC} (h:ShL shNod t):∃ x:Nod,Imp w t x.tl∧nodK x:=by
 obtain ⟨hl,hc⟩:=h
 rcases t with _ | ⟨c0,_ | ⟨c1,_ | ⟨c2,_ | ⟨c3,_ | ⟨c4,_ | ⟨c5,_ | ⟨c6,_ | ⟨c7,_ | ⟨c8,_ | ⟨c9,_ | ⟨c10,_ | ⟨c11,_ | ⟨c12,_ | ⟨c13,t⟩⟩⟩⟩⟩⟩⟩⟩⟩⟩⟩⟩⟩⟩
 all_goals first | (exfalso;simp at hl;done) | skip
 have h0:=hc 0 _ _ rfl rfl
 have h1:=hc 1 _ _ rfl rfl
 have h2:=hc 2 _ _ rfl rfl
 have h3:=hc 3 _ _ rfl rfl
 have h4:=hc 4 _ _ rfl rfl
 have h5:=hc 5 _ _ rfl rfl
 have h6:=hc 6 _ _ rfl rfl
 have h7:=hc 7 _ _ rfl rfl
 have h8:=hc 8 _ _ rfl rfl
 have h9:=hc 9 _ _ rfl rfl
 have h10:=hc 10 _ _ rfl rfl
 have h11:=hc 11 _ _ rfl rfl
 have h12:=hc 12 _ _ rfl rfl
 cases h0 with | num n0 w0 =>
 cases h1 with | num n1 w1 =>
 cases h2 with | num n2 w2 =>
 cases h3 with | num n3 w3 =>
 cases h4 with | boo n4 =>
 cases h5 with | num n5 w5 =>
 cases h6 with | num n6 w6 =>
 cases h7 with | boo n7 =>
 cases h8 with | num n8 w8 =>
 cases h9 with | num n9 w9 =>
 cases h10 with | num n10 w10 =>
 cases h11 with | num n11 w11 =>
 cases h12 with | num n12 w12 =>
 exact ⟨⟨n0,n1,n2,n3,⟨n4,n5,n6⟩,⟨n7,n8,n9⟩,n10,n11,n12⟩,Imp.of_eq rfl,⟨(Qld w0).1,Qld w1⟩⟩
abbrev shGrf:List Sh:=[.str,.num .i64,.num .i64,.sl 101 13 shNod]
theorem Qnt:ShT jb 60 shGrf:=.struct Tryz.underlying60 (by kernel_rfl) (.cons (s1:=[.str]) (s2:=[.num .i64,.num .i64,.sl 101 13 shNod]) rfl (by kernel_rfl) (.str (by kernel_rfl)) (.cons (s1:=[.num .i64]) (s2:=[.num .i64,.sl 101 13 shNod]) rfl (by kernel_rfl) (.int (by kernel_rfl)) (.cons (s1:=[.num .i64]) (s2:=[.sl 101 13 shNod]) rfl (by kernel_rfl) (.int (by kernel_rfl)) (.cons (s1:=[.sl 101 13 shNod]) (s2:=[]) rfl (by kernel_rfl) (.slice (el:=shNod) (by kernel_rfl) (by kernel_rfl) W145 Qns) .nil))))
theorem Qpq {w:World} {t:List TC} (h:ShL shGrf t):∃ x:Grf,Imp w t x.tl∧x.name.size≤maxLen∧∀ b:Nat,nodK (x.nodes.getD b ub):=by
 obtain ⟨hl,hc⟩:=h
 rcases t with _ | ⟨c0,_ | ⟨c1,_ | ⟨c2,_ | ⟨c3,_ | ⟨c4,t⟩⟩⟩⟩⟩
 all_goals first | (exfalso;simp at hl;done) | skip
 have h0:=hc 0 _ _ rfl rfl
 have h1:=hc 1 _ _ rfl rfl
 have h2:=hc 2 _ _ rfl rfl
 have h3:=hc 3 _ _ rfl rfl
 cases h0 with | str n0 w0 =>
 cases h1 with | num n1 w1 =>
 cases h2 with | num n2 w2 =>
 obtain ⟨nodes,hq,hr⟩:=Q1z (w:=w) (tl:=Nod.tl) (Q:=nodK) rfl h3 (fun t ht=>Qpp ht) Q9p
 refine ⟨⟨n0,n1,n2,nodes⟩,fun j c u hj hu=>?_,w0,hq⟩
 match j,hj with
 | 0,hj=>cases hj;exact hu
 | 1,hj=>cases hj;exact hu
 | 2,hj=>cases hj;exact hu
 | 3,hj=>cases hj;exact hr u hu
 | j+4,hj=>simp at hj
abbrev shUni:List Sh:=[.sl 62 3 shDcl,.sl 62 3 shDcl,.sl 60 4 shGrf]
theorem Qnu:ShT jb 25 shUni:=.struct Tryz.underlying25 (by kernel_rfl) (.cons (s1:=[.sl 62 3 shDcl]) (s2:=[.sl 62 3 shDcl,.sl 60 4 shGrf]) rfl (by kernel_rfl) (.slice (el:=shDcl) (by kernel_rfl) (by kernel_rfl) W145 Qef) (.cons (s1:=[.sl 62 3 shDcl]) (s2:=[.sl 60 4 shGrf]) rfl (by kernel_rfl) (.slice (el:=shDcl) (by kernel_rfl) (by kernel_rfl) W145 Qef) (.cons (s1:=[.sl 60 4 shGrf]) (s2:=[]) rfl (by kernel_rfl) (.slice (el:=shGrf) (by kernel_rfl) (by kernel_rfl) W145 Qnt) .nil)))
section
variable {H:Type} {enc:TypeId×Value→H} {W:World} {base:Nat}
theorem Qib {v:Value} {d:DataW H} {p:List MemPlace} (hv:Value.okWide jb W .any base 25 v) (h:DataW.Trod enc jb W 0 (fun _=>true) true 25 v d p) :
 ∃ (u0 u1 u2:Value) (sh lk:List Dcl) (gs:List Grf),v=.agg #[u0,u1,u2] ∧
  RdRow W (inW W) u0 3 sh.length (fun i j u=>RdC W (inW W) ((sh.getD i ub).tc j) u)∧RdRow W (inW W) u1 3 lk.length (fun i j u=>RdC W (inW W) ((lk.getD i ub).tc j) u) ∧
  RdRow W (inW W) u2 4 gs.length (fun i j u=>RdC W (inW W) ((gs.getD i ub).tc j) u)∧(∀ j:Nat,(sh.getD j ub).name.size≤maxLen)∧(∀ j:Nat,(lk.getD j ub).name.size≤maxLen) ∧
  (∀ j:Nat,(gs.getD j ub).name.size≤maxLen)∧UnitW gs:=by
 obtain ⟨cs0,rfl,hsz⟩:=Go.WideShapes.okWide_struct Tryz.underlying25 hv
 obtain ⟨hlen,tl,⟨hl,hc⟩,hh⟩:=Qce Qnu h
 have hlen:cs0.toList.length=3:=hlen
 rcases tl with _ | ⟨c0,_ | ⟨c1,_ | ⟨c2,_ | ⟨c3,t⟩⟩⟩⟩
 all_goals first | (exfalso;simp at hl;done) | skip
 obtain ⟨l,rfl⟩:∃ l:List Value,cs0=l.toArray:=⟨cs0.toList,by simp⟩
 simp only [List.toList_toArray] at hlen
 rcases l with _ | ⟨u0,_ | ⟨u1,_ | ⟨u2,_ | ⟨u3,t⟩⟩⟩⟩
 all_goals first | (exfalso;simp at hlen;done) | skip
 have h0:=hc 0 _ _ rfl rfl
 have h1:=hc 1 _ _ rfl rfl
 have h2:=hc 2 _ _ rfl rfl
 obtain ⟨sh,q0,r0⟩:=Q1z (w:=W) (tl:=Dcl.tl) (Q:=fun x:Dcl=>x.name.size≤maxLen) rfl h0 (fun t ht=>Qia ht) (ke _)
 obtain ⟨lk,q1,r1⟩:=Q1z (w:=W) (tl:=Dcl.tl) (Q:=fun x:Dcl=>x.name.size≤maxLen) rfl h1 (fun t ht=>Qia ht) (ke _)
 obtain ⟨gs,q2,r2⟩:=Q1z (w:=W) (tl:=Grf.tl) (Q:=fun x:Grf=>x.name.size≤maxLen∧∀ b:Nat,nodK (x.nodes.getD b ub)) rfl h2 (fun t ht=>Qpq ht) ⟨ke _,fun b=>by
  rw [jc];exact Q9p⟩
 exact ⟨u0,u1,u2,sh,lk,gs,rfl,r0 u0 (hh 0 _ _ rfl rfl),r1 u1 (hh 1 _ _ rfl rfl),r2 u2 (hh 2 _ _ rfl rfl),q0,q1,fun j=>(q2 j).1,fun a b=>(q2 a).2 b⟩
theorem Qkq:ShT jb 49 [.sl 3 1 [.num .i64]]:=.slice (el:=[.num .i64]) (by kernel_rfl) (by kernel_rfl) W145 (.int (by kernel_rfl))
end
abbrev shIln:List Sh:=[.sl 3 1 [.num .i64]]
theorem Qpr {w:World} {t:List TC} (h:ShL shIln t):∃ x:Iln,Imp w t x.tl∧x.l.length≤9223372036854775807:=by
 obtain ⟨hl,hc⟩:=h
 rcases t with _ | ⟨c0,_ | ⟨c1,t⟩⟩
 all_goals first | (exfalso;simp at hl;done) | skip
 obtain ⟨l,hn,_,hr⟩:=Q8s (w:=w) (α:=Int) (tl:=fun n=>[.val (.int .i64 n)]) (Q:=fun _=>True) rfl (hc 0 _ _ rfl rfl) (fun t ht=>Qpo ht) trivial
 refine ⟨⟨l⟩,fun j c u hj hu=>?_,by simpa [maxLen] using hn⟩
 match j,hj with
 | 0,hj=>cases hj;exact hr u hu
 | j+1,hj=>simp at hj
theorem Qkr:ShT jb 26 [.sl 49 1 shIln]:=.slice (el:=shIln) (by kernel_rfl) (by kernel_rfl) W145 Qkq
abbrev shPlc:List Sh:=[.boo,.num .i64]
theorem Qnv:ShT jb 74 shPlc:=.struct Tryz.underlying74 (by kernel_rfl) (.cons (s1:=[.boo]) (s2:=[.num .i64]) rfl (by kernel_rfl) (.bool (by kernel_rfl)) (.cons (s1:=[.num .i64]) (s2:=[]) rfl (by kernel_rfl) (.int (by kernel_rfl)) .nil))
theorem Qps {w:World} {t:List TC} (h:ShL shPlc t):∃ x:Plc,Imp w t x.tl∧True:=by
 obtain ⟨hl,hc⟩:=h
 rcases t with _ | ⟨c0,_ | ⟨c1,_ | ⟨c2,t⟩⟩⟩
 all_goals first | (exfalso;simp at hl;done) | skip
 have h0:=hc 0 _ _ rfl rfl
 have h1:=hc 1 _ _ rfl rfl
 cases h0 with | boo n0 =>
 cases h1 with | num n1 w1 =>
 exact ⟨⟨n0,n1⟩,Imp.of_eq rfl,trivial⟩
abbrev shAlc:List Sh:=[.sl 74 2 shPlc,.num .i64]
theorem Qnw:ShT jb 72 shAlc:=.struct Tryz.underlying72 (by kernel_rfl) (.cons (s1:=[.sl 74 2 shPlc]) (s2:=[.num .i64]) rfl (by kernel_rfl) (.slice (el:=shPlc) (by kernel_rfl) (by kernel_rfl) W145 Qnv) (.cons (s1:=[.num .i64]) (s2:=[]) rfl (by kernel_rfl) (.int (by kernel_rfl)) .nil))
theorem Qpt {w:World} {t:List TC} (h:ShL shAlc t):∃ x:Alc,Imp w t x.tl∧x.places.length≤9223372036854775807:=by
 obtain ⟨hl,hc⟩:=h
 rcases t with _ | ⟨c0,_ | ⟨c1,_ | ⟨c2,t⟩⟩⟩
 all_goals first | (exfalso;simp at hl;done) | skip
 have h0:=hc 0 _ _ rfl rfl
 have h1:=hc 1 _ _ rfl rfl
 cases h1 with | num n1 w1 =>
 obtain ⟨ps,hn,_,hr⟩:=Q8s (w:=w) (tl:=Plc.tl) (Q:=fun _=>True) rfl h0 (fun t ht=>Qps ht) trivial
 refine ⟨⟨ps,n1⟩,fun j c u hj hu=>?_,by simpa [maxLen] using hn⟩
 match j,hj with
 | 0,hj=>cases hj;exact hr u hu
 | 1,hj=>cases hj;exact hu
 | j+2,hj=>simp at hj
theorem Qks:ShT jb 27 [.sl 72 2 shAlc]:=.slice (el:=shAlc) (by kernel_rfl) (by kernel_rfl) W145 Qnw
section
variable {H:Type} {enc:TypeId×Value→H} {W:World} {base:Nat}
theorem Qic {v:Value} {d:DataW H} {p:List MemPlace} (hv:Value.okWide jb W .any base 26 v) (h:DataW.Trod enc jb W 0 (fun _=>true) true 26 v d p) :
 ∃ l:List Iln,RdRow W (inW W) v 1 l.length (fun i j u=>RdC W (inW W) ((l.getD i ub).tc j) u)∧∀ j:Nat,(l.getD j ub).l.length≤9223372036854775807:=by
 obtain ⟨a,len,cap,rfl⟩:=Go.WideShapes.okWide_slice Tryz.underlying26 hv
 obtain ⟨hlen,tl,⟨hl,hc⟩,hh⟩:=Qce Qkr h
 rcases tl with _ | ⟨c0,_ | ⟨c1,t⟩⟩
 all_goals first | (exfalso;simp at hl;done) | skip
 obtain ⟨l,hq,hr⟩:=Q1z (w:=W) (tl:=Iln.tl) (Q:=fun x:Iln=>x.l.length≤9223372036854775807) rfl (hc 0 _ _ rfl rfl) (fun t ht=>Qpr ht) (ke _)
 exact ⟨l,hr _ (hh 0 _ _ rfl rfl),hq⟩
theorem Qid {v:Value} {d:DataW H} {p:List MemPlace} (hv:Value.okWide jb W .any base 27 v) (h:DataW.Trod enc jb W 0 (fun _=>true) true 27 v d p) :
 ∃ l:List Alc,RdRow W (inW W) v 2 l.length (fun i j u=>RdC W (inW W) ((l.getD i ub).tc j) u)∧∀ j:Nat,(l.getD j ub).places.length≤9223372036854775807:=by
 obtain ⟨a,len,cap,rfl⟩:=Go.WideShapes.okWide_slice Tryz.underlying27 hv
 obtain ⟨hlen,tl,⟨hl,hc⟩,hh⟩:=Qce Qks h
 rcases tl with _ | ⟨c0,_ | ⟨c1,t⟩⟩
 all_goals first | (exfalso;simp at hl;done) | skip
 obtain ⟨l,hq,hr⟩:=Q1z (w:=W) (tl:=Alc.tl) (Q:=fun x:Alc=>x.places.length≤9223372036854775807) rfl (hc 0 _ _ rfl rfl) (fun t ht=>Qpt ht) (ke _)
 exact ⟨l,hr _ (hh 0 _ _ rfl rfl),hq⟩
def tab32:List Int:=[0,1,28,2,29,14,24,3,30,22,20,15,25,17,4,8,31,27,13,23,21,19,16,7,26,12,18,6,11,5,10,9]
theorem Qkt : Tryz.prog.globalNamed "math/bits.deBruijn32tab" = some 0 := by kernel_rfl
theorem Qku:(Tryz.prog.globals[0]?).map (·.type)=some 242:=by kernel_rfl
theorem Qkv:Tryz.prog.cellsOf 242=32:=by kernel_rfl
theorem Qnx:Tryz.prog.cellsOf 5=1:=by kernel_rfl
theorem Qle (h : laidMetH jb [("math/bits.deBruijn32tab", Rows.laid_math_bits_deBruijn32tab)] W) : Lib.TabIs jb W "math/bits.deBruijn32tab" .u8 tab32 :=
 Lib.tabIs_of_head (rest:=[]) Qkt Qku Tryz.underlying242 Tryz.underlying5 Qnx Qkv h
def tabExt (W:World):Ext:=⟨0,0,fun _=>.u,fun _ _ _ _=>True,fun b=>b=0,W⟩
theorem Qpu (h : laidMetH jb [("math/bits.deBruijn32tab", Rows.laid_math_bits_deBruijn32tab)] W) : TabX (tabExt W) := ⟨rfl, fun i hi => by
 have hb:∀ i:Nat,i<32→0≤tab32.getD i 0∧tab32.getD i 0≤255:=by decide
 exact ⟨_,(hb i hi).1,(hb i hi).2,(Qle h).cell Qkt i hi⟩⟩
theorem Qny {ε : Env} {M : Nat → Prop} {v : Value} (h : laidMetH jb [("math/bits.deBruijn32tab", Rows.laid_math_bits_deBruijn32tab)] W) : RegOk ε M W ⟨v, inW W⟩ (.froz (tabExt W)) := fun b hb => by
 have hb:b=0:=hb
 subst hb
 have:=Qfp ((Qle h).cell Qkt 0 W145)
 exact ⟨this,this,rfl⟩
end
end Go.Proofs.YtnddggenhefaeaaGreatDoor
end
noncomputable section
namespace Go.Proofs.YtnddggenhefaeaaGreatDoor.lawGenRight
open Go.ChangeShapes Go.WideShapes Go.ChangeAt Go.RowKit Go.Tx
theorem Qae:laidOutB jb=true:=by kernel_rfl
theorem own:ownKnob Tryz.prog.godebug=none:=by kernel_rfl
theorem results:Tryz.f6.resultTypes=#[4]:=by kernel_rfl
theorem Qkw (H:Type) (enc:TypeId×Value→H) (W:World) (base:Nat) (args:Array Value) (ds gs:List (DataW H)) (before:List MemPlace)
 (hval:∀ (j:Nat) t v,Tryz.f6.params[j]?=some t→args[j]?=some v→Value.okWide jb W .any base t v)
 (hW:DataW.Whole enc jb Tryz.f6.params.toList Rows.genRightSpec.vars false W args.toList ds gs before) (hL:laidMetH jb Rows.genRightRow.laid W) :
 Calls jb 6 args W fun e W'=>∃ v,e=.returned v∧Rows.genRightSpec.post enc jb Tryz.f6 false true false false W args v W':=by
 have hW':=hW
 have hlt:=hW.lt
 obtain ⟨p,q,hA0,hV,rfl,hfz,hnd⟩:=hW
 have hA:DataW.TrodAll enc jb W 0 (fun _=>true) true Tryz.f6.params.toList args.toList ds p:=hA0
 rw [Tryz.params6] at hA hval
 obtain ⟨v0,vs0,d0,ds0,p0,q0,hargs0,rfl,rfl,h0,r0⟩:=trodAll_cons hA
 obtain ⟨v1,vs1,d1,ds1,p1,q1,hargs1,rfl,rfl,h1,r1⟩:=trodAll_cons r0
 obtain ⟨v2,vs2,d2,ds2,p2,q2,hargs2,rfl,rfl,h2,r2⟩:=trodAll_cons r1
 obtain ⟨v3,vs3,d3,ds3,p3,q3,hargs3,rfl,rfl,h3,r3⟩:=trodAll_cons r2
 obtain ⟨rfl,rfl,rfl⟩:=trodAll_nil r3
 obtain rfl:args=#[v0,v1,v2,v3]:=by cases args;simp_all
 obtain ⟨rfl,rfl⟩:=trodVars_none hV
 clear hA0
 have hv0:=hval 0 25 v0 rfl rfl
 have hv1:=hval 1 26 v1 rfl rfl
 have hv2:=hval 2 27 v2 rfl rfl
 have hv3:=hval 3 3 v3 rfl rfl
 obtain ⟨fs,hrf,hfs⟩:=Qic hv1 h1
 obtain ⟨al,hra,hp⟩:=Qid hv2 h2
 obtain ⟨bf,rfl⟩:=Go.WideShapes.okWide_int Tryz.underlying3 hv3
 obtain ⟨u0,u1,u2,sh,lk,gs,rfl,hr0,hr1,hr2,hs,hl,hg,hw⟩:=Qib hv0 h0
 have hX:=Qpu hL
 have hregs:RegsOk ([⟨u0,inW W⟩,⟨u1,inW W⟩,⟨u2,inW W⟩,⟨u0,inW W⟩,⟨v1,inW W⟩,⟨v2,inW W⟩]:Env) (Base.at_ [Dcl.rowR sh,Dcl.rowR lk,Grf.rowR gs,.froz (tabExt W),Iln.rowR fs,Alc.rowR al] [⟨u0,inW W⟩,⟨u1,inW W⟩,⟨u2,inW W⟩,⟨u0,inW W⟩,⟨v1,inW W⟩,⟨v2,inW W⟩] W).M (Base.at_ [Dcl.rowR sh,Dcl.rowR lk,Grf.rowR gs,.froz (tabExt W),Iln.rowR fs,Alc.rowR al] [⟨u0,inW W⟩,⟨u1,inW W⟩,⟨u2,inW W⟩,⟨u0,inW W⟩,⟨v1,inW W⟩,⟨v2,inW W⟩] W).L W [Dcl.rowR sh,Dcl.rowR lk,Grf.rowR gs,.froz (tabExt W),Iln.rowR fs,Alc.rowR al]:=by
  refine Qnr rfl rfl (fun i hi=>?_) (fun i r hi=>?_)
  ·match i,hi with
   | 0,_=>rfl
   | 1,_=>rfl
   | 2,_=>rfl
   | 3,_=>rfl
   | 4,_=>rfl
   | 5,_=>rfl
   | i+6,hi=>exact absurd hi W149
  ·match i,hi with
   | 0,hi=>cases hi;exact Q4f hr0
   | 1,hi=>cases hi;exact Q4f hr1
   | 2,hi=>cases hi;exact Q4f hr2
   | 3,hi=>cases hi;exact Qny hL
   | 4,hi=>cases hi;exact Q4f hrf
   | 5,hi=>cases hi;exact Q4f hra
   | i+6,hi=>simp at hi
 refine ((Qkp (tabExt W) hX sh lk gs hs hl hg hw fs hfs al hp bf) [⟨u0,inW W⟩,⟨u1,inW W⟩,⟨u2,inW W⟩,⟨u0,inW W⟩,⟨v1,inW W⟩,⟨v2,inW W⟩] W hregs).mono fun e W' hret=>?_
 obtain ⟨res,post,ε',⟨rfl,_⟩,rfl,_,_,hfr⟩:=hret
 have hb:Below W.heap.size W W':=⟨hfr.os,hfr.tape,hfr.output,hfr.size,fun k hk=>hfr.block k hk (fun ⟨i,r,hi,he,_⟩=>by
  match i,hi with
  | 0,hi=>cases hi;cases he
  | 1,hi=>cases hi;cases he
  | 2,hi=>cases hi;cases he
  | 3,hi=>cases hi;cases he
  | 4,hi=>cases hi;cases he
  | 5,hi=>cases hi;cases he
  | i+6,hi=>simp at hi)⟩
 refine ⟨_,rfl,_,_,_,[],p0++(p1++(p2++(p3++[]))),[],hW',?_,?_,?_,hb.frame _,fun h=>by cases h⟩
 ·rw [results]
  exact trodAll_cons_mk (shut_bool Tryz.underlying4 _) trodAll_mk0
 ·rw [Tryz.params6]
  exact (trodAll_cons_mk (WideElems.Trod_stays Qae (by kernel_rfl) (uc (by kernel_rfl)) h0 (fun p hp=>hb.same (hlt p W205)) (fun p hp=>by simpa using hlt p W205)) (trodAll_cons_mk (WideElems.Trod_stays Qae (by kernel_rfl) (uc (by kernel_rfl)) h1 (fun p hp=>hb.same (hlt p W205)) (fun p hp=>by simpa using hlt p W205)) (trodAll_cons_mk (WideElems.Trod_stays Qae (by kernel_rfl) (uc (by kernel_rfl)) h2 (fun p hp=>hb.same (hlt p W205)) (fun p hp=>by simpa using hlt p W205)) (trodAll_cons_mk (WideElems.Trod_stays Qae (by kernel_rfl) (uc (by kernel_rfl)) h3 (fun p hp=>hb.same (hlt p W205)) (fun p hp=>by simpa using hlt p W205)) trodAll_mk0))))
 ·rfl
def laidWorld (os:Os):World:=
 { World.holding jb os ⟨#[],#[],[]⟩ with heap:=(World.holding jb os ⟨#[],#[],[]⟩).heap.modify 0 fun
  | .cells _ t frozen=>.cells (tab32.map fun z=>jg .u8 z).toArray t frozen
  | o=>o }
theorem laid_met (os:Os):laidMet jb Rows.genRightRow.laid ((laidWorld os).forCall (fun _ _=>0) ⟨#[],#[.agg #[.slice none 0 0,.slice none 0 0,.slice none 0 0],.slice none 0 0,.slice none 0 0,.int .i64 0],[]⟩).memory:=
 laidMet_of_run' 8 (by kernel_rfl) (by kernel_rfl)
theorem Qr5 (os:Os) {H:Type} (enc:TypeId×Value→H):∃ places,DataW.whole enc jb ((laidWorld os).forCall (fun _ _=>0) ⟨#[],#[.agg #[.slice none 0 0,.slice none 0 0,.slice none 0 0],.slice none 0 0,.slice none 0 0,.int .i64 0],[]⟩).memory Tryz.f6.params.toList Rows.genRightSpec.vars false #[.agg #[.slice none 0 0,.slice none 0 0,.slice none 0 0],.slice none 0 0,.slice none 0 0,.int .i64 0].toList 8=some ([.agg [.nil,.nil,.nil],.nil,.nil,.lit (.int .i64 0)],[],places):=
 ⟨[],by kernel_rfl⟩
set_option maxRecDepth 100000 in
theorem Qpv (os:Os) (started:os.Started) (H:Type) (enc:TypeId×Value→H) (F:Stop.Interp) :
 ReturnsInHanded {} Tryz.checked os 6 .any ((OpenSpec.ofChange Rows.genRightSpec).preRow enc jb Tryz.f6 Rows.genRightRow.domain false Rows.genRightRow.laid) (((OpenSpec.ofChange Rows.genRightSpec).at F).post enc jb Tryz.f6 false true false false):=by
 obtain ⟨places,hx⟩:=Qr5 os enc
 refine returnsInHanded_of_row (C:=Tryz.checked) (s:=OpenSpec.ofChange Rows.genRightSpec) own started (by kernel_rfl) Tryz.func6
  (witness_row_at (enc:=enc) (C:=Tryz.checked) false (laidWorld os) #[.agg #[.slice none 0 0,.slice none 0 0,.slice none 0 0],.slice none 0 0,.slice none 0 0,.int .i64 0] rfl (by kernel_rfl) (by kernel_rfl) (by kernel_rfl)
    (OpenSpec.preRow_of_cond 8 hx (by kernel_rfl) (fun k hk=>by cases hk) (by kernel_rfl) (laid_met os))) ?_
 intro W base args ds gs before hval hW _ _ _ hL _ _
 exact Qkw H enc W base args ds gs before hval hW hL
theorem Qra:Rows.GenRightSaid:=
 OpenClaim.holds_of_cond 6 Tryz.f6 rfl rfl rfl rfl rfl rfl rfl ⟨rfl,rfl,rfl,rfl,rfl⟩ rfl rfl rfl rfl rfl (by kernel_rfl) Tryz.func6 (by kernel_rfl)
  (uc (by kernel_rfl)) (by unfold Func.isWrapper;first | (rw [if_pos (by decide +kernel)];kernel_rfl) | (rw [if_neg (by decide +kernel)];exact ⟨rfl,rfl⟩))
  (fun os started H enc _ F=>by rw [OpenClaim.pre_eq_preRow];exact Qpv os started H enc F)
theorem plain (f : FuncId) (fn : Func) (hf : Tryz.pinned.checked.prog.funcNamed "stile/stilelaw17.GenRight" = some f) (hfn : Tryz.pinned.checked.prog.funcs[f]? = some fn) :
 false=Tryz.pinned.checked.prog.looks []∧∀ (j:Nat) t,fn.params[j]?=some t→Tryz.pinned.checked.prog.wantsStandIn t=false:=by
 obtain rfl : f = 6 := Option.some.inj ((show Tryz.prog.funcNamed "stile/stilelaw17.GenRight" = some 6 by kernel_rfl).symm.trans hf) |>.symm
 obtain rfl:fn=Tryz.f6:=(Option.some.inj (Tryz.func6.symm.trans hfn)).symm
 refine ⟨by kernel_rfl,fun j t ht=>?_⟩
 rw [Tryz.params6] at ht
 have hm:t=25∨t=26∨t=27∨t=3:=by simpa using Array.mem_of_getElem? ht
 rcases hm with rfl | rfl | rfl | rfl
 ·exact (show Tryz.prog.wantsStandIn 25=false by kernel_rfl)
 ·exact (show Tryz.prog.wantsStandIn 26=false by kernel_rfl)
 ·exact (show Tryz.prog.wantsStandIn 27=false by kernel_rfl)
 ·exact (show Tryz.prog.wantsStandIn 3=false by kernel_rfl)
theorem card:Rows.GenRightCardSaid:=
 Claim7.holds_tied_plain_at .later [] _ _ _ _ Qra (fun _ h=>by cases h) (by kernel_rfl) (fun _ h=>by cases h) genRight_row_tie rfl ⟨rfl,rfl⟩ (by kernel_rfl) rfl plain (by kernel_rfl)
end Go.Proofs.YtnddggenhefaeaaGreatDoor.lawGenRight
end
