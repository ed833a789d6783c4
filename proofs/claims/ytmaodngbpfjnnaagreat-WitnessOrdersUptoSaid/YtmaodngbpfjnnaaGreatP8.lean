/-
  Every Order and Follow of the program is the reference's. Text 8 of 8: Leaf112 Leaf57 Leaf12 Leaf13 Leaf14 Leaf15 Leaf58 SpecFr Leaf95a Leaf60 Leaf91 Leaf90 Leaf90b Leaf92 Leaf93 Leaf115 Read FinA FinU FinOrders.
-/
import Derived.Test.YtmaodngbpfjnnaaGreatP4
import Derived.Test.YtmaodngbpfjnnaaGreatP7
import Derived.Test.YtmaodngbpfjnnaaGreatP5
import Derived.Test.YtmaodngbpfjnnaaGreatP6
import Derived.Deep.Slices
import Derived.ChangeArms
import Derived.WideShapes
import Derived.ChangeOld
import Derived.Test.YtmaodngbpfjnnaaGreatRows
import Derived.WalkKit
import Derived.ProofKit
import Derived.OpenShut
import Derived.JoinedCond
import Derived.Carry
set_option linter.unusedSimpArgs false
set_option linter.unusedVariables false
set_option maxHeartbeats 4000000
set_option maxRecDepth 100000
noncomputable section
namespace Go.Proofs.YtmaodngbpfjnnaaGreat
open Go Go.Tx
theorem Qka (cl:List Cls) (e:Ev) (ht:e.kind=1∨e.kind=2∨e.kind=3→0≤e.thing∧e.thing<(cl.length:Int)):Ctr Tryz.prog 14 [Cls.rowR cl] [.c (.h 0),.agg e.cs]
 (Det (.c (.b (visE cl e))) [.dead]):=by
 refine Ctr.intro [] Tryz.func14 K K ?_
 refine Q0 (decide (e.kind=(1:Int))) (fun h1=>?_) (fun h1=>?_)
 ·exact Q1 [] [0] [visE cl e=decide ((cl.getD e.thing.toNat default).kind=(3:Int))] W129 (vc:=[(0:Int)≤e.thing,e.thing<(↑cl.length:Int),e.thing.toNat<cl.length]) (hv:=W100)
 ·refine tz [7,6,4,3,0] ?_
  refine Q0 (decide (e.kind=(2:Int))) (fun h2=>?_) (fun h2=>?_)
  ·exact Q1 [] [0] [visE cl e=decide ((cl.getD e.thing.toNat default).kind=(3:Int))] W129 (vc:=[(0:Int)≤e.thing,e.thing<(↑cl.length:Int),e.thing.toNat<cl.length]) (hv:=W100)
  ·refine tz [7,6,4,3,0] ?_
   refine Q0 (decide (e.kind=(3:Int))) (fun h3=>?_) (fun h3=>?_)
   ·exact Q1 [] [0] [visE cl e=decide ((cl.getD e.thing.toNat default).kind=(3:Int))] W129 (vc:=[(0:Int)≤e.thing,e.thing<(↑cl.length:Int),e.thing.toNat<cl.length]) (hv:=W100)
   ·refine tz [6,4] ?_
    refine Q0 (decide (e.kind=(4:Int))) (fun h4=>?_) (fun h4=>?_)
    ·exact Q1 [] [0] [visE cl e=true] W129
    ·refine tz [18,6,4] ?_
     refine Q0 (decide (e.kind=(5:Int))) (fun h5=>?_) (fun h5=>?_)
     ·exact Q1 [] [0] [visE cl e=true] W129
     ·refine tz [18,6,4] ?_
      refine Q0 (decide (e.kind=(6:Int))) (fun h6=>?_) (fun h6=>?_)
      ·exact Q1 [] [0] [visE cl e=true] W129
      ·exact Q1 [] [0] [visE cl e=false] W129
def L17_80 (mem:List Int) (s9:Int) (l9:Int) (bu:Int) (cs:List Cor) (cl:List Cls) (l:List Did):Lp (Int×List Int):=⟨fun x=>{ N:=47,fr:=[se 33 (C.i .i64 x.1),se 32 (C.i .i64 (↑(evL mem s9 l9 bu cs l).length:Int)),se 31 (C.h 5),se 10 (C.h 6),se 7 (C.i .i64 0),se 6 (C.v (Value.slice none 0 0)),se 1 (C.h 2)],rg:=[IntRow mem,rowOf 2 (·.tc) cs,rowOf 3 (·.tc) cl,rowOf 7 (·.tc) l,Reg.box 29 [C.h 0,C.i .i64 s9,C.i .i64 l9,C.i .i64 bu,C.h 1],ownOf 53 7 (·.tc) (evL mem s9 l9 bu cs l)]++[IntOwn x.2],wr:=[] },fun x=>0≤x.1∧x.1≤((evL mem s9 l9 bu cs l).length:Int)∧x.2=visUp cl (evL mem s9 l9 bu cs l) x.1.toNat,fun x=>(((evL mem s9 l9 bu cs l).length:Int)-x.1).toNat⟩
theorem Qkb (mem:List Int) (s9 l9 bu:Int) (cs:List Cor) (cl:List Cls) (l:List Did) (hw:∀ a b:Nat,insK ((cs.getD a default).code.getD b default)) (hl:∀ a:Nat,0≤(l.getD a default).kind∧(l.getD a default).kind≤255) (hn:(l.length:Int) * 56≤140737488355328):Ctr Tryz.prog 5 [IntRow mem,Cor.rowR cs,Cls.rowR cl,Did.rowR l] [.agg [.h 0,.i .i64 s9,.i .i64 l9,.i .i64 bu,.h 1],.c (.h 2),.c (.h 3)]
 (Det (.tup [(false,[.h 4]),(false,[.i .i64 (ordE mem s9 l9 bu cs cl l)])]) [.dead,.dead,.dead,.dead,IntOwn (ordL mem s9 l9 bu cs cl l)]):=by
 refine Ctr.intro [] Tryz.func5 K K ?_
 refine Q2 Q3v (Qd2 mem s9 l9 bu cs l W84 W84 W84) [0,1,3] ?_
 refine tz [16,7,6,3,1] ?_
 refine Q0 (decide (evE mem s9 l9 bu cs l=(0:Int))&&!decide ((↑cl.length:Int)=s9)) (fun h1=>?_) (fun h1=>?_)
 ·refine tz [9,8,7,6,1] ?_
  refine Q0 (!decide ((210:Int)=(0:Int))) (fun h2=>?_) (fun h2=>?_)
  ·exact Q1 [0,1,2,3,1000004] [0,1] [(ordL mem s9 l9 bu cs cl l).length=0,ordE mem s9 l9 bu cs cl l=(210:Int)] W38
  ·exact absurd h2 W99
 ·refine tz [9,8,7,6,1] ?_
  refine Q0 (!decide (evE mem s9 l9 bu cs l=(0:Int))) (fun h2=>?_) (fun h2=>?_)
  ·exact Q1 [0,1,2,3,1000004] [0,1] [(ordL mem s9 l9 bu cs cl l).length=0,ordE mem s9 l9 bu cs cl l=evE mem s9 l9 bu cs l] W38
  ·refine tz [8,7,6,1] ?_
   refine Qb (L17_80 mem s9 l9 bu cs cl l) (((0:Int),[])) ⟨Int.le_refl _,by omega,rfl⟩ ?_ [0,1,2,3,4,5,1000006] [13] [(0:Nat)=0] W0
   rintro ⟨x3_0,x3_1⟩ hJ3
   dsimp only [L17_80] at hJ3
   refine tz [33,32,31,10,7,6,1] ?_
   refine Q0 (decide (x3_0<(↑(evL mem s9 l9 bu cs l).length:Int))) (fun h4=>?_) (fun h4=>?_)
   ·refine tz [33,32,31,10,7,6,1] ?_
    refine Q2 Q39 (Qka cl ((evL mem s9 l9 bu cs l).getD x3_0.toNat default) W84) [2] ?_ (vc:=[(0:Int)≤x3_0,x3_0<(↑(evL mem s9 l9 bu cs l).length:Int),x3_0.toNat<(evL mem s9 l9 bu cs l).length]) (hv:=W52)
    refine tz [39,12,33,32,31,10,7,6,1] ?_
    refine Q0 (visE cl ((evL mem s9 l9 bu cs l).getD x3_0.toNat default)) (fun h5=>?_) (fun h5=>?_)
    ·exact Q6 (L17_80 mem s9 l9 bu cs cl l) (x3_0,x3_1) ((x3_0+(1:Int),x3_1++[((evL mem s9 l9 bu cs l).getD x3_0.toNat default).core])) W155 W132 [0,1,2,3,4,5,9] [13,14,15] [(x3_1++[((evL mem s9 l9 bu cs l).getD x3_0.toNat default).core]).length=x3_1.length+1,∀ (i:Nat),i<(x3_1++[((evL mem s9 l9 bu cs l).getD x3_0.toNat default).core]).length→i≠x3_1.length→i64T ((x3_1++[((evL mem s9 l9 bu cs l).getD x3_0.toNat default).core]).getD i 0)=i64T (x3_1.getD i 0),i64T ((x3_1++[((evL mem s9 l9 bu cs l).getD x3_0.toNat default).core]).getD x3_1.length 0) 0=TC.val (Value.int IntKind.i64 ((evL mem s9 l9 bu cs l).getD x3_0.toNat default).core)] W0 (vc:=[x3_1.length+1≤maxLen,(x3_1.length+1) * 8≤140737488355328,Fits IntKind.i64 (x3_0+(1:Int))]) (hv:=W52)
    ·exact Q6 (L17_80 mem s9 l9 bu cs cl l) (x3_0,x3_1) ((x3_0+(1:Int),x3_1)) W155 W132 (vc:=[Fits IntKind.i64 (x3_0+(1:Int))]) (hv:=W52)
   ·exact Q1 [0,1,2,3,6] [0,1,2] [(ordL mem s9 l9 bu cs cl l).length=x3_1.length,∀ (i:Nat),i<(ordL mem s9 l9 bu cs cl l).length→i64T ((ordL mem s9 l9 bu cs cl l).getD i 0)=i64T (x3_1.getD i 0),ordE mem s9 l9 bu cs cl l=(0:Int)] W38
end Go.Proofs.YtmaodngbpfjnnaaGreat
end
noncomputable section
namespace Go.Proofs.YtmaodngbpfjnnaaGreat
open Go Go.Tx
theorem Qd3 (x:Bool):Ctr Tryz.prog 46 [] [.c (.b x)]
 (Det (.c (.b x)) []):=by
 refine Ctr.intro [] Tryz.func46 K K ?_
 exact Q1
theorem Qd4 (x:Bool):Ctr Tryz.prog 47 [] [.c (.b x)]
 (Det (.c (.t true)) []):=by
 refine Ctr.intro [] Tryz.func47 K K ?_
 exact Q1
theorem Qnj (x:Bool):Ctr Tryz.prog 48 [] [.c (.b x)]
 (Det (.c (.t false)) []):=by
 refine Ctr.intro [] Tryz.func48 K K ?_
 exact Q1
theorem Qkc :Ctr Tryz.prog 28 [] []
 (Det (.agg [C.fn 48 false [],C.fn 46 false [],C.fn 46 false [],C.fn 46 false [],C.fn 47 false [],C.fn 47 false [],C.fn 47 false [],C.fn 48 false []]) []):=by
 refine Ctr.intro [] Tryz.func28 K K ?_
 exact Q1
theorem Qnk (l:List Ev) (cl:List Cls):Ctr Tryz.prog 12 [Ev.rowR l,Cls.rowR cl] [.c (.h 0),.c (.h 1)]
 (Det (.c (C.fn 27 false [2,3])) [.dead,.dead,Reg.box 45 [.h 0],Reg.box 30 [.h 1]]):=by
 refine Ctr.intro [] Tryz.func12 K K ?_
 exact Q1
abbrev z57_1:=Reg.box 85 [C.fn 48 false [],C.fn 46 false [],C.fn 46 false [],C.fn 46 false [],C.fn 47 false [],C.fn 47 false [],C.fn 47 false [],C.fn 48 false []]
abbrev z57_3 (cl:List Cls):=rowOf 3 (·.tc) cl
abbrev z57_4 (l:List Ev):=rowOf 7 (·.tc) l
def L59_0 (l:List Ev) (cl:List Cls) (Xe:Ext):Lp (Int×Nat):=⟨fun x=>{ N:=53,fr:=[se 12 (C.i .i64 x.1),se 11 (C.i .i64 (↑l.length:Int)),se 10 (C.h 0),se 4 (C.p 6 0),se 0 (C.h 5),se 2 (C.p 3 0)],rg:=[z57_4 l,z57_3 cl,Reg.ro [C.h 0],Reg.ro [C.h 1],Reg.froz Xe,Reg.ext Xe x.2 true,z57_1],wr:=[] },fun x=>0≤x.1∧x.1≤(l.length:Int)∧x.2=(visUp cl l x.1.toNat).length,fun x=>((l.length:Int)-x.1).toNat⟩
abbrev z57_2 (x1_0:Int) (l:List Ev):=[se 6 (C.p 7 0),se 12 (C.i .i64 x1_0),se 11 (C.i .i64 (↑l.length:Int)),se 10 (C.h 0),se 4 (C.p 6 0),se 0 (C.h 5),se 2 (C.p 3 0)]
abbrev z57_5 (cl:List Cls) (l:List Ev) (x1_0:Int):=((cl.getD (l.getD x1_0.toNat default).thing.toNat default).kind=(3:Int))
abbrev z57_8 (l:List Ev) (x1_0:Int):=C.i .i64 (l.getD x1_0.toNat default).thing
abbrev z57_9 (l:List Ev) (x1_0:Int):=C.i .i64 (l.getD x1_0.toNat default).core
abbrev z57_10 (l:List Ev) (x1_0:Int):=C.i .i64 (l.getD x1_0.toNat default).word
abbrev z57_11 (l:List Ev) (x1_0:Int):=C.i .i64 (l.getD x1_0.toNat default).put
abbrev z57_12 (l:List Ev) (x1_0:Int):=C.i .i64 (l.getD x1_0.toNat default).pos
abbrev z57_6 (l:List Ev) (x1_0:Int):=Reg.box 53 [C.i .u8 (l.getD x1_0.toNat default).kind,z57_9 l x1_0,z57_8 l x1_0,z57_10 l x1_0,z57_11 l x1_0,C.b (l.getD x1_0.toNat default).own,z57_12 l x1_0]
abbrev z57_7 (l:List Ev) (x1_0:Int):=(SV.c (C.i .i64 (l.getD x1_0.toNat default).core))
theorem Qkd (l:List Ev) (cl:List Cls) (hq:EvQ cl l) (Xe:Ext) (hn:Xe.n=(visUp cl l l.length).length) (he:Xe.enc=fun k=>.c (.i .i64 ((visUp cl l l.length).getD k 0))) (hy:Xe.Yields Tryz.prog):Ctr Tryz.prog 27 ([Ev.rowR l,Cls.rowR cl,.ro [.h 0],.ro [.h 1]]++[.froz Xe,.ext Xe 0 true]) [.c (.h 5),.c (.p 2 0),.c (.p 3 0)]
 (RangeEnd Xe 5):=by
 refine Ctr.intro [] Tryz.func27 K K ?_
 refine RunF.lens 0 (m:=l.length) K (fun hlens_0=>?_)
 refine Q2 Q6v (Qkc) [] ?_
 refine tz [9,0,1,2] ?_
 refine Qb (L59_0 l cl Xe) (((0:Int),0)) ⟨by omega,by omega,rfl⟩ ?_
 rintro ⟨x1_0,x1_1⟩ hJ1
 dsimp only [L59_0] at hJ1
 refine tz [12,11,10,4,0,2] ?_
 refine Q0 (decide (x1_0<(↑l.length:Int))) (fun h2=>?_) (fun h2=>?_)
 ·refine RunF.cut (fun _:Unit=>St.mk 53 (z57_2 x1_0 l) [z57_4 l,z57_3 cl,Reg.ro [C.h 0],Reg.ro [C.h 1],Reg.froz Xe,Reg.ext Xe x1_1 true,z57_1,z57_6 l x1_0] []) (fun _=>True) ?_ ?_
  ·exact tTo (fun x=>St.mk 53 (z57_2 x1_0 l) [z57_4 l,z57_3 cl,Reg.ro [C.h 0],Reg.ro [C.h 1],Reg.froz Xe,Reg.ext Xe x1_1 true,z57_1,z57_6 l x1_0] []) (fun x=>True) () trivial (vc:=[(0:Int)≤x1_0,x1_0<(↑l.length:Int),x1_0.toNat<l.length]) (hv:=W18)
  ·rintro ⟨⟩ _
   rcases (show (l.getD x1_0.toNat default).kind=(1:Int)∨(l.getD x1_0.toNat default).kind=(2:Int)∨(l.getD x1_0.toNat default).kind=(3:Int)∨(l.getD x1_0.toNat default).kind=(4:Int)∨(l.getD x1_0.toNat default).kind=(5:Int)∨(l.getD x1_0.toNat default).kind=(6:Int)∨(l.getD x1_0.toNat default).kind=(7:Int) from (by have hx:=of_decide_eq_true h2;have hq1:=hq x1_0.toNat (by omega);omega)) with hs3 | hs3 | hs3 | hs3 | hs3 | hs3 | hs3
   ·refine tWk (St.mk 53 (z57_2 x1_0 l) [z57_4 l,z57_3 cl,Reg.ro [C.h 0],Reg.ro [C.h 1],Reg.froz Xe,Reg.ext Xe x1_1 true,z57_1,Reg.box 53 [C.i .u8 1,z57_9 l x1_0,z57_8 l x1_0,z57_10 l x1_0,z57_11 l x1_0,C.b (l.getD x1_0.toNat default).own,z57_12 l x1_0]] []) ?_ [] [8] [(1:Int)=(l.getD x1_0.toNat default).kind] W12
    refine tz [6,12,11,10,4,0,2] ?_
    refine Q2 G5 (Qd3 ((decide ((1:Int)=(1:Int))||decide ((1:Int)=(2:Int))||decide ((1:Int)=(3:Int)))&&decide ((cl.getD (l.getD x1_0.toNat default).thing.toNat default).kind=(3:Int)))) [] ?_ (vc:=[(decide ((1:Int)=(1:Int))||decide ((1:Int)=(2:Int))||decide ((1:Int)=(3:Int)))=true→(0:Int)≤(l.getD x1_0.toNat default).thing,(decide ((1:Int)=(1:Int))||decide ((1:Int)=(2:Int))||decide ((1:Int)=(3:Int)))=true→(l.getD x1_0.toNat default).thing<(↑cl.length:Int),(decide ((1:Int)=(1:Int))||decide ((1:Int)=(2:Int))||decide ((1:Int)=(3:Int)))=true→(l.getD x1_0.toNat default).thing.toNat<cl.length,(0:Int)≤(1:Int),(1:Int)<(8:Int)]) (hv:=W18)
    refine tz [44,6,12,11,10,4,0,2] ?_
    refine Q0 ((decide ((1:Int)=(1:Int))||decide ((1:Int)=(2:Int))||decide ((1:Int)=(3:Int)))&&decide (z57_5 cl l x1_0)) (fun h4=>?_) (fun h4=>?_)
    ·refine tz [48,46,45,12,11,10,4,0,2] ?_
     refine Q1f hy 5 4 x1_1 (z57_7 l x1_0) W62 W55 (fun al5=>?_)
     refine tz [49,45,12,11,10,4,0,2] ?_
     refine Q0 (!al5) (fun h6=>?_) (fun h6=>?_)
     ·exact Q1 (res:=(SV.tup [])) (post:=([Reg.dead,Reg.dead,Reg.dead,Reg.dead,Reg.dead,Reg.ext Xe (x1_1+1) al5])) (hS:=⟨x1_1+1,al5,W72,rfl⟩)
     ·exact Q6 (L59_0 l cl Xe) (x1_0,x1_1) ((x1_0+(1:Int),x1_1+1)) W98 W17 [] [7] [true=al5] W101 (vc:=[Fits IntKind.i64 (x1_0+(1:Int))]) (hv:=W18)
    ·exact Q6 (L59_0 l cl Xe) (x1_0,x1_1) ((x1_0+(1:Int),x1_1)) W98 W17 (vc:=[Fits IntKind.i64 (x1_0+(1:Int))]) (hv:=W18)
   ·refine tWk (St.mk 53 (z57_2 x1_0 l) [z57_4 l,z57_3 cl,Reg.ro [C.h 0],Reg.ro [C.h 1],Reg.froz Xe,Reg.ext Xe x1_1 true,z57_1,Reg.box 53 [C.i .u8 2,z57_9 l x1_0,z57_8 l x1_0,z57_10 l x1_0,z57_11 l x1_0,C.b (l.getD x1_0.toNat default).own,z57_12 l x1_0]] []) ?_ [] [8] [(2:Int)=(l.getD x1_0.toNat default).kind] W12
    refine tz [6,12,11,10,4,0,2] ?_
    refine Q2 G5 (Qd3 ((decide ((2:Int)=(1:Int))||decide ((2:Int)=(2:Int))||decide ((2:Int)=(3:Int)))&&decide ((cl.getD (l.getD x1_0.toNat default).thing.toNat default).kind=(3:Int)))) [] ?_ (vc:=[(decide ((2:Int)=(1:Int))||decide ((2:Int)=(2:Int))||decide ((2:Int)=(3:Int)))=true→(0:Int)≤(l.getD x1_0.toNat default).thing,(decide ((2:Int)=(1:Int))||decide ((2:Int)=(2:Int))||decide ((2:Int)=(3:Int)))=true→(l.getD x1_0.toNat default).thing<(↑cl.length:Int),(decide ((2:Int)=(1:Int))||decide ((2:Int)=(2:Int))||decide ((2:Int)=(3:Int)))=true→(l.getD x1_0.toNat default).thing.toNat<cl.length,(0:Int)≤(2:Int),(2:Int)<(8:Int)]) (hv:=W18)
    refine tz [44,6,12,11,10,4,0,2] ?_
    refine Q0 ((decide ((2:Int)=(1:Int))||decide ((2:Int)=(2:Int))||decide ((2:Int)=(3:Int)))&&decide (z57_5 cl l x1_0)) (fun h4=>?_) (fun h4=>?_)
    ·refine tz [48,46,45,12,11,10,4,0,2] ?_
     refine Q1f hy 5 4 x1_1 (z57_7 l x1_0) W62 W55 (fun al5=>?_)
     refine tz [49,45,12,11,10,4,0,2] ?_
     refine Q0 (!al5) (fun h6=>?_) (fun h6=>?_)
     ·exact Q1 (res:=(SV.tup [])) (post:=([Reg.dead,Reg.dead,Reg.dead,Reg.dead,Reg.dead,Reg.ext Xe (x1_1+1) al5])) (hS:=⟨x1_1+1,al5,W72,rfl⟩)
     ·exact Q6 (L59_0 l cl Xe) (x1_0,x1_1) ((x1_0+(1:Int),x1_1+1)) W98 W17 [] [7] [true=al5] W101 (vc:=[Fits IntKind.i64 (x1_0+(1:Int))]) (hv:=W18)
    ·exact Q6 (L59_0 l cl Xe) (x1_0,x1_1) ((x1_0+(1:Int),x1_1)) W98 W17 (vc:=[Fits IntKind.i64 (x1_0+(1:Int))]) (hv:=W18)
   ·refine tWk (St.mk 53 (z57_2 x1_0 l) [z57_4 l,z57_3 cl,Reg.ro [C.h 0],Reg.ro [C.h 1],Reg.froz Xe,Reg.ext Xe x1_1 true,z57_1,Reg.box 53 [C.i .u8 3,z57_9 l x1_0,z57_8 l x1_0,z57_10 l x1_0,z57_11 l x1_0,C.b (l.getD x1_0.toNat default).own,z57_12 l x1_0]] []) ?_ [] [8] [(3:Int)=(l.getD x1_0.toNat default).kind] W12
    refine tz [6,12,11,10,4,0,2] ?_
    refine Q2 G5 (Qd3 ((decide ((3:Int)=(1:Int))||decide ((3:Int)=(2:Int))||decide ((3:Int)=(3:Int)))&&decide ((cl.getD (l.getD x1_0.toNat default).thing.toNat default).kind=(3:Int)))) [] ?_ (vc:=[(decide ((3:Int)=(1:Int))||decide ((3:Int)=(2:Int))||decide ((3:Int)=(3:Int)))=true→(0:Int)≤(l.getD x1_0.toNat default).thing,(decide ((3:Int)=(1:Int))||decide ((3:Int)=(2:Int))||decide ((3:Int)=(3:Int)))=true→(l.getD x1_0.toNat default).thing<(↑cl.length:Int),(decide ((3:Int)=(1:Int))||decide ((3:Int)=(2:Int))||decide ((3:Int)=(3:Int)))=true→(l.getD x1_0.toNat default).thing.toNat<cl.length,(0:Int)≤(3:Int),(3:Int)<(8:Int)]) (hv:=W18)
    refine tz [44,6,12,11,10,4,0,2] ?_
    refine Q0 ((decide ((3:Int)=(1:Int))||decide ((3:Int)=(2:Int))||decide ((3:Int)=(3:Int)))&&decide (z57_5 cl l x1_0)) (fun h4=>?_) (fun h4=>?_)
    ·refine tz [48,46,45,12,11,10,4,0,2] ?_
     refine Q1f hy 5 4 x1_1 (z57_7 l x1_0) W62 W55 (fun al5=>?_)
     refine tz [49,45,12,11,10,4,0,2] ?_
     refine Q0 (!al5) (fun h6=>?_) (fun h6=>?_)
     ·exact Q1 (res:=(SV.tup [])) (post:=([Reg.dead,Reg.dead,Reg.dead,Reg.dead,Reg.dead,Reg.ext Xe (x1_1+1) al5])) (hS:=⟨x1_1+1,al5,W72,rfl⟩)
     ·exact Q6 (L59_0 l cl Xe) (x1_0,x1_1) ((x1_0+(1:Int),x1_1+1)) W98 W17 [] [7] [true=al5] W101 (vc:=[Fits IntKind.i64 (x1_0+(1:Int))]) (hv:=W18)
    ·exact Q6 (L59_0 l cl Xe) (x1_0,x1_1) ((x1_0+(1:Int),x1_1)) W98 W17 (vc:=[Fits IntKind.i64 (x1_0+(1:Int))]) (hv:=W18)
   ·refine tWk (St.mk 53 (z57_2 x1_0 l) [z57_4 l,z57_3 cl,Reg.ro [C.h 0],Reg.ro [C.h 1],Reg.froz Xe,Reg.ext Xe x1_1 true,z57_1,Reg.box 53 [C.i .u8 4,z57_9 l x1_0,z57_8 l x1_0,z57_10 l x1_0,z57_11 l x1_0,C.b (l.getD x1_0.toNat default).own,z57_12 l x1_0]] []) ?_ [] [8] [(4:Int)=(l.getD x1_0.toNat default).kind] W12
    refine tz [6,12,11,10,4,0,2] ?_
    refine Q2 G6 (Qd4 ((decide ((4:Int)=(1:Int))||decide ((4:Int)=(2:Int))||decide ((4:Int)=(3:Int)))&&decide ((cl.getD (l.getD x1_0.toNat default).thing.toNat default).kind=(3:Int)))) [] ?_ [0] [((decide ((4:Int)=(1:Int))||decide ((4:Int)=(2:Int))||decide ((4:Int)=(3:Int)))&&decide (z57_5 cl l x1_0))=false] W0 (vc:=[(decide ((4:Int)=(1:Int))||decide ((4:Int)=(2:Int))||decide ((4:Int)=(3:Int)))=true→(0:Int)≤(l.getD x1_0.toNat default).thing,(decide ((4:Int)=(1:Int))||decide ((4:Int)=(2:Int))||decide ((4:Int)=(3:Int)))=true→(l.getD x1_0.toNat default).thing<(↑cl.length:Int),(decide ((4:Int)=(1:Int))||decide ((4:Int)=(2:Int))||decide ((4:Int)=(3:Int)))=true→(l.getD x1_0.toNat default).thing.toNat<cl.length,(0:Int)≤(4:Int),(4:Int)<(8:Int)]) (hv:=W18)
    refine tz [44,6,12,11,10,4,0,2] ?_
    refine Q1f hy 5 4 x1_1 (z57_7 l x1_0) W62 W55 (fun al4=>?_)
    refine tz [49,45,12,11,10,4,0,2] ?_
    refine Q0 (!al4) (fun h5=>?_) (fun h5=>?_)
    ·exact Q1 (res:=(SV.tup [])) (post:=([Reg.dead,Reg.dead,Reg.dead,Reg.dead,Reg.dead,Reg.ext Xe (x1_1+1) al4])) (hS:=⟨x1_1+1,al4,W72,rfl⟩)
    ·exact Q6 (L59_0 l cl Xe) (x1_0,x1_1) ((x1_0+(1:Int),x1_1+1)) W98 W17 [] [7] [true=al4] W101 (vc:=[Fits IntKind.i64 (x1_0+(1:Int))]) (hv:=W18)
   ·refine tWk (St.mk 53 (z57_2 x1_0 l) [z57_4 l,z57_3 cl,Reg.ro [C.h 0],Reg.ro [C.h 1],Reg.froz Xe,Reg.ext Xe x1_1 true,z57_1,Reg.box 53 [C.i .u8 5,z57_9 l x1_0,z57_8 l x1_0,z57_10 l x1_0,z57_11 l x1_0,C.b (l.getD x1_0.toNat default).own,z57_12 l x1_0]] []) ?_ [] [8] [(5:Int)=(l.getD x1_0.toNat default).kind] W12
    refine tz [6,12,11,10,4,0,2] ?_
    refine Q2 G6 (Qd4 ((decide ((5:Int)=(1:Int))||decide ((5:Int)=(2:Int))||decide ((5:Int)=(3:Int)))&&decide ((cl.getD (l.getD x1_0.toNat default).thing.toNat default).kind=(3:Int)))) [] ?_ [0] [((decide ((5:Int)=(1:Int))||decide ((5:Int)=(2:Int))||decide ((5:Int)=(3:Int)))&&decide (z57_5 cl l x1_0))=false] W0 (vc:=[(decide ((5:Int)=(1:Int))||decide ((5:Int)=(2:Int))||decide ((5:Int)=(3:Int)))=true→(0:Int)≤(l.getD x1_0.toNat default).thing,(decide ((5:Int)=(1:Int))||decide ((5:Int)=(2:Int))||decide ((5:Int)=(3:Int)))=true→(l.getD x1_0.toNat default).thing<(↑cl.length:Int),(decide ((5:Int)=(1:Int))||decide ((5:Int)=(2:Int))||decide ((5:Int)=(3:Int)))=true→(l.getD x1_0.toNat default).thing.toNat<cl.length,(0:Int)≤(5:Int),(5:Int)<(8:Int)]) (hv:=W18)
    refine tz [44,6,12,11,10,4,0,2] ?_
    refine Q1f hy 5 4 x1_1 (z57_7 l x1_0) W62 W55 (fun al4=>?_)
    refine tz [49,45,12,11,10,4,0,2] ?_
    refine Q0 (!al4) (fun h5=>?_) (fun h5=>?_)
    ·exact Q1 (res:=(SV.tup [])) (post:=([Reg.dead,Reg.dead,Reg.dead,Reg.dead,Reg.dead,Reg.ext Xe (x1_1+1) al4])) (hS:=⟨x1_1+1,al4,W72,rfl⟩)
    ·exact Q6 (L59_0 l cl Xe) (x1_0,x1_1) ((x1_0+(1:Int),x1_1+1)) W98 W17 [] [7] [true=al4] W101 (vc:=[Fits IntKind.i64 (x1_0+(1:Int))]) (hv:=W18)
   ·refine tWk (St.mk 53 (z57_2 x1_0 l) [z57_4 l,z57_3 cl,Reg.ro [C.h 0],Reg.ro [C.h 1],Reg.froz Xe,Reg.ext Xe x1_1 true,z57_1,Reg.box 53 [C.i .u8 6,z57_9 l x1_0,z57_8 l x1_0,z57_10 l x1_0,z57_11 l x1_0,C.b (l.getD x1_0.toNat default).own,z57_12 l x1_0]] []) ?_ [] [8] [(6:Int)=(l.getD x1_0.toNat default).kind] W12
    refine tz [6,12,11,10,4,0,2] ?_
    refine Q2 G6 (Qd4 ((decide ((6:Int)=(1:Int))||decide ((6:Int)=(2:Int))||decide ((6:Int)=(3:Int)))&&decide ((cl.getD (l.getD x1_0.toNat default).thing.toNat default).kind=(3:Int)))) [] ?_ [0] [((decide ((6:Int)=(1:Int))||decide ((6:Int)=(2:Int))||decide ((6:Int)=(3:Int)))&&decide (z57_5 cl l x1_0))=false] W0 (vc:=[(decide ((6:Int)=(1:Int))||decide ((6:Int)=(2:Int))||decide ((6:Int)=(3:Int)))=true→(0:Int)≤(l.getD x1_0.toNat default).thing,(decide ((6:Int)=(1:Int))||decide ((6:Int)=(2:Int))||decide ((6:Int)=(3:Int)))=true→(l.getD x1_0.toNat default).thing<(↑cl.length:Int),(decide ((6:Int)=(1:Int))||decide ((6:Int)=(2:Int))||decide ((6:Int)=(3:Int)))=true→(l.getD x1_0.toNat default).thing.toNat<cl.length,(0:Int)≤(6:Int),(6:Int)<(8:Int)]) (hv:=W18)
    refine tz [44,6,12,11,10,4,0,2] ?_
    refine Q1f hy 5 4 x1_1 (z57_7 l x1_0) W62 W55 (fun al4=>?_)
    refine tz [49,45,12,11,10,4,0,2] ?_
    refine Q0 (!al4) (fun h5=>?_) (fun h5=>?_)
    ·exact Q1 (res:=(SV.tup [])) (post:=([Reg.dead,Reg.dead,Reg.dead,Reg.dead,Reg.dead,Reg.ext Xe (x1_1+1) al4])) (hS:=⟨x1_1+1,al4,W72,rfl⟩)
    ·exact Q6 (L59_0 l cl Xe) (x1_0,x1_1) ((x1_0+(1:Int),x1_1+1)) W98 W17 [] [7] [true=al4] W101 (vc:=[Fits IntKind.i64 (x1_0+(1:Int))]) (hv:=W18)
   ·refine tWk (St.mk 53 (z57_2 x1_0 l) [z57_4 l,z57_3 cl,Reg.ro [C.h 0],Reg.ro [C.h 1],Reg.froz Xe,Reg.ext Xe x1_1 true,z57_1,Reg.box 53 [C.i .u8 7,z57_9 l x1_0,z57_8 l x1_0,z57_10 l x1_0,z57_11 l x1_0,C.b (l.getD x1_0.toNat default).own,z57_12 l x1_0]] []) ?_ [] [8] [(7:Int)=(l.getD x1_0.toNat default).kind] W12
    refine tz [6,12,11,10,4,0,2] ?_
    refine Q2 Q4v (Qnj ((decide ((7:Int)=(1:Int))||decide ((7:Int)=(2:Int))||decide ((7:Int)=(3:Int)))&&decide ((cl.getD (l.getD x1_0.toNat default).thing.toNat default).kind=(3:Int)))) [] ?_ [0] [((decide ((7:Int)=(1:Int))||decide ((7:Int)=(2:Int))||decide ((7:Int)=(3:Int)))&&decide (z57_5 cl l x1_0))=false] W0 (vc:=[(decide ((7:Int)=(1:Int))||decide ((7:Int)=(2:Int))||decide ((7:Int)=(3:Int)))=true→(0:Int)≤(l.getD x1_0.toNat default).thing,(decide ((7:Int)=(1:Int))||decide ((7:Int)=(2:Int))||decide ((7:Int)=(3:Int)))=true→(l.getD x1_0.toNat default).thing<(↑cl.length:Int),(decide ((7:Int)=(1:Int))||decide ((7:Int)=(2:Int))||decide ((7:Int)=(3:Int)))=true→(l.getD x1_0.toNat default).thing.toNat<cl.length,(0:Int)≤(7:Int),(7:Int)<(8:Int)]) (hv:=W18)
    exact Q6 (L59_0 l cl Xe) (x1_0,x1_1) ((x1_0+(1:Int),x1_1)) W98 W17 (vc:=[Fits IntKind.i64 (x1_0+(1:Int))]) (hv:=W18)
 ·exact Qmm (res:=(SV.tup [])) (post:=([Reg.dead,Reg.dead,Reg.dead,Reg.dead,Reg.dead,Reg.ext Xe x1_1 true])) (hS:=⟨x1_1,true,W72,rfl⟩)
end Go.Proofs.YtmaodngbpfjnnaaGreat
end
noncomputable section
namespace Go.Proofs.YtmaodngbpfjnnaaGreat
open Go Go.Tx
theorem Q7j (k:Int):Ctr Tryz.prog 69 [] [.c (.i .u8 k)]
 (Det (.c (C.fn 97 false [0])) [Reg.box 51 [.i .u8 k]]):=by
 refine Ctr.intro [] Tryz.func69 K K ?_
 exact Q1
theorem Qke (k:Int):Ctr Tryz.prog 70 [] [.c (.i .u8 k)]
 (Det (.c (C.fn 98 false [0])) [Reg.box 51 [.i .u8 k]]):=by
 refine Ctr.intro [] Tryz.func70 K K ?_
 exact Q1
theorem Qhx (w k:Int) (d:Did):Ctr Tryz.prog 97 [.ro [.i .u8 k]] [.c (.i .i64 w),.agg d.cs,.c (.p 0 0)]
 (Det (.c (.i .u8 k)) [.dead]):=by
 refine Ctr.intro [] Tryz.func97 K K ?_
 exact Q1
def onK (w k:Int):Int:=if w=1 then k else 0
def drK (w:Int) (d:Did):Int:=if w=2&&decide (d.word=0) then 5 else onK w 2
def swK (w:Int) (d:Did):Int:=if w=2&&decide (d.word=0)&&!decide (d.put=0) then 4 else onK w 3
theorem Qg5 (w k:Int) (d:Did):Ctr Tryz.prog 98 [.ro [.i .u8 k]] [.c (.i .i64 w),.agg d.cs,.c (.p 0 0)]
 (Det (.c (.i .u8 (onK w k))) [.dead]):=by
 refine Ctr.intro [] Tryz.func98 K K ?_
 refine Q0 (decide (w=(1:Int))) (fun h1=>?_) (fun h1=>?_)
 ·exact Q1 [] [0] [onK w k=k] (by simp only [Conj,onK] at *<;>grind)
 ·exact Q1 [] [0] [onK w k=(0:Int)] (by simp only [Conj,onK] at *<;>grind)
theorem Qhy (w:Int) (d:Did):Ctr Tryz.prog 71 [] [.c (.i .i64 w),.agg d.cs]
 (Det (.c (.i .u8 (swK w d))) []):=by
 refine Ctr.intro [] Tryz.func71 K K ?_
 refine Q0 (decide (w=(2:Int))&&decide (d.word=(0:Int))&&!decide (d.put=(0:Int))) (fun h1=>?_) (fun h1=>?_)
 ·exact Q1 [] [0] [swK w d=(4:Int)] (by simp only [Conj,swK,onK] at *<;>grind)
 ·refine tz [4,3,0] ?_
  refine Q2 Q35 (Qke 3) [] ?_
  refine tz [17,19,18,4,3,0] ?_
  refine Q2 Yl (Qg5 w 3 d) [1] ?_
  exact Q1 [] [0] [swK w d=onK w (3:Int)] (by simp only [Conj,swK,onK] at *<;>grind)
theorem Qhz (w:Int) (d:Did):Ctr Tryz.prog 72 [] [.c (.i .i64 w),.agg d.cs]
 (Det (.c (.i .u8 (drK w d))) []):=by
 refine Ctr.intro [] Tryz.func72 K K ?_
 refine Q0 (decide (w=(2:Int))&&decide (d.word=(0:Int))) (fun h1=>?_) (fun h1=>?_)
 ·exact Q1 [] [0] [drK w d=(5:Int)] (by simp only [Conj,drK,onK] at *<;>grind)
 ·refine tz [4,3,0] ?_
  refine Q2 Q35 (Qke 2) [] ?_
  refine tz [12,14,13,4,3,0] ?_
  refine Q2 Yl (Qg5 w 2 d) [1] ?_
  exact Q1 [] [0] [drK w d=onK w (2:Int)] (by simp only [Conj,drK,onK] at *<;>grind)
theorem Qd :Ctr Tryz.prog 45 [] []
 (Det (.agg ([.v (.string { data:=#[] }),.t false,.t false,.t false,.t false,.v Value.nilFunc]++[.v (.string { data:=#[99,111,109,112,117,116,101] }),.t false,.t false,.t false,.t false,C.fn 97 false [0]]++[.v (.string { data:=#[108,111,97,100] }),.t true,.t true,.t false,.t true,C.fn 98 false [1]]++[.v (.string { data:=#[115,116,111,114,101] }),.t true,.t true,.t false,.t false,C.fn 97 false [0]]++[.v (.string { data:=#[115,119,97,112] }),.t true,.t true,.t true,.t false,C.fn 71 false []]++[.v (.string { data:=#[102,101,110,99,101] }),.t false,.t false,.t false,.t false,C.fn 97 false [0]]++[.v (.string { data:=#[112,114,105,110,116] }),.t false,.t true,.t false,.t false,C.fn 97 false [2]]++[.v (.string { data:=#[104,97,108,116] }),.t false,.t false,.t false,.t false,C.fn 97 false [3]]++[.v (.string { data:=#[100,114,97,105,110] }),.t true,.t true,.t false,.t false,C.fn 72 false []])) [Reg.box 51 [.i .u8 0],Reg.box 51 [.i .u8 1],Reg.box 51 [.i .u8 6],Reg.box 51 [.i .u8 7]]):=by
 refine Ctr.intro [] Tryz.func45 K K ?_
 refine Q2 Jv (Q7j 0) [] ?_
 refine tz [2,0] ?_
 refine Q2 Q35 (Qke 1) [] ?_
 refine tz [5,4,1,0] ?_
 refine Q2 Jv (Q7j 6) [] ?_
 refine tz [12,11,9,8,6,4,0] ?_
 refine Q2 Jv (Q7j 7) [] ?_
 exact Q1 [1,2,3,4]
abbrev z12_1:=Reg.box 120 [C.v (Value.string (ByteArray.mk #[])),C.t false,C.t false,C.t false,C.t false,C.v Value.nilFunc]
abbrev z12_2:=[se 4 (C.p 6 0),se 3 (C.t false),se 2 (C.p 1 0),se 1 (C.p 0 0)]
abbrev z12_3:=Reg.box 120 [C.v (Value.string (ByteArray.mk #[(99:UInt8),(111:UInt8),(109:UInt8),(112:UInt8),(117:UInt8),(116:UInt8),(101:UInt8)])),C.t false,C.t false,C.t false,C.t false,C.fn 97 false [2]]
abbrev z12_4 (d:Did):=[se 3 (C.b (didB d)),se 2 (C.p 1 0)]
abbrev z12_11:=Reg.box 51 [C.i .u8 0]
abbrev z12_12 (d:Did):=[didB d=(decide ((0:Int)≤d.core)&&decide (d.core<(8:Int))&&decide ((0:Int)≤d.pc)&&decide (d.pc<(16384:Int))&&decide ((0:Int)≤d.addr)&&decide (d.addr<(4096:Int))&&decide (d.addr=(0:Int))&&decide (d.word=(0:Int))&&decide (d.put=(0:Int))&&!d.own)]
abbrev z12_14 (d:Did):=(decide ((0:Int)≤d.core)&&decide (d.core<(8:Int))&&decide ((0:Int)≤d.pc)&&decide (d.pc<(16384:Int))&&decide ((0:Int)≤d.addr)&&decide (d.addr<(4096:Int))&&decide (d.addr=(0:Int))&&decide (d.word=(0:Int))&&decide (d.put=(0:Int)))
abbrev z12_19 (d:Did):=St.mk 85 z12_2 [Reg.box 89 [C.i .u8 1,C.i .i64 d.core,C.i .i64 d.pc,C.i .i64 d.addr,C.i .i64 d.word,C.i .i64 d.put,C.b d.own],z12_1,z12_11,Reg.dead,Reg.dead,Reg.dead,z12_3] []
abbrev z12_27 (d:Did):=St.mk 85 (z12_4 d) [Reg.dead,z12_3,z12_11,Reg.dead,Reg.dead,Reg.dead,Reg.dead] []
theorem Qi0 (d:Did) (hk:d.kind=1):Ctr Tryz.prog 43 [] [.agg [.i .u8 1,.i .i64 d.core,.i .i64 d.pc,.i .i64 d.addr,.i .i64 d.word,.i .i64 d.put,.b d.own]]
 (Det (.tup [(true,[.v (.string { data:=#[99,111,109,112,117,116,101] }),.t false,.t false,.t false,.t false,C.fn 97 false [0]]),(false,[.b (didB d)])]) [.dead,.dead,.dead,.dead]):=by
 refine Ctr.intro [] Tryz.func43 K K ?_
 refine Q0 (decide ((1:Int)≤(0:Int))||decide ((9:Int)≤(1:Int))) (fun h1=>?_) (fun h1=>?_)
 ·exact absurd h1 W131
 ·refine tz [3,2,1] ?_
  refine Qi 2 (fun _:Unit=>z12_19 d) (fun _=>True) ?_ ?_
  ·refine ⟨⟨trivial,?_⟩,?_⟩
   ·refine Q2 Q5 (Qd) [] ?_
    exact tTo (fun x=>z12_19 d) (fun x=>True) () trivial (vc:=[(0:Int)≤(1:Int),(1:Int)<(9:Int)]) (hv:=W2)
   ·refine Q2 Q5 (Qd) [] ?_
    exact tTo (fun x=>z12_19 d) (fun x=>True) () trivial [0,1,3,1000003,4,5,2] (vc:=[(0:Int)≤(1:Int),(1:Int)<(9:Int)]) (hv:=W2)
  ·rintro ⟨⟩ _
   refine tz [4,3,2,1] ?_
   refine Qi 2 (fun _:Unit=>z12_27 d) (fun _=>True) ?_ ?_
   ·refine ⟨⟨trivial,?_⟩,?_⟩
    ·refine Q0 (z12_14 d) (fun h2=>?_) (fun h2=>?_)
     ·exact tTo (fun x=>z12_27 d) (fun x=>True) () trivial [] [2] [didB d=!d.own] W20
     ·exact tTo (fun x=>z12_27 d) (fun x=>True) () trivial [] [2] [didB d=false] W20
    ·exact tTo (fun x=>z12_27 d) (fun x=>True) () trivial [] [2] (z12_12 d) W20
   ·rintro ⟨⟩ _
    exact Q1 [2,1,1000002,3]
abbrev z12_13 (d:Did):=St.mk 85 z12_2 [Reg.box 89 [C.i .u8 2,C.i .i64 d.core,C.i .i64 d.pc,C.i .i64 d.addr,C.i .i64 d.word,C.i .i64 d.put,C.b d.own],z12_1,Reg.dead,Reg.box 51 [C.i .u8 1],Reg.dead,Reg.dead,Reg.box 120 [C.v (Value.string (ByteArray.mk #[(108:UInt8),(111:UInt8),(97:UInt8),(100:UInt8)])),C.t true,C.t true,C.t false,C.t true,C.fn 98 false [3]]] []
theorem Qi1 (d:Did) (hk:d.kind=2):Ctr Tryz.prog 43 [] [.agg [.i .u8 2,.i .i64 d.core,.i .i64 d.pc,.i .i64 d.addr,.i .i64 d.word,.i .i64 d.put,.b d.own]]
 (Det (.tup [(true,[.v (.string { data:=#[108,111,97,100] }),.t true,.t true,.t false,.t true,C.fn 98 false [1]]),(false,[.b (didB d)])]) [.dead,.dead,.dead,.dead]):=by
 refine Ctr.intro [] Tryz.func43 K K ?_
 refine Q0 (decide ((2:Int)≤(0:Int))||decide ((9:Int)≤(2:Int))) (fun h1=>?_) (fun h1=>?_)
 ·exact absurd h1 W131
 ·refine tz [3,2,1] ?_
  refine Qi 2 (fun _:Unit=>z12_13 d) (fun _=>True) ?_ ?_
  ·refine ⟨⟨trivial,?_⟩,?_⟩
   ·refine Q2 Q5 (Qd) [] ?_
    exact tTo (fun x=>z12_13 d) (fun x=>True) () trivial (vc:=[(0:Int)≤(2:Int),(2:Int)<(9:Int)]) (hv:=W2)
   ·refine Q2 Q5 (Qd) [] ?_
    exact tTo (fun x=>z12_13 d) (fun x=>True) () trivial [0,1,1000002,4,1000004,5,2] (vc:=[(0:Int)≤(2:Int),(2:Int)<(9:Int)]) (hv:=W2)
  ·rintro ⟨⟩ _
   exact Q1 [0,3,2,1000003] [1] [didB d=(decide ((0:Int)≤d.core)&&decide (d.core<(8:Int))&&decide ((0:Int)≤d.pc)&&decide (d.pc<(16384:Int))&&decide ((0:Int)≤d.addr)&&decide (d.addr<(4096:Int))&&true&&true&&decide (d.put=(0:Int))&&true)] (by simp only [Conj,didB,addrB] at *<;>grind)
abbrev z12_7:=Reg.box 120 [C.v (Value.string (ByteArray.mk #[(115:UInt8),(116:UInt8),(111:UInt8),(114:UInt8),(101:UInt8)])),C.t true,C.t true,C.t false,C.t false,C.fn 97 false [2]]
abbrev z12_20 (d:Did):=St.mk 85 z12_2 [Reg.box 89 [C.i .u8 3,C.i .i64 d.core,C.i .i64 d.pc,C.i .i64 d.addr,C.i .i64 d.word,C.i .i64 d.put,C.b d.own],z12_1,z12_11,Reg.dead,Reg.dead,Reg.dead,z12_7] []
abbrev z12_24 (d:Did):=[didB d=(decide ((0:Int)≤d.core)&&decide (d.core<(8:Int))&&decide ((0:Int)≤d.pc)&&decide (d.pc<(16384:Int))&&decide ((0:Int)≤d.addr)&&decide (d.addr<(4096:Int))&&true&&true&&decide (d.put=(0:Int))&&!d.own)]
abbrev z12_28 (d:Did):=St.mk 85 (z12_4 d) [Reg.dead,z12_7,z12_11,Reg.dead,Reg.dead,Reg.dead,Reg.dead] []
abbrev z12_30 (d:Did):=(decide ((0:Int)≤d.core)&&decide (d.core<(8:Int))&&decide ((0:Int)≤d.pc)&&decide (d.pc<(16384:Int))&&decide ((0:Int)≤d.addr)&&decide (d.addr<(4096:Int))&&true&&true&&decide (d.put=(0:Int)))
theorem Qi2 (d:Did) (hk:d.kind=3):Ctr Tryz.prog 43 [] [.agg [.i .u8 3,.i .i64 d.core,.i .i64 d.pc,.i .i64 d.addr,.i .i64 d.word,.i .i64 d.put,.b d.own]]
 (Det (.tup [(true,[.v (.string { data:=#[115,116,111,114,101] }),.t true,.t true,.t false,.t false,C.fn 97 false [0]]),(false,[.b (didB d)])]) [.dead,.dead,.dead,.dead]):=by
 refine Ctr.intro [] Tryz.func43 K K ?_
 refine Q0 (decide ((3:Int)≤(0:Int))||decide ((9:Int)≤(3:Int))) (fun h1=>?_) (fun h1=>?_)
 ·exact absurd h1 W131
 ·refine tz [3,2,1] ?_
  refine Qi 2 (fun _:Unit=>z12_20 d) (fun _=>True) ?_ ?_
  ·refine ⟨⟨trivial,?_⟩,?_⟩
   ·refine Q2 Q5 (Qd) [] ?_
    exact tTo (fun x=>z12_20 d) (fun x=>True) () trivial (vc:=[(0:Int)≤(3:Int),(3:Int)<(9:Int)]) (hv:=W2)
   ·refine Q2 Q5 (Qd) [] ?_
    exact tTo (fun x=>z12_20 d) (fun x=>True) () trivial [0,1,3,1000003,4,5,2] (vc:=[(0:Int)≤(3:Int),(3:Int)<(9:Int)]) (hv:=W2)
  ·rintro ⟨⟩ _
   refine tz [4,3,2,1] ?_
   refine Qi 2 (fun _:Unit=>z12_28 d) (fun _=>True) ?_ ?_
   ·refine ⟨⟨trivial,?_⟩,?_⟩
    ·refine Q0 (z12_30 d) (fun h2=>?_) (fun h2=>?_)
     ·exact tTo (fun x=>z12_28 d) (fun x=>True) () trivial [] [2] [didB d=!d.own] W20
     ·exact tTo (fun x=>z12_28 d) (fun x=>True) () trivial [] [2] [didB d=false] W20
    ·exact tTo (fun x=>z12_28 d) (fun x=>True) () trivial [] [2] (z12_24 d) W20
   ·rintro ⟨⟩ _
    exact Q1 [2,1,1000002,3]
abbrev z12_10:=Reg.box 120 [C.v (Value.string (ByteArray.mk #[(115:UInt8),(119:UInt8),(97:UInt8),(112:UInt8)])),C.t true,C.t true,C.t true,C.t false,C.fn 71 false []]
abbrev z12_17 (d:Did):=St.mk 85 z12_2 [Reg.box 89 [C.i .u8 4,C.i .i64 d.core,C.i .i64 d.pc,C.i .i64 d.addr,C.i .i64 d.word,C.i .i64 d.put,C.b d.own],z12_1,Reg.dead,Reg.dead,Reg.dead,Reg.dead,z12_10] []
abbrev z12_25 (d:Did):=St.mk 85 (z12_4 d) [Reg.dead,z12_10,Reg.dead,Reg.dead,Reg.dead,Reg.dead,Reg.dead] []
theorem Qi3 (d:Did) (hk:d.kind=4):Ctr Tryz.prog 43 [] [.agg [.i .u8 4,.i .i64 d.core,.i .i64 d.pc,.i .i64 d.addr,.i .i64 d.word,.i .i64 d.put,.b d.own]]
 (Det (.tup [(true,[.v (.string { data:=#[115,119,97,112] }),.t true,.t true,.t true,.t false,C.fn 71 false []]),(false,[.b (didB d)])]) [.dead,.dead,.dead,.dead]):=by
 refine Ctr.intro [] Tryz.func43 K K ?_
 refine Q0 (decide ((4:Int)≤(0:Int))||decide ((9:Int)≤(4:Int))) (fun h1=>?_) (fun h1=>?_)
 ·exact absurd h1 W131
 ·refine tz [3,2,1] ?_
  refine Qi 2 (fun _:Unit=>z12_17 d) (fun _=>True) ?_ ?_
  ·refine ⟨⟨trivial,?_⟩,?_⟩
   ·refine Q2 Q5 (Qd) [] ?_
    exact tTo (fun x=>z12_17 d) (fun x=>True) () trivial (vc:=[(0:Int)≤(4:Int),(4:Int)<(9:Int)]) (hv:=W2)
   ·refine Q2 Q5 (Qd) [] ?_
    exact tTo (fun x=>z12_17 d) (fun x=>True) () trivial [0,1,1000002,3,4,5,2] (vc:=[(0:Int)≤(4:Int),(4:Int)<(9:Int)]) (hv:=W2)
  ·rintro ⟨⟩ _
   refine tz [4,3,2,1] ?_
   refine Qi 2 (fun _:Unit=>z12_25 d) (fun _=>True) ?_ ?_
   ·refine ⟨⟨trivial,?_⟩,?_⟩
    ·refine Q0 (decide ((0:Int)≤d.core)&&decide (d.core<(8:Int))&&decide ((0:Int)≤d.pc)&&decide (d.pc<(16384:Int))&&decide ((0:Int)≤d.addr)&&decide (d.addr<(4096:Int))&&true&&true&&true) (fun h2=>?_) (fun h2=>?_)
     ·exact tTo (fun x=>z12_25 d) (fun x=>True) () trivial [] [1] [didB d=!d.own] W20
     ·exact tTo (fun x=>z12_25 d) (fun x=>True) () trivial [] [1] [didB d=false] W20
    ·exact tTo (fun x=>z12_25 d) (fun x=>True) () trivial [] [1] [didB d=(decide ((0:Int)≤d.core)&&decide (d.core<(8:Int))&&decide ((0:Int)≤d.pc)&&decide (d.pc<(16384:Int))&&decide ((0:Int)≤d.addr)&&decide (d.addr<(4096:Int))&&true&&true&&true&&!d.own)] W20
   ·rintro ⟨⟩ _
    exact Q1
abbrev z12_5:=Reg.box 120 [C.v (Value.string (ByteArray.mk #[(102:UInt8),(101:UInt8),(110:UInt8),(99:UInt8),(101:UInt8)])),C.t false,C.t false,C.t false,C.t false,C.fn 97 false [2]]
abbrev z12_21 (d:Did):=St.mk 85 z12_2 [Reg.box 89 [C.i .u8 5,C.i .i64 d.core,C.i .i64 d.pc,C.i .i64 d.addr,C.i .i64 d.word,C.i .i64 d.put,C.b d.own],z12_1,z12_11,Reg.dead,Reg.dead,Reg.dead,z12_5] []
abbrev z12_29 (d:Did):=St.mk 85 (z12_4 d) [Reg.dead,z12_5,z12_11,Reg.dead,Reg.dead,Reg.dead,Reg.dead] []
theorem Qi4 (d:Did) (hk:d.kind=5):Ctr Tryz.prog 43 [] [.agg [.i .u8 5,.i .i64 d.core,.i .i64 d.pc,.i .i64 d.addr,.i .i64 d.word,.i .i64 d.put,.b d.own]]
 (Det (.tup [(true,[.v (.string { data:=#[102,101,110,99,101] }),.t false,.t false,.t false,.t false,C.fn 97 false [0]]),(false,[.b (didB d)])]) [.dead,.dead,.dead,.dead]):=by
 refine Ctr.intro [] Tryz.func43 K K ?_
 refine Q0 (decide ((5:Int)≤(0:Int))||decide ((9:Int)≤(5:Int))) (fun h1=>?_) (fun h1=>?_)
 ·exact absurd h1 W131
 ·refine tz [3,2,1] ?_
  refine Qi 2 (fun _:Unit=>z12_21 d) (fun _=>True) ?_ ?_
  ·refine ⟨⟨trivial,?_⟩,?_⟩
   ·refine Q2 Q5 (Qd) [] ?_
    exact tTo (fun x=>z12_21 d) (fun x=>True) () trivial (vc:=[(0:Int)≤(5:Int),(5:Int)<(9:Int)]) (hv:=W2)
   ·refine Q2 Q5 (Qd) [] ?_
    exact tTo (fun x=>z12_21 d) (fun x=>True) () trivial [0,1,3,1000003,4,5,2] (vc:=[(0:Int)≤(5:Int),(5:Int)<(9:Int)]) (hv:=W2)
  ·rintro ⟨⟩ _
   refine tz [4,3,2,1] ?_
   refine Qi 2 (fun _:Unit=>z12_29 d) (fun _=>True) ?_ ?_
   ·refine ⟨⟨trivial,?_⟩,?_⟩
    ·refine Q0 (z12_14 d) (fun h2=>?_) (fun h2=>?_)
     ·exact tTo (fun x=>z12_29 d) (fun x=>True) () trivial [] [2] [didB d=!d.own] W20
     ·exact tTo (fun x=>z12_29 d) (fun x=>True) () trivial [] [2] [didB d=false] W20
    ·exact tTo (fun x=>z12_29 d) (fun x=>True) () trivial [] [2] (z12_12 d) W20
   ·rintro ⟨⟩ _
    exact Q1 [2,1,1000002,3]
abbrev z12_6:=Reg.box 120 [C.v (Value.string (ByteArray.mk #[(112:UInt8),(114:UInt8),(105:UInt8),(110:UInt8),(116:UInt8)])),C.t false,C.t true,C.t false,C.t false,C.fn 97 false [4]]
abbrev z12_15 (d:Did):=St.mk 85 z12_2 [Reg.box 89 [C.i .u8 6,C.i .i64 d.core,C.i .i64 d.pc,C.i .i64 d.addr,C.i .i64 d.word,C.i .i64 d.put,C.b d.own],z12_1,Reg.dead,Reg.dead,Reg.box 51 [C.i .u8 6],Reg.dead,z12_6] []
abbrev z12_22 (d:Did):=St.mk 85 (z12_4 d) [Reg.dead,z12_6,Reg.dead,Reg.dead,Reg.box 51 [C.i .u8 6],Reg.dead,Reg.dead] []
theorem Qi5 (d:Did) (hk:d.kind=6):Ctr Tryz.prog 43 [] [.agg [.i .u8 6,.i .i64 d.core,.i .i64 d.pc,.i .i64 d.addr,.i .i64 d.word,.i .i64 d.put,.b d.own]]
 (Det (.tup [(true,[.v (.string { data:=#[112,114,105,110,116] }),.t false,.t true,.t false,.t false,C.fn 97 false [2]]),(false,[.b (didB d)])]) [.dead,.dead,.dead,.dead]):=by
 refine Ctr.intro [] Tryz.func43 K K ?_
 refine Q0 (decide ((6:Int)≤(0:Int))||decide ((9:Int)≤(6:Int))) (fun h1=>?_) (fun h1=>?_)
 ·exact absurd h1 W131
 ·refine tz [3,2,1] ?_
  refine Qi 2 (fun _:Unit=>z12_15 d) (fun _=>True) ?_ ?_
  ·refine ⟨⟨trivial,?_⟩,?_⟩
   ·refine Q2 Q5 (Qd) [] ?_
    exact tTo (fun x=>z12_15 d) (fun x=>True) () trivial (vc:=[(0:Int)≤(6:Int),(6:Int)<(9:Int)]) (hv:=W2)
   ·refine Q2 Q5 (Qd) [] ?_
    exact tTo (fun x=>z12_15 d) (fun x=>True) () trivial [0,1,1000002,3,5,1000005,2] (vc:=[(0:Int)≤(6:Int),(6:Int)<(9:Int)]) (hv:=W2)
  ·rintro ⟨⟩ _
   refine tz [4,3,2,1] ?_
   refine Qi 2 (fun _:Unit=>z12_22 d) (fun _=>True) ?_ ?_
   ·refine ⟨⟨trivial,?_⟩,?_⟩
    ·refine Q0 (decide ((0:Int)≤d.core)&&decide (d.core<(8:Int))&&decide ((0:Int)≤d.pc)&&decide (d.pc<(16384:Int))&&decide ((0:Int)≤d.addr)&&decide (d.addr<(4096:Int))&&decide (d.addr=(0:Int))&&true&&decide (d.put=(0:Int))) (fun h2=>?_) (fun h2=>?_)
     ·exact tTo (fun x=>z12_22 d) (fun x=>True) () trivial [] [2] [didB d=!d.own] W20
     ·exact tTo (fun x=>z12_22 d) (fun x=>True) () trivial [] [2] [didB d=false] W20
    ·exact tTo (fun x=>z12_22 d) (fun x=>True) () trivial [] [2] [didB d=(decide ((0:Int)≤d.core)&&decide (d.core<(8:Int))&&decide ((0:Int)≤d.pc)&&decide (d.pc<(16384:Int))&&decide ((0:Int)≤d.addr)&&decide (d.addr<(4096:Int))&&decide (d.addr=(0:Int))&&true&&decide (d.put=(0:Int))&&!d.own)] W20
   ·rintro ⟨⟩ _
    exact Q1 [0,1,4,3]
abbrev z12_9:=Reg.box 120 [C.v (Value.string (ByteArray.mk #[(104:UInt8),(97:UInt8),(108:UInt8),(116:UInt8)])),C.t false,C.t false,C.t false,C.t false,C.fn 97 false [5]]
abbrev z12_16 (d:Did):=St.mk 85 z12_2 [Reg.box 89 [C.i .u8 7,C.i .i64 d.core,C.i .i64 d.pc,C.i .i64 d.addr,C.i .i64 d.word,C.i .i64 d.put,C.b d.own],z12_1,Reg.dead,Reg.dead,Reg.dead,Reg.box 51 [C.i .u8 7],z12_9] []
abbrev z12_23 (d:Did):=St.mk 85 (z12_4 d) [Reg.dead,z12_9,Reg.dead,Reg.dead,Reg.dead,Reg.box 51 [C.i .u8 7],Reg.dead] []
theorem Qi6 (d:Did) (hk:d.kind=7):Ctr Tryz.prog 43 [] [.agg [.i .u8 7,.i .i64 d.core,.i .i64 d.pc,.i .i64 d.addr,.i .i64 d.word,.i .i64 d.put,.b d.own]]
 (Det (.tup [(true,[.v (.string { data:=#[104,97,108,116] }),.t false,.t false,.t false,.t false,C.fn 97 false [3]]),(false,[.b (didB d)])]) [.dead,.dead,.dead,.dead]):=by
 refine Ctr.intro [] Tryz.func43 K K ?_
 refine Q0 (decide ((7:Int)≤(0:Int))||decide ((9:Int)≤(7:Int))) (fun h1=>?_) (fun h1=>?_)
 ·exact absurd h1 W131
 ·refine tz [3,2,1] ?_
  refine Qi 2 (fun _:Unit=>z12_16 d) (fun _=>True) ?_ ?_
  ·refine ⟨⟨trivial,?_⟩,?_⟩
   ·refine Q2 Q5 (Qd) [] ?_
    exact tTo (fun x=>z12_16 d) (fun x=>True) () trivial (vc:=[(0:Int)≤(7:Int),(7:Int)<(9:Int)]) (hv:=W2)
   ·refine Q2 Q5 (Qd) [] ?_
    exact tTo (fun x=>z12_16 d) (fun x=>True) () trivial [0,1,1000002,3,4,6,2] (vc:=[(0:Int)≤(7:Int),(7:Int)<(9:Int)]) (hv:=W2)
  ·rintro ⟨⟩ _
   refine tz [4,3,2,1] ?_
   refine Qi 2 (fun _:Unit=>z12_23 d) (fun _=>True) ?_ ?_
   ·refine ⟨⟨trivial,?_⟩,?_⟩
    ·refine Q0 (z12_14 d) (fun h2=>?_) (fun h2=>?_)
     ·exact tTo (fun x=>z12_23 d) (fun x=>True) () trivial [] [2] [didB d=!d.own] W20
     ·exact tTo (fun x=>z12_23 d) (fun x=>True) () trivial [] [2] [didB d=false] W20
    ·exact tTo (fun x=>z12_23 d) (fun x=>True) () trivial [] [2] (z12_12 d) W20
   ·rintro ⟨⟩ _
    exact Q1 [0,1,2,5]
abbrev z12_8:=Reg.box 120 [C.v (Value.string (ByteArray.mk #[(100:UInt8),(114:UInt8),(97:UInt8),(105:UInt8),(110:UInt8)])),C.t true,C.t true,C.t false,C.t false,C.fn 72 false []]
abbrev z12_18 (d:Did):=St.mk 85 z12_2 [Reg.box 89 [C.i .u8 8,C.i .i64 d.core,C.i .i64 d.pc,C.i .i64 d.addr,C.i .i64 d.word,C.i .i64 d.put,C.b d.own],z12_1,Reg.dead,Reg.dead,Reg.dead,Reg.dead,z12_8] []
abbrev z12_26 (d:Did):=St.mk 85 (z12_4 d) [Reg.dead,z12_8,Reg.dead,Reg.dead,Reg.dead,Reg.dead,Reg.dead] []
theorem Qi7 (d:Did) (hk:d.kind=8):Ctr Tryz.prog 43 [] [.agg [.i .u8 8,.i .i64 d.core,.i .i64 d.pc,.i .i64 d.addr,.i .i64 d.word,.i .i64 d.put,.b d.own]]
 (Det (.tup [(true,[.v (.string { data:=#[100,114,97,105,110] }),.t true,.t true,.t false,.t false,C.fn 72 false []]),(false,[.b (didB d)])]) [.dead,.dead,.dead,.dead]):=by
 refine Ctr.intro [] Tryz.func43 K K ?_
 refine Q0 (decide ((8:Int)≤(0:Int))||decide ((9:Int)≤(8:Int))) (fun h1=>?_) (fun h1=>?_)
 ·exact absurd h1 W131
 ·refine tz [3,2,1] ?_
  refine Qi 2 (fun _:Unit=>z12_18 d) (fun _=>True) ?_ ?_
  ·refine ⟨⟨trivial,?_⟩,?_⟩
   ·refine Q2 Q5 (Qd) [] ?_
    exact tTo (fun x=>z12_18 d) (fun x=>True) () trivial (vc:=[(0:Int)≤(8:Int),(8:Int)<(9:Int)]) (hv:=W2)
   ·refine Q2 Q5 (Qd) [] ?_
    exact tTo (fun x=>z12_18 d) (fun x=>True) () trivial [0,1,1000002,3,4,5,2] (vc:=[(0:Int)≤(8:Int),(8:Int)<(9:Int)]) (hv:=W2)
  ·rintro ⟨⟩ _
   refine tz [4,3,2,1] ?_
   refine Qi 2 (fun _:Unit=>z12_26 d) (fun _=>True) ?_ ?_
   ·refine ⟨⟨trivial,?_⟩,?_⟩
    ·refine Q0 (z12_30 d) (fun h2=>?_) (fun h2=>?_)
     ·exact tTo (fun x=>z12_26 d) (fun x=>True) () trivial [] [1] [didB d=!d.own] W20
     ·exact tTo (fun x=>z12_26 d) (fun x=>True) () trivial [] [1] [didB d=false] W20
    ·exact tTo (fun x=>z12_26 d) (fun x=>True) () trivial [] [1] (z12_24 d) W20
   ·rintro ⟨⟩ _
    exact Q1
theorem Qi8 (d:Did) (hk:¬ (1≤d.kind∧d.kind≤8)):Ctr Tryz.prog 43 [] [.agg d.cs]
 (Det (.tup [(true,[.v (.string { data:=#[] }),.t false,.t false,.t false,.t false,.v Value.nilFunc]),(false,[.b false])]) []):=by
 refine Ctr.intro [] Tryz.func43 K K ?_
 refine Q0 (decide (d.kind≤(0:Int))||decide ((9:Int)≤d.kind)) (fun h1=>?_) (fun h1=>?_)
 ·exact Q1
 ·exact (show False from by simp only [BL] at h1;omega).elim
end Go.Proofs.YtmaodngbpfjnnaaGreat
end
noncomputable section
namespace Go.Proofs.YtmaodngbpfjnnaaGreat
open Go Go.Tx
abbrev z13_2 (l:List Did):=rowOf 7 (·.tc) l
def L57_0 (l:List Did):Lp (Int×Bool):=⟨fun x=>{ N:=21,fr:=[se 9 (C.i .i64 x.1),se 8 (C.i .i64 (↑l.length:Int)),se 7 (C.h 0),se 2 (C.b x.2)],rg:=[z13_2 l],wr:=[] },fun x=>0≤x.1∧x.1≤(l.length:Int)∧rightsB l=allFrom (rightP l) x.1 l.length,fun x=>((l.length:Int)-x.1).toNat⟩
abbrev z13_1 (x1_0:Int) (l:List Did) (x1_1:Bool):=[se 4 (C.p 1 0),se 9 (C.i .i64 x1_0),se 8 (C.i .i64 (↑l.length:Int)),se 7 (C.h 0),se 2 (C.b x1_1)]
abbrev z13_4 (l:List Did) (x1_0:Int):=C.i .i64 (l.getD x1_0.toNat default).core
abbrev z13_5 (l:List Did) (x1_0:Int):=C.i .i64 (l.getD x1_0.toNat default).addr
abbrev z13_6 (l:List Did) (x1_0:Int):=C.i .i64 (l.getD x1_0.toNat default).word
abbrev z13_7 (l:List Did) (x1_0:Int):=C.i .i64 (l.getD x1_0.toNat default).put
abbrev z13_8 (l:List Did) (x1_0:Int):=C.i .i64 (l.getD x1_0.toNat default).pc
abbrev z13_3 (l:List Did) (x1_0:Int):=Reg.box 89 [C.i .u8 (l.getD x1_0.toNat default).kind,z13_4 l x1_0,z13_8 l x1_0,z13_5 l x1_0,z13_6 l x1_0,z13_7 l x1_0,C.b (l.getD x1_0.toNat default).own]
theorem Qm6 (l:List Did) (hl:∀ a:Nat,0≤(l.getD a default).kind∧(l.getD a default).kind≤255):Ctr Tryz.prog 25 [Did.rowR l] [.c (.h 0)]
 (Det (.c (.b (rightsB l))) [.dead]):=by
 refine Ctr.intro [] Tryz.func25 K K ?_
 refine RunF.lens 0 (m:=l.length) K (fun hlens_0=>?_)
 refine Qb (L57_0 l) (((0:Int),false)) ⟨by grind,by grind,rfl⟩ ?_
 rintro ⟨x1_0,x1_1⟩ hJ1
 dsimp only [L57_0] at hJ1
 refine tz [9,8,7,2] ?_
 refine Q0 (decide (x1_0<(↑l.length:Int))) (fun h2=>?_) (fun h2=>?_)
 ·refine RunF.cut (fun _:Unit=>St.mk 21 (z13_1 x1_0 l x1_1) [z13_2 l,z13_3 l x1_0] []) (fun _=>True) ?_ ?_
  ·exact tTo (fun x=>St.mk 21 (z13_1 x1_0 l x1_1) [z13_2 l,z13_3 l x1_0] []) (fun x=>True) () trivial (vc:=[(0:Int)≤x1_0,x1_0<(↑l.length:Int),x1_0.toNat<l.length]) (hv:=W2)
  ·rintro ⟨⟩ _
   rcases (show (l.getD x1_0.toNat default).kind=(1:Int)∨(l.getD x1_0.toNat default).kind=(2:Int)∨(l.getD x1_0.toNat default).kind=(3:Int)∨(l.getD x1_0.toNat default).kind=(4:Int)∨(l.getD x1_0.toNat default).kind=(5:Int)∨(l.getD x1_0.toNat default).kind=(6:Int)∨(l.getD x1_0.toNat default).kind=(7:Int)∨(l.getD x1_0.toNat default).kind=(8:Int)∨¬ ((1:Int)≤(l.getD x1_0.toNat default).kind∧(l.getD x1_0.toNat default).kind≤(8:Int)) from by omega) with hs3 | hs3 | hs3 | hs3 | hs3 | hs3 | hs3 | hs3 | hs3
   ·refine tWk (St.mk 21 (z13_1 x1_0 l x1_1) [z13_2 l,Reg.box 89 [C.i .u8 1,z13_4 l x1_0,z13_8 l x1_0,z13_5 l x1_0,z13_6 l x1_0,z13_7 l x1_0,C.b (l.getD x1_0.toNat default).own]] []) ?_ [] [2] [(1:Int)=(l.getD x1_0.toNat default).kind] W12
    refine tz [4,9,8,7,2] ?_
    refine Q2 Y2 (Qi0 (l.getD x1_0.toNat default) W27) [] ?_
    refine tz [15,9,8,7,2] ?_
    refine Q0 (!didB (l.getD x1_0.toNat default)) (fun h4=>?_) (fun h4=>?_)
    ·exact Q1 [] [0] [rightsB l=false] W22
    ·exact Q6 (L57_0 l) (x1_0,x1_1) ((x1_0+(1:Int),x1_1)) W111 W61 (vc:=[Fits IntKind.i64 (x1_0+(1:Int))]) (hv:=W2)
   ·refine tWk (St.mk 21 (z13_1 x1_0 l x1_1) [z13_2 l,Reg.box 89 [C.i .u8 2,z13_4 l x1_0,z13_8 l x1_0,z13_5 l x1_0,z13_6 l x1_0,z13_7 l x1_0,C.b (l.getD x1_0.toNat default).own]] []) ?_ [] [2] [(2:Int)=(l.getD x1_0.toNat default).kind] W12
    refine tz [4,9,8,7,2] ?_
    refine Q2 Y2 (Qi1 (l.getD x1_0.toNat default) W27) [] ?_
    refine tz [15,9,8,7,2] ?_
    refine Q0 (!didB (l.getD x1_0.toNat default)) (fun h4=>?_) (fun h4=>?_)
    ·exact Q1 [] [0] [rightsB l=false] W22
    ·exact Q6 (L57_0 l) (x1_0,x1_1) ((x1_0+(1:Int),x1_1)) W111 W61 (vc:=[Fits IntKind.i64 (x1_0+(1:Int))]) (hv:=W2)
   ·refine tWk (St.mk 21 (z13_1 x1_0 l x1_1) [z13_2 l,Reg.box 89 [C.i .u8 3,z13_4 l x1_0,z13_8 l x1_0,z13_5 l x1_0,z13_6 l x1_0,z13_7 l x1_0,C.b (l.getD x1_0.toNat default).own]] []) ?_ [] [2] [(3:Int)=(l.getD x1_0.toNat default).kind] W12
    refine tz [4,9,8,7,2] ?_
    refine Q2 Y2 (Qi2 (l.getD x1_0.toNat default) W27) [] ?_
    refine tz [15,9,8,7,2] ?_
    refine Q0 (!didB (l.getD x1_0.toNat default)) (fun h4=>?_) (fun h4=>?_)
    ·exact Q1 [] [0] [rightsB l=false] W22
    ·exact Q6 (L57_0 l) (x1_0,x1_1) ((x1_0+(1:Int),x1_1)) W111 W61 (vc:=[Fits IntKind.i64 (x1_0+(1:Int))]) (hv:=W2)
   ·refine tWk (St.mk 21 (z13_1 x1_0 l x1_1) [z13_2 l,Reg.box 89 [C.i .u8 4,z13_4 l x1_0,z13_8 l x1_0,z13_5 l x1_0,z13_6 l x1_0,z13_7 l x1_0,C.b (l.getD x1_0.toNat default).own]] []) ?_ [] [2] [(4:Int)=(l.getD x1_0.toNat default).kind] W12
    refine tz [4,9,8,7,2] ?_
    refine Q2 Y2 (Qi3 (l.getD x1_0.toNat default) W27) [] ?_
    refine tz [15,9,8,7,2] ?_
    refine Q0 (!didB (l.getD x1_0.toNat default)) (fun h4=>?_) (fun h4=>?_)
    ·exact Q1 [] [0] [rightsB l=false] W22
    ·exact Q6 (L57_0 l) (x1_0,x1_1) ((x1_0+(1:Int),x1_1)) W111 W61 (vc:=[Fits IntKind.i64 (x1_0+(1:Int))]) (hv:=W2)
   ·refine tWk (St.mk 21 (z13_1 x1_0 l x1_1) [z13_2 l,Reg.box 89 [C.i .u8 5,z13_4 l x1_0,z13_8 l x1_0,z13_5 l x1_0,z13_6 l x1_0,z13_7 l x1_0,C.b (l.getD x1_0.toNat default).own]] []) ?_ [] [2] [(5:Int)=(l.getD x1_0.toNat default).kind] W12
    refine tz [4,9,8,7,2] ?_
    refine Q2 Y2 (Qi4 (l.getD x1_0.toNat default) W27) [] ?_
    refine tz [15,9,8,7,2] ?_
    refine Q0 (!didB (l.getD x1_0.toNat default)) (fun h4=>?_) (fun h4=>?_)
    ·exact Q1 [] [0] [rightsB l=false] W22
    ·exact Q6 (L57_0 l) (x1_0,x1_1) ((x1_0+(1:Int),x1_1)) W111 W61 (vc:=[Fits IntKind.i64 (x1_0+(1:Int))]) (hv:=W2)
   ·refine tWk (St.mk 21 (z13_1 x1_0 l x1_1) [z13_2 l,Reg.box 89 [C.i .u8 6,z13_4 l x1_0,z13_8 l x1_0,z13_5 l x1_0,z13_6 l x1_0,z13_7 l x1_0,C.b (l.getD x1_0.toNat default).own]] []) ?_ [] [2] [(6:Int)=(l.getD x1_0.toNat default).kind] W12
    refine tz [4,9,8,7,2] ?_
    refine Q2 Y2 (Qi5 (l.getD x1_0.toNat default) W27) [] ?_
    refine tz [15,9,8,7,2] ?_
    refine Q0 (!didB (l.getD x1_0.toNat default)) (fun h4=>?_) (fun h4=>?_)
    ·exact Q1 [] [0] [rightsB l=false] W22
    ·exact Q6 (L57_0 l) (x1_0,x1_1) ((x1_0+(1:Int),x1_1)) W111 W61 (vc:=[Fits IntKind.i64 (x1_0+(1:Int))]) (hv:=W2)
   ·refine tWk (St.mk 21 (z13_1 x1_0 l x1_1) [z13_2 l,Reg.box 89 [C.i .u8 7,z13_4 l x1_0,z13_8 l x1_0,z13_5 l x1_0,z13_6 l x1_0,z13_7 l x1_0,C.b (l.getD x1_0.toNat default).own]] []) ?_ [] [2] [(7:Int)=(l.getD x1_0.toNat default).kind] W12
    refine tz [4,9,8,7,2] ?_
    refine Q2 Y2 (Qi6 (l.getD x1_0.toNat default) W27) [] ?_
    refine tz [15,9,8,7,2] ?_
    refine Q0 (!didB (l.getD x1_0.toNat default)) (fun h4=>?_) (fun h4=>?_)
    ·exact Q1 [] [0] [rightsB l=false] W22
    ·exact Q6 (L57_0 l) (x1_0,x1_1) ((x1_0+(1:Int),x1_1)) W111 W61 (vc:=[Fits IntKind.i64 (x1_0+(1:Int))]) (hv:=W2)
   ·refine tWk (St.mk 21 (z13_1 x1_0 l x1_1) [z13_2 l,Reg.box 89 [C.i .u8 8,z13_4 l x1_0,z13_8 l x1_0,z13_5 l x1_0,z13_6 l x1_0,z13_7 l x1_0,C.b (l.getD x1_0.toNat default).own]] []) ?_ [] [2] [(8:Int)=(l.getD x1_0.toNat default).kind] W12
    refine tz [4,9,8,7,2] ?_
    refine Q2 Y2 (Qi7 (l.getD x1_0.toNat default) W27) [] ?_
    refine tz [15,9,8,7,2] ?_
    refine Q0 (!didB (l.getD x1_0.toNat default)) (fun h4=>?_) (fun h4=>?_)
    ·exact Q1 [] [0] [rightsB l=false] W22
    ·exact Q6 (L57_0 l) (x1_0,x1_1) ((x1_0+(1:Int),x1_1)) W111 W61 (vc:=[Fits IntKind.i64 (x1_0+(1:Int))]) (hv:=W2)
   ·refine tz [4,9,8,7,2] ?_
    refine Q2 Y2 (Qi8 (l.getD x1_0.toNat default) W27) [] ?_
    refine tz [15,9,8,7,2] ?_
    refine Q0 (!false) (fun h4=>?_) (fun h4=>?_)
    ·exact Q1 [] [0] [rightsB l=false] W22
    ·exact absurd h4 W131
 ·exact Q1 [] [0] [rightsB l=true] W22
end Go.Proofs.YtmaodngbpfjnnaaGreat
end
noncomputable section
namespace Go.Proofs.YtmaodngbpfjnnaaGreat
open Go Go.Tx
def drW (w word:Int):Int:=if w=2&&decide (word=0) then 5 else onK w 2
def swW (w word put:Int):Int:=if w=2&&decide (word=0)&&!decide (put=0) then 4 else onK w 3
theorem Qy (w k:Int) (a0 a1 a2 a3 a4 a5:Int) (a6:Bool):Ctr Tryz.prog 97 [.ro [.i .u8 k]] [.c (.i .i64 w),.agg [.i .u8 a0,.i .i64 a1,.i .i64 a2,.i .i64 a3,.i .i64 a4,.i .i64 a5,.b a6],.c (.p 0 0)]
 (Det (.c (.i .u8 k)) [.dead]):=by
 exact Qhx w k ⟨a0,a1,a2,a3,a4,a5,a6⟩
theorem Q2r (w k:Int) (a0 a1 a2 a3 a4 a5:Int) (a6:Bool):Ctr Tryz.prog 98 [.ro [.i .u8 k]] [.c (.i .i64 w),.agg [.i .u8 a0,.i .i64 a1,.i .i64 a2,.i .i64 a3,.i .i64 a4,.i .i64 a5,.b a6],.c (.p 0 0)]
 (Det (.c (.i .u8 (onK w k))) [.dead]):=by
 exact Qg5 w k ⟨a0,a1,a2,a3,a4,a5,a6⟩
theorem Gk (w:Int) (a0 a1 a2 a3 a4 a5:Int) (a6:Bool):Ctr Tryz.prog 71 [] [.c (.i .i64 w),.agg [.i .u8 a0,.i .i64 a1,.i .i64 a2,.i .i64 a3,.i .i64 a4,.i .i64 a5,.b a6]]
 (Det (.c (.i .u8 (swW w a4 a5))) []):=by
 exact Qhy w ⟨a0,a1,a2,a3,a4,a5,a6⟩
theorem Gl (w:Int) (a0 a1 a2 a3 a4 a5:Int) (a6:Bool):Ctr Tryz.prog 72 [] [.c (.i .i64 w),.agg [.i .u8 a0,.i .i64 a1,.i .i64 a2,.i .i64 a3,.i .i64 a4,.i .i64 a5,.b a6]]
 (Det (.c (.i .u8 (drW w a4))) []):=by
 exact Qhz w ⟨a0,a1,a2,a3,a4,a5,a6⟩
theorem Qi9 (mem:List Int) (s9 l9 bu:Int) (cs:List Cor) (l:List Did):Ctr Tryz.prog 26 [IntRow mem,Cor.rowR cs,Did.rowR l] [.agg [.h 0,.i .i64 s9,.i .i64 l9,.i .i64 bu,.h 1],.c (.h 2)]
 (Det (.c (C.fn 44 false [4,3])) [.dead,.dead,.dead,Reg.box 29 [.h 0,.i .i64 s9,.i .i64 l9,.i .i64 bu,.h 1],Reg.box 31 [.h 2]]):=by
 refine Ctr.intro [] Tryz.func26 K K ?_
 exact Q1
def C50 (s9 l9 bu:Int) (l:List Did) (Xe:Ext) (x1_0:Int) (x1_1:Nat):St:=St.mk 90 [se 9 (C.p 8 0),se 8 (C.i .i64 (thD s9 l9 (l.getD x1_0.toNat default))),se 5 (C.p 7 0),se 12 (C.i .i64 x1_0),se 11 (C.i .i64 (l.length:Int)),se 10 (C.h 0),se 0 (C.h 6),se 2 (C.p 2 0)] [rowOf 7 (·.tc) l,Reg.ro [C.h 0],Reg.ro [C.h 3,C.i .i64 s9,C.i .i64 l9,C.i .i64 bu,C.h 4],Reg.dead,Reg.dead,Reg.froz Xe,Reg.ext Xe x1_1 true,Reg.box 89 [C.i .u8 (l.getD x1_0.toNat default).kind,C.i .i64 (l.getD x1_0.toNat default).core,C.i .i64 (l.getD x1_0.toNat default).pc,C.i .i64 (l.getD x1_0.toNat default).addr,C.i .i64 (l.getD x1_0.toNat default).word,C.i .i64 (l.getD x1_0.toNat default).put,C.b (l.getD x1_0.toNat default).own],Reg.box 53 [C.i .u8 (evOf s9 l9 (l.getD x1_0.toNat default) x1_0).kind,C.i .i64 (l.getD x1_0.toNat default).core,C.i .i64 0,C.i .i64 0,C.i .i64 0,C.t false,C.i .i64 x1_0]] []
def C50b (s9 l9 bu:Int) (l:List Did) (Xe:Ext) (x1_0:Int) (x1_1:Nat):St:=St.mk 90 [En.mk 60 [] (SV.c (C.b (decide ((evOf s9 l9 (l.getD x1_0.toNat default) x1_0).kind=1)||decide ((evOf s9 l9 (l.getD x1_0.toNat default) x1_0).kind=2)||decide ((evOf s9 l9 (l.getD x1_0.toNat default) x1_0).kind=3)))),se 57 (C.i .u8 (evOf s9 l9 (l.getD x1_0.toNat default) x1_0).kind),se 9 (C.p 8 0),se 8 (C.i .i64 (thD s9 l9 (l.getD x1_0.toNat default))),se 5 (C.p 7 0),se 12 (C.i .i64 x1_0),se 11 (C.i .i64 (l.length:Int)),se 10 (C.h 0),se 0 (C.h 6),se 2 (C.p 2 0)] (C50 s9 l9 bu l Xe x1_0 x1_1).rg []
def C50y (s9 l9 bu:Int) (l:List Did) (Xe:Ext) (x1_0:Int) (x1_1:Nat):St:=St.mk 90 [se 9 (C.p 8 0),se 12 (C.i .i64 x1_0),se 11 (C.i .i64 (l.length:Int)),se 10 (C.h 0),se 0 (C.h 6),se 2 (C.p 2 0)] [rowOf 7 (·.tc) l,Reg.ro [C.h 0],Reg.ro [C.h 3,C.i .i64 s9,C.i .i64 l9,C.i .i64 bu,C.h 4],Reg.dead,Reg.dead,Reg.froz Xe,Reg.ext Xe x1_1 true,Reg.dead,Reg.box 53 (evOf s9 l9 (l.getD x1_0.toNat default) x1_0).cs] []
def C50y_J (s9 l9:Int) (l:List Did) (x1_0:Int):Prop:=¬ (evOf s9 l9 (l.getD x1_0.toNat default) x1_0).kind=0
abbrev z14_13 (l:List Did):=rowOf 7 (·.tc) l
abbrev z14_14 (s9:Int) (l9:Int) (bu:Int):=Reg.ro [C.h 3,C.i .i64 s9,C.i .i64 l9,C.i .i64 bu,C.h 4]
def L88_0 (s9:Int) (l9:Int) (bu:Int) (l:List Did) (Xe:Ext):Lp (Int×Nat):=⟨fun x=>{ N:=90,fr:=[se 12 (C.i .i64 x.1),se 11 (C.i .i64 (↑l.length:Int)),se 10 (C.h 0),se 0 (C.h 6),se 2 (C.p 2 0)],rg:=[z14_13 l,Reg.ro [C.h 0],z14_14 s9 l9 bu,Reg.dead,Reg.dead,Reg.froz Xe,Reg.ext Xe x.2 true],wr:=[] },fun x=>0≤x.1∧x.1≤(l.length:Int)∧x.2=(evUp s9 l9 l x.1.toNat).length,fun x=>((l.length:Int)-x.1).toNat⟩
abbrev z14_54 (l:List Did):=se 11 (C.i .i64 (↑l.length:Int))
abbrev z14_1 (x1_0:Int) (l:List Did):=[se 6 (C.p 12 0),se 4 (C.i .i64 x1_0),se 5 (C.p 7 0),se 12 (C.i .i64 x1_0),z14_54 l,se 10 (C.h 0),se 0 (C.h 6),se 2 (C.p 2 0)]
abbrev z14_2 (x1_0:Int) (l:List Did):=[se 9 (C.p 13 0),se 8 (C.i .i64 0),se 5 (C.p 7 0),se 12 (C.i .i64 x1_0),z14_54 l,se 10 (C.h 0),se 0 (C.h 6),se 2 (C.p 2 0)]
abbrev z14_25 (l:List Did) (x1_0:Int):=C.i .i64 (l.getD x1_0.toNat default).core
abbrev z14_34 (l:List Did) (x1_0:Int):=C.i .i64 (l.getD x1_0.toNat default).addr
abbrev z14_35 (l:List Did) (x1_0:Int):=C.i .i64 (l.getD x1_0.toNat default).word
abbrev z14_36 (l:List Did) (x1_0:Int):=C.i .i64 (l.getD x1_0.toNat default).put
abbrev z14_48 (l:List Did) (x1_0:Int):=C.i .i64 (l.getD x1_0.toNat default).pc
abbrev z14_17 (l:List Did) (x1_0:Int):=Reg.box 89 [C.i .u8 3,z14_25 l x1_0,z14_48 l x1_0,z14_34 l x1_0,z14_35 l x1_0,z14_36 l x1_0,C.b (l.getD x1_0.toNat default).own]
abbrev z14_18 (l:List Did) (x1_0:Int):=Reg.box 53 [C.i .u8 0,z14_25 l x1_0,C.i .i64 0,C.i .i64 0,C.i .i64 0,C.t false,C.i .i64 x1_0]
abbrev z14_3 (l:List Did) (s9:Int) (l9:Int) (bu:Int) (Xe:Ext) (x1_1:Nat) (x1_0:Int):=[z14_13 l,Reg.ro [C.h 0],z14_14 s9 l9 bu,Reg.dead,Reg.dead,Reg.froz Xe,Reg.ext Xe x1_1 true,z14_17 l x1_0,Reg.dead,Reg.dead,Reg.dead,Reg.dead,Reg.dead,z14_18 l x1_0]
abbrev z14_4 (l:List Did) (x1_0:Int):=Reg.box 89 [C.i .u8 2,z14_25 l x1_0,z14_48 l x1_0,z14_34 l x1_0,z14_35 l x1_0,z14_36 l x1_0,C.b (l.getD x1_0.toNat default).own]
abbrev z14_5 (l:List Did) (x1_0:Int):=Reg.box 89 [C.i .u8 4,z14_25 l x1_0,z14_48 l x1_0,z14_34 l x1_0,z14_35 l x1_0,z14_36 l x1_0,C.b (l.getD x1_0.toNat default).own]
abbrev z14_6 (l:List Did) (x1_0:Int):=Reg.box 89 [C.i .u8 8,z14_25 l x1_0,z14_48 l x1_0,z14_34 l x1_0,z14_35 l x1_0,z14_36 l x1_0,C.b (l.getD x1_0.toNat default).own]
abbrev z14_7 (l:List Did) (x1_0:Int) (s9:Int):=[se 9 (C.p 13 0),se 8 (C.i .i64 ((l.getD x1_0.toNat default).addr-s9)),se 5 (C.p 7 0),se 12 (C.i .i64 x1_0),z14_54 l,se 10 (C.h 0),se 0 (C.h 6),se 2 (C.p 2 0)]
abbrev z14_8 (l:List Did) (x1_0:Int):=[se 9 (C.p 13 0),se 8 (C.i .i64 (l.getD x1_0.toNat default).addr),se 5 (C.p 7 0),se 12 (C.i .i64 x1_0),z14_54 l,se 10 (C.h 0),se 0 (C.h 6),se 2 (C.p 2 0)]
abbrev z14_9 (x1_0:Int) (l:List Did):=[se 4 (C.i .i64 x1_0),se 5 (C.p 7 0),se 12 (C.i .i64 x1_0),z14_54 l,se 10 (C.h 0),se 0 (C.h 6),se 2 (C.p 2 0)]
abbrev z14_10 (l:List Did) (x1_0:Int):=Reg.box 89 [C.i .u8 1,z14_25 l x1_0,z14_48 l x1_0,z14_34 l x1_0,z14_35 l x1_0,z14_36 l x1_0,C.b (l.getD x1_0.toNat default).own]
abbrev z14_11 (l:List Did) (x1_0:Int):=Reg.box 89 [C.i .u8 5,z14_25 l x1_0,z14_48 l x1_0,z14_34 l x1_0,z14_35 l x1_0,z14_36 l x1_0,C.b (l.getD x1_0.toNat default).own]
abbrev z14_12 (l:List Did) (x1_0:Int):=Reg.box 89 [C.i .u8 6,z14_25 l x1_0,z14_48 l x1_0,z14_34 l x1_0,z14_35 l x1_0,z14_36 l x1_0,C.b (l.getD x1_0.toNat default).own]
abbrev z14_15 (l:List Did) (x1_0:Int):=Reg.box 89 [C.i .u8 7,z14_25 l x1_0,z14_48 l x1_0,z14_34 l x1_0,z14_35 l x1_0,z14_36 l x1_0,C.b (l.getD x1_0.toNat default).own]
abbrev z14_16 (s9:Int) (l9:Int) (l:List Did) (x1_0:Int):=(evOf s9 l9 (l.getD x1_0.toNat default) x1_0)
abbrev z14_19:=Reg.box 120 [C.v (Value.string (ByteArray.mk #[(99:UInt8),(111:UInt8),(109:UInt8),(112:UInt8),(117:UInt8),(116:UInt8),(101:UInt8)])),C.t false,C.t false,C.t false,C.t false,C.fn 97 false [8]]
abbrev z14_20:=Reg.box 120 [C.v (Value.string (ByteArray.mk #[(112:UInt8),(114:UInt8),(105:UInt8),(110:UInt8),(116:UInt8)])),C.t false,C.t true,C.t false,C.t false,C.fn 97 false [10]]
abbrev z14_21:=Reg.box 120 [C.v (Value.string (ByteArray.mk #[(102:UInt8),(101:UInt8),(110:UInt8),(99:UInt8),(101:UInt8)])),C.t false,C.t false,C.t false,C.t false,C.fn 97 false [8]]
abbrev z14_22:=Reg.box 120 [C.v (Value.string (ByteArray.mk #[(115:UInt8),(116:UInt8),(111:UInt8),(114:UInt8),(101:UInt8)])),C.t true,C.t true,C.t false,C.t false,C.fn 97 false [8]]
abbrev z14_23:=Reg.box 120 [C.v (Value.string (ByteArray.mk #[(100:UInt8),(114:UInt8),(97:UInt8),(105:UInt8),(110:UInt8)])),C.t true,C.t true,C.t false,C.t false,C.fn 72 false []]
abbrev z14_24:=Reg.box 120 [C.v (Value.string (ByteArray.mk #[(104:UInt8),(97:UInt8),(108:UInt8),(116:UInt8)])),C.t false,C.t false,C.t false,C.t false,C.fn 97 false [11]]
abbrev z14_26 (x1_0:Int) (l:List Did) (s9:Int) (l9:Int) (bu:Int) (Xe:Ext) (x1_1:Nat):=St.mk 90 (z14_1 x1_0 l) [z14_13 l,Reg.ro [C.h 0],z14_14 s9 l9 bu,Reg.dead,Reg.dead,Reg.froz Xe,Reg.ext Xe x1_1 true,z14_4 l x1_0,Reg.dead,Reg.box 51 [C.i .u8 1],Reg.dead,Reg.dead,Reg.box 120 [C.v (Value.string (ByteArray.mk #[(108:UInt8),(111:UInt8),(97:UInt8),(100:UInt8)])),C.t true,C.t true,C.t false,C.t true,C.fn 98 false [9]]] []
abbrev z14_27 (x1_0:Int) (l:List Did) (s9:Int) (l9:Int) (bu:Int) (Xe:Ext) (x1_1:Nat):=St.mk 90 (z14_1 x1_0 l) [z14_13 l,Reg.ro [C.h 0],z14_14 s9 l9 bu,Reg.dead,Reg.dead,Reg.froz Xe,Reg.ext Xe x1_1 true,z14_5 l x1_0,Reg.dead,Reg.dead,Reg.dead,Reg.dead,Reg.box 120 [C.v (Value.string (ByteArray.mk #[(115:UInt8),(119:UInt8),(97:UInt8),(112:UInt8)])),C.t true,C.t true,C.t true,C.t false,C.fn 71 false []]] []
abbrev z14_28 (s9:Int) (l9:Int) (l:List Did) (x1_0:Int):=(decide ((z14_16 s9 l9 l x1_0).kind=(1:Int))||decide ((z14_16 s9 l9 l x1_0).kind=(2:Int))||decide ((z14_16 s9 l9 l x1_0).kind=(3:Int)))
abbrev z14_29:=Reg.box 51 [C.i .u8 0]
abbrev z14_30 (x1_0:Int) (l:List Did) (s9:Int) (l9:Int) (bu:Int) (Xe:Ext) (x1_1:Nat):=St.mk 90 (z14_1 x1_0 l) [z14_13 l,Reg.ro [C.h 0],z14_14 s9 l9 bu,Reg.dead,Reg.dead,Reg.froz Xe,Reg.ext Xe x1_1 true,z14_12 l x1_0,Reg.dead,Reg.dead,Reg.box 51 [C.i .u8 6],Reg.dead,z14_20] []
abbrev z14_31 (x1_0:Int) (l:List Did) (s9:Int) (l9:Int) (bu:Int) (Xe:Ext) (x1_1:Nat):=St.mk 90 (z14_1 x1_0 l) [z14_13 l,Reg.ro [C.h 0],z14_14 s9 l9 bu,Reg.dead,Reg.dead,Reg.froz Xe,Reg.ext Xe x1_1 true,z14_15 l x1_0,Reg.dead,Reg.dead,Reg.dead,Reg.box 51 [C.i .u8 7],z14_24] []
abbrev z14_32 (x1_0:Int) (l:List Did) (s9:Int) (l9:Int) (bu:Int) (Xe:Ext) (x1_1:Nat):=St.mk 90 (z14_2 x1_0 l) [z14_13 l,Reg.ro [C.h 0],z14_14 s9 l9 bu,Reg.dead,Reg.dead,Reg.froz Xe,Reg.ext Xe x1_1 true,z14_10 l x1_0,Reg.dead,Reg.dead,Reg.dead,Reg.dead,Reg.dead,z14_18 l x1_0] []
abbrev z14_33 (x1_0:Int) (l:List Did) (s9:Int) (l9:Int) (bu:Int) (Xe:Ext) (x1_1:Nat):=St.mk 90 (z14_2 x1_0 l) [z14_13 l,Reg.ro [C.h 0],z14_14 s9 l9 bu,Reg.dead,Reg.dead,Reg.froz Xe,Reg.ext Xe x1_1 true,z14_11 l x1_0,Reg.dead,Reg.dead,Reg.dead,Reg.dead,Reg.dead,z14_18 l x1_0] []
abbrev z14_37 (l:List Did) (x1_0:Int) (s9:Int) (l9:Int) (bu:Int) (Xe:Ext) (x1_1:Nat):=St.mk 90 (z14_7 l x1_0 s9) [z14_13 l,Reg.ro [C.h 0],z14_14 s9 l9 bu,Reg.dead,Reg.dead,Reg.froz Xe,Reg.ext Xe x1_1 true,z14_5 l x1_0,Reg.dead,Reg.dead,Reg.dead,Reg.dead,Reg.dead,Reg.box 53 [C.i .u8 (swW (2:Int) (l.getD x1_0.toNat default).word (l.getD x1_0.toNat default).put),z14_25 l x1_0,C.i .i64 0,C.i .i64 0,C.i .i64 0,C.t false,C.i .i64 x1_0]] []
abbrev z14_38 (l:List Did) (x1_0:Int) (s9:Int) (l9:Int) (bu:Int) (Xe:Ext) (x1_1:Nat):=St.mk 90 (z14_8 l x1_0) [z14_13 l,Reg.ro [C.h 0],z14_14 s9 l9 bu,Reg.dead,Reg.dead,Reg.froz Xe,Reg.ext Xe x1_1 true,z14_5 l x1_0,Reg.dead,Reg.dead,Reg.dead,Reg.dead,Reg.dead,Reg.box 53 [C.i .u8 (swW (1:Int) (l.getD x1_0.toNat default).word (l.getD x1_0.toNat default).put),z14_25 l x1_0,C.i .i64 0,C.i .i64 0,C.i .i64 0,C.t false,C.i .i64 x1_0]] []
abbrev z14_39 (x1_0:Int) (l:List Did) (s9:Int) (l9:Int) (bu:Int) (Xe:Ext) (x1_1:Nat):=St.mk 90 (z14_2 x1_0 l) [z14_13 l,Reg.ro [C.h 0],z14_14 s9 l9 bu,Reg.dead,Reg.dead,Reg.froz Xe,Reg.ext Xe x1_1 true,z14_5 l x1_0,Reg.dead,Reg.dead,Reg.dead,Reg.dead,Reg.dead,Reg.box 53 [C.i .u8 (swW (0:Int) (l.getD x1_0.toNat default).word (l.getD x1_0.toNat default).put),z14_25 l x1_0,C.i .i64 0,C.i .i64 0,C.i .i64 0,C.t false,C.i .i64 x1_0]] []
abbrev z14_40 (l:List Did) (x1_0:Int) (s9:Int) (l9:Int) (bu:Int) (Xe:Ext) (x1_1:Nat):=St.mk 90 (z14_7 l x1_0 s9) [z14_13 l,Reg.ro [C.h 0],z14_14 s9 l9 bu,Reg.dead,Reg.dead,Reg.froz Xe,Reg.ext Xe x1_1 true,z14_6 l x1_0,Reg.dead,Reg.dead,Reg.dead,Reg.dead,Reg.dead,Reg.box 53 [C.i .u8 (drW (2:Int) (l.getD x1_0.toNat default).word),z14_25 l x1_0,C.i .i64 0,C.i .i64 0,C.i .i64 0,C.t false,C.i .i64 x1_0]] []
abbrev z14_41 (l:List Did) (x1_0:Int) (s9:Int) (l9:Int) (bu:Int) (Xe:Ext) (x1_1:Nat):=St.mk 90 (z14_8 l x1_0) [z14_13 l,Reg.ro [C.h 0],z14_14 s9 l9 bu,Reg.dead,Reg.dead,Reg.froz Xe,Reg.ext Xe x1_1 true,z14_6 l x1_0,Reg.dead,Reg.dead,Reg.dead,Reg.dead,Reg.dead,Reg.box 53 [C.i .u8 (drW (1:Int) (l.getD x1_0.toNat default).word),z14_25 l x1_0,C.i .i64 0,C.i .i64 0,C.i .i64 0,C.t false,C.i .i64 x1_0]] []
abbrev z14_42 (x1_0:Int) (l:List Did) (s9:Int) (l9:Int) (bu:Int) (Xe:Ext) (x1_1:Nat):=St.mk 90 (z14_2 x1_0 l) [z14_13 l,Reg.ro [C.h 0],z14_14 s9 l9 bu,Reg.dead,Reg.dead,Reg.froz Xe,Reg.ext Xe x1_1 true,z14_6 l x1_0,Reg.dead,Reg.dead,Reg.dead,Reg.dead,Reg.dead,Reg.box 53 [C.i .u8 (drW (0:Int) (l.getD x1_0.toNat default).word),z14_25 l x1_0,C.i .i64 0,C.i .i64 0,C.i .i64 0,C.t false,C.i .i64 x1_0]] []
abbrev z14_43 (l:List Did) (x1_0:Int) (s9:Int) (l9:Int) (bu:Int) (Xe:Ext) (x1_1:Nat):=St.mk 90 (z14_7 l x1_0 s9) [z14_13 l,Reg.ro [C.h 0],z14_14 s9 l9 bu,Reg.dead,Reg.dead,Reg.froz Xe,Reg.ext Xe x1_1 true,z14_4 l x1_0,Reg.dead,Reg.dead,Reg.dead,Reg.dead,Reg.dead,Reg.box 53 [C.i .u8 (onK (2:Int) (1:Int)),z14_25 l x1_0,C.i .i64 0,C.i .i64 0,C.i .i64 0,C.t false,C.i .i64 x1_0]] []
abbrev z14_44 (l:List Did) (x1_0:Int) (s9:Int) (l9:Int) (bu:Int) (Xe:Ext) (x1_1:Nat):=St.mk 90 (z14_8 l x1_0) [z14_13 l,Reg.ro [C.h 0],z14_14 s9 l9 bu,Reg.dead,Reg.dead,Reg.froz Xe,Reg.ext Xe x1_1 true,z14_4 l x1_0,Reg.dead,Reg.dead,Reg.dead,Reg.dead,Reg.dead,Reg.box 53 [C.i .u8 (onK (1:Int) (1:Int)),z14_25 l x1_0,C.i .i64 0,C.i .i64 0,C.i .i64 0,C.t false,C.i .i64 x1_0]] []
abbrev z14_45 (x1_0:Int) (l:List Did) (s9:Int) (l9:Int) (bu:Int) (Xe:Ext) (x1_1:Nat):=St.mk 90 (z14_2 x1_0 l) [z14_13 l,Reg.ro [C.h 0],z14_14 s9 l9 bu,Reg.dead,Reg.dead,Reg.froz Xe,Reg.ext Xe x1_1 true,z14_4 l x1_0,Reg.dead,Reg.dead,Reg.dead,Reg.dead,Reg.dead,Reg.box 53 [C.i .u8 (onK (0:Int) (1:Int)),z14_25 l x1_0,C.i .i64 0,C.i .i64 0,C.i .i64 0,C.t false,C.i .i64 x1_0]] []
abbrev z14_46 (x1_0:Int) (l:List Did) (s9:Int) (l9:Int) (bu:Int) (Xe:Ext) (x1_1:Nat):=St.mk 90 (z14_2 x1_0 l) [z14_13 l,Reg.ro [C.h 0],z14_14 s9 l9 bu,Reg.dead,Reg.dead,Reg.froz Xe,Reg.ext Xe x1_1 true,z14_12 l x1_0,Reg.dead,Reg.dead,Reg.dead,Reg.dead,Reg.dead,Reg.box 53 [C.i .u8 6,z14_25 l x1_0,C.i .i64 0,C.i .i64 0,C.i .i64 0,C.t false,C.i .i64 x1_0]] []
abbrev z14_47 (x1_0:Int) (l:List Did) (s9:Int) (l9:Int) (bu:Int) (Xe:Ext) (x1_1:Nat):=St.mk 90 (z14_2 x1_0 l) [z14_13 l,Reg.ro [C.h 0],z14_14 s9 l9 bu,Reg.dead,Reg.dead,Reg.froz Xe,Reg.ext Xe x1_1 true,z14_15 l x1_0,Reg.dead,Reg.dead,Reg.dead,Reg.dead,Reg.dead,Reg.box 53 [C.i .u8 7,z14_25 l x1_0,C.i .i64 0,C.i .i64 0,C.i .i64 0,C.t false,C.i .i64 x1_0]] []
abbrev z14_49 (x1_0:Int) (l:List Did) (s9:Int) (l9:Int) (bu:Int) (Xe:Ext) (x1_1:Nat):=St.mk 90 (z14_1 x1_0 l) [z14_13 l,Reg.ro [C.h 0],z14_14 s9 l9 bu,Reg.dead,Reg.dead,Reg.froz Xe,Reg.ext Xe x1_1 true,z14_6 l x1_0,Reg.dead,Reg.dead,Reg.dead,Reg.dead,z14_23] []
abbrev z14_50 (x1_0:Int) (l:List Did) (s9:Int) (l9:Int) (bu:Int) (Xe:Ext) (x1_1:Nat):=St.mk 90 (z14_1 x1_0 l) [z14_13 l,Reg.ro [C.h 0],z14_14 s9 l9 bu,Reg.dead,Reg.dead,Reg.froz Xe,Reg.ext Xe x1_1 true,z14_10 l x1_0,z14_29,Reg.dead,Reg.dead,Reg.dead,z14_19] []
abbrev z14_51 (x1_0:Int) (l:List Did) (s9:Int) (l9:Int) (bu:Int) (Xe:Ext) (x1_1:Nat):=St.mk 90 (z14_1 x1_0 l) [z14_13 l,Reg.ro [C.h 0],z14_14 s9 l9 bu,Reg.dead,Reg.dead,Reg.froz Xe,Reg.ext Xe x1_1 true,z14_17 l x1_0,z14_29,Reg.dead,Reg.dead,Reg.dead,z14_22] []
abbrev z14_52 (x1_0:Int) (l:List Did) (s9:Int) (l9:Int) (bu:Int) (Xe:Ext) (x1_1:Nat):=St.mk 90 (z14_1 x1_0 l) [z14_13 l,Reg.ro [C.h 0],z14_14 s9 l9 bu,Reg.dead,Reg.dead,Reg.froz Xe,Reg.ext Xe x1_1 true,z14_11 l x1_0,z14_29,Reg.dead,Reg.dead,Reg.dead,z14_21] []
abbrev z14_53 (x1_0:Int) (l:List Did) (s9:Int) (l9:Int) (bu:Int) (Xe:Ext) (x1_1:Nat):=St.mk 90 (z14_9 x1_0 l) [z14_13 l,Reg.ro [C.h 0],z14_14 s9 l9 bu,Reg.dead,Reg.dead,Reg.froz Xe,Reg.ext Xe x1_1 true,Reg.box 89 [C.i .u8 (l.getD x1_0.toNat default).kind,z14_25 l x1_0,z14_48 l x1_0,z14_34 l x1_0,z14_35 l x1_0,z14_36 l x1_0,C.b (l.getD x1_0.toNat default).own]] []
theorem Qe3 (mem:List Int) (s9 l9 bu:Int) (cs:List Cor) (l:List Did) (hs:0≤s9∧s9≤64∧0≤l9∧l9≤16) (hr:rightsB l=true) (Xe:Ext) (hn:Xe.n=(evUp s9 l9 l l.length).length) (he:Xe.enc=fun k=>.agg ((evUp s9 l9 l l.length).getD k default).cs) (hy:Xe.Yields Tryz.prog):Ctr Tryz.prog 44 ([Did.rowR l,.ro [.h 0],.ro [.h 3,.i .i64 s9,.i .i64 l9,.i .i64 bu,.h 4],.dead,.dead]++[.froz Xe,.ext Xe 0 true]) [.c (.h 6),.c (.p 1 0),.c (.p 2 0)]
 (RangeEnd Xe 6):=by
 refine Ctr.intro [] Tryz.func44 K K ?_
 refine RunF.lens 0 (m:=l.length) K (fun hlens_0=>?_)
 refine Qb (L88_0 s9 l9 bu l Xe) (((0:Int),0)) ⟨Int.le_refl _,by grind,rfl⟩ ?_
 rintro ⟨x1_0,x1_1⟩ hJ1
 dsimp only [L88_0] at hJ1
 refine tz [12,11,10,0,2] ?_
 refine Q0 (decide (x1_0<(↑l.length:Int))) (fun h2=>?_) (fun h2=>?_)
 ·refine RunF.cut (fun _:Unit=>z14_53 x1_0 l s9 l9 bu Xe x1_1) (fun _=>True) ?_ ?_
  ·exact tTo (fun x=>z14_53 x1_0 l s9 l9 bu Xe x1_1) (fun x=>True) () trivial (vc:=[(0:Int)≤x1_0,x1_0<(↑l.length:Int),x1_0.toNat<l.length]) (hv:=W2)
  ·rintro ⟨⟩ _
   refine RunF.cutm 4 (fun _:Unit=>C50 s9 l9 bu l Xe x1_0 x1_1) (fun _=>True) ?_ ?_
   ·rcases (show (l.getD x1_0.toNat default).kind=(1:Int)∨(l.getD x1_0.toNat default).kind=(2:Int)∨(l.getD x1_0.toNat default).kind=(3:Int)∨(l.getD x1_0.toNat default).kind=(4:Int)∨(l.getD x1_0.toNat default).kind=(5:Int)∨(l.getD x1_0.toNat default).kind=(6:Int)∨(l.getD x1_0.toNat default).kind=(7:Int)∨(l.getD x1_0.toNat default).kind=(8:Int) from (by have hb:=Gt (Q20 hr (i:=x1_0) (by omega) (by simpa using h2));omega)) with hs3 | hs3 | hs3 | hs3 | hs3 | hs3 | hs3 | hs3
    ·refine tWk (St.mk 90 (z14_9 x1_0 l) [z14_13 l,Reg.ro [C.h 0],z14_14 s9 l9 bu,Reg.dead,Reg.dead,Reg.froz Xe,Reg.ext Xe x1_1 true,z14_10 l x1_0] []) ?_ [] [9] [(1:Int)=(l.getD x1_0.toNat default).kind] W12
     refine tz [4,5,12,11,10,0,2] ?_
     refine Qi 2 (fun _:Unit=>z14_50 x1_0 l s9 l9 bu Xe x1_1) (fun _=>True) ?_ ?_
     ·refine ⟨⟨trivial,?_⟩,?_⟩
      ·refine Q2 Q5 (Qd) [] ?_
       exact tTo (fun x=>z14_50 x1_0 l s9 l9 bu Xe x1_1) (fun x=>True) () trivial (vc:=[(0:Int)≤(1:Int),(1:Int)<(9:Int)]) (hv:=W2)
      ·refine Q2 Q5 (Qd) [] ?_
       exact tTo (fun x=>z14_50 x1_0 l s9 l9 bu Xe x1_1) (fun x=>True) () trivial [0,1,2,3,4,5,6,7,9,1000009,10,11,8] (vc:=[(0:Int)≤(1:Int),(1:Int)<(9:Int)]) (hv:=W2)
     ·rintro ⟨⟩ _
      refine tz [6,4,5,12,11,10,0,2] ?_
      refine Qi 2 (fun _:Unit=>z14_32 x1_0 l s9 l9 bu Xe x1_1) (fun _=>True) ?_ ?_
      ·refine ⟨⟨trivial,?_⟩,?_⟩
       ·refine Q2 Qh (Qy 0 0 1 ((l.getD x1_0.toNat default).core) ((l.getD x1_0.toNat default).pc) ((l.getD x1_0.toNat default).addr) ((l.getD x1_0.toNat default).word) ((l.getD x1_0.toNat default).put) ((l.getD x1_0.toNat default).own)) [8] ?_
        exact tTo (fun x=>z14_32 x1_0 l s9 l9 bu Xe x1_1) (fun x=>True) () trivial
       ·refine Q2 Qh (Qy 0 0 1 ((l.getD x1_0.toNat default).core) ((l.getD x1_0.toNat default).pc) ((l.getD x1_0.toNat default).addr) ((l.getD x1_0.toNat default).word) ((l.getD x1_0.toNat default).put) ((l.getD x1_0.toNat default).own)) [8] ?_
        exact tTo (fun x=>z14_32 x1_0 l s9 l9 bu Xe x1_1) (fun x=>True) () trivial
      ·rintro ⟨⟩ _
       exact tTo (fun x=>C50 s9 l9 bu l Xe x1_0 x1_1) (fun x=>True) () trivial [0,1,2,3,4,5,6,7,13] [9,16,22] [(l.getD x1_0.toNat default).kind=(1:Int),(z14_16 s9 l9 l x1_0).kind=(0:Int),thD s9 l9 (l.getD x1_0.toNat default)=(0:Int)] W11
    ·refine tWk (St.mk 90 (z14_9 x1_0 l) [z14_13 l,Reg.ro [C.h 0],z14_14 s9 l9 bu,Reg.dead,Reg.dead,Reg.froz Xe,Reg.ext Xe x1_1 true,z14_4 l x1_0] []) ?_ [] [9] [(2:Int)=(l.getD x1_0.toNat default).kind] W12
     refine tz [4,5,12,11,10,0,2] ?_
     refine Qi 2 (fun _:Unit=>z14_26 x1_0 l s9 l9 bu Xe x1_1) (fun _=>True) ?_ ?_
     ·refine ⟨⟨trivial,?_⟩,?_⟩
      ·refine Q2 Q5 (Qd) [] ?_
       exact tTo (fun x=>z14_26 x1_0 l s9 l9 bu Xe x1_1) (fun x=>True) () trivial (vc:=[(0:Int)≤(2:Int),(2:Int)<(9:Int)]) (hv:=W2)
      ·refine Q2 Q5 (Qd) [] ?_
       exact tTo (fun x=>z14_26 x1_0 l s9 l9 bu Xe x1_1) (fun x=>True) () trivial [0,1,2,3,4,5,6,7,1000008,10,1000010,11,8] (vc:=[(0:Int)≤(2:Int),(2:Int)<(9:Int)]) (hv:=W2)
     ·rintro ⟨⟩ _
      refine tz [6,4,5,12,11,10,0,2] ?_
      refine Q0 (decide ((l.getD x1_0.toNat default).addr<s9)) (fun h4=>?_) (fun h4=>?_)
      ·refine tz [8,7,6,4,5,12,11,10,0,2] ?_
       refine Qi 2 (fun _:Unit=>z14_44 l x1_0 s9 l9 bu Xe x1_1) (fun _=>True) ?_ ?_
       ·refine ⟨⟨trivial,?_⟩,?_⟩
        ·refine Q2 Yl (Q2r 1 1 2 ((l.getD x1_0.toNat default).core) ((l.getD x1_0.toNat default).pc) ((l.getD x1_0.toNat default).addr) ((l.getD x1_0.toNat default).word) ((l.getD x1_0.toNat default).put) ((l.getD x1_0.toNat default).own)) [9] ?_
         exact tTo (fun x=>z14_44 l x1_0 s9 l9 bu Xe x1_1) (fun x=>True) () trivial
        ·refine Q2 Yl (Q2r 1 1 2 ((l.getD x1_0.toNat default).core) ((l.getD x1_0.toNat default).pc) ((l.getD x1_0.toNat default).addr) ((l.getD x1_0.toNat default).word) ((l.getD x1_0.toNat default).put) ((l.getD x1_0.toNat default).own)) [9] ?_
         exact tTo (fun x=>z14_44 l x1_0 s9 l9 bu Xe x1_1) (fun x=>True) () trivial
       ·rintro ⟨⟩ _
        exact tTo (fun x=>C50 s9 l9 bu l Xe x1_0 x1_1) (fun x=>True) () trivial [0,1,2,3,4,5,6,7,13] [9,16,22] [(l.getD x1_0.toNat default).kind=(2:Int),(z14_16 s9 l9 l x1_0).kind=onK (1:Int) (1:Int),thD s9 l9 (l.getD x1_0.toNat default)=(l.getD x1_0.toNat default).addr] W11
      ·refine tz [8,7,6,4,5,12,11,10,0,2] ?_
       refine Q0 (decide ((l.getD x1_0.toNat default).addr<s9+l9)) (fun h5=>?_) (fun h5=>?_) (vc:=[Fits IntKind.i64 (s9+l9)]) (hv:=W2)
       ·refine tz [8,7,6,4,5,12,11,10,0,2] ?_
        refine Qi 2 (fun _:Unit=>z14_43 l x1_0 s9 l9 bu Xe x1_1) (fun _=>True) ?_ ?_ (vc:=[Fits IntKind.i64 ((l.getD x1_0.toNat default).addr-s9)]) (hv:=W2)
        ·refine ⟨⟨trivial,?_⟩,?_⟩
         ·refine Q2 Yl (Q2r 2 1 2 ((l.getD x1_0.toNat default).core) ((l.getD x1_0.toNat default).pc) ((l.getD x1_0.toNat default).addr) ((l.getD x1_0.toNat default).word) ((l.getD x1_0.toNat default).put) ((l.getD x1_0.toNat default).own)) [9] ?_
          exact tTo (fun x=>z14_43 l x1_0 s9 l9 bu Xe x1_1) (fun x=>True) () trivial
         ·refine Q2 Yl (Q2r 2 1 2 ((l.getD x1_0.toNat default).core) ((l.getD x1_0.toNat default).pc) ((l.getD x1_0.toNat default).addr) ((l.getD x1_0.toNat default).word) ((l.getD x1_0.toNat default).put) ((l.getD x1_0.toNat default).own)) [9] ?_
          exact tTo (fun x=>z14_43 l x1_0 s9 l9 bu Xe x1_1) (fun x=>True) () trivial
        ·rintro ⟨⟩ _
         exact tTo (fun x=>C50 s9 l9 bu l Xe x1_0 x1_1) (fun x=>True) () trivial [0,1,2,3,4,5,6,7,13] [9,16,22] [(l.getD x1_0.toNat default).kind=(2:Int),(z14_16 s9 l9 l x1_0).kind=onK (2:Int) (1:Int),thD s9 l9 (l.getD x1_0.toNat default)=(l.getD x1_0.toNat default).addr-s9] W11
       ·refine tz [8,7,6,4,5,12,11,10,0,2] ?_
        refine Qi 2 (fun _:Unit=>z14_45 x1_0 l s9 l9 bu Xe x1_1) (fun _=>True) ?_ ?_
        ·refine ⟨⟨trivial,?_⟩,?_⟩
         ·refine Q2 Yl (Q2r 0 1 2 ((l.getD x1_0.toNat default).core) ((l.getD x1_0.toNat default).pc) ((l.getD x1_0.toNat default).addr) ((l.getD x1_0.toNat default).word) ((l.getD x1_0.toNat default).put) ((l.getD x1_0.toNat default).own)) [9] ?_
          exact tTo (fun x=>z14_45 x1_0 l s9 l9 bu Xe x1_1) (fun x=>True) () trivial
         ·refine Q2 Yl (Q2r 0 1 2 ((l.getD x1_0.toNat default).core) ((l.getD x1_0.toNat default).pc) ((l.getD x1_0.toNat default).addr) ((l.getD x1_0.toNat default).word) ((l.getD x1_0.toNat default).put) ((l.getD x1_0.toNat default).own)) [9] ?_
          exact tTo (fun x=>z14_45 x1_0 l s9 l9 bu Xe x1_1) (fun x=>True) () trivial
        ·rintro ⟨⟩ _
         exact tTo (fun x=>C50 s9 l9 bu l Xe x1_0 x1_1) (fun x=>True) () trivial [0,1,2,3,4,5,6,7,13] [9,16,22] [(l.getD x1_0.toNat default).kind=(2:Int),(z14_16 s9 l9 l x1_0).kind=onK (0:Int) (1:Int),thD s9 l9 (l.getD x1_0.toNat default)=(0:Int)] W11
    ·refine tWk (St.mk 90 (z14_9 x1_0 l) [z14_13 l,Reg.ro [C.h 0],z14_14 s9 l9 bu,Reg.dead,Reg.dead,Reg.froz Xe,Reg.ext Xe x1_1 true,z14_17 l x1_0] []) ?_ [] [9] [(3:Int)=(l.getD x1_0.toNat default).kind] W12
     refine tz [4,5,12,11,10,0,2] ?_
     refine Qi 2 (fun _:Unit=>z14_51 x1_0 l s9 l9 bu Xe x1_1) (fun _=>True) ?_ ?_
     ·refine ⟨⟨trivial,?_⟩,?_⟩
      ·refine Q2 Q5 (Qd) [] ?_
       exact tTo (fun x=>z14_51 x1_0 l s9 l9 bu Xe x1_1) (fun x=>True) () trivial (vc:=[(0:Int)≤(3:Int),(3:Int)<(9:Int)]) (hv:=W2)
      ·refine Q2 Q5 (Qd) [] ?_
       exact tTo (fun x=>z14_51 x1_0 l s9 l9 bu Xe x1_1) (fun x=>True) () trivial [0,1,2,3,4,5,6,7,9,1000009,10,11,8] (vc:=[(0:Int)≤(3:Int),(3:Int)<(9:Int)]) (hv:=W2)
     ·rintro ⟨⟩ _
      refine tz [6,4,5,12,11,10,0,2] ?_
      refine Q0 (decide ((l.getD x1_0.toNat default).addr<s9)) (fun h4=>?_) (fun h4=>?_)
      ·refine tz [8,7,6,4,5,12,11,10,0,2] ?_
       refine Qi 2 (fun _:Unit=>St.mk 90 (z14_8 l x1_0) (z14_3 l s9 l9 bu Xe x1_1 x1_0) []) (fun _=>True) ?_ ?_
       ·refine ⟨⟨trivial,?_⟩,?_⟩
        ·refine Q2 Qh (Qy 1 0 3 ((l.getD x1_0.toNat default).core) ((l.getD x1_0.toNat default).pc) ((l.getD x1_0.toNat default).addr) ((l.getD x1_0.toNat default).word) ((l.getD x1_0.toNat default).put) ((l.getD x1_0.toNat default).own)) [8] ?_
         exact tTo (fun x=>St.mk 90 (z14_8 l x1_0) (z14_3 l s9 l9 bu Xe x1_1 x1_0) []) (fun x=>True) () trivial
        ·refine Q2 Qh (Qy 1 0 3 ((l.getD x1_0.toNat default).core) ((l.getD x1_0.toNat default).pc) ((l.getD x1_0.toNat default).addr) ((l.getD x1_0.toNat default).word) ((l.getD x1_0.toNat default).put) ((l.getD x1_0.toNat default).own)) [8] ?_
         exact tTo (fun x=>St.mk 90 (z14_8 l x1_0) (z14_3 l s9 l9 bu Xe x1_1 x1_0) []) (fun x=>True) () trivial
       ·rintro ⟨⟩ _
        exact tTo (fun x=>C50 s9 l9 bu l Xe x1_0 x1_1) (fun x=>True) () trivial [0,1,2,3,4,5,6,7,13] [9,16,22] [(l.getD x1_0.toNat default).kind=(3:Int),(z14_16 s9 l9 l x1_0).kind=(0:Int),thD s9 l9 (l.getD x1_0.toNat default)=(l.getD x1_0.toNat default).addr] W11
      ·refine tz [8,7,6,4,5,12,11,10,0,2] ?_
       refine Q0 (decide ((l.getD x1_0.toNat default).addr<s9+l9)) (fun h5=>?_) (fun h5=>?_) (vc:=[Fits IntKind.i64 (s9+l9)]) (hv:=W2)
       ·refine tz [8,7,6,4,5,12,11,10,0,2] ?_
        refine Qi 2 (fun _:Unit=>St.mk 90 (z14_7 l x1_0 s9) (z14_3 l s9 l9 bu Xe x1_1 x1_0) []) (fun _=>True) ?_ ?_ (vc:=[Fits IntKind.i64 ((l.getD x1_0.toNat default).addr-s9)]) (hv:=W2)
        ·refine ⟨⟨trivial,?_⟩,?_⟩
         ·refine Q2 Qh (Qy 2 0 3 ((l.getD x1_0.toNat default).core) ((l.getD x1_0.toNat default).pc) ((l.getD x1_0.toNat default).addr) ((l.getD x1_0.toNat default).word) ((l.getD x1_0.toNat default).put) ((l.getD x1_0.toNat default).own)) [8] ?_
          exact tTo (fun x=>St.mk 90 (z14_7 l x1_0 s9) (z14_3 l s9 l9 bu Xe x1_1 x1_0) []) (fun x=>True) () trivial
         ·refine Q2 Qh (Qy 2 0 3 ((l.getD x1_0.toNat default).core) ((l.getD x1_0.toNat default).pc) ((l.getD x1_0.toNat default).addr) ((l.getD x1_0.toNat default).word) ((l.getD x1_0.toNat default).put) ((l.getD x1_0.toNat default).own)) [8] ?_
          exact tTo (fun x=>St.mk 90 (z14_7 l x1_0 s9) (z14_3 l s9 l9 bu Xe x1_1 x1_0) []) (fun x=>True) () trivial
        ·rintro ⟨⟩ _
         exact tTo (fun x=>C50 s9 l9 bu l Xe x1_0 x1_1) (fun x=>True) () trivial [0,1,2,3,4,5,6,7,13] [9,16,22] [(l.getD x1_0.toNat default).kind=(3:Int),(z14_16 s9 l9 l x1_0).kind=(0:Int),thD s9 l9 (l.getD x1_0.toNat default)=(l.getD x1_0.toNat default).addr-s9] W11
       ·refine tz [8,7,6,4,5,12,11,10,0,2] ?_
        refine Qi 2 (fun _:Unit=>St.mk 90 (z14_2 x1_0 l) (z14_3 l s9 l9 bu Xe x1_1 x1_0) []) (fun _=>True) ?_ ?_
        ·refine ⟨⟨trivial,?_⟩,?_⟩
         ·refine Q2 Qh (Qy 0 0 3 ((l.getD x1_0.toNat default).core) ((l.getD x1_0.toNat default).pc) ((l.getD x1_0.toNat default).addr) ((l.getD x1_0.toNat default).word) ((l.getD x1_0.toNat default).put) ((l.getD x1_0.toNat default).own)) [8] ?_
          exact tTo (fun x=>St.mk 90 (z14_2 x1_0 l) (z14_3 l s9 l9 bu Xe x1_1 x1_0) []) (fun x=>True) () trivial
         ·refine Q2 Qh (Qy 0 0 3 ((l.getD x1_0.toNat default).core) ((l.getD x1_0.toNat default).pc) ((l.getD x1_0.toNat default).addr) ((l.getD x1_0.toNat default).word) ((l.getD x1_0.toNat default).put) ((l.getD x1_0.toNat default).own)) [8] ?_
          exact tTo (fun x=>St.mk 90 (z14_2 x1_0 l) (z14_3 l s9 l9 bu Xe x1_1 x1_0) []) (fun x=>True) () trivial
        ·rintro ⟨⟩ _
         exact tTo (fun x=>C50 s9 l9 bu l Xe x1_0 x1_1) (fun x=>True) () trivial [0,1,2,3,4,5,6,7,13] [9,16,22] [(l.getD x1_0.toNat default).kind=(3:Int),(z14_16 s9 l9 l x1_0).kind=(0:Int),thD s9 l9 (l.getD x1_0.toNat default)=(0:Int)] W11
    ·refine tWk (St.mk 90 (z14_9 x1_0 l) [z14_13 l,Reg.ro [C.h 0],z14_14 s9 l9 bu,Reg.dead,Reg.dead,Reg.froz Xe,Reg.ext Xe x1_1 true,z14_5 l x1_0] []) ?_ [] [9] [(4:Int)=(l.getD x1_0.toNat default).kind] W12
     refine tz [4,5,12,11,10,0,2] ?_
     refine Qi 2 (fun _:Unit=>z14_27 x1_0 l s9 l9 bu Xe x1_1) (fun _=>True) ?_ ?_
     ·refine ⟨⟨trivial,?_⟩,?_⟩
      ·refine Q2 Q5 (Qd) [] ?_
       exact tTo (fun x=>z14_27 x1_0 l s9 l9 bu Xe x1_1) (fun x=>True) () trivial (vc:=[(0:Int)≤(4:Int),(4:Int)<(9:Int)]) (hv:=W2)
      ·refine Q2 Q5 (Qd) [] ?_
       exact tTo (fun x=>z14_27 x1_0 l s9 l9 bu Xe x1_1) (fun x=>True) () trivial [0,1,2,3,4,5,6,7,1000008,9,10,11,8] (vc:=[(0:Int)≤(4:Int),(4:Int)<(9:Int)]) (hv:=W2)
     ·rintro ⟨⟩ _
      refine tz [6,4,5,12,11,10,0,2] ?_
      refine Q0 (decide ((l.getD x1_0.toNat default).addr<s9)) (fun h4=>?_) (fun h4=>?_)
      ·refine tz [8,7,6,4,5,12,11,10,0,2] ?_
       refine Qi 2 (fun _:Unit=>z14_38 l x1_0 s9 l9 bu Xe x1_1) (fun _=>True) ?_ ?_
       ·refine ⟨⟨trivial,?_⟩,?_⟩
        ·refine Q2 Yo (Gk 1 4 ((l.getD x1_0.toNat default).core) ((l.getD x1_0.toNat default).pc) ((l.getD x1_0.toNat default).addr) ((l.getD x1_0.toNat default).word) ((l.getD x1_0.toNat default).put) ((l.getD x1_0.toNat default).own)) [] ?_
         exact tTo (fun x=>z14_38 l x1_0 s9 l9 bu Xe x1_1) (fun x=>True) () trivial
        ·refine Q2 Yo (Gk 1 4 ((l.getD x1_0.toNat default).core) ((l.getD x1_0.toNat default).pc) ((l.getD x1_0.toNat default).addr) ((l.getD x1_0.toNat default).word) ((l.getD x1_0.toNat default).put) ((l.getD x1_0.toNat default).own)) [] ?_
         exact tTo (fun x=>z14_38 l x1_0 s9 l9 bu Xe x1_1) (fun x=>True) () trivial
       ·rintro ⟨⟩ _
        exact tTo (fun x=>C50 s9 l9 bu l Xe x1_0 x1_1) (fun x=>True) () trivial [0,1,2,3,4,5,6,7,13] [9,16,22] [(l.getD x1_0.toNat default).kind=(4:Int),(z14_16 s9 l9 l x1_0).kind=swW (1:Int) (l.getD x1_0.toNat default).word (l.getD x1_0.toNat default).put,thD s9 l9 (l.getD x1_0.toNat default)=(l.getD x1_0.toNat default).addr] W11
      ·refine tz [8,7,6,4,5,12,11,10,0,2] ?_
       refine Q0 (decide ((l.getD x1_0.toNat default).addr<s9+l9)) (fun h5=>?_) (fun h5=>?_) (vc:=[Fits IntKind.i64 (s9+l9)]) (hv:=W2)
       ·refine tz [8,7,6,4,5,12,11,10,0,2] ?_
        refine Qi 2 (fun _:Unit=>z14_37 l x1_0 s9 l9 bu Xe x1_1) (fun _=>True) ?_ ?_ (vc:=[Fits IntKind.i64 ((l.getD x1_0.toNat default).addr-s9)]) (hv:=W2)
        ·refine ⟨⟨trivial,?_⟩,?_⟩
         ·refine Q2 Yo (Gk 2 4 ((l.getD x1_0.toNat default).core) ((l.getD x1_0.toNat default).pc) ((l.getD x1_0.toNat default).addr) ((l.getD x1_0.toNat default).word) ((l.getD x1_0.toNat default).put) ((l.getD x1_0.toNat default).own)) [] ?_
          exact tTo (fun x=>z14_37 l x1_0 s9 l9 bu Xe x1_1) (fun x=>True) () trivial
         ·refine Q2 Yo (Gk 2 4 ((l.getD x1_0.toNat default).core) ((l.getD x1_0.toNat default).pc) ((l.getD x1_0.toNat default).addr) ((l.getD x1_0.toNat default).word) ((l.getD x1_0.toNat default).put) ((l.getD x1_0.toNat default).own)) [] ?_
          exact tTo (fun x=>z14_37 l x1_0 s9 l9 bu Xe x1_1) (fun x=>True) () trivial
        ·rintro ⟨⟩ _
         exact tTo (fun x=>C50 s9 l9 bu l Xe x1_0 x1_1) (fun x=>True) () trivial [0,1,2,3,4,5,6,7,13] [9,16,22] [(l.getD x1_0.toNat default).kind=(4:Int),(z14_16 s9 l9 l x1_0).kind=swW (2:Int) (l.getD x1_0.toNat default).word (l.getD x1_0.toNat default).put,thD s9 l9 (l.getD x1_0.toNat default)=(l.getD x1_0.toNat default).addr-s9] W11
       ·refine tz [8,7,6,4,5,12,11,10,0,2] ?_
        refine Qi 2 (fun _:Unit=>z14_39 x1_0 l s9 l9 bu Xe x1_1) (fun _=>True) ?_ ?_
        ·refine ⟨⟨trivial,?_⟩,?_⟩
         ·refine Q2 Yo (Gk 0 4 ((l.getD x1_0.toNat default).core) ((l.getD x1_0.toNat default).pc) ((l.getD x1_0.toNat default).addr) ((l.getD x1_0.toNat default).word) ((l.getD x1_0.toNat default).put) ((l.getD x1_0.toNat default).own)) [] ?_
          exact tTo (fun x=>z14_39 x1_0 l s9 l9 bu Xe x1_1) (fun x=>True) () trivial
         ·refine Q2 Yo (Gk 0 4 ((l.getD x1_0.toNat default).core) ((l.getD x1_0.toNat default).pc) ((l.getD x1_0.toNat default).addr) ((l.getD x1_0.toNat default).word) ((l.getD x1_0.toNat default).put) ((l.getD x1_0.toNat default).own)) [] ?_
          exact tTo (fun x=>z14_39 x1_0 l s9 l9 bu Xe x1_1) (fun x=>True) () trivial
        ·rintro ⟨⟩ _
         exact tTo (fun x=>C50 s9 l9 bu l Xe x1_0 x1_1) (fun x=>True) () trivial [0,1,2,3,4,5,6,7,13] [9,16,22] [(l.getD x1_0.toNat default).kind=(4:Int),(z14_16 s9 l9 l x1_0).kind=swW (0:Int) (l.getD x1_0.toNat default).word (l.getD x1_0.toNat default).put,thD s9 l9 (l.getD x1_0.toNat default)=(0:Int)] W11
    ·refine tWk (St.mk 90 (z14_9 x1_0 l) [z14_13 l,Reg.ro [C.h 0],z14_14 s9 l9 bu,Reg.dead,Reg.dead,Reg.froz Xe,Reg.ext Xe x1_1 true,z14_11 l x1_0] []) ?_ [] [9] [(5:Int)=(l.getD x1_0.toNat default).kind] W12
     refine tz [4,5,12,11,10,0,2] ?_
     refine Qi 2 (fun _:Unit=>z14_52 x1_0 l s9 l9 bu Xe x1_1) (fun _=>True) ?_ ?_
     ·refine ⟨⟨trivial,?_⟩,?_⟩
      ·refine Q2 Q5 (Qd) [] ?_
       exact tTo (fun x=>z14_52 x1_0 l s9 l9 bu Xe x1_1) (fun x=>True) () trivial (vc:=[(0:Int)≤(5:Int),(5:Int)<(9:Int)]) (hv:=W2)
      ·refine Q2 Q5 (Qd) [] ?_
       exact tTo (fun x=>z14_52 x1_0 l s9 l9 bu Xe x1_1) (fun x=>True) () trivial [0,1,2,3,4,5,6,7,9,1000009,10,11,8] (vc:=[(0:Int)≤(5:Int),(5:Int)<(9:Int)]) (hv:=W2)
     ·rintro ⟨⟩ _
      refine tz [6,4,5,12,11,10,0,2] ?_
      refine Qi 2 (fun _:Unit=>z14_33 x1_0 l s9 l9 bu Xe x1_1) (fun _=>True) ?_ ?_
      ·refine ⟨⟨trivial,?_⟩,?_⟩
       ·refine Q2 Qh (Qy 0 0 5 ((l.getD x1_0.toNat default).core) ((l.getD x1_0.toNat default).pc) ((l.getD x1_0.toNat default).addr) ((l.getD x1_0.toNat default).word) ((l.getD x1_0.toNat default).put) ((l.getD x1_0.toNat default).own)) [8] ?_
        exact tTo (fun x=>z14_33 x1_0 l s9 l9 bu Xe x1_1) (fun x=>True) () trivial
       ·refine Q2 Qh (Qy 0 0 5 ((l.getD x1_0.toNat default).core) ((l.getD x1_0.toNat default).pc) ((l.getD x1_0.toNat default).addr) ((l.getD x1_0.toNat default).word) ((l.getD x1_0.toNat default).put) ((l.getD x1_0.toNat default).own)) [8] ?_
        exact tTo (fun x=>z14_33 x1_0 l s9 l9 bu Xe x1_1) (fun x=>True) () trivial
      ·rintro ⟨⟩ _
       exact tTo (fun x=>C50 s9 l9 bu l Xe x1_0 x1_1) (fun x=>True) () trivial [0,1,2,3,4,5,6,7,13] [9,16,22] [(l.getD x1_0.toNat default).kind=(5:Int),(z14_16 s9 l9 l x1_0).kind=(0:Int),thD s9 l9 (l.getD x1_0.toNat default)=(0:Int)] W11
    ·refine tWk (St.mk 90 (z14_9 x1_0 l) [z14_13 l,Reg.ro [C.h 0],z14_14 s9 l9 bu,Reg.dead,Reg.dead,Reg.froz Xe,Reg.ext Xe x1_1 true,z14_12 l x1_0] []) ?_ [] [9] [(6:Int)=(l.getD x1_0.toNat default).kind] W12
     refine tz [4,5,12,11,10,0,2] ?_
     refine Qi 2 (fun _:Unit=>z14_30 x1_0 l s9 l9 bu Xe x1_1) (fun _=>True) ?_ ?_
     ·refine ⟨⟨trivial,?_⟩,?_⟩
      ·refine Q2 Q5 (Qd) [] ?_
       exact tTo (fun x=>z14_30 x1_0 l s9 l9 bu Xe x1_1) (fun x=>True) () trivial (vc:=[(0:Int)≤(6:Int),(6:Int)<(9:Int)]) (hv:=W2)
      ·refine Q2 Q5 (Qd) [] ?_
       exact tTo (fun x=>z14_30 x1_0 l s9 l9 bu Xe x1_1) (fun x=>True) () trivial [0,1,2,3,4,5,6,7,1000008,9,11,1000011,8] (vc:=[(0:Int)≤(6:Int),(6:Int)<(9:Int)]) (hv:=W2)
     ·rintro ⟨⟩ _
      refine tz [6,4,5,12,11,10,0,2] ?_
      refine Qi 2 (fun _:Unit=>z14_46 x1_0 l s9 l9 bu Xe x1_1) (fun _=>True) ?_ ?_
      ·refine ⟨⟨trivial,?_⟩,?_⟩
       ·refine Q2 Qh (Qy 0 6 6 ((l.getD x1_0.toNat default).core) ((l.getD x1_0.toNat default).pc) ((l.getD x1_0.toNat default).addr) ((l.getD x1_0.toNat default).word) ((l.getD x1_0.toNat default).put) ((l.getD x1_0.toNat default).own)) [10] ?_
        exact tTo (fun x=>z14_46 x1_0 l s9 l9 bu Xe x1_1) (fun x=>True) () trivial
       ·refine Q2 Qh (Qy 0 6 6 ((l.getD x1_0.toNat default).core) ((l.getD x1_0.toNat default).pc) ((l.getD x1_0.toNat default).addr) ((l.getD x1_0.toNat default).word) ((l.getD x1_0.toNat default).put) ((l.getD x1_0.toNat default).own)) [10] ?_
        exact tTo (fun x=>z14_46 x1_0 l s9 l9 bu Xe x1_1) (fun x=>True) () trivial
      ·rintro ⟨⟩ _
       exact tTo (fun x=>C50 s9 l9 bu l Xe x1_0 x1_1) (fun x=>True) () trivial [0,1,2,3,4,5,6,7,13] [9,16,22] [(l.getD x1_0.toNat default).kind=(6:Int),(z14_16 s9 l9 l x1_0).kind=(6:Int),thD s9 l9 (l.getD x1_0.toNat default)=(0:Int)] W11
    ·refine tWk (St.mk 90 (z14_9 x1_0 l) [z14_13 l,Reg.ro [C.h 0],z14_14 s9 l9 bu,Reg.dead,Reg.dead,Reg.froz Xe,Reg.ext Xe x1_1 true,z14_15 l x1_0] []) ?_ [] [9] [(7:Int)=(l.getD x1_0.toNat default).kind] W12
     refine tz [4,5,12,11,10,0,2] ?_
     refine Qi 2 (fun _:Unit=>z14_31 x1_0 l s9 l9 bu Xe x1_1) (fun _=>True) ?_ ?_
     ·refine ⟨⟨trivial,?_⟩,?_⟩
      ·refine Q2 Q5 (Qd) [] ?_
       exact tTo (fun x=>z14_31 x1_0 l s9 l9 bu Xe x1_1) (fun x=>True) () trivial (vc:=[(0:Int)≤(7:Int),(7:Int)<(9:Int)]) (hv:=W2)
      ·refine Q2 Q5 (Qd) [] ?_
       exact tTo (fun x=>z14_31 x1_0 l s9 l9 bu Xe x1_1) (fun x=>True) () trivial [0,1,2,3,4,5,6,7,1000008,9,10,12,8] (vc:=[(0:Int)≤(7:Int),(7:Int)<(9:Int)]) (hv:=W2)
     ·rintro ⟨⟩ _
      refine tz [6,4,5,12,11,10,0,2] ?_
      refine Qi 2 (fun _:Unit=>z14_47 x1_0 l s9 l9 bu Xe x1_1) (fun _=>True) ?_ ?_
      ·refine ⟨⟨trivial,?_⟩,?_⟩
       ·refine Q2 Qh (Qy 0 7 7 ((l.getD x1_0.toNat default).core) ((l.getD x1_0.toNat default).pc) ((l.getD x1_0.toNat default).addr) ((l.getD x1_0.toNat default).word) ((l.getD x1_0.toNat default).put) ((l.getD x1_0.toNat default).own)) [11] ?_
        exact tTo (fun x=>z14_47 x1_0 l s9 l9 bu Xe x1_1) (fun x=>True) () trivial
       ·refine Q2 Qh (Qy 0 7 7 ((l.getD x1_0.toNat default).core) ((l.getD x1_0.toNat default).pc) ((l.getD x1_0.toNat default).addr) ((l.getD x1_0.toNat default).word) ((l.getD x1_0.toNat default).put) ((l.getD x1_0.toNat default).own)) [11] ?_
        exact tTo (fun x=>z14_47 x1_0 l s9 l9 bu Xe x1_1) (fun x=>True) () trivial
      ·rintro ⟨⟩ _
       exact tTo (fun x=>C50 s9 l9 bu l Xe x1_0 x1_1) (fun x=>True) () trivial [0,1,2,3,4,5,6,7,13] [9,16,22] [(l.getD x1_0.toNat default).kind=(7:Int),(z14_16 s9 l9 l x1_0).kind=(7:Int),thD s9 l9 (l.getD x1_0.toNat default)=(0:Int)] W11
    ·refine tWk (St.mk 90 (z14_9 x1_0 l) [z14_13 l,Reg.ro [C.h 0],z14_14 s9 l9 bu,Reg.dead,Reg.dead,Reg.froz Xe,Reg.ext Xe x1_1 true,z14_6 l x1_0] []) ?_ [] [9] [(8:Int)=(l.getD x1_0.toNat default).kind] W12
     refine tz [4,5,12,11,10,0,2] ?_
     refine Qi 2 (fun _:Unit=>z14_49 x1_0 l s9 l9 bu Xe x1_1) (fun _=>True) ?_ ?_
     ·refine ⟨⟨trivial,?_⟩,?_⟩
      ·refine Q2 Q5 (Qd) [] ?_
       exact tTo (fun x=>z14_49 x1_0 l s9 l9 bu Xe x1_1) (fun x=>True) () trivial (vc:=[(0:Int)≤(8:Int),(8:Int)<(9:Int)]) (hv:=W2)
      ·refine Q2 Q5 (Qd) [] ?_
       exact tTo (fun x=>z14_49 x1_0 l s9 l9 bu Xe x1_1) (fun x=>True) () trivial [0,1,2,3,4,5,6,7,1000008,9,10,11,8] (vc:=[(0:Int)≤(8:Int),(8:Int)<(9:Int)]) (hv:=W2)
     ·rintro ⟨⟩ _
      refine tz [6,4,5,12,11,10,0,2] ?_
      refine Q0 (decide ((l.getD x1_0.toNat default).addr<s9)) (fun h4=>?_) (fun h4=>?_)
      ·refine tz [8,7,6,4,5,12,11,10,0,2] ?_
       refine Qi 2 (fun _:Unit=>z14_41 l x1_0 s9 l9 bu Xe x1_1) (fun _=>True) ?_ ?_
       ·refine ⟨⟨trivial,?_⟩,?_⟩
        ·refine Q2 Yp (Gl 1 8 ((l.getD x1_0.toNat default).core) ((l.getD x1_0.toNat default).pc) ((l.getD x1_0.toNat default).addr) ((l.getD x1_0.toNat default).word) ((l.getD x1_0.toNat default).put) ((l.getD x1_0.toNat default).own)) [] ?_
         exact tTo (fun x=>z14_41 l x1_0 s9 l9 bu Xe x1_1) (fun x=>True) () trivial
        ·refine Q2 Yp (Gl 1 8 ((l.getD x1_0.toNat default).core) ((l.getD x1_0.toNat default).pc) ((l.getD x1_0.toNat default).addr) ((l.getD x1_0.toNat default).word) ((l.getD x1_0.toNat default).put) ((l.getD x1_0.toNat default).own)) [] ?_
         exact tTo (fun x=>z14_41 l x1_0 s9 l9 bu Xe x1_1) (fun x=>True) () trivial
       ·rintro ⟨⟩ _
        exact tTo (fun x=>C50 s9 l9 bu l Xe x1_0 x1_1) (fun x=>True) () trivial [0,1,2,3,4,5,6,7,13] [9,16,22] [(l.getD x1_0.toNat default).kind=(8:Int),(z14_16 s9 l9 l x1_0).kind=drW (1:Int) (l.getD x1_0.toNat default).word,thD s9 l9 (l.getD x1_0.toNat default)=(l.getD x1_0.toNat default).addr] W11
      ·refine tz [8,7,6,4,5,12,11,10,0,2] ?_
       refine Q0 (decide ((l.getD x1_0.toNat default).addr<s9+l9)) (fun h5=>?_) (fun h5=>?_) (vc:=[Fits IntKind.i64 (s9+l9)]) (hv:=W2)
       ·refine tz [8,7,6,4,5,12,11,10,0,2] ?_
        refine Qi 2 (fun _:Unit=>z14_40 l x1_0 s9 l9 bu Xe x1_1) (fun _=>True) ?_ ?_ (vc:=[Fits IntKind.i64 ((l.getD x1_0.toNat default).addr-s9)]) (hv:=W2)
        ·refine ⟨⟨trivial,?_⟩,?_⟩
         ·refine Q2 Yp (Gl 2 8 ((l.getD x1_0.toNat default).core) ((l.getD x1_0.toNat default).pc) ((l.getD x1_0.toNat default).addr) ((l.getD x1_0.toNat default).word) ((l.getD x1_0.toNat default).put) ((l.getD x1_0.toNat default).own)) [] ?_
          exact tTo (fun x=>z14_40 l x1_0 s9 l9 bu Xe x1_1) (fun x=>True) () trivial
         ·refine Q2 Yp (Gl 2 8 ((l.getD x1_0.toNat default).core) ((l.getD x1_0.toNat default).pc) ((l.getD x1_0.toNat default).addr) ((l.getD x1_0.toNat default).word) ((l.getD x1_0.toNat default).put) ((l.getD x1_0.toNat default).own)) [] ?_
          exact tTo (fun x=>z14_40 l x1_0 s9 l9 bu Xe x1_1) (fun x=>True) () trivial
        ·rintro ⟨⟩ _
         exact tTo (fun x=>C50 s9 l9 bu l Xe x1_0 x1_1) (fun x=>True) () trivial [0,1,2,3,4,5,6,7,13] [9,16,22] [(l.getD x1_0.toNat default).kind=(8:Int),(z14_16 s9 l9 l x1_0).kind=drW (2:Int) (l.getD x1_0.toNat default).word,thD s9 l9 (l.getD x1_0.toNat default)=(l.getD x1_0.toNat default).addr-s9] W11
       ·refine tz [8,7,6,4,5,12,11,10,0,2] ?_
        refine Qi 2 (fun _:Unit=>z14_42 x1_0 l s9 l9 bu Xe x1_1) (fun _=>True) ?_ ?_
        ·refine ⟨⟨trivial,?_⟩,?_⟩
         ·refine Q2 Yp (Gl 0 8 ((l.getD x1_0.toNat default).core) ((l.getD x1_0.toNat default).pc) ((l.getD x1_0.toNat default).addr) ((l.getD x1_0.toNat default).word) ((l.getD x1_0.toNat default).put) ((l.getD x1_0.toNat default).own)) [] ?_
          exact tTo (fun x=>z14_42 x1_0 l s9 l9 bu Xe x1_1) (fun x=>True) () trivial
         ·refine Q2 Yp (Gl 0 8 ((l.getD x1_0.toNat default).core) ((l.getD x1_0.toNat default).pc) ((l.getD x1_0.toNat default).addr) ((l.getD x1_0.toNat default).word) ((l.getD x1_0.toNat default).put) ((l.getD x1_0.toNat default).own)) [] ?_
          exact tTo (fun x=>z14_42 x1_0 l s9 l9 bu Xe x1_1) (fun x=>True) () trivial
        ·rintro ⟨⟩ _
         exact tTo (fun x=>C50 s9 l9 bu l Xe x1_0 x1_1) (fun x=>True) () trivial [0,1,2,3,4,5,6,7,13] [9,16,22] [(l.getD x1_0.toNat default).kind=(8:Int),(z14_16 s9 l9 l x1_0).kind=drW (0:Int) (l.getD x1_0.toNat default).word,thD s9 l9 (l.getD x1_0.toNat default)=(0:Int)] W11
   ·rintro ⟨⟩ hCC50
    refine RunF.cutm 2 (fun _:Unit=>C50y s9 l9 bu l Xe x1_0 x1_1) (fun _=>C50y_J s9 l9 l x1_0) ?_ ?_
    ·refine tz [9,8,5,12,11,10,0,2] ?_
     refine Q0 (decide ((z14_16 s9 l9 l x1_0).kind=(0:Int))) (fun h3=>?_) (fun h3=>?_)
     ·exact Q6 (L88_0 s9 l9 bu l Xe) (x1_0,x1_1) ((x1_0+(1:Int),x1_1)) W158 W113 (vc:=[Fits IntKind.i64 (x1_0+(1:Int))]) (hv:=W2)
     ·refine RunF.cutm 2 (fun _:Unit=>C50b s9 l9 bu l Xe x1_0 x1_1) (fun _=>True) ?_ ?_
      ·refine tz [57,9,8,5,12,11,10,0,2] ?_
       refine Q0 (decide ((z14_16 s9 l9 l x1_0).kind=(1:Int))) (fun h4=>?_) (fun h4=>?_)
       ·exact tTo (fun x=>C50b s9 l9 bu l Xe x1_0 x1_1) (fun x=>True) () trivial [] [22] [(z14_28 s9 l9 l x1_0)=true] W11
       ·refine tz [60,57,9,8,5,12,11,10,0,2] ?_
        refine Q0 (decide ((z14_16 s9 l9 l x1_0).kind=(2:Int))) (fun h5=>?_) (fun h5=>?_)
        ·exact tTo (fun x=>C50b s9 l9 bu l Xe x1_0 x1_1) (fun x=>True) () trivial [] [22] [(z14_28 s9 l9 l x1_0)=true] W11
        ·exact tTo (fun x=>C50b s9 l9 bu l Xe x1_0 x1_1) (fun x=>True) () trivial [] [22] [(z14_28 s9 l9 l x1_0)=decide ((z14_16 s9 l9 l x1_0).kind=(3:Int))] W11
      ·rintro ⟨⟩ hCC50b
       refine tz [60,57,9,8,5,12,11,10,0,2] ?_
       refine Q0 (z14_28 s9 l9 l x1_0) (fun h4=>?_) (fun h4=>?_)
       ·refine tz [9,8,5,12,11,10,0,2] ?_
        refine Ju 4 [[]] [0,0,0,0,0,0,0,0,0,0,0,0,0,0,0,0,0,0,0,0,0,0,0,0,0,0,0,0,0,0,0,0,0,0,0,0,0,0,0,0,0,0,0,0,0,0] ?_
        exact tTo (fun x=>C50y s9 l9 bu l Xe x1_0 x1_1) (fun x=>C50y_J s9 l9 l x1_0) () W140 [] [10,11,12,13,14,15] [(z14_16 s9 l9 l x1_0).core=(l.getD x1_0.toNat default).core,(z14_16 s9 l9 l x1_0).thing=thD s9 l9 (l.getD x1_0.toNat default),(z14_16 s9 l9 l x1_0).word=(l.getD x1_0.toNat default).word,(z14_16 s9 l9 l x1_0).put=(l.getD x1_0.toNat default).put,(z14_16 s9 l9 l x1_0).own=(l.getD x1_0.toNat default).own,(z14_16 s9 l9 l x1_0).pos=x1_0] W11
       ·refine tz [57,9,8,5,12,11,10,0,2] ?_
        refine Q0 (decide ((z14_16 s9 l9 l x1_0).kind=(4:Int))) (fun h5=>?_) (fun h5=>?_)
        ·exact tTo (fun x=>C50y s9 l9 bu l Xe x1_0 x1_1) (fun x=>C50y_J s9 l9 l x1_0) () W140 [] [10,11,12,13,14,15] [(z14_16 s9 l9 l x1_0).core=(l.getD x1_0.toNat default).core,(z14_16 s9 l9 l x1_0).thing=thD s9 l9 (l.getD x1_0.toNat default),(z14_16 s9 l9 l x1_0).word=(0:Int),(z14_16 s9 l9 l x1_0).put=(0:Int),(z14_16 s9 l9 l x1_0).own=false,(z14_16 s9 l9 l x1_0).pos=x1_0] W11
        ·refine tz [75,57,9,8,5,12,11,10,0,2] ?_
         refine Q0 (decide ((z14_16 s9 l9 l x1_0).kind=(5:Int))) (fun h6=>?_) (fun h6=>?_)
         ·exact tTo (fun x=>C50y s9 l9 bu l Xe x1_0 x1_1) (fun x=>C50y_J s9 l9 l x1_0) () W140 [] [10,11,12,13,14,15] [(z14_16 s9 l9 l x1_0).core=(l.getD x1_0.toNat default).core,(z14_16 s9 l9 l x1_0).thing=thD s9 l9 (l.getD x1_0.toNat default),(z14_16 s9 l9 l x1_0).word=(0:Int),(z14_16 s9 l9 l x1_0).put=(0:Int),(z14_16 s9 l9 l x1_0).own=false,(z14_16 s9 l9 l x1_0).pos=x1_0] W11
         ·refine tz [57,9,5,12,11,10,0,2] ?_
          refine Q0 (decide ((z14_16 s9 l9 l x1_0).kind=(6:Int))) (fun h7=>?_) (fun h7=>?_)
          ·exact tTo (fun x=>C50y s9 l9 bu l Xe x1_0 x1_1) (fun x=>C50y_J s9 l9 l x1_0) () W140 [] [10,11,12,13,14,15] [(z14_16 s9 l9 l x1_0).core=(l.getD x1_0.toNat default).core,(z14_16 s9 l9 l x1_0).thing=(0:Int),(z14_16 s9 l9 l x1_0).word=(l.getD x1_0.toNat default).word,(z14_16 s9 l9 l x1_0).put=(0:Int),(z14_16 s9 l9 l x1_0).own=false,(z14_16 s9 l9 l x1_0).pos=x1_0] W11
          ·exact tTo (fun x=>C50y s9 l9 bu l Xe x1_0 x1_1) (fun x=>C50y_J s9 l9 l x1_0) () W140 [] [10,11,12,13,14,15] [(z14_16 s9 l9 l x1_0).core=(l.getD x1_0.toNat default).core,(z14_16 s9 l9 l x1_0).thing=(0:Int),(z14_16 s9 l9 l x1_0).word=(0:Int),(z14_16 s9 l9 l x1_0).put=(0:Int),(z14_16 s9 l9 l x1_0).own=false,(z14_16 s9 l9 l x1_0).pos=x1_0] W11
    ·rintro ⟨⟩ hCC50y
     refine tz [9,12,11,10,0,2] ?_
     refine Q1f hy 6 5 x1_1 (SV.agg (z14_16 s9 l9 l x1_0).cs) (by rw [hn,hJ1.2.2];exact (Qej hJ1.1 (by simpa using h2) hCC50y).1) (by rw [he];dsimp only;rw [hJ1.2.2,(Qej hJ1.1 (by simpa using h2) hCC50y).2]) (fun al3=>?_)
     refine tz [87,12,11,10,0,2] ?_
     refine Q0 (!al3) (fun h4=>?_) (fun h4=>?_)
     ·exact Q1 (res:=(SV.tup [])) (post:=([Reg.dead,Reg.dead,Reg.dead,Reg.dead,Reg.dead,Reg.dead,Reg.ext Xe (x1_1+1) al3])) (hS:=⟨x1_1+1,al3,W72,rfl⟩)
     ·exact Q6 (L88_0 s9 l9 bu l Xe) (x1_0,x1_1) ((x1_0+(1:Int),x1_1+1)) W158 W113 [] [8] [true=al3] W11 (vc:=[Fits IntKind.i64 (x1_0+(1:Int))]) (hv:=W2)
 ·exact Qmm (res:=(SV.tup [])) (post:=([Reg.dead,Reg.dead,Reg.dead,Reg.dead,Reg.dead,Reg.dead,Reg.ext Xe x1_1 true])) (hS:=⟨x1_1,true,W72,rfl⟩)
end Go.Proofs.YtmaodngbpfjnnaaGreat
end
noncomputable section
namespace Go.Proofs.YtmaodngbpfjnnaaGreat
open Go Go.Tx
def R33_I (mem:List Int) (s9 l9 bu:Int) (cs:List Cor) (l:List Did):List Ev→List Reg:=fun x=>[IntRow mem,Cor.rowR cs,Did.rowR l,Reg.box 45 [.h 6],.ro [.h 0,.i .i64 s9,.i .i64 l9,.i .i64 bu,.h 1],.ro [.h 2],Ev.ownR x]
def R33_J (s9 l9:Int) (l:List Did):Nat→List Ev→Prop:=fun k x=>x=(evUp s9 l9 l l.length).take k
def R33_Jx:Code→List Ev→Prop:=fun _ _=>False
def R33_n (s9 l9:Int) (l:List Did):Nat:=(evUp s9 l9 l l.length).length
def R33_enc (s9 l9:Int) (l:List Did):Nat→SV:=fun k=>.agg ((evUp s9 l9 l l.length).getD k default).cs
def R33_P (s9 l9 bu:Int) (l:List Did):List Reg:=[Did.rowR l,.ro [.h 0],.ro [.h 3,.i .i64 s9,.i .i64 l9,.i .i64 bu,.h 4],.dead,.dead]
def R33_Q:List SV:=[.c (.p 1 0),.c (.p 2 0)]
def R33_A (mem:List Int) (s9 l9 bu:Int) (cs:List Cor) (l:List Did):Nat→List Ev→St:=fun k x=>St.mk 32 [se 10 (C.p 7 0),se 9 (C.p 3 0)] [IntRow mem,rowOf 2 (·.tc) cs,rowOf 7 (·.tc) l,Reg.box 45 [C.h 6],Reg.ro [C.h 0,C.i .i64 s9,C.i .i64 l9,C.i .i64 bu,C.h 1],Reg.ro [C.h 2],ownOf 53 7 (·.tc) x,Reg.box 53 [C.i .u8 ((evUp s9 l9 l l.length).getD k default).kind,C.i .i64 ((evUp s9 l9 l l.length).getD k default).core,C.i .i64 ((evUp s9 l9 l l.length).getD k default).thing,C.i .i64 ((evUp s9 l9 l l.length).getD k default).word,C.i .i64 ((evUp s9 l9 l l.length).getD k default).put,C.b ((evUp s9 l9 l l.length).getD k default).own,C.i .i64 ((evUp s9 l9 l l.length).getD k default).pos]] [1000000007]
abbrev z15_2 (s9:Int) (l9:Int) (l:List Did) (k3:Nat):=((evUp s9 l9 l l.length).getD k3 default)
abbrev z15_1 (x3_0:List Ev) (s9:Int) (l9:Int) (l:List Did) (k3:Nat):=(x3_0++[Ev.mk (z15_2 s9 l9 l k3).kind (z15_2 s9 l9 l k3).core (z15_2 s9 l9 l k3).thing (z15_2 s9 l9 l k3).word (z15_2 s9 l9 l k3).put (z15_2 s9 l9 l k3).own (z15_2 s9 l9 l k3).pos])
theorem Qia (mem:List Int) (s9 l9 bu:Int) (cs:List Cor) (l:List Did) (hw:∀ a b:Nat,insK ((cs.getD a default).code.getD b default)) (hl:∀ a:Nat,0≤(l.getD a default).kind∧(l.getD a default).kind≤255) (hn:(l.length:Int) * 56≤140737488355328):Ctr Tryz.prog 11 [IntRow mem,Cor.rowR cs,Did.rowR l] [.agg [.h 0,.i .i64 s9,.i .i64 l9,.i .i64 bu,.h 1],.c (.h 2)]
 (Det (.tup [(false,[.h 3]),(false,[.i .i64 (evE mem s9 l9 bu cs l)])]) [.dead,.dead,.dead,Ev.ownR (evL mem s9 l9 bu cs l)]):=by
 refine Ctr.intro [] Tryz.func11 K K ?_
 refine Q2 Q98 (Qm5 mem s9 l9 bu cs W74) [] ?_
 refine tz [13,5,4,2,1] ?_
 refine Q0 (!decide (chkE mem s9 l9 bu cs=(0:Int))) (fun h1=>?_) (fun h1=>?_)
 ·exact Q1 [0,1,2,1000003] [0,1] [(evL mem s9 l9 bu cs l).length=0,evE mem s9 l9 bu cs l=chkE mem s9 l9 bu cs] W50
 ·refine tz [5,4,2,1] ?_
  refine Q2 Qb5 (Qm6 l W74) [2] ?_
  refine tz [21,5,4,2,1] ?_
  refine Q0 (!rightsB l) (fun h2=>?_) (fun h2=>?_)
  ·exact Q1 [0,1,2,1000003] [0,1] [(evL mem s9 l9 bu cs l).length=0,evE mem s9 l9 bu cs l=(190:Int)] W50
  ·refine tz [5,4,2,1] ?_
   refine Q2 Q99 (Qi9 mem s9 l9 bu cs l) [] ?_
   refine tz [25,9,5,4] ?_
   refine Qgt (I:=R33_I mem s9 l9 bu cs l) (J:=R33_J s9 l9 l) (Jx:=R33_Jx) (n:=R33_n s9 l9 l) (nf:=6) (fi:=44) (enc:=R33_enc s9 l9 l) (stA:=R33_A mem s9 l9 bu cs l) (preI:=R33_P s9 l9 bu l) (argsI:=R33_Q) (caps:=[5,4]) ([]) (St.mk 32 [se 25 (C.fn 44 false [5,4]),se 9 (C.p 3 0),se 5 (C.i .i64 0),se 4 (C.v (Value.slice none 0 0))] [IntRow mem,rowOf 2 (·.tc) cs,rowOf 7 (·.tc) l,Reg.box 45 [C.h 6],Reg.ro [C.h 0,C.i .i64 s9,C.i .i64 l9,C.i .i64 bu,C.h 1],Reg.ro [C.h 2],Reg.own 53 7 0 (fun i=>(([]:List Ev).getD i default).tc) none] []) [0,1,2,4,5,6,1000006] [2,5,4,0,1] rfl Q6u (fun Xe hn he hy=>Qe3 mem s9 l9 bu cs l (shr (mem:=mem) (bu:=bu) (cs:=cs) (by grind)) (by grind) Xe hn he hy) ?_ ?_ ?_ (fun _ _ h=>h.elim)
   ·intro k3 x3 hk3 hJ3
    exact tTo (fun x=>R33_A mem s9 l9 bu cs l k3 x3) (fun x=>True) () trivial
   ·rintro k3 x3_0 hk3 hJ3
    dsimp only [R33_J] at hJ3
    exact Qmn (z15_1 x3_0 s9 l9 l k3) (by dsimp only [R33_J] at *;subst_vars;exact Yv (by assumption)) [0,1,2,3,4,5,9] [9,10,11,12,13,14,15,16,17] [(z15_1 x3_0 s9 l9 l k3).length=x3_0.length+1,∀ (i:Nat),i<(z15_1 x3_0 s9 l9 l k3).length→i≠x3_0.length→((z15_1 x3_0 s9 l9 l k3).getD i default).tc=(x3_0.getD i default).tc,((z15_1 x3_0 s9 l9 l k3).getD x3_0.length default).tc 0=TC.val (Value.int IntKind.u8 (z15_2 s9 l9 l k3).kind),((z15_1 x3_0 s9 l9 l k3).getD x3_0.length default).tc 1=TC.val (Value.int IntKind.i64 (z15_2 s9 l9 l k3).core),((z15_1 x3_0 s9 l9 l k3).getD x3_0.length default).tc 2=TC.val (Value.int IntKind.i64 (z15_2 s9 l9 l k3).thing),((z15_1 x3_0 s9 l9 l k3).getD x3_0.length default).tc 3=TC.val (Value.int IntKind.i64 (z15_2 s9 l9 l k3).word),((z15_1 x3_0 s9 l9 l k3).getD x3_0.length default).tc 4=TC.val (Value.int IntKind.i64 (z15_2 s9 l9 l k3).put),((z15_1 x3_0 s9 l9 l k3).getD x3_0.length default).tc 5=TC.val (Value.bool (z15_2 s9 l9 l k3).own),((z15_1 x3_0 s9 l9 l k3).getD x3_0.length default).tc 6=TC.val (Value.int IntKind.i64 (z15_2 s9 l9 l k3).pos)] W0 (vc:=[x3_0.length+1≤maxLen,(x3_0.length+1) * 56≤140737488355328]) (hv:=(by simp only [Conj,Fits,Q9,Qa,Qf,Qg,News.len,maxLen]<;>(repeat' (first | apply And.intro | intro _))<;>first | grind | (have hl3:=Q3e s9 l9 l l.length;have hl4:x3_0.length+1≤l.length:=(by rw [hJ3,List.length_take];have hk4:k3<(evUp s9 l9 l l.length).length:=hk3;omega);first | grind | omega) | (simp only [BL] at *;omega)))
   ·rintro x3_0 hJ3
    dsimp only [R33_J] at hJ3
    exact Q1 [0,1,2,6] [0,1,2] [(evL mem s9 l9 bu cs l).length=x3_0.length,∀ (i:Nat),i<(evL mem s9 l9 bu cs l).length→((evL mem s9 l9 bu cs l).getD i default).tc=(x3_0.getD i default).tc,evE mem s9 l9 bu cs l=(0:Int)] W50
end Go.Proofs.YtmaodngbpfjnnaaGreat
end
noncomputable section
namespace Go.Proofs.YtmaodngbpfjnnaaGreat
open Go Go.Tx
def R17_I (mem:List Int) (s9 l9 bu:Int) (cs:List Cor) (cl:List Cls) (l:List Did):List Int→List Reg:=fun x=>[IntRow mem,Cor.rowR cs,Cls.rowR cl,Did.rowR l,Ev.rowR (evL mem s9 l9 bu cs l),Reg.box 32 [.h 8],.ro [.h 4],.ro [.h 2],IntOwn x]
def R17_J (mem:List Int) (s9 l9 bu:Int) (cs:List Cor) (cl:List Cls) (l:List Did):Nat→List Int→Prop:=fun k x=>x=(visUp cl (evL mem s9 l9 bu cs l) (evL mem s9 l9 bu cs l).length).take k
def R17_Jx:Code→List Int→Prop:=fun _ _=>False
def R17_n (mem:List Int) (s9 l9 bu:Int) (cs:List Cor) (cl:List Cls) (l:List Did):Nat:=(visUp cl (evL mem s9 l9 bu cs l) (evL mem s9 l9 bu cs l).length).length
def R17_enc (mem:List Int) (s9 l9 bu:Int) (cs:List Cor) (cl:List Cls) (l:List Did):Nat→SV:=fun k=>.c (.i .i64 ((visUp cl (evL mem s9 l9 bu cs l) (evL mem s9 l9 bu cs l).length).getD k 0))
def R17_P (mem:List Int) (s9 l9 bu:Int) (cs:List Cor) (cl:List Cls) (l:List Did):List Reg:=[Ev.rowR (evL mem s9 l9 bu cs l),Cls.rowR cl,.ro [.h 0],.ro [.h 1]]
def R17_Q:List SV:=[.c (.p 2 0),.c (.p 3 0)]
abbrev z58_1 (cl:List Cls) (mem:List Int) (s9:Int) (l9:Int) (bu:Int) (cs:List Cor) (l:List Did):=(visUp cl (evL mem s9 l9 bu cs l) (evL mem s9 l9 bu cs l).length)
def R17_A (mem:List Int) (s9 l9 bu:Int) (cs:List Cor) (cl:List Cls) (l:List Did):Nat→List Int→St:=fun k x=>St.mk 35 [se 11 (C.i .i64 ((z58_1 cl mem s9 l9 bu cs l).getD k 0)),se 10 (C.p 5 0)] [IntRow mem,rowOf 2 (·.tc) cs,rowOf 3 (·.tc) cl,rowOf 7 (·.tc) l,rowOf 7 (·.tc) (evL mem s9 l9 bu cs l),Reg.box 32 [C.h 8],Reg.ro [C.h 4],Reg.ro [C.h 2],IntOwn x] [1000000007]
theorem Qm7 (mem:List Int) (s9 l9 bu:Int) (cs:List Cor) (cl:List Cls) (l:List Did) (hw:∀ a b:Nat,insK ((cs.getD a default).code.getD b default)) (hl:∀ a:Nat,0≤(l.getD a default).kind∧(l.getD a default).kind≤255) (hn:(l.length:Int) * 56≤140737488355328):Ctr Tryz.prog 4 [IntRow mem,Cor.rowR cs,Cls.rowR cl,Did.rowR l] [.agg [.h 0,.i .i64 s9,.i .i64 l9,.i .i64 bu,.h 1],.c (.h 2),.c (.h 3)]
 (Det (.tup [(false,[.h 4]),(false,[.i .i64 (ordE mem s9 l9 bu cs cl l)])]) [.dead,.dead,.dead,.dead,IntOwn (ordL mem s9 l9 bu cs cl l)]):=by
 refine Ctr.intro [] Tryz.func4 K K ?_
 refine Q2 Q97 (Qia mem s9 l9 bu cs l W27 W27 W27) [0,1,3] ?_
 refine tz [15,7,6,3,1] ?_
 refine Q0 (!decide (evE mem s9 l9 bu cs l=(0:Int))) (fun h1=>?_) (fun h1=>?_)
 ·rw [Q7h (cl:=cl) h1]
  rw [Qcy (cl:=cl) h1]
  exact Q1 [0,1,2,3,1000004] [0] [(0:Nat)=0] (by simp only [Conj] at *<;>grind)
 ·refine tz [8,7,6,3,1] ?_
  refine Q0 (!decide ((↑cl.length:Int)=s9)) (fun h2=>?_) (fun h2=>?_)
  ·rw [Q7i h1 h2]
   rw [Qcz h1 h2]
   exact Q1 [0,1,2,3,1000004] [0] [(0:Nat)=0] (by simp only [Conj] at *<;>grind)
  ·refine tz [8,7,6,1] ?_
   refine Q2 Q5u (Qnk (evL mem s9 l9 bu cs l) cl) [5,2] ?_
   refine tz [28,10,7,6] ?_
   refine Qgt (I:=R17_I mem s9 l9 bu cs cl l) (J:=R17_J mem s9 l9 bu cs cl l) (Jx:=R17_Jx) (n:=R17_n mem s9 l9 bu cs cl l) (nf:=8) (fi:=27) (enc:=R17_enc mem s9 l9 bu cs cl l) (stA:=R17_A mem s9 l9 bu cs cl l) (preI:=R17_P mem s9 l9 bu cs cl l) (argsI:=R17_Q) (caps:=[6,7]) ([]) (St.mk 35 [se 28 (C.fn 27 false [6,7]),se 10 (C.p 5 0),se 7 (C.i .i64 0),se 6 (C.v (Value.slice none 0 0))] [IntRow mem,rowOf 2 (·.tc) cs,rowOf 3 (·.tc) cl,rowOf 7 (·.tc) l,rowOf 7 (·.tc) (evL mem s9 l9 bu cs l),Reg.box 32 [C.h 8],Reg.ro [C.h 4],Reg.ro [C.h 2],Reg.own 3 1 0 (fun i=>i64T (([]:List Int).getD i 0)) none] []) [0,1,2,3,5,6,7,8,1000008] [4,2,6,7] rfl Q40 (fun Xe hn he hy=>Qkd (evL mem s9 l9 bu cs l) cl (Qg3 h1 h2).1 Xe hn he hy) ?_ ?_ ?_ (fun _ _ h=>h.elim)
   ·intro k3 x3 hk3 hJ3
    exact tTo (fun x=>R17_A mem s9 l9 bu cs cl l k3 x3) (fun x=>True) () trivial
   ·rintro k3 x3_0 hk3 hJ3
    dsimp only [R17_J] at hJ3
    exact Qmn (x3_0++[(z58_1 cl mem s9 l9 bu cs l).getD k3 0]) (by dsimp only [R17_J] at *;subst_vars;exact Yv (by assumption)) [0,1,2,3,4,5,6,7,10] [10,11,12] [(x3_0++[(z58_1 cl mem s9 l9 bu cs l).getD k3 0]).length=x3_0.length+1,∀ (i:Nat),i<(x3_0++[(z58_1 cl mem s9 l9 bu cs l).getD k3 0]).length→i≠x3_0.length→i64T ((x3_0++[(z58_1 cl mem s9 l9 bu cs l).getD k3 0]).getD i 0)=i64T (x3_0.getD i 0),i64T ((x3_0++[(z58_1 cl mem s9 l9 bu cs l).getD k3 0]).getD x3_0.length 0) 0=TC.val (Value.int IntKind.i64 ((z58_1 cl mem s9 l9 bu cs l).getD k3 0))] W0 (vc:=[x3_0.length+1≤maxLen,(x3_0.length+1) * 8≤140737488355328]) (hv:=(by simp only [Conj,Fits,Q9,Qa,Qf,Qg,News.len,maxLen]<;>(repeat' (first | apply And.intro | intro _))<;>first | grind | (have hl4:=Q5b cl (evL mem s9 l9 bu cs l) (evL mem s9 l9 bu cs l).length;have hl5:=(Qg3 (cl:=cl) h1 h2).2;have hl6:x3_0.length+1≤(visUp cl (evL mem s9 l9 bu cs l) (evL mem s9 l9 bu cs l).length).length:=(by rw [hJ3,List.length_take];have hk4:k3<(visUp cl (evL mem s9 l9 bu cs l) (evL mem s9 l9 bu cs l).length).length:=hk3;omega);first | grind | omega) | (simp only [BL] at *;omega)))
   ·rintro x3_0 hJ3
    dsimp only [R17_J] at hJ3
    rw [Q9j h1 h2]
    rw [Qet h1 h2]
    have hx:x3_0=visUp cl (evL mem s9 l9 bu cs l) (evL mem s9 l9 bu cs l).length:=by rw [hJ3];exact List.take_length
    rw [hx.symm]
    exact Q1 [0,1,2,3,8]
end Go.Proofs.YtmaodngbpfjnnaaGreat
end
namespace Go.Proofs.YtmaodngbpfjnnaaGreat
open Go Go.Tx
section
variable {mem:List Int} {s9 l9 bu:Int} {cs:List Cor} {cl:List Cls} {l:List Did} {n:Nat}
end
end Go.Proofs.YtmaodngbpfjnnaaGreat
noncomputable section
namespace Go.Proofs.YtmaodngbpfjnnaaGreat
open Go Go.Tx
end Go.Proofs.YtmaodngbpfjnnaaGreat
end
noncomputable section
namespace Go.Proofs.YtmaodngbpfjnnaaGreat
open Go Go.Tx
def L18_0 (a:List Int) (b:List Int):Lp (Int×Bool):=⟨fun x=>{ N:=26,fr:=[se 13 (C.i .i64 x.1),se 12 (C.i .i64 (↑a.length:Int)),se 4 (C.b x.2),se 0 (C.h 0),se 1 (C.h 1)],rg:=[IntRow a,IntRow b],wr:=[] },fun x=>0≤x.1∧x.1≤(a.length:Int)∧a.length=b.length∧∀ j:Nat,(j:Int)<x.1→a.getD j default=b.getD j default,fun x=>((a.length:Int)-x.1).toNat⟩
theorem Qib (a b:List Int):Ctr Tryz.prog 9 [IntRow a,IntRow b] [.c (.h 0),.c (.h 1)]
 (Det (.c (.b (decide (a=b)))) [.dead,.dead]):=by
 refine Ctr.intro [] Tryz.func9 K K ?_
 refine RunF.lens 0 (m:=a.length) K (fun hlens_0=>?_)
 refine Q0 (!decide ((↑a.length:Int)=(↑b.length:Int))) (fun h1=>?_) (fun h1=>?_)
 ·exact Q1 [] [0] [decide (a=b)=false] W54
 ·refine tz [4,0,1] ?_
  refine Qb (L18_0 a b) (((0:Int),false)) ⟨by omega,by omega,by simp at h1;omega,fun j hj=>absurd hj W37⟩ ?_
  rintro ⟨x2_0,x2_1⟩ hJ2
  dsimp only [L18_0] at hJ2
  refine tz [13,12,4,0,1] ?_
  refine Q0 (decide (x2_0<(↑a.length:Int))) (fun h3=>?_) (fun h3=>?_)
  ·refine tz [13,12,4,0,1] ?_
   refine Q0 (!decide (a.getD x2_0.toNat 0=b.getD x2_0.toNat 0)) (fun h4=>?_) (fun h4=>?_) (vc:=[(0:Int)≤x2_0,x2_0<(↑a.length:Int),x2_0.toNat<a.length,(0:Int)≤x2_0,x2_0<(↑b.length:Int),x2_0.toNat<b.length]) (hv:=W2)
   ·exact Q1 [] [0] [decide (a=b)=false] W54
   ·exact Q6 (L18_0 a b) (x2_0,x2_1) ((x2_0+(1:Int),x2_1)) (by dsimp only [L18_0];(try simp only [decide_eq_true_eq] at *);omega) ⟨by omega,by have:=of_decide_eq_true h3;omega,hJ2.2.2.1,Q0m hJ2.2.2.2 hJ2.1 (by show a.getD x2_0.toNat 0=b.getD x2_0.toNat 0;simpa using h4)⟩ (vc:=[Fits IntKind.i64 (x2_0+(1:Int))]) (hv:=W2)
  ·exact Q1 [] [0] [decide (a=b)=true] W54
end Go.Proofs.YtmaodngbpfjnnaaGreat
end
noncomputable section
namespace Go.Proofs.YtmaodngbpfjnnaaGreat
open Go Go.Tx
def L11_40 (a:List Int) (b:List Int):Lp (Int×Bool):=⟨fun x=>{ N:=26,fr:=[se 13 (C.i .i64 x.1),se 12 (C.i .i64 (↑a.length:Int)),se 4 (C.b x.2),se 0 (C.h 0),se 1 (C.h 1)],rg:=[IntRow a,IntRow b],wr:=[] },fun x=>0≤x.1∧x.1≤(a.length:Int)∧a.length=b.length∧∀ j:Nat,(j:Int)<x.1→a.getD j default=b.getD j default,fun x=>((a.length:Int)-x.1).toNat⟩
theorem Qm8 (a b:List Int):Ctr Tryz.prog 23 [WordRow a,WordRow b] [.c (.h 0),.c (.h 1)]
 (Det (.c (.b (decide (a=b)))) [.dead,.dead]):=by
 refine Ctr.intro [] Tryz.func23 K K ?_
 refine RunF.lens 0 (m:=a.length) K (fun hlens_0=>?_)
 refine Q0 (!decide ((↑a.length:Int)=(↑b.length:Int))) (fun h1=>?_) (fun h1=>?_)
 ·exact Q1 [] [0] [decide (a=b)=false] W54
 ·refine tz [4,0,1] ?_
  refine Qb (L11_40 a b) (((0:Int),false)) ⟨by omega,by omega,by simp at h1;omega,fun j hj=>absurd hj W37⟩ ?_
  rintro ⟨x2_0,x2_1⟩ hJ2
  dsimp only [L11_40] at hJ2
  refine tz [13,12,4,0,1] ?_
  refine Q0 (decide (x2_0<(↑a.length:Int))) (fun h3=>?_) (fun h3=>?_)
  ·refine tz [13,12,4,0,1] ?_
   refine Q0 (!decide (a.getD x2_0.toNat 0=b.getD x2_0.toNat 0)) (fun h4=>?_) (fun h4=>?_) (vc:=[(0:Int)≤x2_0,x2_0<(↑a.length:Int),x2_0.toNat<a.length,(0:Int)≤x2_0,x2_0<(↑b.length:Int),x2_0.toNat<b.length]) (hv:=W2)
   ·exact Q1 [] [0] [decide (a=b)=false] W54
   ·exact Q6 (L11_40 a b) (x2_0,x2_1) ((x2_0+(1:Int),x2_1)) (by dsimp only [L11_40];(try simp only [decide_eq_true_eq] at *);omega) ⟨by omega,by have:=of_decide_eq_true h3;omega,hJ2.2.2.1,Q0m hJ2.2.2.2 hJ2.1 (by show a.getD x2_0.toNat 0=b.getD x2_0.toNat 0;simpa using h4)⟩ (vc:=[Fits IntKind.i64 (x2_0+(1:Int))]) (hv:=W2)
  ·exact Q1 [] [0] [decide (a=b)=true] W54
def L9_40 (a:List Prt) (b:List Prt):Lp (Int×Bool):=⟨fun x=>{ N:=26,fr:=[se 13 (C.i .i64 x.1),se 12 (C.i .i64 (↑a.length:Int)),se 4 (C.b x.2),se 0 (C.h 0),se 1 (C.h 1)],rg:=[rowOf 2 (·.tc) a,rowOf 2 (·.tc) b],wr:=[] },fun x=>0≤x.1∧x.1≤(a.length:Int)∧a.length=b.length∧∀ j:Nat,(j:Int)<x.1→a.getD j default=b.getD j default,fun x=>((a.length:Int)-x.1).toNat⟩
theorem Qic (a b:List Prt):Ctr Tryz.prog 22 [Prt.rowR a,Prt.rowR b] [.c (.h 0),.c (.h 1)]
 (Det (.c (.b (decide (a=b)))) [.dead,.dead]):=by
 refine Ctr.intro [] Tryz.func22 K K ?_
 refine RunF.lens 0 (m:=a.length) K (fun hlens_0=>?_)
 refine Q0 (!decide ((↑a.length:Int)=(↑b.length:Int))) (fun h1=>?_) (fun h1=>?_)
 ·exact Q1 [] [0] [decide (a=b)=false] W118
 ·refine tz [4,0,1] ?_
  refine Qb (L9_40 a b) (((0:Int),false)) ⟨by omega,by omega,by simp at h1;omega,fun j hj=>absurd hj W37⟩ ?_
  rintro ⟨x2_0,x2_1⟩ hJ2
  dsimp only [L9_40] at hJ2
  refine tz [13,12,4,0,1] ?_
  refine Q0 (decide (x2_0<(↑a.length:Int))) (fun h3=>?_) (fun h3=>?_)
  ·refine tz [13,12,4,0,1] ?_
   refine Q0 (!(decide ((a.getD x2_0.toNat default).thread=(b.getD x2_0.toNat default).thread)&&(decide ((a.getD x2_0.toNat default).word=(b.getD x2_0.toNat default).word)&&true))) (fun h4=>?_) (fun h4=>?_) (vc:=[(0:Int)≤x2_0,x2_0<(↑a.length:Int),x2_0.toNat<a.length,(0:Int)≤x2_0,x2_0<(↑b.length:Int),x2_0.toNat<b.length]) (hv:=W2)
   ·exact Q1 [] [0] [decide (a=b)=false] W118
   ·exact Q6 (L9_40 a b) (x2_0,x2_1) ((x2_0+(1:Int),x2_1)) (by dsimp only [L9_40];(try simp only [decide_eq_true_eq] at *);omega) ⟨by omega,by have:=of_decide_eq_true h3;omega,hJ2.2.2.1,Q0m hJ2.2.2.2 hJ2.1 (by simpa [Prt.eq_iff] using h4)⟩ (vc:=[Fits IntKind.i64 (x2_0+(1:Int))]) (hv:=W2)
  ·exact Q1 [] [0] [decide (a=b)=true] W118
end Go.Proofs.YtmaodngbpfjnnaaGreat
end
noncomputable section
namespace Go.Proofs.YtmaodngbpfjnnaaGreat
open Go Go.Tx
abbrev z90_2 (sh:List Dcl) (lk:List Dcl) (gs:List Grf):=(Mch.mk (newM sh lk gs).pos (newM sh lk gs).sl (newM sh lk gs).mem (newM sh lk gs).ho [])
abbrev z90_1 (sh:List Dcl) (gs:List Grf) (cl:List Cls) (most:Int) (l:List Int) (lk:List Dcl):=(telGo sh.length gs cl most l (Tel.mk (0:Int) (z90_2 sh lk gs) []))
theorem Qd5 (sh lk:List Dcl) (gs:List Grf) (hs:∀ j:Nat,(sh.getD j default).name.size≤maxLen) (hl:∀ j:Nat,(lk.getD j default).name.size≤maxLen) (hg:∀ j:Nat,(gs.getD j default).name.size≤maxLen) (hw:UnitW gs) (cl:List Cls) (l:List Int) (most:Int) (hsel:¬ (flwE sh lk gs cl l most)=0):Ctr Tryz.prog 6 [Dcl.rowR sh,Dcl.rowR lk,Grf.rowR gs,Cls.rowR cl,IntRow l] [.agg [.h 0,.h 1,.h 2],.c (.h 3),.c (.h 4),.c (.i .i64 most)]
 (Det (.tup [(true,[.v (.slice none 0 0),.v (.slice none 0 0),.v (.slice none 0 0),.t false]),(false,[.i .i64 (flwE sh lk gs cl l most)])]) [.dead,.dead,.dead,.dead,.dead]):=by
 refine Ctr.intro [] Tryz.func6 K K ?_
 by_cases hB:begT sh lk gs cl most=0
 ·have hF:¬ (telGo sh.length gs cl most l (Tel.mk 0 (z90_2 sh lk gs) [])).err=0:=fun h=>hsel ((Q8o hB).trans h)
  refine Q2 Yq (Q21 sh lk gs W3 W3 W3 W3 cl most W3) [] ?_
  refine tz [17,9,8,2] ?_
  refine Q0 (!decide ((0:Int)=(0:Int))) (fun h1=>?_) (fun h1=>?_)
  ·exact absurd h1 W99
  ·refine tz [10,9,8,2] ?_
   refine Q2 Yg (Qad sh lk gs ((newM sh lk gs).pos) ((newM sh lk gs).sl) ((newM sh lk gs).mem) ((newM sh lk gs).ho) [] cl most [] l W3 W3 W3 W3 W3 W3 W3) [7,8,9,10,11,12,13,14,15,16,3,17,4] ?_ [15,19] [(0:Nat)=0,(0:Nat)=0] W0
   refine tz [26,10,9,8] ?_
   refine Q0 (!decide ((z90_1 sh gs cl most l lk).err=(0:Int))) (fun h2=>?_) (fun h2=>?_)
   ·exact Q1 [] [3] [flwE sh lk gs cl l most=(z90_1 sh gs cl most l lk).err] W73
   ·exact (show False from by exact hF W128).elim
 ·refine Q2 Yq (Qaa sh lk gs W3 W3 W3 W3 cl most W3) [] ?_
  refine tz [17,9,8,2] ?_
  refine Q0 (!decide (begT sh lk gs cl most=(0:Int))) (fun h1=>?_) (fun h1=>?_)
  ·exact Q1 [] [3] [flwE sh lk gs cl l most=begT sh lk gs cl most] W73
  ·exact (show False from by exact hB W133).elim
theorem Qkf (sh lk:List Dcl) (gs:List Grf) (hs:∀ j:Nat,(sh.getD j default).name.size≤maxLen) (hl:∀ j:Nat,(lk.getD j default).name.size≤maxLen) (hg:∀ j:Nat,(gs.getD j default).name.size≤maxLen) (hw:UnitW gs) (cl:List Cls) (l:List Int) (most:Int) (hsel:(flwE sh lk gs cl l most)=0):Ctr Tryz.prog 6 [Dcl.rowR sh,Dcl.rowR lk,Grf.rowR gs,Cls.rowR cl,IntRow l] [.agg [.h 0,.h 1,.h 2],.c (.h 3),.c (.h 4),.c (.i .i64 most)]
 (Det (.tup [(true,[.h 5,.h 6,.h 7,.b (endM gs (telGo sh.length gs cl most l (Tel.mk 0 (Mch.mk (newM sh lk gs).pos (newM sh lk gs).sl (newM sh lk gs).mem (newM sh lk gs).ho []) [])).m.pos (telGo sh.length gs cl most l (Tel.mk 0 (Mch.mk (newM sh lk gs).pos (newM sh lk gs).sl (newM sh lk gs).mem (newM sh lk gs).ho []) [])).m.ho)]),(false,[.i .i64 0])]) [.dead,.dead,.dead,.dead,.dead,IntOwn (telGo sh.length gs cl most l (Tel.mk 0 (Mch.mk (newM sh lk gs).pos (newM sh lk gs).sl (newM sh lk gs).mem (newM sh lk gs).ho []) [])).st,Prt.ownR (telGo sh.length gs cl most l (Tel.mk 0 (Mch.mk (newM sh lk gs).pos (newM sh lk gs).sl (newM sh lk gs).mem (newM sh lk gs).ho []) [])).m.pr,WordOwn (telGo sh.length gs cl most l (Tel.mk 0 (Mch.mk (newM sh lk gs).pos (newM sh lk gs).sl (newM sh lk gs).mem (newM sh lk gs).ho []) [])).m.mem]):=by
 refine Ctr.intro [] Tryz.func6 K K ?_
 have hB:begT sh lk gs cl most=0:=(Q0l hsel).1
 have hF:(telGo sh.length gs cl most l (Tel.mk 0 (z90_2 sh lk gs) [])).err=0:=(Q0l hsel).2
 refine Q2 Yq (Q21 sh lk gs W3 W3 W3 W3 cl most W3) [] ?_
 refine tz [17,9,8,2] ?_
 refine Q0 (!decide ((0:Int)=(0:Int))) (fun h1=>?_) (fun h1=>?_)
 ·exact absurd h1 W99
 ·refine tz [10,9,8,2] ?_
  refine Q2 Yg (Qae sh lk gs ((newM sh lk gs).pos) ((newM sh lk gs).sl) ((newM sh lk gs).mem) ((newM sh lk gs).ho) [] cl most [] l W3 W3 W3 W3 W3 W3 W3) [7,8,9,10,11,12,13,14,15,16,3,17,4] ?_ [15,19] [(0:Nat)=0,(0:Nat)=0] W0
  refine tz [26,10,9,8] ?_
  refine Q0 (!decide ((0:Int)=(0:Int))) (fun h2=>?_) (fun h2=>?_)
  ·exact absurd h2 W99
  ·refine tz [10,9,8] ?_
   refine Q2 Gm (Qco sh lk gs ((z90_1 sh gs cl most l lk).m.pos) ((z90_1 sh gs cl most l lk).m.sl) ((z90_1 sh gs cl most l lk).m.mem) ((z90_1 sh gs cl most l lk).m.ho) ((z90_1 sh gs cl most l lk).m.pr) cl most ((z90_1 sh gs cl most l lk).st) W3 W3 W3 W3 W3) [7,8,9,10,11,18,19,20,21,22,3,23] ?_
   exact Q1 [0,1,2,3,4,23,24,25]
end Go.Proofs.YtmaodngbpfjnnaaGreat
end
noncomputable section
namespace Go.Proofs.YtmaodngbpfjnnaaGreat
open Go Go.Tx
theorem Qnl (sh lk:List Dcl) (gs:List Grf) (hs:∀ j:Nat,(sh.getD j default).name.size≤maxLen) (hl:∀ j:Nat,(lk.getD j default).name.size≤maxLen) (hg:∀ j:Nat,(gs.getD j default).name.size≤maxLen) (hw:UnitW gs) (cl:List Cls) (l:List Int) (most:Int) (hsel:(flwE sh lk gs cl l most)=0):Ctr Tryz.prog 6 [Dcl.rowR sh,Dcl.rowR lk,Grf.rowR gs,Cls.rowR cl,IntRow l] [.agg [.h 0,.h 1,.h 2],.c (.h 3),.c (.h 4),.c (.i .i64 most)]
 (Det (.tup [(true,[.h 5,.h 6,.h 7,.b (endM gs (finT sh lk gs cl l most).m.pos (finT sh lk gs cl l most).m.ho)]),(false,[.i .i64 0])]) [.dead,.dead,.dead,.dead,.dead,IntOwn (finT sh lk gs cl l most).st,Prt.ownR (finT sh lk gs cl l most).m.pr,WordOwn (finT sh lk gs cl l most).m.mem]):=Qkf sh lk gs hs hl hg hw cl l most hsel
end Go.Proofs.YtmaodngbpfjnnaaGreat
end
noncomputable section
namespace Go.Proofs.YtmaodngbpfjnnaaGreat
open Go Go.Tx
def kNods (own:Int):List Nod:=[⟨3,0,0,own,⟨false,0,1⟩,⟨false,0,0⟩,1,0,0⟩,⟨2,0,0,1-own,⟨false,0,0⟩,⟨false,0,0⟩,2,0,1⟩,⟨7,0,0,0,⟨true,0,0⟩,⟨false,0,0⟩,3,0,2⟩,⟨9,0,0,0,⟨false,0,0⟩,⟨false,0,0⟩,0,0,3⟩]
def kSh:List Dcl:=[⟨⟨#[120]⟩,0,0⟩,⟨⟨#[121]⟩,0,0⟩]
def kGs:List Grf:=[⟨⟨#[97]⟩,0,1,kNods 0⟩,⟨⟨#[98]⟩,0,1,kNods 1⟩]
theorem Qeu (nm:ByteArray) (own:Int) (ho:0≤own∧own≤1):Ctr Tryz.prog 40 [] [.c (.v (.string nm)),.c (.i .i64 own)]
 (Det (.agg [.v (.string nm),.i .i64 0,.i .i64 1,.h 0]) [Nod.ownR (kNods own)]):=by
 refine Ctr.intro [] Tryz.func40 K K ?_
 exact Q1 [1] [0,1] [(kNods own).length=4,∀ (i:Nat),i<(kNods own).length→((kNods own).getD i default).tc=rowT 13 [Value.int IntKind.u8 (3:Int),Value.int IntKind.u8 (0:Int),Value.int IntKind.i64 (0:Int),Value.int IntKind.i64 own,Value.bool false,Value.int IntKind.i64 (0:Int),Value.int IntKind.i64 (1:Int),Value.bool false,Value.int IntKind.i64 (0:Int),Value.int IntKind.i64 (0:Int),Value.int IntKind.i64 (1:Int),Value.int IntKind.i64 (0:Int),Value.int IntKind.i64 (0:Int),Value.int IntKind.u8 (2:Int),Value.int IntKind.u8 (0:Int),Value.int IntKind.i64 (0:Int),Value.int IntKind.i64 ((1:Int)-own),Value.bool false,Value.int IntKind.i64 (0:Int),Value.int IntKind.i64 (0:Int),Value.bool false,Value.int IntKind.i64 (0:Int),Value.int IntKind.i64 (0:Int),Value.int IntKind.i64 (2:Int),Value.int IntKind.i64 (0:Int),Value.int IntKind.i64 (1:Int),Value.int IntKind.u8 (7:Int),Value.int IntKind.u8 (0:Int),Value.int IntKind.i64 (0:Int),Value.int IntKind.i64 (0:Int),Value.bool true,Value.int IntKind.i64 (0:Int),Value.int IntKind.i64 (0:Int),Value.bool false,Value.int IntKind.i64 (0:Int),Value.int IntKind.i64 (0:Int),Value.int IntKind.i64 (3:Int),Value.int IntKind.i64 (0:Int),Value.int IntKind.i64 (2:Int),Value.int IntKind.u8 (9:Int),Value.int IntKind.u8 (0:Int),Value.int IntKind.i64 (0:Int),Value.int IntKind.i64 (0:Int),Value.bool false,Value.int IntKind.i64 (0:Int),Value.int IntKind.i64 (0:Int),Value.bool false,Value.int IntKind.i64 (0:Int),Value.int IntKind.i64 (0:Int),Value.int IntKind.i64 (0:Int),Value.int IntKind.i64 (0:Int),Value.int IntKind.i64 (3:Int)] i] W106 (vc:=[Fits IntKind.i64 ((1:Int)-own)]) (hv:=W2)
theorem Q5c :Ctr Tryz.prog 21 [] []
 (Det (.agg [.h 0,.v (.slice none 0 0),.h 1]) [Dcl.ownR kSh,Grf.ownR kGs]):=by
 refine Ctr.intro [] Tryz.func21 K K ?_
 refine Q2 Q0e (Qeu (ByteArray.mk #[(97:UInt8)]) 0 W27) [] ?_
 refine tz [4,3,0] ?_
 refine Q2 Q0e (Qeu (ByteArray.mk #[(98:UInt8)]) 1 W27) [] ?_
 exact Q1 [1,4] [0,1,2,3] [kSh.length=2,∀ (i:Nat),i<kSh.length→(kSh.getD i default).tc=rowT 3 [Value.string (ByteArray.mk #[(120:UInt8)]),Value.int IntKind.i64 (0:Int),Value.int IntKind.i64 (0:Int),Value.string (ByteArray.mk #[(121:UInt8)]),Value.int IntKind.i64 (0:Int),Value.int IntKind.i64 (0:Int)] i,kGs.length=2,∀ (i:Nat),i<kGs.length→(kGs.getD i default).tc=rowTC 4 [TC.val (Value.string (ByteArray.mk #[(97:UInt8)])),TC.val (Value.int IntKind.i64 (0:Int)),TC.val (Value.int IntKind.i64 (1:Int)),TC.sub 137 13 4 fun i=>((kNods (0:Int)).getD i default).tc,TC.val (Value.string (ByteArray.mk #[(98:UInt8)])),TC.val (Value.int IntKind.i64 (0:Int)),TC.val (Value.int IntKind.i64 (1:Int)),TC.sub 137 13 (kNods (1:Int)).length fun i=>((kNods (1:Int)).getD i default).tc] i] W106
end Go.Proofs.YtmaodngbpfjnnaaGreat
end
noncomputable section
namespace Go.Proofs.YtmaodngbpfjnnaaGreat
open Go Go.Tx
abbrev kCl:List Cls:=[⟨3,0,0⟩,⟨3,0,0⟩]
theorem Q14 {α:Type} (P:α→Prop) (l:List α) (d:α) (h:∀ x∈l,P x) (hd:P d) (a:Nat):P (l.getD a d):=by
 rw [List.getD_eq_getElem?_getD]
 cases e:l[a]? with
 | none=>exact hd
 | some x=>exact h x (List.mem_of_getElem? e)
theorem kUw:UnitW kGs:=fun a b=>by
 refine Q14 (fun g:Grf=>0≤(g.nodes.getD b default).kind∧0≤(g.nodes.getD b default).op∧(g.nodes.getD b default).op≤255) kGs default (fun x hx=>?_) ?_ a
 ·refine Q14 (fun n:Nod=>0≤n.kind∧0≤n.op∧n.op≤255) x.nodes default (fun n hn=>?_) W131 b
  simp only [kGs,List.mem_cons,List.not_mem_nil,or_false] at hx
  rcases hx with rfl | rfl<;>(simp only [kNods,List.mem_cons,List.not_mem_nil,or_false] at hn;rcases hn with rfl | rfl | rfl | rfl<;>decide)
 ·exact Q14 (fun n:Nod=>0≤n.kind∧0≤n.op∧n.op≤255) [] default (fun n hn=>by cases hn) W131 b
theorem kSn:∀ j:Nat,(kSh.getD j default).name.size≤maxLen:=fun j=>Q14 (fun d:Dcl=>d.name.size≤maxLen) kSh default (fun x hx=>by
 simp only [kSh,List.mem_cons,List.not_mem_nil,or_false] at hx
 rcases hx with rfl | rfl<;>decide) W131 j
theorem kLn:∀ j:Nat,(([]:List Dcl).getD j default).name.size≤maxLen:=fun j=>Q14 (fun d:Dcl=>d.name.size≤maxLen) [] default (fun x hx=>by cases hx) W131 j
theorem kGn:∀ j:Nat,(kGs.getD j default).name.size≤maxLen:=fun j=>Q14 (fun d:Grf=>d.name.size≤maxLen) kGs default (fun x hx=>by
 simp only [kGs,List.mem_cons,List.not_mem_nil,or_false] at hx
 rcases hx with rfl | rfl<;>decide) W131 j
theorem kF0:flwE kSh [] kGs kCl [0,1,0,1,0,1] 9=0:=by kernel_rfl
theorem kF1:flwE kSh [] kGs kCl [0,0,0,0] 9=211:=by kernel_rfl
theorem kF2:flwE kSh [] kGs kCl [2] 9=211:=by kernel_rfl
theorem Qnm:¬ flwE kSh [] kGs kCl [0,0,0,0] 9=0:=by rw [kF1];decide
theorem Qnn:¬ flwE kSh [] kGs kCl [2] 9=0:=by rw [kF2];decide
abbrev z93_1:=[Cls.mk (3:Int) (0:Int) (0:Int),Cls.mk (3:Int) (0:Int) (0:Int)]
abbrev z93_2:=[Value.int IntKind.u8 (3:Int),Value.int IntKind.i64 (0:Int),Value.int IntKind.i64 (0:Int),Value.int IntKind.u8 (3:Int),Value.int IntKind.i64 (0:Int),Value.int IntKind.i64 (0:Int)]
abbrev z93_4:=(finT kSh [] kGs z93_1 [(0:Int),(1:Int),(0:Int),(1:Int),(0:Int),(1:Int)] (9:Int))
theorem Qid :Ctr Tryz.prog 8 [] []
 (Det (.c (.b true)) []):=by
 have hk0:=kF0
 have hk1:=Qnm
 have hk2:=Qnn
 refine Ctr.intro [] Tryz.func8 K K ?_
 refine Q2 G3 (Q5c) [] ?_
 refine tz [12,1,0] ?_
 refine Q2 Zo (Qnl kSh [] kGs W51 W51 W51 W51 z93_1 [(0:Int),(1:Int),(0:Int),(1:Int),(0:Int),(1:Int)] 9 W51) [1,1000001,2,0,3] ?_ [0,2,3,5,6,7,8] [kSh.length=2,(0:Nat)=0,kGs.length=2,z93_1.length=2,∀ (i:Nat),i<z93_1.length→(z93_1.getD i default).tc=rowT 3 z93_2 i,[(0:Int),(1:Int),(0:Int),(1:Int),(0:Int),(1:Int)].length=6,∀ (i:Nat),i < [(0:Int),(1:Int),(0:Int),(1:Int),(0:Int),(1:Int)].length→i64T ([(0:Int),(1:Int),(0:Int),(1:Int),(0:Int),(1:Int)].getD i 0)=rowT 1 [Value.int IntKind.i64 (0:Int),Value.int IntKind.i64 (1:Int),Value.int IntKind.i64 (0:Int),Value.int IntKind.i64 (1:Int),Value.int IntKind.i64 (0:Int),Value.int IntKind.i64 (1:Int)] i] W85
 refine tz [15,1,0] ?_
 refine Q2 G3 (Q5c) [] ?_
 refine tz [19,3,2,1,0] ?_
 refine Q2 Zo (Qd5 kSh [] kGs W51 W51 W51 W51 z93_1 [(0:Int),(0:Int),(0:Int),(0:Int)] 9 W51) [8,1000001,9,0,10] ?_ [0,2,3,5,6,7,8] [kSh.length=2,(0:Nat)=0,kGs.length=2,z93_1.length=2,∀ (i:Nat),i<z93_1.length→(z93_1.getD i default).tc=rowT 3 z93_2 i,[(0:Int),(0:Int),(0:Int),(0:Int)].length=4,∀ (i:Nat),i < [(0:Int),(0:Int),(0:Int),(0:Int)].length→i64T ([(0:Int),(0:Int),(0:Int),(0:Int)].getD i 0)=rowT 1 [Value.int IntKind.i64 (0:Int),Value.int IntKind.i64 (0:Int),Value.int IntKind.i64 (0:Int),Value.int IntKind.i64 (0:Int)] i] W85
 refine tz [22,3,2,1,0] ?_
 refine Q0 (!decide ((0:Int)=(0:Int))||!decide (flwE kSh [] kGs z93_1 [(0:Int),(0:Int),(0:Int),(0:Int)] (9:Int)=(211:Int))||!decide ((2:Int)=(2:Int))||!(decide ((z93_4.m.pr.getD 0 default).thread=(0:Int))&&(decide ((z93_4.m.pr.getD 0 default).word=(1:Int))&&true))||!decide ((6:Int)=(6:Int))||!decide ((2:Int)=(2:Int))||!decide (z93_4.m.mem.getD 1 0=(1:Int))||!endM kGs z93_4.m.pos z93_4.m.ho) (fun h1=>?_) (fun h1=>?_) (vc:=[(!decide ((0:Int)=(0:Int))||!decide (flwE kSh [] kGs [Cls.mk (3:Int) (0:Int) (0:Int),Cls.mk (3:Int) (0:Int) (0:Int)] [(0:Int),(0:Int),(0:Int),(0:Int)] (9:Int)=(211:Int))||!decide ((2:Int)=(2:Int)))=false→(0:Int)≤(0:Int),(!decide ((0:Int)=(0:Int))||!decide (flwE kSh [] kGs [Cls.mk (3:Int) (0:Int) (0:Int),Cls.mk (3:Int) (0:Int) (0:Int)] [(0:Int),(0:Int),(0:Int),(0:Int)] (9:Int)=(211:Int))||!decide ((2:Int)=(2:Int)))=false→(0:Int)<(2:Int),(!decide ((0:Int)=(0:Int))||!decide (flwE kSh [] kGs [Cls.mk (3:Int) (0:Int) (0:Int),Cls.mk (3:Int) (0:Int) (0:Int)] [(0:Int),(0:Int),(0:Int),(0:Int)] (9:Int)=(211:Int))||!decide ((2:Int)=(2:Int)))=false→0<2,(!decide ((0:Int)=(0:Int))||!decide (flwE kSh [] kGs [Cls.mk (3:Int) (0:Int) (0:Int),Cls.mk (3:Int) (0:Int) (0:Int)] [(0:Int),(0:Int),(0:Int),(0:Int)] (9:Int)=(211:Int))||!decide ((2:Int)=(2:Int))||!(decide (((finT kSh [] kGs [Cls.mk (3:Int) (0:Int) (0:Int),Cls.mk (3:Int) (0:Int) (0:Int)] [(0:Int),(1:Int),(0:Int),(1:Int),(0:Int),(1:Int)] (9:Int)).m.pr.getD 0 default).thread=(0:Int))&&(decide (((finT kSh [] kGs [Cls.mk (3:Int) (0:Int) (0:Int),Cls.mk (3:Int) (0:Int) (0:Int)] [(0:Int),(1:Int),(0:Int),(1:Int),(0:Int),(1:Int)] (9:Int)).m.pr.getD 0 default).word=(1:Int))&&true))||!decide ((6:Int)=(6:Int))||!decide ((2:Int)=(2:Int)))=false→(0:Int)≤(1:Int),(!decide ((0:Int)=(0:Int))||!decide (flwE kSh [] kGs [Cls.mk (3:Int) (0:Int) (0:Int),Cls.mk (3:Int) (0:Int) (0:Int)] [(0:Int),(0:Int),(0:Int),(0:Int)] (9:Int)=(211:Int))||!decide ((2:Int)=(2:Int))||!(decide (((finT kSh [] kGs [Cls.mk (3:Int) (0:Int) (0:Int),Cls.mk (3:Int) (0:Int) (0:Int)] [(0:Int),(1:Int),(0:Int),(1:Int),(0:Int),(1:Int)] (9:Int)).m.pr.getD 0 default).thread=(0:Int))&&(decide (((finT kSh [] kGs [Cls.mk (3:Int) (0:Int) (0:Int),Cls.mk (3:Int) (0:Int) (0:Int)] [(0:Int),(1:Int),(0:Int),(1:Int),(0:Int),(1:Int)] (9:Int)).m.pr.getD 0 default).word=(1:Int))&&true))||!decide ((6:Int)=(6:Int))||!decide ((2:Int)=(2:Int)))=false→(1:Int)<(2:Int),(!decide ((0:Int)=(0:Int))||!decide (flwE kSh [] kGs [Cls.mk (3:Int) (0:Int) (0:Int),Cls.mk (3:Int) (0:Int) (0:Int)] [(0:Int),(0:Int),(0:Int),(0:Int)] (9:Int)=(211:Int))||!decide ((2:Int)=(2:Int))||!(decide (((finT kSh [] kGs [Cls.mk (3:Int) (0:Int) (0:Int),Cls.mk (3:Int) (0:Int) (0:Int)] [(0:Int),(1:Int),(0:Int),(1:Int),(0:Int),(1:Int)] (9:Int)).m.pr.getD 0 default).thread=(0:Int))&&(decide (((finT kSh [] kGs [Cls.mk (3:Int) (0:Int) (0:Int),Cls.mk (3:Int) (0:Int) (0:Int)] [(0:Int),(1:Int),(0:Int),(1:Int),(0:Int),(1:Int)] (9:Int)).m.pr.getD 0 default).word=(1:Int))&&true))||!decide ((6:Int)=(6:Int))||!decide ((2:Int)=(2:Int)))=false→1<2]) (hv:=W2)
 ·exact Bool.noConfusion (show true=false from h1.symm.trans (show _=false from by kernel_rfl))
 ·refine tz [1,0] ?_
  refine Q2 G3 (Q5c) [] ?_
  refine tz [70,1,0] ?_
  refine Q2 Zo (Qd5 kSh [] kGs W51 W51 W51 W51 z93_1 [(2:Int)] 9 W51) [12,1000001,13,0,14] ?_ [0,2,3,5,6,7,8,9] [kSh.length=2,(0:Nat)=0,kGs.length=2,z93_1.length=2,∀ (i:Nat),i<z93_1.length→(z93_1.getD i default).tc=rowT 3 z93_2 i,[(2:Int)].length=1,∀ (i:Nat),i < [(2:Int)].length→i≠0→i64T ([(2:Int)].getD i 0)=fun x=>TC.any,i64T (2:Int) 0=TC.val (Value.int IntKind.i64 (2:Int))] W85
  exact Q1
end Go.Proofs.YtmaodngbpfjnnaaGreat
end
noncomputable section
namespace Go.Proofs.YtmaodngbpfjnnaaGreat
open Go Go.Tx
theorem Qie (a:List Int) (p:List Prt) (m:List Int) (e:Bool):Ctr Tryz.prog 10 [IntRow a,Prt.rowR p,WordRow m,IntRow a,Prt.rowR p,WordRow m] [.agg [.h 0,.h 1,.h 2,.b e],.agg [.h 3,.h 4,.h 5,.b e]]
 (Det (.c (.b true)) [.dead,.dead,.dead,.dead,.dead,.dead]):=by
 refine Ctr.intro [] Tryz.func10 K K ?_
 refine Q2 Q0t (Qib a a) [0,3] ?_
 refine tz [9,4,3,2] ?_
 refine tG Q36 (Qic p p) [1,4] ?_
 refine tz [15,10,4,3,2] ?_
 refine tG Q4t (Qm8 m m) [2,5] ?_
 exact Q1 [] [0] [true=(decide (a=a)&&decide (p=p)&&decide (m=m)&&decide (e=e))] (by simp only [Conj];first | rfl | simp)
theorem Qoi (sh lk:List Dcl) (gs:List Grf) (hs:∀ j:Nat,(sh.getD j default).name.size≤maxLen) (hk:∀ j:Nat,(lk.getD j default).name.size≤maxLen) (hg:∀ j:Nat,(gs.getD j default).name.size≤maxLen) (hu:UnitW gs) (mem:List Int) (s9 l9 bu:Int) (cs:List Cor) (cl:List Cls) (l:List Did) (hw:∀ a b:Nat,insK ((cs.getD a default).code.getD b default)) (hl:∀ a:Nat,0≤(l.getD a default).kind∧(l.getD a default).kind≤255) (hn:(l.length:Int) * 56≤140737488355328) (od:List Int) (most:Int):Ctr Tryz.prog 3 [Dcl.rowR sh,Dcl.rowR lk,Grf.rowR gs,IntRow mem,Cor.rowR cs,Cls.rowR cl,Did.rowR l,IntRow od] [.agg [.h 0,.h 1,.h 2],.agg [.h 3,.i .i64 s9,.i .i64 l9,.i .i64 bu,.h 4],.c (.h 5),.c (.h 6),.c (.h 7),.c (.i .i64 most)]
 (Det (.c (.b true)) [.dead,.dead,.dead,.dead,.dead,.dead,.dead,.dead]):=by
 refine Ctr.intro [] Tryz.func3 K K ?_
 refine Q2 Q8f (Qm7 mem s9 l9 bu cs cl l W27 W27 W27) [3,4,5,6] ?_
 refine tz [25,12,7,6,2,3,4,5] ?_
 refine Q2 Q50 (Qkb mem s9 l9 bu cs cl l W27 W27 W27) [3,4,5,6] ?_
 refine tz [32,14,13,12,6,2,4,5] ?_
 refine Q2 Zo (Qob sh lk gs W27 W27 W27 W27 cl od most) [0,1,2,5,7] ?_
 refine tz [40,16,15,14,13,12,6,2,4,5] ?_
 refine Q2 Q42 (Qk7 sh lk gs W27 W27 W27 W27 cl od most) [0,1,2,5,7] ?_
 refine tz [48,18,17,16,15,14,13,12] ?_
 refine Q2 Q4s (Qid) [] ?_
 refine tz [51,20,19,18,17,16,15,14,13,12] ?_
 refine Qgv (true) (fun h1=>?_) (fun h1=>?_)
 ·refine tz [54,53,52,20,19,18,17,16,14,12] ?_
  refine Q2 Q0t (Qib (ordL mem s9 l9 bu cs cl l) (ordL mem s9 l9 bu cs cl l)) [10,11] ?_
  refine tz [55,52,20,19,18,17,16,14,12] ?_
  refine Qgv (decide (ordL mem s9 l9 bu cs cl l=ordL mem s9 l9 bu cs cl l)&&decide (ordE mem s9 l9 bu cs cl l=ordE mem s9 l9 bu cs cl l)) (fun h2=>?_) (fun h2=>?_)
  ·refine tz [64,63,62,20,18,12] ?_
   refine Q2 Q5y (Qie (flwS sh lk gs cl od most) (flwP sh lk gs cl od most) (flwM sh lk gs cl od most) (flwD sh lk gs cl od most)) [12,13,14,16,17,18] ?_
   exact Q1 [] [0] [true=(true&&decide (flwE sh lk gs cl od most=flwE sh lk gs cl od most))] (by simp only [Conj];first | rfl | simp)
  ·exact (show False from by simp at h2).elim
 ·exact (show False from by simp at h1).elim
end Go.Proofs.YtmaodngbpfjnnaaGreat
end
namespace Go.Proofs.YtmaodngbpfjnnaaGreat
open Go Go.Tx
inductive Sh where
 | num (k:IntKind)
 | str
 | boo
 | sl (e size:Nat) (el:List Sh)
mutual
/-- the cells of a type -/
inductive ShT (P:Program):Nat→List Sh→Prop
 | int {t:Nat} {k:IntKind} (ht:P.underlying t=some (.int k)):ShT P t [.num k]
 | str {t:Nat} (ht:P.underlying t=some .string):ShT P t [.str]
 | bool {t:Nat} (ht:P.underlying t=some .bool):ShT P t [.boo]
 | slice {t e:Nat} {el:List Sh} (ht:P.underlying t=some (.slice e)) (hc:P.cellsOf e=el.length) (hp:0<el.length) (h:ShT P e el):ShT P t [.sl e el.length el]
 | struct {t:Nat} {fs:Array Field} {ss:List Sh} (ht:P.underlying t=some (.struct fs)) (hc:P.cellsOf t=ss.length) (h:ShF P 0 fs.toList ss):ShT P t ss
/-- .. of fields,the first of which lies at cell i -/
inductive ShF (P:Program):Nat→List Field→List Sh→Prop
 | nil {i:Nat}:ShF P i [] []
 | cons {i:Nat} {f:Field} {fs:List Field} {s1 s2:List Sh} (ho:f.offset=i) (hc:P.cellsOf f.type=s1.length) (h:ShT P f.type s1) (r:ShF P (i+s1.length) fs s2):ShF P i (f::fs) (s1++s2)
end
inductive ShC:Sh→TC→Prop
 | num {k:IntKind} (n:Int) (h:(Lit.int k n).wf=true):ShC (.num k) (.val (.int k n))
 | str (x:ByteArray) (h:x.size≤maxLen):ShC .str (.val (.string x))
 | boo (x:Bool):ShC .boo (.val (.bool x))
 | sl {e size:Nat} {el:List Sh} (n:Nat) (g:Nat→List TC) (hl:∀ i,i<n→(g i).length=el.length) (h:∀ (i j:Nat) (s:Sh) (c:TC),i<n→el[j]?=some s→(g i)[j]?=some c→ShC s c) :
    ShC (.sl e size el) (.sub e size n (fun i=>nthT (g i)))
def ShL (ss:List Sh) (tl:List TC):Prop:=tl.length=ss.length∧∀ (j:Nat) (s:Sh) (c:TC),ss[j]?=some s→tl[j]?=some c→ShC s c
def inW (w:World) (b:Nat):Prop:=b<w.heap.size
def Holds (w:World) (tl:List TC) (cs:List Value):Prop:=∀ (j:Nat) (c:TC) (u:Value),tl[j]?=some c→cs[j]?=some u→RdC w (inW w) c u
theorem Q7k {tl:List TC} {j:Nat} {c:TC} (h:tl[j]?=some c):nthT tl j=c:=by
 unfold nthT;rw [Qp,h]
section
variable {H:Type} {enc:TypeId×Value→H} {P:Program} {w:World}
mutual
theorem Qg6:∀ {t:Nat} {ss:List Sh},ShT P t ss→∀ {n:Nat} {cs:List Value} {x:DataW H×List MemPlace},DataW.trod enc P w 0 (fun _=>true) true n t cs=some x →
 cs.length=ss.length∧∃ tl:List TC,ShL ss tl∧Holds w tl cs
 | t,_,(.int (k:=k) ht),n,cs,x,h=>by
   obtain ⟨m,rfl,_,hw⟩:=DataW.trod_int ht h
   refine ⟨rfl,[.val (.int k m)],⟨rfl,fun j s c hs hc=>?_⟩,fun j c u hc hu=>?_⟩
   ·match j,hs,hc with
    | 0,hs,hc=>cases hs;cases hc;exact .num m hw
    | j+1,hs,_=>simp at hs
   ·match j,hc,hu with
    | 0,hc,hu=>cases hc;cases hu;rfl
    | j+1,hc,_=>simp at hc
 | t,_,(.str ht),n,cs,x,h=>by
   obtain ⟨m,rfl,_,hw⟩:=DataW.trod_string ht h
   refine ⟨rfl,[.val (.string m)],⟨rfl,fun j s c hs hc=>?_⟩,fun j c u hc hu=>?_⟩
   ·match j,hs,hc with
    | 0,hs,hc=>cases hs;cases hc;exact .str m hw
    | j+1,hs,_=>simp at hs
   ·match j,hc,hu with
    | 0,hc,hu=>cases hc;cases hu;rfl
    | j+1,hc,_=>simp at hc
 | t,_,(.bool ht),n,cs,x,h=>by
   obtain ⟨m,rfl,_⟩:=DataW.trod_bool ht h
   refine ⟨rfl,[.val (.bool m)],⟨rfl,fun j s c hs hc=>?_⟩,fun j c u hc hu=>?_⟩
   ·match j,hs,hc with
    | 0,hs,hc=>cases hs;cases hc;exact .boo m
    | j+1,hs,_=>simp at hs
   ·match j,hc,hu with
    | 0,hc,hu=>cases hc;cases hu;rfl
    | j+1,hc,_=>simp at hc
 | t,_,(.slice (e:=e) (el:=el) ht hce hpos he),n,cs,x,h=>by
   have key:∀ (v:Value) (m:Nat) (g:Nat→List TC),(∀ i,i<m→ShL el (g i))→RdC w (inW w) (.sub e el.length m fun i=>nthT (g i)) v →
    ([v]:List Value).length=([.sl e el.length el]:List Sh).length∧∃ tl:List TC,ShL [.sl e el.length el] tl∧Holds w tl [v]:=fun v m g hg hv=>by
    refine ⟨rfl,[.sub e el.length m fun i=>nthT (g i)],⟨rfl,fun j s c hs hc=>?_⟩,fun j c u hc hu=>?_⟩
    ·match j,hs,hc with
     | 0,hs,hc=>cases hs;cases hc;exact .sl m g (fun i hi=>(hg i hi).1) (fun i j s c hi h1 h2=>(hg i hi).2 j s c h1 h2)
     | j+1,hs,_=>simp at hs
    ·match j,hc,hu with
     | 0,hc,hu=>cases hc;cases hu;exact hv
     | j+1,hc,_=>simp at hc
   rcases Go.Deep.open_slice ht h with ⟨rfl,_⟩ | ⟨a,len,cap,m,n',D,Pl,rfl,_,hlc,hcm,hm,_,hel⟩
   ·refine key _ 0 (fun _=>[]) (fun i hi=>absurd hi (Nat.not_lt_zero _)) ⟨none,0,rfl,Nat.le_refl _,by simp [maxLen],fun a ha _=>(by cases ha),fun h=>absurd h (Nat.lt_irrefl _)⟩
   ·have hm':m=cap:=by simpa using hm
    subst hm'
    have hall:∀ i,i<len→∃ tl:List TC,ShL el tl∧∃ cs',w.cells? 0 (a.add (i * P.cellsOf e)) (P.cellsOf e)=some cs'∧Holds w tl cs':=fun i hi=>by
     obtain ⟨cs',h1,h2⟩:=hel i (Nat.lt_of_lt_of_le hi hlc)
     obtain ⟨h3,tl,h4,h5⟩:=Qg6 he h2
     exact ⟨tl,h4,cs',h1,h5⟩
    obtain ⟨g,hg⟩:=Go.Deep.choose_lt hall
    refine key _ len g (fun i hi=>(hg i hi).1) ⟨some a,m,rfl,hlc,hcm,fun ad had hp=>?_,fun hp=>⟨a,rfl,fun i j hi hj=>?_⟩⟩
    ·cases had
     obtain ⟨_,cs',h2,_⟩:=hg 0 hp
     have:=World.cells?_block h2 (by rw [hce];exact hpos)
     rw [J4] at this
     exact ⟨this,this⟩
    ·obtain ⟨h1,cs',h2,h3⟩:=hg i hi
     obtain ⟨_,h4,h5⟩:=World.cells?_some h2
     have hjl:j<cs'.length:=by rw [h4,hce];exact hj
     refine ⟨cs'[j],?_,?_⟩
     ·rw [hce] at h5
      have:=h5 j hj
      rw [Y9] at this
      rw [this,List.getElem?_eq_getElem hjl]
     ·have hjt:j<(g i).length:=by rw [h1.1];exact hj
      show RdC w (inW w) (nthT (g i) j) _
      rw [Q7k (List.getElem?_eq_getElem hjt)]
      exact h3 j _ _ (List.getElem?_eq_getElem hjt) (List.getElem?_eq_getElem hjl)
 | t,_,(.struct (fs:=fs) (ss:=ss) ht hc hf),n,cs,x,h=>by
   obtain ⟨xs,n',_,_,hl,hxl,hx⟩:=DataW.trod_struct ht h
   refine ⟨by rw [hl,hc],?_⟩
   have:=Qky hf (n:=n') (cs:=cs) (fun f hm=>by
    obtain ⟨k,hk⟩:=List.getElem?_of_mem hm
    have hk':fs[k]?=some f:=by simpa using hk
    have hlt:k<xs.length:=by rw [hxl];exact (Array.getElem?_eq_some_iff.1 hk').1
    exact ⟨xs[k],by rw [hx k f hk',List.getElem?_eq_getElem hlt]⟩) (by rw [hl,hc];omega)
   simpa using this
theorem Qky:∀ {i:Nat} {fs:List Field} {ss:List Sh},ShF P i fs ss→∀ {n:Nat} {cs:List Value},(∀ f∈fs,∃ x,DataW.trod enc P w 0 (fun _=>true) true n f.type ((cs.drop f.offset).take (P.cellsOf f.type))=some x) →
 i+ss.length≤cs.length→∃ tl:List TC,ShL ss tl∧Holds w tl (cs.drop i)
 | _,_,_,.nil,n,cs,h,hl=>⟨[],⟨rfl,fun j s c hs=>by simp at hs⟩,fun j c u hc=>by simp at hc⟩
 | i,_,_,(.cons (f:=f) (fs:=fs) (s1:=s1) (s2:=s2) ho hc hT hr),n,cs,h,hl=>by
   simp only [List.length_append] at hl
   obtain ⟨x,hx⟩:=h f (.head _)
   obtain ⟨h1,t1,h2,h3⟩:=Qg6 hT hx
   obtain ⟨t2,h4,h5⟩:=Qky hr (n:=n) (cs:=cs) (fun f' hf'=>h f' (.tail _ hf')) W37
   refine ⟨t1++t2,⟨by rw [List.length_append,List.length_append,h2.1,h4.1],fun j s c hs hcj=>?_⟩,fun j c u hcj hu=>?_⟩
   ·by_cases hj:j<s1.length
    ·rw [List.getElem?_append_left hj] at hs
     rw [List.getElem?_append_left (by rw [h2.1];exact hj)] at hcj
     exact h2.2 j s c hs hcj
    ·rw [List.getElem?_append_right W37] at hs
     rw [List.getElem?_append_right (by rw [h2.1];omega),h2.1] at hcj
     exact h4.2 _ s c hs hcj
   ·by_cases hj:j<s1.length
    ·rw [List.getElem?_append_left (by rw [h2.1];exact hj)] at hcj
     refine h3 j c u hcj ?_
     rw [List.getElem?_take_of_lt (by rw [hc];exact hj),ho]
     exact hu
    ·rw [List.getElem?_append_right (by rw [h2.1];omega),h2.1] at hcj
     refine h5 _ c u hcj ?_
     rw [List.getElem?_drop] at hu ⊢
     rw [show i+s1.length+(j-s1.length)=i+j by omega]
     exact hu
end
end
theorem Q5d {H:Type} {enc:TypeId×Value→H} {P:Program} {w:World} {t:Nat} {ss:List Sh} {v:Value} {d:DataW H} {p:List MemPlace} (hs:ShT P t ss) (h:DataW.Trod enc P w 0 (fun _=>true) true t v d p) :
 v.cells.toList.length=ss.length∧∃ tl:List TC,ShL ss tl∧Holds w tl v.cells.toList:=by
 obtain ⟨n,hn⟩:=h
 exact Qg6 hs hn
def Imp (w:World) (a b:List TC):Prop:=∀ (j:Nat) (c:TC) (u:Value),a[j]?=some c→RdC w (inW w) c u→RdC w (inW w) (nthT b j) u
theorem Imp.of_eq {w:World} {a b:List TC} (h:a=b):Imp w a b:=fun j c u hj hu=>by
 subst h;rw [Q7k hj];exact hu
theorem Qm9 {α:Type} [Inhabited α] {w:World} {tl:α→List TC} {Q:α→Prop} {n:Nat} {g:Nat→List TC} (h:∀ i,i<n→∃ x,Imp w (g i) (tl x)∧Q x) (hd:Q default) :
 ∃ l:List α,l.length=n∧(∀ i,i<n→Imp w (g i) (tl (l.getD i default)))∧∀ i,Q (l.getD i default):=by
 obtain ⟨f,hf⟩:=Go.Deep.choose_lt h
 refine ⟨(List.range n).map f,by simp,fun i hi=>?_,fun i=>?_⟩
 ·rw [List.getD_eq_getElem?_getD,List.getElem?_map,List.getElem?_range hi]
  exact (hf i hi).1
 ·rw [List.getD_eq_getElem?_getD,List.getElem?_map]
  by_cases hi:i<n
  ·rw [List.getElem?_range hi];exact (hf i hi).2
  ·rw [List.getElem?_eq_none W117];exact hd
theorem Gu {α:Type} [Inhabited α] {w:World} {e size:Nat} {el:List Sh} {c:TC} {tl:α→List TC} {Q:α→Prop} (hs:size=el.length) (h:ShC (.sl e size el) c) (hx:∀ t:List TC,ShL el t→∃ x,Imp w t (tl x)∧Q x) (hd:Q default) :
 ∃ l:List α,(∀ i,Q (l.getD i default))∧∀ v,RdC w (inW w) c v→RdRow w (inW w) v size l.length (fun i j u=>RdC w (inW w) (nthT (tl (l.getD i default)) j) u):=by
 cases h with
 | sl n g hl hg =>
   obtain ⟨l,h1,h2,h3⟩:=Qm9 (tl:=tl) (Q:=Q) (n:=n) (g:=g) (w:=w) (fun i hi=>hx _ ⟨hl i hi,fun j s c h1 h2=>hg i j s c hi h1 h2⟩) hd
   refine ⟨l,h3,fun v hv=>?_⟩
   rw [h1]
   refine RdRow.map hv (Nat.le_refl _) (fun _ _ _=>rfl) (fun i j u hi hj hu=>?_)
   have hjl:j<(g i).length:=by rw [hl i hi,← hs];exact hj
   have:nthT (g i) j=(g i)[j]:=Q7k (List.getElem?_eq_getElem hjl)
   have hu:RdC w (inW w) (nthT (g i) j) u:=hu
   rw [this] at hu
   exact h2 i hi j _ u (List.getElem?_eq_getElem hjl) hu
end Go.Proofs.YtmaodngbpfjnnaaGreat
noncomputable section
namespace Go.Proofs.YtmaodngbpfjnnaaGreat
open Go Go.Tx
theorem Q8u {n:Int} (h:(Lit.int .u8 n).wf=true):0≤n∧n≤255:=by simpa [Lit.wf,IntKind.min,IntKind.max,IntKind.signed,IntKind.bits] using h
abbrev shDid:List Sh:=[.num .u8,.num .i64,.num .i64,.num .i64,.num .i64,.num .i64,.boo]
theorem Qma:ShT Tryz.prog 89 shDid:=.struct Tryz.underlying89 (by kernel_rfl) (.cons (s1:=[.num .u8]) (s2:=[.num .i64,.num .i64,.num .i64,.num .i64,.num .i64,.boo]) rfl (by kernel_rfl) (.int (by kernel_rfl)) (.cons (s1:=[.num .i64]) (s2:=[.num .i64,.num .i64,.num .i64,.num .i64,.boo]) rfl (by kernel_rfl) (.int (by kernel_rfl)) (.cons (s1:=[.num .i64]) (s2:=[.num .i64,.num .i64,.num .i64,.boo]) rfl (by kernel_rfl) (.int (by kernel_rfl)) (.cons (s1:=[.num .i64]) (s2:=[.num .i64,.num .i64,.boo]) rfl (by kernel_rfl) (.int (by kernel_rfl)) (.cons (s1:=[.num .i64]) (s2:=[.num .i64,.boo]) rfl (by kernel_rfl) (.int (by kernel_rfl)) (.cons (s1:=[.num .i64]) (s2:=[.boo]) rfl (by kernel_rfl) (.int (by kernel_rfl)) (.cons (s1:=[.boo]) (s2:=[]) rfl (by kernel_rfl) (.bool (by kernel_rfl)) .nil)))))))
theorem Qno {w:World} {t:List TC} (h:ShL shDid t):∃ x:Did,Imp w t x.tl∧(0≤x.kind∧x.kind≤255):=by
 obtain ⟨hl,hc⟩:=h
 rcases t with _ | ⟨c0,_ | ⟨c1,_ | ⟨c2,_ | ⟨c3,_ | ⟨c4,_ | ⟨c5,_ | ⟨c6,_ | ⟨c7,t⟩⟩⟩⟩⟩⟩⟩⟩
 all_goals first | (exfalso;simp at hl;done) | skip
 have h0:=hc 0 _ _ rfl rfl
 have h1:=hc 1 _ _ rfl rfl
 have h2:=hc 2 _ _ rfl rfl
 have h3:=hc 3 _ _ rfl rfl
 have h4:=hc 4 _ _ rfl rfl
 have h5:=hc 5 _ _ rfl rfl
 have h6:=hc 6 _ _ rfl rfl
 cases h0 with | num n0 w0 =>
 cases h1 with | num n1 w1 =>
 cases h2 with | num n2 w2 =>
 cases h3 with | num n3 w3 =>
 cases h4 with | num n4 w4 =>
 cases h5 with | num n5 w5 =>
 cases h6 with | boo n6 =>
 exact ⟨⟨n0,n1,n2,n3,n4,n5,n6⟩,Imp.of_eq rfl,Q8u w0⟩
abbrev shCls:List Sh:=[.num .u8,.num .i64,.num .i64]
theorem Qmb:ShT Tryz.prog 71 shCls:=.struct Tryz.underlying71 (by kernel_rfl) (.cons (s1:=[.num .u8]) (s2:=[.num .i64,.num .i64]) rfl (by kernel_rfl) (.int (by kernel_rfl)) (.cons (s1:=[.num .i64]) (s2:=[.num .i64]) rfl (by kernel_rfl) (.int (by kernel_rfl)) (.cons (s1:=[.num .i64]) (s2:=[]) rfl (by kernel_rfl) (.int (by kernel_rfl)) .nil)))
theorem Qnp {w:World} {t:List TC} (h:ShL shCls t):∃ x:Cls,Imp w t x.tl∧True:=by
 obtain ⟨hl,hc⟩:=h
 rcases t with _ | ⟨c0,_ | ⟨c1,_ | ⟨c2,_ | ⟨c3,t⟩⟩⟩⟩
 all_goals first | (exfalso;simp at hl;done) | skip
 have h0:=hc 0 _ _ rfl rfl
 have h1:=hc 1 _ _ rfl rfl
 have h2:=hc 2 _ _ rfl rfl
 cases h0 with | num n0 w0 =>
 cases h1 with | num n1 w1 =>
 cases h2 with | num n2 w2 =>
 exact ⟨⟨n0,n1,n2⟩,Imp.of_eq rfl,trivial⟩
abbrev shIns:List Sh:=[.num .u8,.num .u8,.num .i64,.num .i64,.num .i64,.num .i64,.num .i64,.num .i64,.num .i64]
theorem Qmc:ShT Tryz.prog 116 shIns:=.struct Tryz.underlying116 (by kernel_rfl) (.cons (s1:=[.num .u8]) (s2:=[.num .u8,.num .i64,.num .i64,.num .i64,.num .i64,.num .i64,.num .i64,.num .i64]) rfl (by kernel_rfl) (.int (by kernel_rfl)) (.cons (s1:=[.num .u8]) (s2:=[.num .i64,.num .i64,.num .i64,.num .i64,.num .i64,.num .i64,.num .i64]) rfl (by kernel_rfl) (.int (by kernel_rfl)) (.cons (s1:=[.num .i64]) (s2:=[.num .i64,.num .i64,.num .i64,.num .i64,.num .i64,.num .i64]) rfl (by kernel_rfl) (.int (by kernel_rfl)) (.cons (s1:=[.num .i64]) (s2:=[.num .i64,.num .i64,.num .i64,.num .i64,.num .i64]) rfl (by kernel_rfl) (.int (by kernel_rfl)) (.cons (s1:=[.num .i64]) (s2:=[.num .i64,.num .i64,.num .i64,.num .i64]) rfl (by kernel_rfl) (.int (by kernel_rfl)) (.cons (s1:=[.num .i64]) (s2:=[.num .i64,.num .i64,.num .i64]) rfl (by kernel_rfl) (.int (by kernel_rfl)) (.cons (s1:=[.num .i64]) (s2:=[.num .i64,.num .i64]) rfl (by kernel_rfl) (.int (by kernel_rfl)) (.cons (s1:=[.num .i64]) (s2:=[.num .i64]) rfl (by kernel_rfl) (.int (by kernel_rfl)) (.cons (s1:=[.num .i64]) (s2:=[]) rfl (by kernel_rfl) (.int (by kernel_rfl)) .nil)))))))))
theorem Qnq {w:World} {t:List TC} (h:ShL shIns t):∃ x:Ins,Imp w t x.tl∧insK x:=by
 obtain ⟨hl,hc⟩:=h
 rcases t with _ | ⟨c0,_ | ⟨c1,_ | ⟨c2,_ | ⟨c3,_ | ⟨c4,_ | ⟨c5,_ | ⟨c6,_ | ⟨c7,_ | ⟨c8,_ | ⟨c9,t⟩⟩⟩⟩⟩⟩⟩⟩⟩⟩
 all_goals first | (exfalso;simp at hl;done) | skip
 have h0:=hc 0 _ _ rfl rfl
 have h1:=hc 1 _ _ rfl rfl
 have h2:=hc 2 _ _ rfl rfl
 have h3:=hc 3 _ _ rfl rfl
 have h4:=hc 4 _ _ rfl rfl
 have h5:=hc 5 _ _ rfl rfl
 have h6:=hc 6 _ _ rfl rfl
 have h7:=hc 7 _ _ rfl rfl
 have h8:=hc 8 _ _ rfl rfl
 cases h0 with | num n0 w0 =>
 cases h1 with | num n1 w1 =>
 cases h2 with | num n2 w2 =>
 cases h3 with | num n3 w3 =>
 cases h4 with | num n4 w4 =>
 cases h5 with | num n5 w5 =>
 cases h6 with | num n6 w6 =>
 cases h7 with | num n7 w7 =>
 cases h8 with | num n8 w8 =>
 exact ⟨⟨n0,n1,n2,n3,n4,n5,n6,n7,n8⟩,Imp.of_eq rfl,⟨Q8u w0,Q8u w1⟩⟩
abbrev shCor:List Sh:=[.str,.sl 116 9 shIns]
theorem Qmd:ShT Tryz.prog 112 shCor:=.struct Tryz.underlying112 (by kernel_rfl) (.cons (s1:=[.str]) (s2:=[.sl 116 9 shIns]) rfl (by kernel_rfl) (.str (by kernel_rfl)) (.cons (s1:=[.sl 116 9 shIns]) (s2:=[]) rfl (by kernel_rfl) (.slice (el:=shIns) (by kernel_rfl) (by kernel_rfl) W131 Qmc) .nil))
theorem Qan:insK default:=by unfold insK;decide
theorem Qnr {w:World} {t:List TC} (h:ShL shCor t):∃ x:Cor,Imp w t x.tl∧∀ b,insK (x.code.getD b default):=by
 obtain ⟨hl,hc⟩:=h
 rcases t with _ | ⟨c0,_ | ⟨c1,_ | ⟨c2,t⟩⟩⟩
 all_goals first | (exfalso;simp at hl;done) | skip
 have h0:=hc 0 _ _ rfl rfl
 have h1:=hc 1 _ _ rfl rfl
 cases h0 with | str n0 w0 =>
 obtain ⟨code,hq,hr⟩:=Gu (w:=w) (tl:=Ins.tl) (Q:=insK) rfl h1 (fun t ht=>Qnq ht) Qan
 refine ⟨⟨n0,code⟩,fun j c u hj hu=>?_,hq⟩
 match j,hj with
 | 0,hj=>cases hj;exact hu
 | 1,hj=>cases hj;exact hr u hu
 | j+2,hj=>simp at hj
theorem Qif {w:World} {t:List TC} (h:ShL [.num .i64] t):∃ x:Int,Imp w t [.val (.int .i64 x)]∧True:=by
 obtain ⟨hl,hc⟩:=h
 rcases t with _ | ⟨c,_ | ⟨c',t⟩⟩
 ·simp at hl
 ·have h0:=hc 0 _ _ rfl rfl
  cases h0 with | num n w =>
  exact ⟨n,Imp.of_eq rfl,trivial⟩
 ·simp at hl
abbrev shObj:List Sh:=[.sl 2 1 [.num .i64],.num .i64,.num .i64,.num .i64,.sl 112 2 shCor]
theorem Qme:ShT Tryz.prog 29 shObj:=.struct Tryz.underlying29 (by kernel_rfl)
 (.cons (s1:=[.sl 2 1 [.num .i64]]) (s2:=[.num .i64,.num .i64,.num .i64,.sl 112 2 shCor]) rfl (by kernel_rfl) (.slice (el:=[.num .i64]) (by kernel_rfl) (by kernel_rfl) W131 (.int (by kernel_rfl)))
 (.cons (s1:=[.num .i64]) (s2:=[.num .i64,.num .i64,.sl 112 2 shCor]) rfl (by kernel_rfl) (.int (by kernel_rfl))
 (.cons (s1:=[.num .i64]) (s2:=[.num .i64,.sl 112 2 shCor]) rfl (by kernel_rfl) (.int (by kernel_rfl))
 (.cons (s1:=[.num .i64]) (s2:=[.sl 112 2 shCor]) rfl (by kernel_rfl) (.int (by kernel_rfl))
 (.cons (s1:=[.sl 112 2 shCor]) (s2:=[]) rfl (by kernel_rfl) (.slice (el:=shCor) (by kernel_rfl) (by kernel_rfl) W131 Qmd) .nil)))))
theorem Qkg:ShT Tryz.prog 31 [.sl 89 7 shDid]:=.slice (el:=shDid) (by kernel_rfl) (by kernel_rfl) W131 Qma
theorem Qkh:ShT Tryz.prog 30 [.sl 71 3 shCls]:=.slice (el:=shCls) (by kernel_rfl) (by kernel_rfl) W131 Qmb
section
variable {H:Type} {enc:TypeId×Value→H} {W:World} {base:Nat}
theorem Q0n {ε:Env} {M:Nat→Prop} {v:Value} {size n:Nat} {f:Nat→Nat→TC} (h:RdRow W (inW W) v size n (fun i j u=>RdC W (inW W) (f i j) u)):RegOk ε M W ⟨v,inW W⟩ (.row size n f none):=⟨h,trivial⟩
theorem Qmf {ε:Env} {pre:List Reg} (hl:ε.length=pre.length) (hx:pre.all (fun r=>!r.excl)=true) (hf:∀ i,i<pre.length→ε.fp i=inW W) (h:∀ i r,pre[i]?=some r→RegOk ε (Base.at_ pre ε W).M W (ε.ent i) r) :
 RegsOk ε (Base.at_ pre ε W).M (Base.at_ pre ε W).L W pre:=by
 have hx':∀ (i:Nat) (r:Reg),pre[i]?=some r→r.excl=false:=fun i r hi=>by simpa using List.all_eq_true.1 hx r (List.mem_of_getElem? hi)
 refine ⟨hl,h,fun i r hi hlv b hb=>?_,fun i r hi he=>?_,fun i j ri rj _ hi _ he=>?_⟩
 ·have hi':=(List.getElem?_eq_some_iff.1 hi).1
  have hb':b<W.heap.size:=by rw [hf i hi'] at hb;exact hb
  exact ⟨hb',.inr ⟨i,r,hi,hlv,hb⟩⟩
 ·rw [hx' i r hi] at he;cases he
 ·rw [hx' i ri hi] at he;cases he
theorem Qki {v:Value} {d:DataW H} {p:List MemPlace} (hv:Value.okWide Tryz.prog W .any base 29 v) (h:DataW.Trod enc Tryz.prog W 0 (fun _=>true) true 29 v d p) :
 ∃ (u0 u4:Value) (mem:List Int) (s9 l9 bu:Int) (cs:List Cor),v=.agg #[u0,.int .i64 s9,.int .i64 l9,.int .i64 bu,u4] ∧
  RdRow W (inW W) u0 1 mem.length (fun i j u=>RdC W (inW W) (i64T (mem.getD i 0) j) u)∧RdRow W (inW W) u4 2 cs.length (fun i j u=>RdC W (inW W) ((cs.getD i default).tc j) u) ∧
  ∀ a b:Nat,insK ((cs.getD a default).code.getD b default):=by
 obtain ⟨cs0,rfl,hsz⟩:=Go.WideShapes.okWide_struct Tryz.underlying29 hv
 obtain ⟨hlen,tl,⟨hl,hc⟩,hh⟩:=Q5d Qme h
 have hlen:cs0.toList.length=5:=hlen
 rcases tl with _ | ⟨c0,_ | ⟨c1,_ | ⟨c2,_ | ⟨c3,_ | ⟨c4,_ | ⟨c5,t⟩⟩⟩⟩⟩⟩
 all_goals first | (exfalso;simp at hl;done) | skip
 obtain ⟨l,rfl⟩:∃ l:List Value,cs0=l.toArray:=⟨cs0.toList,by simp⟩
 simp only [List.toList_toArray] at hlen
 rcases l with _ | ⟨u0,_ | ⟨u1,_ | ⟨u2,_ | ⟨u3,_ | ⟨u4,_ | ⟨u5,t⟩⟩⟩⟩⟩⟩
 all_goals first | (exfalso;simp at hlen;done) | skip
 have h0:=hc 0 _ _ rfl rfl
 have h1:=hc 1 _ _ rfl rfl
 have h2:=hc 2 _ _ rfl rfl
 have h3:=hc 3 _ _ rfl rfl
 have h4:=hc 4 _ _ rfl rfl
 have g0:=hh 0 _ _ rfl rfl
 have g1:=hh 1 _ _ rfl rfl
 have g2:=hh 2 _ _ rfl rfl
 have g3:=hh 3 _ _ rfl rfl
 have g4:=hh 4 _ _ rfl rfl
 cases h1 with | num s9 w1 =>
 cases h2 with | num l9 w2 =>
 cases h3 with | num bu w3 =>
 obtain ⟨mem,_,hm⟩:=Gu (w:=W) (α:=Int) (tl:=fun n=>[.val (.int .i64 n)]) (Q:=fun _=>True) rfl h0 (fun t ht=>Qif ht) trivial
 obtain ⟨cs,hq,hr⟩:=Gu (w:=W) (tl:=Cor.tl) (Q:=fun x:Cor=>∀ b,insK (x.code.getD b default)) rfl h4 (fun t ht=>Qnr ht) (fun b=>by
  rw [List.getD_eq_getElem?_getD];exact Qan)
 have e1:u1=.int .i64 s9:=g1
 have e2:u2=.int .i64 l9:=g2
 have e3:u3=.int .i64 bu:=g3
 subst e1 e2 e3
 exact ⟨u0,u4,mem,s9,l9,bu,cs,rfl,hm u0 g0,hr u4 g4,hq⟩
theorem Qig {v:Value} {d:DataW H} {p:List MemPlace} (hv:Value.okWide Tryz.prog W .any base 31 v) (h:DataW.Trod enc Tryz.prog W 0 (fun _=>true) true 31 v d p) :
 ∃ l:List Did,RdRow W (inW W) v 7 l.length (fun i j u=>RdC W (inW W) ((l.getD i default).tc j) u)∧∀ a:Nat,0≤(l.getD a default).kind∧(l.getD a default).kind≤255:=by
 obtain ⟨a,len,cap,rfl⟩:=Go.WideShapes.okWide_slice Tryz.underlying31 hv
 obtain ⟨hlen,tl,⟨hl,hc⟩,hh⟩:=Q5d Qkg h
 rcases tl with _ | ⟨c0,_ | ⟨c1,t⟩⟩
 all_goals first | (exfalso;simp at hl;done) | skip
 obtain ⟨l,hq,hr⟩:=Gu (w:=W) (tl:=Did.tl) (Q:=fun x:Did=>0≤x.kind∧x.kind≤255) rfl (hc 0 _ _ rfl rfl) (fun t ht=>Qno ht) ⟨Int.le_refl _,by decide⟩
 exact ⟨l,hr _ (hh 0 _ _ rfl rfl),hq⟩
theorem Qih {v:Value} {d:DataW H} {p:List MemPlace} (hv:Value.okWide Tryz.prog W .any base 30 v) (h:DataW.Trod enc Tryz.prog W 0 (fun _=>true) true 30 v d p):∃ l:List Cls,RdRow W (inW W) v 3 l.length (fun i j u=>RdC W (inW W) ((l.getD i default).tc j) u):=by obtain ⟨a,len,cap,rfl⟩:=Go.WideShapes.okWide_slice Tryz.underlying30 hv;obtain ⟨hlen,tl,⟨hl,hc⟩,hh⟩:=Q5d Qkh h;(rcases tl with _ | ⟨c0,_ | ⟨c1,t⟩⟩<;>first | (exfalso;simp at hl;done) | (obtain ⟨l,_,hr⟩:=Gu (w:=W) (tl:=Cls.tl) (Q:=fun _:Cls=>True) rfl (hc 0 _ _ rfl rfl) (fun t ht=>Qnp ht) trivial;exact ⟨l,hr _ (hh 0 _ _ rfl rfl)⟩))
theorem Qkj {t e:Nat} {v:Value} {d:DataW H} {p:List MemPlace} {size n:Nat} {ok:Nat→Nat→Value→Prop} (ht:Tryz.prog.underlying t=some (.slice e)) (h:DataW.Trod enc Tryz.prog W 0 (fun _=>true) true t v d p) (hr:RdRow W (inW W) v size n ok):n≤Rows.uptoBulk d:=by
 have all:∀ l:List (DataW H),l.length≤Rows.uptoBulkAll l:=fun l=>by
  induction l with
  | nil=>simp
  | cons x r ih =>
    have:1≤Rows.uptoBulk x:=by
     cases x with
     | lit l=>cases l<;>simp [Rows.uptoBulk]
     | _=>simp [Rows.uptoBulk]
    simp only [Rows.uptoBulkAll,List.length_cons];omega
 obtain ⟨A,c,rfl,_⟩:=hr
 obtain ⟨fuel,hf⟩:=h
 rcases Go.Deep.open_slice ht hf with ⟨hcs,hd⟩ | ⟨a,len,cap,m,n',D,Pl,hcs,_,_,_,_,hd,_⟩
 ·simp only [Value.cells,List.cons.injEq,Value.slice.injEq] at hcs
  omega
 ·simp only [Value.cells,List.cons.injEq,Value.slice.injEq] at hcs
  simp only [Prod.mk.injEq] at hd
  rw [hd.1]
  have:=all ((List.range len).map D)
  simp only [List.length_map,List.length_range] at this
  simp only [Rows.uptoBulk]
  omega
theorem Qii {d:DataW H} {l:List (DataW H)} (h:d∈l):Rows.uptoBulk d≤Rows.uptoBulkAll l:=by
 induction l with
 | nil=>cases h
 | cons x r ih =>
   simp only [Rows.uptoBulkAll]
   cases List.mem_cons.1 h with
   | inl e=>subst e;omega
   | inr e=>have:=ih e;omega
end
end Go.Proofs.YtmaodngbpfjnnaaGreat
end
noncomputable section
namespace Go.Proofs.YtmaodngbpfjnnaaGreat
open Go Go.Tx
abbrev shVl:List Sh:=[.boo,.num .i64,.num .i64]
theorem Qij:ShT Tryz.prog 135 shVl:=.struct Tryz.underlying135 (by kernel_rfl) (.cons (s1:=[.boo]) (s2:=[.num .i64,.num .i64]) rfl (by kernel_rfl) (.bool (by kernel_rfl)) (.cons (s1:=[.num .i64]) (s2:=[.num .i64]) rfl (by kernel_rfl) (.int (by kernel_rfl)) (.cons (s1:=[.num .i64]) (s2:=[]) rfl (by kernel_rfl) (.int (by kernel_rfl)) .nil)))
abbrev shDcl:List Sh:=[.str,.num .i64,.num .i64]
theorem Qev:ShT Tryz.prog 104 shDcl:=.struct Tryz.underlying104 (by kernel_rfl) (.cons (s1:=[.str]) (s2:=[.num .i64,.num .i64]) rfl (by kernel_rfl) (.str (by kernel_rfl)) (.cons (s1:=[.num .i64]) (s2:=[.num .i64]) rfl (by kernel_rfl) (.int (by kernel_rfl)) (.cons (s1:=[.num .i64]) (s2:=[]) rfl (by kernel_rfl) (.int (by kernel_rfl)) .nil)))
theorem Qik {w:World} {t:List TC} (h:ShL shDcl t):∃ x:Dcl,Imp w t x.tl∧x.name.size≤maxLen:=by
 obtain ⟨hl,hc⟩:=h
 rcases t with _ | ⟨c0,_ | ⟨c1,_ | ⟨c2,_ | ⟨c3,t⟩⟩⟩⟩
 all_goals first | (exfalso;simp at hl;done) | skip
 have h0:=hc 0 _ _ rfl rfl
 have h1:=hc 1 _ _ rfl rfl
 have h2:=hc 2 _ _ rfl rfl
 cases h0 with | str n0 w0 =>
 cases h1 with | num n1 w1 =>
 cases h2 with | num n2 w2 =>
 exact ⟨⟨n0,n1,n2⟩,Imp.of_eq rfl,w0⟩
abbrev shNod:List Sh:=[.num .u8,.num .u8,.num .i64,.num .i64,.boo,.num .i64,.num .i64,.boo,.num .i64,.num .i64,.num .i64,.num .i64,.num .i64]
theorem Qmg:ShT Tryz.prog 137 shNod:=.struct Tryz.underlying137 (by kernel_rfl) (.cons (s1:=[.num .u8]) (s2:=[.num .u8,.num .i64,.num .i64,.boo,.num .i64,.num .i64,.boo,.num .i64,.num .i64,.num .i64,.num .i64,.num .i64]) rfl (by kernel_rfl) (.int (by kernel_rfl)) (.cons (s1:=[.num .u8]) (s2:=[.num .i64,.num .i64,.boo,.num .i64,.num .i64,.boo,.num .i64,.num .i64,.num .i64,.num .i64,.num .i64]) rfl (by kernel_rfl) (.int (by kernel_rfl)) (.cons (s1:=[.num .i64]) (s2:=[.num .i64,.boo,.num .i64,.num .i64,.boo,.num .i64,.num .i64,.num .i64,.num .i64,.num .i64]) rfl (by kernel_rfl) (.int (by kernel_rfl)) (.cons (s1:=[.num .i64]) (s2:=[.boo,.num .i64,.num .i64,.boo,.num .i64,.num .i64,.num .i64,.num .i64,.num .i64]) rfl (by kernel_rfl) (.int (by kernel_rfl)) (.cons (s1:=[.boo,.num .i64,.num .i64]) (s2:=[.boo,.num .i64,.num .i64,.num .i64,.num .i64,.num .i64]) rfl (by kernel_rfl) (Qij) (.cons (s1:=[.boo,.num .i64,.num .i64]) (s2:=[.num .i64,.num .i64,.num .i64]) rfl (by kernel_rfl) (Qij) (.cons (s1:=[.num .i64]) (s2:=[.num .i64,.num .i64]) rfl (by kernel_rfl) (.int (by kernel_rfl)) (.cons (s1:=[.num .i64]) (s2:=[.num .i64]) rfl (by kernel_rfl) (.int (by kernel_rfl)) (.cons (s1:=[.num .i64]) (s2:=[]) rfl (by kernel_rfl) (.int (by kernel_rfl)) .nil)))))))))
def nodK (x:Nod):Prop:=0≤x.kind∧0≤x.op∧x.op≤255
theorem Qao:nodK default:=by unfold nodK;decide
theorem Qns {w:World} {t:List TC} (h:ShL shNod t):∃ x:Nod,Imp w t x.tl∧nodK x:=by
 obtain ⟨hl,hc⟩:=h
 rcases t with _ | ⟨c0,_ | ⟨c1,_ | ⟨c2,_ | ⟨c3,_ | ⟨c4,_ | ⟨c5,_ | ⟨c6,_ | ⟨c7,_ | ⟨c8,_ | ⟨c9,_ | ⟨c10,_ | ⟨c11,_ | ⟨c12,_ | ⟨c13,t⟩⟩⟩⟩⟩⟩⟩⟩⟩⟩⟩⟩⟩⟩
 all_goals first | (exfalso;simp at hl;done) | skip
 have h0:=hc 0 _ _ rfl rfl
 have h1:=hc 1 _ _ rfl rfl
 have h2:=hc 2 _ _ rfl rfl
 have h3:=hc 3 _ _ rfl rfl
 have h4:=hc 4 _ _ rfl rfl
 have h5:=hc 5 _ _ rfl rfl
 have h6:=hc 6 _ _ rfl rfl
 have h7:=hc 7 _ _ rfl rfl
 have h8:=hc 8 _ _ rfl rfl
 have h9:=hc 9 _ _ rfl rfl
 have h10:=hc 10 _ _ rfl rfl
 have h11:=hc 11 _ _ rfl rfl
 have h12:=hc 12 _ _ rfl rfl
 cases h0 with | num n0 w0 =>
 cases h1 with | num n1 w1 =>
 cases h2 with | num n2 w2 =>
 cases h3 with | num n3 w3 =>
 cases h4 with | boo n4 =>
 cases h5 with | num n5 w5 =>
 cases h6 with | num n6 w6 =>
 cases h7 with | boo n7 =>
 cases h8 with | num n8 w8 =>
 cases h9 with | num n9 w9 =>
 cases h10 with | num n10 w10 =>
 cases h11 with | num n11 w11 =>
 cases h12 with | num n12 w12 =>
 exact ⟨⟨n0,n1,n2,n3,⟨n4,n5,n6⟩,⟨n7,n8,n9⟩,n10,n11,n12⟩,Imp.of_eq rfl,⟨(Q8u w0).1,Q8u w1⟩⟩
abbrev shGrf:List Sh:=[.str,.num .i64,.num .i64,.sl 137 13 shNod]
theorem Qmh:ShT Tryz.prog 107 shGrf:=.struct Tryz.underlying107 (by kernel_rfl) (.cons (s1:=[.str]) (s2:=[.num .i64,.num .i64,.sl 137 13 shNod]) rfl (by kernel_rfl) (.str (by kernel_rfl)) (.cons (s1:=[.num .i64]) (s2:=[.num .i64,.sl 137 13 shNod]) rfl (by kernel_rfl) (.int (by kernel_rfl)) (.cons (s1:=[.num .i64]) (s2:=[.sl 137 13 shNod]) rfl (by kernel_rfl) (.int (by kernel_rfl)) (.cons (s1:=[.sl 137 13 shNod]) (s2:=[]) rfl (by kernel_rfl) (.slice (el:=shNod) (by kernel_rfl) (by kernel_rfl) W131 Qmg) .nil))))
theorem Qnt {w:World} {t:List TC} (h:ShL shGrf t):∃ x:Grf,Imp w t x.tl∧x.name.size≤maxLen∧∀ b:Nat,nodK (x.nodes.getD b default):=by
 obtain ⟨hl,hc⟩:=h
 rcases t with _ | ⟨c0,_ | ⟨c1,_ | ⟨c2,_ | ⟨c3,_ | ⟨c4,t⟩⟩⟩⟩⟩
 all_goals first | (exfalso;simp at hl;done) | skip
 have h0:=hc 0 _ _ rfl rfl
 have h1:=hc 1 _ _ rfl rfl
 have h2:=hc 2 _ _ rfl rfl
 have h3:=hc 3 _ _ rfl rfl
 cases h0 with | str n0 w0 =>
 cases h1 with | num n1 w1 =>
 cases h2 with | num n2 w2 =>
 obtain ⟨nodes,hq,hr⟩:=Gu (w:=w) (tl:=Nod.tl) (Q:=nodK) rfl h3 (fun t ht=>Qns ht) Qao
 refine ⟨⟨n0,n1,n2,nodes⟩,fun j c u hj hu=>?_,w0,hq⟩
 match j,hj with
 | 0,hj=>cases hj;exact hu
 | 1,hj=>cases hj;exact hu
 | 2,hj=>cases hj;exact hu
 | 3,hj=>cases hj;exact hr u hu
 | j+4,hj=>simp at hj
abbrev shUni:List Sh:=[.sl 104 3 shDcl,.sl 104 3 shDcl,.sl 107 4 shGrf]
theorem Qmi:ShT Tryz.prog 25 shUni:=.struct Tryz.underlying25 (by kernel_rfl) (.cons (s1:=[.sl 104 3 shDcl]) (s2:=[.sl 104 3 shDcl,.sl 107 4 shGrf]) rfl (by kernel_rfl) (.slice (el:=shDcl) (by kernel_rfl) (by kernel_rfl) W131 Qev) (.cons (s1:=[.sl 104 3 shDcl]) (s2:=[.sl 107 4 shGrf]) rfl (by kernel_rfl) (.slice (el:=shDcl) (by kernel_rfl) (by kernel_rfl) W131 Qev) (.cons (s1:=[.sl 107 4 shGrf]) (s2:=[]) rfl (by kernel_rfl) (.slice (el:=shGrf) (by kernel_rfl) (by kernel_rfl) W131 Qmh) .nil)))
section
variable {H:Type} {enc:TypeId×Value→H} {W:World} {base:Nat}
theorem Qil {v:Value} {d:DataW H} {p:List MemPlace} (hv:Value.okWide Tryz.prog W .any base 25 v) (h:DataW.Trod enc Tryz.prog W 0 (fun _=>true) true 25 v d p) :
 ∃ (u0 u1 u2:Value) (sh lk:List Dcl) (gs:List Grf),v=.agg #[u0,u1,u2] ∧
  RdRow W (inW W) u0 3 sh.length (fun i j u=>RdC W (inW W) ((sh.getD i default).tc j) u)∧RdRow W (inW W) u1 3 lk.length (fun i j u=>RdC W (inW W) ((lk.getD i default).tc j) u) ∧
  RdRow W (inW W) u2 4 gs.length (fun i j u=>RdC W (inW W) ((gs.getD i default).tc j) u)∧(∀ j:Nat,(sh.getD j default).name.size≤maxLen)∧(∀ j:Nat,(lk.getD j default).name.size≤maxLen) ∧
  (∀ j:Nat,(gs.getD j default).name.size≤maxLen)∧UnitW gs:=by
 obtain ⟨cs0,rfl,hsz⟩:=Go.WideShapes.okWide_struct Tryz.underlying25 hv
 obtain ⟨hlen,tl,⟨hl,hc⟩,hh⟩:=Q5d Qmi h
 have hlen:cs0.toList.length=3:=hlen
 rcases tl with _ | ⟨c0,_ | ⟨c1,_ | ⟨c2,_ | ⟨c3,t⟩⟩⟩⟩
 all_goals first | (exfalso;simp at hl;done) | skip
 obtain ⟨l,rfl⟩:∃ l:List Value,cs0=l.toArray:=⟨cs0.toList,by simp⟩
 simp only [List.toList_toArray] at hlen
 rcases l with _ | ⟨u0,_ | ⟨u1,_ | ⟨u2,_ | ⟨u3,t⟩⟩⟩⟩
 all_goals first | (exfalso;simp at hlen;done) | skip
 have h0:=hc 0 _ _ rfl rfl
 have h1:=hc 1 _ _ rfl rfl
 have h2:=hc 2 _ _ rfl rfl
 obtain ⟨sh,q0,r0⟩:=Gu (w:=W) (tl:=Dcl.tl) (Q:=fun x:Dcl=>x.name.size≤maxLen) rfl h0 (fun t ht=>Qik ht) (Nat.zero_le _)
 obtain ⟨lk,q1,r1⟩:=Gu (w:=W) (tl:=Dcl.tl) (Q:=fun x:Dcl=>x.name.size≤maxLen) rfl h1 (fun t ht=>Qik ht) (Nat.zero_le _)
 obtain ⟨gs,q2,r2⟩:=Gu (w:=W) (tl:=Grf.tl) (Q:=fun x:Grf=>x.name.size≤maxLen∧∀ b:Nat,nodK (x.nodes.getD b default)) rfl h2 (fun t ht=>Qnt ht) ⟨Nat.zero_le _,fun b=>by
  rw [List.getD_eq_getElem?_getD];exact Qao⟩
 exact ⟨u0,u1,u2,sh,lk,gs,rfl,r0 u0 (hh 0 _ _ rfl rfl),r1 u1 (hh 1 _ _ rfl rfl),r2 u2 (hh 2 _ _ rfl rfl),q0,q1,fun j=>(q2 j).1,fun a b=>(q2 a).2 b⟩
theorem Qkk:ShT Tryz.prog 32 [.sl 3 1 [.num .i64]]:=.slice (el:=[.num .i64]) (by kernel_rfl) (by kernel_rfl) W131 (.int (by kernel_rfl))
theorem Qim {v:Value} {d:DataW H} {p:List MemPlace} (hv:Value.okWide Tryz.prog W .any base 32 v) (h:DataW.Trod enc Tryz.prog W 0 (fun _=>true) true 32 v d p) :
 ∃ l:List Int,RdRow W (inW W) v 1 l.length (fun i j u=>RdC W (inW W) (i64T (l.getD i 0) j) u):=by
 obtain ⟨a,len,cap,rfl⟩:=Go.WideShapes.okWide_slice Tryz.underlying32 hv
 obtain ⟨hlen,tl,⟨hl,hc⟩,hh⟩:=Q5d Qkk h
 rcases tl with _ | ⟨c0,_ | ⟨c1,t⟩⟩
 all_goals first | (exfalso;simp at hl;done) | skip
 obtain ⟨l,_,hr⟩:=Gu (w:=W) (α:=Int) (tl:=fun n=>[.val (.int .i64 n)]) (Q:=fun _=>True) rfl (hc 0 _ _ rfl rfl) (fun t ht=>Qif ht) trivial
 exact ⟨l,hr _ (hh 0 _ _ rfl rfl)⟩
end
end Go.Proofs.YtmaodngbpfjnnaaGreat
end
noncomputable section
namespace Go.Proofs.YtmaodngbpfjnnaaGreat.lawWitnessOrders
open Go.ChangeShapes Go.WideShapes Go.ChangeAt Go.RowKit Go.Tx
theorem Q5o:laidOutB Tryz.prog=true:=by kernel_rfl
theorem own:ownKnob Tryz.prog.godebug=none:=by kernel_rfl
theorem results:Tryz.f3.resultTypes=#[4]:=by kernel_rfl
theorem Qkl (H:Type) (enc:TypeId×Value→H) (W:World) (base:Nat) (args:Array Value) (ds gs:List (DataW H)) (before:List MemPlace)
 (hval:∀ (j:Nat) t v,Tryz.f3.params[j]?=some t→args[j]?=some v→Value.okWide Tryz.prog W .any base t v)
 (hW:DataW.Whole enc Tryz.prog Tryz.f3.params.toList Rows.witnessOrdersSpec.vars false W args.toList ds gs before) (hk:Rows.uptoSmall H (ds++gs)=true) :
 Calls Tryz.prog 3 args W fun e W'=>∃ v,e=.returned v∧Rows.witnessOrdersSpec.post enc Tryz.prog Tryz.f3 false true false false W args v W':=by
 have hW':=hW
 have hlt:=hW.lt
 obtain ⟨p,q,hA0,hV,rfl,hfz,hnd⟩:=hW
 have hA:DataW.TrodAll enc Tryz.prog W 0 (fun _=>true) true Tryz.f3.params.toList args.toList ds p:=hA0
 rw [Tryz.params3] at hA hval
 obtain ⟨v0,vs0,d0,ds0,p0,q0,hargs0,rfl,rfl,h0,r0⟩:=trodAll_cons hA
 obtain ⟨v1,vs1,d1,ds1,p1,q1,hargs1,rfl,rfl,h1,r1⟩:=trodAll_cons r0
 obtain ⟨v2,vs2,d2,ds2,p2,q2,hargs2,rfl,rfl,h2,r2⟩:=trodAll_cons r1
 obtain ⟨v3,vs3,d3,ds3,p3,q3,hargs3,rfl,rfl,h3,r3⟩:=trodAll_cons r2
 obtain ⟨v4,vs4,d4,ds4,p4,q4,hargs4,rfl,rfl,h4,r4⟩:=trodAll_cons r3
 obtain ⟨v5,vs5,d5,ds5,p5,q5,hargs5,rfl,rfl,h5,r5⟩:=trodAll_cons r4
 obtain ⟨rfl,rfl,rfl⟩:=trodAll_nil r5
 obtain rfl:args=#[v0,v1,v2,v3,v4,v5]:=by cases args;simp_all
 obtain ⟨rfl,rfl⟩:=trodVars_none hV
 clear hA0
 have hv0:=hval 0 25 v0 rfl rfl
 have hv1:=hval 1 29 v1 rfl rfl
 have hv2:=hval 2 30 v2 rfl rfl
 have hv3:=hval 3 31 v3 rfl rfl
 have hv4:=hval 4 32 v4 rfl rfl
 have hv5:=hval 5 3 v5 rfl rfl
 obtain ⟨cl,hrc⟩:=Qih hv2 h2
 obtain ⟨l,hrl,hl⟩:=Qig hv3 h3
 obtain ⟨od,hro⟩:=Qim hv4 h4
 obtain ⟨most,rfl⟩:=Go.WideShapes.okWide_int Tryz.underlying3 hv5
 obtain ⟨o0,o4,mem,s9,l9,bu,cs,rfl,hr0,hr4,hw⟩:=Qki hv1 h1
 obtain ⟨u0,u1,u2,sh,lk,gs,rfl,hq0,hq1,hq2,hs,hlk,hg,hu⟩:=Qil hv0 h0
 have hbl:=Qkj Tryz.underlying31 h3 hrl
 have hbp:=Qii (d:=d3) (l:=[d0,d1,d2,d3,d4,d5]) W148
 have hbs:Rows.uptoBulkAll [d0,d1,d2,d3,d4,d5]≤1048576:=by simpa [Rows.uptoSmall] using hk
 have hn:(l.length:Int) * 56≤140737488355328:=by omega
 have hregs:RegsOk ([⟨u0,inW W⟩,⟨u1,inW W⟩,⟨u2,inW W⟩,⟨o0,inW W⟩,⟨o4,inW W⟩,⟨v2,inW W⟩,⟨v3,inW W⟩,⟨v4,inW W⟩]:Env) (Base.at_ [Dcl.rowR sh,Dcl.rowR lk,Grf.rowR gs,IntRow mem,Cor.rowR cs,Cls.rowR cl,Did.rowR l,IntRow od] [⟨u0,inW W⟩,⟨u1,inW W⟩,⟨u2,inW W⟩,⟨o0,inW W⟩,⟨o4,inW W⟩,⟨v2,inW W⟩,⟨v3,inW W⟩,⟨v4,inW W⟩] W).M (Base.at_ [Dcl.rowR sh,Dcl.rowR lk,Grf.rowR gs,IntRow mem,Cor.rowR cs,Cls.rowR cl,Did.rowR l,IntRow od] [⟨u0,inW W⟩,⟨u1,inW W⟩,⟨u2,inW W⟩,⟨o0,inW W⟩,⟨o4,inW W⟩,⟨v2,inW W⟩,⟨v3,inW W⟩,⟨v4,inW W⟩] W).L W [Dcl.rowR sh,Dcl.rowR lk,Grf.rowR gs,IntRow mem,Cor.rowR cs,Cls.rowR cl,Did.rowR l,IntRow od]:=by
  refine Qmf rfl rfl (fun i hi=>?_) (fun i r hi=>?_)
  ·match i,hi with
   | 0,_=>rfl
   | 1,_=>rfl
   | 2,_=>rfl
   | 3,_=>rfl
   | 4,_=>rfl
   | 5,_=>rfl
   | 6,_=>rfl
   | 7,_=>rfl
   | i+8,hi=>exact absurd hi W148
  ·match i,hi with
   | 0,hi=>cases hi;exact Q0n hq0
   | 1,hi=>cases hi;exact Q0n hq1
   | 2,hi=>cases hi;exact Q0n hq2
   | 3,hi=>cases hi;exact Q0n hr0
   | 4,hi=>cases hi;exact Q0n hr4
   | 5,hi=>cases hi;exact Q0n hrc
   | 6,hi=>cases hi;exact Q0n hrl
   | 7,hi=>cases hi;exact Q0n hro
   | i+8,hi=>simp at hi
 refine ((Qoi sh lk gs hs hlk hg hu mem s9 l9 bu cs cl l hw hl hn od most) [⟨u0,inW W⟩,⟨u1,inW W⟩,⟨u2,inW W⟩,⟨o0,inW W⟩,⟨o4,inW W⟩,⟨v2,inW W⟩,⟨v3,inW W⟩,⟨v4,inW W⟩] W hregs).mono fun e W' hret=>?_
 obtain ⟨res,post,ε',⟨rfl,_⟩,rfl,_,_,hfr⟩:=hret
 have hb:Below W.heap.size W W':=⟨hfr.os,hfr.tape,hfr.output,hfr.size,fun k hk=>hfr.block k hk (fun ⟨i,r,hi,he,_⟩=>by
  match i,hi with
  | 0,hi=>cases hi;cases he
  | 1,hi=>cases hi;cases he
  | 2,hi=>cases hi;cases he
  | 3,hi=>cases hi;cases he
  | 4,hi=>cases hi;cases he
  | 5,hi=>cases hi;cases he
  | 6,hi=>cases hi;cases he
  | 7,hi=>cases hi;cases he
  | i+8,hi=>simp at hi)⟩
 refine ⟨_,rfl,_,_,_,[],p0++(p1++(p2++(p3++(p4++(p5++[]))))),[],hW',?_,?_,?_,hb.frame _,fun h=>by cases h⟩
 ·rw [results]
  exact trodAll_cons_mk (shut_bool Tryz.underlying4 _) trodAll_mk0
 ·rw [Tryz.params3]
  exact (trodAll_cons_mk (WideElems.Trod_stays Q5o (by kernel_rfl) (of_decide_eq_true (by kernel_rfl)) h0 (fun p hp=>hb.same (hlt p W154)) (fun p hp=>by simpa using hlt p W154)) (trodAll_cons_mk (WideElems.Trod_stays Q5o (by kernel_rfl) (of_decide_eq_true (by kernel_rfl)) h1 (fun p hp=>hb.same (hlt p W154)) (fun p hp=>by simpa using hlt p W154)) (trodAll_cons_mk (WideElems.Trod_stays Q5o (by kernel_rfl) (of_decide_eq_true (by kernel_rfl)) h2 (fun p hp=>hb.same (hlt p W154)) (fun p hp=>by simpa using hlt p W154)) (trodAll_cons_mk (WideElems.Trod_stays Q5o (by kernel_rfl) (of_decide_eq_true (by kernel_rfl)) h3 (fun p hp=>hb.same (hlt p W154)) (fun p hp=>by simpa using hlt p W154)) (trodAll_cons_mk (WideElems.Trod_stays Q5o (by kernel_rfl) (of_decide_eq_true (by kernel_rfl)) h4 (fun p hp=>hb.same (hlt p W154)) (fun p hp=>by simpa using hlt p W154)) (trodAll_cons_mk (WideElems.Trod_stays Q5o (by kernel_rfl) (of_decide_eq_true (by kernel_rfl)) h5 (fun p hp=>hb.same (hlt p W154)) (fun p hp=>by simpa using hlt p W154)) trodAll_mk0))))))
 ·rfl
set_option maxRecDepth 100000 in
theorem Qnu (os:Os) (started:os.Started) (H:Type) (enc:TypeId×Value→H) (F:Stop.Interp) :
 ReturnsInHanded {} Tryz.checked os 3 .any ((Rows.OpenSpec.upto Rows.witnessOrdersSpec).pre6 enc Tryz.prog Tryz.f3 Rows.witnessOrdersUptoRow.domain false) (((Rows.OpenSpec.upto Rows.witnessOrdersSpec).at F).post enc Tryz.prog Tryz.f3 false true false false):=by
 refine returnsInHanded_of_cond (C:=Tryz.checked) (s:=Rows.OpenSpec.upto Rows.witnessOrdersSpec) (k:=Rows.uptoSmall) rfl own started (by kernel_rfl) Tryz.func3
  (OpenSpec.witness (enc:=enc) (C:=Tryz.checked) (s:=Rows.OpenSpec.upto Rows.witnessOrdersSpec) (k:=Rows.uptoSmall) rfl false ⟨#[],#[.agg #[.slice none 0 0,.slice none 0 0,.slice none 0 0],.agg #[.slice none 0 0,.int .i64 0,.int .i64 0,.int .i64 0,.slice none 0 0],.slice none 0 0,.slice none 0 0,.slice none 0 0,.int .i64 0],[]⟩ 8 (by kernel_rfl) (by kernel_rfl) (by kernel_rfl)
    (x:=([.agg [.nil,.nil,.nil],.agg [.nil,.lit (.int .i64 0),.lit (.int .i64 0),.lit (.int .i64 0),.nil],.nil,.nil,.nil,.lit (.int .i64 0)],[],[])) (by kernel_rfl) rfl (by kernel_rfl)) ?_
 intro W base args ds gs before hval hW _ hk _
 exact Qkl H enc W base args ds gs before hval hW hk
theorem proved:Rows.WitnessOrdersUptoSaid:=
 OpenClaim.holds_of_cond 3 Tryz.f3 rfl rfl rfl rfl rfl rfl rfl ⟨rfl,rfl,rfl,rfl,rfl⟩ rfl rfl rfl rfl rfl (by kernel_rfl) Tryz.func3 (by kernel_rfl)
  (of_decide_eq_true (by kernel_rfl)) (by unfold Func.isWrapper;first | (rw [if_pos (by decide +kernel)];kernel_rfl) | (rw [if_neg (by decide +kernel)];exact ⟨rfl,rfl⟩))
  (fun os started H enc _ F=>Qnu os started H enc F)
end Go.Proofs.YtmaodngbpfjnnaaGreat.lawWitnessOrders
end
