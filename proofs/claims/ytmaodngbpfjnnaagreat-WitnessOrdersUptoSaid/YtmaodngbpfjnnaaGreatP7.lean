/-
  Every Order and Follow of the program is the reference's. Text 7 of 8: Leaf109 Leaf110 SpecR6 SpecRh SpecRc Leaf103 Leaf101 Leaf102 Leaf104 Leaf105 Leaf106 Leaf111 Leaf113 SpecO Leaf5 Leaf6 Leaf7 Leaf8 Leaf9 Leaf10 Leaf11.
-/
import Derived.Test.YtmaodngbpfjnnaaGreatP4
import Derived.Test.YtmaodngbpfjnnaaGreatP5
import Derived.Test.YtmaodngbpfjnnaaGreatP6
set_option linter.unusedSimpArgs false
set_option linter.unusedVariables false
set_option maxHeartbeats 4000000
noncomputable section
namespace Go.Proofs.YtmaodngbpfjnnaaGreat
open Go Go.Tx
def L125_80 (sh:List Dcl) (lk:List Dcl) (gs:List Grf) (pos:List Int) (sl:List Slt) (mem:List Int) (ho:List Int) (pr:List Prt) (cl:List Cls) (t:Int) (most:Int):Lp (Int×Int×Int×List Int×List Slt×List Int×List Int×List Prt):=⟨fun x=>{ N:=80,fr:=[se 12 (C.i .i64 x.1),se 11 (C.p 11 0),se 10 (C.i .i64 x.2.1),se 9 (C.i .i64 x.2.2.1),se 8 (C.p 10 0),se 4 (C.p 9 0),se 1 (C.i .i64 t),se 2 (C.h 8),se 3 (C.i .i64 most)],rg:=[rowOf 3 (·.tc) sh,rowOf 3 (·.tc) lk,rowOf 4 (·.tc) gs,IntRow pos,rowOf 1 (·.tc) sl,IntRow mem,IntRow ho,rowOf 2 (·.tc) pr,rowOf 3 (·.tc) cl,Reg.box 62 [C.h 0,C.h 1,C.h 2,C.h 3,C.h 4,C.h 5,C.h 6,C.h 7],Reg.box 62 [C.v (Value.slice none 0 0),C.v (Value.slice none 0 0),C.v (Value.slice none 0 0),C.v (Value.slice none 0 0),C.v (Value.slice none 0 0),C.v (Value.slice none 0 0),C.v (Value.slice none 0 0),C.v (Value.slice none 0 0)],Reg.box 62 [C.h 0,C.h 1,C.h 2,C.h 12,C.h 13,C.h 14,C.h 15,C.h 16]]++[IntRow x.2.2.2.1]++[Slt.rowR x.2.2.2.2.1]++[WordRow x.2.2.2.2.2.1]++[IntRow x.2.2.2.2.2.2.1]++[Prt.rowR x.2.2.2.2.2.2.2],wr:=[] },fun x=>AdvJ sh.length lk.length gs cl t most (Mch.mk pos sl mem ho pr) x.1 (Mch.mk x.2.2.2.1 x.2.2.2.2.1 x.2.2.2.2.2.1 x.2.2.2.2.2.2.1 x.2.2.2.2.2.2.2),fun x=>(most-x.1).toNat⟩
theorem Q8q (sh lk:List Dcl) (gs:List Grf) (pos:List Int) (sl:List Slt) (mem ho:List Int) (pr:List Prt) (cl:List Cls) (t most:Int) (hQ:MchQ sh.length lk.length gs (Mch.mk pos sl mem ho pr)) (hb:sh.length≤64∧lk.length≤16∧gs.length≤8) (hp:pr.length≤1048576) (hw:UnitW gs) (hsel:(advM sh.length gs cl t most (Mch.mk pos sl mem ho pr)).err=0):Ctr Tryz.prog 61 [Dcl.rowR sh,Dcl.rowR lk,Grf.rowR gs,IntRow pos,Slt.rowR sl,WordRow mem,IntRow ho,Prt.rowR pr,Cls.rowR cl] [.agg [.h 0,.h 1,.h 2,.h 3,.h 4,.h 5,.h 6,.h 7],.c (.i .i64 t),.c (.h 8),.c (.i .i64 most)]
 (Det (.tup [(true,[.h 0,.h 1,.h 2,.h 9,.h 10,.h 11,.h 12,.h 13]),(false,[.i .i64 (advM sh.length gs cl t most (Mch.mk pos sl mem ho pr)).n]),(false,[.i .i64 0])]) [.dead,.dead,.dead,.dead,.dead,.dead,.dead,.dead,.dead,IntRow (advM sh.length gs cl t most (Mch.mk pos sl mem ho pr)).m.pos,Slt.rowR (advM sh.length gs cl t most (Mch.mk pos sl mem ho pr)).m.sl,WordRow (advM sh.length gs cl t most (Mch.mk pos sl mem ho pr)).m.mem,IntRow (advM sh.length gs cl t most (Mch.mk pos sl mem ho pr)).m.ho,Prt.rowR (advM sh.length gs cl t most (Mch.mk pos sl mem ho pr)).m.pr]):=by
 refine Ctr.intro [] Tryz.func61 K K ?_
 refine Q0 (decide (t<(0:Int))||decide ((↑pos.length:Int)≤t)||!decide ((↑cl.length:Int)=(↑mem.length:Int))||decide (most<(0:Int))||decide ((1048576:Int)<most)) (fun h1=>?_) (fun h1=>?_)
 ·exact (show False from by rw [Q5i (Zw (m:=(Mch.mk pos sl mem ho pr)) hQ h1)] at hsel;have z:(2:Int)=0:=hsel;omega).elim
 ·refine tz [10,9,8,4,1,2,3] ?_
  refine Q2 Yk (Q1m sh lk gs pos sl mem ho pr t W10 W10) [] ?_
  refine tz [43,10,9,8,4,1,2,3] ?_
  refine Q0 (decide (barV gs pos ho t=(70:Int))) (fun h2=>?_) (fun h2=>?_)
  ·exact (show False from by rw [Q5j (Zw (m:=(Mch.mk pos sl mem ho pr)) hQ h1) h2] at hsel;have z:(70:Int)=0:=hsel;omega).elim
  ·refine tz [10,9,8,4,1,2,3] ?_
   refine Qb (L125_80 sh lk gs pos sl mem ho pr cl t most) (((0:Int),(0:Int),(0:Int),pos,sl,mem,ho,pr)) (AdvJ.start hQ (Zw (m:=(Mch.mk pos sl mem ho pr)) hQ h1) h2) ?_ [0,1,2,3,4,5,6,7,8,9,10,11,3,4,5,6,7]
   rintro ⟨x3_0,x3_1,x3_2,x3_3,x3_4,x3_5,x3_6,x3_7⟩ hJ3
   dsimp only [L125_80] at hJ3
   refine tz [12,11,10,9,8,4,1,2,3] ?_
   refine Q2 Yk (Q1m sh lk gs x3_3 x3_4 x3_5 x3_6 x3_7 t W10 W10) [0,1,2,12,13,14,15,16] ?_
   refine tz [51,12,11,10,9,8,4,1,2,3] ?_
   refine Q0 (decide (barV gs x3_3 x3_6 t=(70:Int))) (fun h4=>?_) (fun h4=>?_)
   ·rw [AdvJ.e70 hJ3 h4]
    exact Q1 [0,1,2,3,4,5,6,7,8,12,13,14,15,16]
   ·refine tz [13,12,11,10,9,8,4,1,2,3] ?_
    refine Q0 (!decide (barV gs x3_3 x3_6 t=(0:Int))) (fun h5=>?_) (fun h5=>?_)
    ·exact (show False from by rw [AdvJ.bar hJ3 h4 h5] at hsel;have z:barV gs x3_3 x3_6 t=0:=hsel;simp [z] at h5).elim
    ·refine tz [12,11,10,9,8,4,1,2,3] ?_
     refine Q0 (decide (most≤x3_0)) (fun h6=>?_) (fun h6=>?_)
     ·exact (show False from by rw [AdvJ.many hJ3 h4 h5 (Q13 hJ3 h6)] at hsel;have z:(3:Int)=0:=hsel;omega).elim
     ·refine tz [12,11,10,9,8,4,1,2,3] ?_
      refine Q2 Zc (Qaf sh lk gs x3_3 x3_4 x3_5 x3_6 x3_7 t W10 W10 W10 W10) [0,1,2,12,13,14,15,16] ?_
      refine tz [66,12,11,10,9,8,4,1,2,3] ?_
      refine Q2 Q0u (Qag sh lk gs x3_3 x3_4 x3_5 x3_6 x3_7 t W10 W10 W10 W10 W10) [0,1,2,12,13,14,15,16] ?_
      refine tz [70,14,12,11,10,9,8,4,1,2,3] ?_
      refine Q2 Jm (Q6j cl (nodA gs x3_3 t)) [8] ?_
      refine tz [76,12,11,10,9,8,4,1,2,3] ?_
      refine Q0 (visN cl (nodA gs x3_3 t)) (fun h7=>?_) (fun h7=>?_)
      ·rw [AdvJ.vis hJ3 h4 h5 (Q13 hJ3 h6) h7]
       exact Q1 [0,1,2,3,4,5,6,7,8,18,19,20,21,22] (vc:=[Fits IntKind.i64 (x3_0+(1:Int))]) (hv:=W63)
      ·exact Q6 (L125_80 sh lk gs pos sl mem ho pr cl t most) (x3_0,x3_1,x3_2,x3_3,x3_4,x3_5,x3_6,x3_7) ((x3_0+(1:Int),x3_1,x3_2,(stepM gs t (Mch.mk x3_3 x3_4 x3_5 x3_6 x3_7)).m.pos,(stepM gs t (Mch.mk x3_3 x3_4 x3_5 x3_6 x3_7)).m.sl,(stepM gs t (Mch.mk x3_3 x3_4 x3_5 x3_6 x3_7)).m.mem,(stepM gs t (Mch.mk x3_3 x3_4 x3_5 x3_6 x3_7)).m.ho,(stepM gs t (Mch.mk x3_3 x3_4 x3_5 x3_6 x3_7)).m.pr)) (by dsimp only [L125_80];have z:=hJ3.lo;have z2:=hJ3.hi;have q:=of_decide_eq_false h6;omega) (AdvJ.next hw hJ3 h4 h5 (Q13 hJ3 h6) h7) [0,1,2,3,4,5,6,7,8,9,10,11,18,19,20,21,22] (vc:=[Fits IntKind.i64 (x3_0+(1:Int))]) (hv:=W63)
def L125_90 (sh:List Dcl) (lk:List Dcl) (gs:List Grf) (pos:List Int) (sl:List Slt) (mem:List Int) (ho:List Int) (pr:List Prt) (cl:List Cls) (t:Int) (most:Int):Lp (Int×Int×Int×List Int×List Slt×List Int×List Int×List Prt):=⟨fun x=>{ N:=80,fr:=[se 12 (C.i .i64 x.1),se 11 (C.p 11 0),se 10 (C.i .i64 x.2.1),se 9 (C.i .i64 x.2.2.1),se 8 (C.p 10 0),se 4 (C.p 9 0),se 1 (C.i .i64 t),se 2 (C.h 8),se 3 (C.i .i64 most)],rg:=[rowOf 3 (·.tc) sh,rowOf 3 (·.tc) lk,rowOf 4 (·.tc) gs,IntRow pos,rowOf 1 (·.tc) sl,IntRow mem,IntRow ho,rowOf 2 (·.tc) pr,rowOf 3 (·.tc) cl,Reg.box 62 [C.h 0,C.h 1,C.h 2,C.h 3,C.h 4,C.h 5,C.h 6,C.h 7],Reg.box 62 [C.v (Value.slice none 0 0),C.v (Value.slice none 0 0),C.v (Value.slice none 0 0),C.v (Value.slice none 0 0),C.v (Value.slice none 0 0),C.v (Value.slice none 0 0),C.v (Value.slice none 0 0),C.v (Value.slice none 0 0)],Reg.box 62 [C.h 0,C.h 1,C.h 2,C.h 12,C.h 13,C.h 14,C.h 15,C.h 16]]++[IntRow x.2.2.2.1]++[Slt.rowR x.2.2.2.2.1]++[WordRow x.2.2.2.2.2.1]++[IntRow x.2.2.2.2.2.2.1]++[Prt.rowR x.2.2.2.2.2.2.2],wr:=[] },fun x=>AdvJ sh.length lk.length gs cl t most (Mch.mk pos sl mem ho pr) x.1 (Mch.mk x.2.2.2.1 x.2.2.2.2.1 x.2.2.2.2.2.1 x.2.2.2.2.2.2.1 x.2.2.2.2.2.2.2),fun x=>(most-x.1).toNat⟩
theorem Qfx (sh lk:List Dcl) (gs:List Grf) (pos:List Int) (sl:List Slt) (mem ho:List Int) (pr:List Prt) (cl:List Cls) (t most:Int) (hQ:MchQ sh.length lk.length gs (Mch.mk pos sl mem ho pr)) (hb:sh.length≤64∧lk.length≤16∧gs.length≤8) (hp:pr.length≤1048576) (hw:UnitW gs) (hsel:¬ (advM sh.length gs cl t most (Mch.mk pos sl mem ho pr)).err=0):Ctr Tryz.prog 61 [Dcl.rowR sh,Dcl.rowR lk,Grf.rowR gs,IntRow pos,Slt.rowR sl,WordRow mem,IntRow ho,Prt.rowR pr,Cls.rowR cl] [.agg [.h 0,.h 1,.h 2,.h 3,.h 4,.h 5,.h 6,.h 7],.c (.i .i64 t),.c (.h 8),.c (.i .i64 most)]
 (Det (.tup [(true,[.h 0,.h 1,.h 2,.h 3,.h 4,.h 5,.h 6,.h 7]),(false,[.i .i64 0]),(false,[.i .i64 (advM sh.length gs cl t most (Mch.mk pos sl mem ho pr)).err])]) [.dead,.dead,.dead,.dead,.dead,.dead,.dead,.dead,.dead]):=by
 refine Ctr.intro [] Tryz.func61 K K ?_
 refine Q0 (decide (t<(0:Int))||decide ((↑pos.length:Int)≤t)||!decide ((↑cl.length:Int)=(↑mem.length:Int))||decide (most<(0:Int))||decide ((1048576:Int)<most)) (fun h1=>?_) (fun h1=>?_)
 ·rw [Q5i (gs:=gs) (Zw (m:=(Mch.mk pos sl mem ho pr)) hQ h1)]
  exact Q1
 ·refine tz [10,9,8,4,1,2,3] ?_
  refine Q2 Yk (Q1m sh lk gs pos sl mem ho pr t W10 W10) [] ?_
  refine tz [43,10,9,8,4,1,2,3] ?_
  refine Q0 (decide (barV gs pos ho t=(70:Int))) (fun h2=>?_) (fun h2=>?_)
  ·rw [Q5j (Zw (m:=(Mch.mk pos sl mem ho pr)) hQ h1) h2]
   exact Q1
  ·refine tz [10,9,8,4,1,2,3] ?_
   refine Qb (L125_90 sh lk gs pos sl mem ho pr cl t most) (((0:Int),(0:Int),(0:Int),pos,sl,mem,ho,pr)) (AdvJ.start hQ (Zw (m:=(Mch.mk pos sl mem ho pr)) hQ h1) h2) ?_ [0,1,2,3,4,5,6,7,8,9,10,11,3,4,5,6,7]
   rintro ⟨x3_0,x3_1,x3_2,x3_3,x3_4,x3_5,x3_6,x3_7⟩ hJ3
   dsimp only [L125_90] at hJ3
   refine tz [12,11,10,9,8,4,1,2,3] ?_
   refine Q2 Yk (Q1m sh lk gs x3_3 x3_4 x3_5 x3_6 x3_7 t W10 W10) [0,1,2,12,13,14,15,16] ?_
   refine tz [51,12,11,10,9,8,4,1,2,3] ?_
   refine Q0 (decide (barV gs x3_3 x3_6 t=(70:Int))) (fun h4=>?_) (fun h4=>?_)
   ·exact (show False from by rw [AdvJ.e70 hJ3 h4] at hsel;exact hsel rfl).elim
   ·refine tz [13,12,11,10,9,8,4,1,2,3] ?_
    refine Q0 (!decide (barV gs x3_3 x3_6 t=(0:Int))) (fun h5=>?_) (fun h5=>?_)
    ·rw [AdvJ.bar hJ3 h4 h5]
     exact Q1
    ·refine tz [12,11,10,9,8,4,1,2,3] ?_
     refine Q0 (decide (most≤x3_0)) (fun h6=>?_) (fun h6=>?_)
     ·rw [AdvJ.many hJ3 h4 h5 (Q13 hJ3 h6)]
      exact Q1
     ·refine tz [12,11,10,9,8,4,1,2,3] ?_
      refine Q2 Zc (Qaf sh lk gs x3_3 x3_4 x3_5 x3_6 x3_7 t W10 W10 W10 W10) [0,1,2,12,13,14,15,16] ?_
      refine tz [66,12,11,10,9,8,4,1,2,3] ?_
      refine Q2 Q0u (Qag sh lk gs x3_3 x3_4 x3_5 x3_6 x3_7 t W10 W10 W10 W10 W10) [0,1,2,12,13,14,15,16] ?_
      refine tz [70,14,12,11,10,9,8,4,1,2,3] ?_
      refine Q2 Jm (Q6j cl (nodA gs x3_3 t)) [8] ?_
      refine tz [76,12,11,10,9,8,4,1,2,3] ?_
      refine Q0 (visN cl (nodA gs x3_3 t)) (fun h7=>?_) (fun h7=>?_)
      ·exact (show False from by rw [AdvJ.vis hJ3 h4 h5 (Q13 hJ3 h6) h7] at hsel;exact hsel rfl).elim
      ·exact Q6 (L125_90 sh lk gs pos sl mem ho pr cl t most) (x3_0,x3_1,x3_2,x3_3,x3_4,x3_5,x3_6,x3_7) ((x3_0+(1:Int),x3_1,x3_2,(stepM gs t (Mch.mk x3_3 x3_4 x3_5 x3_6 x3_7)).m.pos,(stepM gs t (Mch.mk x3_3 x3_4 x3_5 x3_6 x3_7)).m.sl,(stepM gs t (Mch.mk x3_3 x3_4 x3_5 x3_6 x3_7)).m.mem,(stepM gs t (Mch.mk x3_3 x3_4 x3_5 x3_6 x3_7)).m.ho,(stepM gs t (Mch.mk x3_3 x3_4 x3_5 x3_6 x3_7)).m.pr)) (by dsimp only [L125_90];have z:=hJ3.lo;have z2:=hJ3.hi;have q:=of_decide_eq_false h6;omega) (AdvJ.next hw hJ3 h4 h5 (Q13 hJ3 h6) h7) [0,1,2,3,4,5,6,7,8,9,10,11,18,19,20,21,22] (vc:=[Fits IntKind.i64 (x3_0+(1:Int))]) (hv:=W63)
end Go.Proofs.YtmaodngbpfjnnaaGreat
end
noncomputable section
namespace Go.Proofs.YtmaodngbpfjnnaaGreat
open Go Go.Tx
def L82_80 (sh:List Dcl) (lk:List Dcl) (gs:List Grf) (pos:List Int) (sl:List Slt) (mem:List Int) (ho:List Int) (pr:List Prt):Lp (Int×Bool):=⟨fun x=>{ N:=15,fr:=[se 7 (C.i .i64 x.1),se 6 (C.i .i64 (↑pos.length:Int)),se 2 (C.b x.2),se 1 (C.p 8 0)],rg:=[rowOf 3 (·.tc) sh,rowOf 3 (·.tc) lk,rowOf 4 (·.tc) gs,IntRow pos,rowOf 1 (·.tc) sl,IntRow mem,IntRow ho,rowOf 2 (·.tc) pr,Reg.box 62 [C.h 0,C.h 1,C.h 2,C.h 3,C.h 4,C.h 5,C.h 6,C.h 7]],wr:=[] },fun x=>0≤x.1∧x.1≤(pos.length:Int)∧endM gs pos ho=endGo gs pos ho ((pos.length:Int)-x.1).toNat x.1,fun x=>((pos.length:Int)-x.1).toNat⟩
theorem Qah (sh lk:List Dcl) (gs:List Grf) (pos:List Int) (sl:List Slt) (mem ho:List Int) (pr:List Prt) (hQ:MchQ sh.length lk.length gs (Mch.mk pos sl mem ho pr)) (hb:sh.length≤64∧lk.length≤16∧gs.length≤8) (hp:pr.length≤1048576) (hw:UnitW gs):Ctr Tryz.prog 39 [Dcl.rowR sh,Dcl.rowR lk,Grf.rowR gs,IntRow pos,Slt.rowR sl,WordRow mem,IntRow ho,Prt.rowR pr] [.agg [.h 0,.h 1,.h 2,.h 3,.h 4,.h 5,.h 6,.h 7]]
 (Det (.c (.b (endM gs pos ho))) [.dead,.dead,.dead,.dead,.dead,.dead,.dead,.dead]):=by
 refine Ctr.intro [] Tryz.func39 K K ?_
 refine Qb (L82_80 sh lk gs pos sl mem ho pr) (((0:Int),false)) Qa5 ?_
 rintro ⟨x1_0,x1_1⟩ hJ1
 dsimp only [L82_80] at hJ1
 refine tz [7,6,2,1] ?_
 refine Q0 (decide (x1_0<(↑pos.length:Int))) (fun h2=>?_) (fun h2=>?_)
 ·refine tz [7,6,2,1] ?_
  refine Q2 Yk (Q1m sh lk gs pos sl mem ho pr x1_0 W27 W27) [] ?_
  refine tz [12,7,6,2,1] ?_
  refine Q0 (!decide (barV gs pos ho x1_0=(70:Int))) (fun h3=>?_) (fun h3=>?_)
  ·exact Q1 [] [0] [endM gs pos ho=false] W122
  ·exact Q6 (L82_80 sh lk gs pos sl mem ho pr) (x1_0,x1_1) ((x1_0+(1:Int),x1_1)) (by dsimp only [L82_80];have q:=of_decide_eq_true h2;have z:=hJ1.1;omega) (Qcg hJ1 h2 h3) (vc:=[Fits IntKind.i64 (x1_0+(1:Int))]) (hv:=W115)
 ·exact Q1 [] [0] [endM gs pos ho=true] W122
theorem Qdu (sh lk:List Dcl) (gs:List Grf) (pos:List Int) (sl:List Slt) (mem ho:List Int) (pr:List Prt) (cl:List Cls) (most:Int) (st:List Int) (t:Int) (hQ:MchQ sh.length lk.length gs (Mch.mk pos sl mem ho pr)) (hb:sh.length≤64∧lk.length≤16∧gs.length≤8) (hp:pr.length≤1048576) (hw:UnitW gs) (hst:st.length≤1048576) (hsel:¬ (advM sh.length gs cl t most (Mch.mk pos sl mem ho pr)).err=0):Ctr Tryz.prog 38 [Dcl.rowR sh,Dcl.rowR lk,Grf.rowR gs,IntRow pos,Slt.rowR sl,WordRow mem,IntRow ho,Prt.rowR pr,Cls.rowR cl,IntOwn st] [.agg [.h 0,.h 1,.h 2,.h 3,.h 4,.h 5,.h 6,.h 7,.h 8,.i .i64 most,.h 9],.c (.i .i64 t)]
 (Det (.tup [(true,[.h 0,.h 1,.h 2,.h 3,.h 4,.h 5,.h 6,.h 7,.h 8,.i .i64 most,.h 9]),(false,[.i .i64 (telAdv sh.length gs cl most t (Tel.mk 0 (Mch.mk pos sl mem ho pr) st)).err])]) [.dead,.dead,.dead,.dead,.dead,.dead,.dead,.dead,.dead,IntOwn st]):=by
 refine Ctr.intro [] Tryz.func38 K K ?_
 refine Q2 Zs (Qfx sh lk gs pos sl mem ho pr cl t most W27 W27 W27 W27 W27) [] ?_
 refine tz [18,5,4,2,1] ?_
 refine Q0 (!decide ((advM sh.length gs cl t most (Mch.mk pos sl mem ho pr)).err=(0:Int))) (fun h1=>?_) (fun h1=>?_)
 ·rw [Qei (x:=(Tel.mk 0 (Mch.mk pos sl mem ho pr) st)) (by simpa using hsel)]
  exact Q1
 ·exact (show False from by simp [hsel] at h1).elim
theorem Qdv (sh lk:List Dcl) (gs:List Grf) (pos:List Int) (sl:List Slt) (mem ho:List Int) (pr:List Prt) (cl:List Cls) (most:Int) (st:List Int) (t:Int) (hQ:MchQ sh.length lk.length gs (Mch.mk pos sl mem ho pr)) (hb:sh.length≤64∧lk.length≤16∧gs.length≤8) (hp:pr.length≤1048576) (hw:UnitW gs) (hst:st.length≤1048576) (hsel:(advM sh.length gs cl t most (Mch.mk pos sl mem ho pr)).err=0) (hsel2:¬ (telAdv sh.length gs cl most t (Tel.mk 0 (Mch.mk pos sl mem ho pr) st)).err=0):Ctr Tryz.prog 38 [Dcl.rowR sh,Dcl.rowR lk,Grf.rowR gs,IntRow pos,Slt.rowR sl,WordRow mem,IntRow ho,Prt.rowR pr,Cls.rowR cl,IntOwn st] [.agg [.h 0,.h 1,.h 2,.h 3,.h 4,.h 5,.h 6,.h 7,.h 8,.i .i64 most,.h 9],.c (.i .i64 t)]
 (Det (.tup [(true,[.h 0,.h 1,.h 2,.h 3,.h 4,.h 5,.h 6,.h 7,.h 8,.i .i64 most,.h 9]),(false,[.i .i64 (telAdv sh.length gs cl most t (Tel.mk 0 (Mch.mk pos sl mem ho pr) st)).err])]) [.dead,.dead,.dead,.dead,.dead,.dead,.dead,.dead,.dead,IntOwn st]):=by
 refine Ctr.intro [] Tryz.func38 K K ?_
 have hz:(!decide ((advM sh.length gs cl t most (Mch.mk pos sl mem ho pr)).err=0))=false:=by simp [hsel]
 refine Q2 Zs (Q8q sh lk gs pos sl mem ho pr cl t most W27 W27 W27 W27 W27) [] ?_
 refine tz [18,5,4,2,1] ?_
 refine Q0 (!decide ((0:Int)=(0:Int))) (fun h1=>?_) (fun h1=>?_)
 ·exact absurd h1 W99
 ·refine tz [7,6,5,4,2,1] ?_
  refine Q0 (decide ((1048576:Int)<(↑st.length:Int)+(advM sh.length gs cl t most (Mch.mk pos sl mem ho pr)).n)) (fun h2=>?_) (fun h2=>?_) (vc:=[Fits IntKind.i64 ((↑st.length:Int)+(advM sh.length gs cl t most (Mch.mk pos sl mem ho pr)).n)]) (hv:=W42)
  ·rw [Q3d (x:=(Tel.mk 0 (Mch.mk pos sl mem ho pr) st)) hz h2]
   exact Q1
  ·exact (show False from by rw [Q8m (x:=(Tel.mk 0 (Mch.mk pos sl mem ho pr) st)) hz h2] at hsel2;exact hsel2 rfl).elim
def L81_80 (sh:List Dcl) (lk:List Dcl) (gs:List Grf) (pos:List Int) (sl:List Slt) (mem:List Int) (ho:List Int) (pr:List Prt) (cl:List Cls) (most:Int) (st:List Int) (t:Int):Lp (Int×List Int):=⟨fun x=>{ N:=46,fr:=[se 9 (C.i .i64 x.1),se 7 (C.i .i64 (advM sh.length gs cl t most (Mch.mk pos sl mem ho pr)).n),se 5 (C.i .i64 0),se 4 (C.p 11 0),se 2 (C.p 10 0),se 1 (C.i .i64 t)],rg:=[rowOf 3 (·.tc) sh,rowOf 3 (·.tc) lk,rowOf 4 (·.tc) gs,IntRow pos,rowOf 1 (·.tc) sl,IntRow mem,IntRow ho,rowOf 2 (·.tc) pr,rowOf 3 (·.tc) cl,Reg.dead,Reg.box 64 [C.h 0,C.h 1,C.h 2,C.h 12,C.h 13,C.h 14,C.h 15,C.h 16,C.h 8,C.i .i64 most,C.h 18],Reg.box 64 [C.v (Value.slice none 0 0),C.v (Value.slice none 0 0),C.v (Value.slice none 0 0),C.v (Value.slice none 0 0),C.v (Value.slice none 0 0),C.v (Value.slice none 0 0),C.v (Value.slice none 0 0),C.v (Value.slice none 0 0),C.v (Value.slice none 0 0),C.i .i64 0,C.v (Value.slice none 0 0)],Reg.row 1 (advM sh.length gs cl t most (Mch.mk pos sl mem ho pr)).m.pos.length (fun i=>i64T ((advM sh.length gs cl t most (Mch.mk pos sl mem ho pr)).m.pos.getD i 0)) none,Reg.row 1 (advM sh.length gs cl t most (Mch.mk pos sl mem ho pr)).m.sl.length (fun i=>((advM sh.length gs cl t most (Mch.mk pos sl mem ho pr)).m.sl.getD i default).tc) none,Reg.row 1 (advM sh.length gs cl t most (Mch.mk pos sl mem ho pr)).m.mem.length (fun i=>i64T ((advM sh.length gs cl t most (Mch.mk pos sl mem ho pr)).m.mem.getD i 0)) none,Reg.row 1 (advM sh.length gs cl t most (Mch.mk pos sl mem ho pr)).m.ho.length (fun i=>i64T ((advM sh.length gs cl t most (Mch.mk pos sl mem ho pr)).m.ho.getD i 0)) none,Reg.row 2 (advM sh.length gs cl t most (Mch.mk pos sl mem ho pr)).m.pr.length (fun i=>((advM sh.length gs cl t most (Mch.mk pos sl mem ho pr)).m.pr.getD i default).tc) none,Reg.box 62 [C.h 0,C.h 1,C.h 2,C.h 12,C.h 13,C.h 14,C.h 15,C.h 16]]++[IntOwn x.2],wr:=[] },fun x=>0≤x.1∧x.1≤(advM sh.length gs cl t most (Mch.mk pos sl mem ho pr)).n∧x.2=st++List.replicate x.1.toNat t,fun x=>((advM sh.length gs cl t most (Mch.mk pos sl mem ho pr)).n-x.1).toNat⟩
theorem Q8r (sh lk:List Dcl) (gs:List Grf) (pos:List Int) (sl:List Slt) (mem ho:List Int) (pr:List Prt) (cl:List Cls) (most:Int) (st:List Int) (t:Int) (hQ:MchQ sh.length lk.length gs (Mch.mk pos sl mem ho pr)) (hb:sh.length≤64∧lk.length≤16∧gs.length≤8) (hp:pr.length≤1048576) (hw:UnitW gs) (hst:st.length≤1048576) (hsel2:(telAdv sh.length gs cl most t (Tel.mk 0 (Mch.mk pos sl mem ho pr) st)).err=0):Ctr Tryz.prog 38 [Dcl.rowR sh,Dcl.rowR lk,Grf.rowR gs,IntRow pos,Slt.rowR sl,WordRow mem,IntRow ho,Prt.rowR pr,Cls.rowR cl,IntOwn st] [.agg [.h 0,.h 1,.h 2,.h 3,.h 4,.h 5,.h 6,.h 7,.h 8,.i .i64 most,.h 9],.c (.i .i64 t)]
 (Det (.tup [(true,[.h 0,.h 1,.h 2,.h 10,.h 11,.h 12,.h 13,.h 14,.h 8,.i .i64 most,.h 15]),(false,[.i .i64 0])]) [.dead,.dead,.dead,.dead,.dead,.dead,.dead,.dead,.dead,.dead,IntRow (telAdv sh.length gs cl most t (Tel.mk 0 (Mch.mk pos sl mem ho pr) st)).m.pos,Slt.rowR (telAdv sh.length gs cl most t (Tel.mk 0 (Mch.mk pos sl mem ho pr) st)).m.sl,WordRow (telAdv sh.length gs cl most t (Tel.mk 0 (Mch.mk pos sl mem ho pr) st)).m.mem,IntRow (telAdv sh.length gs cl most t (Tel.mk 0 (Mch.mk pos sl mem ho pr) st)).m.ho,Prt.rowR (telAdv sh.length gs cl most t (Tel.mk 0 (Mch.mk pos sl mem ho pr) st)).m.pr,IntOwn (telAdv sh.length gs cl most t (Tel.mk 0 (Mch.mk pos sl mem ho pr) st)).st]):=by
 refine Ctr.intro [] Tryz.func38 K K ?_
 have hsel:(advM sh.length gs cl t most (Mch.mk pos sl mem ho pr)).err=0:=Q2q hsel2
 have hz:(!decide ((advM sh.length gs cl t most (Mch.mk pos sl mem ho pr)).err=0))=false:=by simp [hsel]
 refine Q2 Zs (Q8q sh lk gs pos sl mem ho pr cl t most W27 W27 W27 W27 W27) [] ?_
 refine tz [18,5,4,2,1] ?_
 refine Q0 (!decide ((0:Int)=(0:Int))) (fun h1=>?_) (fun h1=>?_)
 ·exact absurd h1 W99
 ·refine tz [7,6,5,4,2,1] ?_
  refine Q0 (decide ((1048576:Int)<(↑st.length:Int)+(advM sh.length gs cl t most (Mch.mk pos sl mem ho pr)).n)) (fun h2=>?_) (fun h2=>?_) (vc:=[Fits IntKind.i64 ((↑st.length:Int)+(advM sh.length gs cl t most (Mch.mk pos sl mem ho pr)).n)]) (hv:=W42)
  ·exact (show False from by rw [Q3d (x:=(Tel.mk 0 (Mch.mk pos sl mem ho pr) st)) hz h2] at hsel2;cases hsel2).elim
  ·rw [Q8m (x:=(Tel.mk 0 (Mch.mk pos sl mem ho pr) st)) hz h2]
   refine tz [7,6,5,4,2,1] ?_
   refine Qb (L81_80 sh lk gs pos sl mem ho pr cl most st t) (((0:Int),st)) ⟨Int.le_refl _,by have z2:=Jz hsel;omega,by simp⟩ ?_ [0,1,2,3,4,5,6,7,8,9,10,11,12,13,14,15,16,17,9]
   rintro ⟨x3_0,x3_1⟩ hJ3
   dsimp only [L81_80] at hJ3
   refine tz [9,7,5,4,2,1] ?_
   refine Q0 (decide (x3_0<(advM sh.length gs cl t most (Mch.mk pos sl mem ho pr)).n)) (fun h4=>?_) (fun h4=>?_)
   ·exact Q6 (L81_80 sh lk gs pos sl mem ho pr cl most st t) (x3_0,x3_1) ((x3_0+(1:Int),x3_1++[t])) (by dsimp only [L81_80];have q:=of_decide_eq_true h4;omega) (by dsimp only [L81_80];have q:=of_decide_eq_true h4;have q2:=hJ3.1;refine ⟨by omega,by omega,?_⟩;rw [hJ3.2.2,show (x3_0+1).toNat=x3_0.toNat+1 by omega,List.replicate_succ',List.append_assoc]) [0,1,2,3,4,5,6,7,8,9,10,11,12,13,14,15,16,17,20] [40,41,42] [(x3_1++[t]).length=x3_1.length+1,∀ (i:Nat),i<(x3_1++[t]).length→i≠x3_1.length→i64T ((x3_1++[t]).getD i 0)=i64T (x3_1.getD i 0),i64T ((x3_1++[t]).getD x3_1.length 0) 0=TC.val (Value.int IntKind.i64 t)] W0 (vc:=[x3_1.length+1≤maxLen,(x3_1.length+1) * 8≤140737488355328,Fits IntKind.i64 (x3_0+(1:Int))]) (hv:=W42)
   ·exact Q1 [0,1,2,3,4,5,6,7,8,9,12,13,14,15,16,18] [10,11] [(st++List.replicate (advM sh.length gs cl t most (Mch.mk pos sl mem ho pr)).n.toNat t).length=x3_1.length,∀ (i:Nat),i<(st++List.replicate (advM sh.length gs cl t most (Mch.mk pos sl mem ho pr)).n.toNat t).length→i64T ((st++List.replicate (advM sh.length gs cl t most (Mch.mk pos sl mem ho pr)).n.toNat t).getD i 0)=i64T (x3_1.getD i 0)] (by have e:x3_1=st++List.replicate ((advM sh.length gs cl t most (Mch.mk pos sl mem ho pr)).n).toNat t:=(by have q:=of_decide_eq_false h4;rw [hJ3.2.2,show x3_0.toNat=((advM sh.length gs cl t most (Mch.mk pos sl mem ho pr)).n).toNat by have:=hJ3.2.1;omega]);subst e;simp only [Conj];(repeat' apply And.intro)<;>first | trivial | rfl | (intros;first | trivial | rfl))
end Go.Proofs.YtmaodngbpfjnnaaGreat
end
namespace Go.Proofs.YtmaodngbpfjnnaaGreat
open Go Go.Tx
def flwR (n:Nod):List Int:=if n.kind=9 then [] else if n.kind=8 then [n.next,n.els] else [n.next]
def uS (k:Int):Bool:=decide (k=1)||decide (k=2)||decide (k=4)
def uT (k:Int):Bool:=decide (k=2)||decide (k=3)||decide (k=4)||decide (k=5)||decide (k=6)
def uA (k:Int):Bool:=decide (k=1)||decide (k=3)||decide (k=4)||decide (k=7)||decide (k=8)
def uN (k:Int):Bool:=decide (1≤k)&&decide (k≤8)
def numR (n:Int) (u:Bool) (m:Int):Bool:=if u then decide (0≤n)&&decide (n<m) else decide (n=0)
def valR (v:Vl) (u:Bool) (s:Int):Bool:=if u then (if v.slotted then decide (0≤v.slot)&&decide (v.slot<s)&&decide (v.word=0) else decide (v.slot=0)) else decide (v=⟨false,0,0⟩)
def allR (ns:Int) (g:Grf) (n:Nod):Bool:=
 numR n.slot (uS n.kind) g.slots&&numR n.thing (uT n.kind) ns&&valR n.a (uA n.kind) g.slots&&valR n.b (decide (n.kind=1)&&twoB n.op) g.slots&&numR n.next (uN n.kind) g.nodes.length&&numR n.els (decide (n.kind=8)) g.nodes.length
def badR (n:Nod):Bool:=decide (n.kind≤0)||decide (10≤n.kind)||decide (n.origin<0)||decide (4096≤n.origin)
def opR (n:Nod):Bool:=(decide (n.kind=1)&&decide (19≤n.op))||(!decide (n.kind=1)&&!decide (n.op=0))
def nodeR (ns nl:Int) (g:Grf) (n:Nod):Bool:=!badR n&&(!opR n&&allR (if n.kind=5∨n.kind=6 then nl else ns) g n)
section
variable {ns nl:Int} {g:Grf} {n:Nod}
theorem Qlz (h:(decide (n.kind≤(0:Int))||decide ((10:Int)≤n.kind)||decide (n.origin<(0:Int))||decide ((4096:Int)≤n.origin))=true):nodeR ns nl g n=false:=by
 unfold nodeR badR;rw [h];rfl
theorem Qju (h:opR n=true):nodeR ns nl g n=false:=by
 unfold nodeR;rw [h];simp
theorem Qjv (h:(decide (n.kind≤(0:Int))||decide ((10:Int)≤n.kind)||decide (n.origin<(0:Int))||decide ((4096:Int)≤n.origin))=false) (h2:(decide (n.kind=5)||decide (n.kind=6))=true) (h3:opR n=false):nodeR ns nl g n=allR nl g n:=by
 unfold nodeR badR;rw [h,h3,if_pos W128];rfl
theorem Qjw (h:(decide (n.kind≤(0:Int))||decide ((10:Int)≤n.kind)||decide (n.origin<(0:Int))||decide ((4096:Int)≤n.origin))=false) (h2:(decide (n.kind=5)||decide (n.kind=6))=false) (h3:opR n=false):nodeR ns nl g n=allR ns g n:=by
 unfold nodeR badR;rw [h,h3,if_neg W128];rfl
end
structure Nm where
 s:ByteArray
 deriving Inhabited,DecidableEq
def Nm.tl (x:Nm):List TC:=[.val (.string x.s)]
def Nm.tc (x:Nm):Nat→TC:=nthT x.tl
theorem Nm.flat (x:Nm):∀ j,j<1→flatT (x.tc j):=by
 intro j hj
 match j,hj with
 | 0,_=>exact ⟨_,rfl,rfl⟩
abbrev Nm.ownR (l:List Nm):Reg:=ownOf 9 1 Nm.tc l
structure Bo where
 b:Bool
 deriving Inhabited,DecidableEq
def Bo.tl (x:Bo):List TC:=[.val (.bool x.b)]
def Bo.tc (x:Bo):Nat→TC:=nthT x.tl
abbrev Bo.ownR (l:List Bo):Reg:=ownOf 4 1 Bo.tc l
def namR (w:Bool):List Dcl→List Nm→Option (List Nm)
 | [],A=>some A
 | d::r,A=>if (nameB d.name&&(w||decide (d.word=0))&&!A.contains ⟨d.name⟩)=true then namR w r (A++[⟨d.name⟩]) else none
theorem Qai {w:Bool} {l:List Dcl} {A:List Nm} {n:Nat} (h:n<l.length):namR w (l.drop n) A =
 if (nameB (l.getD n default).name&&(w||decide ((l.getD n default).word=0))&&!A.contains ⟨(l.getD n default).name⟩)=true then namR w (l.drop (n+1)) (A++[⟨(l.getD n default).name⟩]) else none:=by
 rw [List.drop_eq_getElem_cons h,List.getD_eq_getElem?_getD,List.getElem?_eq_getElem h];rfl
theorem Qcq {b:Bool} {A:List Nm} {k:Nat} {s:ByteArray} (h:k<A.length):(b&&!(A.take k).contains ⟨s⟩&&!decide ((A.getD k default).s=s))=(b&&!(A.take (k+1)).contains ⟨s⟩):=by
 rw [List.take_add_one,List.getElem?_eq_getElem h,List.getD_eq_getElem?_getD,List.getElem?_eq_getElem h]
 simp only [Option.toList,Option.getD_some,List.contains_append,Bool.not_or]
 have:decide ((A[k]).s=s)=[A[k]].contains ⟨s⟩:=by
  by_cases e:(A[k]).s=s
  ·have:A[k]=⟨s⟩:=by cases hx:A[k];rw [hx] at e;cases e;rfl
   rw [this];simp
  ·have:A[k]≠⟨s⟩:=fun q=>e (by rw [q])
   simp only [decide_eq_false e,List.contains_cons,List.contains_nil,Bool.or_false]
   exact (beq_eq_false_iff_ne.2 (Ne.symm this)).symm
 rw [this,Bool.and_assoc]
section
variable {w:Bool} {l:List Dcl} {A B:List Nm} {n:Nat}
theorem Qhp (hn:n<l.length) (hc:(nameB (l.getD n default).name&&(w||decide ((l.getD n default).word=0))&&!A.contains ⟨(l.getD n default).name⟩)=false):namR w (l.drop n) A=none:=by
 rw [Qai hn,if_neg (by rw [hc];decide)]
theorem Qhq (hn:n<l.length) (hc:(nameB (l.getD n default).name&&(w||decide ((l.getD n default).word=0))&&!A.contains ⟨(l.getD n default).name⟩)=true) :
 namR w (l.drop n) A=namR w (l.drop (n+1)) (A++[⟨(l.getD n default).name⟩]):=by
 rw [Qai hn,if_pos hc]
theorem Q5m {b:Bool} {k:Nat} {s:ByteArray} (h:A.length≤k):(b&&!(A.take k).contains ⟨s⟩)=(b&&!A.contains ⟨s⟩):=by rw [List.take_of_length_le h]
end
end Go.Proofs.YtmaodngbpfjnnaaGreat
namespace Go.Proofs.YtmaodngbpfjnnaaGreat
open Go Go.Tx
theorem Qjx {n:Nod} {x:Int} (h:x∈flwR n):x∈flwL n:=by
 unfold flwR at h
 unfold flwL
 split at h
 ·cases h
 ·rename_i h9
  rw [if_neg h9]
  split at h
  ·rename_i h8
   split
   ·exact h
   ·rename_i hn
    have e:n.els=n.next:=Classical.byContradiction fun q=>hn ⟨h8,q⟩
    rw [e] at h
    simpa using h
  ·rename_i h8
   rw [if_neg (fun q=>h8 q.1)];exact h
theorem Qjy (n:Nod):(flwR n).length≤2:=by unfold flwR;split<;>(try split)<;>simp
theorem Qm0 {now:List Int} {q:HL→HF→List Int→Int} {n:Int} {L:HL} {F:HF} {T:List Int} (hn:n.toNat<L.length):hIn now q [n,n] L F T=hIn now q [n] L F T:=by
 simp only [hIn]
 split
 ·rw [if_neg W148,if_pos]
  rw [List.getD_eq_getElem?_getD,List.getElem?_set_self hn];rfl
 ·split
  ·rfl
  ·rfl
theorem Qod {now:List Int} {q:HL→HF→List Int→Int} {nd:Nod} {L:HL} {F:HF} {T:List Int} (h:∀ x∈flwL nd,x.toNat<L.length):hIn now q (flwL nd) L F T=hIn now q (flwR nd) L F T:=by
 by_cases h8:nd.kind=8∧nd.els=nd.next
 ·have h9:¬ nd.kind=9:=by have:=h8.1;omega
  have e1:flwL nd=[nd.next]:=by unfold flwL;rw [if_neg h9,if_neg (fun q=>q.2 h8.2)]
  have e2:flwR nd=[nd.next,nd.next]:=by unfold flwR;rw [if_neg h9,if_pos h8.1,h8.2]
  rw [e1,e2,Qm0 (h _ (by rw [e1];exact .head _))]
 ·have:flwL nd=flwR nd:=by
   unfold flwL flwR
   split
   ·rfl
   ·split
    ·rename_i q;rw [if_pos q.1]
    ·rename_i q
     rw [if_neg (fun k=>q ⟨k,fun e=>h8 ⟨k,e⟩⟩)]
  rw [this]
def FM (ns:List Nod) (F:List Bo) (F':HF):Prop:=∀ x:Int,0≤x→x<(ns.length:Int)→(F.getD x.toNat default).b=(F' x).getD false
theorem FM.put {ns:List Nod} {F:List Bo} {F':HF} (h:FM ns F F') (hl:F.length=ns.length) {to:Int} (h0:0≤to) (h1:to<(ns.length:Int)):FM ns (F.set to.toNat ⟨true⟩) (fun a=>if a=to then some true else F' a):=by
 intro x hx0 hx1
 rw [List.getD_eq_getElem?_getD,List.getElem?_set]
 by_cases e:x=to
 ·subst e
  simp [show x.toNat<F.length by omega]
 ·show _=(if x=to then some true else F' x).getD false
  rw [if_neg W37,if_neg e,← List.getD_eq_getElem?_getD];exact h x hx0 hx1
structure RJ (ns:List Nod) (k:Int) (X:Ext) (V:List Hdl) (F:List Bo) (T:List Int):Prop where
 fl:F.length=ns.length
 ex:∃ F',FM ns F F'∧HJ ns k X V 0 F' T
structure RK (ns:List Nod) (k:Int) (nd:Nod) (vv:Value) (nw:List Int) (i:Int) (X:Ext) (V:List Hdl) (F:List Bo) (T:List Int):Prop where
 i0:0≤i
 il:i≤((flwR nd).length:Int)
 k0:0≤k
 kn:k<(ns.length:Int)
 fl:F.length=ns.length
 all:Alls X V
 isv:Is X vv
 nv:rd X vv=nw
 nl:nw.length≤k.toNat+1
 ex:∃ F',FM ns F F'∧HInv ns.length (k.toNat+1) (rds X V) F' T∧heldF ns=hIn nw (hOut ns (ns.length-k.toNat) (k.toNat+1)) ((flwR nd).drop i.toNat) (rds X V) F' T
theorem HJ.zero {ns:List Nod} {k:Int} {X:Ext} {V:List Hdl} {n:Nat} {F:HF} {T:List Int} (h:HJ ns k X V n F T):HJ ns k X V 0 F T:=⟨h.k0,h.kn,h.inv,h.all,Nat.zero_le _,h.run⟩
theorem RJ.start {ns:List Nod} (h:1≤ns.length) (X:Ext):RJ ns 0 X (List.replicate ns.length Hdl.none) ((List.replicate ns.length ⟨false⟩).set 0 ⟨true⟩) [0]:=by
 refine ⟨by simp,_,?_,HJ.start h X |>.zero⟩
 intro x h0 h1
 rw [List.getD_eq_getElem?_getD,List.getElem?_set]
 by_cases e:x=0
 ·subst e;simp [show 0<ns.length by omega]
 ·show _=(if x=0 then some true else none).getD false
  rw [if_neg W37,if_neg e,List.getElem?_replicate,if_pos W37];rfl
section
variable {ns:List Nod} {k:Int} {X:Ext} {V:List Hdl} {F:List Bo} {T:List Int}
theorem RJ.k0 (h:RJ ns k X V F T):0≤k:=by obtain ⟨_,_,h⟩:=h.ex;exact h.k0
theorem RJ.kn (h:RJ ns k X V F T):k≤(ns.length:Int):=by obtain ⟨_,_,h⟩:=h.ex;exact h.kn
theorem RJ.len (h:RJ ns k X V F T):V.length=ns.length:=by obtain ⟨_,_,h⟩:=h.ex;exact h.len
theorem RJ.at_ (h:RJ ns k X V F T) (hk:k<(T.length:Int)):0≤T.getD k.toNat 0∧T.getD k.toNat 0<(ns.length:Int):=by obtain ⟨_,_,h⟩:=h.ex;exact h.at_ hk
theorem RJ.most (h:RJ ns k X V F T):T.length≤ns.length:=by obtain ⟨_,_,h⟩:=h.ex;exact h.most
theorem RJ.is (h:RJ ns k X V F T) (hk:k<(T.length:Int)):Is X (V.getD (T.getD k.toNat 0).toNat default).v:=by obtain ⟨_,_,h⟩:=h.ex;exact h.is hk
theorem RJ.short (h:RJ ns k X V F T) (hk:k<(T.length:Int)):(rd X (.slice (V.getD (T.getD k.toNat 0).toNat default).a (V.getD (T.getD k.toNat 0).toNat default).n (V.getD (T.getD k.toNat 0).toNat default).c)).length≤k.toNat:=by obtain ⟨_,_,h⟩:=h.ex;exact h.short hk
theorem RJ.fault (h:RJ ns k X V F T) (hk:k<(T.length:Int)) {l:List Int} (hl:l=rd X (V.getD (T.getD k.toNat 0).toNat default).v) (hn:nowH (ns.getD (T.getD k.toNat 0).toNat default) l=none):heldF ns=T.getD k.toNat 0:=by
 obtain ⟨_,_,h⟩:=h.ex;subst hl;exact h.fault hk hn
theorem RJ.done (h:RJ ns k X V F T) (hk:¬ k<(T.length:Int)):heldF ns=-1:=by obtain ⟨_,_,h⟩:=h.ex;exact h.done hk
theorem RJ.inner (h:RJ ns k X V F T) (hk:k<(T.length:Int)) (hq:∀ x∈flwL (ns.getD (T.getD k.toNat 0).toNat default),0≤x∧x<(ns.length:Int)) {X':Ext} {vv:Value} (hin:X.Into X') (his:Is X' vv)
 (hn:nowH (ns.getD (T.getD k.toNat 0).toNat default) (rd X (V.getD (T.getD k.toNat 0).toNat default).v)=some (rd X' vv)) :
 RK ns k (ns.getD (T.getD k.toNat 0).toNat default) vv (rd X' vv) 0 X' V F T:=by
 have fl:=h.fl
 obtain ⟨F',hf,h⟩:=h.ex
 have hk':=h.inner hk hn
 have ha:=Qa2 hin h.all
 refine ⟨Int.le_refl _,by omega,h.k0,hk'.kn,fl,ha.1,his,rfl,hk'.nl,F',hf,by rw [ha.2];exact hk'.inv,?_⟩
 rw [ha.2,hk'.run]
 exact Qod (fun x hx=>by have:=hq x hx;rw [Q5h,h.len];omega)
end
section
variable {ns:List Nod} {k:Int} {nd:Nod} {vv:Value} {nw:List Int} {i:Int} {X:Ext} {V:List Hdl} {F:List Bo} {T:List Int}
theorem RK.len (h:RK ns k nd vv nw i X V F T):V.length=ns.length:=by obtain ⟨_,_,h,_⟩:=h.ex;rw [← Q5h X V];exact h.len
theorem RK.most (h:RK ns k nd vv nw i X V F T):T.length≤ns.length:=by obtain ⟨_,_,h,_⟩:=h.ex;exact h.le
theorem RK.to_ (h:RK ns k nd vv nw i X V F T) (hi:i<((flwR nd).length:Int)) (hq:∀ x∈flwL nd,0≤x∧x<(ns.length:Int)):0≤(flwR nd).getD i.toNat 0∧(flwR nd).getD i.toNat 0<(ns.length:Int):=by
 have h0:=h.i0
 have hlt:i.toNat<(flwR nd).length:=by omega
 rw [List.getD_eq_getElem?_getD,List.getElem?_eq_getElem hlt]
 exact hq _ (Qjx (List.getElem_mem hlt))
theorem RK.drop (h:RK ns k nd vv nw i X V F T) (hi:i<((flwR nd).length:Int)):(flwR nd).drop i.toNat=(flwR nd).getD i.toNat 0::(flwR nd).drop (i.toNat+1):=by
 have h0:=h.i0
 have hlt:i.toNat<(flwR nd).length:=by omega
 rw [List.drop_eq_getElem_cons hlt,List.getD_eq_getElem?_getD,List.getElem?_eq_getElem hlt];rfl
theorem RK.is (h:RK ns k nd vv nw i X V F T) {to:Int} (h0:0≤to∧to<(ns.length:Int)):Is X (V.getD to.toNat default).v:=Q78 h.all (by have:=h.len;omega)
theorem RK.short (h:RK ns k nd vv nw i X V F T) {to:Int} (h0:0≤to∧to<(ns.length:Int)):(rd X (V.getD to.toNat default).v).length≤k.toNat+1:=by
 have hl:=h.len
 obtain ⟨_,_,hi,_⟩:=h.ex
 rw [← Q11 X V _ W37];exact hi.short _
theorem RK.put (h:RK ns k nd vv nw i X V F T) (hi:i<((flwR nd).length:Int)) (hq:∀ x∈flwL nd,0≤x∧x<(ns.length:Int)) (hf:(!(F.getD ((flwR nd).getD i.toNat 0).toNat default).b)=true) {A:Option Addr} {n c:Nat} (hv:vv=.slice A n c) :
 RK ns k nd vv nw (i+1) X (V.set ((flwR nd).getD i.toNat 0).toNat ⟨A,n,c⟩) (F.set ((flwR nd).getD i.toNat 0).toNat ⟨true⟩) (T++[(flwR nd).getD i.toNat 0]):=by
 have h0:=h.to_ hi hq
 have e:=h.i0
 have hfl:=h.fl
 have hd:=h.drop hi
 have hnl:=h.nl
 obtain ⟨F',hm,hinv,hrun⟩:=h.ex
 have hf':(F' ((flwR nd).getD i.toNat 0)).getD false=false:=by rw [← hm _ h0.1 h0.2];simpa using hf
 have hv':vv=(⟨A,n,c⟩:Hdl).v:=hv
 have hr:rds X (V.set ((flwR nd).getD i.toNat 0).toNat ⟨A,n,c⟩)=(rds X V).set ((flwR nd).getD i.toNat 0).toNat nw:=by
  unfold rds;rw [List.map_set,← hv',h.nv]
 refine ⟨by omega,by omega,h.k0,h.kn,by rw [List.length_set];exact hfl,fun x hx=>?_,h.isv,h.nv,hnl,_,hm.put hfl h0.1 h0.2,by rw [hr];exact hinv.put hf' h0.1 h0.2 hnl,?_⟩
 ·rcases List.mem_or_eq_of_mem_set hx with hx | rfl
  ·exact h.all x hx
  ·rw [← hv'];exact h.isv
 ·rw [hrun,hd,hIn,if_pos hf',hr,show (i+1).toNat=i.toNat+1 by omega]
theorem RK.skip (h:RK ns k nd vv nw i X V F T) (hi:i<((flwR nd).length:Int)) (hq:∀ x∈flwL nd,0≤x∧x<(ns.length:Int)) (hf:(!(F.getD ((flwR nd).getD i.toNat 0).toNat default).b)=false)
 (he:(!decide (rd X (V.getD ((flwR nd).getD i.toNat 0).toNat default).v=rd X vv))=false):RK ns k nd vv nw (i+1) X V F T:=by
 have h0:=h.to_ hi hq
 have e:=h.i0
 have hd:=h.drop hi
 have hl:=h.len
 have he:rd X (V.getD ((flwR nd).getD i.toNat 0).toNat default).v=nw:=by rw [← h.nv];simpa using he
 obtain ⟨F',hm,hinv,hrun⟩:=h.ex
 have hf':(F' ((flwR nd).getD i.toNat 0)).getD false=true:=by rw [← hm _ h0.1 h0.2];simpa using hf
 refine ⟨by omega,by omega,h.k0,h.kn,h.fl,h.all,h.isv,h.nv,h.nl,F',hm,hinv,?_⟩
 rw [hrun,hd,hIn,if_neg (by rw [hf'];decide),Q11 X V _ W37,if_pos he,show (i+1).toNat=i.toNat+1 by omega]
theorem RK.fault (h:RK ns k nd vv nw i X V F T) (hi:i<((flwR nd).length:Int)) (hq:∀ x∈flwL nd,0≤x∧x<(ns.length:Int)) (hf:(!(F.getD ((flwR nd).getD i.toNat 0).toNat default).b)=false)
 (he:(!decide (rd X (V.getD ((flwR nd).getD i.toNat 0).toNat default).v=rd X vv))=true):heldF ns=(flwR nd).getD i.toNat 0:=by
 have h0:=h.to_ hi hq
 have hd:=h.drop hi
 have hl:=h.len
 have he:¬ rd X (V.getD ((flwR nd).getD i.toNat 0).toNat default).v=nw:=by rw [← h.nv];simpa using he
 obtain ⟨F',hm,hinv,hrun⟩:=h.ex
 have hf':(F' ((flwR nd).getD i.toNat 0)).getD false=true:=by rw [← hm _ h0.1 h0.2];simpa using hf
 rw [hrun,hd,hIn,if_neg (by rw [hf'];decide),Q11 X V _ W37,if_neg he]
theorem RK.done (h:RK ns k nd vv nw i X V F T) (hi:¬ i<((flwR nd).length:Int)):RJ ns (k+1) X V F T:=by
 have h1:=h.il
 have h2:=h.k0
 have h3:=h.kn
 obtain ⟨F',hm,hinv,hrun⟩:=h.ex
 refine ⟨h.fl,F',hm,by omega,by omega,by rw [show (k+1).toNat=k.toNat+1 by omega];exact hinv,h.all,Nat.zero_le _,?_⟩
 rw [hrun,List.drop_eq_nil_of_le W37,hIn,show (k+1).toNat=k.toNat+1 by omega,show ns.length+1-(k.toNat+1)=ns.length-k.toNat by omega]
end
theorem Q7e {X:Ext} {v:Value} {n:Nat} {f:Nat→Nat→TC} (h:X.Tab v 1 n f) {l:List Int} (hl:l.length=n) (hf:∀ i,i<n→f i 0=i64T (l.getD i 0) 0):Is X v∧rd X v=l:=by
 have:X.Tab v 1 l.length (fun j=>i64T (l.getD j 0)):=by
  obtain ⟨A,c,e1,h1,h2,h3,h4⟩:=h
  subst hl
  refine ⟨A,c,e1,h1,h2,h3,fun hn=>?_⟩
  obtain ⟨ad,e2,h5⟩:=h4 hn
  refine ⟨ad,e2,fun i j hi hj=>?_⟩
  obtain ⟨u,k1,k2⟩:=h5 i j hi hj
  have hj0:j=0:=by omega
  subst hj0
  refine ⟨u,k1,?_⟩
  rw [hf i hi] at k2
  exact k2
 exact ⟨⟨l,this⟩,Qba this⟩
theorem Qhr {l:List Int} {x:Int} {i:Nat} (hi:i<l.length+1):(if i=l.length then i64T x else i64T (l.getD i (0:Int))) 0=i64T ((l++[x]).getD i 0) 0:=by
 exact congrFun (Y5 (0:Int) i64T l x i W162).symm 0
theorem Qhs {l:List Int} {m i:Nat} (hi:i<m):i64T (l.getD i (0:Int)) 0=i64T ((List.take m (List.drop 0 l)).getD i 0) 0:=by
 rw [List.drop_zero,List.getD_eq_getElem?_getD,List.getD_eq_getElem?_getD,List.getElem?_take_of_lt hi]
theorem Qht (l:List Bo) (k:Nat) (x:Bo):∀ i,i<(l.set k x).length→Bo.tc ((l.set k x).getD i default)=updT (fun i=>Bo.tc (l.getD i default)) k 0 [.bool x.b] i:=
 Q76 default Bo.tc l k 0 x _ (fun j=>by rcases j with _ | j<;>simp [Bo.tc,Bo.tl,nthT,nth])
theorem Qm1 {n:Nat}:∀ i,i<((List.replicate n (Bo.mk false)).set 0 ⟨true⟩).length→Bo.tc (((List.replicate n (Bo.mk false)).set 0 ⟨true⟩).getD i default)=updT (fun _ j=>valT [Value.bool false] j) 0 0 [Value.bool true] i:=by
 intro i hi
 rw [Qht _ _ _ i hi]
 have hi:i<n:=by simpa using hi
 unfold updT
 funext j
 have e:(List.replicate n (Bo.mk false)).getD i default=⟨false⟩:=by rw [List.getD_eq_getElem?_getD,List.getElem?_replicate,if_pos hi];rfl
 simp only [e]
 first | rfl | (split<;>first | rfl | (rcases j with _ | j<;>rfl))
theorem Qjz {f g:Nat→Nat→TC} (i:Nat):(fun j=>if i<0 then f i j else g (i-0) j)=g i:=by
 funext j;rw [if_neg W37];rfl
end Go.Proofs.YtmaodngbpfjnnaaGreat
namespace Go.Proofs.YtmaodngbpfjnnaaGreat
open Go Go.Tx
theorem Qfy (p k h m:Int):withinP p k h m=numR k (usesB p h) m:=by
 unfold withinP numR;cases usesB p h<;>simp
theorem Qhu (p s:Int) (v:Vl) (h:Int):valueP p s v h=valR v (usesB p h) s:=by
 unfold valueP valR;cases usesB p h<;>simp
section
variable {n:Nod}
theorem Qnd (hk:1≤n.kind∧n.kind≤9):usesB (prtN n) 1=decide (n.kind=1):=by
 have q:n.kind=1∨n.kind=2∨n.kind=3∨n.kind=4∨n.kind=5∨n.kind=6∨n.kind=7∨n.kind=8∨n.kind=9:=by omega
 unfold prtN
 rcases q with q | q | q | q | q | q | q | q | q<;>rw [q]<;>(cases twoB n.op)<;>rfl
theorem Qne (hk:1≤n.kind∧n.kind≤9):usesB (prtN n) 2=uS n.kind:=by
 have q:n.kind=1∨n.kind=2∨n.kind=3∨n.kind=4∨n.kind=5∨n.kind=6∨n.kind=7∨n.kind=8∨n.kind=9:=by omega
 unfold prtN
 rcases q with q | q | q | q | q | q | q | q | q<;>rw [q]<;>(cases twoB n.op)<;>rfl
theorem Qnf (hk:1≤n.kind∧n.kind≤9):usesB (prtN n) 4=uT n.kind:=by
 have q:n.kind=1∨n.kind=2∨n.kind=3∨n.kind=4∨n.kind=5∨n.kind=6∨n.kind=7∨n.kind=8∨n.kind=9:=by omega
 unfold prtN
 rcases q with q | q | q | q | q | q | q | q | q<;>rw [q]<;>(cases twoB n.op)<;>rfl
theorem Qng (hk:1≤n.kind∧n.kind≤9):usesB (prtN n) 8=uA n.kind:=by
 have q:n.kind=1∨n.kind=2∨n.kind=3∨n.kind=4∨n.kind=5∨n.kind=6∨n.kind=7∨n.kind=8∨n.kind=9:=by omega
 unfold prtN
 rcases q with q | q | q | q | q | q | q | q | q<;>rw [q]<;>(cases twoB n.op)<;>rfl
theorem Qm2 (hk:1≤n.kind∧n.kind≤9):usesB (prtN n) 16=(decide (n.kind=1)&&twoB n.op):=by
 have q:n.kind=1∨n.kind=2∨n.kind=3∨n.kind=4∨n.kind=5∨n.kind=6∨n.kind=7∨n.kind=8∨n.kind=9:=by omega
 unfold prtN
 rcases q with q | q | q | q | q | q | q | q | q<;>rw [q]<;>(cases twoB n.op)<;>rfl
theorem Qm3 (hk:1≤n.kind∧n.kind≤9):usesB (prtN n) 32=uN n.kind:=by
 have q:n.kind=1∨n.kind=2∨n.kind=3∨n.kind=4∨n.kind=5∨n.kind=6∨n.kind=7∨n.kind=8∨n.kind=9:=by omega
 unfold prtN
 rcases q with q | q | q | q | q | q | q | q | q<;>rw [q]<;>(cases twoB n.op)<;>rfl
theorem Qm4 (hk:1≤n.kind∧n.kind≤9):usesB (prtN n) 64=decide (n.kind=8):=by
 have q:n.kind=1∨n.kind=2∨n.kind=3∨n.kind=4∨n.kind=5∨n.kind=6∨n.kind=7∨n.kind=8∨n.kind=9:=by omega
 unfold prtN
 rcases q with q | q | q | q | q | q | q | q | q<;>rw [q]<;>(cases twoB n.op)<;>rfl
theorem Qnh (ho:0≤n.op):numR n.op (decide (n.kind=1)) 19=!opR n:=by
 unfold numR opR
 by_cases h:n.kind=1
 ·simp only [h,decide_true,if_true,Bool.true_and,Bool.not_true,Bool.false_and,Bool.or_false,decide_eq_true ho]
  by_cases h2:n.op<19
  ·rw [decide_eq_true h2,decide_eq_false W37];rfl
  ·rw [decide_eq_false h2,decide_eq_true W37];rfl
 ·simp [h]
theorem Qk0 {ns nl:Int} {g:Grf} (hk:0≤n.kind) (ho:0≤n.op):nodeR ns nl g n=rightN ns nl g n:=by
 by_cases hb:badR n=true
 ·have h2:(decide (n.kind=0)||decide (10≤n.kind)||decide (n.origin<0)||decide (4096≤n.origin))=true:=by
   unfold badR at hb;simp only [Bool.or_eq_true,decide_eq_true_eq] at hb ⊢;omega
  rw [Q8k h2];unfold nodeR;rw [hb];rfl
 ·have hb:badR n=false:=by simpa using hb
  have h2:(decide (n.kind=0)||decide (10≤n.kind)||decide (n.origin<0)||decide (4096≤n.origin))=false:=by
   unfold badR at hb;simp only [Bool.or_eq_false_iff,decide_eq_false_iff_not] at hb ⊢;omega
  have hk9:1≤n.kind∧n.kind≤9:=by
   simp only [Bool.or_eq_false_iff,decide_eq_false_iff_not] at h2;omega
  unfold nodeR rightN
  rw [hb,h2]
  simp only [Qfy,Qhu,Qnd hk9,Qne hk9,Qnf hk9,Qng hk9,Qm2 hk9,Qm3 hk9,Qm4 hk9,Qnh ho,allR,Bool.not_false,Bool.true_and]
  ac_rfl
end
def DM (A:List Nm) (D:ByteArray→Option Bool):Prop:=∀ s,(D s).getD false=A.contains ⟨s⟩
theorem DM.put {A:List Nm} {D:ByteArray→Option Bool} (h:DM A D) (s:ByteArray):DM (A++[⟨s⟩]) (fun q=>if q=s then some true else D q):=by
 intro t
 show (if t=s then some true else D t).getD false=_
 rw [List.contains_append]
 split
 ·rename_i e;subst e;simp
 ·rename_i e
  rw [h t]
  have:([⟨s⟩]:List Nm).contains ⟨t⟩=false:=by
   simp only [List.contains_cons,List.contains_nil,Bool.or_false]
   exact beq_eq_false_iff_ne.2 (fun q=>e (congrArg Nm.s q))
  rw [this,Bool.or_false]
def nmW (w:Bool) (l:List Dcl):List (ByteArray×Bool):=l.map fun d=>(d.name,w||decide (d.word=0))
theorem Q5n {w:Bool} {R:List (ByteArray×Bool)}:∀ {l:List Dcl} {A:List Nm} {D:ByteArray→Option Bool},DM A D →
 (namR w l A=none→goN (nmW w l++R) D=false)∧(∀ A',namR w l A=some A'→∃ D',DM A' D'∧goN (nmW w l++R) D=goN R D')
 | [],A,D,h=>⟨fun q=>(by cases q),fun A' q=>(by cases q;exact ⟨D,h,rfl⟩)⟩
 | d::r,A,D,h=>by
   have e:goN (nmW w (d::r)++R) D=if (nameB d.name&&!(D d.name).getD false)=true∧(w||decide (d.word=0))=true then goN (nmW w r++R) (fun q=>if q=d.name then some true else D q) else false:=rfl
   have e2:namR w (d::r) A=if (nameB d.name&&(w||decide (d.word=0))&&!A.contains ⟨d.name⟩)=true then namR w r (A++[⟨d.name⟩]) else none:=rfl
   by_cases hc:(nameB d.name&&(w||decide (d.word=0))&&!A.contains ⟨d.name⟩)=true
   ·rw [e,e2,if_pos hc,if_pos (by
     simp only [Bool.and_eq_true] at hc ⊢
     rw [h d.name];exact ⟨⟨hc.1.1,hc.2⟩,hc.1.2⟩)]
    exact Q5n (h.put d.name)
   ·rw [e,e2,if_neg hc,if_neg (by
     rintro ⟨q1,q2⟩
     rw [h d.name] at q1
     simp only [Bool.and_eq_true] at hc q1
     exact hc ⟨⟨q1.1,q2⟩,q1.2⟩)]
    exact ⟨fun _=>rfl,fun A' q=>by cases q⟩
def thrL (gs:List Grf):List Dcl:=gs.map fun g=>⟨g.name,0,0⟩
theorem Qoe (l:List Dcl):nmW true l=nmS l:=by unfold nmW nmS;simp
theorem Qof (l:List Dcl):nmW false l=nmL l:=by unfold nmW nmL;simp
theorem Qog (l:List Grf):nmW false (thrL l)=nmG l:=by unfold nmW thrL nmG;simp
def namA (sh lk:List Dcl) (gs:List Grf):Bool:=
 (namR true sh []).isSome&&(namR false lk ((namR true sh []).getD [])).isSome&&(namR false (thrL gs) ((namR false lk ((namR true sh []).getD [])).getD [])).isSome
theorem Qhv (sh lk:List Dcl) (gs:List Grf):goN (nmS sh++(nmL lk++nmG gs)) (fun _=>none)=namA sh lk gs:=by
 unfold namA
 rw [← Qoe,← Qof,← Qog]
 have h0:DM [] (fun _=>none):=fun s=>rfl
 have g1:=Q5n (w:=true) (R:=nmW false lk++nmW false (thrL gs)) (l:=sh) h0
 cases h1:namR true sh [] with
 | none=>rw [g1.1 h1];rfl
 | some A1 =>
   obtain ⟨D1,d1,e1⟩:=g1.2 A1 h1
   rw [e1]
   have g2:=Q5n (w:=false) (R:=nmW false (thrL gs)) (l:=lk) d1
   simp only [Option.isSome_some,Option.getD_some,Bool.true_and]
   cases h2:namR false lk A1 with
   | none=>rw [g2.1 h2];rfl
   | some A2 =>
     obtain ⟨D2,d2,e2⟩:=g2.2 A2 h2
     rw [e2]
     have g3:=Q5n (w:=false) (R:=[]) (l:=thrL gs) d2
     rw [List.append_nil] at g3
     simp only [Option.isSome_some,Option.getD_some,Bool.true_and]
     cases h3:namR false (thrL gs) A2 with
     | none=>rw [g3.1 h3];rfl
     | some A3 =>
       obtain ⟨D3,_,e3⟩:=g3.2 A3 h3
       rw [e3];rfl
theorem Qaj {ns nl:Int} {g:Grf} {n:Nod} {b:Bool} (h:(!nodeR ns nl g n)=b) (hk:0≤n.kind∧0≤n.op∧n.op≤255):(!rightN ns nl g n)=b:=by rw [← Qk0 hk.1 hk.2.1];exact h
theorem Qk1 {gs:List Grf} {k:Nat} (h:k<gs.length):thrL (gs.take k)++[⟨(gs.getD k default).name,0,0⟩]=thrL (gs.take (k+1)):=by
 rw [← Yv h];unfold thrL;rw [List.map_append];rfl
theorem Qk2 {gs:List Grf} (hg:∀ j:Nat,(gs.getD j default).name.size≤maxLen) (j:Nat):((thrL gs).getD j default).name.size≤maxLen:=by
 have:=hg j
 unfold thrL
 rw [List.getD_eq_getElem?_getD] at this ⊢
 rw [List.getElem?_map]
 cases h:gs[j]? with
 | none=>exact Nat.zero_le _
 | some g=>rw [h] at this;exact this
theorem Q7f {w:Bool}:∀ {l:List Dcl} {A:List Nm},((namR w l A).getD []).length≤A.length+l.length
 | [],A=>by simp [namR]
 | d::r,A=>by
   unfold namR
   split
   ·have:=@Q7f w r (A++[⟨d.name⟩])
    simp only [List.length_append,List.length_cons,List.length_nil] at this ⊢
    omega
   ·simp
section
variable {sh lk:List Dcl} {gs:List Grf} {l:List Dcl} {b:Bool}
theorem Qes (h:(decide ((64:Int)<(sh.length:Int))||decide ((16:Int)<(lk.length:Int))||decide ((8:Int)<(gs.length:Int)))=false) (hl:l=thrL gs)
 (h2:(!(namR true sh []).isSome||!(namR false lk ((namR true sh []).getD [])).isSome||!(namR false l ((namR false lk ((namR true sh []).getD [])).getD [])).isSome)=b):(!namedB sh lk gs)=b:=by
 subst hl h2
 rw [Q0i h,Qhv];unfold namA
 simp only [Bool.not_and]
end
end Go.Proofs.YtmaodngbpfjnnaaGreat
noncomputable section
namespace Go.Proofs.YtmaodngbpfjnnaaGreat
open Go Go.Tx
abbrev z103_2 (l:List Dcl):=rowOf 3 (·.tc) l
def L96_80 (l:List Dcl) (A:List Nm) (w:Bool):Lp (Int×Bool×List Nm):=⟨fun x=>{ N:=64,fr:=[se 8 (C.i .i64 x.1),se 7 (C.b x.2.1),se 6 (C.v (Value.slice none 0 0)),se 0 (C.h 0),se 1 (C.h 2),se 2 (C.b w)],rg:=[z103_2 l,Reg.dead]++[Nm.ownR x.2.2],wr:=[] },fun x=>0≤x.1∧x.1≤(l.length:Int)∧(x.2.2.length:Int)=A.length+x.1∧namR w l A=namR w (l.drop x.1.toNat) x.2.2,fun x=>((l.length:Int)-x.1).toNat⟩
def L96_81 (l:List Dcl) (w:Bool) (x1_0:Int) (x1_1:Bool) (x1_2:List Nm):Lp (Int×Bool):=⟨fun x=>{ N:=64,fr:=[se 10 (C.i .i64 x.1),se 9 (C.b x.2),se 8 (C.i .i64 x1_0),se 7 (C.b x1_1),se 6 (C.v (Value.slice none 0 0)),se 0 (C.h 0),se 1 (C.h 2),se 2 (C.b w)],rg:=[z103_2 l,Reg.dead,ownOf 9 1 (·.tc) x1_2],wr:=[] },fun x=>0≤x.1∧x.1≤(x1_2.length:Int)∧x.2=((nameB (l.getD x1_0.toNat default).name&&(w||decide ((l.getD x1_0.toNat default).word=(0:Int))))&&!(x1_2.take x.1.toNat).contains ⟨(l.getD x1_0.toNat default).name⟩),fun x=>((x1_2.length:Int)-x.1).toNat⟩
abbrev z103_1 (l:List Dcl) (x1_0:Int):=[Nm.mk (l.getD x1_0.toNat default).name]
theorem Qak (l:List Dcl) (A:List Nm) (w:Bool) (hs:∀ j:Nat,(l.getD j default).name.size≤maxLen) (hA:l.length+A.length≤100):Ctr Tryz.prog 85 [Dcl.rowR l,Nm.ownR A] [.c (.h 0),.c (.h 1),.c (.b w)]
 (Det (.tup [(false,[.h 2]),(false,[.b (namR w l A).isSome])]) [.dead,.dead,Nm.ownR ((namR w l A).getD [])]):=by
 refine Ctr.intro [] Tryz.func85 K K ?_
 refine Qb (L96_80 l A w) (((0:Int),false,A)) ⟨by omega,by omega,by simp,rfl⟩ ?_ [0,1,1]
 rintro ⟨x1_0,x1_1,x1_2⟩ hJ1
 dsimp only [L96_80] at hJ1
 refine tz [8,7,6,0,1,2] ?_
 refine Q0 (decide (x1_0<(↑l.length:Int))) (fun h2=>?_) (fun h2=>?_)
 ·refine tz [8,7,6,0,1,2] ?_
  refine Q2 Gn (Q3h ((l.getD x1_0.toNat default).name)) [] ?_ (vc:=[(0:Int)≤x1_0,x1_0<(↑l.length:Int),x1_0.toNat<l.length]) (hv:=W48)
  refine tz [22,8,7,6,0,1,2] ?_
  refine Qb (L96_81 l w x1_0 x1_1 x1_2) (((0:Int),nameB (l.getD x1_0.toNat default).name&&(w||decide ((l.getD x1_0.toNat default).word=(0:Int))))) ⟨by omega,by omega,by simp⟩ ?_ (vc:=[nameB (l.getD x1_0.toNat default).name=true→w=false→(0:Int)≤x1_0,nameB (l.getD x1_0.toNat default).name=true→w=false→x1_0<(↑l.length:Int),nameB (l.getD x1_0.toNat default).name=true→w=false→x1_0.toNat<l.length]) (hv:=W48)
  rintro ⟨x3_0,x3_1⟩ hJ3
  dsimp only [L96_81] at hJ3
  refine tz [10,9,8,7,6,0,1,2] ?_
  refine Q0 (decide (x3_0<(↑x1_2.length:Int))) (fun h4=>?_) (fun h4=>?_)
  ·exact Q6 (L96_81 l w x1_0 x1_1 x1_2) (x3_0,x3_1) ((x3_0+(1:Int),x3_1&&!decide ((x1_2.getD x3_0.toNat default).s=(l.getD x1_0.toNat default).name))) (by dsimp only [L96_81];have q:=of_decide_eq_true h4;have z:=hJ3.1;omega) (by dsimp only [L96_81];obtain ⟨q0,q1,q3⟩:=hJ3;have q:=of_decide_eq_true h4;refine ⟨by omega,by omega,?_⟩;rw [show (x3_0+1).toNat=x3_0.toNat+1 by omega,← Qcq (by omega),← q3]) (vc:=[x3_1=true→(0:Int)≤x3_0,x3_1=true→x3_0<(↑x1_2.length:Int),x3_1=true→x3_0.toNat<x1_2.length,x3_1=true→(0:Int)≤x1_0,x3_1=true→x1_0<(↑l.length:Int),x3_1=true→x1_0.toNat<l.length,Fits IntKind.i64 (x3_0+(1:Int))]) (hv:=W48)
  ·refine tz [10,9,8,7,6,0,1,2] ?_
   refine Q0 (!x3_1) (fun h5=>?_) (fun h5=>?_)
   ·exact Q1 [0,1,1000002] [0,1] [((namR w l A).getD []).length=0,(namR w l A).isSome=false] W82
   ·exact Q1e (L96_80 l A w) (x1_0,x1_1,x1_2) ((x1_0+(1:Int),x1_1,x1_2++(z103_1 l x1_0))) (by dsimp only [L96_80];have q:=of_decide_eq_true h2;have z:=hJ1.1;omega) (by dsimp only [L96_80];obtain ⟨k0,k1,k2,k3⟩:=hJ1;obtain ⟨q0,q1,q3⟩:=hJ3;have q:=of_decide_eq_true h2;refine ⟨by omega,by omega,by simp;omega,?_⟩;rw [show (x1_0+1).toNat=x1_0.toNat+1 by omega,k3];refine Qhq (by omega) ?_;rw [← Q5m (k:=x3_0.toNat) (by have:=of_decide_eq_false h4;omega),← q3];simpa using h5) [(4,(Nm.tc ⟨(l.getD x1_0.toNat default).name⟩))] [0,1,4] [2,3] [(x1_2++(z103_1 l x1_0)).length=x1_2.length+1,∀ (i:Nat),i<(x1_2++(z103_1 l x1_0)).length→((x1_2++(z103_1 l x1_0)).getD i default).tc=if i=x1_2.length then (Nm.mk (l.getD x1_0.toNat default).name).tc else (x1_2.getD i default).tc] W45 (vc:=[(0:Int)≤x1_0,x1_0<(↑l.length:Int),x1_0.toNat<l.length,x1_2.length+1≤maxLen,(x1_2.length+1) * 16≤140737488355328,Fits IntKind.i64 (x1_0+(1:Int))]) (hv:=W48) (vc2:=[Value.string (l.getD x1_0.toNat default).name=Value.string (l.getD x1_0.toNat default).name]) (hv2:=W135)
 ·exact Q1 [] [0,1,2] [((namR w l A).getD []).length=x1_2.length,∀ (i:Nat),i<((namR w l A).getD []).length→(((namR w l A).getD []).getD i default).tc=(x1_2.getD i default).tc,(namR w l A).isSome=true] W82
def L96_90 (l:List Dcl) (w:Bool):Lp (Int×Bool×List Nm):=⟨fun x=>{ N:=64,fr:=[se 8 (C.i .i64 x.1),se 7 (C.b x.2.1),se 6 (C.v (Value.slice none 0 0)),se 0 (C.h 0),se 1 (C.h 1),se 2 (C.b w)],rg:=[z103_2 l]++[Nm.ownR x.2.2],wr:=[] },fun x=>0≤x.1∧x.1≤(l.length:Int)∧(x.2.2.length:Int)=x.1∧namR w l []=namR w (l.drop x.1.toNat) x.2.2,fun x=>((l.length:Int)-x.1).toNat⟩
def L96_91 (l:List Dcl) (w:Bool) (x1_0:Int) (x1_1:Bool) (x1_2:List Nm):Lp (Int×Bool):=⟨fun x=>{ N:=64,fr:=[se 10 (C.i .i64 x.1),se 9 (C.b x.2),se 8 (C.i .i64 x1_0),se 7 (C.b x1_1),se 6 (C.v (Value.slice none 0 0)),se 0 (C.h 0),se 1 (C.h 1),se 2 (C.b w)],rg:=[z103_2 l,ownOf 9 1 (·.tc) x1_2],wr:=[] },fun x=>0≤x.1∧x.1≤(x1_2.length:Int)∧x.2=((nameB (l.getD x1_0.toNat default).name&&(w||decide ((l.getD x1_0.toNat default).word=(0:Int))))&&!(x1_2.take x.1.toNat).contains ⟨(l.getD x1_0.toNat default).name⟩),fun x=>((x1_2.length:Int)-x.1).toNat⟩
theorem Qfz (l:List Dcl) (w:Bool) (hs:∀ j:Nat,(l.getD j default).name.size≤maxLen) (hA:l.length≤100):Ctr Tryz.prog 85 [Dcl.rowR l] [.c (.h 0),.c (.v (.slice none 0 0)),.c (.b w)]
 (Det (.tup [(false,[.h 1]),(false,[.b (namR w l []).isSome])]) [.dead,Nm.ownR ((namR w l []).getD [])]):=by
 refine Ctr.intro [] Tryz.func85 K K ?_
 refine Qb (L96_90 l w) (((0:Int),false,[])) ⟨by omega,by omega,by simp,rfl⟩ ?_ [0,1000001] [2] [(0:Nat)=0] W0
 rintro ⟨x1_0,x1_1,x1_2⟩ hJ1
 dsimp only [L96_90] at hJ1
 refine tz [8,7,6,0,1,2] ?_
 refine Q0 (decide (x1_0<(↑l.length:Int))) (fun h2=>?_) (fun h2=>?_)
 ·refine tz [8,7,6,0,1,2] ?_
  refine Q2 Gn (Q3h ((l.getD x1_0.toNat default).name)) [] ?_ (vc:=[(0:Int)≤x1_0,x1_0<(↑l.length:Int),x1_0.toNat<l.length]) (hv:=W48)
  refine tz [22,8,7,6,0,1,2] ?_
  refine Qb (L96_91 l w x1_0 x1_1 x1_2) (((0:Int),nameB (l.getD x1_0.toNat default).name&&(w||decide ((l.getD x1_0.toNat default).word=(0:Int))))) ⟨by omega,by omega,by simp⟩ ?_ (vc:=[nameB (l.getD x1_0.toNat default).name=true→w=false→(0:Int)≤x1_0,nameB (l.getD x1_0.toNat default).name=true→w=false→x1_0<(↑l.length:Int),nameB (l.getD x1_0.toNat default).name=true→w=false→x1_0.toNat<l.length]) (hv:=W48)
  rintro ⟨x3_0,x3_1⟩ hJ3
  dsimp only [L96_91] at hJ3
  refine tz [10,9,8,7,6,0,1,2] ?_
  refine Q0 (decide (x3_0<(↑x1_2.length:Int))) (fun h4=>?_) (fun h4=>?_)
  ·exact Q6 (L96_91 l w x1_0 x1_1 x1_2) (x3_0,x3_1) ((x3_0+(1:Int),x3_1&&!decide ((x1_2.getD x3_0.toNat default).s=(l.getD x1_0.toNat default).name))) (by dsimp only [L96_91];have q:=of_decide_eq_true h4;have z:=hJ3.1;omega) (by dsimp only [L96_91];obtain ⟨q0,q1,q3⟩:=hJ3;have q:=of_decide_eq_true h4;refine ⟨by omega,by omega,?_⟩;rw [show (x3_0+1).toNat=x3_0.toNat+1 by omega,← Qcq (by omega),← q3]) (vc:=[x3_1=true→(0:Int)≤x3_0,x3_1=true→x3_0<(↑x1_2.length:Int),x3_1=true→x3_0.toNat<x1_2.length,x3_1=true→(0:Int)≤x1_0,x3_1=true→x1_0<(↑l.length:Int),x3_1=true→x1_0.toNat<l.length,Fits IntKind.i64 (x3_0+(1:Int))]) (hv:=W48)
  ·refine tz [10,9,8,7,6,0,1,2] ?_
   refine Q0 (!x3_1) (fun h5=>?_) (fun h5=>?_)
   ·exact Q1 [0,1000001] [0,1] [((namR w l []).getD []).length=0,(namR w l []).isSome=false] W81
   ·exact Q1e (L96_90 l w) (x1_0,x1_1,x1_2) ((x1_0+(1:Int),x1_1,x1_2++(z103_1 l x1_0))) (by dsimp only [L96_90];have q:=of_decide_eq_true h2;have z:=hJ1.1;omega) (by dsimp only [L96_90];obtain ⟨k0,k1,k2,k3⟩:=hJ1;obtain ⟨q0,q1,q3⟩:=hJ3;have q:=of_decide_eq_true h2;refine ⟨by omega,by omega,by simp;omega,?_⟩;rw [show (x1_0+1).toNat=x1_0.toNat+1 by omega,k3];refine Qhq (by omega) ?_;rw [← Q5m (k:=x3_0.toNat) (by have:=of_decide_eq_false h4;omega),← q3];simpa using h5) [(3,(Nm.tc ⟨(l.getD x1_0.toNat default).name⟩))] [0,3] [2,3] [(x1_2++(z103_1 l x1_0)).length=x1_2.length+1,∀ (i:Nat),i<(x1_2++(z103_1 l x1_0)).length→((x1_2++(z103_1 l x1_0)).getD i default).tc=if i=x1_2.length then (Nm.mk (l.getD x1_0.toNat default).name).tc else (x1_2.getD i default).tc] W45 (vc:=[(0:Int)≤x1_0,x1_0<(↑l.length:Int),x1_0.toNat<l.length,x1_2.length+1≤maxLen,(x1_2.length+1) * 16≤140737488355328,Fits IntKind.i64 (x1_0+(1:Int))]) (hv:=W48) (vc2:=[Value.string (l.getD x1_0.toNat default).name=Value.string (l.getD x1_0.toNat default).name]) (hv2:=W135)
 ·exact Q1 [] [0,1,2] [((namR w l []).getD []).length=x1_2.length,∀ (i:Nat),i<((namR w l []).getD []).length→(((namR w l []).getD []).getD i default).tc=(x1_2.getD i default).tc,(namR w l []).isSome=true] W81
end Go.Proofs.YtmaodngbpfjnnaaGreat
end
noncomputable section
namespace Go.Proofs.YtmaodngbpfjnnaaGreat
open Go Go.Tx
theorem Qdw (n:Nod):Ctr Tryz.prog 115 [] [.agg n.cs]
 (Det (.c (.h 0)) [IntOwn (flwR n)]):=by
 refine Ctr.intro [] Tryz.func115 K K ?_
 refine Q0 (decide (n.kind=(9:Int))) (fun h1=>?_) (fun h1=>?_)
 ·rw [(show flwR n=[] from if_pos (of_decide_eq_true h1))]
  exact Q1 [1000000] [0] [(0:Nat)=0] W53
 ·refine tz [4,2,1] ?_
  refine Q0 (decide (n.kind=(8:Int))) (fun h2=>?_) (fun h2=>?_)
  ·rw [(show flwR n=[n.next,n.els] from (if_neg (of_decide_eq_false h1)).trans (if_pos (of_decide_eq_true h2)))]
   exact Q1 [1] [0,1] [[n.next,n.els].length=2,∀ (i:Nat),i < [n.next,n.els].length→i64T ([n.next,n.els].getD i 0)=rowT 1 [Value.int IntKind.i64 n.next,Value.int IntKind.i64 n.els] i] W53
  ·rw [(show flwR n=[n.next] from (if_neg (of_decide_eq_false h1)).trans (if_neg (of_decide_eq_false h2)))]
   exact Q1 [1] [0,1,2] [[n.next].length=1,∀ (i:Nat),i < [n.next].length→i≠0→i64T ([n.next].getD i 0)=fun x=>TC.any,i64T n.next 0=TC.val (Value.int IntKind.i64 n.next)] W53
theorem Qk3 (k:Int):Ctr Tryz.prog 112 [] [.c (.i .u8 k)]
 (Det (.tup [(false,[.b (uS k)]),(false,[.b (uT k)]),(false,[.b (uA k)]),(false,[.b (uN k)])]) []):=by
 refine Ctr.intro [] Tryz.func112 K K ?_
 refine Q0 (decide (k=(1:Int))) (fun h1=>?_) (fun h1=>?_)
 ·exact Q1 [] [0,1,2,3] [uS k=true,uT k=false,uA k=true,uN k=true] W110
 ·refine tz [6,5,4,3,2] ?_
  refine Q0 (decide (k=(2:Int))) (fun h2=>?_) (fun h2=>?_)
  ·exact Q1 [] [0,1,2,3] [uS k=true,uT k=true,uA k=false,uN k=true] W110
  ·refine tz [6,5,4,3,2] ?_
   refine Q0 (decide (k=(3:Int))) (fun h3=>?_) (fun h3=>?_)
   ·exact Q1 [] [0,1,2,3] [uS k=false,uT k=true,uA k=true,uN k=true] W110
   ·refine tz [6,5,4,3,2] ?_
    refine Q0 (decide (k=(4:Int))) (fun h4=>?_) (fun h4=>?_)
    ·exact Q1 [] [0,1,2,3] [uS k=true,uT k=true,uA k=true,uN k=true] W110
    ·refine tz [6,5,4,3,2] ?_
     refine Q0 (decide (k=(5:Int))) (fun h5=>?_) (fun h5=>?_)
     ·exact Q1 [] [0,1,2,3] [uS k=false,uT k=true,uA k=false,uN k=true] W110
     ·refine tz [15,6,5,4,3,2] ?_
      refine Q0 (decide (k=(6:Int))) (fun h6=>?_) (fun h6=>?_)
      ·exact Q1 [] [0,1,2,3] [uS k=false,uT k=true,uA k=false,uN k=true] W110
      ·refine tz [6,5,4,3,2] ?_
       refine Q0 (decide (k=(7:Int))) (fun h7=>?_) (fun h7=>?_)
       ·exact Q1 [] [0,1,2,3] [uS k=false,uT k=false,uA k=true,uN k=true] W110
       ·refine tz [18,6,5,4,3,2] ?_
        refine Q0 (decide (k=(8:Int))) (fun h8=>?_) (fun h8=>?_)
        ·exact Q1 [] [0,1,2,3] [uS k=false,uT k=false,uA k=true,uN k=true] W110
        ·exact Q1 [] [0,1,2,3] [uS k=false,uT k=false,uA k=false,uN k=false] W110
theorem Q23 (v:Vl) (u:Bool) (s:Int):Ctr Tryz.prog 114 [] [.agg v.cs,.c (.b u),.c (.i .i64 s)]
 (Det (.c (.b (valR v u s))) []):=by
 refine Ctr.intro [] Tryz.func114 K K ?_
 refine Q0 (!u) (fun h1=>?_) (fun h1=>?_)
 ·exact Q1 [] [0] [valR v u s=(decide (v.slotted=false)&&(decide (v.slot=(0:Int))&&(decide (v.word=(0:Int))&&true)))] W142
 ·refine tz [6,3,2] ?_
  refine Q0 (v.slotted) (fun h2=>?_) (fun h2=>?_)
  ·exact Q1 [] [0] [valR v u s=(decide ((0:Int)≤v.slot)&&decide (v.slot<s)&&decide (v.word=(0:Int)))] W142
  ·exact Q1 [] [0] [valR v u s=decide (v.slot=(0:Int))] W142
theorem Z4 (n:Int) (u:Bool) (m:Int):Ctr Tryz.prog 113 [] [.c (.i .i64 n),.c (.b u),.c (.i .i64 m)]
 (Det (.c (.b (numR n u m))) []):=by
 refine Ctr.intro [] Tryz.func113 K K ?_
 refine Q0 (!u) (fun h1=>?_) (fun h1=>?_)
 ·exact Q1 [] [0] [numR n u m=decide (n=(0:Int))] (by simp only [Conj,numR] at *<;>grind)
 ·exact Q1 [] [0] [numR n u m=(decide ((0:Int)≤n)&&decide (n<m))] (by simp only [Conj,numR] at *<;>grind)
abbrev z101_1 (n:Nod):=(decide (n.kind=(1:Int))&&decide ((19:Int)≤n.op)||!decide (n.kind=(1:Int))&&!decide (n.op=(0:Int)))
theorem Qk4 (sh lk:List Dcl) (gs:List Grf) (g:Grf) (n:Nod):Ctr Tryz.prog 86 [Dcl.rowR sh,Dcl.rowR lk,Grf.rowR gs,Nod.rowR g.nodes] [.agg [.h 0,.h 1,.h 2],.agg (g.cs 3),.agg n.cs]
 (Det (.c (.b (nodeR sh.length lk.length g n))) [.dead,.dead,.dead,.dead]):=by
 refine Ctr.intro [] Tryz.func86 K K ?_
 refine Q0 (decide (n.kind≤(0:Int))||decide ((10:Int)≤n.kind)||decide (n.origin<(0:Int))||decide ((4096:Int)≤n.origin)) (fun h1=>?_) (fun h1=>?_)
 ·exact Q1 [] [0] [nodeR (↑sh.length:Int) (↑lk.length:Int) g n=false] W107
 ·refine tz [6,5,4,3] ?_
  refine Q2 Q62 (Qk3 n.kind) [] ?_
  refine tz [34,6,5,4,3] ?_
  refine Q0 (decide (n.kind=(5:Int))||decide (n.kind=(6:Int))) (fun h2=>?_) (fun h2=>?_)
  ·refine tz [11,10,9,8,7,6,5,4,3] ?_
   refine Q0 (z101_1 n) (fun h3=>?_) (fun h3=>?_)
   ·exact Q1 [] [0] [nodeR (↑sh.length:Int) (↑lk.length:Int) g n=false] W107
   ·refine tz [11,10,9,8,7,6,5,4] ?_
    refine tG Zn (Q9i n.op) [] ?_
    refine tz [77,74,11,10,9,8,7,6,5,4] ?_
    refine Q2 Qs (Z4 n.slot (uS n.kind) g.slots) [] ?_
    refine tz [84,12,11,10,9,8,6,5,4] ?_
    refine tG Qs (Z4 n.thing (uT n.kind) (↑lk.length:Int)) [] ?_
    refine tz [90,85,12,10,9,6,5,4] ?_
    refine tG Z3 (Q23 n.a (uA n.kind) g.slots) [] ?_
    refine tz [98,92,12,10,6,5,4] ?_
    refine tG Z3 (Q23 n.b (decide (n.kind=(1:Int))&&twoB n.op) g.slots) [] ?_
    refine tz [106,100,10,6,5,4] ?_
    refine tG Qs (Z4 n.next (uN n.kind) (↑g.nodes.length:Int)) [] ?_
    refine tz [115,108,6,5,4] ?_
    refine tG Qs (Z4 n.els (decide (n.kind=(8:Int))) (↑g.nodes.length:Int)) [] ?_
    exact Q1 [] [0] [nodeR (↑sh.length:Int) (↑lk.length:Int) g n=(numR n.slot (uS n.kind) g.slots&&numR n.thing (uT n.kind) (↑lk.length:Int)&&valR n.a (uA n.kind) g.slots&&valR n.b (decide (n.kind=(1:Int))&&twoB n.op) g.slots&&numR n.next (uN n.kind) (↑g.nodes.length:Int)&&numR n.els (decide (n.kind=(8:Int))) (↑g.nodes.length:Int))] W107
  ·refine tz [11,10,9,8,7,6,5,4] ?_
   refine Q0 (z101_1 n) (fun h3=>?_) (fun h3=>?_)
   ·exact Q1 [] [0] [nodeR (↑sh.length:Int) (↑lk.length:Int) g n=false] W107
   ·refine tz [11,10,9,8,7,6,5,4] ?_
    refine tG Zn (Q9i n.op) [] ?_
    refine tz [77,74,11,10,9,8,7,6,5,4] ?_
    refine Q2 Qs (Z4 n.slot (uS n.kind) g.slots) [] ?_
    refine tz [84,12,11,10,9,8,6,5,4] ?_
    refine tG Qs (Z4 n.thing (uT n.kind) (↑sh.length:Int)) [] ?_
    refine tz [90,85,12,10,9,6,5,4] ?_
    refine tG Z3 (Q23 n.a (uA n.kind) g.slots) [] ?_
    refine tz [98,92,12,10,6,5,4] ?_
    refine tG Z3 (Q23 n.b (decide (n.kind=(1:Int))&&twoB n.op) g.slots) [] ?_
    refine tz [106,100,10,6,5,4] ?_
    refine tG Qs (Z4 n.next (uN n.kind) (↑g.nodes.length:Int)) [] ?_
    refine tz [115,108,6,5,4] ?_
    refine tG Qs (Z4 n.els (decide (n.kind=(8:Int))) (↑g.nodes.length:Int)) [] ?_
    exact Q1 [] [0] [nodeR (↑sh.length:Int) (↑lk.length:Int) g n=(numR n.slot (uS n.kind) g.slots&&numR n.thing (uT n.kind) (↑sh.length:Int)&&valR n.a (uA n.kind) g.slots&&valR n.b (decide (n.kind=(1:Int))&&twoB n.op) g.slots&&numR n.next (uN n.kind) (↑g.nodes.length:Int)&&numR n.els (decide (n.kind=(8:Int))) (↑g.nodes.length:Int))] W107
end Go.Proofs.YtmaodngbpfjnnaaGreat
end
noncomputable section
namespace Go.Proofs.YtmaodngbpfjnnaaGreat
open Go Go.Tx
def L144_80 (ns:List Nod) (X:Ext) (A:Option Addr) (nn:Nat) (cc:Nat) (A2:Option Addr) (n2:Nat) (c2:Nat):Lp (Int×Bool):=⟨fun x=>{ N:=26,fr:=[se 5 (C.i .i64 x.1),se 4 (C.b x.2),se 0 (C.h 2),se 1 (C.h 3)],rg:=[rowOf 13 (·.tc) ns,Reg.froz X,Reg.row 1 (rd X (Value.slice A nn cc)).length (fun j=>i64T ((rd X (Value.slice A nn cc)).getD j 0)) none,Reg.row 1 (rd X (Value.slice A2 n2 c2)).length (fun j=>i64T ((rd X (Value.slice A2 n2 c2)).getD j 0)) none],wr:=[] },fun x=>0≤x.1∧x.1≤((rd X (.slice A nn cc)).length:Int)∧(rd X (.slice A nn cc)).length=(rd X (.slice A2 n2 c2)).length∧∀ j:Nat,(j:Int)<x.1→(rd X (.slice A nn cc)).getD j default=(rd X (.slice A2 n2 c2)).getD j default,fun x=>(((rd X (.slice A nn cc)).length:Int)-x.1).toNat⟩
theorem Qk5 (ns:List Nod) (X:Ext) (A:Option Addr) (nn cc:Nat) (A2:Option Addr) (n2 c2:Nat) (hT:Is X (.slice A nn cc)) (hT2:Is X (.slice A2 n2 c2)) (hL:(rd X (.slice A nn cc)).length≤4097):Ctr Tryz.prog 116 [Nod.rowR ns,.froz X] [.c (.v (.slice A nn cc)),.c (.v (.slice A2 n2 c2))]
 (Det (.c (.b (decide ((rd X (.slice A nn cc))=(rd X (.slice A2 n2 c2)))))) [.dead,.dead]):=by
 refine Ctr.intro [] Tryz.func116 K K ?_
 refine RunF.tabout 0 1 (X:=X) (y:=Value.slice A nn cc) (size:=1) (n:=(rd X (Value.slice A nn cc)).length) (f:=fun j=>i64T ((rd X (Value.slice A nn cc)).getD j 0)) K K K (by first | exact Yw hT | exact Yw hT2) ?_
 refine RunF.tabout 1 1 (X:=X) (y:=Value.slice A2 n2 c2) (size:=1) (n:=(rd X (Value.slice A2 n2 c2)).length) (f:=fun j=>i64T ((rd X (Value.slice A2 n2 c2)).getD j 0)) K K K (by first | exact Yw hT | exact Yw hT2) ?_
 refine tz [0,1] ?_
 refine Q0 (!decide ((↑(rd X (Value.slice A nn cc)).length:Int)=(↑(rd X (Value.slice A2 n2 c2)).length:Int))) (fun h1=>?_) (fun h1=>?_)
 ·exact Q1 [] [0] [decide (rd X (Value.slice A nn cc)=rd X (Value.slice A2 n2 c2))=false] W90
 ·refine tz [4,0,1] ?_
  refine Qb (L144_80 ns X A nn cc A2 n2 c2) (((0:Int),false)) ⟨by omega,by omega,by simp at h1;omega,fun j hj=>absurd hj W37⟩ ?_
  rintro ⟨x2_0,x2_1⟩ hJ2
  dsimp only [L144_80] at hJ2
  refine tz [5,4,0,1] ?_
  refine Q0 (decide (x2_0<(↑(rd X (Value.slice A nn cc)).length:Int))) (fun h3=>?_) (fun h3=>?_)
  ·refine tz [5,4,0,1] ?_
   refine Q0 (!decide ((rd X (Value.slice A nn cc)).getD x2_0.toNat 0=(rd X (Value.slice A2 n2 c2)).getD x2_0.toNat 0)) (fun h4=>?_) (fun h4=>?_) (vc:=[(0:Int)≤x2_0,x2_0<(↑(rd X (Value.slice A nn cc)).length:Int),x2_0.toNat<(rd X (Value.slice A nn cc)).length,(0:Int)≤x2_0,x2_0<(↑(rd X (Value.slice A2 n2 c2)).length:Int),x2_0.toNat<(rd X (Value.slice A2 n2 c2)).length]) (hv:=W2)
   ·exact Q1 [] [0] [decide (rd X (Value.slice A nn cc)=rd X (Value.slice A2 n2 c2))=false] W90
   ·exact Q6 (L144_80 ns X A nn cc A2 n2 c2) (x2_0,x2_1) ((x2_0+(1:Int),x2_1)) (by dsimp only [L144_80];(try simp only [decide_eq_true_eq] at *);omega) ⟨by omega,by have:=of_decide_eq_true h3;omega,hJ2.2.2.1,Q0m hJ2.2.2.2 hJ2.1 (by show (rd X (.slice A nn cc)).getD x2_0.toNat 0=(rd X (.slice A2 n2 c2)).getD x2_0.toNat 0;simpa using h4)⟩ (vc:=[Fits IntKind.i64 (x2_0+(1:Int))]) (hv:=W2)
  ·exact Q1 [] [0] [decide (rd X (Value.slice A nn cc)=rd X (Value.slice A2 n2 c2))=true] W90
end Go.Proofs.YtmaodngbpfjnnaaGreat
end
noncomputable section
namespace Go.Proofs.YtmaodngbpfjnnaaGreat
open Go Go.Tx
def C98A (g:Grf) (x1_0:Int) (x1_1:Int) (x1_2:Ext) (x1_3:List Hdl) (x1_4:List Bo) (x1_5:List Int) (nw0:List Int):St:=St.mk 140 [se 9 (C.h 7),se 8 (C.p 6 0),se 7 (C.i .i64 x1_0),se 6 (C.h 5),se 5 (C.h 4),se 4 (C.h 3),se 3 (C.i .i64 x1_1),se 2 (C.v (Value.slice none 0 0)),se 1 (C.p 2 0)] [Nod.rowR g.nodes,Reg.froz x1_2,Reg.box 107 [C.v (Value.string g.name),C.i .i64 g.locals,C.i .i64 g.slots,C.h 0],Hdl.ownR x1_3,Bo.ownR x1_4,IntOwn x1_5,Reg.box 137 ((g.nodes.getD (x1_5.getD x1_0.toNat 0).toNat default)).cs,IntOwn nw0] []
def C98A_J (g:Grf) (x1_0:Int) (x1_1:Int) (x1_2:Ext) (x1_3:List Hdl) (x1_4:List Bo) (x1_5:List Int) (nw0:List Int):Prop:=nw0=rd x1_2 (Value.slice (x1_3.getD (x1_5.getD x1_0.toNat 0).toNat default).a (x1_3.getD (x1_5.getD x1_0.toNat 0).toNat default).n (x1_3.getD (x1_5.getD x1_0.toNat 0).toNat default).c)
def C98B (g:Grf) (x1_0:Int) (x1_1:Int) (x1_2:Ext) (x1_3:List Hdl) (x1_4:List Bo) (x1_5:List Int) (v:Ext×Option Addr×Nat×Nat):St:=St.mk 140 [se 9 (C.v (Value.slice v.2.1 v.2.2.1 v.2.2.2)),se 8 (C.p 6 0),se 7 (C.i .i64 x1_0),se 6 (C.h 5),se 5 (C.h 4),se 4 (C.h 3),se 3 (C.i .i64 x1_1),se 2 (C.v (Value.slice none 0 0)),se 1 (C.p 2 0)] [Nod.rowR g.nodes,Reg.froz v.1,Reg.box 107 [C.v (Value.string g.name),C.i .i64 g.locals,C.i .i64 g.slots,C.h 0],Hdl.ownR x1_3,Bo.ownR x1_4,IntOwn x1_5,Reg.box 137 ((g.nodes.getD (x1_5.getD x1_0.toNat 0).toNat default)).cs] []
def C98B_J (g:Grf) (x1_0:Int) (x1_1:Int) (x1_2:Ext) (x1_3:List Hdl) (x1_4:List Bo) (x1_5:List Int) (v:Ext×Option Addr×Nat×Nat):Prop:=x1_2.Into v.1∧Is v.1 (Value.slice v.2.1 v.2.2.1 v.2.2.2)∧nowH (g.nodes.getD (x1_5.getD x1_0.toNat 0).toNat default) (rd x1_2 (Value.slice (x1_3.getD (x1_5.getD x1_0.toNat 0).toNat default).a (x1_3.getD (x1_5.getD x1_0.toNat 0).toNat default).n (x1_3.getD (x1_5.getD x1_0.toNat 0).toNat default).c))=some (rd v.1 (Value.slice v.2.1 v.2.2.1 v.2.2.2))
def L98_80 (g:Grf) (X0:Ext):Lp (Int×Int×Ext×List Hdl×List Bo×List Int):=⟨fun x=>{ N:=140,fr:=[se 7 (C.i .i64 x.1),se 6 (C.h 5),se 5 (C.h 4),se 4 (C.h 3),se 3 (C.i .i64 x.2.1),se 2 (C.v (Value.slice none 0 0)),se 1 (C.p 2 0)],rg:=[rowOf 13 (·.tc) g.nodes,Reg.froz (x.2.2.1),Reg.box 107 [C.v (Value.string g.name),C.i .i64 g.locals,C.i .i64 g.slots,C.h 0],Hdl.ownR (x.2.2.2.1),Bo.ownR (x.2.2.2.2.1),IntOwn (x.2.2.2.2.2)],wr:=[] },fun x=>RJ g.nodes x.1 x.2.2.1 x.2.2.2.1 x.2.2.2.2.1 x.2.2.2.2.2,fun x=>(g.nodes.length+1-x.1.toNat)⟩
def L98_81 (g:Grf) (x1_0:Int) (x1_1:Int) (x1_3:List Hdl) (x1_4:List Bo) (x1_5:List Int) (v:Ext×Option Addr×Nat×Nat):Lp (Int×Int×List Hdl×List Bo×List Int):=⟨fun x=>{ N:=140,fr:=[se 11 (C.i .i64 x.1),se 10 (C.h 7),se 9 (C.v (Value.slice v.snd.fst v.snd.snd.fst v.snd.snd.snd)),se 7 (C.i .i64 x1_0),se 6 (C.h 5),se 5 (C.h 4),se 4 (C.h 3),se 3 (C.i .i64 x.2.1),se 2 (C.v (Value.slice none 0 0)),se 1 (C.p 2 0)],rg:=[rowOf 13 (·.tc) g.nodes,Reg.froz v.fst,Reg.box 107 [C.v (Value.string g.name),C.i .i64 g.locals,C.i .i64 g.slots,C.h 0],Hdl.ownR (x.2.2.1),Bo.ownR (x.2.2.2.1),IntOwn (x.2.2.2.2),Reg.box 137 [C.i .u8 (g.nodes.getD (x1_5.getD x1_0.toNat 0).toNat default).kind,C.i .u8 (g.nodes.getD (x1_5.getD x1_0.toNat 0).toNat default).op,C.i .i64 (g.nodes.getD (x1_5.getD x1_0.toNat 0).toNat default).slot,C.i .i64 (g.nodes.getD (x1_5.getD x1_0.toNat 0).toNat default).thing,C.b (g.nodes.getD (x1_5.getD x1_0.toNat 0).toNat default).a.slotted,C.i .i64 (g.nodes.getD (x1_5.getD x1_0.toNat 0).toNat default).a.slot,C.i .i64 (g.nodes.getD (x1_5.getD x1_0.toNat 0).toNat default).a.word,C.b (g.nodes.getD (x1_5.getD x1_0.toNat 0).toNat default).b.slotted,C.i .i64 (g.nodes.getD (x1_5.getD x1_0.toNat 0).toNat default).b.slot,C.i .i64 (g.nodes.getD (x1_5.getD x1_0.toNat 0).toNat default).b.word,C.i .i64 (g.nodes.getD (x1_5.getD x1_0.toNat 0).toNat default).next,C.i .i64 (g.nodes.getD (x1_5.getD x1_0.toNat 0).toNat default).els,C.i .i64 (g.nodes.getD (x1_5.getD x1_0.toNat 0).toNat default).origin],IntOwn (flwR (g.nodes.getD (x1_5.getD x1_0.toNat 0).toNat default))],wr:=[] },fun x=>RK g.nodes x1_0 (g.nodes.getD (x1_5.getD x1_0.toNat 0).toNat default) (Value.slice v.2.1 v.2.2.1 v.2.2.2) (rd v.1 (Value.slice v.2.1 v.2.2.1 v.2.2.2)) x.1 v.1 x.2.2.1 x.2.2.2.1 x.2.2.2.2,fun x=>((flwR (g.nodes.getD (x1_5.getD x1_0.toNat 0).toNat default)).length-x.1).toNat⟩
theorem Qk6 (g:Grf) (hq:∀ i:Nat,i<g.nodes.length→∀ x∈flwL (g.nodes.getD i default),0≤x∧x<(g.nodes.length:Int)) (hN:1≤g.nodes.length∧g.nodes.length≤4096):Ctr Tryz.prog 87 [Nod.rowR g.nodes] [.agg (g.cs 0)]
 (Det (.tup [(false,[.h 1]),(false,[.i .i64 (heldF g.nodes)])]) [.dead,.one]):=by
 refine Ctr.intro [] Tryz.func87 K K ?_
 refine RunF.tabnew K (fun X0=>?_)
 refine tz [0] ?_
 refine Qb (L98_80 g X0) (((0:Int),(0:Int),X0,List.replicate g.nodes.length Hdl.none,(List.replicate g.nodes.length (Bo.mk false)).set 0 (Bo.mk true),[(0:Int)])) (RJ.start hN.1 X0) ?_ [] [6,7,8,9,10,11,12] [(List.replicate g.nodes.length Hdl.none).length=g.nodes.length,∀ (i:Nat),i<(List.replicate g.nodes.length Hdl.none).length→((List.replicate g.nodes.length Hdl.none).getD i default).tc=fun j=>valT (Value.slice none 0 0).cells.toList j,((List.replicate g.nodes.length (Bo.mk false)).set 0 (Bo.mk true)).length=g.nodes.length,∀ (i:Nat),i<((List.replicate g.nodes.length (Bo.mk false)).set 0 (Bo.mk true)).length→(((List.replicate g.nodes.length (Bo.mk false)).set 0 (Bo.mk true)).getD i default).tc=updT (fun x j=>valT (Value.bool false).cells.toList j) 0 0 [Value.bool true] i,[(0:Int)].length=1,∀ (i:Nat),i < [(0:Int)].length→i≠0→i64T ([(0:Int)].getD i 0)=fun x=>TC.any,i64T (0:Int) 0=TC.val (Value.int IntKind.i64 (0:Int))] W25 (vc:=[(0:Int)≤(↑g.nodes.length:Int),(↑g.nodes.length:Int)≤(↑g.nodes.length:Int),(↑g.nodes.length:Int) * (24:Int)≤(140737488355328:Int),(↑g.nodes.length:Int)≤(↑maxLen:Int),(0:Int)≤(↑g.nodes.length:Int),(↑g.nodes.length:Int)≤(↑g.nodes.length:Int),(↑g.nodes.length:Int) * (1:Int)≤(140737488355328:Int),(↑g.nodes.length:Int)≤(↑maxLen:Int),(0:Int)≤(0:Int),(0:Int)<(↑g.nodes.length:Int),0<g.nodes.length]) (hv:=W6)
 rintro ⟨x1_0,x1_1,x1_2,x1_3,x1_4,x1_5⟩ hJ1
 dsimp only [L98_80] at hJ1
 refine tz [7,6,5,4,3,2,1] ?_
 refine Q0 (decide (x1_0<(↑x1_5.length:Int))) (fun h2=>?_) (fun h2=>?_)
 ·refine RunF.cutn 2 (fun nw0=>C98A g x1_0 x1_1 x1_2 x1_3 x1_4 x1_5 nw0) (fun nw0=>C98A_J g x1_0 x1_1 x1_2 x1_3 x1_4 x1_5 nw0) ?_ ?_
  ·refine tz [7,6,5,4,3,2,1] ?_
   refine RunF.here (vc:=[(0:Int)≤x1_0,x1_0<(↑x1_5.length:Int),x1_0.toNat<x1_5.length,(0:Int)≤x1_5.getD x1_0.toNat 0,x1_5.getD x1_0.toNat 0<(↑g.nodes.length:Int),(x1_5.getD x1_0.toNat 0).toNat<g.nodes.length,(0:Int)≤x1_0,x1_0<(↑x1_5.length:Int),x1_0.toNat<x1_5.length,(0:Int)≤x1_5.getD x1_0.toNat 0,x1_5.getD x1_0.toNat 0<(↑x1_3.length:Int),(x1_5.getD x1_0.toNat 0).toNat<x1_3.length]) K W6 ?_
   refine RunF.tabout 44 1 (X:=x1_2) (y:=Value.slice (x1_3.getD (x1_5.getD x1_0.toNat 0).toNat default).a (x1_3.getD (x1_5.getD x1_0.toNat 0).toNat default).n (x1_3.getD (x1_5.getD x1_0.toNat 0).toNat default).c) (size:=1) (n:=(rd x1_2 (Value.slice (x1_3.getD (x1_5.getD x1_0.toNat 0).toNat default).a (x1_3.getD (x1_5.getD x1_0.toNat 0).toNat default).n (x1_3.getD (x1_5.getD x1_0.toNat 0).toNat default).c)).length) (f:=fun j=>i64T ((rd x1_2 (Value.slice (x1_3.getD (x1_5.getD x1_0.toNat 0).toNat default).a (x1_3.getD (x1_5.getD x1_0.toNat 0).toNat default).n (x1_3.getD (x1_5.getD x1_0.toNat 0).toNat default).c)).getD j 0)) K K K (Yw (hJ1.is (of_decide_eq_true h2))) ?_
   exact tTo (fun nw0=>C98A g x1_0 x1_1 x1_2 x1_3 x1_4 x1_5 nw0) (fun nw0=>C98A_J g x1_0 x1_1 x1_2 x1_3 x1_4 x1_5 nw0) (rd x1_2 (Value.slice (x1_3.getD (x1_5.getD x1_0.toNat 0).toNat default).a (x1_3.getD (x1_5.getD x1_0.toNat 0).toNat default).n (x1_3.getD (x1_5.getD x1_0.toNat 0).toNat default).c)) W24 [0,1,2,3,4,5,6,9] [25,26] [(rd x1_2 (Value.slice (x1_3.getD (x1_5.getD x1_0.toNat 0).toNat default).a (x1_3.getD (x1_5.getD x1_0.toNat 0).toNat default).n (x1_3.getD (x1_5.getD x1_0.toNat 0).toNat default).c)).length=0+(rd x1_2 (Value.slice (x1_3.getD (x1_5.getD x1_0.toNat 0).toNat default).a (x1_3.getD (x1_5.getD x1_0.toNat 0).toNat default).n (x1_3.getD (x1_5.getD x1_0.toNat 0).toNat default).c)).length,∀ (i:Nat),i<(rd x1_2 (Value.slice (x1_3.getD (x1_5.getD x1_0.toNat 0).toNat default).a (x1_3.getD (x1_5.getD x1_0.toNat 0).toNat default).n (x1_3.getD (x1_5.getD x1_0.toNat 0).toNat default).c)).length→i64T ((rd x1_2 (Value.slice (x1_3.getD (x1_5.getD x1_0.toNat 0).toNat default).a (x1_3.getD (x1_5.getD x1_0.toNat 0).toNat default).n (x1_3.getD (x1_5.getD x1_0.toNat 0).toNat default).c)).getD i 0)=fun j=>if i<0 then rowT 1 [] i j else i64T ((rd x1_2 (Value.slice (x1_3.getD (x1_5.getD x1_0.toNat 0).toNat default).a (x1_3.getD (x1_5.getD x1_0.toNat 0).toNat default).n (x1_3.getD (x1_5.getD x1_0.toNat 0).toNat default).c)).getD (i-0) 0) j] W25 (vc:=[∀ (i j:Nat),i<(rd x1_2 (Value.slice (x1_3.getD (x1_5.getD x1_0.toNat 0).toNat default).a (x1_3.getD (x1_5.getD x1_0.toNat 0).toNat default).n (x1_3.getD (x1_5.getD x1_0.toNat 0).toNat default).c)).length→j<1→flatT (i64T ((rd x1_2 (Value.slice (x1_3.getD (x1_5.getD x1_0.toNat 0).toNat default).a (x1_3.getD (x1_5.getD x1_0.toNat 0).toNat default).n (x1_3.getD (x1_5.getD x1_0.toNat 0).toNat default).c)).getD i 0) j),0+(rd x1_2 (Value.slice (x1_3.getD (x1_5.getD x1_0.toNat 0).toNat default).a (x1_3.getD (x1_5.getD x1_0.toNat 0).toNat default).n (x1_3.getD (x1_5.getD x1_0.toNat 0).toNat default).c)).length≤maxLen,(0+(rd x1_2 (Value.slice (x1_3.getD (x1_5.getD x1_0.toNat 0).toNat default).a (x1_3.getD (x1_5.getD x1_0.toNat 0).toNat default).n (x1_3.getD (x1_5.getD x1_0.toNat 0).toNat default).c)).length) * 8≤140737488355328]) (hv:=W6)
  ·intro nw0 hCC98A
   refine RunF.cutn 2 (fun v=>C98B g x1_0 x1_1 x1_2 x1_3 x1_4 x1_5 v) (fun v=>C98B_J g x1_0 x1_1 x1_2 x1_3 x1_4 x1_5 v) ?_ ?_
   ·refine tz [9,8,7,6,5,4,3,2,1] ?_
    refine Q0 (decide ((g.nodes.getD (x1_5.getD x1_0.toNat 0).toNat default).kind=(5:Int))) (fun h3=>?_) (fun h3=>?_)
    ·refine RunF.hereJ (vc:=[nw0.length+1≤maxLen,(nw0.length+1) * 8≤140737488355328]) K K W6 ?_
     refine Qo5 9 ((i64T (g.nodes.getD (x1_5.getD x1_0.toNat 0).toNat default).thing)) ?_ (vc:=[(g.nodes.getD (x1_5.getD x1_0.toNat 0).toNat default).thing=(g.nodes.getD (x1_5.getD x1_0.toNat 0).toNat default).thing]) (hv:=(by simp only [Conj]<;>(repeat' apply And.intro)<;>first | trivial | rfl | (intros;rfl)))
     refine RunF.tabin 9 1 (ty:=3) (size:=1) (n:=nw0.length+1) (f:=fun i=>if i=nw0.length then i64T (g.nodes.getD (x1_5.getD x1_0.toNat 0).toNat default).thing else i64T (nw0.getD i 0)) (X:=x1_2) K K K (fun X9 A9 c9 hInX9 hTabX9=>?_)
     exact tTo (fun v=>C98B g x1_0 x1_1 x1_2 x1_3 x1_4 x1_5 v) (fun v=>C98B_J g x1_0 x1_1 x1_2 x1_3 x1_4 x1_5 v) ((X9,A9,nw0.length+1,c9)) W24
    ·refine tz [47,9,8,7,6,5,4,3,2,1] ?_
     refine Q0 (decide ((g.nodes.getD (x1_5.getD x1_0.toNat 0).toNat default).kind=(6:Int))) (fun h4=>?_) (fun h4=>?_)
     ·refine tz [9,8,7,6,5,4,3,2,1] ?_
      refine Q0 (decide ((↑nw0.length:Int)=(0:Int))||!decide (nw0.getD ((↑nw0.length:Int)-(1:Int)).toNat (0:Int)=(g.nodes.getD (x1_5.getD x1_0.toNat 0).toNat default).thing)) (fun h5=>?_) (fun h5=>?_) (vc:=[decide ((↑nw0.length:Int)=(0:Int))=false→Fits IntKind.i64 ((↑nw0.length:Int)-(1:Int)),decide ((↑nw0.length:Int)=(0:Int))=false→(0:Int)≤(↑nw0.length:Int)-(1:Int),decide ((↑nw0.length:Int)=(0:Int))=false→(↑nw0.length:Int)-(1:Int)<(↑nw0.length:Int),decide ((↑nw0.length:Int)=(0:Int))=false→((↑nw0.length:Int)-(1:Int)).toNat<nw0.length]) (hv:=W6)
      ·exact Q1 [0,1000001] [0] [heldF g.nodes=x1_5.getD x1_0.toNat 0] W65 (vc:=[(0:Int)≤x1_0,x1_0<(↑x1_5.length:Int),x1_0.toNat<x1_5.length]) (hv:=W6)
      ·refine RunF.hereJ (vc:=[Fits IntKind.i64 ((↑nw0.length:Int)-(1:Int)),(0:Int)≤(0:Int),(0:Int)≤(↑nw0.length:Int)-(1:Int),(↑nw0.length:Int)-(1:Int)≤(↑nw0.length:Int),(0:Int)<(↑nw0.length:Int)]) K K W6 ?_
       refine RunF.tabinP 7 1 ((((nw0.length:Int)-(1:Int)).toNat-0)) (ty:=3) (n:=nw0.length) (f:=fun i=>i64T (nw0.getD i 0)) (X:=x1_2) K K K (by first | omega | simp) (fun X9 A9 c9 hInX9 hTabX9=>?_)
       exact tTo (fun v=>C98B g x1_0 x1_1 x1_2 x1_3 x1_4 x1_5 v) (fun v=>C98B_J g x1_0 x1_1 x1_2 x1_3 x1_4 x1_5 v) ((X9,A9,((↑nw0.length:Int)-(1:Int)).toNat-0,c9)) W24 [] [25] [Value.slice A9 (((↑nw0.length:Int)-(1:Int)).toNat-0) c9=cutV (Value.slice A9 nw0.length c9) (((↑nw0.length:Int)-(1:Int)).toNat-0)] W25
     ·refine tz [47,9,8,7,6,5,4,3,2,1] ?_
      refine Q0 (decide ((g.nodes.getD (x1_5.getD x1_0.toNat 0).toNat default).kind=(9:Int))) (fun h5=>?_) (fun h5=>?_)
      ·refine tz [9,8,7,6,5,4,3,2,1] ?_
       refine Q0 (decide ((0:Int)<(↑nw0.length:Int))) (fun h6=>?_) (fun h6=>?_)
       ·exact Q1 [0,1000001] [0] [heldF g.nodes=x1_5.getD x1_0.toNat 0] W65 (vc:=[(0:Int)≤x1_0,x1_0<(↑x1_5.length:Int),x1_0.toNat<x1_5.length]) (hv:=W6)
       ·refine RunF.hereJ (vc:=[]) K K trivial ?_
        refine RunF.tabin 7 1 (ty:=3) (size:=1) (n:=nw0.length) (f:=fun i=>i64T (nw0.getD i 0)) (X:=x1_2) K K K (fun X9 A9 c9 hInX9 hTabX9=>?_)
        exact tTo (fun v=>C98B g x1_0 x1_1 x1_2 x1_3 x1_4 x1_5 v) (fun v=>C98B_J g x1_0 x1_1 x1_2 x1_3 x1_4 x1_5 v) ((X9,A9,nw0.length,c9)) W24
      ·refine RunF.hereJ (vc:=[]) K K trivial ?_
       refine RunF.tabin 7 1 (ty:=3) (size:=1) (n:=nw0.length) (f:=fun i=>i64T (nw0.getD i 0)) (X:=x1_2) K K K (fun X9 A9 c9 hInX9 hTabX9=>?_)
       exact tTo (fun v=>C98B g x1_0 x1_1 x1_2 x1_3 x1_4 x1_5 v) (fun v=>C98B_J g x1_0 x1_1 x1_2 x1_3 x1_4 x1_5 v) ((X9,A9,nw0.length,c9)) W24
   ·intro v hCC98B
    refine tz [9,8,7,6,5,4,3,2,1] ?_
    refine Q2 Q3a (Qdw (g.nodes.getD (x1_5.getD x1_0.toNat 0).toNat default)) [] ?_
    refine tz [90,9,7,6,5,4,3,2,1] ?_
    refine Qb (L98_81 g x1_0 x1_1 x1_3 x1_4 x1_5 v) (((0:Int),x1_1,x1_3,x1_4,x1_5)) (hJ1.inner (of_decide_eq_true h2) (hq _ (by have q:=hJ1.at_ (of_decide_eq_true h2);omega)) hCC98B.1 hCC98B.2.1 hCC98B.2.2) ?_
    rintro ⟨x3_0,x3_1,x3_2,x3_3,x3_4⟩ hJ3
    dsimp only [L98_81] at hJ3
    refine tz [11,10,9,7,6,5,4,3,2,1] ?_
    refine Q0 (decide (x3_0<(↑(flwR (g.nodes.getD (x1_5.getD x1_0.toNat 0).toNat default)).length:Int))) (fun h4=>?_) (fun h4=>?_)
    ·refine tz [11,10,9,7,6,5,4,3,2,1] ?_
     refine Q0 (!(x3_3.getD ((flwR (g.nodes.getD (x1_5.getD x1_0.toNat 0).toNat default)).getD x3_0.toNat 0).toNat default).b) (fun h5=>?_) (fun h5=>?_) (vc:=[(0:Int)≤x3_0,x3_0<(↑(flwR (g.nodes.getD (x1_5.getD x1_0.toNat 0).toNat default)).length:Int),x3_0.toNat<(flwR (g.nodes.getD (x1_5.getD x1_0.toNat 0).toNat default)).length,(0:Int)≤(flwR (g.nodes.getD (x1_5.getD x1_0.toNat 0).toNat default)).getD x3_0.toNat 0,(flwR (g.nodes.getD (x1_5.getD x1_0.toNat 0).toNat default)).getD x3_0.toNat 0<(↑x3_3.length:Int),((flwR (g.nodes.getD (x1_5.getD x1_0.toNat 0).toNat default)).getD x3_0.toNat 0).toNat<x3_3.length]) (hv:=W6)
     ·exact Q6 (L98_81 g x1_0 x1_1 x1_3 x1_4 x1_5 v) (x3_0,x3_1,x3_2,x3_3,x3_4) ((x3_0+(1:Int),x3_1,x3_2.set ((flwR (g.nodes.getD (x1_5.getD x1_0.toNat 0).toNat default)).getD x3_0.toNat 0).toNat (Hdl.mk v.snd.fst v.snd.snd.fst v.snd.snd.snd),x3_3.set ((flwR (g.nodes.getD (x1_5.getD x1_0.toNat 0).toNat default)).getD x3_0.toNat 0).toNat (Bo.mk true),x3_4++[(flwR (g.nodes.getD (x1_5.getD x1_0.toNat 0).toNat default)).getD x3_0.toNat 0])) W152 W124 [0,1,2,3,4,9,6,7] [6,7,8,9,10,11,12] [(x3_2.set ((flwR (g.nodes.getD (x1_5.getD x1_0.toNat 0).toNat default)).getD x3_0.toNat 0).toNat (Hdl.mk v.snd.fst v.snd.snd.fst v.snd.snd.snd)).length=x3_2.length,∀ (i:Nat),i<(x3_2.set ((flwR (g.nodes.getD (x1_5.getD x1_0.toNat 0).toNat default)).getD x3_0.toNat 0).toNat (Hdl.mk v.snd.fst v.snd.snd.fst v.snd.snd.snd)).length→((x3_2.set ((flwR (g.nodes.getD (x1_5.getD x1_0.toNat 0).toNat default)).getD x3_0.toNat 0).toNat (Hdl.mk v.snd.fst v.snd.snd.fst v.snd.snd.snd)).getD i default).tc=updT (fun i=>(x3_2.getD i default).tc) ((flwR (g.nodes.getD (x1_5.getD x1_0.toNat 0).toNat default)).getD x3_0.toNat 0).toNat 0 [Value.slice v.snd.fst v.snd.snd.fst v.snd.snd.snd] i,(x3_3.set ((flwR (g.nodes.getD (x1_5.getD x1_0.toNat 0).toNat default)).getD x3_0.toNat 0).toNat (Bo.mk true)).length=x3_3.length,∀ (i:Nat),i<(x3_3.set ((flwR (g.nodes.getD (x1_5.getD x1_0.toNat 0).toNat default)).getD x3_0.toNat 0).toNat (Bo.mk true)).length→((x3_3.set ((flwR (g.nodes.getD (x1_5.getD x1_0.toNat 0).toNat default)).getD x3_0.toNat 0).toNat (Bo.mk true)).getD i default).tc=updT (fun i=>(x3_3.getD i default).tc) ((flwR (g.nodes.getD (x1_5.getD x1_0.toNat 0).toNat default)).getD x3_0.toNat 0).toNat 0 [Value.bool true] i,(x3_4++[(flwR (g.nodes.getD (x1_5.getD x1_0.toNat 0).toNat default)).getD x3_0.toNat 0]).length=x3_4.length+1,∀ (i:Nat),i<(x3_4++[(flwR (g.nodes.getD (x1_5.getD x1_0.toNat 0).toNat default)).getD x3_0.toNat 0]).length→i≠x3_4.length→i64T ((x3_4++[(flwR (g.nodes.getD (x1_5.getD x1_0.toNat 0).toNat default)).getD x3_0.toNat 0]).getD i 0)=i64T (x3_4.getD i 0),i64T ((x3_4++[(flwR (g.nodes.getD (x1_5.getD x1_0.toNat 0).toNat default)).getD x3_0.toNat 0]).getD x3_4.length 0) 0=TC.val (Value.int IntKind.i64 ((flwR (g.nodes.getD (x1_5.getD x1_0.toNat 0).toNat default)).getD x3_0.toNat 0))] W25 (vc:=[(0:Int)≤x3_0,x3_0<(↑(flwR (g.nodes.getD (x1_5.getD x1_0.toNat 0).toNat default)).length:Int),x3_0.toNat<(flwR (g.nodes.getD (x1_5.getD x1_0.toNat 0).toNat default)).length,(0:Int)≤(flwR (g.nodes.getD (x1_5.getD x1_0.toNat 0).toNat default)).getD x3_0.toNat 0,(flwR (g.nodes.getD (x1_5.getD x1_0.toNat 0).toNat default)).getD x3_0.toNat 0<(↑x3_3.length:Int),((flwR (g.nodes.getD (x1_5.getD x1_0.toNat 0).toNat default)).getD x3_0.toNat 0).toNat<x3_3.length,(0:Int)≤x3_0,x3_0<(↑(flwR (g.nodes.getD (x1_5.getD x1_0.toNat 0).toNat default)).length:Int),x3_0.toNat<(flwR (g.nodes.getD (x1_5.getD x1_0.toNat 0).toNat default)).length,(0:Int)≤(flwR (g.nodes.getD (x1_5.getD x1_0.toNat 0).toNat default)).getD x3_0.toNat 0,(flwR (g.nodes.getD (x1_5.getD x1_0.toNat 0).toNat default)).getD x3_0.toNat 0<(↑x3_2.length:Int),((flwR (g.nodes.getD (x1_5.getD x1_0.toNat 0).toNat default)).getD x3_0.toNat 0).toNat<x3_2.length,(0:Int)≤x3_0,x3_0<(↑(flwR (g.nodes.getD (x1_5.getD x1_0.toNat 0).toNat default)).length:Int),x3_0.toNat<(flwR (g.nodes.getD (x1_5.getD x1_0.toNat 0).toNat default)).length,x3_4.length+1≤maxLen,(x3_4.length+1) * 8≤140737488355328,Fits IntKind.i64 (x3_0+(1:Int))]) (hv:=W6)
     ·refine tz [11,10,9,7,6,5,4,3,2,1] ?_
      refine Q2 Q63 (Qk5 g.nodes v.fst ((x3_2.getD ((flwR (g.nodes.getD (x1_5.getD x1_0.toNat 0).toNat default)).getD x3_0.toNat 0).toNat default).a) ((x3_2.getD ((flwR (g.nodes.getD (x1_5.getD x1_0.toNat 0).toNat default)).getD x3_0.toNat 0).toNat default).n) ((x3_2.getD ((flwR (g.nodes.getD (x1_5.getD x1_0.toNat 0).toNat default)).getD x3_0.toNat 0).toNat default).c) v.snd.fst v.snd.snd.fst v.snd.snd.snd W83 W83 W83) [] ?_ (vc:=[(0:Int)≤x3_0,x3_0<(↑(flwR (g.nodes.getD (x1_5.getD x1_0.toNat 0).toNat default)).length:Int),x3_0.toNat<(flwR (g.nodes.getD (x1_5.getD x1_0.toNat 0).toNat default)).length,(0:Int)≤(flwR (g.nodes.getD (x1_5.getD x1_0.toNat 0).toNat default)).getD x3_0.toNat 0,(flwR (g.nodes.getD (x1_5.getD x1_0.toNat 0).toNat default)).getD x3_0.toNat 0<(↑x3_2.length:Int),((flwR (g.nodes.getD (x1_5.getD x1_0.toNat 0).toNat default)).getD x3_0.toNat 0).toNat<x3_2.length]) (hv:=W6)
      refine tz [133,11,10,9,7,6,5,4,3,2,1] ?_
      refine Q0 (!decide (rd v.fst (Value.slice (x3_2.getD ((flwR (g.nodes.getD (x1_5.getD x1_0.toNat 0).toNat default)).getD x3_0.toNat 0).toNat default).a (x3_2.getD ((flwR (g.nodes.getD (x1_5.getD x1_0.toNat 0).toNat default)).getD x3_0.toNat 0).toNat default).n (x3_2.getD ((flwR (g.nodes.getD (x1_5.getD x1_0.toNat 0).toNat default)).getD x3_0.toNat 0).toNat default).c)=rd v.fst (Value.slice v.snd.fst v.snd.snd.fst v.snd.snd.snd))) (fun h6=>?_) (fun h6=>?_)
      ·exact Q1 [0,1000001] [0] [heldF g.nodes=(flwR (g.nodes.getD (x1_5.getD x1_0.toNat 0).toNat default)).getD x3_0.toNat 0] W65 (vc:=[(0:Int)≤x3_0,x3_0<(↑(flwR (g.nodes.getD (x1_5.getD x1_0.toNat 0).toNat default)).length:Int),x3_0.toNat<(flwR (g.nodes.getD (x1_5.getD x1_0.toNat 0).toNat default)).length]) (hv:=W6)
      ·exact Q6 (L98_81 g x1_0 x1_1 x1_3 x1_4 x1_5 v) (x3_0,x3_1,x3_2,x3_3,x3_4) ((x3_0+(1:Int),x3_1,x3_2,x3_3,x3_4)) W152 W124 (vc:=[Fits IntKind.i64 (x3_0+(1:Int))]) (hv:=W6)
    ·exact Q6 (L98_80 g X0) (x1_0,x1_1,x1_2,x1_3,x1_4,x1_5) ((x1_0+(1:Int),x3_1,v.fst,x3_2,x3_3,x3_4)) (by dsimp only [L98_80];have q:=of_decide_eq_true h2;have q1:=hJ1.most;have q2:=hJ1.k0;omega) (hJ3.done (of_decide_eq_false h4)) (vc:=[Fits IntKind.i64 (x1_0+(1:Int))]) (hv:=W6)
 ·exact Q1 [0,3] [0] [heldF g.nodes=(-1:Int)] W65
end Go.Proofs.YtmaodngbpfjnnaaGreat
end
noncomputable section
namespace Go.Proofs.YtmaodngbpfjnnaaGreat
open Go Go.Tx
def L57_80 (sh:List Dcl) (lk:List Dcl) (gs:List Grf):Lp (Int×List Dcl):=⟨fun x=>{ N:=151,fr:=[se 6 (C.i .i64 x.1),se 5 (C.h 4),se 4 (C.i .i64 0),se 3 (C.i .i64 0),se 2 (C.i .i64 0),se 1 (C.p 3 0)],rg:=[rowOf 3 (·.tc) sh,rowOf 3 (·.tc) lk,rowOf 4 (·.tc) gs,Reg.box 25 [C.h 0,C.h 1,C.h 2]]++[Dcl.ownR x.2],wr:=[] },fun x=>0≤x.1∧x.1≤(gs.length:Int)∧x.2=thrL (gs.take x.1.toNat),fun x=>((gs.length:Int)-x.1).toNat⟩
def L57_81 (sh:List Dcl) (lk:List Dcl) (gs:List Grf) (x2_1:List Dcl):Lp (Int×Int×Int×Int):=⟨fun x=>{ N:=151,fr:=[se 12 (C.i .i64 x.1),se 4 (C.i .i64 x.2.1),se 3 (C.i .i64 x.2.2.1),se 2 (C.i .i64 x.2.2.2),se 1 (C.p 3 0)],rg:=[rowOf 3 (·.tc) sh,rowOf 3 (·.tc) lk,rowOf 4 (·.tc) gs,Reg.box 25 [C.h 0,C.h 1,C.h 2],ownOf 104 3 (·.tc) x2_1,Reg.dead,Reg.dead,ownOf 9 1 (·.tc) ((namR false x2_1 ((namR false lk ((namR true sh []).getD [])).getD [])).getD [])],wr:=[] },fun x=>CJ sh lk gs x.1,fun x=>((gs.length:Int)-x.1).toNat⟩
def L57_82 (sh:List Dcl) (lk:List Dcl) (gs:List Grf) (x2_1:List Dcl) (x5_0:Int) (x5_1:Int) (x5_2:Int) (x5_3:Int):Lp (Int×Int×Int×Int):=⟨fun x=>{ N:=151,fr:=[se 14 (C.i .i64 x.1),se 13 (C.p 9 0),se 12 (C.i .i64 x5_0),se 4 (C.i .i64 x.2.1),se 3 (C.i .i64 x.2.2.1),se 2 (C.i .i64 x.2.2.2),se 1 (C.p 3 0)],rg:=[rowOf 3 (·.tc) sh,rowOf 3 (·.tc) lk,Reg.row 4 gs.length (fun i=>(gs.getD i default).tc) (some (x5_0.toNat,[C.v (Value.string (gs.getD x5_0.toNat default).name),C.i .i64 (gs.getD x5_0.toNat default).locals,C.i .i64 (gs.getD x5_0.toNat default).slots,C.h 8])),Reg.box 25 [C.h 0,C.h 1,C.h 2],ownOf 104 3 (·.tc) x2_1,Reg.dead,Reg.dead,ownOf 9 1 (·.tc) ((namR false x2_1 ((namR false lk ((namR true sh []).getD [])).getD [])).getD []),Reg.row 13 (gs.getD x5_0.toNat default).nodes.length (fun i=>((gs.getD x5_0.toNat default).nodes.getD i default).tc) none,Reg.box 107 [C.v (Value.string (gs.getD x5_0.toNat default).name),C.i .i64 (gs.getD x5_0.toNat default).locals,C.i .i64 (gs.getD x5_0.toNat default).slots,C.h 8]],wr:=[] },fun x=>CN sh.length lk.length (gs.getD x5_0.toNat default) x.1,fun x=>(((gs.getD x5_0.toNat default).nodes.length:Int)-x.1).toNat⟩
theorem Qal (sh lk:List Dcl) (gs:List Grf) (hs:∀ j:Nat,(sh.getD j default).name.size≤maxLen) (hl:∀ j:Nat,(lk.getD j default).name.size≤maxLen) (hg:∀ j:Nat,(gs.getD j default).name.size≤maxLen) (hw:UnitW gs):Ctr Tryz.prog 60 [Dcl.rowR sh,Dcl.rowR lk,Grf.rowR gs] [.agg [.h 0,.h 1,.h 2]]
 (Det (.tup [(false,[.i .i64 (chkU sh lk gs).1]),(false,[.i .i64 (chkU sh lk gs).2.1]),(false,[.i .i64 (chkU sh lk gs).2.2])]) [.dead,.dead,.dead]):=by
 refine Ctr.intro [] Tryz.func60 K K ?_
 refine Q0 (decide ((64:Int)<(↑sh.length:Int))||decide ((16:Int)<(↑lk.length:Int))||decide ((8:Int)<(↑gs.length:Int))) (fun h1=>?_) (fun h1=>?_)
 ·exact Q1 [] [0,1,2] [(chkU sh lk gs).fst=(60:Int),(chkU sh lk gs).snd.fst=(0:Int),(chkU sh lk gs).snd.snd=(0:Int)] W26
 ·refine tz [4,3,2,1] ?_
  refine Qb (L57_80 sh lk gs) (((0:Int),[])) ⟨Int.le_refl _,by omega,rfl⟩ ?_ [0,1,2,3,1000004] [6] [(0:Nat)=0] W0
  rintro ⟨x2_0,x2_1⟩ hJ2
  dsimp only [L57_80] at hJ2
  refine tz [6,5,4,3,2,1] ?_
  refine Q0 (decide (x2_0<(↑gs.length:Int))) (fun h3=>?_) (fun h3=>?_)
  ·exact Q1e (L57_80 sh lk gs) (x2_0,x2_1) ((x2_0+(1:Int),x2_1++[Dcl.mk (gs.getD x2_0.toNat default).name (0:Int) (0:Int)])) (by dsimp only [L57_80];have q:=of_decide_eq_true h3;have q2:=hJ2.1;omega) (by dsimp only [L57_80];have q:=of_decide_eq_true h3;have q2:=hJ2.1;refine ⟨by omega,by omega,?_⟩;rw [show (x2_0+1).toNat=x2_0.toNat+1 by omega,hJ2.2.2];exact Qk1 (by omega)) [(6,(Dcl.tc ⟨(gs.getD x2_0.toNat default).name,0,0⟩))] [0,1,2,3,6] [6,7] [(x2_1++[Dcl.mk (gs.getD x2_0.toNat default).name (0:Int) (0:Int)]).length=x2_1.length+1,∀ (i:Nat),i<(x2_1++[Dcl.mk (gs.getD x2_0.toNat default).name (0:Int) (0:Int)]).length→((x2_1++[Dcl.mk (gs.getD x2_0.toNat default).name (0:Int) (0:Int)]).getD i default).tc=if i=x2_1.length then (Dcl.mk (gs.getD x2_0.toNat default).name (0:Int) (0:Int)).tc else (x2_1.getD i default).tc] W45 (vc:=[(0:Int)≤x2_0,x2_0<(↑gs.length:Int),x2_0.toNat<gs.length,x2_1.length+1≤maxLen,(x2_1.length+1) * 32≤140737488355328,Fits IntKind.i64 (x2_0+(1:Int))]) (hv:=W30) (vc2:=[Value.string (gs.getD x2_0.toNat default).name=Value.string (gs.getD x2_0.toNat default).name,(0:Int)=(0:Int),(0:Int)=(0:Int)]) (hv2:=W135)
  ·refine tz [6,5,4,3,2,1] ?_
   refine Q2 G7 (Qfz sh true W16 W16) [] ?_
   refine tz [53,5,4,3,2,1] ?_
   refine Q2 G7 (Qak lk ((namR true sh []).getD []) false W16 W16) [1,5] ?_
   refine tz [60,8,7,5,4,3,2,1] ?_
   refine Q2 G7 (Qak x2_1 ((namR false lk ((namR true sh []).getD [])).getD []) false W16 W16) [4,6] ?_
   refine tz [66,9,8,4,3,2,1] ?_
   refine Q0 (!(namR true sh []).isSome||!(namR false lk ((namR true sh []).getD [])).isSome||!(namR false x2_1 ((namR false lk ((namR true sh []).getD [])).getD [])).isSome) (fun h4=>?_) (fun h4=>?_)
   ·exact Q1 [] [0,1,2] [(chkU sh lk gs).fst=(60:Int),(chkU sh lk gs).snd.fst=(0:Int),(chkU sh lk gs).snd.snd=(0:Int)] W26
   ·refine tz [4,3,2,1] ?_
    refine Qb (L57_81 sh lk gs x2_1) (((0:Int),(0:Int),(0:Int),(0:Int))) (CJ.start (Qes h1 (by rw [hJ2.2.2,List.take_of_length_le (by have q:=of_decide_eq_false h3;omega)]) h4)) ?_
    rintro ⟨x5_0,x5_1,x5_2,x5_3⟩ hJ5
    dsimp only [L57_81] at hJ5
    refine tz [12,4,3,2,1] ?_
    refine Q0 (decide (x5_0<(↑gs.length:Int))) (fun h6=>?_) (fun h6=>?_)
    ·refine Yu 2 (x5_0.toNat) ?_ (vc:=[x5_0.toNat<gs.length]) (hv:=W30)
     refine tz [12,4,3,2,1] ?_
     refine Q0 (decide ((gs.getD x5_0.toNat default).locals<(0:Int))||decide ((64:Int)<(gs.getD x5_0.toNat default).locals)||decide ((gs.getD x5_0.toNat default).slots<(gs.getD x5_0.toNat default).locals)||decide ((4160:Int)<(gs.getD x5_0.toNat default).slots)||decide ((↑(gs.getD x5_0.toNat default).nodes.length:Int)<(1:Int))||decide ((4096:Int)<(↑(gs.getD x5_0.toNat default).nodes.length:Int))) (fun h7=>?_) (fun h7=>?_) (vc:=[(0:Int)≤x5_0,x5_0<(↑gs.length:Int),x5_0.toNat=x5_0.toNat]) (hv:=W30)
     ·exact Q1 [] [0,1,2] [(chkU sh lk gs).fst=(60:Int),(chkU sh lk gs).snd.fst=x5_0,(chkU sh lk gs).snd.snd=(0:Int)] W26
     ·refine tz [13,12,4,3,2,1] ?_
      refine Qb (L57_82 sh lk gs x2_1 x5_0 x5_1 x5_2 x5_3) (((0:Int),x5_1,x5_2,x5_3)) (CN.start _ _ _) ?_
      rintro ⟨x8_0,x8_1,x8_2,x8_3⟩ hJ8
      dsimp only [L57_82] at hJ8
      refine tz [14,13,12,4,3,2,1] ?_
      refine Q0 (decide (x8_0<(↑(gs.getD x5_0.toNat default).nodes.length:Int))) (fun h9=>?_) (fun h9=>?_)
      ·refine tz [14,13,12,4,3,2,1] ?_
       refine Q2 Q60 (Qk4 sh lk gs (gs.getD x5_0.toNat default) ((gs.getD x5_0.toNat default).nodes.getD x8_0.toNat default)) [0,1,2,8] ?_ (vc:=[(0:Int)≤x8_0,x8_0<(↑(gs.getD x5_0.toNat default).nodes.length:Int),x8_0.toNat<(gs.getD x5_0.toNat default).nodes.length]) (hv:=W30)
       refine tz [138,137,136,135,134,133,132,131,14,13,12,4,3,2,1] ?_
       refine Q0 (!nodeR (↑sh.length:Int) (↑lk.length:Int) (gs.getD x5_0.toNat default) ((gs.getD x5_0.toNat default).nodes.getD x8_0.toNat default)) (fun h10=>?_) (fun h10=>?_)
       ·exact Q1 [] [0,1,2] [(chkU sh lk gs).fst=(60:Int),(chkU sh lk gs).snd.fst=x5_0,(chkU sh lk gs).snd.snd=x8_0] W26
       ·exact Q6 (L57_82 sh lk gs x2_1 x5_0 x5_1 x5_2 x5_3) (x8_0,x8_1,x8_2,x8_3) ((x8_0+(1:Int),x8_1,x8_2,x8_3)) (by dsimp only [L57_82];have q:=of_decide_eq_true h9;have q2:=hJ8.i0;omega) (hJ8.next (of_decide_eq_true h9) (Qaj h10 (hw _ _))) (vc:=[Fits IntKind.i64 (x8_0+(1:Int))]) (hv:=W30)
      ·refine tz [14,13,12,4,3,2,1] ?_
       refine Q2 Q61 (Qk6 (gs.getD x5_0.toNat default) W16 W16) [8] ?_
       refine tz [144,12,4,3,2,1] ?_
       refine Q0 (decide ((0:Int)≤heldF (gs.getD x5_0.toNat default).nodes)) (fun h10=>?_) (fun h10=>?_)
       ·exact Q1 [] [0,1,2] [(chkU sh lk gs).fst=(60:Int),(chkU sh lk gs).snd.fst=x5_0,(chkU sh lk gs).snd.snd=heldF (gs.getD x5_0.toNat default).nodes] W26
       ·exact Q6 (L57_81 sh lk gs x2_1) (x5_0,x5_1,x5_2,x5_3) ((x5_0+(1:Int),x8_1,x8_2,x8_3)) (by dsimp only [L57_81];have q:=of_decide_eq_true h6;have q2:=hJ5.t0;omega) (hJ5.next (of_decide_eq_true h6) h7 (hJ8.done (of_decide_eq_false h9)) h10) (vc:=[Fits IntKind.i64 (x5_0+(1:Int))]) (hv:=W30)
    ·exact Q1 [] [0,1,2] [(chkU sh lk gs).fst=(0:Int),(chkU sh lk gs).snd.fst=(0:Int),(chkU sh lk gs).snd.snd=(0:Int)] W26
end Go.Proofs.YtmaodngbpfjnnaaGreat
end
noncomputable section
namespace Go.Proofs.YtmaodngbpfjnnaaGreat
open Go Go.Tx
theorem Qg0 (sh lk:List Dcl) (gs:List Grf) (hs:∀ j:Nat,(sh.getD j default).name.size≤maxLen) (hl:∀ j:Nat,(lk.getD j default).name.size≤maxLen) (hg:∀ j:Nat,(gs.getD j default).name.size≤maxLen) (hw:UnitW gs) (hsel:¬ (chkU sh lk gs).1=0):Ctr Tryz.prog 37 [Dcl.rowR sh,Dcl.rowR lk,Grf.rowR gs] [.agg [.h 0,.h 1,.h 2]]
 (Det (.tup [(true,[.v (.slice none 0 0),.v (.slice none 0 0),.v (.slice none 0 0),.v (.slice none 0 0),.v (.slice none 0 0),.v (.slice none 0 0),.v (.slice none 0 0),.v (.slice none 0 0)]),(false,[.i .i64 (chkU sh lk gs).1])]) [.dead,.dead,.dead]):=by
 refine Ctr.intro [] Tryz.func37 K K ?_
 refine Q2 Q0f (Qal sh lk gs W27 W27 W27 W27) [] ?_
 refine tz [14,3,2,1] ?_
 refine Q0 (!decide ((chkU sh lk gs).fst=(0:Int))) (fun h1=>?_) (fun h1=>?_)
 ·exact Q1
 ·exact (show False from by exact hsel W133).elim
def L25_80 (sh:List Dcl) (lk:List Dcl) (gs:List Grf):Lp (Int×List Int×List Slt):=⟨fun x=>{ N:=72,fr:=[se 27 (C.i .i64 x.1),se 26 (C.i .i64 (↑gs.length:Int)),se 25 (C.h 2),se 7 (C.p 5 0),se 3 (C.i .i64 0),se 2 (C.p 4 0),se 1 (C.p 3 0)],rg:=[rowOf 3 (·.tc) sh,rowOf 3 (·.tc) lk,rowOf 4 (·.tc) gs,Reg.box 25 [C.h 0,C.h 1,C.h 2],Reg.box 62 [C.v (Value.slice none 0 0),C.v (Value.slice none 0 0),C.v (Value.slice none 0 0),C.v (Value.slice none 0 0),C.v (Value.slice none 0 0),C.v (Value.slice none 0 0),C.v (Value.slice none 0 0),C.v (Value.slice none 0 0)],Reg.box 62 [C.h 0,C.h 1,C.h 2,C.h 6,C.h 7,C.v (Value.slice none 0 0),C.v (Value.slice none 0 0),C.v (Value.slice none 0 0)]]++[IntOwn x.2.1]++[Slt.ownR x.2.2],wr:=[] },fun x=>0≤x.1∧x.1≤(gs.length:Int)∧x.2.1=List.replicate x.1.toNat 0∧x.2.2=(gs.take x.1.toNat).map (fun g=>(⟨List.replicate g.slots.toNat 0⟩:Slt)),fun x=>((gs.length:Int)-x.1).toNat⟩
def L25_81 (sh:List Dcl) (lk:List Dcl) (gs:List Grf) (x2_1:List Int) (x2_2:List Slt):Lp (Int×List Int):=⟨fun x=>{ N:=72,fr:=[se 48 (C.i .i64 x.1),se 47 (C.i .i64 (↑sh.length:Int)),se 46 (C.h 0),se 7 (C.p 5 0),se 3 (C.i .i64 0),se 2 (C.p 4 0),se 1 (C.p 3 0)],rg:=[rowOf 3 (·.tc) sh,rowOf 3 (·.tc) lk,rowOf 4 (·.tc) gs,Reg.box 25 [C.h 0,C.h 1,C.h 2],Reg.box 62 [C.v (Value.slice none 0 0),C.v (Value.slice none 0 0),C.v (Value.slice none 0 0),C.v (Value.slice none 0 0),C.v (Value.slice none 0 0),C.v (Value.slice none 0 0),C.v (Value.slice none 0 0),C.v (Value.slice none 0 0)],Reg.box 62 [C.h 0,C.h 1,C.h 2,C.h 6,C.h 7,C.h 8,C.v (Value.slice none 0 0),C.v (Value.slice none 0 0)],IntOwn x2_1,ownOf 26 1 (·.tc) x2_2]++[WordOwn x.2],wr:=[] },fun x=>0≤x.1∧x.1≤(sh.length:Int)∧x.2=(sh.take x.1.toNat).map (·.word),fun x=>((sh.length:Int)-x.1).toNat⟩
def L25_82 (sh:List Dcl) (lk:List Dcl) (gs:List Grf) (x2_1:List Int) (x2_2:List Slt) (x4_1:List Int):Lp (Int×List Int):=⟨fun x=>{ N:=72,fr:=[se 63 (C.i .i64 x.1),se 62 (C.i .i64 (↑lk.length:Int)),se 7 (C.p 5 0),se 3 (C.i .i64 0),se 2 (C.p 4 0)],rg:=[rowOf 3 (·.tc) sh,rowOf 3 (·.tc) lk,rowOf 4 (·.tc) gs,Reg.box 25 [C.h 0,C.h 1,C.h 2],Reg.box 62 [C.v (Value.slice none 0 0),C.v (Value.slice none 0 0),C.v (Value.slice none 0 0),C.v (Value.slice none 0 0),C.v (Value.slice none 0 0),C.v (Value.slice none 0 0),C.v (Value.slice none 0 0),C.v (Value.slice none 0 0)],Reg.box 62 [C.h 0,C.h 1,C.h 2,C.h 6,C.h 7,C.h 8,C.h 9,C.v (Value.slice none 0 0)],IntOwn x2_1,ownOf 26 1 (·.tc) x2_2,WordOwn x4_1]++[IntOwn x.2],wr:=[] },fun x=>0≤x.1∧x.1≤(lk.length:Int)∧x.2=List.replicate x.1.toNat (-1),fun x=>((lk.length:Int)-x.1).toNat⟩
theorem Q8s (sh lk:List Dcl) (gs:List Grf) (hs:∀ j:Nat,(sh.getD j default).name.size≤maxLen) (hl:∀ j:Nat,(lk.getD j default).name.size≤maxLen) (hg:∀ j:Nat,(gs.getD j default).name.size≤maxLen) (hw:UnitW gs) (hsel:(chkU sh lk gs).1=0):Ctr Tryz.prog 37 [Dcl.rowR sh,Dcl.rowR lk,Grf.rowR gs] [.agg [.h 0,.h 1,.h 2]]
 (Det (.tup [(true,[.h 0,.h 1,.h 2,.h 3,.h 4,.h 5,.h 6,.h 7]),(false,[.i .i64 0])]) [.dead,.dead,.dead,IntOwn (newM sh lk gs).pos,Slt.ownR (newM sh lk gs).sl,WordOwn (newM sh lk gs).mem,IntOwn (newM sh lk gs).ho,Prt.ownR []]):=by
 have hcb:=Q2p hsel
 refine Ctr.intro [] Tryz.func37 K K ?_
 refine Q2 Q0f (Qal sh lk gs W59 W59 W59 W59) [] ?_
 refine tz [14,3,2,1] ?_
 refine Q0 (!decide ((chkU sh lk gs).fst=(0:Int))) (fun h1=>?_) (fun h1=>?_)
 ·exact (show False from by simp [hsel] at h1).elim
 ·refine tz [3,2,1] ?_
  refine Qb (L25_80 sh lk gs) (((0:Int),[],[])) ⟨Int.le_refl _,by omega,rfl,rfl⟩ ?_ [0,1,2,3,4,5,1000006,1000007] [17,18] [(0:Nat)=0,(0:Nat)=0] W0
  rintro ⟨x2_0,x2_1,x2_2⟩ hJ2
  dsimp only [L25_80] at hJ2
  refine tz [27,26,25,7,3,2,1] ?_
  refine Q0 (decide (x2_0<(↑gs.length:Int))) (fun h3=>?_) (fun h3=>?_)
  ·refine Yu 2 (x2_0.toNat) ?_ (vc:=[x2_0.toNat<gs.length]) (hv:=W29)
   exact Q1e (L25_80 sh lk gs) (x2_0,x2_1,x2_2) ((x2_0+(1:Int),x2_1++[(0:Int)],x2_2++[Slt.mk (List.replicate (gs.getD x2_0.toNat default).slots.toNat (0:Int))])) (by dsimp only [L25_80];have q:=of_decide_eq_true h3;have z:=hJ2.1;omega) (by dsimp only [L25_80];have q:=of_decide_eq_true h3;have z:=hJ2.1;have e:(x2_0+1).toNat=x2_0.toNat+1:=(by omega);exact ⟨by omega,by omega,by rw [e,hJ2.2.2.1,List.replicate_succ'],by rw [e,hJ2.2.2.2,← Yv (L:=gs) (by omega),List.map_append];rfl⟩) [(14,(Slt.tc (Slt.mk (List.replicate (gs.getD x2_0.toNat default).slots.toNat 0))))] [0,1,2,3,4,5,11,14] [17,18,19,20,21] [(x2_1++[(0:Int)]).length=x2_1.length+1,∀ (i:Nat),i<(x2_1++[(0:Int)]).length→i≠x2_1.length→i64T ((x2_1++[(0:Int)]).getD i 0)=i64T (x2_1.getD i 0),i64T ((x2_1++[(0:Int)]).getD x2_1.length 0) 0=TC.val (Value.int IntKind.i64 (0:Int)),(x2_2++[Slt.mk (List.replicate (gs.getD x2_0.toNat default).slots.toNat (0:Int))]).length=x2_2.length+1,∀ (i:Nat),i<(x2_2++[Slt.mk (List.replicate (gs.getD x2_0.toNat default).slots.toNat (0:Int))]).length→((x2_2++[Slt.mk (List.replicate (gs.getD x2_0.toNat default).slots.toNat (0:Int))]).getD i default).tc=if i=x2_2.length then (Slt.mk (List.replicate (gs.getD x2_0.toNat default).slots.toNat (0:Int))).tc else (x2_2.getD i default).tc] W89 (vc:=[(0:Int)≤x2_0,x2_0<(↑gs.length:Int),x2_0.toNat=x2_0.toNat,x2_1.length+1≤maxLen,(x2_1.length+1) * 8≤140737488355328,(0:Int)≤(gs.getD x2_0.toNat default).slots,(gs.getD x2_0.toNat default).slots≤(gs.getD x2_0.toNat default).slots,(gs.getD x2_0.toNat default).slots * (8:Int)≤(140737488355328:Int),(gs.getD x2_0.toNat default).slots≤(↑maxLen:Int),(0:Int)≤(gs.getD x2_0.toNat default).slots,(gs.getD x2_0.toNat default).slots≤(gs.getD x2_0.toNat default).slots,(gs.getD x2_0.toNat default).slots * (8:Int)≤(140737488355328:Int),(gs.getD x2_0.toNat default).slots≤(↑maxLen:Int),x2_2.length+1≤maxLen,(x2_2.length+1) * 24≤140737488355328,Fits IntKind.i64 (x2_0+(1:Int))]) (hv:=W29) (vc2:=[(List.replicate (gs.getD x2_0.toNat default).slots.toNat (0:Int)).length=(gs.getD x2_0.toNat default).slots.toNat,∀ (i:Nat),i<(List.replicate (gs.getD x2_0.toNat default).slots.toNat (0:Int)).length→i64T ((List.replicate (gs.getD x2_0.toNat default).slots.toNat (0:Int)).getD i 0)=fun j=>valT (Value.int IntKind.i64 (0:Int)).cells.toList j]) (hv2:=W126)
  ·refine tz [27,26,25,7,3,2,1] ?_
   refine Qb (L25_81 sh lk gs x2_1 x2_2) (((0:Int),[])) ⟨Int.le_refl _,by omega,rfl⟩ ?_ [0,1,2,3,4,5,6,7,1000008] [20] [(0:Nat)=0] W0
   rintro ⟨x4_0,x4_1⟩ hJ4
   dsimp only [L25_81] at hJ4
   refine tz [48,47,46,7,3,2,1] ?_
   refine Q0 (decide (x4_0<(↑sh.length:Int))) (fun h5=>?_) (fun h5=>?_)
   ·exact Q6 (L25_81 sh lk gs x2_1 x2_2) (x4_0,x4_1) ((x4_0+(1:Int),x4_1++[(sh.getD x4_0.toNat default).word])) (by dsimp only [L25_81];have q:=of_decide_eq_true h5;have z:=hJ4.1;omega) (by dsimp only [L25_81];have q:=of_decide_eq_true h5;have z:=hJ4.1;have e:(x4_0+1).toNat=x4_0.toNat+1:=(by omega);exact ⟨by omega,by omega,by rw [e,hJ4.2.2,← Yv (L:=sh) (by omega),List.map_append];rfl⟩) [0,1,2,3,4,5,6,7,11] [20,21,22] [(x4_1++[(sh.getD x4_0.toNat default).word]).length=x4_1.length+1,∀ (i:Nat),i<(x4_1++[(sh.getD x4_0.toNat default).word]).length→i≠x4_1.length→i64T ((x4_1++[(sh.getD x4_0.toNat default).word]).getD i 0)=i64T (x4_1.getD i 0),i64T ((x4_1++[(sh.getD x4_0.toNat default).word]).getD x4_1.length 0) 0=TC.val (Value.int IntKind.i64 (sh.getD x4_0.toNat default).word)] W89 (vc:=[(0:Int)≤x4_0,x4_0<(↑sh.length:Int),x4_0.toNat<sh.length,x4_1.length+1≤maxLen,(x4_1.length+1) * 8≤140737488355328,Fits IntKind.i64 (x4_0+(1:Int))]) (hv:=W29)
   ·refine tz [48,47,46,7,3,2,1] ?_
    refine Qb (L25_82 sh lk gs x2_1 x2_2 x4_1) (((0:Int),[])) ⟨Int.le_refl _,by omega,rfl⟩ ?_ [0,1,2,3,4,5,6,7,8,1000009] [21] [(0:Nat)=0] W0
    rintro ⟨x6_0,x6_1⟩ hJ6
    dsimp only [L25_82] at hJ6
    refine tz [63,62,7,3,2] ?_
    refine Q0 (decide (x6_0<(↑lk.length:Int))) (fun h7=>?_) (fun h7=>?_)
    ·exact Q6 (L25_82 sh lk gs x2_1 x2_2 x4_1) (x6_0,x6_1) ((x6_0+(1:Int),x6_1++[(-1:Int)])) (by dsimp only [L25_82];have q:=of_decide_eq_true h7;have z:=hJ6.1;omega) (by dsimp only [L25_82];have q:=of_decide_eq_true h7;have z:=hJ6.1;have e:(x6_0+1).toNat=x6_0.toNat+1:=(by omega);exact ⟨by omega,by omega,by rw [e,hJ6.2.2,List.replicate_succ']⟩) [0,1,2,3,4,5,6,7,8,11] [21,22,23] [(x6_1++[(-1:Int)]).length=x6_1.length+1,∀ (i:Nat),i<(x6_1++[(-1:Int)]).length→i≠x6_1.length→i64T ((x6_1++[(-1:Int)]).getD i 0)=i64T (x6_1.getD i 0),i64T ((x6_1++[(-1:Int)]).getD x6_1.length 0) 0=TC.val (Value.int IntKind.i64 (-1:Int))] W89 (vc:=[x6_1.length+1≤maxLen,(x6_1.length+1) * 8≤140737488355328,Fits IntKind.i64 (x6_0+(1:Int))]) (hv:=W29)
    ·exact Q1 [0,1,2,6,7,8,9,1000007] [0,1,2,3,4,5,6,7,8] [(newM sh lk gs).pos.length=x2_1.length,∀ (i:Nat),i<(newM sh lk gs).pos.length→i64T ((newM sh lk gs).pos.getD i 0)=i64T (x2_1.getD i 0),(newM sh lk gs).sl.length=x2_2.length,∀ (i:Nat),i<(newM sh lk gs).sl.length→((newM sh lk gs).sl.getD i default).tc=(x2_2.getD i default).tc,(newM sh lk gs).mem.length=x4_1.length,∀ (i:Nat),i<(newM sh lk gs).mem.length→i64T ((newM sh lk gs).mem.getD i 0)=i64T (x4_1.getD i 0),(newM sh lk gs).ho.length=x6_1.length,∀ (i:Nat),i<(newM sh lk gs).ho.length→i64T ((newM sh lk gs).ho.getD i 0)=i64T (x6_1.getD i 0),(0:Nat)=0] (by have e0:x2_0.toNat=gs.length:=(by have q:=of_decide_eq_false h3;have z:=hJ2.2.1;omega);have e1:x4_0.toNat=sh.length:=(by have q:=of_decide_eq_false h5;have z:=hJ4.2.1;omega);have e2:x6_0.toNat=lk.length:=(by have q:=of_decide_eq_false h7;have z:=hJ6.2.1;omega);have q0:=hJ2.2.2.1;have q1:=hJ2.2.2.2;have q2:=hJ4.2.2;have q3:=hJ6.2.2;rw [e0] at q0 q1;rw [e1,List.take_length] at q2;rw [e2] at q3;rw [List.take_length] at q1;subst q0 q1 q2 q3;simp only [Conj];(repeat' apply And.intro)<;>first | trivial | rfl | (intros;first | trivial | rfl))
end Go.Proofs.YtmaodngbpfjnnaaGreat
end
noncomputable section
namespace Go.Proofs.YtmaodngbpfjnnaaGreat
open Go Go.Tx
theorem Q8t (sh lk:List Dcl) (gs:List Grf) (pos:List Int) (sl:List Slt) (mem ho:List Int) (pr:List Prt) (cl:List Cls) (most:Int) (st:List Int) (t:Int) (hQ:MchQ sh.length lk.length gs (Mch.mk pos sl mem ho pr)) (hb:sh.length≤64∧lk.length≤16∧gs.length≤8) (hp:pr.length≤1048576) (hw:UnitW gs) (hst:st.length≤1048576) (hsel:¬ (telAdv sh.length gs cl most t (Tel.mk 0 (Mch.mk pos sl mem ho pr) st)).err=0):Ctr Tryz.prog 38 [Dcl.rowR sh,Dcl.rowR lk,Grf.rowR gs,IntRow pos,Slt.rowR sl,WordRow mem,IntRow ho,Prt.rowR pr,Cls.rowR cl,IntOwn st] [.agg [.h 0,.h 1,.h 2,.h 3,.h 4,.h 5,.h 6,.h 7,.h 8,.i .i64 most,.h 9],.c (.i .i64 t)]
 (Det (.tup [(true,[.h 0,.h 1,.h 2,.h 3,.h 4,.h 5,.h 6,.h 7,.h 8,.i .i64 most,.h 9]),(false,[.i .i64 (telAdv sh.length gs cl most t (Tel.mk 0 (Mch.mk pos sl mem ho pr) st)).err])]) [.dead,.dead,.dead,.dead,.dead,.dead,.dead,.dead,.dead,IntOwn st]):=by
 by_cases h:(advM sh.length gs cl t most (Mch.mk pos sl mem ho pr)).err=0
 ·exact Qdv _ _ _ _ _ _ _ _ _ _ _ t hQ hb hp hw hst h hsel
 ·exact Qdu _ _ _ _ _ _ _ _ _ _ _ t hQ hb hp hw hst h
theorem Qcr (sh lk:List Dcl) (gs:List Grf) (hs:∀ j:Nat,(sh.getD j default).name.size≤maxLen) (hl:∀ j:Nat,(lk.getD j default).name.size≤maxLen) (hg:∀ j:Nat,(gs.getD j default).name.size≤maxLen) (hw:UnitW gs) (cl:List Cls) (most:Int) (hsel:¬ (chkU sh lk gs).1=0):Ctr Tryz.prog 18 [Dcl.rowR sh,Dcl.rowR lk,Grf.rowR gs,Cls.rowR cl] [.agg [.h 0,.h 1,.h 2],.c (.h 3),.c (.i .i64 most)]
 (Det (.tup [(true,[.v (.slice none 0 0),.v (.slice none 0 0),.v (.slice none 0 0),.v (.slice none 0 0),.v (.slice none 0 0),.v (.slice none 0 0),.v (.slice none 0 0),.v (.slice none 0 0),.h 3,.i .i64 most,.v (.slice none 0 0)]),(false,[.i .i64 (begT sh lk gs cl most)])]) [.dead,.dead,.dead,.dead]):=by
 refine Ctr.intro [] Tryz.func18 K K ?_
 refine Q2 J0 (Qg0 sh lk gs W59 W59 W59 W59 W59) [] ?_
 refine tz [12,7,6,3,1,2] ?_
 refine Q0 (decide ((chkU sh lk gs).fst=(0:Int))&&!decide ((↑cl.length:Int)=(↑sh.length:Int))) (fun h1=>?_) (fun h1=>?_)
 ·exact (show False from by simp [hsel] at h1).elim
 ·refine tz [9,8,7,6,1,2] ?_
  refine Q0 (decide ((chkU sh lk gs).fst=(0:Int))&&(decide (most<(1:Int))||decide ((1048576:Int)<most))) (fun h2=>?_) (fun h2=>?_)
  ·exact (show False from by simp [hsel] at h2).elim
  ·exact Q1 [] [10] [begT sh lk gs cl most=(chkU sh lk gs).fst] (by simp only [Conj];exact Qld hsel)
theorem Qcs (sh lk:List Dcl) (gs:List Grf) (hs:∀ j:Nat,(sh.getD j default).name.size≤maxLen) (hl:∀ j:Nat,(lk.getD j default).name.size≤maxLen) (hg:∀ j:Nat,(gs.getD j default).name.size≤maxLen) (hw:UnitW gs) (cl:List Cls) (most:Int) (hsel:(chkU sh lk gs).1=0) (hsel2:¬ (begT sh lk gs cl most)=0):Ctr Tryz.prog 18 [Dcl.rowR sh,Dcl.rowR lk,Grf.rowR gs,Cls.rowR cl] [.agg [.h 0,.h 1,.h 2],.c (.h 3),.c (.i .i64 most)]
 (Det (.tup [(true,[.h 0,.h 1,.h 2,.h 4,.h 5,.h 6,.h 7,.h 8,.h 3,.i .i64 most,.v (.slice none 0 0)]),(false,[.i .i64 (begT sh lk gs cl most)])]) [.dead,.dead,.dead,.dead,IntOwn (newM sh lk gs).pos,Slt.ownR (newM sh lk gs).sl,WordOwn (newM sh lk gs).mem,IntOwn (newM sh lk gs).ho,Prt.ownR []]):=by
 refine Ctr.intro [] Tryz.func18 K K ?_
 refine Q2 J0 (Q8s sh lk gs W59 W59 W59 W59 W59) [] ?_
 refine tz [12,7,6,3,1,2] ?_
 refine Q0 (decide ((0:Int)=(0:Int))&&!decide ((↑cl.length:Int)=(↑sh.length:Int))) (fun h1=>?_) (fun h1=>?_)
 ·refine tz [9,8,7,6,1,2] ?_
  refine Q0 (decide ((210:Int)=(0:Int))&&(decide (most<(1:Int))||decide ((1048576:Int)<most))) (fun h2=>?_) (fun h2=>?_)
  ·exact absurd h2 W99
  ·exact Q1 [0,1,2,3,6,7,8,9,10] [8,12] [(0:Nat)=0,begT sh lk gs cl most=(210:Int)] (by simp only [Conj,begT];grind)
 ·refine tz [9,8,7,6,1,2] ?_
  refine Q0 (decide ((0:Int)=(0:Int))&&(decide (most<(1:Int))||decide ((1048576:Int)<most))) (fun h2=>?_) (fun h2=>?_)
  ·exact Q1 [0,1,2,3,6,7,8,9,10] [8,12] [(0:Nat)=0,begT sh lk gs cl most=(2:Int)] (by simp only [Conj,begT];grind)
  ·exact (show False from by (unfold begT at hsel2;simp [hsel] at hsel2 h1 h2;grind)).elim
theorem Q6k (sh lk:List Dcl) (gs:List Grf) (hs:∀ j:Nat,(sh.getD j default).name.size≤maxLen) (hl:∀ j:Nat,(lk.getD j default).name.size≤maxLen) (hg:∀ j:Nat,(gs.getD j default).name.size≤maxLen) (hw:UnitW gs) (cl:List Cls) (most:Int) (hsel2:(begT sh lk gs cl most)=0):Ctr Tryz.prog 18 [Dcl.rowR sh,Dcl.rowR lk,Grf.rowR gs,Cls.rowR cl] [.agg [.h 0,.h 1,.h 2],.c (.h 3),.c (.i .i64 most)]
 (Det (.tup [(true,[.h 0,.h 1,.h 2,.h 4,.h 5,.h 6,.h 7,.h 8,.h 3,.i .i64 most,.h 9]),(false,[.i .i64 0])]) [.dead,.dead,.dead,.dead,IntOwn (newM sh lk gs).pos,Slt.ownR (newM sh lk gs).sl,WordOwn (newM sh lk gs).mem,IntOwn (newM sh lk gs).ho,Prt.ownR [],IntOwn []]):=by
 refine Ctr.intro [] Tryz.func18 K K ?_
 have hsel:(chkU sh lk gs).1=0:=(Zk hsel2).1
 refine Q2 J0 (Q8s sh lk gs W59 W59 W59 W59 W59) [] ?_
 refine tz [12,7,6,3,1,2] ?_
 refine Q0 (decide ((0:Int)=(0:Int))&&!decide ((↑cl.length:Int)=(↑sh.length:Int))) (fun h1=>?_) (fun h1=>?_)
 ·exact (show False from by (have z:=Zk hsel2;grind)).elim
 ·refine tz [9,8,7,6,1,2] ?_
  refine Q0 (decide ((0:Int)=(0:Int))&&(decide (most<(1:Int))||decide ((1048576:Int)<most))) (fun h2=>?_) (fun h2=>?_)
  ·exact (show False from by (have z:=Zk hsel2;grind)).elim
  ·exact Q1 [0,1,2,3,6,7,8,9,10,1000009] [8,10] [(0:Nat)=0,(0:Nat)=0] (by simp only [Conj] at *<;>grind)
def L47_60 (sh:List Dcl) (lk:List Dcl) (gs:List Grf) (pos:List Int) (sl:List Slt) (mem:List Int) (ho:List Int) (pr:List Prt) (cl:List Cls) (most:Int) (st:List Int) (l:List Int):Lp (Int×Int×List Int×List Slt×List Int×List Int×List Prt×List Int):=⟨fun x=>{ N:=29,fr:=[se 12 (C.i .i64 x.1),se 11 (C.i .i64 (↑l.length:Int)),se 10 (C.h 10),se 5 (C.i .i64 x.2.1),se 4 (C.p 12 0),se 2 (C.p 11 0)],rg:=[rowOf 3 (·.tc) sh,rowOf 3 (·.tc) lk,rowOf 4 (·.tc) gs,IntRow pos,rowOf 1 (·.tc) sl,IntRow mem,IntRow ho,rowOf 2 (·.tc) pr,rowOf 3 (·.tc) cl,Reg.dead,IntRow l,Reg.box 64 [C.h 0,C.h 1,C.h 2,C.h 13,C.h 14,C.h 15,C.h 16,C.h 17,C.h 8,C.i .i64 most,C.h 18],Reg.box 64 [C.v (Value.slice none 0 0),C.v (Value.slice none 0 0),C.v (Value.slice none 0 0),C.v (Value.slice none 0 0),C.v (Value.slice none 0 0),C.v (Value.slice none 0 0),C.v (Value.slice none 0 0),C.v (Value.slice none 0 0),C.v (Value.slice none 0 0),C.i .i64 0,C.v (Value.slice none 0 0)]]++[IntRow x.2.2.1]++[Slt.rowR x.2.2.2.1]++[WordRow x.2.2.2.2.1]++[IntRow x.2.2.2.2.2.1]++[Prt.rowR x.2.2.2.2.2.2.1]++[IntOwn x.2.2.2.2.2.2.2],wr:=[] },fun x=>FolJ sh.length lk.length gs cl most l (Tel.mk 0 (Mch.mk pos sl mem ho pr) st) x.1 (Tel.mk 0 (Mch.mk x.2.2.1 x.2.2.2.1 x.2.2.2.2.1 x.2.2.2.2.2.1 x.2.2.2.2.2.2.1) x.2.2.2.2.2.2.2),fun x=>((l.length:Int)-x.1).toNat⟩
theorem Qdx (sh lk:List Dcl) (gs:List Grf) (pos:List Int) (sl:List Slt) (mem ho:List Int) (pr:List Prt) (cl:List Cls) (most:Int) (st:List Int) (l:List Int) (hQ:MchQ sh.length lk.length gs (Mch.mk pos sl mem ho pr)) (hb:sh.length≤64∧lk.length≤16∧gs.length≤8) (hp:pr.length≤1048576) (hw:UnitW gs) (hst:st.length≤1048576) (hpp:pr.length≤st.length) (hsel0:¬ (telGo sh.length gs cl most l (Tel.mk 0 (Mch.mk pos sl mem ho pr) st)).err=0):Ctr Tryz.prog 19 [Dcl.rowR sh,Dcl.rowR lk,Grf.rowR gs,IntRow pos,Slt.rowR sl,WordRow mem,IntRow ho,Prt.rowR pr,Cls.rowR cl,IntOwn st,IntRow l] [.agg [.h 0,.h 1,.h 2,.h 3,.h 4,.h 5,.h 6,.h 7,.h 8,.i .i64 most,.h 9],.c (.h 10)]
 (Det (.tup [(true,[.h 0,.h 1,.h 2,.h 11,.h 12,.h 13,.h 14,.h 15,.h 8,.i .i64 most,.h 16]),(false,[.i .i64 (telGo sh.length gs cl most l (Tel.mk 0 (Mch.mk pos sl mem ho pr) st)).err])]) [.dead,.dead,.dead,.dead,.dead,.dead,.dead,.dead,.dead,.dead,.dead,.one,.one,.one,.one,.one,.one]):=by
 refine Ctr.intro [] Tryz.func19 K K ?_
 refine RunF.lens 10 (m:=l.length) K (fun hlens_10=>?_)
 refine Qb (L47_60 sh lk gs pos sl mem ho pr cl most st l) (((0:Int),(0:Int),pos,sl,mem,ho,pr,st)) (FolJ.start hQ hpp hst) ?_ [0,1,2,3,4,5,6,7,8,9,10,11,12,3,4,5,6,7,9]
 rintro ⟨x1_0,x1_1,x1_2,x1_3,x1_4,x1_5,x1_6,x1_7⟩ hJ1
 dsimp only [L47_60] at hJ1
 refine tz [12,11,10,5,4,2] ?_
 refine Q0 (decide (x1_0<(↑l.length:Int))) (fun h2=>?_) (fun h2=>?_)
 ·by_cases hsel:(telAdv sh.length gs cl most (l.getD x1_0.toNat 0) (Tel.mk 0 (Mch.mk x1_2 x1_3 x1_4 x1_5 x1_6) x1_7)).err=0
  ·refine tz [12,11,10,5,4,2] ?_
   refine Q2 Zy (Q8r sh lk gs x1_2 x1_3 x1_4 x1_5 x1_6 cl most x1_7 (l.getD x1_0.toNat 0) W13 W13 W13 W13 W13 W13) [0,1,2,13,14,15,16,17,8,18] ?_ (vc:=[(0:Int)≤x1_0,x1_0<(↑l.length:Int),x1_0.toNat<l.length]) (hv:=W36)
   refine tz [19,12,11,10,5,4,2] ?_
   refine Q0 (!decide ((0:Int)=(0:Int))) (fun h3=>?_) (fun h3=>?_)
   ·exact absurd h3 W99
   ·exact Q6 (L47_60 sh lk gs pos sl mem ho pr cl most st l) (x1_0,x1_1,x1_2,x1_3,x1_4,x1_5,x1_6,x1_7) ((x1_0+(1:Int),x1_1,(telAdv sh.length gs cl most (l.getD x1_0.toNat 0) (Tel.mk (0:Int) (Mch.mk x1_2 x1_3 x1_4 x1_5 x1_6) x1_7)).m.pos,(telAdv sh.length gs cl most (l.getD x1_0.toNat 0) (Tel.mk (0:Int) (Mch.mk x1_2 x1_3 x1_4 x1_5 x1_6) x1_7)).m.sl,(telAdv sh.length gs cl most (l.getD x1_0.toNat 0) (Tel.mk (0:Int) (Mch.mk x1_2 x1_3 x1_4 x1_5 x1_6) x1_7)).m.mem,(telAdv sh.length gs cl most (l.getD x1_0.toNat 0) (Tel.mk (0:Int) (Mch.mk x1_2 x1_3 x1_4 x1_5 x1_6) x1_7)).m.ho,(telAdv sh.length gs cl most (l.getD x1_0.toNat 0) (Tel.mk (0:Int) (Mch.mk x1_2 x1_3 x1_4 x1_5 x1_6) x1_7)).m.pr,(telAdv sh.length gs cl most (l.getD x1_0.toNat 0) (Tel.mk (0:Int) (Mch.mk x1_2 x1_3 x1_4 x1_5 x1_6) x1_7)).st)) (by dsimp only [L47_60];have z:=hJ1.lo;have q:=of_decide_eq_true h2;omega) (FolJ.next hw hJ1 h2 hsel) [0,1,2,3,4,5,6,7,8,9,10,11,12,19,20,21,22,23,24] (vc:=[Fits IntKind.i64 (x1_0+(1:Int))]) (hv:=W36)
  ·refine tz [12,11,10,5,4,2] ?_
   refine Q2 Zy (Q8t sh lk gs x1_2 x1_3 x1_4 x1_5 x1_6 cl most x1_7 (l.getD x1_0.toNat 0) W13 W13 W13 W13 W13 W13) [0,1,2,13,14,15,16,17,8,18] ?_ (vc:=[(0:Int)≤x1_0,x1_0<(↑l.length:Int),x1_0.toNat<l.length]) (hv:=W36)
   refine tz [19,12,11,10,5,4,2] ?_
   refine Q0 (!decide ((telAdv sh.length gs cl most (l.getD x1_0.toNat 0) (Tel.mk (0:Int) (Mch.mk x1_2 x1_3 x1_4 x1_5 x1_6) x1_7)).err=(0:Int))) (fun h3=>?_) (fun h3=>?_)
   ·rw [FolJ.err hJ1 h2 hsel]
    exact Q1 [0,1,2,3,4,5,6,7,8,9,10,13,14,15,16,17,18]
   ·exact (show False from by exact hsel (of_decide_eq_true (by simpa only [Bool.not_eq_false'] using h3))).elim
 ·exact (show False from by rw [FolJ.done hJ1 h2] at hsel0;exact hsel0 rfl).elim
def L47_70 (sh:List Dcl) (lk:List Dcl) (gs:List Grf) (pos:List Int) (sl:List Slt) (mem:List Int) (ho:List Int) (pr:List Prt) (cl:List Cls) (most:Int) (st:List Int) (l:List Int):Lp (Int×Int×List Int×List Slt×List Int×List Int×List Prt×List Int):=⟨fun x=>{ N:=29,fr:=[se 12 (C.i .i64 x.1),se 11 (C.i .i64 (↑l.length:Int)),se 10 (C.h 10),se 5 (C.i .i64 x.2.1),se 4 (C.p 12 0),se 2 (C.p 11 0)],rg:=[rowOf 3 (·.tc) sh,rowOf 3 (·.tc) lk,rowOf 4 (·.tc) gs,IntRow pos,rowOf 1 (·.tc) sl,IntRow mem,IntRow ho,rowOf 2 (·.tc) pr,rowOf 3 (·.tc) cl,Reg.dead,IntRow l,Reg.box 64 [C.h 0,C.h 1,C.h 2,C.h 13,C.h 14,C.h 15,C.h 16,C.h 17,C.h 8,C.i .i64 most,C.h 18],Reg.box 64 [C.v (Value.slice none 0 0),C.v (Value.slice none 0 0),C.v (Value.slice none 0 0),C.v (Value.slice none 0 0),C.v (Value.slice none 0 0),C.v (Value.slice none 0 0),C.v (Value.slice none 0 0),C.v (Value.slice none 0 0),C.v (Value.slice none 0 0),C.i .i64 0,C.v (Value.slice none 0 0)]]++[IntRow x.2.2.1]++[Slt.rowR x.2.2.2.1]++[WordRow x.2.2.2.2.1]++[IntRow x.2.2.2.2.2.1]++[Prt.rowR x.2.2.2.2.2.2.1]++[IntOwn x.2.2.2.2.2.2.2],wr:=[] },fun x=>FolJ sh.length lk.length gs cl most l (Tel.mk 0 (Mch.mk pos sl mem ho pr) st) x.1 (Tel.mk 0 (Mch.mk x.2.2.1 x.2.2.2.1 x.2.2.2.2.1 x.2.2.2.2.2.1 x.2.2.2.2.2.2.1) x.2.2.2.2.2.2.2),fun x=>((l.length:Int)-x.1).toNat⟩
theorem Qdy (sh lk:List Dcl) (gs:List Grf) (pos:List Int) (sl:List Slt) (mem ho:List Int) (pr:List Prt) (cl:List Cls) (most:Int) (st:List Int) (l:List Int) (hQ:MchQ sh.length lk.length gs (Mch.mk pos sl mem ho pr)) (hb:sh.length≤64∧lk.length≤16∧gs.length≤8) (hp:pr.length≤1048576) (hw:UnitW gs) (hst:st.length≤1048576) (hpp:pr.length≤st.length) (hsel0:(telGo sh.length gs cl most l (Tel.mk 0 (Mch.mk pos sl mem ho pr) st)).err=0):Ctr Tryz.prog 19 [Dcl.rowR sh,Dcl.rowR lk,Grf.rowR gs,IntRow pos,Slt.rowR sl,WordRow mem,IntRow ho,Prt.rowR pr,Cls.rowR cl,IntOwn st,IntRow l] [.agg [.h 0,.h 1,.h 2,.h 3,.h 4,.h 5,.h 6,.h 7,.h 8,.i .i64 most,.h 9],.c (.h 10)]
 (Det (.tup [(true,[.h 0,.h 1,.h 2,.h 11,.h 12,.h 13,.h 14,.h 15,.h 8,.i .i64 most,.h 16]),(false,[.i .i64 0])]) [.dead,.dead,.dead,.dead,.dead,.dead,.dead,.dead,.dead,.dead,.dead,IntRow (telGo sh.length gs cl most l (Tel.mk 0 (Mch.mk pos sl mem ho pr) st)).m.pos,Slt.rowR (telGo sh.length gs cl most l (Tel.mk 0 (Mch.mk pos sl mem ho pr) st)).m.sl,WordRow (telGo sh.length gs cl most l (Tel.mk 0 (Mch.mk pos sl mem ho pr) st)).m.mem,IntRow (telGo sh.length gs cl most l (Tel.mk 0 (Mch.mk pos sl mem ho pr) st)).m.ho,Prt.rowR (telGo sh.length gs cl most l (Tel.mk 0 (Mch.mk pos sl mem ho pr) st)).m.pr,IntOwn (telGo sh.length gs cl most l (Tel.mk 0 (Mch.mk pos sl mem ho pr) st)).st]):=by
 refine Ctr.intro [] Tryz.func19 K K ?_
 refine RunF.lens 10 (m:=l.length) K (fun hlens_10=>?_)
 refine Qb (L47_70 sh lk gs pos sl mem ho pr cl most st l) (((0:Int),(0:Int),pos,sl,mem,ho,pr,st)) (FolJ.start hQ hpp hst) ?_ [0,1,2,3,4,5,6,7,8,9,10,11,12,3,4,5,6,7,9]
 rintro ⟨x1_0,x1_1,x1_2,x1_3,x1_4,x1_5,x1_6,x1_7⟩ hJ1
 dsimp only [L47_70] at hJ1
 refine tz [12,11,10,5,4,2] ?_
 refine Q0 (decide (x1_0<(↑l.length:Int))) (fun h2=>?_) (fun h2=>?_)
 ·by_cases hsel:(telAdv sh.length gs cl most (l.getD x1_0.toNat 0) (Tel.mk 0 (Mch.mk x1_2 x1_3 x1_4 x1_5 x1_6) x1_7)).err=0
  ·refine tz [12,11,10,5,4,2] ?_
   refine Q2 Zy (Q8r sh lk gs x1_2 x1_3 x1_4 x1_5 x1_6 cl most x1_7 (l.getD x1_0.toNat 0) W13 W13 W13 W13 W13 W13) [0,1,2,13,14,15,16,17,8,18] ?_ (vc:=[(0:Int)≤x1_0,x1_0<(↑l.length:Int),x1_0.toNat<l.length]) (hv:=W36)
   refine tz [19,12,11,10,5,4,2] ?_
   refine Q0 (!decide ((0:Int)=(0:Int))) (fun h3=>?_) (fun h3=>?_)
   ·exact absurd h3 W99
   ·exact Q6 (L47_70 sh lk gs pos sl mem ho pr cl most st l) (x1_0,x1_1,x1_2,x1_3,x1_4,x1_5,x1_6,x1_7) ((x1_0+(1:Int),x1_1,(telAdv sh.length gs cl most (l.getD x1_0.toNat 0) (Tel.mk (0:Int) (Mch.mk x1_2 x1_3 x1_4 x1_5 x1_6) x1_7)).m.pos,(telAdv sh.length gs cl most (l.getD x1_0.toNat 0) (Tel.mk (0:Int) (Mch.mk x1_2 x1_3 x1_4 x1_5 x1_6) x1_7)).m.sl,(telAdv sh.length gs cl most (l.getD x1_0.toNat 0) (Tel.mk (0:Int) (Mch.mk x1_2 x1_3 x1_4 x1_5 x1_6) x1_7)).m.mem,(telAdv sh.length gs cl most (l.getD x1_0.toNat 0) (Tel.mk (0:Int) (Mch.mk x1_2 x1_3 x1_4 x1_5 x1_6) x1_7)).m.ho,(telAdv sh.length gs cl most (l.getD x1_0.toNat 0) (Tel.mk (0:Int) (Mch.mk x1_2 x1_3 x1_4 x1_5 x1_6) x1_7)).m.pr,(telAdv sh.length gs cl most (l.getD x1_0.toNat 0) (Tel.mk (0:Int) (Mch.mk x1_2 x1_3 x1_4 x1_5 x1_6) x1_7)).st)) (by dsimp only [L47_70];have z:=hJ1.lo;have q:=of_decide_eq_true h2;omega) (FolJ.next hw hJ1 h2 hsel) [0,1,2,3,4,5,6,7,8,9,10,11,12,19,20,21,22,23,24] (vc:=[Fits IntKind.i64 (x1_0+(1:Int))]) (hv:=W36)
  ·refine tz [12,11,10,5,4,2] ?_
   refine Q2 Zy (Q8t sh lk gs x1_2 x1_3 x1_4 x1_5 x1_6 cl most x1_7 (l.getD x1_0.toNat 0) W13 W13 W13 W13 W13 W13) [0,1,2,13,14,15,16,17,8,18] ?_ (vc:=[(0:Int)≤x1_0,x1_0<(↑l.length:Int),x1_0.toNat<l.length]) (hv:=W36)
   refine tz [19,12,11,10,5,4,2] ?_
   refine Q0 (!decide ((telAdv sh.length gs cl most (l.getD x1_0.toNat 0) (Tel.mk (0:Int) (Mch.mk x1_2 x1_3 x1_4 x1_5 x1_6) x1_7)).err=(0:Int))) (fun h3=>?_) (fun h3=>?_)
   ·exact (show False from by rw [FolJ.err hJ1 h2 hsel] at hsel0;exact hsel hsel0).elim
   ·exact (show False from by exact hsel (of_decide_eq_true (by simpa only [Bool.not_eq_false'] using h3))).elim
 ·rw [FolJ.done hJ1 h2]
  exact Q1 [0,1,2,3,4,5,6,7,8,9,10,13,14,15,16,17,18]
theorem Qg1 (sh lk:List Dcl) (gs:List Grf) (pos:List Int) (sl:List Slt) (mem ho:List Int) (pr:List Prt) (cl:List Cls) (most:Int) (st:List Int) (hQ:MchQ sh.length lk.length gs (Mch.mk pos sl mem ho pr)) (hb:sh.length≤64∧lk.length≤16∧gs.length≤8) (hp:pr.length≤1048576) (hw:UnitW gs):Ctr Tryz.prog 20 [Dcl.rowR sh,Dcl.rowR lk,Grf.rowR gs,IntRow pos,Slt.rowR sl,WordRow mem,IntRow ho,Prt.rowR pr,Cls.rowR cl,IntRow st] [.agg [.h 0,.h 1,.h 2,.h 3,.h 4,.h 5,.h 6,.h 7,.h 8,.i .i64 most,.h 9]]
 (Det (.agg [.h 9,.h 10,.h 11,.b (endM gs pos ho)]) [.dead,.dead,.dead,.dead,.dead,.dead,.dead,.dead,.dead,.dead,Prt.ownR pr,WordOwn mem]):=by
 refine Ctr.intro [] Tryz.func20 K K ?_
 refine Qi 2 (fun _:Unit=>St.mk 25 [se 3 (C.p 12 0),se 2 (C.p 11 0),se 1 (C.p 10 0)] [rowOf 3 (·.tc) sh,rowOf 3 (·.tc) lk,rowOf 4 (·.tc) gs,IntRow pos,rowOf 1 (·.tc) sl,IntRow mem,IntRow ho,rowOf 2 (·.tc) pr,rowOf 3 (·.tc) cl,IntRow st,Reg.box 64 [C.h 0,C.h 1,C.h 2,C.h 3,C.h 4,C.h 5,C.h 6,C.h 7,C.h 8,C.i .i64 most,C.h 9],Reg.box 38 [C.v (Value.slice none 0 0),C.v (Value.slice none 0 0),C.v (Value.slice none 0 0),C.t false],Reg.box 38 [C.h 9,C.v (Value.slice none 0 0),C.v (Value.slice none 0 0),C.b (endM gs pos ho)]] []) (fun _=>True) ?_ ?_
 ·refine ⟨⟨trivial,?_⟩,?_⟩
  ·refine Q2 Q0g (Qah sh lk gs pos sl mem ho pr W27 W27 W27 W27) [] ?_
   exact tTo (fun x=>St.mk 25 [se 3 (C.p 12 0),se 2 (C.p 11 0),se 1 (C.p 10 0)] [rowOf 3 (·.tc) sh,rowOf 3 (·.tc) lk,rowOf 4 (·.tc) gs,IntRow pos,rowOf 1 (·.tc) sl,IntRow mem,IntRow ho,rowOf 2 (·.tc) pr,rowOf 3 (·.tc) cl,IntRow st,Reg.box 64 [C.h 0,C.h 1,C.h 2,C.h 3,C.h 4,C.h 5,C.h 6,C.h 7,C.h 8,C.i .i64 most,C.h 9],Reg.box 38 [C.v (Value.slice none 0 0),C.v (Value.slice none 0 0),C.v (Value.slice none 0 0),C.t false],Reg.box 38 [C.h 9,C.v (Value.slice none 0 0),C.v (Value.slice none 0 0),C.b (endM gs pos ho)]] []) (fun x=>True) () trivial
  ·refine Q2 Q0g (Qah sh lk gs pos sl mem ho pr W27 W27 W27 W27) [] ?_
   exact tTo (fun x=>St.mk 25 [se 3 (C.p 12 0),se 2 (C.p 11 0),se 1 (C.p 10 0)] [rowOf 3 (·.tc) sh,rowOf 3 (·.tc) lk,rowOf 4 (·.tc) gs,IntRow pos,rowOf 1 (·.tc) sl,IntRow mem,IntRow ho,rowOf 2 (·.tc) pr,rowOf 3 (·.tc) cl,IntRow st,Reg.box 64 [C.h 0,C.h 1,C.h 2,C.h 3,C.h 4,C.h 5,C.h 6,C.h 7,C.h 8,C.i .i64 most,C.h 9],Reg.box 38 [C.v (Value.slice none 0 0),C.v (Value.slice none 0 0),C.v (Value.slice none 0 0),C.t false],Reg.box 38 [C.h 9,C.v (Value.slice none 0 0),C.v (Value.slice none 0 0),C.b (endM gs pos ho)]] []) (fun x=>True) () trivial
 ·rintro ⟨⟩ _
  exact Q1 [0,1,2,3,4,5,6,7,8,9,13,14] (vc:=[∀ (i j:Nat),i<pr.length→j<2→flatT ((pr.getD i default).tc j),pr.length≤maxLen,pr.length * 16≤140737488355328,∀ (i j:Nat),i<mem.length→j<1→flatT (i64T (mem.getD i 0) j),mem.length≤maxLen,mem.length * 8≤140737488355328]) (hv:=(by simp only [Conj,Fits,Q9,Qa,Qf,Qg,News.len,maxLen]<;>(repeat' (first | apply And.intro | intro _))<;>first | (exact i64T.flat _ _ (by assumption)) | (exact Prt.flat _ _ (by assumption)) | (have q0:=hQ.mn;(try simp only [maxLen] at *);(try dsimp only at q0);omega) | grind | (simp only [BL] at *;omega)))
end Go.Proofs.YtmaodngbpfjnnaaGreat
end
noncomputable section
namespace Go.Proofs.YtmaodngbpfjnnaaGreat
open Go Go.Tx
theorem Qct (sh lk:List Dcl) (gs:List Grf) (hs:∀ j:Nat,(sh.getD j default).name.size≤maxLen) (hl:∀ j:Nat,(lk.getD j default).name.size≤maxLen) (hg:∀ j:Nat,(gs.getD j default).name.size≤maxLen) (hw:UnitW gs) (cl:List Cls) (l:List Int) (most:Int) (hsel:¬ (chkU sh lk gs).1=0) (hB:¬ begT sh lk gs cl most=0):Ctr Tryz.prog 7 [Dcl.rowR sh,Dcl.rowR lk,Grf.rowR gs,Cls.rowR cl,IntRow l] [.agg [.h 0,.h 1,.h 2],.c (.h 3),.c (.h 4),.c (.i .i64 most)]
 (Det (.tup [(true,[.h 5,.h 6,.h 7,.b false]),(false,[.i .i64 (flwE sh lk gs cl l most)])]) [.dead,.dead,.dead,.dead,.dead,IntOwn [],Prt.ownR [],WordOwn []]):=by
 refine Ctr.intro [] Tryz.func7 K K ?_
 refine Q2 Z2 (Qcr sh lk gs W4 W4 W4 W4 cl most W4) [] ?_
 refine tz [16,9,8,2] ?_
 refine Q0 (!decide (begT sh lk gs cl most=(0:Int))) (fun h1=>?_) (fun h1=>?_)
 ·exact Q1 [0,1,2,3,4,1000005,1000006,1000007] [0,1,2,4] [(0:Nat)=0,(0:Nat)=0,(0:Nat)=0,flwE sh lk gs cl l most=begT sh lk gs cl most] W73
 ·exact (show False from by exact hB W133).elim
theorem Qcu (sh lk:List Dcl) (gs:List Grf) (hs:∀ j:Nat,(sh.getD j default).name.size≤maxLen) (hl:∀ j:Nat,(lk.getD j default).name.size≤maxLen) (hg:∀ j:Nat,(gs.getD j default).name.size≤maxLen) (hw:UnitW gs) (cl:List Cls) (l:List Int) (most:Int) (hsel:(chkU sh lk gs).1=0) (hsel2:¬ begT sh lk gs cl most=0) (hB:¬ begT sh lk gs cl most=0):Ctr Tryz.prog 7 [Dcl.rowR sh,Dcl.rowR lk,Grf.rowR gs,Cls.rowR cl,IntRow l] [.agg [.h 0,.h 1,.h 2],.c (.h 3),.c (.h 4),.c (.i .i64 most)]
 (Det (.tup [(true,[.h 5,.h 6,.h 7,.b false]),(false,[.i .i64 (flwE sh lk gs cl l most)])]) [.dead,.dead,.dead,.dead,.dead,IntOwn [],Prt.ownR [],WordOwn []]):=by
 refine Ctr.intro [] Tryz.func7 K K ?_
 refine Q2 Z2 (Qcs sh lk gs W4 W4 W4 W4 cl most W4 W4) [] ?_
 refine tz [16,9,8,2] ?_
 refine Q0 (!decide (begT sh lk gs cl most=(0:Int))) (fun h1=>?_) (fun h1=>?_)
 ·exact Q1 [0,1,2,3,4,1000005,1000006,1000007] [0,1,2,4] [(0:Nat)=0,(0:Nat)=0,(0:Nat)=0,flwE sh lk gs cl l most=begT sh lk gs cl most] W73
 ·exact (show False from by exact hB W133).elim
theorem Qcv (sh lk:List Dcl) (gs:List Grf) (hs:∀ j:Nat,(sh.getD j default).name.size≤maxLen) (hl:∀ j:Nat,(lk.getD j default).name.size≤maxLen) (hg:∀ j:Nat,(gs.getD j default).name.size≤maxLen) (hw:UnitW gs) (cl:List Cls) (l:List Int) (most:Int) (hsel2:begT sh lk gs cl most=0) (hB:begT sh lk gs cl most=0) (hsel0:¬ (telGo sh.length gs cl most l (Tel.mk 0 (Mch.mk (newM sh lk gs).pos (newM sh lk gs).sl (newM sh lk gs).mem (newM sh lk gs).ho []) [])).err=0):Ctr Tryz.prog 7 [Dcl.rowR sh,Dcl.rowR lk,Grf.rowR gs,Cls.rowR cl,IntRow l] [.agg [.h 0,.h 1,.h 2],.c (.h 3),.c (.h 4),.c (.i .i64 most)]
 (Det (.tup [(true,[.h 5,.h 6,.h 7,.b false]),(false,[.i .i64 (flwE sh lk gs cl l most)])]) [.dead,.dead,.dead,.dead,.dead,IntOwn [],Prt.ownR [],WordOwn []]):=by
 refine Ctr.intro [] Tryz.func7 K K ?_
 refine Q2 Z2 (Q6k sh lk gs W4 W4 W4 W4 cl most W4) [] ?_
 refine tz [16,9,8,2] ?_
 refine Q0 (!decide ((0:Int)=(0:Int))) (fun h1=>?_) (fun h1=>?_)
 ·exact absurd h1 W99
 ·refine tz [11,10,9,8,2] ?_
  refine Q2 Jn (Qdx sh lk gs ((newM sh lk gs).pos) ((newM sh lk gs).sl) ((newM sh lk gs).mem) ((newM sh lk gs).ho) [] cl most [] l W4 W4 W4 W4 W4 W4 W4) [0,1,2,7,8,9,10,11,3,12,4] ?_ [14,18] [(0:Nat)=0,(0:Nat)=0] W0
  refine tz [26,11,10,9,8] ?_
  refine Q0 (!decide ((telGo sh.length gs cl most l (Tel.mk (0:Int) (Mch.mk (newM sh lk gs).pos (newM sh lk gs).sl (newM sh lk gs).mem (newM sh lk gs).ho []) [])).err=(0:Int))) (fun h2=>?_) (fun h2=>?_)
  ·exact Q1 [0,1,2,3,4,1000005,1000006,1000007] [0,1,2,4] [(0:Nat)=0,(0:Nat)=0,(0:Nat)=0,flwE sh lk gs cl l most=(telGo sh.length gs cl most l (Tel.mk (0:Int) (Mch.mk (newM sh lk gs).pos (newM sh lk gs).sl (newM sh lk gs).mem (newM sh lk gs).ho []) [])).err] W73
  ·exact (show False from by exact hsel0 W128).elim
theorem Qdz (sh lk:List Dcl) (gs:List Grf) (hs:∀ j:Nat,(sh.getD j default).name.size≤maxLen) (hl:∀ j:Nat,(lk.getD j default).name.size≤maxLen) (hg:∀ j:Nat,(gs.getD j default).name.size≤maxLen) (hw:UnitW gs) (cl:List Cls) (l:List Int) (most:Int) (hsel2:begT sh lk gs cl most=0) (hB:begT sh lk gs cl most=0) (hsel0:(telGo sh.length gs cl most l (Tel.mk 0 (Mch.mk (newM sh lk gs).pos (newM sh lk gs).sl (newM sh lk gs).mem (newM sh lk gs).ho []) [])).err=0) (hF:(telGo sh.length gs cl most l (Tel.mk 0 (Mch.mk (newM sh lk gs).pos (newM sh lk gs).sl (newM sh lk gs).mem (newM sh lk gs).ho []) [])).err=0):Ctr Tryz.prog 7 [Dcl.rowR sh,Dcl.rowR lk,Grf.rowR gs,Cls.rowR cl,IntRow l] [.agg [.h 0,.h 1,.h 2],.c (.h 3),.c (.h 4),.c (.i .i64 most)]
 (Det (.tup [(true,[.h 5,.h 6,.h 7,.b (endM gs (telGo sh.length gs cl most l (Tel.mk 0 (Mch.mk (newM sh lk gs).pos (newM sh lk gs).sl (newM sh lk gs).mem (newM sh lk gs).ho []) [])).m.pos (telGo sh.length gs cl most l (Tel.mk 0 (Mch.mk (newM sh lk gs).pos (newM sh lk gs).sl (newM sh lk gs).mem (newM sh lk gs).ho []) [])).m.ho)]),(false,[.i .i64 0])]) [.dead,.dead,.dead,.dead,.dead,IntOwn (telGo sh.length gs cl most l (Tel.mk 0 (Mch.mk (newM sh lk gs).pos (newM sh lk gs).sl (newM sh lk gs).mem (newM sh lk gs).ho []) [])).st,Prt.ownR (telGo sh.length gs cl most l (Tel.mk 0 (Mch.mk (newM sh lk gs).pos (newM sh lk gs).sl (newM sh lk gs).mem (newM sh lk gs).ho []) [])).m.pr,WordOwn (telGo sh.length gs cl most l (Tel.mk 0 (Mch.mk (newM sh lk gs).pos (newM sh lk gs).sl (newM sh lk gs).mem (newM sh lk gs).ho []) [])).m.mem]):=by
 refine Ctr.intro [] Tryz.func7 K K ?_
 refine Q2 Z2 (Q6k sh lk gs W4 W4 W4 W4 cl most W4) [] ?_
 refine tz [16,9,8,2] ?_
 refine Q0 (!decide ((0:Int)=(0:Int))) (fun h1=>?_) (fun h1=>?_)
 ·exact absurd h1 W99
 ·refine tWk (St.mk 35 [se 20 (C.t false),se 19 (C.i .i64 0),se 11 (C.i .i64 0),se 10 (C.p 13 0),se 18 (C.i .i64 0),En.mk 17 [] (SV.agg [C.h 0,C.h 1,C.h 2,C.h 7,C.h 8,C.h 9,C.h 10,C.h 11,C.h 3,C.i .i64 most,C.h 12]),En.mk 12 [] (SV.tup [(true,[C.h 0,C.h 1,C.h 2,C.h 7,C.h 8,C.h 9,C.h 10,C.h 11,C.h 3,C.i .i64 most,C.h 12]),(false,[C.i .i64 0])]),En.mk 16 [] (SV.tup [(true,[C.h 0,C.h 1,C.h 2,C.h 7,C.h 8,C.h 9,C.h 10,C.h 11,C.h 3,C.i .i64 most,C.h 12]),(false,[C.i .i64 0])]),se 9 (C.i .i64 0),se 8 (C.p 6 0),se 2 (C.h 4)] [rowOf 3 (·.tc) sh,rowOf 3 (·.tc) lk,rowOf 4 (·.tc) gs,rowOf 3 (·.tc) cl,IntRow l,Reg.box 25 [C.h 0,C.h 1,C.h 2],Reg.box 38 [C.v (Value.slice none 0 0),C.v (Value.slice none 0 0),C.v (Value.slice none 0 0),C.t false],Reg.row 1 (newM sh lk gs).pos.length (fun i=>i64T ((newM sh lk gs).pos.getD i 0)) none,Reg.own 26 1 (newM sh lk gs).sl.length (fun i=>((newM sh lk gs).sl.getD i default).tc) none,Reg.own 2 1 (newM sh lk gs).mem.length (fun i=>i64T ((newM sh lk gs).mem.getD i 0)) none,Reg.own 3 1 (newM sh lk gs).ho.length (fun i=>i64T ((newM sh lk gs).ho.getD i 0)) none,Reg.own 74 2 0 (fun i=>(([]:List Prt).getD i default).tc) none,Reg.own 3 1 0 (fun i=>i64T ([].getD i 0)) none,Reg.box 64 [C.h 0,C.h 1,C.h 2,C.h 7,C.h 8,C.h 9,C.h 10,C.h 11,C.h 3,C.i .i64 most,C.h 12]] []) ?_
  refine tWk (St.mk 35 [se 20 (C.t false),se 19 (C.i .i64 0),se 11 (C.i .i64 0),se 10 (C.p 13 0),se 18 (C.i .i64 0),En.mk 17 [] (SV.agg [C.h 0,C.h 1,C.h 2,C.h 7,C.h 8,C.h 9,C.h 10,C.h 11,C.h 3,C.i .i64 most,C.h 12]),En.mk 12 [] (SV.tup [(true,[C.h 0,C.h 1,C.h 2,C.h 7,C.h 8,C.h 9,C.h 10,C.h 11,C.h 3,C.i .i64 most,C.h 12]),(false,[C.i .i64 0])]),En.mk 16 [] (SV.tup [(true,[C.h 0,C.h 1,C.h 2,C.h 7,C.h 8,C.h 9,C.h 10,C.h 11,C.h 3,C.i .i64 most,C.h 12]),(false,[C.i .i64 0])]),se 9 (C.i .i64 0),se 8 (C.p 6 0),se 2 (C.h 4)] [rowOf 3 (·.tc) sh,rowOf 3 (·.tc) lk,rowOf 4 (·.tc) gs,rowOf 3 (·.tc) cl,IntRow l,Reg.box 25 [C.h 0,C.h 1,C.h 2],Reg.box 38 [C.v (Value.slice none 0 0),C.v (Value.slice none 0 0),C.v (Value.slice none 0 0),C.t false],Reg.row 1 (newM sh lk gs).pos.length (fun i=>i64T ((newM sh lk gs).pos.getD i 0)) none,Reg.row 1 (newM sh lk gs).sl.length (fun i=>((newM sh lk gs).sl.getD i default).tc) none,Reg.own 2 1 (newM sh lk gs).mem.length (fun i=>i64T ((newM sh lk gs).mem.getD i 0)) none,Reg.own 3 1 (newM sh lk gs).ho.length (fun i=>i64T ((newM sh lk gs).ho.getD i 0)) none,Reg.own 74 2 0 (fun i=>(([]:List Prt).getD i default).tc) none,Reg.own 3 1 0 (fun i=>i64T ([].getD i 0)) none,Reg.box 64 [C.h 0,C.h 1,C.h 2,C.h 7,C.h 8,C.h 9,C.h 10,C.h 11,C.h 3,C.i .i64 most,C.h 12]] []) ?_
  refine tWk (St.mk 35 [se 20 (C.t false),se 19 (C.i .i64 0),se 11 (C.i .i64 0),se 10 (C.p 13 0),se 18 (C.i .i64 0),En.mk 17 [] (SV.agg [C.h 0,C.h 1,C.h 2,C.h 7,C.h 8,C.h 9,C.h 10,C.h 11,C.h 3,C.i .i64 most,C.h 12]),En.mk 12 [] (SV.tup [(true,[C.h 0,C.h 1,C.h 2,C.h 7,C.h 8,C.h 9,C.h 10,C.h 11,C.h 3,C.i .i64 most,C.h 12]),(false,[C.i .i64 0])]),En.mk 16 [] (SV.tup [(true,[C.h 0,C.h 1,C.h 2,C.h 7,C.h 8,C.h 9,C.h 10,C.h 11,C.h 3,C.i .i64 most,C.h 12]),(false,[C.i .i64 0])]),se 9 (C.i .i64 0),se 8 (C.p 6 0),se 2 (C.h 4)] [rowOf 3 (·.tc) sh,rowOf 3 (·.tc) lk,rowOf 4 (·.tc) gs,rowOf 3 (·.tc) cl,IntRow l,Reg.box 25 [C.h 0,C.h 1,C.h 2],Reg.box 38 [C.v (Value.slice none 0 0),C.v (Value.slice none 0 0),C.v (Value.slice none 0 0),C.t false],Reg.row 1 (newM sh lk gs).pos.length (fun i=>i64T ((newM sh lk gs).pos.getD i 0)) none,Reg.row 1 (newM sh lk gs).sl.length (fun i=>((newM sh lk gs).sl.getD i default).tc) none,Reg.row 1 (newM sh lk gs).mem.length (fun i=>i64T ((newM sh lk gs).mem.getD i 0)) none,Reg.own 3 1 (newM sh lk gs).ho.length (fun i=>i64T ((newM sh lk gs).ho.getD i 0)) none,Reg.own 74 2 0 (fun i=>(([]:List Prt).getD i default).tc) none,Reg.own 3 1 0 (fun i=>i64T ([].getD i 0)) none,Reg.box 64 [C.h 0,C.h 1,C.h 2,C.h 7,C.h 8,C.h 9,C.h 10,C.h 11,C.h 3,C.i .i64 most,C.h 12]] []) ?_
  refine tWk (St.mk 35 [se 20 (C.t false),se 19 (C.i .i64 0),se 11 (C.i .i64 0),se 10 (C.p 13 0),se 18 (C.i .i64 0),En.mk 17 [] (SV.agg [C.h 0,C.h 1,C.h 2,C.h 7,C.h 8,C.h 9,C.h 10,C.h 11,C.h 3,C.i .i64 most,C.h 12]),En.mk 12 [] (SV.tup [(true,[C.h 0,C.h 1,C.h 2,C.h 7,C.h 8,C.h 9,C.h 10,C.h 11,C.h 3,C.i .i64 most,C.h 12]),(false,[C.i .i64 0])]),En.mk 16 [] (SV.tup [(true,[C.h 0,C.h 1,C.h 2,C.h 7,C.h 8,C.h 9,C.h 10,C.h 11,C.h 3,C.i .i64 most,C.h 12]),(false,[C.i .i64 0])]),se 9 (C.i .i64 0),se 8 (C.p 6 0),se 2 (C.h 4)] [rowOf 3 (·.tc) sh,rowOf 3 (·.tc) lk,rowOf 4 (·.tc) gs,rowOf 3 (·.tc) cl,IntRow l,Reg.box 25 [C.h 0,C.h 1,C.h 2],Reg.box 38 [C.v (Value.slice none 0 0),C.v (Value.slice none 0 0),C.v (Value.slice none 0 0),C.t false],Reg.row 1 (newM sh lk gs).pos.length (fun i=>i64T ((newM sh lk gs).pos.getD i 0)) none,Reg.row 1 (newM sh lk gs).sl.length (fun i=>((newM sh lk gs).sl.getD i default).tc) none,Reg.row 1 (newM sh lk gs).mem.length (fun i=>i64T ((newM sh lk gs).mem.getD i 0)) none,Reg.row 1 (newM sh lk gs).ho.length (fun i=>i64T ((newM sh lk gs).ho.getD i 0)) none,Reg.own 74 2 0 (fun i=>(([]:List Prt).getD i default).tc) none,Reg.own 3 1 0 (fun i=>i64T ([].getD i 0)) none,Reg.box 64 [C.h 0,C.h 1,C.h 2,C.h 7,C.h 8,C.h 9,C.h 10,C.h 11,C.h 3,C.i .i64 most,C.h 12]] []) ?_
  refine tWk (St.mk 35 [se 20 (C.t false),se 19 (C.i .i64 0),se 11 (C.i .i64 0),se 10 (C.p 13 0),se 18 (C.i .i64 0),En.mk 17 [] (SV.agg [C.h 0,C.h 1,C.h 2,C.h 7,C.h 8,C.h 9,C.h 10,C.h 11,C.h 3,C.i .i64 most,C.h 12]),En.mk 12 [] (SV.tup [(true,[C.h 0,C.h 1,C.h 2,C.h 7,C.h 8,C.h 9,C.h 10,C.h 11,C.h 3,C.i .i64 most,C.h 12]),(false,[C.i .i64 0])]),En.mk 16 [] (SV.tup [(true,[C.h 0,C.h 1,C.h 2,C.h 7,C.h 8,C.h 9,C.h 10,C.h 11,C.h 3,C.i .i64 most,C.h 12]),(false,[C.i .i64 0])]),se 9 (C.i .i64 0),se 8 (C.p 6 0),se 2 (C.h 4)] [rowOf 3 (·.tc) sh,rowOf 3 (·.tc) lk,rowOf 4 (·.tc) gs,rowOf 3 (·.tc) cl,IntRow l,Reg.box 25 [C.h 0,C.h 1,C.h 2],Reg.box 38 [C.v (Value.slice none 0 0),C.v (Value.slice none 0 0),C.v (Value.slice none 0 0),C.t false],Reg.row 1 (newM sh lk gs).pos.length (fun i=>i64T ((newM sh lk gs).pos.getD i 0)) none,Reg.row 1 (newM sh lk gs).sl.length (fun i=>((newM sh lk gs).sl.getD i default).tc) none,Reg.row 1 (newM sh lk gs).mem.length (fun i=>i64T ((newM sh lk gs).mem.getD i 0)) none,Reg.row 1 (newM sh lk gs).ho.length (fun i=>i64T ((newM sh lk gs).ho.getD i 0)) none,Reg.row 2 0 (fun i=>(([]:List Prt).getD i default).tc) none,Reg.own 3 1 0 (fun i=>i64T ([].getD i 0)) none,Reg.box 64 [C.h 0,C.h 1,C.h 2,C.h 7,C.h 8,C.h 9,C.h 10,C.h 11,C.h 3,C.i .i64 most,C.h 12]] []) ?_
  refine tz [11,10,9,8,2] ?_
  refine Q2 Jn (Qdy sh lk gs ((newM sh lk gs).pos) ((newM sh lk gs).sl) ((newM sh lk gs).mem) ((newM sh lk gs).ho) [] cl most [] l W4 W4 W4 W4 W4 W4 W4) [0,1,2,7,8,9,10,11,3,12,4] ?_ [14,18] [(0:Nat)=0,(0:Nat)=0] W0
  refine tz [26,11,10,9,8] ?_
  refine Q0 (!decide ((0:Int)=(0:Int))) (fun h2=>?_) (fun h2=>?_)
  ·exact absurd h2 W99
  ·refine tz [10,9,8] ?_
   refine Q2 Q51 (Qg1 sh lk gs ((telGo sh.length gs cl most l (Tel.mk (0:Int) (Mch.mk (newM sh lk gs).pos (newM sh lk gs).sl (newM sh lk gs).mem (newM sh lk gs).ho []) [])).m.pos) ((telGo sh.length gs cl most l (Tel.mk (0:Int) (Mch.mk (newM sh lk gs).pos (newM sh lk gs).sl (newM sh lk gs).mem (newM sh lk gs).ho []) [])).m.sl) ((telGo sh.length gs cl most l (Tel.mk (0:Int) (Mch.mk (newM sh lk gs).pos (newM sh lk gs).sl (newM sh lk gs).mem (newM sh lk gs).ho []) [])).m.mem) ((telGo sh.length gs cl most l (Tel.mk (0:Int) (Mch.mk (newM sh lk gs).pos (newM sh lk gs).sl (newM sh lk gs).mem (newM sh lk gs).ho []) [])).m.ho) ((telGo sh.length gs cl most l (Tel.mk (0:Int) (Mch.mk (newM sh lk gs).pos (newM sh lk gs).sl (newM sh lk gs).mem (newM sh lk gs).ho []) [])).m.pr) cl most ((telGo sh.length gs cl most l (Tel.mk (0:Int) (Mch.mk (newM sh lk gs).pos (newM sh lk gs).sl (newM sh lk gs).mem (newM sh lk gs).ho []) [])).st) W4 W4 W4 W4) [0,1,2,14,15,16,17,18,3,19] ?_
   exact Q1 [0,1,2,3,4,19,20,21]
theorem Qk7 (sh lk:List Dcl) (gs:List Grf) (hs:∀ j:Nat,(sh.getD j default).name.size≤maxLen) (hl:∀ j:Nat,(lk.getD j default).name.size≤maxLen) (hg:∀ j:Nat,(gs.getD j default).name.size≤maxLen) (hw:UnitW gs) (cl:List Cls) (l:List Int) (most:Int):Ctr Tryz.prog 7 [Dcl.rowR sh,Dcl.rowR lk,Grf.rowR gs,Cls.rowR cl,IntRow l] [.agg [.h 0,.h 1,.h 2],.c (.h 3),.c (.h 4),.c (.i .i64 most)]
 (Det (.tup [(true,[.h 5,.h 6,.h 7,.b (flwD sh lk gs cl l most)]),(false,[.i .i64 (flwE sh lk gs cl l most)])]) [.dead,.dead,.dead,.dead,.dead,IntOwn (flwS sh lk gs cl l most),Prt.ownR (flwP sh lk gs cl l most),WordOwn (flwM sh lk gs cl l most)]):=by
 by_cases hsel:(flwE sh lk gs cl l most)=0
 ·simp only [flwD,flwS,flwP,flwM,hsel,if_true]
  exact Qdz sh lk gs hs hl hg hw cl l most (Q0l hsel).1 (Q0l hsel).1 (Q0l hsel).2 (Q0l hsel).2
 ·simp only [flwD,flwS,flwP,flwM,hsel,if_false]
  by_cases hB:begT sh lk gs cl most=0
  ·exact Qcv sh lk gs hs hl hg hw cl l most hB hB (fun h=>hsel ((Q8o hB).trans h))
  ·by_cases hc:(chkU sh lk gs).1=0
   ·exact Qcu sh lk gs hs hl hg hw cl l most hc hB hB
   ·exact Qct sh lk gs hs hl hg hw cl l most hc hB
end Go.Proofs.YtmaodngbpfjnnaaGreat
end
namespace Go.Proofs.YtmaodngbpfjnnaaGreat
open Go Go.Tx
def visE (cl:List Cls) (e:Ev):Bool:=
 if e.kind=1∨e.kind=2∨e.kind=3 then decide ((cl.getD e.thing.toNat default).kind=3) else decide (e.kind=4)||decide (e.kind=5)||decide (e.kind=6)
theorem Qg2 {cl:List Cls} {e:Ev} {k:Int} {b:Bool} (hk:e.kind=k) (h3:k=1∨k=2∨k=3) (h:((decide (k=1)||decide (k=2)||decide (k=3))&&decide ((cl.getD e.thing.toNat default).kind=3))=b):visE cl e=b:=by
 unfold visE;rw [hk,if_pos h3,← h]
 rcases h3 with e | e | e<;>subst e<;>simp
theorem Q0s {cl:List Cls} {e:Ev} (hk:e.kind=4∨e.kind=5∨e.kind=6):visE cl e=true:=by
 unfold visE;rw [if_neg W37]
 rcases hk with e | e | e<;>rw [e]<;>rfl
theorem Qbb {cl:List Cls} {e:Ev} (hk:e.kind=7):visE cl e=false:=by
 unfold visE;rw [if_neg W37,hk];rfl
def visUp (cl:List Cls) (l:List Ev):Nat→List Int
 | 0=>[]
 | n+1=>visUp cl l n++(if visE cl (l.getD n default)=true then [(l.getD n default).core] else [])
theorem Q7g {cl:List Cls} {l:List Ev} {i:Int} (h:0≤i) (hv:visE cl (l.getD i.toNat default)=true):visUp cl l (i+1).toNat=visUp cl l i.toNat++[(l.getD i.toNat default).core]:=by
 have h1:(i+1).toNat=i.toNat+1:=by omega
 rw [h1,visUp,if_pos hv]
theorem Qcw {cl:List Cls} {l:List Ev} {i:Int} (h:0≤i) (hv:visE cl (l.getD i.toNat default)=false):visUp cl l (i+1).toNat=visUp cl l i.toNat:=by
 have h1:(i+1).toNat=i.toNat+1:=by omega
 rw [h1,visUp,if_neg (by rw [hv];simp),List.append_nil]
theorem Q5a (cl:List Cls) (l:List Ev) {i:Nat}:∀ {n:Nat},i≤n→visUp cl l i <+: visUp cl l n
 | 0,h=>by rw [Nat.le_zero.1 h];exact List.prefix_refl _
 | n+1,h=>by
   by_cases e:i=n+1
   ·rw [e];exact List.prefix_refl _
   ·exact List.IsPrefix.trans (Q5a cl l W37) ⟨_,rfl⟩
theorem Q5b (cl:List Cls) (l:List Ev):∀ n,(visUp cl l n).length≤n
 | 0=>Nat.le_refl _
 | n+1=>by
   have:=Q5b cl l n
   rw [visUp,List.length_append]
   split<;>simp<;>omega
theorem Qcx {cl:List Cls} {l:List Ev} {i:Int} (h0:0≤i) (h1:i<l.length) (hv:visE cl (l.getD i.toNat default)=true) :
 (visUp cl l i.toNat).length<(visUp cl l l.length).length∧(visUp cl l l.length).getD (visUp cl l i.toNat).length 0=(l.getD i.toNat default).core:=by
 have h2:=Q7g (cl:=cl) (l:=l) h0 hv
 obtain ⟨t,ht⟩:=Q5a cl l (show (i+1).toNat≤l.length by omega)
 rw [h2] at ht
 rw [← ht]
 refine ⟨by simp,?_⟩
 rw [List.append_assoc,List.getD_eq_getElem?_getD,List.getElem?_append_right (Nat.le_refl _)]
 simp
def EvQ (cl:List Cls) (l:List Ev):Prop:=∀ j:Nat,j<l.length→(1≤(l.getD j default).kind∧(l.getD j default).kind≤7)∧((l.getD j default).kind≤3→0≤(l.getD j default).thing∧(l.getD j default).thing<cl.length)
def ordE (mem:List Int) (s9 l9 bu:Int) (cs:List Cor) (cl:List Cls) (l:List Did):Int:=
 if evE mem s9 l9 bu cs l≠0 then evE mem s9 l9 bu cs l else if (cl.length:Int)≠s9 then 210 else 0
def ordL (mem:List Int) (s9 l9 bu:Int) (cs:List Cor) (cl:List Cls) (l:List Did):List Int:=
 if ordE mem s9 l9 bu cs cl l=0 then visUp cl (evL mem s9 l9 bu cs l) (evL mem s9 l9 bu cs l).length else []
section
variable {mem:List Int} {s9 l9 bu:Int} {cs:List Cor} {cl:List Cls} {l:List Did}
theorem Q7h (h1:(!decide (evE mem s9 l9 bu cs l=0))=true):ordE mem s9 l9 bu cs cl l=evE mem s9 l9 bu cs l:=by unfold ordE;rw [if_pos W133]
theorem Qcy (h1:(!decide (evE mem s9 l9 bu cs l=0))=true):ordL mem s9 l9 bu cs cl l=[]:=by unfold ordL;rw [Q7h h1,if_neg W133]
theorem Q7i (h1:(!decide (evE mem s9 l9 bu cs l=0))=false) (h2:(!decide ((cl.length:Int)=s9))=true):ordE mem s9 l9 bu cs cl l=210:=by unfold ordE;rw [if_neg W133,if_pos W128]
theorem Qcz (h1:(!decide (evE mem s9 l9 bu cs l=0))=false) (h2:(!decide ((cl.length:Int)=s9))=true):ordL mem s9 l9 bu cs cl l=[]:=by unfold ordL;rw [Q7i h1 h2,if_neg W131]
theorem Q9j (h1:(!decide (evE mem s9 l9 bu cs l=0))=false) (h2:(!decide ((cl.length:Int)=s9))=false):ordE mem s9 l9 bu cs cl l=0:=by unfold ordE;rw [if_neg W133,if_neg W128]
theorem Qet (h1:(!decide (evE mem s9 l9 bu cs l=0))=false) (h2:(!decide ((cl.length:Int)=s9))=false):ordL mem s9 l9 bu cs cl l=visUp cl (evL mem s9 l9 bu cs l) (evL mem s9 l9 bu cs l).length:=by unfold ordL;rw [Q9j h1 h2,if_pos rfl]
theorem Qk8 (h:evE mem s9 l9 bu cs l=0):chkE mem s9 l9 bu cs=0∧rightsB l=true:=by
 unfold evE at h
 split at h
 ·rename_i hc
  split at h
  ·rename_i hr;exact ⟨hc,hr⟩
  ·simp at h
 ·contradiction
end
theorem Qni {s9 l9:Int} {d:Did} {i:Int} (hs:0≤s9∧s9≤64∧0≤l9∧l9≤16) (hd:didB d=true) (hk:¬ (evOf s9 l9 d i).kind=0) :
 (1≤(evOf s9 l9 d i).kind∧(evOf s9 l9 d i).kind≤7)∧((evOf s9 l9 d i).kind≤3→0≤(evOf s9 l9 d i).thing∧(evOf s9 l9 d i).thing<s9):=by
 have hb:=Gt hd
 have hp:=Q8n (i:=i) hs hd
 refine ⟨by omega,fun h3=>?_⟩
 clear hp
 obtain ⟨kind,core,pc,addr,word,put,own⟩:=d
 simp only at hb
 unfold evOf noEv at hk h3 ⊢
 simp only at hk h3 ⊢
 grind
theorem Qhw {s9 l9:Int} {l:List Did} {cl:List Cls} (hs:0≤s9∧s9≤64∧0≤l9∧l9≤16) (hr:rightsB l=true) (hc:(cl.length:Int)=s9):∀ n:Nat,n≤l.length→EvQ cl (evUp s9 l9 l n)
 | 0,_=>fun j hj=>by simp [evUp] at hj
 | n+1,hn=>fun j hj=>by
   have ih:=Qhw hs hr hc n W37
   rw [evUp] at hj ⊢
   by_cases h:j<(evUp s9 l9 l n).length
   ·rw [Gi _ _ _ h];exact ih j h
   ·by_cases hk:(evAt s9 l9 l n).kind=0
    ·rw [if_pos hk] at hj;simp at hj;omega
    ·rw [if_neg hk] at hj ⊢
     have e:j=(evUp s9 l9 l n).length:=by simp at hj;omega
     subst e
     rw [Yc]
     have hd:=Q20 hr (i:=(n:Int)) W37 W37
     have:=Qni (i:=(n:Int)) hs hd hk
     rw [hc]
     exact this
theorem Qg3 {mem:List Int} {s9 l9 bu:Int} {cs:List Cor} {cl:List Cls} {l:List Did} (h1:(!decide (evE mem s9 l9 bu cs l=0))=false) (h2:(!decide ((cl.length:Int)=s9))=false) :
 EvQ cl (evL mem s9 l9 bu cs l)∧(evL mem s9 l9 bu cs l).length≤l.length:=by
 have h1':evE mem s9 l9 bu cs l=0:=by simpa using h1
 have h2':(cl.length:Int)=s9:=by simpa using h2
 have hz:=Qk8 h1'
 unfold evL
 rw [if_pos h1']
 exact ⟨Qhw (shr hz.1) hz.2 h2' _ (Nat.le_refl _),Q3e _ _ _ _⟩
end Go.Proofs.YtmaodngbpfjnnaaGreat
noncomputable section
namespace Go.Proofs.YtmaodngbpfjnnaaGreat
open Go Go.Tx
def L3_I (mem:List Int) (s9 l9 bu:Int) (cs:List Cor):Int→St:=fun i=>{ N:=124,fr:=[se 3 (C.i .i64 i),se 2 (C.t false),se 1 (C.p 2 0)],rg:=[IntRow mem,Cor.rowR cs,Reg.box 29 [C.h 0,C.i .i64 s9,C.i .i64 l9,C.i .i64 bu,C.h 1]] }
def L3_J (cs:List Cor):Int→Prop:=fun i=>0≤i∧i≤(cs.length:Int)∧allFrom (corB cs) 0 cs.length=allFrom (corB cs) i cs.length
def L3_m (cs:List Cor):Int→Nat:=fun i=>((cs.length:Int)-i).toNat
def L3 (mem:List Int) (s9:Int) (l9:Int) (bu:Int) (cs:List Cor):Lp (Int):=⟨L3_I mem s9 l9 bu cs,L3_J cs,L3_m cs⟩
def L4_I (mem:List Int) (s9 l9 bu:Int) (cs:List Cor) (x2_0:Int):Int×Bool→St:=fun x=>{ N:=124,fr:=[se 6 (C.i .i64 x.1),se 5 (C.b x.2),se 4 (C.p 4 0),se 3 (C.i .i64 x2_0),se 2 (C.t false),se 1 (C.p 2 0)],rg:=[IntRow mem,Reg.row 2 cs.length (fun i=>(cs.getD i default).tc) (some (x2_0.toNat,[C.v (Value.string (cs.getD x2_0.toNat default).name),C.h 3])),Reg.box 29 [C.h 0,C.i .i64 s9,C.i .i64 l9,C.i .i64 bu,C.h 1],Reg.row 9 (cs.getD x2_0.toNat default).code.length (fun i=>((cs.getD x2_0.toNat default).code.getD i default).tc) none,Reg.box 112 [C.v (Value.string (cs.getD x2_0.toNat default).name),C.h 3]] }
def L4_J (cs:List Cor) (x2_0:Int):Int×Bool→Prop:=fun x=>0≤x.1∧x.1≤x2_0∧(x.2&&allFrom (pDiff cs x2_0) x.1 x2_0)=(nameB (corAt cs x2_0).name&&allFrom (pDiff cs x2_0) 0 x2_0)
def L4_m (x2_0:Int):Int×Bool→Nat:=fun x=>(x2_0-x.1).toNat
def L4 (mem:List Int) (s9:Int) (l9:Int) (bu:Int) (cs:List Cor) (x2_0:Int):Lp (Int×Bool):=⟨L4_I mem s9 l9 bu cs x2_0,L4_J cs x2_0,L4_m x2_0⟩
theorem Qd0 (mem:List Int) (s9 l9 bu:Int) (cs:List Cor):Ctr Tryz.prog 49 [IntRow mem,Cor.rowR cs] [.agg [.h 0,.i .i64 s9,.i .i64 l9,.i .i64 bu,.h 1]]
 (Det (.c (.b (shapedB mem s9 l9 bu cs))) [.dead,.dead]):=by
 refine Ctr.intro [] Tryz.func49 K K ?_
 refine Q0 (decide (s9<(0:Int))||decide ((64:Int)<s9)||decide (l9<(0:Int))||decide ((16:Int)<l9)||decide ((↑mem.length:Int)<s9+l9)||decide ((4096:Int)<(↑mem.length:Int))||decide (bu<(1:Int))||decide ((16:Int)<bu)||decide ((8:Int)<(↑cs.length:Int))) (fun h1=>?_) (fun h1=>?_) (vc:=[(decide (s9<(0:Int))||decide ((64:Int)<s9)||decide (l9<(0:Int))||decide ((16:Int)<l9))=false→Fits IntKind.i64 (s9+l9)]) (hv:=W14)
 ·exact Q1 [] [0] [shapedB mem s9 l9 bu cs=false] W77
 ·refine tz [2,1] ?_
  refine Qb (L3 mem s9 l9 bu cs) ((0:Int)) (by dsimp only [L3,L3_J,corAt,insAt];grind) ?_
  rintro x2_0 hJ2
  dsimp only [L3,L3_J,corAt,insAt] at hJ2
  refine tz [3,2,1] ?_
  refine Q0 (decide (x2_0<(↑cs.length:Int))) (fun h3=>?_) (fun h3=>?_)
  ·refine Yu 1 (x2_0.toNat) ?_ (vc:=[x2_0.toNat<cs.length]) (hv:=W14)
   refine tz [3,2,1] ?_
   refine Q2 Gn (Q3h ((cs.getD x2_0.toNat default).name)) [] ?_ (vc:=[(0:Int)≤x2_0,x2_0<(↑cs.length:Int),x2_0.toNat=x2_0.toNat]) (hv:=W14)
   refine tz [73,4,3,2,1] ?_
   refine Qb (L4 mem s9 l9 bu cs x2_0) (((0:Int),nameB (cs.getD x2_0.toNat default).name)) (by dsimp only [L4,L4_J,corAt,insAt];grind) ?_
   rintro ⟨x4_0,x4_1⟩ hJ4
   dsimp only [L4,L4_J,corAt,insAt] at hJ4
   refine tz [6,5,4,3,2,1] ?_
   refine Q0 (decide (x4_0<x2_0)) (fun h5=>?_) (fun h5=>?_)
   ·exact Q6 (L4 mem s9 l9 bu cs x2_0) (x4_0,x4_1) ((x4_0+(1:Int),x4_1&&!decide ((cs.getD x4_0.toNat default).name=(cs.getD x2_0.toNat default).name))) (by dsimp only [L4,L4_m];(try simp only [decide_eq_true_eq] at *);omega) (by have hs:=Jo (pDiff cs x2_0) (i:=x4_0) (n:=x2_0) (by grind);dsimp only [pDiff,corAt,L4,L4_J] at *;grind) (vc:=[x4_1=true→(0:Int)≤x4_0,x4_1=true→x4_0<(↑cs.length:Int),x4_1=true→x4_0.toNat<cs.length,Fits IntKind.i64 (x4_0+(1:Int))]) (hv:=W14)
   ·refine tz [6,5,4,3,2,1] ?_
    refine Q0 (!x4_1||decide ((↑(cs.getD x2_0.toNat default).code.length:Int)<(1:Int))||decide ((16384:Int)<(↑(cs.getD x2_0.toNat default).code.length:Int))||!decide (((cs.getD x2_0.toNat default).code.getD ((↑(cs.getD x2_0.toNat default).code.length:Int)-(1:Int)).toNat default).kind=(10:Int))&&!decide (((cs.getD x2_0.toNat default).code.getD ((↑(cs.getD x2_0.toNat default).code.length:Int)-(1:Int)).toNat default).kind=(8:Int))) (fun h6=>?_) (fun h6=>?_) (vc:=[(!x4_1||decide ((↑(cs.getD x2_0.toNat default).code.length:Int)<(1:Int))||decide ((16384:Int)<(↑(cs.getD x2_0.toNat default).code.length:Int)))=false→Fits IntKind.i64 ((↑(cs.getD x2_0.toNat default).code.length:Int)-(1:Int)),(!x4_1||decide ((↑(cs.getD x2_0.toNat default).code.length:Int)<(1:Int))||decide ((16384:Int)<(↑(cs.getD x2_0.toNat default).code.length:Int)))=false→(0:Int)≤(↑(cs.getD x2_0.toNat default).code.length:Int)-(1:Int),(!x4_1||decide ((↑(cs.getD x2_0.toNat default).code.length:Int)<(1:Int))||decide ((16384:Int)<(↑(cs.getD x2_0.toNat default).code.length:Int)))=false→(↑(cs.getD x2_0.toNat default).code.length:Int)-(1:Int)<(↑(cs.getD x2_0.toNat default).code.length:Int),(!x4_1||decide ((↑(cs.getD x2_0.toNat default).code.length:Int)<(1:Int))||decide ((16384:Int)<(↑(cs.getD x2_0.toNat default).code.length:Int)))=false→((↑(cs.getD x2_0.toNat default).code.length:Int)-(1:Int)).toNat<(cs.getD x2_0.toNat default).code.length,(!x4_1||decide ((↑(cs.getD x2_0.toNat default).code.length:Int)<(1:Int))||decide ((16384:Int)<(↑(cs.getD x2_0.toNat default).code.length:Int)))=false→(!decide (((cs.getD x2_0.toNat default).code.getD ((↑(cs.getD x2_0.toNat default).code.length:Int)-(1:Int)).toNat default).kind=(10:Int)))=true→Fits IntKind.i64 ((↑(cs.getD x2_0.toNat default).code.length:Int)-(1:Int)),(!x4_1||decide ((↑(cs.getD x2_0.toNat default).code.length:Int)<(1:Int))||decide ((16384:Int)<(↑(cs.getD x2_0.toNat default).code.length:Int)))=false→(!decide (((cs.getD x2_0.toNat default).code.getD ((↑(cs.getD x2_0.toNat default).code.length:Int)-(1:Int)).toNat default).kind=(10:Int)))=true→(0:Int)≤(↑(cs.getD x2_0.toNat default).code.length:Int)-(1:Int),(!x4_1||decide ((↑(cs.getD x2_0.toNat default).code.length:Int)<(1:Int))||decide ((16384:Int)<(↑(cs.getD x2_0.toNat default).code.length:Int)))=false→(!decide (((cs.getD x2_0.toNat default).code.getD ((↑(cs.getD x2_0.toNat default).code.length:Int)-(1:Int)).toNat default).kind=(10:Int)))=true→(↑(cs.getD x2_0.toNat default).code.length:Int)-(1:Int)<(↑(cs.getD x2_0.toNat default).code.length:Int),(!x4_1||decide ((↑(cs.getD x2_0.toNat default).code.length:Int)<(1:Int))||decide ((16384:Int)<(↑(cs.getD x2_0.toNat default).code.length:Int)))=false→(!decide (((cs.getD x2_0.toNat default).code.getD ((↑(cs.getD x2_0.toNat default).code.length:Int)-(1:Int)).toNat default).kind=(10:Int)))=true→((↑(cs.getD x2_0.toNat default).code.length:Int)-(1:Int)).toNat<(cs.getD x2_0.toNat default).code.length]) (hv:=W14)
    ·exact Q1 [] [0] [shapedB mem s9 l9 bu cs=false] W77
    ·exact Q6 (L3 mem s9 l9 bu cs) x2_0 (x2_0+(1:Int)) (by dsimp only [L3,L3_m];(try simp only [decide_eq_true_eq] at *);omega) (by have he:=Za (pDiff cs x2_0) (i:=x4_0) (n:=x2_0) (by grind);have hp:corB cs x2_0=true:=(by simp only [corB,corAt,insAt];grind);have hs:=G8 (corB cs) (n:=cs.length) (by grind) hp;dsimp only [L3,L3_J] at *;grind) (vc:=[Fits IntKind.i64 (x2_0+(1:Int))]) (hv:=W14)
  ·exact Q1 [] [0] [shapedB mem s9 l9 bu cs=true] W77
end Go.Proofs.YtmaodngbpfjnnaaGreat
end
noncomputable section
namespace Go.Proofs.YtmaodngbpfjnnaaGreat
open Go Go.Tx
def L36_0 (mem:List Int) (s9:Int) (l9:Int) (bu:Int) (cs:List Cor):Lp (Int×Int×Int×Int):=⟨fun x=>{ N:=53,fr:=[se 6 (C.i .i64 x.1),se 4 (C.i .i64 x.2.1),se 3 (C.i .i64 x.2.2.1),se 2 (C.i .i64 x.2.2.2),se 1 (C.p 2 0)],rg:=[IntRow mem,rowOf 2 (·.tc) cs,Reg.box 29 [C.h 0,C.i .i64 s9,C.i .i64 l9,C.i .i64 bu,C.h 1]],wr:=[] },fun x=>0≤x.1∧x.1≤(cs.length:Int)∧badI mem cs=findFrom (rowB mem cs) x.1 cs.length,fun x=>((cs.length:Int)-x.1).toNat⟩
def L36_1 (mem:List Int) (s9:Int) (l9:Int) (bu:Int) (cs:List Cor) (x2_0:Int) (x2_1:Int) (x2_2:Int) (x2_3:Int):Lp (Int×Int×Int×Int):=⟨fun x=>{ N:=53,fr:=[se 7 (C.i .i64 x.1),se 6 (C.i .i64 x2_0),se 4 (C.i .i64 x.2.1),se 3 (C.i .i64 x.2.2.1),se 2 (C.i .i64 x.2.2.2),se 1 (C.p 2 0)],rg:=[IntRow mem,Reg.row 2 cs.length (fun i=>(cs.getD i default).tc) (some (x2_0.toNat,[C.v (Value.string (cs.getD x2_0.toNat default).name),C.h 3])),Reg.box 29 [C.h 0,C.i .i64 s9,C.i .i64 l9,C.i .i64 bu,C.h 1],Reg.row 9 (cs.getD x2_0.toNat default).code.length (fun i=>((cs.getD x2_0.toNat default).code.getD i default).tc) none],wr:=[] },fun x=>0≤x.1∧x.1≤((cs.getD x2_0.toNat default).code.length:Int)∧findFrom (insOk mem cs x2_0) 0 (cs.getD x2_0.toNat default).code.length=findFrom (insOk mem cs x2_0) x.1 (cs.getD x2_0.toNat default).code.length,fun x=>(((cs.getD x2_0.toNat default).code.length:Int)-x.1).toNat⟩
theorem Qe0 (mem:List Int) (s9 l9 bu:Int) (cs:List Cor) (hw:∀ a b:Nat,insK ((cs.getD a default).code.getD b default)):Ctr Tryz.prog 29 [IntRow mem,Cor.rowR cs] [.agg [.h 0,.i .i64 s9,.i .i64 l9,.i .i64 bu,.h 1]]
 (Det (.tup [(false,[.i .i64 (chkE mem s9 l9 bu cs)]),(false,[.i .i64 (chkI mem s9 l9 bu cs)]),(false,[.i .i64 (chkK mem s9 l9 bu cs)])]) [.dead,.dead]):=by
 refine Ctr.intro [] Tryz.func29 K K ?_
 refine RunF.lens 1 (m:=cs.length) K (fun hlens_1=>?_)
 refine Q2 Q3x (Qd0 mem s9 l9 bu cs) [] ?_
 refine tz [9,4,3,2,1] ?_
 refine Q0 (!shapedB mem s9 l9 bu cs) (fun h1=>?_) (fun h1=>?_)
 ·exact Q1 [] [0,1,2] [chkE mem s9 l9 bu cs=(160:Int),chkI mem s9 l9 bu cs=(0:Int),chkK mem s9 l9 bu cs=(0:Int)] W28
 ·refine tz [4,3,2,1] ?_
  refine Qb (L36_0 mem s9 l9 bu cs) (((0:Int),(0:Int),(0:Int),(0:Int))) ⟨Int.le_refl _,by grind,rfl⟩ ?_
  rintro ⟨x2_0,x2_1,x2_2,x2_3⟩ hJ2
  dsimp only [L36_0] at hJ2
  refine tz [6,4,3,2,1] ?_
  refine Q0 (decide (x2_0<(↑cs.length:Int))) (fun h3=>?_) (fun h3=>?_)
  ·refine Yu 1 (x2_0.toNat) ?_ (vc:=[x2_0.toNat<cs.length]) (hv:=W14)
   refine RunF.lens 3 (m:=(cs.getD x2_0.toNat default).code.length) K (fun hlenh3t_3=>?_)
   refine tz [6,4,3,2,1] ?_
   refine Qb (L36_1 mem s9 l9 bu cs x2_0 x2_1 x2_2 x2_3) (((0:Int),x2_1,x2_2,x2_3)) (by dsimp only [L36_1];grind) ?_
   rintro ⟨x4_0,x4_1,x4_2,x4_3⟩ hJ4
   dsimp only [L36_1] at hJ4
   refine tz [7,6,4,3,2,1] ?_
   refine Q0 (decide (x4_0<(↑(cs.getD x2_0.toNat default).code.length:Int))) (fun h5=>?_) (fun h5=>?_) (vc:=[(0:Int)≤x2_0,x2_0<(↑cs.length:Int),x2_0.toNat=x2_0.toNat]) (hv:=W14)
   ·refine tz [7,6,4,3,2,1] ?_
    refine Q2 Q4o (Q9g ((cs.getD x2_0.toNat default).code.getD x4_0.toNat default) (↑(cs.getD x2_0.toNat default).code.length:Int) (↑mem.length:Int) W134) [] ?_ (vc:=[(0:Int)≤x2_0,x2_0<(↑cs.length:Int),x2_0.toNat=x2_0.toNat,(0:Int)≤x4_0,x4_0<(↑(cs.getD x2_0.toNat default).code.length:Int),x4_0.toNat<(cs.getD x2_0.toNat default).code.length,(0:Int)≤x2_0,x2_0<(↑cs.length:Int),x2_0.toNat=x2_0.toNat]) (hv:=W14)
    refine tz [49,48,47,46,45,44,43,42,41,40,39,38,37,36,35,34,33,32,31,30,7,6,4,3,2,1] ?_
    refine Q0 (!insB ((cs.getD x2_0.toNat default).code.getD x4_0.toNat default) (↑(cs.getD x2_0.toNat default).code.length:Int) (↑mem.length:Int)) (fun h6=>?_) (fun h6=>?_)
    ·exact Q1 [] [0,1,2] [chkE mem s9 l9 bu cs=(160:Int),chkI mem s9 l9 bu cs=x2_0,chkK mem s9 l9 bu cs=x4_0] W28
    ·exact Q6 (L36_1 mem s9 l9 bu cs x2_0 x2_1 x2_2 x2_3) (x4_0,x4_1,x4_2,x4_3) ((x4_0+(1:Int),x4_1,x4_2,x4_3)) (by dsimp only [L36_1];(try simp only [decide_eq_true_eq] at *);omega) (by have hp:insOk mem cs x2_0 x4_0=true:=(by simp only [insOk,corAt,insAt];grind);have hs:=Yt (insOk mem cs x2_0) (n:=((cs.getD x2_0.toNat default).code.length:Int)) (by grind) hp;dsimp only [L36_1] at *;grind) (vc:=[Fits IntKind.i64 (x4_0+(1:Int))]) (hv:=W14)
   ·exact Q6 (L36_0 mem s9 l9 bu cs) (x2_0,x2_1,x2_2,x2_3) ((x2_0+(1:Int),x4_1,x4_2,x4_3)) (by dsimp only [L36_0];(try simp only [decide_eq_true_eq] at *);omega) (by have he:=Zi (insOk mem cs x2_0) (i:=x4_0) (n:=((cs.getD x2_0.toNat default).code.length:Int)) (by grind);have hp:rowB mem cs x2_0=true:=(by simp only [rowB,corAt];grind);have hs:=Yt (rowB mem cs) (n:=cs.length) (by grind) hp;dsimp only [L36_0] at *;grind) (vc:=[Fits IntKind.i64 (x2_0+(1:Int))]) (hv:=W14)
  ·exact Q1 [] [0,1,2] [chkE mem s9 l9 bu cs=(0:Int),chkI mem s9 l9 bu cs=(0:Int),chkK mem s9 l9 bu cs=(0:Int)] W28
end Go.Proofs.YtmaodngbpfjnnaaGreat
end
noncomputable section
namespace Go.Proofs.YtmaodngbpfjnnaaGreat
open Go Go.Tx
theorem Qg4 (a b:ByteArray) (la lb:List Ins):Ctr Tryz.prog 63 [Ins.rowR la,Reg.ro [.v (.string b),.h 2],Ins.rowR lb] [.agg [.v (.string a),.h 0],.c (.p 1 0)]
 (Det (.c (.b (decide (a=b)))) [.dead,.dead,.dead]):=by
 refine Ctr.intro [] Tryz.func63 K K ?_
 exact Q1
def L72_0 (cs:List Cor) (n:Nat) (b:ByteArray) (lb:List Ins):Lp (Int×Int):=⟨fun x=>{ N:=19,fr:=[se 8 (C.i .i64 x.1),se 7 (C.i .i64 (↑n:Int)),se 4 (C.i .i64 x.2),se 0 (C.h 0),se 1 (C.fn 63 false [1])],rg:=[Reg.row 2 n (fun i=>(cs.getD (0+i) default).tc) none,Reg.ro [C.v (Value.string b),C.h 2],rowOf 9 (·.tc) lb],wr:=[] },fun x=>0≤x.1∧x.1≤(n:Int)∧findFrom (nDiff cs b) 0 n=findFrom (nDiff cs b) x.1 n,fun x=>((n:Int)-x.1).toNat⟩
theorem Qe1 (cs:List Cor) (n:Nat) (b:ByteArray) (lb:List Ins):Ctr Tryz.prog 94 [Reg.row 2 n (fun i=>(cs.getD (0+i) default).tc) none,Reg.ro [.v (.string b),.h 2],Ins.rowR lb] [.c (.h 0),.c (.fn 63 false [1])]
 (Det (.c (.i .i64 (indexName cs n b))) [.dead,.dead,.dead]):=by
 refine Ctr.intro [] Tryz.func94 K K ?_
 refine RunF.lens 0 (m:=n) K (fun hlens_0=>?_)
 refine Qb (L72_0 cs n b lb) (((0:Int),(0:Int))) (by dsimp only [L72_0];grind) ?_
 rintro ⟨x1_0,x1_1⟩ hJ1
 dsimp only [L72_0] at hJ1
 refine tz [8,7,4,0,1] ?_
 refine Q0 (decide (x1_0<(↑n:Int))) (fun h2=>?_) (fun h2=>?_)
 ·refine Yu 0 (x1_0.toNat) ?_ (vc:=[x1_0.toNat<n]) (hv:=W14)
  refine tz [8,7,4,0,1] ?_
  refine Q2 Q5r (Qg4 ((cs.getD (0+x1_0.toNat) default).name) b ((cs.getD (0+x1_0.toNat) default).code) lb) [3,1,2] ?_ (vc:=[(0:Int)≤x1_0,x1_0<(↑n:Int),x1_0.toNat=x1_0.toNat]) (hv:=W14)
  refine tz [16,5,8,7,4,0,1] ?_
  refine Q0 (decide ((cs.getD (0+x1_0.toNat) default).name=b)) (fun h3=>?_) (fun h3=>?_)
  ·exact Q1 [] [0] [indexName cs n b=x1_0] W114
  ·exact Q6 (L72_0 cs n b lb) (x1_0,x1_1) ((x1_0+(1:Int),x1_1)) (by dsimp only [L72_0];(try simp only [decide_eq_true_eq] at *);omega) (by have hp:nDiff cs b x1_0=true:=(by simp only [nDiff,corAt];grind);have hs:=Yt (nDiff cs b) (n:=n) (by grind) hp;dsimp only [L72_0] at *;grind) (vc:=[Fits IntKind.i64 (x1_0+(1:Int))]) (hv:=W14)
 ·exact Q1 [] [0] [indexName cs n b=(-1:Int)] W114
theorem Q9k (cs:List Cor) (n:Nat) (b:ByteArray) (lb:List Ins):Ctr Tryz.prog 65 [Reg.row 2 n (fun i=>(cs.getD (0+i) default).tc) none,Reg.ro [.v (.string b),.h 2],Ins.rowR lb] [.c (.h 0),.c (.fn 63 false [1])]
 (Det (.c (.b (!decide (findFrom (nDiff cs b) 0 n=n)))) [.dead,.dead,.dead]):=by
 refine Ctr.intro [] Tryz.func65 K K ?_
 refine Q2 Q4r (Qe1 cs n b lb) [] ?_
 exact Q1 [] [0] [(!decide (findFrom (nDiff cs b) (0:Int) (↑n:Int)=(↑n:Int)))=decide ((0:Int)≤indexName cs n b)] (by simp only [Conj,indexName];have hg:=Qdq (nDiff cs b) (n:=n) _ 0 rfl (by omega);grind)
end Go.Proofs.YtmaodngbpfjnnaaGreat
end
noncomputable section
namespace Go.Proofs.YtmaodngbpfjnnaaGreat
open Go Go.Tx
theorem Qam (cs:List Cor) (x:Int) (h:0≤x):corB cs x=(nameB (cs.getD x.toNat default).name&&decide (findFrom (nDiff cs (cs.getD x.toNat default).name) 0 ((x.toNat-0:Nat):Int)=((x.toNat-0:Nat):Int)) &&
 decide (1≤((cs.getD x.toNat default).code.length:Int))&&decide (((cs.getD x.toNat default).code.length:Int)≤16384) &&
 (decide (((cs.getD x.toNat default).code.getD (((cs.getD x.toNat default).code.length:Int)-1).toNat default).kind=10)||decide (((cs.getD x.toNat default).code.getD (((cs.getD x.toNat default).code.length:Int)-1).toNat default).kind=8))):=by
 rw [Qc0 _ _ 0 rfl W37]
 rw [show ((x.toNat-0:Nat):Int)=x by omega]
 rfl
def L47_0 (mem:List Int) (s9:Int) (l9:Int) (bu:Int) (cs:List Cor):Lp (Int×Bool):=⟨fun x=>{ N:=105,fr:=[se 62 (C.i .i64 x.1),se 61 (C.i .i64 (↑cs.length:Int)),se 60 (C.h 1),se 2 (C.b x.2),se 1 (C.p 2 0)],rg:=[IntRow mem,rowOf 2 (·.tc) cs,Reg.box 29 [C.h 0,C.i .i64 s9,C.i .i64 l9,C.i .i64 bu,C.h 1]],wr:=[] },fun x=>0≤x.1∧x.1≤(cs.length:Int)∧allFrom (corB cs) 0 cs.length=allFrom (corB cs) x.1 cs.length,fun x=>((cs.length:Int)-x.1).toNat⟩
theorem Qk9 (mem:List Int) (s9 l9 bu:Int) (cs:List Cor):Ctr Tryz.prog 41 [IntRow mem,Cor.rowR cs] [.agg [.h 0,.i .i64 s9,.i .i64 l9,.i .i64 bu,.h 1]]
 (Det (.c (.b (shapedB mem s9 l9 bu cs))) [.dead,.dead]):=by
 refine Ctr.intro [] Tryz.func41 K K ?_
 refine RunF.lens 1 (m:=cs.length) K (fun hlens_1=>?_)
 refine Q0 (decide (s9<(0:Int))||decide ((64:Int)<s9)||decide (l9<(0:Int))||decide ((16:Int)<l9)||decide ((↑mem.length:Int)<s9+l9)||decide ((4096:Int)<(↑mem.length:Int))||decide (bu<(1:Int))||decide ((16:Int)<bu)||decide ((8:Int)<(↑cs.length:Int))) (fun h1=>?_) (fun h1=>?_) (vc:=[(decide (s9<(0:Int))||decide ((64:Int)<s9)||decide (l9<(0:Int))||decide ((16:Int)<l9))=false→Fits IntKind.i64 (s9+l9)]) (hv:=W14)
 ·exact Q1 [] [0] [shapedB mem s9 l9 bu cs=false] W57
 ·refine tz [2,1] ?_
  refine Qb (L47_0 mem s9 l9 bu cs) (((0:Int),false)) (by dsimp only [L47_0];grind) ?_
  rintro ⟨x2_0,x2_1⟩ hJ2
  dsimp only [L47_0] at hJ2
  refine tz [62,61,60,2,1] ?_
  refine Q0 (decide (x2_0<(↑cs.length:Int))) (fun h3=>?_) (fun h3=>?_)
  ·refine Yu 1 (x2_0.toNat) ?_ (vc:=[x2_0.toNat<cs.length]) (hv:=W14)
   refine RunF.lens 3 (m:=(cs.getD x2_0.toNat default).code.length) K (fun hlenh3t_3=>?_)
   refine tz [62,61,60,2,1] ?_
   refine Q2 Q4q (Qhc ((cs.getD x2_0.toNat default).name)) [] ?_ (vc:=[(0:Int)≤x2_0,x2_0<(↑cs.length:Int),x2_0.toNat=x2_0.toNat]) (hv:=W14)
   refine tz [73,6,5,3,4,62,61,60,2,1] ?_
   refine Q0 (!nameB (cs.getD x2_0.toNat default).name) (fun h4=>?_) (fun h4=>?_)
   ·exact Q1 [] [0] [shapedB mem s9 l9 bu cs=false] W57
   ·refine tz [78,77,75,6,5,4,62,61,60,2,1] ?_
    refine Q2 Q2n (Q9k cs (x2_0.toNat-0) ((cs.getD x2_0.toNat default).name) ((cs.getD x2_0.toNat default).code)) [5,4,3] ?_ (vc:=[(0:Int)≤(0:Int),(0:Int)≤x2_0,x2_0≤(↑cs.length:Int)]) (hv:=W14)
    refine tz [81,75,6,4,62,61,60,2,1] ?_
    refine Q0 (!decide (findFrom (nDiff cs (cs.getD x2_0.toNat default).name) (0:Int) (↑(x2_0.toNat-0):Int)=(↑(x2_0.toNat-0):Int))||decide ((↑(cs.getD x2_0.toNat default).code.length:Int)<(1:Int))||decide ((16384:Int)<(↑(cs.getD x2_0.toNat default).code.length:Int))) (fun h5=>?_) (fun h5=>?_)
    ·exact Q1 [] [0] [shapedB mem s9 l9 bu cs=false] W57
    ·refine tz [6,4,62,61,60,2,1] ?_
     refine Q0 (!decide (((cs.getD x2_0.toNat default).code.getD ((↑(cs.getD x2_0.toNat default).code.length:Int)-(1:Int)).toNat default).kind=(10:Int))&&!decide (((cs.getD x2_0.toNat default).code.getD ((↑(cs.getD x2_0.toNat default).code.length:Int)-(1:Int)).toNat default).kind=(8:Int))) (fun h6=>?_) (fun h6=>?_) (vc:=[Fits IntKind.i64 ((↑(cs.getD x2_0.toNat default).code.length:Int)-(1:Int)),(0:Int)≤(↑(cs.getD x2_0.toNat default).code.length:Int)-(1:Int),(↑(cs.getD x2_0.toNat default).code.length:Int)-(1:Int)<(↑(cs.getD x2_0.toNat default).code.length:Int),((↑(cs.getD x2_0.toNat default).code.length:Int)-(1:Int)).toNat<(cs.getD x2_0.toNat default).code.length]) (hv:=W14)
     ·exact Q1 [] [0] [shapedB mem s9 l9 bu cs=false] W57
     ·exact Q6 (L47_0 mem s9 l9 bu cs) (x2_0,x2_1) ((x2_0+(1:Int),x2_1)) (by dsimp only [L47_0];(try simp only [decide_eq_true_eq] at *);omega) (by have hp:corB cs x2_0=true:=(by rw [Qam cs x2_0 (by grind)];grind);have hs:=G8 (corB cs) (n:=cs.length) (by grind) hp;dsimp only [L47_0] at *;grind) (vc:=[Fits IntKind.i64 (x2_0+(1:Int))]) (hv:=W14)
  ·exact Q1 [] [0] [shapedB mem s9 l9 bu cs=true] W57
end Go.Proofs.YtmaodngbpfjnnaaGreat
end
noncomputable section
namespace Go.Proofs.YtmaodngbpfjnnaaGreat
open Go Go.Tx
def L41_0 (mem:List Int) (s9:Int) (l9:Int) (bu:Int) (cs:List Cor):Lp (Int×Int×Int×Int):=⟨fun x=>{ N:=41,fr:=[se 15 (C.i .i64 x.1),se 14 (C.i .i64 (↑cs.length:Int)),se 13 (C.h 1),se 4 (C.i .i64 x.2.1),se 3 (C.i .i64 x.2.2.1),se 2 (C.i .i64 x.2.2.2),se 1 (C.p 2 0)],rg:=[IntRow mem,rowOf 2 (·.tc) cs,Reg.box 29 [C.h 0,C.i .i64 s9,C.i .i64 l9,C.i .i64 bu,C.h 1]],wr:=[] },fun x=>0≤x.1∧x.1≤(cs.length:Int)∧badI mem cs=findFrom (rowB mem cs) x.1 cs.length,fun x=>((cs.length:Int)-x.1).toNat⟩
def L41_1 (mem:List Int) (s9:Int) (l9:Int) (bu:Int) (cs:List Cor) (x2_0:Int) (x2_1:Int) (x2_2:Int) (x2_3:Int):Lp (Int×Int×Int×Int):=⟨fun x=>{ N:=41,fr:=[se 23 (C.i .i64 x.1),se 22 (C.i .i64 (↑(cs.getD x2_0.toNat default).code.length:Int)),se 21 (C.h 3),se 5 (C.i .i64 x2_0),se 6 (C.p 4 0),se 15 (C.i .i64 x2_0),se 14 (C.i .i64 (↑cs.length:Int)),se 13 (C.h 1),se 4 (C.i .i64 x.2.1),se 3 (C.i .i64 x.2.2.1),se 2 (C.i .i64 x.2.2.2),se 1 (C.p 2 0)],rg:=[IntRow mem,Reg.row 2 cs.length (fun i=>(cs.getD i default).tc) (some (x2_0.toNat,[C.v (Value.string (cs.getD x2_0.toNat default).name),C.h 3])),Reg.box 29 [C.h 0,C.i .i64 s9,C.i .i64 l9,C.i .i64 bu,C.h 1],Reg.row 9 (cs.getD x2_0.toNat default).code.length (fun i=>((cs.getD x2_0.toNat default).code.getD i default).tc) none,Reg.box 112 [C.v (Value.string (cs.getD x2_0.toNat default).name),C.h 3]],wr:=[] },fun x=>0≤x.1∧x.1≤((cs.getD x2_0.toNat default).code.length:Int)∧findFrom (insOk mem cs x2_0) 0 (cs.getD x2_0.toNat default).code.length=findFrom (insOk mem cs x2_0) x.1 (cs.getD x2_0.toNat default).code.length,fun x=>(((cs.getD x2_0.toNat default).code.length:Int)-x.1).toNat⟩
theorem Qm5 (mem:List Int) (s9 l9 bu:Int) (cs:List Cor) (hw:∀ a b:Nat,insK ((cs.getD a default).code.getD b default)):Ctr Tryz.prog 24 [IntRow mem,Cor.rowR cs] [.agg [.h 0,.i .i64 s9,.i .i64 l9,.i .i64 bu,.h 1]]
 (Det (.tup [(false,[.i .i64 (chkE mem s9 l9 bu cs)]),(false,[.i .i64 (chkI mem s9 l9 bu cs)]),(false,[.i .i64 (chkK mem s9 l9 bu cs)])]) [.dead,.dead]):=by
 refine Ctr.intro [] Tryz.func24 K K ?_
 refine RunF.lens 1 (m:=cs.length) K (fun hlens_1=>?_)
 refine Q2 Q8e (Qk9 mem s9 l9 bu cs) [] ?_
 refine tz [10,4,3,2,1] ?_
 refine Q0 (!shapedB mem s9 l9 bu cs) (fun h1=>?_) (fun h1=>?_)
 ·exact Q1 [] [0,1,2] [chkE mem s9 l9 bu cs=(160:Int),chkI mem s9 l9 bu cs=(0:Int),chkK mem s9 l9 bu cs=(0:Int)] W28
 ·refine tz [4,3,2,1] ?_
  refine Qb (L41_0 mem s9 l9 bu cs) (((0:Int),(0:Int),(0:Int),(0:Int))) ⟨Int.le_refl _,by grind,rfl⟩ ?_
  rintro ⟨x2_0,x2_1,x2_2,x2_3⟩ hJ2
  dsimp only [L41_0] at hJ2
  refine tz [15,14,13,4,3,2,1] ?_
  refine Q0 (decide (x2_0<(↑cs.length:Int))) (fun h3=>?_) (fun h3=>?_)
  ·refine Yu 1 (x2_0.toNat) ?_ (vc:=[x2_0.toNat<cs.length]) (hv:=W14)
   refine RunF.lens 3 (m:=(cs.getD x2_0.toNat default).code.length) K (fun hlenh3t_3=>?_)
   refine tz [15,14,13,4,3,2,1] ?_
   refine Qb (L41_1 mem s9 l9 bu cs x2_0 x2_1 x2_2 x2_3) (((0:Int),x2_1,x2_2,x2_3)) (by dsimp only [L41_1];grind) ?_ (vc:=[(0:Int)≤x2_0,x2_0<(↑cs.length:Int),x2_0.toNat=x2_0.toNat]) (hv:=W14)
   rintro ⟨x4_0,x4_1,x4_2,x4_3⟩ hJ4
   dsimp only [L41_1] at hJ4
   refine tz [23,22,21,5,6,15,14,13,4,3,2,1] ?_
   refine Q0 (decide (x4_0<(↑(cs.getD x2_0.toNat default).code.length:Int))) (fun h5=>?_) (fun h5=>?_)
   ·refine tz [23,22,21,5,6,15,14,13,4,3,2,1] ?_
    refine Q2 Q9a (Qfq ((cs.getD x2_0.toNat default).code.getD x4_0.toNat default) (↑(cs.getD x2_0.toNat default).code.length:Int) (↑mem.length:Int) W134 W134) [] ?_ (vc:=[(0:Int)≤x4_0,x4_0<(↑(cs.getD x2_0.toNat default).code.length:Int),x4_0.toNat<(cs.getD x2_0.toNat default).code.length]) (hv:=W14)
    refine tz [35,7,23,22,21,5,6,15,14,13,4,3,2,1] ?_
    refine Q0 (!insB ((cs.getD x2_0.toNat default).code.getD x4_0.toNat default) (↑(cs.getD x2_0.toNat default).code.length:Int) (↑mem.length:Int)) (fun h6=>?_) (fun h6=>?_)
    ·exact Q1 [] [0,1,2] [chkE mem s9 l9 bu cs=(160:Int),chkI mem s9 l9 bu cs=x2_0,chkK mem s9 l9 bu cs=x4_0] W28
    ·exact Q6 (L41_1 mem s9 l9 bu cs x2_0 x2_1 x2_2 x2_3) (x4_0,x4_1,x4_2,x4_3) ((x4_0+(1:Int),x4_1,x4_2,x4_3)) (by dsimp only [L41_1];(try simp only [decide_eq_true_eq] at *);omega) (by have hp:insOk mem cs x2_0 x4_0=true:=(by simp only [insOk,corAt,insAt];grind);have hs:=Yt (insOk mem cs x2_0) (n:=((cs.getD x2_0.toNat default).code.length:Int)) (by grind) hp;dsimp only [L41_1] at *;grind) (vc:=[Fits IntKind.i64 (x4_0+(1:Int))]) (hv:=W14)
   ·exact Q6 (L41_0 mem s9 l9 bu cs) (x2_0,x2_1,x2_2,x2_3) ((x2_0+(1:Int),x4_1,x4_2,x4_3)) (by dsimp only [L41_0];(try simp only [decide_eq_true_eq] at *);omega) (by have he:=Zi (insOk mem cs x2_0) (i:=x4_0) (n:=((cs.getD x2_0.toNat default).code.length:Int)) (by grind);have hp:rowB mem cs x2_0=true:=(by simp only [rowB,corAt];grind);have hs:=Yt (rowB mem cs) (n:=cs.length) (by grind) hp;dsimp only [L41_0] at *;grind) (vc:=[Fits IntKind.i64 (x2_0+(1:Int))]) (hv:=W14)
  ·exact Q1 [] [0,1,2] [chkE mem s9 l9 bu cs=(0:Int),chkI mem s9 l9 bu cs=(0:Int),chkK mem s9 l9 bu cs=(0:Int)] W28
end Go.Proofs.YtmaodngbpfjnnaaGreat
end
noncomputable section
namespace Go.Proofs.YtmaodngbpfjnnaaGreat
open Go Go.Tx
def L37_0 (l:List Did):Lp (Int×Bool):=⟨fun x=>{ N:=15,fr:=[se 7 (C.i .i64 x.1),se 6 (C.i .i64 (↑l.length:Int)),se 5 (C.h 0),se 2 (C.b x.2)],rg:=[rowOf 7 (·.tc) l],wr:=[] },fun x=>0≤x.1∧x.1≤(l.length:Int)∧rightsB l=allFrom (rightP l) x.1 l.length,fun x=>((l.length:Int)-x.1).toNat⟩
theorem Qd1 (l:List Did) (hl:∀ a:Nat,0≤(l.getD a default).kind∧(l.getD a default).kind≤255):Ctr Tryz.prog 30 [Did.rowR l] [.c (.h 0)]
 (Det (.c (.b (rightsB l))) [.dead]):=by
 refine Ctr.intro [] Tryz.func30 K K ?_
 refine RunF.lens 0 (m:=l.length) K (fun hlens_0=>?_)
 refine Qb (L37_0 l) (((0:Int),false)) ⟨by grind,by grind,rfl⟩ ?_
 rintro ⟨x1_0,x1_1⟩ hJ1
 dsimp only [L37_0] at hJ1
 refine tz [7,6,5,2] ?_
 refine Q0 (decide (x1_0<(↑l.length:Int))) (fun h2=>?_) (fun h2=>?_)
 ·refine Yu 0 (x1_0.toNat) ?_ (vc:=[x1_0.toNat<l.length]) (hv:=W14)
  refine tz [7,6,5,2] ?_
  refine Q2 Q4p (Q8p (l.getD x1_0.toNat default) (by first | assumption | omega | exact (hl _).1 | exact hl _)) [] ?_ (vc:=[(0:Int)≤x1_0,x1_0<(↑l.length:Int),x1_0.toNat<l.length]) (hv:=W14)
  refine tz [12,7,6,5,2] ?_
  refine Q0 (!didB (l.getD x1_0.toNat default)) (fun h3=>?_) (fun h3=>?_)
  ·exact Q1 [] [0] [rightsB l=false] W116
  ·exact Q6 (L37_0 l) (x1_0,x1_1) ((x1_0+(1:Int),x1_1)) (by dsimp only [L37_0];(try simp only [decide_eq_true_eq] at *);omega) (by have hp:rightP l x1_0=true:=(by simp only [rightP,didAt];grind);have hs:=G8 (rightP l) (n:=l.length) (by grind) hp;dsimp only [L37_0] at *;grind) (vc:=[Fits IntKind.i64 (x1_0+(1:Int))]) (hv:=W14)
 ·exact Q1 [] [0] [rightsB l=true] W116
theorem Qe2 (mem:List Int) (s9 l9 bu:Int) (cs:List Cor) (d:Did) (i:Int) (hs:0≤s9∧s9≤64∧0≤l9∧l9≤16) (ha:0≤d.addr∧d.addr<4096):Ctr Tryz.prog 31 [IntRow mem,Cor.rowR cs] [.agg [.h 0,.i .i64 s9,.i .i64 l9,.i .i64 bu,.h 1],.agg d.cs,.c (.i .i64 i)]
 (Det (.agg (evOf s9 l9 d i).cs) [.dead,.dead]):=by
 refine Ctr.intro [] Tryz.func31 K K ?_
 refine Q0 (decide (d.kind=(6:Int))) (fun h1=>?_) (fun h1=>?_)
 ·exact Q1 [] [0,1,2,3,4,5,6] [(evOf s9 l9 d i).kind=(6:Int),(evOf s9 l9 d i).core=d.core,(evOf s9 l9 d i).thing=(0:Int),(evOf s9 l9 d i).word=d.word,(evOf s9 l9 d i).put=(0:Int),(evOf s9 l9 d i).own=false,(evOf s9 l9 d i).pos=i] W43
 ·refine tz [15,7,6,4,3] ?_
  refine Q0 (decide (d.kind=(7:Int))) (fun h2=>?_) (fun h2=>?_)
  ·exact Q1 [] [0,1,2,3,4,5,6] [(evOf s9 l9 d i).kind=(7:Int),(evOf s9 l9 d i).core=d.core,(evOf s9 l9 d i).thing=(0:Int),(evOf s9 l9 d i).word=d.word,(evOf s9 l9 d i).put=(0:Int),(evOf s9 l9 d i).own=false,(evOf s9 l9 d i).pos=i] W43
  ·refine tz [15,7,6,4,3] ?_
   refine Q0 (decide (d.kind=(2:Int))) (fun h3=>?_) (fun h3=>?_)
   ·refine tz [25,7,6,4,3] ?_
    refine Q0 (decide (d.addr<s9)) (fun h4=>?_) (fun h4=>?_)
    ·refine tz [7,6,4,3] ?_
     refine Q0 (decide (d.kind=(4:Int))) (fun h5=>?_) (fun h5=>?_)
     ·exact Q1 [] [0,1,2,3,4,5,6] [(evOf s9 l9 d i).kind=(3:Int),(evOf s9 l9 d i).core=d.core,(evOf s9 l9 d i).thing=d.addr,(evOf s9 l9 d i).word=d.word,(evOf s9 l9 d i).put=d.put,(evOf s9 l9 d i).own=d.own,(evOf s9 l9 d i).pos=i] W43
     ·refine tz [7,6,4,3] ?_
      refine Q0 (decide (d.kind=(8:Int))) (fun h6=>?_) (fun h6=>?_)
      ·exact Q1 [] [0,1,2,3,4,5,6] [(evOf s9 l9 d i).kind=(2:Int),(evOf s9 l9 d i).core=d.core,(evOf s9 l9 d i).thing=d.addr,(evOf s9 l9 d i).word=d.word,(evOf s9 l9 d i).put=d.put,(evOf s9 l9 d i).own=d.own,(evOf s9 l9 d i).pos=i] W43
      ·exact Q1 [] [0,1,2,3,4,5,6] [(evOf s9 l9 d i).kind=(1:Int),(evOf s9 l9 d i).core=d.core,(evOf s9 l9 d i).thing=d.addr,(evOf s9 l9 d i).word=d.word,(evOf s9 l9 d i).put=d.put,(evOf s9 l9 d i).own=d.own,(evOf s9 l9 d i).pos=i] W43
    ·refine tz [7,6,4,3] ?_
     refine Q0 (decide (s9+l9≤d.addr)||!decide (d.word=(0:Int))) (fun h5=>?_) (fun h5=>?_) (vc:=[Fits IntKind.i64 (s9+l9)]) (hv:=W14)
     ·exact Q1 [] [0,1,2,3,4,5,6] [(evOf s9 l9 d i).kind=(0:Int),(evOf s9 l9 d i).core=(0:Int),(evOf s9 l9 d i).thing=(0:Int),(evOf s9 l9 d i).word=(0:Int),(evOf s9 l9 d i).put=(0:Int),(evOf s9 l9 d i).own=false,(evOf s9 l9 d i).pos=(0:Int)] W43
     ·refine tz [7,6,4,3] ?_
      refine Q0 (decide (d.kind=(8:Int))) (fun h6=>?_) (fun h6=>?_) (vc:=[Fits IntKind.i64 (d.addr-s9)]) (hv:=W14)
      ·exact Q1 [] [0,1,2,3,4,5,6] [(evOf s9 l9 d i).kind=(5:Int),(evOf s9 l9 d i).core=d.core,(evOf s9 l9 d i).thing=d.addr-s9,(evOf s9 l9 d i).word=d.word,(evOf s9 l9 d i).put=(0:Int),(evOf s9 l9 d i).own=false,(evOf s9 l9 d i).pos=i] W43
      ·refine tz [7,6,4] ?_
       refine Q0 (decide (d.kind=(4:Int))&&!decide (d.put=(0:Int))) (fun h7=>?_) (fun h7=>?_)
       ·exact Q1 [] [0,1,2,3,4,5,6] [(evOf s9 l9 d i).kind=(4:Int),(evOf s9 l9 d i).core=d.core,(evOf s9 l9 d i).thing=d.addr-s9,(evOf s9 l9 d i).word=d.word,(evOf s9 l9 d i).put=(0:Int),(evOf s9 l9 d i).own=false,(evOf s9 l9 d i).pos=i] W43
       ·exact Q1 [] [0,1,2,3,4,5,6] [(evOf s9 l9 d i).kind=(0:Int),(evOf s9 l9 d i).core=(0:Int),(evOf s9 l9 d i).thing=(0:Int),(evOf s9 l9 d i).word=(0:Int),(evOf s9 l9 d i).put=(0:Int),(evOf s9 l9 d i).own=false,(evOf s9 l9 d i).pos=(0:Int)] W43
   ·refine tz [25,15,7,6,4,3] ?_
    refine Q0 (decide (d.kind=(4:Int))) (fun h4=>?_) (fun h4=>?_)
    ·refine tz [25,7,6,4,3] ?_
     refine Q0 (decide (d.addr<s9)) (fun h5=>?_) (fun h5=>?_)
     ·refine tz [7,6,4,3] ?_
      refine Q0 (decide (d.kind=(4:Int))) (fun h6=>?_) (fun h6=>?_)
      ·exact Q1 [] [0,1,2,3,4,5,6] [(evOf s9 l9 d i).kind=(3:Int),(evOf s9 l9 d i).core=d.core,(evOf s9 l9 d i).thing=d.addr,(evOf s9 l9 d i).word=d.word,(evOf s9 l9 d i).put=d.put,(evOf s9 l9 d i).own=d.own,(evOf s9 l9 d i).pos=i] W43
      ·refine tz [7,6,4,3] ?_
       refine Q0 (decide (d.kind=(8:Int))) (fun h7=>?_) (fun h7=>?_)
       ·exact Q1 [] [0,1,2,3,4,5,6] [(evOf s9 l9 d i).kind=(2:Int),(evOf s9 l9 d i).core=d.core,(evOf s9 l9 d i).thing=d.addr,(evOf s9 l9 d i).word=d.word,(evOf s9 l9 d i).put=d.put,(evOf s9 l9 d i).own=d.own,(evOf s9 l9 d i).pos=i] W43
       ·exact Q1 [] [0,1,2,3,4,5,6] [(evOf s9 l9 d i).kind=(1:Int),(evOf s9 l9 d i).core=d.core,(evOf s9 l9 d i).thing=d.addr,(evOf s9 l9 d i).word=d.word,(evOf s9 l9 d i).put=d.put,(evOf s9 l9 d i).own=d.own,(evOf s9 l9 d i).pos=i] W43
     ·refine tz [7,6,4,3] ?_
      refine Q0 (decide (s9+l9≤d.addr)||!decide (d.word=(0:Int))) (fun h6=>?_) (fun h6=>?_) (vc:=[Fits IntKind.i64 (s9+l9)]) (hv:=W14)
      ·exact Q1 [] [0,1,2,3,4,5,6] [(evOf s9 l9 d i).kind=(0:Int),(evOf s9 l9 d i).core=(0:Int),(evOf s9 l9 d i).thing=(0:Int),(evOf s9 l9 d i).word=(0:Int),(evOf s9 l9 d i).put=(0:Int),(evOf s9 l9 d i).own=false,(evOf s9 l9 d i).pos=(0:Int)] W43
      ·refine tz [7,6,4,3] ?_
       refine Q0 (decide (d.kind=(8:Int))) (fun h7=>?_) (fun h7=>?_) (vc:=[Fits IntKind.i64 (d.addr-s9)]) (hv:=W14)
       ·exact Q1 [] [0,1,2,3,4,5,6] [(evOf s9 l9 d i).kind=(5:Int),(evOf s9 l9 d i).core=d.core,(evOf s9 l9 d i).thing=d.addr-s9,(evOf s9 l9 d i).word=d.word,(evOf s9 l9 d i).put=(0:Int),(evOf s9 l9 d i).own=false,(evOf s9 l9 d i).pos=i] W43
       ·refine tz [7,6,4] ?_
        refine Q0 (decide (d.kind=(4:Int))&&!decide (d.put=(0:Int))) (fun h8=>?_) (fun h8=>?_)
        ·exact Q1 [] [0,1,2,3,4,5,6] [(evOf s9 l9 d i).kind=(4:Int),(evOf s9 l9 d i).core=d.core,(evOf s9 l9 d i).thing=d.addr-s9,(evOf s9 l9 d i).word=d.word,(evOf s9 l9 d i).put=(0:Int),(evOf s9 l9 d i).own=false,(evOf s9 l9 d i).pos=i] W43
        ·exact Q1 [] [0,1,2,3,4,5,6] [(evOf s9 l9 d i).kind=(0:Int),(evOf s9 l9 d i).core=(0:Int),(evOf s9 l9 d i).thing=(0:Int),(evOf s9 l9 d i).word=(0:Int),(evOf s9 l9 d i).put=(0:Int),(evOf s9 l9 d i).own=false,(evOf s9 l9 d i).pos=(0:Int)] W43
    ·refine tz [25,15,7,6,4,3] ?_
     refine Q0 (decide (d.kind=(8:Int))) (fun h5=>?_) (fun h5=>?_)
     ·refine tz [7,6,4,3] ?_
      refine Q0 (decide (d.addr<s9)) (fun h6=>?_) (fun h6=>?_)
      ·refine tz [7,6,4,3] ?_
       refine Q0 (decide (d.kind=(4:Int))) (fun h7=>?_) (fun h7=>?_)
       ·exact Q1 [] [0,1,2,3,4,5,6] [(evOf s9 l9 d i).kind=(3:Int),(evOf s9 l9 d i).core=d.core,(evOf s9 l9 d i).thing=d.addr,(evOf s9 l9 d i).word=d.word,(evOf s9 l9 d i).put=d.put,(evOf s9 l9 d i).own=d.own,(evOf s9 l9 d i).pos=i] W43
       ·refine tz [7,6,4,3] ?_
        refine Q0 (decide (d.kind=(8:Int))) (fun h8=>?_) (fun h8=>?_)
        ·exact Q1 [] [0,1,2,3,4,5,6] [(evOf s9 l9 d i).kind=(2:Int),(evOf s9 l9 d i).core=d.core,(evOf s9 l9 d i).thing=d.addr,(evOf s9 l9 d i).word=d.word,(evOf s9 l9 d i).put=d.put,(evOf s9 l9 d i).own=d.own,(evOf s9 l9 d i).pos=i] W43
        ·exact Q1 [] [0,1,2,3,4,5,6] [(evOf s9 l9 d i).kind=(1:Int),(evOf s9 l9 d i).core=d.core,(evOf s9 l9 d i).thing=d.addr,(evOf s9 l9 d i).word=d.word,(evOf s9 l9 d i).put=d.put,(evOf s9 l9 d i).own=d.own,(evOf s9 l9 d i).pos=i] W43
      ·refine tz [7,6,4,3] ?_
       refine Q0 (decide (s9+l9≤d.addr)||!decide (d.word=(0:Int))) (fun h7=>?_) (fun h7=>?_) (vc:=[Fits IntKind.i64 (s9+l9)]) (hv:=W14)
       ·exact Q1 [] [0,1,2,3,4,5,6] [(evOf s9 l9 d i).kind=(0:Int),(evOf s9 l9 d i).core=(0:Int),(evOf s9 l9 d i).thing=(0:Int),(evOf s9 l9 d i).word=(0:Int),(evOf s9 l9 d i).put=(0:Int),(evOf s9 l9 d i).own=false,(evOf s9 l9 d i).pos=(0:Int)] W43
       ·refine tz [7,6,4,3] ?_
        refine Q0 (decide (d.kind=(8:Int))) (fun h8=>?_) (fun h8=>?_) (vc:=[Fits IntKind.i64 (d.addr-s9)]) (hv:=W14)
        ·exact Q1 [] [0,1,2,3,4,5,6] [(evOf s9 l9 d i).kind=(5:Int),(evOf s9 l9 d i).core=d.core,(evOf s9 l9 d i).thing=d.addr-s9,(evOf s9 l9 d i).word=d.word,(evOf s9 l9 d i).put=(0:Int),(evOf s9 l9 d i).own=false,(evOf s9 l9 d i).pos=i] W43
        ·refine tz [7,6,4] ?_
         refine Q0 (decide (d.kind=(4:Int))&&!decide (d.put=(0:Int))) (fun h9=>?_) (fun h9=>?_)
         ·exact Q1 [] [0,1,2,3,4,5,6] [(evOf s9 l9 d i).kind=(4:Int),(evOf s9 l9 d i).core=d.core,(evOf s9 l9 d i).thing=d.addr-s9,(evOf s9 l9 d i).word=d.word,(evOf s9 l9 d i).put=(0:Int),(evOf s9 l9 d i).own=false,(evOf s9 l9 d i).pos=i] W43
         ·exact Q1 [] [0,1,2,3,4,5,6] [(evOf s9 l9 d i).kind=(0:Int),(evOf s9 l9 d i).core=(0:Int),(evOf s9 l9 d i).thing=(0:Int),(evOf s9 l9 d i).word=(0:Int),(evOf s9 l9 d i).put=(0:Int),(evOf s9 l9 d i).own=false,(evOf s9 l9 d i).pos=(0:Int)] W43
     ·exact Q1 [] [0,1,2,3,4,5,6] [(evOf s9 l9 d i).kind=(0:Int),(evOf s9 l9 d i).core=(0:Int),(evOf s9 l9 d i).thing=(0:Int),(evOf s9 l9 d i).word=(0:Int),(evOf s9 l9 d i).put=(0:Int),(evOf s9 l9 d i).own=false,(evOf s9 l9 d i).pos=(0:Int)] W43
end Go.Proofs.YtmaodngbpfjnnaaGreat
end
noncomputable section
namespace Go.Proofs.YtmaodngbpfjnnaaGreat
open Go Go.Tx
def L23_0 (mem:List Int) (s9:Int) (l9:Int) (bu:Int) (cs:List Cor) (l:List Did):Lp (Int×List Ev):=⟨fun x=>{ N:=49,fr:=[se 31 (C.i .i64 x.1),se 30 (C.i .i64 (↑l.length:Int)),se 29 (C.h 2),se 9 (C.h 4),se 5 (C.i .i64 0),se 4 (C.v (Value.slice none 0 0)),se 2 (C.p 3 0)],rg:=[IntRow mem,rowOf 2 (·.tc) cs,rowOf 7 (·.tc) l,Reg.box 29 [C.h 0,C.i .i64 s9,C.i .i64 l9,C.i .i64 bu,C.h 1]]++[Ev.ownR x.2],wr:=[] },fun x=>0≤x.1∧x.1≤(l.length:Int)∧x.2=evUp s9 l9 l x.1.toNat,fun x=>((l.length:Int)-x.1).toNat⟩
theorem Qd2 (mem:List Int) (s9 l9 bu:Int) (cs:List Cor) (l:List Did) (hw:∀ a b:Nat,insK ((cs.getD a default).code.getD b default)) (hl:∀ a:Nat,0≤(l.getD a default).kind∧(l.getD a default).kind≤255) (hn:(l.length:Int) * 56≤140737488355328):Ctr Tryz.prog 13 [IntRow mem,Cor.rowR cs,Did.rowR l] [.agg [.h 0,.i .i64 s9,.i .i64 l9,.i .i64 bu,.h 1],.c (.h 2)]
 (Det (.tup [(false,[.h 3]),(false,[.i .i64 (evE mem s9 l9 bu cs l)])]) [.dead,.dead,.dead,Ev.ownR (evL mem s9 l9 bu cs l)]):=by
 refine Ctr.intro [] Tryz.func13 K K ?_
 refine RunF.lens 2 (m:=l.length) K (fun hlens_2=>?_)
 refine Q2 Q4m (Qe0 mem s9 l9 bu cs W74) [] ?_
 refine tz [15,5,4,2,1] ?_
 refine tG Q3w (Qd1 l W74) [2] ?_
 refine tz [23,21,6,5,4,2,1] ?_
 refine Q0 (decide (chkE mem s9 l9 bu cs=(0:Int))&&!rightsB l) (fun h1=>?_) (fun h1=>?_)
 ·refine tz [6,5,4,2,1] ?_
  refine Q0 (!decide ((190:Int)=(0:Int))) (fun h2=>?_) (fun h2=>?_)
  ·exact Q1 [0,1,2,1000003] [0,1] [(evL mem s9 l9 bu cs l).length=0,evE mem s9 l9 bu cs l=(190:Int)] W92
  ·exact absurd h2 W131
 ·refine tz [6,5,4,2,1] ?_
  refine Q0 (!decide (chkE mem s9 l9 bu cs=(0:Int))) (fun h2=>?_) (fun h2=>?_)
  ·exact Q1 [0,1,2,1000003] [0,1] [(evL mem s9 l9 bu cs l).length=0,evE mem s9 l9 bu cs l=chkE mem s9 l9 bu cs] W92
  ·refine tz [5,4,2,1] ?_
   refine Qb (L23_0 mem s9 l9 bu cs l) (((0:Int),[])) ⟨Int.le_refl _,by grind,rfl⟩ ?_ [0,1,2,3,1000004] [9] [(0:Nat)=0] W127
   rintro ⟨x3_0,x3_1⟩ hJ3
   dsimp only [L23_0] at hJ3
   refine tz [31,30,29,9,5,4,2] ?_
   refine Q0 (decide (x3_0<(↑l.length:Int))) (fun h4=>?_) (fun h4=>?_)
   ·refine tz [31,30,29,9,5,4,2] ?_
    refine Q2 Q4n (Qe2 mem s9 l9 bu cs (l.getD x3_0.toNat default) x3_0 W74 W74) [] ?_ (vc:=[(0:Int)≤x3_0,x3_0<(↑l.length:Int),x3_0.toNat<l.length]) (hv:=W102)
    refine tz [39,31,30,29,9,5,4,2] ?_
    refine Q0 (!decide ((evOf s9 l9 (l.getD x3_0.toNat default) x3_0).kind=(0:Int))) (fun h5=>?_) (fun h5=>?_)
    ·exact Q6 (L23_0 mem s9 l9 bu cs l) (x3_0,x3_1) ((x3_0+(1:Int),x3_1++[Ev.mk (evOf s9 l9 (l.getD x3_0.toNat default) x3_0).kind (evOf s9 l9 (l.getD x3_0.toNat default) x3_0).core (evOf s9 l9 (l.getD x3_0.toNat default) x3_0).thing (evOf s9 l9 (l.getD x3_0.toNat default) x3_0).word (evOf s9 l9 (l.getD x3_0.toNat default) x3_0).put (evOf s9 l9 (l.getD x3_0.toNat default) x3_0).own (evOf s9 l9 (l.getD x3_0.toNat default) x3_0).pos])) W157 W97 [0,1,2,3,8] [9,10,11,12,13,14,15,16,17] [(x3_1++[Ev.mk (evOf s9 l9 (l.getD x3_0.toNat default) x3_0).kind (evOf s9 l9 (l.getD x3_0.toNat default) x3_0).core (evOf s9 l9 (l.getD x3_0.toNat default) x3_0).thing (evOf s9 l9 (l.getD x3_0.toNat default) x3_0).word (evOf s9 l9 (l.getD x3_0.toNat default) x3_0).put (evOf s9 l9 (l.getD x3_0.toNat default) x3_0).own (evOf s9 l9 (l.getD x3_0.toNat default) x3_0).pos]).length=x3_1.length+1,∀ (i:Nat),i<(x3_1++[Ev.mk (evOf s9 l9 (l.getD x3_0.toNat default) x3_0).kind (evOf s9 l9 (l.getD x3_0.toNat default) x3_0).core (evOf s9 l9 (l.getD x3_0.toNat default) x3_0).thing (evOf s9 l9 (l.getD x3_0.toNat default) x3_0).word (evOf s9 l9 (l.getD x3_0.toNat default) x3_0).put (evOf s9 l9 (l.getD x3_0.toNat default) x3_0).own (evOf s9 l9 (l.getD x3_0.toNat default) x3_0).pos]).length→i≠x3_1.length→((x3_1++[Ev.mk (evOf s9 l9 (l.getD x3_0.toNat default) x3_0).kind (evOf s9 l9 (l.getD x3_0.toNat default) x3_0).core (evOf s9 l9 (l.getD x3_0.toNat default) x3_0).thing (evOf s9 l9 (l.getD x3_0.toNat default) x3_0).word (evOf s9 l9 (l.getD x3_0.toNat default) x3_0).put (evOf s9 l9 (l.getD x3_0.toNat default) x3_0).own (evOf s9 l9 (l.getD x3_0.toNat default) x3_0).pos]).getD i default).tc=(x3_1.getD i default).tc,((x3_1++[Ev.mk (evOf s9 l9 (l.getD x3_0.toNat default) x3_0).kind (evOf s9 l9 (l.getD x3_0.toNat default) x3_0).core (evOf s9 l9 (l.getD x3_0.toNat default) x3_0).thing (evOf s9 l9 (l.getD x3_0.toNat default) x3_0).word (evOf s9 l9 (l.getD x3_0.toNat default) x3_0).put (evOf s9 l9 (l.getD x3_0.toNat default) x3_0).own (evOf s9 l9 (l.getD x3_0.toNat default) x3_0).pos]).getD x3_1.length default).tc 0=TC.val (Value.int IntKind.u8 (evOf s9 l9 (l.getD x3_0.toNat default) x3_0).kind),((x3_1++[Ev.mk (evOf s9 l9 (l.getD x3_0.toNat default) x3_0).kind (evOf s9 l9 (l.getD x3_0.toNat default) x3_0).core (evOf s9 l9 (l.getD x3_0.toNat default) x3_0).thing (evOf s9 l9 (l.getD x3_0.toNat default) x3_0).word (evOf s9 l9 (l.getD x3_0.toNat default) x3_0).put (evOf s9 l9 (l.getD x3_0.toNat default) x3_0).own (evOf s9 l9 (l.getD x3_0.toNat default) x3_0).pos]).getD x3_1.length default).tc 1=TC.val (Value.int IntKind.i64 (evOf s9 l9 (l.getD x3_0.toNat default) x3_0).core),((x3_1++[Ev.mk (evOf s9 l9 (l.getD x3_0.toNat default) x3_0).kind (evOf s9 l9 (l.getD x3_0.toNat default) x3_0).core (evOf s9 l9 (l.getD x3_0.toNat default) x3_0).thing (evOf s9 l9 (l.getD x3_0.toNat default) x3_0).word (evOf s9 l9 (l.getD x3_0.toNat default) x3_0).put (evOf s9 l9 (l.getD x3_0.toNat default) x3_0).own (evOf s9 l9 (l.getD x3_0.toNat default) x3_0).pos]).getD x3_1.length default).tc 2=TC.val (Value.int IntKind.i64 (evOf s9 l9 (l.getD x3_0.toNat default) x3_0).thing),((x3_1++[Ev.mk (evOf s9 l9 (l.getD x3_0.toNat default) x3_0).kind (evOf s9 l9 (l.getD x3_0.toNat default) x3_0).core (evOf s9 l9 (l.getD x3_0.toNat default) x3_0).thing (evOf s9 l9 (l.getD x3_0.toNat default) x3_0).word (evOf s9 l9 (l.getD x3_0.toNat default) x3_0).put (evOf s9 l9 (l.getD x3_0.toNat default) x3_0).own (evOf s9 l9 (l.getD x3_0.toNat default) x3_0).pos]).getD x3_1.length default).tc 3=TC.val (Value.int IntKind.i64 (evOf s9 l9 (l.getD x3_0.toNat default) x3_0).word),((x3_1++[Ev.mk (evOf s9 l9 (l.getD x3_0.toNat default) x3_0).kind (evOf s9 l9 (l.getD x3_0.toNat default) x3_0).core (evOf s9 l9 (l.getD x3_0.toNat default) x3_0).thing (evOf s9 l9 (l.getD x3_0.toNat default) x3_0).word (evOf s9 l9 (l.getD x3_0.toNat default) x3_0).put (evOf s9 l9 (l.getD x3_0.toNat default) x3_0).own (evOf s9 l9 (l.getD x3_0.toNat default) x3_0).pos]).getD x3_1.length default).tc 4=TC.val (Value.int IntKind.i64 (evOf s9 l9 (l.getD x3_0.toNat default) x3_0).put),((x3_1++[Ev.mk (evOf s9 l9 (l.getD x3_0.toNat default) x3_0).kind (evOf s9 l9 (l.getD x3_0.toNat default) x3_0).core (evOf s9 l9 (l.getD x3_0.toNat default) x3_0).thing (evOf s9 l9 (l.getD x3_0.toNat default) x3_0).word (evOf s9 l9 (l.getD x3_0.toNat default) x3_0).put (evOf s9 l9 (l.getD x3_0.toNat default) x3_0).own (evOf s9 l9 (l.getD x3_0.toNat default) x3_0).pos]).getD x3_1.length default).tc 5=TC.val (Value.bool (evOf s9 l9 (l.getD x3_0.toNat default) x3_0).own),((x3_1++[Ev.mk (evOf s9 l9 (l.getD x3_0.toNat default) x3_0).kind (evOf s9 l9 (l.getD x3_0.toNat default) x3_0).core (evOf s9 l9 (l.getD x3_0.toNat default) x3_0).thing (evOf s9 l9 (l.getD x3_0.toNat default) x3_0).word (evOf s9 l9 (l.getD x3_0.toNat default) x3_0).put (evOf s9 l9 (l.getD x3_0.toNat default) x3_0).own (evOf s9 l9 (l.getD x3_0.toNat default) x3_0).pos]).getD x3_1.length default).tc 6=TC.val (Value.int IntKind.i64 (evOf s9 l9 (l.getD x3_0.toNat default) x3_0).pos)] W127 (vc:=[x3_1.length+1≤maxLen,(x3_1.length+1) * 56≤140737488355328,Fits IntKind.i64 (x3_0+(1:Int))]) (hv:=W102)
    ·exact Q6 (L23_0 mem s9 l9 bu cs l) (x3_0,x3_1) ((x3_0+(1:Int),x3_1)) W157 W97 (vc:=[Fits IntKind.i64 (x3_0+(1:Int))]) (hv:=W102)
   ·exact Q1 [0,1,2,4] [0,1,2] [(evL mem s9 l9 bu cs l).length=x3_1.length,∀ (i:Nat),i<(evL mem s9 l9 bu cs l).length→((evL mem s9 l9 bu cs l).getD i default).tc=(x3_1.getD i default).tc,evE mem s9 l9 bu cs l=(0:Int)] W92
end Go.Proofs.YtmaodngbpfjnnaaGreat
end
