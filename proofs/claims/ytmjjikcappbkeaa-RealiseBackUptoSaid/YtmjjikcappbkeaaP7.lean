/-
  A part of the proof. Text 7 of 8: Leaf14 Leaf15 Leaf58 SpecQ Leaf60 Leaf51 Leaf52 Leaf53 Leaf54 Leaf59 Leaf61 Leaf62 SpecU Leaf63.
-/
import Derived.Test.YtmjjikcappbkeaaP4
import Derived.Test.YtmjjikcappbkeaaP6
import Derived.Test.YtmjjikcappbkeaaP5
set_option linter.unusedSimpArgs false
set_option linter.unusedVariables false
set_option maxHeartbeats 4000000
set_option linter.unusedSectionVars false
set_option maxHeartbeats 1000000
noncomputable section
namespace Go.Proofs.Ytmjjikcappbkeaa
open Go Go.Tx
def drW (w word:Int):Int:=if w=2&&decide (word=0) then 5 else onK w 2
def swW (w word put:Int):Int:=if w=2&&decide (word=0)&&!decide (put=0) then 4 else onK w 3
theorem c_always1v (w k:Int) (a0 a1 a2 a3 a4 a5:Int) (a6:Bool):Ctr Try.prog 130 [.ro [.i .u8 k]] [.c (.i .i64 w),.agg [.i .u8 a0,.i .i64 a1,.i .i64 a2,.i .i64 a3,.i .i64 a4,.i .i64 a5,.b a6],.c (.p 0 0)]
 (Det (.c (.i .u8 k)) [.dead]):=by
 exact c_always1 w k ⟨a0,a1,a2,a3,a4,a5,a6⟩
theorem c_on1v (w k:Int) (a0 a1 a2 a3 a4 a5:Int) (a6:Bool):Ctr Try.prog 131 [.ro [.i .u8 k]] [.c (.i .i64 w),.agg [.i .u8 a0,.i .i64 a1,.i .i64 a2,.i .i64 a3,.i .i64 a4,.i .i64 a5,.b a6],.c (.p 0 0)]
 (Det (.c (.i .u8 (onK w k))) [.dead]):=by
 exact c_on1 w k ⟨a0,a1,a2,a3,a4,a5,a6⟩
theorem c_swappedv (w:Int) (a0 a1 a2 a3 a4 a5:Int) (a6:Bool):Ctr Try.prog 122 [] [.c (.i .i64 w),.agg [.i .u8 a0,.i .i64 a1,.i .i64 a2,.i .i64 a3,.i .i64 a4,.i .i64 a5,.b a6]]
 (Det (.c (.i .u8 (swW w a4 a5))) []):=by
 exact c_swapped w ⟨a0,a1,a2,a3,a4,a5,a6⟩
theorem c_drainedv (w:Int) (a0 a1 a2 a3 a4 a5:Int) (a6:Bool):Ctr Try.prog 123 [] [.c (.i .i64 w),.agg [.i .u8 a0,.i .i64 a1,.i .i64 a2,.i .i64 a3,.i .i64 a4,.i .i64 a5,.b a6]]
 (Det (.c (.i .u8 (drW w a4))) []):=by
 exact c_drained w ⟨a0,a1,a2,a3,a4,a5,a6⟩
theorem c_eventsF (mem:List Int) (sh lk bu:Int) (cs:List Cor) (l:List Did):Ctr Try.prog 58 [IntRow mem,Cor.rowR cs,Did.rowR l] [.agg [.h 0,.i .i64 sh,.i .i64 lk,.i .i64 bu,.h 1],.c (.h 2)]
 (Det (.c (C.fn 88 false [4,3])) [.dead,.dead,.dead,Reg.box 48 [.h 0,.i .i64 sh,.i .i64 lk,.i .i64 bu,.h 1],Reg.box 52 [.h 2]]):=by
 refine Ctr.intro [] Try.func58 K K ?_
 exact tRet
def C50 (sh lk bu:Int) (l:List Did) (Xe:Ext) (x1_0:Int) (x1_1:Nat):St:=St.mk 90 [En.mk 9 [] (SV.c (C.p 8 0)),En.mk 8 [] (SV.c (C.i .i64 (thD sh lk (l.getD x1_0.toNat default)))),En.mk 5 [] (SV.c (C.p 7 0)),En.mk 12 [] (SV.c (C.i .i64 x1_0)),En.mk 11 [] (SV.c (C.i .i64 (l.length:Int))),En.mk 10 [] (SV.c (C.h 0)),En.mk 0 [] (SV.c (C.h 6)),En.mk 2 [] (SV.c (C.p 2 0))] [Reg.row 7 l.length (fun i=>(l.getD i default).tc) none,Reg.ro [C.h 0],Reg.ro [C.h 3,C.i .i64 sh,C.i .i64 lk,C.i .i64 bu,C.h 4],Reg.dead,Reg.dead,Reg.froz Xe,Reg.ext Xe x1_1 true,Reg.box 66 [C.i .u8 (l.getD x1_0.toNat default).kind,C.i .i64 (l.getD x1_0.toNat default).core,C.i .i64 (l.getD x1_0.toNat default).pc,C.i .i64 (l.getD x1_0.toNat default).addr,C.i .i64 (l.getD x1_0.toNat default).word,C.i .i64 (l.getD x1_0.toNat default).put,C.b (l.getD x1_0.toNat default).own],Reg.box 168 [C.i .u8 (evOf sh lk (l.getD x1_0.toNat default) x1_0).kind,C.i .i64 (l.getD x1_0.toNat default).core,C.i .i64 0,C.i .i64 0,C.i .i64 0,C.t false,C.i .i64 x1_0]] []
def C50b (sh lk bu:Int) (l:List Did) (Xe:Ext) (x1_0:Int) (x1_1:Nat):St:=St.mk 90 [En.mk 60 [] (SV.c (C.b (decide ((evOf sh lk (l.getD x1_0.toNat default) x1_0).kind=1)||decide ((evOf sh lk (l.getD x1_0.toNat default) x1_0).kind=2)||decide ((evOf sh lk (l.getD x1_0.toNat default) x1_0).kind=3)))),En.mk 57 [] (SV.c (C.i .u8 (evOf sh lk (l.getD x1_0.toNat default) x1_0).kind)),En.mk 9 [] (SV.c (C.p 8 0)),En.mk 8 [] (SV.c (C.i .i64 (thD sh lk (l.getD x1_0.toNat default)))),En.mk 5 [] (SV.c (C.p 7 0)),En.mk 12 [] (SV.c (C.i .i64 x1_0)),En.mk 11 [] (SV.c (C.i .i64 (l.length:Int))),En.mk 10 [] (SV.c (C.h 0)),En.mk 0 [] (SV.c (C.h 6)),En.mk 2 [] (SV.c (C.p 2 0))] (C50 sh lk bu l Xe x1_0 x1_1).rg []
def C50y (sh lk bu:Int) (l:List Did) (Xe:Ext) (x1_0:Int) (x1_1:Nat):St:=St.mk 90 [En.mk 9 [] (SV.c (C.p 8 0)),En.mk 12 [] (SV.c (C.i .i64 x1_0)),En.mk 11 [] (SV.c (C.i .i64 (l.length:Int))),En.mk 10 [] (SV.c (C.h 0)),En.mk 0 [] (SV.c (C.h 6)),En.mk 2 [] (SV.c (C.p 2 0))] [Reg.row 7 l.length (fun i=>(l.getD i default).tc) none,Reg.ro [C.h 0],Reg.ro [C.h 3,C.i .i64 sh,C.i .i64 lk,C.i .i64 bu,C.h 4],Reg.dead,Reg.dead,Reg.froz Xe,Reg.ext Xe x1_1 true,Reg.dead,Reg.box 168 (evOf sh lk (l.getD x1_0.toNat default) x1_0).cs] []
def C50y_J (sh lk:Int) (l:List Did) (x1_0:Int):Prop:=¬ (evOf sh lk (l.getD x1_0.toNat default) x1_0).kind=0
abbrev z14_13 (l:List Did):=Reg.row 7 l.length (fun i=>(l.getD i default).tc) none
abbrev z14_14 (sh:Int) (lk:Int) (bu:Int):=Reg.ro [C.h 3,C.i .i64 sh,C.i .i64 lk,C.i .i64 bu,C.h 4]
def L88_0_I (sh:Int) (lk:Int) (bu:Int) (l:List Did) (Xe:Ext):Int×Nat→St:=fun x=>{ N:=90,fr:=[{ slot:=12,g:=[],sv:=SV.c (C.i .i64 x.1) },{ slot:=11,g:=[],sv:=SV.c (C.i .i64 (↑l.length:Int)) },{ slot:=10,g:=[],sv:=SV.c (C.h 0) },{ slot:=0,g:=[],sv:=SV.c (C.h 6) },{ slot:=2,g:=[],sv:=SV.c (C.p 2 0) }],rg:=[z14_13 l,Reg.ro [C.h 0],z14_14 sh lk bu,Reg.dead,Reg.dead,Reg.froz Xe,Reg.ext Xe x.2 true],wr:=[] }
def L88_0_J (sh:Int) (lk:Int) (bu:Int) (l:List Did) (Xe:Ext):Int×Nat→Prop:=fun x=>0≤x.1∧x.1≤(l.length:Int)∧x.2=(evUp sh lk l x.1.toNat).length
def L88_0_m (sh:Int) (lk:Int) (bu:Int) (l:List Did) (Xe:Ext):Int×Nat→Nat:=fun x=>((l.length:Int)-x.1).toNat
def L88_0 (sh:Int) (lk:Int) (bu:Int) (l:List Did) (Xe:Ext):Lp (Int×Nat):=⟨L88_0_I sh lk bu l Xe,L88_0_J sh lk bu l Xe,L88_0_m sh lk bu l Xe⟩
abbrev z14_54 (l:List Did):=En.mk 11 [] (SV.c (C.i .i64 (↑l.length:Int)))
abbrev z14_1 (x1_0:Int) (l:List Did):=[En.mk 6 [] (SV.c (C.p 12 0)),En.mk 4 [] (SV.c (C.i .i64 x1_0)),En.mk 5 [] (SV.c (C.p 7 0)),En.mk 12 [] (SV.c (C.i .i64 x1_0)),z14_54 l,En.mk 10 [] (SV.c (C.h 0)),En.mk 0 [] (SV.c (C.h 6)),En.mk 2 [] (SV.c (C.p 2 0))]
abbrev z14_2 (x1_0:Int) (l:List Did):=[En.mk 9 [] (SV.c (C.p 13 0)),En.mk 8 [] (SV.c (C.i .i64 0)),En.mk 5 [] (SV.c (C.p 7 0)),En.mk 12 [] (SV.c (C.i .i64 x1_0)),z14_54 l,En.mk 10 [] (SV.c (C.h 0)),En.mk 0 [] (SV.c (C.h 6)),En.mk 2 [] (SV.c (C.p 2 0))]
abbrev z14_25 (l:List Did) (x1_0:Int):=C.i .i64 (l.getD x1_0.toNat default).core
abbrev z14_34 (l:List Did) (x1_0:Int):=C.i .i64 (l.getD x1_0.toNat default).addr
abbrev z14_35 (l:List Did) (x1_0:Int):=C.i .i64 (l.getD x1_0.toNat default).word
abbrev z14_36 (l:List Did) (x1_0:Int):=C.i .i64 (l.getD x1_0.toNat default).put
abbrev z14_48 (l:List Did) (x1_0:Int):=C.i .i64 (l.getD x1_0.toNat default).pc
abbrev z14_17 (l:List Did) (x1_0:Int):=Reg.box 66 [C.i .u8 3,z14_25 l x1_0,z14_48 l x1_0,z14_34 l x1_0,z14_35 l x1_0,z14_36 l x1_0,C.b (l.getD x1_0.toNat default).own]
abbrev z14_18 (l:List Did) (x1_0:Int):=Reg.box 168 [C.i .u8 0,z14_25 l x1_0,C.i .i64 0,C.i .i64 0,C.i .i64 0,C.t false,C.i .i64 x1_0]
abbrev z14_3 (l:List Did) (sh:Int) (lk:Int) (bu:Int) (Xe:Ext) (x1_1:Nat) (x1_0:Int):=[z14_13 l,Reg.ro [C.h 0],z14_14 sh lk bu,Reg.dead,Reg.dead,Reg.froz Xe,Reg.ext Xe x1_1 true,z14_17 l x1_0,Reg.dead,Reg.dead,Reg.dead,Reg.dead,Reg.dead,z14_18 l x1_0]
abbrev z14_4 (l:List Did) (x1_0:Int):=Reg.box 66 [C.i .u8 2,z14_25 l x1_0,z14_48 l x1_0,z14_34 l x1_0,z14_35 l x1_0,z14_36 l x1_0,C.b (l.getD x1_0.toNat default).own]
abbrev z14_5 (l:List Did) (x1_0:Int):=Reg.box 66 [C.i .u8 4,z14_25 l x1_0,z14_48 l x1_0,z14_34 l x1_0,z14_35 l x1_0,z14_36 l x1_0,C.b (l.getD x1_0.toNat default).own]
abbrev z14_6 (l:List Did) (x1_0:Int):=Reg.box 66 [C.i .u8 8,z14_25 l x1_0,z14_48 l x1_0,z14_34 l x1_0,z14_35 l x1_0,z14_36 l x1_0,C.b (l.getD x1_0.toNat default).own]
abbrev z14_7 (l:List Did) (x1_0:Int) (sh:Int):=[En.mk 9 [] (SV.c (C.p 13 0)),En.mk 8 [] (SV.c (C.i .i64 ((l.getD x1_0.toNat default).addr-sh))),En.mk 5 [] (SV.c (C.p 7 0)),En.mk 12 [] (SV.c (C.i .i64 x1_0)),z14_54 l,En.mk 10 [] (SV.c (C.h 0)),En.mk 0 [] (SV.c (C.h 6)),En.mk 2 [] (SV.c (C.p 2 0))]
abbrev z14_8 (l:List Did) (x1_0:Int):=[En.mk 9 [] (SV.c (C.p 13 0)),En.mk 8 [] (SV.c (C.i .i64 (l.getD x1_0.toNat default).addr)),En.mk 5 [] (SV.c (C.p 7 0)),En.mk 12 [] (SV.c (C.i .i64 x1_0)),z14_54 l,En.mk 10 [] (SV.c (C.h 0)),En.mk 0 [] (SV.c (C.h 6)),En.mk 2 [] (SV.c (C.p 2 0))]
abbrev z14_9 (x1_0:Int) (l:List Did):=[En.mk 4 [] (SV.c (C.i .i64 x1_0)),En.mk 5 [] (SV.c (C.p 7 0)),En.mk 12 [] (SV.c (C.i .i64 x1_0)),z14_54 l,En.mk 10 [] (SV.c (C.h 0)),En.mk 0 [] (SV.c (C.h 6)),En.mk 2 [] (SV.c (C.p 2 0))]
abbrev z14_10 (l:List Did) (x1_0:Int):=Reg.box 66 [C.i .u8 1,z14_25 l x1_0,z14_48 l x1_0,z14_34 l x1_0,z14_35 l x1_0,z14_36 l x1_0,C.b (l.getD x1_0.toNat default).own]
abbrev z14_11 (l:List Did) (x1_0:Int):=Reg.box 66 [C.i .u8 5,z14_25 l x1_0,z14_48 l x1_0,z14_34 l x1_0,z14_35 l x1_0,z14_36 l x1_0,C.b (l.getD x1_0.toNat default).own]
abbrev z14_12 (l:List Did) (x1_0:Int):=Reg.box 66 [C.i .u8 6,z14_25 l x1_0,z14_48 l x1_0,z14_34 l x1_0,z14_35 l x1_0,z14_36 l x1_0,C.b (l.getD x1_0.toNat default).own]
abbrev z14_15 (l:List Did) (x1_0:Int):=Reg.box 66 [C.i .u8 7,z14_25 l x1_0,z14_48 l x1_0,z14_34 l x1_0,z14_35 l x1_0,z14_36 l x1_0,C.b (l.getD x1_0.toNat default).own]
abbrev z14_16 (sh:Int) (lk:Int) (l:List Did) (x1_0:Int):=(evOf sh lk (l.getD x1_0.toNat default) x1_0)
abbrev z14_19:=Reg.box 195 [C.v (Value.string (ByteArray.mk #[(99:UInt8),(111:UInt8),(109:UInt8),(112:UInt8),(117:UInt8),(116:UInt8),(101:UInt8)])),C.t false,C.t false,C.t false,C.t false,C.fn 130 false [8]]
abbrev z14_20:=Reg.box 195 [C.v (Value.string (ByteArray.mk #[(112:UInt8),(114:UInt8),(105:UInt8),(110:UInt8),(116:UInt8)])),C.t false,C.t true,C.t false,C.t false,C.fn 130 false [10]]
abbrev z14_21:=Reg.box 195 [C.v (Value.string (ByteArray.mk #[(102:UInt8),(101:UInt8),(110:UInt8),(99:UInt8),(101:UInt8)])),C.t false,C.t false,C.t false,C.t false,C.fn 130 false [8]]
abbrev z14_22:=Reg.box 195 [C.v (Value.string (ByteArray.mk #[(115:UInt8),(116:UInt8),(111:UInt8),(114:UInt8),(101:UInt8)])),C.t true,C.t true,C.t false,C.t false,C.fn 130 false [8]]
abbrev z14_23:=Reg.box 195 [C.v (Value.string (ByteArray.mk #[(100:UInt8),(114:UInt8),(97:UInt8),(105:UInt8),(110:UInt8)])),C.t true,C.t true,C.t false,C.t false,C.fn 123 false []]
abbrev z14_24:=Reg.box 195 [C.v (Value.string (ByteArray.mk #[(104:UInt8),(97:UInt8),(108:UInt8),(116:UInt8)])),C.t false,C.t false,C.t false,C.t false,C.fn 130 false [11]]
abbrev z14_26 (x1_0:Int) (l:List Did) (sh:Int) (lk:Int) (bu:Int) (Xe:Ext) (x1_1:Nat):=St.mk 90 (z14_1 x1_0 l) [z14_13 l,Reg.ro [C.h 0],z14_14 sh lk bu,Reg.dead,Reg.dead,Reg.froz Xe,Reg.ext Xe x1_1 true,z14_4 l x1_0,Reg.dead,Reg.box 166 [C.i .u8 1],Reg.dead,Reg.dead,Reg.box 195 [C.v (Value.string (ByteArray.mk #[(108:UInt8),(111:UInt8),(97:UInt8),(100:UInt8)])),C.t true,C.t true,C.t false,C.t true,C.fn 131 false [9]]] []
abbrev z14_27 (x1_0:Int) (l:List Did) (sh:Int) (lk:Int) (bu:Int) (Xe:Ext) (x1_1:Nat):=St.mk 90 (z14_1 x1_0 l) [z14_13 l,Reg.ro [C.h 0],z14_14 sh lk bu,Reg.dead,Reg.dead,Reg.froz Xe,Reg.ext Xe x1_1 true,z14_5 l x1_0,Reg.dead,Reg.dead,Reg.dead,Reg.dead,Reg.box 195 [C.v (Value.string (ByteArray.mk #[(115:UInt8),(119:UInt8),(97:UInt8),(112:UInt8)])),C.t true,C.t true,C.t true,C.t false,C.fn 122 false []]] []
abbrev z14_28 (sh:Int) (lk:Int) (l:List Did) (x1_0:Int):=(decide ((z14_16 sh lk l x1_0).kind=(1:Int))||decide ((z14_16 sh lk l x1_0).kind=(2:Int))||decide ((z14_16 sh lk l x1_0).kind=(3:Int)))
abbrev z14_29:=Reg.box 166 [C.i .u8 0]
abbrev z14_30 (x1_0:Int) (l:List Did) (sh:Int) (lk:Int) (bu:Int) (Xe:Ext) (x1_1:Nat):=St.mk 90 (z14_1 x1_0 l) [z14_13 l,Reg.ro [C.h 0],z14_14 sh lk bu,Reg.dead,Reg.dead,Reg.froz Xe,Reg.ext Xe x1_1 true,z14_12 l x1_0,Reg.dead,Reg.dead,Reg.box 166 [C.i .u8 6],Reg.dead,z14_20] []
abbrev z14_31 (x1_0:Int) (l:List Did) (sh:Int) (lk:Int) (bu:Int) (Xe:Ext) (x1_1:Nat):=St.mk 90 (z14_1 x1_0 l) [z14_13 l,Reg.ro [C.h 0],z14_14 sh lk bu,Reg.dead,Reg.dead,Reg.froz Xe,Reg.ext Xe x1_1 true,z14_15 l x1_0,Reg.dead,Reg.dead,Reg.dead,Reg.box 166 [C.i .u8 7],z14_24] []
abbrev z14_32 (x1_0:Int) (l:List Did) (sh:Int) (lk:Int) (bu:Int) (Xe:Ext) (x1_1:Nat):=St.mk 90 (z14_2 x1_0 l) [z14_13 l,Reg.ro [C.h 0],z14_14 sh lk bu,Reg.dead,Reg.dead,Reg.froz Xe,Reg.ext Xe x1_1 true,z14_10 l x1_0,Reg.dead,Reg.dead,Reg.dead,Reg.dead,Reg.dead,z14_18 l x1_0] []
abbrev z14_33 (x1_0:Int) (l:List Did) (sh:Int) (lk:Int) (bu:Int) (Xe:Ext) (x1_1:Nat):=St.mk 90 (z14_2 x1_0 l) [z14_13 l,Reg.ro [C.h 0],z14_14 sh lk bu,Reg.dead,Reg.dead,Reg.froz Xe,Reg.ext Xe x1_1 true,z14_11 l x1_0,Reg.dead,Reg.dead,Reg.dead,Reg.dead,Reg.dead,z14_18 l x1_0] []
abbrev z14_37 (l:List Did) (x1_0:Int) (sh:Int) (lk:Int) (bu:Int) (Xe:Ext) (x1_1:Nat):=St.mk 90 (z14_7 l x1_0 sh) [z14_13 l,Reg.ro [C.h 0],z14_14 sh lk bu,Reg.dead,Reg.dead,Reg.froz Xe,Reg.ext Xe x1_1 true,z14_5 l x1_0,Reg.dead,Reg.dead,Reg.dead,Reg.dead,Reg.dead,Reg.box 168 [C.i .u8 (swW (2:Int) (l.getD x1_0.toNat default).word (l.getD x1_0.toNat default).put),z14_25 l x1_0,C.i .i64 0,C.i .i64 0,C.i .i64 0,C.t false,C.i .i64 x1_0]] []
abbrev z14_38 (l:List Did) (x1_0:Int) (sh:Int) (lk:Int) (bu:Int) (Xe:Ext) (x1_1:Nat):=St.mk 90 (z14_8 l x1_0) [z14_13 l,Reg.ro [C.h 0],z14_14 sh lk bu,Reg.dead,Reg.dead,Reg.froz Xe,Reg.ext Xe x1_1 true,z14_5 l x1_0,Reg.dead,Reg.dead,Reg.dead,Reg.dead,Reg.dead,Reg.box 168 [C.i .u8 (swW (1:Int) (l.getD x1_0.toNat default).word (l.getD x1_0.toNat default).put),z14_25 l x1_0,C.i .i64 0,C.i .i64 0,C.i .i64 0,C.t false,C.i .i64 x1_0]] []
abbrev z14_39 (x1_0:Int) (l:List Did) (sh:Int) (lk:Int) (bu:Int) (Xe:Ext) (x1_1:Nat):=St.mk 90 (z14_2 x1_0 l) [z14_13 l,Reg.ro [C.h 0],z14_14 sh lk bu,Reg.dead,Reg.dead,Reg.froz Xe,Reg.ext Xe x1_1 true,z14_5 l x1_0,Reg.dead,Reg.dead,Reg.dead,Reg.dead,Reg.dead,Reg.box 168 [C.i .u8 (swW (0:Int) (l.getD x1_0.toNat default).word (l.getD x1_0.toNat default).put),z14_25 l x1_0,C.i .i64 0,C.i .i64 0,C.i .i64 0,C.t false,C.i .i64 x1_0]] []
abbrev z14_40 (l:List Did) (x1_0:Int) (sh:Int) (lk:Int) (bu:Int) (Xe:Ext) (x1_1:Nat):=St.mk 90 (z14_7 l x1_0 sh) [z14_13 l,Reg.ro [C.h 0],z14_14 sh lk bu,Reg.dead,Reg.dead,Reg.froz Xe,Reg.ext Xe x1_1 true,z14_6 l x1_0,Reg.dead,Reg.dead,Reg.dead,Reg.dead,Reg.dead,Reg.box 168 [C.i .u8 (drW (2:Int) (l.getD x1_0.toNat default).word),z14_25 l x1_0,C.i .i64 0,C.i .i64 0,C.i .i64 0,C.t false,C.i .i64 x1_0]] []
abbrev z14_41 (l:List Did) (x1_0:Int) (sh:Int) (lk:Int) (bu:Int) (Xe:Ext) (x1_1:Nat):=St.mk 90 (z14_8 l x1_0) [z14_13 l,Reg.ro [C.h 0],z14_14 sh lk bu,Reg.dead,Reg.dead,Reg.froz Xe,Reg.ext Xe x1_1 true,z14_6 l x1_0,Reg.dead,Reg.dead,Reg.dead,Reg.dead,Reg.dead,Reg.box 168 [C.i .u8 (drW (1:Int) (l.getD x1_0.toNat default).word),z14_25 l x1_0,C.i .i64 0,C.i .i64 0,C.i .i64 0,C.t false,C.i .i64 x1_0]] []
abbrev z14_42 (x1_0:Int) (l:List Did) (sh:Int) (lk:Int) (bu:Int) (Xe:Ext) (x1_1:Nat):=St.mk 90 (z14_2 x1_0 l) [z14_13 l,Reg.ro [C.h 0],z14_14 sh lk bu,Reg.dead,Reg.dead,Reg.froz Xe,Reg.ext Xe x1_1 true,z14_6 l x1_0,Reg.dead,Reg.dead,Reg.dead,Reg.dead,Reg.dead,Reg.box 168 [C.i .u8 (drW (0:Int) (l.getD x1_0.toNat default).word),z14_25 l x1_0,C.i .i64 0,C.i .i64 0,C.i .i64 0,C.t false,C.i .i64 x1_0]] []
abbrev z14_43 (l:List Did) (x1_0:Int) (sh:Int) (lk:Int) (bu:Int) (Xe:Ext) (x1_1:Nat):=St.mk 90 (z14_7 l x1_0 sh) [z14_13 l,Reg.ro [C.h 0],z14_14 sh lk bu,Reg.dead,Reg.dead,Reg.froz Xe,Reg.ext Xe x1_1 true,z14_4 l x1_0,Reg.dead,Reg.dead,Reg.dead,Reg.dead,Reg.dead,Reg.box 168 [C.i .u8 (onK (2:Int) (1:Int)),z14_25 l x1_0,C.i .i64 0,C.i .i64 0,C.i .i64 0,C.t false,C.i .i64 x1_0]] []
abbrev z14_44 (l:List Did) (x1_0:Int) (sh:Int) (lk:Int) (bu:Int) (Xe:Ext) (x1_1:Nat):=St.mk 90 (z14_8 l x1_0) [z14_13 l,Reg.ro [C.h 0],z14_14 sh lk bu,Reg.dead,Reg.dead,Reg.froz Xe,Reg.ext Xe x1_1 true,z14_4 l x1_0,Reg.dead,Reg.dead,Reg.dead,Reg.dead,Reg.dead,Reg.box 168 [C.i .u8 (onK (1:Int) (1:Int)),z14_25 l x1_0,C.i .i64 0,C.i .i64 0,C.i .i64 0,C.t false,C.i .i64 x1_0]] []
abbrev z14_45 (x1_0:Int) (l:List Did) (sh:Int) (lk:Int) (bu:Int) (Xe:Ext) (x1_1:Nat):=St.mk 90 (z14_2 x1_0 l) [z14_13 l,Reg.ro [C.h 0],z14_14 sh lk bu,Reg.dead,Reg.dead,Reg.froz Xe,Reg.ext Xe x1_1 true,z14_4 l x1_0,Reg.dead,Reg.dead,Reg.dead,Reg.dead,Reg.dead,Reg.box 168 [C.i .u8 (onK (0:Int) (1:Int)),z14_25 l x1_0,C.i .i64 0,C.i .i64 0,C.i .i64 0,C.t false,C.i .i64 x1_0]] []
abbrev z14_46 (x1_0:Int) (l:List Did) (sh:Int) (lk:Int) (bu:Int) (Xe:Ext) (x1_1:Nat):=St.mk 90 (z14_2 x1_0 l) [z14_13 l,Reg.ro [C.h 0],z14_14 sh lk bu,Reg.dead,Reg.dead,Reg.froz Xe,Reg.ext Xe x1_1 true,z14_12 l x1_0,Reg.dead,Reg.dead,Reg.dead,Reg.dead,Reg.dead,Reg.box 168 [C.i .u8 6,z14_25 l x1_0,C.i .i64 0,C.i .i64 0,C.i .i64 0,C.t false,C.i .i64 x1_0]] []
abbrev z14_47 (x1_0:Int) (l:List Did) (sh:Int) (lk:Int) (bu:Int) (Xe:Ext) (x1_1:Nat):=St.mk 90 (z14_2 x1_0 l) [z14_13 l,Reg.ro [C.h 0],z14_14 sh lk bu,Reg.dead,Reg.dead,Reg.froz Xe,Reg.ext Xe x1_1 true,z14_15 l x1_0,Reg.dead,Reg.dead,Reg.dead,Reg.dead,Reg.dead,Reg.box 168 [C.i .u8 7,z14_25 l x1_0,C.i .i64 0,C.i .i64 0,C.i .i64 0,C.t false,C.i .i64 x1_0]] []
abbrev z14_49 (x1_0:Int) (l:List Did) (sh:Int) (lk:Int) (bu:Int) (Xe:Ext) (x1_1:Nat):=St.mk 90 (z14_1 x1_0 l) [z14_13 l,Reg.ro [C.h 0],z14_14 sh lk bu,Reg.dead,Reg.dead,Reg.froz Xe,Reg.ext Xe x1_1 true,z14_6 l x1_0,Reg.dead,Reg.dead,Reg.dead,Reg.dead,z14_23] []
abbrev z14_50 (x1_0:Int) (l:List Did) (sh:Int) (lk:Int) (bu:Int) (Xe:Ext) (x1_1:Nat):=St.mk 90 (z14_1 x1_0 l) [z14_13 l,Reg.ro [C.h 0],z14_14 sh lk bu,Reg.dead,Reg.dead,Reg.froz Xe,Reg.ext Xe x1_1 true,z14_10 l x1_0,z14_29,Reg.dead,Reg.dead,Reg.dead,z14_19] []
abbrev z14_51 (x1_0:Int) (l:List Did) (sh:Int) (lk:Int) (bu:Int) (Xe:Ext) (x1_1:Nat):=St.mk 90 (z14_1 x1_0 l) [z14_13 l,Reg.ro [C.h 0],z14_14 sh lk bu,Reg.dead,Reg.dead,Reg.froz Xe,Reg.ext Xe x1_1 true,z14_17 l x1_0,z14_29,Reg.dead,Reg.dead,Reg.dead,z14_22] []
abbrev z14_52 (x1_0:Int) (l:List Did) (sh:Int) (lk:Int) (bu:Int) (Xe:Ext) (x1_1:Nat):=St.mk 90 (z14_1 x1_0 l) [z14_13 l,Reg.ro [C.h 0],z14_14 sh lk bu,Reg.dead,Reg.dead,Reg.froz Xe,Reg.ext Xe x1_1 true,z14_11 l x1_0,z14_29,Reg.dead,Reg.dead,Reg.dead,z14_21] []
abbrev z14_53 (x1_0:Int) (l:List Did) (sh:Int) (lk:Int) (bu:Int) (Xe:Ext) (x1_1:Nat):=St.mk 90 (z14_9 x1_0 l) [z14_13 l,Reg.ro [C.h 0],z14_14 sh lk bu,Reg.dead,Reg.dead,Reg.froz Xe,Reg.ext Xe x1_1 true,Reg.box 66 [C.i .u8 (l.getD x1_0.toNat default).kind,z14_25 l x1_0,z14_48 l x1_0,z14_34 l x1_0,z14_35 l x1_0,z14_36 l x1_0,C.b (l.getD x1_0.toNat default).own]] []
theorem c_events_it (mem:List Int) (sh lk bu:Int) (cs:List Cor) (l:List Did) (hs:0≤sh∧sh≤64∧0≤lk∧lk≤16) (hr:rightsB l=true) (Xe:Ext) (hn:Xe.n=(evUp sh lk l l.length).length) (he:Xe.enc=fun k=>.agg ((evUp sh lk l l.length).getD k default).cs) (hy:Xe.Yields Try.prog):Ctr Try.prog 88 ([Did.rowR l,.ro [.h 0],.ro [.h 3,.i .i64 sh,.i .i64 lk,.i .i64 bu,.h 4],.dead,.dead]++[.froz Xe,.ext Xe 0 true]) [.c (.h 6),.c (.p 1 0),.c (.p 2 0)]
 (RangeEnd Xe 6):=by
 refine Ctr.intro [] Try.func88 K K ?_
 refine RunF.lens 0 (m:=l.length) K (fun hlens_0=>?_)
 refine tLoop (L88_0 sh lk bu l Xe) (((0:Int),0)) ⟨Int.le_refl _,by grind,rfl⟩ ?_
 rintro ⟨x1_0,x1_1⟩ hJ1
 dsimp only [L88_0,L88_0_J] at hJ1
 refine tz [12,11,10,0,2] ?_
 refine tCond (decide (x1_0<(↑l.length:Int))) (fun h2=>?_) (fun h2=>?_)
 ·refine RunF.cut (fun _:Unit=>z14_53 x1_0 l sh lk bu Xe x1_1) (fun _=>True) ?_ ?_
  ·exact tTo (fun x=>z14_53 x1_0 l sh lk bu Xe x1_1) (fun x=>True) () trivial (vc:=[(0:Int)≤x1_0,x1_0<(↑l.length:Int),x1_0.toNat<l.length]) (hv:=(by simp only [Conj,Fits,i64_min,i64_max,u8_min,u8_max,News.len,maxLen]<;>(repeat' (first | apply And.intro | intro _))<;>first | grind | (simp only [BL] at *;omega)))
  ·rintro ⟨⟩ _
   refine RunF.cutm 4 (fun _:Unit=>C50 sh lk bu l Xe x1_0 x1_1) (fun _=>True) ?_ ?_
   ·rcases (show (l.getD x1_0.toNat default).kind=(1:Int)∨(l.getD x1_0.toNat default).kind=(2:Int)∨(l.getD x1_0.toNat default).kind=(3:Int)∨(l.getD x1_0.toNat default).kind=(4:Int)∨(l.getD x1_0.toNat default).kind=(5:Int)∨(l.getD x1_0.toNat default).kind=(6:Int)∨(l.getD x1_0.toNat default).kind=(7:Int)∨(l.getD x1_0.toNat default).kind=(8:Int) from (by have hb:=didB_bounds (rights_at hr (i:=x1_0) (by omega) (by simpa using h2));omega)) with hs3 | hs3 | hs3 | hs3 | hs3 | hs3 | hs3 | hs3
    ·refine tWk (St.mk 90 (z14_9 x1_0 l) [z14_13 l,Reg.ro [C.h 0],z14_14 sh lk bu,Reg.dead,Reg.dead,Reg.froz Xe,Reg.ext Xe x1_1 true,z14_10 l x1_0] []) ?_ [] [9] [(1:Int)=(l.getD x1_0.toNat default).kind] (by simp only [Conj];(repeat' apply And.intro)<;>first | trivial | rfl | (intros;rfl) | (exact Eq.symm (by assumption)) | grind)
     refine tz [4,5,12,11,10,0,2] ?_
     refine tAny 2 (fun _:Unit=>z14_50 x1_0 l sh lk bu Xe x1_1) (fun _=>True) ?_ ?_
     ·refine ⟨⟨trivial,?_⟩,?_⟩
      ·refine tCall e_trace_forms (c_formsT) [] ?_
       exact tTo (fun x=>z14_50 x1_0 l sh lk bu Xe x1_1) (fun x=>True) () trivial (vc:=[(0:Int)≤(1:Int),(1:Int)<(9:Int)]) (hv:=(by simp only [Conj,Fits,i64_min,i64_max,u8_min,u8_max,News.len,maxLen]<;>(repeat' (first | apply And.intro | intro _))<;>first | grind | (simp only [BL] at *;omega)))
      ·refine tCall e_trace_forms (c_formsT) [] ?_
       exact tTo (fun x=>z14_50 x1_0 l sh lk bu Xe x1_1) (fun x=>True) () trivial [0,1,2,3,4,5,6,7,9,1000009,10,11,8] (vc:=[(0:Int)≤(1:Int),(1:Int)<(9:Int)]) (hv:=(by simp only [Conj,Fits,i64_min,i64_max,u8_min,u8_max,News.len,maxLen]<;>(repeat' (first | apply And.intro | intro _))<;>first | grind | (simp only [BL] at *;omega)))
     ·rintro ⟨⟩ _
      refine tz [6,4,5,12,11,10,0,2] ?_
      refine tAny 2 (fun _:Unit=>z14_32 x1_0 l sh lk bu Xe x1_1) (fun _=>True) ?_ ?_
      ·refine ⟨⟨trivial,?_⟩,?_⟩
       ·refine tCall e_trace_always_1 (c_always1v (w:=(0:Int)) (k:=(0:Int)) (a0:=(1:Int)) (a1:=(l.getD x1_0.toNat default).core) (a2:=(l.getD x1_0.toNat default).pc) (a3:=(l.getD x1_0.toNat default).addr) (a4:=(l.getD x1_0.toNat default).word) (a5:=(l.getD x1_0.toNat default).put) (a6:=(l.getD x1_0.toNat default).own)) [8] ?_
        exact tTo (fun x=>z14_32 x1_0 l sh lk bu Xe x1_1) (fun x=>True) () trivial
       ·refine tCall e_trace_always_1 (c_always1v (w:=(0:Int)) (k:=(0:Int)) (a0:=(1:Int)) (a1:=(l.getD x1_0.toNat default).core) (a2:=(l.getD x1_0.toNat default).pc) (a3:=(l.getD x1_0.toNat default).addr) (a4:=(l.getD x1_0.toNat default).word) (a5:=(l.getD x1_0.toNat default).put) (a6:=(l.getD x1_0.toNat default).own)) [8] ?_
        exact tTo (fun x=>z14_32 x1_0 l sh lk bu Xe x1_1) (fun x=>True) () trivial
      ·rintro ⟨⟩ _
       exact tTo (fun x=>C50 sh lk bu l Xe x1_0 x1_1) (fun x=>True) () trivial [0,1,2,3,4,5,6,7,13] [9,16,22] [(l.getD x1_0.toNat default).kind=(1:Int),(z14_16 sh lk l x1_0).kind=(0:Int),thD sh lk (l.getD x1_0.toNat default)=(0:Int)] (by simp only [Conj];(repeat' apply And.intro)<;>first | trivial | rfl | (intros;rfl) | (intros;trivial) | (have hp:=evOf_parts (i:=x1_0) hs (rights_at hr (i:=x1_0) (by omega) (by simpa using h2));simp only [BL] at *;first | grind | omega) | (simp only [evOf,thD,noEv,onK,drW,swW,addrB,BL] at *;grind))
    ·refine tWk (St.mk 90 (z14_9 x1_0 l) [z14_13 l,Reg.ro [C.h 0],z14_14 sh lk bu,Reg.dead,Reg.dead,Reg.froz Xe,Reg.ext Xe x1_1 true,z14_4 l x1_0] []) ?_ [] [9] [(2:Int)=(l.getD x1_0.toNat default).kind] (by simp only [Conj];(repeat' apply And.intro)<;>first | trivial | rfl | (intros;rfl) | (exact Eq.symm (by assumption)) | grind)
     refine tz [4,5,12,11,10,0,2] ?_
     refine tAny 2 (fun _:Unit=>z14_26 x1_0 l sh lk bu Xe x1_1) (fun _=>True) ?_ ?_
     ·refine ⟨⟨trivial,?_⟩,?_⟩
      ·refine tCall e_trace_forms (c_formsT) [] ?_
       exact tTo (fun x=>z14_26 x1_0 l sh lk bu Xe x1_1) (fun x=>True) () trivial (vc:=[(0:Int)≤(2:Int),(2:Int)<(9:Int)]) (hv:=(by simp only [Conj,Fits,i64_min,i64_max,u8_min,u8_max,News.len,maxLen]<;>(repeat' (first | apply And.intro | intro _))<;>first | grind | (simp only [BL] at *;omega)))
      ·refine tCall e_trace_forms (c_formsT) [] ?_
       exact tTo (fun x=>z14_26 x1_0 l sh lk bu Xe x1_1) (fun x=>True) () trivial [0,1,2,3,4,5,6,7,1000008,10,1000010,11,8] (vc:=[(0:Int)≤(2:Int),(2:Int)<(9:Int)]) (hv:=(by simp only [Conj,Fits,i64_min,i64_max,u8_min,u8_max,News.len,maxLen]<;>(repeat' (first | apply And.intro | intro _))<;>first | grind | (simp only [BL] at *;omega)))
     ·rintro ⟨⟩ _
      refine tz [6,4,5,12,11,10,0,2] ?_
      refine tCond (decide ((l.getD x1_0.toNat default).addr<sh)) (fun h4=>?_) (fun h4=>?_)
      ·refine tz [8,7,6,4,5,12,11,10,0,2] ?_
       refine tAny 2 (fun _:Unit=>z14_44 l x1_0 sh lk bu Xe x1_1) (fun _=>True) ?_ ?_
       ·refine ⟨⟨trivial,?_⟩,?_⟩
        ·refine tCall e_trace_on_1 (c_on1v (w:=(1:Int)) (k:=(1:Int)) (a0:=(2:Int)) (a1:=(l.getD x1_0.toNat default).core) (a2:=(l.getD x1_0.toNat default).pc) (a3:=(l.getD x1_0.toNat default).addr) (a4:=(l.getD x1_0.toNat default).word) (a5:=(l.getD x1_0.toNat default).put) (a6:=(l.getD x1_0.toNat default).own)) [9] ?_
         exact tTo (fun x=>z14_44 l x1_0 sh lk bu Xe x1_1) (fun x=>True) () trivial
        ·refine tCall e_trace_on_1 (c_on1v (w:=(1:Int)) (k:=(1:Int)) (a0:=(2:Int)) (a1:=(l.getD x1_0.toNat default).core) (a2:=(l.getD x1_0.toNat default).pc) (a3:=(l.getD x1_0.toNat default).addr) (a4:=(l.getD x1_0.toNat default).word) (a5:=(l.getD x1_0.toNat default).put) (a6:=(l.getD x1_0.toNat default).own)) [9] ?_
         exact tTo (fun x=>z14_44 l x1_0 sh lk bu Xe x1_1) (fun x=>True) () trivial
       ·rintro ⟨⟩ _
        exact tTo (fun x=>C50 sh lk bu l Xe x1_0 x1_1) (fun x=>True) () trivial [0,1,2,3,4,5,6,7,13] [9,16,22] [(l.getD x1_0.toNat default).kind=(2:Int),(z14_16 sh lk l x1_0).kind=onK (1:Int) (1:Int),thD sh lk (l.getD x1_0.toNat default)=(l.getD x1_0.toNat default).addr] (by simp only [Conj];(repeat' apply And.intro)<;>first | trivial | rfl | (intros;rfl) | (intros;trivial) | (have hp:=evOf_parts (i:=x1_0) hs (rights_at hr (i:=x1_0) (by omega) (by simpa using h2));simp only [BL] at *;first | grind | omega) | (simp only [evOf,thD,noEv,onK,drW,swW,addrB,BL] at *;grind))
      ·refine tz [8,7,6,4,5,12,11,10,0,2] ?_
       refine tCond (decide ((l.getD x1_0.toNat default).addr<sh+lk)) (fun h5=>?_) (fun h5=>?_) (vc:=[Fits IntKind.i64 (sh+lk)]) (hv:=(by simp only [Conj,Fits,i64_min,i64_max,u8_min,u8_max,News.len,maxLen]<;>(repeat' (first | apply And.intro | intro _))<;>first | grind | (simp only [BL] at *;omega)))
       ·refine tz [8,7,6,4,5,12,11,10,0,2] ?_
        refine tAny 2 (fun _:Unit=>z14_43 l x1_0 sh lk bu Xe x1_1) (fun _=>True) ?_ ?_ (vc:=[Fits IntKind.i64 ((l.getD x1_0.toNat default).addr-sh)]) (hv:=(by simp only [Conj,Fits,i64_min,i64_max,u8_min,u8_max,News.len,maxLen]<;>(repeat' (first | apply And.intro | intro _))<;>first | grind | (simp only [BL] at *;omega)))
        ·refine ⟨⟨trivial,?_⟩,?_⟩
         ·refine tCall e_trace_on_1 (c_on1v (w:=(2:Int)) (k:=(1:Int)) (a0:=(2:Int)) (a1:=(l.getD x1_0.toNat default).core) (a2:=(l.getD x1_0.toNat default).pc) (a3:=(l.getD x1_0.toNat default).addr) (a4:=(l.getD x1_0.toNat default).word) (a5:=(l.getD x1_0.toNat default).put) (a6:=(l.getD x1_0.toNat default).own)) [9] ?_
          exact tTo (fun x=>z14_43 l x1_0 sh lk bu Xe x1_1) (fun x=>True) () trivial
         ·refine tCall e_trace_on_1 (c_on1v (w:=(2:Int)) (k:=(1:Int)) (a0:=(2:Int)) (a1:=(l.getD x1_0.toNat default).core) (a2:=(l.getD x1_0.toNat default).pc) (a3:=(l.getD x1_0.toNat default).addr) (a4:=(l.getD x1_0.toNat default).word) (a5:=(l.getD x1_0.toNat default).put) (a6:=(l.getD x1_0.toNat default).own)) [9] ?_
          exact tTo (fun x=>z14_43 l x1_0 sh lk bu Xe x1_1) (fun x=>True) () trivial
        ·rintro ⟨⟩ _
         exact tTo (fun x=>C50 sh lk bu l Xe x1_0 x1_1) (fun x=>True) () trivial [0,1,2,3,4,5,6,7,13] [9,16,22] [(l.getD x1_0.toNat default).kind=(2:Int),(z14_16 sh lk l x1_0).kind=onK (2:Int) (1:Int),thD sh lk (l.getD x1_0.toNat default)=(l.getD x1_0.toNat default).addr-sh] (by simp only [Conj];(repeat' apply And.intro)<;>first | trivial | rfl | (intros;rfl) | (intros;trivial) | (have hp:=evOf_parts (i:=x1_0) hs (rights_at hr (i:=x1_0) (by omega) (by simpa using h2));simp only [BL] at *;first | grind | omega) | (simp only [evOf,thD,noEv,onK,drW,swW,addrB,BL] at *;grind))
       ·refine tz [8,7,6,4,5,12,11,10,0,2] ?_
        refine tAny 2 (fun _:Unit=>z14_45 x1_0 l sh lk bu Xe x1_1) (fun _=>True) ?_ ?_
        ·refine ⟨⟨trivial,?_⟩,?_⟩
         ·refine tCall e_trace_on_1 (c_on1v (w:=(0:Int)) (k:=(1:Int)) (a0:=(2:Int)) (a1:=(l.getD x1_0.toNat default).core) (a2:=(l.getD x1_0.toNat default).pc) (a3:=(l.getD x1_0.toNat default).addr) (a4:=(l.getD x1_0.toNat default).word) (a5:=(l.getD x1_0.toNat default).put) (a6:=(l.getD x1_0.toNat default).own)) [9] ?_
          exact tTo (fun x=>z14_45 x1_0 l sh lk bu Xe x1_1) (fun x=>True) () trivial
         ·refine tCall e_trace_on_1 (c_on1v (w:=(0:Int)) (k:=(1:Int)) (a0:=(2:Int)) (a1:=(l.getD x1_0.toNat default).core) (a2:=(l.getD x1_0.toNat default).pc) (a3:=(l.getD x1_0.toNat default).addr) (a4:=(l.getD x1_0.toNat default).word) (a5:=(l.getD x1_0.toNat default).put) (a6:=(l.getD x1_0.toNat default).own)) [9] ?_
          exact tTo (fun x=>z14_45 x1_0 l sh lk bu Xe x1_1) (fun x=>True) () trivial
        ·rintro ⟨⟩ _
         exact tTo (fun x=>C50 sh lk bu l Xe x1_0 x1_1) (fun x=>True) () trivial [0,1,2,3,4,5,6,7,13] [9,16,22] [(l.getD x1_0.toNat default).kind=(2:Int),(z14_16 sh lk l x1_0).kind=onK (0:Int) (1:Int),thD sh lk (l.getD x1_0.toNat default)=(0:Int)] (by simp only [Conj];(repeat' apply And.intro)<;>first | trivial | rfl | (intros;rfl) | (intros;trivial) | (have hp:=evOf_parts (i:=x1_0) hs (rights_at hr (i:=x1_0) (by omega) (by simpa using h2));simp only [BL] at *;first | grind | omega) | (simp only [evOf,thD,noEv,onK,drW,swW,addrB,BL] at *;grind))
    ·refine tWk (St.mk 90 (z14_9 x1_0 l) [z14_13 l,Reg.ro [C.h 0],z14_14 sh lk bu,Reg.dead,Reg.dead,Reg.froz Xe,Reg.ext Xe x1_1 true,z14_17 l x1_0] []) ?_ [] [9] [(3:Int)=(l.getD x1_0.toNat default).kind] (by simp only [Conj];(repeat' apply And.intro)<;>first | trivial | rfl | (intros;rfl) | (exact Eq.symm (by assumption)) | grind)
     refine tz [4,5,12,11,10,0,2] ?_
     refine tAny 2 (fun _:Unit=>z14_51 x1_0 l sh lk bu Xe x1_1) (fun _=>True) ?_ ?_
     ·refine ⟨⟨trivial,?_⟩,?_⟩
      ·refine tCall e_trace_forms (c_formsT) [] ?_
       exact tTo (fun x=>z14_51 x1_0 l sh lk bu Xe x1_1) (fun x=>True) () trivial (vc:=[(0:Int)≤(3:Int),(3:Int)<(9:Int)]) (hv:=(by simp only [Conj,Fits,i64_min,i64_max,u8_min,u8_max,News.len,maxLen]<;>(repeat' (first | apply And.intro | intro _))<;>first | grind | (simp only [BL] at *;omega)))
      ·refine tCall e_trace_forms (c_formsT) [] ?_
       exact tTo (fun x=>z14_51 x1_0 l sh lk bu Xe x1_1) (fun x=>True) () trivial [0,1,2,3,4,5,6,7,9,1000009,10,11,8] (vc:=[(0:Int)≤(3:Int),(3:Int)<(9:Int)]) (hv:=(by simp only [Conj,Fits,i64_min,i64_max,u8_min,u8_max,News.len,maxLen]<;>(repeat' (first | apply And.intro | intro _))<;>first | grind | (simp only [BL] at *;omega)))
     ·rintro ⟨⟩ _
      refine tz [6,4,5,12,11,10,0,2] ?_
      refine tCond (decide ((l.getD x1_0.toNat default).addr<sh)) (fun h4=>?_) (fun h4=>?_)
      ·refine tz [8,7,6,4,5,12,11,10,0,2] ?_
       refine tAny 2 (fun _:Unit=>St.mk 90 (z14_8 l x1_0) (z14_3 l sh lk bu Xe x1_1 x1_0) []) (fun _=>True) ?_ ?_
       ·refine ⟨⟨trivial,?_⟩,?_⟩
        ·refine tCall e_trace_always_1 (c_always1v (w:=(1:Int)) (k:=(0:Int)) (a0:=(3:Int)) (a1:=(l.getD x1_0.toNat default).core) (a2:=(l.getD x1_0.toNat default).pc) (a3:=(l.getD x1_0.toNat default).addr) (a4:=(l.getD x1_0.toNat default).word) (a5:=(l.getD x1_0.toNat default).put) (a6:=(l.getD x1_0.toNat default).own)) [8] ?_
         exact tTo (fun x=>St.mk 90 (z14_8 l x1_0) (z14_3 l sh lk bu Xe x1_1 x1_0) []) (fun x=>True) () trivial
        ·refine tCall e_trace_always_1 (c_always1v (w:=(1:Int)) (k:=(0:Int)) (a0:=(3:Int)) (a1:=(l.getD x1_0.toNat default).core) (a2:=(l.getD x1_0.toNat default).pc) (a3:=(l.getD x1_0.toNat default).addr) (a4:=(l.getD x1_0.toNat default).word) (a5:=(l.getD x1_0.toNat default).put) (a6:=(l.getD x1_0.toNat default).own)) [8] ?_
         exact tTo (fun x=>St.mk 90 (z14_8 l x1_0) (z14_3 l sh lk bu Xe x1_1 x1_0) []) (fun x=>True) () trivial
       ·rintro ⟨⟩ _
        exact tTo (fun x=>C50 sh lk bu l Xe x1_0 x1_1) (fun x=>True) () trivial [0,1,2,3,4,5,6,7,13] [9,16,22] [(l.getD x1_0.toNat default).kind=(3:Int),(z14_16 sh lk l x1_0).kind=(0:Int),thD sh lk (l.getD x1_0.toNat default)=(l.getD x1_0.toNat default).addr] (by simp only [Conj];(repeat' apply And.intro)<;>first | trivial | rfl | (intros;rfl) | (intros;trivial) | (have hp:=evOf_parts (i:=x1_0) hs (rights_at hr (i:=x1_0) (by omega) (by simpa using h2));simp only [BL] at *;first | grind | omega) | (simp only [evOf,thD,noEv,onK,drW,swW,addrB,BL] at *;grind))
      ·refine tz [8,7,6,4,5,12,11,10,0,2] ?_
       refine tCond (decide ((l.getD x1_0.toNat default).addr<sh+lk)) (fun h5=>?_) (fun h5=>?_) (vc:=[Fits IntKind.i64 (sh+lk)]) (hv:=(by simp only [Conj,Fits,i64_min,i64_max,u8_min,u8_max,News.len,maxLen]<;>(repeat' (first | apply And.intro | intro _))<;>first | grind | (simp only [BL] at *;omega)))
       ·refine tz [8,7,6,4,5,12,11,10,0,2] ?_
        refine tAny 2 (fun _:Unit=>St.mk 90 (z14_7 l x1_0 sh) (z14_3 l sh lk bu Xe x1_1 x1_0) []) (fun _=>True) ?_ ?_ (vc:=[Fits IntKind.i64 ((l.getD x1_0.toNat default).addr-sh)]) (hv:=(by simp only [Conj,Fits,i64_min,i64_max,u8_min,u8_max,News.len,maxLen]<;>(repeat' (first | apply And.intro | intro _))<;>first | grind | (simp only [BL] at *;omega)))
        ·refine ⟨⟨trivial,?_⟩,?_⟩
         ·refine tCall e_trace_always_1 (c_always1v (w:=(2:Int)) (k:=(0:Int)) (a0:=(3:Int)) (a1:=(l.getD x1_0.toNat default).core) (a2:=(l.getD x1_0.toNat default).pc) (a3:=(l.getD x1_0.toNat default).addr) (a4:=(l.getD x1_0.toNat default).word) (a5:=(l.getD x1_0.toNat default).put) (a6:=(l.getD x1_0.toNat default).own)) [8] ?_
          exact tTo (fun x=>St.mk 90 (z14_7 l x1_0 sh) (z14_3 l sh lk bu Xe x1_1 x1_0) []) (fun x=>True) () trivial
         ·refine tCall e_trace_always_1 (c_always1v (w:=(2:Int)) (k:=(0:Int)) (a0:=(3:Int)) (a1:=(l.getD x1_0.toNat default).core) (a2:=(l.getD x1_0.toNat default).pc) (a3:=(l.getD x1_0.toNat default).addr) (a4:=(l.getD x1_0.toNat default).word) (a5:=(l.getD x1_0.toNat default).put) (a6:=(l.getD x1_0.toNat default).own)) [8] ?_
          exact tTo (fun x=>St.mk 90 (z14_7 l x1_0 sh) (z14_3 l sh lk bu Xe x1_1 x1_0) []) (fun x=>True) () trivial
        ·rintro ⟨⟩ _
         exact tTo (fun x=>C50 sh lk bu l Xe x1_0 x1_1) (fun x=>True) () trivial [0,1,2,3,4,5,6,7,13] [9,16,22] [(l.getD x1_0.toNat default).kind=(3:Int),(z14_16 sh lk l x1_0).kind=(0:Int),thD sh lk (l.getD x1_0.toNat default)=(l.getD x1_0.toNat default).addr-sh] (by simp only [Conj];(repeat' apply And.intro)<;>first | trivial | rfl | (intros;rfl) | (intros;trivial) | (have hp:=evOf_parts (i:=x1_0) hs (rights_at hr (i:=x1_0) (by omega) (by simpa using h2));simp only [BL] at *;first | grind | omega) | (simp only [evOf,thD,noEv,onK,drW,swW,addrB,BL] at *;grind))
       ·refine tz [8,7,6,4,5,12,11,10,0,2] ?_
        refine tAny 2 (fun _:Unit=>St.mk 90 (z14_2 x1_0 l) (z14_3 l sh lk bu Xe x1_1 x1_0) []) (fun _=>True) ?_ ?_
        ·refine ⟨⟨trivial,?_⟩,?_⟩
         ·refine tCall e_trace_always_1 (c_always1v (w:=(0:Int)) (k:=(0:Int)) (a0:=(3:Int)) (a1:=(l.getD x1_0.toNat default).core) (a2:=(l.getD x1_0.toNat default).pc) (a3:=(l.getD x1_0.toNat default).addr) (a4:=(l.getD x1_0.toNat default).word) (a5:=(l.getD x1_0.toNat default).put) (a6:=(l.getD x1_0.toNat default).own)) [8] ?_
          exact tTo (fun x=>St.mk 90 (z14_2 x1_0 l) (z14_3 l sh lk bu Xe x1_1 x1_0) []) (fun x=>True) () trivial
         ·refine tCall e_trace_always_1 (c_always1v (w:=(0:Int)) (k:=(0:Int)) (a0:=(3:Int)) (a1:=(l.getD x1_0.toNat default).core) (a2:=(l.getD x1_0.toNat default).pc) (a3:=(l.getD x1_0.toNat default).addr) (a4:=(l.getD x1_0.toNat default).word) (a5:=(l.getD x1_0.toNat default).put) (a6:=(l.getD x1_0.toNat default).own)) [8] ?_
          exact tTo (fun x=>St.mk 90 (z14_2 x1_0 l) (z14_3 l sh lk bu Xe x1_1 x1_0) []) (fun x=>True) () trivial
        ·rintro ⟨⟩ _
         exact tTo (fun x=>C50 sh lk bu l Xe x1_0 x1_1) (fun x=>True) () trivial [0,1,2,3,4,5,6,7,13] [9,16,22] [(l.getD x1_0.toNat default).kind=(3:Int),(z14_16 sh lk l x1_0).kind=(0:Int),thD sh lk (l.getD x1_0.toNat default)=(0:Int)] (by simp only [Conj];(repeat' apply And.intro)<;>first | trivial | rfl | (intros;rfl) | (intros;trivial) | (have hp:=evOf_parts (i:=x1_0) hs (rights_at hr (i:=x1_0) (by omega) (by simpa using h2));simp only [BL] at *;first | grind | omega) | (simp only [evOf,thD,noEv,onK,drW,swW,addrB,BL] at *;grind))
    ·refine tWk (St.mk 90 (z14_9 x1_0 l) [z14_13 l,Reg.ro [C.h 0],z14_14 sh lk bu,Reg.dead,Reg.dead,Reg.froz Xe,Reg.ext Xe x1_1 true,z14_5 l x1_0] []) ?_ [] [9] [(4:Int)=(l.getD x1_0.toNat default).kind] (by simp only [Conj];(repeat' apply And.intro)<;>first | trivial | rfl | (intros;rfl) | (exact Eq.symm (by assumption)) | grind)
     refine tz [4,5,12,11,10,0,2] ?_
     refine tAny 2 (fun _:Unit=>z14_27 x1_0 l sh lk bu Xe x1_1) (fun _=>True) ?_ ?_
     ·refine ⟨⟨trivial,?_⟩,?_⟩
      ·refine tCall e_trace_forms (c_formsT) [] ?_
       exact tTo (fun x=>z14_27 x1_0 l sh lk bu Xe x1_1) (fun x=>True) () trivial (vc:=[(0:Int)≤(4:Int),(4:Int)<(9:Int)]) (hv:=(by simp only [Conj,Fits,i64_min,i64_max,u8_min,u8_max,News.len,maxLen]<;>(repeat' (first | apply And.intro | intro _))<;>first | grind | (simp only [BL] at *;omega)))
      ·refine tCall e_trace_forms (c_formsT) [] ?_
       exact tTo (fun x=>z14_27 x1_0 l sh lk bu Xe x1_1) (fun x=>True) () trivial [0,1,2,3,4,5,6,7,1000008,9,10,11,8] (vc:=[(0:Int)≤(4:Int),(4:Int)<(9:Int)]) (hv:=(by simp only [Conj,Fits,i64_min,i64_max,u8_min,u8_max,News.len,maxLen]<;>(repeat' (first | apply And.intro | intro _))<;>first | grind | (simp only [BL] at *;omega)))
     ·rintro ⟨⟩ _
      refine tz [6,4,5,12,11,10,0,2] ?_
      refine tCond (decide ((l.getD x1_0.toNat default).addr<sh)) (fun h4=>?_) (fun h4=>?_)
      ·refine tz [8,7,6,4,5,12,11,10,0,2] ?_
       refine tAny 2 (fun _:Unit=>z14_38 l x1_0 sh lk bu Xe x1_1) (fun _=>True) ?_ ?_
       ·refine ⟨⟨trivial,?_⟩,?_⟩
        ·refine tCall e_trace_swapped (c_swappedv (w:=(1:Int)) (a0:=(4:Int)) (a1:=(l.getD x1_0.toNat default).core) (a2:=(l.getD x1_0.toNat default).pc) (a3:=(l.getD x1_0.toNat default).addr) (a4:=(l.getD x1_0.toNat default).word) (a5:=(l.getD x1_0.toNat default).put) (a6:=(l.getD x1_0.toNat default).own)) [] ?_
         exact tTo (fun x=>z14_38 l x1_0 sh lk bu Xe x1_1) (fun x=>True) () trivial
        ·refine tCall e_trace_swapped (c_swappedv (w:=(1:Int)) (a0:=(4:Int)) (a1:=(l.getD x1_0.toNat default).core) (a2:=(l.getD x1_0.toNat default).pc) (a3:=(l.getD x1_0.toNat default).addr) (a4:=(l.getD x1_0.toNat default).word) (a5:=(l.getD x1_0.toNat default).put) (a6:=(l.getD x1_0.toNat default).own)) [] ?_
         exact tTo (fun x=>z14_38 l x1_0 sh lk bu Xe x1_1) (fun x=>True) () trivial
       ·rintro ⟨⟩ _
        exact tTo (fun x=>C50 sh lk bu l Xe x1_0 x1_1) (fun x=>True) () trivial [0,1,2,3,4,5,6,7,13] [9,16,22] [(l.getD x1_0.toNat default).kind=(4:Int),(z14_16 sh lk l x1_0).kind=swW (1:Int) (l.getD x1_0.toNat default).word (l.getD x1_0.toNat default).put,thD sh lk (l.getD x1_0.toNat default)=(l.getD x1_0.toNat default).addr] (by simp only [Conj];(repeat' apply And.intro)<;>first | trivial | rfl | (intros;rfl) | (intros;trivial) | (have hp:=evOf_parts (i:=x1_0) hs (rights_at hr (i:=x1_0) (by omega) (by simpa using h2));simp only [BL] at *;first | grind | omega) | (simp only [evOf,thD,noEv,onK,drW,swW,addrB,BL] at *;grind))
      ·refine tz [8,7,6,4,5,12,11,10,0,2] ?_
       refine tCond (decide ((l.getD x1_0.toNat default).addr<sh+lk)) (fun h5=>?_) (fun h5=>?_) (vc:=[Fits IntKind.i64 (sh+lk)]) (hv:=(by simp only [Conj,Fits,i64_min,i64_max,u8_min,u8_max,News.len,maxLen]<;>(repeat' (first | apply And.intro | intro _))<;>first | grind | (simp only [BL] at *;omega)))
       ·refine tz [8,7,6,4,5,12,11,10,0,2] ?_
        refine tAny 2 (fun _:Unit=>z14_37 l x1_0 sh lk bu Xe x1_1) (fun _=>True) ?_ ?_ (vc:=[Fits IntKind.i64 ((l.getD x1_0.toNat default).addr-sh)]) (hv:=(by simp only [Conj,Fits,i64_min,i64_max,u8_min,u8_max,News.len,maxLen]<;>(repeat' (first | apply And.intro | intro _))<;>first | grind | (simp only [BL] at *;omega)))
        ·refine ⟨⟨trivial,?_⟩,?_⟩
         ·refine tCall e_trace_swapped (c_swappedv (w:=(2:Int)) (a0:=(4:Int)) (a1:=(l.getD x1_0.toNat default).core) (a2:=(l.getD x1_0.toNat default).pc) (a3:=(l.getD x1_0.toNat default).addr) (a4:=(l.getD x1_0.toNat default).word) (a5:=(l.getD x1_0.toNat default).put) (a6:=(l.getD x1_0.toNat default).own)) [] ?_
          exact tTo (fun x=>z14_37 l x1_0 sh lk bu Xe x1_1) (fun x=>True) () trivial
         ·refine tCall e_trace_swapped (c_swappedv (w:=(2:Int)) (a0:=(4:Int)) (a1:=(l.getD x1_0.toNat default).core) (a2:=(l.getD x1_0.toNat default).pc) (a3:=(l.getD x1_0.toNat default).addr) (a4:=(l.getD x1_0.toNat default).word) (a5:=(l.getD x1_0.toNat default).put) (a6:=(l.getD x1_0.toNat default).own)) [] ?_
          exact tTo (fun x=>z14_37 l x1_0 sh lk bu Xe x1_1) (fun x=>True) () trivial
        ·rintro ⟨⟩ _
         exact tTo (fun x=>C50 sh lk bu l Xe x1_0 x1_1) (fun x=>True) () trivial [0,1,2,3,4,5,6,7,13] [9,16,22] [(l.getD x1_0.toNat default).kind=(4:Int),(z14_16 sh lk l x1_0).kind=swW (2:Int) (l.getD x1_0.toNat default).word (l.getD x1_0.toNat default).put,thD sh lk (l.getD x1_0.toNat default)=(l.getD x1_0.toNat default).addr-sh] (by simp only [Conj];(repeat' apply And.intro)<;>first | trivial | rfl | (intros;rfl) | (intros;trivial) | (have hp:=evOf_parts (i:=x1_0) hs (rights_at hr (i:=x1_0) (by omega) (by simpa using h2));simp only [BL] at *;first | grind | omega) | (simp only [evOf,thD,noEv,onK,drW,swW,addrB,BL] at *;grind))
       ·refine tz [8,7,6,4,5,12,11,10,0,2] ?_
        refine tAny 2 (fun _:Unit=>z14_39 x1_0 l sh lk bu Xe x1_1) (fun _=>True) ?_ ?_
        ·refine ⟨⟨trivial,?_⟩,?_⟩
         ·refine tCall e_trace_swapped (c_swappedv (w:=(0:Int)) (a0:=(4:Int)) (a1:=(l.getD x1_0.toNat default).core) (a2:=(l.getD x1_0.toNat default).pc) (a3:=(l.getD x1_0.toNat default).addr) (a4:=(l.getD x1_0.toNat default).word) (a5:=(l.getD x1_0.toNat default).put) (a6:=(l.getD x1_0.toNat default).own)) [] ?_
          exact tTo (fun x=>z14_39 x1_0 l sh lk bu Xe x1_1) (fun x=>True) () trivial
         ·refine tCall e_trace_swapped (c_swappedv (w:=(0:Int)) (a0:=(4:Int)) (a1:=(l.getD x1_0.toNat default).core) (a2:=(l.getD x1_0.toNat default).pc) (a3:=(l.getD x1_0.toNat default).addr) (a4:=(l.getD x1_0.toNat default).word) (a5:=(l.getD x1_0.toNat default).put) (a6:=(l.getD x1_0.toNat default).own)) [] ?_
          exact tTo (fun x=>z14_39 x1_0 l sh lk bu Xe x1_1) (fun x=>True) () trivial
        ·rintro ⟨⟩ _
         exact tTo (fun x=>C50 sh lk bu l Xe x1_0 x1_1) (fun x=>True) () trivial [0,1,2,3,4,5,6,7,13] [9,16,22] [(l.getD x1_0.toNat default).kind=(4:Int),(z14_16 sh lk l x1_0).kind=swW (0:Int) (l.getD x1_0.toNat default).word (l.getD x1_0.toNat default).put,thD sh lk (l.getD x1_0.toNat default)=(0:Int)] (by simp only [Conj];(repeat' apply And.intro)<;>first | trivial | rfl | (intros;rfl) | (intros;trivial) | (have hp:=evOf_parts (i:=x1_0) hs (rights_at hr (i:=x1_0) (by omega) (by simpa using h2));simp only [BL] at *;first | grind | omega) | (simp only [evOf,thD,noEv,onK,drW,swW,addrB,BL] at *;grind))
    ·refine tWk (St.mk 90 (z14_9 x1_0 l) [z14_13 l,Reg.ro [C.h 0],z14_14 sh lk bu,Reg.dead,Reg.dead,Reg.froz Xe,Reg.ext Xe x1_1 true,z14_11 l x1_0] []) ?_ [] [9] [(5:Int)=(l.getD x1_0.toNat default).kind] (by simp only [Conj];(repeat' apply And.intro)<;>first | trivial | rfl | (intros;rfl) | (exact Eq.symm (by assumption)) | grind)
     refine tz [4,5,12,11,10,0,2] ?_
     refine tAny 2 (fun _:Unit=>z14_52 x1_0 l sh lk bu Xe x1_1) (fun _=>True) ?_ ?_
     ·refine ⟨⟨trivial,?_⟩,?_⟩
      ·refine tCall e_trace_forms (c_formsT) [] ?_
       exact tTo (fun x=>z14_52 x1_0 l sh lk bu Xe x1_1) (fun x=>True) () trivial (vc:=[(0:Int)≤(5:Int),(5:Int)<(9:Int)]) (hv:=(by simp only [Conj,Fits,i64_min,i64_max,u8_min,u8_max,News.len,maxLen]<;>(repeat' (first | apply And.intro | intro _))<;>first | grind | (simp only [BL] at *;omega)))
      ·refine tCall e_trace_forms (c_formsT) [] ?_
       exact tTo (fun x=>z14_52 x1_0 l sh lk bu Xe x1_1) (fun x=>True) () trivial [0,1,2,3,4,5,6,7,9,1000009,10,11,8] (vc:=[(0:Int)≤(5:Int),(5:Int)<(9:Int)]) (hv:=(by simp only [Conj,Fits,i64_min,i64_max,u8_min,u8_max,News.len,maxLen]<;>(repeat' (first | apply And.intro | intro _))<;>first | grind | (simp only [BL] at *;omega)))
     ·rintro ⟨⟩ _
      refine tz [6,4,5,12,11,10,0,2] ?_
      refine tAny 2 (fun _:Unit=>z14_33 x1_0 l sh lk bu Xe x1_1) (fun _=>True) ?_ ?_
      ·refine ⟨⟨trivial,?_⟩,?_⟩
       ·refine tCall e_trace_always_1 (c_always1v (w:=(0:Int)) (k:=(0:Int)) (a0:=(5:Int)) (a1:=(l.getD x1_0.toNat default).core) (a2:=(l.getD x1_0.toNat default).pc) (a3:=(l.getD x1_0.toNat default).addr) (a4:=(l.getD x1_0.toNat default).word) (a5:=(l.getD x1_0.toNat default).put) (a6:=(l.getD x1_0.toNat default).own)) [8] ?_
        exact tTo (fun x=>z14_33 x1_0 l sh lk bu Xe x1_1) (fun x=>True) () trivial
       ·refine tCall e_trace_always_1 (c_always1v (w:=(0:Int)) (k:=(0:Int)) (a0:=(5:Int)) (a1:=(l.getD x1_0.toNat default).core) (a2:=(l.getD x1_0.toNat default).pc) (a3:=(l.getD x1_0.toNat default).addr) (a4:=(l.getD x1_0.toNat default).word) (a5:=(l.getD x1_0.toNat default).put) (a6:=(l.getD x1_0.toNat default).own)) [8] ?_
        exact tTo (fun x=>z14_33 x1_0 l sh lk bu Xe x1_1) (fun x=>True) () trivial
      ·rintro ⟨⟩ _
       exact tTo (fun x=>C50 sh lk bu l Xe x1_0 x1_1) (fun x=>True) () trivial [0,1,2,3,4,5,6,7,13] [9,16,22] [(l.getD x1_0.toNat default).kind=(5:Int),(z14_16 sh lk l x1_0).kind=(0:Int),thD sh lk (l.getD x1_0.toNat default)=(0:Int)] (by simp only [Conj];(repeat' apply And.intro)<;>first | trivial | rfl | (intros;rfl) | (intros;trivial) | (have hp:=evOf_parts (i:=x1_0) hs (rights_at hr (i:=x1_0) (by omega) (by simpa using h2));simp only [BL] at *;first | grind | omega) | (simp only [evOf,thD,noEv,onK,drW,swW,addrB,BL] at *;grind))
    ·refine tWk (St.mk 90 (z14_9 x1_0 l) [z14_13 l,Reg.ro [C.h 0],z14_14 sh lk bu,Reg.dead,Reg.dead,Reg.froz Xe,Reg.ext Xe x1_1 true,z14_12 l x1_0] []) ?_ [] [9] [(6:Int)=(l.getD x1_0.toNat default).kind] (by simp only [Conj];(repeat' apply And.intro)<;>first | trivial | rfl | (intros;rfl) | (exact Eq.symm (by assumption)) | grind)
     refine tz [4,5,12,11,10,0,2] ?_
     refine tAny 2 (fun _:Unit=>z14_30 x1_0 l sh lk bu Xe x1_1) (fun _=>True) ?_ ?_
     ·refine ⟨⟨trivial,?_⟩,?_⟩
      ·refine tCall e_trace_forms (c_formsT) [] ?_
       exact tTo (fun x=>z14_30 x1_0 l sh lk bu Xe x1_1) (fun x=>True) () trivial (vc:=[(0:Int)≤(6:Int),(6:Int)<(9:Int)]) (hv:=(by simp only [Conj,Fits,i64_min,i64_max,u8_min,u8_max,News.len,maxLen]<;>(repeat' (first | apply And.intro | intro _))<;>first | grind | (simp only [BL] at *;omega)))
      ·refine tCall e_trace_forms (c_formsT) [] ?_
       exact tTo (fun x=>z14_30 x1_0 l sh lk bu Xe x1_1) (fun x=>True) () trivial [0,1,2,3,4,5,6,7,1000008,9,11,1000011,8] (vc:=[(0:Int)≤(6:Int),(6:Int)<(9:Int)]) (hv:=(by simp only [Conj,Fits,i64_min,i64_max,u8_min,u8_max,News.len,maxLen]<;>(repeat' (first | apply And.intro | intro _))<;>first | grind | (simp only [BL] at *;omega)))
     ·rintro ⟨⟩ _
      refine tz [6,4,5,12,11,10,0,2] ?_
      refine tAny 2 (fun _:Unit=>z14_46 x1_0 l sh lk bu Xe x1_1) (fun _=>True) ?_ ?_
      ·refine ⟨⟨trivial,?_⟩,?_⟩
       ·refine tCall e_trace_always_1 (c_always1v (w:=(0:Int)) (k:=(6:Int)) (a0:=(6:Int)) (a1:=(l.getD x1_0.toNat default).core) (a2:=(l.getD x1_0.toNat default).pc) (a3:=(l.getD x1_0.toNat default).addr) (a4:=(l.getD x1_0.toNat default).word) (a5:=(l.getD x1_0.toNat default).put) (a6:=(l.getD x1_0.toNat default).own)) [10] ?_
        exact tTo (fun x=>z14_46 x1_0 l sh lk bu Xe x1_1) (fun x=>True) () trivial
       ·refine tCall e_trace_always_1 (c_always1v (w:=(0:Int)) (k:=(6:Int)) (a0:=(6:Int)) (a1:=(l.getD x1_0.toNat default).core) (a2:=(l.getD x1_0.toNat default).pc) (a3:=(l.getD x1_0.toNat default).addr) (a4:=(l.getD x1_0.toNat default).word) (a5:=(l.getD x1_0.toNat default).put) (a6:=(l.getD x1_0.toNat default).own)) [10] ?_
        exact tTo (fun x=>z14_46 x1_0 l sh lk bu Xe x1_1) (fun x=>True) () trivial
      ·rintro ⟨⟩ _
       exact tTo (fun x=>C50 sh lk bu l Xe x1_0 x1_1) (fun x=>True) () trivial [0,1,2,3,4,5,6,7,13] [9,16,22] [(l.getD x1_0.toNat default).kind=(6:Int),(z14_16 sh lk l x1_0).kind=(6:Int),thD sh lk (l.getD x1_0.toNat default)=(0:Int)] (by simp only [Conj];(repeat' apply And.intro)<;>first | trivial | rfl | (intros;rfl) | (intros;trivial) | (have hp:=evOf_parts (i:=x1_0) hs (rights_at hr (i:=x1_0) (by omega) (by simpa using h2));simp only [BL] at *;first | grind | omega) | (simp only [evOf,thD,noEv,onK,drW,swW,addrB,BL] at *;grind))
    ·refine tWk (St.mk 90 (z14_9 x1_0 l) [z14_13 l,Reg.ro [C.h 0],z14_14 sh lk bu,Reg.dead,Reg.dead,Reg.froz Xe,Reg.ext Xe x1_1 true,z14_15 l x1_0] []) ?_ [] [9] [(7:Int)=(l.getD x1_0.toNat default).kind] (by simp only [Conj];(repeat' apply And.intro)<;>first | trivial | rfl | (intros;rfl) | (exact Eq.symm (by assumption)) | grind)
     refine tz [4,5,12,11,10,0,2] ?_
     refine tAny 2 (fun _:Unit=>z14_31 x1_0 l sh lk bu Xe x1_1) (fun _=>True) ?_ ?_
     ·refine ⟨⟨trivial,?_⟩,?_⟩
      ·refine tCall e_trace_forms (c_formsT) [] ?_
       exact tTo (fun x=>z14_31 x1_0 l sh lk bu Xe x1_1) (fun x=>True) () trivial (vc:=[(0:Int)≤(7:Int),(7:Int)<(9:Int)]) (hv:=(by simp only [Conj,Fits,i64_min,i64_max,u8_min,u8_max,News.len,maxLen]<;>(repeat' (first | apply And.intro | intro _))<;>first | grind | (simp only [BL] at *;omega)))
      ·refine tCall e_trace_forms (c_formsT) [] ?_
       exact tTo (fun x=>z14_31 x1_0 l sh lk bu Xe x1_1) (fun x=>True) () trivial [0,1,2,3,4,5,6,7,1000008,9,10,12,8] (vc:=[(0:Int)≤(7:Int),(7:Int)<(9:Int)]) (hv:=(by simp only [Conj,Fits,i64_min,i64_max,u8_min,u8_max,News.len,maxLen]<;>(repeat' (first | apply And.intro | intro _))<;>first | grind | (simp only [BL] at *;omega)))
     ·rintro ⟨⟩ _
      refine tz [6,4,5,12,11,10,0,2] ?_
      refine tAny 2 (fun _:Unit=>z14_47 x1_0 l sh lk bu Xe x1_1) (fun _=>True) ?_ ?_
      ·refine ⟨⟨trivial,?_⟩,?_⟩
       ·refine tCall e_trace_always_1 (c_always1v (w:=(0:Int)) (k:=(7:Int)) (a0:=(7:Int)) (a1:=(l.getD x1_0.toNat default).core) (a2:=(l.getD x1_0.toNat default).pc) (a3:=(l.getD x1_0.toNat default).addr) (a4:=(l.getD x1_0.toNat default).word) (a5:=(l.getD x1_0.toNat default).put) (a6:=(l.getD x1_0.toNat default).own)) [11] ?_
        exact tTo (fun x=>z14_47 x1_0 l sh lk bu Xe x1_1) (fun x=>True) () trivial
       ·refine tCall e_trace_always_1 (c_always1v (w:=(0:Int)) (k:=(7:Int)) (a0:=(7:Int)) (a1:=(l.getD x1_0.toNat default).core) (a2:=(l.getD x1_0.toNat default).pc) (a3:=(l.getD x1_0.toNat default).addr) (a4:=(l.getD x1_0.toNat default).word) (a5:=(l.getD x1_0.toNat default).put) (a6:=(l.getD x1_0.toNat default).own)) [11] ?_
        exact tTo (fun x=>z14_47 x1_0 l sh lk bu Xe x1_1) (fun x=>True) () trivial
      ·rintro ⟨⟩ _
       exact tTo (fun x=>C50 sh lk bu l Xe x1_0 x1_1) (fun x=>True) () trivial [0,1,2,3,4,5,6,7,13] [9,16,22] [(l.getD x1_0.toNat default).kind=(7:Int),(z14_16 sh lk l x1_0).kind=(7:Int),thD sh lk (l.getD x1_0.toNat default)=(0:Int)] (by simp only [Conj];(repeat' apply And.intro)<;>first | trivial | rfl | (intros;rfl) | (intros;trivial) | (have hp:=evOf_parts (i:=x1_0) hs (rights_at hr (i:=x1_0) (by omega) (by simpa using h2));simp only [BL] at *;first | grind | omega) | (simp only [evOf,thD,noEv,onK,drW,swW,addrB,BL] at *;grind))
    ·refine tWk (St.mk 90 (z14_9 x1_0 l) [z14_13 l,Reg.ro [C.h 0],z14_14 sh lk bu,Reg.dead,Reg.dead,Reg.froz Xe,Reg.ext Xe x1_1 true,z14_6 l x1_0] []) ?_ [] [9] [(8:Int)=(l.getD x1_0.toNat default).kind] (by simp only [Conj];(repeat' apply And.intro)<;>first | trivial | rfl | (intros;rfl) | (exact Eq.symm (by assumption)) | grind)
     refine tz [4,5,12,11,10,0,2] ?_
     refine tAny 2 (fun _:Unit=>z14_49 x1_0 l sh lk bu Xe x1_1) (fun _=>True) ?_ ?_
     ·refine ⟨⟨trivial,?_⟩,?_⟩
      ·refine tCall e_trace_forms (c_formsT) [] ?_
       exact tTo (fun x=>z14_49 x1_0 l sh lk bu Xe x1_1) (fun x=>True) () trivial (vc:=[(0:Int)≤(8:Int),(8:Int)<(9:Int)]) (hv:=(by simp only [Conj,Fits,i64_min,i64_max,u8_min,u8_max,News.len,maxLen]<;>(repeat' (first | apply And.intro | intro _))<;>first | grind | (simp only [BL] at *;omega)))
      ·refine tCall e_trace_forms (c_formsT) [] ?_
       exact tTo (fun x=>z14_49 x1_0 l sh lk bu Xe x1_1) (fun x=>True) () trivial [0,1,2,3,4,5,6,7,1000008,9,10,11,8] (vc:=[(0:Int)≤(8:Int),(8:Int)<(9:Int)]) (hv:=(by simp only [Conj,Fits,i64_min,i64_max,u8_min,u8_max,News.len,maxLen]<;>(repeat' (first | apply And.intro | intro _))<;>first | grind | (simp only [BL] at *;omega)))
     ·rintro ⟨⟩ _
      refine tz [6,4,5,12,11,10,0,2] ?_
      refine tCond (decide ((l.getD x1_0.toNat default).addr<sh)) (fun h4=>?_) (fun h4=>?_)
      ·refine tz [8,7,6,4,5,12,11,10,0,2] ?_
       refine tAny 2 (fun _:Unit=>z14_41 l x1_0 sh lk bu Xe x1_1) (fun _=>True) ?_ ?_
       ·refine ⟨⟨trivial,?_⟩,?_⟩
        ·refine tCall e_trace_drained (c_drainedv (w:=(1:Int)) (a0:=(8:Int)) (a1:=(l.getD x1_0.toNat default).core) (a2:=(l.getD x1_0.toNat default).pc) (a3:=(l.getD x1_0.toNat default).addr) (a4:=(l.getD x1_0.toNat default).word) (a5:=(l.getD x1_0.toNat default).put) (a6:=(l.getD x1_0.toNat default).own)) [] ?_
         exact tTo (fun x=>z14_41 l x1_0 sh lk bu Xe x1_1) (fun x=>True) () trivial
        ·refine tCall e_trace_drained (c_drainedv (w:=(1:Int)) (a0:=(8:Int)) (a1:=(l.getD x1_0.toNat default).core) (a2:=(l.getD x1_0.toNat default).pc) (a3:=(l.getD x1_0.toNat default).addr) (a4:=(l.getD x1_0.toNat default).word) (a5:=(l.getD x1_0.toNat default).put) (a6:=(l.getD x1_0.toNat default).own)) [] ?_
         exact tTo (fun x=>z14_41 l x1_0 sh lk bu Xe x1_1) (fun x=>True) () trivial
       ·rintro ⟨⟩ _
        exact tTo (fun x=>C50 sh lk bu l Xe x1_0 x1_1) (fun x=>True) () trivial [0,1,2,3,4,5,6,7,13] [9,16,22] [(l.getD x1_0.toNat default).kind=(8:Int),(z14_16 sh lk l x1_0).kind=drW (1:Int) (l.getD x1_0.toNat default).word,thD sh lk (l.getD x1_0.toNat default)=(l.getD x1_0.toNat default).addr] (by simp only [Conj];(repeat' apply And.intro)<;>first | trivial | rfl | (intros;rfl) | (intros;trivial) | (have hp:=evOf_parts (i:=x1_0) hs (rights_at hr (i:=x1_0) (by omega) (by simpa using h2));simp only [BL] at *;first | grind | omega) | (simp only [evOf,thD,noEv,onK,drW,swW,addrB,BL] at *;grind))
      ·refine tz [8,7,6,4,5,12,11,10,0,2] ?_
       refine tCond (decide ((l.getD x1_0.toNat default).addr<sh+lk)) (fun h5=>?_) (fun h5=>?_) (vc:=[Fits IntKind.i64 (sh+lk)]) (hv:=(by simp only [Conj,Fits,i64_min,i64_max,u8_min,u8_max,News.len,maxLen]<;>(repeat' (first | apply And.intro | intro _))<;>first | grind | (simp only [BL] at *;omega)))
       ·refine tz [8,7,6,4,5,12,11,10,0,2] ?_
        refine tAny 2 (fun _:Unit=>z14_40 l x1_0 sh lk bu Xe x1_1) (fun _=>True) ?_ ?_ (vc:=[Fits IntKind.i64 ((l.getD x1_0.toNat default).addr-sh)]) (hv:=(by simp only [Conj,Fits,i64_min,i64_max,u8_min,u8_max,News.len,maxLen]<;>(repeat' (first | apply And.intro | intro _))<;>first | grind | (simp only [BL] at *;omega)))
        ·refine ⟨⟨trivial,?_⟩,?_⟩
         ·refine tCall e_trace_drained (c_drainedv (w:=(2:Int)) (a0:=(8:Int)) (a1:=(l.getD x1_0.toNat default).core) (a2:=(l.getD x1_0.toNat default).pc) (a3:=(l.getD x1_0.toNat default).addr) (a4:=(l.getD x1_0.toNat default).word) (a5:=(l.getD x1_0.toNat default).put) (a6:=(l.getD x1_0.toNat default).own)) [] ?_
          exact tTo (fun x=>z14_40 l x1_0 sh lk bu Xe x1_1) (fun x=>True) () trivial
         ·refine tCall e_trace_drained (c_drainedv (w:=(2:Int)) (a0:=(8:Int)) (a1:=(l.getD x1_0.toNat default).core) (a2:=(l.getD x1_0.toNat default).pc) (a3:=(l.getD x1_0.toNat default).addr) (a4:=(l.getD x1_0.toNat default).word) (a5:=(l.getD x1_0.toNat default).put) (a6:=(l.getD x1_0.toNat default).own)) [] ?_
          exact tTo (fun x=>z14_40 l x1_0 sh lk bu Xe x1_1) (fun x=>True) () trivial
        ·rintro ⟨⟩ _
         exact tTo (fun x=>C50 sh lk bu l Xe x1_0 x1_1) (fun x=>True) () trivial [0,1,2,3,4,5,6,7,13] [9,16,22] [(l.getD x1_0.toNat default).kind=(8:Int),(z14_16 sh lk l x1_0).kind=drW (2:Int) (l.getD x1_0.toNat default).word,thD sh lk (l.getD x1_0.toNat default)=(l.getD x1_0.toNat default).addr-sh] (by simp only [Conj];(repeat' apply And.intro)<;>first | trivial | rfl | (intros;rfl) | (intros;trivial) | (have hp:=evOf_parts (i:=x1_0) hs (rights_at hr (i:=x1_0) (by omega) (by simpa using h2));simp only [BL] at *;first | grind | omega) | (simp only [evOf,thD,noEv,onK,drW,swW,addrB,BL] at *;grind))
       ·refine tz [8,7,6,4,5,12,11,10,0,2] ?_
        refine tAny 2 (fun _:Unit=>z14_42 x1_0 l sh lk bu Xe x1_1) (fun _=>True) ?_ ?_
        ·refine ⟨⟨trivial,?_⟩,?_⟩
         ·refine tCall e_trace_drained (c_drainedv (w:=(0:Int)) (a0:=(8:Int)) (a1:=(l.getD x1_0.toNat default).core) (a2:=(l.getD x1_0.toNat default).pc) (a3:=(l.getD x1_0.toNat default).addr) (a4:=(l.getD x1_0.toNat default).word) (a5:=(l.getD x1_0.toNat default).put) (a6:=(l.getD x1_0.toNat default).own)) [] ?_
          exact tTo (fun x=>z14_42 x1_0 l sh lk bu Xe x1_1) (fun x=>True) () trivial
         ·refine tCall e_trace_drained (c_drainedv (w:=(0:Int)) (a0:=(8:Int)) (a1:=(l.getD x1_0.toNat default).core) (a2:=(l.getD x1_0.toNat default).pc) (a3:=(l.getD x1_0.toNat default).addr) (a4:=(l.getD x1_0.toNat default).word) (a5:=(l.getD x1_0.toNat default).put) (a6:=(l.getD x1_0.toNat default).own)) [] ?_
          exact tTo (fun x=>z14_42 x1_0 l sh lk bu Xe x1_1) (fun x=>True) () trivial
        ·rintro ⟨⟩ _
         exact tTo (fun x=>C50 sh lk bu l Xe x1_0 x1_1) (fun x=>True) () trivial [0,1,2,3,4,5,6,7,13] [9,16,22] [(l.getD x1_0.toNat default).kind=(8:Int),(z14_16 sh lk l x1_0).kind=drW (0:Int) (l.getD x1_0.toNat default).word,thD sh lk (l.getD x1_0.toNat default)=(0:Int)] (by simp only [Conj];(repeat' apply And.intro)<;>first | trivial | rfl | (intros;rfl) | (intros;trivial) | (have hp:=evOf_parts (i:=x1_0) hs (rights_at hr (i:=x1_0) (by omega) (by simpa using h2));simp only [BL] at *;first | grind | omega) | (simp only [evOf,thD,noEv,onK,drW,swW,addrB,BL] at *;grind))
   ·rintro ⟨⟩ hCC50
    refine RunF.cutm 2 (fun _:Unit=>C50y sh lk bu l Xe x1_0 x1_1) (fun _=>C50y_J sh lk l x1_0) ?_ ?_
    ·refine tz [9,8,5,12,11,10,0,2] ?_
     refine tCond (decide ((z14_16 sh lk l x1_0).kind=(0:Int))) (fun h3=>?_) (fun h3=>?_)
     ·exact tNext (L88_0 sh lk bu l Xe) (x1_0,x1_1) ((x1_0+(1:Int),x1_1)) (by dsimp only [L88_0,L88_0_m];(try simp only [decide_eq_true_eq] at *);omega) (by dsimp only [L88_0,L88_0_J];refine ⟨by omega,by simp only [BL] at *;omega,?_⟩;first | (rw [evUp_skip sh lk l (i:=x1_0) hJ1.1 rfl (of_decide_eq_true h3)];exact hJ1.2.2) | (rw [evUp_take sh lk l (i:=x1_0) hJ1.1 rfl hCC50y,List.length_append,← hJ1.2.2];rfl)) (vc:=[Fits IntKind.i64 (x1_0+(1:Int))]) (hv:=(by simp only [Conj,Fits,i64_min,i64_max,u8_min,u8_max,News.len,maxLen]<;>(repeat' (first | apply And.intro | intro _))<;>first | grind | (simp only [BL] at *;omega)))
     ·refine RunF.cutm 2 (fun _:Unit=>C50b sh lk bu l Xe x1_0 x1_1) (fun _=>True) ?_ ?_
      ·refine tz [57,9,8,5,12,11,10,0,2] ?_
       refine tCond (decide ((z14_16 sh lk l x1_0).kind=(1:Int))) (fun h4=>?_) (fun h4=>?_)
       ·exact tTo (fun x=>C50b sh lk bu l Xe x1_0 x1_1) (fun x=>True) () trivial [] [22] [(z14_28 sh lk l x1_0)=true] (by simp only [Conj];(repeat' apply And.intro)<;>first | trivial | rfl | (intros;rfl) | (intros;trivial) | (have hp:=evOf_parts (i:=x1_0) hs (rights_at hr (i:=x1_0) (by omega) (by simpa using h2));simp only [BL] at *;first | grind | omega) | (simp only [evOf,thD,noEv,onK,drW,swW,addrB,BL] at *;grind))
       ·refine tz [60,57,9,8,5,12,11,10,0,2] ?_
        refine tCond (decide ((z14_16 sh lk l x1_0).kind=(2:Int))) (fun h5=>?_) (fun h5=>?_)
        ·exact tTo (fun x=>C50b sh lk bu l Xe x1_0 x1_1) (fun x=>True) () trivial [] [22] [(z14_28 sh lk l x1_0)=true] (by simp only [Conj];(repeat' apply And.intro)<;>first | trivial | rfl | (intros;rfl) | (intros;trivial) | (have hp:=evOf_parts (i:=x1_0) hs (rights_at hr (i:=x1_0) (by omega) (by simpa using h2));simp only [BL] at *;first | grind | omega) | (simp only [evOf,thD,noEv,onK,drW,swW,addrB,BL] at *;grind))
        ·exact tTo (fun x=>C50b sh lk bu l Xe x1_0 x1_1) (fun x=>True) () trivial [] [22] [(z14_28 sh lk l x1_0)=decide ((z14_16 sh lk l x1_0).kind=(3:Int))] (by simp only [Conj];(repeat' apply And.intro)<;>first | trivial | rfl | (intros;rfl) | (intros;trivial) | (have hp:=evOf_parts (i:=x1_0) hs (rights_at hr (i:=x1_0) (by omega) (by simpa using h2));simp only [BL] at *;first | grind | omega) | (simp only [evOf,thD,noEv,onK,drW,swW,addrB,BL] at *;grind))
      ·rintro ⟨⟩ hCC50b
       refine tz [60,57,9,8,5,12,11,10,0,2] ?_
       refine tCond (z14_28 sh lk l x1_0) (fun h4=>?_) (fun h4=>?_)
       ·refine tz [9,8,5,12,11,10,0,2] ?_
        refine tDag 4 [[]] [0,0,0,0,0,0,0,0,0,0,0,0,0,0,0,0,0,0,0,0,0,0,0,0,0,0,0,0,0,0,0,0,0,0,0,0,0,0,0,0,0,0,0,0,0,0] ?_
        exact tTo (fun x=>C50y sh lk bu l Xe x1_0 x1_1) (fun x=>C50y_J sh lk l x1_0) () (by dsimp only [C50y_J];simp only [BL] at *;assumption) [] [10,11,12,13,14,15] [(z14_16 sh lk l x1_0).core=(l.getD x1_0.toNat default).core,(z14_16 sh lk l x1_0).thing=thD sh lk (l.getD x1_0.toNat default),(z14_16 sh lk l x1_0).word=(l.getD x1_0.toNat default).word,(z14_16 sh lk l x1_0).put=(l.getD x1_0.toNat default).put,(z14_16 sh lk l x1_0).own=(l.getD x1_0.toNat default).own,(z14_16 sh lk l x1_0).pos=x1_0] (by simp only [Conj];(repeat' apply And.intro)<;>first | trivial | rfl | (intros;rfl) | (intros;trivial) | (have hp:=evOf_parts (i:=x1_0) hs (rights_at hr (i:=x1_0) (by omega) (by simpa using h2));simp only [BL] at *;first | grind | omega) | (simp only [evOf,thD,noEv,onK,drW,swW,addrB,BL] at *;grind))
       ·refine tz [57,9,8,5,12,11,10,0,2] ?_
        refine tCond (decide ((z14_16 sh lk l x1_0).kind=(4:Int))) (fun h5=>?_) (fun h5=>?_)
        ·exact tTo (fun x=>C50y sh lk bu l Xe x1_0 x1_1) (fun x=>C50y_J sh lk l x1_0) () (by dsimp only [C50y_J];simp only [BL] at *;assumption) [] [10,11,12,13,14,15] [(z14_16 sh lk l x1_0).core=(l.getD x1_0.toNat default).core,(z14_16 sh lk l x1_0).thing=thD sh lk (l.getD x1_0.toNat default),(z14_16 sh lk l x1_0).word=(0:Int),(z14_16 sh lk l x1_0).put=(0:Int),(z14_16 sh lk l x1_0).own=false,(z14_16 sh lk l x1_0).pos=x1_0] (by simp only [Conj];(repeat' apply And.intro)<;>first | trivial | rfl | (intros;rfl) | (intros;trivial) | (have hp:=evOf_parts (i:=x1_0) hs (rights_at hr (i:=x1_0) (by omega) (by simpa using h2));simp only [BL] at *;first | grind | omega) | (simp only [evOf,thD,noEv,onK,drW,swW,addrB,BL] at *;grind))
        ·refine tz [75,57,9,8,5,12,11,10,0,2] ?_
         refine tCond (decide ((z14_16 sh lk l x1_0).kind=(5:Int))) (fun h6=>?_) (fun h6=>?_)
         ·exact tTo (fun x=>C50y sh lk bu l Xe x1_0 x1_1) (fun x=>C50y_J sh lk l x1_0) () (by dsimp only [C50y_J];simp only [BL] at *;assumption) [] [10,11,12,13,14,15] [(z14_16 sh lk l x1_0).core=(l.getD x1_0.toNat default).core,(z14_16 sh lk l x1_0).thing=thD sh lk (l.getD x1_0.toNat default),(z14_16 sh lk l x1_0).word=(0:Int),(z14_16 sh lk l x1_0).put=(0:Int),(z14_16 sh lk l x1_0).own=false,(z14_16 sh lk l x1_0).pos=x1_0] (by simp only [Conj];(repeat' apply And.intro)<;>first | trivial | rfl | (intros;rfl) | (intros;trivial) | (have hp:=evOf_parts (i:=x1_0) hs (rights_at hr (i:=x1_0) (by omega) (by simpa using h2));simp only [BL] at *;first | grind | omega) | (simp only [evOf,thD,noEv,onK,drW,swW,addrB,BL] at *;grind))
         ·refine tz [57,9,5,12,11,10,0,2] ?_
          refine tCond (decide ((z14_16 sh lk l x1_0).kind=(6:Int))) (fun h7=>?_) (fun h7=>?_)
          ·exact tTo (fun x=>C50y sh lk bu l Xe x1_0 x1_1) (fun x=>C50y_J sh lk l x1_0) () (by dsimp only [C50y_J];simp only [BL] at *;assumption) [] [10,11,12,13,14,15] [(z14_16 sh lk l x1_0).core=(l.getD x1_0.toNat default).core,(z14_16 sh lk l x1_0).thing=(0:Int),(z14_16 sh lk l x1_0).word=(l.getD x1_0.toNat default).word,(z14_16 sh lk l x1_0).put=(0:Int),(z14_16 sh lk l x1_0).own=false,(z14_16 sh lk l x1_0).pos=x1_0] (by simp only [Conj];(repeat' apply And.intro)<;>first | trivial | rfl | (intros;rfl) | (intros;trivial) | (have hp:=evOf_parts (i:=x1_0) hs (rights_at hr (i:=x1_0) (by omega) (by simpa using h2));simp only [BL] at *;first | grind | omega) | (simp only [evOf,thD,noEv,onK,drW,swW,addrB,BL] at *;grind))
          ·exact tTo (fun x=>C50y sh lk bu l Xe x1_0 x1_1) (fun x=>C50y_J sh lk l x1_0) () (by dsimp only [C50y_J];simp only [BL] at *;assumption) [] [10,11,12,13,14,15] [(z14_16 sh lk l x1_0).core=(l.getD x1_0.toNat default).core,(z14_16 sh lk l x1_0).thing=(0:Int),(z14_16 sh lk l x1_0).word=(0:Int),(z14_16 sh lk l x1_0).put=(0:Int),(z14_16 sh lk l x1_0).own=false,(z14_16 sh lk l x1_0).pos=x1_0] (by simp only [Conj];(repeat' apply And.intro)<;>first | trivial | rfl | (intros;rfl) | (intros;trivial) | (have hp:=evOf_parts (i:=x1_0) hs (rights_at hr (i:=x1_0) (by omega) (by simpa using h2));simp only [BL] at *;first | grind | omega) | (simp only [evOf,thD,noEv,onK,drW,swW,addrB,BL] at *;grind))
    ·rintro ⟨⟩ hCC50y
     refine tz [9,12,11,10,0,2] ?_
     refine tYield hy 6 5 x1_1 (SV.agg (z14_16 sh lk l x1_0).cs) (by rw [hn,hJ1.2.2];exact (ev_here hJ1.1 (by simpa using h2) hCC50y).1) (by rw [he];dsimp only;rw [hJ1.2.2,(ev_here hJ1.1 (by simpa using h2) hCC50y).2]) (fun al3=>?_)
     refine tz [87,12,11,10,0,2] ?_
     refine tCond (!al3) (fun h4=>?_) (fun h4=>?_)
     ·exact tRet (res:=(SV.tup [])) (post:=([Reg.dead,Reg.dead,Reg.dead,Reg.dead,Reg.dead,Reg.dead,Reg.ext Xe (x1_1+1) al3])) (hS:=⟨x1_1+1,al3,(by first | (intro _;rw [hn,hJ1.2.2,show x1_0.toNat=l.length by (simp only [BL] at *;omega)]) | (intro h;subst h;simp at *)),rfl⟩)
     ·exact tNext (L88_0 sh lk bu l Xe) (x1_0,x1_1) ((x1_0+(1:Int),x1_1+1)) (by dsimp only [L88_0,L88_0_m];(try simp only [decide_eq_true_eq] at *);omega) (by dsimp only [L88_0,L88_0_J];refine ⟨by omega,by simp only [BL] at *;omega,?_⟩;first | (rw [evUp_skip sh lk l (i:=x1_0) hJ1.1 rfl (of_decide_eq_true h3)];exact hJ1.2.2) | (rw [evUp_take sh lk l (i:=x1_0) hJ1.1 rfl hCC50y,List.length_append,← hJ1.2.2];rfl)) [] [8] [true=al3] (by simp only [Conj];(repeat' apply And.intro)<;>first | trivial | rfl | (intros;rfl) | (intros;trivial) | (have hp:=evOf_parts (i:=x1_0) hs (rights_at hr (i:=x1_0) (by omega) (by simpa using h2));simp only [BL] at *;first | grind | omega) | (simp only [evOf,thD,noEv,onK,drW,swW,addrB,BL] at *;grind)) (vc:=[Fits IntKind.i64 (x1_0+(1:Int))]) (hv:=(by simp only [Conj,Fits,i64_min,i64_max,u8_min,u8_max,News.len,maxLen]<;>(repeat' (first | apply And.intro | intro _))<;>first | grind | (simp only [BL] at *;omega)))
 ·exact tFin (res:=(SV.tup [])) (post:=([Reg.dead,Reg.dead,Reg.dead,Reg.dead,Reg.dead,Reg.dead,Reg.ext Xe x1_1 true])) (hS:=⟨x1_1,true,(by first | (intro _;rw [hn,hJ1.2.2,show x1_0.toNat=l.length by (simp only [BL] at *;omega)]) | (intro h;subst h;simp at *)),rfl⟩)
end Go.Proofs.Ytmjjikcappbkeaa
end
noncomputable section
namespace Go.Proofs.Ytmjjikcappbkeaa
open Go Go.Tx
def R33_I (mem:List Int) (sh lk bu:Int) (cs:List Cor) (l:List Did):List Ev→List Reg:=fun x=>[IntRow mem,Cor.rowR cs,Did.rowR l,Reg.box 122 [.h 6],.ro [.h 0,.i .i64 sh,.i .i64 lk,.i .i64 bu,.h 1],.ro [.h 2],Ev.ownR x]
def R33_J (sh lk:Int) (l:List Did):Nat→List Ev→Prop:=fun k x=>x=(evUp sh lk l l.length).take k
def R33_Jx:Code→List Ev→Prop:=fun _ _=>False
def R33_n (sh lk:Int) (l:List Did):Nat:=(evUp sh lk l l.length).length
def R33_enc (sh lk:Int) (l:List Did):Nat→SV:=fun k=>.agg ((evUp sh lk l l.length).getD k default).cs
def R33_P (sh lk bu:Int) (l:List Did):List Reg:=[Did.rowR l,.ro [.h 0],.ro [.h 3,.i .i64 sh,.i .i64 lk,.i .i64 bu,.h 4],.dead,.dead]
def R33_Q:List SV:=[.c (.p 1 0),.c (.p 2 0)]
def R33_A (mem:List Int) (sh lk bu:Int) (cs:List Cor) (l:List Did):Nat→List Ev→St:=fun k x=>St.mk 32 [En.mk 10 [] (SV.c (C.p 7 0)),En.mk 9 [] (SV.c (C.p 3 0))] [Reg.row 1 mem.length (fun i=>i64T (mem.getD i (0:Int))) none,Reg.row 2 cs.length (fun i=>(cs.getD i default).tc) none,Reg.row 7 l.length (fun i=>(l.getD i default).tc) none,Reg.box 122 [C.h 6],Reg.ro [C.h 0,C.i .i64 sh,C.i .i64 lk,C.i .i64 bu,C.h 1],Reg.ro [C.h 2],Reg.own 168 7 x.length (fun i=>(x.getD i default).tc) none,Reg.box 168 [C.i .u8 ((evUp sh lk l l.length).getD k default).kind,C.i .i64 ((evUp sh lk l l.length).getD k default).core,C.i .i64 ((evUp sh lk l l.length).getD k default).thing,C.i .i64 ((evUp sh lk l l.length).getD k default).word,C.i .i64 ((evUp sh lk l l.length).getD k default).put,C.b ((evUp sh lk l l.length).getD k default).own,C.i .i64 ((evUp sh lk l l.length).getD k default).pos]] [1000000007]
abbrev z15_2 (sh:Int) (lk:Int) (l:List Did) (k3:Nat):=((evUp sh lk l l.length).getD k3 default)
abbrev z15_1 (x3_0:List Ev) (sh:Int) (lk:Int) (l:List Did) (k3:Nat):=(x3_0++[Ev.mk (z15_2 sh lk l k3).kind (z15_2 sh lk l k3).core (z15_2 sh lk l k3).thing (z15_2 sh lk l k3).word (z15_2 sh lk l k3).put (z15_2 sh lk l k3).own (z15_2 sh lk l k3).pos])
theorem c_eventsT (mem:List Int) (sh lk bu:Int) (cs:List Cor) (l:List Did) (hw:∀ a b:Nat,insK ((cs.getD a default).code.getD b default)) (hl:∀ a:Nat,0≤(l.getD a default).kind∧(l.getD a default).kind≤255) (hn:(l.length:Int) * 56≤140737488355328):Ctr Try.prog 39 [IntRow mem,Cor.rowR cs,Did.rowR l] [.agg [.h 0,.i .i64 sh,.i .i64 lk,.i .i64 bu,.h 1],.c (.h 2)]
 (Det (.tup [(false,[.h 3]),(false,[.i .i64 (evE mem sh lk bu cs l)])]) [.dead,.dead,.dead,Ev.ownR (evL mem sh lk bu cs l)]):=by
 refine Ctr.intro [] Try.func39 K K ?_
 refine tCall e_target_Check (c_check (mem:=mem) (sh:=sh) (lk:=lk) (bu:=bu) (cs:=cs) (hw:=by first | assumption | omega | exact hw | exact hl | exact rng (by first | assumption | grind) (by grind) (by grind) | exact shr (mem:=mem) (bu:=bu) (cs:=cs) (by grind))) [] ?_
 refine tz [13,5,4,2,1] ?_
 refine tCond (!decide (chkE mem sh lk bu cs=(0:Int))) (fun h1=>?_) (fun h1=>?_)
 ·exact tRet [0,1,2,1000003] [0,1] [(evL mem sh lk bu cs l).length=0,evE mem sh lk bu cs l=chkE mem sh lk bu cs] (by simp only [Conj];first | (simp only [evE,evL] at *;grind) | (have e:evL mem sh lk bu cs l=x3_0:=(by rw [hJ3,R33_n,List.take_length,show evL mem sh lk bu cs l=evUp sh lk l l.length by (simp only [evL,evE];grind)]);rw [e];exact ⟨rfl,fun _ _=>rfl,by simp only [evE];grind⟩) | (have e:evL mem sh lk bu cs l=x3_0:=(by rw [hJ3,R33_n,List.take_length,show evL mem sh lk bu cs l=evUp sh lk l l.length by (simp only [evL,evE];grind)]);rw [e];simp only [evE];grind))
 ·refine tz [5,4,2,1] ?_
  refine tCall e_trace_right (c_right (l:=l) (hl:=by first | assumption | omega | exact hw | exact hl | exact rng (by first | assumption | grind) (by grind) (by grind) | exact shr (mem:=mem) (bu:=bu) (cs:=cs) (by grind))) [2] ?_
  refine tz [21,5,4,2,1] ?_
  refine tCond (!rightsB l) (fun h2=>?_) (fun h2=>?_)
  ·exact tRet [0,1,2,1000003] [0,1] [(evL mem sh lk bu cs l).length=0,evE mem sh lk bu cs l=(190:Int)] (by simp only [Conj];first | (simp only [evE,evL] at *;grind) | (have e:evL mem sh lk bu cs l=x3_0:=(by rw [hJ3,R33_n,List.take_length,show evL mem sh lk bu cs l=evUp sh lk l l.length by (simp only [evL,evE];grind)]);rw [e];exact ⟨rfl,fun _ _=>rfl,by simp only [evE];grind⟩) | (have e:evL mem sh lk bu cs l=x3_0:=(by rw [hJ3,R33_n,List.take_length,show evL mem sh lk bu cs l=evUp sh lk l l.length by (simp only [evL,evE];grind)]);rw [e];simp only [evE];grind))
  ·refine tz [5,4,2,1] ?_
   refine tCall e_trace_events (c_eventsF (mem:=mem) (sh:=sh) (lk:=lk) (bu:=bu) (cs:=cs) (l:=l)) [] ?_
   refine tz [25,9,5,4] ?_
   refine tRange (I:=R33_I mem sh lk bu cs l) (J:=R33_J sh lk l) (Jx:=R33_Jx) (n:=R33_n sh lk l) (nf:=6) (fi:=88) (enc:=R33_enc sh lk l) (stA:=R33_A mem sh lk bu cs l) (preI:=R33_P sh lk bu l) (argsI:=R33_Q) (caps:=[5,4]) ([]) (St.mk 32 [En.mk 25 [] (SV.c (C.fn 88 false [5,4])),En.mk 9 [] (SV.c (C.p 3 0)),En.mk 5 [] (SV.c (C.i .i64 0)),En.mk 4 [] (SV.c (C.v (Value.slice none 0 0)))] [Reg.row 1 mem.length (fun i=>i64T (mem.getD i (0:Int))) none,Reg.row 2 cs.length (fun i=>(cs.getD i default).tc) none,Reg.row 7 l.length (fun i=>(l.getD i default).tc) none,Reg.box 122 [C.h 6],Reg.ro [C.h 0,C.i .i64 sh,C.i .i64 lk,C.i .i64 bu,C.h 1],Reg.ro [C.h 2],Reg.own 168 7 0 (fun i=>(([]:List Ev).getD i default).tc) none] []) [0,1,2,4,5,6,1000006] [2,5,4,0,1] rfl e_trace_events_1 (fun Xe hn he hy=>c_events_it mem sh lk bu cs l (shr (mem:=mem) (bu:=bu) (cs:=cs) (by grind)) (by grind) Xe hn he hy) ?_ ?_ ?_ (fun _ _ h=>h.elim)
   ·intro k3 x3 hk3 hJ3
    exact tTo (fun x=>R33_A mem sh lk bu cs l k3 x3) (fun x=>True) () trivial
   ·rintro k3 x3_0 hk3 hJ3
    dsimp only [R33_J] at hJ3
    exact tEnd (z15_1 x3_0 sh lk l k3) (by dsimp only [R33_J] at *;subst_vars;exact take_next (by assumption)) [0,1,2,3,4,5,9] [9,10,11,12,13,14,15,16,17] [(z15_1 x3_0 sh lk l k3).length=x3_0.length+1,∀ (i:Nat),i<(z15_1 x3_0 sh lk l k3).length→i≠x3_0.length→((z15_1 x3_0 sh lk l k3).getD i default).tc=(x3_0.getD i default).tc,((z15_1 x3_0 sh lk l k3).getD x3_0.length default).tc 0=TC.val (Value.int IntKind.u8 (z15_2 sh lk l k3).kind),((z15_1 x3_0 sh lk l k3).getD x3_0.length default).tc 1=TC.val (Value.int IntKind.i64 (z15_2 sh lk l k3).core),((z15_1 x3_0 sh lk l k3).getD x3_0.length default).tc 2=TC.val (Value.int IntKind.i64 (z15_2 sh lk l k3).thing),((z15_1 x3_0 sh lk l k3).getD x3_0.length default).tc 3=TC.val (Value.int IntKind.i64 (z15_2 sh lk l k3).word),((z15_1 x3_0 sh lk l k3).getD x3_0.length default).tc 4=TC.val (Value.int IntKind.i64 (z15_2 sh lk l k3).put),((z15_1 x3_0 sh lk l k3).getD x3_0.length default).tc 5=TC.val (Value.bool (z15_2 sh lk l k3).own),((z15_1 x3_0 sh lk l k3).getD x3_0.length default).tc 6=TC.val (Value.int IntKind.i64 (z15_2 sh lk l k3).pos)] (by (try simp only [Conj])<;>(repeat' apply And.intro)<;>first | done | trivial | rfl | (intros;first | rfl | trivial) | exact snoc_len _ _ | exact List.length_set | exact set_ints _ _ _ | exact take_row _ _ _ _ _ | (exact take_len _ _ _ (by first | omega | (have h0:=askE_ok (by simpa using h1);have hm:=evE_mem h0.1;have hs:=evE_ok h0.1;omega))) | exact MpEq.put (by omega) | (refine MpEq.mk' (by omega) ?_ ?_<;>intro q<;>first | rfl | (dsimp only;split<;>simp_all)) | (exact MpEq.mkIt (by omega) (fun _=>rfl) (fun _=>rfl) rfl rfl (fun _=>rfl)) | (intro i h1 h2;rw [snoc_lo h1 h2]) | (rw [getD_snoc];rfl)) (vc:=[x3_0.length+1≤maxLen,(x3_0.length+1) * 56≤140737488355328]) (hv:=(by simp only [Conj,Fits,i64_min,i64_max,u8_min,u8_max,News.len,maxLen]<;>(repeat' (first | apply And.intro | intro _))<;>first | grind | (have hl3:=evUp_len sh lk l l.length;have hl4:x3_0.length+1≤l.length:=(by rw [hJ3,List.length_take];have hk4:k3<(evUp sh lk l l.length).length:=hk3;omega);first | grind | omega) | (simp only [BL] at *;omega)))
   ·rintro x3_0 hJ3
    dsimp only [R33_J] at hJ3
    exact tRet [0,1,2,6] [0,1,2] [(evL mem sh lk bu cs l).length=x3_0.length,∀ (i:Nat),i<(evL mem sh lk bu cs l).length→((evL mem sh lk bu cs l).getD i default).tc=(x3_0.getD i default).tc,evE mem sh lk bu cs l=(0:Int)] (by simp only [Conj];first | (simp only [evE,evL] at *;grind) | (have e:evL mem sh lk bu cs l=x3_0:=(by rw [hJ3,R33_n,List.take_length,show evL mem sh lk bu cs l=evUp sh lk l l.length by (simp only [evL,evE];grind)]);rw [e];exact ⟨rfl,fun _ _=>rfl,by simp only [evE];grind⟩) | (have e:evL mem sh lk bu cs l=x3_0:=(by rw [hJ3,R33_n,List.take_length,show evL mem sh lk bu cs l=evUp sh lk l l.length by (simp only [evL,evE];grind)]);rw [e];simp only [evE];grind))
end Go.Proofs.Ytmjjikcappbkeaa
end
noncomputable section
namespace Go.Proofs.Ytmjjikcappbkeaa
open Go Go.Tx
def R17_I (mem:List Int) (sh lk bu:Int) (cs:List Cor) (cl:List Cls) (l:List Did):List Int→List Reg:=fun x=>[IntRow mem,Cor.rowR cs,Cls.rowR cl,Did.rowR l,Ev.rowR (evL mem sh lk bu cs l),Reg.box 27 [.h 8],.ro [.h 4],.ro [.h 2],IntOwn x]
def R17_J (mem:List Int) (sh lk bu:Int) (cs:List Cor) (cl:List Cls) (l:List Did):Nat→List Int→Prop:=fun k x=>x=(visUp cl (evL mem sh lk bu cs l) (evL mem sh lk bu cs l).length).take k
def R17_Jx:Code→List Int→Prop:=fun _ _=>False
def R17_n (mem:List Int) (sh lk bu:Int) (cs:List Cor) (cl:List Cls) (l:List Did):Nat:=(visUp cl (evL mem sh lk bu cs l) (evL mem sh lk bu cs l).length).length
def R17_enc (mem:List Int) (sh lk bu:Int) (cs:List Cor) (cl:List Cls) (l:List Did):Nat→SV:=fun k=>.c (.i .i64 ((visUp cl (evL mem sh lk bu cs l) (evL mem sh lk bu cs l).length).getD k 0))
def R17_P (mem:List Int) (sh lk bu:Int) (cs:List Cor) (cl:List Cls) (l:List Did):List Reg:=[Ev.rowR (evL mem sh lk bu cs l),Cls.rowR cl,.ro [.h 0],.ro [.h 1]]
def R17_Q:List SV:=[.c (.p 2 0),.c (.p 3 0)]
abbrev z58_1 (cl:List Cls) (mem:List Int) (sh:Int) (lk:Int) (bu:Int) (cs:List Cor) (l:List Did):=(visUp cl (evL mem sh lk bu cs l) (evL mem sh lk bu cs l).length)
def R17_A (mem:List Int) (sh lk bu:Int) (cs:List Cor) (cl:List Cls) (l:List Did):Nat→List Int→St:=fun k x=>St.mk 35 [En.mk 11 [] (SV.c (C.i .i64 ((z58_1 cl mem sh lk bu cs l).getD k (0:Int)))),En.mk 10 [] (SV.c (C.p 5 0))] [Reg.row 1 mem.length (fun i=>i64T (mem.getD i (0:Int))) none,Reg.row 2 cs.length (fun i=>(cs.getD i default).tc) none,Reg.row 3 cl.length (fun i=>(cl.getD i default).tc) none,Reg.row 7 l.length (fun i=>(l.getD i default).tc) none,Reg.row 7 (evL mem sh lk bu cs l).length (fun i=>((evL mem sh lk bu cs l).getD i default).tc) none,Reg.box 27 [C.h 8],Reg.ro [C.h 4],Reg.ro [C.h 2],Reg.own 3 1 x.length (fun i=>i64T (x.getD i (0:Int))) none] [1000000007]
theorem c_order (mem:List Int) (sh lk bu:Int) (cs:List Cor) (cl:List Cls) (l:List Did) (hw:∀ a b:Nat,insK ((cs.getD a default).code.getD b default)) (hl:∀ a:Nat,0≤(l.getD a default).kind∧(l.getD a default).kind≤255) (hn:(l.length:Int) * 56≤140737488355328):Ctr Try.prog 17 [IntRow mem,Cor.rowR cs,Cls.rowR cl,Did.rowR l] [.agg [.h 0,.i .i64 sh,.i .i64 lk,.i .i64 bu,.h 1],.c (.h 2),.c (.h 3)]
 (Det (.tup [(false,[.h 4]),(false,[.i .i64 (ordE mem sh lk bu cs cl l)])]) [.dead,.dead,.dead,.dead,IntOwn (ordL mem sh lk bu cs cl l)]):=by
 refine Ctr.intro [] Try.func17 K K ?_
 refine tCall e_trace_Events (c_eventsT (mem:=mem) (sh:=sh) (lk:=lk) (bu:=bu) (cs:=cs) (l:=l) (hw:=by first | assumption | omega) (hl:=by first | assumption | omega) (hn:=by first | assumption | omega)) [0,1,3] ?_
 refine tz [15,7,6,3,1] ?_
 refine tCond (!decide (evE mem sh lk bu cs l=(0:Int))) (fun h1=>?_) (fun h1=>?_)
 ·rw [ordE_err (cl:=cl) h1]
  rw [ordL_err (cl:=cl) h1]
  exact tRet [0,1,2,3,1000004] [0] [(0:Nat)=0] (by simp only [Conj] at *<;>grind)
 ·refine tz [8,7,6,3,1] ?_
  refine tCond (!decide ((↑cl.length:Int)=sh)) (fun h2=>?_) (fun h2=>?_)
  ·rw [ordE_cls h1 h2]
   rw [ordL_cls h1 h2]
   exact tRet [0,1,2,3,1000004] [0] [(0:Nat)=0] (by simp only [Conj] at *<;>grind)
  ·refine tz [8,7,6,1] ?_
   refine tCall e_witness_visible (c_visF (l:=evL mem sh lk bu cs l) (cl:=cl)) [5,2] ?_
   refine tz [28,10,7,6] ?_
   refine tRange (I:=R17_I mem sh lk bu cs cl l) (J:=R17_J mem sh lk bu cs cl l) (Jx:=R17_Jx) (n:=R17_n mem sh lk bu cs cl l) (nf:=8) (fi:=59) (enc:=R17_enc mem sh lk bu cs cl l) (stA:=R17_A mem sh lk bu cs cl l) (preI:=R17_P mem sh lk bu cs cl l) (argsI:=R17_Q) (caps:=[6,7]) ([]) (St.mk 35 [En.mk 28 [] (SV.c (C.fn 59 false [6,7])),En.mk 10 [] (SV.c (C.p 5 0)),En.mk 7 [] (SV.c (C.i .i64 0)),En.mk 6 [] (SV.c (C.v (Value.slice none 0 0)))] [Reg.row 1 mem.length (fun i=>i64T (mem.getD i (0:Int))) none,Reg.row 2 cs.length (fun i=>(cs.getD i default).tc) none,Reg.row 3 cl.length (fun i=>(cl.getD i default).tc) none,Reg.row 7 l.length (fun i=>(l.getD i default).tc) none,Reg.row 7 (evL mem sh lk bu cs l).length (fun i=>((evL mem sh lk bu cs l).getD i default).tc) none,Reg.box 27 [C.h 8],Reg.ro [C.h 4],Reg.ro [C.h 2],Reg.own 3 1 0 (fun i=>i64T (([]:List Int).getD i (0:Int))) none] []) [0,1,2,3,5,6,7,8,1000008] [4,2,6,7] rfl e_witness_visible_1 (fun Xe hn he hy=>c_vis_it (evL mem sh lk bu cs l) cl (ev_Q h1 h2).1 Xe hn he hy) ?_ ?_ ?_ (fun _ _ h=>h.elim)
   ·intro k3 x3 hk3 hJ3
    exact tTo (fun x=>R17_A mem sh lk bu cs cl l k3 x3) (fun x=>True) () trivial
   ·rintro k3 x3_0 hk3 hJ3
    dsimp only [R17_J] at hJ3
    exact tEnd (x3_0++[(z58_1 cl mem sh lk bu cs l).getD k3 (0:Int)]) (by dsimp only [R17_J] at *;subst_vars;exact take_next (by assumption)) [0,1,2,3,4,5,6,7,10] [10,11,12] [(x3_0++[(z58_1 cl mem sh lk bu cs l).getD k3 (0:Int)]).length=x3_0.length+1,∀ (i:Nat),i<(x3_0++[(z58_1 cl mem sh lk bu cs l).getD k3 (0:Int)]).length→i≠x3_0.length→i64T ((x3_0++[(z58_1 cl mem sh lk bu cs l).getD k3 (0:Int)]).getD i (0:Int))=i64T (x3_0.getD i (0:Int)),i64T ((x3_0++[(z58_1 cl mem sh lk bu cs l).getD k3 (0:Int)]).getD x3_0.length (0:Int)) 0=TC.val (Value.int IntKind.i64 ((z58_1 cl mem sh lk bu cs l).getD k3 (0:Int)))] (by (try simp only [Conj])<;>(repeat' apply And.intro)<;>first | done | trivial | rfl | (intros;first | rfl | trivial) | exact snoc_len _ _ | exact List.length_set | exact set_ints _ _ _ | exact take_row _ _ _ _ _ | (exact take_len _ _ _ (by first | omega | (have h0:=askE_ok (by simpa using h1);have hm:=evE_mem h0.1;have hs:=evE_ok h0.1;omega))) | exact MpEq.put (by omega) | (refine MpEq.mk' (by omega) ?_ ?_<;>intro q<;>first | rfl | (dsimp only;split<;>simp_all)) | (exact MpEq.mkIt (by omega) (fun _=>rfl) (fun _=>rfl) rfl rfl (fun _=>rfl)) | (intro i h1 h2;rw [snoc_lo h1 h2]) | (rw [getD_snoc];rfl)) (vc:=[x3_0.length+1≤maxLen,(x3_0.length+1) * 8≤140737488355328]) (hv:=(by simp only [Conj,Fits,i64_min,i64_max,u8_min,u8_max,News.len,maxLen]<;>(repeat' (first | apply And.intro | intro _))<;>first | grind | (have hl4:=visUp_len cl (evL mem sh lk bu cs l) (evL mem sh lk bu cs l).length;have hl5:=(ev_Q (cl:=cl) h1 h2).2;have hl6:x3_0.length+1≤(visUp cl (evL mem sh lk bu cs l) (evL mem sh lk bu cs l).length).length:=(by rw [hJ3,List.length_take];have hk4:k3<(visUp cl (evL mem sh lk bu cs l) (evL mem sh lk bu cs l).length).length:=hk3;omega);first | grind | omega) | (simp only [BL] at *;omega)))
   ·rintro x3_0 hJ3
    dsimp only [R17_J] at hJ3
    rw [ordE_ok h1 h2]
    rw [ordL_ok h1 h2]
    have hx:x3_0=visUp cl (evL mem sh lk bu cs l) (evL mem sh lk bu cs l).length:=by rw [hJ3];exact List.take_length
    rw [hx.symm]
    exact tRet [0,1,2,3,8]
end Go.Proofs.Ytmjjikcappbkeaa
end
namespace Go.Proofs.Ytmjjikcappbkeaa
open Go Go.Tx
def haltB (d:Did):Bool:=decide (d.kind=7)
def endsV (sh lk bu most:Int) (cs:List Cor):Nat→Int→Gs→Uns
 | 0,_,g=>⟨0,g⟩
 | n+1,k,g =>
   if (viewV g.vs k).halted=true then endsV sh lk bu most cs n (k+1) g
   else if (!decide ((untilV haltB sh lk bu cs k most.toNat g).err=0))=true then untilV haltB sh lk bu cs k most.toNat g
   else endsV sh lk bu most cs n (k+1) (untilV haltB sh lk bu cs k most.toNat g).g
def endsU (mem:List Int) (sh lk bu:Int) (cs:List Cor) (cl:List Cls) (order:List Int) (most:Int):Uns:=
 if begE mem sh lk bu cs cl most≠0 then ⟨begE mem sh lk bu cs cl most,⟨[],[],[],[]⟩⟩
 else if (!decide ((followV sh lk bu most cl cs order (g0 mem cs)).err=0))=true then followV sh lk bu most cl cs order (g0 mem cs)
 else endsV sh lk bu most cs cs.length 0 (followV sh lk bu most cl cs order (g0 mem cs)).g
def endsL (mem:List Int) (sh lk bu:Int) (cs:List Cor) (cl:List Cls) (order:List Int) (most:Int):List Stp:=
 if (endsU mem sh lk bu cs cl order most).err=0 then (endsU mem sh lk bu cs cl order most).g.steps else []
def endsE (mem:List Int) (sh lk bu:Int) (cs:List Cor) (cl:List Cls) (order:List Int) (most:Int):Int:=(endsU mem sh lk bu cs cl order most).err
section
variable {mem:List Int} {sh lk bu most x:Int} {cs:List Cor} {cl:List Cls} {order:List Int} {g:Gs} {u:Uns}
theorem ends_noE (h:¬ begE mem sh lk bu cs cl most=0):endsE mem sh lk bu cs cl order most=begE mem sh lk bu cs cl most:=by
 unfold endsE endsU;rw [if_pos h]
theorem ends_noL (h:¬ begE mem sh lk bu cs cl most=0):endsL mem sh lk bu cs cl order most=[]:=by
 unfold endsL endsU;rw [if_pos h,if_neg h]
theorem ends_errU (h:begE mem sh lk bu cs cl most=0) (h1:(!decide ((followV sh lk bu most cl cs order (g0 mem cs)).err=0))=true):endsU mem sh lk bu cs cl order most=followV sh lk bu most cl cs order (g0 mem cs):=by
 unfold endsU;rw [if_neg (by simp [h]),if_pos h1]
theorem ends_okU (h:begE mem sh lk bu cs cl most=0) (h1:(!decide ((followV sh lk bu most cl cs order (g0 mem cs)).err=0))=false):endsU mem sh lk bu cs cl order most=endsV sh lk bu most cs cs.length 0 (followV sh lk bu most cl cs order (g0 mem cs)).g:=by
 unfold endsU;rw [if_neg (by simp [h]),if_neg (by rw [h1];simp)]
theorem ends_errE (h:endsU mem sh lk bu cs cl order most=u):endsE mem sh lk bu cs cl order most=u.err:=by unfold endsE;rw [h]
theorem ends_errL (h:endsU mem sh lk bu cs cl order most=u) (h1:(!decide (u.err=0))=true):endsL mem sh lk bu cs cl order most=[]:=by
 unfold endsL;rw [h,if_neg (by simpa using h1)]
theorem ends_okL (h:endsU mem sh lk bu cs cl order most=⟨0,g⟩):endsL mem sh lk bu cs cl order most=g.steps:=by
 unfold endsL;rw [h];rfl
theorem ends_end (hu:u=endsV sh lk bu most cs ((cs.length:Int)-x).toNat x g) (h:decide (x<(cs.length:Int))=false):u=⟨0,g⟩:=by
 have:=of_decide_eq_false h
 have e:((cs.length:Int)-x).toNat=0:=by omega
 rw [hu,e];rfl
theorem ends_step (h:decide (x<(cs.length:Int))=true):((cs.length:Int)-x).toNat=((cs.length:Int)-(x+1)).toNat+1:=by
 have:=of_decide_eq_true h;omega
theorem ends_skip (hu:u=endsV sh lk bu most cs ((cs.length:Int)-x).toNat x g) (h:decide (x<(cs.length:Int))=true) (h1:(viewV g.vs x).halted=true):u=endsV sh lk bu most cs ((cs.length:Int)-(x+1)).toNat (x+1) g:=by
 rw [hu,ends_step h,endsV,if_pos h1]
theorem ends_err (hu:u=endsV sh lk bu most cs ((cs.length:Int)-x).toNat x g) (h:decide (x<(cs.length:Int))=true) (h1:(viewV g.vs x).halted=false) (h2:(!decide ((untilV haltB sh lk bu cs x most.toNat g).err=0))=true) :
 u=untilV haltB sh lk bu cs x most.toNat g:=by
 rw [hu,ends_step h,endsV,if_neg (by rw [h1];simp),if_pos h2]
theorem ends_next (hu:u=endsV sh lk bu most cs ((cs.length:Int)-x).toNat x g) (h:decide (x<(cs.length:Int))=true) (h1:(viewV g.vs x).halted=false) (h2:(!decide ((untilV haltB sh lk bu cs x most.toNat g).err=0))=false) :
 u=endsV sh lk bu most cs ((cs.length:Int)-(x+1)).toNat (x+1) (untilV haltB sh lk bu cs x most.toNat g).g:=by
 rw [hu,ends_step h,endsV,if_neg (by rw [h1];simp),if_neg (by rw [h2];simp)]
end
section
variable {α:Type} [Inhabited α] [DecidableEq α] {a b:List α} {x:Int}
theorem same_end (hl:a.length=b.length) (hu:∀ j:Nat,(j:Int)<x→a.getD j default=b.getD j default) (h:decide (x<(a.length:Int))=false):decide (a=b)=true:=by
 have:=of_decide_eq_false h
 refine decide_eq_true (List.ext_getElem hl fun i h1 h2=>?_)
 have:=hu i (by omega)
 simpa only [List.getD_eq_getElem?_getD,List.getElem?_eq_getElem h1,List.getElem?_eq_getElem h2,Option.getD_some] using this
theorem same_next (hu:∀ j:Nat,(j:Int)<x→a.getD j default=b.getD j default) (h0:0≤x) (h:a.getD x.toNat default=b.getD x.toNat default):∀ j:Nat,(j:Int)<x+1→a.getD j default=b.getD j default:=fun j hj=>by
 by_cases e:(j:Int)=x
 ·have e2:x.toNat=j:=by omega
  rw [e2] at h;exact h
 ·exact hu j (by omega)
theorem same_no (hl:¬ a.length=b.length):decide (a=b)=false:=decide_eq_false (fun e=>hl (by rw [e]))
theorem same_ne (h:¬ a.getD x.toNat default=b.getD x.toNat default):decide (a=b)=false:=decide_eq_false (fun e=>h (by rw [e]))
end
theorem Stp.eq_iff (x y:Stp):(x=y)↔(x.kind=y.kind∧x.core=y.core):=by
 cases x;cases y;simp
end Go.Proofs.Ytmjjikcappbkeaa
noncomputable section
namespace Go.Proofs.Ytmjjikcappbkeaa
open Go Go.Tx
def L18_0_I (a:List Int) (b:List Int):Int×Bool→St:=fun x=>{ N:=26,fr:=[{ slot:=13,g:=[],sv:=SV.c (C.i .i64 x.1) },{ slot:=12,g:=[],sv:=SV.c (C.i .i64 (↑a.length:Int)) },{ slot:=4,g:=[],sv:=SV.c (C.b x.2) },{ slot:=0,g:=[],sv:=SV.c (C.h 0) },{ slot:=1,g:=[],sv:=SV.c (C.h 1) }],rg:=[Reg.row 1 a.length (fun i=>i64T (a.getD i (0:Int))) none,Reg.row 1 b.length (fun i=>i64T (b.getD i (0:Int))) none],wr:=[] }
def L18_0_J (a:List Int) (b:List Int):Int×Bool→Prop:=fun x=>0≤x.1∧x.1≤(a.length:Int)∧a.length=b.length∧∀ j:Nat,(j:Int)<x.1→a.getD j default=b.getD j default
def L18_0_m (a:List Int) (b:List Int):Int×Bool→Nat:=fun x=>((a.length:Int)-x.1).toNat
def L18_0 (a:List Int) (b:List Int):Lp (Int×Bool):=⟨L18_0_I a b,L18_0_J a b,L18_0_m a b⟩
theorem c_ints (a b:List Int):Ctr Try.prog 18 [IntRow a,IntRow b] [.c (.h 0),.c (.h 1)]
 (Det (.c (.b (decide (a=b)))) [.dead,.dead]):=by
 refine Ctr.intro [] Try.func18 K K ?_
 refine RunF.lens 0 (m:=a.length) K (fun hlens_0=>?_)
 refine tCond (!decide ((↑a.length:Int)=(↑b.length:Int))) (fun h1=>?_) (fun h1=>?_)
 ·exact tRet [] [0] [decide (a=b)=false] (by simp only [Conj];first | exact same_no (by simp at h1;omega) | exact same_end hJ2.2.2.1 hJ2.2.2.2 h3 | exact same_ne (by show ¬ (a.getD x2_0.toNat (0:Int)=b.getD x2_0.toNat 0);simpa only [Bool.not_eq_true',decide_eq_false_iff_not] using h4))
 ·refine tz [4,0,1] ?_
  refine tLoop (L18_0 a b) (((0:Int),false)) ⟨by omega,by omega,by simp at h1;omega,fun j hj=>absurd hj (by omega)⟩ ?_
  rintro ⟨x2_0,x2_1⟩ hJ2
  dsimp only [L18_0,L18_0_J] at hJ2
  refine tz [13,12,4,0,1] ?_
  refine tCond (decide (x2_0<(↑a.length:Int))) (fun h3=>?_) (fun h3=>?_)
  ·refine tz [13,12,4,0,1] ?_
   refine tCond (!decide (a.getD x2_0.toNat (0:Int)=b.getD x2_0.toNat (0:Int))) (fun h4=>?_) (fun h4=>?_) (vc:=[(0:Int)≤x2_0,x2_0<(↑a.length:Int),x2_0.toNat<a.length,(0:Int)≤x2_0,x2_0<(↑b.length:Int),x2_0.toNat<b.length]) (hv:=(by simp only [Conj,Fits,i64_min,i64_max,u8_min,u8_max,News.len,maxLen]<;>(repeat' (first | apply And.intro | intro _))<;>first | grind | (simp only [BL] at *;omega)))
   ·exact tRet [] [0] [decide (a=b)=false] (by simp only [Conj];first | exact same_no (by simp at h1;omega) | exact same_end hJ2.2.2.1 hJ2.2.2.2 h3 | exact same_ne (by show ¬ (a.getD x2_0.toNat (0:Int)=b.getD x2_0.toNat 0);simpa only [Bool.not_eq_true',decide_eq_false_iff_not] using h4))
   ·exact tNext (L18_0 a b) (x2_0,x2_1) ((x2_0+(1:Int),x2_1)) (by dsimp only [L18_0,L18_0_m];(try simp only [decide_eq_true_eq] at *);omega) ⟨by omega,by have:=of_decide_eq_true h3;omega,hJ2.2.2.1,same_next hJ2.2.2.2 hJ2.1 (by show a.getD x2_0.toNat (0:Int)=b.getD x2_0.toNat 0;simpa using h4)⟩ (vc:=[Fits IntKind.i64 (x2_0+(1:Int))]) (hv:=(by simp only [Conj,Fits,i64_min,i64_max,u8_min,u8_max,News.len,maxLen]<;>(repeat' (first | apply And.intro | intro _))<;>first | grind | (simp only [BL] at *;omega)))
  ·exact tRet [] [0] [decide (a=b)=true] (by simp only [Conj];first | exact same_no (by simp at h1;omega) | exact same_end hJ2.2.2.1 hJ2.2.2.2 h3 | exact same_ne (by show ¬ (a.getD x2_0.toNat (0:Int)=b.getD x2_0.toNat 0);simpa only [Bool.not_eq_true',decide_eq_false_iff_not] using h4))
def L35_20_I (a:List Stp) (b:List Stp):Int×Bool→St:=fun x=>{ N:=26,fr:=[{ slot:=5,g:=[],sv:=SV.c (C.i .i64 x.1) },{ slot:=4,g:=[],sv:=SV.c (C.b x.2) },{ slot:=0,g:=[],sv:=SV.c (C.h 0) },{ slot:=1,g:=[],sv:=SV.c (C.h 1) }],rg:=[Reg.row 2 a.length (fun i=>(a.getD i default).tc) none,Reg.row 2 b.length (fun i=>(b.getD i default).tc) none],wr:=[] }
def L35_20_J (a:List Stp) (b:List Stp):Int×Bool→Prop:=fun x=>0≤x.1∧x.1≤(a.length:Int)∧a.length=b.length∧∀ j:Nat,(j:Int)<x.1→a.getD j default=b.getD j default
def L35_20_m (a:List Stp) (b:List Stp):Int×Bool→Nat:=fun x=>((a.length:Int)-x.1).toNat
def L35_20 (a:List Stp) (b:List Stp):Lp (Int×Bool):=⟨L35_20_I a b,L35_20_J a b,L35_20_m a b⟩
theorem c_stps (a b:List Stp):Ctr Try.prog 35 [Stp.rowR a,Stp.rowR b] [.c (.h 0),.c (.h 1)]
 (Det (.c (.b (decide (a=b)))) [.dead,.dead]):=by
 refine Ctr.intro [] Try.func35 K K ?_
 refine RunF.lens 0 (m:=a.length) K (fun hlens_0=>?_)
 refine tCond (!decide ((↑a.length:Int)=(↑b.length:Int))) (fun h1=>?_) (fun h1=>?_)
 ·exact tRet [] [0] [decide (a=b)=false] (by simp only [Conj];first | exact same_no (by simp at h1;omega) | exact same_end hJ2.2.2.1 hJ2.2.2.2 h3 | exact same_ne (by intro e;rw [e] at h4;simp [eqCells] at h4))
 ·refine tz [4,0,1] ?_
  refine tLoop (L35_20 a b) (((0:Int),false)) ⟨by omega,by omega,by simp at h1;omega,fun j hj=>absurd hj (by omega)⟩ ?_
  rintro ⟨x2_0,x2_1⟩ hJ2
  dsimp only [L35_20,L35_20_J] at hJ2
  refine tz [5,4,0,1] ?_
  refine tCond (decide (x2_0<(↑a.length:Int))) (fun h3=>?_) (fun h3=>?_)
  ·refine tz [5,4,0,1] ?_
   refine tCond (!(decide ((a.getD x2_0.toNat default).kind=(b.getD x2_0.toNat default).kind)&&(decide ((a.getD x2_0.toNat default).core=(b.getD x2_0.toNat default).core)&&true))) (fun h4=>?_) (fun h4=>?_) (vc:=[(0:Int)≤x2_0,x2_0<(↑a.length:Int),x2_0.toNat<a.length,(0:Int)≤x2_0,x2_0<(↑b.length:Int),x2_0.toNat<b.length]) (hv:=(by simp only [Conj,Fits,i64_min,i64_max,u8_min,u8_max,News.len,maxLen]<;>(repeat' (first | apply And.intro | intro _))<;>first | grind | (simp only [BL] at *;omega)))
   ·exact tRet [] [0] [decide (a=b)=false] (by simp only [Conj];first | exact same_no (by simp at h1;omega) | exact same_end hJ2.2.2.1 hJ2.2.2.2 h3 | exact same_ne (by intro e;rw [e] at h4;simp [eqCells] at h4))
   ·exact tNext (L35_20 a b) (x2_0,x2_1) ((x2_0+(1:Int),x2_1)) (by dsimp only [L35_20,L35_20_m];(try simp only [decide_eq_true_eq] at *);omega) ⟨by omega,by have:=of_decide_eq_true h3;omega,hJ2.2.2.1,same_next hJ2.2.2.2 hJ2.1 (by simpa [Stp.eq_iff] using h4)⟩ (vc:=[Fits IntKind.i64 (x2_0+(1:Int))]) (hv:=(by simp only [Conj,Fits,i64_min,i64_max,u8_min,u8_max,News.len,maxLen]<;>(repeat' (first | apply And.intro | intro _))<;>first | grind | (simp only [BL] at *;omega)))
  ·exact tRet [] [0] [decide (a=b)=true] (by simp only [Conj];first | exact same_no (by simp at h1;omega) | exact same_end hJ2.2.2.1 hJ2.2.2.2 h3 | exact same_ne (by intro e;rw [e] at h4;simp [eqCells] at h4))
end Go.Proofs.Ytmjjikcappbkeaa
end
noncomputable section
namespace Go.Proofs.Ytmjjikcappbkeaa
open Go Go.Tx
theorem c_racy (sh lk bu most:Int) (cl:List Cls) (addr:Int) (ha:0≤addr) (hc:(cl.length:Int)=sh):Ctr Try.prog 85 [Reg.ro (goC sh lk bu most 1 2 3 4 5),.dead,.dead,Cls.rowR cl,.dead,.dead] [.c (.p 0 0),.c (.i .i64 addr)]
 (Det (.c (.b (racyB sh cl addr))) [.dead,.dead,.dead,.dead,.dead,.dead]):=by
 refine Ctr.intro [] Try.func85 K K ?_
 exact tRet [] [0] [racyB sh cl addr=(decide (addr<sh)&&decide ((cl.getD addr.toNat default).kind=(3:Int)))] (by simp only [Conj,racyB] at *<;>grind) (vc:=[decide (addr<sh)=true→(0:Int)≤addr,decide (addr<sh)=true→addr<(↑cl.length:Int),decide (addr<sh)=true→addr.toNat<cl.length]) (hv:=(by simp only [Conj,Fits,i64_min,i64_max,u8_min,u8_max,News.len,maxLen]<;>(repeat' (first | apply And.intro | intro _))<;>first | grind | (simp only [BL] at *;omega)))
theorem c_lockB (sh lk bu most:Int) (addr:Int) (hsl:0≤sh∧sh≤64∧0≤lk∧lk≤16):Ctr Try.prog 86 [Reg.ro (goC sh lk bu most 1 2 3 4 5),.dead,.dead,.dead,.dead,.dead] [.c (.p 0 0),.c (.i .i64 addr)]
 (Det (.c (.b (lockB sh lk addr))) [.dead,.dead,.dead,.dead,.dead,.dead]):=by
 refine Ctr.intro [] Try.func86 K K ?_
 exact tRet [] [0] [lockB sh lk addr=(decide (sh≤addr)&&decide (addr<sh+lk))] (by simp only [Conj,lockB] at *<;>grind) (vc:=[decide (sh≤addr)=true→Fits IntKind.i64 (sh+lk)]) (hv:=(by simp only [Conj,Fits,i64_min,i64_max,u8_min,u8_max,News.len,maxLen]<;>(repeat' (first | apply And.intro | intro _))<;>first | grind | (simp only [BL] at *;omega)))
theorem c_visible (sh lk bu most:Int) (cl:List Cls) (d:Did) (ha:0≤d.addr) (hc:(cl.length:Int)=sh) (hsl:0≤sh∧sh≤64∧0≤lk∧lk≤16):Ctr Try.prog 56 [Reg.ro (goC sh lk bu most 1 2 3 4 5),.dead,.dead,Cls.rowR cl,.dead,.dead] [.c (.p 0 0),.agg d.cs]
 (Det (.c (.b (visB sh lk cl d))) [.dead,.dead,.dead,.dead,.dead,.dead]):=by
 refine Ctr.intro [] Try.func56 K K ?_
 refine tCond (decide (d.kind=(6:Int))) (fun h1=>?_) (fun h1=>?_)
 ·exact tRet [] [0] [visB sh lk cl d=true] (by simp only [Conj,visB] at *<;>grind)
 ·refine tz [6,4,3,0] ?_
  refine tCond (decide (d.kind=(2:Int))) (fun h2=>?_) (fun h2=>?_)
  ·refine tz [4,3,0] ?_
   refine tCall e_realise_going_racy (c_racy (sh:=sh) (lk:=lk) (bu:=bu) (most:=most) (cl:=cl) (addr:=d.addr) (ha:=by first | assumption | omega) (hc:=by first | assumption | omega)) [] ?_
   exact tRet [] [0] [visB sh lk cl d=racyB sh cl d.addr] (by simp only [Conj,visB] at *<;>grind)
  ·refine tz [6,4,3,0] ?_
   refine tCond (decide (d.kind=(4:Int))) (fun h3=>?_) (fun h3=>?_)
   ·refine tz [4,3,0] ?_
    refine tCall e_realise_going_racy (c_racy (sh:=sh) (lk:=lk) (bu:=bu) (most:=most) (cl:=cl) (addr:=d.addr) (ha:=by first | assumption | omega) (hc:=by first | assumption | omega)) [] ?_
    refine tz [20,4,3,0] ?_
    refine tG e_realise_going_lock (c_lockB (sh:=sh) (lk:=lk) (bu:=bu) (most:=most) (addr:=d.addr) (hsl:=by first | assumption | omega)) [] ?_
    exact tRet [] [0] [visB sh lk cl d=(racyB sh cl d.addr||lockB sh lk d.addr&&decide (d.word=(0:Int))&&!decide (d.put=(0:Int)))] (by simp only [Conj,visB] at *<;>grind)
   ·refine tz [6,4,3,0] ?_
    refine tCond (decide (d.kind=(8:Int))) (fun h4=>?_) (fun h4=>?_)
    ·refine tz [4,3,0] ?_
     refine tCall e_realise_going_racy (c_racy (sh:=sh) (lk:=lk) (bu:=bu) (most:=most) (cl:=cl) (addr:=d.addr) (ha:=by first | assumption | omega) (hc:=by first | assumption | omega)) [] ?_
     refine tz [42,4,3,0] ?_
     refine tG e_realise_going_lock (c_lockB (sh:=sh) (lk:=lk) (bu:=bu) (most:=most) (addr:=d.addr) (hsl:=by first | assumption | omega)) [] ?_
     exact tRet [] [0] [visB sh lk cl d=(racyB sh cl d.addr||lockB sh lk d.addr&&decide (d.word=(0:Int)))] (by simp only [Conj,visB] at *<;>grind)
    ·exact tRet [] [0] [visB sh lk cl d=false] (by simp only [Conj,visB] at *<;>grind)
theorem c_record (sh lk bu most:Int) (steps:List Stp) (a b:Int) (hs:steps.length≤1048576):Ctr Try.prog 119 [Reg.box 118 (goC sh lk bu most 1 2 3 4 5),.dead,.dead,.dead,.dead,Stp.ownR steps,Reg.own 63 2 1 (fun _ _=>.any) (some (0,[.i .u8 a,.i .i64 b]))] [.c (.p 0 0),.c (.h 6)]
 (Det (.c (.i .i64 (recE steps))) [Reg.box 118 (goC sh lk bu most 1 2 3 4 7),.dead,.dead,.dead,.dead,.dead,.dead,Stp.ownR (recL steps (Stp.mk a b))]):=by
 refine Ctr.intro [] Try.func119 K K ?_
 refine RunF.unroll (vc:=[]) 2 K trivial ?_
 refine tz [9,8,7,4,0] ?_
 refine tCond (decide ((0:Int)<(1:Int))) (fun h1=>?_) (fun h1=>?_)
 ·refine tz [10,9,8,7,4,0] ?_
  refine tCond (decide ((↑steps.length:Int)=(1048576:Int))) (fun h2=>?_) (fun h2=>?_) (vc:=[(0:Int)≤(0:Int),(0:Int)<(1:Int),0=0]) (hv:=(by simp only [Conj,Fits,i64_min,i64_max,u8_min,u8_max,News.len,maxLen]<;>(repeat' (first | apply And.intro | intro _))<;>first | grind | (simp only [BL] at *;omega)))
  ·rw [recE_full h2]
   rw [recL_full (s:=Stp.mk a b) h2]
   exact tRet [0,1,2,3,4,5,6,5]
  ·rw [recE_room h2]
   rw [recL_room (s:=Stp.mk a b) h2]
   refine tz [18,6,10,9,8,7,4,0] ?_
   refine tCond (decide ((1:Int)<(1:Int))) (fun h3=>?_) (fun h3=>?_) (vc:=[steps.length+1≤maxLen,(steps.length+1) * 16≤140737488355328,Fits IntKind.i64 (1:Int)]) (hv:=(by simp only [Conj,Fits,i64_min,i64_max,u8_min,u8_max,News.len,maxLen]<;>(repeat' (first | apply And.intro | intro _))<;>first | grind | (simp only [BL] at *;omega)))
   ·exact absurd h3 (by first | decide | simp)
   ·exact tRet [0,1,2,3,4,5,6,9] [4,5,6,7] [(steps++[Stp.mk a b]).length=steps.length+1,∀ (i:Nat),i<(steps++[Stp.mk a b]).length→i≠steps.length→((steps++[Stp.mk a b]).getD i default).tc=(steps.getD i default).tc,((steps++[Stp.mk a b]).getD steps.length default).tc 0=TC.val (Value.int IntKind.u8 a),((steps++[Stp.mk a b]).getD steps.length default).tc 1=TC.val (Value.int IntKind.i64 b)] (by simp only [Conj];(repeat' apply And.intro)<;>first | trivial | rfl | exact snoc_len _ _ | (intro i h1 h2;rw [snoc_lo h1 h2]) | (rw [getD_snoc];rfl))
 ·exact absurd h1 (by first | decide | simp)
theorem c_begun_no (mem:List Int) (sh lk bu:Int) (cs:List Cor) (hw:∀ a b:Nat,insK ((cs.getD a default).code.getD b default)) (cl:List Cls) (most:Int) (hsel:¬ begE mem sh lk bu cs cl most=0):Ctr Try.prog 36 [WordRow mem,Cor.rowR cs,Cls.rowR cl] [.agg [.h 0,.i .i64 sh,.i .i64 lk,.i .i64 bu,.h 1],.c (.h 2),.c (.i .i64 most)]
 (Det (.tup [(false,[.v (.pointer none)]),(false,[.i .i64 (begE mem sh lk bu cs cl most)])]) [.dead,.dead,.dead]):=by
 refine Ctr.intro [] Try.func36 K K ?_
 by_cases hsel2:chkE mem sh lk bu cs=0
 ·refine tCall e_vm_New (c_new_ok (mem:=mem) (sh:=sh) (lk:=lk) (bu:=bu) (cs:=cs) (hw:=by first | assumption | omega) (hsel:=by first | assumption | omega)) [] ?_
  refine tz [12,7,6,3,1,2] ?_
  refine tCond (!decide ((0:Int)=(0:Int))) (fun h1=>?_) (fun h1=>?_)
  ·exact absurd h1 (by first | decide | simp)
  ·refine tz [8,7,6,3,1,2] ?_
   refine tCond (!decide ((↑cl.length:Int)=sh)) (fun h2=>?_) (fun h2=>?_)
   ·exact tRet [] [1] [begE mem sh lk bu cs cl most=(210:Int)] (by simp only [Conj,begE] at *<;>grind)
   ·refine tz [8,7,6,3,1,2] ?_
    refine tCond (decide (most<(1:Int))||decide ((1048576:Int)<most)) (fun h3=>?_) (fun h3=>?_)
    ·exact tRet [] [1] [begE mem sh lk bu cs cl most=(2:Int)] (by simp only [Conj,begE] at *<;>grind)
    ·exact (show False from by (unfold begE at hsel;grind)).elim
 ·refine tCall e_vm_New (c_new_no (mem:=mem) (sh:=sh) (lk:=lk) (bu:=bu) (cs:=cs) (hw:=by first | assumption | omega) (hsel:=by first | assumption | omega)) [] ?_
  refine tz [12,7,6,3,1,2] ?_
  refine tCond (!decide (chkE mem sh lk bu cs=(0:Int))) (fun h1=>?_) (fun h1=>?_)
  ·exact tRet [] [1] [begE mem sh lk bu cs cl most=chkE mem sh lk bu cs] (by simp only [Conj,begE] at *<;>grind)
  ·refine tz [8,7,6,3,1,2] ?_
   refine tCond (!decide ((↑cl.length:Int)=sh)) (fun h2=>?_) (fun h2=>?_)
   ·exact tRet [] [1] [begE mem sh lk bu cs cl most=(210:Int)] (by simp only [Conj,begE] at *<;>grind)
   ·refine tz [8,7,6,3,1,2] ?_
    refine tCond (decide (most<(1:Int))||decide ((1048576:Int)<most)) (fun h3=>?_) (fun h3=>?_)
    ·exact tRet [] [1] [begE mem sh lk bu cs cl most=(2:Int)] (by simp only [Conj,begE] at *<;>grind)
    ·exact (show False from by (unfold begE at hsel;grind)).elim
theorem c_begun_ok (mem:List Int) (sh lk bu:Int) (cs:List Cor) (hw:∀ a b:Nat,insK ((cs.getD a default).code.getD b default)) (cl:List Cls) (most:Int) (hsel:begE mem sh lk bu cs cl most=0):Ctr Try.prog 36 [WordRow mem,Cor.rowR cs,Cls.rowR cl] [.agg [.h 0,.i .i64 sh,.i .i64 lk,.i .i64 bu,.h 1],.c (.h 2),.c (.i .i64 most)]
 (Det (.tup [(false,[.p 3 0]),(false,[.i .i64 0])]) [.dead,.dead,.dead,Reg.box 118 (goC sh lk bu most 0 1 2 4 9),Reg.box 138 (vmC sh lk bu 5 6 7 8),Cor.ownR cs,VCo.ownR (newVs cs.length),WordOwn mem,Prt.ownR [],Stp.ownR []]):=by
 refine Ctr.intro [] Try.func36 K K ?_
 have hsel2:chkE mem sh lk bu cs=0:=by (unfold begE at hsel;grind)
 refine tCall e_vm_New (c_new_ok (mem:=mem) (sh:=sh) (lk:=lk) (bu:=bu) (cs:=cs) (hw:=by first | assumption | omega) (hsel:=by first | assumption | omega)) [] ?_
 refine tz [12,7,6,3,1,2] ?_
 refine tCond (!decide ((0:Int)=(0:Int))) (fun h1=>?_) (fun h1=>?_)
 ·exact absurd h1 (by first | decide | simp)
 ·refine tz [8,7,6,3,1,2] ?_
  refine tCond (!decide ((↑cl.length:Int)=sh)) (fun h2=>?_) (fun h2=>?_)
  ·exact (show False from by (unfold begE at hsel;grind)).elim
  ·refine tz [8,7,6,3,1,2] ?_
   refine tCond (decide (most<(1:Int))||decide ((1048576:Int)<most)) (fun h3=>?_) (fun h3=>?_)
   ·exact (show False from by (unfold begE at hsel;grind)).elim
   ·exact tRet [0,1,2,9,4,5,6,7,8,1000009] [14,16] [(0:Nat)=0,(0:Nat)=0] (by simp only [Conj,begE] at *<;>grind)
end Go.Proofs.Ytmjjikcappbkeaa
end
noncomputable section
namespace Go.Proofs.Ytmjjikcappbkeaa
open Go Go.Tx
theorem c_g_one (sh lk bu most:Int) (cs:List Cor) (vs:List VCo) (mem:List Int) (pr:List Prt) (steps:List Stp) (k:Int) (hsl:0≤sh∧sh≤64∧0≤lk∧lk≤16) (hg:GsOk bu cs ⟨vs,mem,pr,steps⟩):Ctr Try.prog 84 [Reg.box 118 (goC sh lk bu most 1 2 3 4 9),.dead,.dead,.dead,Reg.box 138 (vmC sh lk bu 5 6 7 8),Cor.rowR cs,VCo.ownR vs,WordOwn mem,Prt.ownR pr,Stp.ownR steps] [.c (.p 0 0),.c (.i .i64 k)]
 (Det (.tup [(true,(oneV sh lk bu cs k (Gs.mk vs mem pr steps)).did.cs),(false,[.i .i64 (oneV sh lk bu cs k (Gs.mk vs mem pr steps)).err])]) [Reg.box 118 (goC sh lk bu most 1 2 3 4 11),.dead,.dead,.dead,Reg.box 138 (vmC sh lk bu 5 6 7 10),.dead,VCo.ownR (oneV sh lk bu cs k (Gs.mk vs mem pr steps)).g.vs,WordOwn (oneV sh lk bu cs k (Gs.mk vs mem pr steps)).g.mem,.dead,.dead,Prt.ownR (oneV sh lk bu cs k (Gs.mk vs mem pr steps)).g.pr,Stp.ownR (oneV sh lk bu cs k (Gs.mk vs mem pr steps)).g.steps]):=by
 refine Ctr.intro [] Try.func84 K K ?_
 refine tCond (decide ((↑steps.length:Int)=(1048576:Int))) (fun h1=>?_) (fun h1=>?_)
 ·rw [one_full (sh:=sh) (lk:=lk) (bu:=bu) (cs:=cs) (k:=k) (g:=Gs.mk vs mem pr steps) h1]
  exact tRet [0,1,2,3,4,5,6,7,8,9,8,9]
 ·refine tz [5,4,0,1] ?_
  refine tCall e_vm_Machine_Run (c_run (sh:=sh) (lk:=lk) (bu:=bu) (cs:=cs) (vs:=vs) (mem:=mem) (pr:=pr) (k:=k) (hi0:=by first | assumption | exact hg.mac.ins | exact hg.mac.buf16 | exact hg.mac.len | exact hg.mac.pos | exact hg.mac.cod | exact hg.mac.sto0 | exact hg.mac.buf16 _ | (have:=hg.prs;have:=hg.stp;simp only at *;omega) | exact (runV_mac hg.mac k pr).1.sto0 | exact (runV_mac hg.mac k pr).1.buf16 _ | (have:=hg.prs;have:=hg.stp;have h1q:=of_decide_eq_false h1;rw [snoc_len];simp only at *;omega) | omega) (hb:=by first | assumption | exact hg.mac.ins | exact hg.mac.buf16 | exact hg.mac.len | exact hg.mac.pos | exact hg.mac.cod | exact hg.mac.sto0 | exact hg.mac.buf16 _ | (have:=hg.prs;have:=hg.stp;simp only at *;omega) | exact (runV_mac hg.mac k pr).1.sto0 | exact (runV_mac hg.mac k pr).1.buf16 _ | (have:=hg.prs;have:=hg.stp;have h1q:=of_decide_eq_false h1;rw [snoc_len];simp only at *;omega) | omega) (hp:=by first | assumption | exact hg.mac.ins | exact hg.mac.buf16 | exact hg.mac.len | exact hg.mac.pos | exact hg.mac.cod | exact hg.mac.sto0 | exact hg.mac.buf16 _ | (have:=hg.prs;have:=hg.stp;simp only at *;omega) | exact (runV_mac hg.mac k pr).1.sto0 | exact (runV_mac hg.mac k pr).1.buf16 _ | (have:=hg.prs;have:=hg.stp;have h1q:=of_decide_eq_false h1;rw [snoc_len];simp only at *;omega) | omega) (hc:=by first | assumption | exact hg.mac.ins | exact hg.mac.buf16 | exact hg.mac.len | exact hg.mac.pos | exact hg.mac.cod | exact hg.mac.sto0 | exact hg.mac.buf16 _ | (have:=hg.prs;have:=hg.stp;simp only at *;omega) | exact (runV_mac hg.mac k pr).1.sto0 | exact (runV_mac hg.mac k pr).1.buf16 _ | (have:=hg.prs;have:=hg.stp;have h1q:=of_decide_eq_false h1;rw [snoc_len];simp only at *;omega) | omega) (hpos:=by first | assumption | exact hg.mac.ins | exact hg.mac.buf16 | exact hg.mac.len | exact hg.mac.pos | exact hg.mac.cod | exact hg.mac.sto0 | exact hg.mac.buf16 _ | (have:=hg.prs;have:=hg.stp;simp only at *;omega) | exact (runV_mac hg.mac k pr).1.sto0 | exact (runV_mac hg.mac k pr).1.buf16 _ | (have:=hg.prs;have:=hg.stp;have h1q:=of_decide_eq_false h1;rw [snoc_len];simp only at *;omega) | omega) (hcl:=by first | assumption | exact hg.mac.ins | exact hg.mac.buf16 | exact hg.mac.len | exact hg.mac.pos | exact hg.mac.cod | exact hg.mac.sto0 | exact hg.mac.buf16 _ | (have:=hg.prs;have:=hg.stp;simp only at *;omega) | exact (runV_mac hg.mac k pr).1.sto0 | exact (runV_mac hg.mac k pr).1.buf16 _ | (have:=hg.prs;have:=hg.stp;have h1q:=of_decide_eq_false h1;rw [snoc_len];simp only at *;omega) | omega)) [4,5,6,7,8] ?_
  refine tz [22,5,4,0,1] ?_
  refine tG e_realise_going_lock (c_lockB (sh:=sh) (lk:=lk) (bu:=bu) (most:=most) (addr:=(runV bu cs k vs mem pr).did.addr) (hsl:=by first | assumption | exact hg.mac.ins | exact hg.mac.buf16 | exact hg.mac.len | exact hg.mac.pos | exact hg.mac.cod | exact hg.mac.sto0 | exact hg.mac.buf16 _ | (have:=hg.prs;have:=hg.stp;simp only at *;omega) | exact (runV_mac hg.mac k pr).1.sto0 | exact (runV_mac hg.mac k pr).1.buf16 _ | (have:=hg.prs;have:=hg.stp;have h1q:=of_decide_eq_false h1;rw [snoc_len];simp only at *;omega) | omega)) [0,1,2,3,4,9] ?_
  refine tz [35,31,27,5,6,4,0,1] ?_
  refine tCond (!decide ((runV bu cs k vs mem pr).err=(0:Int))||decide ((runV bu cs k vs mem pr).did.kind=(4:Int))&&lockB sh lk (runV bu cs k vs mem pr).did.addr&&!decide ((runV bu cs k vs mem pr).did.word=(0:Int))) (fun h2=>?_) (fun h2=>?_)
  ·rw [one_bad (g:=Gs.mk vs mem pr steps) h1 h2]
   exact tRet [0,1,2,3,4,5,6,7,8,9,11,9]
  ·refine tz [5,6,4,0,1] ?_
   refine tCall e_realise_going_record (c_record (sh:=sh) (lk:=lk) (bu:=bu) (most:=most) (steps:=steps) (a:=(1:Int)) (b:=k) (hs:=by first | assumption | exact hg.mac.ins | exact hg.mac.buf16 | exact hg.mac.len | exact hg.mac.pos | exact hg.mac.cod | exact hg.mac.sto0 | exact hg.mac.buf16 _ | (have:=hg.prs;have:=hg.stp;simp only at *;omega) | exact (runV_mac hg.mac k pr).1.sto0 | exact (runV_mac hg.mac k pr).1.buf16 _ | (have:=hg.prs;have:=hg.stp;have h1q:=of_decide_eq_false h1;rw [snoc_len];simp only at *;omega) | omega)) [0,1,2,3,4,9,13] ?_ [8] [∀ (i:Nat),i<1→i≠0→((fun _=>TC.any):Nat→TC)=fun _=>TC.any] (fun _ _ _=>rfl)
   rw [recE_room h1]
   rw [recL_room (s:=Stp.mk 1 k) h1]
   refine tz [48,5,6,4,0,1] ?_
   refine tCond (!decide ((0:Int)=(0:Int))) (fun h3=>?_) (fun h3=>?_)
   ·exact absurd h3 (by first | decide | simp)
   ·refine tz [5,6,4,0,1] ?_
    refine tCond (!decide ((runV bu cs k vs mem pr).did.kind=(3:Int))) (fun h4=>?_) (fun h4=>?_)
    ·rw [one_run (g:=Gs.mk vs mem pr steps) h1 h2 h4]
     exact tRet [0,1,2,3,4,5,6,7,8,9,11,14]
    ·refine tz [5,6,4,0,1] ?_
     refine tCall e_realise_going_record (c_record (sh:=sh) (lk:=lk) (bu:=bu) (most:=most) (steps:=steps++[Stp.mk (1:Int) k]) (a:=(2:Int)) (b:=k) (hs:=by first | assumption | exact hg.mac.ins | exact hg.mac.buf16 | exact hg.mac.len | exact hg.mac.pos | exact hg.mac.cod | exact hg.mac.sto0 | exact hg.mac.buf16 _ | (have:=hg.prs;have:=hg.stp;simp only at *;omega) | exact (runV_mac hg.mac k pr).1.sto0 | exact (runV_mac hg.mac k pr).1.buf16 _ | (have:=hg.prs;have:=hg.stp;have h1q:=of_decide_eq_false h1;rw [snoc_len];simp only at *;omega) | omega)) [0,1,2,3,4,14,15] ?_ [8] [∀ (i:Nat),i<1→i≠0→((fun _=>TC.any):Nat→TC)=fun _=>TC.any] (fun _ _ _=>rfl)
     refine tz [61,5,6,4,0,1] ?_
     refine tCond (!decide (recE (steps++[Stp.mk (1:Int) k])=(0:Int))) (fun h5=>?_) (fun h5=>?_)
     ·rw [one_many (g:=Gs.mk vs mem pr steps) h1 h2 h4 h5]
      rw [recL_full' (s:=Stp.mk 2 k) h5]
      exact tRet [0,1,2,3,4,5,6,7,8,9,11,16]
     ·rw [one_drain (g:=Gs.mk vs mem pr steps) h1 h2 h4 h5]
      rw [recL_room' (s:=Stp.mk 2 k) h5]
      refine tz [5,6,4,0,1] ?_
      refine tCall e_vm_Machine_Drain (c_drain (sh:=sh) (lk:=lk) (bu:=bu) (cs:=cs) (vs:=(runV bu cs k vs mem pr).vs) (mem:=(runV bu cs k vs mem pr).mem) (pr:=(runV bu cs k vs mem pr).pr) (k:=k) (hm:=by first | assumption | exact hg.mac.ins | exact hg.mac.buf16 | exact hg.mac.len | exact hg.mac.pos | exact hg.mac.cod | exact hg.mac.sto0 | exact hg.mac.buf16 _ | (have:=hg.prs;have:=hg.stp;simp only at *;omega) | exact (runV_mac hg.mac k pr).1.sto0 | exact (runV_mac hg.mac k pr).1.buf16 _ | (have:=hg.prs;have:=hg.stp;have h1q:=of_decide_eq_false h1;rw [snoc_len];simp only at *;omega) | omega) (hb:=by first | assumption | exact hg.mac.ins | exact hg.mac.buf16 | exact hg.mac.len | exact hg.mac.pos | exact hg.mac.cod | exact hg.mac.sto0 | exact hg.mac.buf16 _ | (have:=hg.prs;have:=hg.stp;simp only at *;omega) | exact (runV_mac hg.mac k pr).1.sto0 | exact (runV_mac hg.mac k pr).1.buf16 _ | (have:=hg.prs;have:=hg.stp;have h1q:=of_decide_eq_false h1;rw [snoc_len];simp only at *;omega) | omega)) [4,5,6,7,11] ?_
      exact tRet [0,1,2,3,4,5,6,7,8,9,11,16]
end Go.Proofs.Ytmjjikcappbkeaa
end
noncomputable section
namespace Go.Proofs.Ytmjjikcappbkeaa
open Go Go.Tx
def L54_0_I (sh:Int) (lk:Int) (bu:Int) (most:Int) (cs:List Cor) (vs:List VCo) (mem:List Int) (pr:List Prt) (steps:List Stp) (cl:List Cls) (k:Int):Int×Int×List VCo×List Int×List Prt×List Stp→St:=fun x=>{ N:=53,fr:=[{ slot:=7,g:=[],sv:=SV.c (C.i .i64 x.1) },{ slot:=6,g:=[],sv:=SV.c (C.i .i64 x.2.1) },{ slot:=0,g:=[],sv:=SV.c (C.p 0 0) },{ slot:=1,g:=[],sv:=SV.c (C.i .i64 k) },{ slot:=2,g:=[],sv:=SV.c (C.fn 56 true [0]) }],rg:=[Reg.box 118 [C.h 1,C.i .i64 sh,C.i .i64 lk,C.i .i64 bu,C.h 2,C.h 3,C.p 4 0,C.i .i64 most,C.h 11],Reg.dead,Reg.dead,Reg.row 3 cl.length (fun i=>(cl.getD i default).tc) none,Reg.box 138 [C.v (Value.slice none 0 0),C.i .i64 sh,C.i .i64 lk,C.i .i64 bu,C.h 5,C.h 6,C.h 7,C.h 10],Reg.row 2 cs.length (fun i=>(cs.getD i default).tc) none,VCo.ownR (x.2.2.1),WordOwn (x.2.2.2.1),Reg.dead,Reg.dead]++[Prt.ownR x.2.2.2.2.1]++[Stp.ownR x.2.2.2.2.2],wr:=[] }
def L54_0_J (sh:Int) (lk:Int) (bu:Int) (most:Int) (cs:List Cor) (vs:List VCo) (mem:List Int) (pr:List Prt) (steps:List Stp) (cl:List Cls) (k:Int):Int×Int×List VCo×List Int×List Prt×List Stp→Prop:=fun x=>0≤x.1∧x.1≤most∧GsOk bu cs (Gs.mk x.2.2.1 x.2.2.2.1 x.2.2.2.2.1 x.2.2.2.2.2)∧(untilV (visB sh lk cl) sh lk bu cs k most.toNat (Gs.mk vs mem pr steps))=untilV (visB sh lk cl) sh lk bu cs k (most-x.1).toNat (Gs.mk x.2.2.1 x.2.2.2.1 x.2.2.2.2.1 x.2.2.2.2.2)
def L54_0_m (sh:Int) (lk:Int) (bu:Int) (most:Int) (cs:List Cor) (vs:List VCo) (mem:List Int) (pr:List Prt) (steps:List Stp) (cl:List Cls) (k:Int):Int×Int×List VCo×List Int×List Prt×List Stp→Nat:=fun x=>(most-x.1).toNat
def L54_0 (sh:Int) (lk:Int) (bu:Int) (most:Int) (cs:List Cor) (vs:List VCo) (mem:List Int) (pr:List Prt) (steps:List Stp) (cl:List Cls) (k:Int):Lp (Int×Int×List VCo×List Int×List Prt×List Stp):=⟨L54_0_I sh lk bu most cs vs mem pr steps cl k,L54_0_J sh lk bu most cs vs mem pr steps cl k,L54_0_m sh lk bu most cs vs mem pr steps cl k⟩
abbrev z53_1:=[0,1,2,3,4,5,6,7,8,9,14,15]
theorem c_until_vis (sh lk bu most:Int) (cs:List Cor) (vs:List VCo) (mem:List Int) (pr:List Prt) (steps:List Stp) (cl:List Cls) (k:Int) (hsl:0≤sh∧sh≤64∧0≤lk∧lk≤16) (hg:GsOk bu cs ⟨vs,mem,pr,steps⟩) (hc:(cl.length:Int)=sh) (hm:1≤most∧most≤1048576):Ctr Try.prog 54 [Reg.box 118 (goC sh lk bu most 1 2 3 4 9),.dead,.dead,Cls.rowR cl,Reg.box 138 (vmC sh lk bu 5 6 7 8),Cor.rowR cs,VCo.ownR vs,WordOwn mem,Prt.ownR pr,Stp.ownR steps] [.c (.p 0 0),.c (.i .i64 k),.c (.fn 56 true [0])]
 (Det (.c (.i .i64 (untilV (visB sh lk cl) sh lk bu cs k most.toNat (Gs.mk vs mem pr steps)).err)) [Reg.box 118 (goC sh lk bu most 1 2 3 4 11),.dead,.dead,.dead,Reg.box 138 (vmC sh lk bu 5 6 7 10),.dead,VCo.ownR (untilV (visB sh lk cl) sh lk bu cs k most.toNat (Gs.mk vs mem pr steps)).g.vs,WordOwn (untilV (visB sh lk cl) sh lk bu cs k most.toNat (Gs.mk vs mem pr steps)).g.mem,.dead,.dead,Prt.ownR (untilV (visB sh lk cl) sh lk bu cs k most.toNat (Gs.mk vs mem pr steps)).g.pr,Stp.ownR (untilV (visB sh lk cl) sh lk bu cs k most.toNat (Gs.mk vs mem pr steps)).g.steps]):=by
 refine Ctr.intro [] Try.func54 K K ?_
 refine tLoop (L54_0 sh lk bu most cs vs mem pr steps cl k) (((0:Int),(0:Int),vs,mem,pr,steps)) ⟨by omega,by omega,hg,by rw [show most-0=most by omega]⟩ ?_ [0,1,2,3,4,5,6,7,8,9,8,9]
 rintro ⟨x1_0,x1_1,x1_2,x1_3,x1_4,x1_5⟩ hJ1
 dsimp only [L54_0,L54_0_J] at hJ1
 refine tz [7,6,0,1,2] ?_
 refine tCall e_vm_Machine_View (c_view (sh:=sh) (lk:=lk) (bu:=bu) (cs:=cs) (vs:=x1_2) (mem:=x1_3) (pr:=x1_4) (k:=k) (hb:=by first | assumption | exact hJ1.2.2.1 | exact hJ1.2.2.1.mac.buf16 | exact hJ1.2.2.1.mac.regs | exact (oneV_ok hJ1.2.2.1).2 | omega) (hg:=by first | assumption | exact hJ1.2.2.1 | exact hJ1.2.2.1.mac.buf16 | exact hJ1.2.2.1.mac.regs | exact (oneV_ok hJ1.2.2.1).2 | omega)) [4,5,6,7,10] ?_
 refine tz [20,7,6,0,1,2] ?_
 refine tCond (!decide (vmHas x1_2.length k=(0:Int))||(viewV x1_2 k).halted) (fun h2=>?_) (fun h2=>?_)
 ·rw [until_stop hJ1.2.2.2 h2]
  exact tRet
 ·refine tz [7,6,0,1,2] ?_
  refine tCond (decide (x1_0=most)) (fun h3=>?_) (fun h3=>?_)
  ·rw [until_many hJ1.2.2.2 h2 h3]
   exact tRet
  ·refine tz [7,6,0,1,2] ?_
   refine tCall e_realise_going_one (c_g_one (sh:=sh) (lk:=lk) (bu:=bu) (most:=most) (cs:=cs) (vs:=x1_2) (mem:=x1_3) (pr:=x1_4) (steps:=x1_5) (k:=k) (hsl:=by first | assumption | exact hJ1.2.2.1 | exact hJ1.2.2.1.mac.buf16 | exact hJ1.2.2.1.mac.regs | exact (oneV_ok hJ1.2.2.1).2 | omega) (hg:=by first | assumption | exact hJ1.2.2.1 | exact hJ1.2.2.1.mac.buf16 | exact hJ1.2.2.1.mac.regs | exact (oneV_ok hJ1.2.2.1).2 | omega)) [0,1,2,3,4,5,6,7,10,11] ?_
   refine tz [38,7,6,0,1,2] ?_
   refine tCond (!decide ((oneV sh lk bu cs k (Gs.mk x1_2 x1_3 x1_4 x1_5)).err=(0:Int))) (fun h4=>?_) (fun h4=>?_)
   ·rw [until_err hJ1.2.2.2 h2 h3 hJ1.2.1 h4]
    exact tRet z53_1
   ·refine tz [10,7,6,0,1,2] ?_
    refine tCall e_realise_going_visible (c_visible (sh:=sh) (lk:=lk) (bu:=bu) (most:=most) (cl:=cl) (d:=(oneV sh lk bu cs k (Gs.mk x1_2 x1_3 x1_4 x1_5)).did) (ha:=by first | assumption | exact hJ1.2.2.1 | exact hJ1.2.2.1.mac.buf16 | exact hJ1.2.2.1.mac.regs | exact (oneV_ok hJ1.2.2.1).2 | omega) (hc:=by first | assumption | exact hJ1.2.2.1 | exact hJ1.2.2.1.mac.buf16 | exact hJ1.2.2.1.mac.regs | exact (oneV_ok hJ1.2.2.1).2 | omega) (hsl:=by first | assumption | exact hJ1.2.2.1 | exact hJ1.2.2.1.mac.buf16 | exact hJ1.2.2.1.mac.regs | exact (oneV_ok hJ1.2.2.1).2 | omega)) [0,1,2,3,4,15] ?_
    refine tz [48,10,7,6,0,1,2] ?_
    refine tCond (visB sh lk cl (oneV sh lk bu cs k (Gs.mk x1_2 x1_3 x1_4 x1_5)).did) (fun h5=>?_) (fun h5=>?_)
    ·rw [until_done hJ1.2.2.2 h2 h3 hJ1.2.1 h4 h5]
     exact tRet z53_1
    ·refine tz [10,7,6,0,1,2] ?_
     refine tCond (decide ((oneV sh lk bu cs k (Gs.mk x1_2 x1_3 x1_4 x1_5)).did.kind=(7:Int))) (fun h6=>?_) (fun h6=>?_)
     ·rw [until_halt hJ1.2.2.2 h2 h3 hJ1.2.1 h4 h5 h6]
      exact tRet z53_1
     ·exact tNext (L54_0 sh lk bu most cs vs mem pr steps cl k) (x1_0,x1_1,x1_2,x1_3,x1_4,x1_5) ((x1_0+(1:Int),x1_1,(oneV sh lk bu cs k (Gs.mk x1_2 x1_3 x1_4 x1_5)).g.vs,(oneV sh lk bu cs k (Gs.mk x1_2 x1_3 x1_4 x1_5)).g.mem,(oneV sh lk bu cs k (Gs.mk x1_2 x1_3 x1_4 x1_5)).g.pr,(oneV sh lk bu cs k (Gs.mk x1_2 x1_3 x1_4 x1_5)).g.steps)) (by have:=of_decide_eq_false h3;have:=hJ1.2.1;show (most-(x1_0+1)).toNat<(most-x1_0).toNat;omega) ⟨by omega,by have:=of_decide_eq_false h3;omega,(oneV_ok hJ1.2.2.1).1,until_next hJ1.2.2.2 h2 h3 hJ1.2.1 h4 h5 h6⟩ z53_1 (vc:=[Fits IntKind.i64 (x1_0+(1:Int))]) (hv:=(by simp only [Conj,Fits,i64_min,i64_max,u8_min,u8_max,News.len,maxLen]<;>(repeat' (first | apply And.intro | intro _))<;>first | grind | (simp only [BL] at *;omega)))
end Go.Proofs.Ytmjjikcappbkeaa
end
noncomputable section
namespace Go.Proofs.Ytmjjikcappbkeaa
open Go Go.Tx
def L37_0_I (sh:Int) (lk:Int) (bu:Int) (most:Int) (cs:List Cor) (vs:List VCo) (mem:List Int) (pr:List Prt) (steps:List Stp) (cl:List Cls) (order:List Int):Int×Int×List VCo×List Int×List Prt×List Stp→St:=fun x=>{ N:=23,fr:=[{ slot:=10,g:=[],sv:=SV.c (C.i .i64 x.1) },{ slot:=9,g:=[],sv:=SV.c (C.i .i64 (↑order.length:Int)) },{ slot:=8,g:=[],sv:=SV.c (C.h 10) },{ slot:=4,g:=[],sv:=SV.c (C.i .i64 x.2.1) },{ slot:=0,g:=[],sv:=SV.c (C.p 0 0) }],rg:=[Reg.box 118 [C.h 1,C.i .i64 sh,C.i .i64 lk,C.i .i64 bu,C.h 2,C.h 3,C.p 4 0,C.i .i64 most,C.h 12],Reg.dead,Reg.dead,Reg.row 3 cl.length (fun i=>(cl.getD i default).tc) none,Reg.box 138 [C.v (Value.slice none 0 0),C.i .i64 sh,C.i .i64 lk,C.i .i64 bu,C.h 5,C.h 6,C.h 7,C.h 11],Reg.row 2 cs.length (fun i=>(cs.getD i default).tc) none,VCo.ownR (x.2.2.1),WordOwn (x.2.2.2.1),Reg.dead,Reg.dead,Reg.row 1 order.length (fun i=>i64T (order.getD i (0:Int))) none]++[Prt.ownR x.2.2.2.2.1]++[Stp.ownR x.2.2.2.2.2],wr:=[] }
def L37_0_J (sh:Int) (lk:Int) (bu:Int) (most:Int) (cs:List Cor) (vs:List VCo) (mem:List Int) (pr:List Prt) (steps:List Stp) (cl:List Cls) (order:List Int):Int×Int×List VCo×List Int×List Prt×List Stp→Prop:=fun x=>0≤x.1∧x.1≤(order.length:Int)∧GsOk bu cs (Gs.mk x.2.2.1 x.2.2.2.1 x.2.2.2.2.1 x.2.2.2.2.2)∧(followV sh lk bu most cl cs order (Gs.mk vs mem pr steps))=followV sh lk bu most cl cs (order.drop x.1.toNat) (Gs.mk x.2.2.1 x.2.2.2.1 x.2.2.2.2.1 x.2.2.2.2.2)
def L37_0_m (sh:Int) (lk:Int) (bu:Int) (most:Int) (cs:List Cor) (vs:List VCo) (mem:List Int) (pr:List Prt) (steps:List Stp) (cl:List Cls) (order:List Int):Int×Int×List VCo×List Int×List Prt×List Stp→Nat:=fun x=>((order.length:Int)-x.1).toNat
def L37_0 (sh:Int) (lk:Int) (bu:Int) (most:Int) (cs:List Cor) (vs:List VCo) (mem:List Int) (pr:List Prt) (steps:List Stp) (cl:List Cls) (order:List Int):Lp (Int×Int×List VCo×List Int×List Prt×List Stp):=⟨L37_0_I sh lk bu most cs vs mem pr steps cl order,L37_0_J sh lk bu most cs vs mem pr steps cl order,L37_0_m sh lk bu most cs vs mem pr steps cl order⟩
theorem c_follow (sh lk bu most:Int) (cs:List Cor) (vs:List VCo) (mem:List Int) (pr:List Prt) (steps:List Stp) (cl:List Cls) (order:List Int) (hsl:0≤sh∧sh≤64∧0≤lk∧lk≤16) (hg:GsOk bu cs ⟨vs,mem,pr,steps⟩) (hc:(cl.length:Int)=sh) (hm:1≤most∧most≤1048576):Ctr Try.prog 37 [Reg.box 118 (goC sh lk bu most 1 2 3 4 9),.dead,.dead,Cls.rowR cl,Reg.box 138 (vmC sh lk bu 5 6 7 8),Cor.rowR cs,VCo.ownR vs,WordOwn mem,Prt.ownR pr,Stp.ownR steps,IntRow order] [.c (.p 0 0),.c (.h 10)]
 (Det (.c (.i .i64 (followV sh lk bu most cl cs order (Gs.mk vs mem pr steps)).err)) [Reg.box 118 (goC sh lk bu most 1 2 3 4 12),.dead,.dead,.dead,Reg.box 138 (vmC sh lk bu 5 6 7 11),.dead,VCo.ownR (followV sh lk bu most cl cs order (Gs.mk vs mem pr steps)).g.vs,WordOwn (followV sh lk bu most cl cs order (Gs.mk vs mem pr steps)).g.mem,.dead,.dead,.dead,Prt.ownR (followV sh lk bu most cl cs order (Gs.mk vs mem pr steps)).g.pr,Stp.ownR (followV sh lk bu most cl cs order (Gs.mk vs mem pr steps)).g.steps]):=by
 refine Ctr.intro [] Try.func37 K K ?_
 refine RunF.lens 10 (m:=order.length) K (fun hlens_10=>?_)
 refine tLoop (L37_0 sh lk bu most cs vs mem pr steps cl order) (((0:Int),(0:Int),vs,mem,pr,steps)) ⟨by omega,by omega,hg,rfl⟩ ?_ [0,1,2,3,4,5,6,7,8,9,10,8,9]
 rintro ⟨x1_0,x1_1,x1_2,x1_3,x1_4,x1_5⟩ hJ1
 dsimp only [L37_0,L37_0_J] at hJ1
 refine tz [10,9,8,4,0] ?_
 refine tCond (decide (x1_0<(↑order.length:Int))) (fun h2=>?_) (fun h2=>?_)
 ·refine tz [10,9,8,4,0] ?_
  refine tCall e_realise_going_until (c_until_vis (sh:=sh) (lk:=lk) (bu:=bu) (most:=most) (cs:=cs) (vs:=x1_2) (mem:=x1_3) (pr:=x1_4) (steps:=x1_5) (cl:=cl) (k:=order.getD x1_0.toNat (0:Int)) (hsl:=by first | assumption | exact hJ1.2.2.1 | omega) (hg:=by first | assumption | exact hJ1.2.2.1 | omega) (hc:=by first | assumption | exact hJ1.2.2.1 | omega) (hm:=by first | assumption | exact hJ1.2.2.1 | omega)) [0,1,2,3,4,5,6,7,11,12] ?_ (vc:=[(0:Int)≤x1_0,x1_0<(↑order.length:Int),x1_0.toNat<order.length]) (hv:=(by simp only [Conj,Fits,i64_min,i64_max,u8_min,u8_max,News.len,maxLen]<;>(repeat' (first | apply And.intro | intro _))<;>first | grind | (simp only [BL] at *;omega)))
  refine tz [18,10,9,8,4,0] ?_
  refine tCond (!decide ((untilV (visB sh lk cl) sh lk bu cs (order.getD x1_0.toNat (0:Int)) most.toNat (Gs.mk x1_2 x1_3 x1_4 x1_5)).err=(0:Int))) (fun h3=>?_) (fun h3=>?_)
  ·rw [follow_err hJ1.2.2.2 hJ1.1 h2 h3]
   exact tRet [0,1,2,3,4,5,6,7,8,9,10,13,14]
  ·exact tNext (L37_0 sh lk bu most cs vs mem pr steps cl order) (x1_0,x1_1,x1_2,x1_3,x1_4,x1_5) ((x1_0+(1:Int),x1_1,(untilV (visB sh lk cl) sh lk bu cs (order.getD x1_0.toNat (0:Int)) most.toNat (Gs.mk x1_2 x1_3 x1_4 x1_5)).g.vs,(untilV (visB sh lk cl) sh lk bu cs (order.getD x1_0.toNat (0:Int)) most.toNat (Gs.mk x1_2 x1_3 x1_4 x1_5)).g.mem,(untilV (visB sh lk cl) sh lk bu cs (order.getD x1_0.toNat (0:Int)) most.toNat (Gs.mk x1_2 x1_3 x1_4 x1_5)).g.pr,(untilV (visB sh lk cl) sh lk bu cs (order.getD x1_0.toNat (0:Int)) most.toNat (Gs.mk x1_2 x1_3 x1_4 x1_5)).g.steps)) (by dsimp only [L37_0,L37_0_m];(try simp only [decide_eq_true_eq] at *);omega) ⟨by omega,by have:=of_decide_eq_true h2;omega,untilV_ok hJ1.2.2.1,follow_next hJ1.2.2.2 hJ1.1 h2 h3⟩ [0,1,2,3,4,5,6,7,8,9,10,13,14] (vc:=[Fits IntKind.i64 (x1_0+(1:Int))]) (hv:=(by simp only [Conj,Fits,i64_min,i64_max,u8_min,u8_max,News.len,maxLen]<;>(repeat' (first | apply And.intro | intro _))<;>first | grind | (simp only [BL] at *;omega)))
 ·rw [follow_end hJ1.2.2.2 h2]
  exact tRet
theorem c_steps_y (mem:List Int) (sh lk bu:Int) (cs:List Cor) (hw:∀ a b:Nat,insK ((cs.getD a default).code.getD b default)) (cl:List Cls) (order:List Int) (most:Int) (hsel:begE mem sh lk bu cs cl most=0):Ctr Try.prog 15 [WordRow mem,Cor.rowR cs,Cls.rowR cl,IntRow order] [.agg [.h 0,.i .i64 sh,.i .i64 lk,.i .i64 bu,.h 1],.c (.h 2),.c (.h 3),.c (.i .i64 most)]
 (Det (.tup [(false,[.h 4]),(false,[.i .i64 (stepsE mem sh lk bu cs cl order most)])]) [.dead,.dead,.dead,.dead,Stp.ownR (stepsL mem sh lk bu cs cl order most)]):=by
 have hb:=beg_chk hsel
 have hco:=chk_ok hb.1
 refine Ctr.intro [] Try.func15 K K ?_
 refine tCall e_realise_begun (c_begun_ok (mem:=mem) (sh:=sh) (lk:=lk) (bu:=bu) (cs:=cs) (hw:=by first | assumption | omega | exact hb.2.1 | exact hb.2.2 | exact g0_ok hb.1) (cl:=cl) (most:=most) (hsel:=by first | assumption | omega | exact hb.2.1 | exact hb.2.2 | exact g0_ok hb.1)) [] ?_
 refine tz [17,9,8,2] ?_
 refine tCond (!decide ((0:Int)=(0:Int))) (fun h1=>?_) (fun h1=>?_)
 ·exact absurd h1 (by first | decide | simp)
 ·refine tz [10,9,8,2] ?_
  refine tCall e_realise_going_follow (c_follow (sh:=sh) (lk:=lk) (bu:=bu) (most:=most) (cs:=cs) (vs:=newVs cs.length) (mem:=mem) (pr:=[]) (steps:=[]) (cl:=cl) (order:=order) (hsl:=by first | assumption | omega | exact hb.2.1 | exact hb.2.2 | exact g0_ok hb.1) (hg:=by first | assumption | omega | exact hb.2.1 | exact hb.2.2 | exact g0_ok hb.1) (hc:=by first | assumption | omega | exact hb.2.1 | exact hb.2.2 | exact g0_ok hb.1) (hm:=by first | assumption | omega | exact hb.2.1 | exact hb.2.2 | exact g0_ok hb.1)) [5,0,1,2,6,7,8,9,10,11,3] ?_ [16,18] [(0:Nat)=0,(0:Nat)=0] (by (try simp only [Conj])<;>(repeat' apply And.intro)<;>first | done | trivial | rfl | (intros;first | rfl | trivial) | exact snoc_len _ _ | exact List.length_set | exact set_ints _ _ _ | exact take_row _ _ _ _ _ | (exact take_len _ _ _ (by first | omega | (have h0:=askE_ok (by simpa using h1);have hm:=evE_mem h0.1;have hs:=evE_ok h0.1;omega))) | exact MpEq.put (by omega) | (refine MpEq.mk' (by omega) ?_ ?_<;>intro q<;>first | rfl | (dsimp only;split<;>simp_all)) | (exact MpEq.mkIt (by omega) (fun _=>rfl) (fun _=>rfl) rfl rfl (fun _=>rfl)) | (intro i h1 h2;rw [snoc_lo h1 h2]) | (rw [getD_snoc];rfl))
  refine tz [25,10,9,8] ?_
  refine tCond (!decide ((followV sh lk bu most cl cs order (Gs.mk (newVs cs.length) mem [] [])).err=(0:Int))) (fun h2=>?_) (fun h2=>?_)
  ·rw [steps_errL (order:=order) hsel h2]
   rw [steps_yE (order:=order) hsel]
   exact tRet [0,1,2,3,1000004] [0,1] [(0:Nat)=0,(followV sh lk bu most cl cs order (g0 mem cs)).err=(followV sh lk bu most cl cs order (Gs.mk (newVs cs.length) mem [] [])).err] (by simp only [Conj];(repeat' apply And.intro)<;>first | trivial | rfl | (intros;rfl))
  ·rw [steps_okL (order:=order) hsel h2]
   rw [steps_okE (order:=order) hsel h2]
   exact tRet [0,1,2,3,13] [0,1] [(followV sh lk bu most cl cs order (g0 mem cs)).g.steps.length=(followV sh lk bu most cl cs order (Gs.mk (newVs cs.length) mem [] [])).g.steps.length,∀ (i:Nat),i<(followV sh lk bu most cl cs order (g0 mem cs)).g.steps.length→((followV sh lk bu most cl cs order (g0 mem cs)).g.steps.getD i default).tc=((followV sh lk bu most cl cs order (Gs.mk (newVs cs.length) mem [] [])).g.steps.getD i default).tc] (by simp only [Conj];(repeat' apply And.intro)<;>first | trivial | rfl | (intros;rfl))
theorem c_steps_n (mem:List Int) (sh lk bu:Int) (cs:List Cor) (hw:∀ a b:Nat,insK ((cs.getD a default).code.getD b default)) (cl:List Cls) (order:List Int) (most:Int) (hsel:¬ begE mem sh lk bu cs cl most=0):Ctr Try.prog 15 [WordRow mem,Cor.rowR cs,Cls.rowR cl,IntRow order] [.agg [.h 0,.i .i64 sh,.i .i64 lk,.i .i64 bu,.h 1],.c (.h 2),.c (.h 3),.c (.i .i64 most)]
 (Det (.tup [(false,[.h 4]),(false,[.i .i64 (stepsE mem sh lk bu cs cl order most)])]) [.dead,.dead,.dead,.dead,Stp.ownR (stepsL mem sh lk bu cs cl order most)]):=by
 refine Ctr.intro [] Try.func15 K K ?_
 refine tCall e_realise_begun (c_begun_no (mem:=mem) (sh:=sh) (lk:=lk) (bu:=bu) (cs:=cs) (hw:=by first | assumption | omega) (cl:=cl) (most:=most) (hsel:=by first | assumption | omega)) [] ?_
 refine tz [17,9,8,2] ?_
 refine tCond (!decide (begE mem sh lk bu cs cl most=(0:Int))) (fun h1=>?_) (fun h1=>?_)
 ·rw [steps_noL (order:=order) hsel]
  rw [steps_noE (order:=order) hsel]
  exact tRet [0,1,2,3,1000004] [0] [(0:Nat)=0] (by simp only [Conj] at *<;>grind)
 ·exact (show False from by exact hsel (by simpa using h1)).elim
theorem c_steps (mem:List Int) (sh lk bu:Int) (cs:List Cor) (hw:∀ a b:Nat,insK ((cs.getD a default).code.getD b default)) (cl:List Cls) (order:List Int) (most:Int):Ctr Try.prog 15 [WordRow mem,Cor.rowR cs,Cls.rowR cl,IntRow order] [.agg [.h 0,.i .i64 sh,.i .i64 lk,.i .i64 bu,.h 1],.c (.h 2),.c (.h 3),.c (.i .i64 most)]
 (Det (.tup [(false,[.h 4]),(false,[.i .i64 (stepsE mem sh lk bu cs cl order most)])]) [.dead,.dead,.dead,.dead,Stp.ownR (stepsL mem sh lk bu cs cl order most)]):=by
 by_cases hsel:begE mem sh lk bu cs cl most=0
 ·exact c_steps_y mem sh lk bu cs hw cl order most hsel
 ·exact c_steps_n mem sh lk bu cs hw cl order most hsel
end Go.Proofs.Ytmjjikcappbkeaa
end
noncomputable section
namespace Go.Proofs.Ytmjjikcappbkeaa
open Go Go.Tx
theorem c_haltB (d:Did):Ctr Try.prog 55 [] [.agg d.cs]
 (Det (.c (.b (haltB d))) []):=by
 refine Ctr.intro [] Try.func55 K K ?_
 exact tRet [] [0] [haltB d=decide (d.kind=(7:Int))] (by simp only [Conj,haltB] at *<;>grind)
def L54_10_I (sh:Int) (lk:Int) (bu:Int) (most:Int) (cs:List Cor) (vs:List VCo) (mem:List Int) (pr:List Prt) (steps:List Stp) (k:Int):Int×Int×List VCo×List Int×List Prt×List Stp→St:=fun x=>{ N:=53,fr:=[{ slot:=7,g:=[],sv:=SV.c (C.i .i64 x.1) },{ slot:=6,g:=[],sv:=SV.c (C.i .i64 x.2.1) },{ slot:=0,g:=[],sv:=SV.c (C.p 0 0) },{ slot:=1,g:=[],sv:=SV.c (C.i .i64 k) },{ slot:=2,g:=[],sv:=SV.c (C.fn 55 false []) }],rg:=[Reg.box 118 [C.h 1,C.i .i64 sh,C.i .i64 lk,C.i .i64 bu,C.h 2,C.h 3,C.p 4 0,C.i .i64 most,C.h 11],Reg.dead,Reg.dead,Reg.dead,Reg.box 138 [C.v (Value.slice none 0 0),C.i .i64 sh,C.i .i64 lk,C.i .i64 bu,C.h 5,C.h 6,C.h 7,C.h 10],Reg.row 2 cs.length (fun i=>(cs.getD i default).tc) none,VCo.ownR (x.2.2.1),WordOwn (x.2.2.2.1),Reg.dead,Reg.dead]++[Prt.ownR x.2.2.2.2.1]++[Stp.ownR x.2.2.2.2.2],wr:=[] }
def L54_10_J (sh:Int) (lk:Int) (bu:Int) (most:Int) (cs:List Cor) (vs:List VCo) (mem:List Int) (pr:List Prt) (steps:List Stp) (k:Int):Int×Int×List VCo×List Int×List Prt×List Stp→Prop:=fun x=>0≤x.1∧x.1≤most∧GsOk bu cs (Gs.mk x.2.2.1 x.2.2.2.1 x.2.2.2.2.1 x.2.2.2.2.2)∧(untilV haltB sh lk bu cs k most.toNat (Gs.mk vs mem pr steps))=untilV haltB sh lk bu cs k (most-x.1).toNat (Gs.mk x.2.2.1 x.2.2.2.1 x.2.2.2.2.1 x.2.2.2.2.2)
def L54_10_m (sh:Int) (lk:Int) (bu:Int) (most:Int) (cs:List Cor) (vs:List VCo) (mem:List Int) (pr:List Prt) (steps:List Stp) (k:Int):Int×Int×List VCo×List Int×List Prt×List Stp→Nat:=fun x=>(most-x.1).toNat
def L54_10 (sh:Int) (lk:Int) (bu:Int) (most:Int) (cs:List Cor) (vs:List VCo) (mem:List Int) (pr:List Prt) (steps:List Stp) (k:Int):Lp (Int×Int×List VCo×List Int×List Prt×List Stp):=⟨L54_10_I sh lk bu most cs vs mem pr steps k,L54_10_J sh lk bu most cs vs mem pr steps k,L54_10_m sh lk bu most cs vs mem pr steps k⟩
abbrev z59_1:=[0,1,2,3,4,5,6,7,8,9,14,15]
theorem c_until_halt (sh lk bu most:Int) (cs:List Cor) (vs:List VCo) (mem:List Int) (pr:List Prt) (steps:List Stp) (k:Int) (hsl:0≤sh∧sh≤64∧0≤lk∧lk≤16) (hg:GsOk bu cs ⟨vs,mem,pr,steps⟩) (hm:1≤most∧most≤1048576):Ctr Try.prog 54 [Reg.box 118 (goC sh lk bu most 1 2 3 4 9),.dead,.dead,.dead,Reg.box 138 (vmC sh lk bu 5 6 7 8),Cor.rowR cs,VCo.ownR vs,WordOwn mem,Prt.ownR pr,Stp.ownR steps] [.c (.p 0 0),.c (.i .i64 k),.c (.fn 55 false [])]
 (Det (.c (.i .i64 (untilV haltB sh lk bu cs k most.toNat (Gs.mk vs mem pr steps)).err)) [Reg.box 118 (goC sh lk bu most 1 2 3 4 11),.dead,.dead,.dead,Reg.box 138 (vmC sh lk bu 5 6 7 10),.dead,VCo.ownR (untilV haltB sh lk bu cs k most.toNat (Gs.mk vs mem pr steps)).g.vs,WordOwn (untilV haltB sh lk bu cs k most.toNat (Gs.mk vs mem pr steps)).g.mem,.dead,.dead,Prt.ownR (untilV haltB sh lk bu cs k most.toNat (Gs.mk vs mem pr steps)).g.pr,Stp.ownR (untilV haltB sh lk bu cs k most.toNat (Gs.mk vs mem pr steps)).g.steps]):=by
 refine Ctr.intro [] Try.func54 K K ?_
 refine tLoop (L54_10 sh lk bu most cs vs mem pr steps k) (((0:Int),(0:Int),vs,mem,pr,steps)) ⟨by omega,by omega,hg,by rw [show most-0=most by omega]⟩ ?_ [0,1,2,3,4,5,6,7,8,9,8,9]
 rintro ⟨x1_0,x1_1,x1_2,x1_3,x1_4,x1_5⟩ hJ1
 dsimp only [L54_10,L54_10_J] at hJ1
 refine tz [7,6,0,1,2] ?_
 refine tCall e_vm_Machine_View (c_view (sh:=sh) (lk:=lk) (bu:=bu) (cs:=cs) (vs:=x1_2) (mem:=x1_3) (pr:=x1_4) (k:=k) (hb:=by first | assumption | exact hJ1.2.2.1 | exact hJ1.2.2.1.mac.buf16 | exact hJ1.2.2.1.mac.regs | exact (oneV_ok hJ1.2.2.1).2 | omega) (hg:=by first | assumption | exact hJ1.2.2.1 | exact hJ1.2.2.1.mac.buf16 | exact hJ1.2.2.1.mac.regs | exact (oneV_ok hJ1.2.2.1).2 | omega)) [4,5,6,7,10] ?_
 refine tz [20,7,6,0,1,2] ?_
 refine tCond (!decide (vmHas x1_2.length k=(0:Int))||(viewV x1_2 k).halted) (fun h2=>?_) (fun h2=>?_)
 ·rw [until_stop hJ1.2.2.2 h2]
  exact tRet
 ·refine tz [7,6,0,1,2] ?_
  refine tCond (decide (x1_0=most)) (fun h3=>?_) (fun h3=>?_)
  ·rw [until_many hJ1.2.2.2 h2 h3]
   exact tRet
  ·refine tz [7,6,0,1,2] ?_
   refine tCall e_realise_going_one (c_g_one (sh:=sh) (lk:=lk) (bu:=bu) (most:=most) (cs:=cs) (vs:=x1_2) (mem:=x1_3) (pr:=x1_4) (steps:=x1_5) (k:=k) (hsl:=by first | assumption | exact hJ1.2.2.1 | exact hJ1.2.2.1.mac.buf16 | exact hJ1.2.2.1.mac.regs | exact (oneV_ok hJ1.2.2.1).2 | omega) (hg:=by first | assumption | exact hJ1.2.2.1 | exact hJ1.2.2.1.mac.buf16 | exact hJ1.2.2.1.mac.regs | exact (oneV_ok hJ1.2.2.1).2 | omega)) [0,1,2,3,4,5,6,7,10,11] ?_
   refine tz [38,7,6,0,1,2] ?_
   refine tCond (!decide ((oneV sh lk bu cs k (Gs.mk x1_2 x1_3 x1_4 x1_5)).err=(0:Int))) (fun h4=>?_) (fun h4=>?_)
   ·rw [until_err hJ1.2.2.2 h2 h3 hJ1.2.1 h4]
    exact tRet z59_1
   ·refine tz [10,7,6,0,1,2] ?_
    refine tCall e_realise_Ends_1 (c_haltB (d:=(oneV sh lk bu cs k (Gs.mk x1_2 x1_3 x1_4 x1_5)).did)) [] ?_
    refine tz [48,10,7,6,0,1,2] ?_
    refine tCond (haltB (oneV sh lk bu cs k (Gs.mk x1_2 x1_3 x1_4 x1_5)).did) (fun h5=>?_) (fun h5=>?_)
    ·rw [until_done hJ1.2.2.2 h2 h3 hJ1.2.1 h4 h5]
     exact tRet z59_1
    ·refine tz [10,7,6,0,1,2] ?_
     refine tCond (decide ((oneV sh lk bu cs k (Gs.mk x1_2 x1_3 x1_4 x1_5)).did.kind=(7:Int))) (fun h6=>?_) (fun h6=>?_)
     ·rw [until_halt hJ1.2.2.2 h2 h3 hJ1.2.1 h4 h5 h6]
      exact tRet z59_1
     ·exact tNext (L54_10 sh lk bu most cs vs mem pr steps k) (x1_0,x1_1,x1_2,x1_3,x1_4,x1_5) ((x1_0+(1:Int),x1_1,(oneV sh lk bu cs k (Gs.mk x1_2 x1_3 x1_4 x1_5)).g.vs,(oneV sh lk bu cs k (Gs.mk x1_2 x1_3 x1_4 x1_5)).g.mem,(oneV sh lk bu cs k (Gs.mk x1_2 x1_3 x1_4 x1_5)).g.pr,(oneV sh lk bu cs k (Gs.mk x1_2 x1_3 x1_4 x1_5)).g.steps)) (by have:=of_decide_eq_false h3;have:=hJ1.2.1;show (most-(x1_0+1)).toNat<(most-x1_0).toNat;omega) ⟨by omega,by have:=of_decide_eq_false h3;omega,(oneV_ok hJ1.2.2.1).1,until_next hJ1.2.2.2 h2 h3 hJ1.2.1 h4 h5 h6⟩ z59_1 (vc:=[Fits IntKind.i64 (x1_0+(1:Int))]) (hv:=(by simp only [Conj,Fits,i64_min,i64_max,u8_min,u8_max,News.len,maxLen]<;>(repeat' (first | apply And.intro | intro _))<;>first | grind | (simp only [BL] at *;omega)))
def L34_0_I (mem:List Int) (sh:Int) (lk:Int) (bu:Int) (cs:List Cor) (cl:List Cls) (order:List Int) (most:Int):Int×Int×List VCo×List Int×List Prt×List Stp→St:=fun x=>{ N:=61,fr:=[{ slot:=36,g:=[],sv:=SV.c (C.i .i64 x.1) },{ slot:=35,g:=[],sv:=SV.c (C.i .i64 (↑cs.length:Int)) },{ slot:=10,g:=[],sv:=SV.c (C.p 5 0) },{ slot:=9,g:=[],sv:=SV.c (C.i .i64 x.2.1) },{ slot:=8,g:=[],sv:=SV.c (C.v (Value.slice none 0 0)) }],rg:=[Reg.row 1 mem.length (fun i=>i64T (mem.getD i (0:Int))) none,Reg.row 2 cs.length (fun i=>(cs.getD i default).tc) none,Reg.row 3 cl.length (fun i=>(cl.getD i default).tc) none,Reg.row 1 order.length (fun i=>i64T (order.getD i (0:Int))) none,Reg.box 48 [C.h 0,C.i .i64 sh,C.i .i64 lk,C.i .i64 bu,C.h 1],Reg.box 118 [C.h 0,C.i .i64 sh,C.i .i64 lk,C.i .i64 bu,C.h 1,C.h 2,C.p 6 0,C.i .i64 most,C.h 13],Reg.box 138 [C.v (Value.slice none 0 0),C.i .i64 sh,C.i .i64 lk,C.i .i64 bu,C.h 7,C.h 8,C.h 9,C.h 12],Reg.own 131 2 cs.length (fun i=>(cs.getD i default).tc) none,VCo.ownR (x.2.2.1),WordOwn (x.2.2.2.1),Reg.dead,Reg.dead,Prt.ownR (x.2.2.2.2.1),Stp.ownR (x.2.2.2.2.2)],wr:=[] }
def L34_0_J (mem:List Int) (sh:Int) (lk:Int) (bu:Int) (cs:List Cor) (cl:List Cls) (order:List Int) (most:Int):Int×Int×List VCo×List Int×List Prt×List Stp→Prop:=fun x=>0≤x.1∧x.1≤(cs.length:Int)∧GsOk bu cs (Gs.mk x.2.2.1 x.2.2.2.1 x.2.2.2.2.1 x.2.2.2.2.2)∧endsU mem sh lk bu cs cl order most=endsV sh lk bu most cs ((cs.length:Int)-x.1).toNat x.1 (Gs.mk x.2.2.1 x.2.2.2.1 x.2.2.2.2.1 x.2.2.2.2.2)
def L34_0_m (mem:List Int) (sh:Int) (lk:Int) (bu:Int) (cs:List Cor) (cl:List Cls) (order:List Int) (most:Int):Int×Int×List VCo×List Int×List Prt×List Stp→Nat:=fun x=>((cs.length:Int)-x.1).toNat
def L34_0 (mem:List Int) (sh:Int) (lk:Int) (bu:Int) (cs:List Cor) (cl:List Cls) (order:List Int) (most:Int):Lp (Int×Int×List VCo×List Int×List Prt×List Stp):=⟨L34_0_I mem sh lk bu cs cl order most,L34_0_J mem sh lk bu cs cl order most,L34_0_m mem sh lk bu cs cl order most⟩
theorem c_ends_y (mem:List Int) (sh lk bu:Int) (cs:List Cor) (hw:∀ a b:Nat,insK ((cs.getD a default).code.getD b default)) (cl:List Cls) (order:List Int) (most:Int) (hsel:begE mem sh lk bu cs cl most=0):Ctr Try.prog 34 [WordRow mem,Cor.rowR cs,Cls.rowR cl,IntRow order] [.agg [.h 0,.i .i64 sh,.i .i64 lk,.i .i64 bu,.h 1],.c (.h 2),.c (.h 3),.c (.i .i64 most)]
 (Det (.tup [(false,[.h 4]),(false,[.i .i64 (endsE mem sh lk bu cs cl order most)])]) [.dead,.dead,.dead,.dead,Stp.ownR (endsL mem sh lk bu cs cl order most)]):=by
 have hb:=beg_chk hsel
 have hco:=chk_ok hb.1
 have hcl:=(g0_ok hb.1).mac.cor8
 refine Ctr.intro [] Try.func34 K K ?_
 refine tCall e_realise_begun (c_begun_ok (mem:=mem) (sh:=sh) (lk:=lk) (bu:=bu) (cs:=cs) (hw:=by first | assumption | omega | exact hb.2.1 | exact hb.2.2 | exact g0_ok hb.1 | exact hJ3.2.2.1 | exact hJ3.2.2.1.mac.buf16 | exact hJ3.2.2.1.mac.regs) (cl:=cl) (most:=most) (hsel:=by first | assumption | omega | exact hb.2.1 | exact hb.2.2 | exact g0_ok hb.1 | exact hJ3.2.2.1 | exact hJ3.2.2.1.mac.buf16 | exact hJ3.2.2.1.mac.regs)) [] ?_
 refine tz [21,9,8,4,2] ?_
 refine tCond (!decide ((0:Int)=(0:Int))) (fun h1=>?_) (fun h1=>?_)
 ·exact absurd h1 (by first | decide | simp)
 ·refine tz [10,9,8,4,2] ?_
  refine tCall e_realise_going_follow (c_follow (sh:=sh) (lk:=lk) (bu:=bu) (most:=most) (cs:=cs) (vs:=newVs cs.length) (mem:=mem) (pr:=[]) (steps:=[]) (cl:=cl) (order:=order) (hsl:=by first | assumption | omega | exact hb.2.1 | exact hb.2.2 | exact g0_ok hb.1 | exact hJ3.2.2.1 | exact hJ3.2.2.1.mac.buf16 | exact hJ3.2.2.1.mac.regs) (hg:=by first | assumption | omega | exact hb.2.1 | exact hb.2.2 | exact g0_ok hb.1 | exact hJ3.2.2.1 | exact hJ3.2.2.1.mac.buf16 | exact hJ3.2.2.1.mac.regs) (hc:=by first | assumption | omega | exact hb.2.1 | exact hb.2.2 | exact g0_ok hb.1 | exact hJ3.2.2.1 | exact hJ3.2.2.1.mac.buf16 | exact hJ3.2.2.1.mac.regs) (hm:=by first | assumption | omega | exact hb.2.1 | exact hb.2.2 | exact g0_ok hb.1 | exact hJ3.2.2.1 | exact hJ3.2.2.1.mac.buf16 | exact hJ3.2.2.1.mac.regs)) [5,0,1,2,6,7,8,9,10,11,3] ?_ [16,18] [(0:Nat)=0,(0:Nat)=0] (by (try simp only [Conj])<;>(repeat' apply And.intro)<;>first | done | trivial | rfl | (intros;first | rfl | trivial) | exact snoc_len _ _ | exact List.length_set | exact set_ints _ _ _ | exact take_row _ _ _ _ _ | (exact take_len _ _ _ (by first | omega | (have h0:=askE_ok (by simpa using h1);have hm:=evE_mem h0.1;have hs:=evE_ok h0.1;omega))) | exact MpEq.put (by omega) | (refine MpEq.mk' (by omega) ?_ ?_<;>intro q<;>first | rfl | (dsimp only;split<;>simp_all)) | (exact MpEq.mkIt (by omega) (fun _=>rfl) (fun _=>rfl) rfl rfl (fun _=>rfl)) | (intro i h1 h2;rw [snoc_lo h1 h2]) | (rw [getD_snoc];rfl))
  refine tz [29,10,9,8,4] ?_
  refine tCond (!decide ((followV sh lk bu most cl cs order (Gs.mk (newVs cs.length) mem [] [])).err=(0:Int))) (fun h2=>?_) (fun h2=>?_)
  ·rw [ends_errE (ends_errU (order:=order) hsel h2)]
   rw [ends_errL (ends_errU (order:=order) hsel h2) h2]
   exact tRet [0,1,2,3,1000004] [0,1] [(0:Nat)=0,(followV sh lk bu most cl cs order (g0 mem cs)).err=(followV sh lk bu most cl cs order (Gs.mk (newVs cs.length) mem [] [])).err] (by simp only [Conj]<;>(repeat' apply And.intro)<;>first | trivial | rfl | (intros;rfl))
  ·refine tz [10,9,8,4] ?_
   refine tLoop (L34_0 mem sh lk bu cs cl order most) (((0:Int),(0:Int),(followV sh lk bu most cl cs order (Gs.mk (newVs cs.length) mem [] [])).g.vs,(followV sh lk bu most cl cs order (Gs.mk (newVs cs.length) mem [] [])).g.mem,(followV sh lk bu most cl cs order (Gs.mk (newVs cs.length) mem [] [])).g.pr,(followV sh lk bu most cl cs order (Gs.mk (newVs cs.length) mem [] [])).g.steps)) ⟨by omega,by omega,follow_ok (g0_ok hb.1),by rw [ends_okU hsel h2,show ((cs.length:Int)-0).toNat=cs.length by omega];rfl⟩ ?_
   rintro ⟨x3_0,x3_1,x3_2,x3_3,x3_4,x3_5⟩ hJ3
   dsimp only [L34_0,L34_0_J] at hJ3
   refine tz [36,35,10,9,8] ?_
   refine tCond (decide (x3_0<(↑cs.length:Int))) (fun h4=>?_) (fun h4=>?_)
   ·refine tz [36,35,10,9,8] ?_
    refine tCall e_vm_Machine_View (c_view (sh:=sh) (lk:=lk) (bu:=bu) (cs:=cs) (vs:=x3_2) (mem:=x3_3) (pr:=x3_4) (k:=x3_0) (hb:=by first | assumption | omega | exact hb.2.1 | exact hb.2.2 | exact g0_ok hb.1 | exact hJ3.2.2.1 | exact hJ3.2.2.1.mac.buf16 | exact hJ3.2.2.1.mac.regs) (hg:=by first | assumption | omega | exact hb.2.1 | exact hb.2.2 | exact g0_ok hb.1 | exact hJ3.2.2.1 | exact hJ3.2.2.1.mac.buf16 | exact hJ3.2.2.1.mac.regs)) [6,7,8,9,12] ?_
    refine tz [45,13,36,35,10,9,8] ?_
    refine tCond ((viewV x3_2 x3_0).halted) (fun h5=>?_) (fun h5=>?_)
    ·exact tNext (L34_0 mem sh lk bu cs cl order most) (x3_0,x3_1,x3_2,x3_3,x3_4,x3_5) ((x3_0+(1:Int),x3_1,x3_2,x3_3,x3_4,x3_5)) (by dsimp only [L34_0,L34_0_m];(try simp only [decide_eq_true_eq] at *);omega) (by have hx:=of_decide_eq_true h4;first | exact ⟨by omega,by omega,hJ3.2.2.1,ends_skip hJ3.2.2.2 h4 h5⟩ | exact ⟨by omega,by omega,untilV_ok hJ3.2.2.1,ends_next hJ3.2.2.2 h4 h5 h6⟩) (vc:=[Fits IntKind.i64 (x3_0+(1:Int))]) (hv:=(by simp only [Conj,Fits,i64_min,i64_max,u8_min,u8_max,News.len,maxLen]<;>(repeat' (first | apply And.intro | intro _))<;>first | grind | (simp only [BL] at *;omega)))
    ·refine tz [13,36,35,10,9,8] ?_
     refine tCall e_realise_going_until (c_until_halt (sh:=sh) (lk:=lk) (bu:=bu) (most:=most) (cs:=cs) (vs:=x3_2) (mem:=x3_3) (pr:=x3_4) (steps:=x3_5) (k:=x3_0) (hsl:=by first | assumption | omega | exact hb.2.1 | exact hb.2.2 | exact g0_ok hb.1 | exact hJ3.2.2.1 | exact hJ3.2.2.1.mac.buf16 | exact hJ3.2.2.1.mac.regs) (hg:=by first | assumption | omega | exact hb.2.1 | exact hb.2.2 | exact g0_ok hb.1 | exact hJ3.2.2.1 | exact hJ3.2.2.1.mac.buf16 | exact hJ3.2.2.1.mac.regs) (hm:=by first | assumption | omega | exact hb.2.1 | exact hb.2.2 | exact g0_ok hb.1 | exact hJ3.2.2.1 | exact hJ3.2.2.1.mac.buf16 | exact hJ3.2.2.1.mac.regs)) [5,0,1,2,6,7,8,9,12,13] ?_
     refine tz [52,36,35,10,9,8] ?_
     refine tCond (!decide ((untilV haltB sh lk bu cs x3_0 most.toNat (Gs.mk x3_2 x3_3 x3_4 x3_5)).err=(0:Int))) (fun h6=>?_) (fun h6=>?_)
     ·rw [ends_errE (ends_err hJ3.2.2.2 h4 h5 h6)]
      rw [ends_errL (ends_err hJ3.2.2.2 h4 h5 h6) h6]
      exact tRet [0,1,2,3,1000004] [0] [(0:Nat)=0] (by simp only [Conj]<;>(repeat' apply And.intro)<;>first | trivial | rfl | (intros;rfl))
     ·exact tNext (L34_0 mem sh lk bu cs cl order most) (x3_0,x3_1,x3_2,x3_3,x3_4,x3_5) ((x3_0+(1:Int),x3_1,(untilV haltB sh lk bu cs x3_0 most.toNat (Gs.mk x3_2 x3_3 x3_4 x3_5)).g.vs,(untilV haltB sh lk bu cs x3_0 most.toNat (Gs.mk x3_2 x3_3 x3_4 x3_5)).g.mem,(untilV haltB sh lk bu cs x3_0 most.toNat (Gs.mk x3_2 x3_3 x3_4 x3_5)).g.pr,(untilV haltB sh lk bu cs x3_0 most.toNat (Gs.mk x3_2 x3_3 x3_4 x3_5)).g.steps)) (by dsimp only [L34_0,L34_0_m];(try simp only [decide_eq_true_eq] at *);omega) (by have hx:=of_decide_eq_true h4;first | exact ⟨by omega,by omega,hJ3.2.2.1,ends_skip hJ3.2.2.2 h4 h5⟩ | exact ⟨by omega,by omega,untilV_ok hJ3.2.2.1,ends_next hJ3.2.2.2 h4 h5 h6⟩) [0,1,2,3,4,5,6,7,8,9,10,11,16,17] (vc:=[Fits IntKind.i64 (x3_0+(1:Int))]) (hv:=(by simp only [Conj,Fits,i64_min,i64_max,u8_min,u8_max,News.len,maxLen]<;>(repeat' (first | apply And.intro | intro _))<;>first | grind | (simp only [BL] at *;omega)))
   ·rw [ends_okL (ends_end hJ3.2.2.2 h4)]
    rw [ends_errE (ends_end hJ3.2.2.2 h4)]
    exact tRet [0,1,2,3,13]
theorem c_ends_n (mem:List Int) (sh lk bu:Int) (cs:List Cor) (hw:∀ a b:Nat,insK ((cs.getD a default).code.getD b default)) (cl:List Cls) (order:List Int) (most:Int) (hsel:¬ begE mem sh lk bu cs cl most=0):Ctr Try.prog 34 [WordRow mem,Cor.rowR cs,Cls.rowR cl,IntRow order] [.agg [.h 0,.i .i64 sh,.i .i64 lk,.i .i64 bu,.h 1],.c (.h 2),.c (.h 3),.c (.i .i64 most)]
 (Det (.tup [(false,[.h 4]),(false,[.i .i64 (endsE mem sh lk bu cs cl order most)])]) [.dead,.dead,.dead,.dead,Stp.ownR (endsL mem sh lk bu cs cl order most)]):=by
 refine Ctr.intro [] Try.func34 K K ?_
 refine tCall e_realise_begun (c_begun_no (mem:=mem) (sh:=sh) (lk:=lk) (bu:=bu) (cs:=cs) (hw:=by first | assumption | omega) (cl:=cl) (most:=most) (hsel:=by first | assumption | omega)) [] ?_
 refine tz [21,9,8,4,2] ?_
 refine tCond (!decide (begE mem sh lk bu cs cl most=(0:Int))) (fun h1=>?_) (fun h1=>?_)
 ·rw [ends_noL (order:=order) hsel]
  rw [ends_noE (order:=order) hsel]
  exact tRet [0,1,2,3,1000004] [0] [(0:Nat)=0] (by simp only [Conj] at *<;>grind)
 ·exact (show False from by exact hsel (by simpa using h1)).elim
theorem c_ends (mem:List Int) (sh lk bu:Int) (cs:List Cor) (hw:∀ a b:Nat,insK ((cs.getD a default).code.getD b default)) (cl:List Cls) (order:List Int) (most:Int):Ctr Try.prog 34 [WordRow mem,Cor.rowR cs,Cls.rowR cl,IntRow order] [.agg [.h 0,.i .i64 sh,.i .i64 lk,.i .i64 bu,.h 1],.c (.h 2),.c (.h 3),.c (.i .i64 most)]
 (Det (.tup [(false,[.h 4]),(false,[.i .i64 (endsE mem sh lk bu cs cl order most)])]) [.dead,.dead,.dead,.dead,Stp.ownR (endsL mem sh lk bu cs cl order most)]):=by
 by_cases hsel:begE mem sh lk bu cs cl most=0
 ·exact c_ends_y mem sh lk bu cs hw cl order most hsel
 ·exact c_ends_n mem sh lk bu cs hw cl order most hsel
end Go.Proofs.Ytmjjikcappbkeaa
end
noncomputable section
namespace Go.Proofs.Ytmjjikcappbkeaa
open Go Go.Tx
def kIns:List Ins:=[⟨1,0,0,0,0,0,0,5,0⟩,⟨4,0,0,0,0,0,0,0,0⟩,⟨7,0,0,0,0,0,0,0,0⟩,⟨10,0,0,0,0,0,0,0,0⟩]
theorem c_known25 :Ctr Try.prog 33 [] []
 (Det (.agg [.h 0,.i .i64 1,.i .i64 0,.i .i64 2,.h 1]) [WordOwn [0],Reg.own 131 2 1 (fun _ _=>.any) (some (0,[.v (.string ⟨#[97]⟩),.h 2])),Ins.ownR kIns]):=by
 refine Ctr.intro [] Try.func33 K K ?_
 exact tRet [2,3,1] [0,1,2,5,7,8] [[(0:Int)].length=1,∀ (i:Nat),i < [(0:Int)].length→i≠0→i64T ([(0:Int)].getD i (0:Int))=fun x=>TC.any,i64T (0:Int) 0=TC.val (Value.int IntKind.i64 (0:Int)),∀ (i:Nat),i<1→i≠0→((fun _=>TC.any):Nat→TC)=fun _=>TC.any,kIns.length=4,∀ (i:Nat),i<kIns.length→(kIns.getD i default).tc=rowT 9 [Value.int IntKind.u8 (1:Int),Value.int IntKind.u8 (0:Int),Value.int IntKind.i64 (0:Int),Value.int IntKind.i64 (0:Int),Value.int IntKind.i64 (0:Int),Value.int IntKind.i64 (0:Int),Value.int IntKind.i64 (0:Int),Value.int IntKind.i64 (5:Int),Value.int IntKind.i64 (0:Int),Value.int IntKind.u8 (4:Int),Value.int IntKind.u8 (0:Int),Value.int IntKind.i64 (0:Int),Value.int IntKind.i64 (0:Int),Value.int IntKind.i64 (0:Int),Value.int IntKind.i64 (0:Int),Value.int IntKind.i64 (0:Int),Value.int IntKind.i64 (0:Int),Value.int IntKind.i64 (0:Int),Value.int IntKind.u8 (7:Int),Value.int IntKind.u8 (0:Int),Value.int IntKind.i64 (0:Int),Value.int IntKind.i64 (0:Int),Value.int IntKind.i64 (0:Int),Value.int IntKind.i64 (0:Int),Value.int IntKind.i64 (0:Int),Value.int IntKind.i64 (0:Int),Value.int IntKind.i64 (0:Int),Value.int IntKind.u8 (10:Int),Value.int IntKind.u8 (0:Int),Value.int IntKind.i64 (0:Int),Value.int IntKind.i64 (0:Int),Value.int IntKind.i64 (0:Int),Value.int IntKind.i64 (0:Int),Value.int IntKind.i64 (0:Int),Value.int IntKind.i64 (0:Int),Value.int IntKind.i64 (0:Int)] i] (by simp only [Conj];(repeat' apply And.intro)<;>first | rfl | trivial | (intros;trivial) | (intro i h1 h2;exact absurd h1 (by simp;omega)) | (exact rowT_list _ Ins.tl _ _ _ K) | (exact rowT_list (0:Int) (fun n=>[.val (.int .i64 n)]) _ _ _ K) | skip)
end Go.Proofs.Ytmjjikcappbkeaa
end
noncomputable section
namespace Go.Proofs.Ytmjjikcappbkeaa
open Go Go.Tx
def kCor:Cor:=⟨⟨#[97]⟩,kIns⟩
theorem getD_all {α:Type} (P:α→Prop) (l:List α) (d:α) (h:∀ x∈l,P x) (hd:P d) (a:Nat):P (l.getD a d):=by
 rw [List.getD_eq_getElem?_getD]
 cases e:l[a]? with
 | none=>exact hd
 | some x=>exact h x (List.mem_of_getElem? e)
theorem insK_def:insK default:=by unfold insK;decide
theorem kHw:∀ a b:Nat,insK (([kCor].getD a default).code.getD b default):=fun a b=>by
 refine getD_all (fun c:Cor=>insK (c.code.getD b default)) [kCor] default (fun x hx=>?_) ?_ a
 ·cases List.mem_singleton.1 hx
  refine getD_all insK kIns default (fun x hx=>?_) insK_def b
  simp only [kIns,List.mem_cons,List.not_mem_nil,or_false] at hx
  rcases hx with rfl | rfl | rfl | rfl<;>(unfold insK;decide)
 ·exact getD_all insK [] default (fun x hx=>by cases hx) insK_def b
abbrev z62_1:=[Cls.mk (3:Int) (0:Int) (0:Int)]
abbrev z62_2:=[Stp.mk (1:Int) (0:Int),Stp.mk (1:Int) (0:Int),Stp.mk (2:Int) (0:Int),Stp.mk (1:Int) (0:Int)]
abbrev z62_3:=(Cls.mk (3:Int) (0:Int) (0:Int))
theorem c_lives25 :Ctr Try.prog 14 [] []
 (Det (.c (.b true)) []):=by
 refine Ctr.intro [] Try.func14 K K ?_
 refine tCall e_stilelaw25_known (c_known25) [] ?_
 refine tFold 4 ((Cor.tc kCor)) ?_ (vc:=[Value.string kCor.name=Value.string (ByteArray.mk #[(97:UInt8)]),kCor.code.length=kIns.length,∀ (i:Nat),i<kCor.code.length→(kCor.code.getD i default).tc=(kIns.getD i default).tc]) (hv:=(by simp only [Conj];(repeat' apply And.intro)<;>first | rfl | (intros;rfl) | skip))
 refine tReg 4 ((Cor.ownR [kCor])) ?_ (vc:=[[kCor].length=1,∀ (i:Nat),i < [kCor].length→([kCor].getD i default).tc=if i=0 then kCor.tc else fun x=>TC.any]) (hv:=(by simp only [Conj];(repeat' apply And.intro)<;>first | rfl | (intro i hi;obtain rfl:i=0:=(by simp at hi;omega);rfl) | skip))
 refine tz [15,3,2,1,0] ?_
 refine tCall e_realise_Steps (c_steps (mem:=[(0:Int)]) (sh:=(1:Int)) (lk:=(0:Int)) (bu:=(2:Int)) (cs:=[kCor]) (hw:=by first | exact kHw | decide) (cl:=z62_1) (order:=[(0:Int),(0:Int)]) (most:=(9:Int))) [3,4,0,6] ?_ [0,2,4,5,6,7,8,9,10] [[(0:Int)].length=1,[kCor].length=1,z62_1.length=1,∀ (i:Nat),i<z62_1.length→i≠0→(z62_1.getD i default).tc=fun x=>TC.any,z62_3.tc 0=TC.val (Value.int IntKind.u8 (3:Int)),z62_3.tc 1=TC.val (Value.int IntKind.i64 (0:Int)),z62_3.tc 2=TC.val (Value.int IntKind.i64 (0:Int)),[(0:Int),(0:Int)].length=2,∀ (i:Nat),i < [(0:Int),(0:Int)].length→i64T ([(0:Int),(0:Int)].getD i (0:Int))=rowT 1 [Value.int IntKind.i64 (0:Int),Value.int IntKind.i64 (0:Int)] i] (by (try simp only [Conj])<;>(repeat' apply And.intro)<;>first | done | trivial | rfl | (intros;first | rfl | trivial) | (intro i h1 h2;first | omega | (simp at h1;omega) | (rcases i with _ | _ | _ | _ | _ | i<;>first | rfl | omega | (simp at h1;omega))) | (exact rowT_list _ Stp.tl _ _ _ K) | (exact rowT_list (0:Int) (fun n=>[.val (.int .i64 n)]) _ _ _ K) | skip)
 refine tz [18,3,2,1,0] ?_
 refine tCall e_stilelaw25_known (c_known25) [] ?_
 refine tFold 9 ((Cor.tc kCor)) ?_ (vc:=[Value.string kCor.name=Value.string (ByteArray.mk #[(97:UInt8)]),kCor.code.length=kIns.length,∀ (i:Nat),i<kCor.code.length→(kCor.code.getD i default).tc=(kIns.getD i default).tc]) (hv:=(by simp only [Conj];(repeat' apply And.intro)<;>first | rfl | (intros;rfl) | skip))
 refine tReg 9 ((Cor.ownR [kCor])) ?_ (vc:=[[kCor].length=1,∀ (i:Nat),i < [kCor].length→([kCor].getD i default).tc=if i=0 then kCor.tc else fun x=>TC.any]) (hv:=(by simp only [Conj];(repeat' apply And.intro)<;>first | rfl | (intro i hi;obtain rfl:i=0:=(by simp at hi;omega);rfl) | skip))
 refine tz [22,5,4,3,2,1,0] ?_
 refine tCall e_realise_Ends (c_ends (mem:=[(0:Int)]) (sh:=(1:Int)) (lk:=(0:Int)) (bu:=(2:Int)) (cs:=[kCor]) (hw:=by first | exact kHw | decide) (cl:=z62_1) (order:=[(0:Int)]) (most:=(9:Int))) [8,9,0,11] ?_ [0,2,4,5,6,7,8,9,10,11] [[(0:Int)].length=1,[kCor].length=1,z62_1.length=1,∀ (i:Nat),i<z62_1.length→i≠0→(z62_1.getD i default).tc=fun x=>TC.any,z62_3.tc 0=TC.val (Value.int IntKind.u8 (3:Int)),z62_3.tc 1=TC.val (Value.int IntKind.i64 (0:Int)),z62_3.tc 2=TC.val (Value.int IntKind.i64 (0:Int)),[(0:Int)].length=1,∀ (i:Nat),i < [(0:Int)].length→i≠0→i64T ([(0:Int)].getD i (0:Int))=fun x=>TC.any,i64T (0:Int) 0=TC.val (Value.int IntKind.i64 (0:Int))] (by (try simp only [Conj])<;>(repeat' apply And.intro)<;>first | done | trivial | rfl | (intros;first | rfl | trivial) | (intro i h1 h2;first | omega | (simp at h1;omega) | (rcases i with _ | _ | _ | _ | _ | i<;>first | rfl | omega | (simp at h1;omega))) | (exact rowT_list _ Stp.tl _ _ _ K) | (exact rowT_list (0:Int) (fun n=>[.val (.int .i64 n)]) _ _ _ K) | skip)
 refine tz [25,5,4,3,2,1,0] ?_
 refine tCall e_stilelaw25_known (c_known25) [] ?_
 refine tFold 14 ((Cor.tc kCor)) ?_ (vc:=[Value.string kCor.name=Value.string (ByteArray.mk #[(97:UInt8)]),kCor.code.length=kIns.length,∀ (i:Nat),i<kCor.code.length→(kCor.code.getD i default).tc=(kIns.getD i default).tc]) (hv:=(by simp only [Conj];(repeat' apply And.intro)<;>first | rfl | (intros;rfl) | skip))
 refine tReg 14 ((Cor.ownR [kCor])) ?_ (vc:=[[kCor].length=1,∀ (i:Nat),i < [kCor].length→([kCor].getD i default).tc=if i=0 then kCor.tc else fun x=>TC.any]) (hv:=(by simp only [Conj];(repeat' apply And.intro)<;>first | rfl | (intro i hi;obtain rfl:i=0:=(by simp at hi;omega);rfl) | skip))
 refine tz [29,7,6,5,4,3,2,1,0] ?_
 refine tCall e_realise_Steps (c_steps (mem:=[(0:Int)]) (sh:=(1:Int)) (lk:=(0:Int)) (bu:=(2:Int)) (cs:=[kCor]) (hw:=by first | exact kHw | decide) (cl:=z62_1) (order:=[(0:Int),(0:Int),(0:Int)]) (most:=(9:Int))) [13,14,0,16] ?_ [0,2,4,5,6,7,8,9,10] [[(0:Int)].length=1,[kCor].length=1,z62_1.length=1,∀ (i:Nat),i<z62_1.length→i≠0→(z62_1.getD i default).tc=fun x=>TC.any,z62_3.tc 0=TC.val (Value.int IntKind.u8 (3:Int)),z62_3.tc 1=TC.val (Value.int IntKind.i64 (0:Int)),z62_3.tc 2=TC.val (Value.int IntKind.i64 (0:Int)),[(0:Int),(0:Int),(0:Int)].length=3,∀ (i:Nat),i < [(0:Int),(0:Int),(0:Int)].length→i64T ([(0:Int),(0:Int),(0:Int)].getD i (0:Int))=rowT 1 [Value.int IntKind.i64 (0:Int),Value.int IntKind.i64 (0:Int),Value.int IntKind.i64 (0:Int)] i] (by (try simp only [Conj])<;>(repeat' apply And.intro)<;>first | done | trivial | rfl | (intros;first | rfl | trivial) | (intro i h1 h2;first | omega | (simp at h1;omega) | (rcases i with _ | _ | _ | _ | _ | i<;>first | rfl | omega | (simp at h1;omega))) | (exact rowT_list _ Stp.tl _ _ _ K) | (exact rowT_list (0:Int) (fun n=>[.val (.int .i64 n)]) _ _ _ K) | skip)
 refine tz [32,7,6,5,4,3,2,0] ?_
 refine tCond (decide (stepsE [(0:Int)] (1:Int) (0:Int) (2:Int) [kCor] z62_1 [(0:Int),(0:Int)] (9:Int)=(0:Int))) (fun h1=>?_) (fun h1=>?_)
 ·refine tz [42,41,40,39,38,37,9,7,6,0] ?_
  refine tCall e_stileref18_Steps (c_stps (a:=stepsL [(0:Int)] (1:Int) (0:Int) (2:Int) [kCor] z62_1 [(0:Int),(0:Int)] (9:Int)) (b:=z62_2)) [7,18] ?_ [0,2,3] [(stepsL [(0:Int)] (1:Int) (0:Int) (2:Int) [kCor] z62_1 [(0:Int),(0:Int)] (9:Int)).length=4,z62_2.length=4,∀ (i:Nat),i<z62_2.length→(z62_2.getD i default).tc=rowT 2 [Value.int IntKind.u8 (1:Int),Value.int IntKind.i64 (0:Int),Value.int IntKind.u8 (1:Int),Value.int IntKind.i64 (0:Int),Value.int IntKind.u8 (2:Int),Value.int IntKind.i64 (0:Int),Value.int IntKind.u8 (1:Int),Value.int IntKind.i64 (0:Int)] i] (by (try simp only [Conj])<;>(repeat' apply And.intro)<;>first | done | trivial | rfl | (intros;first | rfl | trivial) | (intro i h1 h2;first | omega | (simp at h1;omega) | (rcases i with _ | _ | _ | _ | _ | i<;>first | rfl | omega | (simp at h1;omega))) | (exact rowT_list _ Stp.tl _ _ _ K) | (exact rowT_list (0:Int) (fun n=>[.val (.int .i64 n)]) _ _ _ K) | skip)
  exact tRet
 ·exact absurd h1 (by first | decide | simp)
end Go.Proofs.Ytmjjikcappbkeaa
end
namespace Go.Proofs.Ytmjjikcappbkeaa
open Go Go.Tx
def visD (sh lk:Int) (cl:List Cls):List Did→List Int
 | []=>[]
 | d::r=>(if visB sh lk cl d=true then [d.core] else [])++visD sh lk cl r
theorem visD_snoc (sh lk:Int) (cl:List Cls) (x:Did):∀ l:List Did,visD sh lk cl (l++[x])=visD sh lk cl l++(if visB sh lk cl x=true then [x.core] else [])
 | []=>by simp [visD]
 | d::r=>by rw [List.cons_append,visD,visD_snoc sh lk cl x r,visD,List.append_assoc]
section
variable {sh lk:Int} {cl:List Cls}
theorem vis_ev (d:Did) (i:Int) (h0:0≤lk):visB sh lk cl d=(!decide ((evOf sh lk d i).kind=0)&&visE cl (evOf sh lk d i))∧(¬ (evOf sh lk d i).kind=0→(evOf sh lk d i).core=d.core):=by
 obtain ⟨kind,core,pc,addr,word,put,own⟩:=d
 have hk:kind=2∨kind=4∨kind=6∨kind=7∨kind=8∨(kind≠2∧kind≠4∧kind≠6∧kind≠7∧kind≠8):=by omega
 rcases hk with rfl | rfl | rfl | rfl | rfl | ⟨h2,h4,h6,h7,h8⟩
 ·by_cases ha:addr<sh
  ·simp [evOf,visB,racyB,lockB,visE,noEv,ha]
  ·simp [evOf,visB,racyB,lockB,visE,noEv,ha]
 ·by_cases ha:addr<sh
  ·have hb:¬ sh≤addr:=by omega
   simp [evOf,visB,racyB,lockB,visE,noEv,ha,hb]
  ·have hb:sh≤addr:=by omega
   by_cases hc:sh+lk≤addr
   ·have hd:¬ addr<sh+lk:=by omega
    simp [evOf,visB,racyB,lockB,visE,noEv,ha,hb,hc,hd]
   ·have hd:addr<sh+lk:=by omega
    by_cases hw:word=0
    ·by_cases hp:put=0
     ·simp [evOf,visB,racyB,lockB,visE,noEv,ha,hb,hc,hd,hw,hp]
     ·simp [evOf,visB,racyB,lockB,visE,noEv,ha,hb,hc,hd,hw,hp]
    ·simp [evOf,visB,racyB,lockB,visE,noEv,ha,hb,hc,hd,hw]
 ·simp [evOf,visB,visE]
 ·simp [evOf,visB,visE]
 ·by_cases ha:addr<sh
  ·have hb:¬ sh≤addr:=by omega
   simp [evOf,visB,racyB,lockB,visE,noEv,ha,hb]
  ·have hb:sh≤addr:=by omega
   by_cases hc:sh+lk≤addr
   ·have hd:¬ addr<sh+lk:=by omega
    simp [evOf,visB,racyB,lockB,visE,noEv,ha,hb,hc,hd]
   ·have hd:addr<sh+lk:=by omega
    by_cases hw:word=0
    ·simp [evOf,visB,racyB,lockB,visE,noEv,ha,hb,hc,hd,hw]
    ·simp [evOf,visB,racyB,lockB,visE,noEv,ha,hb,hc,hd,hw]
 ·simp [evOf,visB,noEv,h2,h4,h6,h7,h8]
theorem visUp_snoc (l:List Ev) (x:Ev):∀ n:Nat,n≤l.length→visUp cl (l++[x]) n=visUp cl l n
 | 0,_=>rfl
 | n+1,h=>by rw [visUp,visUp,visUp_snoc l x n (by omega),getD_append_lt _ _ _ (by omega)]
theorem vis_up (l:List Did) (h0:0≤lk):∀ n:Nat,n≤l.length→visUp cl (evUp sh lk l n) (evUp sh lk l n).length=visD sh lk cl (l.take n)
 | 0,_=>rfl
 | n+1,h=>by
   have ih:=vis_up l h0 n (by omega)
   have hv:=vis_ev (sh:=sh) (lk:=lk) (cl:=cl) (l.getD n default) (n:Int) h0
   rw [← take_next (by omega:n<l.length),visD_snoc,← ih,evUp]
   unfold evAt
   by_cases hk:(evOf sh lk (l.getD n default) (n:Int)).kind=0
   ·rw [if_pos hk,List.append_nil]
    have hb:visB sh lk cl (l.getD n default)=false:=by rw [hv.1,hk];rfl
    rw [hb];simp
   ·rw [if_neg hk,List.length_append,List.length_singleton,visUp,visUp_snoc _ _ _ (Nat.le_refl _),getD_snoc,hv.2 hk,hv.1]
    simp only [decide_eq_false hk,Bool.not_false,Bool.true_and]
end
section
variable {bu:Int} {cs:List Cor}
theorem playV_snoc (s:Stp):∀ (l:List Stp) (p:Ps),playV bu cs (l++[s]) p=playS bu cs s (playV bu cs l p)
 | [],p=>rfl
 | a::r,p=>by rw [List.cons_append,playV,playV_snoc s r,playV]
theorem ofL_all:∀ (ds:List Did) (es:List Int),es.length=ds.length→(∀ d∈ds,didB d=true)→(∀ e∈es,e=0)→ofL ds es=ds
 | [],_,_,_,_=>by simp [ofL]
 | d::ds,[],h,_,_=>by simp at h
 | d::ds,e::es,h,hd,he=>by
   have h1:=didB_bounds (hd d (List.mem_cons_self ..))
   have h2:=he e (List.mem_cons_self ..)
   rw [ofL,if_pos (by simp only [BL];omega),ofL_all ds es (by simpa using h) (fun x hx=>hd x (List.mem_cons_of_mem _ hx)) (fun x hx=>he x (List.mem_cons_of_mem _ hx))]
theorem has_ok {n:Nat} {k:Int} (hk:0≤k∧k<n):vmHas n k=0:=by unfold vmHas;rw [if_neg (by omega)]
theorem nextT_buf {k:Int} {vs:List VCo} {mem:List Int} {pr:List Prt}:((nextT bu cs k vs mem pr).did.kind≠3→(nextT bu cs k vs mem pr).co.buf=(vs.getD k.toNat default).buf)∧(nextT bu cs k vs mem pr).co.buf.length≤(vs.getD k.toNat default).buf.length+1∧((nextT bu cs k vs mem pr).did.kind=3→(nextT bu cs k vs mem pr).co.buf.length=(vs.getD k.toNat default).buf.length+1):=by
 unfold nextT turnV
 generalize (cs.getD k.toNat default).code.getD (vs.getD k.toNat default).pos.toNat default=i
 repeat' split
 all_goals simp [setT,opT,loadT,storeT,swapT,jumpT,zeroT,haltT]
end
structure Pl (bu:Int) (cs:List Cor) (sh lk:Int) (cl:List Cls) (q:Ps) (steps:List Stp) (p:Ps) (done:List Int):Prop where
 eq:playV bu cs steps q=p
 did:∀ d∈p.dids,didB d=true
 err:∀ e∈p.errs,e=0
 vis:visD sh lk cl p.dids=done
 seen:∀ i:Nat,i<steps.length→vmHas (playV bu cs (steps.take (i+1)) q).vs.length (steps.getD i default).core=0∧(viewB (playV bu cs (steps.take (i+1)) q).vs (steps.getD i default).core).length≤1
section
variable {bu:Int} {cs:List Cor} {sh lk:Int} {cl:List Cls} {q p:Ps} {steps:List Stp} {done:List Int} {s:Stp} {d:Did} {vs:List VCo} {mem:List Int} {pr:List Prt}
theorem Pl.snoc (h:Pl bu cs sh lk cl q steps p done) (he:stepV bu cs s p.vs p.mem p.pr=⟨d,0,vs,mem,pr⟩) (hd:didB d=true) (hk:0≤s.core∧s.core<vs.length) (hb:(vs.getD s.core.toNat default).buf.length≤1) :
 Pl bu cs sh lk cl q (steps++[s]) ⟨vs,mem,pr,p.dids++[d],p.errs++[0]⟩ (done++(if visB sh lk cl d=true then [d.core] else [])):=by
 have e1:playV bu cs (steps++[s]) q=⟨vs,mem,pr,p.dids++[d],p.errs++[0]⟩:=by
  rw [playV_snoc,h.eq,playS,he]
 refine ⟨e1,fun x hx=>?_,fun x hx=>?_,?_,fun i hi=>?_⟩
 ·rcases List.mem_append.1 hx with hx | hx
  ·exact h.did x hx
  ·rw [List.mem_singleton.1 hx];exact hd
 ·rcases List.mem_append.1 hx with hx | hx
  ·exact h.err x hx
  ·exact List.mem_singleton.1 hx
 ·rw [visD_snoc,h.vis]
 ·rw [List.length_append,List.length_singleton] at hi
  by_cases hl:i<steps.length
  ·rw [List.take_append_of_le_length (by omega),getD_append_lt _ _ _ hl]
   exact h.seen i hl
  ·have e:i=steps.length:=by omega
   subst e
   rw [getD_snoc,List.take_of_length_le (by simp),e1]
   refine ⟨has_ok hk,?_⟩
   unfold viewB viewV
   rw [if_pos (has_ok hk)]
   exact hb
end
structure Hist (bu:Int) (cs:List Cor) (sh lk:Int) (cl:List Cls) (q:Ps) (g:Gs) (done:List Int):Prop where
 ok:GsOk bu cs g
 buf:∀ j:Nat,(g.vs.getD j default).buf=[]
 pl:∃ ds es,Pl bu cs sh lk cl q g.steps ⟨g.vs,g.mem,g.pr,ds,es⟩ done
section
variable {bu:Int} {cs:List Cor} {sh lk:Int} {cl:List Cls} {q:Ps} {g:Gs} {done:List Int} {k:Int}
theorem stop_no (h:stopB k g.vs=false):(0≤k∧k<g.vs.length)∧(g.vs.getD k.toNat default).halted=false:=by
 unfold stopB at h
 have h1:vmHas g.vs.length k=0:=by
  simp only [Bool.or_eq_false_iff,Bool.not_eq_false',decide_eq_true_eq] at h;exact h.1
 have h2:(viewV g.vs k).halted=false:=by
  simp only [Bool.or_eq_false_iff] at h;exact h.2
 refine ⟨has_in (by simp [h1]),?_⟩
 unfold viewV at h2
 rw [if_pos h1] at h2
 exact h2
theorem one_hist (h:Hist bu cs sh lk cl q g done) (hs:stopB k g.vs=false) (he:(oneV sh lk bu cs k g).err=0) :
 Hist bu cs sh lk cl q (oneV sh lk bu cs k g).g (done++(if visB sh lk cl (oneV sh lk bu cs k g).did=true then [k] else [])):=by
 have hok:=(oneV_ok (sh:=sh) (lk:=lk) (k:=k) h.ok).1
 obtain ⟨hk,hh⟩:=stop_no hs
 obtain ⟨ds,es,hp⟩:=h.pl
 have hkl:k.toNat<g.vs.length:=by omega
 cases h1:decide ((g.steps.length:Int)=1048576) with
 | true=>rw [one_full h1] at he;simp at he
 | false =>
   cases h2:(!decide ((runV bu cs k g.vs g.mem g.pr).err=0)||decide ((runV bu cs k g.vs g.mem g.pr).did.kind=4)&&lockB sh lk (runV bu cs k g.vs g.mem g.pr).did.addr&&!decide ((runV bu cs k g.vs g.mem g.pr).did.word=0)) with
   | true=>rw [one_bad h1 h2] at he;simp at he
   | false =>
     have hre:(runV bu cs k g.vs g.mem g.pr).err=0:=by
      simp only [Bool.or_eq_false_iff,Bool.not_eq_false',decide_eq_true_eq] at h2;exact h2.1
     rcases runV_cases bu cs k g.vs g.mem g.pr with ⟨hn,_⟩ | ⟨_,hn,_⟩ | ⟨_,_,_,e⟩ | ⟨_,_,hst,e⟩
     ·exact absurd (has_ok hk) hn
     ·rw [hh] at hn;cases hn
     ·rw [e] at hre;simp at hre
     ·have hn:=nextT_ok h.ok.mac g.pr hk hst
      have hb:=nextT_buf (bu:=bu) (cs:=cs) (k:=k) (vs:=g.vs) (mem:=g.mem) (pr:=g.pr)
      rw [h.buf k.toNat] at hb
      have e1:stepV bu cs ⟨1,k⟩ g.vs g.mem g.pr=⟨(nextT bu cs k g.vs g.mem g.pr).did,0,g.vs.set k.toNat (nextT bu cs k g.vs g.mem g.pr).co,(nextT bu cs k g.vs g.mem g.pr).mem,(nextT bu cs k g.vs g.mem g.pr).pr⟩:=by
       rw [step_run (by rfl)];exact e
      have hp1:=hp.snoc (s:=⟨1,k⟩) e1 hn.2.1 (by rw [List.length_set];exact hk) (by rw [getD_set hkl,if_pos rfl];simpa using hb.2.1)
      cases h4:(!decide ((runV bu cs k g.vs g.mem g.pr).did.kind=3)) with
      | true =>
        have h3:(nextT bu cs k g.vs g.mem g.pr).did.kind≠3:=by rw [e] at h4;simpa using h4
        rw [one_run h1 h2 h4,e] at hok ⊢
        rw [hn.2.2.1] at hp1
        refine ⟨hok,fun j=>?_,_,_,hp1⟩
        simp only
        rw [getD_set hkl]
        split
        ·exact hb.1 h3
        ·exact h.buf j
      | false =>
        have h3:(nextT bu cs k g.vs g.mem g.pr).did.kind=3:=by rw [e] at h4;simpa using h4
        cases h5:(!decide (recE (g.steps++[Stp.mk 1 k])=0)) with
        | true=>rw [one_many h1 h2 h4 h5] at he;simp only at he;simp [he] at h5
        | false =>
          have hv3:visB sh lk cl (nextT bu cs k g.vs g.mem g.pr).did=false:=by unfold visB;rw [h3];rfl
          rw [hv3] at hp1
          have hlb:=hb.2.2 h3
          simp only [List.length_nil] at hlb
          have hlen:(g.vs.set k.toNat (nextT bu cs k g.vs g.mem g.pr).co).length=g.vs.length:=List.length_set
          rcases drainV_cases k (g.vs.set k.toNat (nextT bu cs k g.vs g.mem g.pr).co) (nextT bu cs k g.vs g.mem g.pr).mem (nextT bu cs k g.vs g.mem g.pr).pr with ⟨hn',_⟩ | ⟨_,hn',_⟩ | ⟨_,hq,e2⟩
          ·exact absurd (has_ok (by rw [hlen];exact hk)) hn'
          ·rw [getD_set hkl,if_pos rfl] at hn';rw [hn'] at hlb;simp at hlb
          ·rw [getD_set hkl,if_pos rfl] at e2 hq
           have hsto:=hn.1.stoa k.toNat 0 (by rw [getD_set hkl,if_pos rfl];exact hq)
           rw [getD_set hkl,if_pos rfl] at hsto
           have hm4:=hn.1.mem4
           have hc8:=h.ok.mac.cor8
           have hle:=h.ok.mac.len
           have e3:=e2
           rw [← step_drain (bu:=bu) (cs:=cs) (s:=⟨2,k⟩) (by rfl) (by rfl)] at e3
           have hp2:=hp1.snoc (s:=⟨2,k⟩) e3 (by
            unfold didB addrB
            simp only [BL]
            refine ⟨⟨⟨⟨⟨⟨⟨⟨⟨⟨⟨?_,?_⟩,?_⟩,?_⟩,?_⟩,?_⟩,?_⟩,?_⟩,?_⟩,?_⟩,?_⟩,?_⟩<;>first | omega | simp) (by rw [List.length_set,hlen];exact hk) (by rw [getD_set (by omega),if_pos rfl];simp only [List.length_drop];omega)
           rw [one_drain h1 h2 h4 h5,e,e2] at hok ⊢
           rw [if_neg (by simp:¬ (false=true)),List.append_nil] at hp2
           refine ⟨hok,fun j=>?_,_,_,hp2⟩
           simp only
           rw [getD_set (by omega)]
           split
           ·exact List.eq_nil_of_length_eq_zero (by simp only [List.length_drop];omega)
           ·rename_i hj
            rw [getD_set hkl,if_neg hj];exact h.buf j
theorem until_hist:∀ (n:Nat) (g:Gs),Hist bu cs sh lk cl q g done→(untilV (visB sh lk cl) sh lk bu cs k n g).err=0→Hist bu cs sh lk cl q (untilV (visB sh lk cl) sh lk bu cs k n g).g (done++[k])
 | 0,g,h,he=>by unfold untilV at he;split at he<;>simp at he
 | n+1,g,h,he=>by
   unfold untilV at he ⊢
   split at he
   ·simp at he
   ·rename_i hs
    have hs':stopB k g.vs=false:=by simpa using hs
    rw [if_neg hs]
    split at he
    ·rename_i h1;simp only at he;rw [he] at h1;simp at h1
    ·rename_i h1
     have h1':(oneV sh lk bu cs k g).err=0:=by simpa using h1
     have h2:=one_hist h hs' h1'
     rw [if_neg h1]
     split at he
     ·rename_i h3
      rw [if_pos h3]
      rw [if_pos h3] at h2
      exact h2
     ·rename_i h3
      rw [if_neg h3]
      rw [if_neg h3,List.append_nil] at h2
      split at he
      ·simp at he
      ·rename_i h4
       rw [if_neg h4]
       exact until_hist n _ h2 he
variable {most:Int}
theorem follow_hist:∀ (l:List Int) (g:Gs) (done:List Int),Hist bu cs sh lk cl q g done→(followV sh lk bu most cl cs l g).err=0→Hist bu cs sh lk cl q (followV sh lk bu most cl cs l g).g (done++l)
 | [],g,done,h,_=>by rw [List.append_nil];exact h
 | k::r,g,done,h,he=>by
   rw [followV] at he ⊢
   split at he
   ·rename_i h1;rw [he] at h1;simp at h1
   ·rename_i h1
    rw [if_neg h1]
    have h2:=until_hist most.toNat g h (by simpa using h1)
    have:=follow_hist r _ _ h2 he
    rwa [List.append_assoc] at this
end
section
variable {mem:List Int} {sh lk bu most:Int} {cs:List Cor} {cl:List Cls} {order:List Int}
theorem g0_hist (h:chkE mem sh lk bu cs=0):Hist bu cs sh lk cl (p0 mem cs) (g0 mem cs) []:=by
 refine ⟨g0_ok h,fun j=>?_,[],[],rfl,by simp,by simp,rfl,by simp [g0]⟩
 show ((newVs cs.length).getD j default).buf=[]
 by_cases hj:j<cs.length
 ·rw [newVs_get hj]
 ·rw [List.getD_eq_getElem?_getD,List.getElem?_eq_none (by simp [newVs];omega)];rfl
theorem rights_all:∀ l:List Did,(∀ d∈l,didB d=true)→rightsB l=true:=fun l h=>by
 unfold rightsB
 refine List.all_eq_true.2 fun x hx=>?_
 have hx':=List.mem_range.1 hx
 have e:(0+(x:Int)).toNat=x:=by omega
 show didB (l.getD (0+(x:Int)).toNat default)=true
 rw [e,List.getD_eq_getElem?_getD,List.getElem?_eq_getElem (by omega)]
 exact h _ (List.getElem_mem _)
structure Back (mem:List Int) (sh lk bu:Int) (cs:List Cor) (cl:List Cls) (order:List Int) (L:List Stp):Prop where
 chk:chkE mem sh lk bu cs=0
 len:L.length≤1048576
 play:playE mem sh lk bu cs L=0
 olen:(ofV mem sh lk bu cs L).length≤1048576
 kind:∀ a:Nat,0≤((ofV mem sh lk bu cs L).getD a default).kind∧((ofV mem sh lk bu cs L).getD a default).kind≤255
 ordE:ordE mem sh lk bu cs cl (ofV mem sh lk bu cs L)=0
 ordL:ordL mem sh lk bu cs cl (ofV mem sh lk bu cs L)=order
 mac:∀ i:Nat,i≤L.length→MacOk bu cs (playV bu cs (L.take i) (p0 mem cs)).vs (playV bu cs (L.take i) (p0 mem cs)).mem∧(playV bu cs (L.take i) (p0 mem cs)).pr.length≤1048576
 seen:∀ i:Nat,i<L.length→vmHas (playV bu cs (L.take (i+1)) (p0 mem cs)).vs.length (L.getD i default).core=0∧(viewB (playV bu cs (L.take (i+1)) (p0 mem cs)).vs (L.getD i default).core).length≤1
theorem steps_back (h:stepsE mem sh lk bu cs cl order most=0):Back mem sh lk bu cs cl order (stepsL mem sh lk bu cs cl order most):=by
 by_cases hb:begE mem sh lk bu cs cl most=0
 ·have hc:=beg_chk hb
  have hck:=chk_ok hc.1
  rw [steps_yE hb] at h
  rw [steps_okL hb (by simp [h])]
  have hH:=follow_hist order _ [] (g0_hist (sh:=sh) (lk:=lk) (cl:=cl) hc.1) h
  rw [List.nil_append] at hH
  generalize (followV sh lk bu most cl cs order (g0 mem cs)).g=g at hH ⊢
  obtain ⟨ds,es,hp⟩:=hH.pl
  have hlen:=hH.ok.stp
  have hplay:playE mem sh lk bu cs g.steps=0:=by
   unfold playE;rw [if_pos hc.1,if_neg (by simp;omega)]
  have hok:∀ L:List Stp,PsOk bu cs (playV bu cs L (p0 mem cs)):=fun L=>playV_ok (p0_ok hc.1)
  have hof:ofV mem sh lk bu cs g.steps=ds:=by
   unfold ofV
   rw [playP_y hplay,hp.eq]
   have hl:=(hok g.steps).len
   rw [hp.eq] at hl
   exact ofL_all ds es hl hp.did hp.err
  have hdl:ds.length=g.steps.length:=by
   have:=playV_len (bu:=bu) (cs:=cs) (l:=g.steps) (p:=p0 mem cs)
   rw [hp.eq] at this
   simpa [p0] using this
  have hev:evE mem sh lk bu cs ds=0:=by
   unfold evE;rw [if_pos hc.1,rights_all ds hp.did];rfl
  have hoE:ordE mem sh lk bu cs cl ds=0:=by
   unfold ordE;rw [if_neg (by simp [hev]),if_neg (by simp [hc.2.1])]
  refine ⟨hc.1,hlen,hplay,by rw [hof];omega,fun a=>?_,by rw [hof];exact hoE,?_,fun i hi=>?_,hp.seen⟩
  ·rw [hof]
   by_cases ha:a<ds.length
   ·have:ds.getD a default∈ds:=by
     rw [List.getD_eq_getElem?_getD,List.getElem?_eq_getElem ha];exact List.getElem_mem ha
    have:=didB_bounds (hp.did _ this)
    omega
   ·rw [List.getD_eq_getElem?_getD,List.getElem?_eq_none (by omega)];decide
  ·rw [hof]
   unfold Go.Proofs.Ytmjjikcappbkeaa.ordL
   rw [if_pos hoE]
   unfold evL
   rw [if_pos hev,vis_up ds hck.2.2.1 ds.length (Nat.le_refl _),List.take_of_length_le (Nat.le_refl _)]
   exact hp.vis
  ·refine ⟨(hok _).mac,?_⟩
   have h1:=(hok (g.steps.take i)).prs
   rw [playV_len] at h1
   simp only [p0,List.length_nil,List.length_take] at h1 ⊢
   omega
 ·rw [steps_noE hb] at h;exact absurd h hb
theorem stepsL_none (h:¬ stepsE mem sh lk bu cs cl order most=0):stepsL mem sh lk bu cs cl order most=[]:=by
 unfold stepsL;exact if_neg h
variable {L:List Stp} {x:Int} {vs:List VCo} {m:List Int} {pr:List Prt}
def atB (bu:Int) (cs:List Cor) (mem:List Int) (L:List Stp) (x:Int) (vs:List VCo) (m:List Int) (pr:List Prt):Prop:=vs=(playV bu cs (L.take x.toNat) (p0 mem cs)).vs∧m=(playV bu cs (L.take x.toNat) (p0 mem cs)).mem∧pr=(playV bu cs (L.take x.toNat) (p0 mem cs)).pr
theorem atB_0:atB bu cs mem L 0 (newVs cs.length) mem []:=⟨rfl,rfl,rfl⟩
theorem atB_next (h:atB bu cs mem L x vs m pr) (h0:0≤x) (h1:decide (x<(L.length:Int))=true):atB bu cs mem L (x+1) (stepV bu cs (L.getD x.toNat default) vs m pr).vs (stepV bu cs (L.getD x.toNat default) vs m pr).mem (stepV bu cs (L.getD x.toNat default) vs m pr).pr:=by
 have hx:=of_decide_eq_true h1
 have e:(x+1).toNat=x.toNat+1:=by omega
 obtain ⟨e1,e2,e3⟩:=h
 unfold atB
 rw [e,← take_next (by omega:x.toNat<L.length),playV_snoc,e1,e2,e3]
 exact ⟨rfl,rfl,rfl⟩
theorem Back.mac' (hB:Back mem sh lk bu cs cl order L) (h:atB bu cs mem L x vs m pr) (h1:x≤L.length):MacOk bu cs vs m∧pr.length≤1048576:=by
 obtain ⟨e1,e2,e3⟩:=h
 rw [e1,e2,e3]
 exact hB.mac _ (by omega)
theorem Back.seen' (hB:Back mem sh lk bu cs cl order L) (h:atB bu cs mem L x vs m pr) (h0:0≤x) (h1:decide (x<(L.length:Int))=true):vmHas (stepV bu cs (L.getD x.toNat default) vs m pr).vs.length (L.getD x.toNat default).core=0∧(viewB (stepV bu cs (L.getD x.toNat default) vs m pr).vs (L.getD x.toNat default).core).length≤1:=by
 have hx:=of_decide_eq_true h1
 have e:(x+1).toNat=x.toNat+1:=by omega
 have h2:=(atB_next h h0 h1).1
 rw [h2,e]
 exact hB.seen _ (by omega)
end
end Go.Proofs.Ytmjjikcappbkeaa
noncomputable section
namespace Go.Proofs.Ytmjjikcappbkeaa
open Go Go.Tx
theorem c_back_n (mem:List Int) (sh lk bu:Int) (cs:List Cor) (hw:∀ a b:Nat,insK ((cs.getD a default).code.getD b default)) (cl:List Cls) (order:List Int) (most:Int) (hsel:¬ stepsE mem sh lk bu cs cl order most=0):Ctr Try.prog 4 [WordRow mem,Cor.rowR cs,Cls.rowR cl,IntRow order] [.agg [.h 0,.i .i64 sh,.i .i64 lk,.i .i64 bu,.h 1],.c (.h 2),.c (.h 3),.c (.i .i64 most)]
 (Det (.c (.b true)) [.dead,.dead,.dead,.dead]):=by
 refine Ctr.intro [] Try.func4 K K ?_
 refine tCall e_stilelaw25_lives (c_lives25) [] ?_
 refine tz [20,8,4,1,2,3] ?_
 refine tCond (!true) (fun h1=>?_) (fun h1=>?_)
 ·exact absurd h1 (by first | decide | simp)
 ·refine tz [8,4,1,2,3] ?_
  refine tCall e_realise_Steps (c_steps (mem:=mem) (sh:=sh) (lk:=lk) (bu:=bu) (cs:=cs) (hw:=by first | assumption | omega) (cl:=cl) (order:=order) (most:=most)) [] ?_
  refine tz [27,8,4,1,2] ?_
  refine tCond (!decide (stepsE mem sh lk bu cs cl order most=(0:Int))) (fun h2=>?_) (fun h2=>?_)
  ·exact tRet [] [0] [true=decide ((↑(stepsL mem sh lk bu cs cl order most).length:Int)=(0:Int))] (by simp only [Conj,stepsL_none hsel];rfl)
  ·exact (show False from by exact hsel (by simpa using h2)).elim
def L4_0_I (mem:List Int) (sh:Int) (lk:Int) (bu:Int) (cs:List Cor) (cl:List Cls) (order:List Int) (most:Int):Int×Bool×List VCo×List Int×List Prt→St:=fun x=>{ N:=92,fr:=[{ slot:=69,g:=[],sv:=SV.c (C.i .i64 x.1) },{ slot:=68,g:=[],sv:=SV.c (C.i .i64 (↑(stepsL mem sh lk bu cs cl order most).length:Int)) },{ slot:=67,g:=[],sv:=SV.c (C.h 5) },{ slot:=15,g:=[],sv:=SV.c (C.p 8 0) },{ slot:=8,g:=[],sv:=SV.c (C.b x.2.1) }],rg:=[Reg.row 1 mem.length (fun i=>i64T (mem.getD i (0:Int))) none,Reg.row 2 cs.length (fun i=>(cs.getD i default).tc) none,Reg.row 3 cl.length (fun i=>(cl.getD i default).tc) none,Reg.row 1 order.length (fun i=>i64T (order.getD i (0:Int))) none,Reg.box 48 [C.h 0,C.i .i64 sh,C.i .i64 lk,C.i .i64 bu,C.h 1],Reg.own 63 2 (stepsL mem sh lk bu cs cl order most).length (fun i=>((stepsL mem sh lk bu cs cl order most).getD i default).tc) none,Reg.own 66 7 (ofV mem sh lk bu cs (stepsL mem sh lk bu cs cl order most)).length (fun i=>((ofV mem sh lk bu cs (stepsL mem sh lk bu cs cl order most)).getD i default).tc) none,Reg.own 3 1 (ordL mem sh lk bu cs cl (ofV mem sh lk bu cs (stepsL mem sh lk bu cs cl order most))).length (fun i=>i64T ((ordL mem sh lk bu cs cl (ofV mem sh lk bu cs (stepsL mem sh lk bu cs cl order most))).getD i (0:Int))) none,Reg.box 138 [C.v (Value.slice none 0 0),C.i .i64 sh,C.i .i64 lk,C.i .i64 bu,C.h 9,C.h 10,C.h 11,C.h 12],Reg.own 131 2 cs.length (fun i=>(cs.getD i default).tc) none,VCo.ownR (x.2.2.1),WordOwn (x.2.2.2.1),Prt.ownR (x.2.2.2.2)],wr:=[] }
def L4_0_J (mem:List Int) (sh:Int) (lk:Int) (bu:Int) (cs:List Cor) (cl:List Cls) (order:List Int) (most:Int):Int×Bool×List VCo×List Int×List Prt→Prop:=fun x=>0≤x.1∧x.1≤((stepsL mem sh lk bu cs cl order most).length:Int)∧atB bu cs mem (stepsL mem sh lk bu cs cl order most) x.1 x.2.2.1 x.2.2.2.1 x.2.2.2.2
def L4_0_m (mem:List Int) (sh:Int) (lk:Int) (bu:Int) (cs:List Cor) (cl:List Cls) (order:List Int) (most:Int):Int×Bool×List VCo×List Int×List Prt→Nat:=fun x=>(((stepsL mem sh lk bu cs cl order most).length:Int)-x.1).toNat
def L4_0 (mem:List Int) (sh:Int) (lk:Int) (bu:Int) (cs:List Cor) (cl:List Cls) (order:List Int) (most:Int):Lp (Int×Bool×List VCo×List Int×List Prt):=⟨L4_0_I mem sh lk bu cs cl order most,L4_0_J mem sh lk bu cs cl order most,L4_0_m mem sh lk bu cs cl order most⟩
theorem c_back_y (mem:List Int) (sh lk bu:Int) (cs:List Cor) (hw:∀ a b:Nat,insK ((cs.getD a default).code.getD b default)) (cl:List Cls) (order:List Int) (most:Int) (hsel:stepsE mem sh lk bu cs cl order most=0):Ctr Try.prog 4 [WordRow mem,Cor.rowR cs,Cls.rowR cl,IntRow order] [.agg [.h 0,.i .i64 sh,.i .i64 lk,.i .i64 bu,.h 1],.c (.h 2),.c (.h 3),.c (.i .i64 most)]
 (Det (.c (.b true)) [.dead,.dead,.dead,.dead]):=by
 have hB:=steps_back hsel
 have hLn:=hB.len
 refine Ctr.intro [] Try.func4 K K ?_
 have hsel2:chkE mem sh lk bu cs=0:=hB.chk
 refine tCall e_stilelaw25_lives (c_lives25) [] ?_
 refine tz [20,8,4,1,2,3] ?_
 refine tCond (!true) (fun h1=>?_) (fun h1=>?_)
 ·exact absurd h1 (by first | decide | simp)
 ·refine tz [8,4,1,2,3] ?_
  refine tCall e_realise_Steps (c_steps (mem:=mem) (sh:=sh) (lk:=lk) (bu:=bu) (cs:=cs) (hw:=by first | assumption | omega | exact hB.chk | exact hB.kind | (have:=hB.olen;omega) | exact (hB.mac' hJ5.2.2 hJ5.2.1).1 | exact (hB.mac' hJ5.2.2 hJ5.2.1).2 | exact (hB.mac' (atB_next hJ5.2.2 hJ5.1 h6) (by have:=of_decide_eq_true h6;omega)).1.buf16 | exact (hB.mac' (atB_next hJ5.2.2 hJ5.1 h6) (by have:=of_decide_eq_true h6;omega)).1.regs) (cl:=cl) (order:=order) (most:=most)) [] ?_
  refine tz [27,8,4,1,2] ?_
  refine tCond (!decide (stepsE mem sh lk bu cs cl order most=(0:Int))) (fun h2=>?_) (fun h2=>?_)
  ·exact (show False from by simp [hsel] at h2).elim
  ·refine tz [10,9,8,4,1,2] ?_
   refine tCall e_trace_Of (c_of (mem:=mem) (sh:=sh) (lk:=lk) (bu:=bu) (cs:=cs) (hw:=by first | assumption | omega | exact hB.chk | exact hB.kind | (have:=hB.olen;omega) | exact (hB.mac' hJ5.2.2 hJ5.2.1).1 | exact (hB.mac' hJ5.2.2 hJ5.2.1).2 | exact (hB.mac' (atB_next hJ5.2.2 hJ5.1 h6) (by have:=of_decide_eq_true h6;omega)).1.buf16 | exact (hB.mac' (atB_next hJ5.2.2 hJ5.1 h6) (by have:=of_decide_eq_true h6;omega)).1.regs) (l:=stepsL mem sh lk bu cs cl order most)) [0,1,5] ?_
   refine tz [38,10,9,8,4,1,2] ?_
   refine tCall e_witness_Order (c_order (mem:=mem) (sh:=sh) (lk:=lk) (bu:=bu) (cs:=cs) (cl:=cl) (l:=ofV mem sh lk bu cs (stepsL mem sh lk bu cs cl order most)) (hw:=by first | assumption | omega | exact hB.chk | exact hB.kind | (have:=hB.olen;omega) | exact (hB.mac' hJ5.2.2 hJ5.2.1).1 | exact (hB.mac' hJ5.2.2 hJ5.2.1).2 | exact (hB.mac' (atB_next hJ5.2.2 hJ5.1 h6) (by have:=of_decide_eq_true h6;omega)).1.buf16 | exact (hB.mac' (atB_next hJ5.2.2 hJ5.1 h6) (by have:=of_decide_eq_true h6;omega)).1.regs) (hl:=by first | assumption | omega | exact hB.chk | exact hB.kind | (have:=hB.olen;omega) | exact (hB.mac' hJ5.2.2 hJ5.2.1).1 | exact (hB.mac' hJ5.2.2 hJ5.2.1).2 | exact (hB.mac' (atB_next hJ5.2.2 hJ5.1 h6) (by have:=of_decide_eq_true h6;omega)).1.buf16 | exact (hB.mac' (atB_next hJ5.2.2 hJ5.1 h6) (by have:=of_decide_eq_true h6;omega)).1.regs) (hn:=by first | assumption | omega | exact hB.chk | exact hB.kind | (have:=hB.olen;omega) | exact (hB.mac' hJ5.2.2 hJ5.2.1).1 | exact (hB.mac' hJ5.2.2 hJ5.2.1).2 | exact (hB.mac' (atB_next hJ5.2.2 hJ5.1 h6) (by have:=of_decide_eq_true h6;omega)).1.buf16 | exact (hB.mac' (atB_next hJ5.2.2 hJ5.1 h6) (by have:=of_decide_eq_true h6;omega)).1.regs)) [0,1,2,6] ?_
   refine tz [45,12,10,9,8,4,2] ?_
   refine tG e_stileref07_Ints (c_ints (a:=ordL mem sh lk bu cs cl (ofV mem sh lk bu cs (stepsL mem sh lk bu cs cl order most))) (b:=order)) [7,3] ?_
   refine tz [57,54,10,9,8,4] ?_
   refine tCond (!decide (playE mem sh lk bu cs (stepsL mem sh lk bu cs cl order most)=(0:Int))||!decide (ordE mem sh lk bu cs cl (ofV mem sh lk bu cs (stepsL mem sh lk bu cs cl order most))=(0:Int))||!decide (ordL mem sh lk bu cs cl (ofV mem sh lk bu cs (stepsL mem sh lk bu cs cl order most))=order)) (fun h3=>?_) (fun h3=>?_)
   ·exact (show False from by simp [hB.play,hB.ordE,hB.ordL] at h3).elim
   ·refine tz [10,9,8,4] ?_
    refine tCall e_vm_New (c_new_ok (mem:=mem) (sh:=sh) (lk:=lk) (bu:=bu) (cs:=cs) (hw:=by first | assumption | omega | exact hB.chk | exact hB.kind | (have:=hB.olen;omega) | exact (hB.mac' hJ5.2.2 hJ5.2.1).1 | exact (hB.mac' hJ5.2.2 hJ5.2.1).2 | exact (hB.mac' (atB_next hJ5.2.2 hJ5.1 h6) (by have:=of_decide_eq_true h6;omega)).1.buf16 | exact (hB.mac' (atB_next hJ5.2.2 hJ5.1 h6) (by have:=of_decide_eq_true h6;omega)).1.regs) (hsel:=by first | assumption | omega | exact hB.chk | exact hB.kind | (have:=hB.olen;omega) | exact (hB.mac' hJ5.2.2 hJ5.2.1).1 | exact (hB.mac' hJ5.2.2 hJ5.2.1).2 | exact (hB.mac' (atB_next hJ5.2.2 hJ5.1 h6) (by have:=of_decide_eq_true h6;omega)).1.buf16 | exact (hB.mac' (atB_next hJ5.2.2 hJ5.1 h6) (by have:=of_decide_eq_true h6;omega)).1.regs)) [] ?_
    refine tz [62,10,9,8] ?_
    refine tCond (!decide ((0:Int)=(0:Int))) (fun h4=>?_) (fun h4=>?_)
    ·exact absurd h4 (by first | decide | simp)
    ·refine tz [15,9,8] ?_
     refine tLoop (L4_0 mem sh lk bu cs cl order most) (((0:Int),false,newVs cs.length,mem,[])) ⟨by omega,by omega,atB_0⟩ ?_ [] [27] [(0:Nat)=0] (by (try simp only [Conj])<;>(repeat' apply And.intro)<;>first | done | trivial | rfl | (intros;first | rfl | trivial) | exact snoc_len _ _ | exact List.length_set | exact set_ints _ _ _ | exact take_row _ _ _ _ _ | (exact take_len _ _ _ (by first | omega | (have h0:=askE_ok (by simpa using h1);have hm:=evE_mem h0.1;have hs:=evE_ok h0.1;omega))) | exact MpEq.put (by omega) | (refine MpEq.mk' (by omega) ?_ ?_<;>intro q<;>first | rfl | (dsimp only;split<;>simp_all)) | (exact MpEq.mkIt (by omega) (fun _=>rfl) (fun _=>rfl) rfl rfl (fun _=>rfl)) | (intro i h1 h2;rw [snoc_lo h1 h2]) | (rw [getD_snoc];rfl))
     rintro ⟨x5_0,x5_1,x5_2,x5_3,x5_4⟩ hJ5
     dsimp only [L4_0,L4_0_J] at hJ5
     refine tz [69,68,67,15,8] ?_
     refine tCond (decide (x5_0<(↑(stepsL mem sh lk bu cs cl order most).length:Int))) (fun h6=>?_) (fun h6=>?_)
     ·refine tz [69,68,67,15,8] ?_
      refine tCall e_vm_Machine_Step (c_step (sh:=sh) (lk:=lk) (bu:=bu) (cs:=cs) (vs:=x5_2) (mem:=x5_3) (pr:=x5_4) (s:=(stepsL mem sh lk bu cs cl order most).getD x5_0.toNat default) (hw:=by first | assumption | omega | exact hB.chk | exact hB.kind | (have:=hB.olen;omega) | exact (hB.mac' hJ5.2.2 hJ5.2.1).1 | exact (hB.mac' hJ5.2.2 hJ5.2.1).2 | exact (hB.mac' (atB_next hJ5.2.2 hJ5.1 h6) (by have:=of_decide_eq_true h6;omega)).1.buf16 | exact (hB.mac' (atB_next hJ5.2.2 hJ5.1 h6) (by have:=of_decide_eq_true h6;omega)).1.regs) (hp:=by first | assumption | omega | exact hB.chk | exact hB.kind | (have:=hB.olen;omega) | exact (hB.mac' hJ5.2.2 hJ5.2.1).1 | exact (hB.mac' hJ5.2.2 hJ5.2.1).2 | exact (hB.mac' (atB_next hJ5.2.2 hJ5.1 h6) (by have:=of_decide_eq_true h6;omega)).1.buf16 | exact (hB.mac' (atB_next hJ5.2.2 hJ5.1 h6) (by have:=of_decide_eq_true h6;omega)).1.regs)) [8,9,10,11,12] ?_ (vc:=[(0:Int)≤x5_0,x5_0<(↑(stepsL mem sh lk bu cs cl order most).length:Int),x5_0.toNat<(stepsL mem sh lk bu cs cl order most).length]) (hv:=(by simp only [Conj,Fits,i64_min,i64_max,u8_min,u8_max,News.len,maxLen]<;>(repeat' (first | apply And.intro | intro _))<;>first | grind | (simp only [BL] at *;omega)))
      refine tz [17,69,68,67,15,8] ?_
      refine tCall e_vm_Machine_View (c_view (sh:=sh) (lk:=lk) (bu:=bu) (cs:=cs) (vs:=(stepV bu cs ((stepsL mem sh lk bu cs cl order most).getD x5_0.toNat default) x5_2 x5_3 x5_4).vs) (mem:=(stepV bu cs ((stepsL mem sh lk bu cs cl order most).getD x5_0.toNat default) x5_2 x5_3 x5_4).mem) (pr:=(stepV bu cs ((stepsL mem sh lk bu cs cl order most).getD x5_0.toNat default) x5_2 x5_3 x5_4).pr) (k:=((stepsL mem sh lk bu cs cl order most).getD x5_0.toNat default).core) (hb:=by first | assumption | omega | exact hB.chk | exact hB.kind | (have:=hB.olen;omega) | exact (hB.mac' hJ5.2.2 hJ5.2.1).1 | exact (hB.mac' hJ5.2.2 hJ5.2.1).2 | exact (hB.mac' (atB_next hJ5.2.2 hJ5.1 h6) (by have:=of_decide_eq_true h6;omega)).1.buf16 | exact (hB.mac' (atB_next hJ5.2.2 hJ5.1 h6) (by have:=of_decide_eq_true h6;omega)).1.regs) (hg:=by first | assumption | omega | exact hB.chk | exact hB.kind | (have:=hB.olen;omega) | exact (hB.mac' hJ5.2.2 hJ5.2.1).1 | exact (hB.mac' hJ5.2.2 hJ5.2.1).2 | exact (hB.mac' (atB_next hJ5.2.2 hJ5.1 h6) (by have:=of_decide_eq_true h6;omega)).1.buf16 | exact (hB.mac' (atB_next hJ5.2.2 hJ5.1 h6) (by have:=of_decide_eq_true h6;omega)).1.regs)) [8,9,10,11,14] ?_
      refine tz [80,69,68,67,15,8] ?_
      refine tCond (!decide (vmHas (stepV bu cs ((stepsL mem sh lk bu cs cl order most).getD x5_0.toNat default) x5_2 x5_3 x5_4).vs.length ((stepsL mem sh lk bu cs cl order most).getD x5_0.toNat default).core=(0:Int))||decide ((1:Int)<(↑(viewB (stepV bu cs ((stepsL mem sh lk bu cs cl order most).getD x5_0.toNat default) x5_2 x5_3 x5_4).vs ((stepsL mem sh lk bu cs cl order most).getD x5_0.toNat default).core).length:Int))) (fun h7=>?_) (fun h7=>?_)
      ·exact (show False from by (have hs:=hB.seen' hJ5.2.2 hJ5.1 h6;simp only [hs.1,decide_true,Bool.not_true,Bool.false_or,decide_eq_true_eq] at h7;omega)).elim
      ·exact tNext (L4_0 mem sh lk bu cs cl order most) (x5_0,x5_1,x5_2,x5_3,x5_4) ((x5_0+(1:Int),x5_1,(stepV bu cs ((stepsL mem sh lk bu cs cl order most).getD x5_0.toNat default) x5_2 x5_3 x5_4).vs,(stepV bu cs ((stepsL mem sh lk bu cs cl order most).getD x5_0.toNat default) x5_2 x5_3 x5_4).mem,(stepV bu cs ((stepsL mem sh lk bu cs cl order most).getD x5_0.toNat default) x5_2 x5_3 x5_4).pr)) (by dsimp only [L4_0,L4_0_m];(try simp only [decide_eq_true_eq] at *);omega) ⟨by omega,by have:=of_decide_eq_true h6;omega,atB_next hJ5.2.2 hJ5.1 h6⟩ [0,1,2,3,4,5,6,7,8,9,10,11,14] (vc:=[Fits IntKind.i64 (x5_0+(1:Int))]) (hv:=(by simp only [Conj,Fits,i64_min,i64_max,u8_min,u8_max,News.len,maxLen]<;>(repeat' (first | apply And.intro | intro _))<;>first | grind | (simp only [BL] at *;omega)))
     ·exact tRet
theorem c_back (mem:List Int) (sh lk bu:Int) (cs:List Cor) (hw:∀ a b:Nat,insK ((cs.getD a default).code.getD b default)) (cl:List Cls) (order:List Int) (most:Int):Ctr Try.prog 4 [WordRow mem,Cor.rowR cs,Cls.rowR cl,IntRow order] [.agg [.h 0,.i .i64 sh,.i .i64 lk,.i .i64 bu,.h 1],.c (.h 2),.c (.h 3),.c (.i .i64 most)]
 (Det (.c (.b true)) [.dead,.dead,.dead,.dead]):=by
 by_cases hsel:stepsE mem sh lk bu cs cl order most=0
 ·exact c_back_y mem sh lk bu cs hw cl order most hsel
 ·exact c_back_n mem sh lk bu cs hw cl order most hsel
end Go.Proofs.Ytmjjikcappbkeaa
end
