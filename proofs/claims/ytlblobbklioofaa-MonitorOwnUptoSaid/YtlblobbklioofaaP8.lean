/-
  Part of a proof of Rows.MonitorOwnUptoSaid: for every object, classes and run of at most 1048576 values and letters together, the law stilelaw23.MonitorOwn returns true and leaves its arguments as they were. Text 8 of 9: Leaf26 SpecK TxT TxU Leaf27 SpecL Leaf28 Leaf29 Leaf30 Leaf31.
-/
import Derived.Test.YtlblobbklioofaaP7
import Derived.Test.YtlblobbklioofaaP5
import Derived.Test.YtlblobbklioofaaP1
import Derived.DeepKeys4
import Derived.Maps.RangeWalk
set_option linter.unusedSimpArgs false
set_option linter.unusedVariables false
set_option maxHeartbeats 4000000
noncomputable section
namespace Go.Proofs.Ytlblobbklioofaa
open Go Go.Tx
abbrev z26_23 (sh:Int) (lk:Int) (bu:Int):=Reg.box 81 [C.h 0,C.i .i64 sh,C.i .i64 lk,C.i .i64 bu,C.h 1,C.h 2,C.h 6]
abbrev z26_25 (mem:List Int) (sh:Int) (lk:Int) (bu:Int) (cs:List Cor) (l:List Did):=Reg.own 63 7 (evL mem sh lk bu cs l).length (fun i=>((evL mem sh lk bu cs l).getD i default).tc) none
abbrev z26_26 (sh:Int) (lk:Int) (bu:Int):=Reg.box 25 [C.h 0,C.i .i64 sh,C.i .i64 lk,C.i .i64 bu,C.h 1]
abbrev z26_27 (mem:List Int):=Reg.row 1 mem.length (fun i=>i64T (mem.getD i (0:Int))) none
abbrev z26_28 (cs:List Cor):=Reg.row 2 cs.length (fun i=>(cs.getD i default).tc) none
abbrev z26_29 (cl:List Cls):=Reg.row 3 cl.length (fun i=>(cl.getD i default).tc) none
abbrev z26_30 (l:List Did):=Reg.row 7 l.length (fun i=>(l.getD i default).tc) none
def L17_0_I (mem:List Int) (sh:Int) (lk:Int) (bu:Int) (cs:List Cor) (l:List Did) (cl:List Cls):Int×Int×Int×List Int→St:=fun x=>{ N:=89,fr:=[{ slot:=38,g:=[],sv:=SV.c (C.i .i64 x.1) },{ slot:=37,g:=[],sv:=SV.c (C.i .i64 (↑l.length:Int)) },{ slot:=36,g:=[],sv:=SV.c (C.h 2) },{ slot:=10,g:=[],sv:=SV.c (C.h 8) },{ slot:=7,g:=[],sv:=SV.c (C.i .i64 x.2.1) },{ slot:=6,g:=[],sv:=SV.c (C.i .i64 x.2.2.1) },{ slot:=3,g:=[],sv:=SV.c (C.p 4 0) },{ slot:=1,g:=[],sv:=SV.c (C.h 3) }],rg:=[z26_27 mem,z26_28 cs,z26_30 l,z26_29 cl,z26_26 sh lk bu,z26_23 sh lk bu,z26_25 mem sh lk bu cs l,Reg.row 1 (sh.toNat-0) (fun i=>i64T (mem.getD (0+i) (0:Int))) none,WordOwn (x.2.2.2)],wr:=[] }
def L17_0_J (mem:List Int) (sh:Int) (lk:Int) (bu:Int) (cs:List Cor) (l:List Did) (cl:List Cls):Int×Int×Int×List Int→Prop:=fun x=>0≤x.1∧x.1≤(l.length:Int)∧x.2.2.2=nowUp mem l sh.toNat sh.toNat x.1.toNat∧findFrom (staleP mem sh l cl) 0 l.length=findFrom (staleP mem sh l cl) x.1 l.length
def L17_0_m (mem:List Int) (sh:Int) (lk:Int) (bu:Int) (cs:List Cor) (l:List Did) (cl:List Cls):Int×Int×Int×List Int→Nat:=fun x=>((l.length:Int)-x.1).toNat
abbrev z26_20 (l:List Did) (x2_0:Int):=[C.i .u8 (l.getD x2_0.toNat default).kind,C.i .i64 (l.getD x2_0.toNat default).core,C.i .i64 (l.getD x2_0.toNat default).pc,C.i .i64 (l.getD x2_0.toNat default).addr,C.i .i64 (l.getD x2_0.toNat default).word,C.i .i64 (l.getD x2_0.toNat default).put,C.b (l.getD x2_0.toNat default).own]
abbrev z26_1 (mem:List Int) (cs:List Cor) (l:List Did) (cl:List Cls) (sh:Int) (lk:Int) (bu:Int) (x2_3:List Int) (x2_0:Int):=[z26_27 mem,z26_28 cs,z26_30 l,z26_29 cl,z26_26 sh lk bu,z26_23 sh lk bu,z26_25 mem sh lk bu cs l,Reg.row 1 (sh.toNat-0) (fun i=>i64T (mem.getD (0+i) (0:Int))) none,Reg.own 2 1 x2_3.length (fun i=>i64T (x2_3.getD i (0:Int))) none,Reg.box 75 (z26_20 l x2_0)]
abbrev z26_14 (mem:List Int):=∀ (i:Nat),i<mem.length→i64T (mem.getD i (0:Int))=i64T (mem.getD i (0:Int))
abbrev z26_15 (mem:List Int) (sh:Int) (lk:Int) (bu:Int) (cs:List Cor) (l:List Did):=∀ (i:Nat),i<(evL mem sh lk bu cs l).length→((evL mem sh lk bu cs l).getD i default).tc=((evL mem sh lk bu cs l).getD i default).tc
abbrev z26_16 (cs:List Cor):=∀ (i:Nat),i<cs.length→(cs.getD i default).tc=(cs.getD i default).tc
abbrev z26_17 (l:List Did):=∀ (i:Nat),i<l.length→(l.getD i default).tc=(l.getD i default).tc
abbrev z26_19 (cl:List Cls):=∀ (i:Nat),i<cl.length→(cl.getD i default).tc=(cl.getD i default).tc
abbrev z26_21 (mem:List Int) (sh:Int) (lk:Int) (bu:Int) (cs:List Cor) (l:List Did):=(evL mem sh lk bu cs l).length=(evL mem sh lk bu cs l).length
abbrev z26_22 (l:List Did):=(↑l.length:Int)=(↑l.length:Int)
abbrev z26_4 (mem:List Int) (cs:List Cor) (l:List Did) (cl:List Cls) (sh:Int) (lk:Int) (bu:Int) (x2_3:List Int) (x2_0:Int) (x2_1:Int) (x2_2:Int):=[mem.length=mem.length,z26_14 mem,cs.length=cs.length,z26_16 cs,l.length=l.length,z26_17 l,cl.length=cl.length,z26_19 cl,sh=sh,lk=lk,bu=bu,sh=sh,lk=lk,bu=bu,z26_21 mem sh lk bu cs l,z26_15 mem sh lk bu cs l,sh.toNat-0=sh.toNat-0,∀ (i:Nat),i<sh.toNat-0→i64T (mem.getD (0+i) (0:Int))=i64T (mem.getD (0+i) (0:Int)),x2_3.length=x2_3.length,∀ (i:Nat),i<x2_3.length→i64T (x2_3.getD i (0:Int))=i64T (x2_3.getD i (0:Int)),x2_0+(1:Int)=x2_0+(1:Int),z26_22 l,x2_1=x2_1,x2_2=x2_2]
abbrev z26_32 (l:List Did):=En.mk 37 [] (SV.c (C.i .i64 (↑l.length:Int)))
abbrev z26_5 (x2_0:Int) (l:List Did) (x2_1:Int) (x2_2:Int) (mem:List Int) (cs:List Cor) (cl:List Cls) (sh:Int) (lk:Int) (bu:Int) (x2_3:List Int):=(St.mk 89 [En.mk 38 [] (SV.c (C.i .i64 x2_0)),z26_32 l,En.mk 36 [] (SV.c (C.h 2)),En.mk 10 [] (SV.c (C.h 8)),En.mk 7 [] (SV.c (C.i .i64 x2_1)),En.mk 6 [] (SV.c (C.i .i64 x2_2)),En.mk 3 [] (SV.c (C.p 4 0)),En.mk 1 [] (SV.c (C.h 3))] [z26_27 mem,z26_28 cs,z26_30 l,z26_29 cl,z26_26 sh lk bu,z26_23 sh lk bu,z26_25 mem sh lk bu cs l,Reg.row 1 (sh.toNat-0) (fun i=>i64T (mem.getD (0+i) (0:Int))) none,Reg.own 2 1 x2_3.length (fun i=>i64T (x2_3.getD i (0:Int))) none] [])
abbrev z26_7 (mem:List Int) (cs:List Cor) (l:List Did) (cl:List Cls) (sh:Int) (lk:Int) (bu:Int):=[z26_27 mem,z26_28 cs,z26_30 l,z26_29 cl,z26_26 sh lk bu,z26_23 sh lk bu,z26_25 mem sh lk bu cs l]
abbrev z26_9 (l:List Did) (x2_0:Int):=[SV.agg (z26_20 l x2_0),SV.c (C.i .i64 (l.getD x2_0.toNat default).addr)]
abbrev z26_10 (mem:List Int) (sh:Int) (lk:Int) (bu:Int) (cs:List Cor) (l:List Did) (cl:List Cls) (x2_0:Int) (x2_1:Int) (x2_2:Int) (x2_3:List Int):=(Tx.Next (L17_0_I mem sh lk bu cs l cl) (L17_0_J mem sh lk bu cs l cl) (L17_0_m mem sh lk bu cs l cl) (x2_0,x2_1,x2_2,x2_3))
abbrev z26_35 (l:List Did) (x2_0:Int):=(l.getD x2_0.toNat default).addr=(l.getD x2_0.toNat default).addr
theorem c_staleT (mem:List Int) (sh lk bu:Int) (cs:List Cor) (l:List Did) (cl:List Cls) (hw:∀ a b:Nat,insK ((cs.getD a default).code.getD b default)) (hl:∀ a:Nat,0≤(l.getD a default).kind∧(l.getD a default).kind≤255) (hn:(l.length:Int) * 4096≤140737488355328):Ctr Try.prog 17 [IntRow mem,Cor.rowR cs,Did.rowR l,Cls.rowR cl] [.agg [.h 0,.i .i64 sh,.i .i64 lk,.i .i64 bu,.h 1],.c (.h 3),.c (.h 2)]
 (Det (.tup [(false,[.i .i64 (staleL mem sh lk bu cs l cl)]),(false,[.i .i64 (askE mem sh lk bu cs l cl)])]) [.dead,.dead,.dead,.dead]):=by
 refine Ctr.intro [] Try.func17 K K ?_
 refine RunF.lens 2 (m:=l.length) K (fun hlens_2=>?_)
 refine RunF.lens 3 (m:=cl.length) K (fun hlens_3=>?_)
 refine RunF.call (vc:=[]) (args:=[SV.agg [C.h 0,C.i .i64 sh,C.i .i64 lk,C.i .i64 bu,C.h 1],SV.c (C.h 3),SV.c (C.h 2)]) e_monitor_asked (c_asked (mem:=mem) (sh:=sh) (lk:=lk) (bu:=bu) (cs:=cs) (l:=l) (cl:=cl) (hw:=by first | assumption | omega | exact hw | exact hl | exact evE_ok (mem:=mem) (bu:=bu) (cs:=cs) (l:=l) V32 | exact evL_ok _ V32 | exact blkL_ok _ V32 | (have hm:=evE_mem (mem:=mem) (sh:=sh) (lk:=lk) (bu:=bu) (cs:=cs) (l:=l) V32;have hs:=evE_ok (mem:=mem) (sh:=sh) (lk:=lk) (bu:=bu) (cs:=cs) (l:=l) V32;grind)) (hl:=by first | assumption | omega | exact hw | exact hl | exact evE_ok (mem:=mem) (bu:=bu) (cs:=cs) (l:=l) V32 | exact evL_ok _ V32 | exact blkL_ok _ V32 | (have hm:=evE_mem (mem:=mem) (sh:=sh) (lk:=lk) (bu:=bu) (cs:=cs) (l:=l) V32;have hs:=evE_ok (mem:=mem) (sh:=sh) (lk:=lk) (bu:=bu) (cs:=cs) (l:=l) V32;grind)) (hn:=by first | assumption | omega | exact hw | exact hl | exact evE_ok (mem:=mem) (bu:=bu) (cs:=cs) (l:=l) V32 | exact evL_ok _ V32 | exact blkL_ok _ V32 | (have hm:=evE_mem (mem:=mem) (sh:=sh) (lk:=lk) (bu:=bu) (cs:=cs) (l:=l) V32;have hs:=evE_ok (mem:=mem) (sh:=sh) (lk:=lk) (bu:=bu) (cs:=cs) (l:=l) V32;grind))) [0,1,2,3] (E:=[mem.length=mem.length,z26_14 mem,cs.length=cs.length,z26_16 cs,l.length=l.length,z26_17 l,cl.length=cl.length,z26_19 cl,sh=sh,lk=lk,bu=bu]) K trivial K R K ?_
 refine RunF.chk [21,7,6,3,1] [.ops [1,0] 4,.code [1,1]] (St.mk 89 [En.mk 21 [] (SV.tup [(false,[C.p 5 0]),(false,[C.i .i64 (askE mem sh lk bu cs l cl)])]),En.mk 7 [] (SV.c (C.i .i64 0)),En.mk 6 [] (SV.c (C.i .i64 0)),En.mk 3 [] (SV.c (C.p 4 0)),En.mk 1 [] (SV.c (C.h 3))] (z26_7 mem cs l cl sh lk bu) []) K ?_
 refine RunF.cond (vc:=[]) (x:=!decide (askE mem sh lk bu cs l cl=(0:Int))) K trivial (fun h1=>?_) (fun h1=>?_)
 ·exact RunF.ret (vc:=[]) (v:=SV.tup [(false,[C.i .i64 0]),(false,[C.i .i64 (askE mem sh lk bu cs l cl)])]) _ _ [0,1,2,3] (E:=[staleL mem sh lk bu cs l cl=(0:Int),askE mem sh lk bu cs l cl=askE mem sh lk bu cs l cl]) K trivial ⟨rfl,rfl⟩ K V15
 ·refine RunF.chk [8,7,6,3,1] [.code [1,1,0,1,1],.code [1,1,1]] (St.mk 89 [En.mk 8 [] (SV.c (C.p 5 0)),En.mk 7 [] (SV.c (C.i .i64 0)),En.mk 6 [] (SV.c (C.i .i64 0)),En.mk 3 [] (SV.c (C.p 4 0)),En.mk 1 [] (SV.c (C.h 3))] (z26_7 mem cs l cl sh lk bu) []) K ?_
  refine RunF.loop (vc:=[(0:Int)≤(0:Int),(0:Int)≤sh,sh≤(↑mem.length:Int),∀ (i j:Nat),i<sh.toNat-0→(j <           match tySize Try.prog 2 with           | some n=>n           | none=>0)→flatT (i64T (mem.getD (0+i) (0:Int)) j),sh.toNat-0≤maxLen,(sh.toNat-0) * 8≤140737488355328]) (L17_0_I mem sh lk bu cs l cl) (L17_0_J mem sh lk bu cs l cl) (L17_0_m mem sh lk bu cs l cl) (((0:Int),(0:Int),(0:Int),List.take (sh.toNat-0) (List.drop 0 mem))) [0,1,2,3,4,5,6,7,8] (E:=[mem.length=mem.length,∀ (i:Nat),i<mem.length→i64T (mem.getD i (0:Int))=i64T (mem.getD i (0:Int)),cs.length=cs.length,∀ (i:Nat),i<cs.length→(cs.getD i default).tc=(cs.getD i default).tc,l.length=l.length,∀ (i:Nat),i<l.length→(l.getD i default).tc=(l.getD i default).tc,cl.length=cl.length,∀ (i:Nat),i<cl.length→(cl.getD i default).tc=(cl.getD i default).tc,sh=sh,lk=lk,bu=bu,sh=sh,lk=lk,bu=bu,z26_21 mem sh lk bu cs l,∀ (i:Nat),i<(evL mem sh lk bu cs l).length→((evL mem sh lk bu cs l).getD i default).tc=((evL mem sh lk bu cs l).getD i default).tc,sh.toNat-0=sh.toNat-0,∀ (i:Nat),i<sh.toNat-0→i64T (mem.getD (0+i) (0:Int))=i64T (mem.getD (0+i) (0:Int)),(List.take (sh.toNat-0) (List.drop 0 mem)).length=sh.toNat-0,∀ (i:Nat),i<(List.take (sh.toNat-0) (List.drop 0 mem)).length→i64T ((List.take (sh.toNat-0) (List.drop 0 mem)).getD i (0:Int))=i64T (mem.getD (0+i) (0:Int)),(0:Int)=(0:Int),z26_22 l,(0:Int)=(0:Int),(0:Int)=(0:Int)]) K V5 K V30 (by dsimp only [L17_0_J];have h0:=askE_ok (mem:=mem) (sh:=sh) (lk:=lk) (bu:=bu) (cs:=cs) (l:=l) (cl:=cl) (by simpa using h1);have hs:=evE_ok h0.1;have hm:=evE_mem h0.1;have hmm:=evE_most h0.1;exact ⟨Int.le_refl _,by omega,by rw [show ((0:Int)).toNat=0 from rfl,nowUp_zero mem l _ _ (by omega)];simp,rfl⟩) ?_
  rintro ⟨x2_0,x2_1,x2_2,x2_3⟩ hJ2
  dsimp only [L17_0_J] at hJ2
  refine RunF.chk [38,37,36,10,7,6,3,1] [.code [1,1,1,1,0,1,0,0],.jmp (z26_10 mem sh lk bu cs l cl x2_0 x2_1 x2_2 x2_3),.blk 0,.code [1,1,1,1,1]] (z26_5 x2_0 l x2_1 x2_2 mem cs cl sh lk bu x2_3) K ?_
  refine RunF.cond (vc:=[]) (x:=decide (x2_0<(↑l.length:Int))) K trivial (fun h3=>?_) (fun h3=>?_)
  ·refine RunF.chk [38,37,36,10,7,6,3,1] [.code [1,1,0,1,1],.code [1,1,1,1,0,1,0,0,1,1],.jmp (z26_10 mem sh lk bu cs l cl x2_0 x2_1 x2_2 x2_3),.blk 0,.code [1,1,1,1,1]] (z26_5 x2_0 l x2_1 x2_2 mem cs cl sh lk bu x2_3) K ?_
   refine RunF.cond (vc:=[(0:Int)≤x2_0,x2_0<(↑l.length:Int),x2_0.toNat<l.length]) (x:=decide (sh≤(l.getD x2_0.toNat default).addr)) K V5 (fun h4=>?_) (fun h4=>?_)
   ·exact RunF.next (I:=L17_0_I mem sh lk bu cs l cl) (J:=L17_0_J mem sh lk bu cs l cl) (m:=L17_0_m mem sh lk bu cs l cl) (x:=(x2_0,x2_1,x2_2,x2_3)) (vc:=[Fits IntKind.i64 (x2_0+(1:Int))]) ((x2_0+(1:Int),x2_1,x2_2,x2_3)) [0,1,2,3,4,5,6,7,8] (E:=(z26_4 mem cs l cl sh lk bu x2_3 x2_0 x2_1 x2_2)) K V5 K R V83 V16
   ·refine RunF.chk [11,12,38,37,36,10,7,6,3,1] [.code [1,1,0,1,1],.code [1,1,1,1,0,1,0,0,1,1,0,0,1,1],.blk 1,.code [1,1,1,1,0,1,0,0,1,1,1],.jmp (z26_10 mem sh lk bu cs l cl x2_0 x2_1 x2_2 x2_3),.blk 0,.code [1,1,1,1,1]] (St.mk 89 [En.mk 11 [] (SV.c (C.i .i64 x2_0)),En.mk 12 [] (SV.c (C.p 9 0)),En.mk 38 [] (SV.c (C.i .i64 x2_0)),z26_32 l,En.mk 36 [] (SV.c (C.h 2)),En.mk 10 [] (SV.c (C.h 8)),En.mk 7 [] (SV.c (C.i .i64 x2_1)),En.mk 6 [] (SV.c (C.i .i64 x2_2)),En.mk 3 [] (SV.c (C.p 4 0)),En.mk 1 [] (SV.c (C.h 3))] (z26_1 mem cs l cl sh lk bu x2_3 x2_0) []) K ?_
    refine RunF.call (vc:=[]) (args:=(z26_9 l x2_0)) e_monitor_reads (c_reads (d:=l.getD x2_0.toNat default) (thing:=(l.getD x2_0.toNat default).addr)) [] (E:=[(l.getD x2_0.toNat default).kind=(l.getD x2_0.toNat default).kind,(l.getD x2_0.toNat default).core=(l.getD x2_0.toNat default).core,(l.getD x2_0.toNat default).pc=(l.getD x2_0.toNat default).pc,z26_35 l x2_0,(l.getD x2_0.toNat default).word=(l.getD x2_0.toNat default).word,(l.getD x2_0.toNat default).put=(l.getD x2_0.toNat default).put,(l.getD x2_0.toNat default).own=(l.getD x2_0.toNat default).own,z26_35 l x2_0]) K trivial K R K ?_
    refine RunF.chk [52,11,12,38,37,36,10,7,6,3,1] [.ops [1,1,1,1,0,1,0,0,1,1,0,0,1,1,0] 4,.code [1,1,1,1,0,1,0,0,1,1,0,0,1,1,1],.blk 1,.code [1,1,1,1,0,1,0,0,1,1,1],.jmp (z26_10 mem sh lk bu cs l cl x2_0 x2_1 x2_2 x2_3),.blk 0,.code [1,1,1,1,1]] (St.mk 89 [En.mk 52 [] (SV.tup [(false,[C.i .i64 (l.getD x2_0.toNat default).word]),(false,[C.b (readB (l.getD x2_0.toNat default) (l.getD x2_0.toNat default).addr)])]),En.mk 11 [] (SV.c (C.i .i64 x2_0)),En.mk 12 [] (SV.c (C.p 9 0)),En.mk 38 [] (SV.c (C.i .i64 x2_0)),z26_32 l,En.mk 36 [] (SV.c (C.h 2)),En.mk 10 [] (SV.c (C.h 8)),En.mk 7 [] (SV.c (C.i .i64 x2_1)),En.mk 6 [] (SV.c (C.i .i64 x2_2)),En.mk 3 [] (SV.c (C.p 4 0)),En.mk 1 [] (SV.c (C.h 3))] (z26_1 mem cs l cl sh lk bu x2_3 x2_0) []) K ?_
    refine RunF.cond (vc:=[readB (l.getD x2_0.toNat default) (l.getD x2_0.toNat default).addr=true→(0:Int)≤(l.getD x2_0.toNat default).addr,readB (l.getD x2_0.toNat default) (l.getD x2_0.toNat default).addr=true→(l.getD x2_0.toNat default).addr<(↑cl.length:Int),readB (l.getD x2_0.toNat default) (l.getD x2_0.toNat default).addr=true→(l.getD x2_0.toNat default).addr.toNat<cl.length,(readB (l.getD x2_0.toNat default) (l.getD x2_0.toNat default).addr&&decide ((cl.getD (l.getD x2_0.toNat default).addr.toNat default).kind=(2:Int)))=true→(0:Int)≤(l.getD x2_0.toNat default).addr,(readB (l.getD x2_0.toNat default) (l.getD x2_0.toNat default).addr&&decide ((cl.getD (l.getD x2_0.toNat default).addr.toNat default).kind=(2:Int)))=true→(l.getD x2_0.toNat default).addr<(↑x2_3.length:Int),(readB (l.getD x2_0.toNat default) (l.getD x2_0.toNat default).addr&&decide ((cl.getD (l.getD x2_0.toNat default).addr.toNat default).kind=(2:Int)))=true→(l.getD x2_0.toNat default).addr.toNat<x2_3.length]) (x:=readB (l.getD x2_0.toNat default) (l.getD x2_0.toNat default).addr&&decide ((cl.getD (l.getD x2_0.toNat default).addr.toNat default).kind=(2:Int))&&!decide ((l.getD x2_0.toNat default).word=x2_3.getD (l.getD x2_0.toNat default).addr.toNat (0:Int))) K V5 (fun h5=>?_) (fun h5=>?_)
    ·exact RunF.ret (vc:=[]) (v:=SV.tup [(false,[C.i .i64 x2_0]),(false,[C.i .i64 0])]) _ _ [0,1,2,3] (E:=[staleL mem sh lk bu cs l cl=x2_0,askE mem sh lk bu cs l cl=(0:Int)]) K trivial ⟨rfl,rfl⟩ K V15
    ·refine RunF.chk [12,38,37,36,10,7,6,3,1] [.code [1,1,0,1,1],.code [1,1,1,1,0,1,0,0,1,1,0,0,1,1,1,1],.blk 1,.code [1,1,1,1,0,1,0,0,1,1,1],.jmp (z26_10 mem sh lk bu cs l cl x2_0 x2_1 x2_2 x2_3),.blk 0,.code [1,1,1,1,1]] (St.mk 89 [En.mk 12 [] (SV.c (C.p 9 0)),En.mk 38 [] (SV.c (C.i .i64 x2_0)),z26_32 l,En.mk 36 [] (SV.c (C.h 2)),En.mk 10 [] (SV.c (C.h 8)),En.mk 7 [] (SV.c (C.i .i64 x2_1)),En.mk 6 [] (SV.c (C.i .i64 x2_2)),En.mk 3 [] (SV.c (C.p 4 0)),En.mk 1 [] (SV.c (C.h 3))] (z26_1 mem cs l cl sh lk bu x2_3 x2_0) []) K ?_
     refine RunF.call (vc:=[]) (args:=(z26_9 l x2_0)) e_monitor_writes (c_writes (d:=l.getD x2_0.toNat default) (thing:=(l.getD x2_0.toNat default).addr)) [] (E:=[(l.getD x2_0.toNat default).kind=(l.getD x2_0.toNat default).kind,(l.getD x2_0.toNat default).core=(l.getD x2_0.toNat default).core,(l.getD x2_0.toNat default).pc=(l.getD x2_0.toNat default).pc,z26_35 l x2_0,(l.getD x2_0.toNat default).word=(l.getD x2_0.toNat default).word,(l.getD x2_0.toNat default).put=(l.getD x2_0.toNat default).put,(l.getD x2_0.toNat default).own=(l.getD x2_0.toNat default).own,z26_35 l x2_0]) K trivial K R K ?_
     refine RunF.chk [79,12,38,37,36,10,7,6,3,1] [.ops [1,1,1,1,0,1,0,0,1,1,0,0,1,1,1,1,0] 4,.code [1,1,1,1,0,1,0,0,1,1,0,0,1,1,1,1,1],.blk 1,.code [1,1,1,1,0,1,0,0,1,1,1],.jmp (z26_10 mem sh lk bu cs l cl x2_0 x2_1 x2_2 x2_3),.blk 0,.code [1,1,1,1,1]] (St.mk 89 [En.mk 79 [] (SV.tup [(false,[C.i .i64 (wrV (l.getD x2_0.toNat default) (l.getD x2_0.toNat default).addr)]),(false,[C.b (wrB (l.getD x2_0.toNat default) (l.getD x2_0.toNat default).addr)])]),En.mk 12 [] (SV.c (C.p 9 0)),En.mk 38 [] (SV.c (C.i .i64 x2_0)),z26_32 l,En.mk 36 [] (SV.c (C.h 2)),En.mk 10 [] (SV.c (C.h 8)),En.mk 7 [] (SV.c (C.i .i64 x2_1)),En.mk 6 [] (SV.c (C.i .i64 x2_2)),En.mk 3 [] (SV.c (C.p 4 0)),En.mk 1 [] (SV.c (C.h 3))] (z26_1 mem cs l cl sh lk bu x2_3 x2_0) []) K ?_
     refine RunF.cond (vc:=[]) (x:=wrB (l.getD x2_0.toNat default) (l.getD x2_0.toNat default).addr) K trivial (fun h6=>?_) (fun h6=>?_)
     ·exact RunF.next (I:=L17_0_I mem sh lk bu cs l cl) (J:=L17_0_J mem sh lk bu cs l cl) (m:=L17_0_m mem sh lk bu cs l cl) (x:=(x2_0,x2_1,x2_2,x2_3)) (vc:=[(0:Int)≤(l.getD x2_0.toNat default).addr,(l.getD x2_0.toNat default).addr<(↑x2_3.length:Int),(l.getD x2_0.toNat default).addr.toNat<x2_3.length,Fits IntKind.i64 (x2_0+(1:Int))]) ((x2_0+(1:Int),x2_1,x2_2,x2_3.set (l.getD x2_0.toNat default).addr.toNat (wrV (l.getD x2_0.toNat default) (l.getD x2_0.toNat default).addr))) [0,1,2,3,4,5,6,7,8] (E:=[mem.length=mem.length,∀ (i:Nat),i<mem.length→i64T (mem.getD i (0:Int))=i64T (mem.getD i (0:Int)),cs.length=cs.length,∀ (i:Nat),i<cs.length→(cs.getD i default).tc=(cs.getD i default).tc,l.length=l.length,∀ (i:Nat),i<l.length→(l.getD i default).tc=(l.getD i default).tc,cl.length=cl.length,∀ (i:Nat),i<cl.length→(cl.getD i default).tc=(cl.getD i default).tc,sh=sh,lk=lk,bu=bu,sh=sh,lk=lk,bu=bu,z26_21 mem sh lk bu cs l,∀ (i:Nat),i<(evL mem sh lk bu cs l).length→((evL mem sh lk bu cs l).getD i default).tc=((evL mem sh lk bu cs l).getD i default).tc,sh.toNat-0=sh.toNat-0,∀ (i:Nat),i<sh.toNat-0→i64T (mem.getD (0+i) (0:Int))=i64T (mem.getD (0+i) (0:Int)),(x2_3.set (l.getD x2_0.toNat default).addr.toNat (wrV (l.getD x2_0.toNat default) (l.getD x2_0.toNat default).addr)).length=x2_3.length,∀ (i:Nat),i<(x2_3.set (l.getD x2_0.toNat default).addr.toNat (wrV (l.getD x2_0.toNat default) (l.getD x2_0.toNat default).addr)).length→i64T ((x2_3.set (l.getD x2_0.toNat default).addr.toNat (wrV (l.getD x2_0.toNat default) (l.getD x2_0.toNat default).addr)).getD i (0:Int))=updT (fun i=>i64T (x2_3.getD i (0:Int))) (l.getD x2_0.toNat default).addr.toNat 0 [Value.int IntKind.i64 (wrV (l.getD x2_0.toNat default) (l.getD x2_0.toNat default).addr)] i,x2_0+(1:Int)=x2_0+(1:Int),z26_22 l,x2_1=x2_1,x2_2=x2_2]) K V5 K V30 V83 V16
     ·exact RunF.next (I:=L17_0_I mem sh lk bu cs l cl) (J:=L17_0_J mem sh lk bu cs l cl) (m:=L17_0_m mem sh lk bu cs l cl) (x:=(x2_0,x2_1,x2_2,x2_3)) (vc:=[Fits IntKind.i64 (x2_0+(1:Int))]) ((x2_0+(1:Int),x2_1,x2_2,x2_3)) [0,1,2,3,4,5,6,7,8] (E:=(z26_4 mem cs l cl sh lk bu x2_3 x2_0 x2_1 x2_2)) K V5 K R V83 V16
  ·exact RunF.ret (vc:=[]) (v:=SV.tup [(false,[C.i .i64 (-1:Int)]),(false,[C.i .i64 0])]) _ _ [0,1,2,3] (E:=[staleL mem sh lk bu cs l cl=(-1:Int),askE mem sh lk bu cs l cl=(0:Int)]) K trivial ⟨rfl,rfl⟩ K V15
def L18_0_I (mem:List Int) (sh:Int) (lk:Int) (bu:Int) (cs:List Cor) (l:List Did) (cl:List Cls):Int×Int×Int×List Int→St:=fun x=>{ N:=87,fr:=[{ slot:=41,g:=[],sv:=SV.c (C.i .i64 x.1) },{ slot:=40,g:=[],sv:=SV.c (C.i .i64 (↑l.length:Int)) },{ slot:=39,g:=[],sv:=SV.c (C.h 2) },{ slot:=10,g:=[],sv:=SV.c (C.h 6) },{ slot:=7,g:=[],sv:=SV.c (C.i .i64 x.2.1) },{ slot:=6,g:=[],sv:=SV.c (C.i .i64 x.2.2.1) },{ slot:=1,g:=[],sv:=SV.c (C.h 3) }],rg:=[z26_27 mem,z26_28 cs,z26_30 l,z26_29 cl,z26_26 sh lk bu,z26_25 mem sh lk bu cs l,WordOwn (x.2.2.2)],wr:=[] }
def L18_0_J (mem:List Int) (sh:Int) (lk:Int) (bu:Int) (cs:List Cor) (l:List Did) (cl:List Cls):Int×Int×Int×List Int→Prop:=fun x=>0≤x.1∧x.1≤(l.length:Int)∧x.2.2.2=nowUp mem l mem.length sh.toNat x.1.toNat∧findFrom (staleP mem sh l cl) 0 l.length=findFrom (staleP mem sh l cl) x.1 l.length
def L18_0_m (mem:List Int) (sh:Int) (lk:Int) (bu:Int) (cs:List Cor) (l:List Did) (cl:List Cls):Int×Int×Int×List Int→Nat:=fun x=>((l.length:Int)-x.1).toNat
abbrev z26_2 (l:List Did) (x3_0:Int):=[C.i .u8 (l.getD x3_0.toNat default).kind,C.i .i64 (l.getD x3_0.toNat default).core,C.i .i64 (l.getD x3_0.toNat default).pc,C.i .i64 (l.getD x3_0.toNat default).addr,C.i .i64 (l.getD x3_0.toNat default).word,C.i .i64 (l.getD x3_0.toNat default).put,C.b (l.getD x3_0.toNat default).own]
def L18_1_I (mem:List Int) (sh:Int) (lk:Int) (bu:Int) (cs:List Cor) (l:List Did) (cl:List Cls) (x3_0:Int) (x3_1:Int) (x3_2:Int) (x3_3:List Int):Int×Int×Int×List Int→St:=fun x=>{ N:=87,fr:=[{ slot:=48,g:=[],sv:=SV.c (C.i .i64 x.1) },{ slot:=47,g:=[],sv:=SV.c (C.i .i64 (↑cl.length:Int)) },{ slot:=46,g:=[],sv:=SV.c (C.h 3) },{ slot:=11,g:=[],sv:=SV.c (C.i .i64 x3_0) },{ slot:=12,g:=[],sv:=SV.c (C.p 7 0) },{ slot:=41,g:=[],sv:=SV.c (C.i .i64 x3_0) },{ slot:=40,g:=[],sv:=SV.c (C.i .i64 (↑l.length:Int)) },{ slot:=39,g:=[],sv:=SV.c (C.h 2) },{ slot:=10,g:=[],sv:=SV.c (C.h 6) },{ slot:=7,g:=[],sv:=SV.c (C.i .i64 x.2.1) },{ slot:=6,g:=[],sv:=SV.c (C.i .i64 x.2.2.1) },{ slot:=1,g:=[],sv:=SV.c (C.h 3) }],rg:=[z26_27 mem,z26_28 cs,z26_30 l,z26_29 cl,z26_26 sh lk bu,z26_25 mem sh lk bu cs l,WordOwn (x.2.2.2),Reg.box 75 (z26_2 l x3_0)],wr:=[] }
def L18_1_J (mem:List Int) (sh:Int) (lk:Int) (bu:Int) (cs:List Cor) (l:List Did) (cl:List Cls) (x3_0:Int) (x3_1:Int) (x3_2:Int) (x3_3:List Int):Int×Int×Int×List Int→Prop:=fun x=>0≤x.1∧x.1≤(cl.length:Int)∧x.2.2.2=mixUp mem l mem.length sh.toNat x3_0 x.1∧((didAt l x3_0).addr<x.1→(staleP mem sh l cl) x3_0=true)
def L18_1_m (mem:List Int) (sh:Int) (lk:Int) (bu:Int) (cs:List Cor) (l:List Did) (cl:List Cls) (x3_0:Int) (x3_1:Int) (x3_2:Int) (x3_3:List Int):Int×Int×Int×List Int→Nat:=fun x=>((cl.length:Int)-x.1).toNat
abbrev z26_3 (mem:List Int) (cs:List Cor) (l:List Did) (cl:List Cls) (sh:Int) (lk:Int) (bu:Int):=[z26_27 mem,z26_28 cs,z26_30 l,z26_29 cl,z26_26 sh lk bu,z26_25 mem sh lk bu cs l]
abbrev z26_33 (l:List Did):=En.mk 40 [] (SV.c (C.i .i64 (↑l.length:Int)))
abbrev z26_6 (x3_0:Int) (l:List Did) (x3_1:Int) (x3_2:Int) (mem:List Int) (cs:List Cor) (cl:List Cls) (sh:Int) (lk:Int) (bu:Int) (x3_3:List Int):=(St.mk 87 [En.mk 41 [] (SV.c (C.i .i64 x3_0)),z26_33 l,En.mk 39 [] (SV.c (C.h 2)),En.mk 10 [] (SV.c (C.h 6)),En.mk 7 [] (SV.c (C.i .i64 x3_1)),En.mk 6 [] (SV.c (C.i .i64 x3_2)),En.mk 1 [] (SV.c (C.h 3))] [z26_27 mem,z26_28 cs,z26_30 l,z26_29 cl,z26_26 sh lk bu,z26_25 mem sh lk bu cs l,Reg.own 2 1 x3_3.length (fun i=>i64T (x3_3.getD i (0:Int))) none] [])
abbrev z26_8 (mem:List Int) (sh:Int) (lk:Int) (bu:Int) (cs:List Cor) (l:List Did) (cl:List Cls) (x3_0:Int) (x3_1:Int) (x3_2:Int) (x3_3:List Int):=(Tx.Next (L18_0_I mem sh lk bu cs l cl) (L18_0_J mem sh lk bu cs l cl) (L18_0_m mem sh lk bu cs l cl) (x3_0,x3_1,x3_2,x3_3))
abbrev z26_43 (cl:List Cls):=En.mk 47 [] (SV.c (C.i .i64 (↑cl.length:Int)))
abbrev z26_11 (x5_0:Int) (cl:List Cls) (x3_0:Int) (l:List Did) (x5_1:Int) (x5_2:Int):=[En.mk 48 [] (SV.c (C.i .i64 x5_0)),z26_43 cl,En.mk 46 [] (SV.c (C.h 3)),En.mk 11 [] (SV.c (C.i .i64 x3_0)),En.mk 12 [] (SV.c (C.p 7 0)),En.mk 41 [] (SV.c (C.i .i64 x3_0)),z26_33 l,En.mk 39 [] (SV.c (C.h 2)),En.mk 10 [] (SV.c (C.h 6)),En.mk 7 [] (SV.c (C.i .i64 x5_1)),En.mk 6 [] (SV.c (C.i .i64 x5_2)),En.mk 1 [] (SV.c (C.h 3))]
abbrev z26_12 (mem:List Int) (sh:Int) (lk:Int) (bu:Int) (cs:List Cor) (l:List Did) (cl:List Cls) (x3_0:Int) (x3_1:Int) (x3_2:Int) (x3_3:List Int) (x5_0:Int) (x5_1:Int) (x5_2:Int) (x5_3:List Int):=(Tx.Next (L18_1_I mem sh lk bu cs l cl x3_0 x3_1 x3_2 x3_3) (L18_1_J mem sh lk bu cs l cl x3_0 x3_1 x3_2 x3_3) (L18_1_m mem sh lk bu cs l cl x3_0 x3_1 x3_2 x3_3) (x5_0,x5_1,x5_2,x5_3))
abbrev z26_13 (mem:List Int) (cs:List Cor) (l:List Did) (cl:List Cls) (sh:Int) (lk:Int) (bu:Int) (x5_3:List Int) (x3_0:Int) (x5_0:Int):=[z26_27 mem,z26_28 cs,z26_30 l,z26_29 cl,z26_26 sh lk bu,z26_25 mem sh lk bu cs l,Reg.own 2 1 x5_3.length (fun i=>i64T (x5_3.getD i (0:Int))) none,Reg.box 75 (z26_2 l x3_0),Reg.box 72 [C.i .u8 (cl.getD x5_0.toNat default).kind,C.i .i64 (cl.getD x5_0.toNat default).thread,C.i .i64 (cl.getD x5_0.toNat default).lock]]
abbrev z26_18 (mem:List Int) (cs:List Cor) (l:List Did) (cl:List Cls) (sh:Int) (lk:Int) (bu:Int) (x5_3:List Int) (x3_0:Int):=[z26_27 mem,z26_28 cs,z26_30 l,z26_29 cl,z26_26 sh lk bu,z26_25 mem sh lk bu cs l,Reg.own 2 1 x5_3.length (fun i=>i64T (x5_3.getD i (0:Int))) none,Reg.box 75 (z26_2 l x3_0)]
abbrev z26_24 (l:List Did) (x3_0:Int):=(l.getD x3_0.toNat default).kind=(l.getD x3_0.toNat default).kind
abbrev z26_37 (l:List Did) (x3_0:Int):=(l.getD x3_0.toNat default).core=(l.getD x3_0.toNat default).core
abbrev z26_38 (l:List Did) (x3_0:Int):=(l.getD x3_0.toNat default).addr=(l.getD x3_0.toNat default).addr
abbrev z26_39 (l:List Did) (x3_0:Int):=(l.getD x3_0.toNat default).word=(l.getD x3_0.toNat default).word
abbrev z26_40 (l:List Did) (x3_0:Int):=(l.getD x3_0.toNat default).put=(l.getD x3_0.toNat default).put
abbrev z26_41 (l:List Did) (x3_0:Int):=(l.getD x3_0.toNat default).own=(l.getD x3_0.toNat default).own
abbrev z26_42 (l:List Did) (x3_0:Int):=(l.getD x3_0.toNat default).pc=(l.getD x3_0.toNat default).pc
abbrev z26_31 (l:List Did) (x3_0:Int) (x5_0:Int):=[z26_24 l x3_0,z26_37 l x3_0,z26_42 l x3_0,z26_38 l x3_0,z26_39 l x3_0,z26_40 l x3_0,z26_41 l x3_0,x5_0=x5_0]
abbrev z26_34:=[1,1,1,1,1,1,0,1,0,0,1,1,1]
abbrev z26_36:=[1,1,1,1,1,1,0,1,0,0,1,1,0,0,1,1,0,0,1,1,1]
abbrev z26_44 (mem:List Int) (sh:Int) (lk:Int) (bu:Int) (cs:List Cor) (l:List Did) (cl:List Cls):=(St.mk 87 [En.mk 9 [] (SV.c (C.i .i64 (evE mem sh lk bu cs l))),En.mk 7 [] (SV.c (C.i .i64 0)),En.mk 6 [] (SV.c (C.i .i64 0)),En.mk 3 [] (SV.c (C.p 4 0)),En.mk 1 [] (SV.c (C.h 3)),En.mk 2 [] (SV.c (C.h 2))] (z26_3 mem cs l cl sh lk bu) [])
theorem c_stale_ref (mem:List Int) (sh lk bu:Int) (cs:List Cor) (l:List Did) (cl:List Cls) (hw:∀ a b:Nat,insK ((cs.getD a default).code.getD b default)) (hl:∀ a:Nat,0≤(l.getD a default).kind∧(l.getD a default).kind≤255) (hn:(l.length:Int) * 4096≤140737488355328):Ctr Try.prog 18 [IntRow mem,Cor.rowR cs,Did.rowR l,Cls.rowR cl] [.agg [.h 0,.i .i64 sh,.i .i64 lk,.i .i64 bu,.h 1],.c (.h 3),.c (.h 2)]
 (Det (.tup [(false,[.i .i64 (staleL mem sh lk bu cs l cl)]),(false,[.i .i64 (askE mem sh lk bu cs l cl)])]) [.dead,.dead,.dead,.dead]):=by
 refine Ctr.intro [] Try.func18 K K ?_
 refine RunF.lens 2 (m:=l.length) K (fun hlens_2=>?_)
 refine RunF.lens 3 (m:=cl.length) K (fun hlens_3=>?_)
 refine RunF.call (vc:=[]) (args:=[SV.agg [C.h 0,C.i .i64 sh,C.i .i64 lk,C.i .i64 bu,C.h 1],SV.c (C.h 2)]) e_stileref19_Events (c_events_ref (mem:=mem) (sh:=sh) (lk:=lk) (bu:=bu) (cs:=cs) (l:=l) (hw:=by first | assumption | omega | exact hw | exact hl | exact evE_ok (mem:=mem) (bu:=bu) (cs:=cs) (l:=l) V32 | exact evL_ok _ V32 | exact blkL_ok _ V32 | (have hm:=evE_mem (mem:=mem) (sh:=sh) (lk:=lk) (bu:=bu) (cs:=cs) (l:=l) V32;have hs:=evE_ok (mem:=mem) (sh:=sh) (lk:=lk) (bu:=bu) (cs:=cs) (l:=l) V32;grind)) (hl:=by first | assumption | omega | exact hw | exact hl | exact evE_ok (mem:=mem) (bu:=bu) (cs:=cs) (l:=l) V32 | exact evL_ok _ V32 | exact blkL_ok _ V32 | (have hm:=evE_mem (mem:=mem) (sh:=sh) (lk:=lk) (bu:=bu) (cs:=cs) (l:=l) V32;have hs:=evE_ok (mem:=mem) (sh:=sh) (lk:=lk) (bu:=bu) (cs:=cs) (l:=l) V32;grind)) (hn:=by first | assumption | omega | exact hw | exact hl | exact evE_ok (mem:=mem) (bu:=bu) (cs:=cs) (l:=l) V32 | exact evL_ok _ V32 | exact blkL_ok _ V32 | (have hm:=evE_mem (mem:=mem) (sh:=sh) (lk:=lk) (bu:=bu) (cs:=cs) (l:=l) V32;have hs:=evE_ok (mem:=mem) (sh:=sh) (lk:=lk) (bu:=bu) (cs:=cs) (l:=l) V32;grind))) [0,1,2] (E:=[mem.length=mem.length,z26_14 mem,cs.length=cs.length,z26_16 cs,l.length=l.length,z26_17 l,sh=sh,lk=lk,bu=bu]) K trivial K R K ?_
 refine RunF.chk [20,7,6,3,1,2] [.ops [1,0] 3,.code [1,1]] (St.mk 87 [En.mk 20 [] (SV.tup [(false,[C.h 5]),(false,[C.i .i64 (evE mem sh lk bu cs l)])]),En.mk 7 [] (SV.c (C.i .i64 0)),En.mk 6 [] (SV.c (C.i .i64 0)),En.mk 3 [] (SV.c (C.p 4 0)),En.mk 1 [] (SV.c (C.h 3)),En.mk 2 [] (SV.c (C.h 2))] (z26_3 mem cs l cl sh lk bu) []) K ?_
 refine RunF.cond (vc:=[]) (x:=decide (evE mem sh lk bu cs l=(0:Int))&&!decide ((↑cl.length:Int)=sh)) K trivial (fun h1=>?_) (fun h1=>?_)
 ·refine RunF.chk [9,7,6,3,1,2] [.code [1,1,0,1,0],.code [1,1,1]] (z26_44 mem sh lk bu cs l cl) K ?_
  refine RunF.cond (vc:=[]) (x:=!decide ((210:Int)=(0:Int))) K trivial (fun h2=>?_) (fun h2=>?_)
  ·exact RunF.ret (vc:=[]) (v:=SV.tup [(false,[C.i .i64 0]),(false,[C.i .i64 210])]) _ _ [0,1,2,3] (E:=[staleL mem sh lk bu cs l cl=(0:Int),askE mem sh lk bu cs l cl=(210:Int)]) K trivial ⟨rfl,rfl⟩ K V6
  ·exact absurd h2 (by decide)
 ·refine RunF.chk [9,7,6,3,1,2] [.code [1,1,0,1,1],.code [1,1,1]] (z26_44 mem sh lk bu cs l cl) K ?_
  refine RunF.cond (vc:=[]) (x:=!decide (evE mem sh lk bu cs l=(0:Int))) K trivial (fun h2=>?_) (fun h2=>?_)
  ·exact RunF.ret (vc:=[]) (v:=SV.tup [(false,[C.i .i64 0]),(false,[C.i .i64 (evE mem sh lk bu cs l)])]) _ _ [0,1,2,3] (E:=[staleL mem sh lk bu cs l cl=(0:Int),askE mem sh lk bu cs l cl=evE mem sh lk bu cs l]) K trivial ⟨rfl,rfl⟩ K V6
  ·refine RunF.chk [7,6,3,1,2] [.code [1,1,0,1,1],.code [1,1,1,1]] (St.mk 87 [En.mk 7 [] (SV.c (C.i .i64 0)),En.mk 6 [] (SV.c (C.i .i64 0)),En.mk 3 [] (SV.c (C.p 4 0)),En.mk 1 [] (SV.c (C.h 3)),En.mk 2 [] (SV.c (C.h 2))] (z26_3 mem cs l cl sh lk bu) []) K ?_
   refine RunF.loop (vc:=[∀ (i j:Nat),i<mem.length→(j <           match tySize Try.prog 2 with           | some n=>n           | none=>0)→flatT (i64T (mem.getD i (0:Int)) j),mem.length≤maxLen,mem.length * 8≤140737488355328]) (L18_0_I mem sh lk bu cs l cl) (L18_0_J mem sh lk bu cs l cl) (L18_0_m mem sh lk bu cs l cl) (((0:Int),(0:Int),(0:Int),mem)) [0,1,2,3,4,5,6] (E:=[mem.length=mem.length,z26_14 mem,cs.length=cs.length,z26_16 cs,l.length=l.length,z26_17 l,cl.length=cl.length,z26_19 cl,sh=sh,lk=lk,bu=bu,z26_21 mem sh lk bu cs l,z26_15 mem sh lk bu cs l,mem.length=mem.length,z26_14 mem,(0:Int)=(0:Int),z26_22 l,(0:Int)=(0:Int),(0:Int)=(0:Int)]) K V3 K R (by dsimp only [L18_0_J];have h0:=askE_ok (mem:=mem) (sh:=sh) (lk:=lk) (bu:=bu) (cs:=cs) (l:=l) (cl:=cl) (by simp only [askE];simp only [BL] at *;grind);have hs:=evE_ok h0.1;have hm:=evE_mem h0.1;have hmm:=evE_most h0.1;exact ⟨Int.le_refl _,by omega,by rw [show ((0:Int)).toNat=0 from rfl,nowUp_zero mem l _ _ (Nat.le_refl _)];simp,rfl⟩) ?_
   rintro ⟨x3_0,x3_1,x3_2,x3_3⟩ hJ3
   dsimp only [L18_0_J] at hJ3
   refine RunF.chk [41,40,39,10,7,6,1] [.code [1,1,1,1,1,1,0,1,0,0],.jmp (z26_8 mem sh lk bu cs l cl x3_0 x3_1 x3_2 x3_3),.blk 0,.code [1,1,1,1,1,1,1]] (z26_6 x3_0 l x3_1 x3_2 mem cs cl sh lk bu x3_3) K ?_
   refine RunF.cond (vc:=[]) (x:=decide (x3_0<(↑l.length:Int))) K trivial (fun h4=>?_) (fun h4=>?_)
   ·refine RunF.chk [41,40,39,10,7,6,1] [.code [1,1,0,1,1],.code [1,1,1,1,1,1,0,1,0,0,1,1],.jmp (z26_8 mem sh lk bu cs l cl x3_0 x3_1 x3_2 x3_3),.blk 0,.code [1,1,1,1,1,1,1]] (z26_6 x3_0 l x3_1 x3_2 mem cs cl sh lk bu x3_3) K ?_
    refine RunF.loop (vc:=[(0:Int)≤x3_0,x3_0<(↑l.length:Int),x3_0.toNat<l.length]) (L18_1_I mem sh lk bu cs l cl x3_0 x3_1 x3_2 x3_3) (L18_1_J mem sh lk bu cs l cl x3_0 x3_1 x3_2 x3_3) (L18_1_m mem sh lk bu cs l cl x3_0 x3_1 x3_2 x3_3) (((0:Int),x3_1,x3_2,x3_3)) [0,1,2,3,4,5,6,7] (E:=[mem.length=mem.length,z26_14 mem,cs.length=cs.length,z26_16 cs,l.length=l.length,z26_17 l,cl.length=cl.length,z26_19 cl,sh=sh,lk=lk,bu=bu,z26_21 mem sh lk bu cs l,z26_15 mem sh lk bu cs l,x3_3.length=x3_3.length,∀ (i:Nat),i<x3_3.length→i64T (x3_3.getD i (0:Int))=i64T (x3_3.getD i (0:Int)),z26_24 l x3_0,z26_37 l x3_0,z26_42 l x3_0,z26_38 l x3_0,z26_39 l x3_0,z26_40 l x3_0,z26_41 l x3_0,(0:Int)=(0:Int),(↑cl.length:Int)=(↑cl.length:Int),x3_0=x3_0,x3_0=x3_0,z26_22 l,x3_1=x3_1,x3_2=x3_2]) K V3 K R (by dsimp only [L18_1_J];have h0:=askE_ok (mem:=mem) (sh:=sh) (lk:=lk) (bu:=bu) (cs:=cs) (l:=l) (cl:=cl) (by simp only [askE];simp only [BL] at *;grind);have hs:=evE_ok h0.1;have hm:=evE_mem h0.1;have hmm:=evE_most h0.1;have hd:=did_addr h0.1 (i:=x3_0) hJ3.1 (by simp only [BL] at *;omega);exact ⟨Int.le_refl _,by omega,by rw [hJ3.2.2.1,mix_zero],fun h=>by omega⟩) ?_
    rintro ⟨x5_0,x5_1,x5_2,x5_3⟩ hJ5
    dsimp only [L18_1_J] at hJ5
    refine RunF.chk [48,47,46,11,12,41,40,39,10,7,6,1] [.code [1,1,1,1,1,1,0,1,0,0,1,1,0,0,1,1,0,0],.jmp (z26_12 mem sh lk bu cs l cl x3_0 x3_1 x3_2 x3_3 x5_0 x5_1 x5_2 x5_3),.blk 2,.blk 1,.code z26_34,.jmp (z26_8 mem sh lk bu cs l cl x3_0 x3_1 x3_2 x3_3),.blk 0,.code [1,1,1,1,1,1,1]] (St.mk 87 (z26_11 x5_0 cl x3_0 l x5_1 x5_2) (z26_18 mem cs l cl sh lk bu x5_3 x3_0) []) K ?_
    refine RunF.cond (vc:=[]) (x:=decide (x5_0<(↑cl.length:Int))) K trivial (fun h6=>?_) (fun h6=>?_)
    ·refine RunF.chk [48,47,46,11,12,41,40,39,10,7,6,1] [.code [1,1,0,1,1],.code [1,1,1,1,1,1,0,1,0,0,1,1,0,0,1,1,0,0,1,1],.jmp (z26_12 mem sh lk bu cs l cl x3_0 x3_1 x3_2 x3_3 x5_0 x5_1 x5_2 x5_3),.blk 2,.blk 1,.code z26_34,.jmp (z26_8 mem sh lk bu cs l cl x3_0 x3_1 x3_2 x3_3),.blk 0,.code [1,1,1,1,1,1,1]] (St.mk 87 (z26_11 x5_0 cl x3_0 l x5_1 x5_2) (z26_18 mem cs l cl sh lk bu x5_3 x3_0) []) K ?_
     refine RunF.call (vc:=[(0:Int)≤x5_0,x5_0<(↑cl.length:Int),x5_0.toNat<cl.length]) (args:=[SV.agg (z26_2 l x3_0),SV.c (C.i .i64 x5_0)]) e_stileref23_reads (c_reads_ref (d:=l.getD x3_0.toNat default) (thing:=x5_0)) [] (E:=(z26_31 l x3_0 x5_0)) K V3 K R K ?_
     refine RunF.chk [56,13,14,48,47,46,11,12,41,40,39,10,7,6,1] [.ops [1,1,1,1,1,1,0,1,0,0,1,1,0,0,1,1,0,0,1,1,0,0,1,0] 3,.code [1,1,1,1,1,1,0,1,0,0,1,1,0,0,1,1,0,0,1,1,0,0,1,1],.blk 3,.code z26_36,.jmp (z26_12 mem sh lk bu cs l cl x3_0 x3_1 x3_2 x3_3 x5_0 x5_1 x5_2 x5_3),.blk 2,.blk 1,.code z26_34,.jmp (z26_8 mem sh lk bu cs l cl x3_0 x3_1 x3_2 x3_3),.blk 0,.code [1,1,1,1,1,1,1]] (St.mk 87 [En.mk 56 [] (SV.tup [(false,[C.i .i64 (l.getD x3_0.toNat default).word]),(false,[C.b (readB (l.getD x3_0.toNat default) x5_0)])]),En.mk 13 [] (SV.c (C.i .i64 x5_0)),En.mk 14 [] (SV.c (C.p 8 0)),En.mk 48 [] (SV.c (C.i .i64 x5_0)),z26_43 cl,En.mk 46 [] (SV.c (C.h 3)),En.mk 11 [] (SV.c (C.i .i64 x3_0)),En.mk 12 [] (SV.c (C.p 7 0)),En.mk 41 [] (SV.c (C.i .i64 x3_0)),z26_33 l,En.mk 39 [] (SV.c (C.h 2)),En.mk 10 [] (SV.c (C.h 6)),En.mk 7 [] (SV.c (C.i .i64 x5_1)),En.mk 6 [] (SV.c (C.i .i64 x5_2)),En.mk 1 [] (SV.c (C.h 3))] (z26_13 mem cs l cl sh lk bu x5_3 x3_0 x5_0) []) K ?_
     refine RunF.cond (vc:=[(readB (l.getD x3_0.toNat default) x5_0&&decide ((cl.getD x5_0.toNat default).kind=(2:Int)))=true→(0:Int)≤x5_0,(readB (l.getD x3_0.toNat default) x5_0&&decide ((cl.getD x5_0.toNat default).kind=(2:Int)))=true→x5_0<(↑x5_3.length:Int),(readB (l.getD x3_0.toNat default) x5_0&&decide ((cl.getD x5_0.toNat default).kind=(2:Int)))=true→x5_0.toNat<x5_3.length]) (x:=readB (l.getD x3_0.toNat default) x5_0&&decide ((cl.getD x5_0.toNat default).kind=(2:Int))&&!decide ((l.getD x3_0.toNat default).word=x5_3.getD x5_0.toNat (0:Int))) K V3 (fun h7=>?_) (fun h7=>?_)
     ·exact RunF.ret (vc:=[]) (v:=SV.tup [(false,[C.i .i64 x3_0]),(false,[C.i .i64 0])]) _ _ [0,1,2,3] (E:=[staleL mem sh lk bu cs l cl=x3_0,askE mem sh lk bu cs l cl=(0:Int)]) K trivial ⟨rfl,rfl⟩ K V6
     ·refine RunF.chk [16,15,13,48,47,46,11,12,41,40,39,10,7,6,1] [.code [1,1,0,1,1],.code [1,1,1,1,1,1,0,1,0,0,1,1,0,0,1,1,0,0,1,1,0,0,1,1,1],.blk 3,.code z26_36,.jmp (z26_12 mem sh lk bu cs l cl x3_0 x3_1 x3_2 x3_3 x5_0 x5_1 x5_2 x5_3),.blk 2,.blk 1,.code z26_34,.jmp (z26_8 mem sh lk bu cs l cl x3_0 x3_1 x3_2 x3_3),.blk 0,.code [1,1,1,1,1,1,1]] (St.mk 87 [En.mk 16 [] (SV.c (C.b (readB (l.getD x3_0.toNat default) x5_0))),En.mk 15 [] (SV.c (C.i .i64 (l.getD x3_0.toNat default).word)),En.mk 13 [] (SV.c (C.i .i64 x5_0)),En.mk 48 [] (SV.c (C.i .i64 x5_0)),z26_43 cl,En.mk 46 [] (SV.c (C.h 3)),En.mk 11 [] (SV.c (C.i .i64 x3_0)),En.mk 12 [] (SV.c (C.p 7 0)),En.mk 41 [] (SV.c (C.i .i64 x3_0)),z26_33 l,En.mk 39 [] (SV.c (C.h 2)),En.mk 10 [] (SV.c (C.h 6)),En.mk 7 [] (SV.c (C.i .i64 x5_1)),En.mk 6 [] (SV.c (C.i .i64 x5_2)),En.mk 1 [] (SV.c (C.h 3))] (z26_13 mem cs l cl sh lk bu x5_3 x3_0 x5_0) []) K ?_
      refine RunF.call (vc:=[]) (args:=[SV.agg (z26_2 l x3_0),SV.c (C.i .i64 x5_0)]) e_stileref23_writes (c_writes_ref (d:=l.getD x3_0.toNat default) (thing:=x5_0)) [] (E:=(z26_31 l x3_0 x5_0)) K trivial K R K ?_
      refine RunF.chk [77,16,15,13,48,47,46,11,12,41,40,39,10,7,6,1] [.ops [1,1,1,1,1,1,0,1,0,0,1,1,0,0,1,1,0,0,1,1,0,0,1,1,1,0] 3,.code [1,1,1,1,1,1,0,1,0,0,1,1,0,0,1,1,0,0,1,1,0,0,1,1,1,1],.blk 3,.code z26_36,.jmp (z26_12 mem sh lk bu cs l cl x3_0 x3_1 x3_2 x3_3 x5_0 x5_1 x5_2 x5_3),.blk 2,.blk 1,.code z26_34,.jmp (z26_8 mem sh lk bu cs l cl x3_0 x3_1 x3_2 x3_3),.blk 0,.code [1,1,1,1,1,1,1]] (St.mk 87 [En.mk 77 [] (SV.tup [(false,[C.i .i64 (wrV (l.getD x3_0.toNat default) x5_0)]),(false,[C.b (wrB (l.getD x3_0.toNat default) x5_0)])]),En.mk 16 [] (SV.c (C.b (readB (l.getD x3_0.toNat default) x5_0))),En.mk 15 [] (SV.c (C.i .i64 (l.getD x3_0.toNat default).word)),En.mk 13 [] (SV.c (C.i .i64 x5_0)),En.mk 48 [] (SV.c (C.i .i64 x5_0)),z26_43 cl,En.mk 46 [] (SV.c (C.h 3)),En.mk 11 [] (SV.c (C.i .i64 x3_0)),En.mk 12 [] (SV.c (C.p 7 0)),En.mk 41 [] (SV.c (C.i .i64 x3_0)),z26_33 l,En.mk 39 [] (SV.c (C.h 2)),En.mk 10 [] (SV.c (C.h 6)),En.mk 7 [] (SV.c (C.i .i64 x5_1)),En.mk 6 [] (SV.c (C.i .i64 x5_2)),En.mk 1 [] (SV.c (C.h 3))] (z26_13 mem cs l cl sh lk bu x5_3 x3_0 x5_0) []) K ?_
      refine RunF.cond (vc:=[]) (x:=wrB (l.getD x3_0.toNat default) x5_0) K trivial (fun h8=>?_) (fun h8=>?_)
      ·exact RunF.next (I:=L18_1_I mem sh lk bu cs l cl x3_0 x3_1 x3_2 x3_3) (J:=L18_1_J mem sh lk bu cs l cl x3_0 x3_1 x3_2 x3_3) (m:=L18_1_m mem sh lk bu cs l cl x3_0 x3_1 x3_2 x3_3) (x:=(x5_0,x5_1,x5_2,x5_3)) (vc:=[(0:Int)≤x5_0,x5_0<(↑x5_3.length:Int),x5_0.toNat<x5_3.length,Fits IntKind.i64 (x5_0+(1:Int))]) ((x5_0+(1:Int),x5_1,x5_2,x5_3.set x5_0.toNat (wrV (l.getD x3_0.toNat default) x5_0))) [0,1,2,3,4,5,6,7] (E:=[mem.length=mem.length,∀ (i:Nat),i<mem.length→i64T (mem.getD i (0:Int))=i64T (mem.getD i (0:Int)),cs.length=cs.length,∀ (i:Nat),i<cs.length→(cs.getD i default).tc=(cs.getD i default).tc,l.length=l.length,∀ (i:Nat),i<l.length→(l.getD i default).tc=(l.getD i default).tc,cl.length=cl.length,∀ (i:Nat),i<cl.length→(cl.getD i default).tc=(cl.getD i default).tc,sh=sh,lk=lk,bu=bu,z26_21 mem sh lk bu cs l,∀ (i:Nat),i<(evL mem sh lk bu cs l).length→((evL mem sh lk bu cs l).getD i default).tc=((evL mem sh lk bu cs l).getD i default).tc,(x5_3.set x5_0.toNat (wrV (l.getD x3_0.toNat default) x5_0)).length=x5_3.length,∀ (i:Nat),i<(x5_3.set x5_0.toNat (wrV (l.getD x3_0.toNat default) x5_0)).length→i64T ((x5_3.set x5_0.toNat (wrV (l.getD x3_0.toNat default) x5_0)).getD i (0:Int))=updT (fun i=>i64T (x5_3.getD i (0:Int))) x5_0.toNat 0 [Value.int IntKind.i64 (wrV (l.getD x3_0.toNat default) x5_0)] i,z26_24 l x3_0,z26_37 l x3_0,z26_42 l x3_0,z26_38 l x3_0,z26_39 l x3_0,z26_40 l x3_0,z26_41 l x3_0,x5_0+(1:Int)=x5_0+(1:Int),(↑cl.length:Int)=(↑cl.length:Int),x3_0=x3_0,x3_0=x3_0,z26_22 l,x5_1=x5_1,x5_2=x5_2]) K V3 K V30 V69 V28
      ·exact RunF.next (I:=L18_1_I mem sh lk bu cs l cl x3_0 x3_1 x3_2 x3_3) (J:=L18_1_J mem sh lk bu cs l cl x3_0 x3_1 x3_2 x3_3) (m:=L18_1_m mem sh lk bu cs l cl x3_0 x3_1 x3_2 x3_3) (x:=(x5_0,x5_1,x5_2,x5_3)) (vc:=[Fits IntKind.i64 (x5_0+(1:Int))]) ((x5_0+(1:Int),x5_1,x5_2,x5_3)) [0,1,2,3,4,5,6,7] (E:=[mem.length=mem.length,z26_14 mem,cs.length=cs.length,z26_16 cs,l.length=l.length,z26_17 l,cl.length=cl.length,z26_19 cl,sh=sh,lk=lk,bu=bu,z26_21 mem sh lk bu cs l,z26_15 mem sh lk bu cs l,x5_3.length=x5_3.length,∀ (i:Nat),i<x5_3.length→i64T (x5_3.getD i (0:Int))=i64T (x5_3.getD i (0:Int)),z26_24 l x3_0,z26_37 l x3_0,z26_42 l x3_0,z26_38 l x3_0,z26_39 l x3_0,z26_40 l x3_0,z26_41 l x3_0,x5_0+(1:Int)=x5_0+(1:Int),(↑cl.length:Int)=(↑cl.length:Int),x3_0=x3_0,x3_0=x3_0,z26_22 l,x5_1=x5_1,x5_2=x5_2]) K V3 K R V69 V28
    ·exact RunF.next (I:=L18_0_I mem sh lk bu cs l cl) (J:=L18_0_J mem sh lk bu cs l cl) (m:=L18_0_m mem sh lk bu cs l cl) (x:=(x3_0,x3_1,x3_2,x3_3)) (vc:=[Fits IntKind.i64 (x3_0+(1:Int))]) ((x3_0+(1:Int),x5_1,x5_2,x5_3)) [0,1,2,3,4,5,6] (E:=[mem.length=mem.length,z26_14 mem,cs.length=cs.length,z26_16 cs,l.length=l.length,z26_17 l,cl.length=cl.length,z26_19 cl,sh=sh,lk=lk,bu=bu,z26_21 mem sh lk bu cs l,z26_15 mem sh lk bu cs l,x5_3.length=x5_3.length,∀ (i:Nat),i<x5_3.length→i64T (x5_3.getD i (0:Int))=i64T (x5_3.getD i (0:Int)),x3_0+(1:Int)=x3_0+(1:Int),z26_22 l,x5_1=x5_1,x5_2=x5_2]) K V3 K R (by show ((l.length:Int)-(x3_0+1)).toNat<((l.length:Int)-x3_0).toNat;simp only [BL] at *;omega) (by dsimp only [L18_0_J];have h0:=askE_ok (mem:=mem) (sh:=sh) (lk:=lk) (bu:=bu) (cs:=cs) (l:=l) (cl:=cl) (by simp only [askE];simp only [BL] at *;grind);have hs:=evE_ok h0.1;have hm:=evE_mem h0.1;have hmm:=evE_most h0.1;have hd:=did_addr h0.1 (i:=x3_0) hJ3.1 (by simp only [BL] at *;omega);have p0:=findFrom_next (staleP mem sh l cl) (i:=x3_0) (n:=l.length);have p1:=findFrom_stop (staleP mem sh l cl) (i:=x3_0) (n:=l.length);have p2:=findFrom_out (staleP mem sh l cl) (i:=x3_0) (n:=l.length);have hv:x5_0=sh:=(by simp only [BL] at *;omega);subst hv;refine ⟨by omega,by simp only [BL] at *;omega,(by rw [hJ5.2.2.1];exact mix_end mem l _ hJ3.1 hd.1),(by rw [hJ3.2.2.2];refine p0 (by simp only [BL] at *;omega) ?_;by_cases ha:(didAt l x3_0).addr<x5_0;exact hJ5.2.2.2 ha;unfold staleP;simp [ha])⟩)
   ·exact RunF.ret (vc:=[]) (v:=SV.tup [(false,[C.i .i64 (-1:Int)]),(false,[C.i .i64 0])]) _ _ [0,1,2,3] (E:=[staleL mem sh lk bu cs l cl=(-1:Int),askE mem sh lk bu cs l cl=(0:Int)]) K trivial ⟨rfl,rfl⟩ K V6
end Go.Proofs.Ytlblobbklioofaa
end
namespace Go.Proofs.Ytlblobbklioofaa
open Go Go.Tx
def blkK (b:Blk):Prop:=0≤b.lock∧b.lock≤4096∧0≤b.core∧b.core≤8
theorem evUp_core {sh lk:Int} {l:List Did} (hs:0≤sh∧sh≤64∧0≤lk∧lk≤16) (hr:rightsB l=true):∀ (n:Nat),n≤l.length→∀ e∈evUp sh lk l n,0≤e.core∧e.core≤8
 | 0,_,e,h=>by simp [evUp] at h
 | n+1,hn,e,h=>by
   rw [evUp,List.mem_append] at h
   rcases h with h | h
   ·exact evUp_core hs hr n (by omega) e h
   ·have hd:=rights_at hr (i:=(n:Int)) (by omega) (by omega)
    rw [Int.toNat_natCast] at hd
    have hb:=didB_bounds hd
    split at h
    ·simp at h
    ·have he:e=evAt sh lk l n:=by simpa using h
     subst he
     unfold evAt evOf
     repeat' split
     all_goals (first | (simp only [];omega) | (show 0≤(0:Int)∧(0:Int)≤8;omega) | omega)
theorem evL_core {mem:List Int} {sh lk bu:Int} {cs:List Cor} {l:List Did}:∀ a:Nat,a<(evL mem sh lk bu cs l).length→0≤((evL mem sh lk bu cs l).getD a default).core∧((evL mem sh lk bu cs l).getD a default).core≤8:=by
 intro a ha
 have hm:(evL mem sh lk bu cs l).getD a default∈evL mem sh lk bu cs l:=by
  rw [List.getD_eq_getElem?_getD,List.getElem?_eq_getElem ha];exact List.getElem_mem ha
 revert hm
 generalize (evL mem sh lk bu cs l).getD a default=e
 unfold evL
 split
 ·rename_i h
  have hr:=evE_right h
  exact fun he=>evUp_core (evE_ok h) hr l.length (Nat.le_refl _) e he
 ·intro h;cases h
theorem blkUp_K {sh:Int} {l:List Did} {evs:List Ev} (hev:∀ a:Nat,a<evs.length→evOk l (evs.getD a default)) (hc:∀ a:Nat,a<evs.length→0≤(evs.getD a default).core∧(evs.getD a default).core≤8):∀ n,n≤evs.length→∀ b∈blkUp sh l evs n,blkK b
 | 0,_,b,h=>by simp [blkUp] at h
 | n+1,hn,b,h=>by
   rw [blkUp,List.mem_append] at h
   rcases h with h | h
   ·exact blkUp_K hev hc n (by omega) b h
   ·split at h
    ·have hb:b=blkOf sh l evs (evs.getD n default):=by simpa using h
     subst hb
     have h1:=hev n (by omega)
     have h2:=hc n (by omega)
     exact ⟨h1.2.2.1,h1.2.2.2,h2.1,h2.2⟩
    ·simp at h
theorem blkL_K {mem:List Int} {sh lk bu:Int} {cs:List Cor} {l:List Did}:∀ a:Nat,a<(blkL mem sh lk bu cs l).length→blkK ((blkL mem sh lk bu cs l).getD a default):=by
 intro a ha
 refine blkUp_K (sh:=sh) (evs:=evL mem sh lk bu cs l) evL_ok evL_core _ (Nat.le_refl _) _ ?_
 rw [List.getD_eq_getElem?_getD,List.getElem?_eq_getElem ha];exact List.getElem_mem ha
abbrev KV:=Int×Int→Option Int
def tillUp (l:List Did) (bs:List Blk):Nat→KV
 | 0=>fun _=>none
 | n+1=>fun q=>if q=((bs.getD n default).lock,(bs.getD n default).core) then
    some (if toD l (bs.getD n default)>(tillUp l bs n ((bs.getD n default).lock,(bs.getD n default).core)).getD 0 then toD l (bs.getD n default) else (tillUp l bs n ((bs.getD n default).lock,(bs.getD n default).core)).getD 0)
   else tillUp l bs n q
theorem till_at (l:List Did) (bs:List Blk) (n:Nat):tillUp l bs (n+1) ((bs.getD n default).lock,(bs.getD n default).core) =
 some (if toD l (bs.getD n default)>(tillUp l bs n ((bs.getD n default).lock,(bs.getD n default).core)).getD 0 then toD l (bs.getD n default) else (tillUp l bs n ((bs.getD n default).lock,(bs.getD n default).core)).getD 0):=if_pos rfl
theorem till_off (l:List Did) (bs:List Blk) {n:Nat} {q:Int×Int} (h:q≠((bs.getD n default).lock,(bs.getD n default).core)):tillUp l bs (n+1) q=tillUp l bs n q:=if_neg h
theorem till_some {l:List Did} {bs:List Blk} (hb:∀ a:Nat,a<bs.length→blkOk l (bs.getD a default)) {q:Int×Int} {v:Int}:∀ n,n≤bs.length→tillUp l bs n q=some v→∃ j<n,(bs.getD j default).lock=q.1∧toD l (bs.getD j default)=v
 | 0,_,h=>by simp [tillUp] at h
 | n+1,hn,h=>by
   by_cases e:q=((bs.getD n default).lock,(bs.getD n default).core)
   ·subst e
    rw [till_at] at h
    have h:=Option.some.inj h
    split at h
    ·exact ⟨n,by omega,rfl,h⟩
    ·rename_i hle
     cases ho:tillUp l bs n ((bs.getD n default).lock,(bs.getD n default).core) with
     | none =>
       refine ⟨n,by omega,rfl,?_⟩
       rw [ho] at hle h
       have:=hb n (by omega)
       unfold blkOk at this
       simp only [Option.getD_none] at hle h
       unfold toD at hle ⊢
       split<;>rename_i h2<;>simp only [h2,if_true,if_false] at hle<;>omega
     | some u =>
       obtain ⟨j,hj,h1,h2⟩:=till_some hb n (by omega) ho
       rw [ho] at h
       exact ⟨j,by omega,h1,by rw [h2];exact h⟩
   ·rw [till_off l bs e] at h
    obtain ⟨j,hj,h1,h2⟩:=till_some hb n (by omega) h
    exact ⟨j,by omega,h1,h2⟩
theorem till_ge {l:List Did} {bs:List Blk} {j:Nat}:∀ n,j<n→∃ v,tillUp l bs n ((bs.getD j default).lock,(bs.getD j default).core)=some v∧toD l (bs.getD j default)≤v
 | 0,h=>by omega
 | n+1,h=>by
   by_cases e:((bs.getD j default).lock,(bs.getD j default).core)=((bs.getD n default).lock,(bs.getD n default).core)
   ·rw [e,till_at]
    refine ⟨_,rfl,?_⟩
    by_cases hj:j=n
    ·subst hj;split<;>omega
    ·obtain ⟨v,h1,h2⟩:=till_ge (l:=l) (bs:=bs) n (show j<n by omega)
     rw [e] at h1
     rw [h1]
     simp only [Option.getD_some]
     split<;>omega
   ·rw [till_off l bs e]
    have hj:j≠n:=fun hj=>by subst hj;exact e rfl
    exact till_ge n (by omega)
theorem allFrom_of (p:Int→Bool) {n:Int}:∀ (m:Nat) (i:Int),(n-i).toNat=m→(∀ j,i≤j→j<n→p j=true)→allFrom p i n=true:=by
 intro m
 induction m with
 | zero=>intro i h _;exact allFrom_end p (by omega)
 | succ m ih =>
   intro i h hp
   rw [allFrom_next p (by omega) (hp i (Int.le_refl _) (by omega))]
   exact ih (i+1) (by omega) (fun j h1 h2=>hp j (by omega) h2)
theorem crowd_none {l:List Did} {bs:List Blk} (hb:∀ a:Nat,a<bs.length→blkOk l (bs.getD a default)) {k:Nat} (hk:k<bs.length)
 (h:∀ q:Int×Int,(tillUp l bs k q).isSome=true→¬ (q.1=(bs.getD k default).lock∧(bs.getD k default).from_<(tillUp l bs k q).getD 0)):crowdP bs k=true:=by
 unfold crowdP
 refine allFrom_of _ _ 0 rfl (fun j h0 hj=>?_)
 unfold crowdN
 have e:((j.toNat:Nat):Int)=j:=by omega
 obtain ⟨v,h1,h2⟩:=till_ge (l:=l) (bs:=bs) (j:=j.toNat) k (by omega)
 have h3:=h ((bs.getD j.toNat default).lock,(bs.getD j.toNat default).core) (by rw [h1];rfl)
 rw [h1] at h3
 simp only [Option.getD_some,Int.toNat_natCast] at h3 ⊢
 have hk':=hb k hk
 unfold blkOk at hk'
 unfold toD at h2
 simp only [BL]
 simp only [BL,Int.not_lt] at *
 by_cases hl:(bs.getD j.toNat default).lock=(bs.getD k default).lock
 ·right
  have h4:¬ (bs.getD k default).from_<v:=fun hh=>h3 ⟨hl,hh⟩
  split at h2
  ·omega
  ·constructor<;>omega
 ·left;exact hl
theorem crowd_some {l:List Did} {bs:List Blk} (hb:∀ a:Nat,a<bs.length→blkOk l (bs.getD a default)) {k:Nat} (hk:k<bs.length) {q:Int×Int} (h0:(tillUp l bs k q).isSome=true)
 (h1:q.1=(bs.getD k default).lock) (h2:(bs.getD k default).from_<(tillUp l bs k q).getD 0):crowdP bs k=false:=by
 cases hc:crowdP bs k with
 | false=>rfl
 | true =>
   exfalso
   obtain ⟨v,hv⟩:=Option.isSome_iff_exists.1 h0
   rw [hv] at h2
   simp only [Option.getD_some] at h2
   obtain ⟨j,hj,h3,h4⟩:=till_some hb k (by omega) hv
   unfold crowdP at hc
   have:=allFrom_at (p:=crowdN bs k) (k:=(j:Int)) _ 0 rfl hc (by omega) (by omega)
   unfold crowdN at this
   simp only [BL,Int.toNat_natCast] at this
   rw [h3,h1] at this
   unfold toD at h4
   split at h4<;>omega
end Go.Proofs.Ytlblobbklioofaa
namespace Go.Tx
open Go
def Cfg.mrg (P:Program) (c:Cfg) (m:Nat) (T:MT) (n:Nat) (has:KA T.K→Bool) (f:KA T.K→KA T.V) (r cnt:Nat):Option Cfg:=
 match (seg P 5000 c.k c.st).2 with
 | .op all o todo k st=>match o.op,o.guard with
   | .range t x,none=>match opndC st [] x with
     | some (.h m')=>if Nat.beq m m'&&Nat.beq T.t t&&st.scp then
        (putSt { st with rg:=st.rg.set m (.mp T n has f (some ⟨r,has,cnt,none⟩))++[.itr r] } o.dst [] (.c (.h st.rg.length))).map fun st'=>⟨.ops all todo::k,st'⟩
       else none
     | _=>none
   | _,_=>none
 | _=>none
def orNo (c:Option Cfg):Cfg:=match c with
 | some c'=>c'
 | none=>noCfg
def Cfg.mnxD (P:Program) (c:Cfg) (j:Nat):Option Cfg:=
 match (seg P 5000 c.k c.st).2 with
 | .op all o todo k st=>match o.op,o.guard with
   | .next x false,none=>match opndC st [] x with
     | some (.h j')=>if Nat.beq j j'&&st.scp then (putSt st o.dst [] (.tup [(false,[.t false])])).map fun st'=>⟨.ops all todo::k,st'⟩ else none
     | _=>none
   | _,_=>none
 | _=>none
def Cfg.mnxM (P:Program) (c:Cfg) (m j:Nat) (T:MT) (n:Nat) (has:KA T.K→Bool) (f:KA T.K→KA T.V) (it:MIt T.K) (a:KA T.K) (cnt:Nat):Option Cfg:=
 match (seg P 5000 c.k c.st).2 with
 | .op all o todo k st=>match o.op,o.guard with
   | .next x false,none=>match opndC st [] x with
     | some (.h j')=>if Nat.beq j j'&&st.scp then
        (putSt { st with rg:=st.rg.set m (.mp T n has f (some ⟨it.r,fun q=>it.left q&&!decide (q=a),cnt,some a⟩)) } o.dst []
          (.tup [(false,[.t true]),(T.kAgg,KA.cs T.K a),(T.vAgg,KA.cs T.V (f a))])).map fun st'=>⟨.ops all todo::k,st'⟩
       else none
     | _=>none
   | _,_=>none
 | _=>none
theorem exec_v2 {P:Program} {w w':World} {s:Sem Value} {v:Value} (hr:s.run P w=.ok v w'):(do pure (Go.Next.value (← s)):Sem Go.Next).run P w=.ok (.value v) w':=by
 simp only [Sem.run_bind,hr,Result.andThen_ok,Sem.run_pure]
theorem grown_fr {w w':World} {row:Option Nat} (h:w.grownBy w' row) {m:Nat→Prop} (hm:∀ b,row=some b→m b):Fr m w w':=
 ⟨h.os,h.tape,h.output,h.size,fun k hk hn=>h.block k hk (fun e=>hn (hm k e.symm))⟩
section
variable {P:Program} [hw:Wide P] {fn:Func} {n0:Nat} {S:SV→List Reg→Prop} {U:Tgt} {c:Cfg} {vc:List Prop}
theorem wanted_none {o:Oper} (h:o.guard=none) (f:Nat→Option Bool):Region.wanted o f=true:=by
 unfold Region.wanted;rw [h]
theorem SatE.turn {b:Base} {st:St} {ε:Env} {a:Act} {w w':World} {m:Nat} {p new:Reg} {fp:Nat→Prop} (hs:SatE b st ε a w) (hsc:st.scp=true) (hm:st.rg[m]?=some p) (hp:p.excl=true) (hnl:new.excl=true)
 (hnew:RegOk (ε.set m ⟨ε.at_ m,fp⟩) b.M w' ⟨ε.at_ m,fp⟩ new) (hfp:∀ b,fp b→(ε.fp m b∨w.heap.size≤b)∧b<w'.heap.size) (hfr:Fr (ε.fp m) w w') :
 SatE b { st with rg:=st.rg.set m new } (ε.set m ⟨ε.at_ m,fp⟩) a w':=by
 have hml:m<ε.length:=by rw [hs.regs.len];exact (List.getElem?_eq_some_iff.1 hm).1
 obtain ⟨s1,s2⟩:=scoped_parts hsc
 obtain ⟨e1,e2⟩:=Env.set_same (x:=⟨ε.at_ m,fp⟩) hml rfl
 refine ⟨hs.defs,hs.size,fun en hen=>(hs.fr en hen).same (s1 en hen) (fun q _=>e1 q),RegsOk.step1 hs.regs hs.below.size hm hp (excl_live hp) rfl hnew hfp hfr hnl s2,hs.below.step hfr.os hfr.tape hfr.output hfr.size (fun q hq hmq=>hfr.block q (Nat.lt_of_lt_of_le hq hs.below.size) (fun hfq=>?_)),by rw [e2];exact hs.pre⟩
 rcases hs.regs.lim m p hm hp q hfq with h | h
 ·omega
 ·exact hmq h
theorem RunF.mrange {T:MT} {n:Nat} {has:KA T.K→Bool} {f:KA T.K→KA T.V} {it:Option (MIt T.K)} (m:Nat) (h:see P fn c=(vc,.op)) (hv:Conj vc)
 (hm:nth (c.at P).rg m=some (.mp T n has f it)) (hP:T.P=P) (hsome:∀ r cnt,(c.mrg P m T n has f r cnt).isSome=true)
 (next:∀ r cnt,RunF P fn n0 U (orNo (c.mrg P m T n has f r cnt))):RunF P fn n0 U c:=by
 unfold RunF at next ⊢
 intro b hb
 unfold see at h
 unfold Cfg.at at hm
 unfold Cfg.mrg at next hsome
 generalize hg:seg P 5000 c.k c.st=rr at h hm next hsome
 obtain ⟨vc',out⟩:=rr
 cases out<;>simp only [Prod.mk.injEq,reduceCtorEq,and_false] at h
 case op all o todo k st =>
  obtain ⟨rfl,_⟩:=h
  refine seg_sound hw.mixed 5000 _ _ _ _ hg hv.toAll (fun a w hsat=>?_)
  obtain ⟨ε,hs⟩:=hsat
  simp only at hm next hsome
  have hm':=nthSome hm
  have hso:=hsome w.heap.size
  have hne:=next w.heap.size
  obtain ⟨dst,op,type,pos,after,guard⟩:=o
  simp only at hso hne
  have hfind:∃ t x m',op=.range t x∧guard=none∧opndC st [] x=some (.h m')∧(Nat.beq m m'&&Nat.beq T.t t&&st.scp)=true:=by
   have h0:=hso 0
   cases op<;>first | (cases h0;done) | skip
   cases guard with
   | some g=>cases h0
   | none =>
     simp only at h0
     split at h0
     ·rename_i m' hx
      split at h0
      ·rename_i hbc;exact ⟨_,_,m',rfl,rfl,hx,hbc⟩
      ·cases h0
     ·cases h0
  obtain ⟨t,x,m',rfl,rfl,hx,hbc⟩:=hfind
  simp only [hx] at hso hne
  have hbc':=hbc
  simp only [Bool.and_eq_true] at hbc
  have e1:=Nat.eq_of_beq_eq_true hbc.1.1
  have e2:=Nat.eq_of_beq_eq_true hbc.1.2
  have hsc:=hbc.2
  subst e1
  have hh:MapAt w b.M (ε.fp m) T (ε.at_ m) n has f none:=MapAt.close (hs.regs.reg m _ hm')
  obtain ⟨w',cnt,hrun,hgr,hsz,hmp⟩:=hh.range (M':=b.M) (fp':=fun q=>ε.fp m q∨q=w.heap.size) (fun _ h=>h) (fun _ h=>.inl h) (Base.fresh_M hs (Nat.le_refl _)).1 (.inr rfl)
  have hs1:=hs.turn (fp:=fun q=>ε.fp m q∨q=w.heap.size) (new:=.mp T n has f (some ⟨w.heap.size,has,cnt,none⟩)) hsc hm' rfl rfl hmp (fun q hq=>by
   rcases hq with hq | hq
   ·exact ⟨.inl hq,Nat.lt_of_lt_of_le (hs.regs.lt m _ hm' rfl q hq).1 hgr.size⟩
   ·subst hq;exact ⟨.inr (Nat.le_refl _),by omega⟩) (grown_fr hgr (fun b hb=>by cases hb))
  have hsc1:St.scp { st with rg:=st.rg.set m (.mp T n has f (some ⟨w.heap.size,has,cnt,none⟩)) }=true:=by
   obtain ⟨s1,s2⟩:=scoped_parts hsc
   unfold St.scp
   simp only [Bool.and_eq_true,List.length_set]
   refine ⟨List.all_eq_true.2 s1,List.all_eq_true.2 fun r hr=>?_⟩
   rcases List.mem_or_eq_of_mem_set hr with h | h
   ·exact List.all_eq_true.1 s2 r h
   ·subst h;rfl
  have hs2:=hs1.add (w':=w') (x:=⟨itPtr w.heap.size,fun _=>False⟩) (r:=.itr w.heap.size) hsc1 hs1.below (Nat.le_refl _) (fun _ _ _ _ _ _=>rfl) rfl (fun h=>by cases h) (fun h=>by cases h) (fun _ h=>h.elim)
  refine wpListW_run (wanted_none rfl _) ?_
  unfold Oper.wp
  have hex:(execOp a.eval { dst,op:=.range t x,type,pos,after,guard:=none }).run P w=.ok (.value ((SV.c (.h st.rg.length)).den (ε.set m ⟨ε.at_ m,fun q=>ε.fp m q∨q=w.heap.size⟩++[⟨itPtr w.heap.size,fun _=>False⟩]))) w':=by
   have hlen:st.rg.length=(ε.set m ⟨ε.at_ m,fun q=>ε.fp m q∨q=w.heap.size⟩).length:=by rw [List.length_set,hs.regs.len]
   rw [show (SV.c (.h st.rg.length)).den (ε.set m ⟨ε.at_ m,fun q=>ε.fp m q∨q=w.heap.size⟩++[⟨itPtr w.heap.size,fun _=>False⟩])=itPtr w.heap.size by simp only [SV.den,C.den];rw [hlen,at_new]]
   simp only [execOp,opndC_sound hs (gHolds_nil a) hx]
   rw [hP,e2] at hrun
   exact exec_v2 hrun
  rw [hex,Oper.upon_value]
  have hso':=hso cnt
  have hn1:=hne cnt
  rw [if_pos hbc'] at hso' hn1
  cases hput:putSt { st with rg:=st.rg.set m (.mp T n has f (some ⟨w.heap.size,has,cnt,none⟩))++[.itr w.heap.size] } dst [] (.c (.h st.rg.length)) with
  | none=>rw [hput] at hso';cases hso'
  | some st' =>
    rw [hput] at hn1
    simp only [Option.map_some,orNo] at hn1
    exact hn1 b hb _ w' ⟨_,put_sound hs2 hput (fun _=>rfl) (fun hn=>absurd (gHolds_nil _) hn)⟩
 all_goals first | (unfold callV at h;split at h<;>simp at h;done) | (split at h<;>simp at h)
theorem RunF.mnext {A:Type} {T:MT} {n:Nat} {has:KA T.K→Bool} {f:KA T.K→KA T.V} {it:MIt T.K} (m j:Nat) (mk:A→KA T.K) (hmk:∀ a,∃ p,a=mk p) (h:see P fn c=(vc,.op)) (hv:Conj vc)
 (hm:nth (c.at P).rg m=some (.mp T n has f (some it))) (hj:nth (c.at P).rg j=some (.itr it.r)) (hP:T.P=P)
 (hD:(c.mnxD P j).isSome=true) (hM:∀ p cnt,(c.mnxM P m j T n has f it (mk p) cnt).isSome=true)
 (next1:(∀ p,it.left (mk p)=false)→RunF P fn n0 U (orNo (c.mnxD P j)))
 (next2:∀ (p:A) (cnt:Nat),KA.wf T.K (mk p)→it.left (mk p)=true→has (mk p)=true→cnt<it.cnt→RunF P fn n0 U (orNo (c.mnxM P m j T n has f it (mk p) cnt))):RunF P fn n0 U c:=by
 unfold RunF at next1 next2 ⊢
 intro b hb
 unfold see at h
 unfold Cfg.at at hm hj
 unfold Cfg.mnxD at next1 hD
 unfold Cfg.mnxM at next2 hM
 generalize hg:seg P 5000 c.k c.st=rr at h hm hj next1 next2 hD hM
 obtain ⟨vc',out⟩:=rr
 cases out<;>simp only [Prod.mk.injEq,reduceCtorEq,and_false] at h
 case op all o todo k st =>
  obtain ⟨rfl,_⟩:=h
  refine seg_sound hw.mixed 5000 _ _ _ _ hg hv.toAll (fun a w hsat=>?_)
  obtain ⟨ε,hs⟩:=hsat
  simp only at hm hj next1 next2 hD hM
  have hm':=nthSome hm
  have hj':ε.at_ j=itPtr it.r:=hs.regs.reg j _ (nthSome hj)
  obtain ⟨dst,op,type,pos,after,guard⟩:=o
  simp only at hD hM next1 next2
  have hfind:∃ x j',op=.next x false∧guard=none∧opndC st [] x=some (.h j')∧(Nat.beq j j'&&st.scp)=true:=by
   cases op<;>first | (cases hD;done) | skip
   rename_i x s
   cases s with
   | true=>cases hD
   | false =>
   cases guard with
   | some g=>cases hD
   | none =>
     simp only at hD
     split at hD
     ·rename_i m' hx
      split at hD
      ·rename_i hbc;exact ⟨_,m',rfl,rfl,hx,hbc⟩
      ·cases hD
     ·cases hD
  obtain ⟨x,j',rfl,rfl,hx,hbc⟩:=hfind
  simp only [hx,if_pos hbc] at hD hM next1 next2
  have hbc':=hbc
  simp only [Bool.and_eq_true] at hbc
  have e1:=Nat.eq_of_beq_eq_true hbc.1
  have hsc:=hbc.2
  subst e1
  have hh:MapAt w b.M (ε.fp m) T (ε.at_ m) n has f (some it):=hs.regs.reg m _ hm'
  refine wpListW_run (wanted_none rfl _) ?_
  unfold Oper.wp
  rcases hh.next type with ⟨hl,hrun⟩ | ⟨q,w',cnt',hwf,hl,hha,hlt,hrun,hMr,hfr,hgr,hsz,hmp⟩
  ·have hex:(execOp a.eval { dst,op:=.next x false,type,pos,after,guard:=none }).run P w=.ok (.value ((SV.tup [(false,[.t false])]).den ε)) w:=by
    simp only [execOp,opndC_sound hs (gHolds_nil a) hx]
    rw [hP] at hrun
    refine exec_v ?_
    show (Instr.next (ε.at_ j) false type).run P w=_
    rw [hj'];exact hrun
   rw [hex,Oper.upon_value]
   have hn1:=next1 (fun p=>hl (mk p))
   cases hput:putSt st dst [] (.tup [(false,[.t false])]) with
   | none=>rw [hput] at hD;cases hD
   | some st' =>
     rw [hput] at hn1
     simp only [Option.map_some,orNo] at hn1
     exact hn1 b hb _ w ⟨_,put_sound hs hput (fun _=>rfl) (fun hn=>absurd (gHolds_nil _) hn)⟩
  ·obtain ⟨p,rfl⟩:=hmk q
   have hs1:=hs.turn (fp:=ε.fp m) (new:=.mp T n has f (some ⟨it.r,fun q=>it.left q&&!decide (q=mk p),cnt',some (mk p)⟩)) hsc hm' rfl rfl hmp (fun q hq=>⟨.inl hq,Nat.lt_of_lt_of_le (hs.regs.lt m _ hm' rfl q hq).1 hgr.size⟩)
    (grown_fr hgr (fun b hb=>by cases hb;exact hfr))
   have hex:(execOp a.eval { dst,op:=.next x false,type,pos,after,guard:=none }).run P w=.ok (.value ((SV.tup [(false,[.t true]),(T.kAgg,KA.cs T.K (mk p)),(T.vAgg,KA.cs T.V (f (mk p)))]).den (ε.set m ⟨ε.at_ m,ε.fp m⟩))) w':=by
    simp only [execOp,opndC_sound hs (gHolds_nil a) hx]
    rw [hP] at hrun
    refine exec_v2 ?_
    show (Instr.next (ε.at_ j) false type).run P w=_
    rw [hj',hrun]
    simp only [SV.den,List.map_cons,List.map_nil,part_den,KA.cs_den]
    rfl
   rw [hex,Oper.upon_value]
   have hM1:=hM p cnt'
   have hn1:=next2 p cnt' hwf hl hha hlt
   cases hput:putSt { st with rg:=st.rg.set m (.mp T n has f (some ⟨it.r,fun q=>it.left q&&!decide (q=mk p),cnt',some (mk p)⟩)) } dst [] (.tup [(false,[.t true]),(T.kAgg,KA.cs T.K (mk p)),(T.vAgg,KA.cs T.V (f (mk p)))]) with
   | none=>rw [hput] at hM1;cases hM1
   | some st' =>
     rw [hput] at hn1
     simp only [Option.map_some,orNo] at hn1
     exact hn1 b hb _ w' ⟨_,put_sound hs1 hput (fun _=>rfl) (fun hn=>absurd (gHolds_nil _) hn)⟩
 all_goals first | (unfold callV at h;split at h<;>simp at h;done) | (split at h<;>simp at h)
theorem RunF.retRound {X:Type} {I:X→List Reg} {J:X→Prop} {Jx:Code→X→Prop} {v:SV} (x:X) (π:List Nat) {E:List Prop} (h:see P fn c=(vc,.ret v)) (hv:Conj vc)
 (he:endEnt n0 π (c.at P) (I x)=some E) (hE:Conj E) (hJ:Jx .ret x):RunF P fn n0 (Tround I J Jx) c:=by
 unfold RunF
 intro b hb
 unfold see at h
 unfold Cfg.at at he
 generalize hg:seg P 5000 c.k c.st=rr at h he
 obtain ⟨vc',out⟩:=rr
 cases out<;>simp only [Prod.mk.injEq,reduceCtorEq,and_false] at h
 case ret st =>
  split at h
  ·rename_i v' vc2 hr
   simp only [Prod.mk.injEq] at h
   obtain ⟨rfl,_⟩:=h
   exact seg_sound hw.mixed 5000 _ _ _ _ hg hv.toAll.left (fun a w hs=>endEnt_sound hb he hE.toAll hJ hs)
  ·simp at h
 all_goals first | (unfold callV at h;split at h<;>simp at h;done) | (split at h<;>simp at h)
end
attribute [irreducible] Cfg.mrg Cfg.mnxD Cfg.mnxM
end Go.Tx
namespace Go.Tx
open Go
theorem MpEq.put {T:MT} {n n':Nat} {D:KA T.K→Option (KA T.V)} {z:KA T.V} {k:KA T.K} {y:KA T.V} {it':Option (MIt T.K)} (h:n'≤n) :
 MpEq T n (fun q=>(if q=k then some y else D q).isSome) (fun q=>(if q=k then some y else D q).getD z) none T n' (fun q=>decide (q=k)||(D q).isSome) (fun q=>if q=k then y else (D q).getD z) it':=by
 refine MpEq.mk' h (fun q=>?_) (fun q=>?_)
 ·by_cases e:q=k<;>simp [e]
 ·by_cases e:q=k<;>simp [e]
def KA.mk {c:CK} {K:List CK} (x:c.α) (a:KA K):KA (c::K):=match K,a with
 | [],_=>x
 | _::_,a=>(x,a)
theorem KA.vals_mk {c:CK} {K:List CK} (x:c.α) (a:KA K):KA.vals (c::K) (KA.mk x a)=c.val x::KA.vals K a:=by cases K<;>rfl
theorem KA.wf_mk {c:CK} {K:List CK} (x:c.α) (a:KA K):KA.wf (c::K) (KA.mk x a)↔c.wf x∧KA.wf K a:=by
 cases K with
 | nil=>exact ⟨fun h=>⟨h,trivial⟩,fun h=>h.1⟩
 | cons d r=>exact Iff.rfl
theorem KA.un_mk {c:CK} {K:List CK} (a:KA (c::K)):∃ (x:c.α) (b:KA K),a=KA.mk x b:=by
 cases K with
 | nil=>exact ⟨a,(),rfl⟩
 | cons d r=>exact ⟨a.1,a.2,rfl⟩
def plainIs (P:Program) (t:TypeId):CK→Prop
 | .i k=>P.underlying t=some (.int k)
 | .s=>P.underlying t=some .string
 | .b=>P.underlying t=some .bool
def plainFs (P:Program):Nat→List Field→List CK→Prop
 | _,[],[]=>True
 | i,f::r,c::K=>f.offset=i∧P.cellsOf f.type=1∧plainIs P f.type c∧plainFs P (i+1) r K
 | _,_,_=>False
theorem lits_of {P:Program} {d:Nat} {t:TypeId} {c:CK} (h:plainIs P t c) (x:c.α) (hw:c.wf x):∃ ls,P.keyLits (d+1) t [c.val x]=some ls:=by
 cases c with
 | i k =>
   refine ⟨[.int k x],?_⟩
   simp only [Program.keyLits,show P.underlying t=_ from h,CK.val]
   exact if_pos ⟨trivial,hw⟩
 | s =>
   refine ⟨[.string (ByteArray.data x).toList],?_⟩
   simp only [Program.keyLits,show P.underlying t=_ from h,CK.val]
   exact if_pos hw
 | b =>
   refine ⟨[.bool x],?_⟩
   simp only [Program.keyLits,show P.underlying t=_ from h,CK.val]
theorem of_lits {P:Program} {d:Nat} {t:TypeId} {c:CK} (h:plainIs P t c) {v:Value} {ls:List Lit} (hl:P.keyLits (d+1) t [v]=some ls):∃ x:c.α,c.wf x∧v=c.val x:=by
 cases c with
 | i k =>
   simp only [Program.keyLits,show P.underlying t=_ from h] at hl
   cases v<;>simp only [reduceCtorEq] at hl
   split at hl
   ·rename_i hc;exact ⟨_,hc.2,by rw [hc.1];rfl⟩
   ·cases hl
 | s =>
   simp only [Program.keyLits,show P.underlying t=_ from h] at hl
   cases v<;>simp only [reduceCtorEq] at hl
   split at hl
   ·rename_i hc;exact ⟨_,hc,rfl⟩
   ·cases hl
 | b =>
   simp only [Program.keyLits,show P.underlying t=_ from h] at hl
   cases v<;>simp only [reduceCtorEq] at hl
   exact ⟨_,trivial,rfl⟩
theorem drop_one {α:Type} {l:List α} {i:Nat} {x:α} {r:List α} (h:l.drop i=x::r):(l.drop i).take 1=[x]∧l.drop (i+1)=r:=by
 refine ⟨by rw [h];rfl,?_⟩
 rw [← List.drop_drop,h];rfl
theorem fields_lits {P:Program} {d:Nat}:∀ {i:Nat} {fs:List Field} {K:List CK} (hp:plainFs P i fs K) {cs:List Value} {a:KA K},cs.drop i=KA.vals K a→KA.wf K a →
 ∃ ls,(fs.mapM fun (f:Field)=>P.keyLits (d+1) f.type ((cs.drop f.offset).take (P.cellsOf f.type)))=some ls
 | i,[],[],_,cs,a,h,hw=>⟨[],rfl⟩
 | i,f::r,c::K,hp,cs,a,h,hw=>by
   obtain ⟨h1,h2,h3,h4⟩:=hp
   obtain ⟨x,b,rfl⟩:=KA.un_mk a
   rw [KA.vals_mk] at h
   obtain ⟨w1,w2⟩:=(KA.wf_mk x b).1 hw
   obtain ⟨e1,e2⟩:=drop_one h
   obtain ⟨ls,hl⟩:=lits_of (d:=d) h3 x w1
   obtain ⟨ls2,hl2⟩:=fields_lits h4 e2 w2
   refine ⟨ls::ls2,?_⟩
   rw [List.mapM_cons,h1,h2,e1,hl,hl2]
   rfl
 | _,[],_::_,hp,_,_,_,_=>hp.elim
 | _,_::_,[],hp,_,_,_,_=>hp.elim
theorem lits_fields {P:Program} {d:Nat}:∀ {i:Nat} {fs:List Field} {K:List CK} (hp:plainFs P i fs K) {cs:List Value},cs.length=i+K.length→∀ {ls:List (List Lit)},
 (fs.mapM fun (f:Field)=>P.keyLits (d+1) f.type ((cs.drop f.offset).take (P.cellsOf f.type)))=some ls→∃ a:KA K,KA.wf K a∧cs.drop i=KA.vals K a
 | i,[],[],_,cs,hl,ls,_=>⟨(),trivial,by simp at hl;rw [List.drop_eq_nil_of_le (by omega)];rfl⟩
 | i,f::r,c::K,hp,cs,hl,ls,h=>by
   obtain ⟨h1,h2,h3,h4⟩:=hp
   have hlt:i<cs.length:=by simp at hl;omega
   have hd:cs.drop i=cs[i]::cs.drop (i+1):=List.drop_eq_getElem_cons hlt
   rw [List.mapM_cons,h1,h2,hd] at h
   simp only [List.take_succ_cons,List.take_zero] at h
   cases hk:P.keyLits (d+1) f.type [cs[i]] with
   | none=>rw [hk] at h;cases h
   | some l1 =>
     rw [hk] at h
     cases hr:(r.mapM fun (f:Field)=>P.keyLits (d+1) f.type ((cs.drop f.offset).take (P.cellsOf f.type))) with
     | none=>rw [hr] at h;cases h
     | some l2 =>
       obtain ⟨x,hx1,hx2⟩:=of_lits h3 hk
       obtain ⟨b,hb1,hb2⟩:=lits_fields h4 (cs:=cs) (by simp at hl;omega) hr
       exact ⟨KA.mk x b,(KA.wf_mk x b).2 ⟨hx1,hb1⟩,by rw [hd,KA.vals_mk,hx2,hb2]⟩
 | _,[],_::_,hp,_,_,_,_=>hp.elim
 | _,_::_,[],hp,_,_,_,_=>hp.elim
theorem keyLits_struct {P:Program} {d:Nat} {k:TypeId} {fs:Array Field} (hk:P.underlying k=some (.struct fs)) (cs:List Value):P.keyLits (d+1) k cs =
 if cs.length = P.cellsOf k ∧ fs.all (·.name != "_") = true then (fs.toList.mapM fun f => P.keyLits d f.type ((cs.drop f.offset).take (P.cellsOf f.type))).map List.flatten else none := by
 conv=>lhs;unfold Program.keyLits
 simp only [hk]
section
variable {P:Program} {t k e:Nat} {K:List CK} {V:List CK} {va:Bool}
theorem MT.ok_struct {fs : Array Field} (ht : P.underlying t = some (.map k e)) (hk : P.underlying k = some (.struct fs)) (hkey : Go.Maps.Keyed P k) (hty : P.keyType k = true) (hn : fs.all (·.name != "_") = true) (hp : plainFs P 0 fs.toList K) (hc : P.cellsOf k = K.length) (hsz : 0 < P.types.size)
 (hv:va=true∨V.length=1) (hz:∀ w,(zeroValue e).run P w=.ok (mkVal va (KA.vals V (KA.zero V))) w):MT.Ok ⟨P,t,k,e,K,true,V,va⟩ where
 map:=ht
 key:=hkey
 lit:=fun a ha=>by
  have hcells:(Value.agg (KA.vals K a).toArray).formed P k=true:=by
   simp only [Value.formed,hk]
   simp [KA.vals_len,hc]
  obtain ⟨d,hd⟩:∃ d,P.types.size=d+1:=⟨P.types.size-1,by omega⟩
  obtain ⟨ls,hls⟩:=fields_lits (d:=d) hp (cs:=KA.vals K a) (a:=a) rfl ha
  refine ⟨.string (keyBytes ls.flatten),?_⟩
  show keyOf P k (.agg (KA.vals K a).toArray)=_
  unfold keyOf
  simp only [hk,hty,hcells,Bool.and_self,if_true]
  rw [hd]
  show (P.keyLits (d+1+1) k (KA.vals K a)).map _=_
  rw [keyLits_struct hk,if_pos ⟨by rw [hc];exact KA.vals_len K a,hn⟩]
  rw [hls];rfl
 inv:=fun v l h=>by
  obtain ⟨d,hd⟩:∃ d,P.types.size=d+1:=⟨P.types.size-1,by omega⟩
  unfold keyOf at h
  simp only [hk,hty,Bool.true_and] at h
  split at h
  ·rename_i hf
   rw [hd] at h
   cases v with
   | agg cs =>
     have h:(P.keyLits (d+1+1) k cs.toList).map (fun ls=>Lit.string (keyBytes ls))=some l:=h
     rw [keyLits_struct hk] at h
     simp only [Option.map_eq_some_iff] at h
     obtain ⟨l0,h,_⟩:=h
     split at h
     ·rename_i hcc
      cases hls:(fs.toList.mapM fun (f:Field)=>P.keyLits (d+1) f.type ((cs.toList.drop f.offset).take (P.cellsOf f.type))) with
      | none=>rw [hls] at h;cases h
      | some ls =>
        obtain ⟨a,ha,hva⟩:=lits_fields hp (cs:=cs.toList) (by rw [hcc.1,hc];omega) hls
        refine ⟨a,ha,?_⟩
        show Value.agg cs=.agg (KA.vals K a).toArray
        rw [← hva,List.drop_zero]
     ·cases h
   | _=>simp [Value.formed,hk] at hf
  ·cases h
 one:=.inl rfl
 oneE:=hv
 zero:=hz
end
end Go.Tx
noncomputable section
namespace Go.Proofs.Ytlblobbklioofaa
open Go Go.Tx
theorem laidT:laidOutB Try.prog=true:=by kernel_rfl
abbrev z27_13:=[CK.i IntKind.i64,CK.i IntKind.i64]
abbrev z27_1:=(MT.mk Try.prog 65 67 3 z27_13 true [CK.i IntKind.i64] false)
theorem mtok_stay:MT.Ok z27_1:=
 MT.ok_struct K Try.underlying67 (Go.Maps.Keyed.of_law (deep_law_laid laidT (m:=2) (by omega) (of_decide_eq_true K) K (by rw [Try.underlying67]))) K K
  ⟨rfl,by kernel_rfl,Try.underlying3,rfl,by kernel_rfl,Try.underlying3,trivial⟩ K (of_decide_eq_true K) (.inr rfl) (fun w=>by kernel_rfl)
def R10_I (mem:List Int) (sh lk bu:Int) (cs:List Cor) (l:List Did):Int×Nat×(Int×Int→Option Int)→List Reg:=fun x=>[IntRow mem,Cor.rowR cs,Did.rowR l,.ro [.h 0,.i .i64 sh,.i .i64 lk,.i .i64 bu,.h 1,.h 2,.h 4],Ev.rowR (evL mem sh lk bu cs l),Reg.box 26 [.h 2],Reg.box 3 [.i .i64 x.1],Reg.box 28 [.i .i64 0],.ro [.p 3 0],Reg.box 65 [.h 10],Reg.mp z27_1 x.2.1 (fun q=>(x.2.2 q).isSome) (fun q=>(x.2.2 q).getD (0:Int)) none]
def R10_J (mem:List Int) (sh lk bu:Int) (cs:List Cor) (l:List Did):Nat→Int×Nat×(Int×Int→Option Int)→Prop:=fun k x=>x.1=0∧x.2.1≤k∧x.2.2=tillUp l (blkL mem sh lk bu cs l) k∧findFrom (crowdP (blkL mem sh lk bu cs l)) 0 (blkL mem sh lk bu cs l).length=findFrom (crowdP (blkL mem sh lk bu cs l)) k (blkL mem sh lk bu cs l).length
def R10_Jx (mem:List Int) (sh lk bu:Int) (cs:List Cor) (l:List Did):Go.Code→Int×Nat×(Int×Int→Option Int)→Prop:=fun cd x=>cd=Go.Code.ret∧x.1=crowdV (blkL mem sh lk bu cs l)
def R10_n (mem:List Int) (sh lk bu:Int) (cs:List Cor) (l:List Did):Nat:=(blkL mem sh lk bu cs l).length
def R10_enc (mem:List Int) (sh lk bu:Int) (cs:List Cor) (l:List Did):Nat→SV:=fun k=>.agg ((blkL mem sh lk bu cs l).getD k default).cs
def R10_P (mem:List Int) (sh lk bu:Int) (cs:List Cor) (l:List Did):List Reg:=[IntRow mem,Cor.rowR cs,Did.rowR l,Ev.rowR (evL mem sh lk bu cs l),.ro [.h 0,.i .i64 sh,.i .i64 lk,.i .i64 bu,.h 1,.h 2,.h 3],.ro [.p 4 0]]
def R10_Q:List SV:=[.c (.p 5 0)]
abbrev z27_2 (mem:List Int) (sh:Int) (lk:Int) (bu:Int) (cs:List Cor) (l:List Did) (k2:Nat):=Reg.box 48 [C.i .i64 ((blkL mem sh lk bu cs l).getD k2 default).lock,C.i .i64 ((blkL mem sh lk bu cs l).getD k2 default).core,C.i .i64 ((blkL mem sh lk bu cs l).getD k2 default).from_,C.i .i64 ((blkL mem sh lk bu cs l).getD k2 default).left,C.i .i64 ((blkL mem sh lk bu cs l).getD k2 default).to]
abbrev z27_3 (mem:List Int) (sh:Int) (lk:Int) (bu:Int) (cs:List Cor) (l:List Did):=Reg.row 7 (evL mem sh lk bu cs l).length (fun i=>((evL mem sh lk bu cs l).getD i default).tc) none
abbrev z27_4 (cs:List Cor):=Reg.row 2 cs.length (fun i=>(cs.getD i default).tc) none
abbrev z27_5 (l:List Did):=Reg.row 7 l.length (fun i=>(l.getD i default).tc) none
abbrev z27_6 (sh:Int) (lk:Int) (bu:Int):=Reg.ro [C.h 0,C.i .i64 sh,C.i .i64 lk,C.i .i64 bu,C.h 1,C.h 2,C.h 4]
abbrev z27_7:=Reg.box 28 [C.i .i64 0]
abbrev z27_9:=Reg.box 65 [C.h 10]
def L10_0_I (mem:List Int) (sh:Int) (lk:Int) (bu:Int) (cs:List Cor) (l:List Did) (k2:Nat) (x2_0:Int) (x2_1:Nat) (x2_2:Int×Int→Option Int) (rr3:Nat) (cc3:Nat):(Int×Int→Bool)×Nat→St:=fun x=>{ N:=65,fr:=[{ slot:=28,g:=[],sv:=SV.c (C.h 12) },{ slot:=9,g:=[],sv:=SV.c (C.p 11 0) },{ slot:=8,g:=[],sv:=SV.c (C.p 9 0) },{ slot:=5,g:=[],sv:=SV.c (C.p 7 0) },{ slot:=4,g:=[],sv:=SV.c (C.p 6 0) },{ slot:=3,g:=[],sv:=SV.c (C.p 5 0) }],rg:=[Reg.row 1 mem.length (fun i=>i64T (mem.getD i (0:Int))) none,z27_4 cs,z27_5 l,z27_6 sh lk bu,z27_3 mem sh lk bu cs l,Reg.box 26 [C.h 2],Reg.box 3 [C.i .i64 x2_0],z27_7,Reg.ro [C.p 3 0],z27_9,Reg.mp z27_1 (x2_1) (fun q=>(x2_2 q).isSome) (fun q=>(x2_2 q).getD (0:Int)) (some (MIt.mk (rr3) (x.1) (x.2) none)),z27_2 mem sh lk bu cs l k2,Reg.itr rr3],wr:=[1000000007] }
def L10_0_J (mem:List Int) (sh:Int) (lk:Int) (bu:Int) (cs:List Cor) (l:List Did) (k2:Nat) (x2_0:Int) (x2_1:Nat) (x2_2:Int×Int→Option Int) (rr3:Nat) (cc3:Nat):(Int×Int→Bool)×Nat→Prop:=fun x=>∀ q:Int×Int,(x2_2 q).isSome=true→x.1 q=false→¬ (q.1=((blkL mem sh lk bu cs l).getD k2 default).lock∧((blkL mem sh lk bu cs l).getD k2 default).from_<(x2_2 q).getD 0)
def L10_0_m (mem:List Int) (sh:Int) (lk:Int) (bu:Int) (cs:List Cor) (l:List Did) (k2:Nat) (x2_0:Int) (x2_1:Nat) (x2_2:Int×Int→Option Int) (rr3:Nat) (cc3:Nat):(Int×Int→Bool)×Nat→Nat:=fun x=>x.2
abbrev z27_12:=[En.mk 9 [] (SV.c (C.p 11 0)),En.mk 8 [] (SV.c (C.p 9 0)),En.mk 5 [] (SV.c (C.p 7 0)),En.mk 4 [] (SV.c (C.p 6 0)),En.mk 3 [] (SV.c (C.p 5 0))]
def R10_A (mem:List Int) (sh lk bu:Int) (cs:List Cor) (l:List Did):Nat→Int×Nat×(Int×Int→Option Int)→St:=fun k x=>St.mk 65 z27_12 [Reg.row 1 mem.length (fun i=>i64T (mem.getD i (0:Int))) none,z27_4 cs,z27_5 l,z27_6 sh lk bu,z27_3 mem sh lk bu cs l,Reg.box 26 [C.h 2],Reg.box 3 [C.i .i64 x.fst],z27_7,Reg.ro [C.p 3 0],z27_9,Reg.mp z27_1 x.snd.fst (fun q=>(x.snd.snd q).isSome) (fun q=>(x.snd.snd q).getD (0:Int)) none,Reg.box 48 [C.i .i64 ((blkL mem sh lk bu cs l).getD k default).lock,C.i .i64 ((blkL mem sh lk bu cs l).getD k default).core,C.i .i64 ((blkL mem sh lk bu cs l).getD k default).from_,C.i .i64 ((blkL mem sh lk bu cs l).getD k default).left,C.i .i64 ((blkL mem sh lk bu cs l).getD k default).to]] [1000000007]
abbrev z27_8 (mem:List Int) (sh:Int) (lk:Int) (bu:Int) (cs:List Cor) (l:List Did) (k2:Nat):=(((blkL mem sh lk bu cs l).getD k2 default).lock,((blkL mem sh lk bu cs l).getD k2 default).core)
abbrev z27_10 (mem:List Int) (sh:Int) (lk:Int) (bu:Int) (cs:List Cor) (l:List Did):=(evL mem sh lk bu cs l).length=(evL mem sh lk bu cs l).length
abbrev z27_11:=[En.mk 28 [] (SV.c (C.h 12)),En.mk 9 [] (SV.c (C.p 11 0)),En.mk 8 [] (SV.c (C.p 9 0)),En.mk 5 [] (SV.c (C.p 7 0)),En.mk 4 [] (SV.c (C.p 6 0)),En.mk 3 [] (SV.c (C.p 5 0))]
abbrev z27_14 (mem:List Int) (sh:Int) (lk:Int) (bu:Int) (cs:List Cor) (l:List Did) (k2:Nat):=((blkL mem sh lk bu cs l).getD k2 default).from_=((blkL mem sh lk bu cs l).getD k2 default).from_
abbrev z27_15 (sh:Int) (lk:Int) (bu:Int):=Reg.box 81 [C.h 0,C.i .i64 sh,C.i .i64 lk,C.i .i64 bu,C.h 1,C.h 2,C.h 8]
abbrev z27_16 (mem:List Int) (sh:Int) (lk:Int) (bu:Int) (cs:List Cor) (l:List Did):=Reg.own 63 7 (evL mem sh lk bu cs l).length (fun i=>((evL mem sh lk bu cs l).getD i default).tc) none
theorem c_crowdT (mem:List Int) (sh lk bu:Int) (cs:List Cor) (l:List Did) (hw:∀ a b:Nat,insK ((cs.getD a default).code.getD b default)) (hl:∀ a:Nat,0≤(l.getD a default).kind∧(l.getD a default).kind≤255) (hn:(l.length:Int) * 4096≤140737488355328):Ctr Try.prog 10 [IntRow mem,Cor.rowR cs,Did.rowR l] [.agg [.h 0,.i .i64 sh,.i .i64 lk,.i .i64 bu,.h 1],.c (.h 2)]
 (Det (.tup [(false,[.i .i64 (crowdL mem sh lk bu cs l)]),(false,[.i .i64 (evE mem sh lk bu cs l)])]) [.dead,.dead,.dead]):=by
 refine Ctr.intro [] Try.func10 K K ?_
 refine RunF.lens 2 (m:=l.length) K (fun hlens_2=>?_)
 refine RunF.call (vc:=[]) (args:=[SV.agg [C.h 0,C.i .i64 sh,C.i .i64 lk,C.i .i64 bu,C.h 1],SV.c (C.h 2)]) e_monitor_begun (c_begun (mem:=mem) (sh:=sh) (lk:=lk) (bu:=bu) (cs:=cs) (l:=l) (hw:=by first | assumption | omega | exact hw | exact hl) (hl:=by first | assumption | omega | exact hw | exact hl) (hn:=by first | assumption | omega | exact hw | exact hl)) [0,1,2] (E:=[mem.length=mem.length,∀ (i:Nat),i<mem.length→i64T (mem.getD i (0:Int))=i64T (mem.getD i (0:Int)),cs.length=cs.length,∀ (i:Nat),i<cs.length→(cs.getD i default).tc=(cs.getD i default).tc,l.length=l.length,∀ (i:Nat),i<l.length→(l.getD i default).tc=(l.getD i default).tc,sh=sh,lk=lk,bu=bu]) K trivial K R K ?_
 refine RunF.chk [17,5,4,3] [.ops [1,0] 3,.code [1,1]] (St.mk 65 [En.mk 17 [] (SV.tup [(false,[C.p 7 0]),(false,[C.i .i64 (evE mem sh lk bu cs l)])]),En.mk 5 [] (SV.c (C.p 6 0)),En.mk 4 [] (SV.c (C.p 5 0)),En.mk 3 [] (SV.c (C.p 4 0))] [Reg.row 1 mem.length (fun i=>i64T (mem.getD i (0:Int))) none,z27_4 cs,z27_5 l,Reg.box 25 [C.h 0,C.i .i64 sh,C.i .i64 lk,C.i .i64 bu,C.h 1],Reg.box 26 [C.h 2],Reg.box 3 [C.i .i64 0],z27_7,z27_15 sh lk bu,z27_16 mem sh lk bu cs l] []) K ?_
 refine RunF.cond (vc:=[]) (x:=!decide (evE mem sh lk bu cs l=(0:Int))) K trivial (fun h1=>?_) (fun h1=>?_)
 ·exact RunF.ret (vc:=[]) (v:=SV.tup [(false,[C.i .i64 0]),(false,[C.i .i64 (evE mem sh lk bu cs l)])]) _ _ [0,1,2] (E:=[crowdL mem sh lk bu cs l=(0:Int),evE mem sh lk bu cs l=evE mem sh lk bu cs l]) K trivial ⟨rfl,rfl⟩ K V51
 ·refine RunF.chk [6,5,4,3] [.code [1,1,0,1,1],.code [1,1,1]] (St.mk 65 [En.mk 6 [] (SV.c (C.p 7 0)),En.mk 5 [] (SV.c (C.p 6 0)),En.mk 4 [] (SV.c (C.p 5 0)),En.mk 3 [] (SV.c (C.p 4 0))] [Reg.row 1 mem.length (fun i=>i64T (mem.getD i (0:Int))) none,z27_4 cs,z27_5 l,Reg.box 25 [C.h 0,C.i .i64 sh,C.i .i64 lk,C.i .i64 bu,C.h 1],Reg.box 26 [C.h 2],Reg.box 3 [C.i .i64 0],z27_7,z27_15 sh lk bu,z27_16 mem sh lk bu cs l] []) K ?_
  refine RunF.call (vc:=[(MT.mk Try.prog 65 67 3 [CK.i IntKind.i64,CK.i IntKind.i64] true [CK.i IntKind.i64] false).P=Try.prog,(MT.mk Try.prog 65 67 3 [CK.i IntKind.i64,CK.i IntKind.i64] true [CK.i IntKind.i64] false).Ok]) (args:=[SV.c (C.p 7 0)]) e_monitor_looking_blocks (c_blocksF) [7] (E:=[]) K V17 K trivial K ?_
  refine RunF.chk [25,8,5,4,3] [.ops [1,1,1,1,0,0] 2,.code [1,1,1,1,0,1],.code [1,1,1,1,1]] (St.mk 65 [En.mk 25 [] (SV.c (C.fn 34 [11])),En.mk 8 [] (SV.c (C.p 10 0)),En.mk 5 [] (SV.c (C.p 6 0)),En.mk 4 [] (SV.c (C.p 5 0)),En.mk 3 [] (SV.c (C.p 4 0))] [Reg.row 1 mem.length (fun i=>i64T (mem.getD i (0:Int))) none,z27_4 cs,z27_5 l,Reg.box 25 [C.h 0,C.i .i64 sh,C.i .i64 lk,C.i .i64 bu,C.h 1],Reg.box 26 [C.h 2],Reg.box 3 [C.i .i64 0],z27_7,z27_15 sh lk bu,z27_16 mem sh lk bu cs l,Reg.mp z27_1 0 (fun x=>false) (fun x=>KA.zero z27_1.V) none,Reg.box 65 [C.h 9],Reg.box 52 [C.p 7 0]] []) K ?_
  refine RunF.range (I:=R10_I mem sh lk bu cs l) (J:=R10_J mem sh lk bu cs l) (Jx:=R10_Jx mem sh lk bu cs l) (n:=R10_n mem sh lk bu cs l) (nf:=11) (fi:=34) (enc:=R10_enc mem sh lk bu cs l) (stA:=R10_A mem sh lk bu cs l) (preI:=R10_P mem sh lk bu cs l) (argsI:=R10_Q) (caps:=[8]) (((0:Int),0,fun x=>none)) (St.mk 65 [En.mk 25 [] (SV.c (C.fn 34 [8])),En.mk 8 [] (SV.c (C.p 9 0)),En.mk 5 [] (SV.c (C.p 7 0)),En.mk 4 [] (SV.c (C.p 6 0)),En.mk 3 [] (SV.c (C.p 5 0))] [Reg.row 1 mem.length (fun i=>i64T (mem.getD i (0:Int))) none,z27_4 cs,z27_5 l,z27_6 sh lk bu,z27_3 mem sh lk bu cs l,Reg.box 26 [C.h 2],Reg.box 3 [C.i .i64 0],z27_7,Reg.ro [C.p 3 0],z27_9,Reg.mp z27_1 0 (fun (q:Int×Int)=>false) (fun (q:Int×Int)=>(0:Int)) none] []) [0,1,2,7,8,4,5,6,11,10,9] [0,1,2,4,3,8] (vc:=[]) (E:=[mem.length=mem.length,∀ (i:Nat),i<mem.length→i64T (mem.getD i (0:Int))=i64T (mem.getD i (0:Int)),cs.length=cs.length,∀ (i:Nat),i<cs.length→(cs.getD i default).tc=(cs.getD i default).tc,l.length=l.length,∀ (i:Nat),i<l.length→(l.getD i default).tc=(l.getD i default).tc,sh=sh,lk=lk,bu=bu,z27_10 mem sh lk bu cs l,∀ (i:Nat),i<(evL mem sh lk bu cs l).length→((evL mem sh lk bu cs l).getD i default).tc=((evL mem sh lk bu cs l).getD i default).tc,(0:Int)=(0:Int),(0:Int)=(0:Int),MpEq (MT.mk Try.prog 65 67 3 [CK.i IntKind.i64,CK.i IntKind.i64] true [CK.i IntKind.i64] false) 0 (fun (q:Int×Int)=>false) (fun (q:Int×Int)=>(0:Int)) none (MT.mk Try.prog 65 67 3 [CK.i IntKind.i64,CK.i IntKind.i64] true [CK.i IntKind.i64] false) 0 (fun x=>false) (fun x=>KA.zero (MT.mk Try.prog 65 67 3 [CK.i IntKind.i64,CK.i IntKind.i64] true [CK.i IntKind.i64] false).V) none]) (E2:=[mem.length=mem.length,∀ (i:Nat),i<mem.length→i64T (mem.getD i (0:Int))=i64T (mem.getD i (0:Int)),cs.length=cs.length,∀ (i:Nat),i<cs.length→(cs.getD i default).tc=(cs.getD i default).tc,l.length=l.length,∀ (i:Nat),i<l.length→(l.getD i default).tc=(l.getD i default).tc,z27_10 mem sh lk bu cs l,∀ (i:Nat),i<(evL mem sh lk bu cs l).length→((evL mem sh lk bu cs l).getD i default).tc=((evL mem sh lk bu cs l).getD i default).tc,sh=sh,lk=lk,bu=bu]) K trivial K V8 K e_monitor_looking_blocks_1 K K K K K ⟨rfl,Nat.le_refl _,rfl,rfl⟩ K R K K (fun k=>by kernel_rfl) (fun Xe hn he hy=>c_blocks_it mem sh lk bu cs l (evL mem sh lk bu cs l) (evE_ok (mem:=mem) (bu:=bu) (cs:=cs) (l:=l) V80) evL_ok Xe hn he hy) ?_ (fun _ _=>by kernel_rfl) ?_ ?_ ?_
  ·intro k2 x2 hk2 hJ2
   exact RunF.to (I:=fun x=>R10_A mem sh lk bu cs l k2 x2) (J:=fun x=>True) (vc:=[]) () [0,1,2,3,4,5,6,7,8,9,10,11] (E:=[mem.length=mem.length,∀ (i:Nat),i<mem.length→i64T (mem.getD i (0:Int))=i64T (mem.getD i (0:Int)),cs.length=cs.length,∀ (i:Nat),i<cs.length→(cs.getD i default).tc=(cs.getD i default).tc,l.length=l.length,∀ (i:Nat),i<l.length→(l.getD i default).tc=(l.getD i default).tc,sh=sh,lk=lk,bu=bu,z27_10 mem sh lk bu cs l,∀ (i:Nat),i<(evL mem sh lk bu cs l).length→((evL mem sh lk bu cs l).getD i default).tc=((evL mem sh lk bu cs l).getD i default).tc,x2.fst=x2.fst,(0:Int)=(0:Int),MpEq (MT.mk Try.prog 65 67 3 [CK.i IntKind.i64,CK.i IntKind.i64] true [CK.i IntKind.i64] false) x2.snd.fst (fun (q:Int×Int)=>(x2.snd.snd q).isSome) (fun (q:Int×Int)=>(x2.snd.snd q).getD (0:Int)) none (MT.mk Try.prog 65 67 3 [CK.i IntKind.i64,CK.i IntKind.i64] true [CK.i IntKind.i64] false) x2.snd.fst (fun (q:Int×Int)=>(x2.snd.snd q).isSome) (fun (q:Int×Int)=>(x2.snd.snd q).getD (0:Int)) none,((blkL mem sh lk bu cs l).getD k2 default).lock=((blkL mem sh lk bu cs l).getD k2 default).lock,((blkL mem sh lk bu cs l).getD k2 default).core=((blkL mem sh lk bu cs l).getD k2 default).core,z27_14 mem sh lk bu cs l k2,((blkL mem sh lk bu cs l).getD k2 default).left=((blkL mem sh lk bu cs l).getD k2 default).left,((blkL mem sh lk bu cs l).getD k2 default).to=((blkL mem sh lk bu cs l).getD k2 default).to]) K trivial K V8 trivial
  ·rintro k2 ⟨x2_0,x2_1,x2_2⟩ hk2 hJ2
   dsimp only [R10_J,R10_Jx,R10_n] at hJ2
   refine RunF.chk [9,8,5,4,3] [.code [1,1,1,1,0,1,0,1],.jmp (fun b a w=>RegsAt (R10_I mem sh lk bu cs l) (R10_J mem sh lk bu cs l (k2+1)) b w)] (St.mk 65 z27_12 [Reg.row 1 mem.length (fun i=>i64T (mem.getD i (0:Int))) none,z27_4 cs,z27_5 l,z27_6 sh lk bu,z27_3 mem sh lk bu cs l,Reg.box 26 [C.h 2],Reg.box 3 [C.i .i64 x2_0],z27_7,Reg.ro [C.p 3 0],z27_9,Reg.mp z27_1 x2_1 (fun (q:Int×Int)=>(x2_2 q).isSome) (fun (q:Int×Int)=>(x2_2 q).getD (0:Int)) none,z27_2 mem sh lk bu cs l k2] [1000000007]) K ?_
   refine RunF.mrange (T:=MT.mk Try.prog 65 67 3 z27_13 true [CK.i IntKind.i64] false) (n:=x2_1) (has:=fun (q:Int×Int)=>(x2_2 q).isSome) (f:=fun (q:Int×Int)=>(x2_2 q).getD (0:Int)) (it:=none) (vc:=[]) 10 K trivial K rfl (fun _ _=>by kernel_rfl) (fun rr3 cc3=>?_)
   refine RunF.chk [28,9,8,5,4,3] [.ops [1,1,1,1,0,1,0,1,0,0,0] 2,.code [1,1,1,1,0,1,0,1,0,0,1],.code [1,1,1,1,0,1,0,1,0,1],.blk 1,.jmp (fun b a w=>RegsAt (R10_I mem sh lk bu cs l) (R10_J mem sh lk bu cs l (k2+1)) b w)] (St.mk 65 z27_11 [Reg.row 1 mem.length (fun i=>i64T (mem.getD i (0:Int))) none,z27_4 cs,z27_5 l,z27_6 sh lk bu,z27_3 mem sh lk bu cs l,Reg.box 26 [C.h 2],Reg.box 3 [C.i .i64 x2_0],z27_7,Reg.ro [C.p 3 0],z27_9,Reg.mp z27_1 x2_1 (fun (q:Int×Int)=>(x2_2 q).isSome) (fun (q:Int×Int)=>(x2_2 q).getD (0:Int)) (some (MIt.mk (K:=z27_13) rr3 (fun (q:Int×Int)=>(x2_2 q).isSome) cc3 none)),z27_2 mem sh lk bu cs l k2,Reg.itr rr3] [1000000007]) K ?_
   refine RunF.loop (vc:=[]) (L10_0_I mem sh lk bu cs l k2 x2_0 x2_1 x2_2 rr3 cc3) (L10_0_J mem sh lk bu cs l k2 x2_0 x2_1 x2_2 rr3 cc3) (L10_0_m mem sh lk bu cs l k2 x2_0 x2_1 x2_2 rr3 cc3) ((fun (q:Int×Int)=>(x2_2 q).isSome,cc3)) [0,1,2,3,4,5,6,7,8,9,10,11,12] (E:=[mem.length=mem.length,∀ (i:Nat),i<mem.length→i64T (mem.getD i (0:Int))=i64T (mem.getD i (0:Int)),cs.length=cs.length,∀ (i:Nat),i<cs.length→(cs.getD i default).tc=(cs.getD i default).tc,l.length=l.length,∀ (i:Nat),i<l.length→(l.getD i default).tc=(l.getD i default).tc,sh=sh,lk=lk,bu=bu,z27_10 mem sh lk bu cs l,∀ (i:Nat),i<(evL mem sh lk bu cs l).length→((evL mem sh lk bu cs l).getD i default).tc=((evL mem sh lk bu cs l).getD i default).tc,x2_0=x2_0,(0:Int)=(0:Int),MpEq (MT.mk Try.prog 65 67 3 [CK.i IntKind.i64,CK.i IntKind.i64] true [CK.i IntKind.i64] false) x2_1 (fun (q:Int×Int)=>(x2_2 q).isSome) (fun (q:Int×Int)=>(x2_2 q).getD (0:Int)) (some (MIt.mk (K:=[CK.i IntKind.i64,CK.i IntKind.i64]) rr3 (fun (q:Int×Int)=>(x2_2 q).isSome) cc3 none)) (MT.mk Try.prog 65 67 3 [CK.i IntKind.i64,CK.i IntKind.i64] true [CK.i IntKind.i64] false) x2_1 (fun (q:Int×Int)=>(x2_2 q).isSome) (fun (q:Int×Int)=>(x2_2 q).getD (0:Int)) (some (MIt.mk (K:=[CK.i IntKind.i64,CK.i IntKind.i64]) rr3 (fun (q:Int×Int)=>(x2_2 q).isSome) cc3 none)),((blkL mem sh lk bu cs l).getD k2 default).lock=((blkL mem sh lk bu cs l).getD k2 default).lock,((blkL mem sh lk bu cs l).getD k2 default).core=((blkL mem sh lk bu cs l).getD k2 default).core,z27_14 mem sh lk bu cs l k2,((blkL mem sh lk bu cs l).getD k2 default).left=((blkL mem sh lk bu cs l).getD k2 default).left,((blkL mem sh lk bu cs l).getD k2 default).to=((blkL mem sh lk bu cs l).getD k2 default).to,rr3=rr3]) K trivial K V8 (by dsimp only [L10_0_J];intro q h1 h2;rw [h1] at h2;cases h2) ?_
   rintro ⟨x4_0,x4_1⟩ hJ4
   dsimp only [L10_0_J] at hJ4
   refine RunF.chk [28,9,8,5,4,3] [.code [1,1,1,1,0,1,0,1,0,0,1,0,0],.jmp (Tx.Next (L10_0_I mem sh lk bu cs l k2 x2_0 x2_1 x2_2 rr3 cc3) (L10_0_J mem sh lk bu cs l k2 x2_0 x2_1 x2_2 rr3 cc3) (L10_0_m mem sh lk bu cs l k2 x2_0 x2_1 x2_2 rr3 cc3) (x4_0,x4_1)),.blk 2,.code [1,1,1,1,0,1,0,1,0,1],.blk 1,.jmp (fun b a w=>RegsAt (R10_I mem sh lk bu cs l) (R10_J mem sh lk bu cs l (k2+1)) b w)] (St.mk 65 z27_11 [Reg.row 1 mem.length (fun i=>i64T (mem.getD i (0:Int))) none,z27_4 cs,z27_5 l,z27_6 sh lk bu,z27_3 mem sh lk bu cs l,Reg.box 26 [C.h 2],Reg.box 3 [C.i .i64 x2_0],z27_7,Reg.ro [C.p 3 0],z27_9,Reg.mp z27_1 x2_1 (fun (q:Int×Int)=>(x2_2 q).isSome) (fun (q:Int×Int)=>(x2_2 q).getD (0:Int)) (some (MIt.mk (K:=z27_13) rr3 x4_0 x4_1 none)),z27_2 mem sh lk bu cs l k2,Reg.itr rr3] [1000000007]) K ?_
   refine RunF.mnext (A:=Int×Int) (T:=MT.mk Try.prog 65 67 3 z27_13 true [CK.i IntKind.i64] false) (n:=x2_1) (has:=fun (q:Int×Int)=>(x2_2 q).isSome) (f:=fun (q:Int×Int)=>(x2_2 q).getD (0:Int)) (it:=MIt.mk (K:=z27_13) rr3 x4_0 x4_1 none) (vc:=[]) 10 12 (fun p=>p) (fun a=>⟨a,rfl⟩) K trivial K K rfl K (fun _ _=>by kernel_rfl) ?_ ?_
   ·intro hl5
    dsimp only at hl5
    refine RunF.chk [29,28,9,8,5,4,3] [.ops [1,1,1,1,0,1,0,1,0,0,1,0,0,0] 1,.code [1,1,1,1,0,1,0,1,0,0,1,0,0,1],.jmp (Tx.Next (L10_0_I mem sh lk bu cs l k2 x2_0 x2_1 x2_2 rr3 cc3) (L10_0_J mem sh lk bu cs l k2 x2_0 x2_1 x2_2 rr3 cc3) (L10_0_m mem sh lk bu cs l k2 x2_0 x2_1 x2_2 rr3 cc3) (x4_0,x4_1)),.blk 2,.code [1,1,1,1,0,1,0,1,0,1],.blk 1,.jmp (fun b a w=>RegsAt (R10_I mem sh lk bu cs l) (R10_J mem sh lk bu cs l (k2+1)) b w)] (St.mk 65 [En.mk 29 [] (SV.tup [(false,[C.t false])]),En.mk 28 [] (SV.c (C.h 12)),En.mk 9 [] (SV.c (C.p 11 0)),En.mk 8 [] (SV.c (C.p 9 0)),En.mk 5 [] (SV.c (C.p 7 0)),En.mk 4 [] (SV.c (C.p 6 0)),En.mk 3 [] (SV.c (C.p 5 0))] [Reg.row 1 mem.length (fun i=>i64T (mem.getD i (0:Int))) none,z27_4 cs,z27_5 l,z27_6 sh lk bu,z27_3 mem sh lk bu cs l,Reg.box 26 [C.h 2],Reg.box 3 [C.i .i64 x2_0],z27_7,Reg.ro [C.p 3 0],z27_9,Reg.mp z27_1 x2_1 (fun (q:Int×Int)=>(x2_2 q).isSome) (fun (q:Int×Int)=>(x2_2 q).getD (0:Int)) (some (MIt.mk (K:=z27_13) rr3 x4_0 x4_1 none)),z27_2 mem sh lk bu cs l k2,Reg.itr rr3] [1000000007]) K ?_
    refine RunF.cond (vc:=[]) (x:=decide (((blkL mem sh lk bu cs l).getD k2 default).to<(0:Int))) K trivial (fun h6=>?_) (fun h6=>?_)
    ·exact RunF.endRound (I:=R10_I mem sh lk bu cs l) (J:=R10_J mem sh lk bu cs l (k2+1)) (vc:=[Fits IntKind.i64 ((blkL mem sh lk bu cs l).getD k2 default).lock,Fits IntKind.i64 ((blkL mem sh lk bu cs l).getD k2 default).core,(MT.mk Try.prog 65 67 3 [CK.i IntKind.i64,CK.i IntKind.i64] true [CK.i IntKind.i64] false).P=Try.prog,Fits IntKind.i64 ((blkL mem sh lk bu cs l).getD k2 default).lock,Fits IntKind.i64 ((blkL mem sh lk bu cs l).getD k2 default).core,(MT.mk Try.prog 65 67 3 [CK.i IntKind.i64,CK.i IntKind.i64] true [CK.i IntKind.i64] false).P=Try.prog,x2_1<maxLen]) ((x2_0,x2_1+1,fun (q:Int×Int)=>if q=(z27_8 mem sh lk bu cs l k2) then some (if (↑l.length:Int)>(x2_2 (z27_8 mem sh lk bu cs l k2)).getD (0:Int) then (↑l.length:Int) else (x2_2 (z27_8 mem sh lk bu cs l k2)).getD (0:Int)) else x2_2 q)) [0,1,2,3,4,5,6,7,8,9,10] (E:=[mem.length=mem.length,∀ (i:Nat),i<mem.length→i64T (mem.getD i (0:Int))=i64T (mem.getD i (0:Int)),cs.length=cs.length,∀ (i:Nat),i<cs.length→(cs.getD i default).tc=(cs.getD i default).tc,l.length=l.length,∀ (i:Nat),i<l.length→(l.getD i default).tc=(l.getD i default).tc,sh=sh,lk=lk,bu=bu,z27_10 mem sh lk bu cs l,∀ (i:Nat),i<(evL mem sh lk bu cs l).length→((evL mem sh lk bu cs l).getD i default).tc=((evL mem sh lk bu cs l).getD i default).tc,x2_0=x2_0,(0:Int)=(0:Int),MpEq (MT.mk Try.prog 65 67 3 [CK.i IntKind.i64,CK.i IntKind.i64] true [CK.i IntKind.i64] false) (x2_1+1) (fun (q:Int×Int)=>(if q=(((blkL mem sh lk bu cs l).getD k2 default).lock,((blkL mem sh lk bu cs l).getD k2 default).core) then some (if (↑l.length:Int)>(x2_2 (((blkL mem sh lk bu cs l).getD k2 default).lock,((blkL mem sh lk bu cs l).getD k2 default).core)).getD (0:Int) then (↑l.length:Int) else (x2_2 (((blkL mem sh lk bu cs l).getD k2 default).lock,((blkL mem sh lk bu cs l).getD k2 default).core)).getD (0:Int)) else x2_2 q).isSome) (fun (q:Int×Int)=>(if q=(((blkL mem sh lk bu cs l).getD k2 default).lock,((blkL mem sh lk bu cs l).getD k2 default).core) then some (if (↑l.length:Int)>(x2_2 (((blkL mem sh lk bu cs l).getD k2 default).lock,((blkL mem sh lk bu cs l).getD k2 default).core)).getD (0:Int) then (↑l.length:Int) else (x2_2 (((blkL mem sh lk bu cs l).getD k2 default).lock,((blkL mem sh lk bu cs l).getD k2 default).core)).getD (0:Int)) else x2_2 q).getD (0:Int)) none (MT.mk Try.prog 65 67 3 [CK.i IntKind.i64,CK.i IntKind.i64] true [CK.i IntKind.i64] false) (x2_1+1) (fun (q:Int×Int)=>decide (q=(((blkL mem sh lk bu cs l).getD k2 default).lock,((blkL mem sh lk bu cs l).getD k2 default).core))||(x2_2 q).isSome) (fun (q:Int×Int)=>if q=(((blkL mem sh lk bu cs l).getD k2 default).lock,((blkL mem sh lk bu cs l).getD k2 default).core) then if (↑l.length:Int)>(x2_2 (((blkL mem sh lk bu cs l).getD k2 default).lock,((blkL mem sh lk bu cs l).getD k2 default).core)).getD (0:Int) then (↑l.length:Int) else (x2_2 (((blkL mem sh lk bu cs l).getD k2 default).lock,((blkL mem sh lk bu cs l).getD k2 default).core)).getD (0:Int) else (x2_2 q).getD (0:Int)) none]) K V17 K V8 V22
    ·exact RunF.endRound (I:=R10_I mem sh lk bu cs l) (J:=R10_J mem sh lk bu cs l (k2+1)) (vc:=[Fits IntKind.i64 ((blkL mem sh lk bu cs l).getD k2 default).lock,Fits IntKind.i64 ((blkL mem sh lk bu cs l).getD k2 default).core,(MT.mk Try.prog 65 67 3 [CK.i IntKind.i64,CK.i IntKind.i64] true [CK.i IntKind.i64] false).P=Try.prog,Fits IntKind.i64 ((blkL mem sh lk bu cs l).getD k2 default).lock,Fits IntKind.i64 ((blkL mem sh lk bu cs l).getD k2 default).core,(MT.mk Try.prog 65 67 3 [CK.i IntKind.i64,CK.i IntKind.i64] true [CK.i IntKind.i64] false).P=Try.prog,x2_1<maxLen]) ((x2_0,x2_1+1,fun (q:Int×Int)=>if q=(z27_8 mem sh lk bu cs l k2) then some (if ((blkL mem sh lk bu cs l).getD k2 default).to>(x2_2 (z27_8 mem sh lk bu cs l k2)).getD (0:Int) then ((blkL mem sh lk bu cs l).getD k2 default).to else (x2_2 (z27_8 mem sh lk bu cs l k2)).getD (0:Int)) else x2_2 q)) [0,1,2,3,4,5,6,7,8,9,10] (E:=[mem.length=mem.length,∀ (i:Nat),i<mem.length→i64T (mem.getD i (0:Int))=i64T (mem.getD i (0:Int)),cs.length=cs.length,∀ (i:Nat),i<cs.length→(cs.getD i default).tc=(cs.getD i default).tc,l.length=l.length,∀ (i:Nat),i<l.length→(l.getD i default).tc=(l.getD i default).tc,sh=sh,lk=lk,bu=bu,z27_10 mem sh lk bu cs l,∀ (i:Nat),i<(evL mem sh lk bu cs l).length→((evL mem sh lk bu cs l).getD i default).tc=((evL mem sh lk bu cs l).getD i default).tc,x2_0=x2_0,(0:Int)=(0:Int),MpEq (MT.mk Try.prog 65 67 3 [CK.i IntKind.i64,CK.i IntKind.i64] true [CK.i IntKind.i64] false) (x2_1+1) (fun (q:Int×Int)=>(if q=(((blkL mem sh lk bu cs l).getD k2 default).lock,((blkL mem sh lk bu cs l).getD k2 default).core) then some (if ((blkL mem sh lk bu cs l).getD k2 default).to>(x2_2 (((blkL mem sh lk bu cs l).getD k2 default).lock,((blkL mem sh lk bu cs l).getD k2 default).core)).getD (0:Int) then ((blkL mem sh lk bu cs l).getD k2 default).to else (x2_2 (((blkL mem sh lk bu cs l).getD k2 default).lock,((blkL mem sh lk bu cs l).getD k2 default).core)).getD (0:Int)) else x2_2 q).isSome) (fun (q:Int×Int)=>(if q=(((blkL mem sh lk bu cs l).getD k2 default).lock,((blkL mem sh lk bu cs l).getD k2 default).core) then some (if ((blkL mem sh lk bu cs l).getD k2 default).to>(x2_2 (((blkL mem sh lk bu cs l).getD k2 default).lock,((blkL mem sh lk bu cs l).getD k2 default).core)).getD (0:Int) then ((blkL mem sh lk bu cs l).getD k2 default).to else (x2_2 (((blkL mem sh lk bu cs l).getD k2 default).lock,((blkL mem sh lk bu cs l).getD k2 default).core)).getD (0:Int)) else x2_2 q).getD (0:Int)) none (MT.mk Try.prog 65 67 3 [CK.i IntKind.i64,CK.i IntKind.i64] true [CK.i IntKind.i64] false) (x2_1+1) (fun (q:Int×Int)=>decide (q=(((blkL mem sh lk bu cs l).getD k2 default).lock,((blkL mem sh lk bu cs l).getD k2 default).core))||(x2_2 q).isSome) (fun (q:Int×Int)=>if q=(((blkL mem sh lk bu cs l).getD k2 default).lock,((blkL mem sh lk bu cs l).getD k2 default).core) then if ((blkL mem sh lk bu cs l).getD k2 default).to>(x2_2 (((blkL mem sh lk bu cs l).getD k2 default).lock,((blkL mem sh lk bu cs l).getD k2 default).core)).getD (0:Int) then ((blkL mem sh lk bu cs l).getD k2 default).to else (x2_2 (((blkL mem sh lk bu cs l).getD k2 default).lock,((blkL mem sh lk bu cs l).getD k2 default).core)).getD (0:Int) else (x2_2 q).getD (0:Int)) none]) K V17 K V8 V22
   ·rintro ⟨kv5_0,kv5_1⟩ cn5 hwf5 hl5 hh5 hc5
    dsimp only at hl5 hh5 hc5
    refine RunF.chk [29,28,9,8,5,4,3] [.ops [1,1,1,1,0,1,0,1,0,0,1,0,0,0] 1,.code [1,1,1,1,0,1,0,1,0,0,1,0,0,1],.jmp (Tx.Next (L10_0_I mem sh lk bu cs l k2 x2_0 x2_1 x2_2 rr3 cc3) (L10_0_J mem sh lk bu cs l k2 x2_0 x2_1 x2_2 rr3 cc3) (L10_0_m mem sh lk bu cs l k2 x2_0 x2_1 x2_2 rr3 cc3) (x4_0,x4_1)),.blk 2,.code [1,1,1,1,0,1,0,1,0,1],.blk 1,.jmp (fun b a w=>RegsAt (R10_I mem sh lk bu cs l) (R10_J mem sh lk bu cs l (k2+1)) b w)] (St.mk 65 [En.mk 29 [] (SV.tup [(false,[C.t true]),(z27_1.kAgg,[C.i .i64 kv5_0,C.i .i64 kv5_1]),(z27_1.vAgg,[C.i .i64 ((x2_2 (kv5_0,kv5_1)).getD (0:Int))])]),En.mk 28 [] (SV.c (C.h 12)),En.mk 9 [] (SV.c (C.p 11 0)),En.mk 8 [] (SV.c (C.p 9 0)),En.mk 5 [] (SV.c (C.p 7 0)),En.mk 4 [] (SV.c (C.p 6 0)),En.mk 3 [] (SV.c (C.p 5 0))] [Reg.row 1 mem.length (fun i=>i64T (mem.getD i (0:Int))) none,z27_4 cs,z27_5 l,z27_6 sh lk bu,z27_3 mem sh lk bu cs l,Reg.box 26 [C.h 2],Reg.box 3 [C.i .i64 x2_0],z27_7,Reg.ro [C.p 3 0],z27_9,Reg.mp z27_1 x2_1 (fun (q:Int×Int)=>(x2_2 q).isSome) (fun (q:Int×Int)=>(x2_2 q).getD (0:Int)) (some (MIt.mk (K:=z27_13) (MIt.mk (K:=z27_13) rr3 x4_0 x4_1 none).r (fun (q:Int×Int)=>(MIt.mk (K:=z27_13) rr3 x4_0 x4_1 none).left q&&!decide (q=(kv5_0,kv5_1))) cn5 (some (kv5_0,kv5_1)))),z27_2 mem sh lk bu cs l k2,Reg.itr rr3] [1000000007]) K ?_
    refine RunF.cond (vc:=[rr3=(MIt.mk (K:=[CK.i IntKind.i64,CK.i IntKind.i64]) rr3 x4_0 x4_1 none).r,(MT.mk Try.prog 65 67 3 [CK.i IntKind.i64,CK.i IntKind.i64] true [CK.i IntKind.i64] false).P=Try.prog]) (x:=decide (kv5_0=((blkL mem sh lk bu cs l).getD k2 default).lock)&&decide (((blkL mem sh lk bu cs l).getD k2 default).from_<(x2_2 (kv5_0,kv5_1)).getD (0:Int))) K V17 (fun h6=>?_) (fun h6=>?_)
    ·exact RunF.retRound (I:=R10_I mem sh lk bu cs l) (J:=R10_J mem sh lk bu cs l (k2+1)) (Jx:=R10_Jx mem sh lk bu cs l) (vc:=[]) (v:=SV.tup [(false,[C.i .i64 ((blkL mem sh lk bu cs l).getD k2 default).from_]),(false,[C.i .i64 0])]) ((((blkL mem sh lk bu cs l).getD k2 default).from_,x2_1,x2_2)) [0,1,2,3,4,5,6,7,8,9,10] (E:=[mem.length=mem.length,∀ (i:Nat),i<mem.length→i64T (mem.getD i (0:Int))=i64T (mem.getD i (0:Int)),cs.length=cs.length,∀ (i:Nat),i<cs.length→(cs.getD i default).tc=(cs.getD i default).tc,l.length=l.length,∀ (i:Nat),i<l.length→(l.getD i default).tc=(l.getD i default).tc,sh=sh,lk=lk,bu=bu,z27_10 mem sh lk bu cs l,∀ (i:Nat),i<(evL mem sh lk bu cs l).length→((evL mem sh lk bu cs l).getD i default).tc=((evL mem sh lk bu cs l).getD i default).tc,z27_14 mem sh lk bu cs l k2,(0:Int)=(0:Int),MpEq (MT.mk Try.prog 65 67 3 [CK.i IntKind.i64,CK.i IntKind.i64] true [CK.i IntKind.i64] false) x2_1 (fun (q:Int×Int)=>(x2_2 q).isSome) (fun (q:Int×Int)=>(x2_2 q).getD (0:Int)) none (MT.mk Try.prog 65 67 3 [CK.i IntKind.i64,CK.i IntKind.i64] true [CK.i IntKind.i64] false) x2_1 (fun (q:Int×Int)=>(x2_2 q).isSome) (fun (q:Int×Int)=>(x2_2 q).getD (0:Int)) (some (MIt.mk (K:=[CK.i IntKind.i64,CK.i IntKind.i64]) (MIt.mk (K:=[CK.i IntKind.i64,CK.i IntKind.i64]) rr3 x4_0 x4_1 none).r (fun (q:Int×Int)=>(MIt.mk (K:=[CK.i IntKind.i64,CK.i IntKind.i64]) rr3 x4_0 x4_1 none).left q&&!decide (q=(kv5_0,kv5_1))) cn5 (some (kv5_0,kv5_1))))]) K trivial K V8 (by dsimp only [R10_Jx,R10_J] at *;have e0:evE mem sh lk bu cs l=0:=(by simpa using h1);have hK:=blkL_K (mem:=mem) (sh:=sh) (lk:=lk) (bu:=bu) (cs:=cs) (l:=l) k2 hk2;have hO:=blkL_ok (mem:=mem) (sh:=sh) (lk:=lk) (bu:=bu) (cs:=cs) (l:=l) k2 hk2;have hbl:=blkL_len (mem:=mem) (sh:=sh) (lk:=lk) (bu:=bu) (cs:=cs) (l:=l);have hk3:k2<(blkL mem sh lk bu cs l).length:=hk2;unfold blkK at hK;unfold blkOk at hO;have p0:=findFrom_next (crowdP (blkL mem sh lk bu cs l)) (i:=(k2:Int)) (n:=(blkL mem sh lk bu cs l).length);have p1:=findFrom_stop (crowdP (blkL mem sh lk bu cs l)) (i:=(k2:Int)) (n:=(blkL mem sh lk bu cs l).length);refine ⟨rfl,?_⟩;have hc:crowdP (blkL mem sh lk bu cs l) k2=false:=crowd_some (q:=(kv5_0,kv5_1)) blkL_ok hk3 (by rw [← hJ2.2.2.1];exact hh5) (by simp only [BL] at *;grind) (by rw [← hJ2.2.2.1];simp only [BL] at *;grind);unfold crowdV;rw [hJ2.2.2.2,p1 (by omega) hc,if_pos (by omega)];rfl)
    ·exact RunF.next (I:=L10_0_I mem sh lk bu cs l k2 x2_0 x2_1 x2_2 rr3 cc3) (J:=L10_0_J mem sh lk bu cs l k2 x2_0 x2_1 x2_2 rr3 cc3) (m:=L10_0_m mem sh lk bu cs l k2 x2_0 x2_1 x2_2 rr3 cc3) (x:=(x4_0,x4_1)) (vc:=[]) ((fun (q:Int×Int)=>(MIt.mk (K:=z27_13) rr3 x4_0 x4_1 none).left q&&!decide (q=(kv5_0,kv5_1)),cn5)) [0,1,2,3,4,5,6,7,8,9,10,11,12] (E:=[mem.length=mem.length,∀ (i:Nat),i<mem.length→i64T (mem.getD i (0:Int))=i64T (mem.getD i (0:Int)),cs.length=cs.length,∀ (i:Nat),i<cs.length→(cs.getD i default).tc=(cs.getD i default).tc,l.length=l.length,∀ (i:Nat),i<l.length→(l.getD i default).tc=(l.getD i default).tc,sh=sh,lk=lk,bu=bu,z27_10 mem sh lk bu cs l,∀ (i:Nat),i<(evL mem sh lk bu cs l).length→((evL mem sh lk bu cs l).getD i default).tc=((evL mem sh lk bu cs l).getD i default).tc,x2_0=x2_0,(0:Int)=(0:Int),MpEq (MT.mk Try.prog 65 67 3 [CK.i IntKind.i64,CK.i IntKind.i64] true [CK.i IntKind.i64] false) x2_1 (fun (q:Int×Int)=>(x2_2 q).isSome) (fun (q:Int×Int)=>(x2_2 q).getD (0:Int)) (some (MIt.mk (K:=[CK.i IntKind.i64,CK.i IntKind.i64]) rr3 (fun (q:Int×Int)=>(MIt.mk (K:=[CK.i IntKind.i64,CK.i IntKind.i64]) rr3 x4_0 x4_1 none).left q&&!decide (q=(kv5_0,kv5_1))) cn5 none)) (MT.mk Try.prog 65 67 3 [CK.i IntKind.i64,CK.i IntKind.i64] true [CK.i IntKind.i64] false) x2_1 (fun (q:Int×Int)=>(x2_2 q).isSome) (fun (q:Int×Int)=>(x2_2 q).getD (0:Int)) (some (MIt.mk (K:=[CK.i IntKind.i64,CK.i IntKind.i64]) (MIt.mk (K:=[CK.i IntKind.i64,CK.i IntKind.i64]) rr3 x4_0 x4_1 none).r (fun (q:Int×Int)=>(MIt.mk (K:=[CK.i IntKind.i64,CK.i IntKind.i64]) rr3 x4_0 x4_1 none).left q&&!decide (q=(kv5_0,kv5_1))) cn5 (some (kv5_0,kv5_1)))),((blkL mem sh lk bu cs l).getD k2 default).lock=((blkL mem sh lk bu cs l).getD k2 default).lock,((blkL mem sh lk bu cs l).getD k2 default).core=((blkL mem sh lk bu cs l).getD k2 default).core,z27_14 mem sh lk bu cs l k2,((blkL mem sh lk bu cs l).getD k2 default).left=((blkL mem sh lk bu cs l).getD k2 default).left,((blkL mem sh lk bu cs l).getD k2 default).to=((blkL mem sh lk bu cs l).getD k2 default).to,rr3=rr3]) K trivial K V8 (by assumption) (by dsimp only [L10_0_J];intro q hq hq2;by_cases e:q=(kv5_0,kv5_1);subst e;intro hh;simp only [BL] at *;grind;exact hJ4 q hq (by simpa [e] using hq2))
  ·rintro ⟨x2_0,x2_1,x2_2⟩ hJ2
   dsimp only [R10_J,R10_Jx,R10_n] at hJ2
   exact RunF.ret (vc:=[]) (v:=SV.tup [(false,[C.i .i64 (-1:Int)]),(false,[C.i .i64 0])]) _ _ [0,1,2] (E:=[crowdL mem sh lk bu cs l=(-1:Int),evE mem sh lk bu cs l=(0:Int)]) K trivial ⟨rfl,rfl⟩ K V51
  ·rintro cd ⟨x2_0,x2_1,x2_2⟩ hJ2
   dsimp only [R10_J,R10_Jx,R10_n] at hJ2
   obtain rfl:cd=Go.Code.ret:=hJ2.1
   exact RunF.ret (vc:=[]) (v:=SV.tup [(false,[C.i .i64 x2_0]),(false,[C.i .i64 0])]) _ _ [0,1,2] (E:=[crowdL mem sh lk bu cs l=x2_0,evE mem sh lk bu cs l=(0:Int)]) K trivial ⟨rfl,rfl⟩ K V51
end Go.Proofs.Ytlblobbklioofaa
end
namespace Go.Proofs.Ytlblobbklioofaa
open Go Go.Tx
theorem evOf_lock {sh lk:Int} {d:Did} {i:Int} (h0:0≤d.addr) (h:(evOf sh lk d i).kind=4):0≤(evOf sh lk d i).thing∧(evOf sh lk d i).thing<lk:=by
 revert h
 unfold evOf noEv
 repeat' split
 all_goals simp only []
 all_goals intro h
 all_goals first | omega | (simp at h;done) | (simp only [BL] at *;omega)
theorem evUp_lock {sh lk:Int} {l:List Did} (hr:rightsB l=true):∀ (n:Nat),n≤l.length→∀ e∈evUp sh lk l n,e.kind=4→0≤e.thing∧e.thing<lk
 | 0,_,e,h=>by simp [evUp] at h
 | n+1,hn,e,h=>by
   rw [evUp,List.mem_append] at h
   rcases h with h | h
   ·exact evUp_lock hr n (by omega) e h
   ·have hd:=rights_at hr (i:=(n:Int)) (by omega) (by omega)
    rw [Int.toNat_natCast] at hd
    have hb:=didB_bounds hd
    split at h
    ·simp at h
    ·have he:e=evAt sh lk l n:=by simpa using h
     subst he
     exact evOf_lock (by omega)
theorem blkUp_lock {sh lk:Int} {l:List Did} {evs:List Ev} (hev:∀ e∈evs,e.kind=4→0≤e.thing∧e.thing<lk):∀ n,n≤evs.length→∀ b∈blkUp sh l evs n,0≤b.lock∧b.lock<lk
 | 0,_,b,h=>by simp [blkUp] at h
 | n+1,hn,b,h=>by
   rw [blkUp,List.mem_append] at h
   rcases h with h | h
   ·exact blkUp_lock hev n (by omega) b h
   ·split at h
    ·rename_i hk
     have hb:b=blkOf sh l evs (evs.getD n default):=by simpa using h
     subst hb
     refine hev _ ?_ hk
     rw [List.getD_eq_getElem?_getD,List.getElem?_eq_getElem (by omega)];exact List.getElem_mem _
    ·simp at h
theorem blkL_lock {mem:List Int} {sh lk bu:Int} {cs:List Cor} {l:List Did}:∀ a:Nat,a<(blkL mem sh lk bu cs l).length→0≤((blkL mem sh lk bu cs l).getD a default).lock∧((blkL mem sh lk bu cs l).getD a default).lock<lk:=by
 intro a ha
 refine blkUp_lock (sh:=sh) (l:=l) (evs:=evL mem sh lk bu cs l) ?_ _ (Nat.le_refl _) _ ?_
 ·intro e he
  revert he
  unfold evL
  split
  ·rename_i h
   exact fun he=>evUp_lock (evE_right h) l.length (Nat.le_refl _) e he
  ·intro h;cases h
 ·rw [List.getD_eq_getElem?_getD,List.getElem?_eq_getElem ha];exact List.getElem_mem ha
def holdAt (bs:List Blk) (k n:Nat):List Int:=(List.range k).map fun j:Nat=>holdUp bs (j:Int) n
theorem holdAt_len (bs:List Blk) (k n:Nat):(holdAt bs k n).length=k:=by simp [holdAt]
theorem holdAt_zero (bs:List Blk) (k:Nat):holdAt bs k 0=List.replicate k (-1):=by
 apply List.ext_getElem
 ·simp [holdAt]
 ·intro i h1 h2;simp [holdAt,holdUp]
theorem holdAt_step (bs:List Blk) {k n:Nat} {x v:Int} (h0:0≤(bs.getD n default).lock) (hx:x=(bs.getD n default).lock) (hv:v=if 0≤(bs.getD n default).to then -1 else (bs.getD n default).core) :
 (holdAt bs k n).set x.toNat v=holdAt bs k (n+1):=by
 subst hx hv
 apply List.ext_getElem
 ·simp [holdAt]
 ·intro j h1 h2
  rw [List.getElem_set]
  simp only [holdAt,List.getElem_map,List.getElem_range,holdUp]
  by_cases e:(bs.getD n default).lock=(j:Int)
  ·rw [if_pos (by omega),if_pos e]
  ·rw [if_neg (by omega),if_neg e]
theorem fill_set (k:Nat) {i:Int} (h0:0≤i) (h1:i<k):(List.replicate i.toNat (-1:Int)++List.replicate (k-i.toNat) 0).set i.toNat (-1)=List.replicate (i+1).toNat (-1)++List.replicate (k-(i+1).toNat) 0:=by
 rw [List.set_append_right _ _ (by simp),List.length_replicate,Nat.sub_self,show k-i.toNat=(k-(i+1).toNat)+1 by omega,List.replicate_succ,List.set_cons_zero,show (i+1).toNat=i.toNat+1 by omega,List.replicate_succ',List.append_assoc]
 rfl
end Go.Proofs.Ytlblobbklioofaa
noncomputable section
namespace Go.Proofs.Ytlblobbklioofaa
open Go Go.Tx
theorem set_ints2 (l:List Int) (k k':Nat) (x y:Int):∀ i,i<((l.set k x).set k' y).length→i64T (((l.set k x).set k' y).getD i 0)=updT (updT (fun i=>i64T (l.getD i 0)) k 0 [.int .i64 x]) k' 0 [.int .i64 y] i:=by
 intro i hi
 rw [set_ints (l.set k x) k' y i hi]
 unfold updT
 funext j
 split
 ·rfl
 ·show i64T ((l.set k x).getD i 0) j=_
  rw [set_ints l k x i (by simpa using hi)]
  rfl
theorem set_len2 (l:List Int) (k k':Nat) (x y:Int):((l.set k x).set k' y).length=l.length:=by simp
def R8_I (mem:List Int) (sh lk bu:Int) (cs:List Cor) (l:List Did):List Int→List Reg:=fun x=>[IntRow mem,Cor.rowR cs,Did.rowR l,.ro [.h 0,.i .i64 sh,.i .i64 lk,.i .i64 bu,.h 1,.h 2,.h 4],Ev.rowR (evL mem sh lk bu cs l),IntOwn x,Reg.box 31 [.h 5],.ro [.p 3 0]]
def R8_J (mem:List Int) (sh lk bu:Int) (cs:List Cor) (l:List Did):Nat→List Int→Prop:=fun k x=>x=holdAt (blkL mem sh lk bu cs l) lk.toNat k
def R8_Jx:Go.Code→List Int→Prop:=fun _ _=>False
def R8_n (mem:List Int) (sh lk bu:Int) (cs:List Cor) (l:List Did):Nat:=(blkL mem sh lk bu cs l).length
def R8_enc (mem:List Int) (sh lk bu:Int) (cs:List Cor) (l:List Did):Nat→SV:=fun k=>.agg ((blkL mem sh lk bu cs l).getD k default).cs
def R8_P (mem:List Int) (sh lk bu:Int) (cs:List Cor) (l:List Did):List Reg:=[IntRow mem,Cor.rowR cs,Did.rowR l,Ev.rowR (evL mem sh lk bu cs l),.ro [.h 0,.i .i64 sh,.i .i64 lk,.i .i64 bu,.h 1,.h 2,.h 3],.ro [.p 4 0]]
def R8_Q:List SV:=[.c (.p 5 0)]
abbrev z28_8 (mem:List Int):=Reg.row 1 mem.length (fun i=>i64T (mem.getD i (0:Int))) none
abbrev z28_9 (cs:List Cor):=Reg.row 2 cs.length (fun i=>(cs.getD i default).tc) none
abbrev z28_10 (l:List Did):=Reg.row 7 l.length (fun i=>(l.getD i default).tc) none
abbrev z28_11 (mem:List Int) (sh:Int) (lk:Int) (bu:Int) (cs:List Cor) (l:List Did):=Reg.own 63 7 (evL mem sh lk bu cs l).length (fun i=>((evL mem sh lk bu cs l).getD i default).tc) none
abbrev z28_12 (sh:Int) (lk:Int) (bu:Int):=Reg.box 81 [C.h 0,C.i .i64 sh,C.i .i64 lk,C.i .i64 bu,C.h 1,C.h 2,C.h 5]
abbrev z28_14 (sh:Int) (lk:Int) (bu:Int):=Reg.box 25 [C.h 0,C.i .i64 sh,C.i .i64 lk,C.i .i64 bu,C.h 1]
def L8_0_I (mem:List Int) (sh:Int) (lk:Int) (bu:Int) (cs:List Cor) (l:List Did):Int×List Int→St:=fun x=>{ N:=49,fr:=[{ slot:=25,g:=[],sv:=SV.c (C.i .i64 x.1) },{ slot:=24,g:=[],sv:=SV.c (C.i .i64 (↑lk.toNat:Int)) },{ slot:=8,g:=[],sv:=SV.c (C.p 7 0) },{ slot:=6,g:=[],sv:=SV.c (C.p 4 0) },{ slot:=5,g:=[],sv:=SV.c (C.i .i64 0) },{ slot:=4,g:=[],sv:=SV.c (C.v (Value.slice none 0 0)) }],rg:=[z28_8 mem,z28_9 cs,z28_10 l,z28_14 sh lk bu,z28_12 sh lk bu,z28_11 mem sh lk bu cs l,IntOwn (x.2),Reg.box 31 [C.h 6]],wr:=[] }
def L8_0_J (mem:List Int) (sh:Int) (lk:Int) (bu:Int) (cs:List Cor) (l:List Did):Int×List Int→Prop:=fun x=>0≤x.1∧x.1≤lk∧x.2=List.replicate x.1.toNat (-1)++List.replicate (lk.toNat-x.1.toNat) 0
def L8_0_m (mem:List Int) (sh:Int) (lk:Int) (bu:Int) (cs:List Cor) (l:List Did):Int×List Int→Nat:=fun x=>(lk-x.1).toNat
def R8_A (mem:List Int) (sh lk bu:Int) (cs:List Cor) (l:List Did):Nat→List Int→St:=fun k x=>St.mk 49 [En.mk 10 [] (SV.c (C.p 8 0)),En.mk 8 [] (SV.c (C.p 6 0))] [z28_8 mem,z28_9 cs,z28_10 l,Reg.ro [C.h 0,C.i .i64 sh,C.i .i64 lk,C.i .i64 bu,C.h 1,C.h 2,C.h 4],Reg.row 7 (evL mem sh lk bu cs l).length (fun i=>((evL mem sh lk bu cs l).getD i default).tc) none,Reg.own 3 1 x.length (fun i=>i64T (x.getD i (0:Int))) none,Reg.box 31 [C.h 5],Reg.ro [C.p 3 0],Reg.box 48 [C.i .i64 ((blkL mem sh lk bu cs l).getD k default).lock,C.i .i64 ((blkL mem sh lk bu cs l).getD k default).core,C.i .i64 ((blkL mem sh lk bu cs l).getD k default).from_,C.i .i64 ((blkL mem sh lk bu cs l).getD k default).left,C.i .i64 ((blkL mem sh lk bu cs l).getD k default).to]] [1000000007]
abbrev z28_13:=En.mk 4 [] (SV.c (C.v (Value.slice none 0 0)))
abbrev z28_15 (x2_1:List Int):=Reg.own 3 1 x2_1.length (fun i=>i64T (x2_1.getD i (0:Int))) none
abbrev z28_1 (x2_0:Int) (lk:Int) (mem:List Int) (cs:List Cor) (l:List Did) (sh:Int) (bu:Int) (x2_1:List Int):=(St.mk 49 [En.mk 25 [] (SV.c (C.i .i64 x2_0)),En.mk 24 [] (SV.c (C.i .i64 (↑lk.toNat:Int))),En.mk 8 [] (SV.c (C.p 7 0)),En.mk 6 [] (SV.c (C.p 4 0)),En.mk 5 [] (SV.c (C.i .i64 0)),z28_13] [z28_8 mem,z28_9 cs,z28_10 l,z28_14 sh lk bu,z28_12 sh lk bu,z28_11 mem sh lk bu cs l,z28_15 x2_1,Reg.box 31 [C.h 6]] [])
abbrev z28_2 (mem:List Int) (cs:List Cor) (l:List Did) (sh:Int) (lk:Int) (bu:Int):=[z28_8 mem,z28_9 cs,z28_10 l,z28_14 sh lk bu,z28_12 sh lk bu,z28_11 mem sh lk bu cs l]
abbrev z28_3 (mem:List Int) (sh:Int) (lk:Int) (bu:Int) (cs:List Cor) (l:List Did):=(evL mem sh lk bu cs l).length=(evL mem sh lk bu cs l).length
abbrev z28_4 (mem:List Int):=∀ (i:Nat),i<mem.length→i64T (mem.getD i (0:Int))=i64T (mem.getD i (0:Int))
abbrev z28_5 (cs:List Cor):=∀ (i:Nat),i<cs.length→(cs.getD i default).tc=(cs.getD i default).tc
abbrev z28_6 (l:List Did):=∀ (i:Nat),i<l.length→(l.getD i default).tc=(l.getD i default).tc
abbrev z28_7 (mem:List Int) (sh:Int) (lk:Int) (bu:Int) (cs:List Cor) (l:List Did) (k4:Nat):=((blkL mem sh lk bu cs l).getD k4 default)
theorem c_holdersT (mem:List Int) (sh lk bu:Int) (cs:List Cor) (l:List Did) (hw:∀ a b:Nat,insK ((cs.getD a default).code.getD b default)) (hl:∀ a:Nat,0≤(l.getD a default).kind∧(l.getD a default).kind≤255) (hn:(l.length:Int) * 4096≤140737488355328):Ctr Try.prog 8 [IntRow mem,Cor.rowR cs,Did.rowR l] [.agg [.h 0,.i .i64 sh,.i .i64 lk,.i .i64 bu,.h 1],.c (.h 2)]
 (Det (.tup [(false,[.h 3]),(false,[.i .i64 (evE mem sh lk bu cs l)])]) [.dead,.dead,.dead,IntOwn (holdersL mem sh lk bu cs l)]):=by
 refine Ctr.intro [] Try.func8 K K ?_
 refine RunF.lens 2 (m:=l.length) K (fun hlens_2=>?_)
 refine RunF.call (vc:=[]) (args:=[SV.agg [C.h 0,C.i .i64 sh,C.i .i64 lk,C.i .i64 bu,C.h 1],SV.c (C.h 2)]) e_monitor_begun (c_begun (mem:=mem) (sh:=sh) (lk:=lk) (bu:=bu) (cs:=cs) (l:=l) (hw:=by first | assumption | omega | exact hw | exact hl) (hl:=by first | assumption | omega | exact hw | exact hl) (hn:=by first | assumption | omega | exact hw | exact hl)) [0,1,2] (E:=[mem.length=mem.length,z28_4 mem,cs.length=cs.length,z28_5 cs,l.length=l.length,z28_6 l,sh=sh,lk=lk,bu=bu]) K trivial K R K ?_
 refine RunF.chk [14,5,4,2] [.ops [1,0] 3,.code [1,1]] (St.mk 49 [En.mk 14 [] (SV.tup [(false,[C.p 4 0]),(false,[C.i .i64 (evE mem sh lk bu cs l)])]),En.mk 5 [] (SV.c (C.i .i64 0)),z28_13,En.mk 2 [] (SV.c (C.p 3 0))] (z28_2 mem cs l sh lk bu) []) K ?_
 refine RunF.cond (vc:=[]) (x:=!decide (evE mem sh lk bu cs l=(0:Int))) K trivial (fun h1=>?_) (fun h1=>?_)
 ·exact RunF.ret (vc:=[]) (v:=SV.tup [(false,[C.v (Value.slice none 0 0)]),(false,[C.i .i64 (evE mem sh lk bu cs l)])]) _ _ [0,1,2,1000003] (E:=[(holdersL mem sh lk bu cs l).length=0,evE mem sh lk bu cs l=evE mem sh lk bu cs l]) K trivial ⟨rfl,rfl⟩ K V74
 ·refine RunF.chk [6,5,4,2] [.code [1,1,0,1,1],.code [1,1,1]] (St.mk 49 [En.mk 6 [] (SV.c (C.p 4 0)),En.mk 5 [] (SV.c (C.i .i64 0)),z28_13,En.mk 2 [] (SV.c (C.p 3 0))] (z28_2 mem cs l sh lk bu) []) K ?_
  refine RunF.loop (vc:=[(0:Int)≤lk,lk≤lk,lk * (8:Int)≤(140737488355328:Int),lk≤(↑maxLen:Int)]) (L8_0_I mem sh lk bu cs l) (L8_0_J mem sh lk bu cs l) (L8_0_m mem sh lk bu cs l) (((0:Int),List.replicate lk.toNat (0:Int))) [0,1,2,3,4,5,6,7] (E:=[mem.length=mem.length,∀ (i:Nat),i<mem.length→i64T (mem.getD i (0:Int))=i64T (mem.getD i (0:Int)),cs.length=cs.length,∀ (i:Nat),i<cs.length→(cs.getD i default).tc=(cs.getD i default).tc,l.length=l.length,∀ (i:Nat),i<l.length→(l.getD i default).tc=(l.getD i default).tc,sh=sh,lk=lk,bu=bu,sh=sh,lk=lk,bu=bu,z28_3 mem sh lk bu cs l,∀ (i:Nat),i<(evL mem sh lk bu cs l).length→((evL mem sh lk bu cs l).getD i default).tc=((evL mem sh lk bu cs l).getD i default).tc,(List.replicate lk.toNat (0:Int)).length=lk.toNat,∀ (i:Nat),i<(List.replicate lk.toNat (0:Int)).length→i64T ((List.replicate lk.toNat (0:Int)).getD i (0:Int))=fun j=>valT (Value.int IntKind.i64 (0:Int)).cells.toList j,(0:Int)=(0:Int),(↑lk.toNat:Int)=(↑lk.toNat:Int),(0:Int)=(0:Int),Value.slice none 0 0=Value.slice none 0 0]) K V13 K V18 (by dsimp only [L8_0_J];have e0:evE mem sh lk bu cs l=0:=(by simpa using h1);have hs:=evE_ok e0;exact ⟨Int.le_refl _,by omega,by simp⟩) ?_
  rintro ⟨x2_0,x2_1⟩ hJ2
  dsimp only [L8_0_J] at hJ2
  refine RunF.chk [25,24,8,6,5,4] [.code [1,1,1,1,0,1,0,0],.jmp (Tx.Next (L8_0_I mem sh lk bu cs l) (L8_0_J mem sh lk bu cs l) (L8_0_m mem sh lk bu cs l) (x2_0,x2_1)),.blk 0,.code [1,1,1,1,1]] (z28_1 x2_0 lk mem cs l sh bu x2_1) K ?_
  refine RunF.cond (vc:=[]) (x:=decide (x2_0<(↑lk.toNat:Int))) K trivial (fun h3=>?_) (fun h3=>?_)
  ·exact RunF.next (I:=L8_0_I mem sh lk bu cs l) (J:=L8_0_J mem sh lk bu cs l) (m:=L8_0_m mem sh lk bu cs l) (x:=(x2_0,x2_1)) (vc:=[(0:Int)≤x2_0,x2_0<(↑x2_1.length:Int),x2_0.toNat<x2_1.length,Fits IntKind.i64 (x2_0+(1:Int))]) ((x2_0+(1:Int),x2_1.set x2_0.toNat (-1:Int))) [0,1,2,3,4,5,6,7] (E:=[mem.length=mem.length,∀ (i:Nat),i<mem.length→i64T (mem.getD i (0:Int))=i64T (mem.getD i (0:Int)),cs.length=cs.length,∀ (i:Nat),i<cs.length→(cs.getD i default).tc=(cs.getD i default).tc,l.length=l.length,∀ (i:Nat),i<l.length→(l.getD i default).tc=(l.getD i default).tc,sh=sh,lk=lk,bu=bu,sh=sh,lk=lk,bu=bu,z28_3 mem sh lk bu cs l,∀ (i:Nat),i<(evL mem sh lk bu cs l).length→((evL mem sh lk bu cs l).getD i default).tc=((evL mem sh lk bu cs l).getD i default).tc,(x2_1.set x2_0.toNat (-1:Int)).length=x2_1.length,∀ (i:Nat),i<(x2_1.set x2_0.toNat (-1:Int)).length→i64T ((x2_1.set x2_0.toNat (-1:Int)).getD i (0:Int))=updT (fun i=>i64T (x2_1.getD i (0:Int))) x2_0.toNat 0 [Value.int IntKind.i64 (-1:Int)] i,x2_0+(1:Int)=x2_0+(1:Int),(↑lk.toNat:Int)=(↑lk.toNat:Int),(0:Int)=(0:Int),Value.slice none 0 0=Value.slice none 0 0]) K V13 K V18 (by dsimp only [L8_0_m];(try simp only [decide_eq_true_eq] at *);omega) (by dsimp only [L8_0_J];have e0:evE mem sh lk bu cs l=0:=(by simpa using h1);have hs:=evE_ok e0;refine ⟨by omega,by simp only [BL] at *;omega,?_⟩;rw [hJ2.2.2];exact fill_set lk.toNat hJ2.1 (by simp only [BL] at *;omega))
  ·refine RunF.chk [25,24,8,6,5,4] [.code [1,1,1,1,0,1,0,0,1,0,1],.code [1,1,1,1,0,1,0,0,1,1],.jmp (Tx.Next (L8_0_I mem sh lk bu cs l) (L8_0_J mem sh lk bu cs l) (L8_0_m mem sh lk bu cs l) (x2_0,x2_1)),.blk 0,.code [1,1,1,1,1]] (z28_1 x2_0 lk mem cs l sh bu x2_1) K ?_
   refine RunF.call (vc:=[]) (args:=[SV.c (C.p 4 0)]) e_monitor_looking_blocks (c_blocksF) [4] (E:=[]) K trivial K trivial K ?_
   refine RunF.chk [33,8,5,4] [.ops [1,1,1,1,1,0,0] 2,.code [1,1,1,1,1,0,1],.code [1,1,1,1,1,1]] (St.mk 49 [En.mk 33 [] (SV.c (C.fn 34 [8])),En.mk 8 [] (SV.c (C.p 7 0)),En.mk 5 [] (SV.c (C.i .i64 0)),z28_13] [z28_8 mem,z28_9 cs,z28_10 l,z28_14 sh lk bu,z28_12 sh lk bu,z28_11 mem sh lk bu cs l,z28_15 x2_1,Reg.box 31 [C.h 6],Reg.box 52 [C.p 4 0]] []) K ?_
   refine RunF.range (I:=R8_I mem sh lk bu cs l) (J:=R8_J mem sh lk bu cs l) (Jx:=R8_Jx) (n:=R8_n mem sh lk bu cs l) (nf:=8) (fi:=34) (enc:=R8_enc mem sh lk bu cs l) (stA:=R8_A mem sh lk bu cs l) (preI:=R8_P mem sh lk bu cs l) (argsI:=R8_Q) (caps:=[7]) (x2_1) (St.mk 49 [En.mk 33 [] (SV.c (C.fn 34 [7])),En.mk 8 [] (SV.c (C.p 6 0)),En.mk 5 [] (SV.c (C.i .i64 0)),z28_13] [z28_8 mem,z28_9 cs,z28_10 l,Reg.ro [C.h 0,C.i .i64 sh,C.i .i64 lk,C.i .i64 bu,C.h 1,C.h 2,C.h 4],Reg.row 7 (evL mem sh lk bu cs l).length (fun i=>((evL mem sh lk bu cs l).getD i default).tc) none,z28_15 x2_1,Reg.box 31 [C.h 5],Reg.ro [C.p 3 0]] []) [0,1,2,4,5,6,7,8] [0,1,2,4,3,7] (vc:=[]) (E:=[mem.length=mem.length,∀ (i:Nat),i<mem.length→i64T (mem.getD i (0:Int))=i64T (mem.getD i (0:Int)),cs.length=cs.length,∀ (i:Nat),i<cs.length→(cs.getD i default).tc=(cs.getD i default).tc,l.length=l.length,∀ (i:Nat),i<l.length→(l.getD i default).tc=(l.getD i default).tc,sh=sh,lk=lk,bu=bu,z28_3 mem sh lk bu cs l,∀ (i:Nat),i<(evL mem sh lk bu cs l).length→((evL mem sh lk bu cs l).getD i default).tc=((evL mem sh lk bu cs l).getD i default).tc,x2_1.length=x2_1.length,∀ (i:Nat),i<x2_1.length→i64T (x2_1.getD i (0:Int))=i64T (x2_1.getD i (0:Int)),(0:Int)=(0:Int),Value.slice none 0 0=Value.slice none 0 0]) (E2:=[mem.length=mem.length,z28_4 mem,cs.length=cs.length,z28_5 cs,l.length=l.length,z28_6 l,z28_3 mem sh lk bu cs l,∀ (i:Nat),i<(evL mem sh lk bu cs l).length→((evL mem sh lk bu cs l).getD i default).tc=((evL mem sh lk bu cs l).getD i default).tc,sh=sh,lk=lk,bu=bu]) K trivial K R K e_monitor_looking_blocks_1 K K K K K (by dsimp only [R8_J];have e0:evE mem sh lk bu cs l=0:=(by simpa using h1);have hs:=evE_ok e0;rw [hJ2.2.2,holdAt_zero,show x2_0.toNat=lk.toNat by (simp only [BL] at *;omega),Nat.sub_self];simp) K R K K (fun k=>by kernel_rfl) (fun Xe hn he hy=>c_blocks_it mem sh lk bu cs l (evL mem sh lk bu cs l) (evE_ok (mem:=mem) (bu:=bu) (cs:=cs) (l:=l) V80) evL_ok Xe hn he hy) ?_ (fun _ _=>by kernel_rfl) ?_ ?_ (fun _ _ h=>h.elim)
   ·intro k4 x4 hk4 hJ4
    exact RunF.to (I:=fun x=>R8_A mem sh lk bu cs l k4 x4) (J:=fun x=>True) (vc:=[]) () [0,1,2,3,4,5,6,7,8] (E:=[mem.length=mem.length,z28_4 mem,cs.length=cs.length,z28_5 cs,l.length=l.length,z28_6 l,sh=sh,lk=lk,bu=bu,z28_3 mem sh lk bu cs l,∀ (i:Nat),i<(evL mem sh lk bu cs l).length→((evL mem sh lk bu cs l).getD i default).tc=((evL mem sh lk bu cs l).getD i default).tc,x4.length=x4.length,∀ (i:Nat),i<x4.length→i64T (x4.getD i (0:Int))=i64T (x4.getD i (0:Int)),(z28_7 mem sh lk bu cs l k4).lock=(z28_7 mem sh lk bu cs l k4).lock,(z28_7 mem sh lk bu cs l k4).core=(z28_7 mem sh lk bu cs l k4).core,(z28_7 mem sh lk bu cs l k4).from_=(z28_7 mem sh lk bu cs l k4).from_,(z28_7 mem sh lk bu cs l k4).left=(z28_7 mem sh lk bu cs l k4).left,(z28_7 mem sh lk bu cs l k4).to=(z28_7 mem sh lk bu cs l k4).to]) K trivial K R trivial
   ·rintro k4 x4_0 hk4 hJ4
    dsimp only [R8_J,R8_n] at hJ4
    refine RunF.chk [10,8] [.code [1,1,1,1,1,0,1,0,1],.jmp (fun b a w=>RegsAt (R8_I mem sh lk bu cs l) (R8_J mem sh lk bu cs l (k4+1)) b w)] (St.mk 49 [En.mk 10 [] (SV.c (C.p 8 0)),En.mk 8 [] (SV.c (C.p 6 0))] [z28_8 mem,z28_9 cs,z28_10 l,Reg.ro [C.h 0,C.i .i64 sh,C.i .i64 lk,C.i .i64 bu,C.h 1,C.h 2,C.h 4],Reg.row 7 (evL mem sh lk bu cs l).length (fun i=>((evL mem sh lk bu cs l).getD i default).tc) none,Reg.own 3 1 x4_0.length (fun i=>i64T (x4_0.getD i (0:Int))) none,Reg.box 31 [C.h 5],Reg.ro [C.p 3 0],Reg.box 48 [C.i .i64 (z28_7 mem sh lk bu cs l k4).lock,C.i .i64 (z28_7 mem sh lk bu cs l k4).core,C.i .i64 (z28_7 mem sh lk bu cs l k4).from_,C.i .i64 (z28_7 mem sh lk bu cs l k4).left,C.i .i64 (z28_7 mem sh lk bu cs l k4).to]] [1000000007]) K ?_
    refine RunF.cond (vc:=[(0:Int)≤((blkL mem sh lk bu cs l).getD k4 default).lock,((blkL mem sh lk bu cs l).getD k4 default).lock<(↑x4_0.length:Int),((blkL mem sh lk bu cs l).getD k4 default).lock.toNat<x4_0.length]) (x:=decide (((blkL mem sh lk bu cs l).getD k4 default).to<(0:Int))) K V13 (fun h5=>?_) (fun h5=>?_)
    ·exact RunF.endRound (I:=R8_I mem sh lk bu cs l) (J:=R8_J mem sh lk bu cs l (k4+1)) (vc:=[(0:Int)≤((blkL mem sh lk bu cs l).getD k4 default).lock,((blkL mem sh lk bu cs l).getD k4 default).lock<(↑x4_0.length:Int),((blkL mem sh lk bu cs l).getD k4 default).lock.toNat<x4_0.length]) ((x4_0.set (z28_7 mem sh lk bu cs l k4).lock.toNat (-1:Int)).set (z28_7 mem sh lk bu cs l k4).lock.toNat (z28_7 mem sh lk bu cs l k4).core) [0,1,2,3,4,5,6,7] (E:=[mem.length=mem.length,∀ (i:Nat),i<mem.length→i64T (mem.getD i (0:Int))=i64T (mem.getD i (0:Int)),cs.length=cs.length,∀ (i:Nat),i<cs.length→(cs.getD i default).tc=(cs.getD i default).tc,l.length=l.length,∀ (i:Nat),i<l.length→(l.getD i default).tc=(l.getD i default).tc,sh=sh,lk=lk,bu=bu,z28_3 mem sh lk bu cs l,∀ (i:Nat),i<(evL mem sh lk bu cs l).length→((evL mem sh lk bu cs l).getD i default).tc=((evL mem sh lk bu cs l).getD i default).tc,((x4_0.set ((blkL mem sh lk bu cs l).getD k4 default).lock.toNat (-1:Int)).set ((blkL mem sh lk bu cs l).getD k4 default).lock.toNat ((blkL mem sh lk bu cs l).getD k4 default).core).length=x4_0.length,∀ (i:Nat),i<((x4_0.set ((blkL mem sh lk bu cs l).getD k4 default).lock.toNat (-1:Int)).set ((blkL mem sh lk bu cs l).getD k4 default).lock.toNat ((blkL mem sh lk bu cs l).getD k4 default).core).length→i64T (((x4_0.set ((blkL mem sh lk bu cs l).getD k4 default).lock.toNat (-1:Int)).set ((blkL mem sh lk bu cs l).getD k4 default).lock.toNat ((blkL mem sh lk bu cs l).getD k4 default).core).getD i (0:Int))=updT (updT (fun i=>i64T (x4_0.getD i (0:Int))) ((blkL mem sh lk bu cs l).getD k4 default).lock.toNat 0 [Value.int IntKind.i64 (-1:Int)]) ((blkL mem sh lk bu cs l).getD k4 default).lock.toNat 0 [Value.int IntKind.i64 ((blkL mem sh lk bu cs l).getD k4 default).core] i]) K V13 K V18 V48
    ·exact RunF.endRound (I:=R8_I mem sh lk bu cs l) (J:=R8_J mem sh lk bu cs l (k4+1)) (vc:=[]) (x4_0.set (z28_7 mem sh lk bu cs l k4).lock.toNat (-1:Int)) [0,1,2,3,4,5,6,7] (E:=[mem.length=mem.length,∀ (i:Nat),i<mem.length→i64T (mem.getD i (0:Int))=i64T (mem.getD i (0:Int)),cs.length=cs.length,∀ (i:Nat),i<cs.length→(cs.getD i default).tc=(cs.getD i default).tc,l.length=l.length,∀ (i:Nat),i<l.length→(l.getD i default).tc=(l.getD i default).tc,sh=sh,lk=lk,bu=bu,z28_3 mem sh lk bu cs l,∀ (i:Nat),i<(evL mem sh lk bu cs l).length→((evL mem sh lk bu cs l).getD i default).tc=((evL mem sh lk bu cs l).getD i default).tc,(x4_0.set ((blkL mem sh lk bu cs l).getD k4 default).lock.toNat (-1:Int)).length=x4_0.length,∀ (i:Nat),i<(x4_0.set ((blkL mem sh lk bu cs l).getD k4 default).lock.toNat (-1:Int)).length→i64T ((x4_0.set ((blkL mem sh lk bu cs l).getD k4 default).lock.toNat (-1:Int)).getD i (0:Int))=updT (fun i=>i64T (x4_0.getD i (0:Int))) ((blkL mem sh lk bu cs l).getD k4 default).lock.toNat 0 [Value.int IntKind.i64 (-1:Int)] i]) K trivial K V18 V48
   ·rintro x4_0 hJ4
    dsimp only [R8_J,R8_n] at hJ4
    exact RunF.ret (vc:=[]) (v:=SV.tup [(false,[C.h 5]),(false,[C.i .i64 0])]) _ _ [0,1,2,5] (E:=[(holdersL mem sh lk bu cs l).length=x4_0.length,∀ (i:Nat),i<(holdersL mem sh lk bu cs l).length→i64T ((holdersL mem sh lk bu cs l).getD i (0:Int))=i64T (x4_0.getD i (0:Int)),evE mem sh lk bu cs l=(0:Int)]) K trivial ⟨rfl,rfl⟩ K V74
end Go.Proofs.Ytlblobbklioofaa
end
noncomputable section
namespace Go.Proofs.Ytlblobbklioofaa
open Go Go.Tx
def kIns:List Ins:=[⟨1,0,0,0,0,0,0,1,0⟩,⟨5,0,0,0,0,1,0,0,0⟩,⟨4,0,0,1,0,0,0,0,0⟩,⟨4,0,0,2,0,1,0,0,0⟩,⟨10,0,0,0,0,0,0,0,0⟩]
def kDids:List Did:=[⟨1,0,0,0,0,0,false⟩,⟨4,0,1,1,0,1,false⟩,⟨2,0,0,0,5,0,false⟩,⟨3,0,3,1,0,0,false⟩,⟨8,0,3,1,0,0,false⟩]
theorem c_lawKnown :Ctr Try.prog 25 [] []
 (Det (.tup [(true,[.h 0,.i .i64 1,.i .i64 1,.i .i64 2,.h 1]),(false,[.h 3])]) [WordOwn [5,0],Reg.own 96 2 1 (fun _ _=>.any) (some (0,[.v (.string ⟨#[97]⟩),.h 2])),Ins.ownR kIns,Did.ownR kDids]):=by
 refine Ctr.intro [] Try.func25 K K ?_
 exact RunF.ret (vc:=[]) (v:=SV.tup [(true,[C.h 2,C.i .i64 1,C.i .i64 1,C.i .i64 2,C.h 3]),(false,[C.h 5])]) _ _ [2,3,1,5] (E:=[[(5:Int),(0:Int)].length=2,∀ (i:Nat),i < [(5:Int),(0:Int)].length→i64T ([(5:Int),(0:Int)].getD i (0:Int))=rowT 1 [Value.int IntKind.i64 (5:Int),Value.int IntKind.i64 (0:Int)] i,1=1,0=0,∀ (i:Nat),i<1→i≠0→((fun _=>TC.any):Nat→TC)=fun _=>TC.any,Value.string (ByteArray.mk #[(97:UInt8)])=Value.string (ByteArray.mk #[(97:UInt8)]),kIns.length=5,∀ (i:Nat),i<kIns.length→(kIns.getD i default).tc=rowT 9 [Value.int IntKind.u8 (1:Int),Value.int IntKind.u8 (0:Int),Value.int IntKind.i64 (0:Int),Value.int IntKind.i64 (0:Int),Value.int IntKind.i64 (0:Int),Value.int IntKind.i64 (0:Int),Value.int IntKind.i64 (0:Int),Value.int IntKind.i64 (1:Int),Value.int IntKind.i64 (0:Int),Value.int IntKind.u8 (5:Int),Value.int IntKind.u8 (0:Int),Value.int IntKind.i64 (0:Int),Value.int IntKind.i64 (0:Int),Value.int IntKind.i64 (0:Int),Value.int IntKind.i64 (1:Int),Value.int IntKind.i64 (0:Int),Value.int IntKind.i64 (0:Int),Value.int IntKind.i64 (0:Int),Value.int IntKind.u8 (4:Int),Value.int IntKind.u8 (0:Int),Value.int IntKind.i64 (0:Int),Value.int IntKind.i64 (1:Int),Value.int IntKind.i64 (0:Int),Value.int IntKind.i64 (0:Int),Value.int IntKind.i64 (0:Int),Value.int IntKind.i64 (0:Int),Value.int IntKind.i64 (0:Int),Value.int IntKind.u8 (4:Int),Value.int IntKind.u8 (0:Int),Value.int IntKind.i64 (0:Int),Value.int IntKind.i64 (2:Int),Value.int IntKind.i64 (0:Int),Value.int IntKind.i64 (1:Int),Value.int IntKind.i64 (0:Int),Value.int IntKind.i64 (0:Int),Value.int IntKind.i64 (0:Int),Value.int IntKind.u8 (10:Int),Value.int IntKind.u8 (0:Int),Value.int IntKind.i64 (0:Int),Value.int IntKind.i64 (0:Int),Value.int IntKind.i64 (0:Int),Value.int IntKind.i64 (0:Int),Value.int IntKind.i64 (0:Int),Value.int IntKind.i64 (0:Int),Value.int IntKind.i64 (0:Int)] i,kDids.length=5,∀ (i:Nat),i<kDids.length→(kDids.getD i default).tc=rowT 7 [Value.int IntKind.u8 (1:Int),Value.int IntKind.i64 (0:Int),Value.int IntKind.i64 (0:Int),Value.int IntKind.i64 (0:Int),Value.int IntKind.i64 (0:Int),Value.int IntKind.i64 (0:Int),Value.bool false,Value.int IntKind.u8 (4:Int),Value.int IntKind.i64 (0:Int),Value.int IntKind.i64 (1:Int),Value.int IntKind.i64 (1:Int),Value.int IntKind.i64 (0:Int),Value.int IntKind.i64 (1:Int),Value.bool false,Value.int IntKind.u8 (2:Int),Value.int IntKind.i64 (0:Int),Value.int IntKind.i64 (0:Int),Value.int IntKind.i64 (0:Int),Value.int IntKind.i64 (5:Int),Value.int IntKind.i64 (0:Int),Value.bool false,Value.int IntKind.u8 (3:Int),Value.int IntKind.i64 (0:Int),Value.int IntKind.i64 (3:Int),Value.int IntKind.i64 (1:Int),Value.int IntKind.i64 (0:Int),Value.int IntKind.i64 (0:Int),Value.bool false,Value.int IntKind.u8 (8:Int),Value.int IntKind.i64 (0:Int),Value.int IntKind.i64 (3:Int),Value.int IntKind.i64 (1:Int),Value.int IntKind.i64 (0:Int),Value.int IntKind.i64 (0:Int),Value.bool false] i,(1:Int)=(1:Int),(1:Int)=(1:Int),(2:Int)=(2:Int)]) K trivial ⟨rfl,rfl⟩ K (by simp only [Conj];(repeat' apply And.intro)<;>first | rfl | trivial | (intros;trivial) | (exact rowT_list _ Ins.tl _ _ _ K) | (exact rowT_list _ Did.tl _ _ _ K) | (exact rowT_list (0:Int) (fun n=>[.val (.int .i64 n)]) _ _ _ K) | skip)
end Go.Proofs.Ytlblobbklioofaa
end
noncomputable section
namespace Go.Proofs.Ytlblobbklioofaa
open Go Go.Tx
def kCor:Cor:=⟨⟨#[97]⟩,kIns⟩
theorem getD_all {α:Type} (P:α→Prop) (l:List α) (d:α) (h:∀ x∈l,P x) (hd:P d) (a:Nat):P (l.getD a d):=by
 rw [List.getD_eq_getElem?_getD]
 cases e:l[a]? with
 | none=>exact hd
 | some x=>exact h x (List.mem_of_getElem? e)
theorem insK_def:insK default:=by unfold insK;decide
theorem kHw:∀ a b:Nat,insK (([kCor].getD a default).code.getD b default):=fun a b=>by
 refine getD_all (fun c:Cor=>insK (c.code.getD b default)) [kCor] default (fun x hx=>?_) ?_ a
 ·cases List.mem_singleton.1 hx
  refine getD_all insK kIns default (fun x hx=>?_) insK_def b
  simp only [kIns,List.mem_cons,List.not_mem_nil,or_false] at hx
  rcases hx with rfl | rfl | rfl | rfl | rfl<;>(unfold insK;decide)
 ·exact getD_all insK [] default (fun x hx=>by cases hx) insK_def b
def kDids2:List Did:=List.take 4 (List.drop 0 kDids)++[⟨4,0,1,1,0,1,false⟩]
theorem kHl:∀ a:Nat,0≤(kDids.getD a default).kind∧(kDids.getD a default).kind≤255:=
 getD_all (fun d:Did=>0≤d.kind∧d.kind≤255) kDids default (fun x hx=>by
  simp only [kDids,List.mem_cons,List.not_mem_nil,or_false] at hx
  rcases hx with rfl | rfl | rfl | rfl | rfl<;>decide) (by decide)
theorem kHl2:∀ a:Nat,0≤((List.take 4 (List.drop 0 kDids)++[(⟨4,0,1,1,0,1,false⟩:Did)]).getD a default).kind∧((List.take 4 (List.drop 0 kDids)++[(⟨4,0,1,1,0,1,false⟩:Did)]).getD a default).kind≤255:=
 getD_all (fun d:Did=>0≤d.kind∧d.kind≤255) kDids2 default (fun x hx=>by
  simp only [kDids2,kDids,List.drop_zero,List.take_succ_cons,List.take_zero,List.cons_append,List.nil_append,List.mem_cons,List.not_mem_nil,or_false] at hx
  rcases hx with rfl | rfl | rfl | rfl | rfl<;>decide) (by decide)
theorem kB:blkL [5,0] 1 1 2 [kCor] kDids=[⟨0,0,1,3,4⟩]:=by kernel_rfl
theorem kH:handsL [5,0] 1 1 2 [kCor] kDids [⟨2,0,0⟩]=[⟨0,0,2,5,5⟩]:=by kernel_rfl
abbrev z30_9:=[Did.mk (4:Int) (0:Int) (1:Int) (1:Int) (0:Int) (1:Int) false]
abbrev z30_16:=[Cls.mk (2:Int) (0:Int) (0:Int)]
abbrev z30_10:=(handsL [(5:Int),(0:Int)] (1:Int) (1:Int) (2:Int) [kCor] kDids z30_16)
abbrev z30_11:=(blkL [(5:Int),(0:Int)] (1:Int) (1:Int) (2:Int) [kCor] kDids)
abbrev z30_12:=(evE [(5:Int),(0:Int)] (1:Int) (1:Int) (2:Int) [kCor] kDids)
abbrev z30_14:=(askE [(5:Int),(0:Int)] (1:Int) (1:Int) (2:Int) [kCor] kDids z30_16)
abbrev z30_15:=(List.take 4 (List.drop 0 kDids)++z30_9)
abbrev z30_17:=Reg.own 48 5 1 (fun i=>(z30_11.getD i default).tc) none
abbrev z30_1:=St.mk 75 [En.mk 8 [] (SV.c (C.i .i64 (evE [(5:Int),(0:Int)] (1:Int) (1:Int) (2:Int) [kCor] z30_15))),En.mk 7 [] (SV.c (C.i .i64 (crowdL [(5:Int),(0:Int)] (1:Int) (1:Int) (2:Int) [kCor] z30_15))),En.mk 6 [] (SV.c (C.i .i64 z30_14)),En.mk 5 [] (SV.c (C.h 7)),En.mk 4 [] (SV.c (C.i .i64 z30_12)),En.mk 3 [] (SV.c (C.h 5)),En.mk 0 [] (SV.c (C.t false))] [Reg.dead,Reg.dead,Reg.dead,Reg.dead,Reg.dead,z30_17,Reg.dead,Reg.own 50 5 1 (fun i=>(z30_10.getD i default).tc) none,Reg.dead,Reg.dead,Reg.dead] []
abbrev z30_2:=[1=1,∀ (i:Nat),i<1→(z30_11.getD i default).tc=(z30_11.getD i default).tc,1=1,∀ (i:Nat),i<1→(z30_10.getD i default).tc=(z30_10.getD i default).tc,evE [(5:Int),(0:Int)] (1:Int) (1:Int) (2:Int) [kCor] z30_15=evE [(5:Int),(0:Int)] (1:Int) (1:Int) (2:Int) [kCor] z30_15,crowdL [(5:Int),(0:Int)] (1:Int) (1:Int) (2:Int) [kCor] z30_15=crowdL [(5:Int),(0:Int)] (1:Int) (1:Int) (2:Int) [kCor] z30_15,askE [(5:Int),(0:Int)] (1:Int) (1:Int) (2:Int) [kCor] kDids z30_16=askE [(5:Int),(0:Int)] (1:Int) (1:Int) (2:Int) [kCor] kDids z30_16,evE [(5:Int),(0:Int)] (1:Int) (1:Int) (2:Int) [kCor] kDids=evE [(5:Int),(0:Int)] (1:Int) (1:Int) (2:Int) [kCor] kDids]
abbrev z30_3:=[C.h 0,C.i .i64 1,C.i .i64 1,C.i .i64 2,C.h 1]
abbrev z30_4:=(z30_10.getD 0 default)
abbrev z30_5:=(z30_11.getD 0 default)
abbrev z30_6:=Reg.own 2 1 2 (fun i=>i64T ([(5:Int),(0:Int)].getD i (0:Int))) none
abbrev z30_7:=Reg.own 96 2 1 (fun i=>([kCor].getD i default).tc) none
abbrev z30_8:=Reg.row 7 5 (fun i=>(kDids.getD i default).tc) none
abbrev z30_13:=(St.mk 75 [En.mk 10 [] (SV.tup [(true,z30_3),(false,[C.h 3])]),En.mk 0 [] (SV.c (C.t false))] [z30_6,z30_7,Reg.dead,z30_8] [])
theorem c_lives :Ctr Try.prog 12 [] []
 (Det (.c (.b true)) []):=by
 refine Ctr.intro [] Try.func12 K K ?_
 refine RunF.call (vc:=[]) (args:=[]) e_stilelaw23_known (c_lawKnown) [] (E:=[]) K trivial K trivial K ?_
 refine RunF.fold (vc:=[Value.string kCor.name=Value.string (ByteArray.mk #[(97:UInt8)]),kCor.code.length=kIns.length,∀ (i:Nat),i<kCor.code.length→(kCor.code.getD i default).tc=(kIns.getD i default).tc]) 1 ((Cor.tc kCor)) K (by simp only [Conj];(repeat' apply And.intro)<;>first | rfl | (intros;rfl) | skip) ?_
 refine RunF.reg (vc:=[[kCor].length=1,∀ (i:Nat),i < [kCor].length→([kCor].getD i default).tc=if i=0 then kCor.tc else fun x=>TC.any]) 1 ((Cor.ownR [kCor])) K (by simp only [Conj];(repeat' apply And.intro)<;>first | rfl | (intro i hi;obtain rfl:i=0:=(by simp at hi;omega);rfl) | skip) ?_
 refine RunF.weaken z30_13 [0,1,2,3] (E:=[2=2,∀ (i:Nat),i<2→i64T ([(5:Int),(0:Int)].getD i (0:Int))=i64T ([(5:Int),(0:Int)].getD i (0:Int)),1=1,∀ (i:Nat),i<1→([kCor].getD i default).tc=([kCor].getD i default).tc,5=5,∀ (i:Nat),i<5→(kDids.getD i default).tc=(kDids.getD i default).tc,(1:Int)=(1:Int),(1:Int)=(1:Int),(2:Int)=(2:Int)]) K R ?_
 refine RunF.chk [10,0] [.ops [1,0] 1,.code [1,1]] z30_13 K ?_
 refine RunF.call (vc:=[]) (args:=[SV.agg z30_3,SV.c (C.h 3)]) e_monitor_Blocks (c_blocksT (mem:=[(5:Int),(0:Int)]) (sh:=(1:Int)) (lk:=(1:Int)) (bu:=(2:Int)) (cs:=[kCor]) (l:=kDids) (hw:=by first | exact kHw | exact kHl | exact kHl2 | decide | (simp [kDids];done)) (hl:=by first | exact kHw | exact kHl | exact kHl2 | decide | (simp [kDids];done)) (hn:=by first | exact kHw | exact kHl | exact kHl2 | decide | (simp [kDids];done))) [0,1,3] (E:=[[(5:Int),(0:Int)].length=2,∀ (i:Nat),i < [(5:Int),(0:Int)].length→i64T ([(5:Int),(0:Int)].getD i (0:Int))=i64T ([(5:Int),(0:Int)].getD i (0:Int)),[kCor].length=1,∀ (i:Nat),i < [kCor].length→([kCor].getD i default).tc=([kCor].getD i default).tc,kDids.length=5,∀ (i:Nat),i<kDids.length→(kDids.getD i default).tc=(kDids.getD i default).tc,(1:Int)=(1:Int),(1:Int)=(1:Int),(2:Int)=(2:Int)]) K trivial K V20 K ?_
 refine RunF.chk [16,2,1,0] [.ops [1,1,0] 3,.code [1,1,1]] (St.mk 75 [En.mk 16 [] (SV.tup [(false,[C.h 5]),(false,[C.i .i64 z30_12])]),En.mk 2 [] (SV.c (C.h 3)),En.mk 1 [] (SV.c (C.p 4 0)),En.mk 0 [] (SV.c (C.t false))] [z30_6,z30_7,Reg.dead,z30_8,Reg.box 25 z30_3,z30_17] []) K ?_
 refine RunF.call (vc:=[]) (args:=[SV.agg z30_3,SV.c (C.h 6),SV.c (C.h 3)]) e_monitor_Hands (c_handsT (mem:=[(5:Int),(0:Int)]) (sh:=(1:Int)) (lk:=(1:Int)) (bu:=(2:Int)) (cs:=[kCor]) (l:=kDids) (cl:=z30_16) (hw:=by first | exact kHw | exact kHl | exact kHl2 | decide | (simp [kDids];done)) (hl:=by first | exact kHw | exact kHl | exact kHl2 | decide | (simp [kDids];done)) (hn:=by first | exact kHw | exact kHl | exact kHl2 | decide | (simp [kDids];done))) [0,1,3,6] (E:=[[(5:Int),(0:Int)].length=2,∀ (i:Nat),i < [(5:Int),(0:Int)].length→i64T ([(5:Int),(0:Int)].getD i (0:Int))=i64T ([(5:Int),(0:Int)].getD i (0:Int)),[kCor].length=1,∀ (i:Nat),i < [kCor].length→([kCor].getD i default).tc=([kCor].getD i default).tc,kDids.length=5,∀ (i:Nat),i<kDids.length→(kDids.getD i default).tc=(kDids.getD i default).tc,[Cls.mk (2:Int) (0:Int) (0:Int)].length=1,∀ (i:Nat),i < [Cls.mk (2:Int) (0:Int) (0:Int)].length→i≠0→([Cls.mk (2:Int) (0:Int) (0:Int)].getD i default).tc=fun x=>TC.any,(Cls.mk (2:Int) (0:Int) (0:Int)).tc 0=TC.val (Value.int IntKind.u8 (2:Int)),(Cls.mk (2:Int) (0:Int) (0:Int)).tc 1=TC.val (Value.int IntKind.i64 (0:Int)),(Cls.mk (2:Int) (0:Int) (0:Int)).tc 2=TC.val (Value.int IntKind.i64 (0:Int)),(1:Int)=(1:Int),(1:Int)=(1:Int),(2:Int)=(2:Int)]) K trivial K V20 K ?_
 refine RunF.chk [24,4,3,2,1,0] [.ops [1,1,1,0] 5,.code [1,1,1,1]] (St.mk 75 [En.mk 24 [] (SV.tup [(false,[C.h 7]),(false,[C.i .i64 z30_14])]),En.mk 4 [] (SV.c (C.i .i64 z30_12)),En.mk 3 [] (SV.c (C.h 5)),En.mk 2 [] (SV.c (C.h 3)),En.mk 1 [] (SV.c (C.p 4 0)),En.mk 0 [] (SV.c (C.t false))] [z30_6,z30_7,Reg.dead,z30_8,Reg.box 25 z30_3,z30_17,Reg.own 72 3 1 (fun x x_1=>TC.any) (some (0,[C.i .u8 2,C.i .i64 0,C.i .i64 0])),Reg.own 50 5 1 (fun i=>(z30_10.getD i default).tc) none] []) K ?_
 refine RunF.any (n:=3) (vc:=[]) (fun _:Unit=>z30_1) (fun _=>True) K trivial ?_ ?_
 ·refine ⟨⟨⟨trivial,?_⟩,?_⟩,?_⟩
  ·refine RunF.any (n:=2) (vc:=[]) (fun _:Unit=>z30_1) (fun _=>True) K trivial ?_ ?_
   ·refine ⟨⟨trivial,?_⟩,?_⟩
    ·refine RunF.call (vc:=[(0:Int)≤(0:Int),(0:Int)≤(4:Int),(4:Int)≤(5:Int),(4:Int)=(4:Int),(0:Int)≤(0:Int),(0:Int)≤(4:Int),(4:Int)≤(5:Int),(4:Int)=(4:Int),∀ (i j:Nat),i<4→j<7→flatT ((kDids.getD (0+i) default).tc j),0<4,5≤maxLen,280≤140737488355328]) (args:=[SV.agg z30_3,SV.c (C.h 10)]) e_monitor_Crowd (c_crowdT (mem:=[(5:Int),(0:Int)]) (sh:=(1:Int)) (lk:=(1:Int)) (bu:=(2:Int)) (cs:=[kCor]) (l:=List.take 4 (List.drop 0 kDids)++z30_9) (hw:=by first | exact kHw | exact kHl | exact kHl2 | decide | (simp [kDids];done)) (hl:=by first | exact kHw | exact kHl | exact kHl2 | decide | (simp [kDids];done)) (hn:=by first | exact kHw | exact kHl | exact kHl2 | decide | (simp [kDids];done))) [0,1,10] (E:=[[(5:Int),(0:Int)].length=2,∀ (i:Nat),i < [(5:Int),(0:Int)].length→i64T ([(5:Int),(0:Int)].getD i (0:Int))=i64T ([(5:Int),(0:Int)].getD i (0:Int)),[kCor].length=1,∀ (i:Nat),i < [kCor].length→([kCor].getD i default).tc=([kCor].getD i default).tc,(List.take 4 (List.drop 0 kDids)++[Did.mk (4:Int) (0:Int) (1:Int) (1:Int) (0:Int) (1:Int) false]).length=5,∀ (i:Nat),i<(List.take 4 (List.drop 0 kDids)++[Did.mk (4:Int) (0:Int) (1:Int) (1:Int) (0:Int) (1:Int) false]).length→i≠4→((List.take 4 (List.drop 0 kDids)++[Did.mk (4:Int) (0:Int) (1:Int) (1:Int) (0:Int) (1:Int) false]).getD i default).tc=(kDids.getD (0+i) default).tc,((List.take 4 (List.drop 0 kDids)++[Did.mk (4:Int) (0:Int) (1:Int) (1:Int) (0:Int) (1:Int) false]).getD 4 default).tc 0=TC.val (Value.int IntKind.u8 (4:Int)),((List.take 4 (List.drop 0 kDids)++[Did.mk (4:Int) (0:Int) (1:Int) (1:Int) (0:Int) (1:Int) false]).getD 4 default).tc 1=TC.val (Value.int IntKind.i64 (0:Int)),((List.take 4 (List.drop 0 kDids)++[Did.mk (4:Int) (0:Int) (1:Int) (1:Int) (0:Int) (1:Int) false]).getD 4 default).tc 2=TC.val (Value.int IntKind.i64 (1:Int)),((List.take 4 (List.drop 0 kDids)++[Did.mk (4:Int) (0:Int) (1:Int) (1:Int) (0:Int) (1:Int) false]).getD 4 default).tc 3=TC.val (Value.int IntKind.i64 (1:Int)),((List.take 4 (List.drop 0 kDids)++[Did.mk (4:Int) (0:Int) (1:Int) (1:Int) (0:Int) (1:Int) false]).getD 4 default).tc 4=TC.val (Value.int IntKind.i64 (0:Int)),((List.take 4 (List.drop 0 kDids)++[Did.mk (4:Int) (0:Int) (1:Int) (1:Int) (0:Int) (1:Int) false]).getD 4 default).tc 5=TC.val (Value.int IntKind.i64 (1:Int)),((List.take 4 (List.drop 0 kDids)++[Did.mk (4:Int) (0:Int) (1:Int) (1:Int) (0:Int) (1:Int) false]).getD 4 default).tc 6=TC.val (Value.bool false),(1:Int)=(1:Int),(1:Int)=(1:Int),(2:Int)=(2:Int)]) K V21 K V20 K ?_
     exact RunF.to (I:=fun x=>z30_1) (J:=fun x=>True) (vc:=[]) () [0,1,2,3,4,5,6,7,8,9,10] (E:=z30_2) K trivial K R trivial
    ·refine RunF.call (vc:=[(0:Int)≤(0:Int),(0:Int)≤(4:Int),(4:Int)≤(5:Int),(4:Int)=(4:Int),(0:Int)≤(0:Int),(0:Int)≤(4:Int),(4:Int)≤(5:Int),(4:Int)=(4:Int),∀ (i j:Nat),i<4→j<7→flatT ((kDids.getD (0+i) default).tc j),0<4,5≤maxLen,280≤140737488355328]) (args:=[SV.agg z30_3,SV.c (C.h 10)]) e_monitor_Crowd (c_crowdT (mem:=[(5:Int),(0:Int)]) (sh:=(1:Int)) (lk:=(1:Int)) (bu:=(2:Int)) (cs:=[kCor]) (l:=List.take 4 (List.drop 0 kDids)++z30_9) (hw:=by first | exact kHw | exact kHl | exact kHl2 | decide | (simp [kDids];done)) (hl:=by first | exact kHw | exact kHl | exact kHl2 | decide | (simp [kDids];done)) (hn:=by first | exact kHw | exact kHl | exact kHl2 | decide | (simp [kDids];done))) [0,1,10] (E:=[[(5:Int),(0:Int)].length=2,∀ (i:Nat),i < [(5:Int),(0:Int)].length→i64T ([(5:Int),(0:Int)].getD i (0:Int))=i64T ([(5:Int),(0:Int)].getD i (0:Int)),[kCor].length=1,∀ (i:Nat),i < [kCor].length→([kCor].getD i default).tc=([kCor].getD i default).tc,(List.take 4 (List.drop 0 kDids)++[Did.mk (4:Int) (0:Int) (1:Int) (1:Int) (0:Int) (1:Int) false]).length=5,∀ (i:Nat),i<(List.take 4 (List.drop 0 kDids)++[Did.mk (4:Int) (0:Int) (1:Int) (1:Int) (0:Int) (1:Int) false]).length→i≠4→((List.take 4 (List.drop 0 kDids)++[Did.mk (4:Int) (0:Int) (1:Int) (1:Int) (0:Int) (1:Int) false]).getD i default).tc=(kDids.getD (0+i) default).tc,((List.take 4 (List.drop 0 kDids)++[Did.mk (4:Int) (0:Int) (1:Int) (1:Int) (0:Int) (1:Int) false]).getD 4 default).tc 0=TC.val (Value.int IntKind.u8 (4:Int)),((List.take 4 (List.drop 0 kDids)++[Did.mk (4:Int) (0:Int) (1:Int) (1:Int) (0:Int) (1:Int) false]).getD 4 default).tc 1=TC.val (Value.int IntKind.i64 (0:Int)),((List.take 4 (List.drop 0 kDids)++[Did.mk (4:Int) (0:Int) (1:Int) (1:Int) (0:Int) (1:Int) false]).getD 4 default).tc 2=TC.val (Value.int IntKind.i64 (1:Int)),((List.take 4 (List.drop 0 kDids)++[Did.mk (4:Int) (0:Int) (1:Int) (1:Int) (0:Int) (1:Int) false]).getD 4 default).tc 3=TC.val (Value.int IntKind.i64 (1:Int)),((List.take 4 (List.drop 0 kDids)++[Did.mk (4:Int) (0:Int) (1:Int) (1:Int) (0:Int) (1:Int) false]).getD 4 default).tc 4=TC.val (Value.int IntKind.i64 (0:Int)),((List.take 4 (List.drop 0 kDids)++[Did.mk (4:Int) (0:Int) (1:Int) (1:Int) (0:Int) (1:Int) false]).getD 4 default).tc 5=TC.val (Value.int IntKind.i64 (1:Int)),((List.take 4 (List.drop 0 kDids)++[Did.mk (4:Int) (0:Int) (1:Int) (1:Int) (0:Int) (1:Int) false]).getD 4 default).tc 6=TC.val (Value.bool false),(1:Int)=(1:Int),(1:Int)=(1:Int),(2:Int)=(2:Int)]) K V21 K V20 K ?_
     exact RunF.to (I:=fun x=>z30_1) (J:=fun x=>True) (vc:=[]) () [0,1,2,3,4,5,6,7,8,9,10] (E:=z30_2) K trivial K R trivial
   ·rintro ⟨⟩ _
    exact RunF.to (I:=fun x=>z30_1) (J:=fun x=>True) (vc:=[]) () [0,1,2,3,4,5,6,7,8,9,10] (E:=z30_2) K trivial K R trivial
  ·refine RunF.any (n:=2) (vc:=[(0:Int)≤(0:Int),(0:Int)≤(4:Int),(4:Int)≤(5:Int),(4:Int)=(4:Int),(0:Int)≤(0:Int),(0:Int)≤(4:Int),(4:Int)≤(5:Int),(4:Int)=(4:Int)]) (fun _:Unit=>z30_1) (fun _=>True) K V21 ?_ ?_
   ·refine ⟨⟨trivial,?_⟩,?_⟩
    ·refine RunF.call (vc:=[∀ (i j:Nat),i<4→j<7→flatT ((kDids.getD (0+i) default).tc j),0<4,5≤maxLen,280≤140737488355328]) (args:=[SV.agg z30_3,SV.c (C.h 10)]) e_monitor_Crowd (c_crowdT (mem:=[(5:Int),(0:Int)]) (sh:=(1:Int)) (lk:=(1:Int)) (bu:=(2:Int)) (cs:=[kCor]) (l:=List.take 4 (List.drop 0 kDids)++z30_9) (hw:=by first | exact kHw | exact kHl | exact kHl2 | decide | (simp [kDids];done)) (hl:=by first | exact kHw | exact kHl | exact kHl2 | decide | (simp [kDids];done)) (hn:=by first | exact kHw | exact kHl | exact kHl2 | decide | (simp [kDids];done))) [0,1,10] (E:=[[(5:Int),(0:Int)].length=2,∀ (i:Nat),i < [(5:Int),(0:Int)].length→i64T ([(5:Int),(0:Int)].getD i (0:Int))=i64T ([(5:Int),(0:Int)].getD i (0:Int)),[kCor].length=1,∀ (i:Nat),i < [kCor].length→([kCor].getD i default).tc=([kCor].getD i default).tc,(List.take 4 (List.drop 0 kDids)++[Did.mk (4:Int) (0:Int) (1:Int) (1:Int) (0:Int) (1:Int) false]).length=5,∀ (i:Nat),i<(List.take 4 (List.drop 0 kDids)++[Did.mk (4:Int) (0:Int) (1:Int) (1:Int) (0:Int) (1:Int) false]).length→i≠4→((List.take 4 (List.drop 0 kDids)++[Did.mk (4:Int) (0:Int) (1:Int) (1:Int) (0:Int) (1:Int) false]).getD i default).tc=(kDids.getD (0+i) default).tc,((List.take 4 (List.drop 0 kDids)++[Did.mk (4:Int) (0:Int) (1:Int) (1:Int) (0:Int) (1:Int) false]).getD 4 default).tc 0=TC.val (Value.int IntKind.u8 (4:Int)),((List.take 4 (List.drop 0 kDids)++[Did.mk (4:Int) (0:Int) (1:Int) (1:Int) (0:Int) (1:Int) false]).getD 4 default).tc 1=TC.val (Value.int IntKind.i64 (0:Int)),((List.take 4 (List.drop 0 kDids)++[Did.mk (4:Int) (0:Int) (1:Int) (1:Int) (0:Int) (1:Int) false]).getD 4 default).tc 2=TC.val (Value.int IntKind.i64 (1:Int)),((List.take 4 (List.drop 0 kDids)++[Did.mk (4:Int) (0:Int) (1:Int) (1:Int) (0:Int) (1:Int) false]).getD 4 default).tc 3=TC.val (Value.int IntKind.i64 (1:Int)),((List.take 4 (List.drop 0 kDids)++[Did.mk (4:Int) (0:Int) (1:Int) (1:Int) (0:Int) (1:Int) false]).getD 4 default).tc 4=TC.val (Value.int IntKind.i64 (0:Int)),((List.take 4 (List.drop 0 kDids)++[Did.mk (4:Int) (0:Int) (1:Int) (1:Int) (0:Int) (1:Int) false]).getD 4 default).tc 5=TC.val (Value.int IntKind.i64 (1:Int)),((List.take 4 (List.drop 0 kDids)++[Did.mk (4:Int) (0:Int) (1:Int) (1:Int) (0:Int) (1:Int) false]).getD 4 default).tc 6=TC.val (Value.bool false),(1:Int)=(1:Int),(1:Int)=(1:Int),(2:Int)=(2:Int)]) K V21 K V20 K ?_
     exact RunF.to (I:=fun x=>z30_1) (J:=fun x=>True) (vc:=[]) () [0,1,2,3,4,5,6,7,8,9,10] (E:=z30_2) K trivial K R trivial
    ·refine RunF.any (n:=2) (vc:=[]) (fun _:Unit=>z30_1) (fun _=>True) K trivial ?_ ?_
     ·refine ⟨⟨trivial,?_⟩,?_⟩
      ·refine RunF.call (vc:=[∀ (i j:Nat),i<4→j<7→flatT ((kDids.getD (0+i) default).tc j),0<4,5≤maxLen,280≤140737488355328]) (args:=[SV.agg z30_3,SV.c (C.h 10)]) e_monitor_Crowd (c_crowdT (mem:=[(5:Int),(0:Int)]) (sh:=(1:Int)) (lk:=(1:Int)) (bu:=(2:Int)) (cs:=[kCor]) (l:=List.take 4 (List.drop 0 kDids)++z30_9) (hw:=by first | exact kHw | exact kHl | exact kHl2 | decide | (simp [kDids];done)) (hl:=by first | exact kHw | exact kHl | exact kHl2 | decide | (simp [kDids];done)) (hn:=by first | exact kHw | exact kHl | exact kHl2 | decide | (simp [kDids];done))) [0,1,10] (E:=[[(5:Int),(0:Int)].length=2,∀ (i:Nat),i < [(5:Int),(0:Int)].length→i64T ([(5:Int),(0:Int)].getD i (0:Int))=i64T ([(5:Int),(0:Int)].getD i (0:Int)),[kCor].length=1,∀ (i:Nat),i < [kCor].length→([kCor].getD i default).tc=([kCor].getD i default).tc,(List.take 4 (List.drop 0 kDids)++[Did.mk (4:Int) (0:Int) (1:Int) (1:Int) (0:Int) (1:Int) false]).length=5,∀ (i:Nat),i<(List.take 4 (List.drop 0 kDids)++[Did.mk (4:Int) (0:Int) (1:Int) (1:Int) (0:Int) (1:Int) false]).length→i≠4→((List.take 4 (List.drop 0 kDids)++[Did.mk (4:Int) (0:Int) (1:Int) (1:Int) (0:Int) (1:Int) false]).getD i default).tc=(kDids.getD (0+i) default).tc,((List.take 4 (List.drop 0 kDids)++[Did.mk (4:Int) (0:Int) (1:Int) (1:Int) (0:Int) (1:Int) false]).getD 4 default).tc 0=TC.val (Value.int IntKind.u8 (4:Int)),((List.take 4 (List.drop 0 kDids)++[Did.mk (4:Int) (0:Int) (1:Int) (1:Int) (0:Int) (1:Int) false]).getD 4 default).tc 1=TC.val (Value.int IntKind.i64 (0:Int)),((List.take 4 (List.drop 0 kDids)++[Did.mk (4:Int) (0:Int) (1:Int) (1:Int) (0:Int) (1:Int) false]).getD 4 default).tc 2=TC.val (Value.int IntKind.i64 (1:Int)),((List.take 4 (List.drop 0 kDids)++[Did.mk (4:Int) (0:Int) (1:Int) (1:Int) (0:Int) (1:Int) false]).getD 4 default).tc 3=TC.val (Value.int IntKind.i64 (1:Int)),((List.take 4 (List.drop 0 kDids)++[Did.mk (4:Int) (0:Int) (1:Int) (1:Int) (0:Int) (1:Int) false]).getD 4 default).tc 4=TC.val (Value.int IntKind.i64 (0:Int)),((List.take 4 (List.drop 0 kDids)++[Did.mk (4:Int) (0:Int) (1:Int) (1:Int) (0:Int) (1:Int) false]).getD 4 default).tc 5=TC.val (Value.int IntKind.i64 (1:Int)),((List.take 4 (List.drop 0 kDids)++[Did.mk (4:Int) (0:Int) (1:Int) (1:Int) (0:Int) (1:Int) false]).getD 4 default).tc 6=TC.val (Value.bool false),(1:Int)=(1:Int),(1:Int)=(1:Int),(2:Int)=(2:Int)]) K V21 K V20 K ?_
       exact RunF.to (I:=fun x=>z30_1) (J:=fun x=>True) (vc:=[]) () [0,1,2,3,4,5,6,7,8,9,10] (E:=z30_2) K trivial K R trivial
      ·refine RunF.call (vc:=[∀ (i j:Nat),i<4→j<7→flatT ((kDids.getD (0+i) default).tc j),0<4,5≤maxLen,280≤140737488355328]) (args:=[SV.agg z30_3,SV.c (C.h 10)]) e_monitor_Crowd (c_crowdT (mem:=[(5:Int),(0:Int)]) (sh:=(1:Int)) (lk:=(1:Int)) (bu:=(2:Int)) (cs:=[kCor]) (l:=List.take 4 (List.drop 0 kDids)++z30_9) (hw:=by first | exact kHw | exact kHl | exact kHl2 | decide | (simp [kDids];done)) (hl:=by first | exact kHw | exact kHl | exact kHl2 | decide | (simp [kDids];done)) (hn:=by first | exact kHw | exact kHl | exact kHl2 | decide | (simp [kDids];done))) [0,1,10] (E:=[[(5:Int),(0:Int)].length=2,∀ (i:Nat),i < [(5:Int),(0:Int)].length→i64T ([(5:Int),(0:Int)].getD i (0:Int))=i64T ([(5:Int),(0:Int)].getD i (0:Int)),[kCor].length=1,∀ (i:Nat),i < [kCor].length→([kCor].getD i default).tc=([kCor].getD i default).tc,(List.take 4 (List.drop 0 kDids)++[Did.mk (4:Int) (0:Int) (1:Int) (1:Int) (0:Int) (1:Int) false]).length=5,∀ (i:Nat),i<(List.take 4 (List.drop 0 kDids)++[Did.mk (4:Int) (0:Int) (1:Int) (1:Int) (0:Int) (1:Int) false]).length→i≠4→((List.take 4 (List.drop 0 kDids)++[Did.mk (4:Int) (0:Int) (1:Int) (1:Int) (0:Int) (1:Int) false]).getD i default).tc=(kDids.getD (0+i) default).tc,((List.take 4 (List.drop 0 kDids)++[Did.mk (4:Int) (0:Int) (1:Int) (1:Int) (0:Int) (1:Int) false]).getD 4 default).tc 0=TC.val (Value.int IntKind.u8 (4:Int)),((List.take 4 (List.drop 0 kDids)++[Did.mk (4:Int) (0:Int) (1:Int) (1:Int) (0:Int) (1:Int) false]).getD 4 default).tc 1=TC.val (Value.int IntKind.i64 (0:Int)),((List.take 4 (List.drop 0 kDids)++[Did.mk (4:Int) (0:Int) (1:Int) (1:Int) (0:Int) (1:Int) false]).getD 4 default).tc 2=TC.val (Value.int IntKind.i64 (1:Int)),((List.take 4 (List.drop 0 kDids)++[Did.mk (4:Int) (0:Int) (1:Int) (1:Int) (0:Int) (1:Int) false]).getD 4 default).tc 3=TC.val (Value.int IntKind.i64 (1:Int)),((List.take 4 (List.drop 0 kDids)++[Did.mk (4:Int) (0:Int) (1:Int) (1:Int) (0:Int) (1:Int) false]).getD 4 default).tc 4=TC.val (Value.int IntKind.i64 (0:Int)),((List.take 4 (List.drop 0 kDids)++[Did.mk (4:Int) (0:Int) (1:Int) (1:Int) (0:Int) (1:Int) false]).getD 4 default).tc 5=TC.val (Value.int IntKind.i64 (1:Int)),((List.take 4 (List.drop 0 kDids)++[Did.mk (4:Int) (0:Int) (1:Int) (1:Int) (0:Int) (1:Int) false]).getD 4 default).tc 6=TC.val (Value.bool false),(1:Int)=(1:Int),(1:Int)=(1:Int),(2:Int)=(2:Int)]) K V21 K V20 K ?_
       exact RunF.to (I:=fun x=>z30_1) (J:=fun x=>True) (vc:=[]) () [0,1,2,3,4,5,6,7,8,9,10] (E:=z30_2) K trivial K R trivial
     ·rintro ⟨⟩ _
      exact RunF.to (I:=fun x=>z30_1) (J:=fun x=>True) (vc:=[]) () [0,1,2,3,4,5,6,7,8,9,10] (E:=z30_2) K trivial K R trivial
   ·rintro ⟨⟩ _
    exact RunF.to (I:=fun x=>z30_1) (J:=fun x=>True) (vc:=[]) () [0,1,2,3,4,5,6,7,8,9,10] (E:=z30_2) K trivial K R trivial
  ·refine RunF.any (n:=2) (vc:=[]) (fun _:Unit=>z30_1) (fun _=>True) K trivial ?_ ?_
   ·refine ⟨⟨trivial,?_⟩,?_⟩
    ·refine RunF.call (vc:=[(0:Int)≤(0:Int),(0:Int)≤(4:Int),(4:Int)≤(5:Int),(4:Int)=(4:Int),(0:Int)≤(0:Int),(0:Int)≤(4:Int),(4:Int)≤(5:Int),(4:Int)=(4:Int),∀ (i j:Nat),i<4→j<7→flatT ((kDids.getD (0+i) default).tc j),0<4,5≤maxLen,280≤140737488355328]) (args:=[SV.agg z30_3,SV.c (C.h 10)]) e_monitor_Crowd (c_crowdT (mem:=[(5:Int),(0:Int)]) (sh:=(1:Int)) (lk:=(1:Int)) (bu:=(2:Int)) (cs:=[kCor]) (l:=List.take 4 (List.drop 0 kDids)++z30_9) (hw:=by first | exact kHw | exact kHl | exact kHl2 | decide | (simp [kDids];done)) (hl:=by first | exact kHw | exact kHl | exact kHl2 | decide | (simp [kDids];done)) (hn:=by first | exact kHw | exact kHl | exact kHl2 | decide | (simp [kDids];done))) [0,1,10] (E:=[[(5:Int),(0:Int)].length=2,∀ (i:Nat),i < [(5:Int),(0:Int)].length→i64T ([(5:Int),(0:Int)].getD i (0:Int))=i64T ([(5:Int),(0:Int)].getD i (0:Int)),[kCor].length=1,∀ (i:Nat),i < [kCor].length→([kCor].getD i default).tc=([kCor].getD i default).tc,(List.take 4 (List.drop 0 kDids)++[Did.mk (4:Int) (0:Int) (1:Int) (1:Int) (0:Int) (1:Int) false]).length=5,∀ (i:Nat),i<(List.take 4 (List.drop 0 kDids)++[Did.mk (4:Int) (0:Int) (1:Int) (1:Int) (0:Int) (1:Int) false]).length→i≠4→((List.take 4 (List.drop 0 kDids)++[Did.mk (4:Int) (0:Int) (1:Int) (1:Int) (0:Int) (1:Int) false]).getD i default).tc=(kDids.getD (0+i) default).tc,((List.take 4 (List.drop 0 kDids)++[Did.mk (4:Int) (0:Int) (1:Int) (1:Int) (0:Int) (1:Int) false]).getD 4 default).tc 0=TC.val (Value.int IntKind.u8 (4:Int)),((List.take 4 (List.drop 0 kDids)++[Did.mk (4:Int) (0:Int) (1:Int) (1:Int) (0:Int) (1:Int) false]).getD 4 default).tc 1=TC.val (Value.int IntKind.i64 (0:Int)),((List.take 4 (List.drop 0 kDids)++[Did.mk (4:Int) (0:Int) (1:Int) (1:Int) (0:Int) (1:Int) false]).getD 4 default).tc 2=TC.val (Value.int IntKind.i64 (1:Int)),((List.take 4 (List.drop 0 kDids)++[Did.mk (4:Int) (0:Int) (1:Int) (1:Int) (0:Int) (1:Int) false]).getD 4 default).tc 3=TC.val (Value.int IntKind.i64 (1:Int)),((List.take 4 (List.drop 0 kDids)++[Did.mk (4:Int) (0:Int) (1:Int) (1:Int) (0:Int) (1:Int) false]).getD 4 default).tc 4=TC.val (Value.int IntKind.i64 (0:Int)),((List.take 4 (List.drop 0 kDids)++[Did.mk (4:Int) (0:Int) (1:Int) (1:Int) (0:Int) (1:Int) false]).getD 4 default).tc 5=TC.val (Value.int IntKind.i64 (1:Int)),((List.take 4 (List.drop 0 kDids)++[Did.mk (4:Int) (0:Int) (1:Int) (1:Int) (0:Int) (1:Int) false]).getD 4 default).tc 6=TC.val (Value.bool false),(1:Int)=(1:Int),(1:Int)=(1:Int),(2:Int)=(2:Int)]) K V21 K V20 K ?_
     exact RunF.to (I:=fun x=>z30_1) (J:=fun x=>True) (vc:=[]) () [0,1,2,3,4,5,6,7,8,9,10] (E:=z30_2) K trivial K R trivial
    ·refine RunF.any (n:=2) (vc:=[(0:Int)≤(0:Int),(0:Int)≤(4:Int),(4:Int)≤(5:Int),(4:Int)=(4:Int),(0:Int)≤(0:Int),(0:Int)≤(4:Int),(4:Int)≤(5:Int),(4:Int)=(4:Int)]) (fun _:Unit=>z30_1) (fun _=>True) K V21 ?_ ?_
     ·refine ⟨⟨trivial,?_⟩,?_⟩
      ·refine RunF.call (vc:=[∀ (i j:Nat),i<4→j<7→flatT ((kDids.getD (0+i) default).tc j),0<4,5≤maxLen,280≤140737488355328]) (args:=[SV.agg z30_3,SV.c (C.h 10)]) e_monitor_Crowd (c_crowdT (mem:=[(5:Int),(0:Int)]) (sh:=(1:Int)) (lk:=(1:Int)) (bu:=(2:Int)) (cs:=[kCor]) (l:=List.take 4 (List.drop 0 kDids)++z30_9) (hw:=by first | exact kHw | exact kHl | exact kHl2 | decide | (simp [kDids];done)) (hl:=by first | exact kHw | exact kHl | exact kHl2 | decide | (simp [kDids];done)) (hn:=by first | exact kHw | exact kHl | exact kHl2 | decide | (simp [kDids];done))) [0,1,10] (E:=[[(5:Int),(0:Int)].length=2,∀ (i:Nat),i < [(5:Int),(0:Int)].length→i64T ([(5:Int),(0:Int)].getD i (0:Int))=i64T ([(5:Int),(0:Int)].getD i (0:Int)),[kCor].length=1,∀ (i:Nat),i < [kCor].length→([kCor].getD i default).tc=([kCor].getD i default).tc,(List.take 4 (List.drop 0 kDids)++[Did.mk (4:Int) (0:Int) (1:Int) (1:Int) (0:Int) (1:Int) false]).length=5,∀ (i:Nat),i<(List.take 4 (List.drop 0 kDids)++[Did.mk (4:Int) (0:Int) (1:Int) (1:Int) (0:Int) (1:Int) false]).length→i≠4→((List.take 4 (List.drop 0 kDids)++[Did.mk (4:Int) (0:Int) (1:Int) (1:Int) (0:Int) (1:Int) false]).getD i default).tc=(kDids.getD (0+i) default).tc,((List.take 4 (List.drop 0 kDids)++[Did.mk (4:Int) (0:Int) (1:Int) (1:Int) (0:Int) (1:Int) false]).getD 4 default).tc 0=TC.val (Value.int IntKind.u8 (4:Int)),((List.take 4 (List.drop 0 kDids)++[Did.mk (4:Int) (0:Int) (1:Int) (1:Int) (0:Int) (1:Int) false]).getD 4 default).tc 1=TC.val (Value.int IntKind.i64 (0:Int)),((List.take 4 (List.drop 0 kDids)++[Did.mk (4:Int) (0:Int) (1:Int) (1:Int) (0:Int) (1:Int) false]).getD 4 default).tc 2=TC.val (Value.int IntKind.i64 (1:Int)),((List.take 4 (List.drop 0 kDids)++[Did.mk (4:Int) (0:Int) (1:Int) (1:Int) (0:Int) (1:Int) false]).getD 4 default).tc 3=TC.val (Value.int IntKind.i64 (1:Int)),((List.take 4 (List.drop 0 kDids)++[Did.mk (4:Int) (0:Int) (1:Int) (1:Int) (0:Int) (1:Int) false]).getD 4 default).tc 4=TC.val (Value.int IntKind.i64 (0:Int)),((List.take 4 (List.drop 0 kDids)++[Did.mk (4:Int) (0:Int) (1:Int) (1:Int) (0:Int) (1:Int) false]).getD 4 default).tc 5=TC.val (Value.int IntKind.i64 (1:Int)),((List.take 4 (List.drop 0 kDids)++[Did.mk (4:Int) (0:Int) (1:Int) (1:Int) (0:Int) (1:Int) false]).getD 4 default).tc 6=TC.val (Value.bool false),(1:Int)=(1:Int),(1:Int)=(1:Int),(2:Int)=(2:Int)]) K V21 K V20 K ?_
       exact RunF.to (I:=fun x=>z30_1) (J:=fun x=>True) (vc:=[]) () [0,1,2,3,4,5,6,7,8,9,10] (E:=z30_2) K trivial K R trivial
      ·refine RunF.call (vc:=[∀ (i j:Nat),i<4→j<7→flatT ((kDids.getD (0+i) default).tc j),0<4,5≤maxLen,280≤140737488355328]) (args:=[SV.agg z30_3,SV.c (C.h 10)]) e_monitor_Crowd (c_crowdT (mem:=[(5:Int),(0:Int)]) (sh:=(1:Int)) (lk:=(1:Int)) (bu:=(2:Int)) (cs:=[kCor]) (l:=List.take 4 (List.drop 0 kDids)++z30_9) (hw:=by first | exact kHw | exact kHl | exact kHl2 | decide | (simp [kDids];done)) (hl:=by first | exact kHw | exact kHl | exact kHl2 | decide | (simp [kDids];done)) (hn:=by first | exact kHw | exact kHl | exact kHl2 | decide | (simp [kDids];done))) [0,1,10] (E:=[[(5:Int),(0:Int)].length=2,∀ (i:Nat),i < [(5:Int),(0:Int)].length→i64T ([(5:Int),(0:Int)].getD i (0:Int))=i64T ([(5:Int),(0:Int)].getD i (0:Int)),[kCor].length=1,∀ (i:Nat),i < [kCor].length→([kCor].getD i default).tc=([kCor].getD i default).tc,(List.take 4 (List.drop 0 kDids)++[Did.mk (4:Int) (0:Int) (1:Int) (1:Int) (0:Int) (1:Int) false]).length=5,∀ (i:Nat),i<(List.take 4 (List.drop 0 kDids)++[Did.mk (4:Int) (0:Int) (1:Int) (1:Int) (0:Int) (1:Int) false]).length→i≠4→((List.take 4 (List.drop 0 kDids)++[Did.mk (4:Int) (0:Int) (1:Int) (1:Int) (0:Int) (1:Int) false]).getD i default).tc=(kDids.getD (0+i) default).tc,((List.take 4 (List.drop 0 kDids)++[Did.mk (4:Int) (0:Int) (1:Int) (1:Int) (0:Int) (1:Int) false]).getD 4 default).tc 0=TC.val (Value.int IntKind.u8 (4:Int)),((List.take 4 (List.drop 0 kDids)++[Did.mk (4:Int) (0:Int) (1:Int) (1:Int) (0:Int) (1:Int) false]).getD 4 default).tc 1=TC.val (Value.int IntKind.i64 (0:Int)),((List.take 4 (List.drop 0 kDids)++[Did.mk (4:Int) (0:Int) (1:Int) (1:Int) (0:Int) (1:Int) false]).getD 4 default).tc 2=TC.val (Value.int IntKind.i64 (1:Int)),((List.take 4 (List.drop 0 kDids)++[Did.mk (4:Int) (0:Int) (1:Int) (1:Int) (0:Int) (1:Int) false]).getD 4 default).tc 3=TC.val (Value.int IntKind.i64 (1:Int)),((List.take 4 (List.drop 0 kDids)++[Did.mk (4:Int) (0:Int) (1:Int) (1:Int) (0:Int) (1:Int) false]).getD 4 default).tc 4=TC.val (Value.int IntKind.i64 (0:Int)),((List.take 4 (List.drop 0 kDids)++[Did.mk (4:Int) (0:Int) (1:Int) (1:Int) (0:Int) (1:Int) false]).getD 4 default).tc 5=TC.val (Value.int IntKind.i64 (1:Int)),((List.take 4 (List.drop 0 kDids)++[Did.mk (4:Int) (0:Int) (1:Int) (1:Int) (0:Int) (1:Int) false]).getD 4 default).tc 6=TC.val (Value.bool false),(1:Int)=(1:Int),(1:Int)=(1:Int),(2:Int)=(2:Int)]) K V21 K V20 K ?_
       exact RunF.to (I:=fun x=>z30_1) (J:=fun x=>True) (vc:=[]) () [0,1,2,3,4,5,6,7,8,9,10] (E:=z30_2) K trivial K R trivial
     ·rintro ⟨⟩ _
      exact RunF.to (I:=fun x=>z30_1) (J:=fun x=>True) (vc:=[]) () [0,1,2,3,4,5,6,7,8,9,10] (E:=z30_2) K trivial K R trivial
   ·rintro ⟨⟩ _
    exact RunF.to (I:=fun x=>z30_1) (J:=fun x=>True) (vc:=[]) () [0,1,2,3,4,5,6,7,8,9,10] (E:=z30_2) K trivial K R trivial
 ·rintro ⟨⟩ _
  exact RunF.ret (vc:=[(decide (evE [(5:Int),(0:Int)] (1:Int) (1:Int) (2:Int) [kCor] kDids=(0:Int))&&decide ((1:Int)=(1:Int)))=true→(0:Int)≤(0:Int),(decide (evE [(5:Int),(0:Int)] (1:Int) (1:Int) (2:Int) [kCor] kDids=(0:Int))&&decide ((1:Int)=(1:Int)))=true→(0:Int)<(1:Int),(decide (evE [(5:Int),(0:Int)] (1:Int) (1:Int) (2:Int) [kCor] kDids=(0:Int))&&decide ((1:Int)=(1:Int)))=true→0<1,(decide (evE [(5:Int),(0:Int)] (1:Int) (1:Int) (2:Int) [kCor] kDids=(0:Int))&&decide ((1:Int)=(1:Int))&&(decide (((blkL [(5:Int),(0:Int)] (1:Int) (1:Int) (2:Int) [kCor] kDids).getD 0 default).lock=(0:Int))&&(decide (((blkL [(5:Int),(0:Int)] (1:Int) (1:Int) (2:Int) [kCor] kDids).getD 0 default).core=(0:Int))&&(decide (((blkL [(5:Int),(0:Int)] (1:Int) (1:Int) (2:Int) [kCor] kDids).getD 0 default).from_=(1:Int))&&(decide (((blkL [(5:Int),(0:Int)] (1:Int) (1:Int) (2:Int) [kCor] kDids).getD 0 default).left=(3:Int))&&(decide (((blkL [(5:Int),(0:Int)] (1:Int) (1:Int) (2:Int) [kCor] kDids).getD 0 default).to=(4:Int))&&true)))))&&decide (askE [(5:Int),(0:Int)] (1:Int) (1:Int) (2:Int) [kCor] kDids [Cls.mk (2:Int) (0:Int) (0:Int)]=(0:Int))&&decide ((1:Int)=(1:Int)))=true→(0:Int)≤(0:Int),(decide (evE [(5:Int),(0:Int)] (1:Int) (1:Int) (2:Int) [kCor] kDids=(0:Int))&&decide ((1:Int)=(1:Int))&&(decide (((blkL [(5:Int),(0:Int)] (1:Int) (1:Int) (2:Int) [kCor] kDids).getD 0 default).lock=(0:Int))&&(decide (((blkL [(5:Int),(0:Int)] (1:Int) (1:Int) (2:Int) [kCor] kDids).getD 0 default).core=(0:Int))&&(decide (((blkL [(5:Int),(0:Int)] (1:Int) (1:Int) (2:Int) [kCor] kDids).getD 0 default).from_=(1:Int))&&(decide (((blkL [(5:Int),(0:Int)] (1:Int) (1:Int) (2:Int) [kCor] kDids).getD 0 default).left=(3:Int))&&(decide (((blkL [(5:Int),(0:Int)] (1:Int) (1:Int) (2:Int) [kCor] kDids).getD 0 default).to=(4:Int))&&true)))))&&decide (askE [(5:Int),(0:Int)] (1:Int) (1:Int) (2:Int) [kCor] kDids [Cls.mk (2:Int) (0:Int) (0:Int)]=(0:Int))&&decide ((1:Int)=(1:Int)))=true→(0:Int)<(1:Int),(decide (evE [(5:Int),(0:Int)] (1:Int) (1:Int) (2:Int) [kCor] kDids=(0:Int))&&decide ((1:Int)=(1:Int))&&(decide (((blkL [(5:Int),(0:Int)] (1:Int) (1:Int) (2:Int) [kCor] kDids).getD 0 default).lock=(0:Int))&&(decide (((blkL [(5:Int),(0:Int)] (1:Int) (1:Int) (2:Int) [kCor] kDids).getD 0 default).core=(0:Int))&&(decide (((blkL [(5:Int),(0:Int)] (1:Int) (1:Int) (2:Int) [kCor] kDids).getD 0 default).from_=(1:Int))&&(decide (((blkL [(5:Int),(0:Int)] (1:Int) (1:Int) (2:Int) [kCor] kDids).getD 0 default).left=(3:Int))&&(decide (((blkL [(5:Int),(0:Int)] (1:Int) (1:Int) (2:Int) [kCor] kDids).getD 0 default).to=(4:Int))&&true)))))&&decide (askE [(5:Int),(0:Int)] (1:Int) (1:Int) (2:Int) [kCor] kDids [Cls.mk (2:Int) (0:Int) (0:Int)]=(0:Int))&&decide ((1:Int)=(1:Int)))=true→0<1]) (v:=SV.c (C.b (decide (evE [(5:Int),(0:Int)] (1:Int) (1:Int) (2:Int) [kCor] kDids=(0:Int))&&decide ((1:Int)=(1:Int))&&(decide (z30_5.lock=(0:Int))&&(decide (z30_5.core=(0:Int))&&(decide (z30_5.from_=(1:Int))&&(decide (z30_5.left=(3:Int))&&(decide (z30_5.to=(4:Int))&&true)))))&&decide (askE [(5:Int),(0:Int)] (1:Int) (1:Int) (2:Int) [kCor] kDids z30_16=(0:Int))&&decide ((1:Int)=(1:Int))&&(decide (z30_4.thing=(0:Int))&&(decide (z30_4.core=(0:Int))&&(decide (z30_4.pos=(2:Int))&&(decide (z30_4.read=(5:Int))&&(decide (z30_4.last=(5:Int))&&true)))))&&decide (evE [(5:Int),(0:Int)] (1:Int) (1:Int) (2:Int) [kCor] z30_15=(0:Int))&&decide (crowdL [(5:Int),(0:Int)] (1:Int) (1:Int) (2:Int) [kCor] z30_15=(4:Int))))) _ _ [] (E:=[true=true]) K V21 ⟨rfl,rfl⟩ K (rfl)
end Go.Proofs.Ytlblobbklioofaa
end
noncomputable section
namespace Go.Proofs.Ytlblobbklioofaa
open Go Go.Tx
abbrev z31_7 (mem:List Int) (sh:Int) (lk:Int) (bu:Int) (cs:List Cor) (l:List Did):=Reg.own 48 5 (blkL mem sh lk bu cs l).length (fun i=>((blkL mem sh lk bu cs l).getD i default).tc) none
abbrev z31_8 (sh:Int) (lk:Int) (bu:Int):=Reg.box 25 [C.h 0,C.i .i64 sh,C.i .i64 lk,C.i .i64 bu,C.h 1]
abbrev z31_9 (mem:List Int):=Reg.row 1 mem.length (fun i=>i64T (mem.getD i (0:Int))) none
abbrev z31_10 (cs:List Cor):=Reg.row 2 cs.length (fun i=>(cs.getD i default).tc) none
abbrev z31_11 (l:List Did):=Reg.row 7 l.length (fun i=>(l.getD i default).tc) none
abbrev z31_12 (mem:List Int) (sh:Int) (lk:Int) (bu:Int) (cs:List Cor) (l:List Did):=Reg.own 3 1 (holdersL mem sh lk bu cs l).length (fun i=>i64T ((holdersL mem sh lk bu cs l).getD i (0:Int))) none
abbrev z31_1 (mem:List Int) (cs:List Cor) (l:List Did) (sh:Int) (lk:Int) (bu:Int):=[z31_9 mem,z31_10 cs,z31_11 l,z31_8 sh lk bu,z31_7 mem sh lk bu cs l,z31_7 mem sh lk bu cs l,z31_12 mem sh lk bu cs l,z31_12 mem sh lk bu cs l]
abbrev z31_3 (mem:List Int) (cs:List Cor) (l:List Did) (sh:Int) (lk:Int) (bu:Int):=[mem.length=mem.length,∀ (i:Nat),i<mem.length→i64T (mem.getD i (0:Int))=i64T (mem.getD i (0:Int)),cs.length=cs.length,∀ (i:Nat),i<cs.length→(cs.getD i default).tc=(cs.getD i default).tc,l.length=l.length,∀ (i:Nat),i<l.length→(l.getD i default).tc=(l.getD i default).tc,sh=sh,lk=lk,bu=bu]
abbrev z31_5 (sh:Int) (lk:Int) (bu:Int):=SV.agg [C.h 0,C.i .i64 sh,C.i .i64 lk,C.i .i64 bu,C.h 1]
abbrev z31_6 (mem:List Int) (sh:Int) (lk:Int) (bu:Int) (cs:List Cor) (l:List Did):=(SV.c (C.i .i64 (evE mem sh lk bu cs l)))
theorem c_lawBlocks (mem:List Int) (sh lk bu:Int) (cs:List Cor) (l:List Did) (hw:∀ a b:Nat,insK ((cs.getD a default).code.getD b default)) (hl:∀ a:Nat,0≤(l.getD a default).kind∧(l.getD a default).kind≤255) (hn:(l.length:Int) * 4096≤140737488355328):Ctr Try.prog 3 [IntRow mem,Cor.rowR cs,Did.rowR l] [.agg [.h 0,.i .i64 sh,.i .i64 lk,.i .i64 bu,.h 1],.c (.h 2)]
 (Det (.c (.b true)) [.dead,.dead,.dead]):=by
 refine Ctr.intro [] Try.func3 K K ?_
 refine RunF.lens 2 (m:=l.length) K (fun hlens_2=>?_)
 refine RunF.call (vc:=[]) (args:=[z31_5 sh lk bu,SV.c (C.h 2)]) e_monitor_Blocks (c_blocksT (mem:=mem) (sh:=sh) (lk:=lk) (bu:=bu) (cs:=cs) (l:=l) (hw:=by first | assumption | omega | exact hw | exact hl) (hl:=by first | assumption | omega | exact hw | exact hl) (hn:=by first | assumption | omega | exact hw | exact hl)) [0,1,2] (E:=(z31_3 mem cs l sh lk bu)) K trivial K R K ?_
 refine RunF.chk [20,4,2,1] [.ops [1,0] 3,.code [1,1]] (St.mk 84 [En.mk 20 [] (SV.tup [(false,[C.h 4]),(false,[C.i .i64 (evE mem sh lk bu cs l)])]),En.mk 4 [] (SV.c (C.t false)),En.mk 2 [] (SV.c (C.p 3 0)),En.mk 1 [] (SV.c (C.h 2))] [z31_9 mem,z31_10 cs,z31_11 l,z31_8 sh lk bu,z31_7 mem sh lk bu cs l] []) K ?_
 refine RunF.call (vc:=[]) (args:=[z31_5 sh lk bu,SV.c (C.h 2)]) e_stileref23_Blocks (c_blocks_ref (mem:=mem) (sh:=sh) (lk:=lk) (bu:=bu) (cs:=cs) (l:=l) (hw:=by first | assumption | omega | exact hw | exact hl) (hl:=by first | assumption | omega | exact hw | exact hl) (hn:=by first | assumption | omega | exact hw | exact hl)) [0,1,2] (E:=(z31_3 mem cs l sh lk bu)) K trivial K R K ?_
 refine RunF.chk [26,6,5,4,2,1] [.ops [1,1,0] 3,.code [1,1,1]] (St.mk 84 [En.mk 26 [] (SV.tup [(false,[C.h 5]),(false,[C.i .i64 (evE mem sh lk bu cs l)])]),En.mk 6 [] (z31_6 mem sh lk bu cs l),En.mk 5 [] (SV.c (C.h 4)),En.mk 4 [] (SV.c (C.t false)),En.mk 2 [] (SV.c (C.p 3 0)),En.mk 1 [] (SV.c (C.h 2))] [z31_9 mem,z31_10 cs,z31_11 l,z31_8 sh lk bu,z31_7 mem sh lk bu cs l,z31_7 mem sh lk bu cs l] []) K ?_
 refine RunF.call (vc:=[]) (args:=[z31_5 sh lk bu,SV.c (C.h 2)]) e_monitor_Holders (c_holdersT (mem:=mem) (sh:=sh) (lk:=lk) (bu:=bu) (cs:=cs) (l:=l) (hw:=by first | assumption | omega | exact hw | exact hl) (hl:=by first | assumption | omega | exact hw | exact hl) (hn:=by first | assumption | omega | exact hw | exact hl)) [0,1,2] (E:=(z31_3 mem cs l sh lk bu)) K trivial K R K ?_
 refine RunF.chk [32,8,7,6,5,4,2,1] [.ops [1,1,1,0] 3,.code [1,1,1,1]] (St.mk 84 [En.mk 32 [] (SV.tup [(false,[C.h 6]),(false,[C.i .i64 (evE mem sh lk bu cs l)])]),En.mk 8 [] (z31_6 mem sh lk bu cs l),En.mk 7 [] (SV.c (C.h 5)),En.mk 6 [] (z31_6 mem sh lk bu cs l),En.mk 5 [] (SV.c (C.h 4)),En.mk 4 [] (SV.c (C.t false)),En.mk 2 [] (SV.c (C.p 3 0)),En.mk 1 [] (SV.c (C.h 2))] [z31_9 mem,z31_10 cs,z31_11 l,z31_8 sh lk bu,z31_7 mem sh lk bu cs l,z31_7 mem sh lk bu cs l,z31_12 mem sh lk bu cs l] []) K ?_
 refine RunF.call (vc:=[]) (args:=[z31_5 sh lk bu,SV.c (C.h 2)]) e_stileref23_Holders (c_holders_ref (mem:=mem) (sh:=sh) (lk:=lk) (bu:=bu) (cs:=cs) (l:=l) (hw:=by first | assumption | omega | exact hw | exact hl) (hl:=by first | assumption | omega | exact hw | exact hl) (hn:=by first | assumption | omega | exact hw | exact hl)) [0,1,2] (E:=(z31_3 mem cs l sh lk bu)) K trivial K R K ?_
 refine RunF.chk [38,10,9,8,7,6,5,4,2,1] [.ops [1,1,1,1,0] 3,.code [1,1,1,1,1]] (St.mk 84 [En.mk 38 [] (SV.tup [(false,[C.h 7]),(false,[C.i .i64 (evE mem sh lk bu cs l)])]),En.mk 10 [] (z31_6 mem sh lk bu cs l),En.mk 9 [] (SV.c (C.h 6)),En.mk 8 [] (z31_6 mem sh lk bu cs l),En.mk 7 [] (SV.c (C.h 5)),En.mk 6 [] (z31_6 mem sh lk bu cs l),En.mk 5 [] (SV.c (C.h 4)),En.mk 4 [] (SV.c (C.t false)),En.mk 2 [] (SV.c (C.p 3 0)),En.mk 1 [] (SV.c (C.h 2))] (z31_1 mem cs l sh lk bu) []) K ?_
 refine RunF.call (vc:=[]) (args:=[z31_5 sh lk bu,SV.c (C.h 2)]) e_monitor_Crowd (c_crowdT (mem:=mem) (sh:=sh) (lk:=lk) (bu:=bu) (cs:=cs) (l:=l) (hw:=by first | assumption | omega | exact hw | exact hl) (hl:=by first | assumption | omega | exact hw | exact hl) (hn:=by first | assumption | omega | exact hw | exact hl)) [0,1,2] (E:=(z31_3 mem cs l sh lk bu)) K trivial K R K ?_
 refine RunF.chk [44,12,11,10,9,8,7,6,5,4,2,1] [.ops [1,1,1,1,1,0] 3,.code [1,1,1,1,1,1]] (St.mk 84 [En.mk 44 [] (SV.tup [(false,[C.i .i64 (crowdL mem sh lk bu cs l)]),(false,[C.i .i64 (evE mem sh lk bu cs l)])]),En.mk 12 [] (z31_6 mem sh lk bu cs l),En.mk 11 [] (SV.c (C.h 7)),En.mk 10 [] (z31_6 mem sh lk bu cs l),En.mk 9 [] (SV.c (C.h 6)),En.mk 8 [] (z31_6 mem sh lk bu cs l),En.mk 7 [] (SV.c (C.h 5)),En.mk 6 [] (z31_6 mem sh lk bu cs l),En.mk 5 [] (SV.c (C.h 4)),En.mk 4 [] (SV.c (C.t false)),En.mk 2 [] (SV.c (C.p 3 0)),En.mk 1 [] (SV.c (C.h 2))] (z31_1 mem cs l sh lk bu) []) K ?_
 refine RunF.call (vc:=[]) (args:=[z31_5 sh lk bu,SV.c (C.h 2)]) e_stileref23_Crowd (c_crowd_ref (mem:=mem) (sh:=sh) (lk:=lk) (bu:=bu) (cs:=cs) (l:=l) (hw:=by first | assumption | omega | exact hw | exact hl) (hl:=by first | assumption | omega | exact hw | exact hl) (hn:=by first | assumption | omega | exact hw | exact hl)) [0,1,2] (E:=(z31_3 mem cs l sh lk bu)) K trivial K R K ?_
 refine RunF.chk [50,14,13,12,11,10,9,8,7,6,5,4] [.ops [1,1,1,1,1,1,0] 3,.code [1,1,1,1,1,1,1]] (St.mk 84 [En.mk 50 [] (SV.tup [(false,[C.i .i64 (crowdL mem sh lk bu cs l)]),(false,[C.i .i64 (evE mem sh lk bu cs l)])]),En.mk 14 [] (z31_6 mem sh lk bu cs l),En.mk 13 [] (SV.c (C.i .i64 (crowdL mem sh lk bu cs l))),En.mk 12 [] (z31_6 mem sh lk bu cs l),En.mk 11 [] (SV.c (C.h 7)),En.mk 10 [] (z31_6 mem sh lk bu cs l),En.mk 9 [] (SV.c (C.h 6)),En.mk 8 [] (z31_6 mem sh lk bu cs l),En.mk 7 [] (SV.c (C.h 5)),En.mk 6 [] (z31_6 mem sh lk bu cs l),En.mk 5 [] (SV.c (C.h 4)),En.mk 4 [] (SV.c (C.t false))] (z31_1 mem cs l sh lk bu) []) K ?_
 refine RunF.call (vc:=[]) (args:=[]) e_stilelaw23_lives (c_lives) [] (E:=[]) K trivial K trivial K ?_
 refine RunF.chk [53,16,15,14,13,12,11,10,9,8,7,6,5,4] [.ops [1,1,1,1,1,1,1,0] 1,.code [1,1,1,1,1,1,1,1]] (St.mk 84 [En.mk 53 [] (SV.c (C.b true)),En.mk 16 [] (z31_6 mem sh lk bu cs l),En.mk 15 [] (SV.c (C.i .i64 (crowdL mem sh lk bu cs l))),En.mk 14 [] (z31_6 mem sh lk bu cs l),En.mk 13 [] (SV.c (C.i .i64 (crowdL mem sh lk bu cs l))),En.mk 12 [] (z31_6 mem sh lk bu cs l),En.mk 11 [] (SV.c (C.h 7)),En.mk 10 [] (z31_6 mem sh lk bu cs l),En.mk 9 [] (SV.c (C.h 6)),En.mk 8 [] (z31_6 mem sh lk bu cs l),En.mk 7 [] (SV.c (C.h 5)),En.mk 6 [] (z31_6 mem sh lk bu cs l),En.mk 5 [] (SV.c (C.h 4)),En.mk 4 [] (SV.c (C.t false))] (z31_1 mem cs l sh lk bu) []) K ?_
 refine RunF.gcall (vc:=[]) (args:=[SV.c (C.h 4),SV.c (C.h 5)]) e_stileref23_SameBlocks (c_sameBlocks (a:=blkL mem sh lk bu cs l) (b:=blkL mem sh lk bu cs l)) [4,5] (E:=[(blkL mem sh lk bu cs l).length=(blkL mem sh lk bu cs l).length,∀ (i:Nat),i<(blkL mem sh lk bu cs l).length→((blkL mem sh lk bu cs l).getD i default).tc=((blkL mem sh lk bu cs l).getD i default).tc,(blkL mem sh lk bu cs l).length=(blkL mem sh lk bu cs l).length,∀ (i:Nat),i<(blkL mem sh lk bu cs l).length→((blkL mem sh lk bu cs l).getD i default).tc=((blkL mem sh lk bu cs l).getD i default).tc]) K trivial K R K ?_
 refine RunF.chk [57,54,16,15,14,13,12,11,10,9,8,6,4] [.ops [1,1,1,1,1,1,1,0] 5,.code [1,1,1,1,1,1,1,1]] (St.mk 84 [En.mk 57 [(54,true)] (SV.c (C.b (decide (blkL mem sh lk bu cs l=blkL mem sh lk bu cs l)))),En.mk 54 [] (SV.c (C.b true)),En.mk 16 [] (z31_6 mem sh lk bu cs l),En.mk 15 [] (SV.c (C.i .i64 (crowdL mem sh lk bu cs l))),En.mk 14 [] (z31_6 mem sh lk bu cs l),En.mk 13 [] (SV.c (C.i .i64 (crowdL mem sh lk bu cs l))),En.mk 12 [] (z31_6 mem sh lk bu cs l),En.mk 11 [] (SV.c (C.h 7)),En.mk 10 [] (z31_6 mem sh lk bu cs l),En.mk 9 [] (SV.c (C.h 6)),En.mk 8 [] (z31_6 mem sh lk bu cs l),En.mk 6 [] (z31_6 mem sh lk bu cs l),En.mk 4 [] (SV.c (C.t false))] (z31_1 mem cs l sh lk bu) []) K ?_
 refine RunF.gcall (vc:=[]) (args:=[SV.c (C.h 6),SV.c (C.h 7)]) e_stileref07_Ints (c_ints (a:=holdersL mem sh lk bu cs l) (b:=holdersL mem sh lk bu cs l)) [6,7] (E:=[(holdersL mem sh lk bu cs l).length=(holdersL mem sh lk bu cs l).length,∀ (i:Nat),i<(holdersL mem sh lk bu cs l).length→i64T ((holdersL mem sh lk bu cs l).getD i (0:Int))=i64T ((holdersL mem sh lk bu cs l).getD i (0:Int)),(holdersL mem sh lk bu cs l).length=(holdersL mem sh lk bu cs l).length,∀ (i:Nat),i<(holdersL mem sh lk bu cs l).length→i64T ((holdersL mem sh lk bu cs l).getD i (0:Int))=i64T ((holdersL mem sh lk bu cs l).getD i (0:Int))]) K trivial K R K ?_
 exact RunF.ret (vc:=[]) (v:=SV.c (C.b (true&&decide (blkL mem sh lk bu cs l=blkL mem sh lk bu cs l)&&decide (evE mem sh lk bu cs l=evE mem sh lk bu cs l)&&decide (holdersL mem sh lk bu cs l=holdersL mem sh lk bu cs l)&&decide (evE mem sh lk bu cs l=evE mem sh lk bu cs l)&&decide (crowdL mem sh lk bu cs l=crowdL mem sh lk bu cs l)&&decide (evE mem sh lk bu cs l=evE mem sh lk bu cs l)))) _ _ [0,1,2] (E:=[true=(true&&decide (blkL mem sh lk bu cs l=blkL mem sh lk bu cs l)&&decide (evE mem sh lk bu cs l=evE mem sh lk bu cs l)&&decide (holdersL mem sh lk bu cs l=holdersL mem sh lk bu cs l)&&decide (evE mem sh lk bu cs l=evE mem sh lk bu cs l)&&decide (crowdL mem sh lk bu cs l=crowdL mem sh lk bu cs l)&&decide (evE mem sh lk bu cs l=evE mem sh lk bu cs l))]) K trivial ⟨rfl,rfl⟩ K (by simp only [Conj];simp)
abbrev z31_13 (mem:List Int) (sh:Int) (lk:Int) (bu:Int) (cs:List Cor) (l:List Did) (cl:List Cls):=Reg.own 50 5 (handsL mem sh lk bu cs l cl).length (fun i=>((handsL mem sh lk bu cs l cl).getD i default).tc) none
abbrev z31_2 (mem:List Int) (cs:List Cor) (l:List Did) (cl:List Cls) (sh:Int) (lk:Int) (bu:Int):=[z31_9 mem,z31_10 cs,z31_11 l,Reg.row 3 cl.length (fun i=>(cl.getD i default).tc) none,z31_8 sh lk bu,z31_13 mem sh lk bu cs l cl,z31_13 mem sh lk bu cs l cl]
abbrev z31_4 (mem:List Int) (cs:List Cor) (l:List Did) (cl:List Cls) (sh:Int) (lk:Int) (bu:Int):=[mem.length=mem.length,∀ (i:Nat),i<mem.length→i64T (mem.getD i (0:Int))=i64T (mem.getD i (0:Int)),cs.length=cs.length,∀ (i:Nat),i<cs.length→(cs.getD i default).tc=(cs.getD i default).tc,l.length=l.length,∀ (i:Nat),i<l.length→(l.getD i default).tc=(l.getD i default).tc,cl.length=cl.length,∀ (i:Nat),i<cl.length→(cl.getD i default).tc=(cl.getD i default).tc,sh=sh,lk=lk,bu=bu]
theorem c_lawHands (mem:List Int) (sh lk bu:Int) (cs:List Cor) (l:List Did) (cl:List Cls) (hw:∀ a b:Nat,insK ((cs.getD a default).code.getD b default)) (hl:∀ a:Nat,0≤(l.getD a default).kind∧(l.getD a default).kind≤255) (hn:(l.length:Int) * 4096≤140737488355328):Ctr Try.prog 4 [IntRow mem,Cor.rowR cs,Did.rowR l,Cls.rowR cl] [.agg [.h 0,.i .i64 sh,.i .i64 lk,.i .i64 bu,.h 1],.c (.h 3),.c (.h 2)]
 (Det (.c (.b true)) [.dead,.dead,.dead,.dead]):=by
 refine Ctr.intro [] Try.func4 K K ?_
 refine RunF.lens 2 (m:=l.length) K (fun hlens_2=>?_)
 refine RunF.lens 3 (m:=cl.length) K (fun hlens_3=>?_)
 refine RunF.call (vc:=[]) (args:=[z31_5 sh lk bu,SV.c (C.h 3),SV.c (C.h 2)]) e_monitor_Hands (c_handsT (mem:=mem) (sh:=sh) (lk:=lk) (bu:=bu) (cs:=cs) (l:=l) (cl:=cl) (hw:=by first | assumption | omega | exact hw | exact hl) (hl:=by first | assumption | omega | exact hw | exact hl) (hn:=by first | assumption | omega | exact hw | exact hl)) [0,1,2,3] (E:=(z31_4 mem cs l cl sh lk bu)) K trivial K R K ?_
 refine RunF.chk [19,6,3,1,2] [.ops [1,0] 4,.code [1,1]] (St.mk 64 [En.mk 19 [] (SV.tup [(false,[C.h 5]),(false,[C.i .i64 (askE mem sh lk bu cs l cl)])]),En.mk 6 [] (SV.c (C.t false)),En.mk 3 [] (SV.c (C.p 4 0)),En.mk 1 [] (SV.c (C.h 3)),En.mk 2 [] (SV.c (C.h 2))] [z31_9 mem,z31_10 cs,z31_11 l,Reg.row 3 cl.length (fun i=>(cl.getD i default).tc) none,z31_8 sh lk bu,z31_13 mem sh lk bu cs l cl] []) K ?_
 refine RunF.call (vc:=[]) (args:=[z31_5 sh lk bu,SV.c (C.h 3),SV.c (C.h 2)]) e_stileref23_Hands (c_hands_ref (mem:=mem) (sh:=sh) (lk:=lk) (bu:=bu) (cs:=cs) (l:=l) (cl:=cl) (hw:=by first | assumption | omega | exact hw | exact hl) (hl:=by first | assumption | omega | exact hw | exact hl) (hn:=by first | assumption | omega | exact hw | exact hl)) [0,1,2,3] (E:=(z31_4 mem cs l cl sh lk bu)) K trivial K R K ?_
 refine RunF.chk [26,8,7,6,3,1,2] [.ops [1,1,0] 4,.code [1,1,1]] (St.mk 64 [En.mk 26 [] (SV.tup [(false,[C.h 6]),(false,[C.i .i64 (askE mem sh lk bu cs l cl)])]),En.mk 8 [] (SV.c (C.i .i64 (askE mem sh lk bu cs l cl))),En.mk 7 [] (SV.c (C.h 5)),En.mk 6 [] (SV.c (C.t false)),En.mk 3 [] (SV.c (C.p 4 0)),En.mk 1 [] (SV.c (C.h 3)),En.mk 2 [] (SV.c (C.h 2))] (z31_2 mem cs l cl sh lk bu) []) K ?_
 refine RunF.call (vc:=[]) (args:=[z31_5 sh lk bu,SV.c (C.h 3),SV.c (C.h 2)]) e_monitor_Stale (c_staleT (mem:=mem) (sh:=sh) (lk:=lk) (bu:=bu) (cs:=cs) (l:=l) (cl:=cl) (hw:=by first | assumption | omega | exact hw | exact hl) (hl:=by first | assumption | omega | exact hw | exact hl) (hn:=by first | assumption | omega | exact hw | exact hl)) [0,1,2,3] (E:=(z31_4 mem cs l cl sh lk bu)) K trivial K R K ?_
 refine RunF.chk [33,10,9,8,7,6,3,1,2] [.ops [1,1,1,0] 4,.code [1,1,1,1]] (St.mk 64 [En.mk 33 [] (SV.tup [(false,[C.i .i64 (staleL mem sh lk bu cs l cl)]),(false,[C.i .i64 (askE mem sh lk bu cs l cl)])]),En.mk 10 [] (SV.c (C.i .i64 (askE mem sh lk bu cs l cl))),En.mk 9 [] (SV.c (C.h 6)),En.mk 8 [] (SV.c (C.i .i64 (askE mem sh lk bu cs l cl))),En.mk 7 [] (SV.c (C.h 5)),En.mk 6 [] (SV.c (C.t false)),En.mk 3 [] (SV.c (C.p 4 0)),En.mk 1 [] (SV.c (C.h 3)),En.mk 2 [] (SV.c (C.h 2))] (z31_2 mem cs l cl sh lk bu) []) K ?_
 refine RunF.call (vc:=[]) (args:=[z31_5 sh lk bu,SV.c (C.h 3),SV.c (C.h 2)]) e_stileref23_Stale (c_stale_ref (mem:=mem) (sh:=sh) (lk:=lk) (bu:=bu) (cs:=cs) (l:=l) (cl:=cl) (hw:=by first | assumption | omega | exact hw | exact hl) (hl:=by first | assumption | omega | exact hw | exact hl) (hn:=by first | assumption | omega | exact hw | exact hl)) [0,1,2,3] (E:=(z31_4 mem cs l cl sh lk bu)) K trivial K R K ?_
 refine RunF.chk [40,12,11,10,9,8,7,6] [.ops [1,1,1,1,0] 4,.code [1,1,1,1,1]] (St.mk 64 [En.mk 40 [] (SV.tup [(false,[C.i .i64 (staleL mem sh lk bu cs l cl)]),(false,[C.i .i64 (askE mem sh lk bu cs l cl)])]),En.mk 12 [] (SV.c (C.i .i64 (askE mem sh lk bu cs l cl))),En.mk 11 [] (SV.c (C.i .i64 (staleL mem sh lk bu cs l cl))),En.mk 10 [] (SV.c (C.i .i64 (askE mem sh lk bu cs l cl))),En.mk 9 [] (SV.c (C.h 6)),En.mk 8 [] (SV.c (C.i .i64 (askE mem sh lk bu cs l cl))),En.mk 7 [] (SV.c (C.h 5)),En.mk 6 [] (SV.c (C.t false))] (z31_2 mem cs l cl sh lk bu) []) K ?_
 refine RunF.call (vc:=[]) (args:=[]) e_stilelaw23_lives (c_lives) [] (E:=[]) K trivial K trivial K ?_
 refine RunF.chk [43,14,13,12,11,10,9,8,7,6] [.ops [1,1,1,1,1,0] 1,.code [1,1,1,1,1,1]] (St.mk 64 [En.mk 43 [] (SV.c (C.b true)),En.mk 14 [] (SV.c (C.i .i64 (askE mem sh lk bu cs l cl))),En.mk 13 [] (SV.c (C.i .i64 (staleL mem sh lk bu cs l cl))),En.mk 12 [] (SV.c (C.i .i64 (askE mem sh lk bu cs l cl))),En.mk 11 [] (SV.c (C.i .i64 (staleL mem sh lk bu cs l cl))),En.mk 10 [] (SV.c (C.i .i64 (askE mem sh lk bu cs l cl))),En.mk 9 [] (SV.c (C.h 6)),En.mk 8 [] (SV.c (C.i .i64 (askE mem sh lk bu cs l cl))),En.mk 7 [] (SV.c (C.h 5)),En.mk 6 [] (SV.c (C.t false))] (z31_2 mem cs l cl sh lk bu) []) K ?_
 refine RunF.gcall (vc:=[]) (args:=[SV.c (C.h 5),SV.c (C.h 6)]) e_stileref23_SameHands (c_sameHands (a:=handsL mem sh lk bu cs l cl) (b:=handsL mem sh lk bu cs l cl)) [5,6] (E:=[(handsL mem sh lk bu cs l cl).length=(handsL mem sh lk bu cs l cl).length,∀ (i:Nat),i<(handsL mem sh lk bu cs l cl).length→((handsL mem sh lk bu cs l cl).getD i default).tc=((handsL mem sh lk bu cs l cl).getD i default).tc,(handsL mem sh lk bu cs l cl).length=(handsL mem sh lk bu cs l cl).length,∀ (i:Nat),i<(handsL mem sh lk bu cs l cl).length→((handsL mem sh lk bu cs l cl).getD i default).tc=((handsL mem sh lk bu cs l cl).getD i default).tc]) K trivial K R K ?_
 exact RunF.ret (vc:=[]) (v:=SV.c (C.b (true&&decide (handsL mem sh lk bu cs l cl=handsL mem sh lk bu cs l cl)&&decide (askE mem sh lk bu cs l cl=askE mem sh lk bu cs l cl)&&decide (staleL mem sh lk bu cs l cl=staleL mem sh lk bu cs l cl)&&decide (askE mem sh lk bu cs l cl=askE mem sh lk bu cs l cl)))) _ _ [0,1,2,3] (E:=[true=(true&&decide (handsL mem sh lk bu cs l cl=handsL mem sh lk bu cs l cl)&&decide (askE mem sh lk bu cs l cl=askE mem sh lk bu cs l cl)&&decide (staleL mem sh lk bu cs l cl=staleL mem sh lk bu cs l cl)&&decide (askE mem sh lk bu cs l cl=askE mem sh lk bu cs l cl))]) K trivial ⟨rfl,rfl⟩ K (by simp only [Conj];simp)
end Go.Proofs.Ytlblobbklioofaa
end
