/-
  Part of a proof of Rows.MonitorBlocksUptoSaid: for every object and run of at most 1048576 values and letters together, the law stilelaw23.MonitorBlocks returns true and leaves its arguments as they were. Text 7 of 8: Leaf19 SpecF Leaf20 Leaf21 SpecG Leaf22 SpecH Leaf23 SpecI Leaf24 Leaf25 SpecJ Leaf26 SpecK TxT TxU Leaf27 SpecL.
-/
import Derived.Test.YtlblobbklioofaaP6
import Derived.Test.YtlblobbklioofaaP5
import Derived.Test.YtlblobbklioofaaP1
import Derived.DeepKeys4
import Derived.Maps.RangeWalk
set_option linter.unusedSimpArgs false
set_option linter.unusedVariables false
set_option maxHeartbeats 4000000
noncomputable section
namespace Go.Proofs.Ytlblobbklioofaa
open Go Go.Tx
abbrev z19_3 (mem:List Int):=Reg.row 1 mem.length (fun i=>i64T (mem.getD i (0:Int))) none
abbrev z19_4 (cs:List Cor):=Reg.row 2 cs.length (fun i=>(cs.getD i default).tc) none
abbrev z19_5 (l:List Did):=Reg.row 7 l.length (fun i=>(l.getD i default).tc) none
abbrev z19_6 (mem:List Int) (sh:Int) (lk:Int) (bu:Int) (cs:List Cor) (l:List Did):=Reg.own 63 7 (evL mem sh lk bu cs l).length (fun i=>((evL mem sh lk bu cs l).getD i default).tc) none
abbrev z19_10 (sh:Int) (lk:Int) (bu:Int):=Reg.box 25 [C.h 0,C.i .i64 sh,C.i .i64 lk,C.i .i64 bu,C.h 1]
def L7_0_I (mem:List Int) (sh:Int) (lk:Int) (bu:Int) (cs:List Cor) (l:List Did):Int×List Blk→St:=fun x=>{ N:=39,fr:=[{ slot:=22,g:=[],sv:=SV.c (C.i .i64 x.1) },{ slot:=21,g:=[],sv:=SV.c (C.i .i64 (↑(evL mem sh lk bu cs l).length:Int)) },{ slot:=20,g:=[],sv:=SV.c (C.h 4) },{ slot:=8,g:=[],sv:=SV.c (C.h 5) },{ slot:=6,g:=[],sv:=SV.c (C.h 4) },{ slot:=5,g:=[],sv:=SV.c (C.i .i64 0) },{ slot:=4,g:=[],sv:=SV.c (C.v (Value.slice none 0 0)) },{ slot:=2,g:=[],sv:=SV.c (C.p 3 0) },{ slot:=1,g:=[],sv:=SV.c (C.h 2) }],rg:=[z19_3 mem,z19_4 cs,z19_5 l,z19_10 sh lk bu,z19_6 mem sh lk bu cs l]++[Blk.ownR x.2],wr:=[] }
def L7_0_J (mem:List Int) (sh:Int) (lk:Int) (bu:Int) (cs:List Cor) (l:List Did):Int×List Blk→Prop:=fun x=>0≤x.1∧x.1≤((evL mem sh lk bu cs l).length:Int)∧x.2=blkUp sh l (evL mem sh lk bu cs l) x.1.toNat
def L7_0_m (mem:List Int) (sh:Int) (lk:Int) (bu:Int) (cs:List Cor) (l:List Did):Int×List Blk→Nat:=fun x=>(((evL mem sh lk bu cs l).length:Int)-x.1).toNat
abbrev z19_7 (mem:List Int):=∀ (i:Nat),i<mem.length→i64T (mem.getD i (0:Int))=i64T (mem.getD i (0:Int))
abbrev z19_8 (cs:List Cor):=∀ (i:Nat),i<cs.length→(cs.getD i default).tc=(cs.getD i default).tc
abbrev z19_9 (l:List Did):=∀ (i:Nat),i<l.length→(l.getD i default).tc=(l.getD i default).tc
abbrev z19_11 (mem:List Int) (sh:Int) (lk:Int) (bu:Int) (cs:List Cor) (l:List Did) (x2_0:Int):=((evL mem sh lk bu cs l).getD x2_0.toNat default)
abbrev z19_12:=En.mk 4 [] (SV.c (C.v (Value.slice none 0 0)))
abbrev z19_13 (mem:List Int) (sh:Int) (lk:Int) (bu:Int) (cs:List Cor) (l:List Did):=∀ (i:Nat),i<(evL mem sh lk bu cs l).length→((evL mem sh lk bu cs l).getD i default).tc=((evL mem sh lk bu cs l).getD i default).tc
abbrev z19_14 (x2_0:Int) (mem:List Int) (sh:Int) (lk:Int) (bu:Int) (cs:List Cor) (l:List Did) (x2_1:List Blk):=(St.mk 39 [En.mk 22 [] (SV.c (C.i .i64 x2_0)),En.mk 21 [] (SV.c (C.i .i64 (↑(evL mem sh lk bu cs l).length:Int))),En.mk 20 [] (SV.c (C.h 4)),En.mk 8 [] (SV.c (C.h 5)),En.mk 6 [] (SV.c (C.h 4)),En.mk 5 [] (SV.c (C.i .i64 0)),z19_12,En.mk 2 [] (SV.c (C.p 3 0)),En.mk 1 [] (SV.c (C.h 2))] [z19_3 mem,z19_4 cs,z19_5 l,z19_10 sh lk bu,z19_6 mem sh lk bu cs l,Reg.own 48 5 x2_1.length (fun i=>(x2_1.getD i default).tc) none] [])
abbrev z19_18 (mem:List Int) (sh:Int) (lk:Int) (bu:Int) (cs:List Cor) (l:List Did):=(evL mem sh lk bu cs l).length=(evL mem sh lk bu cs l).length
abbrev z19_19 (mem:List Int) (sh:Int) (lk:Int) (bu:Int) (cs:List Cor) (l:List Did) (x2_0:Int):=[C.i .u8 (z19_11 mem sh lk bu cs l x2_0).kind,C.i .i64 (z19_11 mem sh lk bu cs l x2_0).core,C.i .i64 (z19_11 mem sh lk bu cs l x2_0).thing,C.i .i64 (z19_11 mem sh lk bu cs l x2_0).word,C.i .i64 (z19_11 mem sh lk bu cs l x2_0).put,C.b (z19_11 mem sh lk bu cs l x2_0).own,C.i .i64 (z19_11 mem sh lk bu cs l x2_0).pos]
abbrev z19_22:=Value.slice none 0 0=Value.slice none 0 0
theorem c_blocks_ref (mem:List Int) (sh lk bu:Int) (cs:List Cor) (l:List Did) (hw:∀ a b:Nat,insK ((cs.getD a default).code.getD b default)) (hl:∀ a:Nat,0≤(l.getD a default).kind∧(l.getD a default).kind≤255) (hn:(l.length:Int) * 56≤140737488355328):Ctr Try.prog 7 [IntRow mem,Cor.rowR cs,Did.rowR l] [.agg [.h 0,.i .i64 sh,.i .i64 lk,.i .i64 bu,.h 1],.c (.h 2)]
 (Det (.tup [(false,[.h 3]),(false,[.i .i64 (evE mem sh lk bu cs l)])]) [.dead,.dead,.dead,Blk.ownR (blkL mem sh lk bu cs l)]):=by
 refine Ctr.intro [] Try.func7 K K ?_
 refine RunF.lens 2 (m:=l.length) K (fun hlens_2=>?_)
 refine RunF.call (vc:=[]) (args:=[SV.agg [C.h 0,C.i .i64 sh,C.i .i64 lk,C.i .i64 bu,C.h 1],SV.c (C.h 2)]) e_stileref19_Events (c_events_ref (mem:=mem) (sh:=sh) (lk:=lk) (bu:=bu) (cs:=cs) (l:=l) (hw:=by first | assumption | omega | exact hw | exact hl | exact evE_ok (mem:=mem) (bu:=bu) (cs:=cs) (l:=l) V37 | exact evL_ok _ V37 | exact hev _ V37) (hl:=by first | assumption | omega | exact hw | exact hl | exact evE_ok (mem:=mem) (bu:=bu) (cs:=cs) (l:=l) V37 | exact evL_ok _ V37 | exact hev _ V37) (hn:=by first | assumption | omega | exact hw | exact hl | exact evE_ok (mem:=mem) (bu:=bu) (cs:=cs) (l:=l) V37 | exact evL_ok _ V37 | exact hev _ V37)) [0,1,2] (E:=[mem.length=mem.length,z19_7 mem,cs.length=cs.length,z19_8 cs,l.length=l.length,z19_9 l,sh=sh,lk=lk,bu=bu]) K trivial K R K ?_
 refine RunF.chk [14,5,4,2,1] [.ops [1,0] 3,.code [1,1]] (St.mk 39 [En.mk 14 [] (SV.tup [(false,[C.h 4]),(false,[C.i .i64 (evE mem sh lk bu cs l)])]),En.mk 5 [] (SV.c (C.i .i64 0)),z19_12,En.mk 2 [] (SV.c (C.p 3 0)),En.mk 1 [] (SV.c (C.h 2))] [z19_3 mem,z19_4 cs,z19_5 l,z19_10 sh lk bu,z19_6 mem sh lk bu cs l] []) K ?_
 refine RunF.cond (vc:=[]) (x:=!decide (evE mem sh lk bu cs l=(0:Int))) K trivial (fun h1=>?_) (fun h1=>?_)
 ·exact RunF.ret (vc:=[]) (v:=SV.tup [(false,[C.v (Value.slice none 0 0)]),(false,[C.i .i64 (evE mem sh lk bu cs l)])]) _ _ [0,1,2,1000003] (E:=[(blkL mem sh lk bu cs l).length=0,evE mem sh lk bu cs l=evE mem sh lk bu cs l]) K trivial ⟨rfl,rfl⟩ K V47
 ·refine RunF.chk [6,5,4,2,1] [.code [1,1,0,1,1],.code [1,1,1]] (St.mk 39 [En.mk 6 [] (SV.c (C.h 4)),En.mk 5 [] (SV.c (C.i .i64 0)),z19_12,En.mk 2 [] (SV.c (C.p 3 0)),En.mk 1 [] (SV.c (C.h 2))] [z19_3 mem,z19_4 cs,z19_5 l,z19_10 sh lk bu,z19_6 mem sh lk bu cs l] []) K ?_
  refine RunF.loop (vc:=[]) (L7_0_I mem sh lk bu cs l) (L7_0_J mem sh lk bu cs l) (L7_0_m mem sh lk bu cs l) (((0:Int),[])) [0,1,2,3,4,1000005] (E:=[mem.length=mem.length,∀ (i:Nat),i<mem.length→i64T (mem.getD i (0:Int))=i64T (mem.getD i (0:Int)),cs.length=cs.length,∀ (i:Nat),i<cs.length→(cs.getD i default).tc=(cs.getD i default).tc,l.length=l.length,∀ (i:Nat),i<l.length→(l.getD i default).tc=(l.getD i default).tc,sh=sh,lk=lk,bu=bu,z19_18 mem sh lk bu cs l,∀ (i:Nat),i<(evL mem sh lk bu cs l).length→((evL mem sh lk bu cs l).getD i default).tc=((evL mem sh lk bu cs l).getD i default).tc,(0:Nat)=0,(0:Int)=(0:Int),(↑(evL mem sh lk bu cs l).length:Int)=(↑(evL mem sh lk bu cs l).length:Int),(0:Int)=(0:Int),z19_22]) K trivial K V19 ⟨Int.le_refl _,by grind,rfl⟩ ?_
  rintro ⟨x2_0,x2_1⟩ hJ2
  dsimp only [L7_0_J] at hJ2
  refine RunF.chk [22,21,20,8,6,5,4,2,1] [.code [1,1,1,1,0,1,0,0],.jmp (Tx.Next (L7_0_I mem sh lk bu cs l) (L7_0_J mem sh lk bu cs l) (L7_0_m mem sh lk bu cs l) (x2_0,x2_1)),.blk 0,.code [1,1,1,1,1]] (z19_14 x2_0 mem sh lk bu cs l x2_1) K ?_
  refine RunF.cond (vc:=[]) (x:=decide (x2_0<(↑(evL mem sh lk bu cs l).length:Int))) K trivial (fun h3=>?_) (fun h3=>?_)
  ·refine RunF.chk [22,21,20,8,6,5,4,2,1] [.code [1,1,0,1,1],.code [1,1,1,1,0,1,0,0,1,1],.jmp (Tx.Next (L7_0_I mem sh lk bu cs l) (L7_0_J mem sh lk bu cs l) (L7_0_m mem sh lk bu cs l) (x2_0,x2_1)),.blk 0,.code [1,1,1,1,1]] (z19_14 x2_0 mem sh lk bu cs l x2_1) K ?_
   refine RunF.cond (vc:=[(0:Int)≤x2_0,x2_0<(↑(evL mem sh lk bu cs l).length:Int),x2_0.toNat<(evL mem sh lk bu cs l).length]) (x:=decide (((evL mem sh lk bu cs l).getD x2_0.toNat default).kind=(4:Int))) K V27 (fun h4=>?_) (fun h4=>?_)
   ·refine RunF.chk [10,22,21,20,8,6,5,4,2,1] [.code [1,1,1,1,0,1,0,0,1,1,0,0,1,1,0],.blk 1,.code [1,1,1,1,0,1,0,0,1,1,1],.jmp (Tx.Next (L7_0_I mem sh lk bu cs l) (L7_0_J mem sh lk bu cs l) (L7_0_m mem sh lk bu cs l) (x2_0,x2_1)),.blk 0,.code [1,1,1,1,1]] (St.mk 39 [En.mk 10 [] (SV.c (C.p 6 0)),En.mk 22 [] (SV.c (C.i .i64 x2_0)),En.mk 21 [] (SV.c (C.i .i64 (↑(evL mem sh lk bu cs l).length:Int))),En.mk 20 [] (SV.c (C.h 4)),En.mk 8 [] (SV.c (C.h 5)),En.mk 6 [] (SV.c (C.h 4)),En.mk 5 [] (SV.c (C.i .i64 0)),z19_12,En.mk 2 [] (SV.c (C.p 3 0)),En.mk 1 [] (SV.c (C.h 2))] [z19_3 mem,z19_4 cs,z19_5 l,z19_10 sh lk bu,z19_6 mem sh lk bu cs l,Reg.own 48 5 x2_1.length (fun i=>(x2_1.getD i default).tc) none,Reg.box 63 (z19_19 mem sh lk bu cs l x2_0)] []) K ?_
    refine RunF.call (vc:=[]) (args:=[SV.agg [C.h 0,C.i .i64 sh,C.i .i64 lk,C.i .i64 bu,C.h 1],SV.c (C.h 2),SV.c (C.h 4),SV.agg (z19_19 mem sh lk bu cs l x2_0)]) e_stileref23_block (c_block_ref (mem:=mem) (sh:=sh) (lk:=lk) (bu:=bu) (cs:=cs) (l:=l) (evs:=evL mem sh lk bu cs l) (e:=(evL mem sh lk bu cs l).getD x2_0.toNat default) (hs:=by first | assumption | omega | exact hw | exact hl | exact evE_ok (mem:=mem) (bu:=bu) (cs:=cs) (l:=l) V37 | exact evL_ok _ V37 | exact hev _ V37) (he:=by first | assumption | omega | exact hw | exact hl | exact evE_ok (mem:=mem) (bu:=bu) (cs:=cs) (l:=l) V37 | exact evL_ok _ V37 | exact hev _ V37)) [0,1,2,4] (E:=[mem.length=mem.length,z19_7 mem,cs.length=cs.length,z19_8 cs,l.length=l.length,z19_9 l,z19_18 mem sh lk bu cs l,z19_13 mem sh lk bu cs l,sh=sh,lk=lk,bu=bu,(z19_11 mem sh lk bu cs l x2_0).kind=(z19_11 mem sh lk bu cs l x2_0).kind,(z19_11 mem sh lk bu cs l x2_0).core=(z19_11 mem sh lk bu cs l x2_0).core,(z19_11 mem sh lk bu cs l x2_0).thing=(z19_11 mem sh lk bu cs l x2_0).thing,(z19_11 mem sh lk bu cs l x2_0).word=(z19_11 mem sh lk bu cs l x2_0).word,(z19_11 mem sh lk bu cs l x2_0).put=(z19_11 mem sh lk bu cs l x2_0).put,(z19_11 mem sh lk bu cs l x2_0).own=(z19_11 mem sh lk bu cs l x2_0).own,(z19_11 mem sh lk bu cs l x2_0).pos=(z19_11 mem sh lk bu cs l x2_0).pos]) K trivial K R K ?_
    exact RunF.next (I:=L7_0_I mem sh lk bu cs l) (J:=L7_0_J mem sh lk bu cs l) (m:=L7_0_m mem sh lk bu cs l) (x:=(x2_0,x2_1)) (vc:=[x2_1.length+1≤maxLen,(x2_1.length+1) * 40≤140737488355328,Fits IntKind.i64 (x2_0+(1:Int))]) ((x2_0+(1:Int),x2_1++[Blk.mk (blkOf sh l (evL mem sh lk bu cs l) (z19_11 mem sh lk bu cs l x2_0)).lock (blkOf sh l (evL mem sh lk bu cs l) (z19_11 mem sh lk bu cs l x2_0)).core (blkOf sh l (evL mem sh lk bu cs l) (z19_11 mem sh lk bu cs l x2_0)).from_ (blkOf sh l (evL mem sh lk bu cs l) (z19_11 mem sh lk bu cs l x2_0)).left (blkOf sh l (evL mem sh lk bu cs l) (z19_11 mem sh lk bu cs l x2_0)).to])) [0,1,2,3,4,8] (E:=[mem.length=mem.length,∀ (i:Nat),i<mem.length→i64T (mem.getD i (0:Int))=i64T (mem.getD i (0:Int)),cs.length=cs.length,∀ (i:Nat),i<cs.length→(cs.getD i default).tc=(cs.getD i default).tc,l.length=l.length,∀ (i:Nat),i<l.length→(l.getD i default).tc=(l.getD i default).tc,sh=sh,lk=lk,bu=bu,z19_18 mem sh lk bu cs l,∀ (i:Nat),i<(evL mem sh lk bu cs l).length→((evL mem sh lk bu cs l).getD i default).tc=((evL mem sh lk bu cs l).getD i default).tc,(x2_1++[Blk.mk (blkOf sh l (evL mem sh lk bu cs l) ((evL mem sh lk bu cs l).getD x2_0.toNat default)).lock (blkOf sh l (evL mem sh lk bu cs l) ((evL mem sh lk bu cs l).getD x2_0.toNat default)).core (blkOf sh l (evL mem sh lk bu cs l) ((evL mem sh lk bu cs l).getD x2_0.toNat default)).from_ (blkOf sh l (evL mem sh lk bu cs l) ((evL mem sh lk bu cs l).getD x2_0.toNat default)).left (blkOf sh l (evL mem sh lk bu cs l) ((evL mem sh lk bu cs l).getD x2_0.toNat default)).to]).length=x2_1.length+1,∀ (i:Nat),i<(x2_1++[Blk.mk (blkOf sh l (evL mem sh lk bu cs l) ((evL mem sh lk bu cs l).getD x2_0.toNat default)).lock (blkOf sh l (evL mem sh lk bu cs l) ((evL mem sh lk bu cs l).getD x2_0.toNat default)).core (blkOf sh l (evL mem sh lk bu cs l) ((evL mem sh lk bu cs l).getD x2_0.toNat default)).from_ (blkOf sh l (evL mem sh lk bu cs l) ((evL mem sh lk bu cs l).getD x2_0.toNat default)).left (blkOf sh l (evL mem sh lk bu cs l) ((evL mem sh lk bu cs l).getD x2_0.toNat default)).to]).length→i≠x2_1.length→((x2_1++[Blk.mk (blkOf sh l (evL mem sh lk bu cs l) ((evL mem sh lk bu cs l).getD x2_0.toNat default)).lock (blkOf sh l (evL mem sh lk bu cs l) ((evL mem sh lk bu cs l).getD x2_0.toNat default)).core (blkOf sh l (evL mem sh lk bu cs l) ((evL mem sh lk bu cs l).getD x2_0.toNat default)).from_ (blkOf sh l (evL mem sh lk bu cs l) ((evL mem sh lk bu cs l).getD x2_0.toNat default)).left (blkOf sh l (evL mem sh lk bu cs l) ((evL mem sh lk bu cs l).getD x2_0.toNat default)).to]).getD i default).tc=(x2_1.getD i default).tc,((x2_1++[Blk.mk (blkOf sh l (evL mem sh lk bu cs l) ((evL mem sh lk bu cs l).getD x2_0.toNat default)).lock (blkOf sh l (evL mem sh lk bu cs l) ((evL mem sh lk bu cs l).getD x2_0.toNat default)).core (blkOf sh l (evL mem sh lk bu cs l) ((evL mem sh lk bu cs l).getD x2_0.toNat default)).from_ (blkOf sh l (evL mem sh lk bu cs l) ((evL mem sh lk bu cs l).getD x2_0.toNat default)).left (blkOf sh l (evL mem sh lk bu cs l) ((evL mem sh lk bu cs l).getD x2_0.toNat default)).to]).getD x2_1.length default).tc 0=TC.val (Value.int IntKind.i64 (blkOf sh l (evL mem sh lk bu cs l) ((evL mem sh lk bu cs l).getD x2_0.toNat default)).lock),((x2_1++[Blk.mk (blkOf sh l (evL mem sh lk bu cs l) ((evL mem sh lk bu cs l).getD x2_0.toNat default)).lock (blkOf sh l (evL mem sh lk bu cs l) ((evL mem sh lk bu cs l).getD x2_0.toNat default)).core (blkOf sh l (evL mem sh lk bu cs l) ((evL mem sh lk bu cs l).getD x2_0.toNat default)).from_ (blkOf sh l (evL mem sh lk bu cs l) ((evL mem sh lk bu cs l).getD x2_0.toNat default)).left (blkOf sh l (evL mem sh lk bu cs l) ((evL mem sh lk bu cs l).getD x2_0.toNat default)).to]).getD x2_1.length default).tc 1=TC.val (Value.int IntKind.i64 (blkOf sh l (evL mem sh lk bu cs l) ((evL mem sh lk bu cs l).getD x2_0.toNat default)).core),((x2_1++[Blk.mk (blkOf sh l (evL mem sh lk bu cs l) ((evL mem sh lk bu cs l).getD x2_0.toNat default)).lock (blkOf sh l (evL mem sh lk bu cs l) ((evL mem sh lk bu cs l).getD x2_0.toNat default)).core (blkOf sh l (evL mem sh lk bu cs l) ((evL mem sh lk bu cs l).getD x2_0.toNat default)).from_ (blkOf sh l (evL mem sh lk bu cs l) ((evL mem sh lk bu cs l).getD x2_0.toNat default)).left (blkOf sh l (evL mem sh lk bu cs l) ((evL mem sh lk bu cs l).getD x2_0.toNat default)).to]).getD x2_1.length default).tc 2=TC.val (Value.int IntKind.i64 (blkOf sh l (evL mem sh lk bu cs l) ((evL mem sh lk bu cs l).getD x2_0.toNat default)).from_),((x2_1++[Blk.mk (blkOf sh l (evL mem sh lk bu cs l) ((evL mem sh lk bu cs l).getD x2_0.toNat default)).lock (blkOf sh l (evL mem sh lk bu cs l) ((evL mem sh lk bu cs l).getD x2_0.toNat default)).core (blkOf sh l (evL mem sh lk bu cs l) ((evL mem sh lk bu cs l).getD x2_0.toNat default)).from_ (blkOf sh l (evL mem sh lk bu cs l) ((evL mem sh lk bu cs l).getD x2_0.toNat default)).left (blkOf sh l (evL mem sh lk bu cs l) ((evL mem sh lk bu cs l).getD x2_0.toNat default)).to]).getD x2_1.length default).tc 3=TC.val (Value.int IntKind.i64 (blkOf sh l (evL mem sh lk bu cs l) ((evL mem sh lk bu cs l).getD x2_0.toNat default)).left),((x2_1++[Blk.mk (blkOf sh l (evL mem sh lk bu cs l) ((evL mem sh lk bu cs l).getD x2_0.toNat default)).lock (blkOf sh l (evL mem sh lk bu cs l) ((evL mem sh lk bu cs l).getD x2_0.toNat default)).core (blkOf sh l (evL mem sh lk bu cs l) ((evL mem sh lk bu cs l).getD x2_0.toNat default)).from_ (blkOf sh l (evL mem sh lk bu cs l) ((evL mem sh lk bu cs l).getD x2_0.toNat default)).left (blkOf sh l (evL mem sh lk bu cs l) ((evL mem sh lk bu cs l).getD x2_0.toNat default)).to]).getD x2_1.length default).tc 4=TC.val (Value.int IntKind.i64 (blkOf sh l (evL mem sh lk bu cs l) ((evL mem sh lk bu cs l).getD x2_0.toNat default)).to),x2_0+(1:Int)=x2_0+(1:Int),(↑(evL mem sh lk bu cs l).length:Int)=(↑(evL mem sh lk bu cs l).length:Int),(0:Int)=(0:Int),z19_22]) K V27 K V19 (by dsimp only [L7_0_m];(try simp only [decide_eq_true_eq] at *);omega) V45
   ·exact RunF.next (I:=L7_0_I mem sh lk bu cs l) (J:=L7_0_J mem sh lk bu cs l) (m:=L7_0_m mem sh lk bu cs l) (x:=(x2_0,x2_1)) (vc:=[Fits IntKind.i64 (x2_0+(1:Int))]) ((x2_0+(1:Int),x2_1)) [0,1,2,3,4,5] (E:=[mem.length=mem.length,z19_7 mem,cs.length=cs.length,z19_8 cs,l.length=l.length,z19_9 l,sh=sh,lk=lk,bu=bu,z19_18 mem sh lk bu cs l,z19_13 mem sh lk bu cs l,x2_1.length=x2_1.length,∀ (i:Nat),i<x2_1.length→(x2_1.getD i default).tc=(x2_1.getD i default).tc,x2_0+(1:Int)=x2_0+(1:Int),(↑(evL mem sh lk bu cs l).length:Int)=(↑(evL mem sh lk bu cs l).length:Int),(0:Int)=(0:Int),z19_22]) K V27 K R (by dsimp only [L7_0_m];(try simp only [decide_eq_true_eq] at *);omega) V45
  ·exact RunF.ret (vc:=[]) (v:=SV.tup [(false,[C.h 5]),(false,[C.i .i64 0])]) _ _ [0,1,2,5] (E:=[(blkL mem sh lk bu cs l).length=x2_1.length,∀ (i:Nat),i<(blkL mem sh lk bu cs l).length→((blkL mem sh lk bu cs l).getD i default).tc=(x2_1.getD i default).tc,evE mem sh lk bu cs l=(0:Int)]) K trivial ⟨rfl,rfl⟩ K V47
abbrev z19_16 (sh:Int) (lk:Int) (bu:Int):=Reg.ro [C.h 0,C.i .i64 sh,C.i .i64 lk,C.i .i64 bu,C.h 1,C.h 2,C.h 3]
abbrev z19_17 (evs:List Ev):=Reg.row 7 evs.length (fun i=>(evs.getD i default).tc) none
def L34_0_I (mem:List Int) (sh:Int) (lk:Int) (bu:Int) (cs:List Cor) (l:List Did) (evs:List Ev) (Xe:Ext):Int×Nat→St:=fun x=>{ N:=26,fr:=[{ slot:=10,g:=[],sv:=SV.c (C.i .i64 x.1) },{ slot:=9,g:=[],sv:=SV.c (C.i .i64 (↑evs.length:Int)) },{ slot:=8,g:=[],sv:=SV.c (C.h 3) },{ slot:=0,g:=[],sv:=SV.c (C.h 7) },{ slot:=1,g:=[],sv:=SV.c (C.p 5 0) }],rg:=[z19_3 mem,z19_4 cs,z19_5 l,z19_17 evs,z19_16 sh lk bu,Reg.ro [C.p 4 0],Reg.froz Xe,Reg.ext Xe x.2 true],wr:=[] }
def L34_0_J (mem:List Int) (sh:Int) (lk:Int) (bu:Int) (cs:List Cor) (l:List Did) (evs:List Ev) (Xe:Ext):Int×Nat→Prop:=fun x=>0≤x.1∧x.1≤(evs.length:Int)∧x.2=(blkUp sh l evs x.1.toNat).length
def L34_0_m (mem:List Int) (sh:Int) (lk:Int) (bu:Int) (cs:List Cor) (l:List Did) (evs:List Ev) (Xe:Ext):Int×Nat→Nat:=fun x=>((evs.length:Int)-x.1).toNat
abbrev z19_1 (evs:List Ev) (x1_0:Int):=[C.i .u8 (evs.getD x1_0.toNat default).kind,C.i .i64 (evs.getD x1_0.toNat default).core,C.i .i64 (evs.getD x1_0.toNat default).thing,C.i .i64 (evs.getD x1_0.toNat default).word,C.i .i64 (evs.getD x1_0.toNat default).put,C.b (evs.getD x1_0.toNat default).own,C.i .i64 (evs.getD x1_0.toNat default).pos]
abbrev z19_2 (sh:Int) (l:List Did) (evs:List Ev) (x1_0:Int):=[C.i .i64 (blkOf sh l evs (evs.getD x1_0.toNat default)).lock,C.i .i64 (blkOf sh l evs (evs.getD x1_0.toNat default)).core,C.i .i64 (blkOf sh l evs (evs.getD x1_0.toNat default)).from_,C.i .i64 (blkOf sh l evs (evs.getD x1_0.toNat default)).left,C.i .i64 (blkOf sh l evs (evs.getD x1_0.toNat default)).to]
abbrev z19_15 (mem:List Int) (sh:Int) (lk:Int) (bu:Int) (cs:List Cor) (l:List Did) (evs:List Ev) (Xe:Ext) (x1_0:Int) (x1_1:Nat):=(Tx.Next (L34_0_I mem sh lk bu cs l evs Xe) (L34_0_J mem sh lk bu cs l evs Xe) (L34_0_m mem sh lk bu cs l evs Xe) (x1_0,x1_1))
abbrev z19_20 (evs:List Ev):=En.mk 9 [] (SV.c (C.i .i64 (↑evs.length:Int)))
abbrev z19_21 (evs:List Ev):=∀ (i:Nat),i<evs.length→(evs.getD i default).tc=(evs.getD i default).tc
theorem c_blocks_it (mem:List Int) (sh lk bu:Int) (cs:List Cor) (l:List Did) (evs:List Ev) (hs:0≤sh∧sh≤64∧0≤lk∧lk≤16) (hev:∀ a:Nat,a<evs.length→evOk l (evs.getD a default)) (Xe:Ext) (hn:Xe.n=(blkUp sh l evs evs.length).length) (he:Xe.enc=fun k=>.agg ((blkUp sh l evs evs.length).getD k default).cs) (hy:Xe.Yields Try.prog):Ctr Try.prog 34 ([IntRow mem,Cor.rowR cs,Did.rowR l,Ev.rowR evs,.ro [.h 0,.i .i64 sh,.i .i64 lk,.i .i64 bu,.h 1,.h 2,.h 3]]++[.ro [.p 4 0]]++[.froz Xe,.ext Xe 0 true]) [.c (.h 7),.c (.p 5 0)]
 (RangeEnd Xe 7):=by
 refine Ctr.intro [] Try.func34 K K ?_
 refine RunF.lens 3 (m:=evs.length) K (fun hlens_3=>?_)
 refine RunF.loop (vc:=[]) (L34_0_I mem sh lk bu cs l evs Xe) (L34_0_J mem sh lk bu cs l evs Xe) (L34_0_m mem sh lk bu cs l evs Xe) (((0:Int),0)) [0,1,2,3,4,5,6,7] (E:=[mem.length=mem.length,z19_7 mem,cs.length=cs.length,z19_8 cs,l.length=l.length,z19_9 l,evs.length=evs.length,z19_21 evs,sh=sh,lk=lk,bu=bu,Xe=Xe,Xe=Xe,0=0,true=true,(0:Int)=(0:Int),(↑evs.length:Int)=(↑evs.length:Int)]) K trivial K R ⟨Int.le_refl _,by grind,rfl⟩ ?_
 rintro ⟨x1_0,x1_1⟩ hJ1
 dsimp only [L34_0_J] at hJ1
 refine RunF.chk [10,9,8,0,1] [.code [1,0,0],.jmp (z19_15 mem sh lk bu cs l evs Xe x1_0 x1_1),.blk 0] (St.mk 26 [En.mk 10 [] (SV.c (C.i .i64 x1_0)),z19_20 evs,En.mk 8 [] (SV.c (C.h 3)),En.mk 0 [] (SV.c (C.h 7)),En.mk 1 [] (SV.c (C.p 5 0))] [z19_3 mem,z19_4 cs,z19_5 l,z19_17 evs,z19_16 sh lk bu,Reg.ro [C.p 4 0],Reg.froz Xe,Reg.ext Xe x1_1 true] []) K ?_
 refine RunF.cond (vc:=[]) (x:=decide (x1_0<(↑evs.length:Int))) K trivial (fun h2=>?_) (fun h2=>?_)
 ·refine RunF.chk [10,9,8,0,1] [.code [1,0,0,1,0,0],.code [1,0,0,1,1],.jmp (z19_15 mem sh lk bu cs l evs Xe x1_0 x1_1),.blk 0] (St.mk 26 [En.mk 10 [] (SV.c (C.i .i64 x1_0)),z19_20 evs,En.mk 8 [] (SV.c (C.h 3)),En.mk 0 [] (SV.c (C.h 7)),En.mk 1 [] (SV.c (C.p 5 0))] [z19_3 mem,z19_4 cs,z19_5 l,z19_17 evs,z19_16 sh lk bu,Reg.ro [C.p 4 0],Reg.froz Xe,Reg.ext Xe x1_1 true] []) K ?_
  refine RunF.gcall (vc:=[(0:Int)≤x1_0,x1_0<(↑evs.length:Int),x1_0.toNat<evs.length]) (args:=[SV.c (C.p 4 0),SV.agg (z19_1 evs x1_0)]) e_monitor_looking_block (c_block (mem:=mem) (sh:=sh) (lk:=lk) (bu:=bu) (cs:=cs) (l:=l) (evs:=evs) (e:=evs.getD x1_0.toNat default) (hs:=by first | assumption | omega | exact hw | exact hl | exact evE_ok (mem:=mem) (bu:=bu) (cs:=cs) (l:=l) V37 | exact evL_ok _ V37 | exact hev _ V37) (he:=by first | assumption | omega | exact hw | exact hl | exact evE_ok (mem:=mem) (bu:=bu) (cs:=cs) (l:=l) V37 | exact evL_ok _ V37 | exact hev _ V37)) [0,1,2,3,4] (E:=[mem.length=mem.length,z19_7 mem,cs.length=cs.length,z19_8 cs,l.length=l.length,z19_9 l,evs.length=evs.length,z19_21 evs,sh=sh,lk=lk,bu=bu,(evs.getD x1_0.toNat default).kind=(evs.getD x1_0.toNat default).kind,(evs.getD x1_0.toNat default).core=(evs.getD x1_0.toNat default).core,(evs.getD x1_0.toNat default).thing=(evs.getD x1_0.toNat default).thing,(evs.getD x1_0.toNat default).word=(evs.getD x1_0.toNat default).word,(evs.getD x1_0.toNat default).put=(evs.getD x1_0.toNat default).put,(evs.getD x1_0.toNat default).own=(evs.getD x1_0.toNat default).own,(evs.getD x1_0.toNat default).pos=(evs.getD x1_0.toNat default).pos]) K V0 K R K ?_
  refine RunF.chk [21,18,17,10,9,8,0,1] [.ops [1,0,0,1,1,0,0,1,0] 8,.code [1,0,0,1,1,0,0,1,1],.blk 1,.code [1,0,0,1,1,1],.jmp (z19_15 mem sh lk bu cs l evs Xe x1_0 x1_1),.blk 0] (St.mk 26 [En.mk 21 [(17,true)] (SV.agg (z19_2 sh l evs x1_0)),En.mk 18 [(17,true)] (SV.c (C.h 7)),En.mk 17 [] (SV.c (C.b (decide ((evs.getD x1_0.toNat default).kind=(4:Int))))),En.mk 10 [] (SV.c (C.i .i64 x1_0)),z19_20 evs,En.mk 8 [] (SV.c (C.h 3)),En.mk 0 [] (SV.c (C.h 7)),En.mk 1 [] (SV.c (C.p 5 0))] [z19_3 mem,z19_4 cs,z19_5 l,z19_17 evs,z19_16 sh lk bu,Reg.ro [C.p 4 0],Reg.froz Xe,Reg.ext Xe x1_1 true,Reg.box 63 (z19_1 evs x1_0)] []) K ?_
  refine RunF.cond (vc:=[]) (x:=decide ((evs.getD x1_0.toNat default).kind=(4:Int))) K trivial (fun h3=>?_) (fun h3=>?_)
  ·refine RunF.chk [21,18,17,10,9,8,0,1] [.ops [1,0,0,1,1,0,0,1,0] 8,.code [1,0,0,1,1,0,0,1,1],.blk 1,.code [1,0,0,1,1,1],.jmp (z19_15 mem sh lk bu cs l evs Xe x1_0 x1_1),.blk 0] (St.mk 26 [En.mk 21 [] (SV.agg (z19_2 sh l evs x1_0)),En.mk 18 [] (SV.c (C.h 7)),En.mk 17 [] (SV.c (C.t true)),En.mk 10 [] (SV.c (C.i .i64 x1_0)),z19_20 evs,En.mk 8 [] (SV.c (C.h 3)),En.mk 0 [] (SV.c (C.h 7)),En.mk 1 [] (SV.c (C.p 5 0))] [z19_3 mem,z19_4 cs,z19_5 l,z19_17 evs,z19_16 sh lk bu,Reg.ro [C.p 4 0],Reg.froz Xe,Reg.ext Xe x1_1 true,Reg.box 63 (z19_1 evs x1_0)] []) K ?_
   refine RunF.yield (X:=Xe) (r:=7) hy 6 (k:=x1_1) (vc:=[]) (args:=[SV.agg (z19_2 sh l evs x1_0)]) (arg:=SV.agg (z19_2 sh l evs x1_0)) (E:=[(blkOf sh l evs (evs.getD x1_0.toNat default)).lock=(blkOf sh l evs (evs.getD x1_0.toNat default)).lock,(blkOf sh l evs (evs.getD x1_0.toNat default)).core=(blkOf sh l evs (evs.getD x1_0.toNat default)).core,(blkOf sh l evs (evs.getD x1_0.toNat default)).from_=(blkOf sh l evs (evs.getD x1_0.toNat default)).from_,(blkOf sh l evs (evs.getD x1_0.toNat default)).left=(blkOf sh l evs (evs.getD x1_0.toNat default)).left,(blkOf sh l evs (evs.getD x1_0.toNat default)).to=(blkOf sh l evs (evs.getD x1_0.toNat default)).to]) K trivial K K K (by rw [hn,hJ1.2.2];exact (blk_here hJ1.1 (by simpa using h2) (by simpa using h3)).1) (by rw [he];dsimp only;rw [hJ1.2.2,(blk_here hJ1.1 (by simpa using h2) (by simpa using h3)).2];rfl) K K R (fun al=>by cases al<;>kernel_rfl) (fun al4=>?_)
   refine RunF.chk [22,17,10,9,8,0,1] [.ops [1,0,0,1,1,0,0,1,0] 9,.code [1,0,0,1,1,0,0,1,1],.blk 1,.code [1,0,0,1,1,1],.jmp (z19_15 mem sh lk bu cs l evs Xe x1_0 x1_1),.blk 0] (St.mk 26 [En.mk 22 [] (SV.c (C.b al4)),En.mk 17 [] (SV.c (C.t true)),En.mk 10 [] (SV.c (C.i .i64 x1_0)),z19_20 evs,En.mk 8 [] (SV.c (C.h 3)),En.mk 0 [] (SV.c (C.h 7)),En.mk 1 [] (SV.c (C.p 5 0))] [z19_3 mem,z19_4 cs,z19_5 l,z19_17 evs,z19_16 sh lk bu,Reg.ro [C.p 4 0],Reg.froz Xe,Reg.ext Xe (x1_1+1) al4,Reg.box 63 (z19_1 evs x1_0)] []) K ?_
   refine RunF.cond (vc:=[]) (x:=!al4) K trivial (fun h5=>?_) (fun h5=>?_)
   ·exact RunF.ret (vc:=[]) (v:=SV.tup []) (SV.tup []) ([Reg.dead,Reg.dead,Reg.dead,Reg.dead,Reg.dead,Reg.dead,Reg.dead,Reg.ext Xe (x1_1+1) al4]) [0,1,2,3,4,5,6,7] (E:=[Xe=Xe,x1_1+1=x1_1+1,al4=al4]) K trivial ⟨x1_1+1,al4,V69,rfl⟩ K R
   ·exact RunF.next (I:=L34_0_I mem sh lk bu cs l evs Xe) (J:=L34_0_J mem sh lk bu cs l evs Xe) (m:=L34_0_m mem sh lk bu cs l evs Xe) (x:=(x1_0,x1_1)) (vc:=[Fits IntKind.i64 (x1_0+(1:Int))]) ((x1_0+(1:Int),x1_1+1)) [0,1,2,3,4,5,6,7] (E:=[mem.length=mem.length,∀ (i:Nat),i<mem.length→i64T (mem.getD i (0:Int))=i64T (mem.getD i (0:Int)),cs.length=cs.length,∀ (i:Nat),i<cs.length→(cs.getD i default).tc=(cs.getD i default).tc,l.length=l.length,∀ (i:Nat),i<l.length→(l.getD i default).tc=(l.getD i default).tc,evs.length=evs.length,∀ (i:Nat),i<evs.length→(evs.getD i default).tc=(evs.getD i default).tc,sh=sh,lk=lk,bu=bu,Xe=Xe,Xe=Xe,x1_1+1=x1_1+1,true=al4,x1_0+(1:Int)=x1_0+(1:Int),(↑evs.length:Int)=(↑evs.length:Int)]) K V0 K (by simp only [Conj];(repeat' apply And.intro)<;>first | trivial | rfl | (intros;rfl) | (intros;trivial) | (simp only [BL] at *;grind) | grind) V78 V53
  ·exact RunF.next (I:=L34_0_I mem sh lk bu cs l evs Xe) (J:=L34_0_J mem sh lk bu cs l evs Xe) (m:=L34_0_m mem sh lk bu cs l evs Xe) (x:=(x1_0,x1_1)) (vc:=[Fits IntKind.i64 (x1_0+(1:Int))]) ((x1_0+(1:Int),x1_1)) [0,1,2,3,4,5,6,7] (E:=[mem.length=mem.length,z19_7 mem,cs.length=cs.length,z19_8 cs,l.length=l.length,z19_9 l,evs.length=evs.length,z19_21 evs,sh=sh,lk=lk,bu=bu,Xe=Xe,Xe=Xe,x1_1=x1_1,true=true,x1_0+(1:Int)=x1_0+(1:Int),(↑evs.length:Int)=(↑evs.length:Int)]) K V0 K R V78 V53
 ·exact RunF.fin (vc:=[]) (v:=SV.tup []) (SV.tup []) ([Reg.dead,Reg.dead,Reg.dead,Reg.dead,Reg.dead,Reg.dead,Reg.dead,Reg.ext Xe x1_1 true]) [0,1,2,3,4,5,6,7] (E:=[Xe=Xe,x1_1=x1_1,true=true]) K trivial ⟨x1_1,true,V69,rfl⟩ K R
def R6_I (mem:List Int) (sh lk bu:Int) (cs:List Cor) (l:List Did):List Blk→List Reg:=fun x=>[IntRow mem,Cor.rowR cs,Did.rowR l,.ro [.h 0,.i .i64 sh,.i .i64 lk,.i .i64 bu,.h 1,.h 2,.h 4],Ev.rowR (evL mem sh lk bu cs l),Reg.box 27 [.h 7],.ro [.p 3 0],Blk.ownR x]
def R6_J (mem:List Int) (sh lk bu:Int) (cs:List Cor) (l:List Did):Nat→List Blk→Prop:=fun k x=>x=(blkL mem sh lk bu cs l).take k
def R6_Jx:Code→List Blk→Prop:=fun _ _=>False
def R6_n (mem:List Int) (sh lk bu:Int) (cs:List Cor) (l:List Did):Nat:=(blkL mem sh lk bu cs l).length
def R6_enc (mem:List Int) (sh lk bu:Int) (cs:List Cor) (l:List Did):Nat→SV:=fun k=>.agg ((blkL mem sh lk bu cs l).getD k default).cs
def R6_P (mem:List Int) (sh lk bu:Int) (cs:List Cor) (l:List Did):List Reg:=[IntRow mem,Cor.rowR cs,Did.rowR l,Ev.rowR (evL mem sh lk bu cs l),.ro [.h 0,.i .i64 sh,.i .i64 lk,.i .i64 bu,.h 1,.h 2,.h 3],.ro [.p 4 0]]
def R6_Q:List SV:=[.c (.p 5 0)]
def R6_A (mem:List Int) (sh lk bu:Int) (cs:List Cor) (l:List Did):Nat→List Blk→St:=fun k x=>St.mk 27 [En.mk 9 [] (SV.c (C.p 8 0)),En.mk 8 [] (SV.c (C.p 5 0))] [z19_3 mem,z19_4 cs,z19_5 l,Reg.ro [C.h 0,C.i .i64 sh,C.i .i64 lk,C.i .i64 bu,C.h 1,C.h 2,C.h 4],Reg.row 7 (evL mem sh lk bu cs l).length (fun i=>((evL mem sh lk bu cs l).getD i default).tc) none,Reg.box 27 [C.h 7],Reg.ro [C.p 3 0],Reg.own 48 5 x.length (fun i=>(x.getD i default).tc) none,Reg.box 48 [C.i .i64 ((blkL mem sh lk bu cs l).getD k default).lock,C.i .i64 ((blkL mem sh lk bu cs l).getD k default).core,C.i .i64 ((blkL mem sh lk bu cs l).getD k default).from_,C.i .i64 ((blkL mem sh lk bu cs l).getD k default).left,C.i .i64 ((blkL mem sh lk bu cs l).getD k default).to]] [1000000007]
abbrev z19_23 (sh:Int) (lk:Int) (bu:Int):=Reg.box 81 [C.h 0,C.i .i64 sh,C.i .i64 lk,C.i .i64 bu,C.h 1,C.h 2,C.h 5]
theorem c_blocksT (mem:List Int) (sh lk bu:Int) (cs:List Cor) (l:List Did) (hw:∀ a b:Nat,insK ((cs.getD a default).code.getD b default)) (hl:∀ a:Nat,0≤(l.getD a default).kind∧(l.getD a default).kind≤255) (hn:(l.length:Int) * 56≤140737488355328):Ctr Try.prog 6 [IntRow mem,Cor.rowR cs,Did.rowR l] [.agg [.h 0,.i .i64 sh,.i .i64 lk,.i .i64 bu,.h 1],.c (.h 2)]
 (Det (.tup [(false,[.h 3]),(false,[.i .i64 (evE mem sh lk bu cs l)])]) [.dead,.dead,.dead,Blk.ownR (blkL mem sh lk bu cs l)]):=by
 refine Ctr.intro [] Try.func6 K K ?_
 refine RunF.lens 2 (m:=l.length) K (fun hlens_2=>?_)
 refine RunF.call (vc:=[]) (args:=[SV.agg [C.h 0,C.i .i64 sh,C.i .i64 lk,C.i .i64 bu,C.h 1],SV.c (C.h 2)]) e_monitor_begun (c_begun (mem:=mem) (sh:=sh) (lk:=lk) (bu:=bu) (cs:=cs) (l:=l) (hw:=by first | assumption | omega | exact hw | exact hl | exact evE_ok (mem:=mem) (bu:=bu) (cs:=cs) (l:=l) V37 | exact evL_ok _ V37 | exact hev _ V37) (hl:=by first | assumption | omega | exact hw | exact hl | exact evE_ok (mem:=mem) (bu:=bu) (cs:=cs) (l:=l) V37 | exact evL_ok _ V37 | exact hev _ V37) (hn:=by first | assumption | omega | exact hw | exact hl | exact evE_ok (mem:=mem) (bu:=bu) (cs:=cs) (l:=l) V37 | exact evL_ok _ V37 | exact hev _ V37)) [0,1,2] (E:=[mem.length=mem.length,z19_7 mem,cs.length=cs.length,z19_8 cs,l.length=l.length,z19_9 l,sh=sh,lk=lk,bu=bu]) K trivial K R K ?_
 refine RunF.chk [13,5,4] [.ops [1,0] 3,.code [1,1]] (St.mk 27 [En.mk 13 [] (SV.tup [(false,[C.p 4 0]),(false,[C.i .i64 (evE mem sh lk bu cs l)])]),En.mk 5 [] (SV.c (C.i .i64 0)),z19_12] [z19_3 mem,z19_4 cs,z19_5 l,z19_10 sh lk bu,z19_23 sh lk bu,z19_6 mem sh lk bu cs l] []) K ?_
 refine RunF.cond (vc:=[]) (x:=!decide (evE mem sh lk bu cs l=(0:Int))) K trivial (fun h1=>?_) (fun h1=>?_)
 ·exact RunF.ret (vc:=[]) (v:=SV.tup [(false,[C.v (Value.slice none 0 0)]),(false,[C.i .i64 (evE mem sh lk bu cs l)])]) _ _ [0,1,2,1000003] (E:=[(blkL mem sh lk bu cs l).length=0,evE mem sh lk bu cs l=evE mem sh lk bu cs l]) K trivial ⟨rfl,rfl⟩ K V61
 ·refine RunF.chk [6,5,4] [.code [1,1,0,1,1],.code [1,1,1]] (St.mk 27 [En.mk 6 [] (SV.c (C.p 4 0)),En.mk 5 [] (SV.c (C.i .i64 0)),z19_12] [z19_3 mem,z19_4 cs,z19_5 l,z19_10 sh lk bu,z19_23 sh lk bu,z19_6 mem sh lk bu cs l] []) K ?_
  refine RunF.call (vc:=[]) (args:=[SV.c (C.p 4 0)]) e_monitor_looking_blocks (c_blocksF) [4] (E:=[]) K trivial K trivial K ?_
  refine RunF.chk [20,8,5,4] [.ops [1,1,1,1,0,0] 2,.code [1,1,1,1,0,1],.code [1,1,1,1,1]] (St.mk 27 [En.mk 20 [] (SV.c (C.fn 34 [7])),En.mk 8 [] (SV.c (C.p 6 0)),En.mk 5 [] (SV.c (C.i .i64 0)),z19_12] [z19_3 mem,z19_4 cs,z19_5 l,z19_10 sh lk bu,z19_23 sh lk bu,z19_6 mem sh lk bu cs l,Reg.box 27 [C.v (Value.slice none 0 0)],Reg.box 52 [C.p 4 0]] []) K ?_
  refine RunF.range (I:=R6_I mem sh lk bu cs l) (J:=R6_J mem sh lk bu cs l) (Jx:=R6_Jx) (n:=R6_n mem sh lk bu cs l) (nf:=7) (fi:=34) (enc:=R6_enc mem sh lk bu cs l) (stA:=R6_A mem sh lk bu cs l) (preI:=R6_P mem sh lk bu cs l) (argsI:=R6_Q) (caps:=[6]) ([]) (St.mk 27 [En.mk 20 [] (SV.c (C.fn 34 [6])),En.mk 8 [] (SV.c (C.p 5 0)),En.mk 5 [] (SV.c (C.i .i64 0)),z19_12] [z19_3 mem,z19_4 cs,z19_5 l,Reg.ro [C.h 0,C.i .i64 sh,C.i .i64 lk,C.i .i64 bu,C.h 1,C.h 2,C.h 4],Reg.row 7 (evL mem sh lk bu cs l).length (fun i=>((evL mem sh lk bu cs l).getD i default).tc) none,Reg.box 27 [C.h 7],Reg.ro [C.p 3 0],Reg.own 48 5 0 (fun i=>(([]:List Blk).getD i default).tc) none] []) [0,1,2,4,5,6,7,1000007] [0,1,2,4,3,6] (vc:=[]) (E:=[mem.length=mem.length,∀ (i:Nat),i<mem.length→i64T (mem.getD i (0:Int))=i64T (mem.getD i (0:Int)),cs.length=cs.length,∀ (i:Nat),i<cs.length→(cs.getD i default).tc=(cs.getD i default).tc,l.length=l.length,∀ (i:Nat),i<l.length→(l.getD i default).tc=(l.getD i default).tc,sh=sh,lk=lk,bu=bu,z19_18 mem sh lk bu cs l,∀ (i:Nat),i<(evL mem sh lk bu cs l).length→((evL mem sh lk bu cs l).getD i default).tc=((evL mem sh lk bu cs l).getD i default).tc,0=0,(0:Int)=(0:Int),z19_22]) (E2:=[mem.length=mem.length,z19_7 mem,cs.length=cs.length,z19_8 cs,l.length=l.length,z19_9 l,z19_18 mem sh lk bu cs l,z19_13 mem sh lk bu cs l,sh=sh,lk=lk,bu=bu]) K trivial K R K e_monitor_looking_blocks_1 K K K K K rfl K R K K (fun k=>by kernel_rfl) (fun Xe hn he hy=>c_blocks_it mem sh lk bu cs l (evL mem sh lk bu cs l) (evE_ok (mem:=mem) (bu:=bu) (cs:=cs) (l:=l) V37) evL_ok Xe hn he hy) ?_ (fun _ _=>by kernel_rfl) ?_ ?_ (fun _ _ h=>h.elim)
  ·intro k2 x2 hk2 hJ2
   exact RunF.to (I:=fun x=>R6_A mem sh lk bu cs l k2 x2) (J:=fun x=>True) (vc:=[]) () [0,1,2,3,4,5,6,7,8] (E:=[mem.length=mem.length,z19_7 mem,cs.length=cs.length,z19_8 cs,l.length=l.length,z19_9 l,sh=sh,lk=lk,bu=bu,z19_18 mem sh lk bu cs l,z19_13 mem sh lk bu cs l,x2.length=x2.length,∀ (i:Nat),i<x2.length→(x2.getD i default).tc=(x2.getD i default).tc,((blkL mem sh lk bu cs l).getD k2 default).lock=((blkL mem sh lk bu cs l).getD k2 default).lock,((blkL mem sh lk bu cs l).getD k2 default).core=((blkL mem sh lk bu cs l).getD k2 default).core,((blkL mem sh lk bu cs l).getD k2 default).from_=((blkL mem sh lk bu cs l).getD k2 default).from_,((blkL mem sh lk bu cs l).getD k2 default).left=((blkL mem sh lk bu cs l).getD k2 default).left,((blkL mem sh lk bu cs l).getD k2 default).to=((blkL mem sh lk bu cs l).getD k2 default).to]) K trivial K R trivial
  ·rintro k2 x2_0 hk2 hJ2
   dsimp only [R6_J] at hJ2
   exact RunF.endRound (I:=R6_I mem sh lk bu cs l) (J:=R6_J mem sh lk bu cs l (k2+1)) (vc:=[x2_0.length+1≤maxLen,(x2_0.length+1) * 40≤140737488355328]) (x2_0++[Blk.mk ((blkL mem sh lk bu cs l).getD k2 default).lock ((blkL mem sh lk bu cs l).getD k2 default).core ((blkL mem sh lk bu cs l).getD k2 default).from_ ((blkL mem sh lk bu cs l).getD k2 default).left ((blkL mem sh lk bu cs l).getD k2 default).to]) [0,1,2,3,4,5,6,10] (E:=[mem.length=mem.length,∀ (i:Nat),i<mem.length→i64T (mem.getD i (0:Int))=i64T (mem.getD i (0:Int)),cs.length=cs.length,∀ (i:Nat),i<cs.length→(cs.getD i default).tc=(cs.getD i default).tc,l.length=l.length,∀ (i:Nat),i<l.length→(l.getD i default).tc=(l.getD i default).tc,sh=sh,lk=lk,bu=bu,z19_18 mem sh lk bu cs l,∀ (i:Nat),i<(evL mem sh lk bu cs l).length→((evL mem sh lk bu cs l).getD i default).tc=((evL mem sh lk bu cs l).getD i default).tc,(x2_0++[Blk.mk ((blkL mem sh lk bu cs l).getD k2 default).lock ((blkL mem sh lk bu cs l).getD k2 default).core ((blkL mem sh lk bu cs l).getD k2 default).from_ ((blkL mem sh lk bu cs l).getD k2 default).left ((blkL mem sh lk bu cs l).getD k2 default).to]).length=x2_0.length+1,∀ (i:Nat),i<(x2_0++[Blk.mk ((blkL mem sh lk bu cs l).getD k2 default).lock ((blkL mem sh lk bu cs l).getD k2 default).core ((blkL mem sh lk bu cs l).getD k2 default).from_ ((blkL mem sh lk bu cs l).getD k2 default).left ((blkL mem sh lk bu cs l).getD k2 default).to]).length→i≠x2_0.length→((x2_0++[Blk.mk ((blkL mem sh lk bu cs l).getD k2 default).lock ((blkL mem sh lk bu cs l).getD k2 default).core ((blkL mem sh lk bu cs l).getD k2 default).from_ ((blkL mem sh lk bu cs l).getD k2 default).left ((blkL mem sh lk bu cs l).getD k2 default).to]).getD i default).tc=(x2_0.getD i default).tc,((x2_0++[Blk.mk ((blkL mem sh lk bu cs l).getD k2 default).lock ((blkL mem sh lk bu cs l).getD k2 default).core ((blkL mem sh lk bu cs l).getD k2 default).from_ ((blkL mem sh lk bu cs l).getD k2 default).left ((blkL mem sh lk bu cs l).getD k2 default).to]).getD x2_0.length default).tc 0=TC.val (Value.int IntKind.i64 ((blkL mem sh lk bu cs l).getD k2 default).lock),((x2_0++[Blk.mk ((blkL mem sh lk bu cs l).getD k2 default).lock ((blkL mem sh lk bu cs l).getD k2 default).core ((blkL mem sh lk bu cs l).getD k2 default).from_ ((blkL mem sh lk bu cs l).getD k2 default).left ((blkL mem sh lk bu cs l).getD k2 default).to]).getD x2_0.length default).tc 1=TC.val (Value.int IntKind.i64 ((blkL mem sh lk bu cs l).getD k2 default).core),((x2_0++[Blk.mk ((blkL mem sh lk bu cs l).getD k2 default).lock ((blkL mem sh lk bu cs l).getD k2 default).core ((blkL mem sh lk bu cs l).getD k2 default).from_ ((blkL mem sh lk bu cs l).getD k2 default).left ((blkL mem sh lk bu cs l).getD k2 default).to]).getD x2_0.length default).tc 2=TC.val (Value.int IntKind.i64 ((blkL mem sh lk bu cs l).getD k2 default).from_),((x2_0++[Blk.mk ((blkL mem sh lk bu cs l).getD k2 default).lock ((blkL mem sh lk bu cs l).getD k2 default).core ((blkL mem sh lk bu cs l).getD k2 default).from_ ((blkL mem sh lk bu cs l).getD k2 default).left ((blkL mem sh lk bu cs l).getD k2 default).to]).getD x2_0.length default).tc 3=TC.val (Value.int IntKind.i64 ((blkL mem sh lk bu cs l).getD k2 default).left),((x2_0++[Blk.mk ((blkL mem sh lk bu cs l).getD k2 default).lock ((blkL mem sh lk bu cs l).getD k2 default).core ((blkL mem sh lk bu cs l).getD k2 default).from_ ((blkL mem sh lk bu cs l).getD k2 default).left ((blkL mem sh lk bu cs l).getD k2 default).to]).getD x2_0.length default).tc 4=TC.val (Value.int IntKind.i64 ((blkL mem sh lk bu cs l).getD k2 default).to)]) K (by simp only [Conj,Fits,i64_min,i64_max,u8_min,u8_max,News.len,maxLen];(repeat' (first | apply And.intro | intro _))<;>first | grind | (have hl3:=blkUp_len sh l (evL mem sh lk bu cs l) (evL mem sh lk bu cs l).length;have hl4:=evL_len (mem:=mem) (sh:=sh) (lk:=lk) (bu:=bu) (cs:=cs) (l:=l);have hl5:x2_0.length+1≤l.length:=(by rw [hJ2,List.length_take];have hk4:k2<(blkL mem sh lk bu cs l).length:=hk2;simp only [blkL] at *;omega);first | grind | omega) | (simp only [BL] at *;omega)) K V19 (by dsimp only [R6_J] at *;subst_vars;exact take_next (by assumption))
  ·rintro x2_0 hJ2
   dsimp only [R6_J] at hJ2
   exact RunF.ret (vc:=[]) (v:=SV.tup [(false,[C.h 7]),(false,[C.i .i64 0])]) _ _ [0,1,2,7] (E:=[(blkL mem sh lk bu cs l).length=x2_0.length,∀ (i:Nat),i<(blkL mem sh lk bu cs l).length→((blkL mem sh lk bu cs l).getD i default).tc=(x2_0.getD i default).tc,evE mem sh lk bu cs l=(0:Int)]) K trivial ⟨rfl,rfl⟩ K V61
end Go.Proofs.Ytlblobbklioofaa
end
namespace Go.Proofs.Ytlblobbklioofaa
open Go Go.Tx
def blkOk (l:List Did) (b:Blk):Prop:=0≤b.from_∧b.from_<l.length∧b.to≤l.length
theorem findFrom_lo (p:Int→Bool) {i n:Int} (h:0≤i):0≤findFrom p i n:=by
 by_cases hn:n≤i
 ·rw [findFrom_out p hn];exact h
 ·have:=findFrom_ge p _ i rfl (show i≤n by omega);omega
theorem toOf_ok {l:List Did} {evs:List Ev} {e:Ev} (hev:∀ a:Nat,a<evs.length→evOk l (evs.getD a default)):toOf evs e≤l.length:=by
 unfold toOf
 split
 ·rename_i h
  have h0:=findFrom_lo (toP evs e) (i:=0) (n:=evs.length) (Int.le_refl _)
  have:=hev (findFrom (toP evs e) 0 evs.length).toNat (by omega)
  exact Int.le_of_lt this.2.1
 ·omega
theorem blkUp_ok {sh:Int} {l:List Did} {evs:List Ev} (hev:∀ a:Nat,a<evs.length→evOk l (evs.getD a default)):∀ n,n≤evs.length→∀ b∈blkUp sh l evs n,blkOk l b
 | 0,_,b,h=>by simp [blkUp] at h
 | n+1,hn,b,h=>by
   rw [blkUp,List.mem_append] at h
   rcases h with h | h
   ·exact blkUp_ok hev n (by omega) b h
   ·split at h
    ·have hb:b=blkOf sh l evs (evs.getD n default):=by simpa using h
     subst hb
     have:=hev n (by omega)
     exact ⟨this.1,this.2.1,toOf_ok hev⟩
    ·simp at h
theorem blkL_ok {mem:List Int} {sh lk bu:Int} {cs:List Cor} {l:List Did}:∀ a:Nat,a<(blkL mem sh lk bu cs l).length→blkOk l ((blkL mem sh lk bu cs l).getD a default):=by
 intro a ha
 refine blkUp_ok (sh:=sh) (evs:=evL mem sh lk bu cs l) evL_ok _ (Nat.le_refl _) _ ?_
 rw [List.getD_eq_getElem?_getD,List.getElem?_eq_getElem ha];exact List.getElem_mem ha
theorem blkL_len {mem:List Int} {sh lk bu:Int} {cs:List Cor} {l:List Did}:(blkL mem sh lk bu cs l).length≤l.length:=
 Nat.le_trans (blkUp_len _ _ _ _) evL_len
theorem evE_mem {mem:List Int} {sh lk bu:Int} {cs:List Cor} {l:List Did} (h:evE mem sh lk bu cs l=0):sh+lk≤(mem.length:Int):=by
 unfold evE at h
 split at h
 ·rename_i hc;have:=chk_ok hc;omega
 ·rename_i hc;exact absurd h hc
def askE (mem:List Int) (sh lk bu:Int) (cs:List Cor) (l:List Did) (cl:List Cls):Int:=
 if evE mem sh lk bu cs l=0 then if (cl.length:Int)=sh then 0 else 210 else evE mem sh lk bu cs l
theorem askE_ok {mem:List Int} {sh lk bu:Int} {cs:List Cor} {l:List Did} {cl:List Cls} (h:askE mem sh lk bu cs l cl=0):evE mem sh lk bu cs l=0∧(cl.length:Int)=sh:=by
 unfold askE at h
 split at h
 ·rename_i h1
  split at h
  ·rename_i h2;exact ⟨h1,h2⟩
  ·simp at h
 ·rename_i h1;exact absurd h h1
def handOn (l:List Did) (cl:List Cls) (b:Blk) (n:Nat):Bool:=decide ((cl.getD n default).kind=2)&&decide ((cl.getD n default).lock=b.lock)&&handB l b n
def handsOne (mem:List Int) (l:List Did) (cl:List Cls) (b:Blk):Nat→List Hnd
 | 0=>[]
 | n+1=>handsOne mem l cl b n++(if handOn l cl b n then [handH mem l b n] else [])
def handsUp (mem:List Int) (l:List Did) (cl:List Cls) (bs:List Blk):Nat→List Hnd
 | 0=>[]
 | n+1=>handsUp mem l cl bs n++handsOne mem l cl (bs.getD n default) cl.length
def handsL (mem:List Int) (sh lk bu:Int) (cs:List Cor) (l:List Did) (cl:List Cls):List Hnd:=
 if askE mem sh lk bu cs l cl=0 then handsUp mem l cl (blkL mem sh lk bu cs l) (blkL mem sh lk bu cs l).length else []
theorem handsOne_take (mem:List Int) (l:List Did) (cl:List Cls) (b:Blk) {i:Int} (h:0≤i) (ho:handOn l cl b i.toNat=true):handsOne mem l cl b (i+1).toNat=handsOne mem l cl b i.toNat++[handH mem l b i]:=by
 rw [show (i+1).toNat=i.toNat+1 by omega,handsOne,if_pos ho,show ((i.toNat:Nat):Int)=i by omega]
theorem handsOne_skip (mem:List Int) (l:List Did) (cl:List Cls) (b:Blk) {i:Int} (h:0≤i) (ho:handOn l cl b i.toNat=false):handsOne mem l cl b (i+1).toNat=handsOne mem l cl b i.toNat:=by
 rw [show (i+1).toNat=i.toNat+1 by omega,handsOne,if_neg (by simp [ho]),List.append_nil]
theorem handsOne_len (mem:List Int) (l:List Did) (cl:List Cls) (b:Blk):∀ n,(handsOne mem l cl b n).length≤n
 | 0=>Nat.le_refl _
 | n+1=>by
   have:=handsOne_len mem l cl b n
   rw [handsOne,List.length_append]
   split<;>simp<;>omega
theorem handsUp_len (mem:List Int) (l:List Did) (cl:List Cls) (bs:List Blk):∀ n,(handsUp mem l cl bs n).length≤n * cl.length
 | 0=>by simp [handsUp]
 | n+1=>by
   have h1:=handsUp_len mem l cl bs n
   have h2:=handsOne_len mem l cl (bs.getD n default) cl.length
   rw [handsUp,List.length_append,Nat.succ_mul]
   omega
end Go.Proofs.Ytlblobbklioofaa
noncomputable section
namespace Go.Proofs.Ytlblobbklioofaa
open Go Go.Tx
abbrev z20_20 (mem:List Int):=∀ (i:Nat),i<mem.length→i64T (mem.getD i (0:Int))=i64T (mem.getD i (0:Int))
abbrev z20_21 (cs:List Cor):=∀ (i:Nat),i<cs.length→(cs.getD i default).tc=(cs.getD i default).tc
abbrev z20_22 (l:List Did):=∀ (i:Nat),i<l.length→(l.getD i default).tc=(l.getD i default).tc
abbrev z20_7 (mem:List Int) (cs:List Cor) (l:List Did) (sh:Int) (lk:Int) (bu:Int):=[mem.length=mem.length,z20_20 mem,cs.length=cs.length,z20_21 cs,l.length=l.length,z20_22 l,sh=sh,lk=lk,bu=bu]
abbrev z20_15 (sh:Int) (lk:Int) (bu:Int):=Reg.box 25 [C.h 0,C.i .i64 sh,C.i .i64 lk,C.i .i64 bu,C.h 1]
abbrev z20_16 (mem:List Int):=Reg.row 1 mem.length (fun i=>i64T (mem.getD i (0:Int))) none
abbrev z20_17 (cs:List Cor):=Reg.row 2 cs.length (fun i=>(cs.getD i default).tc) none
abbrev z20_18 (cl:List Cls):=Reg.row 3 cl.length (fun i=>(cl.getD i default).tc) none
abbrev z20_19 (l:List Did):=Reg.row 7 l.length (fun i=>(l.getD i default).tc) none
theorem c_asked (mem:List Int) (sh lk bu:Int) (cs:List Cor) (l:List Did) (cl:List Cls) (hw:∀ a b:Nat,insK ((cs.getD a default).code.getD b default)) (hl:∀ a:Nat,0≤(l.getD a default).kind∧(l.getD a default).kind≤255) (hn:(l.length:Int) * 4096≤140737488355328):Ctr Try.prog 26 [IntRow mem,Cor.rowR cs,Did.rowR l,Cls.rowR cl] [.agg [.h 0,.i .i64 sh,.i .i64 lk,.i .i64 bu,.h 1],.c (.h 3),.c (.h 2)]
 (Det (.tup [(false,[.p 4 0]),(false,[.i .i64 (askE mem sh lk bu cs l cl)])]) [.dead,.dead,.dead,.dead,Reg.box 81 [.h 0,.i .i64 sh,.i .i64 lk,.i .i64 bu,.h 1,.h 2,.h 5],Ev.ownR (evL mem sh lk bu cs l)]):=by
 refine Ctr.intro [] Try.func26 K K ?_
 refine RunF.call (vc:=[]) (args:=[SV.agg [C.h 0,C.i .i64 sh,C.i .i64 lk,C.i .i64 bu,C.h 1],SV.c (C.h 2)]) e_monitor_begun (c_begun (mem:=mem) (sh:=sh) (lk:=lk) (bu:=bu) (cs:=cs) (l:=l) (hw:=by first | assumption | omega | exact hw | exact hl | exact evE_ok (mem:=mem) (bu:=bu) (cs:=cs) (l:=l) V37 | exact evL_ok _ V37 | exact blkL_ok _ V37 | (have hm:=evE_mem (mem:=mem) (sh:=sh) (lk:=lk) (bu:=bu) (cs:=cs) (l:=l) V37;have hs:=evE_ok (mem:=mem) (sh:=sh) (lk:=lk) (bu:=bu) (cs:=cs) (l:=l) V37;grind)) (hl:=by first | assumption | omega | exact hw | exact hl | exact evE_ok (mem:=mem) (bu:=bu) (cs:=cs) (l:=l) V37 | exact evL_ok _ V37 | exact blkL_ok _ V37 | (have hm:=evE_mem (mem:=mem) (sh:=sh) (lk:=lk) (bu:=bu) (cs:=cs) (l:=l) V37;have hs:=evE_ok (mem:=mem) (sh:=sh) (lk:=lk) (bu:=bu) (cs:=cs) (l:=l) V37;grind)) (hn:=by first | assumption | omega | exact hw | exact hl | exact evE_ok (mem:=mem) (bu:=bu) (cs:=cs) (l:=l) V37 | exact evL_ok _ V37 | exact blkL_ok _ V37 | (have hm:=evE_mem (mem:=mem) (sh:=sh) (lk:=lk) (bu:=bu) (cs:=cs) (l:=l) V37;have hs:=evE_ok (mem:=mem) (sh:=sh) (lk:=lk) (bu:=bu) (cs:=cs) (l:=l) V37;grind))) [0,1,2] (E:=(z20_7 mem cs l sh lk bu)) K trivial K R K ?_
 refine RunF.chk [13,7,6,3,1] [.ops [1,0] 3,.code [1,1]] (St.mk 27 [En.mk 13 [] (SV.tup [(false,[C.p 5 0]),(false,[C.i .i64 (evE mem sh lk bu cs l)])]),En.mk 7 [] (SV.c (C.i .i64 0)),En.mk 6 [] (SV.c (C.v (Value.pointer none))),En.mk 3 [] (SV.c (C.p 4 0)),En.mk 1 [] (SV.c (C.h 3))] [z20_16 mem,z20_17 cs,z20_19 l,z20_18 cl,z20_15 sh lk bu,Reg.box 81 [C.h 0,C.i .i64 sh,C.i .i64 lk,C.i .i64 bu,C.h 1,C.h 2,C.h 6],Reg.own 63 7 (evL mem sh lk bu cs l).length (fun i=>((evL mem sh lk bu cs l).getD i default).tc) none] []) K ?_
 refine RunF.cond (vc:=[]) (x:=decide (evE mem sh lk bu cs l=(0:Int))&&!decide ((↑cl.length:Int)=sh)) K trivial (fun h1=>?_) (fun h1=>?_)
 ·exact RunF.ret (vc:=[]) (v:=SV.tup [(false,[C.p 5 0]),(false,[C.i .i64 210])]) _ _ [0,1,2,3,5,6] (E:=[sh=sh,lk=lk,bu=bu,(evL mem sh lk bu cs l).length=(evL mem sh lk bu cs l).length,∀ (i:Nat),i<(evL mem sh lk bu cs l).length→((evL mem sh lk bu cs l).getD i default).tc=((evL mem sh lk bu cs l).getD i default).tc,askE mem sh lk bu cs l cl=(210:Int)]) K trivial ⟨rfl,rfl⟩ K (by simp only [Conj,askE] at *<;>grind)
 ·exact RunF.ret (vc:=[]) (v:=SV.tup [(false,[C.p 5 0]),(false,[C.i .i64 (evE mem sh lk bu cs l)])]) _ _ [0,1,2,3,5,6] (E:=[sh=sh,lk=lk,bu=bu,(evL mem sh lk bu cs l).length=(evL mem sh lk bu cs l).length,∀ (i:Nat),i<(evL mem sh lk bu cs l).length→((evL mem sh lk bu cs l).getD i default).tc=((evL mem sh lk bu cs l).getD i default).tc,askE mem sh lk bu cs l cl=evE mem sh lk bu cs l]) K trivial ⟨rfl,rfl⟩ K (by simp only [Conj,askE] at *<;>grind)
end Go.Proofs.Ytlblobbklioofaa
end
noncomputable section
namespace Go.Proofs.Ytlblobbklioofaa
open Go Go.Tx
def R15_I (mem:List Int) (sh lk bu:Int) (cs:List Cor) (l:List Did) (cl:List Cls):List Hnd→List Reg:=fun x=>[IntRow mem,Cor.rowR cs,Did.rowR l,Cls.rowR cl,.ro [.h 0,.i .i64 sh,.i .i64 lk,.i .i64 bu,.h 1,.h 2,.h 5],Ev.rowR (evL mem sh lk bu cs l),Reg.box 40 [.h 3],Reg.box 52 [.p 4 0],Reg.box 41 [.h 10],.ro [.p 4 0],Hnd.ownR x]
def R15_J (mem:List Int) (sh lk bu:Int) (cs:List Cor) (l:List Did) (cl:List Cls):Nat→List Hnd→Prop:=fun k x=>x=handsUp mem l cl (blkL mem sh lk bu cs l) k
def R15_Jx:Code→List Hnd→Prop:=fun _ _=>False
def R15_n (mem:List Int) (sh lk bu:Int) (cs:List Cor) (l:List Did) (cl:List Cls):Nat:=(blkL mem sh lk bu cs l).length
def R15_enc (mem:List Int) (sh lk bu:Int) (cs:List Cor) (l:List Did) (cl:List Cls):Nat→SV:=fun k=>.agg ((blkL mem sh lk bu cs l).getD k default).cs
def R15_P (mem:List Int) (sh lk bu:Int) (cs:List Cor) (l:List Did) (cl:List Cls):List Reg:=[IntRow mem,Cor.rowR cs,Did.rowR l,Ev.rowR (evL mem sh lk bu cs l),.ro [.h 0,.i .i64 sh,.i .i64 lk,.i .i64 bu,.h 1,.h 2,.h 3],.ro [.p 4 0]]
def R15_Q:List SV:=[.c (.p 5 0)]
abbrev z21_13 (mem:List Int) (sh:Int) (lk:Int) (bu:Int) (cs:List Cor) (l:List Did) (k2:Nat):=((blkL mem sh lk bu cs l).getD k2 default)
abbrev z21_1 (mem:List Int) (sh:Int) (lk:Int) (bu:Int) (cs:List Cor) (l:List Did) (k2:Nat):=[C.i .i64 (z21_13 mem sh lk bu cs l k2).lock,C.i .i64 (z21_13 mem sh lk bu cs l k2).core,C.i .i64 (z21_13 mem sh lk bu cs l k2).from_,C.i .i64 (z21_13 mem sh lk bu cs l k2).left,C.i .i64 (z21_13 mem sh lk bu cs l k2).to]
abbrev z21_3 (mem:List Int):=Reg.row 1 mem.length (fun i=>i64T (mem.getD i (0:Int))) none
abbrev z21_4 (mem:List Int) (sh:Int) (lk:Int) (bu:Int) (cs:List Cor) (l:List Did):=Reg.row 7 (evL mem sh lk bu cs l).length (fun i=>((evL mem sh lk bu cs l).getD i default).tc) none
abbrev z21_5 (cs:List Cor):=Reg.row 2 cs.length (fun i=>(cs.getD i default).tc) none
abbrev z21_6 (cl:List Cls):=Reg.row 3 cl.length (fun i=>(cl.getD i default).tc) none
abbrev z21_7 (l:List Did):=Reg.row 7 l.length (fun i=>(l.getD i default).tc) none
abbrev z21_8 (sh:Int) (lk:Int) (bu:Int):=Reg.ro [C.h 0,C.i .i64 sh,C.i .i64 lk,C.i .i64 bu,C.h 1,C.h 2,C.h 5]
abbrev z21_9:=Reg.box 52 [C.p 4 0]
def L15_0_I (mem:List Int) (sh:Int) (lk:Int) (bu:Int) (cs:List Cor) (l:List Did) (cl:List Cls) (k2:Nat) (x2_0:List Hnd):Int×List Hnd→St:=fun x=>{ N:=60,fr:=[{ slot:=31,g:=[],sv:=SV.c (C.i .i64 x.1) },{ slot:=30,g:=[],sv:=SV.c (C.i .i64 (↑cl.length:Int)) },{ slot:=29,g:=[],sv:=SV.c (C.h 3) },{ slot:=11,g:=[],sv:=SV.c (C.p 11 0) },{ slot:=10,g:=[],sv:=SV.c (C.p 8 0) },{ slot:=8,g:=[],sv:=SV.c (C.p 7 0) }],rg:=[z21_3 mem,z21_5 cs,z21_7 l,z21_6 cl,z21_8 sh lk bu,z21_4 mem sh lk bu cs l,Reg.box 40 [C.h 3],z21_9,Reg.box 41 [C.h 10],Reg.ro [C.p 4 0],Hnd.ownR (x.2),Reg.box 48 (z21_1 mem sh lk bu cs l k2)],wr:=[1000000007] }
def L15_0_J (mem:List Int) (sh:Int) (lk:Int) (bu:Int) (cs:List Cor) (l:List Did) (cl:List Cls) (k2:Nat) (x2_0:List Hnd):Int×List Hnd→Prop:=fun x=>0≤x.1∧x.1≤(cl.length:Int)∧x.2=x2_0++handsOne mem l cl ((blkL mem sh lk bu cs l).getD k2 default) x.1.toNat
def L15_0_m (mem:List Int) (sh:Int) (lk:Int) (bu:Int) (cs:List Cor) (l:List Did) (cl:List Cls) (k2:Nat) (x2_0:List Hnd):Int×List Hnd→Nat:=fun x=>((cl.length:Int)-x.1).toNat
abbrev z21_22:=[En.mk 11 [] (SV.c (C.p 11 0)),En.mk 10 [] (SV.c (C.p 8 0)),En.mk 8 [] (SV.c (C.p 7 0)),En.mk 4 [] (SV.c (C.p 6 0))]
def R15_A (mem:List Int) (sh lk bu:Int) (cs:List Cor) (l:List Did) (cl:List Cls):Nat→List Hnd→St:=fun k x=>St.mk 60 z21_22 [z21_3 mem,z21_5 cs,z21_7 l,z21_6 cl,z21_8 sh lk bu,z21_4 mem sh lk bu cs l,Reg.box 40 [C.h 3],z21_9,Reg.box 41 [C.h 10],Reg.ro [C.p 4 0],Reg.own 50 5 x.length (fun i=>(x.getD i default).tc) none,Reg.box 48 [C.i .i64 ((blkL mem sh lk bu cs l).getD k default).lock,C.i .i64 ((blkL mem sh lk bu cs l).getD k default).core,C.i .i64 ((blkL mem sh lk bu cs l).getD k default).from_,C.i .i64 ((blkL mem sh lk bu cs l).getD k default).left,C.i .i64 ((blkL mem sh lk bu cs l).getD k default).to]] [1000000007]
abbrev z21_14 (mem:List Int) (sh:Int) (lk:Int) (bu:Int) (cs:List Cor) (l:List Did):=∀ (i:Nat),i<(evL mem sh lk bu cs l).length→((evL mem sh lk bu cs l).getD i default).tc=((evL mem sh lk bu cs l).getD i default).tc
abbrev z21_15 (mem:List Int):=∀ (i:Nat),i<mem.length→i64T (mem.getD i (0:Int))=i64T (mem.getD i (0:Int))
abbrev z21_16 (cs:List Cor):=∀ (i:Nat),i<cs.length→(cs.getD i default).tc=(cs.getD i default).tc
abbrev z21_17 (l:List Did):=∀ (i:Nat),i<l.length→(l.getD i default).tc=(l.getD i default).tc
abbrev z21_18 (cl:List Cls):=∀ (i:Nat),i<cl.length→(cl.getD i default).tc=(cl.getD i default).tc
abbrev z21_19 (mem:List Int) (sh:Int) (lk:Int) (bu:Int) (cs:List Cor) (l:List Did):=(evL mem sh lk bu cs l).length=(evL mem sh lk bu cs l).length
abbrev z21_2 (mem:List Int) (cs:List Cor) (l:List Did) (cl:List Cls) (sh:Int) (lk:Int) (bu:Int) (x3_1:List Hnd) (k2:Nat) (x3_0:Int):=[mem.length=mem.length,z21_15 mem,cs.length=cs.length,z21_16 cs,l.length=l.length,z21_17 l,cl.length=cl.length,z21_18 cl,sh=sh,lk=lk,bu=bu,z21_19 mem sh lk bu cs l,z21_14 mem sh lk bu cs l,x3_1.length=x3_1.length,∀ (i:Nat),i<x3_1.length→(x3_1.getD i default).tc=(x3_1.getD i default).tc,(z21_13 mem sh lk bu cs l k2).lock=(z21_13 mem sh lk bu cs l k2).lock,(z21_13 mem sh lk bu cs l k2).core=(z21_13 mem sh lk bu cs l k2).core,(z21_13 mem sh lk bu cs l k2).from_=(z21_13 mem sh lk bu cs l k2).from_,(z21_13 mem sh lk bu cs l k2).left=(z21_13 mem sh lk bu cs l k2).left,(z21_13 mem sh lk bu cs l k2).to=(z21_13 mem sh lk bu cs l k2).to,x3_0+(1:Int)=x3_0+(1:Int),(↑cl.length:Int)=(↑cl.length:Int)]
abbrev z21_10 (x3_1:List Hnd):=Reg.own 50 5 x3_1.length (fun i=>(x3_1.getD i default).tc) none
abbrev z21_11 (x3_0:Int) (cl:List Cls):=[En.mk 31 [] (SV.c (C.i .i64 x3_0)),En.mk 30 [] (SV.c (C.i .i64 (↑cl.length:Int))),En.mk 29 [] (SV.c (C.h 3)),En.mk 11 [] (SV.c (C.p 11 0)),En.mk 10 [] (SV.c (C.p 8 0)),En.mk 8 [] (SV.c (C.p 7 0))]
abbrev z21_12 (mem:List Int) (sh:Int) (lk:Int) (bu:Int) (cs:List Cor) (l:List Did) (cl:List Cls) (k2:Nat) (x2_0:List Hnd) (x3_0:Int) (x3_1:List Hnd):=(Tx.Next (L15_0_I mem sh lk bu cs l cl k2 x2_0) (L15_0_J mem sh lk bu cs l cl k2 x2_0) (L15_0_m mem sh lk bu cs l cl k2 x2_0) (x3_0,x3_1))
abbrev z21_20 (mem:List Int) (cs:List Cor) (l:List Did) (cl:List Cls) (sh:Int) (lk:Int) (bu:Int) (x3_1:List Hnd) (k2:Nat) (x3_0:Int):=[z21_3 mem,z21_5 cs,z21_7 l,z21_6 cl,z21_8 sh lk bu,z21_4 mem sh lk bu cs l,Reg.box 40 [C.h 3],z21_9,Reg.box 41 [C.h 10],Reg.ro [C.p 4 0],z21_10 x3_1,Reg.box 48 (z21_1 mem sh lk bu cs l k2),Reg.box 72 [C.i .u8 (cl.getD x3_0.toNat default).kind,C.i .i64 (cl.getD x3_0.toNat default).thread,C.i .i64 (cl.getD x3_0.toNat default).lock]]
abbrev z21_21:=En.mk 6 [] (SV.c (C.v (Value.slice none 0 0)))
abbrev z21_23 (sh:Int) (lk:Int) (bu:Int):=Reg.box 81 [C.h 0,C.i .i64 sh,C.i .i64 lk,C.i .i64 bu,C.h 1,C.h 2,C.h 7]
abbrev z21_24 (mem:List Int) (sh:Int) (lk:Int) (bu:Int) (cs:List Cor) (l:List Did):=Reg.own 63 7 (evL mem sh lk bu cs l).length (fun i=>((evL mem sh lk bu cs l).getD i default).tc) none
abbrev z21_25:=[0,1,2,3,4,5,6,7,8,9,10,11]
theorem c_handsT (mem:List Int) (sh lk bu:Int) (cs:List Cor) (l:List Did) (cl:List Cls) (hw:∀ a b:Nat,insK ((cs.getD a default).code.getD b default)) (hl:∀ a:Nat,0≤(l.getD a default).kind∧(l.getD a default).kind≤255) (hn:(l.length:Int) * 4096≤140737488355328):Ctr Try.prog 15 [IntRow mem,Cor.rowR cs,Did.rowR l,Cls.rowR cl] [.agg [.h 0,.i .i64 sh,.i .i64 lk,.i .i64 bu,.h 1],.c (.h 3),.c (.h 2)]
 (Det (.tup [(false,[.h 4]),(false,[.i .i64 (askE mem sh lk bu cs l cl)])]) [.dead,.dead,.dead,.dead,Hnd.ownR (handsL mem sh lk bu cs l cl)]):=by
 refine Ctr.intro [] Try.func15 K K ?_
 refine RunF.lens 2 (m:=l.length) K (fun hlens_2=>?_)
 refine RunF.lens 3 (m:=cl.length) K (fun hlens_3=>?_)
 refine RunF.call (vc:=[]) (args:=[SV.agg [C.h 0,C.i .i64 sh,C.i .i64 lk,C.i .i64 bu,C.h 1],SV.c (C.h 3),SV.c (C.h 2)]) e_monitor_asked (c_asked (mem:=mem) (sh:=sh) (lk:=lk) (bu:=bu) (cs:=cs) (l:=l) (cl:=cl) (hw:=by first | assumption | omega | exact hw | exact hl | (have h0:=askE_ok (mem:=mem) (sh:=sh) (lk:=lk) (bu:=bu) (cs:=cs) (l:=l) (cl:=cl) V64;exact evE_ok h0.1) | exact evL_ok _ V37 | (have h0:=askE_ok (mem:=mem) (sh:=sh) (lk:=lk) (bu:=bu) (cs:=cs) (l:=l) (cl:=cl) V64;exact blkL_ok _ hk2) | (have h0:=askE_ok (mem:=mem) (sh:=sh) (lk:=lk) (bu:=bu) (cs:=cs) (l:=l) (cl:=cl) V64;have hm:=evE_mem h0.1;have hs:=evE_ok h0.1;simp only [BL] at *;omega)) (hl:=by first | assumption | omega | exact hw | exact hl | (have h0:=askE_ok (mem:=mem) (sh:=sh) (lk:=lk) (bu:=bu) (cs:=cs) (l:=l) (cl:=cl) V64;exact evE_ok h0.1) | exact evL_ok _ V37 | (have h0:=askE_ok (mem:=mem) (sh:=sh) (lk:=lk) (bu:=bu) (cs:=cs) (l:=l) (cl:=cl) V64;exact blkL_ok _ hk2) | (have h0:=askE_ok (mem:=mem) (sh:=sh) (lk:=lk) (bu:=bu) (cs:=cs) (l:=l) (cl:=cl) V64;have hm:=evE_mem h0.1;have hs:=evE_ok h0.1;simp only [BL] at *;omega)) (hn:=by first | assumption | omega | exact hw | exact hl | (have h0:=askE_ok (mem:=mem) (sh:=sh) (lk:=lk) (bu:=bu) (cs:=cs) (l:=l) (cl:=cl) V64;exact evE_ok h0.1) | exact evL_ok _ V37 | (have h0:=askE_ok (mem:=mem) (sh:=sh) (lk:=lk) (bu:=bu) (cs:=cs) (l:=l) (cl:=cl) V64;exact blkL_ok _ hk2) | (have h0:=askE_ok (mem:=mem) (sh:=sh) (lk:=lk) (bu:=bu) (cs:=cs) (l:=l) (cl:=cl) V64;have hm:=evE_mem h0.1;have hs:=evE_ok h0.1;simp only [BL] at *;omega))) [0,1,2,3] (E:=[mem.length=mem.length,z21_15 mem,cs.length=cs.length,z21_16 cs,l.length=l.length,z21_17 l,cl.length=cl.length,z21_18 cl,sh=sh,lk=lk,bu=bu]) K trivial K R K ?_
 refine RunF.chk [20,7,6,4] [.ops [1,0] 4,.code [1,1]] (St.mk 60 [En.mk 20 [] (SV.tup [(false,[C.p 6 0]),(false,[C.i .i64 (askE mem sh lk bu cs l cl)])]),En.mk 7 [] (SV.c (C.i .i64 0)),z21_21,En.mk 4 [] (SV.c (C.p 5 0))] [z21_3 mem,z21_5 cs,z21_7 l,z21_6 cl,Reg.box 25 [C.h 0,C.i .i64 sh,C.i .i64 lk,C.i .i64 bu,C.h 1],Reg.box 40 [C.h 3],z21_23 sh lk bu,z21_24 mem sh lk bu cs l] []) K ?_
 refine RunF.cond (vc:=[]) (x:=!decide (askE mem sh lk bu cs l cl=(0:Int))) K trivial (fun h1=>?_) (fun h1=>?_)
 ·exact RunF.ret (vc:=[]) (v:=SV.tup [(false,[C.v (Value.slice none 0 0)]),(false,[C.i .i64 (askE mem sh lk bu cs l cl)])]) _ _ [0,1,2,3,1000004] (E:=[(handsL mem sh lk bu cs l cl).length=0,askE mem sh lk bu cs l cl=askE mem sh lk bu cs l cl]) K trivial ⟨rfl,rfl⟩ K V59
 ·refine RunF.chk [8,7,6,4] [.code [1,1,0,1,1],.code [1,1,1]] (St.mk 60 [En.mk 8 [] (SV.c (C.p 8 0)),En.mk 7 [] (SV.c (C.i .i64 0)),z21_21,En.mk 4 [] (SV.c (C.p 5 0))] [z21_3 mem,z21_5 cs,z21_7 l,z21_6 cl,Reg.box 25 [C.h 0,C.i .i64 sh,C.i .i64 lk,C.i .i64 bu,C.h 1],Reg.box 40 [C.h 3],z21_23 sh lk bu,z21_24 mem sh lk bu cs l,Reg.box 52 [C.p 6 0]] []) K ?_
  refine RunF.call (vc:=[]) (args:=[SV.c (C.p 6 0)]) e_monitor_looking_blocks (c_blocksF) [6] (E:=[]) K trivial K trivial K ?_
  refine RunF.chk [27,10,8,7,6,4] [.ops [1,1,1,1,0,0] 2,.code [1,1,1,1,0,1],.code [1,1,1,1,1]] (St.mk 60 [En.mk 27 [] (SV.c (C.fn 34 [10])),En.mk 10 [] (SV.c (C.p 9 0)),En.mk 8 [] (SV.c (C.p 8 0)),En.mk 7 [] (SV.c (C.i .i64 0)),z21_21,En.mk 4 [] (SV.c (C.p 5 0))] [z21_3 mem,z21_5 cs,z21_7 l,z21_6 cl,Reg.box 25 [C.h 0,C.i .i64 sh,C.i .i64 lk,C.i .i64 bu,C.h 1],Reg.box 40 [C.h 3],z21_23 sh lk bu,z21_24 mem sh lk bu cs l,Reg.box 52 [C.p 6 0],Reg.box 41 [C.v (Value.slice none 0 0)],Reg.box 52 [C.p 6 0]] []) K ?_
  refine RunF.range (I:=R15_I mem sh lk bu cs l cl) (J:=R15_J mem sh lk bu cs l cl) (Jx:=R15_Jx) (n:=R15_n mem sh lk bu cs l cl) (nf:=10) (fi:=34) (enc:=R15_enc mem sh lk bu cs l cl) (stA:=R15_A mem sh lk bu cs l cl) (preI:=R15_P mem sh lk bu cs l cl) (argsI:=R15_Q) (caps:=[9]) ([]) (St.mk 60 [En.mk 27 [] (SV.c (C.fn 34 [9])),En.mk 10 [] (SV.c (C.p 8 0)),En.mk 8 [] (SV.c (C.p 7 0)),En.mk 7 [] (SV.c (C.i .i64 0)),z21_21,En.mk 4 [] (SV.c (C.p 6 0))] [z21_3 mem,z21_5 cs,z21_7 l,z21_6 cl,z21_8 sh lk bu,z21_4 mem sh lk bu cs l,Reg.box 40 [C.h 3],z21_9,Reg.box 41 [C.h 10],Reg.ro [C.p 4 0],Reg.own 50 5 0 (fun i=>(([]:List Hnd).getD i default).tc) none] []) [0,1,2,3,6,7,5,8,9,10,1000010] [0,1,2,5,4,9] (vc:=[]) (E:=[mem.length=mem.length,∀ (i:Nat),i<mem.length→i64T (mem.getD i (0:Int))=i64T (mem.getD i (0:Int)),cs.length=cs.length,∀ (i:Nat),i<cs.length→(cs.getD i default).tc=(cs.getD i default).tc,l.length=l.length,∀ (i:Nat),i<l.length→(l.getD i default).tc=(l.getD i default).tc,cl.length=cl.length,∀ (i:Nat),i<cl.length→(cl.getD i default).tc=(cl.getD i default).tc,sh=sh,lk=lk,bu=bu,z21_19 mem sh lk bu cs l,∀ (i:Nat),i<(evL mem sh lk bu cs l).length→((evL mem sh lk bu cs l).getD i default).tc=((evL mem sh lk bu cs l).getD i default).tc,0=0,(0:Int)=(0:Int),Value.slice none 0 0=Value.slice none 0 0]) (E2:=[mem.length=mem.length,z21_15 mem,cs.length=cs.length,z21_16 cs,l.length=l.length,z21_17 l,z21_19 mem sh lk bu cs l,z21_14 mem sh lk bu cs l,sh=sh,lk=lk,bu=bu]) K trivial K R K e_monitor_looking_blocks_1 K K K K K rfl K R K K (fun k=>by kernel_rfl) (fun Xe hn he hy=>c_blocks_it mem sh lk bu cs l (evL mem sh lk bu cs l) (evE_ok (mem:=mem) (bu:=bu) (cs:=cs) (l:=l) (askE_ok (cl:=cl) V64).1) evL_ok Xe hn he hy) ?_ (fun _ _=>by kernel_rfl) ?_ ?_ (fun _ _ h=>h.elim)
  ·intro k2 x2 hk2 hJ2
   exact RunF.to (I:=fun x=>R15_A mem sh lk bu cs l cl k2 x2) (J:=fun x=>True) (vc:=[]) () z21_25 (E:=[mem.length=mem.length,z21_15 mem,cs.length=cs.length,z21_16 cs,l.length=l.length,z21_17 l,cl.length=cl.length,z21_18 cl,sh=sh,lk=lk,bu=bu,z21_19 mem sh lk bu cs l,z21_14 mem sh lk bu cs l,x2.length=x2.length,∀ (i:Nat),i<x2.length→(x2.getD i default).tc=(x2.getD i default).tc,(z21_13 mem sh lk bu cs l k2).lock=(z21_13 mem sh lk bu cs l k2).lock,(z21_13 mem sh lk bu cs l k2).core=(z21_13 mem sh lk bu cs l k2).core,(z21_13 mem sh lk bu cs l k2).from_=(z21_13 mem sh lk bu cs l k2).from_,(z21_13 mem sh lk bu cs l k2).left=(z21_13 mem sh lk bu cs l k2).left,(z21_13 mem sh lk bu cs l k2).to=(z21_13 mem sh lk bu cs l k2).to]) K trivial K R trivial
  ·rintro k2 x2_0 hk2 hJ2
   dsimp only [R15_J] at hJ2
   refine RunF.chk [11,10,8,4] [.code [1,1,1,1,0,1,0,1],.jmp (fun b a w=>RegsAt (R15_I mem sh lk bu cs l cl) (R15_J mem sh lk bu cs l cl (k2+1)) b w)] (St.mk 60 z21_22 [z21_3 mem,z21_5 cs,z21_7 l,z21_6 cl,z21_8 sh lk bu,z21_4 mem sh lk bu cs l,Reg.box 40 [C.h 3],z21_9,Reg.box 41 [C.h 10],Reg.ro [C.p 4 0],Reg.own 50 5 x2_0.length (fun i=>(x2_0.getD i default).tc) none,Reg.box 48 (z21_1 mem sh lk bu cs l k2)] [1000000007]) K ?_
   refine RunF.loop (vc:=[]) (L15_0_I mem sh lk bu cs l cl k2 x2_0) (L15_0_J mem sh lk bu cs l cl k2 x2_0) (L15_0_m mem sh lk bu cs l cl k2 x2_0) (((0:Int),x2_0)) z21_25 (E:=[mem.length=mem.length,z21_15 mem,cs.length=cs.length,z21_16 cs,l.length=l.length,z21_17 l,cl.length=cl.length,z21_18 cl,sh=sh,lk=lk,bu=bu,z21_19 mem sh lk bu cs l,z21_14 mem sh lk bu cs l,x2_0.length=x2_0.length,∀ (i:Nat),i<x2_0.length→(x2_0.getD i default).tc=(x2_0.getD i default).tc,(z21_13 mem sh lk bu cs l k2).lock=(z21_13 mem sh lk bu cs l k2).lock,(z21_13 mem sh lk bu cs l k2).core=(z21_13 mem sh lk bu cs l k2).core,(z21_13 mem sh lk bu cs l k2).from_=(z21_13 mem sh lk bu cs l k2).from_,(z21_13 mem sh lk bu cs l k2).left=(z21_13 mem sh lk bu cs l k2).left,(z21_13 mem sh lk bu cs l k2).to=(z21_13 mem sh lk bu cs l k2).to,(0:Int)=(0:Int),(↑cl.length:Int)=(↑cl.length:Int)]) K trivial K R ⟨Int.le_refl _,by grind,by simp [handsOne]⟩ ?_
   rintro ⟨x3_0,x3_1⟩ hJ3
   dsimp only [L15_0_J] at hJ3
   refine RunF.chk [31,30,29,11,10,8] [.code [1,1,1,1,0,1,0,1,0,1,0,0],.jmp (z21_12 mem sh lk bu cs l cl k2 x2_0 x3_0 x3_1),.blk 2,.blk 1,.jmp (fun b a w=>RegsAt (R15_I mem sh lk bu cs l cl) (R15_J mem sh lk bu cs l cl (k2+1)) b w)] (St.mk 60 (z21_11 x3_0 cl) [z21_3 mem,z21_5 cs,z21_7 l,z21_6 cl,z21_8 sh lk bu,z21_4 mem sh lk bu cs l,Reg.box 40 [C.h 3],z21_9,Reg.box 41 [C.h 10],Reg.ro [C.p 4 0],z21_10 x3_1,Reg.box 48 (z21_1 mem sh lk bu cs l k2)] [1000000007]) K ?_
   refine RunF.cond (vc:=[]) (x:=decide (x3_0<(↑cl.length:Int))) K trivial (fun h4=>?_) (fun h4=>?_)
   ·refine RunF.chk [31,30,29,11,10,8] [.code [1,1,0,1,1],.code [1,1,1,1,0,1,0,1,0,1,0,0,1,1],.jmp (z21_12 mem sh lk bu cs l cl k2 x2_0 x3_0 x3_1),.blk 2,.blk 1,.jmp (fun b a w=>RegsAt (R15_I mem sh lk bu cs l cl) (R15_J mem sh lk bu cs l cl (k2+1)) b w)] (St.mk 60 (z21_11 x3_0 cl) [z21_3 mem,z21_5 cs,z21_7 l,z21_6 cl,z21_8 sh lk bu,z21_4 mem sh lk bu cs l,Reg.box 40 [C.h 3],z21_9,Reg.box 41 [C.h 10],Reg.ro [C.p 4 0],z21_10 x3_1,Reg.box 48 (z21_1 mem sh lk bu cs l k2)] [1000000007]) K ?_
    refine RunF.cond (vc:=[(0:Int)≤x3_0,x3_0<(↑cl.length:Int),x3_0.toNat<cl.length]) (x:=!decide ((cl.getD x3_0.toNat default).kind=(2:Int))||!decide ((cl.getD x3_0.toNat default).lock=((blkL mem sh lk bu cs l).getD k2 default).lock)) K V5 (fun h5=>?_) (fun h5=>?_)
    ·exact RunF.next (I:=L15_0_I mem sh lk bu cs l cl k2 x2_0) (J:=L15_0_J mem sh lk bu cs l cl k2 x2_0) (m:=L15_0_m mem sh lk bu cs l cl k2 x2_0) (x:=(x3_0,x3_1)) (vc:=[Fits IntKind.i64 (x3_0+(1:Int))]) ((x3_0+(1:Int),x3_1)) z21_25 (E:=(z21_2 mem cs l cl sh lk bu x3_1 k2 x3_0)) K V5 K R V66 V31
    ·refine RunF.chk [12,31,30,29,11,10,8] [.code [1,1,0,1,1],.code [1,1,1,1,0,1,0,1,0,1,0,0,1,1,0,0,1,1],.blk 3,.code [1,1,1,1,0,1,0,1,0,1,0,0,1,1,1],.jmp (z21_12 mem sh lk bu cs l cl k2 x2_0 x3_0 x3_1),.blk 2,.blk 1,.jmp (fun b a w=>RegsAt (R15_I mem sh lk bu cs l cl) (R15_J mem sh lk bu cs l cl (k2+1)) b w)] (St.mk 60 [En.mk 12 [] (SV.c (C.i .i64 x3_0)),En.mk 31 [] (SV.c (C.i .i64 x3_0)),En.mk 30 [] (SV.c (C.i .i64 (↑cl.length:Int))),En.mk 29 [] (SV.c (C.h 3)),En.mk 11 [] (SV.c (C.p 11 0)),En.mk 10 [] (SV.c (C.p 8 0)),En.mk 8 [] (SV.c (C.p 7 0))] (z21_20 mem cs l cl sh lk bu x3_1 k2 x3_0) [1000000007]) K ?_
     refine RunF.call (vc:=[]) (args:=[SV.c (C.p 4 0),SV.agg (z21_1 mem sh lk bu cs l k2),SV.c (C.i .i64 x3_0)]) e_monitor_looking_hand (c_hand (mem:=mem) (sh:=sh) (lk:=lk) (bu:=bu) (cs:=cs) (l:=l) (evs:=evL mem sh lk bu cs l) (b:=(blkL mem sh lk bu cs l).getD k2 default) (thing:=x3_0) (ht:=by first | assumption | omega | exact hw | exact hl | (have h0:=askE_ok (mem:=mem) (sh:=sh) (lk:=lk) (bu:=bu) (cs:=cs) (l:=l) (cl:=cl) V64;exact evE_ok h0.1) | exact evL_ok _ V37 | (have h0:=askE_ok (mem:=mem) (sh:=sh) (lk:=lk) (bu:=bu) (cs:=cs) (l:=l) (cl:=cl) V64;exact blkL_ok _ hk2) | (have h0:=askE_ok (mem:=mem) (sh:=sh) (lk:=lk) (bu:=bu) (cs:=cs) (l:=l) (cl:=cl) V64;have hm:=evE_mem h0.1;have hs:=evE_ok h0.1;simp only [BL] at *;omega)) (hb:=by first | assumption | omega | exact hw | exact hl | (have h0:=askE_ok (mem:=mem) (sh:=sh) (lk:=lk) (bu:=bu) (cs:=cs) (l:=l) (cl:=cl) V64;exact evE_ok h0.1) | exact evL_ok _ V37 | (have h0:=askE_ok (mem:=mem) (sh:=sh) (lk:=lk) (bu:=bu) (cs:=cs) (l:=l) (cl:=cl) V64;exact blkL_ok _ hk2) | (have h0:=askE_ok (mem:=mem) (sh:=sh) (lk:=lk) (bu:=bu) (cs:=cs) (l:=l) (cl:=cl) V64;have hm:=evE_mem h0.1;have hs:=evE_ok h0.1;simp only [BL] at *;omega))) [0,1,2,5,4] (E:=[mem.length=mem.length,z21_15 mem,cs.length=cs.length,z21_16 cs,l.length=l.length,z21_17 l,z21_19 mem sh lk bu cs l,z21_14 mem sh lk bu cs l,sh=sh,lk=lk,bu=bu,(z21_13 mem sh lk bu cs l k2).lock=(z21_13 mem sh lk bu cs l k2).lock,(z21_13 mem sh lk bu cs l k2).core=(z21_13 mem sh lk bu cs l k2).core,(z21_13 mem sh lk bu cs l k2).from_=(z21_13 mem sh lk bu cs l k2).from_,(z21_13 mem sh lk bu cs l k2).left=(z21_13 mem sh lk bu cs l k2).left,(z21_13 mem sh lk bu cs l k2).to=(z21_13 mem sh lk bu cs l k2).to,x3_0=x3_0]) K trivial K R K ?_
     refine RunF.chk [50,31,30,29,11,10,8] [.ops [1,1,1,1,0,1,0,1,0,1,0,0,1,1,0,0,1,1,0] 4,.code [1,1,1,1,0,1,0,1,0,1,0,0,1,1,0,0,1,1,1],.blk 3,.code [1,1,1,1,0,1,0,1,0,1,0,0,1,1,1],.jmp (z21_12 mem sh lk bu cs l cl k2 x2_0 x3_0 x3_1),.blk 2,.blk 1,.jmp (fun b a w=>RegsAt (R15_I mem sh lk bu cs l cl) (R15_J mem sh lk bu cs l cl (k2+1)) b w)] (St.mk 60 [En.mk 50 [] (SV.tup [(true,[C.i .i64 (handH mem l (z21_13 mem sh lk bu cs l k2) x3_0).thing,C.i .i64 (handH mem l (z21_13 mem sh lk bu cs l k2) x3_0).core,C.i .i64 (handH mem l (z21_13 mem sh lk bu cs l k2) x3_0).pos,C.i .i64 (handH mem l (z21_13 mem sh lk bu cs l k2) x3_0).read,C.i .i64 (handH mem l (z21_13 mem sh lk bu cs l k2) x3_0).last]),(false,[C.b (handB l (z21_13 mem sh lk bu cs l k2) x3_0)])]),En.mk 31 [] (SV.c (C.i .i64 x3_0)),En.mk 30 [] (SV.c (C.i .i64 (↑cl.length:Int))),En.mk 29 [] (SV.c (C.h 3)),En.mk 11 [] (SV.c (C.p 11 0)),En.mk 10 [] (SV.c (C.p 8 0)),En.mk 8 [] (SV.c (C.p 7 0))] (z21_20 mem cs l cl sh lk bu x3_1 k2 x3_0) [1000000007]) K ?_
     refine RunF.cond (vc:=[]) (x:=handB l ((blkL mem sh lk bu cs l).getD k2 default) x3_0) K trivial (fun h6=>?_) (fun h6=>?_)
     ·exact RunF.next (I:=L15_0_I mem sh lk bu cs l cl k2 x2_0) (J:=L15_0_J mem sh lk bu cs l cl k2 x2_0) (m:=L15_0_m mem sh lk bu cs l cl k2 x2_0) (x:=(x3_0,x3_1)) (vc:=[x3_1.length+1≤maxLen,(x3_1.length+1) * 40≤140737488355328,Fits IntKind.i64 (x3_0+(1:Int))]) ((x3_0+(1:Int),x3_1++[Hnd.mk (handH mem l (z21_13 mem sh lk bu cs l k2) x3_0).thing (handH mem l (z21_13 mem sh lk bu cs l k2) x3_0).core (handH mem l (z21_13 mem sh lk bu cs l k2) x3_0).pos (handH mem l (z21_13 mem sh lk bu cs l k2) x3_0).read (handH mem l (z21_13 mem sh lk bu cs l k2) x3_0).last])) [0,1,2,3,4,5,6,7,8,9,15,11] (E:=[mem.length=mem.length,∀ (i:Nat),i<mem.length→i64T (mem.getD i (0:Int))=i64T (mem.getD i (0:Int)),cs.length=cs.length,∀ (i:Nat),i<cs.length→(cs.getD i default).tc=(cs.getD i default).tc,l.length=l.length,∀ (i:Nat),i<l.length→(l.getD i default).tc=(l.getD i default).tc,cl.length=cl.length,∀ (i:Nat),i<cl.length→(cl.getD i default).tc=(cl.getD i default).tc,sh=sh,lk=lk,bu=bu,z21_19 mem sh lk bu cs l,∀ (i:Nat),i<(evL mem sh lk bu cs l).length→((evL mem sh lk bu cs l).getD i default).tc=((evL mem sh lk bu cs l).getD i default).tc,(x3_1++[Hnd.mk (handH mem l ((blkL mem sh lk bu cs l).getD k2 default) x3_0).thing (handH mem l ((blkL mem sh lk bu cs l).getD k2 default) x3_0).core (handH mem l ((blkL mem sh lk bu cs l).getD k2 default) x3_0).pos (handH mem l ((blkL mem sh lk bu cs l).getD k2 default) x3_0).read (handH mem l ((blkL mem sh lk bu cs l).getD k2 default) x3_0).last]).length=x3_1.length+1,∀ (i:Nat),i<(x3_1++[Hnd.mk (handH mem l ((blkL mem sh lk bu cs l).getD k2 default) x3_0).thing (handH mem l ((blkL mem sh lk bu cs l).getD k2 default) x3_0).core (handH mem l ((blkL mem sh lk bu cs l).getD k2 default) x3_0).pos (handH mem l ((blkL mem sh lk bu cs l).getD k2 default) x3_0).read (handH mem l ((blkL mem sh lk bu cs l).getD k2 default) x3_0).last]).length→i≠x3_1.length→((x3_1++[Hnd.mk (handH mem l ((blkL mem sh lk bu cs l).getD k2 default) x3_0).thing (handH mem l ((blkL mem sh lk bu cs l).getD k2 default) x3_0).core (handH mem l ((blkL mem sh lk bu cs l).getD k2 default) x3_0).pos (handH mem l ((blkL mem sh lk bu cs l).getD k2 default) x3_0).read (handH mem l ((blkL mem sh lk bu cs l).getD k2 default) x3_0).last]).getD i default).tc=(x3_1.getD i default).tc,((x3_1++[Hnd.mk (handH mem l ((blkL mem sh lk bu cs l).getD k2 default) x3_0).thing (handH mem l ((blkL mem sh lk bu cs l).getD k2 default) x3_0).core (handH mem l ((blkL mem sh lk bu cs l).getD k2 default) x3_0).pos (handH mem l ((blkL mem sh lk bu cs l).getD k2 default) x3_0).read (handH mem l ((blkL mem sh lk bu cs l).getD k2 default) x3_0).last]).getD x3_1.length default).tc 0=TC.val (Value.int IntKind.i64 (handH mem l ((blkL mem sh lk bu cs l).getD k2 default) x3_0).thing),((x3_1++[Hnd.mk (handH mem l ((blkL mem sh lk bu cs l).getD k2 default) x3_0).thing (handH mem l ((blkL mem sh lk bu cs l).getD k2 default) x3_0).core (handH mem l ((blkL mem sh lk bu cs l).getD k2 default) x3_0).pos (handH mem l ((blkL mem sh lk bu cs l).getD k2 default) x3_0).read (handH mem l ((blkL mem sh lk bu cs l).getD k2 default) x3_0).last]).getD x3_1.length default).tc 1=TC.val (Value.int IntKind.i64 (handH mem l ((blkL mem sh lk bu cs l).getD k2 default) x3_0).core),((x3_1++[Hnd.mk (handH mem l ((blkL mem sh lk bu cs l).getD k2 default) x3_0).thing (handH mem l ((blkL mem sh lk bu cs l).getD k2 default) x3_0).core (handH mem l ((blkL mem sh lk bu cs l).getD k2 default) x3_0).pos (handH mem l ((blkL mem sh lk bu cs l).getD k2 default) x3_0).read (handH mem l ((blkL mem sh lk bu cs l).getD k2 default) x3_0).last]).getD x3_1.length default).tc 2=TC.val (Value.int IntKind.i64 (handH mem l ((blkL mem sh lk bu cs l).getD k2 default) x3_0).pos),((x3_1++[Hnd.mk (handH mem l ((blkL mem sh lk bu cs l).getD k2 default) x3_0).thing (handH mem l ((blkL mem sh lk bu cs l).getD k2 default) x3_0).core (handH mem l ((blkL mem sh lk bu cs l).getD k2 default) x3_0).pos (handH mem l ((blkL mem sh lk bu cs l).getD k2 default) x3_0).read (handH mem l ((blkL mem sh lk bu cs l).getD k2 default) x3_0).last]).getD x3_1.length default).tc 3=TC.val (Value.int IntKind.i64 (handH mem l ((blkL mem sh lk bu cs l).getD k2 default) x3_0).read),((x3_1++[Hnd.mk (handH mem l ((blkL mem sh lk bu cs l).getD k2 default) x3_0).thing (handH mem l ((blkL mem sh lk bu cs l).getD k2 default) x3_0).core (handH mem l ((blkL mem sh lk bu cs l).getD k2 default) x3_0).pos (handH mem l ((blkL mem sh lk bu cs l).getD k2 default) x3_0).read (handH mem l ((blkL mem sh lk bu cs l).getD k2 default) x3_0).last]).getD x3_1.length default).tc 4=TC.val (Value.int IntKind.i64 (handH mem l ((blkL mem sh lk bu cs l).getD k2 default) x3_0).last),((blkL mem sh lk bu cs l).getD k2 default).lock=((blkL mem sh lk bu cs l).getD k2 default).lock,((blkL mem sh lk bu cs l).getD k2 default).core=((blkL mem sh lk bu cs l).getD k2 default).core,((blkL mem sh lk bu cs l).getD k2 default).from_=((blkL mem sh lk bu cs l).getD k2 default).from_,((blkL mem sh lk bu cs l).getD k2 default).left=((blkL mem sh lk bu cs l).getD k2 default).left,((blkL mem sh lk bu cs l).getD k2 default).to=((blkL mem sh lk bu cs l).getD k2 default).to,x3_0+(1:Int)=x3_0+(1:Int),(↑cl.length:Int)=(↑cl.length:Int)]) K V5 K V19 V66 V31
     ·exact RunF.next (I:=L15_0_I mem sh lk bu cs l cl k2 x2_0) (J:=L15_0_J mem sh lk bu cs l cl k2 x2_0) (m:=L15_0_m mem sh lk bu cs l cl k2 x2_0) (x:=(x3_0,x3_1)) (vc:=[Fits IntKind.i64 (x3_0+(1:Int))]) ((x3_0+(1:Int),x3_1)) z21_25 (E:=(z21_2 mem cs l cl sh lk bu x3_1 k2 x3_0)) K V5 K R V66 V31
   ·exact RunF.endRound (I:=R15_I mem sh lk bu cs l cl) (J:=R15_J mem sh lk bu cs l cl (k2+1)) (vc:=[]) (x3_1) [0,1,2,3,4,5,6,7,8,9,10] (E:=[mem.length=mem.length,z21_15 mem,cs.length=cs.length,z21_16 cs,l.length=l.length,z21_17 l,cl.length=cl.length,z21_18 cl,sh=sh,lk=lk,bu=bu,z21_19 mem sh lk bu cs l,z21_14 mem sh lk bu cs l,x3_1.length=x3_1.length,∀ (i:Nat),i<x3_1.length→(x3_1.getD i default).tc=(x3_1.getD i default).tc]) K trivial K R (by dsimp only [R15_J] at *;rw [handsUp,← hJ2,hJ3.2.2,show x3_0.toNat=cl.length by (simp only [BL] at *;omega)])
  ·rintro x2_0 hJ2
   dsimp only [R15_J] at hJ2
   exact RunF.ret (vc:=[]) (v:=SV.tup [(false,[C.h 10]),(false,[C.i .i64 0])]) _ _ [0,1,2,3,10] (E:=[(handsL mem sh lk bu cs l cl).length=x2_0.length,∀ (i:Nat),i<(handsL mem sh lk bu cs l cl).length→((handsL mem sh lk bu cs l cl).getD i default).tc=(x2_0.getD i default).tc,askE mem sh lk bu cs l cl=(0:Int)]) K trivial ⟨rfl,rfl⟩ K V59
end Go.Proofs.Ytlblobbklioofaa
end
namespace Go.Proofs.Ytlblobbklioofaa
open Go Go.Tx
def sameP {α:Type} [Inhabited α] [DecidableEq α] (a b:List α) (i:Int):Bool:=decide (a.getD i.toNat default=b.getD i.toNat default)
theorem same_all {α:Type} [Inhabited α] [DecidableEq α] {a b:List α} (h:a.length=b.length):allFrom (sameP a b) 0 a.length=decide (a=b):=by
 by_cases hab:a=b
 ·subst hab
  rw [decide_eq_true rfl]
  unfold allFrom sameP
  simp
 ·rw [decide_eq_false hab,Bool.eq_false_iff]
  intro hall
  apply hab
  apply List.ext_getElem h
  intro i h1 h2
  have:=allFrom_at (p:=sameP a b) (n:=a.length) (k:=(i:Int)) _ 0 rfl hall (by omega) (by omega)
  unfold sameP at this
  simp only [Int.toNat_natCast,decide_eq_true_eq,List.getD_eq_getElem?_getD,List.getElem?_eq_getElem h1,List.getElem?_eq_getElem h2,Option.getD_some] at this
  exact this
theorem Hnd.eq_iff (x y:Hnd):(x=y)↔(x.thing=y.thing∧x.core=y.core∧x.pos=y.pos∧x.read=y.read∧x.last=y.last):=by
 cases x;cases y;simp
theorem Blk.eq_iff (x y:Blk):(x=y)↔(x.lock=y.lock∧x.core=y.core∧x.from_=y.from_∧x.left=y.left∧x.to=y.to):=by
 cases x;cases y;simp
end Go.Proofs.Ytlblobbklioofaa
noncomputable section
namespace Go.Proofs.Ytlblobbklioofaa
open Go Go.Tx
abbrev z22_1 (a:List Hnd) (b:List Hnd):=[Reg.row 5 a.length (fun i=>(a.getD i default).tc) none,Reg.row 5 b.length (fun i=>(b.getD i default).tc) none]
def L19_0_I (a:List Hnd) (b:List Hnd):Int×Bool→St:=fun x=>{ N:=26,fr:=[{ slot:=13,g:=[],sv:=SV.c (C.i .i64 x.1) },{ slot:=12,g:=[],sv:=SV.c (C.i .i64 (↑a.length:Int)) },{ slot:=4,g:=[],sv:=SV.c (C.b x.2) },{ slot:=0,g:=[],sv:=SV.c (C.h 0) },{ slot:=1,g:=[],sv:=SV.c (C.h 1) }],rg:=(z22_1 a b),wr:=[] }
def L19_0_J (a:List Hnd) (b:List Hnd):Int×Bool→Prop:=fun x=>0≤x.1∧x.1≤(a.length:Int)∧a.length=b.length∧decide (a=b)=allFrom (sameP a b) x.1 a.length
def L19_0_m (a:List Hnd) (b:List Hnd):Int×Bool→Nat:=fun x=>((a.length:Int)-x.1).toNat
abbrev z22_4:=[En.mk 4 [] (SV.c (C.t false)),En.mk 0 [] (SV.c (C.h 0)),En.mk 1 [] (SV.c (C.h 1))]
abbrev z22_5 (x2_0:Int) (a:List Hnd) (x2_1:Bool):=[En.mk 13 [] (SV.c (C.i .i64 x2_0)),En.mk 12 [] (SV.c (C.i .i64 (↑a.length:Int))),En.mk 4 [] (SV.c (C.b x2_1)),En.mk 0 [] (SV.c (C.h 0)),En.mk 1 [] (SV.c (C.h 1))]
theorem c_sameHands (a b:List Hnd):Ctr Try.prog 19 [Hnd.rowR a,Hnd.rowR b] [.c (.h 0),.c (.h 1)]
 (Det (.c (.b (decide (a=b)))) [.dead,.dead]):=by
 refine Ctr.intro [] Try.func19 K K ?_
 refine RunF.lens 0 (m:=a.length) K (fun hlens_0=>?_)
 refine RunF.cond (vc:=[]) (x:=!decide ((↑a.length:Int)=(↑b.length:Int))) K trivial (fun h1=>?_) (fun h1=>?_)
 ·exact RunF.ret (vc:=[]) (v:=SV.c (C.t false)) _ _ [0,1] (E:=[decide (a=b)=false]) K trivial ⟨rfl,rfl⟩ K V24
 ·refine RunF.chk [4,0,1] [.code [1,0,1,1],.code [1,1]] (St.mk 26 z22_4 (z22_1 a b) []) K ?_
  refine RunF.loop (vc:=[]) (L19_0_I a b) (L19_0_J a b) (L19_0_m a b) (((0:Int),false)) [0,1] (E:=[a.length=a.length,∀ (i:Nat),i<a.length→(a.getD i default).tc=(a.getD i default).tc,b.length=b.length,∀ (i:Nat),i<b.length→(b.getD i default).tc=(b.getD i default).tc,(0:Int)=(0:Int),(↑a.length:Int)=(↑a.length:Int),false=false]) K trivial K R (by dsimp only [L19_0_J];have hl:a.length=b.length:=(by simp only [BL] at *;omega);exact ⟨Int.le_refl _,by omega,hl,(same_all hl).symm⟩) ?_
  rintro ⟨x2_0,x2_1⟩ hJ2
  dsimp only [L19_0_J] at hJ2
  refine RunF.chk [13,12,4,0,1] [.code [1,1,0,1,0,0],.jmp (Tx.Next (L19_0_I a b) (L19_0_J a b) (L19_0_m a b) (x2_0,x2_1)),.blk 0,.code [1,1,1]] (St.mk 26 (z22_5 x2_0 a x2_1) (z22_1 a b) []) K ?_
  refine RunF.cond (vc:=[]) (x:=decide (x2_0<(↑a.length:Int))) K trivial (fun h3=>?_) (fun h3=>?_)
  ·refine RunF.chk [13,12,4,0,1] [.code [1,0,1,1],.code [1,1,0,1,0,0,1,1],.jmp (Tx.Next (L19_0_I a b) (L19_0_J a b) (L19_0_m a b) (x2_0,x2_1)),.blk 0,.code [1,1,1]] (St.mk 26 (z22_5 x2_0 a x2_1) (z22_1 a b) []) K ?_
   refine RunF.cond (vc:=[(0:Int)≤x2_0,x2_0<(↑a.length:Int),x2_0.toNat<a.length,(0:Int)≤x2_0,x2_0<(↑b.length:Int),x2_0.toNat<b.length]) (x:=!(decide ((a.getD x2_0.toNat default).thing=(b.getD x2_0.toNat default).thing)&&(decide ((a.getD x2_0.toNat default).core=(b.getD x2_0.toNat default).core)&&(decide ((a.getD x2_0.toNat default).pos=(b.getD x2_0.toNat default).pos)&&(decide ((a.getD x2_0.toNat default).read=(b.getD x2_0.toNat default).read)&&(decide ((a.getD x2_0.toNat default).last=(b.getD x2_0.toNat default).last)&&true)))))) K V0 (fun h4=>?_) (fun h4=>?_)
   ·exact RunF.ret (vc:=[]) (v:=SV.c (C.t false)) _ _ [0,1] (E:=[decide (a=b)=false]) K trivial ⟨rfl,rfl⟩ K V24
   ·exact RunF.next (I:=L19_0_I a b) (J:=L19_0_J a b) (m:=L19_0_m a b) (x:=(x2_0,x2_1)) (vc:=[Fits IntKind.i64 (x2_0+(1:Int))]) ((x2_0+(1:Int),x2_1)) [0,1] (E:=[a.length=a.length,∀ (i:Nat),i<a.length→(a.getD i default).tc=(a.getD i default).tc,b.length=b.length,∀ (i:Nat),i<b.length→(b.getD i default).tc=(b.getD i default).tc,x2_0+(1:Int)=x2_0+(1:Int),(↑a.length:Int)=(↑a.length:Int),x2_1=x2_1]) K V0 K R (by dsimp only [L19_0_m];(try simp only [decide_eq_true_eq] at *);omega) (by dsimp only [L19_0_J];have hq:=Hnd.eq_iff (a.getD x2_0.toNat default) (b.getD x2_0.toNat default);have hq0:=allFrom_next (sameP a b) (i:=x2_0) (n:=a.length);have hq1:=allFrom_stop (sameP a b) (i:=x2_0) (n:=a.length);have hq2:=allFrom_end (sameP a b) (i:=x2_0) (n:=a.length);simp only [sameP,BL] at *;grind)
  ·exact RunF.ret (vc:=[]) (v:=SV.c (C.t true)) _ _ [0,1] (E:=[decide (a=b)=true]) K trivial ⟨rfl,rfl⟩ K V24
abbrev z22_2 (a:List Blk) (b:List Blk):=[Reg.row 5 a.length (fun i=>(a.getD i default).tc) none,Reg.row 5 b.length (fun i=>(b.getD i default).tc) none]
def L13_0_I (a:List Blk) (b:List Blk):Int×Bool→St:=fun x=>{ N:=26,fr:=[{ slot:=13,g:=[],sv:=SV.c (C.i .i64 x.1) },{ slot:=12,g:=[],sv:=SV.c (C.i .i64 (↑a.length:Int)) },{ slot:=4,g:=[],sv:=SV.c (C.b x.2) },{ slot:=0,g:=[],sv:=SV.c (C.h 0) },{ slot:=1,g:=[],sv:=SV.c (C.h 1) }],rg:=(z22_2 a b),wr:=[] }
def L13_0_J (a:List Blk) (b:List Blk):Int×Bool→Prop:=fun x=>0≤x.1∧x.1≤(a.length:Int)∧a.length=b.length∧decide (a=b)=allFrom (sameP a b) x.1 a.length
def L13_0_m (a:List Blk) (b:List Blk):Int×Bool→Nat:=fun x=>((a.length:Int)-x.1).toNat
abbrev z22_6 (x2_0:Int) (a:List Blk) (x2_1:Bool):=[En.mk 13 [] (SV.c (C.i .i64 x2_0)),En.mk 12 [] (SV.c (C.i .i64 (↑a.length:Int))),En.mk 4 [] (SV.c (C.b x2_1)),En.mk 0 [] (SV.c (C.h 0)),En.mk 1 [] (SV.c (C.h 1))]
theorem c_sameBlocks (a b:List Blk):Ctr Try.prog 13 [Blk.rowR a,Blk.rowR b] [.c (.h 0),.c (.h 1)]
 (Det (.c (.b (decide (a=b)))) [.dead,.dead]):=by
 refine Ctr.intro [] Try.func13 K K ?_
 refine RunF.lens 0 (m:=a.length) K (fun hlens_0=>?_)
 refine RunF.cond (vc:=[]) (x:=!decide ((↑a.length:Int)=(↑b.length:Int))) K trivial (fun h1=>?_) (fun h1=>?_)
 ·exact RunF.ret (vc:=[]) (v:=SV.c (C.t false)) _ _ [0,1] (E:=[decide (a=b)=false]) K trivial ⟨rfl,rfl⟩ K V25
 ·refine RunF.chk [4,0,1] [.code [1,0,1,1],.code [1,1]] (St.mk 26 z22_4 (z22_2 a b) []) K ?_
  refine RunF.loop (vc:=[]) (L13_0_I a b) (L13_0_J a b) (L13_0_m a b) (((0:Int),false)) [0,1] (E:=[a.length=a.length,∀ (i:Nat),i<a.length→(a.getD i default).tc=(a.getD i default).tc,b.length=b.length,∀ (i:Nat),i<b.length→(b.getD i default).tc=(b.getD i default).tc,(0:Int)=(0:Int),(↑a.length:Int)=(↑a.length:Int),false=false]) K trivial K R (by dsimp only [L13_0_J];have hl:a.length=b.length:=(by simp only [BL] at *;omega);exact ⟨Int.le_refl _,by omega,hl,(same_all hl).symm⟩) ?_
  rintro ⟨x2_0,x2_1⟩ hJ2
  dsimp only [L13_0_J] at hJ2
  refine RunF.chk [13,12,4,0,1] [.code [1,1,0,1,0,0],.jmp (Tx.Next (L13_0_I a b) (L13_0_J a b) (L13_0_m a b) (x2_0,x2_1)),.blk 0,.code [1,1,1]] (St.mk 26 (z22_6 x2_0 a x2_1) (z22_2 a b) []) K ?_
  refine RunF.cond (vc:=[]) (x:=decide (x2_0<(↑a.length:Int))) K trivial (fun h3=>?_) (fun h3=>?_)
  ·refine RunF.chk [13,12,4,0,1] [.code [1,0,1,1],.code [1,1,0,1,0,0,1,1],.jmp (Tx.Next (L13_0_I a b) (L13_0_J a b) (L13_0_m a b) (x2_0,x2_1)),.blk 0,.code [1,1,1]] (St.mk 26 (z22_6 x2_0 a x2_1) (z22_2 a b) []) K ?_
   refine RunF.cond (vc:=[(0:Int)≤x2_0,x2_0<(↑a.length:Int),x2_0.toNat<a.length,(0:Int)≤x2_0,x2_0<(↑b.length:Int),x2_0.toNat<b.length]) (x:=!(decide ((a.getD x2_0.toNat default).lock=(b.getD x2_0.toNat default).lock)&&(decide ((a.getD x2_0.toNat default).core=(b.getD x2_0.toNat default).core)&&(decide ((a.getD x2_0.toNat default).from_=(b.getD x2_0.toNat default).from_)&&(decide ((a.getD x2_0.toNat default).left=(b.getD x2_0.toNat default).left)&&(decide ((a.getD x2_0.toNat default).to=(b.getD x2_0.toNat default).to)&&true)))))) K V0 (fun h4=>?_) (fun h4=>?_)
   ·exact RunF.ret (vc:=[]) (v:=SV.c (C.t false)) _ _ [0,1] (E:=[decide (a=b)=false]) K trivial ⟨rfl,rfl⟩ K V25
   ·exact RunF.next (I:=L13_0_I a b) (J:=L13_0_J a b) (m:=L13_0_m a b) (x:=(x2_0,x2_1)) (vc:=[Fits IntKind.i64 (x2_0+(1:Int))]) ((x2_0+(1:Int),x2_1)) [0,1] (E:=[a.length=a.length,∀ (i:Nat),i<a.length→(a.getD i default).tc=(a.getD i default).tc,b.length=b.length,∀ (i:Nat),i<b.length→(b.getD i default).tc=(b.getD i default).tc,x2_0+(1:Int)=x2_0+(1:Int),(↑a.length:Int)=(↑a.length:Int),x2_1=x2_1]) K V0 K R (by dsimp only [L13_0_m];(try simp only [decide_eq_true_eq] at *);omega) (by dsimp only [L13_0_J];have hq:=Blk.eq_iff (a.getD x2_0.toNat default) (b.getD x2_0.toNat default);have hq0:=allFrom_next (sameP a b) (i:=x2_0) (n:=a.length);have hq1:=allFrom_stop (sameP a b) (i:=x2_0) (n:=a.length);have hq2:=allFrom_end (sameP a b) (i:=x2_0) (n:=a.length);simp only [sameP,BL] at *;grind)
  ·exact RunF.ret (vc:=[]) (v:=SV.c (C.t true)) _ _ [0,1] (E:=[decide (a=b)=true]) K trivial ⟨rfl,rfl⟩ K V25
end Go.Proofs.Ytlblobbklioofaa
end
namespace Go.Proofs.Ytlblobbklioofaa
open Go Go.Tx
def holdUp (bs:List Blk) (k:Int):Nat→Int
 | 0=>-1
 | n+1=>if (bs.getD n default).lock=k then if 0≤(bs.getD n default).to then -1 else (bs.getD n default).core else holdUp bs k n
theorem holdUp_step (bs:List Blk) (k:Int) {i:Int} (h:0≤i):holdUp bs k (i+1).toNat=if (bs.getD i.toNat default).lock=k then if 0≤(bs.getD i.toNat default).to then -1 else (bs.getD i.toNat default).core else holdUp bs k i.toNat:=by
 rw [show (i+1).toNat=i.toNat+1 by omega,holdUp]
def holdFor (bs:List Blk) (n:Nat):List Int:=(List.range n).map fun k:Nat=>holdUp bs (k:Int) bs.length
theorem holdFor_step (bs:List Blk) {i:Int} (h:0≤i):holdFor bs (i+1).toNat=holdFor bs i.toNat++[holdUp bs i bs.length]:=by
 rw [show (i+1).toNat=i.toNat+1 by omega,holdFor,List.range_succ,List.map_append,List.map_singleton,show ((i.toNat:Nat):Int)=i by omega]
 rfl
theorem holdFor_len (bs:List Blk) (n:Nat):(holdFor bs n).length=n:=by simp [holdFor]
def holdersL (mem:List Int) (sh lk bu:Int) (cs:List Cor) (l:List Did):List Int:=
 if evE mem sh lk bu cs l=0 then holdFor (blkL mem sh lk bu cs l) lk.toNat else []
end Go.Proofs.Ytlblobbklioofaa
noncomputable section
namespace Go.Proofs.Ytlblobbklioofaa
open Go Go.Tx
abbrev z23_15 (mem:List Int) (sh:Int) (lk:Int) (bu:Int) (cs:List Cor) (l:List Did):=Reg.own 48 5 (blkL mem sh lk bu cs l).length (fun i=>((blkL mem sh lk bu cs l).getD i default).tc) none
abbrev z23_2 (mem:List Int) (cs:List Cor) (l:List Did) (sh:Int) (lk:Int) (bu:Int):=[Reg.row 1 mem.length (fun i=>i64T (mem.getD i (0:Int))) none,Reg.row 2 cs.length (fun i=>(cs.getD i default).tc) none,Reg.row 7 l.length (fun i=>(l.getD i default).tc) none,Reg.box 25 [C.h 0,C.i .i64 sh,C.i .i64 lk,C.i .i64 bu,C.h 1],z23_15 mem sh lk bu cs l]
def L9_0_I (mem:List Int) (sh:Int) (lk:Int) (bu:Int) (cs:List Cor) (l:List Did):Int×List Int→St:=fun x=>{ N:=49,fr:=[{ slot:=9,g:=[],sv:=SV.c (C.i .i64 x.1) },{ slot:=8,g:=[],sv:=SV.c (C.h 5) },{ slot:=6,g:=[],sv:=SV.c (C.h 4) },{ slot:=5,g:=[],sv:=SV.c (C.i .i64 0) },{ slot:=4,g:=[],sv:=SV.c (C.v (Value.slice none 0 0)) },{ slot:=2,g:=[],sv:=SV.c (C.p 3 0) }],rg:=(z23_2 mem cs l sh lk bu)++[IntOwn x.2],wr:=[] }
def L9_0_J (mem:List Int) (sh:Int) (lk:Int) (bu:Int) (cs:List Cor) (l:List Did):Int×List Int→Prop:=fun x=>0≤x.1∧x.1≤lk∧x.2=holdFor (blkL mem sh lk bu cs l) x.1.toNat
def L9_0_m (mem:List Int) (sh:Int) (lk:Int) (bu:Int) (cs:List Cor) (l:List Did):Int×List Int→Nat:=fun x=>(lk-x.1).toNat
abbrev z23_1 (mem:List Int) (cs:List Cor) (l:List Did) (sh:Int) (lk:Int) (bu:Int) (x2_1:List Int):=[Reg.row 1 mem.length (fun i=>i64T (mem.getD i (0:Int))) none,Reg.row 2 cs.length (fun i=>(cs.getD i default).tc) none,Reg.row 7 l.length (fun i=>(l.getD i default).tc) none,Reg.box 25 [C.h 0,C.i .i64 sh,C.i .i64 lk,C.i .i64 bu,C.h 1],z23_15 mem sh lk bu cs l,Reg.own 3 1 x2_1.length (fun i=>i64T (x2_1.getD i (0:Int))) none]
def L9_1_I (mem:List Int) (sh:Int) (lk:Int) (bu:Int) (cs:List Cor) (l:List Did) (x2_0:Int) (x2_1:List Int):Int×Int→St:=fun x=>{ N:=49,fr:=[{ slot:=30,g:=[],sv:=SV.c (C.i .i64 x.1) },{ slot:=29,g:=[],sv:=SV.c (C.i .i64 (↑(blkL mem sh lk bu cs l).length:Int)) },{ slot:=28,g:=[],sv:=SV.c (C.h 4) },{ slot:=10,g:=[],sv:=SV.c (C.i .i64 x.2) },{ slot:=9,g:=[],sv:=SV.c (C.i .i64 x2_0) },{ slot:=8,g:=[],sv:=SV.c (C.h 5) },{ slot:=6,g:=[],sv:=SV.c (C.h 4) },{ slot:=5,g:=[],sv:=SV.c (C.i .i64 0) },{ slot:=4,g:=[],sv:=SV.c (C.v (Value.slice none 0 0)) },{ slot:=2,g:=[],sv:=SV.c (C.p 3 0) }],rg:=(z23_1 mem cs l sh lk bu x2_1),wr:=[] }
def L9_1_J (mem:List Int) (sh:Int) (lk:Int) (bu:Int) (cs:List Cor) (l:List Did) (x2_0:Int) (x2_1:List Int):Int×Int→Prop:=fun x=>0≤x.1∧x.1≤((blkL mem sh lk bu cs l).length:Int)∧x.2=holdUp (blkL mem sh lk bu cs l) x2_0 x.1.toNat
def L9_1_m (mem:List Int) (sh:Int) (lk:Int) (bu:Int) (cs:List Cor) (l:List Did) (x2_0:Int) (x2_1:List Int):Int×Int→Nat:=fun x=>(((blkL mem sh lk bu cs l).length:Int)-x.1).toNat
abbrev z23_3 (mem:List Int) (sh:Int) (lk:Int) (bu:Int) (cs:List Cor) (l:List Did):=∀ (i:Nat),i<(blkL mem sh lk bu cs l).length→((blkL mem sh lk bu cs l).getD i default).tc=((blkL mem sh lk bu cs l).getD i default).tc
abbrev z23_4 (mem:List Int):=∀ (i:Nat),i<mem.length→i64T (mem.getD i (0:Int))=i64T (mem.getD i (0:Int))
abbrev z23_5 (cs:List Cor):=∀ (i:Nat),i<cs.length→(cs.getD i default).tc=(cs.getD i default).tc
abbrev z23_6 (l:List Did):=∀ (i:Nat),i<l.length→(l.getD i default).tc=(l.getD i default).tc
abbrev z23_7:=En.mk 4 [] (SV.c (C.v (Value.slice none 0 0)))
abbrev z23_8 (x2_1:List Int):=∀ (i:Nat),i<x2_1.length→i64T (x2_1.getD i (0:Int))=i64T (x2_1.getD i (0:Int))
abbrev z23_9 (mem:List Int) (sh:Int) (lk:Int) (bu:Int) (cs:List Cor) (l:List Did) (x2_0:Int) (x2_1:List Int):=(Tx.Next (L9_0_I mem sh lk bu cs l) (L9_0_J mem sh lk bu cs l) (L9_0_m mem sh lk bu cs l) (x2_0,x2_1))
abbrev z23_10:=Value.slice none 0 0=Value.slice none 0 0
abbrev z23_11 (mem:List Int) (sh:Int) (lk:Int) (bu:Int) (cs:List Cor) (l:List Did):=(blkL mem sh lk bu cs l).length=(blkL mem sh lk bu cs l).length
abbrev z23_12 (mem:List Int) (sh:Int) (lk:Int) (bu:Int) (cs:List Cor) (l:List Did):=(↑(blkL mem sh lk bu cs l).length:Int)=(↑(blkL mem sh lk bu cs l).length:Int)
abbrev z23_13 (x4_0:Int) (mem:List Int) (sh:Int) (lk:Int) (bu:Int) (cs:List Cor) (l:List Did) (x4_1:Int) (x2_0:Int) (x2_1:List Int):=(St.mk 49 [En.mk 30 [] (SV.c (C.i .i64 x4_0)),En.mk 29 [] (SV.c (C.i .i64 (↑(blkL mem sh lk bu cs l).length:Int))),En.mk 28 [] (SV.c (C.h 4)),En.mk 10 [] (SV.c (C.i .i64 x4_1)),En.mk 9 [] (SV.c (C.i .i64 x2_0)),En.mk 8 [] (SV.c (C.h 5)),En.mk 6 [] (SV.c (C.h 4)),En.mk 5 [] (SV.c (C.i .i64 0)),z23_7,En.mk 2 [] (SV.c (C.p 3 0))] (z23_1 mem cs l sh lk bu x2_1) [])
abbrev z23_14 (x2_0:Int):=[En.mk 9 [] (SV.c (C.i .i64 x2_0)),En.mk 8 [] (SV.c (C.h 5)),En.mk 6 [] (SV.c (C.h 4)),En.mk 5 [] (SV.c (C.i .i64 0)),z23_7,En.mk 2 [] (SV.c (C.p 3 0))]
theorem c_holders_ref (mem:List Int) (sh lk bu:Int) (cs:List Cor) (l:List Did) (hw:∀ a b:Nat,insK ((cs.getD a default).code.getD b default)) (hl:∀ a:Nat,0≤(l.getD a default).kind∧(l.getD a default).kind≤255) (hn:(l.length:Int) * 4096≤140737488355328):Ctr Try.prog 9 [IntRow mem,Cor.rowR cs,Did.rowR l] [.agg [.h 0,.i .i64 sh,.i .i64 lk,.i .i64 bu,.h 1],.c (.h 2)]
 (Det (.tup [(false,[.h 3]),(false,[.i .i64 (evE mem sh lk bu cs l)])]) [.dead,.dead,.dead,IntOwn (holdersL mem sh lk bu cs l)]):=by
 refine Ctr.intro [] Try.func9 K K ?_
 refine RunF.lens 2 (m:=l.length) K (fun hlens_2=>?_)
 refine RunF.call (vc:=[]) (args:=[SV.agg [C.h 0,C.i .i64 sh,C.i .i64 lk,C.i .i64 bu,C.h 1],SV.c (C.h 2)]) e_stileref23_Blocks (c_blocks_ref (mem:=mem) (sh:=sh) (lk:=lk) (bu:=bu) (cs:=cs) (l:=l) (hw:=by first | assumption | omega | exact hw | exact hl | exact evE_ok (mem:=mem) (bu:=bu) (cs:=cs) (l:=l) V37 | exact evL_ok _ V37 | exact blkL_ok _ V37 | (have hm:=evE_mem (mem:=mem) (sh:=sh) (lk:=lk) (bu:=bu) (cs:=cs) (l:=l) V37;have hs:=evE_ok (mem:=mem) (sh:=sh) (lk:=lk) (bu:=bu) (cs:=cs) (l:=l) V37;grind)) (hl:=by first | assumption | omega | exact hw | exact hl | exact evE_ok (mem:=mem) (bu:=bu) (cs:=cs) (l:=l) V37 | exact evL_ok _ V37 | exact blkL_ok _ V37 | (have hm:=evE_mem (mem:=mem) (sh:=sh) (lk:=lk) (bu:=bu) (cs:=cs) (l:=l) V37;have hs:=evE_ok (mem:=mem) (sh:=sh) (lk:=lk) (bu:=bu) (cs:=cs) (l:=l) V37;grind)) (hn:=by first | assumption | omega | exact hw | exact hl | exact evE_ok (mem:=mem) (bu:=bu) (cs:=cs) (l:=l) V37 | exact evL_ok _ V37 | exact blkL_ok _ V37 | (have hm:=evE_mem (mem:=mem) (sh:=sh) (lk:=lk) (bu:=bu) (cs:=cs) (l:=l) V37;have hs:=evE_ok (mem:=mem) (sh:=sh) (lk:=lk) (bu:=bu) (cs:=cs) (l:=l) V37;grind))) [0,1,2] (E:=[mem.length=mem.length,z23_4 mem,cs.length=cs.length,z23_5 cs,l.length=l.length,z23_6 l,sh=sh,lk=lk,bu=bu]) K trivial K R K ?_
 refine RunF.chk [16,5,4,2] [.ops [1,0] 3,.code [1,1]] (St.mk 49 [En.mk 16 [] (SV.tup [(false,[C.h 4]),(false,[C.i .i64 (evE mem sh lk bu cs l)])]),En.mk 5 [] (SV.c (C.i .i64 0)),z23_7,En.mk 2 [] (SV.c (C.p 3 0))] (z23_2 mem cs l sh lk bu) []) K ?_
 refine RunF.cond (vc:=[]) (x:=!decide (evE mem sh lk bu cs l=(0:Int))) K trivial (fun h1=>?_) (fun h1=>?_)
 ·exact RunF.ret (vc:=[]) (v:=SV.tup [(false,[C.v (Value.slice none 0 0)]),(false,[C.i .i64 (evE mem sh lk bu cs l)])]) _ _ [0,1,2,1000003] (E:=[(holdersL mem sh lk bu cs l).length=0,evE mem sh lk bu cs l=evE mem sh lk bu cs l]) K trivial ⟨rfl,rfl⟩ K V46
 ·refine RunF.chk [6,5,4,2] [.code [1,1,0,1,1],.code [1,1,1]] (St.mk 49 [En.mk 6 [] (SV.c (C.h 4)),En.mk 5 [] (SV.c (C.i .i64 0)),z23_7,En.mk 2 [] (SV.c (C.p 3 0))] (z23_2 mem cs l sh lk bu) []) K ?_
  refine RunF.loop (vc:=[]) (L9_0_I mem sh lk bu cs l) (L9_0_J mem sh lk bu cs l) (L9_0_m mem sh lk bu cs l) (((0:Int),[])) [0,1,2,3,4,1000005] (E:=[mem.length=mem.length,∀ (i:Nat),i<mem.length→i64T (mem.getD i (0:Int))=i64T (mem.getD i (0:Int)),cs.length=cs.length,∀ (i:Nat),i<cs.length→(cs.getD i default).tc=(cs.getD i default).tc,l.length=l.length,∀ (i:Nat),i<l.length→(l.getD i default).tc=(l.getD i default).tc,sh=sh,lk=lk,bu=bu,z23_11 mem sh lk bu cs l,∀ (i:Nat),i<(blkL mem sh lk bu cs l).length→((blkL mem sh lk bu cs l).getD i default).tc=((blkL mem sh lk bu cs l).getD i default).tc,(0:Nat)=0,(0:Int)=(0:Int),(0:Int)=(0:Int),z23_10]) K trivial K V19 (by dsimp only [L9_0_J];have hbl:=blkL_len (mem:=mem) (sh:=sh) (lk:=lk) (bu:=bu) (cs:=cs) (l:=l);have hs:=evE_ok (mem:=mem) (sh:=sh) (lk:=lk) (bu:=bu) (cs:=cs) (l:=l) (by grind);exact ⟨Int.le_refl _,by omega,rfl⟩) ?_
  rintro ⟨x2_0,x2_1⟩ hJ2
  dsimp only [L9_0_J] at hJ2
  refine RunF.chk [9,8,6,5,4,2] [.code [1,1,1,1,0,1,0,0],.jmp (z23_9 mem sh lk bu cs l x2_0 x2_1),.blk 0,.code [1,1,1,1,1]] (St.mk 49 (z23_14 x2_0) (z23_1 mem cs l sh lk bu x2_1) []) K ?_
  refine RunF.cond (vc:=[]) (x:=decide (x2_0<lk)) K trivial (fun h3=>?_) (fun h3=>?_)
  ·refine RunF.chk [9,8,6,5,4,2] [.code [1,1,0,1,1],.code [1,1,1,1,0,1,0,0,1],.jmp (z23_9 mem sh lk bu cs l x2_0 x2_1),.blk 0,.code [1,1,1,1,1]] (St.mk 49 (z23_14 x2_0) (z23_1 mem cs l sh lk bu x2_1) []) K ?_
   refine RunF.loop (vc:=[]) (L9_1_I mem sh lk bu cs l x2_0 x2_1) (L9_1_J mem sh lk bu cs l x2_0 x2_1) (L9_1_m mem sh lk bu cs l x2_0 x2_1) (((0:Int),(-1:Int))) [0,1,2,3,4,5] (E:=[mem.length=mem.length,z23_4 mem,cs.length=cs.length,z23_5 cs,l.length=l.length,z23_6 l,sh=sh,lk=lk,bu=bu,z23_11 mem sh lk bu cs l,z23_3 mem sh lk bu cs l,x2_1.length=x2_1.length,z23_8 x2_1,(0:Int)=(0:Int),z23_12 mem sh lk bu cs l,(-1:Int)=(-1:Int),x2_0=x2_0,(0:Int)=(0:Int),z23_10]) K trivial K R ⟨Int.le_refl _,by grind,rfl⟩ ?_
   rintro ⟨x4_0,x4_1⟩ hJ4
   dsimp only [L9_1_J] at hJ4
   refine RunF.chk [30,29,28,10,9,8,6,5,4,2] [.code [1,1,1,1,0,1,0,0,1,0,0,1,0,1,0,0],.jmp (Tx.Next (L9_1_I mem sh lk bu cs l x2_0 x2_1) (L9_1_J mem sh lk bu cs l x2_0 x2_1) (L9_1_m mem sh lk bu cs l x2_0 x2_1) (x4_0,x4_1)),.blk 2,.code [1,1,1,1,0,1,0,0,1,0,0,1,1],.blk 1,.code [1,1,1,1,0,1,0,0,1,1],.jmp (z23_9 mem sh lk bu cs l x2_0 x2_1),.blk 0,.code [1,1,1,1,1]] (z23_13 x4_0 mem sh lk bu cs l x4_1 x2_0 x2_1) K ?_
   refine RunF.cond (vc:=[]) (x:=decide (x4_0<(↑(blkL mem sh lk bu cs l).length:Int))) K trivial (fun h5=>?_) (fun h5=>?_)
   ·refine RunF.chk [30,29,28,10,9,8,6,5,4,2] [.code [1,1,0,1,1],.code [1,1,1,1,0,1,0,0,1,0,0,1,0,1,0,0,1,1],.jmp (Tx.Next (L9_1_I mem sh lk bu cs l x2_0 x2_1) (L9_1_J mem sh lk bu cs l x2_0 x2_1) (L9_1_m mem sh lk bu cs l x2_0 x2_1) (x4_0,x4_1)),.blk 2,.code [1,1,1,1,0,1,0,0,1,0,0,1,1],.blk 1,.code [1,1,1,1,0,1,0,0,1,1],.jmp (z23_9 mem sh lk bu cs l x2_0 x2_1),.blk 0,.code [1,1,1,1,1]] (z23_13 x4_0 mem sh lk bu cs l x4_1 x2_0 x2_1) K ?_
    refine RunF.cond (vc:=[(0:Int)≤x4_0,x4_0<(↑(blkL mem sh lk bu cs l).length:Int),x4_0.toNat<(blkL mem sh lk bu cs l).length]) (x:=decide (((blkL mem sh lk bu cs l).getD x4_0.toNat default).lock=x2_0)) K V6 (fun h6=>?_) (fun h6=>?_)
    ·refine RunF.chk [12,30,29,28,10,9,8,6,5,4,2] [.code [1,1,1,1,0,1,0,0,1,0,0,1,0,1,0,0,1,1,0,0,1,1,0],.blk 3,.code [1,1,1,1,0,1,0,0,1,0,0,1,0,1,0,0,1,1,1],.jmp (Tx.Next (L9_1_I mem sh lk bu cs l x2_0 x2_1) (L9_1_J mem sh lk bu cs l x2_0 x2_1) (L9_1_m mem sh lk bu cs l x2_0 x2_1) (x4_0,x4_1)),.blk 2,.code [1,1,1,1,0,1,0,0,1,0,0,1,1],.blk 1,.code [1,1,1,1,0,1,0,0,1,1],.jmp (z23_9 mem sh lk bu cs l x2_0 x2_1),.blk 0,.code [1,1,1,1,1]] (St.mk 49 [En.mk 12 [] (SV.c (C.p 6 0)),En.mk 30 [] (SV.c (C.i .i64 x4_0)),En.mk 29 [] (SV.c (C.i .i64 (↑(blkL mem sh lk bu cs l).length:Int))),En.mk 28 [] (SV.c (C.h 4)),En.mk 10 [] (SV.c (C.i .i64 x4_1)),En.mk 9 [] (SV.c (C.i .i64 x2_0)),En.mk 8 [] (SV.c (C.h 5)),En.mk 6 [] (SV.c (C.h 4)),En.mk 5 [] (SV.c (C.i .i64 0)),z23_7,En.mk 2 [] (SV.c (C.p 3 0))] [Reg.row 1 mem.length (fun i=>i64T (mem.getD i (0:Int))) none,Reg.row 2 cs.length (fun i=>(cs.getD i default).tc) none,Reg.row 7 l.length (fun i=>(l.getD i default).tc) none,Reg.box 25 [C.h 0,C.i .i64 sh,C.i .i64 lk,C.i .i64 bu,C.h 1],z23_15 mem sh lk bu cs l,Reg.own 3 1 x2_1.length (fun i=>i64T (x2_1.getD i (0:Int))) none,Reg.box 48 [C.i .i64 ((blkL mem sh lk bu cs l).getD x4_0.toNat default).lock,C.i .i64 ((blkL mem sh lk bu cs l).getD x4_0.toNat default).core,C.i .i64 ((blkL mem sh lk bu cs l).getD x4_0.toNat default).from_,C.i .i64 ((blkL mem sh lk bu cs l).getD x4_0.toNat default).left,C.i .i64 ((blkL mem sh lk bu cs l).getD x4_0.toNat default).to]] []) K ?_
     refine RunF.cond (vc:=[]) (x:=decide ((0:Int)≤((blkL mem sh lk bu cs l).getD x4_0.toNat default).to)) K trivial (fun h7=>?_) (fun h7=>?_)
     ·exact RunF.next (I:=L9_1_I mem sh lk bu cs l x2_0 x2_1) (J:=L9_1_J mem sh lk bu cs l x2_0 x2_1) (m:=L9_1_m mem sh lk bu cs l x2_0 x2_1) (x:=(x4_0,x4_1)) (vc:=[Fits IntKind.i64 (x4_0+(1:Int))]) ((x4_0+(1:Int),(-1:Int))) [0,1,2,3,4,5] (E:=[mem.length=mem.length,z23_4 mem,cs.length=cs.length,z23_5 cs,l.length=l.length,z23_6 l,sh=sh,lk=lk,bu=bu,z23_11 mem sh lk bu cs l,z23_3 mem sh lk bu cs l,x2_1.length=x2_1.length,z23_8 x2_1,x4_0+(1:Int)=x4_0+(1:Int),z23_12 mem sh lk bu cs l,(-1:Int)=(-1:Int),x2_0=x2_0,(0:Int)=(0:Int),z23_10]) K V6 K R V71 V48
     ·exact RunF.next (I:=L9_1_I mem sh lk bu cs l x2_0 x2_1) (J:=L9_1_J mem sh lk bu cs l x2_0 x2_1) (m:=L9_1_m mem sh lk bu cs l x2_0 x2_1) (x:=(x4_0,x4_1)) (vc:=[Fits IntKind.i64 (x4_0+(1:Int))]) ((x4_0+(1:Int),((blkL mem sh lk bu cs l).getD x4_0.toNat default).core)) [0,1,2,3,4,5] (E:=[mem.length=mem.length,z23_4 mem,cs.length=cs.length,z23_5 cs,l.length=l.length,z23_6 l,sh=sh,lk=lk,bu=bu,z23_11 mem sh lk bu cs l,z23_3 mem sh lk bu cs l,x2_1.length=x2_1.length,z23_8 x2_1,x4_0+(1:Int)=x4_0+(1:Int),z23_12 mem sh lk bu cs l,((blkL mem sh lk bu cs l).getD x4_0.toNat default).core=((blkL mem sh lk bu cs l).getD x4_0.toNat default).core,x2_0=x2_0,(0:Int)=(0:Int),z23_10]) K V6 K R V71 V48
    ·exact RunF.next (I:=L9_1_I mem sh lk bu cs l x2_0 x2_1) (J:=L9_1_J mem sh lk bu cs l x2_0 x2_1) (m:=L9_1_m mem sh lk bu cs l x2_0 x2_1) (x:=(x4_0,x4_1)) (vc:=[Fits IntKind.i64 (x4_0+(1:Int))]) ((x4_0+(1:Int),x4_1)) [0,1,2,3,4,5] (E:=[mem.length=mem.length,z23_4 mem,cs.length=cs.length,z23_5 cs,l.length=l.length,z23_6 l,sh=sh,lk=lk,bu=bu,z23_11 mem sh lk bu cs l,z23_3 mem sh lk bu cs l,x2_1.length=x2_1.length,z23_8 x2_1,x4_0+(1:Int)=x4_0+(1:Int),z23_12 mem sh lk bu cs l,x4_1=x4_1,x2_0=x2_0,(0:Int)=(0:Int),z23_10]) K V6 K R V71 V48
   ·exact RunF.next (I:=L9_0_I mem sh lk bu cs l) (J:=L9_0_J mem sh lk bu cs l) (m:=L9_0_m mem sh lk bu cs l) (x:=(x2_0,x2_1)) (vc:=[x2_1.length+1≤maxLen,(x2_1.length+1) * 8≤140737488355328,Fits IntKind.i64 (x2_0+(1:Int))]) ((x2_0+(1:Int),x2_1++[x4_1])) [0,1,2,3,4,7] (E:=[mem.length=mem.length,∀ (i:Nat),i<mem.length→i64T (mem.getD i (0:Int))=i64T (mem.getD i (0:Int)),cs.length=cs.length,∀ (i:Nat),i<cs.length→(cs.getD i default).tc=(cs.getD i default).tc,l.length=l.length,∀ (i:Nat),i<l.length→(l.getD i default).tc=(l.getD i default).tc,sh=sh,lk=lk,bu=bu,z23_11 mem sh lk bu cs l,∀ (i:Nat),i<(blkL mem sh lk bu cs l).length→((blkL mem sh lk bu cs l).getD i default).tc=((blkL mem sh lk bu cs l).getD i default).tc,(x2_1++[x4_1]).length=x2_1.length+1,∀ (i:Nat),i<(x2_1++[x4_1]).length→i≠x2_1.length→i64T ((x2_1++[x4_1]).getD i (0:Int))=i64T (x2_1.getD i (0:Int)),i64T ((x2_1++[x4_1]).getD x2_1.length (0:Int)) 0=TC.val (Value.int IntKind.i64 x4_1),x2_0+(1:Int)=x2_0+(1:Int),(0:Int)=(0:Int),z23_10]) K V6 K V19 (by dsimp only [L9_0_m];(try simp only [decide_eq_true_eq] at *);omega) (by dsimp only [L9_0_J];refine ⟨by omega,by simp only [BL] at *;omega,?_⟩;rw [holdFor_step (blkL mem sh lk bu cs l) hJ2.1,← hJ2.2.2,hJ4.2.2,show x4_0.toNat=(blkL mem sh lk bu cs l).length by (simp only [BL] at *;omega)])
  ·exact RunF.ret (vc:=[]) (v:=SV.tup [(false,[C.h 5]),(false,[C.i .i64 0])]) _ _ [0,1,2,5] (E:=[(holdersL mem sh lk bu cs l).length=x2_1.length,∀ (i:Nat),i<(holdersL mem sh lk bu cs l).length→i64T ((holdersL mem sh lk bu cs l).getD i (0:Int))=i64T (x2_1.getD i (0:Int)),evE mem sh lk bu cs l=(0:Int)]) K trivial ⟨rfl,rfl⟩ K V46
end Go.Proofs.Ytlblobbklioofaa
end
namespace Go.Proofs.Ytlblobbklioofaa
open Go Go.Tx
def crowdN (bs:List Blk) (i j:Int):Bool:=
 !(decide ((bs.getD j.toNat default).lock=(bs.getD i.toNat default).lock)&&(decide ((bs.getD j.toNat default).to<0)||decide ((bs.getD i.toNat default).from_<(bs.getD j.toNat default).to)))
def crowdP (bs:List Blk) (i:Int):Bool:=allFrom (crowdN bs i) 0 i
def crowdV (bs:List Blk):Int:=if findFrom (crowdP bs) 0 bs.length<bs.length then (bs.getD (findFrom (crowdP bs) 0 bs.length).toNat default).from_ else -1
def crowdL (mem:List Int) (sh lk bu:Int) (cs:List Cor) (l:List Did):Int:=
 if evE mem sh lk bu cs l=0 then crowdV (blkL mem sh lk bu cs l) else 0
def sameI (a b:List Int) (i:Int):Bool:=decide (a.getD i.toNat 0=b.getD i.toNat 0)
theorem same_ints {a b:List Int} (h:a.length=b.length):allFrom (sameI a b) 0 a.length=decide (a=b):=same_all (α:=Int) h
end Go.Proofs.Ytlblobbklioofaa
noncomputable section
namespace Go.Proofs.Ytlblobbklioofaa
open Go Go.Tx
abbrev z24_2 (mem:List Int) (cs:List Cor) (l:List Did) (sh:Int) (lk:Int) (bu:Int):=[Reg.row 1 mem.length (fun i=>i64T (mem.getD i (0:Int))) none,Reg.row 2 cs.length (fun i=>(cs.getD i default).tc) none,Reg.row 7 l.length (fun i=>(l.getD i default).tc) none,Reg.box 25 [C.h 0,C.i .i64 sh,C.i .i64 lk,C.i .i64 bu,C.h 1],Reg.row 5 (blkL mem sh lk bu cs l).length (fun i=>((blkL mem sh lk bu cs l).getD i default).tc) none]
def L11_0_I (mem:List Int) (sh:Int) (lk:Int) (bu:Int) (cs:List Cor) (l:List Did):Int×Int×Int→St:=fun x=>{ N:=57,fr:=[{ slot:=23,g:=[],sv:=SV.c (C.i .i64 x.1) },{ slot:=22,g:=[],sv:=SV.c (C.i .i64 (↑(blkL mem sh lk bu cs l).length:Int)) },{ slot:=21,g:=[],sv:=SV.c (C.h 4) },{ slot:=6,g:=[],sv:=SV.c (C.h 4) },{ slot:=5,g:=[],sv:=SV.c (C.i .i64 x.2.1) },{ slot:=4,g:=[],sv:=SV.c (C.i .i64 x.2.2) }],rg:=(z24_2 mem cs l sh lk bu),wr:=[] }
def L11_0_J (mem:List Int) (sh:Int) (lk:Int) (bu:Int) (cs:List Cor) (l:List Did):Int×Int×Int→Prop:=fun x=>0≤x.1∧x.1≤((blkL mem sh lk bu cs l).length:Int)∧findFrom (crowdP (blkL mem sh lk bu cs l)) 0 (blkL mem sh lk bu cs l).length=findFrom (crowdP (blkL mem sh lk bu cs l)) x.1 (blkL mem sh lk bu cs l).length
def L11_0_m (mem:List Int) (sh:Int) (lk:Int) (bu:Int) (cs:List Cor) (l:List Did):Int×Int×Int→Nat:=fun x=>(((blkL mem sh lk bu cs l).length:Int)-x.1).toNat
abbrev z24_10 (mem:List Int) (sh:Int) (lk:Int) (bu:Int) (cs:List Cor) (l:List Did) (x2_0:Int):=((blkL mem sh lk bu cs l).getD x2_0.toNat default)
abbrev z24_1 (mem:List Int) (cs:List Cor) (l:List Did) (sh:Int) (lk:Int) (bu:Int) (x2_0:Int):=[Reg.row 1 mem.length (fun i=>i64T (mem.getD i (0:Int))) none,Reg.row 2 cs.length (fun i=>(cs.getD i default).tc) none,Reg.row 7 l.length (fun i=>(l.getD i default).tc) none,Reg.box 25 [C.h 0,C.i .i64 sh,C.i .i64 lk,C.i .i64 bu,C.h 1],Reg.row 5 (blkL mem sh lk bu cs l).length (fun i=>((blkL mem sh lk bu cs l).getD i default).tc) none,Reg.box 48 [C.i .i64 (z24_10 mem sh lk bu cs l x2_0).lock,C.i .i64 (z24_10 mem sh lk bu cs l x2_0).core,C.i .i64 (z24_10 mem sh lk bu cs l x2_0).from_,C.i .i64 (z24_10 mem sh lk bu cs l x2_0).left,C.i .i64 (z24_10 mem sh lk bu cs l x2_0).to],Reg.row 5 (x2_0.toNat-0) (fun i=>((blkL mem sh lk bu cs l).getD (0+i) default).tc) none]
def L11_1_I (mem:List Int) (sh:Int) (lk:Int) (bu:Int) (cs:List Cor) (l:List Did) (x2_0:Int) (x2_1:Int) (x2_2:Int):Int×Int×Int→St:=fun x=>{ N:=57,fr:=[{ slot:=32,g:=[],sv:=SV.c (C.i .i64 x.1) },{ slot:=31,g:=[],sv:=SV.c (C.i .i64 (↑(x2_0.toNat-0):Int)) },{ slot:=30,g:=[],sv:=SV.c (C.h 6) },{ slot:=9,g:=[],sv:=SV.c (C.p 5 0) },{ slot:=23,g:=[],sv:=SV.c (C.i .i64 x2_0) },{ slot:=22,g:=[],sv:=SV.c (C.i .i64 (↑(blkL mem sh lk bu cs l).length:Int)) },{ slot:=21,g:=[],sv:=SV.c (C.h 4) },{ slot:=6,g:=[],sv:=SV.c (C.h 4) },{ slot:=5,g:=[],sv:=SV.c (C.i .i64 x.2.1) },{ slot:=4,g:=[],sv:=SV.c (C.i .i64 x.2.2) }],rg:=(z24_1 mem cs l sh lk bu x2_0),wr:=[] }
def L11_1_J (mem:List Int) (sh:Int) (lk:Int) (bu:Int) (cs:List Cor) (l:List Did) (x2_0:Int) (x2_1:Int) (x2_2:Int):Int×Int×Int→Prop:=fun x=>0≤x.1∧x.1≤x2_0∧allFrom (crowdN (blkL mem sh lk bu cs l) x2_0) 0 x2_0=allFrom (crowdN (blkL mem sh lk bu cs l) x2_0) x.1 x2_0
def L11_1_m (mem:List Int) (sh:Int) (lk:Int) (bu:Int) (cs:List Cor) (l:List Did) (x2_0:Int) (x2_1:Int) (x2_2:Int):Int×Int×Int→Nat:=fun x=>(x2_0-x.1).toNat
abbrev z24_3 (mem:List Int) (sh:Int) (lk:Int) (bu:Int) (cs:List Cor) (l:List Did):=∀ (i:Nat),i<(blkL mem sh lk bu cs l).length→((blkL mem sh lk bu cs l).getD i default).tc=((blkL mem sh lk bu cs l).getD i default).tc
abbrev z24_4 (mem:List Int):=∀ (i:Nat),i<mem.length→i64T (mem.getD i (0:Int))=i64T (mem.getD i (0:Int))
abbrev z24_5 (cs:List Cor):=∀ (i:Nat),i<cs.length→(cs.getD i default).tc=(cs.getD i default).tc
abbrev z24_6 (l:List Did):=∀ (i:Nat),i<l.length→(l.getD i default).tc=(l.getD i default).tc
abbrev z24_7 (x4_0:Int) (x2_0:Int) (mem:List Int) (sh:Int) (lk:Int) (bu:Int) (cs:List Cor) (l:List Did) (x4_1:Int) (x4_2:Int):=[En.mk 32 [] (SV.c (C.i .i64 x4_0)),En.mk 31 [] (SV.c (C.i .i64 (↑(x2_0.toNat-0):Int))),En.mk 30 [] (SV.c (C.h 6)),En.mk 9 [] (SV.c (C.p 5 0)),En.mk 23 [] (SV.c (C.i .i64 x2_0)),En.mk 22 [] (SV.c (C.i .i64 (↑(blkL mem sh lk bu cs l).length:Int))),En.mk 21 [] (SV.c (C.h 4)),En.mk 6 [] (SV.c (C.h 4)),En.mk 5 [] (SV.c (C.i .i64 x4_1)),En.mk 4 [] (SV.c (C.i .i64 x4_2))]
abbrev z24_8 (mem:List Int) (sh:Int) (lk:Int) (bu:Int) (cs:List Cor) (l:List Did) (x2_0:Int) (x2_1:Int) (x2_2:Int):=(Tx.Next (L11_0_I mem sh lk bu cs l) (L11_0_J mem sh lk bu cs l) (L11_0_m mem sh lk bu cs l) (x2_0,x2_1,x2_2))
abbrev z24_9 (mem:List Int) (sh:Int) (lk:Int) (bu:Int) (cs:List Cor) (l:List Did):=(↑(blkL mem sh lk bu cs l).length:Int)=(↑(blkL mem sh lk bu cs l).length:Int)
theorem c_crowd_ref (mem:List Int) (sh lk bu:Int) (cs:List Cor) (l:List Did) (hw:∀ a b:Nat,insK ((cs.getD a default).code.getD b default)) (hl:∀ a:Nat,0≤(l.getD a default).kind∧(l.getD a default).kind≤255) (hn:(l.length:Int) * 4096≤140737488355328):Ctr Try.prog 11 [IntRow mem,Cor.rowR cs,Did.rowR l] [.agg [.h 0,.i .i64 sh,.i .i64 lk,.i .i64 bu,.h 1],.c (.h 2)]
 (Det (.tup [(false,[.i .i64 (crowdL mem sh lk bu cs l)]),(false,[.i .i64 (evE mem sh lk bu cs l)])]) [.dead,.dead,.dead]):=by
 refine Ctr.intro [] Try.func11 K K ?_
 refine RunF.lens 2 (m:=l.length) K (fun hlens_2=>?_)
 refine RunF.call (vc:=[]) (args:=[SV.agg [C.h 0,C.i .i64 sh,C.i .i64 lk,C.i .i64 bu,C.h 1],SV.c (C.h 2)]) e_stileref23_Blocks (c_blocks_ref (mem:=mem) (sh:=sh) (lk:=lk) (bu:=bu) (cs:=cs) (l:=l) (hw:=by first | assumption | omega | exact hw | exact hl | exact evE_ok (mem:=mem) (bu:=bu) (cs:=cs) (l:=l) V37 | exact evL_ok _ V37 | exact blkL_ok _ V37 | (have hm:=evE_mem (mem:=mem) (sh:=sh) (lk:=lk) (bu:=bu) (cs:=cs) (l:=l) V37;have hs:=evE_ok (mem:=mem) (sh:=sh) (lk:=lk) (bu:=bu) (cs:=cs) (l:=l) V37;grind)) (hl:=by first | assumption | omega | exact hw | exact hl | exact evE_ok (mem:=mem) (bu:=bu) (cs:=cs) (l:=l) V37 | exact evL_ok _ V37 | exact blkL_ok _ V37 | (have hm:=evE_mem (mem:=mem) (sh:=sh) (lk:=lk) (bu:=bu) (cs:=cs) (l:=l) V37;have hs:=evE_ok (mem:=mem) (sh:=sh) (lk:=lk) (bu:=bu) (cs:=cs) (l:=l) V37;grind)) (hn:=by first | assumption | omega | exact hw | exact hl | exact evE_ok (mem:=mem) (bu:=bu) (cs:=cs) (l:=l) V37 | exact evL_ok _ V37 | exact blkL_ok _ V37 | (have hm:=evE_mem (mem:=mem) (sh:=sh) (lk:=lk) (bu:=bu) (cs:=cs) (l:=l) V37;have hs:=evE_ok (mem:=mem) (sh:=sh) (lk:=lk) (bu:=bu) (cs:=cs) (l:=l) V37;grind))) [0,1,2] (E:=[mem.length=mem.length,z24_4 mem,cs.length=cs.length,z24_5 cs,l.length=l.length,z24_6 l,sh=sh,lk=lk,bu=bu]) K trivial K R K ?_
 refine RunF.chk [15,5,4] [.ops [1,0] 3,.code [1,1]] (St.mk 57 [En.mk 15 [] (SV.tup [(false,[C.h 4]),(false,[C.i .i64 (evE mem sh lk bu cs l)])]),En.mk 5 [] (SV.c (C.i .i64 0)),En.mk 4 [] (SV.c (C.i .i64 0))] [Reg.row 1 mem.length (fun i=>i64T (mem.getD i (0:Int))) none,Reg.row 2 cs.length (fun i=>(cs.getD i default).tc) none,Reg.row 7 l.length (fun i=>(l.getD i default).tc) none,Reg.box 25 [C.h 0,C.i .i64 sh,C.i .i64 lk,C.i .i64 bu,C.h 1],Reg.own 48 5 (blkL mem sh lk bu cs l).length (fun i=>((blkL mem sh lk bu cs l).getD i default).tc) none] []) K ?_
 refine RunF.cond (vc:=[]) (x:=!decide (evE mem sh lk bu cs l=(0:Int))) K trivial (fun h1=>?_) (fun h1=>?_)
 ·exact RunF.ret (vc:=[]) (v:=SV.tup [(false,[C.i .i64 0]),(false,[C.i .i64 (evE mem sh lk bu cs l)])]) _ _ [0,1,2] (E:=[crowdL mem sh lk bu cs l=(0:Int),evE mem sh lk bu cs l=evE mem sh lk bu cs l]) K trivial ⟨rfl,rfl⟩ K V8
 ·refine RunF.weaken (St.mk 57 [En.mk 19 [] (SV.c (C.t false)),En.mk 18 [] (SV.c (C.i .i64 (evE mem sh lk bu cs l))),En.mk 7 [] (SV.c (C.i .i64 (evE mem sh lk bu cs l))),En.mk 6 [] (SV.c (C.h 4)),En.mk 17 [] (SV.c (C.i .i64 (evE mem sh lk bu cs l))),En.mk 16 [] (SV.c (C.h 4)),En.mk 12 [] (SV.tup [(false,[C.h 4]),(false,[C.i .i64 (evE mem sh lk bu cs l)])]),En.mk 15 [] (SV.tup [(false,[C.h 4]),(false,[C.i .i64 (evE mem sh lk bu cs l)])]),En.mk 5 [] (SV.c (C.i .i64 0)),En.mk 4 [] (SV.c (C.i .i64 0))] (z24_2 mem cs l sh lk bu) []) [0,1,2,3,4] (E:=[mem.length=mem.length,∀ (i:Nat),i<mem.length→i64T (mem.getD i (0:Int))=i64T (mem.getD i (0:Int)),cs.length=cs.length,∀ (i:Nat),i<cs.length→(cs.getD i default).tc=(cs.getD i default).tc,l.length=l.length,∀ (i:Nat),i<l.length→(l.getD i default).tc=(l.getD i default).tc,sh=sh,lk=lk,bu=bu,(blkL mem sh lk bu cs l).length=(blkL mem sh lk bu cs l).length,∀ (i:Nat),i<(blkL mem sh lk bu cs l).length→((blkL mem sh lk bu cs l).getD i default).tc=((blkL mem sh lk bu cs l).getD i default).tc,evE mem sh lk bu cs l=evE mem sh lk bu cs l,evE mem sh lk bu cs l=evE mem sh lk bu cs l,evE mem sh lk bu cs l=evE mem sh lk bu cs l,evE mem sh lk bu cs l=evE mem sh lk bu cs l,evE mem sh lk bu cs l=evE mem sh lk bu cs l,(0:Int)=(0:Int),(0:Int)=(0:Int)]) K R ?_
  refine RunF.chk [6,5,4] [.code [1,1,0,1,1],.code [1,1,1]] (St.mk 57 [En.mk 6 [] (SV.c (C.h 4)),En.mk 5 [] (SV.c (C.i .i64 0)),En.mk 4 [] (SV.c (C.i .i64 0))] (z24_2 mem cs l sh lk bu) []) K ?_
  refine RunF.loop (vc:=[]) (L11_0_I mem sh lk bu cs l) (L11_0_J mem sh lk bu cs l) (L11_0_m mem sh lk bu cs l) (((0:Int),(0:Int),(0:Int))) [0,1,2,3,4] (E:=[mem.length=mem.length,z24_4 mem,cs.length=cs.length,z24_5 cs,l.length=l.length,z24_6 l,sh=sh,lk=lk,bu=bu,(blkL mem sh lk bu cs l).length=(blkL mem sh lk bu cs l).length,z24_3 mem sh lk bu cs l,(0:Int)=(0:Int),z24_9 mem sh lk bu cs l,(0:Int)=(0:Int),(0:Int)=(0:Int)]) K trivial K R ⟨Int.le_refl _,by grind,rfl⟩ ?_
  rintro ⟨x2_0,x2_1,x2_2⟩ hJ2
  dsimp only [L11_0_J] at hJ2
  refine RunF.chk [23,22,21,6,5,4] [.code [1,1,1,0,1,0,0],.jmp (z24_8 mem sh lk bu cs l x2_0 x2_1 x2_2),.blk 0,.code [1,1,1,1]] (St.mk 57 [En.mk 23 [] (SV.c (C.i .i64 x2_0)),En.mk 22 [] (SV.c (C.i .i64 (↑(blkL mem sh lk bu cs l).length:Int))),En.mk 21 [] (SV.c (C.h 4)),En.mk 6 [] (SV.c (C.h 4)),En.mk 5 [] (SV.c (C.i .i64 x2_1)),En.mk 4 [] (SV.c (C.i .i64 x2_2))] (z24_2 mem cs l sh lk bu) []) K ?_
  refine RunF.cond (vc:=[]) (x:=decide (x2_0<(↑(blkL mem sh lk bu cs l).length:Int))) K trivial (fun h3=>?_) (fun h3=>?_)
  ·refine RunF.chk [23,22,21,6,5,4] [.code [1,1,0,1,1],.code [1,1,1,0,1,0,0,1,1],.jmp (z24_8 mem sh lk bu cs l x2_0 x2_1 x2_2),.blk 0,.code [1,1,1,1]] (St.mk 57 [En.mk 23 [] (SV.c (C.i .i64 x2_0)),En.mk 22 [] (SV.c (C.i .i64 (↑(blkL mem sh lk bu cs l).length:Int))),En.mk 21 [] (SV.c (C.h 4)),En.mk 6 [] (SV.c (C.h 4)),En.mk 5 [] (SV.c (C.i .i64 x2_1)),En.mk 4 [] (SV.c (C.i .i64 x2_2))] (z24_2 mem cs l sh lk bu) []) K ?_
   refine RunF.loop (vc:=[(0:Int)≤x2_0,x2_0<(↑(blkL mem sh lk bu cs l).length:Int),x2_0.toNat<(blkL mem sh lk bu cs l).length,(0:Int)≤(0:Int),(0:Int)≤x2_0,x2_0≤(↑(blkL mem sh lk bu cs l).length:Int)]) (L11_1_I mem sh lk bu cs l x2_0 x2_1 x2_2) (L11_1_J mem sh lk bu cs l x2_0 x2_1 x2_2) (L11_1_m mem sh lk bu cs l x2_0 x2_1 x2_2) (((0:Int),x2_1,x2_2)) [0,1,2,3,4,5,6] (E:=[mem.length=mem.length,z24_4 mem,cs.length=cs.length,z24_5 cs,l.length=l.length,z24_6 l,sh=sh,lk=lk,bu=bu,(blkL mem sh lk bu cs l).length=(blkL mem sh lk bu cs l).length,z24_3 mem sh lk bu cs l,(z24_10 mem sh lk bu cs l x2_0).lock=(z24_10 mem sh lk bu cs l x2_0).lock,(z24_10 mem sh lk bu cs l x2_0).core=(z24_10 mem sh lk bu cs l x2_0).core,(z24_10 mem sh lk bu cs l x2_0).from_=(z24_10 mem sh lk bu cs l x2_0).from_,(z24_10 mem sh lk bu cs l x2_0).left=(z24_10 mem sh lk bu cs l x2_0).left,(z24_10 mem sh lk bu cs l x2_0).to=(z24_10 mem sh lk bu cs l x2_0).to,x2_0.toNat-0=x2_0.toNat-0,∀ (i:Nat),i<x2_0.toNat-0→((blkL mem sh lk bu cs l).getD (0+i) default).tc=((blkL mem sh lk bu cs l).getD (0+i) default).tc,(0:Int)=(0:Int),(↑(x2_0.toNat-0):Int)=(↑(x2_0.toNat-0):Int),x2_0=x2_0,z24_9 mem sh lk bu cs l,x2_1=x2_1,x2_2=x2_2]) K V23 K R ⟨Int.le_refl _,by omega,rfl⟩ ?_
   rintro ⟨x4_0,x4_1,x4_2⟩ hJ4
   dsimp only [L11_1_J] at hJ4
   refine RunF.chk [32,31,30,9,23,22,21,6,5,4] [.code [1,1,1,0,1,0,0,1,1,0,0,1,1,0,0],.jmp (Tx.Next (L11_1_I mem sh lk bu cs l x2_0 x2_1 x2_2) (L11_1_J mem sh lk bu cs l x2_0 x2_1 x2_2) (L11_1_m mem sh lk bu cs l x2_0 x2_1 x2_2) (x4_0,x4_1,x4_2)),.blk 2,.blk 1,.code [1,1,1,0,1,0,0,1,1,1],.jmp (z24_8 mem sh lk bu cs l x2_0 x2_1 x2_2),.blk 0,.code [1,1,1,1]] (St.mk 57 (z24_7 x4_0 x2_0 mem sh lk bu cs l x4_1 x4_2) (z24_1 mem cs l sh lk bu x2_0) []) K ?_
   refine RunF.cond (vc:=[]) (x:=decide (x4_0<(↑(x2_0.toNat-0):Int))) K trivial (fun h5=>?_) (fun h5=>?_)
   ·refine RunF.chk [32,31,30,9,23,22,21,6,5,4] [.code [1,1,0,1,1],.code [1,1,1,0,1,0,0,1,1,0,0,1,1,0,0,1,1],.jmp (Tx.Next (L11_1_I mem sh lk bu cs l x2_0 x2_1 x2_2) (L11_1_J mem sh lk bu cs l x2_0 x2_1 x2_2) (L11_1_m mem sh lk bu cs l x2_0 x2_1 x2_2) (x4_0,x4_1,x4_2)),.blk 2,.blk 1,.code [1,1,1,0,1,0,0,1,1,1],.jmp (z24_8 mem sh lk bu cs l x2_0 x2_1 x2_2),.blk 0,.code [1,1,1,1]] (St.mk 57 (z24_7 x4_0 x2_0 mem sh lk bu cs l x4_1 x4_2) (z24_1 mem cs l sh lk bu x2_0) []) K ?_
    refine RunF.cond (vc:=[(0:Int)≤x4_0,x4_0<(↑(x2_0.toNat-0):Int),x4_0.toNat<x2_0.toNat-0]) (x:=decide (((blkL mem sh lk bu cs l).getD (0+x4_0.toNat) default).lock=((blkL mem sh lk bu cs l).getD x2_0.toNat default).lock)&&(decide (((blkL mem sh lk bu cs l).getD (0+x4_0.toNat) default).to<(0:Int))||decide (((blkL mem sh lk bu cs l).getD x2_0.toNat default).from_<((blkL mem sh lk bu cs l).getD (0+x4_0.toNat) default).to))) K V23 (fun h6=>?_) (fun h6=>?_)
    ·exact RunF.ret (vc:=[]) (v:=SV.tup [(false,[C.i .i64 (z24_10 mem sh lk bu cs l x2_0).from_]),(false,[C.i .i64 0])]) _ _ [0,1,2] (E:=[crowdL mem sh lk bu cs l=((blkL mem sh lk bu cs l).getD x2_0.toNat default).from_,evE mem sh lk bu cs l=(0:Int)]) K trivial ⟨rfl,rfl⟩ K V8
    ·exact RunF.next (I:=L11_1_I mem sh lk bu cs l x2_0 x2_1 x2_2) (J:=L11_1_J mem sh lk bu cs l x2_0 x2_1 x2_2) (m:=L11_1_m mem sh lk bu cs l x2_0 x2_1 x2_2) (x:=(x4_0,x4_1,x4_2)) (vc:=[Fits IntKind.i64 (x4_0+(1:Int))]) ((x4_0+(1:Int),x4_1,x4_2)) [0,1,2,3,4,5,6] (E:=[mem.length=mem.length,z24_4 mem,cs.length=cs.length,z24_5 cs,l.length=l.length,z24_6 l,sh=sh,lk=lk,bu=bu,(blkL mem sh lk bu cs l).length=(blkL mem sh lk bu cs l).length,z24_3 mem sh lk bu cs l,(z24_10 mem sh lk bu cs l x2_0).lock=(z24_10 mem sh lk bu cs l x2_0).lock,(z24_10 mem sh lk bu cs l x2_0).core=(z24_10 mem sh lk bu cs l x2_0).core,(z24_10 mem sh lk bu cs l x2_0).from_=(z24_10 mem sh lk bu cs l x2_0).from_,(z24_10 mem sh lk bu cs l x2_0).left=(z24_10 mem sh lk bu cs l x2_0).left,(z24_10 mem sh lk bu cs l x2_0).to=(z24_10 mem sh lk bu cs l x2_0).to,x2_0.toNat-0=x2_0.toNat-0,∀ (i:Nat),i<x2_0.toNat-0→((blkL mem sh lk bu cs l).getD (0+i) default).tc=((blkL mem sh lk bu cs l).getD (0+i) default).tc,x4_0+(1:Int)=x4_0+(1:Int),(↑(x2_0.toNat-0):Int)=(↑(x2_0.toNat-0):Int),x2_0=x2_0,z24_9 mem sh lk bu cs l,x4_1=x4_1,x4_2=x4_2]) K V23 K R (by show (x2_0-(x4_0+1)).toNat<(x2_0-x4_0).toNat;simp only [BL] at *;omega) (by dsimp only [L11_1_J];have q0:=allFrom_next (crowdN (blkL mem sh lk bu cs l) x2_0) (i:=x4_0) (n:=x2_0);have q1:=allFrom_stop (crowdN (blkL mem sh lk bu cs l) x2_0) (i:=x4_0) (n:=x2_0);have q2:=allFrom_end (crowdN (blkL mem sh lk bu cs l) x2_0) (i:=x4_0) (n:=x2_0);refine ⟨by omega,by simp only [BL] at *;omega,?_⟩;rw [hJ4.2.2];refine q0 (by simp only [BL] at *;omega) ?_;simp only [crowdN];simp only [BL,Nat.zero_add] at *;grind)
   ·exact RunF.next (I:=L11_0_I mem sh lk bu cs l) (J:=L11_0_J mem sh lk bu cs l) (m:=L11_0_m mem sh lk bu cs l) (x:=(x2_0,x2_1,x2_2)) (vc:=[Fits IntKind.i64 (x2_0+(1:Int))]) ((x2_0+(1:Int),x4_1,x4_2)) [0,1,2,3,4] (E:=[mem.length=mem.length,z24_4 mem,cs.length=cs.length,z24_5 cs,l.length=l.length,z24_6 l,sh=sh,lk=lk,bu=bu,(blkL mem sh lk bu cs l).length=(blkL mem sh lk bu cs l).length,z24_3 mem sh lk bu cs l,x2_0+(1:Int)=x2_0+(1:Int),z24_9 mem sh lk bu cs l,x4_1=x4_1,x4_2=x4_2]) K V23 K R (by show (((blkL mem sh lk bu cs l).length:Int)-(x2_0+1)).toNat<(((blkL mem sh lk bu cs l).length:Int)-x2_0).toNat;simp only [BL] at *;omega) (by dsimp only [L11_0_J];have q0:=allFrom_next (crowdN (blkL mem sh lk bu cs l) x2_0) (i:=x4_0) (n:=x2_0);have q1:=allFrom_stop (crowdN (blkL mem sh lk bu cs l) x2_0) (i:=x4_0) (n:=x2_0);have q2:=allFrom_end (crowdN (blkL mem sh lk bu cs l) x2_0) (i:=x4_0) (n:=x2_0);have p0:=findFrom_next (crowdP (blkL mem sh lk bu cs l)) (i:=x2_0) (n:=(blkL mem sh lk bu cs l).length);have p1:=findFrom_stop (crowdP (blkL mem sh lk bu cs l)) (i:=x2_0) (n:=(blkL mem sh lk bu cs l).length);have p2:=findFrom_out (crowdP (blkL mem sh lk bu cs l)) (i:=x2_0) (n:=(blkL mem sh lk bu cs l).length);refine ⟨by omega,by simp only [BL] at *;omega,?_⟩;rw [hJ2.2.2];refine p0 (by simp only [BL] at *;omega) ?_;unfold crowdP;rw [hJ4.2.2];exact q2 (by simp only [BL] at *;omega))
  ·exact RunF.ret (vc:=[]) (v:=SV.tup [(false,[C.i .i64 (-1:Int)]),(false,[C.i .i64 0])]) _ _ [0,1,2] (E:=[crowdL mem sh lk bu cs l=(-1:Int),evE mem sh lk bu cs l=(0:Int)]) K trivial ⟨rfl,rfl⟩ K V8
end Go.Proofs.Ytlblobbklioofaa
end
noncomputable section
namespace Go.Proofs.Ytlblobbklioofaa
open Go Go.Tx
abbrev z25_1 (a:List Int) (b:List Int):=[Reg.row 1 a.length (fun i=>i64T (a.getD i (0:Int))) none,Reg.row 1 b.length (fun i=>i64T (b.getD i (0:Int))) none]
def L14_0_I (a:List Int) (b:List Int):Int×Bool→St:=fun x=>{ N:=26,fr:=[{ slot:=13,g:=[],sv:=SV.c (C.i .i64 x.1) },{ slot:=12,g:=[],sv:=SV.c (C.i .i64 (↑a.length:Int)) },{ slot:=4,g:=[],sv:=SV.c (C.b x.2) },{ slot:=0,g:=[],sv:=SV.c (C.h 0) },{ slot:=1,g:=[],sv:=SV.c (C.h 1) }],rg:=(z25_1 a b),wr:=[] }
def L14_0_J (a:List Int) (b:List Int):Int×Bool→Prop:=fun x=>0≤x.1∧x.1≤(a.length:Int)∧a.length=b.length∧decide (a=b)=allFrom (sameI a b) x.1 a.length
def L14_0_m (a:List Int) (b:List Int):Int×Bool→Nat:=fun x=>((a.length:Int)-x.1).toNat
abbrev z25_2 (x2_0:Int) (a:List Int) (x2_1:Bool):=[En.mk 13 [] (SV.c (C.i .i64 x2_0)),En.mk 12 [] (SV.c (C.i .i64 (↑a.length:Int))),En.mk 4 [] (SV.c (C.b x2_1)),En.mk 0 [] (SV.c (C.h 0)),En.mk 1 [] (SV.c (C.h 1))]
theorem c_ints (a b:List Int):Ctr Try.prog 14 [IntRow a,IntRow b] [.c (.h 0),.c (.h 1)]
 (Det (.c (.b (decide (a=b)))) [.dead,.dead]):=by
 refine Ctr.intro [] Try.func14 K K ?_
 refine RunF.lens 0 (m:=a.length) K (fun hlens_0=>?_)
 refine RunF.cond (vc:=[]) (x:=!decide ((↑a.length:Int)=(↑b.length:Int))) K trivial (fun h1=>?_) (fun h1=>?_)
 ·exact RunF.ret (vc:=[]) (v:=SV.c (C.t false)) _ _ [0,1] (E:=[decide (a=b)=false]) K trivial ⟨rfl,rfl⟩ K V36
 ·refine RunF.chk [4,0,1] [.code [1,0,1,1],.code [1,1]] (St.mk 26 [En.mk 4 [] (SV.c (C.t false)),En.mk 0 [] (SV.c (C.h 0)),En.mk 1 [] (SV.c (C.h 1))] (z25_1 a b) []) K ?_
  refine RunF.loop (vc:=[]) (L14_0_I a b) (L14_0_J a b) (L14_0_m a b) (((0:Int),false)) [0,1] (E:=[a.length=a.length,∀ (i:Nat),i<a.length→i64T (a.getD i (0:Int))=i64T (a.getD i (0:Int)),b.length=b.length,∀ (i:Nat),i<b.length→i64T (b.getD i (0:Int))=i64T (b.getD i (0:Int)),(0:Int)=(0:Int),(↑a.length:Int)=(↑a.length:Int),false=false]) K trivial K R (by dsimp only [L14_0_J];have hl:a.length=b.length:=(by simp only [BL] at *;omega);exact ⟨Int.le_refl _,by omega,hl,(same_ints hl).symm⟩) ?_
  rintro ⟨x2_0,x2_1⟩ hJ2
  dsimp only [L14_0_J] at hJ2
  refine RunF.chk [13,12,4,0,1] [.code [1,1,0,1,0,0],.jmp (Tx.Next (L14_0_I a b) (L14_0_J a b) (L14_0_m a b) (x2_0,x2_1)),.blk 0,.code [1,1,1]] (St.mk 26 (z25_2 x2_0 a x2_1) (z25_1 a b) []) K ?_
  refine RunF.cond (vc:=[]) (x:=decide (x2_0<(↑a.length:Int))) K trivial (fun h3=>?_) (fun h3=>?_)
  ·refine RunF.chk [13,12,4,0,1] [.code [1,0,1,1],.code [1,1,0,1,0,0,1,1],.jmp (Tx.Next (L14_0_I a b) (L14_0_J a b) (L14_0_m a b) (x2_0,x2_1)),.blk 0,.code [1,1,1]] (St.mk 26 (z25_2 x2_0 a x2_1) (z25_1 a b) []) K ?_
   refine RunF.cond (vc:=[(0:Int)≤x2_0,x2_0<(↑a.length:Int),x2_0.toNat<a.length,(0:Int)≤x2_0,x2_0<(↑b.length:Int),x2_0.toNat<b.length]) (x:=!decide (a.getD x2_0.toNat (0:Int)=b.getD x2_0.toNat (0:Int))) K V0 (fun h4=>?_) (fun h4=>?_)
   ·exact RunF.ret (vc:=[]) (v:=SV.c (C.t false)) _ _ [0,1] (E:=[decide (a=b)=false]) K trivial ⟨rfl,rfl⟩ K V36
   ·exact RunF.next (I:=L14_0_I a b) (J:=L14_0_J a b) (m:=L14_0_m a b) (x:=(x2_0,x2_1)) (vc:=[Fits IntKind.i64 (x2_0+(1:Int))]) ((x2_0+(1:Int),x2_1)) [0,1] (E:=[a.length=a.length,∀ (i:Nat),i<a.length→i64T (a.getD i (0:Int))=i64T (a.getD i (0:Int)),b.length=b.length,∀ (i:Nat),i<b.length→i64T (b.getD i (0:Int))=i64T (b.getD i (0:Int)),x2_0+(1:Int)=x2_0+(1:Int),(↑a.length:Int)=(↑a.length:Int),x2_1=x2_1]) K V0 K R (by dsimp only [L14_0_m];(try simp only [decide_eq_true_eq] at *);omega) (by dsimp only [L14_0_J];have hq0:=allFrom_next (sameI a b) (i:=x2_0) (n:=a.length);have hq1:=allFrom_stop (sameI a b) (i:=x2_0) (n:=a.length);have hq2:=allFrom_end (sameI a b) (i:=x2_0) (n:=a.length);simp only [sameI,BL] at *;grind)
  ·exact RunF.ret (vc:=[]) (v:=SV.c (C.t true)) _ _ [0,1] (E:=[decide (a=b)=true]) K trivial ⟨rfl,rfl⟩ K V36
end Go.Proofs.Ytlblobbklioofaa
end
namespace Go.Proofs.Ytlblobbklioofaa
open Go Go.Tx
theorem evE_right {mem:List Int} {sh lk bu:Int} {cs:List Cor} {l:List Did} (h:evE mem sh lk bu cs l=0):rightsB l=true:=by
 unfold evE at h
 split at h
 ·cases hr:rightsB l with
  | true=>rfl
  | false=>rw [hr] at h;simp at h
 ·rename_i hc;exact absurd h hc
end Go.Proofs.Ytlblobbklioofaa
noncomputable section
namespace Go.Proofs.Ytlblobbklioofaa
open Go Go.Tx
end Go.Proofs.Ytlblobbklioofaa
end
namespace Go.Proofs.Ytlblobbklioofaa
open Go Go.Tx
def blkK (b:Blk):Prop:=0≤b.lock∧b.lock≤4096∧0≤b.core∧b.core≤8
theorem evUp_core {sh lk:Int} {l:List Did} (hs:0≤sh∧sh≤64∧0≤lk∧lk≤16) (hr:rightsB l=true):∀ (n:Nat),n≤l.length→∀ e∈evUp sh lk l n,0≤e.core∧e.core≤8
 | 0,_,e,h=>by simp [evUp] at h
 | n+1,hn,e,h=>by
   rw [evUp,List.mem_append] at h
   rcases h with h | h
   ·exact evUp_core hs hr n (by omega) e h
   ·have hd:=rights_at hr (i:=(n:Int)) (by omega) (by omega)
    rw [Int.toNat_natCast] at hd
    have hb:=didB_bounds hd
    split at h
    ·simp at h
    ·have he:e=evAt sh lk l n:=by simpa using h
     subst he
     unfold evAt evOf
     repeat' split
     all_goals (first | (simp only [];omega) | (show 0≤(0:Int)∧(0:Int)≤8;omega) | omega)
theorem evL_core {mem:List Int} {sh lk bu:Int} {cs:List Cor} {l:List Did}:∀ a:Nat,a<(evL mem sh lk bu cs l).length→0≤((evL mem sh lk bu cs l).getD a default).core∧((evL mem sh lk bu cs l).getD a default).core≤8:=by
 intro a ha
 have hm:(evL mem sh lk bu cs l).getD a default∈evL mem sh lk bu cs l:=by
  rw [List.getD_eq_getElem?_getD,List.getElem?_eq_getElem ha];exact List.getElem_mem ha
 revert hm
 generalize (evL mem sh lk bu cs l).getD a default=e
 unfold evL
 split
 ·rename_i h
  have hr:=evE_right h
  exact fun he=>evUp_core (evE_ok h) hr l.length (Nat.le_refl _) e he
 ·intro h;cases h
theorem blkUp_K {sh:Int} {l:List Did} {evs:List Ev} (hev:∀ a:Nat,a<evs.length→evOk l (evs.getD a default)) (hc:∀ a:Nat,a<evs.length→0≤(evs.getD a default).core∧(evs.getD a default).core≤8):∀ n,n≤evs.length→∀ b∈blkUp sh l evs n,blkK b
 | 0,_,b,h=>by simp [blkUp] at h
 | n+1,hn,b,h=>by
   rw [blkUp,List.mem_append] at h
   rcases h with h | h
   ·exact blkUp_K hev hc n (by omega) b h
   ·split at h
    ·have hb:b=blkOf sh l evs (evs.getD n default):=by simpa using h
     subst hb
     have h1:=hev n (by omega)
     have h2:=hc n (by omega)
     exact ⟨h1.2.2.1,h1.2.2.2,h2.1,h2.2⟩
    ·simp at h
theorem blkL_K {mem:List Int} {sh lk bu:Int} {cs:List Cor} {l:List Did}:∀ a:Nat,a<(blkL mem sh lk bu cs l).length→blkK ((blkL mem sh lk bu cs l).getD a default):=by
 intro a ha
 refine blkUp_K (sh:=sh) (evs:=evL mem sh lk bu cs l) evL_ok evL_core _ (Nat.le_refl _) _ ?_
 rw [List.getD_eq_getElem?_getD,List.getElem?_eq_getElem ha];exact List.getElem_mem ha
abbrev KV:=Int×Int→Option Int
def tillUp (l:List Did) (bs:List Blk):Nat→KV
 | 0=>fun _=>none
 | n+1=>fun q=>if q=((bs.getD n default).lock,(bs.getD n default).core) then
    some (if toD l (bs.getD n default)>(tillUp l bs n ((bs.getD n default).lock,(bs.getD n default).core)).getD 0 then toD l (bs.getD n default) else (tillUp l bs n ((bs.getD n default).lock,(bs.getD n default).core)).getD 0)
   else tillUp l bs n q
theorem till_at (l:List Did) (bs:List Blk) (n:Nat):tillUp l bs (n+1) ((bs.getD n default).lock,(bs.getD n default).core) =
 some (if toD l (bs.getD n default)>(tillUp l bs n ((bs.getD n default).lock,(bs.getD n default).core)).getD 0 then toD l (bs.getD n default) else (tillUp l bs n ((bs.getD n default).lock,(bs.getD n default).core)).getD 0):=if_pos rfl
theorem till_off (l:List Did) (bs:List Blk) {n:Nat} {q:Int×Int} (h:q≠((bs.getD n default).lock,(bs.getD n default).core)):tillUp l bs (n+1) q=tillUp l bs n q:=if_neg h
theorem till_some {l:List Did} {bs:List Blk} (hb:∀ a:Nat,a<bs.length→blkOk l (bs.getD a default)) {q:Int×Int} {v:Int}:∀ n,n≤bs.length→tillUp l bs n q=some v→∃ j<n,(bs.getD j default).lock=q.1∧toD l (bs.getD j default)=v
 | 0,_,h=>by simp [tillUp] at h
 | n+1,hn,h=>by
   by_cases e:q=((bs.getD n default).lock,(bs.getD n default).core)
   ·subst e
    rw [till_at] at h
    have h:=Option.some.inj h
    split at h
    ·exact ⟨n,by omega,rfl,h⟩
    ·rename_i hle
     cases ho:tillUp l bs n ((bs.getD n default).lock,(bs.getD n default).core) with
     | none =>
       refine ⟨n,by omega,rfl,?_⟩
       rw [ho] at hle h
       have:=hb n (by omega)
       unfold blkOk at this
       simp only [Option.getD_none] at hle h
       unfold toD at hle ⊢
       split<;>rename_i h2<;>simp only [h2,if_true,if_false] at hle<;>omega
     | some u =>
       obtain ⟨j,hj,h1,h2⟩:=till_some hb n (by omega) ho
       rw [ho] at h
       exact ⟨j,by omega,h1,by rw [h2];exact h⟩
   ·rw [till_off l bs e] at h
    obtain ⟨j,hj,h1,h2⟩:=till_some hb n (by omega) h
    exact ⟨j,by omega,h1,h2⟩
theorem till_ge {l:List Did} {bs:List Blk} {j:Nat}:∀ n,j<n→∃ v,tillUp l bs n ((bs.getD j default).lock,(bs.getD j default).core)=some v∧toD l (bs.getD j default)≤v
 | 0,h=>by omega
 | n+1,h=>by
   by_cases e:((bs.getD j default).lock,(bs.getD j default).core)=((bs.getD n default).lock,(bs.getD n default).core)
   ·rw [e,till_at]
    refine ⟨_,rfl,?_⟩
    by_cases hj:j=n
    ·subst hj;split<;>omega
    ·obtain ⟨v,h1,h2⟩:=till_ge (l:=l) (bs:=bs) n (show j<n by omega)
     rw [e] at h1
     rw [h1]
     simp only [Option.getD_some]
     split<;>omega
   ·rw [till_off l bs e]
    have hj:j≠n:=fun hj=>by subst hj;exact e rfl
    exact till_ge n (by omega)
theorem allFrom_of (p:Int→Bool) {n:Int}:∀ (m:Nat) (i:Int),(n-i).toNat=m→(∀ j,i≤j→j<n→p j=true)→allFrom p i n=true:=by
 intro m
 induction m with
 | zero=>intro i h _;exact allFrom_end p (by omega)
 | succ m ih =>
   intro i h hp
   rw [allFrom_next p (by omega) (hp i (Int.le_refl _) (by omega))]
   exact ih (i+1) (by omega) (fun j h1 h2=>hp j (by omega) h2)
theorem crowd_none {l:List Did} {bs:List Blk} (hb:∀ a:Nat,a<bs.length→blkOk l (bs.getD a default)) {k:Nat} (hk:k<bs.length)
 (h:∀ q:Int×Int,(tillUp l bs k q).isSome=true→¬ (q.1=(bs.getD k default).lock∧(bs.getD k default).from_<(tillUp l bs k q).getD 0)):crowdP bs k=true:=by
 unfold crowdP
 refine allFrom_of _ _ 0 rfl (fun j h0 hj=>?_)
 unfold crowdN
 have e:((j.toNat:Nat):Int)=j:=by omega
 obtain ⟨v,h1,h2⟩:=till_ge (l:=l) (bs:=bs) (j:=j.toNat) k (by omega)
 have h3:=h ((bs.getD j.toNat default).lock,(bs.getD j.toNat default).core) (by rw [h1];rfl)
 rw [h1] at h3
 simp only [Option.getD_some,Int.toNat_natCast] at h3 ⊢
 have hk':=hb k hk
 unfold blkOk at hk'
 unfold toD at h2
 simp only [BL]
 simp only [BL,Int.not_lt] at *
 by_cases hl:(bs.getD j.toNat default).lock=(bs.getD k default).lock
 ·right
  have h4:¬ (bs.getD k default).from_<v:=fun hh=>h3 ⟨hl,hh⟩
  split at h2
  ·omega
  ·constructor<;>omega
 ·left;exact hl
theorem crowd_some {l:List Did} {bs:List Blk} (hb:∀ a:Nat,a<bs.length→blkOk l (bs.getD a default)) {k:Nat} (hk:k<bs.length) {q:Int×Int} (h0:(tillUp l bs k q).isSome=true)
 (h1:q.1=(bs.getD k default).lock) (h2:(bs.getD k default).from_<(tillUp l bs k q).getD 0):crowdP bs k=false:=by
 cases hc:crowdP bs k with
 | false=>rfl
 | true =>
   exfalso
   obtain ⟨v,hv⟩:=Option.isSome_iff_exists.1 h0
   rw [hv] at h2
   simp only [Option.getD_some] at h2
   obtain ⟨j,hj,h3,h4⟩:=till_some hb k (by omega) hv
   unfold crowdP at hc
   have:=allFrom_at (p:=crowdN bs k) (k:=(j:Int)) _ 0 rfl hc (by omega) (by omega)
   unfold crowdN at this
   simp only [BL,Int.toNat_natCast] at this
   rw [h3,h1] at this
   unfold toD at h4
   split at h4<;>omega
end Go.Proofs.Ytlblobbklioofaa
namespace Go.Tx
open Go
def Cfg.mrg (P:Program) (c:Cfg) (m:Nat) (T:MT) (n:Nat) (has:KA T.K→Bool) (f:KA T.K→KA T.V) (r cnt:Nat):Option Cfg:=
 match (seg P 5000 c.k c.st).2 with
 | .op all o todo k st=>match o.op,o.guard with
   | .range t x,none=>match opndC st [] x with
     | some (.h m')=>if Nat.beq m m'&&Nat.beq T.t t&&st.scp then
        (putSt { st with rg:=st.rg.set m (.mp T n has f (some ⟨r,has,cnt,none⟩))++[.itr r] } o.dst [] (.c (.h st.rg.length))).map fun st'=>⟨.ops all todo::k,st'⟩
       else none
     | _=>none
   | _,_=>none
 | _=>none
def orNo (c:Option Cfg):Cfg:=match c with
 | some c'=>c'
 | none=>noCfg
def Cfg.mnxD (P:Program) (c:Cfg) (j:Nat):Option Cfg:=
 match (seg P 5000 c.k c.st).2 with
 | .op all o todo k st=>match o.op,o.guard with
   | .next x false,none=>match opndC st [] x with
     | some (.h j')=>if Nat.beq j j'&&st.scp then (putSt st o.dst [] (.tup [(false,[.t false])])).map fun st'=>⟨.ops all todo::k,st'⟩ else none
     | _=>none
   | _,_=>none
 | _=>none
def Cfg.mnxM (P:Program) (c:Cfg) (m j:Nat) (T:MT) (n:Nat) (has:KA T.K→Bool) (f:KA T.K→KA T.V) (it:MIt T.K) (a:KA T.K) (cnt:Nat):Option Cfg:=
 match (seg P 5000 c.k c.st).2 with
 | .op all o todo k st=>match o.op,o.guard with
   | .next x false,none=>match opndC st [] x with
     | some (.h j')=>if Nat.beq j j'&&st.scp then
        (putSt { st with rg:=st.rg.set m (.mp T n has f (some ⟨it.r,fun q=>it.left q&&!decide (q=a),cnt,some a⟩)) } o.dst []
          (.tup [(false,[.t true]),(T.kAgg,KA.cs T.K a),(T.vAgg,KA.cs T.V (f a))])).map fun st'=>⟨.ops all todo::k,st'⟩
       else none
     | _=>none
   | _,_=>none
 | _=>none
theorem exec_v2 {P:Program} {w w':World} {s:Sem Value} {v:Value} (hr:s.run P w=.ok v w'):(do pure (Go.Next.value (← s)):Sem Go.Next).run P w=.ok (.value v) w':=by
 simp only [Sem.run_bind,hr,Result.andThen_ok,Sem.run_pure]
theorem grown_fr {w w':World} {row:Option Nat} (h:w.grownBy w' row) {m:Nat→Prop} (hm:∀ b,row=some b→m b):Fr m w w':=
 ⟨h.os,h.tape,h.output,h.size,fun k hk hn=>h.block k hk (fun e=>hn (hm k e.symm))⟩
section
variable {P:Program} [hw:Wide P] {fn:Func} {n0:Nat} {S:SV→List Reg→Prop} {U:Tgt} {c:Cfg} {vc:List Prop}
theorem wanted_none {o:Oper} (h:o.guard=none) (f:Nat→Option Bool):Region.wanted o f=true:=by
 unfold Region.wanted;rw [h]
theorem SatE.turn {b:Base} {st:St} {ε:Env} {a:Act} {w w':World} {m:Nat} {p new:Reg} {fp:Nat→Prop} (hs:SatE b st ε a w) (hsc:st.scp=true) (hm:st.rg[m]?=some p) (hp:p.excl=true) (hnl:new.excl=true)
 (hnew:RegOk (ε.set m ⟨ε.at_ m,fp⟩) b.M w' ⟨ε.at_ m,fp⟩ new) (hfp:∀ b,fp b→(ε.fp m b∨w.heap.size≤b)∧b<w'.heap.size) (hfr:Fr (ε.fp m) w w') :
 SatE b { st with rg:=st.rg.set m new } (ε.set m ⟨ε.at_ m,fp⟩) a w':=by
 have hml:m<ε.length:=by rw [hs.regs.len];exact (List.getElem?_eq_some_iff.1 hm).1
 obtain ⟨s1,s2⟩:=scoped_parts hsc
 obtain ⟨e1,e2⟩:=Env.set_same (x:=⟨ε.at_ m,fp⟩) hml rfl
 refine ⟨hs.defs,hs.size,fun en hen=>(hs.fr en hen).same (s1 en hen) (fun q _=>e1 q),RegsOk.step1 hs.regs hs.below.size hm hp (excl_live hp) rfl hnew hfp hfr hnl s2,hs.below.step hfr.os hfr.tape hfr.output hfr.size (fun q hq hmq=>hfr.block q (Nat.lt_of_lt_of_le hq hs.below.size) (fun hfq=>?_)),by rw [e2];exact hs.pre⟩
 rcases hs.regs.lim m p hm hp q hfq with h | h
 ·omega
 ·exact hmq h
theorem RunF.mrange {T:MT} {n:Nat} {has:KA T.K→Bool} {f:KA T.K→KA T.V} {it:Option (MIt T.K)} (m:Nat) (h:see P fn c=(vc,.op)) (hv:Conj vc)
 (hm:nth (c.at P).rg m=some (.mp T n has f it)) (hP:T.P=P) (hsome:∀ r cnt,(c.mrg P m T n has f r cnt).isSome=true)
 (next:∀ r cnt,RunF P fn n0 U (orNo (c.mrg P m T n has f r cnt))):RunF P fn n0 U c:=by
 unfold RunF at next ⊢
 intro b hb
 unfold see at h
 unfold Cfg.at at hm
 unfold Cfg.mrg at next hsome
 generalize hg:seg P 5000 c.k c.st=rr at h hm next hsome
 obtain ⟨vc',out⟩:=rr
 cases out<;>simp only [Prod.mk.injEq,reduceCtorEq,and_false] at h
 case op all o todo k st =>
  obtain ⟨rfl,_⟩:=h
  refine seg_sound hw.mixed 5000 _ _ _ _ hg hv.toAll (fun a w hsat=>?_)
  obtain ⟨ε,hs⟩:=hsat
  simp only at hm next hsome
  have hm':=nthSome hm
  have hso:=hsome w.heap.size
  have hne:=next w.heap.size
  obtain ⟨dst,op,type,pos,after,guard⟩:=o
  simp only at hso hne
  have hfind:∃ t x m',op=.range t x∧guard=none∧opndC st [] x=some (.h m')∧(Nat.beq m m'&&Nat.beq T.t t&&st.scp)=true:=by
   have h0:=hso 0
   cases op<;>first | (cases h0;done) | skip
   cases guard with
   | some g=>cases h0
   | none =>
     simp only at h0
     split at h0
     ·rename_i m' hx
      split at h0
      ·rename_i hbc;exact ⟨_,_,m',rfl,rfl,hx,hbc⟩
      ·cases h0
     ·cases h0
  obtain ⟨t,x,m',rfl,rfl,hx,hbc⟩:=hfind
  simp only [hx] at hso hne
  have hbc':=hbc
  simp only [Bool.and_eq_true] at hbc
  have e1:=Nat.eq_of_beq_eq_true hbc.1.1
  have e2:=Nat.eq_of_beq_eq_true hbc.1.2
  have hsc:=hbc.2
  subst e1
  have hh:MapAt w b.M (ε.fp m) T (ε.at_ m) n has f none:=MapAt.close (hs.regs.reg m _ hm')
  obtain ⟨w',cnt,hrun,hgr,hsz,hmp⟩:=hh.range (M':=b.M) (fp':=fun q=>ε.fp m q∨q=w.heap.size) (fun _ h=>h) (fun _ h=>.inl h) (Base.fresh_M hs (Nat.le_refl _)).1 (.inr rfl)
  have hs1:=hs.turn (fp:=fun q=>ε.fp m q∨q=w.heap.size) (new:=.mp T n has f (some ⟨w.heap.size,has,cnt,none⟩)) hsc hm' rfl rfl hmp (fun q hq=>by
   rcases hq with hq | hq
   ·exact ⟨.inl hq,Nat.lt_of_lt_of_le (hs.regs.lt m _ hm' rfl q hq).1 hgr.size⟩
   ·subst hq;exact ⟨.inr (Nat.le_refl _),by omega⟩) (grown_fr hgr (fun b hb=>by cases hb))
  have hsc1:St.scp { st with rg:=st.rg.set m (.mp T n has f (some ⟨w.heap.size,has,cnt,none⟩)) }=true:=by
   obtain ⟨s1,s2⟩:=scoped_parts hsc
   unfold St.scp
   simp only [Bool.and_eq_true,List.length_set]
   refine ⟨List.all_eq_true.2 s1,List.all_eq_true.2 fun r hr=>?_⟩
   rcases List.mem_or_eq_of_mem_set hr with h | h
   ·exact List.all_eq_true.1 s2 r h
   ·subst h;rfl
  have hs2:=hs1.add (w':=w') (x:=⟨itPtr w.heap.size,fun _=>False⟩) (r:=.itr w.heap.size) hsc1 hs1.below (Nat.le_refl _) (fun _ _ _ _ _ _=>rfl) rfl (fun h=>by cases h) (fun h=>by cases h) (fun _ h=>h.elim)
  refine wpListW_run (wanted_none rfl _) ?_
  unfold Oper.wp
  have hex:(execOp a.eval { dst,op:=.range t x,type,pos,after,guard:=none }).run P w=.ok (.value ((SV.c (.h st.rg.length)).den (ε.set m ⟨ε.at_ m,fun q=>ε.fp m q∨q=w.heap.size⟩++[⟨itPtr w.heap.size,fun _=>False⟩]))) w':=by
   have hlen:st.rg.length=(ε.set m ⟨ε.at_ m,fun q=>ε.fp m q∨q=w.heap.size⟩).length:=by rw [List.length_set,hs.regs.len]
   rw [show (SV.c (.h st.rg.length)).den (ε.set m ⟨ε.at_ m,fun q=>ε.fp m q∨q=w.heap.size⟩++[⟨itPtr w.heap.size,fun _=>False⟩])=itPtr w.heap.size by simp only [SV.den,C.den];rw [hlen,at_new]]
   simp only [execOp,opndC_sound hs (gHolds_nil a) hx]
   rw [hP,e2] at hrun
   exact exec_v2 hrun
  rw [hex,Oper.upon_value]
  have hso':=hso cnt
  have hn1:=hne cnt
  rw [if_pos hbc'] at hso' hn1
  cases hput:putSt { st with rg:=st.rg.set m (.mp T n has f (some ⟨w.heap.size,has,cnt,none⟩))++[.itr w.heap.size] } dst [] (.c (.h st.rg.length)) with
  | none=>rw [hput] at hso';cases hso'
  | some st' =>
    rw [hput] at hn1
    simp only [Option.map_some,orNo] at hn1
    exact hn1 b hb _ w' ⟨_,put_sound hs2 hput (fun _=>rfl) (fun hn=>absurd (gHolds_nil _) hn)⟩
 all_goals first | (unfold callV at h;split at h<;>simp at h;done) | (split at h<;>simp at h)
theorem RunF.mnext {A:Type} {T:MT} {n:Nat} {has:KA T.K→Bool} {f:KA T.K→KA T.V} {it:MIt T.K} (m j:Nat) (mk:A→KA T.K) (hmk:∀ a,∃ p,a=mk p) (h:see P fn c=(vc,.op)) (hv:Conj vc)
 (hm:nth (c.at P).rg m=some (.mp T n has f (some it))) (hj:nth (c.at P).rg j=some (.itr it.r)) (hP:T.P=P)
 (hD:(c.mnxD P j).isSome=true) (hM:∀ p cnt,(c.mnxM P m j T n has f it (mk p) cnt).isSome=true)
 (next1:(∀ p,it.left (mk p)=false)→RunF P fn n0 U (orNo (c.mnxD P j)))
 (next2:∀ (p:A) (cnt:Nat),KA.wf T.K (mk p)→it.left (mk p)=true→has (mk p)=true→cnt<it.cnt→RunF P fn n0 U (orNo (c.mnxM P m j T n has f it (mk p) cnt))):RunF P fn n0 U c:=by
 unfold RunF at next1 next2 ⊢
 intro b hb
 unfold see at h
 unfold Cfg.at at hm hj
 unfold Cfg.mnxD at next1 hD
 unfold Cfg.mnxM at next2 hM
 generalize hg:seg P 5000 c.k c.st=rr at h hm hj next1 next2 hD hM
 obtain ⟨vc',out⟩:=rr
 cases out<;>simp only [Prod.mk.injEq,reduceCtorEq,and_false] at h
 case op all o todo k st =>
  obtain ⟨rfl,_⟩:=h
  refine seg_sound hw.mixed 5000 _ _ _ _ hg hv.toAll (fun a w hsat=>?_)
  obtain ⟨ε,hs⟩:=hsat
  simp only at hm hj next1 next2 hD hM
  have hm':=nthSome hm
  have hj':ε.at_ j=itPtr it.r:=hs.regs.reg j _ (nthSome hj)
  obtain ⟨dst,op,type,pos,after,guard⟩:=o
  simp only at hD hM next1 next2
  have hfind:∃ x j',op=.next x false∧guard=none∧opndC st [] x=some (.h j')∧(Nat.beq j j'&&st.scp)=true:=by
   cases op<;>first | (cases hD;done) | skip
   rename_i x s
   cases s with
   | true=>cases hD
   | false =>
   cases guard with
   | some g=>cases hD
   | none =>
     simp only at hD
     split at hD
     ·rename_i m' hx
      split at hD
      ·rename_i hbc;exact ⟨_,m',rfl,rfl,hx,hbc⟩
      ·cases hD
     ·cases hD
  obtain ⟨x,j',rfl,rfl,hx,hbc⟩:=hfind
  simp only [hx,if_pos hbc] at hD hM next1 next2
  have hbc':=hbc
  simp only [Bool.and_eq_true] at hbc
  have e1:=Nat.eq_of_beq_eq_true hbc.1
  have hsc:=hbc.2
  subst e1
  have hh:MapAt w b.M (ε.fp m) T (ε.at_ m) n has f (some it):=hs.regs.reg m _ hm'
  refine wpListW_run (wanted_none rfl _) ?_
  unfold Oper.wp
  rcases hh.next type with ⟨hl,hrun⟩ | ⟨q,w',cnt',hwf,hl,hha,hlt,hrun,hMr,hfr,hgr,hsz,hmp⟩
  ·have hex:(execOp a.eval { dst,op:=.next x false,type,pos,after,guard:=none }).run P w=.ok (.value ((SV.tup [(false,[.t false])]).den ε)) w:=by
    simp only [execOp,opndC_sound hs (gHolds_nil a) hx]
    rw [hP] at hrun
    refine exec_v ?_
    show (Instr.next (ε.at_ j) false type).run P w=_
    rw [hj'];exact hrun
   rw [hex,Oper.upon_value]
   have hn1:=next1 (fun p=>hl (mk p))
   cases hput:putSt st dst [] (.tup [(false,[.t false])]) with
   | none=>rw [hput] at hD;cases hD
   | some st' =>
     rw [hput] at hn1
     simp only [Option.map_some,orNo] at hn1
     exact hn1 b hb _ w ⟨_,put_sound hs hput (fun _=>rfl) (fun hn=>absurd (gHolds_nil _) hn)⟩
  ·obtain ⟨p,rfl⟩:=hmk q
   have hs1:=hs.turn (fp:=ε.fp m) (new:=.mp T n has f (some ⟨it.r,fun q=>it.left q&&!decide (q=mk p),cnt',some (mk p)⟩)) hsc hm' rfl rfl hmp (fun q hq=>⟨.inl hq,Nat.lt_of_lt_of_le (hs.regs.lt m _ hm' rfl q hq).1 hgr.size⟩)
    (grown_fr hgr (fun b hb=>by cases hb;exact hfr))
   have hex:(execOp a.eval { dst,op:=.next x false,type,pos,after,guard:=none }).run P w=.ok (.value ((SV.tup [(false,[.t true]),(T.kAgg,KA.cs T.K (mk p)),(T.vAgg,KA.cs T.V (f (mk p)))]).den (ε.set m ⟨ε.at_ m,ε.fp m⟩))) w':=by
    simp only [execOp,opndC_sound hs (gHolds_nil a) hx]
    rw [hP] at hrun
    refine exec_v2 ?_
    show (Instr.next (ε.at_ j) false type).run P w=_
    rw [hj',hrun]
    simp only [SV.den,List.map_cons,List.map_nil,part_den,KA.cs_den]
    rfl
   rw [hex,Oper.upon_value]
   have hM1:=hM p cnt'
   have hn1:=next2 p cnt' hwf hl hha hlt
   cases hput:putSt { st with rg:=st.rg.set m (.mp T n has f (some ⟨it.r,fun q=>it.left q&&!decide (q=mk p),cnt',some (mk p)⟩)) } dst [] (.tup [(false,[.t true]),(T.kAgg,KA.cs T.K (mk p)),(T.vAgg,KA.cs T.V (f (mk p)))]) with
   | none=>rw [hput] at hM1;cases hM1
   | some st' =>
     rw [hput] at hn1
     simp only [Option.map_some,orNo] at hn1
     exact hn1 b hb _ w' ⟨_,put_sound hs1 hput (fun _=>rfl) (fun hn=>absurd (gHolds_nil _) hn)⟩
 all_goals first | (unfold callV at h;split at h<;>simp at h;done) | (split at h<;>simp at h)
theorem RunF.retRound {X:Type} {I:X→List Reg} {J:X→Prop} {Jx:Code→X→Prop} {v:SV} (x:X) (π:List Nat) {E:List Prop} (h:see P fn c=(vc,.ret v)) (hv:Conj vc)
 (he:endEnt n0 π (c.at P) (I x)=some E) (hE:Conj E) (hJ:Jx .ret x):RunF P fn n0 (Tround I J Jx) c:=by
 unfold RunF
 intro b hb
 unfold see at h
 unfold Cfg.at at he
 generalize hg:seg P 5000 c.k c.st=rr at h he
 obtain ⟨vc',out⟩:=rr
 cases out<;>simp only [Prod.mk.injEq,reduceCtorEq,and_false] at h
 case ret st =>
  split at h
  ·rename_i v' vc2 hr
   simp only [Prod.mk.injEq] at h
   obtain ⟨rfl,_⟩:=h
   exact seg_sound hw.mixed 5000 _ _ _ _ hg hv.toAll.left (fun a w hs=>endEnt_sound hb he hE.toAll hJ hs)
  ·simp at h
 all_goals first | (unfold callV at h;split at h<;>simp at h;done) | (split at h<;>simp at h)
end
attribute [irreducible] Cfg.mrg Cfg.mnxD Cfg.mnxM
end Go.Tx
namespace Go.Tx
open Go
theorem MpEq.put {T:MT} {n n':Nat} {D:KA T.K→Option (KA T.V)} {z:KA T.V} {k:KA T.K} {y:KA T.V} {it':Option (MIt T.K)} (h:n'≤n) :
 MpEq T n (fun q=>(if q=k then some y else D q).isSome) (fun q=>(if q=k then some y else D q).getD z) none T n' (fun q=>decide (q=k)||(D q).isSome) (fun q=>if q=k then y else (D q).getD z) it':=by
 refine MpEq.mk' h (fun q=>?_) (fun q=>?_)
 ·by_cases e:q=k<;>simp [e]
 ·by_cases e:q=k<;>simp [e]
def KA.mk {c:CK} {K:List CK} (x:c.α) (a:KA K):KA (c::K):=match K,a with
 | [],_=>x
 | _::_,a=>(x,a)
theorem KA.vals_mk {c:CK} {K:List CK} (x:c.α) (a:KA K):KA.vals (c::K) (KA.mk x a)=c.val x::KA.vals K a:=by cases K<;>rfl
theorem KA.wf_mk {c:CK} {K:List CK} (x:c.α) (a:KA K):KA.wf (c::K) (KA.mk x a)↔c.wf x∧KA.wf K a:=by
 cases K with
 | nil=>exact ⟨fun h=>⟨h,trivial⟩,fun h=>h.1⟩
 | cons d r=>exact Iff.rfl
theorem KA.un_mk {c:CK} {K:List CK} (a:KA (c::K)):∃ (x:c.α) (b:KA K),a=KA.mk x b:=by
 cases K with
 | nil=>exact ⟨a,(),rfl⟩
 | cons d r=>exact ⟨a.1,a.2,rfl⟩
def plainIs (P:Program) (t:TypeId):CK→Prop
 | .i k=>P.underlying t=some (.int k)
 | .s=>P.underlying t=some .string
 | .b=>P.underlying t=some .bool
def plainFs (P:Program):Nat→List Field→List CK→Prop
 | _,[],[]=>True
 | i,f::r,c::K=>f.offset=i∧P.cellsOf f.type=1∧plainIs P f.type c∧plainFs P (i+1) r K
 | _,_,_=>False
theorem lits_of {P:Program} {d:Nat} {t:TypeId} {c:CK} (h:plainIs P t c) (x:c.α) (hw:c.wf x):∃ ls,P.keyLits (d+1) t [c.val x]=some ls:=by
 cases c with
 | i k =>
   refine ⟨[.int k x],?_⟩
   simp only [Program.keyLits,show P.underlying t=_ from h,CK.val]
   exact if_pos ⟨trivial,hw⟩
 | s =>
   refine ⟨[.string (ByteArray.data x).toList],?_⟩
   simp only [Program.keyLits,show P.underlying t=_ from h,CK.val]
   exact if_pos hw
 | b =>
   refine ⟨[.bool x],?_⟩
   simp only [Program.keyLits,show P.underlying t=_ from h,CK.val]
theorem of_lits {P:Program} {d:Nat} {t:TypeId} {c:CK} (h:plainIs P t c) {v:Value} {ls:List Lit} (hl:P.keyLits (d+1) t [v]=some ls):∃ x:c.α,c.wf x∧v=c.val x:=by
 cases c with
 | i k =>
   simp only [Program.keyLits,show P.underlying t=_ from h] at hl
   cases v<;>simp only [reduceCtorEq] at hl
   split at hl
   ·rename_i hc;exact ⟨_,hc.2,by rw [hc.1];rfl⟩
   ·cases hl
 | s =>
   simp only [Program.keyLits,show P.underlying t=_ from h] at hl
   cases v<;>simp only [reduceCtorEq] at hl
   split at hl
   ·rename_i hc;exact ⟨_,hc,rfl⟩
   ·cases hl
 | b =>
   simp only [Program.keyLits,show P.underlying t=_ from h] at hl
   cases v<;>simp only [reduceCtorEq] at hl
   exact ⟨_,trivial,rfl⟩
theorem drop_one {α:Type} {l:List α} {i:Nat} {x:α} {r:List α} (h:l.drop i=x::r):(l.drop i).take 1=[x]∧l.drop (i+1)=r:=by
 refine ⟨by rw [h];rfl,?_⟩
 rw [← List.drop_drop,h];rfl
theorem fields_lits {P:Program} {d:Nat}:∀ {i:Nat} {fs:List Field} {K:List CK} (hp:plainFs P i fs K) {cs:List Value} {a:KA K},cs.drop i=KA.vals K a→KA.wf K a →
 ∃ ls,(fs.mapM fun (f:Field)=>P.keyLits (d+1) f.type ((cs.drop f.offset).take (P.cellsOf f.type)))=some ls
 | i,[],[],_,cs,a,h,hw=>⟨[],rfl⟩
 | i,f::r,c::K,hp,cs,a,h,hw=>by
   obtain ⟨h1,h2,h3,h4⟩:=hp
   obtain ⟨x,b,rfl⟩:=KA.un_mk a
   rw [KA.vals_mk] at h
   obtain ⟨w1,w2⟩:=(KA.wf_mk x b).1 hw
   obtain ⟨e1,e2⟩:=drop_one h
   obtain ⟨ls,hl⟩:=lits_of (d:=d) h3 x w1
   obtain ⟨ls2,hl2⟩:=fields_lits h4 e2 w2
   refine ⟨ls::ls2,?_⟩
   rw [List.mapM_cons,h1,h2,e1,hl,hl2]
   rfl
 | _,[],_::_,hp,_,_,_,_=>hp.elim
 | _,_::_,[],hp,_,_,_,_=>hp.elim
theorem lits_fields {P:Program} {d:Nat}:∀ {i:Nat} {fs:List Field} {K:List CK} (hp:plainFs P i fs K) {cs:List Value},cs.length=i+K.length→∀ {ls:List (List Lit)},
 (fs.mapM fun (f:Field)=>P.keyLits (d+1) f.type ((cs.drop f.offset).take (P.cellsOf f.type)))=some ls→∃ a:KA K,KA.wf K a∧cs.drop i=KA.vals K a
 | i,[],[],_,cs,hl,ls,_=>⟨(),trivial,by simp at hl;rw [List.drop_eq_nil_of_le (by omega)];rfl⟩
 | i,f::r,c::K,hp,cs,hl,ls,h=>by
   obtain ⟨h1,h2,h3,h4⟩:=hp
   have hlt:i<cs.length:=by simp at hl;omega
   have hd:cs.drop i=cs[i]::cs.drop (i+1):=List.drop_eq_getElem_cons hlt
   rw [List.mapM_cons,h1,h2,hd] at h
   simp only [List.take_succ_cons,List.take_zero] at h
   cases hk:P.keyLits (d+1) f.type [cs[i]] with
   | none=>rw [hk] at h;cases h
   | some l1 =>
     rw [hk] at h
     cases hr:(r.mapM fun (f:Field)=>P.keyLits (d+1) f.type ((cs.drop f.offset).take (P.cellsOf f.type))) with
     | none=>rw [hr] at h;cases h
     | some l2 =>
       obtain ⟨x,hx1,hx2⟩:=of_lits h3 hk
       obtain ⟨b,hb1,hb2⟩:=lits_fields h4 (cs:=cs) (by simp at hl;omega) hr
       exact ⟨KA.mk x b,(KA.wf_mk x b).2 ⟨hx1,hb1⟩,by rw [hd,KA.vals_mk,hx2,hb2]⟩
 | _,[],_::_,hp,_,_,_,_=>hp.elim
 | _,_::_,[],hp,_,_,_,_=>hp.elim
theorem keyLits_struct {P:Program} {d:Nat} {k:TypeId} {fs:Array Field} (hk:P.underlying k=some (.struct fs)) (cs:List Value):P.keyLits (d+1) k cs =
 if cs.length = P.cellsOf k ∧ fs.all (·.name != "_") = true then (fs.toList.mapM fun f => P.keyLits d f.type ((cs.drop f.offset).take (P.cellsOf f.type))).map List.flatten else none := by
 conv=>lhs;unfold Program.keyLits
 simp only [hk]
section
variable {P:Program} {t k e:Nat} {K:List CK} {V:List CK} {va:Bool}
theorem MT.ok_struct {fs : Array Field} (ht : P.underlying t = some (.map k e)) (hk : P.underlying k = some (.struct fs)) (hkey : Go.Maps.Keyed P k) (hty : P.keyType k = true) (hn : fs.all (·.name != "_") = true) (hp : plainFs P 0 fs.toList K) (hc : P.cellsOf k = K.length) (hsz : 0 < P.types.size)
 (hv:va=true∨V.length=1) (hz:∀ w,(zeroValue e).run P w=.ok (mkVal va (KA.vals V (KA.zero V))) w):MT.Ok ⟨P,t,k,e,K,true,V,va⟩ where
 map:=ht
 key:=hkey
 lit:=fun a ha=>by
  have hcells:(Value.agg (KA.vals K a).toArray).formed P k=true:=by
   simp only [Value.formed,hk]
   simp [KA.vals_len,hc]
  obtain ⟨d,hd⟩:∃ d,P.types.size=d+1:=⟨P.types.size-1,by omega⟩
  obtain ⟨ls,hls⟩:=fields_lits (d:=d) hp (cs:=KA.vals K a) (a:=a) rfl ha
  refine ⟨.string (keyBytes ls.flatten),?_⟩
  show keyOf P k (.agg (KA.vals K a).toArray)=_
  unfold keyOf
  simp only [hk,hty,hcells,Bool.and_self,if_true]
  rw [hd]
  show (P.keyLits (d+1+1) k (KA.vals K a)).map _=_
  rw [keyLits_struct hk,if_pos ⟨by rw [hc];exact KA.vals_len K a,hn⟩]
  rw [hls];rfl
 inv:=fun v l h=>by
  obtain ⟨d,hd⟩:∃ d,P.types.size=d+1:=⟨P.types.size-1,by omega⟩
  unfold keyOf at h
  simp only [hk,hty,Bool.true_and] at h
  split at h
  ·rename_i hf
   rw [hd] at h
   cases v with
   | agg cs =>
     have h:(P.keyLits (d+1+1) k cs.toList).map (fun ls=>Lit.string (keyBytes ls))=some l:=h
     rw [keyLits_struct hk] at h
     simp only [Option.map_eq_some_iff] at h
     obtain ⟨l0,h,_⟩:=h
     split at h
     ·rename_i hcc
      cases hls:(fs.toList.mapM fun (f:Field)=>P.keyLits (d+1) f.type ((cs.toList.drop f.offset).take (P.cellsOf f.type))) with
      | none=>rw [hls] at h;cases h
      | some ls =>
        obtain ⟨a,ha,hva⟩:=lits_fields hp (cs:=cs.toList) (by rw [hcc.1,hc];omega) hls
        refine ⟨a,ha,?_⟩
        show Value.agg cs=.agg (KA.vals K a).toArray
        rw [← hva,List.drop_zero]
     ·cases h
   | _=>simp [Value.formed,hk] at hf
  ·cases h
 one:=.inl rfl
 oneE:=hv
 zero:=hz
end
end Go.Tx
noncomputable section
namespace Go.Proofs.Ytlblobbklioofaa
open Go Go.Tx
theorem laidT:laidOutB Try.prog=true:=by kernel_rfl
abbrev z27_13:=[CK.i IntKind.i64,CK.i IntKind.i64]
abbrev z27_1:=(MT.mk Try.prog 65 67 3 z27_13 true [CK.i IntKind.i64] false)
theorem mtok_stay:MT.Ok z27_1:=
 MT.ok_struct K Try.underlying67 (Go.Maps.Keyed.of_law (deep_law_laid laidT (m:=2) (by omega) (of_decide_eq_true K) K (by rw [Try.underlying67]))) K K
  ⟨rfl,by kernel_rfl,Try.underlying3,rfl,by kernel_rfl,Try.underlying3,trivial⟩ K (of_decide_eq_true K) (.inr rfl) (fun w=>by kernel_rfl)
def R10_I (mem:List Int) (sh lk bu:Int) (cs:List Cor) (l:List Did):Int×Nat×(Int×Int→Option Int)→List Reg:=fun x=>[IntRow mem,Cor.rowR cs,Did.rowR l,.ro [.h 0,.i .i64 sh,.i .i64 lk,.i .i64 bu,.h 1,.h 2,.h 4],Ev.rowR (evL mem sh lk bu cs l),Reg.box 26 [.h 2],Reg.box 3 [.i .i64 x.1],Reg.box 28 [.i .i64 0],.ro [.p 3 0],Reg.box 65 [.h 10],Reg.mp z27_1 x.2.1 (fun q=>(x.2.2 q).isSome) (fun q=>(x.2.2 q).getD (0:Int)) none]
def R10_J (mem:List Int) (sh lk bu:Int) (cs:List Cor) (l:List Did):Nat→Int×Nat×(Int×Int→Option Int)→Prop:=fun k x=>x.1=0∧x.2.1≤k∧x.2.2=tillUp l (blkL mem sh lk bu cs l) k∧findFrom (crowdP (blkL mem sh lk bu cs l)) 0 (blkL mem sh lk bu cs l).length=findFrom (crowdP (blkL mem sh lk bu cs l)) k (blkL mem sh lk bu cs l).length
def R10_Jx (mem:List Int) (sh lk bu:Int) (cs:List Cor) (l:List Did):Go.Code→Int×Nat×(Int×Int→Option Int)→Prop:=fun cd x=>cd=Go.Code.ret∧x.1=crowdV (blkL mem sh lk bu cs l)
def R10_n (mem:List Int) (sh lk bu:Int) (cs:List Cor) (l:List Did):Nat:=(blkL mem sh lk bu cs l).length
def R10_enc (mem:List Int) (sh lk bu:Int) (cs:List Cor) (l:List Did):Nat→SV:=fun k=>.agg ((blkL mem sh lk bu cs l).getD k default).cs
def R10_P (mem:List Int) (sh lk bu:Int) (cs:List Cor) (l:List Did):List Reg:=[IntRow mem,Cor.rowR cs,Did.rowR l,Ev.rowR (evL mem sh lk bu cs l),.ro [.h 0,.i .i64 sh,.i .i64 lk,.i .i64 bu,.h 1,.h 2,.h 3],.ro [.p 4 0]]
def R10_Q:List SV:=[.c (.p 5 0)]
abbrev z27_2 (mem:List Int) (sh:Int) (lk:Int) (bu:Int) (cs:List Cor) (l:List Did) (k2:Nat):=Reg.box 48 [C.i .i64 ((blkL mem sh lk bu cs l).getD k2 default).lock,C.i .i64 ((blkL mem sh lk bu cs l).getD k2 default).core,C.i .i64 ((blkL mem sh lk bu cs l).getD k2 default).from_,C.i .i64 ((blkL mem sh lk bu cs l).getD k2 default).left,C.i .i64 ((blkL mem sh lk bu cs l).getD k2 default).to]
abbrev z27_3 (mem:List Int) (sh:Int) (lk:Int) (bu:Int) (cs:List Cor) (l:List Did):=Reg.row 7 (evL mem sh lk bu cs l).length (fun i=>((evL mem sh lk bu cs l).getD i default).tc) none
abbrev z27_4 (cs:List Cor):=Reg.row 2 cs.length (fun i=>(cs.getD i default).tc) none
abbrev z27_5 (l:List Did):=Reg.row 7 l.length (fun i=>(l.getD i default).tc) none
abbrev z27_6 (sh:Int) (lk:Int) (bu:Int):=Reg.ro [C.h 0,C.i .i64 sh,C.i .i64 lk,C.i .i64 bu,C.h 1,C.h 2,C.h 4]
abbrev z27_7:=Reg.box 28 [C.i .i64 0]
abbrev z27_9:=Reg.box 65 [C.h 10]
def L10_0_I (mem:List Int) (sh:Int) (lk:Int) (bu:Int) (cs:List Cor) (l:List Did) (k2:Nat) (x2_0:Int) (x2_1:Nat) (x2_2:Int×Int→Option Int) (rr3:Nat) (cc3:Nat):(Int×Int→Bool)×Nat→St:=fun x=>{ N:=65,fr:=[{ slot:=28,g:=[],sv:=SV.c (C.h 12) },{ slot:=9,g:=[],sv:=SV.c (C.p 11 0) },{ slot:=8,g:=[],sv:=SV.c (C.p 9 0) },{ slot:=5,g:=[],sv:=SV.c (C.p 7 0) },{ slot:=4,g:=[],sv:=SV.c (C.p 6 0) },{ slot:=3,g:=[],sv:=SV.c (C.p 5 0) }],rg:=[Reg.row 1 mem.length (fun i=>i64T (mem.getD i (0:Int))) none,z27_4 cs,z27_5 l,z27_6 sh lk bu,z27_3 mem sh lk bu cs l,Reg.box 26 [C.h 2],Reg.box 3 [C.i .i64 x2_0],z27_7,Reg.ro [C.p 3 0],z27_9,Reg.mp z27_1 (x2_1) (fun q=>(x2_2 q).isSome) (fun q=>(x2_2 q).getD (0:Int)) (some (MIt.mk (rr3) (x.1) (x.2) none)),z27_2 mem sh lk bu cs l k2,Reg.itr rr3],wr:=[1000000007] }
def L10_0_J (mem:List Int) (sh:Int) (lk:Int) (bu:Int) (cs:List Cor) (l:List Did) (k2:Nat) (x2_0:Int) (x2_1:Nat) (x2_2:Int×Int→Option Int) (rr3:Nat) (cc3:Nat):(Int×Int→Bool)×Nat→Prop:=fun x=>∀ q:Int×Int,(x2_2 q).isSome=true→x.1 q=false→¬ (q.1=((blkL mem sh lk bu cs l).getD k2 default).lock∧((blkL mem sh lk bu cs l).getD k2 default).from_<(x2_2 q).getD 0)
def L10_0_m (mem:List Int) (sh:Int) (lk:Int) (bu:Int) (cs:List Cor) (l:List Did) (k2:Nat) (x2_0:Int) (x2_1:Nat) (x2_2:Int×Int→Option Int) (rr3:Nat) (cc3:Nat):(Int×Int→Bool)×Nat→Nat:=fun x=>x.2
abbrev z27_12:=[En.mk 9 [] (SV.c (C.p 11 0)),En.mk 8 [] (SV.c (C.p 9 0)),En.mk 5 [] (SV.c (C.p 7 0)),En.mk 4 [] (SV.c (C.p 6 0)),En.mk 3 [] (SV.c (C.p 5 0))]
def R10_A (mem:List Int) (sh lk bu:Int) (cs:List Cor) (l:List Did):Nat→Int×Nat×(Int×Int→Option Int)→St:=fun k x=>St.mk 65 z27_12 [Reg.row 1 mem.length (fun i=>i64T (mem.getD i (0:Int))) none,z27_4 cs,z27_5 l,z27_6 sh lk bu,z27_3 mem sh lk bu cs l,Reg.box 26 [C.h 2],Reg.box 3 [C.i .i64 x.fst],z27_7,Reg.ro [C.p 3 0],z27_9,Reg.mp z27_1 x.snd.fst (fun q=>(x.snd.snd q).isSome) (fun q=>(x.snd.snd q).getD (0:Int)) none,Reg.box 48 [C.i .i64 ((blkL mem sh lk bu cs l).getD k default).lock,C.i .i64 ((blkL mem sh lk bu cs l).getD k default).core,C.i .i64 ((blkL mem sh lk bu cs l).getD k default).from_,C.i .i64 ((blkL mem sh lk bu cs l).getD k default).left,C.i .i64 ((blkL mem sh lk bu cs l).getD k default).to]] [1000000007]
abbrev z27_8 (mem:List Int) (sh:Int) (lk:Int) (bu:Int) (cs:List Cor) (l:List Did) (k2:Nat):=(((blkL mem sh lk bu cs l).getD k2 default).lock,((blkL mem sh lk bu cs l).getD k2 default).core)
abbrev z27_10 (mem:List Int) (sh:Int) (lk:Int) (bu:Int) (cs:List Cor) (l:List Did):=(evL mem sh lk bu cs l).length=(evL mem sh lk bu cs l).length
abbrev z27_11:=[En.mk 28 [] (SV.c (C.h 12)),En.mk 9 [] (SV.c (C.p 11 0)),En.mk 8 [] (SV.c (C.p 9 0)),En.mk 5 [] (SV.c (C.p 7 0)),En.mk 4 [] (SV.c (C.p 6 0)),En.mk 3 [] (SV.c (C.p 5 0))]
abbrev z27_14 (mem:List Int) (sh:Int) (lk:Int) (bu:Int) (cs:List Cor) (l:List Did) (k2:Nat):=((blkL mem sh lk bu cs l).getD k2 default).from_=((blkL mem sh lk bu cs l).getD k2 default).from_
abbrev z27_15 (sh:Int) (lk:Int) (bu:Int):=Reg.box 81 [C.h 0,C.i .i64 sh,C.i .i64 lk,C.i .i64 bu,C.h 1,C.h 2,C.h 8]
abbrev z27_16 (mem:List Int) (sh:Int) (lk:Int) (bu:Int) (cs:List Cor) (l:List Did):=Reg.own 63 7 (evL mem sh lk bu cs l).length (fun i=>((evL mem sh lk bu cs l).getD i default).tc) none
theorem c_crowdT (mem:List Int) (sh lk bu:Int) (cs:List Cor) (l:List Did) (hw:∀ a b:Nat,insK ((cs.getD a default).code.getD b default)) (hl:∀ a:Nat,0≤(l.getD a default).kind∧(l.getD a default).kind≤255) (hn:(l.length:Int) * 4096≤140737488355328):Ctr Try.prog 10 [IntRow mem,Cor.rowR cs,Did.rowR l] [.agg [.h 0,.i .i64 sh,.i .i64 lk,.i .i64 bu,.h 1],.c (.h 2)]
 (Det (.tup [(false,[.i .i64 (crowdL mem sh lk bu cs l)]),(false,[.i .i64 (evE mem sh lk bu cs l)])]) [.dead,.dead,.dead]):=by
 refine Ctr.intro [] Try.func10 K K ?_
 refine RunF.lens 2 (m:=l.length) K (fun hlens_2=>?_)
 refine RunF.call (vc:=[]) (args:=[SV.agg [C.h 0,C.i .i64 sh,C.i .i64 lk,C.i .i64 bu,C.h 1],SV.c (C.h 2)]) e_monitor_begun (c_begun (mem:=mem) (sh:=sh) (lk:=lk) (bu:=bu) (cs:=cs) (l:=l) (hw:=by first | assumption | omega | exact hw | exact hl) (hl:=by first | assumption | omega | exact hw | exact hl) (hn:=by first | assumption | omega | exact hw | exact hl)) [0,1,2] (E:=[mem.length=mem.length,∀ (i:Nat),i<mem.length→i64T (mem.getD i (0:Int))=i64T (mem.getD i (0:Int)),cs.length=cs.length,∀ (i:Nat),i<cs.length→(cs.getD i default).tc=(cs.getD i default).tc,l.length=l.length,∀ (i:Nat),i<l.length→(l.getD i default).tc=(l.getD i default).tc,sh=sh,lk=lk,bu=bu]) K trivial K R K ?_
 refine RunF.chk [17,5,4,3] [.ops [1,0] 3,.code [1,1]] (St.mk 65 [En.mk 17 [] (SV.tup [(false,[C.p 7 0]),(false,[C.i .i64 (evE mem sh lk bu cs l)])]),En.mk 5 [] (SV.c (C.p 6 0)),En.mk 4 [] (SV.c (C.p 5 0)),En.mk 3 [] (SV.c (C.p 4 0))] [Reg.row 1 mem.length (fun i=>i64T (mem.getD i (0:Int))) none,z27_4 cs,z27_5 l,Reg.box 25 [C.h 0,C.i .i64 sh,C.i .i64 lk,C.i .i64 bu,C.h 1],Reg.box 26 [C.h 2],Reg.box 3 [C.i .i64 0],z27_7,z27_15 sh lk bu,z27_16 mem sh lk bu cs l] []) K ?_
 refine RunF.cond (vc:=[]) (x:=!decide (evE mem sh lk bu cs l=(0:Int))) K trivial (fun h1=>?_) (fun h1=>?_)
 ·exact RunF.ret (vc:=[]) (v:=SV.tup [(false,[C.i .i64 0]),(false,[C.i .i64 (evE mem sh lk bu cs l)])]) _ _ [0,1,2] (E:=[crowdL mem sh lk bu cs l=(0:Int),evE mem sh lk bu cs l=evE mem sh lk bu cs l]) K trivial ⟨rfl,rfl⟩ K V39
 ·refine RunF.chk [6,5,4,3] [.code [1,1,0,1,1],.code [1,1,1]] (St.mk 65 [En.mk 6 [] (SV.c (C.p 7 0)),En.mk 5 [] (SV.c (C.p 6 0)),En.mk 4 [] (SV.c (C.p 5 0)),En.mk 3 [] (SV.c (C.p 4 0))] [Reg.row 1 mem.length (fun i=>i64T (mem.getD i (0:Int))) none,z27_4 cs,z27_5 l,Reg.box 25 [C.h 0,C.i .i64 sh,C.i .i64 lk,C.i .i64 bu,C.h 1],Reg.box 26 [C.h 2],Reg.box 3 [C.i .i64 0],z27_7,z27_15 sh lk bu,z27_16 mem sh lk bu cs l] []) K ?_
  refine RunF.call (vc:=[(MT.mk Try.prog 65 67 3 [CK.i IntKind.i64,CK.i IntKind.i64] true [CK.i IntKind.i64] false).P=Try.prog,(MT.mk Try.prog 65 67 3 [CK.i IntKind.i64,CK.i IntKind.i64] true [CK.i IntKind.i64] false).Ok]) (args:=[SV.c (C.p 7 0)]) e_monitor_looking_blocks (c_blocksF) [7] (E:=[]) K V11 K trivial K ?_
  refine RunF.chk [25,8,5,4,3] [.ops [1,1,1,1,0,0] 2,.code [1,1,1,1,0,1],.code [1,1,1,1,1]] (St.mk 65 [En.mk 25 [] (SV.c (C.fn 34 [11])),En.mk 8 [] (SV.c (C.p 10 0)),En.mk 5 [] (SV.c (C.p 6 0)),En.mk 4 [] (SV.c (C.p 5 0)),En.mk 3 [] (SV.c (C.p 4 0))] [Reg.row 1 mem.length (fun i=>i64T (mem.getD i (0:Int))) none,z27_4 cs,z27_5 l,Reg.box 25 [C.h 0,C.i .i64 sh,C.i .i64 lk,C.i .i64 bu,C.h 1],Reg.box 26 [C.h 2],Reg.box 3 [C.i .i64 0],z27_7,z27_15 sh lk bu,z27_16 mem sh lk bu cs l,Reg.mp z27_1 0 (fun x=>false) (fun x=>KA.zero z27_1.V) none,Reg.box 65 [C.h 9],Reg.box 52 [C.p 7 0]] []) K ?_
  refine RunF.range (I:=R10_I mem sh lk bu cs l) (J:=R10_J mem sh lk bu cs l) (Jx:=R10_Jx mem sh lk bu cs l) (n:=R10_n mem sh lk bu cs l) (nf:=11) (fi:=34) (enc:=R10_enc mem sh lk bu cs l) (stA:=R10_A mem sh lk bu cs l) (preI:=R10_P mem sh lk bu cs l) (argsI:=R10_Q) (caps:=[8]) (((0:Int),0,fun x=>none)) (St.mk 65 [En.mk 25 [] (SV.c (C.fn 34 [8])),En.mk 8 [] (SV.c (C.p 9 0)),En.mk 5 [] (SV.c (C.p 7 0)),En.mk 4 [] (SV.c (C.p 6 0)),En.mk 3 [] (SV.c (C.p 5 0))] [Reg.row 1 mem.length (fun i=>i64T (mem.getD i (0:Int))) none,z27_4 cs,z27_5 l,z27_6 sh lk bu,z27_3 mem sh lk bu cs l,Reg.box 26 [C.h 2],Reg.box 3 [C.i .i64 0],z27_7,Reg.ro [C.p 3 0],z27_9,Reg.mp z27_1 0 (fun (q:Int×Int)=>false) (fun (q:Int×Int)=>(0:Int)) none] []) [0,1,2,7,8,4,5,6,11,10,9] [0,1,2,4,3,8] (vc:=[]) (E:=[mem.length=mem.length,∀ (i:Nat),i<mem.length→i64T (mem.getD i (0:Int))=i64T (mem.getD i (0:Int)),cs.length=cs.length,∀ (i:Nat),i<cs.length→(cs.getD i default).tc=(cs.getD i default).tc,l.length=l.length,∀ (i:Nat),i<l.length→(l.getD i default).tc=(l.getD i default).tc,sh=sh,lk=lk,bu=bu,z27_10 mem sh lk bu cs l,∀ (i:Nat),i<(evL mem sh lk bu cs l).length→((evL mem sh lk bu cs l).getD i default).tc=((evL mem sh lk bu cs l).getD i default).tc,(0:Int)=(0:Int),(0:Int)=(0:Int),MpEq (MT.mk Try.prog 65 67 3 [CK.i IntKind.i64,CK.i IntKind.i64] true [CK.i IntKind.i64] false) 0 (fun (q:Int×Int)=>false) (fun (q:Int×Int)=>(0:Int)) none (MT.mk Try.prog 65 67 3 [CK.i IntKind.i64,CK.i IntKind.i64] true [CK.i IntKind.i64] false) 0 (fun x=>false) (fun x=>KA.zero (MT.mk Try.prog 65 67 3 [CK.i IntKind.i64,CK.i IntKind.i64] true [CK.i IntKind.i64] false).V) none]) (E2:=[mem.length=mem.length,∀ (i:Nat),i<mem.length→i64T (mem.getD i (0:Int))=i64T (mem.getD i (0:Int)),cs.length=cs.length,∀ (i:Nat),i<cs.length→(cs.getD i default).tc=(cs.getD i default).tc,l.length=l.length,∀ (i:Nat),i<l.length→(l.getD i default).tc=(l.getD i default).tc,z27_10 mem sh lk bu cs l,∀ (i:Nat),i<(evL mem sh lk bu cs l).length→((evL mem sh lk bu cs l).getD i default).tc=((evL mem sh lk bu cs l).getD i default).tc,sh=sh,lk=lk,bu=bu]) K trivial K V4 K e_monitor_looking_blocks_1 K K K K K ⟨rfl,Nat.le_refl _,rfl,rfl⟩ K R K K (fun k=>by kernel_rfl) (fun Xe hn he hy=>c_blocks_it mem sh lk bu cs l (evL mem sh lk bu cs l) (evE_ok (mem:=mem) (bu:=bu) (cs:=cs) (l:=l) V64) evL_ok Xe hn he hy) ?_ (fun _ _=>by kernel_rfl) ?_ ?_ ?_
  ·intro k2 x2 hk2 hJ2
   exact RunF.to (I:=fun x=>R10_A mem sh lk bu cs l k2 x2) (J:=fun x=>True) (vc:=[]) () [0,1,2,3,4,5,6,7,8,9,10,11] (E:=[mem.length=mem.length,∀ (i:Nat),i<mem.length→i64T (mem.getD i (0:Int))=i64T (mem.getD i (0:Int)),cs.length=cs.length,∀ (i:Nat),i<cs.length→(cs.getD i default).tc=(cs.getD i default).tc,l.length=l.length,∀ (i:Nat),i<l.length→(l.getD i default).tc=(l.getD i default).tc,sh=sh,lk=lk,bu=bu,z27_10 mem sh lk bu cs l,∀ (i:Nat),i<(evL mem sh lk bu cs l).length→((evL mem sh lk bu cs l).getD i default).tc=((evL mem sh lk bu cs l).getD i default).tc,x2.fst=x2.fst,(0:Int)=(0:Int),MpEq (MT.mk Try.prog 65 67 3 [CK.i IntKind.i64,CK.i IntKind.i64] true [CK.i IntKind.i64] false) x2.snd.fst (fun (q:Int×Int)=>(x2.snd.snd q).isSome) (fun (q:Int×Int)=>(x2.snd.snd q).getD (0:Int)) none (MT.mk Try.prog 65 67 3 [CK.i IntKind.i64,CK.i IntKind.i64] true [CK.i IntKind.i64] false) x2.snd.fst (fun (q:Int×Int)=>(x2.snd.snd q).isSome) (fun (q:Int×Int)=>(x2.snd.snd q).getD (0:Int)) none,((blkL mem sh lk bu cs l).getD k2 default).lock=((blkL mem sh lk bu cs l).getD k2 default).lock,((blkL mem sh lk bu cs l).getD k2 default).core=((blkL mem sh lk bu cs l).getD k2 default).core,z27_14 mem sh lk bu cs l k2,((blkL mem sh lk bu cs l).getD k2 default).left=((blkL mem sh lk bu cs l).getD k2 default).left,((blkL mem sh lk bu cs l).getD k2 default).to=((blkL mem sh lk bu cs l).getD k2 default).to]) K trivial K V4 trivial
  ·rintro k2 ⟨x2_0,x2_1,x2_2⟩ hk2 hJ2
   dsimp only [R10_J,R10_Jx,R10_n] at hJ2
   refine RunF.chk [9,8,5,4,3] [.code [1,1,1,1,0,1,0,1],.jmp (fun b a w=>RegsAt (R10_I mem sh lk bu cs l) (R10_J mem sh lk bu cs l (k2+1)) b w)] (St.mk 65 z27_12 [Reg.row 1 mem.length (fun i=>i64T (mem.getD i (0:Int))) none,z27_4 cs,z27_5 l,z27_6 sh lk bu,z27_3 mem sh lk bu cs l,Reg.box 26 [C.h 2],Reg.box 3 [C.i .i64 x2_0],z27_7,Reg.ro [C.p 3 0],z27_9,Reg.mp z27_1 x2_1 (fun (q:Int×Int)=>(x2_2 q).isSome) (fun (q:Int×Int)=>(x2_2 q).getD (0:Int)) none,z27_2 mem sh lk bu cs l k2] [1000000007]) K ?_
   refine RunF.mrange (T:=MT.mk Try.prog 65 67 3 z27_13 true [CK.i IntKind.i64] false) (n:=x2_1) (has:=fun (q:Int×Int)=>(x2_2 q).isSome) (f:=fun (q:Int×Int)=>(x2_2 q).getD (0:Int)) (it:=none) (vc:=[]) 10 K trivial K rfl (fun _ _=>by kernel_rfl) (fun rr3 cc3=>?_)
   refine RunF.chk [28,9,8,5,4,3] [.ops [1,1,1,1,0,1,0,1,0,0,0] 2,.code [1,1,1,1,0,1,0,1,0,0,1],.code [1,1,1,1,0,1,0,1,0,1],.blk 1,.jmp (fun b a w=>RegsAt (R10_I mem sh lk bu cs l) (R10_J mem sh lk bu cs l (k2+1)) b w)] (St.mk 65 z27_11 [Reg.row 1 mem.length (fun i=>i64T (mem.getD i (0:Int))) none,z27_4 cs,z27_5 l,z27_6 sh lk bu,z27_3 mem sh lk bu cs l,Reg.box 26 [C.h 2],Reg.box 3 [C.i .i64 x2_0],z27_7,Reg.ro [C.p 3 0],z27_9,Reg.mp z27_1 x2_1 (fun (q:Int×Int)=>(x2_2 q).isSome) (fun (q:Int×Int)=>(x2_2 q).getD (0:Int)) (some (MIt.mk (K:=z27_13) rr3 (fun (q:Int×Int)=>(x2_2 q).isSome) cc3 none)),z27_2 mem sh lk bu cs l k2,Reg.itr rr3] [1000000007]) K ?_
   refine RunF.loop (vc:=[]) (L10_0_I mem sh lk bu cs l k2 x2_0 x2_1 x2_2 rr3 cc3) (L10_0_J mem sh lk bu cs l k2 x2_0 x2_1 x2_2 rr3 cc3) (L10_0_m mem sh lk bu cs l k2 x2_0 x2_1 x2_2 rr3 cc3) ((fun (q:Int×Int)=>(x2_2 q).isSome,cc3)) [0,1,2,3,4,5,6,7,8,9,10,11,12] (E:=[mem.length=mem.length,∀ (i:Nat),i<mem.length→i64T (mem.getD i (0:Int))=i64T (mem.getD i (0:Int)),cs.length=cs.length,∀ (i:Nat),i<cs.length→(cs.getD i default).tc=(cs.getD i default).tc,l.length=l.length,∀ (i:Nat),i<l.length→(l.getD i default).tc=(l.getD i default).tc,sh=sh,lk=lk,bu=bu,z27_10 mem sh lk bu cs l,∀ (i:Nat),i<(evL mem sh lk bu cs l).length→((evL mem sh lk bu cs l).getD i default).tc=((evL mem sh lk bu cs l).getD i default).tc,x2_0=x2_0,(0:Int)=(0:Int),MpEq (MT.mk Try.prog 65 67 3 [CK.i IntKind.i64,CK.i IntKind.i64] true [CK.i IntKind.i64] false) x2_1 (fun (q:Int×Int)=>(x2_2 q).isSome) (fun (q:Int×Int)=>(x2_2 q).getD (0:Int)) (some (MIt.mk (K:=[CK.i IntKind.i64,CK.i IntKind.i64]) rr3 (fun (q:Int×Int)=>(x2_2 q).isSome) cc3 none)) (MT.mk Try.prog 65 67 3 [CK.i IntKind.i64,CK.i IntKind.i64] true [CK.i IntKind.i64] false) x2_1 (fun (q:Int×Int)=>(x2_2 q).isSome) (fun (q:Int×Int)=>(x2_2 q).getD (0:Int)) (some (MIt.mk (K:=[CK.i IntKind.i64,CK.i IntKind.i64]) rr3 (fun (q:Int×Int)=>(x2_2 q).isSome) cc3 none)),((blkL mem sh lk bu cs l).getD k2 default).lock=((blkL mem sh lk bu cs l).getD k2 default).lock,((blkL mem sh lk bu cs l).getD k2 default).core=((blkL mem sh lk bu cs l).getD k2 default).core,z27_14 mem sh lk bu cs l k2,((blkL mem sh lk bu cs l).getD k2 default).left=((blkL mem sh lk bu cs l).getD k2 default).left,((blkL mem sh lk bu cs l).getD k2 default).to=((blkL mem sh lk bu cs l).getD k2 default).to,rr3=rr3]) K trivial K V4 (by dsimp only [L10_0_J];intro q h1 h2;rw [h1] at h2;cases h2) ?_
   rintro ⟨x4_0,x4_1⟩ hJ4
   dsimp only [L10_0_J] at hJ4
   refine RunF.chk [28,9,8,5,4,3] [.code [1,1,1,1,0,1,0,1,0,0,1,0,0],.jmp (Tx.Next (L10_0_I mem sh lk bu cs l k2 x2_0 x2_1 x2_2 rr3 cc3) (L10_0_J mem sh lk bu cs l k2 x2_0 x2_1 x2_2 rr3 cc3) (L10_0_m mem sh lk bu cs l k2 x2_0 x2_1 x2_2 rr3 cc3) (x4_0,x4_1)),.blk 2,.code [1,1,1,1,0,1,0,1,0,1],.blk 1,.jmp (fun b a w=>RegsAt (R10_I mem sh lk bu cs l) (R10_J mem sh lk bu cs l (k2+1)) b w)] (St.mk 65 z27_11 [Reg.row 1 mem.length (fun i=>i64T (mem.getD i (0:Int))) none,z27_4 cs,z27_5 l,z27_6 sh lk bu,z27_3 mem sh lk bu cs l,Reg.box 26 [C.h 2],Reg.box 3 [C.i .i64 x2_0],z27_7,Reg.ro [C.p 3 0],z27_9,Reg.mp z27_1 x2_1 (fun (q:Int×Int)=>(x2_2 q).isSome) (fun (q:Int×Int)=>(x2_2 q).getD (0:Int)) (some (MIt.mk (K:=z27_13) rr3 x4_0 x4_1 none)),z27_2 mem sh lk bu cs l k2,Reg.itr rr3] [1000000007]) K ?_
   refine RunF.mnext (A:=Int×Int) (T:=MT.mk Try.prog 65 67 3 z27_13 true [CK.i IntKind.i64] false) (n:=x2_1) (has:=fun (q:Int×Int)=>(x2_2 q).isSome) (f:=fun (q:Int×Int)=>(x2_2 q).getD (0:Int)) (it:=MIt.mk (K:=z27_13) rr3 x4_0 x4_1 none) (vc:=[]) 10 12 (fun p=>p) (fun a=>⟨a,rfl⟩) K trivial K K rfl K (fun _ _=>by kernel_rfl) ?_ ?_
   ·intro hl5
    dsimp only at hl5
    refine RunF.chk [29,28,9,8,5,4,3] [.ops [1,1,1,1,0,1,0,1,0,0,1,0,0,0] 1,.code [1,1,1,1,0,1,0,1,0,0,1,0,0,1],.jmp (Tx.Next (L10_0_I mem sh lk bu cs l k2 x2_0 x2_1 x2_2 rr3 cc3) (L10_0_J mem sh lk bu cs l k2 x2_0 x2_1 x2_2 rr3 cc3) (L10_0_m mem sh lk bu cs l k2 x2_0 x2_1 x2_2 rr3 cc3) (x4_0,x4_1)),.blk 2,.code [1,1,1,1,0,1,0,1,0,1],.blk 1,.jmp (fun b a w=>RegsAt (R10_I mem sh lk bu cs l) (R10_J mem sh lk bu cs l (k2+1)) b w)] (St.mk 65 [En.mk 29 [] (SV.tup [(false,[C.t false])]),En.mk 28 [] (SV.c (C.h 12)),En.mk 9 [] (SV.c (C.p 11 0)),En.mk 8 [] (SV.c (C.p 9 0)),En.mk 5 [] (SV.c (C.p 7 0)),En.mk 4 [] (SV.c (C.p 6 0)),En.mk 3 [] (SV.c (C.p 5 0))] [Reg.row 1 mem.length (fun i=>i64T (mem.getD i (0:Int))) none,z27_4 cs,z27_5 l,z27_6 sh lk bu,z27_3 mem sh lk bu cs l,Reg.box 26 [C.h 2],Reg.box 3 [C.i .i64 x2_0],z27_7,Reg.ro [C.p 3 0],z27_9,Reg.mp z27_1 x2_1 (fun (q:Int×Int)=>(x2_2 q).isSome) (fun (q:Int×Int)=>(x2_2 q).getD (0:Int)) (some (MIt.mk (K:=z27_13) rr3 x4_0 x4_1 none)),z27_2 mem sh lk bu cs l k2,Reg.itr rr3] [1000000007]) K ?_
    refine RunF.cond (vc:=[]) (x:=decide (((blkL mem sh lk bu cs l).getD k2 default).to<(0:Int))) K trivial (fun h6=>?_) (fun h6=>?_)
    ·exact RunF.endRound (I:=R10_I mem sh lk bu cs l) (J:=R10_J mem sh lk bu cs l (k2+1)) (vc:=[Fits IntKind.i64 ((blkL mem sh lk bu cs l).getD k2 default).lock,Fits IntKind.i64 ((blkL mem sh lk bu cs l).getD k2 default).core,(MT.mk Try.prog 65 67 3 [CK.i IntKind.i64,CK.i IntKind.i64] true [CK.i IntKind.i64] false).P=Try.prog,Fits IntKind.i64 ((blkL mem sh lk bu cs l).getD k2 default).lock,Fits IntKind.i64 ((blkL mem sh lk bu cs l).getD k2 default).core,(MT.mk Try.prog 65 67 3 [CK.i IntKind.i64,CK.i IntKind.i64] true [CK.i IntKind.i64] false).P=Try.prog,x2_1<maxLen]) ((x2_0,x2_1+1,fun (q:Int×Int)=>if q=(z27_8 mem sh lk bu cs l k2) then some (if (↑l.length:Int)>(x2_2 (z27_8 mem sh lk bu cs l k2)).getD (0:Int) then (↑l.length:Int) else (x2_2 (z27_8 mem sh lk bu cs l k2)).getD (0:Int)) else x2_2 q)) [0,1,2,3,4,5,6,7,8,9,10] (E:=[mem.length=mem.length,∀ (i:Nat),i<mem.length→i64T (mem.getD i (0:Int))=i64T (mem.getD i (0:Int)),cs.length=cs.length,∀ (i:Nat),i<cs.length→(cs.getD i default).tc=(cs.getD i default).tc,l.length=l.length,∀ (i:Nat),i<l.length→(l.getD i default).tc=(l.getD i default).tc,sh=sh,lk=lk,bu=bu,z27_10 mem sh lk bu cs l,∀ (i:Nat),i<(evL mem sh lk bu cs l).length→((evL mem sh lk bu cs l).getD i default).tc=((evL mem sh lk bu cs l).getD i default).tc,x2_0=x2_0,(0:Int)=(0:Int),MpEq (MT.mk Try.prog 65 67 3 [CK.i IntKind.i64,CK.i IntKind.i64] true [CK.i IntKind.i64] false) (x2_1+1) (fun (q:Int×Int)=>(if q=(((blkL mem sh lk bu cs l).getD k2 default).lock,((blkL mem sh lk bu cs l).getD k2 default).core) then some (if (↑l.length:Int)>(x2_2 (((blkL mem sh lk bu cs l).getD k2 default).lock,((blkL mem sh lk bu cs l).getD k2 default).core)).getD (0:Int) then (↑l.length:Int) else (x2_2 (((blkL mem sh lk bu cs l).getD k2 default).lock,((blkL mem sh lk bu cs l).getD k2 default).core)).getD (0:Int)) else x2_2 q).isSome) (fun (q:Int×Int)=>(if q=(((blkL mem sh lk bu cs l).getD k2 default).lock,((blkL mem sh lk bu cs l).getD k2 default).core) then some (if (↑l.length:Int)>(x2_2 (((blkL mem sh lk bu cs l).getD k2 default).lock,((blkL mem sh lk bu cs l).getD k2 default).core)).getD (0:Int) then (↑l.length:Int) else (x2_2 (((blkL mem sh lk bu cs l).getD k2 default).lock,((blkL mem sh lk bu cs l).getD k2 default).core)).getD (0:Int)) else x2_2 q).getD (0:Int)) none (MT.mk Try.prog 65 67 3 [CK.i IntKind.i64,CK.i IntKind.i64] true [CK.i IntKind.i64] false) (x2_1+1) (fun (q:Int×Int)=>decide (q=(((blkL mem sh lk bu cs l).getD k2 default).lock,((blkL mem sh lk bu cs l).getD k2 default).core))||(x2_2 q).isSome) (fun (q:Int×Int)=>if q=(((blkL mem sh lk bu cs l).getD k2 default).lock,((blkL mem sh lk bu cs l).getD k2 default).core) then if (↑l.length:Int)>(x2_2 (((blkL mem sh lk bu cs l).getD k2 default).lock,((blkL mem sh lk bu cs l).getD k2 default).core)).getD (0:Int) then (↑l.length:Int) else (x2_2 (((blkL mem sh lk bu cs l).getD k2 default).lock,((blkL mem sh lk bu cs l).getD k2 default).core)).getD (0:Int) else (x2_2 q).getD (0:Int)) none]) K V11 K V4 V15
    ·exact RunF.endRound (I:=R10_I mem sh lk bu cs l) (J:=R10_J mem sh lk bu cs l (k2+1)) (vc:=[Fits IntKind.i64 ((blkL mem sh lk bu cs l).getD k2 default).lock,Fits IntKind.i64 ((blkL mem sh lk bu cs l).getD k2 default).core,(MT.mk Try.prog 65 67 3 [CK.i IntKind.i64,CK.i IntKind.i64] true [CK.i IntKind.i64] false).P=Try.prog,Fits IntKind.i64 ((blkL mem sh lk bu cs l).getD k2 default).lock,Fits IntKind.i64 ((blkL mem sh lk bu cs l).getD k2 default).core,(MT.mk Try.prog 65 67 3 [CK.i IntKind.i64,CK.i IntKind.i64] true [CK.i IntKind.i64] false).P=Try.prog,x2_1<maxLen]) ((x2_0,x2_1+1,fun (q:Int×Int)=>if q=(z27_8 mem sh lk bu cs l k2) then some (if ((blkL mem sh lk bu cs l).getD k2 default).to>(x2_2 (z27_8 mem sh lk bu cs l k2)).getD (0:Int) then ((blkL mem sh lk bu cs l).getD k2 default).to else (x2_2 (z27_8 mem sh lk bu cs l k2)).getD (0:Int)) else x2_2 q)) [0,1,2,3,4,5,6,7,8,9,10] (E:=[mem.length=mem.length,∀ (i:Nat),i<mem.length→i64T (mem.getD i (0:Int))=i64T (mem.getD i (0:Int)),cs.length=cs.length,∀ (i:Nat),i<cs.length→(cs.getD i default).tc=(cs.getD i default).tc,l.length=l.length,∀ (i:Nat),i<l.length→(l.getD i default).tc=(l.getD i default).tc,sh=sh,lk=lk,bu=bu,z27_10 mem sh lk bu cs l,∀ (i:Nat),i<(evL mem sh lk bu cs l).length→((evL mem sh lk bu cs l).getD i default).tc=((evL mem sh lk bu cs l).getD i default).tc,x2_0=x2_0,(0:Int)=(0:Int),MpEq (MT.mk Try.prog 65 67 3 [CK.i IntKind.i64,CK.i IntKind.i64] true [CK.i IntKind.i64] false) (x2_1+1) (fun (q:Int×Int)=>(if q=(((blkL mem sh lk bu cs l).getD k2 default).lock,((blkL mem sh lk bu cs l).getD k2 default).core) then some (if ((blkL mem sh lk bu cs l).getD k2 default).to>(x2_2 (((blkL mem sh lk bu cs l).getD k2 default).lock,((blkL mem sh lk bu cs l).getD k2 default).core)).getD (0:Int) then ((blkL mem sh lk bu cs l).getD k2 default).to else (x2_2 (((blkL mem sh lk bu cs l).getD k2 default).lock,((blkL mem sh lk bu cs l).getD k2 default).core)).getD (0:Int)) else x2_2 q).isSome) (fun (q:Int×Int)=>(if q=(((blkL mem sh lk bu cs l).getD k2 default).lock,((blkL mem sh lk bu cs l).getD k2 default).core) then some (if ((blkL mem sh lk bu cs l).getD k2 default).to>(x2_2 (((blkL mem sh lk bu cs l).getD k2 default).lock,((blkL mem sh lk bu cs l).getD k2 default).core)).getD (0:Int) then ((blkL mem sh lk bu cs l).getD k2 default).to else (x2_2 (((blkL mem sh lk bu cs l).getD k2 default).lock,((blkL mem sh lk bu cs l).getD k2 default).core)).getD (0:Int)) else x2_2 q).getD (0:Int)) none (MT.mk Try.prog 65 67 3 [CK.i IntKind.i64,CK.i IntKind.i64] true [CK.i IntKind.i64] false) (x2_1+1) (fun (q:Int×Int)=>decide (q=(((blkL mem sh lk bu cs l).getD k2 default).lock,((blkL mem sh lk bu cs l).getD k2 default).core))||(x2_2 q).isSome) (fun (q:Int×Int)=>if q=(((blkL mem sh lk bu cs l).getD k2 default).lock,((blkL mem sh lk bu cs l).getD k2 default).core) then if ((blkL mem sh lk bu cs l).getD k2 default).to>(x2_2 (((blkL mem sh lk bu cs l).getD k2 default).lock,((blkL mem sh lk bu cs l).getD k2 default).core)).getD (0:Int) then ((blkL mem sh lk bu cs l).getD k2 default).to else (x2_2 (((blkL mem sh lk bu cs l).getD k2 default).lock,((blkL mem sh lk bu cs l).getD k2 default).core)).getD (0:Int) else (x2_2 q).getD (0:Int)) none]) K V11 K V4 V15
   ·rintro ⟨kv5_0,kv5_1⟩ cn5 hwf5 hl5 hh5 hc5
    dsimp only at hl5 hh5 hc5
    refine RunF.chk [29,28,9,8,5,4,3] [.ops [1,1,1,1,0,1,0,1,0,0,1,0,0,0] 1,.code [1,1,1,1,0,1,0,1,0,0,1,0,0,1],.jmp (Tx.Next (L10_0_I mem sh lk bu cs l k2 x2_0 x2_1 x2_2 rr3 cc3) (L10_0_J mem sh lk bu cs l k2 x2_0 x2_1 x2_2 rr3 cc3) (L10_0_m mem sh lk bu cs l k2 x2_0 x2_1 x2_2 rr3 cc3) (x4_0,x4_1)),.blk 2,.code [1,1,1,1,0,1,0,1,0,1],.blk 1,.jmp (fun b a w=>RegsAt (R10_I mem sh lk bu cs l) (R10_J mem sh lk bu cs l (k2+1)) b w)] (St.mk 65 [En.mk 29 [] (SV.tup [(false,[C.t true]),(z27_1.kAgg,[C.i .i64 kv5_0,C.i .i64 kv5_1]),(z27_1.vAgg,[C.i .i64 ((x2_2 (kv5_0,kv5_1)).getD (0:Int))])]),En.mk 28 [] (SV.c (C.h 12)),En.mk 9 [] (SV.c (C.p 11 0)),En.mk 8 [] (SV.c (C.p 9 0)),En.mk 5 [] (SV.c (C.p 7 0)),En.mk 4 [] (SV.c (C.p 6 0)),En.mk 3 [] (SV.c (C.p 5 0))] [Reg.row 1 mem.length (fun i=>i64T (mem.getD i (0:Int))) none,z27_4 cs,z27_5 l,z27_6 sh lk bu,z27_3 mem sh lk bu cs l,Reg.box 26 [C.h 2],Reg.box 3 [C.i .i64 x2_0],z27_7,Reg.ro [C.p 3 0],z27_9,Reg.mp z27_1 x2_1 (fun (q:Int×Int)=>(x2_2 q).isSome) (fun (q:Int×Int)=>(x2_2 q).getD (0:Int)) (some (MIt.mk (K:=z27_13) (MIt.mk (K:=z27_13) rr3 x4_0 x4_1 none).r (fun (q:Int×Int)=>(MIt.mk (K:=z27_13) rr3 x4_0 x4_1 none).left q&&!decide (q=(kv5_0,kv5_1))) cn5 (some (kv5_0,kv5_1)))),z27_2 mem sh lk bu cs l k2,Reg.itr rr3] [1000000007]) K ?_
    refine RunF.cond (vc:=[rr3=(MIt.mk (K:=[CK.i IntKind.i64,CK.i IntKind.i64]) rr3 x4_0 x4_1 none).r,(MT.mk Try.prog 65 67 3 [CK.i IntKind.i64,CK.i IntKind.i64] true [CK.i IntKind.i64] false).P=Try.prog]) (x:=decide (kv5_0=((blkL mem sh lk bu cs l).getD k2 default).lock)&&decide (((blkL mem sh lk bu cs l).getD k2 default).from_<(x2_2 (kv5_0,kv5_1)).getD (0:Int))) K V11 (fun h6=>?_) (fun h6=>?_)
    ·exact RunF.retRound (I:=R10_I mem sh lk bu cs l) (J:=R10_J mem sh lk bu cs l (k2+1)) (Jx:=R10_Jx mem sh lk bu cs l) (vc:=[]) (v:=SV.tup [(false,[C.i .i64 ((blkL mem sh lk bu cs l).getD k2 default).from_]),(false,[C.i .i64 0])]) ((((blkL mem sh lk bu cs l).getD k2 default).from_,x2_1,x2_2)) [0,1,2,3,4,5,6,7,8,9,10] (E:=[mem.length=mem.length,∀ (i:Nat),i<mem.length→i64T (mem.getD i (0:Int))=i64T (mem.getD i (0:Int)),cs.length=cs.length,∀ (i:Nat),i<cs.length→(cs.getD i default).tc=(cs.getD i default).tc,l.length=l.length,∀ (i:Nat),i<l.length→(l.getD i default).tc=(l.getD i default).tc,sh=sh,lk=lk,bu=bu,z27_10 mem sh lk bu cs l,∀ (i:Nat),i<(evL mem sh lk bu cs l).length→((evL mem sh lk bu cs l).getD i default).tc=((evL mem sh lk bu cs l).getD i default).tc,z27_14 mem sh lk bu cs l k2,(0:Int)=(0:Int),MpEq (MT.mk Try.prog 65 67 3 [CK.i IntKind.i64,CK.i IntKind.i64] true [CK.i IntKind.i64] false) x2_1 (fun (q:Int×Int)=>(x2_2 q).isSome) (fun (q:Int×Int)=>(x2_2 q).getD (0:Int)) none (MT.mk Try.prog 65 67 3 [CK.i IntKind.i64,CK.i IntKind.i64] true [CK.i IntKind.i64] false) x2_1 (fun (q:Int×Int)=>(x2_2 q).isSome) (fun (q:Int×Int)=>(x2_2 q).getD (0:Int)) (some (MIt.mk (K:=[CK.i IntKind.i64,CK.i IntKind.i64]) (MIt.mk (K:=[CK.i IntKind.i64,CK.i IntKind.i64]) rr3 x4_0 x4_1 none).r (fun (q:Int×Int)=>(MIt.mk (K:=[CK.i IntKind.i64,CK.i IntKind.i64]) rr3 x4_0 x4_1 none).left q&&!decide (q=(kv5_0,kv5_1))) cn5 (some (kv5_0,kv5_1))))]) K trivial K V4 (by dsimp only [R10_Jx,R10_J] at *;have e0:evE mem sh lk bu cs l=0:=(by simpa using h1);have hK:=blkL_K (mem:=mem) (sh:=sh) (lk:=lk) (bu:=bu) (cs:=cs) (l:=l) k2 hk2;have hO:=blkL_ok (mem:=mem) (sh:=sh) (lk:=lk) (bu:=bu) (cs:=cs) (l:=l) k2 hk2;have hbl:=blkL_len (mem:=mem) (sh:=sh) (lk:=lk) (bu:=bu) (cs:=cs) (l:=l);have hk3:k2<(blkL mem sh lk bu cs l).length:=hk2;unfold blkK at hK;unfold blkOk at hO;have p0:=findFrom_next (crowdP (blkL mem sh lk bu cs l)) (i:=(k2:Int)) (n:=(blkL mem sh lk bu cs l).length);have p1:=findFrom_stop (crowdP (blkL mem sh lk bu cs l)) (i:=(k2:Int)) (n:=(blkL mem sh lk bu cs l).length);refine ⟨rfl,?_⟩;have hc:crowdP (blkL mem sh lk bu cs l) k2=false:=crowd_some (q:=(kv5_0,kv5_1)) blkL_ok hk3 (by rw [← hJ2.2.2.1];exact hh5) (by simp only [BL] at *;grind) (by rw [← hJ2.2.2.1];simp only [BL] at *;grind);unfold crowdV;rw [hJ2.2.2.2,p1 (by omega) hc,if_pos (by omega)];rfl)
    ·exact RunF.next (I:=L10_0_I mem sh lk bu cs l k2 x2_0 x2_1 x2_2 rr3 cc3) (J:=L10_0_J mem sh lk bu cs l k2 x2_0 x2_1 x2_2 rr3 cc3) (m:=L10_0_m mem sh lk bu cs l k2 x2_0 x2_1 x2_2 rr3 cc3) (x:=(x4_0,x4_1)) (vc:=[]) ((fun (q:Int×Int)=>(MIt.mk (K:=z27_13) rr3 x4_0 x4_1 none).left q&&!decide (q=(kv5_0,kv5_1)),cn5)) [0,1,2,3,4,5,6,7,8,9,10,11,12] (E:=[mem.length=mem.length,∀ (i:Nat),i<mem.length→i64T (mem.getD i (0:Int))=i64T (mem.getD i (0:Int)),cs.length=cs.length,∀ (i:Nat),i<cs.length→(cs.getD i default).tc=(cs.getD i default).tc,l.length=l.length,∀ (i:Nat),i<l.length→(l.getD i default).tc=(l.getD i default).tc,sh=sh,lk=lk,bu=bu,z27_10 mem sh lk bu cs l,∀ (i:Nat),i<(evL mem sh lk bu cs l).length→((evL mem sh lk bu cs l).getD i default).tc=((evL mem sh lk bu cs l).getD i default).tc,x2_0=x2_0,(0:Int)=(0:Int),MpEq (MT.mk Try.prog 65 67 3 [CK.i IntKind.i64,CK.i IntKind.i64] true [CK.i IntKind.i64] false) x2_1 (fun (q:Int×Int)=>(x2_2 q).isSome) (fun (q:Int×Int)=>(x2_2 q).getD (0:Int)) (some (MIt.mk (K:=[CK.i IntKind.i64,CK.i IntKind.i64]) rr3 (fun (q:Int×Int)=>(MIt.mk (K:=[CK.i IntKind.i64,CK.i IntKind.i64]) rr3 x4_0 x4_1 none).left q&&!decide (q=(kv5_0,kv5_1))) cn5 none)) (MT.mk Try.prog 65 67 3 [CK.i IntKind.i64,CK.i IntKind.i64] true [CK.i IntKind.i64] false) x2_1 (fun (q:Int×Int)=>(x2_2 q).isSome) (fun (q:Int×Int)=>(x2_2 q).getD (0:Int)) (some (MIt.mk (K:=[CK.i IntKind.i64,CK.i IntKind.i64]) (MIt.mk (K:=[CK.i IntKind.i64,CK.i IntKind.i64]) rr3 x4_0 x4_1 none).r (fun (q:Int×Int)=>(MIt.mk (K:=[CK.i IntKind.i64,CK.i IntKind.i64]) rr3 x4_0 x4_1 none).left q&&!decide (q=(kv5_0,kv5_1))) cn5 (some (kv5_0,kv5_1)))),((blkL mem sh lk bu cs l).getD k2 default).lock=((blkL mem sh lk bu cs l).getD k2 default).lock,((blkL mem sh lk bu cs l).getD k2 default).core=((blkL mem sh lk bu cs l).getD k2 default).core,z27_14 mem sh lk bu cs l k2,((blkL mem sh lk bu cs l).getD k2 default).left=((blkL mem sh lk bu cs l).getD k2 default).left,((blkL mem sh lk bu cs l).getD k2 default).to=((blkL mem sh lk bu cs l).getD k2 default).to,rr3=rr3]) K trivial K V4 (by assumption) (by dsimp only [L10_0_J];intro q hq hq2;by_cases e:q=(kv5_0,kv5_1);subst e;intro hh;simp only [BL] at *;grind;exact hJ4 q hq (by simpa [e] using hq2))
  ·rintro ⟨x2_0,x2_1,x2_2⟩ hJ2
   dsimp only [R10_J,R10_Jx,R10_n] at hJ2
   exact RunF.ret (vc:=[]) (v:=SV.tup [(false,[C.i .i64 (-1:Int)]),(false,[C.i .i64 0])]) _ _ [0,1,2] (E:=[crowdL mem sh lk bu cs l=(-1:Int),evE mem sh lk bu cs l=(0:Int)]) K trivial ⟨rfl,rfl⟩ K V39
  ·rintro cd ⟨x2_0,x2_1,x2_2⟩ hJ2
   dsimp only [R10_J,R10_Jx,R10_n] at hJ2
   obtain rfl:cd=Go.Code.ret:=hJ2.1
   exact RunF.ret (vc:=[]) (v:=SV.tup [(false,[C.i .i64 x2_0]),(false,[C.i .i64 0])]) _ _ [0,1,2] (E:=[crowdL mem sh lk bu cs l=x2_0,evE mem sh lk bu cs l=(0:Int)]) K trivial ⟨rfl,rfl⟩ K V39
end Go.Proofs.Ytlblobbklioofaa
end
namespace Go.Proofs.Ytlblobbklioofaa
open Go Go.Tx
theorem evOf_lock {sh lk:Int} {d:Did} {i:Int} (h0:0≤d.addr) (h:(evOf sh lk d i).kind=4):0≤(evOf sh lk d i).thing∧(evOf sh lk d i).thing<lk:=by
 revert h
 unfold evOf noEv
 repeat' split
 all_goals simp only []
 all_goals intro h
 all_goals first | omega | (simp at h;done) | (simp only [BL] at *;omega)
theorem evUp_lock {sh lk:Int} {l:List Did} (hr:rightsB l=true):∀ (n:Nat),n≤l.length→∀ e∈evUp sh lk l n,e.kind=4→0≤e.thing∧e.thing<lk
 | 0,_,e,h=>by simp [evUp] at h
 | n+1,hn,e,h=>by
   rw [evUp,List.mem_append] at h
   rcases h with h | h
   ·exact evUp_lock hr n (by omega) e h
   ·have hd:=rights_at hr (i:=(n:Int)) (by omega) (by omega)
    rw [Int.toNat_natCast] at hd
    have hb:=didB_bounds hd
    split at h
    ·simp at h
    ·have he:e=evAt sh lk l n:=by simpa using h
     subst he
     exact evOf_lock (by omega)
theorem blkUp_lock {sh lk:Int} {l:List Did} {evs:List Ev} (hev:∀ e∈evs,e.kind=4→0≤e.thing∧e.thing<lk):∀ n,n≤evs.length→∀ b∈blkUp sh l evs n,0≤b.lock∧b.lock<lk
 | 0,_,b,h=>by simp [blkUp] at h
 | n+1,hn,b,h=>by
   rw [blkUp,List.mem_append] at h
   rcases h with h | h
   ·exact blkUp_lock hev n (by omega) b h
   ·split at h
    ·rename_i hk
     have hb:b=blkOf sh l evs (evs.getD n default):=by simpa using h
     subst hb
     refine hev _ ?_ hk
     rw [List.getD_eq_getElem?_getD,List.getElem?_eq_getElem (by omega)];exact List.getElem_mem _
    ·simp at h
theorem blkL_lock {mem:List Int} {sh lk bu:Int} {cs:List Cor} {l:List Did}:∀ a:Nat,a<(blkL mem sh lk bu cs l).length→0≤((blkL mem sh lk bu cs l).getD a default).lock∧((blkL mem sh lk bu cs l).getD a default).lock<lk:=by
 intro a ha
 refine blkUp_lock (sh:=sh) (l:=l) (evs:=evL mem sh lk bu cs l) ?_ _ (Nat.le_refl _) _ ?_
 ·intro e he
  revert he
  unfold evL
  split
  ·rename_i h
   exact fun he=>evUp_lock (evE_right h) l.length (Nat.le_refl _) e he
  ·intro h;cases h
 ·rw [List.getD_eq_getElem?_getD,List.getElem?_eq_getElem ha];exact List.getElem_mem ha
def holdAt (bs:List Blk) (k n:Nat):List Int:=(List.range k).map fun j:Nat=>holdUp bs (j:Int) n
theorem holdAt_len (bs:List Blk) (k n:Nat):(holdAt bs k n).length=k:=by simp [holdAt]
theorem holdAt_zero (bs:List Blk) (k:Nat):holdAt bs k 0=List.replicate k (-1):=by
 apply List.ext_getElem
 ·simp [holdAt]
 ·intro i h1 h2;simp [holdAt,holdUp]
theorem holdAt_step (bs:List Blk) {k n:Nat} {x v:Int} (h0:0≤(bs.getD n default).lock) (hx:x=(bs.getD n default).lock) (hv:v=if 0≤(bs.getD n default).to then -1 else (bs.getD n default).core) :
 (holdAt bs k n).set x.toNat v=holdAt bs k (n+1):=by
 subst hx hv
 apply List.ext_getElem
 ·simp [holdAt]
 ·intro j h1 h2
  rw [List.getElem_set]
  simp only [holdAt,List.getElem_map,List.getElem_range,holdUp]
  by_cases e:(bs.getD n default).lock=(j:Int)
  ·rw [if_pos (by omega),if_pos e]
  ·rw [if_neg (by omega),if_neg e]
theorem fill_set (k:Nat) {i:Int} (h0:0≤i) (h1:i<k):(List.replicate i.toNat (-1:Int)++List.replicate (k-i.toNat) 0).set i.toNat (-1)=List.replicate (i+1).toNat (-1)++List.replicate (k-(i+1).toNat) 0:=by
 rw [List.set_append_right _ _ (by simp),List.length_replicate,Nat.sub_self,show k-i.toNat=(k-(i+1).toNat)+1 by omega,List.replicate_succ,List.set_cons_zero,show (i+1).toNat=i.toNat+1 by omega,List.replicate_succ',List.append_assoc]
 rfl
end Go.Proofs.Ytlblobbklioofaa
