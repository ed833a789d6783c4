/-
  Part of a proof of Rows.MonitorBlocksUptoSaid: for every object and run of at most 1048576 values and letters together, the law stilelaw23.MonitorBlocks returns true and leaves its arguments as they were. Text 8 of 8: Leaf28 Leaf29 Leaf30 Leaf31 Read FinA FinBlocks.
-/
import Derived.Test.YtlblobbklioofaaP7
import Derived.Test.YtlblobbklioofaaP5
import Derived.Test.YtlblobbklioofaaP3
import Derived.Deep.Slices
import Derived.ChangeArms
import Derived.WideShapes
import Derived.ChangeOld
import Derived.Test.YtlblobbklioofaaRows
import Derived.WalkKit
import Derived.ProofKit
import Derived.OpenShut
import Derived.JoinedCond
import Derived.Carry
set_option linter.unusedSimpArgs false
set_option linter.unusedVariables false
set_option maxHeartbeats 4000000
set_option maxRecDepth 100000
noncomputable section
namespace Go.Proofs.Ytlblobbklioofaa
open Go Go.Tx
theorem set_ints2 (l:List Int) (k k':Nat) (x y:Int):∀ i,i<((l.set k x).set k' y).length→i64T (((l.set k x).set k' y).getD i 0)=updT (updT (fun i=>i64T (l.getD i 0)) k 0 [.int .i64 x]) k' 0 [.int .i64 y] i:=by
 intro i hi
 rw [set_ints (l.set k x) k' y i hi]
 unfold updT
 funext j
 split
 ·rfl
 ·show i64T ((l.set k x).getD i 0) j=_
  rw [set_ints l k x i (by simpa using hi)]
  rfl
theorem set_len2 (l:List Int) (k k':Nat) (x y:Int):((l.set k x).set k' y).length=l.length:=by simp
def R8_I (mem:List Int) (sh lk bu:Int) (cs:List Cor) (l:List Did):List Int→List Reg:=fun x=>[IntRow mem,Cor.rowR cs,Did.rowR l,.ro [.h 0,.i .i64 sh,.i .i64 lk,.i .i64 bu,.h 1,.h 2,.h 4],Ev.rowR (evL mem sh lk bu cs l),IntOwn x,Reg.box 31 [.h 5],.ro [.p 3 0]]
def R8_J (mem:List Int) (sh lk bu:Int) (cs:List Cor) (l:List Did):Nat→List Int→Prop:=fun k x=>x=holdAt (blkL mem sh lk bu cs l) lk.toNat k
def R8_Jx:Go.Code→List Int→Prop:=fun _ _=>False
def R8_n (mem:List Int) (sh lk bu:Int) (cs:List Cor) (l:List Did):Nat:=(blkL mem sh lk bu cs l).length
def R8_enc (mem:List Int) (sh lk bu:Int) (cs:List Cor) (l:List Did):Nat→SV:=fun k=>.agg ((blkL mem sh lk bu cs l).getD k default).cs
def R8_P (mem:List Int) (sh lk bu:Int) (cs:List Cor) (l:List Did):List Reg:=[IntRow mem,Cor.rowR cs,Did.rowR l,Ev.rowR (evL mem sh lk bu cs l),.ro [.h 0,.i .i64 sh,.i .i64 lk,.i .i64 bu,.h 1,.h 2,.h 3],.ro [.p 4 0]]
def R8_Q:List SV:=[.c (.p 5 0)]
abbrev z28_8 (mem:List Int):=Reg.row 1 mem.length (fun i=>i64T (mem.getD i (0:Int))) none
abbrev z28_9 (cs:List Cor):=Reg.row 2 cs.length (fun i=>(cs.getD i default).tc) none
abbrev z28_10 (l:List Did):=Reg.row 7 l.length (fun i=>(l.getD i default).tc) none
abbrev z28_11 (mem:List Int) (sh:Int) (lk:Int) (bu:Int) (cs:List Cor) (l:List Did):=Reg.own 63 7 (evL mem sh lk bu cs l).length (fun i=>((evL mem sh lk bu cs l).getD i default).tc) none
abbrev z28_12 (sh:Int) (lk:Int) (bu:Int):=Reg.box 81 [C.h 0,C.i .i64 sh,C.i .i64 lk,C.i .i64 bu,C.h 1,C.h 2,C.h 5]
abbrev z28_14 (sh:Int) (lk:Int) (bu:Int):=Reg.box 25 [C.h 0,C.i .i64 sh,C.i .i64 lk,C.i .i64 bu,C.h 1]
def L8_0_I (mem:List Int) (sh:Int) (lk:Int) (bu:Int) (cs:List Cor) (l:List Did):Int×List Int→St:=fun x=>{ N:=49,fr:=[{ slot:=25,g:=[],sv:=SV.c (C.i .i64 x.1) },{ slot:=24,g:=[],sv:=SV.c (C.i .i64 (↑lk.toNat:Int)) },{ slot:=8,g:=[],sv:=SV.c (C.p 7 0) },{ slot:=6,g:=[],sv:=SV.c (C.p 4 0) },{ slot:=5,g:=[],sv:=SV.c (C.i .i64 0) },{ slot:=4,g:=[],sv:=SV.c (C.v (Value.slice none 0 0)) }],rg:=[z28_8 mem,z28_9 cs,z28_10 l,z28_14 sh lk bu,z28_12 sh lk bu,z28_11 mem sh lk bu cs l,IntOwn (x.2),Reg.box 31 [C.h 6]],wr:=[] }
def L8_0_J (mem:List Int) (sh:Int) (lk:Int) (bu:Int) (cs:List Cor) (l:List Did):Int×List Int→Prop:=fun x=>0≤x.1∧x.1≤lk∧x.2=List.replicate x.1.toNat (-1)++List.replicate (lk.toNat-x.1.toNat) 0
def L8_0_m (mem:List Int) (sh:Int) (lk:Int) (bu:Int) (cs:List Cor) (l:List Did):Int×List Int→Nat:=fun x=>(lk-x.1).toNat
def R8_A (mem:List Int) (sh lk bu:Int) (cs:List Cor) (l:List Did):Nat→List Int→St:=fun k x=>St.mk 49 [En.mk 10 [] (SV.c (C.p 8 0)),En.mk 8 [] (SV.c (C.p 6 0))] [z28_8 mem,z28_9 cs,z28_10 l,Reg.ro [C.h 0,C.i .i64 sh,C.i .i64 lk,C.i .i64 bu,C.h 1,C.h 2,C.h 4],Reg.row 7 (evL mem sh lk bu cs l).length (fun i=>((evL mem sh lk bu cs l).getD i default).tc) none,Reg.own 3 1 x.length (fun i=>i64T (x.getD i (0:Int))) none,Reg.box 31 [C.h 5],Reg.ro [C.p 3 0],Reg.box 48 [C.i .i64 ((blkL mem sh lk bu cs l).getD k default).lock,C.i .i64 ((blkL mem sh lk bu cs l).getD k default).core,C.i .i64 ((blkL mem sh lk bu cs l).getD k default).from_,C.i .i64 ((blkL mem sh lk bu cs l).getD k default).left,C.i .i64 ((blkL mem sh lk bu cs l).getD k default).to]] [1000000007]
abbrev z28_13:=En.mk 4 [] (SV.c (C.v (Value.slice none 0 0)))
abbrev z28_15 (x2_1:List Int):=Reg.own 3 1 x2_1.length (fun i=>i64T (x2_1.getD i (0:Int))) none
abbrev z28_1 (x2_0:Int) (lk:Int) (mem:List Int) (cs:List Cor) (l:List Did) (sh:Int) (bu:Int) (x2_1:List Int):=(St.mk 49 [En.mk 25 [] (SV.c (C.i .i64 x2_0)),En.mk 24 [] (SV.c (C.i .i64 (↑lk.toNat:Int))),En.mk 8 [] (SV.c (C.p 7 0)),En.mk 6 [] (SV.c (C.p 4 0)),En.mk 5 [] (SV.c (C.i .i64 0)),z28_13] [z28_8 mem,z28_9 cs,z28_10 l,z28_14 sh lk bu,z28_12 sh lk bu,z28_11 mem sh lk bu cs l,z28_15 x2_1,Reg.box 31 [C.h 6]] [])
abbrev z28_2 (mem:List Int) (cs:List Cor) (l:List Did) (sh:Int) (lk:Int) (bu:Int):=[z28_8 mem,z28_9 cs,z28_10 l,z28_14 sh lk bu,z28_12 sh lk bu,z28_11 mem sh lk bu cs l]
abbrev z28_3 (mem:List Int) (sh:Int) (lk:Int) (bu:Int) (cs:List Cor) (l:List Did):=(evL mem sh lk bu cs l).length=(evL mem sh lk bu cs l).length
abbrev z28_4 (mem:List Int):=∀ (i:Nat),i<mem.length→i64T (mem.getD i (0:Int))=i64T (mem.getD i (0:Int))
abbrev z28_5 (cs:List Cor):=∀ (i:Nat),i<cs.length→(cs.getD i default).tc=(cs.getD i default).tc
abbrev z28_6 (l:List Did):=∀ (i:Nat),i<l.length→(l.getD i default).tc=(l.getD i default).tc
abbrev z28_7 (mem:List Int) (sh:Int) (lk:Int) (bu:Int) (cs:List Cor) (l:List Did) (k4:Nat):=((blkL mem sh lk bu cs l).getD k4 default)
theorem c_holdersT (mem:List Int) (sh lk bu:Int) (cs:List Cor) (l:List Did) (hw:∀ a b:Nat,insK ((cs.getD a default).code.getD b default)) (hl:∀ a:Nat,0≤(l.getD a default).kind∧(l.getD a default).kind≤255) (hn:(l.length:Int) * 4096≤140737488355328):Ctr Try.prog 8 [IntRow mem,Cor.rowR cs,Did.rowR l] [.agg [.h 0,.i .i64 sh,.i .i64 lk,.i .i64 bu,.h 1],.c (.h 2)]
 (Det (.tup [(false,[.h 3]),(false,[.i .i64 (evE mem sh lk bu cs l)])]) [.dead,.dead,.dead,IntOwn (holdersL mem sh lk bu cs l)]):=by
 refine Ctr.intro [] Try.func8 K K ?_
 refine RunF.lens 2 (m:=l.length) K (fun hlens_2=>?_)
 refine RunF.call (vc:=[]) (args:=[SV.agg [C.h 0,C.i .i64 sh,C.i .i64 lk,C.i .i64 bu,C.h 1],SV.c (C.h 2)]) e_monitor_begun (c_begun (mem:=mem) (sh:=sh) (lk:=lk) (bu:=bu) (cs:=cs) (l:=l) (hw:=by first | assumption | omega | exact hw | exact hl) (hl:=by first | assumption | omega | exact hw | exact hl) (hn:=by first | assumption | omega | exact hw | exact hl)) [0,1,2] (E:=[mem.length=mem.length,z28_4 mem,cs.length=cs.length,z28_5 cs,l.length=l.length,z28_6 l,sh=sh,lk=lk,bu=bu]) K trivial K R K ?_
 refine RunF.chk [14,5,4,2] [.ops [1,0] 3,.code [1,1]] (St.mk 49 [En.mk 14 [] (SV.tup [(false,[C.p 4 0]),(false,[C.i .i64 (evE mem sh lk bu cs l)])]),En.mk 5 [] (SV.c (C.i .i64 0)),z28_13,En.mk 2 [] (SV.c (C.p 3 0))] (z28_2 mem cs l sh lk bu) []) K ?_
 refine RunF.cond (vc:=[]) (x:=!decide (evE mem sh lk bu cs l=(0:Int))) K trivial (fun h1=>?_) (fun h1=>?_)
 ·exact RunF.ret (vc:=[]) (v:=SV.tup [(false,[C.v (Value.slice none 0 0)]),(false,[C.i .i64 (evE mem sh lk bu cs l)])]) _ _ [0,1,2,1000003] (E:=[(holdersL mem sh lk bu cs l).length=0,evE mem sh lk bu cs l=evE mem sh lk bu cs l]) K trivial ⟨rfl,rfl⟩ K V58
 ·refine RunF.chk [6,5,4,2] [.code [1,1,0,1,1],.code [1,1,1]] (St.mk 49 [En.mk 6 [] (SV.c (C.p 4 0)),En.mk 5 [] (SV.c (C.i .i64 0)),z28_13,En.mk 2 [] (SV.c (C.p 3 0))] (z28_2 mem cs l sh lk bu) []) K ?_
  refine RunF.loop (vc:=[(0:Int)≤lk,lk≤lk,lk * (8:Int)≤(140737488355328:Int),lk≤(↑maxLen:Int)]) (L8_0_I mem sh lk bu cs l) (L8_0_J mem sh lk bu cs l) (L8_0_m mem sh lk bu cs l) (((0:Int),List.replicate lk.toNat (0:Int))) [0,1,2,3,4,5,6,7] (E:=[mem.length=mem.length,∀ (i:Nat),i<mem.length→i64T (mem.getD i (0:Int))=i64T (mem.getD i (0:Int)),cs.length=cs.length,∀ (i:Nat),i<cs.length→(cs.getD i default).tc=(cs.getD i default).tc,l.length=l.length,∀ (i:Nat),i<l.length→(l.getD i default).tc=(l.getD i default).tc,sh=sh,lk=lk,bu=bu,sh=sh,lk=lk,bu=bu,z28_3 mem sh lk bu cs l,∀ (i:Nat),i<(evL mem sh lk bu cs l).length→((evL mem sh lk bu cs l).getD i default).tc=((evL mem sh lk bu cs l).getD i default).tc,(List.replicate lk.toNat (0:Int)).length=lk.toNat,∀ (i:Nat),i<(List.replicate lk.toNat (0:Int)).length→i64T ((List.replicate lk.toNat (0:Int)).getD i (0:Int))=fun j=>valT (Value.int IntKind.i64 (0:Int)).cells.toList j,(0:Int)=(0:Int),(↑lk.toNat:Int)=(↑lk.toNat:Int),(0:Int)=(0:Int),Value.slice none 0 0=Value.slice none 0 0]) K V9 K V12 (by dsimp only [L8_0_J];have e0:evE mem sh lk bu cs l=0:=(by simpa using h1);have hs:=evE_ok e0;exact ⟨Int.le_refl _,by omega,by simp⟩) ?_
  rintro ⟨x2_0,x2_1⟩ hJ2
  dsimp only [L8_0_J] at hJ2
  refine RunF.chk [25,24,8,6,5,4] [.code [1,1,1,1,0,1,0,0],.jmp (Tx.Next (L8_0_I mem sh lk bu cs l) (L8_0_J mem sh lk bu cs l) (L8_0_m mem sh lk bu cs l) (x2_0,x2_1)),.blk 0,.code [1,1,1,1,1]] (z28_1 x2_0 lk mem cs l sh bu x2_1) K ?_
  refine RunF.cond (vc:=[]) (x:=decide (x2_0<(↑lk.toNat:Int))) K trivial (fun h3=>?_) (fun h3=>?_)
  ·exact RunF.next (I:=L8_0_I mem sh lk bu cs l) (J:=L8_0_J mem sh lk bu cs l) (m:=L8_0_m mem sh lk bu cs l) (x:=(x2_0,x2_1)) (vc:=[(0:Int)≤x2_0,x2_0<(↑x2_1.length:Int),x2_0.toNat<x2_1.length,Fits IntKind.i64 (x2_0+(1:Int))]) ((x2_0+(1:Int),x2_1.set x2_0.toNat (-1:Int))) [0,1,2,3,4,5,6,7] (E:=[mem.length=mem.length,∀ (i:Nat),i<mem.length→i64T (mem.getD i (0:Int))=i64T (mem.getD i (0:Int)),cs.length=cs.length,∀ (i:Nat),i<cs.length→(cs.getD i default).tc=(cs.getD i default).tc,l.length=l.length,∀ (i:Nat),i<l.length→(l.getD i default).tc=(l.getD i default).tc,sh=sh,lk=lk,bu=bu,sh=sh,lk=lk,bu=bu,z28_3 mem sh lk bu cs l,∀ (i:Nat),i<(evL mem sh lk bu cs l).length→((evL mem sh lk bu cs l).getD i default).tc=((evL mem sh lk bu cs l).getD i default).tc,(x2_1.set x2_0.toNat (-1:Int)).length=x2_1.length,∀ (i:Nat),i<(x2_1.set x2_0.toNat (-1:Int)).length→i64T ((x2_1.set x2_0.toNat (-1:Int)).getD i (0:Int))=updT (fun i=>i64T (x2_1.getD i (0:Int))) x2_0.toNat 0 [Value.int IntKind.i64 (-1:Int)] i,x2_0+(1:Int)=x2_0+(1:Int),(↑lk.toNat:Int)=(↑lk.toNat:Int),(0:Int)=(0:Int),Value.slice none 0 0=Value.slice none 0 0]) K V9 K V12 (by dsimp only [L8_0_m];(try simp only [decide_eq_true_eq] at *);omega) (by dsimp only [L8_0_J];have e0:evE mem sh lk bu cs l=0:=(by simpa using h1);have hs:=evE_ok e0;refine ⟨by omega,by simp only [BL] at *;omega,?_⟩;rw [hJ2.2.2];exact fill_set lk.toNat hJ2.1 (by simp only [BL] at *;omega))
  ·refine RunF.chk [25,24,8,6,5,4] [.code [1,1,1,1,0,1,0,0,1,0,1],.code [1,1,1,1,0,1,0,0,1,1],.jmp (Tx.Next (L8_0_I mem sh lk bu cs l) (L8_0_J mem sh lk bu cs l) (L8_0_m mem sh lk bu cs l) (x2_0,x2_1)),.blk 0,.code [1,1,1,1,1]] (z28_1 x2_0 lk mem cs l sh bu x2_1) K ?_
   refine RunF.call (vc:=[]) (args:=[SV.c (C.p 4 0)]) e_monitor_looking_blocks (c_blocksF) [4] (E:=[]) K trivial K trivial K ?_
   refine RunF.chk [33,8,5,4] [.ops [1,1,1,1,1,0,0] 2,.code [1,1,1,1,1,0,1],.code [1,1,1,1,1,1]] (St.mk 49 [En.mk 33 [] (SV.c (C.fn 34 [8])),En.mk 8 [] (SV.c (C.p 7 0)),En.mk 5 [] (SV.c (C.i .i64 0)),z28_13] [z28_8 mem,z28_9 cs,z28_10 l,z28_14 sh lk bu,z28_12 sh lk bu,z28_11 mem sh lk bu cs l,z28_15 x2_1,Reg.box 31 [C.h 6],Reg.box 52 [C.p 4 0]] []) K ?_
   refine RunF.range (I:=R8_I mem sh lk bu cs l) (J:=R8_J mem sh lk bu cs l) (Jx:=R8_Jx) (n:=R8_n mem sh lk bu cs l) (nf:=8) (fi:=34) (enc:=R8_enc mem sh lk bu cs l) (stA:=R8_A mem sh lk bu cs l) (preI:=R8_P mem sh lk bu cs l) (argsI:=R8_Q) (caps:=[7]) (x2_1) (St.mk 49 [En.mk 33 [] (SV.c (C.fn 34 [7])),En.mk 8 [] (SV.c (C.p 6 0)),En.mk 5 [] (SV.c (C.i .i64 0)),z28_13] [z28_8 mem,z28_9 cs,z28_10 l,Reg.ro [C.h 0,C.i .i64 sh,C.i .i64 lk,C.i .i64 bu,C.h 1,C.h 2,C.h 4],Reg.row 7 (evL mem sh lk bu cs l).length (fun i=>((evL mem sh lk bu cs l).getD i default).tc) none,z28_15 x2_1,Reg.box 31 [C.h 5],Reg.ro [C.p 3 0]] []) [0,1,2,4,5,6,7,8] [0,1,2,4,3,7] (vc:=[]) (E:=[mem.length=mem.length,∀ (i:Nat),i<mem.length→i64T (mem.getD i (0:Int))=i64T (mem.getD i (0:Int)),cs.length=cs.length,∀ (i:Nat),i<cs.length→(cs.getD i default).tc=(cs.getD i default).tc,l.length=l.length,∀ (i:Nat),i<l.length→(l.getD i default).tc=(l.getD i default).tc,sh=sh,lk=lk,bu=bu,z28_3 mem sh lk bu cs l,∀ (i:Nat),i<(evL mem sh lk bu cs l).length→((evL mem sh lk bu cs l).getD i default).tc=((evL mem sh lk bu cs l).getD i default).tc,x2_1.length=x2_1.length,∀ (i:Nat),i<x2_1.length→i64T (x2_1.getD i (0:Int))=i64T (x2_1.getD i (0:Int)),(0:Int)=(0:Int),Value.slice none 0 0=Value.slice none 0 0]) (E2:=[mem.length=mem.length,z28_4 mem,cs.length=cs.length,z28_5 cs,l.length=l.length,z28_6 l,z28_3 mem sh lk bu cs l,∀ (i:Nat),i<(evL mem sh lk bu cs l).length→((evL mem sh lk bu cs l).getD i default).tc=((evL mem sh lk bu cs l).getD i default).tc,sh=sh,lk=lk,bu=bu]) K trivial K R K e_monitor_looking_blocks_1 K K K K K (by dsimp only [R8_J];have e0:evE mem sh lk bu cs l=0:=(by simpa using h1);have hs:=evE_ok e0;rw [hJ2.2.2,holdAt_zero,show x2_0.toNat=lk.toNat by (simp only [BL] at *;omega),Nat.sub_self];simp) K R K K (fun k=>by kernel_rfl) (fun Xe hn he hy=>c_blocks_it mem sh lk bu cs l (evL mem sh lk bu cs l) (evE_ok (mem:=mem) (bu:=bu) (cs:=cs) (l:=l) V64) evL_ok Xe hn he hy) ?_ (fun _ _=>by kernel_rfl) ?_ ?_ (fun _ _ h=>h.elim)
   ·intro k4 x4 hk4 hJ4
    exact RunF.to (I:=fun x=>R8_A mem sh lk bu cs l k4 x4) (J:=fun x=>True) (vc:=[]) () [0,1,2,3,4,5,6,7,8] (E:=[mem.length=mem.length,z28_4 mem,cs.length=cs.length,z28_5 cs,l.length=l.length,z28_6 l,sh=sh,lk=lk,bu=bu,z28_3 mem sh lk bu cs l,∀ (i:Nat),i<(evL mem sh lk bu cs l).length→((evL mem sh lk bu cs l).getD i default).tc=((evL mem sh lk bu cs l).getD i default).tc,x4.length=x4.length,∀ (i:Nat),i<x4.length→i64T (x4.getD i (0:Int))=i64T (x4.getD i (0:Int)),(z28_7 mem sh lk bu cs l k4).lock=(z28_7 mem sh lk bu cs l k4).lock,(z28_7 mem sh lk bu cs l k4).core=(z28_7 mem sh lk bu cs l k4).core,(z28_7 mem sh lk bu cs l k4).from_=(z28_7 mem sh lk bu cs l k4).from_,(z28_7 mem sh lk bu cs l k4).left=(z28_7 mem sh lk bu cs l k4).left,(z28_7 mem sh lk bu cs l k4).to=(z28_7 mem sh lk bu cs l k4).to]) K trivial K R trivial
   ·rintro k4 x4_0 hk4 hJ4
    dsimp only [R8_J,R8_n] at hJ4
    refine RunF.chk [10,8] [.code [1,1,1,1,1,0,1,0,1],.jmp (fun b a w=>RegsAt (R8_I mem sh lk bu cs l) (R8_J mem sh lk bu cs l (k4+1)) b w)] (St.mk 49 [En.mk 10 [] (SV.c (C.p 8 0)),En.mk 8 [] (SV.c (C.p 6 0))] [z28_8 mem,z28_9 cs,z28_10 l,Reg.ro [C.h 0,C.i .i64 sh,C.i .i64 lk,C.i .i64 bu,C.h 1,C.h 2,C.h 4],Reg.row 7 (evL mem sh lk bu cs l).length (fun i=>((evL mem sh lk bu cs l).getD i default).tc) none,Reg.own 3 1 x4_0.length (fun i=>i64T (x4_0.getD i (0:Int))) none,Reg.box 31 [C.h 5],Reg.ro [C.p 3 0],Reg.box 48 [C.i .i64 (z28_7 mem sh lk bu cs l k4).lock,C.i .i64 (z28_7 mem sh lk bu cs l k4).core,C.i .i64 (z28_7 mem sh lk bu cs l k4).from_,C.i .i64 (z28_7 mem sh lk bu cs l k4).left,C.i .i64 (z28_7 mem sh lk bu cs l k4).to]] [1000000007]) K ?_
    refine RunF.cond (vc:=[(0:Int)≤((blkL mem sh lk bu cs l).getD k4 default).lock,((blkL mem sh lk bu cs l).getD k4 default).lock<(↑x4_0.length:Int),((blkL mem sh lk bu cs l).getD k4 default).lock.toNat<x4_0.length]) (x:=decide (((blkL mem sh lk bu cs l).getD k4 default).to<(0:Int))) K V9 (fun h5=>?_) (fun h5=>?_)
    ·exact RunF.endRound (I:=R8_I mem sh lk bu cs l) (J:=R8_J mem sh lk bu cs l (k4+1)) (vc:=[(0:Int)≤((blkL mem sh lk bu cs l).getD k4 default).lock,((blkL mem sh lk bu cs l).getD k4 default).lock<(↑x4_0.length:Int),((blkL mem sh lk bu cs l).getD k4 default).lock.toNat<x4_0.length]) ((x4_0.set (z28_7 mem sh lk bu cs l k4).lock.toNat (-1:Int)).set (z28_7 mem sh lk bu cs l k4).lock.toNat (z28_7 mem sh lk bu cs l k4).core) [0,1,2,3,4,5,6,7] (E:=[mem.length=mem.length,∀ (i:Nat),i<mem.length→i64T (mem.getD i (0:Int))=i64T (mem.getD i (0:Int)),cs.length=cs.length,∀ (i:Nat),i<cs.length→(cs.getD i default).tc=(cs.getD i default).tc,l.length=l.length,∀ (i:Nat),i<l.length→(l.getD i default).tc=(l.getD i default).tc,sh=sh,lk=lk,bu=bu,z28_3 mem sh lk bu cs l,∀ (i:Nat),i<(evL mem sh lk bu cs l).length→((evL mem sh lk bu cs l).getD i default).tc=((evL mem sh lk bu cs l).getD i default).tc,((x4_0.set ((blkL mem sh lk bu cs l).getD k4 default).lock.toNat (-1:Int)).set ((blkL mem sh lk bu cs l).getD k4 default).lock.toNat ((blkL mem sh lk bu cs l).getD k4 default).core).length=x4_0.length,∀ (i:Nat),i<((x4_0.set ((blkL mem sh lk bu cs l).getD k4 default).lock.toNat (-1:Int)).set ((blkL mem sh lk bu cs l).getD k4 default).lock.toNat ((blkL mem sh lk bu cs l).getD k4 default).core).length→i64T (((x4_0.set ((blkL mem sh lk bu cs l).getD k4 default).lock.toNat (-1:Int)).set ((blkL mem sh lk bu cs l).getD k4 default).lock.toNat ((blkL mem sh lk bu cs l).getD k4 default).core).getD i (0:Int))=updT (updT (fun i=>i64T (x4_0.getD i (0:Int))) ((blkL mem sh lk bu cs l).getD k4 default).lock.toNat 0 [Value.int IntKind.i64 (-1:Int)]) ((blkL mem sh lk bu cs l).getD k4 default).lock.toNat 0 [Value.int IntKind.i64 ((blkL mem sh lk bu cs l).getD k4 default).core] i]) K V9 K V12 V35
    ·exact RunF.endRound (I:=R8_I mem sh lk bu cs l) (J:=R8_J mem sh lk bu cs l (k4+1)) (vc:=[]) (x4_0.set (z28_7 mem sh lk bu cs l k4).lock.toNat (-1:Int)) [0,1,2,3,4,5,6,7] (E:=[mem.length=mem.length,∀ (i:Nat),i<mem.length→i64T (mem.getD i (0:Int))=i64T (mem.getD i (0:Int)),cs.length=cs.length,∀ (i:Nat),i<cs.length→(cs.getD i default).tc=(cs.getD i default).tc,l.length=l.length,∀ (i:Nat),i<l.length→(l.getD i default).tc=(l.getD i default).tc,sh=sh,lk=lk,bu=bu,z28_3 mem sh lk bu cs l,∀ (i:Nat),i<(evL mem sh lk bu cs l).length→((evL mem sh lk bu cs l).getD i default).tc=((evL mem sh lk bu cs l).getD i default).tc,(x4_0.set ((blkL mem sh lk bu cs l).getD k4 default).lock.toNat (-1:Int)).length=x4_0.length,∀ (i:Nat),i<(x4_0.set ((blkL mem sh lk bu cs l).getD k4 default).lock.toNat (-1:Int)).length→i64T ((x4_0.set ((blkL mem sh lk bu cs l).getD k4 default).lock.toNat (-1:Int)).getD i (0:Int))=updT (fun i=>i64T (x4_0.getD i (0:Int))) ((blkL mem sh lk bu cs l).getD k4 default).lock.toNat 0 [Value.int IntKind.i64 (-1:Int)] i]) K trivial K V12 V35
   ·rintro x4_0 hJ4
    dsimp only [R8_J,R8_n] at hJ4
    exact RunF.ret (vc:=[]) (v:=SV.tup [(false,[C.h 5]),(false,[C.i .i64 0])]) _ _ [0,1,2,5] (E:=[(holdersL mem sh lk bu cs l).length=x4_0.length,∀ (i:Nat),i<(holdersL mem sh lk bu cs l).length→i64T ((holdersL mem sh lk bu cs l).getD i (0:Int))=i64T (x4_0.getD i (0:Int)),evE mem sh lk bu cs l=(0:Int)]) K trivial ⟨rfl,rfl⟩ K V58
end Go.Proofs.Ytlblobbklioofaa
end
noncomputable section
namespace Go.Proofs.Ytlblobbklioofaa
open Go Go.Tx
def kIns:List Ins:=[⟨1,0,0,0,0,0,0,1,0⟩,⟨5,0,0,0,0,1,0,0,0⟩,⟨4,0,0,1,0,0,0,0,0⟩,⟨4,0,0,2,0,1,0,0,0⟩,⟨10,0,0,0,0,0,0,0,0⟩]
def kDids:List Did:=[⟨1,0,0,0,0,0,false⟩,⟨4,0,1,1,0,1,false⟩,⟨2,0,0,0,5,0,false⟩,⟨3,0,3,1,0,0,false⟩,⟨8,0,3,1,0,0,false⟩]
theorem c_lawKnown :Ctr Try.prog 25 [] []
 (Det (.tup [(true,[.h 0,.i .i64 1,.i .i64 1,.i .i64 2,.h 1]),(false,[.h 3])]) [WordOwn [5,0],Reg.own 96 2 1 (fun _ _=>.any) (some (0,[.v (.string ⟨#[97]⟩),.h 2])),Ins.ownR kIns,Did.ownR kDids]):=by
 refine Ctr.intro [] Try.func25 K K ?_
 exact RunF.ret (vc:=[]) (v:=SV.tup [(true,[C.h 2,C.i .i64 1,C.i .i64 1,C.i .i64 2,C.h 3]),(false,[C.h 5])]) _ _ [2,3,1,5] (E:=[[(5:Int),(0:Int)].length=2,∀ (i:Nat),i < [(5:Int),(0:Int)].length→i64T ([(5:Int),(0:Int)].getD i (0:Int))=rowT 1 [Value.int IntKind.i64 (5:Int),Value.int IntKind.i64 (0:Int)] i,1=1,0=0,∀ (i:Nat),i<1→i≠0→((fun _=>TC.any):Nat→TC)=fun _=>TC.any,Value.string (ByteArray.mk #[(97:UInt8)])=Value.string (ByteArray.mk #[(97:UInt8)]),kIns.length=5,∀ (i:Nat),i<kIns.length→(kIns.getD i default).tc=rowT 9 [Value.int IntKind.u8 (1:Int),Value.int IntKind.u8 (0:Int),Value.int IntKind.i64 (0:Int),Value.int IntKind.i64 (0:Int),Value.int IntKind.i64 (0:Int),Value.int IntKind.i64 (0:Int),Value.int IntKind.i64 (0:Int),Value.int IntKind.i64 (1:Int),Value.int IntKind.i64 (0:Int),Value.int IntKind.u8 (5:Int),Value.int IntKind.u8 (0:Int),Value.int IntKind.i64 (0:Int),Value.int IntKind.i64 (0:Int),Value.int IntKind.i64 (0:Int),Value.int IntKind.i64 (1:Int),Value.int IntKind.i64 (0:Int),Value.int IntKind.i64 (0:Int),Value.int IntKind.i64 (0:Int),Value.int IntKind.u8 (4:Int),Value.int IntKind.u8 (0:Int),Value.int IntKind.i64 (0:Int),Value.int IntKind.i64 (1:Int),Value.int IntKind.i64 (0:Int),Value.int IntKind.i64 (0:Int),Value.int IntKind.i64 (0:Int),Value.int IntKind.i64 (0:Int),Value.int IntKind.i64 (0:Int),Value.int IntKind.u8 (4:Int),Value.int IntKind.u8 (0:Int),Value.int IntKind.i64 (0:Int),Value.int IntKind.i64 (2:Int),Value.int IntKind.i64 (0:Int),Value.int IntKind.i64 (1:Int),Value.int IntKind.i64 (0:Int),Value.int IntKind.i64 (0:Int),Value.int IntKind.i64 (0:Int),Value.int IntKind.u8 (10:Int),Value.int IntKind.u8 (0:Int),Value.int IntKind.i64 (0:Int),Value.int IntKind.i64 (0:Int),Value.int IntKind.i64 (0:Int),Value.int IntKind.i64 (0:Int),Value.int IntKind.i64 (0:Int),Value.int IntKind.i64 (0:Int),Value.int IntKind.i64 (0:Int)] i,kDids.length=5,∀ (i:Nat),i<kDids.length→(kDids.getD i default).tc=rowT 7 [Value.int IntKind.u8 (1:Int),Value.int IntKind.i64 (0:Int),Value.int IntKind.i64 (0:Int),Value.int IntKind.i64 (0:Int),Value.int IntKind.i64 (0:Int),Value.int IntKind.i64 (0:Int),Value.bool false,Value.int IntKind.u8 (4:Int),Value.int IntKind.i64 (0:Int),Value.int IntKind.i64 (1:Int),Value.int IntKind.i64 (1:Int),Value.int IntKind.i64 (0:Int),Value.int IntKind.i64 (1:Int),Value.bool false,Value.int IntKind.u8 (2:Int),Value.int IntKind.i64 (0:Int),Value.int IntKind.i64 (0:Int),Value.int IntKind.i64 (0:Int),Value.int IntKind.i64 (5:Int),Value.int IntKind.i64 (0:Int),Value.bool false,Value.int IntKind.u8 (3:Int),Value.int IntKind.i64 (0:Int),Value.int IntKind.i64 (3:Int),Value.int IntKind.i64 (1:Int),Value.int IntKind.i64 (0:Int),Value.int IntKind.i64 (0:Int),Value.bool false,Value.int IntKind.u8 (8:Int),Value.int IntKind.i64 (0:Int),Value.int IntKind.i64 (3:Int),Value.int IntKind.i64 (1:Int),Value.int IntKind.i64 (0:Int),Value.int IntKind.i64 (0:Int),Value.bool false] i,(1:Int)=(1:Int),(1:Int)=(1:Int),(2:Int)=(2:Int)]) K trivial ⟨rfl,rfl⟩ K (by simp only [Conj];(repeat' apply And.intro)<;>first | rfl | trivial | (intros;trivial) | (exact rowT_list _ Ins.tl _ _ _ K) | (exact rowT_list _ Did.tl _ _ _ K) | (exact rowT_list (0:Int) (fun n=>[.val (.int .i64 n)]) _ _ _ K) | skip)
end Go.Proofs.Ytlblobbklioofaa
end
noncomputable section
namespace Go.Proofs.Ytlblobbklioofaa
open Go Go.Tx
def kCor:Cor:=⟨⟨#[97]⟩,kIns⟩
theorem getD_all {α:Type} (P:α→Prop) (l:List α) (d:α) (h:∀ x∈l,P x) (hd:P d) (a:Nat):P (l.getD a d):=by
 rw [List.getD_eq_getElem?_getD]
 cases e:l[a]? with
 | none=>exact hd
 | some x=>exact h x (List.mem_of_getElem? e)
theorem insK_def:insK default:=by unfold insK;decide
theorem kHw:∀ a b:Nat,insK (([kCor].getD a default).code.getD b default):=fun a b=>by
 refine getD_all (fun c:Cor=>insK (c.code.getD b default)) [kCor] default (fun x hx=>?_) ?_ a
 ·cases List.mem_singleton.1 hx
  refine getD_all insK kIns default (fun x hx=>?_) insK_def b
  simp only [kIns,List.mem_cons,List.not_mem_nil,or_false] at hx
  rcases hx with rfl | rfl | rfl | rfl | rfl<;>(unfold insK;decide)
 ·exact getD_all insK [] default (fun x hx=>by cases hx) insK_def b
def kDids2:List Did:=List.take 4 (List.drop 0 kDids)++[⟨4,0,1,1,0,1,false⟩]
theorem kHl:∀ a:Nat,0≤(kDids.getD a default).kind∧(kDids.getD a default).kind≤255:=
 getD_all (fun d:Did=>0≤d.kind∧d.kind≤255) kDids default (fun x hx=>by
  simp only [kDids,List.mem_cons,List.not_mem_nil,or_false] at hx
  rcases hx with rfl | rfl | rfl | rfl | rfl<;>decide) (by decide)
theorem kHl2:∀ a:Nat,0≤((List.take 4 (List.drop 0 kDids)++[(⟨4,0,1,1,0,1,false⟩:Did)]).getD a default).kind∧((List.take 4 (List.drop 0 kDids)++[(⟨4,0,1,1,0,1,false⟩:Did)]).getD a default).kind≤255:=
 getD_all (fun d:Did=>0≤d.kind∧d.kind≤255) kDids2 default (fun x hx=>by
  simp only [kDids2,kDids,List.drop_zero,List.take_succ_cons,List.take_zero,List.cons_append,List.nil_append,List.mem_cons,List.not_mem_nil,or_false] at hx
  rcases hx with rfl | rfl | rfl | rfl | rfl<;>decide) (by decide)
theorem kB:blkL [5,0] 1 1 2 [kCor] kDids=[⟨0,0,1,3,4⟩]:=by kernel_rfl
theorem kH:handsL [5,0] 1 1 2 [kCor] kDids [⟨2,0,0⟩]=[⟨0,0,2,5,5⟩]:=by kernel_rfl
abbrev z30_9:=[Did.mk (4:Int) (0:Int) (1:Int) (1:Int) (0:Int) (1:Int) false]
abbrev z30_16:=[Cls.mk (2:Int) (0:Int) (0:Int)]
abbrev z30_10:=(handsL [(5:Int),(0:Int)] (1:Int) (1:Int) (2:Int) [kCor] kDids z30_16)
abbrev z30_11:=(blkL [(5:Int),(0:Int)] (1:Int) (1:Int) (2:Int) [kCor] kDids)
abbrev z30_12:=(evE [(5:Int),(0:Int)] (1:Int) (1:Int) (2:Int) [kCor] kDids)
abbrev z30_14:=(askE [(5:Int),(0:Int)] (1:Int) (1:Int) (2:Int) [kCor] kDids z30_16)
abbrev z30_15:=(List.take 4 (List.drop 0 kDids)++z30_9)
abbrev z30_17:=Reg.own 48 5 1 (fun i=>(z30_11.getD i default).tc) none
abbrev z30_1:=St.mk 75 [En.mk 8 [] (SV.c (C.i .i64 (evE [(5:Int),(0:Int)] (1:Int) (1:Int) (2:Int) [kCor] z30_15))),En.mk 7 [] (SV.c (C.i .i64 (crowdL [(5:Int),(0:Int)] (1:Int) (1:Int) (2:Int) [kCor] z30_15))),En.mk 6 [] (SV.c (C.i .i64 z30_14)),En.mk 5 [] (SV.c (C.h 7)),En.mk 4 [] (SV.c (C.i .i64 z30_12)),En.mk 3 [] (SV.c (C.h 5)),En.mk 0 [] (SV.c (C.t false))] [Reg.dead,Reg.dead,Reg.dead,Reg.dead,Reg.dead,z30_17,Reg.dead,Reg.own 50 5 1 (fun i=>(z30_10.getD i default).tc) none,Reg.dead,Reg.dead,Reg.dead] []
abbrev z30_2:=[1=1,∀ (i:Nat),i<1→(z30_11.getD i default).tc=(z30_11.getD i default).tc,1=1,∀ (i:Nat),i<1→(z30_10.getD i default).tc=(z30_10.getD i default).tc,evE [(5:Int),(0:Int)] (1:Int) (1:Int) (2:Int) [kCor] z30_15=evE [(5:Int),(0:Int)] (1:Int) (1:Int) (2:Int) [kCor] z30_15,crowdL [(5:Int),(0:Int)] (1:Int) (1:Int) (2:Int) [kCor] z30_15=crowdL [(5:Int),(0:Int)] (1:Int) (1:Int) (2:Int) [kCor] z30_15,askE [(5:Int),(0:Int)] (1:Int) (1:Int) (2:Int) [kCor] kDids z30_16=askE [(5:Int),(0:Int)] (1:Int) (1:Int) (2:Int) [kCor] kDids z30_16,evE [(5:Int),(0:Int)] (1:Int) (1:Int) (2:Int) [kCor] kDids=evE [(5:Int),(0:Int)] (1:Int) (1:Int) (2:Int) [kCor] kDids]
abbrev z30_3:=[C.h 0,C.i .i64 1,C.i .i64 1,C.i .i64 2,C.h 1]
abbrev z30_4:=(z30_10.getD 0 default)
abbrev z30_5:=(z30_11.getD 0 default)
abbrev z30_6:=Reg.own 2 1 2 (fun i=>i64T ([(5:Int),(0:Int)].getD i (0:Int))) none
abbrev z30_7:=Reg.own 96 2 1 (fun i=>([kCor].getD i default).tc) none
abbrev z30_8:=Reg.row 7 5 (fun i=>(kDids.getD i default).tc) none
abbrev z30_13:=(St.mk 75 [En.mk 10 [] (SV.tup [(true,z30_3),(false,[C.h 3])]),En.mk 0 [] (SV.c (C.t false))] [z30_6,z30_7,Reg.dead,z30_8] [])
theorem c_lives :Ctr Try.prog 12 [] []
 (Det (.c (.b true)) []):=by
 refine Ctr.intro [] Try.func12 K K ?_
 refine RunF.call (vc:=[]) (args:=[]) e_stilelaw23_known (c_lawKnown) [] (E:=[]) K trivial K trivial K ?_
 refine RunF.fold (vc:=[Value.string kCor.name=Value.string (ByteArray.mk #[(97:UInt8)]),kCor.code.length=kIns.length,∀ (i:Nat),i<kCor.code.length→(kCor.code.getD i default).tc=(kIns.getD i default).tc]) 1 ((Cor.tc kCor)) K (by simp only [Conj];(repeat' apply And.intro)<;>first | rfl | (intros;rfl) | skip) ?_
 refine RunF.reg (vc:=[[kCor].length=1,∀ (i:Nat),i < [kCor].length→([kCor].getD i default).tc=if i=0 then kCor.tc else fun x=>TC.any]) 1 ((Cor.ownR [kCor])) K (by simp only [Conj];(repeat' apply And.intro)<;>first | rfl | (intro i hi;obtain rfl:i=0:=(by simp at hi;omega);rfl) | skip) ?_
 refine RunF.weaken z30_13 [0,1,2,3] (E:=[2=2,∀ (i:Nat),i<2→i64T ([(5:Int),(0:Int)].getD i (0:Int))=i64T ([(5:Int),(0:Int)].getD i (0:Int)),1=1,∀ (i:Nat),i<1→([kCor].getD i default).tc=([kCor].getD i default).tc,5=5,∀ (i:Nat),i<5→(kDids.getD i default).tc=(kDids.getD i default).tc,(1:Int)=(1:Int),(1:Int)=(1:Int),(2:Int)=(2:Int)]) K R ?_
 refine RunF.chk [10,0] [.ops [1,0] 1,.code [1,1]] z30_13 K ?_
 refine RunF.call (vc:=[]) (args:=[SV.agg z30_3,SV.c (C.h 3)]) e_monitor_Blocks (c_blocksT (mem:=[(5:Int),(0:Int)]) (sh:=(1:Int)) (lk:=(1:Int)) (bu:=(2:Int)) (cs:=[kCor]) (l:=kDids) (hw:=by first | exact kHw | exact kHl | exact kHl2 | decide | (simp [kDids];done)) (hl:=by first | exact kHw | exact kHl | exact kHl2 | decide | (simp [kDids];done)) (hn:=by first | exact kHw | exact kHl | exact kHl2 | decide | (simp [kDids];done))) [0,1,3] (E:=[[(5:Int),(0:Int)].length=2,∀ (i:Nat),i < [(5:Int),(0:Int)].length→i64T ([(5:Int),(0:Int)].getD i (0:Int))=i64T ([(5:Int),(0:Int)].getD i (0:Int)),[kCor].length=1,∀ (i:Nat),i < [kCor].length→([kCor].getD i default).tc=([kCor].getD i default).tc,kDids.length=5,∀ (i:Nat),i<kDids.length→(kDids.getD i default).tc=(kDids.getD i default).tc,(1:Int)=(1:Int),(1:Int)=(1:Int),(2:Int)=(2:Int)]) K trivial K V13 K ?_
 refine RunF.chk [16,2,1,0] [.ops [1,1,0] 3,.code [1,1,1]] (St.mk 75 [En.mk 16 [] (SV.tup [(false,[C.h 5]),(false,[C.i .i64 z30_12])]),En.mk 2 [] (SV.c (C.h 3)),En.mk 1 [] (SV.c (C.p 4 0)),En.mk 0 [] (SV.c (C.t false))] [z30_6,z30_7,Reg.dead,z30_8,Reg.box 25 z30_3,z30_17] []) K ?_
 refine RunF.call (vc:=[]) (args:=[SV.agg z30_3,SV.c (C.h 6),SV.c (C.h 3)]) e_monitor_Hands (c_handsT (mem:=[(5:Int),(0:Int)]) (sh:=(1:Int)) (lk:=(1:Int)) (bu:=(2:Int)) (cs:=[kCor]) (l:=kDids) (cl:=z30_16) (hw:=by first | exact kHw | exact kHl | exact kHl2 | decide | (simp [kDids];done)) (hl:=by first | exact kHw | exact kHl | exact kHl2 | decide | (simp [kDids];done)) (hn:=by first | exact kHw | exact kHl | exact kHl2 | decide | (simp [kDids];done))) [0,1,3,6] (E:=[[(5:Int),(0:Int)].length=2,∀ (i:Nat),i < [(5:Int),(0:Int)].length→i64T ([(5:Int),(0:Int)].getD i (0:Int))=i64T ([(5:Int),(0:Int)].getD i (0:Int)),[kCor].length=1,∀ (i:Nat),i < [kCor].length→([kCor].getD i default).tc=([kCor].getD i default).tc,kDids.length=5,∀ (i:Nat),i<kDids.length→(kDids.getD i default).tc=(kDids.getD i default).tc,[Cls.mk (2:Int) (0:Int) (0:Int)].length=1,∀ (i:Nat),i < [Cls.mk (2:Int) (0:Int) (0:Int)].length→i≠0→([Cls.mk (2:Int) (0:Int) (0:Int)].getD i default).tc=fun x=>TC.any,(Cls.mk (2:Int) (0:Int) (0:Int)).tc 0=TC.val (Value.int IntKind.u8 (2:Int)),(Cls.mk (2:Int) (0:Int) (0:Int)).tc 1=TC.val (Value.int IntKind.i64 (0:Int)),(Cls.mk (2:Int) (0:Int) (0:Int)).tc 2=TC.val (Value.int IntKind.i64 (0:Int)),(1:Int)=(1:Int),(1:Int)=(1:Int),(2:Int)=(2:Int)]) K trivial K V13 K ?_
 refine RunF.chk [24,4,3,2,1,0] [.ops [1,1,1,0] 5,.code [1,1,1,1]] (St.mk 75 [En.mk 24 [] (SV.tup [(false,[C.h 7]),(false,[C.i .i64 z30_14])]),En.mk 4 [] (SV.c (C.i .i64 z30_12)),En.mk 3 [] (SV.c (C.h 5)),En.mk 2 [] (SV.c (C.h 3)),En.mk 1 [] (SV.c (C.p 4 0)),En.mk 0 [] (SV.c (C.t false))] [z30_6,z30_7,Reg.dead,z30_8,Reg.box 25 z30_3,z30_17,Reg.own 72 3 1 (fun x x_1=>TC.any) (some (0,[C.i .u8 2,C.i .i64 0,C.i .i64 0])),Reg.own 50 5 1 (fun i=>(z30_10.getD i default).tc) none] []) K ?_
 refine RunF.any (n:=3) (vc:=[]) (fun _:Unit=>z30_1) (fun _=>True) K trivial ?_ ?_
 ·refine ⟨⟨⟨trivial,?_⟩,?_⟩,?_⟩
  ·refine RunF.any (n:=2) (vc:=[]) (fun _:Unit=>z30_1) (fun _=>True) K trivial ?_ ?_
   ·refine ⟨⟨trivial,?_⟩,?_⟩
    ·refine RunF.call (vc:=[(0:Int)≤(0:Int),(0:Int)≤(4:Int),(4:Int)≤(5:Int),(4:Int)=(4:Int),(0:Int)≤(0:Int),(0:Int)≤(4:Int),(4:Int)≤(5:Int),(4:Int)=(4:Int),∀ (i j:Nat),i<4→j<7→flatT ((kDids.getD (0+i) default).tc j),0<4,5≤maxLen,280≤140737488355328]) (args:=[SV.agg z30_3,SV.c (C.h 10)]) e_monitor_Crowd (c_crowdT (mem:=[(5:Int),(0:Int)]) (sh:=(1:Int)) (lk:=(1:Int)) (bu:=(2:Int)) (cs:=[kCor]) (l:=List.take 4 (List.drop 0 kDids)++z30_9) (hw:=by first | exact kHw | exact kHl | exact kHl2 | decide | (simp [kDids];done)) (hl:=by first | exact kHw | exact kHl | exact kHl2 | decide | (simp [kDids];done)) (hn:=by first | exact kHw | exact kHl | exact kHl2 | decide | (simp [kDids];done))) [0,1,10] (E:=[[(5:Int),(0:Int)].length=2,∀ (i:Nat),i < [(5:Int),(0:Int)].length→i64T ([(5:Int),(0:Int)].getD i (0:Int))=i64T ([(5:Int),(0:Int)].getD i (0:Int)),[kCor].length=1,∀ (i:Nat),i < [kCor].length→([kCor].getD i default).tc=([kCor].getD i default).tc,(List.take 4 (List.drop 0 kDids)++[Did.mk (4:Int) (0:Int) (1:Int) (1:Int) (0:Int) (1:Int) false]).length=5,∀ (i:Nat),i<(List.take 4 (List.drop 0 kDids)++[Did.mk (4:Int) (0:Int) (1:Int) (1:Int) (0:Int) (1:Int) false]).length→i≠4→((List.take 4 (List.drop 0 kDids)++[Did.mk (4:Int) (0:Int) (1:Int) (1:Int) (0:Int) (1:Int) false]).getD i default).tc=(kDids.getD (0+i) default).tc,((List.take 4 (List.drop 0 kDids)++[Did.mk (4:Int) (0:Int) (1:Int) (1:Int) (0:Int) (1:Int) false]).getD 4 default).tc 0=TC.val (Value.int IntKind.u8 (4:Int)),((List.take 4 (List.drop 0 kDids)++[Did.mk (4:Int) (0:Int) (1:Int) (1:Int) (0:Int) (1:Int) false]).getD 4 default).tc 1=TC.val (Value.int IntKind.i64 (0:Int)),((List.take 4 (List.drop 0 kDids)++[Did.mk (4:Int) (0:Int) (1:Int) (1:Int) (0:Int) (1:Int) false]).getD 4 default).tc 2=TC.val (Value.int IntKind.i64 (1:Int)),((List.take 4 (List.drop 0 kDids)++[Did.mk (4:Int) (0:Int) (1:Int) (1:Int) (0:Int) (1:Int) false]).getD 4 default).tc 3=TC.val (Value.int IntKind.i64 (1:Int)),((List.take 4 (List.drop 0 kDids)++[Did.mk (4:Int) (0:Int) (1:Int) (1:Int) (0:Int) (1:Int) false]).getD 4 default).tc 4=TC.val (Value.int IntKind.i64 (0:Int)),((List.take 4 (List.drop 0 kDids)++[Did.mk (4:Int) (0:Int) (1:Int) (1:Int) (0:Int) (1:Int) false]).getD 4 default).tc 5=TC.val (Value.int IntKind.i64 (1:Int)),((List.take 4 (List.drop 0 kDids)++[Did.mk (4:Int) (0:Int) (1:Int) (1:Int) (0:Int) (1:Int) false]).getD 4 default).tc 6=TC.val (Value.bool false),(1:Int)=(1:Int),(1:Int)=(1:Int),(2:Int)=(2:Int)]) K V14 K V13 K ?_
     exact RunF.to (I:=fun x=>z30_1) (J:=fun x=>True) (vc:=[]) () [0,1,2,3,4,5,6,7,8,9,10] (E:=z30_2) K trivial K R trivial
    ·refine RunF.call (vc:=[(0:Int)≤(0:Int),(0:Int)≤(4:Int),(4:Int)≤(5:Int),(4:Int)=(4:Int),(0:Int)≤(0:Int),(0:Int)≤(4:Int),(4:Int)≤(5:Int),(4:Int)=(4:Int),∀ (i j:Nat),i<4→j<7→flatT ((kDids.getD (0+i) default).tc j),0<4,5≤maxLen,280≤140737488355328]) (args:=[SV.agg z30_3,SV.c (C.h 10)]) e_monitor_Crowd (c_crowdT (mem:=[(5:Int),(0:Int)]) (sh:=(1:Int)) (lk:=(1:Int)) (bu:=(2:Int)) (cs:=[kCor]) (l:=List.take 4 (List.drop 0 kDids)++z30_9) (hw:=by first | exact kHw | exact kHl | exact kHl2 | decide | (simp [kDids];done)) (hl:=by first | exact kHw | exact kHl | exact kHl2 | decide | (simp [kDids];done)) (hn:=by first | exact kHw | exact kHl | exact kHl2 | decide | (simp [kDids];done))) [0,1,10] (E:=[[(5:Int),(0:Int)].length=2,∀ (i:Nat),i < [(5:Int),(0:Int)].length→i64T ([(5:Int),(0:Int)].getD i (0:Int))=i64T ([(5:Int),(0:Int)].getD i (0:Int)),[kCor].length=1,∀ (i:Nat),i < [kCor].length→([kCor].getD i default).tc=([kCor].getD i default).tc,(List.take 4 (List.drop 0 kDids)++[Did.mk (4:Int) (0:Int) (1:Int) (1:Int) (0:Int) (1:Int) false]).length=5,∀ (i:Nat),i<(List.take 4 (List.drop 0 kDids)++[Did.mk (4:Int) (0:Int) (1:Int) (1:Int) (0:Int) (1:Int) false]).length→i≠4→((List.take 4 (List.drop 0 kDids)++[Did.mk (4:Int) (0:Int) (1:Int) (1:Int) (0:Int) (1:Int) false]).getD i default).tc=(kDids.getD (0+i) default).tc,((List.take 4 (List.drop 0 kDids)++[Did.mk (4:Int) (0:Int) (1:Int) (1:Int) (0:Int) (1:Int) false]).getD 4 default).tc 0=TC.val (Value.int IntKind.u8 (4:Int)),((List.take 4 (List.drop 0 kDids)++[Did.mk (4:Int) (0:Int) (1:Int) (1:Int) (0:Int) (1:Int) false]).getD 4 default).tc 1=TC.val (Value.int IntKind.i64 (0:Int)),((List.take 4 (List.drop 0 kDids)++[Did.mk (4:Int) (0:Int) (1:Int) (1:Int) (0:Int) (1:Int) false]).getD 4 default).tc 2=TC.val (Value.int IntKind.i64 (1:Int)),((List.take 4 (List.drop 0 kDids)++[Did.mk (4:Int) (0:Int) (1:Int) (1:Int) (0:Int) (1:Int) false]).getD 4 default).tc 3=TC.val (Value.int IntKind.i64 (1:Int)),((List.take 4 (List.drop 0 kDids)++[Did.mk (4:Int) (0:Int) (1:Int) (1:Int) (0:Int) (1:Int) false]).getD 4 default).tc 4=TC.val (Value.int IntKind.i64 (0:Int)),((List.take 4 (List.drop 0 kDids)++[Did.mk (4:Int) (0:Int) (1:Int) (1:Int) (0:Int) (1:Int) false]).getD 4 default).tc 5=TC.val (Value.int IntKind.i64 (1:Int)),((List.take 4 (List.drop 0 kDids)++[Did.mk (4:Int) (0:Int) (1:Int) (1:Int) (0:Int) (1:Int) false]).getD 4 default).tc 6=TC.val (Value.bool false),(1:Int)=(1:Int),(1:Int)=(1:Int),(2:Int)=(2:Int)]) K V14 K V13 K ?_
     exact RunF.to (I:=fun x=>z30_1) (J:=fun x=>True) (vc:=[]) () [0,1,2,3,4,5,6,7,8,9,10] (E:=z30_2) K trivial K R trivial
   ·rintro ⟨⟩ _
    exact RunF.to (I:=fun x=>z30_1) (J:=fun x=>True) (vc:=[]) () [0,1,2,3,4,5,6,7,8,9,10] (E:=z30_2) K trivial K R trivial
  ·refine RunF.any (n:=2) (vc:=[(0:Int)≤(0:Int),(0:Int)≤(4:Int),(4:Int)≤(5:Int),(4:Int)=(4:Int),(0:Int)≤(0:Int),(0:Int)≤(4:Int),(4:Int)≤(5:Int),(4:Int)=(4:Int)]) (fun _:Unit=>z30_1) (fun _=>True) K V14 ?_ ?_
   ·refine ⟨⟨trivial,?_⟩,?_⟩
    ·refine RunF.call (vc:=[∀ (i j:Nat),i<4→j<7→flatT ((kDids.getD (0+i) default).tc j),0<4,5≤maxLen,280≤140737488355328]) (args:=[SV.agg z30_3,SV.c (C.h 10)]) e_monitor_Crowd (c_crowdT (mem:=[(5:Int),(0:Int)]) (sh:=(1:Int)) (lk:=(1:Int)) (bu:=(2:Int)) (cs:=[kCor]) (l:=List.take 4 (List.drop 0 kDids)++z30_9) (hw:=by first | exact kHw | exact kHl | exact kHl2 | decide | (simp [kDids];done)) (hl:=by first | exact kHw | exact kHl | exact kHl2 | decide | (simp [kDids];done)) (hn:=by first | exact kHw | exact kHl | exact kHl2 | decide | (simp [kDids];done))) [0,1,10] (E:=[[(5:Int),(0:Int)].length=2,∀ (i:Nat),i < [(5:Int),(0:Int)].length→i64T ([(5:Int),(0:Int)].getD i (0:Int))=i64T ([(5:Int),(0:Int)].getD i (0:Int)),[kCor].length=1,∀ (i:Nat),i < [kCor].length→([kCor].getD i default).tc=([kCor].getD i default).tc,(List.take 4 (List.drop 0 kDids)++[Did.mk (4:Int) (0:Int) (1:Int) (1:Int) (0:Int) (1:Int) false]).length=5,∀ (i:Nat),i<(List.take 4 (List.drop 0 kDids)++[Did.mk (4:Int) (0:Int) (1:Int) (1:Int) (0:Int) (1:Int) false]).length→i≠4→((List.take 4 (List.drop 0 kDids)++[Did.mk (4:Int) (0:Int) (1:Int) (1:Int) (0:Int) (1:Int) false]).getD i default).tc=(kDids.getD (0+i) default).tc,((List.take 4 (List.drop 0 kDids)++[Did.mk (4:Int) (0:Int) (1:Int) (1:Int) (0:Int) (1:Int) false]).getD 4 default).tc 0=TC.val (Value.int IntKind.u8 (4:Int)),((List.take 4 (List.drop 0 kDids)++[Did.mk (4:Int) (0:Int) (1:Int) (1:Int) (0:Int) (1:Int) false]).getD 4 default).tc 1=TC.val (Value.int IntKind.i64 (0:Int)),((List.take 4 (List.drop 0 kDids)++[Did.mk (4:Int) (0:Int) (1:Int) (1:Int) (0:Int) (1:Int) false]).getD 4 default).tc 2=TC.val (Value.int IntKind.i64 (1:Int)),((List.take 4 (List.drop 0 kDids)++[Did.mk (4:Int) (0:Int) (1:Int) (1:Int) (0:Int) (1:Int) false]).getD 4 default).tc 3=TC.val (Value.int IntKind.i64 (1:Int)),((List.take 4 (List.drop 0 kDids)++[Did.mk (4:Int) (0:Int) (1:Int) (1:Int) (0:Int) (1:Int) false]).getD 4 default).tc 4=TC.val (Value.int IntKind.i64 (0:Int)),((List.take 4 (List.drop 0 kDids)++[Did.mk (4:Int) (0:Int) (1:Int) (1:Int) (0:Int) (1:Int) false]).getD 4 default).tc 5=TC.val (Value.int IntKind.i64 (1:Int)),((List.take 4 (List.drop 0 kDids)++[Did.mk (4:Int) (0:Int) (1:Int) (1:Int) (0:Int) (1:Int) false]).getD 4 default).tc 6=TC.val (Value.bool false),(1:Int)=(1:Int),(1:Int)=(1:Int),(2:Int)=(2:Int)]) K V14 K V13 K ?_
     exact RunF.to (I:=fun x=>z30_1) (J:=fun x=>True) (vc:=[]) () [0,1,2,3,4,5,6,7,8,9,10] (E:=z30_2) K trivial K R trivial
    ·refine RunF.any (n:=2) (vc:=[]) (fun _:Unit=>z30_1) (fun _=>True) K trivial ?_ ?_
     ·refine ⟨⟨trivial,?_⟩,?_⟩
      ·refine RunF.call (vc:=[∀ (i j:Nat),i<4→j<7→flatT ((kDids.getD (0+i) default).tc j),0<4,5≤maxLen,280≤140737488355328]) (args:=[SV.agg z30_3,SV.c (C.h 10)]) e_monitor_Crowd (c_crowdT (mem:=[(5:Int),(0:Int)]) (sh:=(1:Int)) (lk:=(1:Int)) (bu:=(2:Int)) (cs:=[kCor]) (l:=List.take 4 (List.drop 0 kDids)++z30_9) (hw:=by first | exact kHw | exact kHl | exact kHl2 | decide | (simp [kDids];done)) (hl:=by first | exact kHw | exact kHl | exact kHl2 | decide | (simp [kDids];done)) (hn:=by first | exact kHw | exact kHl | exact kHl2 | decide | (simp [kDids];done))) [0,1,10] (E:=[[(5:Int),(0:Int)].length=2,∀ (i:Nat),i < [(5:Int),(0:Int)].length→i64T ([(5:Int),(0:Int)].getD i (0:Int))=i64T ([(5:Int),(0:Int)].getD i (0:Int)),[kCor].length=1,∀ (i:Nat),i < [kCor].length→([kCor].getD i default).tc=([kCor].getD i default).tc,(List.take 4 (List.drop 0 kDids)++[Did.mk (4:Int) (0:Int) (1:Int) (1:Int) (0:Int) (1:Int) false]).length=5,∀ (i:Nat),i<(List.take 4 (List.drop 0 kDids)++[Did.mk (4:Int) (0:Int) (1:Int) (1:Int) (0:Int) (1:Int) false]).length→i≠4→((List.take 4 (List.drop 0 kDids)++[Did.mk (4:Int) (0:Int) (1:Int) (1:Int) (0:Int) (1:Int) false]).getD i default).tc=(kDids.getD (0+i) default).tc,((List.take 4 (List.drop 0 kDids)++[Did.mk (4:Int) (0:Int) (1:Int) (1:Int) (0:Int) (1:Int) false]).getD 4 default).tc 0=TC.val (Value.int IntKind.u8 (4:Int)),((List.take 4 (List.drop 0 kDids)++[Did.mk (4:Int) (0:Int) (1:Int) (1:Int) (0:Int) (1:Int) false]).getD 4 default).tc 1=TC.val (Value.int IntKind.i64 (0:Int)),((List.take 4 (List.drop 0 kDids)++[Did.mk (4:Int) (0:Int) (1:Int) (1:Int) (0:Int) (1:Int) false]).getD 4 default).tc 2=TC.val (Value.int IntKind.i64 (1:Int)),((List.take 4 (List.drop 0 kDids)++[Did.mk (4:Int) (0:Int) (1:Int) (1:Int) (0:Int) (1:Int) false]).getD 4 default).tc 3=TC.val (Value.int IntKind.i64 (1:Int)),((List.take 4 (List.drop 0 kDids)++[Did.mk (4:Int) (0:Int) (1:Int) (1:Int) (0:Int) (1:Int) false]).getD 4 default).tc 4=TC.val (Value.int IntKind.i64 (0:Int)),((List.take 4 (List.drop 0 kDids)++[Did.mk (4:Int) (0:Int) (1:Int) (1:Int) (0:Int) (1:Int) false]).getD 4 default).tc 5=TC.val (Value.int IntKind.i64 (1:Int)),((List.take 4 (List.drop 0 kDids)++[Did.mk (4:Int) (0:Int) (1:Int) (1:Int) (0:Int) (1:Int) false]).getD 4 default).tc 6=TC.val (Value.bool false),(1:Int)=(1:Int),(1:Int)=(1:Int),(2:Int)=(2:Int)]) K V14 K V13 K ?_
       exact RunF.to (I:=fun x=>z30_1) (J:=fun x=>True) (vc:=[]) () [0,1,2,3,4,5,6,7,8,9,10] (E:=z30_2) K trivial K R trivial
      ·refine RunF.call (vc:=[∀ (i j:Nat),i<4→j<7→flatT ((kDids.getD (0+i) default).tc j),0<4,5≤maxLen,280≤140737488355328]) (args:=[SV.agg z30_3,SV.c (C.h 10)]) e_monitor_Crowd (c_crowdT (mem:=[(5:Int),(0:Int)]) (sh:=(1:Int)) (lk:=(1:Int)) (bu:=(2:Int)) (cs:=[kCor]) (l:=List.take 4 (List.drop 0 kDids)++z30_9) (hw:=by first | exact kHw | exact kHl | exact kHl2 | decide | (simp [kDids];done)) (hl:=by first | exact kHw | exact kHl | exact kHl2 | decide | (simp [kDids];done)) (hn:=by first | exact kHw | exact kHl | exact kHl2 | decide | (simp [kDids];done))) [0,1,10] (E:=[[(5:Int),(0:Int)].length=2,∀ (i:Nat),i < [(5:Int),(0:Int)].length→i64T ([(5:Int),(0:Int)].getD i (0:Int))=i64T ([(5:Int),(0:Int)].getD i (0:Int)),[kCor].length=1,∀ (i:Nat),i < [kCor].length→([kCor].getD i default).tc=([kCor].getD i default).tc,(List.take 4 (List.drop 0 kDids)++[Did.mk (4:Int) (0:Int) (1:Int) (1:Int) (0:Int) (1:Int) false]).length=5,∀ (i:Nat),i<(List.take 4 (List.drop 0 kDids)++[Did.mk (4:Int) (0:Int) (1:Int) (1:Int) (0:Int) (1:Int) false]).length→i≠4→((List.take 4 (List.drop 0 kDids)++[Did.mk (4:Int) (0:Int) (1:Int) (1:Int) (0:Int) (1:Int) false]).getD i default).tc=(kDids.getD (0+i) default).tc,((List.take 4 (List.drop 0 kDids)++[Did.mk (4:Int) (0:Int) (1:Int) (1:Int) (0:Int) (1:Int) false]).getD 4 default).tc 0=TC.val (Value.int IntKind.u8 (4:Int)),((List.take 4 (List.drop 0 kDids)++[Did.mk (4:Int) (0:Int) (1:Int) (1:Int) (0:Int) (1:Int) false]).getD 4 default).tc 1=TC.val (Value.int IntKind.i64 (0:Int)),((List.take 4 (List.drop 0 kDids)++[Did.mk (4:Int) (0:Int) (1:Int) (1:Int) (0:Int) (1:Int) false]).getD 4 default).tc 2=TC.val (Value.int IntKind.i64 (1:Int)),((List.take 4 (List.drop 0 kDids)++[Did.mk (4:Int) (0:Int) (1:Int) (1:Int) (0:Int) (1:Int) false]).getD 4 default).tc 3=TC.val (Value.int IntKind.i64 (1:Int)),((List.take 4 (List.drop 0 kDids)++[Did.mk (4:Int) (0:Int) (1:Int) (1:Int) (0:Int) (1:Int) false]).getD 4 default).tc 4=TC.val (Value.int IntKind.i64 (0:Int)),((List.take 4 (List.drop 0 kDids)++[Did.mk (4:Int) (0:Int) (1:Int) (1:Int) (0:Int) (1:Int) false]).getD 4 default).tc 5=TC.val (Value.int IntKind.i64 (1:Int)),((List.take 4 (List.drop 0 kDids)++[Did.mk (4:Int) (0:Int) (1:Int) (1:Int) (0:Int) (1:Int) false]).getD 4 default).tc 6=TC.val (Value.bool false),(1:Int)=(1:Int),(1:Int)=(1:Int),(2:Int)=(2:Int)]) K V14 K V13 K ?_
       exact RunF.to (I:=fun x=>z30_1) (J:=fun x=>True) (vc:=[]) () [0,1,2,3,4,5,6,7,8,9,10] (E:=z30_2) K trivial K R trivial
     ·rintro ⟨⟩ _
      exact RunF.to (I:=fun x=>z30_1) (J:=fun x=>True) (vc:=[]) () [0,1,2,3,4,5,6,7,8,9,10] (E:=z30_2) K trivial K R trivial
   ·rintro ⟨⟩ _
    exact RunF.to (I:=fun x=>z30_1) (J:=fun x=>True) (vc:=[]) () [0,1,2,3,4,5,6,7,8,9,10] (E:=z30_2) K trivial K R trivial
  ·refine RunF.any (n:=2) (vc:=[]) (fun _:Unit=>z30_1) (fun _=>True) K trivial ?_ ?_
   ·refine ⟨⟨trivial,?_⟩,?_⟩
    ·refine RunF.call (vc:=[(0:Int)≤(0:Int),(0:Int)≤(4:Int),(4:Int)≤(5:Int),(4:Int)=(4:Int),(0:Int)≤(0:Int),(0:Int)≤(4:Int),(4:Int)≤(5:Int),(4:Int)=(4:Int),∀ (i j:Nat),i<4→j<7→flatT ((kDids.getD (0+i) default).tc j),0<4,5≤maxLen,280≤140737488355328]) (args:=[SV.agg z30_3,SV.c (C.h 10)]) e_monitor_Crowd (c_crowdT (mem:=[(5:Int),(0:Int)]) (sh:=(1:Int)) (lk:=(1:Int)) (bu:=(2:Int)) (cs:=[kCor]) (l:=List.take 4 (List.drop 0 kDids)++z30_9) (hw:=by first | exact kHw | exact kHl | exact kHl2 | decide | (simp [kDids];done)) (hl:=by first | exact kHw | exact kHl | exact kHl2 | decide | (simp [kDids];done)) (hn:=by first | exact kHw | exact kHl | exact kHl2 | decide | (simp [kDids];done))) [0,1,10] (E:=[[(5:Int),(0:Int)].length=2,∀ (i:Nat),i < [(5:Int),(0:Int)].length→i64T ([(5:Int),(0:Int)].getD i (0:Int))=i64T ([(5:Int),(0:Int)].getD i (0:Int)),[kCor].length=1,∀ (i:Nat),i < [kCor].length→([kCor].getD i default).tc=([kCor].getD i default).tc,(List.take 4 (List.drop 0 kDids)++[Did.mk (4:Int) (0:Int) (1:Int) (1:Int) (0:Int) (1:Int) false]).length=5,∀ (i:Nat),i<(List.take 4 (List.drop 0 kDids)++[Did.mk (4:Int) (0:Int) (1:Int) (1:Int) (0:Int) (1:Int) false]).length→i≠4→((List.take 4 (List.drop 0 kDids)++[Did.mk (4:Int) (0:Int) (1:Int) (1:Int) (0:Int) (1:Int) false]).getD i default).tc=(kDids.getD (0+i) default).tc,((List.take 4 (List.drop 0 kDids)++[Did.mk (4:Int) (0:Int) (1:Int) (1:Int) (0:Int) (1:Int) false]).getD 4 default).tc 0=TC.val (Value.int IntKind.u8 (4:Int)),((List.take 4 (List.drop 0 kDids)++[Did.mk (4:Int) (0:Int) (1:Int) (1:Int) (0:Int) (1:Int) false]).getD 4 default).tc 1=TC.val (Value.int IntKind.i64 (0:Int)),((List.take 4 (List.drop 0 kDids)++[Did.mk (4:Int) (0:Int) (1:Int) (1:Int) (0:Int) (1:Int) false]).getD 4 default).tc 2=TC.val (Value.int IntKind.i64 (1:Int)),((List.take 4 (List.drop 0 kDids)++[Did.mk (4:Int) (0:Int) (1:Int) (1:Int) (0:Int) (1:Int) false]).getD 4 default).tc 3=TC.val (Value.int IntKind.i64 (1:Int)),((List.take 4 (List.drop 0 kDids)++[Did.mk (4:Int) (0:Int) (1:Int) (1:Int) (0:Int) (1:Int) false]).getD 4 default).tc 4=TC.val (Value.int IntKind.i64 (0:Int)),((List.take 4 (List.drop 0 kDids)++[Did.mk (4:Int) (0:Int) (1:Int) (1:Int) (0:Int) (1:Int) false]).getD 4 default).tc 5=TC.val (Value.int IntKind.i64 (1:Int)),((List.take 4 (List.drop 0 kDids)++[Did.mk (4:Int) (0:Int) (1:Int) (1:Int) (0:Int) (1:Int) false]).getD 4 default).tc 6=TC.val (Value.bool false),(1:Int)=(1:Int),(1:Int)=(1:Int),(2:Int)=(2:Int)]) K V14 K V13 K ?_
     exact RunF.to (I:=fun x=>z30_1) (J:=fun x=>True) (vc:=[]) () [0,1,2,3,4,5,6,7,8,9,10] (E:=z30_2) K trivial K R trivial
    ·refine RunF.any (n:=2) (vc:=[(0:Int)≤(0:Int),(0:Int)≤(4:Int),(4:Int)≤(5:Int),(4:Int)=(4:Int),(0:Int)≤(0:Int),(0:Int)≤(4:Int),(4:Int)≤(5:Int),(4:Int)=(4:Int)]) (fun _:Unit=>z30_1) (fun _=>True) K V14 ?_ ?_
     ·refine ⟨⟨trivial,?_⟩,?_⟩
      ·refine RunF.call (vc:=[∀ (i j:Nat),i<4→j<7→flatT ((kDids.getD (0+i) default).tc j),0<4,5≤maxLen,280≤140737488355328]) (args:=[SV.agg z30_3,SV.c (C.h 10)]) e_monitor_Crowd (c_crowdT (mem:=[(5:Int),(0:Int)]) (sh:=(1:Int)) (lk:=(1:Int)) (bu:=(2:Int)) (cs:=[kCor]) (l:=List.take 4 (List.drop 0 kDids)++z30_9) (hw:=by first | exact kHw | exact kHl | exact kHl2 | decide | (simp [kDids];done)) (hl:=by first | exact kHw | exact kHl | exact kHl2 | decide | (simp [kDids];done)) (hn:=by first | exact kHw | exact kHl | exact kHl2 | decide | (simp [kDids];done))) [0,1,10] (E:=[[(5:Int),(0:Int)].length=2,∀ (i:Nat),i < [(5:Int),(0:Int)].length→i64T ([(5:Int),(0:Int)].getD i (0:Int))=i64T ([(5:Int),(0:Int)].getD i (0:Int)),[kCor].length=1,∀ (i:Nat),i < [kCor].length→([kCor].getD i default).tc=([kCor].getD i default).tc,(List.take 4 (List.drop 0 kDids)++[Did.mk (4:Int) (0:Int) (1:Int) (1:Int) (0:Int) (1:Int) false]).length=5,∀ (i:Nat),i<(List.take 4 (List.drop 0 kDids)++[Did.mk (4:Int) (0:Int) (1:Int) (1:Int) (0:Int) (1:Int) false]).length→i≠4→((List.take 4 (List.drop 0 kDids)++[Did.mk (4:Int) (0:Int) (1:Int) (1:Int) (0:Int) (1:Int) false]).getD i default).tc=(kDids.getD (0+i) default).tc,((List.take 4 (List.drop 0 kDids)++[Did.mk (4:Int) (0:Int) (1:Int) (1:Int) (0:Int) (1:Int) false]).getD 4 default).tc 0=TC.val (Value.int IntKind.u8 (4:Int)),((List.take 4 (List.drop 0 kDids)++[Did.mk (4:Int) (0:Int) (1:Int) (1:Int) (0:Int) (1:Int) false]).getD 4 default).tc 1=TC.val (Value.int IntKind.i64 (0:Int)),((List.take 4 (List.drop 0 kDids)++[Did.mk (4:Int) (0:Int) (1:Int) (1:Int) (0:Int) (1:Int) false]).getD 4 default).tc 2=TC.val (Value.int IntKind.i64 (1:Int)),((List.take 4 (List.drop 0 kDids)++[Did.mk (4:Int) (0:Int) (1:Int) (1:Int) (0:Int) (1:Int) false]).getD 4 default).tc 3=TC.val (Value.int IntKind.i64 (1:Int)),((List.take 4 (List.drop 0 kDids)++[Did.mk (4:Int) (0:Int) (1:Int) (1:Int) (0:Int) (1:Int) false]).getD 4 default).tc 4=TC.val (Value.int IntKind.i64 (0:Int)),((List.take 4 (List.drop 0 kDids)++[Did.mk (4:Int) (0:Int) (1:Int) (1:Int) (0:Int) (1:Int) false]).getD 4 default).tc 5=TC.val (Value.int IntKind.i64 (1:Int)),((List.take 4 (List.drop 0 kDids)++[Did.mk (4:Int) (0:Int) (1:Int) (1:Int) (0:Int) (1:Int) false]).getD 4 default).tc 6=TC.val (Value.bool false),(1:Int)=(1:Int),(1:Int)=(1:Int),(2:Int)=(2:Int)]) K V14 K V13 K ?_
       exact RunF.to (I:=fun x=>z30_1) (J:=fun x=>True) (vc:=[]) () [0,1,2,3,4,5,6,7,8,9,10] (E:=z30_2) K trivial K R trivial
      ·refine RunF.call (vc:=[∀ (i j:Nat),i<4→j<7→flatT ((kDids.getD (0+i) default).tc j),0<4,5≤maxLen,280≤140737488355328]) (args:=[SV.agg z30_3,SV.c (C.h 10)]) e_monitor_Crowd (c_crowdT (mem:=[(5:Int),(0:Int)]) (sh:=(1:Int)) (lk:=(1:Int)) (bu:=(2:Int)) (cs:=[kCor]) (l:=List.take 4 (List.drop 0 kDids)++z30_9) (hw:=by first | exact kHw | exact kHl | exact kHl2 | decide | (simp [kDids];done)) (hl:=by first | exact kHw | exact kHl | exact kHl2 | decide | (simp [kDids];done)) (hn:=by first | exact kHw | exact kHl | exact kHl2 | decide | (simp [kDids];done))) [0,1,10] (E:=[[(5:Int),(0:Int)].length=2,∀ (i:Nat),i < [(5:Int),(0:Int)].length→i64T ([(5:Int),(0:Int)].getD i (0:Int))=i64T ([(5:Int),(0:Int)].getD i (0:Int)),[kCor].length=1,∀ (i:Nat),i < [kCor].length→([kCor].getD i default).tc=([kCor].getD i default).tc,(List.take 4 (List.drop 0 kDids)++[Did.mk (4:Int) (0:Int) (1:Int) (1:Int) (0:Int) (1:Int) false]).length=5,∀ (i:Nat),i<(List.take 4 (List.drop 0 kDids)++[Did.mk (4:Int) (0:Int) (1:Int) (1:Int) (0:Int) (1:Int) false]).length→i≠4→((List.take 4 (List.drop 0 kDids)++[Did.mk (4:Int) (0:Int) (1:Int) (1:Int) (0:Int) (1:Int) false]).getD i default).tc=(kDids.getD (0+i) default).tc,((List.take 4 (List.drop 0 kDids)++[Did.mk (4:Int) (0:Int) (1:Int) (1:Int) (0:Int) (1:Int) false]).getD 4 default).tc 0=TC.val (Value.int IntKind.u8 (4:Int)),((List.take 4 (List.drop 0 kDids)++[Did.mk (4:Int) (0:Int) (1:Int) (1:Int) (0:Int) (1:Int) false]).getD 4 default).tc 1=TC.val (Value.int IntKind.i64 (0:Int)),((List.take 4 (List.drop 0 kDids)++[Did.mk (4:Int) (0:Int) (1:Int) (1:Int) (0:Int) (1:Int) false]).getD 4 default).tc 2=TC.val (Value.int IntKind.i64 (1:Int)),((List.take 4 (List.drop 0 kDids)++[Did.mk (4:Int) (0:Int) (1:Int) (1:Int) (0:Int) (1:Int) false]).getD 4 default).tc 3=TC.val (Value.int IntKind.i64 (1:Int)),((List.take 4 (List.drop 0 kDids)++[Did.mk (4:Int) (0:Int) (1:Int) (1:Int) (0:Int) (1:Int) false]).getD 4 default).tc 4=TC.val (Value.int IntKind.i64 (0:Int)),((List.take 4 (List.drop 0 kDids)++[Did.mk (4:Int) (0:Int) (1:Int) (1:Int) (0:Int) (1:Int) false]).getD 4 default).tc 5=TC.val (Value.int IntKind.i64 (1:Int)),((List.take 4 (List.drop 0 kDids)++[Did.mk (4:Int) (0:Int) (1:Int) (1:Int) (0:Int) (1:Int) false]).getD 4 default).tc 6=TC.val (Value.bool false),(1:Int)=(1:Int),(1:Int)=(1:Int),(2:Int)=(2:Int)]) K V14 K V13 K ?_
       exact RunF.to (I:=fun x=>z30_1) (J:=fun x=>True) (vc:=[]) () [0,1,2,3,4,5,6,7,8,9,10] (E:=z30_2) K trivial K R trivial
     ·rintro ⟨⟩ _
      exact RunF.to (I:=fun x=>z30_1) (J:=fun x=>True) (vc:=[]) () [0,1,2,3,4,5,6,7,8,9,10] (E:=z30_2) K trivial K R trivial
   ·rintro ⟨⟩ _
    exact RunF.to (I:=fun x=>z30_1) (J:=fun x=>True) (vc:=[]) () [0,1,2,3,4,5,6,7,8,9,10] (E:=z30_2) K trivial K R trivial
 ·rintro ⟨⟩ _
  exact RunF.ret (vc:=[(decide (evE [(5:Int),(0:Int)] (1:Int) (1:Int) (2:Int) [kCor] kDids=(0:Int))&&decide ((1:Int)=(1:Int)))=true→(0:Int)≤(0:Int),(decide (evE [(5:Int),(0:Int)] (1:Int) (1:Int) (2:Int) [kCor] kDids=(0:Int))&&decide ((1:Int)=(1:Int)))=true→(0:Int)<(1:Int),(decide (evE [(5:Int),(0:Int)] (1:Int) (1:Int) (2:Int) [kCor] kDids=(0:Int))&&decide ((1:Int)=(1:Int)))=true→0<1,(decide (evE [(5:Int),(0:Int)] (1:Int) (1:Int) (2:Int) [kCor] kDids=(0:Int))&&decide ((1:Int)=(1:Int))&&(decide (((blkL [(5:Int),(0:Int)] (1:Int) (1:Int) (2:Int) [kCor] kDids).getD 0 default).lock=(0:Int))&&(decide (((blkL [(5:Int),(0:Int)] (1:Int) (1:Int) (2:Int) [kCor] kDids).getD 0 default).core=(0:Int))&&(decide (((blkL [(5:Int),(0:Int)] (1:Int) (1:Int) (2:Int) [kCor] kDids).getD 0 default).from_=(1:Int))&&(decide (((blkL [(5:Int),(0:Int)] (1:Int) (1:Int) (2:Int) [kCor] kDids).getD 0 default).left=(3:Int))&&(decide (((blkL [(5:Int),(0:Int)] (1:Int) (1:Int) (2:Int) [kCor] kDids).getD 0 default).to=(4:Int))&&true)))))&&decide (askE [(5:Int),(0:Int)] (1:Int) (1:Int) (2:Int) [kCor] kDids [Cls.mk (2:Int) (0:Int) (0:Int)]=(0:Int))&&decide ((1:Int)=(1:Int)))=true→(0:Int)≤(0:Int),(decide (evE [(5:Int),(0:Int)] (1:Int) (1:Int) (2:Int) [kCor] kDids=(0:Int))&&decide ((1:Int)=(1:Int))&&(decide (((blkL [(5:Int),(0:Int)] (1:Int) (1:Int) (2:Int) [kCor] kDids).getD 0 default).lock=(0:Int))&&(decide (((blkL [(5:Int),(0:Int)] (1:Int) (1:Int) (2:Int) [kCor] kDids).getD 0 default).core=(0:Int))&&(decide (((blkL [(5:Int),(0:Int)] (1:Int) (1:Int) (2:Int) [kCor] kDids).getD 0 default).from_=(1:Int))&&(decide (((blkL [(5:Int),(0:Int)] (1:Int) (1:Int) (2:Int) [kCor] kDids).getD 0 default).left=(3:Int))&&(decide (((blkL [(5:Int),(0:Int)] (1:Int) (1:Int) (2:Int) [kCor] kDids).getD 0 default).to=(4:Int))&&true)))))&&decide (askE [(5:Int),(0:Int)] (1:Int) (1:Int) (2:Int) [kCor] kDids [Cls.mk (2:Int) (0:Int) (0:Int)]=(0:Int))&&decide ((1:Int)=(1:Int)))=true→(0:Int)<(1:Int),(decide (evE [(5:Int),(0:Int)] (1:Int) (1:Int) (2:Int) [kCor] kDids=(0:Int))&&decide ((1:Int)=(1:Int))&&(decide (((blkL [(5:Int),(0:Int)] (1:Int) (1:Int) (2:Int) [kCor] kDids).getD 0 default).lock=(0:Int))&&(decide (((blkL [(5:Int),(0:Int)] (1:Int) (1:Int) (2:Int) [kCor] kDids).getD 0 default).core=(0:Int))&&(decide (((blkL [(5:Int),(0:Int)] (1:Int) (1:Int) (2:Int) [kCor] kDids).getD 0 default).from_=(1:Int))&&(decide (((blkL [(5:Int),(0:Int)] (1:Int) (1:Int) (2:Int) [kCor] kDids).getD 0 default).left=(3:Int))&&(decide (((blkL [(5:Int),(0:Int)] (1:Int) (1:Int) (2:Int) [kCor] kDids).getD 0 default).to=(4:Int))&&true)))))&&decide (askE [(5:Int),(0:Int)] (1:Int) (1:Int) (2:Int) [kCor] kDids [Cls.mk (2:Int) (0:Int) (0:Int)]=(0:Int))&&decide ((1:Int)=(1:Int)))=true→0<1]) (v:=SV.c (C.b (decide (evE [(5:Int),(0:Int)] (1:Int) (1:Int) (2:Int) [kCor] kDids=(0:Int))&&decide ((1:Int)=(1:Int))&&(decide (z30_5.lock=(0:Int))&&(decide (z30_5.core=(0:Int))&&(decide (z30_5.from_=(1:Int))&&(decide (z30_5.left=(3:Int))&&(decide (z30_5.to=(4:Int))&&true)))))&&decide (askE [(5:Int),(0:Int)] (1:Int) (1:Int) (2:Int) [kCor] kDids z30_16=(0:Int))&&decide ((1:Int)=(1:Int))&&(decide (z30_4.thing=(0:Int))&&(decide (z30_4.core=(0:Int))&&(decide (z30_4.pos=(2:Int))&&(decide (z30_4.read=(5:Int))&&(decide (z30_4.last=(5:Int))&&true)))))&&decide (evE [(5:Int),(0:Int)] (1:Int) (1:Int) (2:Int) [kCor] z30_15=(0:Int))&&decide (crowdL [(5:Int),(0:Int)] (1:Int) (1:Int) (2:Int) [kCor] z30_15=(4:Int))))) _ _ [] (E:=[true=true]) K V14 ⟨rfl,rfl⟩ K (rfl)
end Go.Proofs.Ytlblobbklioofaa
end
noncomputable section
namespace Go.Proofs.Ytlblobbklioofaa
open Go Go.Tx
abbrev z31_7 (mem:List Int) (sh:Int) (lk:Int) (bu:Int) (cs:List Cor) (l:List Did):=Reg.own 48 5 (blkL mem sh lk bu cs l).length (fun i=>((blkL mem sh lk bu cs l).getD i default).tc) none
abbrev z31_8 (sh:Int) (lk:Int) (bu:Int):=Reg.box 25 [C.h 0,C.i .i64 sh,C.i .i64 lk,C.i .i64 bu,C.h 1]
abbrev z31_9 (mem:List Int):=Reg.row 1 mem.length (fun i=>i64T (mem.getD i (0:Int))) none
abbrev z31_10 (cs:List Cor):=Reg.row 2 cs.length (fun i=>(cs.getD i default).tc) none
abbrev z31_11 (l:List Did):=Reg.row 7 l.length (fun i=>(l.getD i default).tc) none
abbrev z31_12 (mem:List Int) (sh:Int) (lk:Int) (bu:Int) (cs:List Cor) (l:List Did):=Reg.own 3 1 (holdersL mem sh lk bu cs l).length (fun i=>i64T ((holdersL mem sh lk bu cs l).getD i (0:Int))) none
abbrev z31_1 (mem:List Int) (cs:List Cor) (l:List Did) (sh:Int) (lk:Int) (bu:Int):=[z31_9 mem,z31_10 cs,z31_11 l,z31_8 sh lk bu,z31_7 mem sh lk bu cs l,z31_7 mem sh lk bu cs l,z31_12 mem sh lk bu cs l,z31_12 mem sh lk bu cs l]
abbrev z31_3 (mem:List Int) (cs:List Cor) (l:List Did) (sh:Int) (lk:Int) (bu:Int):=[mem.length=mem.length,∀ (i:Nat),i<mem.length→i64T (mem.getD i (0:Int))=i64T (mem.getD i (0:Int)),cs.length=cs.length,∀ (i:Nat),i<cs.length→(cs.getD i default).tc=(cs.getD i default).tc,l.length=l.length,∀ (i:Nat),i<l.length→(l.getD i default).tc=(l.getD i default).tc,sh=sh,lk=lk,bu=bu]
abbrev z31_5 (sh:Int) (lk:Int) (bu:Int):=SV.agg [C.h 0,C.i .i64 sh,C.i .i64 lk,C.i .i64 bu,C.h 1]
abbrev z31_6 (mem:List Int) (sh:Int) (lk:Int) (bu:Int) (cs:List Cor) (l:List Did):=(SV.c (C.i .i64 (evE mem sh lk bu cs l)))
theorem c_lawBlocks (mem:List Int) (sh lk bu:Int) (cs:List Cor) (l:List Did) (hw:∀ a b:Nat,insK ((cs.getD a default).code.getD b default)) (hl:∀ a:Nat,0≤(l.getD a default).kind∧(l.getD a default).kind≤255) (hn:(l.length:Int) * 4096≤140737488355328):Ctr Try.prog 3 [IntRow mem,Cor.rowR cs,Did.rowR l] [.agg [.h 0,.i .i64 sh,.i .i64 lk,.i .i64 bu,.h 1],.c (.h 2)]
 (Det (.c (.b true)) [.dead,.dead,.dead]):=by
 refine Ctr.intro [] Try.func3 K K ?_
 refine RunF.lens 2 (m:=l.length) K (fun hlens_2=>?_)
 refine RunF.call (vc:=[]) (args:=[z31_5 sh lk bu,SV.c (C.h 2)]) e_monitor_Blocks (c_blocksT (mem:=mem) (sh:=sh) (lk:=lk) (bu:=bu) (cs:=cs) (l:=l) (hw:=by first | assumption | omega | exact hw | exact hl) (hl:=by first | assumption | omega | exact hw | exact hl) (hn:=by first | assumption | omega | exact hw | exact hl)) [0,1,2] (E:=(z31_3 mem cs l sh lk bu)) K trivial K R K ?_
 refine RunF.chk [20,4,2,1] [.ops [1,0] 3,.code [1,1]] (St.mk 84 [En.mk 20 [] (SV.tup [(false,[C.h 4]),(false,[C.i .i64 (evE mem sh lk bu cs l)])]),En.mk 4 [] (SV.c (C.t false)),En.mk 2 [] (SV.c (C.p 3 0)),En.mk 1 [] (SV.c (C.h 2))] [z31_9 mem,z31_10 cs,z31_11 l,z31_8 sh lk bu,z31_7 mem sh lk bu cs l] []) K ?_
 refine RunF.call (vc:=[]) (args:=[z31_5 sh lk bu,SV.c (C.h 2)]) e_stileref23_Blocks (c_blocks_ref (mem:=mem) (sh:=sh) (lk:=lk) (bu:=bu) (cs:=cs) (l:=l) (hw:=by first | assumption | omega | exact hw | exact hl) (hl:=by first | assumption | omega | exact hw | exact hl) (hn:=by first | assumption | omega | exact hw | exact hl)) [0,1,2] (E:=(z31_3 mem cs l sh lk bu)) K trivial K R K ?_
 refine RunF.chk [26,6,5,4,2,1] [.ops [1,1,0] 3,.code [1,1,1]] (St.mk 84 [En.mk 26 [] (SV.tup [(false,[C.h 5]),(false,[C.i .i64 (evE mem sh lk bu cs l)])]),En.mk 6 [] (z31_6 mem sh lk bu cs l),En.mk 5 [] (SV.c (C.h 4)),En.mk 4 [] (SV.c (C.t false)),En.mk 2 [] (SV.c (C.p 3 0)),En.mk 1 [] (SV.c (C.h 2))] [z31_9 mem,z31_10 cs,z31_11 l,z31_8 sh lk bu,z31_7 mem sh lk bu cs l,z31_7 mem sh lk bu cs l] []) K ?_
 refine RunF.call (vc:=[]) (args:=[z31_5 sh lk bu,SV.c (C.h 2)]) e_monitor_Holders (c_holdersT (mem:=mem) (sh:=sh) (lk:=lk) (bu:=bu) (cs:=cs) (l:=l) (hw:=by first | assumption | omega | exact hw | exact hl) (hl:=by first | assumption | omega | exact hw | exact hl) (hn:=by first | assumption | omega | exact hw | exact hl)) [0,1,2] (E:=(z31_3 mem cs l sh lk bu)) K trivial K R K ?_
 refine RunF.chk [32,8,7,6,5,4,2,1] [.ops [1,1,1,0] 3,.code [1,1,1,1]] (St.mk 84 [En.mk 32 [] (SV.tup [(false,[C.h 6]),(false,[C.i .i64 (evE mem sh lk bu cs l)])]),En.mk 8 [] (z31_6 mem sh lk bu cs l),En.mk 7 [] (SV.c (C.h 5)),En.mk 6 [] (z31_6 mem sh lk bu cs l),En.mk 5 [] (SV.c (C.h 4)),En.mk 4 [] (SV.c (C.t false)),En.mk 2 [] (SV.c (C.p 3 0)),En.mk 1 [] (SV.c (C.h 2))] [z31_9 mem,z31_10 cs,z31_11 l,z31_8 sh lk bu,z31_7 mem sh lk bu cs l,z31_7 mem sh lk bu cs l,z31_12 mem sh lk bu cs l] []) K ?_
 refine RunF.call (vc:=[]) (args:=[z31_5 sh lk bu,SV.c (C.h 2)]) e_stileref23_Holders (c_holders_ref (mem:=mem) (sh:=sh) (lk:=lk) (bu:=bu) (cs:=cs) (l:=l) (hw:=by first | assumption | omega | exact hw | exact hl) (hl:=by first | assumption | omega | exact hw | exact hl) (hn:=by first | assumption | omega | exact hw | exact hl)) [0,1,2] (E:=(z31_3 mem cs l sh lk bu)) K trivial K R K ?_
 refine RunF.chk [38,10,9,8,7,6,5,4,2,1] [.ops [1,1,1,1,0] 3,.code [1,1,1,1,1]] (St.mk 84 [En.mk 38 [] (SV.tup [(false,[C.h 7]),(false,[C.i .i64 (evE mem sh lk bu cs l)])]),En.mk 10 [] (z31_6 mem sh lk bu cs l),En.mk 9 [] (SV.c (C.h 6)),En.mk 8 [] (z31_6 mem sh lk bu cs l),En.mk 7 [] (SV.c (C.h 5)),En.mk 6 [] (z31_6 mem sh lk bu cs l),En.mk 5 [] (SV.c (C.h 4)),En.mk 4 [] (SV.c (C.t false)),En.mk 2 [] (SV.c (C.p 3 0)),En.mk 1 [] (SV.c (C.h 2))] (z31_1 mem cs l sh lk bu) []) K ?_
 refine RunF.call (vc:=[]) (args:=[z31_5 sh lk bu,SV.c (C.h 2)]) e_monitor_Crowd (c_crowdT (mem:=mem) (sh:=sh) (lk:=lk) (bu:=bu) (cs:=cs) (l:=l) (hw:=by first | assumption | omega | exact hw | exact hl) (hl:=by first | assumption | omega | exact hw | exact hl) (hn:=by first | assumption | omega | exact hw | exact hl)) [0,1,2] (E:=(z31_3 mem cs l sh lk bu)) K trivial K R K ?_
 refine RunF.chk [44,12,11,10,9,8,7,6,5,4,2,1] [.ops [1,1,1,1,1,0] 3,.code [1,1,1,1,1,1]] (St.mk 84 [En.mk 44 [] (SV.tup [(false,[C.i .i64 (crowdL mem sh lk bu cs l)]),(false,[C.i .i64 (evE mem sh lk bu cs l)])]),En.mk 12 [] (z31_6 mem sh lk bu cs l),En.mk 11 [] (SV.c (C.h 7)),En.mk 10 [] (z31_6 mem sh lk bu cs l),En.mk 9 [] (SV.c (C.h 6)),En.mk 8 [] (z31_6 mem sh lk bu cs l),En.mk 7 [] (SV.c (C.h 5)),En.mk 6 [] (z31_6 mem sh lk bu cs l),En.mk 5 [] (SV.c (C.h 4)),En.mk 4 [] (SV.c (C.t false)),En.mk 2 [] (SV.c (C.p 3 0)),En.mk 1 [] (SV.c (C.h 2))] (z31_1 mem cs l sh lk bu) []) K ?_
 refine RunF.call (vc:=[]) (args:=[z31_5 sh lk bu,SV.c (C.h 2)]) e_stileref23_Crowd (c_crowd_ref (mem:=mem) (sh:=sh) (lk:=lk) (bu:=bu) (cs:=cs) (l:=l) (hw:=by first | assumption | omega | exact hw | exact hl) (hl:=by first | assumption | omega | exact hw | exact hl) (hn:=by first | assumption | omega | exact hw | exact hl)) [0,1,2] (E:=(z31_3 mem cs l sh lk bu)) K trivial K R K ?_
 refine RunF.chk [50,14,13,12,11,10,9,8,7,6,5,4] [.ops [1,1,1,1,1,1,0] 3,.code [1,1,1,1,1,1,1]] (St.mk 84 [En.mk 50 [] (SV.tup [(false,[C.i .i64 (crowdL mem sh lk bu cs l)]),(false,[C.i .i64 (evE mem sh lk bu cs l)])]),En.mk 14 [] (z31_6 mem sh lk bu cs l),En.mk 13 [] (SV.c (C.i .i64 (crowdL mem sh lk bu cs l))),En.mk 12 [] (z31_6 mem sh lk bu cs l),En.mk 11 [] (SV.c (C.h 7)),En.mk 10 [] (z31_6 mem sh lk bu cs l),En.mk 9 [] (SV.c (C.h 6)),En.mk 8 [] (z31_6 mem sh lk bu cs l),En.mk 7 [] (SV.c (C.h 5)),En.mk 6 [] (z31_6 mem sh lk bu cs l),En.mk 5 [] (SV.c (C.h 4)),En.mk 4 [] (SV.c (C.t false))] (z31_1 mem cs l sh lk bu) []) K ?_
 refine RunF.call (vc:=[]) (args:=[]) e_stilelaw23_lives (c_lives) [] (E:=[]) K trivial K trivial K ?_
 refine RunF.chk [53,16,15,14,13,12,11,10,9,8,7,6,5,4] [.ops [1,1,1,1,1,1,1,0] 1,.code [1,1,1,1,1,1,1,1]] (St.mk 84 [En.mk 53 [] (SV.c (C.b true)),En.mk 16 [] (z31_6 mem sh lk bu cs l),En.mk 15 [] (SV.c (C.i .i64 (crowdL mem sh lk bu cs l))),En.mk 14 [] (z31_6 mem sh lk bu cs l),En.mk 13 [] (SV.c (C.i .i64 (crowdL mem sh lk bu cs l))),En.mk 12 [] (z31_6 mem sh lk bu cs l),En.mk 11 [] (SV.c (C.h 7)),En.mk 10 [] (z31_6 mem sh lk bu cs l),En.mk 9 [] (SV.c (C.h 6)),En.mk 8 [] (z31_6 mem sh lk bu cs l),En.mk 7 [] (SV.c (C.h 5)),En.mk 6 [] (z31_6 mem sh lk bu cs l),En.mk 5 [] (SV.c (C.h 4)),En.mk 4 [] (SV.c (C.t false))] (z31_1 mem cs l sh lk bu) []) K ?_
 refine RunF.gcall (vc:=[]) (args:=[SV.c (C.h 4),SV.c (C.h 5)]) e_stileref23_SameBlocks (c_sameBlocks (a:=blkL mem sh lk bu cs l) (b:=blkL mem sh lk bu cs l)) [4,5] (E:=[(blkL mem sh lk bu cs l).length=(blkL mem sh lk bu cs l).length,∀ (i:Nat),i<(blkL mem sh lk bu cs l).length→((blkL mem sh lk bu cs l).getD i default).tc=((blkL mem sh lk bu cs l).getD i default).tc,(blkL mem sh lk bu cs l).length=(blkL mem sh lk bu cs l).length,∀ (i:Nat),i<(blkL mem sh lk bu cs l).length→((blkL mem sh lk bu cs l).getD i default).tc=((blkL mem sh lk bu cs l).getD i default).tc]) K trivial K R K ?_
 refine RunF.chk [57,54,16,15,14,13,12,11,10,9,8,6,4] [.ops [1,1,1,1,1,1,1,0] 5,.code [1,1,1,1,1,1,1,1]] (St.mk 84 [En.mk 57 [(54,true)] (SV.c (C.b (decide (blkL mem sh lk bu cs l=blkL mem sh lk bu cs l)))),En.mk 54 [] (SV.c (C.b true)),En.mk 16 [] (z31_6 mem sh lk bu cs l),En.mk 15 [] (SV.c (C.i .i64 (crowdL mem sh lk bu cs l))),En.mk 14 [] (z31_6 mem sh lk bu cs l),En.mk 13 [] (SV.c (C.i .i64 (crowdL mem sh lk bu cs l))),En.mk 12 [] (z31_6 mem sh lk bu cs l),En.mk 11 [] (SV.c (C.h 7)),En.mk 10 [] (z31_6 mem sh lk bu cs l),En.mk 9 [] (SV.c (C.h 6)),En.mk 8 [] (z31_6 mem sh lk bu cs l),En.mk 6 [] (z31_6 mem sh lk bu cs l),En.mk 4 [] (SV.c (C.t false))] (z31_1 mem cs l sh lk bu) []) K ?_
 refine RunF.gcall (vc:=[]) (args:=[SV.c (C.h 6),SV.c (C.h 7)]) e_stileref07_Ints (c_ints (a:=holdersL mem sh lk bu cs l) (b:=holdersL mem sh lk bu cs l)) [6,7] (E:=[(holdersL mem sh lk bu cs l).length=(holdersL mem sh lk bu cs l).length,∀ (i:Nat),i<(holdersL mem sh lk bu cs l).length→i64T ((holdersL mem sh lk bu cs l).getD i (0:Int))=i64T ((holdersL mem sh lk bu cs l).getD i (0:Int)),(holdersL mem sh lk bu cs l).length=(holdersL mem sh lk bu cs l).length,∀ (i:Nat),i<(holdersL mem sh lk bu cs l).length→i64T ((holdersL mem sh lk bu cs l).getD i (0:Int))=i64T ((holdersL mem sh lk bu cs l).getD i (0:Int))]) K trivial K R K ?_
 exact RunF.ret (vc:=[]) (v:=SV.c (C.b (true&&decide (blkL mem sh lk bu cs l=blkL mem sh lk bu cs l)&&decide (evE mem sh lk bu cs l=evE mem sh lk bu cs l)&&decide (holdersL mem sh lk bu cs l=holdersL mem sh lk bu cs l)&&decide (evE mem sh lk bu cs l=evE mem sh lk bu cs l)&&decide (crowdL mem sh lk bu cs l=crowdL mem sh lk bu cs l)&&decide (evE mem sh lk bu cs l=evE mem sh lk bu cs l)))) _ _ [0,1,2] (E:=[true=(true&&decide (blkL mem sh lk bu cs l=blkL mem sh lk bu cs l)&&decide (evE mem sh lk bu cs l=evE mem sh lk bu cs l)&&decide (holdersL mem sh lk bu cs l=holdersL mem sh lk bu cs l)&&decide (evE mem sh lk bu cs l=evE mem sh lk bu cs l)&&decide (crowdL mem sh lk bu cs l=crowdL mem sh lk bu cs l)&&decide (evE mem sh lk bu cs l=evE mem sh lk bu cs l))]) K trivial ⟨rfl,rfl⟩ K (by simp only [Conj];simp)
end Go.Proofs.Ytlblobbklioofaa
end
namespace Go.Proofs.Ytlblobbklioofaa
open Go Go.Tx
inductive Sh where
 | num (k:IntKind)
 | str
 | boo
 | sl (e size:Nat) (el:List Sh)
mutual
/-- the cells of a type -/
inductive ShT (P:Program):Nat→List Sh→Prop
 | int {t:Nat} {k:IntKind} (ht:P.underlying t=some (.int k)):ShT P t [.num k]
 | str {t:Nat} (ht:P.underlying t=some .string):ShT P t [.str]
 | bool {t:Nat} (ht:P.underlying t=some .bool):ShT P t [.boo]
 | slice {t e:Nat} {el:List Sh} (ht:P.underlying t=some (.slice e)) (hc:P.cellsOf e=el.length) (hp:0<el.length) (h:ShT P e el):ShT P t [.sl e el.length el]
 | struct {t:Nat} {fs:Array Field} {ss:List Sh} (ht:P.underlying t=some (.struct fs)) (hc:P.cellsOf t=ss.length) (h:ShF P 0 fs.toList ss):ShT P t ss
/-- .. of fields,the first of which lies at cell i -/
inductive ShF (P:Program):Nat→List Field→List Sh→Prop
 | nil {i:Nat}:ShF P i [] []
 | cons {i:Nat} {f:Field} {fs:List Field} {s1 s2:List Sh} (ho:f.offset=i) (hc:P.cellsOf f.type=s1.length) (h:ShT P f.type s1) (r:ShF P (i+s1.length) fs s2):ShF P i (f::fs) (s1++s2)
end
inductive ShC:Sh→TC→Prop
 | num {k:IntKind} (n:Int) (h:(Lit.int k n).wf=true):ShC (.num k) (.val (.int k n))
 | str (x:ByteArray):ShC .str (.val (.string x))
 | boo (x:Bool):ShC .boo (.val (.bool x))
 | sl {e size:Nat} {el:List Sh} (n:Nat) (g:Nat→List TC) (hl:∀ i,i<n→(g i).length=el.length) (h:∀ (i j:Nat) (s:Sh) (c:TC),i<n→el[j]?=some s→(g i)[j]?=some c→ShC s c) :
    ShC (.sl e size el) (.sub e size n (fun i=>nthT (g i)))
def ShL (ss:List Sh) (tl:List TC):Prop:=tl.length=ss.length∧∀ (j:Nat) (s:Sh) (c:TC),ss[j]?=some s→tl[j]?=some c→ShC s c
def inW (w:World) (b:Nat):Prop:=b<w.heap.size
def Holds (w:World) (tl:List TC) (cs:List Value):Prop:=∀ (j:Nat) (c:TC) (u:Value),tl[j]?=some c→cs[j]?=some u→RdC w (inW w) c u
theorem nthT_get {tl:List TC} {j:Nat} {c:TC} (h:tl[j]?=some c):nthT tl j=c:=by
 unfold nthT;rw [nth_eq,h]
section
variable {H:Type} {enc:TypeId×Value→H} {P:Program} {w:World}
mutual
theorem readT:∀ {t:Nat} {ss:List Sh},ShT P t ss→∀ {n:Nat} {cs:List Value} {x:DataW H×List MemPlace},DataW.trod enc P w 0 (fun _=>true) true n t cs=some x →
 cs.length=ss.length∧∃ tl:List TC,ShL ss tl∧Holds w tl cs
 | t,_,(.int (k:=k) ht),n,cs,x,h=>by
   obtain ⟨m,rfl,_,hw⟩:=DataW.trod_int ht h
   refine ⟨rfl,[.val (.int k m)],⟨rfl,fun j s c hs hc=>?_⟩,fun j c u hc hu=>?_⟩
   ·match j,hs,hc with
    | 0,hs,hc=>cases hs;cases hc;exact .num m hw
    | j+1,hs,_=>simp at hs
   ·match j,hc,hu with
    | 0,hc,hu=>cases hc;cases hu;rfl
    | j+1,hc,_=>simp at hc
 | t,_,(.str ht),n,cs,x,h=>by
   obtain ⟨m,rfl,_⟩:=DataW.trod_string ht h
   refine ⟨rfl,[.val (.string m)],⟨rfl,fun j s c hs hc=>?_⟩,fun j c u hc hu=>?_⟩
   ·match j,hs,hc with
    | 0,hs,hc=>cases hs;cases hc;exact .str m
    | j+1,hs,_=>simp at hs
   ·match j,hc,hu with
    | 0,hc,hu=>cases hc;cases hu;rfl
    | j+1,hc,_=>simp at hc
 | t,_,(.bool ht),n,cs,x,h=>by
   obtain ⟨m,rfl,_⟩:=DataW.trod_bool ht h
   refine ⟨rfl,[.val (.bool m)],⟨rfl,fun j s c hs hc=>?_⟩,fun j c u hc hu=>?_⟩
   ·match j,hs,hc with
    | 0,hs,hc=>cases hs;cases hc;exact .boo m
    | j+1,hs,_=>simp at hs
   ·match j,hc,hu with
    | 0,hc,hu=>cases hc;cases hu;rfl
    | j+1,hc,_=>simp at hc
 | t,_,(.slice (e:=e) (el:=el) ht hce hpos he),n,cs,x,h=>by
   have key:∀ (v:Value) (m:Nat) (g:Nat→List TC),(∀ i,i<m→ShL el (g i))→RdC w (inW w) (.sub e el.length m fun i=>nthT (g i)) v →
    ([v]:List Value).length=([.sl e el.length el]:List Sh).length∧∃ tl:List TC,ShL [.sl e el.length el] tl∧Holds w tl [v]:=fun v m g hg hv=>by
    refine ⟨rfl,[.sub e el.length m fun i=>nthT (g i)],⟨rfl,fun j s c hs hc=>?_⟩,fun j c u hc hu=>?_⟩
    ·match j,hs,hc with
     | 0,hs,hc=>cases hs;cases hc;exact .sl m g (fun i hi=>(hg i hi).1) (fun i j s c hi h1 h2=>(hg i hi).2 j s c h1 h2)
     | j+1,hs,_=>simp at hs
    ·match j,hc,hu with
     | 0,hc,hu=>cases hc;cases hu;exact hv
     | j+1,hc,_=>simp at hc
   rcases Go.Deep.open_slice ht h with ⟨rfl,_⟩ | ⟨a,len,cap,m,n',D,Pl,rfl,_,hlc,hcm,hm,_,hel⟩
   ·refine key _ 0 (fun _=>[]) (fun i hi=>absurd hi (Nat.not_lt_zero _)) ⟨none,0,rfl,Nat.le_refl _,by simp [maxLen],fun a ha _=>(by cases ha),fun h=>absurd h (Nat.lt_irrefl _)⟩
   ·have hm':m=cap:=by simpa using hm
    subst hm'
    have hall:∀ i,i<len→∃ tl:List TC,ShL el tl∧∃ cs',w.cells? 0 (a.add (i * P.cellsOf e)) (P.cellsOf e)=some cs'∧Holds w tl cs':=fun i hi=>by
     obtain ⟨cs',h1,h2⟩:=hel i (Nat.lt_of_lt_of_le hi hlc)
     obtain ⟨h3,tl,h4,h5⟩:=readT he h2
     exact ⟨tl,h4,cs',h1,h5⟩
    obtain ⟨g,hg⟩:=Go.Deep.choose_lt hall
    refine key _ len g (fun i hi=>(hg i hi).1) ⟨some a,m,rfl,hlc,hcm,fun ad had hp=>?_,fun hp=>⟨a,rfl,fun i j hi hj=>?_⟩⟩
    ·cases had
     obtain ⟨_,cs',h2,_⟩:=hg 0 hp
     have:=World.cells?_block h2 (by rw [hce];exact hpos)
     rw [block_add] at this
     exact ⟨this,this⟩
    ·obtain ⟨h1,cs',h2,h3⟩:=hg i hi
     obtain ⟨_,h4,h5⟩:=World.cells?_some h2
     have hjl:j<cs'.length:=by rw [h4,hce];exact hj
     refine ⟨cs'[j],?_,?_⟩
     ·rw [hce] at h5
      have:=h5 j hj
      rw [add_add] at this
      rw [this,List.getElem?_eq_getElem hjl]
     ·have hjt:j<(g i).length:=by rw [h1.1];exact hj
      show RdC w (inW w) (nthT (g i) j) _
      rw [nthT_get (List.getElem?_eq_getElem hjt)]
      exact h3 j _ _ (List.getElem?_eq_getElem hjt) (List.getElem?_eq_getElem hjl)
 | t,_,(.struct (fs:=fs) (ss:=ss) ht hc hf),n,cs,x,h=>by
   obtain ⟨xs,n',_,_,hl,hxl,hx⟩:=DataW.trod_struct ht h
   refine ⟨by rw [hl,hc],?_⟩
   have:=readF hf (n:=n') (cs:=cs) (fun f hm=>by
    obtain ⟨k,hk⟩:=List.getElem?_of_mem hm
    have hk':fs[k]?=some f:=by simpa using hk
    have hlt:k<xs.length:=by rw [hxl];exact (Array.getElem?_eq_some_iff.1 hk').1
    exact ⟨xs[k],by rw [hx k f hk',List.getElem?_eq_getElem hlt]⟩) (by rw [hl,hc];omega)
   simpa using this
theorem readF:∀ {i:Nat} {fs:List Field} {ss:List Sh},ShF P i fs ss→∀ {n:Nat} {cs:List Value},(∀ f∈fs,∃ x,DataW.trod enc P w 0 (fun _=>true) true n f.type ((cs.drop f.offset).take (P.cellsOf f.type))=some x) →
 i+ss.length≤cs.length→∃ tl:List TC,ShL ss tl∧Holds w tl (cs.drop i)
 | _,_,_,.nil,n,cs,h,hl=>⟨[],⟨rfl,fun j s c hs=>by simp at hs⟩,fun j c u hc=>by simp at hc⟩
 | i,_,_,(.cons (f:=f) (fs:=fs) (s1:=s1) (s2:=s2) ho hc hT hr),n,cs,h,hl=>by
   simp only [List.length_append] at hl
   obtain ⟨x,hx⟩:=h f (.head _)
   obtain ⟨h1,t1,h2,h3⟩:=readT hT hx
   obtain ⟨t2,h4,h5⟩:=readF hr (n:=n) (cs:=cs) (fun f' hf'=>h f' (.tail _ hf')) (by omega)
   refine ⟨t1++t2,⟨by rw [List.length_append,List.length_append,h2.1,h4.1],fun j s c hs hcj=>?_⟩,fun j c u hcj hu=>?_⟩
   ·by_cases hj:j<s1.length
    ·rw [List.getElem?_append_left hj] at hs
     rw [List.getElem?_append_left (by rw [h2.1];exact hj)] at hcj
     exact h2.2 j s c hs hcj
    ·rw [List.getElem?_append_right (by omega)] at hs
     rw [List.getElem?_append_right (by rw [h2.1];omega),h2.1] at hcj
     exact h4.2 _ s c hs hcj
   ·by_cases hj:j<s1.length
    ·rw [List.getElem?_append_left (by rw [h2.1];exact hj)] at hcj
     refine h3 j c u hcj ?_
     rw [List.getElem?_take_of_lt (by rw [hc];exact hj),ho]
     exact hu
    ·rw [List.getElem?_append_right (by rw [h2.1];omega),h2.1] at hcj
     refine h5 _ c u hcj ?_
     rw [List.getElem?_drop] at hu ⊢
     rw [show i+s1.length+(j-s1.length)=i+j by omega]
     exact hu
end
end
theorem readAt {H:Type} {enc:TypeId×Value→H} {P:Program} {w:World} {t:Nat} {ss:List Sh} {v:Value} {d:DataW H} {p:List MemPlace} (hs:ShT P t ss) (h:DataW.Trod enc P w 0 (fun _=>true) true t v d p) :
 v.cells.toList.length=ss.length∧∃ tl:List TC,ShL ss tl∧Holds w tl v.cells.toList:=by
 obtain ⟨n,hn⟩:=h
 exact readT hs hn
def Imp (w:World) (a b:List TC):Prop:=∀ (j:Nat) (c:TC) (u:Value),a[j]?=some c→RdC w (inW w) c u→RdC w (inW w) (nthT b j) u
theorem Imp.of_eq {w:World} {a b:List TC} (h:a=b):Imp w a b:=fun j c u hj hu=>by
 subst h;rw [nthT_get hj];exact hu
theorem list_of {α:Type} [Inhabited α] {w:World} {tl:α→List TC} {Q:α→Prop} {n:Nat} {g:Nat→List TC} (h:∀ i,i<n→∃ x,Imp w (g i) (tl x)∧Q x) (hd:Q default) :
 ∃ l:List α,l.length=n∧(∀ i,i<n→Imp w (g i) (tl (l.getD i default)))∧∀ i,Q (l.getD i default):=by
 obtain ⟨f,hf⟩:=Go.Deep.choose_lt h
 refine ⟨(List.range n).map f,by simp,fun i hi=>?_,fun i=>?_⟩
 ·rw [List.getD_eq_getElem?_getD,List.getElem?_map,List.getElem?_range hi]
  exact (hf i hi).1
 ·rw [List.getD_eq_getElem?_getD,List.getElem?_map]
  by_cases hi:i<n
  ·rw [List.getElem?_range hi];exact (hf i hi).2
  ·rw [List.getElem?_eq_none (by simp;omega)];exact hd
theorem row_of {α:Type} [Inhabited α] {w:World} {e size:Nat} {el:List Sh} {c:TC} {tl:α→List TC} {Q:α→Prop} (hs:size=el.length) (h:ShC (.sl e size el) c) (hx:∀ t:List TC,ShL el t→∃ x,Imp w t (tl x)∧Q x) (hd:Q default) :
 ∃ l:List α,(∀ i,Q (l.getD i default))∧∀ v,RdC w (inW w) c v→RdRow w (inW w) v size l.length (fun i j u=>RdC w (inW w) (nthT (tl (l.getD i default)) j) u):=by
 cases h with
 | sl n g hl hg =>
   obtain ⟨l,h1,h2,h3⟩:=list_of (tl:=tl) (Q:=Q) (n:=n) (g:=g) (w:=w) (fun i hi=>hx _ ⟨hl i hi,fun j s c h1 h2=>hg i j s c hi h1 h2⟩) hd
   refine ⟨l,h3,fun v hv=>?_⟩
   rw [h1]
   refine RdRow.map hv (Nat.le_refl _) (fun _ _ _=>rfl) (fun i j u hi hj hu=>?_)
   have hjl:j<(g i).length:=by rw [hl i hi,← hs];exact hj
   have:nthT (g i) j=(g i)[j]:=nthT_get (List.getElem?_eq_getElem hjl)
   have hu:RdC w (inW w) (nthT (g i) j) u:=hu
   rw [this] at hu
   exact h2 i hi j _ u (List.getElem?_eq_getElem hjl) hu
end Go.Proofs.Ytlblobbklioofaa
noncomputable section
namespace Go.Proofs.Ytlblobbklioofaa
open Go Go.Tx
theorem u8_of {n:Int} (h:(Lit.int .u8 n).wf=true):0≤n∧n≤255:=by simpa [Lit.wf,IntKind.min,IntKind.max,IntKind.signed,IntKind.bits] using h
abbrev shDid:List Sh:=[.num .u8,.num .i64,.num .i64,.num .i64,.num .i64,.num .i64,.boo]
theorem shT_Did:ShT Try.prog 75 shDid:=.struct Try.underlying75 (by kernel_rfl) (.cons (s1:=[.num .u8]) (s2:=[.num .i64,.num .i64,.num .i64,.num .i64,.num .i64,.boo]) rfl (by kernel_rfl) (.int (by kernel_rfl)) (.cons (s1:=[.num .i64]) (s2:=[.num .i64,.num .i64,.num .i64,.num .i64,.boo]) rfl (by kernel_rfl) (.int (by kernel_rfl)) (.cons (s1:=[.num .i64]) (s2:=[.num .i64,.num .i64,.num .i64,.boo]) rfl (by kernel_rfl) (.int (by kernel_rfl)) (.cons (s1:=[.num .i64]) (s2:=[.num .i64,.num .i64,.boo]) rfl (by kernel_rfl) (.int (by kernel_rfl)) (.cons (s1:=[.num .i64]) (s2:=[.num .i64,.boo]) rfl (by kernel_rfl) (.int (by kernel_rfl)) (.cons (s1:=[.num .i64]) (s2:=[.boo]) rfl (by kernel_rfl) (.int (by kernel_rfl)) (.cons (s1:=[.boo]) (s2:=[]) rfl (by kernel_rfl) (.bool (by kernel_rfl)) .nil)))))))
theorem of_Did {w:World} {t:List TC} (h:ShL shDid t):∃ x:Did,Imp w t x.tl∧(0≤x.kind∧x.kind≤255):=by
 obtain ⟨hl,hc⟩:=h
 rcases t with _ | ⟨c0,_ | ⟨c1,_ | ⟨c2,_ | ⟨c3,_ | ⟨c4,_ | ⟨c5,_ | ⟨c6,_ | ⟨c7,t⟩⟩⟩⟩⟩⟩⟩⟩
 all_goals first | (exfalso;simp at hl;done) | skip
 have h0:=hc 0 _ _ rfl rfl
 have h1:=hc 1 _ _ rfl rfl
 have h2:=hc 2 _ _ rfl rfl
 have h3:=hc 3 _ _ rfl rfl
 have h4:=hc 4 _ _ rfl rfl
 have h5:=hc 5 _ _ rfl rfl
 have h6:=hc 6 _ _ rfl rfl
 cases h0 with | num n0 w0 =>
 cases h1 with | num n1 w1 =>
 cases h2 with | num n2 w2 =>
 cases h3 with | num n3 w3 =>
 cases h4 with | num n4 w4 =>
 cases h5 with | num n5 w5 =>
 cases h6 with | boo n6 =>
 exact ⟨⟨n0,n1,n2,n3,n4,n5,n6⟩,Imp.of_eq rfl,u8_of w0⟩
abbrev shIns:List Sh:=[.num .u8,.num .u8,.num .i64,.num .i64,.num .i64,.num .i64,.num .i64,.num .i64,.num .i64]
theorem shT_Ins:ShT Try.prog 93 shIns:=.struct Try.underlying93 (by kernel_rfl) (.cons (s1:=[.num .u8]) (s2:=[.num .u8,.num .i64,.num .i64,.num .i64,.num .i64,.num .i64,.num .i64,.num .i64]) rfl (by kernel_rfl) (.int (by kernel_rfl)) (.cons (s1:=[.num .u8]) (s2:=[.num .i64,.num .i64,.num .i64,.num .i64,.num .i64,.num .i64,.num .i64]) rfl (by kernel_rfl) (.int (by kernel_rfl)) (.cons (s1:=[.num .i64]) (s2:=[.num .i64,.num .i64,.num .i64,.num .i64,.num .i64,.num .i64]) rfl (by kernel_rfl) (.int (by kernel_rfl)) (.cons (s1:=[.num .i64]) (s2:=[.num .i64,.num .i64,.num .i64,.num .i64,.num .i64]) rfl (by kernel_rfl) (.int (by kernel_rfl)) (.cons (s1:=[.num .i64]) (s2:=[.num .i64,.num .i64,.num .i64,.num .i64]) rfl (by kernel_rfl) (.int (by kernel_rfl)) (.cons (s1:=[.num .i64]) (s2:=[.num .i64,.num .i64,.num .i64]) rfl (by kernel_rfl) (.int (by kernel_rfl)) (.cons (s1:=[.num .i64]) (s2:=[.num .i64,.num .i64]) rfl (by kernel_rfl) (.int (by kernel_rfl)) (.cons (s1:=[.num .i64]) (s2:=[.num .i64]) rfl (by kernel_rfl) (.int (by kernel_rfl)) (.cons (s1:=[.num .i64]) (s2:=[]) rfl (by kernel_rfl) (.int (by kernel_rfl)) .nil)))))))))
theorem of_Ins {w:World} {t:List TC} (h:ShL shIns t):∃ x:Ins,Imp w t x.tl∧insK x:=by
 obtain ⟨hl,hc⟩:=h
 rcases t with _ | ⟨c0,_ | ⟨c1,_ | ⟨c2,_ | ⟨c3,_ | ⟨c4,_ | ⟨c5,_ | ⟨c6,_ | ⟨c7,_ | ⟨c8,_ | ⟨c9,t⟩⟩⟩⟩⟩⟩⟩⟩⟩⟩
 all_goals first | (exfalso;simp at hl;done) | skip
 have h0:=hc 0 _ _ rfl rfl
 have h1:=hc 1 _ _ rfl rfl
 have h2:=hc 2 _ _ rfl rfl
 have h3:=hc 3 _ _ rfl rfl
 have h4:=hc 4 _ _ rfl rfl
 have h5:=hc 5 _ _ rfl rfl
 have h6:=hc 6 _ _ rfl rfl
 have h7:=hc 7 _ _ rfl rfl
 have h8:=hc 8 _ _ rfl rfl
 cases h0 with | num n0 w0 =>
 cases h1 with | num n1 w1 =>
 cases h2 with | num n2 w2 =>
 cases h3 with | num n3 w3 =>
 cases h4 with | num n4 w4 =>
 cases h5 with | num n5 w5 =>
 cases h6 with | num n6 w6 =>
 cases h7 with | num n7 w7 =>
 cases h8 with | num n8 w8 =>
 exact ⟨⟨n0,n1,n2,n3,n4,n5,n6,n7,n8⟩,Imp.of_eq rfl,⟨u8_of w0,u8_of w1⟩⟩
abbrev shCor:List Sh:=[.str,.sl 93 9 shIns]
theorem shT_Cor:ShT Try.prog 96 shCor:=.struct Try.underlying96 (by kernel_rfl) (.cons (s1:=[.str]) (s2:=[.sl 93 9 shIns]) rfl (by kernel_rfl) (.str (by kernel_rfl)) (.cons (s1:=[.sl 93 9 shIns]) (s2:=[]) rfl (by kernel_rfl) (.slice (el:=shIns) (by kernel_rfl) (by kernel_rfl) (by decide) shT_Ins) .nil))
theorem insK_dflt:insK default:=by unfold insK;decide
theorem of_Cor {w:World} {t:List TC} (h:ShL shCor t):∃ x:Cor,Imp w t x.tl∧∀ b,insK (x.code.getD b default):=by
 obtain ⟨hl,hc⟩:=h
 rcases t with _ | ⟨c0,_ | ⟨c1,_ | ⟨c2,t⟩⟩⟩
 all_goals first | (exfalso;simp at hl;done) | skip
 have h0:=hc 0 _ _ rfl rfl
 have h1:=hc 1 _ _ rfl rfl
 cases h0 with | str n0 =>
 obtain ⟨code,hq,hr⟩:=row_of (w:=w) (tl:=Ins.tl) (Q:=insK) rfl h1 (fun t ht=>of_Ins ht) insK_dflt
 refine ⟨⟨n0,code⟩,fun j c u hj hu=>?_,hq⟩
 match j,hj with
 | 0,hj=>cases hj;exact hu
 | 1,hj=>cases hj;exact hr u hu
 | j+2,hj=>simp at hj
theorem of_Int {w:World} {t:List TC} (h:ShL [.num .i64] t):∃ x:Int,Imp w t [.val (.int .i64 x)]∧True:=by
 obtain ⟨hl,hc⟩:=h
 rcases t with _ | ⟨c,_ | ⟨c',t⟩⟩
 ·simp at hl
 ·have h0:=hc 0 _ _ rfl rfl
  cases h0 with | num n w =>
  exact ⟨n,Imp.of_eq rfl,trivial⟩
 ·simp at hl
abbrev shObj:List Sh:=[.sl 2 1 [.num .i64],.num .i64,.num .i64,.num .i64,.sl 96 2 shCor]
theorem shT_Obj:ShT Try.prog 25 shObj:=.struct Try.underlying25 (by kernel_rfl)
 (.cons (s1:=[.sl 2 1 [.num .i64]]) (s2:=[.num .i64,.num .i64,.num .i64,.sl 96 2 shCor]) rfl (by kernel_rfl) (.slice (el:=[.num .i64]) (by kernel_rfl) (by kernel_rfl) (by decide) (.int (by kernel_rfl)))
 (.cons (s1:=[.num .i64]) (s2:=[.num .i64,.num .i64,.sl 96 2 shCor]) rfl (by kernel_rfl) (.int (by kernel_rfl))
 (.cons (s1:=[.num .i64]) (s2:=[.num .i64,.sl 96 2 shCor]) rfl (by kernel_rfl) (.int (by kernel_rfl))
 (.cons (s1:=[.num .i64]) (s2:=[.sl 96 2 shCor]) rfl (by kernel_rfl) (.int (by kernel_rfl))
 (.cons (s1:=[.sl 96 2 shCor]) (s2:=[]) rfl (by kernel_rfl) (.slice (el:=shCor) (by kernel_rfl) (by kernel_rfl) (by decide) shT_Cor) .nil)))))
theorem shT_Dids:ShT Try.prog 26 [.sl 75 7 shDid]:=.slice (el:=shDid) (by kernel_rfl) (by kernel_rfl) (by decide) shT_Did
section
variable {H:Type} {enc:TypeId×Value→H} {W:World} {base:Nat}
theorem row_ok {ε:Env} {M:Nat→Prop} {v:Value} {size n:Nat} {f:Nat→Nat→TC} (h:RdRow W (inW W) v size n (fun i j u=>RdC W (inW W) (f i j) u)):RegOk ε M W ⟨v,inW W⟩ (.row size n f none):=⟨h,trivial⟩
theorem rows_ok {ε:Env} {pre:List Reg} (hl:ε.length=pre.length) (hx:pre.all (fun r=>!r.excl)=true) (hf:∀ i,i<pre.length→ε.fp i=inW W) (h:∀ i r,pre[i]?=some r→RegOk ε (Base.at_ pre ε W).M W (ε.ent i) r) :
 RegsOk ε (Base.at_ pre ε W).M (Base.at_ pre ε W).L W pre:=by
 have hx':∀ (i:Nat) (r:Reg),pre[i]?=some r→r.excl=false:=fun i r hi=>by simpa using List.all_eq_true.1 hx r (List.mem_of_getElem? hi)
 refine ⟨hl,h,fun i r hi hlv b hb=>?_,fun i r hi he=>?_,fun i j ri rj _ hi _ he=>?_⟩
 ·have hi':=(List.getElem?_eq_some_iff.1 hi).1
  have hb':b<W.heap.size:=by rw [hf i hi'] at hb;exact hb
  exact ⟨hb',.inr ⟨i,r,hi,hlv,hb⟩⟩
 ·rw [hx' i r hi] at he;cases he
 ·rw [hx' i ri hi] at he;cases he
theorem open_obj {v:Value} {d:DataW H} {p:List MemPlace} (hv:Value.okWide Try.prog W .any base 25 v) (h:DataW.Trod enc Try.prog W 0 (fun _=>true) true 25 v d p) :
 ∃ (u0 u4:Value) (mem:List Int) (sh lk bu:Int) (cs:List Cor),v=.agg #[u0,.int .i64 sh,.int .i64 lk,.int .i64 bu,u4] ∧
  RdRow W (inW W) u0 1 mem.length (fun i j u=>RdC W (inW W) (i64T (mem.getD i 0) j) u)∧RdRow W (inW W) u4 2 cs.length (fun i j u=>RdC W (inW W) ((cs.getD i default).tc j) u) ∧
  ∀ a b:Nat,insK ((cs.getD a default).code.getD b default):=by
 obtain ⟨cs0,rfl,hsz⟩:=Go.WideShapes.okWide_struct Try.underlying25 hv
 obtain ⟨hlen,tl,⟨hl,hc⟩,hh⟩:=readAt shT_Obj h
 have hlen:cs0.toList.length=5:=hlen
 rcases tl with _ | ⟨c0,_ | ⟨c1,_ | ⟨c2,_ | ⟨c3,_ | ⟨c4,_ | ⟨c5,t⟩⟩⟩⟩⟩⟩
 all_goals first | (exfalso;simp at hl;done) | skip
 obtain ⟨l,rfl⟩:∃ l:List Value,cs0=l.toArray:=⟨cs0.toList,by simp⟩
 simp only [List.toList_toArray] at hlen
 rcases l with _ | ⟨u0,_ | ⟨u1,_ | ⟨u2,_ | ⟨u3,_ | ⟨u4,_ | ⟨u5,t⟩⟩⟩⟩⟩⟩
 all_goals first | (exfalso;simp at hlen;done) | skip
 have h0:=hc 0 _ _ rfl rfl
 have h1:=hc 1 _ _ rfl rfl
 have h2:=hc 2 _ _ rfl rfl
 have h3:=hc 3 _ _ rfl rfl
 have h4:=hc 4 _ _ rfl rfl
 have g0:=hh 0 _ _ rfl rfl
 have g1:=hh 1 _ _ rfl rfl
 have g2:=hh 2 _ _ rfl rfl
 have g3:=hh 3 _ _ rfl rfl
 have g4:=hh 4 _ _ rfl rfl
 cases h1 with | num sh w1 =>
 cases h2 with | num lk w2 =>
 cases h3 with | num bu w3 =>
 obtain ⟨mem,_,hm⟩:=row_of (w:=W) (α:=Int) (tl:=fun n=>[.val (.int .i64 n)]) (Q:=fun _=>True) rfl h0 (fun t ht=>of_Int ht) trivial
 obtain ⟨cs,hq,hr⟩:=row_of (w:=W) (tl:=Cor.tl) (Q:=fun x:Cor=>∀ b,insK (x.code.getD b default)) rfl h4 (fun t ht=>of_Cor ht) (fun b=>by
  rw [List.getD_eq_getElem?_getD];exact insK_dflt)
 have e1:u1=.int .i64 sh:=g1
 have e2:u2=.int .i64 lk:=g2
 have e3:u3=.int .i64 bu:=g3
 subst e1 e2 e3
 exact ⟨u0,u4,mem,sh,lk,bu,cs,rfl,hm u0 g0,hr u4 g4,hq⟩
theorem open_dids {v:Value} {d:DataW H} {p:List MemPlace} (hv:Value.okWide Try.prog W .any base 26 v) (h:DataW.Trod enc Try.prog W 0 (fun _=>true) true 26 v d p) :
 ∃ l:List Did,RdRow W (inW W) v 7 l.length (fun i j u=>RdC W (inW W) ((l.getD i default).tc j) u)∧∀ a:Nat,0≤(l.getD a default).kind∧(l.getD a default).kind≤255:=by
 obtain ⟨a,len,cap,rfl⟩:=Go.WideShapes.okWide_slice Try.underlying26 hv
 obtain ⟨hlen,tl,⟨hl,hc⟩,hh⟩:=readAt shT_Dids h
 rcases tl with _ | ⟨c0,_ | ⟨c1,t⟩⟩
 all_goals first | (exfalso;simp at hl;done) | skip
 obtain ⟨l,hq,hr⟩:=row_of (w:=W) (tl:=Did.tl) (Q:=fun x:Did=>0≤x.kind∧x.kind≤255) rfl (hc 0 _ _ rfl rfl) (fun t ht=>of_Did ht) ⟨Int.le_refl _,by decide⟩
 exact ⟨l,hr _ (hh 0 _ _ rfl rfl),hq⟩
theorem bulk_len {t e:Nat} {v:Value} {d:DataW H} {p:List MemPlace} {size n:Nat} {ok:Nat→Nat→Value→Prop} (ht:Try.prog.underlying t=some (.slice e)) (h:DataW.Trod enc Try.prog W 0 (fun _=>true) true t v d p) (hr:RdRow W (inW W) v size n ok):n≤Rows.uptoBulk d:=by
 have all:∀ l:List (DataW H),l.length≤Rows.uptoBulkAll l:=fun l=>by
  induction l with
  | nil=>simp
  | cons x r ih =>
    have:1≤Rows.uptoBulk x:=by
     cases x with
     | lit l=>cases l<;>simp [Rows.uptoBulk]
     | _=>simp [Rows.uptoBulk]
    simp only [Rows.uptoBulkAll,List.length_cons];omega
 obtain ⟨A,c,rfl,_⟩:=hr
 obtain ⟨fuel,hf⟩:=h
 rcases Go.Deep.open_slice ht hf with ⟨hcs,hd⟩ | ⟨a,len,cap,m,n',D,Pl,hcs,_,_,_,_,hd,_⟩
 ·simp only [Value.cells,List.cons.injEq,Value.slice.injEq] at hcs
  omega
 ·simp only [Value.cells,List.cons.injEq,Value.slice.injEq] at hcs
  simp only [Prod.mk.injEq] at hd
  rw [hd.1]
  have:=all ((List.range len).map D)
  simp only [List.length_map,List.length_range] at this
  simp only [Rows.uptoBulk]
  omega
theorem bulk_part {d:DataW H} {l:List (DataW H)} (h:d∈l):Rows.uptoBulk d≤Rows.uptoBulkAll l:=by
 induction l with
 | nil=>cases h
 | cons x r ih =>
   simp only [Rows.uptoBulkAll]
   cases List.mem_cons.1 h with
   | inl e=>subst e;omega
   | inr e=>have:=ih e;omega
end
end Go.Proofs.Ytlblobbklioofaa
end
noncomputable section
namespace Go.Proofs.Ytlblobbklioofaa.lawMonitorBlocks
open Go.ChangeShapes Go.WideShapes Go.ChangeAt Go.RowKit Go.Tx
theorem own:ownKnob Try.prog.godebug=none:=by kernel_rfl
theorem results:Try.f3.resultTypes=#[4]:=by kernel_rfl
theorem contract (H:Type) (enc:TypeId×Value→H) (W:World) (base:Nat) (args:Array Value) (ds gs:List (DataW H)) (before:List MemPlace)
 (hval:∀ (j:Nat) t v,Try.f3.params[j]?=some t→args[j]?=some v→Value.okWide Try.prog W .any base t v)
 (hW:DataW.Whole enc Try.prog Try.f3.params.toList Rows.monitorBlocksSpec.vars false W args.toList ds gs before) (hk:Rows.uptoSmall H (ds++gs)=true) :
 Calls Try.prog 3 args W fun e W'=>∃ v,e=.returned v∧Rows.monitorBlocksSpec.post enc Try.prog Try.f3 false true false false W args v W':=by
 have hW':=hW
 have hlt:=hW.lt
 obtain ⟨p,q,hA0,hV,rfl,hfz,hnd⟩:=hW
 have hA:DataW.TrodAll enc Try.prog W 0 (fun _=>true) true Try.f3.params.toList args.toList ds p:=hA0
 rw [Try.params3] at hA hval
 obtain ⟨v0,vs0,d0,ds0,p0,q0,hargs0,rfl,rfl,h0,r0⟩:=trodAll_cons hA
 obtain ⟨v1,vs1,d1,ds1,p1,q1,hargs1,rfl,rfl,h1,r1⟩:=trodAll_cons r0
 obtain ⟨rfl,rfl,rfl⟩:=trodAll_nil r1
 obtain rfl:args=#[v0,v1]:=by cases args;simp_all
 obtain ⟨rfl,rfl⟩:=trodVars_none hV
 clear hA0
 have hv0:=hval 0 25 v0 rfl rfl
 have hv1:=hval 1 26 v1 rfl rfl
 obtain ⟨l,hrl,hl⟩:=open_dids hv1 h1
 have hbl:=bulk_len Try.underlying26 h1 hrl
 have hbk:Rows.uptoBulkAll [d0,d1]≤1048576:=by simpa [Rows.uptoSmall] using hk
 have hbp:=bulk_part (d:=d1) (l:=[d0,d1]) (by simp)
 have hn:(l.length:Int) * 4096≤140737488355328:=by omega
 obtain ⟨u0,u4,mem,sh,lk,bu,cs,rfl,hr0,hr4,hw⟩:=open_obj hv0 h0
 have hregs:RegsOk ([⟨u0,inW W⟩,⟨u4,inW W⟩,⟨v1,inW W⟩]:Env) (Base.at_ [IntRow mem,Cor.rowR cs,Did.rowR l] [⟨u0,inW W⟩,⟨u4,inW W⟩,⟨v1,inW W⟩] W).M (Base.at_ [IntRow mem,Cor.rowR cs,Did.rowR l] [⟨u0,inW W⟩,⟨u4,inW W⟩,⟨v1,inW W⟩] W).L W [IntRow mem,Cor.rowR cs,Did.rowR l]:=by
  refine rows_ok rfl rfl (fun i hi=>?_) (fun i r hi=>?_)
  ·match i,hi with
   | 0,_=>rfl
   | 1,_=>rfl
   | 2,_=>rfl
   | i+3,hi=>exact absurd hi (by simp)
  ·match i,hi with
   | 0,hi=>cases hi;exact row_ok hr0
   | 1,hi=>cases hi;exact row_ok hr4
   | 2,hi=>cases hi;exact row_ok hrl
   | i+3,hi=>simp at hi
 refine ((c_lawBlocks mem sh lk bu cs l hw hl hn) [⟨u0,inW W⟩,⟨u4,inW W⟩,⟨v1,inW W⟩] W hregs).mono fun e W' hret=>?_
 obtain ⟨res,post,ε',⟨rfl,_⟩,rfl,_,_,hfr⟩:=hret
 have hb:Below W.heap.size W W':=⟨hfr.os,hfr.tape,hfr.output,hfr.size,fun k hk=>hfr.block k hk (fun ⟨i,r,hi,he,_⟩=>by
  match i,hi with
  | 0,hi=>cases hi;cases he
  | 1,hi=>cases hi;cases he
  | 2,hi=>cases hi;cases he
  | i+3,hi=>simp at hi)⟩
 refine ⟨_,rfl,_,_,_,[],p0++(p1++[]),[],hW',?_,?_,?_,hb.frame _,fun h=>by cases h⟩
 ·rw [results]
  exact trodAll_cons_mk (shut_bool Try.underlying4 _) trodAll_mk0
 ·rw [Try.params3]
  exact (trodAll_cons_mk (WideElems.Trod_stays laidT (by kernel_rfl) (of_decide_eq_true (by kernel_rfl)) h0 (fun p hp=>hb.same (hlt p (by simp [hp]))) (fun p hp=>by simpa using hlt p (by simp [hp]))) (trodAll_cons_mk (WideElems.Trod_stays laidT (by kernel_rfl) (of_decide_eq_true (by kernel_rfl)) h1 (fun p hp=>hb.same (hlt p (by simp [hp]))) (fun p hp=>by simpa using hlt p (by simp [hp]))) trodAll_mk0))
 ·rfl
set_option maxRecDepth 100000 in
theorem lifted (os:Os) (started:os.Started) (H:Type) (enc:TypeId×Value→H) (F:Stop.Interp) :
 ReturnsInHanded {} Try.checked os 3 .any ((Rows.OpenSpec.upto Rows.monitorBlocksSpec).pre6 enc Try.prog Try.f3 Rows.monitorBlocksUptoRow.domain false) (((Rows.OpenSpec.upto Rows.monitorBlocksSpec).at F).post enc Try.prog Try.f3 false true false false):=by
 refine returnsInHanded_of_cond (C:=Try.checked) (s:=Rows.OpenSpec.upto Rows.monitorBlocksSpec) (k:=Rows.uptoSmall) rfl own started (by kernel_rfl) Try.func3
  (OpenSpec.witness (enc:=enc) (C:=Try.checked) (s:=Rows.OpenSpec.upto Rows.monitorBlocksSpec) (k:=Rows.uptoSmall) rfl false ⟨#[],#[.agg #[.slice none 0 0,.int .i64 0,.int .i64 0,.int .i64 0,.slice none 0 0],.slice none 0 0],[]⟩ 8 (by kernel_rfl) (by kernel_rfl) (by kernel_rfl)
    (x:=([.agg [.nil,.lit (.int .i64 0),.lit (.int .i64 0),.lit (.int .i64 0),.nil],.nil],[],[])) (by kernel_rfl) rfl (by kernel_rfl)) ?_
 intro W base args ds gs before hval hW _ hk _
 exact contract H enc W base args ds gs before hval hW hk
theorem proved:Rows.MonitorBlocksUptoSaid:=
 OpenClaim.holds_of_cond 3 Try.f3 rfl rfl rfl rfl rfl rfl rfl ⟨rfl,rfl,rfl,rfl,rfl⟩ rfl rfl rfl rfl rfl (by kernel_rfl) Try.func3 (by kernel_rfl)
  (of_decide_eq_true (by kernel_rfl)) (by unfold Func.isWrapper;first | (rw [if_pos (by decide +kernel)];kernel_rfl) | (rw [if_neg (by decide +kernel)];exact ⟨rfl,rfl⟩))
  (fun os started H enc _ F=>lifted os started H enc F)
end Go.Proofs.Ytlblobbklioofaa.lawMonitorBlocks
end
