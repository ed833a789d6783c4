/-
  Part of a proof of Rows.MonitorOwnUptoSaid: for every object, classes and run of at most 1048576 values and letters together, the law stilelaw23.MonitorOwn returns true and leaves its arguments as they were. Text 5 of 9: Leaf11 Leaf12 TxR TxS Leaf13 SpecC.
-/
import Derived.Test.YtlblobbklioofaaP4
import Derived.Test.YtlblobbklioofaaP3
set_option linter.unusedSimpArgs false
set_option linter.unusedVariables false
set_option maxHeartbeats 4000000
noncomputable section
namespace Go.Proofs.Ytlblobbklioofaa
open Go Go.Tx
abbrev z11_1 (mem:List Int) (cs:List Cor) (l:List Did) (sh:Int) (lk:Int) (bu:Int):=[Reg.row 1 mem.length (fun i=>i64T (mem.getD i (0:Int))) none,Reg.row 2 cs.length (fun i=>(cs.getD i default).tc) none,Reg.row 7 l.length (fun i=>(l.getD i default).tc) none,Reg.box 25 [C.h 0,C.i .i64 sh,C.i .i64 lk,C.i .i64 bu,C.h 1]]
def L23_0_I (mem:List Int) (sh:Int) (lk:Int) (bu:Int) (cs:List Cor) (l:List Did):Int×List Ev→St:=fun x=>{ N:=49,fr:=[{ slot:=31,g:=[],sv:=SV.c (C.i .i64 x.1) },{ slot:=30,g:=[],sv:=SV.c (C.i .i64 (↑l.length:Int)) },{ slot:=29,g:=[],sv:=SV.c (C.h 2) },{ slot:=9,g:=[],sv:=SV.c (C.h 4) },{ slot:=5,g:=[],sv:=SV.c (C.i .i64 0) },{ slot:=4,g:=[],sv:=SV.c (C.v (Value.slice none 0 0)) },{ slot:=2,g:=[],sv:=SV.c (C.p 3 0) }],rg:=(z11_1 mem cs l sh lk bu)++[Ev.ownR x.2],wr:=[] }
def L23_0_J (mem:List Int) (sh:Int) (lk:Int) (bu:Int) (cs:List Cor) (l:List Did):Int×List Ev→Prop:=fun x=>0≤x.1∧x.1≤(l.length:Int)∧x.2=evUp sh lk l x.1.toNat
def L23_0_m (mem:List Int) (sh:Int) (lk:Int) (bu:Int) (cs:List Cor) (l:List Did):Int×List Ev→Nat:=fun x=>((l.length:Int)-x.1).toNat
abbrev z11_7:=En.mk 4 [] (SV.c (C.v (Value.slice none 0 0)))
abbrev z11_2 (x3_0:Int) (l:List Did) (mem:List Int) (cs:List Cor) (sh:Int) (lk:Int) (bu:Int) (x3_1:List Ev):=(St.mk 49 [En.mk 31 [] (SV.c (C.i .i64 x3_0)),En.mk 30 [] (SV.c (C.i .i64 (↑l.length:Int))),En.mk 29 [] (SV.c (C.h 2)),En.mk 9 [] (SV.c (C.h 4)),En.mk 5 [] (SV.c (C.i .i64 0)),z11_7,En.mk 2 [] (SV.c (C.p 3 0))] [Reg.row 1 mem.length (fun i=>i64T (mem.getD i (0:Int))) none,Reg.row 2 cs.length (fun i=>(cs.getD i default).tc) none,Reg.row 7 l.length (fun i=>(l.getD i default).tc) none,Reg.box 25 [C.h 0,C.i .i64 sh,C.i .i64 lk,C.i .i64 bu,C.h 1],Reg.own 63 7 x3_1.length (fun i=>(x3_1.getD i default).tc) none] [])
abbrev z11_3 (sh:Int) (lk:Int) (l:List Did) (x3_0:Int):=(evOf sh lk (l.getD x3_0.toNat default) x3_0)
abbrev z11_4 (l:List Did) (x3_0:Int):=[C.i .u8 (l.getD x3_0.toNat default).kind,C.i .i64 (l.getD x3_0.toNat default).core,C.i .i64 (l.getD x3_0.toNat default).pc,C.i .i64 (l.getD x3_0.toNat default).addr,C.i .i64 (l.getD x3_0.toNat default).word,C.i .i64 (l.getD x3_0.toNat default).put,C.b (l.getD x3_0.toNat default).own]
abbrev z11_5 (mem:List Int):=∀ (i:Nat),i<mem.length→i64T (mem.getD i (0:Int))=i64T (mem.getD i (0:Int))
abbrev z11_6 (cs:List Cor):=∀ (i:Nat),i<cs.length→(cs.getD i default).tc=(cs.getD i default).tc
theorem c_events_ref (mem:List Int) (sh lk bu:Int) (cs:List Cor) (l:List Did) (hw:∀ a b:Nat,insK ((cs.getD a default).code.getD b default)) (hl:∀ a:Nat,0≤(l.getD a default).kind∧(l.getD a default).kind≤255) (hn:(l.length:Int) * 56≤140737488355328):Ctr Try.prog 23 [IntRow mem,Cor.rowR cs,Did.rowR l] [.agg [.h 0,.i .i64 sh,.i .i64 lk,.i .i64 bu,.h 1],.c (.h 2)]
 (Det (.tup [(false,[.h 3]),(false,[.i .i64 (evE mem sh lk bu cs l)])]) [.dead,.dead,.dead,Ev.ownR (evL mem sh lk bu cs l)]):=by
 refine Ctr.intro [] Try.func23 K K ?_
 refine RunF.lens 2 (m:=l.length) K (fun hlens_2=>?_)
 refine RunF.call (vc:=[]) (args:=[SV.agg [C.h 0,C.i .i64 sh,C.i .i64 lk,C.i .i64 bu,C.h 1]]) e_stileref16_Check (c_check_ref (mem:=mem) (sh:=sh) (lk:=lk) (bu:=bu) (cs:=cs) (hw:=by first | assumption | omega | exact hw | exact hl | exact rng V91 V32 V32 | exact shr (mem:=mem) (bu:=bu) (cs:=cs) V32)) [0,1] (E:=[mem.length=mem.length,z11_5 mem,cs.length=cs.length,z11_6 cs,sh=sh,lk=lk,bu=bu]) K trivial K R K ?_
 refine RunF.chk [15,5,4,2,1] [.ops [1,0] 2,.code [1,1]] (St.mk 49 [En.mk 15 [] (SV.tup [(false,[C.i .i64 (chkE mem sh lk bu cs)]),(false,[C.i .i64 (chkI mem sh lk bu cs)]),(false,[C.i .i64 (chkK mem sh lk bu cs)])]),En.mk 5 [] (SV.c (C.i .i64 0)),z11_7,En.mk 2 [] (SV.c (C.p 3 0)),En.mk 1 [] (SV.c (C.h 2))] (z11_1 mem cs l sh lk bu) []) K ?_
 refine RunF.gcall (vc:=[]) (args:=[SV.c (C.h 2)]) e_stileref19_Rights (c_rights_ref (l:=l) (hl:=by first | assumption | omega | exact hw | exact hl | exact rng V91 V32 V32 | exact shr (mem:=mem) (bu:=bu) (cs:=cs) V32)) [2] (E:=[l.length=l.length,∀ (i:Nat),i<l.length→(l.getD i default).tc=(l.getD i default).tc]) K trivial K ⟨rfl,fun _ _=>rfl⟩ K ?_
 refine RunF.chk [23,21,6,5,4,2,1] [.ops [1,1,0,0] 5,.code [1,1,0,1],.code [1,1,1]] (St.mk 49 [En.mk 23 [(21,true)] (SV.c (C.b (rightsB l))),En.mk 21 [] (SV.c (C.b (decide (chkE mem sh lk bu cs=(0:Int))))),En.mk 6 [] (SV.c (C.i .i64 (chkE mem sh lk bu cs))),En.mk 5 [] (SV.c (C.i .i64 0)),z11_7,En.mk 2 [] (SV.c (C.p 3 0)),En.mk 1 [] (SV.c (C.h 2))] (z11_1 mem cs l sh lk bu) []) K ?_
 refine RunF.cond (vc:=[]) (x:=decide (chkE mem sh lk bu cs=(0:Int))&&!rightsB l) K trivial (fun h1=>?_) (fun h1=>?_)
 ·refine RunF.chk [6,5,4,2,1] [.code [1,1,0,1,0],.code [1,1,1]] (St.mk 49 [En.mk 6 [] (SV.c (C.i .i64 (chkE mem sh lk bu cs))),En.mk 5 [] (SV.c (C.i .i64 0)),z11_7,En.mk 2 [] (SV.c (C.p 3 0)),En.mk 1 [] (SV.c (C.h 2))] (z11_1 mem cs l sh lk bu) []) K ?_
  refine RunF.cond (vc:=[]) (x:=!decide ((190:Int)=(0:Int))) K trivial (fun h2=>?_) (fun h2=>?_)
  ·exact RunF.ret (vc:=[]) (v:=SV.tup [(false,[C.v (Value.slice none 0 0)]),(false,[C.i .i64 190])]) _ _ [0,1,2,1000003] (E:=[(evL mem sh lk bu cs l).length=0,evE mem sh lk bu cs l=(190:Int)]) K trivial ⟨rfl,rfl⟩ K V53
  ·exact absurd h2 (by decide)
 ·refine RunF.chk [6,5,4,2,1] [.code [1,1,0,1,1],.code [1,1,1]] (St.mk 49 [En.mk 6 [] (SV.c (C.i .i64 (chkE mem sh lk bu cs))),En.mk 5 [] (SV.c (C.i .i64 0)),z11_7,En.mk 2 [] (SV.c (C.p 3 0)),En.mk 1 [] (SV.c (C.h 2))] (z11_1 mem cs l sh lk bu) []) K ?_
  refine RunF.cond (vc:=[]) (x:=!decide (chkE mem sh lk bu cs=(0:Int))) K trivial (fun h2=>?_) (fun h2=>?_)
  ·exact RunF.ret (vc:=[]) (v:=SV.tup [(false,[C.v (Value.slice none 0 0)]),(false,[C.i .i64 (chkE mem sh lk bu cs)])]) _ _ [0,1,2,1000003] (E:=[(evL mem sh lk bu cs l).length=0,evE mem sh lk bu cs l=chkE mem sh lk bu cs]) K trivial ⟨rfl,rfl⟩ K V53
  ·refine RunF.chk [5,4,2,1] [.code [1,1,0,1,1],.code [1,1,1,1]] (St.mk 49 [En.mk 5 [] (SV.c (C.i .i64 0)),z11_7,En.mk 2 [] (SV.c (C.p 3 0)),En.mk 1 [] (SV.c (C.h 2))] (z11_1 mem cs l sh lk bu) []) K ?_
   refine RunF.loop (vc:=[]) (L23_0_I mem sh lk bu cs l) (L23_0_J mem sh lk bu cs l) (L23_0_m mem sh lk bu cs l) (((0:Int),[])) [0,1,2,3,1000004] (E:=[mem.length=mem.length,∀ (i:Nat),i<mem.length→i64T (mem.getD i (0:Int))=i64T (mem.getD i (0:Int)),cs.length=cs.length,∀ (i:Nat),i<cs.length→(cs.getD i default).tc=(cs.getD i default).tc,l.length=l.length,∀ (i:Nat),i<l.length→(l.getD i default).tc=(l.getD i default).tc,sh=sh,lk=lk,bu=bu,(0:Nat)=0,(0:Int)=(0:Int),(↑l.length:Int)=(↑l.length:Int),(0:Int)=(0:Int),Value.slice none 0 0=Value.slice none 0 0]) K trivial K V23 ⟨Int.le_refl _,by grind,rfl⟩ ?_
   rintro ⟨x3_0,x3_1⟩ hJ3
   dsimp only [L23_0_J] at hJ3
   refine RunF.chk [31,30,29,9,5,4,2] [.code [1,1,1,1,1,0,1,0,0],.jmp (Tx.Next (L23_0_I mem sh lk bu cs l) (L23_0_J mem sh lk bu cs l) (L23_0_m mem sh lk bu cs l) (x3_0,x3_1)),.blk 0,.code [1,1,1,1,1,1]] (z11_2 x3_0 l mem cs sh lk bu x3_1) K ?_
   refine RunF.cond (vc:=[]) (x:=decide (x3_0<(↑l.length:Int))) K trivial (fun h4=>?_) (fun h4=>?_)
   ·refine RunF.chk [31,30,29,9,5,4,2] [.code [1,1,0,1,1],.code [1,1,1,1,1,0,1,0,0,1,1],.jmp (Tx.Next (L23_0_I mem sh lk bu cs l) (L23_0_J mem sh lk bu cs l) (L23_0_m mem sh lk bu cs l) (x3_0,x3_1)),.blk 0,.code [1,1,1,1,1,1]] (z11_2 x3_0 l mem cs sh lk bu x3_1) K ?_
    refine RunF.call (vc:=[(0:Int)≤x3_0,x3_0<(↑l.length:Int),x3_0.toNat<l.length]) (args:=[SV.agg [C.h 0,C.i .i64 sh,C.i .i64 lk,C.i .i64 bu,C.h 1],SV.agg (z11_4 l x3_0),SV.c (C.i .i64 x3_0)]) e_stileref19_event (c_event_ref (mem:=mem) (sh:=sh) (lk:=lk) (bu:=bu) (cs:=cs) (d:=l.getD x3_0.toNat default) (i:=x3_0) (hs:=by first | assumption | omega | exact hw | exact hl | exact rng V91 V32 V32 | exact shr (mem:=mem) (bu:=bu) (cs:=cs) V32) (ha:=by first | assumption | omega | exact hw | exact hl | exact rng V91 V32 V32 | exact shr (mem:=mem) (bu:=bu) (cs:=cs) V32)) [0,1] (E:=[mem.length=mem.length,z11_5 mem,cs.length=cs.length,z11_6 cs,sh=sh,lk=lk,bu=bu,(l.getD x3_0.toNat default).kind=(l.getD x3_0.toNat default).kind,(l.getD x3_0.toNat default).core=(l.getD x3_0.toNat default).core,(l.getD x3_0.toNat default).pc=(l.getD x3_0.toNat default).pc,(l.getD x3_0.toNat default).addr=(l.getD x3_0.toNat default).addr,(l.getD x3_0.toNat default).word=(l.getD x3_0.toNat default).word,(l.getD x3_0.toNat default).put=(l.getD x3_0.toNat default).put,(l.getD x3_0.toNat default).own=(l.getD x3_0.toNat default).own,x3_0=x3_0]) K V59 K R K ?_
    refine RunF.chk [39,31,30,29,9,5,4,2] [.ops [1,1,1,1,1,0,1,0,0,1,1,0,0,1,0] 4,.code [1,1,1,1,1,0,1,0,0,1,1,0,0,1,1],.blk 1,.code [1,1,1,1,1,0,1,0,0,1,1,1],.jmp (Tx.Next (L23_0_I mem sh lk bu cs l) (L23_0_J mem sh lk bu cs l) (L23_0_m mem sh lk bu cs l) (x3_0,x3_1)),.blk 0,.code [1,1,1,1,1,1]] (St.mk 49 [En.mk 39 [] (SV.agg [C.i .u8 (z11_3 sh lk l x3_0).kind,C.i .i64 (z11_3 sh lk l x3_0).core,C.i .i64 (z11_3 sh lk l x3_0).thing,C.i .i64 (z11_3 sh lk l x3_0).word,C.i .i64 (z11_3 sh lk l x3_0).put,C.b (z11_3 sh lk l x3_0).own,C.i .i64 (z11_3 sh lk l x3_0).pos]),En.mk 31 [] (SV.c (C.i .i64 x3_0)),En.mk 30 [] (SV.c (C.i .i64 (↑l.length:Int))),En.mk 29 [] (SV.c (C.h 2)),En.mk 9 [] (SV.c (C.h 4)),En.mk 5 [] (SV.c (C.i .i64 0)),z11_7,En.mk 2 [] (SV.c (C.p 3 0))] [Reg.row 1 mem.length (fun i=>i64T (mem.getD i (0:Int))) none,Reg.row 2 cs.length (fun i=>(cs.getD i default).tc) none,Reg.row 7 l.length (fun i=>(l.getD i default).tc) none,Reg.box 25 [C.h 0,C.i .i64 sh,C.i .i64 lk,C.i .i64 bu,C.h 1],Reg.own 63 7 x3_1.length (fun i=>(x3_1.getD i default).tc) none,Reg.box 75 (z11_4 l x3_0)] []) K ?_
    refine RunF.cond (vc:=[]) (x:=!decide ((evOf sh lk (l.getD x3_0.toNat default) x3_0).kind=(0:Int))) K trivial (fun h5=>?_) (fun h5=>?_)
    ·exact RunF.next (I:=L23_0_I mem sh lk bu cs l) (J:=L23_0_J mem sh lk bu cs l) (m:=L23_0_m mem sh lk bu cs l) (x:=(x3_0,x3_1)) (vc:=[x3_1.length+1≤maxLen,(x3_1.length+1) * 56≤140737488355328,Fits IntKind.i64 (x3_0+(1:Int))]) ((x3_0+(1:Int),x3_1++[Ev.mk (z11_3 sh lk l x3_0).kind (z11_3 sh lk l x3_0).core (z11_3 sh lk l x3_0).thing (z11_3 sh lk l x3_0).word (z11_3 sh lk l x3_0).put (z11_3 sh lk l x3_0).own (z11_3 sh lk l x3_0).pos])) [0,1,2,3,8] (E:=[mem.length=mem.length,∀ (i:Nat),i<mem.length→i64T (mem.getD i (0:Int))=i64T (mem.getD i (0:Int)),cs.length=cs.length,∀ (i:Nat),i<cs.length→(cs.getD i default).tc=(cs.getD i default).tc,l.length=l.length,∀ (i:Nat),i<l.length→(l.getD i default).tc=(l.getD i default).tc,sh=sh,lk=lk,bu=bu,(x3_1++[Ev.mk (evOf sh lk (l.getD x3_0.toNat default) x3_0).kind (evOf sh lk (l.getD x3_0.toNat default) x3_0).core (evOf sh lk (l.getD x3_0.toNat default) x3_0).thing (evOf sh lk (l.getD x3_0.toNat default) x3_0).word (evOf sh lk (l.getD x3_0.toNat default) x3_0).put (evOf sh lk (l.getD x3_0.toNat default) x3_0).own (evOf sh lk (l.getD x3_0.toNat default) x3_0).pos]).length=x3_1.length+1,∀ (i:Nat),i<(x3_1++[Ev.mk (evOf sh lk (l.getD x3_0.toNat default) x3_0).kind (evOf sh lk (l.getD x3_0.toNat default) x3_0).core (evOf sh lk (l.getD x3_0.toNat default) x3_0).thing (evOf sh lk (l.getD x3_0.toNat default) x3_0).word (evOf sh lk (l.getD x3_0.toNat default) x3_0).put (evOf sh lk (l.getD x3_0.toNat default) x3_0).own (evOf sh lk (l.getD x3_0.toNat default) x3_0).pos]).length→i≠x3_1.length→((x3_1++[Ev.mk (evOf sh lk (l.getD x3_0.toNat default) x3_0).kind (evOf sh lk (l.getD x3_0.toNat default) x3_0).core (evOf sh lk (l.getD x3_0.toNat default) x3_0).thing (evOf sh lk (l.getD x3_0.toNat default) x3_0).word (evOf sh lk (l.getD x3_0.toNat default) x3_0).put (evOf sh lk (l.getD x3_0.toNat default) x3_0).own (evOf sh lk (l.getD x3_0.toNat default) x3_0).pos]).getD i default).tc=(x3_1.getD i default).tc,((x3_1++[Ev.mk (evOf sh lk (l.getD x3_0.toNat default) x3_0).kind (evOf sh lk (l.getD x3_0.toNat default) x3_0).core (evOf sh lk (l.getD x3_0.toNat default) x3_0).thing (evOf sh lk (l.getD x3_0.toNat default) x3_0).word (evOf sh lk (l.getD x3_0.toNat default) x3_0).put (evOf sh lk (l.getD x3_0.toNat default) x3_0).own (evOf sh lk (l.getD x3_0.toNat default) x3_0).pos]).getD x3_1.length default).tc 0=TC.val (Value.int IntKind.u8 (evOf sh lk (l.getD x3_0.toNat default) x3_0).kind),((x3_1++[Ev.mk (evOf sh lk (l.getD x3_0.toNat default) x3_0).kind (evOf sh lk (l.getD x3_0.toNat default) x3_0).core (evOf sh lk (l.getD x3_0.toNat default) x3_0).thing (evOf sh lk (l.getD x3_0.toNat default) x3_0).word (evOf sh lk (l.getD x3_0.toNat default) x3_0).put (evOf sh lk (l.getD x3_0.toNat default) x3_0).own (evOf sh lk (l.getD x3_0.toNat default) x3_0).pos]).getD x3_1.length default).tc 1=TC.val (Value.int IntKind.i64 (evOf sh lk (l.getD x3_0.toNat default) x3_0).core),((x3_1++[Ev.mk (evOf sh lk (l.getD x3_0.toNat default) x3_0).kind (evOf sh lk (l.getD x3_0.toNat default) x3_0).core (evOf sh lk (l.getD x3_0.toNat default) x3_0).thing (evOf sh lk (l.getD x3_0.toNat default) x3_0).word (evOf sh lk (l.getD x3_0.toNat default) x3_0).put (evOf sh lk (l.getD x3_0.toNat default) x3_0).own (evOf sh lk (l.getD x3_0.toNat default) x3_0).pos]).getD x3_1.length default).tc 2=TC.val (Value.int IntKind.i64 (evOf sh lk (l.getD x3_0.toNat default) x3_0).thing),((x3_1++[Ev.mk (evOf sh lk (l.getD x3_0.toNat default) x3_0).kind (evOf sh lk (l.getD x3_0.toNat default) x3_0).core (evOf sh lk (l.getD x3_0.toNat default) x3_0).thing (evOf sh lk (l.getD x3_0.toNat default) x3_0).word (evOf sh lk (l.getD x3_0.toNat default) x3_0).put (evOf sh lk (l.getD x3_0.toNat default) x3_0).own (evOf sh lk (l.getD x3_0.toNat default) x3_0).pos]).getD x3_1.length default).tc 3=TC.val (Value.int IntKind.i64 (evOf sh lk (l.getD x3_0.toNat default) x3_0).word),((x3_1++[Ev.mk (evOf sh lk (l.getD x3_0.toNat default) x3_0).kind (evOf sh lk (l.getD x3_0.toNat default) x3_0).core (evOf sh lk (l.getD x3_0.toNat default) x3_0).thing (evOf sh lk (l.getD x3_0.toNat default) x3_0).word (evOf sh lk (l.getD x3_0.toNat default) x3_0).put (evOf sh lk (l.getD x3_0.toNat default) x3_0).own (evOf sh lk (l.getD x3_0.toNat default) x3_0).pos]).getD x3_1.length default).tc 4=TC.val (Value.int IntKind.i64 (evOf sh lk (l.getD x3_0.toNat default) x3_0).put),((x3_1++[Ev.mk (evOf sh lk (l.getD x3_0.toNat default) x3_0).kind (evOf sh lk (l.getD x3_0.toNat default) x3_0).core (evOf sh lk (l.getD x3_0.toNat default) x3_0).thing (evOf sh lk (l.getD x3_0.toNat default) x3_0).word (evOf sh lk (l.getD x3_0.toNat default) x3_0).put (evOf sh lk (l.getD x3_0.toNat default) x3_0).own (evOf sh lk (l.getD x3_0.toNat default) x3_0).pos]).getD x3_1.length default).tc 5=TC.val (Value.bool (evOf sh lk (l.getD x3_0.toNat default) x3_0).own),((x3_1++[Ev.mk (evOf sh lk (l.getD x3_0.toNat default) x3_0).kind (evOf sh lk (l.getD x3_0.toNat default) x3_0).core (evOf sh lk (l.getD x3_0.toNat default) x3_0).thing (evOf sh lk (l.getD x3_0.toNat default) x3_0).word (evOf sh lk (l.getD x3_0.toNat default) x3_0).put (evOf sh lk (l.getD x3_0.toNat default) x3_0).own (evOf sh lk (l.getD x3_0.toNat default) x3_0).pos]).getD x3_1.length default).tc 6=TC.val (Value.int IntKind.i64 (evOf sh lk (l.getD x3_0.toNat default) x3_0).pos),x3_0+(1:Int)=x3_0+(1:Int),(↑l.length:Int)=(↑l.length:Int),(0:Int)=(0:Int),Value.slice none 0 0=Value.slice none 0 0]) K V59 K V23 V92 V55
    ·exact RunF.next (I:=L23_0_I mem sh lk bu cs l) (J:=L23_0_J mem sh lk bu cs l) (m:=L23_0_m mem sh lk bu cs l) (x:=(x3_0,x3_1)) (vc:=[Fits IntKind.i64 (x3_0+(1:Int))]) ((x3_0+(1:Int),x3_1)) [0,1,2,3,4] (E:=[mem.length=mem.length,z11_5 mem,cs.length=cs.length,z11_6 cs,l.length=l.length,∀ (i:Nat),i<l.length→(l.getD i default).tc=(l.getD i default).tc,sh=sh,lk=lk,bu=bu,x3_1.length=x3_1.length,∀ (i:Nat),i<x3_1.length→(x3_1.getD i default).tc=(x3_1.getD i default).tc,x3_0+(1:Int)=x3_0+(1:Int),(↑l.length:Int)=(↑l.length:Int),(0:Int)=(0:Int),Value.slice none 0 0=Value.slice none 0 0]) K V59 K R V92 V55
   ·exact RunF.ret (vc:=[]) (v:=SV.tup [(false,[C.h 4]),(false,[C.i .i64 0])]) _ _ [0,1,2,4] (E:=[(evL mem sh lk bu cs l).length=x3_1.length,∀ (i:Nat),i<(evL mem sh lk bu cs l).length→((evL mem sh lk bu cs l).getD i default).tc=(x3_1.getD i default).tc,evE mem sh lk bu cs l=(0:Int)]) K trivial ⟨rfl,rfl⟩ K V53
end Go.Proofs.Ytlblobbklioofaa
end
noncomputable section
namespace Go.Proofs.Ytlblobbklioofaa
open Go Go.Tx
theorem c_always (k:Int):Ctr Try.prog 62 [] [.c (.i .u8 k)]
 (Det (.c (C.fn 75 [0])) [Reg.box 61 [.i .u8 k]]):=by
 refine Ctr.intro [] Try.func62 K K ?_
 exact RunF.ret (vc:=[]) (v:=SV.c (C.fn 75 [0])) _ _ [0] (E:=[k=k]) K trivial ⟨rfl,rfl⟩ K (rfl)
theorem c_on (k:Int):Ctr Try.prog 63 [] [.c (.i .u8 k)]
 (Det (.c (C.fn 76 [0])) [Reg.box 61 [.i .u8 k]]):=by
 refine Ctr.intro [] Try.func63 K K ?_
 exact RunF.ret (vc:=[]) (v:=SV.c (C.fn 76 [0])) _ _ [0] (E:=[k=k]) K trivial ⟨rfl,rfl⟩ K (rfl)
theorem c_always1 (w k:Int) (d:Did):Ctr Try.prog 75 [.ro [.i .u8 k]] [.c (.i .i64 w),.agg d.cs,.c (.p 0 0)]
 (Det (.c (.i .u8 k)) [.dead]):=by
 refine Ctr.intro [] Try.func75 K K ?_
 exact RunF.ret (vc:=[]) (v:=SV.c (C.i .u8 k)) _ _ [0] (E:=[k=k]) K trivial ⟨rfl,rfl⟩ K (rfl)
def onK (w k:Int):Int:=if w=1 then k else 0
def drK (w:Int) (d:Did):Int:=if w=2&&decide (d.word=0) then 5 else onK w 2
def swK (w:Int) (d:Did):Int:=if w=2&&decide (d.word=0)&&!decide (d.put=0) then 4 else onK w 3
theorem c_on1 (w k:Int) (d:Did):Ctr Try.prog 76 [.ro [.i .u8 k]] [.c (.i .i64 w),.agg d.cs,.c (.p 0 0)]
 (Det (.c (.i .u8 (onK w k))) [.dead]):=by
 refine Ctr.intro [] Try.func76 K K ?_
 refine RunF.cond (vc:=[]) (x:=decide (w=(1:Int))) K trivial (fun h1=>?_) (fun h1=>?_)
 ·exact RunF.ret (vc:=[]) (v:=SV.c (C.i .u8 k)) _ _ [0] (E:=[onK w k=k]) K trivial ⟨rfl,rfl⟩ K (by simp only [Conj,onK] at *<;>grind)
 ·exact RunF.ret (vc:=[]) (v:=SV.c (C.i .u8 0)) _ _ [0] (E:=[onK w k=(0:Int)]) K trivial ⟨rfl,rfl⟩ K (by simp only [Conj,onK] at *<;>grind)
abbrev z12_34 (d:Did):=[C.i .u8 d.kind,C.i .i64 d.core,C.i .i64 d.pc,C.i .i64 d.addr,C.i .i64 d.word,C.i .i64 d.put,C.b d.own]
theorem c_swapped (w:Int) (d:Did):Ctr Try.prog 64 [] [.c (.i .i64 w),.agg d.cs]
 (Det (.c (.i .u8 (swK w d))) []):=by
 refine Ctr.intro [] Try.func64 K K ?_
 refine RunF.cond (vc:=[]) (x:=decide (w=(2:Int))&&decide (d.word=(0:Int))&&!decide (d.put=(0:Int))) K trivial (fun h1=>?_) (fun h1=>?_)
 ·exact RunF.ret (vc:=[]) (v:=SV.c (C.i .u8 4)) _ _ [] (E:=[swK w d=(4:Int)]) K trivial ⟨rfl,rfl⟩ K (by simp only [Conj,swK,onK] at *<;>grind)
 ·refine RunF.chk [4,3,0] [.code [1,0,1,1],.code [1,1]] (St.mk 21 [En.mk 4 [] (SV.c (C.i .u8 0)),En.mk 3 [] (SV.c (C.p 0 0)),En.mk 0 [] (SV.c (C.i .i64 w))] [Reg.box 75 (z12_34 d)] []) K ?_
  refine RunF.call (vc:=[]) (args:=[SV.c (C.i .u8 3)]) e_trace_on (c_on (k:=(3:Int))) [] (E:=[(3:Int)=(3:Int)]) K trivial K (rfl) K ?_
  refine RunF.chk [17,19,18,4,3,0] [.mix [1,1,0] [true,true,true,false,false] 2,.code [1,0,1,0,1]] (St.mk 21 [En.mk 17 [] (SV.c (C.fn 76 [1])),En.mk 19 [] (SV.agg (z12_34 d)),En.mk 18 [] (SV.c (C.i .i64 w)),En.mk 4 [] (SV.c (C.i .u8 0)),En.mk 3 [] (SV.c (C.p 0 0)),En.mk 0 [] (SV.c (C.i .i64 w))] [Reg.box 75 (z12_34 d),Reg.box 61 [C.i .u8 3]] []) K ?_
  refine RunF.call (vc:=[]) (args:=[SV.c (C.i .i64 w),SV.agg (z12_34 d),SV.c (C.p 1 0)]) e_trace_on_1 (c_on1 (w:=w) (k:=(3:Int)) (d:=d)) [1] (E:=[(3:Int)=(3:Int),w=w,d.kind=d.kind,d.core=d.core,d.pc=d.pc,d.addr=d.addr,d.word=d.word,d.put=d.put,d.own=d.own]) K trivial K R K ?_
  exact RunF.ret (vc:=[]) (v:=SV.c (C.i .u8 (onK w (3:Int)))) _ _ [] (E:=[swK w d=onK w (3:Int)]) K trivial ⟨rfl,rfl⟩ K (by simp only [Conj,swK,onK] at *<;>grind)
theorem c_drained (w:Int) (d:Did):Ctr Try.prog 65 [] [.c (.i .i64 w),.agg d.cs]
 (Det (.c (.i .u8 (drK w d))) []):=by
 refine Ctr.intro [] Try.func65 K K ?_
 refine RunF.cond (vc:=[]) (x:=decide (w=(2:Int))&&decide (d.word=(0:Int))) K trivial (fun h1=>?_) (fun h1=>?_)
 ·exact RunF.ret (vc:=[]) (v:=SV.c (C.i .u8 5)) _ _ [] (E:=[drK w d=(5:Int)]) K trivial ⟨rfl,rfl⟩ K (by simp only [Conj,drK,onK] at *<;>grind)
 ·refine RunF.chk [4,3,0] [.code [1,0,1,1],.code [1,1]] (St.mk 16 [En.mk 4 [] (SV.c (C.i .u8 0)),En.mk 3 [] (SV.c (C.p 0 0)),En.mk 0 [] (SV.c (C.i .i64 w))] [Reg.box 75 (z12_34 d)] []) K ?_
  refine RunF.call (vc:=[]) (args:=[SV.c (C.i .u8 2)]) e_trace_on (c_on (k:=(2:Int))) [] (E:=[(2:Int)=(2:Int)]) K trivial K (rfl) K ?_
  refine RunF.chk [12,14,13,4,3,0] [.mix [1,1,0] [true,true,true,false,false] 2,.code [1,0,1,0,1]] (St.mk 16 [En.mk 12 [] (SV.c (C.fn 76 [1])),En.mk 14 [] (SV.agg (z12_34 d)),En.mk 13 [] (SV.c (C.i .i64 w)),En.mk 4 [] (SV.c (C.i .u8 0)),En.mk 3 [] (SV.c (C.p 0 0)),En.mk 0 [] (SV.c (C.i .i64 w))] [Reg.box 75 (z12_34 d),Reg.box 61 [C.i .u8 2]] []) K ?_
  refine RunF.call (vc:=[]) (args:=[SV.c (C.i .i64 w),SV.agg (z12_34 d),SV.c (C.p 1 0)]) e_trace_on_1 (c_on1 (w:=w) (k:=(2:Int)) (d:=d)) [1] (E:=[(2:Int)=(2:Int),w=w,d.kind=d.kind,d.core=d.core,d.pc=d.pc,d.addr=d.addr,d.word=d.word,d.put=d.put,d.own=d.own]) K trivial K R K ?_
  exact RunF.ret (vc:=[]) (v:=SV.c (C.i .u8 (onK w (2:Int)))) _ _ [] (E:=[drK w d=onK w (2:Int)]) K trivial ⟨rfl,rfl⟩ K (by simp only [Conj,drK,onK] at *<;>grind)
abbrev z12_38:=(ByteArray.mk #[(99:UInt8),(111:UInt8),(109:UInt8),(112:UInt8),(117:UInt8),(116:UInt8),(101:UInt8)])
abbrev z12_9:=Value.string z12_38=Value.string z12_38
abbrev z12_45:=C.v (Value.string (ByteArray.mk #[]))
abbrev z12_12:=Reg.box 111 [z12_45,C.t false,C.t false,C.t false,C.t false,C.v Value.nilFunc,z12_45,C.t false,C.t false,C.t false,C.t false,C.v Value.nilFunc,z12_45,C.t false,C.t false,C.t false,C.t false,C.v Value.nilFunc,z12_45,C.t false,C.t false,C.t false,C.t false,C.v Value.nilFunc,z12_45,C.t false,C.t false,C.t false,C.t false,C.v Value.nilFunc,z12_45,C.t false,C.t false,C.t false,C.t false,C.v Value.nilFunc,z12_45,C.t false,C.t false,C.t false,C.t false,C.v Value.nilFunc,z12_45,C.t false,C.t false,C.t false,C.t false,C.v Value.nilFunc,z12_45,C.t false,C.t false,C.t false,C.t false,C.v Value.nilFunc]
abbrev z12_44:=(ByteArray.mk #[(102:UInt8),(101:UInt8),(110:UInt8),(99:UInt8),(101:UInt8)])
abbrev z12_13:=Value.string z12_44=Value.string z12_44
abbrev z12_57:=(ByteArray.mk #[(115:UInt8),(119:UInt8),(97:UInt8),(112:UInt8)])
abbrev z12_14:=[C.v (Value.string z12_57),C.t true,C.t true,C.t true,C.t false,C.fn 64 []]
abbrev z12_50:=(ByteArray.mk #[(112:UInt8),(114:UInt8),(105:UInt8),(110:UInt8),(116:UInt8)])
abbrev z12_18:=Value.string z12_50=Value.string z12_50
abbrev z12_58:=(ByteArray.mk #[(104:UInt8),(97:UInt8),(108:UInt8),(116:UInt8)])
abbrev z12_20:=Value.string z12_58=Value.string z12_58
abbrev z12_43:=(ByteArray.mk #[(115:UInt8),(116:UInt8),(111:UInt8),(114:UInt8),(101:UInt8)])
abbrev z12_22:=Value.string z12_43=Value.string z12_43
abbrev z12_51:=(ByteArray.mk #[(100:UInt8),(114:UInt8),(97:UInt8),(105:UInt8),(110:UInt8)])
abbrev z12_23:=Value.string z12_51=Value.string z12_51
abbrev z12_28:=Value.string z12_57=Value.string z12_57
abbrev z12_30:=Value.string (ByteArray.mk #[])=Value.string (ByteArray.mk #[])
abbrev z12_48:=(ByteArray.mk #[(108:UInt8),(111:UInt8),(97:UInt8),(100:UInt8)])
abbrev z12_31:=Value.string z12_48=Value.string z12_48
abbrev z12_41:=Reg.box 61 [C.i .u8 0]
abbrev z12_62:=En.mk 4 [] (SV.agg [C.v (Value.string z12_38),C.t false,C.t false,C.t false,C.t false,C.fn 75 [1]])
theorem c_formsT :Ctr Try.prog 51 [] []
 (Det (.agg ([.v (.string { data:=#[] }),.t false,.t false,.t false,.t false,.v Value.nilFunc]++[.v (.string { data:=#[99,111,109,112,117,116,101] }),.t false,.t false,.t false,.t false,C.fn 75 [0]]++[.v (.string { data:=#[108,111,97,100] }),.t true,.t true,.t false,.t true,C.fn 76 [1]]++[.v (.string { data:=#[115,116,111,114,101] }),.t true,.t true,.t false,.t false,C.fn 75 [0]]++[.v (.string { data:=#[115,119,97,112] }),.t true,.t true,.t true,.t false,C.fn 64 []]++[.v (.string { data:=#[102,101,110,99,101] }),.t false,.t false,.t false,.t false,C.fn 75 [0]]++[.v (.string { data:=#[112,114,105,110,116] }),.t false,.t true,.t false,.t false,C.fn 75 [2]]++[.v (.string { data:=#[104,97,108,116] }),.t false,.t false,.t false,.t false,C.fn 75 [3]]++[.v (.string { data:=#[100,114,97,105,110] }),.t true,.t true,.t false,.t false,C.fn 65 []])) [Reg.box 61 [.i .u8 0],Reg.box 61 [.i .u8 1],Reg.box 61 [.i .u8 6],Reg.box 61 [.i .u8 7]]):=by
 refine Ctr.intro [] Try.func51 K K ?_
 refine RunF.call (vc:=[]) (args:=[SV.c (C.i .u8 0)]) e_trace_always (c_always (k:=(0:Int))) [] (E:=[(0:Int)=(0:Int)]) K trivial K (rfl) K ?_
 refine RunF.chk [2,0] [.ops [1,0] 1,.code [1,1]] (St.mk 18 [En.mk 2 [] (SV.c (C.fn 75 [1])),En.mk 0 [] (SV.c (C.p 0 0))] [z12_12,z12_41] []) K ?_
 refine RunF.call (vc:=[]) (args:=[SV.c (C.i .u8 1)]) e_trace_on (c_on (k:=(1:Int))) [] (E:=[(1:Int)=(1:Int)]) K trivial K (rfl) K ?_
 refine RunF.chk [5,4,1,0] [.ops [1,1,0] 3,.code [1,1,1]] (St.mk 18 [En.mk 5 [] (SV.c (C.fn 76 [2])),z12_62,En.mk 1 [] (SV.c (C.fn 75 [1])),En.mk 0 [] (SV.c (C.p 0 0))] [z12_12,z12_41,Reg.box 61 [C.i .u8 1]] []) K ?_
 refine RunF.call (vc:=[]) (args:=[SV.c (C.i .u8 6)]) e_trace_always (c_always (k:=(6:Int))) [] (E:=[(6:Int)=(6:Int)]) K trivial K (rfl) K ?_
 refine RunF.chk [12,11,9,8,6,4,0] [.ops [1,1,0] 10,.code [1,1,1]] (St.mk 18 [En.mk 12 [] (SV.c (C.fn 75 [3])),En.mk 11 [] (SV.agg [C.v (Value.string z12_44),C.t false,C.t false,C.t false,C.t false,C.fn 75 [1]]),En.mk 9 [] (SV.agg z12_14),En.mk 8 [] (SV.agg [C.v (Value.string z12_43),C.t true,C.t true,C.t false,C.t false,C.fn 75 [1]]),En.mk 6 [] (SV.agg [C.v (Value.string z12_48),C.t true,C.t true,C.t false,C.t true,C.fn 76 [2]]),z12_62,En.mk 0 [] (SV.c (C.p 0 0))] [z12_12,z12_41,Reg.box 61 [C.i .u8 1],Reg.box 61 [C.i .u8 6]] []) K ?_
 refine RunF.call (vc:=[]) (args:=[SV.c (C.i .u8 7)]) e_trace_always (c_always (k:=(7:Int))) [] (E:=[(7:Int)=(7:Int)]) K trivial K (rfl) K ?_
 exact RunF.ret (vc:=[]) (v:=SV.agg [z12_45,C.t false,C.t false,C.t false,C.t false,C.v Value.nilFunc,C.v (Value.string z12_38),C.t false,C.t false,C.t false,C.t false,C.fn 75 [1],C.v (Value.string z12_48),C.t true,C.t true,C.t false,C.t true,C.fn 76 [2],C.v (Value.string z12_43),C.t true,C.t true,C.t false,C.t false,C.fn 75 [1],C.v (Value.string z12_57),C.t true,C.t true,C.t true,C.t false,C.fn 64 [],C.v (Value.string z12_44),C.t false,C.t false,C.t false,C.t false,C.fn 75 [1],C.v (Value.string z12_50),C.t false,C.t true,C.t false,C.t false,C.fn 75 [3],C.v (Value.string z12_58),C.t false,C.t false,C.t false,C.t false,C.fn 75 [4],C.v (Value.string z12_51),C.t true,C.t true,C.t false,C.t false,C.fn 65 []]) _ _ [1,2,3,4] (E:=[(0:Int)=(0:Int),(1:Int)=(1:Int),(6:Int)=(6:Int),(7:Int)=(7:Int),z12_30,Value.nilFunc=Value.nilFunc,z12_9,z12_31,z12_22,z12_28,z12_13,z12_18,z12_20,z12_23]) K trivial ⟨rfl,rfl⟩ K R
abbrev z12_1 (d:Did):=(SV.c (C.b (decide ((0:Int)≤d.core)&&decide (d.core<(8:Int))&&decide ((0:Int)≤d.pc)&&decide (d.pc<(16384:Int))&&decide ((0:Int)≤d.addr)&&decide (d.addr<(4096:Int)))))
abbrev z12_2:=Reg.box 107 [z12_45,C.t false,C.t false,C.t false,C.t false,C.v Value.nilFunc]
abbrev z12_3:=[C.v (Value.string z12_38),C.t false,C.t false,C.t false,C.t false,C.fn 75 [2]]
abbrev z12_5:=[En.mk 4 [] (SV.c (C.p 6 0)),En.mk 3 [] (SV.c (C.t false)),En.mk 2 [] (SV.c (C.p 1 0)),En.mk 1 [] (SV.c (C.p 0 0))]
abbrev z12_11:=[true,true,true,true,false,false,false,false,false,false,false,false,false,false,false,false,false,false,false,false,false,false,false,false,false,false,false,false,false,false,false,false,false,false,false,false,false,false,false,false]
abbrev z12_63 (d:Did):=Reg.box 75 [C.i .u8 1,C.i .i64 d.core,C.i .i64 d.pc,C.i .i64 d.addr,C.i .i64 d.word,C.i .i64 d.put,C.b d.own]
abbrev z12_15 (d:Did):=[z12_63 d,z12_2,z12_41,Reg.dead,Reg.dead,Reg.dead,Reg.box 107 z12_3]
abbrev z12_24:=[true,true,true,true,true,true,true,true,true,true,true,true,true,true,true,true,true,true,true,true,true,true,true,true,true,true,true,true,true,true,true,false,false,false,false,false,false,false,false,false]
abbrev z12_26 (d:Did):=(SV.c (C.b (decide (d.addr=(0:Int)))))
abbrev z12_29 (d:Did):=[En.mk 3 [] (SV.c (C.b !d.own)),En.mk 2 [] (SV.c (C.p 1 0))]
abbrev z12_33:=[true,true,true,true,true,true,true,true,true,true,true,true,true,false,false,false,false,false,false,false,false,false,false,false,false,false,false,false,false,false,false,false,false,false,false,false,false,false,false,false]
abbrev z12_35:=[77,76,75,74,73,72,71,70,69,68,67,66,65,64,63,62,61,60,59,58,57,56,55,54,53,52,51,50,49,48,47,5,4,3,2,1]
abbrev z12_37:=[En.mk 3 [] (SV.c (C.t false)),En.mk 2 [] (SV.c (C.p 1 0)),En.mk 1 [] (SV.c (C.p 0 0))]
abbrev z12_39 (d:Did):=(SV.c (C.b (decide (d.word=(0:Int)))))
abbrev z12_40 (d:Did):=(SV.c (C.b (decide (d.put=(0:Int)))))
abbrev z12_42:=[true,true,true,true,true,true,true,true,true,true,true,true,true,true,true,true,true,true,true,true,true,true,false,false,false,false,false,false,false,false,false,false,false,false,false,false,false,false,false,false]
abbrev z12_49 (d:Did):=En.mk 54 [] (SV.c (C.i .i64 d.addr))
abbrev z12_54 (d:Did):=St.mk 85 (z12_29 d) [Reg.dead,Reg.box 107 z12_3,z12_41,Reg.dead,Reg.dead,Reg.dead,Reg.dead] []
abbrev z12_59:=[68,67,66,65,64,63,62,61,60,59,58,57,56,55,54,53,52,51,50,49,48,47,5,4,3,2,1]
abbrev z12_60:=[59,58,57,56,55,54,53,52,51,50,49,48,47,5,4,3,2,1]
abbrev z12_61 (d:Did):=En.mk 63 [] (SV.c (C.i .i64 d.word))
theorem c_formOf1 (d:Did) (hk:d.kind=1):Ctr Try.prog 49 [] [.agg [.i .u8 1,.i .i64 d.core,.i .i64 d.pc,.i .i64 d.addr,.i .i64 d.word,.i .i64 d.put,.b d.own]]
 (Det (.tup [(true,[.v (.string { data:=#[99,111,109,112,117,116,101] }),.t false,.t false,.t false,.t false,C.fn 75 [0]]),(false,[.b (didB d)])]) [.dead,.dead,.dead,.dead]):=by
 refine Ctr.intro [] Try.func49 K K ?_
 refine RunF.cond (vc:=[]) (x:=decide ((1:Int)≤(0:Int))||decide ((9:Int)≤(1:Int))) K trivial (fun h1=>?_) (fun h1=>?_)
 ·exact absurd h1 (by decide)
 ·refine RunF.chk [3,2,1] [.code [1,0,1,1],.code [1,1]] (St.mk 85 z12_37 [z12_63 d,z12_2] []) K ?_
  refine RunF.any (n:=2) (vc:=[]) (fun _:Unit=>St.mk 85 z12_5 (z12_15 d) []) (fun _=>True) K trivial ?_ ?_
  ·refine ⟨⟨trivial,?_⟩,?_⟩
   ·refine RunF.call (vc:=[]) (args:=[]) e_trace_forms (c_formsT) [] (E:=[]) K trivial K trivial K ?_
    exact RunF.to (I:=fun x=>St.mk 85 z12_5 (z12_15 d) []) (J:=fun x=>True) (vc:=[(0:Int)≤(1:Int),(1:Int)<(9:Int)]) () [0,1,2,3,4,5,6] (E:=[(1:Int)=(1:Int),d.core=d.core,d.pc=d.pc,d.addr=d.addr,d.word=d.word,d.put=d.put,d.own=d.own,z12_30,Value.nilFunc=Value.nilFunc,(0:Int)=(0:Int),z12_9]) K V0 K R trivial
   ·refine RunF.call (vc:=[]) (args:=[]) e_trace_forms (c_formsT) [] (E:=[]) K trivial K trivial K ?_
    exact RunF.to (I:=fun x=>St.mk 85 z12_5 (z12_15 d) []) (J:=fun x=>True) (vc:=[(0:Int)≤(1:Int),(1:Int)<(9:Int)]) () [0,1,3,1000003,4,5,2] (E:=[(1:Int)=(1:Int),d.core=d.core,d.pc=d.pc,d.addr=d.addr,d.word=d.word,d.put=d.put,d.own=d.own,z12_30,Value.nilFunc=Value.nilFunc,(0:Int)=(0:Int),z12_9]) K V0 K R trivial
  ·rintro ⟨⟩ _
   refine RunF.chk [4,3,2,1] [.code [1,1,1]] (St.mk 85 z12_5 (z12_15 d) []) K ?_
   refine RunF.cond (vc:=[]) (x:=decide ((0:Int)≤d.core)&&decide (d.core<(8:Int))&&decide ((0:Int)≤d.pc)&&decide (d.pc<(16384:Int))&&decide ((0:Int)≤d.addr)&&decide (d.addr<(4096:Int))) K trivial (fun h2=>?_) (fun h2=>?_)
   ·refine RunF.chk [50,49,48,47,5,4,3,2,1] [.mixAt [1,1,1,1,0] z12_11 35 4,.code [1,0,1,0,1]] (St.mk 85 [En.mk 50 [] (SV.c (C.p 6 1)),En.mk 49 [] (SV.c (C.t true)),En.mk 48 [] (z12_1 d),En.mk 47 [] (SV.agg z12_3),En.mk 5 [] (z12_1 d),En.mk 4 [] (SV.c (C.p 6 0)),En.mk 3 [] (SV.c (C.t false)),En.mk 2 [] (SV.c (C.p 1 0)),En.mk 1 [] (SV.c (C.p 0 0))] (z12_15 d) []) K ?_
    refine RunF.cond (vc:=[]) (x:=decide (d.addr=(0:Int))) K trivial (fun h3=>?_) (fun h3=>?_)
    ·refine RunF.chk z12_60 [.mixAt [1,1,1,1,0] z12_33 26 13,.code [1,0,1,0,1]] (St.mk 85 [En.mk 59 [] (SV.c (C.p 6 2)),En.mk 58 [] (SV.c (C.t true)),En.mk 57 [] (z12_26 d),En.mk 56 [] (z12_26 d),En.mk 55 [] (z12_26 d),z12_49 d,En.mk 53 [] (SV.c (C.p 0 3)),En.mk 52 [] (SV.c (C.t false)),En.mk 51 [] (SV.c (C.t false)),En.mk 50 [] (SV.c (C.p 6 1)),En.mk 49 [] (SV.c (C.t true)),En.mk 48 [] (z12_1 d),En.mk 47 [] (SV.agg z12_3),En.mk 5 [] (z12_1 d),En.mk 4 [] (SV.c (C.p 6 0)),En.mk 3 [] (SV.c (C.t false)),En.mk 2 [] (SV.c (C.p 1 0)),En.mk 1 [] (SV.c (C.p 0 0))] (z12_15 d) []) K ?_
     refine RunF.cond (vc:=[]) (x:=decide (d.word=(0:Int))) K trivial (fun h4=>?_) (fun h4=>?_)
     ·refine RunF.chk z12_59 [.mixAt [1,1,1,1,0] z12_42 17 22,.code [1,0,1,0,1]] (St.mk 85 [En.mk 68 [] (SV.c (C.p 6 3)),En.mk 67 [] (SV.c (C.t true)),En.mk 66 [] (z12_39 d),En.mk 65 [] (z12_39 d),En.mk 64 [] (z12_39 d),z12_61 d,En.mk 62 [] (SV.c (C.p 0 4)),En.mk 61 [] (SV.c (C.t false)),En.mk 60 [] (SV.c (C.t false)),En.mk 59 [] (SV.c (C.p 6 2)),En.mk 58 [] (SV.c (C.t true)),En.mk 57 [] (z12_26 d),En.mk 56 [] (z12_26 d),En.mk 55 [] (z12_26 d),z12_49 d,En.mk 53 [] (SV.c (C.p 0 3)),En.mk 52 [] (SV.c (C.t false)),En.mk 51 [] (SV.c (C.t false)),En.mk 50 [] (SV.c (C.p 6 1)),En.mk 49 [] (SV.c (C.t true)),En.mk 48 [] (z12_1 d),En.mk 47 [] (SV.agg z12_3),En.mk 5 [] (z12_1 d),En.mk 4 [] (SV.c (C.p 6 0)),En.mk 3 [] (SV.c (C.t false)),En.mk 2 [] (SV.c (C.p 1 0)),En.mk 1 [] (SV.c (C.p 0 0))] (z12_15 d) []) K ?_
      refine RunF.cond (vc:=[]) (x:=decide (d.put=(0:Int))) K trivial (fun h5=>?_) (fun h5=>?_)
      ·refine RunF.chk z12_35 [.mixAt [1,1,1,1,0] z12_24 8 31,.code [1,0,1,0,1]] (St.mk 85 [En.mk 77 [] (SV.c (C.p 6 4)),En.mk 76 [] (SV.c (C.t true)),En.mk 75 [] (z12_40 d),En.mk 74 [] (z12_40 d),En.mk 73 [] (z12_40 d),En.mk 72 [] (SV.c (C.i .i64 d.put)),En.mk 71 [] (SV.c (C.p 0 5)),En.mk 70 [] (SV.c (C.t false)),En.mk 69 [] (SV.c (C.t false)),En.mk 68 [] (SV.c (C.p 6 3)),En.mk 67 [] (SV.c (C.t true)),En.mk 66 [] (z12_39 d),En.mk 65 [] (z12_39 d),En.mk 64 [] (z12_39 d),z12_61 d,En.mk 62 [] (SV.c (C.p 0 4)),En.mk 61 [] (SV.c (C.t false)),En.mk 60 [] (SV.c (C.t false)),En.mk 59 [] (SV.c (C.p 6 2)),En.mk 58 [] (SV.c (C.t true)),En.mk 57 [] (z12_26 d),En.mk 56 [] (z12_26 d),En.mk 55 [] (z12_26 d),z12_49 d,En.mk 53 [] (SV.c (C.p 0 3)),En.mk 52 [] (SV.c (C.t false)),En.mk 51 [] (SV.c (C.t false)),En.mk 50 [] (SV.c (C.p 6 1)),En.mk 49 [] (SV.c (C.t true)),En.mk 48 [] (z12_1 d),En.mk 47 [] (SV.agg z12_3),En.mk 5 [] (z12_1 d),En.mk 4 [] (SV.c (C.p 6 0)),En.mk 3 [] (SV.c (C.t false)),En.mk 2 [] (SV.c (C.p 1 0)),En.mk 1 [] (SV.c (C.p 0 0))] (z12_15 d) []) K ?_
       refine RunF.any (n:=2) (vc:=[]) (fun _:Unit=>z12_54 d) (fun _=>True) K trivial ?_ ?_
       ·refine ⟨⟨trivial,?_⟩,?_⟩
        ·exact RunF.to (I:=fun x=>z12_54 d) (J:=fun x=>True) (vc:=[]) () [0,1,2,3,4,5,6] (E:=[z12_9,(0:Int)=(0:Int),(!d.own)=!d.own]) K trivial K R trivial
        ·exact RunF.to (I:=fun x=>z12_54 d) (J:=fun x=>True) (vc:=[]) () [0,1,2,3,4,5,6] (E:=[z12_9,(0:Int)=(0:Int),(!d.own)=!d.own]) K trivial K R trivial
       ·rintro ⟨⟩ _
        exact RunF.ret (vc:=[]) (v:=SV.tup [(true,z12_3),(false,[C.b !d.own])]) _ _ [2,1,1000002,3] (E:=[z12_9,didB d=!d.own]) K trivial ⟨rfl,rfl⟩ K V2
      ·exact RunF.ret (vc:=[]) (v:=SV.tup [(true,z12_3),(false,[C.t false])]) _ _ [2,1,1000002,3] (E:=[z12_9,didB d=false]) K trivial ⟨rfl,rfl⟩ K V2
     ·exact RunF.ret (vc:=[]) (v:=SV.tup [(true,z12_3),(false,[C.t false])]) _ _ [2,1,1000002,3] (E:=[z12_9,didB d=false]) K trivial ⟨rfl,rfl⟩ K V2
    ·exact RunF.ret (vc:=[]) (v:=SV.tup [(true,z12_3),(false,[C.t false])]) _ _ [2,1,1000002,3] (E:=[z12_9,didB d=false]) K trivial ⟨rfl,rfl⟩ K V2
   ·exact RunF.ret (vc:=[]) (v:=SV.tup [(true,z12_3),(false,[C.t false])]) _ _ [2,1,1000002,3] (E:=[z12_9,didB d=false]) K trivial ⟨rfl,rfl⟩ K V2
abbrev z12_36:=[C.v (Value.string z12_48),C.t true,C.t true,C.t false,C.t true,C.fn 76 [3]]
abbrev z12_64 (d:Did):=Reg.box 75 [C.i .u8 2,C.i .i64 d.core,C.i .i64 d.pc,C.i .i64 d.addr,C.i .i64 d.word,C.i .i64 d.put,C.b d.own]
abbrev z12_19 (d:Did):=[z12_64 d,z12_2,Reg.dead,Reg.box 61 [C.i .u8 1],Reg.dead,Reg.dead,Reg.box 107 z12_36]
theorem c_formOf2 (d:Did) (hk:d.kind=2):Ctr Try.prog 49 [] [.agg [.i .u8 2,.i .i64 d.core,.i .i64 d.pc,.i .i64 d.addr,.i .i64 d.word,.i .i64 d.put,.b d.own]]
 (Det (.tup [(true,[.v (.string { data:=#[108,111,97,100] }),.t true,.t true,.t false,.t true,C.fn 76 [1]]),(false,[.b (didB d)])]) [.dead,.dead,.dead,.dead]):=by
 refine Ctr.intro [] Try.func49 K K ?_
 refine RunF.cond (vc:=[]) (x:=decide ((2:Int)≤(0:Int))||decide ((9:Int)≤(2:Int))) K trivial (fun h1=>?_) (fun h1=>?_)
 ·exact absurd h1 (by decide)
 ·refine RunF.chk [3,2,1] [.code [1,0,1,1],.code [1,1]] (St.mk 85 z12_37 [z12_64 d,z12_2] []) K ?_
  refine RunF.any (n:=2) (vc:=[]) (fun _:Unit=>St.mk 85 z12_5 (z12_19 d) []) (fun _=>True) K trivial ?_ ?_
  ·refine ⟨⟨trivial,?_⟩,?_⟩
   ·refine RunF.call (vc:=[]) (args:=[]) e_trace_forms (c_formsT) [] (E:=[]) K trivial K trivial K ?_
    exact RunF.to (I:=fun x=>St.mk 85 z12_5 (z12_19 d) []) (J:=fun x=>True) (vc:=[(0:Int)≤(2:Int),(2:Int)<(9:Int)]) () [0,1,2,3,4,5,6] (E:=[(2:Int)=(2:Int),d.core=d.core,d.pc=d.pc,d.addr=d.addr,d.word=d.word,d.put=d.put,d.own=d.own,z12_30,Value.nilFunc=Value.nilFunc,(1:Int)=(1:Int),z12_31]) K V0 K R trivial
   ·refine RunF.call (vc:=[]) (args:=[]) e_trace_forms (c_formsT) [] (E:=[]) K trivial K trivial K ?_
    exact RunF.to (I:=fun x=>St.mk 85 z12_5 (z12_19 d) []) (J:=fun x=>True) (vc:=[(0:Int)≤(2:Int),(2:Int)<(9:Int)]) () [0,1,1000002,4,1000004,5,2] (E:=[(2:Int)=(2:Int),d.core=d.core,d.pc=d.pc,d.addr=d.addr,d.word=d.word,d.put=d.put,d.own=d.own,z12_30,Value.nilFunc=Value.nilFunc,(1:Int)=(1:Int),z12_31]) K V0 K R trivial
  ·rintro ⟨⟩ _
   refine RunF.chk [4,3,2,1] [.code [1,1,1]] (St.mk 85 z12_5 (z12_19 d) []) K ?_
   refine RunF.cond (vc:=[]) (x:=decide ((0:Int)≤d.core)&&decide (d.core<(8:Int))&&decide ((0:Int)≤d.pc)&&decide (d.pc<(16384:Int))&&decide ((0:Int)≤d.addr)&&decide (d.addr<(4096:Int))) K trivial (fun h2=>?_) (fun h2=>?_)
   ·refine RunF.chk [50,49,48,47,5,4,3,2,1] [.mixAt [1,1,1,1,0] z12_11 35 4,.code [1,0,1,0,1]] (St.mk 85 [En.mk 50 [] (SV.c (C.p 6 1)),En.mk 49 [] (SV.c (C.t true)),En.mk 48 [] (z12_1 d),En.mk 47 [] (SV.agg z12_36),En.mk 5 [] (z12_1 d),En.mk 4 [] (SV.c (C.p 6 0)),En.mk 3 [] (SV.c (C.t false)),En.mk 2 [] (SV.c (C.p 1 0)),En.mk 1 [] (SV.c (C.p 0 0))] (z12_19 d) []) K ?_
    refine RunF.cond (vc:=[]) (x:=decide (d.put=(0:Int))) K trivial (fun h3=>?_) (fun h3=>?_)
    ·exact RunF.ret (vc:=[]) (v:=SV.tup [(true,z12_36),(false,[C.t true])]) _ _ [0,3,2,1000003] (E:=[z12_31,didB d=true]) K trivial ⟨rfl,rfl⟩ K V2
    ·exact RunF.ret (vc:=[]) (v:=SV.tup [(true,z12_36),(false,[C.t false])]) _ _ [0,3,2,1000003] (E:=[z12_31,didB d=false]) K trivial ⟨rfl,rfl⟩ K V2
   ·exact RunF.ret (vc:=[]) (v:=SV.tup [(true,z12_36),(false,[C.t false])]) _ _ [0,3,2,1000003] (E:=[z12_31,didB d=false]) K trivial ⟨rfl,rfl⟩ K V2
abbrev z12_8:=[C.v (Value.string z12_43),C.t true,C.t true,C.t false,C.t false,C.fn 75 [2]]
abbrev z12_65 (d:Did):=Reg.box 75 [C.i .u8 3,C.i .i64 d.core,C.i .i64 d.pc,C.i .i64 d.addr,C.i .i64 d.word,C.i .i64 d.put,C.b d.own]
abbrev z12_25 (d:Did):=[z12_65 d,z12_2,z12_41,Reg.dead,Reg.dead,Reg.dead,Reg.box 107 z12_8]
abbrev z12_55 (d:Did):=St.mk 85 (z12_29 d) [Reg.dead,Reg.box 107 z12_8,z12_41,Reg.dead,Reg.dead,Reg.dead,Reg.dead] []
theorem c_formOf3 (d:Did) (hk:d.kind=3):Ctr Try.prog 49 [] [.agg [.i .u8 3,.i .i64 d.core,.i .i64 d.pc,.i .i64 d.addr,.i .i64 d.word,.i .i64 d.put,.b d.own]]
 (Det (.tup [(true,[.v (.string { data:=#[115,116,111,114,101] }),.t true,.t true,.t false,.t false,C.fn 75 [0]]),(false,[.b (didB d)])]) [.dead,.dead,.dead,.dead]):=by
 refine Ctr.intro [] Try.func49 K K ?_
 refine RunF.cond (vc:=[]) (x:=decide ((3:Int)≤(0:Int))||decide ((9:Int)≤(3:Int))) K trivial (fun h1=>?_) (fun h1=>?_)
 ·exact absurd h1 (by decide)
 ·refine RunF.chk [3,2,1] [.code [1,0,1,1],.code [1,1]] (St.mk 85 z12_37 [z12_65 d,z12_2] []) K ?_
  refine RunF.any (n:=2) (vc:=[]) (fun _:Unit=>St.mk 85 z12_5 (z12_25 d) []) (fun _=>True) K trivial ?_ ?_
  ·refine ⟨⟨trivial,?_⟩,?_⟩
   ·refine RunF.call (vc:=[]) (args:=[]) e_trace_forms (c_formsT) [] (E:=[]) K trivial K trivial K ?_
    exact RunF.to (I:=fun x=>St.mk 85 z12_5 (z12_25 d) []) (J:=fun x=>True) (vc:=[(0:Int)≤(3:Int),(3:Int)<(9:Int)]) () [0,1,2,3,4,5,6] (E:=[(3:Int)=(3:Int),d.core=d.core,d.pc=d.pc,d.addr=d.addr,d.word=d.word,d.put=d.put,d.own=d.own,z12_30,Value.nilFunc=Value.nilFunc,(0:Int)=(0:Int),z12_22]) K V0 K R trivial
   ·refine RunF.call (vc:=[]) (args:=[]) e_trace_forms (c_formsT) [] (E:=[]) K trivial K trivial K ?_
    exact RunF.to (I:=fun x=>St.mk 85 z12_5 (z12_25 d) []) (J:=fun x=>True) (vc:=[(0:Int)≤(3:Int),(3:Int)<(9:Int)]) () [0,1,3,1000003,4,5,2] (E:=[(3:Int)=(3:Int),d.core=d.core,d.pc=d.pc,d.addr=d.addr,d.word=d.word,d.put=d.put,d.own=d.own,z12_30,Value.nilFunc=Value.nilFunc,(0:Int)=(0:Int),z12_22]) K V0 K R trivial
  ·rintro ⟨⟩ _
   refine RunF.chk [4,3,2,1] [.code [1,1,1]] (St.mk 85 z12_5 (z12_25 d) []) K ?_
   refine RunF.cond (vc:=[]) (x:=decide ((0:Int)≤d.core)&&decide (d.core<(8:Int))&&decide ((0:Int)≤d.pc)&&decide (d.pc<(16384:Int))&&decide ((0:Int)≤d.addr)&&decide (d.addr<(4096:Int))) K trivial (fun h2=>?_) (fun h2=>?_)
   ·refine RunF.chk [50,49,48,47,5,4,3,2,1] [.mixAt [1,1,1,1,0] z12_11 35 4,.code [1,0,1,0,1]] (St.mk 85 [En.mk 50 [] (SV.c (C.p 6 1)),En.mk 49 [] (SV.c (C.t true)),En.mk 48 [] (z12_1 d),En.mk 47 [] (SV.agg z12_8),En.mk 5 [] (z12_1 d),En.mk 4 [] (SV.c (C.p 6 0)),En.mk 3 [] (SV.c (C.t false)),En.mk 2 [] (SV.c (C.p 1 0)),En.mk 1 [] (SV.c (C.p 0 0))] (z12_25 d) []) K ?_
    refine RunF.cond (vc:=[]) (x:=decide (d.put=(0:Int))) K trivial (fun h3=>?_) (fun h3=>?_)
    ·refine RunF.chk z12_35 [.mixAt [1,1,1,1,0] z12_24 8 31,.code [1,0,1,0,1]] (St.mk 85 [En.mk 77 [] (SV.c (C.p 6 4)),En.mk 76 [] (SV.c (C.t true)),En.mk 75 [] (z12_40 d),En.mk 74 [] (z12_40 d),En.mk 73 [] (z12_40 d),En.mk 72 [] (SV.c (C.i .i64 d.put)),En.mk 71 [] (SV.c (C.p 0 5)),En.mk 70 [] (SV.c (C.t false)),En.mk 69 [] (SV.c (C.t false)),En.mk 68 [] (SV.c (C.p 6 3)),En.mk 67 [] (SV.c (C.t true)),En.mk 66 [] (SV.c (C.t true)),En.mk 65 [] (SV.c (C.t true)),En.mk 64 [] SV.u,En.mk 63 [] SV.u,En.mk 62 [] SV.u,En.mk 61 [] (SV.c (C.t true)),En.mk 60 [] (SV.c (C.t true)),En.mk 59 [] (SV.c (C.p 6 2)),En.mk 58 [] (SV.c (C.t true)),En.mk 57 [] (SV.c (C.t true)),En.mk 56 [] (SV.c (C.t true)),En.mk 55 [] SV.u,En.mk 54 [] SV.u,En.mk 53 [] SV.u,En.mk 52 [] (SV.c (C.t true)),En.mk 51 [] (SV.c (C.t true)),En.mk 50 [] (SV.c (C.p 6 1)),En.mk 49 [] (SV.c (C.t true)),En.mk 48 [] (z12_1 d),En.mk 47 [] (SV.agg z12_8),En.mk 5 [] (z12_1 d),En.mk 4 [] (SV.c (C.p 6 0)),En.mk 3 [] (SV.c (C.t false)),En.mk 2 [] (SV.c (C.p 1 0)),En.mk 1 [] (SV.c (C.p 0 0))] (z12_25 d) []) K ?_
     refine RunF.any (n:=2) (vc:=[]) (fun _:Unit=>z12_55 d) (fun _=>True) K trivial ?_ ?_
     ·refine ⟨⟨trivial,?_⟩,?_⟩
      ·exact RunF.to (I:=fun x=>z12_55 d) (J:=fun x=>True) (vc:=[]) () [0,1,2,3,4,5,6] (E:=[z12_22,(0:Int)=(0:Int),(!d.own)=!d.own]) K trivial K R trivial
      ·exact RunF.to (I:=fun x=>z12_55 d) (J:=fun x=>True) (vc:=[]) () [0,1,2,3,4,5,6] (E:=[z12_22,(0:Int)=(0:Int),(!d.own)=!d.own]) K trivial K R trivial
     ·rintro ⟨⟩ _
      exact RunF.ret (vc:=[]) (v:=SV.tup [(true,z12_8),(false,[C.b !d.own])]) _ _ [2,1,1000002,3] (E:=[z12_22,didB d=!d.own]) K trivial ⟨rfl,rfl⟩ K V2
    ·exact RunF.ret (vc:=[]) (v:=SV.tup [(true,z12_8),(false,[C.t false])]) _ _ [2,1,1000002,3] (E:=[z12_22,didB d=false]) K trivial ⟨rfl,rfl⟩ K V2
   ·exact RunF.ret (vc:=[]) (v:=SV.tup [(true,z12_8),(false,[C.t false])]) _ _ [2,1,1000002,3] (E:=[z12_22,didB d=false]) K trivial ⟨rfl,rfl⟩ K V2
abbrev z12_66 (d:Did):=Reg.box 75 [C.i .u8 4,C.i .i64 d.core,C.i .i64 d.pc,C.i .i64 d.addr,C.i .i64 d.word,C.i .i64 d.put,C.b d.own]
abbrev z12_32 (d:Did):=[z12_66 d,z12_2,Reg.dead,Reg.dead,Reg.dead,Reg.dead,Reg.box 107 z12_14]
abbrev z12_52 (d:Did):=St.mk 85 (z12_29 d) [Reg.dead,Reg.box 107 z12_14,Reg.dead,Reg.dead,Reg.dead,Reg.dead,Reg.dead] []
theorem c_formOf4 (d:Did) (hk:d.kind=4):Ctr Try.prog 49 [] [.agg [.i .u8 4,.i .i64 d.core,.i .i64 d.pc,.i .i64 d.addr,.i .i64 d.word,.i .i64 d.put,.b d.own]]
 (Det (.tup [(true,[.v (.string { data:=#[115,119,97,112] }),.t true,.t true,.t true,.t false,C.fn 64 []]),(false,[.b (didB d)])]) [.dead,.dead,.dead,.dead]):=by
 refine Ctr.intro [] Try.func49 K K ?_
 refine RunF.cond (vc:=[]) (x:=decide ((4:Int)≤(0:Int))||decide ((9:Int)≤(4:Int))) K trivial (fun h1=>?_) (fun h1=>?_)
 ·exact absurd h1 (by decide)
 ·refine RunF.chk [3,2,1] [.code [1,0,1,1],.code [1,1]] (St.mk 85 z12_37 [z12_66 d,z12_2] []) K ?_
  refine RunF.any (n:=2) (vc:=[]) (fun _:Unit=>St.mk 85 z12_5 (z12_32 d) []) (fun _=>True) K trivial ?_ ?_
  ·refine ⟨⟨trivial,?_⟩,?_⟩
   ·refine RunF.call (vc:=[]) (args:=[]) e_trace_forms (c_formsT) [] (E:=[]) K trivial K trivial K ?_
    exact RunF.to (I:=fun x=>St.mk 85 z12_5 (z12_32 d) []) (J:=fun x=>True) (vc:=[(0:Int)≤(4:Int),(4:Int)<(9:Int)]) () [0,1,2,3,4,5,6] (E:=[(4:Int)=(4:Int),d.core=d.core,d.pc=d.pc,d.addr=d.addr,d.word=d.word,d.put=d.put,d.own=d.own,z12_30,Value.nilFunc=Value.nilFunc,z12_28]) K V0 K R trivial
   ·refine RunF.call (vc:=[]) (args:=[]) e_trace_forms (c_formsT) [] (E:=[]) K trivial K trivial K ?_
    exact RunF.to (I:=fun x=>St.mk 85 z12_5 (z12_32 d) []) (J:=fun x=>True) (vc:=[(0:Int)≤(4:Int),(4:Int)<(9:Int)]) () [0,1,1000002,3,4,5,2] (E:=[(4:Int)=(4:Int),d.core=d.core,d.pc=d.pc,d.addr=d.addr,d.word=d.word,d.put=d.put,d.own=d.own,z12_30,Value.nilFunc=Value.nilFunc,z12_28]) K V0 K R trivial
  ·rintro ⟨⟩ _
   refine RunF.chk [4,3,2,1] [.code [1,1,1]] (St.mk 85 z12_5 (z12_32 d) []) K ?_
   refine RunF.cond (vc:=[]) (x:=decide ((0:Int)≤d.core)&&decide (d.core<(8:Int))&&decide ((0:Int)≤d.pc)&&decide (d.pc<(16384:Int))&&decide ((0:Int)≤d.addr)&&decide (d.addr<(4096:Int))) K trivial (fun h2=>?_) (fun h2=>?_)
   ·refine RunF.chk [50,49,48,47,5,4,3,2,1] [.mixAt [1,1,1,1,0] z12_11 35 4,.code [1,0,1,0,1]] (St.mk 85 [En.mk 50 [] (SV.c (C.p 6 1)),En.mk 49 [] (SV.c (C.t true)),En.mk 48 [] (z12_1 d),En.mk 47 [] (SV.agg z12_14),En.mk 5 [] (z12_1 d),En.mk 4 [] (SV.c (C.p 6 0)),En.mk 3 [] (SV.c (C.t false)),En.mk 2 [] (SV.c (C.p 1 0)),En.mk 1 [] (SV.c (C.p 0 0))] (z12_32 d) []) K ?_
    refine RunF.any (n:=2) (vc:=[]) (fun _:Unit=>z12_52 d) (fun _=>True) K trivial ?_ ?_
    ·refine ⟨⟨trivial,?_⟩,?_⟩
     ·exact RunF.to (I:=fun x=>z12_52 d) (J:=fun x=>True) (vc:=[]) () [0,1,2,3,4,5,6] (E:=[z12_28,(!d.own)=!d.own]) K trivial K ⟨rfl,rfl⟩ trivial
     ·exact RunF.to (I:=fun x=>z12_52 d) (J:=fun x=>True) (vc:=[]) () [0,1,2,3,4,5,6] (E:=[z12_28,(!d.own)=!d.own]) K trivial K ⟨rfl,rfl⟩ trivial
    ·rintro ⟨⟩ _
     exact RunF.ret (vc:=[]) (v:=SV.tup [(true,z12_14),(false,[C.b !d.own])]) _ _ [0,1,2,3] (E:=[z12_28,didB d=!d.own]) K trivial ⟨rfl,rfl⟩ K V2
   ·exact RunF.ret (vc:=[]) (v:=SV.tup [(true,z12_14),(false,[C.t false])]) _ _ [0,1,2,3] (E:=[z12_28,didB d=false]) K trivial ⟨rfl,rfl⟩ K V2
abbrev z12_4:=[C.v (Value.string z12_44),C.t false,C.t false,C.t false,C.t false,C.fn 75 [2]]
abbrev z12_67 (d:Did):=Reg.box 75 [C.i .u8 5,C.i .i64 d.core,C.i .i64 d.pc,C.i .i64 d.addr,C.i .i64 d.word,C.i .i64 d.put,C.b d.own]
abbrev z12_16 (d:Did):=[z12_67 d,z12_2,z12_41,Reg.dead,Reg.dead,Reg.dead,Reg.box 107 z12_4]
abbrev z12_56 (d:Did):=St.mk 85 (z12_29 d) [Reg.dead,Reg.box 107 z12_4,z12_41,Reg.dead,Reg.dead,Reg.dead,Reg.dead] []
theorem c_formOf5 (d:Did) (hk:d.kind=5):Ctr Try.prog 49 [] [.agg [.i .u8 5,.i .i64 d.core,.i .i64 d.pc,.i .i64 d.addr,.i .i64 d.word,.i .i64 d.put,.b d.own]]
 (Det (.tup [(true,[.v (.string { data:=#[102,101,110,99,101] }),.t false,.t false,.t false,.t false,C.fn 75 [0]]),(false,[.b (didB d)])]) [.dead,.dead,.dead,.dead]):=by
 refine Ctr.intro [] Try.func49 K K ?_
 refine RunF.cond (vc:=[]) (x:=decide ((5:Int)≤(0:Int))||decide ((9:Int)≤(5:Int))) K trivial (fun h1=>?_) (fun h1=>?_)
 ·exact absurd h1 (by decide)
 ·refine RunF.chk [3,2,1] [.code [1,0,1,1],.code [1,1]] (St.mk 85 z12_37 [z12_67 d,z12_2] []) K ?_
  refine RunF.any (n:=2) (vc:=[]) (fun _:Unit=>St.mk 85 z12_5 (z12_16 d) []) (fun _=>True) K trivial ?_ ?_
  ·refine ⟨⟨trivial,?_⟩,?_⟩
   ·refine RunF.call (vc:=[]) (args:=[]) e_trace_forms (c_formsT) [] (E:=[]) K trivial K trivial K ?_
    exact RunF.to (I:=fun x=>St.mk 85 z12_5 (z12_16 d) []) (J:=fun x=>True) (vc:=[(0:Int)≤(5:Int),(5:Int)<(9:Int)]) () [0,1,2,3,4,5,6] (E:=[(5:Int)=(5:Int),d.core=d.core,d.pc=d.pc,d.addr=d.addr,d.word=d.word,d.put=d.put,d.own=d.own,z12_30,Value.nilFunc=Value.nilFunc,(0:Int)=(0:Int),z12_13]) K V0 K R trivial
   ·refine RunF.call (vc:=[]) (args:=[]) e_trace_forms (c_formsT) [] (E:=[]) K trivial K trivial K ?_
    exact RunF.to (I:=fun x=>St.mk 85 z12_5 (z12_16 d) []) (J:=fun x=>True) (vc:=[(0:Int)≤(5:Int),(5:Int)<(9:Int)]) () [0,1,3,1000003,4,5,2] (E:=[(5:Int)=(5:Int),d.core=d.core,d.pc=d.pc,d.addr=d.addr,d.word=d.word,d.put=d.put,d.own=d.own,z12_30,Value.nilFunc=Value.nilFunc,(0:Int)=(0:Int),z12_13]) K V0 K R trivial
  ·rintro ⟨⟩ _
   refine RunF.chk [4,3,2,1] [.code [1,1,1]] (St.mk 85 z12_5 (z12_16 d) []) K ?_
   refine RunF.cond (vc:=[]) (x:=decide ((0:Int)≤d.core)&&decide (d.core<(8:Int))&&decide ((0:Int)≤d.pc)&&decide (d.pc<(16384:Int))&&decide ((0:Int)≤d.addr)&&decide (d.addr<(4096:Int))) K trivial (fun h2=>?_) (fun h2=>?_)
   ·refine RunF.chk [50,49,48,47,5,4,3,2,1] [.mixAt [1,1,1,1,0] z12_11 35 4,.code [1,0,1,0,1]] (St.mk 85 [En.mk 50 [] (SV.c (C.p 6 1)),En.mk 49 [] (SV.c (C.t true)),En.mk 48 [] (z12_1 d),En.mk 47 [] (SV.agg z12_4),En.mk 5 [] (z12_1 d),En.mk 4 [] (SV.c (C.p 6 0)),En.mk 3 [] (SV.c (C.t false)),En.mk 2 [] (SV.c (C.p 1 0)),En.mk 1 [] (SV.c (C.p 0 0))] (z12_16 d) []) K ?_
    refine RunF.cond (vc:=[]) (x:=decide (d.addr=(0:Int))) K trivial (fun h3=>?_) (fun h3=>?_)
    ·refine RunF.chk z12_60 [.mixAt [1,1,1,1,0] z12_33 26 13,.code [1,0,1,0,1]] (St.mk 85 [En.mk 59 [] (SV.c (C.p 6 2)),En.mk 58 [] (SV.c (C.t true)),En.mk 57 [] (z12_26 d),En.mk 56 [] (z12_26 d),En.mk 55 [] (z12_26 d),z12_49 d,En.mk 53 [] (SV.c (C.p 0 3)),En.mk 52 [] (SV.c (C.t false)),En.mk 51 [] (SV.c (C.t false)),En.mk 50 [] (SV.c (C.p 6 1)),En.mk 49 [] (SV.c (C.t true)),En.mk 48 [] (z12_1 d),En.mk 47 [] (SV.agg z12_4),En.mk 5 [] (z12_1 d),En.mk 4 [] (SV.c (C.p 6 0)),En.mk 3 [] (SV.c (C.t false)),En.mk 2 [] (SV.c (C.p 1 0)),En.mk 1 [] (SV.c (C.p 0 0))] (z12_16 d) []) K ?_
     refine RunF.cond (vc:=[]) (x:=decide (d.word=(0:Int))) K trivial (fun h4=>?_) (fun h4=>?_)
     ·refine RunF.chk z12_59 [.mixAt [1,1,1,1,0] z12_42 17 22,.code [1,0,1,0,1]] (St.mk 85 [En.mk 68 [] (SV.c (C.p 6 3)),En.mk 67 [] (SV.c (C.t true)),En.mk 66 [] (z12_39 d),En.mk 65 [] (z12_39 d),En.mk 64 [] (z12_39 d),z12_61 d,En.mk 62 [] (SV.c (C.p 0 4)),En.mk 61 [] (SV.c (C.t false)),En.mk 60 [] (SV.c (C.t false)),En.mk 59 [] (SV.c (C.p 6 2)),En.mk 58 [] (SV.c (C.t true)),En.mk 57 [] (z12_26 d),En.mk 56 [] (z12_26 d),En.mk 55 [] (z12_26 d),z12_49 d,En.mk 53 [] (SV.c (C.p 0 3)),En.mk 52 [] (SV.c (C.t false)),En.mk 51 [] (SV.c (C.t false)),En.mk 50 [] (SV.c (C.p 6 1)),En.mk 49 [] (SV.c (C.t true)),En.mk 48 [] (z12_1 d),En.mk 47 [] (SV.agg z12_4),En.mk 5 [] (z12_1 d),En.mk 4 [] (SV.c (C.p 6 0)),En.mk 3 [] (SV.c (C.t false)),En.mk 2 [] (SV.c (C.p 1 0)),En.mk 1 [] (SV.c (C.p 0 0))] (z12_16 d) []) K ?_
      refine RunF.cond (vc:=[]) (x:=decide (d.put=(0:Int))) K trivial (fun h5=>?_) (fun h5=>?_)
      ·refine RunF.chk z12_35 [.mixAt [1,1,1,1,0] z12_24 8 31,.code [1,0,1,0,1]] (St.mk 85 [En.mk 77 [] (SV.c (C.p 6 4)),En.mk 76 [] (SV.c (C.t true)),En.mk 75 [] (z12_40 d),En.mk 74 [] (z12_40 d),En.mk 73 [] (z12_40 d),En.mk 72 [] (SV.c (C.i .i64 d.put)),En.mk 71 [] (SV.c (C.p 0 5)),En.mk 70 [] (SV.c (C.t false)),En.mk 69 [] (SV.c (C.t false)),En.mk 68 [] (SV.c (C.p 6 3)),En.mk 67 [] (SV.c (C.t true)),En.mk 66 [] (z12_39 d),En.mk 65 [] (z12_39 d),En.mk 64 [] (z12_39 d),z12_61 d,En.mk 62 [] (SV.c (C.p 0 4)),En.mk 61 [] (SV.c (C.t false)),En.mk 60 [] (SV.c (C.t false)),En.mk 59 [] (SV.c (C.p 6 2)),En.mk 58 [] (SV.c (C.t true)),En.mk 57 [] (z12_26 d),En.mk 56 [] (z12_26 d),En.mk 55 [] (z12_26 d),z12_49 d,En.mk 53 [] (SV.c (C.p 0 3)),En.mk 52 [] (SV.c (C.t false)),En.mk 51 [] (SV.c (C.t false)),En.mk 50 [] (SV.c (C.p 6 1)),En.mk 49 [] (SV.c (C.t true)),En.mk 48 [] (z12_1 d),En.mk 47 [] (SV.agg z12_4),En.mk 5 [] (z12_1 d),En.mk 4 [] (SV.c (C.p 6 0)),En.mk 3 [] (SV.c (C.t false)),En.mk 2 [] (SV.c (C.p 1 0)),En.mk 1 [] (SV.c (C.p 0 0))] (z12_16 d) []) K ?_
       refine RunF.any (n:=2) (vc:=[]) (fun _:Unit=>z12_56 d) (fun _=>True) K trivial ?_ ?_
       ·refine ⟨⟨trivial,?_⟩,?_⟩
        ·exact RunF.to (I:=fun x=>z12_56 d) (J:=fun x=>True) (vc:=[]) () [0,1,2,3,4,5,6] (E:=[z12_13,(0:Int)=(0:Int),(!d.own)=!d.own]) K trivial K R trivial
        ·exact RunF.to (I:=fun x=>z12_56 d) (J:=fun x=>True) (vc:=[]) () [0,1,2,3,4,5,6] (E:=[z12_13,(0:Int)=(0:Int),(!d.own)=!d.own]) K trivial K R trivial
       ·rintro ⟨⟩ _
        exact RunF.ret (vc:=[]) (v:=SV.tup [(true,z12_4),(false,[C.b !d.own])]) _ _ [2,1,1000002,3] (E:=[z12_13,didB d=!d.own]) K trivial ⟨rfl,rfl⟩ K V2
      ·exact RunF.ret (vc:=[]) (v:=SV.tup [(true,z12_4),(false,[C.t false])]) _ _ [2,1,1000002,3] (E:=[z12_13,didB d=false]) K trivial ⟨rfl,rfl⟩ K V2
     ·exact RunF.ret (vc:=[]) (v:=SV.tup [(true,z12_4),(false,[C.t false])]) _ _ [2,1,1000002,3] (E:=[z12_13,didB d=false]) K trivial ⟨rfl,rfl⟩ K V2
    ·exact RunF.ret (vc:=[]) (v:=SV.tup [(true,z12_4),(false,[C.t false])]) _ _ [2,1,1000002,3] (E:=[z12_13,didB d=false]) K trivial ⟨rfl,rfl⟩ K V2
   ·exact RunF.ret (vc:=[]) (v:=SV.tup [(true,z12_4),(false,[C.t false])]) _ _ [2,1,1000002,3] (E:=[z12_13,didB d=false]) K trivial ⟨rfl,rfl⟩ K V2
abbrev z12_7:=[C.v (Value.string z12_50),C.t false,C.t true,C.t false,C.t false,C.fn 75 [4]]
abbrev z12_68 (d:Did):=Reg.box 75 [C.i .u8 6,C.i .i64 d.core,C.i .i64 d.pc,C.i .i64 d.addr,C.i .i64 d.word,C.i .i64 d.put,C.b d.own]
abbrev z12_21 (d:Did):=[z12_68 d,z12_2,Reg.dead,Reg.dead,Reg.box 61 [C.i .u8 6],Reg.dead,Reg.box 107 z12_7]
abbrev z12_46 (d:Did):=St.mk 85 (z12_29 d) [Reg.dead,Reg.box 107 z12_7,Reg.dead,Reg.dead,Reg.box 61 [C.i .u8 6],Reg.dead,Reg.dead] []
theorem c_formOf6 (d:Did) (hk:d.kind=6):Ctr Try.prog 49 [] [.agg [.i .u8 6,.i .i64 d.core,.i .i64 d.pc,.i .i64 d.addr,.i .i64 d.word,.i .i64 d.put,.b d.own]]
 (Det (.tup [(true,[.v (.string { data:=#[112,114,105,110,116] }),.t false,.t true,.t false,.t false,C.fn 75 [2]]),(false,[.b (didB d)])]) [.dead,.dead,.dead,.dead]):=by
 refine Ctr.intro [] Try.func49 K K ?_
 refine RunF.cond (vc:=[]) (x:=decide ((6:Int)≤(0:Int))||decide ((9:Int)≤(6:Int))) K trivial (fun h1=>?_) (fun h1=>?_)
 ·exact absurd h1 (by decide)
 ·refine RunF.chk [3,2,1] [.code [1,0,1,1],.code [1,1]] (St.mk 85 z12_37 [z12_68 d,z12_2] []) K ?_
  refine RunF.any (n:=2) (vc:=[]) (fun _:Unit=>St.mk 85 z12_5 (z12_21 d) []) (fun _=>True) K trivial ?_ ?_
  ·refine ⟨⟨trivial,?_⟩,?_⟩
   ·refine RunF.call (vc:=[]) (args:=[]) e_trace_forms (c_formsT) [] (E:=[]) K trivial K trivial K ?_
    exact RunF.to (I:=fun x=>St.mk 85 z12_5 (z12_21 d) []) (J:=fun x=>True) (vc:=[(0:Int)≤(6:Int),(6:Int)<(9:Int)]) () [0,1,2,3,4,5,6] (E:=[(6:Int)=(6:Int),d.core=d.core,d.pc=d.pc,d.addr=d.addr,d.word=d.word,d.put=d.put,d.own=d.own,z12_30,Value.nilFunc=Value.nilFunc,(6:Int)=(6:Int),z12_18]) K V0 K R trivial
   ·refine RunF.call (vc:=[]) (args:=[]) e_trace_forms (c_formsT) [] (E:=[]) K trivial K trivial K ?_
    exact RunF.to (I:=fun x=>St.mk 85 z12_5 (z12_21 d) []) (J:=fun x=>True) (vc:=[(0:Int)≤(6:Int),(6:Int)<(9:Int)]) () [0,1,1000002,3,5,1000005,2] (E:=[(6:Int)=(6:Int),d.core=d.core,d.pc=d.pc,d.addr=d.addr,d.word=d.word,d.put=d.put,d.own=d.own,z12_30,Value.nilFunc=Value.nilFunc,(6:Int)=(6:Int),z12_18]) K V0 K R trivial
  ·rintro ⟨⟩ _
   refine RunF.chk [4,3,2,1] [.code [1,1,1]] (St.mk 85 z12_5 (z12_21 d) []) K ?_
   refine RunF.cond (vc:=[]) (x:=decide ((0:Int)≤d.core)&&decide (d.core<(8:Int))&&decide ((0:Int)≤d.pc)&&decide (d.pc<(16384:Int))&&decide ((0:Int)≤d.addr)&&decide (d.addr<(4096:Int))) K trivial (fun h2=>?_) (fun h2=>?_)
   ·refine RunF.chk [50,49,48,47,5,4,3,2,1] [.mixAt [1,1,1,1,0] z12_11 35 4,.code [1,0,1,0,1]] (St.mk 85 [En.mk 50 [] (SV.c (C.p 6 1)),En.mk 49 [] (SV.c (C.t true)),En.mk 48 [] (z12_1 d),En.mk 47 [] (SV.agg z12_7),En.mk 5 [] (z12_1 d),En.mk 4 [] (SV.c (C.p 6 0)),En.mk 3 [] (SV.c (C.t false)),En.mk 2 [] (SV.c (C.p 1 0)),En.mk 1 [] (SV.c (C.p 0 0))] (z12_21 d) []) K ?_
    refine RunF.cond (vc:=[]) (x:=decide (d.addr=(0:Int))) K trivial (fun h3=>?_) (fun h3=>?_)
    ·refine RunF.chk z12_60 [.mixAt [1,1,1,1,0] z12_33 26 13,.code [1,0,1,0,1]] (St.mk 85 [En.mk 59 [] (SV.c (C.p 6 2)),En.mk 58 [] (SV.c (C.t true)),En.mk 57 [] (z12_26 d),En.mk 56 [] (z12_26 d),En.mk 55 [] (z12_26 d),z12_49 d,En.mk 53 [] (SV.c (C.p 0 3)),En.mk 52 [] (SV.c (C.t false)),En.mk 51 [] (SV.c (C.t false)),En.mk 50 [] (SV.c (C.p 6 1)),En.mk 49 [] (SV.c (C.t true)),En.mk 48 [] (z12_1 d),En.mk 47 [] (SV.agg z12_7),En.mk 5 [] (z12_1 d),En.mk 4 [] (SV.c (C.p 6 0)),En.mk 3 [] (SV.c (C.t false)),En.mk 2 [] (SV.c (C.p 1 0)),En.mk 1 [] (SV.c (C.p 0 0))] (z12_21 d) []) K ?_
     refine RunF.cond (vc:=[]) (x:=decide (d.put=(0:Int))) K trivial (fun h4=>?_) (fun h4=>?_)
     ·refine RunF.chk z12_35 [.mixAt [1,1,1,1,0] z12_24 8 31,.code [1,0,1,0,1]] (St.mk 85 [En.mk 77 [] (SV.c (C.p 6 4)),En.mk 76 [] (SV.c (C.t true)),En.mk 75 [] (z12_40 d),En.mk 74 [] (z12_40 d),En.mk 73 [] (z12_40 d),En.mk 72 [] (SV.c (C.i .i64 d.put)),En.mk 71 [] (SV.c (C.p 0 5)),En.mk 70 [] (SV.c (C.t false)),En.mk 69 [] (SV.c (C.t false)),En.mk 68 [] (SV.c (C.p 6 3)),En.mk 67 [] (SV.c (C.t true)),En.mk 66 [] (SV.c (C.t true)),En.mk 65 [] (SV.c (C.t true)),En.mk 64 [] SV.u,En.mk 63 [] SV.u,En.mk 62 [] SV.u,En.mk 61 [] (SV.c (C.t true)),En.mk 60 [] (SV.c (C.t true)),En.mk 59 [] (SV.c (C.p 6 2)),En.mk 58 [] (SV.c (C.t true)),En.mk 57 [] (z12_26 d),En.mk 56 [] (z12_26 d),En.mk 55 [] (z12_26 d),z12_49 d,En.mk 53 [] (SV.c (C.p 0 3)),En.mk 52 [] (SV.c (C.t false)),En.mk 51 [] (SV.c (C.t false)),En.mk 50 [] (SV.c (C.p 6 1)),En.mk 49 [] (SV.c (C.t true)),En.mk 48 [] (z12_1 d),En.mk 47 [] (SV.agg z12_7),En.mk 5 [] (z12_1 d),En.mk 4 [] (SV.c (C.p 6 0)),En.mk 3 [] (SV.c (C.t false)),En.mk 2 [] (SV.c (C.p 1 0)),En.mk 1 [] (SV.c (C.p 0 0))] (z12_21 d) []) K ?_
      refine RunF.any (n:=2) (vc:=[]) (fun _:Unit=>z12_46 d) (fun _=>True) K trivial ?_ ?_
      ·refine ⟨⟨trivial,?_⟩,?_⟩
       ·exact RunF.to (I:=fun x=>z12_46 d) (J:=fun x=>True) (vc:=[]) () [0,1,2,3,4,5,6] (E:=[z12_18,(6:Int)=(6:Int),(!d.own)=!d.own]) K trivial K R trivial
       ·exact RunF.to (I:=fun x=>z12_46 d) (J:=fun x=>True) (vc:=[]) () [0,1,2,3,4,5,6] (E:=[z12_18,(6:Int)=(6:Int),(!d.own)=!d.own]) K trivial K R trivial
      ·rintro ⟨⟩ _
       exact RunF.ret (vc:=[]) (v:=SV.tup [(true,z12_7),(false,[C.b !d.own])]) _ _ [0,1,4,3] (E:=[z12_18,didB d=!d.own]) K trivial ⟨rfl,rfl⟩ K V2
     ·exact RunF.ret (vc:=[]) (v:=SV.tup [(true,z12_7),(false,[C.t false])]) _ _ [0,1,4,3] (E:=[z12_18,didB d=false]) K trivial ⟨rfl,rfl⟩ K V2
    ·exact RunF.ret (vc:=[]) (v:=SV.tup [(true,z12_7),(false,[C.t false])]) _ _ [0,1,4,3] (E:=[z12_18,didB d=false]) K trivial ⟨rfl,rfl⟩ K V2
   ·exact RunF.ret (vc:=[]) (v:=SV.tup [(true,z12_7),(false,[C.t false])]) _ _ [0,1,4,3] (E:=[z12_18,didB d=false]) K trivial ⟨rfl,rfl⟩ K V2
abbrev z12_6:=[C.v (Value.string z12_58),C.t false,C.t false,C.t false,C.t false,C.fn 75 [5]]
abbrev z12_69 (d:Did):=Reg.box 75 [C.i .u8 7,C.i .i64 d.core,C.i .i64 d.pc,C.i .i64 d.addr,C.i .i64 d.word,C.i .i64 d.put,C.b d.own]
abbrev z12_17 (d:Did):=[z12_69 d,z12_2,Reg.dead,Reg.dead,Reg.dead,Reg.box 61 [C.i .u8 7],Reg.box 107 z12_6]
abbrev z12_47 (d:Did):=St.mk 85 (z12_29 d) [Reg.dead,Reg.box 107 z12_6,Reg.dead,Reg.dead,Reg.dead,Reg.box 61 [C.i .u8 7],Reg.dead] []
theorem c_formOf7 (d:Did) (hk:d.kind=7):Ctr Try.prog 49 [] [.agg [.i .u8 7,.i .i64 d.core,.i .i64 d.pc,.i .i64 d.addr,.i .i64 d.word,.i .i64 d.put,.b d.own]]
 (Det (.tup [(true,[.v (.string { data:=#[104,97,108,116] }),.t false,.t false,.t false,.t false,C.fn 75 [3]]),(false,[.b (didB d)])]) [.dead,.dead,.dead,.dead]):=by
 refine Ctr.intro [] Try.func49 K K ?_
 refine RunF.cond (vc:=[]) (x:=decide ((7:Int)≤(0:Int))||decide ((9:Int)≤(7:Int))) K trivial (fun h1=>?_) (fun h1=>?_)
 ·exact absurd h1 (by decide)
 ·refine RunF.chk [3,2,1] [.code [1,0,1,1],.code [1,1]] (St.mk 85 z12_37 [z12_69 d,z12_2] []) K ?_
  refine RunF.any (n:=2) (vc:=[]) (fun _:Unit=>St.mk 85 z12_5 (z12_17 d) []) (fun _=>True) K trivial ?_ ?_
  ·refine ⟨⟨trivial,?_⟩,?_⟩
   ·refine RunF.call (vc:=[]) (args:=[]) e_trace_forms (c_formsT) [] (E:=[]) K trivial K trivial K ?_
    exact RunF.to (I:=fun x=>St.mk 85 z12_5 (z12_17 d) []) (J:=fun x=>True) (vc:=[(0:Int)≤(7:Int),(7:Int)<(9:Int)]) () [0,1,2,3,4,5,6] (E:=[(7:Int)=(7:Int),d.core=d.core,d.pc=d.pc,d.addr=d.addr,d.word=d.word,d.put=d.put,d.own=d.own,z12_30,Value.nilFunc=Value.nilFunc,(7:Int)=(7:Int),z12_20]) K V0 K R trivial
   ·refine RunF.call (vc:=[]) (args:=[]) e_trace_forms (c_formsT) [] (E:=[]) K trivial K trivial K ?_
    exact RunF.to (I:=fun x=>St.mk 85 z12_5 (z12_17 d) []) (J:=fun x=>True) (vc:=[(0:Int)≤(7:Int),(7:Int)<(9:Int)]) () [0,1,1000002,3,4,6,2] (E:=[(7:Int)=(7:Int),d.core=d.core,d.pc=d.pc,d.addr=d.addr,d.word=d.word,d.put=d.put,d.own=d.own,z12_30,Value.nilFunc=Value.nilFunc,(7:Int)=(7:Int),z12_20]) K V0 K R trivial
  ·rintro ⟨⟩ _
   refine RunF.chk [4,3,2,1] [.code [1,1,1]] (St.mk 85 z12_5 (z12_17 d) []) K ?_
   refine RunF.cond (vc:=[]) (x:=decide ((0:Int)≤d.core)&&decide (d.core<(8:Int))&&decide ((0:Int)≤d.pc)&&decide (d.pc<(16384:Int))&&decide ((0:Int)≤d.addr)&&decide (d.addr<(4096:Int))) K trivial (fun h2=>?_) (fun h2=>?_)
   ·refine RunF.chk [50,49,48,47,5,4,3,2,1] [.mixAt [1,1,1,1,0] z12_11 35 4,.code [1,0,1,0,1]] (St.mk 85 [En.mk 50 [] (SV.c (C.p 6 1)),En.mk 49 [] (SV.c (C.t true)),En.mk 48 [] (z12_1 d),En.mk 47 [] (SV.agg z12_6),En.mk 5 [] (z12_1 d),En.mk 4 [] (SV.c (C.p 6 0)),En.mk 3 [] (SV.c (C.t false)),En.mk 2 [] (SV.c (C.p 1 0)),En.mk 1 [] (SV.c (C.p 0 0))] (z12_17 d) []) K ?_
    refine RunF.cond (vc:=[]) (x:=decide (d.addr=(0:Int))) K trivial (fun h3=>?_) (fun h3=>?_)
    ·refine RunF.chk z12_60 [.mixAt [1,1,1,1,0] z12_33 26 13,.code [1,0,1,0,1]] (St.mk 85 [En.mk 59 [] (SV.c (C.p 6 2)),En.mk 58 [] (SV.c (C.t true)),En.mk 57 [] (z12_26 d),En.mk 56 [] (z12_26 d),En.mk 55 [] (z12_26 d),z12_49 d,En.mk 53 [] (SV.c (C.p 0 3)),En.mk 52 [] (SV.c (C.t false)),En.mk 51 [] (SV.c (C.t false)),En.mk 50 [] (SV.c (C.p 6 1)),En.mk 49 [] (SV.c (C.t true)),En.mk 48 [] (z12_1 d),En.mk 47 [] (SV.agg z12_6),En.mk 5 [] (z12_1 d),En.mk 4 [] (SV.c (C.p 6 0)),En.mk 3 [] (SV.c (C.t false)),En.mk 2 [] (SV.c (C.p 1 0)),En.mk 1 [] (SV.c (C.p 0 0))] (z12_17 d) []) K ?_
     refine RunF.cond (vc:=[]) (x:=decide (d.word=(0:Int))) K trivial (fun h4=>?_) (fun h4=>?_)
     ·refine RunF.chk z12_59 [.mixAt [1,1,1,1,0] z12_42 17 22,.code [1,0,1,0,1]] (St.mk 85 [En.mk 68 [] (SV.c (C.p 6 3)),En.mk 67 [] (SV.c (C.t true)),En.mk 66 [] (z12_39 d),En.mk 65 [] (z12_39 d),En.mk 64 [] (z12_39 d),z12_61 d,En.mk 62 [] (SV.c (C.p 0 4)),En.mk 61 [] (SV.c (C.t false)),En.mk 60 [] (SV.c (C.t false)),En.mk 59 [] (SV.c (C.p 6 2)),En.mk 58 [] (SV.c (C.t true)),En.mk 57 [] (z12_26 d),En.mk 56 [] (z12_26 d),En.mk 55 [] (z12_26 d),z12_49 d,En.mk 53 [] (SV.c (C.p 0 3)),En.mk 52 [] (SV.c (C.t false)),En.mk 51 [] (SV.c (C.t false)),En.mk 50 [] (SV.c (C.p 6 1)),En.mk 49 [] (SV.c (C.t true)),En.mk 48 [] (z12_1 d),En.mk 47 [] (SV.agg z12_6),En.mk 5 [] (z12_1 d),En.mk 4 [] (SV.c (C.p 6 0)),En.mk 3 [] (SV.c (C.t false)),En.mk 2 [] (SV.c (C.p 1 0)),En.mk 1 [] (SV.c (C.p 0 0))] (z12_17 d) []) K ?_
      refine RunF.cond (vc:=[]) (x:=decide (d.put=(0:Int))) K trivial (fun h5=>?_) (fun h5=>?_)
      ·refine RunF.chk z12_35 [.mixAt [1,1,1,1,0] z12_24 8 31,.code [1,0,1,0,1]] (St.mk 85 [En.mk 77 [] (SV.c (C.p 6 4)),En.mk 76 [] (SV.c (C.t true)),En.mk 75 [] (z12_40 d),En.mk 74 [] (z12_40 d),En.mk 73 [] (z12_40 d),En.mk 72 [] (SV.c (C.i .i64 d.put)),En.mk 71 [] (SV.c (C.p 0 5)),En.mk 70 [] (SV.c (C.t false)),En.mk 69 [] (SV.c (C.t false)),En.mk 68 [] (SV.c (C.p 6 3)),En.mk 67 [] (SV.c (C.t true)),En.mk 66 [] (z12_39 d),En.mk 65 [] (z12_39 d),En.mk 64 [] (z12_39 d),z12_61 d,En.mk 62 [] (SV.c (C.p 0 4)),En.mk 61 [] (SV.c (C.t false)),En.mk 60 [] (SV.c (C.t false)),En.mk 59 [] (SV.c (C.p 6 2)),En.mk 58 [] (SV.c (C.t true)),En.mk 57 [] (z12_26 d),En.mk 56 [] (z12_26 d),En.mk 55 [] (z12_26 d),z12_49 d,En.mk 53 [] (SV.c (C.p 0 3)),En.mk 52 [] (SV.c (C.t false)),En.mk 51 [] (SV.c (C.t false)),En.mk 50 [] (SV.c (C.p 6 1)),En.mk 49 [] (SV.c (C.t true)),En.mk 48 [] (z12_1 d),En.mk 47 [] (SV.agg z12_6),En.mk 5 [] (z12_1 d),En.mk 4 [] (SV.c (C.p 6 0)),En.mk 3 [] (SV.c (C.t false)),En.mk 2 [] (SV.c (C.p 1 0)),En.mk 1 [] (SV.c (C.p 0 0))] (z12_17 d) []) K ?_
       refine RunF.any (n:=2) (vc:=[]) (fun _:Unit=>z12_47 d) (fun _=>True) K trivial ?_ ?_
       ·refine ⟨⟨trivial,?_⟩,?_⟩
        ·exact RunF.to (I:=fun x=>z12_47 d) (J:=fun x=>True) (vc:=[]) () [0,1,2,3,4,5,6] (E:=[z12_20,(7:Int)=(7:Int),(!d.own)=!d.own]) K trivial K R trivial
        ·exact RunF.to (I:=fun x=>z12_47 d) (J:=fun x=>True) (vc:=[]) () [0,1,2,3,4,5,6] (E:=[z12_20,(7:Int)=(7:Int),(!d.own)=!d.own]) K trivial K R trivial
       ·rintro ⟨⟩ _
        exact RunF.ret (vc:=[]) (v:=SV.tup [(true,z12_6),(false,[C.b !d.own])]) _ _ [0,1,2,5] (E:=[z12_20,didB d=!d.own]) K trivial ⟨rfl,rfl⟩ K V2
      ·exact RunF.ret (vc:=[]) (v:=SV.tup [(true,z12_6),(false,[C.t false])]) _ _ [0,1,2,5] (E:=[z12_20,didB d=false]) K trivial ⟨rfl,rfl⟩ K V2
     ·exact RunF.ret (vc:=[]) (v:=SV.tup [(true,z12_6),(false,[C.t false])]) _ _ [0,1,2,5] (E:=[z12_20,didB d=false]) K trivial ⟨rfl,rfl⟩ K V2
    ·exact RunF.ret (vc:=[]) (v:=SV.tup [(true,z12_6),(false,[C.t false])]) _ _ [0,1,2,5] (E:=[z12_20,didB d=false]) K trivial ⟨rfl,rfl⟩ K V2
   ·exact RunF.ret (vc:=[]) (v:=SV.tup [(true,z12_6),(false,[C.t false])]) _ _ [0,1,2,5] (E:=[z12_20,didB d=false]) K trivial ⟨rfl,rfl⟩ K V2
abbrev z12_10:=[C.v (Value.string z12_51),C.t true,C.t true,C.t false,C.t false,C.fn 65 []]
abbrev z12_70 (d:Did):=Reg.box 75 [C.i .u8 8,C.i .i64 d.core,C.i .i64 d.pc,C.i .i64 d.addr,C.i .i64 d.word,C.i .i64 d.put,C.b d.own]
abbrev z12_27 (d:Did):=[z12_70 d,z12_2,Reg.dead,Reg.dead,Reg.dead,Reg.dead,Reg.box 107 z12_10]
abbrev z12_53 (d:Did):=St.mk 85 (z12_29 d) [Reg.dead,Reg.box 107 z12_10,Reg.dead,Reg.dead,Reg.dead,Reg.dead,Reg.dead] []
theorem c_formOf8 (d:Did) (hk:d.kind=8):Ctr Try.prog 49 [] [.agg [.i .u8 8,.i .i64 d.core,.i .i64 d.pc,.i .i64 d.addr,.i .i64 d.word,.i .i64 d.put,.b d.own]]
 (Det (.tup [(true,[.v (.string { data:=#[100,114,97,105,110] }),.t true,.t true,.t false,.t false,C.fn 65 []]),(false,[.b (didB d)])]) [.dead,.dead,.dead,.dead]):=by
 refine Ctr.intro [] Try.func49 K K ?_
 refine RunF.cond (vc:=[]) (x:=decide ((8:Int)≤(0:Int))||decide ((9:Int)≤(8:Int))) K trivial (fun h1=>?_) (fun h1=>?_)
 ·exact absurd h1 (by decide)
 ·refine RunF.chk [3,2,1] [.code [1,0,1,1],.code [1,1]] (St.mk 85 z12_37 [z12_70 d,z12_2] []) K ?_
  refine RunF.any (n:=2) (vc:=[]) (fun _:Unit=>St.mk 85 z12_5 (z12_27 d) []) (fun _=>True) K trivial ?_ ?_
  ·refine ⟨⟨trivial,?_⟩,?_⟩
   ·refine RunF.call (vc:=[]) (args:=[]) e_trace_forms (c_formsT) [] (E:=[]) K trivial K trivial K ?_
    exact RunF.to (I:=fun x=>St.mk 85 z12_5 (z12_27 d) []) (J:=fun x=>True) (vc:=[(0:Int)≤(8:Int),(8:Int)<(9:Int)]) () [0,1,2,3,4,5,6] (E:=[(8:Int)=(8:Int),d.core=d.core,d.pc=d.pc,d.addr=d.addr,d.word=d.word,d.put=d.put,d.own=d.own,z12_30,Value.nilFunc=Value.nilFunc,z12_23]) K V0 K R trivial
   ·refine RunF.call (vc:=[]) (args:=[]) e_trace_forms (c_formsT) [] (E:=[]) K trivial K trivial K ?_
    exact RunF.to (I:=fun x=>St.mk 85 z12_5 (z12_27 d) []) (J:=fun x=>True) (vc:=[(0:Int)≤(8:Int),(8:Int)<(9:Int)]) () [0,1,1000002,3,4,5,2] (E:=[(8:Int)=(8:Int),d.core=d.core,d.pc=d.pc,d.addr=d.addr,d.word=d.word,d.put=d.put,d.own=d.own,z12_30,Value.nilFunc=Value.nilFunc,z12_23]) K V0 K R trivial
  ·rintro ⟨⟩ _
   refine RunF.chk [4,3,2,1] [.code [1,1,1]] (St.mk 85 z12_5 (z12_27 d) []) K ?_
   refine RunF.cond (vc:=[]) (x:=decide ((0:Int)≤d.core)&&decide (d.core<(8:Int))&&decide ((0:Int)≤d.pc)&&decide (d.pc<(16384:Int))&&decide ((0:Int)≤d.addr)&&decide (d.addr<(4096:Int))) K trivial (fun h2=>?_) (fun h2=>?_)
   ·refine RunF.chk [50,49,48,47,5,4,3,2,1] [.mixAt [1,1,1,1,0] z12_11 35 4,.code [1,0,1,0,1]] (St.mk 85 [En.mk 50 [] (SV.c (C.p 6 1)),En.mk 49 [] (SV.c (C.t true)),En.mk 48 [] (z12_1 d),En.mk 47 [] (SV.agg z12_10),En.mk 5 [] (z12_1 d),En.mk 4 [] (SV.c (C.p 6 0)),En.mk 3 [] (SV.c (C.t false)),En.mk 2 [] (SV.c (C.p 1 0)),En.mk 1 [] (SV.c (C.p 0 0))] (z12_27 d) []) K ?_
    refine RunF.cond (vc:=[]) (x:=decide (d.put=(0:Int))) K trivial (fun h3=>?_) (fun h3=>?_)
    ·refine RunF.chk z12_35 [.mixAt [1,1,1,1,0] z12_24 8 31,.code [1,0,1,0,1]] (St.mk 85 [En.mk 77 [] (SV.c (C.p 6 4)),En.mk 76 [] (SV.c (C.t true)),En.mk 75 [] (z12_40 d),En.mk 74 [] (z12_40 d),En.mk 73 [] (z12_40 d),En.mk 72 [] (SV.c (C.i .i64 d.put)),En.mk 71 [] (SV.c (C.p 0 5)),En.mk 70 [] (SV.c (C.t false)),En.mk 69 [] (SV.c (C.t false)),En.mk 68 [] (SV.c (C.p 6 3)),En.mk 67 [] (SV.c (C.t true)),En.mk 66 [] (SV.c (C.t true)),En.mk 65 [] (SV.c (C.t true)),En.mk 64 [] SV.u,En.mk 63 [] SV.u,En.mk 62 [] SV.u,En.mk 61 [] (SV.c (C.t true)),En.mk 60 [] (SV.c (C.t true)),En.mk 59 [] (SV.c (C.p 6 2)),En.mk 58 [] (SV.c (C.t true)),En.mk 57 [] (SV.c (C.t true)),En.mk 56 [] (SV.c (C.t true)),En.mk 55 [] SV.u,En.mk 54 [] SV.u,En.mk 53 [] SV.u,En.mk 52 [] (SV.c (C.t true)),En.mk 51 [] (SV.c (C.t true)),En.mk 50 [] (SV.c (C.p 6 1)),En.mk 49 [] (SV.c (C.t true)),En.mk 48 [] (z12_1 d),En.mk 47 [] (SV.agg z12_10),En.mk 5 [] (z12_1 d),En.mk 4 [] (SV.c (C.p 6 0)),En.mk 3 [] (SV.c (C.t false)),En.mk 2 [] (SV.c (C.p 1 0)),En.mk 1 [] (SV.c (C.p 0 0))] (z12_27 d) []) K ?_
     refine RunF.any (n:=2) (vc:=[]) (fun _:Unit=>z12_53 d) (fun _=>True) K trivial ?_ ?_
     ·refine ⟨⟨trivial,?_⟩,?_⟩
      ·exact RunF.to (I:=fun x=>z12_53 d) (J:=fun x=>True) (vc:=[]) () [0,1,2,3,4,5,6] (E:=[z12_23,(!d.own)=!d.own]) K trivial K ⟨rfl,rfl⟩ trivial
      ·exact RunF.to (I:=fun x=>z12_53 d) (J:=fun x=>True) (vc:=[]) () [0,1,2,3,4,5,6] (E:=[z12_23,(!d.own)=!d.own]) K trivial K ⟨rfl,rfl⟩ trivial
     ·rintro ⟨⟩ _
      exact RunF.ret (vc:=[]) (v:=SV.tup [(true,z12_10),(false,[C.b !d.own])]) _ _ [0,1,2,3] (E:=[z12_23,didB d=!d.own]) K trivial ⟨rfl,rfl⟩ K V2
    ·exact RunF.ret (vc:=[]) (v:=SV.tup [(true,z12_10),(false,[C.t false])]) _ _ [0,1,2,3] (E:=[z12_23,didB d=false]) K trivial ⟨rfl,rfl⟩ K V2
   ·exact RunF.ret (vc:=[]) (v:=SV.tup [(true,z12_10),(false,[C.t false])]) _ _ [0,1,2,3] (E:=[z12_23,didB d=false]) K trivial ⟨rfl,rfl⟩ K V2
theorem c_formOf0 (d:Did) (hk:¬ (1≤d.kind∧d.kind≤8)):Ctr Try.prog 49 [] [.agg d.cs]
 (Det (.tup [(true,[.v (.string { data:=#[] }),.t false,.t false,.t false,.t false,.v Value.nilFunc]),(false,[.b false])]) []):=by
 refine Ctr.intro [] Try.func49 K K ?_
 refine RunF.cond (vc:=[]) (x:=decide (d.kind≤(0:Int))||decide ((9:Int)≤d.kind)) K trivial (fun h1=>?_) (fun h1=>?_)
 ·exact RunF.ret (vc:=[]) (v:=SV.tup [(true,[z12_45,C.t false,C.t false,C.t false,C.t false,C.v Value.nilFunc]),(false,[C.t false])]) _ _ [] (E:=[z12_30,Value.nilFunc=Value.nilFunc,false=false]) K trivial ⟨rfl,rfl⟩ K R
 ·exact (show False from by simp only [BL] at h1;omega).elim
end Go.Proofs.Ytlblobbklioofaa
end
namespace Go.Tx
open Go Go.RowKit
def Ext.Yields (X:Ext) (P:Program):Prop:=
 ∀ (k:Nat) (fp:Nat→Prop) (w:World),k<X.n→(∃ w1:World,X.G k true fp w1∧w1.heap.size≤w.heap.size∧∀ b,fp b→b<w.heap.size∧w.heap[b]?=w1.heap[b]?) →
  (∀ b,X.ro b→b<w.heap.size∧w.heap[b]?=X.w0.heap[b]?)→(∀ b,X.ro b→¬ fp b) →
  YieldAt Fence.wide 0 P X.l #[(X.enc k).den []] w fun e w'=>∃ (al:Bool) (fp':Nat→Prop),e=.returned (.bool al)∧X.G (k+1) al fp' w' ∧
   (∀ b,fp' b→(fp b∨w.heap.size≤b)∧b<w'.heap.size)∧Fr fp w w'
section
variable {P:Program} [hw:Wide P] {fn:Func} {n0:Nat} {U:Tgt} {c:Cfg} {vc:List Prop}
def Cfg.yielded (P:Program) (c:Cfg) (r:Nat) (new:Reg) (al:Bool):Option Cfg:=match (seg P 5000 c.k c.st).2 with
 | .yield _ _ dst k st=>if st.scp then (putSt { st with rg:=st.rg.set r new } dst [] (.c (.b al))).map fun st'=>⟨k,st'⟩ else none
 | _=>none
def Cfg.yret (P:Program) (c:Cfg) (r:Nat) (new:Reg) (al:Bool):Cfg:=match c.yielded P r new al with
 | some c'=>c'
 | none=>noCfg
theorem RegsOk.step1 {bc:Base} {ε:Env} {w w':World} {rg:List Reg} {r:Nat} {p new:Reg} {x:Ent} (hs:RegsOk ε bc.M bc.L w rg) (hB:bc.w.heap.size≤w.heap.size) (hr:rg[r]?=some p) (hp:p.excl=true) (hpl:p.live=true)
 (hx:x.h=ε.at_ r) (hnew:RegOk (ε.set r x) bc.M w' x new) (hfp:∀ b,x.fp b→(ε.fp r b∨w.heap.size≤b)∧b<w'.heap.size) (hfr:Fr (ε.fp r) w w') (hnl:new.excl=true) (hsc:rg.all (Reg.scp rg.length)=true) :
 RegsOk (ε.set r x) bc.M bc.L w' (rg.set r new):=by
 have hrl:r<rg.length:=(List.getElem?_eq_some_iff.1 hr).1
 have hεl:r<ε.length:=by rw [hs.len];exact hrl
 have entR:Env.ent (ε.set r x) r=x:=by
  unfold Env.ent;rw [List.getD_eq_getElem?_getD,List.getElem?_set_self hεl];rfl
 have entO:∀ j,j≠r→Env.ent (ε.set r x) j=ε.ent j:=fun j hj=>by
  unfold Env.ent;rw [List.getD_eq_getElem?_getD,List.getD_eq_getElem?_getD,List.getElem?_set_ne (Ne.symm hj)]
 have atAll:∀ j,Env.at_ (ε.set r x) j=ε.at_ j:=fun j=>by
  by_cases hj:j=r
  ·subst hj;unfold Env.at_ at *;rw [entR];exact hx
  ·unfold Env.at_;rw [entO j hj]
 have old:∀ (j:Nat) (s:Reg),(rg.set r new)[j]?=some s→(j=r∧s=new)∨(j≠r∧rg[j]?=some s):=fun j s hj=>by
  by_cases hjr:j=r
  ·subst hjr
   rw [List.getElem?_set_self hrl] at hj
   cases hj
   exact .inl ⟨rfl,rfl⟩
  ·rw [List.getElem?_set_ne (Ne.symm hjr)] at hj
   exact .inr ⟨hjr,hj⟩
 have keep:∀ (j:Nat) (s:Reg),j≠r→rg[j]?=some s→s.live=true→∀ b,ε.fp j b→¬ ε.fp r b:=fun j s hj hjs hl b hb hb'=>hs.sep r j p s (Ne.symm hj) hr hjs hp hl b hb' hb
 refine ⟨by simp [hs.len],fun j s hj=>?_,fun j s hj hl b hb=>?_,fun j s hj he b hb=>?_,fun i j ri rj hij hi hj he hl b hb1 hb2=>?_⟩
 ·rcases old j s hj with ⟨rfl,rfl⟩ | ⟨hjr,hj'⟩
  ·rw [entR];exact hnew
  ·rw [entO j hjr]
   refine RegOk.same (n:=rg.length) (RegOk.world (hs.reg j s hj') hfr.size (fun b hb hl hlt=>hfr.block b hlt (keep j s hjr hj' hl b hb))) (List.all_eq_true.1 hsc s (List.mem_of_getElem? hj')) (fun q _=>atAll q)
 ·rcases old j s hj with ⟨rfl,rfl⟩ | ⟨hjr,hj'⟩
  ·unfold Env.fp at hb
   rw [entR] at hb
   obtain ⟨h1,h2⟩:=hfp b hb
   refine ⟨h2,?_⟩
   rcases h1 with h1 | h1
   ·exact (hs.lt _ p hr hpl b h1).2
   ·exact .inl (Nat.le_trans hB h1)
  ·unfold Env.fp at hb
   rw [entO j hjr] at hb
   obtain ⟨h1,h2⟩:=hs.lt j s hj' hl b hb
   exact ⟨Nat.lt_of_lt_of_le h1 hfr.size,h2⟩
 ·rcases old j s hj with ⟨rfl,rfl⟩ | ⟨hjr,hj'⟩
  ·unfold Env.fp at hb
   rw [entR] at hb
   rcases (hfp b hb).1 with h1 | h1
   ·exact hs.lim _ p hr hp b h1
   ·exact .inl (Nat.le_trans hB h1)
  ·unfold Env.fp at hb
   rw [entO j hjr] at hb
   exact hs.lim j s hj' he b hb
 ·unfold Env.fp at hb1 hb2
  rcases old i ri hi with ⟨rfl,rfl⟩ | ⟨hir,hi'⟩
  ·rcases old j rj hj with ⟨rfl,rfl⟩ | ⟨hjr,hj'⟩
   ·exact hij rfl
   ·rw [entR] at hb1
    rw [entO j hjr] at hb2
    rcases (hfp b hb1).1 with h1 | h1
    ·exact keep j rj hjr hj' hl b hb2 h1
    ·exact absurd (hs.lt j rj hj' hl b hb2).1 (by omega)
  ·rcases old j rj hj with ⟨rfl,rfl⟩ | ⟨hjr,hj'⟩
   ·rw [entO i hir] at hb1
    rw [entR] at hb2
    rcases (hfp b hb2).1 with h1 | h1
    ·exact hs.sep i _ ri p hir hi' hr he hpl b hb1 h1
    ·have hlive:ri.live=true:=by cases ri<;>first | rfl | cases he
     exact absurd (hs.lt i ri hi' hlive b hb1).1 (by omega)
   ·rw [entO i hir] at hb1
    rw [entO j hjr] at hb2
    exact hs.sep i j ri rj hij hi' hj' he hl b hb1 hb2
theorem Env.set_same {ε:Env} {r:Nat} {x:Ent} (hr:r<ε.length) (hx:x.h=ε.at_ r):(∀ j,Env.at_ (ε.set r x) j=ε.at_ j)∧Env.hs (ε.set r x)=ε.hs:=by
 constructor
 ·intro j
  by_cases hj:j=r
  ·subst hj
   rw [← hx]
   unfold Env.at_ Env.ent;rw [List.getD_eq_getElem?_getD,List.getElem?_set_self hr];rfl
  ·unfold Env.at_ Env.ent;rw [List.getD_eq_getElem?_getD,List.getD_eq_getElem?_getD,List.getElem?_set_ne (Ne.symm hj)]
 ·unfold Env.hs
  apply List.ext_getElem?
  intro i
  rw [List.getElem?_map,List.getElem?_map]
  by_cases hi:i=r
  ·subst hi
   rw [List.getElem?_set_self hr,List.getElem?_eq_getElem hr]
   simp only [Option.map_some,hx]
   unfold Env.at_ Env.ent
   rw [List.getD_eq_getElem?_getD,List.getElem?_eq_getElem hr]
   rfl
  ·rw [List.getElem?_set_ne (Ne.symm hi)]
theorem RunF.yield {X:Ext} (hy:X.Yields P) {r:Nat} (rf:Nat) {k:Nat} {args:List SV} {arg:SV} {E:List Prop} (h:see P fn c=(vc,.yield r args)) (hv:Conj vc)
 (hr:nth (c.at P).rg r=some (.ext X k true)) (hf:nth (c.at P).rg rf=some (.froz X)) (hle:Nat.ble (c.at P).rg.length 1000000=true) (hk:k<X.n) (he:X.enc k=arg) (hcl:arg.scp 0=true)
 (ha:sEqs [arg] args=some E) (hE:Conj E) (hsome:∀ al,(c.yielded P r (.ext X (k+1) al) al).isSome=true)
 (next:∀ al:Bool,RunF P fn n0 U (c.yret P r (.ext X (k+1) al) al)):RunF P fn n0 U c:=by
 unfold RunF at next ⊢
 intro b hb
 unfold see at h
 unfold Cfg.at at hr hf hle
 unfold Cfg.yret Cfg.yielded at next
 unfold Cfg.yielded at hsome
 generalize hg:seg P 5000 c.k c.st=rr at h hr hf hle next hsome
 obtain ⟨vc',out⟩:=rr
 cases out<;>simp only [Prod.mk.injEq,reduceCtorEq,and_false] at h
 case yield r' args' dst k' st =>
  simp only [View.yield.injEq] at h
  obtain ⟨rfl,rfl,rfl⟩:=h
  refine seg_sound hw.mixed 5000 _ _ _ _ hg hv.toAll (fun ε a w hs=>?_)
  simp only at hr hf hle hsome next
  have hr':=nthSome hr
  have hf':=nthSome hf
  have hε:ε.length≤1000000:=by rw [hs.regs.len];exact Nat.le_of_ble_eq_true hle
  obtain ⟨hh,hG⟩:=hs.regs.reg r' _ hr'
  have hfz:=hs.regs.reg rf _ hf'
  have hrl:r'<ε.length:=by rw [hs.regs.len];exact (List.getElem?_eq_some_iff.1 hr').1
  have hne:r'≠rf:=fun e=>by subst e;rw [hr] at hf;cases hf
  have harg:(args'.map (SV.den ε)).toArray=#[(X.enc k).den []]:=by
   rw [← sEqs_sound (ε:=ε) hε ha hE.toAll,he]
   simp only [List.map_cons,List.map_nil]
   rw [sden_same (ε:=[]) (ε':=ε) (n:=0) hcl (fun r hr=>absurd hr (by omega))]
  refine ⟨X.l,hh,?_⟩
  rw [harg]
  obtain ⟨f0,tmps,assign,body,hrun,hround⟩:=hy k (ε.fp r') w hk hG (fun b' hb'=>let ⟨_,h2,h3⟩:=hfz b' hb';⟨h2,h3⟩)
   (fun b' hro hfp=>hs.regs.sep r' rf _ _ hne hr' hf' rfl rfl b' hfp (hfz b' hro).1)
  refine ⟨f0,tmps,assign,body,hrun,hround.mono ?_⟩
  rintro e w' ⟨al,fp',rfl,hG',hfp',hfrm⟩
  refine ⟨_,rfl,?_⟩
  have hs1:=hsome al
  have hn1:=next al
  split at hs1
  ·rename_i hscd
   rw [if_pos hscd] at hn1
   obtain ⟨s1,s2⟩:=scoped_parts hscd
   obtain ⟨e1,e2⟩:=Env.set_same (x:=⟨ε.at_ r',fp'⟩) hrl rfl
   cases hput:putSt { st with rg:=st.rg.set r' (.ext X (k+1) al) } dst [] (.c (.b al)) with
   | none=>rw [hput] at hs1;cases hs1
   | some st' =>
     rw [hput] at hn1
     simp only [Option.map_some] at hn1
     have hreg:RegsOk (ε.set r' ⟨ε.at_ r',fp'⟩) b.M b.L w' (st.rg.set r' (.ext X (k+1) al)):=
      RegsOk.step1 hs.regs hs.below.size hr' rfl rfl rfl ⟨hh,w',hG',Nat.le_refl _,fun b' hb'=>⟨(hfp' b' hb').2,rfl⟩⟩ hfp' hfrm rfl s2
     have hsat:SatE b { st with rg:=st.rg.set r' (.ext X (k+1) al) } (ε.set r' ⟨ε.at_ r',fp'⟩) a w':=by
      refine ⟨hs.defs,hs.size,fun en hen=>(hs.fr en hen).same (s1 en hen) (fun q _=>e1 q),hreg,hs.below.step hfrm.os hfrm.tape hfrm.output hfrm.size (fun q hq hmq=>hfrm.block q (Nat.lt_of_lt_of_le hq hs.below.size) (fun hfq=>?_)),by rw [e2];exact hs.pre⟩
      rcases hs.regs.lim r' _ hr' rfl q hfq with h | h
      ·omega
      ·exact hmq h
     exact hn1 b hb _ w' ⟨_,put_sound hsat hput (fun _=>rfl) (fun hn=>absurd (gHolds_nil _) hn)⟩
  ·cases hs1
 all_goals first | (unfold callV at h;split at h<;>simp at h;done) | (split at h<;>simp at h)
end
attribute [irreducible] Cfg.yielded Cfg.yret
end Go.Tx
namespace Go.Tx
open Go Go.RowKit
theorem RegsOk.world2 {ε:Env} {M L:Nat→Prop} {w w':World} {rg:List Reg} (hs:RegsOk ε M L w rg) (hsz:w.heap.size≤w'.heap.size)
 (hb:∀ (i:Nat) (r:Reg),rg[i]?=some r→r.live=true→∀ b,ε.fp i b→b<w.heap.size→w'.heap[b]?=w.heap[b]?):RegsOk ε M L w' rg:=
 ⟨hs.len,fun i r hi=>RegOk.world (hs.reg i r hi) hsz (fun b h1 h2 h3=>hb i r hi h2 b h1 h3),fun i r hi hl b hb'=>⟨Nat.lt_of_lt_of_le (hs.lt i r hi hl b hb').1 hsz,(hs.lt i r hi hl b hb').2⟩,hs.lim,hs.sep⟩
theorem RegsOk.narrow {ε:Env} {M L M' L':Nat→Prop} {w:World} {rg:List Reg} (hs:RegsOk ε M L w rg) (hM:∀ (i:Nat) (r:Reg),rg[i]?=some r→r.excl=true→∀ b,ε.fp i b→M' b)
 (hL:∀ (i:Nat) (r:Reg),rg[i]?=some r→r.live=true→∀ b,ε.fp i b→L' b):RegsOk ε M' L' w rg:=
 ⟨hs.len,fun i r hi=>RegOk.reM (fun he b hb=>hM i r hi he b hb) (hs.reg i r hi),fun i r hi hl b hb=>⟨(hs.lt i r hi hl b hb).1,hL i r hi hl b hb⟩,fun i r hi he b hb=>hM i r hi he b hb,hs.sep⟩
def exclFp (rg:List Reg) (ε:Env) (b:Nat):Prop:=∃ (i:Nat) (r:Reg),rg[i]?=some r∧r.excl=true∧ε.fp i b
def liveFp (rg:List Reg) (ε:Env) (b:Nat):Prop:=∃ (i:Nat) (r:Reg),rg[i]?=some r∧r.live=true∧ε.fp i b
theorem exclFp_live {rg:List Reg} {ε:Env} {b:Nat} (h:exclFp rg ε b):liveFp rg ε b:=let ⟨i,r,h1,h2,h3⟩:=h;⟨i,r,h1,excl_live h2,h3⟩
theorem RegsOk.M_of {ε:Env} {M L:Nat→Prop} {w:World} {rg:List Reg} (hs:RegsOk ε M L w rg) {b:Nat} (h:exclFp rg ε b):M b:=let ⟨i,r,h1,h2,h3⟩:=h;hs.lim i r h1 h2 b h3
theorem RegsOk.L_of {ε:Env} {M L:Nat→Prop} {w:World} {rg:List Reg} (hs:RegsOk ε M L w rg) {b:Nat} (h:liveFp rg ε b):b<w.heap.size∧L b:=let ⟨i,r,h1,h2,h3⟩:=h;hs.lt i r h1 h2 b h3
def RegsAt {X:Type} (I:X→List Reg) (J:X→Prop):Base→World→Prop:=fun b w=>∃ (x:X) (ε:Env),J x∧b.e <+: ε.hs∧RegsOk ε b.M b.L w (I x)∧Fr b.m b.w w
def Tround {X:Type} (I:X→List Reg) (J:X→Prop) (Jx:Code→X→Prop):Tgt:=fun b e a w=>match e with
 | .normal=>RegsAt I J b w
 | .ret=>RegsAt I (Jx .ret) b w
 | .exit id=>RegsAt I (Jx (.exit id)) b w
 | _=>False
def endEnt (n0:Nat) (π:List Nat) (st:St) (rg:List Reg):Option (List Prop):=
 if noDup π&&idOn π n0&&Nat.ble n0 st.rg.length&&Nat.ble st.rg.length 1000000&&rg.all (Reg.scp rg.length) then regsMatch (at' π) st.rg π rg else none
theorem endEnt_sound {X:Type} {I:X→List Reg} {J:X→Prop} {b:Base} {n0:Nat} (hb:b.e.length=n0) {π:List Nat} {st:St} {x:X} {E:List Prop} (h:endEnt n0 π st (I x)=some E) (hE:All E) (hJ:J x) {a:Act} {w:World} (hs:Sat b st a w):RegsAt I J b w:=by
 obtain ⟨ε,hs⟩:=hs
 unfold endEnt at h
 split at h
 ·rename_i hc
  simp only [Bool.and_eq_true] at hc
  obtain ⟨⟨⟨⟨c1,c2⟩,c3⟩,c4⟩,c5⟩:=hc
  have hε:ε.length≤1000000:=by rw [hs.regs.len];exact Nat.le_of_ble_eq_true c4
  exact ⟨x,π.map ε.ent,hJ,hs_map hb hs.pre (idOn_spec c2),hs.regs.renum hε c5 c1 h hE,hs.below⟩
 ·cases h
section
variable {P:Program} [hw:Wide P] {fn:Func} {n0:Nat} {U:Tgt} {c:Cfg} {vc:List Prop}
theorem RunF.endRound {X:Type} {I:X→List Reg} {J:X→Prop} {Jx:Code→X→Prop} (x:X) (π:List Nat) {E:List Prop} (h:see P fn c=(vc,.jump (fun b _ w=>RegsAt I J b w))) (hv:Conj vc)
 (he:endEnt n0 π (c.at P) (I x)=some E) (hE:Conj E) (hJ:J x):RunF P fn n0 (Tround I J Jx) c:=by
 unfold RunF
 intro b hb
 unfold see at h
 unfold Cfg.at at he
 generalize hg:seg P 5000 c.k c.st=rr at h he
 obtain ⟨vc',out⟩:=rr
 cases out<;>simp only [Prod.mk.injEq,reduceCtorEq,and_false] at h
 case jump J' st =>
  simp only [View.jump.injEq] at h
  obtain ⟨rfl,rfl⟩:=h
  exact seg_sound hw.mixed 5000 _ _ _ _ hg hv.toAll (fun a w hs=>endEnt_sound hb he hE.toAll hJ hs)
 all_goals first | (unfold callV at h;split at h<;>simp at h;done) | (split at h<;>simp at h)
end
structure Rng where
 fn:FuncId
 tmps:Array Value
 p:Tmp
 assign:Code
 body:Code
 D:Nat
 W1:World
 hs0:List Value
 bM:Nat→Prop
 bL:Nat→Prop
 ro:Nat→Prop
def Rng.lp (g:Rng) (st:LoopState) (pe:Option Code):Loop:={ state:=st,pending:=pe,fn:=g.fn,tmps:=g.tmps,params:=#[g.p],assign:=g.assign,body:=g.body,defers:=g.D }
def Rng.fpOf (g:Rng) (rg:List Reg) (ε:Env) (b:Nat):Prop:=b=g.D∨b=g.D+1∨(liveFp rg ε b∧¬ g.ro b)
structure Rng.At (g:Rng) (rg:List Reg) (ε:Env) (st:LoopState) (pe:Option Code) (w:World):Prop where
 hs:g.hs0 <+: ε.hs
 regs:RegsOk ε g.bM g.bL w rg
 excl:∀ b,exclFp rg ε b→¬ g.ro b
 loop:w.heap[g.D+1]?=some (.loop (g.lp st pe))
 mrk:w.heap[g.D]?=some (.deferred (some []))
 off:∀ b,liveFp rg ε b→b≠g.D∧b≠g.D+1
 same:∀ b,g.ro b→w.heap[b]?=g.W1.heap[b]?
 size:g.W1.heap.size≤w.heap.size
 old:∀ b,g.ro b→b<g.D
def Rng.G (g:Rng) {X:Type} (I:X→List Reg) (J:Nat→X→Prop) (Jx:Code→X→Prop) (k:Nat) (al:Bool) (fp:Nat→Prop) (w:World):Prop:=
 ∃ (x:X) (ε:Env),(∀ b,fp b↔g.fpOf (I x) ε b) ∧
  ((al=true∧J k x∧g.At (I x) ε .ready none w)∨(al=false∧∃ c,Jx c x∧g.At (I x) ε .done (some c) w))
theorem Rng.At.move {g:Rng} {rg:List Reg} {ε:Env} {st:LoopState} {pe:Option Code} {w1 w:World} (h:g.At rg ε st pe w1) (hsz:w1.heap.size≤w.heap.size)
 (hb:∀ b,g.fpOf rg ε b→w.heap[b]?=w1.heap[b]?) (hro:∀ b,g.ro b→w.heap[b]?=g.W1.heap[b]?):g.At rg ε st pe w:=by
 refine ⟨h.hs,h.regs.world2 hsz (fun i r hi hl b hf _=>?_),h.excl,?_,?_,h.off,hro,Nat.le_trans h.size hsz,h.old⟩
 ·by_cases hr:g.ro b
  ·rw [hro b hr,h.same b hr]
  ·exact hb b (.inr (.inr ⟨⟨i,r,hi,hl,hf⟩,hr⟩))
 ·rw [hb _ (.inr (.inl rfl))];exact h.loop
 ·rw [hb _ (.inl rfl)];exact h.mrk
theorem Rng.G.move {g:Rng} {X:Type} {I:X→List Reg} {J:Nat→X→Prop} {Jx:Code→X→Prop} {k:Nat} {al:Bool} {fp:Nat→Prop} {w1 w:World} (h:g.G I J Jx k al fp w1) (hsz:w1.heap.size≤w.heap.size)
 (hb:∀ b,fp b→b<w.heap.size∧w.heap[b]?=w1.heap[b]?) (hro:∀ b,g.ro b→w.heap[b]?=g.W1.heap[b]?):g.G I J Jx k al fp w:=by
 obtain ⟨x,ε,hf,h⟩:=h
 refine ⟨x,ε,hf,?_⟩
 have hb':∀ b,g.fpOf (I x) ε b→w.heap[b]?=w1.heap[b]?:=fun b h=>(hb b ((hf b).2 h)).2
 rcases h with ⟨h1,h2,h3⟩ | ⟨h1,c,h2,h3⟩
 ·exact .inl ⟨h1,h2,h3.move hsz hb' hro⟩
 ·exact .inr ⟨h1,c,h2,h3.move hsz hb' hro⟩
theorem Rng.At.put {g:Rng} {rg:List Reg} {ε:Env} {w:World} {o:Obj} (hM:RegsOk ε g.bM g.bL w rg) (hoff:∀ b,liveFp rg ε b→b≠g.D∧b≠g.D+1):RegsOk ε g.bM g.bL (w.putObj (g.D+1) o) rg:=by
 refine hM.world2 (by simp) (fun i r hi hl b hf _=>?_)
 exact World.putObj_heap_other (hoff b ⟨i,r,hi,hl,hf⟩).2
def Rng.b0 (g:Rng) (rg:List Reg) (ε:Env) (w:World):Base:={ w:=w,e:=g.hs0,m:=exclFp rg ε,l:=liveFp rg ε,ro:=some (g.D+1),d:=[] }
theorem prefix_at {l:List Value} {ε:Env} (h:l <+: ε.hs) {r:Nat} (hr:r<l.length):ε.at_ r=l.getD r (.slice none 0 0):=by
 obtain ⟨t,ht⟩:=h
 have h1:ε.hs[r]?=some l[r]:=by rw [← ht,List.getElem?_append_left hr,List.getElem?_eq_getElem hr]
 unfold Env.hs at h1
 rw [List.getElem?_map] at h1
 cases h2:ε[r]? with
 | none=>rw [h2] at h1;cases h1
 | some x =>
   rw [h2] at h1
   simp only [Option.map_some,Option.some.injEq] at h1
   unfold Env.at_
   rw [ent_get h2,h1,List.getD_eq_getElem?_getD,List.getElem?_eq_getElem hr]
   rfl
def keepsFr (p N nf:Nat) (fr:List En):Bool:=fr.all fun e=>e.g.isEmpty&&!(Nat.beq e.slot p)&&Nat.blt e.slot N&&e.sv.scp nf
def roundSt (g:Rng) (N:Nat) (fr:List En) (v:SV) (rg:List Reg):St:={ N,fr:={ slot:=g.p,g:=[],sv:=v }::fr,rg,wr:=[1000000007] }
section
variable {P:Program}
theorem fr_two {m m':Nat→Prop} {w w1 w2:World} (h1:Fr m w w1) (h2:Fr m' w1 w2) (hm:∀ b,m' b→b<w.heap.size→m b):Fr m w w2:=
 h1.step h2.os h2.tape h2.output h2.size (fun k hk hn=>h2.block k (Nat.lt_of_lt_of_le hk h1.size) (fun h=>hn (hm k h hk)))
theorem Fr.put {m:Nat→Prop} {w:World} {r:Nat} (o:Obj) (hm:m r):Fr m w (w.putObj r o):=
 ⟨rfl,rfl,rfl,by simp,fun k _ hn=>World.putObj_heap_other (fun e=>hn (e▸hm))⟩
theorem Rng.round (g:Rng) {X:Type} {I:X→List Reg} {J:Nat→X→Prop} {Jx:Code→X→Prop} {fn:Func} {n N nf:Nat} {enc:Nat→SV} {fr0:List En} {stA:Nat→X→St}
 (hnf:g.hs0.length=nf) (hN:g.tmps.size=N) (hp:g.p<N) (hk0:keepsFr g.p N nf fr0=true) (hget:∀ e∈fr0,∀ ε:Env,g.hs0 <+: ε.hs→g.tmps.getD e.slot undef=e.sv.den ε)
 (hbM:∀ b,g.W1.heap.size≤b→g.bM b) (hbL:∀ b,g.W1.heap.size≤b→g.bL b) (henc:∀ k,(enc k).scp 0=true)
 (hassign:∀ k x,k<n→J k x→RunF P fn nf (fun _ _ _ _=>False) ⟨[.code g.assign,.jmp (AtSt (fun _:Unit=>stA k x) (fun _=>True))],roundSt g N fr0 (enc k) (I x)⟩)
 (hrd:∀ k x,(stA k x).rd=true)
 (hbody:∀ k x,k<n→J k x→RunF P fn nf (Tround I (J (k+1)) Jx) ⟨[.code g.body,.jmp (fun b _ w=>RegsAt I (J (k+1)) b w)],stA k x⟩)
 {k:Nat} {fp:Nat→Prop} {w:World} (hk:k<n) (hG:g.G I J Jx k true fp w) :
 YieldAt Fence.wide 0 P (g.D+1) #[(enc k).den []] w fun e w'=>∃ (al:Bool) (fp':Nat→Prop),e=.returned (.bool al)∧g.G I J Jx (k+1) al fp' w' ∧
  (∀ b,fp' b→(fp b∨w.heap.size≤b)∧b<w'.heap.size)∧Fr fp w w':=by
 obtain ⟨x,ε,hfp,⟨_,hJ,hA⟩ | ⟨h,_⟩⟩:=hG
 case inr=>cases h
 have hDlt:g.D+1<w.heap.size:=(Array.getElem?_eq_some_iff.1 hA.loop).1
 refine ⟨_,_,_,_,run_yield hA.loop rfl,roundIn_of_wpIn trivial ?_⟩
 let B1:Base:=g.b0 (I x) ε w
 have hM1:∀ b,B1.M b→w.heap.size≤b∨exclFp (I x) ε b:=fun b h=>h
 have hL1:∀ b,B1.L b→w.heap.size≤b∨liveFp (I x) ε b:=fun b h=>h
 have hsat1:SatE B1 (roundSt g N fr0 (enc k) (I x)) ε { tmps:=((#[g.p].zip #[(enc k).den []]).foldl (fun t (p,v)=>t.setIfInBounds p v) g.tmps),defers:=[] } w:=by
  have hz:((#[g.p].zip #[(enc k).den []]).foldl (fun (t:Array Value) (p,v)=>t.setIfInBounds p v) g.tmps)=g.tmps.setIfInBounds g.p ((enc k).den []):=by simp
  rw [hz]
  refine ⟨⟨rfl,fun h=>by cases h⟩,by simp [hN,roundSt],fun e he=>?_,hA.regs.narrow (fun i r h1 h2 b h3=>.inr ⟨i,r,h1,h2,h3⟩) (fun i r h1 h2 b h3=>.inr ⟨i,r,h1,h2,h3⟩),Fr.refl _ _,hA.hs⟩
  cases he with
  | head =>
    refine ⟨hp,fun _=>?_,fun hn=>absurd (gHolds_nil _) hn⟩
    unfold get
    simp only [Array.getD_eq_getD_getElem?]
    rw [Array.getElem?_setIfInBounds_self_of_lt (by rw [hN];exact hp)]
    exact sden_same (henc k) (fun r hr=>absurd hr (by omega))
  | tail _ he =>
    have h1:=List.all_eq_true.1 hk0 e he
    simp only [Bool.and_eq_true,Bool.not_eq_true'] at h1
    obtain ⟨⟨⟨h1,h2⟩,h3⟩,h4⟩:=h1
    have hg:e.g=[]:=by cases hh:e.g with
     | nil=>rfl
     | cons a l=>rw [hh] at h1;cases h1
    refine ⟨Nat.le_of_ble_eq_true h3,fun _=>?_,fun hn=>absurd (by rw [hg];exact gHolds_nil _) hn⟩
    unfold get
    simp only [Array.getD_eq_getD_getElem?]
    rw [Array.getElem?_setIfInBounds_ne (fun e'=>by rw [← e',Nat.beq_refl] at h2;cases h2)]
    have:=hget e he ε hA.hs
    rw [Array.getD_eq_getD_getElem?] at this
    exact this
 have hassign1:=hassign k x hk hJ
 unfold RunF at hassign1
 have hrun1:=hassign1 B1 hnf _ w ⟨ε,hsat1⟩
 have hbody1:=hbody k x hk hJ
 unfold RunF at hbody1
 refine wpIn_mono hrun1 (fun e a1 w1 hq=>?_)
 cases e with
 | normal =>
   obtain ⟨_,_,ε1,hs1⟩:=hq
   have hM1':∀ b,exclFp (stA k x).rg ε1 b→w.heap.size≤b∨exclFp (I x) ε b:=fun b h=>hs1.regs.M_of h
   have hL1':∀ b,liveFp (stA k x).rg ε1 b→w.heap.size≤b∨liveFp (I x) ε b:=fun b h=>(hs1.regs.L_of h).2
   have hfr1:Fr (exclFp (I x) ε) w w1:=hs1.below
   have hnx:∀ b,b=g.D∨b=g.D+1→¬ exclFp (I x) ε b:=fun b hb h=>by
    have:=hA.off b (exclFp_live h)
    rcases hb with hb | hb
    ·exact this.1 hb
    ·exact this.2 hb
   have hl1:w1.heap[g.D+1]?=some (.loop (g.lp .ready none)):=(hfr1.block _ hDlt (hnx _ (.inr rfl))).trans hA.loop
   have hd1:w1.heap[g.D]?=some (.deferred (some [])):=(hfr1.block _ (by omega) (hnx _ (.inl rfl))).trans hA.mrk
   refine ⟨_,run_beginRound hl1 rfl,?_⟩
   generalize hw2:w1.putObj (g.D+1) (.loop { g.lp .ready none with state:=.busy })=w2
   have hsz2:w2.heap.size=w1.heap.size:=by rw [← hw2];simp
   have hoff1:∀ b,liveFp (stA k x).rg ε1 b→b≠g.D∧b≠g.D+1:=fun b h=>by
    rcases hL1' b h with h | h
    ·omega
    ·exact hA.off b h
   have hregs2:RegsOk ε1 B1.M B1.L w2 (stA k x).rg:=by
    rw [← hw2]
    exact Rng.At.put (g:={ g with bM:=B1.M,bL:=B1.L }) hs1.regs hoff1
   let B2:Base:=g.b0 (stA k x).rg ε1 w2
   have hsat2:SatE B2 (stA k x) ε1 a1 w2:=
    ⟨⟨hs1.defs.1,fun h=>by rw [hrd] at h;cases h⟩,hs1.size,hs1.fr,hregs2.narrow (fun i r h1 h2 b h3=>.inr ⟨i,r,h1,h2,h3⟩) (fun i r h1 h2 b h3=>.inr ⟨i,r,h1,h2,h3⟩),Fr.refl _ _,hs1.pre⟩
   have hl2:w2.heap[g.D+1]?=some (.loop (g.lp .busy none)):=by
    rw [← hw2];exact World.putObj_heap_same (Nat.lt_of_lt_of_le hDlt hfr1.size)
   have hd2:w2.heap[g.D]?=some (.deferred (some [])):=by
    rw [← hw2];exact (World.putObj_heap_other (by omega)).trans hd1
   have hfp2:∀ b,fp b↔(b=g.D∨b=g.D+1∨(liveFp (I x) ε b∧¬ g.ro b)):=hfp
   have hexfp:∀ b,exclFp (I x) ε b→fp b:=fun b h=>(hfp2 b).2 (.inr (.inr ⟨exclFp_live h,hA.excl b h⟩))
   have hfr2:Fr fp w w2:=by
    rw [← hw2]
    refine Fr.step (w:=w1) ⟨hfr1.os,hfr1.tape,hfr1.output,hfr1.size,fun b hb hn=>hfr1.block b hb (fun h=>hn (hexfp b h))⟩ rfl rfl rfl (by simp) (fun b hb hn=>World.putObj_heap_other (fun e=>hn ((hfp2 b).2 (.inr (.inl e)))))
   refine wpIn_mono (hbody1 B2 hnf a1 w2 ⟨ε1,hsat2⟩) (fun e a3 w3 hq3=>?_)
   have hend:∀ (K:X→Prop) (jump:Option Code) (x3:X) (ε3:Env),g.hs0 <+: ε3.hs→RegsOk ε3 B2.M B2.L w3 (I x3)→Fr B2.m B2.w w3 →
    w3.heap[g.D+1]?=some (.loop (g.lp .busy none)) ∧
    (∀ w4,w4=w3.putObj (g.D+1) (.loop (g.lp (if jump.isNone then .ready else .done) jump)) →
      g.At (I x3) ε3 (if jump.isNone then .ready else .done) jump w4∧(∀ b,g.fpOf (I x3) ε3 b→(fp b∨w.heap.size≤b)∧b<w4.heap.size)∧Fr fp w w4):=by
    intro K jump x3 ε3 hp3 hr3 hf3
    have hM3:∀ b,exclFp (I x3) ε3 b→w.heap.size≤b∨exclFp (I x) ε b:=fun b h=>by
     rcases hr3.M_of h with h | h
     ·exact .inl (Nat.le_trans hfr1.size (hsz2▸h))
     ·exact hM1' b h
    have hL3:∀ b,liveFp (I x3) ε3 b→b<w3.heap.size∧(w.heap.size≤b∨liveFp (I x) ε b):=fun b h=>by
     obtain ⟨h1,h2⟩:=hr3.L_of h
     refine ⟨h1,?_⟩
     rcases h2 with h | h
     ·exact .inl (Nat.le_trans hfr1.size (hsz2▸h))
     ·exact hL1' b h
    have hf3':Fr (exclFp (stA k x).rg ε1) w2 w3:=hf3
    have hn2:∀ b,b<w.heap.size→¬ exclFp (I x) ε b→¬ exclFp (stA k x).rg ε1 b:=fun b hb hn h=>by
     rcases hM1' b h with h | h
     ·omega
     ·exact hn h
    have hfr3:Fr fp w w3:=hfr2.step hf3'.os hf3'.tape hf3'.output hf3'.size (fun b hb hn=>hf3'.block b (Nat.lt_of_lt_of_le hb hfr2.size) (hn2 b hb (fun h=>hn (hexfp b h))))
    have hl3:w3.heap[g.D+1]?=some (.loop (g.lp .busy none)):=(hf3'.block _ (Nat.lt_of_lt_of_le hDlt hfr2.size) (hn2 _ hDlt (hnx _ (.inr rfl)))).trans hl2
    have hd3:w3.heap[g.D]?=some (.deferred (some [])):=(hf3'.block _ (Nat.lt_of_lt_of_le (by omega) hfr2.size) (hn2 _ (by omega) (hnx _ (.inl rfl)))).trans hd2
    refine ⟨hl3,fun w4 hw4=>?_⟩
    have hoff3:∀ b,liveFp (I x3) ε3 b→b≠g.D∧b≠g.D+1:=fun b h=>by
     rcases (hL3 b h).2 with h | h
     ·omega
     ·exact hA.off b h
    have hsz4:w4.heap.size=w3.heap.size:=by rw [hw4];simp
    refine ⟨⟨hp3,?_,fun b h hro=>?_,?_,?_,hoff3,fun b hro=>?_,?_,hA.old⟩,fun b h=>?_,?_⟩
    ·have hn:RegsOk ε3 g.bM g.bL w3 (I x3):=hr3.narrow (fun i r h1 h2 b h3=>by
      rcases hM3 b ⟨i,r,h1,h2,h3⟩ with h | h
      ·exact hbM b (Nat.le_trans hA.size h)
      ·exact hA.regs.M_of h)
      (fun i r h1 h2 b h3=>by
        rcases (hL3 b ⟨i,r,h1,h2,h3⟩).2 with h | h
        ·exact hbL b (Nat.le_trans hA.size h)
        ·exact (hA.regs.L_of h).2)
     rw [hw4]
     exact Rng.At.put hn hoff3
    ·rcases hM3 b h with h | h
     ·have:=hA.old b hro;omega
     ·exact hA.excl b h hro
    ·rw [hw4];exact World.putObj_heap_same (Array.getElem?_eq_some_iff.1 hl3).1
    ·rw [hw4];exact (World.putObj_heap_other (by omega)).trans hd3
    ·have hb:=hA.old b hro
     have hnf:¬ fp b:=fun h=>by
      rcases (hfp2 b).1 h with h | h | h
      ·omega
      ·omega
      ·exact h.2 hro
     rw [hw4,World.putObj_heap_other (by omega),hfr3.block b (by omega) hnf]
     exact hA.same b hro
    ·rw [hsz4];exact Nat.le_trans hA.size hfr3.size
    ·rcases h with h | h | ⟨h1,h2⟩
     ·exact ⟨.inl ((hfp2 b).2 (.inl h)),by rw [hsz4,h];exact Nat.lt_of_lt_of_le (by omega) hfr3.size⟩
     ·exact ⟨.inl ((hfp2 b).2 (.inr (.inl h))),by rw [hsz4,h];exact Nat.lt_of_lt_of_le hDlt hfr3.size⟩
     ·refine ⟨?_,by rw [hsz4];exact (hL3 b h1).1⟩
      rcases (hL3 b h1).2 with h | h
      ·exact .inr h
      ·exact .inl ((hfp2 b).2 (.inr (.inr ⟨h,h2⟩)))
    ·rw [hw4]
     exact hfr3.step rfl rfl rfl (by simp) (fun b hb hn=>World.putObj_heap_other (fun e=>hn ((hfp2 b).2 (.inr (.inl e)))))
   cases e with
   | normal =>
     have hq3':RegsAt I (J (k+1)) B2 w3:=hq3
     obtain ⟨x3,ε3,hJ3,hp3,hr3,hf3⟩:=hq3'
     obtain ⟨h1,h2⟩:=hend (J (k+1)) none x3 ε3 hp3 hr3 hf3
     obtain ⟨h3,h4,h5⟩:=h2 _ rfl
     exact ⟨_,_,run_endRound none h1,true,_,rfl,⟨x3,ε3,fun b=>Iff.rfl,.inl ⟨rfl,hJ3,h3⟩⟩,h4,h5⟩
   | ret =>
     have hq3':RegsAt I (Jx .ret) B2 w3:=hq3
     obtain ⟨x3,ε3,hJ3,hp3,hr3,hf3⟩:=hq3'
     obtain ⟨h1,h2⟩:=hend (J (k+1)) (some .ret) x3 ε3 hp3 hr3 hf3
     obtain ⟨h3,h4,h5⟩:=h2 _ rfl
     exact ⟨_,_,run_endRound (some .ret) h1,false,_,rfl,⟨x3,ε3,fun b=>Iff.rfl,.inr ⟨rfl,.ret,hJ3,h3⟩⟩,h4,h5⟩
   | exit id =>
     have hq3':RegsAt I (Jx (.exit id)) B2 w3:=hq3
     obtain ⟨x3,ε3,hJ3,hp3,hr3,hf3⟩:=hq3'
     obtain ⟨h1,h2⟩:=hend (J (k+1)) (some (.exit id)) x3 ε3 hp3 hr3 hf3
     obtain ⟨h3,h4,h5⟩:=h2 _ rfl
     exact ⟨_,_,run_endRound (some (.exit id)) h1,false,_,rfl,⟨x3,ε3,fun b=>Iff.rfl,.inr ⟨rfl,.exit id,hJ3,h3⟩⟩,h4,h5⟩
   | _=>exact hq3.elim
 | _=>exact hq.elim
end
def keepFr (nf:Nat) (fr:List En):List En:=fr.filter fun e=>e.g.isEmpty&&e.sv.scp nf
def K.isJmp:K→Bool
 | .jmp _=>true
 | _=>false
def Cfg.rgF (P:Program) (c:Cfg) (st:St):Option (Nat×List Nat):=match (seg P 5000 c.k c.st).2 with
 | .range f [p] _ _ k _=>match k.any K.isJmp,Nat.blt p st.N,opndC st [] f with
   | false,true,some (.fn fi caps)=>some (fi,caps)
   | _,_,_=>none
 | _=>none
def Cfg.rgA (P:Program) (c:Cfg) (J:Base→Act→World→Prop) (st:St) (nf:Nat) (v:SV) (rg:List Reg):Cfg:=match (seg P 5000 c.k c.st).2 with
 | .range _ [p] assign _ _ _=>⟨[.code assign,.jmp J],{ N:=st.N,fr:={ slot:=p,g:=[],sv:=v }::(keepFr nf st.fr).filter (fun e=>!(Nat.beq e.slot p)),rg,wr:=[1000000007] }⟩
 | _=>noCfg
def Cfg.rgB (P:Program) (c:Cfg) (J:Base→Act→World→Prop) (st:St):Cfg:=match (seg P 5000 c.k c.st).2 with
 | .range _ _ _ body _ _=>⟨[.code body,.jmp J],st⟩
 | _=>noCfg
def Cfg.rgK (P:Program) (c:Cfg) (st:St) (nf:Nat) (rg:List Reg):Cfg:=match (seg P 5000 c.k c.st).2 with
 | .range _ _ _ _ k _=>⟨k,{ N:=st.N,fr:=keepFr nf st.fr,rg,wr:=st.wr }⟩
 | _=>noCfg
def Cfg.rgC (P:Program) (c:Cfg) (cd:Code) (st:St) (nf:Nat) (rg:List Reg):Cfg:=match (seg P 5000 c.k c.st).2 with
 | .range _ _ _ _ k _=>⟨.code cd::k,{ N:=st.N,fr:=keepFr nf st.fr,rg,wr:=st.wr }⟩
 | _=>noCfg
def RangeEnd (X:Ext) (m:Nat):SV→List Reg→Prop:=fun _ post=>∃ (k:Nat) (al:Bool),(al=true→k=X.n)∧post[m]?=some (.ext X k al)
theorem contQ_base {P:Program} [hw:Wide P] {b b':Base} {Q Q':Exit→Act→World→Prop} (hro:b'.ro=b.ro) (h:∀ e a w,Q' e a w→Q e a w):∀ (k:List K),k.any K.isJmp=false→∀ e a w,contQ P b' Q' k e a w→contQ P b Q k e a w
 | [],_,e,a,w,hq=>h e a w hq
 | x::k,hj,e,a,w,hq=>by
   simp only [List.any_cons,Bool.or_eq_false_iff] at hj
   have ih:=contQ_base (P:=P) hro h k hj.2
   have h1:kpost P b' x (contQ P b Q k) e a w:=kpost_mono ih x e a w hq
   have h2:kpost P b x (contQ P b Q k) e a w:=by
    cases x with
    | jmp J=>cases hj.1
    | code c=>simp only [kpost,hro] at h1 ⊢;exact h1
    | rnd body n=>simp only [kpost,hro] at h1 ⊢;exact h1
    | _=>exact h1
   exact h2
theorem shut_append {ds es:List Nat} {w:World}:shut (ds++es) w=shut es (shut ds w):=by
 unfold shut;rw [List.foldl_append]
theorem Rt.unmark {P:Program} {fn:Func} {S:SV→List Reg→Prop} {b:Base} {D:Nat} {w4:World} {b':Base} (hb':b'={ w:=w4,e:=b.e,m:=fun g=>b.M g∧g≠D∧g≠D+1,l:=fun g=>b.L g∧g≠D∧g≠D+1,ro:=b.ro,d:=mark D::b.d })
 (hD:b.w.heap.size≤D) (hD4:D<w4.heap.size) (hd:w4.heap[D]?=some (.deferred (some []))) (hfr:Fr b.m b.w w4) (e:Exit) (a:Act) (w:World) (h:Rt P fn S b' e a w):Rt P fn S b e a w:=by
 subst hb'
 have main:∀ (ds:List Nat) (v:Value),a.defers=ds.map mark++(mark D::b.d)→ds.Nodup→(∀ D'∈ds,w4.heap.size≤D'∧w.heap[D']?=some (.deferred (some []))) →
  (∀ Ds:List Nat,(∀ D'∈Ds,D'<w4.heap.size∧¬ (b.L D'∧D'≠D∧D'≠D+1))→(results fn a.tmps).run P (shut Ds (shut ds w))=.ok v (shut Ds (shut ds w))) →
  Rets { w:=w4,e:=b.e,m:=fun g=>b.M g∧g≠D∧g≠D+1,l:=fun g=>b.L g∧g≠D∧g≠D+1,ro:=b.ro,d:=mark D::b.d } S (.returned v) (shut ds w) →
  ∃ (ds:List Nat) (v:Value),a.defers=ds.map mark++b.d∧ds.Nodup∧(∀ D∈ds,b.w.heap.size≤D∧w.heap[D]?=some (.deferred (some []))) ∧
  (∀ Ds:List Nat,(∀ D∈Ds,D<b.w.heap.size∧¬ b.l D)→(results fn a.tmps).run P (shut Ds (shut ds w))=.ok v (shut Ds (shut ds w)))∧Rets b S (.returned v) (shut ds w):=by
  intro ds v h1 h2 h3 h4 h5
  have hn:D ∉ ds:=fun h=>by have:=(h3 D h).1;omega
  obtain ⟨res,post,ε',hS,hv,hpre,hreg,hfr'⟩:=h5
  have hfr'':Fr (fun g=>b.M g∧g≠D∧g≠D+1) w4 (shut ds w):=hfr'
  have hdw:w.heap[D]?=some (.deferred (some [])):=by
   rw [← shut_other (ds:=ds) hn]
   exact (hfr''.block D hD4 (fun h=>h.2.1 rfl)).trans hd
  refine ⟨ds++[D],v,by simp [h1],?_,fun D' hD'=>?_,fun Ds hDs=>?_,?_⟩
  ·rw [List.nodup_append]
   exact ⟨h2,by simp,fun x hx y hy=>by
    have:y=D:=by simpa using hy
    subst this
    exact fun e=>hn (e▸hx)⟩
  ·rcases List.mem_append.1 hD' with h | h
   ·exact ⟨Nat.le_trans hfr.size (h3 D' h).1,(h3 D' h).2⟩
   ·have:D'=D:=by simpa using h
    subst this
    exact ⟨hD,hdw⟩
  ·have:=h4 (D::Ds) (fun D' hD'=>by
    cases hD' with
    | head=>exact ⟨hD4,fun h=>h.2.1 rfl⟩
    | tail _ hD' =>
      obtain ⟨h6,h7⟩:=hDs D' hD'
      refine ⟨Nat.lt_of_lt_of_le h6 hfr.size,fun h=>?_⟩
      rcases h.1 with h | h
      ·omega
      ·exact h7 h)
   rw [shut_append]
   exact this
  ·have hwD:shut (ds++[D]) w=(shut ds w).putObj D (.deferred none):=by rw [shut_append];rfl
   have hlv:∀ (i:Nat) (r:Reg),post[i]?=some r→r.live=true→∀ k,ε'.fp i k→k≠D:=fun i r hi hl k hk e=>by
    rcases (hreg.lt i r hi hl k hk).2 with h | h
    ·subst e;exact absurd hD4 (Nat.not_lt.2 h)
    ·exact h.2.1 e
   refine ⟨res,post,ε',hS,hv,hpre,?_,?_⟩
   ·rw [hwD]
    have h6:=hreg.world2 (w':=(shut ds w).putObj D (.deferred none)) (by simp) (fun i r hi hl k hk _=>World.putObj_heap_other (hlv i r hi hl k hk))
    refine h6.narrow (fun i r hi he k hk=>?_) (fun i r hi hl k hk=>?_)
    ·rcases hreg.lim i r hi he k hk with h | h
     ·exact .inl (Nat.le_trans hfr.size h)
     ·exact h.1
    ·rcases (hreg.lt i r hi hl k hk).2 with h | h
     ·exact .inl (Nat.le_trans hfr.size h)
     ·exact h.1
   ·rw [hwD]
    refine (fr_two hfr hfr'' (fun k hk hlt=>?_)).step rfl rfl rfl (by simp) (fun k hk hm=>World.putObj_heap_other (by omega))
    rcases hk.1 with h | h
    ·omega
    ·exact h
 cases e with
 | normal=>obtain ⟨ds,v,h1,h2,h3,h4,h5⟩:=h;exact main ds v h1 h2 h3 h4 h5
 | ret=>obtain ⟨ds,v,h1,h2,h3,h4,h5⟩:=h;exact main ds v h1 h2 h3 h4 h5
 | _=>exact h.elim
theorem given_ext {pre:List Reg} {ε0 ε1:Env} {w W1:World} {X:Ext} {hv fv:Value} {fp:Nat→Prop} (hpre:pre.all (fun r=>!r.excl)=true) (hsc:pre.all (Reg.scp pre.length)=true)
 (hg:RegsOk ε0 (Base.at_ pre ε0 w).M (Base.at_ pre ε0 w).L w pre) (hsz:w.heap.size≤W1.heap.size) (hsame:∀ k,k<w.heap.size→W1.heap[k]?=w.heap[k]?)
 (hε1:ε1=ε0++[⟨fv,X.ro⟩,⟨hv,fp⟩]) (hro:∀ (i:Nat) (r:Reg),pre[i]?=some r→r.live=true→∀ k,ε0.fp i k→X.ro k) (hro2:∀ k,X.ro k→k<W1.heap.size∧W1.heap[k]?=X.w0.heap[k]?)
 (hh:hv=.func (.yield X.l) #[] #[]) (hG:X.G 0 true fp W1) (hfp:∀ k,fp k→k<W1.heap.size∧¬ X.ro k) :
 RegsOk ε1 (Base.at_ (pre++[.froz X,.ext X 0 true]) ε1 W1).M (Base.at_ (pre++[.froz X,.ext X 0 true]) ε1 W1).L W1 (pre++[.froz X,.ext X 0 true]):=by
 have hlen:=hg.len
 have eOld:∀ i,i<pre.length→Env.ent ε1 i=ε0.ent i:=fun i hi=>by
  unfold Env.ent
  rw [hε1,List.getD_eq_getElem?_getD,List.getD_eq_getElem?_getD,List.getElem?_append_left (by omega)]
 have eF:Env.ent ε1 pre.length=⟨fv,X.ro⟩:=by
  unfold Env.ent
  rw [hε1,List.getD_eq_getElem?_getD,List.getElem?_append_right (by omega),hlen]
  simp
 have eX:Env.ent ε1 (pre.length+1)=⟨hv,fp⟩:=by
  unfold Env.ent
  rw [hε1,List.getD_eq_getElem?_getD,List.getElem?_append_right (by omega),hlen]
  simp
 have cases3:∀ (i:Nat) (r:Reg),(pre++[.froz X,.ext X 0 true])[i]?=some r→(i<pre.length∧pre[i]?=some r)∨(i=pre.length∧r=.froz X)∨(i=pre.length+1∧r=.ext X 0 true):=fun i r hi=>by
  by_cases h:i<pre.length
  ·rw [List.getElem?_append_left h] at hi;exact .inl ⟨h,hi⟩
  ·rw [List.getElem?_append_right (by omega)] at hi
   by_cases h2:i=pre.length
   ·subst h2;simp at hi;exact .inr (.inl ⟨rfl,hi.symm⟩)
   ·by_cases h3:i=pre.length+1
    ·subst h3;simp at hi;exact .inr (.inr ⟨rfl,hi.symm⟩)
    ·have:i-pre.length=(i-pre.length-2)+2:=by omega
     rw [this] at hi;simp at hi
 have hnx:∀ (i:Nat) (r:Reg),pre[i]?=some r→r.excl=false:=fun i r hi=>by simpa using List.all_eq_true.1 hpre r (List.mem_of_getElem? hi)
 have hlt:∀ (i:Nat) (r:Reg),(pre++[.froz X,.ext X 0 true])[i]?=some r→r.live=true→∀ k,Env.fp ε1 i k→k<W1.heap.size:=fun i r hi hl k hk=>by
  unfold Env.fp at hk
  rcases cases3 i r hi with ⟨h1,h2⟩ | ⟨rfl,rfl⟩ | ⟨rfl,rfl⟩
  ·rw [eOld i h1] at hk
   exact Nat.lt_of_lt_of_le (hg.lt i r h2 hl k hk).1 hsz
  ·rw [eF] at hk;exact (hro2 k hk).1
  ·rw [eX] at hk;exact (hfp k hk).1
 refine ⟨by rw [hε1];simp [hlen],fun i r hi=>?_,fun i r hi hl k hk=>⟨hlt i r hi hl k hk,.inr ⟨i,r,hi,hl,hk⟩⟩,fun i r hi he k hk=>.inr ⟨i,r,hi,he,hk⟩,fun i j ri rj hij hi hj he hl k hk hk'=>?_⟩
 ·rcases cases3 i r hi with ⟨h1,h2⟩ | ⟨rfl,rfl⟩ | ⟨rfl,rfl⟩
  ·rw [eOld i h1]
   have h3:RegOk ε0 (Base.at_ pre ε0 w).M W1 (ε0.ent i) r:=RegOk.world (hg.reg i r h2) hsz (fun k hk hl hlt=>hsame k hlt)
   have h4:=RegOk.same (ε':=ε1) h3 (List.all_eq_true.1 hsc r (List.mem_of_getElem? h2)) (fun q hq=>by unfold Env.at_;rw [eOld q hq])
   exact RegOk.reM (fun h=>by rw [hnx i r h2] at h;cases h) h4
  ·rw [eF];exact fun k hk=>⟨hk,hro2 k hk⟩
  ·rw [eX];exact ⟨hh,W1,hG,Nat.le_refl _,fun k hk=>⟨(hfp k hk).1,rfl⟩⟩
 ·unfold Env.fp at hk hk'
  rcases cases3 i ri hi with ⟨h1,h2⟩ | ⟨rfl,rfl⟩ | ⟨rfl,rfl⟩
  ·rw [hnx i ri h2] at he;cases he
  ·cases he
  ·rw [eX] at hk
   rcases cases3 j rj hj with ⟨h1,h2⟩ | ⟨rfl,rfl⟩ | ⟨rfl,rfl⟩
   ·rw [eOld j h1] at hk'
    exact (hfp k hk).2 (hro j rj h2 hl k hk')
   ·rw [eF] at hk';exact (hfp k hk).2 hk'
   ·exact hij rfl
section
variable {P:Program} [hw:Wide P] {fn:Func} {n0:Nat} {c:Cfg} {vc:List Prop}
theorem RunF.range {S:SV→List Reg→Prop} {X:Type} {I:X→List Reg} {J:Nat→X→Prop} {Jx:Code→X→Prop} {n nf fi:Nat} {enc:Nat→SV} {stA:Nat→X→St} {preI:List Reg} {argsI:List SV} {caps:List Nat}
 (x0:X) (st':St) (π σ:List Nat) {E E2:List Prop} (h:see P fn c=(vc,.range)) (hv:Conj vc)
 (he:ent n0 π (c.at P) st'=some E) (hE:Conj E) (hf:c.rgF P st'=some (fi,caps)) (hen:Enters P fi)
 (hI:st'.rg=I x0) (hrd:st'.rd=false) (hn0:Nat.ble n0 nf=true) (hnf:Nat.ble nf st'.rg.length=true) (hle:Nat.ble st'.rg.length 1000000=true) (hJ:J 0 x0)
 (hc:callEnt false σ st' preI argsI (caps.map fun r=>.c (if isVar st' r then .p r 0 else .h r))=some E2) (hE2:Conj E2)
 (hpre:preI.all (fun r=>!r.excl)=true) (hσ:σ.all (fun q=>match nth st'.rg q with | some h=>!h.excl&&h.live | none=>true)=true)
 (henc:∀ k,(enc k).scp 0=true)
 (hit:∀ Xe:Ext,Xe.n=n→Xe.enc=enc→Xe.Yields P→Ctr P fi (preI++[.froz Xe,.ext Xe 0 true]) (.c (.h (preI.length+1))::argsI) (RangeEnd Xe (preI.length+1)))
 (hassign:∀ k x,k<n→J k x→RunF P fn nf (fun _ _ _ _=>False) (c.rgA P (AtSt (fun _:Unit=>stA k x) (fun _=>True)) st' nf (enc k) (I x)))
 (hrdA:∀ k x,(stA k x).rd=true)
 (hbody:∀ k x,k<n→J k x→RunF P fn nf (Tround I (J (k+1)) Jx) (c.rgB P (fun b _ w=>RegsAt I (J (k+1)) b w) (stA k x)))
 (hdone:∀ x,J n x→RunF P fn n0 (Rt P fn S) (c.rgK P st' nf (I x)))
 (hstop:∀ cd x,Jx cd x→RunF P fn n0 (Rt P fn S) (c.rgC P cd st' nf (I x))):RunF P fn n0 (Rt P fn S) c:=by
 unfold RunF
 intro b hb
 unfold see at h
 unfold Cfg.at at he
 unfold Cfg.rgF at hf
 unfold Cfg.rgA at hassign
 unfold Cfg.rgB at hbody
 unfold Cfg.rgK at hdone
 unfold Cfg.rgC at hstop
 generalize hg:seg P 5000 c.k c.st=rr at h he hf hassign hbody hdone hstop
 obtain ⟨vc',out⟩:=rr
 cases out<;>simp only [Prod.mk.injEq,reduceCtorEq,and_false] at h
 case range f params assign body k st =>
  obtain ⟨rfl,_⟩:=h
  cases params with
  | nil=>cases hf
  | cons p ps =>
  cases ps with
  | cons=>cases hf
  | nil =>
  simp only at hf he hassign hbody hdone hstop
  split at hf
  case h_2=>cases hf
  rename_i fi' caps' hj hp hop
  cases hf
  have hp:=Nat.le_of_ble_eq_true hp
  refine seg_sound hw.mixed 5000 _ _ _ _ hg hv.toAll (fun a w hs=>?_)
  obtain ⟨ε,hs⟩:=ent_sound hb he hE.toAll hs
  have hro:b.ro=none:=hs.defs.2 hrd
  have hε:ε.length≤1000000:=by rw [hs.regs.len];exact Nat.le_of_ble_eq_true hle
  have hval:=opndC_sound hs (gHolds_nil a) hop
  unfold callEnt at hc
  split at hc
  case isFalse=>cases hc
  rename_i hcc
  simp only [Bool.and_eq_true] at hcc
  obtain ⟨⟨⟨⟨c1,c2⟩,c3⟩,c4⟩,c5⟩:=hcc
  split at hc
  case h_2=>cases hc
  rename_i vc1 h1
  obtain ⟨vc2,h2,he2⟩:=map_nil hc
  subst he2
  have hE':=hE2.toAll
  have hl:=regsMatch_len h1
  have hτ:∀ r,r<preI.length→ε.at_ (at' σ r)=Env.at_ (σ.map ε.ent) r:=fun r hr=>by
   have hp:σ[r]?=some (σ[r]'(by omega)):=List.getElem?_eq_getElem (by omega)
   rw [at_map ε σ hp,at'_eq hp]
  have hnx:∀ (i:Nat) (r:Reg),preI[i]?=some r→r.excl=false:=fun i r hi=>by simpa using List.all_eq_true.1 hpre r (List.mem_of_getElem? hi)
  obtain ⟨hgiven,hreg⟩:=given hε hs.regs c1 (.inr fun p hp=>by simpa using List.all_eq_true.1 hpre p hp) h1 hE'.left (fun i q p hi _ hx=>by rw [hnx i p hi] at hx;cases hx)
  have hargs:(caps.map fun r=>SV.c (if isVar st' r then .p r 0 else .h r)).map (SV.den ε)=argsI.map (SV.den (σ.map ε.ent)):=by
   rw [← sEqs_sound (ε:=ε) hε h2 hE'.right,List.map_map]
   exact List.map_congr_left fun s hs'=>sden_ren hτ (List.all_eq_true.1 c2 s hs')
  have hcaps:caps.map ε.at_=(caps.map fun r=>SV.c (if isVar st' r then .p r 0 else .h r)).map (SV.den ε):=by
   rw [List.map_map]
   refine List.map_congr_left fun r _=>?_
   show ε.at_ r=SV.den ε (.c (if isVar st' r then .p r 0 else .h r))
   by_cases hv:isVar st' r=true
   ·rw [if_pos hv];exact (var_handle hs.regs hv).symm
   ·rw [if_neg hv];rfl
  generalize hD:w.heap.size=D
  have hbD:b.w.heap.size≤D:=hD▸hs.below.size
  generalize hxro:(fun k=>∃ (q:Nat) (r:Reg),st'.rg[q]?=some r∧r.live=true∧r.excl=false∧ε.fp q k)=xro
  have hxlt:∀ k,xro k→k<D∧∃ (q:Nat) (r:Reg),st'.rg[q]?=some r∧r.live=true∧r.excl=false∧ε.fp q k:=fun k hk=>by
   rw [← hxro] at hk
   obtain ⟨q,r,h3,h4,h5,h6⟩:=hk
   exact ⟨hD▸(hs.regs.lt q r h3 h4 k h6).1,q,r,h3,h4,h5,h6⟩
  have hseq:∀ fnid,Fence.wide.fn fnid→∃ g:Rng,g={ fn:=fnid,tmps:=a.tmps,p:=p,assign:=assign,body:=body,D:=D,W1:=(w.alloc (.deferred (some []))).alloc (.loop { state:=.ready,pending:=none,fn:=fnid,tmps:=a.tmps,params:=#[p],assign:=assign,body:=body,defers:=D }),hs0:=ε.hs.take nf,bM:=fun k=>b.M k∧k≠D∧k≠D+1,bL:=fun k=>b.L k∧k≠D∧k≠D+1,ro:=xro }:=fun fnid _=>⟨_,rfl⟩
  refine wpIn_rangeFunc (fun fnid hfn=>?_)
  obtain ⟨g,hgdef⟩:=hseq fnid trivial
  have gD:g.D=D:=by rw [hgdef]
  have gro:g.ro=xro:=by rw [hgdef]
  have hW1sz:g.W1.heap.size=D+2:=by rw [hgdef];simp [hD]
  have hsame:∀ k,k<D→g.W1.heap[k]?=w.heap[k]?:=fun k hk=>by
   rw [hgdef]
   exact (Below.heap_alloc _ _ _ (by simp;omega)).trans (Below.heap_alloc _ _ _ (by omega))
  have hmrk:g.W1.heap[D]?=some (.deferred (some [])):=by
   rw [hgdef]
   exact (Below.heap_alloc _ _ _ (by simp;omega)).trans (by have:=World.alloc_heap_new w (.deferred (some []));rwa [hD] at this)
  have hloop:g.W1.heap[D+1]?=some (.loop (g.lp .ready none)):=by
   have:=World.alloc_heap_new (w.alloc (.deferred (some []))) (.loop (g.lp .ready none))
   rw [World.size_alloc,hD] at this
   rw [hgdef] at this ⊢
   exact this
  have hhs0:g.hs0=ε.hs.take nf:=by rw [hgdef]
  have hnfl:=Nat.le_of_ble_eq_true hnf
  have hn0l:=Nat.le_of_ble_eq_true hn0
  have hhl:g.hs0.length=nf:=by rw [hhs0,List.length_take];simp [Env.hs,hs.regs.len];omega
  have hfrW1:Fr (fun _=>False) w g.W1:=⟨by rw [hgdef];rfl,by rw [hgdef];rfl,by rw [hgdef];rfl,by rw [hW1sz];omega,fun k hk _=>hsame k (hD▸hk)⟩
  have hoff:∀ k,liveFp (I x0) ε k→k≠D∧k≠D+1:=fun k ⟨i,r,h3,h4,h5⟩=>by
   have:=(hs.regs.lt i r (hI▸h3) h4 k h5).1
   omega
  have hexro:∀ k,exclFp (I x0) ε k→¬ xro k:=fun k ⟨i,r,h3,h4,h5⟩ hk=>by
   obtain ⟨_,q,r',h6,h7,h8,h9⟩:=hxlt k hk
   have hiq:i≠q:=fun e=>by subst e;rw [hI,h3] at h6;cases h6;rw [h4] at h8;cases h8
   exact hs.regs.sep i q r r' hiq (hI▸h3) h6 h4 h7 k h5 h9
  have hregW1:RegsOk ε b.M b.L g.W1 st'.rg:=hs.regs.world2 hfrW1.size (fun i r h1 h2 k h3 h4=>hsame k (hD▸h4))
  have hAt0:g.At (I x0) ε .ready none g.W1:=by
   refine ⟨by rw [hhs0];exact List.take_prefix _ _,?_,fun k h=>by rw [gro];exact hexro k h,by rw [gD];exact hloop,by rw [gD];exact hmrk,fun k h=>by rw [gD];exact hoff k h,fun _ _=>rfl,Nat.le_refl _,fun k h=>by rw [gD];rw [gro] at h;exact (hxlt k h).1⟩
   rw [← hI]
   rw [hgdef] at hregW1 ⊢
   exact hregW1.narrow (fun i r h1 h2 k h3=>⟨hs.regs.lim i r h1 h2 k h3,hoff k ⟨i,r,hI▸h1,excl_live h2,h3⟩⟩) (fun i r h1 h2 k h3=>⟨(hs.regs.lt i r h1 h2 k h3).2,hoff k ⟨i,r,hI▸h1,h2,h3⟩⟩)
  let Xe:Ext:={ l:=g.D+1,n:=n,enc:=enc,G:=g.G I J Jx,ro:=g.ro,w0:=g.W1 }
  have hkf:keepsFr g.p st'.N nf ((keepFr nf st'.fr).filter (fun e=>!(Nat.beq e.slot p)))=true:=by
   refine List.all_eq_true.2 fun e he=>?_
   obtain ⟨h3,h4⟩:=List.mem_filter.1 he
   obtain ⟨h5,h6⟩:=List.mem_filter.1 h3
   rw [Bool.and_eq_true] at h6
   simp only [Bool.and_eq_true]
   refine ⟨⟨⟨h6.1,?_⟩,?_⟩,h6.2⟩
   ·rw [show g.p=p from by rw [hgdef]];exact h4
   ·have:=(hs.fr e h5).1;exact Nat.ble_eq_true_of_le this
  have hyields:Xe.Yields P:=by
   intro k fp w' hk hG hro' hdis
   obtain ⟨w1,hG1,hsz1,hb1⟩:=hG
   have hG2:g.G I J Jx k true fp w':=Rng.G.move hG1 hsz1 hb1 (fun k hk=>(hro' k hk).2)
   refine Rng.round g (fn:=fn) (n:=n) (N:=st'.N) (nf:=nf) (fr0:=(keepFr nf st'.fr).filter (fun e=>!(Nat.beq e.slot p))) (stA:=stA) hhl ?_ ?_ hkf ?_ ?_ ?_ henc ?_ hrdA ?_ (by exact hk) hG2
   ·rw [hgdef];exact hs.size
   ·rw [show g.p=p from by rw [hgdef]];exact hp
   ·intro e he ε' hpre'
    obtain ⟨h3,h4⟩:=List.mem_filter.1 he
    obtain ⟨h5,h6⟩:=List.mem_filter.1 h3
    rw [Bool.and_eq_true] at h6
    have hg0:e.g=[]:=by
     cases hh:e.g with
     | nil=>rfl
     | cons a l=>rw [hh] at h6;cases h6.1
    have h7:=(hs.fr e h5).2.1 (by rw [hg0];exact gHolds_nil a)
    have h8:g.tmps=a.tmps:=by rw [hgdef]
    rw [h8]
    refine h7.trans ?_
    refine sden_same h6.2 (fun r hr=>?_)
    rw [prefix_at (l:=g.hs0) hAt0.hs (by omega),prefix_at (l:=g.hs0) hpre' (by omega)]
   ·intro k hk;rw [hW1sz] at hk;rw [hgdef];exact ⟨.inl (by omega),by omega,by omega⟩
   ·intro k hk;rw [hW1sz] at hk;rw [hgdef];exact ⟨.inl (by omega),by omega,by omega⟩
   ·intro k x hk hJ'
    have:=hassign k x hk hJ'
    rw [show g.assign=assign from by rw [hgdef],show roundSt g st'.N _ (enc k) (I x)={ N:=st'.N,fr:={ slot:=p,g:=[],sv:=enc k }::(keepFr nf st'.fr).filter (fun e=>!(Nat.beq e.slot p)),rg:=I x,wr:=[1000000007] } from by unfold roundSt;rw [hgdef]]
    exact this
   ·intro k x hk hJ'
    have:=hbody k x hk hJ'
    rw [show g.body=body from by rw [hgdef]]
    exact this
  have hG0:g.G I J Jx 0 true (g.fpOf (I x0) ε) g.W1:=⟨x0,ε,fun _=>Iff.rfl,.inl ⟨rfl,hJ,hAt0⟩⟩
  have hgx:=given_ext (X:=Xe) (ε1:=σ.map ε.ent++[⟨undef,Xe.ro⟩,⟨.func (.yield Xe.l) #[] #[],g.fpOf (I x0) ε⟩]) (fv:=undef) hpre c1 hgiven hfrW1.size (fun k hk=>hfrW1.block k hk (fun h=>h)) rfl
   (fun i r hi hl k hk=>by
     show g.ro k
     rw [gro,← hxro]
     have hil:i<preI.length:=(List.getElem?_eq_some_iff.1 hi).1
     have hq:σ[i]?=some (σ[i]'(by omega)):=List.getElem?_eq_getElem (by omega)
     rw [fp_map ε σ hq] at hk
     have h3:=List.all_eq_true.1 hσ _ (List.mem_of_getElem? hq)
     cases hr:st'.rg[(σ[i]'(by omega))]? with
     | none =>
       have:ε.length≤σ[i]'(by omega):=by rw [hs.regs.len];exact List.getElem?_eq_none_iff.1 hr
       unfold Env.fp at hk
       rw [ent_out this] at hk
       exact hk.elim
     | some r' =>
       rw [nth_eq,hr] at h3
       simp only [Bool.and_eq_true,Bool.not_eq_true'] at h3
       exact ⟨_,r',hr,h3.2,h3.1,hk⟩)
   (fun k hk=>by
     have hk':g.ro k:=hk
     rw [gro] at hk'
     exact ⟨by rw [hW1sz];have:=(hxlt k hk').1;omega,rfl⟩) rfl hG0
   (fun k hk=>by
     show k<g.W1.heap.size∧¬ g.ro k
     rw [hW1sz,gro]
     rcases hk with h | h | ⟨⟨i,r,h3,h4,h5⟩,h6⟩
     ·rw [gD] at h;exact ⟨by omega,fun hx=>by have:=(hxlt k hx).1;omega⟩
     ·rw [gD] at h;exact ⟨by omega,fun hx=>by have:=(hxlt k hx).1;omega⟩
     ·refine ⟨?_,by rw [← gro];exact h6⟩
      have:=(hs.regs.lt i r (hI▸h3) h4 k h5).1;omega)
  refine ⟨D+1,[mark D],g.W1,{ target:=.fn (.func fi) (caps.map ε.at_).toArray,args:=#[.func (.yield (D+1)) #[] #[]] },g.W1,fi,#[.func (.yield (D+1)) #[] #[]]++(caps.map ε.at_).toArray,g.W1,?_,?_,fun _ _=>trivial,?_,(fun h=>by cases h),?_⟩
  ·have:=run_enterLoop_outer (P:=P) (w:=w) fnid a.tmps #[p] assign body
   rw [hD] at this
   rw [show (Wf b.ro).round=none from hro,hgdef]
   exact this
  ·simp only [resolve,hval,C.den]
   simp [go_sem]
  ·have hen':∀ args w,(callFunc fi args).run P w=.ok (.enter fi args) w:=hen
   simp [invoke,go_sem,hen']
  ·refine callsW.2 ?_
   have hcall:=hit Xe rfl rfl hyields _ g.W1 hgx
   have hargs2:((SV.c (.h (preI.length+1))::argsI).map (SV.den (σ.map ε.ent++[⟨undef,Xe.ro⟩,⟨.func (.yield Xe.l) #[] #[],g.fpOf (I x0) ε⟩]))).toArray=#[.func (.yield (D+1)) #[] #[]]++(caps.map ε.at_).toArray:=by
    have e1:argsI.map (SV.den (σ.map ε.ent++[⟨undef,Xe.ro⟩,⟨.func (.yield Xe.l) #[] #[],g.fpOf (I x0) ε⟩]))=caps.map ε.at_:=by
     rw [hcaps,hargs]
     refine List.map_congr_left fun s hs'=>sden_same (List.all_eq_true.1 c2 s hs') (fun r hr=>?_)
     unfold Env.at_ Env.ent
     rw [List.getD_eq_getElem?_getD,List.getD_eq_getElem?_getD,List.getElem?_append_left (by simp;omega)]
    have e2:SV.den (σ.map ε.ent++[⟨undef,Xe.ro⟩,⟨.func (.yield Xe.l) #[] #[],g.fpOf (I x0) ε⟩]) (.c (.h (preI.length+1)))=.func (.yield (D+1)) #[] #[]:=by
     show Env.at_ _ _=_
     unfold Env.at_ Env.ent
     rw [List.getD_eq_getElem?_getD,List.getElem?_append_right (by simp;omega)]
     simp [hl,Xe,gD]
    rw [List.map_cons,e1,e2]
    simp
   rw [hargs2] at hcall
   refine hcall.mono ?_
   rintro e w3 ⟨res,post,ε3,⟨k3,al,hal,hpx⟩,rfl,hpre3,hreg3,hfr3⟩
   obtain ⟨_,w1',hG3,hsz3,hb3⟩:=hreg3.reg _ _ hpx
   have hfrx:Fr (g.fpOf (I x0) ε) g.W1 w3:=by
    refine ⟨hfr3.os,hfr3.tape,hfr3.output,hfr3.size,fun k hk hn=>hfr3.block k hk (fun ⟨i,r,h3,h4,h5⟩=>hn ?_)⟩
    by_cases hil:i<preI.length
    ·rw [List.getElem?_append_left hil] at h3
     rw [hnx i r h3] at h4;cases h4
    ·rw [List.getElem?_append_right (by omega)] at h3
     by_cases h6:i=preI.length
     ·subst h6;simp at h3;subst h3;cases h4
     ·by_cases h7:i=preI.length+1
      ·subst h7
       unfold Env.fp Env.ent at h5
       rw [List.getD_eq_getElem?_getD,List.getElem?_append_right (by simp;omega)] at h5
       simp [hl] at h5
       exact h5
      ·have:i-preI.length=(i-preI.length-2)+2:=by omega
       rw [this] at h3;simp at h3
   have hnro:∀ k,xro k→¬ g.fpOf (I x0) ε k:=fun k hk h=>by
    rcases h with h | h | h
    ·have:=(hxlt k hk).1;omega
    ·have:=(hxlt k hk).1;omega
    ·exact h.2 (by rw [gro];exact hk)
   have hG4:g.G I J Jx k3 al (ε3.fp (preI.length+1)) w3:=Rng.G.move hG3 hsz3 hb3 (fun k hk=>by
    rw [gro] at hk
    exact hfrx.block k (by rw [hW1sz];have:=(hxlt k hk).1;omega) (hnro k hk))
   have hfrb3:Fr b.m b.w w3:=by
    refine (fr_two (fr_two hs.below hfrW1 (fun k h=>h.elim)) hfrx (fun k hk hlt=>?_))
    rcases hk with h | h | ⟨⟨i,r,h3,h4,h5⟩,h6⟩
    ·omega
    ·omega
    ·cases hx:r.excl with
     | false=>exact absurd (by rw [gro,← hxro];exact ⟨i,r,hI▸h3,h4,hx,h5⟩) h6
     | true =>
       rcases hs.regs.lim i r (hI▸h3) hx k h5 with h | h
       ·omega
       ·exact h
   obtain ⟨x4,ε4,hfp4,hG4⟩:=hG4
   have hout:∀ (stt:LoopState) (jump:Option Code),stt≠.busy→g.At (I x4) ε4 stt jump w3→∃ w4,(Instr.endLoop (D+1)).run P w3=.ok jump w4 ∧
    ∀ (kk:List K),RunF P fn n0 (Rt P fn S) ⟨kk,{ N:=st'.N,fr:=keepFr nf st'.fr,rg:=I x4,wr:=st'.wr }⟩ →
     contQ P { w:=w4,e:=b.e,m:=fun k=>b.M k∧k≠D∧k≠D+1,l:=fun k=>b.L k∧k≠D∧k≠D+1,ro:=b.ro,d:=mark D::b.d } (Rt P fn S { w:=w4,e:=b.e,m:=fun k=>b.M k∧k≠D∧k≠D+1,l:=fun k=>b.L k∧k≠D∧k≠D+1,ro:=b.ro,d:=mark D::b.d }) kk .normal { a with defers:=mark D::a.defers } w4 ∧
     (∀ e a' w',Rt P fn S { w:=w4,e:=b.e,m:=fun k=>b.M k∧k≠D∧k≠D+1,l:=fun k=>b.L k∧k≠D∧k≠D+1,ro:=b.ro,d:=mark D::b.d } e a' w'→Rt P fn S b e a' w'):=by
    intro stt jump hne hA4
    have hl4:=hA4.loop
    have hd4:=hA4.mrk
    rw [gD] at hl4 hd4
    have hlt4:D+1<w3.heap.size:=(Array.getElem?_eq_some_iff.1 hl4).1
    refine ⟨_,run_endLoop hl4 hne,fun kk hrun=>?_⟩
    generalize hw4:w3.putObj (D+1) _=w4
    have hsz4:w4.heap.size=w3.heap.size:=by rw [← hw4];simp
    have hfr4:Fr b.m b.w w4:=by
     rw [← hw4]
     exact hfrb3.step rfl rfl rfl (by simp) (fun k hk _=>World.putObj_heap_other (by omega))
    have hreg4:RegsOk ε4 g.bM g.bL w4 (I x4):=by
     rw [← hw4,← gD]
     exact Rng.At.put hA4.regs hA4.off
    have hbM':g.bM=fun k=>b.M k∧k≠D∧k≠D+1:=by rw [hgdef]
    have hbL':g.bL=fun k=>b.L k∧k≠D∧k≠D+1:=by rw [hgdef]
    refine ⟨?_,fun e a' w' hrt=>Rt.unmark rfl hbD (by omega) ?_ hfr4 e a' w' hrt⟩
    ·unfold RunF at hrun
     refine hrun { w:=w4,e:=b.e,m:=fun k=>b.M k∧k≠D∧k≠D+1,l:=fun k=>b.L k∧k≠D∧k≠D+1,ro:=b.ro,d:=mark D::b.d } hb { a with defers:=mark D::a.defers } w4 ⟨ε4,⟨⟨?_,fun _=>hro⟩,hs.size,fun e he=>?_,?_,Fr.refl _ _,?_⟩⟩
     ·show mark D::a.defers=mark D::b.d
      rw [hs.defs.1]
     ·obtain ⟨h5,h6⟩:=List.mem_filter.1 he
      rw [Bool.and_eq_true] at h6
      refine EnOk.same (hs.fr e h5) h6.2 (fun r hr=>?_)
      rw [prefix_at (l:=g.hs0) hAt0.hs (by omega),prefix_at (l:=g.hs0) hA4.hs (by omega)]
     ·exact hreg4.narrow (fun i r h1 h2 k h3=>.inr (by have:=hreg4.lim i r h1 h2 k h3;rw [hbM'] at this;exact this)) (fun i r h1 h2 k h3=>.inr (by have:=(hreg4.lt i r h1 h2 k h3).2;rw [hbL'] at this;exact this))
     ·exact List.IsPrefix.trans (List.prefix_of_prefix_length_le hs.pre hAt0.hs (by rw [hb,hhl];exact hn0l)) hA4.hs
    ·rw [← hw4]
     exact (World.putObj_heap_other (by omega)).trans hd4
   rcases hG4 with ⟨rfl,hJ4,hA4⟩ | ⟨rfl,cd,hJ4,hA4⟩
   ·obtain ⟨w4,h5,h6⟩:=hout _ _ (by simp) hA4
    have hk3:=hal rfl
    have hk3':k3=n:=hk3
    subst hk3'
    obtain ⟨h7,h8⟩:=h6 k (hdone x4 hJ4)
    refine ⟨none,w4,h5,?_⟩
    show contQ P b (Rt P fn S b) k .normal { a with defers:=mark D::a.defers } w4
    exact contQ_base (P:=P) (b:=b) (b':={ w:=w4,e:=b.e,m:=fun k=>b.M k∧k≠D∧k≠D+1,l:=fun k=>b.L k∧k≠D∧k≠D+1,ro:=b.ro,d:=mark D::b.d }) rfl h8 k hj _ _ _ h7
   ·obtain ⟨w4,h5,h6⟩:=hout _ _ (by simp) hA4
    obtain ⟨h7,h8⟩:=h6 _ (hstop cd x4 hJ4)
    refine ⟨some cd,w4,h5,?_⟩
    show contQ P b (Rt P fn S b) (.code cd::k) .normal { a with defers:=mark D::a.defers } w4
    exact contQ_base (P:=P) (b:=b) (b':={ w:=w4,e:=b.e,m:=fun k=>b.M k∧k≠D∧k≠D+1,l:=fun k=>b.L k∧k≠D∧k≠D+1,ro:=b.ro,d:=mark D::b.d }) rfl h8 (.code cd::k) (by simp [K.isJmp,hj]) _ _ _ h7
 all_goals first | (unfold callV at h;split at h<;>simp at h;done) | (split at h<;>simp at h)
end
def openK:Nat→List K→List K
 | n+1,.code (.seq a b)::k=>openK n (.code a::.code b::k)
 | n+1,.code .skip::k=>openK n k
 | n+1,.code (.block id c)::k=>openK n (.code c::.blk id::k)
 | _,k=>k
theorem openK_sound {P:Program} {b:Base} {Q:Exit→Act→World→Prop} {a:Act} {w:World}:∀ (n:Nat) (k:List K),contQ P b Q (openK n k) .normal a w→contQ P b Q k .normal a w
 | 0,k,h=>by simpa [openK] using h
 | n+1,k,h=>by
   unfold openK at h
   split at h
   ·rename_i heq
    cases heq
    exact wpIn_seq (openK_sound _ _ h)
   ·rename_i heq
    cases heq
    exact wpIn_skip (openK_sound _ _ h)
   ·rename_i heq
    cases heq
    exact wpIn_block (openK_sound _ _ h)
   ·exact h
theorem RunF.cut {P:Program} [hw:Wide P] {fn:Func} {n0:Nat} {U:Tgt} {c:Cfg} {X:Type} (I:X→St) (J:X→Prop) (h1:RunF P fn n0 U ⟨insJ (AtSt I J) (openK 50 c.k),c.st⟩) (h2:∀ x,J x→RunF P fn n0 U ⟨restK (openK 50 c.k),I x⟩):RunF P fn n0 U c:=by
 unfold RunF at *
 intro b hb a w hs
 exact openK_sound 50 _ (insJ_sound _ (fun a w ⟨x,hx,hs⟩=>h2 x hx b hb a w hs) (h1 b hb a w hs))
def flatK:Nat→List K→List K
 | n+1,.code (.seq a b)::k=>flatK n (.code a::.code b::k)
 | n+1,x::k=>x::flatK n k
 | _,k=>k
theorem flatK_sound {P:Program} [hw:Wide P] {b:Base} {Q:Exit→Act→World→Prop}:∀ (n:Nat) (k:List K) (e:Exit) (a:Act) (w:World),contQ P b Q (flatK n k) e a w→contQ P b Q k e a w
 | 0,k,e,a,w,h=>by simpa [flatK] using h
 | n+1,k,e,a,w,h=>by
   unfold flatK at h
   split at h
   ·rename_i heq
    cases heq
    have h1:=flatK_sound _ _ e a w h
    cases e with
    | normal=>exact wpIn_seq h1
    | _=>exact h1
   ·rename_i heq
    cases heq
    exact kpost_mono (fun e a w hq=>flatK_sound _ _ e a w hq) _ e a w h
   ·exact h
def cutK (J:Base→Act→World→Prop):Nat→List K→List K
 | 0,k=>.jmp J::k
 | m+1,x::k=>x::cutK J m k
 | _+1,[]=>[.jmp J]
theorem cutK_sound {P:Program} [hw:Wide P] {b:Base} {Q:Exit→Act→World→Prop} {J:Base→Act→World→Prop}:∀ (m:Nat) (k:List K),(∀ a w,J b a w→contQ P b Q (k.drop m) .normal a w)→∀ e a w,contQ P b Q (cutK J m k) e a w→contQ P b Q k e a w
 | 0,k,h,e,a,w,hq=>by
   unfold cutK at hq
   cases e with
   | normal=>exact h a w hq
   | _=>exact hq
 | m+1,[],h,e,a,w,hq=>by
   unfold cutK at hq
   cases e with
   | normal=>exact h a w hq
   | _=>exact hq
 | m+1,x::k,h,e,a,w,hq=>by
   unfold cutK at hq
   exact kpost_mono (fun e a w hq=>cutK_sound m k h e a w hq) _ e a w hq
theorem RunF.cutm {P:Program} [hw:Wide P] {fn:Func} {n0:Nat} {U:Tgt} {c:Cfg} {X:Type} (m:Nat) (I:X→St) (J:X→Prop) (h1:RunF P fn n0 U ⟨cutK (AtSt I J) m (flatK 200 c.k),c.st⟩) (h2:∀ x,J x→RunF P fn n0 U ⟨(flatK 200 c.k).drop m,I x⟩):RunF P fn n0 U c:=by
 unfold RunF at *
 intro b hb a w hs
 exact flatK_sound 200 _ _ _ _ (cutK_sound m _ (fun a w ⟨x,hx,hs⟩=>h2 x hx b hb a w hs) _ _ _ (h1 b hb a w hs))
attribute [irreducible] endEnt Cfg.rgF Cfg.rgA Cfg.rgB Cfg.rgK Cfg.rgC
end Go.Tx
noncomputable section
namespace Go.Proofs.Ytlblobbklioofaa
open Go Go.Tx
abbrev z13_2 (l:List Did):=Reg.row 7 l.length (fun i=>(l.getD i default).tc) none
def L42_0_I (l:List Did):Int×Bool→St:=fun x=>{ N:=21,fr:=[{ slot:=9,g:=[],sv:=SV.c (C.i .i64 x.1) },{ slot:=8,g:=[],sv:=SV.c (C.i .i64 (↑l.length:Int)) },{ slot:=7,g:=[],sv:=SV.c (C.h 0) },{ slot:=2,g:=[],sv:=SV.c (C.b x.2) }],rg:=[z13_2 l],wr:=[] }
def L42_0_J (l:List Did):Int×Bool→Prop:=fun x=>0≤x.1∧x.1≤(l.length:Int)∧rightsB l=allFrom (rightP l) x.1 l.length
def L42_0_m (l:List Did):Int×Bool→Nat:=fun x=>((l.length:Int)-x.1).toNat
abbrev z13_20 (l:List Did):=En.mk 8 [] (SV.c (C.i .i64 (↑l.length:Int)))
abbrev z13_1 (x1_0:Int) (l:List Did) (x1_1:Bool):=[En.mk 4 [] (SV.c (C.p 1 0)),En.mk 9 [] (SV.c (C.i .i64 x1_0)),z13_20 l,En.mk 7 [] (SV.c (C.h 0)),En.mk 2 [] (SV.c (C.b x1_1))]
abbrev z13_21 (l:List Did):=(↑l.length:Int)=(↑l.length:Int)
abbrev z13_23 (l:List Did):=∀ (i:Nat),i<l.length→(l.getD i default).tc=(l.getD i default).tc
abbrev z13_3 (l:List Did) (x1_0:Int) (x1_1:Bool):=[l.length=l.length,z13_23 l,x1_0+(1:Int)=x1_0+(1:Int),z13_21 l,x1_1=x1_1]
abbrev z13_24 (l:List Did) (x1_0:Int):=C.i .i64 (l.getD x1_0.toNat default).core
abbrev z13_25 (l:List Did) (x1_0:Int):=C.i .i64 (l.getD x1_0.toNat default).addr
abbrev z13_26 (l:List Did) (x1_0:Int):=C.i .i64 (l.getD x1_0.toNat default).word
abbrev z13_27 (l:List Did) (x1_0:Int):=C.i .i64 (l.getD x1_0.toNat default).put
abbrev z13_28 (l:List Did) (x1_0:Int):=C.i .i64 (l.getD x1_0.toNat default).pc
abbrev z13_4 (l:List Did) (x1_0:Int):=[C.i .u8 (l.getD x1_0.toNat default).kind,z13_24 l x1_0,z13_28 l x1_0,z13_25 l x1_0,z13_26 l x1_0,z13_27 l x1_0,C.b (l.getD x1_0.toNat default).own]
abbrev z13_5 (l:List Did) (x1_0:Int):=(l.getD x1_0.toNat default).core=(l.getD x1_0.toNat default).core
abbrev z13_6 (l:List Did) (x1_0:Int):=(l.getD x1_0.toNat default).addr=(l.getD x1_0.toNat default).addr
abbrev z13_7 (l:List Did) (x1_0:Int):=(l.getD x1_0.toNat default).word=(l.getD x1_0.toNat default).word
abbrev z13_8 (l:List Did) (x1_0:Int):=(l.getD x1_0.toNat default).put=(l.getD x1_0.toNat default).put
abbrev z13_9 (l:List Did) (x1_0:Int):=(l.getD x1_0.toNat default).own=(l.getD x1_0.toNat default).own
abbrev z13_10 (l:List Did) (x1_0:Int):=(l.getD x1_0.toNat default).pc=(l.getD x1_0.toNat default).pc
abbrev z13_11 (l:List Did) (x1_0:Int):=[C.i .u8 1,z13_24 l x1_0,z13_28 l x1_0,z13_25 l x1_0,z13_26 l x1_0,z13_27 l x1_0,C.b (l.getD x1_0.toNat default).own]
abbrev z13_12 (l:List Did) (x1_0:Int):=[C.i .u8 2,z13_24 l x1_0,z13_28 l x1_0,z13_25 l x1_0,z13_26 l x1_0,z13_27 l x1_0,C.b (l.getD x1_0.toNat default).own]
abbrev z13_13 (l:List Did) (x1_0:Int):=[C.i .u8 3,z13_24 l x1_0,z13_28 l x1_0,z13_25 l x1_0,z13_26 l x1_0,z13_27 l x1_0,C.b (l.getD x1_0.toNat default).own]
abbrev z13_14 (l:List Did) (x1_0:Int):=[C.i .u8 4,z13_24 l x1_0,z13_28 l x1_0,z13_25 l x1_0,z13_26 l x1_0,z13_27 l x1_0,C.b (l.getD x1_0.toNat default).own]
abbrev z13_15 (l:List Did) (x1_0:Int):=[C.i .u8 5,z13_24 l x1_0,z13_28 l x1_0,z13_25 l x1_0,z13_26 l x1_0,z13_27 l x1_0,C.b (l.getD x1_0.toNat default).own]
abbrev z13_16 (l:List Did) (x1_0:Int):=[C.i .u8 6,z13_24 l x1_0,z13_28 l x1_0,z13_25 l x1_0,z13_26 l x1_0,z13_27 l x1_0,C.b (l.getD x1_0.toNat default).own]
abbrev z13_17 (l:List Did) (x1_0:Int):=[C.i .u8 7,z13_24 l x1_0,z13_28 l x1_0,z13_25 l x1_0,z13_26 l x1_0,z13_27 l x1_0,C.b (l.getD x1_0.toNat default).own]
abbrev z13_18 (l:List Did) (x1_0:Int):=[C.i .u8 8,z13_24 l x1_0,z13_28 l x1_0,z13_25 l x1_0,z13_26 l x1_0,z13_27 l x1_0,C.b (l.getD x1_0.toNat default).own]
abbrev z13_19 (l:List Did) (x1_0:Int) (x1_1:Bool):=(Tx.Next (L42_0_I l) (L42_0_J l) (L42_0_m l) (x1_0,x1_1))
abbrev z13_22 (l:List Did) (x1_0:Int):=(false,[C.b (didB (l.getD x1_0.toNat default))])
theorem c_right (l:List Did) (hl:∀ a:Nat,0≤(l.getD a default).kind∧(l.getD a default).kind≤255):Ctr Try.prog 42 [Did.rowR l] [.c (.h 0)]
 (Det (.c (.b (rightsB l))) [.dead]):=by
 refine Ctr.intro [] Try.func42 K K ?_
 refine RunF.lens 0 (m:=l.length) K (fun hlens_0=>?_)
 refine RunF.loop (vc:=[]) (L42_0_I l) (L42_0_J l) (L42_0_m l) (((0:Int),false)) [0] (E:=[l.length=l.length,z13_23 l,(0:Int)=(0:Int),z13_21 l,false=false]) K trivial K R ⟨by grind,by grind,rfl⟩ ?_
 rintro ⟨x1_0,x1_1⟩ hJ1
 dsimp only [L42_0_J] at hJ1
 refine RunF.chk [9,8,7,2] [.code [1,0,1,0,0],.jmp (z13_19 l x1_0 x1_1),.blk 0,.code [1,1]] (St.mk 21 [En.mk 9 [] (SV.c (C.i .i64 x1_0)),z13_20 l,En.mk 7 [] (SV.c (C.h 0)),En.mk 2 [] (SV.c (C.b x1_1))] [z13_2 l] []) K ?_
 refine RunF.cond (vc:=[]) (x:=decide (x1_0<(↑l.length:Int))) K trivial (fun h2=>?_) (fun h2=>?_)
 ·refine RunF.cut (fun _:Unit=>St.mk 21 (z13_1 x1_0 l x1_1) [z13_2 l,Reg.box 75 (z13_4 l x1_0)] []) (fun _=>True) ?_ ?_
  ·exact RunF.to (I:=fun x=>St.mk 21 (z13_1 x1_0 l x1_1) [z13_2 l,Reg.box 75 (z13_4 l x1_0)] []) (J:=fun x=>True) (vc:=[(0:Int)≤x1_0,x1_0<(↑l.length:Int),x1_0.toNat<l.length]) () [0,1] (E:=[l.length=l.length,z13_23 l,(l.getD x1_0.toNat default).kind=(l.getD x1_0.toNat default).kind,z13_5 l x1_0,z13_10 l x1_0,z13_6 l x1_0,z13_7 l x1_0,z13_8 l x1_0,z13_9 l x1_0,x1_0=x1_0,z13_21 l,x1_1=x1_1]) K V0 K R trivial
  ·rintro ⟨⟩ _
   rcases (show (l.getD x1_0.toNat default).kind=(1:Int)∨(l.getD x1_0.toNat default).kind=(2:Int)∨(l.getD x1_0.toNat default).kind=(3:Int)∨(l.getD x1_0.toNat default).kind=(4:Int)∨(l.getD x1_0.toNat default).kind=(5:Int)∨(l.getD x1_0.toNat default).kind=(6:Int)∨(l.getD x1_0.toNat default).kind=(7:Int)∨(l.getD x1_0.toNat default).kind=(8:Int)∨¬ ((1:Int)≤(l.getD x1_0.toNat default).kind∧(l.getD x1_0.toNat default).kind≤(8:Int)) from by omega) with hs3 | hs3 | hs3 | hs3 | hs3 | hs3 | hs3 | hs3 | hs3
   ·refine RunF.weaken (St.mk 21 (z13_1 x1_0 l x1_1) [z13_2 l,Reg.box 75 (z13_11 l x1_0)] []) [0,1] (E:=[l.length=l.length,∀ (i:Nat),i<l.length→(l.getD i default).tc=(l.getD i default).tc,(1:Int)=(l.getD x1_0.toNat default).kind,z13_5 l x1_0,z13_10 l x1_0,z13_6 l x1_0,z13_7 l x1_0,z13_8 l x1_0,z13_9 l x1_0,x1_0=x1_0,z13_21 l,x1_1=x1_1]) K V26 ?_
    refine RunF.chk [4,9,8,7,2] [.code [1,0,1,0,0,1,1,0,0,1],.blk 1,.code [1,0,1,0,0,1,1,1],.jmp (z13_19 l x1_0 x1_1),.blk 0,.code [1,1]] (St.mk 21 (z13_1 x1_0 l x1_1) [z13_2 l,Reg.box 75 (z13_11 l x1_0)] []) K ?_
    refine RunF.call (vc:=[]) (args:=[SV.agg (z13_11 l x1_0)]) e_trace_formOf (c_formOf1 (d:=l.getD x1_0.toNat default) (hk:=by first | assumption | omega)) [] (E:=[(1:Int)=(1:Int),z13_5 l x1_0,z13_10 l x1_0,z13_6 l x1_0,z13_7 l x1_0,z13_8 l x1_0,z13_9 l x1_0]) K trivial K R K ?_
    refine RunF.chk [15,9,8,7,2] [.ops [1,0,1,0,0,1,1,0,0,1,0] 2,.code [1,0,1,0,0,1,1,0,0,1,1],.blk 1,.code [1,0,1,0,0,1,1,1],.jmp (z13_19 l x1_0 x1_1),.blk 0,.code [1,1]] (St.mk 21 [En.mk 15 [] (SV.tup [(true,[C.v (Value.string (ByteArray.mk #[(99:UInt8),(111:UInt8),(109:UInt8),(112:UInt8),(117:UInt8),(116:UInt8),(101:UInt8)])),C.t false,C.t false,C.t false,C.t false,C.fn 75 [2]]),(z13_22 l x1_0)]),En.mk 9 [] (SV.c (C.i .i64 x1_0)),z13_20 l,En.mk 7 [] (SV.c (C.h 0)),En.mk 2 [] (SV.c (C.b x1_1))] [z13_2 l,Reg.box 75 (z13_11 l x1_0),Reg.dead,Reg.dead,Reg.dead,Reg.dead] []) K ?_
    refine RunF.cond (vc:=[]) (x:=!didB (l.getD x1_0.toNat default)) K trivial (fun h4=>?_) (fun h4=>?_)
    ·exact RunF.ret (vc:=[]) (v:=SV.c (C.t false)) _ _ [0] (E:=[rightsB l=false]) K trivial ⟨rfl,rfl⟩ K V11
    ·exact RunF.next (I:=L42_0_I l) (J:=L42_0_J l) (m:=L42_0_m l) (x:=(x1_0,x1_1)) (vc:=[Fits IntKind.i64 (x1_0+(1:Int))]) ((x1_0+(1:Int),x1_1)) [0] (E:=(z13_3 l x1_0 x1_1)) K V0 K R V64 V34
   ·refine RunF.weaken (St.mk 21 (z13_1 x1_0 l x1_1) [z13_2 l,Reg.box 75 (z13_12 l x1_0)] []) [0,1] (E:=[l.length=l.length,∀ (i:Nat),i<l.length→(l.getD i default).tc=(l.getD i default).tc,(2:Int)=(l.getD x1_0.toNat default).kind,z13_5 l x1_0,z13_10 l x1_0,z13_6 l x1_0,z13_7 l x1_0,z13_8 l x1_0,z13_9 l x1_0,x1_0=x1_0,z13_21 l,x1_1=x1_1]) K V26 ?_
    refine RunF.chk [4,9,8,7,2] [.code [1,0,1,0,0,1,1,0,0,1],.blk 1,.code [1,0,1,0,0,1,1,1],.jmp (z13_19 l x1_0 x1_1),.blk 0,.code [1,1]] (St.mk 21 (z13_1 x1_0 l x1_1) [z13_2 l,Reg.box 75 (z13_12 l x1_0)] []) K ?_
    refine RunF.call (vc:=[]) (args:=[SV.agg (z13_12 l x1_0)]) e_trace_formOf (c_formOf2 (d:=l.getD x1_0.toNat default) (hk:=by first | assumption | omega)) [] (E:=[(2:Int)=(2:Int),z13_5 l x1_0,z13_10 l x1_0,z13_6 l x1_0,z13_7 l x1_0,z13_8 l x1_0,z13_9 l x1_0]) K trivial K R K ?_
    refine RunF.chk [15,9,8,7,2] [.ops [1,0,1,0,0,1,1,0,0,1,0] 2,.code [1,0,1,0,0,1,1,0,0,1,1],.blk 1,.code [1,0,1,0,0,1,1,1],.jmp (z13_19 l x1_0 x1_1),.blk 0,.code [1,1]] (St.mk 21 [En.mk 15 [] (SV.tup [(true,[C.v (Value.string (ByteArray.mk #[(108:UInt8),(111:UInt8),(97:UInt8),(100:UInt8)])),C.t true,C.t true,C.t false,C.t true,C.fn 76 [3]]),(z13_22 l x1_0)]),En.mk 9 [] (SV.c (C.i .i64 x1_0)),z13_20 l,En.mk 7 [] (SV.c (C.h 0)),En.mk 2 [] (SV.c (C.b x1_1))] [z13_2 l,Reg.box 75 (z13_12 l x1_0),Reg.dead,Reg.dead,Reg.dead,Reg.dead] []) K ?_
    refine RunF.cond (vc:=[]) (x:=!didB (l.getD x1_0.toNat default)) K trivial (fun h4=>?_) (fun h4=>?_)
    ·exact RunF.ret (vc:=[]) (v:=SV.c (C.t false)) _ _ [0] (E:=[rightsB l=false]) K trivial ⟨rfl,rfl⟩ K V11
    ·exact RunF.next (I:=L42_0_I l) (J:=L42_0_J l) (m:=L42_0_m l) (x:=(x1_0,x1_1)) (vc:=[Fits IntKind.i64 (x1_0+(1:Int))]) ((x1_0+(1:Int),x1_1)) [0] (E:=(z13_3 l x1_0 x1_1)) K V0 K R V64 V34
   ·refine RunF.weaken (St.mk 21 (z13_1 x1_0 l x1_1) [z13_2 l,Reg.box 75 (z13_13 l x1_0)] []) [0,1] (E:=[l.length=l.length,∀ (i:Nat),i<l.length→(l.getD i default).tc=(l.getD i default).tc,(3:Int)=(l.getD x1_0.toNat default).kind,z13_5 l x1_0,z13_10 l x1_0,z13_6 l x1_0,z13_7 l x1_0,z13_8 l x1_0,z13_9 l x1_0,x1_0=x1_0,z13_21 l,x1_1=x1_1]) K V26 ?_
    refine RunF.chk [4,9,8,7,2] [.code [1,0,1,0,0,1,1,0,0,1],.blk 1,.code [1,0,1,0,0,1,1,1],.jmp (z13_19 l x1_0 x1_1),.blk 0,.code [1,1]] (St.mk 21 (z13_1 x1_0 l x1_1) [z13_2 l,Reg.box 75 (z13_13 l x1_0)] []) K ?_
    refine RunF.call (vc:=[]) (args:=[SV.agg (z13_13 l x1_0)]) e_trace_formOf (c_formOf3 (d:=l.getD x1_0.toNat default) (hk:=by first | assumption | omega)) [] (E:=[(3:Int)=(3:Int),z13_5 l x1_0,z13_10 l x1_0,z13_6 l x1_0,z13_7 l x1_0,z13_8 l x1_0,z13_9 l x1_0]) K trivial K R K ?_
    refine RunF.chk [15,9,8,7,2] [.ops [1,0,1,0,0,1,1,0,0,1,0] 2,.code [1,0,1,0,0,1,1,0,0,1,1],.blk 1,.code [1,0,1,0,0,1,1,1],.jmp (z13_19 l x1_0 x1_1),.blk 0,.code [1,1]] (St.mk 21 [En.mk 15 [] (SV.tup [(true,[C.v (Value.string (ByteArray.mk #[(115:UInt8),(116:UInt8),(111:UInt8),(114:UInt8),(101:UInt8)])),C.t true,C.t true,C.t false,C.t false,C.fn 75 [2]]),(z13_22 l x1_0)]),En.mk 9 [] (SV.c (C.i .i64 x1_0)),z13_20 l,En.mk 7 [] (SV.c (C.h 0)),En.mk 2 [] (SV.c (C.b x1_1))] [z13_2 l,Reg.box 75 (z13_13 l x1_0),Reg.dead,Reg.dead,Reg.dead,Reg.dead] []) K ?_
    refine RunF.cond (vc:=[]) (x:=!didB (l.getD x1_0.toNat default)) K trivial (fun h4=>?_) (fun h4=>?_)
    ·exact RunF.ret (vc:=[]) (v:=SV.c (C.t false)) _ _ [0] (E:=[rightsB l=false]) K trivial ⟨rfl,rfl⟩ K V11
    ·exact RunF.next (I:=L42_0_I l) (J:=L42_0_J l) (m:=L42_0_m l) (x:=(x1_0,x1_1)) (vc:=[Fits IntKind.i64 (x1_0+(1:Int))]) ((x1_0+(1:Int),x1_1)) [0] (E:=(z13_3 l x1_0 x1_1)) K V0 K R V64 V34
   ·refine RunF.weaken (St.mk 21 (z13_1 x1_0 l x1_1) [z13_2 l,Reg.box 75 (z13_14 l x1_0)] []) [0,1] (E:=[l.length=l.length,∀ (i:Nat),i<l.length→(l.getD i default).tc=(l.getD i default).tc,(4:Int)=(l.getD x1_0.toNat default).kind,z13_5 l x1_0,z13_10 l x1_0,z13_6 l x1_0,z13_7 l x1_0,z13_8 l x1_0,z13_9 l x1_0,x1_0=x1_0,z13_21 l,x1_1=x1_1]) K V26 ?_
    refine RunF.chk [4,9,8,7,2] [.code [1,0,1,0,0,1,1,0,0,1],.blk 1,.code [1,0,1,0,0,1,1,1],.jmp (z13_19 l x1_0 x1_1),.blk 0,.code [1,1]] (St.mk 21 (z13_1 x1_0 l x1_1) [z13_2 l,Reg.box 75 (z13_14 l x1_0)] []) K ?_
    refine RunF.call (vc:=[]) (args:=[SV.agg (z13_14 l x1_0)]) e_trace_formOf (c_formOf4 (d:=l.getD x1_0.toNat default) (hk:=by first | assumption | omega)) [] (E:=[(4:Int)=(4:Int),z13_5 l x1_0,z13_10 l x1_0,z13_6 l x1_0,z13_7 l x1_0,z13_8 l x1_0,z13_9 l x1_0]) K trivial K R K ?_
    refine RunF.chk [15,9,8,7,2] [.ops [1,0,1,0,0,1,1,0,0,1,0] 2,.code [1,0,1,0,0,1,1,0,0,1,1],.blk 1,.code [1,0,1,0,0,1,1,1],.jmp (z13_19 l x1_0 x1_1),.blk 0,.code [1,1]] (St.mk 21 [En.mk 15 [] (SV.tup [(true,[C.v (Value.string (ByteArray.mk #[(115:UInt8),(119:UInt8),(97:UInt8),(112:UInt8)])),C.t true,C.t true,C.t true,C.t false,C.fn 64 []]),(z13_22 l x1_0)]),En.mk 9 [] (SV.c (C.i .i64 x1_0)),z13_20 l,En.mk 7 [] (SV.c (C.h 0)),En.mk 2 [] (SV.c (C.b x1_1))] [z13_2 l,Reg.box 75 (z13_14 l x1_0),Reg.dead,Reg.dead,Reg.dead,Reg.dead] []) K ?_
    refine RunF.cond (vc:=[]) (x:=!didB (l.getD x1_0.toNat default)) K trivial (fun h4=>?_) (fun h4=>?_)
    ·exact RunF.ret (vc:=[]) (v:=SV.c (C.t false)) _ _ [0] (E:=[rightsB l=false]) K trivial ⟨rfl,rfl⟩ K V11
    ·exact RunF.next (I:=L42_0_I l) (J:=L42_0_J l) (m:=L42_0_m l) (x:=(x1_0,x1_1)) (vc:=[Fits IntKind.i64 (x1_0+(1:Int))]) ((x1_0+(1:Int),x1_1)) [0] (E:=(z13_3 l x1_0 x1_1)) K V0 K R V64 V34
   ·refine RunF.weaken (St.mk 21 (z13_1 x1_0 l x1_1) [z13_2 l,Reg.box 75 (z13_15 l x1_0)] []) [0,1] (E:=[l.length=l.length,∀ (i:Nat),i<l.length→(l.getD i default).tc=(l.getD i default).tc,(5:Int)=(l.getD x1_0.toNat default).kind,z13_5 l x1_0,z13_10 l x1_0,z13_6 l x1_0,z13_7 l x1_0,z13_8 l x1_0,z13_9 l x1_0,x1_0=x1_0,z13_21 l,x1_1=x1_1]) K V26 ?_
    refine RunF.chk [4,9,8,7,2] [.code [1,0,1,0,0,1,1,0,0,1],.blk 1,.code [1,0,1,0,0,1,1,1],.jmp (z13_19 l x1_0 x1_1),.blk 0,.code [1,1]] (St.mk 21 (z13_1 x1_0 l x1_1) [z13_2 l,Reg.box 75 (z13_15 l x1_0)] []) K ?_
    refine RunF.call (vc:=[]) (args:=[SV.agg (z13_15 l x1_0)]) e_trace_formOf (c_formOf5 (d:=l.getD x1_0.toNat default) (hk:=by first | assumption | omega)) [] (E:=[(5:Int)=(5:Int),z13_5 l x1_0,z13_10 l x1_0,z13_6 l x1_0,z13_7 l x1_0,z13_8 l x1_0,z13_9 l x1_0]) K trivial K R K ?_
    refine RunF.chk [15,9,8,7,2] [.ops [1,0,1,0,0,1,1,0,0,1,0] 2,.code [1,0,1,0,0,1,1,0,0,1,1],.blk 1,.code [1,0,1,0,0,1,1,1],.jmp (z13_19 l x1_0 x1_1),.blk 0,.code [1,1]] (St.mk 21 [En.mk 15 [] (SV.tup [(true,[C.v (Value.string (ByteArray.mk #[(102:UInt8),(101:UInt8),(110:UInt8),(99:UInt8),(101:UInt8)])),C.t false,C.t false,C.t false,C.t false,C.fn 75 [2]]),(z13_22 l x1_0)]),En.mk 9 [] (SV.c (C.i .i64 x1_0)),z13_20 l,En.mk 7 [] (SV.c (C.h 0)),En.mk 2 [] (SV.c (C.b x1_1))] [z13_2 l,Reg.box 75 (z13_15 l x1_0),Reg.dead,Reg.dead,Reg.dead,Reg.dead] []) K ?_
    refine RunF.cond (vc:=[]) (x:=!didB (l.getD x1_0.toNat default)) K trivial (fun h4=>?_) (fun h4=>?_)
    ·exact RunF.ret (vc:=[]) (v:=SV.c (C.t false)) _ _ [0] (E:=[rightsB l=false]) K trivial ⟨rfl,rfl⟩ K V11
    ·exact RunF.next (I:=L42_0_I l) (J:=L42_0_J l) (m:=L42_0_m l) (x:=(x1_0,x1_1)) (vc:=[Fits IntKind.i64 (x1_0+(1:Int))]) ((x1_0+(1:Int),x1_1)) [0] (E:=(z13_3 l x1_0 x1_1)) K V0 K R V64 V34
   ·refine RunF.weaken (St.mk 21 (z13_1 x1_0 l x1_1) [z13_2 l,Reg.box 75 (z13_16 l x1_0)] []) [0,1] (E:=[l.length=l.length,∀ (i:Nat),i<l.length→(l.getD i default).tc=(l.getD i default).tc,(6:Int)=(l.getD x1_0.toNat default).kind,z13_5 l x1_0,z13_10 l x1_0,z13_6 l x1_0,z13_7 l x1_0,z13_8 l x1_0,z13_9 l x1_0,x1_0=x1_0,z13_21 l,x1_1=x1_1]) K V26 ?_
    refine RunF.chk [4,9,8,7,2] [.code [1,0,1,0,0,1,1,0,0,1],.blk 1,.code [1,0,1,0,0,1,1,1],.jmp (z13_19 l x1_0 x1_1),.blk 0,.code [1,1]] (St.mk 21 (z13_1 x1_0 l x1_1) [z13_2 l,Reg.box 75 (z13_16 l x1_0)] []) K ?_
    refine RunF.call (vc:=[]) (args:=[SV.agg (z13_16 l x1_0)]) e_trace_formOf (c_formOf6 (d:=l.getD x1_0.toNat default) (hk:=by first | assumption | omega)) [] (E:=[(6:Int)=(6:Int),z13_5 l x1_0,z13_10 l x1_0,z13_6 l x1_0,z13_7 l x1_0,z13_8 l x1_0,z13_9 l x1_0]) K trivial K R K ?_
    refine RunF.chk [15,9,8,7,2] [.ops [1,0,1,0,0,1,1,0,0,1,0] 2,.code [1,0,1,0,0,1,1,0,0,1,1],.blk 1,.code [1,0,1,0,0,1,1,1],.jmp (z13_19 l x1_0 x1_1),.blk 0,.code [1,1]] (St.mk 21 [En.mk 15 [] (SV.tup [(true,[C.v (Value.string (ByteArray.mk #[(112:UInt8),(114:UInt8),(105:UInt8),(110:UInt8),(116:UInt8)])),C.t false,C.t true,C.t false,C.t false,C.fn 75 [4]]),(z13_22 l x1_0)]),En.mk 9 [] (SV.c (C.i .i64 x1_0)),z13_20 l,En.mk 7 [] (SV.c (C.h 0)),En.mk 2 [] (SV.c (C.b x1_1))] [z13_2 l,Reg.box 75 (z13_16 l x1_0),Reg.dead,Reg.dead,Reg.dead,Reg.dead] []) K ?_
    refine RunF.cond (vc:=[]) (x:=!didB (l.getD x1_0.toNat default)) K trivial (fun h4=>?_) (fun h4=>?_)
    ·exact RunF.ret (vc:=[]) (v:=SV.c (C.t false)) _ _ [0] (E:=[rightsB l=false]) K trivial ⟨rfl,rfl⟩ K V11
    ·exact RunF.next (I:=L42_0_I l) (J:=L42_0_J l) (m:=L42_0_m l) (x:=(x1_0,x1_1)) (vc:=[Fits IntKind.i64 (x1_0+(1:Int))]) ((x1_0+(1:Int),x1_1)) [0] (E:=(z13_3 l x1_0 x1_1)) K V0 K R V64 V34
   ·refine RunF.weaken (St.mk 21 (z13_1 x1_0 l x1_1) [z13_2 l,Reg.box 75 (z13_17 l x1_0)] []) [0,1] (E:=[l.length=l.length,∀ (i:Nat),i<l.length→(l.getD i default).tc=(l.getD i default).tc,(7:Int)=(l.getD x1_0.toNat default).kind,z13_5 l x1_0,z13_10 l x1_0,z13_6 l x1_0,z13_7 l x1_0,z13_8 l x1_0,z13_9 l x1_0,x1_0=x1_0,z13_21 l,x1_1=x1_1]) K V26 ?_
    refine RunF.chk [4,9,8,7,2] [.code [1,0,1,0,0,1,1,0,0,1],.blk 1,.code [1,0,1,0,0,1,1,1],.jmp (z13_19 l x1_0 x1_1),.blk 0,.code [1,1]] (St.mk 21 (z13_1 x1_0 l x1_1) [z13_2 l,Reg.box 75 (z13_17 l x1_0)] []) K ?_
    refine RunF.call (vc:=[]) (args:=[SV.agg (z13_17 l x1_0)]) e_trace_formOf (c_formOf7 (d:=l.getD x1_0.toNat default) (hk:=by first | assumption | omega)) [] (E:=[(7:Int)=(7:Int),z13_5 l x1_0,z13_10 l x1_0,z13_6 l x1_0,z13_7 l x1_0,z13_8 l x1_0,z13_9 l x1_0]) K trivial K R K ?_
    refine RunF.chk [15,9,8,7,2] [.ops [1,0,1,0,0,1,1,0,0,1,0] 2,.code [1,0,1,0,0,1,1,0,0,1,1],.blk 1,.code [1,0,1,0,0,1,1,1],.jmp (z13_19 l x1_0 x1_1),.blk 0,.code [1,1]] (St.mk 21 [En.mk 15 [] (SV.tup [(true,[C.v (Value.string (ByteArray.mk #[(104:UInt8),(97:UInt8),(108:UInt8),(116:UInt8)])),C.t false,C.t false,C.t false,C.t false,C.fn 75 [5]]),(z13_22 l x1_0)]),En.mk 9 [] (SV.c (C.i .i64 x1_0)),z13_20 l,En.mk 7 [] (SV.c (C.h 0)),En.mk 2 [] (SV.c (C.b x1_1))] [z13_2 l,Reg.box 75 (z13_17 l x1_0),Reg.dead,Reg.dead,Reg.dead,Reg.dead] []) K ?_
    refine RunF.cond (vc:=[]) (x:=!didB (l.getD x1_0.toNat default)) K trivial (fun h4=>?_) (fun h4=>?_)
    ·exact RunF.ret (vc:=[]) (v:=SV.c (C.t false)) _ _ [0] (E:=[rightsB l=false]) K trivial ⟨rfl,rfl⟩ K V11
    ·exact RunF.next (I:=L42_0_I l) (J:=L42_0_J l) (m:=L42_0_m l) (x:=(x1_0,x1_1)) (vc:=[Fits IntKind.i64 (x1_0+(1:Int))]) ((x1_0+(1:Int),x1_1)) [0] (E:=(z13_3 l x1_0 x1_1)) K V0 K R V64 V34
   ·refine RunF.weaken (St.mk 21 (z13_1 x1_0 l x1_1) [z13_2 l,Reg.box 75 (z13_18 l x1_0)] []) [0,1] (E:=[l.length=l.length,∀ (i:Nat),i<l.length→(l.getD i default).tc=(l.getD i default).tc,(8:Int)=(l.getD x1_0.toNat default).kind,z13_5 l x1_0,z13_10 l x1_0,z13_6 l x1_0,z13_7 l x1_0,z13_8 l x1_0,z13_9 l x1_0,x1_0=x1_0,z13_21 l,x1_1=x1_1]) K V26 ?_
    refine RunF.chk [4,9,8,7,2] [.code [1,0,1,0,0,1,1,0,0,1],.blk 1,.code [1,0,1,0,0,1,1,1],.jmp (z13_19 l x1_0 x1_1),.blk 0,.code [1,1]] (St.mk 21 (z13_1 x1_0 l x1_1) [z13_2 l,Reg.box 75 (z13_18 l x1_0)] []) K ?_
    refine RunF.call (vc:=[]) (args:=[SV.agg (z13_18 l x1_0)]) e_trace_formOf (c_formOf8 (d:=l.getD x1_0.toNat default) (hk:=by first | assumption | omega)) [] (E:=[(8:Int)=(8:Int),z13_5 l x1_0,z13_10 l x1_0,z13_6 l x1_0,z13_7 l x1_0,z13_8 l x1_0,z13_9 l x1_0]) K trivial K R K ?_
    refine RunF.chk [15,9,8,7,2] [.ops [1,0,1,0,0,1,1,0,0,1,0] 2,.code [1,0,1,0,0,1,1,0,0,1,1],.blk 1,.code [1,0,1,0,0,1,1,1],.jmp (z13_19 l x1_0 x1_1),.blk 0,.code [1,1]] (St.mk 21 [En.mk 15 [] (SV.tup [(true,[C.v (Value.string (ByteArray.mk #[(100:UInt8),(114:UInt8),(97:UInt8),(105:UInt8),(110:UInt8)])),C.t true,C.t true,C.t false,C.t false,C.fn 65 []]),(z13_22 l x1_0)]),En.mk 9 [] (SV.c (C.i .i64 x1_0)),z13_20 l,En.mk 7 [] (SV.c (C.h 0)),En.mk 2 [] (SV.c (C.b x1_1))] [z13_2 l,Reg.box 75 (z13_18 l x1_0),Reg.dead,Reg.dead,Reg.dead,Reg.dead] []) K ?_
    refine RunF.cond (vc:=[]) (x:=!didB (l.getD x1_0.toNat default)) K trivial (fun h4=>?_) (fun h4=>?_)
    ·exact RunF.ret (vc:=[]) (v:=SV.c (C.t false)) _ _ [0] (E:=[rightsB l=false]) K trivial ⟨rfl,rfl⟩ K V11
    ·exact RunF.next (I:=L42_0_I l) (J:=L42_0_J l) (m:=L42_0_m l) (x:=(x1_0,x1_1)) (vc:=[Fits IntKind.i64 (x1_0+(1:Int))]) ((x1_0+(1:Int),x1_1)) [0] (E:=(z13_3 l x1_0 x1_1)) K V0 K R V64 V34
   ·refine RunF.chk [4,9,8,7,2] [.code [1,0,1,0,0,1,1,0,0,1],.blk 1,.code [1,0,1,0,0,1,1,1],.jmp (z13_19 l x1_0 x1_1),.blk 0,.code [1,1]] (St.mk 21 (z13_1 x1_0 l x1_1) [z13_2 l,Reg.box 75 (z13_4 l x1_0)] []) K ?_
    refine RunF.call (vc:=[]) (args:=[SV.agg (z13_4 l x1_0)]) e_trace_formOf (c_formOf0 (d:=l.getD x1_0.toNat default) (hk:=by first | assumption | omega)) [] (E:=[(l.getD x1_0.toNat default).kind=(l.getD x1_0.toNat default).kind,z13_5 l x1_0,z13_10 l x1_0,z13_6 l x1_0,z13_7 l x1_0,z13_8 l x1_0,z13_9 l x1_0]) K trivial K R K ?_
    refine RunF.chk [15,9,8,7,2] [.ops [1,0,1,0,0,1,1,0,0,1,0] 2,.code [1,0,1,0,0,1,1,0,0,1,1],.blk 1,.code [1,0,1,0,0,1,1,1],.jmp (z13_19 l x1_0 x1_1),.blk 0,.code [1,1]] (St.mk 21 [En.mk 15 [] (SV.tup [(true,[C.v (Value.string (ByteArray.mk #[])),C.t false,C.t false,C.t false,C.t false,C.v Value.nilFunc]),(false,[C.b false])]),En.mk 9 [] (SV.c (C.i .i64 x1_0)),z13_20 l,En.mk 7 [] (SV.c (C.h 0)),En.mk 2 [] (SV.c (C.b x1_1))] [z13_2 l,Reg.box 75 (z13_4 l x1_0)] []) K ?_
    refine RunF.cond (vc:=[]) (x:=!false) K trivial (fun h4=>?_) (fun h4=>?_)
    ·exact RunF.ret (vc:=[]) (v:=SV.c (C.t false)) _ _ [0] (E:=[rightsB l=false]) K trivial ⟨rfl,rfl⟩ K V11
    ·exact absurd h4 (by decide)
 ·exact RunF.ret (vc:=[]) (v:=SV.c (C.t true)) _ _ [0] (E:=[rightsB l=true]) K trivial ⟨rfl,rfl⟩ K V11
end Go.Proofs.Ytlblobbklioofaa
end
namespace Go.Proofs.Ytlblobbklioofaa
open Go Go.Tx
theorem take_next {α:Type} [Inhabited α] {L:List α} {k:Nat} (h:k<L.length):L.take k++[L.getD k default]=L.take (k+1):=by
 rw [List.take_add_one,List.getD_eq_getElem?_getD,List.getElem?_eq_getElem h];rfl
theorem evUp_prefix (sh lk:Int) (l:List Did) {i:Nat}:∀ {n:Nat},i≤n→evUp sh lk l i <+: evUp sh lk l n
 | 0,h=>by rw [Nat.le_zero.1 h];exact List.prefix_refl _
 | n+1,h=>by
   by_cases e:i=n+1
   ·rw [e];exact List.prefix_refl _
   ·exact List.IsPrefix.trans (evUp_prefix sh lk l (by omega)) ⟨_,rfl⟩
theorem ev_here {sh lk:Int} {l:List Did} {i:Int} (h0:0≤i) (h1:i<l.length) (hk:¬ (evOf sh lk (l.getD i.toNat default) i).kind=0) :
 (evUp sh lk l i.toNat).length<(evUp sh lk l l.length).length∧(evUp sh lk l l.length).getD (evUp sh lk l i.toNat).length default=evOf sh lk (l.getD i.toNat default) i:=by
 have h2:=evUp_take sh lk l h0 rfl hk
 obtain ⟨t,ht⟩:=evUp_prefix sh lk l (show (i+1).toNat≤l.length by omega)
 rw [h2] at ht
 rw [← ht]
 refine ⟨by simp,?_⟩
 rw [List.append_assoc,List.getD_eq_getElem?_getD,List.getElem?_append_right (Nat.le_refl _)]
 simp
def thD (sh lk:Int) (d:Did):Int:=if addrB d.kind&&decide (d.addr<sh+lk) then (if d.addr<sh then d.addr else d.addr-sh) else 0
theorem evOf_parts {sh lk:Int} {d:Did} {i:Int} (hs:0≤sh∧sh≤64∧0≤lk∧lk≤16) (hd:didB d=true) :
 0≤(evOf sh lk d i).kind∧(evOf sh lk d i).kind≤7 ∧
 (¬ (evOf sh lk d i).kind=0→(evOf sh lk d i).core=d.core∧(evOf sh lk d i).pos=i) ∧
 ((evOf sh lk d i).kind=1∨(evOf sh lk d i).kind=2∨(evOf sh lk d i).kind=3→(evOf sh lk d i).thing=thD sh lk d∧(evOf sh lk d i).word=d.word∧(evOf sh lk d i).put=d.put∧(evOf sh lk d i).own=d.own) ∧
 ((evOf sh lk d i).kind=4∨(evOf sh lk d i).kind=5→(evOf sh lk d i).thing=thD sh lk d∧(evOf sh lk d i).word=0∧(evOf sh lk d i).put=0∧(evOf sh lk d i).own=false) ∧
 ((evOf sh lk d i).kind=6→(evOf sh lk d i).thing=0∧(evOf sh lk d i).word=d.word∧(evOf sh lk d i).put=0∧(evOf sh lk d i).own=false) ∧
 ((evOf sh lk d i).kind=7→(evOf sh lk d i).thing=0∧(evOf sh lk d i).word=0∧(evOf sh lk d i).put=0∧(evOf sh lk d i).own=false):=by
 have hb:=didB_bounds hd
 obtain ⟨kind,core,pc,addr,word,put,own⟩:=d
 simp only at hb
 have:kind=1∨kind=2∨kind=3∨kind=4∨kind=5∨kind=6∨kind=7∨kind=8:=by omega
 rcases this with rfl | rfl | rfl | rfl | rfl | rfl | rfl | rfl
 all_goals
  simp only [evOf,thD,noEv,addrB,didB,BL] at *
  (repeat' apply And.intro)<;>grind
end Go.Proofs.Ytlblobbklioofaa
