/-
  The law WitnessFront: whatever the object, the classes, the run and the number that are read (of bulk at most 1048576), the call returns true, and what came in reads as it did. Text 9 of 9: Leaf9 Leaf15 Leaf58 SpecFr Leaf95a Leaf60 Leaf95 Read FinA FinFront.
-/
import Derived.Test.YtmjjikcappbkeaaGreatP4
import Derived.Test.YtmjjikcappbkeaaGreatP8
import Derived.Test.YtmjjikcappbkeaaGreatP5
import Derived.Deep.Slices
import Derived.ChangeArms
import Derived.WideShapes
import Derived.ChangeOld
import Derived.Test.YtmjjikcappbkeaaGreatRows
import Derived.WalkKit
import Derived.ProofKit
import Derived.OpenShut
import Derived.JoinedCond
import Derived.Carry
set_option linter.unusedSimpArgs false
set_option linter.unusedVariables false
set_option maxHeartbeats 4000000
set_option maxRecDepth 100000
noncomputable section
namespace Go.Proofs.YtmjjikcappbkeaaGreat
open Go Go.Tx
def L41_0_I (mem:List Int) (sh:Int) (lk:Int) (bu:Int) (cs:List Cor):Int×Int×Int×Int→St:=fun x=>{ N:=41,fr:=[{ slot:=15,g:=[],sv:=SV.c (C.i .i64 x.1) },{ slot:=14,g:=[],sv:=SV.c (C.i .i64 (↑cs.length:Int)) },{ slot:=13,g:=[],sv:=SV.c (C.h 1) },{ slot:=4,g:=[],sv:=SV.c (C.i .i64 x.2.1) },{ slot:=3,g:=[],sv:=SV.c (C.i .i64 x.2.2.1) },{ slot:=2,g:=[],sv:=SV.c (C.i .i64 x.2.2.2) },{ slot:=1,g:=[],sv:=SV.c (C.p 2 0) }],rg:=[Reg.row 1 mem.length (fun i=>i64T (mem.getD i (0:Int))) none,Reg.row 2 cs.length (fun i=>(cs.getD i default).tc) none,Reg.box 29 [C.h 0,C.i .i64 sh,C.i .i64 lk,C.i .i64 bu,C.h 1]],wr:=[] }
def L41_0_J (mem:List Int) (sh:Int) (lk:Int) (bu:Int) (cs:List Cor):Int×Int×Int×Int→Prop:=fun x=>0≤x.1∧x.1≤(cs.length:Int)∧badI mem cs=findFrom (rowB mem cs) x.1 cs.length
def L41_0_m (mem:List Int) (sh:Int) (lk:Int) (bu:Int) (cs:List Cor):Int×Int×Int×Int→Nat:=fun x=>((cs.length:Int)-x.1).toNat
def L41_0 (mem:List Int) (sh:Int) (lk:Int) (bu:Int) (cs:List Cor):Lp (Int×Int×Int×Int):=⟨L41_0_I mem sh lk bu cs,L41_0_J mem sh lk bu cs,L41_0_m mem sh lk bu cs⟩
def L41_1_I (mem:List Int) (sh:Int) (lk:Int) (bu:Int) (cs:List Cor) (x2_0:Int) (x2_1:Int) (x2_2:Int) (x2_3:Int):Int×Int×Int×Int→St:=fun x=>{ N:=41,fr:=[{ slot:=23,g:=[],sv:=SV.c (C.i .i64 x.1) },{ slot:=22,g:=[],sv:=SV.c (C.i .i64 (↑(cs.getD x2_0.toNat default).code.length:Int)) },{ slot:=21,g:=[],sv:=SV.c (C.h 3) },{ slot:=5,g:=[],sv:=SV.c (C.i .i64 x2_0) },{ slot:=6,g:=[],sv:=SV.c (C.p 4 0) },{ slot:=15,g:=[],sv:=SV.c (C.i .i64 x2_0) },{ slot:=14,g:=[],sv:=SV.c (C.i .i64 (↑cs.length:Int)) },{ slot:=13,g:=[],sv:=SV.c (C.h 1) },{ slot:=4,g:=[],sv:=SV.c (C.i .i64 x.2.1) },{ slot:=3,g:=[],sv:=SV.c (C.i .i64 x.2.2.1) },{ slot:=2,g:=[],sv:=SV.c (C.i .i64 x.2.2.2) },{ slot:=1,g:=[],sv:=SV.c (C.p 2 0) }],rg:=[Reg.row 1 mem.length (fun i=>i64T (mem.getD i (0:Int))) none,Reg.row 2 cs.length (fun i=>(cs.getD i default).tc) (some (x2_0.toNat,[C.v (Value.string (cs.getD x2_0.toNat default).name),C.h 3])),Reg.box 29 [C.h 0,C.i .i64 sh,C.i .i64 lk,C.i .i64 bu,C.h 1],Reg.row 9 (cs.getD x2_0.toNat default).code.length (fun i=>((cs.getD x2_0.toNat default).code.getD i default).tc) none,Reg.box 179 [C.v (Value.string (cs.getD x2_0.toNat default).name),C.h 3]],wr:=[] }
def L41_1_J (mem:List Int) (sh:Int) (lk:Int) (bu:Int) (cs:List Cor) (x2_0:Int) (x2_1:Int) (x2_2:Int) (x2_3:Int):Int×Int×Int×Int→Prop:=fun x=>0≤x.1∧x.1≤((cs.getD x2_0.toNat default).code.length:Int)∧findFrom (insOk mem cs x2_0) 0 (cs.getD x2_0.toNat default).code.length=findFrom (insOk mem cs x2_0) x.1 (cs.getD x2_0.toNat default).code.length
def L41_1_m (mem:List Int) (sh:Int) (lk:Int) (bu:Int) (cs:List Cor) (x2_0:Int) (x2_1:Int) (x2_2:Int) (x2_3:Int):Int×Int×Int×Int→Nat:=fun x=>(((cs.getD x2_0.toNat default).code.length:Int)-x.1).toNat
def L41_1 (mem:List Int) (sh:Int) (lk:Int) (bu:Int) (cs:List Cor) (x2_0:Int) (x2_1:Int) (x2_2:Int) (x2_3:Int):Lp (Int×Int×Int×Int):=⟨L41_1_I mem sh lk bu cs x2_0 x2_1 x2_2 x2_3,L41_1_J mem sh lk bu cs x2_0 x2_1 x2_2 x2_3,L41_1_m mem sh lk bu cs x2_0 x2_1 x2_2 x2_3⟩
theorem c_check (mem:List Int) (sh lk bu:Int) (cs:List Cor) (hw:∀ a b:Nat,insK ((cs.getD a default).code.getD b default)):Ctr Tryz.prog 70 [IntRow mem,Cor.rowR cs] [.agg [.h 0,.i .i64 sh,.i .i64 lk,.i .i64 bu,.h 1]]
 (Det (.tup [(false,[.i .i64 (chkE mem sh lk bu cs)]),(false,[.i .i64 (chkI mem sh lk bu cs)]),(false,[.i .i64 (chkK mem sh lk bu cs)])]) [.dead,.dead]):=by
 refine Ctr.intro [] Tryz.func70 K K ?_
 refine RunF.lens 1 (m:=cs.length) K (fun hlens_1=>?_)
 refine tCall e_target_shaped (c_shaped (mem:=mem) (sh:=sh) (lk:=lk) (bu:=bu) (cs:=cs)) [] ?_
 refine tz [10,4,3,2,1] ?_
 refine tCond (!shapedB mem sh lk bu cs) (fun h1=>?_) (fun h1=>?_)
 ·exact tRet [] [0,1,2] [chkE mem sh lk bu cs=(160:Int),chkI mem sh lk bu cs=(0:Int),chkK mem sh lk bu cs=(0:Int)] (by simp only [Conj,chkE,chkI,chkK];first | grind | (have he:=findFrom_end (rowB mem cs) (i:=x2_0) (n:=cs.length) (by grind);grind) | (have hp:insOk mem cs x2_0 x4_0=false:=(by simp only [insOk,corAt,insAt];grind);have hs:=findFrom_stop (insOk mem cs x2_0) (n:=((cs.getD x2_0.toNat default).code.length:Int)) (by grind) hp;have hq:rowB mem cs x2_0=false:=(by simp only [rowB,corAt];grind);have hs2:=findFrom_stop (rowB mem cs) (n:=cs.length) (by grind) hq;have hb:badI mem cs=x2_0:=(by grind);rw [hb];simp only [corAt];grind))
 ·refine tz [4,3,2,1] ?_
  refine tLoop (L41_0 mem sh lk bu cs) (((0:Int),(0:Int),(0:Int),(0:Int))) ⟨Int.le_refl _,by grind,rfl⟩ ?_
  rintro ⟨x2_0,x2_1,x2_2,x2_3⟩ hJ2
  dsimp only [L41_0,L41_0_J] at hJ2
  refine tz [15,14,13,4,3,2,1] ?_
  refine tCond (decide (x2_0<(↑cs.length:Int))) (fun h3=>?_) (fun h3=>?_)
  ·refine tFoc 1 (x2_0.toNat) ?_ (vc:=[x2_0.toNat<cs.length]) (hv:=(by simp only [Conj,Fits,i64_min,i64_max,u8_min,u8_max];(repeat' (first | apply And.intro | intro _))<;>first | grind | (simp only [BL] at *;omega)))
   refine RunF.lens 3 (m:=(cs.getD x2_0.toNat default).code.length) K (fun hlenh3t_3=>?_)
   refine tz [15,14,13,4,3,2,1] ?_
   refine tLoop (L41_1 mem sh lk bu cs x2_0 x2_1 x2_2 x2_3) (((0:Int),x2_1,x2_2,x2_3)) (by dsimp only [L41_1,L41_1_J];grind) ?_ (vc:=[(0:Int)≤x2_0,x2_0<(↑cs.length:Int),x2_0.toNat=x2_0.toNat]) (hv:=(by simp only [Conj,Fits,i64_min,i64_max,u8_min,u8_max];(repeat' (first | apply And.intro | intro _))<;>first | grind | (simp only [BL] at *;omega)))
   rintro ⟨x4_0,x4_1,x4_2,x4_3⟩ hJ4
   dsimp only [L41_1,L41_1_J] at hJ4
   refine tz [23,22,21,5,6,15,14,13,4,3,2,1] ?_
   refine tCond (decide (x4_0<(↑(cs.getD x2_0.toNat default).code.length:Int))) (fun h5=>?_) (fun h5=>?_)
   ·refine tz [23,22,21,5,6,15,14,13,4,3,2,1] ?_
    refine tCall e_target_Right (c_insright (i:=(cs.getD x2_0.toNat default).code.getD x4_0.toNat default) (code:=(↑(cs.getD x2_0.toNat default).code.length:Int)) (memory:=(↑mem.length:Int)) (hk:=by first | assumption | exact (hw _ _).1 | exact (hw _ _).2 | exact hw _ _ | exact ⟨(hw _ _).1.1,(hw _ _).2.1⟩) (ho:=by first | assumption | exact (hw _ _).1 | exact (hw _ _).2 | exact hw _ _ | exact ⟨(hw _ _).1.1,(hw _ _).2.1⟩)) [] ?_ (vc:=[(0:Int)≤x4_0,x4_0<(↑(cs.getD x2_0.toNat default).code.length:Int),x4_0.toNat<(cs.getD x2_0.toNat default).code.length]) (hv:=(by simp only [Conj,Fits,i64_min,i64_max,u8_min,u8_max];(repeat' (first | apply And.intro | intro _))<;>first | grind | (simp only [BL] at *;omega)))
    refine tz [35,7,23,22,21,5,6,15,14,13,4,3,2,1] ?_
    refine tCond (!insB ((cs.getD x2_0.toNat default).code.getD x4_0.toNat default) (↑(cs.getD x2_0.toNat default).code.length:Int) (↑mem.length:Int)) (fun h6=>?_) (fun h6=>?_)
    ·exact tRet [] [0,1,2] [chkE mem sh lk bu cs=(160:Int),chkI mem sh lk bu cs=x2_0,chkK mem sh lk bu cs=x4_0] (by simp only [Conj,chkE,chkI,chkK];first | grind | (have he:=findFrom_end (rowB mem cs) (i:=x2_0) (n:=cs.length) (by grind);grind) | (have hp:insOk mem cs x2_0 x4_0=false:=(by simp only [insOk,corAt,insAt];grind);have hs:=findFrom_stop (insOk mem cs x2_0) (n:=((cs.getD x2_0.toNat default).code.length:Int)) (by grind) hp;have hq:rowB mem cs x2_0=false:=(by simp only [rowB,corAt];grind);have hs2:=findFrom_stop (rowB mem cs) (n:=cs.length) (by grind) hq;have hb:badI mem cs=x2_0:=(by grind);rw [hb];simp only [corAt];grind))
    ·exact tNext (L41_1 mem sh lk bu cs x2_0 x2_1 x2_2 x2_3) (x4_0,x4_1,x4_2,x4_3) ((x4_0+(1:Int),x4_1,x4_2,x4_3)) (by dsimp only [L41_1,L41_1_m];(try simp only [decide_eq_true_eq] at *);omega) (by have hp:insOk mem cs x2_0 x4_0=true:=(by simp only [insOk,corAt,insAt];grind);have hs:=findFrom_next (insOk mem cs x2_0) (n:=((cs.getD x2_0.toNat default).code.length:Int)) (by grind) hp;dsimp only [L41_1,L41_1_J] at *;grind) (vc:=[Fits IntKind.i64 (x4_0+(1:Int))]) (hv:=(by simp only [Conj,Fits,i64_min,i64_max,u8_min,u8_max];(repeat' (first | apply And.intro | intro _))<;>first | grind | (simp only [BL] at *;omega)))
   ·exact tNext (L41_0 mem sh lk bu cs) (x2_0,x2_1,x2_2,x2_3) ((x2_0+(1:Int),x4_1,x4_2,x4_3)) (by dsimp only [L41_0,L41_0_m];(try simp only [decide_eq_true_eq] at *);omega) (by have he:=findFrom_end (insOk mem cs x2_0) (i:=x4_0) (n:=((cs.getD x2_0.toNat default).code.length:Int)) (by grind);have hp:rowB mem cs x2_0=true:=(by simp only [rowB,corAt];grind);have hs:=findFrom_next (rowB mem cs) (n:=cs.length) (by grind) hp;dsimp only [L41_0,L41_0_J] at *;grind) (vc:=[Fits IntKind.i64 (x2_0+(1:Int))]) (hv:=(by simp only [Conj,Fits,i64_min,i64_max,u8_min,u8_max];(repeat' (first | apply And.intro | intro _))<;>first | grind | (simp only [BL] at *;omega)))
  ·exact tRet [] [0,1,2] [chkE mem sh lk bu cs=(0:Int),chkI mem sh lk bu cs=(0:Int),chkK mem sh lk bu cs=(0:Int)] (by simp only [Conj,chkE,chkI,chkK];first | grind | (have he:=findFrom_end (rowB mem cs) (i:=x2_0) (n:=cs.length) (by grind);grind) | (have hp:insOk mem cs x2_0 x4_0=false:=(by simp only [insOk,corAt,insAt];grind);have hs:=findFrom_stop (insOk mem cs x2_0) (n:=((cs.getD x2_0.toNat default).code.length:Int)) (by grind) hp;have hq:rowB mem cs x2_0=false:=(by simp only [rowB,corAt];grind);have hs2:=findFrom_stop (rowB mem cs) (n:=cs.length) (by grind) hq;have hb:badI mem cs=x2_0:=(by grind);rw [hb];simp only [corAt];grind))
end Go.Proofs.YtmjjikcappbkeaaGreat
end
noncomputable section
namespace Go.Proofs.YtmjjikcappbkeaaGreat
open Go Go.Tx
def R33_I (mem:List Int) (sh lk bu:Int) (cs:List Cor) (l:List Did):List Ev→List Reg:=fun x=>[IntRow mem,Cor.rowR cs,Did.rowR l,Reg.box 115 [.h 6],.ro [.h 0,.i .i64 sh,.i .i64 lk,.i .i64 bu,.h 1],.ro [.h 2],Ev.ownR x]
def R33_J (sh lk:Int) (l:List Did):Nat→List Ev→Prop:=fun k x=>x=(evUp sh lk l l.length).take k
def R33_Jx:Code→List Ev→Prop:=fun _ _=>False
def R33_n (sh lk:Int) (l:List Did):Nat:=(evUp sh lk l l.length).length
def R33_enc (sh lk:Int) (l:List Did):Nat→SV:=fun k=>.agg ((evUp sh lk l l.length).getD k default).cs
def R33_P (sh lk bu:Int) (l:List Did):List Reg:=[Did.rowR l,.ro [.h 0],.ro [.h 3,.i .i64 sh,.i .i64 lk,.i .i64 bu,.h 4],.dead,.dead]
def R33_Q:List SV:=[.c (.p 1 0),.c (.p 2 0)]
def R33_A (mem:List Int) (sh lk bu:Int) (cs:List Cor) (l:List Did):Nat→List Ev→St:=fun k x=>St.mk 32 [En.mk 10 [] (SV.c (C.p 7 0)),En.mk 9 [] (SV.c (C.p 3 0))] [Reg.row 1 mem.length (fun i=>i64T (mem.getD i (0:Int))) none,Reg.row 2 cs.length (fun i=>(cs.getD i default).tc) none,Reg.row 7 l.length (fun i=>(l.getD i default).tc) none,Reg.box 115 [C.h 6],Reg.ro [C.h 0,C.i .i64 sh,C.i .i64 lk,C.i .i64 bu,C.h 1],Reg.ro [C.h 2],Reg.own 123 7 x.length (fun i=>(x.getD i default).tc) none,Reg.box 123 [C.i .u8 ((evUp sh lk l l.length).getD k default).kind,C.i .i64 ((evUp sh lk l l.length).getD k default).core,C.i .i64 ((evUp sh lk l l.length).getD k default).thing,C.i .i64 ((evUp sh lk l l.length).getD k default).word,C.i .i64 ((evUp sh lk l l.length).getD k default).put,C.b ((evUp sh lk l l.length).getD k default).own,C.i .i64 ((evUp sh lk l l.length).getD k default).pos]] [1000000007]
abbrev z15_2 (sh:Int) (lk:Int) (l:List Did) (k3:Nat):=((evUp sh lk l l.length).getD k3 default)
abbrev z15_1 (x3_0:List Ev) (sh:Int) (lk:Int) (l:List Did) (k3:Nat):=(x3_0++[Ev.mk (z15_2 sh lk l k3).kind (z15_2 sh lk l k3).core (z15_2 sh lk l k3).thing (z15_2 sh lk l k3).word (z15_2 sh lk l k3).put (z15_2 sh lk l k3).own (z15_2 sh lk l k3).pos])
theorem c_eventsT (mem:List Int) (sh lk bu:Int) (cs:List Cor) (l:List Did) (hw:∀ a b:Nat,insK ((cs.getD a default).code.getD b default)) (hl:∀ a:Nat,0≤(l.getD a default).kind∧(l.getD a default).kind≤255) (hn:(l.length:Int) * 56≤140737488355328):Ctr Tryz.prog 39 [IntRow mem,Cor.rowR cs,Did.rowR l] [.agg [.h 0,.i .i64 sh,.i .i64 lk,.i .i64 bu,.h 1],.c (.h 2)]
 (Det (.tup [(false,[.h 3]),(false,[.i .i64 (evE mem sh lk bu cs l)])]) [.dead,.dead,.dead,Ev.ownR (evL mem sh lk bu cs l)]):=by
 refine Ctr.intro [] Tryz.func39 K K ?_
 refine tCall e_target_Check (c_check (mem:=mem) (sh:=sh) (lk:=lk) (bu:=bu) (cs:=cs) (hw:=by first | assumption | omega | exact hw | exact hl | exact rng (by first | assumption | grind) (by grind) (by grind) | exact shr (mem:=mem) (bu:=bu) (cs:=cs) (by grind))) [] ?_
 refine tz [13,5,4,2,1] ?_
 refine tCond (!decide (chkE mem sh lk bu cs=(0:Int))) (fun h1=>?_) (fun h1=>?_)
 ·exact tRet [0,1,2,1000003] [0,1] [(evL mem sh lk bu cs l).length=0,evE mem sh lk bu cs l=chkE mem sh lk bu cs] (by simp only [Conj];first | (simp only [evE,evL] at *;grind) | (have e:evL mem sh lk bu cs l=x3_0:=(by rw [hJ3,R33_n,List.take_length,show evL mem sh lk bu cs l=evUp sh lk l l.length by (simp only [evL,evE];grind)]);rw [e];exact ⟨rfl,fun _ _=>rfl,by simp only [evE];grind⟩) | (have e:evL mem sh lk bu cs l=x3_0:=(by rw [hJ3,R33_n,List.take_length,show evL mem sh lk bu cs l=evUp sh lk l l.length by (simp only [evL,evE];grind)]);rw [e];simp only [evE];grind))
 ·refine tz [5,4,2,1] ?_
  refine tCall e_trace_right (c_right (l:=l) (hl:=by first | assumption | omega | exact hw | exact hl | exact rng (by first | assumption | grind) (by grind) (by grind) | exact shr (mem:=mem) (bu:=bu) (cs:=cs) (by grind))) [2] ?_
  refine tz [21,5,4,2,1] ?_
  refine tCond (!rightsB l) (fun h2=>?_) (fun h2=>?_)
  ·exact tRet [0,1,2,1000003] [0,1] [(evL mem sh lk bu cs l).length=0,evE mem sh lk bu cs l=(190:Int)] (by simp only [Conj];first | (simp only [evE,evL] at *;grind) | (have e:evL mem sh lk bu cs l=x3_0:=(by rw [hJ3,R33_n,List.take_length,show evL mem sh lk bu cs l=evUp sh lk l l.length by (simp only [evL,evE];grind)]);rw [e];exact ⟨rfl,fun _ _=>rfl,by simp only [evE];grind⟩) | (have e:evL mem sh lk bu cs l=x3_0:=(by rw [hJ3,R33_n,List.take_length,show evL mem sh lk bu cs l=evUp sh lk l l.length by (simp only [evL,evE];grind)]);rw [e];simp only [evE];grind))
  ·refine tz [5,4,2,1] ?_
   refine tCall e_trace_events (c_eventsF (mem:=mem) (sh:=sh) (lk:=lk) (bu:=bu) (cs:=cs) (l:=l)) [] ?_
   refine tz [25,9,5,4] ?_
   refine tRange (I:=R33_I mem sh lk bu cs l) (J:=R33_J sh lk l) (Jx:=R33_Jx) (n:=R33_n sh lk l) (nf:=6) (fi:=116) (enc:=R33_enc sh lk l) (stA:=R33_A mem sh lk bu cs l) (preI:=R33_P sh lk bu l) (argsI:=R33_Q) (caps:=[5,4]) ([]) (St.mk 32 [En.mk 25 [] (SV.c (C.fn 116 false [5,4])),En.mk 9 [] (SV.c (C.p 3 0)),En.mk 5 [] (SV.c (C.i .i64 0)),En.mk 4 [] (SV.c (C.v (Value.slice none 0 0)))] [Reg.row 1 mem.length (fun i=>i64T (mem.getD i (0:Int))) none,Reg.row 2 cs.length (fun i=>(cs.getD i default).tc) none,Reg.row 7 l.length (fun i=>(l.getD i default).tc) none,Reg.box 115 [C.h 6],Reg.ro [C.h 0,C.i .i64 sh,C.i .i64 lk,C.i .i64 bu,C.h 1],Reg.ro [C.h 2],Reg.own 123 7 0 (fun i=>(([]:List Ev).getD i default).tc) none] []) [0,1,2,4,5,6,1000006] [2,5,4,0,1] rfl e_trace_events_1 (fun Xe hn he hy=>c_events_it mem sh lk bu cs l (shr (mem:=mem) (bu:=bu) (cs:=cs) (by grind)) (by grind) Xe hn he hy) ?_ ?_ ?_ (fun _ _ h=>h.elim)
   ·intro k3 x3 hk3 hJ3
    exact tTo (fun x=>R33_A mem sh lk bu cs l k3 x3) (fun x=>True) () trivial
   ·rintro k3 x3_0 hk3 hJ3
    dsimp only [R33_J] at hJ3
    exact tEnd (z15_1 x3_0 sh lk l k3) (by dsimp only [R33_J] at *;subst_vars;exact take_next (by assumption)) [0,1,2,3,4,5,9] [9,10,11,12,13,14,15,16,17] [(z15_1 x3_0 sh lk l k3).length=x3_0.length+1,∀ (i:Nat),i<(z15_1 x3_0 sh lk l k3).length→i≠x3_0.length→((z15_1 x3_0 sh lk l k3).getD i default).tc=(x3_0.getD i default).tc,((z15_1 x3_0 sh lk l k3).getD x3_0.length default).tc 0=TC.val (Value.int IntKind.u8 (z15_2 sh lk l k3).kind),((z15_1 x3_0 sh lk l k3).getD x3_0.length default).tc 1=TC.val (Value.int IntKind.i64 (z15_2 sh lk l k3).core),((z15_1 x3_0 sh lk l k3).getD x3_0.length default).tc 2=TC.val (Value.int IntKind.i64 (z15_2 sh lk l k3).thing),((z15_1 x3_0 sh lk l k3).getD x3_0.length default).tc 3=TC.val (Value.int IntKind.i64 (z15_2 sh lk l k3).word),((z15_1 x3_0 sh lk l k3).getD x3_0.length default).tc 4=TC.val (Value.int IntKind.i64 (z15_2 sh lk l k3).put),((z15_1 x3_0 sh lk l k3).getD x3_0.length default).tc 5=TC.val (Value.bool (z15_2 sh lk l k3).own),((z15_1 x3_0 sh lk l k3).getD x3_0.length default).tc 6=TC.val (Value.int IntKind.i64 (z15_2 sh lk l k3).pos)] (by (try simp only [Conj])<;>(repeat' apply And.intro)<;>first | done | trivial | rfl | (intros;first | rfl | trivial) | exact snoc_len _ _ | exact List.length_set | exact set_ints _ _ _ | exact take_row _ _ _ _ _ | (exact take_len _ _ _ (by first | omega | (have h0:=askE_ok (by simpa using h1);have hm:=evE_mem h0.1;have hs:=evE_ok h0.1;omega))) | exact MpEq.put (by omega) | (refine MpEq.mk' (by omega) ?_ ?_<;>intro q<;>first | rfl | (dsimp only;split<;>simp_all)) | (exact MpEq.mkIt (by omega) (fun _=>rfl) (fun _=>rfl) rfl rfl (fun _=>rfl)) | (intro i h1 h2;rw [snoc_lo h1 h2]) | (rw [getD_snoc];rfl)) (vc:=[x3_0.length+1≤maxLen,(x3_0.length+1) * 56≤140737488355328]) (hv:=(by simp only [Conj,Fits,i64_min,i64_max,u8_min,u8_max,News.len,maxLen]<;>(repeat' (first | apply And.intro | intro _))<;>first | grind | (have hl3:=evUp_len sh lk l l.length;have hl4:x3_0.length+1≤l.length:=(by rw [hJ3,List.length_take];have hk4:k3<(evUp sh lk l l.length).length:=hk3;omega);first | grind | omega) | (simp only [BL] at *;omega)))
   ·rintro x3_0 hJ3
    dsimp only [R33_J] at hJ3
    exact tRet [0,1,2,6] [0,1,2] [(evL mem sh lk bu cs l).length=x3_0.length,∀ (i:Nat),i<(evL mem sh lk bu cs l).length→((evL mem sh lk bu cs l).getD i default).tc=(x3_0.getD i default).tc,evE mem sh lk bu cs l=(0:Int)] (by simp only [Conj];first | (simp only [evE,evL] at *;grind) | (have e:evL mem sh lk bu cs l=x3_0:=(by rw [hJ3,R33_n,List.take_length,show evL mem sh lk bu cs l=evUp sh lk l l.length by (simp only [evL,evE];grind)]);rw [e];exact ⟨rfl,fun _ _=>rfl,by simp only [evE];grind⟩) | (have e:evL mem sh lk bu cs l=x3_0:=(by rw [hJ3,R33_n,List.take_length,show evL mem sh lk bu cs l=evUp sh lk l l.length by (simp only [evL,evE];grind)]);rw [e];simp only [evE];grind))
end Go.Proofs.YtmjjikcappbkeaaGreat
end
noncomputable section
namespace Go.Proofs.YtmjjikcappbkeaaGreat
open Go Go.Tx
def R17_I (mem:List Int) (sh lk bu:Int) (cs:List Cor) (cl:List Cls) (l:List Did):List Int→List Reg:=fun x=>[IntRow mem,Cor.rowR cs,Cls.rowR cl,Did.rowR l,Ev.rowR (evL mem sh lk bu cs l),Reg.box 31 [.h 8],.ro [.h 4],.ro [.h 2],IntOwn x]
def R17_J (mem:List Int) (sh lk bu:Int) (cs:List Cor) (cl:List Cls) (l:List Did):Nat→List Int→Prop:=fun k x=>x=(visUp cl (evL mem sh lk bu cs l) (evL mem sh lk bu cs l).length).take k
def R17_Jx:Code→List Int→Prop:=fun _ _=>False
def R17_n (mem:List Int) (sh lk bu:Int) (cs:List Cor) (cl:List Cls) (l:List Did):Nat:=(visUp cl (evL mem sh lk bu cs l) (evL mem sh lk bu cs l).length).length
def R17_enc (mem:List Int) (sh lk bu:Int) (cs:List Cor) (cl:List Cls) (l:List Did):Nat→SV:=fun k=>.c (.i .i64 ((visUp cl (evL mem sh lk bu cs l) (evL mem sh lk bu cs l).length).getD k 0))
def R17_P (mem:List Int) (sh lk bu:Int) (cs:List Cor) (cl:List Cls) (l:List Did):List Reg:=[Ev.rowR (evL mem sh lk bu cs l),Cls.rowR cl,.ro [.h 0],.ro [.h 1]]
def R17_Q:List SV:=[.c (.p 2 0),.c (.p 3 0)]
abbrev z58_1 (cl:List Cls) (mem:List Int) (sh:Int) (lk:Int) (bu:Int) (cs:List Cor) (l:List Did):=(visUp cl (evL mem sh lk bu cs l) (evL mem sh lk bu cs l).length)
def R17_A (mem:List Int) (sh lk bu:Int) (cs:List Cor) (cl:List Cls) (l:List Did):Nat→List Int→St:=fun k x=>St.mk 35 [En.mk 11 [] (SV.c (C.i .i64 ((z58_1 cl mem sh lk bu cs l).getD k (0:Int)))),En.mk 10 [] (SV.c (C.p 5 0))] [Reg.row 1 mem.length (fun i=>i64T (mem.getD i (0:Int))) none,Reg.row 2 cs.length (fun i=>(cs.getD i default).tc) none,Reg.row 3 cl.length (fun i=>(cl.getD i default).tc) none,Reg.row 7 l.length (fun i=>(l.getD i default).tc) none,Reg.row 7 (evL mem sh lk bu cs l).length (fun i=>((evL mem sh lk bu cs l).getD i default).tc) none,Reg.box 31 [C.h 8],Reg.ro [C.h 4],Reg.ro [C.h 2],Reg.own 3 1 x.length (fun i=>i64T (x.getD i (0:Int))) none] [1000000007]
theorem c_order (mem:List Int) (sh lk bu:Int) (cs:List Cor) (cl:List Cls) (l:List Did) (hw:∀ a b:Nat,insK ((cs.getD a default).code.getD b default)) (hl:∀ a:Nat,0≤(l.getD a default).kind∧(l.getD a default).kind≤255) (hn:(l.length:Int) * 56≤140737488355328):Ctr Tryz.prog 16 [IntRow mem,Cor.rowR cs,Cls.rowR cl,Did.rowR l] [.agg [.h 0,.i .i64 sh,.i .i64 lk,.i .i64 bu,.h 1],.c (.h 2),.c (.h 3)]
 (Det (.tup [(false,[.h 4]),(false,[.i .i64 (ordE mem sh lk bu cs cl l)])]) [.dead,.dead,.dead,.dead,IntOwn (ordL mem sh lk bu cs cl l)]):=by
 refine Ctr.intro [] Tryz.func16 K K ?_
 refine tCall e_trace_Events (c_eventsT (mem:=mem) (sh:=sh) (lk:=lk) (bu:=bu) (cs:=cs) (l:=l) (hw:=by first | assumption | omega) (hl:=by first | assumption | omega) (hn:=by first | assumption | omega)) [0,1,3] ?_
 refine tz [15,7,6,3,1] ?_
 refine tCond (!decide (evE mem sh lk bu cs l=(0:Int))) (fun h1=>?_) (fun h1=>?_)
 ·rw [ordE_err (cl:=cl) h1]
  rw [ordL_err (cl:=cl) h1]
  exact tRet [0,1,2,3,1000004] [0] [(0:Nat)=0] (by simp only [Conj] at *<;>grind)
 ·refine tz [8,7,6,3,1] ?_
  refine tCond (!decide ((↑cl.length:Int)=sh)) (fun h2=>?_) (fun h2=>?_)
  ·rw [ordE_cls h1 h2]
   rw [ordL_cls h1 h2]
   exact tRet [0,1,2,3,1000004] [0] [(0:Nat)=0] (by simp only [Conj] at *<;>grind)
  ·refine tz [8,7,6,1] ?_
   refine tCall e_witness_visible (c_visF (l:=evL mem sh lk bu cs l) (cl:=cl)) [5,2] ?_
   refine tz [28,10,7,6] ?_
   refine tRange (I:=R17_I mem sh lk bu cs cl l) (J:=R17_J mem sh lk bu cs cl l) (Jx:=R17_Jx) (n:=R17_n mem sh lk bu cs cl l) (nf:=8) (fi:=73) (enc:=R17_enc mem sh lk bu cs cl l) (stA:=R17_A mem sh lk bu cs cl l) (preI:=R17_P mem sh lk bu cs cl l) (argsI:=R17_Q) (caps:=[6,7]) ([]) (St.mk 35 [En.mk 28 [] (SV.c (C.fn 73 false [6,7])),En.mk 10 [] (SV.c (C.p 5 0)),En.mk 7 [] (SV.c (C.i .i64 0)),En.mk 6 [] (SV.c (C.v (Value.slice none 0 0)))] [Reg.row 1 mem.length (fun i=>i64T (mem.getD i (0:Int))) none,Reg.row 2 cs.length (fun i=>(cs.getD i default).tc) none,Reg.row 3 cl.length (fun i=>(cl.getD i default).tc) none,Reg.row 7 l.length (fun i=>(l.getD i default).tc) none,Reg.row 7 (evL mem sh lk bu cs l).length (fun i=>((evL mem sh lk bu cs l).getD i default).tc) none,Reg.box 31 [C.h 8],Reg.ro [C.h 4],Reg.ro [C.h 2],Reg.own 3 1 0 (fun i=>i64T (([]:List Int).getD i (0:Int))) none] []) [0,1,2,3,5,6,7,8,1000008] [4,2,6,7] rfl e_witness_visible_1 (fun Xe hn he hy=>c_vis_it (evL mem sh lk bu cs l) cl (ev_Q h1 h2).1 Xe hn he hy) ?_ ?_ ?_ (fun _ _ h=>h.elim)
   ·intro k3 x3 hk3 hJ3
    exact tTo (fun x=>R17_A mem sh lk bu cs cl l k3 x3) (fun x=>True) () trivial
   ·rintro k3 x3_0 hk3 hJ3
    dsimp only [R17_J] at hJ3
    exact tEnd (x3_0++[(z58_1 cl mem sh lk bu cs l).getD k3 (0:Int)]) (by dsimp only [R17_J] at *;subst_vars;exact take_next (by assumption)) [0,1,2,3,4,5,6,7,10] [10,11,12] [(x3_0++[(z58_1 cl mem sh lk bu cs l).getD k3 (0:Int)]).length=x3_0.length+1,∀ (i:Nat),i<(x3_0++[(z58_1 cl mem sh lk bu cs l).getD k3 (0:Int)]).length→i≠x3_0.length→i64T ((x3_0++[(z58_1 cl mem sh lk bu cs l).getD k3 (0:Int)]).getD i (0:Int))=i64T (x3_0.getD i (0:Int)),i64T ((x3_0++[(z58_1 cl mem sh lk bu cs l).getD k3 (0:Int)]).getD x3_0.length (0:Int)) 0=TC.val (Value.int IntKind.i64 ((z58_1 cl mem sh lk bu cs l).getD k3 (0:Int)))] (by (try simp only [Conj])<;>(repeat' apply And.intro)<;>first | done | trivial | rfl | (intros;first | rfl | trivial) | exact snoc_len _ _ | exact List.length_set | exact set_ints _ _ _ | exact take_row _ _ _ _ _ | (exact take_len _ _ _ (by first | omega | (have h0:=askE_ok (by simpa using h1);have hm:=evE_mem h0.1;have hs:=evE_ok h0.1;omega))) | exact MpEq.put (by omega) | (refine MpEq.mk' (by omega) ?_ ?_<;>intro q<;>first | rfl | (dsimp only;split<;>simp_all)) | (exact MpEq.mkIt (by omega) (fun _=>rfl) (fun _=>rfl) rfl rfl (fun _=>rfl)) | (intro i h1 h2;rw [snoc_lo h1 h2]) | (rw [getD_snoc];rfl)) (vc:=[x3_0.length+1≤maxLen,(x3_0.length+1) * 8≤140737488355328]) (hv:=(by simp only [Conj,Fits,i64_min,i64_max,u8_min,u8_max,News.len,maxLen]<;>(repeat' (first | apply And.intro | intro _))<;>first | grind | (have hl4:=visUp_len cl (evL mem sh lk bu cs l) (evL mem sh lk bu cs l).length;have hl5:=(ev_Q (cl:=cl) h1 h2).2;have hl6:x3_0.length+1≤(visUp cl (evL mem sh lk bu cs l) (evL mem sh lk bu cs l).length).length:=(by rw [hJ3,List.length_take];have hk4:k3<(visUp cl (evL mem sh lk bu cs l) (evL mem sh lk bu cs l).length).length:=hk3;omega);first | grind | omega) | (simp only [BL] at *;omega)))
   ·rintro x3_0 hJ3
    dsimp only [R17_J] at hJ3
    rw [ordE_ok h1 h2]
    rw [ordL_ok h1 h2]
    have hx:x3_0=visUp cl (evL mem sh lk bu cs l) (evL mem sh lk bu cs l).length:=by rw [hJ3];exact List.take_length
    rw [hx.symm]
    exact tRet [0,1,2,3,8]
end Go.Proofs.YtmjjikcappbkeaaGreat
end
namespace Go.Proofs.YtmjjikcappbkeaaGreat
open Go Go.Tx
theorem take_getD {α:Type} (d:α) (l:List α) {n i:Nat} (h:i<n):(l.take n).getD i d=l.getD i d:=by
 rw [List.getD_eq_getElem?_getD,List.getElem?_take,if_pos h,List.getD_eq_getElem?_getD]
theorem rights_take {l:List Did} {n:Nat} (h:rightsB l=true) (hn:n≤l.length):rightsB (l.take n)=true:=by
 unfold rightsB allFrom at h ⊢
 rw [List.all_eq_true] at h ⊢
 intro j hj
 rw [List.length_take,Nat.min_eq_left hn] at hj
 simp only [List.mem_range,Int.sub_zero,Int.toNat_natCast] at hj
 have:=h j (by simp only [List.mem_range,Int.sub_zero,Int.toNat_natCast];omega)
 unfold rightP didAt at this ⊢
 simp only [Int.zero_add,Int.toNat_natCast] at this ⊢
 rw [take_getD _ _ hj]
 exact this
theorem evUp_pre (sh lk:Int) (l:List Did) {n:Nat}:∀ {k:Nat},k≤n→evUp sh lk (l.take n) k=evUp sh lk l k
 | 0,_=>rfl
 | k+1,h=>by
   have e:evAt sh lk (l.take n) k=evAt sh lk l k:=by
    unfold evAt
    rw [take_getD _ _ (by omega)]
   rw [evUp,evUp,evUp_pre sh lk l (by omega),e]
theorem visUp_pre (cl:List Cls) {a b:List Ev} (h:a <+: b):∀ {k:Nat},k≤a.length→visUp cl a k=visUp cl b k
 | 0,_=>rfl
 | k+1,hk=>by
   obtain ⟨t,rfl⟩:=h
   have e:(a++t).getD k default=a.getD k default:=by
    rw [List.getD_eq_getElem?_getD,List.getElem?_append_left (by omega),List.getD_eq_getElem?_getD]
   rw [visUp,visUp,visUp_pre cl ⟨t,rfl⟩ (by omega),e]
section
variable {mem:List Int} {sh lk bu:Int} {cs:List Cor} {cl:List Cls} {l:List Did} {n:Nat}
theorem evE_take (h:evE mem sh lk bu cs l=0) (hn:n≤l.length):evE mem sh lk bu cs (l.take n)=0:=by
 obtain ⟨h1,h2⟩:=evE_zero h
 unfold evE
 rw [if_pos h1,if_pos (rights_take h2 hn)]
theorem ordE_zero (h:ordE mem sh lk bu cs cl l=0):evE mem sh lk bu cs l=0∧(cl.length:Int)=sh:=by
 unfold ordE at h
 split at h
 ·exact absurd h (by assumption)
 ·rename_i h1
  split at h
  ·cases h
  ·rename_i h2;exact ⟨by simpa using h1,by simpa using h2⟩
theorem ordE_take (h:ordE mem sh lk bu cs cl l=0) (hn:n≤l.length):ordE mem sh lk bu cs cl (l.take n)=0:=by
 obtain ⟨h1,h2⟩:=ordE_zero h
 unfold ordE
 rw [if_neg (by simpa using evE_take h1 hn),if_neg (by simpa using h2)]
theorem ordL_take (h:ordE mem sh lk bu cs cl l=0) (hn:n≤l.length):ordL mem sh lk bu cs cl (l.take n) <+: ordL mem sh lk bu cs cl l:=by
 have h1:=(ordE_zero h).1
 unfold ordL
 rw [if_pos h,if_pos (ordE_take h hn)]
 have e1:evL mem sh lk bu cs (l.take n)=evUp sh lk l n:=by
  unfold evL
  rw [if_pos (evE_take h1 hn),List.length_take,Nat.min_eq_left hn,evUp_pre sh lk l (Nat.le_refl n)]
 have e2:evL mem sh lk bu cs l=evUp sh lk l l.length:=by
  unfold evL
  rw [if_pos h1]
 rw [e1,e2]
 have hp:=evUp_prefix sh lk l hn
 rw [visUp_pre cl hp (Nat.le_refl _)]
 exact visUp_prefix cl _ hp.length_le
theorem front_in {l:List Did} {n:Int} (h:(!decide ((0:Int)=(0:Int))||decide (n<(0:Int))||decide ((l.length:Int)<n))=false):0≤n∧n.toNat≤l.length:=by
 simp at h;omega
theorem front_T {n:Int} (h:ordE mem sh lk bu cs cl l=0) (hn:n.toNat≤l.length):ordE mem sh lk bu cs cl (List.take (n.toNat-0) (List.drop 0 l))=0:=by
 rw [List.drop_zero,Nat.sub_zero];exact ordE_take h hn
theorem front_L {n:Int} (h:ordE mem sh lk bu cs cl l=0) (hn:n.toNat≤l.length):ordL mem sh lk bu cs cl (List.take (n.toNat-0) (List.drop 0 l)) <+: ordL mem sh lk bu cs cl l:=by
 rw [List.drop_zero,Nat.sub_zero];exact ordL_take h hn
theorem front_fin {n:Int} (h:ordE mem sh lk bu cs cl l=0) (hn:n.toNat≤l.length):ordL mem sh lk bu cs cl (List.take (n.toNat-0) (List.drop 0 l))=List.take ((ordL mem sh lk bu cs cl (List.take (n.toNat-0) (List.drop 0 l))).length-0) (List.drop 0 (ordL mem sh lk bu cs cl l)):=by
 conv=>rhs;rw [List.drop_zero,Nat.sub_zero]
 exact List.prefix_iff_eq_take.1 (front_L h hn)
theorem ordL_no (h:¬ ordE mem sh lk bu cs cl l=0):ordL mem sh lk bu cs cl l=[]:=by unfold ordL;rw [if_neg h]
end
end Go.Proofs.YtmjjikcappbkeaaGreat
noncomputable section
namespace Go.Proofs.YtmjjikcappbkeaaGreat
open Go Go.Tx
theorem c_order0 (mem:List Int) (sh lk bu:Int) (cs:List Cor) (cl:List Cls) (l:List Did) (hw:∀ a b:Nat,insK ((cs.getD a default).code.getD b default)) (hl:∀ a:Nat,0≤(l.getD a default).kind∧(l.getD a default).kind≤255) (hn:(l.length:Int) * 56≤140737488355328) (hsel:ordE mem sh lk bu cs cl l=0):Ctr Tryz.prog 16 [IntRow mem,Cor.rowR cs,Cls.rowR cl,Did.rowR l] [.agg [.h 0,.i .i64 sh,.i .i64 lk,.i .i64 bu,.h 1],.c (.h 2),.c (.h 3)]
 (Det (.tup [(false,[.h 4]),(false,[.i .i64 0])]) [.dead,.dead,.dead,.dead,IntOwn (ordL mem sh lk bu cs cl l)]):=by
 have h:=c_order mem sh lk bu cs cl l hw hl hn
 rw [hsel] at h
 exact h
theorem kind_take {l:List Did} {n:Nat} (hl:∀ a:Nat,0≤(l.getD a default).kind∧(l.getD a default).kind≤255):∀ a:Nat,0≤((List.take (n-0) (List.drop 0 l)).getD a default).kind∧((List.take (n-0) (List.drop 0 l)).getD a default).kind≤255:=fun a=>by
 rw [List.drop_zero,Nat.sub_zero]
 by_cases h:a<n
 ·rw [take_getD _ _ h];exact hl a
 ·rw [List.getD_eq_getElem?_getD,List.getElem?_take,if_neg h];exact ⟨Int.le_refl _,(by decide)⟩
end Go.Proofs.YtmjjikcappbkeaaGreat
end
noncomputable section
namespace Go.Proofs.YtmjjikcappbkeaaGreat
open Go Go.Tx
def L18_0_I (a:List Int) (b:List Int):Int×Bool→St:=fun x=>{ N:=26,fr:=[{ slot:=13,g:=[],sv:=SV.c (C.i .i64 x.1) },{ slot:=12,g:=[],sv:=SV.c (C.i .i64 (↑a.length:Int)) },{ slot:=4,g:=[],sv:=SV.c (C.b x.2) },{ slot:=0,g:=[],sv:=SV.c (C.h 0) },{ slot:=1,g:=[],sv:=SV.c (C.h 1) }],rg:=[Reg.row 1 a.length (fun i=>i64T (a.getD i (0:Int))) none,Reg.row 1 b.length (fun i=>i64T (b.getD i (0:Int))) none],wr:=[] }
def L18_0_J (a:List Int) (b:List Int):Int×Bool→Prop:=fun x=>0≤x.1∧x.1≤(a.length:Int)∧a.length=b.length∧∀ j:Nat,(j:Int)<x.1→a.getD j default=b.getD j default
def L18_0_m (a:List Int) (b:List Int):Int×Bool→Nat:=fun x=>((a.length:Int)-x.1).toNat
def L18_0 (a:List Int) (b:List Int):Lp (Int×Bool):=⟨L18_0_I a b,L18_0_J a b,L18_0_m a b⟩
theorem c_ints (a b:List Int):Ctr Tryz.prog 14 [IntRow a,IntRow b] [.c (.h 0),.c (.h 1)]
 (Det (.c (.b (decide (a=b)))) [.dead,.dead]):=by
 refine Ctr.intro [] Tryz.func14 K K ?_
 refine RunF.lens 0 (m:=a.length) K (fun hlens_0=>?_)
 refine tCond (!decide ((↑a.length:Int)=(↑b.length:Int))) (fun h1=>?_) (fun h1=>?_)
 ·exact tRet [] [0] [decide (a=b)=false] (by simp only [Conj];first | exact same_no (by simp at h1;omega) | exact same_end hJ2.2.2.1 hJ2.2.2.2 h3 | exact same_ne (by show ¬ (a.getD x2_0.toNat (0:Int)=b.getD x2_0.toNat 0);simpa only [Bool.not_eq_true',decide_eq_false_iff_not] using h4))
 ·refine tz [4,0,1] ?_
  refine tLoop (L18_0 a b) (((0:Int),false)) ⟨by omega,by omega,by simp at h1;omega,fun j hj=>absurd hj (by omega)⟩ ?_
  rintro ⟨x2_0,x2_1⟩ hJ2
  dsimp only [L18_0,L18_0_J] at hJ2
  refine tz [13,12,4,0,1] ?_
  refine tCond (decide (x2_0<(↑a.length:Int))) (fun h3=>?_) (fun h3=>?_)
  ·refine tz [13,12,4,0,1] ?_
   refine tCond (!decide (a.getD x2_0.toNat (0:Int)=b.getD x2_0.toNat (0:Int))) (fun h4=>?_) (fun h4=>?_) (vc:=[(0:Int)≤x2_0,x2_0<(↑a.length:Int),x2_0.toNat<a.length,(0:Int)≤x2_0,x2_0<(↑b.length:Int),x2_0.toNat<b.length]) (hv:=(by simp only [Conj,Fits,i64_min,i64_max,u8_min,u8_max,News.len,maxLen]<;>(repeat' (first | apply And.intro | intro _))<;>first | grind | (simp only [BL] at *;omega)))
   ·exact tRet [] [0] [decide (a=b)=false] (by simp only [Conj];first | exact same_no (by simp at h1;omega) | exact same_end hJ2.2.2.1 hJ2.2.2.2 h3 | exact same_ne (by show ¬ (a.getD x2_0.toNat (0:Int)=b.getD x2_0.toNat 0);simpa only [Bool.not_eq_true',decide_eq_false_iff_not] using h4))
   ·exact tNext (L18_0 a b) (x2_0,x2_1) ((x2_0+(1:Int),x2_1)) (by dsimp only [L18_0,L18_0_m];(try simp only [decide_eq_true_eq] at *);omega) ⟨by omega,by have:=of_decide_eq_true h3;omega,hJ2.2.2.1,same_next hJ2.2.2.2 hJ2.1 (by show a.getD x2_0.toNat (0:Int)=b.getD x2_0.toNat 0;simpa using h4)⟩ (vc:=[Fits IntKind.i64 (x2_0+(1:Int))]) (hv:=(by simp only [Conj,Fits,i64_min,i64_max,u8_min,u8_max,News.len,maxLen]<;>(repeat' (first | apply And.intro | intro _))<;>first | grind | (simp only [BL] at *;omega)))
  ·exact tRet [] [0] [decide (a=b)=true] (by simp only [Conj];first | exact same_no (by simp at h1;omega) | exact same_end hJ2.2.2.1 hJ2.2.2.2 h3 | exact same_ne (by show ¬ (a.getD x2_0.toNat (0:Int)=b.getD x2_0.toNat 0);simpa only [Bool.not_eq_true',decide_eq_false_iff_not] using h4))
end Go.Proofs.YtmjjikcappbkeaaGreat
end
noncomputable section
namespace Go.Proofs.YtmjjikcappbkeaaGreat
open Go Go.Tx
theorem c_wf_n (mem:List Int) (sh lk bu:Int) (cs:List Cor) (cl:List Cls) (l:List Did) (hw:∀ a b:Nat,insK ((cs.getD a default).code.getD b default)) (hl:∀ a:Nat,0≤(l.getD a default).kind∧(l.getD a default).kind≤255) (hn:(l.length:Int) * 56≤140737488355328) (n:Int) (hsel:¬ ordE mem sh lk bu cs cl l=0):Ctr Tryz.prog 6 [IntRow mem,Cor.rowR cs,Cls.rowR cl,Did.rowR l] [.agg [.h 0,.i .i64 sh,.i .i64 lk,.i .i64 bu,.h 1],.c (.h 2),.c (.h 3),.c (.i .i64 n)]
 (Det (.c (.b true)) [.dead,.dead,.dead,.dead]):=by
 refine Ctr.intro [] Tryz.func6 K K ?_
 refine tCall e_stilelaw21_lives (c_lives21) [] ?_
 refine tz [13,8,4,1,2,3] ?_
 refine tCond (!true) (fun h1=>?_) (fun h1=>?_)
 ·exact absurd h1 (by first | decide | simp)
 ·refine tz [8,4,1,2,3] ?_
  refine tCall e_witness_Order (c_order (mem:=mem) (sh:=sh) (lk:=lk) (bu:=bu) (cs:=cs) (cl:=cl) (l:=l) (hw:=by first | assumption | exact kind_take hl | (simp only [List.length_take,List.length_drop];omega) | omega) (hl:=by first | assumption | exact kind_take hl | (simp only [List.length_take,List.length_drop];omega) | omega) (hn:=by first | assumption | exact kind_take hl | (simp only [List.length_take,List.length_drop];omega) | omega)) [] ?_
  refine tz [19,8,4,1,2,3] ?_
  refine tCond (!decide (ordE mem sh lk bu cs cl l=(0:Int))||decide (n<(0:Int))||decide ((↑l.length:Int)<n)) (fun h2=>?_) (fun h2=>?_)
  ·exact tRet [] [0] [true=(decide (ordE mem sh lk bu cs cl l=(0:Int))||decide ((↑(ordL mem sh lk bu cs cl l).length:Int)=(0:Int)))] (by simp only [Conj,ordL_no hsel];simp)
  ·exact (show False from by simp [hsel] at h2).elim
theorem c_wf_y (mem:List Int) (sh lk bu:Int) (cs:List Cor) (cl:List Cls) (l:List Did) (hw:∀ a b:Nat,insK ((cs.getD a default).code.getD b default)) (hl:∀ a:Nat,0≤(l.getD a default).kind∧(l.getD a default).kind≤255) (hn:(l.length:Int) * 56≤140737488355328) (n:Int) (hsel:ordE mem sh lk bu cs cl l=0):Ctr Tryz.prog 6 [IntRow mem,Cor.rowR cs,Cls.rowR cl,Did.rowR l] [.agg [.h 0,.i .i64 sh,.i .i64 lk,.i .i64 bu,.h 1],.c (.h 2),.c (.h 3),.c (.i .i64 n)]
 (Det (.c (.b true)) [.dead,.dead,.dead,.dead]):=by
 refine Ctr.intro [] Tryz.func6 K K ?_
 refine tCall e_stilelaw21_lives (c_lives21) [] ?_
 refine tz [13,8,4,1,2,3] ?_
 refine tCond (!true) (fun h1=>?_) (fun h1=>?_)
 ·exact absurd h1 (by first | decide | simp)
 ·refine tz [8,4,1,2,3] ?_
  refine tCall e_witness_Order (c_order0 (mem:=mem) (sh:=sh) (lk:=lk) (bu:=bu) (cs:=cs) (cl:=cl) (l:=l) (hw:=by first | assumption | exact kind_take hl | (simp only [List.length_take,List.length_drop];omega) | omega) (hl:=by first | assumption | exact kind_take hl | (simp only [List.length_take,List.length_drop];omega) | omega) (hn:=by first | assumption | exact kind_take hl | (simp only [List.length_take,List.length_drop];omega) | omega) (hsel:=by first | assumption | exact kind_take hl | (simp only [List.length_take,List.length_drop];omega) | omega)) [] ?_
  refine tz [19,8,4,1,2,3] ?_
  refine tCond (!decide ((0:Int)=(0:Int))||decide (n<(0:Int))||decide ((↑l.length:Int)<n)) (fun h2=>?_) (fun h2=>?_)
  ·exact tRet
  ·have hz:0≤n∧n.toNat≤l.length:=front_in h2
   have hT:ordE mem sh lk bu cs cl (List.take (n.toNat-0) (List.drop 0 l))=0:=front_T hsel hz.2
   refine tWk (St.mk 67 [En.mk 33 [] (SV.c (C.t false)),En.mk 28 [] (SV.c (C.b (!decide ((0:Int)=(0:Int))||decide (n<(0:Int))))),En.mk 27 [] (SV.c (C.b (!decide ((0:Int)=(0:Int))||decide (n<(0:Int))))),En.mk 24 [] (SV.c (C.b !decide ((0:Int)=(0:Int)))),En.mk 23 [] (SV.c (C.b !decide ((0:Int)=(0:Int)))),En.mk 22 [] (SV.c (C.i .i64 0)),En.mk 10 [] (SV.c (C.i .i64 0)),En.mk 9 [] (SV.c (C.h 5)),En.mk 21 [] (SV.c (C.i .i64 0)),En.mk 20 [] (SV.c (C.h 5)),En.mk 15 [] (SV.tup [(false,[C.h 5]),(false,[C.i .i64 0])]),En.mk 19 [] (SV.tup [(false,[C.h 5]),(false,[C.i .i64 0])]),En.mk 8 [] (SV.c (C.t false)),En.mk 4 [] (SV.c (C.p 4 0)),En.mk 1 [] (SV.c (C.h 2)),En.mk 2 [] (SV.c (C.h 3)),En.mk 3 [] (SV.c (C.i .i64 n))] [Reg.row 1 mem.length (fun i=>i64T (mem.getD i (0:Int))) none,Reg.row 2 cs.length (fun i=>(cs.getD i default).tc) none,Reg.row 3 cl.length (fun i=>(cl.getD i default).tc) none,Reg.row 7 l.length (fun i=>(l.getD i default).tc) none,Reg.box 29 [C.h 0,C.i .i64 sh,C.i .i64 lk,C.i .i64 bu,C.h 1],Reg.row 1 (ordL mem sh lk bu cs cl l).length (fun i=>i64T ((ordL mem sh lk bu cs cl l).getD i (0:Int))) none] []) ?_ [] [15,16] [(!decide ((0:Int)=(0:Int)))=false,(!decide ((0:Int)=(0:Int)))=false] (by (try simp only [Conj])<;>(repeat' apply And.intro)<;>first | done | trivial | rfl | (intros;first | rfl | trivial) | exact snoc_len _ _ | exact List.length_set | (rw [List.length_take,List.length_drop];have z:=(front_L (n:=n) hsel hz.2).length_le;omega) | exact set_ints _ _ _ | exact take_row _ _ _ _ _ | (exact take_len _ _ _ (by first | omega | (have h0:=askE_ok (by simpa using h1);have hm:=evE_mem h0.1;have hs:=evE_ok h0.1;omega))) | exact MpEq.put (by omega) | (refine MpEq.mk' (by omega) ?_ ?_<;>intro q<;>first | rfl | (dsimp only;split<;>simp_all)) | (exact MpEq.mkIt (by omega) (fun _=>rfl) (fun _=>rfl) rfl rfl (fun _=>rfl)) | (intro i h1 h2;rw [snoc_lo h1 h2]) | (rw [getD_snoc];rfl))
   refine tz [9,8,4,1,2,3] ?_
   refine tCall e_witness_Order (c_order0 (mem:=mem) (sh:=sh) (lk:=lk) (bu:=bu) (cs:=cs) (cl:=cl) (l:=List.take (n.toNat-0) (List.drop 0 l)) (hw:=by first | assumption | exact kind_take hl | (simp only [List.length_take,List.length_drop];omega) | omega) (hl:=by first | assumption | exact kind_take hl | (simp only [List.length_take,List.length_drop];omega) | omega) (hn:=by first | assumption | exact kind_take hl | (simp only [List.length_take,List.length_drop];omega) | omega) (hsel:=by first | assumption | exact kind_take hl | (simp only [List.length_take,List.length_drop];omega) | omega)) [0,1,2,6] ?_ [6,7] [(List.take (n.toNat-0) (List.drop 0 l)).length=n.toNat-0,∀ (i:Nat),i<(List.take (n.toNat-0) (List.drop 0 l)).length→((List.take (n.toNat-0) (List.drop 0 l)).getD i default).tc=(l.getD (0+i) default).tc] (by (try simp only [Conj])<;>(repeat' apply And.intro)<;>first | done | trivial | rfl | (intros;first | rfl | trivial) | exact snoc_len _ _ | exact List.length_set | (rw [List.length_take,List.length_drop];have z:=(front_L (n:=n) hsel hz.2).length_le;omega) | exact set_ints _ _ _ | exact take_row _ _ _ _ _ | (exact take_len _ _ _ (by first | omega | (have h0:=askE_ok (by simpa using h1);have hm:=evE_mem h0.1;have hs:=evE_ok h0.1;omega))) | exact MpEq.put (by omega) | (refine MpEq.mk' (by omega) ?_ ?_<;>intro q<;>first | rfl | (dsimp only;split<;>simp_all)) | (exact MpEq.mkIt (by omega) (fun _=>rfl) (fun _=>rfl) rfl rfl (fun _=>rfl)) | (intro i h1 h2;rw [snoc_lo h1 h2]) | (rw [getD_snoc];rfl)) (vc:=[(0:Int)≤(0:Int),(0:Int)≤n,n≤(↑l.length:Int),(0:Int)≤(0:Int),(0:Int)≤n,n≤(↑l.length:Int)]) (hv:=(by simp only [Conj,Fits,i64_min,i64_max,u8_min,u8_max,News.len,maxLen]<;>(repeat' (first | apply And.intro | intro _))<;>first | grind | (simp only [BL] at *;omega)))
   refine tz [47,46,45,44,43,42,9,8,4,1,2,3] ?_
   refine tCond (decide ((0:Int)=(0:Int))&&decide ((↑(ordL mem sh lk bu cs cl (List.take (n.toNat-0) (List.drop 0 l))).length:Int)≤(↑(ordL mem sh lk bu cs cl l).length:Int))) (fun h3=>?_) (fun h3=>?_)
   ·refine tz [63,61,60,59,8] ?_
    refine tCall e_stileref07_Ints (c_ints (a:=ordL mem sh lk bu cs cl (List.take (n.toNat-0) (List.drop 0 l))) (b:=List.take ((ordL mem sh lk bu cs cl (List.take (n.toNat-0) (List.drop 0 l))).length-0) (List.drop 0 (ordL mem sh lk bu cs cl l)))) [7,8] ?_ [2,3] [(List.take ((ordL mem sh lk bu cs cl (List.take (n.toNat-0) (List.drop 0 l))).length-0) (List.drop 0 (ordL mem sh lk bu cs cl l))).length=(ordL mem sh lk bu cs cl (List.take (n.toNat-0) (List.drop 0 l))).length-0,∀ (i:Nat),i<(List.take ((ordL mem sh lk bu cs cl (List.take (n.toNat-0) (List.drop 0 l))).length-0) (List.drop 0 (ordL mem sh lk bu cs cl l))).length→i64T ((List.take ((ordL mem sh lk bu cs cl (List.take (n.toNat-0) (List.drop 0 l))).length-0) (List.drop 0 (ordL mem sh lk bu cs cl l))).getD i (0:Int))=i64T ((ordL mem sh lk bu cs cl l).getD (0+i) (0:Int))] (by (try simp only [Conj])<;>(repeat' apply And.intro)<;>first | done | trivial | rfl | (intros;first | rfl | trivial) | exact snoc_len _ _ | exact List.length_set | (rw [List.length_take,List.length_drop];have z:=(front_L (n:=n) hsel hz.2).length_le;omega) | exact set_ints _ _ _ | exact take_row _ _ _ _ _ | (exact take_len _ _ _ (by first | omega | (have h0:=askE_ok (by simpa using h1);have hm:=evE_mem h0.1;have hs:=evE_ok h0.1;omega))) | exact MpEq.put (by omega) | (refine MpEq.mk' (by omega) ?_ ?_<;>intro q<;>first | rfl | (dsimp only;split<;>simp_all)) | (exact MpEq.mkIt (by omega) (fun _=>rfl) (fun _=>rfl) rfl rfl (fun _=>rfl)) | (intro i h1 h2;rw [snoc_lo h1 h2]) | (rw [getD_snoc];rfl)) (vc:=[(0:Int)≤(0:Int),(0:Int)≤(↑(ordL mem sh lk bu cs cl (List.take (n.toNat-0) (List.drop 0 l))).length:Int),(↑(ordL mem sh lk bu cs cl (List.take (n.toNat-0) (List.drop 0 l))).length:Int)≤(↑(ordL mem sh lk bu cs cl l).length:Int)]) (hv:=(by simp only [Conj,Fits,i64_min,i64_max,u8_min,u8_max,News.len,maxLen]<;>(repeat' (first | apply And.intro | intro _))<;>first | grind | (simp only [BL] at *;omega)))
    exact tRet [] [0] [true=decide (ordL mem sh lk bu cs cl (List.take (n.toNat-0) (List.drop 0 l))=List.take ((ordL mem sh lk bu cs cl (List.take (n.toNat-0) (List.drop 0 l))).length-0) (List.drop 0 (ordL mem sh lk bu cs cl l)))] (by simp only [Conj];first | rfl | exact (decide_eq_true (front_fin hsel hz.2)).symm | simp)
   ·exact (show False from by have z:=(front_L (n:=n) hsel hz.2).length_le;simp only [decide_true,Bool.true_and,decide_eq_false_iff_not] at h3;omega).elim
theorem c_wf (mem:List Int) (sh lk bu:Int) (cs:List Cor) (cl:List Cls) (l:List Did) (hw:∀ a b:Nat,insK ((cs.getD a default).code.getD b default)) (hl:∀ a:Nat,0≤(l.getD a default).kind∧(l.getD a default).kind≤255) (hn:(l.length:Int) * 56≤140737488355328) (n:Int):Ctr Tryz.prog 6 [IntRow mem,Cor.rowR cs,Cls.rowR cl,Did.rowR l] [.agg [.h 0,.i .i64 sh,.i .i64 lk,.i .i64 bu,.h 1],.c (.h 2),.c (.h 3),.c (.i .i64 n)]
 (Det (.c (.b true)) [.dead,.dead,.dead,.dead]):=by
 by_cases hsel:ordE mem sh lk bu cs cl l=0
 ·exact c_wf_y mem sh lk bu cs cl l hw hl hn n hsel
 ·exact c_wf_n mem sh lk bu cs cl l hw hl hn n hsel
end Go.Proofs.YtmjjikcappbkeaaGreat
end
namespace Go.Proofs.YtmjjikcappbkeaaGreat
open Go Go.Tx
inductive Sh where
 | num (k:IntKind)
 | str
 | boo
 | sl (e size:Nat) (el:List Sh)
mutual
/-- the cells of a type -/
inductive ShT (P:Program):Nat→List Sh→Prop
 | int {t:Nat} {k:IntKind} (ht:P.underlying t=some (.int k)):ShT P t [.num k]
 | str {t:Nat} (ht:P.underlying t=some .string):ShT P t [.str]
 | bool {t:Nat} (ht:P.underlying t=some .bool):ShT P t [.boo]
 | slice {t e:Nat} {el:List Sh} (ht:P.underlying t=some (.slice e)) (hc:P.cellsOf e=el.length) (hp:0<el.length) (h:ShT P e el):ShT P t [.sl e el.length el]
 | struct {t:Nat} {fs:Array Field} {ss:List Sh} (ht:P.underlying t=some (.struct fs)) (hc:P.cellsOf t=ss.length) (h:ShF P 0 fs.toList ss):ShT P t ss
/-- .. of fields,the first of which lies at cell i -/
inductive ShF (P:Program):Nat→List Field→List Sh→Prop
 | nil {i:Nat}:ShF P i [] []
 | cons {i:Nat} {f:Field} {fs:List Field} {s1 s2:List Sh} (ho:f.offset=i) (hc:P.cellsOf f.type=s1.length) (h:ShT P f.type s1) (r:ShF P (i+s1.length) fs s2):ShF P i (f::fs) (s1++s2)
end
inductive ShC:Sh→TC→Prop
 | num {k:IntKind} (n:Int) (h:(Lit.int k n).wf=true):ShC (.num k) (.val (.int k n))
 | str (x:ByteArray) (h:x.size≤maxLen):ShC .str (.val (.string x))
 | boo (x:Bool):ShC .boo (.val (.bool x))
 | sl {e size:Nat} {el:List Sh} (n:Nat) (g:Nat→List TC) (hl:∀ i,i<n→(g i).length=el.length) (h:∀ (i j:Nat) (s:Sh) (c:TC),i<n→el[j]?=some s→(g i)[j]?=some c→ShC s c) :
    ShC (.sl e size el) (.sub e size n (fun i=>nthT (g i)))
def ShL (ss:List Sh) (tl:List TC):Prop:=tl.length=ss.length∧∀ (j:Nat) (s:Sh) (c:TC),ss[j]?=some s→tl[j]?=some c→ShC s c
def inW (w:World) (b:Nat):Prop:=b<w.heap.size
def Holds (w:World) (tl:List TC) (cs:List Value):Prop:=∀ (j:Nat) (c:TC) (u:Value),tl[j]?=some c→cs[j]?=some u→RdC w (inW w) c u
theorem nthT_get {tl:List TC} {j:Nat} {c:TC} (h:tl[j]?=some c):nthT tl j=c:=by
 unfold nthT;rw [nth_eq,h]
section
variable {H:Type} {enc:TypeId×Value→H} {P:Program} {w:World}
mutual
theorem readT:∀ {t:Nat} {ss:List Sh},ShT P t ss→∀ {n:Nat} {cs:List Value} {x:DataW H×List MemPlace},DataW.trod enc P w 0 (fun _=>true) true n t cs=some x →
 cs.length=ss.length∧∃ tl:List TC,ShL ss tl∧Holds w tl cs
 | t,_,(.int (k:=k) ht),n,cs,x,h=>by
   obtain ⟨m,rfl,_,hw⟩:=DataW.trod_int ht h
   refine ⟨rfl,[.val (.int k m)],⟨rfl,fun j s c hs hc=>?_⟩,fun j c u hc hu=>?_⟩
   ·match j,hs,hc with
    | 0,hs,hc=>cases hs;cases hc;exact .num m hw
    | j+1,hs,_=>simp at hs
   ·match j,hc,hu with
    | 0,hc,hu=>cases hc;cases hu;rfl
    | j+1,hc,_=>simp at hc
 | t,_,(.str ht),n,cs,x,h=>by
   obtain ⟨m,rfl,_,hw⟩:=DataW.trod_string ht h
   refine ⟨rfl,[.val (.string m)],⟨rfl,fun j s c hs hc=>?_⟩,fun j c u hc hu=>?_⟩
   ·match j,hs,hc with
    | 0,hs,hc=>cases hs;cases hc;exact .str m hw
    | j+1,hs,_=>simp at hs
   ·match j,hc,hu with
    | 0,hc,hu=>cases hc;cases hu;rfl
    | j+1,hc,_=>simp at hc
 | t,_,(.bool ht),n,cs,x,h=>by
   obtain ⟨m,rfl,_⟩:=DataW.trod_bool ht h
   refine ⟨rfl,[.val (.bool m)],⟨rfl,fun j s c hs hc=>?_⟩,fun j c u hc hu=>?_⟩
   ·match j,hs,hc with
    | 0,hs,hc=>cases hs;cases hc;exact .boo m
    | j+1,hs,_=>simp at hs
   ·match j,hc,hu with
    | 0,hc,hu=>cases hc;cases hu;rfl
    | j+1,hc,_=>simp at hc
 | t,_,(.slice (e:=e) (el:=el) ht hce hpos he),n,cs,x,h=>by
   have key:∀ (v:Value) (m:Nat) (g:Nat→List TC),(∀ i,i<m→ShL el (g i))→RdC w (inW w) (.sub e el.length m fun i=>nthT (g i)) v →
    ([v]:List Value).length=([.sl e el.length el]:List Sh).length∧∃ tl:List TC,ShL [.sl e el.length el] tl∧Holds w tl [v]:=fun v m g hg hv=>by
    refine ⟨rfl,[.sub e el.length m fun i=>nthT (g i)],⟨rfl,fun j s c hs hc=>?_⟩,fun j c u hc hu=>?_⟩
    ·match j,hs,hc with
     | 0,hs,hc=>cases hs;cases hc;exact .sl m g (fun i hi=>(hg i hi).1) (fun i j s c hi h1 h2=>(hg i hi).2 j s c h1 h2)
     | j+1,hs,_=>simp at hs
    ·match j,hc,hu with
     | 0,hc,hu=>cases hc;cases hu;exact hv
     | j+1,hc,_=>simp at hc
   rcases Go.Deep.open_slice ht h with ⟨rfl,_⟩ | ⟨a,len,cap,m,n',D,Pl,rfl,_,hlc,hcm,hm,_,hel⟩
   ·refine key _ 0 (fun _=>[]) (fun i hi=>absurd hi (Nat.not_lt_zero _)) ⟨none,0,rfl,Nat.le_refl _,by simp [maxLen],fun a ha _=>(by cases ha),fun h=>absurd h (Nat.lt_irrefl _)⟩
   ·have hm':m=cap:=by simpa using hm
    subst hm'
    have hall:∀ i,i<len→∃ tl:List TC,ShL el tl∧∃ cs',w.cells? 0 (a.add (i * P.cellsOf e)) (P.cellsOf e)=some cs'∧Holds w tl cs':=fun i hi=>by
     obtain ⟨cs',h1,h2⟩:=hel i (Nat.lt_of_lt_of_le hi hlc)
     obtain ⟨h3,tl,h4,h5⟩:=readT he h2
     exact ⟨tl,h4,cs',h1,h5⟩
    obtain ⟨g,hg⟩:=Go.Deep.choose_lt hall
    refine key _ len g (fun i hi=>(hg i hi).1) ⟨some a,m,rfl,hlc,hcm,fun ad had hp=>?_,fun hp=>⟨a,rfl,fun i j hi hj=>?_⟩⟩
    ·cases had
     obtain ⟨_,cs',h2,_⟩:=hg 0 hp
     have:=World.cells?_block h2 (by rw [hce];exact hpos)
     rw [block_add] at this
     exact ⟨this,this⟩
    ·obtain ⟨h1,cs',h2,h3⟩:=hg i hi
     obtain ⟨_,h4,h5⟩:=World.cells?_some h2
     have hjl:j<cs'.length:=by rw [h4,hce];exact hj
     refine ⟨cs'[j],?_,?_⟩
     ·rw [hce] at h5
      have:=h5 j hj
      rw [add_add] at this
      rw [this,List.getElem?_eq_getElem hjl]
     ·have hjt:j<(g i).length:=by rw [h1.1];exact hj
      show RdC w (inW w) (nthT (g i) j) _
      rw [nthT_get (List.getElem?_eq_getElem hjt)]
      exact h3 j _ _ (List.getElem?_eq_getElem hjt) (List.getElem?_eq_getElem hjl)
 | t,_,(.struct (fs:=fs) (ss:=ss) ht hc hf),n,cs,x,h=>by
   obtain ⟨xs,n',_,_,hl,hxl,hx⟩:=DataW.trod_struct ht h
   refine ⟨by rw [hl,hc],?_⟩
   have:=readF hf (n:=n') (cs:=cs) (fun f hm=>by
    obtain ⟨k,hk⟩:=List.getElem?_of_mem hm
    have hk':fs[k]?=some f:=by simpa using hk
    have hlt:k<xs.length:=by rw [hxl];exact (Array.getElem?_eq_some_iff.1 hk').1
    exact ⟨xs[k],by rw [hx k f hk',List.getElem?_eq_getElem hlt]⟩) (by rw [hl,hc];omega)
   simpa using this
theorem readF:∀ {i:Nat} {fs:List Field} {ss:List Sh},ShF P i fs ss→∀ {n:Nat} {cs:List Value},(∀ f∈fs,∃ x,DataW.trod enc P w 0 (fun _=>true) true n f.type ((cs.drop f.offset).take (P.cellsOf f.type))=some x) →
 i+ss.length≤cs.length→∃ tl:List TC,ShL ss tl∧Holds w tl (cs.drop i)
 | _,_,_,.nil,n,cs,h,hl=>⟨[],⟨rfl,fun j s c hs=>by simp at hs⟩,fun j c u hc=>by simp at hc⟩
 | i,_,_,(.cons (f:=f) (fs:=fs) (s1:=s1) (s2:=s2) ho hc hT hr),n,cs,h,hl=>by
   simp only [List.length_append] at hl
   obtain ⟨x,hx⟩:=h f (.head _)
   obtain ⟨h1,t1,h2,h3⟩:=readT hT hx
   obtain ⟨t2,h4,h5⟩:=readF hr (n:=n) (cs:=cs) (fun f' hf'=>h f' (.tail _ hf')) (by omega)
   refine ⟨t1++t2,⟨by rw [List.length_append,List.length_append,h2.1,h4.1],fun j s c hs hcj=>?_⟩,fun j c u hcj hu=>?_⟩
   ·by_cases hj:j<s1.length
    ·rw [List.getElem?_append_left hj] at hs
     rw [List.getElem?_append_left (by rw [h2.1];exact hj)] at hcj
     exact h2.2 j s c hs hcj
    ·rw [List.getElem?_append_right (by omega)] at hs
     rw [List.getElem?_append_right (by rw [h2.1];omega),h2.1] at hcj
     exact h4.2 _ s c hs hcj
   ·by_cases hj:j<s1.length
    ·rw [List.getElem?_append_left (by rw [h2.1];exact hj)] at hcj
     refine h3 j c u hcj ?_
     rw [List.getElem?_take_of_lt (by rw [hc];exact hj),ho]
     exact hu
    ·rw [List.getElem?_append_right (by rw [h2.1];omega),h2.1] at hcj
     refine h5 _ c u hcj ?_
     rw [List.getElem?_drop] at hu ⊢
     rw [show i+s1.length+(j-s1.length)=i+j by omega]
     exact hu
end
end
theorem readAt {H:Type} {enc:TypeId×Value→H} {P:Program} {w:World} {t:Nat} {ss:List Sh} {v:Value} {d:DataW H} {p:List MemPlace} (hs:ShT P t ss) (h:DataW.Trod enc P w 0 (fun _=>true) true t v d p) :
 v.cells.toList.length=ss.length∧∃ tl:List TC,ShL ss tl∧Holds w tl v.cells.toList:=by
 obtain ⟨n,hn⟩:=h
 exact readT hs hn
def Imp (w:World) (a b:List TC):Prop:=∀ (j:Nat) (c:TC) (u:Value),a[j]?=some c→RdC w (inW w) c u→RdC w (inW w) (nthT b j) u
theorem Imp.of_eq {w:World} {a b:List TC} (h:a=b):Imp w a b:=fun j c u hj hu=>by
 subst h;rw [nthT_get hj];exact hu
theorem list_of {α:Type} [Inhabited α] {w:World} {tl:α→List TC} {Q:α→Prop} {n:Nat} {g:Nat→List TC} (h:∀ i,i<n→∃ x,Imp w (g i) (tl x)∧Q x) (hd:Q default) :
 ∃ l:List α,l.length=n∧(∀ i,i<n→Imp w (g i) (tl (l.getD i default)))∧∀ i,Q (l.getD i default):=by
 obtain ⟨f,hf⟩:=Go.Deep.choose_lt h
 refine ⟨(List.range n).map f,by simp,fun i hi=>?_,fun i=>?_⟩
 ·rw [List.getD_eq_getElem?_getD,List.getElem?_map,List.getElem?_range hi]
  exact (hf i hi).1
 ·rw [List.getD_eq_getElem?_getD,List.getElem?_map]
  by_cases hi:i<n
  ·rw [List.getElem?_range hi];exact (hf i hi).2
  ·rw [List.getElem?_eq_none (by simp;omega)];exact hd
theorem row_of {α:Type} [Inhabited α] {w:World} {e size:Nat} {el:List Sh} {c:TC} {tl:α→List TC} {Q:α→Prop} (hs:size=el.length) (h:ShC (.sl e size el) c) (hx:∀ t:List TC,ShL el t→∃ x,Imp w t (tl x)∧Q x) (hd:Q default) :
 ∃ l:List α,(∀ i,Q (l.getD i default))∧∀ v,RdC w (inW w) c v→RdRow w (inW w) v size l.length (fun i j u=>RdC w (inW w) (nthT (tl (l.getD i default)) j) u):=by
 cases h with
 | sl n g hl hg =>
   obtain ⟨l,h1,h2,h3⟩:=list_of (tl:=tl) (Q:=Q) (n:=n) (g:=g) (w:=w) (fun i hi=>hx _ ⟨hl i hi,fun j s c h1 h2=>hg i j s c hi h1 h2⟩) hd
   refine ⟨l,h3,fun v hv=>?_⟩
   rw [h1]
   refine RdRow.map hv (Nat.le_refl _) (fun _ _ _=>rfl) (fun i j u hi hj hu=>?_)
   have hjl:j<(g i).length:=by rw [hl i hi,← hs];exact hj
   have:nthT (g i) j=(g i)[j]:=nthT_get (List.getElem?_eq_getElem hjl)
   have hu:RdC w (inW w) (nthT (g i) j) u:=hu
   rw [this] at hu
   exact h2 i hi j _ u (List.getElem?_eq_getElem hjl) hu
end Go.Proofs.YtmjjikcappbkeaaGreat
noncomputable section
namespace Go.Proofs.YtmjjikcappbkeaaGreat
open Go Go.Tx
theorem u8_of {n:Int} (h:(Lit.int .u8 n).wf=true):0≤n∧n≤255:=by simpa [Lit.wf,IntKind.min,IntKind.max,IntKind.signed,IntKind.bits] using h
abbrev shDid:List Sh:=[.num .u8,.num .i64,.num .i64,.num .i64,.num .i64,.num .i64,.boo]
theorem shT_Did:ShT Tryz.prog 107 shDid:=.struct Tryz.underlying107 (by kernel_rfl) (.cons (s1:=[.num .u8]) (s2:=[.num .i64,.num .i64,.num .i64,.num .i64,.num .i64,.boo]) rfl (by kernel_rfl) (.int (by kernel_rfl)) (.cons (s1:=[.num .i64]) (s2:=[.num .i64,.num .i64,.num .i64,.num .i64,.boo]) rfl (by kernel_rfl) (.int (by kernel_rfl)) (.cons (s1:=[.num .i64]) (s2:=[.num .i64,.num .i64,.num .i64,.boo]) rfl (by kernel_rfl) (.int (by kernel_rfl)) (.cons (s1:=[.num .i64]) (s2:=[.num .i64,.num .i64,.boo]) rfl (by kernel_rfl) (.int (by kernel_rfl)) (.cons (s1:=[.num .i64]) (s2:=[.num .i64,.boo]) rfl (by kernel_rfl) (.int (by kernel_rfl)) (.cons (s1:=[.num .i64]) (s2:=[.boo]) rfl (by kernel_rfl) (.int (by kernel_rfl)) (.cons (s1:=[.boo]) (s2:=[]) rfl (by kernel_rfl) (.bool (by kernel_rfl)) .nil)))))))
theorem of_Did {w:World} {t:List TC} (h:ShL shDid t):∃ x:Did,Imp w t x.tl∧(0≤x.kind∧x.kind≤255):=by
 obtain ⟨hl,hc⟩:=h
 rcases t with _ | ⟨c0,_ | ⟨c1,_ | ⟨c2,_ | ⟨c3,_ | ⟨c4,_ | ⟨c5,_ | ⟨c6,_ | ⟨c7,t⟩⟩⟩⟩⟩⟩⟩⟩
 all_goals first | (exfalso;simp at hl;done) | skip
 have h0:=hc 0 _ _ rfl rfl
 have h1:=hc 1 _ _ rfl rfl
 have h2:=hc 2 _ _ rfl rfl
 have h3:=hc 3 _ _ rfl rfl
 have h4:=hc 4 _ _ rfl rfl
 have h5:=hc 5 _ _ rfl rfl
 have h6:=hc 6 _ _ rfl rfl
 cases h0 with | num n0 w0 =>
 cases h1 with | num n1 w1 =>
 cases h2 with | num n2 w2 =>
 cases h3 with | num n3 w3 =>
 cases h4 with | num n4 w4 =>
 cases h5 with | num n5 w5 =>
 cases h6 with | boo n6 =>
 exact ⟨⟨n0,n1,n2,n3,n4,n5,n6⟩,Imp.of_eq rfl,u8_of w0⟩
abbrev shCls:List Sh:=[.num .u8,.num .i64,.num .i64]
theorem shT_Cls:ShT Tryz.prog 113 shCls:=.struct Tryz.underlying113 (by kernel_rfl) (.cons (s1:=[.num .u8]) (s2:=[.num .i64,.num .i64]) rfl (by kernel_rfl) (.int (by kernel_rfl)) (.cons (s1:=[.num .i64]) (s2:=[.num .i64]) rfl (by kernel_rfl) (.int (by kernel_rfl)) (.cons (s1:=[.num .i64]) (s2:=[]) rfl (by kernel_rfl) (.int (by kernel_rfl)) .nil)))
theorem of_Cls {w:World} {t:List TC} (h:ShL shCls t):∃ x:Cls,Imp w t x.tl∧True:=by
 obtain ⟨hl,hc⟩:=h
 rcases t with _ | ⟨c0,_ | ⟨c1,_ | ⟨c2,_ | ⟨c3,t⟩⟩⟩⟩
 all_goals first | (exfalso;simp at hl;done) | skip
 have h0:=hc 0 _ _ rfl rfl
 have h1:=hc 1 _ _ rfl rfl
 have h2:=hc 2 _ _ rfl rfl
 cases h0 with | num n0 w0 =>
 cases h1 with | num n1 w1 =>
 cases h2 with | num n2 w2 =>
 exact ⟨⟨n0,n1,n2⟩,Imp.of_eq rfl,trivial⟩
abbrev shIns:List Sh:=[.num .u8,.num .u8,.num .i64,.num .i64,.num .i64,.num .i64,.num .i64,.num .i64,.num .i64]
theorem shT_Ins:ShT Tryz.prog 176 shIns:=.struct Tryz.underlying176 (by kernel_rfl) (.cons (s1:=[.num .u8]) (s2:=[.num .u8,.num .i64,.num .i64,.num .i64,.num .i64,.num .i64,.num .i64,.num .i64]) rfl (by kernel_rfl) (.int (by kernel_rfl)) (.cons (s1:=[.num .u8]) (s2:=[.num .i64,.num .i64,.num .i64,.num .i64,.num .i64,.num .i64,.num .i64]) rfl (by kernel_rfl) (.int (by kernel_rfl)) (.cons (s1:=[.num .i64]) (s2:=[.num .i64,.num .i64,.num .i64,.num .i64,.num .i64,.num .i64]) rfl (by kernel_rfl) (.int (by kernel_rfl)) (.cons (s1:=[.num .i64]) (s2:=[.num .i64,.num .i64,.num .i64,.num .i64,.num .i64]) rfl (by kernel_rfl) (.int (by kernel_rfl)) (.cons (s1:=[.num .i64]) (s2:=[.num .i64,.num .i64,.num .i64,.num .i64]) rfl (by kernel_rfl) (.int (by kernel_rfl)) (.cons (s1:=[.num .i64]) (s2:=[.num .i64,.num .i64,.num .i64]) rfl (by kernel_rfl) (.int (by kernel_rfl)) (.cons (s1:=[.num .i64]) (s2:=[.num .i64,.num .i64]) rfl (by kernel_rfl) (.int (by kernel_rfl)) (.cons (s1:=[.num .i64]) (s2:=[.num .i64]) rfl (by kernel_rfl) (.int (by kernel_rfl)) (.cons (s1:=[.num .i64]) (s2:=[]) rfl (by kernel_rfl) (.int (by kernel_rfl)) .nil)))))))))
theorem of_Ins {w:World} {t:List TC} (h:ShL shIns t):∃ x:Ins,Imp w t x.tl∧insK x:=by
 obtain ⟨hl,hc⟩:=h
 rcases t with _ | ⟨c0,_ | ⟨c1,_ | ⟨c2,_ | ⟨c3,_ | ⟨c4,_ | ⟨c5,_ | ⟨c6,_ | ⟨c7,_ | ⟨c8,_ | ⟨c9,t⟩⟩⟩⟩⟩⟩⟩⟩⟩⟩
 all_goals first | (exfalso;simp at hl;done) | skip
 have h0:=hc 0 _ _ rfl rfl
 have h1:=hc 1 _ _ rfl rfl
 have h2:=hc 2 _ _ rfl rfl
 have h3:=hc 3 _ _ rfl rfl
 have h4:=hc 4 _ _ rfl rfl
 have h5:=hc 5 _ _ rfl rfl
 have h6:=hc 6 _ _ rfl rfl
 have h7:=hc 7 _ _ rfl rfl
 have h8:=hc 8 _ _ rfl rfl
 cases h0 with | num n0 w0 =>
 cases h1 with | num n1 w1 =>
 cases h2 with | num n2 w2 =>
 cases h3 with | num n3 w3 =>
 cases h4 with | num n4 w4 =>
 cases h5 with | num n5 w5 =>
 cases h6 with | num n6 w6 =>
 cases h7 with | num n7 w7 =>
 cases h8 with | num n8 w8 =>
 exact ⟨⟨n0,n1,n2,n3,n4,n5,n6,n7,n8⟩,Imp.of_eq rfl,⟨u8_of w0,u8_of w1⟩⟩
abbrev shCor:List Sh:=[.str,.sl 176 9 shIns]
theorem shT_Cor:ShT Tryz.prog 179 shCor:=.struct Tryz.underlying179 (by kernel_rfl) (.cons (s1:=[.str]) (s2:=[.sl 176 9 shIns]) rfl (by kernel_rfl) (.str (by kernel_rfl)) (.cons (s1:=[.sl 176 9 shIns]) (s2:=[]) rfl (by kernel_rfl) (.slice (el:=shIns) (by kernel_rfl) (by kernel_rfl) (by decide) shT_Ins) .nil))
theorem insK_dflt:insK default:=by unfold insK;decide
theorem of_Cor {w:World} {t:List TC} (h:ShL shCor t):∃ x:Cor,Imp w t x.tl∧∀ b,insK (x.code.getD b default):=by
 obtain ⟨hl,hc⟩:=h
 rcases t with _ | ⟨c0,_ | ⟨c1,_ | ⟨c2,t⟩⟩⟩
 all_goals first | (exfalso;simp at hl;done) | skip
 have h0:=hc 0 _ _ rfl rfl
 have h1:=hc 1 _ _ rfl rfl
 cases h0 with | str n0 w0 =>
 obtain ⟨code,hq,hr⟩:=row_of (w:=w) (tl:=Ins.tl) (Q:=insK) rfl h1 (fun t ht=>of_Ins ht) insK_dflt
 refine ⟨⟨n0,code⟩,fun j c u hj hu=>?_,hq⟩
 match j,hj with
 | 0,hj=>cases hj;exact hu
 | 1,hj=>cases hj;exact hr u hu
 | j+2,hj=>simp at hj
theorem of_Int {w:World} {t:List TC} (h:ShL [.num .i64] t):∃ x:Int,Imp w t [.val (.int .i64 x)]∧True:=by
 obtain ⟨hl,hc⟩:=h
 rcases t with _ | ⟨c,_ | ⟨c',t⟩⟩
 ·simp at hl
 ·have h0:=hc 0 _ _ rfl rfl
  cases h0 with | num n w =>
  exact ⟨n,Imp.of_eq rfl,trivial⟩
 ·simp at hl
abbrev shObj:List Sh:=[.sl 2 1 [.num .i64],.num .i64,.num .i64,.num .i64,.sl 179 2 shCor]
theorem shT_Obj:ShT Tryz.prog 29 shObj:=.struct Tryz.underlying29 (by kernel_rfl)
 (.cons (s1:=[.sl 2 1 [.num .i64]]) (s2:=[.num .i64,.num .i64,.num .i64,.sl 179 2 shCor]) rfl (by kernel_rfl) (.slice (el:=[.num .i64]) (by kernel_rfl) (by kernel_rfl) (by decide) (.int (by kernel_rfl)))
 (.cons (s1:=[.num .i64]) (s2:=[.num .i64,.num .i64,.sl 179 2 shCor]) rfl (by kernel_rfl) (.int (by kernel_rfl))
 (.cons (s1:=[.num .i64]) (s2:=[.num .i64,.sl 179 2 shCor]) rfl (by kernel_rfl) (.int (by kernel_rfl))
 (.cons (s1:=[.num .i64]) (s2:=[.sl 179 2 shCor]) rfl (by kernel_rfl) (.int (by kernel_rfl))
 (.cons (s1:=[.sl 179 2 shCor]) (s2:=[]) rfl (by kernel_rfl) (.slice (el:=shCor) (by kernel_rfl) (by kernel_rfl) (by decide) shT_Cor) .nil)))))
theorem shT_Dids:ShT Tryz.prog 46 [.sl 107 7 shDid]:=.slice (el:=shDid) (by kernel_rfl) (by kernel_rfl) (by decide) shT_Did
theorem shT_Clss:ShT Tryz.prog 30 [.sl 113 3 shCls]:=.slice (el:=shCls) (by kernel_rfl) (by kernel_rfl) (by decide) shT_Cls
section
variable {H:Type} {enc:TypeId×Value→H} {W:World} {base:Nat}
theorem row_ok {ε:Env} {M:Nat→Prop} {v:Value} {size n:Nat} {f:Nat→Nat→TC} (h:RdRow W (inW W) v size n (fun i j u=>RdC W (inW W) (f i j) u)):RegOk ε M W ⟨v,inW W⟩ (.row size n f none):=⟨h,trivial⟩
theorem rows_ok {ε:Env} {pre:List Reg} (hl:ε.length=pre.length) (hx:pre.all (fun r=>!r.excl)=true) (hf:∀ i,i<pre.length→ε.fp i=inW W) (h:∀ i r,pre[i]?=some r→RegOk ε (Base.at_ pre ε W).M W (ε.ent i) r) :
 RegsOk ε (Base.at_ pre ε W).M (Base.at_ pre ε W).L W pre:=by
 have hx':∀ (i:Nat) (r:Reg),pre[i]?=some r→r.excl=false:=fun i r hi=>by simpa using List.all_eq_true.1 hx r (List.mem_of_getElem? hi)
 refine ⟨hl,h,fun i r hi hlv b hb=>?_,fun i r hi he=>?_,fun i j ri rj _ hi _ he=>?_⟩
 ·have hi':=(List.getElem?_eq_some_iff.1 hi).1
  have hb':b<W.heap.size:=by rw [hf i hi'] at hb;exact hb
  exact ⟨hb',.inr ⟨i,r,hi,hlv,hb⟩⟩
 ·rw [hx' i r hi] at he;cases he
 ·rw [hx' i ri hi] at he;cases he
theorem open_obj {v:Value} {d:DataW H} {p:List MemPlace} (hv:Value.okWide Tryz.prog W .any base 29 v) (h:DataW.Trod enc Tryz.prog W 0 (fun _=>true) true 29 v d p) :
 ∃ (u0 u4:Value) (mem:List Int) (sh lk bu:Int) (cs:List Cor),v=.agg #[u0,.int .i64 sh,.int .i64 lk,.int .i64 bu,u4] ∧
  RdRow W (inW W) u0 1 mem.length (fun i j u=>RdC W (inW W) (i64T (mem.getD i 0) j) u)∧RdRow W (inW W) u4 2 cs.length (fun i j u=>RdC W (inW W) ((cs.getD i default).tc j) u) ∧
  ∀ a b:Nat,insK ((cs.getD a default).code.getD b default):=by
 obtain ⟨cs0,rfl,hsz⟩:=Go.WideShapes.okWide_struct Tryz.underlying29 hv
 obtain ⟨hlen,tl,⟨hl,hc⟩,hh⟩:=readAt shT_Obj h
 have hlen:cs0.toList.length=5:=hlen
 rcases tl with _ | ⟨c0,_ | ⟨c1,_ | ⟨c2,_ | ⟨c3,_ | ⟨c4,_ | ⟨c5,t⟩⟩⟩⟩⟩⟩
 all_goals first | (exfalso;simp at hl;done) | skip
 obtain ⟨l,rfl⟩:∃ l:List Value,cs0=l.toArray:=⟨cs0.toList,by simp⟩
 simp only [List.toList_toArray] at hlen
 rcases l with _ | ⟨u0,_ | ⟨u1,_ | ⟨u2,_ | ⟨u3,_ | ⟨u4,_ | ⟨u5,t⟩⟩⟩⟩⟩⟩
 all_goals first | (exfalso;simp at hlen;done) | skip
 have h0:=hc 0 _ _ rfl rfl
 have h1:=hc 1 _ _ rfl rfl
 have h2:=hc 2 _ _ rfl rfl
 have h3:=hc 3 _ _ rfl rfl
 have h4:=hc 4 _ _ rfl rfl
 have g0:=hh 0 _ _ rfl rfl
 have g1:=hh 1 _ _ rfl rfl
 have g2:=hh 2 _ _ rfl rfl
 have g3:=hh 3 _ _ rfl rfl
 have g4:=hh 4 _ _ rfl rfl
 cases h1 with | num sh w1 =>
 cases h2 with | num lk w2 =>
 cases h3 with | num bu w3 =>
 obtain ⟨mem,_,hm⟩:=row_of (w:=W) (α:=Int) (tl:=fun n=>[.val (.int .i64 n)]) (Q:=fun _=>True) rfl h0 (fun t ht=>of_Int ht) trivial
 obtain ⟨cs,hq,hr⟩:=row_of (w:=W) (tl:=Cor.tl) (Q:=fun x:Cor=>∀ b,insK (x.code.getD b default)) rfl h4 (fun t ht=>of_Cor ht) (fun b=>by
  rw [List.getD_eq_getElem?_getD];exact insK_dflt)
 have e1:u1=.int .i64 sh:=g1
 have e2:u2=.int .i64 lk:=g2
 have e3:u3=.int .i64 bu:=g3
 subst e1 e2 e3
 exact ⟨u0,u4,mem,sh,lk,bu,cs,rfl,hm u0 g0,hr u4 g4,hq⟩
theorem open_dids {v:Value} {d:DataW H} {p:List MemPlace} (hv:Value.okWide Tryz.prog W .any base 46 v) (h:DataW.Trod enc Tryz.prog W 0 (fun _=>true) true 46 v d p) :
 ∃ l:List Did,RdRow W (inW W) v 7 l.length (fun i j u=>RdC W (inW W) ((l.getD i default).tc j) u)∧∀ a:Nat,0≤(l.getD a default).kind∧(l.getD a default).kind≤255:=by
 obtain ⟨a,len,cap,rfl⟩:=Go.WideShapes.okWide_slice Tryz.underlying46 hv
 obtain ⟨hlen,tl,⟨hl,hc⟩,hh⟩:=readAt shT_Dids h
 rcases tl with _ | ⟨c0,_ | ⟨c1,t⟩⟩
 all_goals first | (exfalso;simp at hl;done) | skip
 obtain ⟨l,hq,hr⟩:=row_of (w:=W) (tl:=Did.tl) (Q:=fun x:Did=>0≤x.kind∧x.kind≤255) rfl (hc 0 _ _ rfl rfl) (fun t ht=>of_Did ht) ⟨Int.le_refl _,by decide⟩
 exact ⟨l,hr _ (hh 0 _ _ rfl rfl),hq⟩
theorem open_clss {v:Value} {d:DataW H} {p:List MemPlace} (hv:Value.okWide Tryz.prog W .any base 30 v) (h:DataW.Trod enc Tryz.prog W 0 (fun _=>true) true 30 v d p):∃ l:List Cls,RdRow W (inW W) v 3 l.length (fun i j u=>RdC W (inW W) ((l.getD i default).tc j) u):=by obtain ⟨a,len,cap,rfl⟩:=Go.WideShapes.okWide_slice Tryz.underlying30 hv;obtain ⟨hlen,tl,⟨hl,hc⟩,hh⟩:=readAt shT_Clss h;(rcases tl with _ | ⟨c0,_ | ⟨c1,t⟩⟩<;>first | (exfalso;simp at hl;done) | (obtain ⟨l,_,hr⟩:=row_of (w:=W) (tl:=Cls.tl) (Q:=fun _:Cls=>True) rfl (hc 0 _ _ rfl rfl) (fun t ht=>of_Cls ht) trivial;exact ⟨l,hr _ (hh 0 _ _ rfl rfl)⟩))
theorem bulk_len {t e:Nat} {v:Value} {d:DataW H} {p:List MemPlace} {size n:Nat} {ok:Nat→Nat→Value→Prop} (ht:Tryz.prog.underlying t=some (.slice e)) (h:DataW.Trod enc Tryz.prog W 0 (fun _=>true) true t v d p) (hr:RdRow W (inW W) v size n ok):n≤Rows.uptoBulk d:=by
 have all:∀ l:List (DataW H),l.length≤Rows.uptoBulkAll l:=fun l=>by
  induction l with
  | nil=>simp
  | cons x r ih =>
    have:1≤Rows.uptoBulk x:=by
     cases x with
     | lit l=>cases l<;>simp [Rows.uptoBulk]
     | _=>simp [Rows.uptoBulk]
    simp only [Rows.uptoBulkAll,List.length_cons];omega
 obtain ⟨A,c,rfl,_⟩:=hr
 obtain ⟨fuel,hf⟩:=h
 rcases Go.Deep.open_slice ht hf with ⟨hcs,hd⟩ | ⟨a,len,cap,m,n',D,Pl,hcs,_,_,_,_,hd,_⟩
 ·simp only [Value.cells,List.cons.injEq,Value.slice.injEq] at hcs
  omega
 ·simp only [Value.cells,List.cons.injEq,Value.slice.injEq] at hcs
  simp only [Prod.mk.injEq] at hd
  rw [hd.1]
  have:=all ((List.range len).map D)
  simp only [List.length_map,List.length_range] at this
  simp only [Rows.uptoBulk]
  omega
theorem bulk_part {d:DataW H} {l:List (DataW H)} (h:d∈l):Rows.uptoBulk d≤Rows.uptoBulkAll l:=by
 induction l with
 | nil=>cases h
 | cons x r ih =>
   simp only [Rows.uptoBulkAll]
   cases List.mem_cons.1 h with
   | inl e=>subst e;omega
   | inr e=>have:=ih e;omega
end
end Go.Proofs.YtmjjikcappbkeaaGreat
end
noncomputable section
namespace Go.Proofs.YtmjjikcappbkeaaGreat.lawWitnessFront
open Go.ChangeShapes Go.WideShapes Go.ChangeAt Go.RowKit Go.Tx
theorem laidT:laidOutB Tryz.prog=true:=by kernel_rfl
theorem own:ownKnob Tryz.prog.godebug=none:=by kernel_rfl
theorem results:Tryz.f6.resultTypes=#[4]:=by kernel_rfl
theorem contract (H:Type) (enc:TypeId×Value→H) (W:World) (base:Nat) (args:Array Value) (ds gs:List (DataW H)) (before:List MemPlace)
 (hval:∀ (j:Nat) t v,Tryz.f6.params[j]?=some t→args[j]?=some v→Value.okWide Tryz.prog W .any base t v)
 (hW:DataW.Whole enc Tryz.prog Tryz.f6.params.toList Rows.witnessFrontSpec.vars false W args.toList ds gs before) (hk:Rows.uptoSmall H (ds++gs)=true) :
 Calls Tryz.prog 6 args W fun e W'=>∃ v,e=.returned v∧Rows.witnessFrontSpec.post enc Tryz.prog Tryz.f6 false true false false W args v W':=by
 have hW':=hW
 have hlt:=hW.lt
 obtain ⟨p,q,hA0,hV,rfl,hfz,hnd⟩:=hW
 have hA:DataW.TrodAll enc Tryz.prog W 0 (fun _=>true) true Tryz.f6.params.toList args.toList ds p:=hA0
 rw [Tryz.params6] at hA hval
 obtain ⟨v0,vs0,d0,ds0,p0,q0,hargs0,rfl,rfl,h0,r0⟩:=trodAll_cons hA
 obtain ⟨v1,vs1,d1,ds1,p1,q1,hargs1,rfl,rfl,h1,r1⟩:=trodAll_cons r0
 obtain ⟨v2,vs2,d2,ds2,p2,q2,hargs2,rfl,rfl,h2,r2⟩:=trodAll_cons r1
 obtain ⟨v3,vs3,d3,ds3,p3,q3,hargs3,rfl,rfl,h3,r3⟩:=trodAll_cons r2
 obtain ⟨rfl,rfl,rfl⟩:=trodAll_nil r3
 obtain rfl:args=#[v0,v1,v2,v3]:=by cases args;simp_all
 obtain ⟨rfl,rfl⟩:=trodVars_none hV
 clear hA0
 have hv0:=hval 0 29 v0 rfl rfl
 have hv1:=hval 1 30 v1 rfl rfl
 have hv2:=hval 2 46 v2 rfl rfl
 have hv3:=hval 3 3 v3 rfl rfl
 obtain ⟨cl,hrc⟩:=open_clss hv1 h1
 obtain ⟨l,hrl,hl⟩:=open_dids hv2 h2
 obtain ⟨n,rfl⟩:=Go.WideShapes.okWide_int Tryz.underlying3 hv3
 obtain ⟨u0,u4,mem,sh,lk,bu,cs,rfl,hr0,hr4,hw⟩:=open_obj hv0 h0
 have hbl:=bulk_len Tryz.underlying46 h2 hrl
 have hbp:=bulk_part (d:=d2) (l:=[d0,d1,d2,d3]) (by simp)
 have hbs:Rows.uptoBulkAll [d0,d1,d2,d3]≤1048576:=by simpa [Rows.uptoSmall] using hk
 have hn:(l.length:Int) * 56≤140737488355328:=by omega
 have hregs:RegsOk ([⟨u0,inW W⟩,⟨u4,inW W⟩,⟨v1,inW W⟩,⟨v2,inW W⟩]:Env) (Base.at_ [IntRow mem,Cor.rowR cs,Cls.rowR cl,Did.rowR l] [⟨u0,inW W⟩,⟨u4,inW W⟩,⟨v1,inW W⟩,⟨v2,inW W⟩] W).M (Base.at_ [IntRow mem,Cor.rowR cs,Cls.rowR cl,Did.rowR l] [⟨u0,inW W⟩,⟨u4,inW W⟩,⟨v1,inW W⟩,⟨v2,inW W⟩] W).L W [IntRow mem,Cor.rowR cs,Cls.rowR cl,Did.rowR l]:=by
  refine rows_ok rfl rfl (fun i hi=>?_) (fun i r hi=>?_)
  ·match i,hi with
   | 0,_=>rfl
   | 1,_=>rfl
   | 2,_=>rfl
   | 3,_=>rfl
   | i+4,hi=>exact absurd hi (by simp)
  ·match i,hi with
   | 0,hi=>cases hi;exact row_ok hr0
   | 1,hi=>cases hi;exact row_ok hr4
   | 2,hi=>cases hi;exact row_ok hrc
   | 3,hi=>cases hi;exact row_ok hrl
   | i+4,hi=>simp at hi
 refine ((c_wf mem sh lk bu cs cl l hw hl hn n) [⟨u0,inW W⟩,⟨u4,inW W⟩,⟨v1,inW W⟩,⟨v2,inW W⟩] W hregs).mono fun e W' hret=>?_
 obtain ⟨res,post,ε',⟨rfl,_⟩,rfl,_,_,hfr⟩:=hret
 have hb:Below W.heap.size W W':=⟨hfr.os,hfr.tape,hfr.output,hfr.size,fun k hk=>hfr.block k hk (fun ⟨i,r,hi,he,_⟩=>by
  match i,hi with
  | 0,hi=>cases hi;cases he
  | 1,hi=>cases hi;cases he
  | 2,hi=>cases hi;cases he
  | 3,hi=>cases hi;cases he
  | i+4,hi=>simp at hi)⟩
 refine ⟨_,rfl,_,_,_,[],p0++(p1++(p2++(p3++[]))),[],hW',?_,?_,?_,hb.frame _,fun h=>by cases h⟩
 ·rw [results]
  exact trodAll_cons_mk (shut_bool Tryz.underlying4 _) trodAll_mk0
 ·rw [Tryz.params6]
  exact (trodAll_cons_mk (WideElems.Trod_stays laidT (by kernel_rfl) (of_decide_eq_true (by kernel_rfl)) h0 (fun p hp=>hb.same (hlt p (by simp [hp]))) (fun p hp=>by simpa using hlt p (by simp [hp]))) (trodAll_cons_mk (WideElems.Trod_stays laidT (by kernel_rfl) (of_decide_eq_true (by kernel_rfl)) h1 (fun p hp=>hb.same (hlt p (by simp [hp]))) (fun p hp=>by simpa using hlt p (by simp [hp]))) (trodAll_cons_mk (WideElems.Trod_stays laidT (by kernel_rfl) (of_decide_eq_true (by kernel_rfl)) h2 (fun p hp=>hb.same (hlt p (by simp [hp]))) (fun p hp=>by simpa using hlt p (by simp [hp]))) (trodAll_cons_mk (WideElems.Trod_stays laidT (by kernel_rfl) (of_decide_eq_true (by kernel_rfl)) h3 (fun p hp=>hb.same (hlt p (by simp [hp]))) (fun p hp=>by simpa using hlt p (by simp [hp]))) trodAll_mk0))))
 ·rfl
set_option maxRecDepth 100000 in
theorem lifted (os:Os) (started:os.Started) (H:Type) (enc:TypeId×Value→H) (F:Stop.Interp) :
 ReturnsInHanded {} Tryz.checked os 6 .any ((Rows.OpenSpec.upto Rows.witnessFrontSpec).pre6 enc Tryz.prog Tryz.f6 Rows.witnessFrontUptoRow.domain false) (((Rows.OpenSpec.upto Rows.witnessFrontSpec).at F).post enc Tryz.prog Tryz.f6 false true false false):=by
 refine returnsInHanded_of_cond (C:=Tryz.checked) (s:=Rows.OpenSpec.upto Rows.witnessFrontSpec) (k:=Rows.uptoSmall) rfl own started (by kernel_rfl) Tryz.func6
  (OpenSpec.witness (enc:=enc) (C:=Tryz.checked) (s:=Rows.OpenSpec.upto Rows.witnessFrontSpec) (k:=Rows.uptoSmall) rfl false ⟨#[],#[.agg #[.slice none 0 0,.int .i64 0,.int .i64 0,.int .i64 0,.slice none 0 0],.slice none 0 0,.slice none 0 0,.int .i64 0],[]⟩ 8 (by kernel_rfl) (by kernel_rfl) (by kernel_rfl)
    (x:=([.agg [.nil,.lit (.int .i64 0),.lit (.int .i64 0),.lit (.int .i64 0),.nil],.nil,.nil,.lit (.int .i64 0)],[],[])) (by kernel_rfl) rfl (by kernel_rfl)) ?_
 intro W base args ds gs before hval hW _ hk _
 exact contract H enc W base args ds gs before hval hW hk
theorem proved:Rows.WitnessFrontUptoSaid:=
 OpenClaim.holds_of_cond 6 Tryz.f6 rfl rfl rfl rfl rfl rfl rfl ⟨rfl,rfl,rfl,rfl,rfl⟩ rfl rfl rfl rfl rfl (by kernel_rfl) Tryz.func6 (by kernel_rfl)
  (of_decide_eq_true (by kernel_rfl)) (by unfold Func.isWrapper;first | (rw [if_pos (by decide +kernel)];kernel_rfl) | (rw [if_neg (by decide +kernel)];exact ⟨rfl,rfl⟩))
  (fun os started H enc _ F=>lifted os started H enc F)
end Go.Proofs.YtmjjikcappbkeaaGreat.lawWitnessFront
end
