/-
  A part of the proof. Text 8 of 9.
-/
import Derived.Test.YtnddggenhefaeaaGreatDoorP4
import Derived.Test.YtnddggenhefaeaaGreatDoorP7
import Derived.Test.YtnddggenhefaeaaGreatDoorP5
import Derived.Test.YtnddggenhefaeaaGreatDoorP6
set_option linter.unusedSimpArgs false
set_option linter.unusedVariables false
open Go.Proofs.Tryz renaming prog→jb
open Go.BinOp renaming and→jx,or→ku
open Go.IntKind renaming u32→jq,i64→ja,u8→jl
open Go.Value renaming slice→ji,int→jg,string→jG,nilFunc→kA,bool→jC
open And renaming intro→jo
open List renaming replicate→jf,length_replicate→jL,length_set→jy,length→j5,length_append→jm,length_singleton→km,take→jW,length_take→jO
open Int renaming le_refl→jE
open Nat renaming le_refl→jp
open Inhabited renaming default→ub
set_option maxHeartbeats 4000000
noncomputable section
namespace Go.Proofs.YtnddggenhefaeaaGreatDoor
open Go Go.Tx
theorem Qne (X:Ext) (hX:TabX X) (th gu:Int) (hl:0≤th∧th<4294967296) (hm:0≤gu∧gu<4294967296):Ctr jb 155 [.froz X] [.agg [.i .u32 th,.i .u32 gu]]
 (DetE (fun y:Int×Int×Int=>True) (fun y=>.agg [.i .u8 y.1,.i .i64 y.2.1,.i .i64 y.2.2]) (fun y=>[.dead])):=by
 refine Ctr.intro [] Tryz.func155 K K ?_
 refine Q0 (decide (th=(0:Int))) (fun h1=>?_) (fun h1=>?_)
 ·exact Q2 (res:=_) (post:=_) (hS:=⟨((0:Int),(0:Int),(0:Int)),trivial,rfl,rfl⟩)
 ·refine tz [2,1] ?_
  refine Q0 (decide (bits jx jq th (th-(1:Int))=(0:Int))) (fun h2=>?_) (fun h2=>?_) (vc:=[Fits jq (th-(1:Int))]) (hv:=W98)
  ·refine tz [2,1] ?_
   refine Qn Gn (Qhw X W49 th W49) [] ?_
   rintro ui hY3
   try dsimp only at hY3
   exact Q2 (vc:=[(0:Int)≤(0:Int),(0:Int)<(↑ui.length:Int),0<ui.length]) (hv:=W98) (res:=_) (post:=_) (hS:=⟨((1:Int),ui.getD 0 0,(0:Int)),trivial,rfl,rfl⟩)
  ·refine tz [2,1] ?_
   refine Q0 (!decide (gu=(0:Int))) (fun h3=>?_) (fun h3=>?_)
   ·refine tz [2,1] ?_
    refine Qn Gn (Qhw X W49 gu W49) [] ?_
    rintro ur hY4
    try dsimp only at hY4
    exact Q2 (vc:=[(0:Int)≤(0:Int),(0:Int)<(↑ur.length:Int),0<ur.length]) (hv:=W98) (res:=_) (post:=_) (hS:=⟨((2:Int),(0:Int),ur.getD 0 0),trivial,rfl,rfl⟩)
   ·exact Q2 (res:=_) (post:=_) (hS:=⟨((3:Int),(0:Int),(0:Int)),trivial,rfl,rfl⟩)
abbrev zK:Reg:=Reg.box 240 [C.v (ji none 0 0),C.v (ji none 0 0)]
abbrev zan:Reg:=Reg.box 240 [C.h 4,C.h 5]
abbrev zav:En:=se 2 (C.p 2 0)
def vZ (g:Grf) (ue:List Iln):Lp (Int×List Lz):=⟨fun x=>{ N:=47,fr:=[se 24 (C.i .i64 x.1),se 23 (C.i .i64 (↑ue.length:Int)),se 22 (C.h 6),zav,za0],rg:=[rowOf 13 (·.tc) g.nodes,ze g,zK,zan,ownOf 4 1 (·.tc) (rchL g.nodes),Lz.ownR (x.2),rowOf 1 (·.tc) ue],wr:=[] },fun x=>0≤x.1∧x.2.length=g.nodes.length∧LzQ x.2,fun x=>((ue.length:Int)-x.1).toNat⟩
def v4 (g:Grf) (ue:List Iln) (uf:Int) (un:List Lz):Lp (Int×List Lz):=⟨fun x=>{ N:=47,fr:=[se 31 (C.i .i64 x.1),se 30 (C.i .i64 (↑(ue.getD uf.toNat ub).l.length:Int)),se 29 (C.h 7),se 6 (C.i .i64 uf),se 24 (C.i .i64 uf),se 23 (C.i .i64 (↑ue.length:Int)),se 22 (C.h 6),zav,za0],rg:=[rowOf 13 (·.tc) g.nodes,ze g,zK,zan,ownOf 4 1 (·.tc) (rchL g.nodes),Lz.ownR (x.2),Reg.row 1 ue.length (fun i=>(ue.getD i ub).tc) (some (uf.toNat,[C.h 7])),Reg.row 1 (ue.getD uf.toNat ub).l.length (fun i=>i64T ((ue.getD uf.toNat ub).l.getD i 0)) none],wr:=[] },fun x=>0≤x.1∧x.2.length=g.nodes.length∧LzQ x.2,fun x=>(((ue.getD uf.toNat ub).l.length:Int)-x.1).toNat⟩
abbrev zJ (y0:Grf):Reg:=Reg.own 215 1 y0.nodes.length (fun x j=>valT (jg jq (0:Int)).cells.toList j) none
theorem Qke (g:Grf) (hq:zC g) (hN:1≤g.nodes.length∧g.nodes.length≤4096) (hk:zI g) (ht:thQ g.nodes) (hf:heldF g.nodes<0):Ctr jb 170 [zV g] [.agg (g.cs 0)]
 (DetE (fun W:List Lz=>W.length=g.nodes.length∧LzQ W) (fun _=>.agg [.h 1,.h 2]) (fun W=>[.dead,za2 g,Lz.ownR W])):=by
 refine Ctr.intro [] Tryz.func170 K K ?_
 refine Q0a 3 (fun _:Unit=>St.mk 47 [zaa,zav,za0] [rowOf 13 (·.tc) g.nodes,ze g,zK,zan,ownOf 4 1 (·.tc) (rchL g.nodes),zJ g] []) (fun _=>True) ?_ ?_
 ·refine ⟨⟨⟨trivial,?_⟩,?_⟩,?_⟩
  ·refine Q3 Qw (Yd g W49 W49 W49) [] ?_
   refine tz [11,14,13,12,10,2,1] ?_
   refine Ql1 2 [[],[(0:Int)≤(↑g.nodes.length:Int),(↑g.nodes.length:Int)≤(↑g.nodes.length:Int),(↑g.nodes.length:Int) * (4:Int)≤(140737488355328:Int),(↑g.nodes.length:Int)≤(↑maxLen:Int),(0:Int)≤(↑g.nodes.length:Int),(↑g.nodes.length:Int)≤(↑g.nodes.length:Int),(↑g.nodes.length:Int) * (4:Int)≤(140737488355328:Int),(↑g.nodes.length:Int)≤(↑maxLen:Int)]] [0,0,0,1,0,0,1] ?_ (by simp only [flatP,List.cons_append,List.nil_append,Conj,Fits,Q8,Q9,Qa,Qb,News.len,maxLen]<;>(repeat' (first | apply jo | intro _))<;>first | rfl | (have q:=uc h3;have z:=hJ2.1;have z1:=hY1.1;have z2:=hY1.2 uf.toNat (by omega);(try have q5:=uc h5);(try have z4:=hJ4.1);(try have z5:=hJ4.2.1);(try have z6:=z2.1 _ (Y1 q5 z4));(try simp only [maxLen] at *);omega) | grind | (simp only [BL] at *;omega))
   exact tTo (fun x=>St.mk 47 [zaa,zav,za0] [rowOf 13 (·.tc) g.nodes,ze g,zK,zan,ownOf 4 1 (·.tc) (rchL g.nodes),zJ g] []) (fun x=>True) () trivial [] [10] [∀ (i:Nat),i<g.nodes.length→(fun j=>valT (jg jq (0:Int)).cells.toList j)=fun j=>valT (jg jq (0:Int)).cells.toList j] (fun _ _=>rfl)
  ·refine Q0a 2 (fun _:Unit=>St.mk 47 [se 3 (C.p 5 0),zav,zaa] [rowOf 13 (·.tc) g.nodes,ze g,zK,zJ g,ownOf 4 1 (·.tc) (rchL g.nodes),Reg.box 240 [C.h 4,C.h 3]] []) (fun _=>True) ?_ ?_ (vc:=[(0:Int)≤(↑g.nodes.length:Int),(↑g.nodes.length:Int)≤(↑g.nodes.length:Int),(↑g.nodes.length:Int) * (4:Int)≤(140737488355328:Int),(↑g.nodes.length:Int)≤(↑maxLen:Int),(0:Int)≤(↑g.nodes.length:Int),(↑g.nodes.length:Int)≤(↑g.nodes.length:Int),(↑g.nodes.length:Int) * (4:Int)≤(140737488355328:Int),(↑g.nodes.length:Int)≤(↑maxLen:Int)]) (hv:=W38)
   ·refine ⟨⟨trivial,?_⟩,?_⟩
    ·refine Q3 Qw (Yd g W49 W49 W49) [] ?_
     exact tTo (fun x=>St.mk 47 [se 3 (C.p 5 0),zav,zaa] [rowOf 13 (·.tc) g.nodes,ze g,zK,zJ g,ownOf 4 1 (·.tc) (rchL g.nodes),Reg.box 240 [C.h 4,C.h 3]] []) (fun x=>True) () trivial [] [8] [∀ (i:Nat),i<g.nodes.length→(fun j=>valT (jg jq (0:Int)).cells.toList j)=fun j=>valT (jg jq (0:Int)).cells.toList j] (fun _ _=>rfl)
    ·refine Q3 Qw (Yd g W49 W49 W49) [] ?_
     exact tTo (fun x=>St.mk 47 [se 3 (C.p 5 0),zav,zaa] [rowOf 13 (·.tc) g.nodes,ze g,zK,zJ g,ownOf 4 1 (·.tc) (rchL g.nodes),Reg.box 240 [C.h 4,C.h 3]] []) (fun x=>True) () trivial [0,1,2,3,5,4] [8] [∀ (i:Nat),i<g.nodes.length→(fun j=>valT (jg jq (0:Int)).cells.toList j)=fun j=>valT (jg jq (0:Int)).cells.toList j] (fun _ _=>rfl)
   ·rintro ⟨⟩ _
    exact tTo (fun x=>St.mk 47 [zaa,zav,za0] [rowOf 13 (·.tc) g.nodes,ze g,zK,zan,ownOf 4 1 (·.tc) (rchL g.nodes),zJ g] []) (fun x=>True) () trivial [0,1,2,5,4,3] [10] [∀ (i:Nat),i<g.nodes.length→(fun j=>valT (jg jq (0:Int)).cells.toList j)=fun j=>valT (jg jq (0:Int)).cells.toList j] (fun _ _=>rfl)
  ·refine Q0a 2 (fun _:Unit=>St.mk 47 [za0,zav,zaa] [rowOf 13 (·.tc) g.nodes,ze g,zK,zan,ownOf 4 1 (·.tc) (rchL g.nodes),zJ g] []) (fun _=>True) ?_ ?_
   ·refine ⟨⟨trivial,?_⟩,?_⟩
    ·refine Q3 Qw (Yd g W49 W49 W49) [] ?_
     exact tTo (fun x=>St.mk 47 [za0,zav,zaa] [rowOf 13 (·.tc) g.nodes,ze g,zK,zan,ownOf 4 1 (·.tc) (rchL g.nodes),zJ g] []) (fun x=>True) () trivial [] [10] [∀ (i:Nat),i<g.nodes.length→(fun j=>valT (jg jq (0:Int)).cells.toList j)=fun j=>valT (jg jq (0:Int)).cells.toList j] (fun _ _=>rfl) (vc:=[(0:Int)≤(↑g.nodes.length:Int),(↑g.nodes.length:Int)≤(↑g.nodes.length:Int),(↑g.nodes.length:Int) * (4:Int)≤(140737488355328:Int),(↑g.nodes.length:Int)≤(↑maxLen:Int),(0:Int)≤(↑g.nodes.length:Int),(↑g.nodes.length:Int)≤(↑g.nodes.length:Int),(↑g.nodes.length:Int) * (4:Int)≤(140737488355328:Int),(↑g.nodes.length:Int)≤(↑maxLen:Int)]) (hv:=W38)
    ·refine Q3 Qw (Yd g W49 W49 W49) [] ?_ (vc:=[(0:Int)≤(↑g.nodes.length:Int),(↑g.nodes.length:Int)≤(↑g.nodes.length:Int),(↑g.nodes.length:Int) * (4:Int)≤(140737488355328:Int),(↑g.nodes.length:Int)≤(↑maxLen:Int),(0:Int)≤(↑g.nodes.length:Int),(↑g.nodes.length:Int)≤(↑g.nodes.length:Int),(↑g.nodes.length:Int) * (4:Int)≤(140737488355328:Int),(↑g.nodes.length:Int)≤(↑maxLen:Int)]) (hv:=W38)
     exact tTo (fun x=>St.mk 47 [za0,zav,zaa] [rowOf 13 (·.tc) g.nodes,ze g,zK,zan,ownOf 4 1 (·.tc) (rchL g.nodes),zJ g] []) (fun x=>True) () trivial [0,1,2,3,5,4] [10] [∀ (i:Nat),i<g.nodes.length→(fun j=>valT (jg jq (0:Int)).cells.toList j)=fun j=>valT (jg jq (0:Int)).cells.toList j] (fun _ _=>rfl)
   ·rintro ⟨⟩ _
    exact tTo (fun x=>St.mk 47 [zaa,zav,za0] [rowOf 13 (·.tc) g.nodes,ze g,zK,zan,ownOf 4 1 (·.tc) (rchL g.nodes),zJ g] []) (fun x=>True) () trivial [] [10] [∀ (i:Nat),i<g.nodes.length→(fun j=>valT (jg jq (0:Int)).cells.toList j)=fun j=>valT (jg jq (0:Int)).cells.toList j] (fun _ _=>rfl)
 ·rintro ⟨⟩ _
  refine tz [1,2,3] ?_
  refine Qn Qex (Qpa g W49 W49 W49 W49 W49) [] ?_
  rintro ue hY1
  try dsimp only at hY1
  refine tz [19,2,3] ?_
  refine Q7 (vZ g ue) (((0:Int),jf g.nodes.length (Lz.mk (0:Int)))) (⟨jE _,jL,LzQ.rep _⟩) ?_ [] [9,10] [(jf g.nodes.length (Lz.mk (0:Int))).length=g.nodes.length,∀ (i:Nat),i<(jf g.nodes.length (Lz.mk (0:Int))).length→((jf g.nodes.length (Lz.mk (0:Int))).getD i ub).tc=fun j=>valT (jg jq (0:Int)).cells.toList j] (by (try simp only [Conj])<;>(repeat' apply jo)<;>first | done | trivial | rfl | (intros;first | rfl | trivial) | exact Qs _ _ | exact jy | exact Qq _ _ _ | exact Qgo _ _ _ | exact jL | exact Qlw | exact Qx _ _ _ _ _ | (exact Qy _ _ _ (by first | omega | (have h0:=Y6 (by simpa using h1);have hm:=Y5 h0.1;have hs:=Yc h0.1;omega))) | exact MpEq.put (by omega) | (refine MpEq.mk' (by omega) ?_ ?_<;>intro q<;>first | rfl | (dsimp only;split<;>simp_all)) | (exact MpEq.mkIt (by omega) (fun _=>rfl) (fun _=>rfl) rfl rfl (fun _=>rfl)) | (intro i h1 h2;rw [Qu h1 h2]) | (rw [Qj];rfl))
  rintro ⟨uf,un⟩ hJ2
  dsimp only [vZ] at hJ2
  refine tz [24,23,22,2,3] ?_
  refine Q0 (decide (uf<(↑ue.length:Int))) (fun h3=>?_) (fun h3=>?_)
  ·refine Y4 6 (uf.toNat) ?_ (vc:=[uf.toNat<ue.length]) (hv:=W38)
   refine tz [24,23,22,2,3] ?_
   refine Q7 (v4 g ue uf un) (((0:Int),un)) (⟨jE _,hJ2.2⟩) ?_ (vc:=[(0:Int)≤uf,uf<(↑ue.length:Int),uf.toNat=uf.toNat]) (hv:=W38)
   rintro ⟨ur,uw⟩ hJ4
   dsimp only [v4] at hJ4
   refine tz [31,30,29,6,24,23,22,2,3] ?_
   refine Q0 (decide (ur<(↑(ue.getD uf.toNat ub).l.length:Int))) (fun h5=>?_) (fun h5=>?_)
   ·exact Q4 (v4 g ue uf un) (ur,uw) ((ur+(1:Int),uw.set uf.toNat (Lz.mk (bits ku jq (uw.getD uf.toNat ub).w (shlI jq (1:Int) ((ue.getD uf.toNat ub).l.getD ur.toNat 0)))))) (by dsimp only [v4];have q:=uc h5;have z:=hJ4.1;omega) (by have z:=hJ4.1;exact ⟨by omega,by rw [jy];exact hJ4.2.1,hJ4.2.2.set (or_rng _ _)⟩) [] [9,10] [(uw.set uf.toNat (Lz.mk (bits ku jq (uw.getD uf.toNat ub).w (shlI jq (1:Int) ((ue.getD uf.toNat ub).l.getD ur.toNat 0))))).length=uw.length,∀ (i:Nat),i<(uw.set uf.toNat (Lz.mk (bits ku jq (uw.getD uf.toNat ub).w (shlI jq (1:Int) ((ue.getD uf.toNat ub).l.getD ur.toNat 0))))).length→((uw.set uf.toNat (Lz.mk (bits ku jq (uw.getD uf.toNat ub).w (shlI jq (1:Int) ((ue.getD uf.toNat ub).l.getD ur.toNat 0))))).getD i ub).tc=updT (fun i=>(uw.getD i ub).tc) uf.toNat 0 [jg jq (bits ku jq (uw.getD uf.toNat ub).w (shlI jq (1:Int) ((ue.getD uf.toNat ub).l.getD ur.toNat 0)))] i] (by (try simp only [Conj])<;>(repeat' apply jo)<;>first | done | trivial | rfl | (intros;first | rfl | trivial) | exact Qs _ _ | exact jy | exact Qq _ _ _ | exact Qgo _ _ _ | exact jy | exact Qx _ _ _ _ _ | (exact Qy _ _ _ (by first | omega | (have h0:=Y6 (by simpa using h1);have hm:=Y5 h0.1;have hs:=Yc h0.1;omega))) | exact MpEq.put (by omega) | (refine MpEq.mk' (by omega) ?_ ?_<;>intro q<;>first | rfl | (dsimp only;split<;>simp_all)) | (exact MpEq.mkIt (by omega) (fun _=>rfl) (fun _=>rfl) rfl rfl (fun _=>rfl)) | (intro i h1 h2;rw [Qu h1 h2]) | (rw [Qj];rfl)) (vc:=[(0:Int)≤ur,ur<(↑(ue.getD uf.toNat ub).l.length:Int),ur.toNat<(ue.getD uf.toNat ub).l.length,(0:Int)≤uf,uf<(↑uw.length:Int),uf.toNat<uw.length,(0:Int)≤(ue.getD uf.toNat ub).l.getD ur.toNat 0,(0:Int)≤uf,uf<(↑uw.length:Int),uf.toNat<uw.length,Fits ja (ur+(1:Int))]) (hv:=W38)
   ·exact Q4 (vZ g ue) (uf,un) ((uf+(1:Int),uw)) (by dsimp only [vZ];have q:=uc h3;have z:=hJ2.1;omega) (by have z:=hJ2.1;exact ⟨by omega,hJ4.2⟩) (vc:=[Fits ja (uf+(1:Int))]) (hv:=W38)
  ·exact Q2 [0,4,5] (res:=_) (post:=_) (hS:=⟨un,hJ2.2,rfl,rfl⟩)
abbrev zat (y0:Nat × UF):Reg:=Reg.mp MTu y0.1 (fun a=>(y0.2 a).isSome) (fun a=>(y0.2 a).getD ((0:Int),(0:Int))) none
abbrev zbd (y0:Nat) (y1:UF):Reg:=Reg.mp MTu y0 (fun a=>(y1 a).isSome) (fun a=>(y1 a).getD ((0:Int),(0:Int))) none
abbrev zbp:MT:=(MT.mk jb 221 3 217 [CK.i ja] false [CK.i jq,CK.i jq] true)
abbrev zcg (y0:UF):Int → Int × Int:=fun (a:Int)=>(y0 a).getD zb8
abbrev zco (y0:UF):Int → Bool:=fun (a:Int)=>(y0 a).isSome
abbrev zcs (y0:UF) (y1:Nod):Int × Int:=((y0 y1.thing).getD zb8)
abbrev zcZ (y0:Int) (y1:Nod) (y2:UF) (y3 y4:Int):Option (Int × Int):=if y0=y1.thing then some (bits ku jq (zcs y2 y1).fst (shlI jq (1:Int) y3),bits jx jq (65535:Int) y4) else y2 y0
abbrev zda (y0:Int) (y1:Nod) (y2:UF) (y3 y4:Int):Option (Int × Int):=if y0=y1.thing then some (bits ku jq (zcs y2 y1).fst (shlI jq (1:Int) y3),bits jx jq (zcs y2 y1).snd y4) else y2 y0
theorem Qpb (t i:Int) (n:Nod) (he:Int) (cN:Nat) (F:UF) (ht:0≤t∧t≤4096) (hk:1≤n.kind∧n.kind≤9) (hh:0≤he∧he<4294967296) (hv:n.kind=2∨n.kind=3∨n.kind=4→0≤n.thing∧n.thing<1000000) (hc:cN≤1000000) (hF:UseQ F):Ctr jb 167 [Reg.box 221 [.h 1],zbd cN F] [.agg [.i .i64 t,.i .i64 i],.agg n.cs,.c (.i .u32 he),.c (.p 0 0)]
 (DetE (fun y:Nat×UF=>y.1≤cN+1∧UseQ y.2) (fun _=>.tup []) (fun y=>[Reg.box 221 [.h 1],zat y])):=by
 refine Ctr.intro [] Tryz.func167 K K ?_
 refine Q3 Q52 (Qhm n) [] ?_
 refine tz [10,5,4,2,3] ?_
 refine Q0 (!(decide (n.kind=(2:Int))||decide (n.kind=(3:Int))||decide (n.kind=(4:Int)))) (fun h1=>?_) (fun h1=>?_)
 ·exact Q2 [] [0] [MpEq MTu cN (zco F) (zcg F) none zbp cN (zco F) (zcg F) none] W144 (res:=_) (post:=_) (hS:=⟨(cN,F),W157,rfl,rfl⟩)
 ·refine tz [5,4,2,3] ?_
  refine Q0 (!(F n.thing).isSome) (fun h2=>?_) (fun h2=>?_) (vc:=[Fits ja n.thing,zbp.P=jb]) (hv:=W96)
  ·exact Yh [] [0] [MpEq MTu (cN+1) (fun (a:Int)=>(zcZ a n F t he).isSome) (fun (a:Int)=>(zcZ a n F t he).getD zb8) none zbp (cN+1) (fun (q:Int)=>decide (q=n.thing)||(F q).isSome) (fun (q:Int)=>if q=n.thing then (bits ku jq (zcs F n).fst (shlI jq (1:Int) t),bits jx jq (65535:Int) he) else (F q).getD zb8) none] W144 (vc:=[(0:Int)≤t,Fits ja n.thing,zbp.P=jb,cN<maxLen]) (hv:=W96) (res:=_) (post:=_) (hS:=⟨(cN+1,fun (q:Int)=>if q=n.thing then some (bits ku jq (zcs F n).1 (shlI jq (1:Int) t),bits jx jq (65535:Int) he) else F q),W157,rfl,rfl⟩)
  ·exact Yh [] [0] [MpEq MTu (cN+1) (fun (a:Int)=>(zda a n F t he).isSome) (fun (a:Int)=>(zda a n F t he).getD zb8) none zbp (cN+1) (fun (q:Int)=>decide (q=n.thing)||(F q).isSome) (fun (q:Int)=>if q=n.thing then (bits ku jq (zcs F n).fst (shlI jq (1:Int) t),bits jx jq (zcs F n).snd he) else (F q).getD zb8) none] W144 (vc:=[(0:Int)≤t,Fits ja n.thing,zbp.P=jb,cN<maxLen]) (hv:=W96) (res:=_) (post:=_) (hS:=⟨(cN+1,fun (q:Int)=>if q=n.thing then some (bits ku jq (zcs F n).1 (shlI jq (1:Int) t),bits jx jq (zcs F n).2 he) else F q),W157,rfl,rfl⟩)
def v5 (sh:List Dcl) (lk:List Dcl) (gs:List Grf):Lp (Int×List Lok):=⟨fun x=>{ N:=33,fr:=[se 22 (C.i .i64 x.1),se 21 (zcS gs),se 20 (C.h 2),se 7 (C.h 4),se 3 (C.i .i64 0),zF],rg:=[rowOf 3 (·.tc) sh,rowOf 3 (·.tc) lk,rowOf 4 (·.tc) gs,zH]++[Lok.ownR x.2],wr:=[] },fun x=>0≤x.1∧x.1≤(gs.length:Int)∧LokQ gs x.1.toNat x.2,fun x=>((gs.length:Int)-x.1).toNat⟩
abbrev zc1:Bool × List C:=(false,[.i .i64 0])
abbrev zc5 (y0:List Grf) (y1:Int):List Bo:=rchL (zbz y0 y1).nodes
theorem Qnf (sh lk:List Dcl) (gs:List Grf) (hs:zx sh) (hl:zx lk) (hg:zM gs) (hw:UnitW gs) (h0:(chkU sh lk gs).1=0):Ctr jb 165 [Dcl.rowR sh,Dcl.rowR lk,Grf.rowR gs] [zbC]
 (DetE (fun L:List Lok=>LokQ gs gs.length L) (fun _=>.tup [(false,[.h 3]),zc1]) (fun L=>[.dead,.dead,.dead,Lok.ownR L])):=by
 refine Ctr.intro [] Tryz.func165 K K ?_
 refine Q3 J7 (Q2w sh lk gs W44 W44 W44 W44) [] ?_
 refine tz [12,3,2,1] ?_
 refine Q0 (!decide ((chkU sh lk gs).fst=(0:Int))) (fun h1=>?_) (fun h1=>?_)
 ·exact (show False from by rw [h0] at h1;simp at h1).elim
 ·refine tz [3,2,1] ?_
  refine Q7 (v5 sh lk gs) (((0:Int),[])) (⟨jE _,by omega,LokQ.nil gs⟩) ?_ [0,1,2,3,1000004] [6] [(0:Nat)=0] W8
  rintro ⟨uf,un⟩ hJ2
  dsimp only [v5] at hJ2
  refine tz [22,21,20,7,3,2] ?_
  refine Q0 (decide (uf<(↑gs.length:Int))) (fun h3=>?_) (fun h3=>?_)
  ·refine Y4 2 (uf.toNat) ?_ (vc:=[uf.toNat<gs.length]) (hv:=W97)
   refine tz [22,21,20,7,3,2] ?_
   refine Qn Q5t (Qke (zbz gs uf) W44 W44 W44 W44 W44) [5] ?_ (vc:=(zcv uf gs)) (hv:=W97)
   rintro ur hY4
   try dsimp only at hY4
   exact Q6t (v5 sh lk gs) (uf,un) ((uf+(1:Int),un++[Lok.mk (zc5 gs uf) ur])) (by dsimp only [v5];have q:=uc h3;have z:=hJ2.1;omega) (by have q:=uc h3;have z:=hJ2.1;refine ⟨by omega,by omega,?_⟩;show LokQ gs (uf+1).toNat _;rw [show (uf+1).toNat=uf.toNat+1 by omega];exact hJ2.2.2.snoc rfl hY4.1 hY4.2) [(10,(Lok.tc (Lok.mk (zc5 gs uf) ur)))] [0,1,2,3,10] [6,7] [(un++[Lok.mk (zc5 gs uf) ur]).length=un.length+1,∀ (i:Nat),i<(un++[Lok.mk (zc5 gs uf) ur]).length→((un++[Lok.mk (zc5 gs uf) ur]).getD i ub).tc=if i=un.length then (Lok.mk (zc5 gs uf) ur).tc else (un.getD i ub).tc] W75 (vc:=[un.length+1≤maxLen,(un.length+1) * 48≤140737488355328,Fits ja (uf+(1:Int))]) (hv:=W97) (vc2:=[(zc5 gs uf).length=(zc5 gs uf).length,∀ (i:Nat),i<(zc5 gs uf).length→((zc5 gs uf).getD i ub).tc=((zc5 gs uf).getD i ub).tc,ur.length=ur.length,∀ (i:Nat),i<ur.length→(ur.getD i ub).tc=(ur.getD i ub).tc]) (hv2:=(by simp only [Conj];(repeat' apply jo)<;>first | trivial | rfl | exact Qs _ _ | exact Q5u _ _ _ _ | (intros;first | trivial | rfl)))
  ·exact Q2 [0,1,2,4] (res:=_) (post:=_) (hS:=⟨un,(by have q:=ud h3;have e:uf.toNat=gs.length:=(by have z:=hJ2.2.1;omega);rw [← e];exact hJ2.2.2),rfl,rfl⟩)
abbrev zaz (y0:Int × Nat × (Int → Option (Int × Int))):Reg:=Reg.mp (MT.mk jb 221 3 217 [CK.i ja] false [CK.i jq,CK.i jq] true) (y0.2.1) (fun a=>(y0.2.2 a).isSome) (fun a=>(y0.2.2 a).getD (((0:Int),(0:Int)))) none
def v6 (sh:List Dcl) (lk:List Dcl) (gs:List Grf) (L:List Lok) (cN:Nat) (F:UF):Lp (Int×Nat×(Int→Option ((Int×Int)))):=⟨fun x=>{ N:=50,fr:=[se 13 (C.i .i64 x.1),se 12 (C.i .i64 (↑gs.length:Int)),se 11 (C.h 2),se 1 (C.h 3),se 2 (C.fn 167 false [4])],rg:=[rowOf 3 (·.tc) sh,rowOf 3 (·.tc) lk,rowOf 4 (·.tc) gs,rowOf 2 (·.tc) L,Reg.box 221 [C.h 5],zaz x,zH],wr:=[] },fun x=>0≤x.1∧x.1≤(gs.length:Int)∧x.2.1≤cN+4096 * x.1.toNat∧UseQ x.2.2,fun x=>((gs.length:Int)-x.1).toNat⟩
def vr (sh:List Dcl) (lk:List Dcl) (gs:List Grf) (L:List Lok) (ue:Int) (uj:Nat) (uh:Int→Option (Int×Int)):Lp (Int×Nat×(Int→Option ((Int×Int)))):=⟨fun x=>{ N:=50,fr:=[se 21 (C.i .i64 x.1),se 20 (C.i .i64 (↑(gs.getD ue.toNat ub).nodes.length:Int)),se 19 (C.h 7),se 6 (C.i .i64 ue),se 13 (C.i .i64 ue),se 12 (C.i .i64 (↑gs.length:Int)),se 11 (C.h 2),se 1 (C.h 3),se 2 (C.fn 167 false [4])],rg:=[rowOf 3 (·.tc) sh,rowOf 3 (·.tc) lk,Reg.row 4 gs.length (fun i=>(gs.getD i ub).tc) (some (ue.toNat,[C.v (jG (gs.getD ue.toNat ub).name),C.i .i64 (gs.getD ue.toNat ub).locals,C.i .i64 (gs.getD ue.toNat ub).slots,C.h 7])),Reg.row 2 L.length (fun i=>(L.getD i ub).tc) (some (ue.toNat,[C.h 8,C.h 9])),Reg.box 221 [C.h 5],zaz x,zH,zr gs ue,Reg.row 1 (L.getD ue.toNat ub).reached.length (fun i=>((L.getD ue.toNat ub).reached.getD i ub).tc) none,Reg.row 1 (L.getD ue.toNat ub).held.length (fun i=>((L.getD ue.toNat ub).held.getD i ub).tc) none,Reg.box 60 [C.v (jG (gs.getD ue.toNat ub).name),C.i .i64 (gs.getD ue.toNat ub).locals,C.i .i64 (gs.getD ue.toNat ub).slots,C.h 7]],wr:=[] },fun x=>0≤x.1∧x.1≤((gs.getD ue.toNat ub).nodes.length:Int)∧x.2.1≤uj+x.1.toNat∧UseQ x.2.2,fun x=>(((gs.getD ue.toNat ub).nodes.length:Int)-x.1).toNat⟩
theorem Qpc (sh lk:List Dcl) (gs:List Grf) (L:List Lok) (hL:LokQ gs gs.length L) (hT:∀ x:Int,0≤x→x<(gs.length:Int)→ThQ sh lk (gs.getD x.toNat ub)) (hn:gs.length≤8∧sh.length≤64) (cN:Nat) (F:UF) (hc:cN≤1000) (hF:UseQ F):Ctr jb 166 [Dcl.rowR sh,Dcl.rowR lk,Grf.rowR gs,Lok.rowR L,Reg.box 221 [.h 5],zbd cN F] [.agg [.h 0,.h 1,.h 2],.c (.h 3),.c (.fn 167 false [4])]
 (DetE (fun y:Nat×UF=>y.1≤cN+4096 * gs.length∧UseQ y.2) (fun _=>.tup []) (fun y=>[.dead,.dead,.dead,.dead,Reg.box 221 [.h 5],zat y])):=by
 refine Ctr.intro [] Tryz.func166 K K ?_
 refine Q7 (v6 sh lk gs L cN F) (((0:Int),cN,F)) (⟨jE _,by omega,by show cN≤_;omega,hF⟩) ?_ [] [8] [MpEq (MT.mk jb 221 3 217 [CK.i ja] false [CK.i jq,CK.i jq] true) cN (fun (a:Int)=>(F a).isSome) (fun (a:Int)=>(F a).getD ((0:Int),(0:Int))) none (MT.mk jb 221 3 217 [CK.i ja] false [CK.i jq,CK.i jq] true) cN (fun (a:Int)=>(F a).isSome) (fun (a:Int)=>(F a).getD ((0:Int),(0:Int))) none] W8
 rintro ⟨ue,uj,uh⟩ hJ1
 dsimp only [v6] at hJ1
 refine tz [13,12,11,1,2] ?_
 refine Q0 (decide (ue<(↑gs.length:Int))) (fun h2=>?_) (fun h2=>?_)
 ·refine Y4 2 (ue.toNat) ?_ (vc:=[ue.toNat<gs.length]) (hv:=W28)
  refine Y4 3 (ue.toNat) ?_ (vc:=[ue.toNat<L.length]) (hv:=W28)
  refine tz [13,12,11,1,2] ?_
  refine Q7 (vr sh lk gs L ue uj uh) (((0:Int),uj,uh)) (⟨jE _,by omega,by show uj≤uj+_;omega,hJ1.2.2.2⟩) ?_ [] [13] [MpEq (MT.mk jb 221 3 217 [CK.i ja] false [CK.i jq,CK.i jq] true) uj (fun (a:Int)=>(uh a).isSome) (fun (a:Int)=>(uh a).getD ((0:Int),(0:Int))) none (MT.mk jb 221 3 217 [CK.i ja] false [CK.i jq,CK.i jq] true) uj (fun (a:Int)=>(uh a).isSome) (fun (a:Int)=>(uh a).getD ((0:Int),(0:Int))) none] W8 (vc:=[(0:Int)≤ue,ue<(↑gs.length:Int),ue.toNat=ue.toNat]) (hv:=W28)
  rintro ⟨ui,uq,ut⟩ hJ3
  dsimp only [vr] at hJ3
  refine tz [21,20,19,6,13,12,11,1,2] ?_
  refine Q0 (decide (ui<(↑(gs.getD ue.toNat ub).nodes.length:Int))) (fun h4=>?_) (fun h4=>?_)
  ·refine tz [21,20,19,6,13,12,11,1,2] ?_
   refine Q0 (((L.getD ue.toNat ub).reached.getD ui.toNat ub).b) (fun h5=>?_) (fun h5=>?_) (vc:=[(0:Int)≤ui,ui<(↑(gs.getD ue.toNat ub).nodes.length:Int),ui.toNat<(gs.getD ue.toNat ub).nodes.length,(0:Int)≤ue,ue<(↑L.length:Int),ue.toNat=ue.toNat,(0:Int)≤ui,ui<(↑(L.getD ue.toNat ub).reached.length:Int),ui.toNat<(L.getD ue.toNat ub).reached.length]) (hv:=W28)
   ·refine tz [8,9,21,20,19,6,13,12,11,1,2] ?_
    refine Qn Q5s (Qpb ue ui ((gs.getD ue.toNat ub).nodes.getD ui.toNat ub) (((L.getD ue.toNat ub).held.getD ui.toNat ub).w) uq ut W19 W19 W19 W19 W19 W19) [4,5] ?_ [0] [MpEq MTu uq (fun (a:Int)=>(ut a).isSome) (fun (a:Int)=>(ut a).getD ((0:Int),(0:Int))) none (MT.mk jb 221 3 217 [CK.i ja] false [CK.i jq,CK.i jq] true) uq (fun (a:Int)=>(ut a).isSome) (fun (a:Int)=>(ut a).getD ((0:Int),(0:Int))) none] W8 (vc:=[(0:Int)≤ue,ue<(↑L.length:Int),ue.toNat=ue.toNat,(0:Int)≤ui,ui<(↑(L.getD ue.toNat ub).held.length:Int),ui.toNat<(L.getD ue.toNat ub).held.length]) (hv:=W28)
    rintro ⟨uv,uH⟩ hY6
    try dsimp only at hY6
    exact Q4 (vr sh lk gs L ue uj uh) (ui,uq,ut) ((ui+(1:Int),uv,uH)) W191 W86 [] [13] [MpEq (MT.mk jb 221 3 217 [CK.i ja] false [CK.i jq,CK.i jq] true) uv (fun (a:Int)=>(uH a).isSome) (fun (a:Int)=>(uH a).getD ((0:Int),(0:Int))) none (MT.mk jb 221 3 217 [CK.i ja] false [CK.i jq,CK.i jq] true) uv (fun (a:Int)=>(uH a).isSome) (fun (a:Int)=>(uH a).getD ((0:Int),(0:Int))) none] W8 (vc:=[Fits ja (ui+(1:Int))]) (hv:=W28)
   ·exact Q4 (vr sh lk gs L ue uj uh) (ui,uq,ut) ((ui+(1:Int),uq,ut)) W191 W86 [] [13] [MpEq (MT.mk jb 221 3 217 [CK.i ja] false [CK.i jq,CK.i jq] true) uq (fun (a:Int)=>(ut a).isSome) (fun (a:Int)=>(ut a).getD ((0:Int),(0:Int))) none (MT.mk jb 221 3 217 [CK.i ja] false [CK.i jq,CK.i jq] true) uq (fun (a:Int)=>(ut a).isSome) (fun (a:Int)=>(ut a).getD ((0:Int),(0:Int))) none] W8 (vc:=[Fits ja (ui+(1:Int))]) (hv:=W28)
  ·exact Q4 (v6 sh lk gs L cN F) (ue,uj,uh) ((ue+(1:Int),uq,ut)) (by dsimp only [v6];have q:=uc h2;have z:=hJ1.1;omega) (by have q:=uc h2;have z0:=hJ1.1;have T:=hT ue z0 q;have zl:=hL.1;have z:=hL.2 ue.toNat (by omega);have z1:=congrArg j5 z.1;have z2:=Qm (gs.getD ue.toNat ub).nodes;have z3:=z.2.1;have z4:=T.hN;(try have q4:=uc h4);(try have z5:=hJ3.1);(try have z6:=hJ3.2.1);(try have z7:=hJ3.2.2.1);(try have z8:=hJ1.2.2.1);have w:=ud h4;exact ⟨by omega,by omega,by show uq≤_;dsimp only;omega,hJ3.2.2.2⟩) [] [8] [MpEq (MT.mk jb 221 3 217 [CK.i ja] false [CK.i jq,CK.i jq] true) uq (fun (a:Int)=>(ut a).isSome) (fun (a:Int)=>(ut a).getD ((0:Int),(0:Int))) none (MT.mk jb 221 3 217 [CK.i ja] false [CK.i jq,CK.i jq] true) uq (fun (a:Int)=>(ut a).isSome) (fun (a:Int)=>(ut a).getD ((0:Int),(0:Int))) none] W8 (vc:=[Fits ja (ue+(1:Int))]) (hv:=W28)
 ·exact Yh [] [0] [MpEq MTu uj (fun (a:Int)=>(uh a).isSome) (fun (a:Int)=>(uh a).getD ((0:Int),(0:Int))) none (MT.mk jb 221 3 217 [CK.i ja] false [CK.i jq,CK.i jq] true) uj (fun (a:Int)=>(uh a).isSome) (fun (a:Int)=>(uh a).getD ((0:Int),(0:Int))) none] W152 (res:=_) (post:=_) (hS:=⟨(uj,uh),(by have q:=ud h2;have z:=hJ1.2.1;have z1:=hJ1.1;have z2:=hJ1.2.2.1;exact ⟨by show uj≤_;omega,hJ1.2.2.2⟩),rfl,rfl⟩)
theorem Qpd (sh lk:List Dcl) (gs:List Grf) (hs:zx sh) (hl:zx lk) (hg:zM gs) (hw:UnitW gs) (h0:(chkU sh lk gs).1=0):Ctr jb 162 [Dcl.rowR sh,Dcl.rowR lk,Grf.rowR gs] [zbC]
 (DetE (fun y:Nat×UF=>UseQ y.2) (fun _=>.tup [(false,[.h 3]),zc1]) (fun y=>[.dead,.dead,.dead,zat y])):=by
 refine Ctr.intro [] Tryz.func162 K K ?_
 refine Qn Q77 (Qnf sh lk gs W69 W69 W69 W69 W69) [] ?_
 rintro ue hY1
 try dsimp only at hY1
 refine tz [9,3,2,1] ?_
 refine Q0 (!decide ((0:Int)=(0:Int))) (fun h2=>?_) (fun h2=>?_)
 ·exact absurd h2 W79
 ·refine tz [4,3,2,1] ?_
  refine Qn Q86 (Qpc sh lk gs ue W69 W69 W69 0 (fun x=>none) W69 W69) [0,1,2,4,6,5] ?_ [8] [MpEq MTu 0 (fun (a:Int)=>false) (fun (a:Int)=>((0:Int),(0:Int))) none zbp 0 (fun x=>false) (fun x=>KA.zero [CK.i jq,CK.i jq]) none] W8 (vc:=[zbp.P=jb,zbp.Ok]) (hv:=(by simp only [Conj,Fits,Q8,Q9,Qa,Qb,News.len,maxLen]<;>(repeat' (first | apply jo | intro _))<;>first | rfl | exact Q62 | grind | (simp only [BL] at *;omega)))
  rintro ⟨ui,uq⟩ hY3
  try dsimp only at hY3
  exact Q2 [0,1,2,5] [0] [MpEq MTu ui (zco uq) (zcg uq) none MTu ui (zco uq) (zcg uq) none] W152 (res:=_) (post:=_) (hS:=⟨(ui,uq),hY3.2,rfl,rfl⟩)
def v7 (X:Ext) (sh:List Dcl) (lk:List Dcl) (gs:List Grf) (ue:Nat) (uj:Int→Option (Int×Int)):Lp (Int×List Cls):=⟨fun x=>{ N:=34,fr:=[se 21 (C.i .i64 x.1),se 20 (zcr sh),se 8 (C.h 6),se 6 (C.h 5),se 5 (C.i .i64 0),zam,se 1 (C.fn 155 false [])],rg:=[rowOf 3 (·.tc) sh,rowOf 3 (·.tc) lk,rowOf 4 (·.tc) gs,Reg.froz X,zH,Reg.mp zbp ue (fun a=>(uj a).isSome) (fun a=>(uj a).getD zb8) none]++[Cls.ownR x.2],wr:=[] },fun x=>0≤x.1∧x.1≤(sh.length:Int)∧x.2.length=x.1.toNat,fun x=>((sh.length:Int)-x.1).toNat⟩
theorem Qpe (X:Ext) (hX:TabX X) (sh lk:List Dcl) (gs:List Grf) (hs:zx sh) (hl:zx lk) (hg:zM gs) (hw:UnitW gs) (h0:(chkU sh lk gs).1=0):Ctr jb 154 [Dcl.rowR sh,Dcl.rowR lk,Grf.rowR gs,.froz X] [zbC,.c (.fn 155 false [])]
 (DetE (fun C:List Cls=>C.length=sh.length) (fun _=>.tup [(false,[.h 4]),zc1]) (fun C=>[.dead,.dead,.dead,.dead,Cls.ownR C])):=by
 refine Ctr.intro [] Tryz.func154 K K ?_
 refine Qn Q85 (Qpd sh lk gs W124 W124 W124 W124 W124) [] ?_
 rintro ⟨ue,uj⟩ hY1
 try dsimp only at hY1
 refine tz [12,5,4,2,1] ?_
 refine Q0 (!decide ((0:Int)=(0:Int))) (fun h2=>?_) (fun h2=>?_)
 ·exact absurd h2 W79
 ·refine tz [6,5,4,2,1] ?_
  refine Q7 (v7 X sh lk gs ue uj) (((0:Int),[])) (⟨jE _,by omega,rfl⟩) ?_ [0,1,2,3,4,5,1000006] [7,8] [MpEq zbp ue (zco uj) (zcg uj) none zbp ue (zco uj) (zcg uj) none,(0:Nat)=0] W8
  rintro ⟨ui,uq⟩ hJ3
  dsimp only [v7] at hJ3
  refine tz [21,20,8,6,5,4,1] ?_
  refine Q0 (decide (ui<(↑sh.length:Int))) (fun h4=>?_) (fun h4=>?_)
  ·refine tz [21,20,8,6,5,4,1] ?_
   refine Qn Q3b (Qne X W124 (((uj ui).getD zb8).fst) (((uj ui).getD zb8).snd) W124 W124) [3] ?_ (vc:=[Fits ja ui,zbp.P=jb]) (hv:=W118)
   rintro ⟨ul,ux,uy⟩ hY5
   try dsimp only at hY5
   exact Q4 (v7 X sh lk gs ue uj) (ui,uq) ((ui+(1:Int),uq++[Cls.mk ul ux uy])) (by dsimp only [v7];have q:=uc h4;have z:=hJ3.1;omega) (by have q:=uc h4;have z:=hJ3.1;have z2:=hJ3.2.2;exact ⟨by omega,by omega,by rw [jm,km];show _=(ui+1).toNat;omega⟩) [0,1,2,3,4,5,8] [7,8,9,10,11,12] [MpEq zbp ue (zco uj) (zcg uj) none zbp ue (zco uj) (zcg uj) none,(uq++[Cls.mk ul ux uy]).length=uq.length+1,∀ (i:Nat),i<(uq++[Cls.mk ul ux uy]).length→i≠uq.length→((uq++[Cls.mk ul ux uy]).getD i ub).tc=(uq.getD i ub).tc,((uq++[Cls.mk ul ux uy]).getD uq.length ub).tc 0=TC.val (jg jl ul),((uq++[Cls.mk ul ux uy]).getD uq.length ub).tc 1=zch ux,((uq++[Cls.mk ul ux uy]).getD uq.length ub).tc 2=zch uy] W8 (vc:=[uq.length+1≤maxLen,(uq.length+1) * 24≤140737488355328,Fits ja (ui+(1:Int))]) (hv:=W118)
  ·exact Q2 [0,1,2,3,6] (res:=_) (post:=_) (hS:=⟨uq,(by have q:=ud h4;have z:=hJ3.1;have z1:=hJ3.2.1;have z2:=hJ3.2.2;show uq.length=_;omega),rfl,rfl⟩)
theorem Qhx (X:Ext) (hX:TabX X) (sh lk:List Dcl) (gs:List Grf) (hs:zx sh) (hl:zx lk) (hg:zM gs) (hw:UnitW gs) (h0:(chkU sh lk gs).1=0):Ctr jb 143 [Dcl.rowR sh,Dcl.rowR lk,Grf.rowR gs,.froz X] [zbC]
 (DetE (fun C:List Cls=>C.length=sh.length) (fun _=>.tup [(false,[.h 4]),zc1]) (fun C=>[.dead,.dead,.dead,.dead,Cls.ownR C])):=by
 refine Ctr.intro [] Tryz.func143 K K ?_
 refine Qn Q81 (Qpe X W49 sh lk gs W49 W49 W49 W49 W49) [] ?_
 rintro ue hY1
 try dsimp only at hY1
 exact Q2 [0,1,2,3,5] (res:=_) (post:=_) (hS:=⟨ue,hY1,rfl,rfl⟩)
abbrev zcp:Bool × Bool × Bool × Bool → SV:=(fun y=>.agg [.b y.1,.b y.2.1,.b y.2.2.1,.b y.2.2.2])
abbrev zcU:Bool × Bool × Bool × Bool → Prop:=(fun y:Bool×Bool×Bool×Bool=>True)
theorem Q8r (b:Bool):Ctr jb 156 [] [.c (.b b)]
 (DetE zcU zcp (fun _=>[])):=by
 refine Ctr.intro [] Tryz.func156 K K ?_
 exact Q2 (res:=_) (post:=_) (hS:=⟨(false,false,true,false),trivial,rfl,rfl⟩)
theorem Qng (b:Bool):Ctr jb 157 [] [.c (.b b)]
 (DetE zcU zcp (fun _=>[])):=by
 refine Ctr.intro [] Tryz.func157 K K ?_
 exact Q2 (res:=_) (post:=_) (hS:=⟨(b,false,false,false),trivial,rfl,rfl⟩)
theorem Qnh (b:Bool):Ctr jb 158 [] [.c (.b b)]
 (DetE zcU zcp (fun _=>[])):=by
 refine Ctr.intro [] Tryz.func158 K K ?_
 exact Q2 (res:=_) (post:=_) (hS:=⟨(true,false,false,false),trivial,rfl,rfl⟩)
theorem Qni (b:Bool):Ctr jb 159 [] [.c (.b b)]
 (DetE zcU zcp (fun _=>[])):=by
 refine Ctr.intro [] Tryz.func159 K K ?_
 exact Q2 (res:=_) (post:=_) (hS:=⟨(false,b,false,false),trivial,rfl,rfl⟩)
theorem Qpf :Ctr jb 144 [] []
 (Det (.agg [.v .nilFunc,.v .nilFunc,.fn 159 false [],.fn 157 false [],.fn 156 false [],.fn 156 false [],.fn 158 false [],.fn 156 false [],.v .nilFunc,.v .nilFunc]) []):=by
 refine Ctr.intro [] Tryz.func144 K K ?_
 exact Q2
def v8 (g:Grf) (l:List Int):Lp (Int×Int×Bool):=⟨fun x=>{ N:=26,fr:=[se 10 (C.i .i64 x.1),se 9 (C.i .i64 (↑l.length:Int)),se 8 (C.h 1),se 5 (C.i .i64 x.2.1),se 4 (C.b x.2.2),zav],rg:=[rowOf 13 (·.tc) g.nodes,IntRow l,ze g],wr:=[] },fun x=>FenJ (g.nodes.length:Int) l x.1 x.2.1,fun x=>((l.length:Int)-x.1).toNat⟩
theorem Qcd (g:Grf) (l:List Int) (hl:l.length≤9223372036854775807):Ctr jb 94 [zV g,IntRow l] [.agg (g.cs 0),.c (.h 1)]
 (Det (.c (.b (fenB (g.nodes.length:Int) l))) [.dead,.dead]):=by
 refine Ctr.intro [] Tryz.func94 K K ?_
 refine Q7 (v8 g l) (((0:Int),(-1:Int),false)) (FenJ.start _ _) ?_
 rintro ⟨ue,uj,uh⟩ hJ1
 dsimp only [v8] at hJ1
 refine tz [10,9,8,5,4,2] ?_
 refine Q0 (decide (ue<(↑l.length:Int))) (fun h2=>?_) (fun h2=>?_)
 ·refine tz [10,9,8,5,4,2] ?_
  refine Q0 (decide (l.getD ue.toNat 0≤uj)||decide ((↑g.nodes.length:Int)≤l.getD ue.toNat 0)) (fun h3=>?_) (fun h3=>?_) (vc:=(zcb ue l)) (hv:=W133)
  ·exact Q2 [] [0] [fenB (↑g.nodes.length:Int) l=false] W171
  ·exact Q4 (v8 g l) (ue,uj,uh) ((ue+(1:Int),l.getD ue.toNat 0,uh)) (by dsimp only [v8];have q:=uc h2;have z:=hJ1.i0;omega) (hJ1.next (uc h2) h3) (vc:=(zb4 ue)) (hv:=W133)
 ·exact Q2 [] [0] [fenB (↑g.nodes.length:Int) l=true] W171
theorem Qfl (n:Nod):Ctr jb 153 [] [.agg n.cs]
 (Det (.c (.h 0)) [IntOwn (flrL n)]):=by
 refine Ctr.intro [] Tryz.func153 K K ?_
 refine Q0 (decide (n.kind=(9:Int))) (fun h1=>?_) (fun h1=>?_)
 ·rw [Qdj h1]
  exact Q2 [1000000] [0] [(0:Nat)=0] W51
 ·refine tz [4,2,1] ?_
  refine Q0 (decide (n.kind=(8:Int))) (fun h2=>?_) (fun h2=>?_)
  ·rw [Qdk h1 h2]
   exact Q2 [1] [0,1] (zbG n) W51
  ·rw [Qdl h1 h2]
   exact Q2 [1] [0,1,2] (zbI n) W51
theorem Qkf (sh lk:List Dcl) (gs:List Grf) (hs:zx sh) (hl:zx lk) (hg:zM gs) (hw:UnitW gs) (h0:(chkU sh lk gs).1=0) (t:Int):Ctr jb 140 [Dcl.rowR sh,Dcl.rowR lk,Grf.rowR gs] [zbC,zbK t]
 (Det (.c (.i .i64 (if t<0∨(gs.length:Int)≤t then 2 else 0))) za7):=by
 refine Ctr.intro [] Tryz.func140 K K ?_
 refine Q3 J7 (Q2w sh lk gs W49 W49 W49 W49) [] ?_
 refine tz [10,4,2,1] ?_
 refine Q0 (!decide ((chkU sh lk gs).fst=(0:Int))) (fun h1=>?_) (fun h1=>?_)
 ·exact (show False from by rw [h0] at h1;simp at h1).elim
 ·refine tz [4,2,1] ?_
  refine Q0 (decide (t<(0:Int))||decide ((↑gs.length:Int)≤t)) (fun h2=>?_) (fun h2=>?_)
  ·exact Q2 [] [0] [(if t<(0:Int)∨(↑gs.length:Int)≤t then (2:Int) else (0:Int))=(2:Int)] W146
  ·exact Q2 [] [0] [(if t<(0:Int)∨(↑gs.length:Int)≤t then (2:Int) else (0:Int))=(0:Int)] W146
abbrev zk:Reg:=Reg.box 203 [C.v kA,C.v kA,C.fn 159 false [],C.fn 157 false [],C.fn 156 false [],C.fn 156 false [],C.fn 158 false [],C.fn 156 false [],C.v kA,C.v kA]
abbrev zn (y0:List Grf) (y1:Int):Reg:=Reg.box 182 [C.v (jG (y0.getD y1.toNat ub).name),C.i .i64 (y0.getD y1.toNat ub).locals,C.i .i64 (y0.getD y1.toNat ub).slots,C.h 5,C.h 8]
abbrev zaP:En:=se 6 (C.v (Value.pointer none))
def uQ (X:Ext) (sh:List Dcl) (lk:List Dcl) (gs:List Grf) (t:Int) (fe:List Int) (ue:List Cls):Lp (Int×List Mrk):=⟨fun x=>{ N:=112,fr:=[se 46 (C.i .i64 x.1),{ slot:=45,g:=[],sv:=SV.c (C.i .i64 (↑(rchL (gs.getD t.toNat ub).nodes).length:Int)) },se 44 (C.h 11),se 10 (C.p 10 0),se 9 (C.p 9 0),se 7 (C.h 7),zaP,se 2 (C.h 4)],rg:=[rowOf 3 (·.tc) sh,rowOf 3 (·.tc) lk,zj gs t,Reg.froz X,IntRow fe,zr gs t,zH,ownOf 207 3 (·.tc) ue,Mrk.ownR (x.2),zn gs t,zk,ownOf 4 1 (·.tc) (rchL (gs.getD t.toNat ub).nodes)],wr:=[] },fun x=>0≤x.1∧x.2.length=(gs.getD t.toNat ub).nodes.length,fun x=>(((gs.getD t.toNat ub).nodes.length:Int)-x.1).toNat⟩
def v9 (X:Ext) (sh:List Dcl) (lk:List Dcl) (gs:List Grf) (t:Int) (fe:List Int) (ue:List Cls) (un:List Mrk):Lp (Int×List Mrk):=⟨fun x=>{ N:=112,fr:=[se 99 (C.i .i64 x.1),se 98 (C.i .i64 (↑fe.length:Int)),se 97 (C.h 4),se 9 (C.p 9 0),zaP],rg:=[rowOf 3 (·.tc) sh,rowOf 3 (·.tc) lk,zj gs t,Reg.froz X,IntRow fe,zr gs t,zH,ownOf 207 3 (·.tc) ue,Mrk.ownR (x.2),zn gs t,zk,ownOf 4 1 (·.tc) (rchL (gs.getD t.toNat ub).nodes)],wr:=[] },fun x=>0≤x.1∧x.2.length=(gs.getD t.toNat ub).nodes.length,fun x=>((fe.length:Int)-x.1).toNat⟩
abbrev zbc (y0:List Grf) (y1:Int):En:=En.mk 45 [] (SV.c (C.i .i64 (↑(rchL (y0.getD y1.toNat ub).nodes).length:Int)))
abbrev zi (y0:List Grf) (y1 y2:Int):List En:=[se 13 (C.p 12 0),En.mk 12 [] (SV.c (C.b ((rchL (y0.getD y1.toNat ub).nodes).getD y2.toNat ub).b)),se 11 (C.i .i64 y2),se 46 (C.i .i64 y2),zbc y0 y1,se 44 (C.h 11),se 10 (C.p 10 0),se 9 (C.p 9 0),se 7 (C.h 7),zaP,se 2 (C.h 4)]
abbrev zG (y0:List Grf) (y1 y2:Int):Reg:=Reg.box 101 [C.i .u8 ((y0.getD y1.toNat ub).nodes.getD y2.toNat ub).kind,C.i .u8 ((y0.getD y1.toNat ub).nodes.getD y2.toNat ub).op,C.i .i64 ((y0.getD y1.toNat ub).nodes.getD y2.toNat ub).slot,C.i .i64 ((y0.getD y1.toNat ub).nodes.getD y2.toNat ub).thing,C.b ((y0.getD y1.toNat ub).nodes.getD y2.toNat ub).a.slotted,C.i .i64 ((y0.getD y1.toNat ub).nodes.getD y2.toNat ub).a.slot,C.i .i64 ((y0.getD y1.toNat ub).nodes.getD y2.toNat ub).a.word,C.b ((y0.getD y1.toNat ub).nodes.getD y2.toNat ub).b.slotted,C.i .i64 ((y0.getD y1.toNat ub).nodes.getD y2.toNat ub).b.slot,C.i .i64 ((y0.getD y1.toNat ub).nodes.getD y2.toNat ub).b.word,C.i .i64 ((y0.getD y1.toNat ub).nodes.getD y2.toNat ub).next,C.i .i64 ((y0.getD y1.toNat ub).nodes.getD y2.toNat ub).els,C.i .i64 ((y0.getD y1.toNat ub).nodes.getD y2.toNat ub).origin]
abbrev zac (y0:List Grf) (y1 y2:Int):List En:=[En.mk 12 [] (SV.c (C.b ((rchL (y0.getD y1.toNat ub).nodes).getD y2.toNat ub).b)),se 11 (C.i .i64 y2),se 46 (C.i .i64 y2),zbc y0 y1,se 44 (C.h 11),se 10 (C.p 10 0),se 9 (C.p 9 0),se 7 (C.h 7),zaP,se 2 (C.h 4)]
theorem Qec (X:Ext) (hX:TabX X) (sh lk:List Dcl) (gs:List Grf) (hs:zx sh) (hl:zx lk) (hg:zM gs) (hw:UnitW gs) (h0:(chkU sh lk gs).1=0) (t:Int) (ht:0≤t∧t<(gs.length:Int)) (fe:List Int) (hfe:∀ x∈fe,0≤x∧x<((gs.getD t.toNat ub).nodes.length:Int)) (hfl:fe.length≤4294967296):Ctr jb 125 [Dcl.rowR sh,Dcl.rowR lk,Grf.rowR gs,.froz X,IntRow fe] [.agg [.h 0,.h 1,.h 2],.c (.i .i64 t),.c (.h 4)]
 (DetE (fun M:List Mrk=>M.length=(gs.getD t.toNat ub).nodes.length) (fun _=>.c (.p 5 0)) (fun M=>[.dead,.dead,.dead,.dead,.dead,Reg.box 182 [C.v (jG (gs.getD t.toNat ub).name),C.i .i64 (gs.getD t.toNat ub).locals,C.i .i64 (gs.getD t.toNat ub).slots,C.h 6,C.h 7],Nod.rowR (gs.getD t.toNat ub).nodes,Mrk.ownR M])):=by
 refine Ctr.intro [] Tryz.func125 K K ?_
 refine Y4 2 (t.toNat) ?_ (vc:=[t.toNat<gs.length]) (hv:=W4)
 refine Qn Q51 (Qhx X W70 sh lk gs W70 W70 W70 W70 W70) [] ?_
 rintro ue hY1
 try dsimp only at hY1
 refine tz [21,6,3,1,2] ?_
 refine Q3 Qbd (Qpf) [] ?_ (vc:=[(0:Int)≤t,t<(↑gs.length:Int),t.toNat=t.toNat,(0:Int)≤t,t<(↑gs.length:Int),t.toNat=t.toNat,(0:Int)≤(↑(gs.getD t.toNat ub).nodes.length:Int),(↑(gs.getD t.toNat ub).nodes.length:Int)≤(↑(gs.getD t.toNat ub).nodes.length:Int),(↑(gs.getD t.toNat ub).nodes.length:Int) * (4:Int)≤(140737488355328:Int),(↑(gs.getD t.toNat ub).nodes.length:Int)≤(↑maxLen:Int),(0:Int)≤(↑(gs.getD t.toNat ub).nodes.length:Int),(↑(gs.getD t.toNat ub).nodes.length:Int)≤(↑(gs.getD t.toNat ub).nodes.length:Int),(↑(gs.getD t.toNat ub).nodes.length:Int) * (4:Int)≤(140737488355328:Int),(↑(gs.getD t.toNat ub).nodes.length:Int)≤(↑maxLen:Int)]) (hv:=W4)
 refine tz [39,9,7,6,2] ?_
 refine Q3 Qw (Yd (gs.getD t.toNat ub) W70 W70 W70) [5] ?_
 refine tz [44,10,9,7,6,2] ?_
 refine Q7 (uQ X sh lk gs t fe ue) (((0:Int),jf (gs.getD t.toNat ub).nodes.length (Mrk.mk false false false false))) (⟨jE _,jL⟩) ?_ [] [17,18] [(jf (gs.getD t.toNat ub).nodes.length (Mrk.mk false false false false)).length=(gs.getD t.toNat ub).nodes.length,∀ (i:Nat),i<(jf (gs.getD t.toNat ub).nodes.length (Mrk.mk false false false false)).length→((jf (gs.getD t.toNat ub).nodes.length (Mrk.mk false false false false)).getD i ub).tc=fun j=>valT (Value.agg #[jC false,jC false,jC false,jC false]).cells.toList j] W13
 rintro ⟨uf,un⟩ hJ2
 dsimp only [uQ] at hJ2
 refine tz [46,45,44,10,9,7,6,2] ?_
 refine Q0 (decide (uf<(↑(rchL (gs.getD t.toNat ub).nodes).length:Int))) (fun h3=>?_) (fun h3=>?_)
 ·refine RunF.cut (fun _:Unit=>St.mk 112 (zac gs t uf) [rowOf 3 (·.tc) sh,rowOf 3 (·.tc) lk,zj gs t,Reg.froz X,IntRow fe,zr gs t,zH,ownOf 207 3 (·.tc) ue,ownOf 186 4 (·.tc) un,zn gs t,zk,ownOf 4 1 (·.tc) (rchL (gs.getD t.toNat ub).nodes)] []) (fun _=>True) ?_ ?_
  ·exact tTo (fun x=>St.mk 112 (zac gs t uf) [rowOf 3 (·.tc) sh,rowOf 3 (·.tc) lk,zj gs t,Reg.froz X,IntRow fe,zr gs t,zH,ownOf 207 3 (·.tc) ue,ownOf 186 4 (·.tc) un,zn gs t,zk,ownOf 4 1 (·.tc) (rchL (gs.getD t.toNat ub).nodes)] []) (fun x=>True) () trivial (vc:=[(0:Int)≤uf,uf<(↑(rchL (gs.getD t.toNat ub).nodes).length:Int),uf.toNat<(rchL (gs.getD t.toNat ub).nodes).length]) (hv:=W4)
  ·rintro ⟨⟩ _
   refine RunF.cut (fun _:Unit=>St.mk 112 (zi gs t uf) [rowOf 3 (·.tc) sh,rowOf 3 (·.tc) lk,zj gs t,Reg.froz X,IntRow fe,zr gs t,zH,ownOf 207 3 (·.tc) ue,ownOf 186 4 (·.tc) un,zn gs t,zk,ownOf 4 1 (·.tc) (rchL (gs.getD t.toNat ub).nodes),zG gs t uf] []) (fun _=>True) ?_ ?_
   ·exact tTo (fun x=>St.mk 112 (zi gs t uf) [rowOf 3 (·.tc) sh,rowOf 3 (·.tc) lk,zj gs t,Reg.froz X,IntRow fe,zr gs t,zH,ownOf 207 3 (·.tc) ue,ownOf 186 4 (·.tc) un,zn gs t,zk,ownOf 4 1 (·.tc) (rchL (gs.getD t.toNat ub).nodes),zG gs t uf] []) (fun x=>True) () trivial (vc:=[(0:Int)≤uf,uf<(↑(gs.getD t.toNat ub).nodes.length:Int),uf.toNat<(gs.getD t.toNat ub).nodes.length]) (hv:=W4)
   ·rintro ⟨⟩ _
    rcases (show ((gs.getD t.toNat ub).nodes.getD uf.toNat ub).kind=(1:Int)∨((gs.getD t.toNat ub).nodes.getD uf.toNat ub).kind=(2:Int)∨((gs.getD t.toNat ub).nodes.getD uf.toNat ub).kind=(3:Int)∨((gs.getD t.toNat ub).nodes.getD uf.toNat ub).kind=(4:Int)∨((gs.getD t.toNat ub).nodes.getD uf.toNat ub).kind=(5:Int)∨((gs.getD t.toNat ub).nodes.getD uf.toNat ub).kind=(6:Int)∨((gs.getD t.toNat ub).nodes.getD uf.toNat ub).kind=(7:Int)∨((gs.getD t.toNat ub).nodes.getD uf.toNat ub).kind=(8:Int)∨((gs.getD t.toNat ub).nodes.getD uf.toNat ub).kind=(9:Int) from (by have T:=Yr h0 hw ht.1 ht.2;have q:=uc h3;have z:=hJ2.1;have z1:=Qm (gs.getD t.toNat ub).nodes;have z2:=T.hk uf.toNat (by omega);omega)) with hs4 | hs4 | hs4 | hs4 | hs4 | hs4 | hs4 | hs4 | hs4
    ·refine tWk (St.mk 112 (zi gs t uf) [rowOf 3 (·.tc) sh,rowOf 3 (·.tc) lk,zj gs t,Reg.froz X,IntRow fe,zr gs t,zH,ownOf 207 3 (·.tc) ue,ownOf 186 4 (·.tc) un,zn gs t,zk,ownOf 4 1 (·.tc) (rchL (gs.getD t.toNat ub).nodes),Reg.box 101 [C.i .u8 1,C.i .u8 ((gs.getD t.toNat ub).nodes.getD uf.toNat ub).op,C.i .i64 ((gs.getD t.toNat ub).nodes.getD uf.toNat ub).slot,C.i .i64 ((gs.getD t.toNat ub).nodes.getD uf.toNat ub).thing,C.b ((gs.getD t.toNat ub).nodes.getD uf.toNat ub).a.slotted,C.i .i64 ((gs.getD t.toNat ub).nodes.getD uf.toNat ub).a.slot,C.i .i64 ((gs.getD t.toNat ub).nodes.getD uf.toNat ub).a.word,C.b ((gs.getD t.toNat ub).nodes.getD uf.toNat ub).b.slotted,C.i .i64 ((gs.getD t.toNat ub).nodes.getD uf.toNat ub).b.slot,C.i .i64 ((gs.getD t.toNat ub).nodes.getD uf.toNat ub).b.word,C.i .i64 ((gs.getD t.toNat ub).nodes.getD uf.toNat ub).next,C.i .i64 ((gs.getD t.toNat ub).nodes.getD uf.toNat ub).els,C.i .i64 ((gs.getD t.toNat ub).nodes.getD uf.toNat ub).origin]] []) ?_ [] [28] [(1:Int)=((gs.getD t.toNat ub).nodes.getD uf.toNat ub).kind] W35
     exact Q4 (uQ X sh lk gs t fe ue) (uf,un) ((uf+(1:Int),un)) W58 W67 (vc:=[(0:Int)≤(1:Int),(1:Int)<(10:Int),Fits ja (uf+(1:Int))]) (hv:=W4)
    ·refine tWk (St.mk 112 (zi gs t uf) [rowOf 3 (·.tc) sh,rowOf 3 (·.tc) lk,zj gs t,Reg.froz X,IntRow fe,zr gs t,zH,ownOf 207 3 (·.tc) ue,ownOf 186 4 (·.tc) un,zn gs t,zk,ownOf 4 1 (·.tc) (rchL (gs.getD t.toNat ub).nodes),Reg.box 101 [C.i .u8 2,C.i .u8 ((gs.getD t.toNat ub).nodes.getD uf.toNat ub).op,C.i .i64 ((gs.getD t.toNat ub).nodes.getD uf.toNat ub).slot,C.i .i64 ((gs.getD t.toNat ub).nodes.getD uf.toNat ub).thing,C.b ((gs.getD t.toNat ub).nodes.getD uf.toNat ub).a.slotted,C.i .i64 ((gs.getD t.toNat ub).nodes.getD uf.toNat ub).a.slot,C.i .i64 ((gs.getD t.toNat ub).nodes.getD uf.toNat ub).a.word,C.b ((gs.getD t.toNat ub).nodes.getD uf.toNat ub).b.slotted,C.i .i64 ((gs.getD t.toNat ub).nodes.getD uf.toNat ub).b.slot,C.i .i64 ((gs.getD t.toNat ub).nodes.getD uf.toNat ub).b.word,C.i .i64 ((gs.getD t.toNat ub).nodes.getD uf.toNat ub).next,C.i .i64 ((gs.getD t.toNat ub).nodes.getD uf.toNat ub).els,C.i .i64 ((gs.getD t.toNat ub).nodes.getD uf.toNat ub).origin]] []) ?_ [] [28] [(2:Int)=((gs.getD t.toNat ub).nodes.getD uf.toNat ub).kind] W35
     refine tz [13,12,11,46,45,44,10,9,7,6,2] ?_
     refine Qn Q84 (Qni ((decide ((2:Int)=(3:Int))||decide ((2:Int)=(2:Int)))&&decide ((ue.getD ((gs.getD t.toNat ub).nodes.getD uf.toNat ub).thing.toNat ub).kind=(3:Int)))) [] ?_ (vc:=[(0:Int)≤(2:Int),(2:Int)<(10:Int),(decide ((2:Int)=(3:Int))||decide ((2:Int)=(2:Int)))=true→(0:Int)≤((gs.getD t.toNat ub).nodes.getD uf.toNat ub).thing,(decide ((2:Int)=(3:Int))||decide ((2:Int)=(2:Int)))=true→((gs.getD t.toNat ub).nodes.getD uf.toNat ub).thing<(↑ue.length:Int),(decide ((2:Int)=(3:Int))||decide ((2:Int)=(2:Int)))=true→((gs.getD t.toNat ub).nodes.getD uf.toNat ub).thing.toNat<ue.length]) (hv:=W4)
     rintro ⟨ul,ux,uy,uB⟩ hY5
     try dsimp only at hY5
     refine tz [84,12,11,46,45,44,10,9,7,6,2] ?_
     refine Q0 (!((rchL (gs.getD t.toNat ub).nodes).getD uf.toNat ub).b) (fun h6=>?_) (fun h6=>?_)
     ·exact Q4 (uQ X sh lk gs t fe ue) (uf,un) ((uf+(1:Int),un.set uf.toNat (Mrk.mk false false uy uB))) W58 W67 [] [17,18] [(un.set uf.toNat (Mrk.mk false false uy uB)).length=un.length,∀ (i:Nat),i<(un.set uf.toNat (Mrk.mk false false uy uB)).length→((un.set uf.toNat (Mrk.mk false false uy uB)).getD i ub).tc=updT (fun i=>(un.getD i ub).tc) uf.toNat 0 [jC false,jC false,jC uy,jC uB] i] W13 (vc:=[(0:Int)≤uf,uf<(↑un.length:Int),uf.toNat<un.length,Fits ja (uf+(1:Int))]) (hv:=W4)
     ·exact Q4 (uQ X sh lk gs t fe ue) (uf,un) ((uf+(1:Int),un.set uf.toNat (Mrk.mk ul ux uy uB))) W58 W67 [] [17,18] [(un.set uf.toNat (Mrk.mk ul ux uy uB)).length=un.length,∀ (i:Nat),i<(un.set uf.toNat (Mrk.mk ul ux uy uB)).length→((un.set uf.toNat (Mrk.mk ul ux uy uB)).getD i ub).tc=updT (fun i=>(un.getD i ub).tc) uf.toNat 0 [jC ul,jC ux,jC uy,jC uB] i] W13 (vc:=[(0:Int)≤uf,uf<(↑un.length:Int),uf.toNat<un.length,Fits ja (uf+(1:Int))]) (hv:=W4)
    ·refine tWk (St.mk 112 (zi gs t uf) [rowOf 3 (·.tc) sh,rowOf 3 (·.tc) lk,zj gs t,Reg.froz X,IntRow fe,zr gs t,zH,ownOf 207 3 (·.tc) ue,ownOf 186 4 (·.tc) un,zn gs t,zk,ownOf 4 1 (·.tc) (rchL (gs.getD t.toNat ub).nodes),Reg.box 101 [C.i .u8 3,C.i .u8 ((gs.getD t.toNat ub).nodes.getD uf.toNat ub).op,C.i .i64 ((gs.getD t.toNat ub).nodes.getD uf.toNat ub).slot,C.i .i64 ((gs.getD t.toNat ub).nodes.getD uf.toNat ub).thing,C.b ((gs.getD t.toNat ub).nodes.getD uf.toNat ub).a.slotted,C.i .i64 ((gs.getD t.toNat ub).nodes.getD uf.toNat ub).a.slot,C.i .i64 ((gs.getD t.toNat ub).nodes.getD uf.toNat ub).a.word,C.b ((gs.getD t.toNat ub).nodes.getD uf.toNat ub).b.slotted,C.i .i64 ((gs.getD t.toNat ub).nodes.getD uf.toNat ub).b.slot,C.i .i64 ((gs.getD t.toNat ub).nodes.getD uf.toNat ub).b.word,C.i .i64 ((gs.getD t.toNat ub).nodes.getD uf.toNat ub).next,C.i .i64 ((gs.getD t.toNat ub).nodes.getD uf.toNat ub).els,C.i .i64 ((gs.getD t.toNat ub).nodes.getD uf.toNat ub).origin]] []) ?_ [] [28] [(3:Int)=((gs.getD t.toNat ub).nodes.getD uf.toNat ub).kind] W35
     refine tz [13,12,11,46,45,44,10,9,7,6,2] ?_
     refine Qn Q82 (Qng ((decide ((3:Int)=(3:Int))||decide ((3:Int)=(2:Int)))&&decide ((ue.getD ((gs.getD t.toNat ub).nodes.getD uf.toNat ub).thing.toNat ub).kind=(3:Int)))) [] ?_ (vc:=[(0:Int)≤(3:Int),(3:Int)<(10:Int),(decide ((3:Int)=(3:Int))||decide ((3:Int)=(2:Int)))=true→(0:Int)≤((gs.getD t.toNat ub).nodes.getD uf.toNat ub).thing,(decide ((3:Int)=(3:Int))||decide ((3:Int)=(2:Int)))=true→((gs.getD t.toNat ub).nodes.getD uf.toNat ub).thing<(↑ue.length:Int),(decide ((3:Int)=(3:Int))||decide ((3:Int)=(2:Int)))=true→((gs.getD t.toNat ub).nodes.getD uf.toNat ub).thing.toNat<ue.length]) (hv:=W4)
     rintro ⟨ul,ux,uy,uB⟩ hY5
     try dsimp only at hY5
     refine tz [84,12,11,46,45,44,10,9,7,6,2] ?_
     refine Q0 (!((rchL (gs.getD t.toNat ub).nodes).getD uf.toNat ub).b) (fun h6=>?_) (fun h6=>?_)
     ·exact Q4 (uQ X sh lk gs t fe ue) (uf,un) ((uf+(1:Int),un.set uf.toNat (Mrk.mk false false uy uB))) W58 W67 [] [17,18] [(un.set uf.toNat (Mrk.mk false false uy uB)).length=un.length,∀ (i:Nat),i<(un.set uf.toNat (Mrk.mk false false uy uB)).length→((un.set uf.toNat (Mrk.mk false false uy uB)).getD i ub).tc=updT (fun i=>(un.getD i ub).tc) uf.toNat 0 [jC false,jC false,jC uy,jC uB] i] W13 (vc:=[(0:Int)≤uf,uf<(↑un.length:Int),uf.toNat<un.length,Fits ja (uf+(1:Int))]) (hv:=W4)
     ·exact Q4 (uQ X sh lk gs t fe ue) (uf,un) ((uf+(1:Int),un.set uf.toNat (Mrk.mk ul ux uy uB))) W58 W67 [] [17,18] [(un.set uf.toNat (Mrk.mk ul ux uy uB)).length=un.length,∀ (i:Nat),i<(un.set uf.toNat (Mrk.mk ul ux uy uB)).length→((un.set uf.toNat (Mrk.mk ul ux uy uB)).getD i ub).tc=updT (fun i=>(un.getD i ub).tc) uf.toNat 0 [jC ul,jC ux,jC uy,jC uB] i] W13 (vc:=[(0:Int)≤uf,uf<(↑un.length:Int),uf.toNat<un.length,Fits ja (uf+(1:Int))]) (hv:=W4)
    ·refine tWk (St.mk 112 (zi gs t uf) [rowOf 3 (·.tc) sh,rowOf 3 (·.tc) lk,zj gs t,Reg.froz X,IntRow fe,zr gs t,zH,ownOf 207 3 (·.tc) ue,ownOf 186 4 (·.tc) un,zn gs t,zk,ownOf 4 1 (·.tc) (rchL (gs.getD t.toNat ub).nodes),Reg.box 101 [C.i .u8 4,C.i .u8 ((gs.getD t.toNat ub).nodes.getD uf.toNat ub).op,C.i .i64 ((gs.getD t.toNat ub).nodes.getD uf.toNat ub).slot,C.i .i64 ((gs.getD t.toNat ub).nodes.getD uf.toNat ub).thing,C.b ((gs.getD t.toNat ub).nodes.getD uf.toNat ub).a.slotted,C.i .i64 ((gs.getD t.toNat ub).nodes.getD uf.toNat ub).a.slot,C.i .i64 ((gs.getD t.toNat ub).nodes.getD uf.toNat ub).a.word,C.b ((gs.getD t.toNat ub).nodes.getD uf.toNat ub).b.slotted,C.i .i64 ((gs.getD t.toNat ub).nodes.getD uf.toNat ub).b.slot,C.i .i64 ((gs.getD t.toNat ub).nodes.getD uf.toNat ub).b.word,C.i .i64 ((gs.getD t.toNat ub).nodes.getD uf.toNat ub).next,C.i .i64 ((gs.getD t.toNat ub).nodes.getD uf.toNat ub).els,C.i .i64 ((gs.getD t.toNat ub).nodes.getD uf.toNat ub).origin]] []) ?_ [] [28] [(4:Int)=((gs.getD t.toNat ub).nodes.getD uf.toNat ub).kind] W35
     refine tz [13,12,11,46,45,44,10,9,7,6,2] ?_
     refine Qn Gy (Q8r ((decide ((4:Int)=(3:Int))||decide ((4:Int)=(2:Int)))&&decide ((ue.getD ((gs.getD t.toNat ub).nodes.getD uf.toNat ub).thing.toNat ub).kind=(3:Int)))) [] ?_ [0] [((decide ((4:Int)=(3:Int))||decide ((4:Int)=(2:Int)))&&decide ((ue.getD ((gs.getD t.toNat ub).nodes.getD uf.toNat ub).thing.toNat ub).kind=(3:Int)))=false] W13 (vc:=[(0:Int)≤(4:Int),(4:Int)<(10:Int),(decide ((4:Int)=(3:Int))||decide ((4:Int)=(2:Int)))=true→(0:Int)≤((gs.getD t.toNat ub).nodes.getD uf.toNat ub).thing,(decide ((4:Int)=(3:Int))||decide ((4:Int)=(2:Int)))=true→((gs.getD t.toNat ub).nodes.getD uf.toNat ub).thing<(↑ue.length:Int),(decide ((4:Int)=(3:Int))||decide ((4:Int)=(2:Int)))=true→((gs.getD t.toNat ub).nodes.getD uf.toNat ub).thing.toNat<ue.length]) (hv:=W4)
     rintro ⟨ul,ux,uy,uB⟩ hY5
     try dsimp only at hY5
     refine tz [84,12,11,46,45,44,10,9,7,6,2] ?_
     refine Q0 (!((rchL (gs.getD t.toNat ub).nodes).getD uf.toNat ub).b) (fun h6=>?_) (fun h6=>?_)
     ·exact Q4 (uQ X sh lk gs t fe ue) (uf,un) ((uf+(1:Int),un.set uf.toNat (Mrk.mk false false uy uB))) W58 W67 [] [17,18] [(un.set uf.toNat (Mrk.mk false false uy uB)).length=un.length,∀ (i:Nat),i<(un.set uf.toNat (Mrk.mk false false uy uB)).length→((un.set uf.toNat (Mrk.mk false false uy uB)).getD i ub).tc=updT (fun i=>(un.getD i ub).tc) uf.toNat 0 [jC false,jC false,jC uy,jC uB] i] W13 (vc:=[(0:Int)≤uf,uf<(↑un.length:Int),uf.toNat<un.length,Fits ja (uf+(1:Int))]) (hv:=W4)
     ·exact Q4 (uQ X sh lk gs t fe ue) (uf,un) ((uf+(1:Int),un.set uf.toNat (Mrk.mk ul ux uy uB))) W58 W67 [] [17,18] [(un.set uf.toNat (Mrk.mk ul ux uy uB)).length=un.length,∀ (i:Nat),i<(un.set uf.toNat (Mrk.mk ul ux uy uB)).length→((un.set uf.toNat (Mrk.mk ul ux uy uB)).getD i ub).tc=updT (fun i=>(un.getD i ub).tc) uf.toNat 0 [jC ul,jC ux,jC uy,jC uB] i] W13 (vc:=[(0:Int)≤uf,uf<(↑un.length:Int),uf.toNat<un.length,Fits ja (uf+(1:Int))]) (hv:=W4)
    ·refine tWk (St.mk 112 (zi gs t uf) [rowOf 3 (·.tc) sh,rowOf 3 (·.tc) lk,zj gs t,Reg.froz X,IntRow fe,zr gs t,zH,ownOf 207 3 (·.tc) ue,ownOf 186 4 (·.tc) un,zn gs t,zk,ownOf 4 1 (·.tc) (rchL (gs.getD t.toNat ub).nodes),Reg.box 101 [C.i .u8 5,C.i .u8 ((gs.getD t.toNat ub).nodes.getD uf.toNat ub).op,C.i .i64 ((gs.getD t.toNat ub).nodes.getD uf.toNat ub).slot,C.i .i64 ((gs.getD t.toNat ub).nodes.getD uf.toNat ub).thing,C.b ((gs.getD t.toNat ub).nodes.getD uf.toNat ub).a.slotted,C.i .i64 ((gs.getD t.toNat ub).nodes.getD uf.toNat ub).a.slot,C.i .i64 ((gs.getD t.toNat ub).nodes.getD uf.toNat ub).a.word,C.b ((gs.getD t.toNat ub).nodes.getD uf.toNat ub).b.slotted,C.i .i64 ((gs.getD t.toNat ub).nodes.getD uf.toNat ub).b.slot,C.i .i64 ((gs.getD t.toNat ub).nodes.getD uf.toNat ub).b.word,C.i .i64 ((gs.getD t.toNat ub).nodes.getD uf.toNat ub).next,C.i .i64 ((gs.getD t.toNat ub).nodes.getD uf.toNat ub).els,C.i .i64 ((gs.getD t.toNat ub).nodes.getD uf.toNat ub).origin]] []) ?_ [] [28] [(5:Int)=((gs.getD t.toNat ub).nodes.getD uf.toNat ub).kind] W35
     refine tz [13,12,11,46,45,44,10,9,7,6,2] ?_
     refine Qn Gy (Q8r ((decide ((5:Int)=(3:Int))||decide ((5:Int)=(2:Int)))&&decide ((ue.getD ((gs.getD t.toNat ub).nodes.getD uf.toNat ub).thing.toNat ub).kind=(3:Int)))) [] ?_ [0] [((decide ((5:Int)=(3:Int))||decide ((5:Int)=(2:Int)))&&decide ((ue.getD ((gs.getD t.toNat ub).nodes.getD uf.toNat ub).thing.toNat ub).kind=(3:Int)))=false] W13 (vc:=[(0:Int)≤(5:Int),(5:Int)<(10:Int),(decide ((5:Int)=(3:Int))||decide ((5:Int)=(2:Int)))=true→(0:Int)≤((gs.getD t.toNat ub).nodes.getD uf.toNat ub).thing,(decide ((5:Int)=(3:Int))||decide ((5:Int)=(2:Int)))=true→((gs.getD t.toNat ub).nodes.getD uf.toNat ub).thing<(↑ue.length:Int),(decide ((5:Int)=(3:Int))||decide ((5:Int)=(2:Int)))=true→((gs.getD t.toNat ub).nodes.getD uf.toNat ub).thing.toNat<ue.length]) (hv:=W4)
     rintro ⟨ul,ux,uy,uB⟩ hY5
     try dsimp only at hY5
     refine tz [84,12,11,46,45,44,10,9,7,6,2] ?_
     refine Q0 (!((rchL (gs.getD t.toNat ub).nodes).getD uf.toNat ub).b) (fun h6=>?_) (fun h6=>?_)
     ·exact Q4 (uQ X sh lk gs t fe ue) (uf,un) ((uf+(1:Int),un.set uf.toNat (Mrk.mk false false uy uB))) W58 W67 [] [17,18] [(un.set uf.toNat (Mrk.mk false false uy uB)).length=un.length,∀ (i:Nat),i<(un.set uf.toNat (Mrk.mk false false uy uB)).length→((un.set uf.toNat (Mrk.mk false false uy uB)).getD i ub).tc=updT (fun i=>(un.getD i ub).tc) uf.toNat 0 [jC false,jC false,jC uy,jC uB] i] W13 (vc:=[(0:Int)≤uf,uf<(↑un.length:Int),uf.toNat<un.length,Fits ja (uf+(1:Int))]) (hv:=W4)
     ·exact Q4 (uQ X sh lk gs t fe ue) (uf,un) ((uf+(1:Int),un.set uf.toNat (Mrk.mk ul ux uy uB))) W58 W67 [] [17,18] [(un.set uf.toNat (Mrk.mk ul ux uy uB)).length=un.length,∀ (i:Nat),i<(un.set uf.toNat (Mrk.mk ul ux uy uB)).length→((un.set uf.toNat (Mrk.mk ul ux uy uB)).getD i ub).tc=updT (fun i=>(un.getD i ub).tc) uf.toNat 0 [jC ul,jC ux,jC uy,jC uB] i] W13 (vc:=[(0:Int)≤uf,uf<(↑un.length:Int),uf.toNat<un.length,Fits ja (uf+(1:Int))]) (hv:=W4)
    ·refine tWk (St.mk 112 (zi gs t uf) [rowOf 3 (·.tc) sh,rowOf 3 (·.tc) lk,zj gs t,Reg.froz X,IntRow fe,zr gs t,zH,ownOf 207 3 (·.tc) ue,ownOf 186 4 (·.tc) un,zn gs t,zk,ownOf 4 1 (·.tc) (rchL (gs.getD t.toNat ub).nodes),Reg.box 101 [C.i .u8 6,C.i .u8 ((gs.getD t.toNat ub).nodes.getD uf.toNat ub).op,C.i .i64 ((gs.getD t.toNat ub).nodes.getD uf.toNat ub).slot,C.i .i64 ((gs.getD t.toNat ub).nodes.getD uf.toNat ub).thing,C.b ((gs.getD t.toNat ub).nodes.getD uf.toNat ub).a.slotted,C.i .i64 ((gs.getD t.toNat ub).nodes.getD uf.toNat ub).a.slot,C.i .i64 ((gs.getD t.toNat ub).nodes.getD uf.toNat ub).a.word,C.b ((gs.getD t.toNat ub).nodes.getD uf.toNat ub).b.slotted,C.i .i64 ((gs.getD t.toNat ub).nodes.getD uf.toNat ub).b.slot,C.i .i64 ((gs.getD t.toNat ub).nodes.getD uf.toNat ub).b.word,C.i .i64 ((gs.getD t.toNat ub).nodes.getD uf.toNat ub).next,C.i .i64 ((gs.getD t.toNat ub).nodes.getD uf.toNat ub).els,C.i .i64 ((gs.getD t.toNat ub).nodes.getD uf.toNat ub).origin]] []) ?_ [] [28] [(6:Int)=((gs.getD t.toNat ub).nodes.getD uf.toNat ub).kind] W35
     refine tz [13,12,11,46,45,44,10,9,7,6,2] ?_
     refine Qn Q83 (Qnh ((decide ((6:Int)=(3:Int))||decide ((6:Int)=(2:Int)))&&decide ((ue.getD ((gs.getD t.toNat ub).nodes.getD uf.toNat ub).thing.toNat ub).kind=(3:Int)))) [] ?_ [0] [((decide ((6:Int)=(3:Int))||decide ((6:Int)=(2:Int)))&&decide ((ue.getD ((gs.getD t.toNat ub).nodes.getD uf.toNat ub).thing.toNat ub).kind=(3:Int)))=false] W13 (vc:=[(0:Int)≤(6:Int),(6:Int)<(10:Int),(decide ((6:Int)=(3:Int))||decide ((6:Int)=(2:Int)))=true→(0:Int)≤((gs.getD t.toNat ub).nodes.getD uf.toNat ub).thing,(decide ((6:Int)=(3:Int))||decide ((6:Int)=(2:Int)))=true→((gs.getD t.toNat ub).nodes.getD uf.toNat ub).thing<(↑ue.length:Int),(decide ((6:Int)=(3:Int))||decide ((6:Int)=(2:Int)))=true→((gs.getD t.toNat ub).nodes.getD uf.toNat ub).thing.toNat<ue.length]) (hv:=W4)
     rintro ⟨ul,ux,uy,uB⟩ hY5
     try dsimp only at hY5
     refine tz [84,12,11,46,45,44,10,9,7,6,2] ?_
     refine Q0 (!((rchL (gs.getD t.toNat ub).nodes).getD uf.toNat ub).b) (fun h6=>?_) (fun h6=>?_)
     ·exact Q4 (uQ X sh lk gs t fe ue) (uf,un) ((uf+(1:Int),un.set uf.toNat (Mrk.mk false false uy uB))) W58 W67 [] [17,18] [(un.set uf.toNat (Mrk.mk false false uy uB)).length=un.length,∀ (i:Nat),i<(un.set uf.toNat (Mrk.mk false false uy uB)).length→((un.set uf.toNat (Mrk.mk false false uy uB)).getD i ub).tc=updT (fun i=>(un.getD i ub).tc) uf.toNat 0 [jC false,jC false,jC uy,jC uB] i] W13 (vc:=[(0:Int)≤uf,uf<(↑un.length:Int),uf.toNat<un.length,Fits ja (uf+(1:Int))]) (hv:=W4)
     ·exact Q4 (uQ X sh lk gs t fe ue) (uf,un) ((uf+(1:Int),un.set uf.toNat (Mrk.mk ul ux uy uB))) W58 W67 [] [17,18] [(un.set uf.toNat (Mrk.mk ul ux uy uB)).length=un.length,∀ (i:Nat),i<(un.set uf.toNat (Mrk.mk ul ux uy uB)).length→((un.set uf.toNat (Mrk.mk ul ux uy uB)).getD i ub).tc=updT (fun i=>(un.getD i ub).tc) uf.toNat 0 [jC ul,jC ux,jC uy,jC uB] i] W13 (vc:=[(0:Int)≤uf,uf<(↑un.length:Int),uf.toNat<un.length,Fits ja (uf+(1:Int))]) (hv:=W4)
    ·refine tWk (St.mk 112 (zi gs t uf) [rowOf 3 (·.tc) sh,rowOf 3 (·.tc) lk,zj gs t,Reg.froz X,IntRow fe,zr gs t,zH,ownOf 207 3 (·.tc) ue,ownOf 186 4 (·.tc) un,zn gs t,zk,ownOf 4 1 (·.tc) (rchL (gs.getD t.toNat ub).nodes),Reg.box 101 [C.i .u8 7,C.i .u8 ((gs.getD t.toNat ub).nodes.getD uf.toNat ub).op,C.i .i64 ((gs.getD t.toNat ub).nodes.getD uf.toNat ub).slot,C.i .i64 ((gs.getD t.toNat ub).nodes.getD uf.toNat ub).thing,C.b ((gs.getD t.toNat ub).nodes.getD uf.toNat ub).a.slotted,C.i .i64 ((gs.getD t.toNat ub).nodes.getD uf.toNat ub).a.slot,C.i .i64 ((gs.getD t.toNat ub).nodes.getD uf.toNat ub).a.word,C.b ((gs.getD t.toNat ub).nodes.getD uf.toNat ub).b.slotted,C.i .i64 ((gs.getD t.toNat ub).nodes.getD uf.toNat ub).b.slot,C.i .i64 ((gs.getD t.toNat ub).nodes.getD uf.toNat ub).b.word,C.i .i64 ((gs.getD t.toNat ub).nodes.getD uf.toNat ub).next,C.i .i64 ((gs.getD t.toNat ub).nodes.getD uf.toNat ub).els,C.i .i64 ((gs.getD t.toNat ub).nodes.getD uf.toNat ub).origin]] []) ?_ [] [28] [(7:Int)=((gs.getD t.toNat ub).nodes.getD uf.toNat ub).kind] W35
     refine tz [13,12,11,46,45,44,10,9,7,6,2] ?_
     refine Qn Gy (Q8r ((decide ((7:Int)=(3:Int))||decide ((7:Int)=(2:Int)))&&decide ((ue.getD ((gs.getD t.toNat ub).nodes.getD uf.toNat ub).thing.toNat ub).kind=(3:Int)))) [] ?_ [0] [((decide ((7:Int)=(3:Int))||decide ((7:Int)=(2:Int)))&&decide ((ue.getD ((gs.getD t.toNat ub).nodes.getD uf.toNat ub).thing.toNat ub).kind=(3:Int)))=false] W13 (vc:=[(0:Int)≤(7:Int),(7:Int)<(10:Int),(decide ((7:Int)=(3:Int))||decide ((7:Int)=(2:Int)))=true→(0:Int)≤((gs.getD t.toNat ub).nodes.getD uf.toNat ub).thing,(decide ((7:Int)=(3:Int))||decide ((7:Int)=(2:Int)))=true→((gs.getD t.toNat ub).nodes.getD uf.toNat ub).thing<(↑ue.length:Int),(decide ((7:Int)=(3:Int))||decide ((7:Int)=(2:Int)))=true→((gs.getD t.toNat ub).nodes.getD uf.toNat ub).thing.toNat<ue.length]) (hv:=W4)
     rintro ⟨ul,ux,uy,uB⟩ hY5
     try dsimp only at hY5
     refine tz [84,12,11,46,45,44,10,9,7,6,2] ?_
     refine Q0 (!((rchL (gs.getD t.toNat ub).nodes).getD uf.toNat ub).b) (fun h6=>?_) (fun h6=>?_)
     ·exact Q4 (uQ X sh lk gs t fe ue) (uf,un) ((uf+(1:Int),un.set uf.toNat (Mrk.mk false false uy uB))) W58 W67 [] [17,18] [(un.set uf.toNat (Mrk.mk false false uy uB)).length=un.length,∀ (i:Nat),i<(un.set uf.toNat (Mrk.mk false false uy uB)).length→((un.set uf.toNat (Mrk.mk false false uy uB)).getD i ub).tc=updT (fun i=>(un.getD i ub).tc) uf.toNat 0 [jC false,jC false,jC uy,jC uB] i] W13 (vc:=[(0:Int)≤uf,uf<(↑un.length:Int),uf.toNat<un.length,Fits ja (uf+(1:Int))]) (hv:=W4)
     ·exact Q4 (uQ X sh lk gs t fe ue) (uf,un) ((uf+(1:Int),un.set uf.toNat (Mrk.mk ul ux uy uB))) W58 W67 [] [17,18] [(un.set uf.toNat (Mrk.mk ul ux uy uB)).length=un.length,∀ (i:Nat),i<(un.set uf.toNat (Mrk.mk ul ux uy uB)).length→((un.set uf.toNat (Mrk.mk ul ux uy uB)).getD i ub).tc=updT (fun i=>(un.getD i ub).tc) uf.toNat 0 [jC ul,jC ux,jC uy,jC uB] i] W13 (vc:=[(0:Int)≤uf,uf<(↑un.length:Int),uf.toNat<un.length,Fits ja (uf+(1:Int))]) (hv:=W4)
    ·refine tWk (St.mk 112 (zi gs t uf) [rowOf 3 (·.tc) sh,rowOf 3 (·.tc) lk,zj gs t,Reg.froz X,IntRow fe,zr gs t,zH,ownOf 207 3 (·.tc) ue,ownOf 186 4 (·.tc) un,zn gs t,zk,ownOf 4 1 (·.tc) (rchL (gs.getD t.toNat ub).nodes),Reg.box 101 [C.i .u8 8,C.i .u8 ((gs.getD t.toNat ub).nodes.getD uf.toNat ub).op,C.i .i64 ((gs.getD t.toNat ub).nodes.getD uf.toNat ub).slot,C.i .i64 ((gs.getD t.toNat ub).nodes.getD uf.toNat ub).thing,C.b ((gs.getD t.toNat ub).nodes.getD uf.toNat ub).a.slotted,C.i .i64 ((gs.getD t.toNat ub).nodes.getD uf.toNat ub).a.slot,C.i .i64 ((gs.getD t.toNat ub).nodes.getD uf.toNat ub).a.word,C.b ((gs.getD t.toNat ub).nodes.getD uf.toNat ub).b.slotted,C.i .i64 ((gs.getD t.toNat ub).nodes.getD uf.toNat ub).b.slot,C.i .i64 ((gs.getD t.toNat ub).nodes.getD uf.toNat ub).b.word,C.i .i64 ((gs.getD t.toNat ub).nodes.getD uf.toNat ub).next,C.i .i64 ((gs.getD t.toNat ub).nodes.getD uf.toNat ub).els,C.i .i64 ((gs.getD t.toNat ub).nodes.getD uf.toNat ub).origin]] []) ?_ [] [28] [(8:Int)=((gs.getD t.toNat ub).nodes.getD uf.toNat ub).kind] W35
     exact Q4 (uQ X sh lk gs t fe ue) (uf,un) ((uf+(1:Int),un)) W58 W67 (vc:=[(0:Int)≤(8:Int),(8:Int)<(10:Int),Fits ja (uf+(1:Int))]) (hv:=W4)
    ·refine tWk (St.mk 112 (zi gs t uf) [rowOf 3 (·.tc) sh,rowOf 3 (·.tc) lk,zj gs t,Reg.froz X,IntRow fe,zr gs t,zH,ownOf 207 3 (·.tc) ue,ownOf 186 4 (·.tc) un,zn gs t,zk,ownOf 4 1 (·.tc) (rchL (gs.getD t.toNat ub).nodes),Reg.box 101 [C.i .u8 9,C.i .u8 ((gs.getD t.toNat ub).nodes.getD uf.toNat ub).op,C.i .i64 ((gs.getD t.toNat ub).nodes.getD uf.toNat ub).slot,C.i .i64 ((gs.getD t.toNat ub).nodes.getD uf.toNat ub).thing,C.b ((gs.getD t.toNat ub).nodes.getD uf.toNat ub).a.slotted,C.i .i64 ((gs.getD t.toNat ub).nodes.getD uf.toNat ub).a.slot,C.i .i64 ((gs.getD t.toNat ub).nodes.getD uf.toNat ub).a.word,C.b ((gs.getD t.toNat ub).nodes.getD uf.toNat ub).b.slotted,C.i .i64 ((gs.getD t.toNat ub).nodes.getD uf.toNat ub).b.slot,C.i .i64 ((gs.getD t.toNat ub).nodes.getD uf.toNat ub).b.word,C.i .i64 ((gs.getD t.toNat ub).nodes.getD uf.toNat ub).next,C.i .i64 ((gs.getD t.toNat ub).nodes.getD uf.toNat ub).els,C.i .i64 ((gs.getD t.toNat ub).nodes.getD uf.toNat ub).origin]] []) ?_ [] [28] [(9:Int)=((gs.getD t.toNat ub).nodes.getD uf.toNat ub).kind] W35
     exact Q4 (uQ X sh lk gs t fe ue) (uf,un) ((uf+(1:Int),un)) W58 W67 (vc:=[(0:Int)≤(9:Int),(9:Int)<(10:Int),Fits ja (uf+(1:Int))]) (hv:=W4)
 ·refine tz [46,45,44,10,9,7,6,2] ?_
  refine Q7 (v9 X sh lk gs t fe ue un) (((0:Int),un)) (⟨jE _,hJ2.2⟩) ?_
  rintro ⟨ur,uw⟩ hJ4
  dsimp only [v9] at hJ4
  refine tz [99,98,97,9,6] ?_
  refine Q0 (decide (ur<(↑fe.length:Int))) (fun h5=>?_) (fun h5=>?_)
  ·exact Q4 (v9 X sh lk gs t fe ue un) (ur,uw) ((ur+(1:Int),uw.set (fe.getD ur.toNat 0).toNat (Mrk.mk (uw.getD (fe.getD ur.toNat 0).toNat ub).s (uw.getD (fe.getD ur.toNat 0).toNat ub).l (uw.getD (fe.getD ur.toNat 0).toNat ub).d true))) (by dsimp only [v9];have q:=uc h5;have z:=hJ4.1;omega) (by have z:=hJ4.1;exact ⟨by omega,by rw [jy];exact hJ4.2⟩) [] [17,18] [(uw.set (fe.getD ur.toNat 0).toNat (Mrk.mk (uw.getD (fe.getD ur.toNat 0).toNat ub).s (uw.getD (fe.getD ur.toNat 0).toNat ub).l (uw.getD (fe.getD ur.toNat 0).toNat ub).d true)).length=uw.length,∀ (i:Nat),i<(uw.set (fe.getD ur.toNat 0).toNat (Mrk.mk (uw.getD (fe.getD ur.toNat 0).toNat ub).s (uw.getD (fe.getD ur.toNat 0).toNat ub).l (uw.getD (fe.getD ur.toNat 0).toNat ub).d true)).length→((uw.set (fe.getD ur.toNat 0).toNat (Mrk.mk (uw.getD (fe.getD ur.toNat 0).toNat ub).s (uw.getD (fe.getD ur.toNat 0).toNat ub).l (uw.getD (fe.getD ur.toNat 0).toNat ub).d true)).getD i ub).tc=updT (fun i=>(uw.getD i ub).tc) (fe.getD ur.toNat 0).toNat 3 [jC true] i] W13 (vc:=[(0:Int)≤ur,ur<(↑fe.length:Int),ur.toNat<fe.length,(0:Int)≤fe.getD ur.toNat 0,fe.getD ur.toNat 0<(↑uw.length:Int),(fe.getD ur.toNat 0).toNat<uw.length,Fits ja (ur+(1:Int))]) (hv:=W4)
  ·exact Q2 [0,1,2,3,4,9,5,8] (res:=_) (post:=_) (hS:=⟨uw,hJ4.2,rfl,rfl⟩)
abbrev zas (y0:Grf):Reg:=Reg.ro [C.v (jG y0.name),C.i .i64 y0.locals,C.i .i64 y0.slots,C.h 1,C.h 2]
def vt (g:Grf) (M:List Mrk):Lp (Int×List Int):=⟨fun x=>{ N:=24,fr:=[se 11 (C.i .i64 x.1),se 10 (C.i .i64 (↑M.length:Int)),se 9 (C.h 2),se 3 (C.h 3),zF],rg:=[zas g,Reg.dead,rowOf 4 (·.tc) M]++[IntOwn x.2],wr:=[] },fun x=>0≤x.1∧x.1≤(M.length:Int)∧x.2.length≤x.1.toNat∧inR M.length x.2,fun x=>((M.length:Int)-x.1).toNat⟩
abbrev zaT (y0:Grf):Reg:=.ro [C.v (jG y0.name),C.i .i64 y0.locals,C.i .i64 y0.slots,C.h 1,C.h 2]
theorem Qkg (g:Grf) (M:List Mrk) (hM:M.length≤4096):Ctr jb 142 [zaT g,.dead,Mrk.rowR M] [.c (.p 0 0)]
 (DetE (fun l:List Int=>l.length≤M.length∧inR M.length l) (fun _=>.c (.h 3)) (fun l=>[.dead,.dead,.dead,IntOwn l])):=by
 refine Ctr.intro [] Tryz.func142 K K ?_
 refine Q7 (vt g M) (((0:Int),[])) (⟨jE _,by omega,jp _,inR.nil _⟩) ?_ [0,1,2,1000003] [5] [(0:Nat)=0] W8
 rintro ⟨ue,uj⟩ hJ1
 dsimp only [vt] at hJ1
 refine tz [11,10,9,3,2] ?_
 refine Q0 (decide (ue<(↑M.length:Int))) (fun h2=>?_) (fun h2=>?_)
 ·refine tz [11,10,9,3,2] ?_
  refine Q0 ((M.getD ue.toNat ub).s) (fun h3=>?_) (fun h3=>?_) (vc:=[(0:Int)≤ue,ue<(↑M.length:Int),ue.toNat<M.length]) (hv:=W102)
  ·exact Q4 (vt g M) (ue,uj) ((ue+(1:Int),uj++[ue])) W192 W119 [0,1,2,6] [5,6,7] (zb7 uj ue) W8 (vc:=[uj.length+1≤maxLen,(uj.length+1) * 8≤140737488355328,Fits ja (ue+(1:Int))]) (hv:=W102)
  ·exact Q4 (vt g M) (ue,uj) ((ue+(1:Int),uj)) W192 W119 (vc:=(zb4 ue)) (hv:=W102)
 ·exact Q2 (res:=_) (post:=_) (hS:=⟨uj,(by have z:=hJ1.2.2.1;have z1:=hJ1.2.1;have z0:=hJ1.1;exact ⟨by omega,hJ1.2.2.2⟩),rfl,rfl⟩)
def wa (g:Grf) (M:List Mrk) (td:List Int):Lp (List Bo×List Int):=⟨fun x=>{ N:=73,fr:=[se 5 (C.h 4),zam,zaO,se 1 (C.h 5)],rg:=[zas g,rowOf 13 (·.tc) g.nodes,rowOf 4 (·.tc) M,Reg.dead,Bo.ownR (x.1)]++[IntOwn x.2],wr:=[] },fun x=>SpO g.nodes.length (2 * g.nodes.length+4096) x.1 x.2,fun x=>(2 * falses x.1+x.2.length)⟩
def u6 (g:Grf) (M:List Mrk) (ue:List Bo) (uj:List Int):Lp (Int×List Bo×List Int):=⟨fun x=>{ N:=73,fr:=[se 40 (C.i .i64 x.1),{ slot:=39,g:=[],sv:=SV.c (C.i .i64 (↑(flrL (g.nodes.getD (uj.getD ((↑uj.length:Int)-(1:Int)).toNat (0:Int)).toNat ub)).length:Int)) },se 38 (C.h 6),se 1 (C.h 7),se 5 (C.h 4),zam,zaO],rg:=[zas g,rowOf 13 (·.tc) g.nodes,rowOf 4 (·.tc) M,Reg.dead,Bo.ownR (x.2.1),Reg.dead,IntOwn (flrL (g.nodes.getD (uj.getD ((↑uj.length:Int)-(1:Int)).toNat (0:Int)).toNat ub)),IntOwn (x.2.2)],wr:=[] },fun x=>SpI g.nodes.length (2 * g.nodes.length+4096) (2 * falses ue+uj.length) (flrL (g.nodes.getD (uj.getD ((uj.length:Int)-(1:Int)).toNat (0:Int)).toNat ub)).length x.1 x.2.1 x.2.2,fun x=>(((flrL (g.nodes.getD (uj.getD ((uj.length:Int)-(1:Int)).toNat (0:Int)).toNat ub)).length:Int)-x.1).toNat⟩
theorem Qhy (g:Grf) (hq:zC g) (hN:1≤g.nodes.length∧g.nodes.length≤4096) (M:List Mrk) (hM:M.length=g.nodes.length) (td:List Int) (htd:inR g.nodes.length td) (hl:td.length≤4096):Ctr jb 141 [zaT g,zV g,Mrk.rowR M,IntOwn td] [.c (.p 0 0),.c (.h 3)]
 (DetE (fun O:List Bo=>O.length=g.nodes.length) (fun _=>.c (.h 4)) (fun O=>[.dead,.dead,.dead,.dead,Bo.ownR O])):=by
 refine Ctr.intro [] Tryz.func141 K K ?_
 refine Q7 (wa g M td) ((jf g.nodes.length (Bo.mk false),td)) (SpO.start htd (by show 2 * _+td.length≤_;omega)) ?_ [0,1,2,3,4,3] [7,8] [(jf g.nodes.length (Bo.mk false)).length=M.length,∀ (i:Nat),i<(jf g.nodes.length (Bo.mk false)).length→((jf g.nodes.length (Bo.mk false)).getD i ub).tc=fun j=>valT (jC false).cells.toList j] W31 (vc:=[(0:Int)≤(↑M.length:Int),(↑M.length:Int)≤(↑M.length:Int),(↑M.length:Int) * (1:Int)≤(140737488355328:Int),(↑M.length:Int)≤(↑maxLen:Int)]) (hv:=W27)
 rintro ⟨ue,uj⟩ hJ1
 dsimp only [wa] at hJ1
 refine tz [5,4,0,1] ?_
 refine Q0 (decide ((0:Int)<(↑uj.length:Int))) (fun h2=>?_) (fun h2=>?_)
 ·refine tz [5,4,0,1] ?_
  refine Q3 Q75 (Qfl (g.nodes.getD (uj.getD ((↑uj.length:Int)-(1:Int)).toNat (0:Int)).toNat ub)) [] ?_ (vc:=[Fits ja ((↑uj.length:Int)-(1:Int)),(0:Int)≤(↑uj.length:Int)-(1:Int),(↑uj.length:Int)-(1:Int)<(↑uj.length:Int),((↑uj.length:Int)-(1:Int)).toNat<uj.length,Fits ja ((↑uj.length:Int)-(1:Int)),(0:Int)≤(0:Int),(0:Int)≤(↑uj.length:Int)-(1:Int),(↑uj.length:Int)-(1:Int)≤(↑uj.length:Int),(0:Int)<(↑uj.length:Int),(0:Int)≤uj.getD ((↑uj.length:Int)-(1:Int)).toNat (0:Int),uj.getD ((↑uj.length:Int)-(1:Int)).toNat (0:Int)<(↑g.nodes.length:Int),(uj.getD ((↑uj.length:Int)-(1:Int)).toNat (0:Int)).toNat<g.nodes.length]) (hv:=W27)
  refine tz [38,1,5,4,0] ?_
  refine RunF.hereL (vc:=[]) K trivial ?_
  refine RunF.trim 5 ((uj.length-1)) (ty:=3) (size:=1) (n:=uj.length) (f:=fun i=>i64T (uj.getD i 0)) (vc:=[((↑uj.length:Int)-(1:Int)).toNat-0=uj.length-1]) K K W158 K (by simp only [Conj]<;>(repeat' apply jo)<;>omega) ?_
  refine tz [40,39,38,1,5,4,0] ?_
  refine Q7 (u6 g M ue uj) (((0:Int),ue,jW (uj.length-1) uj)) (hJ1.inner W158 _) ?_ [] [11,12] [(jW (uj.length-1) uj).length=uj.length-1,∀ (i:Nat),i<(jW (uj.length-1) uj).length→i64T ((jW (uj.length-1) uj).getD i 0)=i64T (uj.getD i 0)] W31
  rintro ⟨ui,uq,ut⟩ hJ3
  dsimp only [u6] at hJ3
  refine tz [40,39,38,1,5,4,0] ?_
  refine Q0 (decide (ui<(↑(flrL (g.nodes.getD (uj.getD ((↑uj.length:Int)-(1:Int)).toNat (0:Int)).toNat ub)).length:Int))) (fun h4=>?_) (fun h4=>?_)
  ·refine tz [40,39,38,1,5,4,0] ?_
   refine Q0 (!(uq.getD ((flrL (g.nodes.getD (uj.getD ((↑uj.length:Int)-(1:Int)).toNat (0:Int)).toNat ub)).getD ui.toNat 0).toNat ub).b&&!(M.getD ((flrL (g.nodes.getD (uj.getD ((↑uj.length:Int)-(1:Int)).toNat (0:Int)).toNat ub)).getD ui.toNat 0).toNat ub).f) (fun h5=>?_) (fun h5=>?_) (vc:=[(0:Int)≤ui,ui<(↑(flrL (g.nodes.getD (uj.getD ((↑uj.length:Int)-(1:Int)).toNat (0:Int)).toNat ub)).length:Int),ui.toNat<(flrL (g.nodes.getD (uj.getD ((↑uj.length:Int)-(1:Int)).toNat (0:Int)).toNat ub)).length,(0:Int)≤(flrL (g.nodes.getD (uj.getD ((↑uj.length:Int)-(1:Int)).toNat (0:Int)).toNat ub)).getD ui.toNat 0,(flrL (g.nodes.getD (uj.getD ((↑uj.length:Int)-(1:Int)).toNat (0:Int)).toNat ub)).getD ui.toNat 0<(↑M.length:Int),((flrL (g.nodes.getD (uj.getD ((↑uj.length:Int)-(1:Int)).toNat (0:Int)).toNat ub)).getD ui.toNat 0).toNat<M.length,(0:Int)≤(flrL (g.nodes.getD (uj.getD ((↑uj.length:Int)-(1:Int)).toNat (0:Int)).toNat ub)).getD ui.toNat 0,(flrL (g.nodes.getD (uj.getD ((↑uj.length:Int)-(1:Int)).toNat (0:Int)).toNat ub)).getD ui.toNat 0<(↑uq.length:Int),((flrL (g.nodes.getD (uj.getD ((↑uj.length:Int)-(1:Int)).toNat (0:Int)).toNat ub)).getD ui.toNat 0).toNat<uq.length]) (hv:=W27)
   ·refine tz [9,8,40,39,38,1,5,4,0] ?_
    refine Q0 (!(M.getD ((flrL (g.nodes.getD (uj.getD ((↑uj.length:Int)-(1:Int)).toNat (0:Int)).toNat ub)).getD ui.toNat 0).toNat ub).d) (fun h6=>?_) (fun h6=>?_) (vc:=[(0:Int)≤(flrL (g.nodes.getD (uj.getD ((↑uj.length:Int)-(1:Int)).toNat (0:Int)).toNat ub)).getD ui.toNat 0,(flrL (g.nodes.getD (uj.getD ((↑uj.length:Int)-(1:Int)).toNat (0:Int)).toNat ub)).getD ui.toNat 0<(↑uq.length:Int),((flrL (g.nodes.getD (uj.getD ((↑uj.length:Int)-(1:Int)).toNat (0:Int)).toNat ub)).getD ui.toNat 0).toNat<uq.length]) (hv:=W27)
    ·exact Q4 (u6 g M ue uj) (ui,uq,ut) ((ui+(1:Int),uq.set ((flrL (g.nodes.getD (uj.getD ((↑uj.length:Int)-(1:Int)).toNat (0:Int)).toNat ub)).getD ui.toNat 0).toNat (Bo.mk true),ut++[(flrL (g.nodes.getD (uj.getD ((↑uj.length:Int)-(1:Int)).toNat (0:Int)).toNat ub)).getD ui.toNat 0])) W167 W101 [0,1,2,3,4,5,6,10] [7,8,11,12,13] [(uq.set ((flrL (g.nodes.getD (uj.getD ((↑uj.length:Int)-(1:Int)).toNat (0:Int)).toNat ub)).getD ui.toNat 0).toNat (Bo.mk true)).length=uq.length,∀ (i:Nat),i<(uq.set ((flrL (g.nodes.getD (uj.getD ((↑uj.length:Int)-(1:Int)).toNat (0:Int)).toNat ub)).getD ui.toNat 0).toNat (Bo.mk true)).length→((uq.set ((flrL (g.nodes.getD (uj.getD ((↑uj.length:Int)-(1:Int)).toNat (0:Int)).toNat ub)).getD ui.toNat 0).toNat (Bo.mk true)).getD i ub).tc=updT (fun i=>(uq.getD i ub).tc) ((flrL (g.nodes.getD (uj.getD ((↑uj.length:Int)-(1:Int)).toNat (0:Int)).toNat ub)).getD ui.toNat 0).toNat 0 [jC true] i,(ut++[(flrL (g.nodes.getD (uj.getD ((↑uj.length:Int)-(1:Int)).toNat (0:Int)).toNat ub)).getD ui.toNat 0]).length=ut.length+1,∀ (i:Nat),i<(ut++[(flrL (g.nodes.getD (uj.getD ((↑uj.length:Int)-(1:Int)).toNat (0:Int)).toNat ub)).getD ui.toNat 0]).length→i≠ut.length→i64T ((ut++[(flrL (g.nodes.getD (uj.getD ((↑uj.length:Int)-(1:Int)).toNat (0:Int)).toNat ub)).getD ui.toNat 0]).getD i 0)=i64T (ut.getD i 0),i64T ((ut++[(flrL (g.nodes.getD (uj.getD ((↑uj.length:Int)-(1:Int)).toNat (0:Int)).toNat ub)).getD ui.toNat 0]).getD ut.length 0) 0=TC.val (jg ja ((flrL (g.nodes.getD (uj.getD ((↑uj.length:Int)-(1:Int)).toNat (0:Int)).toNat ub)).getD ui.toNat 0))] W31 (vc:=[ut.length+1≤maxLen,(ut.length+1) * 8≤140737488355328,Fits ja (ui+(1:Int))]) (hv:=W27)
    ·exact Q4 (u6 g M ue uj) (ui,uq,ut) ((ui+(1:Int),uq.set ((flrL (g.nodes.getD (uj.getD ((↑uj.length:Int)-(1:Int)).toNat (0:Int)).toNat ub)).getD ui.toNat 0).toNat (Bo.mk true),ut)) W167 W101 [] [7,8] [(uq.set ((flrL (g.nodes.getD (uj.getD ((↑uj.length:Int)-(1:Int)).toNat (0:Int)).toNat ub)).getD ui.toNat 0).toNat (Bo.mk true)).length=uq.length,∀ (i:Nat),i<(uq.set ((flrL (g.nodes.getD (uj.getD ((↑uj.length:Int)-(1:Int)).toNat (0:Int)).toNat ub)).getD ui.toNat 0).toNat (Bo.mk true)).length→((uq.set ((flrL (g.nodes.getD (uj.getD ((↑uj.length:Int)-(1:Int)).toNat (0:Int)).toNat ub)).getD ui.toNat 0).toNat (Bo.mk true)).getD i ub).tc=updT (fun i=>(uq.getD i ub).tc) ((flrL (g.nodes.getD (uj.getD ((↑uj.length:Int)-(1:Int)).toNat (0:Int)).toNat ub)).getD ui.toNat 0).toNat 0 [jC true] i] W31 (vc:=[Fits ja (ui+(1:Int))]) (hv:=W27)
   ·exact Q4 (u6 g M ue uj) (ui,uq,ut) ((ui+(1:Int),uq,ut)) W167 W101 (vc:=[Fits ja (ui+(1:Int))]) (hv:=W27)
  ·exact Q4 (wa g M td) (ue,uj) ((uq,ut)) (by dsimp only [wa];exact hJ3.done.2) (hJ3.done.1) [0,1,2,3,4,7]
 ·exact Q2 (res:=_) (post:=_) (hS:=⟨ue,hJ1.len,rfl,rfl⟩)
theorem Qpg (X:Ext) (hX:TabX X) (sh lk:List Dcl) (gs:List Grf) (hs:zx sh) (hl:zx lk) (hg:zM gs) (hw:UnitW gs) (h0:(chkU sh lk gs).1=0) (t:Int) (ht:0≤t∧t<(gs.length:Int)) (fe:List Int) (hfb:fenB ((zbz gs t).nodes.length:Int) fe=true) (hfl:fe.length≤4294967296):Ctr jb 124 [Dcl.rowR sh,Dcl.rowR lk,Grf.rowR gs,.froz X,IntRow fe] [zbC,zbK t,.c (.h 4)]
 (DetE (fun O:List Bo=>O.length=(zbz gs t).nodes.length) (fun _=>.tup [(false,[.h 5]),zc1]) (fun O=>[.dead,.dead,.dead,.dead,.dead,Bo.ownR O])):=by
 refine Ctr.intro [] Tryz.func124 K K ?_
 refine Y4 2 (t.toNat) ?_ (vc:=[t.toNat<gs.length]) (hv:=W148)
 refine Q3 Qa7 (Qkf sh lk gs W12 W12 W12 W12 W12 t) [] ?_
 refine tz [12,7,6,3,1,2] ?_
 refine Q0 (!decide ((if t<(0:Int)∨(↑gs.length:Int)≤t then (2:Int) else (0:Int))=(0:Int))) (fun h1=>?_) (fun h1=>?_)
 ·exact (show False from by rw [if_neg W29] at h1;simp at h1).elim
 ·refine tz [7,6,3,1,2] ?_
  refine Q3 Q36 (Qcd (zbz gs t) fe W12) [5,4] ?_ (vc:=(zcv t gs)) (hv:=W148)
  refine tz [22,7,6,3,1,2] ?_
  refine Q0 (!fenB (↑(zbz gs t).nodes.length:Int) fe) (fun h2=>?_) (fun h2=>?_)
  ·exact (show False from by rw [hfb] at h2;simp at h2).elim
  ·refine tz [7,6,3,1,2] ?_
   refine Qn Q43 (Qec X W12 sh lk gs W12 W12 W12 W12 W12 t W12 fe W12 W12) [] ?_
   rintro ui hY3
   try dsimp only at hY3
   refine tz [27,7,6] ?_
   refine Qn Q1r (Qkg (zbz gs t) ui W12) [7,8,9] ?_
   rintro ur hY4
   try dsimp only at hY4
   refine tz [30,28,7,6] ?_
   refine Qn Q1q (Qhy (zbz gs t) W12 W12 ui W12 ur W12 W12) [7,8,9,10] ?_
   rintro ul hY5
   try dsimp only at hY5
   exact Q2 [0,1,2,3,4,11] (res:=_) (post:=_) (hS:=⟨ul,hY5,rfl,rfl⟩)
abbrev zbO:Value:=ji none 0 0
def vv (X:Ext) (sh:List Dcl) (lk:List Dcl) (gs:List Grf) (t:Int) (fe:List Int) (ue:List Bo) (ui:List Mrk):Lp (Int×List Int):=⟨fun x=>{ N:=49,fr:=[se 30 (C.i .i64 x.1),se 29 (C.i .i64 (↑ui.length:Int)),se 28 (C.h 9),se 10 (C.h 10),se 8 (C.h 6),se 7 (C.i .i64 0),se 6 (C.v (zbO))],rg:=[rowOf 3 (·.tc) sh,rowOf 3 (·.tc) lk,rowOf 4 (·.tc) gs,Reg.froz X,IntRow fe,zH,ownOf 4 1 (·.tc) ue,Reg.box 182 [C.v (jG (zbz gs t).name),C.i .i64 (zbz gs t).locals,C.i .i64 (zbz gs t).slots,C.h 8,C.h 9],zr gs t,ownOf 186 4 (·.tc) ui]++[IntOwn x.2],wr:=[] },fun x=>0≤x.1∧x.2.length≤x.1.toNat,fun x=>((ui.length:Int)-x.1).toNat⟩
theorem Qnj (X:Ext) (hX:TabX X) (sh lk:List Dcl) (gs:List Grf) (hs:zx sh) (hl:zx lk) (hg:zM gs) (hw:UnitW gs) (h0:(chkU sh lk gs).1=0) (t:Int) (ht:0≤t∧t<(gs.length:Int)) (fe:List Int) (hfb:fenB ((zbz gs t).nodes.length:Int) fe=true) (hfl:fe.length≤4294967296):Ctr jb 95 [Dcl.rowR sh,Dcl.rowR lk,Grf.rowR gs,.froz X,IntRow fe] [zbC,zbK t,.c (.h 4)]
 (DetE (fun l:List Int=>True) (fun _=>.tup [(false,[.h 5]),zc1]) (fun l=>[.dead,.dead,.dead,.dead,.dead,IntOwn l])):=by
 refine Ctr.intro [] Tryz.func95 K K ?_
 refine Qn Qbc (Qpg X W12 sh lk gs W12 W12 W12 W12 W12 t W12 fe W12 W12) [] ?_
 rintro ue hY1
 try dsimp only at hY1
 refine tz [17,7,6,3,1] ?_
 refine Q0 (!decide ((0:Int)=(0:Int))) (fun h2=>?_) (fun h2=>?_)
 ·exact absurd h2 W79
 ·refine tz [8,7,6,3,1] ?_
  refine Qn Q43 (Qec X W12 sh lk gs W12 W12 W12 W12 W12 t W12 [] W12 W12) [0,1,2,3,1000004] ?_ [7] [(0:Nat)=0] W8
  rintro ui hY3
  try dsimp only at hY3
  refine tz [25,10,8,7,6] ?_
  refine Q7 (vv X sh lk gs t fe ue ui) (((0:Int),[])) (⟨jE _,jp _⟩) ?_ [0,1,2,3,4,5,6,7,8,9,1000010] [18] [(0:Nat)=0] W8
  rintro ⟨ur,uw⟩ hJ4
  dsimp only [vv] at hJ4
  refine tz [30,29,28,10,8,7,6] ?_
  refine Q0 (decide (ur<(↑ui.length:Int))) (fun h5=>?_) (fun h5=>?_)
  ·refine tz [30,29,28,10,8,7,6] ?_
   refine Q0 ((ue.getD ur.toNat ub).b&&(ui.getD ur.toNat ub).l) (fun h6=>?_) (fun h6=>?_) (vc:=[(0:Int)≤ur,ur<(↑ui.length:Int),ur.toNat<ui.length,(0:Int)≤ur,ur<(↑ue.length:Int),ur.toNat<ue.length]) (hv:=W89)
   ·exact Q4 (vv X sh lk gs t fe ue ui) (ur,uw) ((ur+(1:Int),uw++[ur])) W194 W129 [0,1,2,3,4,5,6,7,8,9,13] [18,19,20] (zb7 uw ur) W8 (vc:=[uw.length+1≤maxLen,(uw.length+1) * 8≤140737488355328,Fits ja (ur+(1:Int))]) (hv:=W89)
   ·exact Q4 (vv X sh lk gs t fe ue ui) (ur,uw) ((ur+(1:Int),uw)) W194 W129 (vc:=(zb4 ur)) (hv:=W89)
  ·exact Q2 [0,1,2,3,4,10] (res:=_) (post:=_) (hS:=⟨uw,trivial,rfl,rfl⟩)
def wb (X:Ext) (sh:List Dcl) (lk:List Dcl) (gs:List Grf) (fs:List Iln):Lp (Int×Int×Bool):=⟨fun x=>{ N:=64,fr:=[se 32 (C.i .i64 x.1),se 31 (C.i .i64 (↑fs.length:Int)),se 30 (C.h 4),se 5 (C.i .i64 x.2.1),se 4 (C.b x.2.2),se 2 (C.p 5 0),se 1 (C.h 4)],rg:=[rowOf 3 (·.tc) sh,rowOf 3 (·.tc) lk,rowOf 4 (·.tc) gs,Reg.froz X,rowOf 1 (·.tc) fs,zH],wr:=[] },fun x=>0≤x.1∧x.1≤(fs.length:Int)∧∀ k,k<x.1.toNat→fenB ((gs.getD k ub).nodes.length:Int) (fs.getD k ub).l=true,fun x=>((fs.length:Int)-x.1).toNat⟩
def wc (X:Ext) (sh:List Dcl) (lk:List Dcl) (gs:List Grf) (fs:List Iln) (uq:Int) (ut:Bool):Lp (Int×Int×Bool):=⟨fun x=>{ N:=64,fr:=[se 48 (C.i .i64 x.1),se 47 (C.i .i64 (↑fs.length:Int)),se 46 (C.h 4),se 5 (C.i .i64 x.2.1),se 4 (C.b x.2.2),se 2 (C.p 5 0)],rg:=[rowOf 3 (·.tc) sh,rowOf 3 (·.tc) lk,rowOf 4 (·.tc) gs,Reg.froz X,rowOf 1 (·.tc) fs,zH],wr:=[] },fun x=>0≤x.1,fun x=>((fs.length:Int)-x.1).toNat⟩
abbrev zaf (y0:List Iln):Prop:=∀ j:Nat,(y0.getD j ub).l.length≤9223372036854775807
theorem Qph (X:Ext) (hX:TabX X) (sh lk:List Dcl) (gs:List Grf) (hs:zx sh) (hl:zx lk) (hg:zM gs) (hw:UnitW gs) (fs:List Iln) (hfs:zaf fs):Ctr jb 59 [Dcl.rowR sh,Dcl.rowR lk,Grf.rowR gs,.froz X,Iln.rowR fs] [zbC,.c (.h 4)]
 (DetE (fun y:Bool×Int=>y.2=safU sh lk gs fs) (fun y=>.tup [(false,[.b y.1]),(false,[.i .i64 y.2])]) (fun _=>[.dead,.dead,.dead,.dead,.dead])):=by
 refine Ctr.intro [] Tryz.func59 K K ?_
 refine Q3 J7 (Q2w sh lk gs W26 W26 W26 W26) [] ?_
 refine tz [17,5,4,2,1] ?_
 refine Q0 (!decide ((chkU sh lk gs).fst=(0:Int))) (fun h1=>?_) (fun h1=>?_)
 ·exact Q2 (res:=_) (post:=_) (hS:=⟨(false,(chkU sh lk gs).fst),W138,rfl,rfl⟩)
 ·refine tz [5,4,2,1] ?_
  refine Q0 (!decide ((↑fs.length:Int)=(↑gs.length:Int))) (fun h2=>?_) (fun h2=>?_)
  ·exact Q2 (res:=_) (post:=_) (hS:=⟨(false,(110:Int)),W138,rfl,rfl⟩)
  ·have hL:fs.length=gs.length:=by (simp only [Bool.not_eq_false',decide_eq_true_eq] at h2;omega)
   refine tz [5,4,2,1] ?_
   refine Q7 (wb X sh lk gs fs) (((0:Int),(0:Int),false)) (⟨jE _,by omega,fun k hk=>absurd hk W149⟩) ?_
   rintro ⟨ui,uq,ut⟩ hJ3
   dsimp only [wb] at hJ3
   refine tz [32,31,30,5,4,2,1] ?_
   refine Q0 (decide (ui<(↑fs.length:Int))) (fun h4=>?_) (fun h4=>?_)
   ·refine Y4 4 (ui.toNat) ?_ (vc:=[ui.toNat<fs.length]) (hv:=W47)
    refine Y4 2 (ui.toNat) ?_ (vc:=[ui.toNat<gs.length]) (hv:=W47)
    refine tz [32,31,30,5,4,2,1] ?_
    refine Q3 Q36 (Qcd (zbz gs ui) ((fs.getD ui.toNat ub).l) W26) [7,6] ?_ (vc:=[(0:Int)≤ui,ui<(↑fs.length:Int),ui.toNat=ui.toNat,(0:Int)≤ui,ui<(↑gs.length:Int),ui.toNat=ui.toNat]) (hv:=W47)
    refine tz [43,32,31,30,5,4,2,1] ?_
    refine Q0 (!fenB (↑(zbz gs ui).nodes.length:Int) (fs.getD ui.toNat ub).l) (fun h5=>?_) (fun h5=>?_)
    ·exact Q2 (res:=_) (post:=_) (hS:=⟨(false,(110:Int)),W138,rfl,rfl⟩)
    ·exact Q4 (wb X sh lk gs fs) (ui,uq,ut) ((ui+(1:Int),uq,ut)) (by dsimp only [wb];have q:=uc h4;have z:=hJ3.1;omega) W168 (vc:=(zb4 ui)) (hv:=W47)
   ·have hF:∀ k,k<fs.length→fenB ((gs.getD k ub).nodes.length:Int) (fs.getD k ub).l=true:=fun k hk=>hJ3.2.2 k (by have q:=ud h4;omega)
    refine tz [32,31,30,5,4,2,1] ?_
    refine Q7 (wc X sh lk gs fs uq ut) (((0:Int),uq,ut)) (jE _) ?_
    rintro ⟨ul,ux,uy⟩ hJ5
    dsimp only [wc] at hJ5
    refine tz [48,47,46,5,4,2] ?_
    refine Q0 (decide (ul<(↑fs.length:Int))) (fun h6=>?_) (fun h6=>?_)
    ·refine Y4 4 (ul.toNat) ?_ (vc:=[ul.toNat<fs.length]) (hv:=W47)
     refine tz [48,47,46,5,4,2] ?_
     refine Qn Qa6 (Qnj X W26 sh lk gs W26 W26 W26 W26 W26 ul W26 ((fs.getD ul.toNat ub).l) W26 W26) [0,1,2,3,6] ?_ (vc:=[(0:Int)≤ul,ul<(↑fs.length:Int),ul.toNat=ul.toNat]) (hv:=W47)
     rintro uJ hY7
     try dsimp only at hY7
     refine tz [57,48,47,46,5,4,2] ?_
     refine Q0 (decide ((0:Int)<(↑uJ.length:Int))) (fun h8=>?_) (fun h8=>?_)
     ·exact Q2 (res:=_) (post:=_) (hS:=⟨(false,(0:Int)),W138,rfl,rfl⟩)
     ·exact Q4 (wc X sh lk gs fs uq ut) (ul,ux,uy) ((ul+(1:Int),ux,uy)) (by dsimp only [wc];have q:=uc h6;have z:=hJ5;omega) (by have z:=hJ5;show 0≤ul+1;omega) (vc:=(zb4 ul)) (hv:=W47)
    ·exact Q2 (res:=_) (post:=_) (hS:=⟨(true,(0:Int)),W138,rfl,rfl⟩)
abbrev za6 (y0 y1:List Dcl) (y2:List Grf) (y3:Ext) (y4:List Iln) (y5:List Alc):List Reg:=[Dcl.rowR y0,Dcl.rowR y1,Grf.rowR y2,.froz y3,Iln.rowR y4,Alc.rowR y5]
abbrev zdd (y0:Int):List SV:=[zbC,.c (.h 4),.c (.h 5),zbK y0]
theorem Qnk (X:Ext) (hX:TabX X) (sh lk:List Dcl) (gs:List Grf) (hs:zx sh) (hl:zx lk) (hg:zM gs) (hw:UnitW gs) (fs:List Iln) (hfs:zaf fs) (al:List Alc) (hp:zab al) (bf:Int):Ctr jb 38 (za6 sh lk gs X fs al) (zdd bf)
 (Det (.c (.i .i64 (fauU sh lk gs fs al bf))) [.dead,.dead,.dead,.dead,.dead,.dead]):=by
 refine Ctr.intro [] Tryz.func38 K K ?_
 refine Qn Qb9 (Qph X W49 sh lk gs W49 W49 W49 W49 fs W49) [] ?_
 rintro ⟨ue,uj⟩ hY1
 try dsimp only at hY1
 refine tz [16,8,4,2,3] ?_
 refine Q0 (!decide (uj=(0:Int))) (fun h2=>?_) (fun h2=>?_)
 ·exact Q2 [] [0] [fauU sh lk gs fs al bf=uj] W106
 ·refine tz [8,4,2,3] ?_
  refine Q3 Qba (Qnb sh lk gs al W49 W49 W49 W49 W49) [0,1,2,5] ?_
  refine tz [25,8,3] ?_
  refine Q0 (!decide ((rgtU sh lk gs al).snd=(0:Int))) (fun h3=>?_) (fun h3=>?_)
  ·exact Q2 [] [0] [fauU sh lk gs fs al bf=(rgtU sh lk gs al).snd] W106
  ·refine tz [11,8,3] ?_
   refine Q0 (!(rgtU sh lk gs al).fst) (fun h4=>?_) (fun h4=>?_)
   ·exact Q2 [] [0] [fauU sh lk gs fs al bf=(150:Int)] W106
   ·refine tz [8,3] ?_
    refine Q0 (decide (bf<(1:Int))||decide ((16:Int)<bf)) (fun h5=>?_) (fun h5=>?_)
    ·exact Q2 [] [0] [fauU sh lk gs fs al bf=(2:Int)] W106
    ·exact Q2 [] [0] [fauU sh lk gs fs al bf=(0:Int)] W106
abbrev zy (y0:Grf) (y1:Int) (y2:Gm):Reg:=Reg.box 90 [C.v (jG y0.name),C.i .i64 y0.locals,C.i .i64 y0.slots,C.h 1,C.h 2,C.i .i64 y1,C.h 3,C.i .i64 y2.shared,C.i .i64 y2.base,C.h 8,C.h 5,C.h 6,C.i .i64 y2.fr]
def wd (g:Grf) (gm:Gm) (ac:Int) (l:List Ins) (code:List Ins):Lp (Int×List Ins):=⟨fun x=>{ N:=28,fr:=[se 8 (C.i .i64 x.1),se 7 (C.i .i64 (↑l.length:Int)),se 6 (C.h 7),zaO],rg:=[zy g ac gm,Reg.dead,rowOf 2 (·.tc) gm.ps,Reg.dead,Reg.dead,Reg.dead,Reg.dead,rowOf 9 (·.tc) l]++[Ins.ownR x.2],wr:=[] },fun x=>0≤x.1∧x.1≤(l.length:Int)∧x.2=code++putL gm.fr (l.take x.1.toNat),fun x=>((l.length:Int)-x.1).toNat⟩
abbrev zX (y0:Grf) (y1:Int) (y2:Gm):Reg:=Reg.box 90 [C.v (jG y0.name),C.i .i64 y0.locals,C.i .i64 y0.slots,C.h 1,C.h 2,C.i .i64 y1,C.h 3,C.i .i64 y2.shared,C.i .i64 y2.base,C.h 4,C.h 5,C.h 6,C.i .i64 y2.fr]
theorem Yz (g:Grf) (gm:Gm) (ac:Int) (l:List Ins) (code:List Ins) (hc:code.length≤1000000) (hl:l.length≤1000):Ctr jb 63 [zX g ac gm,.dead,Plc.rowR gm.ps,.dead,Ins.ownR code,.dead,.dead,Ins.rowR l] [.c (.p 0 0),.c (.h 7)]
 (Det (.tup []) [zy g ac gm,.dead,.dead,.dead,.dead,.dead,.dead,.dead,Ins.ownR (code++putL gm.fr l)]):=by
 refine Ctr.intro [] Tryz.func63 K K ?_
 refine Q7 (wd g gm ac l code) (((0:Int),code)) (⟨jE _,by omega,by show code=code++putL _ (l.take 0);simp [putL]⟩) ?_ [0,1,2,3,4,5,6,7,4]
 rintro ⟨ue,uj⟩ hJ1
 dsimp only [wd] at hJ1
 refine tz [8,7,6,0] ?_
 refine Q0 (decide (ue<(↑l.length:Int))) (fun h2=>?_) (fun h2=>?_)
 ·exact Q4 (wd g gm ac l code) (ue,uj) ((ue+(1:Int),uj++[Ins.mk (l.getD ue.toNat ub).kind (l.getD ue.toNat ub).op (l.getD ue.toNat ub).d (l.getD ue.toNat ub).a (l.getD ue.toNat ub).b (l.getD ue.toNat ub).addr (l.getD ue.toNat ub).to (l.getD ue.toNat ub).word gm.fr])) (by dsimp only [wd];have q:=uc h2;have z:=hJ1.1;omega) (by have q:=uc h2;have z:=hJ1.1;refine ⟨by omega,by omega,?_⟩;show _=code++putL gm.fr (l.take (ue+1).toNat);rw [Qh1 z q,← hJ1.2.2]) [0,1,2,3,4,5,6,7,11] [11,12,13,14,15,16,17,18,19,20,21] [(uj++[Ins.mk (l.getD ue.toNat ub).kind (l.getD ue.toNat ub).op (l.getD ue.toNat ub).d (l.getD ue.toNat ub).a (l.getD ue.toNat ub).b (l.getD ue.toNat ub).addr (l.getD ue.toNat ub).to (l.getD ue.toNat ub).word gm.fr]).length=uj.length+1,∀ (i:Nat),i<(uj++[Ins.mk (l.getD ue.toNat ub).kind (l.getD ue.toNat ub).op (l.getD ue.toNat ub).d (l.getD ue.toNat ub).a (l.getD ue.toNat ub).b (l.getD ue.toNat ub).addr (l.getD ue.toNat ub).to (l.getD ue.toNat ub).word gm.fr]).length→i≠uj.length→((uj++[Ins.mk (l.getD ue.toNat ub).kind (l.getD ue.toNat ub).op (l.getD ue.toNat ub).d (l.getD ue.toNat ub).a (l.getD ue.toNat ub).b (l.getD ue.toNat ub).addr (l.getD ue.toNat ub).to (l.getD ue.toNat ub).word gm.fr]).getD i ub).tc=(uj.getD i ub).tc,((uj++[Ins.mk (l.getD ue.toNat ub).kind (l.getD ue.toNat ub).op (l.getD ue.toNat ub).d (l.getD ue.toNat ub).a (l.getD ue.toNat ub).b (l.getD ue.toNat ub).addr (l.getD ue.toNat ub).to (l.getD ue.toNat ub).word gm.fr]).getD uj.length ub).tc 0=TC.val (jg jl (l.getD ue.toNat ub).kind),((uj++[Ins.mk (l.getD ue.toNat ub).kind (l.getD ue.toNat ub).op (l.getD ue.toNat ub).d (l.getD ue.toNat ub).a (l.getD ue.toNat ub).b (l.getD ue.toNat ub).addr (l.getD ue.toNat ub).to (l.getD ue.toNat ub).word gm.fr]).getD uj.length ub).tc 1=TC.val (jg jl (l.getD ue.toNat ub).op),((uj++[Ins.mk (l.getD ue.toNat ub).kind (l.getD ue.toNat ub).op (l.getD ue.toNat ub).d (l.getD ue.toNat ub).a (l.getD ue.toNat ub).b (l.getD ue.toNat ub).addr (l.getD ue.toNat ub).to (l.getD ue.toNat ub).word gm.fr]).getD uj.length ub).tc 2=TC.val (jg ja (l.getD ue.toNat ub).d),((uj++[Ins.mk (l.getD ue.toNat ub).kind (l.getD ue.toNat ub).op (l.getD ue.toNat ub).d (l.getD ue.toNat ub).a (l.getD ue.toNat ub).b (l.getD ue.toNat ub).addr (l.getD ue.toNat ub).to (l.getD ue.toNat ub).word gm.fr]).getD uj.length ub).tc 3=TC.val (jg ja (l.getD ue.toNat ub).a),((uj++[Ins.mk (l.getD ue.toNat ub).kind (l.getD ue.toNat ub).op (l.getD ue.toNat ub).d (l.getD ue.toNat ub).a (l.getD ue.toNat ub).b (l.getD ue.toNat ub).addr (l.getD ue.toNat ub).to (l.getD ue.toNat ub).word gm.fr]).getD uj.length ub).tc 4=TC.val (jg ja (l.getD ue.toNat ub).b),((uj++[Ins.mk (l.getD ue.toNat ub).kind (l.getD ue.toNat ub).op (l.getD ue.toNat ub).d (l.getD ue.toNat ub).a (l.getD ue.toNat ub).b (l.getD ue.toNat ub).addr (l.getD ue.toNat ub).to (l.getD ue.toNat ub).word gm.fr]).getD uj.length ub).tc 5=TC.val (jg ja (l.getD ue.toNat ub).addr),((uj++[Ins.mk (l.getD ue.toNat ub).kind (l.getD ue.toNat ub).op (l.getD ue.toNat ub).d (l.getD ue.toNat ub).a (l.getD ue.toNat ub).b (l.getD ue.toNat ub).addr (l.getD ue.toNat ub).to (l.getD ue.toNat ub).word gm.fr]).getD uj.length ub).tc 6=TC.val (jg ja (l.getD ue.toNat ub).to),((uj++[Ins.mk (l.getD ue.toNat ub).kind (l.getD ue.toNat ub).op (l.getD ue.toNat ub).d (l.getD ue.toNat ub).a (l.getD ue.toNat ub).b (l.getD ue.toNat ub).addr (l.getD ue.toNat ub).to (l.getD ue.toNat ub).word gm.fr]).getD uj.length ub).tc 7=TC.val (jg ja (l.getD ue.toNat ub).word),((uj++[Ins.mk (l.getD ue.toNat ub).kind (l.getD ue.toNat ub).op (l.getD ue.toNat ub).d (l.getD ue.toNat ub).a (l.getD ue.toNat ub).b (l.getD ue.toNat ub).addr (l.getD ue.toNat ub).to (l.getD ue.toNat ub).word gm.fr]).getD uj.length ub).tc 8=TC.val (jg ja gm.fr)] W8 (vc:=[(0:Int)≤ue,ue<(↑l.length:Int),ue.toNat<l.length,uj.length+1≤maxLen,(uj.length+1) * 64≤140737488355328,Fits ja (ue+(1:Int))]) (hv:=(by simp only [Conj,Fits,Q8,Q9,Qa,Qb,News.len,maxLen]<;>(repeat' (first | apply jo | intro _))<;>first | (have q:=uc h2;have z:=hJ1.1;have z3:=congrArg j5 hJ1.2.2;simp only [jm,Q0g,jO] at z3;(try simp only [maxLen] at *);omega) | grind | (simp only [BL] at *;omega)))
 ·exact Yh [] [7,8] [(code++putL gm.fr l).length=uj.length,∀ (i:Nat),i<(code++putL gm.fr l).length→((code++putL gm.fr l).getD i ub).tc=(uj.getD i ub).tc] (by have q:=ud h2;have e:uj=code++putL gm.fr l:=(by rw [hJ1.2.2,show ue.toNat=l.length by (have z:=hJ1.2.1;have z0:=hJ1.1;omega),List.take_length]);subst e;simp only [Conj];(repeat' apply jo)<;>first | trivial | rfl | (intros;first | trivial | rfl))
abbrev zad (y0:Grf) (y1:Int) (y2:Gm):Reg:=.ro [C.v (jG y0.name),C.i .i64 y0.locals,C.i .i64 y0.slots,C.h 1,C.h 2,C.i .i64 y1,C.h 3,C.i .i64 y2.shared,C.i .i64 y2.base,C.h 4,C.h 5,C.h 6,C.i .i64 y2.fr]
theorem Qed (g:Grf) (gm:Gm) (ac:Int) (p:Plc) (hp:0≤p.n∧p.n≤4160) (hg:GmQ gm):Ctr jb 152 [zad g ac gm,.dead,Plc.rowR gm.ps,.dead,.dead,.dead,.dead] [.c (.p 0 0),.agg p.cs]
 (Det (.c (.i .i64 (gm.base+p.n))) [.dead,.dead,.dead,.dead,.dead,.dead,.dead]):=by
 refine Ctr.intro [] Tryz.func152 K K ?_
 exact Q2 (vc:=[Fits ja (gm.base+p.n)]) (hv:=(by simp only [Conj,Fits,Q8,Q9,Qa,Qb,News.len,maxLen]<;>(repeat' (first | apply jo | intro _))<;>first | rfl | omega | (have z:=hg.b0;have z1:=hg.s0;(try have z2:=hg.p0 (p.n).toNat (by omega));(try have z3:=hv (by first | assumption | exact gnf h1));(try have z2:=hg.p0 v.slot.toNat (by omega));(try simp only [maxLen] at *);omega) | (intros;have z:=hg.b0;have z1:=hg.s0;(try have z2:=hg.p0 (p.n).toNat (by omega));(try have z3:=hv (by first | assumption | exact gnf h1));(try have z2:=hg.p0 v.slot.toNat (by omega));(try simp only [maxLen] at *);omega) | grind | (simp only [BL] at *;omega)))
abbrev zcT (y0:Gm) (y1:Int):Plc:=y0.ps.getD y1.toNat ub
theorem Qhz (g:Grf) (gm:Gm) (ac:Int) (s:Int) (hs:0≤s∧s<(gm.ps.length:Int)) (hg:GmQ gm):Ctr jb 135 [zad g ac gm,.dead,Plc.rowR gm.ps,.dead,.dead,.dead,.dead] [.c (.p 0 0),zbK s]
 (Det (.c (.i .i64 (gGoal gm s))) [.dead,.dead,.dead,.dead,.dead,.dead,.dead]):=by
 refine Ctr.intro [] Tryz.func135 K K ?_
 refine Q0 (!(zcT gm s).cell) (fun h1=>?_) (fun h1=>?_) (vc:=[(0:Int)≤s,s<(↑gm.ps.length:Int),s.toNat<gm.ps.length]) (hv:=W76)
 ·rw [Qmf (gnt h1)]
  exact Q2 [] [0] [(gm.pl s).n=(zcT gm s).n] W73
 ·rw [Qme (gnf h1)]
  exact Q2
abbrev zo (y0:Grf) (y1:Int) (y2:Gm) (y3:List Ins):List Reg:=[zX y0 y1 y2,.dead,Plc.rowR y2.ps,.dead,Ins.ownR y3,.dead,.dead]
abbrev zw (y0:Grf) (y1:Int) (y2:Gm):Reg:=Reg.box 90 [C.v (jG y0.name),C.i .i64 y0.locals,C.i .i64 y0.slots,C.h 1,C.h 2,C.i .i64 y1,C.h 3,C.i .i64 y2.shared,C.i .i64 y2.base,C.h 7,C.h 5,C.h 6,C.i .i64 y2.fr]
abbrev zbh:Value:=jg ja (0:Int)
abbrev zbj (y0:Gm) (y1:Int):Ins:=Ins.mk (4:Int) (0:Int) (0:Int) (15:Int) (0:Int) (y0.base+(zcT y0 y1).n) (0:Int) (0:Int) (0:Int)
abbrev zb6:Value:=jg jl (0:Int)
abbrev zbH:List Nat:=[11,12,13,14,15,16,17,18,19,20,21]
abbrev zbQ:Value:=jg ja (15:Int)
abbrev zbX (y0:Gm) (y1:Int):List Ins:=putL y0.fr [Ins.mk (4:Int) (0:Int) (0:Int) (15:Int) (0:Int) (y0.base+(y0.pl y1).n) (0:Int) (0:Int) (0:Int)]
abbrev zcI:List Nat:=[0,1,2,3,4,5,6,8]
abbrev zcV:List Nat:=[0,1,2,3,4,5,6,9]
theorem Q4e (g:Grf) (gm:Gm) (ac:Int) (s:Int) (hs:0≤s∧s<(gm.ps.length:Int)) (hg:GmQ gm) (code:List Ins) (hc:code.length≤1000000):Ctr jb 137 (zo g ac gm code) [.c (.p 0 0),zbK s]
 (Det (.tup []) [zw g ac gm,.dead,.dead,.dead,.dead,.dead,.dead,Ins.ownR (code++gKeep gm s)]):=by
 refine Ctr.intro [] Tryz.func137 K K ?_
 refine Q0 ((zcT gm s).cell) (fun h1=>?_) (fun h1=>?_) (vc:=[(0:Int)≤s,s<(↑gm.ps.length:Int),s.toNat<gm.ps.length]) (hv:=W76)
 ·rw [Qmg h1]
  refine tz [4,0] ?_
  refine Q3 Jo (Qed g gm ac (zcT gm s) W143 W143) [] ?_
  refine tz [18,15] ?_
  refine Q3 Qf (Yz g gm ac [zbj gm s] code W143 W143) zcI ?_ zbH [[zbj gm s].length=1,∀ (i:Nat),i < [zbj gm s].length→i≠0→([zbj gm s].getD i ub).tc=fun x=>TC.any,(zbj gm s).tc 0=TC.val (jg jl (4:Int)),(zbj gm s).tc 1=TC.val (zb6),(zbj gm s).tc 2=TC.val (zbh),(zbj gm s).tc 3=TC.val (zbQ),(zbj gm s).tc 4=TC.val (zbh),(zbj gm s).tc 5=TC.val (jg ja (gm.base+(zcT gm s).n)),(zbj gm s).tc 6=TC.val (zbh),(zbj gm s).tc 7=TC.val (zbh),(zbj gm s).tc 8=TC.val (zbh)] W41
  exact Yh zcV [7,8] [(code++zbX gm s).length=(code++putL gm.fr [zbj gm s]).length,∀ (i:Nat),i<(code++zbX gm s).length→((code++zbX gm s).getD i ub).tc=((code++putL gm.fr [zbj gm s]).getD i ub).tc] W73
 ·rw [Qmh h1]
  exact Yh [0,1,2,3,4,5,6,4] [7,8] [(code++[]).length=code.length,∀ (i:Nat),i<(code++[]).length→((code++[]).getD i ub).tc=(code.getD i ub).tc] W73
abbrev zc6 (y0:Gm) (y1:Vl):Plc:=y0.ps.getD y1.slot.toNat ub
abbrev zbm (y0:Int) (y1:Gm) (y2:Vl):Ins:=Ins.mk (3:Int) (0:Int) y0 (0:Int) (0:Int) (y1.base+(zc6 y1 y2).n) (0:Int) (0:Int) (0:Int)
abbrev zb0 (y0:Int) (y1:Vl):Ins:=Ins.mk (1:Int) (0:Int) y0 (0:Int) (0:Int) (0:Int) (0:Int) y1.word (0:Int)
abbrev zdp:Value:=jg jl (1:Int)
abbrev zdq:Value:=jg jl (3:Int)
theorem Zc (g:Grf) (gm:Gm) (ac:Int) (v:Vl) (r:Int) (hv:v.slotted=true→0≤v.slot∧v.slot<(gm.ps.length:Int)) (hg:GmQ gm) (code:List Ins) (hc:code.length≤1000000):Ctr jb 138 (zo g ac gm code) [.c (.p 0 0),.agg v.cs,zbK r]
 (Det (.c (.i .i64 (gReg gm v r))) [zw g ac gm,.dead,.dead,.dead,.dead,.dead,.dead,Ins.ownR (code++gFetch gm v r)]):=by
 refine Ctr.intro [] Tryz.func138 K K ?_
 refine Q0 (!v.slotted) (fun h1=>?_) (fun h1=>?_)
 ·refine tz [6,4,0,2] ?_
  refine Q3 Qf (Yz g gm ac [zb0 r v] code W94 W94) zcI ?_ zbH [[zb0 r v].length=1,∀ (i:Nat),i < [zb0 r v].length→i≠0→([zb0 r v].getD i ub).tc=fun x=>TC.any,(zb0 r v).tc 0=TC.val (zdp),(zb0 r v).tc 1=TC.val (zb6),(zb0 r v).tc 2=zch r,(zb0 r v).tc 3=TC.val (zbh),(zb0 r v).tc 4=TC.val (zbh),(zb0 r v).tc 5=TC.val (zbh),(zb0 r v).tc 6=TC.val (zbh),(zb0 r v).tc 7=TC.val (jg ja v.word),(zb0 r v).tc 8=TC.val (zbh)] W41
  exact Q2 zcV [7,8,9] [(code++gFetch gm v r).length=(code++putL gm.fr [zb0 r v]).length,∀ (i:Nat),i<(code++gFetch gm v r).length→((code++gFetch gm v r).getD i ub).tc=((code++putL gm.fr [zb0 r v]).getD i ub).tc,gReg gm v r=r] W77
 ·refine tz [6,4,0,2] ?_
  refine Q0 (!(zc6 gm v).cell) (fun h2=>?_) (fun h2=>?_) (vc:=[(0:Int)≤v.slot,v.slot<(↑gm.ps.length:Int),v.slot.toNat<gm.ps.length]) (hv:=W74)
  ·exact Q2 [0,1,2,3,4,5,6,4] [7,8,9] [(code++gFetch gm v r).length=code.length,∀ (i:Nat),i<(code++gFetch gm v r).length→((code++gFetch gm v r).getD i ub).tc=(code.getD i ub).tc,gReg gm v r=(zc6 gm v).n] W77
  ·refine tz [7,6,0,2] ?_
   refine Q3 Jo (Qed g gm ac (zc6 gm v) W94 W94) [] ?_
   refine tz [37,34,33,6,2] ?_
   refine Q3 Qf (Yz g gm ac [zbm r gm v] code W94 W94) zcV ?_ zbH [[zbm r gm v].length=1,∀ (i:Nat),i < [zbm r gm v].length→i≠0→([zbm r gm v].getD i ub).tc=fun x=>TC.any,(zbm r gm v).tc 0=TC.val (zdq),(zbm r gm v).tc 1=TC.val (zb6),(zbm r gm v).tc 2=zch r,(zbm r gm v).tc 3=TC.val (zbh),(zbm r gm v).tc 4=TC.val (zbh),(zbm r gm v).tc 5=TC.val (jg ja (gm.base+(zc6 gm v).n)),(zbm r gm v).tc 6=TC.val (zbh),(zbm r gm v).tc 7=TC.val (zbh),(zbm r gm v).tc 8=TC.val (zbh)] W41
   exact Q2 [0,1,2,3,4,5,6,10] [7,8,9] [(code++gFetch gm v r).length=(code++putL gm.fr [zbm r gm v]).length,∀ (i:Nat),i<(code++gFetch gm v r).length→((code++gFetch gm v r).getD i ub).tc=((code++putL gm.fr [zbm r gm v]).getD i ub).tc,gReg gm v r=r] W77
abbrev zbw (y0:Int) (y1:Gm) (y2:Vl):Ins:=Ins.mk (2:Int) (7:Int) y0 (gReg y1 y2 y0) (gReg y1 y2 y0) (0:Int) (0:Int) (0:Int) (0:Int)
abbrev zdr:Value:=jg jl (2:Int)
abbrev zds:Value:=jg jl (7:Int)
theorem Qi0 (g:Grf) (gm:Gm) (ac:Int) (v:Vl) (r:Int) (hv:v.slotted=true→0≤v.slot∧v.slot<(gm.ps.length:Int)) (hg:GmQ gm) (code:List Ins) (hc:code.length≤500000):Ctr jb 136 (zo g ac gm code) [.c (.p 0 0),.agg v.cs,zbK r]
 (Det (.tup []) [zw g ac gm,.dead,.dead,.dead,.dead,.dead,.dead,Ins.ownR (code++gMove gm v r)]):=by
 refine Ctr.intro [] Tryz.func136 K K ?_
 refine Q3 Qp (Zc g gm ac v r W107 W107 code W107) [] ?_
 refine tz [10,4,0,2] ?_
 refine Q0 (v.slotted&&!(zc6 gm v).cell) (fun h1=>?_) (fun h1=>?_) (vc:=[v.slotted=true→(0:Int)≤v.slot,v.slotted=true→v.slot<(↑gm.ps.length:Int),v.slotted=true→v.slot.toNat<gm.ps.length]) (hv:=W74)
 ·refine tz [6,0,2] ?_
  refine Q3 Qf (Yz g gm ac [zbw r gm v] (code++gFetch gm v r) W107 W107) [0,1,2,3,8,5,6,9] ?_ zbH [[zbw r gm v].length=1,∀ (i:Nat),i < [zbw r gm v].length→i≠0→([zbw r gm v].getD i ub).tc=fun x=>TC.any,(zbw r gm v).tc 0=TC.val (zdr),(zbw r gm v).tc 1=TC.val (zds),(zbw r gm v).tc 2=zch r,(zbw r gm v).tc 3=TC.val (jg ja (gReg gm v r)),(zbw r gm v).tc 4=TC.val (jg ja (gReg gm v r)),(zbw r gm v).tc 5=TC.val (zbh),(zbw r gm v).tc 6=TC.val (zbh),(zbw r gm v).tc 7=TC.val (zbh),(zbw r gm v).tc 8=TC.val (zbh)] W41
  exact Yh [0,1,2,3,4,5,6,10] [7,8] [(code++gMove gm v r).length=(code++gFetch gm v r++putL gm.fr [zbw r gm v]).length,∀ (i:Nat),i<(code++gMove gm v r).length→((code++gMove gm v r).getD i ub).tc=((code++gFetch gm v r++putL gm.fr [zbw r gm v]).getD i ub).tc] W87
 ·exact Yh zcI [7,8] [(code++gMove gm v r).length=(code++gFetch gm v r).length,∀ (i:Nat),i<(code++gMove gm v r).length→((code++gMove gm v r).getD i ub).tc=((code++gFetch gm v r).getD i ub).tc] W87
abbrev zq (y0:Nod):Reg:=Reg.box 101 [C.i .u8 y0.kind,C.i .u8 y0.op,C.i .i64 y0.slot,C.i .i64 y0.thing,C.b y0.a.slotted,C.i .i64 y0.a.slot,C.i .i64 y0.a.word,C.b y0.b.slotted,C.i .i64 y0.b.slot,C.i .i64 y0.b.word,C.i .i64 y0.next,C.i .i64 y0.els,C.i .i64 y0.origin]
abbrev zA (y0:Nod) (y1:Gm):Reg:=Reg.box 48 [C.i .u8 2,C.i .u8 y0.op,C.i .i64 (gGoal y1 y0.slot),C.i .i64 (gReg y1 y0.a (13:Int)),C.i .i64 0,C.i .i64 0,C.i .i64 0,C.i .i64 0,C.i .i64 0]
abbrev zZ (y0:Grf) (y1:Int) (y2:Gm):Reg:=Reg.box 90 [C.v (jG y0.name),C.i .i64 y0.locals,C.i .i64 y0.slots,C.h 1,C.h 2,C.i .i64 y1,C.h 3,C.i .i64 y2.shared,C.i .i64 y2.base,C.h 9,C.h 5,C.h 6,C.i .i64 y2.fr]
abbrev zae:List En:=[se 5 (C.p 9 0),se 3 (C.p 7 0),zaO]
abbrev zaE:List En:=[se 5 (C.p 8 0),se 3 (C.p 7 0),zaO]
theorem Qpi (g:Grf) (gm:Gm) (ac:Int) (n:Nod) (hn:NdQ gm n) (hg:GmQ gm) (code:List Ins) (hc:code.length≤100000) (hk:n.kind=1):Ctr jb 100 (zo g ac gm code) [.c (.p 0 0),.agg n.cs]
 (Det (.tup []) [zw g ac gm,.dead,.dead,.dead,.dead,.dead,.dead,Ins.ownR (code++gSetN gm n)]):=by
 refine Ctr.intro [] Tryz.func100 K K ?_
 refine Q3 Jm (Qhz g gm ac n.slot W2 W2) [] ?_
 refine tz [9,3,0] ?_
 refine Q0 (decide (n.op=(0:Int))) (fun h1=>?_) (fun h1=>?_)
 ·refine tz [4,3,0] ?_
  refine Q3 Jn (Qi0 g gm ac n.a (gGoal gm n.slot) W2 W2 code W2) [] ?_
  refine tz [4,3,0] ?_
  refine Q3 Yg (Q4e g gm ac n.slot W2 W2 (code++gMove gm n.a (gGoal gm n.slot)) W2) [0,1,2,3,8,5,6] ?_
  exact Q2 [0,1,2,3,4,5,6,9] [7,8] [(code++gSetN gm n).length=(code++gMove gm n.a (gGoal gm n.slot)++gKeep gm n.slot).length,∀ (i:Nat),i<(code++gSetN gm n).length→((code++gSetN gm n).getD i ub).tc=((code++gMove gm n.a (gGoal gm n.slot)++gKeep gm n.slot).getD i ub).tc] W93
 ·refine tz [4,3,0] ?_
  refine Q0a 3 (fun _:Unit=>St.mk 46 zae [zy g ac gm,Reg.dead,rowOf 2 (·.tc) gm.ps,Reg.dead,Reg.dead,Reg.dead,Reg.dead,zq n,ownOf 48 9 (·.tc) (code++gFetch gm n.a (13:Int)),zA n gm] []) (fun _=>True) ?_ ?_
  ·refine ⟨⟨⟨trivial,?_⟩,?_⟩,?_⟩
   ·refine Q0a 2 (fun _:Unit=>St.mk 46 zae [zy g ac gm,Reg.dead,rowOf 2 (·.tc) gm.ps,Reg.dead,Reg.dead,Reg.dead,Reg.dead,zq n,ownOf 48 9 (·.tc) (code++gFetch gm n.a (13:Int)),zA n gm] []) (fun _=>True) ?_ ?_
    ·refine ⟨⟨trivial,?_⟩,?_⟩
     ·refine Q3 Qp (Zc g gm ac n.a 13 W2 W2 code W2) [] ?_
      exact tTo (fun x=>St.mk 46 zae [zy g ac gm,Reg.dead,rowOf 2 (·.tc) gm.ps,Reg.dead,Reg.dead,Reg.dead,Reg.dead,zq n,ownOf 48 9 (·.tc) (code++gFetch gm n.a (13:Int)),zA n gm] []) (fun x=>True) () trivial
     ·refine Q3 Qp (Zc g gm ac n.a 13 W2 W2 code W2) [] ?_
      exact tTo (fun x=>St.mk 46 zae [zy g ac gm,Reg.dead,rowOf 2 (·.tc) gm.ps,Reg.dead,Reg.dead,Reg.dead,Reg.dead,zq n,ownOf 48 9 (·.tc) (code++gFetch gm n.a (13:Int)),zA n gm] []) (fun x=>True) () trivial [0,1,2,3,4,5,6,7,9,8]
    ·rintro ⟨⟩ _
     exact tTo (fun x=>St.mk 46 zae [zy g ac gm,Reg.dead,rowOf 2 (·.tc) gm.ps,Reg.dead,Reg.dead,Reg.dead,Reg.dead,zq n,ownOf 48 9 (·.tc) (code++gFetch gm n.a (13:Int)),zA n gm] []) (fun x=>True) () trivial
   ·refine Q3 Qp (Zc g gm ac n.a 13 W2 W2 code W2) [] ?_
    exact tTo (fun x=>St.mk 46 zae [zy g ac gm,Reg.dead,rowOf 2 (·.tc) gm.ps,Reg.dead,Reg.dead,Reg.dead,Reg.dead,zq n,ownOf 48 9 (·.tc) (code++gFetch gm n.a (13:Int)),zA n gm] []) (fun x=>True) () trivial
   ·refine Q0a 2 (fun _:Unit=>St.mk 46 zaE [zZ g ac gm,Reg.dead,rowOf 2 (·.tc) gm.ps,Reg.dead,Reg.dead,Reg.dead,Reg.dead,zq n,zA n gm,ownOf 48 9 (·.tc) (code++gFetch gm n.a (13:Int))] []) (fun _=>True) ?_ ?_
    ·refine ⟨⟨trivial,?_⟩,?_⟩
     ·refine Q3 Qp (Zc g gm ac n.a 13 W2 W2 code W2) [] ?_
      exact tTo (fun x=>St.mk 46 zaE [zZ g ac gm,Reg.dead,rowOf 2 (·.tc) gm.ps,Reg.dead,Reg.dead,Reg.dead,Reg.dead,zq n,zA n gm,ownOf 48 9 (·.tc) (code++gFetch gm n.a (13:Int))] []) (fun x=>True) () trivial
     ·refine Q3 Qp (Zc g gm ac n.a 13 W2 W2 code W2) [] ?_
      exact tTo (fun x=>St.mk 46 zaE [zZ g ac gm,Reg.dead,rowOf 2 (·.tc) gm.ps,Reg.dead,Reg.dead,Reg.dead,Reg.dead,zq n,zA n gm,ownOf 48 9 (·.tc) (code++gFetch gm n.a (13:Int))] []) (fun x=>True) () trivial
    ·rintro ⟨⟩ _
     exact tTo (fun x=>St.mk 46 zae [zy g ac gm,Reg.dead,rowOf 2 (·.tc) gm.ps,Reg.dead,Reg.dead,Reg.dead,Reg.dead,zq n,ownOf 48 9 (·.tc) (code++gFetch gm n.a (13:Int)),zA n gm] []) (fun x=>True) () trivial [0,1,2,3,4,5,6,7,9,8]
  ·rintro ⟨⟩ _
   refine tz [5,3,0] ?_
   refine Q3 Y2 (Zz n.op) [] ?_
   refine tz [32,5,3,0] ?_
   refine Q0 (twoB n.op) (fun h2=>?_) (fun h2=>?_)
   ·refine tz [5,3,0] ?_
    refine Q3 Qp (Zc g gm ac n.b 14 W2 W2 (code++gFetch gm n.a (13:Int)) W2) [0,1,2,3,8,5,6] ?_
    refine tz [36,5,3,0] ?_
    refine Q3 Qf (Yz g gm ac [Ins.mk (2:Int) n.op (gGoal gm n.slot) (gReg gm n.a (13:Int)) (gReg gm n.b (14:Int)) (0:Int) (0:Int) (0:Int) (0:Int)] (code++gFetch gm n.a (13:Int)++gFetch gm n.b (14:Int)) W2 W2) [0,1,2,3,10,5,6,11] ?_ [11,12,13,14,15,16,17,18,19,20,21] [[Ins.mk (2:Int) n.op (gGoal gm n.slot) (gReg gm n.a (13:Int)) (gReg gm n.b (14:Int)) (0:Int) (0:Int) (0:Int) (0:Int)].length=1,∀ (i:Nat),i < [Ins.mk (2:Int) n.op (gGoal gm n.slot) (gReg gm n.a (13:Int)) (gReg gm n.b (14:Int)) (0:Int) (0:Int) (0:Int) (0:Int)].length→i≠0→([Ins.mk (2:Int) n.op (gGoal gm n.slot) (gReg gm n.a (13:Int)) (gReg gm n.b (14:Int)) (0:Int) (0:Int) (0:Int) (0:Int)].getD i ub).tc=fun x=>TC.any,(Ins.mk (2:Int) n.op (gGoal gm n.slot) (gReg gm n.a (13:Int)) (gReg gm n.b (14:Int)) (0:Int) (0:Int) (0:Int) (0:Int)).tc 0=TC.val (jg jl (2:Int)),(Ins.mk (2:Int) n.op (gGoal gm n.slot) (gReg gm n.a (13:Int)) (gReg gm n.b (14:Int)) (0:Int) (0:Int) (0:Int) (0:Int)).tc 1=TC.val (jg jl n.op),(Ins.mk (2:Int) n.op (gGoal gm n.slot) (gReg gm n.a (13:Int)) (gReg gm n.b (14:Int)) (0:Int) (0:Int) (0:Int) (0:Int)).tc 2=TC.val (jg ja (gGoal gm n.slot)),(Ins.mk (2:Int) n.op (gGoal gm n.slot) (gReg gm n.a (13:Int)) (gReg gm n.b (14:Int)) (0:Int) (0:Int) (0:Int) (0:Int)).tc 3=TC.val (jg ja (gReg gm n.a (13:Int))),(Ins.mk (2:Int) n.op (gGoal gm n.slot) (gReg gm n.a (13:Int)) (gReg gm n.b (14:Int)) (0:Int) (0:Int) (0:Int) (0:Int)).tc 4=TC.val (jg ja (gReg gm n.b (14:Int))),(Ins.mk (2:Int) n.op (gGoal gm n.slot) (gReg gm n.a (13:Int)) (gReg gm n.b (14:Int)) (0:Int) (0:Int) (0:Int) (0:Int)).tc 5=TC.val (jg ja (0:Int)),(Ins.mk (2:Int) n.op (gGoal gm n.slot) (gReg gm n.a (13:Int)) (gReg gm n.b (14:Int)) (0:Int) (0:Int) (0:Int) (0:Int)).tc 6=TC.val (jg ja (0:Int)),(Ins.mk (2:Int) n.op (gGoal gm n.slot) (gReg gm n.a (13:Int)) (gReg gm n.b (14:Int)) (0:Int) (0:Int) (0:Int) (0:Int)).tc 7=TC.val (jg ja (0:Int)),(Ins.mk (2:Int) n.op (gGoal gm n.slot) (gReg gm n.a (13:Int)) (gReg gm n.b (14:Int)) (0:Int) (0:Int) (0:Int) (0:Int)).tc 8=TC.val (jg ja (0:Int))] W23
    refine tz [3,0] ?_
    refine Q3 Yg (Q4e g gm ac n.slot W2 W2 (code++gFetch gm n.a (13:Int)++gFetch gm n.b (14:Int)++putL gm.fr [Ins.mk (2:Int) n.op (gGoal gm n.slot) (gReg gm n.a (13:Int)) (gReg gm n.b (14:Int)) (0:Int) (0:Int) (0:Int) (0:Int)]) W2) [0,1,2,3,12,5,6] ?_
    exact Yh [0,1,2,3,4,5,6,13] [7,8] [(code++gSetN gm n).length=(code++gFetch gm n.a (13:Int)++gFetch gm n.b (14:Int)++putL gm.fr [Ins.mk (2:Int) n.op (gGoal gm n.slot) (gReg gm n.a (13:Int)) (gReg gm n.b (14:Int)) (0:Int) (0:Int) (0:Int) (0:Int)]++gKeep gm n.slot).length,∀ (i:Nat),i<(code++gSetN gm n).length→((code++gSetN gm n).getD i ub).tc=((code++gFetch gm n.a (13:Int)++gFetch gm n.b (14:Int)++putL gm.fr [Ins.mk (2:Int) n.op (gGoal gm n.slot) (gReg gm n.a (13:Int)) (gReg gm n.b (14:Int)) (0:Int) (0:Int) (0:Int) (0:Int)]++gKeep gm n.slot).getD i ub).tc] W93
   ·refine tz [5,3,0] ?_
    refine Q3 Qf (Yz g gm ac [Ins.mk (2:Int) n.op (gGoal gm n.slot) (gReg gm n.a (13:Int)) (0:Int) (0:Int) (0:Int) (0:Int) (0:Int)] (code++gFetch gm n.a (13:Int)) W2 W2) [0,1,2,3,8,5,6,10] ?_ [11,12,13,14,15,16,17,18,19,20,21] [[Ins.mk (2:Int) n.op (gGoal gm n.slot) (gReg gm n.a (13:Int)) (0:Int) (0:Int) (0:Int) (0:Int) (0:Int)].length=1,∀ (i:Nat),i < [Ins.mk (2:Int) n.op (gGoal gm n.slot) (gReg gm n.a (13:Int)) (0:Int) (0:Int) (0:Int) (0:Int) (0:Int)].length→i≠0→([Ins.mk (2:Int) n.op (gGoal gm n.slot) (gReg gm n.a (13:Int)) (0:Int) (0:Int) (0:Int) (0:Int) (0:Int)].getD i ub).tc=fun x=>TC.any,(Ins.mk (2:Int) n.op (gGoal gm n.slot) (gReg gm n.a (13:Int)) (0:Int) (0:Int) (0:Int) (0:Int) (0:Int)).tc 0=TC.val (jg jl (2:Int)),(Ins.mk (2:Int) n.op (gGoal gm n.slot) (gReg gm n.a (13:Int)) (0:Int) (0:Int) (0:Int) (0:Int) (0:Int)).tc 1=TC.val (jg jl n.op),(Ins.mk (2:Int) n.op (gGoal gm n.slot) (gReg gm n.a (13:Int)) (0:Int) (0:Int) (0:Int) (0:Int) (0:Int)).tc 2=TC.val (jg ja (gGoal gm n.slot)),(Ins.mk (2:Int) n.op (gGoal gm n.slot) (gReg gm n.a (13:Int)) (0:Int) (0:Int) (0:Int) (0:Int) (0:Int)).tc 3=TC.val (jg ja (gReg gm n.a (13:Int))),(Ins.mk (2:Int) n.op (gGoal gm n.slot) (gReg gm n.a (13:Int)) (0:Int) (0:Int) (0:Int) (0:Int) (0:Int)).tc 4=TC.val (jg ja (0:Int)),(Ins.mk (2:Int) n.op (gGoal gm n.slot) (gReg gm n.a (13:Int)) (0:Int) (0:Int) (0:Int) (0:Int) (0:Int)).tc 5=TC.val (jg ja (0:Int)),(Ins.mk (2:Int) n.op (gGoal gm n.slot) (gReg gm n.a (13:Int)) (0:Int) (0:Int) (0:Int) (0:Int) (0:Int)).tc 6=TC.val (jg ja (0:Int)),(Ins.mk (2:Int) n.op (gGoal gm n.slot) (gReg gm n.a (13:Int)) (0:Int) (0:Int) (0:Int) (0:Int) (0:Int)).tc 7=TC.val (jg ja (0:Int)),(Ins.mk (2:Int) n.op (gGoal gm n.slot) (gReg gm n.a (13:Int)) (0:Int) (0:Int) (0:Int) (0:Int) (0:Int)).tc 8=TC.val (jg ja (0:Int))] W23
    refine tz [3,0] ?_
    refine Q3 Yg (Q4e g gm ac n.slot W2 W2 (code++gFetch gm n.a (13:Int)++putL gm.fr [Ins.mk (2:Int) n.op (gGoal gm n.slot) (gReg gm n.a (13:Int)) (0:Int) (0:Int) (0:Int) (0:Int) (0:Int)]) W2) [0,1,2,3,11,5,6] ?_
    exact Yh [0,1,2,3,4,5,6,12] [7,8] [(code++gSetN gm n).length=(code++gFetch gm n.a (13:Int)++putL gm.fr [Ins.mk (2:Int) n.op (gGoal gm n.slot) (gReg gm n.a (13:Int)) (0:Int) (0:Int) (0:Int) (0:Int) (0:Int)]++gKeep gm n.slot).length,∀ (i:Nat),i<(code++gSetN gm n).length→((code++gSetN gm n).getD i ub).tc=((code++gFetch gm n.a (13:Int)++putL gm.fr [Ins.mk (2:Int) n.op (gGoal gm n.slot) (gReg gm n.a (13:Int)) (0:Int) (0:Int) (0:Int) (0:Int) (0:Int)]++gKeep gm n.slot).getD i ub).tc] W93
abbrev zbk (y0:Gm) (y1:Nod):Ins:=Ins.mk (3:Int) (0:Int) (gGoal y0 y1.slot) (0:Int) (0:Int) y1.thing (0:Int) (0:Int) (0:Int)
abbrev zbT (y0:Nod):List SV:=[.c (.p 0 0),.agg y0.cs]
theorem Qnl (g:Grf) (gm:Gm) (ac:Int) (n:Nod) (hn:NdQ gm n) (hg:GmQ gm) (code:List Ins) (hc:code.length≤100000) (hk:n.kind=2):Ctr jb 101 (zo g ac gm code) (zbT n)
 (Det (.tup []) [zw g ac gm,.dead,.dead,.dead,.dead,.dead,.dead,Ins.ownR (code++(putL gm.fr [Ins.mk 3 0 (gGoal gm n.slot) 0 0 n.thing 0 0 0]++gKeep gm n.slot))]):=by
 refine Ctr.intro [] Tryz.func101 K K ?_
 refine Q3 Jm (Qhz g gm ac n.slot W2 W2) [] ?_
 refine tz [8,10,9,7,6,5,4,3,0] ?_
 refine Q3 Qf (Yz g gm ac [zbk gm n] code W2 W2) zcI ?_ zbH [[zbk gm n].length=1,∀ (i:Nat),i < [zbk gm n].length→i≠0→([zbk gm n].getD i ub).tc=fun x=>TC.any,(zbk gm n).tc 0=TC.val (zdq),(zbk gm n).tc 1=TC.val (zb6),(zbk gm n).tc 2=TC.val (jg ja (gGoal gm n.slot)),(zbk gm n).tc 3=TC.val (zbh),(zbk gm n).tc 4=TC.val (zbh),(zbk gm n).tc 5=TC.val (jg ja n.thing),(zbk gm n).tc 6=TC.val (zbh),(zbk gm n).tc 7=TC.val (zbh),(zbk gm n).tc 8=TC.val (zbh)] W23
 refine tz [12,11,8,10,9,7,6,5,4,3,0] ?_
 refine Q3 Yg (Q4e g gm ac n.slot W2 W2 (code++putL gm.fr [zbk gm n]) W2) [0,1,2,3,9,5,6] ?_
 exact Yh [0,1,2,3,4,5,6,10] [7,8] [(code++(putL gm.fr [zbk gm n]++gKeep gm n.slot)).length=(code++putL gm.fr [zbk gm n]++gKeep gm n.slot).length,∀ (i:Nat),i<(code++(putL gm.fr [zbk gm n]++gKeep gm n.slot)).length→((code++(putL gm.fr [zbk gm n]++gKeep gm n.slot)).getD i ub).tc=((code++putL gm.fr [zbk gm n]++gKeep gm n.slot).getD i ub).tc] W73
theorem Qkh (g:Grf) (gm:Gm) (ac:Int) (n:Nod) (hn:NdQ gm n) (hg:GmQ gm) (code:List Ins) (hc:code.length≤100000) (hk:n.kind=3):Ctr jb 102 (zo g ac gm code) [.c (.p 0 0),.agg n.cs]
 (Det (.tup []) [zw g ac gm,.dead,.dead,.dead,.dead,.dead,.dead,Ins.ownR (code++(gFetch gm n.a 13++putL gm.fr [Ins.mk 4 0 0 (gReg gm n.a 13) 0 n.thing 0 0 0]))]):=by
 refine Ctr.intro [] Tryz.func102 K K ?_
 refine Q3 Qp (Zc g gm ac n.a 13 W2 W2 code W2) [] ?_
 refine tz [8,3,0] ?_
 refine Q3 Qf (Yz g gm ac [Ins.mk (4:Int) (0:Int) (0:Int) (gReg gm n.a (13:Int)) (0:Int) n.thing (0:Int) (0:Int) (0:Int)] (code++gFetch gm n.a (13:Int)) W2 W2) [0,1,2,3,8,5,6,9] ?_ [11,12,13,14,15,16,17,18,19,20,21] [[Ins.mk (4:Int) (0:Int) (0:Int) (gReg gm n.a (13:Int)) (0:Int) n.thing (0:Int) (0:Int) (0:Int)].length=1,∀ (i:Nat),i < [Ins.mk (4:Int) (0:Int) (0:Int) (gReg gm n.a (13:Int)) (0:Int) n.thing (0:Int) (0:Int) (0:Int)].length→i≠0→([Ins.mk (4:Int) (0:Int) (0:Int) (gReg gm n.a (13:Int)) (0:Int) n.thing (0:Int) (0:Int) (0:Int)].getD i ub).tc=fun x=>TC.any,(Ins.mk (4:Int) (0:Int) (0:Int) (gReg gm n.a (13:Int)) (0:Int) n.thing (0:Int) (0:Int) (0:Int)).tc 0=TC.val (jg jl (4:Int)),(Ins.mk (4:Int) (0:Int) (0:Int) (gReg gm n.a (13:Int)) (0:Int) n.thing (0:Int) (0:Int) (0:Int)).tc 1=TC.val (jg jl (0:Int)),(Ins.mk (4:Int) (0:Int) (0:Int) (gReg gm n.a (13:Int)) (0:Int) n.thing (0:Int) (0:Int) (0:Int)).tc 2=TC.val (jg ja (0:Int)),(Ins.mk (4:Int) (0:Int) (0:Int) (gReg gm n.a (13:Int)) (0:Int) n.thing (0:Int) (0:Int) (0:Int)).tc 3=TC.val (jg ja (gReg gm n.a (13:Int))),(Ins.mk (4:Int) (0:Int) (0:Int) (gReg gm n.a (13:Int)) (0:Int) n.thing (0:Int) (0:Int) (0:Int)).tc 4=TC.val (jg ja (0:Int)),(Ins.mk (4:Int) (0:Int) (0:Int) (gReg gm n.a (13:Int)) (0:Int) n.thing (0:Int) (0:Int) (0:Int)).tc 5=TC.val (jg ja n.thing),(Ins.mk (4:Int) (0:Int) (0:Int) (gReg gm n.a (13:Int)) (0:Int) n.thing (0:Int) (0:Int) (0:Int)).tc 6=TC.val (jg ja (0:Int)),(Ins.mk (4:Int) (0:Int) (0:Int) (gReg gm n.a (13:Int)) (0:Int) n.thing (0:Int) (0:Int) (0:Int)).tc 7=TC.val (jg ja (0:Int)),(Ins.mk (4:Int) (0:Int) (0:Int) (gReg gm n.a (13:Int)) (0:Int) n.thing (0:Int) (0:Int) (0:Int)).tc 8=TC.val (jg ja (0:Int))] W23
 exact Yh [0,1,2,3,4,5,6,10] [7,8] [(code++(gFetch gm n.a (13:Int)++putL gm.fr [Ins.mk (4:Int) (0:Int) (0:Int) (gReg gm n.a (13:Int)) (0:Int) n.thing (0:Int) (0:Int) (0:Int)])).length=(code++gFetch gm n.a (13:Int)++putL gm.fr [Ins.mk (4:Int) (0:Int) (0:Int) (gReg gm n.a (13:Int)) (0:Int) n.thing (0:Int) (0:Int) (0:Int)]).length,∀ (i:Nat),i<(code++(gFetch gm n.a (13:Int)++putL gm.fr [Ins.mk (4:Int) (0:Int) (0:Int) (gReg gm n.a (13:Int)) (0:Int) n.thing (0:Int) (0:Int) (0:Int)])).length→((code++(gFetch gm n.a (13:Int)++putL gm.fr [Ins.mk (4:Int) (0:Int) (0:Int) (gReg gm n.a (13:Int)) (0:Int) n.thing (0:Int) (0:Int) (0:Int)])).getD i ub).tc=((code++gFetch gm n.a (13:Int)++putL gm.fr [Ins.mk (4:Int) (0:Int) (0:Int) (gReg gm n.a (13:Int)) (0:Int) n.thing (0:Int) (0:Int) (0:Int)]).getD i ub).tc] W73
abbrev zbl (y0:Gm) (y1:Nod):Ins:=Ins.mk (2:Int) (7:Int) (y0.ps.getD y1.slot.toNat ub).n (15:Int) (15:Int) (0:Int) (0:Int) (0:Int) (0:Int)
abbrev zbn (y0:Nod):Ins:=Ins.mk (5:Int) (0:Int) (15:Int) (0:Int) (0:Int) y0.thing (0:Int) (0:Int) (0:Int)
abbrev zci (y0:List Ins) (y1:Gm) (y2:Nod):List Ins:=y0++gMove y1 y2.a (15:Int)++putL y1.fr [zbn y2]
theorem Qnm (g:Grf) (gm:Gm) (ac:Int) (n:Nod) (hn:NdQ gm n) (hg:GmQ gm) (code:List Ins) (hc:code.length≤100000) (hk:n.kind=4):Ctr jb 103 (zo g ac gm code) (zbT n)
 (Det (.tup []) [zw g ac gm,.dead,.dead,.dead,.dead,.dead,.dead,Ins.ownR (code++gSwapN gm n)]):=by
 refine Ctr.intro [] Tryz.func103 K K ?_
 refine Q3 Jn (Qi0 g gm ac n.a 15 W2 W2 code W2) [] ?_
 refine tz [3,0] ?_
 refine Q3 Qf (Yz g gm ac [zbn n] (code++gMove gm n.a (15:Int)) W2 W2) [0,1,2,3,8,5,6,9] ?_ zbH [[zbn n].length=1,∀ (i:Nat),i < [zbn n].length→i≠0→([zbn n].getD i ub).tc=fun x=>TC.any,(zbn n).tc 0=TC.val (jg jl (5:Int)),(zbn n).tc 1=TC.val (zb6),(zbn n).tc 2=TC.val (zbQ),(zbn n).tc 3=TC.val (zbh),(zbn n).tc 4=TC.val (zbh),(zbn n).tc 5=TC.val (jg ja n.thing),(zbn n).tc 6=TC.val (zbh),(zbn n).tc 7=TC.val (zbh),(zbn n).tc 8=TC.val (zbh)] W23
 refine tz [3,0] ?_
 refine Q0 (!(gm.ps.getD n.slot.toNat ub).cell) (fun h1=>?_) (fun h1=>?_) (vc:=[(0:Int)≤n.slot,n.slot<(↑gm.ps.length:Int),n.slot.toNat<gm.ps.length]) (hv:=W109)
 ·refine tz [4,3,0] ?_
  refine Q3 Qf (Yz g gm ac [zbl gm n] (zci code gm n) W2 W2) [0,1,2,3,10,5,6,12] ?_ zbH [[zbl gm n].length=1,∀ (i:Nat),i < [zbl gm n].length→i≠0→([zbl gm n].getD i ub).tc=fun x=>TC.any,(zbl gm n).tc 0=TC.val (zdr),(zbl gm n).tc 1=TC.val (zds),(zbl gm n).tc 2=TC.val (jg ja (gm.ps.getD n.slot.toNat ub).n),(zbl gm n).tc 3=TC.val (zbQ),(zbl gm n).tc 4=TC.val (zbQ),(zbl gm n).tc 5=TC.val (zbh),(zbl gm n).tc 6=TC.val (zbh),(zbl gm n).tc 7=TC.val (zbh),(zbl gm n).tc 8=TC.val (zbh)] W23
  exact Q2 [0,1,2,3,4,5,6,13] [7,8] [(code++gSwapN gm n).length=(zci code gm n++putL gm.fr [zbl gm n]).length,∀ (i:Nat),i<(code++gSwapN gm n).length→((code++gSwapN gm n).getD i ub).tc=((zci code gm n++putL gm.fr [zbl gm n]).getD i ub).tc] W116
 ·refine tz [3,0] ?_
  refine Q3 Yg (Q4e g gm ac n.slot W2 W2 (zci code gm n) W2) [0,1,2,3,10,5,6] ?_
  exact Yh [0,1,2,3,4,5,6,12] [7,8] [(code++gSwapN gm n).length=(zci code gm n++gKeep gm n.slot).length,∀ (i:Nat),i<(code++gSwapN gm n).length→((code++gSwapN gm n).getD i ub).tc=((zci code gm n++gKeep gm n.slot).getD i ub).tc] W116
abbrev zcM:Ins:=Ins.mk (1:Int) (0:Int) (15:Int) (0:Int) (0:Int) (0:Int) (0:Int) (0:Int) (0:Int)
abbrev zb5 (y0:Gm) (y1:Nod):List Ins:=[zcM,Ins.mk (4:Int) (0:Int) (0:Int) (15:Int) (0:Int) (y0.shared+y1.thing) (0:Int) (0:Int) (0:Int)]
theorem Qi1 (g:Grf) (gm:Gm) (ac:Int) (n:Nod) (hn:NdQ gm n) (hg:GmQ gm) (code:List Ins) (hc:code.length≤100000) (hk:n.kind=6):Ctr jb 105 (zo g ac gm code) (zbT n)
 (Det (.tup []) [zw g ac gm,.dead,.dead,.dead,.dead,.dead,.dead,Ins.ownR (code++putL gm.fr [Ins.mk 1 0 15 0 0 0 0 0 0,Ins.mk 4 0 0 15 0 (gm.shared+n.thing) 0 0 0])]):=by
 refine Ctr.intro [] Tryz.func105 K K ?_
 refine Q3 Qf (Yz g gm ac (zb5 gm n) code W2 W2) zcI ?_ [11,12] [(zb5 gm n).length=2,∀ (i:Nat),i < (zb5 gm n).length→((zb5 gm n).getD i ub).tc=rowT 9 [zdp,zb6,zbQ,zbh,zbh,zbh,zbh,zbh,zbh,jg jl (4:Int),zb6,zbh,zbQ,zbh,jg ja (gm.shared+n.thing),zbh,zbh,zbh] i] W23 (vc:=[Fits ja (gm.shared+n.thing)]) (hv:=W109)
 exact Yh zcV
theorem Qki (g:Grf) (gm:Gm) (ac:Int) (n:Nod) (hn:NdQ gm n) (hg:GmQ gm) (code:List Ins) (hc:code.length≤100000) (hk:n.kind=7):Ctr jb 106 (zo g ac gm code) [.c (.p 0 0),.agg n.cs]
 (Det (.tup []) [zw g ac gm,.dead,.dead,.dead,.dead,.dead,.dead,Ins.ownR (code++(gFetch gm n.a 13++putL gm.fr [Ins.mk 7 0 0 (gReg gm n.a 13) 0 0 0 0 0]))]):=by
 refine Ctr.intro [] Tryz.func106 K K ?_
 refine Q3 Qp (Zc g gm ac n.a 13 W2 W2 code W2) [] ?_
 refine tz [8,0] ?_
 refine Q3 Qf (Yz g gm ac [Ins.mk (7:Int) (0:Int) (0:Int) (gReg gm n.a (13:Int)) (0:Int) (0:Int) (0:Int) (0:Int) (0:Int)] (code++gFetch gm n.a (13:Int)) W2 W2) [0,1,2,3,8,5,6,9] ?_ [11,12,13,14,15,16,17,18,19,20,21] [[Ins.mk (7:Int) (0:Int) (0:Int) (gReg gm n.a (13:Int)) (0:Int) (0:Int) (0:Int) (0:Int) (0:Int)].length=1,∀ (i:Nat),i < [Ins.mk (7:Int) (0:Int) (0:Int) (gReg gm n.a (13:Int)) (0:Int) (0:Int) (0:Int) (0:Int) (0:Int)].length→i≠0→([Ins.mk (7:Int) (0:Int) (0:Int) (gReg gm n.a (13:Int)) (0:Int) (0:Int) (0:Int) (0:Int) (0:Int)].getD i ub).tc=fun x=>TC.any,(Ins.mk (7:Int) (0:Int) (0:Int) (gReg gm n.a (13:Int)) (0:Int) (0:Int) (0:Int) (0:Int) (0:Int)).tc 0=TC.val (jg jl (7:Int)),(Ins.mk (7:Int) (0:Int) (0:Int) (gReg gm n.a (13:Int)) (0:Int) (0:Int) (0:Int) (0:Int) (0:Int)).tc 1=TC.val (jg jl (0:Int)),(Ins.mk (7:Int) (0:Int) (0:Int) (gReg gm n.a (13:Int)) (0:Int) (0:Int) (0:Int) (0:Int) (0:Int)).tc 2=TC.val (jg ja (0:Int)),(Ins.mk (7:Int) (0:Int) (0:Int) (gReg gm n.a (13:Int)) (0:Int) (0:Int) (0:Int) (0:Int) (0:Int)).tc 3=TC.val (jg ja (gReg gm n.a (13:Int))),(Ins.mk (7:Int) (0:Int) (0:Int) (gReg gm n.a (13:Int)) (0:Int) (0:Int) (0:Int) (0:Int) (0:Int)).tc 4=TC.val (jg ja (0:Int)),(Ins.mk (7:Int) (0:Int) (0:Int) (gReg gm n.a (13:Int)) (0:Int) (0:Int) (0:Int) (0:Int) (0:Int)).tc 5=TC.val (jg ja (0:Int)),(Ins.mk (7:Int) (0:Int) (0:Int) (gReg gm n.a (13:Int)) (0:Int) (0:Int) (0:Int) (0:Int) (0:Int)).tc 6=TC.val (jg ja (0:Int)),(Ins.mk (7:Int) (0:Int) (0:Int) (gReg gm n.a (13:Int)) (0:Int) (0:Int) (0:Int) (0:Int) (0:Int)).tc 7=TC.val (jg ja (0:Int)),(Ins.mk (7:Int) (0:Int) (0:Int) (gReg gm n.a (13:Int)) (0:Int) (0:Int) (0:Int) (0:Int) (0:Int)).tc 8=TC.val (jg ja (0:Int))] W23
 exact Yh [0,1,2,3,4,5,6,10] [7,8] [(code++(gFetch gm n.a (13:Int)++putL gm.fr [Ins.mk (7:Int) (0:Int) (0:Int) (gReg gm n.a (13:Int)) (0:Int) (0:Int) (0:Int) (0:Int) (0:Int)])).length=(code++gFetch gm n.a (13:Int)++putL gm.fr [Ins.mk (7:Int) (0:Int) (0:Int) (gReg gm n.a (13:Int)) (0:Int) (0:Int) (0:Int) (0:Int) (0:Int)]).length,∀ (i:Nat),i<(code++(gFetch gm n.a (13:Int)++putL gm.fr [Ins.mk (7:Int) (0:Int) (0:Int) (gReg gm n.a (13:Int)) (0:Int) (0:Int) (0:Int) (0:Int) (0:Int)])).length→((code++(gFetch gm n.a (13:Int)++putL gm.fr [Ins.mk (7:Int) (0:Int) (0:Int) (gReg gm n.a (13:Int)) (0:Int) (0:Int) (0:Int) (0:Int) (0:Int)])).getD i ub).tc=((code++gFetch gm n.a (13:Int)++putL gm.fr [Ins.mk (7:Int) (0:Int) (0:Int) (gReg gm n.a (13:Int)) (0:Int) (0:Int) (0:Int) (0:Int) (0:Int)]).getD i ub).tc] W73
theorem Qi2 (g:Grf) (gm:Gm) (ac:Int) (n:Nod) (hn:NdQ gm n) (hg:GmQ gm) (code:List Ins) (hc:code.length≤100000) (hk:n.kind=8):Ctr jb 107 (zo g ac gm code) [.c (.p 0 0),.agg n.cs]
 (Det (.tup []) [zw g ac gm,.dead,.dead,.dead,.dead,.dead,.dead,Ins.ownR (code++gBranch gm n)]):=by
 refine Ctr.intro [] Tryz.func107 K K ?_
 refine Q0 (decide (n.els=n.next)) (fun h1=>?_) (fun h1=>?_)
 ·exact Q2 [0,1,2,3,4,5,6,4] [7,8] [(code++gBranch gm n).length=code.length,∀ (i:Nat),i<(code++gBranch gm n).length→((code++gBranch gm n).getD i ub).tc=(code.getD i ub).tc] W120
 ·refine tz [3,0] ?_
  refine Q3 Qp (Zc g gm ac n.a 13 W2 W2 code W2) [] ?_
  refine tz [13,3,0] ?_
  refine Q3 Qf (Yz g gm ac [Ins.mk (9:Int) (0:Int) (0:Int) (gReg gm n.a (13:Int)) (0:Int) (0:Int) n.els (0:Int) (0:Int)] (code++gFetch gm n.a (13:Int)) W2 W2) [0,1,2,3,8,5,6,9] ?_ [11,12,13,14,15,16,17,18,19,20,21] [[Ins.mk (9:Int) (0:Int) (0:Int) (gReg gm n.a (13:Int)) (0:Int) (0:Int) n.els (0:Int) (0:Int)].length=1,∀ (i:Nat),i < [Ins.mk (9:Int) (0:Int) (0:Int) (gReg gm n.a (13:Int)) (0:Int) (0:Int) n.els (0:Int) (0:Int)].length→i≠0→([Ins.mk (9:Int) (0:Int) (0:Int) (gReg gm n.a (13:Int)) (0:Int) (0:Int) n.els (0:Int) (0:Int)].getD i ub).tc=fun x=>TC.any,(Ins.mk (9:Int) (0:Int) (0:Int) (gReg gm n.a (13:Int)) (0:Int) (0:Int) n.els (0:Int) (0:Int)).tc 0=TC.val (jg jl (9:Int)),(Ins.mk (9:Int) (0:Int) (0:Int) (gReg gm n.a (13:Int)) (0:Int) (0:Int) n.els (0:Int) (0:Int)).tc 1=TC.val (jg jl (0:Int)),(Ins.mk (9:Int) (0:Int) (0:Int) (gReg gm n.a (13:Int)) (0:Int) (0:Int) n.els (0:Int) (0:Int)).tc 2=TC.val (jg ja (0:Int)),(Ins.mk (9:Int) (0:Int) (0:Int) (gReg gm n.a (13:Int)) (0:Int) (0:Int) n.els (0:Int) (0:Int)).tc 3=TC.val (jg ja (gReg gm n.a (13:Int))),(Ins.mk (9:Int) (0:Int) (0:Int) (gReg gm n.a (13:Int)) (0:Int) (0:Int) n.els (0:Int) (0:Int)).tc 4=TC.val (jg ja (0:Int)),(Ins.mk (9:Int) (0:Int) (0:Int) (gReg gm n.a (13:Int)) (0:Int) (0:Int) n.els (0:Int) (0:Int)).tc 5=TC.val (jg ja (0:Int)),(Ins.mk (9:Int) (0:Int) (0:Int) (gReg gm n.a (13:Int)) (0:Int) (0:Int) n.els (0:Int) (0:Int)).tc 6=TC.val (jg ja n.els),(Ins.mk (9:Int) (0:Int) (0:Int) (gReg gm n.a (13:Int)) (0:Int) (0:Int) n.els (0:Int) (0:Int)).tc 7=TC.val (jg ja (0:Int)),(Ins.mk (9:Int) (0:Int) (0:Int) (gReg gm n.a (13:Int)) (0:Int) (0:Int) n.els (0:Int) (0:Int)).tc 8=TC.val (jg ja (0:Int))] W23
  exact Yh [0,1,2,3,4,5,6,10] [7,8] [(code++gBranch gm n).length=(code++gFetch gm n.a (13:Int)++putL gm.fr [Ins.mk (9:Int) (0:Int) (0:Int) (gReg gm n.a (13:Int)) (0:Int) (0:Int) n.els (0:Int) (0:Int)]).length,∀ (i:Nat),i<(code++gBranch gm n).length→((code++gBranch gm n).getD i ub).tc=((code++gFetch gm n.a (13:Int)++putL gm.fr [Ins.mk (9:Int) (0:Int) (0:Int) (gReg gm n.a (13:Int)) (0:Int) (0:Int) n.els (0:Int) (0:Int)]).getD i ub).tc] W120
abbrev zbr:Ins:=Ins.mk (10:Int) (0:Int) (0:Int) (0:Int) (0:Int) (0:Int) (0:Int) (0:Int) (0:Int)
theorem Qpj (g:Grf) (gm:Gm) (ac:Int) (n:Nod) (hn:NdQ gm n) (hg:GmQ gm) (code:List Ins) (hc:code.length≤100000) (hk:n.kind=9):Ctr jb 108 (zo g ac gm code) (zbT n)
 (Det (.tup []) [zw g ac gm,.dead,.dead,.dead,.dead,.dead,.dead,Ins.ownR (code++putL gm.fr [Ins.mk 10 0 0 0 0 0 0 0 0])]):=by
 refine Ctr.intro [] Tryz.func108 K K ?_
 refine Q3 Qf (Yz g gm ac [zbr] code W2 W2) zcI ?_ zbH [[zbr].length=1,∀ (i:Nat),i < [zbr].length→i≠0→([zbr].getD i ub).tc=fun x=>TC.any,(zbr).tc 0=TC.val (jg jl (10:Int)),(zbr).tc 1=TC.val (zb6),(zbr).tc 2=TC.val (zbh),(zbr).tc 3=TC.val (zbh),(zbr).tc 4=TC.val (zbh),(zbr).tc 5=TC.val (zbh),(zbr).tc 6=TC.val (zbh),(zbr).tc 7=TC.val (zbh),(zbr).tc 8=TC.val (zbh)] W23
 exact Yh zcV
abbrev zaW (y0:Nat) (y1:Int → Option Int) (y2:List Ins):Reg:=Reg.mp MTi (y0+4) (fun a=>((innF y1 (y2.length:Int)) a).isSome) (fun a=>((innF y1 (y2.length:Int)) a).getD (0:Int)) none
abbrev zbf:MT:=(MT.mk jb 88 3 3 [CK.i ja] false [CK.i ja] false)
abbrev zcK:Ins:=Ins.mk (1:Int) (0:Int) (15:Int) (0:Int) (0:Int) (0:Int) (0:Int) (1:Int) (0:Int)
abbrev zbv (y0:Gm) (y1:Nod) (y2:List Ins):List Ins:=[zcK,Ins.mk (5:Int) (0:Int) (15:Int) (0:Int) (0:Int) (y0.shared+y1.thing) (0:Int) (0:Int) (0:Int),Ins.mk (9:Int) (0:Int) (0:Int) (15:Int) (0:Int) (0:Int) ((↑y2.length:Int)+(4:Int)) (0:Int) (0:Int),Ins.mk (8:Int) (0:Int) (0:Int) (0:Int) (0:Int) (0:Int) (↑y2.length:Int) (0:Int) (0:Int)]
abbrev zdi:Value:=jg ja (1:Int)
abbrev zdn (y0:List Ins):Value:=jg ja (↑y0.length:Int)
theorem Qnn (g:Grf) (gm:Gm) (ac:Int) (n:Nod) (hn:NdQ gm n) (hg:GmQ gm) (code:List Ins) (hc:code.length≤100000) (cN:Nat) (F:Int→Option Int) (hc2:cN≤1000000) (hk:n.kind=5):Ctr jb 104 [zX g ac gm,.dead,Plc.rowR gm.ps,.dead,Ins.ownR code,Reg.mp MTi cN (fun a=>(F a).isSome) (fun a=>(F a).getD (0:Int)) none,.dead] (zbT n)
 (Det (.tup []) [zw g ac gm,.dead,.dead,.dead,.dead,zaW cN F code,.dead,Ins.ownR (code++putL gm.fr [Ins.mk 1 0 15 0 0 0 0 1 0,Ins.mk 5 0 15 0 0 (gm.shared+n.thing) 0 0 0,Ins.mk 9 0 0 15 0 0 ((code.length:Int)+4) 0 0,Ins.mk 8 0 0 0 0 0 (code.length:Int) 0 0])]):=by
 refine Ctr.intro [] Tryz.func104 K K ?_
 refine RunF.mentR (vc:=[Fits ja ((↑code.length:Int)+(2:Int)),Fits ja ((↑code.length:Int)+(3:Int))]) (vc2:=[Fits ja ((↑code.length:Int)+(2:Int)),MTi.P=jb,cN<maxLen]) 5 K W56 K W56 (fun _=>by kernel_rfl) (fun st1=>?_)
 refine tz [22,21,20,19,18,17,16,15,14,13,12,11,10,4,3,0] ?_
 refine RunF.mentR (vc:=[Fits ja ((↑code.length:Int)+(2:Int)),zbf.P=jb,cN+1<maxLen,st1=st1]) (vc2:=[Fits ja ((↑code.length:Int)+(3:Int)),zbf.P=jb,cN+1+1<maxLen]) 5 K W56 K W56 (fun _=>by kernel_rfl) (fun st2=>?_)
 refine tz [24,23,22,21,20,19,18,17,16,15,14,13,12,11,10,4,3,0] ?_
 refine Q3 Qf (Yz g gm ac (zbv gm n code) code W2 W2) zcI ?_ [11,12] [(zbv gm n code).length=4,∀ (i:Nat),i < (zbv gm n code).length→((zbv gm n code).getD i ub).tc=rowT 9 [zdp,zb6,zbQ,zbh,zbh,zbh,zbh,zdi,zbh,jg jl (5:Int),zb6,zbQ,zbh,zbh,jg ja (gm.shared+n.thing),zbh,zbh,zbh,jg jl (9:Int),zb6,zbh,zbQ,zbh,zbh,jg ja ((↑code.length:Int)+(4:Int)),zbh,zbh,jg jl (8:Int),zb6,zbh,zbh,zbh,zbh,zdn code,zbh,zbh] i] W23 (vc:=[Fits ja ((↑code.length:Int)+(3:Int)),zbf.P=jb,cN+1+1+1<maxLen,st2=st2,Fits ja (gm.shared+n.thing),Fits ja ((↑code.length:Int)+(4:Int))]) (hv:=W56)
 exact Yh zcV [7] [MpEq MTi (cN+4) (fun (a:Int)=>(innF F (↑code.length:Int) a).isSome) (fun (a:Int)=>(innF F (↑code.length:Int) a).getD (0:Int)) none zbf (cN+1+1+1+1) (fun (p:Int)=>decide (p=(↑code.length:Int)+(3:Int))||(decide (p=(↑code.length:Int)+(3:Int))||(decide (p=(↑code.length:Int)+(2:Int))||(decide (p=(↑code.length:Int)+(2:Int))||(F p).isSome)))) (fun (p:Int)=>if p=(↑code.length:Int)+(3:Int) then (1:Int) else if p=(↑code.length:Int)+(2:Int) then (1:Int) else (F p).getD (0:Int)) none] (by simp only [Conj];(repeat' apply jo)<;>first | trivial | rfl | (intros;first | trivial | rfl) | exact Qoq _ _ _)
abbrev za:Reg:=Reg.mpv (MT.mk jb 123 97 104 [CK.i jl] false [] false) kA 9 [((9:Int),C.fn 108 true [0]),((8:Int),C.fn 107 true [0]),((7:Int),C.fn 106 true [0]),((6:Int),C.fn 105 true [0]),((5:Int),C.fn 104 true [0]),((4:Int),C.fn 103 true [0]),((3:Int),C.fn 102 true [0]),((2:Int),C.fn 101 true [0]),((1:Int),C.fn 100 true [0])]
abbrev zaM:List Reg:=[.dead,.dead,.dead,.dead,.dead,.dead,.dead,Reg.mpv MTm .nilFunc 9 mkEnts]
abbrev zbo:MT:=(MT.mk jb 123 97 104 [CK.i jl] false [] false)
theorem Qkj (g:Grf) (gm:Gm) (ac:Int):Ctr jb 61 [zad g ac gm,.dead,.dead,.dead,.dead,.dead,.dead] [.c (.p 0 0)]
 (Det (.c (.h 7)) zaM):=by
 refine Ctr.intro [] Tryz.func61 K K ?_
 exact Q2 [] [0] [Reg.mpv MTm kA 9 (List.map (fun x=>(x.fst,C.ren (at' [0,1,2,3,4,5,6,7]) x.snd)) mkEnts)=za] (by simp only [Conj];(repeat' apply jo)<;>first | trivial | rfl) (vc:=[zbo.P=jb,zbo.OkV kA,Fits jl (1:Int),zbo.P=jb,0<maxLen,Fits jl (2:Int),zbo.P=jb,1<maxLen,Fits jl (3:Int),zbo.P=jb,2<maxLen,Fits jl (4:Int),zbo.P=jb,3<maxLen,Fits jl (5:Int),zbo.P=jb,4<maxLen,Fits jl (6:Int),zbo.P=jb,5<maxLen,Fits jl (7:Int),zbo.P=jb,6<maxLen,Fits jl (8:Int),zbo.P=jb,7<maxLen,Fits jl (9:Int),zbo.P=jb,8<maxLen]) (hv:=(by simp only [Conj,Fits,Q8,Q9,Qa,Qb,News.len,maxLen]<;>(repeat' (first | apply jo | intro _))<;>first | rfl | exact Qe0 | grind | (simp only [BL] at *;omega)))
end Go.Proofs.YtnddggenhefaeaaGreatDoor
end
