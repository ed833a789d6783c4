/-
  A part of the proof. Text 7 of 9: Leaf123 Leaf128 Leaf129 Leaf131 Leaf132 Leaf133 Leaf134 TxP Leaf140 Leaf141 Leaf142 Leaf143 Leaf144 Leaf145 Leaf146.
-/
import Derived.Test.YtnddggenhefaeaaDoorP4
import Derived.Test.YtnddggenhefaeaaDoorP5
import Derived.Test.YtnddggenhefaeaaDoorP6
import Derived.WalkKit
set_option linter.unusedSimpArgs false
set_option linter.unusedVariables false
set_option maxHeartbeats 4000000
set_option linter.unusedSectionVars false
open And renaming intro→jn
open Go.Value renaming string→jF,int→jf,slice→jg
open List renaming replicate→ji,length_set→jt,take→jS,getD_eq_getElem?_getD→jb,getElem?_set_ne→jC,getElem?_set_self→jE,mem_of_getElem?→jq,length_map→jK,length_replicate→jG,length→jW,length_append→jl,length_singleton→ki
open Int renaming le_refl→jA
open Go.IntKind renaming i64→ja,u32→jv,u8→jz
open Bool renaming not_eq_false'→kC
open Go.BinOp renaming and→kt,or→kQ
open Inhabited renaming default→ub
noncomputable section
namespace Go.Proofs.YtnddggenhefaeaaDoor
open Go Go.Tx
abbrev zbv:Reg:=Reg.box 49 [C.h 3]
def vP (P:List Int) (U:List Int) (a:Int) (b:Int):Lp (Int×Int):=⟨fun x=>{ N:=37,fr:=[se 6 (C.i .i64 0),se 0 (C.i .i64 x.1),se 1 (C.i .i64 x.2),se 2 (C.p 0 0),zbf],rg:=[za1,zbv,IntOwn P,IntOwn U],wr:=[] },fun x=>MtJ P U a b x.1 x.2,fun x=>(P.getD x.1.toNat 0+P.getD x.2.toNat 0).toNat⟩
abbrev zbE (y0 y1:Int) (y2 y3:List Int):St:={ N:=37,fr:=[se 6 (C.i .i64 0),se 0 (C.i .i64 y0),se 1 (C.i .i64 y1),se 2 (C.p 0 0),zbf],rg:=[za1,zbv,IntOwn y2,IntOwn y3],wr:=[] }
def vD (P:List Int) (U:List Int) (ue:Int) (uj:Int) (a:Int) (b:Int):Lp (Int):=⟨fun x=>(zbE x uj P U),fun x=>MtJ P U a b x uj∧(x=ue∨P.getD x.toNat 0<P.getD ue.toNat 0),fun x=>(P.getD x.toNat 0).toNat⟩
def vE (P:List Int) (U:List Int) (uj:Int) (uh:Int) (a:Int) (b:Int) (ue:Int):Lp (Int):=⟨fun x=>(zbE uh x P U),fun x=>MtJ P U a b uh x∧((uh=ue∧x=uj)∨P.getD uh.toNat 0+P.getD x.toNat 0<P.getD ue.toNat 0+P.getD uj.toNat 0),fun x=>(P.getD x.toNat 0).toNat⟩
abbrev zbU (y0:Int) (y1:List Int) (y2:Int):List Prop:=[(0:Int)≤y0,y0<(↑y1.length:Int),y0.toNat<y1.length,(0:Int)≤y2,y2<(↑y1.length:Int),y2.toNat<y1.length]
theorem Qo8 (P U:List Int) (a b:Int) (hM:MtH P U) (ha:MtS U a) (hb:MtS U b):Ctr Tryd.prog 88 [Reg.box 49 [.h 2],Reg.box 49 [.h 3],IntOwn P,IntOwn U] [zc6 a,zc6 b,.c (.p 0 0),.c (.p 1 0)]
 (Det (.c (.i .i64 (mtF P U a b))) [Reg.box 49 [.h 2],Reg.box 49 [.h 3],IntOwn P,IntOwn U]):=by
 refine Ctr.intro [] Tryd.func88 K K ?_
 refine Q9 (vP P U a b) ((a,b)) (.start ha hb) ?_
 rintro ⟨ue,uj⟩ hJ1
 dsimp only [vP] at hJ1
 refine tz [6,0,1,2,3] ?_
 refine Q0 (!decide (ue=uj)) (fun h2=>?_) (fun h2=>?_)
 ·refine tz [6,0,1,2,3] ?_
  refine Q9 (vD P U ue uj a b) (ue) (⟨hJ1,.inl rfl⟩) ?_
  rintro uh hJ3
  dsimp only [vD] at hJ3
  refine tz [6,0,1,2,3] ?_
  refine Q0 (decide (P.getD uj.toNat 0<P.getD uh.toNat 0)) (fun h4=>?_) (fun h4=>?_) (vc:=(zbU uh P uj)) (hv:=W63)
  ·exact Q4 (vD P U ue uj a b) uh (U.getD uh.toNat 0) (by dsimp only [vD];have z:=hJ3.1.one hM (uc h4);omega) (by dsimp only [vD];have z:=hJ3.1.one hM (uc h4);exact ⟨z.1,.inr (by rcases hJ3.2 with e | e<;>first | (rw [← e];exact z.2.1) | omega)⟩) (vc:=(zaP uh U)) (hv:=W63)
  ·refine tz [6,0,1,2,3] ?_
   refine Q9 (vE P U uj uh a b ue) (uj) (⟨hJ3.1,by rcases hJ3.2 with e | e<;>first | exact .inl ⟨e,rfl⟩ | exact .inr W31⟩) ?_
   rintro uk hJ5
   dsimp only [vE] at hJ5
   refine tz [6,0,1,2,3] ?_
   refine Q0 (decide (P.getD uh.toNat 0<P.getD uk.toNat 0)) (fun h6=>?_) (fun h6=>?_) (vc:=(zbU uk P uh)) (hv:=W63)
   ·exact Q4 (vE P U uj uh a b ue) uk (U.getD uk.toNat 0) (by dsimp only [vE];have z:=hJ5.1.two hM (uc h6);omega) (by dsimp only [vE];have z:=hJ5.1.two hM (uc h6);exact ⟨z.1,.inr (by rcases hJ5.2 with ⟨e,e1⟩ | e<;>first | (rw [← e,← e1];omega) | omega)⟩) (vc:=(zaP uk U)) (hv:=W63)
   ·exact Q4 (vP P U a b) (ue,uj) ((uh,uk)) (by dsimp only [vP];(have q4:=ud h4;have q6:=ud h6;have p1:=hM.pos _ hJ5.1.1;have p2:=hM.pos _ hJ5.1.2.1;rcases hJ5.2 with ⟨rfl,rfl⟩ | e<;>first | omega | exact absurd (hM.one _ _ hJ5.1.1 hJ5.1.2.1 (by omega)) (ud (nb3 h2)))) (hJ5.1)
 ·exact Q3 [] [4] [mtF P U a b=ue] (by have e:=hJ1.done (uc (nb1 h2));rw [e]<;>(try simp only [Conj])<;>(repeat' apply jn)<;>first | rfl | trivial)
abbrev zbL (y0:Grf):Reg:=IntRow (ordL y0.nodes)
def vF (g:Grf):Lp (Int×List Int):=⟨fun x=>{ N:=85,fr:=[se 31 (C.i .i64 x.1),se 30 (C.i .i64 (↑g.nodes.length:Int)),se 6 (C.p 7 0),se 5 (C.h 5),se 3 (C.h 2),se 4 (C.p 4 0),zO],rg:=[rowOf 13 (·.tc) g.nodes,ze g,zbL g,zb6 g,zbv,rowOf 1 (·.tc) (aheadL g.nodes),IntOwn (x.2),Reg.box 49 [C.h 6]],wr:=[] },fun x=>0≤x.1∧x.1≤(g.nodes.length:Int)∧x.2=filF g.nodes.length x.1.toNat,fun x=>((g.nodes.length:Int)-x.1).toNat⟩
abbrev zce:En:=se 8 (C.fn 88 false [4,7])
def vQ (g:Grf) (uo:List Int):Lp (Bool×List Int):=⟨fun x=>{ N:=85,fr:=[se 9 (C.b x.1),zce,se 6 (C.p 7 0),se 5 (C.h 5),se 3 (C.h 2),zO],rg:=[rowOf 13 (·.tc) g.nodes,ze g,zbL g,zb6 g,zbv,rowOf 1 (·.tc) (aheadL g.nodes),IntOwn (x.2),Reg.box 49 [C.h 6]],wr:=[] },fun x=>DmJ g.nodes x.2∧(x.1=false→rnF g.nodes x.2=x.2),fun x=>(if x.1=true then 1+lfF g.nodes g.nodes.length x.2 else 0)⟩
abbrev zbN (y0:Grf):Reg:=Reg.row 1 ((ordL y0.nodes).length-1) (fun i=>i64T ((ordL y0.nodes).getD (1+i) 0)) none
def vk (g:Grf) (ux:List Int):Lp (Int×Bool×List Int):=⟨fun x=>{ N:=85,fr:=[se 45 (C.i .i64 x.1),{ slot:=44,g:=[],sv:=SV.c (C.i .i64 (↑((ordL g.nodes).length-1):Int)) },se 43 (C.h 8),se 9 (C.b x.2.1),zce,se 6 (C.p 7 0),se 5 (C.h 5),se 3 (C.h 2),zO],rg:=[rowOf 13 (·.tc) g.nodes,ze g,zbL g,zb6 g,zbv,rowOf 1 (·.tc) (aheadL g.nodes),IntOwn (x.2.2),Reg.box 49 [C.h 6],zbN g],wr:=[] },fun x=>RnJ g.nodes ux x.2.2 x.1 x.2.1,fun x=>(((tlF g.nodes).length:Int)-x.1).toNat⟩
def u9 (g:Grf) (uv:Int) (uI:Bool) (uF:List Int):Lp (Int×Int):=⟨fun x=>{ N:=85,fr:=[se 54 (C.i .i64 x.1),{ slot:=53,g:=[],sv:=SV.c (C.i .i64 (↑((aheadL g.nodes).getD ((ordL g.nodes).getD (1+uv.toNat) 0).toNat ub).l.length:Int)) },se 52 (C.h 9),se 12 (C.i .i64 x.2),se 11 (C.i .i64 ((ordL g.nodes).getD (1+uv.toNat) 0)),se 45 (C.i .i64 uv),{ slot:=44,g:=[],sv:=SV.c (C.i .i64 (↑((ordL g.nodes).length-1):Int)) },se 43 (C.h 8),se 9 (C.b uI),zce,se 6 (C.p 7 0),se 5 (C.h 5),se 3 (C.h 2),zO],rg:=[rowOf 13 (·.tc) g.nodes,ze g,zbL g,zb6 g,zbv,Reg.row 1 (aheadL g.nodes).length (fun i=>((aheadL g.nodes).getD i ub).tc) (some (((ordL g.nodes).getD (1+uv.toNat) 0).toNat,[C.h 9])),IntOwn uF,Reg.box 49 [C.h 6],zbN g,Reg.row 1 ((aheadL g.nodes).getD ((ordL g.nodes).getD (1+uv.toNat) 0).toNat ub).l.length (fun i=>i64T (((aheadL g.nodes).getD ((ordL g.nodes).getD (1+uv.toNat) 0).toNat ub).l.getD i 0)) none],wr:=[] },fun x=>BsJ (plcL g.nodes) uF ((aheadL g.nodes).getD ((ordL g.nodes).getD (1+uv.toNat) 0).toNat ub).l x.1 x.2,fun x=>((((aheadL g.nodes).getD ((ordL g.nodes).getD (1+uv.toNat) 0).toNat ub).l.length:Int)-x.1).toNat⟩
abbrev zbg (y0:List Int):List Prop:=[(0:Int)≤(0:Int),(0:Int)<(↑y0.length:Int),0<y0.length]
abbrev zbi (y0:Grf):Reg:=IntOwn (domL y0.nodes)
abbrev zbJ (y0:Grf):En:=En.mk 23 [] (SV.agg [C.v (jF y0.name),C.i .i64 y0.locals,C.i .i64 y0.slots,C.h 0])
abbrev zbY:En:=En.mk 20 [] (SV.tup [(false,[C.h 2]),(false,[C.h 3])])
theorem Qq2 (g:Grf) (hq:zJ g) (hN:1≤g.nodes.length∧g.nodes.length≤4096) (hk:zV g):Ctr Tryd.prog 71 [zav g] [.agg (g.cs 0)]
 (Det (.c (.h 1)) [.dead,zbi g]):=by
 refine Ctr.intro [] Tryd.func71 K K ?_
 refine Q2 J3 (Q4b g W47 W47 W47) [] ?_
 refine tz [16,2,1] ?_
 refine Q0 (!true) (fun h1=>?_) (fun h1=>?_)
 ·exact absurd h1 W80
 ·refine tz [2,1] ?_
  refine Q2 Q6m (Qcl g W47 W47) [] ?_
  refine tWk (St.mk 85 [zbY,En.mk 19 [] (SV.agg [C.v (jF g.name),C.i .i64 g.locals,C.i .i64 g.slots,C.h 0]),zO,za5] [rowOf 13 (·.tc) g.nodes,ze g,zbL g,zb6 g] []) ?_
  refine tz [20,2,1] ?_
  refine Q2 Q4t (Qdo g W47 W47 W47) [] ?_
  refine tWk (St.mk 85 [se 24 (C.h 5),zbJ g,se 3 (C.h 2),se 4 (C.p 4 0),se 22 (C.h 3),se 21 (C.h 2),En.mk 18 [] (SV.tup [(false,[C.h 2]),(false,[C.h 3])]),zbY,zO,za5] [rowOf 13 (·.tc) g.nodes,ze g,zbL g,zb6 g,zbv,rowOf 1 (·.tc) (aheadL g.nodes)] []) ?_
  refine tz [24,3,4,2,1] ?_
  refine Q9 (vF g) (((0:Int),ji g.nodes.length (0:Int))) (⟨jA _,by omega,(Qgy _).symm⟩) ?_ [] [11,12] (zai g) W36 (vc:=(zas g)) (hv:=W19)
  rintro ⟨uf,uo⟩ hJ2
  dsimp only [vF] at hJ2
  refine tz [31,30,6,5,3,4,2] ?_
  refine Q0 (decide (uf<(↑g.nodes.length:Int))) (fun h3=>?_) (fun h3=>?_)
  ·exact Q4 (vF g) (uf,uo) ((uf+(1:Int),uo.set uf.toNat (-1:Int))) (by dsimp only [vF];have q:=uc h3;omega) (by dsimp only [vF];have q:=uc h3;refine ⟨by omega,by omega,?_⟩;rw [hJ2.2.2];exact Qgz hJ2.1 q) [] [11,12] [(uo.set uf.toNat (-1:Int)).length=uo.length,∀ (i:Nat),i<(uo.set uf.toNat (-1:Int)).length→i64T ((uo.set uf.toNat (-1:Int)).getD i 0)=updT (fun i=>i64T (uo.getD i 0)) uf.toNat 0 [jf ja (-1:Int)] i] W36 (vc:=[(0:Int)≤uf,uf<(↑uo.length:Int),uf.toNat<uo.length,Fits ja (uf+(1:Int))]) (hv:=W19)
  ·refine tz [31,30,6,5,3,4,2] ?_
   refine Q9 (vQ g uo) ((true,dm0 g.nodes)) (⟨DmJ.start _,fun h=>absurd h W149⟩) ?_ [] [11,12] [(dm0 g.nodes).length=uo.length,∀ (i:Nat),i<(dm0 g.nodes).length→i64T ((dm0 g.nodes).getD i 0)=updT (fun i=>i64T (uo.getD i 0)) 0 0 [jf ja (0:Int)] i] W36 (vc:=(zbg uo)) (hv:=W19)
   rintro ⟨ur,ux⟩ hJ4
   dsimp only [vQ] at hJ4
   refine tz [9,8,6,5,3,2] ?_
   refine Q0 (ur) (fun h5=>?_) (fun h5=>?_)
   ·refine tz [9,8,6,5,3,2] ?_
    refine Q9 (vk g ux) (((0:Int),false,ux)) (RnJ.start _) ?_ (vc:=[(0:Int)≤(1:Int),(1:Int)≤(↑(ordL g.nodes).length:Int),(↑(ordL g.nodes).length:Int)≤(↑(ordL g.nodes).length:Int)]) (hv:=W19)
    rintro ⟨uv,uI,uF⟩ hJ6
    dsimp only [vk] at hJ6
    refine tz [45,44,43,9,8,6,5,3,2] ?_
    refine Q0 (decide (uv<(↑((ordL g.nodes).length-1):Int))) (fun h7=>?_) (fun h7=>?_)
    ·refine Y3 5 (((ordL g.nodes).getD (1+uv.toNat) 0).toNat) ?_ (vc:=[((ordL g.nodes).getD (1+uv.toNat) 0).toNat<(aheadL g.nodes).length]) (hv:=W19)
     refine tz [45,44,43,9,8,6,5,3,2] ?_
     refine Q9 (u9 g uv uI uF) (((0:Int),(-1:Int))) (BsJ.start _ _ _) ?_ (vc:=[(0:Int)≤uv,uv<(↑((ordL g.nodes).length-1):Int),uv.toNat<(ordL g.nodes).length-1,(0:Int)≤(ordL g.nodes).getD (1+uv.toNat) 0,(ordL g.nodes).getD (1+uv.toNat) 0<(↑(aheadL g.nodes).length:Int),((ordL g.nodes).getD (1+uv.toNat) 0).toNat=((ordL g.nodes).getD (1+uv.toNat) 0).toNat]) (hv:=W19)
     rintro ⟨uD,uC⟩ hJ8
     dsimp only [u9] at hJ8
     refine tz [54,53,52,12,11,45,44,43,9,8,6,5,3,2] ?_
     refine Q0 (decide (uD<(↑((aheadL g.nodes).getD ((ordL g.nodes).getD (1+uv.toNat) 0).toNat ub).l.length:Int))) (fun h9=>?_) (fun h9=>?_)
     ·refine tz [54,53,52,12,11,45,44,43,9,8,6,5,3,2] ?_
      refine Q0 (decide (uF.getD (((aheadL g.nodes).getD ((ordL g.nodes).getD (1+uv.toNat) 0).toNat ub).l.getD uD.toNat 0).toNat (0:Int)<(0:Int))) (fun h10=>?_) (fun h10=>?_) (vc:=[(0:Int)≤uD,uD<(↑((aheadL g.nodes).getD ((ordL g.nodes).getD (1+uv.toNat) 0).toNat ub).l.length:Int),uD.toNat<((aheadL g.nodes).getD ((ordL g.nodes).getD (1+uv.toNat) 0).toNat ub).l.length,(0:Int)≤((aheadL g.nodes).getD ((ordL g.nodes).getD (1+uv.toNat) 0).toNat ub).l.getD uD.toNat 0,((aheadL g.nodes).getD ((ordL g.nodes).getD (1+uv.toNat) 0).toNat ub).l.getD uD.toNat 0<(↑uF.length:Int),(((aheadL g.nodes).getD ((ordL g.nodes).getD (1+uv.toNat) 0).toNat ub).l.getD uD.toNat 0).toNat<uF.length]) (hv:=W19)
      ·exact Q4 (u9 g uv uI uF) (uD,uC) ((uD+(1:Int),uC)) W168 W82 (vc:=(zD uD)) (hv:=W19)
      ·refine tz [14,54,53,52,12,11,45,44,43,9,8,6,5,3,2] ?_
       refine Q0 (decide (uC<(0:Int))) (fun h11=>?_) (fun h11=>?_)
       ·exact Q4 (u9 g uv uI uF) (uD,uC) ((uD+(1:Int),((aheadL g.nodes).getD ((ordL g.nodes).getD (1+uv.toNat) 0).toNat ub).l.getD uD.toNat 0)) W168 W82 (vc:=(zD uD)) (hv:=W19)
       ·refine tz [14,54,53,52,12,11,45,44,43,9,8,6,5,3,2] ?_
        refine Q2 Q3s (Qo8 (plcL g.nodes) uF uC (((aheadL g.nodes).getD ((ordL g.nodes).getD (1+uv.toNat) 0).toNat ub).l.getD uD.toNat 0) W47 W47 W47) [4,7,3,6] ?_
        exact Q4 (u9 g uv uI uF) (uD,uC) ((uD+(1:Int),mtF (plcL g.nodes) uF uC (((aheadL g.nodes).getD ((ordL g.nodes).getD (1+uv.toNat) 0).toNat ub).l.getD uD.toNat 0))) W168 W82 (vc:=(zD uD)) (hv:=W19)
     ·refine tz [54,53,52,12,11,45,44,43,9,8,6,5,3,2] ?_
      refine Q0 (!decide (uF.getD ((ordL g.nodes).getD (1+uv.toNat) 0).toNat (0:Int)=uC)) (fun h10=>?_) (fun h10=>?_) (vc:=[(0:Int)≤(ordL g.nodes).getD (1+uv.toNat) 0,(ordL g.nodes).getD (1+uv.toNat) 0<(↑uF.length:Int),((ordL g.nodes).getD (1+uv.toNat) 0).toNat<uF.length]) (hv:=W19)
      ·exact Q4 (vk g ux) (uv,uI,uF) ((uv+(1:Int),true,uF.set ((ordL g.nodes).getD (1+uv.toNat) 0).toNat uC)) W177 W137 [] [11,12] [(uF.set ((ordL g.nodes).getD (1+uv.toNat) 0).toNat uC).length=uF.length,∀ (i:Nat),i<(uF.set ((ordL g.nodes).getD (1+uv.toNat) 0).toNat uC).length→i64T ((uF.set ((ordL g.nodes).getD (1+uv.toNat) 0).toNat uC).getD i 0)=updT (fun i=>i64T (uF.getD i 0)) ((ordL g.nodes).getD (1+uv.toNat) 0).toNat 0 [jf ja uC] i] W36 (vc:=[(0:Int)≤(ordL g.nodes).getD (1+uv.toNat) 0,(ordL g.nodes).getD (1+uv.toNat) 0<(↑uF.length:Int),((ordL g.nodes).getD (1+uv.toNat) 0).toNat<uF.length,Fits ja (uv+(1:Int))]) (hv:=W19)
      ·exact Q4 (vk g ux) (uv,uI,uF) ((uv+(1:Int),uI,uF)) W177 W137 (vc:=(zD uv)) (hv:=W19)
    ·exact Q4 (vQ g uo) (ur,ux) ((uI,uF)) (by dsimp only [vQ];rw [if_pos h5];exact hJ6.less hq (by omega) hJ4.1 (ud h7)) (hJ6.both hq W31 hJ4.1 (ud h7))
   ·exact Q3 [0,6] [0,1] [(domL g.nodes).length=ux.length,∀ (i:Nat),i<(domL g.nodes).length→i64T ((domL g.nodes).getD i 0)=updT (fun i=>i64T (ux.getD i 0)) 0 0 [jf ja (-1:Int)] i] (by simp only [Conj];have e:=hJ4.1.fin hq (by omega) (hJ4.2 h5);rw [← e];exact ⟨jt,Qq _ _ _⟩) (vc:=(zbg ux)) (hv:=W19)
theorem Qjg (g:Grf) (u b:Int) (hM:UpH (plcL g.nodes) (domL g.nodes)) (hb:b<((domL g.nodes).length:Int)):Ctr Tryd.prog 73 [zbT,zbi g] [zc6 u,zc6 b,.c (.p 0 0)]
 (Det (.c (.b (upF (plcL g.nodes) (domL g.nodes) u b))) [zbT,zbi g]):=by
 exact Qm2 (plcL g.nodes) (domL g.nodes) u b hM hb
theorem Qjh:MT.Ok (MT.mk Tryd.prog 133 3 4 [CK.i ja] false [CK.b] false):=MT.ok_int K K (.inr rfl) (fun w=>by kernel_rfl)
abbrev zbk (y0:Grf):En:=se 32 (C.i .i64 (↑y0.nodes.length:Int))
abbrev zb4:En:=se 6 (C.fn 73 false [3])
def vn (g:Grf):Lp (Int×List Int):=⟨fun x=>{ N:=119,fr:=[se 33 (C.i .i64 x.1),zbk g,se 7 (C.h 6),zb4,se 5 (C.h 5),se 4 (C.h 4),zO],rg:=[rowOf 13 (·.tc) g.nodes,ze g,zbi g,za1,rowOf 1 (·.tc) (rchL g.nodes),rowOf 1 (·.tc) (aheadL g.nodes),IntOwn (x.2)],wr:=[] },fun x=>DpO g.nodes.length x.1 x.2,fun x=>((g.nodes.length:Int)-x.1).toNat⟩
abbrev zao (y0:Grf) (y1:Int):Reg:=Reg.row 1 ((aheadL y0.nodes).getD y1.toNat ub).l.length (fun i=>i64T (((aheadL y0.nodes).getD y1.toNat ub).l.getD i 0)) none
def vb (g:Grf) (uh:Int) (um:List Int):Lp (Int×List Int×Nat×(Int→Option (Bool))):=⟨fun x=>{ N:=119,fr:=[se 47 (C.i .i64 x.1),{ slot:=46,g:=[],sv:=SV.c (C.i .i64 (↑((aheadL g.nodes).getD uh.toNat ub).l.length:Int)) },se 45 (C.h 7),se 10 (C.h 9),se 9 (C.h 8),se 8 (C.i .i64 uh),se 33 (C.i .i64 uh),zbk g,se 7 (C.h 6),zb4,se 5 (C.h 5),se 4 (C.h 4),zO],rg:=[rowOf 13 (·.tc) g.nodes,ze g,zbi g,za1,rowOf 1 (·.tc) (rchL g.nodes),Reg.row 1 (aheadL g.nodes).length (fun i=>((aheadL g.nodes).getD i ub).tc) (some (uh.toNat,[C.h 7])),IntOwn um,zao g uh,Reg.mp (MT.mk Tryd.prog 133 3 4 [CK.i ja] false [CK.b] false) (x.2.2.1) (fun a=>(x.2.2.2 a).isSome) (fun a=>(x.2.2.2 a).getD (false)) none]++[IntOwn x.2.1],wr:=[] },fun x=>DpA g.nodes.length ((aheadL g.nodes).getD uh.toNat ub).l.length x.1 x.2.1 x.2.2.1 x.2.2.2,fun x=>((((aheadL g.nodes).getD uh.toNat ub).l.length:Int)-x.1).toNat⟩
def vR (g:Grf) (uh:Int) (um:List Int) (uI:List Int) (uF:Nat) (uM:Int→Option Bool):Lp (Nat×(Int→Option (Bool))×List Int):=⟨fun x=>{ N:=119,fr:=[se 10 (C.h 9),se 9 (C.h 8),se 33 (C.i .i64 uh),zbk g,se 7 (C.h 6),zb4,se 5 (C.h 5),se 4 (C.h 4),zO],rg:=[rowOf 13 (·.tc) g.nodes,ze g,zbi g,za1,rowOf 1 (·.tc) (rchL g.nodes),rowOf 1 (·.tc) (aheadL g.nodes),IntOwn um,zao g uh,Reg.mp (MT.mk Tryd.prog 133 3 4 [CK.i ja] false [CK.b] false) (x.1) (fun a=>(x.2.1 a).isSome) (fun a=>(x.2.1 a).getD (false)) none,IntOwn (x.2.2)],wr:=[] },fun x=>DpB g.nodes.length x.1 x.2.1 x.2.2,fun x=>unmF g.nodes.length x.2.1 * (2 * g.nodes.length+1)+x.2.2.length⟩
def vm (g:Grf) (uh:Int) (um:List Int) (uD:Nat) (uC:Int→Option Bool) (ut:List Int):Lp (Int×List Int):=⟨fun x=>{ N:=119,fr:=[se 92 (C.i .i64 x.1),{ slot:=91,g:=[],sv:=SV.c (C.i .i64 (↑((aheadL g.nodes).getD (ut.getD ((↑ut.length:Int)-(1:Int)).toNat (0:Int)).toNat ub).l.length:Int)) },se 90 (C.h 10),se 10 (C.h 11),se 9 (C.h 8),se 33 (C.i .i64 uh),zbk g,se 7 (C.h 6),zb4,se 5 (C.h 5),se 4 (C.h 4),zO],rg:=[rowOf 13 (·.tc) g.nodes,ze g,zbi g,za1,rowOf 1 (·.tc) (rchL g.nodes),Reg.row 1 (aheadL g.nodes).length (fun i=>((aheadL g.nodes).getD i ub).tc) (some ((ut.getD ((↑ut.length:Int)-(1:Int)).toNat (0:Int)).toNat,[C.h 10])),IntOwn um,zao g uh,Reg.mp (MT.mk Tryd.prog 133 3 4 [CK.i ja] false [CK.b] false) (uD+1) (fun (q:Int)=>decide (q=ut.getD ((↑ut.length:Int)-(1:Int)).toNat (0:Int))||(uC q).isSome) (fun (q:Int)=>if q=ut.getD ((↑ut.length:Int)-(1:Int)).toNat (0:Int) then true else (uC q).getD false) none,Reg.dead,Reg.row 1 ((aheadL g.nodes).getD (ut.getD ((↑ut.length:Int)-(1:Int)).toNat (0:Int)).toNat ub).l.length (fun i=>i64T (((aheadL g.nodes).getD (ut.getD ((↑ut.length:Int)-(1:Int)).toNat (0:Int)).toNat ub).l.getD i 0)) none,IntOwn (x.2)],wr:=[] },fun x=>DpD g.nodes.length ((aheadL g.nodes).getD (ut.getD ((ut.length:Int)-(1:Int)).toNat (0:Int)).toNat ub).l.length ut.length x.1 x.2,fun x=>((((aheadL g.nodes).getD (ut.getD ((ut.length:Int)-(1:Int)).toNat (0:Int)).toNat ub).l.length:Int)-x.1).toNat⟩
def wm (g:Grf) (uh:Int) (um:List Int) (uD:Nat) (uC:Int→Option Bool) (ut:List Int) (rr10:Nat) (cc10:Nat):Lp (List Int×(Int→Bool)×Nat):=⟨fun x=>{ N:=119,fr:=[se 106 (C.h 10),se 33 (C.i .i64 uh),zbk g,se 7 (C.h 6),zb4,se 5 (C.h 5),se 4 (C.h 4),zO],rg:=[rowOf 13 (·.tc) g.nodes,ze g,zbi g,za1,rowOf 1 (·.tc) (rchL g.nodes),rowOf 1 (·.tc) (aheadL g.nodes),IntOwn (x.1),zao g uh,Reg.mp (MT.mk Tryd.prog 133 3 4 [CK.i ja] false [CK.b] false) (uD) (fun a=>(uC a).isSome) (fun a=>(uC a).getD false) (some (MIt.mk (rr10) (x.2.1) (x.2.2) none)),IntOwn ut,Reg.itr rr10],wr:=[] },fun x=>DpE g.nodes.length uh x.1 x.2.1,fun x=>x.2.2⟩
abbrev zk (y0:Nat) (y1:Int → Option Bool):List Prop:=[MpEq (MT.mk Tryd.prog 133 3 4 [CK.i ja] false [CK.b] false) y0 (fun (a:Int)=>(y1 a).isSome) (fun (a:Int)=>(y1 a).getD false) none (MT.mk Tryd.prog 133 3 4 [CK.i ja] false [CK.b] false) y0 (fun (a:Int)=>(y1 a).isSome) (fun (a:Int)=>(y1 a).getD false) none]
abbrev zaN (y0:List Int) (y1:Int):List Prop:=[y0.length+1≤maxLen,(y0.length+1) * 8≤140737488355328,Fits ja (y1+(1:Int))]
abbrev zbj (y0:Grf):List Prop:=[(aheadL y0.nodes).length=(aheadL y0.nodes).length,∀ (i:Nat),i<(aheadL y0.nodes).length→((aheadL y0.nodes).getD i ub).tc=((aheadL y0.nodes).getD i ub).tc]
abbrev zbo:En:=se 3 (C.p 3 0)
theorem Qm8 (g:Grf) (hq:zJ g) (hN:1≤g.nodes.length∧g.nodes.length≤4096) (hk:zV g):Ctr Tryd.prog 48 [zav g] [.agg (g.cs 0)]
 (DetE (fun D:List Int=>D.length=g.nodes.length∧∀ i:Nat,i<g.nodes.length→0≤D.getD i 0∧D.getD i 0≤4503599627370496) (fun _=>.c (.h 1)) (fun D=>[.dead,IntOwn D])):=by
 refine Ctr.intro [] Tryd.func48 K K ?_
 refine Q2 Q57 (Qq2 g W72 W72 W72) [] ?_
 refine tz [18,2,1] ?_
 refine RunF.rnil (n:=(domL g.nodes).length) (vc:=[]) 2 K trivial K (fun _=>by kernel_rfl) (fun nil1 hn1=>?_)
 refine tz [20,3,2,1] ?_
 refine Q0 (nil1) (fun h2=>?_) (fun h2=>?_)
 ·exact (show False from by have z:=hn1 h2;rw [(Qbq hq W31).2.1] at z;omega).elim
 ·refine tz [3,2,1] ?_
  refine Q2 Q3r (Qbk g W72 W72) [] ?_
  refine tWk (St.mk 119 [se 22 (C.h 4),En.mk 21 [] (SV.agg [C.v (jF g.name),C.i .i64 g.locals,C.i .i64 g.slots,C.h 0]),zbo,zO,za5] [rowOf 13 (·.tc) g.nodes,ze g,zbi g,za1,rowOf 1 (·.tc) (rchL g.nodes)] []) ?_
  refine tz [22,3,2,1] ?_
  refine Q2 Q4t (Qdo g W72 W72 W72) [] ?_
  refine tWk (St.mk 119 [se 24 (C.h 5),zbJ g,se 4 (C.h 4),se 22 (C.h 4),zbo,zO,za5] [rowOf 13 (·.tc) g.nodes,ze g,zbi g,za1,rowOf 1 (·.tc) (rchL g.nodes),rowOf 1 (·.tc) (aheadL g.nodes)] []) ?_
  refine tz [24,4,3,2,1] ?_
  refine Q9 (vn g) (((0:Int),ji g.nodes.length (0:Int))) (DpO.start _) ?_ [] [11,12] (zai g) W14 (vc:=(zas g)) (hv:=W7)
  rintro ⟨uh,um⟩ hJ3
  dsimp only [vn] at hJ3
  refine tz [33,32,7,6,5,4,2] ?_
  refine Q0 (decide (uh<(↑g.nodes.length:Int))) (fun h4=>?_) (fun h4=>?_)
  ·refine tz [33,32,7,6,5,4,2] ?_
   refine Q0 (!((rchL g.nodes).getD uh.toNat ub).b) (fun h5=>?_) (fun h5=>?_) (vc:=[(0:Int)≤uh,uh<(↑(rchL g.nodes).length:Int),uh.toNat<(rchL g.nodes).length]) (hv:=W7)
   ·exact Q4 (vn g) (uh,um) ((uh+(1:Int),um)) W184 W176 (vc:=(zD uh)) (hv:=W7)
   ·refine Y3 5 (uh.toNat) ?_ (vc:=[uh.toNat<(aheadL g.nodes).length]) (hv:=W7)
    refine tz [8,33,32,7,6,5,4,2] ?_
    refine Q9 (vb g uh um) (((0:Int),[],0,fun x=>none)) (DpA.start _ _) ?_ [0,1,2,3,4,5,6,7,8,1000009] [16,17] [MpEq (MT.mk Tryd.prog 133 3 4 [CK.i ja] false [CK.b] false) 0 (fun (a:Int)=>false) (fun (a:Int)=>false) none (MT.mk Tryd.prog 133 3 4 [CK.i ja] false [CK.b] false) 0 (fun x=>false) (fun x=>KA.zero [CK.b]) none,(0:Nat)=0] W14 (vc:=[(MT.mk Tryd.prog 133 3 4 [CK.i ja] false [CK.b] false).P=Tryd.prog,(MT.mk Tryd.prog 133 3 4 [CK.i ja] false [CK.b] false).Ok,(0:Int)≤uh,uh<(↑(aheadL g.nodes).length:Int),uh.toNat=uh.toNat]) (hv:=W7)
    rintro ⟨uv,uI,uF,uM⟩ hJ6
    dsimp only [vb] at hJ6
    refine tz [47,46,45,10,9,8,33,32,7,6,5,4,2] ?_
    refine Q0 (decide (uv<(↑((aheadL g.nodes).getD uh.toNat ub).l.length:Int))) (fun h7=>?_) (fun h7=>?_)
    ·refine tz [47,46,45,10,9,8,33,32,7,6,5,4,2] ?_
     refine Q05 (((rchL g.nodes).getD (((aheadL g.nodes).getD uh.toNat ub).l.getD uv.toNat 0).toNat ub).b) (fun h8=>?_) (fun h8=>?_) (vc:=[(0:Int)≤uv,uv<(↑((aheadL g.nodes).getD uh.toNat ub).l.length:Int),uv.toNat<((aheadL g.nodes).getD uh.toNat ub).l.length,(0:Int)≤((aheadL g.nodes).getD uh.toNat ub).l.getD uv.toNat 0,((aheadL g.nodes).getD uh.toNat ub).l.getD uv.toNat 0<(↑(rchL g.nodes).length:Int),(((aheadL g.nodes).getD uh.toNat ub).l.getD uv.toNat 0).toNat<(rchL g.nodes).length]) (hv:=W7)
     ·refine tz [58,57,56,55,12,47,46,45,10,9,8,33,32,7,6,5,4,2] ?_
      refine Q2 Q9j (Qjg g uh (((aheadL g.nodes).getD uh.toNat ub).l.getD uv.toNat 0) W72 W72) [3,2] ?_
      refine tz [59,55,12,47,46,45,10,9,8,33,32,7,6,5,4,2] ?_
      refine Q0 (upF (plcL g.nodes) (domL g.nodes) uh (((aheadL g.nodes).getD uh.toNat ub).l.getD uv.toNat 0)) (fun h9=>?_) (fun h9=>?_)
      ·exact Q4 (vb g uh um) (uv,uI,uF,uM) ((uv+(1:Int),uI++[((aheadL g.nodes).getD uh.toNat ub).l.getD uv.toNat 0],uF+1,fun (q:Int)=>if q=uh then some true else uM q)) W169 W139 [0,1,2,3,4,5,6,7,8,11] [16,17,18,19] [MpEq (MT.mk Tryd.prog 133 3 4 [CK.i ja] false [CK.b] false) (uF+1) (fun (a:Int)=>(if a=uh then some true else uM a).isSome) (fun (a:Int)=>(if a=uh then some true else uM a).getD false) none (MT.mk Tryd.prog 133 3 4 [CK.i ja] false [CK.b] false) (uF+1) (fun (q:Int)=>decide (q=uh)||(uM q).isSome) (fun (q:Int)=>if q=uh then true else (uM q).getD false) none,(uI++[((aheadL g.nodes).getD uh.toNat ub).l.getD uv.toNat 0]).length=uI.length+1,∀ (i:Nat),i<(uI++[((aheadL g.nodes).getD uh.toNat ub).l.getD uv.toNat 0]).length→i≠uI.length→i64T ((uI++[((aheadL g.nodes).getD uh.toNat ub).l.getD uv.toNat 0]).getD i 0)=i64T (uI.getD i 0),i64T ((uI++[((aheadL g.nodes).getD uh.toNat ub).l.getD uv.toNat 0]).getD uI.length 0) 0=TC.val (jf ja (((aheadL g.nodes).getD uh.toNat ub).l.getD uv.toNat 0))] W14 (vc:=[Fits ja uh,(MT.mk Tryd.prog 133 3 4 [CK.i ja] false [CK.b] false).P=Tryd.prog,uF<maxLen,uI.length+1≤maxLen,(uI.length+1) * 8≤140737488355328,Fits ja (uv+(1:Int))]) (hv:=W7)
      ·exact Q4 (vb g uh um) (uv,uI,uF,uM) ((uv+(1:Int),uI,uF,uM)) W169 W139 [] [16] (zk uF uM) W14 (vc:=(zD uv)) (hv:=W7)
     ·exact Q4 (vb g uh um) (uv,uI,uF,uM) ((uv+(1:Int),uI,uF,uM)) W169 W139 [] [16] (zk uF uM) W14 (vc:=(zD uv)) (hv:=W7)
    ·refine tz [47,46,45,10,9,8,33,32,7,6,5,4,2] ?_
     refine RunF.hereL (vc:=[]) K trivial ?_
     refine Qae 5 ((Iln.rowR (aheadL g.nodes))) ?_ (vc:=(zbj g)) (hv:=W175)
     refine tz [10,9,33,32,7,6,5,4,2] ?_
     refine Q9 (vR g uh um uI uF uM) ((uF,uM,uI)) (hJ6.done (Z2 _ _)) ?_ [] [15] (zk uF uM) W14
     rintro ⟨uD,uC,ut⟩ hJ8
     dsimp only [vR] at hJ8
     refine tz [10,9,33,32,7,6,5,4,2] ?_
     refine Q0 (decide ((0:Int)<(↑ut.length:Int))) (fun h9=>?_) (fun h9=>?_)
     ·refine tz [10,9,33,32,7,6,5,4,2] ?_
      refine Q0 ((uC (ut.getD ((↑ut.length:Int)-(1:Int)).toNat (0:Int))).getD false) (fun h10=>?_) (fun h10=>?_) (vc:=[Fits ja ((↑ut.length:Int)-(1:Int)),(0:Int)≤(↑ut.length:Int)-(1:Int),(↑ut.length:Int)-(1:Int)<(↑ut.length:Int),((↑ut.length:Int)-(1:Int)).toNat<ut.length,Fits ja ((↑ut.length:Int)-(1:Int)),(0:Int)≤(0:Int),(0:Int)≤(↑ut.length:Int)-(1:Int),(↑ut.length:Int)-(1:Int)≤(↑ut.length:Int),(0:Int)<(↑ut.length:Int),Fits ja (ut.getD ((↑ut.length:Int)-(1:Int)).toNat (0:Int)),(MT.mk Tryd.prog 133 3 4 [CK.i ja] false [CK.b] false).P=Tryd.prog]) (hv:=W7)
      ·refine RunF.hereJ (vc:=[]) K K trivial ?_
       refine RunF.trim 9 ((ut.length-1)) (ty:=3) (size:=1) (n:=ut.length) (f:=fun i=>i64T (ut.getD i 0)) (vc:=(zaT ut)) K K (by have q:=uc h9;omega) K W180 ?_
       exact Q4 (vR g uh um uI uF uM) (uD,uC,ut) ((uD,uC,jS (ut.length-1) ut)) W162 W163 [0,1,2,3,4,5,6,7,8,10] [15,16,17] [MpEq (MT.mk Tryd.prog 133 3 4 [CK.i ja] false [CK.b] false) uD (fun (a:Int)=>(uC a).isSome) (fun (a:Int)=>(uC a).getD false) none (MT.mk Tryd.prog 133 3 4 [CK.i ja] false [CK.b] false) uD (fun (a:Int)=>(uC a).isSome) (fun (a:Int)=>(uC a).getD false) none,(jS (ut.length-1) ut).length=ut.length-1,∀ (i:Nat),i<(jS (ut.length-1) ut).length→i64T ((jS (ut.length-1) ut).getD i 0)=i64T (ut.getD i 0)] W14
      ·refine Y3 5 ((ut.getD ((ut.length:Int)-(1:Int)).toNat (0:Int)).toNat) ?_ (vc:=[(ut.getD ((↑ut.length:Int)-(1:Int)).toNat (0:Int)).toNat<(aheadL g.nodes).length]) (hv:=W7)
       refine RunF.trim 9 ((ut.length-1)) (ty:=3) (size:=1) (n:=ut.length) (f:=fun i=>i64T (ut.getD i 0)) (vc:=(zaT ut)) K K (by have q:=uc h9;omega) K W180 ?_
       refine tz [10,13,9,33,32,7,6,5,4,2] ?_
       refine Q9 (vm g uh um uD uC ut) (((0:Int),jS (ut.length-1) ut)) (hJ8.inner (uc h9)) ?_ [] [16,19,20] [MpEq (MT.mk Tryd.prog 133 3 4 [CK.i ja] false [CK.b] false) (uD+1) (fun (q:Int)=>decide (q=ut.getD ((↑ut.length:Int)-(1:Int)).toNat (0:Int))||(uC q).isSome) (fun (q:Int)=>if q=ut.getD ((↑ut.length:Int)-(1:Int)).toNat (0:Int) then true else (uC q).getD false) none (MT.mk Tryd.prog 133 3 4 [CK.i ja] false [CK.b] false) (uD+1) (fun (q:Int)=>decide (q=ut.getD ((↑ut.length:Int)-(1:Int)).toNat (0:Int))||(uC q).isSome) (fun (q:Int)=>if q=ut.getD ((↑ut.length:Int)-(1:Int)).toNat (0:Int) then true else (uC q).getD false) none,(jS (ut.length-1) ut).length=ut.length-1,∀ (i:Nat),i<(jS (ut.length-1) ut).length→i64T ((jS (ut.length-1) ut).getD i 0)=i64T (ut.getD i 0)] W14 (vc:=[Fits ja (ut.getD ((↑ut.length:Int)-(1:Int)).toNat (0:Int)),(MT.mk Tryd.prog 133 3 4 [CK.i ja] false [CK.b] false).P=Tryd.prog,uD<maxLen,(0:Int)≤ut.getD ((↑ut.length:Int)-(1:Int)).toNat (0:Int),ut.getD ((↑ut.length:Int)-(1:Int)).toNat (0:Int)<(↑(aheadL g.nodes).length:Int),(ut.getD ((↑ut.length:Int)-(1:Int)).toNat (0:Int)).toNat=(ut.getD ((↑ut.length:Int)-(1:Int)).toNat (0:Int)).toNat]) (hv:=W7)
       rintro ⟨uH,uP⟩ hJ11
       dsimp only [vm] at hJ11
       refine tz [92,91,90,10,9,33,32,7,6,5,4,2] ?_
       refine Q0 (decide (uH<(↑((aheadL g.nodes).getD (ut.getD ((↑ut.length:Int)-(1:Int)).toNat (0:Int)).toNat ub).l.length:Int))) (fun h12=>?_) (fun h12=>?_)
       ·refine tz [92,91,90,10,9,33,32,7,6,5,4,2] ?_
        refine Q0 (((rchL g.nodes).getD (((aheadL g.nodes).getD (ut.getD ((↑ut.length:Int)-(1:Int)).toNat (0:Int)).toNat ub).l.getD uH.toNat 0).toNat ub).b) (fun h13=>?_) (fun h13=>?_) (vc:=[(0:Int)≤uH,uH<(↑((aheadL g.nodes).getD (ut.getD ((↑ut.length:Int)-(1:Int)).toNat (0:Int)).toNat ub).l.length:Int),uH.toNat<((aheadL g.nodes).getD (ut.getD ((↑ut.length:Int)-(1:Int)).toNat (0:Int)).toNat ub).l.length,(0:Int)≤((aheadL g.nodes).getD (ut.getD ((↑ut.length:Int)-(1:Int)).toNat (0:Int)).toNat ub).l.getD uH.toNat 0,((aheadL g.nodes).getD (ut.getD ((↑ut.length:Int)-(1:Int)).toNat (0:Int)).toNat ub).l.getD uH.toNat 0<(↑(rchL g.nodes).length:Int),(((aheadL g.nodes).getD (ut.getD ((↑ut.length:Int)-(1:Int)).toNat (0:Int)).toNat ub).l.getD uH.toNat 0).toNat<(rchL g.nodes).length]) (hv:=W7)
        ·exact Q4 (vm g uh um uD uC ut) (uH,uP) ((uH+(1:Int),uP++[((aheadL g.nodes).getD (ut.getD ((↑ut.length:Int)-(1:Int)).toNat (0:Int)).toNat ub).l.getD uH.toNat 0])) W182 W164 [0,1,2,3,4,5,6,7,8,9,10,13] [16,19,20,21] [MpEq (MT.mk Tryd.prog 133 3 4 [CK.i ja] false [CK.b] false) (uD+1) (fun (q:Int)=>decide (q=ut.getD ((↑ut.length:Int)-(1:Int)).toNat (0:Int))||(uC q).isSome) (fun (q:Int)=>if q=ut.getD ((↑ut.length:Int)-(1:Int)).toNat (0:Int) then true else (uC q).getD false) none (MT.mk Tryd.prog 133 3 4 [CK.i ja] false [CK.b] false) (uD+1) (fun (q:Int)=>decide (q=ut.getD ((↑ut.length:Int)-(1:Int)).toNat (0:Int))||(uC q).isSome) (fun (q:Int)=>if q=ut.getD ((↑ut.length:Int)-(1:Int)).toNat (0:Int) then true else (uC q).getD false) none,(uP++[((aheadL g.nodes).getD (ut.getD ((↑ut.length:Int)-(1:Int)).toNat (0:Int)).toNat ub).l.getD uH.toNat 0]).length=uP.length+1,∀ (i:Nat),i<(uP++[((aheadL g.nodes).getD (ut.getD ((↑ut.length:Int)-(1:Int)).toNat (0:Int)).toNat ub).l.getD uH.toNat 0]).length→i≠uP.length→i64T ((uP++[((aheadL g.nodes).getD (ut.getD ((↑ut.length:Int)-(1:Int)).toNat (0:Int)).toNat ub).l.getD uH.toNat 0]).getD i 0)=i64T (uP.getD i 0),i64T ((uP++[((aheadL g.nodes).getD (ut.getD ((↑ut.length:Int)-(1:Int)).toNat (0:Int)).toNat ub).l.getD uH.toNat 0]).getD uP.length 0) 0=TC.val (jf ja (((aheadL g.nodes).getD (ut.getD ((↑ut.length:Int)-(1:Int)).toNat (0:Int)).toNat ub).l.getD uH.toNat 0))] W14 (vc:=(zaN uP uH)) (hv:=W7)
        ·exact Q4 (vm g uh um uD uC ut) (uH,uP) ((uH+(1:Int),uP)) W182 W164 [] [16] [MpEq (MT.mk Tryd.prog 133 3 4 [CK.i ja] false [CK.b] false) (uD+1) (fun (q:Int)=>decide (q=ut.getD ((↑ut.length:Int)-(1:Int)).toNat (0:Int))||(uC q).isSome) (fun (q:Int)=>if q=ut.getD ((↑ut.length:Int)-(1:Int)).toNat (0:Int) then true else (uC q).getD false) none (MT.mk Tryd.prog 133 3 4 [CK.i ja] false [CK.b] false) (uD+1) (fun (q:Int)=>decide (q=ut.getD ((↑ut.length:Int)-(1:Int)).toNat (0:Int))||(uC q).isSome) (fun (q:Int)=>if q=ut.getD ((↑ut.length:Int)-(1:Int)).toNat (0:Int) then true else (uC q).getD false) none] W14 (vc:=(zD uH)) (hv:=W7)
       ·refine Qae 5 ((Iln.rowR (aheadL g.nodes))) ?_ (vc:=(zbj g)) (hv:=W175)
        exact Q4 (vR g uh um uI uF uM) (uD,uC,ut) ((uD+1,fun (q:Int)=>if q=ut.getD ((↑ut.length:Int)-(1:Int)).toNat (0:Int) then some true else uC q,uP)) W162 W163 [0,1,2,3,4,5,6,7,8,11] [15] [MpEq (MT.mk Tryd.prog 133 3 4 [CK.i ja] false [CK.b] false) (uD+1) (fun (a:Int)=>(if a=ut.getD ((↑ut.length:Int)-(1:Int)).toNat (0:Int) then some true else uC a).isSome) (fun (a:Int)=>(if a=ut.getD ((↑ut.length:Int)-(1:Int)).toNat (0:Int) then some true else uC a).getD false) none (MT.mk Tryd.prog 133 3 4 [CK.i ja] false [CK.b] false) (uD+1) (fun (q:Int)=>decide (q=ut.getD ((↑ut.length:Int)-(1:Int)).toNat (0:Int))||(uC q).isSome) (fun (q:Int)=>if q=ut.getD ((↑ut.length:Int)-(1:Int)).toNat (0:Int) then true else (uC q).getD false) none] W14
     ·refine tz [10,9,33,32,7,6,5,4,2] ?_
      refine RunF.mrange (T:=MT.mk Tryd.prog 133 3 4 [CK.i ja] false [CK.b] false) (n:=uD) (has:=fun (a:Int)=>(uC a).isSome) (f:=fun (a:Int)=>(uC a).getD false) (it:=none) (vc:=[]) 8 K trivial K rfl (fun _ _=>by kernel_rfl) (fun rr10 cc10=>?_)
      refine tz [106,33,32,7,6,5,4,2] ?_
      refine Q9 (wm g uh um uD uC ut rr10 cc10) ((um,fun (a:Int)=>(uC a).isSome,cc10)) (DpE.start hJ3 hN.2 _) ?_ [] [15] [MpEq (MT.mk Tryd.prog 133 3 4 [CK.i ja] false [CK.b] false) uD (fun (a:Int)=>(uC a).isSome) (fun (a:Int)=>(uC a).getD false) (some (MIt.mk (K:=[CK.i .i64]) rr10 (fun (a:Int)=>(uC a).isSome) cc10 none)) (MT.mk Tryd.prog 133 3 4 [CK.i ja] false [CK.b] false) uD (fun (a:Int)=>(uC a).isSome) (fun (a:Int)=>(uC a).getD false) (some (MIt.mk (K:=[CK.i .i64]) rr10 (fun (a:Int)=>(uC a).isSome) cc10 none))] W14
      rintro ⟨uH,uP,vS⟩ hJ11
      dsimp only [wm] at hJ11
      refine tz [106,33,32,7,6,5,4,2] ?_
      refine RunF.mnext (A:=Int) (T:=MT.mk Tryd.prog 133 3 4 [CK.i ja] false [CK.b] false) (n:=uD) (has:=fun (a:Int)=>(uC a).isSome) (f:=fun (a:Int)=>(uC a).getD false) (it:=MIt.mk (K:=[CK.i .i64]) rr10 uP vS none) (vc:=[]) 8 10 (fun p=>p) (fun (a:Int)=>⟨a,rfl⟩) K trivial K K rfl K (fun _ _=>by kernel_rfl) ?_ ?_
      ·intro hl12
       dsimp only at hl12
       exact Q4 (vn g) (uh,um) ((uh+(1:Int),uH)) W184 W176 (vc:=(zD uh)) (hv:=W7)
      ·rintro kv12_0 cn12 hwf12 hl12 hh12 hc12
       dsimp only at hl12 hh12 hc12
       exact Q4 (wm g uh um uD uC ut rr10 cc10) (uH,uP,vS) ((uH.set kv12_0.toNat (uH.getD kv12_0.toNat 0+(1:Int)),fun (q:Int)=>(MIt.mk (K:=[CK.i .i64]) rr10 uP vS none).left q&&!decide (q=kv12_0),cn12)) (by assumption) (hJ11.put (hJ8.ks _ hh12) hl12) [] [11,12,15] [(uH.set kv12_0.toNat (uH.getD kv12_0.toNat 0+(1:Int))).length=uH.length,∀ (i:Nat),i<(uH.set kv12_0.toNat (uH.getD kv12_0.toNat 0+(1:Int))).length→i64T ((uH.set kv12_0.toNat (uH.getD kv12_0.toNat 0+(1:Int))).getD i 0)=updT (fun i=>i64T (uH.getD i 0)) kv12_0.toNat 0 [jf ja (uH.getD kv12_0.toNat 0+(1:Int))] i,MpEq (MT.mk Tryd.prog 133 3 4 [CK.i ja] false [CK.b] false) uD (fun (a:Int)=>(uC a).isSome) (fun (a:Int)=>(uC a).getD false) (some (MIt.mk (K:=[CK.i .i64]) rr10 (fun (q:Int)=>uP q&&!decide (q=kv12_0)) cn12 none)) (MT.mk Tryd.prog 133 3 4 [CK.i ja] false [CK.b] false) uD (fun (a:Int)=>(uC a).isSome) (fun (a:Int)=>(uC a).getD false) (some (MIt.mk (K:=[CK.i .i64]) rr10 (fun (q:Int)=>uP q&&!decide (q=kv12_0)) cn12 (some kv12_0)))] W14 (vc:=[rr10=(MIt.mk (K:=[CK.i .i64]) rr10 uP vS none).r,(MT.mk Tryd.prog 133 3 4 [CK.i ja] false [CK.b] false).P=Tryd.prog,(0:Int)≤kv12_0,kv12_0<(↑uH.length:Int),kv12_0.toNat<uH.length,Fits ja (uH.getD kv12_0.toNat 0+(1:Int)),(0:Int)≤kv12_0,kv12_0<(↑uH.length:Int),kv12_0.toNat<uH.length]) (hv:=W7)
  ·exact Q3 [0,6] (res:=_) (post:=_) (hS:=⟨um,⟨hJ3.len,fun i hi=>by have v:=hJ3.val i hi;have v2:=hJ3.hi;omega⟩,rfl,rfl⟩)
abbrev zN (y0:Grf):Reg:=Reg.box 112 [C.v (jF y0.name),C.i .i64 y0.locals,C.i .i64 y0.slots,C.h 0,C.h 1,C.h 2,C.h 3]
abbrev zY (y0:Grf) (y1:WW):Reg:=Reg.row 65 y0.nodes.length (fun i=>wsT (y1 i)) none
abbrev zbV:En:=se 0 (C.p 4 0)
def uZ (g:Grf) (W:WW) (V:WW) (a:Int) (b:Int):Lp (Int×Bool):=⟨fun x=>{ N:=67,fr:=[se 18 (C.i .i64 x.1),zbR g,se 16 (C.h 0),se 6 (C.b x.2),zbV,se 1 (C.i .i64 a),se 2 (C.i .i64 b)],rg:=[rowOf 13 (·.tc) g.nodes,rowOf 1 (·.tc) (rchL g.nodes),zY g W,zY g V,zN g],wr:=[] },fun x=>0≤x.1∧x.1≤(g.nodes.length:Int)∧∀ k,k<x.1.toNat→clB g.nodes (rchL g.nodes) V a b k=false,fun x=>((g.nodes.length:Int)-x.1).toNat⟩
abbrev zbp (y0:Int) (y1:Grf):List Prop:=[(0:Int)≤y0,y0<(↑y1.nodes.length:Int),y0.toNat<y1.nodes.length,(0:Int)≤y0,y0<(↑(rchL y1.nodes).length:Int),y0.toNat<(rchL y1.nodes).length]
abbrev zbr (y0:Grf) (y1 y2:Int):List Prop:=[decide ((y0.nodes.getD y1.toNat ub).slot=y2)=true→(0:Int)≤y1,decide ((y0.nodes.getD y1.toNat ub).slot=y2)=true→y1<(↑y0.nodes.length:Int)]
abbrev zb2 (y0:Grf):Reg:=Bo.rowR (rchL y0.nodes)
theorem Qm9 (g:Grf) (hN:1≤g.nodes.length∧g.nodes.length≤4096) (W V:WW) (a b:Int) (ha:0≤a∧a<4160) (hb:0≤b∧b<4160):Ctr Tryd.prog 49 [zav g,zb2 g,zY g W,zY g V,zN g] [.c (.p 4 0),.c (.i .i64 a),.c (.i .i64 b)]
 (Det (.c (.b (clF g.nodes V a b))) [.dead,.dead,.dead,.dead,zN g]):=by
 refine Ctr.intro [] Tryd.func49 K K ?_
 refine Q0 (decide (a=b)) (fun h1=>?_) (fun h1=>?_)
 ·exact Q3 [] [3] [clF g.nodes V a b=false] W79
 ·refine tz [6,0,1,2] ?_
  refine Q9 (uZ g W V a b) (((0:Int),false)) (⟨jA _,by omega,fun k hk=>absurd hk W149⟩) ?_
  rintro ⟨uf,uo⟩ hJ2
  dsimp only [uZ] at hJ2
  refine tz [18,17,16,6,0,1,2] ?_
  refine Q0 (decide (uf<(↑g.nodes.length:Int))) (fun h3=>?_) (fun h3=>?_)
  ·refine tz [18,17,16,6,0,1,2] ?_
   refine Q05 (!((rchL g.nodes).getD uf.toNat ub).b) (fun h4=>?_) (fun h4=>?_) (vc:=(zbp uf g)) (hv:=W35)
   ·exact Q4 (uZ g W V a b) (uf,uo) ((uf+(1:Int),uo)) W140 W110 (vc:=(zD uf)) (hv:=W35)
   ·refine tz [32,31,7,8,18,17,16,6,0,1,2] ?_
    refine Q2 Gq (Q3y (g.nodes.getD uf.toNat ub)) [] ?_
    refine tz [33,31,7,8,18,17,16,6,0,1,2] ?_
    refine Q0 (!(decide ((g.nodes.getD uf.toNat ub).kind=(1:Int))||decide ((g.nodes.getD uf.toNat ub).kind=(2:Int))||decide ((g.nodes.getD uf.toNat ub).kind=(4:Int)))) (fun h5=>?_) (fun h5=>?_)
    ·exact Q4 (uZ g W V a b) (uf,uo) ((uf+(1:Int),uo)) W140 W110 (vc:=(zD uf)) (hv:=W35)
    ·refine tz [7,8,18,17,16,6,0,1,2] ?_
     refine Q05 (decide ((g.nodes.getD uf.toNat ub).slot=a)) (fun h6=>?_) (fun h6=>?_) (vc:=(zbr g uf a)) (hv:=W35)
     ·refine tz [47,46,40,7,8,18,17,16,6,0,1,2] ?_
      refine Q2 Gt (Qbl V g.nodes.length uf.toNat b W131 W131) [3] ?_
      refine tz [48,40,7,8,18,17,16,6,0,1,2] ?_
      refine Q05 (hasW (V uf.toNat) b) (fun h7=>?_) (fun h7=>?_) (vc:=[hasW (V uf.toNat) b=false→decide ((g.nodes.getD uf.toNat ub).slot=b)=true→(0:Int)≤uf,hasW (V uf.toNat) b=false→decide ((g.nodes.getD uf.toNat ub).slot=b)=true→uf<(↑g.nodes.length:Int)]) (hv:=W35)
      ·exact Q3 [] [3] [clF g.nodes V a b=true] W79
      ·refine tz [62,61,55,50,18,17,16,6,0,1,2] ?_
       refine Q05 (decide ((g.nodes.getD uf.toNat ub).slot=b)) (fun h8=>?_) (fun h8=>?_)
       ·refine tz [62,61,55,50,18,17,16,6,0,1,2] ?_
        refine Q2 Gt (Qbl V g.nodes.length uf.toNat a W131 W131) [3] ?_
        refine tz [63,55,50,18,17,16,6,0,1,2] ?_
        refine Q0 (hasW (V uf.toNat) a) (fun h9=>?_) (fun h9=>?_)
        ·exact Q3 [] [3] [clF g.nodes V a b=true] W79
        ·exact Q4 (uZ g W V a b) (uf,uo) ((uf+(1:Int),uo)) W140 W110 (vc:=(zD uf)) (hv:=W35)
       ·exact Q4 (uZ g W V a b) (uf,uo) ((uf+(1:Int),uo)) W140 W110 (vc:=(zD uf)) (hv:=W35)
     ·refine tz [47,46,40,7,8,18,17,16,6,0,1,2] ?_
      refine Q05 (decide ((g.nodes.getD uf.toNat ub).slot=b)) (fun h7=>?_) (fun h7=>?_) (vc:=(zbr g uf b)) (hv:=W35)
      ·refine tz [62,61,55,50,18,17,16,6,0,1,2] ?_
       refine Q2 Gt (Qbl V g.nodes.length uf.toNat a W131 W131) [3] ?_
       refine tz [63,55,50,18,17,16,6,0,1,2] ?_
       refine Q0 (hasW (V uf.toNat) a) (fun h8=>?_) (fun h8=>?_)
       ·exact Q3 [] [3] [clF g.nodes V a b=true] W79
       ·exact Q4 (uZ g W V a b) (uf,uo) ((uf+(1:Int),uo)) W140 W110 (vc:=(zD uf)) (hv:=W35)
      ·exact Q4 (uZ g W V a b) (uf,uo) ((uf+(1:Int),uo)) W140 W110 (vc:=(zD uf)) (hv:=W35)
  ·exact Q3 [] [3] [clF g.nodes V a b=false] W79
def vT (g:Grf) (W:WW) (V:WW) (s:Int) (l:List Int):Lp (Int×Bool):=⟨fun x=>{ N:=20,fr:=[se 11 (C.i .i64 x.1),se 10 (C.i .i64 (↑l.length:Int)),se 9 (C.h 5),se 6 (C.b x.2),zbV,se 1 (C.i .i64 s)],rg:=[rowOf 13 (·.tc) g.nodes,rowOf 1 (·.tc) (rchL g.nodes),zY g W,zY g V,zN g,IntRow l],wr:=[] },fun x=>0≤x.1∧x.1≤(l.length:Int)∧∀ k,k<x.1.toNat→clF g.nodes V s (l.getD k 0)=false,fun x=>((l.length:Int)-x.1).toNat⟩
theorem Qh4 (g:Grf) (hN:1≤g.nodes.length∧g.nodes.length≤4096) (W V:WW) (s:Int) (l:List Int) (hs:0≤s∧s<4160) (hl:∀ x∈l,0≤x∧x<4160) (hm:l.length≤4160):Ctr Tryd.prog 25 [zav g,zb2 g,zY g W,zY g V,zN g,IntRow l] [.c (.p 4 0),.c (.i .i64 s),.c (.h 5)]
 (Det (.c (.b (l.any fun k=>clF g.nodes V s k))) [.dead,.dead,.dead,.dead,zN g,.dead]):=by
 refine Ctr.intro [] Tryd.func25 K K ?_
 refine Q9 (vT g W V s l) (((0:Int),false)) (⟨jA _,by omega,fun k hk=>absurd hk W149⟩) ?_
 rintro ⟨ue,uj⟩ hJ1
 dsimp only [vT] at hJ1
 refine tz [11,10,9,6,0,1] ?_
 refine Q0 (decide (ue<(↑l.length:Int))) (fun h2=>?_) (fun h2=>?_)
 ·refine tz [11,10,9,6,0,1] ?_
  refine Q2 Q3q (Qm9 g W161 W V s (l.getD ue.toNat 0) W161 W161) [] ?_ (vc:=(zaP ue l)) (hv:=W121)
  refine tz [18,11,10,9,6,0,1] ?_
  refine Q0 (clF g.nodes V s (l.getD ue.toNat 0)) (fun h3=>?_) (fun h3=>?_)
  ·exact Q3 [] [3] [(l.any fun k=>clF g.nodes V s k)=true] W146
  ·exact Q4 (vT g W V s l) (ue,uj) ((ue+(1:Int),uj)) (by dsimp only [vT];have q:=uc h2;have z:=hJ1.1;omega) (by have q:=uc h2;have z:=hJ1.1;exact ⟨by omega,by omega,Qd6 (P:=fun k=>clF g.nodes V s (l.getD k 0)) z hJ1.2.2 h3⟩) (vc:=(zD ue)) (hv:=W121)
 ·exact Q3 [] [3] [(l.any fun k=>clF g.nodes V s k)=false] W146
abbrev zb5 (y0:Grf):En:=se 30 (C.i .i64 (y0.nodes.length:Int))
def vq (g:Grf) (W:WW) (V:WW) (ue:List Int):Lp (Int×List Int):=⟨fun x=>St.mk 93 [se 31 (C.i .i64 x.1),zb5 g,se 29 (C.h 0),se 4 (C.h 6),se 3 (C.h 5),zO,zbV] [zav g,zb2 g,zY g W,zY g V,zN g,IntOwn x.2,IntOwn ue] [],fun x=>0≤x.1∧x.1≤(g.nodes.length:Int)∧WtI g.nodes g.slots x.1.toNat x.2,fun x=>((g.nodes.length:Int)-x.1).toNat⟩
abbrev zaF (y0:List Int) (y1:Int):En:=En.mk 7 [] (SV.c (C.i .i64 (shlI ja (1:Int) ((3:Int) * if (4:Int)<y0.getD y1.toNat 0 then (4:Int) else y0.getD y1.toNat 0))))
abbrev zcc (y0:Grf) (y1:Int):En:=En.mk 61 [] (SV.c (C.i .i64 ((slL (y0.nodes.getD y1.toNat ub)).length:Int)))
def vr (g:Grf) (W:WW) (V:WW) (ue:List Int) (uf:Int):Lp (Int×List Int):=⟨fun x=>St.mk 93 [se 62 (C.i .i64 x.1),zcc g uf,se 60 (C.h 7),se 8 (C.h 7),zaF ue uf,se 31 (C.i .i64 uf),zb5 g,se 29 (C.h 0),se 4 (C.h 6),se 3 (C.h 5),zO,zbV] [zav g,zb2 g,zY g W,zY g V,zN g,IntOwn x.2,IntOwn ue,IntRow (slL (g.nodes.getD uf.toNat ub))] [],fun x=>0≤x.1∧x.1≤((slL (g.nodes.getD uf.toNat ub)).length:Int)∧WtK g.nodes g.slots uf.toNat x.1.toNat x.2,fun x=>(((slL (g.nodes.getD uf.toNat ub)).length:Int)-x.1).toNat⟩
def vU (g:Grf) (W:WW) (V:WW) (ue:List Int) (uf:Int) (uk:Int) (uy:List Int):Lp (Int×Bool):=⟨fun x=>St.mk 93 [se 71 (C.i .i64 x.1),En.mk 70 [] (SV.c (C.i .i64 ((jS uk.toNat (slL (g.nodes.getD uf.toNat ub))).length:Int))),se 69 (C.h 8),se 11 (C.b x.2),En.mk 10 [] (SV.c (C.i .i64 ((slL (g.nodes.getD uf.toNat ub)).getD uk.toNat 0))),se 9 (C.i .i64 uk),se 62 (C.i .i64 uk),zcc g uf,se 60 (C.h 7),se 8 (C.h 7),zaF ue uf,se 31 (C.i .i64 uf),zb5 g,se 29 (C.h 0),se 4 (C.h 6),se 3 (C.h 5),zO,zbV] [zav g,zb2 g,zY g W,zY g V,zN g,IntOwn uy,IntOwn ue,IntRow (slL (g.nodes.getD uf.toNat ub)),IntRow (jS uk.toNat (slL (g.nodes.getD uf.toNat ub)))] [],fun x=>0≤x.1∧x.1≤((jS uk.toNat (slL (g.nodes.getD uf.toNat ub))).length:Int)∧OnceF (jS uk.toNat (slL (g.nodes.getD uf.toNat ub))) ((slL (g.nodes.getD uf.toNat ub)).getD uk.toNat 0) x.1.toNat x.2,fun x=>(((jS uk.toNat (slL (g.nodes.getD uf.toNat ub))).length:Int)-x.1).toNat⟩
def C98A (g:Grf) (W V:WW) (ue:List Int) (uf:Int) (uo:List Int):St:=St.mk 93 [se 8 (C.h 7),zaF ue uf,se 31 (C.i .i64 uf),zb5 g,se 29 (C.h 0),se 4 (C.h 6),se 3 (C.h 5),zO,zbV] [zav g,zb2 g,zY g W,zY g V,zN g,IntOwn uo,IntOwn ue,IntOwn (slL (g.nodes.getD uf.toNat ub))] []
theorem Qh5 (g:Grf) (hq:zJ g) (hN:1≤g.nodes.length∧g.nodes.length≤4096) (hk:zV g) (W V:WW) (hm:0≤g.slots∧g.slots≤4160) (hT:SlT g.nodes g.slots):Ctr Tryd.prog 24 [zav g,zb2 g,zY g W,zY g V,zN g] [.c (.p 4 0)]
 (DetE (fun w:List Int=>WtQ g.nodes g.slots w) (fun _=>.c (.h 5)) (fun w=>[.dead,.dead,.dead,.dead,zN g,IntOwn w])):=by
 refine Ctr.intro [] Tryd.func24 K K ?_
 refine Ql Qcg (Qm8 g W135 W135 W135) [] ?_ (vc:=[(0:Int)≤g.slots,g.slots≤g.slots,g.slots * (8:Int)≤(140737488355328:Int),g.slots≤(↑maxLen:Int)]) (hv:=W18)
 rintro ue hY1
 try dsimp only at hY1
 refine tz [24,3,2,0] ?_
 refine Q9 (vq g W V ue) (((0:Int),ji g.slots.toNat (0:Int))) (⟨jA _,by omega,WtI.zero⟩) ?_ [] [11,12] [(ji g.slots.toNat (0:Int)).length=g.slots.toNat,∀ (i:Nat),i<(ji g.slots.toNat (0:Int)).length→i64T ((ji g.slots.toNat (0:Int)).getD i 0)=fun j=>valT (jf ja (0:Int)).cells.toList j] W44
 rintro ⟨uf,uo⟩ hJ2
 dsimp only [vq] at hJ2
 refine tz [31,30,29,4,3,2,0] ?_
 refine Q0 (decide (uf<(↑g.nodes.length:Int))) (fun h3=>?_) (fun h3=>?_)
 ·refine tz [31,30,29,4,3,2,0] ?_
  refine Q0 (!((rchL g.nodes).getD uf.toNat ub).b) (fun h4=>?_) (fun h4=>?_) (vc:=(zbp uf g)) (hv:=W18)
  ·exact Q4 (vq g W V ue) (uf,uo) ((uf+(1:Int),uo)) W189 W108 (vc:=(zD uf)) (hv:=W18)
  ·refine RunF.cutn 4 (fun _:Unit=>C98A g W V ue uf uo) (fun _=>True) ?_ ?_
   ·refine tz [5,6,31,30,29,4,3,2,0] ?_
    refine Q2 Q0x (Q7z (g.nodes.getD uf.toNat ub) W135) [] ?_ (vc:=[(0:Int)≤uf,uf<(↑ue.length:Int),uf.toNat<ue.length,Fits ja ((3:Int) * if (4:Int)<ue.getD uf.toNat 0 then (4:Int) else ue.getD uf.toNat 0),(0:Int)≤(3:Int) * if (4:Int)<ue.getD uf.toNat 0 then (4:Int) else ue.getD uf.toNat 0]) (hv:=W18)
    refine tz [52,7,6,31,30,29,4,3,2,0] ?_
    refine Q2 Gq (Q3y (g.nodes.getD uf.toNat ub)) [] ?_
    refine tz [54,8,7,6,31,30,29,4,3,2,0] ?_
    refine Q0 (decide ((g.nodes.getD uf.toNat ub).kind=(1:Int))||decide ((g.nodes.getD uf.toNat ub).kind=(2:Int))||decide ((g.nodes.getD uf.toNat ub).kind=(4:Int))) (fun h5=>?_) (fun h5=>?_)
    ·exact tTo (fun xUnit=>C98A g W V ue uf uo) (fun xUnit=>True) () trivial [0,1,2,3,4,5,6,10] [15,16,17] [(slL (g.nodes.getD uf.toNat ub)).length=(useL (g.nodes.getD uf.toNat ub)).length+1,∀ (i:Nat),i<(slL (g.nodes.getD uf.toNat ub)).length→i≠(useL (g.nodes.getD uf.toNat ub)).length→i64T ((slL (g.nodes.getD uf.toNat ub)).getD i 0)=i64T ((useL (g.nodes.getD uf.toNat ub)).getD i 0),i64T ((slL (g.nodes.getD uf.toNat ub)).getD (useL (g.nodes.getD uf.toNat ub)).length (0:Int)) 0=TC.val (jf ja (g.nodes.getD uf.toNat ub).slot)] W44 (vc:=[(useL (g.nodes.getD uf.toNat ub)).length+1≤maxLen,((useL (g.nodes.getD uf.toNat ub)).length+1) * 8≤140737488355328]) (hv:=W18)
    ·exact tTo (fun xUnit=>C98A g W V ue uf uo) (fun xUnit=>True) () trivial [0,1,2,3,4,5,6,8] [15,16] [(slL (g.nodes.getD uf.toNat ub)).length=(useL (g.nodes.getD uf.toNat ub)).length,∀ (i:Nat),i<(slL (g.nodes.getD uf.toNat ub)).length→i64T ((slL (g.nodes.getD uf.toNat ub)).getD i 0)=i64T ((useL (g.nodes.getD uf.toNat ub)).getD i 0)] W44
   ·rintro ⟨⟩ hCC98A
    refine tz [8,7,31,30,29,4,3,2,0] ?_
    refine Q9 (vr g W V ue uf) (((0:Int),uo)) (⟨jA _,by omega,hJ2.2.2⟩) ?_
    rintro ⟨uk,uy⟩ hJ5
    dsimp only [vr] at hJ5
    refine tz [62,61,60,8,7,31,30,29,4,3,2,0] ?_
    refine Q0 (decide (uk<(↑(slL (g.nodes.getD uf.toNat ub)).length:Int))) (fun h6=>?_) (fun h6=>?_)
    ·refine tz [62,61,60,8,7,31,30,29,4,3,2,0] ?_
     refine Q9 (vU g W V ue uf uk uy) (((0:Int),true)) (⟨jA _,by omega,OnceF.zero⟩) ?_ [] [17,18,20] [(jS uk.toNat (slL (g.nodes.getD uf.toNat ub))).length=uk.toNat-0,∀ (i:Nat),i<(jS uk.toNat (slL (g.nodes.getD uf.toNat ub))).length→i64T ((jS uk.toNat (slL (g.nodes.getD uf.toNat ub))).getD i 0)=i64T ((slL (g.nodes.getD uf.toNat ub)).getD (0+i) 0),(↑(jS uk.toNat (slL (g.nodes.getD uf.toNat ub))).length:Int)=(↑(uk.toNat-0):Int)] W44 (vc:=[(0:Int)≤uk,uk<(↑(slL (g.nodes.getD uf.toNat ub)).length:Int),uk.toNat<(slL (g.nodes.getD uf.toNat ub)).length,(0:Int)≤(0:Int),(0:Int)≤uk,uk≤(↑(slL (g.nodes.getD uf.toNat ub)).length:Int)]) (hv:=W18)
     rintro ⟨uE,uO⟩ hJ7
     dsimp only [vU] at hJ7
     refine tz [71,70,69,11,10,9,62,61,60,8,7,31,30,29,4,3,2,0] ?_
     refine Q0 (decide (uE<(↑(jS uk.toNat (slL (g.nodes.getD uf.toNat ub))).length:Int))) (fun h8=>?_) (fun h8=>?_)
     ·exact Q4 (vU g W V ue uf uk uy) (uE,uO) ((uE+(1:Int),uO&&!decide ((slL (g.nodes.getD uf.toNat ub)).getD uk.toNat 0=(jS uk.toNat (slL (g.nodes.getD uf.toNat ub))).getD uE.toNat 0))) (by dsimp only [vU];have q:=uc h8;have z:=hJ7.1;omega) (by have q:=uc h8;have z:=hJ7.1;have e:(uE+1).toNat=uE.toNat+1:=(by omega);refine ⟨by omega,by omega,?_⟩;dsimp only;rw [e];exact OnceF.next hJ7.2.2 (by omega)) (vc:=[(0:Int)≤uE,uE<(↑(jS uk.toNat (slL (g.nodes.getD uf.toNat ub))).length:Int),uE.toNat<(jS uk.toNat (slL (g.nodes.getD uf.toNat ub))).length,Fits ja (uE+(1:Int))]) (hv:=W18)
     ·refine tz [71,70,69,11,10,9,62,61,60,8,7,31,30,29,4,3,2,0] ?_
      refine Q0 (uO) (fun h9=>?_) (fun h9=>?_)
      ·exact Q4 (vr g W V ue uf) (uk,uy) ((uk+(1:Int),uy.set ((slL (g.nodes.getD uf.toNat ub)).getD uk.toNat 0).toNat (uy.getD ((slL (g.nodes.getD uf.toNat ub)).getD uk.toNat 0).toNat (0:Int)+shlI ja (1:Int) ((3:Int) * if (4:Int)<ue.getD uf.toNat 0 then (4:Int) else ue.getD uf.toNat 0)))) W190 W101 [] [11,12] [(uy.set ((slL (g.nodes.getD uf.toNat ub)).getD uk.toNat 0).toNat (uy.getD ((slL (g.nodes.getD uf.toNat ub)).getD uk.toNat 0).toNat (0:Int)+shlI ja (1:Int) ((3:Int) * if (4:Int)<ue.getD uf.toNat 0 then (4:Int) else ue.getD uf.toNat 0))).length=uy.length,∀ (i:Nat),i<(uy.set ((slL (g.nodes.getD uf.toNat ub)).getD uk.toNat 0).toNat (uy.getD ((slL (g.nodes.getD uf.toNat ub)).getD uk.toNat 0).toNat (0:Int)+shlI ja (1:Int) ((3:Int) * if (4:Int)<ue.getD uf.toNat 0 then (4:Int) else ue.getD uf.toNat 0))).length→i64T ((uy.set ((slL (g.nodes.getD uf.toNat ub)).getD uk.toNat 0).toNat (uy.getD ((slL (g.nodes.getD uf.toNat ub)).getD uk.toNat 0).toNat (0:Int)+shlI ja (1:Int) ((3:Int) * if (4:Int)<ue.getD uf.toNat 0 then (4:Int) else ue.getD uf.toNat 0))).getD i 0)=updT (fun i=>i64T (uy.getD i 0)) ((slL (g.nodes.getD uf.toNat ub)).getD uk.toNat 0).toNat 0 [jf ja (uy.getD ((slL (g.nodes.getD uf.toNat ub)).getD uk.toNat 0).toNat (0:Int)+shlI ja (1:Int) ((3:Int) * if (4:Int)<ue.getD uf.toNat 0 then (4:Int) else ue.getD uf.toNat 0))] i] W44 (vc:=[(0:Int)≤(slL (g.nodes.getD uf.toNat ub)).getD uk.toNat 0,(slL (g.nodes.getD uf.toNat ub)).getD uk.toNat 0<(↑uy.length:Int),((slL (g.nodes.getD uf.toNat ub)).getD uk.toNat 0).toNat<uy.length,Fits ja (uy.getD ((slL (g.nodes.getD uf.toNat ub)).getD uk.toNat 0).toNat (0:Int)+shlI ja (1:Int) ((3:Int) * if (4:Int)<ue.getD uf.toNat 0 then (4:Int) else ue.getD uf.toNat 0)),(0:Int)≤(slL (g.nodes.getD uf.toNat ub)).getD uk.toNat 0,(slL (g.nodes.getD uf.toNat ub)).getD uk.toNat 0<(↑uy.length:Int),((slL (g.nodes.getD uf.toNat ub)).getD uk.toNat 0).toNat<uy.length,Fits ja (uk+(1:Int))]) (hv:=W18)
      ·exact Q4 (vr g W V ue uf) (uk,uy) ((uk+(1:Int),uy)) W190 W101 (vc:=(zD uk)) (hv:=W18)
    ·exact Q4 (vq g W V ue) (uf,uo) ((uf+(1:Int),uy)) W189 W108 (vc:=(zD uf)) (hv:=W18)
 ·exact Q3 (res:=_) (post:=_) (hS:=⟨uo,(by have q:=ud h3;have e:uf.toNat=g.nodes.length:=(by have v:=hJ2;omega);have w:=hJ2.2.2;rw [e] at w;exact w.done hm.1),rfl,rfl⟩)
def vv (g:Grf) (a:Alc):Lp (Int×Bool):=⟨fun x=>{ N:=45,fr:=[se 27 (C.i .i64 x.1),se 26 (C.i .i64 (↑a.places.length:Int)),se 25 (C.h 1),se 4 (C.b x.2),zbo],rg:=[rowOf 13 (·.tc) g.nodes,rowOf 2 (·.tc) a.places,ze g,Reg.box 47 [C.h 1,C.i .i64 a.cells]],wr:=[] },fun x=>0≤x.1∧x.1≤(a.places.length:Int)∧∀ k,k<x.1.toNat→fit1 a.cells (a.places.getD k ub)=true,fun x=>((a.places.length:Int)-x.1).toNat⟩
theorem Qo9 (g:Grf) (a:Alc) (hp:a.places.length≤9223372036854775807):Ctr Tryd.prog 22 [zav g,Plc.rowR a.places] [.agg (g.cs 0),.agg (a.cs 1)]
 (Det (.c (.b (fitB g.slots a))) [.dead,.dead]):=by
 refine Ctr.intro [] Tryd.func22 K K ?_
 refine Q0 (!decide ((↑a.places.length:Int)=g.slots)||decide (a.cells<(0:Int))||decide ((4160:Int)<a.cells)) (fun h1=>?_) (fun h1=>?_)
 ·exact Q3 [] [0] [fitB g.slots a=false] W81
 ·refine tz [4,3] ?_
  refine Q9 (vv g a) (((0:Int),false)) (⟨jA _,by omega,fun k hk=>absurd hk W149⟩) ?_
  rintro ⟨uf,uo⟩ hJ2
  dsimp only [vv] at hJ2
  refine tz [27,26,25,4,3] ?_
  refine Q0 (decide (uf<(↑a.places.length:Int))) (fun h3=>?_) (fun h3=>?_)
  ·refine tz [27,26,25,4,3] ?_
   refine Q0 ((a.places.getD uf.toNat ub).cell) (fun h4=>?_) (fun h4=>?_) (vc:=[(0:Int)≤uf,uf<(↑a.places.length:Int),uf.toNat<a.places.length]) (hv:=W112)
   ·refine tz [7,6,27,26,25,4,3] ?_
    refine Q0 (decide ((a.places.getD uf.toNat ub).n<(0:Int))||decide (a.cells≤(a.places.getD uf.toNat ub).n)) (fun h5=>?_) (fun h5=>?_)
    ·exact Q3 [] [0] [fitB g.slots a=false] W81
    ·exact Q4 (vv g a) (uf,uo) ((uf+(1:Int),uo)) W193 W153 (vc:=(zD uf)) (hv:=W112)
   ·refine tz [7,6,27,26,25,4,3] ?_
    refine Q0 (decide ((a.places.getD uf.toNat ub).n<(0:Int))||decide ((13:Int)≤(a.places.getD uf.toNat ub).n)) (fun h5=>?_) (fun h5=>?_)
    ·exact Q3 [] [0] [fitB g.slots a=false] W81
    ·exact Q4 (vv g a) (uf,uo) ((uf+(1:Int),uo)) W193 W153 (vc:=(zD uf)) (hv:=W112)
  ·exact Q3 [] [0] [fitB g.slots a=true] W81
def vV (sh:List Dcl) (lk:List Dcl) (gs:List Grf) (al:List Alc):Lp (Int×Int×Bool):=⟨fun x=>{ N:=100,fr:=[se 37 (C.i .i64 x.1),se 36 (C.i .i64 (↑gs.length:Int)),se 35 (C.h 2),se 5 (C.i .i64 x.2.1),se 4 (C.b x.2.2),se 2 (C.p 4 0),se 1 (C.h 3)],rg:=[rowOf 3 (·.tc) sh,rowOf 3 (·.tc) lk,rowOf 4 (·.tc) gs,rowOf 2 (·.tc) al,zP],wr:=[] },fun x=>0≤x.1∧x.1≤(gs.length:Int)∧∀ k,k<x.1.toNat→fitB (gs.getD k ub).slots (al.getD k ub)=true,fun x=>((gs.length:Int)-x.1).toNat⟩
def vW (sh:List Dcl) (lk:List Dcl) (gs:List Grf) (al:List Alc) (um:Int) (uu:Bool):Lp (Int×Bool):=⟨fun x=>{ N:=100,fr:=[se 53 (C.i .i64 x.1),se 52 (C.i .i64 (↑gs.length:Int)),se 51 (C.h 2),se 11 (C.b x.2),se 5 (C.i .i64 um),se 4 (C.b uu),se 1 (C.h 3)],rg:=[rowOf 3 (·.tc) sh,rowOf 3 (·.tc) lk,rowOf 4 (·.tc) gs,rowOf 2 (·.tc) al,zP],wr:=[] },fun x=>0≤x.1∧x.1≤(gs.length:Int)∧x.2=okF gs al x.1.toNat,fun x=>((gs.length:Int)-x.1).toNat⟩
abbrev zj (y0:List Grf) (y1:Int):Reg:=Reg.row 4 y0.length (fun i=>(y0.getD i ub).tc) (some (y1.toNat,[C.v (jF (y0.getD y1.toNat ub).name),C.i .i64 (y0.getD y1.toNat ub).locals,C.i .i64 (y0.getD y1.toNat ub).slots,C.h 5]))
def ve (sh:List Dcl) (lk:List Dcl) (gs:List Grf) (al:List Alc) (um:Int) (uu:Bool) (uk:Int) (uy:Bool) (uE:WW) (uO:Nat→Nat→Int) (uD:List Int):Lp (Int×Bool):=⟨fun x=>{ N:=100,fr:=[se 69 (C.i .i64 x.1),se 68 (C.i .i64 (↑(al.getD uk.toNat ub).places.length:Int)),se 67 (C.h 6),se 16 (C.h 13),se 15 (C.h 12),se 14 (C.p 8 0),se 53 (C.i .i64 uk),se 52 (C.i .i64 (↑gs.length:Int)),se 51 (C.h 2),se 11 (C.b x.2),se 5 (C.i .i64 um),se 4 (C.b uu),se 1 (C.h 3)],rg:=[rowOf 3 (·.tc) sh,rowOf 3 (·.tc) lk,zj gs uk,Reg.row 2 al.length (fun i=>(al.getD i ub).tc) (some (uk.toNat,[C.h 6,C.i .i64 (al.getD uk.toNat ub).cells])),zP,zt gs uk,Reg.row 2 (al.getD uk.toNat ub).places.length (fun i=>((al.getD uk.toNat ub).places.getD i ub).tc) none,Reg.box 59 [C.v (jF (gs.getD uk.toNat ub).name),C.i .i64 (gs.getD uk.toNat ub).locals,C.i .i64 (gs.getD uk.toNat ub).slots,C.h 5],Reg.box 112 [C.v (jF (gs.getD uk.toNat ub).name),C.i .i64 (gs.getD uk.toNat ub).locals,C.i .i64 (gs.getD uk.toNat ub).slots,C.h 5,C.h 9,C.h 10,C.h 11],ownOf 4 1 (·.tc) (rchL (gs.getD uk.toNat ub).nodes),Reg.own 115 65 (gs.getD uk.toNat ub).nodes.length (fun i=>wsT (uE i)) none,Reg.own 115 65 (gs.getD uk.toNat ub).nodes.length (fun i=>wsT (uO i)) none,IntOwn uD,Reg.mpr (MT.mk Tryd.prog 92 52 49 [CK.b,CK.i ja] true [] false) 3 1 (2 * x.1.toNat) (atM (gs.getD uk.toNat ub).nodes (al.getD uk.toNat ub).places x.1.toNat) none],wr:=[] },fun x=>0≤x.1∧x.1≤((al.getD uk.toNat ub).places.length:Int)∧x.2=(okF gs al uk.toNat&&okS (gs.getD uk.toNat ub).nodes (al.getD uk.toNat ub).places x.1.toNat),fun x=>(((al.getD uk.toNat ub).places.length:Int)-x.1).toNat⟩
abbrev zac (y0:List Grf) (y1:Int) (y2:List Alc) (y3 y4:Int):List Prop:=[(atM (y0.getD y1.toNat ub).nodes (y2.getD y1.toNat ub).places y3.toNat (((y2.getD y1.toNat ub).places.getD y3.toNat ub).cell,((y2.getD y1.toNat ub).places.getD y3.toNat ub).n)).fst+1≤maxLen,((atM (y0.getD y1.toNat ub).nodes (y2.getD y1.toNat ub).places y3.toNat (((y2.getD y1.toNat ub).places.getD y3.toNat ub).cell,((y2.getD y1.toNat ub).places.getD y3.toNat ub).n)).fst+1) * 8≤140737488355328,Fits ja ((y2.getD y1.toNat ub).places.getD y3.toNat ub).n,(MT.mk Tryd.prog 92 52 49 [CK.b,CK.i ja] true [] false).P=Tryd.prog,2 * y3.toNat+1<maxLen,y4=y4,Fits ja (y3+(1:Int))]
abbrev zak (y0:List Alc) (y1 y2:Int):List Prop:=[Fits ja ((y0.getD y1.toNat ub).places.getD y2.toNat ub).n,(MT.mk Tryd.prog 92 52 49 [CK.b,CK.i ja] true [] false).P=Tryd.prog,2 * y2.toNat<maxLen,(((y0.getD y1.toNat ub).places.getD y2.toNat ub).cell,((y0.getD y1.toNat ub).places.getD y2.toNat ub).n)=(((y0.getD y1.toNat ub).places.getD y2.toNat ub).cell,((y0.getD y1.toNat ub).places.getD y2.toNat ub).n)]
abbrev za6 (y0:List Alc):Prop:=∀ j:Nat,(y0.getD j ub).places.length≤9223372036854775807
theorem Qma (sh lk:List Dcl) (gs:List Grf) (al:List Alc) (hs:zF sh) (hl:zF lk) (hg:zab gs) (hw:UnitW gs) (hp:za6 al):Ctr Tryd.prog 15 [Dcl.rowR sh,Dcl.rowR lk,Grf.rowR gs,Alc.rowR al] [.agg [.h 0,.h 1,.h 2],.c (.h 3)]
 (Det (.tup [(false,[.b (rgtU sh lk gs al).1]),(false,[.i .i64 (rgtU sh lk gs al).2])]) [.dead,.dead,.dead,.dead]):=by
 refine Ctr.intro [] Tryd.func15 K K ?_
 refine Q2 J2 (Q2j sh lk gs W5 W5 W5 W5) [] ?_
 refine tz [21,5,4,2,1] ?_
 refine Q0 (!decide ((chkU sh lk gs).fst=(0:Int))) (fun h1=>?_) (fun h1=>?_)
 ·exact Q3 [] [0,1] [(rgtU sh lk gs al).fst=false,(rgtU sh lk gs al).snd=(chkU sh lk gs).fst] W88
 ·refine tz [5,4,2,1] ?_
  refine Q0 (!decide ((↑al.length:Int)=(↑gs.length:Int))) (fun h2=>?_) (fun h2=>?_)
  ·exact Q3 [] [0,1] [(rgtU sh lk gs al).fst=false,(rgtU sh lk gs al).snd=(150:Int)] W88
  ·have hL:al.length=gs.length:=by (simp only [kC,decide_eq_true_eq] at h2;omega)
   have hN8:gs.length≤8:=(Yj W133).1.2.2
   refine tz [5,4,2,1] ?_
   refine Q9 (vV sh lk gs al) (((0:Int),(0:Int),false)) (⟨jA _,by omega,fun k hk=>absurd hk W149⟩) ?_
   rintro ⟨uh,um,uu⟩ hJ3
   dsimp only [vV] at hJ3
   refine tz [37,36,35,5,4,2,1] ?_
   refine Q0 (decide (uh<(↑gs.length:Int))) (fun h4=>?_) (fun h4=>?_)
   ·refine Y3 2 (uh.toNat) ?_ (vc:=(zbX uh gs)) (hv:=W10)
    refine Y3 3 (uh.toNat) ?_ (vc:=[uh.toNat<al.length]) (hv:=W10)
    refine tz [37,36,35,5,4,2,1] ?_
    refine Q2 Qcf (Qo9 (gs.getD uh.toNat ub) (al.getD uh.toNat ub) W5) [5,6] ?_ (vc:=[(0:Int)≤uh,uh<(↑gs.length:Int),uh.toNat=uh.toNat,(0:Int)≤uh,uh<(↑al.length:Int),uh.toNat=uh.toNat]) (hv:=W10)
    refine tz [47,46,45,44,43,42,9,10,37,36,35,5,4,2,1] ?_
    refine Q0 (!fitB (gs.getD uh.toNat ub).slots (al.getD uh.toNat ub)) (fun h5=>?_) (fun h5=>?_)
    ·exact Q3 [] [0,1] [(rgtU sh lk gs al).fst=false,(rgtU sh lk gs al).snd=(150:Int)] W88
    ·exact Q4 (vV sh lk gs al) (uh,um,uu) ((uh+(1:Int),um,uu)) (by dsimp only [vV];have q:=uc h4;have z:=hJ3.1;omega) W171 (vc:=(zD uh)) (hv:=W10)
   ·have hF:∀ k,k<gs.length→fitB (gs.getD k ub).slots (al.getD k ub)=true:=fun k hk=>hJ3.2.2 k (by have q:=ud h4;omega)
    refine tz [37,36,35,5,4,2,1] ?_
    refine Q9 (vW sh lk gs al um uu) (((0:Int),true)) (⟨jA _,by omega,rfl⟩) ?_
    rintro ⟨uk,uy⟩ hJ5
    dsimp only [vW] at hJ5
    refine tz [53,52,51,11,5,4,1] ?_
    refine Q0 (decide (uk<(↑gs.length:Int))) (fun h6=>?_) (fun h6=>?_)
    ·refine Y3 2 (uk.toNat) ?_ (vc:=(zbX uk gs)) (hv:=W10)
     refine Y3 3 (uk.toNat) ?_ (vc:=[uk.toNat<al.length]) (hv:=W10)
     refine tz [53,52,51,11,5,4,1] ?_
     refine Ql Qal (Qm6 (gs.getD uk.toNat ub) W5 W5 W5 W5) [5] ?_ (vc:=(zaD uk gs)) (hv:=W10)
     rintro ⟨uE,uO⟩ hY7
     try dsimp only at hY7
     refine tz [59,12,53,52,51,11,5,4,1] ?_
     refine Ql Q26 (Qh5 (gs.getD uk.toNat ub) W5 W5 W5 uE uO W5 W5) [5,9,10,11,8] ?_
     rintro uD hY8
     try dsimp only at hY8
     refine tz [61,14,12,53,52,51,11,5,4,1] ?_
     refine Q9 (ve sh lk gs al um uu uk uy uE uO uD) (((0:Int),uy)) (⟨jA _,by omega,by show uy=_;rw [hJ5.2.2];exact (Bool.and_true _).symm⟩) ?_ [] [32] [MrEq (MT.mk Tryd.prog 92 52 49 [CK.b,CK.i ja] true [] false) 3 1 0 (atM (gs.getD uk.toNat ub).nodes (al.getD uk.toNat ub).places 0) (MT.mk Tryd.prog 92 52 49 [CK.b,CK.i ja] true [] false) 3 1 0 fun x=>(0,fun x x_1=>TC.any)] W21 (vc:=[(MT.mk Tryd.prog 92 52 49 [CK.b,CK.i ja] true [] false).P=Tryd.prog,(MT.mk Tryd.prog 92 52 49 [CK.b,CK.i ja] true [] false).OkV (jg none 0 0),(0:Int)≤uk,uk<(↑al.length:Int),uk.toNat=uk.toNat]) (hv:=W10)
     rintro ⟨un,uY⟩ hJ9
     dsimp only [ve] at hJ9
     refine tz [69,68,67,16,15,14,53,52,51,11,5,4,1] ?_
     refine Q0 (decide (un<(↑(al.getD uk.toNat ub).places.length:Int))) (fun h10=>?_) (fun h10=>?_)
     ·refine tz [69,68,67,16,15,14,53,52,51,11,5,4,1] ?_
      refine Q0 (decide (uD.getD un.toNat 0=(0:Int))) (fun h11=>?_) (fun h11=>?_) (vc:=[(0:Int)≤un,un<(↑(al.getD uk.toNat ub).places.length:Int),un.toNat<(al.getD uk.toNat ub).places.length,(0:Int)≤un,un<(↑uD.length:Int),un.toNat<uD.length]) (hv:=W10)
      ·exact Q4 (ve sh lk gs al um uu uk uy uE uO uD) (un,uY) ((un+(1:Int),uY)) W172 W25 [] [32] [MrEq (MT.mk Tryd.prog 92 52 49 [CK.b,CK.i ja] true [] false) 3 1 (2 * (un+(1:Int)).toNat) (atM (gs.getD uk.toNat ub).nodes (al.getD uk.toNat ub).places (un+(1:Int)).toNat) (MT.mk Tryd.prog 92 52 49 [CK.b,CK.i ja] true [] false) 3 1 (2 * un.toNat) (atM (gs.getD uk.toNat ub).nodes (al.getD uk.toNat ub).places un.toNat)] W21 (vc:=(zD un)) (hv:=W10)
      ·refine RunF.mopen 13 (T:=MT.mk Tryd.prog 92 52 49 [CK.b,CK.i ja] true [] false) (ty:=3) (sz:=1) (n:=2 * un.toNat) (f:=atM (gs.getD uk.toNat ub).nodes (al.getD uk.toNat ub).places un.toNat) ((((al.getD uk.toNat ub).places.getD un.toNat ub).cell,((al.getD uk.toNat ub).places.getD un.toNat ub).n)) K K ?_
       refine tz [17,18,69,68,67,16,15,14,53,52,51,11,5,4,1] ?_
       refine Q05 (uY) (fun h12=>?_) (fun h12=>?_) (vc:=[uY=true→Fits ja ((al.getD uk.toNat ub).places.getD un.toNat ub).n,uY=true→(MT.mk Tryd.prog 92 52 49 [CK.b,CK.i ja] true [] false).P=Tryd.prog,uY=true→(((al.getD uk.toNat ub).places.getD un.toNat ub).cell,((al.getD uk.toNat ub).places.getD un.toNat ub).n)=(((al.getD uk.toNat ub).places.getD un.toNat ub).cell,((al.getD uk.toNat ub).places.getD un.toNat ub).n)]) (hv:=W10)
       ·refine tz [85,82,81,80,17,18,69,68,67,16,15,14,53,52,51,11,5,4,1] ?_
        refine Q2 Q27 (Qh4 (gs.getD uk.toNat ub) W5 uE uO un (atL (gs.getD uk.toNat ub).nodes (al.getD uk.toNat ub).places un.toNat (((al.getD uk.toNat ub).places.getD un.toNat ub).cell,((al.getD uk.toNat ub).places.getD un.toNat ub).n)) W5 W5 W5) [5,9,10,11,8,15] ?_ [11,12] [(atL (gs.getD uk.toNat ub).nodes (al.getD uk.toNat ub).places un.toNat (((al.getD uk.toNat ub).places.getD un.toNat ub).cell,((al.getD uk.toNat ub).places.getD un.toNat ub).n)).length=(atM (gs.getD uk.toNat ub).nodes (al.getD uk.toNat ub).places un.toNat (((al.getD uk.toNat ub).places.getD un.toNat ub).cell,((al.getD uk.toNat ub).places.getD un.toNat ub).n)).fst,∀ (i:Nat),i<(atL (gs.getD uk.toNat ub).nodes (al.getD uk.toNat ub).places un.toNat (((al.getD uk.toNat ub).places.getD un.toNat ub).cell,((al.getD uk.toNat ub).places.getD un.toNat ub).n)).length→i64T ((atL (gs.getD uk.toNat ub).nodes (al.getD uk.toNat ub).places un.toNat (((al.getD uk.toNat ub).places.getD un.toNat ub).cell,((al.getD uk.toNat ub).places.getD un.toNat ub).n)).getD i 0)=(atM (gs.getD uk.toNat ub).nodes (al.getD uk.toNat ub).places un.toNat (((al.getD uk.toNat ub).places.getD un.toNat ub).cell,((al.getD uk.toNat ub).places.getD un.toNat ub).n)).snd i] W21
        refine tz [86,80,17,18,69,68,67,16,15,14,53,52,51,11,5,4,1] ?_
        refine RunF.ment (vc:=[]) (vc2:=(zak al uk un)) 13 K trivial K W10 (fun _=>by kernel_rfl) (fun st13=>?_)
        refine RunF.hereJ (vc:=(zac gs uk al un st13)) K K W10 ?_
        refine Q25 17 ((i64T un)) ?_ (vc:=[un=un]) (hv:=(by simp only [Conj]))
        refine RunF.mclose 13 17 (T:=MT.mk Tryd.prog 92 52 49 [CK.b,CK.i ja] true [] false) (ty:=3) (sz:=1) (n:=2 * un.toNat+1+1) (m:=(atM (gs.getD uk.toNat ub).nodes (al.getD uk.toNat ub).places un.toNat (((al.getD uk.toNat ub).places.getD un.toNat ub).cell,((al.getD uk.toNat ub).places.getD un.toNat ub).n)).fst+1) (f:=atM (gs.getD uk.toNat ub).nodes (al.getD uk.toNat ub).places un.toNat) (x:=(((al.getD uk.toNat ub).places.getD un.toNat ub).cell,((al.getD uk.toNat ub).places.getD un.toNat ub).n)) (g:=fun i=>if i=(atM (gs.getD uk.toNat ub).nodes (al.getD uk.toNat ub).places un.toNat (((al.getD uk.toNat ub).places.getD un.toNat ub).cell,((al.getD uk.toNat ub).places.getD un.toNat ub).n)).fst then i64T un else (atM (gs.getD uk.toNat ub).nodes (al.getD uk.toNat ub).places un.toNat (((al.getD uk.toNat ub).places.getD un.toNat ub).cell,((al.getD uk.toNat ub).places.getD un.toNat ub).n)).snd i) K K K ?_
        exact Q4 (ve sh lk gs al um uu uk uy uE uO uD) (un,uY) ((un+(1:Int),!(atL (gs.getD uk.toNat ub).nodes (al.getD uk.toNat ub).places un.toNat (((al.getD uk.toNat ub).places.getD un.toNat ub).cell,((al.getD uk.toNat ub).places.getD un.toNat ub).n)).any fun k=>clF (gs.getD uk.toNat ub).nodes uO un k)) W172 W25 [] [32,37] [MrEq (MT.mk Tryd.prog 92 52 49 [CK.b,CK.i ja] true [] false) 3 1 (2 * (un+(1:Int)).toNat) (atM (gs.getD uk.toNat ub).nodes (al.getD uk.toNat ub).places (un+(1:Int)).toNat) (MT.mk Tryd.prog 92 52 49 [CK.b,CK.i ja] true [] false) 3 1 (2 * un.toNat+1+1) fun (p:Bool×Int)=>if p=(((al.getD uk.toNat ub).places.getD un.toNat ub).cell,((al.getD uk.toNat ub).places.getD un.toNat ub).n) then ((atM (gs.getD uk.toNat ub).nodes (al.getD uk.toNat ub).places un.toNat (((al.getD uk.toNat ub).places.getD un.toNat ub).cell,((al.getD uk.toNat ub).places.getD un.toNat ub).n)).fst+1,fun i=>if i=(atM (gs.getD uk.toNat ub).nodes (al.getD uk.toNat ub).places un.toNat (((al.getD uk.toNat ub).places.getD un.toNat ub).cell,((al.getD uk.toNat ub).places.getD un.toNat ub).n)).fst then i64T un else (atM (gs.getD uk.toNat ub).nodes (al.getD uk.toNat ub).places un.toNat (((al.getD uk.toNat ub).places.getD un.toNat ub).cell,((al.getD uk.toNat ub).places.getD un.toNat ub).n)).snd i) else atM (gs.getD uk.toNat ub).nodes (al.getD uk.toNat ub).places un.toNat p,(!(atL (gs.getD uk.toNat ub).nodes (al.getD uk.toNat ub).places un.toNat (((al.getD uk.toNat ub).places.getD un.toNat ub).cell,((al.getD uk.toNat ub).places.getD un.toNat ub).n)).any fun k=>clF (gs.getD uk.toNat ub).nodes uO un k)=!(atL (gs.getD uk.toNat ub).nodes (al.getD uk.toNat ub).places un.toNat (((al.getD uk.toNat ub).places.getD un.toNat ub).cell,((al.getD uk.toNat ub).places.getD un.toNat ub).n)).any fun k=>clF (gs.getD uk.toNat ub).nodes uO un k] W21
       ·refine tz [85,82,81,80,17,18,69,68,67,16,15,14,53,52,51,11,5,4,1] ?_
        refine RunF.ment (vc:=[]) (vc2:=(zak al uk un)) 13 K trivial K W10 (fun _=>by kernel_rfl) (fun st13=>?_)
        refine RunF.hereJ (vc:=(zac gs uk al un st13)) K K W10 ?_
        refine Q25 17 ((i64T un)) ?_ (vc:=[un=un]) (hv:=(by simp only [Conj]))
        refine RunF.mclose 13 17 (T:=MT.mk Tryd.prog 92 52 49 [CK.b,CK.i ja] true [] false) (ty:=3) (sz:=1) (n:=2 * un.toNat+1+1) (m:=(atM (gs.getD uk.toNat ub).nodes (al.getD uk.toNat ub).places un.toNat (((al.getD uk.toNat ub).places.getD un.toNat ub).cell,((al.getD uk.toNat ub).places.getD un.toNat ub).n)).fst+1) (f:=atM (gs.getD uk.toNat ub).nodes (al.getD uk.toNat ub).places un.toNat) (x:=(((al.getD uk.toNat ub).places.getD un.toNat ub).cell,((al.getD uk.toNat ub).places.getD un.toNat ub).n)) (g:=fun i=>if i=(atM (gs.getD uk.toNat ub).nodes (al.getD uk.toNat ub).places un.toNat (((al.getD uk.toNat ub).places.getD un.toNat ub).cell,((al.getD uk.toNat ub).places.getD un.toNat ub).n)).fst then i64T un else (atM (gs.getD uk.toNat ub).nodes (al.getD uk.toNat ub).places un.toNat (((al.getD uk.toNat ub).places.getD un.toNat ub).cell,((al.getD uk.toNat ub).places.getD un.toNat ub).n)).snd i) K K K ?_
        exact Q4 (ve sh lk gs al um uu uk uy uE uO uD) (un,uY) ((un+(1:Int),false)) W172 W25 [] [32] [MrEq (MT.mk Tryd.prog 92 52 49 [CK.b,CK.i ja] true [] false) 3 1 (2 * (un+(1:Int)).toNat) (atM (gs.getD uk.toNat ub).nodes (al.getD uk.toNat ub).places (un+(1:Int)).toNat) (MT.mk Tryd.prog 92 52 49 [CK.b,CK.i ja] true [] false) 3 1 (2 * un.toNat+1+1) fun (p:Bool×Int)=>if p=(((al.getD uk.toNat ub).places.getD un.toNat ub).cell,((al.getD uk.toNat ub).places.getD un.toNat ub).n) then ((atM (gs.getD uk.toNat ub).nodes (al.getD uk.toNat ub).places un.toNat (((al.getD uk.toNat ub).places.getD un.toNat ub).cell,((al.getD uk.toNat ub).places.getD un.toNat ub).n)).fst+1,fun i=>if i=(atM (gs.getD uk.toNat ub).nodes (al.getD uk.toNat ub).places un.toNat (((al.getD uk.toNat ub).places.getD un.toNat ub).cell,((al.getD uk.toNat ub).places.getD un.toNat ub).n)).fst then i64T un else (atM (gs.getD uk.toNat ub).nodes (al.getD uk.toNat ub).places un.toNat (((al.getD uk.toNat ub).places.getD un.toNat ub).cell,((al.getD uk.toNat ub).places.getD un.toNat ub).n)).snd i) else atM (gs.getD uk.toNat ub).nodes (al.getD uk.toNat ub).places un.toNat p] W21
     ·exact Q4 (vW sh lk gs al um uu) (uk,uy) ((uk+(1:Int),uY)) (by dsimp only [vW];have q:=uc h6;have z:=hJ5.1;omega) (by have q:=uc h6;have z:=hJ5.1;have w:=hJ9.1;have w2:=ud h10;refine ⟨by omega,by omega,?_⟩;show uY=_;rw [show (uk+1).toNat=uk.toNat+1 by omega,Qiu,hJ9.2.2,show un.toNat=(al.getD uk.toNat ub).places.length by (have w3:=hJ9.2.1;omega)]) (vc:=(zD uk)) (hv:=W10)
    ·exact Q3 [] [0,1] [(rgtU sh lk gs al).fst=uy,(rgtU sh lk gs al).snd=(0:Int)] W88
end Go.Proofs.YtnddggenhefaeaaDoor
end
namespace Go.Tx
open Go Go.RowKit
def tabrowSt (st:St) (r n:Nat) (f:Nat→Nat→TC):St:={ st with rg:=st.rg.set r (.row 1 n f none) }
section
variable {P:Program} [hw:Wide P] {fn:Func} {n0:Nat} {U:Tgt} {c:Cfg}
theorem RunF.tabrow (r t:Nat) {n:Nat} {g f:Nat→Nat→TC} {X:Ext} (hr:nth c.st.rg r=some (.row 1 n g none)) (ht:nth c.st.rg t=some (.froz X)) (hsc:c.st.scp=true)
 (h:∀ i,i<n→∃ y ty m h,g i 0=.val y∧f i 0=.sub ty 1 m h∧X.Tab y 1 m h) (next:RunF P fn n0 U ⟨c.k,tabrowSt c.st r n f⟩):RunF P fn n0 U c:=by
 unfold RunF at next ⊢
 intro b hb a w ⟨ε,hs⟩
 have hrr:=Q6 hr
 have htt:=Q6 ht
 have hfz:∀ b,X.ro b→ε.fp t b∧b<w.heap.size∧w.heap[b]?=X.w0.heap[b]?:=Qe hs ht
 have hlen:=hs.regs.len
 have hrl:r<c.st.rg.length:=(List.getElem?_eq_some_iff.1 hrr).1
 have hrow:RdRow w (ε.fp r) (ε.at_ r) 1 n (okR ε w (ε.fp r) g none):=(hs.regs.reg r _ hrr).1
 generalize hx0:(⟨ε.at_ r,fun k=>ε.fp r k∨ε.fp t k⟩:Ent)=x0
 have e1:∀ i,i≠r→Env.ent (ε.set r x0) i=ε.ent i:=fun i hne=>by
  unfold Env.ent
  rw [jb,jb,jC (Ne.symm hne)]
 have e2:Env.ent (ε.set r x0) r=x0:=Zl W181
 have hat:∀ i,i<c.st.rg.length→Env.at_ (ε.set r x0) i=ε.at_ i:=fun i _=>by
  by_cases hir:i=r
  ·subst hir;unfold Env.at_;rw [e2,← hx0];rfl
  ·unfold Env.at_;rw [e1 i hir]
 have hscr:c.st.rg.all (Reg.scp c.st.rg.length)=true:=(Qh hsc).2
 have cls:∀ (i:Nat) (s:Reg),(c.st.rg.set r (.row 1 n f none))[i]?=some s→(i=r∧s=.row 1 n f none)∨(i≠r∧c.st.rg[i]?=some s):=fun i s hi=>by
  by_cases hir:i=r
  ·subst hir;rw [jE hrl] at hi;cases hi;exact .inl ⟨rfl,rfl⟩
  ·rw [jC (Ne.symm hir)] at hi;exact .inr ⟨hir,hi⟩
 refine next b hb a w ⟨ε.set r x0,Q03 hs hsc ⟨by simpa using hlen,fun i s hi=>?_,fun i s hi hl k hk=>?_,fun i s hi he k hk=>?_,fun i j ri rj hij hi hj he hl k hk1 hk2=>?_⟩ hat (by simp [hlen])⟩
 ·rcases cls i s hi with ⟨rfl,rfl⟩ | ⟨hne,hi⟩
  ·rw [e2,← hx0]
   refine ⟨?_,trivial⟩
   obtain ⟨A,cp,h0,h1,h2,h3,h4⟩:=hrow
   refine ⟨A,cp,h0,h1,h2,fun ad ha hp=>⟨(h3 ad ha hp).1,.inl (h3 ad ha hp).2⟩,fun hp=>?_⟩
   obtain ⟨ad,ha,h5⟩:=h4 hp
   refine ⟨ad,ha,fun i' j' hi' hj'=>?_⟩
   obtain ⟨u,k1,k2⟩:=h5 i' j' hi' hj'
   obtain rfl:j'=0:=by omega
   obtain ⟨y,ty,m,hh,g1,g2,g3⟩:=h i' hi'
   refine ⟨u,k1,?_⟩
   have k2:RdC w (ε.fp i) (g i' 0) u:=k2
   rw [g1] at k2
   have k2:u=y:=k2
   subst k2
   show RdC w _ (f i' 0) u
   rw [g2]
   exact Ext.Tab.keep (fun b hb=>⟨.inr (hfz b hb).1,(hfz b hb).2⟩) g3
  ·rw [e1 i hne]
   exact (hs.regs.reg i s hi).same (List.all_eq_true.1 hscr s (jq hi)) hat
 ·rcases cls i s hi with ⟨rfl,rfl⟩ | ⟨hne,hi⟩
  ·unfold Env.fp at hk;rw [e2,← hx0] at hk
   rcases hk with hk | hk
   ·exact hs.regs.lt i _ hrr rfl k hk
   ·exact hs.regs.lt t _ htt rfl k hk
  ·unfold Env.fp at hk;rw [e1 i hne] at hk
   exact hs.regs.lt i s hi hl k hk
 ·rcases cls i s hi with ⟨rfl,rfl⟩ | ⟨hne,hi⟩
  ·cases he
  ·unfold Env.fp at hk;rw [e1 i hne] at hk
   exact hs.regs.lim i s hi he k hk
 ·rcases cls i ri hi with ⟨rfl,rfl⟩ | ⟨hne,hi'⟩
  ·cases he
  ·unfold Env.fp at hk1;rw [e1 i hne] at hk1
   rcases cls j rj hj with ⟨hjr,rfl⟩ | ⟨hne2,hj⟩
   ·subst hjr
    clear cls
    unfold Env.fp at hk2;rw [e2,← hx0] at hk2
    rcases hk2 with hk2 | hk2
    ·exact hs.regs.sep i j ri _ hij hi' hrr he rfl k hk1 hk2
    ·by_cases hit:i=t
     ·subst hit;rw [htt] at hi';cases hi';cases he
     ·exact hs.regs.sep i t ri _ hit hi' htt he rfl k hk1 hk2
   ·unfold Env.fp at hk2;rw [e1 j hne2] at hk2
    exact hs.regs.sep i j ri rj hij hi' hj he hl k hk1 hk2
end
end Go.Tx
noncomputable section
namespace Go.Proofs.YtnddggenhefaeaaDoor
open Go Go.Tx Go.RowKit
def TabX (X:Ext):Prop:=X.ro 0∧∀ i:Nat,i<32→∃ k:Int,0≤k∧k≤255∧X.w0.cell? ⟨0,i,none⟩=some (.int .u8 k)
theorem Qmb (x:Int) (hx:0≤x∧x<4294967296) (w:World) (hT:∀ i:Nat,i<32→∃ k:Int,0≤k∧k≤255∧w.cell? ⟨0,i,none⟩=some (.int .u8 k)) :
 Calls Tryd.prog 96 #[.int .u32 x] w fun e w'=>∃ k:Int,0≤k∧k≤255∧e=.returned (.int .i64 k)∧w'=w:=by
 obtain ⟨idx,key,hi⟩:∃ idx:Nat,bits kt jv x (-x % 4294967296) * 125613361 % 4294967296 / 134217728=(idx:Int)∧idx<32:=
  ⟨(bits kt jv x (-x % 4294967296) * 125613361 % 4294967296 / 134217728).toNat,by omega,by omega⟩
 obtain ⟨k,hk0,hk1,hcell⟩:=hT idx hi
 by_cases hx0:x=0
 ·subst hx0
  go_enter Tryd.func96,Tryd.ntmps96
  go_wp2
  go_ret
  exact ⟨32,by decide,by decide,rfl,rfl⟩
 ·have hx1:(x==0)=false:=by simpa using hx0
  go_enter Tryd.func96,Tryd.ntmps96
  go_wp2_with (simp only [key])
  go_ret
  exact ⟨k,hk0,hk1,rfl,rfl⟩
theorem Qoa {X:Ext} (hX:TabX X) (x:Int) (hx:0≤x∧x<4294967296):Ctr Tryd.prog 96 [.froz X] [.c (.i .u32 x)] (DetE (fun k:Int=>0≤k∧k≤255) (fun k=>zc6 k) (fun _=>[.dead])):=by
 intro ε w hreg
 have hfz:∀ b,X.ro b→(ε.ent 0).fp b∧b<w.heap.size∧w.heap[b]?=X.w0.heap[b]?:=hreg.reg 0 _ rfl
 have h0:=hfz 0 hX.1
 have hT:∀ i:Nat,i<32→∃ k:Int,0≤k∧k≤255∧w.cell? ⟨0,i,none⟩=some (.int .u8 k):=fun i hi=>by
  obtain ⟨k,a,b,c⟩:=hX.2 i hi
  exact ⟨k,a,b,by rw [World.cell?_of_block (w:=X.w0)];exact c;exact h0.2.2⟩
 refine (Qmb x hx w hT).mono fun e w' ⟨k,k0,k1,he,hw⟩=>?_
 subst he;subst hw
 refine ⟨zc6 k,[.dead],ε,⟨k,⟨k0,k1⟩,rfl,rfl⟩,rfl,List.prefix_refl _,⟨hreg.len,fun i r hi=>?_,fun i r hi hl=>?_,fun i r hi he=>?_,fun i j ri rj hij hi hj he=>?_⟩,Fr.refl _ _⟩
 all_goals rcases i with _ | i
 all_goals first | (cases hi;first | trivial | cases hl | cases he) | (simp at hi;done)
theorem Qcm:MT.Ok (MT.mk Tryd.prog 133 3 4 [CK.i ja] false [CK.b] false):=MT.ok_int K K (.inr rfl) (fun w=>by kernel_rfl)
def C71 (g:Grf) (ue:Int) (uj:Int) (ug:Ext) (ul:List Hdl) (uA:Nat) (uq:Int→Option Bool) (ui:List Int) (nw:List Int):St:=St.mk 109 (zb1 ue uj) [zav g,Reg.froz ug,ze g,Hdl.ownR ul,zae uA uq,IntOwn ui,Reg.box 64 ((g.nodes.getD (ui.getD ue.toNat 0).toNat ub)).cs,IntRow nw,Reg.dead] []
def C71_J (g:Grf) (ue:Int) (uj:Int) (ug:Ext) (ul:List Hdl) (uA:Nat) (uq:Int→Option Bool) (ui:List Int) (nw:List Int):Prop:=nowH (g.nodes.getD (ui.getD ue.toNat 0).toNat ub) (rd ug (jg (ul.getD (ui.getD ue.toNat 0).toNat ub).a (ul.getD (ui.getD ue.toNat 0).toNat ub).n (ul.getD (ui.getD ue.toNat 0).toNat ub).c))=some nw
abbrev zbD (y0:Int × Int × Ext × List Hdl × Nat × (Int → Option Bool) × List Int):Reg:=Reg.mp (MT.mk Tryd.prog 133 3 4 [CK.i ja] false [CK.b] false) (y0.2.2.2.2.1) (fun a=>(y0.2.2.2.2.2.1 a).isSome) (fun a=>(y0.2.2.2.2.2.1 a).getD (false)) none
def vX (g:Grf) (X0:Ext):Lp (Int×Int×Ext×List Hdl×Nat×(Int→Option (Bool))×List Int):=⟨fun x=>{ N:=109,fr:=[se 7 (C.i .i64 x.1),se 6 (C.h 5),se 5 (C.h 4),se 4 (C.h 3),se 3 (C.i .i64 x.2.1),zO,zbM],rg:=[rowOf 13 (·.tc) g.nodes,Reg.froz (x.2.2.1),ze g,Hdl.ownR (x.2.2.2.1),zbD x,IntOwn (x.2.2.2.2.2.2)],wr:=[] },fun x=>HJt g.nodes x.1 x.2.2.1 x.2.2.2.1 x.2.2.2.2.1 x.2.2.2.2.2.1 x.2.2.2.2.2.2,fun x=>(g.nodes.length+1-x.1.toNat)⟩
def vo (g:Grf) (ue:Int) (uj:Int) (ug:Ext) (ul:List Hdl) (uA:Nat) (uq:Int→Option Bool) (ui:List Int) (nw:List Int):Lp (Int×Int×Ext×List Hdl×Nat×(Int→Option (Bool))×List Int):=⟨fun x=>{ N:=109,fr:=[se 80 (C.i .i64 x.1),{ slot:=79,g:=[],sv:=SV.c (C.i .i64 (↑(flwL (g.nodes.getD (ui.getD ue.toNat 0).toNat ub)).length:Int)) },se 78 (C.h 9),se 10 (C.h 7),zcb ue,se 6 (C.h 5),se 5 (C.h 4),se 4 (C.h 3),se 3 (C.i .i64 x.2.1),zO,zbM],rg:=[rowOf 13 (·.tc) g.nodes,Reg.froz (x.2.2.1),ze g,Hdl.ownR (x.2.2.2.1),zbD x,IntOwn (x.2.2.2.2.2.2),zc g ui ue,IntRow nw,Reg.dead,IntOwn (flwL (g.nodes.getD (ui.getD ue.toNat 0).toNat ub))],wr:=[] },fun x=>HKt g.nodes ue (g.nodes.getD (ui.getD ue.toNat 0).toNat ub) nw x.1 x.2.2.1 x.2.2.2.1 x.2.2.2.2.1 x.2.2.2.2.2.1 x.2.2.2.2.2.2,fun x=>((flwL (g.nodes.getD (ui.getD ue.toNat 0).toNat ub)).length-x.1).toNat⟩
abbrev zaL (y0 y1:Int):List En:=[se 10 (C.h 10),se 9 (C.p 6 0),zcb y0,se 6 (C.h 5),se 5 (C.h 4),se 4 (C.h 3),se 3 (C.i .i64 y1),zO,zbM]
abbrev zbZ (y0:Grf) (y1:List Iln):Prop:=∀ i:Nat,i<y0.nodes.length→hpos (y1.getD i ub).l∧(y1.getD i ub).l.length≤4096
theorem Qmc (g:Grf) (hq:zJ g) (hN:1≤g.nodes.length∧g.nodes.length≤4096) (ht:thQ g.nodes) (hf:heldF g.nodes<0):Ctr Tryd.prog 38 [zav g] [.agg (g.cs 0)]
 (DetE (fun L:List Iln=>L.length=g.nodes.length∧zbZ g L) (fun _=>.tup [(false,[.h 1]),(false,[.i .i64 (-1)])]) (fun L=>[.dead,Iln.rowR L])):=by
 refine Ctr.intro [] Tryd.func38 K K ?_
 refine RunF.tabnew K (fun X0=>?_)
 refine tz [0] ?_
 refine Q9 (vX g X0) (((0:Int),(0:Int),X0,ji g.nodes.length Hdl.none,1,fun (q:Int)=>if q=(0:Int) then some true else none,[(0:Int)])) (.start hN.1 X0) ?_ [] [6,7,8,9,10,11] [(ji g.nodes.length Hdl.none).length=g.nodes.length,∀ (i:Nat),i<(ji g.nodes.length Hdl.none).length→((ji g.nodes.length Hdl.none).getD i ub).tc=fun j=>valT (jg none 0 0).cells.toList j,MpEq (MT.mk Tryd.prog 133 3 4 [CK.i ja] false [CK.b] false) 1 (fun (a:Int)=>(if a=(0:Int) then some true else none).isSome) (fun (a:Int)=>(if a=(0:Int) then some true else none).getD false) none (MT.mk Tryd.prog 133 3 4 [CK.i ja] false [CK.b] false) 1 (fun (q:Int)=>decide (q=(0:Int))||false) (fun (q:Int)=>if q=(0:Int) then true else KA.zero [CK.b]) none,[(0:Int)].length=1,∀ (i:Nat),i < [(0:Int)].length→i≠0→i64T ([(0:Int)].getD i 0)=fun x=>TC.any,i64T (0:Int) 0=TC.val (jf ja (0:Int))] W9 (vc:=(zaj g)) (hv:=W22)
 rintro ⟨ue,uj,ug,ul,uA,uq,ui⟩ hJ1
 dsimp only [vX] at hJ1
 refine tz [7,6,5,4,3,2,1] ?_
 refine Q0 (decide (ue<(↑ui.length:Int))) (fun h2=>?_) (fun h2=>?_)
 ·refine RunF.cutn 5 (fun nw=>C71 g ue uj ug ul uA uq ui nw) (fun nw=>C71_J g ue uj ug ul uA uq ui nw) ?_ ?_
  ·refine tz [7,6,5,4,3,2,1] ?_
   refine Q0 (decide ((g.nodes.getD (ui.getD ue.toNat 0).toNat ub).kind=(5:Int))) (fun h3=>?_) (fun h3=>?_) (vc:=(zaA ue ui g ul)) (hv:=W22)
   ·refine RunF.tabout 10 1 (X:=ug) (y:=jg (ul.getD (ui.getD ue.toNat 0).toNat ub).a (ul.getD (ui.getD ue.toNat 0).toNat ub).n (ul.getD (ui.getD ue.toNat 0).toNat ub).c) (size:=1) (n:=(rd ug (jg (ul.getD (ui.getD ue.toNat 0).toNat ub).a (ul.getD (ui.getD ue.toNat 0).toNat ub).n (ul.getD (ui.getD ue.toNat 0).toNat ub).c)).length) (f:=fun j=>i64T ((rd ug (jg (ul.getD (ui.getD ue.toNat 0).toNat ub).a (ul.getD (ui.getD ue.toNat 0).toNat ub).n (ul.getD (ui.getD ue.toNat 0).toNat ub).c)).getD j 0)) K K K (Yi (hJ1.is (uc h2))) ?_
    refine tz [10,9,7,6,5,4,3,2,1] ?_
    refine Q04 2 (fun _:Unit=>St.mk 109 (zaL ue uj) [rowOf 13 (·.tc) g.nodes,Reg.froz ug,ze g,ownOf 49 1 (·.tc) ul,zae uA uq,IntOwn ui,zc g ui ue,Reg.dead,Reg.dead,Reg.dead,zg ug ul ui ue g] []) (fun _=>True) ?_ ?_
    ·refine ⟨⟨trivial,?_⟩,?_⟩
     ·refine Q2 Ya (Z9 (rd ug (jg (ul.getD (ui.getD ue.toNat 0).toNat ub).a (ul.getD (ui.getD ue.toNat 0).toNat ub).n (ul.getD (ui.getD ue.toNat 0).toNat ub).c)) W62) [7] ?_
      exact tTo (fun x=>St.mk 109 (zaL ue uj) [rowOf 13 (·.tc) g.nodes,Reg.froz ug,ze g,ownOf 49 1 (·.tc) ul,zae uA uq,IntOwn ui,zc g ui ue,Reg.dead,Reg.dead,Reg.dead,zg ug ul ui ue g] []) (fun x=>True) () trivial [] [8] (zk uA uq) W9 (vc:=(zK ug ul ui ue)) (hv:=W22)
     ·refine Q2 Ya (Z9 (rd ug (jg (ul.getD (ui.getD ue.toNat 0).toNat ub).a (ul.getD (ui.getD ue.toNat 0).toNat ub).n (ul.getD (ui.getD ue.toNat 0).toNat ub).c)) W62) [7] ?_
      exact tTo (fun x=>St.mk 109 (zaL ue uj) [rowOf 13 (·.tc) g.nodes,Reg.froz ug,ze g,ownOf 49 1 (·.tc) ul,zae uA uq,IntOwn ui,zc g ui ue,Reg.dead,Reg.dead,Reg.dead,zg ug ul ui ue g] []) (fun x=>True) () trivial [] [8] (zk uA uq) W9 (vc:=(zK ug ul ui ue)) (hv:=W22)
    ·rintro ⟨⟩ _
     exact tTo (fun nw=>C71 g ue uj ug ul uA uq ui nw) (fun nw=>C71_J g ue uj ug ul uA uq ui nw) (rd ug (jg (ul.getD (ui.getD ue.toNat 0).toNat ub).a (ul.getD (ui.getD ue.toNat 0).toNat ub).n (ul.getD (ui.getD ue.toNat 0).toNat ub).c)++[(g.nodes.getD (ui.getD ue.toNat 0).toNat ub).thing]) W60 [0,1,2,3,4,5,6,10,8] [8,24,25,26] [MpEq (MT.mk Tryd.prog 133 3 4 [CK.i ja] false [CK.b] false) uA (fun (a:Int)=>(uq a).isSome) (fun (a:Int)=>(uq a).getD false) none (MT.mk Tryd.prog 133 3 4 [CK.i ja] false [CK.b] false) uA (fun (a:Int)=>(uq a).isSome) (fun (a:Int)=>(uq a).getD false) none,(rd ug (jg (ul.getD (ui.getD ue.toNat 0).toNat ub).a (ul.getD (ui.getD ue.toNat 0).toNat ub).n (ul.getD (ui.getD ue.toNat 0).toNat ub).c)++[(g.nodes.getD (ui.getD ue.toNat 0).toNat ub).thing]).length=(rd ug (jg (ul.getD (ui.getD ue.toNat 0).toNat ub).a (ul.getD (ui.getD ue.toNat 0).toNat ub).n (ul.getD (ui.getD ue.toNat 0).toNat ub).c)).length+1,∀ (i:Nat),i<(rd ug (jg (ul.getD (ui.getD ue.toNat 0).toNat ub).a (ul.getD (ui.getD ue.toNat 0).toNat ub).n (ul.getD (ui.getD ue.toNat 0).toNat ub).c)++[(g.nodes.getD (ui.getD ue.toNat 0).toNat ub).thing]).length→i≠(rd ug (jg (ul.getD (ui.getD ue.toNat 0).toNat ub).a (ul.getD (ui.getD ue.toNat 0).toNat ub).n (ul.getD (ui.getD ue.toNat 0).toNat ub).c)).length→i64T ((rd ug (jg (ul.getD (ui.getD ue.toNat 0).toNat ub).a (ul.getD (ui.getD ue.toNat 0).toNat ub).n (ul.getD (ui.getD ue.toNat 0).toNat ub).c)++[(g.nodes.getD (ui.getD ue.toNat 0).toNat ub).thing]).getD i 0)=i64T ((rd ug (jg (ul.getD (ui.getD ue.toNat 0).toNat ub).a (ul.getD (ui.getD ue.toNat 0).toNat ub).n (ul.getD (ui.getD ue.toNat 0).toNat ub).c)).getD i 0),i64T ((rd ug (jg (ul.getD (ui.getD ue.toNat 0).toNat ub).a (ul.getD (ui.getD ue.toNat 0).toNat ub).n (ul.getD (ui.getD ue.toNat 0).toNat ub).c)++[(g.nodes.getD (ui.getD ue.toNat 0).toNat ub).thing]).getD (rd ug (jg (ul.getD (ui.getD ue.toNat 0).toNat ub).a (ul.getD (ui.getD ue.toNat 0).toNat ub).n (ul.getD (ui.getD ue.toNat 0).toNat ub).c)).length (0:Int)) 0=TC.val (jf ja (g.nodes.getD (ui.getD ue.toNat 0).toNat ub).thing)] W9
   ·refine tz [40,10,9,8,7,6,5,4,3,2,1] ?_
    refine Q0 (decide ((g.nodes.getD (ui.getD ue.toNat 0).toNat ub).kind=(6:Int))) (fun h4=>?_) (fun h4=>?_)
    ·refine RunF.tabout 10 1 (X:=ug) (y:=jg (ul.getD (ui.getD ue.toNat 0).toNat ub).a (ul.getD (ui.getD ue.toNat 0).toNat ub).n (ul.getD (ui.getD ue.toNat 0).toNat ub).c) (size:=1) (n:=(rd ug (jg (ul.getD (ui.getD ue.toNat 0).toNat ub).a (ul.getD (ui.getD ue.toNat 0).toNat ub).n (ul.getD (ui.getD ue.toNat 0).toNat ub).c)).length) (f:=fun j=>i64T ((rd ug (jg (ul.getD (ui.getD ue.toNat 0).toNat ub).a (ul.getD (ui.getD ue.toNat 0).toNat ub).n (ul.getD (ui.getD ue.toNat 0).toNat ub).c)).getD j 0)) K K K (Yi (hJ1.is (uc h2))) ?_
     refine tz [10,9,8,7,6,5,4,3,2,1] ?_
     refine Q0 (decide ((↑(rd ug (jg (ul.getD (ui.getD ue.toNat 0).toNat ub).a (ul.getD (ui.getD ue.toNat 0).toNat ub).n (ul.getD (ui.getD ue.toNat 0).toNat ub).c)).length:Int)=(0:Int))||!decide ((rd ug (jg (ul.getD (ui.getD ue.toNat 0).toNat ub).a (ul.getD (ui.getD ue.toNat 0).toNat ub).n (ul.getD (ui.getD ue.toNat 0).toNat ub).c)).getD ((↑(rd ug (jg (ul.getD (ui.getD ue.toNat 0).toNat ub).a (ul.getD (ui.getD ue.toNat 0).toNat ub).n (ul.getD (ui.getD ue.toNat 0).toNat ub).c)).length:Int)-(1:Int)).toNat (0:Int)=(g.nodes.getD (ui.getD ue.toNat 0).toNat ub).thing)) (fun h5=>?_) (fun h5=>?_) (vc:=(zn ug ul ui ue)) (hv:=W22)
     ·exact (show False from by have q:=hJ1.at_ (uc h2);have z:=hJ1.fault (uc h2) (Qcu h3 h4 h5);omega).elim
     ·exact tTo (fun nw=>C71 g ue uj ug ul uA uq ui nw) (fun nw=>C71_J g ue uj ug ul uA uq ui nw) (jS (((↑(rd ug (jg (ul.getD (ui.getD ue.toNat 0).toNat ub).a (ul.getD (ui.getD ue.toNat 0).toNat ub).n (ul.getD (ui.getD ue.toNat 0).toNat ub).c)).length:Int)-(1:Int)).toNat-0) (List.drop 0 (rd ug (jg (ul.getD (ui.getD ue.toNat 0).toNat ub).a (ul.getD (ui.getD ue.toNat 0).toNat ub).n (ul.getD (ui.getD ue.toNat 0).toNat ub).c)))) W60 [0,1,2,3,4,5,6,8,8] [8,24,25] [MpEq (MT.mk Tryd.prog 133 3 4 [CK.i ja] false [CK.b] false) uA (fun (a:Int)=>(uq a).isSome) (fun (a:Int)=>(uq a).getD false) none (MT.mk Tryd.prog 133 3 4 [CK.i ja] false [CK.b] false) uA (fun (a:Int)=>(uq a).isSome) (fun (a:Int)=>(uq a).getD false) none,(jS (((↑(rd ug (jg (ul.getD (ui.getD ue.toNat 0).toNat ub).a (ul.getD (ui.getD ue.toNat 0).toNat ub).n (ul.getD (ui.getD ue.toNat 0).toNat ub).c)).length:Int)-(1:Int)).toNat-0) (List.drop 0 (rd ug (jg (ul.getD (ui.getD ue.toNat 0).toNat ub).a (ul.getD (ui.getD ue.toNat 0).toNat ub).n (ul.getD (ui.getD ue.toNat 0).toNat ub).c)))).length=((↑(rd ug (jg (ul.getD (ui.getD ue.toNat 0).toNat ub).a (ul.getD (ui.getD ue.toNat 0).toNat ub).n (ul.getD (ui.getD ue.toNat 0).toNat ub).c)).length:Int)-(1:Int)).toNat-0,∀ (i:Nat),i<(jS (((↑(rd ug (jg (ul.getD (ui.getD ue.toNat 0).toNat ub).a (ul.getD (ui.getD ue.toNat 0).toNat ub).n (ul.getD (ui.getD ue.toNat 0).toNat ub).c)).length:Int)-(1:Int)).toNat-0) (List.drop 0 (rd ug (jg (ul.getD (ui.getD ue.toNat 0).toNat ub).a (ul.getD (ui.getD ue.toNat 0).toNat ub).n (ul.getD (ui.getD ue.toNat 0).toNat ub).c)))).length→i64T ((jS (((↑(rd ug (jg (ul.getD (ui.getD ue.toNat 0).toNat ub).a (ul.getD (ui.getD ue.toNat 0).toNat ub).n (ul.getD (ui.getD ue.toNat 0).toNat ub).c)).length:Int)-(1:Int)).toNat-0) (List.drop 0 (rd ug (jg (ul.getD (ui.getD ue.toNat 0).toNat ub).a (ul.getD (ui.getD ue.toNat 0).toNat ub).n (ul.getD (ui.getD ue.toNat 0).toNat ub).c)))).getD i 0)=i64T ((rd ug (jg (ul.getD (ui.getD ue.toNat 0).toNat ub).a (ul.getD (ui.getD ue.toNat 0).toNat ub).n (ul.getD (ui.getD ue.toNat 0).toNat ub).c)).getD (0+i) 0)] W9 (vc:=(zT ug ul ui ue)) (hv:=W22)
    ·refine tz [40,10,9,8,7,6,5,4,3,2,1] ?_
     refine Q0 (decide ((g.nodes.getD (ui.getD ue.toNat 0).toNat ub).kind=(9:Int))) (fun h5=>?_) (fun h5=>?_)
     ·refine RunF.tabout 10 1 (X:=ug) (y:=jg (ul.getD (ui.getD ue.toNat 0).toNat ub).a (ul.getD (ui.getD ue.toNat 0).toNat ub).n (ul.getD (ui.getD ue.toNat 0).toNat ub).c) (size:=1) (n:=(rd ug (jg (ul.getD (ui.getD ue.toNat 0).toNat ub).a (ul.getD (ui.getD ue.toNat 0).toNat ub).n (ul.getD (ui.getD ue.toNat 0).toNat ub).c)).length) (f:=fun j=>i64T ((rd ug (jg (ul.getD (ui.getD ue.toNat 0).toNat ub).a (ul.getD (ui.getD ue.toNat 0).toNat ub).n (ul.getD (ui.getD ue.toNat 0).toNat ub).c)).getD j 0)) K K K (Yi (hJ1.is (uc h2))) ?_
      refine tz [10,9,8,7,6,5,4,3,2,1] ?_
      refine Q0 (decide ((0:Int)<(↑(rd ug (jg (ul.getD (ui.getD ue.toNat 0).toNat ub).a (ul.getD (ui.getD ue.toNat 0).toNat ub).n (ul.getD (ui.getD ue.toNat 0).toNat ub).c)).length:Int))) (fun h6=>?_) (fun h6=>?_)
      ·exact (show False from by have q:=hJ1.at_ (uc h2);have z:=hJ1.fault (uc h2) (Qaq h3 h4 h5 h6);omega).elim
      ·exact tTo (fun nw=>C71 g ue uj ug ul uA uq ui nw) (fun nw=>C71_J g ue uj ug ul uA uq ui nw) (rd ug (jg (ul.getD (ui.getD ue.toNat 0).toNat ub).a (ul.getD (ui.getD ue.toNat 0).toNat ub).n (ul.getD (ui.getD ue.toNat 0).toNat ub).c)) W60 [0,1,2,3,4,5,6,7,1000008] [8] (zk uA uq) W9
     ·refine RunF.tabout 10 1 (X:=ug) (y:=jg (ul.getD (ui.getD ue.toNat 0).toNat ub).a (ul.getD (ui.getD ue.toNat 0).toNat ub).n (ul.getD (ui.getD ue.toNat 0).toNat ub).c) (size:=1) (n:=(rd ug (jg (ul.getD (ui.getD ue.toNat 0).toNat ub).a (ul.getD (ui.getD ue.toNat 0).toNat ub).n (ul.getD (ui.getD ue.toNat 0).toNat ub).c)).length) (f:=fun j=>i64T ((rd ug (jg (ul.getD (ui.getD ue.toNat 0).toNat ub).a (ul.getD (ui.getD ue.toNat 0).toNat ub).n (ul.getD (ui.getD ue.toNat 0).toNat ub).c)).getD j 0)) K K K (Yi (hJ1.is (uc h2))) ?_
      exact tTo (fun nw=>C71 g ue uj ug ul uA uq ui nw) (fun nw=>C71_J g ue uj ug ul uA uq ui nw) (rd ug (jg (ul.getD (ui.getD ue.toNat 0).toNat ub).a (ul.getD (ui.getD ue.toNat 0).toNat ub).n (ul.getD (ui.getD ue.toNat 0).toNat ub).c)) W60 [0,1,2,3,4,5,6,7,1000008] [8] (zk uA uq) W9
  ·intro nw hCC71
   refine tz [10,9,7,6,5,4,3,2,1] ?_
   refine Q2 Yl (G9 (g.nodes.getD (ui.getD ue.toNat 0).toNat ub)) [] ?_
   refine tz [78,10,7,6,5,4,3,2,1] ?_
   refine Q9 (vo g ue uj ug ul uA uq ui nw) (((0:Int),uj,ug,ul,uA,uq,ui)) (hJ1.inner ht (uc h2) hCC71) ?_ [] [8] (zk uA uq) W9
   rintro ⟨uh,um,uu,uw,uJ,uG,uL⟩ hJ3
   dsimp only [vo] at hJ3
   refine tz [80,79,78,10,7,6,5,4,3,2,1] ?_
   refine Q0 (decide (uh<(↑(flwL (g.nodes.getD (ui.getD ue.toNat 0).toNat ub)).length:Int))) (fun h4=>?_) (fun h4=>?_)
   ·refine tz [80,79,78,10,7,6,5,4,3,2,1] ?_
    refine Q0 (!(uG ((flwL (g.nodes.getD (ui.getD ue.toNat 0).toNat ub)).getD uh.toNat 0)).getD false) (fun h5=>?_) (fun h5=>?_) (vc:=(za3 uh g ui ue)) (hv:=W22)
    ·refine tz [12,80,79,78,10,7,6,5,4,3,2,1] ?_
     refine Q2 Ya (Z9 nw W62) [7] ?_ (vc:=(zb0 g ui ue uh uJ)) (hv:=W22)
     refine RunF.tabin 10 1 (ty:=3) (size:=1) (n:=nw.length) (f:=fun i=>i64T (nw.getD i 0)) (X:=uu) K K K (fun X9 A9 c9 hInX9 hTabX9=>?_)
     exact Q4 (vo g ue uj ug ul uA uq ui nw) (uh,um,uu,uw,uJ,uG,uL) ((uh+(1:Int),um,X9,uw.set ((flwL (g.nodes.getD (ui.getD ue.toNat 0).toNat ub)).getD uh.toNat 0).toNat (Hdl.mk A9 nw.length c9),uJ+1,fun (q:Int)=>if q=(flwL (g.nodes.getD (ui.getD ue.toNat 0).toNat ub)).getD uh.toNat 0 then some true else uG q,uL++[(flwL (g.nodes.getD (ui.getD ue.toNat 0).toNat ub)).getD uh.toNat 0])) W185 W98 [0,1,2,3,4,12,6,7,8,9] [6,7,8,9,10,11] [(uw.set ((flwL (g.nodes.getD (ui.getD ue.toNat 0).toNat ub)).getD uh.toNat 0).toNat (Hdl.mk A9 nw.length c9)).length=uw.length,∀ (i:Nat),i<(uw.set ((flwL (g.nodes.getD (ui.getD ue.toNat 0).toNat ub)).getD uh.toNat 0).toNat (Hdl.mk A9 nw.length c9)).length→((uw.set ((flwL (g.nodes.getD (ui.getD ue.toNat 0).toNat ub)).getD uh.toNat 0).toNat (Hdl.mk A9 nw.length c9)).getD i ub).tc=updT (fun i=>(uw.getD i ub).tc) ((flwL (g.nodes.getD (ui.getD ue.toNat 0).toNat ub)).getD uh.toNat 0).toNat 0 [jg A9 nw.length c9] i,MpEq (MT.mk Tryd.prog 133 3 4 [CK.i ja] false [CK.b] false) (uJ+1) (fun (a:Int)=>(if a=(flwL (g.nodes.getD (ui.getD ue.toNat 0).toNat ub)).getD uh.toNat 0 then some true else uG a).isSome) (fun (a:Int)=>(if a=(flwL (g.nodes.getD (ui.getD ue.toNat 0).toNat ub)).getD uh.toNat 0 then some true else uG a).getD false) none (MT.mk Tryd.prog 133 3 4 [CK.i ja] false [CK.b] false) (uJ+1) (fun (q:Int)=>decide (q=(flwL (g.nodes.getD (ui.getD ue.toNat 0).toNat ub)).getD uh.toNat 0)||(uG q).isSome) (fun (q:Int)=>if q=(flwL (g.nodes.getD (ui.getD ue.toNat 0).toNat ub)).getD uh.toNat 0 then true else (uG q).getD false) none,(uL++[(flwL (g.nodes.getD (ui.getD ue.toNat 0).toNat ub)).getD uh.toNat 0]).length=uL.length+1,∀ (i:Nat),i<(uL++[(flwL (g.nodes.getD (ui.getD ue.toNat 0).toNat ub)).getD uh.toNat 0]).length→i≠uL.length→i64T ((uL++[(flwL (g.nodes.getD (ui.getD ue.toNat 0).toNat ub)).getD uh.toNat 0]).getD i 0)=i64T (uL.getD i 0),i64T ((uL++[(flwL (g.nodes.getD (ui.getD ue.toNat 0).toNat ub)).getD uh.toNat 0]).getD uL.length 0) 0=TC.val (jf ja ((flwL (g.nodes.getD (ui.getD ue.toNat 0).toNat ub)).getD uh.toNat 0))] W9 (vc:=(za4 g ui ue uh uw uL)) (hv:=W22)
    ·refine tz [12,80,79,78,10,7,6,5,4,3,2,1] ?_
     refine Q2 J7 (Qke uu ((uw.getD ((flwL (g.nodes.getD (ui.getD ue.toNat 0).toNat ub)).getD uh.toNat 0).toNat ub).a) ((uw.getD ((flwL (g.nodes.getD (ui.getD ue.toNat 0).toNat ub)).getD uh.toNat 0).toNat ub).n) ((uw.getD ((flwL (g.nodes.getD (ui.getD ue.toNat 0).toNat ub)).getD uh.toNat 0).toNat ub).c) nw W62) [7,1] ?_ (vc:=(zaO g ui ue uh uw)) (hv:=W22)
     refine tz [104,12,80,79,78,10,7,6,5,4,3,2,1] ?_
     refine Q0 (!decide (rd uu (jg (uw.getD ((flwL (g.nodes.getD (ui.getD ue.toNat 0).toNat ub)).getD uh.toNat 0).toNat ub).a (uw.getD ((flwL (g.nodes.getD (ui.getD ue.toNat 0).toNat ub)).getD uh.toNat 0).toNat ub).n (uw.getD ((flwL (g.nodes.getD (ui.getD ue.toNat 0).toNat ub)).getD uh.toNat 0).toNat ub).c)=nw)) (fun h6=>?_) (fun h6=>?_)
     ·exact (show False from by have q:=hJ3.to_ (uc h4) (hq _ (by have q:=hJ1.at_ (uc h2);omega));have z:=hJ3.fault (uc h4) (hq _ (by have q:=hJ1.at_ (uc h2);omega)) h5 h6;omega).elim
     ·exact Q4 (vo g ue uj ug ul uA uq ui nw) (uh,um,uu,uw,uJ,uG,uL) ((uh+(1:Int),um,uu,uw,uJ,uG,uL)) W185 W98 [] [8] (zk uJ uG) W9 (vc:=(zD uh)) (hv:=W22)
   ·exact Q4 (vX g X0) (ue,uj,ug,ul,uA,uq,ui) ((ue+(1:Int),um,uu,uw,uJ,uG,uL)) (by dsimp only [vX];have q:=uc h2;have q1:=hJ1.most;have q2:=hJ1.k0;omega) (hJ3.done (ud h4)) [] [8] (zk uJ uG) W9 (vc:=(zD ue)) (hv:=W22)
 ·refine tWk (St.mk 109 [se 23 (C.t false),se 22 (C.i .i64 (↑ui.length:Int)),se 21 (C.h 5),se 20 (C.i .i64 ue),zcb ue,se 6 (C.h 5),se 5 (C.h 4),se 4 (C.h 3),se 3 (C.i .i64 uj),zO,zbM] [rowOf 13 (·.tc) g.nodes,Reg.froz ug,ze g,rowOf 1 (·.tc) ul,zae uA uq,IntOwn ui] []) ?_ [] [8] (zk uA uq) W9
  refine RunF.tabrow 3 1 (n:=ul.length) (g:=fun i=>(ul.getD i ub).tc) (f:=fun i=>(Iln.mk (rd ug (ul.getD i ub).v)).tc) (X:=ug) K K K (fun i hi=>⟨_,_,_,_,rfl,rfl,Yi (Q5b hJ1.all hi)⟩) ?_
  exact Q3 [0,3] [0,1] [(List.map (fun v=>Iln.mk (rd ug v.v)) ul).length=ul.length,∀ (i:Nat),i<(List.map (fun v=>Iln.mk (rd ug v.v)) ul).length→((List.map (fun v=>Iln.mk (rd ug v.v)) ul).getD i ub).tc=(Iln.mk (rd ug (ul.getD i ub).v)).tc] (by simp only [Conj];(repeat' apply jn)<;>first | trivial | rfl | exact jK _ | exact Qky _ _ | (intros;rfl)) (res:=_) (post:=_) (hS:=⟨(ul.map fun v=>Iln.mk (rd ug v.v)),(hJ1.fin hN.2),rfl,rfl⟩)
def vY (X:Ext) (l:Int):Lp (List Int×Int):=⟨fun x=>{ N:=16,fr:=[se 3 (C.h 1),zO,se 0 (C.i .u32 x.2)],rg:=[Reg.froz X]++[IntOwn x.1],wr:=[] },fun x=>LsJ l x,fun x=>x.2.toNat⟩
abbrev zal (y0:List Int) (y1:Int):List Prop:=[(y0++[y1]).length=y0.length+1,∀ (i:Nat),i<(y0++[y1]).length→i≠y0.length→i64T ((y0++[y1]).getD i 0)=i64T (y0.getD i 0),i64T ((y0++[y1]).getD y0.length 0) 0=TC.val (jf ja y1)]
theorem Qh6 (X:Ext) (hX:TabX X) (l:Int) (hl:0≤l∧l<4294967296):Ctr Tryd.prog 90 [.froz X] [.c (.i .u32 l)]
 (DetE (fun o:List Int=>lsQ l o) (fun _=>.c (.h 1)) (fun o=>[.dead,IntOwn o])):=by
 refine Ctr.intro [] Tryd.func90 K K ?_
 refine Q9 (vY X l) (([],l)) (LsJ.start hl) ?_ [0,1000001] [1] [(0:Nat)=0] W8
 rintro ⟨ue,uj⟩ hJ1
 dsimp only [vY] at hJ1
 refine tz [3,2,0] ?_
 refine Q0 (!decide (uj=(0:Int))) (fun h2=>?_) (fun h2=>?_)
 ·refine tz [3,2,0] ?_
  refine Ql J9 (Qoa (X:=X) (hX:=by first | assumption | exact hJ1.lo | omega) (x:=uj) (hx:=by first | assumption | exact hJ1.lo | omega)) [] ?_
  rintro uh hY3
  try dsimp only at hY3
  exact Q4 (vY X l) (ue,uj) ((ue++[uh],bits kt jv uj (uj-(1:Int)))) (by dsimp only [vY];exact (hJ1.next h2 hY3).2) ((hJ1.next h2 hY3).1) [0,3] [1,2,3] (zal ue uh) W8 (vc:=[ue.length+1≤maxLen,(ue.length+1) * 8≤140737488355328,Fits jv (uj-(1:Int))]) (hv:=(by simp only [Conj,Fits,Q7,Qcv,Qcw,Q8,Qa,Qb,News.len,maxLen]<;>(repeat' (first | apply jn | intro _))<;>first | (have q:uj≠0:=(by simpa using h2);have z:=hJ1.lo;have z1:=hJ1.sum;(try dsimp only at z z1);(try simp only [maxLen] at *);omega) | grind | (simp only [BL] at *;omega)))
 ·exact Q3 (res:=_) (post:=_) (hS:=⟨ue,(hJ1.done h2),rfl,rfl⟩)
theorem Qob (g:Grf) (hq:zJ g) (hN:1≤g.nodes.length∧g.nodes.length≤4096) (hk:zV g) (ht:thQ g.nodes) (hf:heldF g.nodes<0):Ctr Tryd.prog 98 [zav g] [.agg (g.cs 0)]
 (DetE (fun L:List Iln=>L.length=g.nodes.length∧zbZ g L) (fun _=>.tup [(false,[.h 1]),(false,[.b true])]) (fun L=>[.dead,Iln.rowR L])):=by
 refine Ctr.intro [] Tryd.func98 K K ?_
 refine Q2 J3 (Q4b g W54 W54 W54) [] ?_
 refine tz [7,3,2,1] ?_
 refine Q0 (!true) (fun h1=>?_) (fun h1=>?_)
 ·exact absurd h1 W80
 ·refine tz [3,2,1] ?_
  refine Ql Q6h (Qmc g W54 W54 W54 W54) [] ?_
  rintro uf hY2
  try dsimp only at hY2
  exact Q3 [0,2] (res:=_) (post:=_) (hS:=⟨uf,hY2,rfl,rfl⟩)
theorem Qmd (X:Ext) (hX:TabX X) (th gu:Int) (hl:0≤th∧th<4294967296) (hm:0≤gu∧gu<4294967296):Ctr Tryd.prog 82 [.froz X] [.agg [.i .u32 th,.i .u32 gu]]
 (DetE (fun y:Int×Int×Int=>True) (fun y=>.agg [.i .u8 y.1,.i .i64 y.2.1,.i .i64 y.2.2]) (fun y=>[.dead])):=by
 refine Ctr.intro [] Tryd.func82 K K ?_
 refine Q0 (decide (th=(0:Int))) (fun h1=>?_) (fun h1=>?_)
 ·exact Q3 (res:=_) (post:=_) (hS:=⟨((0:Int),(0:Int),(0:Int)),trivial,rfl,rfl⟩)
 ·refine tz [2,1] ?_
  refine Q0 (decide (bits kt jv th (th-(1:Int))=(0:Int))) (fun h2=>?_) (fun h2=>?_) (vc:=[Fits jv (th-(1:Int))]) (hv:=W97)
  ·refine tz [2,1] ?_
   refine Ql Gh (Qh6 X W54 th W54) [] ?_
   rintro uh hY3
   try dsimp only at hY3
   exact Q3 (vc:=(zbg uh)) (hv:=W97) (res:=_) (post:=_) (hS:=⟨((1:Int),uh.getD 0 0,(0:Int)),trivial,rfl,rfl⟩)
  ·refine tz [2,1] ?_
   refine Q0 (!decide (gu=(0:Int))) (fun h3=>?_) (fun h3=>?_)
   ·refine tz [2,1] ?_
    refine Ql Gh (Qh6 X W54 gu W54) [] ?_
    rintro ur hY4
    try dsimp only at hY4
    exact Q3 (vc:=(zbg ur)) (hv:=W97) (res:=_) (post:=_) (hS:=⟨((2:Int),(0:Int),ur.getD 0 0),trivial,rfl,rfl⟩)
   ·exact Q3 (res:=_) (post:=_) (hS:=⟨((3:Int),(0:Int),(0:Int)),trivial,rfl,rfl⟩)
abbrev zX:Reg:=Reg.box 183 [C.v (jg none 0 0),C.v (jg none 0 0)]
abbrev zaS:Reg:=Reg.box 183 [C.h 4,C.h 5]
abbrev zbh:En:=se 2 (C.p 2 0)
def vZ (g:Grf) (ue:List Iln):Lp (Int×List Lz):=⟨fun x=>{ N:=47,fr:=[se 24 (C.i .i64 x.1),se 23 (C.i .i64 (↑ue.length:Int)),se 22 (C.h 6),zbh,zbo],rg:=[rowOf 13 (·.tc) g.nodes,ze g,zX,zaS,ownOf 4 1 (·.tc) (rchL g.nodes),Lz.ownR (x.2),rowOf 1 (·.tc) ue],wr:=[] },fun x=>0≤x.1∧x.2.length=g.nodes.length∧LzQ x.2,fun x=>((ue.length:Int)-x.1).toNat⟩
abbrev zbF (y0:List Iln) (y1:Int):Reg:=Reg.row 1 (y0.getD y1.toNat ub).l.length (fun i=>i64T ((y0.getD y1.toNat ub).l.getD i 0)) none
def v3 (g:Grf) (ue:List Iln) (uf:Int) (uo:List Lz):Lp (Int×List Lz):=⟨fun x=>{ N:=47,fr:=[se 31 (C.i .i64 x.1),se 30 (C.i .i64 (↑(ue.getD uf.toNat ub).l.length:Int)),se 29 (C.h 7),se 6 (C.i .i64 uf),se 24 (C.i .i64 uf),se 23 (C.i .i64 (↑ue.length:Int)),se 22 (C.h 6),zbh,zbo],rg:=[rowOf 13 (·.tc) g.nodes,ze g,zX,zaS,ownOf 4 1 (·.tc) (rchL g.nodes),Lz.ownR (x.2),Reg.row 1 ue.length (fun i=>(ue.getD i ub).tc) (some (uf.toNat,[C.h 7])),zbF ue uf],wr:=[] },fun x=>0≤x.1∧x.2.length=g.nodes.length∧LzQ x.2,fun x=>(((ue.getD uf.toNat ub).l.length:Int)-x.1).toNat⟩
abbrev zM (y0:Grf):List Prop:=[(0:Int)≤(↑y0.nodes.length:Int),(↑y0.nodes.length:Int)≤(↑y0.nodes.length:Int),(↑y0.nodes.length:Int) * (4:Int)≤(140737488355328:Int),(↑y0.nodes.length:Int)≤(↑maxLen:Int),(0:Int)≤(↑y0.nodes.length:Int),(↑y0.nodes.length:Int)≤(↑y0.nodes.length:Int),(↑y0.nodes.length:Int) * (4:Int)≤(140737488355328:Int),(↑y0.nodes.length:Int)≤(↑maxLen:Int)]
abbrev zU (y0:Grf):List Prop:=[∀ (i:Nat),i<y0.nodes.length→(fun j=>valT (jf jv (0:Int)).cells.toList j)=fun j=>valT (jf jv (0:Int)).cells.toList j]
abbrev zW (y0:Grf):Reg:=Reg.own 158 1 y0.nodes.length (fun x j=>valT (jf jv (0:Int)).cells.toList j) none
abbrev zbq (y0:Int) (y1:List Iln):List Prop:=[(0:Int)≤y0,y0<(↑y1.length:Int),y0.toNat=y0.toNat]
theorem Qji (g:Grf) (hq:zJ g) (hN:1≤g.nodes.length∧g.nodes.length≤4096) (hk:zV g) (ht:thQ g.nodes) (hf:heldF g.nodes<0):Ctr Tryd.prog 97 [zav g] [.agg (g.cs 0)]
 (DetE (fun W:List Lz=>W.length=g.nodes.length∧LzQ W) (fun _=>.agg [.h 1,.h 2]) (fun W=>[.dead,zbt g,Lz.ownR W])):=by
 refine Ctr.intro [] Tryd.func97 K K ?_
 refine Q04 3 (fun _:Unit=>St.mk 47 [za5,zbh,zbo] [rowOf 13 (·.tc) g.nodes,ze g,zX,zaS,ownOf 4 1 (·.tc) (rchL g.nodes),zW g] []) (fun _=>True) ?_ ?_
 ·refine ⟨⟨⟨trivial,?_⟩,?_⟩,?_⟩
  ·refine Q2 Qw (Yd g W54 W54 W54) [] ?_
   refine tz [11,14,13,12,10,2,1] ?_
   refine Qk3 2 [[],(zM g)] [0,0,0,1,0,0,1] ?_ (by simp only [flatP,List.cons_append,List.nil_append,Conj,Fits,Q7,Q8,Qa,Qb,News.len,maxLen]<;>(repeat' (first | apply jn | intro _))<;>first | rfl | (have q:=uc h3;have z:=hJ2.1;have z1:=hY1.1;have z2:=hY1.2 uf.toNat (by omega);(try have q5:=uc h5);(try have z4:=hJ4.1);(try have z5:=hJ4.2.1);(try have z6:=z2.1 _ (Y1 q5 z4));(try simp only [maxLen] at *);omega) | grind | (simp only [BL] at *;omega))
   exact tTo (fun x=>St.mk 47 [za5,zbh,zbo] [rowOf 13 (·.tc) g.nodes,ze g,zX,zaS,ownOf 4 1 (·.tc) (rchL g.nodes),zW g] []) (fun x=>True) () trivial [] [10] (zU g) (fun _ _=>rfl)
  ·refine Q04 2 (fun _:Unit=>St.mk 47 [se 3 (C.p 5 0),zbh,za5] [rowOf 13 (·.tc) g.nodes,ze g,zX,zW g,ownOf 4 1 (·.tc) (rchL g.nodes),Reg.box 183 [C.h 4,C.h 3]] []) (fun _=>True) ?_ ?_ (vc:=(zM g)) (hv:=W39)
   ·refine ⟨⟨trivial,?_⟩,?_⟩
    ·refine Q2 Qw (Yd g W54 W54 W54) [] ?_
     exact tTo (fun x=>St.mk 47 [se 3 (C.p 5 0),zbh,za5] [rowOf 13 (·.tc) g.nodes,ze g,zX,zW g,ownOf 4 1 (·.tc) (rchL g.nodes),Reg.box 183 [C.h 4,C.h 3]] []) (fun x=>True) () trivial [] [8] (zU g) (fun _ _=>rfl)
    ·refine Q2 Qw (Yd g W54 W54 W54) [] ?_
     exact tTo (fun x=>St.mk 47 [se 3 (C.p 5 0),zbh,za5] [rowOf 13 (·.tc) g.nodes,ze g,zX,zW g,ownOf 4 1 (·.tc) (rchL g.nodes),Reg.box 183 [C.h 4,C.h 3]] []) (fun x=>True) () trivial [0,1,2,3,5,4] [8] (zU g) (fun _ _=>rfl)
   ·rintro ⟨⟩ _
    exact tTo (fun x=>St.mk 47 [za5,zbh,zbo] [rowOf 13 (·.tc) g.nodes,ze g,zX,zaS,ownOf 4 1 (·.tc) (rchL g.nodes),zW g] []) (fun x=>True) () trivial [0,1,2,5,4,3] [10] (zU g) (fun _ _=>rfl)
  ·refine Q04 2 (fun _:Unit=>St.mk 47 [zbo,zbh,za5] [rowOf 13 (·.tc) g.nodes,ze g,zX,zaS,ownOf 4 1 (·.tc) (rchL g.nodes),zW g] []) (fun _=>True) ?_ ?_
   ·refine ⟨⟨trivial,?_⟩,?_⟩
    ·refine Q2 Qw (Yd g W54 W54 W54) [] ?_
     exact tTo (fun x=>St.mk 47 [zbo,zbh,za5] [rowOf 13 (·.tc) g.nodes,ze g,zX,zaS,ownOf 4 1 (·.tc) (rchL g.nodes),zW g] []) (fun x=>True) () trivial [] [10] (zU g) (fun _ _=>rfl) (vc:=(zM g)) (hv:=W39)
    ·refine Q2 Qw (Yd g W54 W54 W54) [] ?_ (vc:=(zM g)) (hv:=W39)
     exact tTo (fun x=>St.mk 47 [zbo,zbh,za5] [rowOf 13 (·.tc) g.nodes,ze g,zX,zaS,ownOf 4 1 (·.tc) (rchL g.nodes),zW g] []) (fun x=>True) () trivial [0,1,2,3,5,4] [10] (zU g) (fun _ _=>rfl)
   ·rintro ⟨⟩ _
    exact tTo (fun x=>St.mk 47 [za5,zbh,zbo] [rowOf 13 (·.tc) g.nodes,ze g,zX,zaS,ownOf 4 1 (·.tc) (rchL g.nodes),zW g] []) (fun x=>True) () trivial [] [10] (zU g) (fun _ _=>rfl)
 ·rintro ⟨⟩ _
  refine tz [1,2,3] ?_
  refine Ql Qee (Qob g W54 W54 W54 W54 W54) [] ?_
  rintro ue hY1
  try dsimp only at hY1
  refine tz [19,2,3] ?_
  refine Q9 (vZ g ue) (((0:Int),ji g.nodes.length (Lz.mk (0:Int)))) (⟨jA _,jG,LzQ.rep _⟩) ?_ [] [9,10] [(ji g.nodes.length (Lz.mk (0:Int))).length=g.nodes.length,∀ (i:Nat),i<(ji g.nodes.length (Lz.mk (0:Int))).length→((ji g.nodes.length (Lz.mk (0:Int))).getD i ub).tc=fun j=>valT (jf jv (0:Int)).cells.toList j] (by (try simp only [Conj])<;>(repeat' apply jn)<;>first | done | trivial | rfl | (intros;first | rfl | trivial) | exact Qs _ _ | exact jt | exact Qq _ _ _ | exact Qg1 _ _ _ | exact jG | exact Qkz | exact Qx _ _ _ _ _ | (exact Qy _ _ _ (by first | omega | (have h0:=Y5 (by simpa using h1);have hm:=Y4 h0.1;have hs:=Yc h0.1;omega))) | exact MpEq.put (by omega) | (refine MpEq.mk' (by omega) ?_ ?_<;>intro q<;>first | rfl | (dsimp only;split<;>simp_all)) | (exact MpEq.mkIt (by omega) (fun _=>rfl) (fun _=>rfl) rfl rfl (fun _=>rfl)) | (intro i h1 h2;rw [Qu h1 h2]) | (rw [Qj];rfl))
  rintro ⟨uf,uo⟩ hJ2
  dsimp only [vZ] at hJ2
  refine tz [24,23,22,2,3] ?_
  refine Q0 (decide (uf<(↑ue.length:Int))) (fun h3=>?_) (fun h3=>?_)
  ·refine Y3 6 (uf.toNat) ?_ (vc:=[uf.toNat<ue.length]) (hv:=W39)
   refine tz [24,23,22,2,3] ?_
   refine Q9 (v3 g ue uf uo) (((0:Int),uo)) (⟨jA _,hJ2.2⟩) ?_ (vc:=(zbq uf ue)) (hv:=W39)
   rintro ⟨ur,ux⟩ hJ4
   dsimp only [v3] at hJ4
   refine tz [31,30,29,6,24,23,22,2,3] ?_
   refine Q0 (decide (ur<(↑(ue.getD uf.toNat ub).l.length:Int))) (fun h5=>?_) (fun h5=>?_)
   ·exact Q4 (v3 g ue uf uo) (ur,ux) ((ur+(1:Int),ux.set uf.toNat (Lz.mk (bits kQ jv (ux.getD uf.toNat ub).w (shlI jv (1:Int) ((ue.getD uf.toNat ub).l.getD ur.toNat 0)))))) (by dsimp only [v3];have q:=uc h5;have z:=hJ4.1;omega) (by have z:=hJ4.1;exact ⟨by omega,by rw [jt];exact hJ4.2.1,hJ4.2.2.set (or_rng _ _)⟩) [] [9,10] [(ux.set uf.toNat (Lz.mk (bits kQ jv (ux.getD uf.toNat ub).w (shlI jv (1:Int) ((ue.getD uf.toNat ub).l.getD ur.toNat 0))))).length=ux.length,∀ (i:Nat),i<(ux.set uf.toNat (Lz.mk (bits kQ jv (ux.getD uf.toNat ub).w (shlI jv (1:Int) ((ue.getD uf.toNat ub).l.getD ur.toNat 0))))).length→((ux.set uf.toNat (Lz.mk (bits kQ jv (ux.getD uf.toNat ub).w (shlI jv (1:Int) ((ue.getD uf.toNat ub).l.getD ur.toNat 0))))).getD i ub).tc=updT (fun i=>(ux.getD i ub).tc) uf.toNat 0 [jf jv (bits kQ jv (ux.getD uf.toNat ub).w (shlI jv (1:Int) ((ue.getD uf.toNat ub).l.getD ur.toNat 0)))] i] (by (try simp only [Conj])<;>(repeat' apply jn)<;>first | done | trivial | rfl | (intros;first | rfl | trivial) | exact Qs _ _ | exact jt | exact Qq _ _ _ | exact Qg1 _ _ _ | exact jt | exact Qx _ _ _ _ _ | (exact Qy _ _ _ (by first | omega | (have h0:=Y5 (by simpa using h1);have hm:=Y4 h0.1;have hs:=Yc h0.1;omega))) | exact MpEq.put (by omega) | (refine MpEq.mk' (by omega) ?_ ?_<;>intro q<;>first | rfl | (dsimp only;split<;>simp_all)) | (exact MpEq.mkIt (by omega) (fun _=>rfl) (fun _=>rfl) rfl rfl (fun _=>rfl)) | (intro i h1 h2;rw [Qu h1 h2]) | (rw [Qj];rfl)) (vc:=[(0:Int)≤ur,ur<(↑(ue.getD uf.toNat ub).l.length:Int),ur.toNat<(ue.getD uf.toNat ub).l.length,(0:Int)≤uf,uf<(↑ux.length:Int),uf.toNat<ux.length,(0:Int)≤(ue.getD uf.toNat ub).l.getD ur.toNat 0,(0:Int)≤uf,uf<(↑ux.length:Int),uf.toNat<ux.length,Fits ja (ur+(1:Int))]) (hv:=W39)
   ·exact Q4 (vZ g ue) (uf,uo) ((uf+(1:Int),ux)) (by dsimp only [vZ];have q:=uc h3;have z:=hJ2.1;omega) (by have z:=hJ2.1;exact ⟨by omega,hJ4.2⟩) (vc:=(zD uf)) (hv:=W39)
  ·exact Q3 [0,4,5] (res:=_) (post:=_) (hS:=⟨uo,hJ2.2,rfl,rfl⟩)
abbrev zbd (y0:Nat × UF):Reg:=Reg.mp MTu y0.1 (fun a=>(y0.2 a).isSome) (fun a=>(y0.2 a).getD ((0:Int),(0:Int))) none
abbrev zbx (y0:Int) (y1:Nod) (y2:Nat):List Prop:=[(0:Int)≤y0,Fits ja y1.thing,(MT.mk Tryd.prog 164 3 160 [CK.i ja] false [CK.i jv,CK.i jv] true).P=Tryd.prog,y2<maxLen]
abbrev zcf (y0:Nat) (y1:UF):Reg:=Reg.mp MTu y0 (fun a=>(y1 a).isSome) (fun a=>(y1 a).getD ((0:Int),(0:Int))) none
abbrev zcp:MT:=(MT.mk Tryd.prog 164 3 160 [CK.i ja] false [CK.i jv,CK.i jv] true)
abbrev zcB (y0:UF):Int → Bool:=fun (a:Int)=>(y0 a).isSome
abbrev zcP (y0:UF):Int → Int × Int:=fun (a:Int)=>(y0 a).getD zcy
abbrev zcQ (y0:UF) (y1:Nod):Int × Int:=((y0 y1.thing).getD zcy)
abbrev zdp (y0:Int) (y1:Nod) (y2:UF) (y3 y4:Int):Option (Int × Int):=if y0=y1.thing then some (bits kQ jv (zcQ y2 y1).fst (shlI jv (1:Int) y3),bits kt jv (65535:Int) y4) else y2 y0
abbrev zdq (y0:Int) (y1:Nod) (y2:UF) (y3 y4:Int):Option (Int × Int):=if y0=y1.thing then some (bits kQ jv (zcQ y2 y1).fst (shlI jv (1:Int) y3),bits kt jv (zcQ y2 y1).snd y4) else y2 y0
theorem Qoc (t i:Int) (n:Nod) (he:Int) (cN:Nat) (F:UF) (ht:0≤t∧t≤4096) (hk:1≤n.kind∧n.kind≤9) (hh:0≤he∧he<4294967296) (hv:n.kind=2∨n.kind=3∨n.kind=4→0≤n.thing∧n.thing<1000000) (hc:cN≤1000000) (hF:UseQ F):Ctr Tryd.prog 94 [Reg.box 164 [.h 1],zcf cN F] [.agg [.i .i64 t,.i .i64 i],.agg n.cs,.c (.i .u32 he),.c (.p 0 0)]
 (DetE (fun y:Nat×UF=>y.1≤cN+1∧UseQ y.2) (fun _=>.tup []) (fun y=>[Reg.box 164 [.h 1],zbd y])):=by
 refine Ctr.intro [] Tryd.func94 K K ?_
 refine Q2 Q4j (Qgw n) [] ?_
 refine tz [10,5,4,2,3] ?_
 refine Q0 (!(decide (n.kind=(2:Int))||decide (n.kind=(3:Int))||decide (n.kind=(4:Int)))) (fun h1=>?_) (fun h1=>?_)
 ·exact Q3 [] [0] [MpEq MTu cN (zcB F) (zcP F) none zcp cN (zcB F) (zcP F) none] W143 (res:=_) (post:=_) (hS:=⟨(cN,F),W159,rfl,rfl⟩)
 ·refine tz [5,4,2,3] ?_
  refine Q0 (!(F n.thing).isSome) (fun h2=>?_) (fun h2=>?_) (vc:=[Fits ja n.thing,zcp.P=Tryd.prog]) (hv:=W95)
  ·exact Yh [] [0] [MpEq MTu (cN+1) (fun (a:Int)=>(zdp a n F t he).isSome) (fun (a:Int)=>(zdp a n F t he).getD zcy) none zcp (cN+1) (fun (q:Int)=>decide (q=n.thing)||(F q).isSome) (fun (q:Int)=>if q=n.thing then (bits kQ jv (zcQ F n).fst (shlI jv (1:Int) t),bits kt jv (65535:Int) he) else (F q).getD zcy) none] W143 (vc:=(zbx t n cN)) (hv:=W95) (res:=_) (post:=_) (hS:=⟨(cN+1,fun (q:Int)=>if q=n.thing then some (bits kQ jv (zcQ F n).1 (shlI jv (1:Int) t),bits kt jv (65535:Int) he) else F q),W159,rfl,rfl⟩)
  ·exact Yh [] [0] [MpEq MTu (cN+1) (fun (a:Int)=>(zdq a n F t he).isSome) (fun (a:Int)=>(zdq a n F t he).getD zcy) none zcp (cN+1) (fun (q:Int)=>decide (q=n.thing)||(F q).isSome) (fun (q:Int)=>if q=n.thing then (bits kQ jv (zcQ F n).fst (shlI jv (1:Int) t),bits kt jv (zcQ F n).snd he) else (F q).getD zcy) none] W143 (vc:=(zbx t n cN)) (hv:=W95) (res:=_) (post:=_) (hS:=⟨(cN+1,fun (q:Int)=>if q=n.thing then some (bits kQ jv (zcQ F n).1 (shlI jv (1:Int) t),bits kt jv (zcQ F n).2 he) else F q),W159,rfl,rfl⟩)
def v4 (sh:List Dcl) (lk:List Dcl) (gs:List Grf):Lp (Int×List Lok):=⟨fun x=>{ N:=33,fr:=[se 22 (C.i .i64 x.1),se 21 (zdk gs),se 20 (C.h 2),se 7 (C.h 4),se 3 (C.i .i64 0),zO],rg:=[rowOf 3 (·.tc) sh,rowOf 3 (·.tc) lk,rowOf 4 (·.tc) gs,zP]++[Lok.ownR x.2],wr:=[] },fun x=>0≤x.1∧x.1≤(gs.length:Int)∧LokQ gs x.1.toNat x.2,fun x=>((gs.length:Int)-x.1).toNat⟩
abbrev zcE:Bool × List C:=(false,[.i .i64 0])
abbrev zcG (y0:List Grf) (y1:Int):List Bo:=rchL (zcu y0 y1).nodes
theorem Qme (sh lk:List Dcl) (gs:List Grf) (hs:zF sh) (hl:zF lk) (hg:zab gs) (hw:UnitW gs) (h0:(chkU sh lk gs).1=0):Ctr Tryd.prog 92 (zbK sh lk gs) [zcz]
 (DetE (fun L:List Lok=>LokQ gs gs.length L) (fun _=>.tup [(false,[.h 3]),zcE]) (fun L=>[.dead,.dead,.dead,Lok.ownR L])):=by
 refine Ctr.intro [] Tryd.func92 K K ?_
 refine Q2 J2 (Q2j sh lk gs W45 W45 W45 W45) [] ?_
 refine tz [12,3,2,1] ?_
 refine Q0 (!decide ((chkU sh lk gs).fst=(0:Int))) (fun h1=>?_) (fun h1=>?_)
 ·exact (show False from by rw [h0] at h1;simp at h1).elim
 ·refine tz [3,2,1] ?_
  refine Q9 (v4 sh lk gs) (((0:Int),[])) (⟨jA _,by omega,LokQ.nil gs⟩) ?_ [0,1,2,3,1000004] [6] [(0:Nat)=0] W8
  rintro ⟨uf,uo⟩ hJ2
  dsimp only [v4] at hJ2
  refine tz [22,21,20,7,3,2] ?_
  refine Q0 (decide (uf<(↑gs.length:Int))) (fun h3=>?_) (fun h3=>?_)
  ·refine Y3 2 (uf.toNat) ?_ (vc:=(zbX uf gs)) (hv:=W96)
   refine tz [22,21,20,7,3,2] ?_
   refine Ql Q59 (Qji (zcu gs uf) W45 W45 W45 W45 W45) [5] ?_ (vc:=(zaD uf gs)) (hv:=W96)
   rintro ur hY4
   try dsimp only at hY4
   exact Q3g (v4 sh lk gs) (uf,uo) ((uf+(1:Int),uo++[Lok.mk (zcG gs uf) ur])) (by dsimp only [v4];have q:=uc h3;have z:=hJ2.1;omega) (by have q:=uc h3;have z:=hJ2.1;refine ⟨by omega,by omega,?_⟩;show LokQ gs (uf+1).toNat _;rw [show (uf+1).toNat=uf.toNat+1 by omega];exact hJ2.2.2.snoc rfl hY4.1 hY4.2) [(10,(Lok.tc (Lok.mk (zcG gs uf) ur)))] [0,1,2,3,10] [6,7] [(uo++[Lok.mk (zcG gs uf) ur]).length=uo.length+1,∀ (i:Nat),i<(uo++[Lok.mk (zcG gs uf) ur]).length→((uo++[Lok.mk (zcG gs uf) ur]).getD i ub).tc=if i=uo.length then (Lok.mk (zcG gs uf) ur).tc else (uo.getD i ub).tc] W76 (vc:=[uo.length+1≤maxLen,(uo.length+1) * 48≤140737488355328,Fits ja (uf+(1:Int))]) (hv:=W96) (vc2:=[(zcG gs uf).length=(zcG gs uf).length,∀ (i:Nat),i<(zcG gs uf).length→((zcG gs uf).getD i ub).tc=((zcG gs uf).getD i ub).tc,ur.length=ur.length,∀ (i:Nat),i<ur.length→(ur.getD i ub).tc=(ur.getD i ub).tc]) (hv2:=(by simp only [Conj];(repeat' apply jn)<;>first | trivial | rfl | exact Qs _ _ | exact Q5a _ _ _ _ | (intros;first | trivial | rfl)))
  ·exact Q3 [0,1,2,4] (res:=_) (post:=_) (hS:=⟨uo,(by have q:=ud h3;have e:uf.toNat=gs.length:=(by have z:=hJ2.2.1;omega);rw [← e];exact hJ2.2.2),rfl,rfl⟩)
abbrev zbn (y0:Int × Nat × (Int → Option (Int × Int))):Reg:=Reg.mp (MT.mk Tryd.prog 164 3 160 [CK.i ja] false [CK.i jv,CK.i jv] true) (y0.2.1) (fun a=>(y0.2.2 a).isSome) (fun a=>(y0.2.2 a).getD (((0:Int),(0:Int)))) none
def v5 (sh:List Dcl) (lk:List Dcl) (gs:List Grf) (L:List Lok) (cN:Nat) (F:UF):Lp (Int×Nat×(Int→Option ((Int×Int)))):=⟨fun x=>{ N:=50,fr:=[se 13 (C.i .i64 x.1),se 12 (C.i .i64 (↑gs.length:Int)),se 11 (C.h 2),se 1 (C.h 3),se 2 (C.fn 94 false [4])],rg:=[rowOf 3 (·.tc) sh,rowOf 3 (·.tc) lk,rowOf 4 (·.tc) gs,rowOf 2 (·.tc) L,Reg.box 164 [C.h 5],zbn x,zP],wr:=[] },fun x=>0≤x.1∧x.1≤(gs.length:Int)∧x.2.1≤cN+4096 * x.1.toNat∧UseQ x.2.2,fun x=>((gs.length:Int)-x.1).toNat⟩
def vt (sh:List Dcl) (lk:List Dcl) (gs:List Grf) (L:List Lok) (ue:Int) (uj:Nat) (ug:Int→Option (Int×Int)):Lp (Int×Nat×(Int→Option ((Int×Int)))):=⟨fun x=>{ N:=50,fr:=[se 21 (C.i .i64 x.1),se 20 (C.i .i64 (↑(gs.getD ue.toNat ub).nodes.length:Int)),se 19 (C.h 7),se 6 (C.i .i64 ue),se 13 (C.i .i64 ue),se 12 (C.i .i64 (↑gs.length:Int)),se 11 (C.h 2),se 1 (C.h 3),se 2 (C.fn 94 false [4])],rg:=[rowOf 3 (·.tc) sh,rowOf 3 (·.tc) lk,Reg.row 4 gs.length (fun i=>(gs.getD i ub).tc) (some (ue.toNat,[C.v (jF (gs.getD ue.toNat ub).name),C.i .i64 (gs.getD ue.toNat ub).locals,C.i .i64 (gs.getD ue.toNat ub).slots,C.h 7])),Reg.row 2 L.length (fun i=>(L.getD i ub).tc) (some (ue.toNat,[C.h 8,C.h 9])),Reg.box 164 [C.h 5],zbn x,zP,zt gs ue,Reg.row 1 (L.getD ue.toNat ub).reached.length (fun i=>((L.getD ue.toNat ub).reached.getD i ub).tc) none,Reg.row 1 (L.getD ue.toNat ub).held.length (fun i=>((L.getD ue.toNat ub).held.getD i ub).tc) none,Reg.box 59 [C.v (jF (gs.getD ue.toNat ub).name),C.i .i64 (gs.getD ue.toNat ub).locals,C.i .i64 (gs.getD ue.toNat ub).slots,C.h 7]],wr:=[] },fun x=>0≤x.1∧x.1≤((gs.getD ue.toNat ub).nodes.length:Int)∧x.2.1≤uj+x.1.toNat∧UseQ x.2.2,fun x=>(((gs.getD ue.toNat ub).nodes.length:Int)-x.1).toNat⟩
abbrev zZ (y0:Nat) (y1:Int → Option (Int × Int)):List Prop:=[MpEq (MT.mk Tryd.prog 164 3 160 [CK.i ja] false [CK.i jv,CK.i jv] true) y0 (fun (a:Int)=>(y1 a).isSome) (fun (a:Int)=>(y1 a).getD ((0:Int),(0:Int))) none (MT.mk Tryd.prog 164 3 160 [CK.i ja] false [CK.i jv,CK.i jv] true) y0 (fun (a:Int)=>(y1 a).isSome) (fun (a:Int)=>(y1 a).getD ((0:Int),(0:Int))) none]
abbrev zau (y0:Nat) (y1:UF):List Prop:=[MpEq (MT.mk Tryd.prog 164 3 160 [CK.i ja] false [CK.i jv,CK.i jv] true) y0 (fun (a:Int)=>(y1 a).isSome) (fun (a:Int)=>(y1 a).getD ((0:Int),(0:Int))) none (MT.mk Tryd.prog 164 3 160 [CK.i ja] false [CK.i jv,CK.i jv] true) y0 (fun (a:Int)=>(y1 a).isSome) (fun (a:Int)=>(y1 a).getD ((0:Int),(0:Int))) none]
abbrev zaJ (y0:Nat) (y1:Int → Option (Int × Int)):List Prop:=[MpEq MTu y0 (fun (a:Int)=>(y1 a).isSome) (fun (a:Int)=>(y1 a).getD ((0:Int),(0:Int))) none (MT.mk Tryd.prog 164 3 160 [CK.i ja] false [CK.i jv,CK.i jv] true) y0 (fun (a:Int)=>(y1 a).isSome) (fun (a:Int)=>(y1 a).getD ((0:Int),(0:Int))) none]
theorem Qod (sh lk:List Dcl) (gs:List Grf) (L:List Lok) (hL:LokQ gs gs.length L) (hT:∀ x:Int,0≤x→x<(gs.length:Int)→ThQ sh lk (gs.getD x.toNat ub)) (hn:gs.length≤8∧sh.length≤64) (cN:Nat) (F:UF) (hc:cN≤1000) (hF:UseQ F):Ctr Tryd.prog 93 [Dcl.rowR sh,Dcl.rowR lk,Grf.rowR gs,Lok.rowR L,Reg.box 164 [.h 5],zcf cN F] [.agg [.h 0,.h 1,.h 2],.c (.h 3),.c (.fn 94 false [4])]
 (DetE (fun y:Nat×UF=>y.1≤cN+4096 * gs.length∧UseQ y.2) (fun _=>.tup []) (fun y=>[.dead,.dead,.dead,.dead,Reg.box 164 [.h 5],zbd y])):=by
 refine Ctr.intro [] Tryd.func93 K K ?_
 refine Q9 (v5 sh lk gs L cN F) (((0:Int),cN,F)) (⟨jA _,by omega,by show cN≤_;omega,hF⟩) ?_ [] [8] (zau cN F) W8
 rintro ⟨ue,uj,ug⟩ hJ1
 dsimp only [v5] at hJ1
 refine tz [13,12,11,1,2] ?_
 refine Q0 (decide (ue<(↑gs.length:Int))) (fun h2=>?_) (fun h2=>?_)
 ·refine Y3 2 (ue.toNat) ?_ (vc:=(zbX ue gs)) (hv:=W30)
  refine Y3 3 (ue.toNat) ?_ (vc:=[ue.toNat<L.length]) (hv:=W30)
  refine tz [13,12,11,1,2] ?_
  refine Q9 (vt sh lk gs L ue uj ug) (((0:Int),uj,ug)) (⟨jA _,by omega,by show uj≤uj+_;omega,hJ1.2.2.2⟩) ?_ [] [13] (zZ uj ug) W8 (vc:=(zaD ue gs)) (hv:=W30)
  rintro ⟨uh,um,uu⟩ hJ3
  dsimp only [vt] at hJ3
  refine tz [21,20,19,6,13,12,11,1,2] ?_
  refine Q0 (decide (uh<(↑(gs.getD ue.toNat ub).nodes.length:Int))) (fun h4=>?_) (fun h4=>?_)
  ·refine tz [21,20,19,6,13,12,11,1,2] ?_
   refine Q0 (((L.getD ue.toNat ub).reached.getD uh.toNat ub).b) (fun h5=>?_) (fun h5=>?_) (vc:=[(0:Int)≤uh,uh<(↑(gs.getD ue.toNat ub).nodes.length:Int),uh.toNat<(gs.getD ue.toNat ub).nodes.length,(0:Int)≤ue,ue<(↑L.length:Int),ue.toNat=ue.toNat,(0:Int)≤uh,uh<(↑(L.getD ue.toNat ub).reached.length:Int),uh.toNat<(L.getD ue.toNat ub).reached.length]) (hv:=W30)
   ·refine tz [8,9,21,20,19,6,13,12,11,1,2] ?_
    refine Ql Q58 (Qoc ue uh ((gs.getD ue.toNat ub).nodes.getD uh.toNat ub) (((L.getD ue.toNat ub).held.getD uh.toNat ub).w) um uu W20 W20 W20 W20 W20 W20) [4,5] ?_ [0] (zaJ um uu) W8 (vc:=[(0:Int)≤ue,ue<(↑L.length:Int),ue.toNat=ue.toNat,(0:Int)≤uh,uh<(↑(L.getD ue.toNat ub).held.length:Int),uh.toNat<(L.getD ue.toNat ub).held.length]) (hv:=W30)
    rintro ⟨uv,uI⟩ hY6
    try dsimp only at hY6
    exact Q4 (vt sh lk gs L ue uj ug) (uh,um,uu) ((uh+(1:Int),uv,uI)) W191 W86 [] [13] (zau uv uI) W8 (vc:=(zD uh)) (hv:=W30)
   ·exact Q4 (vt sh lk gs L ue uj ug) (uh,um,uu) ((uh+(1:Int),um,uu)) W191 W86 [] [13] (zZ um uu) W8 (vc:=(zD uh)) (hv:=W30)
  ·exact Q4 (v5 sh lk gs L cN F) (ue,uj,ug) ((ue+(1:Int),um,uu)) (by dsimp only [v5];have q:=uc h2;have z:=hJ1.1;omega) (by have q:=uc h2;have z0:=hJ1.1;have T:=hT ue z0 q;have zl:=hL.1;have z:=hL.2 ue.toNat (by omega);have z1:=congrArg jW z.1;have z2:=Qm (gs.getD ue.toNat ub).nodes;have z3:=z.2.1;have z4:=T.hN;(try have q4:=uc h4);(try have z5:=hJ3.1);(try have z6:=hJ3.2.1);(try have z7:=hJ3.2.2.1);(try have z8:=hJ1.2.2.1);have w:=ud h4;exact ⟨by omega,by omega,by show um≤_;dsimp only;omega,hJ3.2.2.2⟩) [] [8] (zZ um uu) W8 (vc:=(zD ue)) (hv:=W30)
 ·exact Yh [] [0] (zaJ uj ug) W152 (res:=_) (post:=_) (hS:=⟨(uj,ug),(by have q:=ud h2;have z:=hJ1.2.1;have z1:=hJ1.1;have z2:=hJ1.2.2.1;exact ⟨by show uj≤_;omega,hJ1.2.2.2⟩),rfl,rfl⟩)
theorem Qoe (sh lk:List Dcl) (gs:List Grf) (hs:zF sh) (hl:zF lk) (hg:zab gs) (hw:UnitW gs) (h0:(chkU sh lk gs).1=0):Ctr Tryd.prog 89 (zbK sh lk gs) [zcz]
 (DetE (fun y:Nat×UF=>UseQ y.2) (fun _=>.tup [(false,[.h 3]),zcE]) (fun y=>[.dead,.dead,.dead,zbd y])):=by
 refine Ctr.intro [] Tryd.func89 K K ?_
 refine Ql Q6n (Qme sh lk gs W70 W70 W70 W70 W70) [] ?_
 rintro ue hY1
 try dsimp only at hY1
 refine tz [9,3,2,1] ?_
 refine Q0 (!decide ((0:Int)=(0:Int))) (fun h2=>?_) (fun h2=>?_)
 ·exact absurd h2 W80
 ·refine tz [4,3,2,1] ?_
  refine Ql Q7l (Qod sh lk gs ue W70 W70 W70 0 (fun x=>none) W70 W70) [0,1,2,4,6,5] ?_ [8] [MpEq MTu 0 (fun (a:Int)=>false) (fun (a:Int)=>((0:Int),(0:Int))) none zcp 0 (fun x=>false) (fun x=>KA.zero [CK.i jv,CK.i jv]) none] W8 (vc:=[zcp.P=Tryd.prog,zcp.Ok]) (hv:=(by simp only [Conj,Fits,Q7,Q8,Qa,Qb,News.len,maxLen]<;>(repeat' (first | apply jn | intro _))<;>first | rfl | exact Q5i | grind | (simp only [BL] at *;omega)))
  rintro ⟨uh,um⟩ hY3
  try dsimp only at hY3
  exact Q3 [0,1,2,5] [0] [MpEq MTu uh (zcB um) (zcP um) none MTu uh (zcB um) (zcP um) none] W152 (res:=_) (post:=_) (hS:=⟨(uh,um),hY3.2,rfl,rfl⟩)
def v6 (X:Ext) (sh:List Dcl) (lk:List Dcl) (gs:List Grf) (ue:Nat) (uj:Int→Option (Int×Int)):Lp (Int×List Cls):=⟨fun x=>{ N:=34,fr:=[se 21 (C.i .i64 x.1),se 20 (C.i .i64 (↑sh.length:Int)),se 8 (C.h 6),se 6 (C.h 5),se 5 (C.i .i64 0),zaR,se 1 (C.fn 82 false [])],rg:=[rowOf 3 (·.tc) sh,rowOf 3 (·.tc) lk,rowOf 4 (·.tc) gs,Reg.froz X,zP,Reg.mp zcp ue (fun a=>(uj a).isSome) (fun a=>(uj a).getD zcy) none]++[Cls.ownR x.2],wr:=[] },fun x=>0≤x.1∧x.1≤(sh.length:Int)∧x.2.length=x.1.toNat,fun x=>((sh.length:Int)-x.1).toNat⟩
abbrev zcH (y0:Int):TC:=TC.val (jf ja y0)
theorem Qof (X:Ext) (hX:TabX X) (sh lk:List Dcl) (gs:List Grf) (hs:zF sh) (hl:zF lk) (hg:zab gs) (hw:UnitW gs) (h0:(chkU sh lk gs).1=0):Ctr Tryd.prog 81 [Dcl.rowR sh,Dcl.rowR lk,Grf.rowR gs,.froz X] [zcz,.c (.fn 82 false [])]
 (DetE (fun C:List Cls=>C.length=sh.length) (fun _=>.tup [(false,[.h 4]),zcE]) (fun C=>[.dead,.dead,.dead,.dead,Cls.ownR C])):=by
 refine Ctr.intro [] Tryd.func81 K K ?_
 refine Ql Q7k (Qoe sh lk gs W125 W125 W125 W125 W125) [] ?_
 rintro ⟨ue,uj⟩ hY1
 try dsimp only at hY1
 refine tz [12,5,4,2,1] ?_
 refine Q0 (!decide ((0:Int)=(0:Int))) (fun h2=>?_) (fun h2=>?_)
 ·exact absurd h2 W80
 ·refine tz [6,5,4,2,1] ?_
  refine Q9 (v6 X sh lk gs ue uj) (((0:Int),[])) (⟨jA _,by omega,rfl⟩) ?_ [0,1,2,3,4,5,1000006] [7,8] [MpEq zcp ue (zcB uj) (zcP uj) none zcp ue (zcB uj) (zcP uj) none,(0:Nat)=0] W8
  rintro ⟨uh,um⟩ hJ3
  dsimp only [v6] at hJ3
  refine tz [21,20,8,6,5,4,1] ?_
  refine Q0 (decide (uh<(↑sh.length:Int))) (fun h4=>?_) (fun h4=>?_)
  ·refine tz [21,20,8,6,5,4,1] ?_
   refine Ql Q2x (Qmd X W125 (((uj uh).getD zcy).fst) (((uj uh).getD zcy).snd) W125 W125) [3] ?_ (vc:=[Fits ja uh,zcp.P=Tryd.prog]) (hv:=W117)
   rintro ⟨uk,uy,uB⟩ hY5
   try dsimp only at hY5
   exact Q4 (v6 X sh lk gs ue uj) (uh,um) ((uh+(1:Int),um++[Cls.mk uk uy uB])) (by dsimp only [v6];have q:=uc h4;have z:=hJ3.1;omega) (by have q:=uc h4;have z:=hJ3.1;have z2:=hJ3.2.2;exact ⟨by omega,by omega,by rw [jl,ki];show _=(uh+1).toNat;omega⟩) [0,1,2,3,4,5,8] [7,8,9,10,11,12] [MpEq zcp ue (zcB uj) (zcP uj) none zcp ue (zcB uj) (zcP uj) none,(um++[Cls.mk uk uy uB]).length=um.length+1,∀ (i:Nat),i<(um++[Cls.mk uk uy uB]).length→i≠um.length→((um++[Cls.mk uk uy uB]).getD i ub).tc=(um.getD i ub).tc,((um++[Cls.mk uk uy uB]).getD um.length ub).tc 0=TC.val (jf jz uk),((um++[Cls.mk uk uy uB]).getD um.length ub).tc 1=zcH uy,((um++[Cls.mk uk uy uB]).getD um.length ub).tc 2=zcH uB] W8 (vc:=[um.length+1≤maxLen,(um.length+1) * 24≤140737488355328,Fits ja (uh+(1:Int))]) (hv:=W117)
  ·exact Q3 [0,1,2,3,6] (res:=_) (post:=_) (hS:=⟨um,(by have q:=ud h4;have z:=hJ3.1;have z1:=hJ3.2.1;have z2:=hJ3.2.2;show um.length=_;omega),rfl,rfl⟩)
theorem Qh7 (X:Ext) (hX:TabX X) (sh lk:List Dcl) (gs:List Grf) (hs:zF sh) (hl:zF lk) (hg:zab gs) (hw:UnitW gs) (h0:(chkU sh lk gs).1=0):Ctr Tryd.prog 66 [Dcl.rowR sh,Dcl.rowR lk,Grf.rowR gs,.froz X] [zcz]
 (DetE (fun C:List Cls=>C.length=sh.length) (fun _=>.tup [(false,[.h 4]),zcE]) (fun C=>[.dead,.dead,.dead,.dead,Cls.ownR C])):=by
 refine Ctr.intro [] Tryd.func66 K K ?_
 refine Ql Q7g (Qof X W54 sh lk gs W54 W54 W54 W54 W54) [] ?_
 rintro ue hY1
 try dsimp only at hY1
 exact Q3 [0,1,2,3,5] (res:=_) (post:=_) (hS:=⟨ue,hY1,rfl,rfl⟩)
abbrev zcC:Bool × Bool × Bool × Bool → SV:=(fun y=>.agg [.b y.1,.b y.2.1,.b y.2.2.1,.b y.2.2.2])
abbrev zdb:Bool × Bool × Bool × Bool → Prop:=(fun y:Bool×Bool×Bool×Bool=>True)
theorem Q84 (b:Bool):Ctr Tryd.prog 83 [] [.c (.b b)]
 (DetE zdb zcC (fun _=>[])):=by
 refine Ctr.intro [] Tryd.func83 K K ?_
 exact Q3 (res:=_) (post:=_) (hS:=⟨(false,false,true,false),trivial,rfl,rfl⟩)
theorem Qmf (b:Bool):Ctr Tryd.prog 84 [] [.c (.b b)]
 (DetE zdb zcC (fun _=>[])):=by
 refine Ctr.intro [] Tryd.func84 K K ?_
 exact Q3 (res:=_) (post:=_) (hS:=⟨(b,false,false,false),trivial,rfl,rfl⟩)
theorem Qmg (b:Bool):Ctr Tryd.prog 85 [] [.c (.b b)]
 (DetE zdb zcC (fun _=>[])):=by
 refine Ctr.intro [] Tryd.func85 K K ?_
 exact Q3 (res:=_) (post:=_) (hS:=⟨(true,false,false,false),trivial,rfl,rfl⟩)
theorem Qmh (b:Bool):Ctr Tryd.prog 86 [] [.c (.b b)]
 (DetE zdb zcC (fun _=>[])):=by
 refine Ctr.intro [] Tryd.func86 K K ?_
 exact Q3 (res:=_) (post:=_) (hS:=⟨(false,b,false,false),trivial,rfl,rfl⟩)
theorem Qog :Ctr Tryd.prog 67 [] []
 (Det (.agg [.v .nilFunc,.v .nilFunc,.fn 86 false [],.fn 84 false [],.fn 83 false [],.fn 83 false [],.fn 85 false [],.fn 83 false [],.v .nilFunc,.v .nilFunc]) []):=by
 refine Ctr.intro [] Tryd.func67 K K ?_
 exact Q3
def v7 (g:Grf) (l:List Int):Lp (Int×Int×Bool):=⟨fun x=>{ N:=26,fr:=[se 10 (C.i .i64 x.1),se 9 (C.i .i64 (↑l.length:Int)),se 8 (C.h 1),se 5 (C.i .i64 x.2.1),se 4 (C.b x.2.2),zbh],rg:=[rowOf 13 (·.tc) g.nodes,IntRow l,ze g],wr:=[] },fun x=>FenJ (g.nodes.length:Int) l x.1 x.2.1,fun x=>((l.length:Int)-x.1).toNat⟩
theorem Qbt (g:Grf) (l:List Int) (hl:l.length≤9223372036854775807):Ctr Tryd.prog 20 [zav g,IntRow l] [.agg (g.cs 0),.c (.h 1)]
 (Det (.c (.b (fenB (g.nodes.length:Int) l))) [.dead,.dead]):=by
 refine Ctr.intro [] Tryd.func20 K K ?_
 refine Q9 (v7 g l) (((0:Int),(-1:Int),false)) (FenJ.start _ _) ?_
 rintro ⟨ue,uj,ug⟩ hJ1
 dsimp only [v7] at hJ1
 refine tz [10,9,8,5,4,2] ?_
 refine Q0 (decide (ue<(↑l.length:Int))) (fun h2=>?_) (fun h2=>?_)
 ·refine tz [10,9,8,5,4,2] ?_
  refine Q0 (decide (l.getD ue.toNat 0≤uj)||decide ((↑g.nodes.length:Int)≤l.getD ue.toNat 0)) (fun h3=>?_) (fun h3=>?_) (vc:=(zaP ue l)) (hv:=W132)
  ·exact Q3 [] [0] [fenB (↑g.nodes.length:Int) l=false] W173
  ·exact Q4 (v7 g l) (ue,uj,ug) ((ue+(1:Int),l.getD ue.toNat 0,ug)) (by dsimp only [v7];have q:=uc h2;have z:=hJ1.i0;omega) (hJ1.next (uc h2) h3) (vc:=(zD ue)) (hv:=W132)
 ·exact Q3 [] [0] [fenB (↑g.nodes.length:Int) l=true] W173
theorem Qey (n:Nod):Ctr Tryd.prog 80 [] [.agg n.cs]
 (Det (.c (.h 0)) [IntOwn (flrL n)]):=by
 refine Ctr.intro [] Tryd.func80 K K ?_
 refine Q0 (decide (n.kind=(9:Int))) (fun h1=>?_) (fun h1=>?_)
 ·rw [Qcy h1]
  exact Q3 [1000000] [0] [(0:Nat)=0] W52
 ·refine tz [4,2,1] ?_
  refine Q0 (decide (n.kind=(8:Int))) (fun h2=>?_) (fun h2=>?_)
  ·rw [Qcz h1 h2]
   exact Q3 [1] [0,1] (zaz n) W52
  ·rw [Qd0 h1 h2]
   exact Q3 [1] [0,1,2] (za9 n) W52
theorem Qjj (sh lk:List Dcl) (gs:List Grf) (hs:zF sh) (hl:zF lk) (hg:zab gs) (hw:UnitW gs) (h0:(chkU sh lk gs).1=0) (t:Int):Ctr Tryd.prog 63 (zbK sh lk gs) [zcz,zc6 t]
 (Det (.c (.i .i64 (if t<0∨(gs.length:Int)≤t then 2 else 0))) zbQ):=by
 refine Ctr.intro [] Tryd.func63 K K ?_
 refine Q2 J2 (Q2j sh lk gs W54 W54 W54 W54) [] ?_
 refine tz [10,4,2,1] ?_
 refine Q0 (!decide ((chkU sh lk gs).fst=(0:Int))) (fun h1=>?_) (fun h1=>?_)
 ·exact (show False from by rw [h0] at h1;simp at h1).elim
 ·refine tz [4,2,1] ?_
  refine Q0 (decide (t<(0:Int))||decide ((↑gs.length:Int)≤t)) (fun h2=>?_) (fun h2=>?_)
  ·exact Q3 [] [0] [(if t<(0:Int)∨(↑gs.length:Int)≤t then (2:Int) else (0:Int))=(2:Int)] W145
  ·exact Q3 [] [0] [(if t<(0:Int)∨(↑gs.length:Int)≤t then (2:Int) else (0:Int))=(0:Int)] W145
end Go.Proofs.YtnddggenhefaeaaDoor
end
