/-
  A part of the proof. Text 8 of 9: Leaf147 Leaf148 Leaf149 Leaf154 Leaf150 Leaf151 Leaf152 Leaf153 Leaf155.
-/
import Derived.Test.YtnddggenhefaeaaDoorP4
import Derived.Test.YtnddggenhefaeaaDoorP7
import Derived.Test.YtnddggenhefaeaaDoorP5
import Derived.Test.YtnddggenhefaeaaDoorP6
set_option linter.unusedSimpArgs false
set_option linter.unusedVariables false
open Go.Value renaming nilFunc→kA,string→jF,bool→jU,int→jf,slice→jg
open Go.IntKind renaming i64→ja,u8→jz
open List renaming replicate→ji,length_replicate→jG,length_set→jt,take→jS,length→jW,length_append→jl,length_take→jJ
open Int renaming le_refl→jA
open Nat renaming le_refl→jm
open And renaming intro→jn
open Bool renaming not_eq_false'→kC
open Inhabited renaming default→ub
set_option maxHeartbeats 4000000
noncomputable section
namespace Go.Proofs.YtnddggenhefaeaaDoor
open Go Go.Tx
abbrev zm:Reg:=Reg.box 141 [C.v kA,C.v kA,C.fn 86 false [],C.fn 84 false [],C.fn 83 false [],C.fn 83 false [],C.fn 85 false [],C.fn 83 false [],C.v kA,C.v kA]
abbrev zq (y0:List Grf) (y1:Int):Reg:=Reg.box 104 [C.v (jF (y0.getD y1.toNat ub).name),C.i .i64 (y0.getD y1.toNat ub).locals,C.i .i64 (y0.getD y1.toNat ub).slots,C.h 5,C.h 8]
abbrev zb8:En:=se 6 (C.v (Value.pointer none))
def uR (X:Ext) (sh:List Dcl) (lk:List Dcl) (gs:List Grf) (t:Int) (fe:List Int) (ue:List Cls):Lp (Int×List Mrk):=⟨fun x=>{ N:=112,fr:=[se 46 (C.i .i64 x.1),{ slot:=45,g:=[],sv:=SV.c (C.i .i64 (↑(rchL (gs.getD t.toNat ub).nodes).length:Int)) },se 44 (C.h 11),se 10 (C.p 10 0),se 9 (C.p 9 0),se 7 (C.h 7),zb8,se 2 (C.h 4)],rg:=[rowOf 3 (·.tc) sh,rowOf 3 (·.tc) lk,zj gs t,Reg.froz X,IntRow fe,zt gs t,zP,ownOf 145 3 (·.tc) ue,Mrk.ownR (x.2),zq gs t,zm,ownOf 4 1 (·.tc) (rchL (gs.getD t.toNat ub).nodes)],wr:=[] },fun x=>0≤x.1∧x.2.length=(gs.getD t.toNat ub).nodes.length,fun x=>(((gs.getD t.toNat ub).nodes.length:Int)-x.1).toNat⟩
def v8 (X:Ext) (sh:List Dcl) (lk:List Dcl) (gs:List Grf) (t:Int) (fe:List Int) (ue:List Cls) (uo:List Mrk):Lp (Int×List Mrk):=⟨fun x=>{ N:=112,fr:=[se 99 (C.i .i64 x.1),se 98 (C.i .i64 (↑fe.length:Int)),se 97 (C.h 4),se 9 (C.p 9 0),zb8],rg:=[rowOf 3 (·.tc) sh,rowOf 3 (·.tc) lk,zj gs t,Reg.froz X,IntRow fe,zt gs t,zP,ownOf 145 3 (·.tc) ue,Mrk.ownR (x.2),zq gs t,zm,ownOf 4 1 (·.tc) (rchL (gs.getD t.toNat ub).nodes)],wr:=[] },fun x=>0≤x.1∧x.2.length=(gs.getD t.toNat ub).nodes.length,fun x=>((fe.length:Int)-x.1).toNat⟩
abbrev zcd (y0:List Grf) (y1:Int):En:=En.mk 45 [] (SV.c (C.i .i64 (↑(rchL (y0.getD y1.toNat ub).nodes).length:Int)))
abbrev zh (y0:List Grf) (y1 y2:Int):List En:=[se 13 (C.p 12 0),En.mk 12 [] (SV.c (C.b ((rchL (y0.getD y1.toNat ub).nodes).getD y2.toNat ub).b)),se 11 (C.i .i64 y2),se 46 (C.i .i64 y2),zcd y0 y1,se 44 (C.h 11),se 10 (C.p 10 0),se 9 (C.p 9 0),se 7 (C.h 7),zb8,se 2 (C.h 4)]
abbrev zC (y0:List Mrk) (y1:Int) (y2 y3:Bool):List Prop:=[(y0.set y1.toNat (Mrk.mk false false y2 y3)).length=y0.length,∀ (i:Nat),i<(y0.set y1.toNat (Mrk.mk false false y2 y3)).length→((y0.set y1.toNat (Mrk.mk false false y2 y3)).getD i ub).tc=updT (fun i=>(y0.getD i ub).tc) y1.toNat 0 [jU false,jU false,jU y2,jU y3] i]
abbrev zE (y0:List Mrk) (y1:Int) (y2 y3 y4 y5:Bool):List Prop:=[(y0.set y1.toNat (Mrk.mk y2 y3 y4 y5)).length=y0.length,∀ (i:Nat),i<(y0.set y1.toNat (Mrk.mk y2 y3 y4 y5)).length→((y0.set y1.toNat (Mrk.mk y2 y3 y4 y5)).getD i ub).tc=updT (fun i=>(y0.getD i ub).tc) y1.toNat 0 [jU y2,jU y3,jU y4,jU y5] i]
abbrev zQ (y0:List Grf) (y1 y2:Int):Reg:=Reg.box 64 [C.i .u8 ((y0.getD y1.toNat ub).nodes.getD y2.toNat ub).kind,C.i .u8 ((y0.getD y1.toNat ub).nodes.getD y2.toNat ub).op,C.i .i64 ((y0.getD y1.toNat ub).nodes.getD y2.toNat ub).slot,C.i .i64 ((y0.getD y1.toNat ub).nodes.getD y2.toNat ub).thing,C.b ((y0.getD y1.toNat ub).nodes.getD y2.toNat ub).a.slotted,C.i .i64 ((y0.getD y1.toNat ub).nodes.getD y2.toNat ub).a.slot,C.i .i64 ((y0.getD y1.toNat ub).nodes.getD y2.toNat ub).a.word,C.b ((y0.getD y1.toNat ub).nodes.getD y2.toNat ub).b.slotted,C.i .i64 ((y0.getD y1.toNat ub).nodes.getD y2.toNat ub).b.slot,C.i .i64 ((y0.getD y1.toNat ub).nodes.getD y2.toNat ub).b.word,C.i .i64 ((y0.getD y1.toNat ub).nodes.getD y2.toNat ub).next,C.i .i64 ((y0.getD y1.toNat ub).nodes.getD y2.toNat ub).els,C.i .i64 ((y0.getD y1.toNat ub).nodes.getD y2.toNat ub).origin]
abbrev zS (y0:Int) (y1:List Mrk):List Prop:=[(0:Int)≤y0,y0<(↑y1.length:Int),y0.toNat<y1.length,Fits ja (y0+(1:Int))]
abbrev za7 (y0:List Grf) (y1 y2:Int):List En:=[En.mk 12 [] (SV.c (C.b ((rchL (y0.getD y1.toNat ub).nodes).getD y2.toNat ub).b)),se 11 (C.i .i64 y2),se 46 (C.i .i64 y2),zcd y0 y1,se 44 (C.h 11),se 10 (C.p 10 0),se 9 (C.p 9 0),se 7 (C.h 7),zb8,se 2 (C.h 4)]
theorem Qds (X:Ext) (hX:TabX X) (sh lk:List Dcl) (gs:List Grf) (hs:zF sh) (hl:zF lk) (hg:zab gs) (hw:UnitW gs) (h0:(chkU sh lk gs).1=0) (t:Int) (ht:0≤t∧t<(gs.length:Int)) (fe:List Int) (hfe:∀ x∈fe,0≤x∧x<((gs.getD t.toNat ub).nodes.length:Int)) (hfl:fe.length≤4294967296):Ctr Tryd.prog 40 [Dcl.rowR sh,Dcl.rowR lk,Grf.rowR gs,.froz X,IntRow fe] [.agg [.h 0,.h 1,.h 2],.c (.i .i64 t),.c (.h 4)]
 (DetE (fun M:List Mrk=>M.length=(gs.getD t.toNat ub).nodes.length) (fun _=>.c (.p 5 0)) (fun M=>[.dead,.dead,.dead,.dead,.dead,Reg.box 104 [C.v (jF (gs.getD t.toNat ub).name),C.i .i64 (gs.getD t.toNat ub).locals,C.i .i64 (gs.getD t.toNat ub).slots,C.h 6,C.h 7],Nod.rowR (gs.getD t.toNat ub).nodes,Mrk.ownR M])):=by
 refine Ctr.intro [] Tryd.func40 K K ?_
 refine Y3 2 (t.toNat) ?_ (vc:=(zbX t gs)) (hv:=W4)
 refine Ql Q4i (Qh7 X W71 sh lk gs W71 W71 W71 W71 W71) [] ?_
 rintro ue hY1
 try dsimp only at hY1
 refine tz [21,6,3,1,2] ?_
 refine Q2 Qan (Qog) [] ?_ (vc:=[(0:Int)≤t,t<(↑gs.length:Int),t.toNat=t.toNat,(0:Int)≤t,t<(↑gs.length:Int),t.toNat=t.toNat,(0:Int)≤(↑(gs.getD t.toNat ub).nodes.length:Int),(↑(gs.getD t.toNat ub).nodes.length:Int)≤(↑(gs.getD t.toNat ub).nodes.length:Int),(↑(gs.getD t.toNat ub).nodes.length:Int) * (4:Int)≤(140737488355328:Int),(↑(gs.getD t.toNat ub).nodes.length:Int)≤(↑maxLen:Int),(0:Int)≤(↑(gs.getD t.toNat ub).nodes.length:Int),(↑(gs.getD t.toNat ub).nodes.length:Int)≤(↑(gs.getD t.toNat ub).nodes.length:Int),(↑(gs.getD t.toNat ub).nodes.length:Int) * (4:Int)≤(140737488355328:Int),(↑(gs.getD t.toNat ub).nodes.length:Int)≤(↑maxLen:Int)]) (hv:=W4)
 refine tz [39,9,7,6,2] ?_
 refine Q2 Qw (Yd (gs.getD t.toNat ub) W71 W71 W71) [5] ?_
 refine tz [44,10,9,7,6,2] ?_
 refine Q9 (uR X sh lk gs t fe ue) (((0:Int),ji (gs.getD t.toNat ub).nodes.length (Mrk.mk false false false false))) (⟨jA _,jG⟩) ?_ [] [17,18] [(ji (gs.getD t.toNat ub).nodes.length (Mrk.mk false false false false)).length=(gs.getD t.toNat ub).nodes.length,∀ (i:Nat),i<(ji (gs.getD t.toNat ub).nodes.length (Mrk.mk false false false false)).length→((ji (gs.getD t.toNat ub).nodes.length (Mrk.mk false false false false)).getD i ub).tc=fun j=>valT (Value.agg #[jU false,jU false,jU false,jU false]).cells.toList j] W13
 rintro ⟨uf,uo⟩ hJ2
 dsimp only [uR] at hJ2
 refine tz [46,45,44,10,9,7,6,2] ?_
 refine Q0 (decide (uf<(↑(rchL (gs.getD t.toNat ub).nodes).length:Int))) (fun h3=>?_) (fun h3=>?_)
 ·refine RunF.cut (fun _:Unit=>St.mk 112 (za7 gs t uf) [rowOf 3 (·.tc) sh,rowOf 3 (·.tc) lk,zj gs t,Reg.froz X,IntRow fe,zt gs t,zP,ownOf 145 3 (·.tc) ue,ownOf 108 4 (·.tc) uo,zq gs t,zm,ownOf 4 1 (·.tc) (rchL (gs.getD t.toNat ub).nodes)] []) (fun _=>True) ?_ ?_
  ·exact tTo (fun x=>St.mk 112 (za7 gs t uf) [rowOf 3 (·.tc) sh,rowOf 3 (·.tc) lk,zj gs t,Reg.froz X,IntRow fe,zt gs t,zP,ownOf 145 3 (·.tc) ue,ownOf 108 4 (·.tc) uo,zq gs t,zm,ownOf 4 1 (·.tc) (rchL (gs.getD t.toNat ub).nodes)] []) (fun x=>True) () trivial (vc:=[(0:Int)≤uf,uf<(↑(rchL (gs.getD t.toNat ub).nodes).length:Int),uf.toNat<(rchL (gs.getD t.toNat ub).nodes).length]) (hv:=W4)
  ·rintro ⟨⟩ _
   refine RunF.cut (fun _:Unit=>St.mk 112 (zh gs t uf) [rowOf 3 (·.tc) sh,rowOf 3 (·.tc) lk,zj gs t,Reg.froz X,IntRow fe,zt gs t,zP,ownOf 145 3 (·.tc) ue,ownOf 108 4 (·.tc) uo,zq gs t,zm,ownOf 4 1 (·.tc) (rchL (gs.getD t.toNat ub).nodes),zQ gs t uf] []) (fun _=>True) ?_ ?_
   ·exact tTo (fun x=>St.mk 112 (zh gs t uf) [rowOf 3 (·.tc) sh,rowOf 3 (·.tc) lk,zj gs t,Reg.froz X,IntRow fe,zt gs t,zP,ownOf 145 3 (·.tc) ue,ownOf 108 4 (·.tc) uo,zq gs t,zm,ownOf 4 1 (·.tc) (rchL (gs.getD t.toNat ub).nodes),zQ gs t uf] []) (fun x=>True) () trivial (vc:=(zaX uf gs t)) (hv:=W4)
   ·rintro ⟨⟩ _
    rcases (show ((gs.getD t.toNat ub).nodes.getD uf.toNat ub).kind=(1:Int)∨((gs.getD t.toNat ub).nodes.getD uf.toNat ub).kind=(2:Int)∨((gs.getD t.toNat ub).nodes.getD uf.toNat ub).kind=(3:Int)∨((gs.getD t.toNat ub).nodes.getD uf.toNat ub).kind=(4:Int)∨((gs.getD t.toNat ub).nodes.getD uf.toNat ub).kind=(5:Int)∨((gs.getD t.toNat ub).nodes.getD uf.toNat ub).kind=(6:Int)∨((gs.getD t.toNat ub).nodes.getD uf.toNat ub).kind=(7:Int)∨((gs.getD t.toNat ub).nodes.getD uf.toNat ub).kind=(8:Int)∨((gs.getD t.toNat ub).nodes.getD uf.toNat ub).kind=(9:Int) from (by have T:=Yq h0 hw ht.1 ht.2;have q:=uc h3;have z:=hJ2.1;have z1:=Qm (gs.getD t.toNat ub).nodes;have z2:=T.hk uf.toNat (by omega);omega)) with hs4 | hs4 | hs4 | hs4 | hs4 | hs4 | hs4 | hs4 | hs4
    ·refine tWk (St.mk 112 (zh gs t uf) [rowOf 3 (·.tc) sh,rowOf 3 (·.tc) lk,zj gs t,Reg.froz X,IntRow fe,zt gs t,zP,ownOf 145 3 (·.tc) ue,ownOf 108 4 (·.tc) uo,zq gs t,zm,ownOf 4 1 (·.tc) (rchL (gs.getD t.toNat ub).nodes),Reg.box 64 [C.i .u8 1,C.i .u8 ((gs.getD t.toNat ub).nodes.getD uf.toNat ub).op,C.i .i64 ((gs.getD t.toNat ub).nodes.getD uf.toNat ub).slot,C.i .i64 ((gs.getD t.toNat ub).nodes.getD uf.toNat ub).thing,C.b ((gs.getD t.toNat ub).nodes.getD uf.toNat ub).a.slotted,C.i .i64 ((gs.getD t.toNat ub).nodes.getD uf.toNat ub).a.slot,C.i .i64 ((gs.getD t.toNat ub).nodes.getD uf.toNat ub).a.word,C.b ((gs.getD t.toNat ub).nodes.getD uf.toNat ub).b.slotted,C.i .i64 ((gs.getD t.toNat ub).nodes.getD uf.toNat ub).b.slot,C.i .i64 ((gs.getD t.toNat ub).nodes.getD uf.toNat ub).b.word,C.i .i64 ((gs.getD t.toNat ub).nodes.getD uf.toNat ub).next,C.i .i64 ((gs.getD t.toNat ub).nodes.getD uf.toNat ub).els,C.i .i64 ((gs.getD t.toNat ub).nodes.getD uf.toNat ub).origin]] []) ?_ [] [28] [(1:Int)=((gs.getD t.toNat ub).nodes.getD uf.toNat ub).kind] W37
     exact Q4 (uR X sh lk gs t fe ue) (uf,uo) ((uf+(1:Int),uo)) W59 W68 (vc:=[(0:Int)≤(1:Int),(1:Int)<(10:Int),Fits ja (uf+(1:Int))]) (hv:=W4)
    ·refine tWk (St.mk 112 (zh gs t uf) [rowOf 3 (·.tc) sh,rowOf 3 (·.tc) lk,zj gs t,Reg.froz X,IntRow fe,zt gs t,zP,ownOf 145 3 (·.tc) ue,ownOf 108 4 (·.tc) uo,zq gs t,zm,ownOf 4 1 (·.tc) (rchL (gs.getD t.toNat ub).nodes),Reg.box 64 [C.i .u8 2,C.i .u8 ((gs.getD t.toNat ub).nodes.getD uf.toNat ub).op,C.i .i64 ((gs.getD t.toNat ub).nodes.getD uf.toNat ub).slot,C.i .i64 ((gs.getD t.toNat ub).nodes.getD uf.toNat ub).thing,C.b ((gs.getD t.toNat ub).nodes.getD uf.toNat ub).a.slotted,C.i .i64 ((gs.getD t.toNat ub).nodes.getD uf.toNat ub).a.slot,C.i .i64 ((gs.getD t.toNat ub).nodes.getD uf.toNat ub).a.word,C.b ((gs.getD t.toNat ub).nodes.getD uf.toNat ub).b.slotted,C.i .i64 ((gs.getD t.toNat ub).nodes.getD uf.toNat ub).b.slot,C.i .i64 ((gs.getD t.toNat ub).nodes.getD uf.toNat ub).b.word,C.i .i64 ((gs.getD t.toNat ub).nodes.getD uf.toNat ub).next,C.i .i64 ((gs.getD t.toNat ub).nodes.getD uf.toNat ub).els,C.i .i64 ((gs.getD t.toNat ub).nodes.getD uf.toNat ub).origin]] []) ?_ [] [28] [(2:Int)=((gs.getD t.toNat ub).nodes.getD uf.toNat ub).kind] W37
     refine tz [13,12,11,46,45,44,10,9,7,6,2] ?_
     refine Ql Q7j (Qmh ((decide ((2:Int)=(3:Int))||decide ((2:Int)=(2:Int)))&&decide ((ue.getD ((gs.getD t.toNat ub).nodes.getD uf.toNat ub).thing.toNat ub).kind=(3:Int)))) [] ?_ (vc:=[(0:Int)≤(2:Int),(2:Int)<(10:Int),(decide ((2:Int)=(3:Int))||decide ((2:Int)=(2:Int)))=true→(0:Int)≤((gs.getD t.toNat ub).nodes.getD uf.toNat ub).thing,(decide ((2:Int)=(3:Int))||decide ((2:Int)=(2:Int)))=true→((gs.getD t.toNat ub).nodes.getD uf.toNat ub).thing<(↑ue.length:Int),(decide ((2:Int)=(3:Int))||decide ((2:Int)=(2:Int)))=true→((gs.getD t.toNat ub).nodes.getD uf.toNat ub).thing.toNat<ue.length]) (hv:=W4)
     rintro ⟨uk,uy,uB,uK⟩ hY5
     try dsimp only at hY5
     refine tz [84,12,11,46,45,44,10,9,7,6,2] ?_
     refine Q0 (!((rchL (gs.getD t.toNat ub).nodes).getD uf.toNat ub).b) (fun h6=>?_) (fun h6=>?_)
     ·exact Q4 (uR X sh lk gs t fe ue) (uf,uo) ((uf+(1:Int),uo.set uf.toNat (Mrk.mk false false uB uK))) W59 W68 [] [17,18] (zC uo uf uB uK) W13 (vc:=(zS uf uo)) (hv:=W4)
     ·exact Q4 (uR X sh lk gs t fe ue) (uf,uo) ((uf+(1:Int),uo.set uf.toNat (Mrk.mk uk uy uB uK))) W59 W68 [] [17,18] (zE uo uf uk uy uB uK) W13 (vc:=(zS uf uo)) (hv:=W4)
    ·refine tWk (St.mk 112 (zh gs t uf) [rowOf 3 (·.tc) sh,rowOf 3 (·.tc) lk,zj gs t,Reg.froz X,IntRow fe,zt gs t,zP,ownOf 145 3 (·.tc) ue,ownOf 108 4 (·.tc) uo,zq gs t,zm,ownOf 4 1 (·.tc) (rchL (gs.getD t.toNat ub).nodes),Reg.box 64 [C.i .u8 3,C.i .u8 ((gs.getD t.toNat ub).nodes.getD uf.toNat ub).op,C.i .i64 ((gs.getD t.toNat ub).nodes.getD uf.toNat ub).slot,C.i .i64 ((gs.getD t.toNat ub).nodes.getD uf.toNat ub).thing,C.b ((gs.getD t.toNat ub).nodes.getD uf.toNat ub).a.slotted,C.i .i64 ((gs.getD t.toNat ub).nodes.getD uf.toNat ub).a.slot,C.i .i64 ((gs.getD t.toNat ub).nodes.getD uf.toNat ub).a.word,C.b ((gs.getD t.toNat ub).nodes.getD uf.toNat ub).b.slotted,C.i .i64 ((gs.getD t.toNat ub).nodes.getD uf.toNat ub).b.slot,C.i .i64 ((gs.getD t.toNat ub).nodes.getD uf.toNat ub).b.word,C.i .i64 ((gs.getD t.toNat ub).nodes.getD uf.toNat ub).next,C.i .i64 ((gs.getD t.toNat ub).nodes.getD uf.toNat ub).els,C.i .i64 ((gs.getD t.toNat ub).nodes.getD uf.toNat ub).origin]] []) ?_ [] [28] [(3:Int)=((gs.getD t.toNat ub).nodes.getD uf.toNat ub).kind] W37
     refine tz [13,12,11,46,45,44,10,9,7,6,2] ?_
     refine Ql Q7h (Qmf ((decide ((3:Int)=(3:Int))||decide ((3:Int)=(2:Int)))&&decide ((ue.getD ((gs.getD t.toNat ub).nodes.getD uf.toNat ub).thing.toNat ub).kind=(3:Int)))) [] ?_ (vc:=[(0:Int)≤(3:Int),(3:Int)<(10:Int),(decide ((3:Int)=(3:Int))||decide ((3:Int)=(2:Int)))=true→(0:Int)≤((gs.getD t.toNat ub).nodes.getD uf.toNat ub).thing,(decide ((3:Int)=(3:Int))||decide ((3:Int)=(2:Int)))=true→((gs.getD t.toNat ub).nodes.getD uf.toNat ub).thing<(↑ue.length:Int),(decide ((3:Int)=(3:Int))||decide ((3:Int)=(2:Int)))=true→((gs.getD t.toNat ub).nodes.getD uf.toNat ub).thing.toNat<ue.length]) (hv:=W4)
     rintro ⟨uk,uy,uB,uK⟩ hY5
     try dsimp only at hY5
     refine tz [84,12,11,46,45,44,10,9,7,6,2] ?_
     refine Q0 (!((rchL (gs.getD t.toNat ub).nodes).getD uf.toNat ub).b) (fun h6=>?_) (fun h6=>?_)
     ·exact Q4 (uR X sh lk gs t fe ue) (uf,uo) ((uf+(1:Int),uo.set uf.toNat (Mrk.mk false false uB uK))) W59 W68 [] [17,18] (zC uo uf uB uK) W13 (vc:=(zS uf uo)) (hv:=W4)
     ·exact Q4 (uR X sh lk gs t fe ue) (uf,uo) ((uf+(1:Int),uo.set uf.toNat (Mrk.mk uk uy uB uK))) W59 W68 [] [17,18] (zE uo uf uk uy uB uK) W13 (vc:=(zS uf uo)) (hv:=W4)
    ·refine tWk (St.mk 112 (zh gs t uf) [rowOf 3 (·.tc) sh,rowOf 3 (·.tc) lk,zj gs t,Reg.froz X,IntRow fe,zt gs t,zP,ownOf 145 3 (·.tc) ue,ownOf 108 4 (·.tc) uo,zq gs t,zm,ownOf 4 1 (·.tc) (rchL (gs.getD t.toNat ub).nodes),Reg.box 64 [C.i .u8 4,C.i .u8 ((gs.getD t.toNat ub).nodes.getD uf.toNat ub).op,C.i .i64 ((gs.getD t.toNat ub).nodes.getD uf.toNat ub).slot,C.i .i64 ((gs.getD t.toNat ub).nodes.getD uf.toNat ub).thing,C.b ((gs.getD t.toNat ub).nodes.getD uf.toNat ub).a.slotted,C.i .i64 ((gs.getD t.toNat ub).nodes.getD uf.toNat ub).a.slot,C.i .i64 ((gs.getD t.toNat ub).nodes.getD uf.toNat ub).a.word,C.b ((gs.getD t.toNat ub).nodes.getD uf.toNat ub).b.slotted,C.i .i64 ((gs.getD t.toNat ub).nodes.getD uf.toNat ub).b.slot,C.i .i64 ((gs.getD t.toNat ub).nodes.getD uf.toNat ub).b.word,C.i .i64 ((gs.getD t.toNat ub).nodes.getD uf.toNat ub).next,C.i .i64 ((gs.getD t.toNat ub).nodes.getD uf.toNat ub).els,C.i .i64 ((gs.getD t.toNat ub).nodes.getD uf.toNat ub).origin]] []) ?_ [] [28] [(4:Int)=((gs.getD t.toNat ub).nodes.getD uf.toNat ub).kind] W37
     refine tz [13,12,11,46,45,44,10,9,7,6,2] ?_
     refine Ql Gu (Q84 ((decide ((4:Int)=(3:Int))||decide ((4:Int)=(2:Int)))&&decide ((ue.getD ((gs.getD t.toNat ub).nodes.getD uf.toNat ub).thing.toNat ub).kind=(3:Int)))) [] ?_ [0] [((decide ((4:Int)=(3:Int))||decide ((4:Int)=(2:Int)))&&decide ((ue.getD ((gs.getD t.toNat ub).nodes.getD uf.toNat ub).thing.toNat ub).kind=(3:Int)))=false] W13 (vc:=[(0:Int)≤(4:Int),(4:Int)<(10:Int),(decide ((4:Int)=(3:Int))||decide ((4:Int)=(2:Int)))=true→(0:Int)≤((gs.getD t.toNat ub).nodes.getD uf.toNat ub).thing,(decide ((4:Int)=(3:Int))||decide ((4:Int)=(2:Int)))=true→((gs.getD t.toNat ub).nodes.getD uf.toNat ub).thing<(↑ue.length:Int),(decide ((4:Int)=(3:Int))||decide ((4:Int)=(2:Int)))=true→((gs.getD t.toNat ub).nodes.getD uf.toNat ub).thing.toNat<ue.length]) (hv:=W4)
     rintro ⟨uk,uy,uB,uK⟩ hY5
     try dsimp only at hY5
     refine tz [84,12,11,46,45,44,10,9,7,6,2] ?_
     refine Q0 (!((rchL (gs.getD t.toNat ub).nodes).getD uf.toNat ub).b) (fun h6=>?_) (fun h6=>?_)
     ·exact Q4 (uR X sh lk gs t fe ue) (uf,uo) ((uf+(1:Int),uo.set uf.toNat (Mrk.mk false false uB uK))) W59 W68 [] [17,18] (zC uo uf uB uK) W13 (vc:=(zS uf uo)) (hv:=W4)
     ·exact Q4 (uR X sh lk gs t fe ue) (uf,uo) ((uf+(1:Int),uo.set uf.toNat (Mrk.mk uk uy uB uK))) W59 W68 [] [17,18] (zE uo uf uk uy uB uK) W13 (vc:=(zS uf uo)) (hv:=W4)
    ·refine tWk (St.mk 112 (zh gs t uf) [rowOf 3 (·.tc) sh,rowOf 3 (·.tc) lk,zj gs t,Reg.froz X,IntRow fe,zt gs t,zP,ownOf 145 3 (·.tc) ue,ownOf 108 4 (·.tc) uo,zq gs t,zm,ownOf 4 1 (·.tc) (rchL (gs.getD t.toNat ub).nodes),Reg.box 64 [C.i .u8 5,C.i .u8 ((gs.getD t.toNat ub).nodes.getD uf.toNat ub).op,C.i .i64 ((gs.getD t.toNat ub).nodes.getD uf.toNat ub).slot,C.i .i64 ((gs.getD t.toNat ub).nodes.getD uf.toNat ub).thing,C.b ((gs.getD t.toNat ub).nodes.getD uf.toNat ub).a.slotted,C.i .i64 ((gs.getD t.toNat ub).nodes.getD uf.toNat ub).a.slot,C.i .i64 ((gs.getD t.toNat ub).nodes.getD uf.toNat ub).a.word,C.b ((gs.getD t.toNat ub).nodes.getD uf.toNat ub).b.slotted,C.i .i64 ((gs.getD t.toNat ub).nodes.getD uf.toNat ub).b.slot,C.i .i64 ((gs.getD t.toNat ub).nodes.getD uf.toNat ub).b.word,C.i .i64 ((gs.getD t.toNat ub).nodes.getD uf.toNat ub).next,C.i .i64 ((gs.getD t.toNat ub).nodes.getD uf.toNat ub).els,C.i .i64 ((gs.getD t.toNat ub).nodes.getD uf.toNat ub).origin]] []) ?_ [] [28] [(5:Int)=((gs.getD t.toNat ub).nodes.getD uf.toNat ub).kind] W37
     refine tz [13,12,11,46,45,44,10,9,7,6,2] ?_
     refine Ql Gu (Q84 ((decide ((5:Int)=(3:Int))||decide ((5:Int)=(2:Int)))&&decide ((ue.getD ((gs.getD t.toNat ub).nodes.getD uf.toNat ub).thing.toNat ub).kind=(3:Int)))) [] ?_ [0] [((decide ((5:Int)=(3:Int))||decide ((5:Int)=(2:Int)))&&decide ((ue.getD ((gs.getD t.toNat ub).nodes.getD uf.toNat ub).thing.toNat ub).kind=(3:Int)))=false] W13 (vc:=[(0:Int)≤(5:Int),(5:Int)<(10:Int),(decide ((5:Int)=(3:Int))||decide ((5:Int)=(2:Int)))=true→(0:Int)≤((gs.getD t.toNat ub).nodes.getD uf.toNat ub).thing,(decide ((5:Int)=(3:Int))||decide ((5:Int)=(2:Int)))=true→((gs.getD t.toNat ub).nodes.getD uf.toNat ub).thing<(↑ue.length:Int),(decide ((5:Int)=(3:Int))||decide ((5:Int)=(2:Int)))=true→((gs.getD t.toNat ub).nodes.getD uf.toNat ub).thing.toNat<ue.length]) (hv:=W4)
     rintro ⟨uk,uy,uB,uK⟩ hY5
     try dsimp only at hY5
     refine tz [84,12,11,46,45,44,10,9,7,6,2] ?_
     refine Q0 (!((rchL (gs.getD t.toNat ub).nodes).getD uf.toNat ub).b) (fun h6=>?_) (fun h6=>?_)
     ·exact Q4 (uR X sh lk gs t fe ue) (uf,uo) ((uf+(1:Int),uo.set uf.toNat (Mrk.mk false false uB uK))) W59 W68 [] [17,18] (zC uo uf uB uK) W13 (vc:=(zS uf uo)) (hv:=W4)
     ·exact Q4 (uR X sh lk gs t fe ue) (uf,uo) ((uf+(1:Int),uo.set uf.toNat (Mrk.mk uk uy uB uK))) W59 W68 [] [17,18] (zE uo uf uk uy uB uK) W13 (vc:=(zS uf uo)) (hv:=W4)
    ·refine tWk (St.mk 112 (zh gs t uf) [rowOf 3 (·.tc) sh,rowOf 3 (·.tc) lk,zj gs t,Reg.froz X,IntRow fe,zt gs t,zP,ownOf 145 3 (·.tc) ue,ownOf 108 4 (·.tc) uo,zq gs t,zm,ownOf 4 1 (·.tc) (rchL (gs.getD t.toNat ub).nodes),Reg.box 64 [C.i .u8 6,C.i .u8 ((gs.getD t.toNat ub).nodes.getD uf.toNat ub).op,C.i .i64 ((gs.getD t.toNat ub).nodes.getD uf.toNat ub).slot,C.i .i64 ((gs.getD t.toNat ub).nodes.getD uf.toNat ub).thing,C.b ((gs.getD t.toNat ub).nodes.getD uf.toNat ub).a.slotted,C.i .i64 ((gs.getD t.toNat ub).nodes.getD uf.toNat ub).a.slot,C.i .i64 ((gs.getD t.toNat ub).nodes.getD uf.toNat ub).a.word,C.b ((gs.getD t.toNat ub).nodes.getD uf.toNat ub).b.slotted,C.i .i64 ((gs.getD t.toNat ub).nodes.getD uf.toNat ub).b.slot,C.i .i64 ((gs.getD t.toNat ub).nodes.getD uf.toNat ub).b.word,C.i .i64 ((gs.getD t.toNat ub).nodes.getD uf.toNat ub).next,C.i .i64 ((gs.getD t.toNat ub).nodes.getD uf.toNat ub).els,C.i .i64 ((gs.getD t.toNat ub).nodes.getD uf.toNat ub).origin]] []) ?_ [] [28] [(6:Int)=((gs.getD t.toNat ub).nodes.getD uf.toNat ub).kind] W37
     refine tz [13,12,11,46,45,44,10,9,7,6,2] ?_
     refine Ql Q7i (Qmg ((decide ((6:Int)=(3:Int))||decide ((6:Int)=(2:Int)))&&decide ((ue.getD ((gs.getD t.toNat ub).nodes.getD uf.toNat ub).thing.toNat ub).kind=(3:Int)))) [] ?_ [0] [((decide ((6:Int)=(3:Int))||decide ((6:Int)=(2:Int)))&&decide ((ue.getD ((gs.getD t.toNat ub).nodes.getD uf.toNat ub).thing.toNat ub).kind=(3:Int)))=false] W13 (vc:=[(0:Int)≤(6:Int),(6:Int)<(10:Int),(decide ((6:Int)=(3:Int))||decide ((6:Int)=(2:Int)))=true→(0:Int)≤((gs.getD t.toNat ub).nodes.getD uf.toNat ub).thing,(decide ((6:Int)=(3:Int))||decide ((6:Int)=(2:Int)))=true→((gs.getD t.toNat ub).nodes.getD uf.toNat ub).thing<(↑ue.length:Int),(decide ((6:Int)=(3:Int))||decide ((6:Int)=(2:Int)))=true→((gs.getD t.toNat ub).nodes.getD uf.toNat ub).thing.toNat<ue.length]) (hv:=W4)
     rintro ⟨uk,uy,uB,uK⟩ hY5
     try dsimp only at hY5
     refine tz [84,12,11,46,45,44,10,9,7,6,2] ?_
     refine Q0 (!((rchL (gs.getD t.toNat ub).nodes).getD uf.toNat ub).b) (fun h6=>?_) (fun h6=>?_)
     ·exact Q4 (uR X sh lk gs t fe ue) (uf,uo) ((uf+(1:Int),uo.set uf.toNat (Mrk.mk false false uB uK))) W59 W68 [] [17,18] (zC uo uf uB uK) W13 (vc:=(zS uf uo)) (hv:=W4)
     ·exact Q4 (uR X sh lk gs t fe ue) (uf,uo) ((uf+(1:Int),uo.set uf.toNat (Mrk.mk uk uy uB uK))) W59 W68 [] [17,18] (zE uo uf uk uy uB uK) W13 (vc:=(zS uf uo)) (hv:=W4)
    ·refine tWk (St.mk 112 (zh gs t uf) [rowOf 3 (·.tc) sh,rowOf 3 (·.tc) lk,zj gs t,Reg.froz X,IntRow fe,zt gs t,zP,ownOf 145 3 (·.tc) ue,ownOf 108 4 (·.tc) uo,zq gs t,zm,ownOf 4 1 (·.tc) (rchL (gs.getD t.toNat ub).nodes),Reg.box 64 [C.i .u8 7,C.i .u8 ((gs.getD t.toNat ub).nodes.getD uf.toNat ub).op,C.i .i64 ((gs.getD t.toNat ub).nodes.getD uf.toNat ub).slot,C.i .i64 ((gs.getD t.toNat ub).nodes.getD uf.toNat ub).thing,C.b ((gs.getD t.toNat ub).nodes.getD uf.toNat ub).a.slotted,C.i .i64 ((gs.getD t.toNat ub).nodes.getD uf.toNat ub).a.slot,C.i .i64 ((gs.getD t.toNat ub).nodes.getD uf.toNat ub).a.word,C.b ((gs.getD t.toNat ub).nodes.getD uf.toNat ub).b.slotted,C.i .i64 ((gs.getD t.toNat ub).nodes.getD uf.toNat ub).b.slot,C.i .i64 ((gs.getD t.toNat ub).nodes.getD uf.toNat ub).b.word,C.i .i64 ((gs.getD t.toNat ub).nodes.getD uf.toNat ub).next,C.i .i64 ((gs.getD t.toNat ub).nodes.getD uf.toNat ub).els,C.i .i64 ((gs.getD t.toNat ub).nodes.getD uf.toNat ub).origin]] []) ?_ [] [28] [(7:Int)=((gs.getD t.toNat ub).nodes.getD uf.toNat ub).kind] W37
     refine tz [13,12,11,46,45,44,10,9,7,6,2] ?_
     refine Ql Gu (Q84 ((decide ((7:Int)=(3:Int))||decide ((7:Int)=(2:Int)))&&decide ((ue.getD ((gs.getD t.toNat ub).nodes.getD uf.toNat ub).thing.toNat ub).kind=(3:Int)))) [] ?_ [0] [((decide ((7:Int)=(3:Int))||decide ((7:Int)=(2:Int)))&&decide ((ue.getD ((gs.getD t.toNat ub).nodes.getD uf.toNat ub).thing.toNat ub).kind=(3:Int)))=false] W13 (vc:=[(0:Int)≤(7:Int),(7:Int)<(10:Int),(decide ((7:Int)=(3:Int))||decide ((7:Int)=(2:Int)))=true→(0:Int)≤((gs.getD t.toNat ub).nodes.getD uf.toNat ub).thing,(decide ((7:Int)=(3:Int))||decide ((7:Int)=(2:Int)))=true→((gs.getD t.toNat ub).nodes.getD uf.toNat ub).thing<(↑ue.length:Int),(decide ((7:Int)=(3:Int))||decide ((7:Int)=(2:Int)))=true→((gs.getD t.toNat ub).nodes.getD uf.toNat ub).thing.toNat<ue.length]) (hv:=W4)
     rintro ⟨uk,uy,uB,uK⟩ hY5
     try dsimp only at hY5
     refine tz [84,12,11,46,45,44,10,9,7,6,2] ?_
     refine Q0 (!((rchL (gs.getD t.toNat ub).nodes).getD uf.toNat ub).b) (fun h6=>?_) (fun h6=>?_)
     ·exact Q4 (uR X sh lk gs t fe ue) (uf,uo) ((uf+(1:Int),uo.set uf.toNat (Mrk.mk false false uB uK))) W59 W68 [] [17,18] (zC uo uf uB uK) W13 (vc:=(zS uf uo)) (hv:=W4)
     ·exact Q4 (uR X sh lk gs t fe ue) (uf,uo) ((uf+(1:Int),uo.set uf.toNat (Mrk.mk uk uy uB uK))) W59 W68 [] [17,18] (zE uo uf uk uy uB uK) W13 (vc:=(zS uf uo)) (hv:=W4)
    ·refine tWk (St.mk 112 (zh gs t uf) [rowOf 3 (·.tc) sh,rowOf 3 (·.tc) lk,zj gs t,Reg.froz X,IntRow fe,zt gs t,zP,ownOf 145 3 (·.tc) ue,ownOf 108 4 (·.tc) uo,zq gs t,zm,ownOf 4 1 (·.tc) (rchL (gs.getD t.toNat ub).nodes),Reg.box 64 [C.i .u8 8,C.i .u8 ((gs.getD t.toNat ub).nodes.getD uf.toNat ub).op,C.i .i64 ((gs.getD t.toNat ub).nodes.getD uf.toNat ub).slot,C.i .i64 ((gs.getD t.toNat ub).nodes.getD uf.toNat ub).thing,C.b ((gs.getD t.toNat ub).nodes.getD uf.toNat ub).a.slotted,C.i .i64 ((gs.getD t.toNat ub).nodes.getD uf.toNat ub).a.slot,C.i .i64 ((gs.getD t.toNat ub).nodes.getD uf.toNat ub).a.word,C.b ((gs.getD t.toNat ub).nodes.getD uf.toNat ub).b.slotted,C.i .i64 ((gs.getD t.toNat ub).nodes.getD uf.toNat ub).b.slot,C.i .i64 ((gs.getD t.toNat ub).nodes.getD uf.toNat ub).b.word,C.i .i64 ((gs.getD t.toNat ub).nodes.getD uf.toNat ub).next,C.i .i64 ((gs.getD t.toNat ub).nodes.getD uf.toNat ub).els,C.i .i64 ((gs.getD t.toNat ub).nodes.getD uf.toNat ub).origin]] []) ?_ [] [28] [(8:Int)=((gs.getD t.toNat ub).nodes.getD uf.toNat ub).kind] W37
     exact Q4 (uR X sh lk gs t fe ue) (uf,uo) ((uf+(1:Int),uo)) W59 W68 (vc:=[(0:Int)≤(8:Int),(8:Int)<(10:Int),Fits ja (uf+(1:Int))]) (hv:=W4)
    ·refine tWk (St.mk 112 (zh gs t uf) [rowOf 3 (·.tc) sh,rowOf 3 (·.tc) lk,zj gs t,Reg.froz X,IntRow fe,zt gs t,zP,ownOf 145 3 (·.tc) ue,ownOf 108 4 (·.tc) uo,zq gs t,zm,ownOf 4 1 (·.tc) (rchL (gs.getD t.toNat ub).nodes),Reg.box 64 [C.i .u8 9,C.i .u8 ((gs.getD t.toNat ub).nodes.getD uf.toNat ub).op,C.i .i64 ((gs.getD t.toNat ub).nodes.getD uf.toNat ub).slot,C.i .i64 ((gs.getD t.toNat ub).nodes.getD uf.toNat ub).thing,C.b ((gs.getD t.toNat ub).nodes.getD uf.toNat ub).a.slotted,C.i .i64 ((gs.getD t.toNat ub).nodes.getD uf.toNat ub).a.slot,C.i .i64 ((gs.getD t.toNat ub).nodes.getD uf.toNat ub).a.word,C.b ((gs.getD t.toNat ub).nodes.getD uf.toNat ub).b.slotted,C.i .i64 ((gs.getD t.toNat ub).nodes.getD uf.toNat ub).b.slot,C.i .i64 ((gs.getD t.toNat ub).nodes.getD uf.toNat ub).b.word,C.i .i64 ((gs.getD t.toNat ub).nodes.getD uf.toNat ub).next,C.i .i64 ((gs.getD t.toNat ub).nodes.getD uf.toNat ub).els,C.i .i64 ((gs.getD t.toNat ub).nodes.getD uf.toNat ub).origin]] []) ?_ [] [28] [(9:Int)=((gs.getD t.toNat ub).nodes.getD uf.toNat ub).kind] W37
     exact Q4 (uR X sh lk gs t fe ue) (uf,uo) ((uf+(1:Int),uo)) W59 W68 (vc:=[(0:Int)≤(9:Int),(9:Int)<(10:Int),Fits ja (uf+(1:Int))]) (hv:=W4)
 ·refine tz [46,45,44,10,9,7,6,2] ?_
  refine Q9 (v8 X sh lk gs t fe ue uo) (((0:Int),uo)) (⟨jA _,hJ2.2⟩) ?_
  rintro ⟨ur,ux⟩ hJ4
  dsimp only [v8] at hJ4
  refine tz [99,98,97,9,6] ?_
  refine Q0 (decide (ur<(↑fe.length:Int))) (fun h5=>?_) (fun h5=>?_)
  ·exact Q4 (v8 X sh lk gs t fe ue uo) (ur,ux) ((ur+(1:Int),ux.set (fe.getD ur.toNat 0).toNat (Mrk.mk (ux.getD (fe.getD ur.toNat 0).toNat ub).s (ux.getD (fe.getD ur.toNat 0).toNat ub).l (ux.getD (fe.getD ur.toNat 0).toNat ub).d true))) (by dsimp only [v8];have q:=uc h5;have z:=hJ4.1;omega) (by have z:=hJ4.1;exact ⟨by omega,by rw [jt];exact hJ4.2⟩) [] [17,18] [(ux.set (fe.getD ur.toNat 0).toNat (Mrk.mk (ux.getD (fe.getD ur.toNat 0).toNat ub).s (ux.getD (fe.getD ur.toNat 0).toNat ub).l (ux.getD (fe.getD ur.toNat 0).toNat ub).d true)).length=ux.length,∀ (i:Nat),i<(ux.set (fe.getD ur.toNat 0).toNat (Mrk.mk (ux.getD (fe.getD ur.toNat 0).toNat ub).s (ux.getD (fe.getD ur.toNat 0).toNat ub).l (ux.getD (fe.getD ur.toNat 0).toNat ub).d true)).length→((ux.set (fe.getD ur.toNat 0).toNat (Mrk.mk (ux.getD (fe.getD ur.toNat 0).toNat ub).s (ux.getD (fe.getD ur.toNat 0).toNat ub).l (ux.getD (fe.getD ur.toNat 0).toNat ub).d true)).getD i ub).tc=updT (fun i=>(ux.getD i ub).tc) (fe.getD ur.toNat 0).toNat 3 [jU true] i] W13 (vc:=[(0:Int)≤ur,ur<(↑fe.length:Int),ur.toNat<fe.length,(0:Int)≤fe.getD ur.toNat 0,fe.getD ur.toNat 0<(↑ux.length:Int),(fe.getD ur.toNat 0).toNat<ux.length,Fits ja (ur+(1:Int))]) (hv:=W4)
  ·exact Q3 [0,1,2,3,4,9,5,8] (res:=_) (post:=_) (hS:=⟨ux,hJ4.2,rfl,rfl⟩)
abbrev zbc (y0:Grf):Reg:=Reg.ro [C.v (jF y0.name),C.i .i64 y0.locals,C.i .i64 y0.slots,C.h 1,C.h 2]
def vu (g:Grf) (M:List Mrk):Lp (Int×List Int):=⟨fun x=>{ N:=24,fr:=[se 11 (C.i .i64 x.1),se 10 (C.i .i64 (↑M.length:Int)),se 9 (C.h 2),se 3 (C.h 3),zO],rg:=[zbc g,Reg.dead,rowOf 4 (·.tc) M]++[IntOwn x.2],wr:=[] },fun x=>0≤x.1∧x.1≤(M.length:Int)∧x.2.length≤x.1.toNat∧inR M.length x.2,fun x=>((M.length:Int)-x.1).toNat⟩
abbrev zbS (y0:Grf):Reg:=.ro [C.v (jF y0.name),C.i .i64 y0.locals,C.i .i64 y0.slots,C.h 1,C.h 2]
theorem Qjk (g:Grf) (M:List Mrk) (hM:M.length≤4096):Ctr Tryd.prog 65 [zbS g,.dead,Mrk.rowR M] [.c (.p 0 0)]
 (DetE (fun l:List Int=>l.length≤M.length∧inR M.length l) (fun _=>.c (.h 3)) (fun l=>[.dead,.dead,.dead,IntOwn l])):=by
 refine Ctr.intro [] Tryd.func65 K K ?_
 refine Q9 (vu g M) (((0:Int),[])) (⟨jA _,by omega,jm _,inR.nil _⟩) ?_ [0,1,2,1000003] [5] [(0:Nat)=0] W8
 rintro ⟨ue,uj⟩ hJ1
 dsimp only [vu] at hJ1
 refine tz [11,10,9,3,2] ?_
 refine Q0 (decide (ue<(↑M.length:Int))) (fun h2=>?_) (fun h2=>?_)
 ·refine tz [11,10,9,3,2] ?_
  refine Q0 ((M.getD ue.toNat ub).s) (fun h3=>?_) (fun h3=>?_) (vc:=[(0:Int)≤ue,ue<(↑M.length:Int),ue.toNat<M.length]) (hv:=W100)
  ·exact Q4 (vu g M) (ue,uj) ((ue+(1:Int),uj++[ue])) W192 W118 [0,1,2,6] [5,6,7] (zal uj ue) W8 (vc:=(zaN uj ue)) (hv:=W100)
  ·exact Q4 (vu g M) (ue,uj) ((ue+(1:Int),uj)) W192 W118 (vc:=(zD ue)) (hv:=W100)
 ·exact Q3 (res:=_) (post:=_) (hS:=⟨uj,(by have z:=hJ1.2.2.1;have z1:=hJ1.2.1;have z0:=hJ1.1;exact ⟨by omega,hJ1.2.2.2⟩),rfl,rfl⟩)
def v9 (g:Grf) (M:List Mrk) (td:List Int):Lp (List Bo×List Int):=⟨fun x=>{ N:=73,fr:=[se 5 (C.h 4),zaR,zb7,se 1 (C.h 5)],rg:=[zbc g,rowOf 13 (·.tc) g.nodes,rowOf 4 (·.tc) M,Reg.dead,Bo.ownR (x.1)]++[IntOwn x.2],wr:=[] },fun x=>SpO g.nodes.length (2 * g.nodes.length+4096) x.1 x.2,fun x=>(2 * falses x.1+x.2.length)⟩
def vd (g:Grf) (M:List Mrk) (ue:List Bo) (uj:List Int):Lp (Int×List Bo×List Int):=⟨fun x=>{ N:=73,fr:=[se 40 (C.i .i64 x.1),{ slot:=39,g:=[],sv:=SV.c (C.i .i64 (↑(flrL (g.nodes.getD (uj.getD ((↑uj.length:Int)-(1:Int)).toNat (0:Int)).toNat ub)).length:Int)) },se 38 (C.h 6),se 1 (C.h 7),se 5 (C.h 4),zaR,zb7],rg:=[zbc g,rowOf 13 (·.tc) g.nodes,rowOf 4 (·.tc) M,Reg.dead,Bo.ownR (x.2.1),Reg.dead,IntOwn (flrL (g.nodes.getD (uj.getD ((↑uj.length:Int)-(1:Int)).toNat (0:Int)).toNat ub)),IntOwn (x.2.2)],wr:=[] },fun x=>SpI g.nodes.length (2 * g.nodes.length+4096) (2 * falses ue+uj.length) (flrL (g.nodes.getD (uj.getD ((uj.length:Int)-(1:Int)).toNat (0:Int)).toNat ub)).length x.1 x.2.1 x.2.2,fun x=>(((flrL (g.nodes.getD (uj.getD ((uj.length:Int)-(1:Int)).toNat (0:Int)).toNat ub)).length:Int)-x.1).toNat⟩
theorem Qh8 (g:Grf) (hq:zJ g) (hN:1≤g.nodes.length∧g.nodes.length≤4096) (M:List Mrk) (hM:M.length=g.nodes.length) (td:List Int) (htd:inR g.nodes.length td) (hl:td.length≤4096):Ctr Tryd.prog 64 [zbS g,zav g,Mrk.rowR M,IntOwn td] [.c (.p 0 0),.c (.h 3)]
 (DetE (fun O:List Bo=>O.length=g.nodes.length) (fun _=>.c (.h 4)) (fun O=>[.dead,.dead,.dead,.dead,Bo.ownR O])):=by
 refine Ctr.intro [] Tryd.func64 K K ?_
 refine Q9 (v9 g M td) ((ji g.nodes.length (Bo.mk false),td)) (SpO.start htd (by show 2 * _+td.length≤_;omega)) ?_ [0,1,2,3,4,3] [7,8] [(ji g.nodes.length (Bo.mk false)).length=M.length,∀ (i:Nat),i<(ji g.nodes.length (Bo.mk false)).length→((ji g.nodes.length (Bo.mk false)).getD i ub).tc=fun j=>valT (jU false).cells.toList j] W33 (vc:=[(0:Int)≤(↑M.length:Int),(↑M.length:Int)≤(↑M.length:Int),(↑M.length:Int) * (1:Int)≤(140737488355328:Int),(↑M.length:Int)≤(↑maxLen:Int)]) (hv:=W29)
 rintro ⟨ue,uj⟩ hJ1
 dsimp only [v9] at hJ1
 refine tz [5,4,0,1] ?_
 refine Q0 (decide ((0:Int)<(↑uj.length:Int))) (fun h2=>?_) (fun h2=>?_)
 ·refine tz [5,4,0,1] ?_
  refine Q2 Q6l (Qey (g.nodes.getD (uj.getD ((↑uj.length:Int)-(1:Int)).toNat (0:Int)).toNat ub)) [] ?_ (vc:=[Fits ja ((↑uj.length:Int)-(1:Int)),(0:Int)≤(↑uj.length:Int)-(1:Int),(↑uj.length:Int)-(1:Int)<(↑uj.length:Int),((↑uj.length:Int)-(1:Int)).toNat<uj.length,Fits ja ((↑uj.length:Int)-(1:Int)),(0:Int)≤(0:Int),(0:Int)≤(↑uj.length:Int)-(1:Int),(↑uj.length:Int)-(1:Int)≤(↑uj.length:Int),(0:Int)<(↑uj.length:Int),(0:Int)≤uj.getD ((↑uj.length:Int)-(1:Int)).toNat (0:Int),uj.getD ((↑uj.length:Int)-(1:Int)).toNat (0:Int)<(↑g.nodes.length:Int),(uj.getD ((↑uj.length:Int)-(1:Int)).toNat (0:Int)).toNat<g.nodes.length]) (hv:=W29)
  refine tz [38,1,5,4,0] ?_
  refine RunF.hereL (vc:=[]) K trivial ?_
  refine RunF.trim 5 ((uj.length-1)) (ty:=3) (size:=1) (n:=uj.length) (f:=fun i=>i64T (uj.getD i 0)) (vc:=[((↑uj.length:Int)-(1:Int)).toNat-0=uj.length-1]) K K W160 K (by simp only [Conj]<;>(repeat' apply jn)<;>omega) ?_
  refine tz [40,39,38,1,5,4,0] ?_
  refine Q9 (vd g M ue uj) (((0:Int),ue,jS (uj.length-1) uj)) (hJ1.inner W160 _) ?_ [] [11,12] (zaY uj) W33
  rintro ⟨uh,um,uu⟩ hJ3
  dsimp only [vd] at hJ3
  refine tz [40,39,38,1,5,4,0] ?_
  refine Q0 (decide (uh<(↑(flrL (g.nodes.getD (uj.getD ((↑uj.length:Int)-(1:Int)).toNat (0:Int)).toNat ub)).length:Int))) (fun h4=>?_) (fun h4=>?_)
  ·refine tz [40,39,38,1,5,4,0] ?_
   refine Q0 (!(um.getD ((flrL (g.nodes.getD (uj.getD ((↑uj.length:Int)-(1:Int)).toNat (0:Int)).toNat ub)).getD uh.toNat 0).toNat ub).b&&!(M.getD ((flrL (g.nodes.getD (uj.getD ((↑uj.length:Int)-(1:Int)).toNat (0:Int)).toNat ub)).getD uh.toNat 0).toNat ub).f) (fun h5=>?_) (fun h5=>?_) (vc:=[(0:Int)≤uh,uh<(↑(flrL (g.nodes.getD (uj.getD ((↑uj.length:Int)-(1:Int)).toNat (0:Int)).toNat ub)).length:Int),uh.toNat<(flrL (g.nodes.getD (uj.getD ((↑uj.length:Int)-(1:Int)).toNat (0:Int)).toNat ub)).length,(0:Int)≤(flrL (g.nodes.getD (uj.getD ((↑uj.length:Int)-(1:Int)).toNat (0:Int)).toNat ub)).getD uh.toNat 0,(flrL (g.nodes.getD (uj.getD ((↑uj.length:Int)-(1:Int)).toNat (0:Int)).toNat ub)).getD uh.toNat 0<(↑M.length:Int),((flrL (g.nodes.getD (uj.getD ((↑uj.length:Int)-(1:Int)).toNat (0:Int)).toNat ub)).getD uh.toNat 0).toNat<M.length,(0:Int)≤(flrL (g.nodes.getD (uj.getD ((↑uj.length:Int)-(1:Int)).toNat (0:Int)).toNat ub)).getD uh.toNat 0,(flrL (g.nodes.getD (uj.getD ((↑uj.length:Int)-(1:Int)).toNat (0:Int)).toNat ub)).getD uh.toNat 0<(↑um.length:Int),((flrL (g.nodes.getD (uj.getD ((↑uj.length:Int)-(1:Int)).toNat (0:Int)).toNat ub)).getD uh.toNat 0).toNat<um.length]) (hv:=W29)
   ·refine tz [9,8,40,39,38,1,5,4,0] ?_
    refine Q0 (!(M.getD ((flrL (g.nodes.getD (uj.getD ((↑uj.length:Int)-(1:Int)).toNat (0:Int)).toNat ub)).getD uh.toNat 0).toNat ub).d) (fun h6=>?_) (fun h6=>?_) (vc:=[(0:Int)≤(flrL (g.nodes.getD (uj.getD ((↑uj.length:Int)-(1:Int)).toNat (0:Int)).toNat ub)).getD uh.toNat 0,(flrL (g.nodes.getD (uj.getD ((↑uj.length:Int)-(1:Int)).toNat (0:Int)).toNat ub)).getD uh.toNat 0<(↑um.length:Int),((flrL (g.nodes.getD (uj.getD ((↑uj.length:Int)-(1:Int)).toNat (0:Int)).toNat ub)).getD uh.toNat 0).toNat<um.length]) (hv:=W29)
    ·exact Q4 (vd g M ue uj) (uh,um,uu) ((uh+(1:Int),um.set ((flrL (g.nodes.getD (uj.getD ((↑uj.length:Int)-(1:Int)).toNat (0:Int)).toNat ub)).getD uh.toNat 0).toNat (Bo.mk true),uu++[(flrL (g.nodes.getD (uj.getD ((↑uj.length:Int)-(1:Int)).toNat (0:Int)).toNat ub)).getD uh.toNat 0])) W170 W99 [0,1,2,3,4,5,6,10] [7,8,11,12,13] [(um.set ((flrL (g.nodes.getD (uj.getD ((↑uj.length:Int)-(1:Int)).toNat (0:Int)).toNat ub)).getD uh.toNat 0).toNat (Bo.mk true)).length=um.length,∀ (i:Nat),i<(um.set ((flrL (g.nodes.getD (uj.getD ((↑uj.length:Int)-(1:Int)).toNat (0:Int)).toNat ub)).getD uh.toNat 0).toNat (Bo.mk true)).length→((um.set ((flrL (g.nodes.getD (uj.getD ((↑uj.length:Int)-(1:Int)).toNat (0:Int)).toNat ub)).getD uh.toNat 0).toNat (Bo.mk true)).getD i ub).tc=updT (fun i=>(um.getD i ub).tc) ((flrL (g.nodes.getD (uj.getD ((↑uj.length:Int)-(1:Int)).toNat (0:Int)).toNat ub)).getD uh.toNat 0).toNat 0 [jU true] i,(uu++[(flrL (g.nodes.getD (uj.getD ((↑uj.length:Int)-(1:Int)).toNat (0:Int)).toNat ub)).getD uh.toNat 0]).length=uu.length+1,∀ (i:Nat),i<(uu++[(flrL (g.nodes.getD (uj.getD ((↑uj.length:Int)-(1:Int)).toNat (0:Int)).toNat ub)).getD uh.toNat 0]).length→i≠uu.length→i64T ((uu++[(flrL (g.nodes.getD (uj.getD ((↑uj.length:Int)-(1:Int)).toNat (0:Int)).toNat ub)).getD uh.toNat 0]).getD i 0)=i64T (uu.getD i 0),i64T ((uu++[(flrL (g.nodes.getD (uj.getD ((↑uj.length:Int)-(1:Int)).toNat (0:Int)).toNat ub)).getD uh.toNat 0]).getD uu.length 0) 0=TC.val (jf ja ((flrL (g.nodes.getD (uj.getD ((↑uj.length:Int)-(1:Int)).toNat (0:Int)).toNat ub)).getD uh.toNat 0))] W33 (vc:=(zaN uu uh)) (hv:=W29)
    ·exact Q4 (vd g M ue uj) (uh,um,uu) ((uh+(1:Int),um.set ((flrL (g.nodes.getD (uj.getD ((↑uj.length:Int)-(1:Int)).toNat (0:Int)).toNat ub)).getD uh.toNat 0).toNat (Bo.mk true),uu)) W170 W99 [] [7,8] [(um.set ((flrL (g.nodes.getD (uj.getD ((↑uj.length:Int)-(1:Int)).toNat (0:Int)).toNat ub)).getD uh.toNat 0).toNat (Bo.mk true)).length=um.length,∀ (i:Nat),i<(um.set ((flrL (g.nodes.getD (uj.getD ((↑uj.length:Int)-(1:Int)).toNat (0:Int)).toNat ub)).getD uh.toNat 0).toNat (Bo.mk true)).length→((um.set ((flrL (g.nodes.getD (uj.getD ((↑uj.length:Int)-(1:Int)).toNat (0:Int)).toNat ub)).getD uh.toNat 0).toNat (Bo.mk true)).getD i ub).tc=updT (fun i=>(um.getD i ub).tc) ((flrL (g.nodes.getD (uj.getD ((↑uj.length:Int)-(1:Int)).toNat (0:Int)).toNat ub)).getD uh.toNat 0).toNat 0 [jU true] i] W33 (vc:=(zD uh)) (hv:=W29)
   ·exact Q4 (vd g M ue uj) (uh,um,uu) ((uh+(1:Int),um,uu)) W170 W99 (vc:=(zD uh)) (hv:=W29)
  ·exact Q4 (v9 g M td) (ue,uj) ((um,uu)) (by dsimp only [v9];exact hJ3.done.2) (hJ3.done.1) [0,1,2,3,4,7]
 ·exact Q3 (res:=_) (post:=_) (hS:=⟨ue,hJ1.len,rfl,rfl⟩)
theorem Qoh (X:Ext) (hX:TabX X) (sh lk:List Dcl) (gs:List Grf) (hs:zF sh) (hl:zF lk) (hg:zab gs) (hw:UnitW gs) (h0:(chkU sh lk gs).1=0) (t:Int) (ht:0≤t∧t<(gs.length:Int)) (fe:List Int) (hfb:fenB ((zcu gs t).nodes.length:Int) fe=true) (hfl:fe.length≤4294967296):Ctr Tryd.prog 39 [Dcl.rowR sh,Dcl.rowR lk,Grf.rowR gs,.froz X,IntRow fe] [zcz,zc6 t,.c (.h 4)]
 (DetE (fun O:List Bo=>O.length=(zcu gs t).nodes.length) (fun _=>.tup [(false,[.h 5]),zcE]) (fun O=>[.dead,.dead,.dead,.dead,.dead,Bo.ownR O])):=by
 refine Ctr.intro [] Tryd.func39 K K ?_
 refine Y3 2 (t.toNat) ?_ (vc:=(zbX t gs)) (hv:=W148)
 refine Q2 Q9i (Qjj sh lk gs W12 W12 W12 W12 W12 t) [] ?_
 refine tz [12,7,6,3,1,2] ?_
 refine Q0 (!decide ((if t<(0:Int)∨(↑gs.length:Int)≤t then (2:Int) else (0:Int))=(0:Int))) (fun h1=>?_) (fun h1=>?_)
 ·exact (show False from by rw [if_neg W31] at h1;simp at h1).elim
 ·refine tz [7,6,3,1,2] ?_
  refine Q2 Q2t (Qbt (zcu gs t) fe W12) [5,4] ?_ (vc:=(zaD t gs)) (hv:=W148)
  refine tz [22,7,6,3,1,2] ?_
  refine Q0 (!fenB (↑(zcu gs t).nodes.length:Int) fe) (fun h2=>?_) (fun h2=>?_)
  ·exact (show False from by rw [hfb] at h2;simp at h2).elim
  ·refine tz [7,6,3,1,2] ?_
   refine Ql Q3p (Qds X W12 sh lk gs W12 W12 W12 W12 W12 t W12 fe W12 W12) [] ?_
   rintro uh hY3
   try dsimp only at hY3
   refine tz [27,7,6] ?_
   refine Ql Q1h (Qjk (zcu gs t) uh W12) [7,8,9] ?_
   rintro ur hY4
   try dsimp only at hY4
   refine tz [30,28,7,6] ?_
   refine Ql Q1g (Qh8 (zcu gs t) W12 W12 uh W12 ur W12 W12) [7,8,9,10] ?_
   rintro uk hY5
   try dsimp only at hY5
   exact Q3 [0,1,2,3,4,11] (res:=_) (post:=_) (hS:=⟨uk,hY5,rfl,rfl⟩)
abbrev zcF:Value:=jg none 0 0
def vw (X:Ext) (sh:List Dcl) (lk:List Dcl) (gs:List Grf) (t:Int) (fe:List Int) (ue:List Bo) (uh:List Mrk):Lp (Int×List Int):=⟨fun x=>{ N:=49,fr:=[se 30 (C.i .i64 x.1),se 29 (C.i .i64 (↑uh.length:Int)),se 28 (C.h 9),se 10 (C.h 10),se 8 (C.h 6),se 7 (C.i .i64 0),se 6 (C.v (zcF))],rg:=[rowOf 3 (·.tc) sh,rowOf 3 (·.tc) lk,rowOf 4 (·.tc) gs,Reg.froz X,IntRow fe,zP,ownOf 4 1 (·.tc) ue,Reg.box 104 [C.v (jF (zcu gs t).name),C.i .i64 (zcu gs t).locals,C.i .i64 (zcu gs t).slots,C.h 8,C.h 9],zt gs t,ownOf 108 4 (·.tc) uh]++[IntOwn x.2],wr:=[] },fun x=>0≤x.1∧x.2.length≤x.1.toNat,fun x=>((uh.length:Int)-x.1).toNat⟩
theorem Qmi (X:Ext) (hX:TabX X) (sh lk:List Dcl) (gs:List Grf) (hs:zF sh) (hl:zF lk) (hg:zab gs) (hw:UnitW gs) (h0:(chkU sh lk gs).1=0) (t:Int) (ht:0≤t∧t<(gs.length:Int)) (fe:List Int) (hfb:fenB ((zcu gs t).nodes.length:Int) fe=true) (hfl:fe.length≤4294967296):Ctr Tryd.prog 21 [Dcl.rowR sh,Dcl.rowR lk,Grf.rowR gs,.froz X,IntRow fe] [zcz,zc6 t,.c (.h 4)]
 (DetE (fun l:List Int=>True) (fun _=>.tup [(false,[.h 5]),zcE]) (fun l=>[.dead,.dead,.dead,.dead,.dead,IntOwn l])):=by
 refine Ctr.intro [] Tryd.func21 K K ?_
 refine Ql Qam (Qoh X W12 sh lk gs W12 W12 W12 W12 W12 t W12 fe W12 W12) [] ?_
 rintro ue hY1
 try dsimp only at hY1
 refine tz [17,7,6,3,1] ?_
 refine Q0 (!decide ((0:Int)=(0:Int))) (fun h2=>?_) (fun h2=>?_)
 ·exact absurd h2 W80
 ·refine tz [8,7,6,3,1] ?_
  refine Ql Q3p (Qds X W12 sh lk gs W12 W12 W12 W12 W12 t W12 [] W12 W12) [0,1,2,3,1000004] ?_ [7] [(0:Nat)=0] W8
  rintro uh hY3
  try dsimp only at hY3
  refine tz [25,10,8,7,6] ?_
  refine Q9 (vw X sh lk gs t fe ue uh) (((0:Int),[])) (⟨jA _,jm _⟩) ?_ [0,1,2,3,4,5,6,7,8,9,1000010] [18] [(0:Nat)=0] W8
  rintro ⟨ur,ux⟩ hJ4
  dsimp only [vw] at hJ4
  refine tz [30,29,28,10,8,7,6] ?_
  refine Q0 (decide (ur<(↑uh.length:Int))) (fun h5=>?_) (fun h5=>?_)
  ·refine tz [30,29,28,10,8,7,6] ?_
   refine Q0 ((ue.getD ur.toNat ub).b&&(uh.getD ur.toNat ub).l) (fun h6=>?_) (fun h6=>?_) (vc:=[(0:Int)≤ur,ur<(↑uh.length:Int),ur.toNat<uh.length,(0:Int)≤ur,ur<(↑ue.length:Int),ur.toNat<ue.length]) (hv:=W89)
   ·exact Q4 (vw X sh lk gs t fe ue uh) (ur,ux) ((ur+(1:Int),ux++[ur])) W194 W128 [0,1,2,3,4,5,6,7,8,9,13] [18,19,20] (zal ux ur) W8 (vc:=(zaN ux ur)) (hv:=W89)
   ·exact Q4 (vw X sh lk gs t fe ue uh) (ur,ux) ((ur+(1:Int),ux)) W194 W128 (vc:=(zD ur)) (hv:=W89)
  ·exact Q3 [0,1,2,3,4,10] (res:=_) (post:=_) (hS:=⟨ux,trivial,rfl,rfl⟩)
def wa (X:Ext) (sh:List Dcl) (lk:List Dcl) (gs:List Grf) (fs:List Iln):Lp (Int×Int×Bool):=⟨fun x=>{ N:=64,fr:=[se 32 (C.i .i64 x.1),se 31 (C.i .i64 (↑fs.length:Int)),se 30 (C.h 4),se 5 (C.i .i64 x.2.1),se 4 (C.b x.2.2),se 2 (C.p 5 0),se 1 (C.h 4)],rg:=[rowOf 3 (·.tc) sh,rowOf 3 (·.tc) lk,rowOf 4 (·.tc) gs,Reg.froz X,rowOf 1 (·.tc) fs,zP],wr:=[] },fun x=>0≤x.1∧x.1≤(fs.length:Int)∧∀ k,k<x.1.toNat→fenB ((gs.getD k ub).nodes.length:Int) (fs.getD k ub).l=true,fun x=>((fs.length:Int)-x.1).toNat⟩
def wb (X:Ext) (sh:List Dcl) (lk:List Dcl) (gs:List Grf) (fs:List Iln) (um:Int) (uu:Bool):Lp (Int×Int×Bool):=⟨fun x=>{ N:=64,fr:=[se 48 (C.i .i64 x.1),se 47 (C.i .i64 (↑fs.length:Int)),se 46 (C.h 4),se 5 (C.i .i64 x.2.1),se 4 (C.b x.2.2),se 2 (C.p 5 0)],rg:=[rowOf 3 (·.tc) sh,rowOf 3 (·.tc) lk,rowOf 4 (·.tc) gs,Reg.froz X,rowOf 1 (·.tc) fs,zP],wr:=[] },fun x=>0≤x.1,fun x=>((fs.length:Int)-x.1).toNat⟩
abbrev zaC (y0:List Iln):Prop:=∀ j:Nat,(y0.getD j ub).l.length≤9223372036854775807
theorem Qoi (X:Ext) (hX:TabX X) (sh lk:List Dcl) (gs:List Grf) (hs:zF sh) (hl:zF lk) (hg:zab gs) (hw:UnitW gs) (fs:List Iln) (hfs:zaC fs):Ctr Tryd.prog 14 [Dcl.rowR sh,Dcl.rowR lk,Grf.rowR gs,.froz X,Iln.rowR fs] [zcz,.c (.h 4)]
 (DetE (fun y:Bool×Int=>y.2=safU sh lk gs fs) (fun y=>.tup [(false,[.b y.1]),(false,[.i .i64 y.2])]) (fun _=>[.dead,.dead,.dead,.dead,.dead])):=by
 refine Ctr.intro [] Tryd.func14 K K ?_
 refine Q2 J2 (Q2j sh lk gs W27 W27 W27 W27) [] ?_
 refine tz [17,5,4,2,1] ?_
 refine Q0 (!decide ((chkU sh lk gs).fst=(0:Int))) (fun h1=>?_) (fun h1=>?_)
 ·exact Q3 (res:=_) (post:=_) (hS:=⟨(false,(chkU sh lk gs).fst),W136,rfl,rfl⟩)
 ·refine tz [5,4,2,1] ?_
  refine Q0 (!decide ((↑fs.length:Int)=(↑gs.length:Int))) (fun h2=>?_) (fun h2=>?_)
  ·exact Q3 (res:=_) (post:=_) (hS:=⟨(false,(110:Int)),W136,rfl,rfl⟩)
  ·have hL:fs.length=gs.length:=by (simp only [kC,decide_eq_true_eq] at h2;omega)
   refine tz [5,4,2,1] ?_
   refine Q9 (wa X sh lk gs fs) (((0:Int),(0:Int),false)) (⟨jA _,by omega,fun k hk=>absurd hk W149⟩) ?_
   rintro ⟨uh,um,uu⟩ hJ3
   dsimp only [wa] at hJ3
   refine tz [32,31,30,5,4,2,1] ?_
   refine Q0 (decide (uh<(↑fs.length:Int))) (fun h4=>?_) (fun h4=>?_)
   ·refine Y3 4 (uh.toNat) ?_ (vc:=[uh.toNat<fs.length]) (hv:=W49)
    refine Y3 2 (uh.toNat) ?_ (vc:=(zbX uh gs)) (hv:=W49)
    refine tz [32,31,30,5,4,2,1] ?_
    refine Q2 Q2t (Qbt (zcu gs uh) ((fs.getD uh.toNat ub).l) W27) [7,6] ?_ (vc:=[(0:Int)≤uh,uh<(↑fs.length:Int),uh.toNat=uh.toNat,(0:Int)≤uh,uh<(↑gs.length:Int),uh.toNat=uh.toNat]) (hv:=W49)
    refine tz [43,32,31,30,5,4,2,1] ?_
    refine Q0 (!fenB (↑(zcu gs uh).nodes.length:Int) (fs.getD uh.toNat ub).l) (fun h5=>?_) (fun h5=>?_)
    ·exact Q3 (res:=_) (post:=_) (hS:=⟨(false,(110:Int)),W136,rfl,rfl⟩)
    ·exact Q4 (wa X sh lk gs fs) (uh,um,uu) ((uh+(1:Int),um,uu)) (by dsimp only [wa];have q:=uc h4;have z:=hJ3.1;omega) W171 (vc:=(zD uh)) (hv:=W49)
   ·have hF:∀ k,k<fs.length→fenB ((gs.getD k ub).nodes.length:Int) (fs.getD k ub).l=true:=fun k hk=>hJ3.2.2 k (by have q:=ud h4;omega)
    refine tz [32,31,30,5,4,2,1] ?_
    refine Q9 (wb X sh lk gs fs um uu) (((0:Int),um,uu)) (jA _) ?_
    rintro ⟨uk,uy,uB⟩ hJ5
    dsimp only [wb] at hJ5
    refine tz [48,47,46,5,4,2] ?_
    refine Q0 (decide (uk<(↑fs.length:Int))) (fun h6=>?_) (fun h6=>?_)
    ·refine Y3 4 (uk.toNat) ?_ (vc:=[uk.toNat<fs.length]) (hv:=W49)
     refine tz [48,47,46,5,4,2] ?_
     refine Ql Q9h (Qmi X W27 sh lk gs W27 W27 W27 W27 W27 uk W27 ((fs.getD uk.toNat ub).l) W27 W27) [0,1,2,3,6] ?_ (vc:=(zbq uk fs)) (hv:=W49)
     rintro uE hY7
     try dsimp only at hY7
     refine tz [57,48,47,46,5,4,2] ?_
     refine Q0 (decide ((0:Int)<(↑uE.length:Int))) (fun h8=>?_) (fun h8=>?_)
     ·exact Q3 (res:=_) (post:=_) (hS:=⟨(false,(0:Int)),W136,rfl,rfl⟩)
     ·exact Q4 (wb X sh lk gs fs um uu) (uk,uy,uB) ((uk+(1:Int),uy,uB)) (by dsimp only [wb];have q:=uc h6;have z:=hJ5;omega) (by have z:=hJ5;show 0≤uk+1;omega) (vc:=(zD uk)) (hv:=W49)
    ·exact Q3 (res:=_) (post:=_) (hS:=⟨(true,(0:Int)),W136,rfl,rfl⟩)
abbrev zbz (y0 y1:List Dcl) (y2:List Grf) (y3:Ext) (y4:List Iln) (y5:List Alc):List Reg:=[Dcl.rowR y0,Dcl.rowR y1,Grf.rowR y2,.froz y3,Iln.rowR y4,Alc.rowR y5]
theorem Qmj (X:Ext) (hX:TabX X) (sh lk:List Dcl) (gs:List Grf) (hs:zF sh) (hl:zF lk) (hg:zab gs) (hw:UnitW gs) (fs:List Iln) (hfs:zaC fs) (al:List Alc) (hp:za6 al) (bf:Int):Ctr Tryd.prog 11 (zbz sh lk gs X fs al) [zcz,.c (.h 4),.c (.h 5),zc6 bf]
 (Det (.c (.i .i64 (fauU sh lk gs fs al bf))) [.dead,.dead,.dead,.dead,.dead,.dead]):=by
 refine Ctr.intro [] Tryd.func11 K K ?_
 refine Ql Qaj (Qoi X W54 sh lk gs W54 W54 W54 W54 fs W54) [] ?_
 rintro ⟨ue,uj⟩ hY1
 try dsimp only at hY1
 refine tz [16,8,4,2,3] ?_
 refine Q0 (!decide (uj=(0:Int))) (fun h2=>?_) (fun h2=>?_)
 ·exact Q3 [] [0] [fauU sh lk gs fs al bf=uj] W104
 ·refine tz [8,4,2,3] ?_
  refine Q2 Qak (Qma sh lk gs al W54 W54 W54 W54 W54) [0,1,2,5] ?_
  refine tz [25,8,3] ?_
  refine Q0 (!decide ((rgtU sh lk gs al).snd=(0:Int))) (fun h3=>?_) (fun h3=>?_)
  ·exact Q3 [] [0] [fauU sh lk gs fs al bf=(rgtU sh lk gs al).snd] W104
  ·refine tz [11,8,3] ?_
   refine Q0 (!(rgtU sh lk gs al).fst) (fun h4=>?_) (fun h4=>?_)
   ·exact Q3 [] [0] [fauU sh lk gs fs al bf=(150:Int)] W104
   ·refine tz [8,3] ?_
    refine Q0 (decide (bf<(1:Int))||decide ((16:Int)<bf)) (fun h5=>?_) (fun h5=>?_)
    ·exact Q3 [] [0] [fauU sh lk gs fs al bf=(2:Int)] W104
    ·exact Q3 [] [0] [fauU sh lk gs fs al bf=(0:Int)] W104
abbrev zG (y0:Grf) (y1:Int) (y2:Gm):Reg:=Reg.box 73 [C.v (jF y0.name),C.i .i64 y0.locals,C.i .i64 y0.slots,C.h 1,C.h 2,C.i .i64 y1,C.h 3,C.i .i64 y2.shared,C.i .i64 y2.base,C.h 8,C.h 5,C.h 6,C.i .i64 y2.fr]
def wc (g:Grf) (gm:Gm) (ac:Int) (l:List Ins) (code:List Ins):Lp (Int×List Ins):=⟨fun x=>{ N:=28,fr:=[se 8 (C.i .i64 x.1),se 7 (C.i .i64 (↑l.length:Int)),se 6 (C.h 7),zb7],rg:=[zG g ac gm,Reg.dead,rowOf 2 (·.tc) gm.ps,Reg.dead,Reg.dead,Reg.dead,Reg.dead,rowOf 9 (·.tc) l]++[Ins.ownR x.2],wr:=[] },fun x=>0≤x.1∧x.1≤(l.length:Int)∧x.2=code++putL gm.fr (l.take x.1.toNat),fun x=>((l.length:Int)-x.1).toNat⟩
abbrev za0 (y0:Grf) (y1:Int) (y2:Gm):Reg:=Reg.box 73 [C.v (jF y0.name),C.i .i64 y0.locals,C.i .i64 y0.slots,C.h 1,C.h 2,C.i .i64 y1,C.h 3,C.i .i64 y2.shared,C.i .i64 y2.base,C.h 4,C.h 5,C.h 6,C.i .i64 y2.fr]
theorem Yy (g:Grf) (gm:Gm) (ac:Int) (l:List Ins) (code:List Ins) (hc:code.length≤1000000) (hl:l.length≤1000):Ctr Tryd.prog 18 [za0 g ac gm,.dead,Plc.rowR gm.ps,.dead,Ins.ownR code,.dead,.dead,Ins.rowR l] [.c (.p 0 0),.c (.h 7)]
 (Det (.tup []) [zG g ac gm,.dead,.dead,.dead,.dead,.dead,.dead,.dead,Ins.ownR (code++putL gm.fr l)]):=by
 refine Ctr.intro [] Tryd.func18 K K ?_
 refine Q9 (wc g gm ac l code) (((0:Int),code)) (⟨jA _,by omega,by show code=code++putL _ (l.take 0);simp [putL]⟩) ?_ [0,1,2,3,4,5,6,7,4]
 rintro ⟨ue,uj⟩ hJ1
 dsimp only [wc] at hJ1
 refine tz [8,7,6,0] ?_
 refine Q0 (decide (ue<(↑l.length:Int))) (fun h2=>?_) (fun h2=>?_)
 ·exact Q4 (wc g gm ac l code) (ue,uj) ((ue+(1:Int),uj++[Ins.mk (l.getD ue.toNat ub).kind (l.getD ue.toNat ub).op (l.getD ue.toNat ub).d (l.getD ue.toNat ub).a (l.getD ue.toNat ub).b (l.getD ue.toNat ub).addr (l.getD ue.toNat ub).to (l.getD ue.toNat ub).word gm.fr])) (by dsimp only [wc];have q:=uc h2;have z:=hJ1.1;omega) (by have q:=uc h2;have z:=hJ1.1;refine ⟨by omega,by omega,?_⟩;show _=code++putL gm.fr (l.take (ue+1).toNat);rw [Qge z q,← hJ1.2.2]) [0,1,2,3,4,5,6,7,11] [11,12,13,14,15,16,17,18,19,20,21] [(uj++[Ins.mk (l.getD ue.toNat ub).kind (l.getD ue.toNat ub).op (l.getD ue.toNat ub).d (l.getD ue.toNat ub).a (l.getD ue.toNat ub).b (l.getD ue.toNat ub).addr (l.getD ue.toNat ub).to (l.getD ue.toNat ub).word gm.fr]).length=uj.length+1,∀ (i:Nat),i<(uj++[Ins.mk (l.getD ue.toNat ub).kind (l.getD ue.toNat ub).op (l.getD ue.toNat ub).d (l.getD ue.toNat ub).a (l.getD ue.toNat ub).b (l.getD ue.toNat ub).addr (l.getD ue.toNat ub).to (l.getD ue.toNat ub).word gm.fr]).length→i≠uj.length→((uj++[Ins.mk (l.getD ue.toNat ub).kind (l.getD ue.toNat ub).op (l.getD ue.toNat ub).d (l.getD ue.toNat ub).a (l.getD ue.toNat ub).b (l.getD ue.toNat ub).addr (l.getD ue.toNat ub).to (l.getD ue.toNat ub).word gm.fr]).getD i ub).tc=(uj.getD i ub).tc,((uj++[Ins.mk (l.getD ue.toNat ub).kind (l.getD ue.toNat ub).op (l.getD ue.toNat ub).d (l.getD ue.toNat ub).a (l.getD ue.toNat ub).b (l.getD ue.toNat ub).addr (l.getD ue.toNat ub).to (l.getD ue.toNat ub).word gm.fr]).getD uj.length ub).tc 0=TC.val (jf jz (l.getD ue.toNat ub).kind),((uj++[Ins.mk (l.getD ue.toNat ub).kind (l.getD ue.toNat ub).op (l.getD ue.toNat ub).d (l.getD ue.toNat ub).a (l.getD ue.toNat ub).b (l.getD ue.toNat ub).addr (l.getD ue.toNat ub).to (l.getD ue.toNat ub).word gm.fr]).getD uj.length ub).tc 1=TC.val (jf jz (l.getD ue.toNat ub).op),((uj++[Ins.mk (l.getD ue.toNat ub).kind (l.getD ue.toNat ub).op (l.getD ue.toNat ub).d (l.getD ue.toNat ub).a (l.getD ue.toNat ub).b (l.getD ue.toNat ub).addr (l.getD ue.toNat ub).to (l.getD ue.toNat ub).word gm.fr]).getD uj.length ub).tc 2=TC.val (jf ja (l.getD ue.toNat ub).d),((uj++[Ins.mk (l.getD ue.toNat ub).kind (l.getD ue.toNat ub).op (l.getD ue.toNat ub).d (l.getD ue.toNat ub).a (l.getD ue.toNat ub).b (l.getD ue.toNat ub).addr (l.getD ue.toNat ub).to (l.getD ue.toNat ub).word gm.fr]).getD uj.length ub).tc 3=TC.val (jf ja (l.getD ue.toNat ub).a),((uj++[Ins.mk (l.getD ue.toNat ub).kind (l.getD ue.toNat ub).op (l.getD ue.toNat ub).d (l.getD ue.toNat ub).a (l.getD ue.toNat ub).b (l.getD ue.toNat ub).addr (l.getD ue.toNat ub).to (l.getD ue.toNat ub).word gm.fr]).getD uj.length ub).tc 4=TC.val (jf ja (l.getD ue.toNat ub).b),((uj++[Ins.mk (l.getD ue.toNat ub).kind (l.getD ue.toNat ub).op (l.getD ue.toNat ub).d (l.getD ue.toNat ub).a (l.getD ue.toNat ub).b (l.getD ue.toNat ub).addr (l.getD ue.toNat ub).to (l.getD ue.toNat ub).word gm.fr]).getD uj.length ub).tc 5=TC.val (jf ja (l.getD ue.toNat ub).addr),((uj++[Ins.mk (l.getD ue.toNat ub).kind (l.getD ue.toNat ub).op (l.getD ue.toNat ub).d (l.getD ue.toNat ub).a (l.getD ue.toNat ub).b (l.getD ue.toNat ub).addr (l.getD ue.toNat ub).to (l.getD ue.toNat ub).word gm.fr]).getD uj.length ub).tc 6=TC.val (jf ja (l.getD ue.toNat ub).to),((uj++[Ins.mk (l.getD ue.toNat ub).kind (l.getD ue.toNat ub).op (l.getD ue.toNat ub).d (l.getD ue.toNat ub).a (l.getD ue.toNat ub).b (l.getD ue.toNat ub).addr (l.getD ue.toNat ub).to (l.getD ue.toNat ub).word gm.fr]).getD uj.length ub).tc 7=TC.val (jf ja (l.getD ue.toNat ub).word),((uj++[Ins.mk (l.getD ue.toNat ub).kind (l.getD ue.toNat ub).op (l.getD ue.toNat ub).d (l.getD ue.toNat ub).a (l.getD ue.toNat ub).b (l.getD ue.toNat ub).addr (l.getD ue.toNat ub).to (l.getD ue.toNat ub).word gm.fr]).getD uj.length ub).tc 8=TC.val (jf ja gm.fr)] W8 (vc:=[(0:Int)≤ue,ue<(↑l.length:Int),ue.toNat<l.length,uj.length+1≤maxLen,(uj.length+1) * 64≤140737488355328,Fits ja (ue+(1:Int))]) (hv:=(by simp only [Conj,Fits,Q7,Q8,Qa,Qb,News.len,maxLen]<;>(repeat' (first | apply jn | intro _))<;>first | (have q:=uc h2;have z:=hJ1.1;have z3:=congrArg jW hJ1.2.2;simp only [jl,Q08,jJ] at z3;(try simp only [maxLen] at *);omega) | grind | (simp only [BL] at *;omega)))
 ·exact Yh [] [7,8] [(code++putL gm.fr l).length=uj.length,∀ (i:Nat),i<(code++putL gm.fr l).length→((code++putL gm.fr l).getD i ub).tc=(uj.getD i ub).tc] (by have q:=ud h2;have e:uj=code++putL gm.fr l:=(by rw [hJ1.2.2,show ue.toNat=l.length by (have z:=hJ1.2.1;have z0:=hJ1.1;omega),List.take_length]);subst e;simp only [Conj];(repeat' apply jn)<;>first | trivial | rfl | (intros;first | trivial | rfl))
abbrev za8 (y0:Grf) (y1:Int) (y2:Gm):Reg:=.ro [C.v (jF y0.name),C.i .i64 y0.locals,C.i .i64 y0.slots,C.h 1,C.h 2,C.i .i64 y1,C.h 3,C.i .i64 y2.shared,C.i .i64 y2.base,C.h 4,C.h 5,C.h 6,C.i .i64 y2.fr]
theorem Qdt (g:Grf) (gm:Gm) (ac:Int) (p:Plc) (hp:0≤p.n∧p.n≤4160) (hg:GmQ gm):Ctr Tryd.prog 75 [za8 g ac gm,.dead,Plc.rowR gm.ps,.dead,.dead,.dead,.dead] [.c (.p 0 0),.agg p.cs]
 (Det (.c (.i .i64 (gm.base+p.n))) [.dead,.dead,.dead,.dead,.dead,.dead,.dead]):=by
 refine Ctr.intro [] Tryd.func75 K K ?_
 exact Q3 (vc:=[Fits ja (gm.base+p.n)]) (hv:=(by simp only [Conj,Fits,Q7,Q8,Qa,Qb,News.len,maxLen]<;>(repeat' (first | apply jn | intro _))<;>first | rfl | omega | (have z:=hg.b0;have z1:=hg.s0;(try have z2:=hg.p0 (p.n).toNat (by omega));(try have z3:=hv (by first | assumption | exact gnf h1));(try have z2:=hg.p0 v.slot.toNat (by omega));(try simp only [maxLen] at *);omega) | (intros;have z:=hg.b0;have z1:=hg.s0;(try have z2:=hg.p0 (p.n).toNat (by omega));(try have z3:=hv (by first | assumption | exact gnf h1));(try have z2:=hg.p0 v.slot.toNat (by omega));(try simp only [maxLen] at *);omega) | grind | (simp only [BL] at *;omega)))
abbrev zda (y0:Gm) (y1:Int):Plc:=y0.ps.getD y1.toNat ub
theorem Qh9 (g:Grf) (gm:Gm) (ac:Int) (s:Int) (hs:0≤s∧s<(gm.ps.length:Int)) (hg:GmQ gm):Ctr Tryd.prog 50 [za8 g ac gm,.dead,Plc.rowR gm.ps,.dead,.dead,.dead,.dead] [.c (.p 0 0),zc6 s]
 (Det (.c (.i .i64 (gGoal gm s))) [.dead,.dead,.dead,.dead,.dead,.dead,.dead]):=by
 refine Ctr.intro [] Tryd.func50 K K ?_
 refine Q0 (!(zda gm s).cell) (fun h1=>?_) (fun h1=>?_) (vc:=[(0:Int)≤s,s<(↑gm.ps.length:Int),s.toNat<gm.ps.length]) (hv:=W77)
 ·rw [Qlh (gnt h1)]
  exact Q3 [] [0] [(gm.pl s).n=(zda gm s).n] W73
 ·rw [Qlg (gnf h1)]
  exact Q3
abbrev zr (y0:Grf) (y1:Int) (y2:Gm) (y3:List Ins):List Reg:=[za0 y0 y1 y2,.dead,Plc.rowR y2.ps,.dead,Ins.ownR y3,.dead,.dead]
abbrev zB (y0:Grf) (y1:Int) (y2:Gm):Reg:=Reg.box 73 [C.v (jF y0.name),C.i .i64 y0.locals,C.i .i64 y0.slots,C.h 1,C.h 2,C.i .i64 y1,C.h 3,C.i .i64 y2.shared,C.i .i64 y2.base,C.h 7,C.h 5,C.h 6,C.i .i64 y2.fr]
abbrev zci:Value:=jf ja (0:Int)
abbrev zck (y0:Gm) (y1:Int):Ins:=Ins.mk (4:Int) (0:Int) (0:Int) (15:Int) (0:Int) (y0.base+(zda y0 y1).n) (0:Int) (0:Int) (0:Int)
abbrev zcx:Value:=jf jz (0:Int)
abbrev zc2:Value:=jf ja (15:Int)
abbrev zc4:List Nat:=[11,12,13,14,15,16,17,18,19,20,21]
abbrev zc8 (y0:Gm) (y1:Int):List Ins:=putL y0.fr [Ins.mk (4:Int) (0:Int) (0:Int) (15:Int) (0:Int) (y0.base+(y0.pl y1).n) (0:Int) (0:Int) (0:Int)]
abbrev zcT:List Nat:=[0,1,2,3,4,5,6,8]
abbrev zdc:List Nat:=[0,1,2,3,4,5,6,9]
theorem Q3z (g:Grf) (gm:Gm) (ac:Int) (s:Int) (hs:0≤s∧s<(gm.ps.length:Int)) (hg:GmQ gm) (code:List Ins) (hc:code.length≤1000000):Ctr Tryd.prog 52 (zr g ac gm code) [.c (.p 0 0),zc6 s]
 (Det (.tup []) [zB g ac gm,.dead,.dead,.dead,.dead,.dead,.dead,Ins.ownR (code++gKeep gm s)]):=by
 refine Ctr.intro [] Tryd.func52 K K ?_
 refine Q0 ((zda gm s).cell) (fun h1=>?_) (fun h1=>?_) (vc:=[(0:Int)≤s,s<(↑gm.ps.length:Int),s.toNat<gm.ps.length]) (hv:=W77)
 ·rw [Qli h1]
  refine tz [4,0] ?_
  refine Q2 Ji (Qdt g gm ac (zda gm s) W141 W141) [] ?_
  refine tz [18,15] ?_
  refine Q2 Qf (Yy g gm ac [zck gm s] code W141 W141) zcT ?_ zc4 [[zck gm s].length=1,∀ (i:Nat),i < [zck gm s].length→i≠0→([zck gm s].getD i ub).tc=fun x=>TC.any,(zck gm s).tc 0=TC.val (jf jz (4:Int)),(zck gm s).tc 1=TC.val (zcx),(zck gm s).tc 2=TC.val (zci),(zck gm s).tc 3=TC.val (zc2),(zck gm s).tc 4=TC.val (zci),(zck gm s).tc 5=TC.val (jf ja (gm.base+(zda gm s).n)),(zck gm s).tc 6=TC.val (zci),(zck gm s).tc 7=TC.val (zci),(zck gm s).tc 8=TC.val (zci)] W42
  exact Yh zdc [7,8] [(code++zc8 gm s).length=(code++putL gm.fr [zck gm s]).length,∀ (i:Nat),i<(code++zc8 gm s).length→((code++zc8 gm s).getD i ub).tc=((code++putL gm.fr [zck gm s]).getD i ub).tc] W73
 ·rw [Qlj h1]
  exact Yh [0,1,2,3,4,5,6,4] [7,8] [(code++[]).length=code.length,∀ (i:Nat),i<(code++[]).length→((code++[]).getD i ub).tc=(code.getD i ub).tc] W73
abbrev zcI (y0:Gm) (y1:Vl):Plc:=y0.ps.getD y1.slot.toNat ub
abbrev zcn (y0:Int) (y1:Gm) (y2:Vl):Ins:=Ins.mk (3:Int) (0:Int) y0 (0:Int) (0:Int) (y1.base+(zcI y1 y2).n) (0:Int) (0:Int) (0:Int)
abbrev zct (y0:Int) (y1:Vl):Ins:=Ins.mk (1:Int) (0:Int) y0 (0:Int) (0:Int) (0:Int) (0:Int) y1.word (0:Int)
abbrev zdl:Value:=jf jz (1:Int)
abbrev zdm:Value:=jf jz (3:Int)
theorem Za (g:Grf) (gm:Gm) (ac:Int) (v:Vl) (r:Int) (hv:v.slotted=true→0≤v.slot∧v.slot<(gm.ps.length:Int)) (hg:GmQ gm) (code:List Ins) (hc:code.length≤1000000):Ctr Tryd.prog 53 (zr g ac gm code) [.c (.p 0 0),.agg v.cs,zc6 r]
 (Det (.c (.i .i64 (gReg gm v r))) [zB g ac gm,.dead,.dead,.dead,.dead,.dead,.dead,Ins.ownR (code++gFetch gm v r)]):=by
 refine Ctr.intro [] Tryd.func53 K K ?_
 refine Q0 (!v.slotted) (fun h1=>?_) (fun h1=>?_)
 ·refine tz [6,4,0,2] ?_
  refine Q2 Qf (Yy g gm ac [zct r v] code W94 W94) zcT ?_ zc4 [[zct r v].length=1,∀ (i:Nat),i < [zct r v].length→i≠0→([zct r v].getD i ub).tc=fun x=>TC.any,(zct r v).tc 0=TC.val (zdl),(zct r v).tc 1=TC.val (zcx),(zct r v).tc 2=zcH r,(zct r v).tc 3=TC.val (zci),(zct r v).tc 4=TC.val (zci),(zct r v).tc 5=TC.val (zci),(zct r v).tc 6=TC.val (zci),(zct r v).tc 7=TC.val (jf ja v.word),(zct r v).tc 8=TC.val (zci)] W42
  exact Q3 zdc [7,8,9] [(code++gFetch gm v r).length=(code++putL gm.fr [zct r v]).length,∀ (i:Nat),i<(code++gFetch gm v r).length→((code++gFetch gm v r).getD i ub).tc=((code++putL gm.fr [zct r v]).getD i ub).tc,gReg gm v r=r] W78
 ·refine tz [6,4,0,2] ?_
  refine Q0 (!(zcI gm v).cell) (fun h2=>?_) (fun h2=>?_) (vc:=[(0:Int)≤v.slot,v.slot<(↑gm.ps.length:Int),v.slot.toNat<gm.ps.length]) (hv:=W75)
  ·exact Q3 [0,1,2,3,4,5,6,4] [7,8,9] [(code++gFetch gm v r).length=code.length,∀ (i:Nat),i<(code++gFetch gm v r).length→((code++gFetch gm v r).getD i ub).tc=(code.getD i ub).tc,gReg gm v r=(zcI gm v).n] W78
  ·refine tz [7,6,0,2] ?_
   refine Q2 Ji (Qdt g gm ac (zcI gm v) W94 W94) [] ?_
   refine tz [37,34,33,6,2] ?_
   refine Q2 Qf (Yy g gm ac [zcn r gm v] code W94 W94) zdc ?_ zc4 [[zcn r gm v].length=1,∀ (i:Nat),i < [zcn r gm v].length→i≠0→([zcn r gm v].getD i ub).tc=fun x=>TC.any,(zcn r gm v).tc 0=TC.val (zdm),(zcn r gm v).tc 1=TC.val (zcx),(zcn r gm v).tc 2=zcH r,(zcn r gm v).tc 3=TC.val (zci),(zcn r gm v).tc 4=TC.val (zci),(zcn r gm v).tc 5=TC.val (jf ja (gm.base+(zcI gm v).n)),(zcn r gm v).tc 6=TC.val (zci),(zcn r gm v).tc 7=TC.val (zci),(zcn r gm v).tc 8=TC.val (zci)] W42
   exact Q3 [0,1,2,3,4,5,6,10] [7,8,9] [(code++gFetch gm v r).length=(code++putL gm.fr [zcn r gm v]).length,∀ (i:Nat),i<(code++gFetch gm v r).length→((code++gFetch gm v r).getD i ub).tc=((code++putL gm.fr [zcn r gm v]).getD i ub).tc,gReg gm v r=r] W78
abbrev zcr (y0:Int) (y1:Gm) (y2:Vl):Ins:=Ins.mk (2:Int) (7:Int) y0 (gReg y1 y2 y0) (gReg y1 y2 y0) (0:Int) (0:Int) (0:Int) (0:Int)
abbrev zdn:Value:=jf jz (2:Int)
abbrev zdo:Value:=jf jz (7:Int)
theorem Qha (g:Grf) (gm:Gm) (ac:Int) (v:Vl) (r:Int) (hv:v.slotted=true→0≤v.slot∧v.slot<(gm.ps.length:Int)) (hg:GmQ gm) (code:List Ins) (hc:code.length≤500000):Ctr Tryd.prog 51 (zr g ac gm code) [.c (.p 0 0),.agg v.cs,zc6 r]
 (Det (.tup []) [zB g ac gm,.dead,.dead,.dead,.dead,.dead,.dead,Ins.ownR (code++gMove gm v r)]):=by
 refine Ctr.intro [] Tryd.func51 K K ?_
 refine Q2 Qp (Za g gm ac v r W105 W105 code W105) [] ?_
 refine tz [10,4,0,2] ?_
 refine Q0 (v.slotted&&!(zcI gm v).cell) (fun h1=>?_) (fun h1=>?_) (vc:=[v.slotted=true→(0:Int)≤v.slot,v.slotted=true→v.slot<(↑gm.ps.length:Int),v.slotted=true→v.slot.toNat<gm.ps.length]) (hv:=W75)
 ·refine tz [6,0,2] ?_
  refine Q2 Qf (Yy g gm ac [zcr r gm v] (code++gFetch gm v r) W105 W105) [0,1,2,3,8,5,6,9] ?_ zc4 [[zcr r gm v].length=1,∀ (i:Nat),i < [zcr r gm v].length→i≠0→([zcr r gm v].getD i ub).tc=fun x=>TC.any,(zcr r gm v).tc 0=TC.val (zdn),(zcr r gm v).tc 1=TC.val (zdo),(zcr r gm v).tc 2=zcH r,(zcr r gm v).tc 3=TC.val (jf ja (gReg gm v r)),(zcr r gm v).tc 4=TC.val (jf ja (gReg gm v r)),(zcr r gm v).tc 5=TC.val (zci),(zcr r gm v).tc 6=TC.val (zci),(zcr r gm v).tc 7=TC.val (zci),(zcr r gm v).tc 8=TC.val (zci)] W42
  exact Yh [0,1,2,3,4,5,6,10] [7,8] [(code++gMove gm v r).length=(code++gFetch gm v r++putL gm.fr [zcr r gm v]).length,∀ (i:Nat),i<(code++gMove gm v r).length→((code++gMove gm v r).getD i ub).tc=((code++gFetch gm v r++putL gm.fr [zcr r gm v]).getD i ub).tc] W87
 ·exact Yh zcT [7,8] [(code++gMove gm v r).length=(code++gFetch gm v r).length,∀ (i:Nat),i<(code++gMove gm v r).length→((code++gMove gm v r).getD i ub).tc=((code++gFetch gm v r).getD i ub).tc] W87
abbrev zw (y0:Nod):Reg:=Reg.box 64 [C.i .u8 y0.kind,C.i .u8 y0.op,C.i .i64 y0.slot,C.i .i64 y0.thing,C.b y0.a.slotted,C.i .i64 y0.a.slot,C.i .i64 y0.a.word,C.b y0.b.slotted,C.i .i64 y0.b.slot,C.i .i64 y0.b.word,C.i .i64 y0.next,C.i .i64 y0.els,C.i .i64 y0.origin]
abbrev zH (y0:Nod) (y1:Gm):Reg:=Reg.box 44 [C.i .u8 2,C.i .u8 y0.op,C.i .i64 (gGoal y1 y0.slot),C.i .i64 (gReg y1 y0.a (13:Int)),C.i .i64 0,C.i .i64 0,C.i .i64 0,C.i .i64 0,C.i .i64 0]
abbrev za2 (y0:Grf) (y1:Int) (y2:Gm):Reg:=Reg.box 73 [C.v (jF y0.name),C.i .i64 y0.locals,C.i .i64 y0.slots,C.h 1,C.h 2,C.i .i64 y1,C.h 3,C.i .i64 y2.shared,C.i .i64 y2.base,C.h 9,C.h 5,C.h 6,C.i .i64 y2.fr]
abbrev zaB:List En:=[se 5 (C.p 9 0),se 3 (C.p 7 0),zb7]
abbrev zcg:List En:=[se 5 (C.p 8 0),se 3 (C.p 7 0),zb7]
theorem Qoj (g:Grf) (gm:Gm) (ac:Int) (n:Nod) (hn:NdQ gm n) (hg:GmQ gm) (code:List Ins) (hc:code.length≤100000) (hk:n.kind=1):Ctr Tryd.prog 26 (zr g ac gm code) [.c (.p 0 0),.agg n.cs]
 (Det (.tup []) [zB g ac gm,.dead,.dead,.dead,.dead,.dead,.dead,Ins.ownR (code++gSetN gm n)]):=by
 refine Ctr.intro [] Tryd.func26 K K ?_
 refine Q2 Jg (Qh9 g gm ac n.slot W2 W2) [] ?_
 refine tz [9,3,0] ?_
 refine Q0 (decide (n.op=(0:Int))) (fun h1=>?_) (fun h1=>?_)
 ·refine tz [4,3,0] ?_
  refine Q2 Jh (Qha g gm ac n.a (gGoal gm n.slot) W2 W2 code W2) [] ?_
  refine tz [4,3,0] ?_
  refine Q2 Yg (Q3z g gm ac n.slot W2 W2 (code++gMove gm n.a (gGoal gm n.slot)) W2) [0,1,2,3,8,5,6] ?_
  exact Q3 [0,1,2,3,4,5,6,9] [7,8] [(code++gSetN gm n).length=(code++gMove gm n.a (gGoal gm n.slot)++gKeep gm n.slot).length,∀ (i:Nat),i<(code++gSetN gm n).length→((code++gSetN gm n).getD i ub).tc=((code++gMove gm n.a (gGoal gm n.slot)++gKeep gm n.slot).getD i ub).tc] W93
 ·refine tz [4,3,0] ?_
  refine Q04 3 (fun _:Unit=>St.mk 46 zaB [zG g ac gm,Reg.dead,rowOf 2 (·.tc) gm.ps,Reg.dead,Reg.dead,Reg.dead,Reg.dead,zw n,ownOf 44 9 (·.tc) (code++gFetch gm n.a (13:Int)),zH n gm] []) (fun _=>True) ?_ ?_
  ·refine ⟨⟨⟨trivial,?_⟩,?_⟩,?_⟩
   ·refine Q04 2 (fun _:Unit=>St.mk 46 zaB [zG g ac gm,Reg.dead,rowOf 2 (·.tc) gm.ps,Reg.dead,Reg.dead,Reg.dead,Reg.dead,zw n,ownOf 44 9 (·.tc) (code++gFetch gm n.a (13:Int)),zH n gm] []) (fun _=>True) ?_ ?_
    ·refine ⟨⟨trivial,?_⟩,?_⟩
     ·refine Q2 Qp (Za g gm ac n.a 13 W2 W2 code W2) [] ?_
      exact tTo (fun x=>St.mk 46 zaB [zG g ac gm,Reg.dead,rowOf 2 (·.tc) gm.ps,Reg.dead,Reg.dead,Reg.dead,Reg.dead,zw n,ownOf 44 9 (·.tc) (code++gFetch gm n.a (13:Int)),zH n gm] []) (fun x=>True) () trivial
     ·refine Q2 Qp (Za g gm ac n.a 13 W2 W2 code W2) [] ?_
      exact tTo (fun x=>St.mk 46 zaB [zG g ac gm,Reg.dead,rowOf 2 (·.tc) gm.ps,Reg.dead,Reg.dead,Reg.dead,Reg.dead,zw n,ownOf 44 9 (·.tc) (code++gFetch gm n.a (13:Int)),zH n gm] []) (fun x=>True) () trivial [0,1,2,3,4,5,6,7,9,8]
    ·rintro ⟨⟩ _
     exact tTo (fun x=>St.mk 46 zaB [zG g ac gm,Reg.dead,rowOf 2 (·.tc) gm.ps,Reg.dead,Reg.dead,Reg.dead,Reg.dead,zw n,ownOf 44 9 (·.tc) (code++gFetch gm n.a (13:Int)),zH n gm] []) (fun x=>True) () trivial
   ·refine Q2 Qp (Za g gm ac n.a 13 W2 W2 code W2) [] ?_
    exact tTo (fun x=>St.mk 46 zaB [zG g ac gm,Reg.dead,rowOf 2 (·.tc) gm.ps,Reg.dead,Reg.dead,Reg.dead,Reg.dead,zw n,ownOf 44 9 (·.tc) (code++gFetch gm n.a (13:Int)),zH n gm] []) (fun x=>True) () trivial
   ·refine Q04 2 (fun _:Unit=>St.mk 46 zcg [za2 g ac gm,Reg.dead,rowOf 2 (·.tc) gm.ps,Reg.dead,Reg.dead,Reg.dead,Reg.dead,zw n,zH n gm,ownOf 44 9 (·.tc) (code++gFetch gm n.a (13:Int))] []) (fun _=>True) ?_ ?_
    ·refine ⟨⟨trivial,?_⟩,?_⟩
     ·refine Q2 Qp (Za g gm ac n.a 13 W2 W2 code W2) [] ?_
      exact tTo (fun x=>St.mk 46 zcg [za2 g ac gm,Reg.dead,rowOf 2 (·.tc) gm.ps,Reg.dead,Reg.dead,Reg.dead,Reg.dead,zw n,zH n gm,ownOf 44 9 (·.tc) (code++gFetch gm n.a (13:Int))] []) (fun x=>True) () trivial
     ·refine Q2 Qp (Za g gm ac n.a 13 W2 W2 code W2) [] ?_
      exact tTo (fun x=>St.mk 46 zcg [za2 g ac gm,Reg.dead,rowOf 2 (·.tc) gm.ps,Reg.dead,Reg.dead,Reg.dead,Reg.dead,zw n,zH n gm,ownOf 44 9 (·.tc) (code++gFetch gm n.a (13:Int))] []) (fun x=>True) () trivial
    ·rintro ⟨⟩ _
     exact tTo (fun x=>St.mk 46 zaB [zG g ac gm,Reg.dead,rowOf 2 (·.tc) gm.ps,Reg.dead,Reg.dead,Reg.dead,Reg.dead,zw n,ownOf 44 9 (·.tc) (code++gFetch gm n.a (13:Int)),zH n gm] []) (fun x=>True) () trivial [0,1,2,3,4,5,6,7,9,8]
  ·rintro ⟨⟩ _
   refine tz [5,3,0] ?_
   refine Q2 Y7 (Gl n.op) [] ?_
   refine tz [32,5,3,0] ?_
   refine Q0 (twoB n.op) (fun h2=>?_) (fun h2=>?_)
   ·refine tz [5,3,0] ?_
    refine Q2 Qp (Za g gm ac n.b 14 W2 W2 (code++gFetch gm n.a (13:Int)) W2) [0,1,2,3,8,5,6] ?_
    refine tz [36,5,3,0] ?_
    refine Q2 Qf (Yy g gm ac [Ins.mk (2:Int) n.op (gGoal gm n.slot) (gReg gm n.a (13:Int)) (gReg gm n.b (14:Int)) (0:Int) (0:Int) (0:Int) (0:Int)] (code++gFetch gm n.a (13:Int)++gFetch gm n.b (14:Int)) W2 W2) [0,1,2,3,10,5,6,11] ?_ [11,12,13,14,15,16,17,18,19,20,21] [[Ins.mk (2:Int) n.op (gGoal gm n.slot) (gReg gm n.a (13:Int)) (gReg gm n.b (14:Int)) (0:Int) (0:Int) (0:Int) (0:Int)].length=1,∀ (i:Nat),i < [Ins.mk (2:Int) n.op (gGoal gm n.slot) (gReg gm n.a (13:Int)) (gReg gm n.b (14:Int)) (0:Int) (0:Int) (0:Int) (0:Int)].length→i≠0→([Ins.mk (2:Int) n.op (gGoal gm n.slot) (gReg gm n.a (13:Int)) (gReg gm n.b (14:Int)) (0:Int) (0:Int) (0:Int) (0:Int)].getD i ub).tc=fun x=>TC.any,(Ins.mk (2:Int) n.op (gGoal gm n.slot) (gReg gm n.a (13:Int)) (gReg gm n.b (14:Int)) (0:Int) (0:Int) (0:Int) (0:Int)).tc 0=TC.val (jf jz (2:Int)),(Ins.mk (2:Int) n.op (gGoal gm n.slot) (gReg gm n.a (13:Int)) (gReg gm n.b (14:Int)) (0:Int) (0:Int) (0:Int) (0:Int)).tc 1=TC.val (jf jz n.op),(Ins.mk (2:Int) n.op (gGoal gm n.slot) (gReg gm n.a (13:Int)) (gReg gm n.b (14:Int)) (0:Int) (0:Int) (0:Int) (0:Int)).tc 2=TC.val (jf ja (gGoal gm n.slot)),(Ins.mk (2:Int) n.op (gGoal gm n.slot) (gReg gm n.a (13:Int)) (gReg gm n.b (14:Int)) (0:Int) (0:Int) (0:Int) (0:Int)).tc 3=TC.val (jf ja (gReg gm n.a (13:Int))),(Ins.mk (2:Int) n.op (gGoal gm n.slot) (gReg gm n.a (13:Int)) (gReg gm n.b (14:Int)) (0:Int) (0:Int) (0:Int) (0:Int)).tc 4=TC.val (jf ja (gReg gm n.b (14:Int))),(Ins.mk (2:Int) n.op (gGoal gm n.slot) (gReg gm n.a (13:Int)) (gReg gm n.b (14:Int)) (0:Int) (0:Int) (0:Int) (0:Int)).tc 5=TC.val (jf ja (0:Int)),(Ins.mk (2:Int) n.op (gGoal gm n.slot) (gReg gm n.a (13:Int)) (gReg gm n.b (14:Int)) (0:Int) (0:Int) (0:Int) (0:Int)).tc 6=TC.val (jf ja (0:Int)),(Ins.mk (2:Int) n.op (gGoal gm n.slot) (gReg gm n.a (13:Int)) (gReg gm n.b (14:Int)) (0:Int) (0:Int) (0:Int) (0:Int)).tc 7=TC.val (jf ja (0:Int)),(Ins.mk (2:Int) n.op (gGoal gm n.slot) (gReg gm n.a (13:Int)) (gReg gm n.b (14:Int)) (0:Int) (0:Int) (0:Int) (0:Int)).tc 8=TC.val (jf ja (0:Int))] W24
    refine tz [3,0] ?_
    refine Q2 Yg (Q3z g gm ac n.slot W2 W2 (code++gFetch gm n.a (13:Int)++gFetch gm n.b (14:Int)++putL gm.fr [Ins.mk (2:Int) n.op (gGoal gm n.slot) (gReg gm n.a (13:Int)) (gReg gm n.b (14:Int)) (0:Int) (0:Int) (0:Int) (0:Int)]) W2) [0,1,2,3,12,5,6] ?_
    exact Yh [0,1,2,3,4,5,6,13] [7,8] [(code++gSetN gm n).length=(code++gFetch gm n.a (13:Int)++gFetch gm n.b (14:Int)++putL gm.fr [Ins.mk (2:Int) n.op (gGoal gm n.slot) (gReg gm n.a (13:Int)) (gReg gm n.b (14:Int)) (0:Int) (0:Int) (0:Int) (0:Int)]++gKeep gm n.slot).length,∀ (i:Nat),i<(code++gSetN gm n).length→((code++gSetN gm n).getD i ub).tc=((code++gFetch gm n.a (13:Int)++gFetch gm n.b (14:Int)++putL gm.fr [Ins.mk (2:Int) n.op (gGoal gm n.slot) (gReg gm n.a (13:Int)) (gReg gm n.b (14:Int)) (0:Int) (0:Int) (0:Int) (0:Int)]++gKeep gm n.slot).getD i ub).tc] W93
   ·refine tz [5,3,0] ?_
    refine Q2 Qf (Yy g gm ac [Ins.mk (2:Int) n.op (gGoal gm n.slot) (gReg gm n.a (13:Int)) (0:Int) (0:Int) (0:Int) (0:Int) (0:Int)] (code++gFetch gm n.a (13:Int)) W2 W2) [0,1,2,3,8,5,6,10] ?_ [11,12,13,14,15,16,17,18,19,20,21] [[Ins.mk (2:Int) n.op (gGoal gm n.slot) (gReg gm n.a (13:Int)) (0:Int) (0:Int) (0:Int) (0:Int) (0:Int)].length=1,∀ (i:Nat),i < [Ins.mk (2:Int) n.op (gGoal gm n.slot) (gReg gm n.a (13:Int)) (0:Int) (0:Int) (0:Int) (0:Int) (0:Int)].length→i≠0→([Ins.mk (2:Int) n.op (gGoal gm n.slot) (gReg gm n.a (13:Int)) (0:Int) (0:Int) (0:Int) (0:Int) (0:Int)].getD i ub).tc=fun x=>TC.any,(Ins.mk (2:Int) n.op (gGoal gm n.slot) (gReg gm n.a (13:Int)) (0:Int) (0:Int) (0:Int) (0:Int) (0:Int)).tc 0=TC.val (jf jz (2:Int)),(Ins.mk (2:Int) n.op (gGoal gm n.slot) (gReg gm n.a (13:Int)) (0:Int) (0:Int) (0:Int) (0:Int) (0:Int)).tc 1=TC.val (jf jz n.op),(Ins.mk (2:Int) n.op (gGoal gm n.slot) (gReg gm n.a (13:Int)) (0:Int) (0:Int) (0:Int) (0:Int) (0:Int)).tc 2=TC.val (jf ja (gGoal gm n.slot)),(Ins.mk (2:Int) n.op (gGoal gm n.slot) (gReg gm n.a (13:Int)) (0:Int) (0:Int) (0:Int) (0:Int) (0:Int)).tc 3=TC.val (jf ja (gReg gm n.a (13:Int))),(Ins.mk (2:Int) n.op (gGoal gm n.slot) (gReg gm n.a (13:Int)) (0:Int) (0:Int) (0:Int) (0:Int) (0:Int)).tc 4=TC.val (jf ja (0:Int)),(Ins.mk (2:Int) n.op (gGoal gm n.slot) (gReg gm n.a (13:Int)) (0:Int) (0:Int) (0:Int) (0:Int) (0:Int)).tc 5=TC.val (jf ja (0:Int)),(Ins.mk (2:Int) n.op (gGoal gm n.slot) (gReg gm n.a (13:Int)) (0:Int) (0:Int) (0:Int) (0:Int) (0:Int)).tc 6=TC.val (jf ja (0:Int)),(Ins.mk (2:Int) n.op (gGoal gm n.slot) (gReg gm n.a (13:Int)) (0:Int) (0:Int) (0:Int) (0:Int) (0:Int)).tc 7=TC.val (jf ja (0:Int)),(Ins.mk (2:Int) n.op (gGoal gm n.slot) (gReg gm n.a (13:Int)) (0:Int) (0:Int) (0:Int) (0:Int) (0:Int)).tc 8=TC.val (jf ja (0:Int))] W24
    refine tz [3,0] ?_
    refine Q2 Yg (Q3z g gm ac n.slot W2 W2 (code++gFetch gm n.a (13:Int)++putL gm.fr [Ins.mk (2:Int) n.op (gGoal gm n.slot) (gReg gm n.a (13:Int)) (0:Int) (0:Int) (0:Int) (0:Int) (0:Int)]) W2) [0,1,2,3,11,5,6] ?_
    exact Yh [0,1,2,3,4,5,6,12] [7,8] [(code++gSetN gm n).length=(code++gFetch gm n.a (13:Int)++putL gm.fr [Ins.mk (2:Int) n.op (gGoal gm n.slot) (gReg gm n.a (13:Int)) (0:Int) (0:Int) (0:Int) (0:Int) (0:Int)]++gKeep gm n.slot).length,∀ (i:Nat),i<(code++gSetN gm n).length→((code++gSetN gm n).getD i ub).tc=((code++gFetch gm n.a (13:Int)++putL gm.fr [Ins.mk (2:Int) n.op (gGoal gm n.slot) (gReg gm n.a (13:Int)) (0:Int) (0:Int) (0:Int) (0:Int) (0:Int)]++gKeep gm n.slot).getD i ub).tc] W93
abbrev zcl (y0:Gm) (y1:Nod):Ins:=Ins.mk (3:Int) (0:Int) (gGoal y0 y1.slot) (0:Int) (0:Int) y1.thing (0:Int) (0:Int) (0:Int)
abbrev zc7 (y0:Nod):List SV:=[.c (.p 0 0),.agg y0.cs]
theorem Qmk (g:Grf) (gm:Gm) (ac:Int) (n:Nod) (hn:NdQ gm n) (hg:GmQ gm) (code:List Ins) (hc:code.length≤100000) (hk:n.kind=2):Ctr Tryd.prog 27 (zr g ac gm code) (zc7 n)
 (Det (.tup []) [zB g ac gm,.dead,.dead,.dead,.dead,.dead,.dead,Ins.ownR (code++(putL gm.fr [Ins.mk 3 0 (gGoal gm n.slot) 0 0 n.thing 0 0 0]++gKeep gm n.slot))]):=by
 refine Ctr.intro [] Tryd.func27 K K ?_
 refine Q2 Jg (Qh9 g gm ac n.slot W2 W2) [] ?_
 refine tz [8,10,9,7,6,5,4,3,0] ?_
 refine Q2 Qf (Yy g gm ac [zcl gm n] code W2 W2) zcT ?_ zc4 [[zcl gm n].length=1,∀ (i:Nat),i < [zcl gm n].length→i≠0→([zcl gm n].getD i ub).tc=fun x=>TC.any,(zcl gm n).tc 0=TC.val (zdm),(zcl gm n).tc 1=TC.val (zcx),(zcl gm n).tc 2=TC.val (jf ja (gGoal gm n.slot)),(zcl gm n).tc 3=TC.val (zci),(zcl gm n).tc 4=TC.val (zci),(zcl gm n).tc 5=TC.val (jf ja n.thing),(zcl gm n).tc 6=TC.val (zci),(zcl gm n).tc 7=TC.val (zci),(zcl gm n).tc 8=TC.val (zci)] W24
 refine tz [12,11,8,10,9,7,6,5,4,3,0] ?_
 refine Q2 Yg (Q3z g gm ac n.slot W2 W2 (code++putL gm.fr [zcl gm n]) W2) [0,1,2,3,9,5,6] ?_
 exact Yh [0,1,2,3,4,5,6,10] [7,8] [(code++(putL gm.fr [zcl gm n]++gKeep gm n.slot)).length=(code++putL gm.fr [zcl gm n]++gKeep gm n.slot).length,∀ (i:Nat),i<(code++(putL gm.fr [zcl gm n]++gKeep gm n.slot)).length→((code++(putL gm.fr [zcl gm n]++gKeep gm n.slot)).getD i ub).tc=((code++putL gm.fr [zcl gm n]++gKeep gm n.slot).getD i ub).tc] W73
theorem Qjl (g:Grf) (gm:Gm) (ac:Int) (n:Nod) (hn:NdQ gm n) (hg:GmQ gm) (code:List Ins) (hc:code.length≤100000) (hk:n.kind=3):Ctr Tryd.prog 28 (zr g ac gm code) [.c (.p 0 0),.agg n.cs]
 (Det (.tup []) [zB g ac gm,.dead,.dead,.dead,.dead,.dead,.dead,Ins.ownR (code++(gFetch gm n.a 13++putL gm.fr [Ins.mk 4 0 0 (gReg gm n.a 13) 0 n.thing 0 0 0]))]):=by
 refine Ctr.intro [] Tryd.func28 K K ?_
 refine Q2 Qp (Za g gm ac n.a 13 W2 W2 code W2) [] ?_
 refine tz [8,3,0] ?_
 refine Q2 Qf (Yy g gm ac [Ins.mk (4:Int) (0:Int) (0:Int) (gReg gm n.a (13:Int)) (0:Int) n.thing (0:Int) (0:Int) (0:Int)] (code++gFetch gm n.a (13:Int)) W2 W2) [0,1,2,3,8,5,6,9] ?_ [11,12,13,14,15,16,17,18,19,20,21] [[Ins.mk (4:Int) (0:Int) (0:Int) (gReg gm n.a (13:Int)) (0:Int) n.thing (0:Int) (0:Int) (0:Int)].length=1,∀ (i:Nat),i < [Ins.mk (4:Int) (0:Int) (0:Int) (gReg gm n.a (13:Int)) (0:Int) n.thing (0:Int) (0:Int) (0:Int)].length→i≠0→([Ins.mk (4:Int) (0:Int) (0:Int) (gReg gm n.a (13:Int)) (0:Int) n.thing (0:Int) (0:Int) (0:Int)].getD i ub).tc=fun x=>TC.any,(Ins.mk (4:Int) (0:Int) (0:Int) (gReg gm n.a (13:Int)) (0:Int) n.thing (0:Int) (0:Int) (0:Int)).tc 0=TC.val (jf jz (4:Int)),(Ins.mk (4:Int) (0:Int) (0:Int) (gReg gm n.a (13:Int)) (0:Int) n.thing (0:Int) (0:Int) (0:Int)).tc 1=TC.val (jf jz (0:Int)),(Ins.mk (4:Int) (0:Int) (0:Int) (gReg gm n.a (13:Int)) (0:Int) n.thing (0:Int) (0:Int) (0:Int)).tc 2=TC.val (jf ja (0:Int)),(Ins.mk (4:Int) (0:Int) (0:Int) (gReg gm n.a (13:Int)) (0:Int) n.thing (0:Int) (0:Int) (0:Int)).tc 3=TC.val (jf ja (gReg gm n.a (13:Int))),(Ins.mk (4:Int) (0:Int) (0:Int) (gReg gm n.a (13:Int)) (0:Int) n.thing (0:Int) (0:Int) (0:Int)).tc 4=TC.val (jf ja (0:Int)),(Ins.mk (4:Int) (0:Int) (0:Int) (gReg gm n.a (13:Int)) (0:Int) n.thing (0:Int) (0:Int) (0:Int)).tc 5=TC.val (jf ja n.thing),(Ins.mk (4:Int) (0:Int) (0:Int) (gReg gm n.a (13:Int)) (0:Int) n.thing (0:Int) (0:Int) (0:Int)).tc 6=TC.val (jf ja (0:Int)),(Ins.mk (4:Int) (0:Int) (0:Int) (gReg gm n.a (13:Int)) (0:Int) n.thing (0:Int) (0:Int) (0:Int)).tc 7=TC.val (jf ja (0:Int)),(Ins.mk (4:Int) (0:Int) (0:Int) (gReg gm n.a (13:Int)) (0:Int) n.thing (0:Int) (0:Int) (0:Int)).tc 8=TC.val (jf ja (0:Int))] W24
 exact Yh [0,1,2,3,4,5,6,10] [7,8] [(code++(gFetch gm n.a (13:Int)++putL gm.fr [Ins.mk (4:Int) (0:Int) (0:Int) (gReg gm n.a (13:Int)) (0:Int) n.thing (0:Int) (0:Int) (0:Int)])).length=(code++gFetch gm n.a (13:Int)++putL gm.fr [Ins.mk (4:Int) (0:Int) (0:Int) (gReg gm n.a (13:Int)) (0:Int) n.thing (0:Int) (0:Int) (0:Int)]).length,∀ (i:Nat),i<(code++(gFetch gm n.a (13:Int)++putL gm.fr [Ins.mk (4:Int) (0:Int) (0:Int) (gReg gm n.a (13:Int)) (0:Int) n.thing (0:Int) (0:Int) (0:Int)])).length→((code++(gFetch gm n.a (13:Int)++putL gm.fr [Ins.mk (4:Int) (0:Int) (0:Int) (gReg gm n.a (13:Int)) (0:Int) n.thing (0:Int) (0:Int) (0:Int)])).getD i ub).tc=((code++gFetch gm n.a (13:Int)++putL gm.fr [Ins.mk (4:Int) (0:Int) (0:Int) (gReg gm n.a (13:Int)) (0:Int) n.thing (0:Int) (0:Int) (0:Int)]).getD i ub).tc] W73
abbrev zcm (y0:Gm) (y1:Nod):Ins:=Ins.mk (2:Int) (7:Int) (y0.ps.getD y1.slot.toNat ub).n (15:Int) (15:Int) (0:Int) (0:Int) (0:Int) (0:Int)
abbrev zco (y0:Nod):Ins:=Ins.mk (5:Int) (0:Int) (15:Int) (0:Int) (0:Int) y0.thing (0:Int) (0:Int) (0:Int)
abbrev zcA (y0:List Ins) (y1:Gm) (y2:Nod):List Ins:=y0++gMove y1 y2.a (15:Int)++putL y1.fr [zco y2]
theorem Qml (g:Grf) (gm:Gm) (ac:Int) (n:Nod) (hn:NdQ gm n) (hg:GmQ gm) (code:List Ins) (hc:code.length≤100000) (hk:n.kind=4):Ctr Tryd.prog 29 (zr g ac gm code) (zc7 n)
 (Det (.tup []) [zB g ac gm,.dead,.dead,.dead,.dead,.dead,.dead,Ins.ownR (code++gSwapN gm n)]):=by
 refine Ctr.intro [] Tryd.func29 K K ?_
 refine Q2 Jh (Qha g gm ac n.a 15 W2 W2 code W2) [] ?_
 refine tz [3,0] ?_
 refine Q2 Qf (Yy g gm ac [zco n] (code++gMove gm n.a (15:Int)) W2 W2) [0,1,2,3,8,5,6,9] ?_ zc4 [[zco n].length=1,∀ (i:Nat),i < [zco n].length→i≠0→([zco n].getD i ub).tc=fun x=>TC.any,(zco n).tc 0=TC.val (jf jz (5:Int)),(zco n).tc 1=TC.val (zcx),(zco n).tc 2=TC.val (zc2),(zco n).tc 3=TC.val (zci),(zco n).tc 4=TC.val (zci),(zco n).tc 5=TC.val (jf ja n.thing),(zco n).tc 6=TC.val (zci),(zco n).tc 7=TC.val (zci),(zco n).tc 8=TC.val (zci)] W24
 refine tz [3,0] ?_
 refine Q0 (!(gm.ps.getD n.slot.toNat ub).cell) (fun h1=>?_) (fun h1=>?_) (vc:=[(0:Int)≤n.slot,n.slot<(↑gm.ps.length:Int),n.slot.toNat<gm.ps.length]) (hv:=W107)
 ·refine tz [4,3,0] ?_
  refine Q2 Qf (Yy g gm ac [zcm gm n] (zcA code gm n) W2 W2) [0,1,2,3,10,5,6,12] ?_ zc4 [[zcm gm n].length=1,∀ (i:Nat),i < [zcm gm n].length→i≠0→([zcm gm n].getD i ub).tc=fun x=>TC.any,(zcm gm n).tc 0=TC.val (zdn),(zcm gm n).tc 1=TC.val (zdo),(zcm gm n).tc 2=TC.val (jf ja (gm.ps.getD n.slot.toNat ub).n),(zcm gm n).tc 3=TC.val (zc2),(zcm gm n).tc 4=TC.val (zc2),(zcm gm n).tc 5=TC.val (zci),(zcm gm n).tc 6=TC.val (zci),(zcm gm n).tc 7=TC.val (zci),(zcm gm n).tc 8=TC.val (zci)] W24
  exact Q3 [0,1,2,3,4,5,6,13] [7,8] [(code++gSwapN gm n).length=(zcA code gm n++putL gm.fr [zcm gm n]).length,∀ (i:Nat),i<(code++gSwapN gm n).length→((code++gSwapN gm n).getD i ub).tc=((zcA code gm n++putL gm.fr [zcm gm n]).getD i ub).tc] W115
 ·refine tz [3,0] ?_
  refine Q2 Yg (Q3z g gm ac n.slot W2 W2 (zcA code gm n) W2) [0,1,2,3,10,5,6] ?_
  exact Yh [0,1,2,3,4,5,6,12] [7,8] [(code++gSwapN gm n).length=(zcA code gm n++gKeep gm n.slot).length,∀ (i:Nat),i<(code++gSwapN gm n).length→((code++gSwapN gm n).getD i ub).tc=((zcA code gm n++gKeep gm n.slot).getD i ub).tc] W115
abbrev zcw (y0:Gm) (y1:Nod):List Ins:=[Ins.mk (1:Int) (0:Int) (15:Int) (0:Int) (0:Int) (0:Int) (0:Int) (0:Int) (0:Int),Ins.mk (4:Int) (0:Int) (0:Int) (15:Int) (0:Int) (y0.shared+y1.thing) (0:Int) (0:Int) (0:Int)]
theorem Qhb (g:Grf) (gm:Gm) (ac:Int) (n:Nod) (hn:NdQ gm n) (hg:GmQ gm) (code:List Ins) (hc:code.length≤100000) (hk:n.kind=6):Ctr Tryd.prog 31 (zr g ac gm code) (zc7 n)
 (Det (.tup []) [zB g ac gm,.dead,.dead,.dead,.dead,.dead,.dead,Ins.ownR (code++putL gm.fr [Ins.mk 1 0 15 0 0 0 0 0 0,Ins.mk 4 0 0 15 0 (gm.shared+n.thing) 0 0 0])]):=by
 refine Ctr.intro [] Tryd.func31 K K ?_
 refine Q2 Qf (Yy g gm ac (zcw gm n) code W2 W2) zcT ?_ [11,12] [(zcw gm n).length=2,∀ (i:Nat),i < (zcw gm n).length→((zcw gm n).getD i ub).tc=rowT 9 [zdl,zcx,zc2,zci,zci,zci,zci,zci,zci,jf jz (4:Int),zcx,zci,zc2,zci,jf ja (gm.shared+n.thing),zci,zci,zci] i] W24 (vc:=[Fits ja (gm.shared+n.thing)]) (hv:=W107)
 exact Yh zdc
theorem Qjm (g:Grf) (gm:Gm) (ac:Int) (n:Nod) (hn:NdQ gm n) (hg:GmQ gm) (code:List Ins) (hc:code.length≤100000) (hk:n.kind=7):Ctr Tryd.prog 32 (zr g ac gm code) [.c (.p 0 0),.agg n.cs]
 (Det (.tup []) [zB g ac gm,.dead,.dead,.dead,.dead,.dead,.dead,Ins.ownR (code++(gFetch gm n.a 13++putL gm.fr [Ins.mk 7 0 0 (gReg gm n.a 13) 0 0 0 0 0]))]):=by
 refine Ctr.intro [] Tryd.func32 K K ?_
 refine Q2 Qp (Za g gm ac n.a 13 W2 W2 code W2) [] ?_
 refine tz [8,0] ?_
 refine Q2 Qf (Yy g gm ac [Ins.mk (7:Int) (0:Int) (0:Int) (gReg gm n.a (13:Int)) (0:Int) (0:Int) (0:Int) (0:Int) (0:Int)] (code++gFetch gm n.a (13:Int)) W2 W2) [0,1,2,3,8,5,6,9] ?_ [11,12,13,14,15,16,17,18,19,20,21] [[Ins.mk (7:Int) (0:Int) (0:Int) (gReg gm n.a (13:Int)) (0:Int) (0:Int) (0:Int) (0:Int) (0:Int)].length=1,∀ (i:Nat),i < [Ins.mk (7:Int) (0:Int) (0:Int) (gReg gm n.a (13:Int)) (0:Int) (0:Int) (0:Int) (0:Int) (0:Int)].length→i≠0→([Ins.mk (7:Int) (0:Int) (0:Int) (gReg gm n.a (13:Int)) (0:Int) (0:Int) (0:Int) (0:Int) (0:Int)].getD i ub).tc=fun x=>TC.any,(Ins.mk (7:Int) (0:Int) (0:Int) (gReg gm n.a (13:Int)) (0:Int) (0:Int) (0:Int) (0:Int) (0:Int)).tc 0=TC.val (jf jz (7:Int)),(Ins.mk (7:Int) (0:Int) (0:Int) (gReg gm n.a (13:Int)) (0:Int) (0:Int) (0:Int) (0:Int) (0:Int)).tc 1=TC.val (jf jz (0:Int)),(Ins.mk (7:Int) (0:Int) (0:Int) (gReg gm n.a (13:Int)) (0:Int) (0:Int) (0:Int) (0:Int) (0:Int)).tc 2=TC.val (jf ja (0:Int)),(Ins.mk (7:Int) (0:Int) (0:Int) (gReg gm n.a (13:Int)) (0:Int) (0:Int) (0:Int) (0:Int) (0:Int)).tc 3=TC.val (jf ja (gReg gm n.a (13:Int))),(Ins.mk (7:Int) (0:Int) (0:Int) (gReg gm n.a (13:Int)) (0:Int) (0:Int) (0:Int) (0:Int) (0:Int)).tc 4=TC.val (jf ja (0:Int)),(Ins.mk (7:Int) (0:Int) (0:Int) (gReg gm n.a (13:Int)) (0:Int) (0:Int) (0:Int) (0:Int) (0:Int)).tc 5=TC.val (jf ja (0:Int)),(Ins.mk (7:Int) (0:Int) (0:Int) (gReg gm n.a (13:Int)) (0:Int) (0:Int) (0:Int) (0:Int) (0:Int)).tc 6=TC.val (jf ja (0:Int)),(Ins.mk (7:Int) (0:Int) (0:Int) (gReg gm n.a (13:Int)) (0:Int) (0:Int) (0:Int) (0:Int) (0:Int)).tc 7=TC.val (jf ja (0:Int)),(Ins.mk (7:Int) (0:Int) (0:Int) (gReg gm n.a (13:Int)) (0:Int) (0:Int) (0:Int) (0:Int) (0:Int)).tc 8=TC.val (jf ja (0:Int))] W24
 exact Yh [0,1,2,3,4,5,6,10] [7,8] [(code++(gFetch gm n.a (13:Int)++putL gm.fr [Ins.mk (7:Int) (0:Int) (0:Int) (gReg gm n.a (13:Int)) (0:Int) (0:Int) (0:Int) (0:Int) (0:Int)])).length=(code++gFetch gm n.a (13:Int)++putL gm.fr [Ins.mk (7:Int) (0:Int) (0:Int) (gReg gm n.a (13:Int)) (0:Int) (0:Int) (0:Int) (0:Int) (0:Int)]).length,∀ (i:Nat),i<(code++(gFetch gm n.a (13:Int)++putL gm.fr [Ins.mk (7:Int) (0:Int) (0:Int) (gReg gm n.a (13:Int)) (0:Int) (0:Int) (0:Int) (0:Int) (0:Int)])).length→((code++(gFetch gm n.a (13:Int)++putL gm.fr [Ins.mk (7:Int) (0:Int) (0:Int) (gReg gm n.a (13:Int)) (0:Int) (0:Int) (0:Int) (0:Int) (0:Int)])).getD i ub).tc=((code++gFetch gm n.a (13:Int)++putL gm.fr [Ins.mk (7:Int) (0:Int) (0:Int) (gReg gm n.a (13:Int)) (0:Int) (0:Int) (0:Int) (0:Int) (0:Int)]).getD i ub).tc] W73
theorem Qhc (g:Grf) (gm:Gm) (ac:Int) (n:Nod) (hn:NdQ gm n) (hg:GmQ gm) (code:List Ins) (hc:code.length≤100000) (hk:n.kind=8):Ctr Tryd.prog 33 (zr g ac gm code) [.c (.p 0 0),.agg n.cs]
 (Det (.tup []) [zB g ac gm,.dead,.dead,.dead,.dead,.dead,.dead,Ins.ownR (code++gBranch gm n)]):=by
 refine Ctr.intro [] Tryd.func33 K K ?_
 refine Q0 (decide (n.els=n.next)) (fun h1=>?_) (fun h1=>?_)
 ·exact Q3 [0,1,2,3,4,5,6,4] [7,8] [(code++gBranch gm n).length=code.length,∀ (i:Nat),i<(code++gBranch gm n).length→((code++gBranch gm n).getD i ub).tc=(code.getD i ub).tc] W120
 ·refine tz [3,0] ?_
  refine Q2 Qp (Za g gm ac n.a 13 W2 W2 code W2) [] ?_
  refine tz [13,3,0] ?_
  refine Q2 Qf (Yy g gm ac [Ins.mk (9:Int) (0:Int) (0:Int) (gReg gm n.a (13:Int)) (0:Int) (0:Int) n.els (0:Int) (0:Int)] (code++gFetch gm n.a (13:Int)) W2 W2) [0,1,2,3,8,5,6,9] ?_ [11,12,13,14,15,16,17,18,19,20,21] [[Ins.mk (9:Int) (0:Int) (0:Int) (gReg gm n.a (13:Int)) (0:Int) (0:Int) n.els (0:Int) (0:Int)].length=1,∀ (i:Nat),i < [Ins.mk (9:Int) (0:Int) (0:Int) (gReg gm n.a (13:Int)) (0:Int) (0:Int) n.els (0:Int) (0:Int)].length→i≠0→([Ins.mk (9:Int) (0:Int) (0:Int) (gReg gm n.a (13:Int)) (0:Int) (0:Int) n.els (0:Int) (0:Int)].getD i ub).tc=fun x=>TC.any,(Ins.mk (9:Int) (0:Int) (0:Int) (gReg gm n.a (13:Int)) (0:Int) (0:Int) n.els (0:Int) (0:Int)).tc 0=TC.val (jf jz (9:Int)),(Ins.mk (9:Int) (0:Int) (0:Int) (gReg gm n.a (13:Int)) (0:Int) (0:Int) n.els (0:Int) (0:Int)).tc 1=TC.val (jf jz (0:Int)),(Ins.mk (9:Int) (0:Int) (0:Int) (gReg gm n.a (13:Int)) (0:Int) (0:Int) n.els (0:Int) (0:Int)).tc 2=TC.val (jf ja (0:Int)),(Ins.mk (9:Int) (0:Int) (0:Int) (gReg gm n.a (13:Int)) (0:Int) (0:Int) n.els (0:Int) (0:Int)).tc 3=TC.val (jf ja (gReg gm n.a (13:Int))),(Ins.mk (9:Int) (0:Int) (0:Int) (gReg gm n.a (13:Int)) (0:Int) (0:Int) n.els (0:Int) (0:Int)).tc 4=TC.val (jf ja (0:Int)),(Ins.mk (9:Int) (0:Int) (0:Int) (gReg gm n.a (13:Int)) (0:Int) (0:Int) n.els (0:Int) (0:Int)).tc 5=TC.val (jf ja (0:Int)),(Ins.mk (9:Int) (0:Int) (0:Int) (gReg gm n.a (13:Int)) (0:Int) (0:Int) n.els (0:Int) (0:Int)).tc 6=TC.val (jf ja n.els),(Ins.mk (9:Int) (0:Int) (0:Int) (gReg gm n.a (13:Int)) (0:Int) (0:Int) n.els (0:Int) (0:Int)).tc 7=TC.val (jf ja (0:Int)),(Ins.mk (9:Int) (0:Int) (0:Int) (gReg gm n.a (13:Int)) (0:Int) (0:Int) n.els (0:Int) (0:Int)).tc 8=TC.val (jf ja (0:Int))] W24
  exact Yh [0,1,2,3,4,5,6,10] [7,8] [(code++gBranch gm n).length=(code++gFetch gm n.a (13:Int)++putL gm.fr [Ins.mk (9:Int) (0:Int) (0:Int) (gReg gm n.a (13:Int)) (0:Int) (0:Int) n.els (0:Int) (0:Int)]).length,∀ (i:Nat),i<(code++gBranch gm n).length→((code++gBranch gm n).getD i ub).tc=((code++gFetch gm n.a (13:Int)++putL gm.fr [Ins.mk (9:Int) (0:Int) (0:Int) (gReg gm n.a (13:Int)) (0:Int) (0:Int) n.els (0:Int) (0:Int)]).getD i ub).tc] W120
abbrev zcs:Ins:=Ins.mk (10:Int) (0:Int) (0:Int) (0:Int) (0:Int) (0:Int) (0:Int) (0:Int) (0:Int)
theorem Qok (g:Grf) (gm:Gm) (ac:Int) (n:Nod) (hn:NdQ gm n) (hg:GmQ gm) (code:List Ins) (hc:code.length≤100000) (hk:n.kind=9):Ctr Tryd.prog 34 (zr g ac gm code) (zc7 n)
 (Det (.tup []) [zB g ac gm,.dead,.dead,.dead,.dead,.dead,.dead,Ins.ownR (code++putL gm.fr [Ins.mk 10 0 0 0 0 0 0 0 0])]):=by
 refine Ctr.intro [] Tryd.func34 K K ?_
 refine Q2 Qf (Yy g gm ac [zcs] code W2 W2) zcT ?_ zc4 [[zcs].length=1,∀ (i:Nat),i < [zcs].length→i≠0→([zcs].getD i ub).tc=fun x=>TC.any,(zcs).tc 0=TC.val (jf jz (10:Int)),(zcs).tc 1=TC.val (zcx),(zcs).tc 2=TC.val (zci),(zcs).tc 3=TC.val (zci),(zcs).tc 4=TC.val (zci),(zcs).tc 5=TC.val (zci),(zcs).tc 6=TC.val (zci),(zcs).tc 7=TC.val (zci),(zcs).tc 8=TC.val (zci)] W24
 exact Yh zdc
abbrev zbW (y0:Nat) (y1:Int → Option Int) (y2:List Ins):Reg:=Reg.mp MTi (y0+4) (fun a=>((innF y1 (y2.length:Int)) a).isSome) (fun a=>((innF y1 (y2.length:Int)) a).getD (0:Int)) none
abbrev zcq (y0:Gm) (y1:Nod) (y2:List Ins):List Ins:=[Ins.mk (1:Int) (0:Int) (15:Int) (0:Int) (0:Int) (0:Int) (0:Int) (1:Int) (0:Int),Ins.mk (5:Int) (0:Int) (15:Int) (0:Int) (0:Int) (y0.shared+y1.thing) (0:Int) (0:Int) (0:Int),Ins.mk (9:Int) (0:Int) (0:Int) (15:Int) (0:Int) (0:Int) ((↑y2.length:Int)+(4:Int)) (0:Int) (0:Int),Ins.mk (8:Int) (0:Int) (0:Int) (0:Int) (0:Int) (0:Int) (↑y2.length:Int) (0:Int) (0:Int)]
abbrev zc3:MT:=(MT.mk Tryd.prog 71 3 3 [CK.i ja] false [CK.i ja] false)
abbrev zdh:Value:=jf ja (1:Int)
theorem Qmm (g:Grf) (gm:Gm) (ac:Int) (n:Nod) (hn:NdQ gm n) (hg:GmQ gm) (code:List Ins) (hc:code.length≤100000) (cN:Nat) (F:Int→Option Int) (hc2:cN≤1000000) (hk:n.kind=5):Ctr Tryd.prog 30 [za0 g ac gm,.dead,Plc.rowR gm.ps,.dead,Ins.ownR code,Reg.mp MTi cN (fun a=>(F a).isSome) (fun a=>(F a).getD (0:Int)) none,.dead] (zc7 n)
 (Det (.tup []) [zB g ac gm,.dead,.dead,.dead,.dead,zbW cN F code,.dead,Ins.ownR (code++putL gm.fr [Ins.mk 1 0 15 0 0 0 0 1 0,Ins.mk 5 0 15 0 0 (gm.shared+n.thing) 0 0 0,Ins.mk 9 0 0 15 0 0 ((code.length:Int)+4) 0 0,Ins.mk 8 0 0 0 0 0 (code.length:Int) 0 0])]):=by
 refine Ctr.intro [] Tryd.func30 K K ?_
 refine RunF.mentR (vc:=[Fits ja ((↑code.length:Int)+(2:Int)),Fits ja ((↑code.length:Int)+(3:Int))]) (vc2:=[Fits ja ((↑code.length:Int)+(2:Int)),MTi.P=Tryd.prog,cN<maxLen]) 5 K W57 K W57 (fun _=>by kernel_rfl) (fun st1=>?_)
 refine tz [22,21,20,19,18,17,16,15,14,13,12,11,10,4,3,0] ?_
 refine RunF.mentR (vc:=[Fits ja ((↑code.length:Int)+(2:Int)),zc3.P=Tryd.prog,cN+1<maxLen,st1=st1]) (vc2:=[Fits ja ((↑code.length:Int)+(3:Int)),zc3.P=Tryd.prog,cN+1+1<maxLen]) 5 K W57 K W57 (fun _=>by kernel_rfl) (fun st2=>?_)
 refine tz [24,23,22,21,20,19,18,17,16,15,14,13,12,11,10,4,3,0] ?_
 refine Q2 Qf (Yy g gm ac (zcq gm n code) code W2 W2) zcT ?_ [11,12] [(zcq gm n code).length=4,∀ (i:Nat),i < (zcq gm n code).length→((zcq gm n code).getD i ub).tc=rowT 9 [zdl,zcx,zc2,zci,zci,zci,zci,zdh,zci,jf jz (5:Int),zcx,zc2,zci,zci,jf ja (gm.shared+n.thing),zci,zci,zci,jf jz (9:Int),zcx,zci,zc2,zci,zci,jf ja ((↑code.length:Int)+(4:Int)),zci,zci,jf jz (8:Int),zcx,zci,zci,zci,zci,jf ja (↑code.length:Int),zci,zci] i] W24 (vc:=[Fits ja ((↑code.length:Int)+(3:Int)),zc3.P=Tryd.prog,cN+1+1+1<maxLen,st2=st2,Fits ja (gm.shared+n.thing),Fits ja ((↑code.length:Int)+(4:Int))]) (hv:=W57)
 exact Yh zdc [7] [MpEq MTi (cN+4) (fun (a:Int)=>(innF F (↑code.length:Int) a).isSome) (fun (a:Int)=>(innF F (↑code.length:Int) a).getD (0:Int)) none zc3 (cN+1+1+1+1) (fun (p:Int)=>decide (p=(↑code.length:Int)+(3:Int))||(decide (p=(↑code.length:Int)+(3:Int))||(decide (p=(↑code.length:Int)+(2:Int))||(decide (p=(↑code.length:Int)+(2:Int))||(F p).isSome)))) (fun (p:Int)=>if p=(↑code.length:Int)+(3:Int) then (1:Int) else if p=(↑code.length:Int)+(2:Int) then (1:Int) else (F p).getD (0:Int)) none] (by simp only [Conj];(repeat' apply jn)<;>first | trivial | rfl | (intros;first | trivial | rfl) | exact Qnp _ _ _)
abbrev za:Reg:=Reg.mpv (MT.mk Tryd.prog 77 60 81 [CK.i jz] false [] false) kA 9 [((9:Int),C.fn 34 true [0]),((8:Int),C.fn 33 true [0]),((7:Int),C.fn 32 true [0]),((6:Int),C.fn 31 true [0]),((5:Int),C.fn 30 true [0]),((4:Int),C.fn 29 true [0]),((3:Int),C.fn 28 true [0]),((2:Int),C.fn 27 true [0]),((1:Int),C.fn 26 true [0])]
abbrev zbO:List Reg:=[.dead,.dead,.dead,.dead,.dead,.dead,.dead,Reg.mpv MTm .nilFunc 9 mkEnts]
abbrev zcv:MT:=(MT.mk Tryd.prog 77 60 81 [CK.i jz] false [] false)
theorem Qjn (g:Grf) (gm:Gm) (ac:Int):Ctr Tryd.prog 16 [za8 g ac gm,.dead,.dead,.dead,.dead,.dead,.dead] [.c (.p 0 0)]
 (Det (.c (.h 7)) zbO):=by
 refine Ctr.intro [] Tryd.func16 K K ?_
 exact Q3 [] [0] [Reg.mpv MTm kA 9 (List.map (fun x=>(x.fst,C.ren (at' [0,1,2,3,4,5,6,7]) x.snd)) mkEnts)=za] (by simp only [Conj];(repeat' apply jn)<;>first | trivial | rfl) (vc:=[zcv.P=Tryd.prog,zcv.OkV kA,Fits jz (1:Int),zcv.P=Tryd.prog,0<maxLen,Fits jz (2:Int),zcv.P=Tryd.prog,1<maxLen,Fits jz (3:Int),zcv.P=Tryd.prog,2<maxLen,Fits jz (4:Int),zcv.P=Tryd.prog,3<maxLen,Fits jz (5:Int),zcv.P=Tryd.prog,4<maxLen,Fits jz (6:Int),zcv.P=Tryd.prog,5<maxLen,Fits jz (7:Int),zcv.P=Tryd.prog,6<maxLen,Fits jz (8:Int),zcv.P=Tryd.prog,7<maxLen,Fits jz (9:Int),zcv.P=Tryd.prog,8<maxLen]) (hv:=(by simp only [Conj,Fits,Q7,Q8,Qa,Qb,News.len,maxLen]<;>(repeat' (first | apply jn | intro _))<;>first | rfl | exact Qdf | grind | (simp only [BL] at *;omega)))
theorem Qez (l:List Int) (v:Int) (hl:l.length≤8388608):Ctr Tryd.prog 17 [IntRow l] [.c (.h 0),zc6 v]
 (Det (.c (.b (hasF l v))) [.dead]):=by
 refine Ctr.intro [] Tryd.func17 K K ?_
 refine Q2 Q3o (Qm1 l v W54) [] ?_
 exact Q3 [] [0] [hasF l v=decide ((0:Int)≤idxF l v (0:Int))] (by simp only [Conj];first | rfl | exact ⟨rfl,trivial⟩)
abbrev zI (y0:Grf) (y1 y2 y3 y4:Int):Reg:=Reg.box 73 [C.v (jF y0.name),C.i .i64 y0.locals,C.i .i64 y0.slots,C.h 1,C.h 2,C.i .i64 y1,C.h 3,C.i .i64 y2,C.i .i64 y3,C.h 4,C.h 5,C.h 6,C.i .i64 y4]
theorem Qhd (g:Grf) (ps:List Plc) (ba sh fr ac:Int) (l:List Ins) (code:List Ins) (hc:code.length≤1000000) (hl:l.length≤1000):Ctr Tryd.prog 18 [zI g ac sh ba fr,.dead,Plc.rowR ps,.dead,Ins.ownR code,.dead,.dead,Ins.rowR l] [.c (.p 0 0),.c (.h 7)]
 (Det (.tup []) [Reg.box 73 [C.v (jF g.name),C.i .i64 g.locals,C.i .i64 g.slots,C.h 1,C.h 2,C.i .i64 ac,C.h 3,C.i .i64 sh,C.i .i64 ba,C.h 8,C.h 5,C.h 6,C.i .i64 fr],.dead,.dead,.dead,.dead,.dead,.dead,.dead,Ins.ownR (code++putL fr l)]):=by
 exact Yy g (Gm.mk ps ba sh fr) ac l code hc hl
theorem Qhe (g:Grf) (ba sh fr ac:Int):Ctr Tryd.prog 16 [.ro [C.v (jF g.name),C.i .i64 g.locals,C.i .i64 g.slots,C.h 1,C.h 2,C.i .i64 ac,C.h 3,C.i .i64 sh,C.i .i64 ba,C.h 4,C.h 5,C.h 6,C.i .i64 fr],.dead,.dead,.dead,.dead,.dead,.dead] [.c (.p 0 0)]
 (Det (.c (.h 7)) zbO):=by
 exact Qjn g (Gm.mk [] ba sh fr) ac
abbrev zL (y0:Grf) (y1 y2 y3 y4:Int):Reg:=Reg.box 73 [C.v (jF y0.name),C.i .i64 y0.locals,C.i .i64 y0.slots,C.h 1,C.h 2,C.i .i64 y1,C.h 3,C.i .i64 y2,C.i .i64 y3,C.h 7,C.h 5,C.h 6,C.i .i64 y4]
abbrev zaM (y0:Grf) (y1 y2 y3 y4:Int) (y5:List Plc) (y6:List Ins):List Reg:=[zI y0 y1 y2 y3 y4,.dead,Plc.rowR y5,.dead,Ins.ownR y6,.dead,.dead]
theorem Qmn (g:Grf) (ps:List Plc) (ba sh fr ac:Int) (n:Nod) (hn:NdQ (Gm.mk ps ba sh fr) n) (hg:GmQ (Gm.mk ps ba sh fr)) (code:List Ins) (hc:code.length≤100000) (hk:n.kind=1):Ctr Tryd.prog 26 (zaM g ac sh ba fr ps code) (zc7 n)
 (Det (.tup []) [zL g ac sh ba fr,.dead,.dead,.dead,.dead,.dead,.dead,Ins.ownR (code++gSetN (Gm.mk ps ba sh fr) n)]):=by
 exact Qoj g (Gm.mk ps ba sh fr) ac n hn hg code hc hk
theorem Qjo (g:Grf) (ps:List Plc) (ba sh fr ac:Int) (n:Nod) (hn:NdQ (Gm.mk ps ba sh fr) n) (hg:GmQ (Gm.mk ps ba sh fr)) (code:List Ins) (hc:code.length≤100000) (hk:n.kind=2):Ctr Tryd.prog 27 (zaM g ac sh ba fr ps code) (zc7 n)
 (Det (.tup []) [zL g ac sh ba fr,.dead,.dead,.dead,.dead,.dead,.dead,Ins.ownR (code++(putL fr [Ins.mk 3 0 (gGoal (Gm.mk ps ba sh fr) n.slot) 0 0 n.thing 0 0 0]++gKeep (Gm.mk ps ba sh fr) n.slot))]):=by
 exact Qmk g (Gm.mk ps ba sh fr) ac n hn hg code hc hk
theorem Qhf (g:Grf) (ps:List Plc) (ba sh fr ac:Int) (n:Nod) (hn:NdQ (Gm.mk ps ba sh fr) n) (hg:GmQ (Gm.mk ps ba sh fr)) (code:List Ins) (hc:code.length≤100000) (hk:n.kind=3):Ctr Tryd.prog 28 (zaM g ac sh ba fr ps code) (zc7 n)
 (Det (.tup []) [zL g ac sh ba fr,.dead,.dead,.dead,.dead,.dead,.dead,Ins.ownR (code++(gFetch (Gm.mk ps ba sh fr) n.a 13++putL fr [Ins.mk 4 0 0 (gReg (Gm.mk ps ba sh fr) n.a 13) 0 n.thing 0 0 0]))]):=by
 exact Qjl g (Gm.mk ps ba sh fr) ac n hn hg code hc hk
theorem Qjp (g:Grf) (ps:List Plc) (ba sh fr ac:Int) (n:Nod) (hn:NdQ (Gm.mk ps ba sh fr) n) (hg:GmQ (Gm.mk ps ba sh fr)) (code:List Ins) (hc:code.length≤100000) (hk:n.kind=4):Ctr Tryd.prog 29 (zaM g ac sh ba fr ps code) (zc7 n)
 (Det (.tup []) [zL g ac sh ba fr,.dead,.dead,.dead,.dead,.dead,.dead,Ins.ownR (code++gSwapN (Gm.mk ps ba sh fr) n)]):=by
 exact Qml g (Gm.mk ps ba sh fr) ac n hn hg code hc hk
theorem Qf0 (g:Grf) (ps:List Plc) (ba sh fr ac:Int) (n:Nod) (hn:NdQ (Gm.mk ps ba sh fr) n) (hg:GmQ (Gm.mk ps ba sh fr)) (code:List Ins) (hc:code.length≤100000) (hk:n.kind=6):Ctr Tryd.prog 31 (zaM g ac sh ba fr ps code) (zc7 n)
 (Det (.tup []) [zL g ac sh ba fr,.dead,.dead,.dead,.dead,.dead,.dead,Ins.ownR (code++putL fr [Ins.mk 1 0 15 0 0 0 0 0 0,Ins.mk 4 0 0 15 0 (sh+n.thing) 0 0 0])]):=by
 exact Qhb g (Gm.mk ps ba sh fr) ac n hn hg code hc hk
theorem Qhg (g:Grf) (ps:List Plc) (ba sh fr ac:Int) (n:Nod) (hn:NdQ (Gm.mk ps ba sh fr) n) (hg:GmQ (Gm.mk ps ba sh fr)) (code:List Ins) (hc:code.length≤100000) (hk:n.kind=7):Ctr Tryd.prog 32 (zaM g ac sh ba fr ps code) (zc7 n)
 (Det (.tup []) [zL g ac sh ba fr,.dead,.dead,.dead,.dead,.dead,.dead,Ins.ownR (code++(gFetch (Gm.mk ps ba sh fr) n.a 13++putL fr [Ins.mk 7 0 0 (gReg (Gm.mk ps ba sh fr) n.a 13) 0 0 0 0 0]))]):=by
 exact Qjm g (Gm.mk ps ba sh fr) ac n hn hg code hc hk
theorem Qf1 (g:Grf) (ps:List Plc) (ba sh fr ac:Int) (n:Nod) (hn:NdQ (Gm.mk ps ba sh fr) n) (hg:GmQ (Gm.mk ps ba sh fr)) (code:List Ins) (hc:code.length≤100000) (hk:n.kind=8):Ctr Tryd.prog 33 (zaM g ac sh ba fr ps code) (zc7 n)
 (Det (.tup []) [zL g ac sh ba fr,.dead,.dead,.dead,.dead,.dead,.dead,Ins.ownR (code++gBranch (Gm.mk ps ba sh fr) n)]):=by
 exact Qhc g (Gm.mk ps ba sh fr) ac n hn hg code hc hk
theorem Qmo (g:Grf) (ps:List Plc) (ba sh fr ac:Int) (n:Nod) (hn:NdQ (Gm.mk ps ba sh fr) n) (hg:GmQ (Gm.mk ps ba sh fr)) (code:List Ins) (hc:code.length≤100000) (hk:n.kind=9):Ctr Tryd.prog 34 (zaM g ac sh ba fr ps code) (zc7 n)
 (Det (.tup []) [zL g ac sh ba fr,.dead,.dead,.dead,.dead,.dead,.dead,Ins.ownR (code++putL fr [Ins.mk 10 0 0 0 0 0 0 0 0])]):=by
 exact Qok g (Gm.mk ps ba sh fr) ac n hn hg code hc hk
theorem Qjq (g:Grf) (ps:List Plc) (ba sh fr ac:Int) (n:Nod) (hn:NdQ (Gm.mk ps ba sh fr) n) (hg:GmQ (Gm.mk ps ba sh fr)) (code:List Ins) (hc:code.length≤100000) (cN:Nat) (F:Int→Option Int) (hc2:cN≤1000000) (hk:n.kind=5):Ctr Tryd.prog 30 [zI g ac sh ba fr,.dead,Plc.rowR ps,.dead,Ins.ownR code,Reg.mp MTi cN (fun a=>(F a).isSome) (fun a=>(F a).getD (0:Int)) none,.dead] (zc7 n)
 (Det (.tup []) [zL g ac sh ba fr,.dead,.dead,.dead,.dead,zbW cN F code,.dead,Ins.ownR (code++putL fr [Ins.mk 1 0 15 0 0 0 0 1 0,Ins.mk 5 0 15 0 0 (sh+n.thing) 0 0 0,Ins.mk 9 0 0 15 0 0 ((code.length:Int)+4) 0 0,Ins.mk 8 0 0 0 0 0 (code.length:Int) 0 0])]):=by
 exact Qmm g (Gm.mk ps ba sh fr) ac n hn hg code hc cN F hc2 hk
end Go.Proofs.YtnddggenhefaeaaDoor
end
