/-
  A part of the proof. Text 6 of 9: Leaf75 SpecR SpecP SpecQ Leaf76 Leaf40 Leaf70 Leaf77 Leaf71 Leaf72 Leaf78 Leaf120 Leaf121 Leaf125 Leaf126 Leaf127 Leaf130 SpecDo SpecDe Leaf122.
-/
import Derived.Test.YtnddggenhefaeaaDoorP4
import Derived.Test.YtnddggenhefaeaaDoorP5
set_option linter.unusedSimpArgs false
set_option linter.unusedVariables false
set_option maxHeartbeats 4000000
set_option linter.unusedSectionVars false
open Int renaming le_refl→jA,tdiv_eq_ediv_of_nonneg→kN,toNat_of_nonneg→ko
open List renaming drop_eq_nil_of_le→kq,getD_eq_getElem?_getD→jb,getElem?_eq_getElem→jc,replicate→ji,take→jS,length_set→jt,length_replicate→jG,length_singleton→ki,length_take→jJ,eq_nil_of_length_eq_zero→kh,length→jW,range→jB,getElem?_eq_none→jX,getElem_mem→jQ,mem_append_left→jT,append_nil→j6,mem_cons_self→j5,mem_cons_of_mem→jR,length_drop→kB,getElem?_drop→j4,take_succ_eq_append_getElem→jN,take_of_length_le→ky,length_map→jK,length_range→kv,range_succ→kz,countP_append→kY,mem_singleton→jI,length_append→jl
open And renaming intro→jn
open Go.Value renaming slice→jg,int→jf,string→jF,bool→jU
open Go.IntKind renaming i64→ja,u8→jz,u64→kf
open Go.BinOp renaming or→kQ,and→kt
open Bool renaming or_eq_true→jO
open Nat renaming le_refl→jm,mul_le_mul_right→kr
open Inhabited renaming default→ub
noncomputable section
namespace Go.Proofs.YtnddggenhefaeaaDoor
open Go Go.Tx
abbrev z75_1:=(MT.mk Tryd.prog 127 9 4 [CK.s] false [CK.b] false)
abbrev zP:Reg:=Reg.box 25 [C.h 0,C.h 1,C.h 2]
abbrev zbs (y0:Int × Bool × Nat × (ByteArray → Option Bool)):Reg:=Reg.mp z75_1 (y0.2.2.1) (fun a=>(y0.2.2.2 a).isSome) (fun a=>(y0.2.2.2 a).getD (false)) none
def vf (sh:List Dcl) (lk:List Dcl) (gs:List Grf):Lp (Int×Bool×Nat×(ByteArray→Option (Bool))):=⟨fun x=>{ N:=73,fr:=[se 32 (C.i .i64 x.1),se 31 (C.i .i64 (↑sh.length:Int)),se 30 (C.h 0),se 4 (C.fn 55 false [5]),se 2 (C.b x.2.1),se 1 (C.p 3 0)],rg:=[rowOf 3 (·.tc) sh,rowOf 3 (·.tc) lk,rowOf 4 (·.tc) gs,zP,zbs x,Reg.box 127 [C.h 4]],wr:=[] },fun x=>0≤x.1∧x.1≤(sh.length:Int)∧(x.2.2.1:Int)≤x.1∧goN (nmS sh++(nmL lk++nmG gs)) (fun _=>none)=goN (nmS (sh.drop x.1.toNat)++(nmL lk++nmG gs)) x.2.2.2,fun x=>((sh.length:Int)-x.1).toNat⟩
def vg (sh:List Dcl) (lk:List Dcl) (gs:List Grf) (uo:Bool) (uz:Nat) (uS:ByteArray→Option Bool):Lp (Int×Bool×Nat×(ByteArray→Option (Bool))):=⟨fun x=>{ N:=73,fr:=[se 45 (C.i .i64 x.1),se 44 (C.i .i64 (↑lk.length:Int)),se 43 (C.h 1),se 4 (C.fn 55 false [5]),se 2 (C.b x.2.1),se 1 (C.p 3 0)],rg:=[rowOf 3 (·.tc) sh,rowOf 3 (·.tc) lk,rowOf 4 (·.tc) gs,zP,zbs x,Reg.box 127 [C.h 4]],wr:=[] },fun x=>0≤x.1∧x.1≤(lk.length:Int)∧(x.2.2.1:Int)≤sh.length+x.1∧goN (nmS sh++(nmL lk++nmG gs)) (fun _=>none)=goN (nmL (lk.drop x.1.toNat)++nmG gs) x.2.2.2,fun x=>((lk.length:Int)-x.1).toNat⟩
abbrev zdk (y0:List Grf):C:=C.i .i64 (↑y0.length:Int)
def vh (sh:List Dcl) (lk:List Dcl) (gs:List Grf) (ux:Bool) (uN:Nat) (uX:ByteArray→Option Bool):Lp (Int×Bool×Nat×(ByteArray→Option (Bool))):=⟨fun x=>{ N:=73,fr:=[se 63 (C.i .i64 x.1),se 62 (zdk gs),se 61 (C.h 2),se 4 (C.fn 55 false [5]),se 2 (C.b x.2.1)],rg:=[rowOf 3 (·.tc) sh,rowOf 3 (·.tc) lk,rowOf 4 (·.tc) gs,zP,zbs x,Reg.box 127 [C.h 4]],wr:=[] },fun x=>0≤x.1∧x.1≤(gs.length:Int)∧(x.2.2.1:Int)≤sh.length+lk.length+x.1∧goN (nmS sh++(nmL lk++nmG gs)) (fun _=>none)=goN (nmG (gs.drop x.1.toNat)) x.2.2.2,fun x=>((gs.length:Int)-x.1).toNat⟩
abbrev zF (y0:List Dcl):Prop:=∀ j:Nat,(y0.getD j ub).name.size≤maxLen
abbrev zab (y0:List Grf):Prop:=∀ j:Nat,(y0.getD j ub).name.size≤maxLen
abbrev zap (y0:Nat) (y1:List Dcl) (y2:Int) (y3:ByteArray → Option Bool):List Prop:=[MpEq z75_1 (y0+1) (fun (a:ByteArray)=>(if a=(y1.getD y2.toNat ub).name then some true else y3 a).isSome) (fun (a:ByteArray)=>(if a=(y1.getD y2.toNat ub).name then some true else y3 a).getD false) none z75_1 (y0+1) (fun (q:ByteArray)=>(if q=(y1.getD y2.toNat ub).name then some true else y3 q).isSome) (fun (q:ByteArray)=>(if q=(y1.getD y2.toNat ub).name then some true else y3 q).getD false) none]
abbrev zaw (y0:Nat) (y1:ByteArray → Option Bool):List Prop:=[MpEq z75_1 y0 (fun (q:ByteArray)=>(y1 q).isSome) (fun (q:ByteArray)=>(y1 q).getD false) none z75_1 y0 (fun (q:ByteArray)=>(y1 q).isSome) (fun (q:ByteArray)=>(y1 q).getD false) none]
abbrev zaD (y0:Int) (y1:List Grf):List Prop:=[(0:Int)≤y0,y0<(↑y1.length:Int),y0.toNat=y0.toNat]
abbrev zbe (y0:Nat) (y1:ByteArray → Option Bool):List Prop:=[MpEq z75_1 y0 (fun (a:ByteArray)=>(y1 a).isSome) (fun (a:ByteArray)=>(y1 a).getD false) none z75_1 y0 (fun (a:ByteArray)=>(y1 a).isSome) (fun (a:ByteArray)=>(y1 a).getD false) none]
abbrev zbK (y0 y1:List Dcl) (y2:List Grf):List Reg:=[Dcl.rowR y0,Dcl.rowR y1,Grf.rowR y2]
abbrev zbQ:List Reg:=[.dead,.dead,.dead]
abbrev zbX (y0:Int) (y1:List Grf):List Prop:=[y0.toNat<y1.length]
abbrev zcu (y0:List Grf) (y1:Int):Grf:=y0.getD y1.toNat ub
abbrev zcz:SV:=.agg [.h 0,.h 1,.h 2]
abbrev zcJ (y0:List Dcl) (y1:Int):Dcl:=y0.getD y1.toNat ub
theorem Qm4 (sh lk:List Dcl) (gs:List Grf) (hs:zF sh) (hl:zF lk) (hg:zab gs):Ctr Tryd.prog 36 (zbK sh lk gs) [zcz]
 (Det (.c (.b (namedB sh lk gs))) zbQ):=by
 refine Ctr.intro [] Tryd.func36 K K ?_
 refine Q0 (decide ((64:Int)<(↑sh.length:Int))||decide ((16:Int)<(↑lk.length:Int))||decide ((8:Int)<(↑gs.length:Int))) (fun h1=>?_) (fun h1=>?_)
 ·exact Q3 [] [0] [namedB sh lk gs=false] W53
 ·refine tz [2,1] ?_
  refine Q9 (vf sh lk gs) (((0:Int),false,0,fun x=>none)) (by dsimp only [vf];exact ⟨jA _,by omega,jA _,rfl⟩) ?_ [] [6] [MpEq z75_1 0 (fun (a:ByteArray)=>false) (fun (a:ByteArray)=>false) none z75_1 0 (fun x=>false) (fun x=>KA.zero [CK.b]) none] W8 (vc:=[zc0.P=Tryd.prog,zc0.Ok]) (hv:=W58)
  rintro ⟨uf,uo,uz,uS⟩ hJ2
  dsimp only [vf] at hJ2
  refine tz [32,31,30,4,2,1] ?_
  refine Q0 (decide (uf<(↑sh.length:Int))) (fun h3=>?_) (fun h3=>?_)
  ·refine tz [32,31,30,4,2,1] ?_
   refine Q2 Je (Qev ((zcJ sh uf).name) uz uS W116 W116) [5,4] ?_ [0] (zaw uz uS) W8 (vc:=[(0:Int)≤uf,uf<(↑sh.length:Int),uf.toNat<sh.length]) (hv:=W58)
   refine tz [39,32,31,30,4,2,1] ?_
   refine Q0 (!(nameB (zcJ sh uf).name&&!(uS (zcJ sh uf).name).getD false)) (fun h4=>?_) (fun h4=>?_)
   ·exact Q3 [] [0] [namedB sh lk gs=false] W53
   ·exact Q4 (vf sh lk gs) (uf,uo,uz,uS) ((uf+(1:Int),uo,uz+1,fun (a:ByteArray)=>if a=(zcJ sh uf).name then some true else uS a)) (by dsimp only [vf];have q:=uc h3;omega) (by dsimp only [vf];have q:=uc h3;refine ⟨by omega,by omega,by omega,?_⟩;rw [show (uf+1).toNat=uf.toNat+1 from by omega,hJ2.2.2.2];exact Qi5 (by omega) h4) [] [6] (zap uz sh uf uS) W8 (vc:=(zD uf)) (hv:=W58)
  ·refine tz [32,31,30,4,2,1] ?_
   refine Q9 (vg sh lk gs uo uz uS) (((0:Int),uo,uz,uS)) (by dsimp only [vg];have q:=ud h3;refine ⟨jA _,by omega,by omega,?_⟩;rw [hJ2.2.2.2,kq (by omega)];rfl) ?_ [] [6] (zbe uz uS) W8
   rintro ⟨ur,ux,uN,uX⟩ hJ4
   dsimp only [vg] at hJ4
   refine tz [45,44,43,4,2,1] ?_
   refine Q0 (decide (ur<(↑lk.length:Int))) (fun h5=>?_) (fun h5=>?_)
   ·refine tz [45,44,43,4,2,1] ?_
    refine Q2 Je (Qev ((zcJ lk ur).name) uN uX W116 W116) [5,4] ?_ [0] (zaw uN uX) W8 (vc:=[(0:Int)≤ur,ur<(↑lk.length:Int),ur.toNat<lk.length]) (hv:=W58)
    refine tz [52,8,45,44,43,4,2,1] ?_
    refine Q0 (!(nameB (zcJ lk ur).name&&!(uX (zcJ lk ur).name).getD false)||!decide ((zcJ lk ur).word=(0:Int))) (fun h6=>?_) (fun h6=>?_)
    ·exact Q3 [] [0] [namedB sh lk gs=false] W53
    ·exact Q4 (vg sh lk gs uo uz uS) (ur,ux,uN,uX) ((ur+(1:Int),ux,uN+1,fun (a:ByteArray)=>if a=(zcJ lk ur).name then some true else uX a)) (by dsimp only [vg];have q:=uc h5;omega) (by dsimp only [vg];have q:=uc h5;refine ⟨by omega,by omega,by omega,?_⟩;rw [show (ur+1).toNat=ur.toNat+1 from by omega,hJ4.2.2.2];exact Qi7 (by omega) h6) [] [6] (zap uN lk ur uX) W8 (vc:=(zD ur)) (hv:=W58)
   ·refine tz [45,44,43,4,2,1] ?_
    refine Q9 (vh sh lk gs ux uN uX) (((0:Int),ux,uN,uX)) (by dsimp only [vh];have q:=ud h5;refine ⟨jA _,by omega,by omega,?_⟩;rw [hJ4.2.2.2,kq (by omega)];rfl) ?_ [] [6] (zbe uN uX) W8
    rintro ⟨uv,uI,uF,uM⟩ hJ6
    dsimp only [vh] at hJ6
    refine tz [63,62,61,4,2] ?_
    refine Q0 (decide (uv<(↑gs.length:Int))) (fun h7=>?_) (fun h7=>?_)
    ·refine Y3 2 (uv.toNat) ?_ (vc:=(zbX uv gs)) (hv:=W58)
     refine tz [63,62,61,4,2] ?_
     refine Q2 Je (Qev ((zcu gs uv).name) uF uM W116 W116) [5,4] ?_ [0] (zaw uF uM) W8 (vc:=(zaD uv gs)) (hv:=W58)
     refine tz [70,63,62,61,4,2] ?_
     refine Q0 (!(nameB (zcu gs uv).name&&!(uM (zcu gs uv).name).getD false)) (fun h8=>?_) (fun h8=>?_)
     ·exact Q3 [] [0] [namedB sh lk gs=false] W53
     ·exact Q4 (vh sh lk gs ux uN uX) (uv,uI,uF,uM) ((uv+(1:Int),uI,uF+1,fun (a:ByteArray)=>if a=(zcu gs uv).name then some true else uM a)) (by dsimp only [vh];have q:=uc h7;omega) (by dsimp only [vh];have q:=uc h7;refine ⟨by omega,by omega,by omega,?_⟩;rw [show (uv+1).toNat=uv.toNat+1 from by omega,hJ6.2.2.2];exact Qi9 (by omega) h8) [] [6] [MpEq z75_1 (uF+1) (fun (a:ByteArray)=>(if a=(zcu gs uv).name then some true else uM a).isSome) (fun (a:ByteArray)=>(if a=(zcu gs uv).name then some true else uM a).getD false) none z75_1 (uF+1) (fun (q:ByteArray)=>(if q=(zcu gs uv).name then some true else uM q).isSome) (fun (q:ByteArray)=>(if q=(zcu gs uv).name then some true else uM q).getD false) none] W8 (vc:=(zD uv)) (hv:=W58)
    ·exact Q3 [] [0] [namedB sh lk gs=true] W53
structure Gs where
 vs:List VCo
 mem:List Int
 pr:List Prt
 steps:List Stp
section
variable {shared locks bu:Int} {cs:List Cor} {k:Int} {g:Gs}
end
structure Uns where
 err:Int
 g:Gs
section
variable {p:Did→Bool} {shared locks bu most:Int} {cs:List Cor} {k x:Int} {g:Gs} {u:Uns}
end
section
variable {shared locks bu most:Int} {cl:List Cls} {cs:List Cor} {x:Int} {order:List Int} {g:Gs} {u:Uns}
end
def g0 (mem:List Int) (cs:List Cor):Gs:=⟨newVs cs.length,mem,[],[]⟩
section
variable {mem:List Int} {shared locks bu most:Int} {cs:List Cor} {cl:List Cls} {order:List Int}
end
section
variable {shared locks bu:Int} {cs:List Cor} {k:Int} {g:Gs}
variable {most:Int} {cl:List Cls}
end
structure Ps where
 vs:List VCo
 mem:List Int
 pr:List Prt
 dids:List Did
 errs:List Int
def p0 (mem:List Int) (cs:List Cor):Ps:=⟨newVs cs.length,mem,[],[],[]⟩
section
variable {bu:Int} {cs:List Cor} {vs:List VCo} {mem:List Int} {pr:List Prt} {s:Stp} {p u:Ps} {l:List Stp} {x:Int}
variable {ds out v:List Did} {es:List Int}
end
section
variable {mem:List Int} {shared locks bu:Int} {cs:List Cor} {l:List Stp}
end
section
variable {mem:List Int} {shared locks bu most x:Int} {cs:List Cor} {cl:List Cls} {order:List Int} {g:Gs} {u:Uns}
end
section
variable {α:Type} [Inhabited α] [DecidableEq α] {a b:List α} {x:Int}
theorem Qbj (hl:a.length=b.length) (hu:∀ j:Nat,(j:Int)<x→a.getD j ub=b.getD j ub) (h:decide (x<(a.length:Int))=false):decide (a=b)=true:=by
 have:=ud h
 refine decide_eq_true (List.ext_getElem hl fun i h1 h2=>?_)
 have:=hu i W31
 simpa only [jb,jc h1,jc h2,Option.getD_some] using this
theorem Q8y (hu:∀ j:Nat,(j:Int)<x→a.getD j ub=b.getD j ub) (h0:0≤x) (h:a.getD x.toNat ub=b.getD x.toNat ub):∀ j:Nat,(j:Int)<x+1→a.getD j ub=b.getD j default:=fun j hj=>by
 by_cases e:(j:Int)=x
 ·have e2:x.toNat=j:=by omega
  rw [e2] at h;exact h
 ·exact hu j W31
theorem Qdm (hl:¬ a.length=b.length):decide (a=b)=false:=decide_eq_false (fun e=>hl (by rw [e]))
theorem Qdn (h:¬ a.getD x.toNat ub=b.getD x.toNat ub):decide (a=b)=false:=decide_eq_false (fun e=>h (by rw [e]))
end
theorem Z9 (l:List Int) (hl:l.length * 64≤140737488355328):Ctr Tryd.prog 60 [IntRow l] [.c (.h 0)]
 (Det (.c (.h 1)) [.dead,IntOwn l]):=by
 refine Ctr.intro [] Tryd.func60 K K ?_
 refine RunF.rnil (n:=l.length) (vc:=[]) 0 K trivial K (fun _=>by kernel_rfl) (fun nil1 hn1=>?_)
 refine tz [4,2,0] ?_
 refine Q0 (nil1) (fun h2=>?_) (fun h2=>?_)
 ·exact Q3 [0,1000001] [0] [l.length=0] W174
 ·exact Q3 [0,2] [0,1] [l.length=0+l.length,∀ (i:Nat),i<l.length→i64T (l.getD i 0)=fun j=>if i<0 then rowT 1 [] i j else i64T (l.getD (i-0) 0) j] W174 (vc:=[∀ (i j:Nat),i<l.length→j<1→flatT (i64T (l.getD i 0) j),0+l.length≤maxLen,(0+l.length) * 8≤140737488355328]) (hv:=(by simp only [Conj,Fits,Q7,Q8,Qa,Qb,News.len,maxLen]<;>(repeat' (first | apply jn | intro _))<;>first | (exact i64T.flat _ _ (by assumption)) | grind | (simp only [BL] at *;omega)))
def vH (X:Ext) (A:Option Addr) (nn:Nat) (cc:Nat) (now:List Int):Lp (Int×Bool):=⟨fun x=>{ N:=26,fr:=[se 13 (C.i .i64 x.1),{ slot:=12,g:=[],sv:=SV.c (C.i .i64 (↑(rd X (jg A nn cc)).length:Int)) },se 4 (C.b x.2),se 0 (C.h 2),se 1 (C.h 0)],rg:=[IntRow now,Reg.froz X,Reg.row 1 (rd X (jg A nn cc)).length (fun j=>i64T ((rd X (jg A nn cc)).getD j 0)) none],wr:=[] },fun x=>0≤x.1∧x.1≤((rd X (.slice A nn cc)).length:Int)∧(rd X (.slice A nn cc)).length=now.length∧∀ j:Nat,(j:Int)<x.1→(rd X (.slice A nn cc)).getD j ub=now.getD j ub,fun x=>(((rd X (.slice A nn cc)).length:Int)-x.1).toNat⟩
theorem Qke (X:Ext) (A:Option Addr) (nn cc:Nat) (now:List Int) (hT:Is X (.slice A nn cc)):Ctr Tryd.prog 62 [IntRow now,.froz X] [.c (.v (.slice A nn cc)),.c (.h 0)]
 (Det (.c (.b (decide (rd X (.slice A nn cc)=now)))) [.dead,.dead]):=by
 refine Ctr.intro [] Tryd.func62 K K ?_
 refine RunF.lens 0 (m:=now.length) K (fun hlens_0=>?_)
 refine RunF.tabout 0 1 (X:=X) (y:=jg A nn cc) (size:=1) (n:=(rd X (jg A nn cc)).length) (f:=fun j=>i64T ((rd X (jg A nn cc)).getD j 0)) K K K (Yi hT) ?_
 refine tz [0,1] ?_
 refine Q0 (!decide ((↑(rd X (jg A nn cc)).length:Int)=(↑now.length:Int))) (fun h1=>?_) (fun h1=>?_)
 ·exact Q3 [] [0] [decide (rd X (jg A nn cc)=now)=false] W103
 ·refine tz [4,0,1] ?_
  refine Q9 (vH X A nn cc now) (((0:Int),false)) ⟨by omega,by omega,by simp at h1;omega,fun j hj=>absurd hj W31⟩ ?_
  rintro ⟨uf,uo⟩ hJ2
  dsimp only [vH] at hJ2
  refine tz [13,12,4,0,1] ?_
  refine Q0 (decide (uf<(↑(rd X (jg A nn cc)).length:Int))) (fun h3=>?_) (fun h3=>?_)
  ·refine tz [13,12,4,0,1] ?_
   refine Q0 (!decide ((rd X (jg A nn cc)).getD uf.toNat 0=now.getD uf.toNat 0)) (fun h4=>?_) (fun h4=>?_) (vc:=[(0:Int)≤uf,uf<(↑(rd X (jg A nn cc)).length:Int),uf.toNat<(rd X (jg A nn cc)).length,(0:Int)≤uf,uf<(↑now.length:Int),uf.toNat<now.length]) (hv:=W34)
   ·exact Q3 [] [0] [decide (rd X (jg A nn cc)=now)=false] W103
   ·exact Q4 (vH X A nn cc now) (uf,uo) ((uf+(1:Int),uo)) (by dsimp only [vH];(try simp only [decide_eq_true_eq] at *);omega) ⟨by omega,by have:=uc h3;omega,hJ2.2.2.1,Q8y hJ2.2.2.2 hJ2.1 (by show (rd X (.slice A nn cc)).getD uf.toNat 0=now.getD uf.toNat 0;simpa using h4)⟩ (vc:=(zD uf)) (hv:=W34)
  ·exact Q3 [] [0] [decide (rd X (jg A nn cc)=now)=true] W103
abbrev zaz (y0:Nod):List Prop:=[[y0.next,y0.els].length=2,∀ (i:Nat),i < [y0.next,y0.els].length→i64T ([y0.next,y0.els].getD i 0)=rowT 1 [jf ja y0.next,jf ja y0.els] i]
abbrev za9 (y0:Nod):List Prop:=[[y0.next].length=1,∀ (i:Nat),i < [y0.next].length→i≠0→i64T ([y0.next].getD i 0)=fun x=>TC.any,i64T y0.next 0=TC.val (jf ja y0.next)]
theorem G9 (n:Nod):Ctr Tryd.prog 61 [] [.agg n.cs]
 (Det (.c (.h 0)) [IntOwn (flwL n)]):=by
 refine Ctr.intro [] Tryd.func61 K K ?_
 refine Q0 (decide (n.kind=(9:Int))) (fun h1=>?_) (fun h1=>?_)
 ·rw [Qks h1]
  exact Q3 [1000000] [0] [(0:Nat)=0] W52
 ·refine tz [2,1] ?_
  refine Q0 (decide (n.kind=(8:Int))&&!decide (n.els=n.next)) (fun h2=>?_) (fun h2=>?_)
  ·rw [Qkt h1 h2]
   exact Q3 [1] [0,1] (zaz n) W52
  ·rw [Qku h1 h2]
   exact Q3 [1] [0,1,2] (za9 n) W52
abbrev zcK (y0:Nod):C:=C.i .i64 y0.a.slot
abbrev zcL (y0:Nod):C:=C.i .i64 y0.a.word
abbrev zcM (y0:Nod):C:=C.i .i64 y0.b.slot
abbrev zcN (y0:Nod):C:=C.i .i64 y0.b.word
abbrev zcO (y0:Nod):C:=C.i .i64 y0.origin
abbrev zcU (y0:Nod):C:=C.i .i64 y0.thing
abbrev zcW (y0:Nod):C:=C.i .i64 y0.slot
abbrev zcX (y0:Nod):C:=C.b y0.a.slotted
abbrev zcY (y0:Nod):C:=C.b y0.b.slotted
abbrev zcZ (y0:Nod):C:=C.i .i64 y0.next
abbrev zdd (y0:Nod):C:=C.i .i64 y0.els
theorem Qm5 (n:Nod) (hk:1≤n.kind∧n.kind≤9):Ctr Tryd.prog 57 [] [.agg n.cs]
 (Det (.c (.i .u8 (prtN n))) []):=by
 refine Ctr.intro [] Tryd.func57 K K ?_
 rcases (show n.kind=(1:Int)∨n.kind=(2:Int)∨n.kind=(3:Int)∨n.kind=(4:Int)∨n.kind=(5:Int)∨n.kind=(6:Int)∨n.kind=(7:Int)∨n.kind=(8:Int)∨n.kind=(9:Int) from W31) with hs1 | hs1 | hs1 | hs1 | hs1 | hs1 | hs1 | hs1 | hs1
 ·refine tWk (St.mk 21 [En.mk 0 [] (SV.agg [C.i .u8 1,C.i .u8 n.op,zcW n,zcU n,zcX n,zcK n,zcL n,zcY n,zcM n,zcN n,zcZ n,zdd n,zcO n])] [] []) ?_ [] [0] [(1:Int)=n.kind] W37
  refine tz [0] ?_
  refine tG Y7 (Gl n.op) [] ?_ (vc:=[(0:Int)≤(1:Int),(1:Int)<(10:Int),1<10]) (hv:=W34)
  refine tz [16,13,4,2] ?_
  refine Q0 (decide ((1:Int)=(1:Int))&&twoB n.op) (fun h2=>?_) (fun h2=>?_)
  ·exact Q3 [] [0] [prtN n=bits kQ jz (43:Int) (16:Int)] W84
  ·exact Q3 [] [0] [prtN n=(43:Int)] W84
 ·refine tWk (St.mk 21 [En.mk 0 [] (SV.agg [C.i .u8 2,C.i .u8 n.op,zcW n,zcU n,zcX n,zcK n,zcL n,zcY n,zcM n,zcN n,zcZ n,zdd n,zcO n])] [] []) ?_ [] [0] [(2:Int)=n.kind] W37
  refine tz [0] ?_
  refine tG Y7 (Gl n.op) [] ?_ (vc:=[(0:Int)≤(2:Int),(2:Int)<(10:Int),2<10]) (hv:=W34)
  refine tz [16,13,4,2] ?_
  refine Q0 (decide ((2:Int)=(1:Int))&&twoB n.op) (fun h2=>?_) (fun h2=>?_)
  ·exact absurd h2 W80
  ·exact Q3 [] [0] [prtN n=(38:Int)] W84
 ·refine tWk (St.mk 21 [En.mk 0 [] (SV.agg [C.i .u8 3,C.i .u8 n.op,zcW n,zcU n,zcX n,zcK n,zcL n,zcY n,zcM n,zcN n,zcZ n,zdd n,zcO n])] [] []) ?_ [] [0] [(3:Int)=n.kind] W37
  refine tz [0] ?_
  refine tG Y7 (Gl n.op) [] ?_ (vc:=[(0:Int)≤(3:Int),(3:Int)<(10:Int),3<10]) (hv:=W34)
  refine tz [16,13,4,2] ?_
  refine Q0 (decide ((3:Int)=(1:Int))&&twoB n.op) (fun h2=>?_) (fun h2=>?_)
  ·exact absurd h2 W80
  ·exact Q3 [] [0] [prtN n=(44:Int)] W84
 ·refine tWk (St.mk 21 [En.mk 0 [] (SV.agg [C.i .u8 4,C.i .u8 n.op,zcW n,zcU n,zcX n,zcK n,zcL n,zcY n,zcM n,zcN n,zcZ n,zdd n,zcO n])] [] []) ?_ [] [0] [(4:Int)=n.kind] W37
  refine tz [0] ?_
  refine tG Y7 (Gl n.op) [] ?_ (vc:=[(0:Int)≤(4:Int),(4:Int)<(10:Int),4<10]) (hv:=W34)
  refine tz [16,13,4,2] ?_
  refine Q0 (decide ((4:Int)=(1:Int))&&twoB n.op) (fun h2=>?_) (fun h2=>?_)
  ·exact absurd h2 W80
  ·exact Q3 [] [0] [prtN n=(46:Int)] W84
 ·refine tWk (St.mk 21 [En.mk 0 [] (SV.agg [C.i .u8 5,C.i .u8 n.op,zcW n,zcU n,zcX n,zcK n,zcL n,zcY n,zcM n,zcN n,zcZ n,zdd n,zcO n])] [] []) ?_ [] [0] [(5:Int)=n.kind] W37
  refine tz [0] ?_
  refine tG Y7 (Gl n.op) [] ?_ (vc:=[(0:Int)≤(5:Int),(5:Int)<(10:Int),5<10]) (hv:=W34)
  refine tz [16,13,4,2] ?_
  refine Q0 (decide ((5:Int)=(1:Int))&&twoB n.op) (fun h2=>?_) (fun h2=>?_)
  ·exact absurd h2 W80
  ·exact Q3 [] [0] [prtN n=(36:Int)] W84
 ·refine tWk (St.mk 21 [En.mk 0 [] (SV.agg [C.i .u8 6,C.i .u8 n.op,zcW n,zcU n,zcX n,zcK n,zcL n,zcY n,zcM n,zcN n,zcZ n,zdd n,zcO n])] [] []) ?_ [] [0] [(6:Int)=n.kind] W37
  refine tz [0] ?_
  refine tG Y7 (Gl n.op) [] ?_ (vc:=[(0:Int)≤(6:Int),(6:Int)<(10:Int),6<10]) (hv:=W34)
  refine tz [16,13,4,2] ?_
  refine Q0 (decide ((6:Int)=(1:Int))&&twoB n.op) (fun h2=>?_) (fun h2=>?_)
  ·exact absurd h2 W80
  ·exact Q3 [] [0] [prtN n=(36:Int)] W84
 ·refine tWk (St.mk 21 [En.mk 0 [] (SV.agg [C.i .u8 7,C.i .u8 n.op,zcW n,zcU n,zcX n,zcK n,zcL n,zcY n,zcM n,zcN n,zcZ n,zdd n,zcO n])] [] []) ?_ [] [0] [(7:Int)=n.kind] W37
  refine tz [0] ?_
  refine tG Y7 (Gl n.op) [] ?_ (vc:=[(0:Int)≤(7:Int),(7:Int)<(10:Int),7<10]) (hv:=W34)
  refine tz [16,13,4,2] ?_
  refine Q0 (decide ((7:Int)=(1:Int))&&twoB n.op) (fun h2=>?_) (fun h2=>?_)
  ·exact absurd h2 W80
  ·exact Q3 [] [0] [prtN n=(40:Int)] W84
 ·refine tWk (St.mk 21 [En.mk 0 [] (SV.agg [C.i .u8 8,C.i .u8 n.op,zcW n,zcU n,zcX n,zcK n,zcL n,zcY n,zcM n,zcN n,zcZ n,zdd n,zcO n])] [] []) ?_ [] [0] [(8:Int)=n.kind] W37
  refine tz [0] ?_
  refine tG Y7 (Gl n.op) [] ?_ (vc:=[(0:Int)≤(8:Int),(8:Int)<(10:Int),8<10]) (hv:=W34)
  refine tz [16,13,4,2] ?_
  refine Q0 (decide ((8:Int)=(1:Int))&&twoB n.op) (fun h2=>?_) (fun h2=>?_)
  ·exact absurd h2 W80
  ·exact Q3 [] [0] [prtN n=(104:Int)] W84
 ·refine tWk (St.mk 21 [En.mk 0 [] (SV.agg [C.i .u8 9,C.i .u8 n.op,zcW n,zcU n,zcX n,zcK n,zcL n,zcY n,zcM n,zcN n,zcZ n,zdd n,zcO n])] [] []) ?_ [] [0] [(9:Int)=n.kind] W37
  refine tz [0] ?_
  refine tG Y7 (Gl n.op) [] ?_ (vc:=[(0:Int)≤(9:Int),(9:Int)<(10:Int),9<10]) (hv:=W34)
  refine tz [16,13,4,2] ?_
  refine Q0 (decide ((9:Int)=(1:Int))&&twoB n.op) (fun h2=>?_) (fun h2=>?_)
  ·exact absurd h2 W80
  ·exact Q3 [] [0] [prtN n=(0:Int)] W84
abbrev z77_1:=(MT.mk Tryd.prog 133 3 4 [CK.i ja] false [CK.b] false)
theorem Qew:MT.Ok z77_1:=MT.ok_int K K (.inr rfl) (fun w=>by kernel_rfl)
abbrev ze (y0:Grf):Reg:=Reg.box 59 [C.v (jF y0.name),C.i .i64 y0.locals,C.i .i64 y0.slots,C.h 0]
abbrev zO:En:=se 2 (C.v (jg none 0 0))
abbrev zae (y0:Nat) (y1:Int → Option Bool):Reg:=Reg.mp (MT.mk Tryd.prog 133 3 4 [CK.i ja] false [CK.b] false) y0 (fun (a:Int)=>(y1 a).isSome) (fun (a:Int)=>(y1 a).getD false) none
abbrev zav (y0:Grf):Reg:=Nod.rowR y0.nodes
abbrev zbM:En:=se 1 (C.p 2 0)
abbrev zcb (y0:Int):En:=se 7 (C.i .i64 y0)
abbrev zb1 (y0 y1:Int):List En:=[se 10 (C.h 7),se 9 (C.p 6 0),zcb y0,se 6 (C.h 5),se 5 (C.h 4),se 4 (C.h 3),se 3 (C.i .i64 y1),zO,zbM]
def C51 (g:Grf) (ue:Int) (uj:Int) (ug:Ext) (ul:List Hdl) (uA:Nat) (uq:Int→Option Bool) (ui:List Int) (nw:List Int):St:=St.mk 109 (zb1 ue uj) [zav g,Reg.froz ug,ze g,Hdl.ownR ul,zae uA uq,IntOwn ui,Reg.box 64 ((g.nodes.getD (ui.getD ue.toNat 0).toNat ub)).cs,IntRow nw,Reg.dead] []
def C51_J (g:Grf) (ue:Int) (uj:Int) (ug:Ext) (ul:List Hdl) (uA:Nat) (uq:Int→Option Bool) (ui:List Int) (nw:List Int):Prop:=nowH (g.nodes.getD (ui.getD ue.toNat 0).toNat ub) (rd ug (jg (ul.getD (ui.getD ue.toNat 0).toNat ub).a (ul.getD (ui.getD ue.toNat 0).toNat ub).n (ul.getD (ui.getD ue.toNat 0).toNat ub).c))=some nw
abbrev z77_4 (g:Grf):=Reg.box 59 [C.v (jF g.name),C.i .i64 g.locals,C.i .i64 g.slots,C.h 0]
abbrev z77_5 (g:Grf):=rowOf 13 (·.tc) g.nodes
def vI (g:Grf) (X0:Ext):Lp (Int×Int×Ext×List Hdl×Nat×(Int→Option (Bool))×List Int):=⟨fun x=>{ N:=109,fr:=[se 7 (C.i .i64 x.1),se 6 (C.h 5),se 5 (C.h 4),se 4 (C.h 3),se 3 (C.i .i64 x.2.1),zO,zbM],rg:=[z77_5 g,Reg.froz (x.2.2.1),z77_4 g,Hdl.ownR (x.2.2.2.1),Reg.mp z77_1 (x.2.2.2.2.1) (fun a=>(x.2.2.2.2.2.1 a).isSome) (fun a=>(x.2.2.2.2.2.1 a).getD (false)) none,IntOwn (x.2.2.2.2.2.2)],wr:=[] },fun x=>HJ g.nodes x.1 x.2.2.1 x.2.2.2.1 x.2.2.2.2.1 x.2.2.2.2.2.1 x.2.2.2.2.2.2,fun x=>(g.nodes.length+1-x.1.toNat)⟩
abbrev z77_2 (g:Grf) (ui:List Int) (ue:Int):=(g.nodes.getD (ui.getD ue.toNat 0).toNat ub)
def vp (g:Grf) (ue:Int) (uj:Int) (ug:Ext) (ul:List Hdl) (uA:Nat) (uq:Int→Option Bool) (ui:List Int) (nw:List Int):Lp (Int×Int×Ext×List Hdl×Nat×(Int→Option (Bool))×List Int):=⟨fun x=>{ N:=109,fr:=[se 80 (C.i .i64 x.1),{ slot:=79,g:=[],sv:=SV.c (C.i .i64 (↑(flwL (z77_2 g ui ue)).length:Int)) },se 78 (C.h 9),se 10 (C.h 7),zcb ue,se 6 (C.h 5),se 5 (C.h 4),se 4 (C.h 3),se 3 (C.i .i64 x.2.1),zO,zbM],rg:=[z77_5 g,Reg.froz (x.2.2.1),z77_4 g,Hdl.ownR (x.2.2.2.1),Reg.mp z77_1 (x.2.2.2.2.1) (fun a=>(x.2.2.2.2.2.1 a).isSome) (fun a=>(x.2.2.2.2.2.1 a).getD (false)) none,IntOwn (x.2.2.2.2.2.2),Reg.box 64 [C.i .u8 (z77_2 g ui ue).kind,C.i .u8 (z77_2 g ui ue).op,C.i .i64 (z77_2 g ui ue).slot,C.i .i64 (z77_2 g ui ue).thing,C.b (z77_2 g ui ue).a.slotted,C.i .i64 (z77_2 g ui ue).a.slot,C.i .i64 (z77_2 g ui ue).a.word,C.b (z77_2 g ui ue).b.slotted,C.i .i64 (z77_2 g ui ue).b.slot,C.i .i64 (z77_2 g ui ue).b.word,C.i .i64 (z77_2 g ui ue).next,C.i .i64 (z77_2 g ui ue).els,C.i .i64 (z77_2 g ui ue).origin],IntRow nw,Reg.dead,IntOwn (flwL (z77_2 g ui ue))],wr:=[] },fun x=>HK g.nodes ue (g.nodes.getD (ui.getD ue.toNat 0).toNat ub) nw x.1 x.2.2.1 x.2.2.2.1 x.2.2.2.2.1 x.2.2.2.2.2.1 x.2.2.2.2.2.2,fun x=>((flwL (g.nodes.getD (ui.getD ue.toNat 0).toNat ub)).length-x.1).toNat⟩
abbrev z77_3 (ue:Int) (uj:Int):=[se 10 (C.h 10),se 9 (C.p 6 0),se 7 (C.i .i64 ue),se 6 (C.h 5),se 5 (C.h 4),se 4 (C.h 3),se 3 (C.i .i64 uj),se 2 (C.v (jg none 0 0)),se 1 (C.p 2 0)]
abbrev z77_6 (ul:List Hdl):=ownOf 49 1 (·.tc) ul
abbrev zc (y0:Grf) (y1:List Int) (y2:Int):Reg:=Reg.box 64 [C.i .u8 (y0.nodes.getD (y1.getD y2.toNat 0).toNat ub).kind,C.i .u8 (y0.nodes.getD (y1.getD y2.toNat 0).toNat ub).op,C.i .i64 (y0.nodes.getD (y1.getD y2.toNat 0).toNat ub).slot,C.i .i64 (y0.nodes.getD (y1.getD y2.toNat 0).toNat ub).thing,C.b (y0.nodes.getD (y1.getD y2.toNat 0).toNat ub).a.slotted,C.i .i64 (y0.nodes.getD (y1.getD y2.toNat 0).toNat ub).a.slot,C.i .i64 (y0.nodes.getD (y1.getD y2.toNat 0).toNat ub).a.word,C.b (y0.nodes.getD (y1.getD y2.toNat 0).toNat ub).b.slotted,C.i .i64 (y0.nodes.getD (y1.getD y2.toNat 0).toNat ub).b.slot,C.i .i64 (y0.nodes.getD (y1.getD y2.toNat 0).toNat ub).b.word,C.i .i64 (y0.nodes.getD (y1.getD y2.toNat 0).toNat ub).next,C.i .i64 (y0.nodes.getD (y1.getD y2.toNat 0).toNat ub).els,C.i .i64 (y0.nodes.getD (y1.getD y2.toNat 0).toNat ub).origin]
abbrev zg (y0:Ext) (y1:List Hdl) (y2:List Int) (y3:Int) (y4:Grf):Reg:=Reg.own 3 1 ((rd y0 (jg (y1.getD (y2.getD y3.toNat 0).toNat ub).a (y1.getD (y2.getD y3.toNat 0).toNat ub).n (y1.getD (y2.getD y3.toNat 0).toNat ub).c)).length+1) (fun i=>i64T ((rd y0 (jg (y1.getD (y2.getD y3.toNat 0).toNat ub).a (y1.getD (y2.getD y3.toNat 0).toNat ub).n (y1.getD (y2.getD y3.toNat 0).toNat ub).c)).getD i 0)) (some ((rd y0 (jg (y1.getD (y2.getD y3.toNat 0).toNat ub).a (y1.getD (y2.getD y3.toNat 0).toNat ub).n (y1.getD (y2.getD y3.toNat 0).toNat ub).c)).length,[C.i .i64 (y4.nodes.getD (y2.getD y3.toNat 0).toNat ub).thing]))
abbrev zn (y0:Ext) (y1:List Hdl) (y2:List Int) (y3:Int):List Prop:=[decide ((↑(rd y0 (jg (y1.getD (y2.getD y3.toNat 0).toNat ub).a (y1.getD (y2.getD y3.toNat 0).toNat ub).n (y1.getD (y2.getD y3.toNat 0).toNat ub).c)).length:Int)=(0:Int))=false→Fits ja ((↑(rd y0 (jg (y1.getD (y2.getD y3.toNat 0).toNat ub).a (y1.getD (y2.getD y3.toNat 0).toNat ub).n (y1.getD (y2.getD y3.toNat 0).toNat ub).c)).length:Int)-(1:Int)),decide ((↑(rd y0 (jg (y1.getD (y2.getD y3.toNat 0).toNat ub).a (y1.getD (y2.getD y3.toNat 0).toNat ub).n (y1.getD (y2.getD y3.toNat 0).toNat ub).c)).length:Int)=(0:Int))=false→(0:Int)≤(↑(rd y0 (jg (y1.getD (y2.getD y3.toNat 0).toNat ub).a (y1.getD (y2.getD y3.toNat 0).toNat ub).n (y1.getD (y2.getD y3.toNat 0).toNat ub).c)).length:Int)-(1:Int),decide ((↑(rd y0 (jg (y1.getD (y2.getD y3.toNat 0).toNat ub).a (y1.getD (y2.getD y3.toNat 0).toNat ub).n (y1.getD (y2.getD y3.toNat 0).toNat ub).c)).length:Int)=(0:Int))=false→(↑(rd y0 (jg (y1.getD (y2.getD y3.toNat 0).toNat ub).a (y1.getD (y2.getD y3.toNat 0).toNat ub).n (y1.getD (y2.getD y3.toNat 0).toNat ub).c)).length:Int)-(1:Int)<(↑(rd y0 (jg (y1.getD (y2.getD y3.toNat 0).toNat ub).a (y1.getD (y2.getD y3.toNat 0).toNat ub).n (y1.getD (y2.getD y3.toNat 0).toNat ub).c)).length:Int),decide ((↑(rd y0 (jg (y1.getD (y2.getD y3.toNat 0).toNat ub).a (y1.getD (y2.getD y3.toNat 0).toNat ub).n (y1.getD (y2.getD y3.toNat 0).toNat ub).c)).length:Int)=(0:Int))=false→((↑(rd y0 (jg (y1.getD (y2.getD y3.toNat 0).toNat ub).a (y1.getD (y2.getD y3.toNat 0).toNat ub).n (y1.getD (y2.getD y3.toNat 0).toNat ub).c)).length:Int)-(1:Int)).toNat<(rd y0 (jg (y1.getD (y2.getD y3.toNat 0).toNat ub).a (y1.getD (y2.getD y3.toNat 0).toNat ub).n (y1.getD (y2.getD y3.toNat 0).toNat ub).c)).length]
abbrev zJ (y0:Grf):Prop:=∀ i:Nat,i<y0.nodes.length→∀ x∈flwL (y0.nodes.getD i ub),0≤x∧x<(y0.nodes.length:Int)
abbrev zK (y0:Ext) (y1:List Hdl) (y2:List Int) (y3:Int):List Prop:=[(rd y0 (jg (y1.getD (y2.getD y3.toNat 0).toNat ub).a (y1.getD (y2.getD y3.toNat 0).toNat ub).n (y1.getD (y2.getD y3.toNat 0).toNat ub).c)).length+1≤maxLen,((rd y0 (jg (y1.getD (y2.getD y3.toNat 0).toNat ub).a (y1.getD (y2.getD y3.toNat 0).toNat ub).n (y1.getD (y2.getD y3.toNat 0).toNat ub).c)).length+1) * 8≤140737488355328]
abbrev zR (y0:Nat) (y1:Int → Option Bool):List Prop:=[MpEq z77_1 y0 (fun (a:Int)=>(y1 a).isSome) (fun (a:Int)=>(y1 a).getD false) none z77_1 y0 (fun (a:Int)=>(y1 a).isSome) (fun (a:Int)=>(y1 a).getD false) none]
abbrev zT (y0:Ext) (y1:List Hdl) (y2:List Int) (y3:Int):List Prop:=[Fits ja ((↑(rd y0 (jg (y1.getD (y2.getD y3.toNat 0).toNat ub).a (y1.getD (y2.getD y3.toNat 0).toNat ub).n (y1.getD (y2.getD y3.toNat 0).toNat ub).c)).length:Int)-(1:Int)),(0:Int)≤(0:Int),(0:Int)≤(↑(rd y0 (jg (y1.getD (y2.getD y3.toNat 0).toNat ub).a (y1.getD (y2.getD y3.toNat 0).toNat ub).n (y1.getD (y2.getD y3.toNat 0).toNat ub).c)).length:Int)-(1:Int),(↑(rd y0 (jg (y1.getD (y2.getD y3.toNat 0).toNat ub).a (y1.getD (y2.getD y3.toNat 0).toNat ub).n (y1.getD (y2.getD y3.toNat 0).toNat ub).c)).length:Int)-(1:Int)≤(↑(rd y0 (jg (y1.getD (y2.getD y3.toNat 0).toNat ub).a (y1.getD (y2.getD y3.toNat 0).toNat ub).n (y1.getD (y2.getD y3.toNat 0).toNat ub).c)).length:Int)]
abbrev zaj (y0:Grf):List Prop:=[(0:Int)≤(↑y0.nodes.length:Int),(↑y0.nodes.length:Int)≤(↑y0.nodes.length:Int),(↑y0.nodes.length:Int) * (24:Int)≤(140737488355328:Int),(↑y0.nodes.length:Int)≤(↑maxLen:Int),(MT.mk Tryd.prog 133 3 4 [CK.i ja] false [CK.b] false).P=Tryd.prog,(MT.mk Tryd.prog 133 3 4 [CK.i ja] false [CK.b] false).Ok,Fits ja (0:Int),(MT.mk Tryd.prog 133 3 4 [CK.i ja] false [CK.b] false).P=Tryd.prog,0<maxLen]
abbrev zay (y0 y1:Int) (y2:Grf) (y3:Ext) (y4:List Hdl) (y5:Nat) (y6:Int → Option Bool) (y7:List Int):St:=St.mk 109 (z77_3 y0 y1) [z77_5 y2,Reg.froz y3,z77_4 y2,z77_6 y4,Reg.mp z77_1 y5 (fun (a:Int)=>(y6 a).isSome) (fun (a:Int)=>(y6 a).getD false) none,IntOwn y7,zc y2 y7 y0,Reg.dead,Reg.dead,Reg.dead,zg y3 y4 y7 y0 y2] []
abbrev za3 (y0:Int) (y1:Grf) (y2:List Int) (y3:Int):List Prop:=[(0:Int)≤y0,y0<(↑(flwL (y1.nodes.getD (y2.getD y3.toNat 0).toNat ub)).length:Int),y0.toNat<(flwL (y1.nodes.getD (y2.getD y3.toNat 0).toNat ub)).length,Fits ja ((flwL (y1.nodes.getD (y2.getD y3.toNat 0).toNat ub)).getD y0.toNat 0),(MT.mk Tryd.prog 133 3 4 [CK.i ja] false [CK.b] false).P=Tryd.prog]
abbrev za4 (y0:Grf) (y1:List Int) (y2 y3:Int) (y4:List Hdl) (y5:List Int):List Prop:=[(0:Int)≤(flwL (y0.nodes.getD (y1.getD y2.toNat 0).toNat ub)).getD y3.toNat 0,(flwL (y0.nodes.getD (y1.getD y2.toNat 0).toNat ub)).getD y3.toNat 0<(↑y4.length:Int),((flwL (y0.nodes.getD (y1.getD y2.toNat 0).toNat ub)).getD y3.toNat 0).toNat<y4.length,y5.length+1≤maxLen,(y5.length+1) * 8≤140737488355328,Fits ja (y3+(1:Int))]
abbrev zaA (y0:Int) (y1:List Int) (y2:Grf) (y3:List Hdl):List Prop:=[(0:Int)≤y0,y0<(↑y1.length:Int),y0.toNat<y1.length,(0:Int)≤y1.getD y0.toNat 0,y1.getD y0.toNat 0<(↑y2.nodes.length:Int),(y1.getD y0.toNat 0).toNat<y2.nodes.length,(0:Int)≤y1.getD y0.toNat 0,y1.getD y0.toNat 0<(↑y3.length:Int),(y1.getD y0.toNat 0).toNat<y3.length]
abbrev zaO (y0:Grf) (y1:List Int) (y2 y3:Int) (y4:List Hdl):List Prop:=[(0:Int)≤(flwL (y0.nodes.getD (y1.getD y2.toNat 0).toNat ub)).getD y3.toNat 0,(flwL (y0.nodes.getD (y1.getD y2.toNat 0).toNat ub)).getD y3.toNat 0<(↑y4.length:Int),((flwL (y0.nodes.getD (y1.getD y2.toNat 0).toNat ub)).getD y3.toNat 0).toNat<y4.length]
abbrev zb0 (y0:Grf) (y1:List Int) (y2 y3:Int) (y4:Nat):List Prop:=[Fits ja ((flwL (y0.nodes.getD (y1.getD y2.toNat 0).toNat ub)).getD y3.toNat 0),(MT.mk Tryd.prog 133 3 4 [CK.i ja] false [CK.b] false).P=Tryd.prog,y4<maxLen]
theorem Qo4 (g:Grf) (hq:zJ g) (hN:1≤g.nodes.length∧g.nodes.length≤4096):Ctr Tryd.prog 38 [zav g] [.agg (g.cs 0)]
 (Det (.tup [(false,[.h 1]),(false,[.i .i64 (heldF g.nodes)])]) [.dead,.one]):=by
 refine Ctr.intro [] Tryd.func38 K K ?_
 refine RunF.tabnew K (fun X0=>?_)
 refine tz [0] ?_
 refine Q9 (vI g X0) (((0:Int),(0:Int),X0,ji g.nodes.length Hdl.none,1,fun (q:Int)=>if q=(0:Int) then some true else none,[(0:Int)])) (.start hN.1 X0) ?_ [] [6,7,8,9,10,11] [(ji g.nodes.length Hdl.none).length=g.nodes.length,∀ (i:Nat),i<(ji g.nodes.length Hdl.none).length→((ji g.nodes.length Hdl.none).getD i ub).tc=fun j=>valT (jg none 0 0).cells.toList j,MpEq z77_1 1 (fun (a:Int)=>(if a=(0:Int) then some true else none).isSome) (fun (a:Int)=>(if a=(0:Int) then some true else none).getD false) none z77_1 1 (fun (q:Int)=>decide (q=(0:Int))||false) (fun (q:Int)=>if q=(0:Int) then true else KA.zero [CK.b]) none,[(0:Int)].length=1,∀ (i:Nat),i < [(0:Int)].length→i≠0→i64T ([(0:Int)].getD i 0)=fun x=>TC.any,i64T (0:Int) 0=TC.val (jf ja (0:Int))] W9 (vc:=(zaj g)) (hv:=W23)
 rintro ⟨ue,uj,ug,ul,uA,uq,ui⟩ hJ1
 dsimp only [vI] at hJ1
 refine tz [7,6,5,4,3,2,1] ?_
 refine Q0 (decide (ue<(↑ui.length:Int))) (fun h2=>?_) (fun h2=>?_)
 ·refine RunF.cutn 5 (fun nw=>C51 g ue uj ug ul uA uq ui nw) (fun nw=>C51_J g ue uj ug ul uA uq ui nw) ?_ ?_
  ·refine tz [7,6,5,4,3,2,1] ?_
   refine Q0 (decide ((g.nodes.getD (ui.getD ue.toNat 0).toNat ub).kind=(5:Int))) (fun h3=>?_) (fun h3=>?_) (vc:=(zaA ue ui g ul)) (hv:=W23)
   ·refine RunF.tabout 10 1 (X:=ug) (y:=jg (ul.getD (ui.getD ue.toNat 0).toNat ub).a (ul.getD (ui.getD ue.toNat 0).toNat ub).n (ul.getD (ui.getD ue.toNat 0).toNat ub).c) (size:=1) (n:=(rd ug (jg (ul.getD (ui.getD ue.toNat 0).toNat ub).a (ul.getD (ui.getD ue.toNat 0).toNat ub).n (ul.getD (ui.getD ue.toNat 0).toNat ub).c)).length) (f:=fun j=>i64T ((rd ug (jg (ul.getD (ui.getD ue.toNat 0).toNat ub).a (ul.getD (ui.getD ue.toNat 0).toNat ub).n (ul.getD (ui.getD ue.toNat 0).toNat ub).c)).getD j 0)) K K K (Yi (hJ1.is (uc h2))) ?_
    refine tz [10,9,7,6,5,4,3,2,1] ?_
    refine Q04 2 (fun _:Unit=>zay ue uj g ug ul uA uq ui) (fun _=>True) ?_ ?_
    ·refine ⟨⟨trivial,?_⟩,?_⟩
     ·refine Q2 Ya (Z9 (rd ug (jg (ul.getD (ui.getD ue.toNat 0).toNat ub).a (ul.getD (ui.getD ue.toNat 0).toNat ub).n (ul.getD (ui.getD ue.toNat 0).toNat ub).c)) W62) [7] ?_
      exact tTo (fun x=>zay ue uj g ug ul uA uq ui) (fun x=>True) () trivial [] [8] (zR uA uq) W9 (vc:=(zK ug ul ui ue)) (hv:=W23)
     ·refine Q2 Ya (Z9 (rd ug (jg (ul.getD (ui.getD ue.toNat 0).toNat ub).a (ul.getD (ui.getD ue.toNat 0).toNat ub).n (ul.getD (ui.getD ue.toNat 0).toNat ub).c)) W62) [7] ?_
      exact tTo (fun x=>zay ue uj g ug ul uA uq ui) (fun x=>True) () trivial [] [8] (zR uA uq) W9 (vc:=(zK ug ul ui ue)) (hv:=W23)
    ·rintro ⟨⟩ _
     exact tTo (fun nw=>C51 g ue uj ug ul uA uq ui nw) (fun nw=>C51_J g ue uj ug ul uA uq ui nw) (rd ug (jg (ul.getD (ui.getD ue.toNat 0).toNat ub).a (ul.getD (ui.getD ue.toNat 0).toNat ub).n (ul.getD (ui.getD ue.toNat 0).toNat ub).c)++[(g.nodes.getD (ui.getD ue.toNat 0).toNat ub).thing]) W60 [0,1,2,3,4,5,6,10,8] [8,24,25,26] [MpEq z77_1 uA (fun (a:Int)=>(uq a).isSome) (fun (a:Int)=>(uq a).getD false) none z77_1 uA (fun (a:Int)=>(uq a).isSome) (fun (a:Int)=>(uq a).getD false) none,(rd ug (jg (ul.getD (ui.getD ue.toNat 0).toNat ub).a (ul.getD (ui.getD ue.toNat 0).toNat ub).n (ul.getD (ui.getD ue.toNat 0).toNat ub).c)++[(g.nodes.getD (ui.getD ue.toNat 0).toNat ub).thing]).length=(rd ug (jg (ul.getD (ui.getD ue.toNat 0).toNat ub).a (ul.getD (ui.getD ue.toNat 0).toNat ub).n (ul.getD (ui.getD ue.toNat 0).toNat ub).c)).length+1,∀ (i:Nat),i<(rd ug (jg (ul.getD (ui.getD ue.toNat 0).toNat ub).a (ul.getD (ui.getD ue.toNat 0).toNat ub).n (ul.getD (ui.getD ue.toNat 0).toNat ub).c)++[(g.nodes.getD (ui.getD ue.toNat 0).toNat ub).thing]).length→i≠(rd ug (jg (ul.getD (ui.getD ue.toNat 0).toNat ub).a (ul.getD (ui.getD ue.toNat 0).toNat ub).n (ul.getD (ui.getD ue.toNat 0).toNat ub).c)).length→i64T ((rd ug (jg (ul.getD (ui.getD ue.toNat 0).toNat ub).a (ul.getD (ui.getD ue.toNat 0).toNat ub).n (ul.getD (ui.getD ue.toNat 0).toNat ub).c)++[(g.nodes.getD (ui.getD ue.toNat 0).toNat ub).thing]).getD i 0)=i64T ((rd ug (jg (ul.getD (ui.getD ue.toNat 0).toNat ub).a (ul.getD (ui.getD ue.toNat 0).toNat ub).n (ul.getD (ui.getD ue.toNat 0).toNat ub).c)).getD i 0),i64T ((rd ug (jg (ul.getD (ui.getD ue.toNat 0).toNat ub).a (ul.getD (ui.getD ue.toNat 0).toNat ub).n (ul.getD (ui.getD ue.toNat 0).toNat ub).c)++[(g.nodes.getD (ui.getD ue.toNat 0).toNat ub).thing]).getD (rd ug (jg (ul.getD (ui.getD ue.toNat 0).toNat ub).a (ul.getD (ui.getD ue.toNat 0).toNat ub).n (ul.getD (ui.getD ue.toNat 0).toNat ub).c)).length (0:Int)) 0=TC.val (jf ja (g.nodes.getD (ui.getD ue.toNat 0).toNat ub).thing)] W9
   ·refine tz [40,10,9,8,7,6,5,4,3,2,1] ?_
    refine Q0 (decide ((g.nodes.getD (ui.getD ue.toNat 0).toNat ub).kind=(6:Int))) (fun h4=>?_) (fun h4=>?_)
    ·refine RunF.tabout 10 1 (X:=ug) (y:=jg (ul.getD (ui.getD ue.toNat 0).toNat ub).a (ul.getD (ui.getD ue.toNat 0).toNat ub).n (ul.getD (ui.getD ue.toNat 0).toNat ub).c) (size:=1) (n:=(rd ug (jg (ul.getD (ui.getD ue.toNat 0).toNat ub).a (ul.getD (ui.getD ue.toNat 0).toNat ub).n (ul.getD (ui.getD ue.toNat 0).toNat ub).c)).length) (f:=fun j=>i64T ((rd ug (jg (ul.getD (ui.getD ue.toNat 0).toNat ub).a (ul.getD (ui.getD ue.toNat 0).toNat ub).n (ul.getD (ui.getD ue.toNat 0).toNat ub).c)).getD j 0)) K K K (Yi (hJ1.is (uc h2))) ?_
     refine tz [10,9,8,7,6,5,4,3,2,1] ?_
     refine Q0 (decide ((↑(rd ug (jg (ul.getD (ui.getD ue.toNat 0).toNat ub).a (ul.getD (ui.getD ue.toNat 0).toNat ub).n (ul.getD (ui.getD ue.toNat 0).toNat ub).c)).length:Int)=(0:Int))||!decide ((rd ug (jg (ul.getD (ui.getD ue.toNat 0).toNat ub).a (ul.getD (ui.getD ue.toNat 0).toNat ub).n (ul.getD (ui.getD ue.toNat 0).toNat ub).c)).getD ((↑(rd ug (jg (ul.getD (ui.getD ue.toNat 0).toNat ub).a (ul.getD (ui.getD ue.toNat 0).toNat ub).n (ul.getD (ui.getD ue.toNat 0).toNat ub).c)).length:Int)-(1:Int)).toNat (0:Int)=(g.nodes.getD (ui.getD ue.toNat 0).toNat ub).thing)) (fun h5=>?_) (fun h5=>?_) (vc:=(zn ug ul ui ue)) (hv:=W23)
     ·exact Q3 [0,1000001] [0] [heldF g.nodes=ui.getD ue.toNat 0] W85
     ·exact tTo (fun nw=>C51 g ue uj ug ul uA uq ui nw) (fun nw=>C51_J g ue uj ug ul uA uq ui nw) (jS (((↑(rd ug (jg (ul.getD (ui.getD ue.toNat 0).toNat ub).a (ul.getD (ui.getD ue.toNat 0).toNat ub).n (ul.getD (ui.getD ue.toNat 0).toNat ub).c)).length:Int)-(1:Int)).toNat-0) (List.drop 0 (rd ug (jg (ul.getD (ui.getD ue.toNat 0).toNat ub).a (ul.getD (ui.getD ue.toNat 0).toNat ub).n (ul.getD (ui.getD ue.toNat 0).toNat ub).c)))) W60 [0,1,2,3,4,5,6,8,8] [8,24,25] [MpEq z77_1 uA (fun (a:Int)=>(uq a).isSome) (fun (a:Int)=>(uq a).getD false) none z77_1 uA (fun (a:Int)=>(uq a).isSome) (fun (a:Int)=>(uq a).getD false) none,(jS (((↑(rd ug (jg (ul.getD (ui.getD ue.toNat 0).toNat ub).a (ul.getD (ui.getD ue.toNat 0).toNat ub).n (ul.getD (ui.getD ue.toNat 0).toNat ub).c)).length:Int)-(1:Int)).toNat-0) (List.drop 0 (rd ug (jg (ul.getD (ui.getD ue.toNat 0).toNat ub).a (ul.getD (ui.getD ue.toNat 0).toNat ub).n (ul.getD (ui.getD ue.toNat 0).toNat ub).c)))).length=((↑(rd ug (jg (ul.getD (ui.getD ue.toNat 0).toNat ub).a (ul.getD (ui.getD ue.toNat 0).toNat ub).n (ul.getD (ui.getD ue.toNat 0).toNat ub).c)).length:Int)-(1:Int)).toNat-0,∀ (i:Nat),i<(jS (((↑(rd ug (jg (ul.getD (ui.getD ue.toNat 0).toNat ub).a (ul.getD (ui.getD ue.toNat 0).toNat ub).n (ul.getD (ui.getD ue.toNat 0).toNat ub).c)).length:Int)-(1:Int)).toNat-0) (List.drop 0 (rd ug (jg (ul.getD (ui.getD ue.toNat 0).toNat ub).a (ul.getD (ui.getD ue.toNat 0).toNat ub).n (ul.getD (ui.getD ue.toNat 0).toNat ub).c)))).length→i64T ((jS (((↑(rd ug (jg (ul.getD (ui.getD ue.toNat 0).toNat ub).a (ul.getD (ui.getD ue.toNat 0).toNat ub).n (ul.getD (ui.getD ue.toNat 0).toNat ub).c)).length:Int)-(1:Int)).toNat-0) (List.drop 0 (rd ug (jg (ul.getD (ui.getD ue.toNat 0).toNat ub).a (ul.getD (ui.getD ue.toNat 0).toNat ub).n (ul.getD (ui.getD ue.toNat 0).toNat ub).c)))).getD i 0)=i64T ((rd ug (jg (ul.getD (ui.getD ue.toNat 0).toNat ub).a (ul.getD (ui.getD ue.toNat 0).toNat ub).n (ul.getD (ui.getD ue.toNat 0).toNat ub).c)).getD (0+i) 0)] W9 (vc:=(zT ug ul ui ue)) (hv:=W23)
    ·refine tz [40,10,9,8,7,6,5,4,3,2,1] ?_
     refine Q0 (decide ((g.nodes.getD (ui.getD ue.toNat 0).toNat ub).kind=(9:Int))) (fun h5=>?_) (fun h5=>?_)
     ·refine RunF.tabout 10 1 (X:=ug) (y:=jg (ul.getD (ui.getD ue.toNat 0).toNat ub).a (ul.getD (ui.getD ue.toNat 0).toNat ub).n (ul.getD (ui.getD ue.toNat 0).toNat ub).c) (size:=1) (n:=(rd ug (jg (ul.getD (ui.getD ue.toNat 0).toNat ub).a (ul.getD (ui.getD ue.toNat 0).toNat ub).n (ul.getD (ui.getD ue.toNat 0).toNat ub).c)).length) (f:=fun j=>i64T ((rd ug (jg (ul.getD (ui.getD ue.toNat 0).toNat ub).a (ul.getD (ui.getD ue.toNat 0).toNat ub).n (ul.getD (ui.getD ue.toNat 0).toNat ub).c)).getD j 0)) K K K (Yi (hJ1.is (uc h2))) ?_
      refine tz [10,9,8,7,6,5,4,3,2,1] ?_
      refine Q0 (decide ((0:Int)<(↑(rd ug (jg (ul.getD (ui.getD ue.toNat 0).toNat ub).a (ul.getD (ui.getD ue.toNat 0).toNat ub).n (ul.getD (ui.getD ue.toNat 0).toNat ub).c)).length:Int))) (fun h6=>?_) (fun h6=>?_)
      ·exact Q3 [0,1000001] [0] [heldF g.nodes=ui.getD ue.toNat 0] W85
      ·exact tTo (fun nw=>C51 g ue uj ug ul uA uq ui nw) (fun nw=>C51_J g ue uj ug ul uA uq ui nw) (rd ug (jg (ul.getD (ui.getD ue.toNat 0).toNat ub).a (ul.getD (ui.getD ue.toNat 0).toNat ub).n (ul.getD (ui.getD ue.toNat 0).toNat ub).c)) W60 [0,1,2,3,4,5,6,7,1000008] [8] (zR uA uq) W9
     ·refine RunF.tabout 10 1 (X:=ug) (y:=jg (ul.getD (ui.getD ue.toNat 0).toNat ub).a (ul.getD (ui.getD ue.toNat 0).toNat ub).n (ul.getD (ui.getD ue.toNat 0).toNat ub).c) (size:=1) (n:=(rd ug (jg (ul.getD (ui.getD ue.toNat 0).toNat ub).a (ul.getD (ui.getD ue.toNat 0).toNat ub).n (ul.getD (ui.getD ue.toNat 0).toNat ub).c)).length) (f:=fun j=>i64T ((rd ug (jg (ul.getD (ui.getD ue.toNat 0).toNat ub).a (ul.getD (ui.getD ue.toNat 0).toNat ub).n (ul.getD (ui.getD ue.toNat 0).toNat ub).c)).getD j 0)) K K K (Yi (hJ1.is (uc h2))) ?_
      exact tTo (fun nw=>C51 g ue uj ug ul uA uq ui nw) (fun nw=>C51_J g ue uj ug ul uA uq ui nw) (rd ug (jg (ul.getD (ui.getD ue.toNat 0).toNat ub).a (ul.getD (ui.getD ue.toNat 0).toNat ub).n (ul.getD (ui.getD ue.toNat 0).toNat ub).c)) W60 [0,1,2,3,4,5,6,7,1000008] [8] (zR uA uq) W9
  ·intro nw hCC51
   refine tz [10,9,7,6,5,4,3,2,1] ?_
   refine Q2 Yl (G9 (g.nodes.getD (ui.getD ue.toNat 0).toNat ub)) [] ?_
   refine tz [78,10,7,6,5,4,3,2,1] ?_
   refine Q9 (vp g ue uj ug ul uA uq ui nw) (((0:Int),uj,ug,ul,uA,uq,ui)) (hJ1.inner (uc h2) hCC51) ?_ [] [8] (zR uA uq) W9
   rintro ⟨uh,um,uu,uw,uJ,uG,uL⟩ hJ3
   dsimp only [vp] at hJ3
   refine tz [80,79,78,10,7,6,5,4,3,2,1] ?_
   refine Q0 (decide (uh<(↑(flwL (g.nodes.getD (ui.getD ue.toNat 0).toNat ub)).length:Int))) (fun h4=>?_) (fun h4=>?_)
   ·refine tz [80,79,78,10,7,6,5,4,3,2,1] ?_
    refine Q0 (!(uG ((flwL (g.nodes.getD (ui.getD ue.toNat 0).toNat ub)).getD uh.toNat 0)).getD false) (fun h5=>?_) (fun h5=>?_) (vc:=(za3 uh g ui ue)) (hv:=W23)
    ·refine tz [12,80,79,78,10,7,6,5,4,3,2,1] ?_
     refine Q2 Ya (Z9 nw W62) [7] ?_ (vc:=(zb0 g ui ue uh uJ)) (hv:=W23)
     refine RunF.tabin 10 1 (ty:=3) (size:=1) (n:=nw.length) (f:=fun i=>i64T (nw.getD i 0)) (X:=uu) K K K (fun X9 A9 c9 hInX9 hTabX9=>?_)
     exact Q4 (vp g ue uj ug ul uA uq ui nw) (uh,um,uu,uw,uJ,uG,uL) ((uh+(1:Int),um,X9,uw.set ((flwL (g.nodes.getD (ui.getD ue.toNat 0).toNat ub)).getD uh.toNat 0).toNat (Hdl.mk A9 nw.length c9),uJ+1,fun (q:Int)=>if q=(flwL (g.nodes.getD (ui.getD ue.toNat 0).toNat ub)).getD uh.toNat 0 then some true else uG q,uL++[(flwL (g.nodes.getD (ui.getD ue.toNat 0).toNat ub)).getD uh.toNat 0])) W186 W98 [0,1,2,3,4,12,6,7,8,9] [6,7,8,9,10,11] [(uw.set ((flwL (g.nodes.getD (ui.getD ue.toNat 0).toNat ub)).getD uh.toNat 0).toNat (Hdl.mk A9 nw.length c9)).length=uw.length,∀ (i:Nat),i<(uw.set ((flwL (g.nodes.getD (ui.getD ue.toNat 0).toNat ub)).getD uh.toNat 0).toNat (Hdl.mk A9 nw.length c9)).length→((uw.set ((flwL (g.nodes.getD (ui.getD ue.toNat 0).toNat ub)).getD uh.toNat 0).toNat (Hdl.mk A9 nw.length c9)).getD i ub).tc=updT (fun i=>(uw.getD i ub).tc) ((flwL (g.nodes.getD (ui.getD ue.toNat 0).toNat ub)).getD uh.toNat 0).toNat 0 [jg A9 nw.length c9] i,MpEq z77_1 (uJ+1) (fun (a:Int)=>(if a=(flwL (g.nodes.getD (ui.getD ue.toNat 0).toNat ub)).getD uh.toNat 0 then some true else uG a).isSome) (fun (a:Int)=>(if a=(flwL (g.nodes.getD (ui.getD ue.toNat 0).toNat ub)).getD uh.toNat 0 then some true else uG a).getD false) none z77_1 (uJ+1) (fun (q:Int)=>decide (q=(flwL (g.nodes.getD (ui.getD ue.toNat 0).toNat ub)).getD uh.toNat 0)||(uG q).isSome) (fun (q:Int)=>if q=(flwL (g.nodes.getD (ui.getD ue.toNat 0).toNat ub)).getD uh.toNat 0 then true else (uG q).getD false) none,(uL++[(flwL (g.nodes.getD (ui.getD ue.toNat 0).toNat ub)).getD uh.toNat 0]).length=uL.length+1,∀ (i:Nat),i<(uL++[(flwL (g.nodes.getD (ui.getD ue.toNat 0).toNat ub)).getD uh.toNat 0]).length→i≠uL.length→i64T ((uL++[(flwL (g.nodes.getD (ui.getD ue.toNat 0).toNat ub)).getD uh.toNat 0]).getD i 0)=i64T (uL.getD i 0),i64T ((uL++[(flwL (g.nodes.getD (ui.getD ue.toNat 0).toNat ub)).getD uh.toNat 0]).getD uL.length 0) 0=TC.val (jf ja ((flwL (g.nodes.getD (ui.getD ue.toNat 0).toNat ub)).getD uh.toNat 0))] W9 (vc:=(za4 g ui ue uh uw uL)) (hv:=W23)
    ·refine tz [12,80,79,78,10,7,6,5,4,3,2,1] ?_
     refine Q2 J7 (Qke uu ((uw.getD ((flwL (g.nodes.getD (ui.getD ue.toNat 0).toNat ub)).getD uh.toNat 0).toNat ub).a) ((uw.getD ((flwL (g.nodes.getD (ui.getD ue.toNat 0).toNat ub)).getD uh.toNat 0).toNat ub).n) ((uw.getD ((flwL (g.nodes.getD (ui.getD ue.toNat 0).toNat ub)).getD uh.toNat 0).toNat ub).c) nw W62) [7,1] ?_ (vc:=(zaO g ui ue uh uw)) (hv:=W23)
     refine tz [104,12,80,79,78,10,7,6,5,4,3,2,1] ?_
     refine Q0 (!decide (rd uu (jg (uw.getD ((flwL (g.nodes.getD (ui.getD ue.toNat 0).toNat ub)).getD uh.toNat 0).toNat ub).a (uw.getD ((flwL (g.nodes.getD (ui.getD ue.toNat 0).toNat ub)).getD uh.toNat 0).toNat ub).n (uw.getD ((flwL (g.nodes.getD (ui.getD ue.toNat 0).toNat ub)).getD uh.toNat 0).toNat ub).c)=nw)) (fun h6=>?_) (fun h6=>?_)
     ·exact Q3 [0,1000001] [0] [heldF g.nodes=(flwL (g.nodes.getD (ui.getD ue.toNat 0).toNat ub)).getD uh.toNat 0] W85
     ·exact Q4 (vp g ue uj ug ul uA uq ui nw) (uh,um,uu,uw,uJ,uG,uL) ((uh+(1:Int),um,uu,uw,uJ,uG,uL)) W186 W98 [] [8] (zR uJ uG) W9 (vc:=(zD uh)) (hv:=W23)
   ·exact Q4 (vI g X0) (ue,uj,ug,ul,uA,uq,ui) ((ue+(1:Int),um,uu,uw,uJ,uG,uL)) (by dsimp only [vI];have q:=uc h2;have q1:=hJ1.most;have q2:=hJ1.k0;omega) (hJ3.done (ud h4)) [] [8] (zR uJ uG) W9 (vc:=(zD ue)) (hv:=W23)
 ·exact Q3 [0,3] [0] [heldF g.nodes=(-1:Int)] W85
theorem Yx (p k h most:Int):Ctr Tryd.prog 58 [.ro [.i .u8 p]] [zc6 k,.c (.i .u8 h),zc6 most,.c (.p 0 0)]
 (Det (.c (.b (withinP p k h most))) [.dead]):=by
 refine Ctr.intro [] Tryd.func58 K K ?_
 exact Q3 [] [0] [withinP p k h most=(decide (bits kt jz p h=(0:Int))&&decide (k=(0:Int))||!decide (bits kt jz p h=(0:Int))&&decide ((0:Int)≤k)&&decide (k<most))] (by simp only [Conj,withinP,usesB] at *<;>grind)
theorem Q2i (p h:Int) (v:Vl) (g:Grf):Ctr Tryd.prog 59 [.ro [.i .u8 p],.ro (g.cs 2),zav g] [.agg v.cs,.c (.i .u8 h),.c (.p 0 0),.c (.p 1 0)]
 (Det (.c (.b (valueP p g.slots v h))) zbQ):=by
 refine Ctr.intro [] Tryd.func59 K K ?_
 refine Q0 (decide (bits kt jz p h=(0:Int))) (fun h1=>?_) (fun h1=>?_)
 ·exact Q3 [] [0] [valueP p g.slots v h=(decide (v.slotted=false)&&(decide (v.slot=(0:Int))&&(decide (v.word=(0:Int))&&true)))] W157
 ·refine tz [6,4,3] ?_
  refine Q0 (v.slotted) (fun h2=>?_) (fun h2=>?_)
  ·exact Q3 [] [0] [valueP p g.slots v h=(decide ((0:Int)≤v.slot)&&decide (v.slot<g.slots)&&decide (v.word=(0:Int)))] W157
  ·exact Q3 [] [0] [valueP p g.slots v h=decide (v.slot=(0:Int))] W157
theorem Qj9 (sh lk:List Dcl) (gs:List Grf) (g:Grf) (n:Nod) (hk:0≤n.kind) (ho:0≤n.op∧n.op≤255):Ctr Tryd.prog 37 [Dcl.rowR sh,Dcl.rowR lk,Grf.rowR gs,zav g] [zcz,.agg (g.cs 3),.agg n.cs]
 (Det (.c (.b (rightN sh.length lk.length g n))) [.dead,.dead,.dead,.dead]):=by
 refine Ctr.intro [] Tryd.func37 K K ?_
 refine Q0 (decide (n.kind=(0:Int))||decide ((10:Int)≤n.kind)||decide (n.origin<(0:Int))||decide ((4096:Int)≤n.origin)) (fun h1=>?_) (fun h1=>?_)
 ·exact Q3 [] [0] [rightN (↑sh.length:Int) (↑lk.length:Int) g n=false] W158
 ·refine tz [6,5,4,3] ?_
  refine Q2 Qcd (Qm5 n (by first | assumption | omega | (simp only [BL] at *;omega))) [] ?_
  refine tz [30,6,5,4,3] ?_
  refine Q0 (decide (n.kind=(5:Int))||decide (n.kind=(6:Int))) (fun h2=>?_) (fun h2=>?_)
  ·refine tz [10,9,8,6,5,4,3] ?_
   refine Q2 Y2 (Yx (prtN n) n.op 1 19) [7] ?_ (vc:=[Fits ja n.op]) (hv:=W34)
   refine tz [51,10,9,8,6,5,4] ?_
   refine tG Y2 (Yx (prtN n) n.slot 2 g.slots) [7] ?_
   refine tz [58,52,10,9,8,6,5,4] ?_
   refine tG Y2 (Yx (prtN n) n.thing 4 (↑lk.length:Int)) [7] ?_
   refine tz [65,60,9,8,6,5,4] ?_
   refine tG Y2 (Yx (prtN n) n.next 32 (↑g.nodes.length:Int)) [7] ?_
   refine tz [74,67,9,8,6,5,4] ?_
   refine tG Y2 (Yx (prtN n) n.els 64 (↑g.nodes.length:Int)) [7] ?_
   refine tz [83,76,9,6,5] ?_
   refine tG Zv (Q2i (prtN n) 8 n.a g) [7,5,3] ?_
   refine tz [89,85,9,6,5] ?_
   refine tG Zv (Q2i (prtN n) 16 n.b g) [7,5,3] ?_
   exact Q3 [] [0] [rightN (↑sh.length:Int) (↑lk.length:Int) g n=(withinP (prtN n) n.op (1:Int) (19:Int)&&withinP (prtN n) n.slot (2:Int) g.slots&&withinP (prtN n) n.thing (4:Int) (↑lk.length:Int)&&withinP (prtN n) n.next (32:Int) (↑g.nodes.length:Int)&&withinP (prtN n) n.els (64:Int) (↑g.nodes.length:Int)&&valueP (prtN n) g.slots n.a (8:Int)&&valueP (prtN n) g.slots n.b (16:Int))] W158
  ·refine tz [10,9,8,6,5,4] ?_
   refine Q2 Y2 (Yx (prtN n) n.op 1 19) [7] ?_ (vc:=[Fits ja n.op]) (hv:=W34)
   refine tz [51,10,9,8,6,5,4] ?_
   refine tG Y2 (Yx (prtN n) n.slot 2 g.slots) [7] ?_
   refine tz [58,52,10,9,8,6,5,4] ?_
   refine tG Y2 (Yx (prtN n) n.thing 4 (↑sh.length:Int)) [7] ?_
   refine tz [65,60,9,8,6,5,4] ?_
   refine tG Y2 (Yx (prtN n) n.next 32 (↑g.nodes.length:Int)) [7] ?_
   refine tz [74,67,9,8,6,5,4] ?_
   refine tG Y2 (Yx (prtN n) n.els 64 (↑g.nodes.length:Int)) [7] ?_
   refine tz [83,76,9,6,5] ?_
   refine tG Zv (Q2i (prtN n) 8 n.a g) [7,5,3] ?_
   refine tz [89,85,9,6,5] ?_
   refine tG Zv (Q2i (prtN n) 16 n.b g) [7,5,3] ?_
   exact Q3 [] [0] [rightN (↑sh.length:Int) (↑lk.length:Int) g n=(withinP (prtN n) n.op (1:Int) (19:Int)&&withinP (prtN n) n.slot (2:Int) g.slots&&withinP (prtN n) n.thing (4:Int) (↑sh.length:Int)&&withinP (prtN n) n.next (32:Int) (↑g.nodes.length:Int)&&withinP (prtN n) n.els (64:Int) (↑g.nodes.length:Int)&&valueP (prtN n) g.slots n.a (8:Int)&&valueP (prtN n) g.slots n.b (16:Int))] W158
def vJ (sh:List Dcl) (lk:List Dcl) (gs:List Grf):Lp (Int×Int×Int×Int):=⟨fun x=>{ N:=81,fr:=[se 17 (C.i .i64 x.1),se 16 (zdk gs),se 15 (C.h 2),se 4 (C.i .i64 x.2.1),se 3 (C.i .i64 x.2.2.1),se 2 (C.i .i64 x.2.2.2),se 1 (C.p 3 0)],rg:=[rowOf 3 (·.tc) sh,rowOf 3 (·.tc) lk,rowOf 4 (·.tc) gs,zP],wr:=[] },fun x=>CJ sh lk gs x.1,fun x=>((gs.length:Int)-x.1).toNat⟩
abbrev z78_1 (gs:List Grf) (uf:Int):=[C.v (jF (gs.getD uf.toNat ub).name),C.i .i64 (gs.getD uf.toNat ub).locals,C.i .i64 (gs.getD uf.toNat ub).slots,C.h 4]
abbrev zt (y0:List Grf) (y1:Int):Reg:=Reg.row 13 (y0.getD y1.toNat ub).nodes.length (fun i=>((y0.getD y1.toNat ub).nodes.getD i ub).tc) none
def vK (sh:List Dcl) (lk:List Dcl) (gs:List Grf) (uf:Int) (uo:Int) (uz:Int) (uS:Int):Lp (Int×Int×Int×Int):=⟨fun x=>{ N:=81,fr:=[se 58 (C.i .i64 x.1),se 57 (C.i .i64 (↑(zcu gs uf).nodes.length:Int)),se 56 (C.h 4),se 5 (C.i .i64 uf),se 6 (C.p 5 0),se 17 (C.i .i64 uf),se 16 (zdk gs),se 15 (C.h 2),se 4 (C.i .i64 x.2.1),se 3 (C.i .i64 x.2.2.1),se 2 (C.i .i64 x.2.2.2),se 1 (C.p 3 0)],rg:=[rowOf 3 (·.tc) sh,rowOf 3 (·.tc) lk,Reg.row 4 gs.length (fun i=>(gs.getD i ub).tc) (some (uf.toNat,(z78_1 gs uf))),zP,zt gs uf,Reg.box 59 (z78_1 gs uf)],wr:=[] },fun x=>CN sh.length lk.length (zcu gs uf) x.1,fun x=>(((zcu gs uf).nodes.length:Int)-x.1).toNat⟩
abbrev zaX (y0:Int) (y1:List Grf) (y2:Int):List Prop:=[(0:Int)≤y0,y0<(↑(y1.getD y2.toNat ub).nodes.length:Int),y0.toNat<(y1.getD y2.toNat ub).nodes.length]
abbrev zdg:List Nat:=[58,57,56,5,6,17,16,15,4,3,2,1]
theorem Q2j (sh lk:List Dcl) (gs:List Grf) (hs:zF sh) (hl:zF lk) (hg:zab gs) (hw:UnitW gs):Ctr Tryd.prog 19 (zbK sh lk gs) [zcz]
 (Det (.tup [(false,[.i .i64 (chkU sh lk gs).1]),(false,[.i .i64 (chkU sh lk gs).2.1]),(false,[.i .i64 (chkU sh lk gs).2.2])]) zbQ):=by
 refine Ctr.intro [] Tryd.func19 K K ?_
 refine RunF.lens 2 (m:=gs.length) K (fun hlens_2=>?_)
 refine Q2 Qcb (Qm4 sh lk gs W91 W91 W91) [] ?_
 refine tz [12,4,3,2,1] ?_
 refine Q0 (!namedB sh lk gs) (fun h1=>?_) (fun h1=>?_)
 ·exact Q3 [] [0,1,2] [(chkU sh lk gs).fst=(60:Int),(chkU sh lk gs).snd.fst=(0:Int),(chkU sh lk gs).snd.snd=(0:Int)] W56
 ·refine tz [4,3,2,1] ?_
  refine Q9 (vJ sh lk gs) (((0:Int),(0:Int),(0:Int),(0:Int))) (CJ.start h1) ?_
  rintro ⟨uf,uo,uz,uS⟩ hJ2
  dsimp only [vJ] at hJ2
  refine tz [17,16,15,4,3,2,1] ?_
  refine Q0 (decide (uf<(↑gs.length:Int))) (fun h3=>?_) (fun h3=>?_)
  ·refine Y3 2 (uf.toNat) ?_ (vc:=(zbX uf gs)) (hv:=W61)
   refine tz [17,16,15,4,3,2,1] ?_
   refine Q0 (decide ((zcu gs uf).locals<(0:Int))||decide ((64:Int)<(zcu gs uf).locals)||decide ((zcu gs uf).slots<(zcu gs uf).locals)||decide ((4160:Int)<(zcu gs uf).slots)||decide ((↑(zcu gs uf).nodes.length:Int)<(1:Int))||decide ((4096:Int)<(↑(zcu gs uf).nodes.length:Int))) (fun h4=>?_) (fun h4=>?_) (vc:=(zaD uf gs)) (hv:=W61)
   ·exact Q3 [] [0,1,2] [(chkU sh lk gs).fst=(60:Int),(chkU sh lk gs).snd.fst=uf,(chkU sh lk gs).snd.snd=(0:Int)] W56
   ·refine tz [5,6,17,16,15,4,3,2,1] ?_
    refine Q9 (vK sh lk gs uf uo uz uS) (((0:Int),uo,uz,uS)) (CN.start _ _ _) ?_
    rintro ⟨uk,uy,uB,uK⟩ hJ5
    dsimp only [vK] at hJ5
    refine tz zdg ?_
    refine Q0 (decide (uk<(↑(zcu gs uf).nodes.length:Int))) (fun h6=>?_) (fun h6=>?_)
    ·refine tz zdg ?_
     refine Q2 Qcc (Qj9 sh lk gs (zcu gs uf) ((zcu gs uf).nodes.getD uk.toNat ub) W91 W91) [0,1,2,4] ?_ (vc:=(zaX uk gs uf)) (hv:=W61)
     refine tz [66,7,58,57,56,5,6,17,16,15,4,3,2,1] ?_
     refine Q0 (!rightN (↑sh.length:Int) (↑lk.length:Int) (zcu gs uf) ((zcu gs uf).nodes.getD uk.toNat ub)) (fun h7=>?_) (fun h7=>?_)
     ·exact Q3 [] [0,1,2] [(chkU sh lk gs).fst=(60:Int),(chkU sh lk gs).snd.fst=uf,(chkU sh lk gs).snd.snd=uk] W56
     ·exact Q4 (vK sh lk gs uf uo uz uS) (uk,uy,uB,uK) ((uk+(1:Int),uy,uB,uK)) (by dsimp only [vK];have q:=uc h6;have q2:=hJ5.i0;omega) (hJ5.next (uc h6) h7) (vc:=(zD uk)) (hv:=W61)
    ·refine tz zdg ?_
     refine Q2 Q6h (Qo4 (zcu gs uf) W91 W91) [4] ?_
     refine tz [73,5,17,16,15,4,3,2,1] ?_
     refine Q0 (decide ((0:Int)≤heldF (zcu gs uf).nodes)) (fun h7=>?_) (fun h7=>?_)
     ·exact Q3 [] [0,1,2] [(chkU sh lk gs).fst=(60:Int),(chkU sh lk gs).snd.fst=uf,(chkU sh lk gs).snd.snd=heldF (zcu gs uf).nodes] W56
     ·exact Q4 (vJ sh lk gs) (uf,uo,uz,uS) ((uf+(1:Int),uy,uB,uK)) (by dsimp only [vJ];have q:=uc h3;have q2:=hJ2.t0;omega) (hJ2.next (uc h3) h4 (hJ5.done (ud h6)) h7) (vc:=(zD uf)) (hv:=W61)
  ·exact Q3 [] [0,1,2] [(chkU sh lk gs).fst=(0:Int),(chkU sh lk gs).snd.fst=(0:Int),(chkU sh lk gs).snd.snd=(0:Int)] W56
abbrev za5:En:=se 1 (C.p 1 0)
def vi (g:Grf):Lp (Int×Bool):=⟨fun x=>{ N:=50,fr:=[se 20 (C.i .i64 x.1),se 19 (C.i .i64 (↑g.nodes.length:Int)),se 18 (C.h 0),se 2 (C.b x.2),za5],rg:=[rowOf 13 (·.tc) g.nodes,ze g],wr:=[] },fun x=>0≤x.1∧x.1≤(g.nodes.length:Int),fun x=>((g.nodes.length:Int)-x.1).toNat⟩
abbrev zd (y0:Grf) (y1:Int):Reg:=Reg.box 64 [C.i .u8 (y0.nodes.getD y1.toNat ub).kind,C.i .u8 (y0.nodes.getD y1.toNat ub).op,C.i .i64 (y0.nodes.getD y1.toNat ub).slot,C.i .i64 (y0.nodes.getD y1.toNat ub).thing,C.b (y0.nodes.getD y1.toNat ub).a.slotted,C.i .i64 (y0.nodes.getD y1.toNat ub).a.slot,C.i .i64 (y0.nodes.getD y1.toNat ub).a.word,C.b (y0.nodes.getD y1.toNat ub).b.slotted,C.i .i64 (y0.nodes.getD y1.toNat ub).b.slot,C.i .i64 (y0.nodes.getD y1.toNat ub).b.word,C.i .i64 (y0.nodes.getD y1.toNat ub).next,C.i .i64 (y0.nodes.getD y1.toNat ub).els,C.i .i64 (y0.nodes.getD y1.toNat ub).origin]
def vj (g:Grf) (uf:Int) (uo:Bool):Lp (Int×Bool):=⟨fun x=>{ N:=50,fr:=[se 35 (C.i .i64 x.1),{ slot:=34,g:=[],sv:=SV.c (C.i .i64 (↑(flwL (g.nodes.getD uf.toNat ub)).length:Int)) },se 33 (C.h 3),se 20 (C.i .i64 uf),se 19 (C.i .i64 (↑g.nodes.length:Int)),se 18 (C.h 0),se 2 (C.b x.2),za5],rg:=[rowOf 13 (·.tc) g.nodes,ze g,zd g uf,IntOwn (flwL (g.nodes.getD uf.toNat ub))],wr:=[] },fun x=>0≤x.1∧x.1≤((flwL (g.nodes.getD uf.toNat ub)).length:Int),fun x=>(((flwL (g.nodes.getD uf.toNat ub)).length:Int)-x.1).toNat⟩
abbrev zV (y0:Grf):Prop:=∀ i:Nat,i<y0.nodes.length→1≤(y0.nodes.getD i ub).kind∧(y0.nodes.getD i ub).kind≤9
abbrev zat (y0:Int) (y1:Grf):List Prop:=[(0:Int)≤y0,y0<(↑y1.nodes.length:Int),y0.toNat<y1.nodes.length]
theorem Q4b (g:Grf) (hq:zJ g) (hN:1≤g.nodes.length∧g.nodes.length≤4096) (hk:zV g):Ctr Tryd.prog 68 [zav g] [.agg (g.cs 0)]
 (Det (.c (.b true)) [.dead]):=by
 refine Ctr.intro [] Tryd.func68 K K ?_
 refine Q0 (decide ((↑g.nodes.length:Int)<(1:Int))||decide ((4096:Int)<(↑g.nodes.length:Int))) (fun h1=>?_) (fun h1=>?_)
 ·exact (show False from by simp only [jO,decide_eq_true_eq] at h1;omega).elim
 ·refine tz [2,1] ?_
  refine Q9 (vi g) (((0:Int),false)) (by dsimp only [vi];grind) ?_
  rintro ⟨uf,uo⟩ hJ2
  dsimp only [vi] at hJ2
  refine tz [20,19,18,2,1] ?_
  refine Q0 (decide (uf<(↑g.nodes.length:Int))) (fun h3=>?_) (fun h3=>?_)
  ·refine tz [20,19,18,2,1] ?_
   refine Q0 (decide ((g.nodes.getD uf.toNat ub).kind=(0:Int))||decide ((10:Int)≤(g.nodes.getD uf.toNat ub).kind)) (fun h4=>?_) (fun h4=>?_) (vc:=(zat uf g)) (hv:=W90)
   ·exact (show False from by have q:=uc h3;have z:=hk uf.toNat W31;simp only [jO,decide_eq_true_eq] at h4;omega).elim
   ·refine tz [4,20,19,18,2,1] ?_
    refine Q2 Yl (G9 (g.nodes.getD uf.toNat ub)) [] ?_
    refine tz [33,20,19,18,2,1] ?_
    refine Q9 (vj g uf uo) (((0:Int),uo)) (by dsimp only [vj];grind) ?_
    rintro ⟨uk,uy⟩ hJ5
    dsimp only [vj] at hJ5
    refine tz [35,34,33,20,19,18,2,1] ?_
    refine Q0 (decide (uk<(↑(flwL (g.nodes.getD uf.toNat ub)).length:Int))) (fun h6=>?_) (fun h6=>?_)
    ·refine tz [35,34,33,20,19,18,2,1] ?_
     refine Q0 (decide ((flwL (g.nodes.getD uf.toNat ub)).getD uk.toNat 0<(0:Int))||decide ((↑g.nodes.length:Int)≤(flwL (g.nodes.getD uf.toNat ub)).getD uk.toNat 0)) (fun h7=>?_) (fun h7=>?_) (vc:=[(0:Int)≤uk,uk<(↑(flwL (g.nodes.getD uf.toNat ub)).length:Int),uk.toNat<(flwL (g.nodes.getD uf.toNat ub)).length]) (hv:=W90)
     ·exact (show False from by have q:=uc h3;have z:=hq uf.toNat W31 _ (Y1 (uc h6) hJ5.1);simp only [jO,decide_eq_true_eq] at h7;omega).elim
     ·exact Q4 (vj g uf uo) (uk,uy) ((uk+(1:Int),uy)) (by dsimp only [vj];(try simp only [decide_eq_true_eq] at *);omega) (by dsimp only [vj];grind) (vc:=(zD uk)) (hv:=W90)
    ·exact Q4 (vi g) (uf,uo) ((uf+(1:Int),uy)) (by dsimp only [vi];(try simp only [decide_eq_true_eq] at *);omega) (by dsimp only [vi];grind) (vc:=(zD uf)) (hv:=W90)
  ·exact Q3
abbrev zaR:En:=se 4 (C.v (jg none 0 0))
def vL (g:Grf):Lp (List Bo×List Int):=⟨fun x=>{ N:=59,fr:=[se 6 (C.h 3),se 5 (C.h 2),zaR,se 2 (C.p 1 0),se 1 (C.i .i64 (-1:Int))],rg:=[rowOf 13 (·.tc) g.nodes,ze g,Bo.ownR (x.1),IntOwn (x.2)],wr:=[] },fun x=>SprJ g.nodes x.1 x.2 none∧2 * falses x.1+x.2.length≤2 * g.nodes.length+1,fun x=>(2 * falses x.1+x.2.length)⟩
def vl (g:Grf) (ue:List Bo) (uj:List Int):Lp (Int×List Bo×List Int):=⟨fun x=>{ N:=59,fr:=[se 41 (C.i .i64 x.1),{ slot:=40,g:=[],sv:=SV.c (C.i .i64 (↑(flwL (g.nodes.getD (uj.getD ((↑uj.length:Int)-(1:Int)).toNat (0:Int)).toNat ub)).length:Int)) },se 39 (C.h 5),se 6 (C.h 4),se 5 (C.h 2),zaR,se 2 (C.p 1 0),se 1 (C.i .i64 (-1:Int))],rg:=[rowOf 13 (·.tc) g.nodes,ze g,Bo.ownR (x.2.1),Reg.dead,IntOwn (x.2.2),IntOwn (flwL (g.nodes.getD (uj.getD ((↑uj.length:Int)-(1:Int)).toNat (0:Int)).toNat ub))],wr:=[] },fun x=>SprJ g.nodes x.2.1 x.2.2 (some ((uj.getD ((uj.length:Int)-(1:Int)).toNat (0:Int)),x.1))∧2 * falses x.2.1+x.2.2.length+1≤2 * falses ue+uj.length∧0<uj.length,fun x=>((flwL (g.nodes.getD (uj.getD ((uj.length:Int)-(1:Int)).toNat (0:Int)).toNat ub)).length-x.1.toNat)⟩
abbrev zaI (y0:Grf):List Prop:=[(0:Int)≤(↑y0.nodes.length:Int),(↑y0.nodes.length:Int)≤(↑y0.nodes.length:Int),(↑y0.nodes.length:Int) * (1:Int)≤(140737488355328:Int),(↑y0.nodes.length:Int)≤(↑maxLen:Int),(0:Int)≤(0:Int),(0:Int)<(↑y0.nodes.length:Int),0<y0.nodes.length]
abbrev zaT (y0:List Int):List Prop:=[((↑y0.length:Int)-(1:Int)).toNat-0=y0.length-1,((↑y0.length:Int)-(1:Int)).toNat-0=y0.length-1]
abbrev zaY (y0:List Int):List Prop:=[(jS (y0.length-1) y0).length=y0.length-1,∀ (i:Nat),i<(jS (y0.length-1) y0).length→i64T ((jS (y0.length-1) y0).getD i 0)=i64T (y0.getD i 0)]
abbrev zbt (y0:Grf):Reg:=Bo.ownR (rchL y0.nodes)
theorem Qbk (g:Grf) (hq:zJ g) (hN:1≤g.nodes.length∧g.nodes.length≤4096):Ctr Tryd.prog 69 [zav g] [.agg (g.cs 0),.c (.i .i64 (-1))]
 (Det (.c (.h 1)) [.dead,zbt g]):=by
 refine Ctr.intro [] Tryd.func69 K K ?_
 refine Q9 (vL g) (((ji g.nodes.length (Bo.mk false)).set 0 (Bo.mk true),[(0:Int)])) (⟨SprJ.start W31,by have z:=G7 ((ji g.nodes.length (Bo.mk false)).set 0 (Bo.mk true));simp only [jt,jG] at z;simp only [ki];omega⟩) ?_ [] [5,6,7,8,9] [((ji g.nodes.length (Bo.mk false)).set 0 (Bo.mk true)).length=g.nodes.length,∀ (i:Nat),i<((ji g.nodes.length (Bo.mk false)).set 0 (Bo.mk true)).length→(((ji g.nodes.length (Bo.mk false)).set 0 (Bo.mk true)).getD i ub).tc=updT (fun x j=>valT (jU false).cells.toList j) 0 0 [jU true] i,[(0:Int)].length=1,∀ (i:Nat),i < [(0:Int)].length→i≠0→i64T ([(0:Int)].getD i 0)=fun x=>TC.any,i64T (0:Int) 0=TC.val (jf ja (0:Int))] W41 (vc:=(zaI g)) (hv:=W32)
 rintro ⟨ue,uj⟩ hJ1
 dsimp only [vL] at hJ1
 refine tz [6,5,4,2,1] ?_
 refine Q0 (decide ((0:Int)<(↑uj.length:Int))) (fun h2=>?_) (fun h2=>?_)
 ·refine tz [6,5,4,2,1] ?_
  refine Q0 (decide (uj.getD ((↑uj.length:Int)-(1:Int)).toNat (0:Int)=(-1:Int))) (fun h3=>?_) (fun h3=>?_) (vc:=[Fits ja ((↑uj.length:Int)-(1:Int)),(0:Int)≤(↑uj.length:Int)-(1:Int),(↑uj.length:Int)-(1:Int)<(↑uj.length:Int),((↑uj.length:Int)-(1:Int)).toNat<uj.length,Fits ja ((↑uj.length:Int)-(1:Int)),(0:Int)≤(0:Int),(0:Int)≤(↑uj.length:Int)-(1:Int),(↑uj.length:Int)-(1:Int)≤(↑uj.length:Int),(0:Int)<(↑uj.length:Int)]) (hv:=W32)
  ·exact (show False from by (have z:=(hJ1.1.popI W160).cur _ _ rfl;have q:=uc h3;omega)).elim
  ·refine RunF.trim 3 ((uj.length-1)) (ty:=3) (size:=1) (n:=uj.length) (f:=fun i=>i64T (uj.getD i 0)) (vc:=(zaT uj)) K K W160 K (by simp only [Conj]<;>(repeat' apply jn)<;>omega) ?_
   refine tz [6,7,5,4,2,1] ?_
   refine Q2 Yl (G9 (g.nodes.getD (uj.getD ((↑uj.length:Int)-(1:Int)).toNat (0:Int)).toNat ub)) [] ?_ (vc:=[(0:Int)≤uj.getD ((↑uj.length:Int)-(1:Int)).toNat (0:Int),uj.getD ((↑uj.length:Int)-(1:Int)).toNat (0:Int)<(↑g.nodes.length:Int),(uj.getD ((↑uj.length:Int)-(1:Int)).toNat (0:Int)).toNat<g.nodes.length]) (hv:=W32)
   refine tz [39,6,5,4,2,1] ?_
   refine Q9 (vl g ue uj) (((0:Int),ue,jS (uj.length-1) uj)) (⟨hJ1.1.popI W160,by show 2 * falses ue+(uj.take (uj.length-1)).length+1≤2 * falses ue+uj.length;rw [jJ];have q:=uc h2;omega,by have q:=uc h2;omega⟩) ?_ [] [7,8] (zaY uj) W41
   rintro ⟨ur,ux,uN⟩ hJ4
   dsimp only [vl] at hJ4
   refine tz [41,40,39,6,5,4,2,1] ?_
   refine Q0 (decide (ur<(↑(flwL (g.nodes.getD (uj.getD ((↑uj.length:Int)-(1:Int)).toNat (0:Int)).toNat ub)).length:Int))) (fun h5=>?_) (fun h5=>?_)
   ·refine tz [41,40,39,6,5,4,2,1] ?_
    refine Q0 (!(ux.getD ((flwL (g.nodes.getD (uj.getD ((↑uj.length:Int)-(1:Int)).toNat (0:Int)).toNat ub)).getD ur.toNat 0).toNat ub).b) (fun h6=>?_) (fun h6=>?_) (vc:=[(0:Int)≤ur,ur<(↑(flwL (g.nodes.getD (uj.getD ((↑uj.length:Int)-(1:Int)).toNat (0:Int)).toNat ub)).length:Int),ur.toNat<(flwL (g.nodes.getD (uj.getD ((↑uj.length:Int)-(1:Int)).toNat (0:Int)).toNat ub)).length,(0:Int)≤(flwL (g.nodes.getD (uj.getD ((↑uj.length:Int)-(1:Int)).toNat (0:Int)).toNat ub)).getD ur.toNat 0,(flwL (g.nodes.getD (uj.getD ((↑uj.length:Int)-(1:Int)).toNat (0:Int)).toNat ub)).getD ur.toNat 0<(↑ux.length:Int),((flwL (g.nodes.getD (uj.getD ((↑uj.length:Int)-(1:Int)).toNat (0:Int)).toNat ub)).getD ur.toNat 0).toNat<ux.length]) (hv:=W32)
    ·exact Q4 (vl g ue uj) (ur,ux,uN) ((ur+(1:Int),ux.set ((flwL (g.nodes.getD (uj.getD ((↑uj.length:Int)-(1:Int)).toNat (0:Int)).toNat ub)).getD ur.toNat 0).toNat (Bo.mk true),uN++[(flwL (g.nodes.getD (uj.getD ((↑uj.length:Int)-(1:Int)).toNat (0:Int)).toNat ub)).getD ur.toNat 0])) W178 W92 [0,1,2,3,7,5] [5,6,7,8,9] [(ux.set ((flwL (g.nodes.getD (uj.getD ((↑uj.length:Int)-(1:Int)).toNat (0:Int)).toNat ub)).getD ur.toNat 0).toNat (Bo.mk true)).length=ux.length,∀ (i:Nat),i<(ux.set ((flwL (g.nodes.getD (uj.getD ((↑uj.length:Int)-(1:Int)).toNat (0:Int)).toNat ub)).getD ur.toNat 0).toNat (Bo.mk true)).length→((ux.set ((flwL (g.nodes.getD (uj.getD ((↑uj.length:Int)-(1:Int)).toNat (0:Int)).toNat ub)).getD ur.toNat 0).toNat (Bo.mk true)).getD i ub).tc=updT (fun i=>(ux.getD i ub).tc) ((flwL (g.nodes.getD (uj.getD ((↑uj.length:Int)-(1:Int)).toNat (0:Int)).toNat ub)).getD ur.toNat 0).toNat 0 [jU true] i,(uN++[(flwL (g.nodes.getD (uj.getD ((↑uj.length:Int)-(1:Int)).toNat (0:Int)).toNat ub)).getD ur.toNat 0]).length=uN.length+1,∀ (i:Nat),i<(uN++[(flwL (g.nodes.getD (uj.getD ((↑uj.length:Int)-(1:Int)).toNat (0:Int)).toNat ub)).getD ur.toNat 0]).length→i≠uN.length→i64T ((uN++[(flwL (g.nodes.getD (uj.getD ((↑uj.length:Int)-(1:Int)).toNat (0:Int)).toNat ub)).getD ur.toNat 0]).getD i 0)=i64T (uN.getD i 0),i64T ((uN++[(flwL (g.nodes.getD (uj.getD ((↑uj.length:Int)-(1:Int)).toNat (0:Int)).toNat ub)).getD ur.toNat 0]).getD uN.length 0) 0=TC.val (jf ja ((flwL (g.nodes.getD (uj.getD ((↑uj.length:Int)-(1:Int)).toNat (0:Int)).toNat ub)).getD ur.toNat 0))] W41 (vc:=[(0:Int)≤(flwL (g.nodes.getD (uj.getD ((↑uj.length:Int)-(1:Int)).toNat (0:Int)).toNat ub)).getD ur.toNat 0,(flwL (g.nodes.getD (uj.getD ((↑uj.length:Int)-(1:Int)).toNat (0:Int)).toNat ub)).getD ur.toNat 0<(↑ux.length:Int),((flwL (g.nodes.getD (uj.getD ((↑uj.length:Int)-(1:Int)).toNat (0:Int)).toNat ub)).getD ur.toNat 0).toNat<ux.length,uN.length+1≤maxLen,(uN.length+1) * 8≤140737488355328,Fits ja (ur+(1:Int))]) (hv:=W32)
    ·exact Q4 (vl g ue uj) (ur,ux,uN) ((ur+(1:Int),ux,uN)) W178 W92 (vc:=(zD ur)) (hv:=W32)
   ·exact Q4 (vL g) (ue,uj) ((ux,uN)) (by dsimp only [vL];have z:=hJ4.2.1;omega) (⟨hJ4.1.close (by have q:=ud h5;omega),by show 2 * falses ux+uN.length≤2 * g.nodes.length+1;have z:=hJ4.2.1;have z2:=hJ1.2;(try dsimp only at z z2);omega⟩) [0,1,2,4]
 ·exact Q3 [0,2] [0,1] [(rchL g.nodes).length=ue.length,∀ (i:Nat),i<(rchL g.nodes).length→((rchL g.nodes).getD i ub).tc=(ue.getD i ub).tc] (by simp only [Conj];have q:=ud h2;have e:uj=[]:=kh (by omega);subst e;rw [hJ1.1.done hq];exact ⟨rfl,fun _ _=>rfl⟩)
theorem Yd (g:Grf) (hq:zJ g) (hN:1≤g.nodes.length∧g.nodes.length≤4096) (hk:zV g):Ctr Tryd.prog 41 [zav g] [.agg (g.cs 0)]
 (Det (.c (.h 1)) [.dead,zbt g]):=by
 refine Ctr.intro [] Tryd.func41 K K ?_
 refine Q2 J3 (Q4b g W54 W54 W54) [] ?_
 refine tz [4,2,1] ?_
 refine Q0 (!true) (fun h1=>?_) (fun h1=>?_)
 ·exact absurd h1 W80
 ·refine tz [2,1] ?_
  refine Q2 Q3r (Qbk g W54 W54) [] ?_
  exact Q3 [0,2]
abbrev zbR (y0:Grf):En:=se 17 (C.i .i64 (↑y0.nodes.length:Int))
def vy (g:Grf):Lp (Int×List Iln):=⟨fun x=>{ N:=43,fr:=[se 18 (C.i .i64 x.1),zbR g,se 16 (C.h 0),se 3 (C.h 2),zO],rg:=[rowOf 13 (·.tc) g.nodes,ze g,Iln.ownR (x.2)],wr:=[] },fun x=>0≤x.1∧x.1≤(g.nodes.length:Int)∧x.2=ahdN g.nodes x.1.toNat,fun x=>((g.nodes.length:Int)-x.1).toNat⟩
def vz (g:Grf) (uf:Int) (uo:List Iln):Lp (Int×List Iln):=⟨fun x=>{ N:=43,fr:=[se 26 (C.i .i64 x.1),{ slot:=25,g:=[],sv:=SV.c (C.i .i64 (↑(flwL (g.nodes.getD uf.toNat ub)).length:Int)) },se 24 (C.h 4),se 4 (C.i .i64 uf),se 18 (C.i .i64 uf),zbR g,se 16 (C.h 0),se 3 (C.h 2),zO],rg:=[rowOf 13 (·.tc) g.nodes,ze g,Iln.ownR (x.2),zd g uf,IntOwn (flwL (g.nodes.getD uf.toNat ub))],wr:=[] },fun x=>0≤x.1∧x.1≤((flwL (g.nodes.getD uf.toNat ub)).length:Int)∧x.2=ahdJ g.nodes uf.toNat x.1.toNat,fun x=>(((flwL (g.nodes.getD uf.toNat ub)).length:Int)-x.1).toNat⟩
theorem Qdo (g:Grf) (hq:zJ g) (hN:1≤g.nodes.length∧g.nodes.length≤4096) (hk:zV g):Ctr Tryd.prog 72 [zav g] [.agg (g.cs 0)]
 (Det (.c (.h 1)) [.dead,Iln.ownR (aheadL g.nodes)]):=by
 refine Ctr.intro [] Tryd.func72 K K ?_
 refine Q2 J3 (Q4b g W54 W54 W54) [] ?_
 refine tz [9,2,1] ?_
 refine Q0 (!true) (fun h1=>?_) (fun h1=>?_)
 ·exact absurd h1 W80
 ·refine tz [2,1] ?_
  refine RunF.hereL (vc:=[(0:Int)≤(↑g.nodes.length:Int),(↑g.nodes.length:Int)≤(↑g.nodes.length:Int),(↑g.nodes.length:Int) * (24:Int)≤(140737488355328:Int),(↑g.nodes.length:Int)≤(↑maxLen:Int)]) K W40 ?_
  refine Qk2 2 (fun _=>Iln.tc ⟨[]⟩) ?_ (vc:=[∀ (i j:Nat),i<g.nodes.length→j<1→(Iln.mk []).tc j=valT (jg none 0 0).cells.toList j∨valT (jg none 0 0).cells.toList j=TC.val (jg none 0 0)∧∃ ty s g,(Iln.mk []).tc j=TC.sub ty s 0 g]) (hv:=(by simp only [Conj];intro i j hi hj;right;match j,hj with | 0,_=>exact ⟨rfl,_,_,_,rfl⟩))
  refine tz [18,17,16,3,2] ?_
  refine Q9 (vy g) (((0:Int),ahdN g.nodes 0)) (⟨jA _,by omega,rfl⟩) ?_ [] [5,6] [(ahdN g.nodes 0).length=g.nodes.length,∀ (i:Nat),i<(ahdN g.nodes 0).length→((ahdN g.nodes 0).getD i ub).tc=(Iln.mk []).tc] (by (try simp only [Conj])<;>(repeat' apply jn)<;>first | done | trivial | rfl | (intros;first | rfl | trivial) | exact Qs _ _ | exact jt | exact Qq _ _ _ | exact jG | (intro i q;unfold ahdN at q ⊢;rw [Qc (by simpa using q)];simp) | (unfold ahdN;simp) | exact Q29 _ _ _ | exact Qx _ _ _ _ _ | (exact Qy _ _ _ (by first | omega | (have h0:=Y5 (by simpa using h1);have hm:=Y4 h0.1;have hs:=Yc h0.1;omega))) | exact MpEq.put (by omega) | (refine MpEq.mk' (by omega) ?_ ?_<;>intro q<;>first | rfl | (dsimp only;split<;>simp_all)) | (exact MpEq.mkIt (by omega) (fun _=>rfl) (fun _=>rfl) rfl rfl (fun _=>rfl)) | (intro i h1 h2;rw [Qu h1 h2]) | (rw [Qj];rfl))
  rintro ⟨uf,uo⟩ hJ2
  dsimp only [vy] at hJ2
  refine tz [18,17,16,3,2] ?_
  refine Q0 (decide (uf<(↑g.nodes.length:Int))) (fun h3=>?_) (fun h3=>?_)
  ·refine tz [18,17,16,3,2] ?_
   refine Q2 Yl (G9 (g.nodes.getD uf.toNat ub)) [] ?_ (vc:=(zat uf g)) (hv:=W40)
   refine tz [24,4,18,17,16,3,2] ?_
   refine Q9 (vz g uf uo) (((0:Int),uo)) (⟨jA _,by omega,by rw [hJ2.2.2];exact (Qfx _ _).symm⟩) ?_
   rintro ⟨ur,ux⟩ hJ4
   dsimp only [vz] at hJ4
   refine tz [26,25,24,4,18,17,16,3,2] ?_
   refine Q0 (decide (ur<(↑(flwL (g.nodes.getD uf.toNat ub)).length:Int))) (fun h5=>?_) (fun h5=>?_)
   ·refine Y3 2 (((flwL (g.nodes.getD uf.toNat ub)).getD ur.toNat 0).toNat) ?_ (vc:=[((flwL (g.nodes.getD uf.toNat ub)).getD ur.toNat 0).toNat<ux.length]) (hv:=W40)
    exact Q3g (vz g uf uo) (ur,ux) ((ur+(1:Int),ahd1 ux uf ((flwL (g.nodes.getD uf.toNat ub)).getD ur.toNat 0))) (by dsimp only [vz];have q:=uc h5;omega) (by dsimp only [vz];have q:=uc h5;refine ⟨by omega,by omega,?_⟩;rw [hJ4.2.2];exact Qg0 hJ2.1 hJ4.1 q) [(7,(i64T uf)),(2,(Iln.tc ⟨(ux.getD ((flwL (g.nodes.getD uf.toNat ub)).getD ur.toNat 0).toNat ub).l++[uf]⟩))] [] [5,6] [(ahd1 ux uf ((flwL (g.nodes.getD uf.toNat ub)).getD ur.toNat 0)).length=ux.length,∀ (i:Nat),i<(ahd1 ux uf ((flwL (g.nodes.getD uf.toNat ub)).getD ur.toNat 0)).length→((ahd1 ux uf ((flwL (g.nodes.getD uf.toNat ub)).getD ur.toNat 0)).getD i ub).tc=if i=((flwL (g.nodes.getD uf.toNat ub)).getD ur.toNat 0).toNat then (Iln.mk ((ux.getD ((flwL (g.nodes.getD uf.toNat ub)).getD ur.toNat 0).toNat ub).l++[uf])).tc else (ux.getD i ub).tc] (by simp only [Conj];(repeat' apply jn)<;>first | trivial | rfl | (intros;first | trivial | rfl) | exact Q29 _ _ _ | (refine Qkx _ _ _ ?_;have z2:=hq _ (by have q:=uc h3;omega) _ (Y1 (uc h5) hJ4.1);have z3:=congrArg jW hJ4.2.2;rw [Qat] at z3;omega)) (vc:=[(0:Int)≤ur,ur<(↑(flwL (g.nodes.getD uf.toNat ub)).length:Int),ur.toNat<(flwL (g.nodes.getD uf.toNat ub)).length,(0:Int)≤(flwL (g.nodes.getD uf.toNat ub)).getD ur.toNat 0,(flwL (g.nodes.getD uf.toNat ub)).getD ur.toNat 0<(↑ux.length:Int),((flwL (g.nodes.getD uf.toNat ub)).getD ur.toNat 0).toNat=((flwL (g.nodes.getD uf.toNat ub)).getD ur.toNat 0).toNat,(ux.getD ((flwL (g.nodes.getD uf.toNat ub)).getD ur.toNat 0).toNat ub).l.length+1≤maxLen,((ux.getD ((flwL (g.nodes.getD uf.toNat ub)).getD ur.toNat 0).toNat ub).l.length+1) * 8≤140737488355328,(0:Int)≤(flwL (g.nodes.getD uf.toNat ub)).getD ur.toNat 0,(flwL (g.nodes.getD uf.toNat ub)).getD ur.toNat 0<(↑ux.length:Int),((flwL (g.nodes.getD uf.toNat ub)).getD ur.toNat 0).toNat=((flwL (g.nodes.getD uf.toNat ub)).getD ur.toNat 0).toNat,Fits ja (ur+(1:Int))]) (hv:=W40) (vc2:=[uf=uf,((ux.getD ((flwL (g.nodes.getD uf.toNat ub)).getD ur.toNat 0).toNat ub).l++[uf]).length=(ux.getD ((flwL (g.nodes.getD uf.toNat ub)).getD ur.toNat 0).toNat ub).l.length+1,∀ (i:Nat),i<((ux.getD ((flwL (g.nodes.getD uf.toNat ub)).getD ur.toNat 0).toNat ub).l++[uf]).length→i64T (((ux.getD ((flwL (g.nodes.getD uf.toNat ub)).getD ur.toNat 0).toNat ub).l++[uf]).getD i 0)=if i=(ux.getD ((flwL (g.nodes.getD uf.toNat ub)).getD ur.toNat 0).toNat ub).l.length then i64T uf else i64T ((ux.getD ((flwL (g.nodes.getD uf.toNat ub)).getD ur.toNat 0).toNat ub).l.getD i 0)]) (hv2:=(by simp only [Conj];(repeat' apply jn)<;>first | trivial | rfl | exact Qs _ _ | exact Q5a _ _ _ _))
   ·exact Q4 (vy g) (uf,uo) ((uf+(1:Int),ux)) (by dsimp only [vy];have q:=uc h3;omega) (by dsimp only [vy];have q:=uc h3;have q5:=ud h5;refine ⟨by omega,by omega,?_⟩;rw [hJ4.2.2,Qfz (by omega),show (uf+1).toNat=uf.toNat+1 by omega]) (vc:=(zD uf)) (hv:=W40)
  ·exact Q3 [0,2] [0,1] [(aheadL g.nodes).length=uo.length,∀ (i:Nat),i<(aheadL g.nodes).length→((aheadL g.nodes).getD i ub).tc=(uo.getD i ub).tc] (by simp only [Conj];have q:=ud h3;have e:uf.toNat=g.nodes.length:=(by omega);rw [hJ2.2.2,e];exact ⟨rfl,fun _ _=>rfl⟩)
theorem Qex (n:Nod):Ctr Tryd.prog 42 [] [.agg n.cs]
 (Det (.c (.h 0)) [IntOwn (flrL n)]):=by
 refine Ctr.intro [] Tryd.func42 K K ?_
 refine Q0 (decide (n.kind=(9:Int))) (fun h1=>?_) (fun h1=>?_)
 ·rw [Qcy h1]
  exact Q3 [1000000] [0] [(0:Nat)=0] W52
 ·refine tz [4,2,1] ?_
  refine Q0 (decide (n.kind=(8:Int))) (fun h2=>?_) (fun h2=>?_)
  ·rw [Qcz h1 h2]
   exact Q3 [1] [0,1] (zaz n) W52
  ·rw [Qd0 h1 h2]
   exact Q3 [1] [0,1,2] (za9 n) W52
theorem Q4c (l:List Int) (v:Vl) (hl:l.length≤2):Ctr Tryd.prog 70 [zbT,IntOwn l] [.agg v.cs,.c (.p 0 0)]
 (Det (.tup []) [Reg.box 49 [.h 2],.dead,IntOwn (l++vlL v)]):=by
 refine Ctr.intro [] Tryd.func70 K K ?_
 refine Q0 (v.slotted) (fun h1=>?_) (fun h1=>?_)
 ·rw [Qna h1]
  exact Yh [0,1,4] [0,1,2] [(l++[v.slot]).length=l.length+1,∀ (i:Nat),i<(l++[v.slot]).length→i≠l.length→i64T ((l++[v.slot]).getD i 0)=i64T (l.getD i 0),i64T ((l++[v.slot]).getD l.length 0) 0=TC.val (jf ja v.slot)] (by simp only [Conj]<;>(repeat' apply jn)<;>first | rfl | trivial | exact Qs _ _ | (intros;first | rfl | trivial) | (intro i h1 h2;rw [Qu h1 h2]) | (rw [Qj];rfl)) (vc:=[l.length+1≤maxLen,(l.length+1) * 8≤140737488355328]) (hv:=W34)
 ·rw [Qp9 l h1]
  exact Yh [0,1,1]
abbrev za1:Reg:=Reg.box 49 [C.h 2]
abbrev zaQ:En:=se 4 (C.fn 70 false [1])
abbrev zbf:En:=se 3 (C.p 1 0)
abbrev zbw:En:=se 1 (C.p 0 0)
def C131 (n:Nod):St:=St.mk 31 [se 7 (C.i jz n.kind),zaQ,zbf,zbw] [Reg.box 64 n.cs,za1,IntOwn []] []
abbrev zah (y0:Nod):List Prop:=[(useL y0).length=([]++vlL y0.a).length,∀ (i:Nat),i<(useL y0).length→i64T ((useL y0).getD i 0)=i64T (([]++vlL y0.a).getD i 0)]
abbrev zaq:Reg:=Reg.own 3 1 0 (fun i=>i64T ([].getD i 0)) none
abbrev zaE (y0:Nod):List Prop:=[(useL y0).length=0,∀ (i:Nat),i<(useL y0).length→i64T ((useL y0).getD i 0)=i64T ([].getD i 0)]
theorem Q7z (n:Nod) (hk:1≤n.kind∧n.kind≤9):Ctr Tryd.prog 46 [] [.agg n.cs]
 (Det (.c (.h 0)) [IntOwn (useL n)]):=by
 refine Ctr.intro [] Tryd.func46 K K ?_
 refine RunF.cutn 4 (fun _:Unit=>C131 n) (fun _=>True) ?_ ?_
 ·exact tTo (fun xUnit=>C131 n) (fun xUnit=>True) () trivial [0,1,1000002] [13] [(0:Nat)=0] W8
 ·rintro ⟨⟩ hCC131
  rcases (show n.kind=(1:Int)∨n.kind=(2:Int)∨n.kind=(3:Int)∨n.kind=(4:Int)∨n.kind=(5:Int)∨n.kind=(6:Int)∨n.kind=(7:Int)∨n.kind=(8:Int)∨n.kind=(9:Int) from W31) with hs1 | hs1 | hs1 | hs1 | hs1 | hs1 | hs1 | hs1 | hs1
  ·refine tWk (St.mk 31 [se 7 (C.i .u8 1),zaQ,zbf,zbw] [Reg.box 64 [C.i .u8 1,C.i .u8 n.op,C.i .i64 n.slot,C.i .i64 n.thing,C.b n.a.slotted,C.i .i64 n.a.slot,C.i .i64 n.a.word,C.b n.b.slotted,C.i .i64 n.b.slot,C.i .i64 n.b.word,C.i .i64 n.next,C.i .i64 n.els,C.i .i64 n.origin],za1,zaq] []) ?_ [] [0,15] [(1:Int)=n.kind,(1:Int)=n.kind] W37
   refine tz [7,4,3,1] ?_
   refine Q0 (decide ((1:Int)=(1:Int))) (fun h2=>?_) (fun h2=>?_)
   ·refine tz [4,3,1] ?_
    refine Q2 Ym (Q4c [] n.a W151) [1,2] ?_ [0] [(0:Nat)=0] W8
    refine tz [4,3,1] ?_
    refine Q2 Y7 (Gl n.op) [] ?_
    refine tz [16,4,3,1] ?_
    refine Q0 (twoB n.op) (fun h3=>?_) (fun h3=>?_)
    ·refine tz [4,3,1] ?_
     refine Q2 Ym (Q4c ([]++vlL n.a) n.b W151) [1,3] ?_
     exact Q3 [4] [0,1] [(useL n).length=([]++vlL n.a++vlL n.b).length,∀ (i:Nat),i<(useL n).length→i64T ((useL n).getD i 0)=i64T (([]++vlL n.a++vlL n.b).getD i 0)] W55
    ·exact Q3 [3] [0,1] ([(useL n).length=([]++vlL n.a).length,∀ (i:Nat),i<(useL n).length→i64T ((useL n).getD i 0)=i64T (([]++vlL n.a).getD i 0)]) W55
   ·exact absurd h2 W80
  ·refine tWk (St.mk 31 [se 7 (C.i .u8 2),zaQ,zbf,zbw] [Reg.box 64 [C.i .u8 2,C.i .u8 n.op,C.i .i64 n.slot,C.i .i64 n.thing,C.b n.a.slotted,C.i .i64 n.a.slot,C.i .i64 n.a.word,C.b n.b.slotted,C.i .i64 n.b.slot,C.i .i64 n.b.word,C.i .i64 n.next,C.i .i64 n.els,C.i .i64 n.origin],za1,zaq] []) ?_ [] [0,15] [(2:Int)=n.kind,(2:Int)=n.kind] W37
   refine tz [7,4,3,1] ?_
   refine Q0 (decide ((2:Int)=(1:Int))) (fun h2=>?_) (fun h2=>?_)
   ·exact absurd h2 W80
   ·refine tz [7,4,3,1] ?_
    refine Q0 (decide ((2:Int)=(3:Int))) (fun h3=>?_) (fun h3=>?_)
    ·exact absurd h3 W80
    ·refine tz [21,7,4,3,1] ?_
     refine Q0 (decide ((2:Int)=(4:Int))) (fun h4=>?_) (fun h4=>?_)
     ·exact absurd h4 W80
     ·refine tz [21,7,4,3,1] ?_
      refine Q0 (decide ((2:Int)=(7:Int))) (fun h5=>?_) (fun h5=>?_)
      ·exact absurd h5 W80
      ·refine tz [21,7,4,3,1] ?_
       refine Q0 (decide ((2:Int)=(8:Int))) (fun h6=>?_) (fun h6=>?_)
       ·exact absurd h6 W80
       ·exact Q3 [2] [0,1] ([(useL n).length=0,∀ (i:Nat),i<(useL n).length→i64T ((useL n).getD i 0)=i64T ([].getD i 0)]) W55
  ·refine tWk (St.mk 31 [se 7 (C.i .u8 3),zaQ,zbf,zbw] [Reg.box 64 [C.i .u8 3,C.i .u8 n.op,C.i .i64 n.slot,C.i .i64 n.thing,C.b n.a.slotted,C.i .i64 n.a.slot,C.i .i64 n.a.word,C.b n.b.slotted,C.i .i64 n.b.slot,C.i .i64 n.b.word,C.i .i64 n.next,C.i .i64 n.els,C.i .i64 n.origin],za1,zaq] []) ?_ [] [0,15] [(3:Int)=n.kind,(3:Int)=n.kind] W37
   refine tz [7,4,3,1] ?_
   refine Q0 (decide ((3:Int)=(1:Int))) (fun h2=>?_) (fun h2=>?_)
   ·exact absurd h2 W80
   ·refine tz [7,4,3,1] ?_
    refine Q0 (decide ((3:Int)=(3:Int))) (fun h3=>?_) (fun h3=>?_)
    ·refine tz [21,4,3,1] ?_
     refine Q2 Ym (Q4c [] n.a W151) [1,2] ?_ [0] [(0:Nat)=0] W8
     exact Q3 [3] [0,1] ([(useL n).length=([]++vlL n.a).length,∀ (i:Nat),i<(useL n).length→i64T ((useL n).getD i 0)=i64T (([]++vlL n.a).getD i 0)]) W55
    ·exact absurd h3 W80
  ·refine tWk (St.mk 31 [se 7 (C.i .u8 4),zaQ,zbf,zbw] [Reg.box 64 [C.i .u8 4,C.i .u8 n.op,C.i .i64 n.slot,C.i .i64 n.thing,C.b n.a.slotted,C.i .i64 n.a.slot,C.i .i64 n.a.word,C.b n.b.slotted,C.i .i64 n.b.slot,C.i .i64 n.b.word,C.i .i64 n.next,C.i .i64 n.els,C.i .i64 n.origin],za1,zaq] []) ?_ [] [0,15] [(4:Int)=n.kind,(4:Int)=n.kind] W37
   refine tz [7,4,3,1] ?_
   refine Q0 (decide ((4:Int)=(1:Int))) (fun h2=>?_) (fun h2=>?_)
   ·exact absurd h2 W80
   ·refine tz [7,4,3,1] ?_
    refine Q0 (decide ((4:Int)=(3:Int))) (fun h3=>?_) (fun h3=>?_)
    ·exact absurd h3 W80
    ·refine tz [21,7,4,3,1] ?_
     refine Q0 (decide ((4:Int)=(4:Int))) (fun h4=>?_) (fun h4=>?_)
     ·refine tz [21,4,3,1] ?_
      refine Q2 Ym (Q4c [] n.a W151) [1,2] ?_ [0] [(0:Nat)=0] W8
      exact Q3 [3] [0,1] ([(useL n).length=([]++vlL n.a).length,∀ (i:Nat),i<(useL n).length→i64T ((useL n).getD i 0)=i64T (([]++vlL n.a).getD i 0)]) W55
     ·exact absurd h4 W80
  ·refine tWk (St.mk 31 [se 7 (C.i .u8 5),zaQ,zbf,zbw] [Reg.box 64 [C.i .u8 5,C.i .u8 n.op,C.i .i64 n.slot,C.i .i64 n.thing,C.b n.a.slotted,C.i .i64 n.a.slot,C.i .i64 n.a.word,C.b n.b.slotted,C.i .i64 n.b.slot,C.i .i64 n.b.word,C.i .i64 n.next,C.i .i64 n.els,C.i .i64 n.origin],za1,zaq] []) ?_ [] [0,15] [(5:Int)=n.kind,(5:Int)=n.kind] W37
   refine tz [7,4,3,1] ?_
   refine Q0 (decide ((5:Int)=(1:Int))) (fun h2=>?_) (fun h2=>?_)
   ·exact absurd h2 W80
   ·refine tz [7,4,3,1] ?_
    refine Q0 (decide ((5:Int)=(3:Int))) (fun h3=>?_) (fun h3=>?_)
    ·exact absurd h3 W80
    ·refine tz [21,7,4,3,1] ?_
     refine Q0 (decide ((5:Int)=(4:Int))) (fun h4=>?_) (fun h4=>?_)
     ·exact absurd h4 W80
     ·refine tz [21,7,4,3,1] ?_
      refine Q0 (decide ((5:Int)=(7:Int))) (fun h5=>?_) (fun h5=>?_)
      ·exact absurd h5 W80
      ·refine tz [21,7,4,3,1] ?_
       refine Q0 (decide ((5:Int)=(8:Int))) (fun h6=>?_) (fun h6=>?_)
       ·exact absurd h6 W80
       ·exact Q3 [2] [0,1] ([(useL n).length=0,∀ (i:Nat),i<(useL n).length→i64T ((useL n).getD i 0)=i64T ([].getD i 0)]) W55
  ·refine tWk (St.mk 31 [se 7 (C.i .u8 6),zaQ,zbf,zbw] [Reg.box 64 [C.i .u8 6,C.i .u8 n.op,C.i .i64 n.slot,C.i .i64 n.thing,C.b n.a.slotted,C.i .i64 n.a.slot,C.i .i64 n.a.word,C.b n.b.slotted,C.i .i64 n.b.slot,C.i .i64 n.b.word,C.i .i64 n.next,C.i .i64 n.els,C.i .i64 n.origin],za1,zaq] []) ?_ [] [0,15] [(6:Int)=n.kind,(6:Int)=n.kind] W37
   refine tz [7,4,3,1] ?_
   refine Q0 (decide ((6:Int)=(1:Int))) (fun h2=>?_) (fun h2=>?_)
   ·exact absurd h2 W80
   ·refine tz [7,4,3,1] ?_
    refine Q0 (decide ((6:Int)=(3:Int))) (fun h3=>?_) (fun h3=>?_)
    ·exact absurd h3 W80
    ·refine tz [21,7,4,3,1] ?_
     refine Q0 (decide ((6:Int)=(4:Int))) (fun h4=>?_) (fun h4=>?_)
     ·exact absurd h4 W80
     ·refine tz [21,7,4,3,1] ?_
      refine Q0 (decide ((6:Int)=(7:Int))) (fun h5=>?_) (fun h5=>?_)
      ·exact absurd h5 W80
      ·refine tz [21,7,4,3,1] ?_
       refine Q0 (decide ((6:Int)=(8:Int))) (fun h6=>?_) (fun h6=>?_)
       ·exact absurd h6 W80
       ·exact Q3 [2] [0,1] ([(useL n).length=0,∀ (i:Nat),i<(useL n).length→i64T ((useL n).getD i 0)=i64T ([].getD i 0)]) W55
  ·refine tWk (St.mk 31 [se 7 (C.i .u8 7),zaQ,zbf,zbw] [Reg.box 64 [C.i .u8 7,C.i .u8 n.op,C.i .i64 n.slot,C.i .i64 n.thing,C.b n.a.slotted,C.i .i64 n.a.slot,C.i .i64 n.a.word,C.b n.b.slotted,C.i .i64 n.b.slot,C.i .i64 n.b.word,C.i .i64 n.next,C.i .i64 n.els,C.i .i64 n.origin],za1,zaq] []) ?_ [] [0,15] [(7:Int)=n.kind,(7:Int)=n.kind] W37
   refine tz [7,4,3,1] ?_
   refine Q0 (decide ((7:Int)=(1:Int))) (fun h2=>?_) (fun h2=>?_)
   ·exact absurd h2 W80
   ·refine tz [7,4,3,1] ?_
    refine Q0 (decide ((7:Int)=(3:Int))) (fun h3=>?_) (fun h3=>?_)
    ·exact absurd h3 W80
    ·refine tz [21,7,4,3,1] ?_
     refine Q0 (decide ((7:Int)=(4:Int))) (fun h4=>?_) (fun h4=>?_)
     ·exact absurd h4 W80
     ·refine tz [21,7,4,3,1] ?_
      refine Q0 (decide ((7:Int)=(7:Int))) (fun h5=>?_) (fun h5=>?_)
      ·refine tz [21,4,3,1] ?_
       refine Q2 Ym (Q4c [] n.a W151) [1,2] ?_ [0] [(0:Nat)=0] W8
       exact Q3 [3] [0,1] ([(useL n).length=([]++vlL n.a).length,∀ (i:Nat),i<(useL n).length→i64T ((useL n).getD i 0)=i64T (([]++vlL n.a).getD i 0)]) W55
      ·exact absurd h5 W80
  ·refine tWk (St.mk 31 [se 7 (C.i .u8 8),zaQ,zbf,zbw] [Reg.box 64 [C.i .u8 8,C.i .u8 n.op,C.i .i64 n.slot,C.i .i64 n.thing,C.b n.a.slotted,C.i .i64 n.a.slot,C.i .i64 n.a.word,C.b n.b.slotted,C.i .i64 n.b.slot,C.i .i64 n.b.word,C.i .i64 n.next,C.i .i64 n.els,C.i .i64 n.origin],za1,zaq] []) ?_ [] [0,15] [(8:Int)=n.kind,(8:Int)=n.kind] W37
   refine tz [7,4,3,1] ?_
   refine Q0 (decide ((8:Int)=(1:Int))) (fun h2=>?_) (fun h2=>?_)
   ·exact absurd h2 W80
   ·refine tz [7,4,3,1] ?_
    refine Q0 (decide ((8:Int)=(3:Int))) (fun h3=>?_) (fun h3=>?_)
    ·exact absurd h3 W80
    ·refine tz [21,7,4,3,1] ?_
     refine Q0 (decide ((8:Int)=(4:Int))) (fun h4=>?_) (fun h4=>?_)
     ·exact absurd h4 W80
     ·refine tz [21,7,4,3,1] ?_
      refine Q0 (decide ((8:Int)=(7:Int))) (fun h5=>?_) (fun h5=>?_)
      ·exact absurd h5 W80
      ·refine tz [21,7,4,3,1] ?_
       refine Q0 (decide ((8:Int)=(8:Int))) (fun h6=>?_) (fun h6=>?_)
       ·refine tz [4,3,1] ?_
        refine Q2 Ym (Q4c [] n.a W151) [1,2] ?_ [0] [(0:Nat)=0] W8
        exact Q3 [3] [0,1] ([(useL n).length=([]++vlL n.a).length,∀ (i:Nat),i<(useL n).length→i64T ((useL n).getD i 0)=i64T (([]++vlL n.a).getD i 0)]) W55
       ·exact absurd h6 W80
  ·refine tWk (St.mk 31 [se 7 (C.i .u8 9),zaQ,zbf,zbw] [Reg.box 64 [C.i .u8 9,C.i .u8 n.op,C.i .i64 n.slot,C.i .i64 n.thing,C.b n.a.slotted,C.i .i64 n.a.slot,C.i .i64 n.a.word,C.b n.b.slotted,C.i .i64 n.b.slot,C.i .i64 n.b.word,C.i .i64 n.next,C.i .i64 n.els,C.i .i64 n.origin],za1,zaq] []) ?_ [] [0,15] [(9:Int)=n.kind,(9:Int)=n.kind] W37
   refine tz [7,4,3,1] ?_
   refine Q0 (decide ((9:Int)=(1:Int))) (fun h2=>?_) (fun h2=>?_)
   ·exact absurd h2 W80
   ·refine tz [7,4,3,1] ?_
    refine Q0 (decide ((9:Int)=(3:Int))) (fun h3=>?_) (fun h3=>?_)
    ·exact absurd h3 W80
    ·refine tz [21,7,4,3,1] ?_
     refine Q0 (decide ((9:Int)=(4:Int))) (fun h4=>?_) (fun h4=>?_)
     ·exact absurd h4 W80
     ·refine tz [21,7,4,3,1] ?_
      refine Q0 (decide ((9:Int)=(7:Int))) (fun h5=>?_) (fun h5=>?_)
      ·exact absurd h5 W80
      ·refine tz [21,7,4,3,1] ?_
       refine Q0 (decide ((9:Int)=(8:Int))) (fun h6=>?_) (fun h6=>?_)
       ·exact absurd h6 W80
       ·exact Q3 [2] [0,1] ([(useL n).length=0,∀ (i:Nat),i<(useL n).length→i64T ((useL n).getD i 0)=i64T ([].getD i 0)]) W55
abbrev zaH (y0:Int):List Prop:=[(64:Int)≠(0:Int),Fits ja (y0.tdiv (64:Int)),(0:Int)≤y0.tdiv (64:Int),y0.tdiv (64:Int)<(65:Int),(y0.tdiv (64:Int)).toNat<65,(64:Int)≠(0:Int),(0:Int)≤y0.tmod (64:Int),(0:Int)≤y0.tdiv (64:Int),y0.tdiv (64:Int)<(65:Int),(y0.tdiv (64:Int)).toNat<65]
abbrev zbB (y0:Nat → Int):Reg:=Reg.box 115 ((jB 65).map fun j=>C.i .u64 (y0 j))
abbrev zc1:List Nat:=(jB 65)
abbrev zcR:List Nat:=(zc1.map fun j65:Nat=>j65)
theorem Qgx (w:Nat→Int) (k:Int) (hk:0≤k∧k<4160):Ctr Tryd.prog 47 [zbB w] [.c (.p 0 0),zc6 k]
 (Det (.tup []) [Reg.box 115 (zc1.map fun j=>C.i .u64 (addW w k j))]):=by
 refine Ctr.intro [] Tryd.func47 K K ?_
 exact Yh [] zcR (zc1.map fun j65:Nat=>addW w k j65=if (k.tdiv (64:Int)).toNat=j65 then bits kQ kf ((zc1.map fun j65:Nat=>w j65).getD (k.tdiv (64:Int)).toNat (0:Int)) (shlI kf (1:Int) (k.tmod (64:Int))) else w j65) (Q2d fun j hj=>by unfold addW;rw [Q7p w (show (k.tdiv 64).toNat<65 by have z:=kN (b:=64) hk.1;omega)]) (vc:=(zaH k)) (hv:=W83)
theorem Qo5 (w:Nat→Int) (k:Int) (hk:0≤k∧k<4160):Ctr Tryd.prog 45 [zbB w] [.c (.p 0 0),zc6 k]
 (Det (.tup []) [Reg.box 115 (zc1.map fun j=>C.i .u64 (takeW w k j))]):=by
 refine Ctr.intro [] Tryd.func45 K K ?_
 exact Yh [] zcR (zc1.map fun j65:Nat=>takeW w k j65=if (k.tdiv (64:Int)).toNat=j65 then bits BinOp.andNot kf ((zc1.map fun j65:Nat=>w j65).getD (k.tdiv (64:Int)).toNat (0:Int)) (shlI kf (1:Int) (k.tmod (64:Int))) else w j65) (Q2d fun j hj=>by unfold takeW;rw [Q7p w (show (k.tdiv 64).toNat<65 by have z:=kN (b:=64) hk.1;omega)]) (vc:=(zaH k)) (hv:=W83)
theorem Qbl (W:Nat→Nat→Int) (n ix:Nat) (k:Int) (hk:0≤k∧k<4160) (hi:ix<n):Ctr Tryd.prog 74 [Reg.row 65 n (fun i=>wsT (W i)) none] [.c (.e 0 65 ix 0),zc6 k]
 (Det (.c (.b (hasW (W ix) k))) [.dead]):=by
 refine Ctr.intro [] Tryd.func74 K K ?_
 refine Y3 0 (ix) ?_ (vc:=[ix<n]) (hv:=W83)
 exact Q3 [] [0] [hasW (W ix) k=decide (bits kt kf (shrI kf ((zc1.map fun j65:Nat=>W ix j65).getD (k.tdiv (64:Int)).toNat (0:Int)) (k.tmod (64:Int))) (1:Int)=(1:Int))] (by simp only [Conj];first | (rw [Q7p (W ix) (show (k.tdiv 64).toNat<65 by have z:=kN (b:=64) hk.1;omega)];rfl) | exact ⟨by first | (intros;first | trivial | rfl) | trivial,by rw [Q7p (W ix) (show (k.tdiv 64).toNat<65 by have z:=kN (b:=64) hk.1;omega)];rfl⟩) (vc:=[(64:Int)≠(0:Int),Fits ja (k.tdiv (64:Int)),(0:Int)≤k.tdiv (64:Int),k.tdiv (64:Int)<(65:Int),(k.tdiv (64:Int)).toNat<65,ix=ix,(64:Int)≠(0:Int),(0:Int)≤k.tmod (64:Int)]) (hv:=W83)
abbrev zb7:En:=se 0 (C.p 0 0)
def vA (w:Nat→Int) (W:Nat→Nat→Int) (n:Nat) (ix:Nat):Lp (Int):=⟨fun x=>St.mk 23 [zcb x,se 6 (C.e 1 65 ix 0),zb7] [Reg.box 115 (zc1.map fun j=>C.i .u64 (joinW w (W ix) x.toNat j)),Reg.row 65 n (fun i=>wsT (W i)) (some (ix,(zc1.map fun j=>C.i .u64 (W ix j))))] [],fun x=>0≤x∧x≤65,fun x=>(65-x).toNat⟩
theorem Qo6 (w:Nat→Int) (W:Nat→Nat→Int) (n ix:Nat) (hi:ix<n):Ctr Tryd.prog 43 [zbB w,Reg.row 65 n (fun i=>wsT (W i)) none] [.c (.p 0 0),.c (.e 1 65 ix 0)]
 (Det (.tup []) [Reg.box 115 (zc1.map fun j=>C.i .u64 (joinW w (W ix) 65 j)),.dead]):=by
 refine Ctr.intro [] Tryd.func43 K K ?_
 refine Y3 1 (ix) ?_ (vc:=[ix<n]) (hv:=W138)
 refine Q9 (vA w W n ix) ((0:Int)) (⟨jA _,by decide⟩) ?_ [] zcR (zc1.map fun j65:Nat=>joinW w (W ix) 0 j65=w j65) W66
 rintro ue hJ1
 dsimp only [vA] at hJ1
 refine tz [7,6,0] ?_
 refine Q0 (decide (ue<(65:Int))) (fun h2=>?_) (fun h2=>?_)
 ·exact Q4 (vA w W n ix) ue (ue+(1:Int)) (by dsimp only [vA];have q:=uc h2;omega) (by dsimp only [vA];have q:=uc h2;have z:=hJ1.1;omega) [] zcR (zc1.map fun j65:Nat=>joinW w (W ix) (ue+(1:Int)).toNat j65=if ue.toNat=j65 then bits kQ kf ((zc1.map fun j65:Nat=>joinW w (W ix) ue.toNat j65).getD ue.toNat 0) ((zc1.map fun j65:Nat=>W ix j65).getD ue.toNat 0) else joinW w (W ix) ue.toNat j65) W66 (vc:=[(0:Int)≤ue,ue<(65:Int),ue.toNat<65,ix=ix,(0:Int)≤ue,ue<(65:Int),ue.toNat<65,(0:Int)≤ue,ue<(65:Int),ue.toNat<65,Fits ja (ue+(1:Int))]) (hv:=W138)
 ·exact Yh [] zcR (zc1.map fun j65:Nat=>joinW w (W ix) 65 j65=joinW w (W ix) ue.toNat j65) W66
abbrev zad (y0:Grf):Reg:=Reg.box 112 [C.v (jF y0.name),C.i .i64 y0.locals,C.i .i64 y0.slots,C.h 0,C.h 3,C.h 4,C.h 5]
abbrev zaG:En:=se 2 (C.v (Value.pointer none))
abbrev zb9 (y0:Grf):En:=se 3 (C.i .i64 (y0.nodes.length:Int))
abbrev zbC:En:=se 4 (C.p 2 0)
def vM (g:Grf):Lp (Bool×WW×WW):=⟨fun x=>St.mk 109 [se 5 (C.b x.1),za5,zaG,zb9 g,zbC] [zav g,ze g,zad g,zbt g,(SETS 115 g.nodes.length x.2.1),(SETS 115 g.nodes.length x.2.2)] [],fun x=>LvW g.nodes x.2.1∧(x.1=false→LvFix g.nodes x.2.1 x.2.2 0),fun x=>if x.1=true then 1+lvM g.nodes x.2.1 else 0⟩
def u5 (g:Grf) (uj:WW):Lp (Int×Bool×WW×WW):=⟨fun x=>St.mk 109 [se 6 (C.i .i64 x.1),se 5 (C.b x.2.1),za5,zaG,zb9 g,zbC] [zav g,ze g,zad g,zbt g,(SETS 115 g.nodes.length x.2.2.1),(SETS 115 g.nodes.length x.2.2.2)] [],fun x=>LvS g.nodes uj x.1 x.2.1 x.2.2.1 x.2.2.2,fun x=>(x.1+1).toNat⟩
def vN (g:Grf) (uh:Int) (um:Bool) (uu:WW) (uw:WW):Lp (Int):=⟨fun x=>St.mk 109 [se 46 (C.i .i64 x),En.mk 45 [] (SV.c (C.i .i64 ((flrL (g.nodes.getD uh.toNat ub)).length:Int))),se 44 (C.h 7),se 7 (C.p 6 0),se 6 (C.i .i64 uh),se 5 (C.b um),za5,zaG,zb9 g,zbC] [zav g,ze g,zad g,zbt g,(SETS 115 g.nodes.length uu),(SETS 115 g.nodes.length uw),Reg.box 115 ((jB 65).map fun j=>C.i .u64 (joF uu (flrL (g.nodes.getD uh.toNat ub)) x.toNat j)),IntOwn (flrL (g.nodes.getD uh.toNat ub))] [],fun x=>0≤x∧x≤((flrL (g.nodes.getD uh.toNat ub)).length:Int),fun x=>(((flrL (g.nodes.getD uh.toNat ub)).length:Int)-x).toNat⟩
def u7 (g:Grf) (uh:Int) (um:Bool) (uu:WW) (uw:WW):Lp (Int):=⟨fun x=>St.mk 109 [se 85 (C.i .i64 x),En.mk 84 [] (SV.c (C.i .i64 ((useL (g.nodes.getD uh.toNat ub)).length:Int))),se 83 (C.h 8),se 7 (C.p 6 0),se 6 (C.i .i64 uh),se 5 (C.b um),za5,zaG,zb9 g,zbC] [zav g,ze g,zad g,zbt g,(SETS 115 g.nodes.length uu),(SETS 115 g.nodes.length (putW uw uh.toNat (beF g.nodes uu uh.toNat))),Reg.box 115 ((jB 65).map fun j=>C.i .u64 (adF (useL (g.nodes.getD uh.toNat ub)) (dfF (g.nodes.getD uh.toNat ub) (beF g.nodes uu uh.toNat)) x.toNat j)),IntOwn (flrL (g.nodes.getD uh.toNat ub)),IntOwn (useL (g.nodes.getD uh.toNat ub))] [],fun x=>0≤x∧x≤((useL (g.nodes.getD uh.toNat ub)).length:Int),fun x=>(((useL (g.nodes.getD uh.toNat ub)).length:Int)-x).toNat⟩
abbrev zo (y0:Grf):List Prop:=[(0:Int)≤(↑y0.nodes.length:Int),(↑y0.nodes.length:Int)≤(↑y0.nodes.length:Int),(↑y0.nodes.length:Int) * (520:Int)≤(140737488355328:Int),(↑y0.nodes.length:Int)≤(↑maxLen:Int),(0:Int)≤(↑y0.nodes.length:Int),(↑y0.nodes.length:Int)≤(↑y0.nodes.length:Int),(↑y0.nodes.length:Int) * (520:Int)≤(140737488355328:Int),(↑y0.nodes.length:Int)≤(↑maxLen:Int)]
abbrev zba (y0:Grf):Prop:=∀ (i:Nat),i<y0.nodes.length→(fun j=>valT (ji 65 (jf kf (0:Int))) j)=fun j=>valT (ji 65 (jf kf (0:Int))) j
abbrev zx (y0:Grf):List Prop:=[zba y0,zba y0]
abbrev zy (y0:Grf):Reg:=Reg.own 115 65 y0.nodes.length (fun x j=>valT (ji 65 (jf kf (0:Int))) j) none
abbrev zbm (y0:Grf):En:=se 3 (C.i .i64 (↑y0.nodes.length:Int))
abbrev zaf (y0:Grf):List En:=[se 4 (C.p 5 0),zbm y0,zaG,za5]
abbrev zar (y0:Grf) (y1:Int) (y2:WW) (y3:Int):List Prop:=(([∀ (i:Nat),i<y0.nodes.length→i≠y1.toNat→wsT (putW y2 y1.toNat (ahF y0.nodes y2 y1.toNat) i)=wsT (y2 i)])++((jB 65).map fun j65:Nat=>wsT (putW y2 y1.toNat (ahF y0.nodes y2 y1.toNat) y1.toNat) j65=TC.val (jf kf (adF (useL (y0.nodes.getD y1.toNat ub)) (dfF (y0.nodes.getD y1.toNat ub) (beF y0.nodes y2 y1.toNat)) y3.toNat j65))))
abbrev zax (y0:Grf) (y1:Int) (y2:WW) (y3:Int):List Prop:=((jB 65).map fun j65:Nat=>adF (useL (y0.nodes.getD y1.toNat ub)) (dfF (y0.nodes.getD y1.toNat ub) (beF y0.nodes y2 y1.toNat)) (y3+(1:Int)).toNat j65=addW (adF (useL (y0.nodes.getD y1.toNat ub)) (dfF (y0.nodes.getD y1.toNat ub) (beF y0.nodes y2 y1.toNat)) y3.toNat) ((useL (y0.nodes.getD y1.toNat ub)).getD y3.toNat 0) j65)
abbrev zaU (y0:Grf):Reg:=Reg.box 112 [C.v (jF y0.name),C.i .i64 y0.locals,C.i .i64 y0.slots,C.h 0,C.h 3,C.h 2,C.h 4]
abbrev zaV (y0:Grf):Reg:=Reg.box 112 [C.v (jF y0.name),C.i .i64 y0.locals,C.i .i64 y0.slots,C.h 0,C.h 3,C.h 4,C.h 2]
abbrev zaW (y0:Grf) (y1:WW) (y2:Int) (y3:WW) (y4:Int):List Prop:=[∀ (i:Nat),i<y0.nodes.length→wsT (putW y1 y2.toNat (beF y0.nodes y3 y2.toNat) i)=updT (fun i=>wsT (y1 i)) y2.toNat 0 ((jB 65).map fun j65:Nat=>jf kf (joF y3 (flrL (y0.nodes.getD y2.toNat ub)) y4.toNat j65)) i]
abbrev zbA (y0:Int) (y1:Grf) (y2:Int):List Prop:=[(0:Int)≤y0,y0<(↑(useL (y1.nodes.getD y2.toNat ub)).length:Int),y0.toNat<(useL (y1.nodes.getD y2.toNat ub)).length]
abbrev zbI (y0:WW) (y1:Int):List Prop:=((jB 65).map fun j65:Nat=>wsT (y0 y1.toNat) j65=TC.val (jf kf (y0 y1.toNat j65)))
abbrev zbP (y0:Int) (y1:Grf):List Prop:=[(0:Int)≤y0,y0<(↑y1.nodes.length:Int),y0.toNat=y0.toNat,Fits ja (y0-(1:Int))]
theorem Qm6 (g:Grf) (hq:zJ g) (hN:1≤g.nodes.length∧g.nodes.length≤4096) (hk:zV g) (hS:SlH g.nodes):Ctr Tryd.prog 23 [zav g] [.agg (g.cs 0)]
 (DetE (fun y:WW×WW=>LvQ g.nodes y.1 y.2) (fun _=>.c (.p 1 0)) (fun y=>[.dead,Reg.box 112 [C.v (jF g.name),C.i .i64 g.locals,C.i .i64 g.slots,C.h 0,C.h 2,C.h 3,C.h 4],zbt g,(SETS 115 g.nodes.length y.1),(SETS 115 g.nodes.length y.2)])):=by
 refine Ctr.intro [] Tryd.func23 K K ?_
 refine Q04 3 (fun _:Unit=>St.mk 109 [za5,zaG,zbm g,zbC] [rowOf 13 (·.tc) g.nodes,ze g,zad g,ownOf 4 1 (·.tc) (rchL g.nodes),zy g,zy g] []) (fun _=>True) ?_ ?_
 ·refine ⟨⟨⟨trivial,?_⟩,?_⟩,?_⟩
  ·refine Q2 Qw (Yd g W17 W17 W17) [] ?_
   refine tz [17,20,18,16,15,3,2,1] ?_
   refine Qk3 2 [[],(zo g)] [0,0,0,1,1,1,1] ?_ (by simp only [flatP,List.cons_append,List.nil_append,Conj,Fits,Q7,Q8,Qa,Qb,News.len,maxLen]<;>(repeat' (first | apply jn | intro _))<;>first | rfl | (have q:=uc h4;have z:=hJ3.hi;have z1:=Qm g.nodes;have q7:=uc h7;have y7:=hJ6.1;have z2:=hq uh.toNat (by omega) _ ((Jp _ _).1 (Y1 q7 hJ6.1));have z3:=Gv (g.nodes.getD uh.toNat ub);(try simp only [maxLen] at *);omega) | (have q:=uc h4;have z:=hJ3.hi;have z1:=Qm g.nodes;have q10:=uc h10;have y10:=hJ9.1;have z4:=Q2c (g.nodes.getD uh.toNat ub);(try simp only [maxLen] at *);omega) | (have q:=uc h4;have z:=hJ3.hi;have z1:=Qm g.nodes;have z3:=Gv (g.nodes.getD uh.toNat ub);have z4:=Q2c (g.nodes.getD uh.toNat ub);(try simp only [maxLen] at *);omega) | (have z1:=Qm g.nodes;(try simp only [maxLen] at *);omega) | grind | (simp only [BL] at *;omega))
   exact tTo (fun x=>St.mk 109 [za5,zaG,zbm g,zbC] [rowOf 13 (·.tc) g.nodes,ze g,zad g,ownOf 4 1 (·.tc) (rchL g.nodes),zy g,zy g] []) (fun x=>True) () trivial [] [11,13] (zx g) ⟨fun _ _=>rfl,fun _ _=>rfl⟩
  ·refine Q04 2 (fun _:Unit=>St.mk 109 (zaf g) [rowOf 13 (·.tc) g.nodes,ze g,zy g,ownOf 4 1 (·.tc) (rchL g.nodes),zy g,zaU g] []) (fun _=>True) ?_ ?_ (vc:=(zo g)) (hv:=W6)
   ·refine ⟨⟨trivial,?_⟩,?_⟩
    ·refine Q2 Qw (Yd g W17 W17 W17) [] ?_
     exact tTo (fun x=>St.mk 109 (zaf g) [rowOf 13 (·.tc) g.nodes,ze g,zy g,ownOf 4 1 (·.tc) (rchL g.nodes),zy g,zaU g] []) (fun x=>True) () trivial [] [6,10] (zx g) ⟨fun _ _=>rfl,fun _ _=>rfl⟩ (vc:=(zo g)) (hv:=W6)
    ·refine Q2 Qw (Yd g W17 W17 W17) [] ?_ (vc:=(zo g)) (hv:=W6)
     exact tTo (fun x=>St.mk 109 (zaf g) [rowOf 13 (·.tc) g.nodes,ze g,zy g,ownOf 4 1 (·.tc) (rchL g.nodes),zy g,zaU g] []) (fun x=>True) () trivial [0,1,2,4,3,5] [6,10] (zx g) ⟨fun _ _=>rfl,fun _ _=>rfl⟩
   ·rintro ⟨⟩ _
    exact tTo (fun x=>St.mk 109 [za5,zaG,zbm g,zbC] [rowOf 13 (·.tc) g.nodes,ze g,zad g,ownOf 4 1 (·.tc) (rchL g.nodes),zy g,zy g] []) (fun x=>True) () trivial [0,1,5,3,2,4] [11,13] (zx g) ⟨fun _ _=>rfl,fun _ _=>rfl⟩
  ·refine Q04 2 (fun _:Unit=>St.mk 109 (zaf g) [rowOf 13 (·.tc) g.nodes,ze g,zy g,ownOf 4 1 (·.tc) (rchL g.nodes),zy g,zaV g] []) (fun _=>True) ?_ ?_ (vc:=(zo g)) (hv:=W6)
   ·refine ⟨⟨trivial,?_⟩,?_⟩
    ·refine Q2 Qw (Yd g W17 W17 W17) [] ?_
     exact tTo (fun x=>St.mk 109 (zaf g) [rowOf 13 (·.tc) g.nodes,ze g,zy g,ownOf 4 1 (·.tc) (rchL g.nodes),zy g,zaV g] []) (fun x=>True) () trivial [] [6,10] (zx g) ⟨fun _ _=>rfl,fun _ _=>rfl⟩ (vc:=(zo g)) (hv:=W6)
    ·refine Q2 Qw (Yd g W17 W17 W17) [] ?_ (vc:=(zo g)) (hv:=W6)
     exact tTo (fun x=>St.mk 109 (zaf g) [rowOf 13 (·.tc) g.nodes,ze g,zy g,ownOf 4 1 (·.tc) (rchL g.nodes),zy g,zaV g] []) (fun x=>True) () trivial [0,1,2,4,3,5] [6,10] (zx g) ⟨fun _ _=>rfl,fun _ _=>rfl⟩
   ·rintro ⟨⟩ _
    exact tTo (fun x=>St.mk 109 [za5,zaG,zbm g,zbC] [rowOf 13 (·.tc) g.nodes,ze g,zad g,ownOf 4 1 (·.tc) (rchL g.nodes),zy g,zy g] []) (fun x=>True) () trivial [0,1,5,3,4,2] [11,13] (zx g) ⟨fun _ _=>rfl,fun _ _=>rfl⟩
 ·rintro ⟨⟩ _
  refine tz [1,2,3,4] ?_
  refine Q9 (vM g) ((true,fun x x_1=>(0:Int),fun x x_1=>(0:Int))) (⟨LvW.start _,fun h=>absurd h W149⟩) ?_ [] [11,13] [∀ (i:Nat),i<g.nodes.length→(wsT fun x=>(0:Int))=fun j=>valT (ji 65 (jf kf (0:Int))) j,∀ (i:Nat),i<g.nodes.length→(wsT fun x=>(0:Int))=fun j=>valT (ji 65 (jf kf (0:Int))) j] W11
  rintro ⟨ue,uj,ug⟩ hJ1
  dsimp only [vM] at hJ1
  refine tz [5,1,2,3,4] ?_
  refine Q0 (ue) (fun h2=>?_) (fun h2=>?_)
  ·refine tz [5,1,2,3,4] ?_
   refine Q9 (u5 g uj) (((↑g.nodes.length:Int)-(1:Int),false,uj,ug)) (LvS.start hJ1.1 _) ?_ (vc:=[Fits ja ((↑g.nodes.length:Int)-(1:Int))]) (hv:=W6)
   rintro ⟨uh,um,uu,uw⟩ hJ3
   dsimp only [u5] at hJ3
   refine tz [6,5,1,2,3,4] ?_
   refine Q0 (decide ((0:Int)≤uh)) (fun h4=>?_) (fun h4=>?_)
   ·refine tz [6,5,1,2,3,4] ?_
    refine Q0 (!((rchL g.nodes).getD uh.toNat ub).b) (fun h5=>?_) (fun h5=>?_) (vc:=[(0:Int)≤uh,uh<(↑(rchL g.nodes).length:Int),uh.toNat<(rchL g.nodes).length]) (hv:=W6)
    ·exact Q4 (u5 g uj) (uh,um,uu,uw) ((uh-(1:Int),um,uu,uw)) W156 W50 (vc:=[Fits ja (uh-(1:Int))]) (hv:=W6)
    ·refine tz [6,5,1,2,3,4] ?_
     refine Q2 Q7f (Qex (g.nodes.getD uh.toNat ub)) [] ?_ (vc:=(zat uh g)) (hv:=W6)
     refine tz [44,7,6,5,1,2,3,4] ?_
     refine Q9 (vN g uh um uu uw) ((0:Int)) (⟨jA _,by omega⟩) ?_ [] ((jB 65).map fun j65:Nat=>(14+j65)) ((jB 65).map fun j65:Nat=>joF uu (flrL (g.nodes.getD uh.toNat ub)) 0 j65=(0:Int)) W11
     rintro uv hJ6
     dsimp only [vN] at hJ6
     refine tz [46,45,44,7,6,5,1,2,3,4] ?_
     refine Q0 (decide (uv<(↑(flrL (g.nodes.getD uh.toNat ub)).length:Int))) (fun h7=>?_) (fun h7=>?_)
     ·refine tz [46,45,44,7,6,5,1,2,3,4] ?_
      refine Q2 Q6j (Qo6 (joF uu (flrL (g.nodes.getD uh.toNat ub)) uv.toNat) uu g.nodes.length (((flrL (g.nodes.getD uh.toNat ub)).getD uv.toNat 0).toNat) W17) [6,4] ?_ (vc:=[(0:Int)≤uv,uv<(↑(flrL (g.nodes.getD uh.toNat ub)).length:Int),uv.toNat<(flrL (g.nodes.getD uh.toNat ub)).length,(0:Int)≤(flrL (g.nodes.getD uh.toNat ub)).getD uv.toNat 0,(flrL (g.nodes.getD uh.toNat ub)).getD uv.toNat 0<(↑g.nodes.length:Int)]) (hv:=W6)
      exact Q4 (vN g uh um uu uw) uv (uv+(1:Int)) (by dsimp only [vN];have q:=uc h7;have z:=hJ6.1;omega) (by have q:=uc h7;have z:=hJ6.1;exact ⟨by omega,by omega⟩) [] ((jB 65).map fun j65:Nat=>(14+j65)) ((jB 65).map fun j65:Nat=>joF uu (flrL (g.nodes.getD uh.toNat ub)) (uv+(1:Int)).toNat j65=joinW (joF uu (flrL (g.nodes.getD uh.toNat ub)) uv.toNat) (uu ((flrL (g.nodes.getD uh.toNat ub)).getD uv.toNat 0).toNat) 65 j65) W11 (vc:=(zD uv)) (hv:=W6)
     ·refine tz [46,45,44,7,6,5,1,2,3,4] ?_
      refine Q2 Gq (Q3y (g.nodes.getD uh.toNat ub)) [] ?_ (vc:=[(0:Int)≤uh,uh<(↑g.nodes.length:Int),uh.toNat<g.nodes.length,(0:Int)≤uh,uh<(↑g.nodes.length:Int),uh.toNat<g.nodes.length]) (hv:=W6)
      refine tz [70,7,6,5,1,2,3,4] ?_
      refine Q0 (decide ((g.nodes.getD uh.toNat ub).kind=(1:Int))||decide ((g.nodes.getD uh.toNat ub).kind=(2:Int))||decide ((g.nodes.getD uh.toNat ub).kind=(4:Int))) (fun h8=>?_) (fun h8=>?_)
      ·refine tz [7,6,5,1,2,3,4] ?_
       refine Q2 Q6k (Qo5 (joF uu (flrL (g.nodes.getD uh.toNat ub)) uv.toNat) ((g.nodes.getD uh.toNat ub).slot) W17) [6] ?_ (vc:=(zat uh g)) (hv:=W6)
       refine tz [7,6,5,1,2,3,4] ?_
       refine Q2 Q0x (Q7z (g.nodes.getD uh.toNat ub) W17) [] ?_ (vc:=(zat uh g)) (hv:=W6)
       refine tz [83,7,6,5,1,2,3,4] ?_
       refine Q9 (u7 g uh um uu uw) ((0:Int)) (⟨jA _,by omega⟩) ?_ [] (((jB 65).map fun j65:Nat=>(13+j65))++([78])) (((zaW g uw uh uu uv))++((jB 65).map fun j65:Nat=>adF (useL (g.nodes.getD uh.toNat ub)) (dfF (g.nodes.getD uh.toNat ub) (beF g.nodes uu uh.toNat)) 0 j65=takeW (joF uu (flrL (g.nodes.getD uh.toNat ub)) uv.toNat) (g.nodes.getD uh.toNat ub).slot j65)) W11
       rintro un hJ9
       dsimp only [u7] at hJ9
       refine tz [85,84,83,7,6,5,1,2,3,4] ?_
       refine Q0 (decide (un<(↑(useL (g.nodes.getD uh.toNat ub)).length:Int))) (fun h10=>?_) (fun h10=>?_)
       ·refine tz [85,84,83,7,6,5,1,2,3,4] ?_
        refine Q2 Q1f (Qgx (adF (useL (g.nodes.getD uh.toNat ub)) (dfF (g.nodes.getD uh.toNat ub) (beF g.nodes uu uh.toNat)) un.toNat) ((useL (g.nodes.getD uh.toNat ub)).getD un.toNat 0) W17) [6] ?_ (vc:=(zbA un g uh)) (hv:=W6)
        exact Q4 (u7 g uh um uu uw) un (un+(1:Int)) W187 W188 [] ((jB 65).map fun j65:Nat=>(14+j65)) (zax g uh uu un) W11 (vc:=(zD un)) (hv:=W6)
       ·refine Y3 4 (uh.toNat) ?_ (vc:=[uh.toNat<g.nodes.length]) (hv:=W6)
        refine tz [85,84,83,7,6,5,1,2,3,4] ?_
        refine Q0 (!(all65 (fun j=>decide (adF (useL (g.nodes.getD uh.toNat ub)) (dfF (g.nodes.getD uh.toNat ub) (beF g.nodes uu uh.toNat)) un.toNat j=uu uh.toNat j)) 65 0)) (fun h11=>?_) (fun h11=>?_) (vc:=[(0:Int)≤uh,uh<(↑g.nodes.length:Int),uh.toNat=uh.toNat]) (hv:=W6)
        ·exact Q4 (u5 g uj) (uh,um,uu,uw) ((uh-(1:Int),true,putW uu uh.toNat (ahF g.nodes uu uh.toNat),putW uw uh.toNat (beF g.nodes uu uh.toNat))) W156 W50 [] (((jB 65).map fun j65:Nat=>(11+j65))++([76])) (zar g uh uu un) W11 (vc:=(zbP uh g)) (hv:=W6)
        ·exact Q4 (u5 g uj) (uh,um,uu,uw) ((uh-(1:Int),um,uu,putW uw uh.toNat (beF g.nodes uu uh.toNat))) W156 W50 [] ((jB 65).map fun j65:Nat=>(12+j65)) (zbI uu uh) W11 (vc:=[Fits ja (uh-(1:Int))]) (hv:=W6)
      ·refine tz [7,6,5,1,2,3,4] ?_
       refine Q2 Q0x (Q7z (g.nodes.getD uh.toNat ub) W17) [] ?_ (vc:=(zat uh g)) (hv:=W6)
       refine tz [83,7,6,5,1,2,3,4] ?_
       refine Q9 (u7 g uh um uu uw) ((0:Int)) (⟨jA _,by omega⟩) ?_ [] (((jB 65).map fun j65:Nat=>(13+j65))++([78])) (((zaW g uw uh uu uv))++((jB 65).map fun j65:Nat=>adF (useL (g.nodes.getD uh.toNat ub)) (dfF (g.nodes.getD uh.toNat ub) (beF g.nodes uu uh.toNat)) 0 j65=joF uu (flrL (g.nodes.getD uh.toNat ub)) uv.toNat j65)) W11
       rintro un hJ9
       dsimp only [u7] at hJ9
       refine tz [85,84,83,7,6,5,1,2,3,4] ?_
       refine Q0 (decide (un<(↑(useL (g.nodes.getD uh.toNat ub)).length:Int))) (fun h10=>?_) (fun h10=>?_)
       ·refine tz [85,84,83,7,6,5,1,2,3,4] ?_
        refine Q2 Q1f (Qgx (adF (useL (g.nodes.getD uh.toNat ub)) (dfF (g.nodes.getD uh.toNat ub) (beF g.nodes uu uh.toNat)) un.toNat) ((useL (g.nodes.getD uh.toNat ub)).getD un.toNat 0) W17) [6] ?_ (vc:=(zbA un g uh)) (hv:=W6)
        exact Q4 (u7 g uh um uu uw) un (un+(1:Int)) W187 W188 [] ((jB 65).map fun j65:Nat=>(14+j65)) (zax g uh uu un) W11 (vc:=(zD un)) (hv:=W6)
       ·refine Y3 4 (uh.toNat) ?_ (vc:=[uh.toNat<g.nodes.length]) (hv:=W6)
        refine tz [85,84,83,7,6,5,1,2,3,4] ?_
        refine Q0 (!(all65 (fun j=>decide (adF (useL (g.nodes.getD uh.toNat ub)) (dfF (g.nodes.getD uh.toNat ub) (beF g.nodes uu uh.toNat)) un.toNat j=uu uh.toNat j)) 65 0)) (fun h11=>?_) (fun h11=>?_) (vc:=[(0:Int)≤uh,uh<(↑g.nodes.length:Int),uh.toNat=uh.toNat]) (hv:=W6)
        ·exact Q4 (u5 g uj) (uh,um,uu,uw) ((uh-(1:Int),true,putW uu uh.toNat (ahF g.nodes uu uh.toNat),putW uw uh.toNat (beF g.nodes uu uh.toNat))) W156 W50 [] (((jB 65).map fun j65:Nat=>(11+j65))++([76])) (zar g uh uu un) W11 (vc:=(zbP uh g)) (hv:=W6)
        ·exact Q4 (u5 g uj) (uh,um,uu,uw) ((uh-(1:Int),um,uu,putW uw uh.toNat (beF g.nodes uu uh.toNat))) W156 W50 [] ((jB 65).map fun j65:Nat=>(12+j65)) (zbI uu uh) W11 (vc:=[Fits ja (uh-(1:Int))]) (hv:=W6)
   ·exact Q4 (vM g) (ue,uj,ug) ((um,uu,uw)) (by dsimp only [vM];rw [if_pos h2];exact (hJ3.done (ud h4)).2.2) (⟨(hJ3.done (ud h4)).1,(hJ3.done (ud h4)).2.1⟩)
  ·exact Q3 [0,2,3,4,5] (res:=_) (post:=_) (hS:=⟨(uj,ug),(hJ1.1.fin hq hS (hJ1.2 h2)),rfl,rfl⟩)
def bsF (P U:List Int):List Int→Int→Int
 | [],b=>b
 | p::r,b=>bsF P U r (if U.getD p.toNat 0<0 then b else if b<0 then p else mtF P U b p)
def tnF (l:List Nod) (U:List Int) (n:Int):List Int:=U.set n.toNat (bsF (plcL l) U ((aheadL l).getD n.toNat ub).l (-1))
def tlF (l:List Nod):List Int:=(ordL l).drop 1
def rnG (l:List Nod) (U:List Int) (i:Nat):List Int:=((tlF l).take i).foldl (tnF l) U
def rnF (l:List Nod) (U:List Int):List Int:=(tlF l).foldl (tnF l) U
def itF (l:List Nod):Nat→List Int→List Int
 | 0,U=>U
 | k+1,U=>itF l k (rnF l U)
def dm0 (l:List Nod):List Int:=(ji l.length (-1)).set 0 0
def domL (l:List Nod):List Int:=(itF l l.length (dm0 l)).set 0 (-1)
def lfF (l:List Nod):Nat→List Int→Nat
 | 0,_=>0
 | k+1,U=>(if rnF l U=U then 0 else 1)+lfF l k (rnF l U)
theorem Q5o (l:List Nod):∀ (k:Nat) (U:List Int),itF l (k+1) U=rnF l (itF l k U)
 | 0,U=>rfl
 | k+1,U=>Q5o l k (rnF l U)
theorem Q1m (l:List Nod):∀ (a b:Nat) (U:List Int),itF l (a+b) U=itF l a (itF l b U)
 | a,0,U=>rfl
 | a,b+1,U=>Q1m l a b (rnF l U)
theorem Q0n {l:List Nod} {U:List Int} (h:rnF l U=U):∀ k,itF l k U=U
 | 0=>rfl
 | k+1=>by rw [itF,h];exact Q0n h k
theorem Qbm (l:List Nod):∀ (k:Nat) (U:List Int),lfF l (k+1) U=lfF l k U+(if rnF l (itF l k U)=itF l k U then 0 else 1)
 | 0,U=>by
   show (if rnF l U=U then 0 else 1)+0=0+(if rnF l U=U then 0 else 1)
   omega
 | k+1,U=>by
   have h:=Qbm l k (rnF l U)
   rw [lfF,h]
   conv=>rhs;rw [lfF]
   rw [itF]
   omega
theorem Qja {l:List Nod} {k:Nat} {U:List Int} (h:rnF l (itF l k U)=itF l k U) (hn:rnF l U≠U):lfF l k (rnF l U)+1=lfF l k U:=by
 have h1:=Qbm l k U
 rw [if_pos h,lfF,if_neg hn] at h1
 omega
def drG (l:List Nod):Go.Dm.Gr:=⟨l.length,fun q=>((aheadL l).getD q ub).l.map Int.toNat,(ordL l).map Int.toNat,fun m=>((plcL l).getD m 0).toNat⟩
def trU (U:List Int):Go.Dm.Tree:=fun m=>if 0≤U.getD m (-1) then some (U.getD m (-1)).toNat else none
theorem Q5p {U:List Int} {m:Nat} (h:m<U.length) (a b:Int):U.getD m a=U.getD m b:=by rw [Qc h,Qc h]
theorem Q5q (o:List Int) (n:Nat):∀ (i j:Nat),0≤(plcU o n i).getD j 0
 | 0,j=>by
   unfold plcU
   by_cases h:j<(ji n (0:Int)).length
   ·rw [Qc h];simp
   ·rw [jb,jX W31];exact jA _
 | i+1,j=>by
   unfold plcU
   by_cases h:(o.getD i 0).toNat<(plcU o n i).length
   ·rw [Qr _ _ _ _ _ h];split
    ·omega
    ·exact Q5q o n i j
   ·rw [List.set_eq_of_length_le W31];exact Q5q o n i j
section
variable {l:List Nod} (hq:∀ i:Nat,i<l.length→∀ x∈flwL (l.getD i ub),0≤x∧x<(l.length:Int)) (h0:0<l.length)
include hq h0
theorem Q80:BkJ l (bkF l)∧(bkF l).st=[]:=Q7q hq _ _ (jm _) (.start h0)
theorem Qdp:∃ r,ordL l=0::r:=by
 have z:=Q80 hq h0
 have z1:=z.1.fin (by simp [psB,z.2])
 obtain ⟨r,z1⟩:=z1
 exact ⟨r.reverse,by unfold ordL;rw [z1];simp⟩
theorem Q1n {j:Nat} (hj:j<(ordL l).length):(plcL l).getD ((ordL l).getD j 0).toNat 0=j:=by
 have z:=Q1k hq h0
 exact Qax z.1 z.2.1 _ (jm _) j hj
omit hq h0 in
theorem Qbn {j:Nat} (hj:j<(ordL l).length):(ordL l).getD j 0∈ordL l:=by rw [Qc hj];exact jQ _
theorem Qdq {x:Int} (h:x∈ordL l):∃ j,j<(ordL l).length∧(ordL l).getD j 0=x∧(plcL l).getD x.toNat 0=j:=by
 obtain ⟨j,hj,e⟩:=List.mem_iff_getElem.1 h
 have e2:(ordL l).getD j 0=x:=by rw [Qc hj];exact e
 exact ⟨j,hj,e2,by rw [← e2];exact Q1n hq h0 hj⟩
theorem Qjb {x:Int} (h:x∈ordL l) (hx:x≠0):∃ p∈ordL l,x∈flwL (l.getD p.toNat ub)∧(plcL l).getD p.toNat 0<(plcL l).getD x.toNat 0:=by
 have z:=Q80 hq h0
 have hod:(bkF l).od=(ordL l).reverse:=by unfold ordL;rw [List.reverse_reverse]
 obtain ⟨b,a,e⟩:=List.append_of_mem h
 have e1:(bkF l).od=a.reverse++x::b.reverse:=by rw [hod,e];simp
 obtain ⟨p,_,p1,p2⟩:=z.1.par _ _ _ e1 hx
 have p3:p∈b:=by
  rcases p2 with p2 | p2
  ·simp [psB,z.2] at p2
  ·exact List.mem_reverse.1 p2
 have hx2:(ordL l).getD b.length 0=x:=by rw [e];simp
 have px:=Q1n hq h0 (j:=b.length) (by rw [e];simp)
 rw [hx2] at px
 obtain ⟨j,hj,ej⟩:=List.mem_iff_getElem.1 p3
 have hp2:(ordL l).getD j 0=p:=by rw [e,Yw hj,Qc hj];exact ej
 have pp:=Q1n hq h0 (j:=j) (by rw [e];simp;omega)
 rw [hp2] at pp
 exact ⟨p,by rw [e];exact jT _ p3,p1,by rw [px,pp];omega⟩
theorem Q09:(drG l).Ok:=by
 have z:=Q1k hq h0
 have zb:=Q80 hq h0
 obtain ⟨r,hr⟩:=Qdp hq h0
 have ix:∀ m:Nat,m∈(drG l).ord→∃ j,j<(ordL l).length∧(ordL l).getD j 0=(m:Int)∧(drG l).pl m=j:=by
  intro m hm
  obtain ⟨x,hx,rfl⟩:=List.mem_map.1 hm
  obtain ⟨j,j1,j2,j3⟩:=Qdq hq h0 hx
  have:=z.1 x hx
  refine ⟨j,j1,by omega,?_⟩
  show ((plcL l).getD x.toNat 0).toNat=j
  rw [j3];rfl
 have p0:(ordL l).getD 0 0=0:=by rw [hr];rfl
 refine ⟨fun m hm=>?_,List.mem_map.2 ⟨0,by rw [hr];simp,rfl⟩,?_,fun m hm hne=>?_,fun a b ha hb e=>?_,fun p q hp hqn hpq=>?_⟩
 ·obtain ⟨x,hx,rfl⟩:=List.mem_map.1 hm
  have:=z.1 x hx
  show x.toNat<l.length
  omega
 ·have h1:=Q1n hq h0 (j:=0) (by rw [hr];simp)
  rw [p0] at h1
  show ((plcL l).getD 0 0).toNat=0
  rw [show (0:Nat)=(0:Int).toNat from rfl,h1];rfl
 ·obtain ⟨j,j1,j2,j3⟩:=ix m hm
  rw [j3]
  rcases Nat.eq_zero_or_pos j with e | e
  ·subst e;rw [p0] at j2;omega
  ·exact e
 ·obtain ⟨i,i1,i2,i3⟩:=ix a ha
  obtain ⟨j,j1,j2,j3⟩:=ix b hb
  have:i=j:=by omega
  subst this
  omega
 ·obtain ⟨x,hx,rfl⟩:=List.mem_map.1 hp
  obtain ⟨y,hy,e⟩:=List.mem_map.1 hpq
  have hy2:=(Gj hq _ _).1 hy
  have hx2:=z.1 x hx
  have exy:y=x:=by omega
  subst exy
  have hod:y∈(bkF l).od:=List.mem_reverse.1 hx
  have h1:=zb.1.cl y hod _ hy2.2.2
  have h2:=(zb.1.sn _).1 h1
  rw [show psB (bkF l)=[] by simp [psB,zb.2],j6] at h2
  exact List.mem_map.2 ⟨(q:Int),List.mem_reverse.2 h2,rfl⟩
end
structure DmI (l:List Nod) (U:List Int) (k i:Nat):Prop where
 len:U.length=l.length
 rg:∀ m:Nat,m<l.length→-1≤U.getD m 0∧U.getD m 0<(l.length:Int)
 inv:Go.Dm.Inv (drG l) (trU U) (fun m=>if (drG l).pl m≤i then k+1 else k)
theorem Q8z {g:Go.Dm.Gr} {o:Go.Dm.Tree} {r r':Nat→Nat} (hg:g.Ok) (h:Go.Dm.Inv g o r) (e:∀ m∈g.ord,m≠0→r' m=r m):Go.Dm.Inv g o r':=by
 obtain ⟨a,b,c,d,f,q⟩:=h
 refine ⟨a,fun m hm=>?_,c,d,fun l k m t hk=>f l k m t ?_,q⟩
 ·rw [b m hm]
  constructor
  ·rintro ⟨x,y⟩;exact ⟨x,by rw [e m x hm];exact y⟩
  ·rintro ⟨x,y⟩;exact ⟨x,by rw [← e m x hm];exact y⟩
 ·rcases hk with hk | hk
  ·exact .inl hk
  ·by_cases e0:m=0
   ·exact .inl e0
   ·exact .inr (by rw [← e m (t.mem hg) e0];exact hk)
theorem G1 {U:List Int} {x:Int} (h:MtS U x):trU U x.toNat=some (U.getD x.toNat 0).toNat:=by
 unfold trU
 rw [Q5p (b:=0) (by have:=h.2.1;have:=h.1;omega),if_pos h.2.2]
theorem Q1o {U:List Int} {x:Int} (h0:0≤x) (h1:x<(U.length:Int)) (h:trU U x.toNat≠none):MtS U x:=by
 refine ⟨h0,h1,?_⟩
 unfold trU at h
 rw [Q5p (b:=0) W31] at h
 by_cases e:0≤U.getD x.toNat 0
 ·exact e
 ·rw [if_neg e] at h;exact absurd rfl h
theorem Qm7 {U:List Int} {n c:Int} (hn:0≤n∧n<(U.length:Int)) (hc:0≤c):trU (U.set n.toNat c)=Go.Dm.upd (trU U) n.toNat c.toNat:=by
 funext m
 unfold trU Go.Dm.upd
 rw [Qr _ _ _ _ _ W31]
 split
 ·simp [hc]
 ·rfl
section
variable {l:List Nod} (hq:∀ i:Nat,i<l.length→∀ x∈flwL (l.getD i ub),0≤x∧x<(l.length:Int)) (h0:0<l.length) {U:List Int} {k i:Nat}
include hq h0
omit hq h0 in
theorem pl_ge (m:Nat):0≤(plcL l).getD m 0:=Q5q _ _ _ _
theorem DmI.mth (h:DmI l U k i):MtH (plcL l) U:=by
 have hg:=Q09 hq h0
 have mem:∀ x,MtS U x→x.toNat∈(drG l).ord:=fun x hx=>h.inv.mem hg (by rw [G1 hx];simp)
 refine ⟨by unfold plcL;rw [Q2e,h.len],fun x _=>pl_ge _,fun x hx hp=>?_,fun x y hx hy e=>?_⟩
 ·have hx0:x.toNat≠0:=fun e=>by
   have z:=hg.rootP
   have z1:(drG l).pl x.toNat=((plcL l).getD x.toNat 0).toNat:=rfl
   rw [e] at z1
   rw [z] at z1
   rw [e] at hp
   omega
  have d:=h.inv.dec _ _ hx0 (G1 hx)
  have z:=(h.rg x.toNat (by have:=hx.2.1;have:=hx.1;have:=h.len;omega))
  have d1:((plcL l).getD (U.getD x.toNat 0).toNat 0).toNat<((plcL l).getD x.toNat 0).toNat:=d.1
  have z1:=pl_ge (l:=l) (U.getD x.toNat 0).toNat
  exact ⟨Q1o hx.2.2 (by rw [h.len];exact z.2) d.2,by omega⟩
 ·have e2:=hg.inj _ _ (mem x hx) (mem y hy) (by show ((plcL l).getD x.toNat 0).toNat=((plcL l).getD y.toNat 0).toNat;rw [e])
  have:=hx.1;have:=hy.1
  omega
omit hq in
theorem DmI.root (h:DmI l U k i):MtS U 0:=Q1o (x:=0) (jA _) (by rw [h.len];omega) (by show trU U 0≠none;rw [h.inv.root];simp)
theorem DmI.meet (h:DmI l U k i):∀ (n:Nat) (a b:Int),MtS U a→MtS U b→(plcL l).getD a.toNat 0+(plcL l).getD b.toNat 0≤n→MtS U (mtG (plcL l) U n a b)∧∀ x,Go.Dm.Anc (trU U) (mtG (plcL l) U n a b).toNat x↔Go.Dm.Anc (trU U) a.toNat x∧Go.Dm.Anc (trU U) b.toNat x
 | 0,a,b,ha,hb,hn=>by
   have p1:=pl_ge (l:=l) a.toNat
   have p2:=pl_ge (l:=l) b.toNat
   have e:=(h.mth hq h0).one a b ha hb W31
   subst e
   exact ⟨ha,fun x=>⟨fun t=>⟨t,t⟩,fun t=>t.1⟩⟩
 | n+1,a,b,ha,hb,hn=>by
   have hg:=Q09 hq h0
   have hM:=h.mth hq h0
   have p1:=pl_ge (l:=l) a.toNat
   have p2:=pl_ge (l:=l) b.toNat
   have nz:∀ x:Int,0<(plcL l).getD x.toNat 0→x.toNat≠0:=fun x hx e=>by
    have z:=hg.rootP
    have z1:(drG l).pl x.toNat=((plcL l).getD x.toNat 0).toNat:=rfl
    rw [e,z] at z1
    rw [e] at hx
    omega
   unfold mtG
   split
   ·rename_i e;subst e
    exact ⟨ha,fun x=>⟨fun t=>⟨t,t⟩,fun t=>t.1⟩⟩
   ·rename_i e
    split
    ·rename_i e2
     have u:=hM.up a ha W31
     obtain ⟨g1,g2⟩:=h.meet n _ b u.1 hb W31
     refine ⟨g1,fun x=>(g2 x).trans ?_⟩
     exact (h.inv.meet_step (nz a W31) (G1 ha) (by show ((plcL l).getD b.toNat 0).toNat<((plcL l).getD a.toNat 0).toNat;omega) x).symm
    ·rename_i e2
     have e3:(plcL l).getD a.toNat 0<(plcL l).getD b.toNat 0:=by
      rcases Int.lt_or_eq_of_le (show (plcL l).getD a.toNat 0≤(plcL l).getD b.toNat 0 by omega) with t | t
      ·exact t
      ·exact absurd (hM.one a b ha hb t) e
     have u:=hM.up b hb W31
     obtain ⟨g1,g2⟩:=h.meet n a _ ha u.1 W31
     refine ⟨g1,fun x=>(g2 x).trans ?_⟩
     have s:=h.inv.meet_step (nz b W31) (G1 hb) (by show ((plcL l).getD a.toNat 0).toNat<((plcL l).getD b.toNat 0).toNat;omega) x
     exact ⟨fun t=>⟨t.1,(s.2 ⟨t.2,t.1⟩).1⟩,fun t=>⟨t.1,(s.1 ⟨t.2,t.1⟩).1⟩⟩
theorem DmI.best (h:DmI l U k i):∀ (A:List Int) (b:Int),(∀ p∈A,0≤p∧p<(l.length:Int))→(b=-1∨MtS U b) →
 (bsF (plcL l) U A b=-1∧b=-1∧∀ p∈A,U.getD p.toNat 0<0)∨(MtS U (bsF (plcL l) U A b)∧∀ x,Go.Dm.Anc (trU U) (bsF (plcL l) U A b).toNat x↔(b=-1∨Go.Dm.Anc (trU U) b.toNat x)∧∀ p∈A,0≤U.getD p.toNat 0→Go.Dm.Anc (trU U) p.toNat x)
 | [],b,_,hb=>by
   rcases hb with hb | hb
   ·exact .inl ⟨hb,hb,fun p hp=>absurd hp W149⟩
   ·exact .inr ⟨hb,fun x=>⟨fun t=>⟨.inr t,fun p hp=>absurd hp W149⟩,fun t=>t.1.resolve_left (by have:=hb.1;omega)⟩⟩
 | p::r,b,hA,hb=>by
   have hp:=hA p j5
   have hr:∀ q∈r,0≤q∧q<(l.length:Int):=fun q hq=>hA q (jR _ hq)
   have hl:=h.len
   unfold bsF
   by_cases c1:U.getD p.toNat 0<0
   ·rw [if_pos c1]
    rcases h.best r b hr hb with ⟨g1,g2,g3⟩ | ⟨g1,g2⟩
    ·exact .inl ⟨g1,g2,fun q hq=>by rcases List.mem_cons.1 hq with rfl | hq;exact c1;exact g3 q hq⟩
    ·refine .inr ⟨g1,fun x=>(g2 x).trans ⟨fun t=>⟨t.1,fun q hq hs=>?_⟩,fun t=>⟨t.1,fun q hq=>t.2 q (jR _ hq)⟩⟩⟩
     rcases List.mem_cons.1 hq with rfl | hq
     ·omega
     ·exact t.2 q hq hs
   ·rw [if_neg c1]
    have hpS:MtS U p:=⟨hp.1,by omega,by omega⟩
    by_cases c2:b<0
    ·rw [if_pos c2]
     have hb1:b=-1:=hb.resolve_right (fun t=>by have:=t.1;omega)
     rcases h.best r p hr (.inr hpS) with ⟨g1,g2,g3⟩ | ⟨g1,g2⟩
     ·omega
     ·refine .inr ⟨g1,fun x=>(g2 x).trans ⟨fun t=>⟨.inl hb1,fun q hq hs=>?_⟩,fun t=>⟨.inr (t.2 p j5 W31),fun q hq=>t.2 q (jR _ hq)⟩⟩⟩
      rcases List.mem_cons.1 hq with rfl | hq
      ·exact t.1.resolve_left W31
      ·exact t.2 q hq hs
    ·rw [if_neg c2]
     have hb1:MtS U b:=hb.resolve_left W31
     obtain ⟨m1,m2⟩:=h.meet hq h0 _ b p hb1 hpS (Int.self_le_toNat _)
     rcases h.best r (mtF (plcL l) U b p) hr (.inr m1) with ⟨g1,g2,g3⟩ | ⟨g1,g2⟩
     ·have:=m1.1;unfold mtF at g2;omega
     ·refine .inr ⟨g1,fun x=>(g2 x).trans ⟨fun t=>?_,fun t=>⟨.inr ((m2 x).2 ⟨t.1.resolve_left W31,t.2 p j5 W31⟩),fun q hq=>t.2 q (jR _ hq)⟩⟩⟩
      have t1:=(m2 x).1 (t.1.resolve_left (by have:=m1.1;unfold mtF;omega))
      refine ⟨.inr t1.1,fun q hq hs=>?_⟩
      rcases List.mem_cons.1 hq with rfl | hq
      ·exact t1.2
      ·exact t.2 q hq hs
omit hq h0 in
theorem Qq0 {i:Nat} (hi:i<(tlF l).length):(tlF l).getD i 0=(ordL l).getD (i+1) 0∧i+1<(ordL l).length:=by
 have h1:(tlF l).length=(ordL l).length-1:=by unfold tlF;rw [kB]
 refine ⟨?_,by omega⟩
 rw [jb,jb]
 unfold tlF
 rw [j4,Nat.add_comm]
def cbF (l:List Nod) (U:List Int) (n:Int):Int:=bsF (plcL l) U ((aheadL l).getD n.toNat ub).l (-1)
theorem Q2k {i:Nat} (hi:i<(tlF l).length):0≤(tlF l).getD i 0∧(tlF l).getD i 0<(l.length:Int)∧(tlF l).getD i 0≠0∧(tlF l).getD i 0∈ordL l∧(plcL l).getD ((tlF l).getD i 0).toNat 0=(i:Int)+1:=by
 obtain ⟨e,hi2⟩:=Qq0 hi
 rw [e]
 have h1:=(Q1k hq h0).1 _ (Qbn hi2)
 have h2:=Q1n hq h0 hi2
 refine ⟨h1.1,h1.2,fun e0=>?_,Qbn hi2,by rw [h2];omega⟩
 have z:=(Q09 hq h0).rootP
 have z1:(drG l).pl 0=((plcL l).getD (0:Int).toNat 0).toNat:=rfl
 rw [e0] at h2
 rw [h2,z] at z1
 omega
theorem DmI.turn (h:DmI l U k i) (hi:i<(tlF l).length):MtS U (cbF l U ((tlF l).getD i 0))∧DmI l (tnF l U ((tlF l).getD i 0)) k (i+1)∧(l.length≤k→cbF l U ((tlF l).getD i 0)=U.getD ((tlF l).getD i 0).toNat 0):=by
 have hg:=Q09 hq h0
 obtain ⟨n0,n1,n2,n3,n4⟩:=Q2k hq h0 hi
 unfold tnF cbF
 generalize hn:(tlF l).getD i 0=n at n0 n1 n2 n3 n4
 have hl:=h.len
 have hA:∀ p∈((aheadL l).getD n.toNat ub).l,0≤p∧p<(l.length:Int):=fun p hp=>by
  have z:=(Gj hq _ _).1 hp
  exact ⟨z.1,z.2.1⟩
 have n0':n.toNat≠0:=by omega
 have nm:n.toNat∈(drG l).ord:=List.mem_map.2 ⟨n,n3,rfl⟩
 have npl:(drG l).pl n.toNat=i+1:=by show ((plcL l).getD n.toNat 0).toNat=i+1;rw [n4];omega
 obtain ⟨p,p1,p2,p3⟩:=Qjb hq h0 n3 n2
 have pr:=(Q1k hq h0).1 p p1
 have pge:=pl_ge (l:=l) p.toNat
 have ppl:(drG l).pl p.toNat≤i:=by show ((plcL l).getD p.toNat 0).toNat≤i;omega
 have pA:p∈((aheadL l).getD n.toNat ub).l:=(Gj hq _ _).2 ⟨pr.1,pr.2,by rw [show ((n.toNat:Nat):Int)=n by omega];exact p2⟩
 have pset:trU U p.toNat≠none:=by
  by_cases e:p.toNat=0
  ·rw [e,h.inv.root];simp
  ·exact (h.inv.some_ _ e).2 ⟨List.mem_map.2 ⟨p,p1,rfl⟩,by rw [if_pos ppl];omega⟩
 have pS:MtS U p:=Q1o pr.1 W31 pset
 rcases h.best hq h0 _ (-1) hA (.inl rfl) with ⟨_,_,g3⟩ | ⟨g1,g2⟩
 ·have:=g3 p pA;have:=pS.2.2;omega
 generalize bsF (plcL l) U ((aheadL l).getD n.toNat ub).l (-1)=c at g1 g2
 have hb:Go.Dm.Best (drG l) (trU U) n.toNat c.toNat:=by
  refine ⟨fun x=>(g2 x).trans ⟨fun t q hq' hs=>?_,fun t=>⟨.inl rfl,fun q hq' hs=>?_⟩⟩,by rw [G1 g1];simp⟩
  ·obtain ⟨y,hy,rfl⟩:=List.mem_map.1 hq'
   have yr:=hA y hy
   exact t.2 y hy (Q1o yr.1 W31 hs).2.2
  ·have yr:=hA q hq'
   exact t q.toNat (List.mem_map.2 ⟨q,hq',rfl⟩) (by rw [G1 ⟨yr.1,by omega,hs⟩];simp)
 have hs:∃ q∈(drG l).pre n.toNat,trU U q≠none∧(drG l).pl q<(drG l).pl n.toNat:=⟨p.toNat,List.mem_map.2 ⟨p,pA,rfl⟩,pset,by omega⟩
 refine ⟨g1,⟨by rw [jt];exact hl,fun m hm=>?_,?_⟩,fun hk=>?_⟩
 ·rw [Qr _ _ _ _ _ W31]
  split
  ·have:=g1.1;have:=g1.2.1;omega
  ·exact h.rg m hm
 ·rw [Qm7 ⟨n0,by omega⟩ g1.1]
  refine Q8z hg (h.inv.turn hg (k:=k+1) n0' nm hb W31 (fun m _ _ hm=>?_) (fun m _ _ hm=>?_) hs) (fun m hm hm0=>?_)
  ·rw [if_pos W31]
  ·rw [if_neg W31]
  ·show (if (drG l).pl m≤i+1 then k+1 else k)=if m=n.toNat then k+1 else if (drG l).pl m≤i then k+1 else k
   by_cases e:m=n.toNat
   ·rw [if_pos e,if_pos (by rw [e,npl];omega)]
   ·rw [if_neg e]
    have:(drG l).pl m≠i+1:=fun e2=>e (hg.inj _ _ hm nm (by rw [e2,npl]))
    by_cases e3:(drG l).pl m≤i
    ·rw [if_pos e3,if_pos W31]
    ·rw [if_neg e3,if_neg W31]
 ·have hns:trU U n.toNat≠none:=(h.inv.some_ _ n0').2 ⟨nm,by split<;>omega⟩
  have nS:=Q1o n0 W31 hns
  have e:=h.inv.still hg n0' nm hb (G1 nS) (fun m _ _=>by show l.length≤_;split<;>omega) hs
  have:=g1.1;have:=nS.2.2
  omega
omit hq h0 in
theorem Q0a (hi:i<(tlF l).length) (U:List Int):rnG l U (i+1)=tnF l (rnG l U i) ((tlF l).getD i 0):=by
 unfold rnG
 rw [jN hi,List.foldl_append,Qc hi];rfl
theorem DmI.rounds (h:DmI l U k 0):∀ i,i≤(tlF l).length→DmI l (rnG l U i) k i
 | 0,_=>h
 | i+1,hi=>by
   rw [Q0a W31]
   exact ((h.rounds i W31).turn hq h0 W31).2.1
omit hq h0 in
theorem Q81 (U:List Int):rnG l U (tlF l).length=rnF l U:=by unfold rnG rnF;rw [List.take_length]
theorem DmI.round (h:DmI l U k 0):DmI l (rnF l U) (k+1) 0:=by
 have hg:=Q09 hq h0
 have z:=h.rounds hq h0 _ (jm _)
 rw [Q81] at z
 refine ⟨z.len,z.rg,Q8z hg z.inv fun m hm hm0=>?_⟩
 have hp:=hg.pos m hm hm0
 obtain ⟨x,hx,rfl⟩:=List.mem_map.1 hm
 obtain ⟨j,j1,j2,j3⟩:=Qdq hq h0 hx
 have h1:(tlF l).length=(ordL l).length-1:=by unfold tlF;rw [kB]
 have h2:(drG l).pl x.toNat=j:=by show ((plcL l).getD x.toNat 0).toNat=j;rw [j3];rfl
 show (if (drG l).pl x.toNat≤0 then k+1+1 else k+1)=if (drG l).pl x.toNat≤(tlF l).length then k+1 else k
 rw [if_neg W31,if_pos W31]
theorem DmI.start:DmI l (dm0 l) 0 0:=by
 have hg:=Q09 hq h0
 have g0:∀ m:Nat,m<l.length→(dm0 l).getD m 0=if m=0 then 0 else -1:=fun m hm=>by
  unfold dm0
  rw [Qr _ _ _ _ _ (by simpa using h0)]
  split
  ·rfl
  ·rw [Qc (by simpa using hm)];simp
 have hlen:(dm0 l).length=l.length:=by simp [dm0]
 have ht:∀ m:Nat,trU (dm0 l) m=if m=0 then some 0 else none:=fun m=>by
  unfold trU
  by_cases hm:m<l.length
  ·rw [Q5p (b:=0) W31,g0 m hm]
   by_cases e:m=0
   ·simp [e]
   ·simp [e]
  ·rw [jb,jX W31]
   have:m≠0:=by omega
   simp [this]
 refine ⟨hlen,fun m hm=>by rw [g0 m hm];split<;>omega,⟨by rw [ht];simp,fun m hm=>?_,fun m p hm hp=>?_,fun m p hm hp=>?_,fun ll kk m t hk x hx=>?_,fun m d hm hd=>?_⟩⟩
 ·rw [ht,if_neg hm]
  constructor
  ·intro h;exact absurd rfl h
  ·rintro ⟨hmm,hr⟩
   have:=hg.pos m hmm hm
   rw [if_neg W31] at hr
   omega
 ·rw [ht,if_neg hm] at hp;exact absurd hp W149
 ·rw [ht,if_neg hm] at hp;exact absurd hp W149
 ·have hm:m=0:=by
   rcases hk with hk | hk
   ·exact hk
   ·by_cases e:m=0
    ·exact e
    ·have:=hg.pos m (t.mem hg) e
     rw [if_neg W31] at hk
     omega
  subst hm
  have:=hx.root
  subst this
  cases t with
  | nil=>simp
  | snoc=>exact j5
 ·have hm0:m=0:=by
   by_cases e:m=0
   ·exact e
   ·rw [ht,if_neg e] at hm;exact absurd rfl hm
  subst hm0
  have z:=hd _ _ .nil
  simp at z
  subst z
  exact .refl _
theorem DmI.it:∀ j,DmI l (itF l j (dm0 l)) j 0
 | 0=>.start hq h0
 | j+1=>by rw [Q5o];exact (DmI.it j).round hq h0
theorem DmI.stop (h:DmI l U k 0) (hk:l.length≤k):rnF l U=U:=by
 have z:∀ i,i≤(tlF l).length→rnG l U i=U:=by
  intro i
  induction i with
  | zero=>intro _;rfl
  | succ i ih =>
    intro hi
    have e:=ih W31
    rw [Q0a W31,e]
    have t:=h.rounds hq h0 i W31
    rw [e] at t
    have u:=(t.turn hq h0 W31).2.2 hk
    have o:=Q2k hq h0 (show i<(tlF l).length by omega)
    unfold tnF
    unfold cbF at u
    rw [u]
    have hl:=h.len
    rw [Qc (l:=U) W31]
    exact List.set_getElem_self _
 rw [← Q81]
 exact z _ (jm _)
theorem Q82:rnF l (itF l l.length (dm0 l))=itF l l.length (dm0 l):=(DmI.it hq h0 _).stop hq h0 (jm _)
end
def DmJ (l:List Nod) (U:List Int):Prop:=∃ j,U=itF l j (dm0 l)
structure RnJ (l:List Nod) (U0 U:List Int) (i:Int) (ag:Bool):Prop where
 lo:0≤i
 hi:i≤((tlF l).length:Int)
 eq:U=rnG l U0 i.toNat
 no:ag=false→U=U0
 yes:ag=true→∃ m:Nat,m<i.toNat∧U.getD ((tlF l).getD m 0).toNat 0≠U0.getD ((tlF l).getD m 0).toNat 0
structure BsJ (P U A:List Int) (x b:Int):Prop where
 lo:0≤x
 hi:x≤(A.length:Int)
 eq:b=bsF P U (A.take x.toNat) (-1)
 set:b=-1∨MtS U b
theorem Qbo (P U:List Int) (p:Int):∀ (A:List Int) (b:Int),bsF P U (A++[p]) b=if U.getD p.toNat 0<0 then bsF P U A b else if bsF P U A b<0 then p else mtF P U (bsF P U A b) p
 | [],b=>rfl
 | q::r,b=>by rw [List.cons_append,bsF,Qbo P U p r];rfl
section
variable {l:List Nod} (hq:∀ i:Nat,i<l.length→∀ x∈flwL (l.getD i ub),0≤x∧x<(l.length:Int)) (h0:0<l.length) {U0 U:List Int} {i x b:Int} {ag:Bool}
include hq h0
theorem DmJ.rn (h:DmJ l U0) (h1:RnJ l U0 U i ag):∃ k,DmI l U k i.toNat:=by
 obtain ⟨j,rfl⟩:=h
 refine ⟨j,?_⟩
 rw [h1.eq]
 exact (DmI.it hq h0 j).rounds hq h0 _ (by have:=h1.lo;have:=h1.hi;omega)
omit hq h0 in
theorem RnJ.start (U0:List Int):RnJ l U0 U0 0 false:=⟨jA _,by omega,rfl,fun _=>rfl,fun h=>absurd h W149⟩
theorem RnJ.same (h:RnJ l U0 U i ag) (hj:DmJ l U0) (hi:i<((tlF l).length:Int)) (e:U.getD ((tlF l).getD i.toNat 0).toNat 0=cbF l U ((tlF l).getD i.toNat 0)):RnJ l U0 U (i+1) ag:=by
 obtain ⟨k,z⟩:=hj.rn hq h0 h
 obtain ⟨a1,a2,a3,a4,a5⟩:=h
 refine ⟨by omega,by omega,?_,a4,fun hg=>?_⟩
 ·rw [show (i+1).toNat=i.toNat+1 by omega,Q0a W31,← a3]
  have o:=Q2k hq h0 (show i.toNat<(tlF l).length by omega)
  have hl:=z.len
  unfold tnF
  unfold cbF at e
  rw [← e,Qc (l:=U) W31]
  exact (List.set_getElem_self _).symm
 ·obtain ⟨m,m1,m2⟩:=a5 hg
  exact ⟨m,by omega,m2⟩
theorem Qo7 {a b:Nat} (ha:a<(tlF l).length) (hb:b<(tlF l).length) (e:((tlF l).getD a 0).toNat=((tlF l).getD b 0).toNat):a=b:=by
 have h1:=(Q2k hq h0 ha).2.2.2.2
 have h2:=(Q2k hq h0 hb).2.2.2.2
 rw [e,h2] at h1
 omega
theorem Qbp:∀ (i m:Nat),i≤m→m<(tlF l).length→∀ U:List Int,(rnG l U i).getD ((tlF l).getD m 0).toNat 0=U.getD ((tlF l).getD m 0).toNat 0
 | 0,m,_,_,U=>rfl
 | i+1,m,hi,hm,U=>by
   rw [Q0a W31]
   unfold tnF
   have z:=Qbp i m W31 hm U
   by_cases e:((tlF l).getD i 0).toNat<(rnG l U i).length
   ·rw [Qr _ _ _ _ _ e,if_neg (fun e2=>absurd (Qo7 hq h0 hm W31 e2) W31)]
    exact z
   ·rw [List.set_eq_of_length_le W31];exact z
theorem RnJ.diff (h:RnJ l U0 U i ag) (hj:DmJ l U0) (hi:i<((tlF l).length:Int)) (e:¬ U.getD ((tlF l).getD i.toNat 0).toNat 0=cbF l U ((tlF l).getD i.toNat 0)):RnJ l U0 (U.set ((tlF l).getD i.toNat 0).toNat (cbF l U ((tlF l).getD i.toNat 0))) (i+1) true:=by
 obtain ⟨k,z⟩:=hj.rn hq h0 h
 have o:=Q2k hq h0 (show i.toNat<(tlF l).length by have:=h.lo;omega)
 have hl:=z.len
 obtain ⟨a1,a2,a3,a4,a5⟩:=h
 refine ⟨by omega,by omega,?_,fun h=>absurd h W149,fun _=>⟨i.toNat,by omega,?_⟩⟩
 ·rw [show (i+1).toNat=i.toNat+1 by omega,Q0a W31,← a3];rfl
 ·rw [Qr _ _ _ _ _ W31,if_pos rfl]
  have y:=Qbp hq h0 i.toNat i.toNat (jm _) W31 U0
  rw [← a3] at y
  rw [← y]
  exact fun e2=>e e2.symm
theorem RnJ.done (h:RnJ l U0 U i ag) (hj:DmJ l U0) (hi:¬ i<((tlF l).length:Int)):DmJ l U∧(ag=false→rnF l U=U)∧(ag=true→lfF l l.length U<lfF l l.length U0):=by
 have a1:=h.lo
 have a2:=h.hi
 have e:U=rnF l U0:=by rw [h.eq,show i.toNat=(tlF l).length by omega,Q81]
 obtain ⟨j,hj⟩:=hj
 refine ⟨⟨j+1,by rw [Q5o,← hj,e]⟩,fun hg=>?_,fun hg=>?_⟩
 ·have:=h.no hg
  rw [← this] at e
  exact e.symm
 ·obtain ⟨m,_,m2⟩:=h.yes hg
  have hne:rnF l U0≠U0:=fun e2=>m2 (by rw [e,e2])
  have st:rnF l (itF l l.length U0)=itF l l.length U0:=by
   rw [hj,← Q1m,Nat.add_comm,Q1m,Q0n (Q82 hq h0)]
   exact Q82 hq h0
  have:=Qja st hne
  rw [e];omega
theorem DmJ.fin (h:DmJ l U) (e:rnF l U=U):U.set 0 (-1)=domL l:=by
 obtain ⟨j,hj⟩:=h
 unfold domL
 have st:=Q82 hq h0
 congr 1
 rcases Nat.le_total j l.length with hl | hl
 ·rw [show l.length=(l.length-j)+j by omega,Q1m,← hj,Q0n e]
 ·rw [hj,show j=(j-l.length)+l.length by omega,Q1m,Q0n st]
omit hq h0 in
theorem BsJ.start (P U A:List Int):BsJ P U A 0 (-1):=⟨jA _,by omega,rfl,.inl rfl⟩
omit hq h0 in
theorem BsJ.at_ {P A:List Int} (h:BsJ P U A x b) (hx:x<(A.length:Int)):bsF P U (A.take (x+1).toNat) (-1)=if U.getD (A.getD x.toNat 0).toNat 0<0 then b else if b<0 then A.getD x.toNat 0 else mtF P U b (A.getD x.toNat 0):=by
 have a1:=h.lo
 rw [show (x+1).toNat=x.toNat+1 by omega,jN W31,Qbo,← h.eq,Qc (l:=A) W31]
omit hq h0 in
theorem BsJ.skip {P A:List Int} (h:BsJ P U A x b) (hx:x<(A.length:Int)) (e:U.getD (A.getD x.toNat 0).toNat 0<0):BsJ P U A (x+1) b:=by
 have a1:=h.lo
 exact ⟨by omega,by omega,by rw [h.at_ hx,if_pos e],h.set⟩
omit hq h0 in
theorem BsJ.first {P A:List Int} (h:BsJ P U A x b) (hx:x<(A.length:Int)) (hs:MtS U (A.getD x.toNat 0)) (hb:b<0):BsJ P U A (x+1) (A.getD x.toNat 0):=by
 have a1:=h.lo
 exact ⟨by omega,by omega,by rw [h.at_ hx,if_neg (by have:=hs.2.2;omega),if_pos hb],.inr hs⟩
theorem BsJ.meet {A:List Int} {k n:Nat} (hd:DmI l U k n) (h:BsJ (plcL l) U A x b) (hx:x<(A.length:Int)) (hs:MtS U (A.getD x.toNat 0)) (hb:¬ b<0):BsJ (plcL l) U A (x+1) (mtF (plcL l) U b (A.getD x.toNat 0)):=by
 have a1:=h.lo
 exact ⟨by omega,by omega,by rw [h.at_ hx,if_neg (by have:=hs.2.2;omega),if_neg hb],.inr (hd.meet hq h0 _ b _ (h.set.resolve_left W31) hs (Int.self_le_toNat _)).1⟩
omit hq h0 in
theorem BsJ.done {P A:List Int} (h:BsJ P U A x b) (hx:¬ x<(A.length:Int)):b=bsF P U A (-1):=by
 have a1:=h.hi
 have:=h.eq
 rwa [ky W31] at this
theorem Qbq:UpH (plcL l) (domL l)∧(domL l).length=l.length∧∀ m:Nat,m<l.length→-1≤(domL l).getD m 0∧(domL l).getD m 0<(l.length:Int):=by
 have h:=DmI.it hq h0 l.length
 have hM:=h.mth hq h0
 have hr:=h.root h0
 unfold domL
 generalize itF l l.length (dm0 l)=U at h hM hr
 have hl:=h.len
 have rg:∀ m:Nat,m<l.length→-1≤(U.set 0 (-1)).getD m 0∧(U.set 0 (-1)).getD m 0<(l.length:Int):=fun m hm=>by
  rw [Qr _ _ _ _ _ W31];split
  ·omega
  ·exact h.rg m hm
 refine ⟨⟨by rw [jt];exact hM.len,fun x _ _=>pl_ge _,fun x hx hx2=>?_⟩,by rw [jt];exact hl,rg⟩
 rw [jt] at hx2 ⊢
 refine ⟨by have:=(rg x.toNat W31).2;omega,fun hge=>?_⟩
 rw [Qr _ _ _ _ _ W31] at hge ⊢
 by_cases e:x.toNat=0
 ·rw [if_pos e] at hge;omega
 ·rw [if_neg e] at hge ⊢
  have xS:MtS U x:=⟨hx,hx2,hge⟩
  rcases Int.lt_or_eq_of_le (pl_ge x.toNat) with t | t
  ·exact (hM.up x xS t).2
  ·have z:=(Q09 hq h0).rootP
   have z1:(drG l).pl 0=((plcL l).getD (0:Int).toNat 0).toNat:=rfl
   have z2:=pl_ge (l:=l) (0:Int).toNat
   rw [z] at z1
   have:=hM.one x 0 xS hr W31
   omega
end
def filF (n i:Nat):List Int:=(jB n).map fun j=>if j<i then -1 else 0
theorem Qgy (n:Nat):filF n 0=ji n 0:=by
 refine List.ext_getElem (by simp [filF]) fun i h1 h2=>by simp [filF]
theorem Qgz {n:Nat} {i:Int} (h:0≤i) (hi:i<(n:Int)):(filF n i.toNat).set i.toNat (-1)=filF n (i+1).toNat:=by
 refine List.ext_getElem (by simp [filF]) fun j h1 h2=>?_
 rw [List.getElem_set]
 simp only [filF,List.getElem_map,List.getElem_range]
 split
 ·rw [if_pos W31]
 ·split
  ·rw [if_pos W31]
  ·rw [if_neg W31]
theorem Qjc (l:List Nod):(filF l.length l.length).set 0 0=dm0 l:=by
 unfold dm0
 congr 1
 refine List.ext_getElem (by simp [filF]) fun j h1 h2=>?_
 simp only [filF,jK,kv] at h1
 simp [filF,h1]
theorem Qjd (n i:Nat):(filF n i).length=n:=by simp [filF]
theorem Qbr (l:List Nod) (i:Nat):(ordL l).getD (1+i) 0=(tlF l).getD i 0:=by
 rw [jb,jb]
 unfold tlF
 rw [j4]
theorem Qh0 (l:List Nod):(tlF l).length=(ordL l).length-1:=by unfold tlF;rw [kB]
theorem DmJ.start (l:List Nod):DmJ l (dm0 l):=⟨0,rfl⟩
section
variable {l:List Nod} (hq:∀ i:Nat,i<l.length→∀ x∈flwL (l.getD i ub),0≤x∧x<(l.length:Int)) (h0:0<l.length) {U0 U:List Int} {i x n:Int} {ag:Bool}
include hq h0
theorem Qh1:1≤(ordL l).length∧(ordL l).length≤l.length:=by
 obtain ⟨r,hr⟩:=Qdp hq h0
 exact ⟨by rw [hr];simp,(Q1k hq h0).2.2⟩
theorem DmJ.len (h:DmJ l U):U.length=l.length:=by
 obtain ⟨j,rfl⟩:=h
 exact (DmI.it hq h0 j).len
theorem DmJ.len2 (h:DmJ l U0) (h1:RnJ l U0 U i ag):U.length=l.length:=by
 obtain ⟨k,z⟩:=h.rn hq h0 h1
 exact z.len
theorem Qq1 (hi:0≤i) (h:i<((tlF l).length:Int)):0≤(tlF l).getD i.toNat 0∧(tlF l).getD i.toNat 0<(l.length:Int):=by
 have z:=Q2k hq h0 (show i.toNat<(tlF l).length by omega)
 exact ⟨z.1,z.2.1⟩
theorem DmJ.pt (h:DmJ l U0) (h1:RnJ l U0 U i ag) (hx0:0≤x) (hx:x<(((aheadL l).getD n.toNat ub).l.length:Int)) :
 0≤((aheadL l).getD n.toNat ub).l.getD x.toNat 0∧((aheadL l).getD n.toNat ub).l.getD x.toNat 0<(l.length:Int)∧(¬ U.getD (((aheadL l).getD n.toNat ub).l.getD x.toNat 0).toNat 0<0→MtS U (((aheadL l).getD n.toNat ub).l.getD x.toNat 0)):=by
 have z:=(Gj hq n.toNat _).1 (Y1 hx hx0)
 have e:=h.len2 hq h0 h1
 exact ⟨z.1,z.2.1,fun hn=>⟨z.1,by omega,by omega⟩⟩
theorem DmJ.mth (h:DmJ l U0) (h1:RnJ l U0 U i ag):MtH (plcL l) U:=by
 obtain ⟨k,z⟩:=h.rn hq h0 h1
 exact z.mth hq h0
theorem DmJ.meet {b:Int} {A:List Int} (h:DmJ l U0) (h1:RnJ l U0 U i ag) (h2:BsJ (plcL l) U A x b) (hx:x<(A.length:Int)) (hs:MtS U (A.getD x.toNat 0)) (hb:¬ b<0):BsJ (plcL l) U A (x+1) (mtF (plcL l) U b (A.getD x.toNat 0)):=by
 obtain ⟨k,z⟩:=h.rn hq h0 h1
 exact BsJ.meet hq h0 z h2 hx hs hb
omit hq h0 in
theorem Q83 (l:List Nod):(aheadL l).length=l.length:=Q2a _ _
omit hq h0 in
theorem Z2 (l:List Nod) (k:Nat):((aheadL l).getD k ub).l.length≤2 * l.length:=Jm _ _ _
theorem DmJ.f2 (h:DmJ l U0) (h1:RnJ l U0 U i ag) (h7:i<(((ordL l).length-1:Nat):Int)):0≤i∧0≤(ordL l).getD (1+i.toNat) 0∧(ordL l).getD (1+i.toNat) 0<(l.length:Int)∧U.length=l.length∧(aheadL l).length=l.length∧((aheadL l).getD ((ordL l).getD (1+i.toNat) 0).toNat ub).l.length≤2 * l.length∧(ordL l).length≤l.length∧1≤(ordL l).length:=by
 have t:=Qq1 hq h0 h1.lo W201
 have o:=Qh1 hq h0
 rw [Qbr]
 exact ⟨h1.lo,t.1,t.2,h.len2 hq h0 h1,Q83 l,Z2 l _,o.2,o.1⟩
theorem DmJ.f3 {b:Int} (h:DmJ l U0) (h1:RnJ l U0 U i ag) (h8:BsJ (plcL l) U ((aheadL l).getD n.toNat ub).l x b) (h9:x<(((aheadL l).getD n.toNat ub).l.length:Int)):0≤x∧0≤((aheadL l).getD n.toNat ub).l.getD x.toNat 0∧((aheadL l).getD n.toNat ub).l.getD x.toNat 0<(l.length:Int):=by
 have p:=h.pt hq h0 h1 h8.lo h9
 exact ⟨h8.lo,p.1,p.2.1⟩
theorem RnJ.less (h:RnJ l U0 U i ag) (hj:DmJ l U0) (h7:¬ i<(((ordL l).length-1:Nat):Int)):(if ag=true then 1+lfF l l.length U else 0)<1+lfF l l.length U0:=by
 have d:=(h.done hq h0 hj W201).2.2
 split
 ·rename_i e;have:=d e;omega
 ·omega
theorem RnJ.both (h:RnJ l U0 U i ag) (hj:DmJ l U0) (h7:¬ i<(((ordL l).length-1:Nat):Int)):DmJ l U∧(ag=false→rnF l U=U):=by
 have d:=h.done hq h0 hj W201
 exact ⟨d.1,d.2.1⟩
theorem RnJ.sameI {b:Int} (h:RnJ l U0 U i ag) (hj:DmJ l U0) (h7:i<(((ordL l).length-1:Nat):Int)) (hb:BsJ (plcL l) U ((aheadL l).getD ((ordL l).getD (1+i.toNat) 0).toNat ub).l x b) (h9:¬ x<(((aheadL l).getD ((ordL l).getD (1+i.toNat) 0).toNat ub).l.length:Int)) (e:U.getD ((ordL l).getD (1+i.toNat) 0).toNat 0=b):RnJ l U0 U (i+1) ag:=by
 have z:=hb.done h9
 rw [Qbr] at z e
 exact h.same hq h0 hj W201 (by rw [e,z];rfl)
theorem RnJ.diffI {b:Int} (h:RnJ l U0 U i ag) (hj:DmJ l U0) (h7:i<(((ordL l).length-1:Nat):Int)) (hb:BsJ (plcL l) U ((aheadL l).getD ((ordL l).getD (1+i.toNat) 0).toNat ub).l x b) (h9:¬ x<(((aheadL l).getD ((ordL l).getD (1+i.toNat) 0).toNat ub).l.length:Int)) (e:¬ U.getD ((ordL l).getD (1+i.toNat) 0).toNat 0=b):RnJ l U0 (U.set ((ordL l).getD (1+i.toNat) 0).toNat b) (i+1) true:=by
 have z:=hb.done h9
 rw [Qbr] at z e ⊢
 have r:=h.diff hq h0 hj W201 (by rw [z] at e;exact e)
 rw [z];exact r
end
def cntB (N:Nat) (p:Nat→Bool):Nat:=(jB N).countP p
theorem Qdr (N:Nat) (p:Nat→Bool):cntB N p≤N:=by
 have h:=List.countP_le_length (p:=p) (l:=jB N)
 rwa [kv] at h
theorem Qh2 {N:Nat} {p q:Nat→Bool} (h:∀ i,i<N→p i=q i):cntB N p=cntB N q:=by
 induction N with
 | zero=>rfl
 | succ n ih =>
   unfold cntB at ih ⊢
   rw [kz,kY,kY,ih (fun i hi=>h i W31)]
   simp [h n W31]
theorem Qbs {N k:Nat} {p q:Nat→Bool} (hk:k<N) (hp:p k=true) (hq:q k=false) (h:∀ i,i≠k→q i=p i):cntB N q+1=cntB N p:=by
 induction N with
 | zero=>omega
 | succ n ih =>
   by_cases e:k=n
   ·subst e
    have h1:=Qh2 (N:=k) (p:=q) (q:=p) (fun i hi=>h i W31)
    unfold cntB at h1 ⊢
    rw [kz,kY,kY,h1]
    simp [hp,hq]
   ·have h1:=ih W31
    unfold cntB at h1 ⊢
    rw [kz,kY,kY]
    simp only [List.countP_cons,List.countP_nil]
    rw [h n (fun e2=>e e2.symm)]
    omega
def unmF (N:Nat) (D:Int→Option Bool):Nat:=cntB N fun i=>!((D (i:Int)).getD false)
theorem Qje {N:Nat} {D:Int→Option Bool} {q:Int} (h0:0≤q) (h1:q<(N:Int)) (h:(D q).getD false=false):unmF N (fun a=>if a=q then some true else D a)+1=unmF N D:=by
 refine Qbs (k:=q.toNat) W31 ?_ ?_ (fun i hi=>?_)
 ·show (!((D ((q.toNat:Nat):Int)).getD false))=true
  rw [show ((q.toNat:Nat):Int)=q by omega,h];rfl
 ·show (!(if ((q.toNat:Nat):Int)=q then some true else D ((q.toNat:Nat):Int)).getD false)=false
  rw [if_pos W31];rfl
 ·show (!(if (i:Int)=q then some true else D (i:Int)).getD false)=_
  rw [if_neg W31]
def lftF (N:Nat) (L:Int→Bool):Nat:=cntB N fun i=>L (i:Int)
theorem Qjf {N:Nat} {L:Int→Bool} {q:Int} (h0:0≤q) (h1:q<(N:Int)) (h:L q=true):lftF N (fun a=>L a&&!decide (a=q))+1=lftF N L:=by
 refine Qbs (k:=q.toNat) W31 ?_ ?_ (fun i hi=>?_)
 ·show L ((q.toNat:Nat):Int)=true
  rw [show ((q.toNat:Nat):Int)=q by omega,h]
 ·show (L ((q.toNat:Nat):Int)&&!decide (((q.toNat:Nat):Int)=q))=false
  rw [decide_eq_true (show ((q.toNat:Nat):Int)=q by omega)];simp
 ·show (L (i:Int)&&!decide ((i:Int)=q))=L (i:Int)
  rw [decide_eq_false (show ¬ ((i:Int)=q) by omega)];simp
def KeysIn (N:Nat) (D:Int→Option Bool):Prop:=∀ q,(D q).isSome=true→0≤q∧q<(N:Int)
theorem KeysIn.none (N:Nat):KeysIn N (fun _=>Option.none):=fun q h=>absurd h W149
theorem KeysIn.put {N:Nat} {D:Int→Option Bool} (h:KeysIn N D) {q:Int} (h0:0≤q∧q<(N:Int)):KeysIn N (fun a=>if a=q then some true else D a):=by
 intro a ha
 by_cases e:a=q
 ·subst e;exact h0
 ·exact h a (by simpa [e] using ha)
def InR (N:Nat) (t:List Int):Prop:=∀ x∈t,0≤x∧x<(N:Int)
theorem InR.snoc {N:Nat} {t:List Int} (h:InR N t) {x:Int} (hx:0≤x∧x<(N:Int)):InR N (t++[x]):=fun y hy=>by
 rcases List.mem_append.1 hy with hy | hy
 ·exact h y hy
 ·rw [jI] at hy;subst hy;exact hx
theorem InR.take {N:Nat} {t:List Int} (h:InR N t) (k:Nat):InR N (t.take k):=fun y hy=>h y (List.mem_of_mem_take hy)
theorem InR.top {N:Nat} {t:List Int} (h:InR N t) (h0:(0:Int)<(t.length:Int)):0≤t.getD ((t.length:Int)-1).toNat 0∧t.getD ((t.length:Int)-1).toNat 0<(N:Int):=h _ (Y1 W31 W31)
structure DpO (N:Nat) (h:Int) (out:List Int):Prop where
 lo:0≤h
 hi:h≤(N:Int)
 len:out.length=N
 val:∀ i:Nat,i<N→0≤out.getD i 0∧out.getD i 0≤h * 4096
structure DpA (N m:Nat) (i:Int) (todo:List Int) (n:Nat) (D:Int→Option Bool):Prop where
 lo:0≤i
 hi:i≤(m:Int)
 td:InR N todo
 ks:KeysIn N D
 tl:(todo.length:Int)≤i
 nl:(n:Int)≤i
structure DpB (N n:Nat) (D:Int→Option Bool) (todo:List Int):Prop where
 td:InR N todo
 ks:KeysIn N D
 ms:unmF N D * (2 * N+1)+todo.length≤N * (2 * N+1)+2 * N
 nl:n+unmF N D≤3 * N
structure DpD (N m k:Nat) (i:Int) (todo:List Int):Prop where
 lo:0≤i
 hi:i≤(m:Int)
 td:InR N todo
 tl:(todo.length:Int)≤(k:Int)-1+i
structure DpE (N:Nat) (h:Int) (out:List Int) (L:Int→Bool):Prop where
 len:out.length=N
 val:∀ i:Nat,i<N→0≤out.getD i 0∧out.getD i 0+lftF N L≤h * 4096+4096
theorem DpO.start (N:Nat):DpO N 0 (ji N 0):=by
 refine ⟨jA _,by omega,by simp,fun i hi=>?_⟩
 rw [Qc W203]
 simp
theorem DpO.next {N:Nat} {h:Int} {out:List Int} (H:DpO N h out) (hl:h<(N:Int)):DpO N (h+1) out:=⟨by have:=H.lo;omega,by omega,H.len,fun i hi=>by have:=H.val i hi;omega⟩
theorem DpA.start (N m:Nat):DpA N m 0 [] 0 (fun _=>Option.none):=⟨jA _,by omega,fun x hx=>absurd hx W149,.none N,by simp,by simp⟩
theorem DpA.skip {N m n:Nat} {i:Int} {todo:List Int} {D:Int→Option Bool} (H:DpA N m i todo n D) (hi:i<(m:Int)):DpA N m (i+1) todo n D:=⟨by have:=H.lo;omega,by omega,H.td,H.ks,by have:=H.tl;omega,by have:=H.nl;omega⟩
theorem DpA.put {N m n:Nat} {i h x:Int} {todo:List Int} {D:Int→Option Bool} (H:DpA N m i todo n D) (hi:i<(m:Int)) (hh:0≤h∧h<(N:Int)) (hx:0≤x∧x<(N:Int)):DpA N m (i+1) (todo++[x]) (n+1) (fun q=>if q=h then some true else D q):=
 ⟨by have:=H.lo;omega,by omega,H.td.snoc hx,H.ks.put hh,by have:=H.tl;simp only [jl,ki];omega,by have:=H.nl;omega⟩
theorem DpA.done {N m n:Nat} {i:Int} {todo:List Int} {D:Int→Option Bool} (H:DpA N m i todo n D) (hm:m≤2 * N):DpB N n D todo:=by
 have h1:=Qdr N fun i=>!((D (i:Int)).getD false)
 have h2:=H.hi;have h3:=H.tl;have h4:=H.nl
 refine ⟨H.td,H.ks,?_,?_⟩
 ·have:=kr (2 * N+1) h1
  unfold unmF
  omega
 ·unfold unmF;omega
theorem DpB.pop {N n:Nat} {D:Int→Option Bool} {todo:List Int} (H:DpB N n D todo) (h0:(0:Int)<(todo.length:Int)):DpB N n D (todo.take (todo.length-1))∧unmF N D * (2 * N+1)+(todo.take (todo.length-1)).length<unmF N D * (2 * N+1)+todo.length:=by
 have h1:=H.ms
 have h2:(todo.take (todo.length-1)).length=todo.length-1:=by rw [jJ];omega
 exact ⟨⟨H.td.take _,H.ks,by rw [h2];omega,H.nl⟩,by rw [h2];omega⟩
theorem DpB.small {N n:Nat} {D:Int→Option Bool} {todo:List Int} (H:DpB N n D todo) (hN:N≤4096):todo.length≤33566720∧n≤12288:=by
 have h1:=H.ms;have h2:=H.nl
 have h3:N * (2 * N+1)≤4096 * 8193:=Nat.mul_le_mul hN W31
 generalize N * (2 * N+1)=C at h1 h3
 generalize unmF N D * (2 * N+1)=A at h1
 omega
theorem DpB.inner {N n m:Nat} {D:Int→Option Bool} {todo:List Int} (H:DpB N n D todo) (h0:(0:Int)<(todo.length:Int)):DpD N m todo.length 0 (todo.take (todo.length-1)):=⟨jA _,by omega,H.td.take _,by rw [jJ];omega⟩
theorem DpD.skip {N m k:Nat} {i:Int} {todo:List Int} (H:DpD N m k i todo) (hi:i<(m:Int)):DpD N m k (i+1) todo:=⟨by have:=H.lo;omega,by omega,H.td,by have:=H.tl;omega⟩
theorem DpD.put {N m k:Nat} {i x:Int} {todo:List Int} (H:DpD N m k i todo) (hi:i<(m:Int)) (hx:0≤x∧x<(N:Int)):DpD N m k (i+1) (todo++[x]):=⟨by have:=H.lo;omega,by omega,H.td.snoc hx,by have:=H.tl;simp only [jl,ki];omega⟩
theorem DpD.done {N n m:Nat} {i q:Int} {D:Int→Option Bool} {todo t2:List Int} (H:DpB N n D todo) (h:DpD N m todo.length i t2) (hm:m≤2 * N) (hq:0≤q∧q<(N:Int)) (hd:(D q).getD false=false) :
 DpB N (n+1) (fun a=>if a=q then some true else D a) t2∧unmF N (fun a=>if a=q then some true else D a) * (2 * N+1)+t2.length<unmF N D * (2 * N+1)+todo.length:=by
 have h1:=Qje hq.1 hq.2 hd
 have h2:=h.tl;have h3:=h.hi;have h4:=H.ms;have h5:=H.nl
 generalize hu:unmF N (fun a=>if a=q then some true else D a)=u at h1 ⊢
 have h6:unmF N D * (2 * N+1)=u * (2 * N+1)+(2 * N+1):=by rw [← h1,Nat.add_mul,Nat.one_mul]
 generalize unmF N D * (2 * N+1)=A at h4 h6 ⊢
 have h7:u * (2 * N+1)+t2.length<A+todo.length:=by
  generalize u * (2 * N+1)=B at h6 ⊢
  omega
 refine ⟨⟨h.td,H.ks.put hq,?_,by omega⟩,h7⟩
 generalize N * (2 * N+1)=C at h4 ⊢
 have h8:unmF N (fun a=>if a=q then some true else D a) * (2 * N+1)+t2.length<A+todo.length:=by
  rw [hu];exact h7
 omega
theorem DpE.start {N:Nat} {h:Int} {out:List Int} (H:DpO N h out) (hN:N≤4096) (L:Int→Bool):DpE N h out L:=⟨H.len,fun i hi=>by
 have h1:=H.val i hi
 have h2:=Qdr N fun i=>L (i:Int)
 unfold lftF
 omega⟩
theorem DpE.put {N:Nat} {h q:Int} {out:List Int} {L:Int→Bool} (H:DpE N h out L) (hq:0≤q∧q<(N:Int)) (hL:L q=true):DpE N h (out.set q.toNat (out.getD q.toNat 0+1)) (fun a=>L a&&!decide (a=q)):=by
 have h1:=Qjf hq.1 hq.2 hL
 have hl:=H.len
 refine ⟨by rw [jt];exact H.len,fun i hi=>?_⟩
 rw [Qr _ _ _ _ _ W31]
 have h2:=H.val i hi
 split
 ·rename_i e;subst e;omega
 ·omega
theorem DpE.done {N:Nat} {h:Int} {out:List Int} {L:Int→Bool} (H:DpE N h out L) (h0:0≤h) (hl:h<(N:Int)):DpO N (h+1) out:=⟨by omega,by omega,H.len,fun i hi=>by have:=H.val i hi;omega⟩
theorem Q6y {l:List Nod} (hq:∀ i:Nat,i<l.length→∀ x∈flwL (l.getD i ub),0≤x∧x<(l.length:Int)) {k:Nat} {x:Int} (h0:0≤x) (h:x<(((aheadL l).getD k ub).l.length:Int)):0≤((aheadL l).getD k ub).l.getD x.toNat 0∧((aheadL l).getD k ub).l.getD x.toNat 0<(l.length:Int):=by
 have z:=(Gj hq k _).1 (Y1 h h0)
 exact ⟨z.1,z.2.1⟩
def vO (l:List Int):Lp (Int×Int×List Int):=⟨fun x=>{ N:=28,fr:=[se 3 (C.i .i64 x.1),se 2 (C.i .i64 x.2.1),se 0 (C.h 0)],rg:=[IntOwn (x.2.2)],wr:=[] },fun x=>RevJ l x.2.2 x.2.1 x.1,fun x=>(x.1-x.2.1).toNat⟩
abbrev zc9 (y0:List Int) (y1 y2:Int):List Int:=(y0.set y1.toNat (y0.getD y2.toNat 0)).set y2.toNat (y0.getD y1.toNat 0)
theorem Qh3 (l:List Int):Ctr Tryd.prog 91 [IntOwn l] [.c (.h 0)]
 (Det (.tup []) [IntOwn l.reverse]):=by
 refine Ctr.intro [] Tryd.func91 K K ?_
 refine RunF.lens 0 (m:=l.length) K (fun hlens_0=>?_)
 refine Q9 (vO l) (((↑l.length:Int)-(1:Int),(0:Int),l)) (RevJ.start l) ?_ (vc:=[Fits ja ((↑l.length:Int)-(1:Int))]) (hv:=W123)
 rintro ⟨ue,uj,ug⟩ hJ1
 dsimp only [vO] at hJ1
 refine tz [3,2,0] ?_
 refine Q0 (decide (uj<ue)) (fun h2=>?_) (fun h2=>?_)
 ·exact Q4 (vO l) (ue,uj,ug) ((ue-(1:Int),uj+(1:Int),(zc9 ug uj ue))) (by dsimp only [vO];have q:=uc h2;omega) (hJ1.next (uc h2)) [] [0,1] [((zc9 ug uj ue)).length=ug.length,∀ (i:Nat),i<((zc9 ug uj ue)).length→i64T (((zc9 ug uj ue)).getD i 0)=updT (updT (fun i=>i64T (ug.getD i 0)) uj.toNat 0 [jf ja (ug.getD ue.toNat 0)]) ue.toNat 0 [jf ja (ug.getD uj.toNat 0)] i] (by simp only [Conj];(repeat' apply jn)<;>first | trivial | rfl | (intros;first | trivial | rfl) | (simp;done) | exact Qg2 _ _ _ _ _) (vc:=[(0:Int)≤ue,ue<(↑ug.length:Int),ue.toNat<ug.length,(0:Int)≤uj,uj<(↑ug.length:Int),uj.toNat<ug.length,(0:Int)≤uj,uj<(↑ug.length:Int),uj.toNat<ug.length,(0:Int)≤ue,ue<(↑ug.length:Int),ue.toNat<ug.length,Fits ja (uj+(1:Int)),Fits ja (ue-(1:Int))]) (hv:=W123)
 ·exact Yh [] [0,1] [l.reverse.length=ug.length,∀ (i:Nat),i<l.reverse.length→i64T (l.reverse.getD i 0)=i64T (ug.getD i 0)] (by simp only [Conj];have q:=ud h2;rw [hJ1.done (by omega)];exact ⟨rfl,fun _ _=>rfl⟩)
def vB (g:Grf):Lp (List Int×List Bo×List Vis):=⟨fun x=>{ N:=104,fr:=[se 6 (C.h 3),se 5 (C.h 4),se 4 (C.h 2),se 3 (C.v (jg none 0 0)),zO,za5],rg:=[rowOf 13 (·.tc) g.nodes,ze g,Bo.ownR (x.2.1),Vis.ownR (x.2.2)]++[IntOwn x.1],wr:=[] },fun x=>BkS g.nodes ⟨x.2.1,x.1,x.2.2⟩,fun x=>msB ⟨x.2.1,x.1,x.2.2⟩⟩
def vC (g:Grf) (ue:List Int) (uj:List Bo) (ug:List Vis):Lp (Int×List Int):=⟨fun x=>{ N:=104,fr:=[se 92 (C.i .i64 x.1),se 91 (C.i .i64 (↑ue.reverse.length:Int)),se 90 (C.h 4),se 10 (C.h 5),se 5 (C.h 4),se 3 (C.v (jg none 0 0)),zO],rg:=[rowOf 13 (·.tc) g.nodes,ze g,ownOf 4 1 (·.tc) uj,ownOf 168 2 (·.tc) ug,IntOwn ue.reverse,IntOwn (x.2)],wr:=[] },fun x=>0≤x.1∧x.1≤(ue.length:Int)∧x.2=plcU ue.reverse g.nodes.length x.1.toNat,fun x=>((ue.length:Int)-x.1).toNat⟩
abbrev zai (y0:Grf):List Prop:=[(ji y0.nodes.length (0:Int)).length=y0.nodes.length,∀ (i:Nat),i<(ji y0.nodes.length (0:Int)).length→i64T ((ji y0.nodes.length (0:Int)).getD i 0)=fun j=>valT (jf ja (0:Int)).cells.toList j]
abbrev zas (y0:Grf):List Prop:=[(0:Int)≤(↑y0.nodes.length:Int),(↑y0.nodes.length:Int)≤(↑y0.nodes.length:Int),(↑y0.nodes.length:Int) * (8:Int)≤(140737488355328:Int),(↑y0.nodes.length:Int)≤(↑maxLen:Int)]
abbrev zb6 (y0:Grf):Reg:=IntOwn (plcL y0.nodes)
theorem Qcl (g:Grf) (hq:zJ g) (hN:1≤g.nodes.length∧g.nodes.length≤4096):Ctr Tryd.prog 87 [zav g] [.agg (g.cs 0)]
 (Det (.tup [(false,[.h 1]),(false,[.h 2])]) [.dead,IntOwn (ordL g.nodes),zb6 g]):=by
 refine Ctr.intro [] Tryd.func87 K K ?_
 refine Q9 (vB g) (([],(bk0 g.nodes).se,[Vis.mk (0:Int) (0:Int)])) (BkS.start W31) ?_ [0,1,2,3,1000004] [5,6,7,8,9,10,11] [(bk0 g.nodes).se.length=g.nodes.length,∀ (i:Nat),i<(bk0 g.nodes).se.length→((bk0 g.nodes).se.getD i ub).tc=updT (fun x j=>valT (jU false).cells.toList j) 0 0 [jU true] i,[Vis.mk (0:Int) (0:Int)].length=1,∀ (i:Nat),i < [Vis.mk (0:Int) (0:Int)].length→i≠0→([Vis.mk (0:Int) (0:Int)].getD i ub).tc=fun x=>TC.any,(Vis.mk (0:Int) (0:Int)).tc 0=TC.val (jf ja (0:Int)),(Vis.mk (0:Int) (0:Int)).tc 1=TC.val (jf ja (0:Int)),(0:Nat)=0] W69 (vc:=(zaI g)) (hv:=W26)
 rintro ⟨ue,uj,ug⟩ hJ1
 dsimp only [vB] at hJ1
 refine tz [6,5,4,3,2,1] ?_
 refine Q0 (decide ((0:Int)<(↑ug.length:Int))) (fun h2=>?_) (fun h2=>?_)
 ·refine tz [6,5,4,3,2,1] ?_
  refine Q2 Yl (G9 (g.nodes.getD (ug.getD ((↑ug.length:Int)-(1:Int)).toNat ub).pos.toNat ub)) [] ?_ (vc:=[Fits ja ((↑ug.length:Int)-(1:Int)),(0:Int)≤(↑ug.length:Int)-(1:Int),(↑ug.length:Int)-(1:Int)<(↑ug.length:Int),((↑ug.length:Int)-(1:Int)).toNat<ug.length,(0:Int)≤(ug.getD ((↑ug.length:Int)-(1:Int)).toNat ub).pos,(ug.getD ((↑ug.length:Int)-(1:Int)).toNat ub).pos<(↑g.nodes.length:Int),(ug.getD ((↑ug.length:Int)-(1:Int)).toNat ub).pos.toNat<g.nodes.length]) (hv:=W26)
  refine tz [37,36,35,34,33,32,31,30,29,7,6,5,4,3,2,1] ?_
  refine Q0 (decide ((ug.getD ((↑ug.length:Int)-(1:Int)).toNat ub).k=(↑(flwL (g.nodes.getD (ug.getD ((↑ug.length:Int)-(1:Int)).toNat ub).pos.toNat ub)).length:Int))) (fun h3=>?_) (fun h3=>?_) (vc:=[((↑ug.length:Int)-(1:Int)).toNat<ug.length]) (hv:=W26)
  ·refine RunF.hereJ (vc:=[((↑ug.length:Int)-(1:Int)).toNat<ug.length,ue.length+1≤maxLen,(ue.length+1) * 8≤140737488355328,Fits ja ((↑ug.length:Int)-(1:Int)),(0:Int)≤(↑ug.length:Int)-(1:Int),(↑ug.length:Int)-(1:Int)≤(↑ug.length:Int),0<ug.length]) K K W26 ?_
   refine RunF.trim 3 ((ug.length-1)) (ty:=168) (size:=2) (n:=ug.length) (f:=fun i=>(ug.getD i ub).tc) (vc:=[((↑ug.length:Int)-(1:Int)).toNat-0=ug.length-1,((↑ug.length:Int)-(1:Int)).toNat-0=ug.length-1]) K K W160 K W180 ?_
   exact Q4 (vB g) (ue,uj,ug) ((ue++[(ug.getD ((↑ug.length:Int)-(1:Int)).toNat ub).pos],uj,jS (ug.length-1) ug)) W113 W114 [0,1,2,8,7] [7,8,9,10,11] [(jS (ug.length-1) ug).length=ug.length-1,∀ (i:Nat),i<(jS (ug.length-1) ug).length→((jS (ug.length-1) ug).getD i ub).tc=(ug.getD i ub).tc,(ue++[(ug.getD ((↑ug.length:Int)-(1:Int)).toNat ub).pos]).length=ue.length+1,∀ (i:Nat),i<(ue++[(ug.getD ((↑ug.length:Int)-(1:Int)).toNat ub).pos]).length→i≠ue.length→i64T ((ue++[(ug.getD ((↑ug.length:Int)-(1:Int)).toNat ub).pos]).getD i 0)=i64T (ue.getD i 0),i64T ((ue++[(ug.getD ((↑ug.length:Int)-(1:Int)).toNat ub).pos]).getD ue.length 0) 0=TC.val (jf ja (ug.getD ((↑ug.length:Int)-(1:Int)).toNat ub).pos)] W67
  ·refine tz [8,7,6,5,4,3,2,1] ?_
   refine Q0 (!(uj.getD ((flwL (g.nodes.getD (ug.getD ((↑ug.length:Int)-(1:Int)).toNat ub).pos.toNat ub)).getD (ug.getD ((↑ug.length:Int)-(1:Int)).toNat ub).k.toNat (0:Int)).toNat ub).b) (fun h4=>?_) (fun h4=>?_) (vc:=[((↑ug.length:Int)-(1:Int)).toNat<ug.length,(0:Int)≤(ug.getD ((↑ug.length:Int)-(1:Int)).toNat ub).k,(ug.getD ((↑ug.length:Int)-(1:Int)).toNat ub).k<(↑(flwL (g.nodes.getD (ug.getD ((↑ug.length:Int)-(1:Int)).toNat ub).pos.toNat ub)).length:Int),(ug.getD ((↑ug.length:Int)-(1:Int)).toNat ub).k.toNat<(flwL (g.nodes.getD (ug.getD ((↑ug.length:Int)-(1:Int)).toNat ub).pos.toNat ub)).length,((↑ug.length:Int)-(1:Int)).toNat<ug.length,Fits ja ((ug.getD ((↑ug.length:Int)-(1:Int)).toNat ub).k+(1:Int)),((↑ug.length:Int)-(1:Int)).toNat<ug.length,(0:Int)≤(flwL (g.nodes.getD (ug.getD ((↑ug.length:Int)-(1:Int)).toNat ub).pos.toNat ub)).getD (ug.getD ((↑ug.length:Int)-(1:Int)).toNat ub).k.toNat (0:Int),(flwL (g.nodes.getD (ug.getD ((↑ug.length:Int)-(1:Int)).toNat ub).pos.toNat ub)).getD (ug.getD ((↑ug.length:Int)-(1:Int)).toNat ub).k.toNat (0:Int)<(↑uj.length:Int),((flwL (g.nodes.getD (ug.getD ((↑ug.length:Int)-(1:Int)).toNat ub).pos.toNat ub)).getD (ug.getD ((↑ug.length:Int)-(1:Int)).toNat ub).k.toNat (0:Int)).toNat<uj.length]) (hv:=W26)
   ·exact Q4 (vB g) (ue,uj,ug) ((ue,uj.set ((flwL (g.nodes.getD (ug.getD ((↑ug.length:Int)-(1:Int)).toNat ub).pos.toNat ub)).getD (ug.getD ((↑ug.length:Int)-(1:Int)).toNat ub).k.toNat (0:Int)).toNat (Bo.mk true),ug.set ((↑ug.length:Int)-(1:Int)).toNat (Vis.mk (ug.getD ((↑ug.length:Int)-(1:Int)).toNat ub).pos ((ug.getD ((↑ug.length:Int)-(1:Int)).toNat ub).k+(1:Int)))++[Vis.mk ((flwL (g.nodes.getD (ug.getD ((↑ug.length:Int)-(1:Int)).toNat ub).pos.toNat ub)).getD (ug.getD ((↑ug.length:Int)-(1:Int)).toNat ub).k.toNat (0:Int)) (0:Int)])) W113 W114 [0,1,2,7,4] [5,6,7,8,9,10] [(uj.set ((flwL (g.nodes.getD (ug.getD ((↑ug.length:Int)-(1:Int)).toNat ub).pos.toNat ub)).getD (ug.getD ((↑ug.length:Int)-(1:Int)).toNat ub).k.toNat (0:Int)).toNat (Bo.mk true)).length=uj.length,∀ (i:Nat),i<(uj.set ((flwL (g.nodes.getD (ug.getD ((↑ug.length:Int)-(1:Int)).toNat ub).pos.toNat ub)).getD (ug.getD ((↑ug.length:Int)-(1:Int)).toNat ub).k.toNat (0:Int)).toNat (Bo.mk true)).length→((uj.set ((flwL (g.nodes.getD (ug.getD ((↑ug.length:Int)-(1:Int)).toNat ub).pos.toNat ub)).getD (ug.getD ((↑ug.length:Int)-(1:Int)).toNat ub).k.toNat (0:Int)).toNat (Bo.mk true)).getD i ub).tc=updT (fun i=>(uj.getD i ub).tc) ((flwL (g.nodes.getD (ug.getD ((↑ug.length:Int)-(1:Int)).toNat ub).pos.toNat ub)).getD (ug.getD ((↑ug.length:Int)-(1:Int)).toNat ub).k.toNat (0:Int)).toNat 0 [jU true] i,(ug.set ((↑ug.length:Int)-(1:Int)).toNat (Vis.mk (ug.getD ((↑ug.length:Int)-(1:Int)).toNat ub).pos ((ug.getD ((↑ug.length:Int)-(1:Int)).toNat ub).k+(1:Int)))++[Vis.mk ((flwL (g.nodes.getD (ug.getD ((↑ug.length:Int)-(1:Int)).toNat ub).pos.toNat ub)).getD (ug.getD ((↑ug.length:Int)-(1:Int)).toNat ub).k.toNat (0:Int)) (0:Int)]).length=ug.length+1,∀ (i:Nat),i<(ug.set ((↑ug.length:Int)-(1:Int)).toNat (Vis.mk (ug.getD ((↑ug.length:Int)-(1:Int)).toNat ub).pos ((ug.getD ((↑ug.length:Int)-(1:Int)).toNat ub).k+(1:Int)))++[Vis.mk ((flwL (g.nodes.getD (ug.getD ((↑ug.length:Int)-(1:Int)).toNat ub).pos.toNat ub)).getD (ug.getD ((↑ug.length:Int)-(1:Int)).toNat ub).k.toNat (0:Int)) (0:Int)]).length→i≠ug.length→((ug.set ((↑ug.length:Int)-(1:Int)).toNat (Vis.mk (ug.getD ((↑ug.length:Int)-(1:Int)).toNat ub).pos ((ug.getD ((↑ug.length:Int)-(1:Int)).toNat ub).k+(1:Int)))++[Vis.mk ((flwL (g.nodes.getD (ug.getD ((↑ug.length:Int)-(1:Int)).toNat ub).pos.toNat ub)).getD (ug.getD ((↑ug.length:Int)-(1:Int)).toNat ub).k.toNat (0:Int)) (0:Int)]).getD i ub).tc=updT (fun i=>(ug.getD i ub).tc) ((↑ug.length:Int)-(1:Int)).toNat 1 [jf ja ((ug.getD ((↑ug.length:Int)-(1:Int)).toNat ub).k+(1:Int))] i,((ug.set ((↑ug.length:Int)-(1:Int)).toNat (Vis.mk (ug.getD ((↑ug.length:Int)-(1:Int)).toNat ub).pos ((ug.getD ((↑ug.length:Int)-(1:Int)).toNat ub).k+(1:Int)))++[Vis.mk ((flwL (g.nodes.getD (ug.getD ((↑ug.length:Int)-(1:Int)).toNat ub).pos.toNat ub)).getD (ug.getD ((↑ug.length:Int)-(1:Int)).toNat ub).k.toNat (0:Int)) (0:Int)]).getD ug.length ub).tc 0=TC.val (jf ja ((flwL (g.nodes.getD (ug.getD ((↑ug.length:Int)-(1:Int)).toNat ub).pos.toNat ub)).getD (ug.getD ((↑ug.length:Int)-(1:Int)).toNat ub).k.toNat (0:Int))),((ug.set ((↑ug.length:Int)-(1:Int)).toNat (Vis.mk (ug.getD ((↑ug.length:Int)-(1:Int)).toNat ub).pos ((ug.getD ((↑ug.length:Int)-(1:Int)).toNat ub).k+(1:Int)))++[Vis.mk ((flwL (g.nodes.getD (ug.getD ((↑ug.length:Int)-(1:Int)).toNat ub).pos.toNat ub)).getD (ug.getD ((↑ug.length:Int)-(1:Int)).toNat ub).k.toNat (0:Int)) (0:Int)]).getD ug.length ub).tc 1=TC.val (jf ja (0:Int))] W67 (vc:=[(0:Int)≤(flwL (g.nodes.getD (ug.getD ((↑ug.length:Int)-(1:Int)).toNat ub).pos.toNat ub)).getD (ug.getD ((↑ug.length:Int)-(1:Int)).toNat ub).k.toNat (0:Int),(flwL (g.nodes.getD (ug.getD ((↑ug.length:Int)-(1:Int)).toNat ub).pos.toNat ub)).getD (ug.getD ((↑ug.length:Int)-(1:Int)).toNat ub).k.toNat (0:Int)<(↑uj.length:Int),((flwL (g.nodes.getD (ug.getD ((↑ug.length:Int)-(1:Int)).toNat ub).pos.toNat ub)).getD (ug.getD ((↑ug.length:Int)-(1:Int)).toNat ub).k.toNat (0:Int)).toNat<uj.length,ug.length+1≤maxLen,(ug.length+1) * 16≤140737488355328]) (hv:=W26)
   ·exact Q4 (vB g) (ue,uj,ug) ((ue,uj,ug.set ((↑ug.length:Int)-(1:Int)).toNat (Vis.mk (ug.getD ((↑ug.length:Int)-(1:Int)).toNat ub).pos ((ug.getD ((↑ug.length:Int)-(1:Int)).toNat ub).k+(1:Int))))) W113 W114 [] [7,8] [(ug.set ((↑ug.length:Int)-(1:Int)).toNat (Vis.mk (ug.getD ((↑ug.length:Int)-(1:Int)).toNat ub).pos ((ug.getD ((↑ug.length:Int)-(1:Int)).toNat ub).k+(1:Int)))).length=ug.length,∀ (i:Nat),i<(ug.set ((↑ug.length:Int)-(1:Int)).toNat (Vis.mk (ug.getD ((↑ug.length:Int)-(1:Int)).toNat ub).pos ((ug.getD ((↑ug.length:Int)-(1:Int)).toNat ub).k+(1:Int)))).length→((ug.set ((↑ug.length:Int)-(1:Int)).toNat (Vis.mk (ug.getD ((↑ug.length:Int)-(1:Int)).toNat ub).pos ((ug.getD ((↑ug.length:Int)-(1:Int)).toNat ub).k+(1:Int)))).getD i ub).tc=updT (fun i=>(ug.getD i ub).tc) ((↑ug.length:Int)-(1:Int)).toNat 1 [jf ja ((ug.getD ((↑ug.length:Int)-(1:Int)).toNat ub).k+(1:Int))] i] W67
 ·refine tz [6,5,4,3,2,1] ?_
  refine Q2 Q28 (Qh3 ue) [4] ?_
  refine tz [5,3,2,1] ?_
  refine Q9 (vC g ue uj ug) (((0:Int),ji g.nodes.length (0:Int))) (⟨jA _,by omega,rfl⟩) ?_ [] [11,12] (zai g) W69 (vc:=(zas g)) (hv:=W26)
  rintro ⟨uh,um⟩ hJ3
  dsimp only [vC] at hJ3
  refine tz [92,91,90,10,5,3,2] ?_
  refine Q0 (decide (uh<(↑ue.reverse.length:Int))) (fun h4=>?_) (fun h4=>?_)
  ·exact Q4 (vC g ue uj ug) (uh,um) ((uh+(1:Int),um.set (ue.reverse.getD uh.toNat 0).toNat uh)) (by dsimp only [vC];have q:=uc h4;have z6:ue.reverse.length=ue.length:=List.length_reverse;omega) (by dsimp only [vC];have q:=uc h4;have z6:ue.reverse.length=ue.length:=List.length_reverse;have z7:=hJ3.1;refine ⟨by omega,by omega,?_⟩;rw [hJ3.2.2,show (uh+1).toNat=uh.toNat+1 by omega];simp only [plcU];rw [ko hJ3.1]) [] [11,12] [(um.set (ue.reverse.getD uh.toNat 0).toNat uh).length=um.length,∀ (i:Nat),i<(um.set (ue.reverse.getD uh.toNat 0).toNat uh).length→i64T ((um.set (ue.reverse.getD uh.toNat 0).toNat uh).getD i 0)=updT (fun i=>i64T (um.getD i 0)) (ue.reverse.getD uh.toNat 0).toNat 0 [jf ja uh] i] W67 (vc:=[(0:Int)≤uh,uh<(↑ue.reverse.length:Int),uh.toNat<ue.reverse.length,(0:Int)≤ue.reverse.getD uh.toNat 0,ue.reverse.getD uh.toNat 0<(↑um.length:Int),(ue.reverse.getD uh.toNat 0).toNat<um.length,Fits ja (uh+(1:Int))]) (hv:=W26)
  ·exact Q3 [0,4,5] [0,1,2,3] [(ordL g.nodes).length=ue.reverse.length,∀ (i:Nat),i<(ordL g.nodes).length→i64T ((ordL g.nodes).getD i 0)=i64T (ue.reverse.getD i 0),(plcL g.nodes).length=um.length,∀ (i:Nat),i<(plcL g.nodes).length→i64T ((plcL g.nodes).getD i 0)=i64T (um.getD i 0)] (by simp only [Conj];have q:=ud h4;have z6:ue.reverse.length=ue.length:=List.length_reverse;have z7:=hJ3.1;have z8:=hJ3.2.1;have e:=hJ1.done (by have z:=ud h2;show ug.length=0;omega);have e1:ordL g.nodes=ue.reverse:=(by unfold ordL;rw [e]);have e2:um=plcL g.nodes:=(by rw [hJ3.2.2];unfold plcL;rw [e1,show uh.toNat=ue.reverse.length by omega]);rw [e1,← e2];(repeat' apply jn)<;>first | rfl | (intros;rfl) | trivial)
end Go.Proofs.YtnddggenhefaeaaDoor
end
