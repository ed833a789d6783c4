/-
  A part of the proof. Text 6 of 9.
-/
import Derived.Test.YtnddggenhefaeaaGreatDoorP4
import Derived.Test.YtnddggenhefaeaaGreatDoorP5
set_option linter.unusedSimpArgs false
set_option linter.unusedVariables false
set_option maxHeartbeats 4000000
set_option linter.unusedSectionVars false
open Go.Proofs.Tryz renaming prog→jb
open Go.IntKind renaming i64→ja,u8→jl,u64→jJ
open Go.Value renaming string→jG,slice→ji,int→jg,bool→jC
open Go.BinOp renaming or→ku,and→jx
open Int renaming le_refl→jE,tdiv_eq_ediv_of_nonneg→kN
open And renaming intro→jo
open Nat renaming le_refl→jp
open List renaming drop_eq_nil_of_le→kq,getD_eq_getElem?_getD→jc,getElem?_eq_getElem→jd,replicate→jf,take→jW,length_set→jy,length_replicate→jL,length_singleton→km,length_take→jO,eq_nil_of_length_eq_zero→kj,length→j5,range→jD
open Bool renaming or_eq_true→jT
open Inhabited renaming default→ub
noncomputable section
namespace Go.Proofs.YtnddggenhefaeaaGreatDoor
open Go Go.Tx
theorem Qff (op:Int) (ho:0≤op∧op≤255):Ctr jb 58 [] [.c (.i .u8 op)]
 (Det (.c (.v (.string (opStr op)))) []):=by
 refine Ctr.intro [] Tryz.func58 K K ?_
 refine Q0 (decide ((19:Int)≤op)) (fun h1=>?_) (fun h1=>?_) (vc:=[Fits ja op]) (hv:=W95)
 ·exact Q2 [] [0] [jG (opStr op)=jG { data:=#[] }] W137
 ·exact Q2 [] [0] [jG (opStr op)=jG ([{ data:=#[] },{ data:=#[(97:UInt8),(100:UInt8),(100:UInt8)] },{ data:=#[(115:UInt8),(117:UInt8),(98:UInt8)] },{ data:=#[(109:UInt8),(117:UInt8),(108:UInt8)] },{ data:=#[(100:UInt8),(105:UInt8),(118:UInt8)] },{ data:=#[(114:UInt8),(101:UInt8),(109:UInt8)] },{ data:=#[(97:UInt8),(110:UInt8),(100:UInt8)] },{ data:=#[(111:UInt8),(114:UInt8)] },{ data:=#[(120:UInt8),(111:UInt8),(114:UInt8)] },{ data:=#[(115:UInt8),(104:UInt8),(108:UInt8)] },{ data:=#[(115:UInt8),(104:UInt8),(114:UInt8)] },{ data:=#[(105:UInt8),(115:UInt8)] },{ data:=#[(105:UInt8),(115:UInt8),(110:UInt8),(111:UInt8),(116:UInt8)] },{ data:=#[(108:UInt8),(101:UInt8),(115:UInt8),(115:UInt8)] },{ data:=#[(109:UInt8),(111:UInt8),(115:UInt8),(116:UInt8)] },{ data:=#[(97:UInt8),(98:UInt8),(111:UInt8),(118:UInt8),(101:UInt8)] },{ data:=#[(108:UInt8),(101:UInt8),(97:UInt8),(115:UInt8),(116:UInt8)] },{ data:=#[(109:UInt8),(105:UInt8),(110:UInt8),(117:UInt8),(115:UInt8)] },{ data:=#[(110:UInt8),(111:UInt8),(116:UInt8)] }].getD op.toNat { data:=#[] })] W137 (vc:=[(0:Int)≤op,op<(19:Int),op.toNat<19]) (hv:=W95)
theorem Qn1 (k:Int) (ho:0≤k∧k≤255):Ctr jb 92 [] [.c (.i .u8 k)]
 (Det (.tup [(true,[.v (.string (formW k)),.i .u8 (formU k 0),.i .u8 (formU k 1),.i .u8 (formU k 2),.i .u8 (formU k 3)]),(false,[.b (formOk k)])]) []):=by
 refine Ctr.intro [] Tryz.func92 K K ?_
 refine Q0 (decide (k=(0:Int))||decide ((11:Int)≤k)) (fun h1=>?_) (fun h1=>?_) (vc:=[decide (k=(0:Int))=false→Fits ja k]) (hv:=W95)
 ·exact Q2 [] [0,1,2,3,4,5] [jG (formW k)=jG { data:=#[] },formU k 0=(0:Int),formU k 1=(0:Int),formU k 2=(0:Int),formU k 3=(0:Int),formOk k=false] W137
 ·exact Q2 [] [0,1,2,3,4,5] [jG (formW k)=jG ([{ data:=#[] },{ data:=#[(115:UInt8),(101:UInt8),(116:UInt8)] },{ data:=#[] },{ data:=#[(108:UInt8),(111:UInt8),(97:UInt8),(100:UInt8)] },{ data:=#[(115:UInt8),(116:UInt8),(111:UInt8),(114:UInt8),(101:UInt8)] },{ data:=#[(115:UInt8),(119:UInt8),(97:UInt8),(112:UInt8)] },{ data:=#[(102:UInt8),(101:UInt8),(110:UInt8),(99:UInt8),(101:UInt8)] },{ data:=#[(112:UInt8),(114:UInt8),(105:UInt8),(110:UInt8),(116:UInt8)] },{ data:=#[(106:UInt8),(117:UInt8),(109:UInt8),(112:UInt8)] },{ data:=#[(122:UInt8),(101:UInt8),(114:UInt8),(111:UInt8)] },{ data:=#[(104:UInt8),(97:UInt8),(108:UInt8),(116:UInt8)] }].getD k.toNat { data:=#[] }),formU k 0=[(0:Int),(2:Int),(1:Int),(2:Int),(4:Int),(2:Int),(0:Int),(4:Int),(32:Int),(4:Int),(0:Int)].getD k.toNat 0,formU k 1=[(0:Int),(64:Int),(2:Int),(16:Int),(16:Int),(16:Int),(0:Int),(0:Int),(0:Int),(32:Int),(0:Int)].getD k.toNat 0,formU k 2=[(0:Int),(0:Int),(4:Int),(0:Int),(0:Int),(0:Int),(0:Int),(0:Int),(0:Int),(0:Int),(0:Int)].getD k.toNat 0,formU k 3=[(0:Int),(0:Int),(8:Int),(0:Int),(0:Int),(0:Int),(0:Int),(0:Int),(0:Int),(0:Int),(0:Int)].getD k.toNat 0,formOk k=true] W137 (vc:=[(0:Int)≤k,k<(11:Int),k.toNat<11]) (hv:=W95)
abbrev zdg:List Nat:=[18,17,6,8,16,5,3,2,1]
theorem Qp2 (i:Ins) (hk:0≤i.kind∧i.kind≤255):Ctr jb 56 [] [.agg i.cs]
 (Det (.tup [(false,[.i .u8 (usedI i.kind i.op)]),(false,[.b (formOk i.kind)])]) []):=by
 refine Ctr.intro [] Tryz.func56 K K ?_
 refine Q3 Q7z (Qn1 i.kind W49) [] ?_
 refine tz [12,3,2,1] ?_
 refine RunF.unroll (vc:=[]) 5 K trivial ?_
 refine tz [17,16,6,5,3,2,1] ?_
 refine Q0 (decide ((0:Int)<(4:Int))) (fun h1=>?_) (fun h1=>?_)
 ·refine tz [18,17,16,6,5,3,2,1] ?_
  refine Q0 (decide ((1:Int)<(4:Int))) (fun h2=>?_) (fun h2=>?_) (vc:=[0<4,(0:Int)≤(0:Int),(0:Int)<(4:Int),Fits ja (1:Int)]) (hv:=W95)
  ·refine tz zdg ?_
   refine Q0 (decide ((2:Int)<(4:Int))) (fun h3=>?_) (fun h3=>?_) (vc:=[1<4,(0:Int)≤(1:Int),(1:Int)<(4:Int),Fits ja (2:Int)]) (hv:=W95)
   ·refine tz zdg ?_
    refine Q0 (decide ((3:Int)<(4:Int))) (fun h4=>?_) (fun h4=>?_) (vc:=[2<4,(0:Int)≤(2:Int),(2:Int)<(4:Int),Fits ja (3:Int)]) (hv:=W95)
    ·refine tz zdg ?_
     refine Q0 (decide ((4:Int)<(4:Int))) (fun h5=>?_) (fun h5=>?_) (vc:=[3<4,(0:Int)≤(3:Int),(3:Int)<(4:Int),Fits ja (4:Int)]) (hv:=W95)
     ·exact absurd h5 W145
     ·refine tz zdg ?_
      refine tG Y2 (Zz i.op) [] ?_
      refine tz [30,27,6,5,3,2] ?_
      refine Q0 (decide (i.kind=(2:Int))&&!twoB i.op) (fun h6=>?_) (fun h6=>?_)
      ·exact Q2 [] [0] [usedI i.kind i.op=bits BinOp.andNot jl (bits ku jl (bits ku jl (bits ku jl (bits ku jl (0:Int) (formU i.kind 0)) (formU i.kind 1)) (formU i.kind 2)) (formU i.kind 3)) (8:Int)] (by simp only [Conj,usedI,usedAll] at *<;>grind)
      ·exact Q2 [] [0] [usedI i.kind i.op=bits ku jl (bits ku jl (bits ku jl (bits ku jl (0:Int) (formU i.kind 0)) (formU i.kind 1)) (formU i.kind 2)) (formU i.kind 3)] (by simp only [Conj,usedI,usedAll] at *<;>grind)
    ·exact absurd h4 W145
   ·exact absurd h3 W145
  ·exact absurd h2 W145
 ·exact absurd h1 W145
abbrev zbK (y0:Int):SV:=.c (.i .i64 y0)
theorem Q0h (all n u most:Int):Ctr jb 57 [.ro [.i .u8 all]] [zbK n,.c (.i .u8 u),zbK most,.c (.p 0 0)]
 (Det (.c (.b (withinU all n u most))) [.dead]):=by
 refine Ctr.intro [] Tryz.func57 K K ?_
 exact Q2 [] [0] [withinU all n u most=(decide (bits jx jl all u=(0:Int))&&decide (n=(0:Int))||!decide (bits jx jl all u=(0:Int))&&decide ((0:Int)≤n)&&decide (n<most))] (by simp only [Conj,withinU] at *<;>grind)
theorem Qfg (i:Ins) (code memory:Int) (hk:0≤i.kind∧i.kind≤255) (ho:0≤i.op∧i.op≤255):Ctr jb 37 [] [.agg i.cs,zbK code,zbK memory]
 (Det (.c (.b (insB i code memory))) []):=by
 refine Ctr.intro [] Tryz.func37 K K ?_
 refine Q3 Qa4 (Qp2 i W49) [] ?_
 refine tz [13,6,3,1,2] ?_
 refine Q0 (!formOk i.kind||decide (i.from_<(0:Int))||decide ((4096:Int)<i.from_)) (fun h1=>?_) (fun h1=>?_)
 ·exact Q2 [] [0] [insB i code memory=false] W175
 ·refine tz [7,6,3,1,2] ?_
  refine tG Q4w (Qff i.op W49) [] ?_
  refine tz [44,41,37,9,7,6,3,1,2] ?_
  refine tG Yl (Q0h (usedI i.kind i.op) i.d 2 16) [1] ?_
  refine tz [53,49,9,7,6,3,1,2] ?_
  refine tG Yl (Q0h (usedI i.kind i.op) i.a 4 16) [1] ?_
  refine tz [59,55,9,7,6,3,1,2] ?_
  refine tG Yl (Q0h (usedI i.kind i.op) i.b 8 16) [1] ?_
  refine tz [65,61,9,7,6,3,1,2] ?_
  refine tG Yl (Q0h (usedI i.kind i.op) i.addr 16 memory) [1] ?_
  refine tz [72,67,9,7,6,3,1] ?_
  refine tG Yl (Q0h (usedI i.kind i.op) i.to 32 code) [1] ?_
  exact Q2 [] [0] [insB i code memory=((decide (bits jx jl (usedI i.kind i.op) (1:Int)=(0:Int))&&decide (i.op=(0:Int))||!decide (bits jx jl (usedI i.kind i.op) (1:Int)=(0:Int))&&!decide (opStr i.op={ data:=#[] }))&&withinU (usedI i.kind i.op) i.d (2:Int) (16:Int)&&withinU (usedI i.kind i.op) i.a (4:Int) (16:Int)&&withinU (usedI i.kind i.op) i.b (8:Int) (16:Int)&&withinU (usedI i.kind i.op) i.addr (16:Int) memory&&withinU (usedI i.kind i.op) i.to (32:Int) code&&(!decide (bits jx jl (usedI i.kind i.op) (64:Int)=(0:Int))||decide (i.word=(0:Int))))] W175
abbrev za7:List Reg:=[.dead,.dead,.dead]
theorem Qfh (a b:ByteArray) (la lb:List Ins):Ctr jb 53 [Ins.rowR la,Reg.ro [zdb b,.h 2],Ins.rowR lb] [.agg [zdb a,.h 0],.c (.p 1 0)]
 (Det (.c (.b (decide (a=b)))) za7):=by
 refine Ctr.intro [] Tryz.func53 K K ?_
 exact Q2
abbrev zaR (y0:Nat) (y1:List Cor):Reg:=Reg.row 2 y0 (fun i=>(y1.getD (0+i) ub).tc) none
def u9 (cs:List Cor) (n:Nat) (b:ByteArray) (lb:List Ins):Lp (Int×Int):=⟨fun x=>{ N:=19,fr:=[se 8 (C.i .i64 x.1),se 7 (C.i .i64 (↑n:Int)),se 4 (C.i .i64 x.2),se 0 (C.h 0),se 1 (C.fn 53 false [1])],rg:=[zaR n cs,Reg.ro [C.v (jG b),C.h 2],rowOf 9 (·.tc) lb],wr:=[] },fun x=>0≤x.1∧x.1≤(n:Int)∧findFrom (nDiff cs b) 0 n=findFrom (nDiff cs b) x.1 n,fun x=>((n:Int)-x.1).toNat⟩
abbrev zb8:Int × Int:=((0:Int),(0:Int))
theorem Qd5 (cs:List Cor) (n:Nat) (b:ByteArray) (lb:List Ins):Ctr jb 91 [zaR n cs,Reg.ro [zdb b,.h 2],Ins.rowR lb] [.c (.h 0),.c (.fn 53 false [1])]
 (Det (.c (.i .i64 (indexName cs n b))) za7):=by
 refine Ctr.intro [] Tryz.func91 K K ?_
 refine RunF.lens 0 (m:=n) K (fun hlens_0=>?_)
 refine Q7 (u9 cs n b lb) (zb8) (by dsimp only [u9];grind) ?_
 rintro ⟨ue,uj⟩ hJ1
 dsimp only [u9] at hJ1
 refine tz [8,7,4,0,1] ?_
 refine Q0 (decide (ue<(↑n:Int))) (fun h2=>?_) (fun h2=>?_)
 ·refine Y4 0 (ue.toNat) ?_ (vc:=[ue.toNat<n]) (hv:=W53)
  refine tz [8,7,4,0,1] ?_
  refine Q3 Q4v (Qfh ((cs.getD (0+ue.toNat) ub).name) b ((cs.getD (0+ue.toNat) ub).code) lb) [3,1,2] ?_ (vc:=[(0:Int)≤ue,ue<(↑n:Int),ue.toNat=ue.toNat]) (hv:=W53)
  refine tz [16,5,8,7,4,0,1] ?_
  refine Q0 (decide ((cs.getD (0+ue.toNat) ub).name=b)) (fun h3=>?_) (fun h3=>?_)
  ·exact Q2 [] [0] [indexName cs n b=ue] W128
  ·exact Q4 (u9 cs n b lb) (ue,uj) ((ue+(1:Int),uj)) (by dsimp only [u9];(try simp only [decide_eq_true_eq] at *);omega) (by have hp:nDiff cs b ue=true:=(by simp only [nDiff,corAt];grind);have hs:=Z8 (nDiff cs b) (n:=n) (by grind) hp;dsimp only [u9] at *;grind) (vc:=(zb4 ue)) (hv:=W53)
 ·exact Q2 [] [0] [indexName cs n b=(-1:Int)] W128
theorem Q8l (cs:List Cor) (n:Nat) (b:ByteArray) (lb:List Ins):Ctr jb 55 [zaR n cs,Reg.ro [zdb b,.h 2],Ins.rowR lb] [.c (.h 0),.c (.fn 53 false [1])]
 (Det (.c (.b (!decide (findFrom (nDiff cs b) 0 n=n)))) za7):=by
 refine Ctr.intro [] Tryz.func55 K K ?_
 refine Q3 Q3y (Qd5 cs n b lb) [] ?_
 exact Q2 [] [0] [(!decide (findFrom (nDiff cs b) (0:Int) (↑n:Int)=(↑n:Int)))=decide ((0:Int)≤indexName cs n b)] (by simp only [Conj,indexName];have hg:=Qd0 (nDiff cs b) (n:=n) _ 0 rfl (by omega);grind)
theorem Q9k (cs:List Cor) (x:Int) (h:0≤x):corB cs x=(nameB (cs.getD x.toNat ub).name&&decide (findFrom (nDiff cs (cs.getD x.toNat ub).name) 0 ((x.toNat-0:Nat):Int)=((x.toNat-0:Nat):Int)) &&
 decide (1≤((cs.getD x.toNat ub).code.length:Int))&&decide (((cs.getD x.toNat ub).code.length:Int)≤16384) &&
 (decide (((cs.getD x.toNat ub).code.getD (((cs.getD x.toNat ub).code.length:Int)-1).toNat ub).kind=10)||decide (((cs.getD x.toNat ub).code.getD (((cs.getD x.toNat ub).code.length:Int)-1).toNat ub).kind=8))):=by
 rw [Zj _ _ 0 rfl W29]
 rw [show ((x.toNat-0:Nat):Int)=x by omega]
 rfl
abbrev zaI (y0 y1 y2:Int):Reg:=Reg.box 31 [C.h 0,C.i .i64 y0,C.i .i64 y1,C.i .i64 y2,C.h 1]
abbrev zaN:En:=se 1 (C.p 2 0)
abbrev zdo (y0:List Cor):C:=C.i .i64 (↑y0.length:Int)
def vb (mem:List Int) (shared:Int) (locks:Int) (bu:Int) (cs:List Cor):Lp (Int×Bool):=⟨fun x=>{ N:=105,fr:=[se 62 (C.i .i64 x.1),se 61 (zdo cs),se 60 (C.h 1),se 2 (C.b x.2),zaN],rg:=[IntRow mem,rowOf 2 (·.tc) cs,zaI shared locks bu],wr:=[] },fun x=>0≤x.1∧x.1≤(cs.length:Int)∧allFrom (corB cs) 0 cs.length=allFrom (corB cs) x.1 cs.length,fun x=>((cs.length:Int)-x.1).toNat⟩
abbrev zb2 (y0:List Cor) (y1:Int):Cor:=y0.getD y1.toNat ub
theorem Qk4 (mem:List Int) (shared locks bu:Int) (cs:List Cor):Ctr jb 36 [IntRow mem,Cor.rowR cs] [.agg [.h 0,.i .i64 shared,.i .i64 locks,.i .i64 bu,.h 1]]
 (Det (.c (.b (shapedB mem shared locks bu cs))) [.dead,.dead]):=by
 refine Ctr.intro [] Tryz.func36 K K ?_
 refine RunF.lens 1 (m:=cs.length) K (fun hlens_1=>?_)
 refine Q0 (decide (shared<(0:Int))||decide ((64:Int)<shared)||decide (locks<(0:Int))||decide ((16:Int)<locks)||decide ((↑mem.length:Int)<shared+locks)||decide ((4096:Int)<(↑mem.length:Int))||decide (bu<(1:Int))||decide ((16:Int)<bu)||decide ((8:Int)<(↑cs.length:Int))) (fun h1=>?_) (fun h1=>?_) (vc:=[(decide (shared<(0:Int))||decide ((64:Int)<shared)||decide (locks<(0:Int))||decide ((16:Int)<locks))=false→Fits ja (shared+locks)]) (hv:=W53)
 ·exact Q2 [] [0] [shapedB mem shared locks bu cs=false] W72
 ·refine tz [2,1] ?_
  refine Q7 (vb mem shared locks bu cs) (((0:Int),false)) (by dsimp only [vb];grind) ?_
  rintro ⟨uf,un⟩ hJ2
  dsimp only [vb] at hJ2
  refine tz [62,61,60,2,1] ?_
  refine Q0 (decide (uf<(↑cs.length:Int))) (fun h3=>?_) (fun h3=>?_)
  ·refine Y4 1 (uf.toNat) ?_ (vc:=[uf.toNat<cs.length]) (hv:=W53)
   refine RunF.lens 3 (m:=(zb2 cs uf).code.length) K (fun hlenh3t_3=>?_)
   refine tz [62,61,60,2,1] ?_
   refine Q3 Q3x (Qhl ((zb2 cs uf).name)) [] ?_ (vc:=[(0:Int)≤uf,uf<(↑cs.length:Int),uf.toNat=uf.toNat]) (hv:=W53)
   refine tz [73,6,5,3,4,62,61,60,2,1] ?_
   refine Q0 (!nameB (zb2 cs uf).name) (fun h4=>?_) (fun h4=>?_)
   ·exact Q2 [] [0] [shapedB mem shared locks bu cs=false] W72
   ·refine tz [78,77,75,6,5,4,62,61,60,2,1] ?_
    refine Q3 Q1m (Q8l cs (uf.toNat-0) ((zb2 cs uf).name) ((zb2 cs uf).code)) [5,4,3] ?_ (vc:=[(0:Int)≤(0:Int),(0:Int)≤uf,uf≤(↑cs.length:Int)]) (hv:=W53)
    refine tz [81,75,6,4,62,61,60,2,1] ?_
    refine Q0 (!decide (findFrom (nDiff cs (zb2 cs uf).name) (0:Int) (↑(uf.toNat-0):Int)=(↑(uf.toNat-0):Int))||decide ((↑(zb2 cs uf).code.length:Int)<(1:Int))||decide ((16384:Int)<(↑(zb2 cs uf).code.length:Int))) (fun h5=>?_) (fun h5=>?_)
    ·exact Q2 [] [0] [shapedB mem shared locks bu cs=false] W72
    ·refine tz [6,4,62,61,60,2,1] ?_
     refine Q0 (!decide (((zb2 cs uf).code.getD ((↑(zb2 cs uf).code.length:Int)-(1:Int)).toNat ub).kind=(10:Int))&&!decide (((zb2 cs uf).code.getD ((↑(zb2 cs uf).code.length:Int)-(1:Int)).toNat ub).kind=(8:Int))) (fun h6=>?_) (fun h6=>?_) (vc:=[Fits ja ((↑(zb2 cs uf).code.length:Int)-(1:Int)),(0:Int)≤(↑(zb2 cs uf).code.length:Int)-(1:Int),(↑(zb2 cs uf).code.length:Int)-(1:Int)<(↑(zb2 cs uf).code.length:Int),((↑(zb2 cs uf).code.length:Int)-(1:Int)).toNat<(zb2 cs uf).code.length]) (hv:=W53)
     ·exact Q2 [] [0] [shapedB mem shared locks bu cs=false] W72
     ·exact Q4 (vb mem shared locks bu cs) (uf,un) ((uf+(1:Int),un)) (by dsimp only [vb];(try simp only [decide_eq_true_eq] at *);omega) (by have hp:corB cs uf=true:=(by rw [Q9k cs uf (by grind)];grind);have hs:=Q0e (corB cs) (n:=cs.length) (by grind) hp;dsimp only [vb] at *;grind) (vc:=(zb4 uf)) (hv:=W53)
  ·exact Q2 [] [0] [shapedB mem shared locks bu cs=true] W72
def vx (mem:List Int) (shared:Int) (locks:Int) (bu:Int) (cs:List Cor):Lp (Int×Int×Int×Int):=⟨fun x=>{ N:=41,fr:=[se 15 (C.i .i64 x.1),se 14 (zdo cs),se 13 (C.h 1),se 4 (C.i .i64 x.2.1),se 3 (C.i .i64 x.2.2.1),se 2 (C.i .i64 x.2.2.2),zaN],rg:=[IntRow mem,rowOf 2 (·.tc) cs,zaI shared locks bu],wr:=[] },fun x=>0≤x.1∧x.1≤(cs.length:Int)∧badI mem cs=findFrom (rowB mem cs) x.1 cs.length,fun x=>((cs.length:Int)-x.1).toNat⟩
def vd (mem:List Int) (shared:Int) (locks:Int) (bu:Int) (cs:List Cor) (uf:Int) (un:Int) (uG:Int) (uO:Int):Lp (Int×Int×Int×Int):=⟨fun x=>{ N:=41,fr:=[se 23 (C.i .i64 x.1),se 22 (C.i .i64 (↑(zb2 cs uf).code.length:Int)),se 21 (C.h 3),se 5 (C.i .i64 uf),se 6 (C.p 4 0),se 15 (C.i .i64 uf),se 14 (zdo cs),se 13 (C.h 1),se 4 (C.i .i64 x.2.1),se 3 (C.i .i64 x.2.2.1),se 2 (C.i .i64 x.2.2.2),zaN],rg:=[IntRow mem,Reg.row 2 cs.length (fun i=>(cs.getD i ub).tc) (some (uf.toNat,[C.v (jG (zb2 cs uf).name),C.h 3])),zaI shared locks bu,Reg.row 9 (zb2 cs uf).code.length (fun i=>((zb2 cs uf).code.getD i ub).tc) none,Reg.box 44 [C.v (jG (zb2 cs uf).name),C.h 3]],wr:=[] },fun x=>0≤x.1∧x.1≤((zb2 cs uf).code.length:Int)∧findFrom (insOk mem cs uf) 0 (zb2 cs uf).code.length=findFrom (insOk mem cs uf) x.1 (zb2 cs uf).code.length,fun x=>(((zb2 cs uf).code.length:Int)-x.1).toNat⟩
theorem Qn2 (mem:List Int) (shared locks bu:Int) (cs:List Cor) (hw:∀ a b:Nat,insK ((cs.getD a ub).code.getD b ub)):Ctr jb 20 [IntRow mem,Cor.rowR cs] [.agg [.h 0,.i .i64 shared,.i .i64 locks,.i .i64 bu,.h 1]]
 (Det (.tup [(false,[.i .i64 (chkE mem shared locks bu cs)]),(false,[.i .i64 (chkI mem shared locks bu cs)]),(false,[.i .i64 (chkK mem shared locks bu cs)])]) [.dead,.dead]):=by
 refine Ctr.intro [] Tryz.func20 K K ?_
 refine RunF.lens 1 (m:=cs.length) K (fun hlens_1=>?_)
 refine Q3 Q70 (Qk4 mem shared locks bu cs) [] ?_
 refine tz [10,4,3,2,1] ?_
 refine Q0 (!shapedB mem shared locks bu cs) (fun h1=>?_) (fun h1=>?_)
 ·exact Q2 [] [0,1,2] [chkE mem shared locks bu cs=(160:Int),chkI mem shared locks bu cs=(0:Int),chkK mem shared locks bu cs=(0:Int)] W64
 ·refine tz [4,3,2,1] ?_
  refine Q7 (vx mem shared locks bu cs) (((0:Int),(0:Int),(0:Int),(0:Int))) ⟨jE _,by grind,rfl⟩ ?_
  rintro ⟨uf,un,uG,uO⟩ hJ2
  dsimp only [vx] at hJ2
  refine tz [15,14,13,4,3,2,1] ?_
  refine Q0 (decide (uf<(↑cs.length:Int))) (fun h3=>?_) (fun h3=>?_)
  ·refine Y4 1 (uf.toNat) ?_ (vc:=[uf.toNat<cs.length]) (hv:=W53)
   refine RunF.lens 3 (m:=(zb2 cs uf).code.length) K (fun hlenh3t_3=>?_)
   refine tz [15,14,13,4,3,2,1] ?_
   refine Q7 (vd mem shared locks bu cs uf un uG uO) (((0:Int),un,uG,uO)) (by dsimp only [vd];grind) ?_ (vc:=[(0:Int)≤uf,uf<(↑cs.length:Int),uf.toNat=uf.toNat]) (hv:=W53)
   rintro ⟨ur,uw,uM,uS⟩ hJ4
   dsimp only [vd] at hJ4
   refine tz [23,22,21,5,6,15,14,13,4,3,2,1] ?_
   refine Q0 (decide (ur<(↑(zb2 cs uf).code.length:Int))) (fun h5=>?_) (fun h5=>?_)
   ·refine tz [23,22,21,5,6,15,14,13,4,3,2,1] ?_
    refine Q3 Q7x (Qfg ((zb2 cs uf).code.getD ur.toNat ub) (↑(zb2 cs uf).code.length:Int) (↑mem.length:Int) W170 W170) [] ?_ (vc:=[(0:Int)≤ur,ur<(↑(zb2 cs uf).code.length:Int),ur.toNat<(zb2 cs uf).code.length]) (hv:=W53)
    refine tz [35,7,23,22,21,5,6,15,14,13,4,3,2,1] ?_
    refine Q0 (!insB ((zb2 cs uf).code.getD ur.toNat ub) (↑(zb2 cs uf).code.length:Int) (↑mem.length:Int)) (fun h6=>?_) (fun h6=>?_)
    ·exact Q2 [] [0,1,2] [chkE mem shared locks bu cs=(160:Int),chkI mem shared locks bu cs=uf,chkK mem shared locks bu cs=ur] W64
    ·exact Q4 (vd mem shared locks bu cs uf un uG uO) (ur,uw,uM,uS) ((ur+(1:Int),uw,uM,uS)) (by dsimp only [vd];(try simp only [decide_eq_true_eq] at *);omega) (by have hp:insOk mem cs uf ur=true:=(by simp only [insOk,corAt,insAt];grind);have hs:=Z8 (insOk mem cs uf) (n:=((zb2 cs uf).code.length:Int)) (by grind) hp;dsimp only [vd] at *;grind) (vc:=(zb4 ur)) (hv:=W53)
   ·exact Q4 (vx mem shared locks bu cs) (uf,un,uG,uO) ((uf+(1:Int),uw,uM,uS)) (by dsimp only [vx];(try simp only [decide_eq_true_eq] at *);omega) (by have he:=Zi (insOk mem cs uf) (i:=ur) (n:=((zb2 cs uf).code.length:Int)) (by grind);have hp:rowB mem cs uf=true:=(by simp only [rowB,corAt];grind);have hs:=Z8 (rowB mem cs) (n:=cs.length) (by grind) hp;dsimp only [vx] at *;grind) (vc:=(zb4 uf)) (hv:=W53)
  ·exact Q2 [] [0,1,2] [chkE mem shared locks bu cs=(0:Int),chkI mem shared locks bu cs=(0:Int),chkK mem shared locks bu cs=(0:Int)] W64
def vG (l:List Int) (v:Int):Lp (Int×Int):=⟨fun x=>{ N:=19,fr:=[se 8 (C.i .i64 x.1),se 7 (C.i .i64 (↑l.length:Int)),se 4 (C.i .i64 x.2),se 0 (C.h 0),se 1 (C.i .i64 v)],rg:=[IntRow l],wr:=[] },fun x=>idxJ l v x.1,fun x=>((l.length:Int)-x.1).toNat⟩
abbrev zcb (y0:Int) (y1:List Int):List Prop:=[(0:Int)≤y0,y0<(↑y1.length:Int),y0.toNat<y1.length]
theorem Qn3 (l:List Int) (v:Int) (hl:l.length≤8388608):Ctr jb 109 [IntRow l] [.c (.h 0),zbK v]
 (Det (.c (.i .i64 (idxF l v 0))) [IntRow l]):=by
 refine Ctr.intro [] Tryz.func109 K K ?_
 refine Q7 (vG l v) (zb8) (.start l v) ?_
 rintro ⟨ue,uj⟩ hJ1
 dsimp only [vG] at hJ1
 refine tz [8,7,4,0,1] ?_
 refine Q0 (decide (ue<(↑l.length:Int))) (fun h2=>?_) (fun h2=>?_)
 ·refine tz [8,7,4,0,1] ?_
  refine Q0 (decide (v=l.getD ue.toNat 0)) (fun h3=>?_) (fun h3=>?_) (vc:=(zcb ue l)) (hv:=W135)
  ·exact Q2 [] [2] [idxF l v (0:Int)=ue] W108
  ·exact Q4 (vG l v) (ue,uj) ((ue+(1:Int),uj)) (by dsimp only [vG];have q:=uc h2;omega) (hJ1.next (uc h2) (ud h3)) (vc:=(zb4 ue)) (hv:=W135)
 ·exact Q2 [] [2] [idxF l v (0:Int)=(-1:Int)] W108
theorem Q4d (n:Nod):Ctr jb 129 [] [.agg n.cs]
 (Det (.c (.b (decide (n.kind=1)||decide (n.kind=2)||decide (n.kind=4)))) []):=by
 refine Ctr.intro [] Tryz.func129 K K ?_
 exact Q2
theorem Qhm (n:Nod):Ctr jb 168 [] [.agg n.cs]
 (Det (.c (.b (decide (n.kind=2)||decide (n.kind=3)||decide (n.kind=4)))) []):=by
 refine Ctr.intro [] Tryz.func168 K K ?_
 exact Q2
def wm (U:List Int) (u:Int) (b:Int) (P:List Int):Lp (Bool×Int):=⟨fun x=>{ N:=15,fr:=[se 5 (C.b x.1),se 0 (C.i .i64 u),se 1 (C.i .i64 x.2),se 2 (C.p 0 0)],rg:=[Reg.box 49 [C.h 1],IntOwn U],wr:=[] },fun x=>upJ P U u b x.2,fun x=>upM P x.2⟩
abbrev zaU:Reg:=Reg.box 49 [.h 1]
theorem Qn4 (P U:List Int) (u b:Int) (hM:UpH P U) (hb:b<(U.length:Int)):Ctr jb 150 [zaU,IntOwn U] [zbK u,zbK b,.c (.p 0 0)]
 (Det (.c (.b (upF P U u b))) [zaU,IntOwn U]):=by
 refine Ctr.intro [] Tryz.func150 K K ?_
 refine Q7 (wm U u b P) ((false,b)) (.start hb) ?_
 rintro ⟨ue,uj⟩ hJ1
 dsimp only [wm] at hJ1
 refine tz [5,0,1,2] ?_
 refine Q0 (decide ((0:Int)≤uj)) (fun h2=>?_) (fun h2=>?_)
 ·refine tz [5,0,1,2] ?_
  refine Q0 (decide (uj=u)) (fun h3=>?_) (fun h3=>?_)
  ·exact Q2 [] [2] [upF P U u b=true] W108
  ·exact Q4 (wm U u b P) (ue,uj) ((ue,U.getD uj.toNat 0)) ((hJ1.next hM (uc h2) (ud h3)).2) ((hJ1.next hM (uc h2) (ud h3)).1) (vc:=(zcb uj U)) (hv:=(by simp only [Conj,Fits,Q8,Q9,Qa,Qb,News.len,maxLen]<;>(repeat' (first | apply jo | intro _))<;>first | (have z:=hJ1.1;have q:=uc h2;omega) | grind | (simp only [BL] at *;omega)))
 ·exact Q2 [] [2] [upF P U u b=false] W108
abbrev z74_1:=(MT.mk jb 136 9 4 [CK.s] false [CK.b] false)
theorem Q9l:MT.Ok z74_1:=MT.ok_str K K (.inr rfl) (fun w=>by kernel_rfl)
abbrev zbL:MT:=(MT.mk jb 136 9 4 [CK.s] false [CK.b] false)
theorem Qfi (s:ByteArray) (n:Nat) (D:ByteArray→Option Bool) (hs:s.size≤maxLen) (hn:n<maxLen):Ctr jb 75 [Reg.box 136 [.h 1],Reg.mp zbL n (fun q=>(D q).isSome) (fun q=>(D q).getD false) none] [.c (zdb s),.c (.p 0 0)]
 (Det (.c (.b (nameB s&&!(D s).getD false))) [Reg.box 136 [.h 1],Reg.mp zbL (n+1) (fun q=>((fun q=>if q=s then some true else D q) q).isSome) (fun q=>((fun q=>if q=s then some true else D q) q).getD false) none]):=by
 refine Ctr.intro [] Tryz.func75 K K ?_
 refine Q3 Q3x (Qhl s) [] ?_
 exact Q2 [] [0] [MpEq z74_1 (n+1) (fun (q:ByteArray)=>(if q=s then some true else D q).isSome) (fun (q:ByteArray)=>(if q=s then some true else D q).getD false) none z74_1 (n+1) (fun (q:ByteArray)=>decide (q=s)||(D q).isSome) (fun (q:ByteArray)=>if q=s then true else (D q).getD false) none] (by simp only [Conj];first | exact ⟨MpEq.put (jp _),rfl⟩ | exact MpEq.put (jp _) | (and_intros<;>first | exact MpEq.put (jp _) | rfl)) (vc:=[nameB s=true→s.size≤maxLen,nameB s=true→zbL.P=jb,s.size≤maxLen,zbL.P=jb,n<maxLen]) (hv:=(by simp only [Conj,Fits,Q8,Q9,Qa,Qb,News.len,maxLen]<;>(repeat' (first | apply jo | intro _))<;>first | rfl | exact Q9l | exact hs | exact hn | grind | (simp only [BL] at *;omega)))
abbrev z75_1:=(MT.mk jb 136 9 4 [CK.s] false [CK.b] false)
abbrev zH:Reg:=Reg.box 25 [C.h 0,C.h 1,C.h 2]
abbrev za1 (y0:Int × Bool × Nat × (ByteArray → Option Bool)):Reg:=Reg.mp z75_1 (y0.2.2.1) (fun a=>(y0.2.2.2 a).isSome) (fun a=>(y0.2.2.2 a).getD (false)) none
abbrev zcr (y0:List Dcl):C:=C.i .i64 (↑y0.length:Int)
def ve (sh:List Dcl) (lk:List Dcl) (gs:List Grf):Lp (Int×Bool×Nat×(ByteArray→Option (Bool))):=⟨fun x=>{ N:=73,fr:=[se 32 (C.i .i64 x.1),se 31 (zcr sh),se 30 (C.h 0),se 4 (C.fn 75 false [5]),se 2 (C.b x.2.1),se 1 (C.p 3 0)],rg:=[rowOf 3 (·.tc) sh,rowOf 3 (·.tc) lk,rowOf 4 (·.tc) gs,zH,za1 x,Reg.box 136 [C.h 4]],wr:=[] },fun x=>0≤x.1∧x.1≤(sh.length:Int)∧(x.2.2.1:Int)≤x.1∧goN (nmS sh++(nmL lk++nmG gs)) (fun _=>none)=goN (nmS (sh.drop x.1.toNat)++(nmL lk++nmG gs)) x.2.2.2,fun x=>((sh.length:Int)-x.1).toNat⟩
def vf (sh:List Dcl) (lk:List Dcl) (gs:List Grf) (un:Bool) (uG:Nat) (uO:ByteArray→Option Bool):Lp (Int×Bool×Nat×(ByteArray→Option (Bool))):=⟨fun x=>{ N:=73,fr:=[se 45 (C.i .i64 x.1),se 44 (zcr lk),se 43 (C.h 1),se 4 (C.fn 75 false [5]),se 2 (C.b x.2.1),se 1 (C.p 3 0)],rg:=[rowOf 3 (·.tc) sh,rowOf 3 (·.tc) lk,rowOf 4 (·.tc) gs,zH,za1 x,Reg.box 136 [C.h 4]],wr:=[] },fun x=>0≤x.1∧x.1≤(lk.length:Int)∧(x.2.2.1:Int)≤sh.length+x.1∧goN (nmS sh++(nmL lk++nmG gs)) (fun _=>none)=goN (nmL (lk.drop x.1.toNat)++nmG gs) x.2.2.2,fun x=>((lk.length:Int)-x.1).toNat⟩
abbrev zcS (y0:List Grf):C:=C.i .i64 (↑y0.length:Int)
def vg (sh:List Dcl) (lk:List Dcl) (gs:List Grf) (uw:Bool) (uM:Nat) (uS:ByteArray→Option Bool):Lp (Int×Bool×Nat×(ByteArray→Option (Bool))):=⟨fun x=>{ N:=73,fr:=[se 63 (C.i .i64 x.1),se 62 (zcS gs),se 61 (C.h 2),se 4 (C.fn 75 false [5]),se 2 (C.b x.2.1)],rg:=[rowOf 3 (·.tc) sh,rowOf 3 (·.tc) lk,rowOf 4 (·.tc) gs,zH,za1 x,Reg.box 136 [C.h 4]],wr:=[] },fun x=>0≤x.1∧x.1≤(gs.length:Int)∧(x.2.2.1:Int)≤sh.length+lk.length+x.1∧goN (nmS sh++(nmL lk++nmG gs)) (fun _=>none)=goN (nmG (gs.drop x.1.toNat)) x.2.2.2,fun x=>((gs.length:Int)-x.1).toNat⟩
abbrev zx (y0:List Dcl):Prop:=∀ j:Nat,(y0.getD j ub).name.size≤maxLen
abbrev zM (y0:List Grf):Prop:=∀ j:Nat,(y0.getD j ub).name.size≤maxLen
abbrev zbz (y0:List Grf) (y1:Int):Grf:=y0.getD y1.toNat ub
abbrev zbW (y0:List Dcl) (y1:Int):Dcl:=y0.getD y1.toNat ub
abbrev zcN (y0:ByteArray) (y1:List Dcl) (y2:Int) (y3:ByteArray → Option Bool):Option Bool:=if y0=(zbW y1 y2).name then some true else y3 y0
abbrev zbB (y0:Nat) (y1:List Dcl) (y2:Int) (y3:ByteArray → Option Bool):List Prop:=[MpEq z75_1 (y0+1) (fun (a:ByteArray)=>(zcN a y1 y2 y3).isSome) (fun (a:ByteArray)=>(zcN a y1 y2 y3).getD false) none z75_1 (y0+1) (fun (q:ByteArray)=>(zcN q y1 y2 y3).isSome) (fun (q:ByteArray)=>(zcN q y1 y2 y3).getD false) none]
abbrev zbC:SV:=.agg [.h 0,.h 1,.h 2]
abbrev zbE (y0:Nat) (y1:ByteArray → Option Bool):List Prop:=[MpEq z75_1 y0 (fun (q:ByteArray)=>(y1 q).isSome) (fun (q:ByteArray)=>(y1 q).getD false) none z75_1 y0 (fun (q:ByteArray)=>(y1 q).isSome) (fun (q:ByteArray)=>(y1 q).getD false) none]
abbrev zcf (y0:Nat) (y1:ByteArray → Option Bool):List Prop:=[MpEq z75_1 y0 (fun (a:ByteArray)=>(y1 a).isSome) (fun (a:ByteArray)=>(y1 a).getD false) none z75_1 y0 (fun (a:ByteArray)=>(y1 a).isSome) (fun (a:ByteArray)=>(y1 a).getD false) none]
abbrev zcv (y0:Int) (y1:List Grf):List Prop:=[(0:Int)≤y0,y0<(↑y1.length:Int),y0.toNat=y0.toNat]
theorem Qn5 (sh lk:List Dcl) (gs:List Grf) (hs:zx sh) (hl:zx lk) (hg:zM gs):Ctr jb 46 [Dcl.rowR sh,Dcl.rowR lk,Grf.rowR gs] [zbC]
 (Det (.c (.b (namedB sh lk gs))) za7):=by
 refine Ctr.intro [] Tryz.func46 K K ?_
 refine Q0 (decide ((64:Int)<(↑sh.length:Int))||decide ((16:Int)<(↑lk.length:Int))||decide ((8:Int)<(↑gs.length:Int))) (fun h1=>?_) (fun h1=>?_)
 ·exact Q2 [] [0] [namedB sh lk gs=false] W52
 ·refine tz [2,1] ?_
  refine Q7 (ve sh lk gs) (((0:Int),false,0,fun x=>none)) (by dsimp only [ve];exact ⟨jE _,by omega,jE _,rfl⟩) ?_ [] [6] [MpEq z75_1 0 (fun (a:ByteArray)=>false) (fun (a:ByteArray)=>false) none z75_1 0 (fun x=>false) (fun x=>KA.zero [CK.b]) none] W8 (vc:=[zbL.P=jb,zbL.Ok]) (hv:=W57)
  rintro ⟨uf,un,uG,uO⟩ hJ2
  dsimp only [ve] at hJ2
  refine tz [32,31,30,4,2,1] ?_
  refine Q0 (decide (uf<(↑sh.length:Int))) (fun h3=>?_) (fun h3=>?_)
  ·refine tz [32,31,30,4,2,1] ?_
   refine Q3 Jk (Qfi ((zbW sh uf).name) uG uO W117 W117) [5,4] ?_ [0] (zbE uG uO) W8 (vc:=[(0:Int)≤uf,uf<(↑sh.length:Int),uf.toNat<sh.length]) (hv:=W57)
   refine tz [39,32,31,30,4,2,1] ?_
   refine Q0 (!(nameB (zbW sh uf).name&&!(uO (zbW sh uf).name).getD false)) (fun h4=>?_) (fun h4=>?_)
   ·exact Q2 [] [0] [namedB sh lk gs=false] W52
   ·exact Q4 (ve sh lk gs) (uf,un,uG,uO) ((uf+(1:Int),un,uG+1,fun (a:ByteArray)=>zcN a sh uf uO)) (by dsimp only [ve];have q:=uc h3;omega) (by dsimp only [ve];have q:=uc h3;refine ⟨by omega,by omega,by omega,?_⟩;rw [show (uf+1).toNat=uf.toNat+1 from by omega,hJ2.2.2.2];exact Qix (by omega) h4) [] [6] (zbB uG sh uf uO) W8 (vc:=(zb4 uf)) (hv:=W57)
  ·refine tz [32,31,30,4,2,1] ?_
   refine Q7 (vf sh lk gs un uG uO) (((0:Int),un,uG,uO)) (by dsimp only [vf];have q:=ud h3;refine ⟨jE _,by omega,by omega,?_⟩;rw [hJ2.2.2.2,kq (by omega)];rfl) ?_ [] [6] (zcf uG uO) W8
   rintro ⟨ur,uw,uM,uS⟩ hJ4
   dsimp only [vf] at hJ4
   refine tz [45,44,43,4,2,1] ?_
   refine Q0 (decide (ur<(↑lk.length:Int))) (fun h5=>?_) (fun h5=>?_)
   ·refine tz [45,44,43,4,2,1] ?_
    refine Q3 Jk (Qfi ((zbW lk ur).name) uM uS W117 W117) [5,4] ?_ [0] (zbE uM uS) W8 (vc:=[(0:Int)≤ur,ur<(↑lk.length:Int),ur.toNat<lk.length]) (hv:=W57)
    refine tz [52,8,45,44,43,4,2,1] ?_
    refine Q0 (!(nameB (zbW lk ur).name&&!(uS (zbW lk ur).name).getD false)||!decide ((zbW lk ur).word=(0:Int))) (fun h6=>?_) (fun h6=>?_)
    ·exact Q2 [] [0] [namedB sh lk gs=false] W52
    ·exact Q4 (vf sh lk gs un uG uO) (ur,uw,uM,uS) ((ur+(1:Int),uw,uM+1,fun (a:ByteArray)=>zcN a lk ur uS)) (by dsimp only [vf];have q:=uc h5;omega) (by dsimp only [vf];have q:=uc h5;refine ⟨by omega,by omega,by omega,?_⟩;rw [show (ur+1).toNat=ur.toNat+1 from by omega,hJ4.2.2.2];exact Qiz (by omega) h6) [] [6] (zbB uM lk ur uS) W8 (vc:=(zb4 ur)) (hv:=W57)
   ·refine tz [45,44,43,4,2,1] ?_
    refine Q7 (vg sh lk gs uw uM uS) (((0:Int),uw,uM,uS)) (by dsimp only [vg];have q:=ud h5;refine ⟨jE _,by omega,by omega,?_⟩;rw [hJ4.2.2.2,kq (by omega)];rfl) ?_ [] [6] (zcf uM uS) W8
    rintro ⟨uv,uH,uF,uK⟩ hJ6
    dsimp only [vg] at hJ6
    refine tz [63,62,61,4,2] ?_
    refine Q0 (decide (uv<(↑gs.length:Int))) (fun h7=>?_) (fun h7=>?_)
    ·refine Y4 2 (uv.toNat) ?_ (vc:=[uv.toNat<gs.length]) (hv:=W57)
     refine tz [63,62,61,4,2] ?_
     refine Q3 Jk (Qfi ((zbz gs uv).name) uF uK W117 W117) [5,4] ?_ [0] (zbE uF uK) W8 (vc:=(zcv uv gs)) (hv:=W57)
     refine tz [70,63,62,61,4,2] ?_
     refine Q0 (!(nameB (zbz gs uv).name&&!(uK (zbz gs uv).name).getD false)) (fun h8=>?_) (fun h8=>?_)
     ·exact Q2 [] [0] [namedB sh lk gs=false] W52
     ·exact Q4 (vg sh lk gs uw uM uS) (uv,uH,uF,uK) ((uv+(1:Int),uH,uF+1,fun (a:ByteArray)=>if a=(zbz gs uv).name then some true else uK a)) (by dsimp only [vg];have q:=uc h7;omega) (by dsimp only [vg];have q:=uc h7;refine ⟨by omega,by omega,by omega,?_⟩;rw [show (uv+1).toNat=uv.toNat+1 from by omega,hJ6.2.2.2];exact Qj1 (by omega) h8) [] [6] [MpEq z75_1 (uF+1) (fun (a:ByteArray)=>(if a=(zbz gs uv).name then some true else uK a).isSome) (fun (a:ByteArray)=>(if a=(zbz gs uv).name then some true else uK a).getD false) none z75_1 (uF+1) (fun (q:ByteArray)=>(if q=(zbz gs uv).name then some true else uK q).isSome) (fun (q:ByteArray)=>(if q=(zbz gs uv).name then some true else uK q).getD false) none] W8 (vc:=(zb4 uv)) (hv:=W57)
    ·exact Q2 [] [0] [namedB sh lk gs=true] W52
structure Gs where
 vs:List VCo
 mem:List Int
 pr:List Prt
 steps:List Stp
section
variable {shared locks bu:Int} {cs:List Cor} {k:Int} {g:Gs}
end
structure Uns where
 err:Int
 g:Gs
section
variable {p:Did→Bool} {shared locks bu most:Int} {cs:List Cor} {k x:Int} {g:Gs} {u:Uns}
end
section
variable {shared locks bu most:Int} {cl:List Cls} {cs:List Cor} {x:Int} {order:List Int} {g:Gs} {u:Uns}
end
def g0 (mem:List Int) (cs:List Cor):Gs:=⟨newVs cs.length,mem,[],[]⟩
section
variable {mem:List Int} {shared locks bu most:Int} {cs:List Cor} {cl:List Cls} {order:List Int}
end
section
variable {shared locks bu:Int} {cs:List Cor} {k:Int} {g:Gs}
variable {most:Int} {cl:List Cls}
end
structure Ps where
 vs:List VCo
 mem:List Int
 pr:List Prt
 dids:List Did
 errs:List Int
def p0 (mem:List Int) (cs:List Cor):Ps:=⟨newVs cs.length,mem,[],[],[]⟩
section
variable {bu:Int} {cs:List Cor} {vs:List VCo} {mem:List Int} {pr:List Prt} {s:Stp} {p u:Ps} {l:List Stp} {x:Int}
variable {ds out v:List Did} {es:List Int}
end
section
variable {mem:List Int} {shared locks bu:Int} {cs:List Cor} {l:List Stp}
end
section
variable {mem:List Int} {shared locks bu most x:Int} {cs:List Cor} {cl:List Cls} {order:List Int} {g:Gs} {u:Uns}
end
section
variable {α:Type} [Inhabited α] [DecidableEq α] {a b:List α} {x:Int}
theorem Qc3 (hl:a.length=b.length) (hu:∀ j:Nat,(j:Int)<x→a.getD j ub=b.getD j ub) (h:decide (x<(a.length:Int))=false):decide (a=b)=true:=by
 have:=ud h
 refine decide_eq_true (List.ext_getElem hl fun i h1 h2=>?_)
 have:=hu i W29
 simpa only [jc,jd h1,jd h2,Option.getD_some] using this
theorem Q9m (hu:∀ j:Nat,(j:Int)<x→a.getD j ub=b.getD j ub) (h0:0≤x) (h:a.getD x.toNat ub=b.getD x.toNat ub):∀ j:Nat,(j:Int)<x+1→a.getD j ub=b.getD j default:=fun j hj=>by
 by_cases e:(j:Int)=x
 ·have e2:x.toNat=j:=by omega
  rw [e2] at h;exact h
 ·exact hu j W29
theorem Qe6 (hl:¬ a.length=b.length):decide (a=b)=false:=decide_eq_false (fun e=>hl (by rw [e]))
theorem Qe7 (h:¬ a.getD x.toNat ub=b.getD x.toNat ub):decide (a=b)=false:=decide_eq_false (fun e=>h (by rw [e]))
end
theorem Zb (l:List Int) (hl:l.length * 64≤140737488355328):Ctr jb 79 [IntRow l] [.c (.h 0)]
 (Det (.c (.h 1)) [.dead,IntOwn l]):=by
 refine Ctr.intro [] Tryz.func79 K K ?_
 refine RunF.rnil (n:=l.length) (vc:=[]) 0 K trivial K (fun _=>by kernel_rfl) (fun nil1 hn1=>?_)
 refine tz [4,2,0] ?_
 refine Q0 (nil1) (fun h2=>?_) (fun h2=>?_)
 ·exact Q2 [0,1000001] [0] [l.length=0] W173
 ·exact Q2 [0,2] [0,1] [l.length=0+l.length,∀ (i:Nat),i<l.length→i64T (l.getD i 0)=fun j=>if i<0 then rowT 1 [] i j else i64T (l.getD (i-0) 0) j] W173 (vc:=[∀ (i j:Nat),i<l.length→j<1→flatT (i64T (l.getD i 0) j),0+l.length≤maxLen,(0+l.length) * 8≤140737488355328]) (hv:=(by simp only [Conj,Fits,Q8,Q9,Qa,Qb,News.len,maxLen]<;>(repeat' (first | apply jo | intro _))<;>first | (exact i64T.flat _ _ (by assumption)) | grind | (simp only [BL] at *;omega)))
def vH (X:Ext) (A:Option Addr) (nn:Nat) (cc:Nat) (now:List Int):Lp (Int×Bool):=⟨fun x=>{ N:=26,fr:=[se 13 (C.i .i64 x.1),{ slot:=12,g:=[],sv:=SV.c (C.i .i64 (↑(rd X (ji A nn cc)).length:Int)) },se 4 (C.b x.2),se 0 (C.h 2),se 1 (C.h 0)],rg:=[IntRow now,Reg.froz X,Reg.row 1 (rd X (ji A nn cc)).length (fun j=>i64T ((rd X (ji A nn cc)).getD j 0)) none],wr:=[] },fun x=>0≤x.1∧x.1≤((rd X (.slice A nn cc)).length:Int)∧(rd X (.slice A nn cc)).length=now.length∧∀ j:Nat,(j:Int)<x.1→(rd X (.slice A nn cc)).getD j ub=now.getD j ub,fun x=>(((rd X (.slice A nn cc)).length:Int)-x.1).toNat⟩
theorem Qlb (X:Ext) (A:Option Addr) (nn cc:Nat) (now:List Int) (hT:Is X (.slice A nn cc)):Ctr jb 81 [IntRow now,.froz X] [.c (.v (.slice A nn cc)),.c (.h 0)]
 (Det (.c (.b (decide (rd X (.slice A nn cc)=now)))) [.dead,.dead]):=by
 refine Ctr.intro [] Tryz.func81 K K ?_
 refine RunF.lens 0 (m:=now.length) K (fun hlens_0=>?_)
 refine RunF.tabout 0 1 (X:=X) (y:=ji A nn cc) (size:=1) (n:=(rd X (ji A nn cc)).length) (f:=fun j=>i64T ((rd X (ji A nn cc)).getD j 0)) K K K (Yi hT) ?_
 refine tz [0,1] ?_
 refine Q0 (!decide ((↑(rd X (ji A nn cc)).length:Int)=(↑now.length:Int))) (fun h1=>?_) (fun h1=>?_)
 ·exact Q2 [] [0] [decide (rd X (ji A nn cc)=now)=false] W105
 ·refine tz [4,0,1] ?_
  refine Q7 (vH X A nn cc now) (((0:Int),false)) ⟨by omega,by omega,by simp at h1;omega,fun j hj=>absurd hj W29⟩ ?_
  rintro ⟨uf,un⟩ hJ2
  dsimp only [vH] at hJ2
  refine tz [13,12,4,0,1] ?_
  refine Q0 (decide (uf<(↑(rd X (ji A nn cc)).length:Int))) (fun h3=>?_) (fun h3=>?_)
  ·refine tz [13,12,4,0,1] ?_
   refine Q0 (!decide ((rd X (ji A nn cc)).getD uf.toNat 0=now.getD uf.toNat 0)) (fun h4=>?_) (fun h4=>?_) (vc:=[(0:Int)≤uf,uf<(↑(rd X (ji A nn cc)).length:Int),uf.toNat<(rd X (ji A nn cc)).length,(0:Int)≤uf,uf<(↑now.length:Int),uf.toNat<now.length]) (hv:=W32)
   ·exact Q2 [] [0] [decide (rd X (ji A nn cc)=now)=false] W105
   ·exact Q4 (vH X A nn cc now) (uf,un) ((uf+(1:Int),un)) (by dsimp only [vH];(try simp only [decide_eq_true_eq] at *);omega) ⟨by omega,by have:=uc h3;omega,hJ2.2.2.1,Q9m hJ2.2.2.2 hJ2.1 (by show (rd X (.slice A nn cc)).getD uf.toNat 0=now.getD uf.toNat 0;simpa using h4)⟩ (vc:=[Fits ja (uf+(1:Int))]) (hv:=W32)
  ·exact Q2 [] [0] [decide (rd X (ji A nn cc)=now)=true] W105
abbrev zbG (y0:Nod):List Prop:=[[y0.next,y0.els].length=2,∀ (i:Nat),i < [y0.next,y0.els].length→i64T ([y0.next,y0.els].getD i 0)=rowT 1 [jg ja y0.next,jg ja y0.els] i]
abbrev zbI (y0:Nod):List Prop:=[[y0.next].length=1,∀ (i:Nat),i < [y0.next].length→i≠0→i64T ([y0.next].getD i 0)=fun x=>TC.any,i64T y0.next 0=TC.val (jg ja y0.next)]
theorem Ge (n:Nod):Ctr jb 80 [] [.agg n.cs]
 (Det (.c (.h 0)) [IntOwn (flwL n)]):=by
 refine Ctr.intro [] Tryz.func80 K K ?_
 refine Q0 (decide (n.kind=(9:Int))) (fun h1=>?_) (fun h1=>?_)
 ·rw [Qlp h1]
  exact Q2 [1000000] [0] [(0:Nat)=0] W51
 ·refine tz [2,1] ?_
  refine Q0 (decide (n.kind=(8:Int))&&!decide (n.els=n.next)) (fun h2=>?_) (fun h2=>?_)
  ·rw [Qlq h1 h2]
   exact Q2 [1] [0,1] (zbG n) W51
  ·rw [Qlr h1 h2]
   exact Q2 [1] [0,1,2] (zbI n) W51
abbrev zc9 (y0:Nod):C:=C.i .i64 y0.a.slot
abbrev zcA (y0:Nod):C:=C.i .i64 y0.a.word
abbrev zcB (y0:Nod):C:=C.i .i64 y0.b.slot
abbrev zcC (y0:Nod):C:=C.i .i64 y0.b.word
abbrev zcD (y0:Nod):C:=C.i .i64 y0.origin
abbrev zcJ (y0:Nod):C:=C.i .i64 y0.thing
abbrev zcO (y0:Nod):C:=C.i .i64 y0.slot
abbrev zcP (y0:Nod):C:=C.b y0.a.slotted
abbrev zcQ (y0:Nod):C:=C.b y0.b.slotted
abbrev zcR (y0:Nod):C:=C.i .i64 y0.next
abbrev zcY (y0:Nod):C:=C.i .i64 y0.els
theorem Qn6 (n:Nod) (hk:1≤n.kind∧n.kind≤9):Ctr jb 76 [] [.agg n.cs]
 (Det (.c (.i .u8 (prtN n))) []):=by
 refine Ctr.intro [] Tryz.func76 K K ?_
 rcases (show n.kind=(1:Int)∨n.kind=(2:Int)∨n.kind=(3:Int)∨n.kind=(4:Int)∨n.kind=(5:Int)∨n.kind=(6:Int)∨n.kind=(7:Int)∨n.kind=(8:Int)∨n.kind=(9:Int) from W29) with hs1 | hs1 | hs1 | hs1 | hs1 | hs1 | hs1 | hs1 | hs1
 ·refine tWk (St.mk 21 [En.mk 0 [] (SV.agg [C.i .u8 1,C.i .u8 n.op,zcO n,zcJ n,zcP n,zc9 n,zcA n,zcQ n,zcB n,zcC n,zcR n,zcY n,zcD n])] [] []) ?_ [] [0] [(1:Int)=n.kind] W35
  refine tz [0] ?_
  refine tG Y2 (Zz n.op) [] ?_ (vc:=[(0:Int)≤(1:Int),(1:Int)<(10:Int),1<10]) (hv:=W32)
  refine tz [16,13,4,2] ?_
  refine Q0 (decide ((1:Int)=(1:Int))&&twoB n.op) (fun h2=>?_) (fun h2=>?_)
  ·exact Q2 [] [0] [prtN n=bits ku jl (43:Int) (16:Int)] W84
  ·exact Q2 [] [0] [prtN n=(43:Int)] W84
 ·refine tWk (St.mk 21 [En.mk 0 [] (SV.agg [C.i .u8 2,C.i .u8 n.op,zcO n,zcJ n,zcP n,zc9 n,zcA n,zcQ n,zcB n,zcC n,zcR n,zcY n,zcD n])] [] []) ?_ [] [0] [(2:Int)=n.kind] W35
  refine tz [0] ?_
  refine tG Y2 (Zz n.op) [] ?_ (vc:=[(0:Int)≤(2:Int),(2:Int)<(10:Int),2<10]) (hv:=W32)
  refine tz [16,13,4,2] ?_
  refine Q0 (decide ((2:Int)=(1:Int))&&twoB n.op) (fun h2=>?_) (fun h2=>?_)
  ·exact absurd h2 W79
  ·exact Q2 [] [0] [prtN n=(38:Int)] W84
 ·refine tWk (St.mk 21 [En.mk 0 [] (SV.agg [C.i .u8 3,C.i .u8 n.op,zcO n,zcJ n,zcP n,zc9 n,zcA n,zcQ n,zcB n,zcC n,zcR n,zcY n,zcD n])] [] []) ?_ [] [0] [(3:Int)=n.kind] W35
  refine tz [0] ?_
  refine tG Y2 (Zz n.op) [] ?_ (vc:=[(0:Int)≤(3:Int),(3:Int)<(10:Int),3<10]) (hv:=W32)
  refine tz [16,13,4,2] ?_
  refine Q0 (decide ((3:Int)=(1:Int))&&twoB n.op) (fun h2=>?_) (fun h2=>?_)
  ·exact absurd h2 W79
  ·exact Q2 [] [0] [prtN n=(44:Int)] W84
 ·refine tWk (St.mk 21 [En.mk 0 [] (SV.agg [C.i .u8 4,C.i .u8 n.op,zcO n,zcJ n,zcP n,zc9 n,zcA n,zcQ n,zcB n,zcC n,zcR n,zcY n,zcD n])] [] []) ?_ [] [0] [(4:Int)=n.kind] W35
  refine tz [0] ?_
  refine tG Y2 (Zz n.op) [] ?_ (vc:=[(0:Int)≤(4:Int),(4:Int)<(10:Int),4<10]) (hv:=W32)
  refine tz [16,13,4,2] ?_
  refine Q0 (decide ((4:Int)=(1:Int))&&twoB n.op) (fun h2=>?_) (fun h2=>?_)
  ·exact absurd h2 W79
  ·exact Q2 [] [0] [prtN n=(46:Int)] W84
 ·refine tWk (St.mk 21 [En.mk 0 [] (SV.agg [C.i .u8 5,C.i .u8 n.op,zcO n,zcJ n,zcP n,zc9 n,zcA n,zcQ n,zcB n,zcC n,zcR n,zcY n,zcD n])] [] []) ?_ [] [0] [(5:Int)=n.kind] W35
  refine tz [0] ?_
  refine tG Y2 (Zz n.op) [] ?_ (vc:=[(0:Int)≤(5:Int),(5:Int)<(10:Int),5<10]) (hv:=W32)
  refine tz [16,13,4,2] ?_
  refine Q0 (decide ((5:Int)=(1:Int))&&twoB n.op) (fun h2=>?_) (fun h2=>?_)
  ·exact absurd h2 W79
  ·exact Q2 [] [0] [prtN n=(36:Int)] W84
 ·refine tWk (St.mk 21 [En.mk 0 [] (SV.agg [C.i .u8 6,C.i .u8 n.op,zcO n,zcJ n,zcP n,zc9 n,zcA n,zcQ n,zcB n,zcC n,zcR n,zcY n,zcD n])] [] []) ?_ [] [0] [(6:Int)=n.kind] W35
  refine tz [0] ?_
  refine tG Y2 (Zz n.op) [] ?_ (vc:=[(0:Int)≤(6:Int),(6:Int)<(10:Int),6<10]) (hv:=W32)
  refine tz [16,13,4,2] ?_
  refine Q0 (decide ((6:Int)=(1:Int))&&twoB n.op) (fun h2=>?_) (fun h2=>?_)
  ·exact absurd h2 W79
  ·exact Q2 [] [0] [prtN n=(36:Int)] W84
 ·refine tWk (St.mk 21 [En.mk 0 [] (SV.agg [C.i .u8 7,C.i .u8 n.op,zcO n,zcJ n,zcP n,zc9 n,zcA n,zcQ n,zcB n,zcC n,zcR n,zcY n,zcD n])] [] []) ?_ [] [0] [(7:Int)=n.kind] W35
  refine tz [0] ?_
  refine tG Y2 (Zz n.op) [] ?_ (vc:=[(0:Int)≤(7:Int),(7:Int)<(10:Int),7<10]) (hv:=W32)
  refine tz [16,13,4,2] ?_
  refine Q0 (decide ((7:Int)=(1:Int))&&twoB n.op) (fun h2=>?_) (fun h2=>?_)
  ·exact absurd h2 W79
  ·exact Q2 [] [0] [prtN n=(40:Int)] W84
 ·refine tWk (St.mk 21 [En.mk 0 [] (SV.agg [C.i .u8 8,C.i .u8 n.op,zcO n,zcJ n,zcP n,zc9 n,zcA n,zcQ n,zcB n,zcC n,zcR n,zcY n,zcD n])] [] []) ?_ [] [0] [(8:Int)=n.kind] W35
  refine tz [0] ?_
  refine tG Y2 (Zz n.op) [] ?_ (vc:=[(0:Int)≤(8:Int),(8:Int)<(10:Int),8<10]) (hv:=W32)
  refine tz [16,13,4,2] ?_
  refine Q0 (decide ((8:Int)=(1:Int))&&twoB n.op) (fun h2=>?_) (fun h2=>?_)
  ·exact absurd h2 W79
  ·exact Q2 [] [0] [prtN n=(104:Int)] W84
 ·refine tWk (St.mk 21 [En.mk 0 [] (SV.agg [C.i .u8 9,C.i .u8 n.op,zcO n,zcJ n,zcP n,zc9 n,zcA n,zcQ n,zcB n,zcC n,zcR n,zcY n,zcD n])] [] []) ?_ [] [0] [(9:Int)=n.kind] W35
  refine tz [0] ?_
  refine tG Y2 (Zz n.op) [] ?_ (vc:=[(0:Int)≤(9:Int),(9:Int)<(10:Int),9<10]) (hv:=W32)
  refine tz [16,13,4,2] ?_
  refine Q0 (decide ((9:Int)=(1:Int))&&twoB n.op) (fun h2=>?_) (fun h2=>?_)
  ·exact absurd h2 W79
  ·exact Q2 [] [0] [prtN n=(0:Int)] W84
abbrev z77_1:=(MT.mk jb 141 3 4 [CK.i ja] false [CK.b] false)
theorem Qfj:MT.Ok z77_1:=MT.ok_int K K (.inr rfl) (fun w=>by kernel_rfl)
abbrev ze (y0:Grf):Reg:=Reg.box 60 [C.v (jG y0.name),C.i .i64 y0.locals,C.i .i64 y0.slots,C.h 0]
abbrev zF:En:=se 2 (C.v (ji none 0 0))
abbrev zO (y0:Nat) (y1:Int → Option Bool):Reg:=Reg.mp (MT.mk jb 141 3 4 [CK.i ja] false [CK.b] false) y0 (fun (a:Int)=>(y1 a).isSome) (fun (a:Int)=>(y1 a).getD false) none
abbrev zV (y0:Grf):Reg:=Nod.rowR y0.nodes
abbrev zaZ (y0:Int):En:=se 7 (C.i .i64 y0)
abbrev za8 (y0 y1:Int):List En:=[se 10 (C.h 7),se 9 (C.p 6 0),zaZ y0,se 6 (C.h 5),se 5 (C.h 4),se 4 (C.h 3),se 3 (C.i .i64 y1),zF,zaN]
def C51 (g:Grf) (ue:Int) (uj:Int) (uh:Ext) (uk:List Hdl) (uz:Nat) (uo:Int→Option Bool) (ug:List Int) (nw:List Int):St:=St.mk 109 (za8 ue uj) [zV g,Reg.froz uh,ze g,Hdl.ownR uk,zO uz uo,IntOwn ug,Reg.box 101 ((g.nodes.getD (ug.getD ue.toNat 0).toNat ub)).cs,IntRow nw,Reg.dead] []
def C51_J (g:Grf) (ue:Int) (uj:Int) (uh:Ext) (uk:List Hdl) (uz:Nat) (uo:Int→Option Bool) (ug:List Int) (nw:List Int):Prop:=nowH (g.nodes.getD (ug.getD ue.toNat 0).toNat ub) (rd uh (ji (uk.getD (ug.getD ue.toNat 0).toNat ub).a (uk.getD (ug.getD ue.toNat 0).toNat ub).n (uk.getD (ug.getD ue.toNat 0).toNat ub).c))=some nw
abbrev z77_4 (g:Grf):=Reg.box 60 [C.v (jG g.name),C.i .i64 g.locals,C.i .i64 g.slots,C.h 0]
abbrev z77_5 (g:Grf):=rowOf 13 (·.tc) g.nodes
def vI (g:Grf) (X0:Ext):Lp (Int×Int×Ext×List Hdl×Nat×(Int→Option (Bool))×List Int):=⟨fun x=>{ N:=109,fr:=[se 7 (C.i .i64 x.1),se 6 (C.h 5),se 5 (C.h 4),se 4 (C.h 3),se 3 (C.i .i64 x.2.1),zF,zaN],rg:=[z77_5 g,Reg.froz (x.2.2.1),z77_4 g,Hdl.ownR (x.2.2.2.1),Reg.mp z77_1 (x.2.2.2.2.1) (fun a=>(x.2.2.2.2.2.1 a).isSome) (fun a=>(x.2.2.2.2.2.1 a).getD (false)) none,IntOwn (x.2.2.2.2.2.2)],wr:=[] },fun x=>HJ g.nodes x.1 x.2.2.1 x.2.2.2.1 x.2.2.2.2.1 x.2.2.2.2.2.1 x.2.2.2.2.2.2,fun x=>(g.nodes.length+1-x.1.toNat)⟩
abbrev z77_2 (g:Grf) (ug:List Int) (ue:Int):=(g.nodes.getD (ug.getD ue.toNat 0).toNat ub)
def vo (g:Grf) (ue:Int) (uj:Int) (uh:Ext) (uk:List Hdl) (uz:Nat) (uo:Int→Option Bool) (ug:List Int) (nw:List Int):Lp (Int×Int×Ext×List Hdl×Nat×(Int→Option (Bool))×List Int):=⟨fun x=>{ N:=109,fr:=[se 80 (C.i .i64 x.1),{ slot:=79,g:=[],sv:=SV.c (C.i .i64 (↑(flwL (z77_2 g ug ue)).length:Int)) },se 78 (C.h 9),se 10 (C.h 7),zaZ ue,se 6 (C.h 5),se 5 (C.h 4),se 4 (C.h 3),se 3 (C.i .i64 x.2.1),zF,zaN],rg:=[z77_5 g,Reg.froz (x.2.2.1),z77_4 g,Hdl.ownR (x.2.2.2.1),Reg.mp z77_1 (x.2.2.2.2.1) (fun a=>(x.2.2.2.2.2.1 a).isSome) (fun a=>(x.2.2.2.2.2.1 a).getD (false)) none,IntOwn (x.2.2.2.2.2.2),Reg.box 101 [C.i .u8 (z77_2 g ug ue).kind,C.i .u8 (z77_2 g ug ue).op,C.i .i64 (z77_2 g ug ue).slot,C.i .i64 (z77_2 g ug ue).thing,C.b (z77_2 g ug ue).a.slotted,C.i .i64 (z77_2 g ug ue).a.slot,C.i .i64 (z77_2 g ug ue).a.word,C.b (z77_2 g ug ue).b.slotted,C.i .i64 (z77_2 g ug ue).b.slot,C.i .i64 (z77_2 g ug ue).b.word,C.i .i64 (z77_2 g ug ue).next,C.i .i64 (z77_2 g ug ue).els,C.i .i64 (z77_2 g ug ue).origin],IntRow nw,Reg.dead,IntOwn (flwL (z77_2 g ug ue))],wr:=[] },fun x=>HK g.nodes ue (g.nodes.getD (ug.getD ue.toNat 0).toNat ub) nw x.1 x.2.2.1 x.2.2.2.1 x.2.2.2.2.1 x.2.2.2.2.2.1 x.2.2.2.2.2.2,fun x=>((flwL (g.nodes.getD (ug.getD ue.toNat 0).toNat ub)).length-x.1).toNat⟩
abbrev z77_3 (ue:Int) (uj:Int):=[se 10 (C.h 10),se 9 (C.p 6 0),se 7 (C.i .i64 ue),se 6 (C.h 5),se 5 (C.h 4),se 4 (C.h 3),se 3 (C.i .i64 uj),se 2 (C.v (ji none 0 0)),se 1 (C.p 2 0)]
abbrev z77_6 (uk:List Hdl):=ownOf 49 1 (·.tc) uk
abbrev zc (y0:Grf) (y1:List Int) (y2:Int):Reg:=Reg.box 101 [C.i .u8 (y0.nodes.getD (y1.getD y2.toNat 0).toNat ub).kind,C.i .u8 (y0.nodes.getD (y1.getD y2.toNat 0).toNat ub).op,C.i .i64 (y0.nodes.getD (y1.getD y2.toNat 0).toNat ub).slot,C.i .i64 (y0.nodes.getD (y1.getD y2.toNat 0).toNat ub).thing,C.b (y0.nodes.getD (y1.getD y2.toNat 0).toNat ub).a.slotted,C.i .i64 (y0.nodes.getD (y1.getD y2.toNat 0).toNat ub).a.slot,C.i .i64 (y0.nodes.getD (y1.getD y2.toNat 0).toNat ub).a.word,C.b (y0.nodes.getD (y1.getD y2.toNat 0).toNat ub).b.slotted,C.i .i64 (y0.nodes.getD (y1.getD y2.toNat 0).toNat ub).b.slot,C.i .i64 (y0.nodes.getD (y1.getD y2.toNat 0).toNat ub).b.word,C.i .i64 (y0.nodes.getD (y1.getD y2.toNat 0).toNat ub).next,C.i .i64 (y0.nodes.getD (y1.getD y2.toNat 0).toNat ub).els,C.i .i64 (y0.nodes.getD (y1.getD y2.toNat 0).toNat ub).origin]
abbrev zh (y0:Ext) (y1:List Hdl) (y2:List Int) (y3:Int) (y4:Grf):Reg:=Reg.own 3 1 ((rd y0 (ji (y1.getD (y2.getD y3.toNat 0).toNat ub).a (y1.getD (y2.getD y3.toNat 0).toNat ub).n (y1.getD (y2.getD y3.toNat 0).toNat ub).c)).length+1) (fun i=>i64T ((rd y0 (ji (y1.getD (y2.getD y3.toNat 0).toNat ub).a (y1.getD (y2.getD y3.toNat 0).toNat ub).n (y1.getD (y2.getD y3.toNat 0).toNat ub).c)).getD i 0)) (some ((rd y0 (ji (y1.getD (y2.getD y3.toNat 0).toNat ub).a (y1.getD (y2.getD y3.toNat 0).toNat ub).n (y1.getD (y2.getD y3.toNat 0).toNat ub).c)).length,[C.i .i64 (y4.nodes.getD (y2.getD y3.toNat 0).toNat ub).thing]))
abbrev zC (y0:Grf):Prop:=∀ i:Nat,i<y0.nodes.length→∀ x∈flwL (y0.nodes.getD i ub),0≤x∧x<(y0.nodes.length:Int)
abbrev zW (y0 y1:Int) (y2:Grf) (y3:Ext) (y4:List Hdl) (y5:Nat) (y6:Int → Option Bool) (y7:List Int):St:=St.mk 109 (z77_3 y0 y1) [z77_5 y2,Reg.froz y3,z77_4 y2,z77_6 y4,Reg.mp z77_1 y5 (fun (a:Int)=>(y6 a).isSome) (fun (a:Int)=>(y6 a).getD false) none,IntOwn y7,zc y2 y7 y0,Reg.dead,Reg.dead,Reg.dead,zh y3 y4 y7 y0 y2] []
theorem Qp3 (g:Grf) (hq:zC g) (hN:1≤g.nodes.length∧g.nodes.length≤4096):Ctr jb 48 [zV g] [.agg (g.cs 0)]
 (Det (.tup [(false,[.h 1]),(false,[.i .i64 (heldF g.nodes)])]) [.dead,.one]):=by
 refine Ctr.intro [] Tryz.func48 K K ?_
 refine RunF.tabnew K (fun X0=>?_)
 refine tz [0] ?_
 refine Q7 (vI g X0) (((0:Int),(0:Int),X0,jf g.nodes.length Hdl.none,1,fun (q:Int)=>if q=(0:Int) then some true else none,[(0:Int)])) (.start hN.1 X0) ?_ [] [6,7,8,9,10,11] [(jf g.nodes.length Hdl.none).length=g.nodes.length,∀ (i:Nat),i<(jf g.nodes.length Hdl.none).length→((jf g.nodes.length Hdl.none).getD i ub).tc=fun j=>valT (ji none 0 0).cells.toList j,MpEq z77_1 1 (fun (a:Int)=>(if a=(0:Int) then some true else none).isSome) (fun (a:Int)=>(if a=(0:Int) then some true else none).getD false) none z77_1 1 (fun (q:Int)=>decide (q=(0:Int))||false) (fun (q:Int)=>if q=(0:Int) then true else KA.zero [CK.b]) none,[(0:Int)].length=1,∀ (i:Nat),i < [(0:Int)].length→i≠0→i64T ([(0:Int)].getD i 0)=fun x=>TC.any,i64T (0:Int) 0=TC.val (jg ja (0:Int))] W9 (vc:=[(0:Int)≤(↑g.nodes.length:Int),(↑g.nodes.length:Int)≤(↑g.nodes.length:Int),(↑g.nodes.length:Int) * (24:Int)≤(140737488355328:Int),(↑g.nodes.length:Int)≤(↑maxLen:Int),(MT.mk jb 141 3 4 [CK.i ja] false [CK.b] false).P=jb,(MT.mk jb 141 3 4 [CK.i ja] false [CK.b] false).Ok,Fits ja (0:Int),(MT.mk jb 141 3 4 [CK.i ja] false [CK.b] false).P=jb,0<maxLen]) (hv:=W22)
 rintro ⟨ue,uj,uh,uk,uz,uo,ug⟩ hJ1
 dsimp only [vI] at hJ1
 refine tz [7,6,5,4,3,2,1] ?_
 refine Q0 (decide (ue<(↑ug.length:Int))) (fun h2=>?_) (fun h2=>?_)
 ·refine RunF.cutn 5 (fun nw=>C51 g ue uj uh uk uz uo ug nw) (fun nw=>C51_J g ue uj uh uk uz uo ug nw) ?_ ?_
  ·refine tz [7,6,5,4,3,2,1] ?_
   refine Q0 (decide ((g.nodes.getD (ug.getD ue.toNat 0).toNat ub).kind=(5:Int))) (fun h3=>?_) (fun h3=>?_) (vc:=[(0:Int)≤ue,ue<(↑ug.length:Int),ue.toNat<ug.length,(0:Int)≤ug.getD ue.toNat 0,ug.getD ue.toNat 0<(↑g.nodes.length:Int),(ug.getD ue.toNat 0).toNat<g.nodes.length,(0:Int)≤ug.getD ue.toNat 0,ug.getD ue.toNat 0<(↑uk.length:Int),(ug.getD ue.toNat 0).toNat<uk.length]) (hv:=W22)
   ·refine RunF.tabout 10 1 (X:=uh) (y:=ji (uk.getD (ug.getD ue.toNat 0).toNat ub).a (uk.getD (ug.getD ue.toNat 0).toNat ub).n (uk.getD (ug.getD ue.toNat 0).toNat ub).c) (size:=1) (n:=(rd uh (ji (uk.getD (ug.getD ue.toNat 0).toNat ub).a (uk.getD (ug.getD ue.toNat 0).toNat ub).n (uk.getD (ug.getD ue.toNat 0).toNat ub).c)).length) (f:=fun j=>i64T ((rd uh (ji (uk.getD (ug.getD ue.toNat 0).toNat ub).a (uk.getD (ug.getD ue.toNat 0).toNat ub).n (uk.getD (ug.getD ue.toNat 0).toNat ub).c)).getD j 0)) K K K (Yi (hJ1.is (uc h2))) ?_
    refine tz [10,9,7,6,5,4,3,2,1] ?_
    refine Q0a 2 (fun _:Unit=>zW ue uj g uh uk uz uo ug) (fun _=>True) ?_ ?_
    ·refine ⟨⟨trivial,?_⟩,?_⟩
     ·refine Q3 Ya (Zb (rd uh (ji (uk.getD (ug.getD ue.toNat 0).toNat ub).a (uk.getD (ug.getD ue.toNat 0).toNat ub).n (uk.getD (ug.getD ue.toNat 0).toNat ub).c)) W61) [7] ?_
      exact tTo (fun x=>zW ue uj g uh uk uz uo ug) (fun x=>True) () trivial [] [8] [MpEq z77_1 uz (fun (a:Int)=>(uo a).isSome) (fun (a:Int)=>(uo a).getD false) none z77_1 uz (fun (a:Int)=>(uo a).isSome) (fun (a:Int)=>(uo a).getD false) none] W9 (vc:=[(rd uh (ji (uk.getD (ug.getD ue.toNat 0).toNat ub).a (uk.getD (ug.getD ue.toNat 0).toNat ub).n (uk.getD (ug.getD ue.toNat 0).toNat ub).c)).length+1≤maxLen,((rd uh (ji (uk.getD (ug.getD ue.toNat 0).toNat ub).a (uk.getD (ug.getD ue.toNat 0).toNat ub).n (uk.getD (ug.getD ue.toNat 0).toNat ub).c)).length+1) * 8≤140737488355328]) (hv:=W22)
     ·refine Q3 Ya (Zb (rd uh (ji (uk.getD (ug.getD ue.toNat 0).toNat ub).a (uk.getD (ug.getD ue.toNat 0).toNat ub).n (uk.getD (ug.getD ue.toNat 0).toNat ub).c)) W61) [7] ?_
      exact tTo (fun x=>zW ue uj g uh uk uz uo ug) (fun x=>True) () trivial [] [8] [MpEq z77_1 uz (fun (a:Int)=>(uo a).isSome) (fun (a:Int)=>(uo a).getD false) none z77_1 uz (fun (a:Int)=>(uo a).isSome) (fun (a:Int)=>(uo a).getD false) none] W9 (vc:=[(rd uh (ji (uk.getD (ug.getD ue.toNat 0).toNat ub).a (uk.getD (ug.getD ue.toNat 0).toNat ub).n (uk.getD (ug.getD ue.toNat 0).toNat ub).c)).length+1≤maxLen,((rd uh (ji (uk.getD (ug.getD ue.toNat 0).toNat ub).a (uk.getD (ug.getD ue.toNat 0).toNat ub).n (uk.getD (ug.getD ue.toNat 0).toNat ub).c)).length+1) * 8≤140737488355328]) (hv:=W22)
    ·rintro ⟨⟩ _
     exact tTo (fun nw=>C51 g ue uj uh uk uz uo ug nw) (fun nw=>C51_J g ue uj uh uk uz uo ug nw) (rd uh (ji (uk.getD (ug.getD ue.toNat 0).toNat ub).a (uk.getD (ug.getD ue.toNat 0).toNat ub).n (uk.getD (ug.getD ue.toNat 0).toNat ub).c)++[(g.nodes.getD (ug.getD ue.toNat 0).toNat ub).thing]) W59 [0,1,2,3,4,5,6,10,8] [8,24,25,26] [MpEq z77_1 uz (fun (a:Int)=>(uo a).isSome) (fun (a:Int)=>(uo a).getD false) none z77_1 uz (fun (a:Int)=>(uo a).isSome) (fun (a:Int)=>(uo a).getD false) none,(rd uh (ji (uk.getD (ug.getD ue.toNat 0).toNat ub).a (uk.getD (ug.getD ue.toNat 0).toNat ub).n (uk.getD (ug.getD ue.toNat 0).toNat ub).c)++[(g.nodes.getD (ug.getD ue.toNat 0).toNat ub).thing]).length=(rd uh (ji (uk.getD (ug.getD ue.toNat 0).toNat ub).a (uk.getD (ug.getD ue.toNat 0).toNat ub).n (uk.getD (ug.getD ue.toNat 0).toNat ub).c)).length+1,∀ (i:Nat),i<(rd uh (ji (uk.getD (ug.getD ue.toNat 0).toNat ub).a (uk.getD (ug.getD ue.toNat 0).toNat ub).n (uk.getD (ug.getD ue.toNat 0).toNat ub).c)++[(g.nodes.getD (ug.getD ue.toNat 0).toNat ub).thing]).length→i≠(rd uh (ji (uk.getD (ug.getD ue.toNat 0).toNat ub).a (uk.getD (ug.getD ue.toNat 0).toNat ub).n (uk.getD (ug.getD ue.toNat 0).toNat ub).c)).length→i64T ((rd uh (ji (uk.getD (ug.getD ue.toNat 0).toNat ub).a (uk.getD (ug.getD ue.toNat 0).toNat ub).n (uk.getD (ug.getD ue.toNat 0).toNat ub).c)++[(g.nodes.getD (ug.getD ue.toNat 0).toNat ub).thing]).getD i 0)=i64T ((rd uh (ji (uk.getD (ug.getD ue.toNat 0).toNat ub).a (uk.getD (ug.getD ue.toNat 0).toNat ub).n (uk.getD (ug.getD ue.toNat 0).toNat ub).c)).getD i 0),i64T ((rd uh (ji (uk.getD (ug.getD ue.toNat 0).toNat ub).a (uk.getD (ug.getD ue.toNat 0).toNat ub).n (uk.getD (ug.getD ue.toNat 0).toNat ub).c)++[(g.nodes.getD (ug.getD ue.toNat 0).toNat ub).thing]).getD (rd uh (ji (uk.getD (ug.getD ue.toNat 0).toNat ub).a (uk.getD (ug.getD ue.toNat 0).toNat ub).n (uk.getD (ug.getD ue.toNat 0).toNat ub).c)).length (0:Int)) 0=TC.val (jg ja (g.nodes.getD (ug.getD ue.toNat 0).toNat ub).thing)] W9
   ·refine tz [40,10,9,8,7,6,5,4,3,2,1] ?_
    refine Q0 (decide ((g.nodes.getD (ug.getD ue.toNat 0).toNat ub).kind=(6:Int))) (fun h4=>?_) (fun h4=>?_)
    ·refine RunF.tabout 10 1 (X:=uh) (y:=ji (uk.getD (ug.getD ue.toNat 0).toNat ub).a (uk.getD (ug.getD ue.toNat 0).toNat ub).n (uk.getD (ug.getD ue.toNat 0).toNat ub).c) (size:=1) (n:=(rd uh (ji (uk.getD (ug.getD ue.toNat 0).toNat ub).a (uk.getD (ug.getD ue.toNat 0).toNat ub).n (uk.getD (ug.getD ue.toNat 0).toNat ub).c)).length) (f:=fun j=>i64T ((rd uh (ji (uk.getD (ug.getD ue.toNat 0).toNat ub).a (uk.getD (ug.getD ue.toNat 0).toNat ub).n (uk.getD (ug.getD ue.toNat 0).toNat ub).c)).getD j 0)) K K K (Yi (hJ1.is (uc h2))) ?_
     refine tz [10,9,8,7,6,5,4,3,2,1] ?_
     refine Q0 (decide ((↑(rd uh (ji (uk.getD (ug.getD ue.toNat 0).toNat ub).a (uk.getD (ug.getD ue.toNat 0).toNat ub).n (uk.getD (ug.getD ue.toNat 0).toNat ub).c)).length:Int)=(0:Int))||!decide ((rd uh (ji (uk.getD (ug.getD ue.toNat 0).toNat ub).a (uk.getD (ug.getD ue.toNat 0).toNat ub).n (uk.getD (ug.getD ue.toNat 0).toNat ub).c)).getD ((↑(rd uh (ji (uk.getD (ug.getD ue.toNat 0).toNat ub).a (uk.getD (ug.getD ue.toNat 0).toNat ub).n (uk.getD (ug.getD ue.toNat 0).toNat ub).c)).length:Int)-(1:Int)).toNat (0:Int)=(g.nodes.getD (ug.getD ue.toNat 0).toNat ub).thing)) (fun h5=>?_) (fun h5=>?_) (vc:=[decide ((↑(rd uh (ji (uk.getD (ug.getD ue.toNat 0).toNat ub).a (uk.getD (ug.getD ue.toNat 0).toNat ub).n (uk.getD (ug.getD ue.toNat 0).toNat ub).c)).length:Int)=(0:Int))=false→Fits ja ((↑(rd uh (ji (uk.getD (ug.getD ue.toNat 0).toNat ub).a (uk.getD (ug.getD ue.toNat 0).toNat ub).n (uk.getD (ug.getD ue.toNat 0).toNat ub).c)).length:Int)-(1:Int)),decide ((↑(rd uh (ji (uk.getD (ug.getD ue.toNat 0).toNat ub).a (uk.getD (ug.getD ue.toNat 0).toNat ub).n (uk.getD (ug.getD ue.toNat 0).toNat ub).c)).length:Int)=(0:Int))=false→(0:Int)≤(↑(rd uh (ji (uk.getD (ug.getD ue.toNat 0).toNat ub).a (uk.getD (ug.getD ue.toNat 0).toNat ub).n (uk.getD (ug.getD ue.toNat 0).toNat ub).c)).length:Int)-(1:Int),decide ((↑(rd uh (ji (uk.getD (ug.getD ue.toNat 0).toNat ub).a (uk.getD (ug.getD ue.toNat 0).toNat ub).n (uk.getD (ug.getD ue.toNat 0).toNat ub).c)).length:Int)=(0:Int))=false→(↑(rd uh (ji (uk.getD (ug.getD ue.toNat 0).toNat ub).a (uk.getD (ug.getD ue.toNat 0).toNat ub).n (uk.getD (ug.getD ue.toNat 0).toNat ub).c)).length:Int)-(1:Int)<(↑(rd uh (ji (uk.getD (ug.getD ue.toNat 0).toNat ub).a (uk.getD (ug.getD ue.toNat 0).toNat ub).n (uk.getD (ug.getD ue.toNat 0).toNat ub).c)).length:Int),decide ((↑(rd uh (ji (uk.getD (ug.getD ue.toNat 0).toNat ub).a (uk.getD (ug.getD ue.toNat 0).toNat ub).n (uk.getD (ug.getD ue.toNat 0).toNat ub).c)).length:Int)=(0:Int))=false→((↑(rd uh (ji (uk.getD (ug.getD ue.toNat 0).toNat ub).a (uk.getD (ug.getD ue.toNat 0).toNat ub).n (uk.getD (ug.getD ue.toNat 0).toNat ub).c)).length:Int)-(1:Int)).toNat<(rd uh (ji (uk.getD (ug.getD ue.toNat 0).toNat ub).a (uk.getD (ug.getD ue.toNat 0).toNat ub).n (uk.getD (ug.getD ue.toNat 0).toNat ub).c)).length]) (hv:=W22)
     ·exact Q2 [0,1000001] [0] [heldF g.nodes=ug.getD ue.toNat 0] W85
     ·exact tTo (fun nw=>C51 g ue uj uh uk uz uo ug nw) (fun nw=>C51_J g ue uj uh uk uz uo ug nw) (jW (((↑(rd uh (ji (uk.getD (ug.getD ue.toNat 0).toNat ub).a (uk.getD (ug.getD ue.toNat 0).toNat ub).n (uk.getD (ug.getD ue.toNat 0).toNat ub).c)).length:Int)-(1:Int)).toNat-0) (List.drop 0 (rd uh (ji (uk.getD (ug.getD ue.toNat 0).toNat ub).a (uk.getD (ug.getD ue.toNat 0).toNat ub).n (uk.getD (ug.getD ue.toNat 0).toNat ub).c)))) W59 [0,1,2,3,4,5,6,8,8] [8,24,25] [MpEq z77_1 uz (fun (a:Int)=>(uo a).isSome) (fun (a:Int)=>(uo a).getD false) none z77_1 uz (fun (a:Int)=>(uo a).isSome) (fun (a:Int)=>(uo a).getD false) none,(jW (((↑(rd uh (ji (uk.getD (ug.getD ue.toNat 0).toNat ub).a (uk.getD (ug.getD ue.toNat 0).toNat ub).n (uk.getD (ug.getD ue.toNat 0).toNat ub).c)).length:Int)-(1:Int)).toNat-0) (List.drop 0 (rd uh (ji (uk.getD (ug.getD ue.toNat 0).toNat ub).a (uk.getD (ug.getD ue.toNat 0).toNat ub).n (uk.getD (ug.getD ue.toNat 0).toNat ub).c)))).length=((↑(rd uh (ji (uk.getD (ug.getD ue.toNat 0).toNat ub).a (uk.getD (ug.getD ue.toNat 0).toNat ub).n (uk.getD (ug.getD ue.toNat 0).toNat ub).c)).length:Int)-(1:Int)).toNat-0,∀ (i:Nat),i<(jW (((↑(rd uh (ji (uk.getD (ug.getD ue.toNat 0).toNat ub).a (uk.getD (ug.getD ue.toNat 0).toNat ub).n (uk.getD (ug.getD ue.toNat 0).toNat ub).c)).length:Int)-(1:Int)).toNat-0) (List.drop 0 (rd uh (ji (uk.getD (ug.getD ue.toNat 0).toNat ub).a (uk.getD (ug.getD ue.toNat 0).toNat ub).n (uk.getD (ug.getD ue.toNat 0).toNat ub).c)))).length→i64T ((jW (((↑(rd uh (ji (uk.getD (ug.getD ue.toNat 0).toNat ub).a (uk.getD (ug.getD ue.toNat 0).toNat ub).n (uk.getD (ug.getD ue.toNat 0).toNat ub).c)).length:Int)-(1:Int)).toNat-0) (List.drop 0 (rd uh (ji (uk.getD (ug.getD ue.toNat 0).toNat ub).a (uk.getD (ug.getD ue.toNat 0).toNat ub).n (uk.getD (ug.getD ue.toNat 0).toNat ub).c)))).getD i 0)=i64T ((rd uh (ji (uk.getD (ug.getD ue.toNat 0).toNat ub).a (uk.getD (ug.getD ue.toNat 0).toNat ub).n (uk.getD (ug.getD ue.toNat 0).toNat ub).c)).getD (0+i) 0)] W9 (vc:=[Fits ja ((↑(rd uh (ji (uk.getD (ug.getD ue.toNat 0).toNat ub).a (uk.getD (ug.getD ue.toNat 0).toNat ub).n (uk.getD (ug.getD ue.toNat 0).toNat ub).c)).length:Int)-(1:Int)),(0:Int)≤(0:Int),(0:Int)≤(↑(rd uh (ji (uk.getD (ug.getD ue.toNat 0).toNat ub).a (uk.getD (ug.getD ue.toNat 0).toNat ub).n (uk.getD (ug.getD ue.toNat 0).toNat ub).c)).length:Int)-(1:Int),(↑(rd uh (ji (uk.getD (ug.getD ue.toNat 0).toNat ub).a (uk.getD (ug.getD ue.toNat 0).toNat ub).n (uk.getD (ug.getD ue.toNat 0).toNat ub).c)).length:Int)-(1:Int)≤(↑(rd uh (ji (uk.getD (ug.getD ue.toNat 0).toNat ub).a (uk.getD (ug.getD ue.toNat 0).toNat ub).n (uk.getD (ug.getD ue.toNat 0).toNat ub).c)).length:Int)]) (hv:=W22)
    ·refine tz [40,10,9,8,7,6,5,4,3,2,1] ?_
     refine Q0 (decide ((g.nodes.getD (ug.getD ue.toNat 0).toNat ub).kind=(9:Int))) (fun h5=>?_) (fun h5=>?_)
     ·refine RunF.tabout 10 1 (X:=uh) (y:=ji (uk.getD (ug.getD ue.toNat 0).toNat ub).a (uk.getD (ug.getD ue.toNat 0).toNat ub).n (uk.getD (ug.getD ue.toNat 0).toNat ub).c) (size:=1) (n:=(rd uh (ji (uk.getD (ug.getD ue.toNat 0).toNat ub).a (uk.getD (ug.getD ue.toNat 0).toNat ub).n (uk.getD (ug.getD ue.toNat 0).toNat ub).c)).length) (f:=fun j=>i64T ((rd uh (ji (uk.getD (ug.getD ue.toNat 0).toNat ub).a (uk.getD (ug.getD ue.toNat 0).toNat ub).n (uk.getD (ug.getD ue.toNat 0).toNat ub).c)).getD j 0)) K K K (Yi (hJ1.is (uc h2))) ?_
      refine tz [10,9,8,7,6,5,4,3,2,1] ?_
      refine Q0 (decide ((0:Int)<(↑(rd uh (ji (uk.getD (ug.getD ue.toNat 0).toNat ub).a (uk.getD (ug.getD ue.toNat 0).toNat ub).n (uk.getD (ug.getD ue.toNat 0).toNat ub).c)).length:Int))) (fun h6=>?_) (fun h6=>?_)
      ·exact Q2 [0,1000001] [0] [heldF g.nodes=ug.getD ue.toNat 0] W85
      ·exact tTo (fun nw=>C51 g ue uj uh uk uz uo ug nw) (fun nw=>C51_J g ue uj uh uk uz uo ug nw) (rd uh (ji (uk.getD (ug.getD ue.toNat 0).toNat ub).a (uk.getD (ug.getD ue.toNat 0).toNat ub).n (uk.getD (ug.getD ue.toNat 0).toNat ub).c)) W59 [0,1,2,3,4,5,6,7,1000008] [8] [MpEq z77_1 uz (fun (a:Int)=>(uo a).isSome) (fun (a:Int)=>(uo a).getD false) none z77_1 uz (fun (a:Int)=>(uo a).isSome) (fun (a:Int)=>(uo a).getD false) none] W9
     ·refine RunF.tabout 10 1 (X:=uh) (y:=ji (uk.getD (ug.getD ue.toNat 0).toNat ub).a (uk.getD (ug.getD ue.toNat 0).toNat ub).n (uk.getD (ug.getD ue.toNat 0).toNat ub).c) (size:=1) (n:=(rd uh (ji (uk.getD (ug.getD ue.toNat 0).toNat ub).a (uk.getD (ug.getD ue.toNat 0).toNat ub).n (uk.getD (ug.getD ue.toNat 0).toNat ub).c)).length) (f:=fun j=>i64T ((rd uh (ji (uk.getD (ug.getD ue.toNat 0).toNat ub).a (uk.getD (ug.getD ue.toNat 0).toNat ub).n (uk.getD (ug.getD ue.toNat 0).toNat ub).c)).getD j 0)) K K K (Yi (hJ1.is (uc h2))) ?_
      exact tTo (fun nw=>C51 g ue uj uh uk uz uo ug nw) (fun nw=>C51_J g ue uj uh uk uz uo ug nw) (rd uh (ji (uk.getD (ug.getD ue.toNat 0).toNat ub).a (uk.getD (ug.getD ue.toNat 0).toNat ub).n (uk.getD (ug.getD ue.toNat 0).toNat ub).c)) W59 [0,1,2,3,4,5,6,7,1000008] [8] [MpEq z77_1 uz (fun (a:Int)=>(uo a).isSome) (fun (a:Int)=>(uo a).getD false) none z77_1 uz (fun (a:Int)=>(uo a).isSome) (fun (a:Int)=>(uo a).getD false) none] W9
  ·intro nw hCC51
   refine tz [10,9,7,6,5,4,3,2,1] ?_
   refine Q3 Ym (Ge (g.nodes.getD (ug.getD ue.toNat 0).toNat ub)) [] ?_
   refine tz [78,10,7,6,5,4,3,2,1] ?_
   refine Q7 (vo g ue uj uh uk uz uo ug nw) (((0:Int),uj,uh,uk,uz,uo,ug)) (hJ1.inner (uc h2) hCC51) ?_ [] [8] [MpEq z77_1 uz (fun (a:Int)=>(uo a).isSome) (fun (a:Int)=>(uo a).getD false) none z77_1 uz (fun (a:Int)=>(uo a).isSome) (fun (a:Int)=>(uo a).getD false) none] W9
   rintro ⟨ui,uq,ut,uA,uL,uE,uN⟩ hJ3
   dsimp only [vo] at hJ3
   refine tz [80,79,78,10,7,6,5,4,3,2,1] ?_
   refine Q0 (decide (ui<(↑(flwL (g.nodes.getD (ug.getD ue.toNat 0).toNat ub)).length:Int))) (fun h4=>?_) (fun h4=>?_)
   ·refine tz [80,79,78,10,7,6,5,4,3,2,1] ?_
    refine Q0 (!(uE ((flwL (g.nodes.getD (ug.getD ue.toNat 0).toNat ub)).getD ui.toNat 0)).getD false) (fun h5=>?_) (fun h5=>?_) (vc:=[(0:Int)≤ui,ui<(↑(flwL (g.nodes.getD (ug.getD ue.toNat 0).toNat ub)).length:Int),ui.toNat<(flwL (g.nodes.getD (ug.getD ue.toNat 0).toNat ub)).length,Fits ja ((flwL (g.nodes.getD (ug.getD ue.toNat 0).toNat ub)).getD ui.toNat 0),(MT.mk jb 141 3 4 [CK.i ja] false [CK.b] false).P=jb]) (hv:=W22)
    ·refine tz [12,80,79,78,10,7,6,5,4,3,2,1] ?_
     refine Q3 Ya (Zb nw W61) [7] ?_ (vc:=[Fits ja ((flwL (g.nodes.getD (ug.getD ue.toNat 0).toNat ub)).getD ui.toNat 0),(MT.mk jb 141 3 4 [CK.i ja] false [CK.b] false).P=jb,uL<maxLen]) (hv:=W22)
     refine RunF.tabin 10 1 (ty:=3) (size:=1) (n:=nw.length) (f:=fun i=>i64T (nw.getD i 0)) (X:=ut) K K K (fun X9 A9 c9 hInX9 hTabX9=>?_)
     exact Q4 (vo g ue uj uh uk uz uo ug nw) (ui,uq,ut,uA,uL,uE,uN) ((ui+(1:Int),uq,X9,uA.set ((flwL (g.nodes.getD (ug.getD ue.toNat 0).toNat ub)).getD ui.toNat 0).toNat (Hdl.mk A9 nw.length c9),uL+1,fun (q:Int)=>if q=(flwL (g.nodes.getD (ug.getD ue.toNat 0).toNat ub)).getD ui.toNat 0 then some true else uE q,uN++[(flwL (g.nodes.getD (ug.getD ue.toNat 0).toNat ub)).getD ui.toNat 0])) W186 W99 [0,1,2,3,4,12,6,7,8,9] [6,7,8,9,10,11] [(uA.set ((flwL (g.nodes.getD (ug.getD ue.toNat 0).toNat ub)).getD ui.toNat 0).toNat (Hdl.mk A9 nw.length c9)).length=uA.length,∀ (i:Nat),i<(uA.set ((flwL (g.nodes.getD (ug.getD ue.toNat 0).toNat ub)).getD ui.toNat 0).toNat (Hdl.mk A9 nw.length c9)).length→((uA.set ((flwL (g.nodes.getD (ug.getD ue.toNat 0).toNat ub)).getD ui.toNat 0).toNat (Hdl.mk A9 nw.length c9)).getD i ub).tc=updT (fun i=>(uA.getD i ub).tc) ((flwL (g.nodes.getD (ug.getD ue.toNat 0).toNat ub)).getD ui.toNat 0).toNat 0 [ji A9 nw.length c9] i,MpEq z77_1 (uL+1) (fun (a:Int)=>(if a=(flwL (g.nodes.getD (ug.getD ue.toNat 0).toNat ub)).getD ui.toNat 0 then some true else uE a).isSome) (fun (a:Int)=>(if a=(flwL (g.nodes.getD (ug.getD ue.toNat 0).toNat ub)).getD ui.toNat 0 then some true else uE a).getD false) none z77_1 (uL+1) (fun (q:Int)=>decide (q=(flwL (g.nodes.getD (ug.getD ue.toNat 0).toNat ub)).getD ui.toNat 0)||(uE q).isSome) (fun (q:Int)=>if q=(flwL (g.nodes.getD (ug.getD ue.toNat 0).toNat ub)).getD ui.toNat 0 then true else (uE q).getD false) none,(uN++[(flwL (g.nodes.getD (ug.getD ue.toNat 0).toNat ub)).getD ui.toNat 0]).length=uN.length+1,∀ (i:Nat),i<(uN++[(flwL (g.nodes.getD (ug.getD ue.toNat 0).toNat ub)).getD ui.toNat 0]).length→i≠uN.length→i64T ((uN++[(flwL (g.nodes.getD (ug.getD ue.toNat 0).toNat ub)).getD ui.toNat 0]).getD i 0)=i64T (uN.getD i 0),i64T ((uN++[(flwL (g.nodes.getD (ug.getD ue.toNat 0).toNat ub)).getD ui.toNat 0]).getD uN.length 0) 0=TC.val (jg ja ((flwL (g.nodes.getD (ug.getD ue.toNat 0).toNat ub)).getD ui.toNat 0))] W9 (vc:=[(0:Int)≤(flwL (g.nodes.getD (ug.getD ue.toNat 0).toNat ub)).getD ui.toNat 0,(flwL (g.nodes.getD (ug.getD ue.toNat 0).toNat ub)).getD ui.toNat 0<(↑uA.length:Int),((flwL (g.nodes.getD (ug.getD ue.toNat 0).toNat ub)).getD ui.toNat 0).toNat<uA.length,uN.length+1≤maxLen,(uN.length+1) * 8≤140737488355328,Fits ja (ui+(1:Int))]) (hv:=W22)
    ·refine tz [12,80,79,78,10,7,6,5,4,3,2,1] ?_
     refine Q3 Jd (Qlb ut ((uA.getD ((flwL (g.nodes.getD (ug.getD ue.toNat 0).toNat ub)).getD ui.toNat 0).toNat ub).a) ((uA.getD ((flwL (g.nodes.getD (ug.getD ue.toNat 0).toNat ub)).getD ui.toNat 0).toNat ub).n) ((uA.getD ((flwL (g.nodes.getD (ug.getD ue.toNat 0).toNat ub)).getD ui.toNat 0).toNat ub).c) nw W61) [7,1] ?_ (vc:=[(0:Int)≤(flwL (g.nodes.getD (ug.getD ue.toNat 0).toNat ub)).getD ui.toNat 0,(flwL (g.nodes.getD (ug.getD ue.toNat 0).toNat ub)).getD ui.toNat 0<(↑uA.length:Int),((flwL (g.nodes.getD (ug.getD ue.toNat 0).toNat ub)).getD ui.toNat 0).toNat<uA.length]) (hv:=W22)
     refine tz [104,12,80,79,78,10,7,6,5,4,3,2,1] ?_
     refine Q0 (!decide (rd ut (ji (uA.getD ((flwL (g.nodes.getD (ug.getD ue.toNat 0).toNat ub)).getD ui.toNat 0).toNat ub).a (uA.getD ((flwL (g.nodes.getD (ug.getD ue.toNat 0).toNat ub)).getD ui.toNat 0).toNat ub).n (uA.getD ((flwL (g.nodes.getD (ug.getD ue.toNat 0).toNat ub)).getD ui.toNat 0).toNat ub).c)=nw)) (fun h6=>?_) (fun h6=>?_)
     ·exact Q2 [0,1000001] [0] [heldF g.nodes=(flwL (g.nodes.getD (ug.getD ue.toNat 0).toNat ub)).getD ui.toNat 0] W85
     ·exact Q4 (vo g ue uj uh uk uz uo ug nw) (ui,uq,ut,uA,uL,uE,uN) ((ui+(1:Int),uq,ut,uA,uL,uE,uN)) W186 W99 [] [8] [MpEq z77_1 uL (fun (a:Int)=>(uE a).isSome) (fun (a:Int)=>(uE a).getD false) none z77_1 uL (fun (a:Int)=>(uE a).isSome) (fun (a:Int)=>(uE a).getD false) none] W9 (vc:=[Fits ja (ui+(1:Int))]) (hv:=W22)
   ·exact Q4 (vI g X0) (ue,uj,uh,uk,uz,uo,ug) ((ue+(1:Int),uq,ut,uA,uL,uE,uN)) (by dsimp only [vI];have q:=uc h2;have q1:=hJ1.most;have q2:=hJ1.k0;omega) (hJ3.done (ud h4)) [] [8] [MpEq z77_1 uL (fun (a:Int)=>(uE a).isSome) (fun (a:Int)=>(uE a).getD false) none z77_1 uL (fun (a:Int)=>(uE a).isSome) (fun (a:Int)=>(uE a).getD false) none] W9 (vc:=[Fits ja (ue+(1:Int))]) (hv:=W22)
 ·exact Q2 [0,3] [0] [heldF g.nodes=(-1:Int)] W85
theorem Yy (p k h most:Int):Ctr jb 77 [.ro [.i .u8 p]] [zbK k,.c (.i .u8 h),zbK most,.c (.p 0 0)]
 (Det (.c (.b (withinP p k h most))) [.dead]):=by
 refine Ctr.intro [] Tryz.func77 K K ?_
 exact Q2 [] [0] [withinP p k h most=(decide (bits jx jl p h=(0:Int))&&decide (k=(0:Int))||!decide (bits jx jl p h=(0:Int))&&decide ((0:Int)≤k)&&decide (k<most))] (by simp only [Conj,withinP,usesB] at *<;>grind)
theorem Q2v (p h:Int) (v:Vl) (g:Grf):Ctr jb 78 [.ro [.i .u8 p],.ro (g.cs 2),zV g] [.agg v.cs,.c (.i .u8 h),.c (.p 0 0),.c (.p 1 0)]
 (Det (.c (.b (valueP p g.slots v h))) za7):=by
 refine Ctr.intro [] Tryz.func78 K K ?_
 refine Q0 (decide (bits jx jl p h=(0:Int))) (fun h1=>?_) (fun h1=>?_)
 ·exact Q2 [] [0] [valueP p g.slots v h=(decide (v.slotted=false)&&(decide (v.slot=(0:Int))&&(decide (v.word=(0:Int))&&true)))] W155
 ·refine tz [6,4,3] ?_
  refine Q0 (v.slotted) (fun h2=>?_) (fun h2=>?_)
  ·exact Q2 [] [0] [valueP p g.slots v h=(decide ((0:Int)≤v.slot)&&decide (v.slot<g.slots)&&decide (v.word=(0:Int)))] W155
  ·exact Q2 [] [0] [valueP p g.slots v h=decide (v.slot=(0:Int))] W155
theorem Qk5 (sh lk:List Dcl) (gs:List Grf) (g:Grf) (n:Nod) (hk:0≤n.kind) (ho:0≤n.op∧n.op≤255):Ctr jb 47 [Dcl.rowR sh,Dcl.rowR lk,Grf.rowR gs,zV g] [zbC,.agg (g.cs 3),.agg n.cs]
 (Det (.c (.b (rightN sh.length lk.length g n))) [.dead,.dead,.dead,.dead]):=by
 refine Ctr.intro [] Tryz.func47 K K ?_
 refine Q0 (decide (n.kind=(0:Int))||decide ((10:Int)≤n.kind)||decide (n.origin<(0:Int))||decide ((4096:Int)≤n.origin)) (fun h1=>?_) (fun h1=>?_)
 ·exact Q2 [] [0] [rightN (↑sh.length:Int) (↑lk.length:Int) g n=false] W156
 ·refine tz [6,5,4,3] ?_
  refine Q3 Qcw (Qn6 n (by first | assumption | omega | (simp only [BL] at *;omega))) [] ?_
  refine tz [30,6,5,4,3] ?_
  refine Q0 (decide (n.kind=(5:Int))||decide (n.kind=(6:Int))) (fun h2=>?_) (fun h2=>?_)
  ·refine tz [10,9,8,6,5,4,3] ?_
   refine Q3 Y3 (Yy (prtN n) n.op 1 19) [7] ?_ (vc:=[Fits ja n.op]) (hv:=W32)
   refine tz [51,10,9,8,6,5,4] ?_
   refine tG Y3 (Yy (prtN n) n.slot 2 g.slots) [7] ?_
   refine tz [58,52,10,9,8,6,5,4] ?_
   refine tG Y3 (Yy (prtN n) n.thing 4 (↑lk.length:Int)) [7] ?_
   refine tz [65,60,9,8,6,5,4] ?_
   refine tG Y3 (Yy (prtN n) n.next 32 (↑g.nodes.length:Int)) [7] ?_
   refine tz [74,67,9,8,6,5,4] ?_
   refine tG Y3 (Yy (prtN n) n.els 64 (↑g.nodes.length:Int)) [7] ?_
   refine tz [83,76,9,6,5] ?_
   refine tG Zy (Q2v (prtN n) 8 n.a g) [7,5,3] ?_
   refine tz [89,85,9,6,5] ?_
   refine tG Zy (Q2v (prtN n) 16 n.b g) [7,5,3] ?_
   exact Q2 [] [0] [rightN (↑sh.length:Int) (↑lk.length:Int) g n=(withinP (prtN n) n.op (1:Int) (19:Int)&&withinP (prtN n) n.slot (2:Int) g.slots&&withinP (prtN n) n.thing (4:Int) (↑lk.length:Int)&&withinP (prtN n) n.next (32:Int) (↑g.nodes.length:Int)&&withinP (prtN n) n.els (64:Int) (↑g.nodes.length:Int)&&valueP (prtN n) g.slots n.a (8:Int)&&valueP (prtN n) g.slots n.b (16:Int))] W156
  ·refine tz [10,9,8,6,5,4] ?_
   refine Q3 Y3 (Yy (prtN n) n.op 1 19) [7] ?_ (vc:=[Fits ja n.op]) (hv:=W32)
   refine tz [51,10,9,8,6,5,4] ?_
   refine tG Y3 (Yy (prtN n) n.slot 2 g.slots) [7] ?_
   refine tz [58,52,10,9,8,6,5,4] ?_
   refine tG Y3 (Yy (prtN n) n.thing 4 (↑sh.length:Int)) [7] ?_
   refine tz [65,60,9,8,6,5,4] ?_
   refine tG Y3 (Yy (prtN n) n.next 32 (↑g.nodes.length:Int)) [7] ?_
   refine tz [74,67,9,8,6,5,4] ?_
   refine tG Y3 (Yy (prtN n) n.els 64 (↑g.nodes.length:Int)) [7] ?_
   refine tz [83,76,9,6,5] ?_
   refine tG Zy (Q2v (prtN n) 8 n.a g) [7,5,3] ?_
   refine tz [89,85,9,6,5] ?_
   refine tG Zy (Q2v (prtN n) 16 n.b g) [7,5,3] ?_
   exact Q2 [] [0] [rightN (↑sh.length:Int) (↑lk.length:Int) g n=(withinP (prtN n) n.op (1:Int) (19:Int)&&withinP (prtN n) n.slot (2:Int) g.slots&&withinP (prtN n) n.thing (4:Int) (↑sh.length:Int)&&withinP (prtN n) n.next (32:Int) (↑g.nodes.length:Int)&&withinP (prtN n) n.els (64:Int) (↑g.nodes.length:Int)&&valueP (prtN n) g.slots n.a (8:Int)&&valueP (prtN n) g.slots n.b (16:Int))] W156
def vJ (sh:List Dcl) (lk:List Dcl) (gs:List Grf):Lp (Int×Int×Int×Int):=⟨fun x=>{ N:=81,fr:=[se 17 (C.i .i64 x.1),se 16 (zcS gs),se 15 (C.h 2),se 4 (C.i .i64 x.2.1),se 3 (C.i .i64 x.2.2.1),se 2 (C.i .i64 x.2.2.2),se 1 (C.p 3 0)],rg:=[rowOf 3 (·.tc) sh,rowOf 3 (·.tc) lk,rowOf 4 (·.tc) gs,zH],wr:=[] },fun x=>CJ sh lk gs x.1,fun x=>((gs.length:Int)-x.1).toNat⟩
abbrev z78_1 (gs:List Grf) (uf:Int):=[C.v (jG (gs.getD uf.toNat ub).name),C.i .i64 (gs.getD uf.toNat ub).locals,C.i .i64 (gs.getD uf.toNat ub).slots,C.h 4]
abbrev zr (y0:List Grf) (y1:Int):Reg:=Reg.row 13 (y0.getD y1.toNat ub).nodes.length (fun i=>((y0.getD y1.toNat ub).nodes.getD i ub).tc) none
def vK (sh:List Dcl) (lk:List Dcl) (gs:List Grf) (uf:Int) (un:Int) (uG:Int) (uO:Int):Lp (Int×Int×Int×Int):=⟨fun x=>{ N:=81,fr:=[se 58 (C.i .i64 x.1),se 57 (C.i .i64 (↑(zbz gs uf).nodes.length:Int)),se 56 (C.h 4),se 5 (C.i .i64 uf),se 6 (C.p 5 0),se 17 (C.i .i64 uf),se 16 (zcS gs),se 15 (C.h 2),se 4 (C.i .i64 x.2.1),se 3 (C.i .i64 x.2.2.1),se 2 (C.i .i64 x.2.2.2),se 1 (C.p 3 0)],rg:=[rowOf 3 (·.tc) sh,rowOf 3 (·.tc) lk,Reg.row 4 gs.length (fun i=>(gs.getD i ub).tc) (some (uf.toNat,(z78_1 gs uf))),zH,zr gs uf,Reg.box 60 (z78_1 gs uf)],wr:=[] },fun x=>CN sh.length lk.length (zbz gs uf) x.1,fun x=>(((zbz gs uf).nodes.length:Int)-x.1).toNat⟩
abbrev zdh:List Nat:=[58,57,56,5,6,17,16,15,4,3,2,1]
theorem Q2w (sh lk:List Dcl) (gs:List Grf) (hs:zx sh) (hl:zx lk) (hg:zM gs) (hw:UnitW gs):Ctr jb 31 [Dcl.rowR sh,Dcl.rowR lk,Grf.rowR gs] [zbC]
 (Det (.tup [(false,[.i .i64 (chkU sh lk gs).1]),(false,[.i .i64 (chkU sh lk gs).2.1]),(false,[.i .i64 (chkU sh lk gs).2.2])]) za7):=by
 refine Ctr.intro [] Tryz.func31 K K ?_
 refine RunF.lens 2 (m:=gs.length) K (fun hlens_2=>?_)
 refine Q3 Qcu (Qn5 sh lk gs W91 W91 W91) [] ?_
 refine tz [12,4,3,2,1] ?_
 refine Q0 (!namedB sh lk gs) (fun h1=>?_) (fun h1=>?_)
 ·exact Q2 [] [0,1,2] [(chkU sh lk gs).fst=(60:Int),(chkU sh lk gs).snd.fst=(0:Int),(chkU sh lk gs).snd.snd=(0:Int)] W55
 ·refine tz [4,3,2,1] ?_
  refine Q7 (vJ sh lk gs) (((0:Int),(0:Int),(0:Int),(0:Int))) (CJ.start h1) ?_
  rintro ⟨uf,un,uG,uO⟩ hJ2
  dsimp only [vJ] at hJ2
  refine tz [17,16,15,4,3,2,1] ?_
  refine Q0 (decide (uf<(↑gs.length:Int))) (fun h3=>?_) (fun h3=>?_)
  ·refine Y4 2 (uf.toNat) ?_ (vc:=[uf.toNat<gs.length]) (hv:=W60)
   refine tz [17,16,15,4,3,2,1] ?_
   refine Q0 (decide ((zbz gs uf).locals<(0:Int))||decide ((64:Int)<(zbz gs uf).locals)||decide ((zbz gs uf).slots<(zbz gs uf).locals)||decide ((4160:Int)<(zbz gs uf).slots)||decide ((↑(zbz gs uf).nodes.length:Int)<(1:Int))||decide ((4096:Int)<(↑(zbz gs uf).nodes.length:Int))) (fun h4=>?_) (fun h4=>?_) (vc:=(zcv uf gs)) (hv:=W60)
   ·exact Q2 [] [0,1,2] [(chkU sh lk gs).fst=(60:Int),(chkU sh lk gs).snd.fst=uf,(chkU sh lk gs).snd.snd=(0:Int)] W55
   ·refine tz [5,6,17,16,15,4,3,2,1] ?_
    refine Q7 (vK sh lk gs uf un uG uO) (((0:Int),un,uG,uO)) (CN.start _ _ _) ?_
    rintro ⟨ul,ux,uy,uB⟩ hJ5
    dsimp only [vK] at hJ5
    refine tz zdh ?_
    refine Q0 (decide (ul<(↑(zbz gs uf).nodes.length:Int))) (fun h6=>?_) (fun h6=>?_)
    ·refine tz zdh ?_
     refine Q3 Qcv (Qk5 sh lk gs (zbz gs uf) ((zbz gs uf).nodes.getD ul.toNat ub) W91 W91) [0,1,2,4] ?_ (vc:=[(0:Int)≤ul,ul<(↑(zbz gs uf).nodes.length:Int),ul.toNat<(zbz gs uf).nodes.length]) (hv:=W60)
     refine tz [66,7,58,57,56,5,6,17,16,15,4,3,2,1] ?_
     refine Q0 (!rightN (↑sh.length:Int) (↑lk.length:Int) (zbz gs uf) ((zbz gs uf).nodes.getD ul.toNat ub)) (fun h7=>?_) (fun h7=>?_)
     ·exact Q2 [] [0,1,2] [(chkU sh lk gs).fst=(60:Int),(chkU sh lk gs).snd.fst=uf,(chkU sh lk gs).snd.snd=ul] W55
     ·exact Q4 (vK sh lk gs uf un uG uO) (ul,ux,uy,uB) ((ul+(1:Int),ux,uy,uB)) (by dsimp only [vK];have q:=uc h6;have q2:=hJ5.i0;omega) (hJ5.next (uc h6) h7) (vc:=(zb4 ul)) (hv:=W60)
    ·refine tz zdh ?_
     refine Q3 Q71 (Qp3 (zbz gs uf) W91 W91) [4] ?_
     refine tz [73,5,17,16,15,4,3,2,1] ?_
     refine Q0 (decide ((0:Int)≤heldF (zbz gs uf).nodes)) (fun h7=>?_) (fun h7=>?_)
     ·exact Q2 [] [0,1,2] [(chkU sh lk gs).fst=(60:Int),(chkU sh lk gs).snd.fst=uf,(chkU sh lk gs).snd.snd=heldF (zbz gs uf).nodes] W55
     ·exact Q4 (vJ sh lk gs) (uf,un,uG,uO) ((uf+(1:Int),ux,uy,uB)) (by dsimp only [vJ];have q:=uc h3;have q2:=hJ2.t0;omega) (hJ2.next (uc h3) h4 (hJ5.done (ud h6)) h7) (vc:=(zb4 uf)) (hv:=W60)
  ·exact Q2 [] [0,1,2] [(chkU sh lk gs).fst=(0:Int),(chkU sh lk gs).snd.fst=(0:Int),(chkU sh lk gs).snd.snd=(0:Int)] W55
abbrev zaa:En:=se 1 (C.p 1 0)
def vh (g:Grf):Lp (Int×Bool):=⟨fun x=>{ N:=50,fr:=[se 20 (C.i .i64 x.1),se 19 (C.i .i64 (↑g.nodes.length:Int)),se 18 (C.h 0),se 2 (C.b x.2),zaa],rg:=[rowOf 13 (·.tc) g.nodes,ze g],wr:=[] },fun x=>0≤x.1∧x.1≤(g.nodes.length:Int),fun x=>((g.nodes.length:Int)-x.1).toNat⟩
abbrev zd (y0:Grf) (y1:Int):Reg:=Reg.box 101 [C.i .u8 (y0.nodes.getD y1.toNat ub).kind,C.i .u8 (y0.nodes.getD y1.toNat ub).op,C.i .i64 (y0.nodes.getD y1.toNat ub).slot,C.i .i64 (y0.nodes.getD y1.toNat ub).thing,C.b (y0.nodes.getD y1.toNat ub).a.slotted,C.i .i64 (y0.nodes.getD y1.toNat ub).a.slot,C.i .i64 (y0.nodes.getD y1.toNat ub).a.word,C.b (y0.nodes.getD y1.toNat ub).b.slotted,C.i .i64 (y0.nodes.getD y1.toNat ub).b.slot,C.i .i64 (y0.nodes.getD y1.toNat ub).b.word,C.i .i64 (y0.nodes.getD y1.toNat ub).next,C.i .i64 (y0.nodes.getD y1.toNat ub).els,C.i .i64 (y0.nodes.getD y1.toNat ub).origin]
def vi (g:Grf) (uf:Int) (un:Bool):Lp (Int×Bool):=⟨fun x=>{ N:=50,fr:=[se 35 (C.i .i64 x.1),{ slot:=34,g:=[],sv:=SV.c (C.i .i64 (↑(flwL (g.nodes.getD uf.toNat ub)).length:Int)) },se 33 (C.h 3),se 20 (C.i .i64 uf),se 19 (C.i .i64 (↑g.nodes.length:Int)),se 18 (C.h 0),se 2 (C.b x.2),zaa],rg:=[rowOf 13 (·.tc) g.nodes,ze g,zd g uf,IntOwn (flwL (g.nodes.getD uf.toNat ub))],wr:=[] },fun x=>0≤x.1∧x.1≤((flwL (g.nodes.getD uf.toNat ub)).length:Int),fun x=>(((flwL (g.nodes.getD uf.toNat ub)).length:Int)-x.1).toNat⟩
abbrev zI (y0:Grf):Prop:=∀ i:Nat,i<y0.nodes.length→1≤(y0.nodes.getD i ub).kind∧(y0.nodes.getD i ub).kind≤9
theorem Q4r (g:Grf) (hq:zC g) (hN:1≤g.nodes.length∧g.nodes.length≤4096) (hk:zI g):Ctr jb 145 [zV g] [.agg (g.cs 0)]
 (Det (.c (.b true)) [.dead]):=by
 refine Ctr.intro [] Tryz.func145 K K ?_
 refine Q0 (decide ((↑g.nodes.length:Int)<(1:Int))||decide ((4096:Int)<(↑g.nodes.length:Int))) (fun h1=>?_) (fun h1=>?_)
 ·exact (show False from by simp only [jT,decide_eq_true_eq] at h1;omega).elim
 ·refine tz [2,1] ?_
  refine Q7 (vh g) (((0:Int),false)) (by dsimp only [vh];grind) ?_
  rintro ⟨uf,un⟩ hJ2
  dsimp only [vh] at hJ2
  refine tz [20,19,18,2,1] ?_
  refine Q0 (decide (uf<(↑g.nodes.length:Int))) (fun h3=>?_) (fun h3=>?_)
  ·refine tz [20,19,18,2,1] ?_
   refine Q0 (decide ((g.nodes.getD uf.toNat ub).kind=(0:Int))||decide ((10:Int)≤(g.nodes.getD uf.toNat ub).kind)) (fun h4=>?_) (fun h4=>?_) (vc:=[(0:Int)≤uf,uf<(↑g.nodes.length:Int),uf.toNat<g.nodes.length]) (hv:=W90)
   ·exact (show False from by have q:=uc h3;have z:=hk uf.toNat W29;simp only [jT,decide_eq_true_eq] at h4;omega).elim
   ·refine tz [4,20,19,18,2,1] ?_
    refine Q3 Ym (Ge (g.nodes.getD uf.toNat ub)) [] ?_
    refine tz [33,20,19,18,2,1] ?_
    refine Q7 (vi g uf un) (((0:Int),un)) (by dsimp only [vi];grind) ?_
    rintro ⟨ul,ux⟩ hJ5
    dsimp only [vi] at hJ5
    refine tz [35,34,33,20,19,18,2,1] ?_
    refine Q0 (decide (ul<(↑(flwL (g.nodes.getD uf.toNat ub)).length:Int))) (fun h6=>?_) (fun h6=>?_)
    ·refine tz [35,34,33,20,19,18,2,1] ?_
     refine Q0 (decide ((flwL (g.nodes.getD uf.toNat ub)).getD ul.toNat 0<(0:Int))||decide ((↑g.nodes.length:Int)≤(flwL (g.nodes.getD uf.toNat ub)).getD ul.toNat 0)) (fun h7=>?_) (fun h7=>?_) (vc:=[(0:Int)≤ul,ul<(↑(flwL (g.nodes.getD uf.toNat ub)).length:Int),ul.toNat<(flwL (g.nodes.getD uf.toNat ub)).length]) (hv:=W90)
     ·exact (show False from by have q:=uc h3;have z:=hq uf.toNat W29 _ (Y1 (uc h6) hJ5.1);simp only [jT,decide_eq_true_eq] at h7;omega).elim
     ·exact Q4 (vi g uf un) (ul,ux) ((ul+(1:Int),ux)) (by dsimp only [vi];(try simp only [decide_eq_true_eq] at *);omega) (by dsimp only [vi];grind) (vc:=[Fits ja (ul+(1:Int))]) (hv:=W90)
    ·exact Q4 (vh g) (uf,un) ((uf+(1:Int),ux)) (by dsimp only [vh];(try simp only [decide_eq_true_eq] at *);omega) (by dsimp only [vh];grind) (vc:=[Fits ja (uf+(1:Int))]) (hv:=W90)
  ·exact Q2
abbrev zam:En:=se 4 (C.v (ji none 0 0))
def vL (g:Grf):Lp (List Bo×List Int):=⟨fun x=>{ N:=59,fr:=[se 6 (C.h 3),se 5 (C.h 2),zam,se 2 (C.p 1 0),se 1 (C.i .i64 (-1:Int))],rg:=[rowOf 13 (·.tc) g.nodes,ze g,Bo.ownR (x.1),IntOwn (x.2)],wr:=[] },fun x=>SprJ g.nodes x.1 x.2 none∧2 * falses x.1+x.2.length≤2 * g.nodes.length+1,fun x=>(2 * falses x.1+x.2.length)⟩
def vk (g:Grf) (ue:List Bo) (uj:List Int):Lp (Int×List Bo×List Int):=⟨fun x=>{ N:=59,fr:=[se 41 (C.i .i64 x.1),{ slot:=40,g:=[],sv:=SV.c (C.i .i64 (↑(flwL (g.nodes.getD (uj.getD ((↑uj.length:Int)-(1:Int)).toNat (0:Int)).toNat ub)).length:Int)) },se 39 (C.h 5),se 6 (C.h 4),se 5 (C.h 2),zam,se 2 (C.p 1 0),se 1 (C.i .i64 (-1:Int))],rg:=[rowOf 13 (·.tc) g.nodes,ze g,Bo.ownR (x.2.1),Reg.dead,IntOwn (x.2.2),IntOwn (flwL (g.nodes.getD (uj.getD ((↑uj.length:Int)-(1:Int)).toNat (0:Int)).toNat ub))],wr:=[] },fun x=>SprJ g.nodes x.2.1 x.2.2 (some ((uj.getD ((uj.length:Int)-(1:Int)).toNat (0:Int)),x.1))∧2 * falses x.2.1+x.2.2.length+1≤2 * falses ue+uj.length∧0<uj.length,fun x=>((flwL (g.nodes.getD (uj.getD ((uj.length:Int)-(1:Int)).toNat (0:Int)).toNat ub)).length-x.1.toNat)⟩
abbrev za2 (y0:Grf):Reg:=Bo.ownR (rchL y0.nodes)
theorem Qc4 (g:Grf) (hq:zC g) (hN:1≤g.nodes.length∧g.nodes.length≤4096):Ctr jb 146 [zV g] [.agg (g.cs 0),.c (.i .i64 (-1))]
 (Det (.c (.h 1)) [.dead,za2 g]):=by
 refine Ctr.intro [] Tryz.func146 K K ?_
 refine Q7 (vL g) (((jf g.nodes.length (Bo.mk false)).set 0 (Bo.mk true),[(0:Int)])) (⟨SprJ.start W29,by have z:=Gc ((jf g.nodes.length (Bo.mk false)).set 0 (Bo.mk true));simp only [jy,jL] at z;simp only [km];omega⟩) ?_ [] [5,6,7,8,9] [((jf g.nodes.length (Bo.mk false)).set 0 (Bo.mk true)).length=g.nodes.length,∀ (i:Nat),i<((jf g.nodes.length (Bo.mk false)).set 0 (Bo.mk true)).length→(((jf g.nodes.length (Bo.mk false)).set 0 (Bo.mk true)).getD i ub).tc=updT (fun x j=>valT (jC false).cells.toList j) 0 0 [jC true] i,[(0:Int)].length=1,∀ (i:Nat),i < [(0:Int)].length→i≠0→i64T ([(0:Int)].getD i 0)=fun x=>TC.any,i64T (0:Int) 0=TC.val (jg ja (0:Int))] W40 (vc:=[(0:Int)≤(↑g.nodes.length:Int),(↑g.nodes.length:Int)≤(↑g.nodes.length:Int),(↑g.nodes.length:Int) * (1:Int)≤(140737488355328:Int),(↑g.nodes.length:Int)≤(↑maxLen:Int),(0:Int)≤(0:Int),(0:Int)<(↑g.nodes.length:Int),0<g.nodes.length]) (hv:=W30)
 rintro ⟨ue,uj⟩ hJ1
 dsimp only [vL] at hJ1
 refine tz [6,5,4,2,1] ?_
 refine Q0 (decide ((0:Int)<(↑uj.length:Int))) (fun h2=>?_) (fun h2=>?_)
 ·refine tz [6,5,4,2,1] ?_
  refine Q0 (decide (uj.getD ((↑uj.length:Int)-(1:Int)).toNat (0:Int)=(-1:Int))) (fun h3=>?_) (fun h3=>?_) (vc:=[Fits ja ((↑uj.length:Int)-(1:Int)),(0:Int)≤(↑uj.length:Int)-(1:Int),(↑uj.length:Int)-(1:Int)<(↑uj.length:Int),((↑uj.length:Int)-(1:Int)).toNat<uj.length,Fits ja ((↑uj.length:Int)-(1:Int)),(0:Int)≤(0:Int),(0:Int)≤(↑uj.length:Int)-(1:Int),(↑uj.length:Int)-(1:Int)≤(↑uj.length:Int),(0:Int)<(↑uj.length:Int)]) (hv:=W30)
  ·exact (show False from by (have z:=(hJ1.1.popI W158).cur _ _ rfl;have q:=uc h3;omega)).elim
  ·refine RunF.trim 3 ((uj.length-1)) (ty:=3) (size:=1) (n:=uj.length) (f:=fun i=>i64T (uj.getD i 0)) (vc:=[((↑uj.length:Int)-(1:Int)).toNat-0=uj.length-1,((↑uj.length:Int)-(1:Int)).toNat-0=uj.length-1]) K K W158 K (by simp only [Conj]<;>(repeat' apply jo)<;>omega) ?_
   refine tz [6,7,5,4,2,1] ?_
   refine Q3 Ym (Ge (g.nodes.getD (uj.getD ((↑uj.length:Int)-(1:Int)).toNat (0:Int)).toNat ub)) [] ?_ (vc:=[(0:Int)≤uj.getD ((↑uj.length:Int)-(1:Int)).toNat (0:Int),uj.getD ((↑uj.length:Int)-(1:Int)).toNat (0:Int)<(↑g.nodes.length:Int),(uj.getD ((↑uj.length:Int)-(1:Int)).toNat (0:Int)).toNat<g.nodes.length]) (hv:=W30)
   refine tz [39,6,5,4,2,1] ?_
   refine Q7 (vk g ue uj) (((0:Int),ue,jW (uj.length-1) uj)) (⟨hJ1.1.popI W158,by show 2 * falses ue+(uj.take (uj.length-1)).length+1≤2 * falses ue+uj.length;rw [jO];have q:=uc h2;omega,by have q:=uc h2;omega⟩) ?_ [] [7,8] [(jW (uj.length-1) uj).length=uj.length-1,∀ (i:Nat),i<(jW (uj.length-1) uj).length→i64T ((jW (uj.length-1) uj).getD i 0)=i64T (uj.getD i 0)] W40
   rintro ⟨ur,uw,uM⟩ hJ4
   dsimp only [vk] at hJ4
   refine tz [41,40,39,6,5,4,2,1] ?_
   refine Q0 (decide (ur<(↑(flwL (g.nodes.getD (uj.getD ((↑uj.length:Int)-(1:Int)).toNat (0:Int)).toNat ub)).length:Int))) (fun h5=>?_) (fun h5=>?_)
   ·refine tz [41,40,39,6,5,4,2,1] ?_
    refine Q0 (!(uw.getD ((flwL (g.nodes.getD (uj.getD ((↑uj.length:Int)-(1:Int)).toNat (0:Int)).toNat ub)).getD ur.toNat 0).toNat ub).b) (fun h6=>?_) (fun h6=>?_) (vc:=[(0:Int)≤ur,ur<(↑(flwL (g.nodes.getD (uj.getD ((↑uj.length:Int)-(1:Int)).toNat (0:Int)).toNat ub)).length:Int),ur.toNat<(flwL (g.nodes.getD (uj.getD ((↑uj.length:Int)-(1:Int)).toNat (0:Int)).toNat ub)).length,(0:Int)≤(flwL (g.nodes.getD (uj.getD ((↑uj.length:Int)-(1:Int)).toNat (0:Int)).toNat ub)).getD ur.toNat 0,(flwL (g.nodes.getD (uj.getD ((↑uj.length:Int)-(1:Int)).toNat (0:Int)).toNat ub)).getD ur.toNat 0<(↑uw.length:Int),((flwL (g.nodes.getD (uj.getD ((↑uj.length:Int)-(1:Int)).toNat (0:Int)).toNat ub)).getD ur.toNat 0).toNat<uw.length]) (hv:=W30)
    ·exact Q4 (vk g ue uj) (ur,uw,uM) ((ur+(1:Int),uw.set ((flwL (g.nodes.getD (uj.getD ((↑uj.length:Int)-(1:Int)).toNat (0:Int)).toNat ub)).getD ur.toNat 0).toNat (Bo.mk true),uM++[(flwL (g.nodes.getD (uj.getD ((↑uj.length:Int)-(1:Int)).toNat (0:Int)).toNat ub)).getD ur.toNat 0])) W178 W92 [0,1,2,3,7,5] [5,6,7,8,9] [(uw.set ((flwL (g.nodes.getD (uj.getD ((↑uj.length:Int)-(1:Int)).toNat (0:Int)).toNat ub)).getD ur.toNat 0).toNat (Bo.mk true)).length=uw.length,∀ (i:Nat),i<(uw.set ((flwL (g.nodes.getD (uj.getD ((↑uj.length:Int)-(1:Int)).toNat (0:Int)).toNat ub)).getD ur.toNat 0).toNat (Bo.mk true)).length→((uw.set ((flwL (g.nodes.getD (uj.getD ((↑uj.length:Int)-(1:Int)).toNat (0:Int)).toNat ub)).getD ur.toNat 0).toNat (Bo.mk true)).getD i ub).tc=updT (fun i=>(uw.getD i ub).tc) ((flwL (g.nodes.getD (uj.getD ((↑uj.length:Int)-(1:Int)).toNat (0:Int)).toNat ub)).getD ur.toNat 0).toNat 0 [jC true] i,(uM++[(flwL (g.nodes.getD (uj.getD ((↑uj.length:Int)-(1:Int)).toNat (0:Int)).toNat ub)).getD ur.toNat 0]).length=uM.length+1,∀ (i:Nat),i<(uM++[(flwL (g.nodes.getD (uj.getD ((↑uj.length:Int)-(1:Int)).toNat (0:Int)).toNat ub)).getD ur.toNat 0]).length→i≠uM.length→i64T ((uM++[(flwL (g.nodes.getD (uj.getD ((↑uj.length:Int)-(1:Int)).toNat (0:Int)).toNat ub)).getD ur.toNat 0]).getD i 0)=i64T (uM.getD i 0),i64T ((uM++[(flwL (g.nodes.getD (uj.getD ((↑uj.length:Int)-(1:Int)).toNat (0:Int)).toNat ub)).getD ur.toNat 0]).getD uM.length 0) 0=TC.val (jg ja ((flwL (g.nodes.getD (uj.getD ((↑uj.length:Int)-(1:Int)).toNat (0:Int)).toNat ub)).getD ur.toNat 0))] W40 (vc:=[(0:Int)≤(flwL (g.nodes.getD (uj.getD ((↑uj.length:Int)-(1:Int)).toNat (0:Int)).toNat ub)).getD ur.toNat 0,(flwL (g.nodes.getD (uj.getD ((↑uj.length:Int)-(1:Int)).toNat (0:Int)).toNat ub)).getD ur.toNat 0<(↑uw.length:Int),((flwL (g.nodes.getD (uj.getD ((↑uj.length:Int)-(1:Int)).toNat (0:Int)).toNat ub)).getD ur.toNat 0).toNat<uw.length,uM.length+1≤maxLen,(uM.length+1) * 8≤140737488355328,Fits ja (ur+(1:Int))]) (hv:=W30)
    ·exact Q4 (vk g ue uj) (ur,uw,uM) ((ur+(1:Int),uw,uM)) W178 W92 (vc:=[Fits ja (ur+(1:Int))]) (hv:=W30)
   ·exact Q4 (vL g) (ue,uj) ((uw,uM)) (by dsimp only [vL];have z:=hJ4.2.1;omega) (⟨hJ4.1.close (by have q:=ud h5;omega),by show 2 * falses uw+uM.length≤2 * g.nodes.length+1;have z:=hJ4.2.1;have z2:=hJ1.2;(try dsimp only at z z2);omega⟩) [0,1,2,4]
 ·exact Q2 [0,2] [0,1] [(rchL g.nodes).length=ue.length,∀ (i:Nat),i<(rchL g.nodes).length→((rchL g.nodes).getD i ub).tc=(ue.getD i ub).tc] (by simp only [Conj];have q:=ud h2;have e:uj=[]:=kj (by omega);subst e;rw [hJ1.1.done hq];exact ⟨rfl,fun _ _=>rfl⟩)
theorem Yd (g:Grf) (hq:zC g) (hN:1≤g.nodes.length∧g.nodes.length≤4096) (hk:zI g):Ctr jb 126 [zV g] [.agg (g.cs 0)]
 (Det (.c (.h 1)) [.dead,za2 g]):=by
 refine Ctr.intro [] Tryz.func126 K K ?_
 refine Q3 J8 (Q4r g W49 W49 W49) [] ?_
 refine tz [4,2,1] ?_
 refine Q0 (!true) (fun h1=>?_) (fun h1=>?_)
 ·exact absurd h1 W79
 ·refine tz [2,1] ?_
  refine Q3 Q45 (Qc4 g W49 W49) [] ?_
  exact Q2 [0,2]
abbrev zaS (y0:Grf):En:=se 17 (C.i .i64 (↑y0.nodes.length:Int))
def vy (g:Grf):Lp (Int×List Iln):=⟨fun x=>{ N:=43,fr:=[se 18 (C.i .i64 x.1),zaS g,se 16 (C.h 0),se 3 (C.h 2),zF],rg:=[rowOf 13 (·.tc) g.nodes,ze g,Iln.ownR (x.2)],wr:=[] },fun x=>0≤x.1∧x.1≤(g.nodes.length:Int)∧x.2=ahdN g.nodes x.1.toNat,fun x=>((g.nodes.length:Int)-x.1).toNat⟩
def vz (g:Grf) (uf:Int) (un:List Iln):Lp (Int×List Iln):=⟨fun x=>{ N:=43,fr:=[se 26 (C.i .i64 x.1),{ slot:=25,g:=[],sv:=SV.c (C.i .i64 (↑(flwL (g.nodes.getD uf.toNat ub)).length:Int)) },se 24 (C.h 4),se 4 (C.i .i64 uf),se 18 (C.i .i64 uf),zaS g,se 16 (C.h 0),se 3 (C.h 2),zF],rg:=[rowOf 13 (·.tc) g.nodes,ze g,Iln.ownR (x.2),zd g uf,IntOwn (flwL (g.nodes.getD uf.toNat ub))],wr:=[] },fun x=>0≤x.1∧x.1≤((flwL (g.nodes.getD uf.toNat ub)).length:Int)∧x.2=ahdJ g.nodes uf.toNat x.1.toNat,fun x=>(((flwL (g.nodes.getD uf.toNat ub)).length:Int)-x.1).toNat⟩
theorem Qe8 (g:Grf) (hq:zC g) (hN:1≤g.nodes.length∧g.nodes.length≤4096) (hk:zI g):Ctr jb 149 [zV g] [.agg (g.cs 0)]
 (Det (.c (.h 1)) [.dead,Iln.ownR (aheadL g.nodes)]):=by
 refine Ctr.intro [] Tryz.func149 K K ?_
 refine Q3 J8 (Q4r g W49 W49 W49) [] ?_
 refine tz [9,2,1] ?_
 refine Q0 (!true) (fun h1=>?_) (fun h1=>?_)
 ·exact absurd h1 W79
 ·refine tz [2,1] ?_
  refine RunF.hereL (vc:=[(0:Int)≤(↑g.nodes.length:Int),(↑g.nodes.length:Int)≤(↑g.nodes.length:Int),(↑g.nodes.length:Int) * (24:Int)≤(140737488355328:Int),(↑g.nodes.length:Int)≤(↑maxLen:Int)]) K W39 ?_
  refine Ql0 2 (fun _=>Iln.tc ⟨[]⟩) ?_ (vc:=[∀ (i j:Nat),i<g.nodes.length→j<1→(Iln.mk []).tc j=valT (ji none 0 0).cells.toList j∨valT (ji none 0 0).cells.toList j=TC.val (ji none 0 0)∧∃ ty s g,(Iln.mk []).tc j=TC.sub ty s 0 g]) (hv:=(by simp only [Conj];intro i j hi hj;right;match j,hj with | 0,_=>exact ⟨rfl,_,_,_,rfl⟩))
  refine tz [18,17,16,3,2] ?_
  refine Q7 (vy g) (((0:Int),ahdN g.nodes 0)) (⟨jE _,by omega,rfl⟩) ?_ [] [5,6] [(ahdN g.nodes 0).length=g.nodes.length,∀ (i:Nat),i<(ahdN g.nodes 0).length→((ahdN g.nodes 0).getD i ub).tc=(Iln.mk []).tc] (by (try simp only [Conj])<;>(repeat' apply jo)<;>first | done | trivial | rfl | (intros;first | rfl | trivial) | exact Qs _ _ | exact jy | exact Qq _ _ _ | exact jL | (intro i q;unfold ahdN at q ⊢;rw [Qc (by simpa using q)];simp) | (unfold ahdN;simp) | exact Q2k _ _ _ | exact Qx _ _ _ _ _ | (exact Qy _ _ _ (by first | omega | (have h0:=Y6 (by simpa using h1);have hm:=Y5 h0.1;have hs:=Yc h0.1;omega))) | exact MpEq.put (by omega) | (refine MpEq.mk' (by omega) ?_ ?_<;>intro q<;>first | rfl | (dsimp only;split<;>simp_all)) | (exact MpEq.mkIt (by omega) (fun _=>rfl) (fun _=>rfl) rfl rfl (fun _=>rfl)) | (intro i h1 h2;rw [Qu h1 h2]) | (rw [Qj];rfl))
  rintro ⟨uf,un⟩ hJ2
  dsimp only [vy] at hJ2
  refine tz [18,17,16,3,2] ?_
  refine Q0 (decide (uf<(↑g.nodes.length:Int))) (fun h3=>?_) (fun h3=>?_)
  ·refine tz [18,17,16,3,2] ?_
   refine Q3 Ym (Ge (g.nodes.getD uf.toNat ub)) [] ?_ (vc:=[(0:Int)≤uf,uf<(↑g.nodes.length:Int),uf.toNat<g.nodes.length]) (hv:=W39)
   refine tz [24,4,18,17,16,3,2] ?_
   refine Q7 (vz g uf un) (((0:Int),un)) (⟨jE _,by omega,by rw [hJ2.2.2];exact (Qgk _ _).symm⟩) ?_
   rintro ⟨ur,uw⟩ hJ4
   dsimp only [vz] at hJ4
   refine tz [26,25,24,4,18,17,16,3,2] ?_
   refine Q0 (decide (ur<(↑(flwL (g.nodes.getD uf.toNat ub)).length:Int))) (fun h5=>?_) (fun h5=>?_)
   ·refine Y4 2 (((flwL (g.nodes.getD uf.toNat ub)).getD ur.toNat 0).toNat) ?_ (vc:=[((flwL (g.nodes.getD uf.toNat ub)).getD ur.toNat 0).toNat<uw.length]) (hv:=W39)
    exact Q6t (vz g uf un) (ur,uw) ((ur+(1:Int),ahd1 uw uf ((flwL (g.nodes.getD uf.toNat ub)).getD ur.toNat 0))) (by dsimp only [vz];have q:=uc h5;omega) (by dsimp only [vz];have q:=uc h5;refine ⟨by omega,by omega,?_⟩;rw [hJ4.2.2];exact Qgn hJ2.1 hJ4.1 q) [(7,(i64T uf)),(2,(Iln.tc ⟨(uw.getD ((flwL (g.nodes.getD uf.toNat ub)).getD ur.toNat 0).toNat ub).l++[uf]⟩))] [] [5,6] [(ahd1 uw uf ((flwL (g.nodes.getD uf.toNat ub)).getD ur.toNat 0)).length=uw.length,∀ (i:Nat),i<(ahd1 uw uf ((flwL (g.nodes.getD uf.toNat ub)).getD ur.toNat 0)).length→((ahd1 uw uf ((flwL (g.nodes.getD uf.toNat ub)).getD ur.toNat 0)).getD i ub).tc=if i=((flwL (g.nodes.getD uf.toNat ub)).getD ur.toNat 0).toNat then (Iln.mk ((uw.getD ((flwL (g.nodes.getD uf.toNat ub)).getD ur.toNat 0).toNat ub).l++[uf])).tc else (uw.getD i ub).tc] (by simp only [Conj];(repeat' apply jo)<;>first | trivial | rfl | (intros;first | trivial | rfl) | exact Q2k _ _ _ | (refine Qlu _ _ _ ?_;have z2:=hq _ (by have q:=uc h3;omega) _ (Y1 (uc h5) hJ4.1);have z3:=congrArg j5 hJ4.2.2;rw [Qbj] at z3;omega)) (vc:=[(0:Int)≤ur,ur<(↑(flwL (g.nodes.getD uf.toNat ub)).length:Int),ur.toNat<(flwL (g.nodes.getD uf.toNat ub)).length,(0:Int)≤(flwL (g.nodes.getD uf.toNat ub)).getD ur.toNat 0,(flwL (g.nodes.getD uf.toNat ub)).getD ur.toNat 0<(↑uw.length:Int),((flwL (g.nodes.getD uf.toNat ub)).getD ur.toNat 0).toNat=((flwL (g.nodes.getD uf.toNat ub)).getD ur.toNat 0).toNat,(uw.getD ((flwL (g.nodes.getD uf.toNat ub)).getD ur.toNat 0).toNat ub).l.length+1≤maxLen,((uw.getD ((flwL (g.nodes.getD uf.toNat ub)).getD ur.toNat 0).toNat ub).l.length+1) * 8≤140737488355328,(0:Int)≤(flwL (g.nodes.getD uf.toNat ub)).getD ur.toNat 0,(flwL (g.nodes.getD uf.toNat ub)).getD ur.toNat 0<(↑uw.length:Int),((flwL (g.nodes.getD uf.toNat ub)).getD ur.toNat 0).toNat=((flwL (g.nodes.getD uf.toNat ub)).getD ur.toNat 0).toNat,Fits ja (ur+(1:Int))]) (hv:=W39) (vc2:=[uf=uf,((uw.getD ((flwL (g.nodes.getD uf.toNat ub)).getD ur.toNat 0).toNat ub).l++[uf]).length=(uw.getD ((flwL (g.nodes.getD uf.toNat ub)).getD ur.toNat 0).toNat ub).l.length+1,∀ (i:Nat),i<((uw.getD ((flwL (g.nodes.getD uf.toNat ub)).getD ur.toNat 0).toNat ub).l++[uf]).length→i64T (((uw.getD ((flwL (g.nodes.getD uf.toNat ub)).getD ur.toNat 0).toNat ub).l++[uf]).getD i 0)=if i=(uw.getD ((flwL (g.nodes.getD uf.toNat ub)).getD ur.toNat 0).toNat ub).l.length then i64T uf else i64T ((uw.getD ((flwL (g.nodes.getD uf.toNat ub)).getD ur.toNat 0).toNat ub).l.getD i 0)]) (hv2:=(by simp only [Conj];(repeat' apply jo)<;>first | trivial | rfl | exact Qs _ _ | exact Q5u _ _ _ _))
   ·exact Q4 (vy g) (uf,un) ((uf+(1:Int),uw)) (by dsimp only [vy];have q:=uc h3;omega) (by dsimp only [vy];have q:=uc h3;have q5:=ud h5;refine ⟨by omega,by omega,?_⟩;rw [hJ4.2.2,Qgm (by omega),show (uf+1).toNat=uf.toNat+1 by omega]) (vc:=[Fits ja (uf+(1:Int))]) (hv:=W39)
  ·exact Q2 [0,2] [0,1] [(aheadL g.nodes).length=un.length,∀ (i:Nat),i<(aheadL g.nodes).length→((aheadL g.nodes).getD i ub).tc=(un.getD i ub).tc] (by simp only [Conj];have q:=ud h3;have e:uf.toNat=g.nodes.length:=(by omega);rw [hJ2.2.2,e];exact ⟨rfl,fun _ _=>rfl⟩)
theorem Qfk (n:Nod):Ctr jb 127 [] [.agg n.cs]
 (Det (.c (.h 0)) [IntOwn (flrL n)]):=by
 refine Ctr.intro [] Tryz.func127 K K ?_
 refine Q0 (decide (n.kind=(9:Int))) (fun h1=>?_) (fun h1=>?_)
 ·rw [Qdj h1]
  exact Q2 [1000000] [0] [(0:Nat)=0] W51
 ·refine tz [4,2,1] ?_
  refine Q0 (decide (n.kind=(8:Int))) (fun h2=>?_) (fun h2=>?_)
  ·rw [Qdk h1 h2]
   exact Q2 [1] [0,1] (zbG n) W51
  ·rw [Qdl h1 h2]
   exact Q2 [1] [0,1,2] (zbI n) W51
theorem Q4s (l:List Int) (v:Vl) (hl:l.length≤2):Ctr jb 147 [zaU,IntOwn l] [.agg v.cs,.c (.p 0 0)]
 (Det (.tup []) [Reg.box 49 [.h 2],.dead,IntOwn (l++vlL v)]):=by
 refine Ctr.intro [] Tryz.func147 K K ?_
 refine Q0 (v.slotted) (fun h1=>?_) (fun h1=>?_)
 ·rw [Qob h1]
  exact Yh [0,1,4] [0,1,2] [(l++[v.slot]).length=l.length+1,∀ (i:Nat),i<(l++[v.slot]).length→i≠l.length→i64T ((l++[v.slot]).getD i 0)=zc0 l i,i64T ((l++[v.slot]).getD l.length 0) 0=TC.val (jg ja v.slot)] (by simp only [Conj]<;>(repeat' apply jo)<;>first | rfl | trivial | exact Qs _ _ | (intros;first | rfl | trivial) | (intro i h1 h2;rw [Qu h1 h2]) | (rw [Qj];rfl)) (vc:=[l.length+1≤maxLen,(l.length+1) * 8≤140737488355328]) (hv:=W32)
 ·rw [Qq7 l h1]
  exact Yh [0,1,1]
abbrev zY:Reg:=Reg.box 49 [C.h 2]
abbrev zal:En:=se 4 (C.fn 147 false [1])
abbrev zau:En:=se 3 (C.p 1 0)
abbrev za4:En:=se 1 (C.p 0 0)
def C131 (n:Nod):St:=St.mk 31 [se 7 (C.i jl n.kind),zal,zau,za4] [Reg.box 101 n.cs,zY,IntOwn []] []
abbrev zU:Reg:=Reg.own 3 1 0 (fun i=>i64T ([].getD i 0)) none
theorem Q8m (n:Nod) (hk:1≤n.kind∧n.kind≤9):Ctr jb 131 [] [.agg n.cs]
 (Det (.c (.h 0)) [IntOwn (useL n)]):=by
 refine Ctr.intro [] Tryz.func131 K K ?_
 refine RunF.cutn 4 (fun _:Unit=>C131 n) (fun _=>True) ?_ ?_
 ·exact tTo (fun xUnit=>C131 n) (fun xUnit=>True) () trivial [0,1,1000002] [13] [(0:Nat)=0] W8
 ·rintro ⟨⟩ hCC131
  rcases (show n.kind=(1:Int)∨n.kind=(2:Int)∨n.kind=(3:Int)∨n.kind=(4:Int)∨n.kind=(5:Int)∨n.kind=(6:Int)∨n.kind=(7:Int)∨n.kind=(8:Int)∨n.kind=(9:Int) from W29) with hs1 | hs1 | hs1 | hs1 | hs1 | hs1 | hs1 | hs1 | hs1
  ·refine tWk (St.mk 31 [se 7 (C.i .u8 1),zal,zau,za4] [Reg.box 101 [C.i .u8 1,C.i .u8 n.op,C.i .i64 n.slot,C.i .i64 n.thing,C.b n.a.slotted,C.i .i64 n.a.slot,C.i .i64 n.a.word,C.b n.b.slotted,C.i .i64 n.b.slot,C.i .i64 n.b.word,C.i .i64 n.next,C.i .i64 n.els,C.i .i64 n.origin],zY,zU] []) ?_ [] [0,15] [(1:Int)=n.kind,(1:Int)=n.kind] W35
   refine tz [7,4,3,1] ?_
   refine Q0 (decide ((1:Int)=(1:Int))) (fun h2=>?_) (fun h2=>?_)
   ·refine tz [4,3,1] ?_
    refine Q3 Yn (Q4s [] n.a W151) [1,2] ?_ [0] [(0:Nat)=0] W8
    refine tz [4,3,1] ?_
    refine Q3 Y2 (Zz n.op) [] ?_
    refine tz [16,4,3,1] ?_
    refine Q0 (twoB n.op) (fun h3=>?_) (fun h3=>?_)
    ·refine tz [4,3,1] ?_
     refine Q3 Yn (Q4s ([]++vlL n.a) n.b W151) [1,3] ?_
     exact Q2 [4] [0,1] [(useL n).length=([]++vlL n.a++vlL n.b).length,∀ (i:Nat),i<(useL n).length→i64T ((useL n).getD i 0)=i64T (([]++vlL n.a++vlL n.b).getD i 0)] W54
    ·exact Q2 [3] [0,1] [(useL n).length=([]++vlL n.a).length,∀ (i:Nat),i<(useL n).length→i64T ((useL n).getD i 0)=i64T (([]++vlL n.a).getD i 0)] W54
   ·exact absurd h2 W79
  ·refine tWk (St.mk 31 [se 7 (C.i .u8 2),zal,zau,za4] [Reg.box 101 [C.i .u8 2,C.i .u8 n.op,C.i .i64 n.slot,C.i .i64 n.thing,C.b n.a.slotted,C.i .i64 n.a.slot,C.i .i64 n.a.word,C.b n.b.slotted,C.i .i64 n.b.slot,C.i .i64 n.b.word,C.i .i64 n.next,C.i .i64 n.els,C.i .i64 n.origin],zY,zU] []) ?_ [] [0,15] [(2:Int)=n.kind,(2:Int)=n.kind] W35
   refine tz [7,4,3,1] ?_
   refine Q0 (decide ((2:Int)=(1:Int))) (fun h2=>?_) (fun h2=>?_)
   ·exact absurd h2 W79
   ·refine tz [7,4,3,1] ?_
    refine Q0 (decide ((2:Int)=(3:Int))) (fun h3=>?_) (fun h3=>?_)
    ·exact absurd h3 W79
    ·refine tz [21,7,4,3,1] ?_
     refine Q0 (decide ((2:Int)=(4:Int))) (fun h4=>?_) (fun h4=>?_)
     ·exact absurd h4 W79
     ·refine tz [21,7,4,3,1] ?_
      refine Q0 (decide ((2:Int)=(7:Int))) (fun h5=>?_) (fun h5=>?_)
      ·exact absurd h5 W79
      ·refine tz [21,7,4,3,1] ?_
       refine Q0 (decide ((2:Int)=(8:Int))) (fun h6=>?_) (fun h6=>?_)
       ·exact absurd h6 W79
       ·exact Q2 [2] [0,1] [(useL n).length=0,∀ (i:Nat),i<(useL n).length→i64T ((useL n).getD i 0)=i64T ([].getD i 0)] W54
  ·refine tWk (St.mk 31 [se 7 (C.i .u8 3),zal,zau,za4] [Reg.box 101 [C.i .u8 3,C.i .u8 n.op,C.i .i64 n.slot,C.i .i64 n.thing,C.b n.a.slotted,C.i .i64 n.a.slot,C.i .i64 n.a.word,C.b n.b.slotted,C.i .i64 n.b.slot,C.i .i64 n.b.word,C.i .i64 n.next,C.i .i64 n.els,C.i .i64 n.origin],zY,zU] []) ?_ [] [0,15] [(3:Int)=n.kind,(3:Int)=n.kind] W35
   refine tz [7,4,3,1] ?_
   refine Q0 (decide ((3:Int)=(1:Int))) (fun h2=>?_) (fun h2=>?_)
   ·exact absurd h2 W79
   ·refine tz [7,4,3,1] ?_
    refine Q0 (decide ((3:Int)=(3:Int))) (fun h3=>?_) (fun h3=>?_)
    ·refine tz [21,4,3,1] ?_
     refine Q3 Yn (Q4s [] n.a W151) [1,2] ?_ [0] [(0:Nat)=0] W8
     exact Q2 [3] [0,1] [(useL n).length=([]++vlL n.a).length,∀ (i:Nat),i<(useL n).length→i64T ((useL n).getD i 0)=i64T (([]++vlL n.a).getD i 0)] W54
    ·exact absurd h3 W79
  ·refine tWk (St.mk 31 [se 7 (C.i .u8 4),zal,zau,za4] [Reg.box 101 [C.i .u8 4,C.i .u8 n.op,C.i .i64 n.slot,C.i .i64 n.thing,C.b n.a.slotted,C.i .i64 n.a.slot,C.i .i64 n.a.word,C.b n.b.slotted,C.i .i64 n.b.slot,C.i .i64 n.b.word,C.i .i64 n.next,C.i .i64 n.els,C.i .i64 n.origin],zY,zU] []) ?_ [] [0,15] [(4:Int)=n.kind,(4:Int)=n.kind] W35
   refine tz [7,4,3,1] ?_
   refine Q0 (decide ((4:Int)=(1:Int))) (fun h2=>?_) (fun h2=>?_)
   ·exact absurd h2 W79
   ·refine tz [7,4,3,1] ?_
    refine Q0 (decide ((4:Int)=(3:Int))) (fun h3=>?_) (fun h3=>?_)
    ·exact absurd h3 W79
    ·refine tz [21,7,4,3,1] ?_
     refine Q0 (decide ((4:Int)=(4:Int))) (fun h4=>?_) (fun h4=>?_)
     ·refine tz [21,4,3,1] ?_
      refine Q3 Yn (Q4s [] n.a W151) [1,2] ?_ [0] [(0:Nat)=0] W8
      exact Q2 [3] [0,1] [(useL n).length=([]++vlL n.a).length,∀ (i:Nat),i<(useL n).length→i64T ((useL n).getD i 0)=i64T (([]++vlL n.a).getD i 0)] W54
     ·exact absurd h4 W79
  ·refine tWk (St.mk 31 [se 7 (C.i .u8 5),zal,zau,za4] [Reg.box 101 [C.i .u8 5,C.i .u8 n.op,C.i .i64 n.slot,C.i .i64 n.thing,C.b n.a.slotted,C.i .i64 n.a.slot,C.i .i64 n.a.word,C.b n.b.slotted,C.i .i64 n.b.slot,C.i .i64 n.b.word,C.i .i64 n.next,C.i .i64 n.els,C.i .i64 n.origin],zY,zU] []) ?_ [] [0,15] [(5:Int)=n.kind,(5:Int)=n.kind] W35
   refine tz [7,4,3,1] ?_
   refine Q0 (decide ((5:Int)=(1:Int))) (fun h2=>?_) (fun h2=>?_)
   ·exact absurd h2 W79
   ·refine tz [7,4,3,1] ?_
    refine Q0 (decide ((5:Int)=(3:Int))) (fun h3=>?_) (fun h3=>?_)
    ·exact absurd h3 W79
    ·refine tz [21,7,4,3,1] ?_
     refine Q0 (decide ((5:Int)=(4:Int))) (fun h4=>?_) (fun h4=>?_)
     ·exact absurd h4 W79
     ·refine tz [21,7,4,3,1] ?_
      refine Q0 (decide ((5:Int)=(7:Int))) (fun h5=>?_) (fun h5=>?_)
      ·exact absurd h5 W79
      ·refine tz [21,7,4,3,1] ?_
       refine Q0 (decide ((5:Int)=(8:Int))) (fun h6=>?_) (fun h6=>?_)
       ·exact absurd h6 W79
       ·exact Q2 [2] [0,1] [(useL n).length=0,∀ (i:Nat),i<(useL n).length→i64T ((useL n).getD i 0)=i64T ([].getD i 0)] W54
  ·refine tWk (St.mk 31 [se 7 (C.i .u8 6),zal,zau,za4] [Reg.box 101 [C.i .u8 6,C.i .u8 n.op,C.i .i64 n.slot,C.i .i64 n.thing,C.b n.a.slotted,C.i .i64 n.a.slot,C.i .i64 n.a.word,C.b n.b.slotted,C.i .i64 n.b.slot,C.i .i64 n.b.word,C.i .i64 n.next,C.i .i64 n.els,C.i .i64 n.origin],zY,zU] []) ?_ [] [0,15] [(6:Int)=n.kind,(6:Int)=n.kind] W35
   refine tz [7,4,3,1] ?_
   refine Q0 (decide ((6:Int)=(1:Int))) (fun h2=>?_) (fun h2=>?_)
   ·exact absurd h2 W79
   ·refine tz [7,4,3,1] ?_
    refine Q0 (decide ((6:Int)=(3:Int))) (fun h3=>?_) (fun h3=>?_)
    ·exact absurd h3 W79
    ·refine tz [21,7,4,3,1] ?_
     refine Q0 (decide ((6:Int)=(4:Int))) (fun h4=>?_) (fun h4=>?_)
     ·exact absurd h4 W79
     ·refine tz [21,7,4,3,1] ?_
      refine Q0 (decide ((6:Int)=(7:Int))) (fun h5=>?_) (fun h5=>?_)
      ·exact absurd h5 W79
      ·refine tz [21,7,4,3,1] ?_
       refine Q0 (decide ((6:Int)=(8:Int))) (fun h6=>?_) (fun h6=>?_)
       ·exact absurd h6 W79
       ·exact Q2 [2] [0,1] [(useL n).length=0,∀ (i:Nat),i<(useL n).length→i64T ((useL n).getD i 0)=i64T ([].getD i 0)] W54
  ·refine tWk (St.mk 31 [se 7 (C.i .u8 7),zal,zau,za4] [Reg.box 101 [C.i .u8 7,C.i .u8 n.op,C.i .i64 n.slot,C.i .i64 n.thing,C.b n.a.slotted,C.i .i64 n.a.slot,C.i .i64 n.a.word,C.b n.b.slotted,C.i .i64 n.b.slot,C.i .i64 n.b.word,C.i .i64 n.next,C.i .i64 n.els,C.i .i64 n.origin],zY,zU] []) ?_ [] [0,15] [(7:Int)=n.kind,(7:Int)=n.kind] W35
   refine tz [7,4,3,1] ?_
   refine Q0 (decide ((7:Int)=(1:Int))) (fun h2=>?_) (fun h2=>?_)
   ·exact absurd h2 W79
   ·refine tz [7,4,3,1] ?_
    refine Q0 (decide ((7:Int)=(3:Int))) (fun h3=>?_) (fun h3=>?_)
    ·exact absurd h3 W79
    ·refine tz [21,7,4,3,1] ?_
     refine Q0 (decide ((7:Int)=(4:Int))) (fun h4=>?_) (fun h4=>?_)
     ·exact absurd h4 W79
     ·refine tz [21,7,4,3,1] ?_
      refine Q0 (decide ((7:Int)=(7:Int))) (fun h5=>?_) (fun h5=>?_)
      ·refine tz [21,4,3,1] ?_
       refine Q3 Yn (Q4s [] n.a W151) [1,2] ?_ [0] [(0:Nat)=0] W8
       exact Q2 [3] [0,1] [(useL n).length=([]++vlL n.a).length,∀ (i:Nat),i<(useL n).length→i64T ((useL n).getD i 0)=i64T (([]++vlL n.a).getD i 0)] W54
      ·exact absurd h5 W79
  ·refine tWk (St.mk 31 [se 7 (C.i .u8 8),zal,zau,za4] [Reg.box 101 [C.i .u8 8,C.i .u8 n.op,C.i .i64 n.slot,C.i .i64 n.thing,C.b n.a.slotted,C.i .i64 n.a.slot,C.i .i64 n.a.word,C.b n.b.slotted,C.i .i64 n.b.slot,C.i .i64 n.b.word,C.i .i64 n.next,C.i .i64 n.els,C.i .i64 n.origin],zY,zU] []) ?_ [] [0,15] [(8:Int)=n.kind,(8:Int)=n.kind] W35
   refine tz [7,4,3,1] ?_
   refine Q0 (decide ((8:Int)=(1:Int))) (fun h2=>?_) (fun h2=>?_)
   ·exact absurd h2 W79
   ·refine tz [7,4,3,1] ?_
    refine Q0 (decide ((8:Int)=(3:Int))) (fun h3=>?_) (fun h3=>?_)
    ·exact absurd h3 W79
    ·refine tz [21,7,4,3,1] ?_
     refine Q0 (decide ((8:Int)=(4:Int))) (fun h4=>?_) (fun h4=>?_)
     ·exact absurd h4 W79
     ·refine tz [21,7,4,3,1] ?_
      refine Q0 (decide ((8:Int)=(7:Int))) (fun h5=>?_) (fun h5=>?_)
      ·exact absurd h5 W79
      ·refine tz [21,7,4,3,1] ?_
       refine Q0 (decide ((8:Int)=(8:Int))) (fun h6=>?_) (fun h6=>?_)
       ·refine tz [4,3,1] ?_
        refine Q3 Yn (Q4s [] n.a W151) [1,2] ?_ [0] [(0:Nat)=0] W8
        exact Q2 [3] [0,1] [(useL n).length=([]++vlL n.a).length,∀ (i:Nat),i<(useL n).length→i64T ((useL n).getD i 0)=i64T (([]++vlL n.a).getD i 0)] W54
       ·exact absurd h6 W79
  ·refine tWk (St.mk 31 [se 7 (C.i .u8 9),zal,zau,za4] [Reg.box 101 [C.i .u8 9,C.i .u8 n.op,C.i .i64 n.slot,C.i .i64 n.thing,C.b n.a.slotted,C.i .i64 n.a.slot,C.i .i64 n.a.word,C.b n.b.slotted,C.i .i64 n.b.slot,C.i .i64 n.b.word,C.i .i64 n.next,C.i .i64 n.els,C.i .i64 n.origin],zY,zU] []) ?_ [] [0,15] [(9:Int)=n.kind,(9:Int)=n.kind] W35
   refine tz [7,4,3,1] ?_
   refine Q0 (decide ((9:Int)=(1:Int))) (fun h2=>?_) (fun h2=>?_)
   ·exact absurd h2 W79
   ·refine tz [7,4,3,1] ?_
    refine Q0 (decide ((9:Int)=(3:Int))) (fun h3=>?_) (fun h3=>?_)
    ·exact absurd h3 W79
    ·refine tz [21,7,4,3,1] ?_
     refine Q0 (decide ((9:Int)=(4:Int))) (fun h4=>?_) (fun h4=>?_)
     ·exact absurd h4 W79
     ·refine tz [21,7,4,3,1] ?_
      refine Q0 (decide ((9:Int)=(7:Int))) (fun h5=>?_) (fun h5=>?_)
      ·exact absurd h5 W79
      ·refine tz [21,7,4,3,1] ?_
       refine Q0 (decide ((9:Int)=(8:Int))) (fun h6=>?_) (fun h6=>?_)
       ·exact absurd h6 W79
       ·exact Q2 [2] [0,1] [(useL n).length=0,∀ (i:Nat),i<(useL n).length→i64T ((useL n).getD i 0)=i64T ([].getD i 0)] W54
abbrev zaF (y0:Nat → Int):Reg:=Reg.box 192 ((jD 65).map fun j=>C.i .u64 (y0 j))
abbrev zbM:List Nat:=(jD 65)
abbrev zbN (y0:Int):List Prop:=[(64:Int)≠(0:Int),Fits ja (y0.tdiv (64:Int)),(0:Int)≤y0.tdiv (64:Int),y0.tdiv (64:Int)<(65:Int),(y0.tdiv (64:Int)).toNat<65,(64:Int)≠(0:Int),(0:Int)≤y0.tmod (64:Int),(0:Int)≤y0.tdiv (64:Int),y0.tdiv (64:Int)<(65:Int),(y0.tdiv (64:Int)).toNat<65]
abbrev zc8:List Nat:=(zbM.map fun j65:Nat=>j65)
theorem Qhn (w:Nat→Int) (k:Int) (hk:0≤k∧k<4160):Ctr jb 132 [zaF w] [.c (.p 0 0),zbK k]
 (Det (.tup []) [Reg.box 192 (zbM.map fun j=>C.i .u64 (addW w k j))]):=by
 refine Ctr.intro [] Tryz.func132 K K ?_
 exact Yh [] zc8 (zbM.map fun j65:Nat=>addW w k j65=if (k.tdiv (64:Int)).toNat=j65 then bits ku jJ ((zbM.map fun j65:Nat=>w j65).getD (k.tdiv (64:Int)).toNat (0:Int)) (shlI jJ (1:Int) (k.tmod (64:Int))) else w j65) (Q2o fun j hj=>by unfold addW;rw [Q8a w (show (k.tdiv 64).toNat<65 by have z:=kN (b:=64) hk.1;omega)]) (vc:=(zbN k)) (hv:=W83)
theorem Qp4 (w:Nat→Int) (k:Int) (hk:0≤k∧k<4160):Ctr jb 130 [zaF w] [.c (.p 0 0),zbK k]
 (Det (.tup []) [Reg.box 192 (zbM.map fun j=>C.i .u64 (takeW w k j))]):=by
 refine Ctr.intro [] Tryz.func130 K K ?_
 exact Yh [] zc8 (zbM.map fun j65:Nat=>takeW w k j65=if (k.tdiv (64:Int)).toNat=j65 then bits BinOp.andNot jJ ((zbM.map fun j65:Nat=>w j65).getD (k.tdiv (64:Int)).toNat (0:Int)) (shlI jJ (1:Int) (k.tmod (64:Int))) else w j65) (Q2o fun j hj=>by unfold takeW;rw [Q8a w (show (k.tdiv 64).toNat<65 by have z:=kN (b:=64) hk.1;omega)]) (vc:=(zbN k)) (hv:=W83)
theorem Qc5 (W:Nat→Nat→Int) (n ix:Nat) (k:Int) (hk:0≤k∧k<4160) (hi:ix<n):Ctr jb 151 [Reg.row 65 n (fun i=>wsT (W i)) none] [.c (.e 0 65 ix 0),zbK k]
 (Det (.c (.b (hasW (W ix) k))) [.dead]):=by
 refine Ctr.intro [] Tryz.func151 K K ?_
 refine Y4 0 (ix) ?_ (vc:=[ix<n]) (hv:=W83)
 exact Q2 [] [0] [hasW (W ix) k=decide (bits jx jJ (shrI jJ ((zbM.map fun j65:Nat=>W ix j65).getD (k.tdiv (64:Int)).toNat (0:Int)) (k.tmod (64:Int))) (1:Int)=(1:Int))] (by simp only [Conj];first | (rw [Q8a (W ix) (show (k.tdiv 64).toNat<65 by have z:=kN (b:=64) hk.1;omega)];rfl) | exact ⟨by first | (intros;first | trivial | rfl) | trivial,by rw [Q8a (W ix) (show (k.tdiv 64).toNat<65 by have z:=kN (b:=64) hk.1;omega)];rfl⟩) (vc:=[(64:Int)≠(0:Int),Fits ja (k.tdiv (64:Int)),(0:Int)≤k.tdiv (64:Int),k.tdiv (64:Int)<(65:Int),(k.tdiv (64:Int)).toNat<65,ix=ix,(64:Int)≠(0:Int),(0:Int)≤k.tmod (64:Int)]) (hv:=W83)
abbrev zaO:En:=se 0 (C.p 0 0)
def vA (w:Nat→Int) (W:Nat→Nat→Int) (n:Nat) (ix:Nat):Lp (Int):=⟨fun x=>St.mk 23 [zaZ x,se 6 (C.e 1 65 ix 0),zaO] [Reg.box 192 (zbM.map fun j=>C.i .u64 (joinW w (W ix) x.toNat j)),Reg.row 65 n (fun i=>wsT (W i)) (some (ix,(zbM.map fun j=>C.i .u64 (W ix j))))] [],fun x=>0≤x∧x≤65,fun x=>(65-x).toNat⟩
theorem Qp5 (w:Nat→Int) (W:Nat→Nat→Int) (n ix:Nat) (hi:ix<n):Ctr jb 128 [zaF w,Reg.row 65 n (fun i=>wsT (W i)) none] [.c (.p 0 0),.c (.e 1 65 ix 0)]
 (Det (.tup []) [Reg.box 192 (zbM.map fun j=>C.i .u64 (joinW w (W ix) 65 j)),.dead]):=by
 refine Ctr.intro [] Tryz.func128 K K ?_
 refine Y4 1 (ix) ?_ (vc:=[ix<n]) (hv:=W140)
 refine Q7 (vA w W n ix) ((0:Int)) (⟨jE _,by decide⟩) ?_ [] zc8 (zbM.map fun j65:Nat=>joinW w (W ix) 0 j65=w j65) W65
 rintro ue hJ1
 dsimp only [vA] at hJ1
 refine tz [7,6,0] ?_
 refine Q0 (decide (ue<(65:Int))) (fun h2=>?_) (fun h2=>?_)
 ·exact Q4 (vA w W n ix) ue (ue+(1:Int)) (by dsimp only [vA];have q:=uc h2;omega) (by dsimp only [vA];have q:=uc h2;have z:=hJ1.1;omega) [] zc8 (zbM.map fun j65:Nat=>joinW w (W ix) (ue+(1:Int)).toNat j65=if ue.toNat=j65 then bits ku jJ ((zbM.map fun j65:Nat=>joinW w (W ix) ue.toNat j65).getD ue.toNat 0) ((zbM.map fun j65:Nat=>W ix j65).getD ue.toNat 0) else joinW w (W ix) ue.toNat j65) W65 (vc:=[(0:Int)≤ue,ue<(65:Int),ue.toNat<65,ix=ix,(0:Int)≤ue,ue<(65:Int),ue.toNat<65,(0:Int)≤ue,ue<(65:Int),ue.toNat<65,Fits ja (ue+(1:Int))]) (hv:=W140)
 ·exact Yh [] zc8 (zbM.map fun j65:Nat=>joinW w (W ix) 65 j65=joinW w (W ix) ue.toNat j65) W65
abbrev zN (y0:Grf):Reg:=Reg.box 189 [C.v (jG y0.name),C.i .i64 y0.locals,C.i .i64 y0.slots,C.h 0,C.h 3,C.h 4,C.h 5]
abbrev zah:En:=se 2 (C.v (Value.pointer none))
abbrev zaD (y0:Grf):En:=se 3 (C.i .i64 (y0.nodes.length:Int))
abbrev zaG:En:=se 4 (C.p 2 0)
def vM (g:Grf):Lp (Bool×WW×WW):=⟨fun x=>St.mk 109 [se 5 (C.b x.1),zaa,zah,zaD g,zaG] [zV g,ze g,zN g,za2 g,(SETS 192 g.nodes.length x.2.1),(SETS 192 g.nodes.length x.2.2)] [],fun x=>LvW g.nodes x.2.1∧(x.1=false→LvFix g.nodes x.2.1 x.2.2 0),fun x=>if x.1=true then 1+lvM g.nodes x.2.1 else 0⟩
def uY (g:Grf) (uj:WW):Lp (Int×Bool×WW×WW):=⟨fun x=>St.mk 109 [se 6 (C.i .i64 x.1),se 5 (C.b x.2.1),zaa,zah,zaD g,zaG] [zV g,ze g,zN g,za2 g,(SETS 192 g.nodes.length x.2.2.1),(SETS 192 g.nodes.length x.2.2.2)] [],fun x=>LvS g.nodes uj x.1 x.2.1 x.2.2.1 x.2.2.2,fun x=>(x.1+1).toNat⟩
def vN (g:Grf) (ui:Int) (uq:Bool) (ut:WW) (uA:WW):Lp (Int):=⟨fun x=>St.mk 109 [se 46 (C.i .i64 x),En.mk 45 [] (SV.c (C.i .i64 ((flrL (g.nodes.getD ui.toNat ub)).length:Int))),se 44 (C.h 7),se 7 (C.p 6 0),se 6 (C.i .i64 ui),se 5 (C.b uq),zaa,zah,zaD g,zaG] [zV g,ze g,zN g,za2 g,(SETS 192 g.nodes.length ut),(SETS 192 g.nodes.length uA),Reg.box 192 ((jD 65).map fun j=>C.i .u64 (joF ut (flrL (g.nodes.getD ui.toNat ub)) x.toNat j)),IntOwn (flrL (g.nodes.getD ui.toNat ub))] [],fun x=>0≤x∧x≤((flrL (g.nodes.getD ui.toNat ub)).length:Int),fun x=>(((flrL (g.nodes.getD ui.toNat ub)).length:Int)-x).toNat⟩
def uZ (g:Grf) (ui:Int) (uq:Bool) (ut:WW) (uA:WW):Lp (Int):=⟨fun x=>St.mk 109 [se 85 (C.i .i64 x),En.mk 84 [] (SV.c (C.i .i64 ((useL (g.nodes.getD ui.toNat ub)).length:Int))),se 83 (C.h 8),se 7 (C.p 6 0),se 6 (C.i .i64 ui),se 5 (C.b uq),zaa,zah,zaD g,zaG] [zV g,ze g,zN g,za2 g,(SETS 192 g.nodes.length ut),(SETS 192 g.nodes.length (putW uA ui.toNat (beF g.nodes ut ui.toNat))),Reg.box 192 ((jD 65).map fun j=>C.i .u64 (adF (useL (g.nodes.getD ui.toNat ub)) (dfF (g.nodes.getD ui.toNat ub) (beF g.nodes ut ui.toNat)) x.toNat j)),IntOwn (flrL (g.nodes.getD ui.toNat ub)),IntOwn (useL (g.nodes.getD ui.toNat ub))] [],fun x=>0≤x∧x≤((useL (g.nodes.getD ui.toNat ub)).length:Int),fun x=>(((useL (g.nodes.getD ui.toNat ub)).length:Int)-x).toNat⟩
abbrev zt (y0:Grf):Reg:=Reg.own 192 65 y0.nodes.length (fun x j=>valT (jf 65 (jg jJ (0:Int))) j) none
abbrev zay (y0:Grf):En:=se 3 (C.i .i64 (↑y0.nodes.length:Int))
abbrev zP (y0:Grf):List En:=[se 4 (C.p 5 0),zay y0,zah,zaa]
abbrev zao (y0:Grf):Reg:=Reg.box 189 [C.v (jG y0.name),C.i .i64 y0.locals,C.i .i64 y0.slots,C.h 0,C.h 3,C.h 2,C.h 4]
abbrev zap (y0:Grf):Reg:=Reg.box 189 [C.v (jG y0.name),C.i .i64 y0.locals,C.i .i64 y0.slots,C.h 0,C.h 3,C.h 4,C.h 2]
theorem Qn7 (g:Grf) (hq:zC g) (hN:1≤g.nodes.length∧g.nodes.length≤4096) (hk:zI g) (hS:SlH g.nodes):Ctr jb 97 [zV g] [.agg (g.cs 0)]
 (DetE (fun y:WW×WW=>LvQ g.nodes y.1 y.2) (fun _=>.c (.p 1 0)) (fun y=>[.dead,Reg.box 189 [C.v (jG g.name),C.i .i64 g.locals,C.i .i64 g.slots,C.h 0,C.h 2,C.h 3,C.h 4],za2 g,(SETS 192 g.nodes.length y.1),(SETS 192 g.nodes.length y.2)])):=by
 refine Ctr.intro [] Tryz.func97 K K ?_
 refine Q0a 3 (fun _:Unit=>St.mk 109 [zaa,zah,zay g,zaG] [rowOf 13 (·.tc) g.nodes,ze g,zN g,ownOf 4 1 (·.tc) (rchL g.nodes),zt g,zt g] []) (fun _=>True) ?_ ?_
 ·refine ⟨⟨⟨trivial,?_⟩,?_⟩,?_⟩
  ·refine Q3 Qw (Yd g W16 W16 W16) [] ?_
   refine tz [17,20,18,16,15,3,2,1] ?_
   refine Ql1 2 [[],[(0:Int)≤(↑g.nodes.length:Int),(↑g.nodes.length:Int)≤(↑g.nodes.length:Int),(↑g.nodes.length:Int) * (520:Int)≤(140737488355328:Int),(↑g.nodes.length:Int)≤(↑maxLen:Int),(0:Int)≤(↑g.nodes.length:Int),(↑g.nodes.length:Int)≤(↑g.nodes.length:Int),(↑g.nodes.length:Int) * (520:Int)≤(140737488355328:Int),(↑g.nodes.length:Int)≤(↑maxLen:Int)]] [0,0,0,1,1,1,1] ?_ (by simp only [flatP,List.cons_append,List.nil_append,Conj,Fits,Q8,Q9,Qa,Qb,News.len,maxLen]<;>(repeat' (first | apply jo | intro _))<;>first | rfl | (have q:=uc h4;have z:=hJ3.hi;have z1:=Qm g.nodes;have q7:=uc h7;have y7:=hJ6.1;have z2:=hq ui.toNat (by omega) _ ((Jw _ _).1 (Y1 q7 hJ6.1));have z3:=Gz (g.nodes.getD ui.toNat ub);(try simp only [maxLen] at *);omega) | (have q:=uc h4;have z:=hJ3.hi;have z1:=Qm g.nodes;have q10:=uc h10;have y10:=hJ9.1;have z4:=Q2n (g.nodes.getD ui.toNat ub);(try simp only [maxLen] at *);omega) | (have q:=uc h4;have z:=hJ3.hi;have z1:=Qm g.nodes;have z3:=Gz (g.nodes.getD ui.toNat ub);have z4:=Q2n (g.nodes.getD ui.toNat ub);(try simp only [maxLen] at *);omega) | (have z1:=Qm g.nodes;(try simp only [maxLen] at *);omega) | grind | (simp only [BL] at *;omega))
   exact tTo (fun x=>St.mk 109 [zaa,zah,zay g,zaG] [rowOf 13 (·.tc) g.nodes,ze g,zN g,ownOf 4 1 (·.tc) (rchL g.nodes),zt g,zt g] []) (fun x=>True) () trivial [] [11,13] [∀ (i:Nat),i<g.nodes.length→(fun j=>valT (jf 65 (jg jJ (0:Int))) j)=fun j=>valT (jf 65 (jg jJ (0:Int))) j,∀ (i:Nat),i<g.nodes.length→(fun j=>valT (jf 65 (jg jJ (0:Int))) j)=fun j=>valT (jf 65 (jg jJ (0:Int))) j] ⟨fun _ _=>rfl,fun _ _=>rfl⟩
  ·refine Q0a 2 (fun _:Unit=>St.mk 109 (zP g) [rowOf 13 (·.tc) g.nodes,ze g,zt g,ownOf 4 1 (·.tc) (rchL g.nodes),zt g,zao g] []) (fun _=>True) ?_ ?_ (vc:=[(0:Int)≤(↑g.nodes.length:Int),(↑g.nodes.length:Int)≤(↑g.nodes.length:Int),(↑g.nodes.length:Int) * (520:Int)≤(140737488355328:Int),(↑g.nodes.length:Int)≤(↑maxLen:Int),(0:Int)≤(↑g.nodes.length:Int),(↑g.nodes.length:Int)≤(↑g.nodes.length:Int),(↑g.nodes.length:Int) * (520:Int)≤(140737488355328:Int),(↑g.nodes.length:Int)≤(↑maxLen:Int)]) (hv:=W6)
   ·refine ⟨⟨trivial,?_⟩,?_⟩
    ·refine Q3 Qw (Yd g W16 W16 W16) [] ?_
     exact tTo (fun x=>St.mk 109 (zP g) [rowOf 13 (·.tc) g.nodes,ze g,zt g,ownOf 4 1 (·.tc) (rchL g.nodes),zt g,zao g] []) (fun x=>True) () trivial [] [6,10] [∀ (i:Nat),i<g.nodes.length→(fun j=>valT (jf 65 (jg jJ (0:Int))) j)=fun j=>valT (jf 65 (jg jJ (0:Int))) j,∀ (i:Nat),i<g.nodes.length→(fun j=>valT (jf 65 (jg jJ (0:Int))) j)=fun j=>valT (jf 65 (jg jJ (0:Int))) j] ⟨fun _ _=>rfl,fun _ _=>rfl⟩ (vc:=[(0:Int)≤(↑g.nodes.length:Int),(↑g.nodes.length:Int)≤(↑g.nodes.length:Int),(↑g.nodes.length:Int) * (520:Int)≤(140737488355328:Int),(↑g.nodes.length:Int)≤(↑maxLen:Int),(0:Int)≤(↑g.nodes.length:Int),(↑g.nodes.length:Int)≤(↑g.nodes.length:Int),(↑g.nodes.length:Int) * (520:Int)≤(140737488355328:Int),(↑g.nodes.length:Int)≤(↑maxLen:Int)]) (hv:=W6)
    ·refine Q3 Qw (Yd g W16 W16 W16) [] ?_ (vc:=[(0:Int)≤(↑g.nodes.length:Int),(↑g.nodes.length:Int)≤(↑g.nodes.length:Int),(↑g.nodes.length:Int) * (520:Int)≤(140737488355328:Int),(↑g.nodes.length:Int)≤(↑maxLen:Int),(0:Int)≤(↑g.nodes.length:Int),(↑g.nodes.length:Int)≤(↑g.nodes.length:Int),(↑g.nodes.length:Int) * (520:Int)≤(140737488355328:Int),(↑g.nodes.length:Int)≤(↑maxLen:Int)]) (hv:=W6)
     exact tTo (fun x=>St.mk 109 (zP g) [rowOf 13 (·.tc) g.nodes,ze g,zt g,ownOf 4 1 (·.tc) (rchL g.nodes),zt g,zao g] []) (fun x=>True) () trivial [0,1,2,4,3,5] [6,10] [∀ (i:Nat),i<g.nodes.length→(fun j=>valT (jf 65 (jg jJ (0:Int))) j)=fun j=>valT (jf 65 (jg jJ (0:Int))) j,∀ (i:Nat),i<g.nodes.length→(fun j=>valT (jf 65 (jg jJ (0:Int))) j)=fun j=>valT (jf 65 (jg jJ (0:Int))) j] ⟨fun _ _=>rfl,fun _ _=>rfl⟩
   ·rintro ⟨⟩ _
    exact tTo (fun x=>St.mk 109 [zaa,zah,zay g,zaG] [rowOf 13 (·.tc) g.nodes,ze g,zN g,ownOf 4 1 (·.tc) (rchL g.nodes),zt g,zt g] []) (fun x=>True) () trivial [0,1,5,3,2,4] [11,13] [∀ (i:Nat),i<g.nodes.length→(fun j=>valT (jf 65 (jg jJ (0:Int))) j)=fun j=>valT (jf 65 (jg jJ (0:Int))) j,∀ (i:Nat),i<g.nodes.length→(fun j=>valT (jf 65 (jg jJ (0:Int))) j)=fun j=>valT (jf 65 (jg jJ (0:Int))) j] ⟨fun _ _=>rfl,fun _ _=>rfl⟩
  ·refine Q0a 2 (fun _:Unit=>St.mk 109 (zP g) [rowOf 13 (·.tc) g.nodes,ze g,zt g,ownOf 4 1 (·.tc) (rchL g.nodes),zt g,zap g] []) (fun _=>True) ?_ ?_ (vc:=[(0:Int)≤(↑g.nodes.length:Int),(↑g.nodes.length:Int)≤(↑g.nodes.length:Int),(↑g.nodes.length:Int) * (520:Int)≤(140737488355328:Int),(↑g.nodes.length:Int)≤(↑maxLen:Int),(0:Int)≤(↑g.nodes.length:Int),(↑g.nodes.length:Int)≤(↑g.nodes.length:Int),(↑g.nodes.length:Int) * (520:Int)≤(140737488355328:Int),(↑g.nodes.length:Int)≤(↑maxLen:Int)]) (hv:=W6)
   ·refine ⟨⟨trivial,?_⟩,?_⟩
    ·refine Q3 Qw (Yd g W16 W16 W16) [] ?_
     exact tTo (fun x=>St.mk 109 (zP g) [rowOf 13 (·.tc) g.nodes,ze g,zt g,ownOf 4 1 (·.tc) (rchL g.nodes),zt g,zap g] []) (fun x=>True) () trivial [] [6,10] [∀ (i:Nat),i<g.nodes.length→(fun j=>valT (jf 65 (jg jJ (0:Int))) j)=fun j=>valT (jf 65 (jg jJ (0:Int))) j,∀ (i:Nat),i<g.nodes.length→(fun j=>valT (jf 65 (jg jJ (0:Int))) j)=fun j=>valT (jf 65 (jg jJ (0:Int))) j] ⟨fun _ _=>rfl,fun _ _=>rfl⟩ (vc:=[(0:Int)≤(↑g.nodes.length:Int),(↑g.nodes.length:Int)≤(↑g.nodes.length:Int),(↑g.nodes.length:Int) * (520:Int)≤(140737488355328:Int),(↑g.nodes.length:Int)≤(↑maxLen:Int),(0:Int)≤(↑g.nodes.length:Int),(↑g.nodes.length:Int)≤(↑g.nodes.length:Int),(↑g.nodes.length:Int) * (520:Int)≤(140737488355328:Int),(↑g.nodes.length:Int)≤(↑maxLen:Int)]) (hv:=W6)
    ·refine Q3 Qw (Yd g W16 W16 W16) [] ?_ (vc:=[(0:Int)≤(↑g.nodes.length:Int),(↑g.nodes.length:Int)≤(↑g.nodes.length:Int),(↑g.nodes.length:Int) * (520:Int)≤(140737488355328:Int),(↑g.nodes.length:Int)≤(↑maxLen:Int),(0:Int)≤(↑g.nodes.length:Int),(↑g.nodes.length:Int)≤(↑g.nodes.length:Int),(↑g.nodes.length:Int) * (520:Int)≤(140737488355328:Int),(↑g.nodes.length:Int)≤(↑maxLen:Int)]) (hv:=W6)
     exact tTo (fun x=>St.mk 109 (zP g) [rowOf 13 (·.tc) g.nodes,ze g,zt g,ownOf 4 1 (·.tc) (rchL g.nodes),zt g,zap g] []) (fun x=>True) () trivial [0,1,2,4,3,5] [6,10] [∀ (i:Nat),i<g.nodes.length→(fun j=>valT (jf 65 (jg jJ (0:Int))) j)=fun j=>valT (jf 65 (jg jJ (0:Int))) j,∀ (i:Nat),i<g.nodes.length→(fun j=>valT (jf 65 (jg jJ (0:Int))) j)=fun j=>valT (jf 65 (jg jJ (0:Int))) j] ⟨fun _ _=>rfl,fun _ _=>rfl⟩
   ·rintro ⟨⟩ _
    exact tTo (fun x=>St.mk 109 [zaa,zah,zay g,zaG] [rowOf 13 (·.tc) g.nodes,ze g,zN g,ownOf 4 1 (·.tc) (rchL g.nodes),zt g,zt g] []) (fun x=>True) () trivial [0,1,5,3,4,2] [11,13] [∀ (i:Nat),i<g.nodes.length→(fun j=>valT (jf 65 (jg jJ (0:Int))) j)=fun j=>valT (jf 65 (jg jJ (0:Int))) j,∀ (i:Nat),i<g.nodes.length→(fun j=>valT (jf 65 (jg jJ (0:Int))) j)=fun j=>valT (jf 65 (jg jJ (0:Int))) j] ⟨fun _ _=>rfl,fun _ _=>rfl⟩
 ·rintro ⟨⟩ _
  refine tz [1,2,3,4] ?_
  refine Q7 (vM g) ((true,fun x x_1=>(0:Int),fun x x_1=>(0:Int))) (⟨LvW.start _,fun h=>absurd h W149⟩) ?_ [] [11,13] [∀ (i:Nat),i<g.nodes.length→(wsT fun x=>(0:Int))=fun j=>valT (jf 65 (jg jJ (0:Int))) j,∀ (i:Nat),i<g.nodes.length→(wsT fun x=>(0:Int))=fun j=>valT (jf 65 (jg jJ (0:Int))) j] W11
  rintro ⟨ue,uj,uh⟩ hJ1
  dsimp only [vM] at hJ1
  refine tz [5,1,2,3,4] ?_
  refine Q0 (ue) (fun h2=>?_) (fun h2=>?_)
  ·refine tz [5,1,2,3,4] ?_
   refine Q7 (uY g uj) (((↑g.nodes.length:Int)-(1:Int),false,uj,uh)) (LvS.start hJ1.1 _) ?_ (vc:=[Fits ja ((↑g.nodes.length:Int)-(1:Int))]) (hv:=W6)
   rintro ⟨ui,uq,ut,uA⟩ hJ3
   dsimp only [uY] at hJ3
   refine tz [6,5,1,2,3,4] ?_
   refine Q0 (decide ((0:Int)≤ui)) (fun h4=>?_) (fun h4=>?_)
   ·refine tz [6,5,1,2,3,4] ?_
    refine Q0 (!((rchL g.nodes).getD ui.toNat ub).b) (fun h5=>?_) (fun h5=>?_) (vc:=[(0:Int)≤ui,ui<(↑(rchL g.nodes).length:Int),ui.toNat<(rchL g.nodes).length]) (hv:=W6)
    ·exact Q4 (uY g uj) (ui,uq,ut,uA) ((ui-(1:Int),uq,ut,uA)) W154 W48 (vc:=[Fits ja (ui-(1:Int))]) (hv:=W6)
    ·refine tz [6,5,1,2,3,4] ?_
     refine Q3 Q80 (Qfk (g.nodes.getD ui.toNat ub)) [] ?_ (vc:=[(0:Int)≤ui,ui<(↑g.nodes.length:Int),ui.toNat<g.nodes.length]) (hv:=W6)
     refine tz [44,7,6,5,1,2,3,4] ?_
     refine Q7 (vN g ui uq ut uA) ((0:Int)) (⟨jE _,by omega⟩) ?_ [] ((jD 65).map fun j65:Nat=>(14+j65)) ((jD 65).map fun j65:Nat=>joF ut (flrL (g.nodes.getD ui.toNat ub)) 0 j65=(0:Int)) W11
     rintro uv hJ6
     dsimp only [vN] at hJ6
     refine tz [46,45,44,7,6,5,1,2,3,4] ?_
     refine Q0 (decide (uv<(↑(flrL (g.nodes.getD ui.toNat ub)).length:Int))) (fun h7=>?_) (fun h7=>?_)
     ·refine tz [46,45,44,7,6,5,1,2,3,4] ?_
      refine Q3 Q73 (Qp5 (joF ut (flrL (g.nodes.getD ui.toNat ub)) uv.toNat) ut g.nodes.length (((flrL (g.nodes.getD ui.toNat ub)).getD uv.toNat 0).toNat) W16) [6,4] ?_ (vc:=[(0:Int)≤uv,uv<(↑(flrL (g.nodes.getD ui.toNat ub)).length:Int),uv.toNat<(flrL (g.nodes.getD ui.toNat ub)).length,(0:Int)≤(flrL (g.nodes.getD ui.toNat ub)).getD uv.toNat 0,(flrL (g.nodes.getD ui.toNat ub)).getD uv.toNat 0<(↑g.nodes.length:Int)]) (hv:=W6)
      exact Q4 (vN g ui uq ut uA) uv (uv+(1:Int)) (by dsimp only [vN];have q:=uc h7;have z:=hJ6.1;omega) (by have q:=uc h7;have z:=hJ6.1;exact ⟨by omega,by omega⟩) [] ((jD 65).map fun j65:Nat=>(14+j65)) ((jD 65).map fun j65:Nat=>joF ut (flrL (g.nodes.getD ui.toNat ub)) (uv+(1:Int)).toNat j65=joinW (joF ut (flrL (g.nodes.getD ui.toNat ub)) uv.toNat) (ut ((flrL (g.nodes.getD ui.toNat ub)).getD uv.toNat 0).toNat) 65 j65) W11 (vc:=[Fits ja (uv+(1:Int))]) (hv:=W6)
     ·refine tz [46,45,44,7,6,5,1,2,3,4] ?_
      refine Q3 Gw (Q4d (g.nodes.getD ui.toNat ub)) [] ?_ (vc:=[(0:Int)≤ui,ui<(↑g.nodes.length:Int),ui.toNat<g.nodes.length,(0:Int)≤ui,ui<(↑g.nodes.length:Int),ui.toNat<g.nodes.length]) (hv:=W6)
      refine tz [70,7,6,5,1,2,3,4] ?_
      refine Q0 (decide ((g.nodes.getD ui.toNat ub).kind=(1:Int))||decide ((g.nodes.getD ui.toNat ub).kind=(2:Int))||decide ((g.nodes.getD ui.toNat ub).kind=(4:Int))) (fun h8=>?_) (fun h8=>?_)
      ·refine tz [7,6,5,1,2,3,4] ?_
       refine Q3 Q74 (Qp4 (joF ut (flrL (g.nodes.getD ui.toNat ub)) uv.toNat) ((g.nodes.getD ui.toNat ub).slot) W16) [6] ?_ (vc:=[(0:Int)≤ui,ui<(↑g.nodes.length:Int),ui.toNat<g.nodes.length]) (hv:=W6)
       refine tz [7,6,5,1,2,3,4] ?_
       refine Q3 Q15 (Q8m (g.nodes.getD ui.toNat ub) W16) [] ?_ (vc:=[(0:Int)≤ui,ui<(↑g.nodes.length:Int),ui.toNat<g.nodes.length]) (hv:=W6)
       refine tz [83,7,6,5,1,2,3,4] ?_
       refine Q7 (uZ g ui uq ut uA) ((0:Int)) (⟨jE _,by omega⟩) ?_ [] (((jD 65).map fun j65:Nat=>(13+j65))++([78])) (([∀ (i:Nat),i<g.nodes.length→wsT (putW uA ui.toNat (beF g.nodes ut ui.toNat) i)=updT (fun i=>wsT (uA i)) ui.toNat 0 ((jD 65).map fun j65:Nat=>jg jJ (joF ut (flrL (g.nodes.getD ui.toNat ub)) uv.toNat j65)) i])++((jD 65).map fun j65:Nat=>adF (useL (g.nodes.getD ui.toNat ub)) (dfF (g.nodes.getD ui.toNat ub) (beF g.nodes ut ui.toNat)) 0 j65=takeW (joF ut (flrL (g.nodes.getD ui.toNat ub)) uv.toNat) (g.nodes.getD ui.toNat ub).slot j65)) W11
       rintro um hJ9
       dsimp only [uZ] at hJ9
       refine tz [85,84,83,7,6,5,1,2,3,4] ?_
       refine Q0 (decide (um<(↑(useL (g.nodes.getD ui.toNat ub)).length:Int))) (fun h10=>?_) (fun h10=>?_)
       ·refine tz [85,84,83,7,6,5,1,2,3,4] ?_
        refine Q3 Q1p (Qhn (adF (useL (g.nodes.getD ui.toNat ub)) (dfF (g.nodes.getD ui.toNat ub) (beF g.nodes ut ui.toNat)) um.toNat) ((useL (g.nodes.getD ui.toNat ub)).getD um.toNat 0) W16) [6] ?_ (vc:=[(0:Int)≤um,um<(↑(useL (g.nodes.getD ui.toNat ub)).length:Int),um.toNat<(useL (g.nodes.getD ui.toNat ub)).length]) (hv:=W6)
        exact Q4 (uZ g ui uq ut uA) um (um+(1:Int)) W187 W188 [] ((jD 65).map fun j65:Nat=>(14+j65)) ((jD 65).map fun j65:Nat=>adF (useL (g.nodes.getD ui.toNat ub)) (dfF (g.nodes.getD ui.toNat ub) (beF g.nodes ut ui.toNat)) (um+(1:Int)).toNat j65=addW (adF (useL (g.nodes.getD ui.toNat ub)) (dfF (g.nodes.getD ui.toNat ub) (beF g.nodes ut ui.toNat)) um.toNat) ((useL (g.nodes.getD ui.toNat ub)).getD um.toNat 0) j65) W11 (vc:=[Fits ja (um+(1:Int))]) (hv:=W6)
       ·refine Y4 4 (ui.toNat) ?_ (vc:=[ui.toNat<g.nodes.length]) (hv:=W6)
        refine tz [85,84,83,7,6,5,1,2,3,4] ?_
        refine Q0 (!(all65 (fun j=>decide (adF (useL (g.nodes.getD ui.toNat ub)) (dfF (g.nodes.getD ui.toNat ub) (beF g.nodes ut ui.toNat)) um.toNat j=ut ui.toNat j)) 65 0)) (fun h11=>?_) (fun h11=>?_) (vc:=[(0:Int)≤ui,ui<(↑g.nodes.length:Int),ui.toNat=ui.toNat]) (hv:=W6)
        ·exact Q4 (uY g uj) (ui,uq,ut,uA) ((ui-(1:Int),true,putW ut ui.toNat (ahF g.nodes ut ui.toNat),putW uA ui.toNat (beF g.nodes ut ui.toNat))) W154 W48 [] (((jD 65).map fun j65:Nat=>(11+j65))++([76])) (([∀ (i:Nat),i<g.nodes.length→i≠ui.toNat→wsT (putW ut ui.toNat (ahF g.nodes ut ui.toNat) i)=wsT (ut i)])++((jD 65).map fun j65:Nat=>wsT (putW ut ui.toNat (ahF g.nodes ut ui.toNat) ui.toNat) j65=TC.val (jg jJ (adF (useL (g.nodes.getD ui.toNat ub)) (dfF (g.nodes.getD ui.toNat ub) (beF g.nodes ut ui.toNat)) um.toNat j65)))) W11 (vc:=[(0:Int)≤ui,ui<(↑g.nodes.length:Int),ui.toNat=ui.toNat,Fits ja (ui-(1:Int))]) (hv:=W6)
        ·exact Q4 (uY g uj) (ui,uq,ut,uA) ((ui-(1:Int),uq,ut,putW uA ui.toNat (beF g.nodes ut ui.toNat))) W154 W48 [] ((jD 65).map fun j65:Nat=>(12+j65)) ((jD 65).map fun j65:Nat=>wsT (ut ui.toNat) j65=TC.val (jg jJ (ut ui.toNat j65))) W11 (vc:=[Fits ja (ui-(1:Int))]) (hv:=W6)
      ·refine tz [7,6,5,1,2,3,4] ?_
       refine Q3 Q15 (Q8m (g.nodes.getD ui.toNat ub) W16) [] ?_ (vc:=[(0:Int)≤ui,ui<(↑g.nodes.length:Int),ui.toNat<g.nodes.length]) (hv:=W6)
       refine tz [83,7,6,5,1,2,3,4] ?_
       refine Q7 (uZ g ui uq ut uA) ((0:Int)) (⟨jE _,by omega⟩) ?_ [] (((jD 65).map fun j65:Nat=>(13+j65))++([78])) (([∀ (i:Nat),i<g.nodes.length→wsT (putW uA ui.toNat (beF g.nodes ut ui.toNat) i)=updT (fun i=>wsT (uA i)) ui.toNat 0 ((jD 65).map fun j65:Nat=>jg jJ (joF ut (flrL (g.nodes.getD ui.toNat ub)) uv.toNat j65)) i])++((jD 65).map fun j65:Nat=>adF (useL (g.nodes.getD ui.toNat ub)) (dfF (g.nodes.getD ui.toNat ub) (beF g.nodes ut ui.toNat)) 0 j65=joF ut (flrL (g.nodes.getD ui.toNat ub)) uv.toNat j65)) W11
       rintro um hJ9
       dsimp only [uZ] at hJ9
       refine tz [85,84,83,7,6,5,1,2,3,4] ?_
       refine Q0 (decide (um<(↑(useL (g.nodes.getD ui.toNat ub)).length:Int))) (fun h10=>?_) (fun h10=>?_)
       ·refine tz [85,84,83,7,6,5,1,2,3,4] ?_
        refine Q3 Q1p (Qhn (adF (useL (g.nodes.getD ui.toNat ub)) (dfF (g.nodes.getD ui.toNat ub) (beF g.nodes ut ui.toNat)) um.toNat) ((useL (g.nodes.getD ui.toNat ub)).getD um.toNat 0) W16) [6] ?_ (vc:=[(0:Int)≤um,um<(↑(useL (g.nodes.getD ui.toNat ub)).length:Int),um.toNat<(useL (g.nodes.getD ui.toNat ub)).length]) (hv:=W6)
        exact Q4 (uZ g ui uq ut uA) um (um+(1:Int)) W187 W188 [] ((jD 65).map fun j65:Nat=>(14+j65)) ((jD 65).map fun j65:Nat=>adF (useL (g.nodes.getD ui.toNat ub)) (dfF (g.nodes.getD ui.toNat ub) (beF g.nodes ut ui.toNat)) (um+(1:Int)).toNat j65=addW (adF (useL (g.nodes.getD ui.toNat ub)) (dfF (g.nodes.getD ui.toNat ub) (beF g.nodes ut ui.toNat)) um.toNat) ((useL (g.nodes.getD ui.toNat ub)).getD um.toNat 0) j65) W11 (vc:=[Fits ja (um+(1:Int))]) (hv:=W6)
       ·refine Y4 4 (ui.toNat) ?_ (vc:=[ui.toNat<g.nodes.length]) (hv:=W6)
        refine tz [85,84,83,7,6,5,1,2,3,4] ?_
        refine Q0 (!(all65 (fun j=>decide (adF (useL (g.nodes.getD ui.toNat ub)) (dfF (g.nodes.getD ui.toNat ub) (beF g.nodes ut ui.toNat)) um.toNat j=ut ui.toNat j)) 65 0)) (fun h11=>?_) (fun h11=>?_) (vc:=[(0:Int)≤ui,ui<(↑g.nodes.length:Int),ui.toNat=ui.toNat]) (hv:=W6)
        ·exact Q4 (uY g uj) (ui,uq,ut,uA) ((ui-(1:Int),true,putW ut ui.toNat (ahF g.nodes ut ui.toNat),putW uA ui.toNat (beF g.nodes ut ui.toNat))) W154 W48 [] (((jD 65).map fun j65:Nat=>(11+j65))++([76])) (([∀ (i:Nat),i<g.nodes.length→i≠ui.toNat→wsT (putW ut ui.toNat (ahF g.nodes ut ui.toNat) i)=wsT (ut i)])++((jD 65).map fun j65:Nat=>wsT (putW ut ui.toNat (ahF g.nodes ut ui.toNat) ui.toNat) j65=TC.val (jg jJ (adF (useL (g.nodes.getD ui.toNat ub)) (dfF (g.nodes.getD ui.toNat ub) (beF g.nodes ut ui.toNat)) um.toNat j65)))) W11 (vc:=[(0:Int)≤ui,ui<(↑g.nodes.length:Int),ui.toNat=ui.toNat,Fits ja (ui-(1:Int))]) (hv:=W6)
        ·exact Q4 (uY g uj) (ui,uq,ut,uA) ((ui-(1:Int),uq,ut,putW uA ui.toNat (beF g.nodes ut ui.toNat))) W154 W48 [] ((jD 65).map fun j65:Nat=>(12+j65)) ((jD 65).map fun j65:Nat=>wsT (ut ui.toNat) j65=TC.val (jg jJ (ut ui.toNat j65))) W11 (vc:=[Fits ja (ui-(1:Int))]) (hv:=W6)
   ·exact Q4 (vM g) (ue,uj,uh) ((uq,ut,uA)) (by dsimp only [vM];rw [if_pos h2];exact (hJ3.done (ud h4)).2.2) (⟨(hJ3.done (ud h4)).1,(hJ3.done (ud h4)).2.1⟩)
  ·exact Q2 [0,2,3,4,5] (res:=_) (post:=_) (hS:=⟨(uj,uh),(hJ1.1.fin hq hS (hJ1.2 h2)),rfl,rfl⟩)
end Go.Proofs.YtnddggenhefaeaaGreatDoor
end
