/-
  The law WitnessSteps: whatever the unit, the classes, the order and the bound that are read (of bulk at most 1048576), the call returns true, and what came in reads as it did. Text 7 of 7: Leaf87 Leaf87b Leaf47 Leaf86 Leaf88 Leaf89 Leaf90 Leaf90b Leaf92 Leaf93 Leaf94a Leaf91 Leaf94 Read FinA FinU FinSteps.
-/
import Derived.Test.YtmjjikcappbkeaaP4
import Derived.Test.YtmjjikcappbkeaaP6
import Derived.Test.YtmjjikcappbkeaaP5
import Derived.Deep.Slices
import Derived.ChangeArms
import Derived.WideShapes
import Derived.ChangeOld
import Derived.Test.YtmjjikcappbkeaaRows
import Derived.WalkKit
import Derived.ProofKit
import Derived.OpenShut
import Derived.JoinedCond
import Derived.Carry
set_option linter.unusedSimpArgs false
set_option linter.unusedVariables false
set_option maxHeartbeats 4000000
set_option maxRecDepth 100000
noncomputable section
namespace Go.Proofs.Ytmjjikcappbkeaa
open Go Go.Tx
theorem c_mul64 (n:Int) (h0:0≤n) (h1:n<4294967296):Ctr Try.prog 127 [] [.c (.i .u64 1),.c (.i .u64 n)]
 (Det (.tup [(false,[.i .u64 0]),(false,[.i .u64 n])]) []):=by
 refine Ctr.intro [] Try.func127 K K ?_
 exact tRet [] [0,1] [(0:Int)=shrI IntKind.u64 (1:Int) (32:Int) * shrI IntKind.u64 n (32:Int)+shrI IntKind.u64 (shrI IntKind.u64 (1:Int) (32:Int) * bits BinOp.and IntKind.u64 n (4294967295:Int)+shrI IntKind.u64 (bits BinOp.and IntKind.u64 (1:Int) (4294967295:Int) * bits BinOp.and IntKind.u64 n (4294967295:Int)) (32:Int)) (32:Int)+shrI IntKind.u64 (bits BinOp.and IntKind.u64 (shrI IntKind.u64 (1:Int) (32:Int) * bits BinOp.and IntKind.u64 n (4294967295:Int)+shrI IntKind.u64 (bits BinOp.and IntKind.u64 (1:Int) (4294967295:Int) * bits BinOp.and IntKind.u64 n (4294967295:Int)) (32:Int)) (4294967295:Int)+bits BinOp.and IntKind.u64 (1:Int) (4294967295:Int) * shrI IntKind.u64 n (32:Int)) (32:Int),n=(1:Int) * n] (by (try unfold z87_1);simp only [Conj,mask1,maskN h0 h1,mask0,shr0,shr1,shrN h0 h1,Int.one_mul,Int.zero_mul,Int.mul_zero,Int.add_zero,Int.zero_add];(repeat' apply And.intro)<;>first | trivial | rfl) (vc:=[(0:Int)≤(32:Int),(0:Int)≤(32:Int),Fits IntKind.u64 (bits BinOp.and IntKind.u64 (1:Int) (4294967295:Int) * bits BinOp.and IntKind.u64 n (4294967295:Int)),Fits IntKind.u64 (shrI IntKind.u64 (1:Int) (32:Int) * bits BinOp.and IntKind.u64 n (4294967295:Int)),(0:Int)≤(32:Int),Fits IntKind.u64 (shrI IntKind.u64 (1:Int) (32:Int) * bits BinOp.and IntKind.u64 n (4294967295:Int)+shrI IntKind.u64 (bits BinOp.and IntKind.u64 (1:Int) (4294967295:Int) * bits BinOp.and IntKind.u64 n (4294967295:Int)) (32:Int)),(0:Int)≤(32:Int),Fits IntKind.u64 (bits BinOp.and IntKind.u64 (1:Int) (4294967295:Int) * shrI IntKind.u64 n (32:Int)),Fits IntKind.u64 (bits BinOp.and IntKind.u64 (shrI IntKind.u64 (1:Int) (32:Int) * bits BinOp.and IntKind.u64 n (4294967295:Int)+shrI IntKind.u64 (bits BinOp.and IntKind.u64 (1:Int) (4294967295:Int) * bits BinOp.and IntKind.u64 n (4294967295:Int)) (32:Int)) (4294967295:Int)+bits BinOp.and IntKind.u64 (1:Int) (4294967295:Int) * shrI IntKind.u64 n (32:Int)),Fits IntKind.u64 (shrI IntKind.u64 (1:Int) (32:Int) * shrI IntKind.u64 n (32:Int)),Fits IntKind.u64 (shrI IntKind.u64 (1:Int) (32:Int) * shrI IntKind.u64 n (32:Int)+shrI IntKind.u64 (shrI IntKind.u64 (1:Int) (32:Int) * bits BinOp.and IntKind.u64 n (4294967295:Int)+shrI IntKind.u64 (bits BinOp.and IntKind.u64 (1:Int) (4294967295:Int) * bits BinOp.and IntKind.u64 n (4294967295:Int)) (32:Int)) (32:Int)),(0:Int)≤(32:Int),Fits IntKind.u64 (shrI IntKind.u64 (1:Int) (32:Int) * shrI IntKind.u64 n (32:Int)+shrI IntKind.u64 (shrI IntKind.u64 (1:Int) (32:Int) * bits BinOp.and IntKind.u64 n (4294967295:Int)+shrI IntKind.u64 (bits BinOp.and IntKind.u64 (1:Int) (4294967295:Int) * bits BinOp.and IntKind.u64 n (4294967295:Int)) (32:Int)) (32:Int)+shrI IntKind.u64 (bits BinOp.and IntKind.u64 (shrI IntKind.u64 (1:Int) (32:Int) * bits BinOp.and IntKind.u64 n (4294967295:Int)+shrI IntKind.u64 (bits BinOp.and IntKind.u64 (1:Int) (4294967295:Int) * bits BinOp.and IntKind.u64 n (4294967295:Int)) (32:Int)) (4294967295:Int)+bits BinOp.and IntKind.u64 (1:Int) (4294967295:Int) * shrI IntKind.u64 n (32:Int)) (32:Int)),Fits IntKind.u64 ((1:Int) * n)]) (hv:=(by (try unfold z87_1);simp only [Conj,Fits,IntKind.min,IntKind.max,IntKind.signed,IntKind.bits,mask1,maskN h0 h1,mask0,shr0,shr1,shrN h0 h1,Int.one_mul,Int.zero_mul,Int.mul_zero,Int.add_zero,Int.zero_add];(repeat' apply And.intro)<;>first | trivial | omega))
theorem c_mul (n:Int) (h0:0≤n) (h1:n<4294967296):Ctr Try.prog 110 [] [.c (.i .u64 1),.c (.i .u64 n)]
 (Det (.tup [(false,[.i .u64 0]),(false,[.i .u64 n])]) []):=by
 refine Ctr.intro [] Try.func110 K K ?_
 refine tCall e_math_bits_Mul64 (c_mul64 (n:=n) (h0:=by first | assumption | omega) (h1:=by first | assumption | omega)) [] ?_
 exact tRet
def L67_60_I (t:Int) (n:Int):Int×List Int→St:=fun x=>{ N:=48,fr:=[{ slot:=8,g:=[],sv:=SV.c (C.i .i64 x.1) },{ slot:=7,g:=[],sv:=SV.c (C.h 1) },{ slot:=4,g:=[],sv:=SV.c (C.v (Value.slice none 0 0)) }],rg:=[Reg.row 1 1 (fun i=>i64T ([t].getD i (0:Int))) none,IntOwn (x.2)],wr:=[] }
def L67_60_J (t:Int) (n:Int):Int×List Int→Prop:=fun x=>1≤x.1∧x.1≤n∧x.2=repL x.1 n t
def L67_60_m (t:Int) (n:Int):Int×List Int→Nat:=fun x=>(n-x.1).toNat
def L67_60 (t:Int) (n:Int):Lp (Int×List Int):=⟨L67_60_I t n,L67_60_J t n,L67_60_m t n⟩
theorem c_repeat (t n:Int) (h0:1≤n) (h1:n≤1048576):Ctr Try.prog 67 [IntRow [t]] [.c (.h 0),.c (.i .i64 n)]
 (Det (.c (.h 1)) [.dead,IntOwn (List.replicate n.toNat t)]):=by
 refine Ctr.intro [] Try.func67 K K ?_
 refine tCond (decide (n<(0:Int))) (fun h1=>?_) (fun h1=>?_)
 ·exact (show False from by have z:=of_decide_eq_true h1;omega).elim
 ·refine tz [4,0,1] ?_
  refine tCall e_math_bits_Mul (c_mul (n:=n) (h0:=by first | assumption | omega) (h1:=by first | assumption | omega)) [] ?_ (vc:=[Fits IntKind.u64 (1:Int),Fits IntKind.u64 n]) (hv:=(by simp only [Conj,Fits,IntKind.min,IntKind.max,IntKind.signed,IntKind.bits,News.len,maxLen]<;>(repeat' (first | apply And.intro | intro _))<;>first | (intros;exact i64T.flat _ _ (by assumption)) | (obtain ⟨q0,q1,q2⟩:=hJ3;have e:x3_1.length=n.toNat:=(by rw [q2];exact repL_len (by omega) q1);have z:=of_decide_eq_true h4;have z2:(x3_0.toNat-0).min (x3_1.length-x3_0.toNat)≤x3_1.length-x3_0.toNat:=Nat.min_le_right _ _;omega) | omega | grind | (simp only [BL] at *;omega)))
  refine tz [18,4,0] ?_
  refine tCond (decide ((0:Int)<(0:Int))||decide ((9223372036854775807:Int)<n)) (fun h2=>?_) (fun h2=>?_)
  ·exact (show False from by simp at h2;omega).elim
  ·refine tz [6,4,0] ?_
   refine tLoop (L67_60 t n) (((1:Int),repL (1:Int) n t)) ⟨Int.le_refl _,h0,rfl⟩ ?_ [] [2,3] [(repL (1:Int) n t).length=n.toNat,∀ (i:Nat),i<(repL (1:Int) n t).length→i64T ((repL (1:Int) n t).getD i (0:Int))=fun j=>if i<1 then i64T ([t].getD i (0:Int)) j else valT (Value.int IntKind.i64 (0:Int)).cells.toList j] (by simp only [Conj];(repeat' apply And.intro)<;>first | trivial | rfl | (intros;first | trivial | rfl) | exact repL_len (by omega) (by omega) | exact repL_one | omega) (vc:=[Fits IntKind.i64 n,(0:Int)≤n,n≤n,n * (8:Int)≤(140737488355328:Int),n≤(↑maxLen:Int),∀ (i j:Nat),i<1→j<1→flatT (i64T ([t].getD i (0:Int)) j),1≤n.toNat]) (hv:=(by simp only [Conj,Fits,IntKind.min,IntKind.max,IntKind.signed,IntKind.bits,News.len,maxLen]<;>(repeat' (first | apply And.intro | intro _))<;>first | (intros;exact i64T.flat _ _ (by assumption)) | (obtain ⟨q0,q1,q2⟩:=hJ3;have e:x3_1.length=n.toNat:=(by rw [q2];exact repL_len (by omega) q1);have z:=of_decide_eq_true h4;have z2:(x3_0.toNat-0).min (x3_1.length-x3_0.toNat)≤x3_1.length-x3_0.toNat:=Nat.min_le_right _ _;omega) | omega | grind | (simp only [BL] at *;omega)))
   rintro ⟨x3_0,x3_1⟩ hJ3
   dsimp only [L67_60,L67_60_J] at hJ3
   refine tz [8,7,4] ?_
   refine tCond (decide (x3_0<(↑x3_1.length:Int))) (fun h4=>?_) (fun h4=>?_)
   ·refine tz [8,7,4] ?_
    refine tDag 2 [[],[Fits IntKind.i64 (x3_0+(↑((x3_0.toNat-0).min (x3_1.length-x3_0.toNat)):Int))],[x3_0.toNat+(x3_1.length-x3_0.toNat)≤x3_1.length,0+(x3_0.toNat-0)≤x3_1.length,0<x3_1.length,∀ (i j:Nat),i<x3_1.length→j<1→flatT (i64T (x3_1.getD i (0:Int)) j)],[(0:Int)≤x3_0,x3_0≤(↑x3_1.length:Int),(↑x3_1.length:Int)≤(↑x3_1.length:Int),(0:Int)≤x3_0,x3_0≤(↑x3_1.length:Int),(↑x3_1.length:Int)≤(↑x3_1.length:Int),x3_0<(↑x3_1.length:Int)],[(0:Int)≤(0:Int),(0:Int)≤x3_0,x3_0≤(↑x3_1.length:Int),(0:Int)≤(0:Int),(0:Int)≤x3_0,x3_0≤(↑x3_1.length:Int),(0:Int)<(↑x3_1.length:Int)]] [0,1,2,3,4,4,3] ?_ (by simp only [flatP,List.cons_append,List.nil_append,Conj,Fits,IntKind.min,IntKind.max,IntKind.signed,IntKind.bits,News.len,maxLen]<;>(repeat' (first | apply And.intro | intro _))<;>first | (intros;exact i64T.flat _ _ (by assumption)) | (obtain ⟨q0,q1,q2⟩:=hJ3;have e:x3_1.length=n.toNat:=(by rw [q2];exact repL_len (by omega) q1);have z:=of_decide_eq_true h4;have z2:(x3_0.toNat-0).min (x3_1.length-x3_0.toNat)≤x3_1.length-x3_0.toNat:=Nat.min_le_right _ _;omega) | omega | grind | (simp only [BL] at *;omega))
    exact tNext (L67_60 t n) (x3_0,x3_1) ((x3_0+(↑((x3_0.toNat-0).min (x3_1.length-x3_0.toNat)):Int),repL (x3_0+(↑((x3_0.toNat-0).min (x3_1.length-x3_0.toNat)):Int)) n t)) (by obtain ⟨q0,q1,q2⟩:=hJ3;dsimp only [L67_60,L67_60_m];have e:x3_1.length=n.toNat:=(by rw [q2];exact repL_len (by omega) q1);have z:=of_decide_eq_true h4;have z2:1≤(x3_0.toNat-0).min (x3_1.length-x3_0.toNat):=Nat.le_min.2 ⟨by omega,by omega⟩;omega) (by obtain ⟨q0,q1,q2⟩:=hJ3;dsimp only [L67_60,L67_60_J];have e:x3_1.length=n.toNat:=(by rw [q2];exact repL_len (by omega) q1);have z2:(x3_0.toNat-0).min (x3_1.length-x3_0.toNat)≤x3_1.length-x3_0.toNat:=Nat.min_le_right _ _;exact ⟨by omega,by omega,rfl⟩) [] [2,3] [(repL (x3_0+(↑((x3_0.toNat-0).min (x3_1.length-x3_0.toNat)):Int)) n t).length=x3_1.length,∀ (i:Nat),i<(repL (x3_0+(↑((x3_0.toNat-0).min (x3_1.length-x3_0.toNat)):Int)) n t).length→i64T ((repL (x3_0+(↑((x3_0.toNat-0).min (x3_1.length-x3_0.toNat)):Int)) n t).getD i (0:Int))=fun j=>if x3_0.toNat≤i∧i<x3_0.toNat+(x3_0.toNat-0).min (x3_1.length-x3_0.toNat) then i64T (x3_1.getD (0+(i-x3_0.toNat)) (0:Int)) j else i64T (x3_1.getD i (0:Int)) j] (by obtain ⟨q0,q1,q2⟩:=hJ3;subst q2;have e:=repL_len (t:=t) (by omega:0≤x3_0) q1;simp only [e];have z2:(x3_0.toNat-0).min (n.toNat-x3_0.toNat)≤n.toNat-x3_0.toNat:=Nat.min_le_right _ _;simp only [Conj];(repeat' apply And.intro)<;>first | trivial | rfl | (intros;first | trivial | rfl) | exact repL_step q0 q1 _ rfl | (rw [repL_len]<;>omega))
   ·exact tRet [] [0,1] [(List.replicate n.toNat t).length=x3_1.length,∀ (i:Nat),i<(List.replicate n.toNat t).length→i64T ((List.replicate n.toNat t).getD i (0:Int))=i64T (x3_1.getD i (0:Int))] (by obtain ⟨q0,q1,q2⟩:=hJ3;have e:x3_1.length=n.toNat:=(by rw [q2];exact repL_len (by omega) q1);have z:=of_decide_eq_false h4;have e2:x3_0=n:=(by omega);subst e2;rw [q2,repL_full];simp only [Conj];(repeat' apply And.intro)<;>first | trivial | rfl | (intros;first | trivial | rfl))
end Go.Proofs.Ytmjjikcappbkeaa
end
noncomputable section
namespace Go.Proofs.Ytmjjikcappbkeaa
open Go Go.Tx
theorem c_repeatL (l:List Int) (n:Int) (hl1:l.length=1) (h0:1≤n) (h1:n≤1048576):Ctr Try.prog 67 [IntRow l] [.c (.h 0),.c (.i .i64 n)]
 (Det (.c (.h 1)) [.dead,IntOwn (List.replicate n.toNat (l.getD 0 0))]):=by
 match l,hl1 with
 | [t],_=>exact c_repeat t n h0 h1
end Go.Proofs.Ytmjjikcappbkeaa
end
noncomputable section
namespace Go.Proofs.Ytmjjikcappbkeaa
open Go Go.Tx
theorem c_clone_prt (l:List Prt) (hl:l.length * 64≤140737488355328):Ctr Try.prog 30 [Prt.rowR l] [.c (.h 0)]
 (Det (.c (.h 1)) [.dead,Prt.ownR l]):=by
 refine Ctr.intro [] Try.func30 K K ?_
 refine RunF.rnil (n:=l.length) (vc:=[]) 0 K trivial K (fun _=>by kernel_rfl) (fun nil1 hn1=>?_)
 refine tz [4,2,0] ?_
 refine tCond (nil1) (fun h2=>?_) (fun h2=>?_)
 ·exact tRet [0,1000001] [0] [l.length=0] (by simp only [Conj];(repeat' apply And.intro)<;>first | trivial | omega | (exact hn1 h2) | (intros;simp))
 ·exact tRet [0,2] [0,1] [l.length=0+l.length,∀ (i:Nat),i<l.length→(l.getD i default).tc=fun j=>if i<0 then rowT 2 [] i j else (l.getD (i-0) default).tc j] (by simp only [Conj];(repeat' apply And.intro)<;>first | trivial | omega | (exact hn1 h2) | (intros;simp)) (vc:=[∀ (i j:Nat),i<l.length→j<2→flatT ((l.getD i default).tc j),0+l.length≤maxLen,(0+l.length) * 16≤140737488355328]) (hv:=(by simp only [Conj,Fits,i64_min,i64_max,u8_min,u8_max,News.len,maxLen]<;>(repeat' (first | apply And.intro | intro _))<;>first | (exact Prt.flat _ _ (by assumption)) | grind | (simp only [BL] at *;omega)))
theorem c_clone_word (l:List Int) (hl:l.length * 64≤140737488355328):Ctr Try.prog 31 [WordRow l] [.c (.h 0)]
 (Det (.c (.h 1)) [.dead,WordOwn l]):=by
 refine Ctr.intro [] Try.func31 K K ?_
 refine RunF.rnil (n:=l.length) (vc:=[]) 0 K trivial K (fun _=>by kernel_rfl) (fun nil1 hn1=>?_)
 refine tz [4,2,0] ?_
 refine tCond (nil1) (fun h2=>?_) (fun h2=>?_)
 ·exact tRet [0,1000001] [0] [l.length=0] (by simp only [Conj];(repeat' apply And.intro)<;>first | trivial | omega | (exact hn1 h2) | (intros;simp))
 ·exact tRet [0,2] [0,1] [l.length=0+l.length,∀ (i:Nat),i<l.length→i64T (l.getD i (0:Int))=fun j=>if i<0 then rowT 1 [] i j else i64T (l.getD (i-0) (0:Int)) j] (by simp only [Conj];(repeat' apply And.intro)<;>first | trivial | omega | (exact hn1 h2) | (intros;simp)) (vc:=[∀ (i j:Nat),i<l.length→j<1→flatT (i64T (l.getD i (0:Int)) j),0+l.length≤maxLen,(0+l.length) * 8≤140737488355328]) (hv:=(by simp only [Conj,Fits,i64_min,i64_max,u8_min,u8_max,News.len,maxLen]<;>(repeat' (first | apply And.intro | intro _))<;>first | (exact i64T.flat _ _ (by assumption)) | grind | (simp only [BL] at *;omega)))
end Go.Proofs.Ytmjjikcappbkeaa
end
noncomputable section
namespace Go.Proofs.Ytmjjikcappbkeaa
open Go Go.Tx
theorem c_prints (sh lk:List Dcl) (gs:List Grf) (pos:List Int) (sl:List Slt) (mem ho:List Int) (pr:List Prt) (hQ:MchQ sh.length lk.length gs (Mch.mk pos sl mem ho pr)) (hb:sh.length≤64∧lk.length≤16∧gs.length≤8) (hp:pr.length≤4194304):Ctr Try.prog 10 [.ro [.h 1,.h 2,.h 3,.h 4,.h 5,.h 6,.h 7,.h 8],Dcl.rowR sh,Dcl.rowR lk,Grf.rowR gs,IntRow pos,Slt.rowR sl,WordRow mem,IntRow ho,Prt.rowR pr] [.c (.p 0 0)]
 (Det (.c (.h 9)) [.dead,.dead,.dead,.dead,.dead,.dead,.dead,.dead,.dead,Prt.ownR pr]):=by
 refine Ctr.intro [] Try.func10 K K ?_
 refine tCall e_slices_Clone_Print (c_clone_prt (l:=pr) (hl:=by first | assumption | omega)) [8] ?_
 exact tRet
theorem c_memory (sh lk:List Dcl) (gs:List Grf) (pos:List Int) (sl:List Slt) (mem ho:List Int) (pr:List Prt) (hQ:MchQ sh.length lk.length gs (Mch.mk pos sl mem ho pr)) (hb:sh.length≤64∧lk.length≤16∧gs.length≤8) (hp:pr.length≤4194304):Ctr Try.prog 12 [.ro [.h 1,.h 2,.h 3,.h 4,.h 5,.h 6,.h 7,.h 8],Dcl.rowR sh,Dcl.rowR lk,Grf.rowR gs,IntRow pos,Slt.rowR sl,WordRow mem,IntRow ho,Prt.rowR pr] [.c (.p 0 0)]
 (Det (.c (.h 9)) [.dead,.dead,.dead,.dead,.dead,.dead,.dead,.dead,.dead,WordOwn mem]):=by
 refine Ctr.intro [] Try.func12 K K ?_
 refine tCall e_slices_Clone_int64 (c_clone_word (l:=mem) (hl:=by first | assumption | (have z:=hQ.mn;dsimp only at z;omega))) [6] ?_
 exact tRet
def L13_60_I (sh:List Dcl) (lk:List Dcl) (gs:List Grf) (pos:List Int) (sl:List Slt) (mem:List Int) (ho:List Int) (pr:List Prt):Int×Bool→St:=fun x=>{ N:=19,fr:=[{ slot:=11,g:=[],sv:=SV.c (C.i .i64 x.1) },{ slot:=10,g:=[],sv:=SV.c (C.i .i64 (↑pos.length:Int)) },{ slot:=2,g:=[],sv:=SV.c (C.b x.2) },{ slot:=0,g:=[],sv:=SV.c (C.p 0 0) }],rg:=[Reg.ro [C.h 1,C.h 2,C.h 3,C.h 4,C.h 5,C.h 6,C.h 7,C.h 8],Reg.row 3 sh.length (fun i=>(sh.getD i default).tc) none,Reg.row 3 lk.length (fun i=>(lk.getD i default).tc) none,Reg.row 4 gs.length (fun i=>(gs.getD i default).tc) none,Reg.row 1 pos.length (fun i=>i64T (pos.getD i (0:Int))) none,Reg.row 1 sl.length (fun i=>(sl.getD i default).tc) none,Reg.row 1 mem.length (fun i=>i64T (mem.getD i (0:Int))) none,Reg.row 1 ho.length (fun i=>i64T (ho.getD i (0:Int))) none,Reg.row 2 pr.length (fun i=>(pr.getD i default).tc) none],wr:=[] }
def L13_60_J (sh:List Dcl) (lk:List Dcl) (gs:List Grf) (pos:List Int) (sl:List Slt) (mem:List Int) (ho:List Int) (pr:List Prt):Int×Bool→Prop:=fun x=>0≤x.1∧x.1≤(pos.length:Int)∧endM gs pos ho=endGo gs pos ho ((pos.length:Int)-x.1).toNat x.1
def L13_60_m (sh:List Dcl) (lk:List Dcl) (gs:List Grf) (pos:List Int) (sl:List Slt) (mem:List Int) (ho:List Int) (pr:List Prt):Int×Bool→Nat:=fun x=>((pos.length:Int)-x.1).toNat
def L13_60 (sh:List Dcl) (lk:List Dcl) (gs:List Grf) (pos:List Int) (sl:List Slt) (mem:List Int) (ho:List Int) (pr:List Prt):Lp (Int×Bool):=⟨L13_60_I sh lk gs pos sl mem ho pr,L13_60_J sh lk gs pos sl mem ho pr,L13_60_m sh lk gs pos sl mem ho pr⟩
theorem c_ended (sh lk:List Dcl) (gs:List Grf) (pos:List Int) (sl:List Slt) (mem ho:List Int) (pr:List Prt) (hQ:MchQ sh.length lk.length gs (Mch.mk pos sl mem ho pr)) (hb:sh.length≤64∧lk.length≤16∧gs.length≤8) (hp:pr.length≤4194304) (hw:UnitW gs):Ctr Try.prog 13 [.ro [.h 1,.h 2,.h 3,.h 4,.h 5,.h 6,.h 7,.h 8],Dcl.rowR sh,Dcl.rowR lk,Grf.rowR gs,IntRow pos,Slt.rowR sl,WordRow mem,IntRow ho,Prt.rowR pr] [.c (.p 0 0)]
 (Det (.c (.b (endM gs pos ho))) [.dead,.dead,.dead,.dead,.dead,.dead,.dead,.dead,.dead]):=by
 refine Ctr.intro [] Try.func13 K K ?_
 refine tLoop (L13_60 sh lk gs pos sl mem ho pr) (((0:Int),false)) end_start ?_
 rintro ⟨x1_0,x1_1⟩ hJ1
 dsimp only [L13_60,L13_60_J] at hJ1
 refine tz [11,10,2,0] ?_
 refine tCond (decide (x1_0<(↑pos.length:Int))) (fun h2=>?_) (fun h2=>?_)
 ·refine tz [11,10,2,0] ?_
  refine tCall e_source_Machine_bar (c_barS (sh:=sh) (lk:=lk) (gs:=gs) (pos:=pos) (sl:=sl) (mem:=mem) (ho:=ho) (pr:=pr) (t:=x1_0) (hQ:=by first | assumption | omega) (hw:=by first | assumption | omega)) [] ?_
  refine tz [16,11,10,2,0] ?_
  refine tCond (!decide (barV gs pos ho x1_0=(70:Int))) (fun h3=>?_) (fun h3=>?_)
  ·exact tRet [] [0] [endM gs pos ho=false] (by simp only [Conj];(repeat' apply And.intro)<;>first | trivial | exact end_no hJ1 h2 h3 | exact end_yes hJ1 h2)
  ·exact tNext (L13_60 sh lk gs pos sl mem ho pr) (x1_0,x1_1) ((x1_0+(1:Int),x1_1)) (by dsimp only [L13_60,L13_60_m];have q:=of_decide_eq_true h2;have z:=hJ1.1;omega) (end_next hJ1 h2 h3) (vc:=[Fits IntKind.i64 (x1_0+(1:Int))]) (hv:=(by simp only [Conj,Fits,i64_min,i64_max,u8_min,u8_max,News.len,maxLen]<;>(repeat' (first | apply And.intro | intro _))<;>first | (have q0:=hQ.gl;dsimp only at q0;have q:=of_decide_eq_true h2;have z:=hJ1.1;omega) | grind | (simp only [BL] at *;omega)))
 ·exact tRet [] [0] [endM gs pos ho=true] (by simp only [Conj];(repeat' apply And.intro)<;>first | trivial | exact end_no hJ1 h2 h3 | exact end_yes hJ1 h2)
def L8_60_I (sh:List Dcl) (lk:List Dcl) (gs:List Grf) (pos:List Int) (sl:List Slt) (mem:List Int) (ho:List Int) (pr:List Prt) (l:List Int):Int×Int×Int×List Prt×List Int×List Slt×List Int×List Int→St:=fun x=>{ N:=32,fr:=[{ slot:=14,g:=[],sv:=SV.c (C.i .i64 x.1) },{ slot:=13,g:=[],sv:=SV.c (C.i .i64 (↑l.length:Int)) },{ slot:=12,g:=[],sv:=SV.c (C.h 9) },{ slot:=5,g:=[],sv:=SV.c (C.i .i64 x.2.1) },{ slot:=4,g:=[],sv:=SV.c (C.i .i64 x.2.2.1) },{ slot:=0,g:=[],sv:=SV.c (C.p 0 0) },{ slot:=1,g:=[],sv:=SV.c (C.h 9) }],rg:=[Reg.box 91 [C.h 1,C.h 2,C.h 3,C.h 4,C.h 5,C.h 6,C.h 7,C.h 10],Reg.row 3 sh.length (fun i=>(sh.getD i default).tc) none,Reg.row 3 lk.length (fun i=>(lk.getD i default).tc) none,Reg.row 4 gs.length (fun i=>(gs.getD i default).tc) none,IntOwn (x.2.2.2.2.1),Slt.ownR (x.2.2.2.2.2.1),WordOwn (x.2.2.2.2.2.2.1),IntOwn (x.2.2.2.2.2.2.2),Reg.dead,Reg.row 1 l.length (fun i=>i64T (l.getD i (0:Int))) none]++[Prt.ownR x.2.2.2.1],wr:=[] }
def L8_60_J (sh:List Dcl) (lk:List Dcl) (gs:List Grf) (pos:List Int) (sl:List Slt) (mem:List Int) (ho:List Int) (pr:List Prt) (l:List Int):Int×Int×Int×List Prt×List Int×List Slt×List Int×List Int→Prop:=fun x=>RunJ sh.length lk.length gs l (Mch.mk pos sl mem ho pr) x.1 (Mch.mk x.2.2.2.2.1 x.2.2.2.2.2.1 x.2.2.2.2.2.2.1 x.2.2.2.2.2.2.2 x.2.2.2.1)
def L8_60_m (sh:List Dcl) (lk:List Dcl) (gs:List Grf) (pos:List Int) (sl:List Slt) (mem:List Int) (ho:List Int) (pr:List Prt) (l:List Int):Int×Int×Int×List Prt×List Int×List Slt×List Int×List Int→Nat:=fun x=>((l.length:Int)-x.1).toNat
def L8_60 (sh:List Dcl) (lk:List Dcl) (gs:List Grf) (pos:List Int) (sl:List Slt) (mem:List Int) (ho:List Int) (pr:List Prt) (l:List Int):Lp (Int×Int×Int×List Prt×List Int×List Slt×List Int×List Int):=⟨L8_60_I sh lk gs pos sl mem ho pr l,L8_60_J sh lk gs pos sl mem ho pr l,L8_60_m sh lk gs pos sl mem ho pr l⟩
theorem c_run (sh lk:List Dcl) (gs:List Grf) (pos:List Int) (sl:List Slt) (mem ho:List Int) (pr:List Prt) (l:List Int) (hQ:MchQ sh.length lk.length gs (Mch.mk pos sl mem ho pr)) (hb:sh.length≤64∧lk.length≤16∧gs.length≤8) (hp:pr.length≤4194304) (hw:UnitW gs) (hl:l.length≤1048576):Ctr Try.prog 8 [Reg.box 91 [.h 1,.h 2,.h 3,.h 4,.h 5,.h 6,.h 7,.h 8],Dcl.rowR sh,Dcl.rowR lk,Grf.rowR gs,IntOwn pos,Slt.ownR sl,WordOwn mem,IntOwn ho,Prt.ownR pr,IntRow l] [.c (.p 0 0),.c (.h 9)]
 (Det (.tup [(false,[.i .i64 (runM gs l 0 (Mch.mk pos sl mem ho pr)).n]),(false,[.i .i64 (runM gs l 0 (Mch.mk pos sl mem ho pr)).err])]) [Reg.box 91 [.h 1,.h 2,.h 3,.h 4,.h 5,.h 6,.h 7,.h 10],.dead,.dead,.dead,IntOwn (runM gs l 0 (Mch.mk pos sl mem ho pr)).m.pos,Slt.ownR (runM gs l 0 (Mch.mk pos sl mem ho pr)).m.sl,WordOwn (runM gs l 0 (Mch.mk pos sl mem ho pr)).m.mem,IntOwn (runM gs l 0 (Mch.mk pos sl mem ho pr)).m.ho,.dead,.dead,Prt.ownR (runM gs l 0 (Mch.mk pos sl mem ho pr)).m.pr]):=by
 refine Ctr.intro [] Try.func8 K K ?_
 refine tLoop (L8_60 sh lk gs pos sl mem ho pr l) (((0:Int),(0:Int),(0:Int),pr,pos,sl,mem,ho)) (RunJ.start hQ) ?_ [0,1,2,3,4,5,6,7,8,9,8]
 rintro ⟨x1_0,x1_1,x1_2,x1_3,x1_4,x1_5,x1_6,x1_7⟩ hJ1
 dsimp only [L8_60,L8_60_J] at hJ1
 refine tz [14,13,12,5,4,0,1] ?_
 refine tCond (decide (x1_0<(↑l.length:Int))) (fun h2=>?_) (fun h2=>?_)
 ·refine tz [14,13,12,5,4,0,1] ?_
  refine tCall e_source_Machine_Step (c_step1S (sh:=sh) (lk:=lk) (gs:=gs) (pos:=x1_4) (sl:=x1_5) (mem:=x1_6) (ho:=x1_7) (pr:=x1_3) (t:=l.getD x1_0.toNat (0:Int)) (hQ:=by first | assumption | exact hJ1.q | (have z:=hJ1.pr;have z2:=hJ1.hi;dsimp only at z;omega)) (hw:=by first | assumption | exact hJ1.q | (have z:=hJ1.pr;have z2:=hJ1.hi;dsimp only at z;omega)) (hp:=by first | assumption | exact hJ1.q | (have z:=hJ1.pr;have z2:=hJ1.hi;dsimp only at z;omega))) [0,1,2,3,4,5,6,7,10] ?_ (vc:=[(0:Int)≤x1_0,x1_0<(↑l.length:Int),x1_0.toNat<l.length]) (hv:=(by simp only [Conj,Fits,i64_min,i64_max,u8_min,u8_max,News.len,maxLen]<;>(repeat' (first | apply And.intro | intro _))<;>first | (have z:=hJ1.lo;have q:=of_decide_eq_true h2;omega) | grind | (simp only [BL] at *;omega)))
  refine tz [22,6,14,13,12,5,4,0,1] ?_
  refine tCond (!decide ((stepM gs (l.getD x1_0.toNat (0:Int)) (Mch.mk x1_4 x1_5 x1_6 x1_7 x1_3)).err=(0:Int))) (fun h3=>?_) (fun h3=>?_)
  ·rw [RunJ.err hJ1 h2 h3]
   exact tRet [0,1,2,3,4,5,6,7,8,9,11]
  ·exact tNext (L8_60 sh lk gs pos sl mem ho pr l) (x1_0,x1_1,x1_2,x1_3,x1_4,x1_5,x1_6,x1_7) ((x1_0+(1:Int),x1_1,x1_2,(stepM gs (l.getD x1_0.toNat (0:Int)) (Mch.mk x1_4 x1_5 x1_6 x1_7 x1_3)).m.pr,(stepM gs (l.getD x1_0.toNat (0:Int)) (Mch.mk x1_4 x1_5 x1_6 x1_7 x1_3)).m.pos,(stepM gs (l.getD x1_0.toNat (0:Int)) (Mch.mk x1_4 x1_5 x1_6 x1_7 x1_3)).m.sl,(stepM gs (l.getD x1_0.toNat (0:Int)) (Mch.mk x1_4 x1_5 x1_6 x1_7 x1_3)).m.mem,(stepM gs (l.getD x1_0.toNat (0:Int)) (Mch.mk x1_4 x1_5 x1_6 x1_7 x1_3)).m.ho)) (by dsimp only [L8_60,L8_60_m];have q:=of_decide_eq_true h2;have z:=hJ1.lo;omega) (RunJ.next hw hJ1 h2 h3) [0,1,2,3,4,5,6,7,8,9,11] (vc:=[Fits IntKind.i64 (x1_0+(1:Int))]) (hv:=(by simp only [Conj,Fits,i64_min,i64_max,u8_min,u8_max,News.len,maxLen]<;>(repeat' (first | apply And.intro | intro _))<;>first | (have z:=hJ1.lo;have q:=of_decide_eq_true h2;omega) | grind | (simp only [BL] at *;omega)))
 ·rw [RunJ.done hJ1 h2]
  exact tRet
end Go.Proofs.Ytmjjikcappbkeaa
end
noncomputable section
namespace Go.Proofs.Ytmjjikcappbkeaa
open Go Go.Tx
theorem c_tbeg_no (sh lk:List Dcl) (gs:List Grf) (hs:∀ j:Nat,(sh.getD j default).name.size≤maxLen) (hl:∀ j:Nat,(lk.getD j default).name.size≤maxLen) (hg:∀ j:Nat,(gs.getD j default).name.size≤maxLen) (hw:UnitW gs) (cl:List Cls) (most:Int) (hsel:¬ (begT sh lk gs cl most)=0):Ctr Try.prog 23 [Dcl.rowR sh,Dcl.rowR lk,Grf.rowR gs,Cls.rowR cl] [.agg [.h 0,.h 1,.h 2],.c (.h 3),.c (.i .i64 most)]
 (Det (.tup [(false,[.v (.pointer none)]),(false,[.i .i64 (begT sh lk gs cl most)])]) [.dead,.dead,.dead,.dead]):=by
 refine Ctr.intro [] Try.func23 K K ?_
 by_cases hsel2:(chkU sh lk gs).1=0
 ·refine tCall e_source_New (c_snew_ok (sh:=sh) (lk:=lk) (gs:=gs) (hs:=by first | assumption | omega) (hl:=by first | assumption | omega) (hg:=by first | assumption | omega) (hw:=by first | assumption | omega) (hsel:=by first | assumption | omega)) [] ?_
  refine tz [12,7,6,3,1,2] ?_
  refine tCond (!decide ((0:Int)=(0:Int))) (fun h1=>?_) (fun h1=>?_)
  ·exact absurd h1 (by first | decide | simp)
  ·refine tz [8,7,6,3,1,2] ?_
   refine tCond (!decide ((↑cl.length:Int)=(↑sh.length:Int))) (fun h2=>?_) (fun h2=>?_)
   ·exact tRet [] [1] [begT sh lk gs cl most=(210:Int)] (by simp only [Conj,begT] at *<;>grind)
   ·refine tz [8,7,6,1,2] ?_
    refine tCond (decide (most<(1:Int))||decide ((1048576:Int)<most)) (fun h3=>?_) (fun h3=>?_)
    ·exact tRet [] [1] [begT sh lk gs cl most=(2:Int)] (by simp only [Conj,begT] at *<;>grind)
    ·exact (show False from by (unfold begT at hsel;grind)).elim
 ·refine tCall e_source_New (c_snew_no (sh:=sh) (lk:=lk) (gs:=gs) (hs:=by first | assumption | omega) (hl:=by first | assumption | omega) (hg:=by first | assumption | omega) (hw:=by first | assumption | omega) (hsel:=by first | assumption | omega)) [] ?_
  refine tz [12,7,6,3,1,2] ?_
  refine tCond (!decide ((chkU sh lk gs).fst=(0:Int))) (fun h1=>?_) (fun h1=>?_)
  ·exact tRet [] [1] [begT sh lk gs cl most=(chkU sh lk gs).fst] (by simp only [Conj,begT] at *<;>grind)
  ·refine tz [8,7,6,3,1,2] ?_
   refine tCond (!decide ((↑cl.length:Int)=(↑sh.length:Int))) (fun h2=>?_) (fun h2=>?_)
   ·exact tRet [] [1] [begT sh lk gs cl most=(210:Int)] (by simp only [Conj,begT] at *<;>grind)
   ·refine tz [8,7,6,1,2] ?_
    refine tCond (decide (most<(1:Int))||decide ((1048576:Int)<most)) (fun h3=>?_) (fun h3=>?_)
    ·exact tRet [] [1] [begT sh lk gs cl most=(2:Int)] (by simp only [Conj,begT] at *<;>grind)
    ·exact (show False from by (unfold begT at hsel;grind)).elim
theorem c_tbeg_ok (sh lk:List Dcl) (gs:List Grf) (hs:∀ j:Nat,(sh.getD j default).name.size≤maxLen) (hl:∀ j:Nat,(lk.getD j default).name.size≤maxLen) (hg:∀ j:Nat,(gs.getD j default).name.size≤maxLen) (hw:UnitW gs) (cl:List Cls) (most:Int) (hsel:(begT sh lk gs cl most)=0):Ctr Try.prog 23 [Dcl.rowR sh,Dcl.rowR lk,Grf.rowR gs,Cls.rowR cl] [.agg [.h 0,.h 1,.h 2],.c (.h 3),.c (.i .i64 most)]
 (Det (.tup [(false,[.p 4 0]),(false,[.i .i64 0])]) [.dead,.dead,.dead,.dead,Reg.box 147 [.p 5 0,.h 3,.i .i64 most,.h 14],Reg.box 91 [.h 6,.h 7,.h 8,.h 9,.h 10,.h 11,.h 12,.h 13],Dcl.ownR sh,Dcl.ownR lk,Grf.ownR gs,IntOwn (newM sh lk gs).pos,Slt.ownR (newM sh lk gs).sl,WordOwn (newM sh lk gs).mem,IntOwn (newM sh lk gs).ho,Prt.ownR [],IntOwn []]):=by
 refine Ctr.intro [] Try.func23 K K ?_
 have hsel2:(chkU sh lk gs).1=0:=(begT_ok hsel).1
 refine tCall e_source_New (c_snew_ok (sh:=sh) (lk:=lk) (gs:=gs) (hs:=by first | assumption | omega) (hl:=by first | assumption | omega) (hg:=by first | assumption | omega) (hw:=by first | assumption | omega) (hsel:=by first | assumption | omega)) [] ?_
 refine tz [12,7,6,3,1,2] ?_
 refine tCond (!decide ((0:Int)=(0:Int))) (fun h1=>?_) (fun h1=>?_)
 ·exact absurd h1 (by first | decide | simp)
 ·refine tz [8,7,6,3,1,2] ?_
  refine tCond (!decide ((↑cl.length:Int)=(↑sh.length:Int))) (fun h2=>?_) (fun h2=>?_)
  ·exact (show False from by (have z:=begT_ok hsel;grind)).elim
  ·refine tz [8,7,6,1,2] ?_
   refine tCond (decide (most<(1:Int))||decide ((1048576:Int)<most)) (fun h3=>?_) (fun h3=>?_)
   ·exact (show False from by (have z:=begT_ok hsel;grind)).elim
   ·exact tRet [0,1,2,3,14,5,6,7,8,9,10,11,12,13,1000014] [15,17] [(0:Nat)=0,(0:Nat)=0] (by simp only [Conj,begT] at *<;>grind)
abbrev z88_1:=[21,20,19,18,17,16,15,14,13,12,11,10,9,8,4,0,1]
theorem c_tadv_no1 (sh lk:List Dcl) (gs:List Grf) (pos:List Int) (sl:List Slt) (mem ho:List Int) (pr:List Prt) (cl:List Cls) (most:Int) (st:List Int) (t:Int) (hQ:MchQ sh.length lk.length gs (Mch.mk pos sl mem ho pr)) (hb:sh.length≤64∧lk.length≤16∧gs.length≤8) (hp:pr.length≤4194304) (hw:UnitW gs) (hst:st.length≤1048576) (hsel:¬ (advM sh.length gs cl t most (Mch.mk pos sl mem ho pr)).err=0):Ctr Try.prog 48 [Reg.box 147 [.p 1 0,.h 10,.i .i64 most,.h 11],Reg.box 91 [.h 2,.h 3,.h 4,.h 5,.h 6,.h 7,.h 8,.h 9],Dcl.rowR sh,Dcl.rowR lk,Grf.rowR gs,IntOwn pos,Slt.ownR sl,WordOwn mem,IntOwn ho,Prt.ownR pr,Cls.rowR cl,IntOwn st] [.c (.p 0 0),.c (.i .i64 t)]
 (Det (.c (.i .i64 (telAdv sh.length gs cl most t (Tel.mk 0 (Mch.mk pos sl mem ho pr) st)).err)) [.dead,.dead,.dead,.dead,.dead,.dead,.dead,.dead,.dead,.dead,.dead,.dead]):=by
 refine Ctr.intro [] Try.func48 K K ?_
 refine tCall e_source_Machine_Advance (c_adv_no (sh:=sh) (lk:=lk) (gs:=gs) (pos:=pos) (sl:=sl) (mem:=mem) (ho:=ho) (pr:=pr) (cl:=cl) (t:=t) (most:=most) (hQ:=by first | assumption | exact advM_n1 hsel | exact advM_nle | exact rfl | omega) (hb:=by first | assumption | exact advM_n1 hsel | exact advM_nle | exact rfl | omega) (hp:=by first | assumption | exact advM_n1 hsel | exact advM_nle | exact rfl | omega) (hw:=by first | assumption | exact advM_n1 hsel | exact advM_nle | exact rfl | omega) (hsel:=by first | assumption | exact advM_n1 hsel | exact advM_nle | exact rfl | omega)) [1,2,3,4,5,6,7,8,9,10] ?_
 refine tz z88_1 ?_
 refine tCond (!decide ((advM sh.length gs cl t most (Mch.mk pos sl mem ho pr)).err=(0:Int))) (fun h1=>?_) (fun h1=>?_)
 ·rw [tel_err (x:=(Tel.mk 0 (Mch.mk pos sl mem ho pr) st)) h1]
  exact tRet
 ·exact (show False from by simp [hsel] at h1).elim
theorem c_tadv_no3 (sh lk:List Dcl) (gs:List Grf) (pos:List Int) (sl:List Slt) (mem ho:List Int) (pr:List Prt) (cl:List Cls) (most:Int) (st:List Int) (t:Int) (hQ:MchQ sh.length lk.length gs (Mch.mk pos sl mem ho pr)) (hb:sh.length≤64∧lk.length≤16∧gs.length≤8) (hp:pr.length≤4194304) (hw:UnitW gs) (hst:st.length≤1048576) (hsel:(advM sh.length gs cl t most (Mch.mk pos sl mem ho pr)).err=0) (hsel2:¬ (telAdv sh.length gs cl most t (Tel.mk 0 (Mch.mk pos sl mem ho pr) st)).err=0):Ctr Try.prog 48 [Reg.box 147 [.p 1 0,.h 10,.i .i64 most,.h 11],Reg.box 91 [.h 2,.h 3,.h 4,.h 5,.h 6,.h 7,.h 8,.h 9],Dcl.rowR sh,Dcl.rowR lk,Grf.rowR gs,IntOwn pos,Slt.ownR sl,WordOwn mem,IntOwn ho,Prt.ownR pr,Cls.rowR cl,IntOwn st] [.c (.p 0 0),.c (.i .i64 t)]
 (Det (.c (.i .i64 (telAdv sh.length gs cl most t (Tel.mk 0 (Mch.mk pos sl mem ho pr) st)).err)) [.dead,.dead,.dead,.dead,.dead,.dead,.dead,.dead,.dead,.dead,.dead,.dead]):=by
 refine Ctr.intro [] Try.func48 K K ?_
 have hz:(!decide ((advM sh.length gs cl t most (Mch.mk pos sl mem ho pr)).err=0))=false:=by simp [hsel]
 refine tCall e_source_Machine_Advance (c_adv_ok (sh:=sh) (lk:=lk) (gs:=gs) (pos:=pos) (sl:=sl) (mem:=mem) (ho:=ho) (pr:=pr) (cl:=cl) (t:=t) (most:=most) (hQ:=by first | assumption | exact advM_n1 hsel | exact advM_nle | exact rfl | omega) (hb:=by first | assumption | exact advM_n1 hsel | exact advM_nle | exact rfl | omega) (hp:=by first | assumption | exact advM_n1 hsel | exact advM_nle | exact rfl | omega) (hw:=by first | assumption | exact advM_n1 hsel | exact advM_nle | exact rfl | omega) (hsel:=by first | assumption | exact advM_n1 hsel | exact advM_nle | exact rfl | omega)) [1,2,3,4,5,6,7,8,9,10] ?_
 refine tz z88_1 ?_
 refine tCond (!decide ((0:Int)=(0:Int))) (fun h1=>?_) (fun h1=>?_)
 ·exact absurd h1 (by first | decide | simp)
 ·refine tz [5,4,0,1] ?_
  refine tCond (decide ((1048576:Int)<(↑st.length:Int)+(advM sh.length gs cl t most (Mch.mk pos sl mem ho pr)).n)) (fun h2=>?_) (fun h2=>?_) (vc:=[Fits IntKind.i64 ((↑st.length:Int)+(advM sh.length gs cl t most (Mch.mk pos sl mem ho pr)).n)]) (hv:=(by simp only [Conj,Fits,i64_min,i64_max,u8_min,u8_max,News.len,maxLen]<;>(repeat' (first | apply And.intro | intro _))<;>first | (intros;exact i64T.flat _ _ (by assumption)) | (have z1:=advM_nle (ns:=sh.length) (gs:=gs) (cl:=cl) (t:=t) (most:=most) (m:=Mch.mk pos sl mem ho pr);have z2:=advM_n1 hsel;simp only [List.length_replicate];omega) | (have z1:=advM_nle (ns:=sh.length) (gs:=gs) (cl:=cl) (t:=t) (most:=most) (m:=Mch.mk pos sl mem ho pr);have z2:=advM_n1 hsel;omega) | grind | (simp only [BL] at *;omega)))
  ·rw [tel_many (x:=(Tel.mk 0 (Mch.mk pos sl mem ho pr) st)) hz h2]
   exact tRet
  ·exact (show False from by rw [tel_ok (x:=(Tel.mk 0 (Mch.mk pos sl mem ho pr) st)) hz h2] at hsel2;exact hsel2 rfl).elim
theorem c_tadv_ok (sh lk:List Dcl) (gs:List Grf) (pos:List Int) (sl:List Slt) (mem ho:List Int) (pr:List Prt) (cl:List Cls) (most:Int) (st:List Int) (t:Int) (hQ:MchQ sh.length lk.length gs (Mch.mk pos sl mem ho pr)) (hb:sh.length≤64∧lk.length≤16∧gs.length≤8) (hp:pr.length≤4194304) (hw:UnitW gs) (hst:st.length≤1048576) (hsel2:(telAdv sh.length gs cl most t (Tel.mk 0 (Mch.mk pos sl mem ho pr) st)).err=0):Ctr Try.prog 48 [Reg.box 147 [.p 1 0,.h 10,.i .i64 most,.h 11],Reg.box 91 [.h 2,.h 3,.h 4,.h 5,.h 6,.h 7,.h 8,.h 9],Dcl.rowR sh,Dcl.rowR lk,Grf.rowR gs,IntOwn pos,Slt.ownR sl,WordOwn mem,IntOwn ho,Prt.ownR pr,Cls.rowR cl,IntOwn st] [.c (.p 0 0),.c (.i .i64 t)]
 (Det (.c (.i .i64 0)) [Reg.box 147 [.p 1 0,.h 10,.i .i64 most,.h 17],Reg.box 91 [.h 2,.h 3,.h 4,.h 12,.h 13,.h 14,.h 15,.h 16],.dead,.dead,.dead,.dead,.dead,.dead,.dead,.dead,.dead,.dead,IntOwn (telAdv sh.length gs cl most t (Tel.mk 0 (Mch.mk pos sl mem ho pr) st)).m.pos,Slt.ownR (telAdv sh.length gs cl most t (Tel.mk 0 (Mch.mk pos sl mem ho pr) st)).m.sl,WordOwn (telAdv sh.length gs cl most t (Tel.mk 0 (Mch.mk pos sl mem ho pr) st)).m.mem,IntOwn (telAdv sh.length gs cl most t (Tel.mk 0 (Mch.mk pos sl mem ho pr) st)).m.ho,Prt.ownR (telAdv sh.length gs cl most t (Tel.mk 0 (Mch.mk pos sl mem ho pr) st)).m.pr,IntOwn (telAdv sh.length gs cl most t (Tel.mk 0 (Mch.mk pos sl mem ho pr) st)).st]):=by
 refine Ctr.intro [] Try.func48 K K ?_
 have hsel:(advM sh.length gs cl t most (Mch.mk pos sl mem ho pr)).err=0:=tel_ok0 hsel2
 have hz:(!decide ((advM sh.length gs cl t most (Mch.mk pos sl mem ho pr)).err=0))=false:=by simp [hsel]
 refine tCall e_source_Machine_Advance (c_adv_ok (sh:=sh) (lk:=lk) (gs:=gs) (pos:=pos) (sl:=sl) (mem:=mem) (ho:=ho) (pr:=pr) (cl:=cl) (t:=t) (most:=most) (hQ:=by first | assumption | exact advM_n1 hsel | exact advM_nle | exact rfl | omega) (hb:=by first | assumption | exact advM_n1 hsel | exact advM_nle | exact rfl | omega) (hp:=by first | assumption | exact advM_n1 hsel | exact advM_nle | exact rfl | omega) (hw:=by first | assumption | exact advM_n1 hsel | exact advM_nle | exact rfl | omega) (hsel:=by first | assumption | exact advM_n1 hsel | exact advM_nle | exact rfl | omega)) [1,2,3,4,5,6,7,8,9,10] ?_
 refine tz z88_1 ?_
 refine tCond (!decide ((0:Int)=(0:Int))) (fun h1=>?_) (fun h1=>?_)
 ·exact absurd h1 (by first | decide | simp)
 ·refine tz [5,4,0,1] ?_
  refine tCond (decide ((1048576:Int)<(↑st.length:Int)+(advM sh.length gs cl t most (Mch.mk pos sl mem ho pr)).n)) (fun h2=>?_) (fun h2=>?_) (vc:=[Fits IntKind.i64 ((↑st.length:Int)+(advM sh.length gs cl t most (Mch.mk pos sl mem ho pr)).n)]) (hv:=(by simp only [Conj,Fits,i64_min,i64_max,u8_min,u8_max,News.len,maxLen]<;>(repeat' (first | apply And.intro | intro _))<;>first | (intros;exact i64T.flat _ _ (by assumption)) | (have z1:=advM_nle (ns:=sh.length) (gs:=gs) (cl:=cl) (t:=t) (most:=most) (m:=Mch.mk pos sl mem ho pr);have z2:=advM_n1 hsel;simp only [List.length_replicate];omega) | (have z1:=advM_nle (ns:=sh.length) (gs:=gs) (cl:=cl) (t:=t) (most:=most) (m:=Mch.mk pos sl mem ho pr);have z2:=advM_n1 hsel;omega) | grind | (simp only [BL] at *;omega)))
  ·exact (show False from by rw [tel_many (x:=(Tel.mk 0 (Mch.mk pos sl mem ho pr) st)) hz h2] at hsel2;cases hsel2).elim
  ·rw [tel_ok (x:=(Tel.mk 0 (Mch.mk pos sl mem ho pr) st)) hz h2]
   refine tz [5,4,0,1] ?_
   refine tCall e_slices_Repeat_int (c_repeatL (l:=[t]) (n:=(advM sh.length gs cl t most (Mch.mk pos sl mem ho pr)).n) (hl1:=by first | assumption | exact advM_n1 hsel | exact advM_nle | exact rfl | omega) (h0:=by first | assumption | exact advM_n1 hsel | exact advM_nle | exact rfl | omega) (h1:=by first | assumption | exact advM_n1 hsel | exact advM_nle | exact rfl | omega)) [17] ?_ [0,1,2] [[t].length=1,∀ (i:Nat),i < [t].length→i≠0→i64T ([t].getD i (0:Int))=fun x=>TC.any,i64T t 0=TC.val (Value.int IntKind.i64 t)] (by (try simp only [Conj])<;>(repeat' apply And.intro)<;>first | done | trivial | rfl | (intros;first | rfl | trivial) | exact snoc_len _ _ | exact List.length_set | (intro i h1 h2;exact absurd h1 (by simp;omega)) | exact set_ints _ _ _ | exact take_row _ _ _ _ _ | (exact take_len _ _ _ (by first | omega | (have h0:=askE_ok (by simpa using h1);have hm:=evE_mem h0.1;have hs:=evE_ok h0.1;omega))) | exact MpEq.put (by omega) | (refine MpEq.mk' (by omega) ?_ ?_<;>intro q<;>first | rfl | (dsimp only;split<;>simp_all)) | (exact MpEq.mkIt (by omega) (fun _=>rfl) (fun _=>rfl) rfl rfl (fun _=>rfl)) | (intro i h1 h2;rw [snoc_lo h1 h2]) | (rw [getD_snoc];rfl))
   exact tRet [0,1,2,3,4,5,6,7,8,9,10,11,12,13,14,15,16,19] [11,12] [(st++List.replicate (advM sh.length gs cl t most (Mch.mk pos sl mem ho pr)).n.toNat t).length=st.length+(List.replicate (advM sh.length gs cl t most (Mch.mk pos sl mem ho pr)).n.toNat t).length,∀ (i:Nat),i<(st++List.replicate (advM sh.length gs cl t most (Mch.mk pos sl mem ho pr)).n.toNat t).length→i64T ((st++List.replicate (advM sh.length gs cl t most (Mch.mk pos sl mem ho pr)).n.toNat t).getD i (0:Int))=fun j=>if i<st.length then i64T (st.getD i (0:Int)) j else i64T ((List.replicate (advM sh.length gs cl t most (Mch.mk pos sl mem ho pr)).n.toNat t).getD (i-st.length) (0:Int)) j] (by simp only [Conj];(repeat' apply And.intro)<;>first | trivial | rfl | (intros;first | trivial | rfl) | exact List.length_append | exact getD_app 0 i64T _ _) (vc:=[∀ (i j:Nat),i<(List.replicate (advM sh.length gs cl t most (Mch.mk pos sl mem ho pr)).n.toNat t).length→j<1→flatT (i64T ((List.replicate (advM sh.length gs cl t most (Mch.mk pos sl mem ho pr)).n.toNat t).getD i (0:Int)) j),st.length+(List.replicate (advM sh.length gs cl t most (Mch.mk pos sl mem ho pr)).n.toNat t).length≤maxLen,(st.length+(List.replicate (advM sh.length gs cl t most (Mch.mk pos sl mem ho pr)).n.toNat t).length) * 8≤140737488355328]) (hv:=(by simp only [Conj,Fits,i64_min,i64_max,u8_min,u8_max,News.len,maxLen]<;>(repeat' (first | apply And.intro | intro _))<;>first | (intros;exact i64T.flat _ _ (by assumption)) | (have z1:=advM_nle (ns:=sh.length) (gs:=gs) (cl:=cl) (t:=t) (most:=most) (m:=Mch.mk pos sl mem ho pr);have z2:=advM_n1 hsel;simp only [List.length_replicate];omega) | (have z1:=advM_nle (ns:=sh.length) (gs:=gs) (cl:=cl) (t:=t) (most:=most) (m:=Mch.mk pos sl mem ho pr);have z2:=advM_n1 hsel;omega) | grind | (simp only [BL] at *;omega)))
theorem c_tstory (sh lk:List Dcl) (gs:List Grf) (pos:List Int) (sl:List Slt) (mem ho:List Int) (pr:List Prt) (cl:List Cls) (most:Int) (st:List Int) (hQ:MchQ sh.length lk.length gs (Mch.mk pos sl mem ho pr)) (hb:sh.length≤64∧lk.length≤16∧gs.length≤8) (hp:pr.length≤4194304) (hw:UnitW gs) (hst:st.length≤1048576):Ctr Try.prog 25 [.ro [.p 1 0,.h 10,.i .i64 most,.h 11],.ro [.h 2,.h 3,.h 4,.h 5,.h 6,.h 7,.h 8,.h 9],Dcl.rowR sh,Dcl.rowR lk,Grf.rowR gs,IntRow pos,Slt.rowR sl,WordRow mem,IntRow ho,Prt.rowR pr,Cls.rowR cl,IntRow st] [.c (.p 0 0)]
 (Det (.agg [.h 11,.h 12,.h 13,.b (endM gs pos ho)]) [.dead,.dead,.dead,.dead,.dead,.dead,.dead,.dead,.dead,.dead,.dead,.dead,Prt.ownR pr,WordOwn mem]):=by
 refine Ctr.intro [] Try.func25 K K ?_
 refine tCall e_source_Machine_Prints (c_prints (sh:=sh) (lk:=lk) (gs:=gs) (pos:=pos) (sl:=sl) (mem:=mem) (ho:=ho) (pr:=pr) (hQ:=by first | assumption | omega) (hb:=by first | assumption | omega) (hp:=by first | assumption | omega)) [1,2,3,4,5,6,7,8,9] ?_
 refine tz [11,20,19,18,17,15,14,13,12,10,9,8,7,6,5,4,3,2,0] ?_
 refine tCall e_source_Machine_Memory (c_memory (sh:=sh) (lk:=lk) (gs:=gs) (pos:=pos) (sl:=sl) (mem:=mem) (ho:=ho) (pr:=pr) (hQ:=by first | assumption | omega) (hb:=by first | assumption | omega) (hp:=by first | assumption | omega)) [1,2,3,4,5,6,7,8,9] ?_
 refine tz [16,11,20,19,18,17,15,14,13,12,10,9,8,7,6,5,4,3,2,0] ?_
 refine tCall e_source_Machine_Ended (c_ended (sh:=sh) (lk:=lk) (gs:=gs) (pos:=pos) (sl:=sl) (mem:=mem) (ho:=ho) (pr:=pr) (hQ:=by first | assumption | omega) (hb:=by first | assumption | omega) (hp:=by first | assumption | omega) (hw:=by first | assumption | omega)) [1,2,3,4,5,6,7,8,9] ?_
 exact tRet [0,1,2,3,4,5,6,7,8,9,10,11,13,14]
end Go.Proofs.Ytmjjikcappbkeaa
end
noncomputable section
namespace Go.Proofs.Ytmjjikcappbkeaa
open Go Go.Tx
theorem c_tadv_no (sh lk:List Dcl) (gs:List Grf) (pos:List Int) (sl:List Slt) (mem ho:List Int) (pr:List Prt) (cl:List Cls) (most:Int) (st:List Int) (t:Int) (hQ:MchQ sh.length lk.length gs (Mch.mk pos sl mem ho pr)) (hb:sh.length≤64∧lk.length≤16∧gs.length≤8) (hp:pr.length≤4194304) (hw:UnitW gs) (hst:st.length≤1048576) (hsel:¬ (telAdv sh.length gs cl most t (Tel.mk 0 (Mch.mk pos sl mem ho pr) st)).err=0):Ctr Try.prog 48 [Reg.box 147 [.p 1 0,.h 10,.i .i64 most,.h 11],Reg.box 91 [.h 2,.h 3,.h 4,.h 5,.h 6,.h 7,.h 8,.h 9],Dcl.rowR sh,Dcl.rowR lk,Grf.rowR gs,IntOwn pos,Slt.ownR sl,WordOwn mem,IntOwn ho,Prt.ownR pr,Cls.rowR cl,IntOwn st] [.c (.p 0 0),.c (.i .i64 t)]
 (Det (.c (.i .i64 (telAdv sh.length gs cl most t (Tel.mk 0 (Mch.mk pos sl mem ho pr) st)).err)) [.dead,.dead,.dead,.dead,.dead,.dead,.dead,.dead,.dead,.dead,.dead,.dead]):=by
 by_cases h:(advM sh.length gs cl t most (Mch.mk pos sl mem ho pr)).err=0
 ·exact c_tadv_no3 _ _ _ _ _ _ _ _ _ _ _ t hQ hb hp hw hst h hsel
 ·exact c_tadv_no1 _ _ _ _ _ _ _ _ _ _ _ t hQ hb hp hw hst h
abbrev z89_2 (most:Int) (sh:List Dcl) (lk:List Dcl) (gs:List Grf) (cl:List Cls) (l:List Int):=[Reg.box 147 [C.p 1 0,C.h 10,C.i .i64 most,C.h 13],Reg.box 91 [C.h 2,C.h 3,C.h 4,C.h 14,C.h 15,C.h 16,C.h 17,C.h 18],Reg.row 3 sh.length (fun i=>(sh.getD i default).tc) none,Reg.row 3 lk.length (fun i=>(lk.getD i default).tc) none,Reg.row 4 gs.length (fun i=>(gs.getD i default).tc) none,Reg.dead,Reg.dead,Reg.dead,Reg.dead,Reg.dead,Reg.row 3 cl.length (fun i=>(cl.getD i default).tc) none,Reg.dead,Reg.row 1 l.length (fun i=>i64T (l.getD i (0:Int))) none]
def L24_60_I (sh:List Dcl) (lk:List Dcl) (gs:List Grf) (pos:List Int) (sl:List Slt) (mem:List Int) (ho:List Int) (pr:List Prt) (cl:List Cls) (most:Int) (st:List Int) (l:List Int):Int×Int×List Int×List Int×List Slt×List Int×List Int×List Prt→St:=fun x=>{ N:=21,fr:=[{ slot:=10,g:=[],sv:=SV.c (C.i .i64 x.1) },{ slot:=9,g:=[],sv:=SV.c (C.i .i64 (↑l.length:Int)) },{ slot:=8,g:=[],sv:=SV.c (C.h 12) },{ slot:=4,g:=[],sv:=SV.c (C.i .i64 x.2.1) },{ slot:=0,g:=[],sv:=SV.c (C.p 0 0) }],rg:=(z89_2 most sh lk gs cl l)++[IntOwn x.2.2.1]++[IntOwn x.2.2.2.1]++[Slt.ownR x.2.2.2.2.1]++[WordOwn x.2.2.2.2.2.1]++[IntOwn x.2.2.2.2.2.2.1]++[Prt.ownR x.2.2.2.2.2.2.2],wr:=[] }
def L24_60_J (sh:List Dcl) (lk:List Dcl) (gs:List Grf) (pos:List Int) (sl:List Slt) (mem:List Int) (ho:List Int) (pr:List Prt) (cl:List Cls) (most:Int) (st:List Int) (l:List Int):Int×Int×List Int×List Int×List Slt×List Int×List Int×List Prt→Prop:=fun x=>FolJ sh.length lk.length gs cl most l (Tel.mk 0 (Mch.mk pos sl mem ho pr) st) x.1 (Tel.mk 0 (Mch.mk x.2.2.2.1 x.2.2.2.2.1 x.2.2.2.2.2.1 x.2.2.2.2.2.2.1 x.2.2.2.2.2.2.2) x.2.2.1)
def L24_60_m (sh:List Dcl) (lk:List Dcl) (gs:List Grf) (pos:List Int) (sl:List Slt) (mem:List Int) (ho:List Int) (pr:List Prt) (cl:List Cls) (most:Int) (st:List Int) (l:List Int):Int×Int×List Int×List Int×List Slt×List Int×List Int×List Prt→Nat:=fun x=>((l.length:Int)-x.1).toNat
def L24_60 (sh:List Dcl) (lk:List Dcl) (gs:List Grf) (pos:List Int) (sl:List Slt) (mem:List Int) (ho:List Int) (pr:List Prt) (cl:List Cls) (most:Int) (st:List Int) (l:List Int):Lp (Int×Int×List Int×List Int×List Slt×List Int×List Int×List Prt):=⟨L24_60_I sh lk gs pos sl mem ho pr cl most st l,L24_60_J sh lk gs pos sl mem ho pr cl most st l,L24_60_m sh lk gs pos sl mem ho pr cl most st l⟩
abbrev z89_1 (sh:List Dcl) (gs:List Grf) (cl:List Cls) (most:Int) (l:List Int) (x1_0:Int) (x1_3:List Int) (x1_4:List Slt) (x1_5:List Int) (x1_6:List Int) (x1_7:List Prt) (x1_2:List Int):=(telAdv sh.length gs cl most (l.getD x1_0.toNat (0:Int)) (Tel.mk (0:Int) (Mch.mk x1_3 x1_4 x1_5 x1_6 x1_7) x1_2))
abbrev z89_3:=[0,1,2,3,4,14,15,16,17,18,10,13]
abbrev z89_4 (x1_0:Int) (x1_1:Int) (sh:List Dcl) (gs:List Grf) (cl:List Cls) (most:Int) (l:List Int) (x1_3:List Int) (x1_4:List Slt) (x1_5:List Int) (x1_6:List Int) (x1_7:List Prt) (x1_2:List Int):=((x1_0+(1:Int),x1_1,(z89_1 sh gs cl most l x1_0 x1_3 x1_4 x1_5 x1_6 x1_7 x1_2).st,(z89_1 sh gs cl most l x1_0 x1_3 x1_4 x1_5 x1_6 x1_7 x1_2).m.pos,(z89_1 sh gs cl most l x1_0 x1_3 x1_4 x1_5 x1_6 x1_7 x1_2).m.sl,(z89_1 sh gs cl most l x1_0 x1_3 x1_4 x1_5 x1_6 x1_7 x1_2).m.mem,(z89_1 sh gs cl most l x1_0 x1_3 x1_4 x1_5 x1_6 x1_7 x1_2).m.ho,(z89_1 sh gs cl most l x1_0 x1_3 x1_4 x1_5 x1_6 x1_7 x1_2).m.pr))
theorem c_tfol_no (sh lk:List Dcl) (gs:List Grf) (pos:List Int) (sl:List Slt) (mem ho:List Int) (pr:List Prt) (cl:List Cls) (most:Int) (st:List Int) (l:List Int) (hQ:MchQ sh.length lk.length gs (Mch.mk pos sl mem ho pr)) (hb:sh.length≤64∧lk.length≤16∧gs.length≤8) (hp:pr.length≤4194304) (hw:UnitW gs) (hst:st.length≤1048576) (hpp:pr.length≤st.length) (hsel0:¬ (telGo sh.length gs cl most l (Tel.mk 0 (Mch.mk pos sl mem ho pr) st)).err=0):Ctr Try.prog 24 [Reg.box 147 [.p 1 0,.h 10,.i .i64 most,.h 11],Reg.box 91 [.h 2,.h 3,.h 4,.h 5,.h 6,.h 7,.h 8,.h 9],Dcl.rowR sh,Dcl.rowR lk,Grf.rowR gs,IntOwn pos,Slt.ownR sl,WordOwn mem,IntOwn ho,Prt.ownR pr,Cls.rowR cl,IntOwn st,IntRow l] [.c (.p 0 0),.c (.h 12)]
 (Det (.c (.i .i64 (telGo sh.length gs cl most l (Tel.mk 0 (Mch.mk pos sl mem ho pr) st)).err)) [.dead,.dead,.dead,.dead,.dead,.dead,.dead,.dead,.dead,.dead,.dead,.dead,.dead]):=by
 refine Ctr.intro [] Try.func24 K K ?_
 refine RunF.lens 12 (m:=l.length) K (fun hlens_12=>?_)
 refine tLoop (L24_60 sh lk gs pos sl mem ho pr cl most st l) (((0:Int),(0:Int),st,pos,sl,mem,ho,pr)) (FolJ.start hQ hpp hst) ?_ [0,1,2,3,4,5,6,7,8,9,10,11,12,11,5,6,7,8,9]
 rintro ⟨x1_0,x1_1,x1_2,x1_3,x1_4,x1_5,x1_6,x1_7⟩ hJ1
 dsimp only [L24_60,L24_60_J] at hJ1
 refine tz [10,9,8,4,0] ?_
 refine tCond (decide (x1_0<(↑l.length:Int))) (fun h2=>?_) (fun h2=>?_)
 ·by_cases hsel:(telAdv sh.length gs cl most (l.getD x1_0.toNat (0:Int)) (Tel.mk 0 (Mch.mk x1_3 x1_4 x1_5 x1_6 x1_7) x1_2)).err=0
  ·refine tz [10,9,8,4,0] ?_
   refine tCall e_witness_telling_advance (c_tadv_ok (sh:=sh) (lk:=lk) (gs:=gs) (pos:=x1_3) (sl:=x1_4) (mem:=x1_5) (ho:=x1_6) (pr:=x1_7) (cl:=cl) (most:=most) (st:=x1_2) (t:=l.getD x1_0.toNat (0:Int)) (hQ:=by first | assumption | exact hJ1.q | exact hJ1.st | (have z:=hJ1.pr;have z2:=hJ1.st;dsimp only at z z2;omega)) (hb:=by first | assumption | exact hJ1.q | exact hJ1.st | (have z:=hJ1.pr;have z2:=hJ1.st;dsimp only at z z2;omega)) (hp:=by first | assumption | exact hJ1.q | exact hJ1.st | (have z:=hJ1.pr;have z2:=hJ1.st;dsimp only at z z2;omega)) (hw:=by first | assumption | exact hJ1.q | exact hJ1.st | (have z:=hJ1.pr;have z2:=hJ1.st;dsimp only at z z2;omega)) (hst:=by first | assumption | exact hJ1.q | exact hJ1.st | (have z:=hJ1.pr;have z2:=hJ1.st;dsimp only at z z2;omega)) (hsel2:=by first | assumption | exact hJ1.q | exact hJ1.st | (have z:=hJ1.pr;have z2:=hJ1.st;dsimp only at z z2;omega))) z89_3 ?_ (vc:=[(0:Int)≤x1_0,x1_0<(↑l.length:Int),x1_0.toNat<l.length]) (hv:=(by simp only [Conj,Fits,i64_min,i64_max,u8_min,u8_max,News.len,maxLen]<;>(repeat' (first | apply And.intro | intro _))<;>first | (have z:=hJ1.lo;have q:=of_decide_eq_true h2;omega) | grind | (simp only [BL] at *;omega)))
   refine tz [16,10,9,8,4,0] ?_
   refine tCond (!decide ((0:Int)=(0:Int))) (fun h3=>?_) (fun h3=>?_)
   ·exact absurd h3 (by first | decide | simp)
   ·exact tNext (L24_60 sh lk gs pos sl mem ho pr cl most st l) (x1_0,x1_1,x1_2,x1_3,x1_4,x1_5,x1_6,x1_7) (z89_4 x1_0 x1_1 sh gs cl most l x1_3 x1_4 x1_5 x1_6 x1_7 x1_2) (by dsimp only [L24_60,L24_60_m];have z:=hJ1.lo;have q:=of_decide_eq_true h2;omega) (FolJ.next hw hJ1 h2 hsel) [0,1,2,3,4,5,6,7,8,9,10,11,12,24,19,20,21,22,23] (vc:=[Fits IntKind.i64 (x1_0+(1:Int))]) (hv:=(by simp only [Conj,Fits,i64_min,i64_max,u8_min,u8_max,News.len,maxLen]<;>(repeat' (first | apply And.intro | intro _))<;>first | (have z:=hJ1.lo;have q:=of_decide_eq_true h2;omega) | grind | (simp only [BL] at *;omega)))
  ·refine tz [10,9,8,4,0] ?_
   refine tCall e_witness_telling_advance (c_tadv_no (sh:=sh) (lk:=lk) (gs:=gs) (pos:=x1_3) (sl:=x1_4) (mem:=x1_5) (ho:=x1_6) (pr:=x1_7) (cl:=cl) (most:=most) (st:=x1_2) (t:=l.getD x1_0.toNat (0:Int)) (hQ:=by first | assumption | exact hJ1.q | exact hJ1.st | (have z:=hJ1.pr;have z2:=hJ1.st;dsimp only at z z2;omega)) (hb:=by first | assumption | exact hJ1.q | exact hJ1.st | (have z:=hJ1.pr;have z2:=hJ1.st;dsimp only at z z2;omega)) (hp:=by first | assumption | exact hJ1.q | exact hJ1.st | (have z:=hJ1.pr;have z2:=hJ1.st;dsimp only at z z2;omega)) (hw:=by first | assumption | exact hJ1.q | exact hJ1.st | (have z:=hJ1.pr;have z2:=hJ1.st;dsimp only at z z2;omega)) (hst:=by first | assumption | exact hJ1.q | exact hJ1.st | (have z:=hJ1.pr;have z2:=hJ1.st;dsimp only at z z2;omega)) (hsel:=by first | assumption | exact hJ1.q | exact hJ1.st | (have z:=hJ1.pr;have z2:=hJ1.st;dsimp only at z z2;omega))) z89_3 ?_ (vc:=[(0:Int)≤x1_0,x1_0<(↑l.length:Int),x1_0.toNat<l.length]) (hv:=(by simp only [Conj,Fits,i64_min,i64_max,u8_min,u8_max,News.len,maxLen]<;>(repeat' (first | apply And.intro | intro _))<;>first | (have z:=hJ1.lo;have q:=of_decide_eq_true h2;omega) | grind | (simp only [BL] at *;omega)))
   refine tz [16,10,9,8,4,0] ?_
   refine tCond (!decide ((z89_1 sh gs cl most l x1_0 x1_3 x1_4 x1_5 x1_6 x1_7 x1_2).err=(0:Int))) (fun h3=>?_) (fun h3=>?_)
   ·rw [FolJ.err hJ1 h2 hsel]
    exact tRet
   ·exact (show False from by simp [hsel] at h3).elim
 ·exact (show False from by rw [FolJ.done hJ1 h2] at hsel0;exact hsel0 rfl).elim
def L24_70_I (sh:List Dcl) (lk:List Dcl) (gs:List Grf) (pos:List Int) (sl:List Slt) (mem:List Int) (ho:List Int) (pr:List Prt) (cl:List Cls) (most:Int) (st:List Int) (l:List Int):Int×Int×List Int×List Int×List Slt×List Int×List Int×List Prt→St:=fun x=>{ N:=21,fr:=[{ slot:=10,g:=[],sv:=SV.c (C.i .i64 x.1) },{ slot:=9,g:=[],sv:=SV.c (C.i .i64 (↑l.length:Int)) },{ slot:=8,g:=[],sv:=SV.c (C.h 12) },{ slot:=4,g:=[],sv:=SV.c (C.i .i64 x.2.1) },{ slot:=0,g:=[],sv:=SV.c (C.p 0 0) }],rg:=(z89_2 most sh lk gs cl l)++[IntOwn x.2.2.1]++[IntOwn x.2.2.2.1]++[Slt.ownR x.2.2.2.2.1]++[WordOwn x.2.2.2.2.2.1]++[IntOwn x.2.2.2.2.2.2.1]++[Prt.ownR x.2.2.2.2.2.2.2],wr:=[] }
def L24_70_J (sh:List Dcl) (lk:List Dcl) (gs:List Grf) (pos:List Int) (sl:List Slt) (mem:List Int) (ho:List Int) (pr:List Prt) (cl:List Cls) (most:Int) (st:List Int) (l:List Int):Int×Int×List Int×List Int×List Slt×List Int×List Int×List Prt→Prop:=fun x=>FolJ sh.length lk.length gs cl most l (Tel.mk 0 (Mch.mk pos sl mem ho pr) st) x.1 (Tel.mk 0 (Mch.mk x.2.2.2.1 x.2.2.2.2.1 x.2.2.2.2.2.1 x.2.2.2.2.2.2.1 x.2.2.2.2.2.2.2) x.2.2.1)
def L24_70_m (sh:List Dcl) (lk:List Dcl) (gs:List Grf) (pos:List Int) (sl:List Slt) (mem:List Int) (ho:List Int) (pr:List Prt) (cl:List Cls) (most:Int) (st:List Int) (l:List Int):Int×Int×List Int×List Int×List Slt×List Int×List Int×List Prt→Nat:=fun x=>((l.length:Int)-x.1).toNat
def L24_70 (sh:List Dcl) (lk:List Dcl) (gs:List Grf) (pos:List Int) (sl:List Slt) (mem:List Int) (ho:List Int) (pr:List Prt) (cl:List Cls) (most:Int) (st:List Int) (l:List Int):Lp (Int×Int×List Int×List Int×List Slt×List Int×List Int×List Prt):=⟨L24_70_I sh lk gs pos sl mem ho pr cl most st l,L24_70_J sh lk gs pos sl mem ho pr cl most st l,L24_70_m sh lk gs pos sl mem ho pr cl most st l⟩
theorem c_tfol_ok (sh lk:List Dcl) (gs:List Grf) (pos:List Int) (sl:List Slt) (mem ho:List Int) (pr:List Prt) (cl:List Cls) (most:Int) (st:List Int) (l:List Int) (hQ:MchQ sh.length lk.length gs (Mch.mk pos sl mem ho pr)) (hb:sh.length≤64∧lk.length≤16∧gs.length≤8) (hp:pr.length≤4194304) (hw:UnitW gs) (hst:st.length≤1048576) (hpp:pr.length≤st.length) (hsel0:(telGo sh.length gs cl most l (Tel.mk 0 (Mch.mk pos sl mem ho pr) st)).err=0):Ctr Try.prog 24 [Reg.box 147 [.p 1 0,.h 10,.i .i64 most,.h 11],Reg.box 91 [.h 2,.h 3,.h 4,.h 5,.h 6,.h 7,.h 8,.h 9],Dcl.rowR sh,Dcl.rowR lk,Grf.rowR gs,IntOwn pos,Slt.ownR sl,WordOwn mem,IntOwn ho,Prt.ownR pr,Cls.rowR cl,IntOwn st,IntRow l] [.c (.p 0 0),.c (.h 12)]
 (Det (.c (.i .i64 0)) [Reg.box 147 [.p 1 0,.h 10,.i .i64 most,.h 18],Reg.box 91 [.h 2,.h 3,.h 4,.h 13,.h 14,.h 15,.h 16,.h 17],.dead,.dead,.dead,.dead,.dead,.dead,.dead,.dead,.dead,.dead,.dead,IntOwn (telGo sh.length gs cl most l (Tel.mk 0 (Mch.mk pos sl mem ho pr) st)).m.pos,Slt.ownR (telGo sh.length gs cl most l (Tel.mk 0 (Mch.mk pos sl mem ho pr) st)).m.sl,WordOwn (telGo sh.length gs cl most l (Tel.mk 0 (Mch.mk pos sl mem ho pr) st)).m.mem,IntOwn (telGo sh.length gs cl most l (Tel.mk 0 (Mch.mk pos sl mem ho pr) st)).m.ho,Prt.ownR (telGo sh.length gs cl most l (Tel.mk 0 (Mch.mk pos sl mem ho pr) st)).m.pr,IntOwn (telGo sh.length gs cl most l (Tel.mk 0 (Mch.mk pos sl mem ho pr) st)).st]):=by
 refine Ctr.intro [] Try.func24 K K ?_
 refine RunF.lens 12 (m:=l.length) K (fun hlens_12=>?_)
 refine tLoop (L24_70 sh lk gs pos sl mem ho pr cl most st l) (((0:Int),(0:Int),st,pos,sl,mem,ho,pr)) (FolJ.start hQ hpp hst) ?_ [0,1,2,3,4,5,6,7,8,9,10,11,12,11,5,6,7,8,9]
 rintro ⟨x1_0,x1_1,x1_2,x1_3,x1_4,x1_5,x1_6,x1_7⟩ hJ1
 dsimp only [L24_70,L24_70_J] at hJ1
 refine tz [10,9,8,4,0] ?_
 refine tCond (decide (x1_0<(↑l.length:Int))) (fun h2=>?_) (fun h2=>?_)
 ·by_cases hsel:(telAdv sh.length gs cl most (l.getD x1_0.toNat (0:Int)) (Tel.mk 0 (Mch.mk x1_3 x1_4 x1_5 x1_6 x1_7) x1_2)).err=0
  ·refine tz [10,9,8,4,0] ?_
   refine tCall e_witness_telling_advance (c_tadv_ok (sh:=sh) (lk:=lk) (gs:=gs) (pos:=x1_3) (sl:=x1_4) (mem:=x1_5) (ho:=x1_6) (pr:=x1_7) (cl:=cl) (most:=most) (st:=x1_2) (t:=l.getD x1_0.toNat (0:Int)) (hQ:=by first | assumption | exact hJ1.q | exact hJ1.st | (have z:=hJ1.pr;have z2:=hJ1.st;dsimp only at z z2;omega)) (hb:=by first | assumption | exact hJ1.q | exact hJ1.st | (have z:=hJ1.pr;have z2:=hJ1.st;dsimp only at z z2;omega)) (hp:=by first | assumption | exact hJ1.q | exact hJ1.st | (have z:=hJ1.pr;have z2:=hJ1.st;dsimp only at z z2;omega)) (hw:=by first | assumption | exact hJ1.q | exact hJ1.st | (have z:=hJ1.pr;have z2:=hJ1.st;dsimp only at z z2;omega)) (hst:=by first | assumption | exact hJ1.q | exact hJ1.st | (have z:=hJ1.pr;have z2:=hJ1.st;dsimp only at z z2;omega)) (hsel2:=by first | assumption | exact hJ1.q | exact hJ1.st | (have z:=hJ1.pr;have z2:=hJ1.st;dsimp only at z z2;omega))) z89_3 ?_ (vc:=[(0:Int)≤x1_0,x1_0<(↑l.length:Int),x1_0.toNat<l.length]) (hv:=(by simp only [Conj,Fits,i64_min,i64_max,u8_min,u8_max,News.len,maxLen]<;>(repeat' (first | apply And.intro | intro _))<;>first | (have z:=hJ1.lo;have q:=of_decide_eq_true h2;omega) | grind | (simp only [BL] at *;omega)))
   refine tz [16,10,9,8,4,0] ?_
   refine tCond (!decide ((0:Int)=(0:Int))) (fun h3=>?_) (fun h3=>?_)
   ·exact absurd h3 (by first | decide | simp)
   ·exact tNext (L24_70 sh lk gs pos sl mem ho pr cl most st l) (x1_0,x1_1,x1_2,x1_3,x1_4,x1_5,x1_6,x1_7) (z89_4 x1_0 x1_1 sh gs cl most l x1_3 x1_4 x1_5 x1_6 x1_7 x1_2) (by dsimp only [L24_70,L24_70_m];have z:=hJ1.lo;have q:=of_decide_eq_true h2;omega) (FolJ.next hw hJ1 h2 hsel) [0,1,2,3,4,5,6,7,8,9,10,11,12,24,19,20,21,22,23] (vc:=[Fits IntKind.i64 (x1_0+(1:Int))]) (hv:=(by simp only [Conj,Fits,i64_min,i64_max,u8_min,u8_max,News.len,maxLen]<;>(repeat' (first | apply And.intro | intro _))<;>first | (have z:=hJ1.lo;have q:=of_decide_eq_true h2;omega) | grind | (simp only [BL] at *;omega)))
  ·refine tz [10,9,8,4,0] ?_
   refine tCall e_witness_telling_advance (c_tadv_no (sh:=sh) (lk:=lk) (gs:=gs) (pos:=x1_3) (sl:=x1_4) (mem:=x1_5) (ho:=x1_6) (pr:=x1_7) (cl:=cl) (most:=most) (st:=x1_2) (t:=l.getD x1_0.toNat (0:Int)) (hQ:=by first | assumption | exact hJ1.q | exact hJ1.st | (have z:=hJ1.pr;have z2:=hJ1.st;dsimp only at z z2;omega)) (hb:=by first | assumption | exact hJ1.q | exact hJ1.st | (have z:=hJ1.pr;have z2:=hJ1.st;dsimp only at z z2;omega)) (hp:=by first | assumption | exact hJ1.q | exact hJ1.st | (have z:=hJ1.pr;have z2:=hJ1.st;dsimp only at z z2;omega)) (hw:=by first | assumption | exact hJ1.q | exact hJ1.st | (have z:=hJ1.pr;have z2:=hJ1.st;dsimp only at z z2;omega)) (hst:=by first | assumption | exact hJ1.q | exact hJ1.st | (have z:=hJ1.pr;have z2:=hJ1.st;dsimp only at z z2;omega)) (hsel:=by first | assumption | exact hJ1.q | exact hJ1.st | (have z:=hJ1.pr;have z2:=hJ1.st;dsimp only at z z2;omega))) z89_3 ?_ (vc:=[(0:Int)≤x1_0,x1_0<(↑l.length:Int),x1_0.toNat<l.length]) (hv:=(by simp only [Conj,Fits,i64_min,i64_max,u8_min,u8_max,News.len,maxLen]<;>(repeat' (first | apply And.intro | intro _))<;>first | (have z:=hJ1.lo;have q:=of_decide_eq_true h2;omega) | grind | (simp only [BL] at *;omega)))
   refine tz [16,10,9,8,4,0] ?_
   refine tCond (!decide ((z89_1 sh gs cl most l x1_0 x1_3 x1_4 x1_5 x1_6 x1_7 x1_2).err=(0:Int))) (fun h3=>?_) (fun h3=>?_)
   ·exact (show False from by rw [FolJ.err hJ1 h2 hsel] at hsel0;exact hsel hsel0).elim
   ·exact (show False from by simp [hsel] at h3).elim
 ·rw [FolJ.done hJ1 h2]
  exact tRet [0,1,2,3,4,5,6,7,8,9,10,11,12,14,15,16,17,18,13]
end Go.Proofs.Ytmjjikcappbkeaa
end
noncomputable section
namespace Go.Proofs.Ytmjjikcappbkeaa
open Go Go.Tx
abbrev z90_2 (sh:List Dcl) (lk:List Dcl) (gs:List Grf):=(Mch.mk (newM sh lk gs).pos (newM sh lk gs).sl (newM sh lk gs).mem (newM sh lk gs).ho [])
abbrev z90_1 (sh:List Dcl) (gs:List Grf) (cl:List Cls) (most:Int) (l:List Int) (lk:List Dcl):=(telGo sh.length gs cl most l (Tel.mk (0:Int) (z90_2 sh lk gs) []))
theorem c_flw_no (sh lk:List Dcl) (gs:List Grf) (hs:∀ j:Nat,(sh.getD j default).name.size≤maxLen) (hl:∀ j:Nat,(lk.getD j default).name.size≤maxLen) (hg:∀ j:Nat,(gs.getD j default).name.size≤maxLen) (hw:UnitW gs) (cl:List Cls) (l:List Int) (most:Int) (hsel:¬ (flwE sh lk gs cl l most)=0):Ctr Try.prog 6 [Dcl.rowR sh,Dcl.rowR lk,Grf.rowR gs,Cls.rowR cl,IntRow l] [.agg [.h 0,.h 1,.h 2],.c (.h 3),.c (.h 4),.c (.i .i64 most)]
 (Det (.tup [(true,[.v (.slice none 0 0),.v (.slice none 0 0),.v (.slice none 0 0),.t false]),(false,[.i .i64 (flwE sh lk gs cl l most)])]) [.dead,.dead,.dead,.dead,.dead]):=by
 refine Ctr.intro [] Try.func6 K K ?_
 by_cases hB:begT sh lk gs cl most=0
 ·have hF:¬ (telGo sh.length gs cl most l (Tel.mk 0 (z90_2 sh lk gs) [])).err=0:=fun h=>hsel ((flwE_t hB).trans h)
  refine tCall e_witness_begun (c_tbeg_ok (sh:=sh) (lk:=lk) (gs:=gs) (hs:=by first | assumption | exact new_Q (begT_ok hB).1 | exact (chkU_ok (begT_ok hB).1).1 | exact Nat.le_refl _ | exact Nat.zero_le _ | exact (fin_Q hw hB hF).1 | exact (fin_Q hw hB hF).2.2 | exact fin_pr hw hB hF | omega) (hl:=by first | assumption | exact new_Q (begT_ok hB).1 | exact (chkU_ok (begT_ok hB).1).1 | exact Nat.le_refl _ | exact Nat.zero_le _ | exact (fin_Q hw hB hF).1 | exact (fin_Q hw hB hF).2.2 | exact fin_pr hw hB hF | omega) (hg:=by first | assumption | exact new_Q (begT_ok hB).1 | exact (chkU_ok (begT_ok hB).1).1 | exact Nat.le_refl _ | exact Nat.zero_le _ | exact (fin_Q hw hB hF).1 | exact (fin_Q hw hB hF).2.2 | exact fin_pr hw hB hF | omega) (hw:=by first | assumption | exact new_Q (begT_ok hB).1 | exact (chkU_ok (begT_ok hB).1).1 | exact Nat.le_refl _ | exact Nat.zero_le _ | exact (fin_Q hw hB hF).1 | exact (fin_Q hw hB hF).2.2 | exact fin_pr hw hB hF | omega) (cl:=cl) (most:=most) (hsel:=by first | assumption | exact new_Q (begT_ok hB).1 | exact (chkU_ok (begT_ok hB).1).1 | exact Nat.le_refl _ | exact Nat.zero_le _ | exact (fin_Q hw hB hF).1 | exact (fin_Q hw hB hF).2.2 | exact fin_pr hw hB hF | omega)) [] ?_
  refine tz [17,9,8,2] ?_
  refine tCond (!decide ((0:Int)=(0:Int))) (fun h1=>?_) (fun h1=>?_)
  ·exact absurd h1 (by first | decide | simp)
  ·refine tz [10,9,8,2] ?_
   refine tCall e_witness_telling_follow (c_tfol_no (sh:=sh) (lk:=lk) (gs:=gs) (pos:=(newM sh lk gs).pos) (sl:=(newM sh lk gs).sl) (mem:=(newM sh lk gs).mem) (ho:=(newM sh lk gs).ho) (pr:=[]) (cl:=cl) (most:=most) (st:=[]) (l:=l) (hQ:=by first | assumption | exact new_Q (begT_ok hB).1 | exact (chkU_ok (begT_ok hB).1).1 | exact Nat.le_refl _ | exact Nat.zero_le _ | exact (fin_Q hw hB hF).1 | exact (fin_Q hw hB hF).2.2 | exact fin_pr hw hB hF | omega) (hb:=by first | assumption | exact new_Q (begT_ok hB).1 | exact (chkU_ok (begT_ok hB).1).1 | exact Nat.le_refl _ | exact Nat.zero_le _ | exact (fin_Q hw hB hF).1 | exact (fin_Q hw hB hF).2.2 | exact fin_pr hw hB hF | omega) (hp:=by first | assumption | exact new_Q (begT_ok hB).1 | exact (chkU_ok (begT_ok hB).1).1 | exact Nat.le_refl _ | exact Nat.zero_le _ | exact (fin_Q hw hB hF).1 | exact (fin_Q hw hB hF).2.2 | exact fin_pr hw hB hF | omega) (hw:=by first | assumption | exact new_Q (begT_ok hB).1 | exact (chkU_ok (begT_ok hB).1).1 | exact Nat.le_refl _ | exact Nat.zero_le _ | exact (fin_Q hw hB hF).1 | exact (fin_Q hw hB hF).2.2 | exact fin_pr hw hB hF | omega) (hst:=by first | assumption | exact new_Q (begT_ok hB).1 | exact (chkU_ok (begT_ok hB).1).1 | exact Nat.le_refl _ | exact Nat.zero_le _ | exact (fin_Q hw hB hF).1 | exact (fin_Q hw hB hF).2.2 | exact fin_pr hw hB hF | omega) (hpp:=by first | assumption | exact new_Q (begT_ok hB).1 | exact (chkU_ok (begT_ok hB).1).1 | exact Nat.le_refl _ | exact Nat.zero_le _ | exact (fin_Q hw hB hF).1 | exact (fin_Q hw hB hF).2.2 | exact fin_pr hw hB hF | omega) (hsel0:=by first | assumption | exact new_Q (begT_ok hB).1 | exact (chkU_ok (begT_ok hB).1).1 | exact Nat.le_refl _ | exact Nat.zero_le _ | exact (fin_Q hw hB hF).1 | exact (fin_Q hw hB hF).2.2 | exact fin_pr hw hB hF | omega)) [7,8,9,10,11,12,13,14,15,16,3,17,4] ?_ [15,19] [(0:Nat)=0,(0:Nat)=0] (by (try simp only [Conj])<;>(repeat' apply And.intro)<;>first | done | trivial | rfl | (intros;first | rfl | trivial) | exact snoc_len _ _ | exact List.length_set | exact set_ints _ _ _ | exact take_row _ _ _ _ _ | (exact take_len _ _ _ (by first | omega | (have h0:=askE_ok (by simpa using h1);have hm:=evE_mem h0.1;have hs:=evE_ok h0.1;omega))) | exact MpEq.put (by omega) | (refine MpEq.mk' (by omega) ?_ ?_<;>intro q<;>first | rfl | (dsimp only;split<;>simp_all)) | (exact MpEq.mkIt (by omega) (fun _=>rfl) (fun _=>rfl) rfl rfl (fun _=>rfl)) | (intro i h1 h2;rw [snoc_lo h1 h2]) | (rw [getD_snoc];rfl))
   refine tz [26,10,9,8] ?_
   refine tCond (!decide ((z90_1 sh gs cl most l lk).err=(0:Int))) (fun h2=>?_) (fun h2=>?_)
   ·exact tRet [] [3] [flwE sh lk gs cl l most=(z90_1 sh gs cl most l lk).err] (by simp only [Conj];(repeat' apply And.intro)<;>first | trivial | rfl | (intros;first | trivial | rfl) | exact flwE_b hB | exact flwE_t hB | exact (flwE_b hB).symm)
   ·exact (show False from by exact hF (by simpa using h2)).elim
 ·refine tCall e_witness_begun (c_tbeg_no (sh:=sh) (lk:=lk) (gs:=gs) (hs:=by first | assumption | exact new_Q (begT_ok hB).1 | exact (chkU_ok (begT_ok hB).1).1 | exact Nat.le_refl _ | exact Nat.zero_le _ | exact (fin_Q hw hB hF).1 | exact (fin_Q hw hB hF).2.2 | exact fin_pr hw hB hF | omega) (hl:=by first | assumption | exact new_Q (begT_ok hB).1 | exact (chkU_ok (begT_ok hB).1).1 | exact Nat.le_refl _ | exact Nat.zero_le _ | exact (fin_Q hw hB hF).1 | exact (fin_Q hw hB hF).2.2 | exact fin_pr hw hB hF | omega) (hg:=by first | assumption | exact new_Q (begT_ok hB).1 | exact (chkU_ok (begT_ok hB).1).1 | exact Nat.le_refl _ | exact Nat.zero_le _ | exact (fin_Q hw hB hF).1 | exact (fin_Q hw hB hF).2.2 | exact fin_pr hw hB hF | omega) (hw:=by first | assumption | exact new_Q (begT_ok hB).1 | exact (chkU_ok (begT_ok hB).1).1 | exact Nat.le_refl _ | exact Nat.zero_le _ | exact (fin_Q hw hB hF).1 | exact (fin_Q hw hB hF).2.2 | exact fin_pr hw hB hF | omega) (cl:=cl) (most:=most) (hsel:=by first | assumption | exact new_Q (begT_ok hB).1 | exact (chkU_ok (begT_ok hB).1).1 | exact Nat.le_refl _ | exact Nat.zero_le _ | exact (fin_Q hw hB hF).1 | exact (fin_Q hw hB hF).2.2 | exact fin_pr hw hB hF | omega)) [] ?_
  refine tz [17,9,8,2] ?_
  refine tCond (!decide (begT sh lk gs cl most=(0:Int))) (fun h1=>?_) (fun h1=>?_)
  ·exact tRet [] [3] [flwE sh lk gs cl l most=begT sh lk gs cl most] (by simp only [Conj];(repeat' apply And.intro)<;>first | trivial | rfl | (intros;first | trivial | rfl) | exact flwE_b hB | exact flwE_t hB | exact (flwE_b hB).symm)
  ·exact (show False from by exact hB (by simpa using h1)).elim
theorem c_flw_ok (sh lk:List Dcl) (gs:List Grf) (hs:∀ j:Nat,(sh.getD j default).name.size≤maxLen) (hl:∀ j:Nat,(lk.getD j default).name.size≤maxLen) (hg:∀ j:Nat,(gs.getD j default).name.size≤maxLen) (hw:UnitW gs) (cl:List Cls) (l:List Int) (most:Int) (hsel:(flwE sh lk gs cl l most)=0):Ctr Try.prog 6 [Dcl.rowR sh,Dcl.rowR lk,Grf.rowR gs,Cls.rowR cl,IntRow l] [.agg [.h 0,.h 1,.h 2],.c (.h 3),.c (.h 4),.c (.i .i64 most)]
 (Det (.tup [(true,[.h 5,.h 6,.h 7,.b (endM gs (telGo sh.length gs cl most l (Tel.mk 0 (Mch.mk (newM sh lk gs).pos (newM sh lk gs).sl (newM sh lk gs).mem (newM sh lk gs).ho []) [])).m.pos (telGo sh.length gs cl most l (Tel.mk 0 (Mch.mk (newM sh lk gs).pos (newM sh lk gs).sl (newM sh lk gs).mem (newM sh lk gs).ho []) [])).m.ho)]),(false,[.i .i64 0])]) [.dead,.dead,.dead,.dead,.dead,IntOwn (telGo sh.length gs cl most l (Tel.mk 0 (Mch.mk (newM sh lk gs).pos (newM sh lk gs).sl (newM sh lk gs).mem (newM sh lk gs).ho []) [])).st,Prt.ownR (telGo sh.length gs cl most l (Tel.mk 0 (Mch.mk (newM sh lk gs).pos (newM sh lk gs).sl (newM sh lk gs).mem (newM sh lk gs).ho []) [])).m.pr,WordOwn (telGo sh.length gs cl most l (Tel.mk 0 (Mch.mk (newM sh lk gs).pos (newM sh lk gs).sl (newM sh lk gs).mem (newM sh lk gs).ho []) [])).m.mem]):=by
 refine Ctr.intro [] Try.func6 K K ?_
 have hB:begT sh lk gs cl most=0:=(flwE_0 hsel).1
 have hF:(telGo sh.length gs cl most l (Tel.mk 0 (z90_2 sh lk gs) [])).err=0:=(flwE_0 hsel).2
 refine tCall e_witness_begun (c_tbeg_ok (sh:=sh) (lk:=lk) (gs:=gs) (hs:=by first | assumption | exact new_Q (begT_ok hB).1 | exact (chkU_ok (begT_ok hB).1).1 | exact Nat.le_refl _ | exact Nat.zero_le _ | exact (fin_Q hw hB hF).1 | exact (fin_Q hw hB hF).2.2 | exact fin_pr hw hB hF | omega) (hl:=by first | assumption | exact new_Q (begT_ok hB).1 | exact (chkU_ok (begT_ok hB).1).1 | exact Nat.le_refl _ | exact Nat.zero_le _ | exact (fin_Q hw hB hF).1 | exact (fin_Q hw hB hF).2.2 | exact fin_pr hw hB hF | omega) (hg:=by first | assumption | exact new_Q (begT_ok hB).1 | exact (chkU_ok (begT_ok hB).1).1 | exact Nat.le_refl _ | exact Nat.zero_le _ | exact (fin_Q hw hB hF).1 | exact (fin_Q hw hB hF).2.2 | exact fin_pr hw hB hF | omega) (hw:=by first | assumption | exact new_Q (begT_ok hB).1 | exact (chkU_ok (begT_ok hB).1).1 | exact Nat.le_refl _ | exact Nat.zero_le _ | exact (fin_Q hw hB hF).1 | exact (fin_Q hw hB hF).2.2 | exact fin_pr hw hB hF | omega) (cl:=cl) (most:=most) (hsel:=by first | assumption | exact new_Q (begT_ok hB).1 | exact (chkU_ok (begT_ok hB).1).1 | exact Nat.le_refl _ | exact Nat.zero_le _ | exact (fin_Q hw hB hF).1 | exact (fin_Q hw hB hF).2.2 | exact fin_pr hw hB hF | omega)) [] ?_
 refine tz [17,9,8,2] ?_
 refine tCond (!decide ((0:Int)=(0:Int))) (fun h1=>?_) (fun h1=>?_)
 ·exact absurd h1 (by first | decide | simp)
 ·refine tz [10,9,8,2] ?_
  refine tCall e_witness_telling_follow (c_tfol_ok (sh:=sh) (lk:=lk) (gs:=gs) (pos:=(newM sh lk gs).pos) (sl:=(newM sh lk gs).sl) (mem:=(newM sh lk gs).mem) (ho:=(newM sh lk gs).ho) (pr:=[]) (cl:=cl) (most:=most) (st:=[]) (l:=l) (hQ:=by first | assumption | exact new_Q (begT_ok hB).1 | exact (chkU_ok (begT_ok hB).1).1 | exact Nat.le_refl _ | exact Nat.zero_le _ | exact (fin_Q hw hB hF).1 | exact (fin_Q hw hB hF).2.2 | exact fin_pr hw hB hF | omega) (hb:=by first | assumption | exact new_Q (begT_ok hB).1 | exact (chkU_ok (begT_ok hB).1).1 | exact Nat.le_refl _ | exact Nat.zero_le _ | exact (fin_Q hw hB hF).1 | exact (fin_Q hw hB hF).2.2 | exact fin_pr hw hB hF | omega) (hp:=by first | assumption | exact new_Q (begT_ok hB).1 | exact (chkU_ok (begT_ok hB).1).1 | exact Nat.le_refl _ | exact Nat.zero_le _ | exact (fin_Q hw hB hF).1 | exact (fin_Q hw hB hF).2.2 | exact fin_pr hw hB hF | omega) (hw:=by first | assumption | exact new_Q (begT_ok hB).1 | exact (chkU_ok (begT_ok hB).1).1 | exact Nat.le_refl _ | exact Nat.zero_le _ | exact (fin_Q hw hB hF).1 | exact (fin_Q hw hB hF).2.2 | exact fin_pr hw hB hF | omega) (hst:=by first | assumption | exact new_Q (begT_ok hB).1 | exact (chkU_ok (begT_ok hB).1).1 | exact Nat.le_refl _ | exact Nat.zero_le _ | exact (fin_Q hw hB hF).1 | exact (fin_Q hw hB hF).2.2 | exact fin_pr hw hB hF | omega) (hpp:=by first | assumption | exact new_Q (begT_ok hB).1 | exact (chkU_ok (begT_ok hB).1).1 | exact Nat.le_refl _ | exact Nat.zero_le _ | exact (fin_Q hw hB hF).1 | exact (fin_Q hw hB hF).2.2 | exact fin_pr hw hB hF | omega) (hsel0:=by first | assumption | exact new_Q (begT_ok hB).1 | exact (chkU_ok (begT_ok hB).1).1 | exact Nat.le_refl _ | exact Nat.zero_le _ | exact (fin_Q hw hB hF).1 | exact (fin_Q hw hB hF).2.2 | exact fin_pr hw hB hF | omega)) [7,8,9,10,11,12,13,14,15,16,3,17,4] ?_ [15,19] [(0:Nat)=0,(0:Nat)=0] (by (try simp only [Conj])<;>(repeat' apply And.intro)<;>first | done | trivial | rfl | (intros;first | rfl | trivial) | exact snoc_len _ _ | exact List.length_set | exact set_ints _ _ _ | exact take_row _ _ _ _ _ | (exact take_len _ _ _ (by first | omega | (have h0:=askE_ok (by simpa using h1);have hm:=evE_mem h0.1;have hs:=evE_ok h0.1;omega))) | exact MpEq.put (by omega) | (refine MpEq.mk' (by omega) ?_ ?_<;>intro q<;>first | rfl | (dsimp only;split<;>simp_all)) | (exact MpEq.mkIt (by omega) (fun _=>rfl) (fun _=>rfl) rfl rfl (fun _=>rfl)) | (intro i h1 h2;rw [snoc_lo h1 h2]) | (rw [getD_snoc];rfl))
  refine tz [26,10,9,8] ?_
  refine tCond (!decide ((0:Int)=(0:Int))) (fun h2=>?_) (fun h2=>?_)
  ·exact absurd h2 (by first | decide | simp)
  ·refine tz [10,9,8] ?_
   refine tCall e_witness_telling_story (c_tstory (sh:=sh) (lk:=lk) (gs:=gs) (pos:=(z90_1 sh gs cl most l lk).m.pos) (sl:=(z90_1 sh gs cl most l lk).m.sl) (mem:=(z90_1 sh gs cl most l lk).m.mem) (ho:=(z90_1 sh gs cl most l lk).m.ho) (pr:=(z90_1 sh gs cl most l lk).m.pr) (cl:=cl) (most:=most) (st:=(z90_1 sh gs cl most l lk).st) (hQ:=by first | assumption | exact new_Q (begT_ok hB).1 | exact (chkU_ok (begT_ok hB).1).1 | exact Nat.le_refl _ | exact Nat.zero_le _ | exact (fin_Q hw hB hF).1 | exact (fin_Q hw hB hF).2.2 | exact fin_pr hw hB hF | omega) (hb:=by first | assumption | exact new_Q (begT_ok hB).1 | exact (chkU_ok (begT_ok hB).1).1 | exact Nat.le_refl _ | exact Nat.zero_le _ | exact (fin_Q hw hB hF).1 | exact (fin_Q hw hB hF).2.2 | exact fin_pr hw hB hF | omega) (hp:=by first | assumption | exact new_Q (begT_ok hB).1 | exact (chkU_ok (begT_ok hB).1).1 | exact Nat.le_refl _ | exact Nat.zero_le _ | exact (fin_Q hw hB hF).1 | exact (fin_Q hw hB hF).2.2 | exact fin_pr hw hB hF | omega) (hw:=by first | assumption | exact new_Q (begT_ok hB).1 | exact (chkU_ok (begT_ok hB).1).1 | exact Nat.le_refl _ | exact Nat.zero_le _ | exact (fin_Q hw hB hF).1 | exact (fin_Q hw hB hF).2.2 | exact fin_pr hw hB hF | omega) (hst:=by first | assumption | exact new_Q (begT_ok hB).1 | exact (chkU_ok (begT_ok hB).1).1 | exact Nat.le_refl _ | exact Nat.zero_le _ | exact (fin_Q hw hB hF).1 | exact (fin_Q hw hB hF).2.2 | exact fin_pr hw hB hF | omega)) [7,8,9,10,11,18,19,20,21,22,3,23] ?_
   exact tRet [0,1,2,3,4,23,24,25]
end Go.Proofs.Ytmjjikcappbkeaa
end
noncomputable section
namespace Go.Proofs.Ytmjjikcappbkeaa
open Go Go.Tx
theorem c_flwF (sh lk:List Dcl) (gs:List Grf) (hs:∀ j:Nat,(sh.getD j default).name.size≤maxLen) (hl:∀ j:Nat,(lk.getD j default).name.size≤maxLen) (hg:∀ j:Nat,(gs.getD j default).name.size≤maxLen) (hw:UnitW gs) (cl:List Cls) (l:List Int) (most:Int) (hsel:(flwE sh lk gs cl l most)=0):Ctr Try.prog 6 [Dcl.rowR sh,Dcl.rowR lk,Grf.rowR gs,Cls.rowR cl,IntRow l] [.agg [.h 0,.h 1,.h 2],.c (.h 3),.c (.h 4),.c (.i .i64 most)]
 (Det (.tup [(true,[.h 5,.h 6,.h 7,.b (endM gs (finT sh lk gs cl l most).m.pos (finT sh lk gs cl l most).m.ho)]),(false,[.i .i64 0])]) [.dead,.dead,.dead,.dead,.dead,IntOwn (finT sh lk gs cl l most).st,Prt.ownR (finT sh lk gs cl l most).m.pr,WordOwn (finT sh lk gs cl l most).m.mem]):=c_flw_ok sh lk gs hs hl hg hw cl l most hsel
end Go.Proofs.Ytmjjikcappbkeaa
end
noncomputable section
namespace Go.Proofs.Ytmjjikcappbkeaa
open Go Go.Tx
def kNods (own:Int):List Nod:=[⟨3,0,0,own,⟨false,0,1⟩,⟨false,0,0⟩,1,0,0⟩,⟨2,0,0,1-own,⟨false,0,0⟩,⟨false,0,0⟩,2,0,1⟩,⟨7,0,0,0,⟨true,0,0⟩,⟨false,0,0⟩,3,0,2⟩,⟨9,0,0,0,⟨false,0,0⟩,⟨false,0,0⟩,0,0,3⟩]
def kSh:List Dcl:=[⟨⟨#[120]⟩,0,0⟩,⟨⟨#[121]⟩,0,0⟩]
def kGs:List Grf:=[⟨⟨#[97]⟩,0,1,kNods 0⟩,⟨⟨#[98]⟩,0,1,kNods 1⟩]
theorem c_graph (nm:ByteArray) (own:Int) (ho:0≤own∧own≤1):Ctr Try.prog 47 [] [.c (.v (.string nm)),.c (.i .i64 own)]
 (Det (.agg [.v (.string nm),.i .i64 0,.i .i64 1,.h 0]) [Nod.ownR (kNods own)]):=by
 refine Ctr.intro [] Try.func47 K K ?_
 exact tRet [1] [0,1] [(kNods own).length=4,∀ (i:Nat),i<(kNods own).length→((kNods own).getD i default).tc=rowT 13 [Value.int IntKind.u8 (3:Int),Value.int IntKind.u8 (0:Int),Value.int IntKind.i64 (0:Int),Value.int IntKind.i64 own,Value.bool false,Value.int IntKind.i64 (0:Int),Value.int IntKind.i64 (1:Int),Value.bool false,Value.int IntKind.i64 (0:Int),Value.int IntKind.i64 (0:Int),Value.int IntKind.i64 (1:Int),Value.int IntKind.i64 (0:Int),Value.int IntKind.i64 (0:Int),Value.int IntKind.u8 (2:Int),Value.int IntKind.u8 (0:Int),Value.int IntKind.i64 (0:Int),Value.int IntKind.i64 ((1:Int)-own),Value.bool false,Value.int IntKind.i64 (0:Int),Value.int IntKind.i64 (0:Int),Value.bool false,Value.int IntKind.i64 (0:Int),Value.int IntKind.i64 (0:Int),Value.int IntKind.i64 (2:Int),Value.int IntKind.i64 (0:Int),Value.int IntKind.i64 (1:Int),Value.int IntKind.u8 (7:Int),Value.int IntKind.u8 (0:Int),Value.int IntKind.i64 (0:Int),Value.int IntKind.i64 (0:Int),Value.bool true,Value.int IntKind.i64 (0:Int),Value.int IntKind.i64 (0:Int),Value.bool false,Value.int IntKind.i64 (0:Int),Value.int IntKind.i64 (0:Int),Value.int IntKind.i64 (3:Int),Value.int IntKind.i64 (0:Int),Value.int IntKind.i64 (2:Int),Value.int IntKind.u8 (9:Int),Value.int IntKind.u8 (0:Int),Value.int IntKind.i64 (0:Int),Value.int IntKind.i64 (0:Int),Value.bool false,Value.int IntKind.i64 (0:Int),Value.int IntKind.i64 (0:Int),Value.bool false,Value.int IntKind.i64 (0:Int),Value.int IntKind.i64 (0:Int),Value.int IntKind.i64 (0:Int),Value.int IntKind.i64 (0:Int),Value.int IntKind.i64 (3:Int)] i] (by simp only [Conj];(repeat' apply And.intro)<;>first | rfl | trivial | (intros;trivial) | (intro i h1 h2;exact absurd h1 (by simp;omega)) | (exact rowT_list _ Nod.tl _ _ _ K) | (exact rowT_list _ Dcl.tl _ _ _ K) | (exact rowTC_list _ Grf.tl _ _ _ K) | skip) (vc:=[Fits IntKind.i64 ((1:Int)-own)]) (hv:=(by simp only [Conj,Fits,i64_min,i64_max,u8_min,u8_max,News.len,maxLen]<;>(repeat' (first | apply And.intro | intro _))<;>first | grind | (simp only [BL] at *;omega)))
theorem c_known21 :Ctr Try.prog 22 [] []
 (Det (.agg [.h 0,.v (.slice none 0 0),.h 1]) [Dcl.ownR kSh,Grf.ownR kGs]):=by
 refine Ctr.intro [] Try.func22 K K ?_
 refine tCall e_stilelaw21_graph (c_graph (nm:=ByteArray.mk #[(97:UInt8)]) (own:=(0:Int)) (ho:=by first | assumption | omega)) [] ?_
 refine tz [4,3,0] ?_
 refine tCall e_stilelaw21_graph (c_graph (nm:=ByteArray.mk #[(98:UInt8)]) (own:=(1:Int)) (ho:=by first | assumption | omega)) [] ?_
 exact tRet [1,4] [0,1,2,3] [kSh.length=2,∀ (i:Nat),i<kSh.length→(kSh.getD i default).tc=rowT 3 [Value.string (ByteArray.mk #[(120:UInt8)]),Value.int IntKind.i64 (0:Int),Value.int IntKind.i64 (0:Int),Value.string (ByteArray.mk #[(121:UInt8)]),Value.int IntKind.i64 (0:Int),Value.int IntKind.i64 (0:Int)] i,kGs.length=2,∀ (i:Nat),i<kGs.length→(kGs.getD i default).tc=rowTC 4 [TC.val (Value.string (ByteArray.mk #[(97:UInt8)])),TC.val (Value.int IntKind.i64 (0:Int)),TC.val (Value.int IntKind.i64 (1:Int)),TC.sub 104 13 4 fun i=>((kNods (0:Int)).getD i default).tc,TC.val (Value.string (ByteArray.mk #[(98:UInt8)])),TC.val (Value.int IntKind.i64 (0:Int)),TC.val (Value.int IntKind.i64 (1:Int)),TC.sub 104 13 (kNods (1:Int)).length fun i=>((kNods (1:Int)).getD i default).tc] i] (by simp only [Conj];(repeat' apply And.intro)<;>first | rfl | trivial | (intros;trivial) | (intro i h1 h2;exact absurd h1 (by simp;omega)) | (exact rowT_list _ Nod.tl _ _ _ K) | (exact rowT_list _ Dcl.tl _ _ _ K) | (exact rowTC_list _ Grf.tl _ _ _ K) | skip)
end Go.Proofs.Ytmjjikcappbkeaa
end
noncomputable section
namespace Go.Proofs.Ytmjjikcappbkeaa
open Go Go.Tx
abbrev kCl:List Cls:=[⟨3,0,0⟩,⟨3,0,0⟩]
theorem getD_ev {α:Type} (P:α→Prop) (l:List α) (d:α) (h:∀ x∈l,P x) (hd:P d) (a:Nat):P (l.getD a d):=by
 rw [List.getD_eq_getElem?_getD]
 cases e:l[a]? with
 | none=>exact hd
 | some x=>exact h x (List.mem_of_getElem? e)
theorem kUw:UnitW kGs:=fun a b=>by
 refine getD_ev (fun g:Grf=>0≤(g.nodes.getD b default).kind∧0≤(g.nodes.getD b default).op∧(g.nodes.getD b default).op≤255) kGs default (fun x hx=>?_) ?_ a
 ·refine getD_ev (fun n:Nod=>0≤n.kind∧0≤n.op∧n.op≤255) x.nodes default (fun n hn=>?_) (by decide) b
  simp only [kGs,List.mem_cons,List.not_mem_nil,or_false] at hx
  rcases hx with rfl | rfl<;>(simp only [kNods,List.mem_cons,List.not_mem_nil,or_false] at hn;rcases hn with rfl | rfl | rfl | rfl<;>decide)
 ·exact getD_ev (fun n:Nod=>0≤n.kind∧0≤n.op∧n.op≤255) [] default (fun n hn=>by cases hn) (by decide) b
theorem kSn:∀ j:Nat,(kSh.getD j default).name.size≤maxLen:=fun j=>getD_ev (fun d:Dcl=>d.name.size≤maxLen) kSh default (fun x hx=>by
 simp only [kSh,List.mem_cons,List.not_mem_nil,or_false] at hx
 rcases hx with rfl | rfl<;>decide) (by decide) j
theorem kLn:∀ j:Nat,(([]:List Dcl).getD j default).name.size≤maxLen:=fun j=>getD_ev (fun d:Dcl=>d.name.size≤maxLen) [] default (fun x hx=>by cases hx) (by decide) j
theorem kGn:∀ j:Nat,(kGs.getD j default).name.size≤maxLen:=fun j=>getD_ev (fun d:Grf=>d.name.size≤maxLen) kGs default (fun x hx=>by
 simp only [kGs,List.mem_cons,List.not_mem_nil,or_false] at hx
 rcases hx with rfl | rfl<;>decide) (by decide) j
theorem kF0:flwE kSh [] kGs kCl [0,1,0,1,0,1] 9=0:=by kernel_rfl
theorem kF1:flwE kSh [] kGs kCl [0,0,0,0] 9=211:=by kernel_rfl
theorem kF2:flwE kSh [] kGs kCl [2] 9=211:=by kernel_rfl
theorem kF1n:¬ flwE kSh [] kGs kCl [0,0,0,0] 9=0:=by rw [kF1];decide
theorem kF2n:¬ flwE kSh [] kGs kCl [2] 9=0:=by rw [kF2];decide
abbrev z93_1:=[Cls.mk (3:Int) (0:Int) (0:Int),Cls.mk (3:Int) (0:Int) (0:Int)]
abbrev z93_2:=[Value.int IntKind.u8 (3:Int),Value.int IntKind.i64 (0:Int),Value.int IntKind.i64 (0:Int),Value.int IntKind.u8 (3:Int),Value.int IntKind.i64 (0:Int),Value.int IntKind.i64 (0:Int)]
abbrev z93_4:=(finT kSh [] kGs z93_1 [(0:Int),(1:Int),(0:Int),(1:Int),(0:Int),(1:Int)] (9:Int))
theorem c_lives21 :Ctr Try.prog 5 [] []
 (Det (.c (.b true)) []):=by
 have hk0:=kF0
 have hk1:=kF1n
 have hk2:=kF2n
 refine Ctr.intro [] Try.func5 K K ?_
 refine tCall e_stilelaw21_known (c_known21) [] ?_
 refine tz [12,1,0] ?_
 refine tCall e_witness_Follow (c_flwF (sh:=kSh) (lk:=[]) (gs:=kGs) (hs:=by first | exact kUw | exact kSn | exact kLn | exact kGn | exact kF0 | exact kF1n | exact kF2n | decide) (hl:=by first | exact kUw | exact kSn | exact kLn | exact kGn | exact kF0 | exact kF1n | exact kF2n | decide) (hg:=by first | exact kUw | exact kSn | exact kLn | exact kGn | exact kF0 | exact kF1n | exact kF2n | decide) (hw:=by first | exact kUw | exact kSn | exact kLn | exact kGn | exact kF0 | exact kF1n | exact kF2n | decide) (cl:=z93_1) (l:=[(0:Int),(1:Int),(0:Int),(1:Int),(0:Int),(1:Int)]) (most:=(9:Int)) (hsel:=by first | exact kUw | exact kSn | exact kLn | exact kGn | exact kF0 | exact kF1n | exact kF2n | decide)) [1,1000001,2,0,3] ?_ [0,2,3,5,6,7,8] [kSh.length=2,(0:Nat)=0,kGs.length=2,z93_1.length=2,∀ (i:Nat),i<z93_1.length→(z93_1.getD i default).tc=rowT 3 z93_2 i,[(0:Int),(1:Int),(0:Int),(1:Int),(0:Int),(1:Int)].length=6,∀ (i:Nat),i < [(0:Int),(1:Int),(0:Int),(1:Int),(0:Int),(1:Int)].length→i64T ([(0:Int),(1:Int),(0:Int),(1:Int),(0:Int),(1:Int)].getD i (0:Int))=rowT 1 [Value.int IntKind.i64 (0:Int),Value.int IntKind.i64 (1:Int),Value.int IntKind.i64 (0:Int),Value.int IntKind.i64 (1:Int),Value.int IntKind.i64 (0:Int),Value.int IntKind.i64 (1:Int)] i] (by (try simp only [Conj])<;>(repeat' apply And.intro)<;>first | done | trivial | rfl | (intros;first | rfl | trivial) | (intro i h1 h2;first | omega | (simp at h1;omega)) | (exact rowT_list _ Cls.tl _ _ _ K) | (exact rowT_list (0:Int) (fun n=>[.val (.int .i64 n)]) _ _ _ K) | skip)
 refine tz [15,1,0] ?_
 refine tCall e_stilelaw21_known (c_known21) [] ?_
 refine tz [19,3,2,1,0] ?_
 refine tCall e_witness_Follow (c_flw_no (sh:=kSh) (lk:=[]) (gs:=kGs) (hs:=by first | exact kUw | exact kSn | exact kLn | exact kGn | exact kF0 | exact kF1n | exact kF2n | decide) (hl:=by first | exact kUw | exact kSn | exact kLn | exact kGn | exact kF0 | exact kF1n | exact kF2n | decide) (hg:=by first | exact kUw | exact kSn | exact kLn | exact kGn | exact kF0 | exact kF1n | exact kF2n | decide) (hw:=by first | exact kUw | exact kSn | exact kLn | exact kGn | exact kF0 | exact kF1n | exact kF2n | decide) (cl:=z93_1) (l:=[(0:Int),(0:Int),(0:Int),(0:Int)]) (most:=(9:Int)) (hsel:=by first | exact kUw | exact kSn | exact kLn | exact kGn | exact kF0 | exact kF1n | exact kF2n | decide)) [8,1000001,9,0,10] ?_ [0,2,3,5,6,7,8] [kSh.length=2,(0:Nat)=0,kGs.length=2,z93_1.length=2,∀ (i:Nat),i<z93_1.length→(z93_1.getD i default).tc=rowT 3 z93_2 i,[(0:Int),(0:Int),(0:Int),(0:Int)].length=4,∀ (i:Nat),i < [(0:Int),(0:Int),(0:Int),(0:Int)].length→i64T ([(0:Int),(0:Int),(0:Int),(0:Int)].getD i (0:Int))=rowT 1 [Value.int IntKind.i64 (0:Int),Value.int IntKind.i64 (0:Int),Value.int IntKind.i64 (0:Int),Value.int IntKind.i64 (0:Int)] i] (by (try simp only [Conj])<;>(repeat' apply And.intro)<;>first | done | trivial | rfl | (intros;first | rfl | trivial) | (intro i h1 h2;first | omega | (simp at h1;omega)) | (exact rowT_list _ Cls.tl _ _ _ K) | (exact rowT_list (0:Int) (fun n=>[.val (.int .i64 n)]) _ _ _ K) | skip)
 refine tz [22,3,2,1,0] ?_
 refine tCond (!decide ((0:Int)=(0:Int))||!decide (flwE kSh [] kGs z93_1 [(0:Int),(0:Int),(0:Int),(0:Int)] (9:Int)=(211:Int))||!decide ((2:Int)=(2:Int))||!(decide ((z93_4.m.pr.getD 0 default).thread=(0:Int))&&(decide ((z93_4.m.pr.getD 0 default).word=(1:Int))&&true))||!decide ((6:Int)=(6:Int))||!decide ((2:Int)=(2:Int))||!decide (z93_4.m.mem.getD 1 (0:Int)=(1:Int))||!endM kGs z93_4.m.pos z93_4.m.ho) (fun h1=>?_) (fun h1=>?_) (vc:=[(!decide ((0:Int)=(0:Int))||!decide (flwE kSh [] kGs [Cls.mk (3:Int) (0:Int) (0:Int),Cls.mk (3:Int) (0:Int) (0:Int)] [(0:Int),(0:Int),(0:Int),(0:Int)] (9:Int)=(211:Int))||!decide ((2:Int)=(2:Int)))=false→(0:Int)≤(0:Int),(!decide ((0:Int)=(0:Int))||!decide (flwE kSh [] kGs [Cls.mk (3:Int) (0:Int) (0:Int),Cls.mk (3:Int) (0:Int) (0:Int)] [(0:Int),(0:Int),(0:Int),(0:Int)] (9:Int)=(211:Int))||!decide ((2:Int)=(2:Int)))=false→(0:Int)<(2:Int),(!decide ((0:Int)=(0:Int))||!decide (flwE kSh [] kGs [Cls.mk (3:Int) (0:Int) (0:Int),Cls.mk (3:Int) (0:Int) (0:Int)] [(0:Int),(0:Int),(0:Int),(0:Int)] (9:Int)=(211:Int))||!decide ((2:Int)=(2:Int)))=false→0<2,(!decide ((0:Int)=(0:Int))||!decide (flwE kSh [] kGs [Cls.mk (3:Int) (0:Int) (0:Int),Cls.mk (3:Int) (0:Int) (0:Int)] [(0:Int),(0:Int),(0:Int),(0:Int)] (9:Int)=(211:Int))||!decide ((2:Int)=(2:Int))||!(decide (((finT kSh [] kGs [Cls.mk (3:Int) (0:Int) (0:Int),Cls.mk (3:Int) (0:Int) (0:Int)] [(0:Int),(1:Int),(0:Int),(1:Int),(0:Int),(1:Int)] (9:Int)).m.pr.getD 0 default).thread=(0:Int))&&(decide (((finT kSh [] kGs [Cls.mk (3:Int) (0:Int) (0:Int),Cls.mk (3:Int) (0:Int) (0:Int)] [(0:Int),(1:Int),(0:Int),(1:Int),(0:Int),(1:Int)] (9:Int)).m.pr.getD 0 default).word=(1:Int))&&true))||!decide ((6:Int)=(6:Int))||!decide ((2:Int)=(2:Int)))=false→(0:Int)≤(1:Int),(!decide ((0:Int)=(0:Int))||!decide (flwE kSh [] kGs [Cls.mk (3:Int) (0:Int) (0:Int),Cls.mk (3:Int) (0:Int) (0:Int)] [(0:Int),(0:Int),(0:Int),(0:Int)] (9:Int)=(211:Int))||!decide ((2:Int)=(2:Int))||!(decide (((finT kSh [] kGs [Cls.mk (3:Int) (0:Int) (0:Int),Cls.mk (3:Int) (0:Int) (0:Int)] [(0:Int),(1:Int),(0:Int),(1:Int),(0:Int),(1:Int)] (9:Int)).m.pr.getD 0 default).thread=(0:Int))&&(decide (((finT kSh [] kGs [Cls.mk (3:Int) (0:Int) (0:Int),Cls.mk (3:Int) (0:Int) (0:Int)] [(0:Int),(1:Int),(0:Int),(1:Int),(0:Int),(1:Int)] (9:Int)).m.pr.getD 0 default).word=(1:Int))&&true))||!decide ((6:Int)=(6:Int))||!decide ((2:Int)=(2:Int)))=false→(1:Int)<(2:Int),(!decide ((0:Int)=(0:Int))||!decide (flwE kSh [] kGs [Cls.mk (3:Int) (0:Int) (0:Int),Cls.mk (3:Int) (0:Int) (0:Int)] [(0:Int),(0:Int),(0:Int),(0:Int)] (9:Int)=(211:Int))||!decide ((2:Int)=(2:Int))||!(decide (((finT kSh [] kGs [Cls.mk (3:Int) (0:Int) (0:Int),Cls.mk (3:Int) (0:Int) (0:Int)] [(0:Int),(1:Int),(0:Int),(1:Int),(0:Int),(1:Int)] (9:Int)).m.pr.getD 0 default).thread=(0:Int))&&(decide (((finT kSh [] kGs [Cls.mk (3:Int) (0:Int) (0:Int),Cls.mk (3:Int) (0:Int) (0:Int)] [(0:Int),(1:Int),(0:Int),(1:Int),(0:Int),(1:Int)] (9:Int)).m.pr.getD 0 default).word=(1:Int))&&true))||!decide ((6:Int)=(6:Int))||!decide ((2:Int)=(2:Int)))=false→1<2]) (hv:=(by simp only [Conj,Fits,i64_min,i64_max,u8_min,u8_max,News.len,maxLen]<;>(repeat' (first | apply And.intro | intro _))<;>first | grind | (simp only [BL] at *;omega)))
 ·exact Bool.noConfusion (show true=false from h1.symm.trans (show _=false from by kernel_rfl))
 ·refine tz [1,0] ?_
  refine tCall e_stilelaw21_known (c_known21) [] ?_
  refine tz [70,1,0] ?_
  refine tCall e_witness_Follow (c_flw_no (sh:=kSh) (lk:=[]) (gs:=kGs) (hs:=by first | exact kUw | exact kSn | exact kLn | exact kGn | exact kF0 | exact kF1n | exact kF2n | decide) (hl:=by first | exact kUw | exact kSn | exact kLn | exact kGn | exact kF0 | exact kF1n | exact kF2n | decide) (hg:=by first | exact kUw | exact kSn | exact kLn | exact kGn | exact kF0 | exact kF1n | exact kF2n | decide) (hw:=by first | exact kUw | exact kSn | exact kLn | exact kGn | exact kF0 | exact kF1n | exact kF2n | decide) (cl:=z93_1) (l:=[(2:Int)]) (most:=(9:Int)) (hsel:=by first | exact kUw | exact kSn | exact kLn | exact kGn | exact kF0 | exact kF1n | exact kF2n | decide)) [12,1000001,13,0,14] ?_ [0,2,3,5,6,7,8,9] [kSh.length=2,(0:Nat)=0,kGs.length=2,z93_1.length=2,∀ (i:Nat),i<z93_1.length→(z93_1.getD i default).tc=rowT 3 z93_2 i,[(2:Int)].length=1,∀ (i:Nat),i < [(2:Int)].length→i≠0→i64T ([(2:Int)].getD i (0:Int))=fun x=>TC.any,i64T (2:Int) 0=TC.val (Value.int IntKind.i64 (2:Int))] (by (try simp only [Conj])<;>(repeat' apply And.intro)<;>first | done | trivial | rfl | (intros;first | rfl | trivial) | (intro i h1 h2;first | omega | (simp at h1;omega)) | (exact rowT_list _ Cls.tl _ _ _ K) | (exact rowT_list (0:Int) (fun n=>[.val (.int .i64 n)]) _ _ _ K) | skip)
  exact tRet
end Go.Proofs.Ytmjjikcappbkeaa
end
noncomputable section
namespace Go.Proofs.Ytmjjikcappbkeaa
open Go Go.Tx
theorem c_runF (sh lk:List Dcl) (gs:List Grf) (cl:List Cls) (l:List Int) (most:Int) (hw:UnitW gs) (hB:begT sh lk gs cl most=0) (hF:(finT sh lk gs cl l most).err=0):Ctr Try.prog 8 [Reg.box 91 [.h 1,.h 2,.h 3,.h 4,.h 5,.h 6,.h 7,.h 8],Dcl.rowR sh,Dcl.rowR lk,Grf.rowR gs,IntOwn (newM sh lk gs).pos,Slt.ownR (newM sh lk gs).sl,WordOwn (newM sh lk gs).mem,IntOwn (newM sh lk gs).ho,Prt.ownR [],IntRow (finT sh lk gs cl l most).st] [.c (.p 0 0),.c (.h 9)]
 (Det (.tup [(false,[.i .i64 ((finT sh lk gs cl l most).st.length:Int)]),(false,[.i .i64 0])]) [Reg.box 91 [.h 1,.h 2,.h 3,.h 4,.h 5,.h 6,.h 7,.h 10],.dead,.dead,.dead,IntOwn (finT sh lk gs cl l most).m.pos,Slt.ownR (finT sh lk gs cl l most).m.sl,WordOwn (finT sh lk gs cl l most).m.mem,IntOwn (finT sh lk gs cl l most).m.ho,.dead,.dead,Prt.ownR (finT sh lk gs cl l most).m.pr]):=by
 have e:runM gs (finT sh lk gs cl l most).st 0 (Mch.mk (newM sh lk gs).pos (newM sh lk gs).sl (newM sh lk gs).mem (newM sh lk gs).ho [])=⟨0+((finT sh lk gs cl l most).st.length:Int),0,(finT sh lk gs cl l most).m⟩:=
  runS_M (tel_go (ns:=sh.length) (cl:=cl) (most:=most) (l:=l) (x:=Tel.mk 0 (newM sh lk gs) []) (m0:=newM sh lk gs) hF rfl)
 have h:=c_run sh lk gs (newM sh lk gs).pos (newM sh lk gs).sl (newM sh lk gs).mem (newM sh lk gs).ho [] (finT sh lk gs cl l most).st (new_Q (begT_ok hB).1) (chkU_ok (begT_ok hB).1).1 (Nat.zero_le _) hw (fin_Q hw hB hF).2.2
 rw [e] at h
 simpa only [Int.zero_add] using h
end Go.Proofs.Ytmjjikcappbkeaa
end
noncomputable section
namespace Go.Proofs.Ytmjjikcappbkeaa
open Go Go.Tx
def L11_40_I (a:List Int) (b:List Int):Int×Bool→St:=fun x=>{ N:=26,fr:=[{ slot:=13,g:=[],sv:=SV.c (C.i .i64 x.1) },{ slot:=12,g:=[],sv:=SV.c (C.i .i64 (↑a.length:Int)) },{ slot:=4,g:=[],sv:=SV.c (C.b x.2) },{ slot:=0,g:=[],sv:=SV.c (C.h 0) },{ slot:=1,g:=[],sv:=SV.c (C.h 1) }],rg:=[Reg.row 1 a.length (fun i=>i64T (a.getD i (0:Int))) none,Reg.row 1 b.length (fun i=>i64T (b.getD i (0:Int))) none],wr:=[] }
def L11_40_J (a:List Int) (b:List Int):Int×Bool→Prop:=fun x=>0≤x.1∧x.1≤(a.length:Int)∧a.length=b.length∧∀ j:Nat,(j:Int)<x.1→a.getD j default=b.getD j default
def L11_40_m (a:List Int) (b:List Int):Int×Bool→Nat:=fun x=>((a.length:Int)-x.1).toNat
def L11_40 (a:List Int) (b:List Int):Lp (Int×Bool):=⟨L11_40_I a b,L11_40_J a b,L11_40_m a b⟩
theorem c_words (a b:List Int):Ctr Try.prog 11 [WordRow a,WordRow b] [.c (.h 0),.c (.h 1)]
 (Det (.c (.b (decide (a=b)))) [.dead,.dead]):=by
 refine Ctr.intro [] Try.func11 K K ?_
 refine RunF.lens 0 (m:=a.length) K (fun hlens_0=>?_)
 refine tCond (!decide ((↑a.length:Int)=(↑b.length:Int))) (fun h1=>?_) (fun h1=>?_)
 ·exact tRet [] [0] [decide (a=b)=false] (by simp only [Conj];first | exact same_no (by simp at h1;omega) | exact same_end hJ2.2.2.1 hJ2.2.2.2 h3 | exact same_ne (by show ¬ (a.getD x2_0.toNat (0:Int)=b.getD x2_0.toNat 0);simpa only [Bool.not_eq_true',decide_eq_false_iff_not] using h4))
 ·refine tz [4,0,1] ?_
  refine tLoop (L11_40 a b) (((0:Int),false)) ⟨by omega,by omega,by simp at h1;omega,fun j hj=>absurd hj (by omega)⟩ ?_
  rintro ⟨x2_0,x2_1⟩ hJ2
  dsimp only [L11_40,L11_40_J] at hJ2
  refine tz [13,12,4,0,1] ?_
  refine tCond (decide (x2_0<(↑a.length:Int))) (fun h3=>?_) (fun h3=>?_)
  ·refine tz [13,12,4,0,1] ?_
   refine tCond (!decide (a.getD x2_0.toNat (0:Int)=b.getD x2_0.toNat (0:Int))) (fun h4=>?_) (fun h4=>?_) (vc:=[(0:Int)≤x2_0,x2_0<(↑a.length:Int),x2_0.toNat<a.length,(0:Int)≤x2_0,x2_0<(↑b.length:Int),x2_0.toNat<b.length]) (hv:=(by simp only [Conj,Fits,i64_min,i64_max,u8_min,u8_max,News.len,maxLen]<;>(repeat' (first | apply And.intro | intro _))<;>first | grind | (simp only [BL] at *;omega)))
   ·exact tRet [] [0] [decide (a=b)=false] (by simp only [Conj];first | exact same_no (by simp at h1;omega) | exact same_end hJ2.2.2.1 hJ2.2.2.2 h3 | exact same_ne (by show ¬ (a.getD x2_0.toNat (0:Int)=b.getD x2_0.toNat 0);simpa only [Bool.not_eq_true',decide_eq_false_iff_not] using h4))
   ·exact tNext (L11_40 a b) (x2_0,x2_1) ((x2_0+(1:Int),x2_1)) (by dsimp only [L11_40,L11_40_m];(try simp only [decide_eq_true_eq] at *);omega) ⟨by omega,by have:=of_decide_eq_true h3;omega,hJ2.2.2.1,same_next hJ2.2.2.2 hJ2.1 (by show a.getD x2_0.toNat (0:Int)=b.getD x2_0.toNat 0;simpa using h4)⟩ (vc:=[Fits IntKind.i64 (x2_0+(1:Int))]) (hv:=(by simp only [Conj,Fits,i64_min,i64_max,u8_min,u8_max,News.len,maxLen]<;>(repeat' (first | apply And.intro | intro _))<;>first | grind | (simp only [BL] at *;omega)))
  ·exact tRet [] [0] [decide (a=b)=true] (by simp only [Conj];first | exact same_no (by simp at h1;omega) | exact same_end hJ2.2.2.1 hJ2.2.2.2 h3 | exact same_ne (by show ¬ (a.getD x2_0.toNat (0:Int)=b.getD x2_0.toNat 0);simpa only [Bool.not_eq_true',decide_eq_false_iff_not] using h4))
def L9_40_I (a:List Prt) (b:List Prt):Int×Bool→St:=fun x=>{ N:=26,fr:=[{ slot:=13,g:=[],sv:=SV.c (C.i .i64 x.1) },{ slot:=12,g:=[],sv:=SV.c (C.i .i64 (↑a.length:Int)) },{ slot:=4,g:=[],sv:=SV.c (C.b x.2) },{ slot:=0,g:=[],sv:=SV.c (C.h 0) },{ slot:=1,g:=[],sv:=SV.c (C.h 1) }],rg:=[Reg.row 2 a.length (fun i=>(a.getD i default).tc) none,Reg.row 2 b.length (fun i=>(b.getD i default).tc) none],wr:=[] }
def L9_40_J (a:List Prt) (b:List Prt):Int×Bool→Prop:=fun x=>0≤x.1∧x.1≤(a.length:Int)∧a.length=b.length∧∀ j:Nat,(j:Int)<x.1→a.getD j default=b.getD j default
def L9_40_m (a:List Prt) (b:List Prt):Int×Bool→Nat:=fun x=>((a.length:Int)-x.1).toNat
def L9_40 (a:List Prt) (b:List Prt):Lp (Int×Bool):=⟨L9_40_I a b,L9_40_J a b,L9_40_m a b⟩
theorem c_printed (a b:List Prt):Ctr Try.prog 9 [Prt.rowR a,Prt.rowR b] [.c (.h 0),.c (.h 1)]
 (Det (.c (.b (decide (a=b)))) [.dead,.dead]):=by
 refine Ctr.intro [] Try.func9 K K ?_
 refine RunF.lens 0 (m:=a.length) K (fun hlens_0=>?_)
 refine tCond (!decide ((↑a.length:Int)=(↑b.length:Int))) (fun h1=>?_) (fun h1=>?_)
 ·exact tRet [] [0] [decide (a=b)=false] (by simp only [Conj];first | exact same_no (by simp at h1;omega) | exact same_end hJ2.2.2.1 hJ2.2.2.2 h3 | exact same_ne (by intro e;rw [e] at h4;simp [eqCells] at h4))
 ·refine tz [4,0,1] ?_
  refine tLoop (L9_40 a b) (((0:Int),false)) ⟨by omega,by omega,by simp at h1;omega,fun j hj=>absurd hj (by omega)⟩ ?_
  rintro ⟨x2_0,x2_1⟩ hJ2
  dsimp only [L9_40,L9_40_J] at hJ2
  refine tz [13,12,4,0,1] ?_
  refine tCond (decide (x2_0<(↑a.length:Int))) (fun h3=>?_) (fun h3=>?_)
  ·refine tz [13,12,4,0,1] ?_
   refine tCond (!(decide ((a.getD x2_0.toNat default).thread=(b.getD x2_0.toNat default).thread)&&(decide ((a.getD x2_0.toNat default).word=(b.getD x2_0.toNat default).word)&&true))) (fun h4=>?_) (fun h4=>?_) (vc:=[(0:Int)≤x2_0,x2_0<(↑a.length:Int),x2_0.toNat<a.length,(0:Int)≤x2_0,x2_0<(↑b.length:Int),x2_0.toNat<b.length]) (hv:=(by simp only [Conj,Fits,i64_min,i64_max,u8_min,u8_max,News.len,maxLen]<;>(repeat' (first | apply And.intro | intro _))<;>first | grind | (simp only [BL] at *;omega)))
   ·exact tRet [] [0] [decide (a=b)=false] (by simp only [Conj];first | exact same_no (by simp at h1;omega) | exact same_end hJ2.2.2.1 hJ2.2.2.2 h3 | exact same_ne (by intro e;rw [e] at h4;simp [eqCells] at h4))
   ·exact tNext (L9_40 a b) (x2_0,x2_1) ((x2_0+(1:Int),x2_1)) (by dsimp only [L9_40,L9_40_m];(try simp only [decide_eq_true_eq] at *);omega) ⟨by omega,by have:=of_decide_eq_true h3;omega,hJ2.2.2.1,same_next hJ2.2.2.2 hJ2.1 (by simpa [Prt.eq_iff] using h4)⟩ (vc:=[Fits IntKind.i64 (x2_0+(1:Int))]) (hv:=(by simp only [Conj,Fits,i64_min,i64_max,u8_min,u8_max,News.len,maxLen]<;>(repeat' (first | apply And.intro | intro _))<;>first | grind | (simp only [BL] at *;omega)))
  ·exact tRet [] [0] [decide (a=b)=true] (by simp only [Conj];first | exact same_no (by simp at h1;omega) | exact same_end hJ2.2.2.1 hJ2.2.2.2 h3 | exact same_ne (by intro e;rw [e] at h4;simp [eqCells] at h4))
end Go.Proofs.Ytmjjikcappbkeaa
end
noncomputable section
namespace Go.Proofs.Ytmjjikcappbkeaa
open Go Go.Tx
theorem c_ws_n (sh lk:List Dcl) (gs:List Grf) (hs:∀ j:Nat,(sh.getD j default).name.size≤maxLen) (hl:∀ j:Nat,(lk.getD j default).name.size≤maxLen) (hg:∀ j:Nat,(gs.getD j default).name.size≤maxLen) (hw:UnitW gs) (cl:List Cls) (l:List Int) (most:Int) (hsel:¬ (flwE sh lk gs cl l most)=0):Ctr Try.prog 3 [Dcl.rowR sh,Dcl.rowR lk,Grf.rowR gs,Cls.rowR cl,IntRow l] [.agg [.h 0,.h 1,.h 2],.c (.h 3),.c (.h 4),.c (.i .i64 most)]
 (Det (.c (.b true)) [.dead,.dead,.dead,.dead,.dead]):=by
 refine Ctr.intro [] Try.func3 K K ?_
 refine tCall e_stilelaw21_lives (c_lives21) [] ?_
 refine tz [15,8,4,1,2,3] ?_
 refine tCond (!true) (fun h1=>?_) (fun h1=>?_)
 ·exact absurd h1 (by first | decide | simp)
 ·refine tz [8,4,1,2,3] ?_
  refine tCall e_witness_Follow (c_flw_no (sh:=sh) (lk:=lk) (gs:=gs) (hs:=by first | assumption | exact (begT_ok hB).1 | exact (fin_Q hw hB hF).1 | exact (chkU_ok (begT_ok hB).1).1 | exact fin_pr hw hB hF | (have z:=(fin_Q hw hB hF).1.mn;omega) | omega) (hl:=by first | assumption | exact (begT_ok hB).1 | exact (fin_Q hw hB hF).1 | exact (chkU_ok (begT_ok hB).1).1 | exact fin_pr hw hB hF | (have z:=(fin_Q hw hB hF).1.mn;omega) | omega) (hg:=by first | assumption | exact (begT_ok hB).1 | exact (fin_Q hw hB hF).1 | exact (chkU_ok (begT_ok hB).1).1 | exact fin_pr hw hB hF | (have z:=(fin_Q hw hB hF).1.mn;omega) | omega) (hw:=by first | assumption | exact (begT_ok hB).1 | exact (fin_Q hw hB hF).1 | exact (chkU_ok (begT_ok hB).1).1 | exact fin_pr hw hB hF | (have z:=(fin_Q hw hB hF).1.mn;omega) | omega) (cl:=cl) (l:=l) (most:=most) (hsel:=by first | assumption | exact (begT_ok hB).1 | exact (fin_Q hw hB hF).1 | exact (chkU_ok (begT_ok hB).1).1 | exact fin_pr hw hB hF | (have z:=(fin_Q hw hB hF).1.mn;omega) | omega)) [] ?_
  refine tz [22,8,4] ?_
  refine tCond (!decide (flwE sh lk gs cl l most=(0:Int))) (fun h2=>?_) (fun h2=>?_)
  ·exact tRet
  ·exact (show False from by exact hsel (by simpa using h2)).elim
theorem c_ws_y (sh lk:List Dcl) (gs:List Grf) (hs:∀ j:Nat,(sh.getD j default).name.size≤maxLen) (hl:∀ j:Nat,(lk.getD j default).name.size≤maxLen) (hg:∀ j:Nat,(gs.getD j default).name.size≤maxLen) (hw:UnitW gs) (cl:List Cls) (l:List Int) (most:Int) (hsel:(flwE sh lk gs cl l most)=0):Ctr Try.prog 3 [Dcl.rowR sh,Dcl.rowR lk,Grf.rowR gs,Cls.rowR cl,IntRow l] [.agg [.h 0,.h 1,.h 2],.c (.h 3),.c (.h 4),.c (.i .i64 most)]
 (Det (.c (.b true)) [.dead,.dead,.dead,.dead,.dead]):=by
 have hB:=(flwE_0 hsel).1
 have hF:(finT sh lk gs cl l most).err=0:=(flwE_0 hsel).2
 have hC:=(begT_ok hB).1
 refine Ctr.intro [] Try.func3 K K ?_
 have hB2:begT sh lk gs cl most=0:=hB
 have hC2:(chkU sh lk gs).1=0:=hC
 have hF2:(finT sh lk gs cl l most).err=0:=hF
 refine tCall e_stilelaw21_lives (c_lives21) [] ?_
 refine tz [15,8,4,1,2,3] ?_
 refine tCond (!true) (fun h1=>?_) (fun h1=>?_)
 ·exact absurd h1 (by first | decide | simp)
 ·refine tz [8,4,1,2,3] ?_
  refine tCall e_witness_Follow (c_flwF (sh:=sh) (lk:=lk) (gs:=gs) (hs:=by first | assumption | exact (begT_ok hB).1 | exact (fin_Q hw hB hF).1 | exact (chkU_ok (begT_ok hB).1).1 | exact fin_pr hw hB hF | (have z:=(fin_Q hw hB hF).1.mn;omega) | omega) (hl:=by first | assumption | exact (begT_ok hB).1 | exact (fin_Q hw hB hF).1 | exact (chkU_ok (begT_ok hB).1).1 | exact fin_pr hw hB hF | (have z:=(fin_Q hw hB hF).1.mn;omega) | omega) (hg:=by first | assumption | exact (begT_ok hB).1 | exact (fin_Q hw hB hF).1 | exact (chkU_ok (begT_ok hB).1).1 | exact fin_pr hw hB hF | (have z:=(fin_Q hw hB hF).1.mn;omega) | omega) (hw:=by first | assumption | exact (begT_ok hB).1 | exact (fin_Q hw hB hF).1 | exact (chkU_ok (begT_ok hB).1).1 | exact fin_pr hw hB hF | (have z:=(fin_Q hw hB hF).1.mn;omega) | omega) (cl:=cl) (l:=l) (most:=most) (hsel:=by first | assumption | exact (begT_ok hB).1 | exact (fin_Q hw hB hF).1 | exact (chkU_ok (begT_ok hB).1).1 | exact fin_pr hw hB hF | (have z:=(fin_Q hw hB hF).1.mn;omega) | omega)) [] ?_
  refine tz [22,8,4] ?_
  refine tCond (!decide ((0:Int)=(0:Int))) (fun h2=>?_) (fun h2=>?_)
  ·exact absurd h2 (by first | decide | simp)
  ·refine tz [9,8,4] ?_
   refine tCall e_source_New (c_snew_ok (sh:=sh) (lk:=lk) (gs:=gs) (hs:=by first | assumption | exact (begT_ok hB).1 | exact (fin_Q hw hB hF).1 | exact (chkU_ok (begT_ok hB).1).1 | exact fin_pr hw hB hF | (have z:=(fin_Q hw hB hF).1.mn;omega) | omega) (hl:=by first | assumption | exact (begT_ok hB).1 | exact (fin_Q hw hB hF).1 | exact (chkU_ok (begT_ok hB).1).1 | exact fin_pr hw hB hF | (have z:=(fin_Q hw hB hF).1.mn;omega) | omega) (hg:=by first | assumption | exact (begT_ok hB).1 | exact (fin_Q hw hB hF).1 | exact (chkU_ok (begT_ok hB).1).1 | exact fin_pr hw hB hF | (have z:=(fin_Q hw hB hF).1.mn;omega) | omega) (hw:=by first | assumption | exact (begT_ok hB).1 | exact (fin_Q hw hB hF).1 | exact (chkU_ok (begT_ok hB).1).1 | exact fin_pr hw hB hF | (have z:=(fin_Q hw hB hF).1.mn;omega) | omega) (hsel:=by first | assumption | exact (begT_ok hB).1 | exact (fin_Q hw hB hF).1 | exact (chkU_ok (begT_ok hB).1).1 | exact fin_pr hw hB hF | (have z:=(fin_Q hw hB hF).1.mn;omega) | omega)) [] ?_
   refine tz [50,9,8] ?_
   refine tCond (!decide ((0:Int)=(0:Int))||isNilP (C.p 10 0)) (fun h3=>?_) (fun h3=>?_)
   ·exact absurd h3 (by first | decide | simp)
   ·refine tz [11,9,8] ?_
    refine tCall e_source_Machine_Run (c_runF (sh:=sh) (lk:=lk) (gs:=gs) (cl:=cl) (l:=l) (most:=most) (hw:=by first | assumption | exact (begT_ok hB).1 | exact (fin_Q hw hB hF).1 | exact (chkU_ok (begT_ok hB).1).1 | exact fin_pr hw hB hF | (have z:=(fin_Q hw hB hF).1.mn;omega) | omega) (hB:=by first | assumption | exact (begT_ok hB).1 | exact (fin_Q hw hB hF).1 | exact (chkU_ok (begT_ok hB).1).1 | exact fin_pr hw hB hF | (have z:=(fin_Q hw hB hF).1.mn;omega) | omega) (hF:=by first | assumption | exact (begT_ok hB).1 | exact (fin_Q hw hB hF).1 | exact (chkU_ok (begT_ok hB).1).1 | exact fin_pr hw hB hF | (have z:=(fin_Q hw hB hF).1.mn;omega) | omega)) [10,11,12,13,14,15,16,17,18,6] ?_ [14] [(0:Nat)=0] (by (try simp only [Conj])<;>(repeat' apply And.intro)<;>first | done | trivial | rfl | (intros;first | rfl | trivial) | exact snoc_len _ _ | exact List.length_set | exact set_ints _ _ _ | exact take_row _ _ _ _ _ | (exact take_len _ _ _ (by first | omega | (have h0:=askE_ok (by simpa using h1);have hm:=evE_mem h0.1;have hs:=evE_ok h0.1;omega))) | exact MpEq.put (by omega) | (refine MpEq.mk' (by omega) ?_ ?_<;>intro q<;>first | rfl | (dsimp only;split<;>simp_all)) | (exact MpEq.mkIt (by omega) (fun _=>rfl) (fun _=>rfl) rfl rfl (fun _=>rfl)) | (intro i h1 h2;rw [snoc_lo h1 h2]) | (rw [getD_snoc];rfl))
    refine tz [63,11,9,8] ?_
    refine tGuard (decide ((↑(finT sh lk gs cl l most).st.length:Int)=(↑(finT sh lk gs cl l most).st.length:Int))&&decide ((0:Int)=(0:Int))) (fun h4=>?_) (fun h4=>?_)
    ·refine tz [79,78,76,75,74,73,72,71,70,69,68,67,66,14,13,11,9,8] ?_
     refine tCall e_source_Machine_Prints (c_prints (sh:=sh) (lk:=lk) (gs:=gs) (pos:=(finT sh lk gs cl l most).m.pos) (sl:=(finT sh lk gs cl l most).m.sl) (mem:=(finT sh lk gs cl l most).m.mem) (ho:=(finT sh lk gs cl l most).m.ho) (pr:=(finT sh lk gs cl l most).m.pr) (hQ:=by first | assumption | exact (begT_ok hB).1 | exact (fin_Q hw hB hF).1 | exact (chkU_ok (begT_ok hB).1).1 | exact fin_pr hw hB hF | (have z:=(fin_Q hw hB hF).1.mn;omega) | omega) (hb:=by first | assumption | exact (begT_ok hB).1 | exact (fin_Q hw hB hF).1 | exact (chkU_ok (begT_ok hB).1).1 | exact fin_pr hw hB hF | (have z:=(fin_Q hw hB hF).1.mn;omega) | omega) (hp:=by first | assumption | exact (begT_ok hB).1 | exact (fin_Q hw hB hF).1 | exact (chkU_ok (begT_ok hB).1).1 | exact fin_pr hw hB hF | (have z:=(fin_Q hw hB hF).1.mn;omega) | omega)) [10,11,12,13,14,15,16,17,19] ?_
     refine tz [77,79,78,76,75,74,73,72,71,70,69,68,67,66,14,13,11,9,8] ?_
     refine tCall e_stileref07_Printed (c_printed (a:=(finT sh lk gs cl l most).m.pr) (b:=(finT sh lk gs cl l most).m.pr)) [20,7] ?_
     refine tz [80,77,79,78,76,75,74,73,72,71,70,69,68,67,66,14,13,11,9,8] ?_
     refine tGuard (decide ((finT sh lk gs cl l most).m.pr=(finT sh lk gs cl l most).m.pr)) (fun h5=>?_) (fun h5=>?_)
     ·refine tz [86,85,83,82,81,80,77,79,78,76,75,74,73,72,71,70,69,68,67,66,14,13,11,9,8] ?_
      refine tCall e_source_Machine_Memory (c_memory (sh:=sh) (lk:=lk) (gs:=gs) (pos:=(finT sh lk gs cl l most).m.pos) (sl:=(finT sh lk gs cl l most).m.sl) (mem:=(finT sh lk gs cl l most).m.mem) (ho:=(finT sh lk gs cl l most).m.ho) (pr:=(finT sh lk gs cl l most).m.pr) (hQ:=by first | assumption | exact (begT_ok hB).1 | exact (fin_Q hw hB hF).1 | exact (chkU_ok (begT_ok hB).1).1 | exact fin_pr hw hB hF | (have z:=(fin_Q hw hB hF).1.mn;omega) | omega) (hb:=by first | assumption | exact (begT_ok hB).1 | exact (fin_Q hw hB hF).1 | exact (chkU_ok (begT_ok hB).1).1 | exact fin_pr hw hB hF | (have z:=(fin_Q hw hB hF).1.mn;omega) | omega) (hp:=by first | assumption | exact (begT_ok hB).1 | exact (fin_Q hw hB hF).1 | exact (chkU_ok (begT_ok hB).1).1 | exact fin_pr hw hB hF | (have z:=(fin_Q hw hB hF).1.mn;omega) | omega)) [10,11,12,13,14,15,16,17,19] ?_
      refine tz [84,86,85,83,82,81,80,77,79,78,76,75,74,73,72,71,70,69,68,67,66,14,13,11,9,8] ?_
      refine tCall e_stileref07_Words (c_words (a:=(finT sh lk gs cl l most).m.mem) (b:=(finT sh lk gs cl l most).m.mem)) [21,8] ?_
      refine tz [87,84,86,85,83,82,81,80,77,79,78,76,75,74,73,72,71,70,69,68,67,66,14,13,11,9,8] ?_
      refine tGuard (decide ((finT sh lk gs cl l most).m.mem=(finT sh lk gs cl l most).m.mem)) (fun h6=>?_) (fun h6=>?_)
      ·refine tz [93,92,90,89,88,87,84,86,85,83,82,81,80,77,79,78,76,75,74,73,72,71,70,69,68,67,66,14,13,11,9,8] ?_
       refine tCall e_source_Machine_Ended (c_ended (sh:=sh) (lk:=lk) (gs:=gs) (pos:=(finT sh lk gs cl l most).m.pos) (sl:=(finT sh lk gs cl l most).m.sl) (mem:=(finT sh lk gs cl l most).m.mem) (ho:=(finT sh lk gs cl l most).m.ho) (pr:=(finT sh lk gs cl l most).m.pr) (hQ:=by first | assumption | exact (begT_ok hB).1 | exact (fin_Q hw hB hF).1 | exact (chkU_ok (begT_ok hB).1).1 | exact fin_pr hw hB hF | (have z:=(fin_Q hw hB hF).1.mn;omega) | omega) (hb:=by first | assumption | exact (begT_ok hB).1 | exact (fin_Q hw hB hF).1 | exact (chkU_ok (begT_ok hB).1).1 | exact fin_pr hw hB hF | (have z:=(fin_Q hw hB hF).1.mn;omega) | omega) (hp:=by first | assumption | exact (begT_ok hB).1 | exact (fin_Q hw hB hF).1 | exact (chkU_ok (begT_ok hB).1).1 | exact fin_pr hw hB hF | (have z:=(fin_Q hw hB hF).1.mn;omega) | omega) (hw:=by first | assumption | exact (begT_ok hB).1 | exact (fin_Q hw hB hF).1 | exact (chkU_ok (begT_ok hB).1).1 | exact fin_pr hw hB hF | (have z:=(fin_Q hw hB hF).1.mn;omega) | omega)) [10,11,12,13,14,15,16,17,19] ?_
       exact tRet [] [0] [true=decide (endM gs (finT sh lk gs cl l most).m.pos (finT sh lk gs cl l most).m.ho=endM gs (finT sh lk gs cl l most).m.pos (finT sh lk gs cl l most).m.ho)] (by simp only [Conj];first | rfl | simp)
      ·exact (show False from by simp at h6).elim
     ·exact (show False from by simp at h5).elim
    ·exact (show False from by simp at h4).elim
theorem c_ws (sh lk:List Dcl) (gs:List Grf) (hs:∀ j:Nat,(sh.getD j default).name.size≤maxLen) (hl:∀ j:Nat,(lk.getD j default).name.size≤maxLen) (hg:∀ j:Nat,(gs.getD j default).name.size≤maxLen) (hw:UnitW gs) (cl:List Cls) (l:List Int) (most:Int):Ctr Try.prog 3 [Dcl.rowR sh,Dcl.rowR lk,Grf.rowR gs,Cls.rowR cl,IntRow l] [.agg [.h 0,.h 1,.h 2],.c (.h 3),.c (.h 4),.c (.i .i64 most)]
 (Det (.c (.b true)) [.dead,.dead,.dead,.dead,.dead]):=by
 by_cases hsel:(flwE sh lk gs cl l most)=0
 ·exact c_ws_y sh lk gs hs hl hg hw cl l most hsel
 ·exact c_ws_n sh lk gs hs hl hg hw cl l most hsel
end Go.Proofs.Ytmjjikcappbkeaa
end
namespace Go.Proofs.Ytmjjikcappbkeaa
open Go Go.Tx
inductive Sh where
 | num (k:IntKind)
 | str
 | boo
 | sl (e size:Nat) (el:List Sh)
mutual
/-- the cells of a type -/
inductive ShT (P:Program):Nat→List Sh→Prop
 | int {t:Nat} {k:IntKind} (ht:P.underlying t=some (.int k)):ShT P t [.num k]
 | str {t:Nat} (ht:P.underlying t=some .string):ShT P t [.str]
 | bool {t:Nat} (ht:P.underlying t=some .bool):ShT P t [.boo]
 | slice {t e:Nat} {el:List Sh} (ht:P.underlying t=some (.slice e)) (hc:P.cellsOf e=el.length) (hp:0<el.length) (h:ShT P e el):ShT P t [.sl e el.length el]
 | struct {t:Nat} {fs:Array Field} {ss:List Sh} (ht:P.underlying t=some (.struct fs)) (hc:P.cellsOf t=ss.length) (h:ShF P 0 fs.toList ss):ShT P t ss
/-- .. of fields,the first of which lies at cell i -/
inductive ShF (P:Program):Nat→List Field→List Sh→Prop
 | nil {i:Nat}:ShF P i [] []
 | cons {i:Nat} {f:Field} {fs:List Field} {s1 s2:List Sh} (ho:f.offset=i) (hc:P.cellsOf f.type=s1.length) (h:ShT P f.type s1) (r:ShF P (i+s1.length) fs s2):ShF P i (f::fs) (s1++s2)
end
inductive ShC:Sh→TC→Prop
 | num {k:IntKind} (n:Int) (h:(Lit.int k n).wf=true):ShC (.num k) (.val (.int k n))
 | str (x:ByteArray) (h:x.size≤maxLen):ShC .str (.val (.string x))
 | boo (x:Bool):ShC .boo (.val (.bool x))
 | sl {e size:Nat} {el:List Sh} (n:Nat) (g:Nat→List TC) (hl:∀ i,i<n→(g i).length=el.length) (h:∀ (i j:Nat) (s:Sh) (c:TC),i<n→el[j]?=some s→(g i)[j]?=some c→ShC s c) :
    ShC (.sl e size el) (.sub e size n (fun i=>nthT (g i)))
def ShL (ss:List Sh) (tl:List TC):Prop:=tl.length=ss.length∧∀ (j:Nat) (s:Sh) (c:TC),ss[j]?=some s→tl[j]?=some c→ShC s c
def inW (w:World) (b:Nat):Prop:=b<w.heap.size
def Holds (w:World) (tl:List TC) (cs:List Value):Prop:=∀ (j:Nat) (c:TC) (u:Value),tl[j]?=some c→cs[j]?=some u→RdC w (inW w) c u
theorem nthT_get {tl:List TC} {j:Nat} {c:TC} (h:tl[j]?=some c):nthT tl j=c:=by
 unfold nthT;rw [nth_eq,h]
section
variable {H:Type} {enc:TypeId×Value→H} {P:Program} {w:World}
mutual
theorem readT:∀ {t:Nat} {ss:List Sh},ShT P t ss→∀ {n:Nat} {cs:List Value} {x:DataW H×List MemPlace},DataW.trod enc P w 0 (fun _=>true) true n t cs=some x →
 cs.length=ss.length∧∃ tl:List TC,ShL ss tl∧Holds w tl cs
 | t,_,(.int (k:=k) ht),n,cs,x,h=>by
   obtain ⟨m,rfl,_,hw⟩:=DataW.trod_int ht h
   refine ⟨rfl,[.val (.int k m)],⟨rfl,fun j s c hs hc=>?_⟩,fun j c u hc hu=>?_⟩
   ·match j,hs,hc with
    | 0,hs,hc=>cases hs;cases hc;exact .num m hw
    | j+1,hs,_=>simp at hs
   ·match j,hc,hu with
    | 0,hc,hu=>cases hc;cases hu;rfl
    | j+1,hc,_=>simp at hc
 | t,_,(.str ht),n,cs,x,h=>by
   obtain ⟨m,rfl,_,hw⟩:=DataW.trod_string ht h
   refine ⟨rfl,[.val (.string m)],⟨rfl,fun j s c hs hc=>?_⟩,fun j c u hc hu=>?_⟩
   ·match j,hs,hc with
    | 0,hs,hc=>cases hs;cases hc;exact .str m hw
    | j+1,hs,_=>simp at hs
   ·match j,hc,hu with
    | 0,hc,hu=>cases hc;cases hu;rfl
    | j+1,hc,_=>simp at hc
 | t,_,(.bool ht),n,cs,x,h=>by
   obtain ⟨m,rfl,_⟩:=DataW.trod_bool ht h
   refine ⟨rfl,[.val (.bool m)],⟨rfl,fun j s c hs hc=>?_⟩,fun j c u hc hu=>?_⟩
   ·match j,hs,hc with
    | 0,hs,hc=>cases hs;cases hc;exact .boo m
    | j+1,hs,_=>simp at hs
   ·match j,hc,hu with
    | 0,hc,hu=>cases hc;cases hu;rfl
    | j+1,hc,_=>simp at hc
 | t,_,(.slice (e:=e) (el:=el) ht hce hpos he),n,cs,x,h=>by
   have key:∀ (v:Value) (m:Nat) (g:Nat→List TC),(∀ i,i<m→ShL el (g i))→RdC w (inW w) (.sub e el.length m fun i=>nthT (g i)) v →
    ([v]:List Value).length=([.sl e el.length el]:List Sh).length∧∃ tl:List TC,ShL [.sl e el.length el] tl∧Holds w tl [v]:=fun v m g hg hv=>by
    refine ⟨rfl,[.sub e el.length m fun i=>nthT (g i)],⟨rfl,fun j s c hs hc=>?_⟩,fun j c u hc hu=>?_⟩
    ·match j,hs,hc with
     | 0,hs,hc=>cases hs;cases hc;exact .sl m g (fun i hi=>(hg i hi).1) (fun i j s c hi h1 h2=>(hg i hi).2 j s c h1 h2)
     | j+1,hs,_=>simp at hs
    ·match j,hc,hu with
     | 0,hc,hu=>cases hc;cases hu;exact hv
     | j+1,hc,_=>simp at hc
   rcases Go.Deep.open_slice ht h with ⟨rfl,_⟩ | ⟨a,len,cap,m,n',D,Pl,rfl,_,hlc,hcm,hm,_,hel⟩
   ·refine key _ 0 (fun _=>[]) (fun i hi=>absurd hi (Nat.not_lt_zero _)) ⟨none,0,rfl,Nat.le_refl _,by simp [maxLen],fun a ha _=>(by cases ha),fun h=>absurd h (Nat.lt_irrefl _)⟩
   ·have hm':m=cap:=by simpa using hm
    subst hm'
    have hall:∀ i,i<len→∃ tl:List TC,ShL el tl∧∃ cs',w.cells? 0 (a.add (i * P.cellsOf e)) (P.cellsOf e)=some cs'∧Holds w tl cs':=fun i hi=>by
     obtain ⟨cs',h1,h2⟩:=hel i (Nat.lt_of_lt_of_le hi hlc)
     obtain ⟨h3,tl,h4,h5⟩:=readT he h2
     exact ⟨tl,h4,cs',h1,h5⟩
    obtain ⟨g,hg⟩:=Go.Deep.choose_lt hall
    refine key _ len g (fun i hi=>(hg i hi).1) ⟨some a,m,rfl,hlc,hcm,fun ad had hp=>?_,fun hp=>⟨a,rfl,fun i j hi hj=>?_⟩⟩
    ·cases had
     obtain ⟨_,cs',h2,_⟩:=hg 0 hp
     have:=World.cells?_block h2 (by rw [hce];exact hpos)
     rw [block_add] at this
     exact ⟨this,this⟩
    ·obtain ⟨h1,cs',h2,h3⟩:=hg i hi
     obtain ⟨_,h4,h5⟩:=World.cells?_some h2
     have hjl:j<cs'.length:=by rw [h4,hce];exact hj
     refine ⟨cs'[j],?_,?_⟩
     ·rw [hce] at h5
      have:=h5 j hj
      rw [add_add] at this
      rw [this,List.getElem?_eq_getElem hjl]
     ·have hjt:j<(g i).length:=by rw [h1.1];exact hj
      show RdC w (inW w) (nthT (g i) j) _
      rw [nthT_get (List.getElem?_eq_getElem hjt)]
      exact h3 j _ _ (List.getElem?_eq_getElem hjt) (List.getElem?_eq_getElem hjl)
 | t,_,(.struct (fs:=fs) (ss:=ss) ht hc hf),n,cs,x,h=>by
   obtain ⟨xs,n',_,_,hl,hxl,hx⟩:=DataW.trod_struct ht h
   refine ⟨by rw [hl,hc],?_⟩
   have:=readF hf (n:=n') (cs:=cs) (fun f hm=>by
    obtain ⟨k,hk⟩:=List.getElem?_of_mem hm
    have hk':fs[k]?=some f:=by simpa using hk
    have hlt:k<xs.length:=by rw [hxl];exact (Array.getElem?_eq_some_iff.1 hk').1
    exact ⟨xs[k],by rw [hx k f hk',List.getElem?_eq_getElem hlt]⟩) (by rw [hl,hc];omega)
   simpa using this
theorem readF:∀ {i:Nat} {fs:List Field} {ss:List Sh},ShF P i fs ss→∀ {n:Nat} {cs:List Value},(∀ f∈fs,∃ x,DataW.trod enc P w 0 (fun _=>true) true n f.type ((cs.drop f.offset).take (P.cellsOf f.type))=some x) →
 i+ss.length≤cs.length→∃ tl:List TC,ShL ss tl∧Holds w tl (cs.drop i)
 | _,_,_,.nil,n,cs,h,hl=>⟨[],⟨rfl,fun j s c hs=>by simp at hs⟩,fun j c u hc=>by simp at hc⟩
 | i,_,_,(.cons (f:=f) (fs:=fs) (s1:=s1) (s2:=s2) ho hc hT hr),n,cs,h,hl=>by
   simp only [List.length_append] at hl
   obtain ⟨x,hx⟩:=h f (.head _)
   obtain ⟨h1,t1,h2,h3⟩:=readT hT hx
   obtain ⟨t2,h4,h5⟩:=readF hr (n:=n) (cs:=cs) (fun f' hf'=>h f' (.tail _ hf')) (by omega)
   refine ⟨t1++t2,⟨by rw [List.length_append,List.length_append,h2.1,h4.1],fun j s c hs hcj=>?_⟩,fun j c u hcj hu=>?_⟩
   ·by_cases hj:j<s1.length
    ·rw [List.getElem?_append_left hj] at hs
     rw [List.getElem?_append_left (by rw [h2.1];exact hj)] at hcj
     exact h2.2 j s c hs hcj
    ·rw [List.getElem?_append_right (by omega)] at hs
     rw [List.getElem?_append_right (by rw [h2.1];omega),h2.1] at hcj
     exact h4.2 _ s c hs hcj
   ·by_cases hj:j<s1.length
    ·rw [List.getElem?_append_left (by rw [h2.1];exact hj)] at hcj
     refine h3 j c u hcj ?_
     rw [List.getElem?_take_of_lt (by rw [hc];exact hj),ho]
     exact hu
    ·rw [List.getElem?_append_right (by rw [h2.1];omega),h2.1] at hcj
     refine h5 _ c u hcj ?_
     rw [List.getElem?_drop] at hu ⊢
     rw [show i+s1.length+(j-s1.length)=i+j by omega]
     exact hu
end
end
theorem readAt {H:Type} {enc:TypeId×Value→H} {P:Program} {w:World} {t:Nat} {ss:List Sh} {v:Value} {d:DataW H} {p:List MemPlace} (hs:ShT P t ss) (h:DataW.Trod enc P w 0 (fun _=>true) true t v d p) :
 v.cells.toList.length=ss.length∧∃ tl:List TC,ShL ss tl∧Holds w tl v.cells.toList:=by
 obtain ⟨n,hn⟩:=h
 exact readT hs hn
def Imp (w:World) (a b:List TC):Prop:=∀ (j:Nat) (c:TC) (u:Value),a[j]?=some c→RdC w (inW w) c u→RdC w (inW w) (nthT b j) u
theorem Imp.of_eq {w:World} {a b:List TC} (h:a=b):Imp w a b:=fun j c u hj hu=>by
 subst h;rw [nthT_get hj];exact hu
theorem list_of {α:Type} [Inhabited α] {w:World} {tl:α→List TC} {Q:α→Prop} {n:Nat} {g:Nat→List TC} (h:∀ i,i<n→∃ x,Imp w (g i) (tl x)∧Q x) (hd:Q default) :
 ∃ l:List α,l.length=n∧(∀ i,i<n→Imp w (g i) (tl (l.getD i default)))∧∀ i,Q (l.getD i default):=by
 obtain ⟨f,hf⟩:=Go.Deep.choose_lt h
 refine ⟨(List.range n).map f,by simp,fun i hi=>?_,fun i=>?_⟩
 ·rw [List.getD_eq_getElem?_getD,List.getElem?_map,List.getElem?_range hi]
  exact (hf i hi).1
 ·rw [List.getD_eq_getElem?_getD,List.getElem?_map]
  by_cases hi:i<n
  ·rw [List.getElem?_range hi];exact (hf i hi).2
  ·rw [List.getElem?_eq_none (by simp;omega)];exact hd
theorem row_of {α:Type} [Inhabited α] {w:World} {e size:Nat} {el:List Sh} {c:TC} {tl:α→List TC} {Q:α→Prop} (hs:size=el.length) (h:ShC (.sl e size el) c) (hx:∀ t:List TC,ShL el t→∃ x,Imp w t (tl x)∧Q x) (hd:Q default) :
 ∃ l:List α,(∀ i,Q (l.getD i default))∧∀ v,RdC w (inW w) c v→RdRow w (inW w) v size l.length (fun i j u=>RdC w (inW w) (nthT (tl (l.getD i default)) j) u):=by
 cases h with
 | sl n g hl hg =>
   obtain ⟨l,h1,h2,h3⟩:=list_of (tl:=tl) (Q:=Q) (n:=n) (g:=g) (w:=w) (fun i hi=>hx _ ⟨hl i hi,fun j s c h1 h2=>hg i j s c hi h1 h2⟩) hd
   refine ⟨l,h3,fun v hv=>?_⟩
   rw [h1]
   refine RdRow.map hv (Nat.le_refl _) (fun _ _ _=>rfl) (fun i j u hi hj hu=>?_)
   have hjl:j<(g i).length:=by rw [hl i hi,← hs];exact hj
   have:nthT (g i) j=(g i)[j]:=nthT_get (List.getElem?_eq_getElem hjl)
   have hu:RdC w (inW w) (nthT (g i) j) u:=hu
   rw [this] at hu
   exact h2 i hi j _ u (List.getElem?_eq_getElem hjl) hu
end Go.Proofs.Ytmjjikcappbkeaa
noncomputable section
namespace Go.Proofs.Ytmjjikcappbkeaa
open Go Go.Tx
theorem u8_of {n:Int} (h:(Lit.int .u8 n).wf=true):0≤n∧n≤255:=by simpa [Lit.wf,IntKind.min,IntKind.max,IntKind.signed,IntKind.bits] using h
abbrev shCls:List Sh:=[.num .u8,.num .i64,.num .i64]
theorem shT_Cls:ShT Try.prog 78 shCls:=.struct Try.underlying78 (by kernel_rfl) (.cons (s1:=[.num .u8]) (s2:=[.num .i64,.num .i64]) rfl (by kernel_rfl) (.int (by kernel_rfl)) (.cons (s1:=[.num .i64]) (s2:=[.num .i64]) rfl (by kernel_rfl) (.int (by kernel_rfl)) (.cons (s1:=[.num .i64]) (s2:=[]) rfl (by kernel_rfl) (.int (by kernel_rfl)) .nil)))
theorem of_Cls {w:World} {t:List TC} (h:ShL shCls t):∃ x:Cls,Imp w t x.tl∧True:=by
 obtain ⟨hl,hc⟩:=h
 rcases t with _ | ⟨c0,_ | ⟨c1,_ | ⟨c2,_ | ⟨c3,t⟩⟩⟩⟩
 all_goals first | (exfalso;simp at hl;done) | skip
 have h0:=hc 0 _ _ rfl rfl
 have h1:=hc 1 _ _ rfl rfl
 have h2:=hc 2 _ _ rfl rfl
 cases h0 with | num n0 w0 =>
 cases h1 with | num n1 w1 =>
 cases h2 with | num n2 w2 =>
 exact ⟨⟨n0,n1,n2⟩,Imp.of_eq rfl,trivial⟩
theorem of_Int {w:World} {t:List TC} (h:ShL [.num .i64] t):∃ x:Int,Imp w t [.val (.int .i64 x)]∧True:=by
 obtain ⟨hl,hc⟩:=h
 rcases t with _ | ⟨c,_ | ⟨c',t⟩⟩
 ·simp at hl
 ·have h0:=hc 0 _ _ rfl rfl
  cases h0 with | num n w =>
  exact ⟨n,Imp.of_eq rfl,trivial⟩
 ·simp at hl
theorem shT_Clss:ShT Try.prog 26 [.sl 78 3 shCls]:=.slice (el:=shCls) (by kernel_rfl) (by kernel_rfl) (by decide) shT_Cls
section
variable {H:Type} {enc:TypeId×Value→H} {W:World} {base:Nat}
theorem row_ok {ε:Env} {M:Nat→Prop} {v:Value} {size n:Nat} {f:Nat→Nat→TC} (h:RdRow W (inW W) v size n (fun i j u=>RdC W (inW W) (f i j) u)):RegOk ε M W ⟨v,inW W⟩ (.row size n f none):=⟨h,trivial⟩
theorem rows_ok {ε:Env} {pre:List Reg} (hl:ε.length=pre.length) (hx:pre.all (fun r=>!r.excl)=true) (hf:∀ i,i<pre.length→ε.fp i=inW W) (h:∀ i r,pre[i]?=some r→RegOk ε (Base.at_ pre ε W).M W (ε.ent i) r) :
 RegsOk ε (Base.at_ pre ε W).M (Base.at_ pre ε W).L W pre:=by
 have hx':∀ (i:Nat) (r:Reg),pre[i]?=some r→r.excl=false:=fun i r hi=>by simpa using List.all_eq_true.1 hx r (List.mem_of_getElem? hi)
 refine ⟨hl,h,fun i r hi hlv b hb=>?_,fun i r hi he=>?_,fun i j ri rj _ hi _ he=>?_⟩
 ·have hi':=(List.getElem?_eq_some_iff.1 hi).1
  have hb':b<W.heap.size:=by rw [hf i hi'] at hb;exact hb
  exact ⟨hb',.inr ⟨i,r,hi,hlv,hb⟩⟩
 ·rw [hx' i r hi] at he;cases he
 ·rw [hx' i ri hi] at he;cases he
theorem open_clss {v:Value} {d:DataW H} {p:List MemPlace} (hv:Value.okWide Try.prog W .any base 26 v) (h:DataW.Trod enc Try.prog W 0 (fun _=>true) true 26 v d p):∃ l:List Cls,RdRow W (inW W) v 3 l.length (fun i j u=>RdC W (inW W) ((l.getD i default).tc j) u):=by obtain ⟨a,len,cap,rfl⟩:=Go.WideShapes.okWide_slice Try.underlying26 hv;obtain ⟨hlen,tl,⟨hl,hc⟩,hh⟩:=readAt shT_Clss h;(rcases tl with _ | ⟨c0,_ | ⟨c1,t⟩⟩<;>first | (exfalso;simp at hl;done) | (obtain ⟨l,_,hr⟩:=row_of (w:=W) (tl:=Cls.tl) (Q:=fun _:Cls=>True) rfl (hc 0 _ _ rfl rfl) (fun t ht=>of_Cls ht) trivial;exact ⟨l,hr _ (hh 0 _ _ rfl rfl)⟩))
end
end Go.Proofs.Ytmjjikcappbkeaa
end
noncomputable section
namespace Go.Proofs.Ytmjjikcappbkeaa
open Go Go.Tx
abbrev shVl:List Sh:=[.boo,.num .i64,.num .i64]
theorem shT_Vl:ShT Try.prog 102 shVl:=.struct Try.underlying102 (by kernel_rfl) (.cons (s1:=[.boo]) (s2:=[.num .i64,.num .i64]) rfl (by kernel_rfl) (.bool (by kernel_rfl)) (.cons (s1:=[.num .i64]) (s2:=[.num .i64]) rfl (by kernel_rfl) (.int (by kernel_rfl)) (.cons (s1:=[.num .i64]) (s2:=[]) rfl (by kernel_rfl) (.int (by kernel_rfl)) .nil)))
abbrev shDcl:List Sh:=[.str,.num .i64,.num .i64]
theorem shT_Dcl:ShT Try.prog 94 shDcl:=.struct Try.underlying94 (by kernel_rfl) (.cons (s1:=[.str]) (s2:=[.num .i64,.num .i64]) rfl (by kernel_rfl) (.str (by kernel_rfl)) (.cons (s1:=[.num .i64]) (s2:=[.num .i64]) rfl (by kernel_rfl) (.int (by kernel_rfl)) (.cons (s1:=[.num .i64]) (s2:=[]) rfl (by kernel_rfl) (.int (by kernel_rfl)) .nil)))
theorem of_Dcl {w:World} {t:List TC} (h:ShL shDcl t):∃ x:Dcl,Imp w t x.tl∧x.name.size≤maxLen:=by
 obtain ⟨hl,hc⟩:=h
 rcases t with _ | ⟨c0,_ | ⟨c1,_ | ⟨c2,_ | ⟨c3,t⟩⟩⟩⟩
 all_goals first | (exfalso;simp at hl;done) | skip
 have h0:=hc 0 _ _ rfl rfl
 have h1:=hc 1 _ _ rfl rfl
 have h2:=hc 2 _ _ rfl rfl
 cases h0 with | str n0 w0 =>
 cases h1 with | num n1 w1 =>
 cases h2 with | num n2 w2 =>
 exact ⟨⟨n0,n1,n2⟩,Imp.of_eq rfl,w0⟩
abbrev shNod:List Sh:=[.num .u8,.num .u8,.num .i64,.num .i64,.boo,.num .i64,.num .i64,.boo,.num .i64,.num .i64,.num .i64,.num .i64,.num .i64]
theorem shT_Nod:ShT Try.prog 104 shNod:=.struct Try.underlying104 (by kernel_rfl) (.cons (s1:=[.num .u8]) (s2:=[.num .u8,.num .i64,.num .i64,.boo,.num .i64,.num .i64,.boo,.num .i64,.num .i64,.num .i64,.num .i64,.num .i64]) rfl (by kernel_rfl) (.int (by kernel_rfl)) (.cons (s1:=[.num .u8]) (s2:=[.num .i64,.num .i64,.boo,.num .i64,.num .i64,.boo,.num .i64,.num .i64,.num .i64,.num .i64,.num .i64]) rfl (by kernel_rfl) (.int (by kernel_rfl)) (.cons (s1:=[.num .i64]) (s2:=[.num .i64,.boo,.num .i64,.num .i64,.boo,.num .i64,.num .i64,.num .i64,.num .i64,.num .i64]) rfl (by kernel_rfl) (.int (by kernel_rfl)) (.cons (s1:=[.num .i64]) (s2:=[.boo,.num .i64,.num .i64,.boo,.num .i64,.num .i64,.num .i64,.num .i64,.num .i64]) rfl (by kernel_rfl) (.int (by kernel_rfl)) (.cons (s1:=[.boo,.num .i64,.num .i64]) (s2:=[.boo,.num .i64,.num .i64,.num .i64,.num .i64,.num .i64]) rfl (by kernel_rfl) (shT_Vl) (.cons (s1:=[.boo,.num .i64,.num .i64]) (s2:=[.num .i64,.num .i64,.num .i64]) rfl (by kernel_rfl) (shT_Vl) (.cons (s1:=[.num .i64]) (s2:=[.num .i64,.num .i64]) rfl (by kernel_rfl) (.int (by kernel_rfl)) (.cons (s1:=[.num .i64]) (s2:=[.num .i64]) rfl (by kernel_rfl) (.int (by kernel_rfl)) (.cons (s1:=[.num .i64]) (s2:=[]) rfl (by kernel_rfl) (.int (by kernel_rfl)) .nil)))))))))
def nodK (x:Nod):Prop:=0≤x.kind∧0≤x.op∧x.op≤255
theorem nodK_dflt:nodK default:=by unfold nodK;decide
theorem of_Nod {w:World} {t:List TC} (h:ShL shNod t):∃ x:Nod,Imp w t x.tl∧nodK x:=by
 obtain ⟨hl,hc⟩:=h
 rcases t with _ | ⟨c0,_ | ⟨c1,_ | ⟨c2,_ | ⟨c3,_ | ⟨c4,_ | ⟨c5,_ | ⟨c6,_ | ⟨c7,_ | ⟨c8,_ | ⟨c9,_ | ⟨c10,_ | ⟨c11,_ | ⟨c12,_ | ⟨c13,t⟩⟩⟩⟩⟩⟩⟩⟩⟩⟩⟩⟩⟩⟩
 all_goals first | (exfalso;simp at hl;done) | skip
 have h0:=hc 0 _ _ rfl rfl
 have h1:=hc 1 _ _ rfl rfl
 have h2:=hc 2 _ _ rfl rfl
 have h3:=hc 3 _ _ rfl rfl
 have h4:=hc 4 _ _ rfl rfl
 have h5:=hc 5 _ _ rfl rfl
 have h6:=hc 6 _ _ rfl rfl
 have h7:=hc 7 _ _ rfl rfl
 have h8:=hc 8 _ _ rfl rfl
 have h9:=hc 9 _ _ rfl rfl
 have h10:=hc 10 _ _ rfl rfl
 have h11:=hc 11 _ _ rfl rfl
 have h12:=hc 12 _ _ rfl rfl
 cases h0 with | num n0 w0 =>
 cases h1 with | num n1 w1 =>
 cases h2 with | num n2 w2 =>
 cases h3 with | num n3 w3 =>
 cases h4 with | boo n4 =>
 cases h5 with | num n5 w5 =>
 cases h6 with | num n6 w6 =>
 cases h7 with | boo n7 =>
 cases h8 with | num n8 w8 =>
 cases h9 with | num n9 w9 =>
 cases h10 with | num n10 w10 =>
 cases h11 with | num n11 w11 =>
 cases h12 with | num n12 w12 =>
 exact ⟨⟨n0,n1,n2,n3,⟨n4,n5,n6⟩,⟨n7,n8,n9⟩,n10,n11,n12⟩,Imp.of_eq rfl,⟨(u8_of w0).1,u8_of w1⟩⟩
abbrev shGrf:List Sh:=[.str,.num .i64,.num .i64,.sl 104 13 shNod]
theorem shT_Grf:ShT Try.prog 97 shGrf:=.struct Try.underlying97 (by kernel_rfl) (.cons (s1:=[.str]) (s2:=[.num .i64,.num .i64,.sl 104 13 shNod]) rfl (by kernel_rfl) (.str (by kernel_rfl)) (.cons (s1:=[.num .i64]) (s2:=[.num .i64,.sl 104 13 shNod]) rfl (by kernel_rfl) (.int (by kernel_rfl)) (.cons (s1:=[.num .i64]) (s2:=[.sl 104 13 shNod]) rfl (by kernel_rfl) (.int (by kernel_rfl)) (.cons (s1:=[.sl 104 13 shNod]) (s2:=[]) rfl (by kernel_rfl) (.slice (el:=shNod) (by kernel_rfl) (by kernel_rfl) (by decide) shT_Nod) .nil))))
theorem of_Grf {w:World} {t:List TC} (h:ShL shGrf t):∃ x:Grf,Imp w t x.tl∧x.name.size≤maxLen∧∀ b:Nat,nodK (x.nodes.getD b default):=by
 obtain ⟨hl,hc⟩:=h
 rcases t with _ | ⟨c0,_ | ⟨c1,_ | ⟨c2,_ | ⟨c3,_ | ⟨c4,t⟩⟩⟩⟩⟩
 all_goals first | (exfalso;simp at hl;done) | skip
 have h0:=hc 0 _ _ rfl rfl
 have h1:=hc 1 _ _ rfl rfl
 have h2:=hc 2 _ _ rfl rfl
 have h3:=hc 3 _ _ rfl rfl
 cases h0 with | str n0 w0 =>
 cases h1 with | num n1 w1 =>
 cases h2 with | num n2 w2 =>
 obtain ⟨nodes,hq,hr⟩:=row_of (w:=w) (tl:=Nod.tl) (Q:=nodK) rfl h3 (fun t ht=>of_Nod ht) nodK_dflt
 refine ⟨⟨n0,n1,n2,nodes⟩,fun j c u hj hu=>?_,w0,hq⟩
 match j,hj with
 | 0,hj=>cases hj;exact hu
 | 1,hj=>cases hj;exact hu
 | 2,hj=>cases hj;exact hu
 | 3,hj=>cases hj;exact hr u hu
 | j+4,hj=>simp at hj
abbrev shUni:List Sh:=[.sl 94 3 shDcl,.sl 94 3 shDcl,.sl 97 4 shGrf]
theorem shT_Uni:ShT Try.prog 25 shUni:=.struct Try.underlying25 (by kernel_rfl) (.cons (s1:=[.sl 94 3 shDcl]) (s2:=[.sl 94 3 shDcl,.sl 97 4 shGrf]) rfl (by kernel_rfl) (.slice (el:=shDcl) (by kernel_rfl) (by kernel_rfl) (by decide) shT_Dcl) (.cons (s1:=[.sl 94 3 shDcl]) (s2:=[.sl 97 4 shGrf]) rfl (by kernel_rfl) (.slice (el:=shDcl) (by kernel_rfl) (by kernel_rfl) (by decide) shT_Dcl) (.cons (s1:=[.sl 97 4 shGrf]) (s2:=[]) rfl (by kernel_rfl) (.slice (el:=shGrf) (by kernel_rfl) (by kernel_rfl) (by decide) shT_Grf) .nil)))
section
variable {H:Type} {enc:TypeId×Value→H} {W:World} {base:Nat}
theorem open_unit {v:Value} {d:DataW H} {p:List MemPlace} (hv:Value.okWide Try.prog W .any base 25 v) (h:DataW.Trod enc Try.prog W 0 (fun _=>true) true 25 v d p) :
 ∃ (u0 u1 u2:Value) (sh lk:List Dcl) (gs:List Grf),v=.agg #[u0,u1,u2] ∧
  RdRow W (inW W) u0 3 sh.length (fun i j u=>RdC W (inW W) ((sh.getD i default).tc j) u)∧RdRow W (inW W) u1 3 lk.length (fun i j u=>RdC W (inW W) ((lk.getD i default).tc j) u) ∧
  RdRow W (inW W) u2 4 gs.length (fun i j u=>RdC W (inW W) ((gs.getD i default).tc j) u)∧(∀ j:Nat,(sh.getD j default).name.size≤maxLen)∧(∀ j:Nat,(lk.getD j default).name.size≤maxLen) ∧
  (∀ j:Nat,(gs.getD j default).name.size≤maxLen)∧UnitW gs:=by
 obtain ⟨cs0,rfl,hsz⟩:=Go.WideShapes.okWide_struct Try.underlying25 hv
 obtain ⟨hlen,tl,⟨hl,hc⟩,hh⟩:=readAt shT_Uni h
 have hlen:cs0.toList.length=3:=hlen
 rcases tl with _ | ⟨c0,_ | ⟨c1,_ | ⟨c2,_ | ⟨c3,t⟩⟩⟩⟩
 all_goals first | (exfalso;simp at hl;done) | skip
 obtain ⟨l,rfl⟩:∃ l:List Value,cs0=l.toArray:=⟨cs0.toList,by simp⟩
 simp only [List.toList_toArray] at hlen
 rcases l with _ | ⟨u0,_ | ⟨u1,_ | ⟨u2,_ | ⟨u3,t⟩⟩⟩⟩
 all_goals first | (exfalso;simp at hlen;done) | skip
 have h0:=hc 0 _ _ rfl rfl
 have h1:=hc 1 _ _ rfl rfl
 have h2:=hc 2 _ _ rfl rfl
 obtain ⟨sh,q0,r0⟩:=row_of (w:=W) (tl:=Dcl.tl) (Q:=fun x:Dcl=>x.name.size≤maxLen) rfl h0 (fun t ht=>of_Dcl ht) (Nat.zero_le _)
 obtain ⟨lk,q1,r1⟩:=row_of (w:=W) (tl:=Dcl.tl) (Q:=fun x:Dcl=>x.name.size≤maxLen) rfl h1 (fun t ht=>of_Dcl ht) (Nat.zero_le _)
 obtain ⟨gs,q2,r2⟩:=row_of (w:=W) (tl:=Grf.tl) (Q:=fun x:Grf=>x.name.size≤maxLen∧∀ b:Nat,nodK (x.nodes.getD b default)) rfl h2 (fun t ht=>of_Grf ht) ⟨Nat.zero_le _,fun b=>by
  rw [List.getD_eq_getElem?_getD];exact nodK_dflt⟩
 exact ⟨u0,u1,u2,sh,lk,gs,rfl,r0 u0 (hh 0 _ _ rfl rfl),r1 u1 (hh 1 _ _ rfl rfl),r2 u2 (hh 2 _ _ rfl rfl),q0,q1,fun j=>(q2 j).1,fun a b=>(q2 a).2 b⟩
theorem shT_Ints:ShT Try.prog 27 [.sl 3 1 [.num .i64]]:=.slice (el:=[.num .i64]) (by kernel_rfl) (by kernel_rfl) (by decide) (.int (by kernel_rfl))
theorem open_ints {v:Value} {d:DataW H} {p:List MemPlace} (hv:Value.okWide Try.prog W .any base 27 v) (h:DataW.Trod enc Try.prog W 0 (fun _=>true) true 27 v d p) :
 ∃ l:List Int,RdRow W (inW W) v 1 l.length (fun i j u=>RdC W (inW W) (i64T (l.getD i 0) j) u):=by
 obtain ⟨a,len,cap,rfl⟩:=Go.WideShapes.okWide_slice Try.underlying27 hv
 obtain ⟨hlen,tl,⟨hl,hc⟩,hh⟩:=readAt shT_Ints h
 rcases tl with _ | ⟨c0,_ | ⟨c1,t⟩⟩
 all_goals first | (exfalso;simp at hl;done) | skip
 obtain ⟨l,_,hr⟩:=row_of (w:=W) (α:=Int) (tl:=fun n=>[.val (.int .i64 n)]) (Q:=fun _=>True) rfl (hc 0 _ _ rfl rfl) (fun t ht=>of_Int ht) trivial
 exact ⟨l,hr _ (hh 0 _ _ rfl rfl)⟩
end
end Go.Proofs.Ytmjjikcappbkeaa
end
noncomputable section
namespace Go.Proofs.Ytmjjikcappbkeaa.lawWitnessSteps
open Go.ChangeShapes Go.WideShapes Go.ChangeAt Go.RowKit Go.Tx
theorem laidT:laidOutB Try.prog=true:=by kernel_rfl
theorem own:ownKnob Try.prog.godebug=none:=by kernel_rfl
theorem results:Try.f3.resultTypes=#[4]:=by kernel_rfl
theorem contract (H:Type) (enc:TypeId×Value→H) (W:World) (base:Nat) (args:Array Value) (ds gs:List (DataW H)) (before:List MemPlace)
 (hval:∀ (j:Nat) t v,Try.f3.params[j]?=some t→args[j]?=some v→Value.okWide Try.prog W .any base t v)
 (hW:DataW.Whole enc Try.prog Try.f3.params.toList Rows.witnessStepsSpec.vars false W args.toList ds gs before) (hk:Rows.uptoSmall H (ds++gs)=true) :
 Calls Try.prog 3 args W fun e W'=>∃ v,e=.returned v∧Rows.witnessStepsSpec.post enc Try.prog Try.f3 false true false false W args v W':=by
 have hW':=hW
 have hlt:=hW.lt
 obtain ⟨p,q,hA0,hV,rfl,hfz,hnd⟩:=hW
 have hA:DataW.TrodAll enc Try.prog W 0 (fun _=>true) true Try.f3.params.toList args.toList ds p:=hA0
 rw [Try.params3] at hA hval
 obtain ⟨v0,vs0,d0,ds0,p0,q0,hargs0,rfl,rfl,h0,r0⟩:=trodAll_cons hA
 obtain ⟨v1,vs1,d1,ds1,p1,q1,hargs1,rfl,rfl,h1,r1⟩:=trodAll_cons r0
 obtain ⟨v2,vs2,d2,ds2,p2,q2,hargs2,rfl,rfl,h2,r2⟩:=trodAll_cons r1
 obtain ⟨v3,vs3,d3,ds3,p3,q3,hargs3,rfl,rfl,h3,r3⟩:=trodAll_cons r2
 obtain ⟨rfl,rfl,rfl⟩:=trodAll_nil r3
 obtain rfl:args=#[v0,v1,v2,v3]:=by cases args;simp_all
 obtain ⟨rfl,rfl⟩:=trodVars_none hV
 clear hA0
 have hv0:=hval 0 25 v0 rfl rfl
 have hv1:=hval 1 26 v1 rfl rfl
 have hv2:=hval 2 27 v2 rfl rfl
 have hv3:=hval 3 3 v3 rfl rfl
 obtain ⟨cl,hrc⟩:=open_clss hv1 h1
 obtain ⟨order,hro⟩:=open_ints hv2 h2
 obtain ⟨most,rfl⟩:=Go.WideShapes.okWide_int Try.underlying3 hv3
 obtain ⟨u0,u1,u2,sh,lk,gs,rfl,hr0,hr1,hr2,hs,hl,hg,hw⟩:=open_unit hv0 h0
 have hregs:RegsOk ([⟨u0,inW W⟩,⟨u1,inW W⟩,⟨u2,inW W⟩,⟨v1,inW W⟩,⟨v2,inW W⟩]:Env) (Base.at_ [Dcl.rowR sh,Dcl.rowR lk,Grf.rowR gs,Cls.rowR cl,IntRow order] [⟨u0,inW W⟩,⟨u1,inW W⟩,⟨u2,inW W⟩,⟨v1,inW W⟩,⟨v2,inW W⟩] W).M (Base.at_ [Dcl.rowR sh,Dcl.rowR lk,Grf.rowR gs,Cls.rowR cl,IntRow order] [⟨u0,inW W⟩,⟨u1,inW W⟩,⟨u2,inW W⟩,⟨v1,inW W⟩,⟨v2,inW W⟩] W).L W [Dcl.rowR sh,Dcl.rowR lk,Grf.rowR gs,Cls.rowR cl,IntRow order]:=by
  refine rows_ok rfl rfl (fun i hi=>?_) (fun i r hi=>?_)
  ·match i,hi with
   | 0,_=>rfl
   | 1,_=>rfl
   | 2,_=>rfl
   | 3,_=>rfl
   | 4,_=>rfl
   | i+5,hi=>exact absurd hi (by simp)
  ·match i,hi with
   | 0,hi=>cases hi;exact row_ok hr0
   | 1,hi=>cases hi;exact row_ok hr1
   | 2,hi=>cases hi;exact row_ok hr2
   | 3,hi=>cases hi;exact row_ok hrc
   | 4,hi=>cases hi;exact row_ok hro
   | i+5,hi=>simp at hi
 refine ((c_ws sh lk gs hs hl hg hw cl order most) [⟨u0,inW W⟩,⟨u1,inW W⟩,⟨u2,inW W⟩,⟨v1,inW W⟩,⟨v2,inW W⟩] W hregs).mono fun e W' hret=>?_
 obtain ⟨res,post,ε',⟨rfl,_⟩,rfl,_,_,hfr⟩:=hret
 have hb:Below W.heap.size W W':=⟨hfr.os,hfr.tape,hfr.output,hfr.size,fun k hk=>hfr.block k hk (fun ⟨i,r,hi,he,_⟩=>by
  match i,hi with
  | 0,hi=>cases hi;cases he
  | 1,hi=>cases hi;cases he
  | 2,hi=>cases hi;cases he
  | 3,hi=>cases hi;cases he
  | 4,hi=>cases hi;cases he
  | i+5,hi=>simp at hi)⟩
 refine ⟨_,rfl,_,_,_,[],p0++(p1++(p2++(p3++[]))),[],hW',?_,?_,?_,hb.frame _,fun h=>by cases h⟩
 ·rw [results]
  exact trodAll_cons_mk (shut_bool Try.underlying4 _) trodAll_mk0
 ·rw [Try.params3]
  exact (trodAll_cons_mk (WideElems.Trod_stays laidT (by kernel_rfl) (of_decide_eq_true (by kernel_rfl)) h0 (fun p hp=>hb.same (hlt p (by simp [hp]))) (fun p hp=>by simpa using hlt p (by simp [hp]))) (trodAll_cons_mk (WideElems.Trod_stays laidT (by kernel_rfl) (of_decide_eq_true (by kernel_rfl)) h1 (fun p hp=>hb.same (hlt p (by simp [hp]))) (fun p hp=>by simpa using hlt p (by simp [hp]))) (trodAll_cons_mk (WideElems.Trod_stays laidT (by kernel_rfl) (of_decide_eq_true (by kernel_rfl)) h2 (fun p hp=>hb.same (hlt p (by simp [hp]))) (fun p hp=>by simpa using hlt p (by simp [hp]))) (trodAll_cons_mk (WideElems.Trod_stays laidT (by kernel_rfl) (of_decide_eq_true (by kernel_rfl)) h3 (fun p hp=>hb.same (hlt p (by simp [hp]))) (fun p hp=>by simpa using hlt p (by simp [hp]))) trodAll_mk0))))
 ·rfl
set_option maxRecDepth 100000 in
theorem lifted (os:Os) (started:os.Started) (H:Type) (enc:TypeId×Value→H) (F:Stop.Interp) :
 ReturnsInHanded {} Try.checked os 3 .any ((Rows.OpenSpec.upto Rows.witnessStepsSpec).pre6 enc Try.prog Try.f3 Rows.witnessStepsUptoRow.domain false) (((Rows.OpenSpec.upto Rows.witnessStepsSpec).at F).post enc Try.prog Try.f3 false true false false):=by
 refine returnsInHanded_of_cond (C:=Try.checked) (s:=Rows.OpenSpec.upto Rows.witnessStepsSpec) (k:=Rows.uptoSmall) rfl own started (by kernel_rfl) Try.func3
  (OpenSpec.witness (enc:=enc) (C:=Try.checked) (s:=Rows.OpenSpec.upto Rows.witnessStepsSpec) (k:=Rows.uptoSmall) rfl false ⟨#[],#[.agg #[.slice none 0 0,.slice none 0 0,.slice none 0 0],.slice none 0 0,.slice none 0 0,.int .i64 0],[]⟩ 8 (by kernel_rfl) (by kernel_rfl) (by kernel_rfl)
    (x:=([.agg [.nil,.nil,.nil],.nil,.nil,.lit (.int .i64 0)],[],[])) (by kernel_rfl) rfl (by kernel_rfl)) ?_
 intro W base args ds gs before hval hW _ hk _
 exact contract H enc W base args ds gs before hval hW hk
theorem proved:Rows.WitnessStepsUptoSaid:=
 OpenClaim.holds_of_cond 3 Try.f3 rfl rfl rfl rfl rfl rfl rfl ⟨rfl,rfl,rfl,rfl,rfl⟩ rfl rfl rfl rfl rfl (by kernel_rfl) Try.func3 (by kernel_rfl)
  (of_decide_eq_true (by kernel_rfl)) (by unfold Func.isWrapper;first | (rw [if_pos (by decide +kernel)];kernel_rfl) | (rw [if_neg (by decide +kernel)];exact ⟨rfl,rfl⟩))
  (fun os started H enc _ F=>lifted os started H enc F)
end Go.Proofs.Ytmjjikcappbkeaa.lawWitnessSteps
end
