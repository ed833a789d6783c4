/-
  A part of the proof. Text 5 of 8: Leaf43 Leaf44 Leaf45 SpecX Leaf46 Leaf47 SpecB SpecC SpecY Leaf48 Leaf49 Leaf2 Leaf3 Leaf4 Leaf5 Leaf6 Leaf7 Leaf8 Leaf9 Leaf50.
-/
import Derived.Test.YtmjjikcappbkeaaP4
set_option linter.unusedSimpArgs false
set_option linter.unusedVariables false
set_option maxHeartbeats 4000000
noncomputable section
namespace Go.Proofs.Ytmjjikcappbkeaa
open Go Go.Tx
abbrev z43_3 (core:Int) (pc:Int):=(Did.mk (1:Int) core pc (0:Int) (0:Int) (0:Int) false)
abbrev z43_7 (vs:List VCo) (k:Nat) (i:Ins):=∀ (i_1:Nat),i_1<(vs.set k (zeroT i (vs.getD k default))).length→((vs.set k (zeroT i (vs.getD k default))).getD i_1 default).tc=if i_1=k then (zeroT i (vs.getD k default)).tc else (vs.getD i_1 default).tc
abbrev z43_9 (i:Ins) (vs:List VCo) (k:Nat):=∀ (i_1:Nat),i_1<(zeroT i (vs.getD k default)).buf.length→((zeroT i (vs.getD k default)).buf.getD i_1 default).tc=((vs.getD k default).buf.getD i_1 default).tc
abbrev z43_11 (vs:List VCo) (k:Nat):=(vs.getD k default).regs.getD 10 (0:Int)
abbrev z43_12 (vs:List VCo) (k:Nat):=(vs.getD k default).regs.getD 11 (0:Int)
abbrev z43_13 (vs:List VCo) (k:Nat):=(vs.getD k default).regs.getD 12 (0:Int)
abbrev z43_14 (vs:List VCo) (k:Nat):=(vs.getD k default).regs.getD 13 (0:Int)
abbrev z43_15 (vs:List VCo) (k:Nat):=(vs.getD k default).regs.getD 14 (0:Int)
abbrev z43_16 (vs:List VCo) (k:Nat):=(vs.getD k default).regs.getD 15 (0:Int)
abbrev z43_17 (vs:List VCo) (k:Nat):=(vs.getD k default).regs.getD 0 (0:Int)
abbrev z43_18 (vs:List VCo) (k:Nat):=(vs.getD k default).regs.getD 1 (0:Int)
abbrev z43_19 (vs:List VCo) (k:Nat):=(vs.getD k default).regs.getD 2 (0:Int)
abbrev z43_20 (vs:List VCo) (k:Nat):=(vs.getD k default).regs.getD 3 (0:Int)
abbrev z43_21 (vs:List VCo) (k:Nat):=(vs.getD k default).regs.getD 4 (0:Int)
abbrev z43_22 (vs:List VCo) (k:Nat):=(vs.getD k default).regs.getD 5 (0:Int)
abbrev z43_23 (vs:List VCo) (k:Nat):=[z43_17 vs k,z43_18 vs k,z43_19 vs k,z43_20 vs k,z43_21 vs k,z43_22 vs k,(vs.getD k default).regs.getD 6 (0:Int),(vs.getD k default).regs.getD 7 (0:Int),(vs.getD k default).regs.getD 8 (0:Int),(vs.getD k default).regs.getD 9 (0:Int),z43_11 vs k,z43_12 vs k,z43_13 vs k,z43_14 vs k,z43_15 vs k,z43_16 vs k]
theorem c_t_zero (sh lk bu:Int) (cs:List Cor) (vs:List VCo) (mem:List Int) (pr:List Prt) (k:Nat) (i:Ins) (core pc:Int) (hk:k<vs.length) (ha:0≤i.a∧i.a<16):Ctr Try.prog 106 [Reg.box 138 (vmC sh lk bu 1 2 3 4),Cor.rowR cs,VCo.ownR vs,WordOwn mem,Prt.ownR pr,Reg.box 66 [.i .u8 0,.i .i64 core,.i .i64 pc,.i .i64 0,.i .i64 0,.i .i64 0,.t false]] [.agg [.p 0 0,.e 2 19 k 0,.i .u8 i.kind,.i .u8 i.op,.i .i64 i.d,.i .i64 i.a,.i .i64 i.b,.i .i64 i.addr,.i .i64 i.to,.i .i64 i.word,.i .i64 i.from_,.p 5 0]]
 (Det (.tup []) [Reg.box 138 (vmC sh lk bu 1 2 3 6),.dead,VCo.ownR (vs.set k (zeroT i (vs.getD k default))),WordOwn (mem),.dead,Reg.box 66 (Did.cs ⟨1,core,pc,0,0,0,false⟩),Prt.ownR (pr)]):=by
 refine Ctr.intro [] Try.func106 K K ?_
 refine tFoc 2 (k) ?_ (vc:=[k<vs.length]) (hv:=(by simp only [Conj,Fits,i64_min,i64_max,u8_min,u8_max,News.len,maxLen]<;>(repeat' (first | apply And.intro | intro _))<;>first | grind | (simp only [BL] at *;omega)))
 refine tCond (decide ((z43_23 vs k).getD i.a.toNat (0:Int)=(0:Int))) (fun h1=>?_) (fun h1=>?_) (vc:=[(0:Int)≤i.a,i.a<(16:Int),i.a.toNat<16,k=k]) (hv:=(by simp only [Conj,Fits,i64_min,i64_max,u8_min,u8_max,News.len,maxLen]<;>(repeat' (first | apply And.intro | intro _))<;>first | grind | (simp only [BL] at *;omega)))
 ·exact tFinF [(2,(VCo.tc (zeroT i (vs.getD k default))))] [0,1,2,3,4,5,4] [4,5,8,9,10,11,12,13,14] [(vs.set k (zeroT i (vs.getD k default))).length=vs.length,z43_7 vs k i,(z43_3 core pc).kind=(1:Int),(z43_3 core pc).core=core,(z43_3 core pc).pc=pc,(z43_3 core pc).addr=(0:Int),(z43_3 core pc).word=(0:Int),(z43_3 core pc).put=(0:Int),(z43_3 core pc).own=false] (by simp only [Conj];(repeat' apply And.intro)<;>first | trivial | rfl | exact fun _ _=>rfl | exact List.length_set | exact set_ints _ _ _ | exact set_tc _ _ _ _ _ | (intro j hj;first | exact set_tc _ _ _ _ _ j hj | (rw [set_tc _ _ _ _ _ j hj];rfl)) | (intros;rfl) | grind) (vc:=[k=k]) (hv:=(by simp only [Conj,Fits,i64_min,i64_max,u8_min,u8_max,News.len,maxLen]<;>(repeat' (first | apply And.intro | intro _))<;>first | grind | (simp only [BL] at *;omega))) (vc2:=[(zeroT i (vs.getD k default)).pos=i.to,(zeroT i (vs.getD k default)).halted=(vs.getD k default).halted,(zeroT i (vs.getD k default)).regs.getD 0 (0:Int)=(vs.getD k default).regs.getD 0 (0:Int),(zeroT i (vs.getD k default)).regs.getD 1 (0:Int)=(vs.getD k default).regs.getD 1 (0:Int),(zeroT i (vs.getD k default)).regs.getD 2 (0:Int)=(vs.getD k default).regs.getD 2 (0:Int),(zeroT i (vs.getD k default)).regs.getD 3 (0:Int)=(vs.getD k default).regs.getD 3 (0:Int),(zeroT i (vs.getD k default)).regs.getD 4 (0:Int)=(vs.getD k default).regs.getD 4 (0:Int),(zeroT i (vs.getD k default)).regs.getD 5 (0:Int)=(vs.getD k default).regs.getD 5 (0:Int),(zeroT i (vs.getD k default)).regs.getD 6 (0:Int)=(vs.getD k default).regs.getD 6 (0:Int),(zeroT i (vs.getD k default)).regs.getD 7 (0:Int)=(vs.getD k default).regs.getD 7 (0:Int),(zeroT i (vs.getD k default)).regs.getD 8 (0:Int)=(vs.getD k default).regs.getD 8 (0:Int),(zeroT i (vs.getD k default)).regs.getD 9 (0:Int)=(vs.getD k default).regs.getD 9 (0:Int),(zeroT i (vs.getD k default)).regs.getD 10 (0:Int)=(vs.getD k default).regs.getD 10 (0:Int),(zeroT i (vs.getD k default)).regs.getD 11 (0:Int)=(vs.getD k default).regs.getD 11 (0:Int),(zeroT i (vs.getD k default)).regs.getD 12 (0:Int)=(vs.getD k default).regs.getD 12 (0:Int),(zeroT i (vs.getD k default)).regs.getD 13 (0:Int)=(vs.getD k default).regs.getD 13 (0:Int),(zeroT i (vs.getD k default)).regs.getD 14 (0:Int)=(vs.getD k default).regs.getD 14 (0:Int),(zeroT i (vs.getD k default)).regs.getD 15 (0:Int)=(vs.getD k default).regs.getD 15 (0:Int),(zeroT i (vs.getD k default)).buf.length=(vs.getD k default).buf.length,z43_9 i vs k]) (hv2:=(by simp only [Conj,zeroT];(repeat' apply And.intro)<;>first | trivial | rfl | exact fun _ _=>rfl | exact if_pos (of_decide_eq_true h2) | exact if_neg (of_decide_eq_false h2) | exact if_pos (of_decide_eq_true h1) | exact if_neg (of_decide_eq_false h1)))
 ·exact tFinF [(2,(VCo.tc (zeroT i (vs.getD k default))))] [0,1,2,3,4,5,4] [4,5,8,9,10,11,12,13,14] [(vs.set k (zeroT i (vs.getD k default))).length=vs.length,z43_7 vs k i,(z43_3 core pc).kind=(1:Int),(z43_3 core pc).core=core,(z43_3 core pc).pc=pc,(z43_3 core pc).addr=(0:Int),(z43_3 core pc).word=(0:Int),(z43_3 core pc).put=(0:Int),(z43_3 core pc).own=false] (by simp only [Conj];(repeat' apply And.intro)<;>first | trivial | rfl | exact fun _ _=>rfl | exact List.length_set | exact set_ints _ _ _ | exact set_tc _ _ _ _ _ | (intro j hj;first | exact set_tc _ _ _ _ _ j hj | (rw [set_tc _ _ _ _ _ j hj];rfl)) | (intros;rfl) | grind) (vc2:=[(zeroT i (vs.getD k default)).pos=(vs.getD k default).pos,(zeroT i (vs.getD k default)).halted=(vs.getD k default).halted,(zeroT i (vs.getD k default)).regs.getD 0 (0:Int)=(vs.getD k default).regs.getD 0 (0:Int),(zeroT i (vs.getD k default)).regs.getD 1 (0:Int)=(vs.getD k default).regs.getD 1 (0:Int),(zeroT i (vs.getD k default)).regs.getD 2 (0:Int)=(vs.getD k default).regs.getD 2 (0:Int),(zeroT i (vs.getD k default)).regs.getD 3 (0:Int)=(vs.getD k default).regs.getD 3 (0:Int),(zeroT i (vs.getD k default)).regs.getD 4 (0:Int)=(vs.getD k default).regs.getD 4 (0:Int),(zeroT i (vs.getD k default)).regs.getD 5 (0:Int)=(vs.getD k default).regs.getD 5 (0:Int),(zeroT i (vs.getD k default)).regs.getD 6 (0:Int)=(vs.getD k default).regs.getD 6 (0:Int),(zeroT i (vs.getD k default)).regs.getD 7 (0:Int)=(vs.getD k default).regs.getD 7 (0:Int),(zeroT i (vs.getD k default)).regs.getD 8 (0:Int)=(vs.getD k default).regs.getD 8 (0:Int),(zeroT i (vs.getD k default)).regs.getD 9 (0:Int)=(vs.getD k default).regs.getD 9 (0:Int),(zeroT i (vs.getD k default)).regs.getD 10 (0:Int)=(vs.getD k default).regs.getD 10 (0:Int),(zeroT i (vs.getD k default)).regs.getD 11 (0:Int)=(vs.getD k default).regs.getD 11 (0:Int),(zeroT i (vs.getD k default)).regs.getD 12 (0:Int)=(vs.getD k default).regs.getD 12 (0:Int),(zeroT i (vs.getD k default)).regs.getD 13 (0:Int)=(vs.getD k default).regs.getD 13 (0:Int),(zeroT i (vs.getD k default)).regs.getD 14 (0:Int)=(vs.getD k default).regs.getD 14 (0:Int),(zeroT i (vs.getD k default)).regs.getD 15 (0:Int)=(vs.getD k default).regs.getD 15 (0:Int),(zeroT i (vs.getD k default)).buf.length=(vs.getD k default).buf.length,z43_9 i vs k]) (hv2:=(by simp only [Conj,zeroT];(repeat' apply And.intro)<;>first | trivial | rfl | exact fun _ _=>rfl | exact if_pos (of_decide_eq_true h2) | exact if_neg (of_decide_eq_false h2) | exact if_pos (of_decide_eq_true h1) | exact if_neg (of_decide_eq_false h1)))
abbrev z43_1 (vs:List VCo) (k:Nat) (i:Ins):=((z43_23 vs k).getD i.a.toNat (0:Int))
abbrev z43_2 (vs:List VCo) (k:Nat) (i:Ins):=((z43_23 vs k).getD i.b.toNat (0:Int))
abbrev z43_8 (vs:List VCo) (k:Nat) (i:Ins):=∀ (i_1:Nat),i_1<(vs.set k (opT i (vs.getD k default))).length→((vs.set k (opT i (vs.getD k default))).getD i_1 default).tc=if i_1=k then (opT i (vs.getD k default)).tc else (vs.getD i_1 default).tc
abbrev z43_10 (i:Ins) (vs:List VCo) (k:Nat):=∀ (i_1:Nat),i_1<(opT i (vs.getD k default)).buf.length→((opT i (vs.getD k default)).buf.getD i_1 default).tc=((vs.getD k default).buf.getD i_1 default).tc
theorem c_t_op (sh lk bu:Int) (cs:List Cor) (vs:List VCo) (mem:List Int) (pr:List Prt) (k:Nat) (i:Ins) (core pc:Int) (hk:k<vs.length) (ha:0≤i.a∧i.a<16) (hb:0≤i.b∧i.b<16) (hd:0≤i.d∧i.d<16):Ctr Try.prog 99 [Reg.box 138 (vmC sh lk bu 1 2 3 4),Cor.rowR cs,VCo.ownR vs,WordOwn mem,Prt.ownR pr,Reg.box 66 [.i .u8 0,.i .i64 core,.i .i64 pc,.i .i64 0,.i .i64 0,.i .i64 0,.t false]] [.agg [.p 0 0,.e 2 19 k 0,.i .u8 i.kind,.i .u8 i.op,.i .i64 i.d,.i .i64 i.a,.i .i64 i.b,.i .i64 i.addr,.i .i64 i.to,.i .i64 i.word,.i .i64 i.from_,.p 5 0]]
 (Det (.tup []) [Reg.box 138 (vmC sh lk bu 1 2 3 6),.dead,VCo.ownR (vs.set k (opT i (vs.getD k default))),WordOwn (mem),.dead,Reg.box 66 (Did.cs ⟨1,core,pc,0,0,0,false⟩),Prt.ownR (pr)]):=by
 refine Ctr.intro [] Try.func99 K K ?_
 refine tFoc 2 (k) ?_ (vc:=[k<vs.length]) (hv:=(by simp only [Conj,Fits,i64_min,i64_max,u8_min,u8_max,News.len,maxLen]<;>(repeat' (first | apply And.intro | intro _))<;>first | grind | (simp only [BL] at *;omega)))
 refine tCall e_words_Do (c_do (k:=i.op) (a:=(z43_23 vs k).getD i.a.toNat (0:Int)) (b:=(z43_23 vs k).getD i.b.toNat (0:Int))) [] ?_ (vc:=[(0:Int)≤i.a,i.a<(16:Int),i.a.toNat<16,k=k,(0:Int)≤i.b,i.b<(16:Int),i.b.toNat<16,k=k]) (hv:=(by simp only [Conj,Fits,i64_min,i64_max,u8_min,u8_max,News.len,maxLen]<;>(repeat' (first | apply And.intro | intro _))<;>first | grind | (simp only [BL] at *;omega)))
 refine tz [34,2,1] ?_
 refine tCond (!decide ((if twoB i.op=true then (0:Int) else (2:Int))=(0:Int))) (fun h1=>?_) (fun h1=>?_)
 ·refine tz [4,2,1] ?_
  refine tCall e_words_One (c_one (k:=i.op) (a:=(z43_23 vs k).getD i.a.toNat (0:Int))) [] ?_
  exact tFinF [(2,(VCo.tc (opT i (vs.getD k default))))] [0,1,2,3,4,5,4] [4,5,8,9,10,11,12,13,14] [(vs.set k (opT i (vs.getD k default))).length=vs.length,z43_8 vs k i,(z43_3 core pc).kind=(1:Int),(z43_3 core pc).core=core,(z43_3 core pc).pc=pc,(z43_3 core pc).addr=(0:Int),(z43_3 core pc).word=(0:Int),(z43_3 core pc).put=(0:Int),(z43_3 core pc).own=false] (by simp only [Conj];(repeat' apply And.intro)<;>first | trivial | rfl | exact fun _ _=>rfl | exact List.length_set | exact set_ints _ _ _ | exact set_tc _ _ _ _ _ | (intro j hj;first | exact set_tc _ _ _ _ _ j hj | (rw [set_tc _ _ _ _ _ j hj];rfl)) | (intros;rfl) | grind) (vc:=[(0:Int)≤i.d,i.d<(16:Int),i.d.toNat<16,k=k]) (hv:=(by simp only [Conj,Fits,i64_min,i64_max,u8_min,u8_max,News.len,maxLen]<;>(repeat' (first | apply And.intro | intro _))<;>first | grind | (simp only [BL] at *;omega))) (vc2:=[(opT i (vs.getD k default)).pos=(vs.getD k default).pos,(opT i (vs.getD k default)).halted=(vs.getD k default).halted,(opT i (vs.getD k default)).regs.getD 0 (0:Int)=if i.d.toNat=0 then if (opB i.op&&!twoB i.op)=true then opOne i.op (z43_1 vs k i) else (0:Int) else (vs.getD k default).regs.getD 0 (0:Int),(opT i (vs.getD k default)).regs.getD 1 (0:Int)=if i.d.toNat=1 then if (opB i.op&&!twoB i.op)=true then opOne i.op (z43_1 vs k i) else (0:Int) else (vs.getD k default).regs.getD 1 (0:Int),(opT i (vs.getD k default)).regs.getD 2 (0:Int)=if i.d.toNat=2 then if (opB i.op&&!twoB i.op)=true then opOne i.op (z43_1 vs k i) else (0:Int) else (vs.getD k default).regs.getD 2 (0:Int),(opT i (vs.getD k default)).regs.getD 3 (0:Int)=if i.d.toNat=3 then if (opB i.op&&!twoB i.op)=true then opOne i.op (z43_1 vs k i) else (0:Int) else (vs.getD k default).regs.getD 3 (0:Int),(opT i (vs.getD k default)).regs.getD 4 (0:Int)=if i.d.toNat=4 then if (opB i.op&&!twoB i.op)=true then opOne i.op (z43_1 vs k i) else (0:Int) else (vs.getD k default).regs.getD 4 (0:Int),(opT i (vs.getD k default)).regs.getD 5 (0:Int)=if i.d.toNat=5 then if (opB i.op&&!twoB i.op)=true then opOne i.op (z43_1 vs k i) else (0:Int) else (vs.getD k default).regs.getD 5 (0:Int),(opT i (vs.getD k default)).regs.getD 6 (0:Int)=if i.d.toNat=6 then if (opB i.op&&!twoB i.op)=true then opOne i.op (z43_1 vs k i) else (0:Int) else (vs.getD k default).regs.getD 6 (0:Int),(opT i (vs.getD k default)).regs.getD 7 (0:Int)=if i.d.toNat=7 then if (opB i.op&&!twoB i.op)=true then opOne i.op (z43_1 vs k i) else (0:Int) else (vs.getD k default).regs.getD 7 (0:Int),(opT i (vs.getD k default)).regs.getD 8 (0:Int)=if i.d.toNat=8 then if (opB i.op&&!twoB i.op)=true then opOne i.op (z43_1 vs k i) else (0:Int) else (vs.getD k default).regs.getD 8 (0:Int),(opT i (vs.getD k default)).regs.getD 9 (0:Int)=if i.d.toNat=9 then if (opB i.op&&!twoB i.op)=true then opOne i.op (z43_1 vs k i) else (0:Int) else (vs.getD k default).regs.getD 9 (0:Int),(opT i (vs.getD k default)).regs.getD 10 (0:Int)=if i.d.toNat=10 then if (opB i.op&&!twoB i.op)=true then opOne i.op (z43_1 vs k i) else (0:Int) else (vs.getD k default).regs.getD 10 (0:Int),(opT i (vs.getD k default)).regs.getD 11 (0:Int)=if i.d.toNat=11 then if (opB i.op&&!twoB i.op)=true then opOne i.op (z43_1 vs k i) else (0:Int) else (vs.getD k default).regs.getD 11 (0:Int),(opT i (vs.getD k default)).regs.getD 12 (0:Int)=if i.d.toNat=12 then if (opB i.op&&!twoB i.op)=true then opOne i.op (z43_1 vs k i) else (0:Int) else (vs.getD k default).regs.getD 12 (0:Int),(opT i (vs.getD k default)).regs.getD 13 (0:Int)=if i.d.toNat=13 then if (opB i.op&&!twoB i.op)=true then opOne i.op (z43_1 vs k i) else (0:Int) else (vs.getD k default).regs.getD 13 (0:Int),(opT i (vs.getD k default)).regs.getD 14 (0:Int)=if i.d.toNat=14 then if (opB i.op&&!twoB i.op)=true then opOne i.op (z43_1 vs k i) else (0:Int) else (vs.getD k default).regs.getD 14 (0:Int),(opT i (vs.getD k default)).regs.getD 15 (0:Int)=if i.d.toNat=15 then if (opB i.op&&!twoB i.op)=true then opOne i.op (z43_1 vs k i) else (0:Int) else (vs.getD k default).regs.getD 15 (0:Int),(opT i (vs.getD k default)).buf.length=(vs.getD k default).buf.length,z43_10 i vs k]) (hv2:=(by simp only [Conj,opT];first | (rw [show opV i.op (getR (vs.getD k default).regs i.a.toNat) (getR (vs.getD k default).regs i.b.toNat)=_ from if_pos (by assumption)];(repeat' apply And.intro)<;>first | trivial | rfl | exact fun _ _=>rfl) | (rw [show opV i.op (getR (vs.getD k default).regs i.a.toNat) (getR (vs.getD k default).regs i.b.toNat)=_ from if_neg (ne_true_of_eq_false (by assumption))];(repeat' apply And.intro)<;>first | trivial | rfl | exact fun _ _=>rfl)))
 ·exact tFinF [(2,(VCo.tc (opT i (vs.getD k default))))] [0,1,2,3,4,5,4] [4,5,8,9,10,11,12,13,14] [(vs.set k (opT i (vs.getD k default))).length=vs.length,z43_8 vs k i,(z43_3 core pc).kind=(1:Int),(z43_3 core pc).core=core,(z43_3 core pc).pc=pc,(z43_3 core pc).addr=(0:Int),(z43_3 core pc).word=(0:Int),(z43_3 core pc).put=(0:Int),(z43_3 core pc).own=false] (by simp only [Conj];(repeat' apply And.intro)<;>first | trivial | rfl | exact fun _ _=>rfl | exact List.length_set | exact set_ints _ _ _ | exact set_tc _ _ _ _ _ | (intro j hj;first | exact set_tc _ _ _ _ _ j hj | (rw [set_tc _ _ _ _ _ j hj];rfl)) | (intros;rfl) | grind) (vc:=[(0:Int)≤i.d,i.d<(16:Int),i.d.toNat<16,k=k]) (hv:=(by simp only [Conj,Fits,i64_min,i64_max,u8_min,u8_max,News.len,maxLen]<;>(repeat' (first | apply And.intro | intro _))<;>first | grind | (simp only [BL] at *;omega))) (vc2:=[(opT i (vs.getD k default)).pos=(vs.getD k default).pos,(opT i (vs.getD k default)).halted=(vs.getD k default).halted,(opT i (vs.getD k default)).regs.getD 0 (0:Int)=if i.d.toNat=0 then if twoB i.op=true then opTwo i.op (z43_1 vs k i) (z43_2 vs k i) else (0:Int) else (vs.getD k default).regs.getD 0 (0:Int),(opT i (vs.getD k default)).regs.getD 1 (0:Int)=if i.d.toNat=1 then if twoB i.op=true then opTwo i.op (z43_1 vs k i) (z43_2 vs k i) else (0:Int) else (vs.getD k default).regs.getD 1 (0:Int),(opT i (vs.getD k default)).regs.getD 2 (0:Int)=if i.d.toNat=2 then if twoB i.op=true then opTwo i.op (z43_1 vs k i) (z43_2 vs k i) else (0:Int) else (vs.getD k default).regs.getD 2 (0:Int),(opT i (vs.getD k default)).regs.getD 3 (0:Int)=if i.d.toNat=3 then if twoB i.op=true then opTwo i.op (z43_1 vs k i) (z43_2 vs k i) else (0:Int) else (vs.getD k default).regs.getD 3 (0:Int),(opT i (vs.getD k default)).regs.getD 4 (0:Int)=if i.d.toNat=4 then if twoB i.op=true then opTwo i.op (z43_1 vs k i) (z43_2 vs k i) else (0:Int) else (vs.getD k default).regs.getD 4 (0:Int),(opT i (vs.getD k default)).regs.getD 5 (0:Int)=if i.d.toNat=5 then if twoB i.op=true then opTwo i.op (z43_1 vs k i) (z43_2 vs k i) else (0:Int) else (vs.getD k default).regs.getD 5 (0:Int),(opT i (vs.getD k default)).regs.getD 6 (0:Int)=if i.d.toNat=6 then if twoB i.op=true then opTwo i.op (z43_1 vs k i) (z43_2 vs k i) else (0:Int) else (vs.getD k default).regs.getD 6 (0:Int),(opT i (vs.getD k default)).regs.getD 7 (0:Int)=if i.d.toNat=7 then if twoB i.op=true then opTwo i.op (z43_1 vs k i) (z43_2 vs k i) else (0:Int) else (vs.getD k default).regs.getD 7 (0:Int),(opT i (vs.getD k default)).regs.getD 8 (0:Int)=if i.d.toNat=8 then if twoB i.op=true then opTwo i.op (z43_1 vs k i) (z43_2 vs k i) else (0:Int) else (vs.getD k default).regs.getD 8 (0:Int),(opT i (vs.getD k default)).regs.getD 9 (0:Int)=if i.d.toNat=9 then if twoB i.op=true then opTwo i.op (z43_1 vs k i) (z43_2 vs k i) else (0:Int) else (vs.getD k default).regs.getD 9 (0:Int),(opT i (vs.getD k default)).regs.getD 10 (0:Int)=if i.d.toNat=10 then if twoB i.op=true then opTwo i.op (z43_1 vs k i) (z43_2 vs k i) else (0:Int) else (vs.getD k default).regs.getD 10 (0:Int),(opT i (vs.getD k default)).regs.getD 11 (0:Int)=if i.d.toNat=11 then if twoB i.op=true then opTwo i.op (z43_1 vs k i) (z43_2 vs k i) else (0:Int) else (vs.getD k default).regs.getD 11 (0:Int),(opT i (vs.getD k default)).regs.getD 12 (0:Int)=if i.d.toNat=12 then if twoB i.op=true then opTwo i.op (z43_1 vs k i) (z43_2 vs k i) else (0:Int) else (vs.getD k default).regs.getD 12 (0:Int),(opT i (vs.getD k default)).regs.getD 13 (0:Int)=if i.d.toNat=13 then if twoB i.op=true then opTwo i.op (z43_1 vs k i) (z43_2 vs k i) else (0:Int) else (vs.getD k default).regs.getD 13 (0:Int),(opT i (vs.getD k default)).regs.getD 14 (0:Int)=if i.d.toNat=14 then if twoB i.op=true then opTwo i.op (z43_1 vs k i) (z43_2 vs k i) else (0:Int) else (vs.getD k default).regs.getD 14 (0:Int),(opT i (vs.getD k default)).regs.getD 15 (0:Int)=if i.d.toNat=15 then if twoB i.op=true then opTwo i.op (z43_1 vs k i) (z43_2 vs k i) else (0:Int) else (vs.getD k default).regs.getD 15 (0:Int),(opT i (vs.getD k default)).buf.length=(vs.getD k default).buf.length,z43_10 i vs k]) (hv2:=(by simp only [Conj,opT];first | (rw [show opV i.op (getR (vs.getD k default).regs i.a.toNat) (getR (vs.getD k default).regs i.b.toNat)=_ from if_pos (by assumption)];(repeat' apply And.intro)<;>first | trivial | rfl | exact fun _ _=>rfl) | (rw [show opV i.op (getR (vs.getD k default).regs i.a.toNat) (getR (vs.getD k default).regs i.b.toNat)=_ from if_neg (ne_true_of_eq_false (by assumption))];(repeat' apply And.intro)<;>first | trivial | rfl | exact fun _ _=>rfl)))
abbrev z43_6 (core:Int) (pc:Int) (i:Ins) (vs:List VCo) (k:Nat):=(Did.mk (3:Int) core pc i.addr (getR (vs.getD k default).regs i.a.toNat) (0:Int) false)
theorem c_t_store (sh lk bu:Int) (cs:List Cor) (vs:List VCo) (mem:List Int) (pr:List Prt) (k:Nat) (i:Ins) (core pc:Int) (hk:k<vs.length) (ha:0≤i.a∧i.a<16) (hb:(vs.getD k default).buf.length≤16):Ctr Try.prog 101 [Reg.box 138 (vmC sh lk bu 1 2 3 4),Cor.rowR cs,VCo.ownR vs,WordOwn mem,Prt.ownR pr,Reg.box 66 [.i .u8 0,.i .i64 core,.i .i64 pc,.i .i64 0,.i .i64 0,.i .i64 0,.t false]] [.agg [.p 0 0,.e 2 19 k 0,.i .u8 i.kind,.i .u8 i.op,.i .i64 i.d,.i .i64 i.a,.i .i64 i.b,.i .i64 i.addr,.i .i64 i.to,.i .i64 i.word,.i .i64 i.from_,.p 5 0]]
 (Det (.tup []) [Reg.box 138 (vmC sh lk bu 1 2 3 6),.dead,VCo.ownR (vs.set k (storeT i pc (vs.getD k default))),WordOwn (mem),.dead,Reg.box 66 (Did.cs ⟨3,core,pc,i.addr,getR (vs.getD k default).regs i.a.toNat,0,false⟩),Prt.ownR (pr)]):=by
 refine Ctr.intro [] Try.func101 K K ?_
 refine tFoc 2 (k) ?_ (vc:=[k<vs.length]) (hv:=(by simp only [Conj,Fits,i64_min,i64_max,u8_min,u8_max,News.len,maxLen]<;>(repeat' (first | apply And.intro | intro _))<;>first | grind | (simp only [BL] at *;omega)))
 refine tDag 4 [[]] [0,0,0,0,0,0,0,0,0,0,0,0,0,0,0,0,0,0,0,0,0,0,0,0,0,0,0,0,0,0,0,0,0,0,0,0,0] ?_ (vc:=[(0:Int)≤i.a,i.a<(16:Int),i.a.toNat<16,k=k]) (hv:=(by simp only [Conj,Fits,i64_min,i64_max,u8_min,u8_max,News.len,maxLen]<;>(repeat' (first | apply And.intro | intro _))<;>first | grind | (simp only [BL] at *;omega)))
 refine tz [1] ?_
 refine tDag 2 [[k=k],[],[(vs.getD k default).buf.length+1≤maxLen,((vs.getD k default).buf.length+1) * 24≤140737488355328]] [0,1,1,1,2,2,1,1,1,1] ?_ (by simp only [flatP,List.cons_append,List.nil_append,Conj,Fits,i64_min,i64_max,u8_min,u8_max,News.len,maxLen]<;>(repeat' (first | apply And.intro | intro _))<;>first | grind | (simp only [BL] at *;omega)) (vc:=[k=k]) (hv:=(by simp only [Conj,Fits,i64_min,i64_max,u8_min,u8_max,News.len,maxLen]<;>(repeat' (first | apply And.intro | intro _))<;>first | grind | (simp only [BL] at *;omega)))
 exact tFinF [(9,(Sto.tc ⟨pc,i.addr,getR (vs.getD k default).regs i.a.toNat⟩)),(2,(VCo.tc (storeT i pc (vs.getD k default))))] [0,1,2,3,4,5,4] [4,5,8,9,10,11,12,13,14] [(vs.set k (storeT i pc (vs.getD k default))).length=vs.length,∀ (i_1:Nat),i_1<(vs.set k (storeT i pc (vs.getD k default))).length→((vs.set k (storeT i pc (vs.getD k default))).getD i_1 default).tc=if i_1=k then (storeT i pc (vs.getD k default)).tc else (vs.getD i_1 default).tc,(z43_6 core pc i vs k).kind=(3:Int),(z43_6 core pc i vs k).core=core,(z43_6 core pc i vs k).pc=pc,(z43_6 core pc i vs k).addr=i.addr,(z43_6 core pc i vs k).word=(z43_23 vs k).getD i.a.toNat (0:Int),(z43_6 core pc i vs k).put=(0:Int),(z43_6 core pc i vs k).own=false] (by simp only [Conj];(repeat' apply And.intro)<;>first | trivial | rfl | exact fun _ _=>rfl | exact List.length_set | exact set_ints _ _ _ | exact set_tc _ _ _ _ _ | (intro j hj;first | exact set_tc _ _ _ _ _ j hj | (rw [set_tc _ _ _ _ _ j hj];rfl)) | (intros;rfl) | grind) (vc2:=[(Sto.mk pc i.addr (getR (vs.getD k default).regs i.a.toNat)).pos=pc,(Sto.mk pc i.addr (getR (vs.getD k default).regs i.a.toNat)).addr=i.addr,(Sto.mk pc i.addr (getR (vs.getD k default).regs i.a.toNat)).word=(z43_23 vs k).getD i.a.toNat (0:Int),(storeT i pc (vs.getD k default)).pos=(vs.getD k default).pos,(storeT i pc (vs.getD k default)).halted=(vs.getD k default).halted,(storeT i pc (vs.getD k default)).regs.getD 0 (0:Int)=(vs.getD k default).regs.getD 0 (0:Int),(storeT i pc (vs.getD k default)).regs.getD 1 (0:Int)=(vs.getD k default).regs.getD 1 (0:Int),(storeT i pc (vs.getD k default)).regs.getD 2 (0:Int)=(vs.getD k default).regs.getD 2 (0:Int),(storeT i pc (vs.getD k default)).regs.getD 3 (0:Int)=(vs.getD k default).regs.getD 3 (0:Int),(storeT i pc (vs.getD k default)).regs.getD 4 (0:Int)=(vs.getD k default).regs.getD 4 (0:Int),(storeT i pc (vs.getD k default)).regs.getD 5 (0:Int)=(vs.getD k default).regs.getD 5 (0:Int),(storeT i pc (vs.getD k default)).regs.getD 6 (0:Int)=(vs.getD k default).regs.getD 6 (0:Int),(storeT i pc (vs.getD k default)).regs.getD 7 (0:Int)=(vs.getD k default).regs.getD 7 (0:Int),(storeT i pc (vs.getD k default)).regs.getD 8 (0:Int)=(vs.getD k default).regs.getD 8 (0:Int),(storeT i pc (vs.getD k default)).regs.getD 9 (0:Int)=(vs.getD k default).regs.getD 9 (0:Int),(storeT i pc (vs.getD k default)).regs.getD 10 (0:Int)=(vs.getD k default).regs.getD 10 (0:Int),(storeT i pc (vs.getD k default)).regs.getD 11 (0:Int)=(vs.getD k default).regs.getD 11 (0:Int),(storeT i pc (vs.getD k default)).regs.getD 12 (0:Int)=(vs.getD k default).regs.getD 12 (0:Int),(storeT i pc (vs.getD k default)).regs.getD 13 (0:Int)=(vs.getD k default).regs.getD 13 (0:Int),(storeT i pc (vs.getD k default)).regs.getD 14 (0:Int)=(vs.getD k default).regs.getD 14 (0:Int),(storeT i pc (vs.getD k default)).regs.getD 15 (0:Int)=(vs.getD k default).regs.getD 15 (0:Int),(storeT i pc (vs.getD k default)).buf.length=(vs.getD k default).buf.length+1,∀ (i_1:Nat),i_1<(storeT i pc (vs.getD k default)).buf.length→((storeT i pc (vs.getD k default)).buf.getD i_1 default).tc=if i_1=(vs.getD k default).buf.length then (Sto.mk pc i.addr (getR (vs.getD k default).regs i.a.toNat)).tc else ((vs.getD k default).buf.getD i_1 default).tc]) (hv2:=(by simp only [Conj];(repeat' apply And.intro)<;>first | trivial | rfl | exact snoc_len _ _ | (intro j hj;exact snoc_get _ _ _ _ j hj) | exact fun _ _=>rfl | (intros;rfl)))
abbrev z43_5 (core:Int) (pc:Int) (i:Ins) (mem:List Int) (vs:List VCo) (k:Nat):=(Did.mk (4:Int) core pc i.addr (mem.getD i.addr.toNat (0:Int)) (getR (vs.getD k default).regs i.d.toNat) false)
theorem c_t_swap (sh lk bu:Int) (cs:List Cor) (vs:List VCo) (mem:List Int) (pr:List Prt) (k:Nat) (i:Ins) (core pc:Int) (hk:k<vs.length) (hd:0≤i.d∧i.d<16) (hm:0≤i.addr∧i.addr<mem.length):Ctr Try.prog 102 [Reg.box 138 (vmC sh lk bu 1 2 3 4),Cor.rowR cs,VCo.ownR vs,WordOwn mem,Prt.ownR pr,Reg.box 66 [.i .u8 0,.i .i64 core,.i .i64 pc,.i .i64 0,.i .i64 0,.i .i64 0,.t false]] [.agg [.p 0 0,.e 2 19 k 0,.i .u8 i.kind,.i .u8 i.op,.i .i64 i.d,.i .i64 i.a,.i .i64 i.b,.i .i64 i.addr,.i .i64 i.to,.i .i64 i.word,.i .i64 i.from_,.p 5 0]]
 (Det (.tup []) [Reg.box 138 (vmC sh lk bu 1 2 3 6),.dead,VCo.ownR (vs.set k (swapT i mem (vs.getD k default))),WordOwn (mem.set i.addr.toNat (getR (vs.getD k default).regs i.d.toNat)),.dead,Reg.box 66 (Did.cs ⟨4,core,pc,i.addr,mem.getD i.addr.toNat 0,getR (vs.getD k default).regs i.d.toNat,false⟩),Prt.ownR (pr)]):=by
 refine Ctr.intro [] Try.func102 K K ?_
 refine tFoc 2 (k) ?_ (vc:=[k<vs.length]) (hv:=(by simp only [Conj,Fits,i64_min,i64_max,u8_min,u8_max,News.len,maxLen]<;>(repeat' (first | apply And.intro | intro _))<;>first | grind | (simp only [BL] at *;omega)))
 refine tDag 3 [[]] [0,0,0,0,0,0,0,0,0,0,0,0,0,0] ?_
 refine tz [1] ?_
 refine tDag 2 [[]] [0,0,0,0,0,0,0] ?_ (vc:=[(0:Int)≤i.addr,i.addr<(↑mem.length:Int),i.addr.toNat<mem.length,(0:Int)≤i.d,i.d<(16:Int),i.d.toNat<16,k=k]) (hv:=(by simp only [Conj,Fits,i64_min,i64_max,u8_min,u8_max,News.len,maxLen]<;>(repeat' (first | apply And.intro | intro _))<;>first | grind | (simp only [BL] at *;omega)))
 refine tz [1] ?_
 refine tDag 3 [[i.d.toNat<16,k=k],[(0:Int)≤i.d,i.d<(16:Int)],[],[i.addr.toNat<mem.length]] [0,1,2,2,3,2,2,3,2,2,2,2,2,2,3,2,2,3,2,2] ?_ (by simp only [flatP,List.cons_append,List.nil_append,Conj,Fits,i64_min,i64_max,u8_min,u8_max,News.len,maxLen]<;>(repeat' (first | apply And.intro | intro _))<;>first | grind | (simp only [BL] at *;omega)) (vc:=[(0:Int)≤i.addr,i.addr<(↑mem.length:Int)]) (hv:=(by simp only [Conj,Fits,i64_min,i64_max,u8_min,u8_max,News.len,maxLen]<;>(repeat' (first | apply And.intro | intro _))<;>first | grind | (simp only [BL] at *;omega)))
 exact tFinF [(2,(VCo.tc (swapT i mem (vs.getD k default))))] [0,1,2,3,4,5,4] [4,5,6,7,8,9,10,11,12,13,14] [(vs.set k (swapT i mem (vs.getD k default))).length=vs.length,∀ (i_1:Nat),i_1<(vs.set k (swapT i mem (vs.getD k default))).length→((vs.set k (swapT i mem (vs.getD k default))).getD i_1 default).tc=if i_1=k then (swapT i mem (vs.getD k default)).tc else (vs.getD i_1 default).tc,(mem.set i.addr.toNat (getR (vs.getD k default).regs i.d.toNat)).length=mem.length,∀ (i_1:Nat),i_1<(mem.set i.addr.toNat (getR (vs.getD k default).regs i.d.toNat)).length→i64T ((mem.set i.addr.toNat (getR (vs.getD k default).regs i.d.toNat)).getD i_1 (0:Int))=updT (fun i=>i64T (mem.getD i (0:Int))) i.addr.toNat 0 [Value.int IntKind.i64 ((z43_23 vs k).getD i.d.toNat (0:Int))] i_1,(z43_5 core pc i mem vs k).kind=(4:Int),(z43_5 core pc i mem vs k).core=core,(z43_5 core pc i mem vs k).pc=pc,(z43_5 core pc i mem vs k).addr=i.addr,(z43_5 core pc i mem vs k).word=mem.getD i.addr.toNat (0:Int),(z43_5 core pc i mem vs k).put=(z43_23 vs k).getD i.d.toNat (0:Int),(z43_5 core pc i mem vs k).own=false] (by simp only [Conj];(repeat' apply And.intro)<;>first | trivial | rfl | exact fun _ _=>rfl | exact List.length_set | exact set_ints _ _ _ | exact set_tc _ _ _ _ _ | (intro j hj;first | exact set_tc _ _ _ _ _ j hj | (rw [set_tc _ _ _ _ _ j hj];rfl)) | (intros;rfl) | grind) (vc2:=[(swapT i mem (vs.getD k default)).pos=(vs.getD k default).pos,(swapT i mem (vs.getD k default)).halted=(vs.getD k default).halted,(swapT i mem (vs.getD k default)).regs.getD 0 (0:Int)=if i.d.toNat=0 then mem.getD i.addr.toNat (0:Int) else (vs.getD k default).regs.getD 0 (0:Int),(swapT i mem (vs.getD k default)).regs.getD 1 (0:Int)=if i.d.toNat=1 then mem.getD i.addr.toNat (0:Int) else (vs.getD k default).regs.getD 1 (0:Int),(swapT i mem (vs.getD k default)).regs.getD 2 (0:Int)=if i.d.toNat=2 then mem.getD i.addr.toNat (0:Int) else (vs.getD k default).regs.getD 2 (0:Int),(swapT i mem (vs.getD k default)).regs.getD 3 (0:Int)=if i.d.toNat=3 then mem.getD i.addr.toNat (0:Int) else (vs.getD k default).regs.getD 3 (0:Int),(swapT i mem (vs.getD k default)).regs.getD 4 (0:Int)=if i.d.toNat=4 then mem.getD i.addr.toNat (0:Int) else (vs.getD k default).regs.getD 4 (0:Int),(swapT i mem (vs.getD k default)).regs.getD 5 (0:Int)=if i.d.toNat=5 then mem.getD i.addr.toNat (0:Int) else (vs.getD k default).regs.getD 5 (0:Int),(swapT i mem (vs.getD k default)).regs.getD 6 (0:Int)=if i.d.toNat=6 then mem.getD i.addr.toNat (0:Int) else (vs.getD k default).regs.getD 6 (0:Int),(swapT i mem (vs.getD k default)).regs.getD 7 (0:Int)=if i.d.toNat=7 then mem.getD i.addr.toNat (0:Int) else (vs.getD k default).regs.getD 7 (0:Int),(swapT i mem (vs.getD k default)).regs.getD 8 (0:Int)=if i.d.toNat=8 then mem.getD i.addr.toNat (0:Int) else (vs.getD k default).regs.getD 8 (0:Int),(swapT i mem (vs.getD k default)).regs.getD 9 (0:Int)=if i.d.toNat=9 then mem.getD i.addr.toNat (0:Int) else (vs.getD k default).regs.getD 9 (0:Int),(swapT i mem (vs.getD k default)).regs.getD 10 (0:Int)=if i.d.toNat=10 then mem.getD i.addr.toNat (0:Int) else (vs.getD k default).regs.getD 10 (0:Int),(swapT i mem (vs.getD k default)).regs.getD 11 (0:Int)=if i.d.toNat=11 then mem.getD i.addr.toNat (0:Int) else (vs.getD k default).regs.getD 11 (0:Int),(swapT i mem (vs.getD k default)).regs.getD 12 (0:Int)=if i.d.toNat=12 then mem.getD i.addr.toNat (0:Int) else (vs.getD k default).regs.getD 12 (0:Int),(swapT i mem (vs.getD k default)).regs.getD 13 (0:Int)=if i.d.toNat=13 then mem.getD i.addr.toNat (0:Int) else (vs.getD k default).regs.getD 13 (0:Int),(swapT i mem (vs.getD k default)).regs.getD 14 (0:Int)=if i.d.toNat=14 then mem.getD i.addr.toNat (0:Int) else (vs.getD k default).regs.getD 14 (0:Int),(swapT i mem (vs.getD k default)).regs.getD 15 (0:Int)=if i.d.toNat=15 then mem.getD i.addr.toNat (0:Int) else (vs.getD k default).regs.getD 15 (0:Int),(swapT i mem (vs.getD k default)).buf.length=(vs.getD k default).buf.length,∀ (i_1:Nat),i_1<(swapT i mem (vs.getD k default)).buf.length→((swapT i mem (vs.getD k default)).buf.getD i_1 default).tc=((vs.getD k default).buf.getD i_1 default).tc]) (hv2:=(by simp only [Conj];(repeat' apply And.intro)<;>first | trivial | rfl | exact fun _ _=>rfl | (intros;rfl)))
def L100_0_I (sh:Int) (lk:Int) (bu:Int) (cs:List Cor) (vs:List VCo) (mem:List Int) (pr:List Prt) (k:Nat) (i:Ins) (core:Int) (pc:Int):Int×Int×Bool→St:=fun x=>{ N:=69,fr:=[{ slot:=35,g:=[],sv:=SV.c (C.i .i64 x.1) },{ slot:=34,g:=[],sv:=SV.c (C.i .i64 (↑(vs.getD k default).buf.length:Int)) },{ slot:=33,g:=[],sv:=SV.c (C.h 6) },{ slot:=1,g:=[],sv:=SV.c (C.p 7 0) }],rg:=[Reg.box 138 [C.v (Value.slice none 0 0),C.i .i64 sh,C.i .i64 lk,C.i .i64 bu,C.h 1,C.h 2,C.h 3,C.h 4],Reg.row 2 cs.length (fun i=>(cs.getD i default).tc) none,Reg.own 141 19 vs.length (fun i=>(vs.getD i default).tc) (some (k,[C.i .i64 (vs.getD k default).pos,C.b (vs.getD k default).halted,C.i .i64 ((vs.getD k default).regs.getD 0 (0:Int)),C.i .i64 ((vs.getD k default).regs.getD 1 (0:Int)),C.i .i64 ((vs.getD k default).regs.getD 2 (0:Int)),C.i .i64 ((vs.getD k default).regs.getD 3 (0:Int)),C.i .i64 ((vs.getD k default).regs.getD 4 (0:Int)),C.i .i64 ((vs.getD k default).regs.getD 5 (0:Int)),C.i .i64 ((vs.getD k default).regs.getD 6 (0:Int)),C.i .i64 ((vs.getD k default).regs.getD 7 (0:Int)),C.i .i64 ((vs.getD k default).regs.getD 8 (0:Int)),C.i .i64 ((vs.getD k default).regs.getD 9 (0:Int)),C.i .i64 ((vs.getD k default).regs.getD 10 (0:Int)),C.i .i64 ((vs.getD k default).regs.getD 11 (0:Int)),C.i .i64 ((vs.getD k default).regs.getD 12 (0:Int)),C.i .i64 ((vs.getD k default).regs.getD 13 (0:Int)),C.i .i64 ((vs.getD k default).regs.getD 14 (0:Int)),C.i .i64 ((vs.getD k default).regs.getD 15 (0:Int)),C.h 6])),Reg.own 2 1 mem.length (fun i=>i64T (mem.getD i (0:Int))) none,Reg.own 81 2 pr.length (fun i=>(pr.getD i default).tc) none,Reg.box 66 [C.i .u8 2,C.i .i64 core,C.i .i64 pc,C.i .i64 i.addr,C.i .i64 x.2.1,C.i .i64 0,C.b x.2.2],Reg.own 144 3 (vs.getD k default).buf.length (fun i=>((vs.getD k default).buf.getD i default).tc) none,Reg.box 177 [C.p 0 0,C.e 2 19 k 0,C.i .u8 i.kind,C.i .u8 i.op,C.i .i64 i.d,C.i .i64 i.a,C.i .i64 i.b,C.i .i64 i.addr,C.i .i64 i.to,C.i .i64 i.word,C.i .i64 i.from_,C.p 5 0]],wr:=[] }
def L100_0_J (sh:Int) (lk:Int) (bu:Int) (cs:List Cor) (vs:List VCo) (mem:List Int) (pr:List Prt) (k:Nat) (i:Ins) (core:Int) (pc:Int):Int×Int×Bool→Prop:=fun x=>0≤x.1∧x.1≤(vs.getD k default).buf.length∧x.2.1=(bufUp i.addr (vs.getD k default).buf (mem.getD i.addr.toNat 0) x.1.toNat).1∧x.2.2=(bufUp i.addr (vs.getD k default).buf (mem.getD i.addr.toNat 0) x.1.toNat).2
def L100_0_m (sh:Int) (lk:Int) (bu:Int) (cs:List Cor) (vs:List VCo) (mem:List Int) (pr:List Prt) (k:Nat) (i:Ins) (core:Int) (pc:Int):Int×Int×Bool→Nat:=fun x=>(((vs.getD k default).buf.length:Int)-x.1).toNat
def L100_0 (sh:Int) (lk:Int) (bu:Int) (cs:List Cor) (vs:List VCo) (mem:List Int) (pr:List Prt) (k:Nat) (i:Ins) (core:Int) (pc:Int):Lp (Int×Int×Bool):=⟨L100_0_I sh lk bu cs vs mem pr k i core pc,L100_0_J sh lk bu cs vs mem pr k i core pc,L100_0_m sh lk bu cs vs mem pr k i core pc⟩
abbrev z43_4 (core:Int) (pc:Int) (i:Ins) (mem:List Int) (vs:List VCo) (k:Nat):=(Did.mk (2:Int) core pc i.addr (loadV mem i.addr (vs.getD k default).buf).fst (0:Int) (loadV mem i.addr (vs.getD k default).buf).snd)
theorem c_t_load (sh lk bu:Int) (cs:List Cor) (vs:List VCo) (mem:List Int) (pr:List Prt) (k:Nat) (i:Ins) (core pc:Int) (hk:k<vs.length) (hd:0≤i.d∧i.d<16) (hm:0≤i.addr∧i.addr<mem.length):Ctr Try.prog 100 [Reg.box 138 (vmC sh lk bu 1 2 3 4),Cor.rowR cs,VCo.ownR vs,WordOwn mem,Prt.ownR pr,Reg.box 66 [.i .u8 0,.i .i64 core,.i .i64 pc,.i .i64 0,.i .i64 0,.i .i64 0,.t false]] [.agg [.p 0 0,.e 2 19 k 0,.i .u8 i.kind,.i .u8 i.op,.i .i64 i.d,.i .i64 i.a,.i .i64 i.b,.i .i64 i.addr,.i .i64 i.to,.i .i64 i.word,.i .i64 i.from_,.p 5 0]]
 (Det (.tup []) [Reg.box 138 (vmC sh lk bu 1 2 3 6),.dead,VCo.ownR (vs.set k (loadT i mem (vs.getD k default))),WordOwn (mem),.dead,Reg.box 66 (Did.cs ⟨2,core,pc,i.addr,(loadV mem i.addr (vs.getD k default).buf).1,0,(loadV mem i.addr (vs.getD k default).buf).2⟩),Prt.ownR (pr)]):=by
 refine Ctr.intro [] Try.func100 K K ?_
 refine tFoc 2 (k) ?_ (vc:=[k<vs.length]) (hv:=(by simp only [Conj,Fits,i64_min,i64_max,u8_min,u8_max,News.len,maxLen]<;>(repeat' (first | apply And.intro | intro _))<;>first | grind | (simp only [BL] at *;omega)))
 refine tDag 4 [[]] [0,0,0,0,0,0,0,0,0,0,0,0,0,0,0,0,0,0,0,0,0,0,0,0,0,0,0,0,0,0,0,0,0,0,0,0,0] ?_ (vc:=[(0:Int)≤i.addr,i.addr<(↑mem.length:Int),i.addr.toNat<mem.length]) (hv:=(by simp only [Conj,Fits,i64_min,i64_max,u8_min,u8_max,News.len,maxLen]<;>(repeat' (first | apply And.intro | intro _))<;>first | grind | (simp only [BL] at *;omega)))
 refine tz [1] ?_
 refine tLoop (L100_0 sh lk bu cs vs mem pr k i core pc) (((0:Int),mem.getD i.addr.toNat (0:Int),false)) (by dsimp only [L100_0,L100_0_J];exact ⟨Int.le_refl _,by omega,rfl,by simp [bufUp]⟩) ?_ (vc:=[k=k]) (hv:=(by simp only [Conj,Fits,i64_min,i64_max,u8_min,u8_max,News.len,maxLen]<;>(repeat' (first | apply And.intro | intro _))<;>first | grind | (simp only [BL] at *;omega)))
 rintro ⟨x1_0,x1_1,x1_2⟩ hJ1
 dsimp only [L100_0,L100_0_J] at hJ1
 refine RunF.lens 6 (m:=(vs.getD k default).buf.length) K (fun hlen0_6=>?_)
 refine tz [35,34,33,1] ?_
 refine tCond (decide (x1_0<(↑(vs.getD k default).buf.length:Int))) (fun h2=>?_) (fun h2=>?_)
 ·refine tz [35,34,33,1] ?_
  refine tCond (decide (((vs.getD k default).buf.getD x1_0.toNat default).addr=i.addr)) (fun h3=>?_) (fun h3=>?_) (vc:=[(0:Int)≤x1_0,x1_0<(↑(vs.getD k default).buf.length:Int),x1_0.toNat<(vs.getD k default).buf.length]) (hv:=(by simp only [Conj,Fits,i64_min,i64_max,u8_min,u8_max,News.len,maxLen]<;>(repeat' (first | apply And.intro | intro _))<;>first | grind | (simp only [BL] at *;omega)))
  ·refine tz [3,35,34,33,1] ?_
   refine tDag 2 [[]] [0,0,0,0,0,0,0] ?_
   exact tNext (L100_0 sh lk bu cs vs mem pr k i core pc) (x1_0,x1_1,x1_2) ((x1_0+(1:Int),((vs.getD k default).buf.getD x1_0.toNat default).word,true)) (by dsimp only [L100_0,L100_0_m];have q:=of_decide_eq_true h2;omega) (by dsimp only [L100_0,L100_0_J] at *;have q:=of_decide_eq_true h2;have e:(x1_0+1).toNat=x1_0.toNat+1:=(by omega);refine ⟨by omega,by omega,?_,?_⟩<;>rw [e]<;>simp only [bufUp]<;>first | (rw [if_pos (of_decide_eq_true h3)];simp;done) | (rw [if_pos (of_decide_eq_true h3)]) | (rw [if_neg (of_decide_eq_false h3)];first | exact hJ1.2.2.1 | exact hJ1.2.2.2)) (vc:=[Fits IntKind.i64 (x1_0+(1:Int))]) (hv:=(by simp only [Conj,Fits,i64_min,i64_max,u8_min,u8_max,News.len,maxLen]<;>(repeat' (first | apply And.intro | intro _))<;>first | grind | (simp only [BL] at *;omega)))
  ·exact tNext (L100_0 sh lk bu cs vs mem pr k i core pc) (x1_0,x1_1,x1_2) ((x1_0+(1:Int),x1_1,x1_2)) (by dsimp only [L100_0,L100_0_m];have q:=of_decide_eq_true h2;omega) (by dsimp only [L100_0,L100_0_J] at *;have q:=of_decide_eq_true h2;have e:(x1_0+1).toNat=x1_0.toNat+1:=(by omega);refine ⟨by omega,by omega,?_,?_⟩<;>rw [e]<;>simp only [bufUp]<;>first | (rw [if_pos (of_decide_eq_true h3)];simp;done) | (rw [if_pos (of_decide_eq_true h3)]) | (rw [if_neg (of_decide_eq_false h3)];first | exact hJ1.2.2.1 | exact hJ1.2.2.2)) (vc:=[Fits IntKind.i64 (x1_0+(1:Int))]) (hv:=(by simp only [Conj,Fits,i64_min,i64_max,u8_min,u8_max,News.len,maxLen]<;>(repeat' (first | apply And.intro | intro _))<;>first | grind | (simp only [BL] at *;omega)))
 ·exact tFinF [(2,(VCo.tc (loadT i mem (vs.getD k default))))] [0,1,2,3,4,5,4] [4,5,8,9,10,11,12,13,14] [(vs.set k (loadT i mem (vs.getD k default))).length=vs.length,∀ (i_1:Nat),i_1<(vs.set k (loadT i mem (vs.getD k default))).length→((vs.set k (loadT i mem (vs.getD k default))).getD i_1 default).tc=if i_1=k then (loadT i mem (vs.getD k default)).tc else (vs.getD i_1 default).tc,(z43_4 core pc i mem vs k).kind=(2:Int),(z43_4 core pc i mem vs k).core=core,(z43_4 core pc i mem vs k).pc=pc,(z43_4 core pc i mem vs k).addr=i.addr,(z43_4 core pc i mem vs k).word=x1_1,(z43_4 core pc i mem vs k).put=(0:Int),(z43_4 core pc i mem vs k).own=x1_2] (by have q:=of_decide_eq_false h2;have e:x1_0.toNat=(vs.getD k default).buf.length:=(by omega);have z:(loadV mem i.addr (vs.getD k default).buf).1=x1_1:=(by unfold loadV;rw [hJ1.2.2.1,e]);have zo:(loadV mem i.addr (vs.getD k default).buf).2=x1_2:=(by unfold loadV;rw [hJ1.2.2.2,e]);simp only [Conj];(repeat' apply And.intro)<;>first | trivial | rfl | exact List.length_set | exact set_tc _ _ _ _ _ | exact z | exact zo | exact z.symm | exact zo.symm | (intro j hj;exact set_tc _ _ _ _ _ j hj)) (vc:=[(0:Int)≤i.d,i.d<(16:Int),i.d.toNat<16,k=k]) (hv:=(by simp only [Conj,Fits,i64_min,i64_max,u8_min,u8_max,News.len,maxLen]<;>(repeat' (first | apply And.intro | intro _))<;>first | grind | (simp only [BL] at *;omega))) (vc2:=[(loadT i mem (vs.getD k default)).pos=(vs.getD k default).pos,(loadT i mem (vs.getD k default)).halted=(vs.getD k default).halted,(loadT i mem (vs.getD k default)).regs.getD 0 (0:Int)=if i.d.toNat=0 then x1_1 else (vs.getD k default).regs.getD 0 (0:Int),(loadT i mem (vs.getD k default)).regs.getD 1 (0:Int)=if i.d.toNat=1 then x1_1 else (vs.getD k default).regs.getD 1 (0:Int),(loadT i mem (vs.getD k default)).regs.getD 2 (0:Int)=if i.d.toNat=2 then x1_1 else (vs.getD k default).regs.getD 2 (0:Int),(loadT i mem (vs.getD k default)).regs.getD 3 (0:Int)=if i.d.toNat=3 then x1_1 else (vs.getD k default).regs.getD 3 (0:Int),(loadT i mem (vs.getD k default)).regs.getD 4 (0:Int)=if i.d.toNat=4 then x1_1 else (vs.getD k default).regs.getD 4 (0:Int),(loadT i mem (vs.getD k default)).regs.getD 5 (0:Int)=if i.d.toNat=5 then x1_1 else (vs.getD k default).regs.getD 5 (0:Int),(loadT i mem (vs.getD k default)).regs.getD 6 (0:Int)=if i.d.toNat=6 then x1_1 else (vs.getD k default).regs.getD 6 (0:Int),(loadT i mem (vs.getD k default)).regs.getD 7 (0:Int)=if i.d.toNat=7 then x1_1 else (vs.getD k default).regs.getD 7 (0:Int),(loadT i mem (vs.getD k default)).regs.getD 8 (0:Int)=if i.d.toNat=8 then x1_1 else (vs.getD k default).regs.getD 8 (0:Int),(loadT i mem (vs.getD k default)).regs.getD 9 (0:Int)=if i.d.toNat=9 then x1_1 else (vs.getD k default).regs.getD 9 (0:Int),(loadT i mem (vs.getD k default)).regs.getD 10 (0:Int)=if i.d.toNat=10 then x1_1 else (vs.getD k default).regs.getD 10 (0:Int),(loadT i mem (vs.getD k default)).regs.getD 11 (0:Int)=if i.d.toNat=11 then x1_1 else (vs.getD k default).regs.getD 11 (0:Int),(loadT i mem (vs.getD k default)).regs.getD 12 (0:Int)=if i.d.toNat=12 then x1_1 else (vs.getD k default).regs.getD 12 (0:Int),(loadT i mem (vs.getD k default)).regs.getD 13 (0:Int)=if i.d.toNat=13 then x1_1 else (vs.getD k default).regs.getD 13 (0:Int),(loadT i mem (vs.getD k default)).regs.getD 14 (0:Int)=if i.d.toNat=14 then x1_1 else (vs.getD k default).regs.getD 14 (0:Int),(loadT i mem (vs.getD k default)).regs.getD 15 (0:Int)=if i.d.toNat=15 then x1_1 else (vs.getD k default).regs.getD 15 (0:Int),(loadT i mem (vs.getD k default)).buf.length=(vs.getD k default).buf.length,∀ (i_1:Nat),i_1<(loadT i mem (vs.getD k default)).buf.length→((loadT i mem (vs.getD k default)).buf.getD i_1 default).tc=((vs.getD k default).buf.getD i_1 default).tc]) (hv2:=(by have q:=of_decide_eq_false h2;have e:x1_0.toNat=(vs.getD k default).buf.length:=(by omega);have z:(loadV mem i.addr (vs.getD k default).buf).1=x1_1:=(by unfold loadV;rw [hJ1.2.2.1,e]);have zo:(loadV mem i.addr (vs.getD k default).buf).2=x1_2:=(by unfold loadV;rw [hJ1.2.2.2,e]);simp only [Conj,loadT,z];(repeat' apply And.intro)<;>first | trivial | rfl | exact fun _ _=>rfl | exact fun _ _=>trivial))
end Go.Proofs.Ytmjjikcappbkeaa
end
noncomputable section
namespace Go.Proofs.Ytmjjikcappbkeaa
open Go Go.Tx
abbrev z44_2 (vs:List VCo) (k:Nat) (i:Ins):=(getR (vs.getD k default).regs i.a.toNat)
abbrev z44_1 (core:Int) (pc:Int) (vs:List VCo) (k:Nat) (i:Ins):=(Did.mk (6:Int) core pc (0:Int) (z44_2 vs k i) (0:Int) false)
theorem c_t_print (sh lk bu:Int) (cs:List Cor) (vs:List VCo) (mem:List Int) (pr:List Prt) (k:Nat) (i:Ins) (core pc:Int) (hk:k<vs.length) (ha:0≤i.a∧i.a<16) (hp:pr.length≤1048576):Ctr Try.prog 104 [Reg.box 138 (vmC sh lk bu 1 2 3 4),Cor.rowR cs,VCo.ownR vs,WordOwn mem,Prt.ownR pr,Reg.box 66 [.i .u8 0,.i .i64 core,.i .i64 pc,.i .i64 0,.i .i64 0,.i .i64 0,.t false]] [.agg [.p 0 0,.e 2 19 k 0,.i .u8 i.kind,.i .u8 i.op,.i .i64 i.d,.i .i64 i.a,.i .i64 i.b,.i .i64 i.addr,.i .i64 i.to,.i .i64 i.word,.i .i64 i.from_,.p 5 0]]
 (Det (.tup []) [Reg.box 138 (vmC sh lk bu 1 2 3 6),.dead,VCo.ownR (vs.set k (id (vs.getD k default))),WordOwn (mem),.dead,Reg.box 66 (Did.cs ⟨6,core,pc,0,getR (vs.getD k default).regs i.a.toNat,0,false⟩),Prt.ownR (pr++[⟨core,getR (vs.getD k default).regs i.a.toNat⟩])]):=by
 refine Ctr.intro [] Try.func104 K K ?_
 refine tFoc 2 (k) ?_ (vc:=[k<vs.length]) (hv:=(by simp only [Conj,Fits,i64_min,i64_max,u8_min,u8_max,News.len,maxLen]<;>(repeat' (first | apply And.intro | intro _))<;>first | grind | (simp only [BL] at *;omega)))
 refine tDag 2 [[]] [0,0,0,0,0,0,0] ?_ (vc:=[(0:Int)≤i.a,i.a<(16:Int),i.a.toNat<16,k=k]) (hv:=(by simp only [Conj,Fits,i64_min,i64_max,u8_min,u8_max,News.len,maxLen]<;>(repeat' (first | apply And.intro | intro _))<;>first | grind | (simp only [BL] at *;omega)))
 refine tz [1] ?_
 refine tDag 2 [[],[pr.length+1≤maxLen,(pr.length+1) * 16≤140737488355328]] [0,0,0,0,1,1,0,0,0,0] ?_ (by simp only [flatP,List.cons_append,List.nil_append,Conj,Fits,i64_min,i64_max,u8_min,u8_max,News.len,maxLen]<;>(repeat' (first | apply And.intro | intro _))<;>first | grind | (simp only [BL] at *;omega))
 exact tFinF [(9,(Prt.tc ⟨core,getR (vs.getD k default).regs i.a.toNat⟩)),(2,(VCo.tc (id (vs.getD k default))))] [0,1,2,3,4,5,9] [4,5,8,9,10,11,12,13,14,15,16] [(vs.set k (id (vs.getD k default))).length=vs.length,∀ (i:Nat),i<(vs.set k (id (vs.getD k default))).length→((vs.set k (id (vs.getD k default))).getD i default).tc=if i=k then (id (vs.getD k default)).tc else (vs.getD i default).tc,(z44_1 core pc vs k i).kind=(6:Int),(z44_1 core pc vs k i).core=core,(z44_1 core pc vs k i).pc=pc,(z44_1 core pc vs k i).addr=(0:Int),(z44_1 core pc vs k i).word=[(vs.getD k default).regs.getD 0 (0:Int),(vs.getD k default).regs.getD 1 (0:Int),(vs.getD k default).regs.getD 2 (0:Int),(vs.getD k default).regs.getD 3 (0:Int),(vs.getD k default).regs.getD 4 (0:Int),(vs.getD k default).regs.getD 5 (0:Int),(vs.getD k default).regs.getD 6 (0:Int),(vs.getD k default).regs.getD 7 (0:Int),(vs.getD k default).regs.getD 8 (0:Int),(vs.getD k default).regs.getD 9 (0:Int),(vs.getD k default).regs.getD 10 (0:Int),(vs.getD k default).regs.getD 11 (0:Int),(vs.getD k default).regs.getD 12 (0:Int),(vs.getD k default).regs.getD 13 (0:Int),(vs.getD k default).regs.getD 14 (0:Int),(vs.getD k default).regs.getD 15 (0:Int)].getD i.a.toNat (0:Int),(z44_1 core pc vs k i).put=(0:Int),(z44_1 core pc vs k i).own=false,(pr++[Prt.mk core (z44_2 vs k i)]).length=pr.length+1,∀ (i_1:Nat),i_1<(pr++[Prt.mk core (z44_2 vs k i)]).length→((pr++[Prt.mk core (z44_2 vs k i)]).getD i_1 default).tc=if i_1=pr.length then (Prt.mk core (z44_2 vs k i)).tc else (pr.getD i_1 default).tc] (by simp only [Conj];(repeat' apply And.intro)<;>first | trivial | rfl | exact snoc_len _ _ | (intro j hj;exact snoc_get _ _ _ _ j hj) | exact fun _ _=>rfl | exact List.length_set | exact set_ints _ _ _ | exact set_tc _ _ _ _ _ | (intro j hj;first | exact set_tc _ _ _ _ _ j hj | (rw [set_tc _ _ _ _ _ j hj];rfl)) | (intros;rfl) | grind) (vc2:=[(Prt.mk core (z44_2 vs k i)).thread=core,(Prt.mk core (z44_2 vs k i)).word=[(vs.getD k default).regs.getD 0 (0:Int),(vs.getD k default).regs.getD 1 (0:Int),(vs.getD k default).regs.getD 2 (0:Int),(vs.getD k default).regs.getD 3 (0:Int),(vs.getD k default).regs.getD 4 (0:Int),(vs.getD k default).regs.getD 5 (0:Int),(vs.getD k default).regs.getD 6 (0:Int),(vs.getD k default).regs.getD 7 (0:Int),(vs.getD k default).regs.getD 8 (0:Int),(vs.getD k default).regs.getD 9 (0:Int),(vs.getD k default).regs.getD 10 (0:Int),(vs.getD k default).regs.getD 11 (0:Int),(vs.getD k default).regs.getD 12 (0:Int),(vs.getD k default).regs.getD 13 (0:Int),(vs.getD k default).regs.getD 14 (0:Int),(vs.getD k default).regs.getD 15 (0:Int)].getD i.a.toNat (0:Int),(id (vs.getD k default)).pos=(vs.getD k default).pos,(id (vs.getD k default)).halted=(vs.getD k default).halted,(id (vs.getD k default)).regs.getD 0 (0:Int)=(vs.getD k default).regs.getD 0 (0:Int),(id (vs.getD k default)).regs.getD 1 (0:Int)=(vs.getD k default).regs.getD 1 (0:Int),(id (vs.getD k default)).regs.getD 2 (0:Int)=(vs.getD k default).regs.getD 2 (0:Int),(id (vs.getD k default)).regs.getD 3 (0:Int)=(vs.getD k default).regs.getD 3 (0:Int),(id (vs.getD k default)).regs.getD 4 (0:Int)=(vs.getD k default).regs.getD 4 (0:Int),(id (vs.getD k default)).regs.getD 5 (0:Int)=(vs.getD k default).regs.getD 5 (0:Int),(id (vs.getD k default)).regs.getD 6 (0:Int)=(vs.getD k default).regs.getD 6 (0:Int),(id (vs.getD k default)).regs.getD 7 (0:Int)=(vs.getD k default).regs.getD 7 (0:Int),(id (vs.getD k default)).regs.getD 8 (0:Int)=(vs.getD k default).regs.getD 8 (0:Int),(id (vs.getD k default)).regs.getD 9 (0:Int)=(vs.getD k default).regs.getD 9 (0:Int),(id (vs.getD k default)).regs.getD 10 (0:Int)=(vs.getD k default).regs.getD 10 (0:Int),(id (vs.getD k default)).regs.getD 11 (0:Int)=(vs.getD k default).regs.getD 11 (0:Int),(id (vs.getD k default)).regs.getD 12 (0:Int)=(vs.getD k default).regs.getD 12 (0:Int),(id (vs.getD k default)).regs.getD 13 (0:Int)=(vs.getD k default).regs.getD 13 (0:Int),(id (vs.getD k default)).regs.getD 14 (0:Int)=(vs.getD k default).regs.getD 14 (0:Int),(id (vs.getD k default)).regs.getD 15 (0:Int)=(vs.getD k default).regs.getD 15 (0:Int),(id (vs.getD k default)).buf.length=(vs.getD k default).buf.length,∀ (i:Nat),i<(id (vs.getD k default)).buf.length→((id (vs.getD k default)).buf.getD i default).tc=((vs.getD k default).buf.getD i default).tc]) (hv2:=(by simp only [Conj];(repeat' apply And.intro)<;>first | trivial | rfl | exact snoc_len _ _ | (intro j hj;exact snoc_get _ _ _ _ j hj) | exact fun _ _=>rfl | (intros;rfl)))
theorem c_next (sh lk bu:Int) (cs:List Cor) (vs:List VCo) (mem:List Int) (pr:List Prt) (k:Int) (hk:0≤k∧k<vs.length) (hc:cs.length=vs.length) (hpos:0≤(vs.getD k.toNat default).pos∧(vs.getD k.toNat default).pos<(cs.getD k.toNat default).code.length):Ctr Try.prog 63 [Reg.ro (vmC sh lk bu 1 2 3 4),Cor.rowR cs,VCo.rowR vs,WordRow mem,Prt.rowR pr,Reg.ro [.i .u8 0,.i .i64 k,.i .i64 0,.i .i64 0,.i .i64 0,.i .i64 0,.t false]] [.c (.p 0 0),.c (.i .i64 k),.c (.p 5 0)]
 (Det (.agg [.p 0 0,.e 2 19 k.toNat 0,.i .u8 (((cs.getD k.toNat default).code.getD (vs.getD k.toNat default).pos.toNat default)).kind,.i .u8 (((cs.getD k.toNat default).code.getD (vs.getD k.toNat default).pos.toNat default)).op,.i .i64 (((cs.getD k.toNat default).code.getD (vs.getD k.toNat default).pos.toNat default)).d,.i .i64 (((cs.getD k.toNat default).code.getD (vs.getD k.toNat default).pos.toNat default)).a,.i .i64 (((cs.getD k.toNat default).code.getD (vs.getD k.toNat default).pos.toNat default)).b,.i .i64 (((cs.getD k.toNat default).code.getD (vs.getD k.toNat default).pos.toNat default)).addr,.i .i64 (((cs.getD k.toNat default).code.getD (vs.getD k.toNat default).pos.toNat default)).to,.i .i64 (((cs.getD k.toNat default).code.getD (vs.getD k.toNat default).pos.toNat default)).word,.i .i64 (((cs.getD k.toNat default).code.getD (vs.getD k.toNat default).pos.toNat default)).from_,.p 5 0]) [.dead,.dead,.dead,.dead,.dead,.dead]):=by
 refine Ctr.intro [] Try.func63 K K ?_
 refine tFoc 1 (k.toNat) ?_ (vc:=[k.toNat<cs.length]) (hv:=(by simp only [Conj,Fits,i64_min,i64_max,u8_min,u8_max,News.len,maxLen]<;>(repeat' (first | apply And.intro | intro _))<;>first | grind | (simp only [BL] at *;omega)))
 exact tRet (vc:=[(0:Int)≤k,k<(↑vs.length:Int),(0:Int)≤k,k<(↑cs.length:Int),k.toNat=k.toNat,k.toNat<vs.length,(0:Int)≤(vs.getD k.toNat default).pos,(vs.getD k.toNat default).pos<(↑(cs.getD k.toNat default).code.length:Int),(vs.getD k.toNat default).pos.toNat<(cs.getD k.toNat default).code.length]) (hv:=(by simp only [Conj,Fits,i64_min,i64_max,u8_min,u8_max,News.len,maxLen]<;>(repeat' (first | apply And.intro | intro _))<;>first | grind | (simp only [BL] at *;omega)))
end Go.Proofs.Ytmjjikcappbkeaa
end
noncomputable section
namespace Go.Proofs.Ytmjjikcappbkeaa
open Go Go.Tx
theorem c_does1 :Ctr Try.prog 65 [] [.c (.i .u8 1)]
 (Det (.c (C.fn 98 false [])) []):=by
 refine Ctr.intro [] Try.func65 K K ?_
 exact tRet (vc:=[(0:Int)≤(1:Int),(1:Int)<(11:Int)]) (hv:=(by simp only [Conj,Fits,i64_min,i64_max,u8_min,u8_max,News.len,maxLen]<;>(repeat' (first | apply And.intro | intro _))<;>first | grind | (simp only [BL] at *;omega)))
theorem c_does2 :Ctr Try.prog 65 [] [.c (.i .u8 2)]
 (Det (.c (C.fn 99 false [])) []):=by
 refine Ctr.intro [] Try.func65 K K ?_
 exact tRet (vc:=[(0:Int)≤(2:Int),(2:Int)<(11:Int)]) (hv:=(by simp only [Conj,Fits,i64_min,i64_max,u8_min,u8_max,News.len,maxLen]<;>(repeat' (first | apply And.intro | intro _))<;>first | grind | (simp only [BL] at *;omega)))
theorem c_does3 :Ctr Try.prog 65 [] [.c (.i .u8 3)]
 (Det (.c (C.fn 100 false [])) []):=by
 refine Ctr.intro [] Try.func65 K K ?_
 exact tRet (vc:=[(0:Int)≤(3:Int),(3:Int)<(11:Int)]) (hv:=(by simp only [Conj,Fits,i64_min,i64_max,u8_min,u8_max,News.len,maxLen]<;>(repeat' (first | apply And.intro | intro _))<;>first | grind | (simp only [BL] at *;omega)))
theorem c_does4 :Ctr Try.prog 65 [] [.c (.i .u8 4)]
 (Det (.c (C.fn 101 false [])) []):=by
 refine Ctr.intro [] Try.func65 K K ?_
 exact tRet (vc:=[(0:Int)≤(4:Int),(4:Int)<(11:Int)]) (hv:=(by simp only [Conj,Fits,i64_min,i64_max,u8_min,u8_max,News.len,maxLen]<;>(repeat' (first | apply And.intro | intro _))<;>first | grind | (simp only [BL] at *;omega)))
theorem c_does5 :Ctr Try.prog 65 [] [.c (.i .u8 5)]
 (Det (.c (C.fn 102 false [])) []):=by
 refine Ctr.intro [] Try.func65 K K ?_
 exact tRet (vc:=[(0:Int)≤(5:Int),(5:Int)<(11:Int)]) (hv:=(by simp only [Conj,Fits,i64_min,i64_max,u8_min,u8_max,News.len,maxLen]<;>(repeat' (first | apply And.intro | intro _))<;>first | grind | (simp only [BL] at *;omega)))
theorem c_does6 :Ctr Try.prog 65 [] [.c (.i .u8 6)]
 (Det (.c (C.fn 103 false [])) []):=by
 refine Ctr.intro [] Try.func65 K K ?_
 exact tRet (vc:=[(0:Int)≤(6:Int),(6:Int)<(11:Int)]) (hv:=(by simp only [Conj,Fits,i64_min,i64_max,u8_min,u8_max,News.len,maxLen]<;>(repeat' (first | apply And.intro | intro _))<;>first | grind | (simp only [BL] at *;omega)))
theorem c_does7 :Ctr Try.prog 65 [] [.c (.i .u8 7)]
 (Det (.c (C.fn 104 false [])) []):=by
 refine Ctr.intro [] Try.func65 K K ?_
 exact tRet (vc:=[(0:Int)≤(7:Int),(7:Int)<(11:Int)]) (hv:=(by simp only [Conj,Fits,i64_min,i64_max,u8_min,u8_max,News.len,maxLen]<;>(repeat' (first | apply And.intro | intro _))<;>first | grind | (simp only [BL] at *;omega)))
theorem c_does8 :Ctr Try.prog 65 [] [.c (.i .u8 8)]
 (Det (.c (C.fn 105 false [])) []):=by
 refine Ctr.intro [] Try.func65 K K ?_
 exact tRet (vc:=[(0:Int)≤(8:Int),(8:Int)<(11:Int)]) (hv:=(by simp only [Conj,Fits,i64_min,i64_max,u8_min,u8_max,News.len,maxLen]<;>(repeat' (first | apply And.intro | intro _))<;>first | grind | (simp only [BL] at *;omega)))
theorem c_does9 :Ctr Try.prog 65 [] [.c (.i .u8 9)]
 (Det (.c (C.fn 106 false [])) []):=by
 refine Ctr.intro [] Try.func65 K K ?_
 exact tRet (vc:=[(0:Int)≤(9:Int),(9:Int)<(11:Int)]) (hv:=(by simp only [Conj,Fits,i64_min,i64_max,u8_min,u8_max,News.len,maxLen]<;>(repeat' (first | apply And.intro | intro _))<;>first | grind | (simp only [BL] at *;omega)))
theorem c_does10 :Ctr Try.prog 65 [] [.c (.i .u8 10)]
 (Det (.c (C.fn 107 false [])) []):=by
 refine Ctr.intro [] Try.func65 K K ?_
 exact tRet (vc:=[(0:Int)≤(10:Int),(10:Int)<(11:Int)]) (hv:=(by simp only [Conj,Fits,i64_min,i64_max,u8_min,u8_max,News.len,maxLen]<;>(repeat' (first | apply And.intro | intro _))<;>first | grind | (simp only [BL] at *;omega)))
end Go.Proofs.Ytmjjikcappbkeaa
end
namespace Go.Proofs.Ytmjjikcappbkeaa
open Go Go.Tx
theorem setk_get {α:Type} [Inhabited α] {l:List α} {k:Nat} {x:α} (h:k<l.length):(l.set k x).getD k default=x:=by
 rw [List.getD_eq_getElem?_getD,List.getElem?_set_self h];rfl
def insQ (n:Nat) (i:Ins):Prop:=1≤i.kind∧i.kind≤10∧(i.kind=1∨i.kind=2∨i.kind=3∨i.kind=5→0≤i.d∧i.d<16)∧(i.kind=2∨i.kind=4∨i.kind=7∨i.kind=9→0≤i.a∧i.a<16) ∧
 (i.kind=2→0≤i.b∧i.b<16)∧(i.kind=3∨i.kind=4∨i.kind=5→0≤i.addr∧i.addr<n)
theorem kinds10 {n:Nat} {i:Ins} (h:insQ n i):i.kind=1∨i.kind=2∨i.kind=3∨i.kind=4∨i.kind=5∨i.kind=6∨i.kind=7∨i.kind=8∨i.kind=9∨i.kind=10:=by
 have h1:=h.1;have h2:=h.2.1;omega
structure Trn where
 did:Did
 co:VCo
 mem:List Int
 pr:List Prt
def turnV (i:Ins) (d:Did) (c:VCo) (mem:List Int) (pr:List Prt):Trn:=
 if i.kind=1 then ⟨{ d with kind:=1 },setT i c,mem,pr⟩
 else if i.kind=2 then ⟨{ d with kind:=1 },opT i c,mem,pr⟩
 else if i.kind=3 then ⟨{ d with kind:=2,addr:=i.addr,word:=(loadV mem i.addr c.buf).1,own:=d.own||(loadV mem i.addr c.buf).2 },loadT i mem c,mem,pr⟩
 else if i.kind=4 then ⟨{ d with kind:=3,addr:=i.addr,word:=getR c.regs i.a.toNat },storeT i d.pc c,mem,pr⟩
 else if i.kind=5 then ⟨{ d with kind:=4,addr:=i.addr,word:=mem.getD i.addr.toNat 0,put:=getR c.regs i.d.toNat },swapT i mem c,mem.set i.addr.toNat (getR c.regs i.d.toNat),pr⟩
 else if i.kind=6 then ⟨{ d with kind:=5 },c,mem,pr⟩
 else if i.kind=7 then ⟨{ d with kind:=6,word:=getR c.regs i.a.toNat },c,mem,pr++[⟨d.core,getR c.regs i.a.toNat⟩]⟩
 else if i.kind=8 then ⟨{ d with kind:=1 },jumpT i c,mem,pr⟩
 else if i.kind=9 then ⟨{ d with kind:=1 },zeroT i c,mem,pr⟩
 else ⟨{ d with kind:=7 },haltT d.pc c,mem,pr⟩
structure Rsl where
 did:Did
 err:Int
 vs:List VCo
 mem:List Int
 pr:List Prt
def insAt' (cs:List Cor) (k pos:Int):Ins:=(cs.getD k.toNat default).code.getD pos.toNat default
def runV (bu:Int) (cs:List Cor) (k:Int) (vs:List VCo) (mem:List Int) (pr:List Prt):Rsl:=
 if vmHas vs.length k≠0 then ⟨default,vmHas vs.length k,vs,mem,pr⟩
 else if (vs.getD k.toNat default).halted=true then ⟨default,0,vs,mem,pr⟩
 else if stallB bu (insAt' cs k (vs.getD k.toNat default).pos) (vs.getD k.toNat default).buf=true then ⟨default,181,vs,mem,pr⟩
 else ⟨(turnV (insAt' cs k (vs.getD k.toNat default).pos) ⟨0,k,(vs.getD k.toNat default).pos,0,0,0,false⟩ { vs.getD k.toNat default with pos:=(vs.getD k.toNat default).pos+1 } mem pr).did,0,
  vs.set k.toNat (turnV (insAt' cs k (vs.getD k.toNat default).pos) ⟨0,k,(vs.getD k.toNat default).pos,0,0,0,false⟩ { vs.getD k.toNat default with pos:=(vs.getD k.toNat default).pos+1 } mem pr).co,
  (turnV (insAt' cs k (vs.getD k.toNat default).pos) ⟨0,k,(vs.getD k.toNat default).pos,0,0,0,false⟩ { vs.getD k.toNat default with pos:=(vs.getD k.toNat default).pos+1 } mem pr).mem,
  (turnV (insAt' cs k (vs.getD k.toNat default).pos) ⟨0,k,(vs.getD k.toNat default).pos,0,0,0,false⟩ { vs.getD k.toNat default with pos:=(vs.getD k.toNat default).pos+1 } mem pr).pr⟩
section
variable {bu:Int} {cs:List Cor} {k:Int} {vs:List VCo} {mem:List Int} {pr:List Prt}
theorem run_has (h1:(!decide (vmHas vs.length k=0))=true):runV bu cs k vs mem pr=⟨⟨0,0,0,0,0,0,false⟩,vmHas vs.length k,vs,mem,pr⟩:=by
 unfold runV;rw [if_pos (by simpa using h1)];rfl
theorem run_halt (h1:(!decide (vmHas vs.length k=0))=false) (h2:(vs.getD k.toNat default).halted=true):runV bu cs k vs mem pr=⟨⟨0,0,0,0,0,0,false⟩,0,vs,mem,pr⟩:=by
 unfold runV;rw [if_neg (by simpa using h1),if_pos h2];rfl
theorem run_stall (h1:(!decide (vmHas vs.length k=0))=false) (h2:(vs.getD k.toNat default).halted=false) (h3:stallB bu ((cs.getD k.toNat default).code.getD (vs.getD k.toNat default).pos.toNat default) (vs.getD k.toNat default).buf=true) :
 runV bu cs k vs mem pr=⟨⟨0,0,0,0,0,0,false⟩,181,vs,mem,pr⟩:=by
 unfold runV;rw [if_neg (by simpa using h1),if_neg (by rw [h2];simp),if_pos (show stallB bu (insAt' cs k (vs.getD k.toNat default).pos) (vs.getD k.toNat default).buf=true from h3)];rfl
theorem has_in (h1:(!decide (vmHas vs.length k=0))=false):0≤k∧k<vs.length:=by
 unfold vmHas at h1
 split at h1<;>simp at h1
 omega
theorem run_turn (h1:(!decide (vmHas vs.length k=0))=false) (h2:(vs.getD k.toNat default).halted=false) (h3:stallB bu ((cs.getD k.toNat default).code.getD (vs.getD k.toNat default).pos.toNat default) (vs.getD k.toNat default).buf=false)
 {X:Trn} (hX:turnV ((cs.getD k.toNat default).code.getD (vs.getD k.toNat default).pos.toNat default) ⟨0,k,(vs.getD k.toNat default).pos,0,0,0,false⟩ ((vs.set k.toNat (VCo.mk ((vs.getD k.toNat default).pos+1) (vs.getD k.toNat default).halted (vs.getD k.toNat default).regs (vs.getD k.toNat default).buf)).getD k.toNat default) mem pr=X) :
 runV bu cs k vs mem pr=⟨X.did,0,(vs.set k.toNat (VCo.mk ((vs.getD k.toNat default).pos+1) (vs.getD k.toNat default).halted (vs.getD k.toNat default).regs (vs.getD k.toNat default).buf)).set k.toNat X.co,X.mem,X.pr⟩:=by
 have hk:=has_in h1
 subst hX
 unfold runV
 rw [if_neg (by simpa using h1),if_neg (by rw [h2];simp),if_neg (by rw [show stallB bu (insAt' cs k (vs.getD k.toNat default).pos) (vs.getD k.toNat default).buf=false from h3];simp),List.set_set]
 have e:(vs.set k.toNat (VCo.mk ((vs.getD k.toNat default).pos+1) (vs.getD k.toNat default).halted (vs.getD k.toNat default).regs (vs.getD k.toNat default).buf)).getD k.toNat default=VCo.mk ((vs.getD k.toNat default).pos+1) (vs.getD k.toNat default).halted (vs.getD k.toNat default).regs (vs.getD k.toNat default).buf:=by
  rw [List.getD_eq_getElem?_getD,List.getElem?_set_self (by omega)];rfl
 rw [e]
 rfl
variable {i:Ins} {d:Did} {c:VCo}
theorem turn_1 (h:i.kind=1):turnV i d c mem pr=⟨⟨1,d.core,d.pc,d.addr,d.word,d.put,d.own⟩,setT i c,mem,pr⟩:=by
 unfold turnV;simp [h]
theorem turn_2 (h:i.kind=2):turnV i d c mem pr=⟨⟨1,d.core,d.pc,d.addr,d.word,d.put,d.own⟩,opT i c,mem,pr⟩:=by
 unfold turnV;simp [h]
theorem turn_3 (h:i.kind=3):turnV i d c mem pr=⟨⟨2,d.core,d.pc,i.addr,(loadV mem i.addr c.buf).1,d.put,d.own||(loadV mem i.addr c.buf).2⟩,loadT i mem c,mem,pr⟩:=by
 unfold turnV;simp [h]
theorem turn_4 (h:i.kind=4):turnV i d c mem pr=⟨⟨3,d.core,d.pc,i.addr,getR c.regs i.a.toNat,d.put,d.own⟩,storeT i d.pc c,mem,pr⟩:=by
 unfold turnV;simp [h]
theorem turn_5 (h:i.kind=5):turnV i d c mem pr=⟨⟨4,d.core,d.pc,i.addr,mem.getD i.addr.toNat 0,getR c.regs i.d.toNat,d.own⟩,swapT i mem c,mem.set i.addr.toNat (getR c.regs i.d.toNat),pr⟩:=by
 unfold turnV;simp [h]
theorem turn_6 (h:i.kind=6):turnV i d c mem pr=⟨⟨5,d.core,d.pc,d.addr,d.word,d.put,d.own⟩,id c,mem,pr⟩:=by
 unfold turnV;simp [h]
theorem turn_7 (h:i.kind=7):turnV i d c mem pr=⟨⟨6,d.core,d.pc,d.addr,getR c.regs i.a.toNat,d.put,d.own⟩,id c,mem,pr++[⟨d.core,getR c.regs i.a.toNat⟩]⟩:=by
 unfold turnV;simp [h]
theorem turn_8 (h:i.kind=8):turnV i d c mem pr=⟨⟨1,d.core,d.pc,d.addr,d.word,d.put,d.own⟩,jumpT i c,mem,pr⟩:=by
 unfold turnV;simp [h]
theorem turn_9 (h:i.kind=9):turnV i d c mem pr=⟨⟨1,d.core,d.pc,d.addr,d.word,d.put,d.own⟩,zeroT i c,mem,pr⟩:=by
 unfold turnV;simp [h]
theorem turn_10 (h:i.kind=10):turnV i d c mem pr=⟨⟨7,d.core,d.pc,d.addr,d.word,d.put,d.own⟩,haltT d.pc c,mem,pr⟩:=by
 unfold turnV;simp [h]
end
end Go.Proofs.Ytmjjikcappbkeaa
noncomputable section
namespace Go.Proofs.Ytmjjikcappbkeaa
open Go Go.Tx
abbrev z46_1 (cs:List Cor) (k:Int) (vs:List VCo):=((cs.getD k.toNat default).code.getD (vs.getD k.toNat default).pos.toNat default)
abbrev z46_2 (vs:List VCo) (k:Int):=(VCo.mk ((vs.getD k.toNat default).pos+(1:Int)) (vs.getD k.toNat default).halted (vs.getD k.toNat default).regs (vs.getD k.toNat default).buf)
abbrev z46_3:=[En.mk 28 [] (SV.c (C.t false)),En.mk 8 [] (SV.c (C.p 7 0)),En.mk 7 [] (SV.c (C.p 6 0)),En.mk 5 [] (SV.c (C.i .i64 0)),En.mk 4 [] (SV.c (C.p 5 0))]
abbrev z46_4 (sh:Int) (lk:Int) (bu:Int):=Reg.box 138 [C.v (Value.slice none 0 0),C.i .i64 sh,C.i .i64 lk,C.i .i64 bu,C.h 1,C.h 2,C.h 3,C.h 4]
abbrev z46_5:=Reg.box 66 [C.i .u8 0,C.i .i64 0,C.i .i64 0,C.i .i64 0,C.i .i64 0,C.i .i64 0,C.t false]
abbrev z46_6 (k:Int):=Reg.box 66 [C.i .u8 0,C.i .i64 k,C.i .i64 0,C.i .i64 0,C.i .i64 0,C.i .i64 0,C.t false]
abbrev z46_7 (vs:List VCo) (k:Int):=((VCo.ownR (vs.set k.toNat { (vs.getD k.toNat default) with pos:=(vs.getD k.toNat default).pos+1 })))
abbrev z46_8 (pr:List Prt):=Reg.own 81 2 pr.length (fun i=>(pr.getD i default).tc) none
abbrev z46_9 (vs:List VCo):=Reg.own 141 19 vs.length (fun i=>(vs.getD i default).tc) none
abbrev z46_10 (mem:List Int):=Reg.own 2 1 mem.length (fun i=>i64T (mem.getD i (0:Int))) none
abbrev z46_11 (cs:List Cor):=Reg.row 2 cs.length (fun i=>(cs.getD i default).tc) none
theorem c_run (sh lk bu:Int) (cs:List Cor) (vs:List VCo) (mem:List Int) (pr:List Prt) (k:Int) (hi0:0≤k∧k<vs.length→insQ mem.length ((cs.getD k.toNat default).code.getD (vs.getD k.toNat default).pos.toNat default)) (hb:∀ j:Nat,(vs.getD j default).buf.length≤16) (hp:pr.length≤1048576) (hc:cs.length=vs.length) (hpos:∀ j:Nat,j<vs.length→0≤(vs.getD j default).pos∧(vs.getD j default).pos<(cs.getD j default).code.length) (hcl:∀ j:Nat,(cs.getD j default).code.length≤16384):Ctr Try.prog 43 [Reg.box 138 (vmC sh lk bu 1 2 3 4),Cor.rowR cs,VCo.ownR vs,WordOwn mem,Prt.ownR pr] [.c (.p 0 0),.c (.i .i64 k)]
 (Det (.tup [(true,(runV bu cs k vs mem pr).did.cs),(false,[.i .i64 (runV bu cs k vs mem pr).err])]) [Reg.box 138 (vmC sh lk bu 1 2 3 5),.dead,VCo.ownR (runV bu cs k vs mem pr).vs,WordOwn (runV bu cs k vs mem pr).mem,.dead,Prt.ownR (runV bu cs k vs mem pr).pr]):=by
 refine Ctr.intro [] Try.func43 K K ?_
 refine tCall e_vm_Machine_has (c_has (sh:=sh) (lk:=lk) (bu:=bu) (cs:=cs) (vs:=vs) (mem:=mem) (pr:=pr) (k:=k)) [] ?_
 refine tz [11,5,4,0,1] ?_
 refine tCond (!decide (vmHas vs.length k=(0:Int))) (fun h1=>?_) (fun h1=>?_)
 ·rw [run_has (bu:=bu) (cs:=cs) (mem:=mem) (pr:=pr) h1]
  exact tRet [0,1,2,3,4,4]
 ·have hk:0≤k∧k<vs.length:=has_in h1
  have hi:insQ mem.length (z46_1 cs k vs):=hi0 hk
  have hpk:0≤(vs.getD k.toNat default).pos∧(vs.getD k.toNat default).pos<16384:=by have h5:=hpos k.toNat (by omega);have h6:=hcl k.toNat;omega
  refine tz [5,4,0,1] ?_
  refine tCall e_vm_Machine_next (c_next (sh:=sh) (lk:=lk) (bu:=bu) (cs:=cs) (vs:=vs) (mem:=mem) (pr:=pr) (k:=k) (hk:=by first | assumption | omega | (simp only [List.length_set];omega) | (unfold insQ at hi;grind) | (exact hpos _ (by omega)) | (rw [setk_get (by omega)];have:=hb k.toNat;omega)) (hc:=by first | assumption | omega | (simp only [List.length_set];omega) | (unfold insQ at hi;grind) | (exact hpos _ (by omega)) | (rw [setk_get (by omega)];have:=hb k.toNat;omega)) (hpos:=by first | assumption | omega | (simp only [List.length_set];omega) | (unfold insQ at hi;grind) | (exact hpos _ (by omega)) | (rw [setk_get (by omega)];have:=hb k.toNat;omega))) [0,1,2,3,4,6] ?_
  refine tz [20,7,5,4] ?_
  refine tCond ((vs.getD k.toNat default).halted) (fun h2=>?_) (fun h2=>?_) (vc:=[k.toNat<vs.length]) (hv:=(by simp only [Conj,Fits,i64_min,i64_max,u8_min,u8_max,News.len,maxLen]<;>(repeat' (first | apply And.intro | intro _))<;>first | grind | (simp only [BL] at *;omega)))
  ·rw [run_halt (bu:=bu) (cs:=cs) (mem:=mem) (pr:=pr) h1 h2]
   exact tRet [0,1,2,3,4,4]
  ·refine tz [8,7,5,4] ?_
   refine tCall e_vm_turn_stalls (c_stalls (sh:=sh) (lk:=lk) (bu:=bu) (cs:=cs) (vs:=vs) (mem:=mem) (pr:=pr) (k:=k.toNat) (i:=(cs.getD k.toNat default).code.getD (vs.getD k.toNat default).pos.toNat default) (core:=k) (pc:=(0:Int)) (hk:=by first | assumption | omega | (simp only [List.length_set];omega) | (unfold insQ at hi;grind) | (exact hpos _ (by omega)) | (rw [setk_get (by omega)];have:=hb k.toNat;omega))) [0,1,2,3,4,6] ?_
   refine tz [28,8,7,5,4] ?_
   refine tCond (stallB bu (z46_1 cs k vs) (vs.getD k.toNat default).buf) (fun h3=>?_) (fun h3=>?_)
   ·rw [run_stall (mem:=mem) (pr:=pr) h1 h2 h3]
    exact tRet [0,1,2,3,4,4]
   ·rcases (show (z46_1 cs k vs).kind=(1:Int)∨(z46_1 cs k vs).kind=(2:Int)∨(z46_1 cs k vs).kind=(3:Int)∨(z46_1 cs k vs).kind=(4:Int)∨(z46_1 cs k vs).kind=(5:Int)∨(z46_1 cs k vs).kind=(6:Int)∨(z46_1 cs k vs).kind=(7:Int)∨(z46_1 cs k vs).kind=(8:Int)∨(z46_1 cs k vs).kind=(9:Int)∨(z46_1 cs k vs).kind=(10:Int) from kinds10 hi) with hs4 | hs4 | hs4 | hs4 | hs4 | hs4 | hs4 | hs4 | hs4 | hs4
    ·refine tWk (St.mk 51 z46_3 [z46_4 sh lk bu,z46_11 cs,z46_9 vs,z46_10 mem,z46_8 pr,z46_5,z46_6 k,Reg.box 177 [C.p 0 0,C.e 2 19 k.toNat 0,C.i .u8 1,C.i .u8 (z46_1 cs k vs).op,C.i .i64 (z46_1 cs k vs).d,C.i .i64 (z46_1 cs k vs).a,C.i .i64 (z46_1 cs k vs).b,C.i .i64 (z46_1 cs k vs).addr,C.i .i64 (z46_1 cs k vs).to,C.i .i64 (z46_1 cs k vs).word,C.i .i64 (z46_1 cs k vs).from_,C.p 6 0]] []) ?_ [] [25] [(1:Int)=(z46_1 cs k vs).kind] (by simp only [Conj];(repeat' apply And.intro)<;>first | trivial | rfl | (intros;rfl) | (exact Eq.symm (by assumption)) | grind)
     refine tz [8,7,5,4] ?_
     refine tCall e_vm_does (c_does1) [] ?_ (vc:=[k.toNat<vs.length,k.toNat<vs.length,Fits IntKind.i64 ((vs.getD k.toNat default).pos+(1:Int)),k.toNat<vs.length]) (hv:=(by simp only [Conj,Fits,i64_min,i64_max,u8_min,u8_max,News.len,maxLen]<;>(repeat' (first | apply And.intro | intro _))<;>first | grind | (simp only [BL] at *;omega)))
     refine tReg 2 (z46_7 vs k) ?_ (vc:=[(vs.set k.toNat (VCo.mk ((vs.getD k.toNat default).pos+(1:Int)) (vs.getD k.toNat default).halted (vs.getD k.toNat default).regs (vs.getD k.toNat default).buf)).length=vs.length,∀ (i:Nat),i<(vs.set k.toNat (VCo.mk ((vs.getD k.toNat default).pos+(1:Int)) (vs.getD k.toNat default).halted (vs.getD k.toNat default).regs (vs.getD k.toNat default).buf)).length→((vs.set k.toNat (VCo.mk ((vs.getD k.toNat default).pos+(1:Int)) (vs.getD k.toNat default).halted (vs.getD k.toNat default).regs (vs.getD k.toNat default).buf)).getD i default).tc=updT (fun i=>(vs.getD i default).tc) k.toNat 0 [Value.int IntKind.i64 ((vs.getD k.toNat default).pos+(1:Int))] i]) (hv:=(by simp only [Conj];refine ⟨List.length_set,?_⟩;intro j hj;first | exact set_updT default VCo.tc vs k.toNat 0 _ _ (fun q=>by rcases q with _ | q<;>simp [VCo.tc,VCo.tl,nthT,nth]) j hj | skip))
     refine tz [47,48,46,45,44,8,7,5,4] ?_
     refine tCall e_vm_turn_set (c_t_set (sh:=sh) (lk:=lk) (bu:=bu) (cs:=cs) (vs:=vs.set k.toNat (z46_2 vs k)) (mem:=mem) (pr:=pr) (k:=k.toNat) (i:=(cs.getD k.toNat default).code.getD (vs.getD k.toNat default).pos.toNat default) (core:=k) (pc:=(vs.getD k.toNat default).pos) (hk:=by first | assumption | omega | (simp only [List.length_set];omega) | (unfold insQ at hi;grind) | (exact hpos _ (by omega)) | (rw [setk_get (by omega)];have:=hb k.toNat;omega)) (hd:=by first | assumption | omega | (simp only [List.length_set];omega) | (unfold insQ at hi;grind) | (exact hpos _ (by omega)) | (rw [setk_get (by omega)];have:=hb k.toNat;omega))) [0,1,2,3,4,6] ?_ [19] [(z46_1 cs k vs).kind=(1:Int)] (by (try simp only [Conj])<;>(repeat' apply And.intro)<;>first | done | trivial | rfl | (intros;first | rfl | trivial) | exact snoc_len _ _ | exact List.length_set | exact set_ints _ _ _ | exact take_row _ _ _ _ _ | (exact take_len _ _ _ (by first | omega | (have h0:=askE_ok (by simpa using h1);have hm:=evE_mem h0.1;have hs:=evE_ok h0.1;omega))) | exact MpEq.put (by omega) | (refine MpEq.mk' (by omega) ?_ ?_<;>intro q<;>first | rfl | (dsimp only;split<;>simp_all)) | (exact MpEq.mkIt (by omega) (fun _=>rfl) (fun _=>rfl) rfl rfl (fun _=>rfl)) | (intro i h1 h2;rw [snoc_lo h1 h2]) | (rw [getD_snoc];rfl))
     rw [run_turn (mem:=mem) (pr:=pr) h1 h2 h3 (turn_1 hs4)]
     exact tRet [0,1,2,3,4,8]
    ·refine tWk (St.mk 51 z46_3 [z46_4 sh lk bu,z46_11 cs,z46_9 vs,z46_10 mem,z46_8 pr,z46_5,z46_6 k,Reg.box 177 [C.p 0 0,C.e 2 19 k.toNat 0,C.i .u8 2,C.i .u8 (z46_1 cs k vs).op,C.i .i64 (z46_1 cs k vs).d,C.i .i64 (z46_1 cs k vs).a,C.i .i64 (z46_1 cs k vs).b,C.i .i64 (z46_1 cs k vs).addr,C.i .i64 (z46_1 cs k vs).to,C.i .i64 (z46_1 cs k vs).word,C.i .i64 (z46_1 cs k vs).from_,C.p 6 0]] []) ?_ [] [25] [(2:Int)=(z46_1 cs k vs).kind] (by simp only [Conj];(repeat' apply And.intro)<;>first | trivial | rfl | (intros;rfl) | (exact Eq.symm (by assumption)) | grind)
     refine tz [8,7,5,4] ?_
     refine tCall e_vm_does (c_does2) [] ?_ (vc:=[k.toNat<vs.length,k.toNat<vs.length,Fits IntKind.i64 ((vs.getD k.toNat default).pos+(1:Int)),k.toNat<vs.length]) (hv:=(by simp only [Conj,Fits,i64_min,i64_max,u8_min,u8_max,News.len,maxLen]<;>(repeat' (first | apply And.intro | intro _))<;>first | grind | (simp only [BL] at *;omega)))
     refine tReg 2 (z46_7 vs k) ?_ (vc:=[(vs.set k.toNat (VCo.mk ((vs.getD k.toNat default).pos+(1:Int)) (vs.getD k.toNat default).halted (vs.getD k.toNat default).regs (vs.getD k.toNat default).buf)).length=vs.length,∀ (i:Nat),i<(vs.set k.toNat (VCo.mk ((vs.getD k.toNat default).pos+(1:Int)) (vs.getD k.toNat default).halted (vs.getD k.toNat default).regs (vs.getD k.toNat default).buf)).length→((vs.set k.toNat (VCo.mk ((vs.getD k.toNat default).pos+(1:Int)) (vs.getD k.toNat default).halted (vs.getD k.toNat default).regs (vs.getD k.toNat default).buf)).getD i default).tc=updT (fun i=>(vs.getD i default).tc) k.toNat 0 [Value.int IntKind.i64 ((vs.getD k.toNat default).pos+(1:Int))] i]) (hv:=(by simp only [Conj];refine ⟨List.length_set,?_⟩;intro j hj;first | exact set_updT default VCo.tc vs k.toNat 0 _ _ (fun q=>by rcases q with _ | q<;>simp [VCo.tc,VCo.tl,nthT,nth]) j hj | skip))
     refine tz [47,48,46,45,44,8,7,5,4] ?_
     refine tCall e_vm_turn_op (c_t_op (sh:=sh) (lk:=lk) (bu:=bu) (cs:=cs) (vs:=vs.set k.toNat (z46_2 vs k)) (mem:=mem) (pr:=pr) (k:=k.toNat) (i:=(cs.getD k.toNat default).code.getD (vs.getD k.toNat default).pos.toNat default) (core:=k) (pc:=(vs.getD k.toNat default).pos) (hk:=by first | assumption | omega | (simp only [List.length_set];omega) | (unfold insQ at hi;grind) | (exact hpos _ (by omega)) | (rw [setk_get (by omega)];have:=hb k.toNat;omega)) (ha:=by first | assumption | omega | (simp only [List.length_set];omega) | (unfold insQ at hi;grind) | (exact hpos _ (by omega)) | (rw [setk_get (by omega)];have:=hb k.toNat;omega)) (hb:=by first | assumption | omega | (simp only [List.length_set];omega) | (unfold insQ at hi;grind) | (exact hpos _ (by omega)) | (rw [setk_get (by omega)];have:=hb k.toNat;omega)) (hd:=by first | assumption | omega | (simp only [List.length_set];omega) | (unfold insQ at hi;grind) | (exact hpos _ (by omega)) | (rw [setk_get (by omega)];have:=hb k.toNat;omega))) [0,1,2,3,4,6] ?_ [19] [(z46_1 cs k vs).kind=(2:Int)] (by (try simp only [Conj])<;>(repeat' apply And.intro)<;>first | done | trivial | rfl | (intros;first | rfl | trivial) | exact snoc_len _ _ | exact List.length_set | exact set_ints _ _ _ | exact take_row _ _ _ _ _ | (exact take_len _ _ _ (by first | omega | (have h0:=askE_ok (by simpa using h1);have hm:=evE_mem h0.1;have hs:=evE_ok h0.1;omega))) | exact MpEq.put (by omega) | (refine MpEq.mk' (by omega) ?_ ?_<;>intro q<;>first | rfl | (dsimp only;split<;>simp_all)) | (exact MpEq.mkIt (by omega) (fun _=>rfl) (fun _=>rfl) rfl rfl (fun _=>rfl)) | (intro i h1 h2;rw [snoc_lo h1 h2]) | (rw [getD_snoc];rfl))
     rw [run_turn (mem:=mem) (pr:=pr) h1 h2 h3 (turn_2 hs4)]
     exact tRet [0,1,2,3,4,8]
    ·refine tWk (St.mk 51 z46_3 [z46_4 sh lk bu,z46_11 cs,z46_9 vs,z46_10 mem,z46_8 pr,z46_5,z46_6 k,Reg.box 177 [C.p 0 0,C.e 2 19 k.toNat 0,C.i .u8 3,C.i .u8 (z46_1 cs k vs).op,C.i .i64 (z46_1 cs k vs).d,C.i .i64 (z46_1 cs k vs).a,C.i .i64 (z46_1 cs k vs).b,C.i .i64 (z46_1 cs k vs).addr,C.i .i64 (z46_1 cs k vs).to,C.i .i64 (z46_1 cs k vs).word,C.i .i64 (z46_1 cs k vs).from_,C.p 6 0]] []) ?_ [] [25] [(3:Int)=(z46_1 cs k vs).kind] (by simp only [Conj];(repeat' apply And.intro)<;>first | trivial | rfl | (intros;rfl) | (exact Eq.symm (by assumption)) | grind)
     refine tz [8,7,5,4] ?_
     refine tCall e_vm_does (c_does3) [] ?_ (vc:=[k.toNat<vs.length,k.toNat<vs.length,Fits IntKind.i64 ((vs.getD k.toNat default).pos+(1:Int)),k.toNat<vs.length]) (hv:=(by simp only [Conj,Fits,i64_min,i64_max,u8_min,u8_max,News.len,maxLen]<;>(repeat' (first | apply And.intro | intro _))<;>first | grind | (simp only [BL] at *;omega)))
     refine tReg 2 (z46_7 vs k) ?_ (vc:=[(vs.set k.toNat (VCo.mk ((vs.getD k.toNat default).pos+(1:Int)) (vs.getD k.toNat default).halted (vs.getD k.toNat default).regs (vs.getD k.toNat default).buf)).length=vs.length,∀ (i:Nat),i<(vs.set k.toNat (VCo.mk ((vs.getD k.toNat default).pos+(1:Int)) (vs.getD k.toNat default).halted (vs.getD k.toNat default).regs (vs.getD k.toNat default).buf)).length→((vs.set k.toNat (VCo.mk ((vs.getD k.toNat default).pos+(1:Int)) (vs.getD k.toNat default).halted (vs.getD k.toNat default).regs (vs.getD k.toNat default).buf)).getD i default).tc=updT (fun i=>(vs.getD i default).tc) k.toNat 0 [Value.int IntKind.i64 ((vs.getD k.toNat default).pos+(1:Int))] i]) (hv:=(by simp only [Conj];refine ⟨List.length_set,?_⟩;intro j hj;first | exact set_updT default VCo.tc vs k.toNat 0 _ _ (fun q=>by rcases q with _ | q<;>simp [VCo.tc,VCo.tl,nthT,nth]) j hj | skip))
     refine tz [47,48,46,45,44,8,7,5,4] ?_
     refine tCall e_vm_turn_load (c_t_load (sh:=sh) (lk:=lk) (bu:=bu) (cs:=cs) (vs:=vs.set k.toNat (z46_2 vs k)) (mem:=mem) (pr:=pr) (k:=k.toNat) (i:=(cs.getD k.toNat default).code.getD (vs.getD k.toNat default).pos.toNat default) (core:=k) (pc:=(vs.getD k.toNat default).pos) (hk:=by first | assumption | omega | (simp only [List.length_set];omega) | (unfold insQ at hi;grind) | (exact hpos _ (by omega)) | (rw [setk_get (by omega)];have:=hb k.toNat;omega)) (hd:=by first | assumption | omega | (simp only [List.length_set];omega) | (unfold insQ at hi;grind) | (exact hpos _ (by omega)) | (rw [setk_get (by omega)];have:=hb k.toNat;omega)) (hm:=by first | assumption | omega | (simp only [List.length_set];omega) | (unfold insQ at hi;grind) | (exact hpos _ (by omega)) | (rw [setk_get (by omega)];have:=hb k.toNat;omega))) [0,1,2,3,4,6] ?_ [19] [(z46_1 cs k vs).kind=(3:Int)] (by (try simp only [Conj])<;>(repeat' apply And.intro)<;>first | done | trivial | rfl | (intros;first | rfl | trivial) | exact snoc_len _ _ | exact List.length_set | exact set_ints _ _ _ | exact take_row _ _ _ _ _ | (exact take_len _ _ _ (by first | omega | (have h0:=askE_ok (by simpa using h1);have hm:=evE_mem h0.1;have hs:=evE_ok h0.1;omega))) | exact MpEq.put (by omega) | (refine MpEq.mk' (by omega) ?_ ?_<;>intro q<;>first | rfl | (dsimp only;split<;>simp_all)) | (exact MpEq.mkIt (by omega) (fun _=>rfl) (fun _=>rfl) rfl rfl (fun _=>rfl)) | (intro i h1 h2;rw [snoc_lo h1 h2]) | (rw [getD_snoc];rfl))
     rw [run_turn (mem:=mem) (pr:=pr) h1 h2 h3 (turn_3 hs4)]
     exact tRet [0,1,2,3,4,8] [16] [(false||(loadV mem (z46_1 cs k vs).addr ((vs.set k.toNat (z46_2 vs k)).getD k.toNat default).buf).snd)=(loadV mem (z46_1 cs k vs).addr ((vs.set k.toNat (z46_2 vs k)).getD k.toNat default).buf).snd] (by simp only [Conj] at *<;>grind)
    ·refine tWk (St.mk 51 z46_3 [z46_4 sh lk bu,z46_11 cs,z46_9 vs,z46_10 mem,z46_8 pr,z46_5,z46_6 k,Reg.box 177 [C.p 0 0,C.e 2 19 k.toNat 0,C.i .u8 4,C.i .u8 (z46_1 cs k vs).op,C.i .i64 (z46_1 cs k vs).d,C.i .i64 (z46_1 cs k vs).a,C.i .i64 (z46_1 cs k vs).b,C.i .i64 (z46_1 cs k vs).addr,C.i .i64 (z46_1 cs k vs).to,C.i .i64 (z46_1 cs k vs).word,C.i .i64 (z46_1 cs k vs).from_,C.p 6 0]] []) ?_ [] [25] [(4:Int)=(z46_1 cs k vs).kind] (by simp only [Conj];(repeat' apply And.intro)<;>first | trivial | rfl | (intros;rfl) | (exact Eq.symm (by assumption)) | grind)
     refine tz [8,7,5,4] ?_
     refine tCall e_vm_does (c_does4) [] ?_ (vc:=[k.toNat<vs.length,k.toNat<vs.length,Fits IntKind.i64 ((vs.getD k.toNat default).pos+(1:Int)),k.toNat<vs.length]) (hv:=(by simp only [Conj,Fits,i64_min,i64_max,u8_min,u8_max,News.len,maxLen]<;>(repeat' (first | apply And.intro | intro _))<;>first | grind | (simp only [BL] at *;omega)))
     refine tReg 2 (z46_7 vs k) ?_ (vc:=[(vs.set k.toNat (VCo.mk ((vs.getD k.toNat default).pos+(1:Int)) (vs.getD k.toNat default).halted (vs.getD k.toNat default).regs (vs.getD k.toNat default).buf)).length=vs.length,∀ (i:Nat),i<(vs.set k.toNat (VCo.mk ((vs.getD k.toNat default).pos+(1:Int)) (vs.getD k.toNat default).halted (vs.getD k.toNat default).regs (vs.getD k.toNat default).buf)).length→((vs.set k.toNat (VCo.mk ((vs.getD k.toNat default).pos+(1:Int)) (vs.getD k.toNat default).halted (vs.getD k.toNat default).regs (vs.getD k.toNat default).buf)).getD i default).tc=updT (fun i=>(vs.getD i default).tc) k.toNat 0 [Value.int IntKind.i64 ((vs.getD k.toNat default).pos+(1:Int))] i]) (hv:=(by simp only [Conj];refine ⟨List.length_set,?_⟩;intro j hj;first | exact set_updT default VCo.tc vs k.toNat 0 _ _ (fun q=>by rcases q with _ | q<;>simp [VCo.tc,VCo.tl,nthT,nth]) j hj | skip))
     refine tz [47,48,46,45,44,8,7,5,4] ?_
     refine tCall e_vm_turn_store (c_t_store (sh:=sh) (lk:=lk) (bu:=bu) (cs:=cs) (vs:=vs.set k.toNat (z46_2 vs k)) (mem:=mem) (pr:=pr) (k:=k.toNat) (i:=(cs.getD k.toNat default).code.getD (vs.getD k.toNat default).pos.toNat default) (core:=k) (pc:=(vs.getD k.toNat default).pos) (hk:=by first | assumption | omega | (simp only [List.length_set];omega) | (unfold insQ at hi;grind) | (exact hpos _ (by omega)) | (rw [setk_get (by omega)];have:=hb k.toNat;omega)) (ha:=by first | assumption | omega | (simp only [List.length_set];omega) | (unfold insQ at hi;grind) | (exact hpos _ (by omega)) | (rw [setk_get (by omega)];have:=hb k.toNat;omega)) (hb:=by first | assumption | omega | (simp only [List.length_set];omega) | (unfold insQ at hi;grind) | (exact hpos _ (by omega)) | (rw [setk_get (by omega)];have:=hb k.toNat;omega))) [0,1,2,3,4,6] ?_ [19] [(z46_1 cs k vs).kind=(4:Int)] (by (try simp only [Conj])<;>(repeat' apply And.intro)<;>first | done | trivial | rfl | (intros;first | rfl | trivial) | exact snoc_len _ _ | exact List.length_set | exact set_ints _ _ _ | exact take_row _ _ _ _ _ | (exact take_len _ _ _ (by first | omega | (have h0:=askE_ok (by simpa using h1);have hm:=evE_mem h0.1;have hs:=evE_ok h0.1;omega))) | exact MpEq.put (by omega) | (refine MpEq.mk' (by omega) ?_ ?_<;>intro q<;>first | rfl | (dsimp only;split<;>simp_all)) | (exact MpEq.mkIt (by omega) (fun _=>rfl) (fun _=>rfl) rfl rfl (fun _=>rfl)) | (intro i h1 h2;rw [snoc_lo h1 h2]) | (rw [getD_snoc];rfl))
     rw [run_turn (mem:=mem) (pr:=pr) h1 h2 h3 (turn_4 hs4)]
     exact tRet [0,1,2,3,4,8]
    ·refine tWk (St.mk 51 z46_3 [z46_4 sh lk bu,z46_11 cs,z46_9 vs,z46_10 mem,z46_8 pr,z46_5,z46_6 k,Reg.box 177 [C.p 0 0,C.e 2 19 k.toNat 0,C.i .u8 5,C.i .u8 (z46_1 cs k vs).op,C.i .i64 (z46_1 cs k vs).d,C.i .i64 (z46_1 cs k vs).a,C.i .i64 (z46_1 cs k vs).b,C.i .i64 (z46_1 cs k vs).addr,C.i .i64 (z46_1 cs k vs).to,C.i .i64 (z46_1 cs k vs).word,C.i .i64 (z46_1 cs k vs).from_,C.p 6 0]] []) ?_ [] [25] [(5:Int)=(z46_1 cs k vs).kind] (by simp only [Conj];(repeat' apply And.intro)<;>first | trivial | rfl | (intros;rfl) | (exact Eq.symm (by assumption)) | grind)
     refine tz [8,7,5,4] ?_
     refine tCall e_vm_does (c_does5) [] ?_ (vc:=[k.toNat<vs.length,k.toNat<vs.length,Fits IntKind.i64 ((vs.getD k.toNat default).pos+(1:Int)),k.toNat<vs.length]) (hv:=(by simp only [Conj,Fits,i64_min,i64_max,u8_min,u8_max,News.len,maxLen]<;>(repeat' (first | apply And.intro | intro _))<;>first | grind | (simp only [BL] at *;omega)))
     refine tReg 2 (z46_7 vs k) ?_ (vc:=[(vs.set k.toNat (VCo.mk ((vs.getD k.toNat default).pos+(1:Int)) (vs.getD k.toNat default).halted (vs.getD k.toNat default).regs (vs.getD k.toNat default).buf)).length=vs.length,∀ (i:Nat),i<(vs.set k.toNat (VCo.mk ((vs.getD k.toNat default).pos+(1:Int)) (vs.getD k.toNat default).halted (vs.getD k.toNat default).regs (vs.getD k.toNat default).buf)).length→((vs.set k.toNat (VCo.mk ((vs.getD k.toNat default).pos+(1:Int)) (vs.getD k.toNat default).halted (vs.getD k.toNat default).regs (vs.getD k.toNat default).buf)).getD i default).tc=updT (fun i=>(vs.getD i default).tc) k.toNat 0 [Value.int IntKind.i64 ((vs.getD k.toNat default).pos+(1:Int))] i]) (hv:=(by simp only [Conj];refine ⟨List.length_set,?_⟩;intro j hj;first | exact set_updT default VCo.tc vs k.toNat 0 _ _ (fun q=>by rcases q with _ | q<;>simp [VCo.tc,VCo.tl,nthT,nth]) j hj | skip))
     refine tz [47,48,46,45,44,8,7,5,4] ?_
     refine tCall e_vm_turn_swap (c_t_swap (sh:=sh) (lk:=lk) (bu:=bu) (cs:=cs) (vs:=vs.set k.toNat (z46_2 vs k)) (mem:=mem) (pr:=pr) (k:=k.toNat) (i:=(cs.getD k.toNat default).code.getD (vs.getD k.toNat default).pos.toNat default) (core:=k) (pc:=(vs.getD k.toNat default).pos) (hk:=by first | assumption | omega | (simp only [List.length_set];omega) | (unfold insQ at hi;grind) | (exact hpos _ (by omega)) | (rw [setk_get (by omega)];have:=hb k.toNat;omega)) (hd:=by first | assumption | omega | (simp only [List.length_set];omega) | (unfold insQ at hi;grind) | (exact hpos _ (by omega)) | (rw [setk_get (by omega)];have:=hb k.toNat;omega)) (hm:=by first | assumption | omega | (simp only [List.length_set];omega) | (unfold insQ at hi;grind) | (exact hpos _ (by omega)) | (rw [setk_get (by omega)];have:=hb k.toNat;omega))) [0,1,2,3,4,6] ?_ [19] [(z46_1 cs k vs).kind=(5:Int)] (by (try simp only [Conj])<;>(repeat' apply And.intro)<;>first | done | trivial | rfl | (intros;first | rfl | trivial) | exact snoc_len _ _ | exact List.length_set | exact set_ints _ _ _ | exact take_row _ _ _ _ _ | (exact take_len _ _ _ (by first | omega | (have h0:=askE_ok (by simpa using h1);have hm:=evE_mem h0.1;have hs:=evE_ok h0.1;omega))) | exact MpEq.put (by omega) | (refine MpEq.mk' (by omega) ?_ ?_<;>intro q<;>first | rfl | (dsimp only;split<;>simp_all)) | (exact MpEq.mkIt (by omega) (fun _=>rfl) (fun _=>rfl) rfl rfl (fun _=>rfl)) | (intro i h1 h2;rw [snoc_lo h1 h2]) | (rw [getD_snoc];rfl))
     rw [run_turn (mem:=mem) (pr:=pr) h1 h2 h3 (turn_5 hs4)]
     exact tRet [0,1,2,3,4,8]
    ·refine tWk (St.mk 51 z46_3 [z46_4 sh lk bu,z46_11 cs,z46_9 vs,z46_10 mem,z46_8 pr,z46_5,z46_6 k,Reg.box 177 [C.p 0 0,C.e 2 19 k.toNat 0,C.i .u8 6,C.i .u8 (z46_1 cs k vs).op,C.i .i64 (z46_1 cs k vs).d,C.i .i64 (z46_1 cs k vs).a,C.i .i64 (z46_1 cs k vs).b,C.i .i64 (z46_1 cs k vs).addr,C.i .i64 (z46_1 cs k vs).to,C.i .i64 (z46_1 cs k vs).word,C.i .i64 (z46_1 cs k vs).from_,C.p 6 0]] []) ?_ [] [25] [(6:Int)=(z46_1 cs k vs).kind] (by simp only [Conj];(repeat' apply And.intro)<;>first | trivial | rfl | (intros;rfl) | (exact Eq.symm (by assumption)) | grind)
     refine tz [8,7,5,4] ?_
     refine tCall e_vm_does (c_does6) [] ?_ (vc:=[k.toNat<vs.length,k.toNat<vs.length,Fits IntKind.i64 ((vs.getD k.toNat default).pos+(1:Int)),k.toNat<vs.length]) (hv:=(by simp only [Conj,Fits,i64_min,i64_max,u8_min,u8_max,News.len,maxLen]<;>(repeat' (first | apply And.intro | intro _))<;>first | grind | (simp only [BL] at *;omega)))
     refine tReg 2 (z46_7 vs k) ?_ (vc:=[(vs.set k.toNat (VCo.mk ((vs.getD k.toNat default).pos+(1:Int)) (vs.getD k.toNat default).halted (vs.getD k.toNat default).regs (vs.getD k.toNat default).buf)).length=vs.length,∀ (i:Nat),i<(vs.set k.toNat (VCo.mk ((vs.getD k.toNat default).pos+(1:Int)) (vs.getD k.toNat default).halted (vs.getD k.toNat default).regs (vs.getD k.toNat default).buf)).length→((vs.set k.toNat (VCo.mk ((vs.getD k.toNat default).pos+(1:Int)) (vs.getD k.toNat default).halted (vs.getD k.toNat default).regs (vs.getD k.toNat default).buf)).getD i default).tc=updT (fun i=>(vs.getD i default).tc) k.toNat 0 [Value.int IntKind.i64 ((vs.getD k.toNat default).pos+(1:Int))] i]) (hv:=(by simp only [Conj];refine ⟨List.length_set,?_⟩;intro j hj;first | exact set_updT default VCo.tc vs k.toNat 0 _ _ (fun q=>by rcases q with _ | q<;>simp [VCo.tc,VCo.tl,nthT,nth]) j hj | skip))
     refine tz [47,48,46,45,44,8,7,5,4] ?_
     refine tCall e_vm_turn_fence (c_t_fence (sh:=sh) (lk:=lk) (bu:=bu) (cs:=cs) (vs:=vs.set k.toNat (z46_2 vs k)) (mem:=mem) (pr:=pr) (k:=k.toNat) (i:=(cs.getD k.toNat default).code.getD (vs.getD k.toNat default).pos.toNat default) (core:=k) (pc:=(vs.getD k.toNat default).pos) (hk:=by first | assumption | omega | (simp only [List.length_set];omega) | (unfold insQ at hi;grind) | (exact hpos _ (by omega)) | (rw [setk_get (by omega)];have:=hb k.toNat;omega))) [0,1,2,3,4,6] ?_ [19] [(z46_1 cs k vs).kind=(6:Int)] (by (try simp only [Conj])<;>(repeat' apply And.intro)<;>first | done | trivial | rfl | (intros;first | rfl | trivial) | exact snoc_len _ _ | exact List.length_set | exact set_ints _ _ _ | exact take_row _ _ _ _ _ | (exact take_len _ _ _ (by first | omega | (have h0:=askE_ok (by simpa using h1);have hm:=evE_mem h0.1;have hs:=evE_ok h0.1;omega))) | exact MpEq.put (by omega) | (refine MpEq.mk' (by omega) ?_ ?_<;>intro q<;>first | rfl | (dsimp only;split<;>simp_all)) | (exact MpEq.mkIt (by omega) (fun _=>rfl) (fun _=>rfl) rfl rfl (fun _=>rfl)) | (intro i h1 h2;rw [snoc_lo h1 h2]) | (rw [getD_snoc];rfl))
     rw [run_turn (mem:=mem) (pr:=pr) h1 h2 h3 (turn_6 hs4)]
     exact tRet [0,1,2,3,4,8]
    ·refine tWk (St.mk 51 z46_3 [z46_4 sh lk bu,z46_11 cs,z46_9 vs,z46_10 mem,z46_8 pr,z46_5,z46_6 k,Reg.box 177 [C.p 0 0,C.e 2 19 k.toNat 0,C.i .u8 7,C.i .u8 (z46_1 cs k vs).op,C.i .i64 (z46_1 cs k vs).d,C.i .i64 (z46_1 cs k vs).a,C.i .i64 (z46_1 cs k vs).b,C.i .i64 (z46_1 cs k vs).addr,C.i .i64 (z46_1 cs k vs).to,C.i .i64 (z46_1 cs k vs).word,C.i .i64 (z46_1 cs k vs).from_,C.p 6 0]] []) ?_ [] [25] [(7:Int)=(z46_1 cs k vs).kind] (by simp only [Conj];(repeat' apply And.intro)<;>first | trivial | rfl | (intros;rfl) | (exact Eq.symm (by assumption)) | grind)
     refine tz [8,7,5,4] ?_
     refine tCall e_vm_does (c_does7) [] ?_ (vc:=[k.toNat<vs.length,k.toNat<vs.length,Fits IntKind.i64 ((vs.getD k.toNat default).pos+(1:Int)),k.toNat<vs.length]) (hv:=(by simp only [Conj,Fits,i64_min,i64_max,u8_min,u8_max,News.len,maxLen]<;>(repeat' (first | apply And.intro | intro _))<;>first | grind | (simp only [BL] at *;omega)))
     refine tReg 2 (z46_7 vs k) ?_ (vc:=[(vs.set k.toNat (VCo.mk ((vs.getD k.toNat default).pos+(1:Int)) (vs.getD k.toNat default).halted (vs.getD k.toNat default).regs (vs.getD k.toNat default).buf)).length=vs.length,∀ (i:Nat),i<(vs.set k.toNat (VCo.mk ((vs.getD k.toNat default).pos+(1:Int)) (vs.getD k.toNat default).halted (vs.getD k.toNat default).regs (vs.getD k.toNat default).buf)).length→((vs.set k.toNat (VCo.mk ((vs.getD k.toNat default).pos+(1:Int)) (vs.getD k.toNat default).halted (vs.getD k.toNat default).regs (vs.getD k.toNat default).buf)).getD i default).tc=updT (fun i=>(vs.getD i default).tc) k.toNat 0 [Value.int IntKind.i64 ((vs.getD k.toNat default).pos+(1:Int))] i]) (hv:=(by simp only [Conj];refine ⟨List.length_set,?_⟩;intro j hj;first | exact set_updT default VCo.tc vs k.toNat 0 _ _ (fun q=>by rcases q with _ | q<;>simp [VCo.tc,VCo.tl,nthT,nth]) j hj | skip))
     refine tz [47,48,46,45,44,8,7,5,4] ?_
     refine tCall e_vm_turn_print (c_t_print (sh:=sh) (lk:=lk) (bu:=bu) (cs:=cs) (vs:=vs.set k.toNat (z46_2 vs k)) (mem:=mem) (pr:=pr) (k:=k.toNat) (i:=(cs.getD k.toNat default).code.getD (vs.getD k.toNat default).pos.toNat default) (core:=k) (pc:=(vs.getD k.toNat default).pos) (hk:=by first | assumption | omega | (simp only [List.length_set];omega) | (unfold insQ at hi;grind) | (exact hpos _ (by omega)) | (rw [setk_get (by omega)];have:=hb k.toNat;omega)) (ha:=by first | assumption | omega | (simp only [List.length_set];omega) | (unfold insQ at hi;grind) | (exact hpos _ (by omega)) | (rw [setk_get (by omega)];have:=hb k.toNat;omega)) (hp:=by first | assumption | omega | (simp only [List.length_set];omega) | (unfold insQ at hi;grind) | (exact hpos _ (by omega)) | (rw [setk_get (by omega)];have:=hb k.toNat;omega))) [0,1,2,3,4,6] ?_ [19] [(z46_1 cs k vs).kind=(7:Int)] (by (try simp only [Conj])<;>(repeat' apply And.intro)<;>first | done | trivial | rfl | (intros;first | rfl | trivial) | exact snoc_len _ _ | exact List.length_set | exact set_ints _ _ _ | exact take_row _ _ _ _ _ | (exact take_len _ _ _ (by first | omega | (have h0:=askE_ok (by simpa using h1);have hm:=evE_mem h0.1;have hs:=evE_ok h0.1;omega))) | exact MpEq.put (by omega) | (refine MpEq.mk' (by omega) ?_ ?_<;>intro q<;>first | rfl | (dsimp only;split<;>simp_all)) | (exact MpEq.mkIt (by omega) (fun _=>rfl) (fun _=>rfl) rfl rfl (fun _=>rfl)) | (intro i h1 h2;rw [snoc_lo h1 h2]) | (rw [getD_snoc];rfl))
     rw [run_turn (mem:=mem) (pr:=pr) h1 h2 h3 (turn_7 hs4)]
     exact tRet [0,1,2,3,4,8]
    ·refine tWk (St.mk 51 z46_3 [z46_4 sh lk bu,z46_11 cs,z46_9 vs,z46_10 mem,z46_8 pr,z46_5,z46_6 k,Reg.box 177 [C.p 0 0,C.e 2 19 k.toNat 0,C.i .u8 8,C.i .u8 (z46_1 cs k vs).op,C.i .i64 (z46_1 cs k vs).d,C.i .i64 (z46_1 cs k vs).a,C.i .i64 (z46_1 cs k vs).b,C.i .i64 (z46_1 cs k vs).addr,C.i .i64 (z46_1 cs k vs).to,C.i .i64 (z46_1 cs k vs).word,C.i .i64 (z46_1 cs k vs).from_,C.p 6 0]] []) ?_ [] [25] [(8:Int)=(z46_1 cs k vs).kind] (by simp only [Conj];(repeat' apply And.intro)<;>first | trivial | rfl | (intros;rfl) | (exact Eq.symm (by assumption)) | grind)
     refine tz [8,7,5,4] ?_
     refine tCall e_vm_does (c_does8) [] ?_ (vc:=[k.toNat<vs.length,k.toNat<vs.length,Fits IntKind.i64 ((vs.getD k.toNat default).pos+(1:Int)),k.toNat<vs.length]) (hv:=(by simp only [Conj,Fits,i64_min,i64_max,u8_min,u8_max,News.len,maxLen]<;>(repeat' (first | apply And.intro | intro _))<;>first | grind | (simp only [BL] at *;omega)))
     refine tReg 2 (z46_7 vs k) ?_ (vc:=[(vs.set k.toNat (VCo.mk ((vs.getD k.toNat default).pos+(1:Int)) (vs.getD k.toNat default).halted (vs.getD k.toNat default).regs (vs.getD k.toNat default).buf)).length=vs.length,∀ (i:Nat),i<(vs.set k.toNat (VCo.mk ((vs.getD k.toNat default).pos+(1:Int)) (vs.getD k.toNat default).halted (vs.getD k.toNat default).regs (vs.getD k.toNat default).buf)).length→((vs.set k.toNat (VCo.mk ((vs.getD k.toNat default).pos+(1:Int)) (vs.getD k.toNat default).halted (vs.getD k.toNat default).regs (vs.getD k.toNat default).buf)).getD i default).tc=updT (fun i=>(vs.getD i default).tc) k.toNat 0 [Value.int IntKind.i64 ((vs.getD k.toNat default).pos+(1:Int))] i]) (hv:=(by simp only [Conj];refine ⟨List.length_set,?_⟩;intro j hj;first | exact set_updT default VCo.tc vs k.toNat 0 _ _ (fun q=>by rcases q with _ | q<;>simp [VCo.tc,VCo.tl,nthT,nth]) j hj | skip))
     refine tz [47,48,46,45,44,8,7,5,4] ?_
     refine tCall e_vm_turn_jump (c_t_jump (sh:=sh) (lk:=lk) (bu:=bu) (cs:=cs) (vs:=vs.set k.toNat (z46_2 vs k)) (mem:=mem) (pr:=pr) (k:=k.toNat) (i:=(cs.getD k.toNat default).code.getD (vs.getD k.toNat default).pos.toNat default) (core:=k) (pc:=(vs.getD k.toNat default).pos) (hk:=by first | assumption | omega | (simp only [List.length_set];omega) | (unfold insQ at hi;grind) | (exact hpos _ (by omega)) | (rw [setk_get (by omega)];have:=hb k.toNat;omega))) [0,1,2,3,4,6] ?_ [19] [(z46_1 cs k vs).kind=(8:Int)] (by (try simp only [Conj])<;>(repeat' apply And.intro)<;>first | done | trivial | rfl | (intros;first | rfl | trivial) | exact snoc_len _ _ | exact List.length_set | exact set_ints _ _ _ | exact take_row _ _ _ _ _ | (exact take_len _ _ _ (by first | omega | (have h0:=askE_ok (by simpa using h1);have hm:=evE_mem h0.1;have hs:=evE_ok h0.1;omega))) | exact MpEq.put (by omega) | (refine MpEq.mk' (by omega) ?_ ?_<;>intro q<;>first | rfl | (dsimp only;split<;>simp_all)) | (exact MpEq.mkIt (by omega) (fun _=>rfl) (fun _=>rfl) rfl rfl (fun _=>rfl)) | (intro i h1 h2;rw [snoc_lo h1 h2]) | (rw [getD_snoc];rfl))
     rw [run_turn (mem:=mem) (pr:=pr) h1 h2 h3 (turn_8 hs4)]
     exact tRet [0,1,2,3,4,8]
    ·refine tWk (St.mk 51 z46_3 [z46_4 sh lk bu,z46_11 cs,z46_9 vs,z46_10 mem,z46_8 pr,z46_5,z46_6 k,Reg.box 177 [C.p 0 0,C.e 2 19 k.toNat 0,C.i .u8 9,C.i .u8 (z46_1 cs k vs).op,C.i .i64 (z46_1 cs k vs).d,C.i .i64 (z46_1 cs k vs).a,C.i .i64 (z46_1 cs k vs).b,C.i .i64 (z46_1 cs k vs).addr,C.i .i64 (z46_1 cs k vs).to,C.i .i64 (z46_1 cs k vs).word,C.i .i64 (z46_1 cs k vs).from_,C.p 6 0]] []) ?_ [] [25] [(9:Int)=(z46_1 cs k vs).kind] (by simp only [Conj];(repeat' apply And.intro)<;>first | trivial | rfl | (intros;rfl) | (exact Eq.symm (by assumption)) | grind)
     refine tz [8,7,5,4] ?_
     refine tCall e_vm_does (c_does9) [] ?_ (vc:=[k.toNat<vs.length,k.toNat<vs.length,Fits IntKind.i64 ((vs.getD k.toNat default).pos+(1:Int)),k.toNat<vs.length]) (hv:=(by simp only [Conj,Fits,i64_min,i64_max,u8_min,u8_max,News.len,maxLen]<;>(repeat' (first | apply And.intro | intro _))<;>first | grind | (simp only [BL] at *;omega)))
     refine tReg 2 (z46_7 vs k) ?_ (vc:=[(vs.set k.toNat (VCo.mk ((vs.getD k.toNat default).pos+(1:Int)) (vs.getD k.toNat default).halted (vs.getD k.toNat default).regs (vs.getD k.toNat default).buf)).length=vs.length,∀ (i:Nat),i<(vs.set k.toNat (VCo.mk ((vs.getD k.toNat default).pos+(1:Int)) (vs.getD k.toNat default).halted (vs.getD k.toNat default).regs (vs.getD k.toNat default).buf)).length→((vs.set k.toNat (VCo.mk ((vs.getD k.toNat default).pos+(1:Int)) (vs.getD k.toNat default).halted (vs.getD k.toNat default).regs (vs.getD k.toNat default).buf)).getD i default).tc=updT (fun i=>(vs.getD i default).tc) k.toNat 0 [Value.int IntKind.i64 ((vs.getD k.toNat default).pos+(1:Int))] i]) (hv:=(by simp only [Conj];refine ⟨List.length_set,?_⟩;intro j hj;first | exact set_updT default VCo.tc vs k.toNat 0 _ _ (fun q=>by rcases q with _ | q<;>simp [VCo.tc,VCo.tl,nthT,nth]) j hj | skip))
     refine tz [47,48,46,45,44,8,7,5,4] ?_
     refine tCall e_vm_turn_zero (c_t_zero (sh:=sh) (lk:=lk) (bu:=bu) (cs:=cs) (vs:=vs.set k.toNat (z46_2 vs k)) (mem:=mem) (pr:=pr) (k:=k.toNat) (i:=(cs.getD k.toNat default).code.getD (vs.getD k.toNat default).pos.toNat default) (core:=k) (pc:=(vs.getD k.toNat default).pos) (hk:=by first | assumption | omega | (simp only [List.length_set];omega) | (unfold insQ at hi;grind) | (exact hpos _ (by omega)) | (rw [setk_get (by omega)];have:=hb k.toNat;omega)) (ha:=by first | assumption | omega | (simp only [List.length_set];omega) | (unfold insQ at hi;grind) | (exact hpos _ (by omega)) | (rw [setk_get (by omega)];have:=hb k.toNat;omega))) [0,1,2,3,4,6] ?_ [19] [(z46_1 cs k vs).kind=(9:Int)] (by (try simp only [Conj])<;>(repeat' apply And.intro)<;>first | done | trivial | rfl | (intros;first | rfl | trivial) | exact snoc_len _ _ | exact List.length_set | exact set_ints _ _ _ | exact take_row _ _ _ _ _ | (exact take_len _ _ _ (by first | omega | (have h0:=askE_ok (by simpa using h1);have hm:=evE_mem h0.1;have hs:=evE_ok h0.1;omega))) | exact MpEq.put (by omega) | (refine MpEq.mk' (by omega) ?_ ?_<;>intro q<;>first | rfl | (dsimp only;split<;>simp_all)) | (exact MpEq.mkIt (by omega) (fun _=>rfl) (fun _=>rfl) rfl rfl (fun _=>rfl)) | (intro i h1 h2;rw [snoc_lo h1 h2]) | (rw [getD_snoc];rfl))
     rw [run_turn (mem:=mem) (pr:=pr) h1 h2 h3 (turn_9 hs4)]
     exact tRet [0,1,2,3,4,8]
    ·refine tWk (St.mk 51 z46_3 [z46_4 sh lk bu,z46_11 cs,z46_9 vs,z46_10 mem,z46_8 pr,z46_5,z46_6 k,Reg.box 177 [C.p 0 0,C.e 2 19 k.toNat 0,C.i .u8 10,C.i .u8 (z46_1 cs k vs).op,C.i .i64 (z46_1 cs k vs).d,C.i .i64 (z46_1 cs k vs).a,C.i .i64 (z46_1 cs k vs).b,C.i .i64 (z46_1 cs k vs).addr,C.i .i64 (z46_1 cs k vs).to,C.i .i64 (z46_1 cs k vs).word,C.i .i64 (z46_1 cs k vs).from_,C.p 6 0]] []) ?_ [] [25] [(10:Int)=(z46_1 cs k vs).kind] (by simp only [Conj];(repeat' apply And.intro)<;>first | trivial | rfl | (intros;rfl) | (exact Eq.symm (by assumption)) | grind)
     refine tz [8,7,5,4] ?_
     refine tCall e_vm_does (c_does10) [] ?_ (vc:=[k.toNat<vs.length,k.toNat<vs.length,Fits IntKind.i64 ((vs.getD k.toNat default).pos+(1:Int)),k.toNat<vs.length]) (hv:=(by simp only [Conj,Fits,i64_min,i64_max,u8_min,u8_max,News.len,maxLen]<;>(repeat' (first | apply And.intro | intro _))<;>first | grind | (simp only [BL] at *;omega)))
     refine tReg 2 (z46_7 vs k) ?_ (vc:=[(vs.set k.toNat (VCo.mk ((vs.getD k.toNat default).pos+(1:Int)) (vs.getD k.toNat default).halted (vs.getD k.toNat default).regs (vs.getD k.toNat default).buf)).length=vs.length,∀ (i:Nat),i<(vs.set k.toNat (VCo.mk ((vs.getD k.toNat default).pos+(1:Int)) (vs.getD k.toNat default).halted (vs.getD k.toNat default).regs (vs.getD k.toNat default).buf)).length→((vs.set k.toNat (VCo.mk ((vs.getD k.toNat default).pos+(1:Int)) (vs.getD k.toNat default).halted (vs.getD k.toNat default).regs (vs.getD k.toNat default).buf)).getD i default).tc=updT (fun i=>(vs.getD i default).tc) k.toNat 0 [Value.int IntKind.i64 ((vs.getD k.toNat default).pos+(1:Int))] i]) (hv:=(by simp only [Conj];refine ⟨List.length_set,?_⟩;intro j hj;first | exact set_updT default VCo.tc vs k.toNat 0 _ _ (fun q=>by rcases q with _ | q<;>simp [VCo.tc,VCo.tl,nthT,nth]) j hj | skip))
     refine tz [47,48,46,45,44,8,7,5,4] ?_
     refine tCall e_vm_turn_halt (c_t_halt (sh:=sh) (lk:=lk) (bu:=bu) (cs:=cs) (vs:=vs.set k.toNat (z46_2 vs k)) (mem:=mem) (pr:=pr) (k:=k.toNat) (i:=(cs.getD k.toNat default).code.getD (vs.getD k.toNat default).pos.toNat default) (core:=k) (pc:=(vs.getD k.toNat default).pos) (hk:=by first | assumption | omega | (simp only [List.length_set];omega) | (unfold insQ at hi;grind) | (exact hpos _ (by omega)) | (rw [setk_get (by omega)];have:=hb k.toNat;omega))) [0,1,2,3,4,6] ?_ [19] [(z46_1 cs k vs).kind=(10:Int)] (by (try simp only [Conj])<;>(repeat' apply And.intro)<;>first | done | trivial | rfl | (intros;first | rfl | trivial) | exact snoc_len _ _ | exact List.length_set | exact set_ints _ _ _ | exact take_row _ _ _ _ _ | (exact take_len _ _ _ (by first | omega | (have h0:=askE_ok (by simpa using h1);have hm:=evE_mem h0.1;have hs:=evE_ok h0.1;omega))) | exact MpEq.put (by omega) | (refine MpEq.mk' (by omega) ?_ ?_<;>intro q<;>first | rfl | (dsimp only;split<;>simp_all)) | (exact MpEq.mkIt (by omega) (fun _=>rfl) (fun _=>rfl) rfl rfl (fun _=>rfl)) | (intro i h1 h2;rw [snoc_lo h1 h2]) | (rw [getD_snoc];rfl))
     rw [run_turn (mem:=mem) (pr:=pr) h1 h2 h3 (turn_10 hs4)]
     exact tRet [0,1,2,3,4,8]
end Go.Proofs.Ytmjjikcappbkeaa
end
noncomputable section
namespace Go.Proofs.Ytmjjikcappbkeaa
open Go Go.Tx
theorem c_clone_sto (l:List Sto) (hl:l.length * 64≤140737488355328):Ctr Try.prog 46 [Sto.rowR l] [.c (.h 0)]
 (Det (.c (.h 1)) [.dead,Sto.ownR l]):=by
 refine Ctr.intro [] Try.func46 K K ?_
 refine RunF.rnil (n:=l.length) (vc:=[]) 0 K trivial K (fun _=>by kernel_rfl) (fun nil1 hn1=>?_)
 refine tz [4,2,0] ?_
 refine tCond (nil1) (fun h2=>?_) (fun h2=>?_)
 ·exact tRet [0,1000001] [0] [l.length=0] (by simp only [Conj];(repeat' apply And.intro)<;>first | trivial | omega | (exact hn1 h2) | (intros;simp))
 ·exact tRet [0,2] [0,1] [l.length=0+l.length,∀ (i:Nat),i<l.length→(l.getD i default).tc=fun j=>if i<0 then rowT 3 [] i j else (l.getD (i-0) default).tc j] (by simp only [Conj];(repeat' apply And.intro)<;>first | trivial | omega | (exact hn1 h2) | (intros;simp)) (vc:=[∀ (i j:Nat),i<l.length→j<3→flatT ((l.getD i default).tc j),0+l.length≤maxLen,(0+l.length) * 24≤140737488355328]) (hv:=(by simp only [Conj,Fits,i64_min,i64_max,u8_min,u8_max,News.len,maxLen]<;>(repeat' (first | apply And.intro | intro _))<;>first | (exact Sto.flat _ _ (by assumption)) | grind | (simp only [BL] at *;omega)))
theorem c_clone_ins (l:List Ins) (hl:l.length * 64≤140737488355328):Ctr Try.prog 42 [Ins.rowR l] [.c (.h 0)]
 (Det (.c (.h 1)) [.dead,Ins.ownR l]):=by
 refine Ctr.intro [] Try.func42 K K ?_
 refine RunF.rnil (n:=l.length) (vc:=[]) 0 K trivial K (fun _=>by kernel_rfl) (fun nil1 hn1=>?_)
 refine tz [4,2,0] ?_
 refine tCond (nil1) (fun h2=>?_) (fun h2=>?_)
 ·exact tRet [0,1000001] [0] [l.length=0] (by simp only [Conj];(repeat' apply And.intro)<;>first | trivial | omega | (exact hn1 h2) | (intros;simp))
 ·exact tRet [0,2] [0,1] [l.length=0+l.length,∀ (i:Nat),i<l.length→(l.getD i default).tc=fun j=>if i<0 then rowT 9 [] i j else (l.getD (i-0) default).tc j] (by simp only [Conj];(repeat' apply And.intro)<;>first | trivial | omega | (exact hn1 h2) | (intros;simp)) (vc:=[∀ (i j:Nat),i<l.length→j<9→flatT ((l.getD i default).tc j),0+l.length≤maxLen,(0+l.length) * 64≤140737488355328]) (hv:=(by simp only [Conj,Fits,i64_min,i64_max,u8_min,u8_max,News.len,maxLen]<;>(repeat' (first | apply And.intro | intro _))<;>first | (exact Ins.flat _ _ (by assumption)) | grind | (simp only [BL] at *;omega)))
theorem c_clone_word (l:List Int) (hl:l.length * 64≤140737488355328):Ctr Try.prog 31 [WordRow l] [.c (.h 0)]
 (Det (.c (.h 1)) [.dead,WordOwn l]):=by
 refine Ctr.intro [] Try.func31 K K ?_
 refine RunF.rnil (n:=l.length) (vc:=[]) 0 K trivial K (fun _=>by kernel_rfl) (fun nil1 hn1=>?_)
 refine tz [4,2,0] ?_
 refine tCond (nil1) (fun h2=>?_) (fun h2=>?_)
 ·exact tRet [0,1000001] [0] [l.length=0] (by simp only [Conj];(repeat' apply And.intro)<;>first | trivial | omega | (exact hn1 h2) | (intros;simp))
 ·exact tRet [0,2] [0,1] [l.length=0+l.length,∀ (i:Nat),i<l.length→i64T (l.getD i (0:Int))=fun j=>if i<0 then rowT 1 [] i j else i64T (l.getD (i-0) (0:Int)) j] (by simp only [Conj];(repeat' apply And.intro)<;>first | trivial | omega | (exact hn1 h2) | (intros;simp)) (vc:=[∀ (i j:Nat),i<l.length→j<1→flatT (i64T (l.getD i (0:Int)) j),0+l.length≤maxLen,(0+l.length) * 8≤140737488355328]) (hv:=(by simp only [Conj,Fits,i64_min,i64_max,u8_min,u8_max,News.len,maxLen]<;>(repeat' (first | apply And.intro | intro _))<;>first | (exact i64T.flat _ _ (by assumption)) | grind | (simp only [BL] at *;omega)))
end Go.Proofs.Ytmjjikcappbkeaa
end
namespace Go.Proofs.Ytmjjikcappbkeaa
open Go Go.Tx
theorem allFrom_at {p:Int→Bool} {n k:Int}:∀ (m:Nat) (i:Int),(n-i).toNat=m→allFrom p i n=true→i≤k→k<n→p k=true:=by
 intro m
 induction m with
 | zero=>intro i h _ h1 h2;omega
 | succ m ih =>
   intro i h ha h1 h2
   rw [allFrom_step p (by omega),Bool.and_eq_true] at ha
   by_cases e:i=k
   ·subst e;exact ha.1
   ·exact ih (i+1) (by omega) ha.2 (by omega) h2
def didAt (l:List Did) (i:Int):Did:=l.getD i.toNat default
def rightP (l:List Did) (i:Int):Bool:=didB (didAt l i)
def rightsB (l:List Did):Bool:=allFrom (rightP l) 0 l.length
theorem rights_at {l:List Did} (h:rightsB l=true) {i:Int} (h0:0≤i) (h1:i<l.length):didB (l.getD i.toNat default)=true:=
 allFrom_at (p:=rightP l) _ 0 rfl h h0 h1
theorem didB_bounds {d:Did} (h:didB d=true):0<d.kind∧d.kind<9∧0≤d.core∧d.core<8∧0≤d.addr∧d.addr<4096:=by
 unfold didB at h
 simp only [BL] at h
 omega
def noEv:Ev:=⟨0,0,0,0,0,false,0⟩
def evOf (sh lk:Int) (d:Did) (i:Int):Ev:=
 if d.kind=6 then ⟨6,d.core,0,d.word,0,false,i⟩
 else if d.kind=7 then ⟨7,d.core,0,d.word,0,false,i⟩
 else if !(decide (d.kind=2)||decide (d.kind=4)||decide (d.kind=8)) then noEv
 else if d.addr<sh then ⟨if d.kind=4 then 3 else if d.kind=8 then 2 else 1,d.core,d.addr,d.word,d.put,d.own,i⟩
 else if sh+lk≤d.addr||!decide (d.word=0) then noEv
 else if d.kind=8 then ⟨5,d.core,d.addr-sh,d.word,0,false,i⟩
 else if d.kind=4&&!decide (d.put=0) then ⟨4,d.core,d.addr-sh,d.word,0,false,i⟩
 else noEv
def evAt (sh lk:Int) (l:List Did) (i:Nat):Ev:=evOf sh lk (l.getD i default) i
def evUp (sh lk:Int) (l:List Did):Nat→List Ev
 | 0=>[]
 | n+1=>evUp sh lk l n++(if (evAt sh lk l n).kind=0 then [] else [evAt sh lk l n])
theorem evUp_take (sh lk:Int) (l:List Did) {i:Int} (h:0≤i) {e:Ev} (he:evOf sh lk (l.getD i.toNat default) i=e) (hk:¬ e.kind=0) :
 evUp sh lk l (i+1).toNat=evUp sh lk l i.toNat++[e]:=by
 have h1:(i+1).toNat=i.toNat+1:=by omega
 have h2:((i.toNat:Nat):Int)=i:=by omega
 rw [h1,evUp,evAt,h2,he,if_neg hk]
theorem evUp_skip (sh lk:Int) (l:List Did) {i:Int} (h:0≤i) {e:Ev} (he:evOf sh lk (l.getD i.toNat default) i=e) (hk:e.kind=0) :
 evUp sh lk l (i+1).toNat=evUp sh lk l i.toNat:=by
 have h1:(i+1).toNat=i.toNat+1:=by omega
 have h2:((i.toNat:Nat):Int)=i:=by omega
 rw [h1,evUp,evAt,h2,he,if_pos hk,List.append_nil]
theorem evUp_len (sh lk:Int) (l:List Did):∀ n,(evUp sh lk l n).length≤n
 | 0=>Nat.le_refl _
 | n+1=>by
   have:=evUp_len sh lk l n
   rw [evUp,List.length_append]
   split<;>simp<;>omega
def evE (mem:List Int) (sh lk bu:Int) (cs:List Cor) (l:List Did):Int:=
 if chkE mem sh lk bu cs=0 then if rightsB l then 0 else 190 else chkE mem sh lk bu cs
def evL (mem:List Int) (sh lk bu:Int) (cs:List Cor) (l:List Did):List Ev:=
 if evE mem sh lk bu cs l=0 then evUp sh lk l l.length else []
theorem shaped_bounds {mem:List Int} {sh lk bu:Int} {cs:List Cor} (h:shapedB mem sh lk bu cs=true):0≤sh∧sh≤64∧0≤lk∧lk≤16∧sh+lk≤(mem.length:Int)∧(mem.length:Int)≤4096:=by
 unfold shapedB at h
 simp only [Bool.and_eq_true,decide_eq_true_eq] at h
 omega
theorem chk_ok {mem:List Int} {sh lk bu:Int} {cs:List Cor} (h:chkE mem sh lk bu cs=0):0≤sh∧sh≤64∧0≤lk∧lk≤16∧sh+lk≤(mem.length:Int)∧(mem.length:Int)≤4096:=by
 refine shaped_bounds (bu:=bu) (cs:=cs) ?_
 unfold chkE at h
 cases hs:shapedB mem sh lk bu cs with
 | true=>rfl
 | false=>rw [hs] at h;simp at h
theorem rng {l:List Did} (hr:rightsB l=true) {i:Int} (h0:0≤i) (h1:i<l.length):0≤(l.getD i.toNat default).addr∧(l.getD i.toNat default).addr<4096:=by
 have:=didB_bounds (rights_at hr h0 h1);omega
theorem shr {mem:List Int} {sh lk bu:Int} {cs:List Cor} (h:chkE mem sh lk bu cs=0):0≤sh∧sh≤64∧0≤lk∧lk≤16:=by
 have:=chk_ok h;omega
end Go.Proofs.Ytmjjikcappbkeaa
namespace Go.Proofs.Ytmjjikcappbkeaa
open Go Go.Tx
theorem take_next {α:Type} [Inhabited α] {L:List α} {k:Nat} (h:k<L.length):L.take k++[L.getD k default]=L.take (k+1):=by
 rw [List.take_add_one,List.getD_eq_getElem?_getD,List.getElem?_eq_getElem h];rfl
theorem evUp_prefix (sh lk:Int) (l:List Did) {i:Nat}:∀ {n:Nat},i≤n→evUp sh lk l i <+: evUp sh lk l n
 | 0,h=>by rw [Nat.le_zero.1 h];exact List.prefix_refl _
 | n+1,h=>by
   by_cases e:i=n+1
   ·rw [e];exact List.prefix_refl _
   ·exact List.IsPrefix.trans (evUp_prefix sh lk l (by omega)) ⟨_,rfl⟩
theorem ev_here {sh lk:Int} {l:List Did} {i:Int} (h0:0≤i) (h1:i<l.length) (hk:¬ (evOf sh lk (l.getD i.toNat default) i).kind=0) :
 (evUp sh lk l i.toNat).length<(evUp sh lk l l.length).length∧(evUp sh lk l l.length).getD (evUp sh lk l i.toNat).length default=evOf sh lk (l.getD i.toNat default) i:=by
 have h2:=evUp_take sh lk l h0 rfl hk
 obtain ⟨t,ht⟩:=evUp_prefix sh lk l (show (i+1).toNat≤l.length by omega)
 rw [h2] at ht
 rw [← ht]
 refine ⟨by simp,?_⟩
 rw [List.append_assoc,List.getD_eq_getElem?_getD,List.getElem?_append_right (Nat.le_refl _)]
 simp
def thD (sh lk:Int) (d:Did):Int:=if addrB d.kind&&decide (d.addr<sh+lk) then (if d.addr<sh then d.addr else d.addr-sh) else 0
theorem evOf_parts {sh lk:Int} {d:Did} {i:Int} (hs:0≤sh∧sh≤64∧0≤lk∧lk≤16) (hd:didB d=true) :
 0≤(evOf sh lk d i).kind∧(evOf sh lk d i).kind≤7 ∧
 (¬ (evOf sh lk d i).kind=0→(evOf sh lk d i).core=d.core∧(evOf sh lk d i).pos=i) ∧
 ((evOf sh lk d i).kind=1∨(evOf sh lk d i).kind=2∨(evOf sh lk d i).kind=3→(evOf sh lk d i).thing=thD sh lk d∧(evOf sh lk d i).word=d.word∧(evOf sh lk d i).put=d.put∧(evOf sh lk d i).own=d.own) ∧
 ((evOf sh lk d i).kind=4∨(evOf sh lk d i).kind=5→(evOf sh lk d i).thing=thD sh lk d∧(evOf sh lk d i).word=0∧(evOf sh lk d i).put=0∧(evOf sh lk d i).own=false) ∧
 ((evOf sh lk d i).kind=6→(evOf sh lk d i).thing=0∧(evOf sh lk d i).word=d.word∧(evOf sh lk d i).put=0∧(evOf sh lk d i).own=false) ∧
 ((evOf sh lk d i).kind=7→(evOf sh lk d i).thing=0∧(evOf sh lk d i).word=0∧(evOf sh lk d i).put=0∧(evOf sh lk d i).own=false):=by
 have hb:=didB_bounds hd
 obtain ⟨kind,core,pc,addr,word,put,own⟩:=d
 simp only at hb
 have:kind=1∨kind=2∨kind=3∨kind=4∨kind=5∨kind=6∨kind=7∨kind=8:=by omega
 rcases this with rfl | rfl | rfl | rfl | rfl | rfl | rfl | rfl
 all_goals
  simp only [evOf,thD,noEv,addrB,didB,BL] at *
  (repeat' apply And.intro)<;>grind
end Go.Proofs.Ytmjjikcappbkeaa
namespace Go.Proofs.Ytmjjikcappbkeaa
open Go Go.Tx
theorem drop1_get {α:Type} [Inhabited α] (l:List α) (j:Nat):(l.drop 1).getD j default=l.getD (1+j) default:=by
 rw [List.getD_eq_getElem?_getD,List.getD_eq_getElem?_getD,List.getElem?_drop]
def drainV (k:Int) (vs:List VCo) (mem:List Int) (pr:List Prt):Rsl:=
 if vmHas vs.length k≠0 then ⟨⟨0,0,0,0,0,0,false⟩,vmHas vs.length k,vs,mem,pr⟩
 else if (vs.getD k.toNat default).buf.length=0 then ⟨⟨0,0,0,0,0,0,false⟩,0,vs,mem,pr⟩
 else ⟨⟨8,k,((vs.getD k.toNat default).buf.getD 0 default).pos,((vs.getD k.toNat default).buf.getD 0 default).addr,((vs.getD k.toNat default).buf.getD 0 default).word,0,false⟩,0,
  vs.set k.toNat { vs.getD k.toNat default with buf:=(vs.getD k.toNat default).buf.drop 1 },mem.set ((vs.getD k.toNat default).buf.getD 0 default).addr.toNat ((vs.getD k.toNat default).buf.getD 0 default).word,pr⟩
def stepV (bu:Int) (cs:List Cor) (s:Stp) (vs:List VCo) (mem:List Int) (pr:List Prt):Rsl:=
 if s.kind=1 then runV bu cs s.core vs mem pr else if s.kind=2 then drainV s.core vs mem pr else ⟨⟨0,0,0,0,0,0,false⟩,182,vs,mem,pr⟩
section
variable {bu:Int} {cs:List Cor} {k:Int} {vs:List VCo} {mem:List Int} {pr:List Prt} {s:Stp}
theorem drain_has (h1:(!decide (vmHas vs.length k=0))=true):drainV k vs mem pr=⟨⟨0,0,0,0,0,0,false⟩,vmHas vs.length k,vs,mem,pr⟩:=by
 unfold drainV;rw [if_pos (by simpa using h1)]
theorem drain_none (h1:(!decide (vmHas vs.length k=0))=false) (h2:decide (((vs.getD k.toNat default).buf.length:Int)=0)=true):drainV k vs mem pr=⟨⟨0,0,0,0,0,0,false⟩,0,vs,mem,pr⟩:=by
 unfold drainV;rw [if_neg (by simpa using h1),if_pos (by have:=of_decide_eq_true h2;omega)]
theorem drain_one (h1:(!decide (vmHas vs.length k=0))=false) (h2:decide (((vs.getD k.toNat default).buf.length:Int)=0)=false) :
 drainV k vs mem pr=⟨⟨8,k,((vs.getD k.toNat default).buf.getD 0 default).pos,((vs.getD k.toNat default).buf.getD 0 default).addr,((vs.getD k.toNat default).buf.getD 0 default).word,0,false⟩,0,
  vs.set k.toNat { vs.getD k.toNat default with buf:=(vs.getD k.toNat default).buf.drop 1 },mem.set ((vs.getD k.toNat default).buf.getD 0 default).addr.toNat ((vs.getD k.toNat default).buf.getD 0 default).word,pr⟩:=by
 unfold drainV;rw [if_neg (by simpa using h1),if_neg (by have:=of_decide_eq_false h2;omega)]
theorem step_run (h:decide (s.kind=1)=true):stepV bu cs s vs mem pr=runV bu cs s.core vs mem pr:=by
 unfold stepV;rw [if_pos (of_decide_eq_true h)]
theorem step_drain (h1:decide (s.kind=1)=false) (h:decide (s.kind=2)=true):stepV bu cs s vs mem pr=drainV s.core vs mem pr:=by
 unfold stepV;rw [if_neg (of_decide_eq_false h1),if_pos (of_decide_eq_true h)]
theorem step_none (h1:decide (s.kind=1)=false) (h:decide (s.kind=2)=false):stepV bu cs s vs mem pr=⟨⟨0,0,0,0,0,0,false⟩,182,vs,mem,pr⟩:=by
 unfold stepV;rw [if_neg (of_decide_eq_false h1),if_neg (of_decide_eq_false h)]
end
def viewV (vs:List VCo) (k:Int):VCo:=if vmHas vs.length k=0 then vs.getD k.toNat default else ⟨0,false,[],[]⟩
def viewC (vs:List VCo) (k:Int) (r:Nat):List C:=(viewV vs k).cs r
def viewB (vs:List VCo) (k:Int):List Sto:=(viewV vs k).buf
section
variable {vs:List VCo} {k:Int} {r:Nat}
theorem view_no (h1:(!decide (vmHas vs.length k=0))=true):viewB vs k=[]:=by
 unfold viewB viewV;rw [if_neg (by simpa using h1)]
theorem view_noC (h1:(!decide (vmHas vs.length k=0))=true):viewC vs k r=VCo.cs ⟨0,false,[],[]⟩ r:=by
 unfold viewC viewV;rw [if_neg (by simpa using h1)]
theorem view_yes (h1:(!decide (vmHas vs.length k=0))=false):viewB vs k=(vs.getD k.toNat default).buf:=by
 unfold viewB viewV;rw [if_pos (by simpa using h1)]
theorem view_yesC (h1:(!decide (vmHas vs.length k=0))=false):viewC vs k r=VCo.cs (vs.getD k.toNat default) r:=by
 unfold viewC viewV;rw [if_pos (by simpa using h1)]
end
structure MacOk (bu:Int) (cs:List Cor) (vs:List VCo) (mem:List Int):Prop where
 len:cs.length=vs.length
 bu16:1≤bu∧bu≤16
 cor8:cs.length≤8
 mem4:mem.length≤4096
 insb:∀ j q:Nat,j<cs.length→q<(cs.getD j default).code.length→insB ((cs.getD j default).code.getD q default) (cs.getD j default).code.length mem.length=true
 last:∀ j:Nat,j<cs.length→((cs.getD j default).code.getD ((cs.getD j default).code.length-1) default).kind=10∨((cs.getD j default).code.getD ((cs.getD j default).code.length-1) default).kind=8
 pos:∀ j:Nat,j<vs.length→0≤(vs.getD j default).pos∧(vs.getD j default).pos<(cs.getD j default).code.length
 cod:∀ j:Nat,(cs.getD j default).code.length≤16384
 bufb:∀ j:Nat,((vs.getD j default).buf.length:Int)≤bu
 stoa:∀ j q:Nat,q<(vs.getD j default).buf.length→(0≤((vs.getD j default).buf.getD q default).addr∧((vs.getD j default).buf.getD q default).addr<mem.length)∧0≤((vs.getD j default).buf.getD q default).pos∧((vs.getD j default).buf.getD q default).pos<16384
 regs:∀ j:Nat,j<vs.length→(vs.getD j default).regs.length=16
theorem insB_Q {i:Ins} {code n:Nat} (h:insB i code n=true):insQ n i:=by
 unfold insB within useD useA useAddr useTo at h
 unfold insQ
 simp only [BL] at h
 refine ⟨by omega,by omega,by omega,by omega,fun h2=>?_,by omega⟩
 grind
theorem insB_to {i:Ins} {code n:Nat} (h:insB i code n=true) (hk:i.kind=8∨i.kind=9):0≤i.to∧i.to<code:=by
 unfold insB within useD useA useAddr useTo at h
 simp only [BL] at h
 omega
section
variable {bu:Int} {cs:List Cor} {vs:List VCo} {mem:List Int}
theorem MacOk.ins (h:MacOk bu cs vs mem) {k:Int} (hk:0≤k∧k<vs.length):insQ mem.length ((cs.getD k.toNat default).code.getD (vs.getD k.toNat default).pos.toNat default):=by
 have hl:=h.len
 have hp:=h.pos k.toNat (by omega)
 exact insB_Q (h.insb _ _ (by omega) (by omega))
theorem MacOk.buf16 (h:MacOk bu cs vs mem) (j:Nat):(vs.getD j default).buf.length≤16:=by
 have h1:=h.bufb j;have h2:=h.bu16;omega
theorem MacOk.sto0 (h:MacOk bu cs vs mem) {j:Nat} (hj:0<(vs.getD j default).buf.length):0≤((vs.getD j default).buf.getD 0 default).addr∧((vs.getD j default).buf.getD 0 default).addr<mem.length:=(h.stoa j 0 hj).1
end
def newVs (n:Nat):List VCo:=List.replicate n ⟨0,false,List.replicate 16 0,[]⟩
theorem cors_bound {mem:List Int} {sh lk bu:Int} {cs:List Cor} (h:chkE mem sh lk bu cs=0):cs.length≤8∧∀ j:Nat,(cs.getD j default).code.length≤16384:=by
 have hs:shapedB mem sh lk bu cs=true:=by
  unfold chkE at h
  cases hs:shapedB mem sh lk bu cs with
  | true=>rfl
  | false=>rw [hs] at h;simp at h
 unfold shapedB at hs
 simp only [Bool.and_eq_true,decide_eq_true_eq] at hs
 refine ⟨by omega,fun j=>?_⟩
 by_cases hj:j<cs.length
 ·have:=allFrom_at (p:=corB cs) (k:=(j:Int)) _ 0 rfl hs.2 (by omega) (by omega)
  unfold corB corAt at this
  simp only [Bool.and_eq_true,decide_eq_true_eq,Int.toNat_natCast] at this
  omega
 ·rw [List.getD_eq_getElem?_getD,List.getElem?_eq_none (by omega)]
  exact Nat.zero_le _
theorem newVs_get {n i:Nat} (hi:i<n):(newVs n).getD i default=⟨0,false,List.replicate 16 0,[]⟩:=by
 unfold newVs
 rw [List.getD_eq_getElem?_getD,List.getElem?_replicate,if_pos hi];rfl
theorem newV_nil:∀ (j:Nat),j<19→VCo.tc ⟨0,false,List.replicate 16 0,[]⟩ j=valT [.int .i64 0,.bool false,.int .i64 0,.int .i64 0,.int .i64 0,.int .i64 0,.int .i64 0,.int .i64 0,.int .i64 0,.int .i64 0,.int .i64 0,.int .i64 0,.int .i64 0,.int .i64 0,.int .i64 0,.int .i64 0,.int .i64 0,.int .i64 0,.slice none 0 0] j∨(valT [.int .i64 0,.bool false,.int .i64 0,.int .i64 0,.int .i64 0,.int .i64 0,.int .i64 0,.int .i64 0,.int .i64 0,.int .i64 0,.int .i64 0,.int .i64 0,.int .i64 0,.int .i64 0,.int .i64 0,.int .i64 0,.int .i64 0,.int .i64 0,.slice none 0 0] j=.val (.slice none 0 0)∧∃ ty s g,VCo.tc ⟨0,false,List.replicate 16 0,[]⟩ j=.sub ty s 0 g)
 | 0,_=>.inl rfl
 | 1,_=>.inl rfl
 | 2,_=>.inl rfl
 | 3,_=>.inl rfl
 | 4,_=>.inl rfl
 | 5,_=>.inl rfl
 | 6,_=>.inl rfl
 | 7,_=>.inl rfl
 | 8,_=>.inl rfl
 | 9,_=>.inl rfl
 | 10,_=>.inl rfl
 | 11,_=>.inl rfl
 | 12,_=>.inl rfl
 | 13,_=>.inl rfl
 | 14,_=>.inl rfl
 | 15,_=>.inl rfl
 | 16,_=>.inl rfl
 | 17,_=>.inl rfl
 | 18,_=>.inr ⟨rfl,_,_,_,rfl⟩
 | n+19,h=>absurd h (by omega)
theorem newVs_nil (n:Nat):∀ (i j:Nat),i<n→j<19→VCo.tc ((newVs n).getD i default) j=valT [.int .i64 0,.bool false,.int .i64 0,.int .i64 0,.int .i64 0,.int .i64 0,.int .i64 0,.int .i64 0,.int .i64 0,.int .i64 0,.int .i64 0,.int .i64 0,.int .i64 0,.int .i64 0,.int .i64 0,.int .i64 0,.int .i64 0,.int .i64 0,.slice none 0 0] j∨(valT [.int .i64 0,.bool false,.int .i64 0,.int .i64 0,.int .i64 0,.int .i64 0,.int .i64 0,.int .i64 0,.int .i64 0,.int .i64 0,.int .i64 0,.int .i64 0,.int .i64 0,.int .i64 0,.int .i64 0,.int .i64 0,.int .i64 0,.int .i64 0,.slice none 0 0] j=.val (.slice none 0 0)∧∃ ty s g,VCo.tc ((newVs n).getD i default) j=.sub ty s 0 g):=fun i j hi hj=>by
 rw [newVs_get hi];exact newV_nil j hj
end Go.Proofs.Ytmjjikcappbkeaa
noncomputable section
namespace Go.Proofs.Ytmjjikcappbkeaa
open Go Go.Tx
abbrev z48_1 (vs:List VCo) (k:Int):=(VCo.mk (vs.getD k.toNat default).pos (vs.getD k.toNat default).halted (vs.getD k.toNat default).regs (List.drop 1 (vs.getD k.toNat default).buf))
abbrev z48_2 (vs:List VCo) (k:Int):=((vs.getD k.toNat default).buf.getD 0 default)
theorem c_drain (sh lk bu:Int) (cs:List Cor) (vs:List VCo) (mem:List Int) (pr:List Prt) (k:Int) (hm:0<(vs.getD k.toNat default).buf.length→0≤((vs.getD k.toNat default).buf.getD 0 default).addr∧((vs.getD k.toNat default).buf.getD 0 default).addr<mem.length) (hb:(vs.getD k.toNat default).buf.length≤16):Ctr Try.prog 44 [Reg.box 138 (vmC sh lk bu 1 2 3 4),Cor.rowR cs,VCo.ownR vs,WordOwn mem,Prt.ownR pr] [.c (.p 0 0),.c (.i .i64 k)]
 (Det (.tup [(true,(drainV k vs mem pr).did.cs),(false,[.i .i64 (drainV k vs mem pr).err])]) [Reg.box 138 (vmC sh lk bu 1 2 3 4),.dead,VCo.ownR (drainV k vs mem pr).vs,WordOwn (drainV k vs mem pr).mem,Prt.ownR (drainV k vs mem pr).pr]):=by
 refine Ctr.intro [] Try.func44 K K ?_
 refine tCall e_vm_Machine_has (c_has (sh:=sh) (lk:=lk) (bu:=bu) (cs:=cs) (vs:=vs) (mem:=mem) (pr:=pr) (k:=k)) [] ?_
 refine tz [12,5,4,0,1] ?_
 refine tCond (!decide (vmHas vs.length k=(0:Int))) (fun h1=>?_) (fun h1=>?_)
 ·rw [drain_has (mem:=mem) (pr:=pr) h1]
  exact tRet
 ·have hk:0≤k∧k<vs.length:=has_in h1
  refine tFoc 2 (k.toNat) ?_ (vc:=[k.toNat<vs.length]) (hv:=(by simp only [Conj,Fits,i64_min,i64_max,u8_min,u8_max,News.len,maxLen]<;>(repeat' (first | apply And.intro | intro _))<;>first | (exact Sto.flat _ _ (by assumption)) | grind | (simp only [BL] at *;omega)))
  refine tz [5,4,0,1] ?_
  refine tCond (decide ((↑(vs.getD k.toNat default).buf.length:Int)=(0:Int))) (fun h2=>?_) (fun h2=>?_) (vc:=[(0:Int)≤k,k<(↑vs.length:Int),k.toNat=k.toNat]) (hv:=(by simp only [Conj,Fits,i64_min,i64_max,u8_min,u8_max,News.len,maxLen]<;>(repeat' (first | apply And.intro | intro _))<;>first | (exact Sto.flat _ _ (by assumption)) | grind | (simp only [BL] at *;omega)))
  ·refine tFold 2 ((VCo.tc (vs.getD k.toNat default))) ?_ (vc:=[(vs.getD k.toNat default).pos=(vs.getD k.toNat default).pos,(vs.getD k.toNat default).halted=(vs.getD k.toNat default).halted,(vs.getD k.toNat default).regs.getD 0 (0:Int)=(vs.getD k.toNat default).regs.getD 0 (0:Int),(vs.getD k.toNat default).regs.getD 1 (0:Int)=(vs.getD k.toNat default).regs.getD 1 (0:Int),(vs.getD k.toNat default).regs.getD 2 (0:Int)=(vs.getD k.toNat default).regs.getD 2 (0:Int),(vs.getD k.toNat default).regs.getD 3 (0:Int)=(vs.getD k.toNat default).regs.getD 3 (0:Int),(vs.getD k.toNat default).regs.getD 4 (0:Int)=(vs.getD k.toNat default).regs.getD 4 (0:Int),(vs.getD k.toNat default).regs.getD 5 (0:Int)=(vs.getD k.toNat default).regs.getD 5 (0:Int),(vs.getD k.toNat default).regs.getD 6 (0:Int)=(vs.getD k.toNat default).regs.getD 6 (0:Int),(vs.getD k.toNat default).regs.getD 7 (0:Int)=(vs.getD k.toNat default).regs.getD 7 (0:Int),(vs.getD k.toNat default).regs.getD 8 (0:Int)=(vs.getD k.toNat default).regs.getD 8 (0:Int),(vs.getD k.toNat default).regs.getD 9 (0:Int)=(vs.getD k.toNat default).regs.getD 9 (0:Int),(vs.getD k.toNat default).regs.getD 10 (0:Int)=(vs.getD k.toNat default).regs.getD 10 (0:Int),(vs.getD k.toNat default).regs.getD 11 (0:Int)=(vs.getD k.toNat default).regs.getD 11 (0:Int),(vs.getD k.toNat default).regs.getD 12 (0:Int)=(vs.getD k.toNat default).regs.getD 12 (0:Int),(vs.getD k.toNat default).regs.getD 13 (0:Int)=(vs.getD k.toNat default).regs.getD 13 (0:Int),(vs.getD k.toNat default).regs.getD 14 (0:Int)=(vs.getD k.toNat default).regs.getD 14 (0:Int),(vs.getD k.toNat default).regs.getD 15 (0:Int)=(vs.getD k.toNat default).regs.getD 15 (0:Int),(vs.getD k.toNat default).buf.length=(vs.getD k.toNat default).buf.length,∀ (i:Nat),i<(vs.getD k.toNat default).buf.length→((vs.getD k.toNat default).buf.getD i default).tc=((vs.getD k.toNat default).buf.getD i default).tc]) (hv:=(by simp only [Conj];(repeat' apply And.intro)<;>first | trivial | rfl | exact fun _ _=>rfl | (simp only [List.length_drop];omega) | (intro j hj;first | trivial | (rw [drop1_get]) | (split<;>simp_all))))
   rw [drain_none (mem:=mem) (pr:=pr) h1 h2]
   exact tRet [] [5] [∀ (i:Nat),i<vs.length→(vs.getD i default).tc=if i=k.toNat then (vs.getD k.toNat default).tc else (vs.getD i default).tc] (by simp only [Conj];(repeat' apply And.intro)<;>first | trivial | rfl | exact List.length_set | exact set_ints _ _ _ | exact fun _ _=>rfl | (intro j hj;first | exact set_tc default VCo.tc vs k.toNat _ j hj | (split<;>simp_all)))
  ·rw [drain_one (mem:=mem) (pr:=pr) h1 h2]
   refine tWk (St.mk 71 [En.mk 28 [] (SV.c (C.t false)),En.mk 27 [] (SV.c (C.i .i64 (↑(vs.getD k.toNat default).buf.length:Int))),En.mk 26 [] (SV.c (C.h 6)),En.mk 25 [] (SV.c (C.e 2 19 k.toNat 18)),En.mk 24 [] (SV.c (C.e 2 19 k.toNat 0)),En.mk 23 [] (SV.c (C.e 2 19 k.toNat 0)),En.mk 7 [] (SV.c (C.e 2 19 k.toNat 0)),En.mk 22 [] (SV.c (C.e 2 19 k.toNat 0)),En.mk 21 [] (SV.c (C.i .i64 k)),En.mk 20 [] (SV.c (C.h 2)),En.mk 19 [] (SV.c (C.p 0 5)),En.mk 18 [] (SV.c (C.p 0 0)),En.mk 17 [] (SV.c (C.p 0 0)),En.mk 5 [] (SV.c (C.i .i64 0)),En.mk 4 [] (SV.c (C.p 5 0)),En.mk 0 [] (SV.c (C.p 0 0)),En.mk 1 [] (SV.c (C.i .i64 k))] [Reg.box 138 [C.v (Value.slice none 0 0),C.i .i64 sh,C.i .i64 lk,C.i .i64 bu,C.h 1,C.h 2,C.h 3,C.h 4],Reg.row 2 cs.length (fun i=>(cs.getD i default).tc) none,Reg.own 141 19 vs.length (fun i=>(vs.getD i default).tc) (some (k.toNat,[C.i .i64 (vs.getD k.toNat default).pos,C.b (vs.getD k.toNat default).halted,C.i .i64 ((vs.getD k.toNat default).regs.getD 0 (0:Int)),C.i .i64 ((vs.getD k.toNat default).regs.getD 1 (0:Int)),C.i .i64 ((vs.getD k.toNat default).regs.getD 2 (0:Int)),C.i .i64 ((vs.getD k.toNat default).regs.getD 3 (0:Int)),C.i .i64 ((vs.getD k.toNat default).regs.getD 4 (0:Int)),C.i .i64 ((vs.getD k.toNat default).regs.getD 5 (0:Int)),C.i .i64 ((vs.getD k.toNat default).regs.getD 6 (0:Int)),C.i .i64 ((vs.getD k.toNat default).regs.getD 7 (0:Int)),C.i .i64 ((vs.getD k.toNat default).regs.getD 8 (0:Int)),C.i .i64 ((vs.getD k.toNat default).regs.getD 9 (0:Int)),C.i .i64 ((vs.getD k.toNat default).regs.getD 10 (0:Int)),C.i .i64 ((vs.getD k.toNat default).regs.getD 11 (0:Int)),C.i .i64 ((vs.getD k.toNat default).regs.getD 12 (0:Int)),C.i .i64 ((vs.getD k.toNat default).regs.getD 13 (0:Int)),C.i .i64 ((vs.getD k.toNat default).regs.getD 14 (0:Int)),C.i .i64 ((vs.getD k.toNat default).regs.getD 15 (0:Int)),C.h 6])),Reg.own 2 1 mem.length (fun i=>i64T (mem.getD i (0:Int))) none,Reg.own 81 2 pr.length (fun i=>(pr.getD i default).tc) none,Reg.box 66 [C.i .u8 0,C.i .i64 0,C.i .i64 0,C.i .i64 0,C.i .i64 0,C.i .i64 0,C.t false],Reg.row 3 (vs.getD k.toNat default).buf.length (fun i=>((vs.getD k.toNat default).buf.getD i default).tc) none] []) ?_
   exact tRetF [(2,(VCo.tc { vs.getD k.toNat default with buf:=(vs.getD k.toNat default).buf.drop 1 }))] [] [4,5,6,7] [(vs.set k.toNat (z48_1 vs k)).length=vs.length,∀ (i:Nat),i<(vs.set k.toNat (z48_1 vs k)).length→((vs.set k.toNat (z48_1 vs k)).getD i default).tc=if i=k.toNat then (z48_1 vs k).tc else (vs.getD i default).tc,(mem.set (z48_2 vs k).addr.toNat (z48_2 vs k).word).length=mem.length,∀ (i:Nat),i<(mem.set (z48_2 vs k).addr.toNat (z48_2 vs k).word).length→i64T ((mem.set (z48_2 vs k).addr.toNat (z48_2 vs k).word).getD i (0:Int))=updT (fun i=>i64T (mem.getD i (0:Int))) (z48_2 vs k).addr.toNat 0 [Value.int IntKind.i64 (z48_2 vs k).word] i] (by simp only [Conj];(repeat' apply And.intro)<;>first | trivial | rfl | exact List.length_set | exact set_ints _ _ _ | exact fun _ _=>rfl | (intro j hj;first | exact set_tc default VCo.tc vs k.toNat _ j hj | (split<;>simp_all))) (vc:=[k.toNat=k.toNat,(0:Int)≤(0:Int),(0:Int)<(↑(vs.getD k.toNat default).buf.length:Int),0<(vs.getD k.toNat default).buf.length,k.toNat=k.toNat,Fits IntKind.i64 ((↑(vs.getD k.toNat default).buf.length:Int)-(1:Int)),(0:Int)≤(↑(vs.getD k.toNat default).buf.length:Int)-(1:Int),(↑(vs.getD k.toNat default).buf.length:Int)-(1:Int)≤(↑(vs.getD k.toNat default).buf.length:Int)-(1:Int),((↑(vs.getD k.toNat default).buf.length:Int)-(1:Int)) * (24:Int)≤(140737488355328:Int),(↑(vs.getD k.toNat default).buf.length:Int)-(1:Int)≤(↑maxLen:Int),k.toNat=k.toNat,(0:Int)≤(1:Int),(1:Int)≤(↑(vs.getD k.toNat default).buf.length:Int),(↑(vs.getD k.toNat default).buf.length:Int)≤(↑(vs.getD k.toNat default).buf.length:Int),∀ (i j:Nat),i<(vs.getD k.toNat default).buf.length-1→j<3→flatT (((vs.getD k.toNat default).buf.getD (1+i) default).tc j),(vs.getD k.toNat default).buf.length-1=((↑(vs.getD k.toNat default).buf.length:Int)-(1:Int)).toNat,k.toNat=k.toNat,(0:Int)≤((vs.getD k.toNat default).buf.getD 0 default).addr,((vs.getD k.toNat default).buf.getD 0 default).addr<(↑mem.length:Int),((vs.getD k.toNat default).buf.getD 0 default).addr.toNat<mem.length]) (hv:=(by simp only [Conj,Fits,i64_min,i64_max,u8_min,u8_max,News.len,maxLen]<;>(repeat' (first | apply And.intro | intro _))<;>first | (exact Sto.flat _ _ (by assumption)) | grind | (simp only [BL] at *;omega))) (vc2:=[(vs.getD k.toNat default).pos=(vs.getD k.toNat default).pos,(vs.getD k.toNat default).halted=(vs.getD k.toNat default).halted,(vs.getD k.toNat default).regs.getD 0 (0:Int)=(vs.getD k.toNat default).regs.getD 0 (0:Int),(vs.getD k.toNat default).regs.getD 1 (0:Int)=(vs.getD k.toNat default).regs.getD 1 (0:Int),(vs.getD k.toNat default).regs.getD 2 (0:Int)=(vs.getD k.toNat default).regs.getD 2 (0:Int),(vs.getD k.toNat default).regs.getD 3 (0:Int)=(vs.getD k.toNat default).regs.getD 3 (0:Int),(vs.getD k.toNat default).regs.getD 4 (0:Int)=(vs.getD k.toNat default).regs.getD 4 (0:Int),(vs.getD k.toNat default).regs.getD 5 (0:Int)=(vs.getD k.toNat default).regs.getD 5 (0:Int),(vs.getD k.toNat default).regs.getD 6 (0:Int)=(vs.getD k.toNat default).regs.getD 6 (0:Int),(vs.getD k.toNat default).regs.getD 7 (0:Int)=(vs.getD k.toNat default).regs.getD 7 (0:Int),(vs.getD k.toNat default).regs.getD 8 (0:Int)=(vs.getD k.toNat default).regs.getD 8 (0:Int),(vs.getD k.toNat default).regs.getD 9 (0:Int)=(vs.getD k.toNat default).regs.getD 9 (0:Int),(vs.getD k.toNat default).regs.getD 10 (0:Int)=(vs.getD k.toNat default).regs.getD 10 (0:Int),(vs.getD k.toNat default).regs.getD 11 (0:Int)=(vs.getD k.toNat default).regs.getD 11 (0:Int),(vs.getD k.toNat default).regs.getD 12 (0:Int)=(vs.getD k.toNat default).regs.getD 12 (0:Int),(vs.getD k.toNat default).regs.getD 13 (0:Int)=(vs.getD k.toNat default).regs.getD 13 (0:Int),(vs.getD k.toNat default).regs.getD 14 (0:Int)=(vs.getD k.toNat default).regs.getD 14 (0:Int),(vs.getD k.toNat default).regs.getD 15 (0:Int)=(vs.getD k.toNat default).regs.getD 15 (0:Int),(List.drop 1 (vs.getD k.toNat default).buf).length=((↑(vs.getD k.toNat default).buf.length:Int)-(1:Int)).toNat,∀ (i:Nat),i<(List.drop 1 (vs.getD k.toNat default).buf).length→((List.drop 1 (vs.getD k.toNat default).buf).getD i default).tc=((vs.getD k.toNat default).buf.getD (1+i) default).tc]) (hv2:=(by simp only [Conj];(repeat' apply And.intro)<;>first | trivial | rfl | exact fun _ _=>rfl | (simp only [List.length_drop];omega) | (intro j hj;first | trivial | (rw [drop1_get]) | (split<;>simp_all))))
end Go.Proofs.Ytmjjikcappbkeaa
end
noncomputable section
namespace Go.Proofs.Ytmjjikcappbkeaa
open Go Go.Tx
theorem c_step (sh lk bu:Int) (cs:List Cor) (vs:List VCo) (mem:List Int) (pr:List Prt) (s:Stp) (hw:MacOk bu cs vs mem) (hp:pr.length≤1048576):Ctr Try.prog 20 [Reg.box 138 (vmC sh lk bu 1 2 3 4),Cor.rowR cs,VCo.ownR vs,WordOwn mem,Prt.ownR pr] [.c (.p 0 0),.agg [.i .u8 s.kind,.i .i64 s.core]]
 (Det (.tup [(true,(stepV bu cs s vs mem pr).did.cs),(false,[.i .i64 (stepV bu cs s vs mem pr).err])]) [Reg.box 138 (vmC sh lk bu 1 2 3 5),.dead,VCo.ownR (stepV bu cs s vs mem pr).vs,WordOwn (stepV bu cs s vs mem pr).mem,.dead,Prt.ownR (stepV bu cs s vs mem pr).pr]):=by
 refine Ctr.intro [] Try.func20 K K ?_
 refine tCond (decide (s.kind=(1:Int))) (fun h1=>?_) (fun h1=>?_)
 ·rw [step_run (bu:=bu) (cs:=cs) (mem:=mem) (pr:=pr) (vs:=vs) h1]
  refine tz [5,4,3,0] ?_
  refine tCall e_vm_Machine_Run (c_run (sh:=sh) (lk:=lk) (bu:=bu) (cs:=cs) (vs:=vs) (mem:=mem) (pr:=pr) (k:=s.core) (hi0:=by first | assumption | exact hw.ins | exact hw.buf16 | exact hw.len | exact hw.pos | exact hw.cod | exact hw.sto0 | exact hw.buf16 _ | omega) (hb:=by first | assumption | exact hw.ins | exact hw.buf16 | exact hw.len | exact hw.pos | exact hw.cod | exact hw.sto0 | exact hw.buf16 _ | omega) (hp:=by first | assumption | exact hw.ins | exact hw.buf16 | exact hw.len | exact hw.pos | exact hw.cod | exact hw.sto0 | exact hw.buf16 _ | omega) (hc:=by first | assumption | exact hw.ins | exact hw.buf16 | exact hw.len | exact hw.pos | exact hw.cod | exact hw.sto0 | exact hw.buf16 _ | omega) (hpos:=by first | assumption | exact hw.ins | exact hw.buf16 | exact hw.len | exact hw.pos | exact hw.cod | exact hw.sto0 | exact hw.buf16 _ | omega) (hcl:=by first | assumption | exact hw.ins | exact hw.buf16 | exact hw.len | exact hw.pos | exact hw.cod | exact hw.sto0 | exact hw.buf16 _ | omega)) [] ?_
  exact tRet [0,1,2,3,4,7]
 ·refine tz [10,5,4,3,0] ?_
  refine tCond (decide (s.kind=(2:Int))) (fun h2=>?_) (fun h2=>?_)
  ·rw [step_drain (bu:=bu) (cs:=cs) (mem:=mem) (pr:=pr) (vs:=vs) h1 h2]
   refine tz [5,4,3,0] ?_
   refine tCall e_vm_Machine_Drain (c_drain (sh:=sh) (lk:=lk) (bu:=bu) (cs:=cs) (vs:=vs) (mem:=mem) (pr:=pr) (k:=s.core) (hm:=by first | assumption | exact hw.ins | exact hw.buf16 | exact hw.len | exact hw.pos | exact hw.cod | exact hw.sto0 | exact hw.buf16 _ | omega) (hb:=by first | assumption | exact hw.ins | exact hw.buf16 | exact hw.len | exact hw.pos | exact hw.cod | exact hw.sto0 | exact hw.buf16 _ | omega)) [] ?_
   exact tRet [0,1,2,3,4,4]
  ·rw [step_none (bu:=bu) (cs:=cs) (mem:=mem) (pr:=pr) (vs:=vs) h1 h2]
   exact tRet [0,1,2,3,4,4]
theorem c_view (sh lk bu:Int) (cs:List Cor) (vs:List VCo) (mem:List Int) (pr:List Prt) (k:Int) (hb:∀ j:Nat,(vs.getD j default).buf.length≤16) (hg:∀ j:Nat,j<vs.length→(vs.getD j default).regs.length=16):Ctr Try.prog 21 [Reg.ro (vmC sh lk bu 1 2 3 4),Cor.rowR cs,VCo.rowR vs,WordRow mem,Prt.rowR pr] [.c (.p 0 0),.c (.i .i64 k)]
 (Det (.tup [(true,viewC vs k 5),(false,[.i .i64 (vmHas vs.length k)])]) [.dead,.dead,.dead,.dead,.dead,Sto.ownR (viewB vs k)]):=by
 refine Ctr.intro [] Try.func21 K K ?_
 refine tCall e_vm_Machine_has (c_has (sh:=sh) (lk:=lk) (bu:=bu) (cs:=cs) (vs:=vs) (mem:=mem) (pr:=pr) (k:=k)) [] ?_
 refine tz [10,5,4,0,1] ?_
 refine tCond (!decide (vmHas vs.length k=(0:Int))) (fun h1=>?_) (fun h1=>?_)
 ·rw [view_no h1]
  rw [view_noC (r:=5) h1]
  exact tRet [0,1,2,3,4,1000005] [0,3,4,5,6,7,8,9,10,11,12,13,14,15,16,17,18] [(0:Nat)=0,[].getD 0 (0:Int)=(0:Int),[].getD 1 (0:Int)=(0:Int),[].getD 2 (0:Int)=(0:Int),[].getD 3 (0:Int)=(0:Int),[].getD 4 (0:Int)=(0:Int),[].getD 5 (0:Int)=(0:Int),[].getD 6 (0:Int)=(0:Int),[].getD 7 (0:Int)=(0:Int),[].getD 8 (0:Int)=(0:Int),[].getD 9 (0:Int)=(0:Int),[].getD 10 (0:Int)=(0:Int),[].getD 11 (0:Int)=(0:Int),[].getD 12 (0:Int)=(0:Int),[].getD 13 (0:Int)=(0:Int),[].getD 14 (0:Int)=(0:Int),[].getD 15 (0:Int)=(0:Int)] (by simp only [Conj] at *<;>grind)
 ·have hk:0≤k∧k<vs.length:=has_in h1
  have hz:vmHas vs.length k=0:=by simpa using h1
  rw [hz]
  rw [view_yes h1]
  rw [view_yesC (r:=5) h1]
  refine tFoc 2 (k.toNat) ?_ (vc:=[k.toNat<vs.length]) (hv:=(by simp only [Conj,Fits,i64_min,i64_max,u8_min,u8_max,News.len,maxLen]<;>(repeat' (first | apply And.intro | intro _))<;>first | grind | (simp only [BL] at *;omega)))
  refine tz [5,4,0,1] ?_
  refine tCall e_slices_Clone_Store (c_clone_sto (l:=(vs.getD k.toNat default).buf) (hl:=by have:=hb k.toNat;omega)) [6] ?_ (vc:=[(0:Int)≤k,k<(↑vs.length:Int),k.toNat=k.toNat]) (hv:=(by simp only [Conj,Fits,i64_min,i64_max,u8_min,u8_max,News.len,maxLen]<;>(repeat' (first | apply And.intro | intro _))<;>first | grind | (simp only [BL] at *;omega)))
  exact tRet [0,1,2,3,4,8]
end Go.Proofs.Ytmjjikcappbkeaa
end
noncomputable section
namespace Go.Proofs.Ytmjjikcappbkeaa
open Go Go.Tx
theorem c_word (s:ByteArray):Ctr Try.prog 112 [] [.c (.v (.string s))]
 (Det (.c (.b (wordB s))) []):=by
 refine Ctr.intro [] Try.func112 K K ?_
 refine tCond (decide (s={ data:=#[115,104,97,114,101,100] })) (fun h1=>?_) (fun h1=>?_)
 ·exact tRet [] [0] [wordB s=true] (by simp only [Conj,wordB] at *<;>grind)
 ·refine tz [4,3,2] ?_
  refine tCond (decide (s={ data:=#[108,111,99,107] })) (fun h2=>?_) (fun h2=>?_)
  ·exact tRet [] [0] [wordB s=true] (by simp only [Conj,wordB] at *<;>grind)
  ·refine tz [4,3,2] ?_
   refine tCond (decide (s={ data:=#[116,104,114,101,97,100] })) (fun h3=>?_) (fun h3=>?_)
   ·exact tRet [] [0] [wordB s=true] (by simp only [Conj,wordB] at *<;>grind)
   ·refine tz [4,3,2] ?_
    refine tCond (decide (s={ data:=#[108,111,99,97,108] })) (fun h4=>?_) (fun h4=>?_)
    ·exact tRet [] [0] [wordB s=true] (by simp only [Conj,wordB] at *<;>grind)
    ·refine tz [4,3,2] ?_
     refine tCond (decide (s={ data:=#[105,102] })) (fun h5=>?_) (fun h5=>?_)
     ·exact tRet [] [0] [wordB s=true] (by simp only [Conj,wordB] at *<;>grind)
     ·refine tz [4,3,2] ?_
      refine tCond (decide (s={ data:=#[101,108,115,101] })) (fun h6=>?_) (fun h6=>?_)
      ·exact tRet [] [0] [wordB s=true] (by simp only [Conj,wordB] at *<;>grind)
      ·refine tz [4,3,2] ?_
       refine tCond (decide (s={ data:=#[119,104,105,108,101] })) (fun h7=>?_) (fun h7=>?_)
       ·exact tRet [] [0] [wordB s=true] (by simp only [Conj,wordB] at *<;>grind)
       ·refine tz [4,3,2] ?_
        refine tCond (decide (s={ data:=#[112,114,105,110,116] })) (fun h8=>?_) (fun h8=>?_)
        ·exact tRet [] [0] [wordB s=true] (by simp only [Conj,wordB] at *<;>grind)
        ·refine tz [4,3,2] ?_
         refine tCond (decide (s={ data:=#[115,107,105,112] })) (fun h9=>?_) (fun h9=>?_)
         ·exact tRet [] [0] [wordB s=true] (by simp only [Conj,wordB] at *<;>grind)
         ·refine tz [4,3,2] ?_
          refine tCond (decide (s={ data:=#[115,119,97,112] })) (fun h10=>?_) (fun h10=>?_)
          ·exact tRet [] [0] [wordB s=true] (by simp only [Conj,wordB] at *<;>grind)
          ·exact tRet [] [0] [wordB s=false] (by simp only [Conj,wordB] at *<;>grind)
end Go.Proofs.Ytmjjikcappbkeaa
end
noncomputable section
namespace Go.Proofs.Ytmjjikcappbkeaa
open Go Go.Tx
def L2_I (s:ByteArray):Int→St:=fun i=>{ N:=38,fr:=[{ slot:=22,g:=[],sv:=SV.c (C.i IntKind.i64 i) },{ slot:=21,g:=[],sv:=SV.c (C.i IntKind.i64 s.size) },{ slot:=20,g:=[],sv:=SV.c (C.v (Value.string s)) },{ slot:=2,g:=[],sv:=SV.c (C.t false) },{ slot:=0,g:=[],sv:=SV.c (C.v (Value.string s)) }],rg:=[] }
def L2_J (s:ByteArray):Int→Prop:=fun i=>0≤i∧i≤(s.size:Int)∧restB s 0=restB s i
def L2_m (s:ByteArray):Int→Nat:=fun i=>((s.size:Int)-i).toNat
def L2 (s:ByteArray):Lp (Int):=⟨L2_I s,L2_J s,L2_m s⟩
theorem c_name (s:ByteArray):Ctr Try.prog 69 [] [.c (.v (.string s))]
 (Det (.c (.b (nameB s))) []):=by
 have h0:s.size=0→s={ data:=#[] }:=(fun h=>by cases s;simp_all [ByteArray.size])
 have h00:s={ data:=#[] }→s.size=0:=(fun h=>by rw [h];rfl)
 refine Ctr.intro [] Try.func69 K K ?_
 refine tG e_lexer_digit (c_digit (k:=(↑(s.data.toList.getD (Int.toNat (0:Int)) (0:UInt8)).toNat:Int))) [] ?_ (vc:=[(decide (s={ data:=#[] })||decide ((32:Int)<(↑s.size:Int)))=false→(0:Int)≤(0:Int),(decide (s={ data:=#[] })||decide ((32:Int)<(↑s.size:Int)))=false→(0:Int)<(↑s.size:Int)]) (hv:=(by simp only [Conj,Fits,i64_min,i64_max,u8_min,u8_max];grind))
 refine tz [14,11,2,0] ?_
 refine tG e_lexer_Word (c_word (s:=s)) [] ?_
 refine tz [18,16,2,0] ?_
 refine tCond (decide (s={ data:=#[] })||decide ((32:Int)<(↑s.size:Int))||digitB (↑(s.data.toList.getD (Int.toNat (0:Int)) (0:UInt8)).toNat:Int)||wordB s) (fun h1=>?_) (fun h1=>?_)
 ·exact tRet [] [0] [nameB s=false] (by simp only [Conj,nameB,byteAt,Int.toNat_zero] at *<;>first | grind | (have hs:=restB_step s x2_0 hA (by grind);simp only [byteAt] at *;grind) | (have he:=restB_end s x2_0 (by grind);grind))
 ·refine tz [2,0] ?_
  refine tLoop (L2 s) ((0:Int)) ⟨Int.le_refl _,by omega,rfl⟩ ?_
  rintro x2_0 hJ2
  obtain ⟨hA,hB,hC⟩:=hJ2
  refine tz [22,21,20,2,0] ?_
  refine tCond (decide (x2_0<(↑s.size:Int))) (fun h3=>?_) (fun h3=>?_)
  ·refine tz [22,21,20,2,0] ?_
   refine tCall e_lexer_letter (c_letter (k:=(↑(s.data.toList.getD x2_0.toNat (0:UInt8)).toNat:Int))) [] ?_ (vc:=[(0:Int)≤x2_0,x2_0<(↑s.size:Int)]) (hv:=(by simp only [Conj,Fits,i64_min,i64_max,u8_min,u8_max];grind))
   refine tz [28,3,22,21,20,2,0] ?_
   refine tG e_lexer_digit (c_digit (k:=(↑(s.data.toList.getD x2_0.toNat (0:UInt8)).toNat:Int))) [] ?_ (vc:=[(!letterB (↑(s.data.toList.getD x2_0.toNat (0:UInt8)).toNat:Int))=true→(0:Int)≤x2_0,(!letterB (↑(s.data.toList.getD x2_0.toNat (0:UInt8)).toNat:Int))=true→x2_0<(↑s.size:Int)]) (hv:=(by simp only [Conj,Fits,i64_min,i64_max,u8_min,u8_max];grind))
   refine tz [34,30,22,21,20,2,0] ?_
   refine tCond (!letterB (↑(s.data.toList.getD x2_0.toNat (0:UInt8)).toNat:Int)&&!digitB (↑(s.data.toList.getD x2_0.toNat (0:UInt8)).toNat:Int)) (fun h4=>?_) (fun h4=>?_)
   ·exact tRet [] [0] [nameB s=false] (by simp only [Conj,nameB,byteAt,Int.toNat_zero] at *<;>first | grind | (have hs:=restB_step s x2_0 hA (by grind);simp only [byteAt] at *;grind) | (have he:=restB_end s x2_0 (by grind);grind))
   ·exact tNext (L2 s) x2_0 (x2_0+(1:Int)) (by simp only [L2,L2_m];grind) (by have hs:=restB_step s x2_0 hA (by grind);simp only [byteAt,L2,L2_J] at *;grind) (vc:=[Fits IntKind.i64 (x2_0+(1:Int))]) (hv:=(by simp only [Conj,Fits,i64_min,i64_max,u8_min,u8_max];grind))
  ·exact tRet [] [0] [nameB s=true] (by simp only [Conj,nameB,byteAt,Int.toNat_zero] at *<;>first | grind | (have hs:=restB_step s x2_0 hA (by grind);simp only [byteAt] at *;grind) | (have he:=restB_end s x2_0 (by grind);grind))
end Go.Proofs.Ytmjjikcappbkeaa
end
noncomputable section
namespace Go.Proofs.Ytmjjikcappbkeaa
open Go Go.Tx
theorem c_operator (op:Int) (ho:0≤op∧op≤255):Ctr Try.prog 97 [] [.c (.i .u8 op)]
 (Det (.c (.v (.string (opStr op)))) []):=by
 refine Ctr.intro [] Try.func97 K K ?_
 refine tCond (decide ((19:Int)≤op)) (fun h1=>?_) (fun h1=>?_) (vc:=[Fits IntKind.i64 op]) (hv:=(by simp only [Conj,Fits,i64_min,i64_max,u8_min,u8_max];grind))
 ·exact tRet [] [0] [Value.string (opStr op)=Value.string { data:=#[] }] (by simp only [Conj,opStr,formW,formU,formOk] at *;(try simp only [h1]);(repeat' apply And.intro)<;>first | rfl | simp)
 ·exact tRet [] [0] [Value.string (opStr op)=Value.string ([{ data:=#[] },{ data:=#[(97:UInt8),(100:UInt8),(100:UInt8)] },{ data:=#[(115:UInt8),(117:UInt8),(98:UInt8)] },{ data:=#[(109:UInt8),(117:UInt8),(108:UInt8)] },{ data:=#[(100:UInt8),(105:UInt8),(118:UInt8)] },{ data:=#[(114:UInt8),(101:UInt8),(109:UInt8)] },{ data:=#[(97:UInt8),(110:UInt8),(100:UInt8)] },{ data:=#[(111:UInt8),(114:UInt8)] },{ data:=#[(120:UInt8),(111:UInt8),(114:UInt8)] },{ data:=#[(115:UInt8),(104:UInt8),(108:UInt8)] },{ data:=#[(115:UInt8),(104:UInt8),(114:UInt8)] },{ data:=#[(105:UInt8),(115:UInt8)] },{ data:=#[(105:UInt8),(115:UInt8),(110:UInt8),(111:UInt8),(116:UInt8)] },{ data:=#[(108:UInt8),(101:UInt8),(115:UInt8),(115:UInt8)] },{ data:=#[(109:UInt8),(111:UInt8),(115:UInt8),(116:UInt8)] },{ data:=#[(97:UInt8),(98:UInt8),(111:UInt8),(118:UInt8),(101:UInt8)] },{ data:=#[(108:UInt8),(101:UInt8),(97:UInt8),(115:UInt8),(116:UInt8)] },{ data:=#[(109:UInt8),(105:UInt8),(110:UInt8),(117:UInt8),(115:UInt8)] },{ data:=#[(110:UInt8),(111:UInt8),(116:UInt8)] }].getD op.toNat { data:=#[] })] (by simp only [Conj,opStr,formW,formU,formOk] at *;(try simp only [h1]);(repeat' apply And.intro)<;>first | rfl | simp) (vc:=[(0:Int)≤op,op<(19:Int),op.toNat<19]) (hv:=(by simp only [Conj,Fits,i64_min,i64_max,u8_min,u8_max];grind))
theorem c_forms (k:Int) (ho:0≤k∧k≤255):Ctr Try.prog 125 [] [.c (.i .u8 k)]
 (Det (.tup [(true,[.v (.string (formW k)),.i .u8 (formU k 0),.i .u8 (formU k 1),.i .u8 (formU k 2),.i .u8 (formU k 3)]),(false,[.b (formOk k)])]) []):=by
 refine Ctr.intro [] Try.func125 K K ?_
 refine tCond (decide (k=(0:Int))||decide ((11:Int)≤k)) (fun h1=>?_) (fun h1=>?_) (vc:=[decide (k=(0:Int))=false→Fits IntKind.i64 k]) (hv:=(by simp only [Conj,Fits,i64_min,i64_max,u8_min,u8_max];grind))
 ·exact tRet [] [0,1,2,3,4,5] [Value.string (formW k)=Value.string { data:=#[] },formU k 0=(0:Int),formU k 1=(0:Int),formU k 2=(0:Int),formU k 3=(0:Int),formOk k=false] (by simp only [Conj,opStr,formW,formU,formOk] at *;(try simp only [h1]);(repeat' apply And.intro)<;>first | rfl | simp)
 ·exact tRet [] [0,1,2,3,4,5] [Value.string (formW k)=Value.string ([{ data:=#[] },{ data:=#[(115:UInt8),(101:UInt8),(116:UInt8)] },{ data:=#[] },{ data:=#[(108:UInt8),(111:UInt8),(97:UInt8),(100:UInt8)] },{ data:=#[(115:UInt8),(116:UInt8),(111:UInt8),(114:UInt8),(101:UInt8)] },{ data:=#[(115:UInt8),(119:UInt8),(97:UInt8),(112:UInt8)] },{ data:=#[(102:UInt8),(101:UInt8),(110:UInt8),(99:UInt8),(101:UInt8)] },{ data:=#[(112:UInt8),(114:UInt8),(105:UInt8),(110:UInt8),(116:UInt8)] },{ data:=#[(106:UInt8),(117:UInt8),(109:UInt8),(112:UInt8)] },{ data:=#[(122:UInt8),(101:UInt8),(114:UInt8),(111:UInt8)] },{ data:=#[(104:UInt8),(97:UInt8),(108:UInt8),(116:UInt8)] }].getD k.toNat { data:=#[] }),formU k 0=[(0:Int),(2:Int),(1:Int),(2:Int),(4:Int),(2:Int),(0:Int),(4:Int),(32:Int),(4:Int),(0:Int)].getD k.toNat (0:Int),formU k 1=[(0:Int),(64:Int),(2:Int),(16:Int),(16:Int),(16:Int),(0:Int),(0:Int),(0:Int),(32:Int),(0:Int)].getD k.toNat (0:Int),formU k 2=[(0:Int),(0:Int),(4:Int),(0:Int),(0:Int),(0:Int),(0:Int),(0:Int),(0:Int),(0:Int),(0:Int)].getD k.toNat (0:Int),formU k 3=[(0:Int),(0:Int),(8:Int),(0:Int),(0:Int),(0:Int),(0:Int),(0:Int),(0:Int),(0:Int),(0:Int)].getD k.toNat (0:Int),formOk k=true] (by simp only [Conj,opStr,formW,formU,formOk] at *;(try simp only [h1]);(repeat' apply And.intro)<;>first | rfl | simp) (vc:=[(0:Int)≤k,k<(11:Int),k.toNat<11]) (hv:=(by simp only [Conj,Fits,i64_min,i64_max,u8_min,u8_max];grind))
theorem c_used (i:Ins) (hk:0≤i.kind∧i.kind≤255):Ctr Try.prog 95 [] [.agg i.cs]
 (Det (.tup [(false,[.i .u8 (usedI i.kind i.op)]),(false,[.b (formOk i.kind)])]) []):=by
 refine Ctr.intro [] Try.func95 K K ?_
 refine tCall e_target_forms (c_forms (k:=i.kind) (ho:=by first | assumption | omega)) [] ?_
 refine tz [12,3,2,1] ?_
 refine RunF.unroll (vc:=[]) 5 K trivial ?_
 refine tz [17,16,6,5,3,2,1] ?_
 refine tCond (decide ((0:Int)<(4:Int))) (fun h1=>?_) (fun h1=>?_)
 ·refine tz [18,17,16,6,5,3,2,1] ?_
  refine tCond (decide ((1:Int)<(4:Int))) (fun h2=>?_) (fun h2=>?_) (vc:=[0<4,(0:Int)≤(0:Int),(0:Int)<(4:Int),Fits IntKind.i64 (1:Int)]) (hv:=(by simp only [Conj,Fits,i64_min,i64_max,u8_min,u8_max];grind))
  ·refine tz [18,17,6,8,16,5,3,2,1] ?_
   refine tCond (decide ((2:Int)<(4:Int))) (fun h3=>?_) (fun h3=>?_) (vc:=[1<4,(0:Int)≤(1:Int),(1:Int)<(4:Int),Fits IntKind.i64 (2:Int)]) (hv:=(by simp only [Conj,Fits,i64_min,i64_max,u8_min,u8_max];grind))
   ·refine tz [18,17,6,8,16,5,3,2,1] ?_
    refine tCond (decide ((3:Int)<(4:Int))) (fun h4=>?_) (fun h4=>?_) (vc:=[2<4,(0:Int)≤(2:Int),(2:Int)<(4:Int),Fits IntKind.i64 (3:Int)]) (hv:=(by simp only [Conj,Fits,i64_min,i64_max,u8_min,u8_max];grind))
    ·refine tz [18,17,6,8,16,5,3,2,1] ?_
     refine tCond (decide ((4:Int)<(4:Int))) (fun h5=>?_) (fun h5=>?_) (vc:=[3<4,(0:Int)≤(3:Int),(3:Int)<(4:Int),Fits IntKind.i64 (4:Int)]) (hv:=(by simp only [Conj,Fits,i64_min,i64_max,u8_min,u8_max];grind))
     ·exact absurd h5 (by decide)
     ·refine tz [18,17,6,8,16,5,3,2,1] ?_
      refine tG e_words_Two (c_two (k:=i.op)) [] ?_
      refine tz [30,27,6,5,3,2] ?_
      refine tCond (decide (i.kind=(2:Int))&&!twoB i.op) (fun h6=>?_) (fun h6=>?_)
      ·exact tRet [] [0] [usedI i.kind i.op=bits BinOp.andNot IntKind.u8 (bits BinOp.or IntKind.u8 (bits BinOp.or IntKind.u8 (bits BinOp.or IntKind.u8 (bits BinOp.or IntKind.u8 (0:Int) (formU i.kind 0)) (formU i.kind 1)) (formU i.kind 2)) (formU i.kind 3)) (8:Int)] (by simp only [Conj,usedI,usedAll] at *<;>grind)
      ·exact tRet [] [0] [usedI i.kind i.op=bits BinOp.or IntKind.u8 (bits BinOp.or IntKind.u8 (bits BinOp.or IntKind.u8 (bits BinOp.or IntKind.u8 (0:Int) (formU i.kind 0)) (formU i.kind 1)) (formU i.kind 2)) (formU i.kind 3)] (by simp only [Conj,usedI,usedAll] at *<;>grind)
    ·exact absurd h4 (by decide)
   ·exact absurd h3 (by decide)
  ·exact absurd h2 (by decide)
 ·exact absurd h1 (by decide)
theorem c_within (all n u most:Int):Ctr Try.prog 96 [.ro [.i .u8 all]] [.c (.i .i64 n),.c (.i .u8 u),.c (.i .i64 most),.c (.p 0 0)]
 (Det (.c (.b (withinU all n u most))) [.dead]):=by
 refine Ctr.intro [] Try.func96 K K ?_
 exact tRet [] [0] [withinU all n u most=(decide (bits BinOp.and IntKind.u8 all u=(0:Int))&&decide (n=(0:Int))||!decide (bits BinOp.and IntKind.u8 all u=(0:Int))&&decide ((0:Int)≤n)&&decide (n<most))] (by simp only [Conj,withinU] at *<;>grind)
theorem c_insright (i:Ins) (code memory:Int) (hk:0≤i.kind∧i.kind≤255) (ho:0≤i.op∧i.op≤255):Ctr Try.prog 62 [] [.agg i.cs,.c (.i .i64 code),.c (.i .i64 memory)]
 (Det (.c (.b (insB i code memory))) []):=by
 refine Ctr.intro [] Try.func62 K K ?_
 refine tCall e_target_used (c_used (i:=i) (hk:=by first | assumption | omega)) [] ?_
 refine tz [13,6,3,1,2] ?_
 refine tCond (!formOk i.kind||decide (i.from_<(0:Int))||decide ((4096:Int)<i.from_)) (fun h1=>?_) (fun h1=>?_)
 ·exact tRet [] [0] [insB i code memory=false] (by first | exact right_law i code memory hk.1 ho.1 h1 | (simp only [Conj,insB,formOk] at *;grind))
 ·refine tz [7,6,3,1,2] ?_
  refine tG e_target_operator (c_operator (op:=i.op) (ho:=by first | assumption | omega)) [] ?_
  refine tz [44,41,37,9,7,6,3,1,2] ?_
  refine tG e_target_Right_1 (c_within (all:=usedI i.kind i.op) (n:=i.d) (u:=(2:Int)) (most:=(16:Int))) [1] ?_
  refine tz [53,49,9,7,6,3,1,2] ?_
  refine tG e_target_Right_1 (c_within (all:=usedI i.kind i.op) (n:=i.a) (u:=(4:Int)) (most:=(16:Int))) [1] ?_
  refine tz [59,55,9,7,6,3,1,2] ?_
  refine tG e_target_Right_1 (c_within (all:=usedI i.kind i.op) (n:=i.b) (u:=(8:Int)) (most:=(16:Int))) [1] ?_
  refine tz [65,61,9,7,6,3,1,2] ?_
  refine tG e_target_Right_1 (c_within (all:=usedI i.kind i.op) (n:=i.addr) (u:=(16:Int)) (most:=memory)) [1] ?_
  refine tz [72,67,9,7,6,3,1] ?_
  refine tG e_target_Right_1 (c_within (all:=usedI i.kind i.op) (n:=i.to) (u:=(32:Int)) (most:=code)) [1] ?_
  exact tRet [] [0] [insB i code memory=((decide (bits BinOp.and IntKind.u8 (usedI i.kind i.op) (1:Int)=(0:Int))&&decide (i.op=(0:Int))||!decide (bits BinOp.and IntKind.u8 (usedI i.kind i.op) (1:Int)=(0:Int))&&!decide (opStr i.op={ data:=#[] }))&&withinU (usedI i.kind i.op) i.d (2:Int) (16:Int)&&withinU (usedI i.kind i.op) i.a (4:Int) (16:Int)&&withinU (usedI i.kind i.op) i.b (8:Int) (16:Int)&&withinU (usedI i.kind i.op) i.addr (16:Int) memory&&withinU (usedI i.kind i.op) i.to (32:Int) code&&(!decide (bits BinOp.and IntKind.u8 (usedI i.kind i.op) (64:Int)=(0:Int))||decide (i.word=(0:Int))))] (by first | exact right_law i code memory hk.1 ho.1 h1 | (simp only [Conj,insB,formOk] at *;grind))
end Go.Proofs.Ytmjjikcappbkeaa
end
noncomputable section
namespace Go.Proofs.Ytmjjikcappbkeaa
open Go Go.Tx
end Go.Proofs.Ytmjjikcappbkeaa
end
noncomputable section
namespace Go.Proofs.Ytmjjikcappbkeaa
open Go Go.Tx
end Go.Proofs.Ytmjjikcappbkeaa
end
noncomputable section
namespace Go.Proofs.Ytmjjikcappbkeaa
open Go Go.Tx
theorem c_sameName (a b:ByteArray) (la lb:List Ins):Ctr Try.prog 93 [Ins.rowR la,Reg.ro [.v (.string b),.h 2],Ins.rowR lb] [.agg [.v (.string a),.h 0],.c (.p 1 0)]
 (Det (.c (.b (decide (a=b)))) [.dead,.dead,.dead]):=by
 refine Ctr.intro [] Try.func93 K K ?_
 exact tRet
def L72_0_I (cs:List Cor) (n:Nat) (b:ByteArray) (lb:List Ins):Int×Int→St:=fun x=>{ N:=19,fr:=[{ slot:=8,g:=[],sv:=SV.c (C.i .i64 x.1) },{ slot:=7,g:=[],sv:=SV.c (C.i .i64 (↑n:Int)) },{ slot:=4,g:=[],sv:=SV.c (C.i .i64 x.2) },{ slot:=0,g:=[],sv:=SV.c (C.h 0) },{ slot:=1,g:=[],sv:=SV.c (C.fn 93 false [1]) }],rg:=[Reg.row 2 n (fun i=>(cs.getD (0+i) default).tc) none,Reg.ro [C.v (Value.string b),C.h 2],Reg.row 9 lb.length (fun i=>(lb.getD i default).tc) none],wr:=[] }
def L72_0_J (cs:List Cor) (n:Nat) (b:ByteArray) (lb:List Ins):Int×Int→Prop:=fun x=>0≤x.1∧x.1≤(n:Int)∧findFrom (nDiff cs b) 0 n=findFrom (nDiff cs b) x.1 n
def L72_0_m (cs:List Cor) (n:Nat) (b:ByteArray) (lb:List Ins):Int×Int→Nat:=fun x=>((n:Int)-x.1).toNat
def L72_0 (cs:List Cor) (n:Nat) (b:ByteArray) (lb:List Ins):Lp (Int×Int):=⟨L72_0_I cs n b lb,L72_0_J cs n b lb,L72_0_m cs n b lb⟩
theorem c_indexName (cs:List Cor) (n:Nat) (b:ByteArray) (lb:List Ins):Ctr Try.prog 124 [Reg.row 2 n (fun i=>(cs.getD (0+i) default).tc) none,Reg.ro [.v (.string b),.h 2],Ins.rowR lb] [.c (.h 0),.c (.fn 93 false [1])]
 (Det (.c (.i .i64 (indexName cs n b))) [.dead,.dead,.dead]):=by
 refine Ctr.intro [] Try.func124 K K ?_
 refine RunF.lens 0 (m:=n) K (fun hlens_0=>?_)
 refine tLoop (L72_0 cs n b lb) (((0:Int),(0:Int))) (by dsimp only [L72_0,L72_0_J];grind) ?_
 rintro ⟨x1_0,x1_1⟩ hJ1
 dsimp only [L72_0,L72_0_J] at hJ1
 refine tz [8,7,4,0,1] ?_
 refine tCond (decide (x1_0<(↑n:Int))) (fun h2=>?_) (fun h2=>?_)
 ·refine tFoc 0 (x1_0.toNat) ?_ (vc:=[x1_0.toNat<n]) (hv:=(by simp only [Conj,Fits,i64_min,i64_max,u8_min,u8_max];(repeat' (first | apply And.intro | intro _))<;>first | grind | (simp only [BL] at *;omega)))
  refine tz [8,7,4,0,1] ?_
  refine tCall e_target_shaped_1 (c_sameName (a:=(cs.getD (0+x1_0.toNat) default).name) (b:=b) (la:=(cs.getD (0+x1_0.toNat) default).code) (lb:=lb)) [3,1,2] ?_ (vc:=[(0:Int)≤x1_0,x1_0<(↑n:Int),x1_0.toNat=x1_0.toNat]) (hv:=(by simp only [Conj,Fits,i64_min,i64_max,u8_min,u8_max];(repeat' (first | apply And.intro | intro _))<;>first | grind | (simp only [BL] at *;omega)))
  refine tz [16,5,8,7,4,0,1] ?_
  refine tCond (decide ((cs.getD (0+x1_0.toNat) default).name=b)) (fun h3=>?_) (fun h3=>?_)
  ·exact tRet [] [0] [indexName cs n b=x1_0] (by simp only [Conj,indexName];first | grind | (have he:=findFrom_end (nDiff cs b) (i:=x1_0) (n:=n) (by grind);grind) | (have hp:nDiff cs b x1_0=false:=(by simp only [nDiff,corAt];grind);have hs:=findFrom_stop (nDiff cs b) (n:=n) (by grind) hp;grind))
  ·exact tNext (L72_0 cs n b lb) (x1_0,x1_1) ((x1_0+(1:Int),x1_1)) (by dsimp only [L72_0,L72_0_m];(try simp only [decide_eq_true_eq] at *);omega) (by have hp:nDiff cs b x1_0=true:=(by simp only [nDiff,corAt];grind);have hs:=findFrom_next (nDiff cs b) (n:=n) (by grind) hp;dsimp only [L72_0,L72_0_J] at *;grind) (vc:=[Fits IntKind.i64 (x1_0+(1:Int))]) (hv:=(by simp only [Conj,Fits,i64_min,i64_max,u8_min,u8_max];(repeat' (first | apply And.intro | intro _))<;>first | grind | (simp only [BL] at *;omega)))
 ·exact tRet [] [0] [indexName cs n b=(-1:Int)] (by simp only [Conj,indexName];first | grind | (have he:=findFrom_end (nDiff cs b) (i:=x1_0) (n:=n) (by grind);grind) | (have hp:nDiff cs b x1_0=false:=(by simp only [nDiff,corAt];grind);have hs:=findFrom_stop (nDiff cs b) (n:=n) (by grind) hp;grind))
theorem c_containsName (cs:List Cor) (n:Nat) (b:ByteArray) (lb:List Ins):Ctr Try.prog 94 [Reg.row 2 n (fun i=>(cs.getD (0+i) default).tc) none,Reg.ro [.v (.string b),.h 2],Ins.rowR lb] [.c (.h 0),.c (.fn 93 false [1])]
 (Det (.c (.b (!decide (findFrom (nDiff cs b) 0 n=n)))) [.dead,.dead,.dead]):=by
 refine Ctr.intro [] Try.func94 K K ?_
 refine tCall e_slices_IndexFunc (c_indexName (cs:=cs) (n:=n) (b:=b) (lb:=lb)) [] ?_
 exact tRet [] [0] [(!decide (findFrom (nDiff cs b) (0:Int) (↑n:Int)=(↑n:Int)))=decide ((0:Int)≤indexName cs n b)] (by simp only [Conj,indexName];have hg:=findFrom_ge (nDiff cs b) (n:=n) _ 0 rfl (by omega);grind)
end Go.Proofs.Ytmjjikcappbkeaa
end
noncomputable section
namespace Go.Proofs.Ytmjjikcappbkeaa
open Go Go.Tx
theorem corB_prog (cs:List Cor) (x:Int) (h:0≤x):corB cs x=(nameB (cs.getD x.toNat default).name&&decide (findFrom (nDiff cs (cs.getD x.toNat default).name) 0 ((x.toNat-0:Nat):Int)=((x.toNat-0:Nat):Int)) &&
 decide (1≤((cs.getD x.toNat default).code.length:Int))&&decide (((cs.getD x.toNat default).code.length:Int)≤16384) &&
 (decide (((cs.getD x.toNat default).code.getD (((cs.getD x.toNat default).code.length:Int)-1).toNat default).kind=10)||decide (((cs.getD x.toNat default).code.getD (((cs.getD x.toNat default).code.length:Int)-1).toNat default).kind=8))):=by
 rw [findFrom_all _ _ 0 rfl (by omega)]
 rw [show ((x.toNat-0:Nat):Int)=x by omega]
 rfl
def L47_0_I (mem:List Int) (sh:Int) (lk:Int) (bu:Int) (cs:List Cor):Int×Bool→St:=fun x=>{ N:=105,fr:=[{ slot:=62,g:=[],sv:=SV.c (C.i .i64 x.1) },{ slot:=61,g:=[],sv:=SV.c (C.i .i64 (↑cs.length:Int)) },{ slot:=60,g:=[],sv:=SV.c (C.h 1) },{ slot:=2,g:=[],sv:=SV.c (C.b x.2) },{ slot:=1,g:=[],sv:=SV.c (C.p 2 0) }],rg:=[Reg.row 1 mem.length (fun i=>i64T (mem.getD i (0:Int))) none,Reg.row 2 cs.length (fun i=>(cs.getD i default).tc) none,Reg.box 48 [C.h 0,C.i .i64 sh,C.i .i64 lk,C.i .i64 bu,C.h 1]],wr:=[] }
def L47_0_J (mem:List Int) (sh:Int) (lk:Int) (bu:Int) (cs:List Cor):Int×Bool→Prop:=fun x=>0≤x.1∧x.1≤(cs.length:Int)∧allFrom (corB cs) 0 cs.length=allFrom (corB cs) x.1 cs.length
def L47_0_m (mem:List Int) (sh:Int) (lk:Int) (bu:Int) (cs:List Cor):Int×Bool→Nat:=fun x=>((cs.length:Int)-x.1).toNat
def L47_0 (mem:List Int) (sh:Int) (lk:Int) (bu:Int) (cs:List Cor):Lp (Int×Bool):=⟨L47_0_I mem sh lk bu cs,L47_0_J mem sh lk bu cs,L47_0_m mem sh lk bu cs⟩
theorem c_shaped (mem:List Int) (sh lk bu:Int) (cs:List Cor):Ctr Try.prog 61 [IntRow mem,Cor.rowR cs] [.agg [.h 0,.i .i64 sh,.i .i64 lk,.i .i64 bu,.h 1]]
 (Det (.c (.b (shapedB mem sh lk bu cs))) [.dead,.dead]):=by
 refine Ctr.intro [] Try.func61 K K ?_
 refine RunF.lens 1 (m:=cs.length) K (fun hlens_1=>?_)
 refine tCond (decide (sh<(0:Int))||decide ((64:Int)<sh)||decide (lk<(0:Int))||decide ((16:Int)<lk)||decide ((↑mem.length:Int)<sh+lk)||decide ((4096:Int)<(↑mem.length:Int))||decide (bu<(1:Int))||decide ((16:Int)<bu)||decide ((8:Int)<(↑cs.length:Int))) (fun h1=>?_) (fun h1=>?_) (vc:=[(decide (sh<(0:Int))||decide ((64:Int)<sh)||decide (lk<(0:Int))||decide ((16:Int)<lk))=false→Fits IntKind.i64 (sh+lk)]) (hv:=(by simp only [Conj,Fits,i64_min,i64_max,u8_min,u8_max];(repeat' (first | apply And.intro | intro _))<;>first | grind | (simp only [BL] at *;omega)))
 ·exact tRet [] [0] [shapedB mem sh lk bu cs=false] (by simp only [Conj,shapedB];first | grind | (have he:=allFrom_end (corB cs) (i:=x2_0) (n:=cs.length) (by grind);grind) | (have hp:corB cs x2_0=false:=(by rw [corB_prog cs x2_0 (by grind)];grind);have hs:=allFrom_stop (corB cs) (n:=cs.length) (by grind) hp;grind))
 ·refine tz [2,1] ?_
  refine tLoop (L47_0 mem sh lk bu cs) (((0:Int),false)) (by dsimp only [L47_0,L47_0_J];grind) ?_
  rintro ⟨x2_0,x2_1⟩ hJ2
  dsimp only [L47_0,L47_0_J] at hJ2
  refine tz [62,61,60,2,1] ?_
  refine tCond (decide (x2_0<(↑cs.length:Int))) (fun h3=>?_) (fun h3=>?_)
  ·refine tFoc 1 (x2_0.toNat) ?_ (vc:=[x2_0.toNat<cs.length]) (hv:=(by simp only [Conj,Fits,i64_min,i64_max,u8_min,u8_max];(repeat' (first | apply And.intro | intro _))<;>first | grind | (simp only [BL] at *;omega)))
   refine RunF.lens 3 (m:=(cs.getD x2_0.toNat default).code.length) K (fun hlenh3t_3=>?_)
   refine tz [62,61,60,2,1] ?_
   refine tCall e_lexer_Name (c_name (s:=(cs.getD x2_0.toNat default).name)) [] ?_ (vc:=[(0:Int)≤x2_0,x2_0<(↑cs.length:Int),x2_0.toNat=x2_0.toNat]) (hv:=(by simp only [Conj,Fits,i64_min,i64_max,u8_min,u8_max];(repeat' (first | apply And.intro | intro _))<;>first | grind | (simp only [BL] at *;omega)))
   refine tz [73,6,5,3,4,62,61,60,2,1] ?_
   refine tCond (!nameB (cs.getD x2_0.toNat default).name) (fun h4=>?_) (fun h4=>?_)
   ·exact tRet [] [0] [shapedB mem sh lk bu cs=false] (by simp only [Conj,shapedB];first | grind | (have he:=allFrom_end (corB cs) (i:=x2_0) (n:=cs.length) (by grind);grind) | (have hp:corB cs x2_0=false:=(by rw [corB_prog cs x2_0 (by grind)];grind);have hs:=allFrom_stop (corB cs) (n:=cs.length) (by grind) hp;grind))
   ·refine tz [78,77,75,6,5,4,62,61,60,2,1] ?_
    refine tCall e_slices_ContainsFunc (c_containsName (cs:=cs) (n:=x2_0.toNat-0) (b:=(cs.getD x2_0.toNat default).name) (lb:=(cs.getD x2_0.toNat default).code)) [5,4,3] ?_ (vc:=[(0:Int)≤(0:Int),(0:Int)≤x2_0,x2_0≤(↑cs.length:Int)]) (hv:=(by simp only [Conj,Fits,i64_min,i64_max,u8_min,u8_max];(repeat' (first | apply And.intro | intro _))<;>first | grind | (simp only [BL] at *;omega)))
    refine tz [81,75,6,4,62,61,60,2,1] ?_
    refine tCond (!decide (findFrom (nDiff cs (cs.getD x2_0.toNat default).name) (0:Int) (↑(x2_0.toNat-0):Int)=(↑(x2_0.toNat-0):Int))||decide ((↑(cs.getD x2_0.toNat default).code.length:Int)<(1:Int))||decide ((16384:Int)<(↑(cs.getD x2_0.toNat default).code.length:Int))) (fun h5=>?_) (fun h5=>?_)
    ·exact tRet [] [0] [shapedB mem sh lk bu cs=false] (by simp only [Conj,shapedB];first | grind | (have he:=allFrom_end (corB cs) (i:=x2_0) (n:=cs.length) (by grind);grind) | (have hp:corB cs x2_0=false:=(by rw [corB_prog cs x2_0 (by grind)];grind);have hs:=allFrom_stop (corB cs) (n:=cs.length) (by grind) hp;grind))
    ·refine tz [6,4,62,61,60,2,1] ?_
     refine tCond (!decide (((cs.getD x2_0.toNat default).code.getD ((↑(cs.getD x2_0.toNat default).code.length:Int)-(1:Int)).toNat default).kind=(10:Int))&&!decide (((cs.getD x2_0.toNat default).code.getD ((↑(cs.getD x2_0.toNat default).code.length:Int)-(1:Int)).toNat default).kind=(8:Int))) (fun h6=>?_) (fun h6=>?_) (vc:=[Fits IntKind.i64 ((↑(cs.getD x2_0.toNat default).code.length:Int)-(1:Int)),(0:Int)≤(↑(cs.getD x2_0.toNat default).code.length:Int)-(1:Int),(↑(cs.getD x2_0.toNat default).code.length:Int)-(1:Int)<(↑(cs.getD x2_0.toNat default).code.length:Int),((↑(cs.getD x2_0.toNat default).code.length:Int)-(1:Int)).toNat<(cs.getD x2_0.toNat default).code.length]) (hv:=(by simp only [Conj,Fits,i64_min,i64_max,u8_min,u8_max];(repeat' (first | apply And.intro | intro _))<;>first | grind | (simp only [BL] at *;omega)))
     ·exact tRet [] [0] [shapedB mem sh lk bu cs=false] (by simp only [Conj,shapedB];first | grind | (have he:=allFrom_end (corB cs) (i:=x2_0) (n:=cs.length) (by grind);grind) | (have hp:corB cs x2_0=false:=(by rw [corB_prog cs x2_0 (by grind)];grind);have hs:=allFrom_stop (corB cs) (n:=cs.length) (by grind) hp;grind))
     ·exact tNext (L47_0 mem sh lk bu cs) (x2_0,x2_1) ((x2_0+(1:Int),x2_1)) (by dsimp only [L47_0,L47_0_m];(try simp only [decide_eq_true_eq] at *);omega) (by have hp:corB cs x2_0=true:=(by rw [corB_prog cs x2_0 (by grind)];grind);have hs:=allFrom_next (corB cs) (n:=cs.length) (by grind) hp;dsimp only [L47_0,L47_0_J] at *;grind) (vc:=[Fits IntKind.i64 (x2_0+(1:Int))]) (hv:=(by simp only [Conj,Fits,i64_min,i64_max,u8_min,u8_max];(repeat' (first | apply And.intro | intro _))<;>first | grind | (simp only [BL] at *;omega)))
  ·exact tRet [] [0] [shapedB mem sh lk bu cs=true] (by simp only [Conj,shapedB];first | grind | (have he:=allFrom_end (corB cs) (i:=x2_0) (n:=cs.length) (by grind);grind) | (have hp:corB cs x2_0=false:=(by rw [corB_prog cs x2_0 (by grind)];grind);have hs:=allFrom_stop (corB cs) (n:=cs.length) (by grind) hp;grind))
end Go.Proofs.Ytmjjikcappbkeaa
end
noncomputable section
namespace Go.Proofs.Ytmjjikcappbkeaa
open Go Go.Tx
def L41_0_I (mem:List Int) (sh:Int) (lk:Int) (bu:Int) (cs:List Cor):Int×Int×Int×Int→St:=fun x=>{ N:=41,fr:=[{ slot:=15,g:=[],sv:=SV.c (C.i .i64 x.1) },{ slot:=14,g:=[],sv:=SV.c (C.i .i64 (↑cs.length:Int)) },{ slot:=13,g:=[],sv:=SV.c (C.h 1) },{ slot:=4,g:=[],sv:=SV.c (C.i .i64 x.2.1) },{ slot:=3,g:=[],sv:=SV.c (C.i .i64 x.2.2.1) },{ slot:=2,g:=[],sv:=SV.c (C.i .i64 x.2.2.2) },{ slot:=1,g:=[],sv:=SV.c (C.p 2 0) }],rg:=[Reg.row 1 mem.length (fun i=>i64T (mem.getD i (0:Int))) none,Reg.row 2 cs.length (fun i=>(cs.getD i default).tc) none,Reg.box 48 [C.h 0,C.i .i64 sh,C.i .i64 lk,C.i .i64 bu,C.h 1]],wr:=[] }
def L41_0_J (mem:List Int) (sh:Int) (lk:Int) (bu:Int) (cs:List Cor):Int×Int×Int×Int→Prop:=fun x=>0≤x.1∧x.1≤(cs.length:Int)∧badI mem cs=findFrom (rowB mem cs) x.1 cs.length
def L41_0_m (mem:List Int) (sh:Int) (lk:Int) (bu:Int) (cs:List Cor):Int×Int×Int×Int→Nat:=fun x=>((cs.length:Int)-x.1).toNat
def L41_0 (mem:List Int) (sh:Int) (lk:Int) (bu:Int) (cs:List Cor):Lp (Int×Int×Int×Int):=⟨L41_0_I mem sh lk bu cs,L41_0_J mem sh lk bu cs,L41_0_m mem sh lk bu cs⟩
def L41_1_I (mem:List Int) (sh:Int) (lk:Int) (bu:Int) (cs:List Cor) (x2_0:Int) (x2_1:Int) (x2_2:Int) (x2_3:Int):Int×Int×Int×Int→St:=fun x=>{ N:=41,fr:=[{ slot:=23,g:=[],sv:=SV.c (C.i .i64 x.1) },{ slot:=22,g:=[],sv:=SV.c (C.i .i64 (↑(cs.getD x2_0.toNat default).code.length:Int)) },{ slot:=21,g:=[],sv:=SV.c (C.h 3) },{ slot:=5,g:=[],sv:=SV.c (C.i .i64 x2_0) },{ slot:=6,g:=[],sv:=SV.c (C.p 4 0) },{ slot:=15,g:=[],sv:=SV.c (C.i .i64 x2_0) },{ slot:=14,g:=[],sv:=SV.c (C.i .i64 (↑cs.length:Int)) },{ slot:=13,g:=[],sv:=SV.c (C.h 1) },{ slot:=4,g:=[],sv:=SV.c (C.i .i64 x.2.1) },{ slot:=3,g:=[],sv:=SV.c (C.i .i64 x.2.2.1) },{ slot:=2,g:=[],sv:=SV.c (C.i .i64 x.2.2.2) },{ slot:=1,g:=[],sv:=SV.c (C.p 2 0) }],rg:=[Reg.row 1 mem.length (fun i=>i64T (mem.getD i (0:Int))) none,Reg.row 2 cs.length (fun i=>(cs.getD i default).tc) (some (x2_0.toNat,[C.v (Value.string (cs.getD x2_0.toNat default).name),C.h 3])),Reg.box 48 [C.h 0,C.i .i64 sh,C.i .i64 lk,C.i .i64 bu,C.h 1],Reg.row 9 (cs.getD x2_0.toNat default).code.length (fun i=>((cs.getD x2_0.toNat default).code.getD i default).tc) none,Reg.box 131 [C.v (Value.string (cs.getD x2_0.toNat default).name),C.h 3]],wr:=[] }
def L41_1_J (mem:List Int) (sh:Int) (lk:Int) (bu:Int) (cs:List Cor) (x2_0:Int) (x2_1:Int) (x2_2:Int) (x2_3:Int):Int×Int×Int×Int→Prop:=fun x=>0≤x.1∧x.1≤((cs.getD x2_0.toNat default).code.length:Int)∧findFrom (insOk mem cs x2_0) 0 (cs.getD x2_0.toNat default).code.length=findFrom (insOk mem cs x2_0) x.1 (cs.getD x2_0.toNat default).code.length
def L41_1_m (mem:List Int) (sh:Int) (lk:Int) (bu:Int) (cs:List Cor) (x2_0:Int) (x2_1:Int) (x2_2:Int) (x2_3:Int):Int×Int×Int×Int→Nat:=fun x=>(((cs.getD x2_0.toNat default).code.length:Int)-x.1).toNat
def L41_1 (mem:List Int) (sh:Int) (lk:Int) (bu:Int) (cs:List Cor) (x2_0:Int) (x2_1:Int) (x2_2:Int) (x2_3:Int):Lp (Int×Int×Int×Int):=⟨L41_1_I mem sh lk bu cs x2_0 x2_1 x2_2 x2_3,L41_1_J mem sh lk bu cs x2_0 x2_1 x2_2 x2_3,L41_1_m mem sh lk bu cs x2_0 x2_1 x2_2 x2_3⟩
theorem c_check (mem:List Int) (sh lk bu:Int) (cs:List Cor) (hw:∀ a b:Nat,insK ((cs.getD a default).code.getD b default)):Ctr Try.prog 41 [IntRow mem,Cor.rowR cs] [.agg [.h 0,.i .i64 sh,.i .i64 lk,.i .i64 bu,.h 1]]
 (Det (.tup [(false,[.i .i64 (chkE mem sh lk bu cs)]),(false,[.i .i64 (chkI mem sh lk bu cs)]),(false,[.i .i64 (chkK mem sh lk bu cs)])]) [.dead,.dead]):=by
 refine Ctr.intro [] Try.func41 K K ?_
 refine RunF.lens 1 (m:=cs.length) K (fun hlens_1=>?_)
 refine tCall e_target_shaped (c_shaped (mem:=mem) (sh:=sh) (lk:=lk) (bu:=bu) (cs:=cs)) [] ?_
 refine tz [10,4,3,2,1] ?_
 refine tCond (!shapedB mem sh lk bu cs) (fun h1=>?_) (fun h1=>?_)
 ·exact tRet [] [0,1,2] [chkE mem sh lk bu cs=(160:Int),chkI mem sh lk bu cs=(0:Int),chkK mem sh lk bu cs=(0:Int)] (by simp only [Conj,chkE,chkI,chkK];first | grind | (have he:=findFrom_end (rowB mem cs) (i:=x2_0) (n:=cs.length) (by grind);grind) | (have hp:insOk mem cs x2_0 x4_0=false:=(by simp only [insOk,corAt,insAt];grind);have hs:=findFrom_stop (insOk mem cs x2_0) (n:=((cs.getD x2_0.toNat default).code.length:Int)) (by grind) hp;have hq:rowB mem cs x2_0=false:=(by simp only [rowB,corAt];grind);have hs2:=findFrom_stop (rowB mem cs) (n:=cs.length) (by grind) hq;have hb:badI mem cs=x2_0:=(by grind);rw [hb];simp only [corAt];grind))
 ·refine tz [4,3,2,1] ?_
  refine tLoop (L41_0 mem sh lk bu cs) (((0:Int),(0:Int),(0:Int),(0:Int))) ⟨Int.le_refl _,by grind,rfl⟩ ?_
  rintro ⟨x2_0,x2_1,x2_2,x2_3⟩ hJ2
  dsimp only [L41_0,L41_0_J] at hJ2
  refine tz [15,14,13,4,3,2,1] ?_
  refine tCond (decide (x2_0<(↑cs.length:Int))) (fun h3=>?_) (fun h3=>?_)
  ·refine tFoc 1 (x2_0.toNat) ?_ (vc:=[x2_0.toNat<cs.length]) (hv:=(by simp only [Conj,Fits,i64_min,i64_max,u8_min,u8_max];(repeat' (first | apply And.intro | intro _))<;>first | grind | (simp only [BL] at *;omega)))
   refine RunF.lens 3 (m:=(cs.getD x2_0.toNat default).code.length) K (fun hlenh3t_3=>?_)
   refine tz [15,14,13,4,3,2,1] ?_
   refine tLoop (L41_1 mem sh lk bu cs x2_0 x2_1 x2_2 x2_3) (((0:Int),x2_1,x2_2,x2_3)) (by dsimp only [L41_1,L41_1_J];grind) ?_ (vc:=[(0:Int)≤x2_0,x2_0<(↑cs.length:Int),x2_0.toNat=x2_0.toNat]) (hv:=(by simp only [Conj,Fits,i64_min,i64_max,u8_min,u8_max];(repeat' (first | apply And.intro | intro _))<;>first | grind | (simp only [BL] at *;omega)))
   rintro ⟨x4_0,x4_1,x4_2,x4_3⟩ hJ4
   dsimp only [L41_1,L41_1_J] at hJ4
   refine tz [23,22,21,5,6,15,14,13,4,3,2,1] ?_
   refine tCond (decide (x4_0<(↑(cs.getD x2_0.toNat default).code.length:Int))) (fun h5=>?_) (fun h5=>?_)
   ·refine tz [23,22,21,5,6,15,14,13,4,3,2,1] ?_
    refine tCall e_target_Right (c_insright (i:=(cs.getD x2_0.toNat default).code.getD x4_0.toNat default) (code:=(↑(cs.getD x2_0.toNat default).code.length:Int)) (memory:=(↑mem.length:Int)) (hk:=by first | assumption | exact (hw _ _).1 | exact (hw _ _).2 | exact hw _ _ | exact ⟨(hw _ _).1.1,(hw _ _).2.1⟩) (ho:=by first | assumption | exact (hw _ _).1 | exact (hw _ _).2 | exact hw _ _ | exact ⟨(hw _ _).1.1,(hw _ _).2.1⟩)) [] ?_ (vc:=[(0:Int)≤x4_0,x4_0<(↑(cs.getD x2_0.toNat default).code.length:Int),x4_0.toNat<(cs.getD x2_0.toNat default).code.length]) (hv:=(by simp only [Conj,Fits,i64_min,i64_max,u8_min,u8_max];(repeat' (first | apply And.intro | intro _))<;>first | grind | (simp only [BL] at *;omega)))
    refine tz [35,7,23,22,21,5,6,15,14,13,4,3,2,1] ?_
    refine tCond (!insB ((cs.getD x2_0.toNat default).code.getD x4_0.toNat default) (↑(cs.getD x2_0.toNat default).code.length:Int) (↑mem.length:Int)) (fun h6=>?_) (fun h6=>?_)
    ·exact tRet [] [0,1,2] [chkE mem sh lk bu cs=(160:Int),chkI mem sh lk bu cs=x2_0,chkK mem sh lk bu cs=x4_0] (by simp only [Conj,chkE,chkI,chkK];first | grind | (have he:=findFrom_end (rowB mem cs) (i:=x2_0) (n:=cs.length) (by grind);grind) | (have hp:insOk mem cs x2_0 x4_0=false:=(by simp only [insOk,corAt,insAt];grind);have hs:=findFrom_stop (insOk mem cs x2_0) (n:=((cs.getD x2_0.toNat default).code.length:Int)) (by grind) hp;have hq:rowB mem cs x2_0=false:=(by simp only [rowB,corAt];grind);have hs2:=findFrom_stop (rowB mem cs) (n:=cs.length) (by grind) hq;have hb:badI mem cs=x2_0:=(by grind);rw [hb];simp only [corAt];grind))
    ·exact tNext (L41_1 mem sh lk bu cs x2_0 x2_1 x2_2 x2_3) (x4_0,x4_1,x4_2,x4_3) ((x4_0+(1:Int),x4_1,x4_2,x4_3)) (by dsimp only [L41_1,L41_1_m];(try simp only [decide_eq_true_eq] at *);omega) (by have hp:insOk mem cs x2_0 x4_0=true:=(by simp only [insOk,corAt,insAt];grind);have hs:=findFrom_next (insOk mem cs x2_0) (n:=((cs.getD x2_0.toNat default).code.length:Int)) (by grind) hp;dsimp only [L41_1,L41_1_J] at *;grind) (vc:=[Fits IntKind.i64 (x4_0+(1:Int))]) (hv:=(by simp only [Conj,Fits,i64_min,i64_max,u8_min,u8_max];(repeat' (first | apply And.intro | intro _))<;>first | grind | (simp only [BL] at *;omega)))
   ·exact tNext (L41_0 mem sh lk bu cs) (x2_0,x2_1,x2_2,x2_3) ((x2_0+(1:Int),x4_1,x4_2,x4_3)) (by dsimp only [L41_0,L41_0_m];(try simp only [decide_eq_true_eq] at *);omega) (by have he:=findFrom_end (insOk mem cs x2_0) (i:=x4_0) (n:=((cs.getD x2_0.toNat default).code.length:Int)) (by grind);have hp:rowB mem cs x2_0=true:=(by simp only [rowB,corAt];grind);have hs:=findFrom_next (rowB mem cs) (n:=cs.length) (by grind) hp;dsimp only [L41_0,L41_0_J] at *;grind) (vc:=[Fits IntKind.i64 (x2_0+(1:Int))]) (hv:=(by simp only [Conj,Fits,i64_min,i64_max,u8_min,u8_max];(repeat' (first | apply And.intro | intro _))<;>first | grind | (simp only [BL] at *;omega)))
  ·exact tRet [] [0,1,2] [chkE mem sh lk bu cs=(0:Int),chkI mem sh lk bu cs=(0:Int),chkK mem sh lk bu cs=(0:Int)] (by simp only [Conj,chkE,chkI,chkK];first | grind | (have he:=findFrom_end (rowB mem cs) (i:=x2_0) (n:=cs.length) (by grind);grind) | (have hp:insOk mem cs x2_0 x4_0=false:=(by simp only [insOk,corAt,insAt];grind);have hs:=findFrom_stop (insOk mem cs x2_0) (n:=((cs.getD x2_0.toNat default).code.length:Int)) (by grind) hp;have hq:rowB mem cs x2_0=false:=(by simp only [rowB,corAt];grind);have hs2:=findFrom_stop (rowB mem cs) (n:=cs.length) (by grind) hq;have hb:badI mem cs=x2_0:=(by grind);rw [hb];simp only [corAt];grind))
end Go.Proofs.Ytmjjikcappbkeaa
end
noncomputable section
namespace Go.Proofs.Ytmjjikcappbkeaa
open Go Go.Tx
theorem c_new_no (mem:List Int) (sh lk bu:Int) (cs:List Cor) (hw:∀ a b:Nat,insK ((cs.getD a default).code.getD b default)) (hsel:¬ chkE mem sh lk bu cs=0):Ctr Try.prog 19 [WordRow mem,Cor.rowR cs] [.agg [.h 0,.i .i64 sh,.i .i64 lk,.i .i64 bu,.h 1]]
 (Det (.tup [(false,[.v (.pointer none)]),(false,[.i .i64 (chkE mem sh lk bu cs)])]) [.dead,.dead]):=by
 refine Ctr.intro [] Try.func19 K K ?_
 refine tCall e_target_Check (c_check (mem:=mem) (sh:=sh) (lk:=lk) (bu:=bu) (cs:=cs) (hw:=by first | assumption | omega)) [] ?_
 refine tz [12,3,2,1] ?_
 refine tCond (!decide (chkE mem sh lk bu cs=(0:Int))) (fun h1=>?_) (fun h1=>?_)
 ·exact tRet
 ·exact (show False from by exact hsel (by simpa using h1)).elim
abbrev z50_3 (mem:List Int):=(fun i=>i64T (mem.getD i (0:Int)))
abbrev z50_4 (cs:List Cor):=Reg.row 2 cs.length (fun i=>(cs.getD i default).tc) none
def L19_0_I (mem:List Int) (sh:Int) (lk:Int) (bu:Int) (cs:List Cor):Int×List Cor→St:=fun x=>{ N:=51,fr:=[{ slot:=25,g:=[],sv:=SV.c (C.i .i64 x.1) },{ slot:=24,g:=[],sv:=SV.c (C.i .i64 (↑cs.length:Int)) },{ slot:=23,g:=[],sv:=SV.c (C.h 1) },{ slot:=7,g:=[],sv:=SV.c (C.p 3 0) },{ slot:=3,g:=[],sv:=SV.c (C.i .i64 0) },{ slot:=2,g:=[],sv:=SV.c (C.v (Value.pointer none)) },{ slot:=1,g:=[],sv:=SV.c (C.p 2 0) }],rg:=[Reg.row 1 mem.length (z50_3 mem) none,z50_4 cs,Reg.box 48 [C.h 0,C.i .i64 sh,C.i .i64 lk,C.i .i64 bu,C.h 1],Reg.box 48 [C.v (Value.slice none 0 0),C.i .i64 sh,C.i .i64 lk,C.i .i64 bu,C.h 4]]++[Cor.ownR x.2],wr:=[] }
def L19_0_J (mem:List Int) (sh:Int) (lk:Int) (bu:Int) (cs:List Cor):Int×List Cor→Prop:=fun x=>0≤x.1∧x.1≤(cs.length:Int)∧x.2=cs.take x.1.toNat
def L19_0_m (mem:List Int) (sh:Int) (lk:Int) (bu:Int) (cs:List Cor):Int×List Cor→Nat:=fun x=>((cs.length:Int)-x.1).toNat
def L19_0 (mem:List Int) (sh:Int) (lk:Int) (bu:Int) (cs:List Cor):Lp (Int×List Cor):=⟨L19_0_I mem sh lk bu cs,L19_0_J mem sh lk bu cs,L19_0_m mem sh lk bu cs⟩
abbrev z50_1:=(Value.agg #[Value.int IntKind.i64 (0:Int),Value.bool false,Value.int IntKind.i64 (0:Int),Value.int IntKind.i64 (0:Int),Value.int IntKind.i64 (0:Int),Value.int IntKind.i64 (0:Int),Value.int IntKind.i64 (0:Int),Value.int IntKind.i64 (0:Int),Value.int IntKind.i64 (0:Int),Value.int IntKind.i64 (0:Int),Value.int IntKind.i64 (0:Int),Value.int IntKind.i64 (0:Int),Value.int IntKind.i64 (0:Int),Value.int IntKind.i64 (0:Int),Value.int IntKind.i64 (0:Int),Value.int IntKind.i64 (0:Int),Value.int IntKind.i64 (0:Int),Value.int IntKind.i64 (0:Int),Value.slice none 0 0])
abbrev z50_2 (sh:Int) (lk:Int) (bu:Int):=Reg.box 138 [C.v (Value.slice none 0 0),C.i .i64 sh,C.i .i64 lk,C.i .i64 bu,C.h 4,C.h 5,C.h 6,C.v (Value.slice none 0 0)]
abbrev z50_5 (x2_1:List Cor):=Reg.own 131 2 x2_1.length (fun i=>(x2_1.getD i default).tc) none
abbrev z50_6:=[En.mk 3 [] (SV.c (C.i .i64 0)),En.mk 2 [] (SV.c (C.p 7 0))]
abbrev z50_7 (mem:List Int) (cs:List Cor) (x2_1:List Cor) (sh:Int) (lk:Int) (bu:Int):=St.mk 51 z50_6 [Reg.row 1 mem.length (z50_3 mem) none,z50_4 cs,Reg.dead,Reg.dead,z50_5 x2_1,Reg.own 141 19 cs.length (fun x j=>valT z50_1.cells.toList j) none,Reg.own 2 1 mem.length (z50_3 mem) none,z50_2 sh lk bu] []
theorem c_new_ok (mem:List Int) (sh lk bu:Int) (cs:List Cor) (hw:∀ a b:Nat,insK ((cs.getD a default).code.getD b default)) (hsel:chkE mem sh lk bu cs=0):Ctr Try.prog 19 [WordRow mem,Cor.rowR cs] [.agg [.h 0,.i .i64 sh,.i .i64 lk,.i .i64 bu,.h 1]]
 (Det (.tup [(false,[.p 2 0]),(false,[.i .i64 0])]) [.dead,.dead,Reg.box 138 (vmC sh lk bu 3 4 5 6),Cor.ownR cs,VCo.ownR (newVs cs.length),WordOwn mem,Prt.ownR []]):=by
 have hcb:=cors_bound hsel
 have hcm:=chk_ok hsel
 refine Ctr.intro [] Try.func19 K K ?_
 refine tCall e_target_Check (c_check (mem:=mem) (sh:=sh) (lk:=lk) (bu:=bu) (cs:=cs) (hw:=by first | assumption | omega | (have:=hcb.2 x2_0.toNat;omega))) [] ?_
 refine tz [12,3,2,1] ?_
 refine tCond (!decide (chkE mem sh lk bu cs=(0:Int))) (fun h1=>?_) (fun h1=>?_)
 ·exact (show False from by simp [hsel] at h1).elim
 ·refine tz [3,2,1] ?_
  refine tLoop (L19_0 mem sh lk bu cs) (((0:Int),[])) ⟨by omega,by omega,rfl⟩ ?_ [0,1,2,3,1000004] [11] [(0:Nat)=0] (by (try simp only [Conj])<;>(repeat' apply And.intro)<;>first | done | trivial | rfl | (intros;first | rfl | trivial) | exact snoc_len _ _ | exact List.length_set | exact set_ints _ _ _ | exact take_row _ _ _ _ _ | (exact take_len _ _ _ (by first | omega | (have h0:=askE_ok (by simpa using h1);have hm:=evE_mem h0.1;have hs:=evE_ok h0.1;omega))) | exact MpEq.put (by omega) | (refine MpEq.mk' (by omega) ?_ ?_<;>intro q<;>first | rfl | (dsimp only;split<;>simp_all)) | (exact MpEq.mkIt (by omega) (fun _=>rfl) (fun _=>rfl) rfl rfl (fun _=>rfl)) | (intro i h1 h2;rw [snoc_lo h1 h2]) | (rw [getD_snoc];rfl))
  rintro ⟨x2_0,x2_1⟩ hJ2
  dsimp only [L19_0,L19_0_J] at hJ2
  refine tz [25,24,23,7,3,2,1] ?_
  refine tCond (decide (x2_0<(↑cs.length:Int))) (fun h3=>?_) (fun h3=>?_)
  ·refine tFoc 1 (x2_0.toNat) ?_ (vc:=[x2_0.toNat<cs.length]) (hv:=(by simp only [Conj,Fits,i64_min,i64_max,u8_min,u8_max,News.len,maxLen]<;>(repeat' (first | apply And.intro | intro _))<;>first | grind | (simp only [BL] at *;omega)))
   have hx:x2_1.length≤8:=by rw [hJ2.2.2,List.length_take];omega
   refine tz [25,24,23,7,3,2,1] ?_
   refine tCall e_slices_Clone_Instr (c_clone_ins (l:=(cs.getD x2_0.toNat default).code) (hl:=by first | assumption | omega | (have:=hcb.2 x2_0.toNat;omega))) [5] ?_ (vc:=[(0:Int)≤x2_0,x2_0<(↑cs.length:Int),x2_0.toNat=x2_0.toNat]) (hv:=(by simp only [Conj,Fits,i64_min,i64_max,u8_min,u8_max,News.len,maxLen]<;>(repeat' (first | apply And.intro | intro _))<;>first | grind | (simp only [BL] at *;omega)))
   exact tNextF (L19_0 mem sh lk bu cs) (x2_0,x2_1) ((x2_0+(1:Int),x2_1++[cs.getD x2_0.toNat default])) (by dsimp only [L19_0,L19_0_m];(try simp only [decide_eq_true_eq] at *);omega) ⟨by omega,by simp only [BL] at h3;omega,(by rw [hJ2.2.2];have e:(x2_0+1).toNat=x2_0.toNat+1:=(by omega);rw [e,← take_next (by simp only [BL] at h3;omega)])⟩ [(9,(Cor.tc (cs.getD x2_0.toNat default)))] [0,1,2,3,9] [11,12] [(x2_1++[cs.getD x2_0.toNat default]).length=x2_1.length+1,∀ (i:Nat),i<(x2_1++[cs.getD x2_0.toNat default]).length→((x2_1++[cs.getD x2_0.toNat default]).getD i default).tc=if i=x2_1.length then (cs.getD x2_0.toNat default).tc else (x2_1.getD i default).tc] (by simp only [Conj];(repeat' apply And.intro)<;>first | trivial | rfl | (intros;rfl) | exact snoc_len _ _ | exact snoc_get default Cor.tc _ _) (vc:=[x2_1.length+1≤maxLen,(x2_1.length+1) * 40≤140737488355328,Fits IntKind.i64 (x2_0+(1:Int))]) (hv:=(by simp only [Conj,Fits,i64_min,i64_max,u8_min,u8_max,News.len,maxLen]<;>(repeat' (first | apply And.intro | intro _))<;>first | grind | (simp only [BL] at *;omega))) (vc2:=[Value.string (cs.getD x2_0.toNat default).name=Value.string (cs.getD x2_0.toNat default).name,(cs.getD x2_0.toNat default).code.length=(cs.getD x2_0.toNat default).code.length,∀ (i:Nat),i<(cs.getD x2_0.toNat default).code.length→((cs.getD x2_0.toNat default).code.getD i default).tc=((cs.getD x2_0.toNat default).code.getD i default).tc]) (hv2:=R)
  ·have hx:x2_1=cs:=by rw [hJ2.2.2,List.take_of_length_le (by simp only [BL] at h3;omega)]
   refine tz [25,24,23,7,3,2,1] ?_
   refine tAny 2 (fun _:Unit=>z50_7 mem cs x2_1 sh lk bu) (fun _=>True) ?_ ?_
   ·refine ⟨⟨trivial,?_⟩,?_⟩
    ·refine tCall e_slices_Clone_int64 (c_clone_word (l:=mem) (hl:=by first | assumption | omega | (have:=hcb.2 x2_0.toNat;omega))) [] ?_ (vc:=[(0:Int)≤(↑cs.length:Int),(↑cs.length:Int)≤(↑cs.length:Int),(↑cs.length:Int) * (168:Int)≤(140737488355328:Int),(↑cs.length:Int)≤(↑maxLen:Int),(0:Int)≤(↑cs.length:Int),(↑cs.length:Int)≤(↑cs.length:Int),(↑cs.length:Int) * (168:Int)≤(140737488355328:Int),(↑cs.length:Int)≤(↑maxLen:Int)]) (hv:=(by simp only [Conj,Fits,i64_min,i64_max,u8_min,u8_max,News.len,maxLen]<;>(repeat' (first | apply And.intro | intro _))<;>first | grind | (simp only [BL] at *;omega)))
     exact tTo (fun x=>z50_7 mem cs x2_1 sh lk bu) (fun x=>True) () trivial [] [7] [∀ (i:Nat),i<cs.length→(fun j=>valT z50_1.cells.toList j)=fun j=>valT z50_1.cells.toList j] (fun _ _=>rfl)
    ·refine tCall e_slices_Clone_int64 (c_clone_word (l:=mem) (hl:=by first | assumption | omega | (have:=hcb.2 x2_0.toNat;omega))) [] ?_
     exact tTo (fun x=>z50_7 mem cs x2_1 sh lk bu) (fun x=>True) () trivial [0,1,2,3,4,6,5,7] [7] [∀ (i:Nat),i<cs.length→(fun j=>valT z50_1.cells.toList j)=fun j=>valT z50_1.cells.toList j] (fun _ _=>rfl) (vc:=[(0:Int)≤(↑cs.length:Int),(↑cs.length:Int)≤(↑cs.length:Int),(↑cs.length:Int) * (168:Int)≤(140737488355328:Int),(↑cs.length:Int)≤(↑maxLen:Int),(0:Int)≤(↑cs.length:Int),(↑cs.length:Int)≤(↑cs.length:Int),(↑cs.length:Int) * (168:Int)≤(140737488355328:Int),(↑cs.length:Int)≤(↑maxLen:Int)]) (hv:=(by simp only [Conj,Fits,i64_min,i64_max,u8_min,u8_max,News.len,maxLen]<;>(repeat' (first | apply And.intro | intro _))<;>first | grind | (simp only [BL] at *;omega)))
   ·rintro ⟨⟩ _
    refine tNils 5 ((fun i=>VCo.tc ((newVs cs.length).getD i default))) ?_ (vc:=[∀ (i j:Nat),i<cs.length→j<19→((newVs cs.length).getD i default).tc j=valT (Value.agg #[Value.int IntKind.i64 (0:Int),Value.bool false,Value.int IntKind.i64 (0:Int),Value.int IntKind.i64 (0:Int),Value.int IntKind.i64 (0:Int),Value.int IntKind.i64 (0:Int),Value.int IntKind.i64 (0:Int),Value.int IntKind.i64 (0:Int),Value.int IntKind.i64 (0:Int),Value.int IntKind.i64 (0:Int),Value.int IntKind.i64 (0:Int),Value.int IntKind.i64 (0:Int),Value.int IntKind.i64 (0:Int),Value.int IntKind.i64 (0:Int),Value.int IntKind.i64 (0:Int),Value.int IntKind.i64 (0:Int),Value.int IntKind.i64 (0:Int),Value.int IntKind.i64 (0:Int),Value.slice none 0 0]).cells.toList j∨valT (Value.agg #[Value.int IntKind.i64 (0:Int),Value.bool false,Value.int IntKind.i64 (0:Int),Value.int IntKind.i64 (0:Int),Value.int IntKind.i64 (0:Int),Value.int IntKind.i64 (0:Int),Value.int IntKind.i64 (0:Int),Value.int IntKind.i64 (0:Int),Value.int IntKind.i64 (0:Int),Value.int IntKind.i64 (0:Int),Value.int IntKind.i64 (0:Int),Value.int IntKind.i64 (0:Int),Value.int IntKind.i64 (0:Int),Value.int IntKind.i64 (0:Int),Value.int IntKind.i64 (0:Int),Value.int IntKind.i64 (0:Int),Value.int IntKind.i64 (0:Int),Value.int IntKind.i64 (0:Int),Value.slice none 0 0]).cells.toList j=TC.val (Value.slice none 0 0)∧∃ ty s g,((newVs cs.length).getD i default).tc j=TC.sub ty s 0 g]) (hv:=(newVs_nil _))
    exact tRet [0,1,7,4,5,6,1000006] [4,5,6,10] [cs.length=x2_1.length,∀ (i:Nat),i<cs.length→(cs.getD i default).tc=(x2_1.getD i default).tc,(newVs cs.length).length=cs.length,(0:Nat)=0] (by simp only [Conj];(repeat' apply And.intro)<;>first | trivial | rfl | (rw [hx];done) | (intros;rw [hx];done) | (intros;rfl) | simp [newVs])
end Go.Proofs.Ytmjjikcappbkeaa
end
