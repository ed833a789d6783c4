/-
  Every Order and Follow of the program is the reference's. Text 6 of 8: Leaf81 Leaf82 Leaf80s Leaf84 Leaf73 Leaf85 Leaf87 Leaf87b Leaf47 Leaf86 Leaf88 Leaf89 Leaf114 SpecR7 SpecRa Leaf96 SpecR1 Leaf97 Leaf98 Leaf99 Leaf100 Leaf100s.
-/
import Derived.Test.YtmaodngbpfjnnaaGreatP4
import Derived.Test.YtmaodngbpfjnnaaGreatP5
set_option linter.unusedSimpArgs false
set_option linter.unusedVariables false
set_option maxHeartbeats 4000000
set_option maxRecDepth 10000
noncomputable section
namespace Go.Proofs.YtmaodngbpfjnnaaGreat
open Go Go.Tx
theorem Q12 (sh lk:List Dcl) (gs:List Grf) (m:Mch) (t:Int) (n:Nod) (d1 d2 d3 d4 d5 d6:Int) (v:Vl) (ht:0≤t∧t<(m.sl.length:Int)) (hv:v.slotted=true→0≤v.slot∧v.slot<((m.sl.getD t.toNat default).l.length:Int)):Ctr Tryz.prog 131 [.ro (actW 1 t n d1 d2 d3 d4 d5 d6),.ro [.h 2,.h 3,.h 4,.h 5,.h 6,.h 7,.h 8,.h 9],Dcl.rowR sh,Dcl.rowR lk,Grf.rowR gs,IntRow m.pos,Slt.rowR m.sl,WordRow m.mem,IntRow m.ho,Prt.rowR m.pr] [.c (.p 0 0),.agg v.cs]
 (Det (.c (.i .i64 (wordV m.sl t v))) [.dead,.dead,.dead,.dead,.dead,.dead,.dead,.dead,.dead,.dead]):=by
 refine Ctr.intro [] Tryz.func131 K K ?_
 refine Q0 (v.slotted) (fun h1=>?_) (fun h1=>?_)
 ·refine Yu 6 (t.toNat) ?_ (vc:=[t.toNat<m.sl.length]) (hv:=W2)
  exact Q1 [] [0] [wordV m.sl t v=(m.sl.getD t.toNat default).l.getD v.slot.toNat 0] W149 (vc:=[(0:Int)≤t,t<(↑m.sl.length:Int),t.toNat=t.toNat,(0:Int)≤v.slot,v.slot<(↑(m.sl.getD t.toNat default).l.length:Int),v.slot.toNat<(m.sl.getD t.toNat default).l.length]) (hv:=W2)
 ·exact Q1 [] [0] [wordV m.sl t v=v.word] W149
theorem Q56 (sh lk:List Dcl) (gs:List Grf) (m:Mch) (t:Int) (n:Nod) (d1 d2 d3 d4 d5 d6:Int) (w:Int) (ht:0≤t∧t<(m.sl.length:Int)) (hs:0≤n.slot∧n.slot<((m.sl.getD t.toNat default).l.length:Int)):Ctr Tryz.prog 134 [Reg.box 196 (actW 1 t n d1 d2 d3 d4 d5 d6),.ro [.h 2,.h 3,.h 4,.h 5,.h 6,.h 7,.h 8,.h 9],Dcl.rowR sh,Dcl.rowR lk,Grf.rowR gs,IntRow m.pos,Slt.ownR m.sl,WordRow m.mem,IntRow m.ho,Prt.rowR m.pr] [.c (.p 0 0),.c (.i .i64 w)]
 (Det (.tup []) [Reg.box 196 (actW 1 t n d1 d2 d3 d4 w d6),.dead,.dead,.dead,.dead,.dead,Slt.ownR (putsL m.sl t n.slot w),.dead,.dead,.dead]):=by
 refine Ctr.intro [] Tryz.func134 K K ?_
 refine Yu 6 (t.toNat) ?_ (vc:=[t.toNat<m.sl.length]) (hv:=W2)
 exact Qo4 [(6,(Slt.tc ⟨(m.sl.getD t.toNat default).l.set n.slot.toNat w⟩))] [] [20,21] [(putsL m.sl t n.slot w).length=m.sl.length,∀ (i:Nat),i<(putsL m.sl t n.slot w).length→((putsL m.sl t n.slot w).getD i default).tc=if i=t.toNat then (Slt.mk ((m.sl.getD t.toNat default).l.set n.slot.toNat w)).tc else (m.sl.getD i default).tc] W39 (vc:=[(0:Int)≤t,t<(↑m.sl.length:Int),t.toNat=t.toNat,(0:Int)≤n.slot,n.slot<(↑(m.sl.getD t.toNat default).l.length:Int),n.slot.toNat<(m.sl.getD t.toNat default).l.length]) (hv:=W2) (vc2:=[((m.sl.getD t.toNat default).l.set n.slot.toNat w).length=(m.sl.getD t.toNat default).l.length,∀ (i:Nat),i<((m.sl.getD t.toNat default).l.set n.slot.toNat w).length→i64T (((m.sl.getD t.toNat default).l.set n.slot.toNat w).getD i 0)=updT (fun i=>i64T ((m.sl.getD t.toNat default).l.getD i 0)) n.slot.toNat 0 [Value.int IntKind.i64 w] i]) (hv2:=W123)
abbrev z81_1:=[14,15,16,17,18,19,20,21,22,23,24,25,26,27,28]
abbrev z81_2 (t:Int) (n:Nod) (m:Mch) (d1:Int) (d2:Int) (d3:Int) (d4:Int) (d5:Int) (d6:Int):=(aSet t n m (Act.mk d1 d2 d3 d4 d5 d6))
abbrev z81_4 (n:Nod) (m:Mch) (t:Int):=(if twoB n.op=true then opTwo n.op (wordV m.sl t n.a) (wordV m.sl t n.b) else (0:Int))
abbrev z81_5 (n:Nod) (m:Mch) (t:Int):=(if (opB n.op&&!twoB n.op)=true then opOne n.op (wordV m.sl t n.a) else (0:Int))
theorem Q9h (sh lk:List Dcl) (gs:List Grf) (m:Mch) (t:Int) (n:Nod) (d1 d2 d3 d4 d5 d6:Int) (ht:0≤t∧t<(m.sl.length:Int)) (hs:0≤n.slot∧n.slot<((m.sl.getD t.toNat default).l.length:Int)) (ha:n.a.slotted=true→0≤n.a.slot∧n.a.slot<((m.sl.getD t.toNat default).l.length:Int)) (hb:n.b.slotted=true→0≤n.b.slot∧n.b.slot<((m.sl.getD t.toNat default).l.length:Int)):Ctr Tryz.prog 121 [Reg.box 196 (actW 1 t n d1 d2 d3 d4 d5 d6),Reg.box 130 [.h 2,.h 3,.h 4,.h 5,.h 6,.h 7,.h 8,.h 9],Dcl.rowR sh,Dcl.rowR lk,Grf.rowR gs,IntRow m.pos,Slt.ownR m.sl,WordOwn m.mem,IntOwn m.ho,Prt.ownR m.pr] [.c (.p 0 0)]
 (Det (.c (.i .i64 (aSet t n m ⟨d1,d2,d3,d4,d5,d6⟩).to)) [Reg.box 196 (actC 1 t n (aSet t n m ⟨d1,d2,d3,d4,d5,d6⟩).d),Reg.box 130 [.h 2,.h 3,.h 4,.h 5,.h 6,.h 7,.h 8,.h 10],.dead,.dead,.dead,.dead,Slt.ownR (aSet t n m ⟨d1,d2,d3,d4,d5,d6⟩).m.sl,WordOwn (aSet t n m ⟨d1,d2,d3,d4,d5,d6⟩).m.mem,IntOwn (aSet t n m ⟨d1,d2,d3,d4,d5,d6⟩).m.ho,.dead,Prt.ownR (aSet t n m ⟨d1,d2,d3,d4,d5,d6⟩).m.pr]):=by
 refine Ctr.intro [] Tryz.func121 K K ?_
 refine Q2 Y4 (Q12 sh lk gs m t n d1 d2 d3 d4 d5 d6 n.a W27 W27) [] ?_
 refine tz [10,2,0] ?_
 refine Q2 Qu (Gj n.op) [] ?_
 refine tz [17,3,2,0] ?_
 refine Q0 (twoB n.op) (fun h1=>?_) (fun h1=>?_)
 ·refine tz [3,2,0] ?_
  refine Q2 Y4 (Q12 sh lk gs m t n d1 d2 d3 d4 d5 d6 n.b W27 W27) [] ?_
  refine tz [31,30,29,28,27,26,25,24,23,22,21,20,19,3,2,0] ?_
  refine Q2 Qf9 (Qoh n.op (wordV m.sl t n.a) (wordV m.sl t n.b)) [] ?_
  refine tz [32,31,30,29,28,27,26,25,24,23,22,21,20,19,3,2,0] ?_
  refine Q2 Yh (Q56 sh lk gs m t n d1 d2 d3 d4 d5 d6 (if twoB n.op=true then opTwo n.op (wordV m.sl t n.a) (wordV m.sl t n.b) else (0:Int)) W27 W27) [] ?_ [36] [(z81_4 n m t)=if twoB n.op=true then opTwo n.op (wordV m.sl t n.a) (wordV m.sl t n.b) else (0:Int)] rfl
  exact Q1 [0,1,2,3,4,5,6,7,8,9,9] z81_1 [(z81_2 t n m d1 d2 d3 d4 d5 d6).d.thread=d1,(z81_2 t n m d1 d2 d3 d4 d5 d6).d.node=d2,(z81_2 t n m d1 d2 d3 d4 d5 d6).d.kind=d3,(z81_2 t n m d1 d2 d3 d4 d5 d6).d.thing=d4,(z81_2 t n m d1 d2 d3 d4 d5 d6).d.word=if twoB n.op=true then opTwo n.op (wordV m.sl t n.a) (wordV m.sl t n.b) else (0:Int),(z81_2 t n m d1 d2 d3 d4 d5 d6).d.put=d6,(z81_2 t n m d1 d2 d3 d4 d5 d6).m.sl.length=(putsL m.sl t n.slot (z81_4 n m t)).length,∀ (i:Nat),i<(z81_2 t n m d1 d2 d3 d4 d5 d6).m.sl.length→((z81_2 t n m d1 d2 d3 d4 d5 d6).m.sl.getD i default).tc=((putsL m.sl t n.slot (z81_4 n m t)).getD i default).tc,(z81_2 t n m d1 d2 d3 d4 d5 d6).m.mem.length=m.mem.length,∀ (i:Nat),i<(z81_2 t n m d1 d2 d3 d4 d5 d6).m.mem.length→i64T ((z81_2 t n m d1 d2 d3 d4 d5 d6).m.mem.getD i 0)=i64T (m.mem.getD i 0),(z81_2 t n m d1 d2 d3 d4 d5 d6).m.ho.length=m.ho.length,∀ (i:Nat),i<(z81_2 t n m d1 d2 d3 d4 d5 d6).m.ho.length→i64T ((z81_2 t n m d1 d2 d3 d4 d5 d6).m.ho.getD i 0)=i64T (m.ho.getD i 0),(z81_2 t n m d1 d2 d3 d4 d5 d6).m.pr.length=m.pr.length,∀ (i:Nat),i<(z81_2 t n m d1 d2 d3 d4 d5 d6).m.pr.length→((z81_2 t n m d1 d2 d3 d4 d5 d6).m.pr.getD i default).tc=(m.pr.getD i default).tc,(z81_2 t n m d1 d2 d3 d4 d5 d6).to=n.next] W70
 ·refine tz [3,2,0] ?_
  refine Q0 (!decide (n.op=(0:Int))) (fun h2=>?_) (fun h2=>?_)
  ·refine tz [3,2,0] ?_
   refine Q2 Qdp (Qo9 n.op (wordV m.sl t n.a)) [] ?_
   refine tz [49,3,2,0] ?_
   refine Q2 Yh (Q56 sh lk gs m t n d1 d2 d3 d4 d5 d6 (if (opB n.op&&!twoB n.op)=true then opOne n.op (wordV m.sl t n.a) else (0:Int)) W27 W27) [] ?_ [36] [(z81_5 n m t)=if (opB n.op&&!twoB n.op)=true then opOne n.op (wordV m.sl t n.a) else (0:Int)] rfl
   exact Q1 [0,1,2,3,4,5,6,7,8,9,9] z81_1 [(z81_2 t n m d1 d2 d3 d4 d5 d6).d.thread=d1,(z81_2 t n m d1 d2 d3 d4 d5 d6).d.node=d2,(z81_2 t n m d1 d2 d3 d4 d5 d6).d.kind=d3,(z81_2 t n m d1 d2 d3 d4 d5 d6).d.thing=d4,(z81_2 t n m d1 d2 d3 d4 d5 d6).d.word=if (opB n.op&&!twoB n.op)=true then opOne n.op (wordV m.sl t n.a) else (0:Int),(z81_2 t n m d1 d2 d3 d4 d5 d6).d.put=d6,(z81_2 t n m d1 d2 d3 d4 d5 d6).m.sl.length=(putsL m.sl t n.slot (z81_5 n m t)).length,∀ (i:Nat),i<(z81_2 t n m d1 d2 d3 d4 d5 d6).m.sl.length→((z81_2 t n m d1 d2 d3 d4 d5 d6).m.sl.getD i default).tc=((putsL m.sl t n.slot (z81_5 n m t)).getD i default).tc,(z81_2 t n m d1 d2 d3 d4 d5 d6).m.mem.length=m.mem.length,∀ (i:Nat),i<(z81_2 t n m d1 d2 d3 d4 d5 d6).m.mem.length→i64T ((z81_2 t n m d1 d2 d3 d4 d5 d6).m.mem.getD i 0)=i64T (m.mem.getD i 0),(z81_2 t n m d1 d2 d3 d4 d5 d6).m.ho.length=m.ho.length,∀ (i:Nat),i<(z81_2 t n m d1 d2 d3 d4 d5 d6).m.ho.length→i64T ((z81_2 t n m d1 d2 d3 d4 d5 d6).m.ho.getD i 0)=i64T (m.ho.getD i 0),(z81_2 t n m d1 d2 d3 d4 d5 d6).m.pr.length=m.pr.length,∀ (i:Nat),i<(z81_2 t n m d1 d2 d3 d4 d5 d6).m.pr.length→((z81_2 t n m d1 d2 d3 d4 d5 d6).m.pr.getD i default).tc=(m.pr.getD i default).tc,(z81_2 t n m d1 d2 d3 d4 d5 d6).to=n.next] W70
  ·refine tz [3,2,0] ?_
   refine Q2 Yh (Q56 sh lk gs m t n d1 d2 d3 d4 d5 d6 (wordV m.sl t n.a) W27 W27) [] ?_
   exact Q1 [0,1,2,3,4,5,6,7,8,9,9] z81_1 [(z81_2 t n m d1 d2 d3 d4 d5 d6).d.thread=d1,(z81_2 t n m d1 d2 d3 d4 d5 d6).d.node=d2,(z81_2 t n m d1 d2 d3 d4 d5 d6).d.kind=d3,(z81_2 t n m d1 d2 d3 d4 d5 d6).d.thing=d4,(z81_2 t n m d1 d2 d3 d4 d5 d6).d.word=wordV m.sl t n.a,(z81_2 t n m d1 d2 d3 d4 d5 d6).d.put=d6,(z81_2 t n m d1 d2 d3 d4 d5 d6).m.sl.length=(putsL m.sl t n.slot (wordV m.sl t n.a)).length,∀ (i:Nat),i<(z81_2 t n m d1 d2 d3 d4 d5 d6).m.sl.length→((z81_2 t n m d1 d2 d3 d4 d5 d6).m.sl.getD i default).tc=((putsL m.sl t n.slot (wordV m.sl t n.a)).getD i default).tc,(z81_2 t n m d1 d2 d3 d4 d5 d6).m.mem.length=m.mem.length,∀ (i:Nat),i<(z81_2 t n m d1 d2 d3 d4 d5 d6).m.mem.length→i64T ((z81_2 t n m d1 d2 d3 d4 d5 d6).m.mem.getD i 0)=i64T (m.mem.getD i 0),(z81_2 t n m d1 d2 d3 d4 d5 d6).m.ho.length=m.ho.length,∀ (i:Nat),i<(z81_2 t n m d1 d2 d3 d4 d5 d6).m.ho.length→i64T ((z81_2 t n m d1 d2 d3 d4 d5 d6).m.ho.getD i 0)=i64T (m.ho.getD i 0),(z81_2 t n m d1 d2 d3 d4 d5 d6).m.pr.length=m.pr.length,∀ (i:Nat),i<(z81_2 t n m d1 d2 d3 d4 d5 d6).m.pr.length→((z81_2 t n m d1 d2 d3 d4 d5 d6).m.pr.getD i default).tc=(m.pr.getD i default).tc,(z81_2 t n m d1 d2 d3 d4 d5 d6).to=n.next] W70
abbrev z81_6 (m:Mch) (t:Int) (n:Nod):=(putsL m.sl t n.slot (m.mem.getD n.thing.toNat 0))
theorem Q79 (sh lk:List Dcl) (gs:List Grf) (m:Mch) (t:Int) (n:Nod) (d1 d2 d3 d4 d5 d6:Int) (ht:0≤t∧t<(m.sl.length:Int)) (hs:0≤n.slot∧n.slot<((m.sl.getD t.toNat default).l.length:Int)) (hm:0≤n.thing∧n.thing<(m.mem.length:Int)):Ctr Tryz.prog 122 [Reg.box 196 (actW 1 t n d1 d2 d3 d4 d5 d6),Reg.box 130 [.h 2,.h 3,.h 4,.h 5,.h 6,.h 7,.h 8,.h 9],Dcl.rowR sh,Dcl.rowR lk,Grf.rowR gs,IntRow m.pos,Slt.ownR m.sl,WordOwn m.mem,IntOwn m.ho,Prt.ownR m.pr] [.c (.p 0 0)]
 (Det (.c (.i .i64 (aLoad t n m ⟨d1,d2,d3,d4,d5,d6⟩).to)) [Reg.box 196 (actC 1 t n (aLoad t n m ⟨d1,d2,d3,d4,d5,d6⟩).d),Reg.box 130 [.h 2,.h 3,.h 4,.h 5,.h 6,.h 7,.h 8,.h 10],.dead,.dead,.dead,.dead,Slt.ownR (aLoad t n m ⟨d1,d2,d3,d4,d5,d6⟩).m.sl,WordOwn (aLoad t n m ⟨d1,d2,d3,d4,d5,d6⟩).m.mem,IntOwn (aLoad t n m ⟨d1,d2,d3,d4,d5,d6⟩).m.ho,.dead,Prt.ownR (aLoad t n m ⟨d1,d2,d3,d4,d5,d6⟩).m.pr]):=by
 refine Ctr.intro [] Tryz.func122 K K ?_
 refine Q2 Yh (Q56 sh lk gs m t n d1 d2 d3 n.thing d5 d6 (m.mem.getD n.thing.toNat 0) W27 W27) [] ?_ (vc:=[(0:Int)≤n.thing,n.thing<(↑m.mem.length:Int),n.thing.toNat<m.mem.length]) (hv:=W2)
 exact Q1 [0,1,2,3,4,5,6,7,8,9,9] z81_1 [(aLoad t n m (Act.mk d1 d2 d3 d4 d5 d6)).d.thread=d1,(aLoad t n m (Act.mk d1 d2 d3 d4 d5 d6)).d.node=d2,(aLoad t n m (Act.mk d1 d2 d3 d4 d5 d6)).d.kind=d3,(aLoad t n m (Act.mk d1 d2 d3 d4 d5 d6)).d.thing=n.thing,(aLoad t n m (Act.mk d1 d2 d3 d4 d5 d6)).d.word=m.mem.getD n.thing.toNat 0,(aLoad t n m (Act.mk d1 d2 d3 d4 d5 d6)).d.put=d6,(aLoad t n m (Act.mk d1 d2 d3 d4 d5 d6)).m.sl.length=(z81_6 m t n).length,∀ (i:Nat),i<(aLoad t n m (Act.mk d1 d2 d3 d4 d5 d6)).m.sl.length→((aLoad t n m (Act.mk d1 d2 d3 d4 d5 d6)).m.sl.getD i default).tc=((z81_6 m t n).getD i default).tc,(aLoad t n m (Act.mk d1 d2 d3 d4 d5 d6)).m.mem.length=m.mem.length,∀ (i:Nat),i<(aLoad t n m (Act.mk d1 d2 d3 d4 d5 d6)).m.mem.length→i64T ((aLoad t n m (Act.mk d1 d2 d3 d4 d5 d6)).m.mem.getD i 0)=i64T (m.mem.getD i 0),(aLoad t n m (Act.mk d1 d2 d3 d4 d5 d6)).m.ho.length=m.ho.length,∀ (i:Nat),i<(aLoad t n m (Act.mk d1 d2 d3 d4 d5 d6)).m.ho.length→i64T ((aLoad t n m (Act.mk d1 d2 d3 d4 d5 d6)).m.ho.getD i 0)=i64T (m.ho.getD i 0),(aLoad t n m (Act.mk d1 d2 d3 d4 d5 d6)).m.pr.length=m.pr.length,∀ (i:Nat),i<(aLoad t n m (Act.mk d1 d2 d3 d4 d5 d6)).m.pr.length→((aLoad t n m (Act.mk d1 d2 d3 d4 d5 d6)).m.pr.getD i default).tc=(m.pr.getD i default).tc,(aLoad t n m (Act.mk d1 d2 d3 d4 d5 d6)).to=n.next] W39
theorem Q57 (sh lk:List Dcl) (gs:List Grf) (m:Mch) (t:Int) (n:Nod) (d1 d2 d3 d4 d5 d6:Int) (ht:0≤t∧t<(m.sl.length:Int)) (ha:n.a.slotted=true→0≤n.a.slot∧n.a.slot<((m.sl.getD t.toNat default).l.length:Int)) (hm:0≤n.thing∧n.thing<(m.mem.length:Int)):Ctr Tryz.prog 123 [Reg.box 196 (actW 1 t n d1 d2 d3 d4 d5 d6),Reg.box 130 [.h 2,.h 3,.h 4,.h 5,.h 6,.h 7,.h 8,.h 9],Dcl.rowR sh,Dcl.rowR lk,Grf.rowR gs,IntRow m.pos,Slt.ownR m.sl,WordOwn m.mem,IntOwn m.ho,Prt.ownR m.pr] [.c (.p 0 0)]
 (Det (.c (.i .i64 (aStore t n m ⟨d1,d2,d3,d4,d5,d6⟩).to)) [Reg.box 196 (actC 1 t n (aStore t n m ⟨d1,d2,d3,d4,d5,d6⟩).d),Reg.box 130 [.h 2,.h 3,.h 4,.h 5,.h 6,.h 7,.h 8,.h 10],.dead,.dead,.dead,.dead,Slt.ownR (aStore t n m ⟨d1,d2,d3,d4,d5,d6⟩).m.sl,WordOwn (aStore t n m ⟨d1,d2,d3,d4,d5,d6⟩).m.mem,IntOwn (aStore t n m ⟨d1,d2,d3,d4,d5,d6⟩).m.ho,.dead,Prt.ownR (aStore t n m ⟨d1,d2,d3,d4,d5,d6⟩).m.pr]):=by
 refine Ctr.intro [] Tryz.func123 K K ?_
 refine Q2 Y4 (Q12 sh lk gs m t n d1 d2 d3 d4 d5 d6 n.a W27 W27) [] ?_
 exact Q1 [0,1,2,3,4,5,6,7,8,9,9] z81_1 [(aStore t n m (Act.mk d1 d2 d3 d4 d5 d6)).d.thread=d1,(aStore t n m (Act.mk d1 d2 d3 d4 d5 d6)).d.node=d2,(aStore t n m (Act.mk d1 d2 d3 d4 d5 d6)).d.kind=d3,(aStore t n m (Act.mk d1 d2 d3 d4 d5 d6)).d.thing=n.thing,(aStore t n m (Act.mk d1 d2 d3 d4 d5 d6)).d.word=wordV m.sl t n.a,(aStore t n m (Act.mk d1 d2 d3 d4 d5 d6)).d.put=d6,(aStore t n m (Act.mk d1 d2 d3 d4 d5 d6)).m.sl.length=m.sl.length,∀ (i:Nat),i<(aStore t n m (Act.mk d1 d2 d3 d4 d5 d6)).m.sl.length→((aStore t n m (Act.mk d1 d2 d3 d4 d5 d6)).m.sl.getD i default).tc=(m.sl.getD i default).tc,(aStore t n m (Act.mk d1 d2 d3 d4 d5 d6)).m.mem.length=m.mem.length,∀ (i:Nat),i<(aStore t n m (Act.mk d1 d2 d3 d4 d5 d6)).m.mem.length→i64T ((aStore t n m (Act.mk d1 d2 d3 d4 d5 d6)).m.mem.getD i 0)=updT (fun i=>i64T (m.mem.getD i 0)) n.thing.toNat 0 [Value.int IntKind.i64 (wordV m.sl t n.a)] i,(aStore t n m (Act.mk d1 d2 d3 d4 d5 d6)).m.ho.length=m.ho.length,∀ (i:Nat),i<(aStore t n m (Act.mk d1 d2 d3 d4 d5 d6)).m.ho.length→i64T ((aStore t n m (Act.mk d1 d2 d3 d4 d5 d6)).m.ho.getD i 0)=i64T (m.ho.getD i 0),(aStore t n m (Act.mk d1 d2 d3 d4 d5 d6)).m.pr.length=m.pr.length,∀ (i:Nat),i<(aStore t n m (Act.mk d1 d2 d3 d4 d5 d6)).m.pr.length→((aStore t n m (Act.mk d1 d2 d3 d4 d5 d6)).m.pr.getD i default).tc=(m.pr.getD i default).tc,(aStore t n m (Act.mk d1 d2 d3 d4 d5 d6)).to=n.next] W39 (vc:=[(0:Int)≤n.thing,n.thing<(↑m.mem.length:Int),n.thing.toNat<m.mem.length]) (hv:=W2)
theorem Q7a (sh lk:List Dcl) (gs:List Grf) (m:Mch) (t:Int) (n:Nod) (d1 d2 d3 d4 d5 d6:Int) (ht:0≤t∧t<(m.sl.length:Int)) (hs:0≤n.slot∧n.slot<((m.sl.getD t.toNat default).l.length:Int)) (ha:n.a.slotted=true→0≤n.a.slot∧n.a.slot<((m.sl.getD t.toNat default).l.length:Int)) (hm:0≤n.thing∧n.thing<(m.mem.length:Int)):Ctr Tryz.prog 124 [Reg.box 196 (actW 1 t n d1 d2 d3 d4 d5 d6),Reg.box 130 [.h 2,.h 3,.h 4,.h 5,.h 6,.h 7,.h 8,.h 9],Dcl.rowR sh,Dcl.rowR lk,Grf.rowR gs,IntRow m.pos,Slt.ownR m.sl,WordOwn m.mem,IntOwn m.ho,Prt.ownR m.pr] [.c (.p 0 0)]
 (Det (.c (.i .i64 (aSwap t n m ⟨d1,d2,d3,d4,d5,d6⟩).to)) [Reg.box 196 (actC 1 t n (aSwap t n m ⟨d1,d2,d3,d4,d5,d6⟩).d),Reg.box 130 [.h 2,.h 3,.h 4,.h 5,.h 6,.h 7,.h 8,.h 10],.dead,.dead,.dead,.dead,Slt.ownR (aSwap t n m ⟨d1,d2,d3,d4,d5,d6⟩).m.sl,WordOwn (aSwap t n m ⟨d1,d2,d3,d4,d5,d6⟩).m.mem,IntOwn (aSwap t n m ⟨d1,d2,d3,d4,d5,d6⟩).m.ho,.dead,Prt.ownR (aSwap t n m ⟨d1,d2,d3,d4,d5,d6⟩).m.pr]):=by
 refine Ctr.intro [] Tryz.func124 K K ?_
 refine Q2 Y4 (Q12 sh lk gs m t n d1 d2 d3 d4 d5 d6 n.a W27 W27) [] ?_
 refine tz [16,15,14,13,12,11,10,9,8,7,6,5,4,3,2,0] ?_
 refine Q2 Yh (Q56 sh lk gs m t n d1 d2 d3 n.thing d5 (wordV m.sl t n.a) (m.mem.getD n.thing.toNat 0) W27 W27) [] ?_ (vc:=[(0:Int)≤n.thing,n.thing<(↑m.mem.length:Int),n.thing.toNat<m.mem.length]) (hv:=W2)
 exact Q1 [0,1,2,3,4,5,6,7,8,9,9] z81_1 [(aSwap t n m (Act.mk d1 d2 d3 d4 d5 d6)).d.thread=d1,(aSwap t n m (Act.mk d1 d2 d3 d4 d5 d6)).d.node=d2,(aSwap t n m (Act.mk d1 d2 d3 d4 d5 d6)).d.kind=d3,(aSwap t n m (Act.mk d1 d2 d3 d4 d5 d6)).d.thing=n.thing,(aSwap t n m (Act.mk d1 d2 d3 d4 d5 d6)).d.word=m.mem.getD n.thing.toNat 0,(aSwap t n m (Act.mk d1 d2 d3 d4 d5 d6)).d.put=wordV m.sl t n.a,(aSwap t n m (Act.mk d1 d2 d3 d4 d5 d6)).m.sl.length=(z81_6 m t n).length,∀ (i:Nat),i<(aSwap t n m (Act.mk d1 d2 d3 d4 d5 d6)).m.sl.length→((aSwap t n m (Act.mk d1 d2 d3 d4 d5 d6)).m.sl.getD i default).tc=((z81_6 m t n).getD i default).tc,(aSwap t n m (Act.mk d1 d2 d3 d4 d5 d6)).m.mem.length=m.mem.length,∀ (i:Nat),i<(aSwap t n m (Act.mk d1 d2 d3 d4 d5 d6)).m.mem.length→i64T ((aSwap t n m (Act.mk d1 d2 d3 d4 d5 d6)).m.mem.getD i 0)=updT (fun i=>i64T (m.mem.getD i 0)) n.thing.toNat 0 [Value.int IntKind.i64 (wordV m.sl t n.a)] i,(aSwap t n m (Act.mk d1 d2 d3 d4 d5 d6)).m.ho.length=m.ho.length,∀ (i:Nat),i<(aSwap t n m (Act.mk d1 d2 d3 d4 d5 d6)).m.ho.length→i64T ((aSwap t n m (Act.mk d1 d2 d3 d4 d5 d6)).m.ho.getD i 0)=i64T (m.ho.getD i 0),(aSwap t n m (Act.mk d1 d2 d3 d4 d5 d6)).m.pr.length=m.pr.length,∀ (i:Nat),i<(aSwap t n m (Act.mk d1 d2 d3 d4 d5 d6)).m.pr.length→((aSwap t n m (Act.mk d1 d2 d3 d4 d5 d6)).m.pr.getD i default).tc=(m.pr.getD i default).tc,(aSwap t n m (Act.mk d1 d2 d3 d4 d5 d6)).to=n.next] W39 (vc:=[(0:Int)≤n.thing,n.thing<(↑m.mem.length:Int),n.thing.toNat<m.mem.length]) (hv:=W2)
theorem Q7b (sh lk:List Dcl) (gs:List Grf) (m:Mch) (t:Int) (n:Nod) (d1 d2 d3 d4 d5 d6:Int) (ht:0≤t∧t<(m.sl.length:Int)) (hl:0≤n.thing∧n.thing<(m.ho.length:Int)):Ctr Tryz.prog 125 [Reg.box 196 (actW 1 t n d1 d2 d3 d4 d5 d6),Reg.box 130 [.h 2,.h 3,.h 4,.h 5,.h 6,.h 7,.h 8,.h 9],Dcl.rowR sh,Dcl.rowR lk,Grf.rowR gs,IntRow m.pos,Slt.ownR m.sl,WordOwn m.mem,IntOwn m.ho,Prt.ownR m.pr] [.c (.p 0 0)]
 (Det (.c (.i .i64 (aLock t n m ⟨d1,d2,d3,d4,d5,d6⟩).to)) [Reg.box 196 (actC 1 t n (aLock t n m ⟨d1,d2,d3,d4,d5,d6⟩).d),Reg.box 130 [.h 2,.h 3,.h 4,.h 5,.h 6,.h 7,.h 8,.h 10],.dead,.dead,.dead,.dead,Slt.ownR (aLock t n m ⟨d1,d2,d3,d4,d5,d6⟩).m.sl,WordOwn (aLock t n m ⟨d1,d2,d3,d4,d5,d6⟩).m.mem,IntOwn (aLock t n m ⟨d1,d2,d3,d4,d5,d6⟩).m.ho,.dead,Prt.ownR (aLock t n m ⟨d1,d2,d3,d4,d5,d6⟩).m.pr]):=by
 refine Ctr.intro [] Tryz.func125 K K ?_
 exact Q1 [0,1,2,3,4,5,6,7,8,9,9] z81_1 [(aLock t n m (Act.mk d1 d2 d3 d4 d5 d6)).d.thread=d1,(aLock t n m (Act.mk d1 d2 d3 d4 d5 d6)).d.node=d2,(aLock t n m (Act.mk d1 d2 d3 d4 d5 d6)).d.kind=d3,(aLock t n m (Act.mk d1 d2 d3 d4 d5 d6)).d.thing=n.thing,(aLock t n m (Act.mk d1 d2 d3 d4 d5 d6)).d.word=d5,(aLock t n m (Act.mk d1 d2 d3 d4 d5 d6)).d.put=d6,(aLock t n m (Act.mk d1 d2 d3 d4 d5 d6)).m.sl.length=m.sl.length,∀ (i:Nat),i<(aLock t n m (Act.mk d1 d2 d3 d4 d5 d6)).m.sl.length→((aLock t n m (Act.mk d1 d2 d3 d4 d5 d6)).m.sl.getD i default).tc=(m.sl.getD i default).tc,(aLock t n m (Act.mk d1 d2 d3 d4 d5 d6)).m.mem.length=m.mem.length,∀ (i:Nat),i<(aLock t n m (Act.mk d1 d2 d3 d4 d5 d6)).m.mem.length→i64T ((aLock t n m (Act.mk d1 d2 d3 d4 d5 d6)).m.mem.getD i 0)=i64T (m.mem.getD i 0),(aLock t n m (Act.mk d1 d2 d3 d4 d5 d6)).m.ho.length=m.ho.length,∀ (i:Nat),i<(aLock t n m (Act.mk d1 d2 d3 d4 d5 d6)).m.ho.length→i64T ((aLock t n m (Act.mk d1 d2 d3 d4 d5 d6)).m.ho.getD i 0)=updT (fun i=>i64T (m.ho.getD i 0)) n.thing.toNat 0 [Value.int IntKind.i64 t] i,(aLock t n m (Act.mk d1 d2 d3 d4 d5 d6)).m.pr.length=m.pr.length,∀ (i:Nat),i<(aLock t n m (Act.mk d1 d2 d3 d4 d5 d6)).m.pr.length→((aLock t n m (Act.mk d1 d2 d3 d4 d5 d6)).m.pr.getD i default).tc=(m.pr.getD i default).tc,(aLock t n m (Act.mk d1 d2 d3 d4 d5 d6)).to=n.next] W39 (vc:=[(0:Int)≤n.thing,n.thing<(↑m.ho.length:Int),n.thing.toNat<m.ho.length]) (hv:=W2)
theorem Q3l (sh lk:List Dcl) (gs:List Grf) (m:Mch) (t:Int) (n:Nod) (d1 d2 d3 d4 d5 d6:Int) (ht:0≤t∧t<(m.sl.length:Int)) (hl:0≤n.thing∧n.thing<(m.ho.length:Int)):Ctr Tryz.prog 126 [Reg.box 196 (actW 1 t n d1 d2 d3 d4 d5 d6),Reg.box 130 [.h 2,.h 3,.h 4,.h 5,.h 6,.h 7,.h 8,.h 9],Dcl.rowR sh,Dcl.rowR lk,Grf.rowR gs,IntRow m.pos,Slt.ownR m.sl,WordOwn m.mem,IntOwn m.ho,Prt.ownR m.pr] [.c (.p 0 0)]
 (Det (.c (.i .i64 (aUnlock t n m ⟨d1,d2,d3,d4,d5,d6⟩).to)) [Reg.box 196 (actC 1 t n (aUnlock t n m ⟨d1,d2,d3,d4,d5,d6⟩).d),Reg.box 130 [.h 2,.h 3,.h 4,.h 5,.h 6,.h 7,.h 8,.h 10],.dead,.dead,.dead,.dead,Slt.ownR (aUnlock t n m ⟨d1,d2,d3,d4,d5,d6⟩).m.sl,WordOwn (aUnlock t n m ⟨d1,d2,d3,d4,d5,d6⟩).m.mem,IntOwn (aUnlock t n m ⟨d1,d2,d3,d4,d5,d6⟩).m.ho,.dead,Prt.ownR (aUnlock t n m ⟨d1,d2,d3,d4,d5,d6⟩).m.pr]):=by
 refine Ctr.intro [] Tryz.func126 K K ?_
 exact Q1 [0,1,2,3,4,5,6,7,8,9,9] z81_1 [(aUnlock t n m (Act.mk d1 d2 d3 d4 d5 d6)).d.thread=d1,(aUnlock t n m (Act.mk d1 d2 d3 d4 d5 d6)).d.node=d2,(aUnlock t n m (Act.mk d1 d2 d3 d4 d5 d6)).d.kind=d3,(aUnlock t n m (Act.mk d1 d2 d3 d4 d5 d6)).d.thing=n.thing,(aUnlock t n m (Act.mk d1 d2 d3 d4 d5 d6)).d.word=d5,(aUnlock t n m (Act.mk d1 d2 d3 d4 d5 d6)).d.put=d6,(aUnlock t n m (Act.mk d1 d2 d3 d4 d5 d6)).m.sl.length=m.sl.length,∀ (i:Nat),i<(aUnlock t n m (Act.mk d1 d2 d3 d4 d5 d6)).m.sl.length→((aUnlock t n m (Act.mk d1 d2 d3 d4 d5 d6)).m.sl.getD i default).tc=(m.sl.getD i default).tc,(aUnlock t n m (Act.mk d1 d2 d3 d4 d5 d6)).m.mem.length=m.mem.length,∀ (i:Nat),i<(aUnlock t n m (Act.mk d1 d2 d3 d4 d5 d6)).m.mem.length→i64T ((aUnlock t n m (Act.mk d1 d2 d3 d4 d5 d6)).m.mem.getD i 0)=i64T (m.mem.getD i 0),(aUnlock t n m (Act.mk d1 d2 d3 d4 d5 d6)).m.ho.length=m.ho.length,∀ (i:Nat),i<(aUnlock t n m (Act.mk d1 d2 d3 d4 d5 d6)).m.ho.length→i64T ((aUnlock t n m (Act.mk d1 d2 d3 d4 d5 d6)).m.ho.getD i 0)=updT (fun i=>i64T (m.ho.getD i 0)) n.thing.toNat 0 [Value.int IntKind.i64 (-1:Int)] i,(aUnlock t n m (Act.mk d1 d2 d3 d4 d5 d6)).m.pr.length=m.pr.length,∀ (i:Nat),i<(aUnlock t n m (Act.mk d1 d2 d3 d4 d5 d6)).m.pr.length→((aUnlock t n m (Act.mk d1 d2 d3 d4 d5 d6)).m.pr.getD i default).tc=(m.pr.getD i default).tc,(aUnlock t n m (Act.mk d1 d2 d3 d4 d5 d6)).to=n.next] W39 (vc:=[(0:Int)≤n.thing,n.thing<(↑m.ho.length:Int),n.thing.toNat<m.ho.length]) (hv:=W2)
theorem Q58 (sh lk:List Dcl) (gs:List Grf) (m:Mch) (t:Int) (n:Nod) (d1 d2 d3 d4 d5 d6:Int) (ht:0≤t∧t<(m.sl.length:Int)) (ha:n.a.slotted=true→0≤n.a.slot∧n.a.slot<((m.sl.getD t.toNat default).l.length:Int)) (hp:m.pr.length≤8388608):Ctr Tryz.prog 127 [Reg.box 196 (actW 1 t n d1 d2 d3 d4 d5 d6),Reg.box 130 [.h 2,.h 3,.h 4,.h 5,.h 6,.h 7,.h 8,.h 9],Dcl.rowR sh,Dcl.rowR lk,Grf.rowR gs,IntRow m.pos,Slt.ownR m.sl,WordOwn m.mem,IntOwn m.ho,Prt.ownR m.pr] [.c (.p 0 0)]
 (Det (.c (.i .i64 (aPrint t n m ⟨d1,d2,d3,d4,d5,d6⟩).to)) [Reg.box 196 (actC 1 t n (aPrint t n m ⟨d1,d2,d3,d4,d5,d6⟩).d),Reg.box 130 [.h 2,.h 3,.h 4,.h 5,.h 6,.h 7,.h 8,.h 10],.dead,.dead,.dead,.dead,Slt.ownR (aPrint t n m ⟨d1,d2,d3,d4,d5,d6⟩).m.sl,WordOwn (aPrint t n m ⟨d1,d2,d3,d4,d5,d6⟩).m.mem,IntOwn (aPrint t n m ⟨d1,d2,d3,d4,d5,d6⟩).m.ho,.dead,Prt.ownR (aPrint t n m ⟨d1,d2,d3,d4,d5,d6⟩).m.pr]):=by
 refine Ctr.intro [] Tryz.func127 K K ?_
 refine Q2 Y4 (Q12 sh lk gs m t n d1 d2 d3 d4 d5 d6 n.a W27 W27) [] ?_
 refine tz [10,3,2,0] ?_
 refine Ju 2 [[],[m.pr.length+1≤maxLen,(m.pr.length+1) * 16≤140737488355328]] [0,0,0,0,1,1,0,0,0,0] ?_ (by simp only [flatP,List.cons_append,List.nil_append,Conj,Fits,Q9,Qa,Qf,Qg,News.len,maxLen]<;>(repeat' (first | apply And.intro | intro _))<;>first | grind | (simp only [BL] at *;omega))
 exact Q87 [(11,(Prt.tc ⟨t,wordV m.sl t n.a⟩))] [0,1,2,3,4,5,6,7,8,9,11] z81_1 [(aPrint t n m (Act.mk d1 d2 d3 d4 d5 d6)).d.thread=d1,(aPrint t n m (Act.mk d1 d2 d3 d4 d5 d6)).d.node=d2,(aPrint t n m (Act.mk d1 d2 d3 d4 d5 d6)).d.kind=d3,(aPrint t n m (Act.mk d1 d2 d3 d4 d5 d6)).d.thing=d4,(aPrint t n m (Act.mk d1 d2 d3 d4 d5 d6)).d.word=wordV m.sl t n.a,(aPrint t n m (Act.mk d1 d2 d3 d4 d5 d6)).d.put=d6,(aPrint t n m (Act.mk d1 d2 d3 d4 d5 d6)).m.sl.length=m.sl.length,∀ (i:Nat),i<(aPrint t n m (Act.mk d1 d2 d3 d4 d5 d6)).m.sl.length→((aPrint t n m (Act.mk d1 d2 d3 d4 d5 d6)).m.sl.getD i default).tc=(m.sl.getD i default).tc,(aPrint t n m (Act.mk d1 d2 d3 d4 d5 d6)).m.mem.length=m.mem.length,∀ (i:Nat),i<(aPrint t n m (Act.mk d1 d2 d3 d4 d5 d6)).m.mem.length→i64T ((aPrint t n m (Act.mk d1 d2 d3 d4 d5 d6)).m.mem.getD i 0)=i64T (m.mem.getD i 0),(aPrint t n m (Act.mk d1 d2 d3 d4 d5 d6)).m.ho.length=m.ho.length,∀ (i:Nat),i<(aPrint t n m (Act.mk d1 d2 d3 d4 d5 d6)).m.ho.length→i64T ((aPrint t n m (Act.mk d1 d2 d3 d4 d5 d6)).m.ho.getD i 0)=i64T (m.ho.getD i 0),(aPrint t n m (Act.mk d1 d2 d3 d4 d5 d6)).m.pr.length=m.pr.length+1,∀ (i:Nat),i<(aPrint t n m (Act.mk d1 d2 d3 d4 d5 d6)).m.pr.length→((aPrint t n m (Act.mk d1 d2 d3 d4 d5 d6)).m.pr.getD i default).tc=if i=m.pr.length then (Prt.mk t (wordV m.sl t n.a)).tc else (m.pr.getD i default).tc,(aPrint t n m (Act.mk d1 d2 d3 d4 d5 d6)).to=n.next] W39 (vc2:=[t=t,wordV m.sl t n.a=wordV m.sl t n.a]) (hv2:=W123)
abbrev z81_3 (t:Int) (n:Nod) (m:Mch) (d1:Int) (d2:Int) (d3:Int) (d4:Int) (d5:Int) (d6:Int):=(aBranch t n m (Act.mk d1 d2 d3 d4 d5 d6))
theorem Q3m (sh lk:List Dcl) (gs:List Grf) (m:Mch) (t:Int) (n:Nod) (d1 d2 d3 d4 d5 d6:Int) (ht:0≤t∧t<(m.sl.length:Int)) (ha:n.a.slotted=true→0≤n.a.slot∧n.a.slot<((m.sl.getD t.toNat default).l.length:Int)):Ctr Tryz.prog 128 [Reg.box 196 (actW 1 t n d1 d2 d3 d4 d5 d6),Reg.box 130 [.h 2,.h 3,.h 4,.h 5,.h 6,.h 7,.h 8,.h 9],Dcl.rowR sh,Dcl.rowR lk,Grf.rowR gs,IntRow m.pos,Slt.ownR m.sl,WordOwn m.mem,IntOwn m.ho,Prt.ownR m.pr] [.c (.p 0 0)]
 (Det (.c (.i .i64 (aBranch t n m ⟨d1,d2,d3,d4,d5,d6⟩).to)) [Reg.box 196 (actC 1 t n (aBranch t n m ⟨d1,d2,d3,d4,d5,d6⟩).d),Reg.box 130 [.h 2,.h 3,.h 4,.h 5,.h 6,.h 7,.h 8,.h 10],.dead,.dead,.dead,.dead,Slt.ownR (aBranch t n m ⟨d1,d2,d3,d4,d5,d6⟩).m.sl,WordOwn (aBranch t n m ⟨d1,d2,d3,d4,d5,d6⟩).m.mem,IntOwn (aBranch t n m ⟨d1,d2,d3,d4,d5,d6⟩).m.ho,.dead,Prt.ownR (aBranch t n m ⟨d1,d2,d3,d4,d5,d6⟩).m.pr]):=by
 refine Ctr.intro [] Tryz.func128 K K ?_
 refine Q2 Y4 (Q12 sh lk gs m t n d1 d2 d3 d4 d5 d6 n.a W27 W27) [] ?_
 refine tz [10,3,2,0] ?_
 refine Q0 (decide (wordV m.sl t n.a=(0:Int))) (fun h1=>?_) (fun h1=>?_)
 ·exact Q1 [0,1,2,3,4,5,6,7,8,9,9] z81_1 [(z81_3 t n m d1 d2 d3 d4 d5 d6).d.thread=d1,(z81_3 t n m d1 d2 d3 d4 d5 d6).d.node=d2,(z81_3 t n m d1 d2 d3 d4 d5 d6).d.kind=d3,(z81_3 t n m d1 d2 d3 d4 d5 d6).d.thing=d4,(z81_3 t n m d1 d2 d3 d4 d5 d6).d.word=wordV m.sl t n.a,(z81_3 t n m d1 d2 d3 d4 d5 d6).d.put=d6,(z81_3 t n m d1 d2 d3 d4 d5 d6).m.sl.length=m.sl.length,∀ (i:Nat),i<(z81_3 t n m d1 d2 d3 d4 d5 d6).m.sl.length→((z81_3 t n m d1 d2 d3 d4 d5 d6).m.sl.getD i default).tc=(m.sl.getD i default).tc,(z81_3 t n m d1 d2 d3 d4 d5 d6).m.mem.length=m.mem.length,∀ (i:Nat),i<(z81_3 t n m d1 d2 d3 d4 d5 d6).m.mem.length→i64T ((z81_3 t n m d1 d2 d3 d4 d5 d6).m.mem.getD i 0)=i64T (m.mem.getD i 0),(z81_3 t n m d1 d2 d3 d4 d5 d6).m.ho.length=m.ho.length,∀ (i:Nat),i<(z81_3 t n m d1 d2 d3 d4 d5 d6).m.ho.length→i64T ((z81_3 t n m d1 d2 d3 d4 d5 d6).m.ho.getD i 0)=i64T (m.ho.getD i 0),(z81_3 t n m d1 d2 d3 d4 d5 d6).m.pr.length=m.pr.length,∀ (i:Nat),i<(z81_3 t n m d1 d2 d3 d4 d5 d6).m.pr.length→((z81_3 t n m d1 d2 d3 d4 d5 d6).m.pr.getD i default).tc=(m.pr.getD i default).tc,(z81_3 t n m d1 d2 d3 d4 d5 d6).to=n.els] W96
 ·exact Q1 [0,1,2,3,4,5,6,7,8,9,9] z81_1 [(z81_3 t n m d1 d2 d3 d4 d5 d6).d.thread=d1,(z81_3 t n m d1 d2 d3 d4 d5 d6).d.node=d2,(z81_3 t n m d1 d2 d3 d4 d5 d6).d.kind=d3,(z81_3 t n m d1 d2 d3 d4 d5 d6).d.thing=d4,(z81_3 t n m d1 d2 d3 d4 d5 d6).d.word=wordV m.sl t n.a,(z81_3 t n m d1 d2 d3 d4 d5 d6).d.put=d6,(z81_3 t n m d1 d2 d3 d4 d5 d6).m.sl.length=m.sl.length,∀ (i:Nat),i<(z81_3 t n m d1 d2 d3 d4 d5 d6).m.sl.length→((z81_3 t n m d1 d2 d3 d4 d5 d6).m.sl.getD i default).tc=(m.sl.getD i default).tc,(z81_3 t n m d1 d2 d3 d4 d5 d6).m.mem.length=m.mem.length,∀ (i:Nat),i<(z81_3 t n m d1 d2 d3 d4 d5 d6).m.mem.length→i64T ((z81_3 t n m d1 d2 d3 d4 d5 d6).m.mem.getD i 0)=i64T (m.mem.getD i 0),(z81_3 t n m d1 d2 d3 d4 d5 d6).m.ho.length=m.ho.length,∀ (i:Nat),i<(z81_3 t n m d1 d2 d3 d4 d5 d6).m.ho.length→i64T ((z81_3 t n m d1 d2 d3 d4 d5 d6).m.ho.getD i 0)=i64T (m.ho.getD i 0),(z81_3 t n m d1 d2 d3 d4 d5 d6).m.pr.length=m.pr.length,∀ (i:Nat),i<(z81_3 t n m d1 d2 d3 d4 d5 d6).m.pr.length→((z81_3 t n m d1 d2 d3 d4 d5 d6).m.pr.getD i default).tc=(m.pr.getD i default).tc,(z81_3 t n m d1 d2 d3 d4 d5 d6).to=n.next] W96
end Go.Proofs.YtmaodngbpfjnnaaGreat
end
noncomputable section
namespace Go.Proofs.YtmaodngbpfjnnaaGreat
open Go Go.Tx
theorem Qw :Ctr Tryz.prog 109 [] []
 (Det (.agg [.v Value.nilFunc,C.fn 121 false [],C.fn 122 false [],C.fn 123 false [],C.fn 124 false [],C.fn 125 false [],C.fn 126 false [],C.fn 127 false [],C.fn 128 false [],.v Value.nilFunc]) []):=by
 refine Ctr.intro [] Tryz.func109 K K ?_
 exact Q1
def C29 (sh lk:List Dcl) (gs:List Grf) (m:Mch) (t:Int):St:=St.mk 69 [se 8 (C.p 11 0),se 5 (C.i .i64 0),se 4 (C.p 9 0),se 0 (C.p 0 0),se 1 (C.i .i64 t)] [Reg.box 130 [.h 1,.h 2,.h 3,.h 4,.h 5,.h 6,.h 7,.h 8],Dcl.rowR sh,Dcl.rowR lk,Grf.rowR gs,IntOwn m.pos,Slt.ownR m.sl,WordOwn m.mem,IntOwn m.ho,Prt.ownR m.pr,Reg.box 165 [C.i .i64 0,C.i .i64 0,C.i .u8 0,C.i .i64 0,C.i .i64 0,C.i .i64 0],Reg.dead,Reg.box 196 (actW 0 t (nodA gs m.pos t) t (m.pos.getD t.toNat 0) (nodA gs m.pos t).kind 0 0 0)] []
abbrev z82_13 (t:Int) (gs:List Grf) (m:Mch):=(aUnlock t (nodA gs m.pos t) m (Act.mk t (m.pos.getD t.toNat 0) (6:Int) (0:Int) (0:Int) (0:Int)))
abbrev z82_21:=Reg.box 165 [C.i .i64 0,C.i .i64 0,C.i .u8 0,C.i .i64 0,C.i .i64 0,C.i .i64 0]
abbrev z82_22 (sh:List Dcl):=rowOf 3 (·.tc) sh
abbrev z82_23 (lk:List Dcl):=rowOf 3 (·.tc) lk
abbrev z82_24 (gs:List Grf):=rowOf 4 (·.tc) gs
abbrev z82_25 (m:Mch):=(fun i=>i64T (m.pos.getD i 0))
abbrev z82_26:=[se 8 (C.p 11 0),se 5 (C.i .i64 0),se 4 (C.p 9 0)]
abbrev z82_27:=Reg.box 130 [C.h 1,C.h 2,C.h 3,C.h 4,C.h 5,C.h 6,C.h 7,C.h 12]
abbrev z82_1 (sh:List Dcl) (lk:List Dcl) (gs:List Grf) (m:Mch) (t:Int):=St.mk 69 z82_26 [z82_27,z82_22 sh,z82_23 lk,z82_24 gs,Reg.own 3 1 m.pos.length (updT (z82_25 m) t.toNat 0 [Value.int IntKind.i64 (z82_13 t gs m).to]) none,Reg.own 26 1 (z82_13 t gs m).m.sl.length (fun i=>((z82_13 t gs m).m.sl.getD i default).tc) none,Reg.own 2 1 (z82_13 t gs m).m.mem.length (fun i=>i64T ((z82_13 t gs m).m.mem.getD i 0)) none,Reg.own 3 1 (z82_13 t gs m).m.ho.length (fun i=>i64T ((z82_13 t gs m).m.ho.getD i 0)) none,Reg.dead,z82_21,Reg.dead,Reg.box 196 [C.p 0 0,C.i .i64 t,C.i .u8 (nodA gs m.pos t).kind,C.i .u8 (nodA gs m.pos t).op,C.i .i64 (nodA gs m.pos t).slot,C.i .i64 (nodA gs m.pos t).thing,C.b (nodA gs m.pos t).a.slotted,C.i .i64 (nodA gs m.pos t).a.slot,C.i .i64 (nodA gs m.pos t).a.word,C.b (nodA gs m.pos t).b.slotted,C.i .i64 (nodA gs m.pos t).b.slot,C.i .i64 (nodA gs m.pos t).b.word,C.i .i64 (nodA gs m.pos t).next,C.i .i64 (nodA gs m.pos t).els,C.i .i64 (nodA gs m.pos t).origin,C.i .i64 (z82_13 t gs m).d.thread,C.i .i64 (z82_13 t gs m).d.node,C.i .u8 (z82_13 t gs m).d.kind,C.i .i64 (z82_13 t gs m).d.thing,C.i .i64 (z82_13 t gs m).d.word,C.i .i64 (z82_13 t gs m).d.put],Reg.own 74 2 (z82_13 t gs m).m.pr.length (fun i=>((z82_13 t gs m).m.pr.getD i default).tc) none] []
abbrev z82_14 (t:Int) (gs:List Grf) (m:Mch):=(aBranch t (nodA gs m.pos t) m (Act.mk t (m.pos.getD t.toNat 0) (8:Int) (0:Int) (0:Int) (0:Int)))
abbrev z82_2 (sh:List Dcl) (lk:List Dcl) (gs:List Grf) (m:Mch) (t:Int):=St.mk 69 z82_26 [z82_27,z82_22 sh,z82_23 lk,z82_24 gs,Reg.own 3 1 m.pos.length (updT (z82_25 m) t.toNat 0 [Value.int IntKind.i64 (z82_14 t gs m).to]) none,Reg.own 26 1 (z82_14 t gs m).m.sl.length (fun i=>((z82_14 t gs m).m.sl.getD i default).tc) none,Reg.own 2 1 (z82_14 t gs m).m.mem.length (fun i=>i64T ((z82_14 t gs m).m.mem.getD i 0)) none,Reg.own 3 1 (z82_14 t gs m).m.ho.length (fun i=>i64T ((z82_14 t gs m).m.ho.getD i 0)) none,Reg.dead,z82_21,Reg.dead,Reg.box 196 [C.p 0 0,C.i .i64 t,C.i .u8 (nodA gs m.pos t).kind,C.i .u8 (nodA gs m.pos t).op,C.i .i64 (nodA gs m.pos t).slot,C.i .i64 (nodA gs m.pos t).thing,C.b (nodA gs m.pos t).a.slotted,C.i .i64 (nodA gs m.pos t).a.slot,C.i .i64 (nodA gs m.pos t).a.word,C.b (nodA gs m.pos t).b.slotted,C.i .i64 (nodA gs m.pos t).b.slot,C.i .i64 (nodA gs m.pos t).b.word,C.i .i64 (nodA gs m.pos t).next,C.i .i64 (nodA gs m.pos t).els,C.i .i64 (nodA gs m.pos t).origin,C.i .i64 (z82_14 t gs m).d.thread,C.i .i64 (z82_14 t gs m).d.node,C.i .u8 (z82_14 t gs m).d.kind,C.i .i64 (z82_14 t gs m).d.thing,C.i .i64 (z82_14 t gs m).d.word,C.i .i64 (z82_14 t gs m).d.put],Reg.own 74 2 (z82_14 t gs m).m.pr.length (fun i=>((z82_14 t gs m).m.pr.getD i default).tc) none] []
abbrev z82_15 (t:Int) (gs:List Grf) (m:Mch):=(aStore t (nodA gs m.pos t) m (Act.mk t (m.pos.getD t.toNat 0) (3:Int) (0:Int) (0:Int) (0:Int)))
abbrev z82_3 (sh:List Dcl) (lk:List Dcl) (gs:List Grf) (m:Mch) (t:Int):=St.mk 69 z82_26 [z82_27,z82_22 sh,z82_23 lk,z82_24 gs,Reg.own 3 1 m.pos.length (updT (z82_25 m) t.toNat 0 [Value.int IntKind.i64 (z82_15 t gs m).to]) none,Reg.own 26 1 (z82_15 t gs m).m.sl.length (fun i=>((z82_15 t gs m).m.sl.getD i default).tc) none,Reg.own 2 1 (z82_15 t gs m).m.mem.length (fun i=>i64T ((z82_15 t gs m).m.mem.getD i 0)) none,Reg.own 3 1 (z82_15 t gs m).m.ho.length (fun i=>i64T ((z82_15 t gs m).m.ho.getD i 0)) none,Reg.dead,z82_21,Reg.dead,Reg.box 196 [C.p 0 0,C.i .i64 t,C.i .u8 (nodA gs m.pos t).kind,C.i .u8 (nodA gs m.pos t).op,C.i .i64 (nodA gs m.pos t).slot,C.i .i64 (nodA gs m.pos t).thing,C.b (nodA gs m.pos t).a.slotted,C.i .i64 (nodA gs m.pos t).a.slot,C.i .i64 (nodA gs m.pos t).a.word,C.b (nodA gs m.pos t).b.slotted,C.i .i64 (nodA gs m.pos t).b.slot,C.i .i64 (nodA gs m.pos t).b.word,C.i .i64 (nodA gs m.pos t).next,C.i .i64 (nodA gs m.pos t).els,C.i .i64 (nodA gs m.pos t).origin,C.i .i64 (z82_15 t gs m).d.thread,C.i .i64 (z82_15 t gs m).d.node,C.i .u8 (z82_15 t gs m).d.kind,C.i .i64 (z82_15 t gs m).d.thing,C.i .i64 (z82_15 t gs m).d.word,C.i .i64 (z82_15 t gs m).d.put],Reg.own 74 2 (z82_15 t gs m).m.pr.length (fun i=>((z82_15 t gs m).m.pr.getD i default).tc) none] []
abbrev z82_16 (t:Int) (gs:List Grf) (m:Mch):=(aPrint t (nodA gs m.pos t) m (Act.mk t (m.pos.getD t.toNat 0) (7:Int) (0:Int) (0:Int) (0:Int)))
abbrev z82_4 (sh:List Dcl) (lk:List Dcl) (gs:List Grf) (m:Mch) (t:Int):=St.mk 69 z82_26 [z82_27,z82_22 sh,z82_23 lk,z82_24 gs,Reg.own 3 1 m.pos.length (updT (z82_25 m) t.toNat 0 [Value.int IntKind.i64 (z82_16 t gs m).to]) none,Reg.own 26 1 (z82_16 t gs m).m.sl.length (fun i=>((z82_16 t gs m).m.sl.getD i default).tc) none,Reg.own 2 1 (z82_16 t gs m).m.mem.length (fun i=>i64T ((z82_16 t gs m).m.mem.getD i 0)) none,Reg.own 3 1 (z82_16 t gs m).m.ho.length (fun i=>i64T ((z82_16 t gs m).m.ho.getD i 0)) none,Reg.dead,z82_21,Reg.dead,Reg.box 196 [C.p 0 0,C.i .i64 t,C.i .u8 (nodA gs m.pos t).kind,C.i .u8 (nodA gs m.pos t).op,C.i .i64 (nodA gs m.pos t).slot,C.i .i64 (nodA gs m.pos t).thing,C.b (nodA gs m.pos t).a.slotted,C.i .i64 (nodA gs m.pos t).a.slot,C.i .i64 (nodA gs m.pos t).a.word,C.b (nodA gs m.pos t).b.slotted,C.i .i64 (nodA gs m.pos t).b.slot,C.i .i64 (nodA gs m.pos t).b.word,C.i .i64 (nodA gs m.pos t).next,C.i .i64 (nodA gs m.pos t).els,C.i .i64 (nodA gs m.pos t).origin,C.i .i64 (z82_16 t gs m).d.thread,C.i .i64 (z82_16 t gs m).d.node,C.i .u8 (z82_16 t gs m).d.kind,C.i .i64 (z82_16 t gs m).d.thing,C.i .i64 (z82_16 t gs m).d.word,C.i .i64 (z82_16 t gs m).d.put],Reg.own 74 2 (z82_16 t gs m).m.pr.length (fun i=>((z82_16 t gs m).m.pr.getD i default).tc) none] []
abbrev z82_17 (t:Int) (gs:List Grf) (m:Mch):=(aLoad t (nodA gs m.pos t) m (Act.mk t (m.pos.getD t.toNat 0) (2:Int) (0:Int) (0:Int) (0:Int)))
abbrev z82_5 (sh:List Dcl) (lk:List Dcl) (gs:List Grf) (m:Mch) (t:Int):=St.mk 69 z82_26 [z82_27,z82_22 sh,z82_23 lk,z82_24 gs,Reg.own 3 1 m.pos.length (updT (z82_25 m) t.toNat 0 [Value.int IntKind.i64 (z82_17 t gs m).to]) none,Reg.own 26 1 (z82_17 t gs m).m.sl.length (fun i=>((z82_17 t gs m).m.sl.getD i default).tc) none,Reg.own 2 1 (z82_17 t gs m).m.mem.length (fun i=>i64T ((z82_17 t gs m).m.mem.getD i 0)) none,Reg.own 3 1 (z82_17 t gs m).m.ho.length (fun i=>i64T ((z82_17 t gs m).m.ho.getD i 0)) none,Reg.dead,z82_21,Reg.dead,Reg.box 196 [C.p 0 0,C.i .i64 t,C.i .u8 (nodA gs m.pos t).kind,C.i .u8 (nodA gs m.pos t).op,C.i .i64 (nodA gs m.pos t).slot,C.i .i64 (nodA gs m.pos t).thing,C.b (nodA gs m.pos t).a.slotted,C.i .i64 (nodA gs m.pos t).a.slot,C.i .i64 (nodA gs m.pos t).a.word,C.b (nodA gs m.pos t).b.slotted,C.i .i64 (nodA gs m.pos t).b.slot,C.i .i64 (nodA gs m.pos t).b.word,C.i .i64 (nodA gs m.pos t).next,C.i .i64 (nodA gs m.pos t).els,C.i .i64 (nodA gs m.pos t).origin,C.i .i64 (z82_17 t gs m).d.thread,C.i .i64 (z82_17 t gs m).d.node,C.i .u8 (z82_17 t gs m).d.kind,C.i .i64 (z82_17 t gs m).d.thing,C.i .i64 (z82_17 t gs m).d.word,C.i .i64 (z82_17 t gs m).d.put],Reg.own 74 2 (z82_17 t gs m).m.pr.length (fun i=>((z82_17 t gs m).m.pr.getD i default).tc) none] []
abbrev z82_18 (t:Int) (gs:List Grf) (m:Mch):=(aSwap t (nodA gs m.pos t) m (Act.mk t (m.pos.getD t.toNat 0) (4:Int) (0:Int) (0:Int) (0:Int)))
abbrev z82_6 (sh:List Dcl) (lk:List Dcl) (gs:List Grf) (m:Mch) (t:Int):=St.mk 69 z82_26 [z82_27,z82_22 sh,z82_23 lk,z82_24 gs,Reg.own 3 1 m.pos.length (updT (z82_25 m) t.toNat 0 [Value.int IntKind.i64 (z82_18 t gs m).to]) none,Reg.own 26 1 (z82_18 t gs m).m.sl.length (fun i=>((z82_18 t gs m).m.sl.getD i default).tc) none,Reg.own 2 1 (z82_18 t gs m).m.mem.length (fun i=>i64T ((z82_18 t gs m).m.mem.getD i 0)) none,Reg.own 3 1 (z82_18 t gs m).m.ho.length (fun i=>i64T ((z82_18 t gs m).m.ho.getD i 0)) none,Reg.dead,z82_21,Reg.dead,Reg.box 196 [C.p 0 0,C.i .i64 t,C.i .u8 (nodA gs m.pos t).kind,C.i .u8 (nodA gs m.pos t).op,C.i .i64 (nodA gs m.pos t).slot,C.i .i64 (nodA gs m.pos t).thing,C.b (nodA gs m.pos t).a.slotted,C.i .i64 (nodA gs m.pos t).a.slot,C.i .i64 (nodA gs m.pos t).a.word,C.b (nodA gs m.pos t).b.slotted,C.i .i64 (nodA gs m.pos t).b.slot,C.i .i64 (nodA gs m.pos t).b.word,C.i .i64 (nodA gs m.pos t).next,C.i .i64 (nodA gs m.pos t).els,C.i .i64 (nodA gs m.pos t).origin,C.i .i64 (z82_18 t gs m).d.thread,C.i .i64 (z82_18 t gs m).d.node,C.i .u8 (z82_18 t gs m).d.kind,C.i .i64 (z82_18 t gs m).d.thing,C.i .i64 (z82_18 t gs m).d.word,C.i .i64 (z82_18 t gs m).d.put],Reg.own 74 2 (z82_18 t gs m).m.pr.length (fun i=>((z82_18 t gs m).m.pr.getD i default).tc) none] []
abbrev z82_19 (t:Int) (gs:List Grf) (m:Mch):=(aLock t (nodA gs m.pos t) m (Act.mk t (m.pos.getD t.toNat 0) (5:Int) (0:Int) (0:Int) (0:Int)))
abbrev z82_7 (sh:List Dcl) (lk:List Dcl) (gs:List Grf) (m:Mch) (t:Int):=St.mk 69 z82_26 [z82_27,z82_22 sh,z82_23 lk,z82_24 gs,Reg.own 3 1 m.pos.length (updT (z82_25 m) t.toNat 0 [Value.int IntKind.i64 (z82_19 t gs m).to]) none,Reg.own 26 1 (z82_19 t gs m).m.sl.length (fun i=>((z82_19 t gs m).m.sl.getD i default).tc) none,Reg.own 2 1 (z82_19 t gs m).m.mem.length (fun i=>i64T ((z82_19 t gs m).m.mem.getD i 0)) none,Reg.own 3 1 (z82_19 t gs m).m.ho.length (fun i=>i64T ((z82_19 t gs m).m.ho.getD i 0)) none,Reg.dead,z82_21,Reg.dead,Reg.box 196 [C.p 0 0,C.i .i64 t,C.i .u8 (nodA gs m.pos t).kind,C.i .u8 (nodA gs m.pos t).op,C.i .i64 (nodA gs m.pos t).slot,C.i .i64 (nodA gs m.pos t).thing,C.b (nodA gs m.pos t).a.slotted,C.i .i64 (nodA gs m.pos t).a.slot,C.i .i64 (nodA gs m.pos t).a.word,C.b (nodA gs m.pos t).b.slotted,C.i .i64 (nodA gs m.pos t).b.slot,C.i .i64 (nodA gs m.pos t).b.word,C.i .i64 (nodA gs m.pos t).next,C.i .i64 (nodA gs m.pos t).els,C.i .i64 (nodA gs m.pos t).origin,C.i .i64 (z82_19 t gs m).d.thread,C.i .i64 (z82_19 t gs m).d.node,C.i .u8 (z82_19 t gs m).d.kind,C.i .i64 (z82_19 t gs m).d.thing,C.i .i64 (z82_19 t gs m).d.word,C.i .i64 (z82_19 t gs m).d.put],Reg.own 74 2 (z82_19 t gs m).m.pr.length (fun i=>((z82_19 t gs m).m.pr.getD i default).tc) none] []
abbrev z82_20 (t:Int) (gs:List Grf) (m:Mch):=(aSet t (nodA gs m.pos t) m (Act.mk t (m.pos.getD t.toNat 0) (1:Int) (0:Int) (0:Int) (0:Int)))
abbrev z82_8 (sh:List Dcl) (lk:List Dcl) (gs:List Grf) (m:Mch) (t:Int):=St.mk 69 z82_26 [z82_27,z82_22 sh,z82_23 lk,z82_24 gs,Reg.own 3 1 m.pos.length (updT (z82_25 m) t.toNat 0 [Value.int IntKind.i64 (z82_20 t gs m).to]) none,Reg.own 26 1 (z82_20 t gs m).m.sl.length (fun i=>((z82_20 t gs m).m.sl.getD i default).tc) none,Reg.own 2 1 (z82_20 t gs m).m.mem.length (fun i=>i64T ((z82_20 t gs m).m.mem.getD i 0)) none,Reg.own 3 1 (z82_20 t gs m).m.ho.length (fun i=>i64T ((z82_20 t gs m).m.ho.getD i 0)) none,Reg.dead,z82_21,Reg.dead,Reg.box 196 [C.p 0 0,C.i .i64 t,C.i .u8 (nodA gs m.pos t).kind,C.i .u8 (nodA gs m.pos t).op,C.i .i64 (nodA gs m.pos t).slot,C.i .i64 (nodA gs m.pos t).thing,C.b (nodA gs m.pos t).a.slotted,C.i .i64 (nodA gs m.pos t).a.slot,C.i .i64 (nodA gs m.pos t).a.word,C.b (nodA gs m.pos t).b.slotted,C.i .i64 (nodA gs m.pos t).b.slot,C.i .i64 (nodA gs m.pos t).b.word,C.i .i64 (nodA gs m.pos t).next,C.i .i64 (nodA gs m.pos t).els,C.i .i64 (nodA gs m.pos t).origin,C.i .i64 (z82_20 t gs m).d.thread,C.i .i64 (z82_20 t gs m).d.node,C.i .u8 (z82_20 t gs m).d.kind,C.i .i64 (z82_20 t gs m).d.thing,C.i .i64 (z82_20 t gs m).d.word,C.i .i64 (z82_20 t gs m).d.put],Reg.own 74 2 (z82_20 t gs m).m.pr.length (fun i=>((z82_20 t gs m).m.pr.getD i default).tc) none] []
abbrev z82_9 (t:Int):=[se 8 (C.p 11 0),se 5 (C.i .i64 0),se 4 (C.p 9 0),se 0 (C.p 0 0),se 1 (C.i .i64 t)]
abbrev z82_10 (gs:List Grf) (t:Int) (m:Mch):=((gs.getD t.toNat default).nodes.getD (m.pos.getD t.toNat 0).toNat default)
abbrev z82_11:=Reg.box 130 [C.h 1,C.h 2,C.h 3,C.h 4,C.h 5,C.h 6,C.h 7,C.h 8]
abbrev z82_12 (m:Mch):=ownOf 74 2 (·.tc) m.pr
abbrev z82_28 (m:Mch):=WordOwn m.mem
abbrev z82_29 (m:Mch):=ownOf 26 1 (·.tc) m.sl
abbrev z82_30 (m:Mch):=IntOwn m.ho
abbrev z82_31:=[0,1,2,3,4,5,6,7,8,9,10,11,12,13,14,15,16]
abbrev z82_32:=[55,53,62,60,59,58,57,56,54,52,51,50,8,5,4,0,1]
abbrev z82_33:=[55,62,60,59,58,57,56,54,52,51,50,8,5,4,0,1]
abbrev z82_34 (m:Mch) (t:Int):=C.i .i64 (m.pos.getD t.toNat 0)
abbrev z82_35 (m:Mch):=Reg.own 3 1 m.pos.length (z82_25 m) none
theorem Qlq (sh lk:List Dcl) (gs:List Grf) (m:Mch) (t:Int) (hQ:MchQ sh.length lk.length gs m) (hw:UnitW gs) (hp:m.pr.length≤8388608):Ctr Tryz.prog 82 [Reg.box 130 [.h 1,.h 2,.h 3,.h 4,.h 5,.h 6,.h 7,.h 8],Dcl.rowR sh,Dcl.rowR lk,Grf.rowR gs,IntOwn m.pos,Slt.ownR m.sl,WordOwn m.mem,IntOwn m.ho,Prt.ownR m.pr] [.c (.p 0 0),.c (.i .i64 t)]
 (Det (.tup [(true,(stepM gs t m).d.cs),(false,[.i .i64 (stepM gs t m).err])]) [Reg.box 130 [.h 1,.h 2,.h 3,.h 4,.h 5,.h 6,.h 7,.h 9],.dead,.dead,.dead,IntOwn (stepM gs t m).m.pos,Slt.ownR (stepM gs t m).m.sl,WordOwn (stepM gs t m).m.mem,IntOwn (stepM gs t m).m.ho,.dead,Prt.ownR (stepM gs t m).m.pr]):=by
 refine Ctr.intro [] Tryz.func82 K K ?_
 refine Q2 Y3 (Qkx sh lk gs m t W1 W1) [] ?_
 refine tz [11,5,4,0,1] ?_
 refine Q0 (!decide (barV gs m.pos m.ho t=(0:Int))) (fun h1=>?_) (fun h1=>?_)
 ·exact Q1 [0,1,2,3,4,5,6,7,8,8] z82_31 [(stepM gs t m).m.pos.length=m.pos.length,∀ (i:Nat),i<(stepM gs t m).m.pos.length→i64T ((stepM gs t m).m.pos.getD i 0)=i64T (m.pos.getD i 0),(stepM gs t m).m.sl.length=m.sl.length,∀ (i:Nat),i<(stepM gs t m).m.sl.length→((stepM gs t m).m.sl.getD i default).tc=(m.sl.getD i default).tc,(stepM gs t m).m.mem.length=m.mem.length,∀ (i:Nat),i<(stepM gs t m).m.mem.length→i64T ((stepM gs t m).m.mem.getD i 0)=i64T (m.mem.getD i 0),(stepM gs t m).m.ho.length=m.ho.length,∀ (i:Nat),i<(stepM gs t m).m.ho.length→i64T ((stepM gs t m).m.ho.getD i 0)=i64T (m.ho.getD i 0),(stepM gs t m).m.pr.length=m.pr.length,∀ (i:Nat),i<(stepM gs t m).m.pr.length→((stepM gs t m).m.pr.getD i default).tc=(m.pr.getD i default).tc,(stepM gs t m).d.thread=(0:Int),(stepM gs t m).d.node=(0:Int),(stepM gs t m).d.kind=(0:Int),(stepM gs t m).d.thing=(0:Int),(stepM gs t m).d.word=(0:Int),(stepM gs t m).d.put=(0:Int),(stepM gs t m).err=barV gs m.pos m.ho t] W21
 ·refine Yu 3 (t.toNat) ?_ (vc:=[t.toNat<gs.length]) (hv:=W5)
  refine RunF.cutn 3 (fun _:Unit=>C29 sh lk gs m t) (fun _=>True) ?_ ?_
  ·exact tTo (fun xUnit=>C29 sh lk gs m t) (fun xUnit=>True) () trivial [] [23,24,25,26,27,28,29,30,31,32,33,34,35,38] [(nodA gs m.pos t).kind=(z82_10 gs t m).kind,(nodA gs m.pos t).op=(z82_10 gs t m).op,(nodA gs m.pos t).slot=(z82_10 gs t m).slot,(nodA gs m.pos t).thing=(z82_10 gs t m).thing,(nodA gs m.pos t).a.slotted=(z82_10 gs t m).a.slotted,(nodA gs m.pos t).a.slot=(z82_10 gs t m).a.slot,(nodA gs m.pos t).a.word=(z82_10 gs t m).a.word,(nodA gs m.pos t).b.slotted=(z82_10 gs t m).b.slotted,(nodA gs m.pos t).b.slot=(z82_10 gs t m).b.slot,(nodA gs m.pos t).b.word=(z82_10 gs t m).b.word,(nodA gs m.pos t).next=(z82_10 gs t m).next,(nodA gs m.pos t).els=(z82_10 gs t m).els,(nodA gs m.pos t).origin=(z82_10 gs t m).origin,(nodA gs m.pos t).kind=(z82_10 gs t m).kind] W0 (vc:=[(0:Int)≤t,t<(↑m.pos.length:Int),t.toNat<m.pos.length,(0:Int)≤t,t<(↑gs.length:Int),t.toNat=t.toNat,(0:Int)≤m.pos.getD t.toNat 0,m.pos.getD t.toNat 0<(↑(gs.getD t.toNat default).nodes.length:Int),(m.pos.getD t.toNat 0).toNat<(gs.getD t.toNat default).nodes.length]) (hv:=W5)
  ·rintro ⟨⟩ hCC29
   rcases (show (nodA gs m.pos t).kind=(1:Int)∨(nodA gs m.pos t).kind=(2:Int)∨(nodA gs m.pos t).kind=(3:Int)∨(nodA gs m.pos t).kind=(4:Int)∨(nodA gs m.pos t).kind=(5:Int)∨(nodA gs m.pos t).kind=(6:Int)∨(nodA gs m.pos t).kind=(7:Int)∨(nodA gs m.pos t).kind=(8:Int) from kinds8 (hQ.nod hw (Qr h1).1 (Qr h1).2.1) (Qr h1).2.2) with hs2 | hs2 | hs2 | hs2 | hs2 | hs2 | hs2 | hs2
   ·refine tWk (St.mk 69 (z82_9 t) [z82_11,z82_22 sh,z82_23 lk,z82_24 gs,z82_35 m,z82_29 m,z82_28 m,z82_30 m,z82_12 m,z82_21,Reg.dead,Reg.box 196 [C.p 0 0,C.i .i64 t,C.i .u8 1,C.i .u8 (nodA gs m.pos t).op,C.i .i64 (nodA gs m.pos t).slot,C.i .i64 (nodA gs m.pos t).thing,C.b (nodA gs m.pos t).a.slotted,C.i .i64 (nodA gs m.pos t).a.slot,C.i .i64 (nodA gs m.pos t).a.word,C.b (nodA gs m.pos t).b.slotted,C.i .i64 (nodA gs m.pos t).b.slot,C.i .i64 (nodA gs m.pos t).b.word,C.i .i64 (nodA gs m.pos t).next,C.i .i64 (nodA gs m.pos t).els,C.i .i64 (nodA gs m.pos t).origin,C.i .i64 t,z82_34 m t,C.i .u8 1,C.i .i64 0,C.i .i64 0,C.i .i64 0]] []) ?_ [] [23,38] [(1:Int)=(nodA gs m.pos t).kind,(1:Int)=(nodA gs m.pos t).kind] W12
    refine tz [8,5,4,0,1] ?_
    refine Qi 2 (fun _:Unit=>z82_8 sh lk gs m t) (fun _=>True) ?_ ?_
    ·refine ⟨⟨trivial,?_⟩,?_⟩
     ·refine Q2 Qc (Qw) [] ?_
      refine tz z82_32 ?_
      refine Q2 Zx (Q9h sh lk gs m t (nodA gs m.pos t) t (m.pos.getD t.toNat 0) 1 0 0 0 W1 W1 W1 W1) [11,0,1,2,3,4,5,6,7,8] ?_ [1] [(nodA gs m.pos t).kind=(1:Int)] W0 (vc:=[(0:Int)≤(1:Int),(1:Int)<(10:Int)]) (hv:=W5)
      exact tTo (fun x=>z82_8 sh lk gs m t) (fun x=>True) () trivial (vc:=[(0:Int)≤t,t<(↑m.pos.length:Int),t.toNat<m.pos.length]) (hv:=W5)
     ·refine Q2 Qc (Qw) [] ?_
      refine tz z82_33 ?_
      refine Qi 2 (fun _:Unit=>z82_8 sh lk gs m t) (fun _=>True) ?_ ?_ (vc:=[(0:Int)≤(1:Int),(1:Int)<(10:Int)]) (hv:=W5)
      ·refine ⟨⟨trivial,?_⟩,?_⟩
       ·refine Q2 Zx (Q9h sh lk gs m t (nodA gs m.pos t) t (m.pos.getD t.toNat 0) 1 0 0 0 W1 W1 W1 W1) [11,0,1,2,3,4,5,6,7,8] ?_ [1] [(nodA gs m.pos t).kind=(1:Int)] W0
        exact tTo (fun x=>z82_8 sh lk gs m t) (fun x=>True) () trivial (vc:=[(0:Int)≤t,t<(↑m.pos.length:Int),t.toNat<m.pos.length]) (hv:=W5)
       ·refine Q2 Zx (Q9h sh lk gs m t (nodA gs m.pos t) t (m.pos.getD t.toNat 0) 1 0 0 0 W1 W1 W1 W1) [11,0,1,2,3,4,5,6,7,8] ?_ [1] [(nodA gs m.pos t).kind=(1:Int)] W0
        exact tTo (fun x=>z82_8 sh lk gs m t) (fun x=>True) () trivial (vc:=[(0:Int)≤t,t<(↑m.pos.length:Int),t.toNat<m.pos.length]) (hv:=W5)
      ·rintro ⟨⟩ _
       exact tTo (fun x=>z82_8 sh lk gs m t) (fun x=>True) () trivial
    ·rintro ⟨⟩ _
     exact Q1 [0,1,2,3,4,5,6,7,8,12] z82_31 [(stepM gs t m).m.pos.length=m.pos.length,∀ (i:Nat),i<(stepM gs t m).m.pos.length→i64T ((stepM gs t m).m.pos.getD i 0)=updT (z82_25 m) t.toNat 0 [Value.int IntKind.i64 (z82_20 t gs m).to] i,(stepM gs t m).m.sl.length=(z82_20 t gs m).m.sl.length,∀ (i:Nat),i<(stepM gs t m).m.sl.length→((stepM gs t m).m.sl.getD i default).tc=((z82_20 t gs m).m.sl.getD i default).tc,(stepM gs t m).m.mem.length=(z82_20 t gs m).m.mem.length,∀ (i:Nat),i<(stepM gs t m).m.mem.length→i64T ((stepM gs t m).m.mem.getD i 0)=i64T ((z82_20 t gs m).m.mem.getD i 0),(stepM gs t m).m.ho.length=(z82_20 t gs m).m.ho.length,∀ (i:Nat),i<(stepM gs t m).m.ho.length→i64T ((stepM gs t m).m.ho.getD i 0)=i64T ((z82_20 t gs m).m.ho.getD i 0),(stepM gs t m).m.pr.length=(z82_20 t gs m).m.pr.length,∀ (i:Nat),i<(stepM gs t m).m.pr.length→((stepM gs t m).m.pr.getD i default).tc=((z82_20 t gs m).m.pr.getD i default).tc,(stepM gs t m).d.thread=(z82_20 t gs m).d.thread,(stepM gs t m).d.node=(z82_20 t gs m).d.node,(stepM gs t m).d.kind=(z82_20 t gs m).d.kind,(stepM gs t m).d.thing=(z82_20 t gs m).d.thing,(stepM gs t m).d.word=(z82_20 t gs m).d.word,(stepM gs t m).d.put=(z82_20 t gs m).d.put,(stepM gs t m).err=(0:Int)] W21
   ·refine tWk (St.mk 69 (z82_9 t) [z82_11,z82_22 sh,z82_23 lk,z82_24 gs,z82_35 m,z82_29 m,z82_28 m,z82_30 m,z82_12 m,z82_21,Reg.dead,Reg.box 196 [C.p 0 0,C.i .i64 t,C.i .u8 2,C.i .u8 (nodA gs m.pos t).op,C.i .i64 (nodA gs m.pos t).slot,C.i .i64 (nodA gs m.pos t).thing,C.b (nodA gs m.pos t).a.slotted,C.i .i64 (nodA gs m.pos t).a.slot,C.i .i64 (nodA gs m.pos t).a.word,C.b (nodA gs m.pos t).b.slotted,C.i .i64 (nodA gs m.pos t).b.slot,C.i .i64 (nodA gs m.pos t).b.word,C.i .i64 (nodA gs m.pos t).next,C.i .i64 (nodA gs m.pos t).els,C.i .i64 (nodA gs m.pos t).origin,C.i .i64 t,z82_34 m t,C.i .u8 2,C.i .i64 0,C.i .i64 0,C.i .i64 0]] []) ?_ [] [23,38] [(2:Int)=(nodA gs m.pos t).kind,(2:Int)=(nodA gs m.pos t).kind] W12
    refine tz [8,5,4,0,1] ?_
    refine Qi 2 (fun _:Unit=>z82_5 sh lk gs m t) (fun _=>True) ?_ ?_
    ·refine ⟨⟨trivial,?_⟩,?_⟩
     ·refine Q2 Qc (Qw) [] ?_
      refine tz z82_32 ?_
      refine Q2 Zp (Q79 sh lk gs m t (nodA gs m.pos t) t (m.pos.getD t.toNat 0) 2 0 0 0 W1 W1 W1) [11,0,1,2,3,4,5,6,7,8] ?_ [1] [(nodA gs m.pos t).kind=(2:Int)] W0 (vc:=[(0:Int)≤(2:Int),(2:Int)<(10:Int)]) (hv:=W5)
      exact tTo (fun x=>z82_5 sh lk gs m t) (fun x=>True) () trivial (vc:=[(0:Int)≤t,t<(↑m.pos.length:Int),t.toNat<m.pos.length]) (hv:=W5)
     ·refine Q2 Qc (Qw) [] ?_
      refine tz z82_33 ?_
      refine Qi 2 (fun _:Unit=>z82_5 sh lk gs m t) (fun _=>True) ?_ ?_ (vc:=[(0:Int)≤(2:Int),(2:Int)<(10:Int)]) (hv:=W5)
      ·refine ⟨⟨trivial,?_⟩,?_⟩
       ·refine Q2 Zp (Q79 sh lk gs m t (nodA gs m.pos t) t (m.pos.getD t.toNat 0) 2 0 0 0 W1 W1 W1) [11,0,1,2,3,4,5,6,7,8] ?_ [1] [(nodA gs m.pos t).kind=(2:Int)] W0
        exact tTo (fun x=>z82_5 sh lk gs m t) (fun x=>True) () trivial (vc:=[(0:Int)≤t,t<(↑m.pos.length:Int),t.toNat<m.pos.length]) (hv:=W5)
       ·refine Q2 Zp (Q79 sh lk gs m t (nodA gs m.pos t) t (m.pos.getD t.toNat 0) 2 0 0 0 W1 W1 W1) [11,0,1,2,3,4,5,6,7,8] ?_ [1] [(nodA gs m.pos t).kind=(2:Int)] W0
        exact tTo (fun x=>z82_5 sh lk gs m t) (fun x=>True) () trivial (vc:=[(0:Int)≤t,t<(↑m.pos.length:Int),t.toNat<m.pos.length]) (hv:=W5)
      ·rintro ⟨⟩ _
       exact tTo (fun x=>z82_5 sh lk gs m t) (fun x=>True) () trivial
    ·rintro ⟨⟩ _
     exact Q1 [0,1,2,3,4,5,6,7,8,12] z82_31 [(stepM gs t m).m.pos.length=m.pos.length,∀ (i:Nat),i<(stepM gs t m).m.pos.length→i64T ((stepM gs t m).m.pos.getD i 0)=updT (z82_25 m) t.toNat 0 [Value.int IntKind.i64 (z82_17 t gs m).to] i,(stepM gs t m).m.sl.length=(z82_17 t gs m).m.sl.length,∀ (i:Nat),i<(stepM gs t m).m.sl.length→((stepM gs t m).m.sl.getD i default).tc=((z82_17 t gs m).m.sl.getD i default).tc,(stepM gs t m).m.mem.length=(z82_17 t gs m).m.mem.length,∀ (i:Nat),i<(stepM gs t m).m.mem.length→i64T ((stepM gs t m).m.mem.getD i 0)=i64T ((z82_17 t gs m).m.mem.getD i 0),(stepM gs t m).m.ho.length=(z82_17 t gs m).m.ho.length,∀ (i:Nat),i<(stepM gs t m).m.ho.length→i64T ((stepM gs t m).m.ho.getD i 0)=i64T ((z82_17 t gs m).m.ho.getD i 0),(stepM gs t m).m.pr.length=(z82_17 t gs m).m.pr.length,∀ (i:Nat),i<(stepM gs t m).m.pr.length→((stepM gs t m).m.pr.getD i default).tc=((z82_17 t gs m).m.pr.getD i default).tc,(stepM gs t m).d.thread=(z82_17 t gs m).d.thread,(stepM gs t m).d.node=(z82_17 t gs m).d.node,(stepM gs t m).d.kind=(z82_17 t gs m).d.kind,(stepM gs t m).d.thing=(z82_17 t gs m).d.thing,(stepM gs t m).d.word=(z82_17 t gs m).d.word,(stepM gs t m).d.put=(z82_17 t gs m).d.put,(stepM gs t m).err=(0:Int)] W21
   ·refine tWk (St.mk 69 (z82_9 t) [z82_11,z82_22 sh,z82_23 lk,z82_24 gs,z82_35 m,z82_29 m,z82_28 m,z82_30 m,z82_12 m,z82_21,Reg.dead,Reg.box 196 [C.p 0 0,C.i .i64 t,C.i .u8 3,C.i .u8 (nodA gs m.pos t).op,C.i .i64 (nodA gs m.pos t).slot,C.i .i64 (nodA gs m.pos t).thing,C.b (nodA gs m.pos t).a.slotted,C.i .i64 (nodA gs m.pos t).a.slot,C.i .i64 (nodA gs m.pos t).a.word,C.b (nodA gs m.pos t).b.slotted,C.i .i64 (nodA gs m.pos t).b.slot,C.i .i64 (nodA gs m.pos t).b.word,C.i .i64 (nodA gs m.pos t).next,C.i .i64 (nodA gs m.pos t).els,C.i .i64 (nodA gs m.pos t).origin,C.i .i64 t,z82_34 m t,C.i .u8 3,C.i .i64 0,C.i .i64 0,C.i .i64 0]] []) ?_ [] [23,38] [(3:Int)=(nodA gs m.pos t).kind,(3:Int)=(nodA gs m.pos t).kind] W12
    refine tz [8,5,4,0,1] ?_
    refine Qi 2 (fun _:Unit=>z82_3 sh lk gs m t) (fun _=>True) ?_ ?_
    ·refine ⟨⟨trivial,?_⟩,?_⟩
     ·refine Q2 Qc (Qw) [] ?_
      refine tz z82_32 ?_
      refine Q2 Zf (Q57 sh lk gs m t (nodA gs m.pos t) t (m.pos.getD t.toNat 0) 3 0 0 0 W1 W1 W1) [11,0,1,2,3,4,5,6,7,8] ?_ [1] [(nodA gs m.pos t).kind=(3:Int)] W0 (vc:=[(0:Int)≤(3:Int),(3:Int)<(10:Int)]) (hv:=W5)
      exact tTo (fun x=>z82_3 sh lk gs m t) (fun x=>True) () trivial (vc:=[(0:Int)≤t,t<(↑m.pos.length:Int),t.toNat<m.pos.length]) (hv:=W5)
     ·refine Q2 Qc (Qw) [] ?_
      refine tz z82_33 ?_
      refine Qi 2 (fun _:Unit=>z82_3 sh lk gs m t) (fun _=>True) ?_ ?_ (vc:=[(0:Int)≤(3:Int),(3:Int)<(10:Int)]) (hv:=W5)
      ·refine ⟨⟨trivial,?_⟩,?_⟩
       ·refine Q2 Zf (Q57 sh lk gs m t (nodA gs m.pos t) t (m.pos.getD t.toNat 0) 3 0 0 0 W1 W1 W1) [11,0,1,2,3,4,5,6,7,8] ?_ [1] [(nodA gs m.pos t).kind=(3:Int)] W0
        exact tTo (fun x=>z82_3 sh lk gs m t) (fun x=>True) () trivial (vc:=[(0:Int)≤t,t<(↑m.pos.length:Int),t.toNat<m.pos.length]) (hv:=W5)
       ·refine Q2 Zf (Q57 sh lk gs m t (nodA gs m.pos t) t (m.pos.getD t.toNat 0) 3 0 0 0 W1 W1 W1) [11,0,1,2,3,4,5,6,7,8] ?_ [1] [(nodA gs m.pos t).kind=(3:Int)] W0
        exact tTo (fun x=>z82_3 sh lk gs m t) (fun x=>True) () trivial (vc:=[(0:Int)≤t,t<(↑m.pos.length:Int),t.toNat<m.pos.length]) (hv:=W5)
      ·rintro ⟨⟩ _
       exact tTo (fun x=>z82_3 sh lk gs m t) (fun x=>True) () trivial
    ·rintro ⟨⟩ _
     exact Q1 [0,1,2,3,4,5,6,7,8,12] z82_31 [(stepM gs t m).m.pos.length=m.pos.length,∀ (i:Nat),i<(stepM gs t m).m.pos.length→i64T ((stepM gs t m).m.pos.getD i 0)=updT (z82_25 m) t.toNat 0 [Value.int IntKind.i64 (z82_15 t gs m).to] i,(stepM gs t m).m.sl.length=(z82_15 t gs m).m.sl.length,∀ (i:Nat),i<(stepM gs t m).m.sl.length→((stepM gs t m).m.sl.getD i default).tc=((z82_15 t gs m).m.sl.getD i default).tc,(stepM gs t m).m.mem.length=(z82_15 t gs m).m.mem.length,∀ (i:Nat),i<(stepM gs t m).m.mem.length→i64T ((stepM gs t m).m.mem.getD i 0)=i64T ((z82_15 t gs m).m.mem.getD i 0),(stepM gs t m).m.ho.length=(z82_15 t gs m).m.ho.length,∀ (i:Nat),i<(stepM gs t m).m.ho.length→i64T ((stepM gs t m).m.ho.getD i 0)=i64T ((z82_15 t gs m).m.ho.getD i 0),(stepM gs t m).m.pr.length=(z82_15 t gs m).m.pr.length,∀ (i:Nat),i<(stepM gs t m).m.pr.length→((stepM gs t m).m.pr.getD i default).tc=((z82_15 t gs m).m.pr.getD i default).tc,(stepM gs t m).d.thread=(z82_15 t gs m).d.thread,(stepM gs t m).d.node=(z82_15 t gs m).d.node,(stepM gs t m).d.kind=(z82_15 t gs m).d.kind,(stepM gs t m).d.thing=(z82_15 t gs m).d.thing,(stepM gs t m).d.word=(z82_15 t gs m).d.word,(stepM gs t m).d.put=(z82_15 t gs m).d.put,(stepM gs t m).err=(0:Int)] W21
   ·refine tWk (St.mk 69 (z82_9 t) [z82_11,z82_22 sh,z82_23 lk,z82_24 gs,z82_35 m,z82_29 m,z82_28 m,z82_30 m,z82_12 m,z82_21,Reg.dead,Reg.box 196 [C.p 0 0,C.i .i64 t,C.i .u8 4,C.i .u8 (nodA gs m.pos t).op,C.i .i64 (nodA gs m.pos t).slot,C.i .i64 (nodA gs m.pos t).thing,C.b (nodA gs m.pos t).a.slotted,C.i .i64 (nodA gs m.pos t).a.slot,C.i .i64 (nodA gs m.pos t).a.word,C.b (nodA gs m.pos t).b.slotted,C.i .i64 (nodA gs m.pos t).b.slot,C.i .i64 (nodA gs m.pos t).b.word,C.i .i64 (nodA gs m.pos t).next,C.i .i64 (nodA gs m.pos t).els,C.i .i64 (nodA gs m.pos t).origin,C.i .i64 t,z82_34 m t,C.i .u8 4,C.i .i64 0,C.i .i64 0,C.i .i64 0]] []) ?_ [] [23,38] [(4:Int)=(nodA gs m.pos t).kind,(4:Int)=(nodA gs m.pos t).kind] W12
    refine tz [8,5,4,0,1] ?_
    refine Qi 2 (fun _:Unit=>z82_6 sh lk gs m t) (fun _=>True) ?_ ?_
    ·refine ⟨⟨trivial,?_⟩,?_⟩
     ·refine Q2 Qc (Qw) [] ?_
      refine tz z82_32 ?_
      refine Q2 Zq (Q7a sh lk gs m t (nodA gs m.pos t) t (m.pos.getD t.toNat 0) 4 0 0 0 W1 W1 W1 W1) [11,0,1,2,3,4,5,6,7,8] ?_ [1] [(nodA gs m.pos t).kind=(4:Int)] W0 (vc:=[(0:Int)≤(4:Int),(4:Int)<(10:Int)]) (hv:=W5)
      exact tTo (fun x=>z82_6 sh lk gs m t) (fun x=>True) () trivial (vc:=[(0:Int)≤t,t<(↑m.pos.length:Int),t.toNat<m.pos.length]) (hv:=W5)
     ·refine Q2 Qc (Qw) [] ?_
      refine tz z82_33 ?_
      refine Qi 2 (fun _:Unit=>z82_6 sh lk gs m t) (fun _=>True) ?_ ?_ (vc:=[(0:Int)≤(4:Int),(4:Int)<(10:Int)]) (hv:=W5)
      ·refine ⟨⟨trivial,?_⟩,?_⟩
       ·refine Q2 Zq (Q7a sh lk gs m t (nodA gs m.pos t) t (m.pos.getD t.toNat 0) 4 0 0 0 W1 W1 W1 W1) [11,0,1,2,3,4,5,6,7,8] ?_ [1] [(nodA gs m.pos t).kind=(4:Int)] W0
        exact tTo (fun x=>z82_6 sh lk gs m t) (fun x=>True) () trivial (vc:=[(0:Int)≤t,t<(↑m.pos.length:Int),t.toNat<m.pos.length]) (hv:=W5)
       ·refine Q2 Zq (Q7a sh lk gs m t (nodA gs m.pos t) t (m.pos.getD t.toNat 0) 4 0 0 0 W1 W1 W1 W1) [11,0,1,2,3,4,5,6,7,8] ?_ [1] [(nodA gs m.pos t).kind=(4:Int)] W0
        exact tTo (fun x=>z82_6 sh lk gs m t) (fun x=>True) () trivial (vc:=[(0:Int)≤t,t<(↑m.pos.length:Int),t.toNat<m.pos.length]) (hv:=W5)
      ·rintro ⟨⟩ _
       exact tTo (fun x=>z82_6 sh lk gs m t) (fun x=>True) () trivial
    ·rintro ⟨⟩ _
     exact Q1 [0,1,2,3,4,5,6,7,8,12] z82_31 [(stepM gs t m).m.pos.length=m.pos.length,∀ (i:Nat),i<(stepM gs t m).m.pos.length→i64T ((stepM gs t m).m.pos.getD i 0)=updT (z82_25 m) t.toNat 0 [Value.int IntKind.i64 (z82_18 t gs m).to] i,(stepM gs t m).m.sl.length=(z82_18 t gs m).m.sl.length,∀ (i:Nat),i<(stepM gs t m).m.sl.length→((stepM gs t m).m.sl.getD i default).tc=((z82_18 t gs m).m.sl.getD i default).tc,(stepM gs t m).m.mem.length=(z82_18 t gs m).m.mem.length,∀ (i:Nat),i<(stepM gs t m).m.mem.length→i64T ((stepM gs t m).m.mem.getD i 0)=i64T ((z82_18 t gs m).m.mem.getD i 0),(stepM gs t m).m.ho.length=(z82_18 t gs m).m.ho.length,∀ (i:Nat),i<(stepM gs t m).m.ho.length→i64T ((stepM gs t m).m.ho.getD i 0)=i64T ((z82_18 t gs m).m.ho.getD i 0),(stepM gs t m).m.pr.length=(z82_18 t gs m).m.pr.length,∀ (i:Nat),i<(stepM gs t m).m.pr.length→((stepM gs t m).m.pr.getD i default).tc=((z82_18 t gs m).m.pr.getD i default).tc,(stepM gs t m).d.thread=(z82_18 t gs m).d.thread,(stepM gs t m).d.node=(z82_18 t gs m).d.node,(stepM gs t m).d.kind=(z82_18 t gs m).d.kind,(stepM gs t m).d.thing=(z82_18 t gs m).d.thing,(stepM gs t m).d.word=(z82_18 t gs m).d.word,(stepM gs t m).d.put=(z82_18 t gs m).d.put,(stepM gs t m).err=(0:Int)] W21
   ·refine tWk (St.mk 69 (z82_9 t) [z82_11,z82_22 sh,z82_23 lk,z82_24 gs,z82_35 m,z82_29 m,z82_28 m,z82_30 m,z82_12 m,z82_21,Reg.dead,Reg.box 196 [C.p 0 0,C.i .i64 t,C.i .u8 5,C.i .u8 (nodA gs m.pos t).op,C.i .i64 (nodA gs m.pos t).slot,C.i .i64 (nodA gs m.pos t).thing,C.b (nodA gs m.pos t).a.slotted,C.i .i64 (nodA gs m.pos t).a.slot,C.i .i64 (nodA gs m.pos t).a.word,C.b (nodA gs m.pos t).b.slotted,C.i .i64 (nodA gs m.pos t).b.slot,C.i .i64 (nodA gs m.pos t).b.word,C.i .i64 (nodA gs m.pos t).next,C.i .i64 (nodA gs m.pos t).els,C.i .i64 (nodA gs m.pos t).origin,C.i .i64 t,z82_34 m t,C.i .u8 5,C.i .i64 0,C.i .i64 0,C.i .i64 0]] []) ?_ [] [23,38] [(5:Int)=(nodA gs m.pos t).kind,(5:Int)=(nodA gs m.pos t).kind] W12
    refine tz [8,5,4,0,1] ?_
    refine Qi 2 (fun _:Unit=>z82_7 sh lk gs m t) (fun _=>True) ?_ ?_
    ·refine ⟨⟨trivial,?_⟩,?_⟩
     ·refine Q2 Qc (Qw) [] ?_
      refine tz z82_32 ?_
      refine Q2 Zr (Q7b sh lk gs m t (nodA gs m.pos t) t (m.pos.getD t.toNat 0) 5 0 0 0 W1 W1) [11,0,1,2,3,4,5,6,7,8] ?_ [1] [(nodA gs m.pos t).kind=(5:Int)] W0 (vc:=[(0:Int)≤(5:Int),(5:Int)<(10:Int)]) (hv:=W5)
      exact tTo (fun x=>z82_7 sh lk gs m t) (fun x=>True) () trivial (vc:=[(0:Int)≤t,t<(↑m.pos.length:Int),t.toNat<m.pos.length]) (hv:=W5)
     ·refine Q2 Qc (Qw) [] ?_
      refine tz z82_33 ?_
      refine Qi 2 (fun _:Unit=>z82_7 sh lk gs m t) (fun _=>True) ?_ ?_ (vc:=[(0:Int)≤(5:Int),(5:Int)<(10:Int)]) (hv:=W5)
      ·refine ⟨⟨trivial,?_⟩,?_⟩
       ·refine Q2 Zr (Q7b sh lk gs m t (nodA gs m.pos t) t (m.pos.getD t.toNat 0) 5 0 0 0 W1 W1) [11,0,1,2,3,4,5,6,7,8] ?_ [1] [(nodA gs m.pos t).kind=(5:Int)] W0
        exact tTo (fun x=>z82_7 sh lk gs m t) (fun x=>True) () trivial (vc:=[(0:Int)≤t,t<(↑m.pos.length:Int),t.toNat<m.pos.length]) (hv:=W5)
       ·refine Q2 Zr (Q7b sh lk gs m t (nodA gs m.pos t) t (m.pos.getD t.toNat 0) 5 0 0 0 W1 W1) [11,0,1,2,3,4,5,6,7,8] ?_ [1] [(nodA gs m.pos t).kind=(5:Int)] W0
        exact tTo (fun x=>z82_7 sh lk gs m t) (fun x=>True) () trivial (vc:=[(0:Int)≤t,t<(↑m.pos.length:Int),t.toNat<m.pos.length]) (hv:=W5)
      ·rintro ⟨⟩ _
       exact tTo (fun x=>z82_7 sh lk gs m t) (fun x=>True) () trivial
    ·rintro ⟨⟩ _
     exact Q1 [0,1,2,3,4,5,6,7,8,12] z82_31 [(stepM gs t m).m.pos.length=m.pos.length,∀ (i:Nat),i<(stepM gs t m).m.pos.length→i64T ((stepM gs t m).m.pos.getD i 0)=updT (z82_25 m) t.toNat 0 [Value.int IntKind.i64 (z82_19 t gs m).to] i,(stepM gs t m).m.sl.length=(z82_19 t gs m).m.sl.length,∀ (i:Nat),i<(stepM gs t m).m.sl.length→((stepM gs t m).m.sl.getD i default).tc=((z82_19 t gs m).m.sl.getD i default).tc,(stepM gs t m).m.mem.length=(z82_19 t gs m).m.mem.length,∀ (i:Nat),i<(stepM gs t m).m.mem.length→i64T ((stepM gs t m).m.mem.getD i 0)=i64T ((z82_19 t gs m).m.mem.getD i 0),(stepM gs t m).m.ho.length=(z82_19 t gs m).m.ho.length,∀ (i:Nat),i<(stepM gs t m).m.ho.length→i64T ((stepM gs t m).m.ho.getD i 0)=i64T ((z82_19 t gs m).m.ho.getD i 0),(stepM gs t m).m.pr.length=(z82_19 t gs m).m.pr.length,∀ (i:Nat),i<(stepM gs t m).m.pr.length→((stepM gs t m).m.pr.getD i default).tc=((z82_19 t gs m).m.pr.getD i default).tc,(stepM gs t m).d.thread=(z82_19 t gs m).d.thread,(stepM gs t m).d.node=(z82_19 t gs m).d.node,(stepM gs t m).d.kind=(z82_19 t gs m).d.kind,(stepM gs t m).d.thing=(z82_19 t gs m).d.thing,(stepM gs t m).d.word=(z82_19 t gs m).d.word,(stepM gs t m).d.put=(z82_19 t gs m).d.put,(stepM gs t m).err=(0:Int)] W21
   ·refine tWk (St.mk 69 (z82_9 t) [z82_11,z82_22 sh,z82_23 lk,z82_24 gs,z82_35 m,z82_29 m,z82_28 m,z82_30 m,z82_12 m,z82_21,Reg.dead,Reg.box 196 [C.p 0 0,C.i .i64 t,C.i .u8 6,C.i .u8 (nodA gs m.pos t).op,C.i .i64 (nodA gs m.pos t).slot,C.i .i64 (nodA gs m.pos t).thing,C.b (nodA gs m.pos t).a.slotted,C.i .i64 (nodA gs m.pos t).a.slot,C.i .i64 (nodA gs m.pos t).a.word,C.b (nodA gs m.pos t).b.slotted,C.i .i64 (nodA gs m.pos t).b.slot,C.i .i64 (nodA gs m.pos t).b.word,C.i .i64 (nodA gs m.pos t).next,C.i .i64 (nodA gs m.pos t).els,C.i .i64 (nodA gs m.pos t).origin,C.i .i64 t,z82_34 m t,C.i .u8 6,C.i .i64 0,C.i .i64 0,C.i .i64 0]] []) ?_ [] [23,38] [(6:Int)=(nodA gs m.pos t).kind,(6:Int)=(nodA gs m.pos t).kind] W12
    refine tz [8,5,4,0,1] ?_
    refine Qi 2 (fun _:Unit=>z82_1 sh lk gs m t) (fun _=>True) ?_ ?_
    ·refine ⟨⟨trivial,?_⟩,?_⟩
     ·refine Q2 Qc (Qw) [] ?_
      refine tz z82_32 ?_
      refine Q2 Z8 (Q3l sh lk gs m t (nodA gs m.pos t) t (m.pos.getD t.toNat 0) 6 0 0 0 W1 W1) [11,0,1,2,3,4,5,6,7,8] ?_ [1] [(nodA gs m.pos t).kind=(6:Int)] W0 (vc:=[(0:Int)≤(6:Int),(6:Int)<(10:Int)]) (hv:=W5)
      exact tTo (fun x=>z82_1 sh lk gs m t) (fun x=>True) () trivial (vc:=[(0:Int)≤t,t<(↑m.pos.length:Int),t.toNat<m.pos.length]) (hv:=W5)
     ·refine Q2 Qc (Qw) [] ?_
      refine tz z82_33 ?_
      refine Qi 2 (fun _:Unit=>z82_1 sh lk gs m t) (fun _=>True) ?_ ?_ (vc:=[(0:Int)≤(6:Int),(6:Int)<(10:Int)]) (hv:=W5)
      ·refine ⟨⟨trivial,?_⟩,?_⟩
       ·refine Q2 Z8 (Q3l sh lk gs m t (nodA gs m.pos t) t (m.pos.getD t.toNat 0) 6 0 0 0 W1 W1) [11,0,1,2,3,4,5,6,7,8] ?_ [1] [(nodA gs m.pos t).kind=(6:Int)] W0
        exact tTo (fun x=>z82_1 sh lk gs m t) (fun x=>True) () trivial (vc:=[(0:Int)≤t,t<(↑m.pos.length:Int),t.toNat<m.pos.length]) (hv:=W5)
       ·refine Q2 Z8 (Q3l sh lk gs m t (nodA gs m.pos t) t (m.pos.getD t.toNat 0) 6 0 0 0 W1 W1) [11,0,1,2,3,4,5,6,7,8] ?_ [1] [(nodA gs m.pos t).kind=(6:Int)] W0
        exact tTo (fun x=>z82_1 sh lk gs m t) (fun x=>True) () trivial (vc:=[(0:Int)≤t,t<(↑m.pos.length:Int),t.toNat<m.pos.length]) (hv:=W5)
      ·rintro ⟨⟩ _
       exact tTo (fun x=>z82_1 sh lk gs m t) (fun x=>True) () trivial
    ·rintro ⟨⟩ _
     exact Q1 [0,1,2,3,4,5,6,7,8,12] z82_31 [(stepM gs t m).m.pos.length=m.pos.length,∀ (i:Nat),i<(stepM gs t m).m.pos.length→i64T ((stepM gs t m).m.pos.getD i 0)=updT (z82_25 m) t.toNat 0 [Value.int IntKind.i64 (z82_13 t gs m).to] i,(stepM gs t m).m.sl.length=(z82_13 t gs m).m.sl.length,∀ (i:Nat),i<(stepM gs t m).m.sl.length→((stepM gs t m).m.sl.getD i default).tc=((z82_13 t gs m).m.sl.getD i default).tc,(stepM gs t m).m.mem.length=(z82_13 t gs m).m.mem.length,∀ (i:Nat),i<(stepM gs t m).m.mem.length→i64T ((stepM gs t m).m.mem.getD i 0)=i64T ((z82_13 t gs m).m.mem.getD i 0),(stepM gs t m).m.ho.length=(z82_13 t gs m).m.ho.length,∀ (i:Nat),i<(stepM gs t m).m.ho.length→i64T ((stepM gs t m).m.ho.getD i 0)=i64T ((z82_13 t gs m).m.ho.getD i 0),(stepM gs t m).m.pr.length=(z82_13 t gs m).m.pr.length,∀ (i:Nat),i<(stepM gs t m).m.pr.length→((stepM gs t m).m.pr.getD i default).tc=((z82_13 t gs m).m.pr.getD i default).tc,(stepM gs t m).d.thread=(z82_13 t gs m).d.thread,(stepM gs t m).d.node=(z82_13 t gs m).d.node,(stepM gs t m).d.kind=(z82_13 t gs m).d.kind,(stepM gs t m).d.thing=(z82_13 t gs m).d.thing,(stepM gs t m).d.word=(z82_13 t gs m).d.word,(stepM gs t m).d.put=(z82_13 t gs m).d.put,(stepM gs t m).err=(0:Int)] W21
   ·refine tWk (St.mk 69 (z82_9 t) [z82_11,z82_22 sh,z82_23 lk,z82_24 gs,z82_35 m,z82_29 m,z82_28 m,z82_30 m,z82_12 m,z82_21,Reg.dead,Reg.box 196 [C.p 0 0,C.i .i64 t,C.i .u8 7,C.i .u8 (nodA gs m.pos t).op,C.i .i64 (nodA gs m.pos t).slot,C.i .i64 (nodA gs m.pos t).thing,C.b (nodA gs m.pos t).a.slotted,C.i .i64 (nodA gs m.pos t).a.slot,C.i .i64 (nodA gs m.pos t).a.word,C.b (nodA gs m.pos t).b.slotted,C.i .i64 (nodA gs m.pos t).b.slot,C.i .i64 (nodA gs m.pos t).b.word,C.i .i64 (nodA gs m.pos t).next,C.i .i64 (nodA gs m.pos t).els,C.i .i64 (nodA gs m.pos t).origin,C.i .i64 t,z82_34 m t,C.i .u8 7,C.i .i64 0,C.i .i64 0,C.i .i64 0]] []) ?_ [] [23,38] [(7:Int)=(nodA gs m.pos t).kind,(7:Int)=(nodA gs m.pos t).kind] W12
    refine tz [8,5,4,0,1] ?_
    refine Qi 2 (fun _:Unit=>z82_4 sh lk gs m t) (fun _=>True) ?_ ?_
    ·refine ⟨⟨trivial,?_⟩,?_⟩
     ·refine Q2 Qc (Qw) [] ?_
      refine tz z82_32 ?_
      refine Q2 Zg (Q58 sh lk gs m t (nodA gs m.pos t) t (m.pos.getD t.toNat 0) 7 0 0 0 W1 W1 W1) [11,0,1,2,3,4,5,6,7,8] ?_ [1] [(nodA gs m.pos t).kind=(7:Int)] W0 (vc:=[(0:Int)≤(7:Int),(7:Int)<(10:Int)]) (hv:=W5)
      exact tTo (fun x=>z82_4 sh lk gs m t) (fun x=>True) () trivial (vc:=[(0:Int)≤t,t<(↑m.pos.length:Int),t.toNat<m.pos.length]) (hv:=W5)
     ·refine Q2 Qc (Qw) [] ?_
      refine tz z82_33 ?_
      refine Qi 2 (fun _:Unit=>z82_4 sh lk gs m t) (fun _=>True) ?_ ?_ (vc:=[(0:Int)≤(7:Int),(7:Int)<(10:Int)]) (hv:=W5)
      ·refine ⟨⟨trivial,?_⟩,?_⟩
       ·refine Q2 Zg (Q58 sh lk gs m t (nodA gs m.pos t) t (m.pos.getD t.toNat 0) 7 0 0 0 W1 W1 W1) [11,0,1,2,3,4,5,6,7,8] ?_ [1] [(nodA gs m.pos t).kind=(7:Int)] W0
        exact tTo (fun x=>z82_4 sh lk gs m t) (fun x=>True) () trivial (vc:=[(0:Int)≤t,t<(↑m.pos.length:Int),t.toNat<m.pos.length]) (hv:=W5)
       ·refine Q2 Zg (Q58 sh lk gs m t (nodA gs m.pos t) t (m.pos.getD t.toNat 0) 7 0 0 0 W1 W1 W1) [11,0,1,2,3,4,5,6,7,8] ?_ [1] [(nodA gs m.pos t).kind=(7:Int)] W0
        exact tTo (fun x=>z82_4 sh lk gs m t) (fun x=>True) () trivial (vc:=[(0:Int)≤t,t<(↑m.pos.length:Int),t.toNat<m.pos.length]) (hv:=W5)
      ·rintro ⟨⟩ _
       exact tTo (fun x=>z82_4 sh lk gs m t) (fun x=>True) () trivial
    ·rintro ⟨⟩ _
     exact Q1 [0,1,2,3,4,5,6,7,8,12] z82_31 [(stepM gs t m).m.pos.length=m.pos.length,∀ (i:Nat),i<(stepM gs t m).m.pos.length→i64T ((stepM gs t m).m.pos.getD i 0)=updT (z82_25 m) t.toNat 0 [Value.int IntKind.i64 (z82_16 t gs m).to] i,(stepM gs t m).m.sl.length=(z82_16 t gs m).m.sl.length,∀ (i:Nat),i<(stepM gs t m).m.sl.length→((stepM gs t m).m.sl.getD i default).tc=((z82_16 t gs m).m.sl.getD i default).tc,(stepM gs t m).m.mem.length=(z82_16 t gs m).m.mem.length,∀ (i:Nat),i<(stepM gs t m).m.mem.length→i64T ((stepM gs t m).m.mem.getD i 0)=i64T ((z82_16 t gs m).m.mem.getD i 0),(stepM gs t m).m.ho.length=(z82_16 t gs m).m.ho.length,∀ (i:Nat),i<(stepM gs t m).m.ho.length→i64T ((stepM gs t m).m.ho.getD i 0)=i64T ((z82_16 t gs m).m.ho.getD i 0),(stepM gs t m).m.pr.length=(z82_16 t gs m).m.pr.length,∀ (i:Nat),i<(stepM gs t m).m.pr.length→((stepM gs t m).m.pr.getD i default).tc=((z82_16 t gs m).m.pr.getD i default).tc,(stepM gs t m).d.thread=(z82_16 t gs m).d.thread,(stepM gs t m).d.node=(z82_16 t gs m).d.node,(stepM gs t m).d.kind=(z82_16 t gs m).d.kind,(stepM gs t m).d.thing=(z82_16 t gs m).d.thing,(stepM gs t m).d.word=(z82_16 t gs m).d.word,(stepM gs t m).d.put=(z82_16 t gs m).d.put,(stepM gs t m).err=(0:Int)] W21
   ·refine tWk (St.mk 69 (z82_9 t) [z82_11,z82_22 sh,z82_23 lk,z82_24 gs,z82_35 m,z82_29 m,z82_28 m,z82_30 m,z82_12 m,z82_21,Reg.dead,Reg.box 196 [C.p 0 0,C.i .i64 t,C.i .u8 8,C.i .u8 (nodA gs m.pos t).op,C.i .i64 (nodA gs m.pos t).slot,C.i .i64 (nodA gs m.pos t).thing,C.b (nodA gs m.pos t).a.slotted,C.i .i64 (nodA gs m.pos t).a.slot,C.i .i64 (nodA gs m.pos t).a.word,C.b (nodA gs m.pos t).b.slotted,C.i .i64 (nodA gs m.pos t).b.slot,C.i .i64 (nodA gs m.pos t).b.word,C.i .i64 (nodA gs m.pos t).next,C.i .i64 (nodA gs m.pos t).els,C.i .i64 (nodA gs m.pos t).origin,C.i .i64 t,z82_34 m t,C.i .u8 8,C.i .i64 0,C.i .i64 0,C.i .i64 0]] []) ?_ [] [23,38] [(8:Int)=(nodA gs m.pos t).kind,(8:Int)=(nodA gs m.pos t).kind] W12
    refine tz [8,5,4,0,1] ?_
    refine Qi 2 (fun _:Unit=>z82_2 sh lk gs m t) (fun _=>True) ?_ ?_
    ·refine ⟨⟨trivial,?_⟩,?_⟩
     ·refine Q2 Qc (Qw) [] ?_
      refine tz z82_32 ?_
      refine Q2 Z9 (Q3m sh lk gs m t (nodA gs m.pos t) t (m.pos.getD t.toNat 0) 8 0 0 0 W1 W1) [11,0,1,2,3,4,5,6,7,8] ?_ [1] [(nodA gs m.pos t).kind=(8:Int)] W0 (vc:=[(0:Int)≤(8:Int),(8:Int)<(10:Int)]) (hv:=W5)
      exact tTo (fun x=>z82_2 sh lk gs m t) (fun x=>True) () trivial (vc:=[(0:Int)≤t,t<(↑m.pos.length:Int),t.toNat<m.pos.length]) (hv:=W5)
     ·refine Q2 Qc (Qw) [] ?_
      refine tz z82_33 ?_
      refine Qi 2 (fun _:Unit=>z82_2 sh lk gs m t) (fun _=>True) ?_ ?_ (vc:=[(0:Int)≤(8:Int),(8:Int)<(10:Int)]) (hv:=W5)
      ·refine ⟨⟨trivial,?_⟩,?_⟩
       ·refine Q2 Z9 (Q3m sh lk gs m t (nodA gs m.pos t) t (m.pos.getD t.toNat 0) 8 0 0 0 W1 W1) [11,0,1,2,3,4,5,6,7,8] ?_ [1] [(nodA gs m.pos t).kind=(8:Int)] W0
        exact tTo (fun x=>z82_2 sh lk gs m t) (fun x=>True) () trivial (vc:=[(0:Int)≤t,t<(↑m.pos.length:Int),t.toNat<m.pos.length]) (hv:=W5)
       ·refine Q2 Z9 (Q3m sh lk gs m t (nodA gs m.pos t) t (m.pos.getD t.toNat 0) 8 0 0 0 W1 W1) [11,0,1,2,3,4,5,6,7,8] ?_ [1] [(nodA gs m.pos t).kind=(8:Int)] W0
        exact tTo (fun x=>z82_2 sh lk gs m t) (fun x=>True) () trivial (vc:=[(0:Int)≤t,t<(↑m.pos.length:Int),t.toNat<m.pos.length]) (hv:=W5)
      ·rintro ⟨⟩ _
       exact tTo (fun x=>z82_2 sh lk gs m t) (fun x=>True) () trivial
    ·rintro ⟨⟩ _
     exact Q1 [0,1,2,3,4,5,6,7,8,12] z82_31 [(stepM gs t m).m.pos.length=m.pos.length,∀ (i:Nat),i<(stepM gs t m).m.pos.length→i64T ((stepM gs t m).m.pos.getD i 0)=updT (z82_25 m) t.toNat 0 [Value.int IntKind.i64 (z82_14 t gs m).to] i,(stepM gs t m).m.sl.length=(z82_14 t gs m).m.sl.length,∀ (i:Nat),i<(stepM gs t m).m.sl.length→((stepM gs t m).m.sl.getD i default).tc=((z82_14 t gs m).m.sl.getD i default).tc,(stepM gs t m).m.mem.length=(z82_14 t gs m).m.mem.length,∀ (i:Nat),i<(stepM gs t m).m.mem.length→i64T ((stepM gs t m).m.mem.getD i 0)=i64T ((z82_14 t gs m).m.mem.getD i 0),(stepM gs t m).m.ho.length=(z82_14 t gs m).m.ho.length,∀ (i:Nat),i<(stepM gs t m).m.ho.length→i64T ((stepM gs t m).m.ho.getD i 0)=i64T ((z82_14 t gs m).m.ho.getD i 0),(stepM gs t m).m.pr.length=(z82_14 t gs m).m.pr.length,∀ (i:Nat),i<(stepM gs t m).m.pr.length→((stepM gs t m).m.pr.getD i default).tc=((z82_14 t gs m).m.pr.getD i default).tc,(stepM gs t m).d.thread=(z82_14 t gs m).d.thread,(stepM gs t m).d.node=(z82_14 t gs m).d.node,(stepM gs t m).d.kind=(z82_14 t gs m).d.kind,(stepM gs t m).d.thing=(z82_14 t gs m).d.thing,(stepM gs t m).d.word=(z82_14 t gs m).d.word,(stepM gs t m).d.put=(z82_14 t gs m).d.put,(stepM gs t m).err=(0:Int)] W21
end Go.Proofs.YtmaodngbpfjnnaaGreat
end
noncomputable section
namespace Go.Proofs.YtmaodngbpfjnnaaGreat
open Go Go.Tx
section
variable (sh lk:List Dcl) (gs:List Grf) (pos:List Int) (sl:List Slt) (mem ho:List Int) (pr:List Prt) (t:Int)
theorem Qck:Ctr Tryz.prog 80 [.ro [.h 1,.h 2,.h 3,.h 4,.h 5,.h 6,.h 7,.h 8],Dcl.rowR sh,Dcl.rowR lk,Grf.rowR gs,IntRow pos,Slt.rowR sl,WordRow mem,IntRow ho,Prt.rowR pr] [.c (.p 0 0),.c (.i .i64 t)]
 (Det (.c (.b (decide ((0:Int)≤t)&&decide (t<(pos.length:Int))))) [.dead,.dead,.dead,.dead,.dead,.dead,.dead,.dead,.dead]):=Qep sh lk gs ⟨pos,sl,mem,ho,pr⟩ t
theorem Q59 (hQ:MchQ sh.length lk.length gs ⟨pos,sl,mem,ho,pr⟩) (hw:UnitW gs):Ctr Tryz.prog 59 [.ro [.h 1,.h 2,.h 3,.h 4,.h 5,.h 6,.h 7,.h 8],Dcl.rowR sh,Dcl.rowR lk,Grf.rowR gs,IntRow pos,Slt.rowR sl,WordRow mem,IntRow ho,Prt.rowR pr] [.c (.p 0 0),.c (.i .i64 t)]
 (Det (.c (.i .i64 (barV gs pos ho t))) [.dead,.dead,.dead,.dead,.dead,.dead,.dead,.dead,.dead]):=Qkx sh lk gs ⟨pos,sl,mem,ho,pr⟩ t hQ hw
theorem Qcl (hQ:MchQ sh.length lk.length gs ⟨pos,sl,mem,ho,pr⟩) (hw:UnitW gs) (hp:pr.length≤8388608):Ctr Tryz.prog 82 [Reg.box 130 [.h 1,.h 2,.h 3,.h 4,.h 5,.h 6,.h 7,.h 8],Dcl.rowR sh,Dcl.rowR lk,Grf.rowR gs,IntOwn pos,Slt.ownR sl,WordOwn mem,IntOwn ho,Prt.ownR pr] [.c (.p 0 0),.c (.i .i64 t)]
 (Det (.tup [(true,(stepM gs t ⟨pos,sl,mem,ho,pr⟩).d.cs),(false,[.i .i64 (stepM gs t ⟨pos,sl,mem,ho,pr⟩).err])]) [Reg.box 130 [.h 1,.h 2,.h 3,.h 4,.h 5,.h 6,.h 7,.h 9],.dead,.dead,.dead,IntOwn (stepM gs t ⟨pos,sl,mem,ho,pr⟩).m.pos,Slt.ownR (stepM gs t ⟨pos,sl,mem,ho,pr⟩).m.sl,WordOwn (stepM gs t ⟨pos,sl,mem,ho,pr⟩).m.mem,IntOwn (stepM gs t ⟨pos,sl,mem,ho,pr⟩).m.ho,.dead,Prt.ownR (stepM gs t ⟨pos,sl,mem,ho,pr⟩).m.pr]):=Qlq sh lk gs ⟨pos,sl,mem,ho,pr⟩ t hQ hw hp
end
end Go.Proofs.YtmaodngbpfjnnaaGreat
end
noncomputable section
namespace Go.Proofs.YtmaodngbpfjnnaaGreat
open Go Go.Tx
abbrev z84_1:=(Value.agg #[Value.int IntKind.i64 (0:Int),Value.int IntKind.i64 (0:Int)])
def L108_60 (sh:List Dcl) (lk:List Dcl) (gs:List Grf) (pos:List Int) (sl:List Slt) (mem:List Int) (ho:List Int) (pr:List Prt):Lp (Int×List Slt):=⟨fun x=>{ N:=102,fr:=[se 80 (C.i .i64 x.1),se 79 (C.i .i64 (↑sl.length:Int)),se 78 (C.h 5),se 2 (C.v (Value.pointer none)),se 3 (C.p 9 0)],rg:=[Reg.ro [C.h 1,C.h 2,C.h 3,C.h 4,C.h 5,C.h 6,C.h 7,C.h 8],rowOf 3 (·.tc) sh,rowOf 3 (·.tc) lk,rowOf 4 (·.tc) gs,IntRow pos,rowOf 1 (·.tc) sl,IntRow mem,IntRow ho,rowOf 2 (·.tc) pr,Reg.box 130 [C.h 1,C.h 2,C.h 3,C.h 10,C.h 14,C.h 11,C.h 12,C.h 13],Reg.own 3 1 pos.length (fun i j=>if i<pos.length then i64T (pos.getD i 0) j else valT (Value.int IntKind.i64 (0:Int)).cells.toList j) none,Reg.own 2 1 mem.length (fun i j=>if i<mem.length then i64T (mem.getD i 0) j else valT (Value.int IntKind.i64 (0:Int)).cells.toList j) none,Reg.own 3 1 ho.length (fun i j=>if i<ho.length then i64T (ho.getD i 0) j else valT (Value.int IntKind.i64 (0:Int)).cells.toList j) none,Reg.own 74 2 pr.length (fun i j=>if i<pr.length then (pr.getD i default).tc j else valT z84_1.cells.toList j) none]++[Slt.ownR x.2],wr:=[] },fun x=>0≤x.1∧x.1≤(sl.length:Int)∧x.2=sl.take x.1.toNat,fun x=>((sl.length:Int)-x.1).toNat⟩
theorem Qhj (sh lk:List Dcl) (gs:List Grf) (pos:List Int) (sl:List Slt) (mem ho:List Int) (pr:List Prt) (hQ:MchQ sh.length lk.length gs (Mch.mk pos sl mem ho pr)) (hb:sh.length≤64∧lk.length≤16∧gs.length≤8) (hp:pr.length≤4194304):Ctr Tryz.prog 81 [.ro [.h 1,.h 2,.h 3,.h 4,.h 5,.h 6,.h 7,.h 8],Dcl.rowR sh,Dcl.rowR lk,Grf.rowR gs,IntRow pos,Slt.rowR sl,WordRow mem,IntRow ho,Prt.rowR pr] [.c (.p 0 0)]
 (Det (.c (.p 9 0)) [.dead,.dead,.dead,.dead,.dead,.dead,.dead,.dead,.dead,Reg.box 130 [.h 1,.h 2,.h 3,.h 10,.h 11,.h 12,.h 13,.h 14],IntOwn pos,Slt.ownR sl,WordOwn mem,IntOwn ho,Prt.ownR pr]):=by
 refine Ctr.intro [] Tryz.func81 K K ?_
 refine Qkq 4 [[],[(0:Int)≤(↑pos.length:Int),(↑pos.length:Int)≤(↑pos.length:Int),(↑pos.length:Int) * (8:Int)≤(140737488355328:Int),(↑pos.length:Int)≤(↑maxLen:Int),(0:Int)≤(↑pos.length:Int),(↑pos.length:Int)≤(↑pos.length:Int),(↑pos.length:Int) * (8:Int)≤(140737488355328:Int),(↑pos.length:Int)≤(↑maxLen:Int)],[(0:Int)≤(↑mem.length:Int),(↑mem.length:Int)≤(↑mem.length:Int),(↑mem.length:Int) * (8:Int)≤(140737488355328:Int),(↑mem.length:Int)≤(↑maxLen:Int),(0:Int)≤(↑mem.length:Int),(↑mem.length:Int)≤(↑mem.length:Int),(↑mem.length:Int) * (8:Int)≤(140737488355328:Int),(↑mem.length:Int)≤(↑maxLen:Int)],[(0:Int)≤(↑ho.length:Int),(↑ho.length:Int)≤(↑ho.length:Int),(↑ho.length:Int) * (8:Int)≤(140737488355328:Int),(↑ho.length:Int)≤(↑maxLen:Int),(0:Int)≤(↑ho.length:Int),(↑ho.length:Int)≤(↑ho.length:Int),(↑ho.length:Int) * (8:Int)≤(140737488355328:Int),(↑ho.length:Int)≤(↑maxLen:Int)],[(0:Int)≤(↑pr.length:Int),(↑pr.length:Int)≤(↑pr.length:Int),(↑pr.length:Int) * (16:Int)≤(140737488355328:Int),(↑pr.length:Int)≤(↑maxLen:Int),(0:Int)≤(↑pr.length:Int),(↑pr.length:Int)≤(↑pr.length:Int),(↑pr.length:Int) * (16:Int)≤(140737488355328:Int),(↑pr.length:Int)≤(↑maxLen:Int)]] [0,0,0,1,2,3,4,2,1,3,1,4,1,3,2,4,2,4,3,3,2,1,4,2,1,4,3,1,4,3,2,4,3,2,1] ?_ (by simp only [flatP,List.cons_append,List.nil_append,Conj,Fits,Q9,Qa,Qf,Qg,News.len,maxLen]<;>(repeat' (first | apply And.intro | intro _))<;>first | (exact i64T.flat _ _ (by assumption)) | (exact Prt.flat _ _ (by assumption)) | (have q0:=hQ.gl;have q1:=hQ.sn;have q2:=hQ.mn;have q3:=hQ.hn;dsimp only at q0 q1 q2 q3;omega) | (have z:=hJ1.1;have q:=of_decide_eq_true h2;have q0:=hQ.sn;have q1:=hQ.sw x1_0.toNat (by dsimp only at q0;omega);have q2:=(hQ.g x1_0.toNat (by dsimp only at q0;omega)).loc;dsimp only at q1;omega) | (have q0:=hQ.sn;dsimp only at q0;have z4:x1_1.length≤8:=(by rw [hJ1.2.2,List.length_take];omega);omega) | grind | (simp only [BL] at *;omega))
 refine tz [0,2,3] ?_
 refine Qb (L108_60 sh lk gs pos sl mem ho pr) (((0:Int),[])) ⟨Int.le_refl _,by omega,by simp⟩ ?_ [0,1,2,3,4,5,6,7,8,9,10,11,12,13,1000014] [17,19,21,23,24] [∀ (i:Nat),i<pos.length→(fun j=>if i<pos.length then i64T (pos.getD i 0) j else valT (Value.int IntKind.i64 (0:Int)).cells.toList j)=fun j=>if i<pos.length then i64T (pos.getD i 0) j else valT (Value.int IntKind.i64 (0:Int)).cells.toList j,∀ (i:Nat),i<mem.length→(fun j=>if i<mem.length then i64T (mem.getD i 0) j else valT (Value.int IntKind.i64 (0:Int)).cells.toList j)=fun j=>if i<mem.length then i64T (mem.getD i 0) j else valT (Value.int IntKind.i64 (0:Int)).cells.toList j,∀ (i:Nat),i<ho.length→(fun j=>if i<ho.length then i64T (ho.getD i 0) j else valT (Value.int IntKind.i64 (0:Int)).cells.toList j)=fun j=>if i<ho.length then i64T (ho.getD i 0) j else valT (Value.int IntKind.i64 (0:Int)).cells.toList j,∀ (i:Nat),i<pr.length→(fun j=>if i<pr.length then (pr.getD i default).tc j else valT z84_1.cells.toList j)=fun j=>if i<pr.length then (pr.getD i default).tc j else valT z84_1.cells.toList j,(0:Nat)=0] W58 (vc:=[∀ (i j:Nat),i<pos.length→j<1→flatT (i64T (pos.getD i 0) j),pos.length≤pos.length,∀ (i j:Nat),i<mem.length→j<1→flatT (i64T (mem.getD i 0) j),mem.length≤mem.length,∀ (i j:Nat),i<ho.length→j<1→flatT (i64T (ho.getD i 0) j),ho.length≤ho.length,∀ (i j:Nat),i<pr.length→j<2→flatT ((pr.getD i default).tc j),pr.length≤pr.length]) (hv:=W41)
 rintro ⟨x1_0,x1_1⟩ hJ1
 dsimp only [L108_60] at hJ1
 refine tz [80,79,78,2,3] ?_
 refine Q0 (decide (x1_0<(↑sl.length:Int))) (fun h2=>?_) (fun h2=>?_)
 ·refine Yu 5 (x1_0.toNat) ?_ (vc:=[x1_0.toNat<sl.length]) (hv:=W41)
  exact Q1e (L108_60 sh lk gs pos sl mem ho pr) (x1_0,x1_1) ((x1_0+(1:Int),x1_1++[sl.getD x1_0.toNat default])) (by dsimp only [L108_60];have q:=of_decide_eq_true h2;have z:=hJ1.1;omega) (by dsimp only [L108_60];have q:=of_decide_eq_true h2;have z:=hJ1.1;have e:(x1_0+1).toNat=x1_0.toNat+1:=(by omega);exact ⟨by omega,by omega,(by rw [e,hJ1.2.2];exact Yv (by omega))⟩) [(18,(Slt.tc (sl.getD x1_0.toNat default)))] [0,1,2,3,4,5,6,7,8,9,10,11,12,13,18] [17,19,21,23,24,25] [∀ (i:Nat),i<pos.length→(fun j=>if i<pos.length then i64T (pos.getD i 0) j else valT (Value.int IntKind.i64 (0:Int)).cells.toList j)=fun j=>if i<pos.length then i64T (pos.getD i 0) j else valT (Value.int IntKind.i64 (0:Int)).cells.toList j,∀ (i:Nat),i<mem.length→(fun j=>if i<mem.length then i64T (mem.getD i 0) j else valT (Value.int IntKind.i64 (0:Int)).cells.toList j)=fun j=>if i<mem.length then i64T (mem.getD i 0) j else valT (Value.int IntKind.i64 (0:Int)).cells.toList j,∀ (i:Nat),i<ho.length→(fun j=>if i<ho.length then i64T (ho.getD i 0) j else valT (Value.int IntKind.i64 (0:Int)).cells.toList j)=fun j=>if i<ho.length then i64T (ho.getD i 0) j else valT (Value.int IntKind.i64 (0:Int)).cells.toList j,∀ (i:Nat),i<pr.length→(fun j=>if i<pr.length then (pr.getD i default).tc j else valT z84_1.cells.toList j)=fun j=>if i<pr.length then (pr.getD i default).tc j else valT z84_1.cells.toList j,(x1_1++[sl.getD x1_0.toNat default]).length=x1_1.length+1,∀ (i:Nat),i<(x1_1++[sl.getD x1_0.toNat default]).length→((x1_1++[sl.getD x1_0.toNat default]).getD i default).tc=if i=x1_1.length then (sl.getD x1_0.toNat default).tc else (x1_1.getD i default).tc] W104 (vc:=[(0:Int)≤x1_0,x1_0<(↑sl.length:Int),x1_0.toNat=x1_0.toNat,(0:Int)≤(↑(sl.getD x1_0.toNat default).l.length:Int),(↑(sl.getD x1_0.toNat default).l.length:Int)≤(↑(sl.getD x1_0.toNat default).l.length:Int),(↑(sl.getD x1_0.toNat default).l.length:Int) * (8:Int)≤(140737488355328:Int),(↑(sl.getD x1_0.toNat default).l.length:Int)≤(↑maxLen:Int),∀ (i j:Nat),i<(sl.getD x1_0.toNat default).l.length→j<1→flatT (i64T ((sl.getD x1_0.toNat default).l.getD i 0) j),(sl.getD x1_0.toNat default).l.length≤(sl.getD x1_0.toNat default).l.length,x1_1.length+1≤maxLen,(x1_1.length+1) * 24≤140737488355328,Fits IntKind.i64 (x1_0+(1:Int))]) (hv:=W41) (vc2:=[(sl.getD x1_0.toNat default).l.length=(sl.getD x1_0.toNat default).l.length,∀ (i:Nat),i<(sl.getD x1_0.toNat default).l.length→i64T ((sl.getD x1_0.toNat default).l.getD i 0)=fun j=>if i<(sl.getD x1_0.toNat default).l.length then i64T ((sl.getD x1_0.toNat default).l.getD i 0) j else valT (Value.int IntKind.i64 (0:Int)).cells.toList j]) (hv2:=W130)
 ·exact Q1 [0,1,2,3,4,5,6,7,8,9,10,14,11,12,13] [1,2,3,5,7,9] [∀ (i:Nat),i<pos.length→i64T (pos.getD i 0)=fun j=>if i<pos.length then i64T (pos.getD i 0) j else valT (Value.int IntKind.i64 (0:Int)).cells.toList j,sl.length=x1_1.length,∀ (i:Nat),i<sl.length→(sl.getD i default).tc=(x1_1.getD i default).tc,∀ (i:Nat),i<mem.length→i64T (mem.getD i 0)=fun j=>if i<mem.length then i64T (mem.getD i 0) j else valT (Value.int IntKind.i64 (0:Int)).cells.toList j,∀ (i:Nat),i<ho.length→i64T (ho.getD i 0)=fun j=>if i<ho.length then i64T (ho.getD i 0) j else valT (Value.int IntKind.i64 (0:Int)).cells.toList j,∀ (i:Nat),i<pr.length→(pr.getD i default).tc=fun j=>if i<pr.length then (pr.getD i default).tc j else valT z84_1.cells.toList j] (by obtain ⟨q0,q1,q2⟩:=hJ1;have e:x1_0.toNat=sl.length:=(by have z:=of_decide_eq_false h2;omega);rw [e,List.take_length] at q2;subst q2;simp only [Conj];(repeat' apply And.intro)<;>first | trivial | rfl | (intros;first | trivial | rfl) | (intro i hi;funext j;first | exact (if_pos hi).symm | exact if_pos hi))
end Go.Proofs.YtmaodngbpfjnnaaGreat
end
noncomputable section
namespace Go.Proofs.YtmaodngbpfjnnaaGreat
open Go Go.Tx
abbrev z73_1 (cl:List Cls) (n:Nod):=[visN cl n=(decide ((0:Int)≤n.thing)&&decide (n.thing<(↑cl.length:Int))&&decide ((cl.getD n.thing.toNat default).kind=(3:Int)))]
theorem Qhk (cl:List Cls) (n:Nod):Ctr Tryz.prog 83 [Cls.rowR cl] [.c (.h 0),.agg n.cs]
 (Det (.c (.b (visN cl n))) [.dead]):=by
 refine Ctr.intro [] Tryz.func83 K K ?_
 refine RunF.lens 0 (m:=cl.length) K (fun hlens_0=>?_)
 refine Q0 (decide (n.kind=(5:Int))) (fun h1=>?_) (fun h1=>?_)
 ·exact Q1 [] [0] [visN cl n=true] W143
 ·refine tz [7,6,4,3,0] ?_
  refine Q0 (decide (n.kind=(6:Int))) (fun h2=>?_) (fun h2=>?_)
  ·exact Q1 [] [0] [visN cl n=true] W143
  ·refine tz [7,6,4,3,0] ?_
   refine Q0 (decide (n.kind=(7:Int))) (fun h3=>?_) (fun h3=>?_)
   ·exact Q1 [] [0] [visN cl n=true] W143
   ·refine tz [6,4,3,0] ?_
    refine Q0 (decide (n.kind=(2:Int))) (fun h4=>?_) (fun h4=>?_)
    ·exact Q1 [] [0] (z73_1 cl n) W143 (vc:=[(decide ((0:Int)≤n.thing)&&decide (n.thing<(↑cl.length:Int)))=true→(0:Int)≤n.thing,(decide ((0:Int)≤n.thing)&&decide (n.thing<(↑cl.length:Int)))=true→n.thing<(↑cl.length:Int),(decide ((0:Int)≤n.thing)&&decide (n.thing<(↑cl.length:Int)))=true→n.thing.toNat<cl.length]) (hv:=W2)
    ·refine tz [11,6,4,3,0] ?_
     refine Q0 (decide (n.kind=(3:Int))) (fun h5=>?_) (fun h5=>?_)
     ·exact Q1 [] [0] (z73_1 cl n) W143 (vc:=[(decide ((0:Int)≤n.thing)&&decide (n.thing<(↑cl.length:Int)))=true→(0:Int)≤n.thing,(decide ((0:Int)≤n.thing)&&decide (n.thing<(↑cl.length:Int)))=true→n.thing<(↑cl.length:Int),(decide ((0:Int)≤n.thing)&&decide (n.thing<(↑cl.length:Int)))=true→n.thing.toNat<cl.length]) (hv:=W2)
     ·refine tz [11,6,4,3,0] ?_
      refine Q0 (decide (n.kind=(4:Int))) (fun h6=>?_) (fun h6=>?_)
      ·exact Q1 [] [0] (z73_1 cl n) W143 (vc:=[(decide ((0:Int)≤n.thing)&&decide (n.thing<(↑cl.length:Int)))=true→(0:Int)≤n.thing,(decide ((0:Int)≤n.thing)&&decide (n.thing<(↑cl.length:Int)))=true→n.thing<(↑cl.length:Int),(decide ((0:Int)≤n.thing)&&decide (n.thing<(↑cl.length:Int)))=true→n.thing.toNat<cl.length]) (hv:=W2)
      ·exact Q1 [] [0] [visN cl n=false] W143
end Go.Proofs.YtmaodngbpfjnnaaGreat
end
noncomputable section
namespace Go.Proofs.YtmaodngbpfjnnaaGreat
open Go Go.Tx
abbrev z85_1:=Reg.box 130 [C.h 1,C.h 2,C.h 3,C.h 11,C.h 12,C.h 13,C.h 14,C.h 16]
def L66_60 (sh:List Dcl) (lk:List Dcl) (gs:List Grf) (pos:List Int) (sl:List Slt) (mem:List Int) (ho:List Int) (pr:List Prt) (cl:List Cls) (t:Int) (most:Int):Lp (Int×Int×Int×List Prt×List Int×List Slt×List Int×List Int):=⟨fun x=>{ N:=103,fr:=[se 12 (C.i .i64 x.1),se 11 (C.p 10 0),se 9 (C.i .i64 x.2.1),se 8 (C.i .i64 x.2.2.1),se 0 (C.p 0 0),se 1 (C.i .i64 t),se 2 (C.h 9),se 3 (C.i .i64 most)],rg:=[Reg.box 130 [C.h 1,C.h 2,C.h 3,C.h 4,C.h 5,C.h 6,C.h 7,C.h 8],rowOf 3 (·.tc) sh,rowOf 3 (·.tc) lk,rowOf 4 (·.tc) gs,IntOwn pos,ownOf 26 1 (·.tc) sl,WordOwn mem,IntOwn ho,ownOf 74 2 (·.tc) pr,rowOf 3 (·.tc) cl,z85_1,IntOwn (x.2.2.2.2.1),Slt.ownR (x.2.2.2.2.2.1),WordOwn (x.2.2.2.2.2.2.1),IntOwn (x.2.2.2.2.2.2.2),Reg.dead]++[Prt.ownR x.2.2.2.1],wr:=[] },fun x=>AdvJ sh.length lk.length gs cl t most (Mch.mk pos sl mem ho pr) x.1 (Mch.mk x.2.2.2.2.1 x.2.2.2.2.2.1 x.2.2.2.2.2.2.1 x.2.2.2.2.2.2.2 x.2.2.2.1),fun x=>(most-x.1).toNat⟩
theorem Qcm (sh lk:List Dcl) (gs:List Grf) (pos:List Int) (sl:List Slt) (mem ho:List Int) (pr:List Prt) (cl:List Cls) (t most:Int) (hQ:MchQ sh.length lk.length gs (Mch.mk pos sl mem ho pr)) (hb:sh.length≤64∧lk.length≤16∧gs.length≤8) (hp:pr.length≤4194304) (hw:UnitW gs) (hsel:(advM sh.length gs cl t most (Mch.mk pos sl mem ho pr)).err=0):Ctr Tryz.prog 55 [Reg.box 130 [.h 1,.h 2,.h 3,.h 4,.h 5,.h 6,.h 7,.h 8],Dcl.rowR sh,Dcl.rowR lk,Grf.rowR gs,IntOwn pos,Slt.ownR sl,WordOwn mem,IntOwn ho,Prt.ownR pr,Cls.rowR cl] [.c (.p 0 0),.c (.i .i64 t),.c (.h 9),.c (.i .i64 most)]
 (Det (.tup [(false,[.i .i64 (advM sh.length gs cl t most (Mch.mk pos sl mem ho pr)).n]),(false,[.i .i64 0])]) [Reg.box 130 [.h 1,.h 2,.h 3,.h 10,.h 11,.h 12,.h 13,.h 14],.dead,.dead,.dead,.dead,.dead,.dead,.dead,.dead,.dead,IntOwn (advM sh.length gs cl t most (Mch.mk pos sl mem ho pr)).m.pos,Slt.ownR (advM sh.length gs cl t most (Mch.mk pos sl mem ho pr)).m.sl,WordOwn (advM sh.length gs cl t most (Mch.mk pos sl mem ho pr)).m.mem,IntOwn (advM sh.length gs cl t most (Mch.mk pos sl mem ho pr)).m.ho,Prt.ownR (advM sh.length gs cl t most (Mch.mk pos sl mem ho pr)).m.pr]):=by
 refine Ctr.intro [] Tryz.func55 K K ?_
 refine Q2 Z7 (Qck (sh:=sh) (lk:=lk) (gs:=gs) (pos:=pos) (sl:=sl) (mem:=mem) (ho:=ho) (pr:=pr) (t:=t)) [] ?_
 refine tz [21,9,8,0,1,2,3] ?_
 refine Q0 (!(decide ((0:Int)≤t)&&decide (t<(↑pos.length:Int)))||!decide ((↑cl.length:Int)=(↑sh.length:Int))||decide (most<(0:Int))||decide ((1048576:Int)<most)) (fun h1=>?_) (fun h1=>?_)
 ·exact (show False from by rw [Q5i (m:=Mch.mk pos sl mem ho pr) h1] at hsel;have z:(2:Int)=0:=hsel;omega).elim
 ·refine tz [9,8,0,1,2,3] ?_
  refine Q2 Y3 (Q59 (sh:=sh) (lk:=lk) (gs:=gs) (pos:=pos) (sl:=sl) (mem:=mem) (ho:=ho) (pr:=pr) (t:=t) (hQ:=W32) (hw:=W32)) [] ?_
  refine tz [44,9,8,0,1,2,3] ?_
  refine Q0 (decide (barV gs pos ho t=(70:Int))) (fun h2=>?_) (fun h2=>?_)
  ·exact (show False from by rw [Q5j (m:=Mch.mk pos sl mem ho pr) h1 h2] at hsel;have z:(70:Int)=0:=hsel;omega).elim
  ·refine tz [9,8,0,1,2,3] ?_
   refine Q2 J8 (Qhj sh lk gs pos sl mem ho pr W32 W32 W32) [] ?_
   refine tz [49,9,8,0,1,2,3] ?_
   refine Qb (L66_60 sh lk gs pos sl mem ho pr cl t most) (((0:Int),(0:Int),(0:Int),pr,pos,sl,mem,ho)) (AdvJ.start hQ h1 h2) ?_ [0,1,2,3,4,5,6,7,8,9,10,11,12,13,14,15,15]
   rintro ⟨x3_0,x3_1,x3_2,x3_3,x3_4,x3_5,x3_6,x3_7⟩ hJ3
   dsimp only [L66_60] at hJ3
   refine Yu 3 (t.toNat) ?_ (vc:=[t.toNat<gs.length]) (hv:=W35)
   refine tz [12,11,9,8,0,1,2,3] ?_
   refine Q2 Y3 (Q59 (sh:=sh) (lk:=lk) (gs:=gs) (pos:=x3_4) (sl:=x3_5) (mem:=x3_6) (ho:=x3_7) (pr:=x3_3) (t:=t) (hQ:=W32) (hw:=W32)) [10,1,2,3,11,12,13,14,16] ?_ (vc:=[(0:Int)≤t,t<(↑gs.length:Int),t.toNat=t.toNat,(0:Int)≤t,t<(↑x3_4.length:Int),t.toNat<x3_4.length,(0:Int)≤x3_4.getD t.toNat 0,x3_4.getD t.toNat 0<(↑(gs.getD t.toNat default).nodes.length:Int),(x3_4.getD t.toNat 0).toNat<(gs.getD t.toNat default).nodes.length]) (hv:=W35)
   refine tz [72,13,12,11,9,8,0,1,2,3] ?_
   refine Q0 (decide (barV gs x3_4 x3_7 t=(70:Int))) (fun h4=>?_) (fun h4=>?_)
   ·rw [AdvJ.e70 hJ3 h4]
    exact Q1 [0,1,2,3,4,5,6,7,8,9,11,12,13,14,16]
   ·refine tz [14,13,12,11,9,8,0,1,2,3] ?_
    refine Q0 (!decide (barV gs x3_4 x3_7 t=(0:Int))) (fun h5=>?_) (fun h5=>?_)
    ·exact (show False from by rw [AdvJ.bar hJ3 h4 h5] at hsel;have z:barV gs x3_4 x3_7 t=0:=hsel;simp [z] at h5).elim
    ·refine tz [13,12,11,9,8,0,1,2,3] ?_
     refine Q0 (decide (x3_0=most)) (fun h6=>?_) (fun h6=>?_)
     ·exact (show False from by rw [AdvJ.many hJ3 h4 h5 h6] at hsel;have z:(3:Int)=0:=hsel;omega).elim
     ·refine tz [13,12,11,9,8,0,1,2,3] ?_
      refine Q2 J7 (Qcl (sh:=sh) (lk:=lk) (gs:=gs) (pos:=x3_4) (sl:=x3_5) (mem:=x3_6) (ho:=x3_7) (pr:=x3_3) (t:=t) (hQ:=W32) (hw:=W32) (hp:=W32)) [10,1,2,3,11,12,13,14,16] ?_
      refine tz [13,12,11,9,8,0,1,2,3] ?_
      refine Q2 Q1h (Qhk cl ((gs.getD t.toNat default).nodes.getD (x3_4.getD t.toNat 0).toNat default)) [9] ?_
      refine tz [95,12,11,9,8,0,1,2,3] ?_
      refine Q0 (visN cl ((gs.getD t.toNat default).nodes.getD (x3_4.getD t.toNat 0).toNat default)) (fun h7=>?_) (fun h7=>?_)
      ·rw [AdvJ.vis hJ3 h4 h5 h6 h7]
       exact Q1 [0,1,2,3,4,5,6,7,8,9,11,12,13,14,19] (vc:=[Fits IntKind.i64 (x3_0+(1:Int))]) (hv:=W35)
      ·exact Q6 (L66_60 sh lk gs pos sl mem ho pr cl t most) (x3_0,x3_1,x3_2,x3_3,x3_4,x3_5,x3_6,x3_7) ((x3_0+(1:Int),x3_1,x3_2,(stepM gs t (Mch.mk x3_4 x3_5 x3_6 x3_7 x3_3)).m.pr,(stepM gs t (Mch.mk x3_4 x3_5 x3_6 x3_7 x3_3)).m.pos,(stepM gs t (Mch.mk x3_4 x3_5 x3_6 x3_7 x3_3)).m.sl,(stepM gs t (Mch.mk x3_4 x3_5 x3_6 x3_7 x3_3)).m.mem,(stepM gs t (Mch.mk x3_4 x3_5 x3_6 x3_7 x3_3)).m.ho)) (by dsimp only [L66_60];have z:=hJ3.lo;have z2:=hJ3.hi;have q:=of_decide_eq_false h6;omega) (AdvJ.next hw hJ3 h4 h5 h6 h7) [0,1,2,3,4,5,6,7,8,9,10,11,12,13,14,15,19] (vc:=[Fits IntKind.i64 (x3_0+(1:Int))]) (hv:=W35)
def L66_70 (sh:List Dcl) (lk:List Dcl) (gs:List Grf) (pos:List Int) (sl:List Slt) (mem:List Int) (ho:List Int) (pr:List Prt) (cl:List Cls) (t:Int) (most:Int):Lp (Int×Int×Int×List Prt×List Int×List Slt×List Int×List Int):=⟨fun x=>{ N:=103,fr:=[se 12 (C.i .i64 x.1),se 11 (C.p 10 0),se 9 (C.i .i64 x.2.1),se 8 (C.i .i64 x.2.2.1),se 0 (C.p 0 0),se 1 (C.i .i64 t),se 2 (C.h 9),se 3 (C.i .i64 most)],rg:=[Reg.box 130 [C.h 1,C.h 2,C.h 3,C.h 4,C.h 5,C.h 6,C.h 7,C.h 8],rowOf 3 (·.tc) sh,rowOf 3 (·.tc) lk,rowOf 4 (·.tc) gs,IntOwn pos,ownOf 26 1 (·.tc) sl,WordOwn mem,IntOwn ho,ownOf 74 2 (·.tc) pr,rowOf 3 (·.tc) cl,z85_1,IntOwn (x.2.2.2.2.1),Slt.ownR (x.2.2.2.2.2.1),WordOwn (x.2.2.2.2.2.2.1),IntOwn (x.2.2.2.2.2.2.2),Reg.dead]++[Prt.ownR x.2.2.2.1],wr:=[] },fun x=>AdvJ sh.length lk.length gs cl t most (Mch.mk pos sl mem ho pr) x.1 (Mch.mk x.2.2.2.2.1 x.2.2.2.2.2.1 x.2.2.2.2.2.2.1 x.2.2.2.2.2.2.2 x.2.2.2.1),fun x=>(most-x.1).toNat⟩
theorem Qjn (sh lk:List Dcl) (gs:List Grf) (pos:List Int) (sl:List Slt) (mem ho:List Int) (pr:List Prt) (cl:List Cls) (t most:Int) (hQ:MchQ sh.length lk.length gs (Mch.mk pos sl mem ho pr)) (hb:sh.length≤64∧lk.length≤16∧gs.length≤8) (hp:pr.length≤4194304) (hw:UnitW gs) (hsel:¬ (advM sh.length gs cl t most (Mch.mk pos sl mem ho pr)).err=0):Ctr Tryz.prog 55 [Reg.box 130 [.h 1,.h 2,.h 3,.h 4,.h 5,.h 6,.h 7,.h 8],Dcl.rowR sh,Dcl.rowR lk,Grf.rowR gs,IntOwn pos,Slt.ownR sl,WordOwn mem,IntOwn ho,Prt.ownR pr,Cls.rowR cl] [.c (.p 0 0),.c (.i .i64 t),.c (.h 9),.c (.i .i64 most)]
 (Det (.tup [(false,[.i .i64 0]),(false,[.i .i64 (advM sh.length gs cl t most (Mch.mk pos sl mem ho pr)).err])]) [Reg.box 130 [.h 1,.h 2,.h 3,.h 4,.h 5,.h 6,.h 7,.h 8],.dead,.dead,.dead,IntOwn pos,Slt.ownR sl,WordOwn mem,IntOwn ho,Prt.ownR pr,.dead]):=by
 refine Ctr.intro [] Tryz.func55 K K ?_
 refine Q2 Z7 (Qck (sh:=sh) (lk:=lk) (gs:=gs) (pos:=pos) (sl:=sl) (mem:=mem) (ho:=ho) (pr:=pr) (t:=t)) [] ?_
 refine tz [21,9,8,0,1,2,3] ?_
 refine Q0 (!(decide ((0:Int)≤t)&&decide (t<(↑pos.length:Int)))||!decide ((↑cl.length:Int)=(↑sh.length:Int))||decide (most<(0:Int))||decide ((1048576:Int)<most)) (fun h1=>?_) (fun h1=>?_)
 ·rw [Q5i (gs:=gs) (m:=Mch.mk pos sl mem ho pr) h1]
  exact Q1
 ·refine tz [9,8,0,1,2,3] ?_
  refine Q2 Y3 (Q59 (sh:=sh) (lk:=lk) (gs:=gs) (pos:=pos) (sl:=sl) (mem:=mem) (ho:=ho) (pr:=pr) (t:=t) (hQ:=W32) (hw:=W32)) [] ?_
  refine tz [44,9,8,0,1,2,3] ?_
  refine Q0 (decide (barV gs pos ho t=(70:Int))) (fun h2=>?_) (fun h2=>?_)
  ·rw [Q5j (m:=Mch.mk pos sl mem ho pr) h1 h2]
   exact Q1 [] [11] [(70:Int)=barV gs pos ho t] (by simp only [Conj];(repeat' apply And.intro)<;>first | trivial | rfl | (intros;rfl) | exact (of_decide_eq_true h2).symm | exact of_decide_eq_true h2)
  ·refine tz [9,8,0,1,2,3] ?_
   refine Q2 J8 (Qhj sh lk gs pos sl mem ho pr W32 W32 W32) [] ?_
   refine tz [49,9,8,0,1,2,3] ?_
   refine Qb (L66_70 sh lk gs pos sl mem ho pr cl t most) (((0:Int),(0:Int),(0:Int),pr,pos,sl,mem,ho)) (AdvJ.start hQ h1 h2) ?_ [0,1,2,3,4,5,6,7,8,9,10,11,12,13,14,15,15]
   rintro ⟨x3_0,x3_1,x3_2,x3_3,x3_4,x3_5,x3_6,x3_7⟩ hJ3
   dsimp only [L66_70] at hJ3
   refine Yu 3 (t.toNat) ?_ (vc:=[t.toNat<gs.length]) (hv:=W35)
   refine tz [12,11,9,8,0,1,2,3] ?_
   refine Q2 Y3 (Q59 (sh:=sh) (lk:=lk) (gs:=gs) (pos:=x3_4) (sl:=x3_5) (mem:=x3_6) (ho:=x3_7) (pr:=x3_3) (t:=t) (hQ:=W32) (hw:=W32)) [10,1,2,3,11,12,13,14,16] ?_ (vc:=[(0:Int)≤t,t<(↑gs.length:Int),t.toNat=t.toNat,(0:Int)≤t,t<(↑x3_4.length:Int),t.toNat<x3_4.length,(0:Int)≤x3_4.getD t.toNat 0,x3_4.getD t.toNat 0<(↑(gs.getD t.toNat default).nodes.length:Int),(x3_4.getD t.toNat 0).toNat<(gs.getD t.toNat default).nodes.length]) (hv:=W35)
   refine tz [72,13,12,11,9,8,0,1,2,3] ?_
   refine Q0 (decide (barV gs x3_4 x3_7 t=(70:Int))) (fun h4=>?_) (fun h4=>?_)
   ·exact (show False from by rw [AdvJ.e70 hJ3 h4] at hsel;exact hsel rfl).elim
   ·refine tz [14,13,12,11,9,8,0,1,2,3] ?_
    refine Q0 (!decide (barV gs x3_4 x3_7 t=(0:Int))) (fun h5=>?_) (fun h5=>?_)
    ·rw [AdvJ.bar hJ3 h4 h5]
     exact Q1
    ·refine tz [13,12,11,9,8,0,1,2,3] ?_
     refine Q0 (decide (x3_0=most)) (fun h6=>?_) (fun h6=>?_)
     ·rw [AdvJ.many hJ3 h4 h5 h6]
      exact Q1
     ·refine tz [13,12,11,9,8,0,1,2,3] ?_
      refine Q2 J7 (Qcl (sh:=sh) (lk:=lk) (gs:=gs) (pos:=x3_4) (sl:=x3_5) (mem:=x3_6) (ho:=x3_7) (pr:=x3_3) (t:=t) (hQ:=W32) (hw:=W32) (hp:=W32)) [10,1,2,3,11,12,13,14,16] ?_
      refine tz [13,12,11,9,8,0,1,2,3] ?_
      refine Q2 Q1h (Qhk cl ((gs.getD t.toNat default).nodes.getD (x3_4.getD t.toNat 0).toNat default)) [9] ?_
      refine tz [95,12,11,9,8,0,1,2,3] ?_
      refine Q0 (visN cl ((gs.getD t.toNat default).nodes.getD (x3_4.getD t.toNat 0).toNat default)) (fun h7=>?_) (fun h7=>?_)
      ·exact (show False from by rw [AdvJ.vis hJ3 h4 h5 h6 h7] at hsel;exact hsel rfl).elim
      ·exact Q6 (L66_70 sh lk gs pos sl mem ho pr cl t most) (x3_0,x3_1,x3_2,x3_3,x3_4,x3_5,x3_6,x3_7) ((x3_0+(1:Int),x3_1,x3_2,(stepM gs t (Mch.mk x3_4 x3_5 x3_6 x3_7 x3_3)).m.pr,(stepM gs t (Mch.mk x3_4 x3_5 x3_6 x3_7 x3_3)).m.pos,(stepM gs t (Mch.mk x3_4 x3_5 x3_6 x3_7 x3_3)).m.sl,(stepM gs t (Mch.mk x3_4 x3_5 x3_6 x3_7 x3_3)).m.mem,(stepM gs t (Mch.mk x3_4 x3_5 x3_6 x3_7 x3_3)).m.ho)) (by dsimp only [L66_70];have z:=hJ3.lo;have z2:=hJ3.hi;have q:=of_decide_eq_false h6;omega) (AdvJ.next hw hJ3 h4 h5 h6 h7) [0,1,2,3,4,5,6,7,8,9,10,11,12,13,14,15,19] (vc:=[Fits IntKind.i64 (x3_0+(1:Int))]) (hv:=W35)
end Go.Proofs.YtmaodngbpfjnnaaGreat
end
noncomputable section
namespace Go.Proofs.YtmaodngbpfjnnaaGreat
open Go Go.Tx
theorem Qlr (n:Int) (h0:0≤n) (h1:n<4294967296):Ctr Tryz.prog 111 [] [.c (.i .u64 1),.c (.i .u64 n)]
 (Det (.tup [(false,[.i .u64 0]),(false,[.i .u64 n])]) []):=by
 refine Ctr.intro [] Tryz.func111 K K ?_
 exact Q1 [] [0,1] [(0:Int)=shrI IntKind.u64 (1:Int) (32:Int) * shrI IntKind.u64 n (32:Int)+shrI IntKind.u64 (shrI IntKind.u64 (1:Int) (32:Int) * bits BinOp.and IntKind.u64 n (4294967295:Int)+shrI IntKind.u64 (bits BinOp.and IntKind.u64 (1:Int) (4294967295:Int) * bits BinOp.and IntKind.u64 n (4294967295:Int)) (32:Int)) (32:Int)+shrI IntKind.u64 (bits BinOp.and IntKind.u64 (shrI IntKind.u64 (1:Int) (32:Int) * bits BinOp.and IntKind.u64 n (4294967295:Int)+shrI IntKind.u64 (bits BinOp.and IntKind.u64 (1:Int) (4294967295:Int) * bits BinOp.and IntKind.u64 n (4294967295:Int)) (32:Int)) (4294967295:Int)+bits BinOp.and IntKind.u64 (1:Int) (4294967295:Int) * shrI IntKind.u64 n (32:Int)) (32:Int),n=(1:Int) * n] (by (try unfold z87_1);simp only [Conj,Qku,Qkv h0 h1,Qkw,Qn0,Qn1,Qn2 h0 h1,Int.one_mul,Int.zero_mul,Int.mul_zero,Int.add_zero,Int.zero_add];(repeat' apply And.intro)<;>first | trivial | rfl) (vc:=[(0:Int)≤(32:Int),(0:Int)≤(32:Int),Fits IntKind.u64 (bits BinOp.and IntKind.u64 (1:Int) (4294967295:Int) * bits BinOp.and IntKind.u64 n (4294967295:Int)),Fits IntKind.u64 (shrI IntKind.u64 (1:Int) (32:Int) * bits BinOp.and IntKind.u64 n (4294967295:Int)),(0:Int)≤(32:Int),Fits IntKind.u64 (shrI IntKind.u64 (1:Int) (32:Int) * bits BinOp.and IntKind.u64 n (4294967295:Int)+shrI IntKind.u64 (bits BinOp.and IntKind.u64 (1:Int) (4294967295:Int) * bits BinOp.and IntKind.u64 n (4294967295:Int)) (32:Int)),(0:Int)≤(32:Int),Fits IntKind.u64 (bits BinOp.and IntKind.u64 (1:Int) (4294967295:Int) * shrI IntKind.u64 n (32:Int)),Fits IntKind.u64 (bits BinOp.and IntKind.u64 (shrI IntKind.u64 (1:Int) (32:Int) * bits BinOp.and IntKind.u64 n (4294967295:Int)+shrI IntKind.u64 (bits BinOp.and IntKind.u64 (1:Int) (4294967295:Int) * bits BinOp.and IntKind.u64 n (4294967295:Int)) (32:Int)) (4294967295:Int)+bits BinOp.and IntKind.u64 (1:Int) (4294967295:Int) * shrI IntKind.u64 n (32:Int)),Fits IntKind.u64 (shrI IntKind.u64 (1:Int) (32:Int) * shrI IntKind.u64 n (32:Int)),Fits IntKind.u64 (shrI IntKind.u64 (1:Int) (32:Int) * shrI IntKind.u64 n (32:Int)+shrI IntKind.u64 (shrI IntKind.u64 (1:Int) (32:Int) * bits BinOp.and IntKind.u64 n (4294967295:Int)+shrI IntKind.u64 (bits BinOp.and IntKind.u64 (1:Int) (4294967295:Int) * bits BinOp.and IntKind.u64 n (4294967295:Int)) (32:Int)) (32:Int)),(0:Int)≤(32:Int),Fits IntKind.u64 (shrI IntKind.u64 (1:Int) (32:Int) * shrI IntKind.u64 n (32:Int)+shrI IntKind.u64 (shrI IntKind.u64 (1:Int) (32:Int) * bits BinOp.and IntKind.u64 n (4294967295:Int)+shrI IntKind.u64 (bits BinOp.and IntKind.u64 (1:Int) (4294967295:Int) * bits BinOp.and IntKind.u64 n (4294967295:Int)) (32:Int)) (32:Int)+shrI IntKind.u64 (bits BinOp.and IntKind.u64 (shrI IntKind.u64 (1:Int) (32:Int) * bits BinOp.and IntKind.u64 n (4294967295:Int)+shrI IntKind.u64 (bits BinOp.and IntKind.u64 (1:Int) (4294967295:Int) * bits BinOp.and IntKind.u64 n (4294967295:Int)) (32:Int)) (4294967295:Int)+bits BinOp.and IntKind.u64 (1:Int) (4294967295:Int) * shrI IntKind.u64 n (32:Int)) (32:Int)),Fits IntKind.u64 ((1:Int) * n)]) (hv:=(by (try unfold z87_1);simp only [Conj,Fits,IntKind.min,IntKind.max,IntKind.signed,IntKind.bits,Qku,Qkv h0 h1,Qkw,Qn0,Qn1,Qn2 h0 h1,Int.one_mul,Int.zero_mul,Int.mul_zero,Int.add_zero,Int.zero_add];(repeat' apply And.intro)<;>first | trivial | omega))
theorem Qoa (n:Int) (h0:0≤n) (h1:n<4294967296):Ctr Tryz.prog 84 [] [.c (.i .u64 1),.c (.i .u64 n)]
 (Det (.tup [(false,[.i .u64 0]),(false,[.i .u64 n])]) []):=by
 refine Ctr.intro [] Tryz.func84 K K ?_
 refine Q2 Q5x (Qlr n W27 W27) [] ?_
 exact Q1
def L67_60 (t:Int) (n:Int):Lp (Int×List Int):=⟨fun x=>{ N:=48,fr:=[se 8 (C.i .i64 x.1),se 7 (C.h 1),se 4 (C.v (Value.slice none 0 0))],rg:=[Reg.row 1 1 (fun i=>i64T ([t].getD i 0)) none,IntOwn (x.2)],wr:=[] },fun x=>1≤x.1∧x.1≤n∧x.2=repL x.1 n t,fun x=>(n-x.1).toNat⟩
theorem Qjo (t n:Int) (h0:1≤n) (h1:n≤1048576):Ctr Tryz.prog 56 [IntRow [t]] [.c (.h 0),.c (.i .i64 n)]
 (Det (.c (.h 1)) [.dead,IntOwn (List.replicate n.toNat t)]):=by
 refine Ctr.intro [] Tryz.func56 K K ?_
 refine Q0 (decide (n<(0:Int))) (fun h1=>?_) (fun h1=>?_)
 ·exact (show False from by have z:=of_decide_eq_true h1;omega).elim
 ·refine tz [4,0,1] ?_
  refine Q2 Q8i (Qoa n W27 W27) [] ?_ (vc:=[Fits IntKind.u64 (1:Int),Fits IntKind.u64 n]) (hv:=W80)
  refine tz [18,4,0] ?_
  refine Q0 (decide ((0:Int)<(0:Int))||decide ((9223372036854775807:Int)<n)) (fun h2=>?_) (fun h2=>?_)
  ·exact (show False from by simp at h2;omega).elim
  ·refine tz [6,4,0] ?_
   refine Qb (L67_60 t n) (((1:Int),repL (1:Int) n t)) ⟨Int.le_refl _,h0,rfl⟩ ?_ [] [2,3] [(repL (1:Int) n t).length=n.toNat,∀ (i:Nat),i<(repL (1:Int) n t).length→i64T ((repL (1:Int) n t).getD i 0)=fun j=>if i<1 then i64T ([t].getD i 0) j else valT (Value.int IntKind.i64 (0:Int)).cells.toList j] (by simp only [Conj];(repeat' apply And.intro)<;>first | trivial | rfl | (intros;first | trivial | rfl) | exact Ga (by omega) (by omega) | exact Qjg | omega) (vc:=[Fits IntKind.i64 n,(0:Int)≤n,n≤n,n * (8:Int)≤(140737488355328:Int),n≤(↑maxLen:Int),∀ (i j:Nat),i<1→j<1→flatT (i64T ([t].getD i 0) j),1≤n.toNat]) (hv:=W80)
   rintro ⟨x3_0,x3_1⟩ hJ3
   dsimp only [L67_60] at hJ3
   refine tz [8,7,4] ?_
   refine Q0 (decide (x3_0<(↑x3_1.length:Int))) (fun h4=>?_) (fun h4=>?_)
   ·refine tz [8,7,4] ?_
    refine Ju 2 [[],[Fits IntKind.i64 (x3_0+(↑((x3_0.toNat-0).min (x3_1.length-x3_0.toNat)):Int))],[x3_0.toNat+(x3_1.length-x3_0.toNat)≤x3_1.length,0+(x3_0.toNat-0)≤x3_1.length,0<x3_1.length,∀ (i j:Nat),i<x3_1.length→j<1→flatT (i64T (x3_1.getD i 0) j)],[(0:Int)≤x3_0,x3_0≤(↑x3_1.length:Int),(↑x3_1.length:Int)≤(↑x3_1.length:Int),(0:Int)≤x3_0,x3_0≤(↑x3_1.length:Int),(↑x3_1.length:Int)≤(↑x3_1.length:Int),x3_0<(↑x3_1.length:Int)],[(0:Int)≤(0:Int),(0:Int)≤x3_0,x3_0≤(↑x3_1.length:Int),(0:Int)≤(0:Int),(0:Int)≤x3_0,x3_0≤(↑x3_1.length:Int),(0:Int)<(↑x3_1.length:Int)]] [0,1,2,3,4,4,3] ?_ (by simp only [flatP,List.cons_append,List.nil_append,Conj,Fits,IntKind.min,IntKind.max,IntKind.signed,IntKind.bits,News.len,maxLen]<;>(repeat' (first | apply And.intro | intro _))<;>first | (intros;exact i64T.flat _ _ (by assumption)) | (obtain ⟨q0,q1,q2⟩:=hJ3;have e:x3_1.length=n.toNat:=(by rw [q2];exact Ga (by omega) q1);have z:=of_decide_eq_true h4;have z2:(x3_0.toNat-0).min (x3_1.length-x3_0.toNat)≤x3_1.length-x3_0.toNat:=Nat.min_le_right _ _;omega) | omega | grind | (simp only [BL] at *;omega))
    exact Q6 (L67_60 t n) (x3_0,x3_1) ((x3_0+(↑((x3_0.toNat-0).min (x3_1.length-x3_0.toNat)):Int),repL (x3_0+(↑((x3_0.toNat-0).min (x3_1.length-x3_0.toNat)):Int)) n t)) (by obtain ⟨q0,q1,q2⟩:=hJ3;dsimp only [L67_60];have e:x3_1.length=n.toNat:=(by rw [q2];exact Ga (by omega) q1);have z:=of_decide_eq_true h4;have z2:1≤(x3_0.toNat-0).min (x3_1.length-x3_0.toNat):=Nat.le_min.2 ⟨by omega,by omega⟩;omega) (by obtain ⟨q0,q1,q2⟩:=hJ3;dsimp only [L67_60];have e:x3_1.length=n.toNat:=(by rw [q2];exact Ga (by omega) q1);have z2:(x3_0.toNat-0).min (x3_1.length-x3_0.toNat)≤x3_1.length-x3_0.toNat:=Nat.min_le_right _ _;exact ⟨by omega,by omega,rfl⟩) [] [2,3] [(repL (x3_0+(↑((x3_0.toNat-0).min (x3_1.length-x3_0.toNat)):Int)) n t).length=x3_1.length,∀ (i:Nat),i<(repL (x3_0+(↑((x3_0.toNat-0).min (x3_1.length-x3_0.toNat)):Int)) n t).length→i64T ((repL (x3_0+(↑((x3_0.toNat-0).min (x3_1.length-x3_0.toNat)):Int)) n t).getD i 0)=fun j=>if x3_0.toNat≤i∧i<x3_0.toNat+(x3_0.toNat-0).min (x3_1.length-x3_0.toNat) then i64T (x3_1.getD (0+(i-x3_0.toNat)) (0:Int)) j else i64T (x3_1.getD i 0) j] (by obtain ⟨q0,q1,q2⟩:=hJ3;subst q2;have e:=Ga (t:=t) (by omega:0≤x3_0) q1;simp only [e];have z2:(x3_0.toNat-0).min (n.toNat-x3_0.toNat)≤n.toNat-x3_0.toNat:=Nat.min_le_right _ _;simp only [Conj];(repeat' apply And.intro)<;>first | trivial | rfl | (intros;first | trivial | rfl) | exact Qh8 q0 q1 _ rfl | (rw [Ga]<;>omega))
   ·exact Q1 [] [0,1] [(List.replicate n.toNat t).length=x3_1.length,∀ (i:Nat),i<(List.replicate n.toNat t).length→i64T ((List.replicate n.toNat t).getD i 0)=i64T (x3_1.getD i 0)] (by obtain ⟨q0,q1,q2⟩:=hJ3;have e:x3_1.length=n.toNat:=(by rw [q2];exact Ga (by omega) q1);have z:=of_decide_eq_false h4;have e2:x3_0=n:=(by omega);subst e2;rw [q2,Qh7];simp only [Conj];(repeat' apply And.intro)<;>first | trivial | rfl | (intros;first | trivial | rfl))
end Go.Proofs.YtmaodngbpfjnnaaGreat
end
noncomputable section
namespace Go.Proofs.YtmaodngbpfjnnaaGreat
open Go Go.Tx
theorem Qhl (l:List Int) (n:Int) (hl1:l.length=1) (h0:1≤n) (h1:n≤1048576):Ctr Tryz.prog 56 [IntRow l] [.c (.h 0),.c (.i .i64 n)]
 (Det (.c (.h 1)) [.dead,IntOwn (List.replicate n.toNat (l.getD 0 0))]):=by
 match l,hl1 with
 | [t],_=>exact Qjo t n h0 h1
end Go.Proofs.YtmaodngbpfjnnaaGreat
end
noncomputable section
namespace Go.Proofs.YtmaodngbpfjnnaaGreat
open Go Go.Tx
theorem Qdt (l:List Prt) (hl:l.length * 64≤140737488355328):Ctr Tryz.prog 57 [Prt.rowR l] [.c (.h 0)]
 (Det (.c (.h 1)) [.dead,Prt.ownR l]):=by
 refine Ctr.intro [] Tryz.func57 K K ?_
 refine RunF.rnil (n:=l.length) (vc:=[]) 0 K trivial K (fun _=>by kernel_rfl) (fun nil1 hn1=>?_)
 refine tz [4,2,0] ?_
 refine Q0 (nil1) (fun h2=>?_) (fun h2=>?_)
 ·exact Q1 [0,1000001] [0] [l.length=0] W75
 ·exact Q1 [0,2] [0,1] [l.length=0+l.length,∀ (i:Nat),i<l.length→(l.getD i default).tc=fun j=>if i<0 then rowT 2 [] i j else (l.getD (i-0) default).tc j] W75 (vc:=[∀ (i j:Nat),i<l.length→j<2→flatT ((l.getD i default).tc j),0+l.length≤maxLen,(0+l.length) * 16≤140737488355328]) (hv:=(by simp only [Conj,Fits,Q9,Qa,Qf,Qg,News.len,maxLen]<;>(repeat' (first | apply And.intro | intro _))<;>first | (exact Prt.flat _ _ (by assumption)) | grind | (simp only [BL] at *;omega)))
theorem Qcn (l:List Int) (hl:l.length * 64≤140737488355328):Ctr Tryz.prog 58 [WordRow l] [.c (.h 0)]
 (Det (.c (.h 1)) [.dead,WordOwn l]):=by
 refine Ctr.intro [] Tryz.func58 K K ?_
 refine RunF.rnil (n:=l.length) (vc:=[]) 0 K trivial K (fun _=>by kernel_rfl) (fun nil1 hn1=>?_)
 refine tz [4,2,0] ?_
 refine Q0 (nil1) (fun h2=>?_) (fun h2=>?_)
 ·exact Q1 [0,1000001] [0] [l.length=0] W75
 ·exact Q1 [0,2] [0,1] [l.length=0+l.length,∀ (i:Nat),i<l.length→i64T (l.getD i 0)=fun j=>if i<0 then rowT 1 [] i j else i64T (l.getD (i-0) 0) j] W75 (vc:=[∀ (i j:Nat),i<l.length→j<1→flatT (i64T (l.getD i 0) j),0+l.length≤maxLen,(0+l.length) * 8≤140737488355328]) (hv:=W125)
end Go.Proofs.YtmaodngbpfjnnaaGreat
end
noncomputable section
namespace Go.Proofs.YtmaodngbpfjnnaaGreat
open Go Go.Tx
theorem Qjp (sh lk:List Dcl) (gs:List Grf) (pos:List Int) (sl:List Slt) (mem ho:List Int) (pr:List Prt) (hQ:MchQ sh.length lk.length gs (Mch.mk pos sl mem ho pr)) (hb:sh.length≤64∧lk.length≤16∧gs.length≤8) (hp:pr.length≤4194304):Ctr Tryz.prog 34 [.ro [.h 1,.h 2,.h 3,.h 4,.h 5,.h 6,.h 7,.h 8],Dcl.rowR sh,Dcl.rowR lk,Grf.rowR gs,IntRow pos,Slt.rowR sl,WordRow mem,IntRow ho,Prt.rowR pr] [.c (.p 0 0)]
 (Det (.c (.h 9)) [.dead,.dead,.dead,.dead,.dead,.dead,.dead,.dead,.dead,Prt.ownR pr]):=by
 refine Ctr.intro [] Tryz.func34 K K ?_
 refine Q2 Q37 (Qdt pr W27) [8] ?_
 exact Q1
theorem Qjq (sh lk:List Dcl) (gs:List Grf) (pos:List Int) (sl:List Slt) (mem ho:List Int) (pr:List Prt) (hQ:MchQ sh.length lk.length gs (Mch.mk pos sl mem ho pr)) (hb:sh.length≤64∧lk.length≤16∧gs.length≤8) (hp:pr.length≤4194304):Ctr Tryz.prog 35 [.ro [.h 1,.h 2,.h 3,.h 4,.h 5,.h 6,.h 7,.h 8],Dcl.rowR sh,Dcl.rowR lk,Grf.rowR gs,IntRow pos,Slt.rowR sl,WordRow mem,IntRow ho,Prt.rowR pr] [.c (.p 0 0)]
 (Det (.c (.h 9)) [.dead,.dead,.dead,.dead,.dead,.dead,.dead,.dead,.dead,WordOwn mem]):=by
 refine Ctr.intro [] Tryz.func35 K K ?_
 refine Q2 Q38 (Qcn mem (by first | assumption | (have z:=hQ.mn;dsimp only at z;omega))) [6] ?_
 exact Q1
def L13_60 (sh:List Dcl) (lk:List Dcl) (gs:List Grf) (pos:List Int) (sl:List Slt) (mem:List Int) (ho:List Int) (pr:List Prt):Lp (Int×Bool):=⟨fun x=>{ N:=19,fr:=[se 11 (C.i .i64 x.1),se 10 (C.i .i64 (↑pos.length:Int)),se 2 (C.b x.2),se 0 (C.p 0 0)],rg:=[Reg.ro [C.h 1,C.h 2,C.h 3,C.h 4,C.h 5,C.h 6,C.h 7,C.h 8],rowOf 3 (·.tc) sh,rowOf 3 (·.tc) lk,rowOf 4 (·.tc) gs,IntRow pos,rowOf 1 (·.tc) sl,IntRow mem,IntRow ho,rowOf 2 (·.tc) pr],wr:=[] },fun x=>0≤x.1∧x.1≤(pos.length:Int)∧endM gs pos ho=endGo gs pos ho ((pos.length:Int)-x.1).toNat x.1,fun x=>((pos.length:Int)-x.1).toNat⟩
theorem Qls (sh lk:List Dcl) (gs:List Grf) (pos:List Int) (sl:List Slt) (mem ho:List Int) (pr:List Prt) (hQ:MchQ sh.length lk.length gs (Mch.mk pos sl mem ho pr)) (hb:sh.length≤64∧lk.length≤16∧gs.length≤8) (hp:pr.length≤4194304) (hw:UnitW gs):Ctr Tryz.prog 36 [.ro [.h 1,.h 2,.h 3,.h 4,.h 5,.h 6,.h 7,.h 8],Dcl.rowR sh,Dcl.rowR lk,Grf.rowR gs,IntRow pos,Slt.rowR sl,WordRow mem,IntRow ho,Prt.rowR pr] [.c (.p 0 0)]
 (Det (.c (.b (endM gs pos ho))) [.dead,.dead,.dead,.dead,.dead,.dead,.dead,.dead,.dead]):=by
 refine Ctr.intro [] Tryz.func36 K K ?_
 refine Qb (L13_60 sh lk gs pos sl mem ho pr) (((0:Int),false)) Qa5 ?_
 rintro ⟨x1_0,x1_1⟩ hJ1
 dsimp only [L13_60] at hJ1
 refine tz [11,10,2,0] ?_
 refine Q0 (decide (x1_0<(↑pos.length:Int))) (fun h2=>?_) (fun h2=>?_)
 ·refine tz [11,10,2,0] ?_
  refine Q2 Y3 (Q59 (sh:=sh) (lk:=lk) (gs:=gs) (pos:=pos) (sl:=sl) (mem:=mem) (ho:=ho) (pr:=pr) (t:=x1_0) (hQ:=W27) (hw:=W27)) [] ?_
  refine tz [16,11,10,2,0] ?_
  refine Q0 (!decide (barV gs pos ho x1_0=(70:Int))) (fun h3=>?_) (fun h3=>?_)
  ·exact Q1 [] [0] [endM gs pos ho=false] W122
  ·exact Q6 (L13_60 sh lk gs pos sl mem ho pr) (x1_0,x1_1) ((x1_0+(1:Int),x1_1)) (by dsimp only [L13_60];have q:=of_decide_eq_true h2;have z:=hJ1.1;omega) (Qcg hJ1 h2 h3) (vc:=[Fits IntKind.i64 (x1_0+(1:Int))]) (hv:=W115)
 ·exact Q1 [] [0] [endM gs pos ho=true] W122
end Go.Proofs.YtmaodngbpfjnnaaGreat
end
noncomputable section
namespace Go.Proofs.YtmaodngbpfjnnaaGreat
open Go Go.Tx
theorem Qaa (sh lk:List Dcl) (gs:List Grf) (hs:∀ j:Nat,(sh.getD j default).name.size≤maxLen) (hl:∀ j:Nat,(lk.getD j default).name.size≤maxLen) (hg:∀ j:Nat,(gs.getD j default).name.size≤maxLen) (hw:UnitW gs) (cl:List Cls) (most:Int) (hsel:¬ (begT sh lk gs cl most)=0):Ctr Tryz.prog 15 [Dcl.rowR sh,Dcl.rowR lk,Grf.rowR gs,Cls.rowR cl] [.agg [.h 0,.h 1,.h 2],.c (.h 3),.c (.i .i64 most)]
 (Det (.tup [(false,[.v (.pointer none)]),(false,[.i .i64 (begT sh lk gs cl most)])]) [.dead,.dead,.dead,.dead]):=by
 refine Ctr.intro [] Tryz.func15 K K ?_
 by_cases hsel2:(chkU sh lk gs).1=0
 ·refine Q2 Q1g (Qa9 sh lk gs W27 W27 W27 W27 W27) [] ?_
  refine tz [12,7,6,3,1,2] ?_
  refine Q0 (!decide ((0:Int)=(0:Int))) (fun h1=>?_) (fun h1=>?_)
  ·exact absurd h1 W99
  ·refine tz [8,7,6,3,1,2] ?_
   refine Q0 (!decide ((↑cl.length:Int)=(↑sh.length:Int))) (fun h2=>?_) (fun h2=>?_)
   ·exact Q1 [] [1] [begT sh lk gs cl most=(210:Int)] W145
   ·refine tz [8,7,6,1,2] ?_
    refine Q0 (decide (most<(1:Int))||decide ((1048576:Int)<most)) (fun h3=>?_) (fun h3=>?_)
    ·exact Q1 [] [1] [begT sh lk gs cl most=(2:Int)] W145
    ·exact (show False from by (unfold begT at hsel;grind)).elim
 ·refine Q2 Q1g (Qhi sh lk gs W27 W27 W27 W27 W27) [] ?_
  refine tz [12,7,6,3,1,2] ?_
  refine Q0 (!decide ((chkU sh lk gs).fst=(0:Int))) (fun h1=>?_) (fun h1=>?_)
  ·exact Q1 [] [1] [begT sh lk gs cl most=(chkU sh lk gs).fst] W145
  ·refine tz [8,7,6,3,1,2] ?_
   refine Q0 (!decide ((↑cl.length:Int)=(↑sh.length:Int))) (fun h2=>?_) (fun h2=>?_)
   ·exact Q1 [] [1] [begT sh lk gs cl most=(210:Int)] W145
   ·refine tz [8,7,6,1,2] ?_
    refine Q0 (decide (most<(1:Int))||decide ((1048576:Int)<most)) (fun h3=>?_) (fun h3=>?_)
    ·exact Q1 [] [1] [begT sh lk gs cl most=(2:Int)] W145
    ·exact (show False from by (unfold begT at hsel;grind)).elim
theorem Q21 (sh lk:List Dcl) (gs:List Grf) (hs:∀ j:Nat,(sh.getD j default).name.size≤maxLen) (hl:∀ j:Nat,(lk.getD j default).name.size≤maxLen) (hg:∀ j:Nat,(gs.getD j default).name.size≤maxLen) (hw:UnitW gs) (cl:List Cls) (most:Int) (hsel:(begT sh lk gs cl most)=0):Ctr Tryz.prog 15 [Dcl.rowR sh,Dcl.rowR lk,Grf.rowR gs,Cls.rowR cl] [.agg [.h 0,.h 1,.h 2],.c (.h 3),.c (.i .i64 most)]
 (Det (.tup [(false,[.p 4 0]),(false,[.i .i64 0])]) [.dead,.dead,.dead,.dead,Reg.box 95 [.p 5 0,.h 3,.i .i64 most,.h 14],Reg.box 130 [.h 6,.h 7,.h 8,.h 9,.h 10,.h 11,.h 12,.h 13],Dcl.ownR sh,Dcl.ownR lk,Grf.ownR gs,IntOwn (newM sh lk gs).pos,Slt.ownR (newM sh lk gs).sl,WordOwn (newM sh lk gs).mem,IntOwn (newM sh lk gs).ho,Prt.ownR [],IntOwn []]):=by
 refine Ctr.intro [] Tryz.func15 K K ?_
 have hsel2:(chkU sh lk gs).1=0:=(Zk hsel).1
 refine Q2 Q1g (Qa9 sh lk gs W27 W27 W27 W27 W27) [] ?_
 refine tz [12,7,6,3,1,2] ?_
 refine Q0 (!decide ((0:Int)=(0:Int))) (fun h1=>?_) (fun h1=>?_)
 ·exact absurd h1 W99
 ·refine tz [8,7,6,3,1,2] ?_
  refine Q0 (!decide ((↑cl.length:Int)=(↑sh.length:Int))) (fun h2=>?_) (fun h2=>?_)
  ·exact (show False from by (have z:=Zk hsel;grind)).elim
  ·refine tz [8,7,6,1,2] ?_
   refine Q0 (decide (most<(1:Int))||decide ((1048576:Int)<most)) (fun h3=>?_) (fun h3=>?_)
   ·exact (show False from by (have z:=Zk hsel;grind)).elim
   ·exact Q1 [0,1,2,3,14,5,6,7,8,9,10,11,12,13,1000014] [15,17] [(0:Nat)=0,(0:Nat)=0] W145
abbrev z88_1:=[21,20,19,18,17,16,15,14,13,12,11,10,9,8,4,0,1]
theorem Qft (sh lk:List Dcl) (gs:List Grf) (pos:List Int) (sl:List Slt) (mem ho:List Int) (pr:List Prt) (cl:List Cls) (most:Int) (st:List Int) (t:Int) (hQ:MchQ sh.length lk.length gs (Mch.mk pos sl mem ho pr)) (hb:sh.length≤64∧lk.length≤16∧gs.length≤8) (hp:pr.length≤4194304) (hw:UnitW gs) (hst:st.length≤1048576) (hsel:¬ (advM sh.length gs cl t most (Mch.mk pos sl mem ho pr)).err=0):Ctr Tryz.prog 33 [Reg.box 95 [.p 1 0,.h 10,.i .i64 most,.h 11],Reg.box 130 [.h 2,.h 3,.h 4,.h 5,.h 6,.h 7,.h 8,.h 9],Dcl.rowR sh,Dcl.rowR lk,Grf.rowR gs,IntOwn pos,Slt.ownR sl,WordOwn mem,IntOwn ho,Prt.ownR pr,Cls.rowR cl,IntOwn st] [.c (.p 0 0),.c (.i .i64 t)]
 (Det (.c (.i .i64 (telAdv sh.length gs cl most t (Tel.mk 0 (Mch.mk pos sl mem ho pr) st)).err)) [.dead,.dead,.dead,.dead,.dead,.dead,.dead,.dead,.dead,.dead,.dead,.dead]):=by
 refine Ctr.intro [] Tryz.func33 K K ?_
 refine Q2 Yy (Qjn sh lk gs pos sl mem ho pr cl t most W56 W56 W56 W56 W56) [1,2,3,4,5,6,7,8,9,10] ?_
 refine tz z88_1 ?_
 refine Q0 (!decide ((advM sh.length gs cl t most (Mch.mk pos sl mem ho pr)).err=(0:Int))) (fun h1=>?_) (fun h1=>?_)
 ·rw [Qei (x:=(Tel.mk 0 (Mch.mk pos sl mem ho pr) st)) h1]
  exact Q1
 ·exact (show False from by simp [hsel] at h1).elim
theorem Qfu (sh lk:List Dcl) (gs:List Grf) (pos:List Int) (sl:List Slt) (mem ho:List Int) (pr:List Prt) (cl:List Cls) (most:Int) (st:List Int) (t:Int) (hQ:MchQ sh.length lk.length gs (Mch.mk pos sl mem ho pr)) (hb:sh.length≤64∧lk.length≤16∧gs.length≤8) (hp:pr.length≤4194304) (hw:UnitW gs) (hst:st.length≤1048576) (hsel:(advM sh.length gs cl t most (Mch.mk pos sl mem ho pr)).err=0) (hsel2:¬ (telAdv sh.length gs cl most t (Tel.mk 0 (Mch.mk pos sl mem ho pr) st)).err=0):Ctr Tryz.prog 33 [Reg.box 95 [.p 1 0,.h 10,.i .i64 most,.h 11],Reg.box 130 [.h 2,.h 3,.h 4,.h 5,.h 6,.h 7,.h 8,.h 9],Dcl.rowR sh,Dcl.rowR lk,Grf.rowR gs,IntOwn pos,Slt.ownR sl,WordOwn mem,IntOwn ho,Prt.ownR pr,Cls.rowR cl,IntOwn st] [.c (.p 0 0),.c (.i .i64 t)]
 (Det (.c (.i .i64 (telAdv sh.length gs cl most t (Tel.mk 0 (Mch.mk pos sl mem ho pr) st)).err)) [.dead,.dead,.dead,.dead,.dead,.dead,.dead,.dead,.dead,.dead,.dead,.dead]):=by
 refine Ctr.intro [] Tryz.func33 K K ?_
 have hz:(!decide ((advM sh.length gs cl t most (Mch.mk pos sl mem ho pr)).err=0))=false:=by simp [hsel]
 refine Q2 Yy (Qcm sh lk gs pos sl mem ho pr cl t most W56 W56 W56 W56 W56) [1,2,3,4,5,6,7,8,9,10] ?_
 refine tz z88_1 ?_
 refine Q0 (!decide ((0:Int)=(0:Int))) (fun h1=>?_) (fun h1=>?_)
 ·exact absurd h1 W99
 ·refine tz [5,4,0,1] ?_
  refine Q0 (decide ((1048576:Int)<(↑st.length:Int)+(advM sh.length gs cl t most (Mch.mk pos sl mem ho pr)).n)) (fun h2=>?_) (fun h2=>?_) (vc:=[Fits IntKind.i64 ((↑st.length:Int)+(advM sh.length gs cl t most (Mch.mk pos sl mem ho pr)).n)]) (hv:=W49)
  ·rw [Q3d (x:=(Tel.mk 0 (Mch.mk pos sl mem ho pr) st)) hz h2]
   exact Q1
  ·exact (show False from by rw [Q8m (x:=(Tel.mk 0 (Mch.mk pos sl mem ho pr) st)) hz h2] at hsel2;exact hsel2 rfl).elim
theorem Qab (sh lk:List Dcl) (gs:List Grf) (pos:List Int) (sl:List Slt) (mem ho:List Int) (pr:List Prt) (cl:List Cls) (most:Int) (st:List Int) (t:Int) (hQ:MchQ sh.length lk.length gs (Mch.mk pos sl mem ho pr)) (hb:sh.length≤64∧lk.length≤16∧gs.length≤8) (hp:pr.length≤4194304) (hw:UnitW gs) (hst:st.length≤1048576) (hsel2:(telAdv sh.length gs cl most t (Tel.mk 0 (Mch.mk pos sl mem ho pr) st)).err=0):Ctr Tryz.prog 33 [Reg.box 95 [.p 1 0,.h 10,.i .i64 most,.h 11],Reg.box 130 [.h 2,.h 3,.h 4,.h 5,.h 6,.h 7,.h 8,.h 9],Dcl.rowR sh,Dcl.rowR lk,Grf.rowR gs,IntOwn pos,Slt.ownR sl,WordOwn mem,IntOwn ho,Prt.ownR pr,Cls.rowR cl,IntOwn st] [.c (.p 0 0),.c (.i .i64 t)]
 (Det (.c (.i .i64 0)) [Reg.box 95 [.p 1 0,.h 10,.i .i64 most,.h 17],Reg.box 130 [.h 2,.h 3,.h 4,.h 12,.h 13,.h 14,.h 15,.h 16],.dead,.dead,.dead,.dead,.dead,.dead,.dead,.dead,.dead,.dead,IntOwn (telAdv sh.length gs cl most t (Tel.mk 0 (Mch.mk pos sl mem ho pr) st)).m.pos,Slt.ownR (telAdv sh.length gs cl most t (Tel.mk 0 (Mch.mk pos sl mem ho pr) st)).m.sl,WordOwn (telAdv sh.length gs cl most t (Tel.mk 0 (Mch.mk pos sl mem ho pr) st)).m.mem,IntOwn (telAdv sh.length gs cl most t (Tel.mk 0 (Mch.mk pos sl mem ho pr) st)).m.ho,Prt.ownR (telAdv sh.length gs cl most t (Tel.mk 0 (Mch.mk pos sl mem ho pr) st)).m.pr,IntOwn (telAdv sh.length gs cl most t (Tel.mk 0 (Mch.mk pos sl mem ho pr) st)).st]):=by
 refine Ctr.intro [] Tryz.func33 K K ?_
 have hsel:(advM sh.length gs cl t most (Mch.mk pos sl mem ho pr)).err=0:=Q2q hsel2
 have hz:(!decide ((advM sh.length gs cl t most (Mch.mk pos sl mem ho pr)).err=0))=false:=by simp [hsel]
 refine Q2 Yy (Qcm sh lk gs pos sl mem ho pr cl t most W56 W56 W56 W56 W56) [1,2,3,4,5,6,7,8,9,10] ?_
 refine tz z88_1 ?_
 refine Q0 (!decide ((0:Int)=(0:Int))) (fun h1=>?_) (fun h1=>?_)
 ·exact absurd h1 W99
 ·refine tz [5,4,0,1] ?_
  refine Q0 (decide ((1048576:Int)<(↑st.length:Int)+(advM sh.length gs cl t most (Mch.mk pos sl mem ho pr)).n)) (fun h2=>?_) (fun h2=>?_) (vc:=[Fits IntKind.i64 ((↑st.length:Int)+(advM sh.length gs cl t most (Mch.mk pos sl mem ho pr)).n)]) (hv:=W49)
  ·exact (show False from by rw [Q3d (x:=(Tel.mk 0 (Mch.mk pos sl mem ho pr) st)) hz h2] at hsel2;cases hsel2).elim
  ·rw [Q8m (x:=(Tel.mk 0 (Mch.mk pos sl mem ho pr) st)) hz h2]
   refine tz [5,4,0,1] ?_
   refine Q2 Q41 (Qhl [t] ((advM sh.length gs cl t most (Mch.mk pos sl mem ho pr)).n) W56 W56 W56) [17] ?_ [0,1,2] [[t].length=1,∀ (i:Nat),i < [t].length→i≠0→i64T ([t].getD i 0)=fun x=>TC.any,i64T t 0=TC.val (Value.int IntKind.i64 t)] (by (try simp only [Conj])<;>(repeat' apply And.intro)<;>first | done | trivial | rfl | (intros;first | rfl | trivial) | exact Y6 _ _ | exact List.length_set | (intro i h1 h2;exact absurd h1 (by simp;omega)) | exact Qx _ _ _ | exact J1 _ _ _ _ _ | (exact J2 _ _ _ (by first | omega | (have h0:=Jy (by simpa using h1);have hm:=Jw h0.1;have hs:=Q1j h0.1;omega))) | exact MpEq.put (by omega) | (refine MpEq.mk' (by omega) ?_ ?_<;>intro q<;>first | rfl | (dsimp only;split<;>simp_all)) | (exact MpEq.mkIt (by omega) (fun _=>rfl) (fun _=>rfl) rfl rfl (fun _=>rfl)) | (intro i h1 h2;rw [Zh h1 h2]) | (rw [Yc];rfl))
   exact Q1 [0,1,2,3,4,5,6,7,8,9,10,11,12,13,14,15,16,19] [11,12] [(st++List.replicate (advM sh.length gs cl t most (Mch.mk pos sl mem ho pr)).n.toNat t).length=st.length+(List.replicate (advM sh.length gs cl t most (Mch.mk pos sl mem ho pr)).n.toNat t).length,∀ (i:Nat),i<(st++List.replicate (advM sh.length gs cl t most (Mch.mk pos sl mem ho pr)).n.toNat t).length→i64T ((st++List.replicate (advM sh.length gs cl t most (Mch.mk pos sl mem ho pr)).n.toNat t).getD i 0)=fun j=>if i<st.length then i64T (st.getD i 0) j else i64T ((List.replicate (advM sh.length gs cl t most (Mch.mk pos sl mem ho pr)).n.toNat t).getD (i-st.length) 0) j] (by simp only [Conj];(repeat' apply And.intro)<;>first | trivial | rfl | (intros;first | trivial | rfl) | exact List.length_append | exact Qji 0 i64T _ _) (vc:=[∀ (i j:Nat),i<(List.replicate (advM sh.length gs cl t most (Mch.mk pos sl mem ho pr)).n.toNat t).length→j<1→flatT (i64T ((List.replicate (advM sh.length gs cl t most (Mch.mk pos sl mem ho pr)).n.toNat t).getD i 0) j),st.length+(List.replicate (advM sh.length gs cl t most (Mch.mk pos sl mem ho pr)).n.toNat t).length≤maxLen,(st.length+(List.replicate (advM sh.length gs cl t most (Mch.mk pos sl mem ho pr)).n.toNat t).length) * 8≤140737488355328]) (hv:=W49)
theorem Qco (sh lk:List Dcl) (gs:List Grf) (pos:List Int) (sl:List Slt) (mem ho:List Int) (pr:List Prt) (cl:List Cls) (most:Int) (st:List Int) (hQ:MchQ sh.length lk.length gs (Mch.mk pos sl mem ho pr)) (hb:sh.length≤64∧lk.length≤16∧gs.length≤8) (hp:pr.length≤4194304) (hw:UnitW gs) (hst:st.length≤1048576):Ctr Tryz.prog 17 [.ro [.p 1 0,.h 10,.i .i64 most,.h 11],.ro [.h 2,.h 3,.h 4,.h 5,.h 6,.h 7,.h 8,.h 9],Dcl.rowR sh,Dcl.rowR lk,Grf.rowR gs,IntRow pos,Slt.rowR sl,WordRow mem,IntRow ho,Prt.rowR pr,Cls.rowR cl,IntRow st] [.c (.p 0 0)]
 (Det (.agg [.h 11,.h 12,.h 13,.b (endM gs pos ho)]) [.dead,.dead,.dead,.dead,.dead,.dead,.dead,.dead,.dead,.dead,.dead,.dead,Prt.ownR pr,WordOwn mem]):=by
 refine Ctr.intro [] Tryz.func17 K K ?_
 refine Q2 Q1n (Qjp sh lk gs pos sl mem ho pr W27 W27 W27) [1,2,3,4,5,6,7,8,9] ?_
 refine tz [11,20,19,18,17,15,14,13,12,10,9,8,7,6,5,4,3,2,0] ?_
 refine Q2 Q1o (Qjq sh lk gs pos sl mem ho pr W27 W27 W27) [1,2,3,4,5,6,7,8,9] ?_
 refine tz [16,11,20,19,18,17,15,14,13,12,10,9,8,7,6,5,4,3,2,0] ?_
 refine Q2 Q2a (Qls sh lk gs pos sl mem ho pr W27 W27 W27 W27) [1,2,3,4,5,6,7,8,9] ?_
 exact Q1 [0,1,2,3,4,5,6,7,8,9,10,11,13,14]
end Go.Proofs.YtmaodngbpfjnnaaGreat
end
noncomputable section
namespace Go.Proofs.YtmaodngbpfjnnaaGreat
open Go Go.Tx
theorem Qac (sh lk:List Dcl) (gs:List Grf) (pos:List Int) (sl:List Slt) (mem ho:List Int) (pr:List Prt) (cl:List Cls) (most:Int) (st:List Int) (t:Int) (hQ:MchQ sh.length lk.length gs (Mch.mk pos sl mem ho pr)) (hb:sh.length≤64∧lk.length≤16∧gs.length≤8) (hp:pr.length≤4194304) (hw:UnitW gs) (hst:st.length≤1048576) (hsel:¬ (telAdv sh.length gs cl most t (Tel.mk 0 (Mch.mk pos sl mem ho pr) st)).err=0):Ctr Tryz.prog 33 [Reg.box 95 [.p 1 0,.h 10,.i .i64 most,.h 11],Reg.box 130 [.h 2,.h 3,.h 4,.h 5,.h 6,.h 7,.h 8,.h 9],Dcl.rowR sh,Dcl.rowR lk,Grf.rowR gs,IntOwn pos,Slt.ownR sl,WordOwn mem,IntOwn ho,Prt.ownR pr,Cls.rowR cl,IntOwn st] [.c (.p 0 0),.c (.i .i64 t)]
 (Det (.c (.i .i64 (telAdv sh.length gs cl most t (Tel.mk 0 (Mch.mk pos sl mem ho pr) st)).err)) [.dead,.dead,.dead,.dead,.dead,.dead,.dead,.dead,.dead,.dead,.dead,.dead]):=by
 by_cases h:(advM sh.length gs cl t most (Mch.mk pos sl mem ho pr)).err=0
 ·exact Qfu _ _ _ _ _ _ _ _ _ _ _ t hQ hb hp hw hst h hsel
 ·exact Qft _ _ _ _ _ _ _ _ _ _ _ t hQ hb hp hw hst h
abbrev z89_2 (most:Int) (sh:List Dcl) (lk:List Dcl) (gs:List Grf) (cl:List Cls) (l:List Int):=[Reg.box 95 [C.p 1 0,C.h 10,C.i .i64 most,C.h 13],Reg.box 130 [C.h 2,C.h 3,C.h 4,C.h 14,C.h 15,C.h 16,C.h 17,C.h 18],rowOf 3 (·.tc) sh,rowOf 3 (·.tc) lk,rowOf 4 (·.tc) gs,Reg.dead,Reg.dead,Reg.dead,Reg.dead,Reg.dead,rowOf 3 (·.tc) cl,Reg.dead,IntRow l]
def L24_60 (sh:List Dcl) (lk:List Dcl) (gs:List Grf) (pos:List Int) (sl:List Slt) (mem:List Int) (ho:List Int) (pr:List Prt) (cl:List Cls) (most:Int) (st:List Int) (l:List Int):Lp (Int×Int×List Int×List Int×List Slt×List Int×List Int×List Prt):=⟨fun x=>{ N:=21,fr:=[se 10 (C.i .i64 x.1),se 9 (C.i .i64 (↑l.length:Int)),se 8 (C.h 12),se 4 (C.i .i64 x.2.1),se 0 (C.p 0 0)],rg:=(z89_2 most sh lk gs cl l)++[IntOwn x.2.2.1]++[IntOwn x.2.2.2.1]++[Slt.ownR x.2.2.2.2.1]++[WordOwn x.2.2.2.2.2.1]++[IntOwn x.2.2.2.2.2.2.1]++[Prt.ownR x.2.2.2.2.2.2.2],wr:=[] },fun x=>FolJ sh.length lk.length gs cl most l (Tel.mk 0 (Mch.mk pos sl mem ho pr) st) x.1 (Tel.mk 0 (Mch.mk x.2.2.2.1 x.2.2.2.2.1 x.2.2.2.2.2.1 x.2.2.2.2.2.2.1 x.2.2.2.2.2.2.2) x.2.2.1),fun x=>((l.length:Int)-x.1).toNat⟩
abbrev z89_1 (sh:List Dcl) (gs:List Grf) (cl:List Cls) (most:Int) (l:List Int) (x1_0:Int) (x1_3:List Int) (x1_4:List Slt) (x1_5:List Int) (x1_6:List Int) (x1_7:List Prt) (x1_2:List Int):=(telAdv sh.length gs cl most (l.getD x1_0.toNat 0) (Tel.mk (0:Int) (Mch.mk x1_3 x1_4 x1_5 x1_6 x1_7) x1_2))
abbrev z89_3:=[0,1,2,3,4,14,15,16,17,18,10,13]
abbrev z89_4 (x1_0:Int) (x1_1:Int) (sh:List Dcl) (gs:List Grf) (cl:List Cls) (most:Int) (l:List Int) (x1_3:List Int) (x1_4:List Slt) (x1_5:List Int) (x1_6:List Int) (x1_7:List Prt) (x1_2:List Int):=((x1_0+(1:Int),x1_1,(z89_1 sh gs cl most l x1_0 x1_3 x1_4 x1_5 x1_6 x1_7 x1_2).st,(z89_1 sh gs cl most l x1_0 x1_3 x1_4 x1_5 x1_6 x1_7 x1_2).m.pos,(z89_1 sh gs cl most l x1_0 x1_3 x1_4 x1_5 x1_6 x1_7 x1_2).m.sl,(z89_1 sh gs cl most l x1_0 x1_3 x1_4 x1_5 x1_6 x1_7 x1_2).m.mem,(z89_1 sh gs cl most l x1_0 x1_3 x1_4 x1_5 x1_6 x1_7 x1_2).m.ho,(z89_1 sh gs cl most l x1_0 x1_3 x1_4 x1_5 x1_6 x1_7 x1_2).m.pr))
theorem Qad (sh lk:List Dcl) (gs:List Grf) (pos:List Int) (sl:List Slt) (mem ho:List Int) (pr:List Prt) (cl:List Cls) (most:Int) (st:List Int) (l:List Int) (hQ:MchQ sh.length lk.length gs (Mch.mk pos sl mem ho pr)) (hb:sh.length≤64∧lk.length≤16∧gs.length≤8) (hp:pr.length≤4194304) (hw:UnitW gs) (hst:st.length≤1048576) (hpp:pr.length≤st.length) (hsel0:¬ (telGo sh.length gs cl most l (Tel.mk 0 (Mch.mk pos sl mem ho pr) st)).err=0):Ctr Tryz.prog 16 [Reg.box 95 [.p 1 0,.h 10,.i .i64 most,.h 11],Reg.box 130 [.h 2,.h 3,.h 4,.h 5,.h 6,.h 7,.h 8,.h 9],Dcl.rowR sh,Dcl.rowR lk,Grf.rowR gs,IntOwn pos,Slt.ownR sl,WordOwn mem,IntOwn ho,Prt.ownR pr,Cls.rowR cl,IntOwn st,IntRow l] [.c (.p 0 0),.c (.h 12)]
 (Det (.c (.i .i64 (telGo sh.length gs cl most l (Tel.mk 0 (Mch.mk pos sl mem ho pr) st)).err)) [.dead,.dead,.dead,.dead,.dead,.dead,.dead,.dead,.dead,.dead,.dead,.dead,.dead]):=by
 refine Ctr.intro [] Tryz.func16 K K ?_
 refine RunF.lens 12 (m:=l.length) K (fun hlens_12=>?_)
 refine Qb (L24_60 sh lk gs pos sl mem ho pr cl most st l) (((0:Int),(0:Int),st,pos,sl,mem,ho,pr)) (FolJ.start hQ hpp hst) ?_ [0,1,2,3,4,5,6,7,8,9,10,11,12,11,5,6,7,8,9]
 rintro ⟨x1_0,x1_1,x1_2,x1_3,x1_4,x1_5,x1_6,x1_7⟩ hJ1
 dsimp only [L24_60] at hJ1
 refine tz [10,9,8,4,0] ?_
 refine Q0 (decide (x1_0<(↑l.length:Int))) (fun h2=>?_) (fun h2=>?_)
 ·by_cases hsel:(telAdv sh.length gs cl most (l.getD x1_0.toNat 0) (Tel.mk 0 (Mch.mk x1_3 x1_4 x1_5 x1_6 x1_7) x1_2)).err=0
  ·refine tz [10,9,8,4,0] ?_
   refine Q2 Ye (Qab sh lk gs x1_3 x1_4 x1_5 x1_6 x1_7 cl most x1_2 (l.getD x1_0.toNat 0) W13 W13 W13 W13 W13 W13) z89_3 ?_ (vc:=[(0:Int)≤x1_0,x1_0<(↑l.length:Int),x1_0.toNat<l.length]) (hv:=W36)
   refine tz [16,10,9,8,4,0] ?_
   refine Q0 (!decide ((0:Int)=(0:Int))) (fun h3=>?_) (fun h3=>?_)
   ·exact absurd h3 W99
   ·exact Q6 (L24_60 sh lk gs pos sl mem ho pr cl most st l) (x1_0,x1_1,x1_2,x1_3,x1_4,x1_5,x1_6,x1_7) (z89_4 x1_0 x1_1 sh gs cl most l x1_3 x1_4 x1_5 x1_6 x1_7 x1_2) (by dsimp only [L24_60];have z:=hJ1.lo;have q:=of_decide_eq_true h2;omega) (FolJ.next hw hJ1 h2 hsel) [0,1,2,3,4,5,6,7,8,9,10,11,12,24,19,20,21,22,23] (vc:=[Fits IntKind.i64 (x1_0+(1:Int))]) (hv:=W36)
  ·refine tz [10,9,8,4,0] ?_
   refine Q2 Ye (Qac sh lk gs x1_3 x1_4 x1_5 x1_6 x1_7 cl most x1_2 (l.getD x1_0.toNat 0) W13 W13 W13 W13 W13 W13) z89_3 ?_ (vc:=[(0:Int)≤x1_0,x1_0<(↑l.length:Int),x1_0.toNat<l.length]) (hv:=W36)
   refine tz [16,10,9,8,4,0] ?_
   refine Q0 (!decide ((z89_1 sh gs cl most l x1_0 x1_3 x1_4 x1_5 x1_6 x1_7 x1_2).err=(0:Int))) (fun h3=>?_) (fun h3=>?_)
   ·rw [FolJ.err hJ1 h2 hsel]
    exact Q1
   ·exact (show False from by simp [hsel] at h3).elim
 ·exact (show False from by rw [FolJ.done hJ1 h2] at hsel0;exact hsel0 rfl).elim
def L24_70 (sh:List Dcl) (lk:List Dcl) (gs:List Grf) (pos:List Int) (sl:List Slt) (mem:List Int) (ho:List Int) (pr:List Prt) (cl:List Cls) (most:Int) (st:List Int) (l:List Int):Lp (Int×Int×List Int×List Int×List Slt×List Int×List Int×List Prt):=⟨fun x=>{ N:=21,fr:=[se 10 (C.i .i64 x.1),se 9 (C.i .i64 (↑l.length:Int)),se 8 (C.h 12),se 4 (C.i .i64 x.2.1),se 0 (C.p 0 0)],rg:=(z89_2 most sh lk gs cl l)++[IntOwn x.2.2.1]++[IntOwn x.2.2.2.1]++[Slt.ownR x.2.2.2.2.1]++[WordOwn x.2.2.2.2.2.1]++[IntOwn x.2.2.2.2.2.2.1]++[Prt.ownR x.2.2.2.2.2.2.2],wr:=[] },fun x=>FolJ sh.length lk.length gs cl most l (Tel.mk 0 (Mch.mk pos sl mem ho pr) st) x.1 (Tel.mk 0 (Mch.mk x.2.2.2.1 x.2.2.2.2.1 x.2.2.2.2.2.1 x.2.2.2.2.2.2.1 x.2.2.2.2.2.2.2) x.2.2.1),fun x=>((l.length:Int)-x.1).toNat⟩
theorem Qae (sh lk:List Dcl) (gs:List Grf) (pos:List Int) (sl:List Slt) (mem ho:List Int) (pr:List Prt) (cl:List Cls) (most:Int) (st:List Int) (l:List Int) (hQ:MchQ sh.length lk.length gs (Mch.mk pos sl mem ho pr)) (hb:sh.length≤64∧lk.length≤16∧gs.length≤8) (hp:pr.length≤4194304) (hw:UnitW gs) (hst:st.length≤1048576) (hpp:pr.length≤st.length) (hsel0:(telGo sh.length gs cl most l (Tel.mk 0 (Mch.mk pos sl mem ho pr) st)).err=0):Ctr Tryz.prog 16 [Reg.box 95 [.p 1 0,.h 10,.i .i64 most,.h 11],Reg.box 130 [.h 2,.h 3,.h 4,.h 5,.h 6,.h 7,.h 8,.h 9],Dcl.rowR sh,Dcl.rowR lk,Grf.rowR gs,IntOwn pos,Slt.ownR sl,WordOwn mem,IntOwn ho,Prt.ownR pr,Cls.rowR cl,IntOwn st,IntRow l] [.c (.p 0 0),.c (.h 12)]
 (Det (.c (.i .i64 0)) [Reg.box 95 [.p 1 0,.h 10,.i .i64 most,.h 18],Reg.box 130 [.h 2,.h 3,.h 4,.h 13,.h 14,.h 15,.h 16,.h 17],.dead,.dead,.dead,.dead,.dead,.dead,.dead,.dead,.dead,.dead,.dead,IntOwn (telGo sh.length gs cl most l (Tel.mk 0 (Mch.mk pos sl mem ho pr) st)).m.pos,Slt.ownR (telGo sh.length gs cl most l (Tel.mk 0 (Mch.mk pos sl mem ho pr) st)).m.sl,WordOwn (telGo sh.length gs cl most l (Tel.mk 0 (Mch.mk pos sl mem ho pr) st)).m.mem,IntOwn (telGo sh.length gs cl most l (Tel.mk 0 (Mch.mk pos sl mem ho pr) st)).m.ho,Prt.ownR (telGo sh.length gs cl most l (Tel.mk 0 (Mch.mk pos sl mem ho pr) st)).m.pr,IntOwn (telGo sh.length gs cl most l (Tel.mk 0 (Mch.mk pos sl mem ho pr) st)).st]):=by
 refine Ctr.intro [] Tryz.func16 K K ?_
 refine RunF.lens 12 (m:=l.length) K (fun hlens_12=>?_)
 refine Qb (L24_70 sh lk gs pos sl mem ho pr cl most st l) (((0:Int),(0:Int),st,pos,sl,mem,ho,pr)) (FolJ.start hQ hpp hst) ?_ [0,1,2,3,4,5,6,7,8,9,10,11,12,11,5,6,7,8,9]
 rintro ⟨x1_0,x1_1,x1_2,x1_3,x1_4,x1_5,x1_6,x1_7⟩ hJ1
 dsimp only [L24_70] at hJ1
 refine tz [10,9,8,4,0] ?_
 refine Q0 (decide (x1_0<(↑l.length:Int))) (fun h2=>?_) (fun h2=>?_)
 ·by_cases hsel:(telAdv sh.length gs cl most (l.getD x1_0.toNat 0) (Tel.mk 0 (Mch.mk x1_3 x1_4 x1_5 x1_6 x1_7) x1_2)).err=0
  ·refine tz [10,9,8,4,0] ?_
   refine Q2 Ye (Qab sh lk gs x1_3 x1_4 x1_5 x1_6 x1_7 cl most x1_2 (l.getD x1_0.toNat 0) W13 W13 W13 W13 W13 W13) z89_3 ?_ (vc:=[(0:Int)≤x1_0,x1_0<(↑l.length:Int),x1_0.toNat<l.length]) (hv:=W36)
   refine tz [16,10,9,8,4,0] ?_
   refine Q0 (!decide ((0:Int)=(0:Int))) (fun h3=>?_) (fun h3=>?_)
   ·exact absurd h3 W99
   ·exact Q6 (L24_70 sh lk gs pos sl mem ho pr cl most st l) (x1_0,x1_1,x1_2,x1_3,x1_4,x1_5,x1_6,x1_7) (z89_4 x1_0 x1_1 sh gs cl most l x1_3 x1_4 x1_5 x1_6 x1_7 x1_2) (by dsimp only [L24_70];have z:=hJ1.lo;have q:=of_decide_eq_true h2;omega) (FolJ.next hw hJ1 h2 hsel) [0,1,2,3,4,5,6,7,8,9,10,11,12,24,19,20,21,22,23] (vc:=[Fits IntKind.i64 (x1_0+(1:Int))]) (hv:=W36)
  ·refine tz [10,9,8,4,0] ?_
   refine Q2 Ye (Qac sh lk gs x1_3 x1_4 x1_5 x1_6 x1_7 cl most x1_2 (l.getD x1_0.toNat 0) W13 W13 W13 W13 W13 W13) z89_3 ?_ (vc:=[(0:Int)≤x1_0,x1_0<(↑l.length:Int),x1_0.toNat<l.length]) (hv:=W36)
   refine tz [16,10,9,8,4,0] ?_
   refine Q0 (!decide ((z89_1 sh gs cl most l x1_0 x1_3 x1_4 x1_5 x1_6 x1_7 x1_2).err=(0:Int))) (fun h3=>?_) (fun h3=>?_)
   ·exact (show False from by rw [FolJ.err hJ1 h2 hsel] at hsel0;exact hsel hsel0).elim
   ·exact (show False from by simp [hsel] at h3).elim
 ·rw [FolJ.done hJ1 h2]
  exact Q1 [0,1,2,3,4,5,6,7,8,9,10,11,12,14,15,16,17,18,13]
end Go.Proofs.YtmaodngbpfjnnaaGreat
end
noncomputable section
namespace Go.Proofs.YtmaodngbpfjnnaaGreat
open Go Go.Tx
theorem Qn9 (sh lk:List Dcl) (gs:List Grf) (hs:∀ j:Nat,(sh.getD j default).name.size≤maxLen) (hl:∀ j:Nat,(lk.getD j default).name.size≤maxLen) (hg:∀ j:Nat,(gs.getD j default).name.size≤maxLen) (hw:UnitW gs) (cl:List Cls) (l:List Int) (most:Int) (hsel:¬ (flwE sh lk gs cl l most)=0):Ctr Tryz.prog 6 [Dcl.rowR sh,Dcl.rowR lk,Grf.rowR gs,Cls.rowR cl,IntRow l] [.agg [.h 0,.h 1,.h 2],.c (.h 3),.c (.h 4),.c (.i .i64 most)]
 (Det (.tup [(true,[.h 5,.h 6,.h 7,.b false]),(false,[.i .i64 (flwE sh lk gs cl l most)])]) [.dead,.dead,.dead,.dead,.dead,IntOwn [],Prt.ownR [],WordOwn []]):=by
 refine Ctr.intro [] Tryz.func6 K K ?_
 by_cases hB:begT sh lk gs cl most=0
 ·have hF:¬ (telGo sh.length gs cl most l (Tel.mk 0 (Mch.mk (newM sh lk gs).pos (newM sh lk gs).sl (newM sh lk gs).mem (newM sh lk gs).ho []) [])).err=0:=fun h=>hsel ((Q8o hB).trans h)
  refine Q2 Yq (Q21 sh lk gs W3 W3 W3 W3 cl most W3) [] ?_
  refine tz [17,9,8,2] ?_
  refine Q0 (!decide ((0:Int)=(0:Int))) (fun h1=>?_) (fun h1=>?_)
  ·exact absurd h1 W99
  ·refine tz [10,9,8,2] ?_
   refine Q2 Yg (Qad sh lk gs ((newM sh lk gs).pos) ((newM sh lk gs).sl) ((newM sh lk gs).mem) ((newM sh lk gs).ho) [] cl most [] l W3 W3 W3 W3 W3 W3 W3) [7,8,9,10,11,12,13,14,15,16,3,17,4] ?_ [15,19] [(0:Nat)=0,(0:Nat)=0] W0
   refine tz [26,10,9,8] ?_
   refine Q0 (!decide ((telGo sh.length gs cl most l (Tel.mk (0:Int) (Mch.mk (newM sh lk gs).pos (newM sh lk gs).sl (newM sh lk gs).mem (newM sh lk gs).ho []) [])).err=(0:Int))) (fun h2=>?_) (fun h2=>?_)
   ·exact Q1 [0,1,2,3,4,1000005,1000006,1000007] [0,1,2,4] [(0:Nat)=0,(0:Nat)=0,(0:Nat)=0,flwE sh lk gs cl l most=(telGo sh.length gs cl most l (Tel.mk (0:Int) (Mch.mk (newM sh lk gs).pos (newM sh lk gs).sl (newM sh lk gs).mem (newM sh lk gs).ho []) [])).err] W73
   ·exact (show False from by exact hF W128).elim
 ·refine Q2 Yq (Qaa sh lk gs W3 W3 W3 W3 cl most W3) [] ?_
  refine tz [17,9,8,2] ?_
  refine Q0 (!decide (begT sh lk gs cl most=(0:Int))) (fun h1=>?_) (fun h1=>?_)
  ·exact Q1 [0,1,2,3,4,1000005,1000006,1000007] [0,1,2,4] [(0:Nat)=0,(0:Nat)=0,(0:Nat)=0,flwE sh lk gs cl l most=begT sh lk gs cl most] W73
  ·exact (show False from by exact hB W133).elim
theorem Qna (sh lk:List Dcl) (gs:List Grf) (hs:∀ j:Nat,(sh.getD j default).name.size≤maxLen) (hl:∀ j:Nat,(lk.getD j default).name.size≤maxLen) (hg:∀ j:Nat,(gs.getD j default).name.size≤maxLen) (hw:UnitW gs) (cl:List Cls) (l:List Int) (most:Int) (hsel:(flwE sh lk gs cl l most)=0):Ctr Tryz.prog 6 [Dcl.rowR sh,Dcl.rowR lk,Grf.rowR gs,Cls.rowR cl,IntRow l] [.agg [.h 0,.h 1,.h 2],.c (.h 3),.c (.h 4),.c (.i .i64 most)]
 (Det (.tup [(true,[.h 5,.h 6,.h 7,.b (endM gs (telGo sh.length gs cl most l (Tel.mk 0 (Mch.mk (newM sh lk gs).pos (newM sh lk gs).sl (newM sh lk gs).mem (newM sh lk gs).ho []) [])).m.pos (telGo sh.length gs cl most l (Tel.mk 0 (Mch.mk (newM sh lk gs).pos (newM sh lk gs).sl (newM sh lk gs).mem (newM sh lk gs).ho []) [])).m.ho)]),(false,[.i .i64 0])]) [.dead,.dead,.dead,.dead,.dead,IntOwn (telGo sh.length gs cl most l (Tel.mk 0 (Mch.mk (newM sh lk gs).pos (newM sh lk gs).sl (newM sh lk gs).mem (newM sh lk gs).ho []) [])).st,Prt.ownR (telGo sh.length gs cl most l (Tel.mk 0 (Mch.mk (newM sh lk gs).pos (newM sh lk gs).sl (newM sh lk gs).mem (newM sh lk gs).ho []) [])).m.pr,WordOwn (telGo sh.length gs cl most l (Tel.mk 0 (Mch.mk (newM sh lk gs).pos (newM sh lk gs).sl (newM sh lk gs).mem (newM sh lk gs).ho []) [])).m.mem]):=by
 refine Ctr.intro [] Tryz.func6 K K ?_
 have hB:begT sh lk gs cl most=0:=(Q0l hsel).1
 have hF:(telGo sh.length gs cl most l (Tel.mk 0 (Mch.mk (newM sh lk gs).pos (newM sh lk gs).sl (newM sh lk gs).mem (newM sh lk gs).ho []) [])).err=0:=(Q0l hsel).2
 refine Q2 Yq (Q21 sh lk gs W3 W3 W3 W3 cl most W3) [] ?_
 refine tz [17,9,8,2] ?_
 refine Q0 (!decide ((0:Int)=(0:Int))) (fun h1=>?_) (fun h1=>?_)
 ·exact absurd h1 W99
 ·refine tz [10,9,8,2] ?_
  refine Q2 Yg (Qae sh lk gs ((newM sh lk gs).pos) ((newM sh lk gs).sl) ((newM sh lk gs).mem) ((newM sh lk gs).ho) [] cl most [] l W3 W3 W3 W3 W3 W3 W3) [7,8,9,10,11,12,13,14,15,16,3,17,4] ?_ [15,19] [(0:Nat)=0,(0:Nat)=0] W0
  refine tz [26,10,9,8] ?_
  refine Q0 (!decide ((0:Int)=(0:Int))) (fun h2=>?_) (fun h2=>?_)
  ·exact absurd h2 W99
  ·refine tz [10,9,8] ?_
   refine Q2 Gm (Qco sh lk gs ((telGo sh.length gs cl most l (Tel.mk (0:Int) (Mch.mk (newM sh lk gs).pos (newM sh lk gs).sl (newM sh lk gs).mem (newM sh lk gs).ho []) [])).m.pos) ((telGo sh.length gs cl most l (Tel.mk (0:Int) (Mch.mk (newM sh lk gs).pos (newM sh lk gs).sl (newM sh lk gs).mem (newM sh lk gs).ho []) [])).m.sl) ((telGo sh.length gs cl most l (Tel.mk (0:Int) (Mch.mk (newM sh lk gs).pos (newM sh lk gs).sl (newM sh lk gs).mem (newM sh lk gs).ho []) [])).m.mem) ((telGo sh.length gs cl most l (Tel.mk (0:Int) (Mch.mk (newM sh lk gs).pos (newM sh lk gs).sl (newM sh lk gs).mem (newM sh lk gs).ho []) [])).m.ho) ((telGo sh.length gs cl most l (Tel.mk (0:Int) (Mch.mk (newM sh lk gs).pos (newM sh lk gs).sl (newM sh lk gs).mem (newM sh lk gs).ho []) [])).m.pr) cl most ((telGo sh.length gs cl most l (Tel.mk (0:Int) (Mch.mk (newM sh lk gs).pos (newM sh lk gs).sl (newM sh lk gs).mem (newM sh lk gs).ho []) [])).st) W3 W3 W3 W3 W3) [7,8,9,10,11,18,19,20,21,22,3,23] ?_
   exact Q1 [0,1,2,3,4,23,24,25]
theorem Qob (sh lk:List Dcl) (gs:List Grf) (hs:∀ j:Nat,(sh.getD j default).name.size≤maxLen) (hl:∀ j:Nat,(lk.getD j default).name.size≤maxLen) (hg:∀ j:Nat,(gs.getD j default).name.size≤maxLen) (hw:UnitW gs) (cl:List Cls) (l:List Int) (most:Int):Ctr Tryz.prog 6 [Dcl.rowR sh,Dcl.rowR lk,Grf.rowR gs,Cls.rowR cl,IntRow l] [.agg [.h 0,.h 1,.h 2],.c (.h 3),.c (.h 4),.c (.i .i64 most)]
 (Det (.tup [(true,[.h 5,.h 6,.h 7,.b (flwD sh lk gs cl l most)]),(false,[.i .i64 (flwE sh lk gs cl l most)])]) [.dead,.dead,.dead,.dead,.dead,IntOwn (flwS sh lk gs cl l most),Prt.ownR (flwP sh lk gs cl l most),WordOwn (flwM sh lk gs cl l most)]):=by
 by_cases hsel:(flwE sh lk gs cl l most)=0
 ·simp only [flwD,flwS,flwP,flwM,hsel,if_true]
  exact Qna sh lk gs hs hl hg hw cl l most hsel
 ·simp only [flwD,flwS,flwP,flwM,hsel,if_false]
  exact Qn9 sh lk gs hs hl hg hw cl l most hsel
end Go.Proofs.YtmaodngbpfjnnaaGreat
end
namespace Go.Proofs.YtmaodngbpfjnnaaGreat
open Go Go.Tx
section
variable {gs:List Grf} {pos ho:List Int} {t:Int}
theorem Q22 (h:(decide (t<(0:Int))||decide ((pos.length:Int)≤t))=false):0≤t∧t<(pos.length:Int):=by
 simp only [Bool.or_eq_false_iff,decide_eq_false_iff_not] at h;omega
theorem Qjr (h:(decide (t<(0:Int))||decide ((pos.length:Int)≤t))=true):barV gs pos ho t=2:=by
 simp only [Bool.or_eq_true,decide_eq_true_eq] at h
 unfold barV;rw [if_pos h]
theorem Qnb (h:(decide (t<(0:Int))||decide ((pos.length:Int)≤t))=false) (h2:decide ((nodA gs pos t).kind=(9:Int))=true):barV gs pos ho t=70:=by
 have z:=Q22 h
 unfold barV;rw [if_neg W37,if_pos (of_decide_eq_true h2)]
theorem Qlt (h:(decide (t<(0:Int))||decide ((pos.length:Int)≤t))=false) (h2:decide ((nodA gs pos t).kind=(9:Int))=false) (h3:(decide ((nodA gs pos t).kind=(5:Int))&&decide ((0:Int)≤ho.getD (nodA gs pos t).thing.toNat 0))=true):barV gs pos ho t=71:=by
 have z:=Q22 h
 simp only [Bool.and_eq_true,decide_eq_true_eq] at h3
 unfold barV;rw [if_neg W37,if_neg (of_decide_eq_false h2),if_pos h3]
theorem Qoc (h:(decide (t<(0:Int))||decide ((pos.length:Int)≤t))=false) (h2:decide ((nodA gs pos t).kind=(9:Int))=false) (h3:(decide ((nodA gs pos t).kind=(5:Int))&&decide ((0:Int)≤ho.getD (nodA gs pos t).thing.toNat 0))=false):barV gs pos ho t=0:=by
 have z:=Q22 h
 unfold barV;rw [if_neg W37,if_neg (of_decide_eq_false h2),if_neg (fun q=>by rw [decide_eq_true q.1,decide_eq_true q.2] at h3;cases h3)]
end
theorem Qlu {sl:List Slt} {t:Int} {n:Nod} (h:decide (n.op=(0:Int))=true):setW sl t n=wordV sl t n.a:=by
 have e:=of_decide_eq_true h
 have:twoB n.op=false:=by rw [e];decide
 unfold setW;rw [this,if_neg W131,if_pos e]
theorem Qlv {sl:List Slt} {t:Int} {n:Nod} (h:decide (n.op=(0:Int))=false) (h2:twoB n.op=true):setW sl t n=if twoB n.op=true then opTwo n.op (wordV sl t n.a) (wordV sl t n.b) else 0:=Qh2 h2
theorem Qlw {sl:List Slt} {t:Int} {n:Nod} (h:decide (n.op=(0:Int))=false) (h2:twoB n.op=false):setW sl t n=if (opB n.op&&!twoB n.op)=true then opOne n.op (wordV sl t n.a) else 0:=Qh3 h2 (by rw [h];rfl)
def newW (gs:List Grf) (m:Mch) (t:Int):Int:=if (nodA gs m.pos t).kind=1 then setW m.sl t (nodA gs m.pos t) else m.mem.getD (nodA gs m.pos t).thing.toNat 0
theorem Qhm {gs:List Grf} {m:Mch} {t:Int} (h:decide ((nodA gs m.pos t).kind=(1:Int))=true):newW gs m t=setW m.sl t (nodA gs m.pos t):=if_pos (of_decide_eq_true h)
theorem Qhn {gs:List Grf} {m:Mch} {t:Int} (h:decide ((nodA gs m.pos t).kind=(1:Int))=false):newW gs m t=m.mem.getD (nodA gs m.pos t).thing.toNat 0:=if_neg (of_decide_eq_false h)
theorem Qlx {sl:List Slt} {t s w w':Int} (hw:w'=w) {j:Nat} (hj:j<(putsL sl t s w).length):((putsL sl t s w).getD j default).tc=if j=t.toNat then (Slt.mk ((sl.getD t.toNat default).l.set s.toNat w')).tc else (sl.getD j default).tc:=by
 subst hw;exact Zj _ _ _ _ _ j hj
theorem Qeq {l:List Int} {k:Nat} {w w':Int} (hw:w'=w) {j:Nat} (hj:j<(l.set k w').length):i64T ((l.set k w').getD j (0:Int))=updT (fun i=>i64T (l.getD i (0:Int))) k 0 [Value.int IntKind.i64 w] j:=by
 subst hw;exact Qx _ _ _ j hj
theorem Ym {gs:List Grf} {m:Mch} {t:Int} (hz:barV gs m.pos m.ho t=0):(!decide (barV gs m.pos m.ho t=(0:Int)))=false:=by rw [hz];rfl
end Go.Proofs.YtmaodngbpfjnnaaGreat
namespace Go.Proofs.YtmaodngbpfjnnaaGreat
open Go Go.Tx
theorem Zw {ns nl:Nat} {gs:List Grf} {m:Mch} {cl:List Cls} {t most:Int} {b:Bool} (hQ:MchQ ns nl gs m)
 (h:(decide (t<(0:Int))||decide ((m.pos.length:Int)≤t)||!decide ((cl.length:Int)=(m.mem.length:Int))||decide (most<(0:Int))||decide ((1048576:Int)<most))=b) :
 (!(decide ((0:Int)≤t)&&decide (t<(m.pos.length:Int)))||!decide ((cl.length:Int)=(ns:Int))||decide (most<(0:Int))||decide ((1048576:Int)<most))=b:=by
 rw [← h,hQ.mn]
 congr 3
 rw [Bool.not_and,← decide_not,← decide_not]
 congr 1
 ·exact decide_eq_decide.2 W37
 ·exact decide_eq_decide.2 W37
theorem Q13 {ns nl:Nat} {gs:List Grf} {m c:Mch} {cl:List Cls} {t most k:Int} {b:Bool} (hJ:AdvJ ns nl gs cl t most m k c) (h:decide (most≤k)=b):decide (k=most)=b:=by
 have:=hJ.hi
 rw [← h];exact decide_eq_decide.2 W37
end Go.Proofs.YtmaodngbpfjnnaaGreat
noncomputable section
namespace Go.Proofs.YtmaodngbpfjnnaaGreat
open Go Go.Tx
theorem Q7c (sh lk:List Dcl) (gs:List Grf) (m:Mch) (t:Int) (hQ:MchQ sh.length lk.length gs m) (hw:UnitW gs) (h0:0≤t) (ht:t<(m.pos.length:Int)):Ctr Tryz.prog 88 [Dcl.rowR sh,Dcl.rowR lk,Grf.rowR gs,IntRow m.pos,Slt.rowR m.sl,WordRow m.mem,IntRow m.ho,Prt.rowR m.pr] [.agg [.h 0,.h 1,.h 2,.h 3,.h 4,.h 5,.h 6,.h 7],.c (.i .i64 t)]
 (Det (.agg (nodA gs m.pos t).cs) [.dead,.dead,.dead,.dead,.dead,.dead,.dead,.dead]):=by
 refine Ctr.intro [] Tryz.func88 K K ?_
 refine Yu 2 (t.toNat) ?_ (vc:=[t.toNat<gs.length]) (hv:=W120)
 exact Q1 [] [0,1,2,3,4,5,6,7,8,9,10,11,12] [(nodA gs m.pos t).kind=((gs.getD t.toNat default).nodes.getD (m.pos.getD t.toNat 0).toNat default).kind,(nodA gs m.pos t).op=((gs.getD t.toNat default).nodes.getD (m.pos.getD t.toNat 0).toNat default).op,(nodA gs m.pos t).slot=((gs.getD t.toNat default).nodes.getD (m.pos.getD t.toNat 0).toNat default).slot,(nodA gs m.pos t).thing=((gs.getD t.toNat default).nodes.getD (m.pos.getD t.toNat 0).toNat default).thing,(nodA gs m.pos t).a.slotted=((gs.getD t.toNat default).nodes.getD (m.pos.getD t.toNat 0).toNat default).a.slotted,(nodA gs m.pos t).a.slot=((gs.getD t.toNat default).nodes.getD (m.pos.getD t.toNat 0).toNat default).a.slot,(nodA gs m.pos t).a.word=((gs.getD t.toNat default).nodes.getD (m.pos.getD t.toNat 0).toNat default).a.word,(nodA gs m.pos t).b.slotted=((gs.getD t.toNat default).nodes.getD (m.pos.getD t.toNat 0).toNat default).b.slotted,(nodA gs m.pos t).b.slot=((gs.getD t.toNat default).nodes.getD (m.pos.getD t.toNat 0).toNat default).b.slot,(nodA gs m.pos t).b.word=((gs.getD t.toNat default).nodes.getD (m.pos.getD t.toNat 0).toNat default).b.word,(nodA gs m.pos t).next=((gs.getD t.toNat default).nodes.getD (m.pos.getD t.toNat 0).toNat default).next,(nodA gs m.pos t).els=((gs.getD t.toNat default).nodes.getD (m.pos.getD t.toNat 0).toNat default).els,(nodA gs m.pos t).origin=((gs.getD t.toNat default).nodes.getD (m.pos.getD t.toNat 0).toNat default).origin] (by simp only [Conj];(repeat' apply And.intro)<;>first | trivial | rfl) (vc:=[(0:Int)≤t,t<(↑gs.length:Int),t.toNat=t.toNat,(0:Int)≤t,t<(↑m.pos.length:Int),t.toNat<m.pos.length,(0:Int)≤m.pos.getD t.toNat 0,m.pos.getD t.toNat 0<(↑(gs.getD t.toNat default).nodes.length:Int),(m.pos.getD t.toNat 0).toNat<(gs.getD t.toNat default).nodes.length]) (hv:=W120)
theorem Qer (sh lk:List Dcl) (gs:List Grf) (m:Mch) (t:Int) (hQ:MchQ sh.length lk.length gs m) (hw:UnitW gs):Ctr Tryz.prog 62 [Dcl.rowR sh,Dcl.rowR lk,Grf.rowR gs,IntRow m.pos,Slt.rowR m.sl,WordRow m.mem,IntRow m.ho,Prt.rowR m.pr] [.agg [.h 0,.h 1,.h 2,.h 3,.h 4,.h 5,.h 6,.h 7],.c (.i .i64 t)]
 (Det (.c (.i .i64 (barV gs m.pos m.ho t))) [.dead,.dead,.dead,.dead,.dead,.dead,.dead,.dead]):=by
 refine Ctr.intro [] Tryz.func62 K K ?_
 refine Q0 (decide (t<(0:Int))||decide ((↑m.pos.length:Int)≤t)) (fun h1=>?_) (fun h1=>?_)
 ·exact Q1 [] [0] [barV gs m.pos m.ho t=(2:Int)] W105
 ·refine tz [4,2,1] ?_
  refine Q2 Zc (Q7c sh lk gs m t W138 W138 W138 W138) [] ?_
  refine tz [17,4,2] ?_
  refine Q0 (decide ((nodA gs m.pos t).kind=(9:Int))) (fun h2=>?_) (fun h2=>?_)
  ·exact Q1 [] [0] [barV gs m.pos m.ho t=(70:Int)] W105
  ·refine tz [5,4,2] ?_
   refine Q0 (decide ((nodA gs m.pos t).kind=(5:Int))&&decide ((0:Int)≤m.ho.getD (nodA gs m.pos t).thing.toNat (0:Int))) (fun h3=>?_) (fun h3=>?_) (vc:=[decide ((nodA gs m.pos t).kind=(5:Int))=true→(0:Int)≤(nodA gs m.pos t).thing,decide ((nodA gs m.pos t).kind=(5:Int))=true→(nodA gs m.pos t).thing<(↑m.ho.length:Int),decide ((nodA gs m.pos t).kind=(5:Int))=true→(nodA gs m.pos t).thing.toNat<m.ho.length]) (hv:=(by simp only [Conj,Fits,Q9,Qa,Qf,Qg,News.len,maxLen]<;>(repeat' (first | apply And.intro | intro _))<;>first | (have q:=Q22 h1;have q1:=hQ.gl;have q2:=hQ.at_t q.1 q.2;simp only [BL] at *;omega) | (have q:=Q22 h1;have z:=hQ.lk hw q.1 q.2 (by assumption);omega) | (have q:=Q22 h1;have z:=hQ.lk hw q.1 q.2 (by assumption);have e:(nodA gs m.pos t).thing=((gs.getD t.toNat default).nodes.getD (m.pos.getD t.toNat 0).toNat default).thing:=rfl;omega) | grind | (simp only [BL] at *;omega)))
   ·exact Q1 [] [0] [barV gs m.pos m.ho t=(71:Int)] W105
   ·exact Q1 [] [0] [barV gs m.pos m.ho t=(0:Int)] W105
theorem Q6j (cl:List Cls) (nd:Nod):Ctr Tryz.prog 90 [Cls.rowR cl] [.c (.h 0),.agg nd.cs]
 (Det (.c (.b (visN cl nd))) [.dead]):=by
 refine Ctr.intro [] Tryz.func90 K K ?_
 refine Q0 (decide (nd.kind=(5:Int))) (fun h1=>?_) (fun h1=>?_)
 ·exact Q1 [] [0] [visN cl nd=true] W139
 ·refine tz [7,6,4,3,0] ?_
  refine Q0 (decide (nd.kind=(6:Int))) (fun h2=>?_) (fun h2=>?_)
  ·exact Q1 [] [0] [visN cl nd=true] W139
  ·refine tz [7,6,4,3,0] ?_
   refine Q0 (decide (nd.kind=(7:Int))) (fun h3=>?_) (fun h3=>?_)
   ·exact Q1 [] [0] [visN cl nd=true] W139
   ·refine tz [6,4,3,0] ?_
    refine Q0 (decide (nd.kind=(2:Int))) (fun h4=>?_) (fun h4=>?_)
    ·exact Q1 [] [0] [visN cl nd=(decide ((0:Int)≤nd.thing)&&decide (nd.thing<(↑cl.length:Int))&&decide ((cl.getD nd.thing.toNat default).kind=(3:Int)))] W139 (vc:=[(decide ((0:Int)≤nd.thing)&&decide (nd.thing<(↑cl.length:Int)))=true→(0:Int)≤nd.thing,(decide ((0:Int)≤nd.thing)&&decide (nd.thing<(↑cl.length:Int)))=true→nd.thing<(↑cl.length:Int),(decide ((0:Int)≤nd.thing)&&decide (nd.thing<(↑cl.length:Int)))=true→nd.thing.toNat<cl.length]) (hv:=W2)
    ·refine tz [11,6,4,3,0] ?_
     refine Q0 (decide (nd.kind=(3:Int))) (fun h5=>?_) (fun h5=>?_)
     ·exact Q1 [] [0] [visN cl nd=(decide ((0:Int)≤nd.thing)&&decide (nd.thing<(↑cl.length:Int))&&decide ((cl.getD nd.thing.toNat default).kind=(3:Int)))] W139 (vc:=[(decide ((0:Int)≤nd.thing)&&decide (nd.thing<(↑cl.length:Int)))=true→(0:Int)≤nd.thing,(decide ((0:Int)≤nd.thing)&&decide (nd.thing<(↑cl.length:Int)))=true→nd.thing<(↑cl.length:Int),(decide ((0:Int)≤nd.thing)&&decide (nd.thing<(↑cl.length:Int)))=true→nd.thing.toNat<cl.length]) (hv:=W2)
     ·refine tz [11,6,4,3,0] ?_
      refine Q0 (decide (nd.kind=(4:Int))) (fun h6=>?_) (fun h6=>?_)
      ·exact Q1 [] [0] [visN cl nd=(decide ((0:Int)≤nd.thing)&&decide (nd.thing<(↑cl.length:Int))&&decide ((cl.getD nd.thing.toNat default).kind=(3:Int)))] W139 (vc:=[(decide ((0:Int)≤nd.thing)&&decide (nd.thing<(↑cl.length:Int)))=true→(0:Int)≤nd.thing,(decide ((0:Int)≤nd.thing)&&decide (nd.thing<(↑cl.length:Int)))=true→nd.thing<(↑cl.length:Int),(decide ((0:Int)≤nd.thing)&&decide (nd.thing<(↑cl.length:Int)))=true→nd.thing.toNat<cl.length]) (hv:=W2)
      ·exact Q1 [] [0] [visN cl nd=false] W139
end Go.Proofs.YtmaodngbpfjnnaaGreat
end
namespace Go.Proofs.YtmaodngbpfjnnaaGreat
open Go Go.Tx
theorem Qfv (x:BitVec 64):(x &&& BitVec.ofInt 64 63).toNat≤63:=by
 rw [BitVec.toNat_and];exact Nat.and_le_right
theorem Q3n (k:IntKind) (h:k.bits=64) {n:Nat} (hn:n≤63):k.wrap (n:Int)=n:=by
 unfold IntKind.wrap
 rw [h]
 have e:((n:Int) % (2 ^ 64:Int))=n:=Int.emod_eq_of_lt W37 W37
 simp only [e]
 rw [if_neg]
 simp only [Bool.and_eq_true,decide_eq_true_eq]
 omega
theorem Q7d (b:Int):IntKind.u64.wrap (bits .and .i64 b 63)=cntI b:=by
 unfold cntI bits
 show IntKind.u64.wrap (IntKind.i64.wrap ((BitVec.ofInt 64 b &&& BitVec.ofInt 64 63).toNat:Int))=IntKind.u64.wrap ((BitVec.ofInt 64 (IntKind.u64.wrap b) &&& BitVec.ofInt 64 63).toNat:Int)
 rw [Q3n .i64 rfl (Qfv _),Q3n .u64 rfl (Qfv _),Q3n .u64 rfl (Qfv _)]
 have:BitVec.ofInt 64 (IntKind.u64.wrap b)=BitVec.ofInt 64 b:=by
  apply BitVec.eq_of_toInt_eq
  rw [BitVec.toInt_ofInt,BitVec.toInt_ofInt]
  show (b % (2 ^ 64:Int)).bmod _=_
  show (b % ((2 ^ 64:Nat):Int)).bmod _=_
  exact Int.emod_bmod b (2 ^ 64)
 rw [this]
theorem Qho (b:Int):0≤IntKind.u64.wrap (bits .and .i64 b 63):=by rw [Q7d];exact Q2b b
theorem Yn {n k a b x:Int} (h:k=n) (hx:opTwo n a b=x) (hn:twoB n=true:=by decide):(if twoB k then opTwo k a b else 0)=x∧(if twoB k then 0 else 2)=(0:Int):=by
 subst h;rw [hn];exact ⟨hx,rfl⟩
end Go.Proofs.YtmaodngbpfjnnaaGreat
noncomputable section
namespace Go.Proofs.YtmaodngbpfjnnaaGreat
open Go Go.Tx
theorem Gb (x:Bool):Ctr Tryz.prog 136 [] [.c (.b x)]
 (Det (.tup [(false,[.i .i64 (truthI x)]),(false,[.i .i64 0])]) []):=by
 refine Ctr.intro [] Tryz.func136 K K ?_
 refine Q0 (x) (fun h1=>?_) (fun h1=>?_)
 ·exact Q1 [] [0] [truthI x=(1:Int)] W151
 ·exact Q1 [] [0] [truthI x=(0:Int)] W151
theorem Q9i (k:Int):Ctr Tryz.prog 75 [] [.c (.i .u8 k)]
 (Det (.c (.b (twoB k))) []):=by
 refine Ctr.intro [] Tryz.func75 K K ?_
 exact Q1 [] [0] [twoB k=(decide ((1:Int)≤k)&&decide (k≤(16:Int)))] W159
theorem Qcp (a b:Int):Ctr Tryz.prog 135 [] [.c (.i .i64 a),.c (.i .i64 b)]
 (Det (.c (.i .i64 (divI a b))) []):=by
 refine Ctr.intro [11,14] Tryz.func135 K K ?_
 refine Q0 (decide (b=(0:Int))) (fun h1=>?_) (fun h1=>?_)
 ·exact Q1 [] [0] [divI a b=(0:Int)] W150
 ·refine tz [5,4,0,1] ?_
  refine Q0 (decide (b=(-1:Int))) (fun h2=>?_) (fun h2=>?_)
  ·exact Q1 [] [0] [divI a b=IntKind.i64.wrap ((0:Int)-a)] W150
  ·exact Q1 [] [0] [divI a b=IntKind.i64.wrap (a.tdiv b)] W150 (vc:=[b≠(0:Int)]) (hv:=W2)
theorem Qly (k a:Int):Ctr Tryz.prog 130 [] [.c (.i .u8 k),.c (.i .i64 a)]
 (Det (.tup [(false,[.i .i64 (if opB k&&!twoB k then opOne k a else 0)]),(false,[.i .i64 (if opB k&&!twoB k then 0 else 2)])]) []):=by
 refine Ctr.intro [10] Tryz.func130 K K ?_
 refine Q0 (decide (k=(17:Int))) (fun h1=>?_) (fun h1=>?_)
 ·exact Q1 [] [0,1] [(if (opB k&&!twoB k)=true then opOne k a else (0:Int))=IntKind.i64.wrap ((0:Int)-a),(if (opB k&&!twoB k)=true then (0:Int) else (2:Int))=(0:Int)] W93
 ·refine tz [6,5,4,1] ?_
  refine Q0 (decide (k=(18:Int))) (fun h2=>?_) (fun h2=>?_)
  ·refine tz [5,4,1] ?_
   refine Q2 Y0 (Gb (decide (a=(0:Int)))) [] ?_
   exact Q1 [] [0,1] [(if (opB k&&!twoB k)=true then opOne k a else (0:Int))=truthI (decide (a=(0:Int))),(if (opB k&&!twoB k)=true then (0:Int) else (2:Int))=(0:Int)] W93
  ·exact Q1 [] [0,1] [(if (opB k&&!twoB k)=true then opOne k a else (0:Int))=(0:Int),(if (opB k&&!twoB k)=true then (0:Int) else (2:Int))=(2:Int)] W93
theorem Qnc (k a b:Int):Ctr Tryz.prog 129 [] [.c (.i .u8 k),.c (.i .i64 a),.c (.i .i64 b)]
 (Det (.tup [(false,[.i .i64 (if twoB k then opTwo k a b else 0)]),(false,[.i .i64 (if twoB k then 0 else 2)])]) []):=by
 refine Ctr.intro [13,18,23,39,40,61,68] Tryz.func129 K K ?_
 refine Q0 (decide (k=(1:Int))) (fun h1=>?_) (fun h1=>?_)
 ·exact Q1 [] [0,1] [(if twoB k then opTwo k a b else 0)=IntKind.i64.wrap (a+b),(if twoB k then 0 else 2)=(0:Int)] (Yn (of_decide_eq_true h1) rfl)
 ·skip
  refine tz [8,7,6,1,2] ?_
  refine Q0 (decide (k=(2:Int))) (fun h2=>?_) (fun h2=>?_)
  ·exact Q1 [] [0,1] [(if twoB k then opTwo k a b else 0)=IntKind.i64.wrap (a-b),(if twoB k then 0 else 2)=(0:Int)] (Yn (of_decide_eq_true h2) rfl)
  ·skip
   refine tz [8,7,6,1,2] ?_
   refine Q0 (decide (k=(3:Int))) (fun h3=>?_) (fun h3=>?_)
   ·exact Q1 [] [0,1] [(if twoB k then opTwo k a b else 0)=IntKind.i64.wrap (a * b),(if twoB k then 0 else 2)=(0:Int)] (Yn (of_decide_eq_true h3) rfl)
   ·skip
    refine tz [8,7,6,1,2] ?_
    refine Q0 (decide (k=(4:Int))) (fun h4=>?_) (fun h4=>?_)
    ·refine tz [7,6,1,2] ?_
     refine Q2 J9 (Qcp a b) [] ?_
     exact Q1 [] [0,1] [(if twoB k then opTwo k a b else 0)=divI a b,(if twoB k then 0 else 2)=(0:Int)] (Yn (of_decide_eq_true h4) rfl)
    ·skip
     refine tz [8,7,6,1,2] ?_
     refine Q0 (decide (k=(5:Int))) (fun h5=>?_) (fun h5=>?_)
     ·refine tz [7,6,1,2] ?_
      refine Q0 (decide (b=(0:Int))) (fun g=>?_) (fun g=>?_)
      ·exact Q1 [] [0,1] [(if twoB k then opTwo k a b else 0)=a,(if twoB k then 0 else 2)=(0:Int)] (Yn (of_decide_eq_true h5) (by show remI a b=a;unfold remI;rw [if_pos (of_decide_eq_true g)]))
      ·refine tz [7,6,1,2] ?_
       refine Q2 J9 (Qcp a b) [] ?_
       exact Q1 [] [0,1] [(if twoB k then opTwo k a b else 0)=IntKind.i64.wrap (a-IntKind.i64.wrap (divI a b * b)),(if twoB k then 0 else 2)=(0:Int)] (Yn (of_decide_eq_true h5) (by show remI a b=_;unfold remI;rw [if_neg (of_decide_eq_false g)];rfl))
     ·skip
      refine tz [8,7,6,1,2] ?_
      refine Q0 (decide (k=(6:Int))) (fun h6=>?_) (fun h6=>?_)
      ·exact Q1 [] [0,1] [(if twoB k then opTwo k a b else 0)=bits BinOp.and IntKind.i64 a b,(if twoB k then 0 else 2)=(0:Int)] (Yn (of_decide_eq_true h6) rfl)
      ·skip
       refine tz [8,7,6,1,2] ?_
       refine Q0 (decide (k=(7:Int))) (fun h7=>?_) (fun h7=>?_)
       ·exact Q1 [] [0,1] [(if twoB k then opTwo k a b else 0)=bits BinOp.or IntKind.i64 a b,(if twoB k then 0 else 2)=(0:Int)] (Yn (of_decide_eq_true h7) rfl)
       ·skip
        refine tz [8,7,6,1,2] ?_
        refine Q0 (decide (k=(8:Int))) (fun h8=>?_) (fun h8=>?_)
        ·exact Q1 [] [0,1] [(if twoB k then opTwo k a b else 0)=bits BinOp.xor IntKind.i64 a b,(if twoB k then 0 else 2)=(0:Int)] (Yn (of_decide_eq_true h8) rfl)
        ·skip
         refine tz [8,7,6,1,2] ?_
         refine Q0 (decide (k=(9:Int))) (fun h9=>?_) (fun h9=>?_)
         ·exact Q1 [] [0,1] [(if twoB k then opTwo k a b else 0)=shlI IntKind.i64 a (IntKind.u64.wrap (bits BinOp.and IntKind.i64 b (63:Int))),(if twoB k then 0 else 2)=(0:Int)] (Yn (of_decide_eq_true h9) (by rw [Q7d];rfl)) (vc:=[(0:Int)≤IntKind.u64.wrap (bits BinOp.and IntKind.i64 b (63:Int))]) (hv:=(by simp only [Conj];exact Qho b))
         ·skip
          refine tz [8,7,6,1,2] ?_
          refine Q0 (decide (k=(10:Int))) (fun h10=>?_) (fun h10=>?_)
          ·exact Q1 [] [0,1] [(if twoB k then opTwo k a b else 0)=shrI IntKind.i64 a (IntKind.u64.wrap (bits BinOp.and IntKind.i64 b (63:Int))),(if twoB k then 0 else 2)=(0:Int)] (Yn (of_decide_eq_true h10) (by rw [Q7d];rfl)) (vc:=[(0:Int)≤IntKind.u64.wrap (bits BinOp.and IntKind.i64 b (63:Int))]) (hv:=(by simp only [Conj];exact Qho b))
          ·skip
           refine tz [8,7,6,1,2] ?_
           refine Q0 (decide (k=(11:Int))) (fun h11=>?_) (fun h11=>?_)
           ·refine tz [7,6,1,2] ?_
            refine Q2 Y0 (Gb (decide (a=b))) [] ?_
            exact Q1 [] [0,1] [(if twoB k then opTwo k a b else 0)=truthI (decide (a=b)),(if twoB k then 0 else 2)=(0:Int)] (Yn (of_decide_eq_true h11) rfl)
           ·skip
            refine tz [8,7,6,1,2] ?_
            refine Q0 (decide (k=(12:Int))) (fun h12=>?_) (fun h12=>?_)
            ·refine tz [7,6,1,2] ?_
             refine Q2 Y0 (Gb (!decide (a=b))) [] ?_
             exact Q1 [] [0,1] [(if twoB k then opTwo k a b else 0)=truthI (!decide (a=b)),(if twoB k then 0 else 2)=(0:Int)] (Yn (of_decide_eq_true h12) rfl)
            ·skip
             refine tz [8,7,6,1,2] ?_
             refine Q0 (decide (k=(13:Int))) (fun h13=>?_) (fun h13=>?_)
             ·refine tz [7,6,1,2] ?_
              refine Q2 Y0 (Gb (decide (a<b))) [] ?_
              exact Q1 [] [0,1] [(if twoB k then opTwo k a b else 0)=truthI (decide (a<b)),(if twoB k then 0 else 2)=(0:Int)] (Yn (of_decide_eq_true h13) rfl)
             ·skip
              refine tz [8,7,6,1,2] ?_
              refine Q0 (decide (k=(14:Int))) (fun h14=>?_) (fun h14=>?_)
              ·refine tz [7,6,1,2] ?_
               refine Q2 Y0 (Gb (decide (a≤b))) [] ?_
               exact Q1 [] [0,1] [(if twoB k then opTwo k a b else 0)=truthI (decide (a≤b)),(if twoB k then 0 else 2)=(0:Int)] (Yn (of_decide_eq_true h14) rfl)
              ·skip
               refine tz [8,7,6,1,2] ?_
               refine Q0 (decide (k=(15:Int))) (fun h15=>?_) (fun h15=>?_)
               ·refine tz [7,6,1,2] ?_
                refine Q2 Y0 (Gb (decide (b<a))) [] ?_
                exact Q1 [] [0,1] [(if twoB k then opTwo k a b else 0)=truthI (decide (b<a)),(if twoB k then 0 else 2)=(0:Int)] (Yn (of_decide_eq_true h15) rfl)
               ·skip
                refine tz [8,7,6,1,2] ?_
                refine Q0 (decide (k=(16:Int))) (fun h16=>?_) (fun h16=>?_)
                ·refine tz [7,6,1,2] ?_
                 refine Q2 Y0 (Gb (decide (b≤a))) [] ?_
                 exact Q1 [] [0,1] [(if twoB k then opTwo k a b else 0)=truthI (decide (b≤a)),(if twoB k then 0 else 2)=(0:Int)] (Yn (of_decide_eq_true h16) rfl)
                ·skip
                 exact Q1 [] [0,1] [(if twoB k then opTwo k a b else 0)=(0:Int),(if twoB k then 0 else 2)=(2:Int)] (by have e:twoB k=false:=(by simp only [twoB,opB];simp only [BL] at *;omega);rw [e];exact ⟨rfl,rfl⟩)
end Go.Proofs.YtmaodngbpfjnnaaGreat
end
noncomputable section
namespace Go.Proofs.YtmaodngbpfjnnaaGreat
open Go Go.Tx
theorem Jc (sh lk:List Dcl) (gs:List Grf) (m:Mch) (t:Int) (v:Vl) (ht:0≤t∧t<(m.sl.length:Int)) (hv:v.slotted=true→0≤v.slot∧v.slot<((m.sl.getD t.toNat default).l.length:Int)):Ctr Tryz.prog 119 [Dcl.rowR sh,Dcl.rowR lk,Grf.rowR gs,IntRow m.pos,Slt.rowR m.sl,WordRow m.mem,IntRow m.ho,Prt.rowR m.pr] [.agg [.h 0,.h 1,.h 2,.h 3,.h 4,.h 5,.h 6,.h 7],.c (.i .i64 t),.agg v.cs]
 (Det (.c (.i .i64 (wordV m.sl t v))) [.dead,.dead,.dead,.dead,.dead,.dead,.dead,.dead]):=by
 refine Ctr.intro [] Tryz.func119 K K ?_
 refine Q0 (v.slotted) (fun h1=>?_) (fun h1=>?_)
 ·refine Yu 4 (t.toNat) ?_ (vc:=[t.toNat<m.sl.length]) (hv:=W2)
  exact Q1 [] [0] [wordV m.sl t v=(m.sl.getD t.toNat default).l.getD v.slot.toNat 0] W149 (vc:=[(0:Int)≤t,t<(↑m.sl.length:Int),t.toNat=t.toNat,(0:Int)≤v.slot,v.slot<(↑(m.sl.getD t.toNat default).l.length:Int),v.slot.toNat<(m.sl.getD t.toNat default).l.length]) (hv:=W2)
 ·exact Q1 [] [0] [wordV m.sl t v=v.word] W149
theorem Qfw (sh lk:List Dcl) (gs:List Grf) (m:Mch) (t:Int) (n:Nod) (ht:0≤t∧t<(m.sl.length:Int)) (ha:n.a.slotted=true→0≤n.a.slot∧n.a.slot<((m.sl.getD t.toNat default).l.length:Int)) (hb:n.b.slotted=true→0≤n.b.slot∧n.b.slot<((m.sl.getD t.toNat default).l.length:Int)):Ctr Tryz.prog 118 [Dcl.rowR sh,Dcl.rowR lk,Grf.rowR gs,IntRow m.pos,Slt.rowR m.sl,WordRow m.mem,IntRow m.ho,Prt.rowR m.pr] [.agg [.h 0,.h 1,.h 2,.h 3,.h 4,.h 5,.h 6,.h 7],.c (.i .i64 t),.agg n.cs]
 (Det (.c (.i .i64 (setW m.sl t n))) [.dead,.dead,.dead,.dead,.dead,.dead,.dead,.dead]):=by
 refine Ctr.intro [] Tryz.func118 K K ?_
 refine Q2 Yb (Jc sh lk gs m t n.a W27 W27) [] ?_
 refine tz [16,6,5,3,1] ?_
 refine Q0 (decide (n.op=(0:Int))) (fun h1=>?_) (fun h1=>?_)
 ·exact Q1 [] [0] [setW m.sl t n=wordV m.sl t n.a] W141
 ·refine tz [7,6,5,3,1] ?_
  refine Q2 Zn (Q9i n.op) [] ?_
  refine tz [23,7,6,5,3,1] ?_
  refine Q0 (twoB n.op) (fun h2=>?_) (fun h2=>?_)
  ·refine tz [7,6,5,3,1] ?_
   refine Q2 Yb (Jc sh lk gs m t n.b W27 W27) [] ?_
   refine tz [32,31,30,29,28,27,26,25,7,6,5,3,1] ?_
   refine Q2 Q8j (Qnc n.op (wordV m.sl t n.a) (wordV m.sl t n.b)) [] ?_
   exact Q1 [] [0] [setW m.sl t n=if twoB n.op=true then opTwo n.op (wordV m.sl t n.a) (wordV m.sl t n.b) else (0:Int)] W141
  ·refine tz [7,6,5] ?_
   refine Q2 Q75 (Qly n.op (wordV m.sl t n.a)) [] ?_
   exact Q1 [] [0] [setW m.sl t n=if (opB n.op&&!twoB n.op)=true then opOne n.op (wordV m.sl t n.a) else (0:Int)] W141
end Go.Proofs.YtmaodngbpfjnnaaGreat
end
noncomputable section
namespace Go.Proofs.YtmaodngbpfjnnaaGreat
open Go Go.Tx
def L58_80 (sh:List Dcl) (lk:List Dcl) (gs:List Grf) (m:Mch):Lp (Int×List Slt):=⟨fun x=>{ N:=51,fr:=[se 19 (C.i .i64 x.1),se 18 (C.i .i64 (↑m.sl.length:Int)),se 17 (C.h 4),se 3 (C.p 10 0),se 2 (C.p 9 0),se 1 (C.p 8 0)],rg:=[rowOf 3 (·.tc) sh,rowOf 3 (·.tc) lk,rowOf 4 (·.tc) gs,IntRow m.pos,rowOf 1 (·.tc) m.sl,IntRow m.mem,IntRow m.ho,rowOf 2 (·.tc) m.pr,Reg.box 62 [C.h 0,C.h 1,C.h 2,C.h 3,C.h 4,C.h 5,C.h 6,C.h 7],Reg.box 62 [C.v (Value.slice none 0 0),C.v (Value.slice none 0 0),C.v (Value.slice none 0 0),C.v (Value.slice none 0 0),C.v (Value.slice none 0 0),C.v (Value.slice none 0 0),C.v (Value.slice none 0 0),C.v (Value.slice none 0 0)],Reg.box 62 [C.h 0,C.h 1,C.h 2,C.h 11,C.h 12,C.v (Value.slice none 0 0),C.v (Value.slice none 0 0),C.v (Value.slice none 0 0)],IntOwn m.pos]++[Slt.ownR x.2],wr:=[] },fun x=>0≤x.1∧x.1≤(m.sl.length:Int)∧x.2=m.sl.take x.1.toNat,fun x=>((m.sl.length:Int)-x.1).toNat⟩
theorem Qjs (sh lk:List Dcl) (gs:List Grf) (m:Mch) (hQ:MchQ sh.length lk.length gs m) (hb:sh.length≤64∧lk.length≤16∧gs.length≤8) (hp:m.pr.length≤4194304):Ctr Tryz.prog 117 [Dcl.rowR sh,Dcl.rowR lk,Grf.rowR gs,IntRow m.pos,Slt.rowR m.sl,WordRow m.mem,IntRow m.ho,Prt.rowR m.pr] [.agg [.h 0,.h 1,.h 2,.h 3,.h 4,.h 5,.h 6,.h 7]]
 (Det (.agg [.h 0,.h 1,.h 2,.h 8,.h 9,.h 10,.h 11,.h 12]) [.dead,.dead,.dead,.dead,.dead,.dead,.dead,.dead,IntOwn m.pos,Slt.ownR m.sl,WordOwn m.mem,IntOwn m.ho,Prt.ownR m.pr]):=by
 refine Ctr.intro [] Tryz.func117 K K ?_
 refine Qb (L58_80 sh lk gs m) (((0:Int),[])) ⟨Int.le_refl _,by omega,by simp⟩ ?_ [0,1,2,3,4,5,6,7,8,9,10,11,1000012] [29] [(0:Nat)=0] W58 (vc:=[∀ (i j:Nat),i<m.pos.length→j<1→flatT (i64T (m.pos.getD i 0) j),m.pos.length≤maxLen,m.pos.length * 8≤140737488355328]) (hv:=W33)
 rintro ⟨x1_0,x1_1⟩ hJ1
 dsimp only [L58_80] at hJ1
 refine tz [19,18,17,3,2,1] ?_
 refine Q0 (decide (x1_0<(↑m.sl.length:Int))) (fun h2=>?_) (fun h2=>?_)
 ·refine Yu 4 (x1_0.toNat) ?_ (vc:=[x1_0.toNat<m.sl.length]) (hv:=W33)
  refine tz [19,18,17,3,2,1] ?_
  refine Ju 2 [[],[x1_1.length+1≤maxLen,(x1_1.length+1) * 24≤140737488355328],[∀ (i j:Nat),i<(m.sl.getD x1_0.toNat default).l.length→j<1→flatT (i64T ((m.sl.getD x1_0.toNat default).l.getD i 0) j),(m.sl.getD x1_0.toNat default).l.length≤maxLen,(m.sl.getD x1_0.toNat default).l.length * 8≤140737488355328]] [0,0,1,0,0,2,2,0] ?_ (by simp only [flatP,List.cons_append,List.nil_append,Conj,Fits,Q9,Qa,Qf,Qg,News.len,maxLen]<;>(repeat' (first | apply And.intro | intro _))<;>first | (exact i64T.flat _ _ (by assumption)) | (exact Prt.flat _ _ (by assumption)) | (have q0:=hQ.gl;have q1:=hQ.sn;have q2:=hQ.mn;have q3:=hQ.hn;(try simp only [maxLen] at *);omega) | (have z:=hJ1.1;have q:=of_decide_eq_true h2;have q0:=hQ.sn;have q1:=hQ.sw x1_0.toNat (by omega);have q2:=(hQ.g x1_0.toNat (by omega)).loc;omega) | (have q0:=hQ.sn;have z4:x1_1.length≤8:=(by rw [hJ1.2.2,List.length_take];omega);omega) | grind | (simp only [BL] at *;omega)) (vc:=[(0:Int)≤x1_0,x1_0<(↑m.sl.length:Int),x1_0.toNat=x1_0.toNat]) (hv:=W33)
  exact Q1e (L58_80 sh lk gs m) (x1_0,x1_1) ((x1_0+(1:Int),x1_1++[m.sl.getD x1_0.toNat default])) (by dsimp only [L58_80];have q:=of_decide_eq_true h2;have z:=hJ1.1;omega) (by dsimp only [L58_80];have q:=of_decide_eq_true h2;have z:=hJ1.1;have e:(x1_0+1).toNat=x1_0.toNat+1:=(by omega);exact ⟨by omega,by omega,(by rw [e,hJ1.2.2];exact Yv (by omega))⟩) [(16,(Slt.tc (m.sl.getD x1_0.toNat default)))] [0,1,2,3,4,5,6,7,8,9,10,11,16] [29,30] [(x1_1++[m.sl.getD x1_0.toNat default]).length=x1_1.length+1,∀ (i:Nat),i<(x1_1++[m.sl.getD x1_0.toNat default]).length→((x1_1++[m.sl.getD x1_0.toNat default]).getD i default).tc=if i=x1_1.length then (m.sl.getD x1_0.toNat default).tc else (x1_1.getD i default).tc] W104 (vc:=[Fits IntKind.i64 (x1_0+(1:Int))]) (hv:=W33) (vc2:=[(m.sl.getD x1_0.toNat default).l.length=(m.sl.getD x1_0.toNat default).l.length,∀ (i:Nat),i<(m.sl.getD x1_0.toNat default).l.length→i64T ((m.sl.getD x1_0.toNat default).l.getD i 0)=i64T ((m.sl.getD x1_0.toNat default).l.getD i 0)]) (hv2:=W130)
 ·exact Q1 [0,1,2,3,4,5,6,7,11,12,13,14,15] [2,3] [m.sl.length=x1_1.length,∀ (i:Nat),i<m.sl.length→(m.sl.getD i default).tc=(x1_1.getD i default).tc] (by obtain ⟨q0,q1,q2⟩:=hJ1;have e:x1_0.toNat=m.sl.length:=(by have z:=of_decide_eq_false h2;omega);rw [e,List.take_length] at q2;subst q2;simp only [Conj];(repeat' apply And.intro)<;>first | trivial | rfl | (intros;first | trivial | rfl) | (intro i hi;funext j;first | exact (if_pos hi).symm | exact if_pos hi)) (vc:=[∀ (i j:Nat),i<m.mem.length→j<1→flatT (i64T (m.mem.getD i 0) j),m.mem.length≤maxLen,m.mem.length * 8≤140737488355328,∀ (i j:Nat),i<m.ho.length→j<1→flatT (i64T (m.ho.getD i 0) j),m.ho.length≤maxLen,m.ho.length * 8≤140737488355328,∀ (i j:Nat),i<m.pr.length→j<2→flatT ((m.pr.getD i default).tc j),m.pr.length≤maxLen,m.pr.length * 16≤140737488355328]) (hv:=W33)
end Go.Proofs.YtmaodngbpfjnnaaGreat
end
noncomputable section
namespace Go.Proofs.YtmaodngbpfjnnaaGreat
open Go Go.Tx
abbrev z100_1 (t:Int) (m:Mch) (gs:List Grf):=(Act.mk t (m.pos.getD t.toNat 0) (nodA gs m.pos t).kind (0:Int) (0:Int) (0:Int))
abbrev z100_2 (m:Mch) (t:Int) (gs:List Grf):=((m.sl.getD t.toNat default).l.set (nodA gs m.pos t).slot.toNat (newW gs m t))
abbrev z100_3:=[0,1,2,3,4,5,6,7,8,9,10,11,12,14,15]
abbrev z100_4:=[0,1,2,3,4,5,6,7,11,12,13,14,15]
abbrev z100_5 (m:Mch):=(fun i=>i64T (m.pos.getD i 0))
abbrev z100_6 (gs:List Grf) (m:Mch) (t:Int):=[Value.int IntKind.i64 (nodA gs m.pos t).next]
abbrev z100_7 (m:Mch) (t:Int) (gs:List Grf):=(12,(Slt.tc ⟨(m.sl.getD t.toNat default).l.set (nodA gs m.pos t).slot.toNat (newW gs m t)⟩))
abbrev z100_8 (t:Int) (gs:List Grf) (m:Mch):=(aBranch t (nodA gs m.pos t) m (z100_1 t m gs))
abbrev z100_9 (t:Int) (gs:List Grf) (m:Mch):=(aUnlock t (nodA gs m.pos t) m (z100_1 t m gs))
abbrev z100_10 (t:Int) (gs:List Grf) (m:Mch):=(aStore t (nodA gs m.pos t) m (z100_1 t m gs))
abbrev z100_11 (t:Int) (gs:List Grf) (m:Mch):=(aPrint t (nodA gs m.pos t) m (z100_1 t m gs))
abbrev z100_12 (t:Int) (gs:List Grf) (m:Mch):=(aLoad t (nodA gs m.pos t) m (z100_1 t m gs))
abbrev z100_13 (t:Int) (gs:List Grf) (m:Mch):=(aSwap t (nodA gs m.pos t) m (z100_1 t m gs))
abbrev z100_14 (t:Int) (gs:List Grf) (m:Mch):=(aLock t (nodA gs m.pos t) m (z100_1 t m gs))
abbrev z100_15 (t:Int) (gs:List Grf) (m:Mch):=(aSet t (nodA gs m.pos t) m (z100_1 t m gs))
theorem Qjt (sh lk:List Dcl) (gs:List Grf) (m:Mch) (t:Int) (hQ:MchQ sh.length lk.length gs m) (hb:sh.length≤64∧lk.length≤16∧gs.length≤8) (hp:m.pr.length≤4194304) (hw:UnitW gs) (hz:barV gs m.pos m.ho t=0):Ctr Tryz.prog 89 [Dcl.rowR sh,Dcl.rowR lk,Grf.rowR gs,IntRow m.pos,Slt.rowR m.sl,WordRow m.mem,IntRow m.ho,Prt.rowR m.pr] [.agg [.h 0,.h 1,.h 2,.h 3,.h 4,.h 5,.h 6,.h 7],.c (.i .i64 t)]
 (Det (.tup [(true,[.h 0,.h 1,.h 2,.h 8,.h 9,.h 10,.h 11,.h 12]),(true,(Act.mk (stepM gs t m).d.thread (stepM gs t m).d.node (stepM gs t m).d.kind (nodA gs m.pos t).thing (stepM gs t m).d.word (stepM gs t m).d.put).cs),(false,[.i .i64 0])]) [.dead,.dead,.dead,.dead,.dead,.dead,.dead,.dead,IntOwn (stepM gs t m).m.pos,Slt.ownR (stepM gs t m).m.sl,WordOwn (stepM gs t m).m.mem,IntOwn (stepM gs t m).m.ho,Prt.ownR (stepM gs t m).m.pr]):=by
 refine Ctr.intro [] Tryz.func89 K K ?_
 refine Q2 Yk (Qer sh lk gs m t W19 W19) [] ?_
 refine tz [13,6,5,4,2,1] ?_
 refine Q0 (!decide (barV gs m.pos m.ho t=(0:Int))) (fun h1=>?_) (fun h1=>?_)
 ·exact (show False from by simp [hz] at h1).elim
 ·refine tz [6,5,4,2,1] ?_
  refine Q2 Q5z (Qjs sh lk gs m W19 W19 W19) [] ?_
  refine tz [20,6,5,4,2,1] ?_
  refine Q2 Zc (Q7c sh lk gs m t W19 W19 W19 W19) [0,1,2,11,12,13,14,15] ?_
  refine tz [23,6,5,4,2,1] ?_
  refine Q0 (decide ((nodA gs m.pos t).kind=(1:Int))) (fun h2=>?_) (fun h2=>?_) (vc:=[(0:Int)≤t,t<(↑m.pos.length:Int),t.toNat<m.pos.length]) (hv:=W9)
  ·rw [Yd (Ym hz) (Qfc (of_decide_eq_true h2))]
   refine tz [10,9,8,6,5,4,2,1] ?_
   refine Q2 Q43 (Qfw sh lk gs m t (nodA gs m.pos t) W19 W19 W19) [0,1,2,11,12,13,14,15] ?_
   refine Yu 12 (t.toNat) ?_ (vc:=[t.toNat<m.sl.length]) (hv:=W9)
   refine tz [44,10,9,8,6,5,4,2,1] ?_
   refine Ju 2 [[]] [0,0,0,0,0,0] ?_ (vc:=[(0:Int)≤t,t<(↑m.sl.length:Int),t.toNat=t.toNat,(0:Int)≤(nodA gs m.pos t).slot,(nodA gs m.pos t).slot<(↑(m.sl.getD t.toNat default).l.length:Int),(nodA gs m.pos t).slot.toNat<(m.sl.getD t.toNat default).l.length,(0:Int)≤t,t<(↑m.pos.length:Int),t.toNat<m.pos.length]) (hv:=W9)
   exact Q87 [(z100_7 m t gs)] z100_4 z100_3 [(m.pos.set t.toNat (z100_15 t gs m).to).length=m.pos.length,∀ (i:Nat),i<(m.pos.set t.toNat (z100_15 t gs m).to).length→i64T ((m.pos.set t.toNat (z100_15 t gs m).to).getD i 0)=updT (z100_5 m) t.toNat 0 (z100_6 gs m t) i,(z100_15 t gs m).m.sl.length=m.sl.length,∀ (i:Nat),i<(z100_15 t gs m).m.sl.length→((z100_15 t gs m).m.sl.getD i default).tc=if i=t.toNat then (Slt.mk (z100_2 m t gs)).tc else (m.sl.getD i default).tc,(z100_15 t gs m).m.mem.length=m.mem.length,∀ (i:Nat),i<(z100_15 t gs m).m.mem.length→i64T ((z100_15 t gs m).m.mem.getD i 0)=i64T (m.mem.getD i 0),(z100_15 t gs m).m.ho.length=m.ho.length,∀ (i:Nat),i<(z100_15 t gs m).m.ho.length→i64T ((z100_15 t gs m).m.ho.getD i 0)=i64T (m.ho.getD i 0),(z100_15 t gs m).m.pr.length=m.pr.length,∀ (i:Nat),i<(z100_15 t gs m).m.pr.length→((z100_15 t gs m).m.pr.getD i default).tc=(m.pr.getD i default).tc,(z100_15 t gs m).d.thread=t,(z100_15 t gs m).d.node=m.pos.getD t.toNat 0,(z100_15 t gs m).d.kind=(nodA gs m.pos t).kind,(z100_15 t gs m).d.word=setW m.sl t (nodA gs m.pos t),(z100_15 t gs m).d.put=(0:Int)] W15 (vc2:=[(z100_2 m t gs).length=(m.sl.getD t.toNat default).l.length,∀ (i:Nat),i<(z100_2 m t gs).length→i64T ((z100_2 m t gs).getD i 0)=updT (fun i=>i64T ((m.sl.getD t.toNat default).l.getD i 0)) (nodA gs m.pos t).slot.toNat 0 [Value.int IntKind.i64 (setW m.sl t (nodA gs m.pos t))] i]) (hv2:=W91)
  ·refine tz [38,10,9,8,6,5,4,2,1] ?_
   refine Q0 (decide ((nodA gs m.pos t).kind=(2:Int))) (fun h3=>?_) (fun h3=>?_)
   ·refine Yu 12 (t.toNat) ?_ (vc:=[t.toNat<m.sl.length]) (hv:=W9)
    rw [Yd (Ym hz) (Qfd (of_decide_eq_true h3))]
    refine tz [10,9,8,6,5,4,2,1] ?_
    refine Ju 2 [[]] [0,0,0,0,0,0] ?_ (vc:=[(0:Int)≤(nodA gs m.pos t).thing,(nodA gs m.pos t).thing<(↑m.mem.length:Int),(nodA gs m.pos t).thing.toNat<m.mem.length,(0:Int)≤t,t<(↑m.sl.length:Int),t.toNat=t.toNat,(0:Int)≤(nodA gs m.pos t).slot,(nodA gs m.pos t).slot<(↑(m.sl.getD t.toNat default).l.length:Int),(nodA gs m.pos t).slot.toNat<(m.sl.getD t.toNat default).l.length,(0:Int)≤t,t<(↑m.pos.length:Int),t.toNat<m.pos.length]) (hv:=W9)
    exact Q87 [(z100_7 m t gs)] z100_4 z100_3 [(m.pos.set t.toNat (z100_12 t gs m).to).length=m.pos.length,∀ (i:Nat),i<(m.pos.set t.toNat (z100_12 t gs m).to).length→i64T ((m.pos.set t.toNat (z100_12 t gs m).to).getD i 0)=updT (z100_5 m) t.toNat 0 (z100_6 gs m t) i,(z100_12 t gs m).m.sl.length=m.sl.length,∀ (i:Nat),i<(z100_12 t gs m).m.sl.length→((z100_12 t gs m).m.sl.getD i default).tc=if i=t.toNat then (Slt.mk (z100_2 m t gs)).tc else (m.sl.getD i default).tc,(z100_12 t gs m).m.mem.length=m.mem.length,∀ (i:Nat),i<(z100_12 t gs m).m.mem.length→i64T ((z100_12 t gs m).m.mem.getD i 0)=i64T (m.mem.getD i 0),(z100_12 t gs m).m.ho.length=m.ho.length,∀ (i:Nat),i<(z100_12 t gs m).m.ho.length→i64T ((z100_12 t gs m).m.ho.getD i 0)=i64T (m.ho.getD i 0),(z100_12 t gs m).m.pr.length=m.pr.length,∀ (i:Nat),i<(z100_12 t gs m).m.pr.length→((z100_12 t gs m).m.pr.getD i default).tc=(m.pr.getD i default).tc,(z100_12 t gs m).d.thread=t,(z100_12 t gs m).d.node=m.pos.getD t.toNat 0,(z100_12 t gs m).d.kind=(nodA gs m.pos t).kind,(z100_12 t gs m).d.word=m.mem.getD (nodA gs m.pos t).thing.toNat (0:Int),(z100_12 t gs m).d.put=(0:Int)] W15 (vc2:=[(z100_2 m t gs).length=(m.sl.getD t.toNat default).l.length,∀ (i:Nat),i<(z100_2 m t gs).length→i64T ((z100_2 m t gs).getD i 0)=updT (fun i=>i64T ((m.sl.getD t.toNat default).l.getD i 0)) (nodA gs m.pos t).slot.toNat 0 [Value.int IntKind.i64 (m.mem.getD (nodA gs m.pos t).thing.toNat (0:Int))] i]) (hv2:=W91)
   ·refine tz [38,10,9,8,6,5,4,2,1] ?_
    refine Q0 (decide ((nodA gs m.pos t).kind=(3:Int))) (fun h4=>?_) (fun h4=>?_)
    ·rw [Yd (Ym hz) (Qfe (of_decide_eq_true h4))]
     refine tz [10,9,8,6,5,4,2,1] ?_
     refine Q2 Yb (Jc sh lk gs m t ((nodA gs m.pos t).a) W19 W19) [0,1,2,11,12,13,14,15] ?_
     refine tz [81,10,9,8,6,5,4,2,1] ?_
     refine Ju 2 [[]] [0,0,0,0,0,0] ?_ (vc:=[(0:Int)≤(nodA gs m.pos t).thing,(nodA gs m.pos t).thing<(↑m.mem.length:Int),(nodA gs m.pos t).thing.toNat<m.mem.length,(0:Int)≤t,t<(↑m.pos.length:Int),t.toNat<m.pos.length]) (hv:=W9)
     exact Q1 z100_4 z100_3 [(m.pos.set t.toNat (z100_10 t gs m).to).length=m.pos.length,∀ (i:Nat),i<(m.pos.set t.toNat (z100_10 t gs m).to).length→i64T ((m.pos.set t.toNat (z100_10 t gs m).to).getD i 0)=updT (z100_5 m) t.toNat 0 (z100_6 gs m t) i,(z100_10 t gs m).m.sl.length=m.sl.length,∀ (i:Nat),i<(z100_10 t gs m).m.sl.length→((z100_10 t gs m).m.sl.getD i default).tc=(m.sl.getD i default).tc,(z100_10 t gs m).m.mem.length=m.mem.length,∀ (i:Nat),i<(z100_10 t gs m).m.mem.length→i64T ((z100_10 t gs m).m.mem.getD i 0)=updT (fun i=>i64T (m.mem.getD i 0)) (nodA gs m.pos t).thing.toNat 0 [Value.int IntKind.i64 (wordV m.sl t (nodA gs m.pos t).a)] i,(z100_10 t gs m).m.ho.length=m.ho.length,∀ (i:Nat),i<(z100_10 t gs m).m.ho.length→i64T ((z100_10 t gs m).m.ho.getD i 0)=i64T (m.ho.getD i 0),(z100_10 t gs m).m.pr.length=m.pr.length,∀ (i:Nat),i<(z100_10 t gs m).m.pr.length→((z100_10 t gs m).m.pr.getD i default).tc=(m.pr.getD i default).tc,(z100_10 t gs m).d.thread=t,(z100_10 t gs m).d.node=m.pos.getD t.toNat 0,(z100_10 t gs m).d.kind=(nodA gs m.pos t).kind,(z100_10 t gs m).d.word=wordV m.sl t (nodA gs m.pos t).a,(z100_10 t gs m).d.put=(0:Int)] W15
    ·refine tz [38,10,9,8,6,5,4,2,1] ?_
     refine Q0 (decide ((nodA gs m.pos t).kind=(4:Int))) (fun h5=>?_) (fun h5=>?_)
     ·rw [Yd (Ym hz) (Qff (of_decide_eq_true h5))]
      refine tz [10,9,8,6,5,4,2,1] ?_
      refine Q2 Yb (Jc sh lk gs m t ((nodA gs m.pos t).a) W19 W19) [0,1,2,11,12,13,14,15] ?_ (vc:=[(0:Int)≤(nodA gs m.pos t).thing,(nodA gs m.pos t).thing<(↑m.mem.length:Int),(nodA gs m.pos t).thing.toNat<m.mem.length]) (hv:=W9)
      refine Yu 12 (t.toNat) ?_ (vc:=[t.toNat<m.sl.length]) (hv:=W9)
      refine tz [103,10,9,8,6,5,4,2,1] ?_
      refine Ju 2 [[]] [0,0,0,0,0,0] ?_ (vc:=[(0:Int)≤(nodA gs m.pos t).thing,(nodA gs m.pos t).thing<(↑m.mem.length:Int),(nodA gs m.pos t).thing.toNat<m.mem.length,(0:Int)≤t,t<(↑m.sl.length:Int),t.toNat=t.toNat,(0:Int)≤(nodA gs m.pos t).slot,(nodA gs m.pos t).slot<(↑(m.sl.getD t.toNat default).l.length:Int),(nodA gs m.pos t).slot.toNat<(m.sl.getD t.toNat default).l.length,(0:Int)≤t,t<(↑m.pos.length:Int),t.toNat<m.pos.length]) (hv:=W9)
      exact Q87 [(z100_7 m t gs)] z100_4 z100_3 [(m.pos.set t.toNat (z100_13 t gs m).to).length=m.pos.length,∀ (i:Nat),i<(m.pos.set t.toNat (z100_13 t gs m).to).length→i64T ((m.pos.set t.toNat (z100_13 t gs m).to).getD i 0)=updT (z100_5 m) t.toNat 0 (z100_6 gs m t) i,(z100_13 t gs m).m.sl.length=m.sl.length,∀ (i:Nat),i<(z100_13 t gs m).m.sl.length→((z100_13 t gs m).m.sl.getD i default).tc=if i=t.toNat then (Slt.mk (z100_2 m t gs)).tc else (m.sl.getD i default).tc,(z100_13 t gs m).m.mem.length=m.mem.length,∀ (i:Nat),i<(z100_13 t gs m).m.mem.length→i64T ((z100_13 t gs m).m.mem.getD i 0)=updT (fun i=>i64T (m.mem.getD i 0)) (nodA gs m.pos t).thing.toNat 0 [Value.int IntKind.i64 (wordV m.sl t (nodA gs m.pos t).a)] i,(z100_13 t gs m).m.ho.length=m.ho.length,∀ (i:Nat),i<(z100_13 t gs m).m.ho.length→i64T ((z100_13 t gs m).m.ho.getD i 0)=i64T (m.ho.getD i 0),(z100_13 t gs m).m.pr.length=m.pr.length,∀ (i:Nat),i<(z100_13 t gs m).m.pr.length→((z100_13 t gs m).m.pr.getD i default).tc=(m.pr.getD i default).tc,(z100_13 t gs m).d.thread=t,(z100_13 t gs m).d.node=m.pos.getD t.toNat 0,(z100_13 t gs m).d.kind=(nodA gs m.pos t).kind,(z100_13 t gs m).d.word=m.mem.getD (nodA gs m.pos t).thing.toNat (0:Int),(z100_13 t gs m).d.put=wordV m.sl t (nodA gs m.pos t).a] W15 (vc2:=[(z100_2 m t gs).length=(m.sl.getD t.toNat default).l.length,∀ (i:Nat),i<(z100_2 m t gs).length→i64T ((z100_2 m t gs).getD i 0)=updT (fun i=>i64T ((m.sl.getD t.toNat default).l.getD i 0)) (nodA gs m.pos t).slot.toNat 0 [Value.int IntKind.i64 (m.mem.getD (nodA gs m.pos t).thing.toNat (0:Int))] i]) (hv2:=W91)
     ·refine tz [38,10,9,8,6,5,4,2,1] ?_
      refine Q0 (decide ((nodA gs m.pos t).kind=(5:Int))) (fun h6=>?_) (fun h6=>?_)
      ·rw [Yd (Ym hz) (Qfg (of_decide_eq_true h6))]
       refine tz [10,9,8,6,5,4,2,1] ?_
       refine Ju 2 [[]] [0,0,0,0,0,0] ?_ (vc:=[(0:Int)≤(nodA gs m.pos t).thing,(nodA gs m.pos t).thing<(↑m.ho.length:Int),(nodA gs m.pos t).thing.toNat<m.ho.length,(0:Int)≤t,t<(↑m.pos.length:Int),t.toNat<m.pos.length]) (hv:=W9)
       exact Q1 z100_4 z100_3 [(m.pos.set t.toNat (z100_14 t gs m).to).length=m.pos.length,∀ (i:Nat),i<(m.pos.set t.toNat (z100_14 t gs m).to).length→i64T ((m.pos.set t.toNat (z100_14 t gs m).to).getD i 0)=updT (z100_5 m) t.toNat 0 (z100_6 gs m t) i,(z100_14 t gs m).m.sl.length=m.sl.length,∀ (i:Nat),i<(z100_14 t gs m).m.sl.length→((z100_14 t gs m).m.sl.getD i default).tc=(m.sl.getD i default).tc,(z100_14 t gs m).m.mem.length=m.mem.length,∀ (i:Nat),i<(z100_14 t gs m).m.mem.length→i64T ((z100_14 t gs m).m.mem.getD i 0)=i64T (m.mem.getD i 0),(z100_14 t gs m).m.ho.length=m.ho.length,∀ (i:Nat),i<(z100_14 t gs m).m.ho.length→i64T ((z100_14 t gs m).m.ho.getD i 0)=updT (fun i=>i64T (m.ho.getD i 0)) (nodA gs m.pos t).thing.toNat 0 [Value.int IntKind.i64 t] i,(z100_14 t gs m).m.pr.length=m.pr.length,∀ (i:Nat),i<(z100_14 t gs m).m.pr.length→((z100_14 t gs m).m.pr.getD i default).tc=(m.pr.getD i default).tc,(z100_14 t gs m).d.thread=t,(z100_14 t gs m).d.node=m.pos.getD t.toNat 0,(z100_14 t gs m).d.kind=(nodA gs m.pos t).kind,(z100_14 t gs m).d.word=(0:Int),(z100_14 t gs m).d.put=(0:Int)] W15
      ·refine tz [38,10,9,8,6,5,4,2,1] ?_
       refine Q0 (decide ((nodA gs m.pos t).kind=(6:Int))) (fun h7=>?_) (fun h7=>?_)
       ·rw [Yd (Ym hz) (Qfh (of_decide_eq_true h7))]
        refine tz [10,9,8,6,5,4,2,1] ?_
        refine Ju 2 [[]] [0,0,0,0,0,0] ?_ (vc:=[(0:Int)≤(nodA gs m.pos t).thing,(nodA gs m.pos t).thing<(↑m.ho.length:Int),(nodA gs m.pos t).thing.toNat<m.ho.length,(0:Int)≤t,t<(↑m.pos.length:Int),t.toNat<m.pos.length]) (hv:=W9)
        exact Q1 z100_4 z100_3 [(m.pos.set t.toNat (z100_9 t gs m).to).length=m.pos.length,∀ (i:Nat),i<(m.pos.set t.toNat (z100_9 t gs m).to).length→i64T ((m.pos.set t.toNat (z100_9 t gs m).to).getD i 0)=updT (z100_5 m) t.toNat 0 (z100_6 gs m t) i,(z100_9 t gs m).m.sl.length=m.sl.length,∀ (i:Nat),i<(z100_9 t gs m).m.sl.length→((z100_9 t gs m).m.sl.getD i default).tc=(m.sl.getD i default).tc,(z100_9 t gs m).m.mem.length=m.mem.length,∀ (i:Nat),i<(z100_9 t gs m).m.mem.length→i64T ((z100_9 t gs m).m.mem.getD i 0)=i64T (m.mem.getD i 0),(z100_9 t gs m).m.ho.length=m.ho.length,∀ (i:Nat),i<(z100_9 t gs m).m.ho.length→i64T ((z100_9 t gs m).m.ho.getD i 0)=updT (fun i=>i64T (m.ho.getD i 0)) (nodA gs m.pos t).thing.toNat 0 [Value.int IntKind.i64 (-1:Int)] i,(z100_9 t gs m).m.pr.length=m.pr.length,∀ (i:Nat),i<(z100_9 t gs m).m.pr.length→((z100_9 t gs m).m.pr.getD i default).tc=(m.pr.getD i default).tc,(z100_9 t gs m).d.thread=t,(z100_9 t gs m).d.node=m.pos.getD t.toNat 0,(z100_9 t gs m).d.kind=(nodA gs m.pos t).kind,(z100_9 t gs m).d.word=(0:Int),(z100_9 t gs m).d.put=(0:Int)] W15
       ·refine tz [38,10,9,8,6,5,4,2,1] ?_
        refine Q0 (decide ((nodA gs m.pos t).kind=(7:Int))) (fun h8=>?_) (fun h8=>?_)
        ·rw [Yd (Ym hz) (Qfi (of_decide_eq_true h8))]
         refine tz [10,9,8,6,5,4,2,1] ?_
         refine Q2 Yb (Jc sh lk gs m t ((nodA gs m.pos t).a) W19 W19) [0,1,2,11,12,13,14,15] ?_
         refine tz [143,10,9,6,5,4,2,1] ?_
         refine Ju 2 [[]] [0,0,0,0,0,0] ?_ (vc:=[m.pr.length+1≤maxLen,(m.pr.length+1) * 16≤140737488355328,(0:Int)≤t,t<(↑m.pos.length:Int),t.toNat<m.pos.length]) (hv:=W9)
         exact Q87 [(19,(Prt.tc ⟨t,wordV m.sl t (nodA gs m.pos t).a⟩))] [0,1,2,3,4,5,6,7,11,12,13,14,19] z100_3 [(m.pos.set t.toNat (z100_11 t gs m).to).length=m.pos.length,∀ (i:Nat),i<(m.pos.set t.toNat (z100_11 t gs m).to).length→i64T ((m.pos.set t.toNat (z100_11 t gs m).to).getD i 0)=updT (z100_5 m) t.toNat 0 (z100_6 gs m t) i,(z100_11 t gs m).m.sl.length=m.sl.length,∀ (i:Nat),i<(z100_11 t gs m).m.sl.length→((z100_11 t gs m).m.sl.getD i default).tc=(m.sl.getD i default).tc,(z100_11 t gs m).m.mem.length=m.mem.length,∀ (i:Nat),i<(z100_11 t gs m).m.mem.length→i64T ((z100_11 t gs m).m.mem.getD i 0)=i64T (m.mem.getD i 0),(z100_11 t gs m).m.ho.length=m.ho.length,∀ (i:Nat),i<(z100_11 t gs m).m.ho.length→i64T ((z100_11 t gs m).m.ho.getD i 0)=i64T (m.ho.getD i 0),(z100_11 t gs m).m.pr.length=m.pr.length+1,∀ (i:Nat),i<(z100_11 t gs m).m.pr.length→((z100_11 t gs m).m.pr.getD i default).tc=if i=m.pr.length then (Prt.mk t (wordV m.sl t (nodA gs m.pos t).a)).tc else (m.pr.getD i default).tc,(z100_11 t gs m).d.thread=t,(z100_11 t gs m).d.node=m.pos.getD t.toNat 0,(z100_11 t gs m).d.kind=(nodA gs m.pos t).kind,(z100_11 t gs m).d.word=wordV m.sl t (nodA gs m.pos t).a,(z100_11 t gs m).d.put=(0:Int)] W15 (vc2:=[t=t,wordV m.sl t (nodA gs m.pos t).a=wordV m.sl t (nodA gs m.pos t).a]) (hv2:=W91)
        ·refine tz [38,10,9,8,6,5,4,2,1] ?_
         refine Q0 (decide ((nodA gs m.pos t).kind=(8:Int))) (fun h9=>?_) (fun h9=>?_)
         ·rw [Yd (Ym hz) (Qfj (of_decide_eq_true h9))]
          refine tz [10,9,8,6,5,4,2,1] ?_
          refine Q2 Yb (Jc sh lk gs m t ((nodA gs m.pos t).a) W19 W19) [0,1,2,11,12,13,14,15] ?_
          refine tz [160,10,9,8,6,5,4,2,1] ?_
          refine Q0 (decide (wordV m.sl t (nodA gs m.pos t).a=(0:Int))) (fun h10=>?_) (fun h10=>?_)
          ·refine tz [10,9,8,6,5,4,2,1] ?_
           refine Ju 2 [[]] [0,0,0,0,0,0] ?_ (vc:=[(0:Int)≤t,t<(↑m.pos.length:Int),t.toNat<m.pos.length]) (hv:=W9)
           exact Q1 z100_4 z100_3 [(m.pos.set t.toNat (z100_8 t gs m).to).length=m.pos.length,∀ (i:Nat),i<(m.pos.set t.toNat (z100_8 t gs m).to).length→i64T ((m.pos.set t.toNat (z100_8 t gs m).to).getD i 0)=updT (z100_5 m) t.toNat 0 [Value.int IntKind.i64 (nodA gs m.pos t).els] i,(z100_8 t gs m).m.sl.length=m.sl.length,∀ (i:Nat),i<(z100_8 t gs m).m.sl.length→((z100_8 t gs m).m.sl.getD i default).tc=(m.sl.getD i default).tc,(z100_8 t gs m).m.mem.length=m.mem.length,∀ (i:Nat),i<(z100_8 t gs m).m.mem.length→i64T ((z100_8 t gs m).m.mem.getD i 0)=i64T (m.mem.getD i 0),(z100_8 t gs m).m.ho.length=m.ho.length,∀ (i:Nat),i<(z100_8 t gs m).m.ho.length→i64T ((z100_8 t gs m).m.ho.getD i 0)=i64T (m.ho.getD i 0),(z100_8 t gs m).m.pr.length=m.pr.length,∀ (i:Nat),i<(z100_8 t gs m).m.pr.length→((z100_8 t gs m).m.pr.getD i default).tc=(m.pr.getD i default).tc,(z100_8 t gs m).d.thread=t,(z100_8 t gs m).d.node=m.pos.getD t.toNat 0,(z100_8 t gs m).d.kind=(nodA gs m.pos t).kind,(z100_8 t gs m).d.word=wordV m.sl t (nodA gs m.pos t).a,(z100_8 t gs m).d.put=(0:Int)] W15
          ·refine tz [10,9,6,5,4,2,1] ?_
           refine Ju 2 [[]] [0,0,0,0,0,0] ?_ (vc:=[(0:Int)≤t,t<(↑m.pos.length:Int),t.toNat<m.pos.length]) (hv:=W9)
           exact Q1 z100_4 z100_3 [(m.pos.set t.toNat (z100_8 t gs m).to).length=m.pos.length,∀ (i:Nat),i<(m.pos.set t.toNat (z100_8 t gs m).to).length→i64T ((m.pos.set t.toNat (z100_8 t gs m).to).getD i 0)=updT (z100_5 m) t.toNat 0 (z100_6 gs m t) i,(z100_8 t gs m).m.sl.length=m.sl.length,∀ (i:Nat),i<(z100_8 t gs m).m.sl.length→((z100_8 t gs m).m.sl.getD i default).tc=(m.sl.getD i default).tc,(z100_8 t gs m).m.mem.length=m.mem.length,∀ (i:Nat),i<(z100_8 t gs m).m.mem.length→i64T ((z100_8 t gs m).m.mem.getD i 0)=i64T (m.mem.getD i 0),(z100_8 t gs m).m.ho.length=m.ho.length,∀ (i:Nat),i<(z100_8 t gs m).m.ho.length→i64T ((z100_8 t gs m).m.ho.getD i 0)=i64T (m.ho.getD i 0),(z100_8 t gs m).m.pr.length=m.pr.length,∀ (i:Nat),i<(z100_8 t gs m).m.pr.length→((z100_8 t gs m).m.pr.getD i default).tc=(m.pr.getD i default).tc,(z100_8 t gs m).d.thread=t,(z100_8 t gs m).d.node=m.pos.getD t.toNat 0,(z100_8 t gs m).d.kind=(nodA gs m.pos t).kind,(z100_8 t gs m).d.word=wordV m.sl t (nodA gs m.pos t).a,(z100_8 t gs m).d.put=(0:Int)] W15
         ·exact (show False from by have z:=kinds8 (hQ.nod hw (Qr (Ym hz)).1 (Qr (Ym hz)).2.1) (Qr (Ym hz)).2.2;simp only [BL] at *;omega).elim
end Go.Proofs.YtmaodngbpfjnnaaGreat
end
noncomputable section
namespace Go.Proofs.YtmaodngbpfjnnaaGreat
open Go Go.Tx
theorem Qaf (sh lk:List Dcl) (gs:List Grf) (pos:List Int) (sl:List Slt) (mem ho:List Int) (pr:List Prt) (t:Int) (hQ:MchQ sh.length lk.length gs (Mch.mk pos sl mem ho pr)) (hw:UnitW gs) (h0:0≤t) (ht:t<(pos.length:Int)):Ctr Tryz.prog 88 [Dcl.rowR sh,Dcl.rowR lk,Grf.rowR gs,IntRow pos,Slt.rowR sl,WordRow mem,IntRow ho,Prt.rowR pr] [.agg [.h 0,.h 1,.h 2,.h 3,.h 4,.h 5,.h 6,.h 7],.c (.i .i64 t)]
 (Det (.agg (nodA gs pos t).cs) [.dead,.dead,.dead,.dead,.dead,.dead,.dead,.dead]):=by
 exact Q7c sh lk gs (Mch.mk pos sl mem ho pr) t hQ hw h0 ht
theorem Q1m (sh lk:List Dcl) (gs:List Grf) (pos:List Int) (sl:List Slt) (mem ho:List Int) (pr:List Prt) (t:Int) (hQ:MchQ sh.length lk.length gs (Mch.mk pos sl mem ho pr)) (hw:UnitW gs):Ctr Tryz.prog 62 [Dcl.rowR sh,Dcl.rowR lk,Grf.rowR gs,IntRow pos,Slt.rowR sl,WordRow mem,IntRow ho,Prt.rowR pr] [.agg [.h 0,.h 1,.h 2,.h 3,.h 4,.h 5,.h 6,.h 7],.c (.i .i64 t)]
 (Det (.c (.i .i64 (barV gs pos ho t))) [.dead,.dead,.dead,.dead,.dead,.dead,.dead,.dead]):=by
 exact Qer sh lk gs (Mch.mk pos sl mem ho pr) t hQ hw
theorem Qag (sh lk:List Dcl) (gs:List Grf) (pos:List Int) (sl:List Slt) (mem ho:List Int) (pr:List Prt) (t:Int) (hQ:MchQ sh.length lk.length gs (Mch.mk pos sl mem ho pr)) (hb:sh.length≤64∧lk.length≤16∧gs.length≤8) (hp:pr.length≤4194304) (hw:UnitW gs) (hz:barV gs pos ho t=0):Ctr Tryz.prog 89 [Dcl.rowR sh,Dcl.rowR lk,Grf.rowR gs,IntRow pos,Slt.rowR sl,WordRow mem,IntRow ho,Prt.rowR pr] [.agg [.h 0,.h 1,.h 2,.h 3,.h 4,.h 5,.h 6,.h 7],.c (.i .i64 t)]
 (Det (.tup [(true,[.h 0,.h 1,.h 2,.h 8,.h 9,.h 10,.h 11,.h 12]),(true,(Act.mk (stepM gs t (Mch.mk pos sl mem ho pr)).d.thread (stepM gs t (Mch.mk pos sl mem ho pr)).d.node (stepM gs t (Mch.mk pos sl mem ho pr)).d.kind (nodA gs pos t).thing (stepM gs t (Mch.mk pos sl mem ho pr)).d.word (stepM gs t (Mch.mk pos sl mem ho pr)).d.put).cs),(false,[.i .i64 0])]) [.dead,.dead,.dead,.dead,.dead,.dead,.dead,.dead,IntOwn (stepM gs t (Mch.mk pos sl mem ho pr)).m.pos,Slt.ownR (stepM gs t (Mch.mk pos sl mem ho pr)).m.sl,WordOwn (stepM gs t (Mch.mk pos sl mem ho pr)).m.mem,IntOwn (stepM gs t (Mch.mk pos sl mem ho pr)).m.ho,Prt.ownR (stepM gs t (Mch.mk pos sl mem ho pr)).m.pr]):=by
 exact Qjt sh lk gs (Mch.mk pos sl mem ho pr) t hQ hb hp hw hz
end Go.Proofs.YtmaodngbpfjnnaaGreat
end
