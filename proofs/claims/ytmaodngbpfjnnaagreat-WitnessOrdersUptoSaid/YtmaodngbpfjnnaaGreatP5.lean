/-
  Every Order and Follow of the program is the reference's. Text 5 of 8: SpecSt SpecAd SpecB SpecC SpecD SpecE SpecF SpecG SpecH SpecI SpecJ SpecK SpecL SpecMu SpecTl SpecFo SpecWo Leaf Leaf2 Leaf3 Leaf4 TxU Leaf74 Leaf75 SpecX SpecY SpecM SpecR SpecP SpecQ Leaf76 Leaf40 Leaf70 Leaf77 Leaf71 Leaf72 Leaf78 Leaf79 Leaf83 Leaf80 Leaf41.
-/
import Derived.Test.YtmaodngbpfjnnaaGreatP4
import Derived.Laws.BitsLemmas
import Derived.Laws.Bits64
import Derived.Test.YtmaodngbpfjnnaaGreatP1
import Derived.DeepKeys4
import Derived.Maps.RangeWalk
import Derived.StringKeys
set_option linter.unusedSimpArgs false
set_option linter.unusedVariables false
set_option maxHeartbeats 4000000
set_option maxHeartbeats 1000000
set_option linter.unusedSectionVars false
namespace Go.Proofs.YtmaodngbpfjnnaaGreat
open Go Go.Tx
theorem Q6f {α:Type} (d:α) (l:List α) (k j:Nat) (x:α) (hj:j<l.length):(l.set k x).getD j d=if k=j then x else l.getD j d:=by
 rw [List.getD_eq_getElem?_getD,List.getElem?_set,List.getD_eq_getElem?_getD]
 split
 ·rename_i e
  subst e
  simp [hj]
 ·rfl
theorem Q3c (sl:List Slt) (t s w:Int):(putsL sl t s w).length=sl.length:=List.length_set
theorem Qca (sl:List Slt) (t s w:Int) (j:Nat):((putsL sl t s w).getD j default).l.length=(sl.getD j default).l.length:=by
 by_cases hj:j<sl.length
 ·unfold putsL
  rw [Q6f _ _ _ _ _ hj]
  split
  ·rename_i e;subst e;exact List.length_set
  ·rfl
 ·rw [List.getD_eq_getElem?_getD,List.getD_eq_getElem?_getD,List.getElem?_eq_none (by rw [Q3c];omega),List.getElem?_eq_none W37]
structure Keep (m m':Mch):Prop where
 pos:m'.pos=m.pos
 sl:m'.sl.length=m.sl.length
 sw:∀ j:Nat,(m'.sl.getD j default).l.length=(m.sl.getD j default).l.length
 mem:m'.mem.length=m.mem.length
 ho:m'.ho.length=m.ho.length
 pr:m'.pr.length≤m.pr.length+1
theorem Qeg (t:Int) (n:Nod) (m:Mch) (d:Act):Keep m (aDo t n m d).m:=by
 have hid:Keep m m:=⟨rfl,rfl,fun _=>rfl,rfl,rfl,Nat.le_succ _⟩
 unfold aDo
 split
 ·exact ⟨rfl,Q3c _ _ _ _,Qca _ _ _ _,rfl,rfl,Nat.le_succ _⟩
 split
 ·exact ⟨rfl,Q3c _ _ _ _,Qca _ _ _ _,rfl,rfl,Nat.le_succ _⟩
 split
 ·exact ⟨rfl,rfl,fun _=>rfl,List.length_set,rfl,Nat.le_succ _⟩
 split
 ·exact ⟨rfl,Q3c _ _ _ _,Qca _ _ _ _,List.length_set,rfl,Nat.le_succ _⟩
 split
 ·exact ⟨rfl,rfl,fun _=>rfl,rfl,List.length_set,Nat.le_succ _⟩
 split
 ·exact ⟨rfl,rfl,fun _=>rfl,rfl,List.length_set,Nat.le_succ _⟩
 split
 ·refine ⟨rfl,rfl,fun _=>rfl,rfl,rfl,?_⟩
  show (m.pr++[_]).length≤_
  simp
 split
 ·exact hid
 ·exact hid
theorem Qo7 {ns nl:Nat} {g:Grf} {t:Int} {n:Nod} {m:Mch} {d:Act} (h:NodQ ns nl g n) (h9:n.kind≠9):0≤(aDo t n m d).to∧(aDo t n m d).to<(g.nodes.length:Int):=by
 have hn:=h.next h9
 rcases kinds8 h h9 with q | q | q | q | q | q | q | q
 ·rw [Qfc q];exact hn
 ·rw [Qfd q];exact hn
 ·rw [Qfe q];exact hn
 ·rw [Qff q];exact hn
 ·rw [Qfg q];exact hn
 ·rw [Qfh q];exact hn
 ·rw [Qfi q];exact hn
 ·rw [Qfj q]
  show 0≤(if wordV m.sl t n.a=0 then n.els else n.next)∧(if wordV m.sl t n.a=0 then n.els else n.next)<_
  split
  ·exact h.els q
  ·exact hn
section
variable {ns nl:Nat} {gs:List Grf} {m:Mch} {t:Int}
theorem Q9f:(stepM gs t m).m.pr.length≤m.pr.length+1:=by
 unfold stepM
 split
 ·exact (Qeg _ _ _ _).pr
 ·exact Nat.le_succ _
theorem Qcb (h:MchQ ns nl gs m) (hw:UnitW gs):MchQ ns nl gs (stepM gs t m).m:=by
 by_cases hb:(!decide (barV gs m.pos m.ho t=(0:Int)))=true
 ·rw [Qc8 hb];exact h
 ·have hb:(!decide (barV gs m.pos m.ho t=(0:Int)))=false:=by simpa using hb
  have z:=Qr hb
  have hq:=h.nod hw z.1 z.2.1
  rw [Yd hb rfl]
  generalize hR:aDo t (nodA gs m.pos t) m _=R
  have hk:Keep m R.m:=by rw [← hR];exact Qeg _ _ _ _
  have ht:0≤R.to∧R.to<((gs.getD t.toNat default).nodes.length:Int):=by rw [← hR];exact Qo7 hq z.2.2
  refine ⟨?_,by rw [hk.sl];exact h.sn,by rw [hk.mem];exact h.mn,by rw [hk.ho];exact h.hn,h.g,fun j hj=>?_,fun j hj=>by rw [hk.sw];exact h.sw j hj⟩
  ·show (m.pos.set _ _).length=_
   rw [List.length_set];exact h.gl
  ·show 0≤(m.pos.set t.toNat R.to).getD j 0∧(m.pos.set t.toNat R.to).getD j 0<_
   rw [Q6f _ _ _ _ _ (by rw [h.gl];exact hj)]
   split
   ·rename_i e;subst e;exact ht
   ·exact h.at_ j hj
end
theorem Qje {α:Type} (d x:α) (n j:Nat) (h:j<n):(List.replicate n x).getD j d=x:=by
 rw [List.getD_eq_getElem?_getD,List.getElem?_replicate,if_pos h];rfl
theorem Qfk {sh lk:List Dcl} {gs:List Grf} (h:(chkU sh lk gs).1=0):MchQ sh.length lk.length gs (newM sh lk gs):=by
 have hg:=(Q2p h).2
 refine ⟨by simp [newM],by simp [newM],by simp [newM],by simp [newM],hg,fun j hj=>?_,fun j hj=>?_⟩
 ·show 0≤(List.replicate gs.length (0:Int)).getD j 0∧(List.replicate gs.length (0:Int)).getD j 0<_
  rw [Qje _ _ _ _ hj]
  have:=(hg j hj).len
  omega
 ·show ((((gs.map (fun g=>(⟨List.replicate g.slots.toNat 0⟩:Slt))).getD j default).l.length:Nat):Int)=_
  rw [List.getD_eq_getElem?_getD,List.getElem?_map,List.getElem?_eq_getElem hj]
  have:=(hg j hj).loc
  rw [List.getD_eq_getElem?_getD,List.getElem?_eq_getElem hj] at this ⊢
  simp only [Option.map_some,Option.getD_some,List.length_replicate] at this ⊢
  omega
def runS (gs:List Grf):List Int→Mch→Option Mch
 | [],m=>some m
 | t::r,m=>if (stepM gs t m).err=0 then runS gs r (stepM gs t m).m else none
structure Rn where
 n:Int
 err:Int
 m:Mch
def runM (gs:List Grf):List Int→Int→Mch→Rn
 | [],i,m=>⟨i,0,m⟩
 | t::r,i,m=>if (stepM gs t m).err=0 then runM gs r (i+1) (stepM gs t m).m else ⟨i,(stepM gs t m).err,(stepM gs t m).m⟩
structure Adv where
 n:Int
 err:Int
 m:Mch
def advGo (gs:List Grf) (cl:List Cls) (t most:Int) (m0:Mch):Nat→Int→Mch→Adv
 | 0,_,_=>⟨0,3,m0⟩
 | fu+1,k,c=>if barV gs c.pos c.ho t=70 then ⟨k,0,c⟩ else if barV gs c.pos c.ho t≠0 then ⟨0,barV gs c.pos c.ho t,m0⟩ else if k=most then ⟨0,3,m0⟩
   else if visN cl (nodA gs c.pos t)=true then ⟨k+1,0,(stepM gs t c).m⟩ else advGo gs cl t most m0 fu (k+1) (stepM gs t c).m
def advM (ns:Nat) (gs:List Grf) (cl:List Cls) (t most:Int) (m:Mch):Adv:=
 if (!(decide ((0:Int)≤t)&&decide (t<(m.pos.length:Int)))||!decide ((cl.length:Int)=(ns:Int))||decide (most<(0:Int))||decide ((1048576:Int)<most))=true then ⟨0,2,m⟩
 else if barV gs m.pos m.ho t=70 then ⟨0,70,m⟩ else advGo gs cl t most m (most.toNat+1) 0 m
theorem Qcc {gs:List Grf} {t:Int} {c:Mch} (h:barV gs c.pos c.ho t=0):(stepM gs t c).err=0:=by unfold stepM;rw [if_pos h]
theorem Qcd {gs:List Grf} {cl:List Cls} {t most:Int} {m0:Mch}:∀ {fu:Nat} {k:Int} {c:Mch},(advGo gs cl t most m0 fu k c).err=0 →
 ∃ j:Nat,(advGo gs cl t most m0 fu k c).n=k+j∧runS gs (List.replicate j t) c=some (advGo gs cl t most m0 fu k c).m∧j≤fu
 | 0,k,c,h=>by cases h
 | fu+1,k,c,h=>by
   unfold advGo at h ⊢
   split at h
   ·rename_i h70
    rw [if_pos h70]
    exact ⟨0,by simp,rfl,by omega⟩
   ·rename_i h70
    rw [if_neg h70]
    split at h
    ·rename_i hb
     exact absurd h hb
    ·rename_i hb
     have hb0:barV gs c.pos c.ho t=0:=by simpa using hb
     rw [if_neg hb]
     split at h
     ·cases h
     ·rename_i hk
      rw [if_neg hk]
      split at h
      ·rename_i hv
       rw [if_pos hv]
       refine ⟨1,rfl,?_,by omega⟩
       show runS gs [t] c=_
       unfold runS
       rw [if_pos (Qcc hb0)];rfl
      ·rename_i hv
       rw [if_neg hv]
       obtain ⟨j,e1,e2,e3⟩:=Qcd h
       refine ⟨j+1,by rw [e1];omega,?_,by omega⟩
       show runS gs (t::List.replicate j t) c=_
       unfold runS
       rw [if_pos (Qcc hb0)]
       exact e2
theorem Qeh {ns:Nat} {gs:List Grf} {cl:List Cls} {t most:Int} {m:Mch} (h:(advM ns gs cl t most m).err=0) :
 ∃ j:Nat,(advM ns gs cl t most m).n=j∧runS gs (List.replicate j t) m=some (advM ns gs cl t most m).m:=by
 unfold advM at h ⊢
 split at h
 ·cases h
 ·rename_i h1
  rw [if_neg h1]
  split at h
  ·cases h
  ·rename_i h2
   rw [if_neg h2]
   obtain ⟨j,e1,e2,_⟩:=Qcd h
   exact ⟨j,by rw [e1];omega,e2⟩
structure Tel where
 err:Int
 m:Mch
 st:List Int
def telAdv (ns:Nat) (gs:List Grf) (cl:List Cls) (most t:Int) (x:Tel):Tel:=
 if (advM ns gs cl t most x.m).err≠0 then ⟨211,(advM ns gs cl t most x.m).m,x.st⟩
 else if (1048576:Int)<(x.st.length:Int)+(advM ns gs cl t most x.m).n then ⟨3,(advM ns gs cl t most x.m).m,x.st⟩
 else ⟨0,(advM ns gs cl t most x.m).m,x.st++List.replicate (advM ns gs cl t most x.m).n.toNat t⟩
def telGo (ns:Nat) (gs:List Grf) (cl:List Cls) (most:Int):List Int→Tel→Tel
 | [],x=>⟨0,x.m,x.st⟩
 | t::r,x=>if (telAdv ns gs cl most t x).err=0 then telGo ns gs cl most r (telAdv ns gs cl most t x) else telAdv ns gs cl most t x
end Go.Proofs.YtmaodngbpfjnnaaGreat
namespace Go.Proofs.YtmaodngbpfjnnaaGreat
open Go Go.Tx
section
variable {ns:Nat} {gs:List Grf} {cl:List Cls} {t most k:Int} {m c:Mch} {fu:Nat}
theorem Q5i (h:(!(decide ((0:Int)≤t)&&decide (t<(m.pos.length:Int)))||!decide ((cl.length:Int)=(ns:Int))||decide (most<(0:Int))||decide ((1048576:Int)<most))=true):advM ns gs cl t most m=⟨0,2,m⟩:=by
 unfold advM;rw [if_pos h]
theorem Q0k (h:(!(decide ((0:Int)≤t)&&decide (t<(m.pos.length:Int)))||!decide ((cl.length:Int)=(ns:Int))||decide (most<(0:Int))||decide ((1048576:Int)<most))=false):0≤t∧t<(m.pos.length:Int)∧(cl.length:Int)=ns∧0≤most∧most≤1048576:=by
 simp at h;omega
theorem Q5j (h:(!(decide ((0:Int)≤t)&&decide (t<(m.pos.length:Int)))||!decide ((cl.length:Int)=(ns:Int))||decide (most<(0:Int))||decide ((1048576:Int)<most))=false) (h2:decide (barV gs m.pos m.ho t=70)=true):advM ns gs cl t most m=⟨0,70,m⟩:=by
 unfold advM;rw [if_neg (by rw [h];decide),if_pos (of_decide_eq_true h2)]
theorem Qmy (h:(!(decide ((0:Int)≤t)&&decide (t<(m.pos.length:Int)))||!decide ((cl.length:Int)=(ns:Int))||decide (most<(0:Int))||decide ((1048576:Int)<most))=false) (h2:decide (barV gs m.pos m.ho t=70)=false):advM ns gs cl t most m=advGo gs cl t most m (most.toNat+1) 0 m:=by
 unfold advM;rw [if_neg (by rw [h];decide),if_neg (of_decide_eq_false h2)]
structure AdvJ (ns nl:Nat) (gs:List Grf) (cl:List Cls) (t most:Int) (m:Mch) (k:Int) (c:Mch):Prop where
 q:MchQ ns nl gs c
 lo:0≤k
 hi:k≤most
 pr:(c.pr.length:Int)≤m.pr.length+k
 eq:advM ns gs cl t most m=advGo gs cl t most m (most-k).toNat.succ k c
theorem AdvJ.start {nl:Nat} (hQ:MchQ ns nl gs m) (h:(!(decide ((0:Int)≤t)&&decide (t<(m.pos.length:Int)))||!decide ((cl.length:Int)=(ns:Int))||decide (most<(0:Int))||decide ((1048576:Int)<most))=false) (h2:decide (barV gs m.pos m.ho t=70)=false):AdvJ ns nl gs cl t most m 0 m:=
 ⟨hQ,Int.le_refl _,(Q0k h).2.2.2.1,by omega,by rw [Qmy h h2,Int.sub_zero]⟩
variable {nl:Nat}
theorem AdvJ.e70 (h:AdvJ ns nl gs cl t most m k c) (h1:decide (barV gs c.pos c.ho t=70)=true):advM ns gs cl t most m=⟨k,0,c⟩:=by
 rw [h.eq];unfold advGo;rw [if_pos (of_decide_eq_true h1)]
theorem AdvJ.bar (h:AdvJ ns nl gs cl t most m k c) (h1:decide (barV gs c.pos c.ho t=70)=false) (h2:(!decide (barV gs c.pos c.ho t=0))=true):advM ns gs cl t most m=⟨0,barV gs c.pos c.ho t,m⟩:=by
 rw [h.eq];unfold advGo;rw [if_neg (of_decide_eq_false h1),if_pos W128]
theorem AdvJ.many (h:AdvJ ns nl gs cl t most m k c) (h1:decide (barV gs c.pos c.ho t=70)=false) (h2:(!decide (barV gs c.pos c.ho t=0))=false) (h3:decide (k=most)=true):advM ns gs cl t most m=⟨0,3,m⟩:=by
 rw [h.eq];unfold advGo;rw [if_neg (of_decide_eq_false h1),if_neg W128,if_pos (of_decide_eq_true h3)]
theorem AdvJ.vis (h:AdvJ ns nl gs cl t most m k c) (h1:decide (barV gs c.pos c.ho t=70)=false) (h2:(!decide (barV gs c.pos c.ho t=0))=false) (h3:decide (k=most)=false) (h4:visN cl (nodA gs c.pos t)=true):advM ns gs cl t most m=⟨k+1,0,(stepM gs t c).m⟩:=by
 rw [h.eq];unfold advGo;rw [if_neg (of_decide_eq_false h1),if_neg W128,if_neg (of_decide_eq_false h3),if_pos h4]
theorem AdvJ.next (hw:UnitW gs) (h:AdvJ ns nl gs cl t most m k c) (h1:decide (barV gs c.pos c.ho t=70)=false) (h2:(!decide (barV gs c.pos c.ho t=0))=false) (h3:decide (k=most)=false) (h4:visN cl (nodA gs c.pos t)=false):AdvJ ns nl gs cl t most m (k+1) (stepM gs t c).m:=by
 have h3':=of_decide_eq_false h3
 refine ⟨Qcb h.q hw,by have:=h.lo;omega,by have:=h.hi;omega,?_,?_⟩
 ·have:=h.pr;have z:=Q9f (gs:=gs) (m:=c) (t:=t);omega
 ·rw [h.eq]
  conv=>lhs;unfold advGo
  rw [if_neg (of_decide_eq_false h1),if_neg W128,if_neg h3',if_neg (by rw [h4];decide)]
  have e:(most-k).toNat=(most-(k+1)).toNat.succ:=by have:=h.hi;omega
  rw [e]
end
theorem Qa4 {gs:List Grf} {cl:List Cls} {t most:Int} {m0:Mch}:∀ {fu:Nat} {k:Int} {c:Mch},(advGo gs cl t most m0 fu k c).err≠0→(advGo gs cl t most m0 fu k c).m=m0∧(advGo gs cl t most m0 fu k c).n=0
 | 0,k,c,h=>⟨rfl,rfl⟩
 | fu+1,k,c,h=>by
   unfold advGo at h ⊢
   split at h
   ·exact absurd rfl h
   ·rename_i h1
    rw [if_neg h1]
    split at h
    ·rename_i h2;rw [if_pos h2];exact ⟨rfl,rfl⟩
    ·rename_i h2
     rw [if_neg h2]
     split at h
     ·rename_i h3;rw [if_pos h3];exact ⟨rfl,rfl⟩
     ·rename_i h3
      rw [if_neg h3]
      split at h
      ·exact absurd rfl h
      ·rename_i h4;rw [if_neg h4];exact Qa4 h
theorem Qce {ns:Nat} {gs:List Grf} {cl:List Cls} {t most:Int} {m:Mch} (h:(advM ns gs cl t most m).err≠0):(advM ns gs cl t most m).m=m∧(advM ns gs cl t most m).n=0:=by
 unfold advM at h ⊢
 split at h
 ·rename_i h1;rw [if_pos h1];exact ⟨rfl,rfl⟩
 ·rename_i h1
  rw [if_neg h1]
  split at h
  ·rename_i h2;rw [if_pos h2];exact ⟨rfl,rfl⟩
  ·rename_i h2;rw [if_neg h2];exact Qa4 h
theorem Qcf {ns nl:Nat} {gs:List Grf} (hw:UnitW gs):∀ {l:List Int} {m m':Mch},MchQ ns nl gs m→runS gs l m=some m'→MchQ ns nl gs m'∧m'.pr.length≤m.pr.length+l.length
 | [],m,m',hQ,h=>by cases h;exact ⟨hQ,by simp⟩
 | t::r,m,m',hQ,h=>by
   unfold runS at h
   split at h
   ·have z:=Qcf hw (Qcb (t:=t) hQ hw) h
    have z2:=Q9f (gs:=gs) (m:=m) (t:=t)
    exact ⟨z.1,by simp only [List.length_cons];omega⟩
   ·cases h
theorem Qh5 {ns nl:Nat} {gs:List Grf} {cl:List Cls} {t most:Int} {m:Mch} (hw:UnitW gs) (hQ:MchQ ns nl gs m):MchQ ns nl gs (advM ns gs cl t most m).m:=by
 by_cases h:(advM ns gs cl t most m).err=0
 ·obtain ⟨j,_,e2⟩:=Qeh h
  exact (Qcf hw hQ e2).1
 ·rw [(Qce h).1];exact hQ
structure RunJ (ns nl:Nat) (gs:List Grf) (l:List Int) (m:Mch) (k:Int) (c:Mch):Prop where
 q:MchQ ns nl gs c
 lo:0≤k
 hi:k≤l.length
 pr:(c.pr.length:Int)≤m.pr.length+k
 eq:runM gs l 0 m=runM gs (l.drop k.toNat) k c
section
variable {ns nl:Nat} {gs:List Grf} {l:List Int} {m c:Mch} {k:Int}
theorem RunJ.start (hQ:MchQ ns nl gs m):RunJ ns nl gs l m 0 m:=⟨hQ,Int.le_refl _,by omega,by omega,rfl⟩
theorem Q1z {α:Type} (d:α) {l:List α} {k:Int} (h0:0≤k) (hk:k<(l.length:Int)):l.drop k.toNat=l.getD k.toNat d::l.drop (k+1).toNat:=by
 rw [show (k+1).toNat=k.toNat+1 by omega,List.drop_eq_getElem_cons W37,List.getD_eq_getElem?_getD,List.getElem?_eq_getElem W37];rfl
theorem RunJ.next (hw:UnitW gs) (h:RunJ ns nl gs l m k c) (hk:decide (k<(l.length:Int))=true) (he:(!decide ((stepM gs (l.getD k.toNat 0) c).err=0))=false):RunJ ns nl gs l m (k+1) (stepM gs (l.getD k.toNat 0) c).m:=by
 have hk:=of_decide_eq_true hk
 refine ⟨Qcb h.q hw,by have:=h.lo;omega,by omega,?_,?_⟩
 ·have:=h.pr;have z:=Q9f (gs:=gs) (m:=c) (t:=l.getD k.toNat 0);omega
 ·rw [h.eq,Q1z 0 h.lo hk]
  conv=>lhs;unfold runM
  rw [if_pos (by simpa using he)]
theorem RunJ.err (h:RunJ ns nl gs l m k c) (hk:decide (k<(l.length:Int))=true) (he:(!decide ((stepM gs (l.getD k.toNat 0) c).err=0))=true):runM gs l 0 m=⟨k,(stepM gs (l.getD k.toNat 0) c).err,(stepM gs (l.getD k.toNat 0) c).m⟩:=by
 have hk:=of_decide_eq_true hk
 rw [h.eq,Q1z 0 h.lo hk]
 unfold runM
 rw [if_neg (by simpa using he)]
theorem RunJ.done (h:RunJ ns nl gs l m k c) (hk:decide (k<(l.length:Int))=false):runM gs l 0 m=⟨(l.length:Int),0,c⟩:=by
 have hk:=of_decide_eq_false hk
 have e:k=l.length:=by have:=h.hi;omega
 rw [h.eq,List.drop_eq_nil_of_le W37]
 show Rn.mk k 0 c=_
 rw [e]
end
def endGo (gs:List Grf) (pos ho:List Int):Nat→Int→Bool
 | 0,_=>true
 | fu+1,k=>if barV gs pos ho k=70 then endGo gs pos ho fu (k+1) else false
def endM (gs:List Grf) (pos ho:List Int):Bool:=endGo gs pos ho pos.length 0
theorem Qmz {gs:List Grf} {pos ho:List Int} {k:Int} (hJ:0≤k∧k≤(pos.length:Int)∧endM gs pos ho=endGo gs pos ho ((pos.length:Int)-k).toNat k) (hk:decide (k<(pos.length:Int))=true) (h:(!decide (barV gs pos ho k=70))=true):endM gs pos ho=false:=by
 have hk:=of_decide_eq_true hk
 rw [hJ.2.2,show ((pos.length:Int)-k).toNat=((pos.length:Int)-(k+1)).toNat+1 by omega]
 unfold endGo
 rw [if_neg W144]
theorem Qcg {gs:List Grf} {pos ho:List Int} {k:Int} (hJ:0≤k∧k≤(pos.length:Int)∧endM gs pos ho=endGo gs pos ho ((pos.length:Int)-k).toNat k) (hk:decide (k<(pos.length:Int))=true) (h:(!decide (barV gs pos ho k=70))=false):0≤k+1∧k+1≤(pos.length:Int)∧endM gs pos ho=endGo gs pos ho ((pos.length:Int)-(k+1)).toNat (k+1):=by
 have hk:=of_decide_eq_true hk
 refine ⟨by omega,by omega,?_⟩
 rw [hJ.2.2,show ((pos.length:Int)-k).toNat=((pos.length:Int)-(k+1)).toNat+1 by omega]
 conv=>lhs;unfold endGo
 rw [if_pos W144]
theorem Qlc {gs:List Grf} {pos ho:List Int} {k:Int} (hJ:0≤k∧k≤(pos.length:Int)∧endM gs pos ho=endGo gs pos ho ((pos.length:Int)-k).toNat k) (hk:decide (k<(pos.length:Int))=false):endM gs pos ho=true:=by
 have hk:=of_decide_eq_false hk
 rw [hJ.2.2,show ((pos.length:Int)-k).toNat=0 by omega];rfl
theorem Qa5 {gs:List Grf} {pos ho:List Int}:(0:Int)≤0∧(0:Int)≤(pos.length:Int)∧endM gs pos ho=endGo gs pos ho ((pos.length:Int)-0).toNat 0:=⟨Int.le_refl _,by omega,by rw [Int.sub_zero];rfl⟩
section
variable {ns nl:Nat} {gs:List Grf} {cl:List Cls} {most t:Int} {x:Tel}
theorem Qei (h:(!decide ((advM ns gs cl t most x.m).err=0))=true):telAdv ns gs cl most t x=⟨211,x.m,x.st⟩:=by
 unfold telAdv;rw [if_pos W144,(Qce W144).1]
theorem Q3d (h:(!decide ((advM ns gs cl t most x.m).err=0))=false) (h2:decide ((1048576:Int)<(x.st.length:Int)+(advM ns gs cl t most x.m).n)=true):telAdv ns gs cl most t x=⟨3,(advM ns gs cl t most x.m).m,x.st⟩:=by
 unfold telAdv;rw [if_neg W144,if_pos (of_decide_eq_true h2)]
theorem Q8m (h:(!decide ((advM ns gs cl t most x.m).err=0))=false) (h2:decide ((1048576:Int)<(x.st.length:Int)+(advM ns gs cl t most x.m).n)=false):telAdv ns gs cl most t x=⟨0,(advM ns gs cl t most x.m).m,x.st++List.replicate (advM ns gs cl t most x.m).n.toNat t⟩:=by
 unfold telAdv;rw [if_neg W144,if_neg (of_decide_eq_false h2)]
end
end Go.Proofs.YtmaodngbpfjnnaaGreat
namespace Go.Proofs.YtmaodngbpfjnnaaGreat
open Go Go.Tx
theorem Qfl {p:Int→Bool} {n k:Int}:∀ (m:Nat) (i:Int),(n-i).toNat=m→allFrom p i n=true→i≤k→k<n→p k=true:=by
 intro m
 induction m with
 | zero=>intro i h _ h1 h2;omega
 | succ m ih =>
   intro i h ha h1 h2
   rw [Jo p W37,Bool.and_eq_true] at ha
   by_cases e:i=k
   ·subst e;exact ha.1
   ·exact ih (i+1) W37 ha.2 W37 h2
def didAt (l:List Did) (i:Int):Did:=l.getD i.toNat default
def rightP (l:List Did) (i:Int):Bool:=didB (didAt l i)
def rightsB (l:List Did):Bool:=allFrom (rightP l) 0 l.length
theorem Q20 {l:List Did} (h:rightsB l=true) {i:Int} (h0:0≤i) (h1:i<l.length):didB (l.getD i.toNat default)=true:=
 Qfl (p:=rightP l) _ 0 rfl h h0 h1
theorem Gt {d:Did} (h:didB d=true):0<d.kind∧d.kind<9∧0≤d.core∧d.core<8∧0≤d.addr∧d.addr<4096:=by
 unfold didB at h
 simp only [BL] at h
 omega
def noEv:Ev:=⟨0,0,0,0,0,false,0⟩
def evOf (s9 l9:Int) (d:Did) (i:Int):Ev:=
 if d.kind=6 then ⟨6,d.core,0,d.word,0,false,i⟩
 else if d.kind=7 then ⟨7,d.core,0,d.word,0,false,i⟩
 else if !(decide (d.kind=2)||decide (d.kind=4)||decide (d.kind=8)) then noEv
 else if d.addr<s9 then ⟨if d.kind=4 then 3 else if d.kind=8 then 2 else 1,d.core,d.addr,d.word,d.put,d.own,i⟩
 else if s9+l9≤d.addr||!decide (d.word=0) then noEv
 else if d.kind=8 then ⟨5,d.core,d.addr-s9,d.word,0,false,i⟩
 else if d.kind=4&&!decide (d.put=0) then ⟨4,d.core,d.addr-s9,d.word,0,false,i⟩
 else noEv
def evAt (s9 l9:Int) (l:List Did) (i:Nat):Ev:=evOf s9 l9 (l.getD i default) i
def evUp (s9 l9:Int) (l:List Did):Nat→List Ev
 | 0=>[]
 | n+1=>evUp s9 l9 l n++(if (evAt s9 l9 l n).kind=0 then [] else [evAt s9 l9 l n])
theorem Q55 (s9 l9:Int) (l:List Did) {i:Int} (h:0≤i) {e:Ev} (he:evOf s9 l9 (l.getD i.toNat default) i=e) (hk:¬ e.kind=0) :
 evUp s9 l9 l (i+1).toNat=evUp s9 l9 l i.toNat++[e]:=by
 have h1:(i+1).toNat=i.toNat+1:=by omega
 have h2:((i.toNat:Nat):Int)=i:=by omega
 rw [h1,evUp,evAt,h2,he,if_neg hk]
theorem Qa6 (s9 l9:Int) (l:List Did) {i:Int} (h:0≤i) {e:Ev} (he:evOf s9 l9 (l.getD i.toNat default) i=e) (hk:e.kind=0) :
 evUp s9 l9 l (i+1).toNat=evUp s9 l9 l i.toNat:=by
 have h1:(i+1).toNat=i.toNat+1:=by omega
 have h2:((i.toNat:Nat):Int)=i:=by omega
 rw [h1,evUp,evAt,h2,he,if_pos hk,List.append_nil]
theorem Q3e (s9 l9:Int) (l:List Did):∀ n,(evUp s9 l9 l n).length≤n
 | 0=>Nat.le_refl _
 | n+1=>by
   have:=Q3e s9 l9 l n
   rw [evUp,List.length_append]
   split<;>simp<;>omega
def evE (mem:List Int) (s9 l9 bu:Int) (cs:List Cor) (l:List Did):Int:=
 if chkE mem s9 l9 bu cs=0 then if rightsB l then 0 else 190 else chkE mem s9 l9 bu cs
def evL (mem:List Int) (s9 l9 bu:Int) (cs:List Cor) (l:List Did):List Ev:=
 if evE mem s9 l9 bu cs l=0 then evUp s9 l9 l l.length else []
theorem Qb8 {mem:List Int} {s9 l9 bu:Int} {cs:List Cor} (h:shapedB mem s9 l9 bu cs=true):0≤s9∧s9≤64∧0≤l9∧l9≤16∧s9+l9≤(mem.length:Int)∧(mem.length:Int)≤4096:=by
 unfold shapedB at h
 simp only [Bool.and_eq_true,decide_eq_true_eq] at h
 omega
theorem Qh6 {mem:List Int} {s9 l9 bu:Int} {cs:List Cor} (h:chkE mem s9 l9 bu cs=0):0≤s9∧s9≤64∧0≤l9∧l9≤16∧s9+l9≤(mem.length:Int)∧(mem.length:Int)≤4096:=by
 refine Qb8 (bu:=bu) (cs:=cs) ?_
 unfold chkE at h
 cases hs:shapedB mem s9 l9 bu cs with
 | true=>rfl
 | false=>rw [hs] at h;simp at h
theorem rng {l:List Did} (hr:rightsB l=true) {i:Int} (h0:0≤i) (h1:i<l.length):0≤(l.getD i.toNat default).addr∧(l.getD i.toNat default).addr<4096:=by
 have:=Gt (Q20 hr h0 h1);omega
theorem shr {mem:List Int} {s9 l9 bu:Int} {cs:List Cor} (h:chkE mem s9 l9 bu cs=0):0≤s9∧s9≤64∧0≤l9∧l9≤16:=by
 have:=Qh6 h;omega
end Go.Proofs.YtmaodngbpfjnnaaGreat
namespace Go.Proofs.YtmaodngbpfjnnaaGreat
open Go Go.Tx
theorem Yv {α:Type} [Inhabited α] {L:List α} {k:Nat} (h:k<L.length):L.take k++[L.getD k default]=L.take (k+1):=by
 rw [List.take_add_one,List.getD_eq_getElem?_getD,List.getElem?_eq_getElem h];rfl
theorem Q6g (s9 l9:Int) (l:List Did) {i:Nat}:∀ {n:Nat},i≤n→evUp s9 l9 l i <+: evUp s9 l9 l n
 | 0,h=>by rw [Nat.le_zero.1 h];exact List.prefix_refl _
 | n+1,h=>by
   by_cases e:i=n+1
   ·rw [e];exact List.prefix_refl _
   ·exact List.IsPrefix.trans (Q6g s9 l9 l W37) ⟨_,rfl⟩
theorem Qej {s9 l9:Int} {l:List Did} {i:Int} (h0:0≤i) (h1:i<l.length) (hk:¬ (evOf s9 l9 (l.getD i.toNat default) i).kind=0) :
 (evUp s9 l9 l i.toNat).length<(evUp s9 l9 l l.length).length∧(evUp s9 l9 l l.length).getD (evUp s9 l9 l i.toNat).length default=evOf s9 l9 (l.getD i.toNat default) i:=by
 have h2:=Q55 s9 l9 l h0 rfl hk
 obtain ⟨t,ht⟩:=Q6g s9 l9 l (show (i+1).toNat≤l.length by omega)
 rw [h2] at ht
 rw [← ht]
 refine ⟨by simp,?_⟩
 rw [List.append_assoc,List.getD_eq_getElem?_getD,List.getElem?_append_right (Nat.le_refl _)]
 simp
def thD (s9 l9:Int) (d:Did):Int:=if addrB d.kind&&decide (d.addr<s9+l9) then (if d.addr<s9 then d.addr else d.addr-s9) else 0
theorem Q8n {s9 l9:Int} {d:Did} {i:Int} (hs:0≤s9∧s9≤64∧0≤l9∧l9≤16) (hd:didB d=true) :
 0≤(evOf s9 l9 d i).kind∧(evOf s9 l9 d i).kind≤7 ∧
 (¬ (evOf s9 l9 d i).kind=0→(evOf s9 l9 d i).core=d.core∧(evOf s9 l9 d i).pos=i) ∧
 ((evOf s9 l9 d i).kind=1∨(evOf s9 l9 d i).kind=2∨(evOf s9 l9 d i).kind=3→(evOf s9 l9 d i).thing=thD s9 l9 d∧(evOf s9 l9 d i).word=d.word∧(evOf s9 l9 d i).put=d.put∧(evOf s9 l9 d i).own=d.own) ∧
 ((evOf s9 l9 d i).kind=4∨(evOf s9 l9 d i).kind=5→(evOf s9 l9 d i).thing=thD s9 l9 d∧(evOf s9 l9 d i).word=0∧(evOf s9 l9 d i).put=0∧(evOf s9 l9 d i).own=false) ∧
 ((evOf s9 l9 d i).kind=6→(evOf s9 l9 d i).thing=0∧(evOf s9 l9 d i).word=d.word∧(evOf s9 l9 d i).put=0∧(evOf s9 l9 d i).own=false) ∧
 ((evOf s9 l9 d i).kind=7→(evOf s9 l9 d i).thing=0∧(evOf s9 l9 d i).word=0∧(evOf s9 l9 d i).put=0∧(evOf s9 l9 d i).own=false):=by
 have hb:=Gt hd
 obtain ⟨kind,core,pc,addr,word,put,own⟩:=d
 simp only at hb
 have:kind=1∨kind=2∨kind=3∨kind=4∨kind=5∨kind=6∨kind=7∨kind=8:=by omega
 rcases this with rfl | rfl | rfl | rfl | rfl | rfl | rfl | rfl
 all_goals
  simp only [evOf,thD,noEv,addrB,didB,BL] at *
  (repeat' apply And.intro)<;>grind
end Go.Proofs.YtmaodngbpfjnnaaGreat
namespace Go.Proofs.YtmaodngbpfjnnaaGreat
open Go Go.Tx
end Go.Proofs.YtmaodngbpfjnnaaGreat
namespace Go.Proofs.YtmaodngbpfjnnaaGreat
open Go Go.Tx
theorem Q1j {mem:List Int} {s9 l9 bu:Int} {cs:List Cor} {l:List Did} (h:evE mem s9 l9 bu cs l=0):0≤s9∧s9≤64∧0≤l9∧l9≤16:=by
 unfold evE at h
 split at h
 ·rename_i hc;exact shr hc
 ·rename_i hc;exact absurd h hc
end Go.Proofs.YtmaodngbpfjnnaaGreat
namespace Go.Proofs.YtmaodngbpfjnnaaGreat
open Go Go.Tx
theorem Jw {mem:List Int} {s9 l9 bu:Int} {cs:List Cor} {l:List Did} (h:evE mem s9 l9 bu cs l=0):s9+l9≤(mem.length:Int):=by
 unfold evE at h
 split at h
 ·rename_i hc;have:=Qh6 hc;omega
 ·rename_i hc;exact absurd h hc
def askE (mem:List Int) (s9 l9 bu:Int) (cs:List Cor) (l:List Did) (cl:List Cls):Int:=
 if evE mem s9 l9 bu cs l=0 then if (cl.length:Int)=s9 then 0 else 210 else evE mem s9 l9 bu cs l
theorem Jy {mem:List Int} {s9 l9 bu:Int} {cs:List Cor} {l:List Did} {cl:List Cls} (h:askE mem s9 l9 bu cs l cl=0):evE mem s9 l9 bu cs l=0∧(cl.length:Int)=s9:=by
 unfold askE at h
 split at h
 ·rename_i h1
  split at h
  ·rename_i h2;exact ⟨h1,h2⟩
  ·simp at h
 ·rename_i h1;exact absurd h h1
end Go.Proofs.YtmaodngbpfjnnaaGreat
namespace Go.Proofs.YtmaodngbpfjnnaaGreat
open Go Go.Tx
end Go.Proofs.YtmaodngbpfjnnaaGreat
namespace Go.Proofs.YtmaodngbpfjnnaaGreat
open Go Go.Tx
end Go.Proofs.YtmaodngbpfjnnaaGreat
namespace Go.Proofs.YtmaodngbpfjnnaaGreat
open Go Go.Tx
end Go.Proofs.YtmaodngbpfjnnaaGreat
namespace Go.Proofs.YtmaodngbpfjnnaaGreat
open Go Go.Tx
end Go.Proofs.YtmaodngbpfjnnaaGreat
namespace Go.Proofs.YtmaodngbpfjnnaaGreat
open Go Go.Tx
end Go.Proofs.YtmaodngbpfjnnaaGreat
namespace Go.Proofs.YtmaodngbpfjnnaaGreat
open Go Go.Tx
theorem Qjf (k:Nat) {i:Int} (h0:0≤i) (h1:i<k):(List.replicate i.toNat (-1:Int)++List.replicate (k-i.toNat) 0).set i.toNat (-1)=List.replicate (i+1).toNat (-1)++List.replicate (k-(i+1).toNat) 0:=by
 rw [List.set_append_right _ _ W148,List.length_replicate,Nat.sub_self,show k-i.toNat=(k-(i+1).toNat)+1 by omega,List.replicate_succ,List.set_cons_zero,show (i+1).toNat=i.toNat+1 by omega,List.replicate_succ',List.append_assoc]
 rfl
end Go.Proofs.YtmaodngbpfjnnaaGreat
namespace Go.Proofs.YtmaodngbpfjnnaaGreat
open Go Go.Tx
theorem Qku:bits .and .u64 1 4294967295=1:=by decide
theorem Qkv {n:Int} (h0:0≤n) (h1:n<4294967296):bits .and .u64 n 4294967295=n:=by
 have h:=bits_mask .u64 63 W131 (fun n h0 h1=>by rw [IntKind.wrap_u64];omega) 32 W131 n W37 W37
 have e:((2:Int) ^ 32-1)=4294967295:=by decide
 have e2:((2:Int) ^ 32)=4294967296:=by decide
 rw [e,e2] at h
 rw [h]
 omega
theorem Qkw:bits .and .u64 0 4294967295=0:=by decide
theorem Qn0:shrI .u64 0 32=0:=by decide
theorem Qn1:shrI .u64 1 32=0:=by decide
theorem Qn2 {n:Int} (h0:0≤n) (h1:n<4294967296):shrI .u64 n 32=0:=by
 unfold shrI
 have e:(2:Int) ^ min (Int.toNat 32) IntKind.u64.bits=4294967296:=by decide
 rw [e,Int.fdiv_eq_ediv_of_nonneg _ W131]
 omega
def repL (k n t:Int):List Int:=List.replicate k.toNat t++List.replicate (n-k).toNat 0
theorem Ga {k n t:Int} (h0:0≤k) (h1:k≤n):(repL k n t).length=n.toNat:=by
 unfold repL;rw [List.length_append,List.length_replicate,List.length_replicate];omega
theorem Q3f {k n t:Int} (i:Nat):(repL k n t).getD i 0=if i<k.toNat then t else 0:=by
 unfold repL
 rw [List.getD_eq_getElem?_getD]
 split
 ·rename_i h
  rw [List.getElem?_append_left (by rw [List.length_replicate];exact h),List.getElem?_replicate,if_pos h];rfl
 ·rename_i h
  rw [List.getElem?_append_right (by rw [List.length_replicate];omega),List.getElem?_replicate]
  split<;>rfl
theorem Qh7 {n t:Int}:repL n n t=List.replicate n.toNat t:=by
 unfold repL;rw [Int.sub_self];simp
theorem Qjg {n t:Int}:∀ i,i<(repL 1 n t).length→i64T ((repL 1 n t).getD i 0)=fun j=>if i < [t].length then i64T ([t].getD i 0) j else valT (Value.int IntKind.i64 (0:Int)).cells.toList j:=by
 intro i hi
 funext j
 rw [Q3f]
 by_cases h:i<1
 ·obtain rfl:i=0:=by omega
  rfl
 ·rw [if_neg (by show ¬ i<1;omega),if_neg (by show ¬ i<1;omega)]
  exact congrFun (Ja 1 0 W148) j
theorem Qh8 {k n t:Int} (h0:1≤k) (h1:k≤n) (c:Nat) (hc:c=(k.toNat-0).min (n.toNat-k.toNat)):∀ i,i<(repL (k+(c:Int)) n t).length→i64T ((repL (k+(c:Int)) n t).getD i (0:Int)) =
 fun j=>if k.toNat≤i∧i<k.toNat+c then i64T ((repL k n t).getD (0+(i-k.toNat)) (0:Int)) j else i64T ((repL k n t).getD i (0:Int)) j:=by
 intro i _
 have c1:c≤k.toNat:=by rw [hc];exact Nat.le_trans (Nat.min_le_left _ _) W37
 have c2:c≤n.toNat-k.toNat:=by rw [hc];exact Nat.min_le_right _ _
 have e:(k+(c:Int)).toNat=k.toNat+c:=by omega
 funext j
 rw [Q3f,Q3f,Q3f,e]
 by_cases a:k.toNat≤i∧i<k.toNat+c
 ·rw [if_pos a,if_pos a.2,if_pos W37]
 ·rw [if_neg a]
  by_cases b:i<k.toNat
  ·rw [if_pos b,if_pos W37]
  ·rw [if_neg b,if_neg W37]
end Go.Proofs.YtmaodngbpfjnnaaGreat
namespace Go.Proofs.YtmaodngbpfjnnaaGreat
open Go Go.Tx
theorem Qch {gs:List Grf} {cl:List Cls} {t most:Int} {m0:Mch}:∀ {fu:Nat} {k:Int} {c:Mch},0≤k→k≤most→0≤most→(advGo gs cl t most m0 fu k c).n≤most
 | 0,k,c,h0,h,hm=>hm
 | fu+1,k,c,h0,h,hm=>by
   unfold advGo
   split
   ·exact h
   split
   ·exact hm
   split
   ·exact hm
   split
   ·show k+1≤most;omega
   ·exact Qch W37 W37 hm
theorem Qjh {gs:List Grf} {cl:List Cls} {t most:Int} {m0:Mch}:∀ {fu:Nat} {k:Int} {c:Mch},(advGo gs cl t most m0 fu k c).err=0→k≤(advGo gs cl t most m0 fu k c).n:=fun h=>by
 obtain ⟨j,e,_⟩:=Qcd h
 omega
theorem Jz {ns:Nat} {gs:List Grf} {cl:List Cls} {t most:Int} {m:Mch} (h:(advM ns gs cl t most m).err=0):1≤(advM ns gs cl t most m).n:=by
 unfold advM at h ⊢
 split at h
 ·cases h
 ·rename_i h1
  rw [if_neg h1]
  split at h
  ·cases h
  ·rename_i h2
   rw [if_neg h2]
   unfold advGo at h ⊢
   rw [if_neg h2] at h ⊢
   split at h
   ·exact absurd h (by assumption)
   rename_i h3
   rw [if_neg h3]
   split at h
   ·cases h
   rename_i h4
   rw [if_neg h4]
   split at h
   ·rename_i h5;rw [if_pos h5];exact Int.le_refl _
   ·rename_i h5;rw [if_neg h5];exact Qjh h
theorem Q1k {ns:Nat} {gs:List Grf} {cl:List Cls} {t most:Int} {m:Mch}:(advM ns gs cl t most m).n≤1048576:=by
 unfold advM
 split
 ·show (0:Int)≤_;omega
 rename_i h1
 have z:=Q0k (ns:=ns) (cl:=cl) (t:=t) (most:=most) (m:=m) W133
 split
 ·show (0:Int)≤_;omega
 ·exact Int.le_trans (Qch (Int.le_refl _) z.2.2.2.1 z.2.2.2.1) z.2.2.2.2
theorem Qek {ns nl:Nat} {gs:List Grf} {cl:List Cls} {t most:Int} {m:Mch} (hw:UnitW gs) (hQ:MchQ ns nl gs m) (h:(advM ns gs cl t most m).err=0):((advM ns gs cl t most m).m.pr.length:Int)≤m.pr.length+(advM ns gs cl t most m).n:=by
 obtain ⟨j,e1,e2⟩:=Qeh h
 have z:=(Qcf hw hQ e2).2
 rw [List.length_replicate] at z
 omega
theorem Qji {α:Type} (d:α) (tc:α→Nat→TC) (a b:List α):∀ i,i<(a++b).length→tc ((a++b).getD i d)=fun j=>if i<a.length then tc (a.getD i d) j else tc (b.getD (i-a.length) d) j:=by
 intro i hi
 funext j
 split
 ·rename_i h;rw [Gi d a b h]
 ·rename_i h
  congr 1
  rw [List.getD_eq_getElem?_getD,List.getD_eq_getElem?_getD,List.getElem?_append_right W37]
theorem Q2q {ns:Nat} {gs:List Grf} {cl:List Cls} {most t:Int} {x:Tel} (h:(telAdv ns gs cl most t x).err=0):(advM ns gs cl t most x.m).err=0:=by
 unfold telAdv at h
 split at h
 ·cases h
 ·rename_i h1;simpa using h1
def begT (sh lk:List Dcl) (gs:List Grf) (cl:List Cls) (most:Int):Int:=
 if ¬ (chkU sh lk gs).1=0 then (chkU sh lk gs).1 else if ¬ (cl.length:Int)=(sh.length:Int) then 210 else if most<1∨1048576<most then 2 else 0
theorem Qld {sh lk:List Dcl} {gs:List Grf} {cl:List Cls} {most:Int} (h:¬ (chkU sh lk gs).1=0):begT sh lk gs cl most=(chkU sh lk gs).1:=by unfold begT;rw [if_pos h]
theorem Zk {sh lk:List Dcl} {gs:List Grf} {cl:List Cls} {most:Int} (h:begT sh lk gs cl most=0):(chkU sh lk gs).1=0∧(cl.length:Int)=(sh.length:Int)∧1≤most∧most≤1048576:=by
 unfold begT at h
 split at h
 ·exact absurd h (by assumption)
 rename_i h1
 split at h
 ·cases h
 rename_i h2
 split at h
 ·cases h
 rename_i h3
 refine ⟨by simpa using h1,by simpa using h2,by omega,by omega⟩
end Go.Proofs.YtmaodngbpfjnnaaGreat
namespace Go.Proofs.YtmaodngbpfjnnaaGreat
open Go Go.Tx
theorem Qa7 {ns:Nat} {gs:List Grf} {cl:List Cls} {most t:Int} {x:Tel} (h:(telAdv ns gs cl most t x).err=0):((telAdv ns gs cl most t x).st.length:Int)=x.st.length+(advM ns gs cl t most x.m).n∧(telAdv ns gs cl most t x).st.length≤1048576∧(telAdv ns gs cl most t x).m=(advM ns gs cl t most x.m).m:=by
 have h0:=Q2q h
 unfold telAdv at h ⊢
 rw [if_neg (by simpa using h0)] at h ⊢
 split at h
 ·cases h
 ·rename_i h2
  rw [if_neg h2]
  have z:=Jz h0
  refine ⟨?_,?_,rfl⟩
  ·show ((x.st++List.replicate _ _).length:Int)=_
   rw [List.length_append,List.length_replicate];omega
  ·show (x.st++List.replicate _ _).length≤_
   rw [List.length_append,List.length_replicate];omega
structure FolJ (ns nl:Nat) (gs:List Grf) (cl:List Cls) (most:Int) (l:List Int) (x0:Tel) (k:Int) (x:Tel):Prop where
 q:MchQ ns nl gs x.m
 lo:0≤k
 hi:k≤l.length
 pr:x.m.pr.length≤x.st.length
 st:x.st.length≤1048576
 eq:telGo ns gs cl most l x0=telGo ns gs cl most (l.drop k.toNat) x
section
variable {ns nl:Nat} {gs:List Grf} {cl:List Cls} {most:Int} {l:List Int} {x0 x:Tel} {k:Int}
theorem FolJ.start (hQ:MchQ ns nl gs x0.m) (h:x0.m.pr.length≤x0.st.length) (h2:x0.st.length≤1048576):FolJ ns nl gs cl most l x0 0 x0:=⟨hQ,Int.le_refl _,by omega,h,h2,rfl⟩
theorem FolJ.next (hw:UnitW gs) (h:FolJ ns nl gs cl most l x0 k x) (hk:decide (k<(l.length:Int))=true) (he:(telAdv ns gs cl most (l.getD k.toNat 0) x).err=0) :
 FolJ ns nl gs cl most l x0 (k+1) ⟨0,(telAdv ns gs cl most (l.getD k.toNat 0) x).m,(telAdv ns gs cl most (l.getD k.toNat 0) x).st⟩:=by
 have hk:=of_decide_eq_true hk
 obtain ⟨e1,e2,e3⟩:=Qa7 he
 have z:=Qek hw h.q (Q2q he)
 have z1:=h.pr
 have z2:=h.lo
 refine ⟨?_,by omega,by omega,?_,e2,?_⟩
 ·show MchQ ns nl gs (telAdv ns gs cl most (l.getD k.toNat 0) x).m
  rw [e3];exact Qh5 hw h.q
 ·show (telAdv ns gs cl most (l.getD k.toNat 0) x).m.pr.length≤(telAdv ns gs cl most (l.getD k.toNat 0) x).st.length
  rw [e3];omega
 ·rw [h.eq,Q1z 0 h.lo hk]
  conv=>lhs;unfold telGo
  rw [if_pos he]
  congr 1
  generalize telAdv ns gs cl most (l.getD k.toNat 0) x=R at he
  cases R
  cases he
  rfl
theorem FolJ.err (h:FolJ ns nl gs cl most l x0 k x) (hk:decide (k<(l.length:Int))=true) (he:¬ (telAdv ns gs cl most (l.getD k.toNat 0) x).err=0):telGo ns gs cl most l x0=telAdv ns gs cl most (l.getD k.toNat 0) x:=by
 have hk:=of_decide_eq_true hk
 rw [h.eq,Q1z 0 h.lo hk]
 unfold telGo
 rw [if_neg he]
theorem FolJ.done (h:FolJ ns nl gs cl most l x0 k x) (hk:decide (k<(l.length:Int))=false):telGo ns gs cl most l x0=⟨0,x.m,x.st⟩:=by
 have hk:=of_decide_eq_false hk
 have z:=h.lo
 rw [h.eq,List.drop_eq_nil_of_le W37]
 rfl
end
def flwE (sh lk:List Dcl) (gs:List Grf) (cl:List Cls) (l:List Int) (most:Int):Int:=
 if ¬ begT sh lk gs cl most=0 then begT sh lk gs cl most else (telGo sh.length gs cl most l (Tel.mk 0 (newM sh lk gs) [])).err
theorem Qh9 {sh lk:List Dcl} {gs:List Grf} {cl:List Cls} {l:List Int} {most:Int} (h:¬ begT sh lk gs cl most=0):flwE sh lk gs cl l most=begT sh lk gs cl most:=by unfold flwE;rw [if_pos h]
theorem Q8o {sh lk:List Dcl} {gs:List Grf} {cl:List Cls} {l:List Int} {most:Int} (h:begT sh lk gs cl most=0):flwE sh lk gs cl l most=(telGo sh.length gs cl most l (Tel.mk 0 (newM sh lk gs) [])).err:=by unfold flwE;rw [if_neg W144]
theorem Q0l {sh lk:List Dcl} {gs:List Grf} {cl:List Cls} {l:List Int} {most:Int} (h:flwE sh lk gs cl l most=0):begT sh lk gs cl most=0∧(telGo sh.length gs cl most l (Tel.mk 0 (newM sh lk gs) [])).err=0:=by
 unfold flwE at h
 split at h
 ·exact absurd h (by assumption)
 ·rename_i h1;exact ⟨by simpa using h1,h⟩
theorem Qel {ns nl:Nat} {gs:List Grf} {cl:List Cls} {most:Int} (hw:UnitW gs):∀ {l:List Int} {x:Tel},MchQ ns nl gs x.m→x.m.pr.length≤x.st.length→x.st.length≤1048576→(telGo ns gs cl most l x).err=0 →
 MchQ ns nl gs (telGo ns gs cl most l x).m∧(telGo ns gs cl most l x).m.pr.length≤(telGo ns gs cl most l x).st.length∧(telGo ns gs cl most l x).st.length≤1048576
 | [],x,hQ,hp,hs,h=>⟨hQ,hp,hs⟩
 | t::r,x,hQ,hp,hs,h=>by
   unfold telGo at h ⊢
   split at h
   ·rename_i he
    rw [if_pos he]
    obtain ⟨e1,e2,e3⟩:=Qa7 he
    have z:=Qek hw hQ (Q2q he)
    exact Qel hw (by rw [e3];exact Qh5 hw hQ) (by rw [e3];omega) e2 h
   ·rename_i he
    exact absurd h he
noncomputable def finT (sh lk:List Dcl) (gs:List Grf) (cl:List Cls) (l:List Int) (most:Int):Tel:=telGo sh.length gs cl most l (Tel.mk 0 (Mch.mk (newM sh lk gs).pos (newM sh lk gs).sl (newM sh lk gs).mem (newM sh lk gs).ho []) [])
theorem Q3g {sh lk:List Dcl} {gs:List Grf} {cl:List Cls} {l:List Int} {most:Int} (hw:UnitW gs) (hB:begT sh lk gs cl most=0) (hF:(finT sh lk gs cl l most).err=0) :
 MchQ sh.length lk.length gs (finT sh lk gs cl l most).m∧(finT sh lk gs cl l most).m.pr.length≤(finT sh lk gs cl l most).st.length∧(finT sh lk gs cl l most).st.length≤1048576:=
 Qel (x:=Tel.mk 0 (newM sh lk gs) []) hw (Qfk (Zk hB).1) (Nat.le_refl _) (Nat.zero_le _) hF
theorem Qha {sh lk:List Dcl} {gs:List Grf} {cl:List Cls} {l:List Int} {most:Int} (hw:UnitW gs) (hB:begT sh lk gs cl most=0) (hF:(finT sh lk gs cl l most).err=0):(finT sh lk gs cl l most).m.pr.length≤4194304:=by
 have z:=(Q3g hw hB hF).2
 omega
theorem Prt.eq_iff (x y:Prt):(x=y)↔(x.thread=y.thread∧x.word=y.word):=by
 cases x;cases y;simp
theorem Qfm {α:Type} (d:α) (tl:α→List TC) (l:List α) (size:Nat) (ts:List TC) (h:((List.range l.length).map fun i=>(List.range size).map fun j=>(nth ts (i * size+j)).getD TC.any)=l.map tl):∀ i,i<l.length→nthT (tl (l.getD i d))=rowTC size ts i:=by
 intro i hi
 have:=congrArg (fun x=>x[i]?) h
 simp only [List.getElem?_map,List.getElem?_range hi,List.getElem?_eq_getElem hi,Option.map_some,Option.some.injEq] at this
 rw [List.getD_eq_getElem?_getD,List.getElem?_eq_getElem hi,Option.getD_some,← this]
 funext j
 unfold nthT rowTC
 rw [Qp,List.getElem?_map]
 by_cases hj:j<size
 ·rw [List.getElem?_range hj,show Nat.blt j size=true from by simp only [Nat.blt_eq];exact hj]
  simp only [Option.map_some]
  cases nth ts (i * size+j)<;>rfl
 ·rw [List.getElem?_eq_none W156,show Nat.blt j size=false from by
   cases e:Nat.blt j size with
   | false=>rfl
   | true=>simp only [Nat.blt_eq] at e;exact absurd e hj]
  rfl
end Go.Proofs.YtmaodngbpfjnnaaGreat
namespace Go.Proofs.YtmaodngbpfjnnaaGreat
open Go Go.Tx
noncomputable def flwS (sh lk:List Dcl) (gs:List Grf) (cl:List Cls) (l:List Int) (most:Int):List Int:=if flwE sh lk gs cl l most=0 then (finT sh lk gs cl l most).st else []
noncomputable def flwP (sh lk:List Dcl) (gs:List Grf) (cl:List Cls) (l:List Int) (most:Int):List Prt:=if flwE sh lk gs cl l most=0 then (finT sh lk gs cl l most).m.pr else []
noncomputable def flwM (sh lk:List Dcl) (gs:List Grf) (cl:List Cls) (l:List Int) (most:Int):List Int:=if flwE sh lk gs cl l most=0 then (finT sh lk gs cl l most).m.mem else []
noncomputable def flwD (sh lk:List Dcl) (gs:List Grf) (cl:List Cls) (l:List Int) (most:Int):Bool:=if flwE sh lk gs cl l most=0 then endM gs (finT sh lk gs cl l most).m.pos (finT sh lk gs cl l most).m.ho else false
end Go.Proofs.YtmaodngbpfjnnaaGreat
noncomputable section
namespace Go.Proofs.YtmaodngbpfjnnaaGreat
open Go Go.Tx
theorem K {α:Sort _} {a b:α} (h:a=b:=by kernel_rfl):a=b:=h
theorem R {p:Prop} (h:p:=by repeat' first | refine And.intro ?_ ?_ | exact rfl | exact fun _ _=>rfl | trivial):p:=h
end Go.Proofs.YtmaodngbpfjnnaaGreat
noncomputable section
namespace Go.Proofs.YtmaodngbpfjnnaaGreat
open Go Go.Tx
theorem Qhb (k:Int):Ctr Tryz.prog 75 [] [.c (.i .u8 k)]
 (Det (.c (.b (twoB k))) []):=by
 refine Ctr.intro [] Tryz.func75 K K ?_
 exact Q1 [] [0] [twoB k=(decide (1≤k)&&decide (k≤16))] W159
theorem Qem (k:Int):Ctr Tryz.prog 120 [] [.c (.i .u8 k)]
 (Det (.c (.b (opB k))) []):=by
 refine Ctr.intro [] Tryz.func120 K K ?_
 exact Q1 [] [0] [opB k=(decide (0<k)&&decide (k<19))] (by simp only [Conj,opB] at *<;>grind)
theorem Gj (k:Int):Ctr Tryz.prog 96 [] [.c (.i .u8 k)]
 (Det (.c (.b (twoB k))) []):=by
 refine Ctr.intro [] Tryz.func96 K K ?_
 refine Q2 Q3u (Qem k) [] ?_
 exact Q1 [] [0] [twoB k=(opB k&&!decide (k=17)&&!decide (k=18))] W159
theorem Qn3 (k:Int):Ctr Tryz.prog 74 [] [.c (.i .u8 k)]
 (Det (.tup [(false,[.b (useD k)]),(false,[.b (useA k)]),(false,[.b (useAddr k)]),(false,[.b (useTo k)])]) []):=by
 refine Ctr.intro [] Tryz.func74 K K ?_
 refine Q0 (decide (k=1)) (fun h1=>?_) (fun h1=>?_)
 ·exact Q1 [] [0,1,2,3] [useD k=true,useA k=false,useAddr k=false,useTo k=false] W112
 ·refine tz [6,5,4,3,2] ?_
  refine Q0 (decide (k=2)) (fun h2=>?_) (fun h2=>?_)
  ·exact Q1 [] [0,1,2,3] [useD k=true,useA k=true,useAddr k=false,useTo k=false] W112
  ·refine tz [6,5,4,3,2] ?_
   refine Q0 (decide (k=3)) (fun h3=>?_) (fun h3=>?_)
   ·exact Q1 [] [0,1,2,3] [useD k=true,useA k=false,useAddr k=true,useTo k=false] W112
   ·refine tz [11,6,5,4,3,2] ?_
    refine Q0 (decide (k=5)) (fun h4=>?_) (fun h4=>?_)
    ·exact Q1 [] [0,1,2,3] [useD k=true,useA k=false,useAddr k=true,useTo k=false] W112
    ·refine tz [6,5,4,3,2] ?_
     refine Q0 (decide (k=4)) (fun h5=>?_) (fun h5=>?_)
     ·exact Q1 [] [0,1,2,3] [useD k=false,useA k=true,useAddr k=true,useTo k=false] W112
     ·refine tz [6,5,4,3,2] ?_
      refine Q0 (decide (k=7)) (fun h6=>?_) (fun h6=>?_)
      ·exact Q1 [] [0,1,2,3] [useD k=false,useA k=true,useAddr k=false,useTo k=false] W112
      ·refine tz [6,5,4,3,2] ?_
       refine Q0 (decide (k=8)) (fun h7=>?_) (fun h7=>?_)
       ·exact Q1 [] [0,1,2,3] [useD k=false,useA k=false,useAddr k=false,useTo k=true] W112
       ·refine tz [6,5,4,3,2] ?_
        refine Q0 (decide (k=9)) (fun h8=>?_) (fun h8=>?_)
        ·exact Q1 [] [0,1,2,3] [useD k=false,useA k=true,useAddr k=false,useTo k=true] W112
        ·exact Q1 [] [0,1,2,3] [useD k=false,useA k=false,useAddr k=false,useTo k=false] W112
theorem Qfn (k:Int):Ctr Tryz.prog 76 [] [.c (.i .i64 k)]
 (Det (.c (.b (decide (0≤k)&&decide (k<16)))) []):=by
 refine Ctr.intro [] Tryz.func76 K K ?_
 exact Q1
theorem Q6h (k:Int):Ctr Tryz.prog 99 [] [.c (.i .u8 k)]
 (Det (.c (.b (digitB k))) []):=by
 refine Ctr.intro [] Tryz.func99 K K ?_
 exact Q1 [] [0] [digitB k=(decide (48≤k)&&decide (k≤57))] (by simp only [Conj,digitB] at *<;>grind)
theorem Qci (k:Int):Ctr Tryz.prog 101 [] [.c (.i .u8 k)]
 (Det (.c (.b (letterB k))) []):=by
 refine Ctr.intro [] Tryz.func101 K K ?_
 exact Q1 [] [0] [letterB k=(decide (97≤k)&&decide (k≤122)||decide (65≤k)&&decide (k≤90)||decide (k=95))] (by simp only [Conj,letterB] at *<;>grind)
theorem Qen (k:Int):Ctr Tryz.prog 91 [] [.c (.i .u8 k)]
 (Det (.c (.b (digitB k))) []):=by
 refine Ctr.intro [] Tryz.func91 K K ?_
 exact Q1 [] [0] [digitB k=(decide (48≤k)&&decide (k≤57))] (by simp only [Conj,digitB] at *<;>grind)
theorem Qjj (k:Int):Ctr Tryz.prog 93 [] [.c (.i .u8 k)]
 (Det (.c (.b (letterB k))) []):=by
 refine Ctr.intro [] Tryz.func93 K K ?_
 exact Q1 [] [0] [letterB k=(decide (97≤k)&&decide (k≤122)||decide (65≤k)&&decide (k≤90)||decide (k=95))] (by simp only [Conj,letterB] at *<;>grind)
theorem Q8p (d:Did) (hk:0≤d.kind):Ctr Tryz.prog 51 [] [.agg d.cs]
 (Det (.c (.b (didB d))) []):=by
 refine Ctr.intro [] Tryz.func51 K K ?_
 refine Q0 (decide (d.kind=0)||decide (9≤d.kind)||decide (d.core<0)||decide (8≤d.core)||decide (d.pc<0)||decide (16384≤d.pc)||decide (d.addr<0)||decide (4096≤d.addr)) (fun h1=>?_) (fun h1=>?_)
 ·exact Q1 [] [0] [didB d=false] W71
 ·exact Q1 [] [0] [didB d=((decide (d.kind=2)||decide (d.kind=3)||decide (d.kind=4)||decide (d.kind=8)||decide (d.addr=0))&&(decide (d.kind=2)||decide (d.kind=3)||decide (d.kind=4)||decide (d.kind=8)||decide (d.kind=6)||decide (d.word=0))&&(decide (d.kind=4)||decide (d.put=0))&&(decide (d.kind=2)||!d.own))] W71
end Go.Proofs.YtmaodngbpfjnnaaGreat
end
noncomputable section
namespace Go.Proofs.YtmaodngbpfjnnaaGreat
open Go Go.Tx
theorem Qfo (s:ByteArray):Ctr Tryz.prog 100 [] [.c (.v (.string s))]
 (Det (.c (.b (wordB s))) []):=by
 refine Ctr.intro [] Tryz.func100 K K ?_
 refine Q0 (decide (s={ data:=#[115,104,97,114,101,100] })) (fun h1=>?_) (fun h1=>?_)
 ·exact Q1 [] [0] [wordB s=true] W88
 ·refine tz [4,3,2] ?_
  refine Q0 (decide (s={ data:=#[108,111,99,107] })) (fun h2=>?_) (fun h2=>?_)
  ·exact Q1 [] [0] [wordB s=true] W88
  ·refine tz [4,3,2] ?_
   refine Q0 (decide (s={ data:=#[116,104,114,101,97,100] })) (fun h3=>?_) (fun h3=>?_)
   ·exact Q1 [] [0] [wordB s=true] W88
   ·refine tz [4,3,2] ?_
    refine Q0 (decide (s={ data:=#[108,111,99,97,108] })) (fun h4=>?_) (fun h4=>?_)
    ·exact Q1 [] [0] [wordB s=true] W88
    ·refine tz [4,3,2] ?_
     refine Q0 (decide (s={ data:=#[105,102] })) (fun h5=>?_) (fun h5=>?_)
     ·exact Q1 [] [0] [wordB s=true] W88
     ·refine tz [4,3,2] ?_
      refine Q0 (decide (s={ data:=#[101,108,115,101] })) (fun h6=>?_) (fun h6=>?_)
      ·exact Q1 [] [0] [wordB s=true] W88
      ·refine tz [4,3,2] ?_
       refine Q0 (decide (s={ data:=#[119,104,105,108,101] })) (fun h7=>?_) (fun h7=>?_)
       ·exact Q1 [] [0] [wordB s=true] W88
       ·refine tz [4,3,2] ?_
        refine Q0 (decide (s={ data:=#[112,114,105,110,116] })) (fun h8=>?_) (fun h8=>?_)
        ·exact Q1 [] [0] [wordB s=true] W88
        ·refine tz [4,3,2] ?_
         refine Q0 (decide (s={ data:=#[115,107,105,112] })) (fun h9=>?_) (fun h9=>?_)
         ·exact Q1 [] [0] [wordB s=true] W88
         ·refine tz [4,3,2] ?_
          refine Q0 (decide (s={ data:=#[115,119,97,112] })) (fun h10=>?_) (fun h10=>?_)
          ·exact Q1 [] [0] [wordB s=true] W88
          ·exact Q1 [] [0] [wordB s=false] W88
theorem Qn4 (s:ByteArray):Ctr Tryz.prog 92 [] [.c (.v (.string s))]
 (Det (.c (.b (wordB s))) []):=by
 refine Ctr.intro [] Tryz.func92 K K ?_
 refine Q0 (decide (s={ data:=#[115,104,97,114,101,100] })) (fun h1=>?_) (fun h1=>?_)
 ·exact Q1 [] [0] [wordB s=true] W88
 ·refine tz [4,3,2] ?_
  refine Q0 (decide (s={ data:=#[108,111,99,107] })) (fun h2=>?_) (fun h2=>?_)
  ·exact Q1 [] [0] [wordB s=true] W88
  ·refine tz [4,3,2] ?_
   refine Q0 (decide (s={ data:=#[116,104,114,101,97,100] })) (fun h3=>?_) (fun h3=>?_)
   ·exact Q1 [] [0] [wordB s=true] W88
   ·refine tz [4,3,2] ?_
    refine Q0 (decide (s={ data:=#[108,111,99,97,108] })) (fun h4=>?_) (fun h4=>?_)
    ·exact Q1 [] [0] [wordB s=true] W88
    ·refine tz [4,3,2] ?_
     refine Q0 (decide (s={ data:=#[105,102] })) (fun h5=>?_) (fun h5=>?_)
     ·exact Q1 [] [0] [wordB s=true] W88
     ·refine tz [4,3,2] ?_
      refine Q0 (decide (s={ data:=#[101,108,115,101] })) (fun h6=>?_) (fun h6=>?_)
      ·exact Q1 [] [0] [wordB s=true] W88
      ·refine tz [4,3,2] ?_
       refine Q0 (decide (s={ data:=#[119,104,105,108,101] })) (fun h7=>?_) (fun h7=>?_)
       ·exact Q1 [] [0] [wordB s=true] W88
       ·refine tz [4,3,2] ?_
        refine Q0 (decide (s={ data:=#[112,114,105,110,116] })) (fun h8=>?_) (fun h8=>?_)
        ·exact Q1 [] [0] [wordB s=true] W88
        ·refine tz [4,3,2] ?_
         refine Q0 (decide (s={ data:=#[115,107,105,112] })) (fun h9=>?_) (fun h9=>?_)
         ·exact Q1 [] [0] [wordB s=true] W88
         ·refine tz [4,3,2] ?_
          refine Q0 (decide (s={ data:=#[115,119,97,112] })) (fun h10=>?_) (fun h10=>?_)
          ·exact Q1 [] [0] [wordB s=true] W88
          ·exact Q1 [] [0] [wordB s=false] W88
theorem Q9g (i:Ins) (code memory:Int) (hk:0≤i.kind∧0≤i.op):Ctr Tryz.prog 50 [] [.agg i.cs,.c (.i .i64 code),.c (.i .i64 memory)]
 (Det (.c (.b (insB i code memory))) []):=by
 refine Ctr.intro [] Tryz.func50 K K ?_
 refine Q0 (decide (i.kind≤0)||decide (11≤i.kind)||decide (i.from_<0)||decide (4096<i.from_)) (fun h1=>?_) (fun h1=>?_)
 ·exact Q1 [] [0] [insB i code memory=false] W66
 ·refine tz [6,3,1,2] ?_
  refine Q2 Q5q (Qn3 i.kind) [] ?_
  refine tz [33,6,3,1,2] ?_
  refine tG Zn (Qhb i.op) [] ?_
  refine tz [44,41,10,9,8,7,6,3,1,2] ?_
  refine Q0 (decide (i.kind=2)&&(decide (i.op≤0)||decide (19≤i.op))) (fun h2=>?_) (fun h2=>?_)
  ·exact Q1 [] [0] [insB i code memory=false] W66
  ·refine tz [46,11,10,9,8,7,6,3,1,2] ?_
   refine Q0 (!decide (i.kind=2)&&!decide (i.op=0)) (fun h3=>?_) (fun h3=>?_)
   ·exact Q1 [] [0] [insB i code memory=false] W66
   ·refine tz [11,10,9,8,7,6,3,1,2] ?_
    refine tG Gz (Qfn i.d) [] ?_
    refine tz [73,70,11,10,9,8,7,6,3,1,2] ?_
    refine Q0 (useD i.kind&&!(decide (0≤i.d)&&decide (i.d<16))) (fun h4=>?_) (fun h4=>?_)
    ·exact Q1 [] [0] [insB i code memory=false] W66
    ·refine tz [68,11,10,9,8,7,6,3,1,2] ?_
     refine Q0 (!useD i.kind&&!decide (i.d=0)) (fun h5=>?_) (fun h5=>?_)
     ·exact Q1 [] [0] [insB i code memory=false] W66
     ·refine tz [68,11,10,9,8,6,3,1,2] ?_
      refine tG Gz (Qfn i.a) [] ?_
      refine tz [87,84,68,11,10,9,8,6,3,1,2] ?_
      refine Q0 (useA i.kind&&!(decide (0≤i.a)&&decide (i.a<16))) (fun h6=>?_) (fun h6=>?_)
      ·exact Q1 [] [0] [insB i code memory=false] W66
      ·refine tz [68,11,10,9,8,6,3,1,2] ?_
       refine Q0 (!useA i.kind&&!decide (i.a=0)) (fun h7=>?_) (fun h7=>?_)
       ·exact Q1 [] [0] [insB i code memory=false] W66
       ·refine tz [68,11,10,9,6,3,1,2] ?_
        refine tG Gz (Qfn i.b) [] ?_
        refine tz [101,98,68,11,10,9,6,3,1,2] ?_
        refine Q0 (decide (i.kind=2)&&twoB i.op&&!(decide (0≤i.b)&&decide (i.b<16))) (fun h8=>?_) (fun h8=>?_)
        ·exact Q1 [] [0] [insB i code memory=false] W66
        ·refine tz [68,11,10,9,6,3,1,2] ?_
         refine Q0 (!(decide (i.kind=2)&&twoB i.op)&&!decide (i.b=0)) (fun h9=>?_) (fun h9=>?_)
         ·exact Q1 [] [0] [insB i code memory=false] W66
         ·refine tz [10,9,6,3,1,2] ?_
          refine Q0 (useAddr i.kind&&(decide (i.addr<0)||decide (memory≤i.addr))) (fun h10=>?_) (fun h10=>?_)
          ·exact Q1 [] [0] [insB i code memory=false] W66
          ·refine tz [111,10,9,6,3,1] ?_
           refine Q0 (!useAddr i.kind&&!decide (i.addr=0)) (fun h11=>?_) (fun h11=>?_)
           ·exact Q1 [] [0] [insB i code memory=false] W66
           ·refine tz [10,6,3,1] ?_
            refine Q0 (useTo i.kind&&(decide (i.to<0)||decide (code≤i.to))) (fun h12=>?_) (fun h12=>?_)
            ·exact Q1 [] [0] [insB i code memory=false] W66
            ·refine tz [131,10,6,3] ?_
             refine Q0 (!useTo i.kind&&!decide (i.to=0)) (fun h13=>?_) (fun h13=>?_)
             ·exact Q1 [] [0] [insB i code memory=false] W66
             ·exact Q1 [] [0] [insB i code memory=(decide (i.kind=1)||decide (i.word=0))] W66
end Go.Proofs.YtmaodngbpfjnnaaGreat
end
noncomputable section
namespace Go.Proofs.YtmaodngbpfjnnaaGreat
open Go Go.Tx
def L1_I (s:ByteArray):Int→St:=fun i=>{ N:=39,fr:=[se 3 (C.i IntKind.i64 i),se 2 (C.t false),se 0 (C.v (Value.string s))],rg:=[] }
def L1_J (s:ByteArray):Int→Prop:=fun i=>0≤i∧i≤(s.size:Int)∧restB s 0=restB s i
def L1_m (s:ByteArray):Int→Nat:=fun i=>((s.size:Int)-i).toNat
def L1 (s:ByteArray):Lp (Int):=⟨L1_I s,L1_J s,L1_m s⟩
theorem Q3h (s:ByteArray):Ctr Tryz.prog 73 [] [.c (.v (.string s))]
 (Det (.c (.b (nameB s))) []):=by
 have h0:s.size=0→s={ data:=#[] }:=(fun h=>by cases s;simp_all [ByteArray.size])
 have h00:s={ data:=#[] }→s.size=0:=(fun h=>by rw [h];rfl)
 refine Ctr.intro [] Tryz.func73 K K ?_
 refine tG Q0d (Q6h (↑(s.data.toList.getD (Int.toNat (0:Int)) (0:UInt8)).toNat:Int)) [] ?_ (vc:=[(decide ((↑s.size:Int)<(1:Int))||decide ((32:Int)<(↑s.size:Int)))=false→(0:Int)≤(0:Int),(decide ((↑s.size:Int)<(1:Int))||decide ((32:Int)<(↑s.size:Int)))=false→(0:Int)<(↑s.size:Int)]) (hv:=W78)
 refine tz [15,12,2,0] ?_
 refine tG Q5t (Qfo s) [] ?_
 refine tz [19,17,2,0] ?_
 refine Q0 (decide ((↑s.size:Int)<(1:Int))||decide ((32:Int)<(↑s.size:Int))||digitB (↑(s.data.toList.getD (Int.toNat (0:Int)) (0:UInt8)).toNat:Int)||wordB s) (fun h1=>?_) (fun h1=>?_)
 ·exact Q1 [] [0] [nameB s=false] W67
 ·refine tz [2,0] ?_
  refine Qb (L1 s) ((0:Int)) ⟨Int.le_refl _,by omega,rfl⟩ ?_
  rintro x2_0 hJ2
  obtain ⟨hA,hB,hC⟩:=hJ2
  refine tz [3,2,0] ?_
  refine Q0 (decide (x2_0<(↑s.size:Int))) (fun h3=>?_) (fun h3=>?_)
  ·refine tz [3,2,0] ?_
   refine Q2 Q3y (Qci (↑(s.data.toList.getD x2_0.toNat (0:UInt8)).toNat:Int)) [] ?_ (vc:=[(0:Int)≤x2_0,x2_0<(↑s.size:Int)]) (hv:=W78)
   refine tz [30,3,2,0] ?_
   refine tG Q0d (Q6h (↑(s.data.toList.getD x2_0.toNat (0:UInt8)).toNat:Int)) [] ?_ (vc:=[(!letterB (↑(s.data.toList.getD x2_0.toNat (0:UInt8)).toNat:Int))=true→(0:Int)≤x2_0,(!letterB (↑(s.data.toList.getD x2_0.toNat (0:UInt8)).toNat:Int))=true→x2_0<(↑s.size:Int)]) (hv:=W78)
   refine tz [36,32,3,2,0] ?_
   refine Q0 (!letterB (↑(s.data.toList.getD x2_0.toNat (0:UInt8)).toNat:Int)&&!digitB (↑(s.data.toList.getD x2_0.toNat (0:UInt8)).toNat:Int)) (fun h4=>?_) (fun h4=>?_)
   ·exact Q1 [] [0] [nameB s=false] W67
   ·exact Q6 (L1 s) x2_0 (x2_0+(1:Int)) (by simp only [L1,L1_m];grind) (by have hs:=Q3b s x2_0 hA (by grind);simp only [byteAt,L1,L1_J] at *;grind) (vc:=[Fits IntKind.i64 (x2_0+(1:Int))]) (hv:=W78)
  ·exact Q1 [] [0] [nameB s=true] W67
def L2_I (s:ByteArray):Int→St:=fun i=>{ N:=38,fr:=[se 22 (C.i IntKind.i64 i),se 21 (C.i IntKind.i64 s.size),se 20 (C.v (Value.string s)),se 2 (C.t false),se 0 (C.v (Value.string s))],rg:=[] }
def L2_J (s:ByteArray):Int→Prop:=fun i=>0≤i∧i≤(s.size:Int)∧restB s 0=restB s i
def L2_m (s:ByteArray):Int→Nat:=fun i=>((s.size:Int)-i).toNat
def L2 (s:ByteArray):Lp (Int):=⟨L2_I s,L2_J s,L2_m s⟩
theorem Qhc (s:ByteArray):Ctr Tryz.prog 64 [] [.c (.v (.string s))]
 (Det (.c (.b (nameB s))) []):=by
 have h0:s.size=0→s={ data:=#[] }:=(fun h=>by cases s;simp_all [ByteArray.size])
 have h00:s={ data:=#[] }→s.size=0:=(fun h=>by rw [h];rfl)
 refine Ctr.intro [] Tryz.func64 K K ?_
 refine tG Q3t (Qen (↑(s.data.toList.getD (Int.toNat (0:Int)) (0:UInt8)).toNat:Int)) [] ?_ (vc:=[(decide (s={ data:=#[] })||decide ((32:Int)<(↑s.size:Int)))=false→(0:Int)≤(0:Int),(decide (s={ data:=#[] })||decide ((32:Int)<(↑s.size:Int)))=false→(0:Int)<(↑s.size:Int)]) (hv:=W78)
 refine tz [14,11,2,0] ?_
 refine tG Qby (Qn4 s) [] ?_
 refine tz [18,16,2,0] ?_
 refine Q0 (decide (s={ data:=#[] })||decide ((32:Int)<(↑s.size:Int))||digitB (↑(s.data.toList.getD (Int.toNat (0:Int)) (0:UInt8)).toNat:Int)||wordB s) (fun h1=>?_) (fun h1=>?_)
 ·exact Q1 [] [0] [nameB s=false] W67
 ·refine tz [2,0] ?_
  refine Qb (L2 s) ((0:Int)) ⟨Int.le_refl _,by omega,rfl⟩ ?_
  rintro x2_0 hJ2
  obtain ⟨hA,hB,hC⟩:=hJ2
  refine tz [22,21,20,2,0] ?_
  refine Q0 (decide (x2_0<(↑s.size:Int))) (fun h3=>?_) (fun h3=>?_)
  ·refine tz [22,21,20,2,0] ?_
   refine Q2 Q9b (Qjj (↑(s.data.toList.getD x2_0.toNat (0:UInt8)).toNat:Int)) [] ?_ (vc:=[(0:Int)≤x2_0,x2_0<(↑s.size:Int)]) (hv:=W78)
   refine tz [28,3,22,21,20,2,0] ?_
   refine tG Q3t (Qen (↑(s.data.toList.getD x2_0.toNat (0:UInt8)).toNat:Int)) [] ?_ (vc:=[(!letterB (↑(s.data.toList.getD x2_0.toNat (0:UInt8)).toNat:Int))=true→(0:Int)≤x2_0,(!letterB (↑(s.data.toList.getD x2_0.toNat (0:UInt8)).toNat:Int))=true→x2_0<(↑s.size:Int)]) (hv:=W78)
   refine tz [34,30,22,21,20,2,0] ?_
   refine Q0 (!letterB (↑(s.data.toList.getD x2_0.toNat (0:UInt8)).toNat:Int)&&!digitB (↑(s.data.toList.getD x2_0.toNat (0:UInt8)).toNat:Int)) (fun h4=>?_) (fun h4=>?_)
   ·exact Q1 [] [0] [nameB s=false] W67
   ·exact Q6 (L2 s) x2_0 (x2_0+(1:Int)) (by simp only [L2,L2_m];grind) (by have hs:=Q3b s x2_0 hA (by grind);simp only [byteAt,L2,L2_J] at *;grind) (vc:=[Fits IntKind.i64 (x2_0+(1:Int))]) (hv:=W78)
  ·exact Q1 [] [0] [nameB s=true] W67
end Go.Proofs.YtmaodngbpfjnnaaGreat
end
noncomputable section
namespace Go.Proofs.YtmaodngbpfjnnaaGreat
open Go Go.Tx
theorem Qfp (op:Int) (ho:0≤op∧op≤255):Ctr Tryz.prog 68 [] [.c (.i .u8 op)]
 (Det (.c (.v (.string (opStr op)))) []):=by
 refine Ctr.intro [] Tryz.func68 K K ?_
 refine Q0 (decide ((19:Int)≤op)) (fun h1=>?_) (fun h1=>?_) (vc:=[Fits IntKind.i64 op]) (hv:=W78)
 ·exact Q1 [] [0] [Value.string (opStr op)=Value.string { data:=#[] }] W119
 ·exact Q1 [] [0] [Value.string (opStr op)=Value.string ([{ data:=#[] },{ data:=#[(97:UInt8),(100:UInt8),(100:UInt8)] },{ data:=#[(115:UInt8),(117:UInt8),(98:UInt8)] },{ data:=#[(109:UInt8),(117:UInt8),(108:UInt8)] },{ data:=#[(100:UInt8),(105:UInt8),(118:UInt8)] },{ data:=#[(114:UInt8),(101:UInt8),(109:UInt8)] },{ data:=#[(97:UInt8),(110:UInt8),(100:UInt8)] },{ data:=#[(111:UInt8),(114:UInt8)] },{ data:=#[(120:UInt8),(111:UInt8),(114:UInt8)] },{ data:=#[(115:UInt8),(104:UInt8),(108:UInt8)] },{ data:=#[(115:UInt8),(104:UInt8),(114:UInt8)] },{ data:=#[(105:UInt8),(115:UInt8)] },{ data:=#[(105:UInt8),(115:UInt8),(110:UInt8),(111:UInt8),(116:UInt8)] },{ data:=#[(108:UInt8),(101:UInt8),(115:UInt8),(115:UInt8)] },{ data:=#[(109:UInt8),(111:UInt8),(115:UInt8),(116:UInt8)] },{ data:=#[(97:UInt8),(98:UInt8),(111:UInt8),(118:UInt8),(101:UInt8)] },{ data:=#[(108:UInt8),(101:UInt8),(97:UInt8),(115:UInt8),(116:UInt8)] },{ data:=#[(109:UInt8),(105:UInt8),(110:UInt8),(117:UInt8),(115:UInt8)] },{ data:=#[(110:UInt8),(111:UInt8),(116:UInt8)] }].getD op.toNat { data:=#[] })] W119 (vc:=[(0:Int)≤op,op<(19:Int),op.toNat<19]) (hv:=W78)
theorem Qle (k:Int) (ho:0≤k∧k≤255):Ctr Tryz.prog 95 [] [.c (.i .u8 k)]
 (Det (.tup [(true,[.v (.string (formW k)),.i .u8 (formU k 0),.i .u8 (formU k 1),.i .u8 (formU k 2),.i .u8 (formU k 3)]),(false,[.b (formOk k)])]) []):=by
 refine Ctr.intro [] Tryz.func95 K K ?_
 refine Q0 (decide (k=(0:Int))||decide ((11:Int)≤k)) (fun h1=>?_) (fun h1=>?_) (vc:=[decide (k=(0:Int))=false→Fits IntKind.i64 k]) (hv:=W78)
 ·exact Q1 [] [0,1,2,3,4,5] [Value.string (formW k)=Value.string { data:=#[] },formU k 0=(0:Int),formU k 1=(0:Int),formU k 2=(0:Int),formU k 3=(0:Int),formOk k=false] W119
 ·exact Q1 [] [0,1,2,3,4,5] [Value.string (formW k)=Value.string ([{ data:=#[] },{ data:=#[(115:UInt8),(101:UInt8),(116:UInt8)] },{ data:=#[] },{ data:=#[(108:UInt8),(111:UInt8),(97:UInt8),(100:UInt8)] },{ data:=#[(115:UInt8),(116:UInt8),(111:UInt8),(114:UInt8),(101:UInt8)] },{ data:=#[(115:UInt8),(119:UInt8),(97:UInt8),(112:UInt8)] },{ data:=#[(102:UInt8),(101:UInt8),(110:UInt8),(99:UInt8),(101:UInt8)] },{ data:=#[(112:UInt8),(114:UInt8),(105:UInt8),(110:UInt8),(116:UInt8)] },{ data:=#[(106:UInt8),(117:UInt8),(109:UInt8),(112:UInt8)] },{ data:=#[(122:UInt8),(101:UInt8),(114:UInt8),(111:UInt8)] },{ data:=#[(104:UInt8),(97:UInt8),(108:UInt8),(116:UInt8)] }].getD k.toNat { data:=#[] }),formU k 0=[(0:Int),(2:Int),(1:Int),(2:Int),(4:Int),(2:Int),(0:Int),(4:Int),(32:Int),(4:Int),(0:Int)].getD k.toNat 0,formU k 1=[(0:Int),(64:Int),(2:Int),(16:Int),(16:Int),(16:Int),(0:Int),(0:Int),(0:Int),(32:Int),(0:Int)].getD k.toNat 0,formU k 2=[(0:Int),(0:Int),(4:Int),(0:Int),(0:Int),(0:Int),(0:Int),(0:Int),(0:Int),(0:Int),(0:Int)].getD k.toNat 0,formU k 3=[(0:Int),(0:Int),(8:Int),(0:Int),(0:Int),(0:Int),(0:Int),(0:Int),(0:Int),(0:Int),(0:Int)].getD k.toNat 0,formOk k=true] W119 (vc:=[(0:Int)≤k,k<(11:Int),k.toNat<11]) (hv:=W78)
theorem Qn5 (i:Ins) (hk:0≤i.kind∧i.kind≤255):Ctr Tryz.prog 66 [] [.agg i.cs]
 (Det (.tup [(false,[.i .u8 (usedI i.kind i.op)]),(false,[.b (formOk i.kind)])]) []):=by
 refine Ctr.intro [] Tryz.func66 K K ?_
 refine Q2 Q9c (Qle i.kind W27) [] ?_
 refine tz [12,3,2,1] ?_
 refine RunF.unroll (vc:=[]) 5 K trivial ?_
 refine tz [17,16,6,5,3,2,1] ?_
 refine Q0 (decide ((0:Int)<(4:Int))) (fun h1=>?_) (fun h1=>?_)
 ·refine tz [18,17,16,6,5,3,2,1] ?_
  refine Q0 (decide ((1:Int)<(4:Int))) (fun h2=>?_) (fun h2=>?_) (vc:=[0<4,(0:Int)≤(0:Int),(0:Int)<(4:Int),Fits IntKind.i64 (1:Int)]) (hv:=W78)
  ·refine tz [18,17,6,8,16,5,3,2,1] ?_
   refine Q0 (decide ((2:Int)<(4:Int))) (fun h3=>?_) (fun h3=>?_) (vc:=[1<4,(0:Int)≤(1:Int),(1:Int)<(4:Int),Fits IntKind.i64 (2:Int)]) (hv:=W78)
   ·refine tz [18,17,6,8,16,5,3,2,1] ?_
    refine Q0 (decide ((3:Int)<(4:Int))) (fun h4=>?_) (fun h4=>?_) (vc:=[2<4,(0:Int)≤(2:Int),(2:Int)<(4:Int),Fits IntKind.i64 (3:Int)]) (hv:=W78)
    ·refine tz [18,17,6,8,16,5,3,2,1] ?_
     refine Q0 (decide ((4:Int)<(4:Int))) (fun h5=>?_) (fun h5=>?_) (vc:=[3<4,(0:Int)≤(3:Int),(3:Int)<(4:Int),Fits IntKind.i64 (4:Int)]) (hv:=W78)
     ·exact absurd h5 W131
     ·refine tz [18,17,6,8,16,5,3,2,1] ?_
      refine tG Qu (Gj i.op) [] ?_
      refine tz [30,27,6,5,3,2] ?_
      refine Q0 (decide (i.kind=(2:Int))&&!twoB i.op) (fun h6=>?_) (fun h6=>?_)
      ·exact Q1 [] [0] [usedI i.kind i.op=bits BinOp.andNot IntKind.u8 (bits BinOp.or IntKind.u8 (bits BinOp.or IntKind.u8 (bits BinOp.or IntKind.u8 (bits BinOp.or IntKind.u8 (0:Int) (formU i.kind 0)) (formU i.kind 1)) (formU i.kind 2)) (formU i.kind 3)) (8:Int)] (by simp only [Conj,usedI,usedAll] at *<;>grind)
      ·exact Q1 [] [0] [usedI i.kind i.op=bits BinOp.or IntKind.u8 (bits BinOp.or IntKind.u8 (bits BinOp.or IntKind.u8 (bits BinOp.or IntKind.u8 (0:Int) (formU i.kind 0)) (formU i.kind 1)) (formU i.kind 2)) (formU i.kind 3)] (by simp only [Conj,usedI,usedAll] at *<;>grind)
    ·exact absurd h4 W131
   ·exact absurd h3 W131
  ·exact absurd h2 W131
 ·exact absurd h1 W131
theorem Q1l (all n u most:Int):Ctr Tryz.prog 67 [.ro [.i .u8 all]] [.c (.i .i64 n),.c (.i .u8 u),.c (.i .i64 most),.c (.p 0 0)]
 (Det (.c (.b (withinU all n u most))) [.dead]):=by
 refine Ctr.intro [] Tryz.func67 K K ?_
 exact Q1 [] [0] [withinU all n u most=(decide (bits BinOp.and IntKind.u8 all u=(0:Int))&&decide (n=(0:Int))||!decide (bits BinOp.and IntKind.u8 all u=(0:Int))&&decide ((0:Int)≤n)&&decide (n<most))] (by simp only [Conj,withinU] at *<;>grind)
theorem Qfq (i:Ins) (code memory:Int) (hk:0≤i.kind∧i.kind≤255) (ho:0≤i.op∧i.op≤255):Ctr Tryz.prog 42 [] [.agg i.cs,.c (.i .i64 code),.c (.i .i64 memory)]
 (Det (.c (.b (insB i code memory))) []):=by
 refine Ctr.intro [] Tryz.func42 K K ?_
 refine Q2 Qb6 (Qn5 i W27) [] ?_
 refine tz [13,6,3,1,2] ?_
 refine Q0 (!formOk i.kind||decide (i.from_<(0:Int))||decide ((4096:Int)<i.from_)) (fun h1=>?_) (fun h1=>?_)
 ·exact Q1 [] [0] [insB i code memory=false] W147
 ·refine tz [7,6,3,1,2] ?_
  refine tG Q5s (Qfp i.op W27) [] ?_
  refine tz [44,41,37,9,7,6,3,1,2] ?_
  refine tG Yx (Q1l (usedI i.kind i.op) i.d 2 16) [1] ?_
  refine tz [53,49,9,7,6,3,1,2] ?_
  refine tG Yx (Q1l (usedI i.kind i.op) i.a 4 16) [1] ?_
  refine tz [59,55,9,7,6,3,1,2] ?_
  refine tG Yx (Q1l (usedI i.kind i.op) i.b 8 16) [1] ?_
  refine tz [65,61,9,7,6,3,1,2] ?_
  refine tG Yx (Q1l (usedI i.kind i.op) i.addr 16 memory) [1] ?_
  refine tz [72,67,9,7,6,3,1] ?_
  refine tG Yx (Q1l (usedI i.kind i.op) i.to 32 code) [1] ?_
  exact Q1 [] [0] [insB i code memory=((decide (bits BinOp.and IntKind.u8 (usedI i.kind i.op) (1:Int)=(0:Int))&&decide (i.op=(0:Int))||!decide (bits BinOp.and IntKind.u8 (usedI i.kind i.op) (1:Int)=(0:Int))&&!decide (opStr i.op={ data:=#[] }))&&withinU (usedI i.kind i.op) i.d (2:Int) (16:Int)&&withinU (usedI i.kind i.op) i.a (4:Int) (16:Int)&&withinU (usedI i.kind i.op) i.b (8:Int) (16:Int)&&withinU (usedI i.kind i.op) i.addr (16:Int) memory&&withinU (usedI i.kind i.op) i.to (32:Int) code&&(!decide (bits BinOp.and IntKind.u8 (usedI i.kind i.op) (64:Int)=(0:Int))||decide (i.word=(0:Int))))] W147
end Go.Proofs.YtmaodngbpfjnnaaGreat
end
namespace Go.Tx
open Go
theorem MpEq.put {T:MT} {n n':Nat} {D:KA T.K→Option (KA T.V)} {z:KA T.V} {k:KA T.K} {y:KA T.V} {it':Option (MIt T.K)} (h:n'≤n) :
 MpEq T n (fun q=>(if q=k then some y else D q).isSome) (fun q=>(if q=k then some y else D q).getD z) none T n' (fun q=>decide (q=k)||(D q).isSome) (fun q=>if q=k then y else (D q).getD z) it':=by
 refine MpEq.mk' h (fun q=>?_) (fun q=>?_)
 ·by_cases e:q=k<;>simp [e]
 ·by_cases e:q=k<;>simp [e]
section
variable {P:Program} {t k e:Nat} {K:List CK} {V:List CK} {va:Bool}
theorem MT.ok_int {q:IntKind} (ht:P.underlying t=some (.map k e)) (hk:P.underlying k=some (.int q)) (hv:va=true∨V.length=1) (hz:∀ w,(zeroValue e).run P w=.ok (mkVal va (KA.vals V (KA.zero V))) w):MT.Ok ⟨P,t,k,e,[.i q],false,V,va⟩ where
 map:=ht
 key:=Go.Maps.int_keyed hk
 lit:=fun a ha=>⟨_,Go.Maps.keyOf_int_mk hk ha⟩
 inv:=fun v l h=>by obtain ⟨x,rfl,_,hw⟩:=Go.Maps.keyOf_int_inv hk h;exact ⟨x,hw,rfl⟩
 one:=.inr rfl
 oneE:=hv
 zero:=hz
theorem MT.ok_str (ht:P.underlying t=some (.map k e)) (hk:P.underlying k=some .string) (hv:va=true∨V.length=1) (hz:∀ w,(zeroValue e).run P w=.ok (mkVal va (KA.vals V (KA.zero V))) w):MT.Ok ⟨P,t,k,e,[.s],false,V,va⟩ where
 map:=ht
 key:=Go.Maps.string_keyed hk
 lit:=fun a ha=>⟨_,Go.WideMaps.keyOf_string_mk hk ha⟩
 inv:=fun v l h=>by obtain ⟨x,rfl,_,hw⟩:=Go.WideMaps.string_of_keyOf hk h;exact ⟨x,hw,rfl⟩
 one:=.inr rfl
 oneE:=hv
 zero:=hz
end
end Go.Tx
noncomputable section
namespace Go.Proofs.YtmaodngbpfjnnaaGreat
open Go Go.Tx
abbrev z74_1:=(MT.mk Tryz.prog 186 9 4 [CK.s] false [CK.b] false)
theorem Qa8:MT.Ok z74_1:=MT.ok_str K K (.inr rfl) (fun w=>by kernel_rfl)
theorem Qfr (s:ByteArray) (n:Nat) (D:ByteArray→Option Bool) (hs:s.size≤maxLen) (hn:n<maxLen):Ctr Tryz.prog 102 [Reg.box 186 [.h 1],Reg.mp (MT.mk Tryz.prog 186 9 4 [CK.s] false [CK.b] false) n (fun q=>(D q).isSome) (fun q=>(D q).getD false) none] [.c (.v (.string s)),.c (.p 0 0)]
 (Det (.c (.b (nameB s&&!(D s).getD false))) [Reg.box 186 [.h 1],Reg.mp (MT.mk Tryz.prog 186 9 4 [CK.s] false [CK.b] false) (n+1) (fun q=>((fun q=>if q=s then some true else D q) q).isSome) (fun q=>((fun q=>if q=s then some true else D q) q).getD false) none]):=by
 refine Ctr.intro [] Tryz.func102 K K ?_
 refine Q2 Q4q (Qhc s) [] ?_
 exact Q1 [] [0] [MpEq z74_1 (n+1) (fun (q:ByteArray)=>(if q=s then some true else D q).isSome) (fun (q:ByteArray)=>(if q=s then some true else D q).getD false) none z74_1 (n+1) (fun (q:ByteArray)=>decide (q=s)||(D q).isSome) (fun (q:ByteArray)=>if q=s then true else (D q).getD false) none] (by simp only [Conj];first | exact ⟨MpEq.put (Nat.le_refl _),rfl⟩ | exact MpEq.put (Nat.le_refl _) | (and_intros<;>first | exact MpEq.put (Nat.le_refl _) | rfl)) (vc:=[nameB s=true→s.size≤maxLen,nameB s=true→(MT.mk Tryz.prog 186 9 4 [CK.s] false [CK.b] false).P=Tryz.prog,s.size≤maxLen,(MT.mk Tryz.prog 186 9 4 [CK.s] false [CK.b] false).P=Tryz.prog,n<maxLen]) (hv:=(by simp only [Conj,Fits,Q9,Qa,Qf,Qg,News.len,maxLen]<;>(repeat' (first | apply And.intro | intro _))<;>first | rfl | exact Qa8 | exact hs | exact hn | grind | (simp only [BL] at *;omega)))
end Go.Proofs.YtmaodngbpfjnnaaGreat
end
noncomputable section
namespace Go.Proofs.YtmaodngbpfjnnaaGreat
open Go Go.Tx
abbrev z75_1:=(MT.mk Tryz.prog 186 9 4 [CK.s] false [CK.b] false)
def L49_40 (sh:List Dcl) (lk:List Dcl) (gs:List Grf):Lp (Int×Bool×Nat×(ByteArray→Option (Bool))):=⟨fun x=>{ N:=73,fr:=[se 32 (C.i .i64 x.1),se 31 (C.i .i64 (↑sh.length:Int)),se 30 (C.h 0),se 4 (C.fn 102 false [5]),se 2 (C.b x.2.1),se 1 (C.p 3 0)],rg:=[rowOf 3 (·.tc) sh,rowOf 3 (·.tc) lk,rowOf 4 (·.tc) gs,Reg.box 25 [C.h 0,C.h 1,C.h 2],Reg.mp z75_1 (x.2.2.1) (fun a=>(x.2.2.2 a).isSome) (fun a=>(x.2.2.2 a).getD (false)) none,Reg.box 186 [C.h 4]],wr:=[] },fun x=>0≤x.1∧x.1≤(sh.length:Int)∧(x.2.2.1:Int)≤x.1∧goN (nmS sh++(nmL lk++nmG gs)) (fun _=>none)=goN (nmS (sh.drop x.1.toNat)++(nmL lk++nmG gs)) x.2.2.2,fun x=>((sh.length:Int)-x.1).toNat⟩
def L49_41 (sh:List Dcl) (lk:List Dcl) (gs:List Grf) (x2_1:Bool) (x2_2:Nat) (x2_3:ByteArray→Option Bool):Lp (Int×Bool×Nat×(ByteArray→Option (Bool))):=⟨fun x=>{ N:=73,fr:=[se 45 (C.i .i64 x.1),se 44 (C.i .i64 (↑lk.length:Int)),se 43 (C.h 1),se 4 (C.fn 102 false [5]),se 2 (C.b x.2.1),se 1 (C.p 3 0)],rg:=[rowOf 3 (·.tc) sh,rowOf 3 (·.tc) lk,rowOf 4 (·.tc) gs,Reg.box 25 [C.h 0,C.h 1,C.h 2],Reg.mp z75_1 (x.2.2.1) (fun a=>(x.2.2.2 a).isSome) (fun a=>(x.2.2.2 a).getD (false)) none,Reg.box 186 [C.h 4]],wr:=[] },fun x=>0≤x.1∧x.1≤(lk.length:Int)∧(x.2.2.1:Int)≤sh.length+x.1∧goN (nmS sh++(nmL lk++nmG gs)) (fun _=>none)=goN (nmL (lk.drop x.1.toNat)++nmG gs) x.2.2.2,fun x=>((lk.length:Int)-x.1).toNat⟩
def L49_42 (sh:List Dcl) (lk:List Dcl) (gs:List Grf) (x4_1:Bool) (x4_2:Nat) (x4_3:ByteArray→Option Bool):Lp (Int×Bool×Nat×(ByteArray→Option (Bool))):=⟨fun x=>{ N:=73,fr:=[se 63 (C.i .i64 x.1),se 62 (C.i .i64 (↑gs.length:Int)),se 61 (C.h 2),se 4 (C.fn 102 false [5]),se 2 (C.b x.2.1)],rg:=[rowOf 3 (·.tc) sh,rowOf 3 (·.tc) lk,rowOf 4 (·.tc) gs,Reg.box 25 [C.h 0,C.h 1,C.h 2],Reg.mp z75_1 (x.2.2.1) (fun a=>(x.2.2.2 a).isSome) (fun a=>(x.2.2.2 a).getD (false)) none,Reg.box 186 [C.h 4]],wr:=[] },fun x=>0≤x.1∧x.1≤(gs.length:Int)∧(x.2.2.1:Int)≤sh.length+lk.length+x.1∧goN (nmS sh++(nmL lk++nmG gs)) (fun _=>none)=goN (nmG (gs.drop x.1.toNat)) x.2.2.2,fun x=>((gs.length:Int)-x.1).toNat⟩
theorem Qlf (sh lk:List Dcl) (gs:List Grf) (hs:∀ j:Nat,(sh.getD j default).name.size≤maxLen) (hl:∀ j:Nat,(lk.getD j default).name.size≤maxLen) (hg:∀ j:Nat,(gs.getD j default).name.size≤maxLen):Ctr Tryz.prog 77 [Dcl.rowR sh,Dcl.rowR lk,Grf.rowR gs] [.agg [.h 0,.h 1,.h 2]]
 (Det (.c (.b (namedB sh lk gs))) [.dead,.dead,.dead]):=by
 refine Ctr.intro [] Tryz.func77 K K ?_
 refine Q0 (decide ((64:Int)<(↑sh.length:Int))||decide ((16:Int)<(↑lk.length:Int))||decide ((8:Int)<(↑gs.length:Int))) (fun h1=>?_) (fun h1=>?_)
 ·exact Q1 [] [0] [namedB sh lk gs=false] W40
 ·refine tz [2,1] ?_
  refine Qb (L49_40 sh lk gs) (((0:Int),false,0,fun x=>none)) (by dsimp only [L49_40];exact ⟨Int.le_refl _,by omega,Int.le_refl _,rfl⟩) ?_ [] [6] [MpEq z75_1 0 (fun (a:ByteArray)=>false) (fun (a:ByteArray)=>false) none z75_1 0 (fun x=>false) (fun x=>KA.zero [CK.b]) none] W0 (vc:=[(MT.mk Tryz.prog 186 9 4 [CK.s] false [CK.b] false).P=Tryz.prog,(MT.mk Tryz.prog 186 9 4 [CK.s] false [CK.b] false).Ok]) (hv:=W46)
  rintro ⟨x2_0,x2_1,x2_2,x2_3⟩ hJ2
  dsimp only [L49_40] at hJ2
  refine tz [32,31,30,4,2,1] ?_
  refine Q0 (decide (x2_0<(↑sh.length:Int))) (fun h3=>?_) (fun h3=>?_)
  ·refine tz [32,31,30,4,2,1] ?_
   refine Q2 Q0r (Qfr ((sh.getD x2_0.toNat default).name) x2_2 x2_3 W103 W103) [5,4] ?_ [0] [MpEq z75_1 x2_2 (fun (q:ByteArray)=>(x2_3 q).isSome) (fun (q:ByteArray)=>(x2_3 q).getD false) none z75_1 x2_2 (fun (q:ByteArray)=>(x2_3 q).isSome) (fun (q:ByteArray)=>(x2_3 q).getD false) none] W0 (vc:=[(0:Int)≤x2_0,x2_0<(↑sh.length:Int),x2_0.toNat<sh.length]) (hv:=W46)
   refine tz [39,32,31,30,4,2,1] ?_
   refine Q0 (!(nameB (sh.getD x2_0.toNat default).name&&!(x2_3 (sh.getD x2_0.toNat default).name).getD false)) (fun h4=>?_) (fun h4=>?_)
   ·exact Q1 [] [0] [namedB sh lk gs=false] W40
   ·exact Q6 (L49_40 sh lk gs) (x2_0,x2_1,x2_2,x2_3) ((x2_0+(1:Int),x2_1,x2_2+1,fun (a:ByteArray)=>if a=(sh.getD x2_0.toNat default).name then some true else x2_3 a)) (by dsimp only [L49_40];have q:=of_decide_eq_true h3;omega) (by dsimp only [L49_40];have q:=of_decide_eq_true h3;refine ⟨by omega,by omega,by omega,?_⟩;rw [show (x2_0+1).toNat=x2_0.toNat+1 from by omega,hJ2.2.2.2];exact Qj4 (by omega) h4) [] [6] [MpEq z75_1 (x2_2+1) (fun (a:ByteArray)=>(if a=(sh.getD x2_0.toNat default).name then some true else x2_3 a).isSome) (fun (a:ByteArray)=>(if a=(sh.getD x2_0.toNat default).name then some true else x2_3 a).getD false) none z75_1 (x2_2+1) (fun (q:ByteArray)=>(if q=(sh.getD x2_0.toNat default).name then some true else x2_3 q).isSome) (fun (q:ByteArray)=>(if q=(sh.getD x2_0.toNat default).name then some true else x2_3 q).getD false) none] W0 (vc:=[Fits IntKind.i64 (x2_0+(1:Int))]) (hv:=W46)
  ·refine tz [32,31,30,4,2,1] ?_
   refine Qb (L49_41 sh lk gs x2_1 x2_2 x2_3) (((0:Int),x2_1,x2_2,x2_3)) (by dsimp only [L49_41];have q:=of_decide_eq_false h3;refine ⟨Int.le_refl _,by omega,by omega,?_⟩;rw [hJ2.2.2.2,List.drop_eq_nil_of_le (by omega)];rfl) ?_ [] [6] [MpEq z75_1 x2_2 (fun (a:ByteArray)=>(x2_3 a).isSome) (fun (a:ByteArray)=>(x2_3 a).getD false) none z75_1 x2_2 (fun (a:ByteArray)=>(x2_3 a).isSome) (fun (a:ByteArray)=>(x2_3 a).getD false) none] W0
   rintro ⟨x4_0,x4_1,x4_2,x4_3⟩ hJ4
   dsimp only [L49_41] at hJ4
   refine tz [45,44,43,4,2,1] ?_
   refine Q0 (decide (x4_0<(↑lk.length:Int))) (fun h5=>?_) (fun h5=>?_)
   ·refine tz [45,44,43,4,2,1] ?_
    refine Q2 Q0r (Qfr ((lk.getD x4_0.toNat default).name) x4_2 x4_3 W103 W103) [5,4] ?_ [0] [MpEq z75_1 x4_2 (fun (q:ByteArray)=>(x4_3 q).isSome) (fun (q:ByteArray)=>(x4_3 q).getD false) none z75_1 x4_2 (fun (q:ByteArray)=>(x4_3 q).isSome) (fun (q:ByteArray)=>(x4_3 q).getD false) none] W0 (vc:=[(0:Int)≤x4_0,x4_0<(↑lk.length:Int),x4_0.toNat<lk.length]) (hv:=W46)
    refine tz [52,8,45,44,43,4,2,1] ?_
    refine Q0 (!(nameB (lk.getD x4_0.toNat default).name&&!(x4_3 (lk.getD x4_0.toNat default).name).getD false)||!decide ((lk.getD x4_0.toNat default).word=(0:Int))) (fun h6=>?_) (fun h6=>?_)
    ·exact Q1 [] [0] [namedB sh lk gs=false] W40
    ·exact Q6 (L49_41 sh lk gs x2_1 x2_2 x2_3) (x4_0,x4_1,x4_2,x4_3) ((x4_0+(1:Int),x4_1,x4_2+1,fun (a:ByteArray)=>if a=(lk.getD x4_0.toNat default).name then some true else x4_3 a)) (by dsimp only [L49_41];have q:=of_decide_eq_true h5;omega) (by dsimp only [L49_41];have q:=of_decide_eq_true h5;refine ⟨by omega,by omega,by omega,?_⟩;rw [show (x4_0+1).toNat=x4_0.toNat+1 from by omega,hJ4.2.2.2];exact Qj6 (by omega) h6) [] [6] [MpEq z75_1 (x4_2+1) (fun (a:ByteArray)=>(if a=(lk.getD x4_0.toNat default).name then some true else x4_3 a).isSome) (fun (a:ByteArray)=>(if a=(lk.getD x4_0.toNat default).name then some true else x4_3 a).getD false) none z75_1 (x4_2+1) (fun (q:ByteArray)=>(if q=(lk.getD x4_0.toNat default).name then some true else x4_3 q).isSome) (fun (q:ByteArray)=>(if q=(lk.getD x4_0.toNat default).name then some true else x4_3 q).getD false) none] W0 (vc:=[Fits IntKind.i64 (x4_0+(1:Int))]) (hv:=W46)
   ·refine tz [45,44,43,4,2,1] ?_
    refine Qb (L49_42 sh lk gs x4_1 x4_2 x4_3) (((0:Int),x4_1,x4_2,x4_3)) (by dsimp only [L49_42];have q:=of_decide_eq_false h5;refine ⟨Int.le_refl _,by omega,by omega,?_⟩;rw [hJ4.2.2.2,List.drop_eq_nil_of_le (by omega)];rfl) ?_ [] [6] [MpEq z75_1 x4_2 (fun (a:ByteArray)=>(x4_3 a).isSome) (fun (a:ByteArray)=>(x4_3 a).getD false) none z75_1 x4_2 (fun (a:ByteArray)=>(x4_3 a).isSome) (fun (a:ByteArray)=>(x4_3 a).getD false) none] W0
    rintro ⟨x6_0,x6_1,x6_2,x6_3⟩ hJ6
    dsimp only [L49_42] at hJ6
    refine tz [63,62,61,4,2] ?_
    refine Q0 (decide (x6_0<(↑gs.length:Int))) (fun h7=>?_) (fun h7=>?_)
    ·refine Yu 2 (x6_0.toNat) ?_ (vc:=[x6_0.toNat<gs.length]) (hv:=W46)
     refine tz [63,62,61,4,2] ?_
     refine Q2 Q0r (Qfr ((gs.getD x6_0.toNat default).name) x6_2 x6_3 W103 W103) [5,4] ?_ [0] [MpEq z75_1 x6_2 (fun (q:ByteArray)=>(x6_3 q).isSome) (fun (q:ByteArray)=>(x6_3 q).getD false) none z75_1 x6_2 (fun (q:ByteArray)=>(x6_3 q).isSome) (fun (q:ByteArray)=>(x6_3 q).getD false) none] W0 (vc:=[(0:Int)≤x6_0,x6_0<(↑gs.length:Int),x6_0.toNat=x6_0.toNat]) (hv:=W46)
     refine tz [70,63,62,61,4,2] ?_
     refine Q0 (!(nameB (gs.getD x6_0.toNat default).name&&!(x6_3 (gs.getD x6_0.toNat default).name).getD false)) (fun h8=>?_) (fun h8=>?_)
     ·exact Q1 [] [0] [namedB sh lk gs=false] W40
     ·exact Q6 (L49_42 sh lk gs x4_1 x4_2 x4_3) (x6_0,x6_1,x6_2,x6_3) ((x6_0+(1:Int),x6_1,x6_2+1,fun (a:ByteArray)=>if a=(gs.getD x6_0.toNat default).name then some true else x6_3 a)) (by dsimp only [L49_42];have q:=of_decide_eq_true h7;omega) (by dsimp only [L49_42];have q:=of_decide_eq_true h7;refine ⟨by omega,by omega,by omega,?_⟩;rw [show (x6_0+1).toNat=x6_0.toNat+1 from by omega,hJ6.2.2.2];exact Qj8 (by omega) h8) [] [6] [MpEq z75_1 (x6_2+1) (fun (a:ByteArray)=>(if a=(gs.getD x6_0.toNat default).name then some true else x6_3 a).isSome) (fun (a:ByteArray)=>(if a=(gs.getD x6_0.toNat default).name then some true else x6_3 a).getD false) none z75_1 (x6_2+1) (fun (q:ByteArray)=>(if q=(gs.getD x6_0.toNat default).name then some true else x6_3 q).isSome) (fun (q:ByteArray)=>(if q=(gs.getD x6_0.toNat default).name then some true else x6_3 q).getD false) none] W0 (vc:=[Fits IntKind.i64 (x6_0+(1:Int))]) (hv:=W46)
    ·exact Q1 [] [0] [namedB sh lk gs=true] W40
end Go.Proofs.YtmaodngbpfjnnaaGreat
end
namespace Go.Proofs.YtmaodngbpfjnnaaGreat
open Go Go.Tx
structure Trn where
 did:Did
 co:VCo
 mem:List Int
 pr:List Prt
structure Rsl where
 did:Did
 err:Int
 vs:List VCo
 mem:List Int
 pr:List Prt
section
variable {bu:Int} {cs:List Cor} {k:Int} {vs:List VCo} {mem:List Int} {pr:List Prt}
variable {i:Ins} {d:Did} {c:VCo}
end
end Go.Proofs.YtmaodngbpfjnnaaGreat
namespace Go.Proofs.YtmaodngbpfjnnaaGreat
open Go Go.Tx
section
variable {bu:Int} {cs:List Cor} {k:Int} {vs:List VCo} {mem:List Int} {pr:List Prt} {s:Stp}
end
section
variable {vs:List VCo} {k:Int} {r:Nat}
end
structure MacOk (bu:Int) (cs:List Cor) (vs:List VCo) (mem:List Int):Prop where
 len:cs.length=vs.length
 bu16:1≤bu∧bu≤16
 cor8:cs.length≤8
 mem4:mem.length≤4096
 insb:∀ j q:Nat,j<cs.length→q<(cs.getD j default).code.length→insB ((cs.getD j default).code.getD q default) (cs.getD j default).code.length mem.length=true
 last:∀ j:Nat,j<cs.length→((cs.getD j default).code.getD ((cs.getD j default).code.length-1) default).kind=10∨((cs.getD j default).code.getD ((cs.getD j default).code.length-1) default).kind=8
 pos:∀ j:Nat,j<vs.length→0≤(vs.getD j default).pos∧(vs.getD j default).pos<(cs.getD j default).code.length
 cod:∀ j:Nat,(cs.getD j default).code.length≤16384
 bufb:∀ j:Nat,((vs.getD j default).buf.length:Int)≤bu
 stoa:∀ j q:Nat,q<(vs.getD j default).buf.length→(0≤((vs.getD j default).buf.getD q default).addr∧((vs.getD j default).buf.getD q default).addr<mem.length)∧0≤((vs.getD j default).buf.getD q default).pos∧((vs.getD j default).buf.getD q default).pos<16384
 regs:∀ j:Nat,j<vs.length→(vs.getD j default).regs.length=16
section
variable {bu:Int} {cs:List Cor} {vs:List VCo} {mem:List Int}
end
def newVs (n:Nat):List VCo:=List.replicate n ⟨0,false,List.replicate 16 0,[]⟩
end Go.Proofs.YtmaodngbpfjnnaaGreat
namespace Go.Proofs.YtmaodngbpfjnnaaGreat
open Go Go.Tx
theorem Q3i {α:Type} [Inhabited α] {l:List α} {k j:Nat} {x:α} (hk:k<l.length):(l.set k x).getD j default=if j=k then x else l.getD j default:=by
 rw [List.getD_eq_getElem?_getD,List.getElem?_set,List.getD_eq_getElem?_getD]
 by_cases h:k=j
 ·subst h;simp [hk]
 ·rw [if_neg h,if_neg (Ne.symm h)]
section
variable {mem:List Int} {s9 l9 bu:Int} {cs:List Cor}
end
section
variable {bu:Int} {cs:List Cor} {vs:List VCo} {mem:List Int}
theorem MacOk.set (h:MacOk bu cs vs mem) {k:Nat} (hk:k<vs.length) {c:VCo} {mem':List Int} (hl:mem'.length=mem.length) (hpos:0≤c.pos∧c.pos<(cs.getD k default).code.length) (hb:(c.buf.length:Int)≤bu)
 (hs:∀ q:Nat,q<c.buf.length→(0≤(c.buf.getD q default).addr∧(c.buf.getD q default).addr<mem.length)∧0≤(c.buf.getD q default).pos∧(c.buf.getD q default).pos<16384) (hr:c.regs.length=16):MacOk bu cs (vs.set k c) mem':=by
 refine ⟨by rw [List.length_set];exact h.len,h.bu16,h.cor8,by rw [hl];exact h.mem4,by rw [hl];exact h.insb,h.last,fun j hj=>?_,h.cod,fun j=>?_,fun j q hq=>?_,fun j hj=>?_⟩
 ·rw [Q3i hk]
  rw [List.length_set] at hj
  by_cases e:j=k
  ·subst e;rw [if_pos rfl];exact hpos
  ·rw [if_neg e];exact h.pos j hj
 ·rw [Q3i hk]
  by_cases e:j=k
  ·rw [if_pos e];exact hb
  ·rw [if_neg e];exact h.bufb j
 ·rw [Q3i hk] at hq ⊢
  rw [hl]
  by_cases e:j=k
  ·rw [if_pos e] at hq ⊢;exact hs q hq
  ·rw [if_neg e] at hq ⊢;exact h.stoa j q hq
 ·rw [Q3i hk]
  rw [List.length_set] at hj
  by_cases e:j=k
  ·rw [if_pos e];exact hr
  ·rw [if_neg e];exact h.regs j hj
end
end Go.Proofs.YtmaodngbpfjnnaaGreat
namespace Go.Proofs.YtmaodngbpfjnnaaGreat
open Go Go.Tx
structure Gs where
 vs:List VCo
 mem:List Int
 pr:List Prt
 steps:List Stp
structure Ons where
 did:Did
 err:Int
 g:Gs
section
variable {s9 l9 bu:Int} {cs:List Cor} {k:Int} {g:Gs}
end
structure Uns where
 err:Int
 g:Gs
section
variable {p:Did→Bool} {s9 l9 bu most:Int} {cs:List Cor} {k x:Int} {g:Gs} {u:Uns}
end
section
variable {s9 l9 bu most:Int} {cl:List Cls} {cs:List Cor} {x:Int} {order:List Int} {g:Gs} {u:Uns}
end
def g0 (mem:List Int) (cs:List Cor):Gs:=⟨newVs cs.length,mem,[],[]⟩
section
variable {mem:List Int} {s9 l9 bu most:Int} {cs:List Cor} {cl:List Cls} {order:List Int}
end
structure GsOk (bu:Int) (cs:List Cor) (g:Gs):Prop where
 mac:MacOk bu cs g.vs g.mem
 prs:g.pr.length≤g.steps.length
 stp:g.steps.length≤1048576
section
variable {s9 l9 bu:Int} {cs:List Cor} {k:Int} {g:Gs}
variable {most:Int} {cl:List Cls}
end
end Go.Proofs.YtmaodngbpfjnnaaGreat
namespace Go.Proofs.YtmaodngbpfjnnaaGreat
open Go Go.Tx
structure Ps where
 vs:List VCo
 mem:List Int
 pr:List Prt
 dids:List Did
 errs:List Int
def p0 (mem:List Int) (cs:List Cor):Ps:=⟨newVs cs.length,mem,[],[],[]⟩
structure PsOk (bu:Int) (cs:List Cor) (p:Ps):Prop where
 mac:MacOk bu cs p.vs p.mem
 prs:p.pr.length≤p.dids.length
 len:p.errs.length=p.dids.length
section
variable {bu:Int} {cs:List Cor} {vs:List VCo} {mem:List Int} {pr:List Prt} {s:Stp} {p u:Ps} {l:List Stp} {x:Int}
variable {ds out v:List Did} {es:List Int}
end
section
variable {mem:List Int} {s9 l9 bu:Int} {cs:List Cor} {l:List Stp}
end
end Go.Proofs.YtmaodngbpfjnnaaGreat
namespace Go.Proofs.YtmaodngbpfjnnaaGreat
open Go Go.Tx
section
variable {mem:List Int} {s9 l9 bu most x:Int} {cs:List Cor} {cl:List Cls} {order:List Int} {g:Gs} {u:Uns}
end
section
variable {α:Type} [Inhabited α] [DecidableEq α] {a b:List α} {x:Int}
theorem Q3j (hl:a.length=b.length) (hu:∀ j:Nat,(j:Int)<x→a.getD j default=b.getD j default) (h:decide (x<(a.length:Int))=false):decide (a=b)=true:=by
 have:=of_decide_eq_false h
 refine decide_eq_true (List.ext_getElem hl fun i h1 h2=>?_)
 have:=hu i W37
 simpa only [List.getD_eq_getElem?_getD,List.getElem?_eq_getElem h1,List.getElem?_eq_getElem h2,Option.getD_some] using this
theorem Q0m (hu:∀ j:Nat,(j:Int)<x→a.getD j default=b.getD j default) (h0:0≤x) (h:a.getD x.toNat default=b.getD x.toNat default):∀ j:Nat,(j:Int)<x+1→a.getD j default=b.getD j default:=fun j hj=>by
 by_cases e:(j:Int)=x
 ·have e2:x.toNat=j:=by omega
  rw [e2] at h;exact h
 ·exact hu j W37
theorem Q5k (hl:¬ a.length=b.length):decide (a=b)=false:=decide_eq_false (fun e=>hl (by rw [e]))
theorem Q5l (h:¬ a.getD x.toNat default=b.getD x.toNat default):decide (a=b)=false:=decide_eq_false (fun e=>h (by rw [e]))
end
end Go.Proofs.YtmaodngbpfjnnaaGreat
noncomputable section
namespace Go.Proofs.YtmaodngbpfjnnaaGreat
open Go Go.Tx
theorem Q2d (l:List Int) (hl:l.length * 64≤140737488355328):Ctr Tryz.prog 106 [IntRow l] [.c (.h 0)]
 (Det (.c (.h 1)) [.dead,IntOwn l]):=by
 refine Ctr.intro [] Tryz.func106 K K ?_
 refine RunF.rnil (n:=l.length) (vc:=[]) 0 K trivial K (fun _=>by kernel_rfl) (fun nil1 hn1=>?_)
 refine tz [4,2,0] ?_
 refine Q0 (nil1) (fun h2=>?_) (fun h2=>?_)
 ·exact Q1 [0,1000001] [0] [l.length=0] W75
 ·exact Q1 [0,2] [0,1] [l.length=0+l.length,∀ (i:Nat),i<l.length→i64T (l.getD i 0)=fun j=>if i<0 then rowT 1 [] i j else i64T (l.getD (i-0) 0) j] W75 (vc:=[∀ (i j:Nat),i<l.length→j<1→flatT (i64T (l.getD i 0) j),0+l.length≤maxLen,(0+l.length) * 8≤140737488355328]) (hv:=W125)
def L75_0 (X:Ext) (A:Option Addr) (nn:Nat) (cc:Nat) (now:List Int):Lp (Int×Bool):=⟨fun x=>{ N:=26,fr:=[se 13 (C.i .i64 x.1),{ slot:=12,g:=[],sv:=SV.c (C.i .i64 (↑(rd X (Value.slice A nn cc)).length:Int)) },se 4 (C.b x.2),se 0 (C.h 2),se 1 (C.h 0)],rg:=[IntRow now,Reg.froz X,Reg.row 1 (rd X (Value.slice A nn cc)).length (fun j=>i64T ((rd X (Value.slice A nn cc)).getD j 0)) none],wr:=[] },fun x=>0≤x.1∧x.1≤((rd X (.slice A nn cc)).length:Int)∧(rd X (.slice A nn cc)).length=now.length∧∀ j:Nat,(j:Int)<x.1→(rd X (.slice A nn cc)).getD j default=now.getD j default,fun x=>(((rd X (.slice A nn cc)).length:Int)-x.1).toNat⟩
theorem Qo8 (X:Ext) (A:Option Addr) (nn cc:Nat) (now:List Int) (hT:Is X (.slice A nn cc)):Ctr Tryz.prog 108 [IntRow now,.froz X] [.c (.v (.slice A nn cc)),.c (.h 0)]
 (Det (.c (.b (decide (rd X (.slice A nn cc)=now)))) [.dead,.dead]):=by
 refine Ctr.intro [] Tryz.func108 K K ?_
 refine RunF.lens 0 (m:=now.length) K (fun hlens_0=>?_)
 refine RunF.tabout 0 1 (X:=X) (y:=Value.slice A nn cc) (size:=1) (n:=(rd X (Value.slice A nn cc)).length) (f:=fun j=>i64T ((rd X (Value.slice A nn cc)).getD j 0)) K K K (Yw hT) ?_
 refine tz [0,1] ?_
 refine Q0 (!decide ((↑(rd X (Value.slice A nn cc)).length:Int)=(↑now.length:Int))) (fun h1=>?_) (fun h1=>?_)
 ·exact Q1 [] [0] [decide (rd X (Value.slice A nn cc)=now)=false] W94
 ·refine tz [4,0,1] ?_
  refine Qb (L75_0 X A nn cc now) (((0:Int),false)) ⟨by omega,by omega,by simp at h1;omega,fun j hj=>absurd hj W37⟩ ?_
  rintro ⟨x2_0,x2_1⟩ hJ2
  dsimp only [L75_0] at hJ2
  refine tz [13,12,4,0,1] ?_
  refine Q0 (decide (x2_0<(↑(rd X (Value.slice A nn cc)).length:Int))) (fun h3=>?_) (fun h3=>?_)
  ·refine tz [13,12,4,0,1] ?_
   refine Q0 (!decide ((rd X (Value.slice A nn cc)).getD x2_0.toNat 0=now.getD x2_0.toNat 0)) (fun h4=>?_) (fun h4=>?_) (vc:=[(0:Int)≤x2_0,x2_0<(↑(rd X (Value.slice A nn cc)).length:Int),x2_0.toNat<(rd X (Value.slice A nn cc)).length,(0:Int)≤x2_0,x2_0<(↑now.length:Int),x2_0.toNat<now.length]) (hv:=W2)
   ·exact Q1 [] [0] [decide (rd X (Value.slice A nn cc)=now)=false] W94
   ·exact Q6 (L75_0 X A nn cc now) (x2_0,x2_1) ((x2_0+(1:Int),x2_1)) (by dsimp only [L75_0];(try simp only [decide_eq_true_eq] at *);omega) ⟨by omega,by have:=of_decide_eq_true h3;omega,hJ2.2.2.1,Q0m hJ2.2.2.2 hJ2.1 (by show (rd X (.slice A nn cc)).getD x2_0.toNat 0=now.getD x2_0.toNat 0;simpa using h4)⟩ (vc:=[Fits IntKind.i64 (x2_0+(1:Int))]) (hv:=W2)
  ·exact Q1 [] [0] [decide (rd X (Value.slice A nn cc)=now)=true] W94
end Go.Proofs.YtmaodngbpfjnnaaGreat
end
noncomputable section
namespace Go.Proofs.YtmaodngbpfjnnaaGreat
open Go Go.Tx
theorem Q00 (x:Bool):Ctr Tryz.prog 156 [] [.c (.b x)]
 (Det (.c (.i .i64 (truthI x))) []):=by
 refine Ctr.intro [] Tryz.func156 K K ?_
 refine Q0 (x) (fun h1=>?_) (fun h1=>?_)
 ·exact Q1 [] [0] [truthI x=(1:Int)] W151
 ·exact Q1 [] [0] [truthI x=(0:Int)] W151
theorem Qlg (a b:Int):Ctr Tryz.prog 138 [] [.c (.i .i64 a),.c (.i .i64 b)]
 (Det (.c (.i .i64 (w64 (a+b)))) []):=by
 refine Ctr.intro [7] Tryz.func138 K K ?_
 exact Q1 [] [0] [w64 (a+b)=IntKind.i64.wrap (a+b)] W95
theorem Qlh (a b:Int):Ctr Tryz.prog 139 [] [.c (.i .i64 a),.c (.i .i64 b)]
 (Det (.c (.i .i64 (w64 (a-b)))) []):=by
 refine Ctr.intro [7] Tryz.func139 K K ?_
 exact Q1 [] [0] [w64 (a-b)=IntKind.i64.wrap (a-b)] W95
theorem Qli (a b:Int):Ctr Tryz.prog 140 [] [.c (.i .i64 a),.c (.i .i64 b)]
 (Det (.c (.i .i64 (w64 (a * b)))) []):=by
 refine Ctr.intro [7] Tryz.func140 K K ?_
 exact Q1 [] [0] [w64 (a * b)=IntKind.i64.wrap (a * b)] W95
theorem Qeo (a b:Int):Ctr Tryz.prog 141 [] [.c (.i .i64 a),.c (.i .i64 b)]
 (Det (.c (.i .i64 (divI a b))) []):=by
 refine Ctr.intro [11,14] Tryz.func141 K K ?_
 refine Q0 (decide (b=(0:Int))) (fun h1=>?_) (fun h1=>?_)
 ·exact Q1 [] [0] [divI a b=(0:Int)] W95
 ·refine tz [5,4,0,1] ?_
  refine Q0 (decide (b=(-1:Int))) (fun h2=>?_) (fun h2=>?_)
  ·exact Q1 [] [0] [divI a b=IntKind.i64.wrap ((0:Int)-a)] W95
  ·exact Q1 [] [0] [divI a b=IntKind.i64.wrap (a.tdiv b)] W95 (vc:=[b≠(0:Int)]) (hv:=W31)
theorem Qlj (a b:Int):Ctr Tryz.prog 142 [] [.c (.i .i64 a),.c (.i .i64 b)]
 (Det (.c (.i .i64 (remI a b))) []):=by
 refine Ctr.intro [13,14] Tryz.func142 K K ?_
 refine Q0 (decide (b=(0:Int))) (fun h1=>?_) (fun h1=>?_)
 ·exact Q1 [] [0] [remI a b=a] W95
 ·refine tz [4,0,1] ?_
  refine Q2 Q1i (Qeo a b) [] ?_
  exact Q1 [] [0] [remI a b=IntKind.i64.wrap (a-IntKind.i64.wrap (divI a b * b))] W95
theorem Qlk (a b:Int):Ctr Tryz.prog 143 [] [.c (.i .i64 a),.c (.i .i64 b)]
 (Det (.c (.i .i64 (bits .and .i64 a b))) []):=by
 refine Ctr.intro [] Tryz.func143 K K ?_
 exact Q1
theorem Qn6 (a b:Int):Ctr Tryz.prog 144 [] [.c (.i .i64 a),.c (.i .i64 b)]
 (Det (.c (.i .i64 (bits .or .i64 a b))) []):=by
 refine Ctr.intro [] Tryz.func144 K K ?_
 exact Q1
theorem Qll (a b:Int):Ctr Tryz.prog 145 [] [.c (.i .i64 a),.c (.i .i64 b)]
 (Det (.c (.i .i64 (bits .xor .i64 a b))) []):=by
 refine Ctr.intro [] Tryz.func145 K K ?_
 exact Q1
theorem Qlm (a b:Int):Ctr Tryz.prog 146 [] [.c (.i .i64 a),.c (.i .i64 b)]
 (Det (.c (.i .i64 (shlI .i64 a (cntI b)))) []):=by
 refine Ctr.intro [7] Tryz.func146 K K ?_
 exact Q1 [] [0] [shlI IntKind.i64 a (cntI b)=shlI IntKind.i64 a (bits BinOp.and IntKind.u64 (IntKind.u64.wrap b) (63:Int))] W95 (vc:=[(0:Int)≤bits BinOp.and IntKind.u64 (IntKind.u64.wrap b) (63:Int)]) (hv:=(by simp only [Conj];exact Q2b b))
theorem Qln (a b:Int):Ctr Tryz.prog 147 [] [.c (.i .i64 a),.c (.i .i64 b)]
 (Det (.c (.i .i64 (shrI .i64 a (cntI b)))) []):=by
 refine Ctr.intro [7] Tryz.func147 K K ?_
 exact Q1 [] [0] [shrI IntKind.i64 a (cntI b)=shrI IntKind.i64 a (bits BinOp.and IntKind.u64 (IntKind.u64.wrap b) (63:Int))] W95 (vc:=[(0:Int)≤bits BinOp.and IntKind.u64 (IntKind.u64.wrap b) (63:Int)]) (hv:=(by simp only [Conj];exact Q2b b))
theorem Qn7 (a b:Int):Ctr Tryz.prog 148 [] [.c (.i .i64 a),.c (.i .i64 b)]
 (Det (.c (.i .i64 (truthI (decide (a=b))))) []):=by
 refine Ctr.intro [] Tryz.func148 K K ?_
 refine Q2 Ys (Q00 (decide (a=b))) [] ?_
 exact Q1
theorem Qhd (a b:Int):Ctr Tryz.prog 149 [] [.c (.i .i64 a),.c (.i .i64 b)]
 (Det (.c (.i .i64 (truthI (!decide (a=b))))) []):=by
 refine Ctr.intro [] Tryz.func149 K K ?_
 refine Q2 Ys (Q00 (!decide (a=b))) [] ?_ [0] [(!decide (a=b))=!decide (a=b)] (rfl)
 exact Q1 [] [0] [(truthI !decide (a=b))=truthI !decide (a=b)] (rfl)
theorem Qjk (a b:Int):Ctr Tryz.prog 150 [] [.c (.i .i64 a),.c (.i .i64 b)]
 (Det (.c (.i .i64 (truthI (decide (a<b))))) []):=by
 refine Ctr.intro [] Tryz.func150 K K ?_
 refine Q2 Ys (Q00 (decide (a<b))) [] ?_
 exact Q1
theorem Qjl (a b:Int):Ctr Tryz.prog 151 [] [.c (.i .i64 a),.c (.i .i64 b)]
 (Det (.c (.i .i64 (truthI (decide (a≤b))))) []):=by
 refine Ctr.intro [] Tryz.func151 K K ?_
 refine Q2 Ys (Q00 (decide (a≤b))) [] ?_
 exact Q1
theorem Qhe (a b:Int):Ctr Tryz.prog 152 [] [.c (.i .i64 a),.c (.i .i64 b)]
 (Det (.c (.i .i64 (truthI (decide (b<a))))) []):=by
 refine Ctr.intro [] Tryz.func152 K K ?_
 refine Q2 Ys (Q00 (decide (b<a))) [] ?_
 exact Q1
theorem Qhf (a b:Int):Ctr Tryz.prog 153 [] [.c (.i .i64 a),.c (.i .i64 b)]
 (Det (.c (.i .i64 (truthI (decide (b≤a))))) []):=by
 refine Ctr.intro [] Tryz.func153 K K ?_
 refine Q2 Ys (Q00 (decide (b≤a))) [] ?_
 exact Q1
theorem Qhg (a:Int):Ctr Tryz.prog 154 [] [.c (.i .i64 a)]
 (Det (.c (.i .i64 (w64 (0-a)))) []):=by
 refine Ctr.intro [4] Tryz.func154 K K ?_
 exact Q1 [] [0] [w64 ((0:Int)-a)=IntKind.i64.wrap ((0:Int)-a)] (by simp only [Conj,w64] at *<;>grind)
theorem Qlo (a:Int):Ctr Tryz.prog 155 [] [.c (.i .i64 a)]
 (Det (.c (.i .i64 (truthI (decide (a=0))))) []):=by
 refine Ctr.intro [] Tryz.func155 K K ?_
 refine Q2 Ys (Q00 (decide (a=(0:Int)))) [] ?_
 exact Q1
end Go.Proofs.YtmaodngbpfjnnaaGreat
end
noncomputable section
namespace Go.Proofs.YtmaodngbpfjnnaaGreat
open Go Go.Tx
theorem Qhh (n:Nod):Ctr Tryz.prog 107 [] [.agg n.cs]
 (Det (.c (.h 0)) [IntOwn (flwL n)]):=by
 refine Ctr.intro [] Tryz.func107 K K ?_
 refine Q0 (decide (n.kind=(9:Int))) (fun h1=>?_) (fun h1=>?_)
 ·rw [Ql3 h1]
  exact Q1 [1000000] [0] [(0:Nat)=0] W53
 ·refine tz [2,1] ?_
  refine Q0 (decide (n.kind=(8:Int))&&!decide (n.els=n.next)) (fun h2=>?_) (fun h2=>?_)
  ·rw [Ql4 h1 h2]
   exact Q1 [1] [0,1] [[n.next,n.els].length=2,∀ (i:Nat),i < [n.next,n.els].length→i64T ([n.next,n.els].getD i 0)=rowT 1 [Value.int IntKind.i64 n.next,Value.int IntKind.i64 n.els] i] W53
  ·rw [Ql5 h1 h2]
   exact Q1 [1] [0,1,2] [[n.next].length=1,∀ (i:Nat),i < [n.next].length→i≠0→i64T ([n.next].getD i 0)=fun x=>TC.any,i64T n.next 0=TC.val (Value.int IntKind.i64 n.next)] W53
theorem Qlp (n:Nod) (hk:1≤n.kind∧n.kind≤9):Ctr Tryz.prog 103 [] [.agg n.cs]
 (Det (.c (.i .u8 (prtN n))) []):=by
 refine Ctr.intro [] Tryz.func103 K K ?_
 rcases (show n.kind=(1:Int)∨n.kind=(2:Int)∨n.kind=(3:Int)∨n.kind=(4:Int)∨n.kind=(5:Int)∨n.kind=(6:Int)∨n.kind=(7:Int)∨n.kind=(8:Int)∨n.kind=(9:Int) from W37) with hs1 | hs1 | hs1 | hs1 | hs1 | hs1 | hs1 | hs1 | hs1
 ·refine tWk (St.mk 21 [En.mk 0 [] (SV.agg [C.i .u8 1,C.i .u8 n.op,C.i .i64 n.slot,C.i .i64 n.thing,C.b n.a.slotted,C.i .i64 n.a.slot,C.i .i64 n.a.word,C.b n.b.slotted,C.i .i64 n.b.slot,C.i .i64 n.b.word,C.i .i64 n.next,C.i .i64 n.els,C.i .i64 n.origin])] [] []) ?_ [] [0] [(1:Int)=n.kind] W12
  refine tz [0] ?_
  refine tG Qu (Gj n.op) [] ?_ (vc:=[(0:Int)≤(1:Int),(1:Int)<(10:Int),1<10]) (hv:=W2)
  refine tz [16,13,4,2] ?_
  refine Q0 (decide ((1:Int)=(1:Int))&&twoB n.op) (fun h2=>?_) (fun h2=>?_)
  ·exact Q1 [] [0] [prtN n=bits BinOp.or IntKind.u8 (43:Int) (16:Int)] W68
  ·exact Q1 [] [0] [prtN n=(43:Int)] W68
 ·refine tWk (St.mk 21 [En.mk 0 [] (SV.agg [C.i .u8 2,C.i .u8 n.op,C.i .i64 n.slot,C.i .i64 n.thing,C.b n.a.slotted,C.i .i64 n.a.slot,C.i .i64 n.a.word,C.b n.b.slotted,C.i .i64 n.b.slot,C.i .i64 n.b.word,C.i .i64 n.next,C.i .i64 n.els,C.i .i64 n.origin])] [] []) ?_ [] [0] [(2:Int)=n.kind] W12
  refine tz [0] ?_
  refine tG Qu (Gj n.op) [] ?_ (vc:=[(0:Int)≤(2:Int),(2:Int)<(10:Int),2<10]) (hv:=W2)
  refine tz [16,13,4,2] ?_
  refine Q0 (decide ((2:Int)=(1:Int))&&twoB n.op) (fun h2=>?_) (fun h2=>?_)
  ·exact absurd h2 W99
  ·exact Q1 [] [0] [prtN n=(38:Int)] W68
 ·refine tWk (St.mk 21 [En.mk 0 [] (SV.agg [C.i .u8 3,C.i .u8 n.op,C.i .i64 n.slot,C.i .i64 n.thing,C.b n.a.slotted,C.i .i64 n.a.slot,C.i .i64 n.a.word,C.b n.b.slotted,C.i .i64 n.b.slot,C.i .i64 n.b.word,C.i .i64 n.next,C.i .i64 n.els,C.i .i64 n.origin])] [] []) ?_ [] [0] [(3:Int)=n.kind] W12
  refine tz [0] ?_
  refine tG Qu (Gj n.op) [] ?_ (vc:=[(0:Int)≤(3:Int),(3:Int)<(10:Int),3<10]) (hv:=W2)
  refine tz [16,13,4,2] ?_
  refine Q0 (decide ((3:Int)=(1:Int))&&twoB n.op) (fun h2=>?_) (fun h2=>?_)
  ·exact absurd h2 W99
  ·exact Q1 [] [0] [prtN n=(44:Int)] W68
 ·refine tWk (St.mk 21 [En.mk 0 [] (SV.agg [C.i .u8 4,C.i .u8 n.op,C.i .i64 n.slot,C.i .i64 n.thing,C.b n.a.slotted,C.i .i64 n.a.slot,C.i .i64 n.a.word,C.b n.b.slotted,C.i .i64 n.b.slot,C.i .i64 n.b.word,C.i .i64 n.next,C.i .i64 n.els,C.i .i64 n.origin])] [] []) ?_ [] [0] [(4:Int)=n.kind] W12
  refine tz [0] ?_
  refine tG Qu (Gj n.op) [] ?_ (vc:=[(0:Int)≤(4:Int),(4:Int)<(10:Int),4<10]) (hv:=W2)
  refine tz [16,13,4,2] ?_
  refine Q0 (decide ((4:Int)=(1:Int))&&twoB n.op) (fun h2=>?_) (fun h2=>?_)
  ·exact absurd h2 W99
  ·exact Q1 [] [0] [prtN n=(46:Int)] W68
 ·refine tWk (St.mk 21 [En.mk 0 [] (SV.agg [C.i .u8 5,C.i .u8 n.op,C.i .i64 n.slot,C.i .i64 n.thing,C.b n.a.slotted,C.i .i64 n.a.slot,C.i .i64 n.a.word,C.b n.b.slotted,C.i .i64 n.b.slot,C.i .i64 n.b.word,C.i .i64 n.next,C.i .i64 n.els,C.i .i64 n.origin])] [] []) ?_ [] [0] [(5:Int)=n.kind] W12
  refine tz [0] ?_
  refine tG Qu (Gj n.op) [] ?_ (vc:=[(0:Int)≤(5:Int),(5:Int)<(10:Int),5<10]) (hv:=W2)
  refine tz [16,13,4,2] ?_
  refine Q0 (decide ((5:Int)=(1:Int))&&twoB n.op) (fun h2=>?_) (fun h2=>?_)
  ·exact absurd h2 W99
  ·exact Q1 [] [0] [prtN n=(36:Int)] W68
 ·refine tWk (St.mk 21 [En.mk 0 [] (SV.agg [C.i .u8 6,C.i .u8 n.op,C.i .i64 n.slot,C.i .i64 n.thing,C.b n.a.slotted,C.i .i64 n.a.slot,C.i .i64 n.a.word,C.b n.b.slotted,C.i .i64 n.b.slot,C.i .i64 n.b.word,C.i .i64 n.next,C.i .i64 n.els,C.i .i64 n.origin])] [] []) ?_ [] [0] [(6:Int)=n.kind] W12
  refine tz [0] ?_
  refine tG Qu (Gj n.op) [] ?_ (vc:=[(0:Int)≤(6:Int),(6:Int)<(10:Int),6<10]) (hv:=W2)
  refine tz [16,13,4,2] ?_
  refine Q0 (decide ((6:Int)=(1:Int))&&twoB n.op) (fun h2=>?_) (fun h2=>?_)
  ·exact absurd h2 W99
  ·exact Q1 [] [0] [prtN n=(36:Int)] W68
 ·refine tWk (St.mk 21 [En.mk 0 [] (SV.agg [C.i .u8 7,C.i .u8 n.op,C.i .i64 n.slot,C.i .i64 n.thing,C.b n.a.slotted,C.i .i64 n.a.slot,C.i .i64 n.a.word,C.b n.b.slotted,C.i .i64 n.b.slot,C.i .i64 n.b.word,C.i .i64 n.next,C.i .i64 n.els,C.i .i64 n.origin])] [] []) ?_ [] [0] [(7:Int)=n.kind] W12
  refine tz [0] ?_
  refine tG Qu (Gj n.op) [] ?_ (vc:=[(0:Int)≤(7:Int),(7:Int)<(10:Int),7<10]) (hv:=W2)
  refine tz [16,13,4,2] ?_
  refine Q0 (decide ((7:Int)=(1:Int))&&twoB n.op) (fun h2=>?_) (fun h2=>?_)
  ·exact absurd h2 W99
  ·exact Q1 [] [0] [prtN n=(40:Int)] W68
 ·refine tWk (St.mk 21 [En.mk 0 [] (SV.agg [C.i .u8 8,C.i .u8 n.op,C.i .i64 n.slot,C.i .i64 n.thing,C.b n.a.slotted,C.i .i64 n.a.slot,C.i .i64 n.a.word,C.b n.b.slotted,C.i .i64 n.b.slot,C.i .i64 n.b.word,C.i .i64 n.next,C.i .i64 n.els,C.i .i64 n.origin])] [] []) ?_ [] [0] [(8:Int)=n.kind] W12
  refine tz [0] ?_
  refine tG Qu (Gj n.op) [] ?_ (vc:=[(0:Int)≤(8:Int),(8:Int)<(10:Int),8<10]) (hv:=W2)
  refine tz [16,13,4,2] ?_
  refine Q0 (decide ((8:Int)=(1:Int))&&twoB n.op) (fun h2=>?_) (fun h2=>?_)
  ·exact absurd h2 W99
  ·exact Q1 [] [0] [prtN n=(104:Int)] W68
 ·refine tWk (St.mk 21 [En.mk 0 [] (SV.agg [C.i .u8 9,C.i .u8 n.op,C.i .i64 n.slot,C.i .i64 n.thing,C.b n.a.slotted,C.i .i64 n.a.slot,C.i .i64 n.a.word,C.b n.b.slotted,C.i .i64 n.b.slot,C.i .i64 n.b.word,C.i .i64 n.next,C.i .i64 n.els,C.i .i64 n.origin])] [] []) ?_ [] [0] [(9:Int)=n.kind] W12
  refine tz [0] ?_
  refine tG Qu (Gj n.op) [] ?_ (vc:=[(0:Int)≤(9:Int),(9:Int)<(10:Int),9<10]) (hv:=W2)
  refine tz [16,13,4,2] ?_
  refine Q0 (decide ((9:Int)=(1:Int))&&twoB n.op) (fun h2=>?_) (fun h2=>?_)
  ·exact absurd h2 W99
  ·exact Q1 [] [0] [prtN n=(0:Int)] W68
end Go.Proofs.YtmaodngbpfjnnaaGreat
end
noncomputable section
namespace Go.Proofs.YtmaodngbpfjnnaaGreat
open Go Go.Tx
abbrev z77_1:=(MT.mk Tryz.prog 191 3 4 [CK.i IntKind.i64] false [CK.b] false)
theorem Qfs:MT.Ok z77_1:=MT.ok_int K K (.inr rfl) (fun w=>by kernel_rfl)
def C51 (g:Grf) (x1_0:Int) (x1_1:Int) (x1_2:Ext) (x1_3:List Hdl) (x1_4:Nat) (x1_5:Int→Option Bool) (x1_6:List Int) (nw:List Int):St:=St.mk 109 [se 10 (C.h 7),se 9 (C.p 6 0),se 7 (C.i .i64 x1_0),se 6 (C.h 5),se 5 (C.h 4),se 4 (C.h 3),se 3 (C.i .i64 x1_1),se 2 (C.v (Value.slice none 0 0)),se 1 (C.p 2 0)] [Nod.rowR g.nodes,Reg.froz x1_2,Reg.box 107 [C.v (Value.string g.name),C.i .i64 g.locals,C.i .i64 g.slots,C.h 0],Hdl.ownR x1_3,Reg.mp (MT.mk Tryz.prog 191 3 4 [CK.i IntKind.i64] false [CK.b] false) x1_4 (fun (a:Int)=>(x1_5 a).isSome) (fun (a:Int)=>(x1_5 a).getD false) none,IntOwn x1_6,Reg.box 137 ((g.nodes.getD (x1_6.getD x1_0.toNat 0).toNat default)).cs,IntRow nw,Reg.dead] []
def C51_J (g:Grf) (x1_0:Int) (x1_1:Int) (x1_2:Ext) (x1_3:List Hdl) (x1_4:Nat) (x1_5:Int→Option Bool) (x1_6:List Int) (nw:List Int):Prop:=nowH (g.nodes.getD (x1_6.getD x1_0.toNat 0).toNat default) (rd x1_2 (Value.slice (x1_3.getD (x1_6.getD x1_0.toNat 0).toNat default).a (x1_3.getD (x1_6.getD x1_0.toNat 0).toNat default).n (x1_3.getD (x1_6.getD x1_0.toNat 0).toNat default).c))=some nw
abbrev z77_4 (g:Grf):=Reg.box 107 [C.v (Value.string g.name),C.i .i64 g.locals,C.i .i64 g.slots,C.h 0]
abbrev z77_5 (g:Grf):=rowOf 13 (·.tc) g.nodes
def L51_0 (g:Grf) (X0:Ext):Lp (Int×Int×Ext×List Hdl×Nat×(Int→Option (Bool))×List Int):=⟨fun x=>{ N:=109,fr:=[se 7 (C.i .i64 x.1),se 6 (C.h 5),se 5 (C.h 4),se 4 (C.h 3),se 3 (C.i .i64 x.2.1),se 2 (C.v (Value.slice none 0 0)),se 1 (C.p 2 0)],rg:=[z77_5 g,Reg.froz (x.2.2.1),z77_4 g,Hdl.ownR (x.2.2.2.1),Reg.mp z77_1 (x.2.2.2.2.1) (fun a=>(x.2.2.2.2.2.1 a).isSome) (fun a=>(x.2.2.2.2.2.1 a).getD (false)) none,IntOwn (x.2.2.2.2.2.2)],wr:=[] },fun x=>HJ g.nodes x.1 x.2.2.1 x.2.2.2.1 x.2.2.2.2.1 x.2.2.2.2.2.1 x.2.2.2.2.2.2,fun x=>(g.nodes.length+1-x.1.toNat)⟩
abbrev z77_2 (g:Grf) (x1_6:List Int) (x1_0:Int):=(g.nodes.getD (x1_6.getD x1_0.toNat 0).toNat default)
def L51_1 (g:Grf) (x1_0:Int) (x1_1:Int) (x1_2:Ext) (x1_3:List Hdl) (x1_4:Nat) (x1_5:Int→Option Bool) (x1_6:List Int) (nw:List Int):Lp (Int×Int×Ext×List Hdl×Nat×(Int→Option (Bool))×List Int):=⟨fun x=>{ N:=109,fr:=[se 80 (C.i .i64 x.1),{ slot:=79,g:=[],sv:=SV.c (C.i .i64 (↑(flwL (z77_2 g x1_6 x1_0)).length:Int)) },se 78 (C.h 9),se 10 (C.h 7),se 7 (C.i .i64 x1_0),se 6 (C.h 5),se 5 (C.h 4),se 4 (C.h 3),se 3 (C.i .i64 x.2.1),se 2 (C.v (Value.slice none 0 0)),se 1 (C.p 2 0)],rg:=[z77_5 g,Reg.froz (x.2.2.1),z77_4 g,Hdl.ownR (x.2.2.2.1),Reg.mp z77_1 (x.2.2.2.2.1) (fun a=>(x.2.2.2.2.2.1 a).isSome) (fun a=>(x.2.2.2.2.2.1 a).getD (false)) none,IntOwn (x.2.2.2.2.2.2),Reg.box 137 [C.i .u8 (z77_2 g x1_6 x1_0).kind,C.i .u8 (z77_2 g x1_6 x1_0).op,C.i .i64 (z77_2 g x1_6 x1_0).slot,C.i .i64 (z77_2 g x1_6 x1_0).thing,C.b (z77_2 g x1_6 x1_0).a.slotted,C.i .i64 (z77_2 g x1_6 x1_0).a.slot,C.i .i64 (z77_2 g x1_6 x1_0).a.word,C.b (z77_2 g x1_6 x1_0).b.slotted,C.i .i64 (z77_2 g x1_6 x1_0).b.slot,C.i .i64 (z77_2 g x1_6 x1_0).b.word,C.i .i64 (z77_2 g x1_6 x1_0).next,C.i .i64 (z77_2 g x1_6 x1_0).els,C.i .i64 (z77_2 g x1_6 x1_0).origin],IntRow nw,Reg.dead,IntOwn (flwL (z77_2 g x1_6 x1_0))],wr:=[] },fun x=>HK g.nodes x1_0 (g.nodes.getD (x1_6.getD x1_0.toNat 0).toNat default) nw x.1 x.2.2.1 x.2.2.2.1 x.2.2.2.2.1 x.2.2.2.2.2.1 x.2.2.2.2.2.2,fun x=>((flwL (g.nodes.getD (x1_6.getD x1_0.toNat 0).toNat default)).length-x.1).toNat⟩
abbrev z77_3 (x1_0:Int) (x1_1:Int):=[se 10 (C.h 10),se 9 (C.p 6 0),se 7 (C.i .i64 x1_0),se 6 (C.h 5),se 5 (C.h 4),se 4 (C.h 3),se 3 (C.i .i64 x1_1),se 2 (C.v (Value.slice none 0 0)),se 1 (C.p 2 0)]
abbrev z77_6 (x1_3:List Hdl):=ownOf 32 1 (·.tc) x1_3
theorem Qn8 (g:Grf) (hq:∀ i:Nat,i<g.nodes.length→∀ x∈flwL (g.nodes.getD i default),0≤x∧x<(g.nodes.length:Int)) (hN:1≤g.nodes.length∧g.nodes.length≤4096):Ctr Tryz.prog 79 [Nod.rowR g.nodes] [.agg (g.cs 0)]
 (Det (.tup [(false,[.h 1]),(false,[.i .i64 (heldF g.nodes)])]) [.dead,.one]):=by
 refine Ctr.intro [] Tryz.func79 K K ?_
 refine RunF.tabnew K (fun X0=>?_)
 refine tz [0] ?_
 refine Qb (L51_0 g X0) (((0:Int),(0:Int),X0,List.replicate g.nodes.length Hdl.none,1,fun (q:Int)=>if q=(0:Int) then some true else none,[(0:Int)])) (.start hN.1 X0) ?_ [] [6,7,8,9,10,11] [(List.replicate g.nodes.length Hdl.none).length=g.nodes.length,∀ (i:Nat),i<(List.replicate g.nodes.length Hdl.none).length→((List.replicate g.nodes.length Hdl.none).getD i default).tc=fun j=>valT (Value.slice none 0 0).cells.toList j,MpEq z77_1 1 (fun (a:Int)=>(if a=(0:Int) then some true else none).isSome) (fun (a:Int)=>(if a=(0:Int) then some true else none).getD false) none z77_1 1 (fun (q:Int)=>decide (q=(0:Int))||false) (fun (q:Int)=>if q=(0:Int) then true else KA.zero [CK.b]) none,[(0:Int)].length=1,∀ (i:Nat),i < [(0:Int)].length→i≠0→i64T ([(0:Int)].getD i 0)=fun x=>TC.any,i64T (0:Int) 0=TC.val (Value.int IntKind.i64 (0:Int))] W7 (vc:=[(0:Int)≤(↑g.nodes.length:Int),(↑g.nodes.length:Int)≤(↑g.nodes.length:Int),(↑g.nodes.length:Int) * (24:Int)≤(140737488355328:Int),(↑g.nodes.length:Int)≤(↑maxLen:Int),(MT.mk Tryz.prog 191 3 4 [CK.i IntKind.i64] false [CK.b] false).P=Tryz.prog,(MT.mk Tryz.prog 191 3 4 [CK.i IntKind.i64] false [CK.b] false).Ok,Fits IntKind.i64 (0:Int),(MT.mk Tryz.prog 191 3 4 [CK.i IntKind.i64] false [CK.b] false).P=Tryz.prog,0<maxLen]) (hv:=W8)
 rintro ⟨x1_0,x1_1,x1_2,x1_3,x1_4,x1_5,x1_6⟩ hJ1
 dsimp only [L51_0] at hJ1
 refine tz [7,6,5,4,3,2,1] ?_
 refine Q0 (decide (x1_0<(↑x1_6.length:Int))) (fun h2=>?_) (fun h2=>?_)
 ·refine RunF.cutn 5 (fun nw=>C51 g x1_0 x1_1 x1_2 x1_3 x1_4 x1_5 x1_6 nw) (fun nw=>C51_J g x1_0 x1_1 x1_2 x1_3 x1_4 x1_5 x1_6 nw) ?_ ?_
  ·refine tz [7,6,5,4,3,2,1] ?_
   refine Q0 (decide ((g.nodes.getD (x1_6.getD x1_0.toNat 0).toNat default).kind=(5:Int))) (fun h3=>?_) (fun h3=>?_) (vc:=[(0:Int)≤x1_0,x1_0<(↑x1_6.length:Int),x1_0.toNat<x1_6.length,(0:Int)≤x1_6.getD x1_0.toNat 0,x1_6.getD x1_0.toNat 0<(↑g.nodes.length:Int),(x1_6.getD x1_0.toNat 0).toNat<g.nodes.length,(0:Int)≤x1_6.getD x1_0.toNat 0,x1_6.getD x1_0.toNat 0<(↑x1_3.length:Int),(x1_6.getD x1_0.toNat 0).toNat<x1_3.length]) (hv:=W8)
   ·refine RunF.tabout 10 1 (X:=x1_2) (y:=Value.slice (x1_3.getD (x1_6.getD x1_0.toNat 0).toNat default).a (x1_3.getD (x1_6.getD x1_0.toNat 0).toNat default).n (x1_3.getD (x1_6.getD x1_0.toNat 0).toNat default).c) (size:=1) (n:=(rd x1_2 (Value.slice (x1_3.getD (x1_6.getD x1_0.toNat 0).toNat default).a (x1_3.getD (x1_6.getD x1_0.toNat 0).toNat default).n (x1_3.getD (x1_6.getD x1_0.toNat 0).toNat default).c)).length) (f:=fun j=>i64T ((rd x1_2 (Value.slice (x1_3.getD (x1_6.getD x1_0.toNat 0).toNat default).a (x1_3.getD (x1_6.getD x1_0.toNat 0).toNat default).n (x1_3.getD (x1_6.getD x1_0.toNat 0).toNat default).c)).getD j 0)) K K K (Yw (hJ1.is (of_decide_eq_true h2))) ?_
    refine tz [10,9,7,6,5,4,3,2,1] ?_
    refine Qi 2 (fun _:Unit=>St.mk 109 (z77_3 x1_0 x1_1) [z77_5 g,Reg.froz x1_2,z77_4 g,z77_6 x1_3,Reg.mp z77_1 x1_4 (fun (a:Int)=>(x1_5 a).isSome) (fun (a:Int)=>(x1_5 a).getD false) none,IntOwn x1_6,Reg.box 137 [C.i .u8 (g.nodes.getD (x1_6.getD x1_0.toNat 0).toNat default).kind,C.i .u8 (g.nodes.getD (x1_6.getD x1_0.toNat 0).toNat default).op,C.i .i64 (g.nodes.getD (x1_6.getD x1_0.toNat 0).toNat default).slot,C.i .i64 (g.nodes.getD (x1_6.getD x1_0.toNat 0).toNat default).thing,C.b (g.nodes.getD (x1_6.getD x1_0.toNat 0).toNat default).a.slotted,C.i .i64 (g.nodes.getD (x1_6.getD x1_0.toNat 0).toNat default).a.slot,C.i .i64 (g.nodes.getD (x1_6.getD x1_0.toNat 0).toNat default).a.word,C.b (g.nodes.getD (x1_6.getD x1_0.toNat 0).toNat default).b.slotted,C.i .i64 (g.nodes.getD (x1_6.getD x1_0.toNat 0).toNat default).b.slot,C.i .i64 (g.nodes.getD (x1_6.getD x1_0.toNat 0).toNat default).b.word,C.i .i64 (g.nodes.getD (x1_6.getD x1_0.toNat 0).toNat default).next,C.i .i64 (g.nodes.getD (x1_6.getD x1_0.toNat 0).toNat default).els,C.i .i64 (g.nodes.getD (x1_6.getD x1_0.toNat 0).toNat default).origin],Reg.dead,Reg.dead,Reg.dead,Reg.own 3 1 ((rd x1_2 (Value.slice (x1_3.getD (x1_6.getD x1_0.toNat 0).toNat default).a (x1_3.getD (x1_6.getD x1_0.toNat 0).toNat default).n (x1_3.getD (x1_6.getD x1_0.toNat 0).toNat default).c)).length+1) (fun i=>i64T ((rd x1_2 (Value.slice (x1_3.getD (x1_6.getD x1_0.toNat 0).toNat default).a (x1_3.getD (x1_6.getD x1_0.toNat 0).toNat default).n (x1_3.getD (x1_6.getD x1_0.toNat 0).toNat default).c)).getD i 0)) (some ((rd x1_2 (Value.slice (x1_3.getD (x1_6.getD x1_0.toNat 0).toNat default).a (x1_3.getD (x1_6.getD x1_0.toNat 0).toNat default).n (x1_3.getD (x1_6.getD x1_0.toNat 0).toNat default).c)).length,[C.i .i64 (g.nodes.getD (x1_6.getD x1_0.toNat 0).toNat default).thing]))] []) (fun _=>True) ?_ ?_
    ·refine ⟨⟨trivial,?_⟩,?_⟩
     ·refine Q2 G4 (Q2d (rd x1_2 (Value.slice (x1_3.getD (x1_6.getD x1_0.toNat 0).toNat default).a (x1_3.getD (x1_6.getD x1_0.toNat 0).toNat default).n (x1_3.getD (x1_6.getD x1_0.toNat 0).toNat default).c)) W87) [7] ?_
      exact tTo (fun x=>St.mk 109 (z77_3 x1_0 x1_1) [z77_5 g,Reg.froz x1_2,z77_4 g,z77_6 x1_3,Reg.mp z77_1 x1_4 (fun (a:Int)=>(x1_5 a).isSome) (fun (a:Int)=>(x1_5 a).getD false) none,IntOwn x1_6,Reg.box 137 [C.i .u8 (g.nodes.getD (x1_6.getD x1_0.toNat 0).toNat default).kind,C.i .u8 (g.nodes.getD (x1_6.getD x1_0.toNat 0).toNat default).op,C.i .i64 (g.nodes.getD (x1_6.getD x1_0.toNat 0).toNat default).slot,C.i .i64 (g.nodes.getD (x1_6.getD x1_0.toNat 0).toNat default).thing,C.b (g.nodes.getD (x1_6.getD x1_0.toNat 0).toNat default).a.slotted,C.i .i64 (g.nodes.getD (x1_6.getD x1_0.toNat 0).toNat default).a.slot,C.i .i64 (g.nodes.getD (x1_6.getD x1_0.toNat 0).toNat default).a.word,C.b (g.nodes.getD (x1_6.getD x1_0.toNat 0).toNat default).b.slotted,C.i .i64 (g.nodes.getD (x1_6.getD x1_0.toNat 0).toNat default).b.slot,C.i .i64 (g.nodes.getD (x1_6.getD x1_0.toNat 0).toNat default).b.word,C.i .i64 (g.nodes.getD (x1_6.getD x1_0.toNat 0).toNat default).next,C.i .i64 (g.nodes.getD (x1_6.getD x1_0.toNat 0).toNat default).els,C.i .i64 (g.nodes.getD (x1_6.getD x1_0.toNat 0).toNat default).origin],Reg.dead,Reg.dead,Reg.dead,Reg.own 3 1 ((rd x1_2 (Value.slice (x1_3.getD (x1_6.getD x1_0.toNat 0).toNat default).a (x1_3.getD (x1_6.getD x1_0.toNat 0).toNat default).n (x1_3.getD (x1_6.getD x1_0.toNat 0).toNat default).c)).length+1) (fun i=>i64T ((rd x1_2 (Value.slice (x1_3.getD (x1_6.getD x1_0.toNat 0).toNat default).a (x1_3.getD (x1_6.getD x1_0.toNat 0).toNat default).n (x1_3.getD (x1_6.getD x1_0.toNat 0).toNat default).c)).getD i 0)) (some ((rd x1_2 (Value.slice (x1_3.getD (x1_6.getD x1_0.toNat 0).toNat default).a (x1_3.getD (x1_6.getD x1_0.toNat 0).toNat default).n (x1_3.getD (x1_6.getD x1_0.toNat 0).toNat default).c)).length,[C.i .i64 (g.nodes.getD (x1_6.getD x1_0.toNat 0).toNat default).thing]))] []) (fun x=>True) () trivial [] [8] [MpEq z77_1 x1_4 (fun (a:Int)=>(x1_5 a).isSome) (fun (a:Int)=>(x1_5 a).getD false) none z77_1 x1_4 (fun (a:Int)=>(x1_5 a).isSome) (fun (a:Int)=>(x1_5 a).getD false) none] W7 (vc:=[(rd x1_2 (Value.slice (x1_3.getD (x1_6.getD x1_0.toNat 0).toNat default).a (x1_3.getD (x1_6.getD x1_0.toNat 0).toNat default).n (x1_3.getD (x1_6.getD x1_0.toNat 0).toNat default).c)).length+1≤maxLen,((rd x1_2 (Value.slice (x1_3.getD (x1_6.getD x1_0.toNat 0).toNat default).a (x1_3.getD (x1_6.getD x1_0.toNat 0).toNat default).n (x1_3.getD (x1_6.getD x1_0.toNat 0).toNat default).c)).length+1) * 8≤140737488355328]) (hv:=W8)
     ·refine Q2 G4 (Q2d (rd x1_2 (Value.slice (x1_3.getD (x1_6.getD x1_0.toNat 0).toNat default).a (x1_3.getD (x1_6.getD x1_0.toNat 0).toNat default).n (x1_3.getD (x1_6.getD x1_0.toNat 0).toNat default).c)) W87) [7] ?_
      exact tTo (fun x=>St.mk 109 (z77_3 x1_0 x1_1) [z77_5 g,Reg.froz x1_2,z77_4 g,z77_6 x1_3,Reg.mp z77_1 x1_4 (fun (a:Int)=>(x1_5 a).isSome) (fun (a:Int)=>(x1_5 a).getD false) none,IntOwn x1_6,Reg.box 137 [C.i .u8 (g.nodes.getD (x1_6.getD x1_0.toNat 0).toNat default).kind,C.i .u8 (g.nodes.getD (x1_6.getD x1_0.toNat 0).toNat default).op,C.i .i64 (g.nodes.getD (x1_6.getD x1_0.toNat 0).toNat default).slot,C.i .i64 (g.nodes.getD (x1_6.getD x1_0.toNat 0).toNat default).thing,C.b (g.nodes.getD (x1_6.getD x1_0.toNat 0).toNat default).a.slotted,C.i .i64 (g.nodes.getD (x1_6.getD x1_0.toNat 0).toNat default).a.slot,C.i .i64 (g.nodes.getD (x1_6.getD x1_0.toNat 0).toNat default).a.word,C.b (g.nodes.getD (x1_6.getD x1_0.toNat 0).toNat default).b.slotted,C.i .i64 (g.nodes.getD (x1_6.getD x1_0.toNat 0).toNat default).b.slot,C.i .i64 (g.nodes.getD (x1_6.getD x1_0.toNat 0).toNat default).b.word,C.i .i64 (g.nodes.getD (x1_6.getD x1_0.toNat 0).toNat default).next,C.i .i64 (g.nodes.getD (x1_6.getD x1_0.toNat 0).toNat default).els,C.i .i64 (g.nodes.getD (x1_6.getD x1_0.toNat 0).toNat default).origin],Reg.dead,Reg.dead,Reg.dead,Reg.own 3 1 ((rd x1_2 (Value.slice (x1_3.getD (x1_6.getD x1_0.toNat 0).toNat default).a (x1_3.getD (x1_6.getD x1_0.toNat 0).toNat default).n (x1_3.getD (x1_6.getD x1_0.toNat 0).toNat default).c)).length+1) (fun i=>i64T ((rd x1_2 (Value.slice (x1_3.getD (x1_6.getD x1_0.toNat 0).toNat default).a (x1_3.getD (x1_6.getD x1_0.toNat 0).toNat default).n (x1_3.getD (x1_6.getD x1_0.toNat 0).toNat default).c)).getD i 0)) (some ((rd x1_2 (Value.slice (x1_3.getD (x1_6.getD x1_0.toNat 0).toNat default).a (x1_3.getD (x1_6.getD x1_0.toNat 0).toNat default).n (x1_3.getD (x1_6.getD x1_0.toNat 0).toNat default).c)).length,[C.i .i64 (g.nodes.getD (x1_6.getD x1_0.toNat 0).toNat default).thing]))] []) (fun x=>True) () trivial [] [8] [MpEq z77_1 x1_4 (fun (a:Int)=>(x1_5 a).isSome) (fun (a:Int)=>(x1_5 a).getD false) none z77_1 x1_4 (fun (a:Int)=>(x1_5 a).isSome) (fun (a:Int)=>(x1_5 a).getD false) none] W7 (vc:=[(rd x1_2 (Value.slice (x1_3.getD (x1_6.getD x1_0.toNat 0).toNat default).a (x1_3.getD (x1_6.getD x1_0.toNat 0).toNat default).n (x1_3.getD (x1_6.getD x1_0.toNat 0).toNat default).c)).length+1≤maxLen,((rd x1_2 (Value.slice (x1_3.getD (x1_6.getD x1_0.toNat 0).toNat default).a (x1_3.getD (x1_6.getD x1_0.toNat 0).toNat default).n (x1_3.getD (x1_6.getD x1_0.toNat 0).toNat default).c)).length+1) * 8≤140737488355328]) (hv:=W8)
    ·rintro ⟨⟩ _
     exact tTo (fun nw=>C51 g x1_0 x1_1 x1_2 x1_3 x1_4 x1_5 x1_6 nw) (fun nw=>C51_J g x1_0 x1_1 x1_2 x1_3 x1_4 x1_5 x1_6 nw) (rd x1_2 (Value.slice (x1_3.getD (x1_6.getD x1_0.toNat 0).toNat default).a (x1_3.getD (x1_6.getD x1_0.toNat 0).toNat default).n (x1_3.getD (x1_6.getD x1_0.toNat 0).toNat default).c)++[(g.nodes.getD (x1_6.getD x1_0.toNat 0).toNat default).thing]) W86 [0,1,2,3,4,5,6,10,8] [8,24,25,26] [MpEq z77_1 x1_4 (fun (a:Int)=>(x1_5 a).isSome) (fun (a:Int)=>(x1_5 a).getD false) none z77_1 x1_4 (fun (a:Int)=>(x1_5 a).isSome) (fun (a:Int)=>(x1_5 a).getD false) none,(rd x1_2 (Value.slice (x1_3.getD (x1_6.getD x1_0.toNat 0).toNat default).a (x1_3.getD (x1_6.getD x1_0.toNat 0).toNat default).n (x1_3.getD (x1_6.getD x1_0.toNat 0).toNat default).c)++[(g.nodes.getD (x1_6.getD x1_0.toNat 0).toNat default).thing]).length=(rd x1_2 (Value.slice (x1_3.getD (x1_6.getD x1_0.toNat 0).toNat default).a (x1_3.getD (x1_6.getD x1_0.toNat 0).toNat default).n (x1_3.getD (x1_6.getD x1_0.toNat 0).toNat default).c)).length+1,∀ (i:Nat),i<(rd x1_2 (Value.slice (x1_3.getD (x1_6.getD x1_0.toNat 0).toNat default).a (x1_3.getD (x1_6.getD x1_0.toNat 0).toNat default).n (x1_3.getD (x1_6.getD x1_0.toNat 0).toNat default).c)++[(g.nodes.getD (x1_6.getD x1_0.toNat 0).toNat default).thing]).length→i≠(rd x1_2 (Value.slice (x1_3.getD (x1_6.getD x1_0.toNat 0).toNat default).a (x1_3.getD (x1_6.getD x1_0.toNat 0).toNat default).n (x1_3.getD (x1_6.getD x1_0.toNat 0).toNat default).c)).length→i64T ((rd x1_2 (Value.slice (x1_3.getD (x1_6.getD x1_0.toNat 0).toNat default).a (x1_3.getD (x1_6.getD x1_0.toNat 0).toNat default).n (x1_3.getD (x1_6.getD x1_0.toNat 0).toNat default).c)++[(g.nodes.getD (x1_6.getD x1_0.toNat 0).toNat default).thing]).getD i 0)=i64T ((rd x1_2 (Value.slice (x1_3.getD (x1_6.getD x1_0.toNat 0).toNat default).a (x1_3.getD (x1_6.getD x1_0.toNat 0).toNat default).n (x1_3.getD (x1_6.getD x1_0.toNat 0).toNat default).c)).getD i 0),i64T ((rd x1_2 (Value.slice (x1_3.getD (x1_6.getD x1_0.toNat 0).toNat default).a (x1_3.getD (x1_6.getD x1_0.toNat 0).toNat default).n (x1_3.getD (x1_6.getD x1_0.toNat 0).toNat default).c)++[(g.nodes.getD (x1_6.getD x1_0.toNat 0).toNat default).thing]).getD (rd x1_2 (Value.slice (x1_3.getD (x1_6.getD x1_0.toNat 0).toNat default).a (x1_3.getD (x1_6.getD x1_0.toNat 0).toNat default).n (x1_3.getD (x1_6.getD x1_0.toNat 0).toNat default).c)).length (0:Int)) 0=TC.val (Value.int IntKind.i64 (g.nodes.getD (x1_6.getD x1_0.toNat 0).toNat default).thing)] W7
   ·refine tz [40,10,9,8,7,6,5,4,3,2,1] ?_
    refine Q0 (decide ((g.nodes.getD (x1_6.getD x1_0.toNat 0).toNat default).kind=(6:Int))) (fun h4=>?_) (fun h4=>?_)
    ·refine RunF.tabout 10 1 (X:=x1_2) (y:=Value.slice (x1_3.getD (x1_6.getD x1_0.toNat 0).toNat default).a (x1_3.getD (x1_6.getD x1_0.toNat 0).toNat default).n (x1_3.getD (x1_6.getD x1_0.toNat 0).toNat default).c) (size:=1) (n:=(rd x1_2 (Value.slice (x1_3.getD (x1_6.getD x1_0.toNat 0).toNat default).a (x1_3.getD (x1_6.getD x1_0.toNat 0).toNat default).n (x1_3.getD (x1_6.getD x1_0.toNat 0).toNat default).c)).length) (f:=fun j=>i64T ((rd x1_2 (Value.slice (x1_3.getD (x1_6.getD x1_0.toNat 0).toNat default).a (x1_3.getD (x1_6.getD x1_0.toNat 0).toNat default).n (x1_3.getD (x1_6.getD x1_0.toNat 0).toNat default).c)).getD j 0)) K K K (Yw (hJ1.is (of_decide_eq_true h2))) ?_
     refine tz [10,9,8,7,6,5,4,3,2,1] ?_
     refine Q0 (decide ((↑(rd x1_2 (Value.slice (x1_3.getD (x1_6.getD x1_0.toNat 0).toNat default).a (x1_3.getD (x1_6.getD x1_0.toNat 0).toNat default).n (x1_3.getD (x1_6.getD x1_0.toNat 0).toNat default).c)).length:Int)=(0:Int))||!decide ((rd x1_2 (Value.slice (x1_3.getD (x1_6.getD x1_0.toNat 0).toNat default).a (x1_3.getD (x1_6.getD x1_0.toNat 0).toNat default).n (x1_3.getD (x1_6.getD x1_0.toNat 0).toNat default).c)).getD ((↑(rd x1_2 (Value.slice (x1_3.getD (x1_6.getD x1_0.toNat 0).toNat default).a (x1_3.getD (x1_6.getD x1_0.toNat 0).toNat default).n (x1_3.getD (x1_6.getD x1_0.toNat 0).toNat default).c)).length:Int)-(1:Int)).toNat (0:Int)=(g.nodes.getD (x1_6.getD x1_0.toNat 0).toNat default).thing)) (fun h5=>?_) (fun h5=>?_) (vc:=[decide ((↑(rd x1_2 (Value.slice (x1_3.getD (x1_6.getD x1_0.toNat 0).toNat default).a (x1_3.getD (x1_6.getD x1_0.toNat 0).toNat default).n (x1_3.getD (x1_6.getD x1_0.toNat 0).toNat default).c)).length:Int)=(0:Int))=false→Fits IntKind.i64 ((↑(rd x1_2 (Value.slice (x1_3.getD (x1_6.getD x1_0.toNat 0).toNat default).a (x1_3.getD (x1_6.getD x1_0.toNat 0).toNat default).n (x1_3.getD (x1_6.getD x1_0.toNat 0).toNat default).c)).length:Int)-(1:Int)),decide ((↑(rd x1_2 (Value.slice (x1_3.getD (x1_6.getD x1_0.toNat 0).toNat default).a (x1_3.getD (x1_6.getD x1_0.toNat 0).toNat default).n (x1_3.getD (x1_6.getD x1_0.toNat 0).toNat default).c)).length:Int)=(0:Int))=false→(0:Int)≤(↑(rd x1_2 (Value.slice (x1_3.getD (x1_6.getD x1_0.toNat 0).toNat default).a (x1_3.getD (x1_6.getD x1_0.toNat 0).toNat default).n (x1_3.getD (x1_6.getD x1_0.toNat 0).toNat default).c)).length:Int)-(1:Int),decide ((↑(rd x1_2 (Value.slice (x1_3.getD (x1_6.getD x1_0.toNat 0).toNat default).a (x1_3.getD (x1_6.getD x1_0.toNat 0).toNat default).n (x1_3.getD (x1_6.getD x1_0.toNat 0).toNat default).c)).length:Int)=(0:Int))=false→(↑(rd x1_2 (Value.slice (x1_3.getD (x1_6.getD x1_0.toNat 0).toNat default).a (x1_3.getD (x1_6.getD x1_0.toNat 0).toNat default).n (x1_3.getD (x1_6.getD x1_0.toNat 0).toNat default).c)).length:Int)-(1:Int)<(↑(rd x1_2 (Value.slice (x1_3.getD (x1_6.getD x1_0.toNat 0).toNat default).a (x1_3.getD (x1_6.getD x1_0.toNat 0).toNat default).n (x1_3.getD (x1_6.getD x1_0.toNat 0).toNat default).c)).length:Int),decide ((↑(rd x1_2 (Value.slice (x1_3.getD (x1_6.getD x1_0.toNat 0).toNat default).a (x1_3.getD (x1_6.getD x1_0.toNat 0).toNat default).n (x1_3.getD (x1_6.getD x1_0.toNat 0).toNat default).c)).length:Int)=(0:Int))=false→((↑(rd x1_2 (Value.slice (x1_3.getD (x1_6.getD x1_0.toNat 0).toNat default).a (x1_3.getD (x1_6.getD x1_0.toNat 0).toNat default).n (x1_3.getD (x1_6.getD x1_0.toNat 0).toNat default).c)).length:Int)-(1:Int)).toNat<(rd x1_2 (Value.slice (x1_3.getD (x1_6.getD x1_0.toNat 0).toNat default).a (x1_3.getD (x1_6.getD x1_0.toNat 0).toNat default).n (x1_3.getD (x1_6.getD x1_0.toNat 0).toNat default).c)).length]) (hv:=W8)
     ·exact Q1 [0,1000001] [0] [heldF g.nodes=x1_6.getD x1_0.toNat 0] W69
     ·exact tTo (fun nw=>C51 g x1_0 x1_1 x1_2 x1_3 x1_4 x1_5 x1_6 nw) (fun nw=>C51_J g x1_0 x1_1 x1_2 x1_3 x1_4 x1_5 x1_6 nw) (List.take (((↑(rd x1_2 (Value.slice (x1_3.getD (x1_6.getD x1_0.toNat 0).toNat default).a (x1_3.getD (x1_6.getD x1_0.toNat 0).toNat default).n (x1_3.getD (x1_6.getD x1_0.toNat 0).toNat default).c)).length:Int)-(1:Int)).toNat-0) (List.drop 0 (rd x1_2 (Value.slice (x1_3.getD (x1_6.getD x1_0.toNat 0).toNat default).a (x1_3.getD (x1_6.getD x1_0.toNat 0).toNat default).n (x1_3.getD (x1_6.getD x1_0.toNat 0).toNat default).c)))) W86 [0,1,2,3,4,5,6,8,8] [8,24,25] [MpEq z77_1 x1_4 (fun (a:Int)=>(x1_5 a).isSome) (fun (a:Int)=>(x1_5 a).getD false) none z77_1 x1_4 (fun (a:Int)=>(x1_5 a).isSome) (fun (a:Int)=>(x1_5 a).getD false) none,(List.take (((↑(rd x1_2 (Value.slice (x1_3.getD (x1_6.getD x1_0.toNat 0).toNat default).a (x1_3.getD (x1_6.getD x1_0.toNat 0).toNat default).n (x1_3.getD (x1_6.getD x1_0.toNat 0).toNat default).c)).length:Int)-(1:Int)).toNat-0) (List.drop 0 (rd x1_2 (Value.slice (x1_3.getD (x1_6.getD x1_0.toNat 0).toNat default).a (x1_3.getD (x1_6.getD x1_0.toNat 0).toNat default).n (x1_3.getD (x1_6.getD x1_0.toNat 0).toNat default).c)))).length=((↑(rd x1_2 (Value.slice (x1_3.getD (x1_6.getD x1_0.toNat 0).toNat default).a (x1_3.getD (x1_6.getD x1_0.toNat 0).toNat default).n (x1_3.getD (x1_6.getD x1_0.toNat 0).toNat default).c)).length:Int)-(1:Int)).toNat-0,∀ (i:Nat),i<(List.take (((↑(rd x1_2 (Value.slice (x1_3.getD (x1_6.getD x1_0.toNat 0).toNat default).a (x1_3.getD (x1_6.getD x1_0.toNat 0).toNat default).n (x1_3.getD (x1_6.getD x1_0.toNat 0).toNat default).c)).length:Int)-(1:Int)).toNat-0) (List.drop 0 (rd x1_2 (Value.slice (x1_3.getD (x1_6.getD x1_0.toNat 0).toNat default).a (x1_3.getD (x1_6.getD x1_0.toNat 0).toNat default).n (x1_3.getD (x1_6.getD x1_0.toNat 0).toNat default).c)))).length→i64T ((List.take (((↑(rd x1_2 (Value.slice (x1_3.getD (x1_6.getD x1_0.toNat 0).toNat default).a (x1_3.getD (x1_6.getD x1_0.toNat 0).toNat default).n (x1_3.getD (x1_6.getD x1_0.toNat 0).toNat default).c)).length:Int)-(1:Int)).toNat-0) (List.drop 0 (rd x1_2 (Value.slice (x1_3.getD (x1_6.getD x1_0.toNat 0).toNat default).a (x1_3.getD (x1_6.getD x1_0.toNat 0).toNat default).n (x1_3.getD (x1_6.getD x1_0.toNat 0).toNat default).c)))).getD i 0)=i64T ((rd x1_2 (Value.slice (x1_3.getD (x1_6.getD x1_0.toNat 0).toNat default).a (x1_3.getD (x1_6.getD x1_0.toNat 0).toNat default).n (x1_3.getD (x1_6.getD x1_0.toNat 0).toNat default).c)).getD (0+i) 0)] W7 (vc:=[Fits IntKind.i64 ((↑(rd x1_2 (Value.slice (x1_3.getD (x1_6.getD x1_0.toNat 0).toNat default).a (x1_3.getD (x1_6.getD x1_0.toNat 0).toNat default).n (x1_3.getD (x1_6.getD x1_0.toNat 0).toNat default).c)).length:Int)-(1:Int)),(0:Int)≤(0:Int),(0:Int)≤(↑(rd x1_2 (Value.slice (x1_3.getD (x1_6.getD x1_0.toNat 0).toNat default).a (x1_3.getD (x1_6.getD x1_0.toNat 0).toNat default).n (x1_3.getD (x1_6.getD x1_0.toNat 0).toNat default).c)).length:Int)-(1:Int),(↑(rd x1_2 (Value.slice (x1_3.getD (x1_6.getD x1_0.toNat 0).toNat default).a (x1_3.getD (x1_6.getD x1_0.toNat 0).toNat default).n (x1_3.getD (x1_6.getD x1_0.toNat 0).toNat default).c)).length:Int)-(1:Int)≤(↑(rd x1_2 (Value.slice (x1_3.getD (x1_6.getD x1_0.toNat 0).toNat default).a (x1_3.getD (x1_6.getD x1_0.toNat 0).toNat default).n (x1_3.getD (x1_6.getD x1_0.toNat 0).toNat default).c)).length:Int)]) (hv:=W8)
    ·refine tz [40,10,9,8,7,6,5,4,3,2,1] ?_
     refine Q0 (decide ((g.nodes.getD (x1_6.getD x1_0.toNat 0).toNat default).kind=(9:Int))) (fun h5=>?_) (fun h5=>?_)
     ·refine RunF.tabout 10 1 (X:=x1_2) (y:=Value.slice (x1_3.getD (x1_6.getD x1_0.toNat 0).toNat default).a (x1_3.getD (x1_6.getD x1_0.toNat 0).toNat default).n (x1_3.getD (x1_6.getD x1_0.toNat 0).toNat default).c) (size:=1) (n:=(rd x1_2 (Value.slice (x1_3.getD (x1_6.getD x1_0.toNat 0).toNat default).a (x1_3.getD (x1_6.getD x1_0.toNat 0).toNat default).n (x1_3.getD (x1_6.getD x1_0.toNat 0).toNat default).c)).length) (f:=fun j=>i64T ((rd x1_2 (Value.slice (x1_3.getD (x1_6.getD x1_0.toNat 0).toNat default).a (x1_3.getD (x1_6.getD x1_0.toNat 0).toNat default).n (x1_3.getD (x1_6.getD x1_0.toNat 0).toNat default).c)).getD j 0)) K K K (Yw (hJ1.is (of_decide_eq_true h2))) ?_
      refine tz [10,9,8,7,6,5,4,3,2,1] ?_
      refine Q0 (decide ((0:Int)<(↑(rd x1_2 (Value.slice (x1_3.getD (x1_6.getD x1_0.toNat 0).toNat default).a (x1_3.getD (x1_6.getD x1_0.toNat 0).toNat default).n (x1_3.getD (x1_6.getD x1_0.toNat 0).toNat default).c)).length:Int))) (fun h6=>?_) (fun h6=>?_)
      ·exact Q1 [0,1000001] [0] [heldF g.nodes=x1_6.getD x1_0.toNat 0] W69
      ·exact tTo (fun nw=>C51 g x1_0 x1_1 x1_2 x1_3 x1_4 x1_5 x1_6 nw) (fun nw=>C51_J g x1_0 x1_1 x1_2 x1_3 x1_4 x1_5 x1_6 nw) (rd x1_2 (Value.slice (x1_3.getD (x1_6.getD x1_0.toNat 0).toNat default).a (x1_3.getD (x1_6.getD x1_0.toNat 0).toNat default).n (x1_3.getD (x1_6.getD x1_0.toNat 0).toNat default).c)) W86 [0,1,2,3,4,5,6,7,1000008] [8] [MpEq z77_1 x1_4 (fun (a:Int)=>(x1_5 a).isSome) (fun (a:Int)=>(x1_5 a).getD false) none z77_1 x1_4 (fun (a:Int)=>(x1_5 a).isSome) (fun (a:Int)=>(x1_5 a).getD false) none] W7
     ·refine RunF.tabout 10 1 (X:=x1_2) (y:=Value.slice (x1_3.getD (x1_6.getD x1_0.toNat 0).toNat default).a (x1_3.getD (x1_6.getD x1_0.toNat 0).toNat default).n (x1_3.getD (x1_6.getD x1_0.toNat 0).toNat default).c) (size:=1) (n:=(rd x1_2 (Value.slice (x1_3.getD (x1_6.getD x1_0.toNat 0).toNat default).a (x1_3.getD (x1_6.getD x1_0.toNat 0).toNat default).n (x1_3.getD (x1_6.getD x1_0.toNat 0).toNat default).c)).length) (f:=fun j=>i64T ((rd x1_2 (Value.slice (x1_3.getD (x1_6.getD x1_0.toNat 0).toNat default).a (x1_3.getD (x1_6.getD x1_0.toNat 0).toNat default).n (x1_3.getD (x1_6.getD x1_0.toNat 0).toNat default).c)).getD j 0)) K K K (Yw (hJ1.is (of_decide_eq_true h2))) ?_
      exact tTo (fun nw=>C51 g x1_0 x1_1 x1_2 x1_3 x1_4 x1_5 x1_6 nw) (fun nw=>C51_J g x1_0 x1_1 x1_2 x1_3 x1_4 x1_5 x1_6 nw) (rd x1_2 (Value.slice (x1_3.getD (x1_6.getD x1_0.toNat 0).toNat default).a (x1_3.getD (x1_6.getD x1_0.toNat 0).toNat default).n (x1_3.getD (x1_6.getD x1_0.toNat 0).toNat default).c)) W86 [0,1,2,3,4,5,6,7,1000008] [8] [MpEq z77_1 x1_4 (fun (a:Int)=>(x1_5 a).isSome) (fun (a:Int)=>(x1_5 a).getD false) none z77_1 x1_4 (fun (a:Int)=>(x1_5 a).isSome) (fun (a:Int)=>(x1_5 a).getD false) none] W7
  ·intro nw hCC51
   refine tz [10,9,7,6,5,4,3,2,1] ?_
   refine Q2 Qb7 (Qhh (g.nodes.getD (x1_6.getD x1_0.toNat 0).toNat default)) [] ?_
   refine tz [78,10,7,6,5,4,3,2,1] ?_
   refine Qb (L51_1 g x1_0 x1_1 x1_2 x1_3 x1_4 x1_5 x1_6 nw) (((0:Int),x1_1,x1_2,x1_3,x1_4,x1_5,x1_6)) (hJ1.inner (of_decide_eq_true h2) hCC51) ?_ [] [8] [MpEq z77_1 x1_4 (fun (a:Int)=>(x1_5 a).isSome) (fun (a:Int)=>(x1_5 a).getD false) none z77_1 x1_4 (fun (a:Int)=>(x1_5 a).isSome) (fun (a:Int)=>(x1_5 a).getD false) none] W7
   rintro ⟨x3_0,x3_1,x3_2,x3_3,x3_4,x3_5,x3_6⟩ hJ3
   dsimp only [L51_1] at hJ3
   refine tz [80,79,78,10,7,6,5,4,3,2,1] ?_
   refine Q0 (decide (x3_0<(↑(flwL (g.nodes.getD (x1_6.getD x1_0.toNat 0).toNat default)).length:Int))) (fun h4=>?_) (fun h4=>?_)
   ·refine tz [80,79,78,10,7,6,5,4,3,2,1] ?_
    refine Q0 (!(x3_5 ((flwL (g.nodes.getD (x1_6.getD x1_0.toNat 0).toNat default)).getD x3_0.toNat 0)).getD false) (fun h5=>?_) (fun h5=>?_) (vc:=[(0:Int)≤x3_0,x3_0<(↑(flwL (g.nodes.getD (x1_6.getD x1_0.toNat 0).toNat default)).length:Int),x3_0.toNat<(flwL (g.nodes.getD (x1_6.getD x1_0.toNat 0).toNat default)).length,Fits IntKind.i64 ((flwL (g.nodes.getD (x1_6.getD x1_0.toNat 0).toNat default)).getD x3_0.toNat 0),(MT.mk Tryz.prog 191 3 4 [CK.i IntKind.i64] false [CK.b] false).P=Tryz.prog]) (hv:=W8)
    ·refine tz [12,80,79,78,10,7,6,5,4,3,2,1] ?_
     refine Q2 G4 (Q2d nw W87) [7] ?_ (vc:=[Fits IntKind.i64 ((flwL (g.nodes.getD (x1_6.getD x1_0.toNat 0).toNat default)).getD x3_0.toNat 0),(MT.mk Tryz.prog 191 3 4 [CK.i IntKind.i64] false [CK.b] false).P=Tryz.prog,x3_4<maxLen]) (hv:=W8)
     refine RunF.tabin 10 1 (ty:=3) (size:=1) (n:=nw.length) (f:=fun i=>i64T (nw.getD i 0)) (X:=x3_2) K K K (fun X9 A9 c9 hInX9 hTabX9=>?_)
     exact Q6 (L51_1 g x1_0 x1_1 x1_2 x1_3 x1_4 x1_5 x1_6 nw) (x3_0,x3_1,x3_2,x3_3,x3_4,x3_5,x3_6) ((x3_0+(1:Int),x3_1,X9,x3_3.set ((flwL (g.nodes.getD (x1_6.getD x1_0.toNat 0).toNat default)).getD x3_0.toNat 0).toNat (Hdl.mk A9 nw.length c9),x3_4+1,fun (q:Int)=>if q=(flwL (g.nodes.getD (x1_6.getD x1_0.toNat 0).toNat default)).getD x3_0.toNat 0 then some true else x3_5 q,x3_6++[(flwL (g.nodes.getD (x1_6.getD x1_0.toNat 0).toNat default)).getD x3_0.toNat 0])) W153 W121 [0,1,2,3,4,12,6,7,8,9] [6,7,8,9,10,11] [(x3_3.set ((flwL (g.nodes.getD (x1_6.getD x1_0.toNat 0).toNat default)).getD x3_0.toNat 0).toNat (Hdl.mk A9 nw.length c9)).length=x3_3.length,∀ (i:Nat),i<(x3_3.set ((flwL (g.nodes.getD (x1_6.getD x1_0.toNat 0).toNat default)).getD x3_0.toNat 0).toNat (Hdl.mk A9 nw.length c9)).length→((x3_3.set ((flwL (g.nodes.getD (x1_6.getD x1_0.toNat 0).toNat default)).getD x3_0.toNat 0).toNat (Hdl.mk A9 nw.length c9)).getD i default).tc=updT (fun i=>(x3_3.getD i default).tc) ((flwL (g.nodes.getD (x1_6.getD x1_0.toNat 0).toNat default)).getD x3_0.toNat 0).toNat 0 [Value.slice A9 nw.length c9] i,MpEq z77_1 (x3_4+1) (fun (a:Int)=>(if a=(flwL (g.nodes.getD (x1_6.getD x1_0.toNat 0).toNat default)).getD x3_0.toNat 0 then some true else x3_5 a).isSome) (fun (a:Int)=>(if a=(flwL (g.nodes.getD (x1_6.getD x1_0.toNat 0).toNat default)).getD x3_0.toNat 0 then some true else x3_5 a).getD false) none z77_1 (x3_4+1) (fun (q:Int)=>decide (q=(flwL (g.nodes.getD (x1_6.getD x1_0.toNat 0).toNat default)).getD x3_0.toNat 0)||(x3_5 q).isSome) (fun (q:Int)=>if q=(flwL (g.nodes.getD (x1_6.getD x1_0.toNat 0).toNat default)).getD x3_0.toNat 0 then true else (x3_5 q).getD false) none,(x3_6++[(flwL (g.nodes.getD (x1_6.getD x1_0.toNat 0).toNat default)).getD x3_0.toNat 0]).length=x3_6.length+1,∀ (i:Nat),i<(x3_6++[(flwL (g.nodes.getD (x1_6.getD x1_0.toNat 0).toNat default)).getD x3_0.toNat 0]).length→i≠x3_6.length→i64T ((x3_6++[(flwL (g.nodes.getD (x1_6.getD x1_0.toNat 0).toNat default)).getD x3_0.toNat 0]).getD i 0)=i64T (x3_6.getD i 0),i64T ((x3_6++[(flwL (g.nodes.getD (x1_6.getD x1_0.toNat 0).toNat default)).getD x3_0.toNat 0]).getD x3_6.length 0) 0=TC.val (Value.int IntKind.i64 ((flwL (g.nodes.getD (x1_6.getD x1_0.toNat 0).toNat default)).getD x3_0.toNat 0))] W7 (vc:=[(0:Int)≤(flwL (g.nodes.getD (x1_6.getD x1_0.toNat 0).toNat default)).getD x3_0.toNat 0,(flwL (g.nodes.getD (x1_6.getD x1_0.toNat 0).toNat default)).getD x3_0.toNat 0<(↑x3_3.length:Int),((flwL (g.nodes.getD (x1_6.getD x1_0.toNat 0).toNat default)).getD x3_0.toNat 0).toNat<x3_3.length,x3_6.length+1≤maxLen,(x3_6.length+1) * 8≤140737488355328,Fits IntKind.i64 (x3_0+(1:Int))]) (hv:=W8)
    ·refine tz [12,80,79,78,10,7,6,5,4,3,2,1] ?_
     refine Q2 Q4u (Qo8 x3_2 ((x3_3.getD ((flwL (g.nodes.getD (x1_6.getD x1_0.toNat 0).toNat default)).getD x3_0.toNat 0).toNat default).a) ((x3_3.getD ((flwL (g.nodes.getD (x1_6.getD x1_0.toNat 0).toNat default)).getD x3_0.toNat 0).toNat default).n) ((x3_3.getD ((flwL (g.nodes.getD (x1_6.getD x1_0.toNat 0).toNat default)).getD x3_0.toNat 0).toNat default).c) nw W87) [7,1] ?_ (vc:=[(0:Int)≤(flwL (g.nodes.getD (x1_6.getD x1_0.toNat 0).toNat default)).getD x3_0.toNat 0,(flwL (g.nodes.getD (x1_6.getD x1_0.toNat 0).toNat default)).getD x3_0.toNat 0<(↑x3_3.length:Int),((flwL (g.nodes.getD (x1_6.getD x1_0.toNat 0).toNat default)).getD x3_0.toNat 0).toNat<x3_3.length]) (hv:=W8)
     refine tz [104,12,80,79,78,10,7,6,5,4,3,2,1] ?_
     refine Q0 (!decide (rd x3_2 (Value.slice (x3_3.getD ((flwL (g.nodes.getD (x1_6.getD x1_0.toNat 0).toNat default)).getD x3_0.toNat 0).toNat default).a (x3_3.getD ((flwL (g.nodes.getD (x1_6.getD x1_0.toNat 0).toNat default)).getD x3_0.toNat 0).toNat default).n (x3_3.getD ((flwL (g.nodes.getD (x1_6.getD x1_0.toNat 0).toNat default)).getD x3_0.toNat 0).toNat default).c)=nw)) (fun h6=>?_) (fun h6=>?_)
     ·exact Q1 [0,1000001] [0] [heldF g.nodes=(flwL (g.nodes.getD (x1_6.getD x1_0.toNat 0).toNat default)).getD x3_0.toNat 0] W69
     ·exact Q6 (L51_1 g x1_0 x1_1 x1_2 x1_3 x1_4 x1_5 x1_6 nw) (x3_0,x3_1,x3_2,x3_3,x3_4,x3_5,x3_6) ((x3_0+(1:Int),x3_1,x3_2,x3_3,x3_4,x3_5,x3_6)) W153 W121 [] [8] [MpEq z77_1 x3_4 (fun (a:Int)=>(x3_5 a).isSome) (fun (a:Int)=>(x3_5 a).getD false) none z77_1 x3_4 (fun (a:Int)=>(x3_5 a).isSome) (fun (a:Int)=>(x3_5 a).getD false) none] W7 (vc:=[Fits IntKind.i64 (x3_0+(1:Int))]) (hv:=W8)
   ·exact Q6 (L51_0 g X0) (x1_0,x1_1,x1_2,x1_3,x1_4,x1_5,x1_6) ((x1_0+(1:Int),x3_1,x3_2,x3_3,x3_4,x3_5,x3_6)) (by dsimp only [L51_0];have q:=of_decide_eq_true h2;have q1:=hJ1.most;have q2:=hJ1.k0;omega) (hJ3.done (of_decide_eq_false h4)) [] [8] [MpEq z77_1 x3_4 (fun (a:Int)=>(x3_5 a).isSome) (fun (a:Int)=>(x3_5 a).getD false) none z77_1 x3_4 (fun (a:Int)=>(x3_5 a).isSome) (fun (a:Int)=>(x3_5 a).getD false) none] W7 (vc:=[Fits IntKind.i64 (x1_0+(1:Int))]) (hv:=W8)
 ·exact Q1 [0,3] [0] [heldF g.nodes=(-1:Int)] W69
end Go.Proofs.YtmaodngbpfjnnaaGreat
end
noncomputable section
namespace Go.Proofs.YtmaodngbpfjnnaaGreat
open Go Go.Tx
theorem Zb (p k h most:Int):Ctr Tryz.prog 104 [.ro [.i .u8 p]] [.c (.i .i64 k),.c (.i .u8 h),.c (.i .i64 most),.c (.p 0 0)]
 (Det (.c (.b (withinP p k h most))) [.dead]):=by
 refine Ctr.intro [] Tryz.func104 K K ?_
 exact Q1 [] [0] [withinP p k h most=(decide (bits BinOp.and IntKind.u8 p h=(0:Int))&&decide (k=(0:Int))||!decide (bits BinOp.and IntKind.u8 p h=(0:Int))&&decide ((0:Int)≤k)&&decide (k<most))] (by simp only [Conj,withinP,usesB] at *<;>grind)
theorem Q3k (p h:Int) (v:Vl) (g:Grf):Ctr Tryz.prog 105 [.ro [.i .u8 p],.ro (g.cs 2),Nod.rowR g.nodes] [.agg v.cs,.c (.i .u8 h),.c (.p 0 0),.c (.p 1 0)]
 (Det (.c (.b (valueP p g.slots v h))) [.dead,.dead,.dead]):=by
 refine Ctr.intro [] Tryz.func105 K K ?_
 refine Q0 (decide (bits BinOp.and IntKind.u8 p h=(0:Int))) (fun h1=>?_) (fun h1=>?_)
 ·exact Q1 [] [0] [valueP p g.slots v h=(decide (v.slotted=false)&&(decide (v.slot=(0:Int))&&(decide (v.word=(0:Int))&&true)))] W136
 ·refine tz [6,4,3] ?_
  refine Q0 (v.slotted) (fun h2=>?_) (fun h2=>?_)
  ·exact Q1 [] [0] [valueP p g.slots v h=(decide ((0:Int)≤v.slot)&&decide (v.slot<g.slots)&&decide (v.word=(0:Int)))] W136
  ·exact Q1 [] [0] [valueP p g.slots v h=decide (v.slot=(0:Int))] W136
end Go.Proofs.YtmaodngbpfjnnaaGreat
end
noncomputable section
namespace Go.Proofs.YtmaodngbpfjnnaaGreat
open Go Go.Tx
theorem Qjm (sh lk:List Dcl) (gs:List Grf) (g:Grf) (n:Nod) (hk:0≤n.kind) (ho:0≤n.op∧n.op≤255):Ctr Tryz.prog 78 [Dcl.rowR sh,Dcl.rowR lk,Grf.rowR gs,Nod.rowR g.nodes] [.agg [.h 0,.h 1,.h 2],.agg (g.cs 3),.agg n.cs]
 (Det (.c (.b (rightN sh.length lk.length g n))) [.dead,.dead,.dead,.dead]):=by
 refine Ctr.intro [] Tryz.func78 K K ?_
 refine Q0 (decide (n.kind=(0:Int))||decide ((10:Int)≤n.kind)||decide (n.origin<(0:Int))||decide ((4096:Int)≤n.origin)) (fun h1=>?_) (fun h1=>?_)
 ·exact Q1 [] [0] [rightN (↑sh.length:Int) (↑lk.length:Int) g n=false] W137
 ·refine tz [6,5,4,3] ?_
  refine Q2 Qdo (Qlp n (by first | assumption | omega | (simp only [BL] at *;omega))) [] ?_
  refine tz [30,6,5,4,3] ?_
  refine Q0 (decide (n.kind=(5:Int))||decide (n.kind=(6:Int))) (fun h2=>?_) (fun h2=>?_)
  ·refine tz [10,9,8,6,5,4,3] ?_
   refine Q2 Y1 (Zb (prtN n) n.op 1 19) [7] ?_ (vc:=[Fits IntKind.i64 n.op]) (hv:=W2)
   refine tz [51,10,9,8,6,5,4] ?_
   refine tG Y1 (Zb (prtN n) n.slot 2 g.slots) [7] ?_
   refine tz [58,52,10,9,8,6,5,4] ?_
   refine tG Y1 (Zb (prtN n) n.thing 4 (↑lk.length:Int)) [7] ?_
   refine tz [65,60,9,8,6,5,4] ?_
   refine tG Y1 (Zb (prtN n) n.next 32 (↑g.nodes.length:Int)) [7] ?_
   refine tz [74,67,9,8,6,5,4] ?_
   refine tG Y1 (Zb (prtN n) n.els 64 (↑g.nodes.length:Int)) [7] ?_
   refine tz [83,76,9,6,5] ?_
   refine tG Gw (Q3k (prtN n) 8 n.a g) [7,5,3] ?_
   refine tz [89,85,9,6,5] ?_
   refine tG Gw (Q3k (prtN n) 16 n.b g) [7,5,3] ?_
   exact Q1 [] [0] [rightN (↑sh.length:Int) (↑lk.length:Int) g n=(withinP (prtN n) n.op (1:Int) (19:Int)&&withinP (prtN n) n.slot (2:Int) g.slots&&withinP (prtN n) n.thing (4:Int) (↑lk.length:Int)&&withinP (prtN n) n.next (32:Int) (↑g.nodes.length:Int)&&withinP (prtN n) n.els (64:Int) (↑g.nodes.length:Int)&&valueP (prtN n) g.slots n.a (8:Int)&&valueP (prtN n) g.slots n.b (16:Int))] W137
  ·refine tz [10,9,8,6,5,4] ?_
   refine Q2 Y1 (Zb (prtN n) n.op 1 19) [7] ?_ (vc:=[Fits IntKind.i64 n.op]) (hv:=W2)
   refine tz [51,10,9,8,6,5,4] ?_
   refine tG Y1 (Zb (prtN n) n.slot 2 g.slots) [7] ?_
   refine tz [58,52,10,9,8,6,5,4] ?_
   refine tG Y1 (Zb (prtN n) n.thing 4 (↑sh.length:Int)) [7] ?_
   refine tz [65,60,9,8,6,5,4] ?_
   refine tG Y1 (Zb (prtN n) n.next 32 (↑g.nodes.length:Int)) [7] ?_
   refine tz [74,67,9,8,6,5,4] ?_
   refine tG Y1 (Zb (prtN n) n.els 64 (↑g.nodes.length:Int)) [7] ?_
   refine tz [83,76,9,6,5] ?_
   refine tG Gw (Q3k (prtN n) 8 n.a g) [7,5,3] ?_
   refine tz [89,85,9,6,5] ?_
   refine tG Gw (Q3k (prtN n) 16 n.b g) [7,5,3] ?_
   exact Q1 [] [0] [rightN (↑sh.length:Int) (↑lk.length:Int) g n=(withinP (prtN n) n.op (1:Int) (19:Int)&&withinP (prtN n) n.slot (2:Int) g.slots&&withinP (prtN n) n.thing (4:Int) (↑sh.length:Int)&&withinP (prtN n) n.next (32:Int) (↑g.nodes.length:Int)&&withinP (prtN n) n.els (64:Int) (↑g.nodes.length:Int)&&valueP (prtN n) g.slots n.a (8:Int)&&valueP (prtN n) g.slots n.b (16:Int))] W137
end Go.Proofs.YtmaodngbpfjnnaaGreat
end
noncomputable section
namespace Go.Proofs.YtmaodngbpfjnnaaGreat
open Go Go.Tx
def L26_0 (sh:List Dcl) (lk:List Dcl) (gs:List Grf):Lp (Int×Int×Int×Int):=⟨fun x=>{ N:=81,fr:=[se 17 (C.i .i64 x.1),se 16 (C.i .i64 (↑gs.length:Int)),se 15 (C.h 2),se 4 (C.i .i64 x.2.1),se 3 (C.i .i64 x.2.2.1),se 2 (C.i .i64 x.2.2.2),se 1 (C.p 3 0)],rg:=[rowOf 3 (·.tc) sh,rowOf 3 (·.tc) lk,rowOf 4 (·.tc) gs,Reg.box 25 [C.h 0,C.h 1,C.h 2]],wr:=[] },fun x=>CJ sh lk gs x.1,fun x=>((gs.length:Int)-x.1).toNat⟩
abbrev z78_1 (gs:List Grf) (x2_0:Int):=[C.v (Value.string (gs.getD x2_0.toNat default).name),C.i .i64 (gs.getD x2_0.toNat default).locals,C.i .i64 (gs.getD x2_0.toNat default).slots,C.h 4]
def L26_1 (sh:List Dcl) (lk:List Dcl) (gs:List Grf) (x2_0:Int) (x2_1:Int) (x2_2:Int) (x2_3:Int):Lp (Int×Int×Int×Int):=⟨fun x=>{ N:=81,fr:=[se 58 (C.i .i64 x.1),se 57 (C.i .i64 (↑(gs.getD x2_0.toNat default).nodes.length:Int)),se 56 (C.h 4),se 5 (C.i .i64 x2_0),se 6 (C.p 5 0),se 17 (C.i .i64 x2_0),se 16 (C.i .i64 (↑gs.length:Int)),se 15 (C.h 2),se 4 (C.i .i64 x.2.1),se 3 (C.i .i64 x.2.2.1),se 2 (C.i .i64 x.2.2.2),se 1 (C.p 3 0)],rg:=[rowOf 3 (·.tc) sh,rowOf 3 (·.tc) lk,Reg.row 4 gs.length (fun i=>(gs.getD i default).tc) (some (x2_0.toNat,(z78_1 gs x2_0))),Reg.box 25 [C.h 0,C.h 1,C.h 2],Reg.row 13 (gs.getD x2_0.toNat default).nodes.length (fun i=>((gs.getD x2_0.toNat default).nodes.getD i default).tc) none,Reg.box 107 (z78_1 gs x2_0)],wr:=[] },fun x=>CN sh.length lk.length (gs.getD x2_0.toNat default) x.1,fun x=>(((gs.getD x2_0.toNat default).nodes.length:Int)-x.1).toNat⟩
theorem Qcj (sh lk:List Dcl) (gs:List Grf) (hs:∀ j:Nat,(sh.getD j default).name.size≤maxLen) (hl:∀ j:Nat,(lk.getD j default).name.size≤maxLen) (hg:∀ j:Nat,(gs.getD j default).name.size≤maxLen) (hw:UnitW gs):Ctr Tryz.prog 52 [Dcl.rowR sh,Dcl.rowR lk,Grf.rowR gs] [.agg [.h 0,.h 1,.h 2]]
 (Det (.tup [(false,[.i .i64 (chkU sh lk gs).1]),(false,[.i .i64 (chkU sh lk gs).2.1]),(false,[.i .i64 (chkU sh lk gs).2.2])]) [.dead,.dead,.dead]):=by
 refine Ctr.intro [] Tryz.func52 K K ?_
 refine RunF.lens 2 (m:=gs.length) K (fun hlens_2=>?_)
 refine Q2 Qdm (Qlf sh lk gs W76 W76 W76) [] ?_
 refine tz [12,4,3,2,1] ?_
 refine Q0 (!namedB sh lk gs) (fun h1=>?_) (fun h1=>?_)
 ·exact Q1 [] [0,1,2] [(chkU sh lk gs).fst=(60:Int),(chkU sh lk gs).snd.fst=(0:Int),(chkU sh lk gs).snd.snd=(0:Int)] W44
 ·refine tz [4,3,2,1] ?_
  refine Qb (L26_0 sh lk gs) (((0:Int),(0:Int),(0:Int),(0:Int))) (CJ.start h1) ?_
  rintro ⟨x2_0,x2_1,x2_2,x2_3⟩ hJ2
  dsimp only [L26_0] at hJ2
  refine tz [17,16,15,4,3,2,1] ?_
  refine Q0 (decide (x2_0<(↑gs.length:Int))) (fun h3=>?_) (fun h3=>?_)
  ·refine Yu 2 (x2_0.toNat) ?_ (vc:=[x2_0.toNat<gs.length]) (hv:=W47)
   refine tz [17,16,15,4,3,2,1] ?_
   refine Q0 (decide ((gs.getD x2_0.toNat default).locals<(0:Int))||decide ((64:Int)<(gs.getD x2_0.toNat default).locals)||decide ((gs.getD x2_0.toNat default).slots<(gs.getD x2_0.toNat default).locals)||decide ((4160:Int)<(gs.getD x2_0.toNat default).slots)||decide ((↑(gs.getD x2_0.toNat default).nodes.length:Int)<(1:Int))||decide ((4096:Int)<(↑(gs.getD x2_0.toNat default).nodes.length:Int))) (fun h4=>?_) (fun h4=>?_) (vc:=[(0:Int)≤x2_0,x2_0<(↑gs.length:Int),x2_0.toNat=x2_0.toNat]) (hv:=W47)
   ·exact Q1 [] [0,1,2] [(chkU sh lk gs).fst=(60:Int),(chkU sh lk gs).snd.fst=x2_0,(chkU sh lk gs).snd.snd=(0:Int)] W44
   ·refine tz [5,6,17,16,15,4,3,2,1] ?_
    refine Qb (L26_1 sh lk gs x2_0 x2_1 x2_2 x2_3) (((0:Int),x2_1,x2_2,x2_3)) (CN.start _ _ _) ?_
    rintro ⟨x5_0,x5_1,x5_2,x5_3⟩ hJ5
    dsimp only [L26_1] at hJ5
    refine tz [58,57,56,5,6,17,16,15,4,3,2,1] ?_
    refine Q0 (decide (x5_0<(↑(gs.getD x2_0.toNat default).nodes.length:Int))) (fun h6=>?_) (fun h6=>?_)
    ·refine tz [58,57,56,5,6,17,16,15,4,3,2,1] ?_
     refine Q2 Qdn (Qjm sh lk gs (gs.getD x2_0.toNat default) ((gs.getD x2_0.toNat default).nodes.getD x5_0.toNat default) W76 W76) [0,1,2,4] ?_ (vc:=[(0:Int)≤x5_0,x5_0<(↑(gs.getD x2_0.toNat default).nodes.length:Int),x5_0.toNat<(gs.getD x2_0.toNat default).nodes.length]) (hv:=W47)
     refine tz [66,7,58,57,56,5,6,17,16,15,4,3,2,1] ?_
     refine Q0 (!rightN (↑sh.length:Int) (↑lk.length:Int) (gs.getD x2_0.toNat default) ((gs.getD x2_0.toNat default).nodes.getD x5_0.toNat default)) (fun h7=>?_) (fun h7=>?_)
     ·exact Q1 [] [0,1,2] [(chkU sh lk gs).fst=(60:Int),(chkU sh lk gs).snd.fst=x2_0,(chkU sh lk gs).snd.snd=x5_0] W44
     ·exact Q6 (L26_1 sh lk gs x2_0 x2_1 x2_2 x2_3) (x5_0,x5_1,x5_2,x5_3) ((x5_0+(1:Int),x5_1,x5_2,x5_3)) (by dsimp only [L26_1];have q:=of_decide_eq_true h6;have q2:=hJ5.i0;omega) (hJ5.next (of_decide_eq_true h6) h7) (vc:=[Fits IntKind.i64 (x5_0+(1:Int))]) (hv:=W47)
    ·refine tz [58,57,56,5,6,17,16,15,4,3,2,1] ?_
     refine Q2 Qf8 (Qn8 (gs.getD x2_0.toNat default) W76 W76) [4] ?_
     refine tz [73,5,17,16,15,4,3,2,1] ?_
     refine Q0 (decide ((0:Int)≤heldF (gs.getD x2_0.toNat default).nodes)) (fun h7=>?_) (fun h7=>?_)
     ·exact Q1 [] [0,1,2] [(chkU sh lk gs).fst=(60:Int),(chkU sh lk gs).snd.fst=x2_0,(chkU sh lk gs).snd.snd=heldF (gs.getD x2_0.toNat default).nodes] W44
     ·exact Q6 (L26_0 sh lk gs) (x2_0,x2_1,x2_2,x2_3) ((x2_0+(1:Int),x5_1,x5_2,x5_3)) (by dsimp only [L26_0];have q:=of_decide_eq_true h3;have q2:=hJ2.t0;omega) (hJ2.next (of_decide_eq_true h3) h4 (hJ5.done (of_decide_eq_false h6)) h7) (vc:=[Fits IntKind.i64 (x2_0+(1:Int))]) (hv:=W47)
  ·exact Q1 [] [0,1,2] [(chkU sh lk gs).fst=(0:Int),(chkU sh lk gs).snd.fst=(0:Int),(chkU sh lk gs).snd.snd=(0:Int)] W44
end Go.Proofs.YtmaodngbpfjnnaaGreat
end
noncomputable section
namespace Go.Proofs.YtmaodngbpfjnnaaGreat
open Go Go.Tx
theorem Q6i (l:List Dcl) (hl:l.length * 128≤140737488355328):Ctr Tryz.prog 53 [Dcl.rowR l] [.c (.h 0)]
 (Det (.c (.h 1)) [.dead,Dcl.ownR l]):=by
 refine Ctr.intro [] Tryz.func53 K K ?_
 refine RunF.rnil (n:=l.length) (vc:=[]) 0 K trivial K (fun _=>by kernel_rfl) (fun nil1 hn1=>?_)
 refine tz [4,2,0] ?_
 refine Q0 (nil1) (fun h2=>?_) (fun h2=>?_)
 ·exact Q1 [0,1000001] [0] [l.length=0] W75
 ·exact Q1 [0,2] [0,1] [l.length=0+l.length,∀ (i:Nat),i<l.length→(l.getD i default).tc=fun j=>if i<0 then rowT 3 [] i j else (l.getD (i-0) default).tc j] W75 (vc:=[∀ (i j:Nat),i<l.length→j<3→flatT ((l.getD i default).tc j),0+l.length≤maxLen,(0+l.length) * 32≤140737488355328]) (hv:=(by simp only [Conj,Fits,Q9,Qa,Qf,Qg,News.len,maxLen]<;>(repeat' (first | apply And.intro | intro _))<;>first | (exact Dcl.flat _ _ (by assumption)) | grind | (simp only [BL] at *;omega)))
theorem Qds (l:List Nod) (hl:l.length * 128≤140737488355328):Ctr Tryz.prog 54 [Nod.rowR l] [.c (.h 0)]
 (Det (.c (.h 1)) [.dead,Nod.ownR l]):=by
 refine Ctr.intro [] Tryz.func54 K K ?_
 refine RunF.rnil (n:=l.length) (vc:=[]) 0 K trivial K (fun _=>by kernel_rfl) (fun nil1 hn1=>?_)
 refine tz [4,2,0] ?_
 refine Q0 (nil1) (fun h2=>?_) (fun h2=>?_)
 ·exact Q1 [0,1000001] [0] [l.length=0] W75
 ·exact Q1 [0,2] [0,1] [l.length=0+l.length,∀ (i:Nat),i<l.length→(l.getD i default).tc=fun j=>if i<0 then rowT 13 [] i j else (l.getD (i-0) default).tc j] W75 (vc:=[∀ (i j:Nat),i<l.length→j<13→flatT ((l.getD i default).tc j),0+l.length≤maxLen,(0+l.length) * 96≤140737488355328]) (hv:=(by simp only [Conj,Fits,Q9,Qa,Qf,Qg,News.len,maxLen]<;>(repeat' (first | apply And.intro | intro _))<;>first | (exact Nod.flat _ _ (by assumption)) | grind | (simp only [BL] at *;omega)))
end Go.Proofs.YtmaodngbpfjnnaaGreat
end
noncomputable section
namespace Go.Proofs.YtmaodngbpfjnnaaGreat
open Go Go.Tx
theorem Qhi (sh lk:List Dcl) (gs:List Grf) (hs:∀ j:Nat,(sh.getD j default).name.size≤maxLen) (hl:∀ j:Nat,(lk.getD j default).name.size≤maxLen) (hg:∀ j:Nat,(gs.getD j default).name.size≤maxLen) (hw:UnitW gs) (hsel:¬ (chkU sh lk gs).1=0):Ctr Tryz.prog 32 [Dcl.rowR sh,Dcl.rowR lk,Grf.rowR gs] [.agg [.h 0,.h 1,.h 2]]
 (Det (.tup [(false,[.v (.pointer none)]),(false,[.i .i64 (chkU sh lk gs).1])]) [.dead,.dead,.dead]):=by
 refine Ctr.intro [] Tryz.func32 K K ?_
 refine Q2 Q6e (Qcj sh lk gs W27 W27 W27 W27) [] ?_
 refine tz [15,3,2,1] ?_
 refine Q0 (!decide ((chkU sh lk gs).fst=(0:Int))) (fun h1=>?_) (fun h1=>?_)
 ·exact Q1
 ·exact (show False from by exact hsel W133).elim
abbrev z83_2 (gs:List Grf):=Reg.own 3 1 gs.length (fun x j=>valT (Value.int IntKind.i64 (0:Int)).cells.toList j) none
abbrev z83_4 (sh:List Dcl):=ownOf 104 3 (·.tc) sh
abbrev z83_5 (lk:List Dcl):=ownOf 104 3 (·.tc) lk
def L7_60 (sh:List Dcl) (lk:List Dcl) (gs:List Grf):Lp (Int×List Grf×List Slt×List Int×List Int):=⟨fun x=>{ N:=117,fr:=[se 49 (C.i .i64 x.1),se 48 (C.i .i64 (↑gs.length:Int)),se 47 (C.h 2),se 1 (C.p 3 0),se 2 (C.v (Value.pointer none)),se 3 (C.i .i64 0),se 7 (C.p 4 0)],rg:=[rowOf 3 (·.tc) sh,rowOf 3 (·.tc) lk,rowOf 4 (·.tc) gs,Reg.box 25 [C.h 0,C.h 1,C.h 2],Reg.box 130 [C.h 7,C.h 8,C.h 9,C.h 5,C.h 10,C.h 11,C.h 6,C.v (Value.slice none 0 0)],z83_2 gs,IntOwn (x.2.2.2.2),z83_4 sh,z83_5 lk]++[Grf.ownR x.2.1]++[Slt.ownR x.2.2.1]++[WordOwn x.2.2.2.1],wr:=[] },fun x=>0≤x.1∧x.1≤(gs.length:Int)∧x.2.2.2.2=List.replicate lk.length 0∧x.2.1=gs.take x.1.toNat∧x.2.2.1=(gs.take x.1.toNat).map (fun g=>(⟨List.replicate g.slots.toNat 0⟩:Slt))∧x.2.2.2.1=[],fun x=>((gs.length:Int)-x.1).toNat⟩
def L7_61 (sh:List Dcl) (lk:List Dcl) (gs:List Grf) (x2_1:List Grf) (x2_2:List Slt) (x2_3:List Int) (x2_4:List Int):Lp (Int×List Grf×List Slt×List Int×List Int):=⟨fun x=>{ N:=117,fr:=[se 85 (C.i .i64 x.1),se 84 (C.i .i64 (↑sh.length:Int)),se 83 (C.h 0),se 2 (C.v (Value.pointer none)),se 3 (C.i .i64 0),se 7 (C.p 4 0)],rg:=[rowOf 3 (·.tc) sh,rowOf 3 (·.tc) lk,rowOf 4 (·.tc) gs,Reg.box 25 [C.h 0,C.h 1,C.h 2],Reg.box 130 [C.h 7,C.h 8,C.h 12,C.h 5,C.h 13,C.h 14,C.h 6,C.v (Value.slice none 0 0)],z83_2 gs,IntOwn (x.2.2.2.2),z83_4 sh,z83_5 lk,Reg.dead,Reg.dead,Reg.dead]++[Grf.ownR x.2.1]++[Slt.ownR x.2.2.1]++[WordOwn x.2.2.2.1],wr:=[] },fun x=>0≤x.1∧x.1≤(sh.length:Int)∧x.2.2.2.2=List.replicate lk.length 0∧x.2.1=gs∧x.2.2.1=gs.map (fun g=>(⟨List.replicate g.slots.toNat 0⟩:Slt))∧x.2.2.2.1=(sh.take x.1.toNat).map (·.word),fun x=>((sh.length:Int)-x.1).toNat⟩
def L7_62 (sh:List Dcl) (lk:List Dcl) (gs:List Grf) (x4_1:List Grf) (x4_2:List Slt) (x4_3:List Int) (x4_4:List Int):Lp (Int×List Grf×List Slt×List Int×List Int):=⟨fun x=>{ N:=117,fr:=[se 106 (C.i .i64 x.1),se 105 (C.i .i64 (↑x4_4.length:Int)),se 2 (C.v (Value.pointer none)),se 3 (C.i .i64 0),se 7 (C.p 4 0)],rg:=[rowOf 3 (·.tc) sh,rowOf 3 (·.tc) lk,rowOf 4 (·.tc) gs,Reg.box 25 [C.h 0,C.h 1,C.h 2],Reg.box 130 [C.h 7,C.h 8,C.h 15,C.h 5,C.h 16,C.h 17,C.h 6,C.v (Value.slice none 0 0)],z83_2 gs,IntOwn (x.2.2.2.2),z83_4 sh,z83_5 lk,Reg.dead,Reg.dead,Reg.dead,Reg.dead,Reg.dead,Reg.dead]++[Grf.ownR x.2.1]++[Slt.ownR x.2.2.1]++[WordOwn x.2.2.2.1],wr:=[] },fun x=>0≤x.1∧x.1≤(lk.length:Int)∧x.2.2.2.2=List.replicate x.1.toNat (-1)++List.replicate (lk.length-x.1.toNat) 0∧x.2.1=gs∧x.2.2.1=gs.map (fun g=>(⟨List.replicate g.slots.toNat 0⟩:Slt))∧x.2.2.2.1=sh.map (·.word),fun x=>((lk.length:Int)-x.1).toNat⟩
abbrev z83_1 (gs:List Grf) (x2_0:Int):=(List.replicate (gs.getD x2_0.toNat default).slots.toNat (0:Int))
abbrev z83_3 (gs:List Grf):=[∀ (i:Nat),i<gs.length→(fun j=>valT (Value.int IntKind.i64 (0:Int)).cells.toList j)=fun j=>valT (Value.int IntKind.i64 (0:Int)).cells.toList j]
theorem Qa9 (sh lk:List Dcl) (gs:List Grf) (hs:∀ j:Nat,(sh.getD j default).name.size≤maxLen) (hl:∀ j:Nat,(lk.getD j default).name.size≤maxLen) (hg:∀ j:Nat,(gs.getD j default).name.size≤maxLen) (hw:UnitW gs) (hsel:(chkU sh lk gs).1=0):Ctr Tryz.prog 32 [Dcl.rowR sh,Dcl.rowR lk,Grf.rowR gs] [.agg [.h 0,.h 1,.h 2]]
 (Det (.tup [(false,[.p 3 0]),(false,[.i .i64 0])]) [.dead,.dead,.dead,Reg.box 130 [.h 4,.h 5,.h 6,.h 7,.h 8,.h 9,.h 10,.h 11],Dcl.ownR sh,Dcl.ownR lk,Grf.ownR gs,IntOwn (newM sh lk gs).pos,Slt.ownR (newM sh lk gs).sl,WordOwn (newM sh lk gs).mem,IntOwn (newM sh lk gs).ho,Prt.ownR []]):=by
 have hcb:=Q2p hsel
 refine Ctr.intro [] Tryz.func32 K K ?_
 refine Q2 Q6e (Qcj sh lk gs W60 W60 W60 W60) [] ?_
 refine tz [15,3,2,1] ?_
 refine Q0 (!decide ((chkU sh lk gs).fst=(0:Int))) (fun h1=>?_) (fun h1=>?_)
 ·exact (show False from by simp [hsel] at h1).elim
 ·refine tz [3,2,1] ?_
  refine Qkq 2 [[],[(0:Int)≤(↑gs.length:Int),(↑gs.length:Int)≤(↑gs.length:Int),(↑gs.length:Int) * (8:Int)≤(140737488355328:Int),(↑gs.length:Int)≤(↑maxLen:Int),(0:Int)≤(↑gs.length:Int),(↑gs.length:Int)≤(↑gs.length:Int),(↑gs.length:Int) * (8:Int)≤(140737488355328:Int),(↑gs.length:Int)≤(↑maxLen:Int)],[(0:Int)≤(↑lk.length:Int),(↑lk.length:Int)≤(↑lk.length:Int),(↑lk.length:Int) * (8:Int)≤(140737488355328:Int),(↑lk.length:Int)≤(↑maxLen:Int),(0:Int)≤(↑lk.length:Int),(↑lk.length:Int)≤(↑lk.length:Int),(↑lk.length:Int) * (8:Int)≤(140737488355328:Int),(↑lk.length:Int)≤(↑maxLen:Int)]] [0,0,0,1,2,2,1] ?_ (by simp only [flatP,List.cons_append,List.nil_append,Conj,Fits,Q9,Qa,Qf,Qg,News.len,maxLen]<;>(repeat' (first | apply And.intro | intro _))<;>first | (have z2:=hcb.1;omega) | (have q:=of_decide_eq_true h3;have z1:=hJ2.1;have z2:=hcb.2 x2_0.toNat (by omega);have z3:=z2.loc;have z4:x2_1.length≤8:=(by rw [hJ2.2.2.2.1,List.length_take];have:=hcb.1;omega);have z5:x2_2.length≤8:=(by rw [hJ2.2.2.2.2.1,List.length_map,List.length_take];have:=hcb.1;omega);omega) | (have q:=of_decide_eq_true h5;have z1:=hJ4.1;have z2:=hcb.1;have z5:x4_3.length≤64:=(by rw [hJ4.2.2.2.2.2,List.length_map,List.length_take];omega);omega) | (have q:=of_decide_eq_true h7;have z1:=hJ6.1;have z2:=hcb.1;omega) | grind | (simp only [BL] at *;omega))
  refine tz [1,2,3,7] ?_
  refine Q2 Jp (Q6i sh W60) [] ?_
  refine tz [35,32,1,2,3,7] ?_
  refine Q2 Jp (Q6i lk W60) [1] ?_
  refine tz [42,39,1,2,3,7] ?_
  refine Qb (L7_60 sh lk gs) (((0:Int),[],[],[],List.replicate lk.length (0:Int))) ⟨Int.le_refl _,by omega,rfl,by simp,by simp,rfl⟩ ?_ [0,1,2,3,4,5,6,7,8,1000009,1000010,1000011] [8,9,10,15,16,17] [∀ (i:Nat),i<gs.length→(fun j=>valT (Value.int IntKind.i64 (0:Int)).cells.toList j)=fun j=>valT (Value.int IntKind.i64 (0:Int)).cells.toList j,(List.replicate lk.length (0:Int)).length=lk.length,∀ (i:Nat),i<(List.replicate lk.length (0:Int)).length→i64T ((List.replicate lk.length (0:Int)).getD i 0)=fun j=>valT (Value.int IntKind.i64 (0:Int)).cells.toList j,(0:Nat)=0,(0:Nat)=0,(0:Nat)=0] (by (try simp only [Conj])<;>(repeat' apply And.intro)<;>first | done | trivial | rfl | (intros;first | rfl | trivial) | exact Y6 _ _ | exact List.length_set | exact Qx _ _ _ | exact Ja _ | exact List.length_replicate | (intro i q;exact Ja _ i (by simpa using q)) | exact J1 _ _ _ _ _ | (exact J2 _ _ _ (by first | omega | (have h0:=Jy (by simpa using h1);have hm:=Jw h0.1;have hs:=Q1j h0.1;omega))) | exact MpEq.put (by omega) | (refine MpEq.mk' (by omega) ?_ ?_<;>intro q<;>first | rfl | (dsimp only;split<;>simp_all)) | (exact MpEq.mkIt (by omega) (fun _=>rfl) (fun _=>rfl) rfl rfl (fun _=>rfl)) | (intro i h1 h2;rw [Zh h1 h2]) | (rw [Yc];rfl))
  rintro ⟨x2_0,x2_1,x2_2,x2_3,x2_4⟩ hJ2
  dsimp only [L7_60] at hJ2
  refine tz [49,48,47,1,2,3,7] ?_
  refine Q0 (decide (x2_0<(↑gs.length:Int))) (fun h3=>?_) (fun h3=>?_)
  ·refine Yu 2 (x2_0.toNat) ?_ (vc:=[x2_0.toNat<gs.length]) (hv:=W23)
   refine tz [49,48,47,1,2,3,7] ?_
   refine Q2 Q3z (Qds ((gs.getD x2_0.toNat default).nodes) W60) [12] ?_ (vc:=[(0:Int)≤x2_0,x2_0<(↑gs.length:Int),x2_0.toNat=x2_0.toNat]) (hv:=W23)
   exact Q1e (L7_60 sh lk gs) (x2_0,x2_1,x2_2,x2_3,x2_4) ((x2_0+(1:Int),x2_1++[gs.getD x2_0.toNat default],x2_2++[Slt.mk (z83_1 gs x2_0)],x2_3,x2_4)) (by dsimp only [L7_60];have q:=of_decide_eq_true h3;have z:=hJ2.1;omega) (by dsimp only [L7_60];have q:=of_decide_eq_true h3;have z:=hJ2.1;have e:(x2_0+1).toNat=x2_0.toNat+1:=(by omega);exact ⟨by omega,by omega,hJ2.2.2.1,(by rw [e,hJ2.2.2.2.1];exact Yv (by omega)),(by rw [e,hJ2.2.2.2.2.1,← Yv (L:=gs) (by omega),List.map_append];rfl),hJ2.2.2.2.2.2⟩) [(16,(Grf.tc (gs.getD x2_0.toNat default))),(19,(Slt.tc (Slt.mk (List.replicate (gs.getD x2_0.toNat default).slots.toNat 0))))] [0,1,2,3,4,5,6,7,8,16,19,11] [8,15,16,17,18] [∀ (i:Nat),i<gs.length→(fun j=>valT (Value.int IntKind.i64 (0:Int)).cells.toList j)=fun j=>valT (Value.int IntKind.i64 (0:Int)).cells.toList j,(x2_1++[gs.getD x2_0.toNat default]).length=x2_1.length+1,∀ (i:Nat),i<(x2_1++[gs.getD x2_0.toNat default]).length→((x2_1++[gs.getD x2_0.toNat default]).getD i default).tc=if i=x2_1.length then (gs.getD x2_0.toNat default).tc else (x2_1.getD i default).tc,(x2_2++[Slt.mk (z83_1 gs x2_0)]).length=x2_2.length+1,∀ (i:Nat),i<(x2_2++[Slt.mk (z83_1 gs x2_0)]).length→((x2_2++[Slt.mk (z83_1 gs x2_0)]).getD i default).tc=if i=x2_2.length then (Slt.mk (z83_1 gs x2_0)).tc else (x2_2.getD i default).tc] W64 (vc:=[x2_1.length+1≤maxLen,(x2_1.length+1) * 56≤140737488355328,(0:Int)≤(gs.getD x2_0.toNat default).slots,(gs.getD x2_0.toNat default).slots≤(gs.getD x2_0.toNat default).slots,(gs.getD x2_0.toNat default).slots * (8:Int)≤(140737488355328:Int),(gs.getD x2_0.toNat default).slots≤(↑maxLen:Int),(0:Int)≤(gs.getD x2_0.toNat default).slots,(gs.getD x2_0.toNat default).slots≤(gs.getD x2_0.toNat default).slots,(gs.getD x2_0.toNat default).slots * (8:Int)≤(140737488355328:Int),(gs.getD x2_0.toNat default).slots≤(↑maxLen:Int),x2_2.length+1≤maxLen,(x2_2.length+1) * 24≤140737488355328,Fits IntKind.i64 (x2_0+(1:Int))]) (hv:=W23) (vc2:=[Value.string (gs.getD x2_0.toNat default).name=Value.string (gs.getD x2_0.toNat default).name,(gs.getD x2_0.toNat default).locals=(gs.getD x2_0.toNat default).locals,(gs.getD x2_0.toNat default).slots=(gs.getD x2_0.toNat default).slots,(gs.getD x2_0.toNat default).nodes.length=(gs.getD x2_0.toNat default).nodes.length,∀ (i:Nat),i<(gs.getD x2_0.toNat default).nodes.length→((gs.getD x2_0.toNat default).nodes.getD i default).tc=((gs.getD x2_0.toNat default).nodes.getD i default).tc,(z83_1 gs x2_0).length=(gs.getD x2_0.toNat default).slots.toNat,∀ (i:Nat),i<(z83_1 gs x2_0).length→i64T ((z83_1 gs x2_0).getD i 0)=fun j=>valT (Value.int IntKind.i64 (0:Int)).cells.toList j]) (hv2:=W126)
  ·refine tz [49,48,47,1,2,3,7] ?_
   refine Qb (L7_61 sh lk gs x2_1 x2_2 x2_3 x2_4) (((0:Int),x2_1,x2_2,x2_3,x2_4)) (by dsimp only [L7_61];have q:=of_decide_eq_false h3;have z:=hJ2.2.1;have e:gs.take x2_0.toNat=gs:=List.take_of_length_le (by omega);refine ⟨Int.le_refl _,by omega,hJ2.2.2.1,by rw [hJ2.2.2.2.1,e],by rw [hJ2.2.2.2.2.1,e],by rw [hJ2.2.2.2.2.2];simp⟩) ?_ [0,1,2,3,4,5,6,7,8,9,10,11,9,10,11] [8] (z83_3 gs) (fun _ _=>rfl)
   rintro ⟨x4_0,x4_1,x4_2,x4_3,x4_4⟩ hJ4
   dsimp only [L7_61] at hJ4
   refine tz [85,84,83,2,3,7] ?_
   refine Q0 (decide (x4_0<(↑sh.length:Int))) (fun h5=>?_) (fun h5=>?_)
   ·exact Q6 (L7_61 sh lk gs x2_1 x2_2 x2_3 x2_4) (x4_0,x4_1,x4_2,x4_3,x4_4) ((x4_0+(1:Int),x4_1,x4_2,x4_3++[(sh.getD x4_0.toNat default).word],x4_4)) (by dsimp only [L7_61];have q:=of_decide_eq_true h5;have z:=hJ4.1;omega) (by dsimp only [L7_61];have q:=of_decide_eq_true h5;have z:=hJ4.1;have e:(x4_0+1).toNat=x4_0.toNat+1:=(by omega);refine ⟨by omega,by omega,hJ4.2.2.1,hJ4.2.2.2.1,hJ4.2.2.2.2.1,?_⟩;rw [e,hJ4.2.2.2.2.2,← Yv (L:=sh) (by omega),List.map_append];rfl) [0,1,2,3,4,5,6,7,8,9,10,11,12,13,17] [8,19,20,21] [∀ (i:Nat),i<gs.length→(fun j=>valT (Value.int IntKind.i64 (0:Int)).cells.toList j)=fun j=>valT (Value.int IntKind.i64 (0:Int)).cells.toList j,(x4_3++[(sh.getD x4_0.toNat default).word]).length=x4_3.length+1,∀ (i:Nat),i<(x4_3++[(sh.getD x4_0.toNat default).word]).length→i≠x4_3.length→i64T ((x4_3++[(sh.getD x4_0.toNat default).word]).getD i 0)=i64T (x4_3.getD i 0),i64T ((x4_3++[(sh.getD x4_0.toNat default).word]).getD x4_3.length 0) 0=TC.val (Value.int IntKind.i64 (sh.getD x4_0.toNat default).word)] W64 (vc:=[(0:Int)≤x4_0,x4_0<(↑sh.length:Int),x4_0.toNat<sh.length,x4_3.length+1≤maxLen,(x4_3.length+1) * 8≤140737488355328,Fits IntKind.i64 (x4_0+(1:Int))]) (hv:=W23)
   ·refine tz [85,84,83,2,3,7] ?_
    refine Qb (L7_62 sh lk gs x4_1 x4_2 x4_3 x4_4) (((0:Int),x4_1,x4_2,x4_3,x4_4)) (by dsimp only [L7_62];have q:=of_decide_eq_false h5;have z:=hJ4.2.1;have e:sh.take x4_0.toNat=sh:=List.take_of_length_le (by omega);refine ⟨Int.le_refl _,by omega,by rw [hJ4.2.2.1];simp,hJ4.2.2.2.1,hJ4.2.2.2.2.1,by rw [hJ4.2.2.2.2.2,e]⟩) ?_ [0,1,2,3,4,5,6,7,8,9,10,11,12,13,14,12,13,14] [8] (z83_3 gs) (fun _ _=>rfl)
    rintro ⟨x6_0,x6_1,x6_2,x6_3,x6_4⟩ hJ6
    dsimp only [L7_62] at hJ6
    refine tz [106,105,2,3,7] ?_
    refine Q0 (decide (x6_0<(↑x4_4.length:Int))) (fun h7=>?_) (fun h7=>?_)
    ·exact Q6 (L7_62 sh lk gs x4_1 x4_2 x4_3 x4_4) (x6_0,x6_1,x6_2,x6_3,x6_4) ((x6_0+(1:Int),x6_1,x6_2,x6_3,x6_4.set x6_0.toNat (-1:Int))) (by dsimp only [L7_62];have q:=of_decide_eq_true h7;have z:=hJ6.1;have z2:x4_4.length=lk.length:=(by rw [hJ4.2.2.1];exact List.length_replicate);omega) (by dsimp only [L7_62];have q:=of_decide_eq_true h7;have z:=hJ6.1;have z2:x4_4.length=lk.length:=(by rw [hJ4.2.2.1];exact List.length_replicate);have e:(x6_0+1).toNat=x6_0.toNat+1:=(by omega);refine ⟨by omega,by omega,?_,hJ6.2.2.2.1,hJ6.2.2.2.2.1,hJ6.2.2.2.2.2⟩;rw [hJ6.2.2.1];exact Qjf lk.length hJ6.1 (by omega)) [] [8,9,10] [∀ (i:Nat),i<gs.length→(fun j=>valT (Value.int IntKind.i64 (0:Int)).cells.toList j)=fun j=>valT (Value.int IntKind.i64 (0:Int)).cells.toList j,(x6_4.set x6_0.toNat (-1:Int)).length=x6_4.length,∀ (i:Nat),i<(x6_4.set x6_0.toNat (-1:Int)).length→i64T ((x6_4.set x6_0.toNat (-1:Int)).getD i 0)=updT (fun i=>i64T (x6_4.getD i 0)) x6_0.toNat 0 [Value.int IntKind.i64 (-1:Int)] i] W64 (vc:=[(0:Int)≤x6_0,x6_0<(↑x6_4.length:Int),x6_0.toNat<x6_4.length,Fits IntKind.i64 (x6_0+(1:Int))]) (hv:=W23)
    ·exact Q1 [0,1,2,4,7,8,15,5,16,17,6,1000011] [4,5,6,7,8,9,10,11,12,13,14] [gs.length=x6_1.length,∀ (i:Nat),i<gs.length→(gs.getD i default).tc=(x6_1.getD i default).tc,(newM sh lk gs).pos.length=gs.length,∀ (i:Nat),i<(newM sh lk gs).pos.length→i64T ((newM sh lk gs).pos.getD i 0)=fun j=>valT (Value.int IntKind.i64 (0:Int)).cells.toList j,(newM sh lk gs).sl.length=x6_2.length,∀ (i:Nat),i<(newM sh lk gs).sl.length→((newM sh lk gs).sl.getD i default).tc=(x6_2.getD i default).tc,(newM sh lk gs).mem.length=x6_3.length,∀ (i:Nat),i<(newM sh lk gs).mem.length→i64T ((newM sh lk gs).mem.getD i 0)=i64T (x6_3.getD i 0),(newM sh lk gs).ho.length=x6_4.length,∀ (i:Nat),i<(newM sh lk gs).ho.length→i64T ((newM sh lk gs).ho.getD i 0)=i64T (x6_4.getD i 0),(0:Nat)=0] (by obtain ⟨q0,q1,q2,q3,q4,q5⟩:=hJ6;have q6:x6_0.toNat=lk.length:=(by have z:=of_decide_eq_false h7;have z2:x4_4.length=lk.length:=(by rw [hJ4.2.2.1];exact List.length_replicate);omega);rw [q6,Nat.sub_self,List.replicate_zero,List.append_nil] at q2;subst q2 q3 q4 q5;simp only [Conj];(repeat' apply And.intro)<;>first | trivial | rfl | exact List.length_replicate | (intro i q;exact Ja _ i q) | (intros;first | trivial | rfl))
end Go.Proofs.YtmaodngbpfjnnaaGreat
end
noncomputable section
namespace Go.Proofs.YtmaodngbpfjnnaaGreat
open Go Go.Tx
theorem Qep (sh lk:List Dcl) (gs:List Grf) (m:Mch) (t:Int):Ctr Tryz.prog 80 [.ro [.h 1,.h 2,.h 3,.h 4,.h 5,.h 6,.h 7,.h 8],Dcl.rowR sh,Dcl.rowR lk,Grf.rowR gs,IntRow m.pos,Slt.rowR m.sl,WordRow m.mem,IntRow m.ho,Prt.rowR m.pr] [.c (.p 0 0),.c (.i .i64 t)]
 (Det (.c (.b (decide ((0:Int)≤t)&&decide (t<(m.pos.length:Int))))) [.dead,.dead,.dead,.dead,.dead,.dead,.dead,.dead,.dead]):=by
 refine Ctr.intro [] Tryz.func80 K K ?_
 exact Q1
abbrev z80_1 (gs:List Grf) (t:Int) (m:Mch):=((gs.getD t.toNat default).nodes.getD (m.pos.getD t.toNat 0).toNat default)
theorem Qkx (sh lk:List Dcl) (gs:List Grf) (m:Mch) (t:Int) (hQ:MchQ sh.length lk.length gs m) (hw:UnitW gs):Ctr Tryz.prog 59 [.ro [.h 1,.h 2,.h 3,.h 4,.h 5,.h 6,.h 7,.h 8],Dcl.rowR sh,Dcl.rowR lk,Grf.rowR gs,IntRow m.pos,Slt.rowR m.sl,WordRow m.mem,IntRow m.ho,Prt.rowR m.pr] [.c (.p 0 0),.c (.i .i64 t)]
 (Det (.c (.i .i64 (barV gs m.pos m.ho t))) [.dead,.dead,.dead,.dead,.dead,.dead,.dead,.dead,.dead]):=by
 refine Ctr.intro [] Tryz.func59 K K ?_
 refine Q2 Z7 (Qep sh lk gs m t) [] ?_
 refine tz [12,4,0,1] ?_
 refine Q0 (!(decide ((0:Int)≤t)&&decide (t<(↑m.pos.length:Int)))) (fun h1=>?_) (fun h1=>?_)
 ·exact Q1 [] [0] [barV gs m.pos m.ho t=(2:Int)] W108
 ·refine Yu 3 (t.toNat) ?_ (vc:=[t.toNat<gs.length]) (hv:=W79)
  refine tz [4,0,1] ?_
  refine Q0 (decide ((z80_1 gs t m).kind=(9:Int))) (fun h2=>?_) (fun h2=>?_) (vc:=[(0:Int)≤t,t<(↑gs.length:Int),t.toNat=t.toNat,(0:Int)≤t,t<(↑m.pos.length:Int),t.toNat<m.pos.length,(0:Int)≤m.pos.getD t.toNat 0,m.pos.getD t.toNat 0<(↑(gs.getD t.toNat default).nodes.length:Int),(m.pos.getD t.toNat 0).toNat<(gs.getD t.toNat default).nodes.length]) (hv:=W79)
  ·exact Q1 [] [0] [barV gs m.pos m.ho t=(70:Int)] W108
  ·refine tz [5,4,0] ?_
   refine Q0 (decide ((z80_1 gs t m).kind=(5:Int))&&decide ((0:Int)≤m.ho.getD (z80_1 gs t m).thing.toNat (0:Int))) (fun h3=>?_) (fun h3=>?_) (vc:=[decide (((gs.getD t.toNat default).nodes.getD (m.pos.getD t.toNat 0).toNat default).kind=(5:Int))=true→(0:Int)≤((gs.getD t.toNat default).nodes.getD (m.pos.getD t.toNat 0).toNat default).thing,decide (((gs.getD t.toNat default).nodes.getD (m.pos.getD t.toNat 0).toNat default).kind=(5:Int))=true→((gs.getD t.toNat default).nodes.getD (m.pos.getD t.toNat 0).toNat default).thing<(↑m.ho.length:Int),decide (((gs.getD t.toNat default).nodes.getD (m.pos.getD t.toNat 0).toNat default).kind=(5:Int))=true→((gs.getD t.toNat default).nodes.getD (m.pos.getD t.toNat 0).toNat default).thing.toNat<m.ho.length]) (hv:=W79)
   ·exact Q1 [] [0] [barV gs m.pos m.ho t=(71:Int)] W108
   ·exact Q1 [] [0] [barV gs m.pos m.ho t=(0:Int)] W108
end Go.Proofs.YtmaodngbpfjnnaaGreat
end
noncomputable section
namespace Go.Proofs.YtmaodngbpfjnnaaGreat
open Go Go.Tx
theorem Qm :Ctr Tryz.prog 137 [] []
 (Det (.agg [.v Value.nilFunc,.v Value.nilFunc,C.fn 138 false [],.v Value.nilFunc,C.fn 139 false [],.v Value.nilFunc,C.fn 140 false [],.v Value.nilFunc,C.fn 141 false [],.v Value.nilFunc,C.fn 142 false [],.v Value.nilFunc,C.fn 143 false [],.v Value.nilFunc,C.fn 144 false [],.v Value.nilFunc,C.fn 145 false [],.v Value.nilFunc,C.fn 146 false [],.v Value.nilFunc,C.fn 147 false [],.v Value.nilFunc,C.fn 148 false [],.v Value.nilFunc,C.fn 149 false [],.v Value.nilFunc,C.fn 150 false [],.v Value.nilFunc,C.fn 151 false [],.v Value.nilFunc,C.fn 152 false [],.v Value.nilFunc,C.fn 153 false [],.v Value.nilFunc,.v Value.nilFunc,C.fn 154 false [],.v Value.nilFunc,C.fn 155 false []]) []):=by
 refine Ctr.intro [] Tryz.func137 K K ?_
 exact Q1
abbrev z41_1 (k:Int):=(if twoB k=true then (0:Int) else (2:Int))=(0:Int)
abbrev z41_2 (k:Int) (a:Int) (b:Int):=(if twoB k=true then opTwo k a b else (0:Int))
theorem Qoh (k a b:Int):Ctr Tryz.prog 132 [] [.c (.i .u8 k),.c (.i .i64 a),.c (.i .i64 b)]
 (Det (.tup [(false,[.i .i64 (if twoB k then opTwo k a b else 0)]),(false,[.i .i64 (if twoB k then 0 else 2)])]) []):=by
 refine Ctr.intro [] Tryz.func132 K K ?_
 refine Q2 Qu (Gj k) [] ?_
 refine tz [10,7,6,0,1,2] ?_
 refine Q0 (!twoB k) (fun h1=>?_) (fun h1=>?_)
 ·exact Q1 [] [0,1] [(z41_2 k a b)=(0:Int),(if twoB k=true then (0:Int) else (2:Int))=(2:Int)] W34
 ·rcases (show k=(1:Int)∨k=(2:Int)∨k=(3:Int)∨k=(4:Int)∨k=(5:Int)∨k=(6:Int)∨k=(7:Int)∨k=(8:Int)∨k=(9:Int)∨k=(10:Int)∨k=(11:Int)∨k=(12:Int)∨k=(13:Int)∨k=(14:Int)∨k=(15:Int)∨k=(16:Int) from by (simp only [twoB,opB] at h1;simp only [BL] at *;omega)) with hs2 | hs2 | hs2 | hs2 | hs2 | hs2 | hs2 | hs2 | hs2 | hs2 | hs2 | hs2 | hs2 | hs2 | hs2 | hs2
  ·refine tWk (St.mk 20 [se 11 (C.t false),se 10 (C.b (twoB (1:Int))),se 7 (C.i .i64 0),se 6 (C.i .i64 0),se 0 (C.i .u8 1),se 1 (C.i .i64 a),se 2 (C.i .i64 b)] [] []) ?_ [] [0,3] [twoB (1:Int)=twoB k,(1:Int)=k] W12
   refine tz [7,6,0,1,2] ?_
   refine Q2 Q7 (Qm) [] ?_
   refine tz [12,7,6,0,1,2] ?_
   refine Q2 Q6w (Qlg a b) [] ?_ (vc:=[(0:Int)≤(1:Int),(1:Int)<(19:Int)]) (hv:=W31)
   exact Q1 [] [0,1] [(z41_2 k a b)=w64 (a+b),z41_1 k] W34
  ·refine tWk (St.mk 20 [se 11 (C.t false),se 10 (C.b (twoB (2:Int))),se 7 (C.i .i64 0),se 6 (C.i .i64 0),se 0 (C.i .u8 2),se 1 (C.i .i64 a),se 2 (C.i .i64 b)] [] []) ?_ [] [0,3] [twoB (2:Int)=twoB k,(2:Int)=k] W12
   refine tz [7,6,0,1,2] ?_
   refine Q2 Q7 (Qm) [] ?_
   refine tz [12,7,6,0,1,2] ?_
   refine Q2 Q6x (Qlh a b) [] ?_ (vc:=[(0:Int)≤(2:Int),(2:Int)<(19:Int)]) (hv:=W31)
   exact Q1 [] [0,1] [(z41_2 k a b)=w64 (a-b),z41_1 k] W34
  ·refine tWk (St.mk 20 [se 11 (C.t false),se 10 (C.b (twoB (3:Int))),se 7 (C.i .i64 0),se 6 (C.i .i64 0),se 0 (C.i .u8 3),se 1 (C.i .i64 a),se 2 (C.i .i64 b)] [] []) ?_ [] [0,3] [twoB (3:Int)=twoB k,(3:Int)=k] W12
   refine tz [7,6,0,1,2] ?_
   refine Q2 Q7 (Qm) [] ?_
   refine tz [12,7,6,0,1,2] ?_
   refine Q2 Q6y (Qli a b) [] ?_ (vc:=[(0:Int)≤(3:Int),(3:Int)<(19:Int)]) (hv:=W31)
   exact Q1 [] [0,1] [(z41_2 k a b)=w64 (a * b),z41_1 k] W34
  ·refine tWk (St.mk 20 [se 11 (C.t false),se 10 (C.b (twoB (4:Int))),se 7 (C.i .i64 0),se 6 (C.i .i64 0),se 0 (C.i .u8 4),se 1 (C.i .i64 a),se 2 (C.i .i64 b)] [] []) ?_ [] [0,3] [twoB (4:Int)=twoB k,(4:Int)=k] W12
   refine tz [7,6,0,1,2] ?_
   refine Q2 Q7 (Qm) [] ?_
   refine tz [12,7,6,0,1,2] ?_
   refine Q2 Q1i (Qeo a b) [] ?_ (vc:=[(0:Int)≤(4:Int),(4:Int)<(19:Int)]) (hv:=W31)
   exact Q1 [] [0,1] [(z41_2 k a b)=divI a b,z41_1 k] W34
  ·refine tWk (St.mk 20 [se 11 (C.t false),se 10 (C.b (twoB (5:Int))),se 7 (C.i .i64 0),se 6 (C.i .i64 0),se 0 (C.i .u8 5),se 1 (C.i .i64 a),se 2 (C.i .i64 b)] [] []) ?_ [] [0,3] [twoB (5:Int)=twoB k,(5:Int)=k] W12
   refine tz [7,6,0,1,2] ?_
   refine Q2 Q7 (Qm) [] ?_
   refine tz [12,7,6,0,1,2] ?_
   refine Q2 Q6z (Qlj a b) [] ?_ (vc:=[(0:Int)≤(5:Int),(5:Int)<(19:Int)]) (hv:=W31)
   exact Q1 [] [0,1] [(z41_2 k a b)=remI a b,z41_1 k] W34
  ·refine tWk (St.mk 20 [se 11 (C.t false),se 10 (C.b (twoB (6:Int))),se 7 (C.i .i64 0),se 6 (C.i .i64 0),se 0 (C.i .u8 6),se 1 (C.i .i64 a),se 2 (C.i .i64 b)] [] []) ?_ [] [0,3] [twoB (6:Int)=twoB k,(6:Int)=k] W12
   refine tz [7,6,0,1,2] ?_
   refine Q2 Q7 (Qm) [] ?_
   refine tz [12,7,6,0,1,2] ?_
   refine Q2 Q70 (Qlk a b) [] ?_ (vc:=[(0:Int)≤(6:Int),(6:Int)<(19:Int)]) (hv:=W31)
   exact Q1 [] [0,1] [(z41_2 k a b)=bits BinOp.and IntKind.i64 a b,z41_1 k] W34
  ·refine tWk (St.mk 20 [se 11 (C.t false),se 10 (C.b (twoB (7:Int))),se 7 (C.i .i64 0),se 6 (C.i .i64 0),se 0 (C.i .u8 7),se 1 (C.i .i64 a),se 2 (C.i .i64 b)] [] []) ?_ [] [0,3] [twoB (7:Int)=twoB k,(7:Int)=k] W12
   refine tz [7,6,0,1,2] ?_
   refine Q2 Q7 (Qm) [] ?_
   refine tz [12,7,6,0,1,2] ?_
   refine Q2 Q8g (Qn6 a b) [] ?_ (vc:=[(0:Int)≤(7:Int),(7:Int)<(19:Int)]) (hv:=W31)
   exact Q1 [] [0,1] [(z41_2 k a b)=bits BinOp.or IntKind.i64 a b,z41_1 k] W34
  ·refine tWk (St.mk 20 [se 11 (C.t false),se 10 (C.b (twoB (8:Int))),se 7 (C.i .i64 0),se 6 (C.i .i64 0),se 0 (C.i .u8 8),se 1 (C.i .i64 a),se 2 (C.i .i64 b)] [] []) ?_ [] [0,3] [twoB (8:Int)=twoB k,(8:Int)=k] W12
   refine tz [7,6,0,1,2] ?_
   refine Q2 Q7 (Qm) [] ?_
   refine tz [12,7,6,0,1,2] ?_
   refine Q2 Q71 (Qll a b) [] ?_ (vc:=[(0:Int)≤(8:Int),(8:Int)<(19:Int)]) (hv:=W31)
   exact Q1 [] [0,1] [(z41_2 k a b)=bits BinOp.xor IntKind.i64 a b,z41_1 k] W34
  ·refine tWk (St.mk 20 [se 11 (C.t false),se 10 (C.b (twoB (9:Int))),se 7 (C.i .i64 0),se 6 (C.i .i64 0),se 0 (C.i .u8 9),se 1 (C.i .i64 a),se 2 (C.i .i64 b)] [] []) ?_ [] [0,3] [twoB (9:Int)=twoB k,(9:Int)=k] W12
   refine tz [7,6,0,1,2] ?_
   refine Q2 Q7 (Qm) [] ?_
   refine tz [12,7,6,0,1,2] ?_
   refine Q2 Q72 (Qlm a b) [] ?_ (vc:=[(0:Int)≤(9:Int),(9:Int)<(19:Int)]) (hv:=W31)
   exact Q1 [] [0,1] [(z41_2 k a b)=shlI IntKind.i64 a (cntI b),z41_1 k] W34
  ·refine tWk (St.mk 20 [se 11 (C.t false),se 10 (C.b (twoB (10:Int))),se 7 (C.i .i64 0),se 6 (C.i .i64 0),se 0 (C.i .u8 10),se 1 (C.i .i64 a),se 2 (C.i .i64 b)] [] []) ?_ [] [0,3] [twoB (10:Int)=twoB k,(10:Int)=k] W12
   refine tz [7,6,0,1,2] ?_
   refine Q2 Q7 (Qm) [] ?_
   refine tz [12,7,6,0,1,2] ?_
   refine Q2 Q73 (Qln a b) [] ?_ (vc:=[(0:Int)≤(10:Int),(10:Int)<(19:Int)]) (hv:=W31)
   exact Q1 [] [0,1] [(z41_2 k a b)=shrI IntKind.i64 a (cntI b),z41_1 k] W34
  ·refine tWk (St.mk 20 [se 11 (C.t false),se 10 (C.b (twoB (11:Int))),se 7 (C.i .i64 0),se 6 (C.i .i64 0),se 0 (C.i .u8 11),se 1 (C.i .i64 a),se 2 (C.i .i64 b)] [] []) ?_ [] [0,3] [twoB (11:Int)=twoB k,(11:Int)=k] W12
   refine tz [7,6,0,1,2] ?_
   refine Q2 Q7 (Qm) [] ?_
   refine tz [12,7,6,0,1,2] ?_
   refine Q2 Q8h (Qn7 a b) [] ?_ (vc:=[(0:Int)≤(11:Int),(11:Int)<(19:Int)]) (hv:=W31)
   exact Q1 [] [0,1] [(z41_2 k a b)=truthI (decide (a=b)),z41_1 k] W34
  ·refine tWk (St.mk 20 [se 11 (C.t false),se 10 (C.b (twoB (12:Int))),se 7 (C.i .i64 0),se 6 (C.i .i64 0),se 0 (C.i .u8 12),se 1 (C.i .i64 a),se 2 (C.i .i64 b)] [] []) ?_ [] [0,3] [twoB (12:Int)=twoB k,(12:Int)=k] W12
   refine tz [7,6,0,1,2] ?_
   refine Q2 Q7 (Qm) [] ?_
   refine tz [12,7,6,0,1,2] ?_
   refine Q2 Q4w (Qhd a b) [] ?_ (vc:=[(0:Int)≤(12:Int),(12:Int)<(19:Int)]) (hv:=W31)
   exact Q1 [] [0,1] [(z41_2 k a b)=truthI !decide (a=b),z41_1 k] W34
  ·refine tWk (St.mk 20 [se 11 (C.t false),se 10 (C.b (twoB (13:Int))),se 7 (C.i .i64 0),se 6 (C.i .i64 0),se 0 (C.i .u8 13),se 1 (C.i .i64 a),se 2 (C.i .i64 b)] [] []) ?_ [] [0,3] [twoB (13:Int)=twoB k,(13:Int)=k] W12
   refine tz [7,6,0,1,2] ?_
   refine Q2 Q7 (Qm) [] ?_
   refine tz [12,7,6,0,1,2] ?_
   refine Q2 Q5v (Qjk a b) [] ?_ (vc:=[(0:Int)≤(13:Int),(13:Int)<(19:Int)]) (hv:=W31)
   exact Q1 [] [0,1] [(z41_2 k a b)=truthI (decide (a<b)),z41_1 k] W34
  ·refine tWk (St.mk 20 [se 11 (C.t false),se 10 (C.b (twoB (14:Int))),se 7 (C.i .i64 0),se 6 (C.i .i64 0),se 0 (C.i .u8 14),se 1 (C.i .i64 a),se 2 (C.i .i64 b)] [] []) ?_ [] [0,3] [twoB (14:Int)=twoB k,(14:Int)=k] W12
   refine tz [7,6,0,1,2] ?_
   refine Q2 Q7 (Qm) [] ?_
   refine tz [12,7,6,0,1,2] ?_
   refine Q2 Q5w (Qjl a b) [] ?_ (vc:=[(0:Int)≤(14:Int),(14:Int)<(19:Int)]) (hv:=W31)
   exact Q1 [] [0,1] [(z41_2 k a b)=truthI (decide (a≤b)),z41_1 k] W34
  ·refine tWk (St.mk 20 [se 11 (C.t false),se 10 (C.b (twoB (15:Int))),se 7 (C.i .i64 0),se 6 (C.i .i64 0),se 0 (C.i .u8 15),se 1 (C.i .i64 a),se 2 (C.i .i64 b)] [] []) ?_ [] [0,3] [twoB (15:Int)=twoB k,(15:Int)=k] W12
   refine tz [7,6,0,1,2] ?_
   refine Q2 Q7 (Qm) [] ?_
   refine tz [12,7,6,0,1,2] ?_
   refine Q2 Q4x (Qhe a b) [] ?_ (vc:=[(0:Int)≤(15:Int),(15:Int)<(19:Int)]) (hv:=W31)
   exact Q1 [] [0,1] [(z41_2 k a b)=truthI (decide (b<a)),z41_1 k] W34
  ·refine tWk (St.mk 20 [se 11 (C.t false),se 10 (C.b (twoB (16:Int))),se 7 (C.i .i64 0),se 6 (C.i .i64 0),se 0 (C.i .u8 16),se 1 (C.i .i64 a),se 2 (C.i .i64 b)] [] []) ?_ [] [0,3] [twoB (16:Int)=twoB k,(16:Int)=k] W12
   refine tz [7,6,0,1,2] ?_
   refine Q2 Q7 (Qm) [] ?_
   refine tz [12,7,6,0,1,2] ?_
   refine Q2 Q4y (Qhf a b) [] ?_ (vc:=[(0:Int)≤(16:Int),(16:Int)<(19:Int)]) (hv:=W31)
   exact Q1 [] [0,1] [(z41_2 k a b)=truthI (decide (b≤a)),z41_1 k] W34
abbrev z41_3 (k:Int):=(if (opB k&&!twoB k)=true then (0:Int) else (2:Int))
theorem Qo9 (k a:Int):Ctr Tryz.prog 133 [] [.c (.i .u8 k),.c (.i .i64 a)]
 (Det (.tup [(false,[.i .i64 (if opB k&&!twoB k then opOne k a else 0)]),(false,[.i .i64 (if opB k&&!twoB k then 0 else 2)])]) []):=by
 refine Ctr.intro [] Tryz.func133 K K ?_
 refine Q2 Q3u (Qem k) [] ?_
 refine tz [8,5,4,0,1] ?_
 refine tG Qu (Gj k) [] ?_
 refine tz [12,10,5,4,0,1] ?_
 refine Q0 (!opB k||twoB k) (fun h1=>?_) (fun h1=>?_)
 ·exact Q1 [] [0,1] [(if (opB k&&!twoB k)=true then opOne k a else (0:Int))=(0:Int),(z41_3 k)=(2:Int)] W109
 ·rcases (show k=(17:Int)∨k=(18:Int) from by (simp only [twoB,opB] at h1;simp only [BL] at *;omega)) with hs2 | hs2
  ·refine tWk (St.mk 21 [se 13 (C.t false),se 10 (C.b !opB (17:Int)),se 5 (C.i .i64 0),se 4 (C.i .i64 0),se 0 (C.i .u8 17),se 1 (C.i .i64 a)] [] []) ?_ [] [0,3] [(!opB (17:Int))=!opB k,(17:Int)=k] W12
   refine tz [5,4,0,1] ?_
   refine Q2 Q7 (Qm) [] ?_
   refine tz [14,5,4,0,1] ?_
   refine Q2 Q4z (Qhg a) [] ?_ (vc:=[(0:Int)≤(17:Int),(17:Int)<(19:Int)]) (hv:=W31)
   exact Q1 [] [0,1] [(if (opB k&&!twoB k)=true then opOne k a else (0:Int))=w64 ((0:Int)-a),(z41_3 k)=(0:Int)] W109
  ·refine tWk (St.mk 21 [se 13 (C.t false),se 10 (C.b !opB (18:Int)),se 5 (C.i .i64 0),se 4 (C.i .i64 0),se 0 (C.i .u8 18),se 1 (C.i .i64 a)] [] []) ?_ [] [0,3] [(!opB (18:Int))=!opB k,(18:Int)=k] W12
   refine tz [5,4,0,1] ?_
   refine Q2 Q7 (Qm) [] ?_
   refine tz [14,5,4,0,1] ?_
   refine Q2 Q74 (Qlo a) [] ?_ (vc:=[(0:Int)≤(18:Int),(18:Int)<(19:Int)]) (hv:=W31)
   exact Q1 [] [0,1] [(if (opB k&&!twoB k)=true then opOne k a else (0:Int))=truthI (decide (a=(0:Int))),(z41_3 k)=(0:Int)] W109
end Go.Proofs.YtmaodngbpfjnnaaGreat
end
