/-
  A part of the proof. Text 7 of 9.
-/
import Derived.Test.YtnddggenhefaeaaGreatDoorP5
import Derived.Test.YtnddggenhefaeaaGreatDoorP4
import Derived.Test.YtnddggenhefaeaaGreatDoorP6
import Derived.WalkKit
set_option linter.unusedSimpArgs false
set_option linter.unusedVariables false
set_option maxHeartbeats 4000000
set_option linter.unusedSectionVars false
open List renaming replicate→jf,getD_eq_getElem?_getD→jc,getElem?_eq_none→jX,getElem_mem→jU,mem_append_left→jY,append_nil→j6,mem_cons_self→j9,mem_cons_of_mem→jV,length_drop→kB,getElem?_drop→j8,length_set→jy,take_succ_eq_append_getElem→jR,take_of_length_le→kD,range→jD,length_map→jP,length_range→kC,range_succ→kz,countP_append→k9,mem_singleton→jK,length_append→jm,length_singleton→km,length_take→jO,take→jW,getElem?_set_ne→jF,getElem?_set_self→jI,mem_of_getElem?→ju
open Int renaming le_refl→jE,toNat_of_nonneg→kv
open Nat renaming le_refl→jp,mul_le_mul_right→kr
open Go.Proofs.Tryz renaming prog→jb
open Go.IntKind renaming i64→ja,u32→jq
open Go.Value renaming int→jg,slice→ji,bool→jC,string→jG
open And renaming intro→jo
open Go.BinOp renaming and→jx
open Inhabited renaming default→ub
noncomputable section
namespace Go.Proofs.YtnddggenhefaeaaGreatDoor
open Go Go.Tx
def bsF (P U:List Int):List Int→Int→Int
 | [],b=>b
 | p::r,b=>bsF P U r (if U.getD p.toNat 0<0 then b else if b<0 then p else mtF P U b p)
def tnF (l:List Nod) (U:List Int) (n:Int):List Int:=U.set n.toNat (bsF (plcL l) U ((aheadL l).getD n.toNat ub).l (-1))
def tlF (l:List Nod):List Int:=(ordL l).drop 1
def rnG (l:List Nod) (U:List Int) (i:Nat):List Int:=((tlF l).take i).foldl (tnF l) U
def rnF (l:List Nod) (U:List Int):List Int:=(tlF l).foldl (tnF l) U
def itF (l:List Nod):Nat→List Int→List Int
 | 0,U=>U
 | k+1,U=>itF l k (rnF l U)
def dm0 (l:List Nod):List Int:=(jf l.length (-1)).set 0 0
def domL (l:List Nod):List Int:=(itF l l.length (dm0 l)).set 0 (-1)
def lfF (l:List Nod):Nat→List Int→Nat
 | 0,_=>0
 | k+1,U=>(if rnF l U=U then 0 else 1)+lfF l k (rnF l U)
theorem Q66 (l:List Nod):∀ (k:Nat) (U:List Int),itF l (k+1) U=rnF l (itF l k U)
 | 0,U=>rfl
 | k+1,U=>Q66 l k (rnF l U)
theorem Q1w (l:List Nod):∀ (a b:Nat) (U:List Int),itF l (a+b) U=itF l a (itF l b U)
 | a,0,U=>rfl
 | a,b+1,U=>Q1w l a b (rnF l U)
theorem Q0v {l:List Nod} {U:List Int} (h:rnF l U=U):∀ k,itF l k U=U
 | 0=>rfl
 | k+1=>by rw [itF,h];exact Q0v h k
theorem Qc6 (l:List Nod):∀ (k:Nat) (U:List Int),lfF l (k+1) U=lfF l k U+(if rnF l (itF l k U)=itF l k U then 0 else 1)
 | 0,U=>by
   show (if rnF l U=U then 0 else 1)+0=0+(if rnF l U=U then 0 else 1)
   omega
 | k+1,U=>by
   have h:=Qc6 l k (rnF l U)
   rw [lfF,h]
   conv=>rhs;rw [lfF]
   rw [itF]
   omega
theorem Qk6 {l:List Nod} {k:Nat} {U:List Int} (h:rnF l (itF l k U)=itF l k U) (hn:rnF l U≠U):lfF l k (rnF l U)+1=lfF l k U:=by
 have h1:=Qc6 l k U
 rw [if_pos h,lfF,if_neg hn] at h1
 omega
def drG (l:List Nod):Go.Dm.Gr:=⟨l.length,fun q=>((aheadL l).getD q ub).l.map Int.toNat,(ordL l).map Int.toNat,fun m=>((plcL l).getD m 0).toNat⟩
def trU (U:List Int):Go.Dm.Tree:=fun m=>if 0≤U.getD m (-1) then some (U.getD m (-1)).toNat else none
theorem Q67 {U:List Int} {m:Nat} (h:m<U.length) (a b:Int):U.getD m a=U.getD m b:=by rw [Qc h,Qc h]
theorem Q68 (o:List Int) (n:Nat):∀ (i j:Nat),0≤(plcU o n i).getD j 0
 | 0,j=>by
   unfold plcU
   by_cases h:j<(jf n (0:Int)).length
   ·rw [Qc h];simp
   ·rw [jc,jX W29];exact jE _
 | i+1,j=>by
   unfold plcU
   by_cases h:(o.getD i 0).toNat<(plcU o n i).length
   ·rw [Qr _ _ _ _ _ h];split
    ·omega
    ·exact Q68 o n i j
   ·rw [List.set_eq_of_length_le W29];exact Q68 o n i j
section
variable {l:List Nod} (hq:∀ i:Nat,i<l.length→∀ x∈flwL (l.getD i ub),0≤x∧x<(l.length:Int)) (h0:0<l.length)
include hq h0
theorem Q8n:BkJ l (bkF l)∧(bkF l).st=[]:=Q8b hq _ _ (jp _) (.start h0)
theorem Qe9:∃ r,ordL l=0::r:=by
 have z:=Q8n hq h0
 have z1:=z.1.fin (by simp [psB,z.2])
 obtain ⟨r,z1⟩:=z1
 exact ⟨r.reverse,by unfold ordL;rw [z1];simp⟩
theorem Q1x {j:Nat} (hj:j<(ordL l).length):(plcL l).getD ((ordL l).getD j 0).toNat 0=j:=by
 have z:=Q1u hq h0
 exact Qbn z.1 z.2.1 _ (jp _) j hj
omit hq h0 in
theorem Qc7 {j:Nat} (hj:j<(ordL l).length):(ordL l).getD j 0∈ordL l:=by rw [Qc hj];exact jU _
theorem Qea {x:Int} (h:x∈ordL l):∃ j,j<(ordL l).length∧(ordL l).getD j 0=x∧(plcL l).getD x.toNat 0=j:=by
 obtain ⟨j,hj,e⟩:=List.mem_iff_getElem.1 h
 have e2:(ordL l).getD j 0=x:=by rw [Qc hj];exact e
 exact ⟨j,hj,e2,by rw [← e2];exact Q1x hq h0 hj⟩
theorem Qk7 {x:Int} (h:x∈ordL l) (hx:x≠0):∃ p∈ordL l,x∈flwL (l.getD p.toNat ub)∧(plcL l).getD p.toNat 0<(plcL l).getD x.toNat 0:=by
 have z:=Q8n hq h0
 have hod:(bkF l).od=(ordL l).reverse:=by unfold ordL;rw [List.reverse_reverse]
 obtain ⟨b,a,e⟩:=List.append_of_mem h
 have e1:(bkF l).od=a.reverse++x::b.reverse:=by rw [hod,e];simp
 obtain ⟨p,_,p1,p2⟩:=z.1.par _ _ _ e1 hx
 have p3:p∈b:=by
  rcases p2 with p2 | p2
  ·simp [psB,z.2] at p2
  ·exact List.mem_reverse.1 p2
 have hx2:(ordL l).getD b.length 0=x:=by rw [e];simp
 have px:=Q1x hq h0 (j:=b.length) (by rw [e];simp)
 rw [hx2] at px
 obtain ⟨j,hj,ej⟩:=List.mem_iff_getElem.1 p3
 have hp2:(ordL l).getD j 0=p:=by rw [e,Yx hj,Qc hj];exact ej
 have pp:=Q1x hq h0 (j:=j) (by rw [e];simp;omega)
 rw [hp2] at pp
 exact ⟨p,by rw [e];exact jY _ p3,p1,by rw [px,pp];omega⟩
theorem Q0i:(drG l).Ok:=by
 have z:=Q1u hq h0
 have zb:=Q8n hq h0
 obtain ⟨r,hr⟩:=Qe9 hq h0
 have ix:∀ m:Nat,m∈(drG l).ord→∃ j,j<(ordL l).length∧(ordL l).getD j 0=(m:Int)∧(drG l).pl m=j:=by
  intro m hm
  obtain ⟨x,hx,rfl⟩:=List.mem_map.1 hm
  obtain ⟨j,j1,j2,j3⟩:=Qea hq h0 hx
  have:=z.1 x hx
  refine ⟨j,j1,by omega,?_⟩
  show ((plcL l).getD x.toNat 0).toNat=j
  rw [j3];rfl
 have p0:(ordL l).getD 0 0=0:=by rw [hr];rfl
 refine ⟨fun m hm=>?_,List.mem_map.2 ⟨0,by rw [hr];simp,rfl⟩,?_,fun m hm hne=>?_,fun a b ha hb e=>?_,fun p q hp hqn hpq=>?_⟩
 ·obtain ⟨x,hx,rfl⟩:=List.mem_map.1 hm
  have:=z.1 x hx
  show x.toNat<l.length
  omega
 ·have h1:=Q1x hq h0 (j:=0) (by rw [hr];simp)
  rw [p0] at h1
  show ((plcL l).getD 0 0).toNat=0
  rw [show (0:Nat)=(0:Int).toNat from rfl,h1];rfl
 ·obtain ⟨j,j1,j2,j3⟩:=ix m hm
  rw [j3]
  rcases Nat.eq_zero_or_pos j with e | e
  ·subst e;rw [p0] at j2;omega
  ·exact e
 ·obtain ⟨i,i1,i2,i3⟩:=ix a ha
  obtain ⟨j,j1,j2,j3⟩:=ix b hb
  have:i=j:=by omega
  subst this
  omega
 ·obtain ⟨x,hx,rfl⟩:=List.mem_map.1 hp
  obtain ⟨y,hy,e⟩:=List.mem_map.1 hpq
  have hy2:=(Gq hq _ _).1 hy
  have hx2:=z.1 x hx
  have exy:y=x:=by omega
  subst exy
  have hod:y∈(bkF l).od:=List.mem_reverse.1 hx
  have h1:=zb.1.cl y hod _ hy2.2.2
  have h2:=(zb.1.sn _).1 h1
  rw [show psB (bkF l)=[] by simp [psB,zb.2],j6] at h2
  exact List.mem_map.2 ⟨(q:Int),List.mem_reverse.2 h2,rfl⟩
end
structure DmI (l:List Nod) (U:List Int) (k i:Nat):Prop where
 len:U.length=l.length
 rg:∀ m:Nat,m<l.length→-1≤U.getD m 0∧U.getD m 0<(l.length:Int)
 inv:Go.Dm.Inv (drG l) (trU U) (fun m=>if (drG l).pl m≤i then k+1 else k)
theorem Q9n {g:Go.Dm.Gr} {o:Go.Dm.Tree} {r r':Nat→Nat} (hg:g.Ok) (h:Go.Dm.Inv g o r) (e:∀ m∈g.ord,m≠0→r' m=r m):Go.Dm.Inv g o r':=by
 obtain ⟨a,b,c,d,f,q⟩:=h
 refine ⟨a,fun m hm=>?_,c,d,fun l k m t hk=>f l k m t ?_,q⟩
 ·rw [b m hm]
  constructor
  ·rintro ⟨x,y⟩;exact ⟨x,by rw [e m x hm];exact y⟩
  ·rintro ⟨x,y⟩;exact ⟨x,by rw [← e m x hm];exact y⟩
 ·rcases hk with hk | hk
  ·exact .inl hk
  ·by_cases e0:m=0
   ·exact .inl e0
   ·exact .inr (by rw [← e m (t.mem hg) e0];exact hk)
theorem G6 {U:List Int} {x:Int} (h:MtS U x):trU U x.toNat=some (U.getD x.toNat 0).toNat:=by
 unfold trU
 rw [Q67 (b:=0) (by have:=h.2.1;have:=h.1;omega),if_pos h.2.2]
theorem Q1y {U:List Int} {x:Int} (h0:0≤x) (h1:x<(U.length:Int)) (h:trU U x.toNat≠none):MtS U x:=by
 refine ⟨h0,h1,?_⟩
 unfold trU at h
 rw [Q67 (b:=0) W29] at h
 by_cases e:0≤U.getD x.toNat 0
 ·exact e
 ·rw [if_neg e] at h;exact absurd rfl h
theorem Qn8 {U:List Int} {n c:Int} (hn:0≤n∧n<(U.length:Int)) (hc:0≤c):trU (U.set n.toNat c)=Go.Dm.upd (trU U) n.toNat c.toNat:=by
 funext m
 unfold trU Go.Dm.upd
 rw [Qr _ _ _ _ _ W29]
 split
 ·simp [hc]
 ·rfl
section
variable {l:List Nod} (hq:∀ i:Nat,i<l.length→∀ x∈flwL (l.getD i ub),0≤x∧x<(l.length:Int)) (h0:0<l.length) {U:List Int} {k i:Nat}
include hq h0
omit hq h0 in
theorem pl_ge (m:Nat):0≤(plcL l).getD m 0:=Q68 _ _ _ _
theorem DmI.mth (h:DmI l U k i):MtH (plcL l) U:=by
 have hg:=Q0i hq h0
 have mem:∀ x,MtS U x→x.toNat∈(drG l).ord:=fun x hx=>h.inv.mem hg (by rw [G6 hx];simp)
 refine ⟨by unfold plcL;rw [Q2p,h.len],fun x _=>pl_ge _,fun x hx hp=>?_,fun x y hx hy e=>?_⟩
 ·have hx0:x.toNat≠0:=fun e=>by
   have z:=hg.rootP
   have z1:(drG l).pl x.toNat=((plcL l).getD x.toNat 0).toNat:=rfl
   rw [e] at z1
   rw [z] at z1
   rw [e] at hp
   omega
  have d:=h.inv.dec _ _ hx0 (G6 hx)
  have z:=(h.rg x.toNat (by have:=hx.2.1;have:=hx.1;have:=h.len;omega))
  have d1:((plcL l).getD (U.getD x.toNat 0).toNat 0).toNat<((plcL l).getD x.toNat 0).toNat:=d.1
  have z1:=pl_ge (l:=l) (U.getD x.toNat 0).toNat
  exact ⟨Q1y hx.2.2 (by rw [h.len];exact z.2) d.2,by omega⟩
 ·have e2:=hg.inj _ _ (mem x hx) (mem y hy) (by show ((plcL l).getD x.toNat 0).toNat=((plcL l).getD y.toNat 0).toNat;rw [e])
  have:=hx.1;have:=hy.1
  omega
omit hq in
theorem DmI.root (h:DmI l U k i):MtS U 0:=Q1y (x:=0) (jE _) (by rw [h.len];omega) (by show trU U 0≠none;rw [h.inv.root];simp)
theorem DmI.meet (h:DmI l U k i):∀ (n:Nat) (a b:Int),MtS U a→MtS U b→(plcL l).getD a.toNat 0+(plcL l).getD b.toNat 0≤n→MtS U (mtG (plcL l) U n a b)∧∀ x,Go.Dm.Anc (trU U) (mtG (plcL l) U n a b).toNat x↔Go.Dm.Anc (trU U) a.toNat x∧Go.Dm.Anc (trU U) b.toNat x
 | 0,a,b,ha,hb,hn=>by
   have p1:=pl_ge (l:=l) a.toNat
   have p2:=pl_ge (l:=l) b.toNat
   have e:=(h.mth hq h0).one a b ha hb W29
   subst e
   exact ⟨ha,fun x=>⟨fun t=>⟨t,t⟩,fun t=>t.1⟩⟩
 | n+1,a,b,ha,hb,hn=>by
   have hg:=Q0i hq h0
   have hM:=h.mth hq h0
   have p1:=pl_ge (l:=l) a.toNat
   have p2:=pl_ge (l:=l) b.toNat
   have nz:∀ x:Int,0<(plcL l).getD x.toNat 0→x.toNat≠0:=fun x hx e=>by
    have z:=hg.rootP
    have z1:(drG l).pl x.toNat=((plcL l).getD x.toNat 0).toNat:=rfl
    rw [e,z] at z1
    rw [e] at hx
    omega
   unfold mtG
   split
   ·rename_i e;subst e
    exact ⟨ha,fun x=>⟨fun t=>⟨t,t⟩,fun t=>t.1⟩⟩
   ·rename_i e
    split
    ·rename_i e2
     have u:=hM.up a ha W29
     obtain ⟨g1,g2⟩:=h.meet n _ b u.1 hb W29
     refine ⟨g1,fun x=>(g2 x).trans ?_⟩
     exact (h.inv.meet_step (nz a W29) (G6 ha) (by show ((plcL l).getD b.toNat 0).toNat<((plcL l).getD a.toNat 0).toNat;omega) x).symm
    ·rename_i e2
     have e3:(plcL l).getD a.toNat 0<(plcL l).getD b.toNat 0:=by
      rcases Int.lt_or_eq_of_le (show (plcL l).getD a.toNat 0≤(plcL l).getD b.toNat 0 by omega) with t | t
      ·exact t
      ·exact absurd (hM.one a b ha hb t) e
     have u:=hM.up b hb W29
     obtain ⟨g1,g2⟩:=h.meet n a _ ha u.1 W29
     refine ⟨g1,fun x=>(g2 x).trans ?_⟩
     have s:=h.inv.meet_step (nz b W29) (G6 hb) (by show ((plcL l).getD a.toNat 0).toNat<((plcL l).getD b.toNat 0).toNat;omega) x
     exact ⟨fun t=>⟨t.1,(s.2 ⟨t.2,t.1⟩).1⟩,fun t=>⟨t.1,(s.1 ⟨t.2,t.1⟩).1⟩⟩
theorem DmI.best (h:DmI l U k i):∀ (A:List Int) (b:Int),(∀ p∈A,0≤p∧p<(l.length:Int))→(b=-1∨MtS U b) →
 (bsF (plcL l) U A b=-1∧b=-1∧∀ p∈A,U.getD p.toNat 0<0)∨(MtS U (bsF (plcL l) U A b)∧∀ x,Go.Dm.Anc (trU U) (bsF (plcL l) U A b).toNat x↔(b=-1∨Go.Dm.Anc (trU U) b.toNat x)∧∀ p∈A,0≤U.getD p.toNat 0→Go.Dm.Anc (trU U) p.toNat x)
 | [],b,_,hb=>by
   rcases hb with hb | hb
   ·exact .inl ⟨hb,hb,fun p hp=>absurd hp W149⟩
   ·exact .inr ⟨hb,fun x=>⟨fun t=>⟨.inr t,fun p hp=>absurd hp W149⟩,fun t=>t.1.resolve_left (by have:=hb.1;omega)⟩⟩
 | p::r,b,hA,hb=>by
   have hp:=hA p j9
   have hr:∀ q∈r,0≤q∧q<(l.length:Int):=fun q hq=>hA q (jV _ hq)
   have hl:=h.len
   unfold bsF
   by_cases c1:U.getD p.toNat 0<0
   ·rw [if_pos c1]
    rcases h.best r b hr hb with ⟨g1,g2,g3⟩ | ⟨g1,g2⟩
    ·exact .inl ⟨g1,g2,fun q hq=>by rcases List.mem_cons.1 hq with rfl | hq;exact c1;exact g3 q hq⟩
    ·refine .inr ⟨g1,fun x=>(g2 x).trans ⟨fun t=>⟨t.1,fun q hq hs=>?_⟩,fun t=>⟨t.1,fun q hq=>t.2 q (jV _ hq)⟩⟩⟩
     rcases List.mem_cons.1 hq with rfl | hq
     ·omega
     ·exact t.2 q hq hs
   ·rw [if_neg c1]
    have hpS:MtS U p:=⟨hp.1,by omega,by omega⟩
    by_cases c2:b<0
    ·rw [if_pos c2]
     have hb1:b=-1:=hb.resolve_right (fun t=>by have:=t.1;omega)
     rcases h.best r p hr (.inr hpS) with ⟨g1,g2,g3⟩ | ⟨g1,g2⟩
     ·omega
     ·refine .inr ⟨g1,fun x=>(g2 x).trans ⟨fun t=>⟨.inl hb1,fun q hq hs=>?_⟩,fun t=>⟨.inr (t.2 p j9 W29),fun q hq=>t.2 q (jV _ hq)⟩⟩⟩
      rcases List.mem_cons.1 hq with rfl | hq
      ·exact t.1.resolve_left W29
      ·exact t.2 q hq hs
    ·rw [if_neg c2]
     have hb1:MtS U b:=hb.resolve_left W29
     obtain ⟨m1,m2⟩:=h.meet hq h0 _ b p hb1 hpS (Int.self_le_toNat _)
     rcases h.best r (mtF (plcL l) U b p) hr (.inr m1) with ⟨g1,g2,g3⟩ | ⟨g1,g2⟩
     ·have:=m1.1;unfold mtF at g2;omega
     ·refine .inr ⟨g1,fun x=>(g2 x).trans ⟨fun t=>?_,fun t=>⟨.inr ((m2 x).2 ⟨t.1.resolve_left W29,t.2 p j9 W29⟩),fun q hq=>t.2 q (jV _ hq)⟩⟩⟩
      have t1:=(m2 x).1 (t.1.resolve_left (by have:=m1.1;unfold mtF;omega))
      refine ⟨.inr t1.1,fun q hq hs=>?_⟩
      rcases List.mem_cons.1 hq with rfl | hq
      ·exact t1.2
      ·exact t.2 q hq hs
omit hq h0 in
theorem Qqx {i:Nat} (hi:i<(tlF l).length):(tlF l).getD i 0=(ordL l).getD (i+1) 0∧i+1<(ordL l).length:=by
 have h1:(tlF l).length=(ordL l).length-1:=by unfold tlF;rw [kB]
 refine ⟨?_,by omega⟩
 rw [jc,jc]
 unfold tlF
 rw [j8,Nat.add_comm]
def cbF (l:List Nod) (U:List Int) (n:Int):Int:=bsF (plcL l) U ((aheadL l).getD n.toNat ub).l (-1)
theorem Q2x {i:Nat} (hi:i<(tlF l).length):0≤(tlF l).getD i 0∧(tlF l).getD i 0<(l.length:Int)∧(tlF l).getD i 0≠0∧(tlF l).getD i 0∈ordL l∧(plcL l).getD ((tlF l).getD i 0).toNat 0=(i:Int)+1:=by
 obtain ⟨e,hi2⟩:=Qqx hi
 rw [e]
 have h1:=(Q1u hq h0).1 _ (Qc7 hi2)
 have h2:=Q1x hq h0 hi2
 refine ⟨h1.1,h1.2,fun e0=>?_,Qc7 hi2,by rw [h2];omega⟩
 have z:=(Q0i hq h0).rootP
 have z1:(drG l).pl 0=((plcL l).getD (0:Int).toNat 0).toNat:=rfl
 rw [e0] at h2
 rw [h2,z] at z1
 omega
theorem DmI.turn (h:DmI l U k i) (hi:i<(tlF l).length):MtS U (cbF l U ((tlF l).getD i 0))∧DmI l (tnF l U ((tlF l).getD i 0)) k (i+1)∧(l.length≤k→cbF l U ((tlF l).getD i 0)=U.getD ((tlF l).getD i 0).toNat 0):=by
 have hg:=Q0i hq h0
 obtain ⟨n0,n1,n2,n3,n4⟩:=Q2x hq h0 hi
 unfold tnF cbF
 generalize hn:(tlF l).getD i 0=n at n0 n1 n2 n3 n4
 have hl:=h.len
 have hA:∀ p∈((aheadL l).getD n.toNat ub).l,0≤p∧p<(l.length:Int):=fun p hp=>by
  have z:=(Gq hq _ _).1 hp
  exact ⟨z.1,z.2.1⟩
 have n0':n.toNat≠0:=by omega
 have nm:n.toNat∈(drG l).ord:=List.mem_map.2 ⟨n,n3,rfl⟩
 have npl:(drG l).pl n.toNat=i+1:=by show ((plcL l).getD n.toNat 0).toNat=i+1;rw [n4];omega
 obtain ⟨p,p1,p2,p3⟩:=Qk7 hq h0 n3 n2
 have pr:=(Q1u hq h0).1 p p1
 have pge:=pl_ge (l:=l) p.toNat
 have ppl:(drG l).pl p.toNat≤i:=by show ((plcL l).getD p.toNat 0).toNat≤i;omega
 have pA:p∈((aheadL l).getD n.toNat ub).l:=(Gq hq _ _).2 ⟨pr.1,pr.2,by rw [show ((n.toNat:Nat):Int)=n by omega];exact p2⟩
 have pset:trU U p.toNat≠none:=by
  by_cases e:p.toNat=0
  ·rw [e,h.inv.root];simp
  ·exact (h.inv.some_ _ e).2 ⟨List.mem_map.2 ⟨p,p1,rfl⟩,by rw [if_pos ppl];omega⟩
 have pS:MtS U p:=Q1y pr.1 W29 pset
 rcases h.best hq h0 _ (-1) hA (.inl rfl) with ⟨_,_,g3⟩ | ⟨g1,g2⟩
 ·have:=g3 p pA;have:=pS.2.2;omega
 generalize bsF (plcL l) U ((aheadL l).getD n.toNat ub).l (-1)=c at g1 g2
 have hb:Go.Dm.Best (drG l) (trU U) n.toNat c.toNat:=by
  refine ⟨fun x=>(g2 x).trans ⟨fun t q hq' hs=>?_,fun t=>⟨.inl rfl,fun q hq' hs=>?_⟩⟩,by rw [G6 g1];simp⟩
  ·obtain ⟨y,hy,rfl⟩:=List.mem_map.1 hq'
   have yr:=hA y hy
   exact t.2 y hy (Q1y yr.1 W29 hs).2.2
  ·have yr:=hA q hq'
   exact t q.toNat (List.mem_map.2 ⟨q,hq',rfl⟩) (by rw [G6 ⟨yr.1,by omega,hs⟩];simp)
 have hs:∃ q∈(drG l).pre n.toNat,trU U q≠none∧(drG l).pl q<(drG l).pl n.toNat:=⟨p.toNat,List.mem_map.2 ⟨p,pA,rfl⟩,pset,by omega⟩
 refine ⟨g1,⟨by rw [jy];exact hl,fun m hm=>?_,?_⟩,fun hk=>?_⟩
 ·rw [Qr _ _ _ _ _ W29]
  split
  ·have:=g1.1;have:=g1.2.1;omega
  ·exact h.rg m hm
 ·rw [Qn8 ⟨n0,by omega⟩ g1.1]
  refine Q9n hg (h.inv.turn hg (k:=k+1) n0' nm hb W29 (fun m _ _ hm=>?_) (fun m _ _ hm=>?_) hs) (fun m hm hm0=>?_)
  ·rw [if_pos W29]
  ·rw [if_neg W29]
  ·show (if (drG l).pl m≤i+1 then k+1 else k)=if m=n.toNat then k+1 else if (drG l).pl m≤i then k+1 else k
   by_cases e:m=n.toNat
   ·rw [if_pos e,if_pos (by rw [e,npl];omega)]
   ·rw [if_neg e]
    have:(drG l).pl m≠i+1:=fun e2=>e (hg.inj _ _ hm nm (by rw [e2,npl]))
    by_cases e3:(drG l).pl m≤i
    ·rw [if_pos e3,if_pos W29]
    ·rw [if_neg e3,if_neg W29]
 ·have hns:trU U n.toNat≠none:=(h.inv.some_ _ n0').2 ⟨nm,by split<;>omega⟩
  have nS:=Q1y n0 W29 hns
  have e:=h.inv.still hg n0' nm hb (G6 nS) (fun m _ _=>by show l.length≤_;split<;>omega) hs
  have:=g1.1;have:=nS.2.2
  omega
omit hq h0 in
theorem Q0j (hi:i<(tlF l).length) (U:List Int):rnG l U (i+1)=tnF l (rnG l U i) ((tlF l).getD i 0):=by
 unfold rnG
 rw [jR hi,List.foldl_append,Qc hi];rfl
theorem DmI.rounds (h:DmI l U k 0):∀ i,i≤(tlF l).length→DmI l (rnG l U i) k i
 | 0,_=>h
 | i+1,hi=>by
   rw [Q0j W29]
   exact ((h.rounds i W29).turn hq h0 W29).2.1
omit hq h0 in
theorem Q8o (U:List Int):rnG l U (tlF l).length=rnF l U:=by unfold rnG rnF;rw [List.take_length]
theorem DmI.round (h:DmI l U k 0):DmI l (rnF l U) (k+1) 0:=by
 have hg:=Q0i hq h0
 have z:=h.rounds hq h0 _ (jp _)
 rw [Q8o] at z
 refine ⟨z.len,z.rg,Q9n hg z.inv fun m hm hm0=>?_⟩
 have hp:=hg.pos m hm hm0
 obtain ⟨x,hx,rfl⟩:=List.mem_map.1 hm
 obtain ⟨j,j1,j2,j3⟩:=Qea hq h0 hx
 have h1:(tlF l).length=(ordL l).length-1:=by unfold tlF;rw [kB]
 have h2:(drG l).pl x.toNat=j:=by show ((plcL l).getD x.toNat 0).toNat=j;rw [j3];rfl
 show (if (drG l).pl x.toNat≤0 then k+1+1 else k+1)=if (drG l).pl x.toNat≤(tlF l).length then k+1 else k
 rw [if_neg W29,if_pos W29]
theorem DmI.start:DmI l (dm0 l) 0 0:=by
 have hg:=Q0i hq h0
 have g0:∀ m:Nat,m<l.length→(dm0 l).getD m 0=if m=0 then 0 else -1:=fun m hm=>by
  unfold dm0
  rw [Qr _ _ _ _ _ (by simpa using h0)]
  split
  ·rfl
  ·rw [Qc (by simpa using hm)];simp
 have hlen:(dm0 l).length=l.length:=by simp [dm0]
 have ht:∀ m:Nat,trU (dm0 l) m=if m=0 then some 0 else none:=fun m=>by
  unfold trU
  by_cases hm:m<l.length
  ·rw [Q67 (b:=0) W29,g0 m hm]
   by_cases e:m=0
   ·simp [e]
   ·simp [e]
  ·rw [jc,jX W29]
   have:m≠0:=by omega
   simp [this]
 refine ⟨hlen,fun m hm=>by rw [g0 m hm];split<;>omega,⟨by rw [ht];simp,fun m hm=>?_,fun m p hm hp=>?_,fun m p hm hp=>?_,fun ll kk m t hk x hx=>?_,fun m d hm hd=>?_⟩⟩
 ·rw [ht,if_neg hm]
  constructor
  ·intro h;exact absurd rfl h
  ·rintro ⟨hmm,hr⟩
   have:=hg.pos m hmm hm
   rw [if_neg W29] at hr
   omega
 ·rw [ht,if_neg hm] at hp;exact absurd hp W149
 ·rw [ht,if_neg hm] at hp;exact absurd hp W149
 ·have hm:m=0:=by
   rcases hk with hk | hk
   ·exact hk
   ·by_cases e:m=0
    ·exact e
    ·have:=hg.pos m (t.mem hg) e
     rw [if_neg W29] at hk
     omega
  subst hm
  have:=hx.root
  subst this
  cases t with
  | nil=>simp
  | snoc=>exact j9
 ·have hm0:m=0:=by
   by_cases e:m=0
   ·exact e
   ·rw [ht,if_neg e] at hm;exact absurd rfl hm
  subst hm0
  have z:=hd _ _ .nil
  simp at z
  subst z
  exact .refl _
theorem DmI.it:∀ j,DmI l (itF l j (dm0 l)) j 0
 | 0=>.start hq h0
 | j+1=>by rw [Q66];exact (DmI.it j).round hq h0
theorem DmI.stop (h:DmI l U k 0) (hk:l.length≤k):rnF l U=U:=by
 have z:∀ i,i≤(tlF l).length→rnG l U i=U:=by
  intro i
  induction i with
  | zero=>intro _;rfl
  | succ i ih =>
    intro hi
    have e:=ih W29
    rw [Q0j W29,e]
    have t:=h.rounds hq h0 i W29
    rw [e] at t
    have u:=(t.turn hq h0 W29).2.2 hk
    have o:=Q2x hq h0 (show i<(tlF l).length by omega)
    unfold tnF
    unfold cbF at u
    rw [u]
    have hl:=h.len
    rw [Qc (l:=U) W29]
    exact List.set_getElem_self _
 rw [← Q8o]
 exact z _ (jp _)
theorem Q8p:rnF l (itF l l.length (dm0 l))=itF l l.length (dm0 l):=(DmI.it hq h0 _).stop hq h0 (jp _)
end
def DmJ (l:List Nod) (U:List Int):Prop:=∃ j,U=itF l j (dm0 l)
structure RnJ (l:List Nod) (U0 U:List Int) (i:Int) (ag:Bool):Prop where
 lo:0≤i
 hi:i≤((tlF l).length:Int)
 eq:U=rnG l U0 i.toNat
 no:ag=false→U=U0
 yes:ag=true→∃ m:Nat,m<i.toNat∧U.getD ((tlF l).getD m 0).toNat 0≠U0.getD ((tlF l).getD m 0).toNat 0
structure BsJ (P U A:List Int) (x b:Int):Prop where
 lo:0≤x
 hi:x≤(A.length:Int)
 eq:b=bsF P U (A.take x.toNat) (-1)
 set:b=-1∨MtS U b
theorem Qc8 (P U:List Int) (p:Int):∀ (A:List Int) (b:Int),bsF P U (A++[p]) b=if U.getD p.toNat 0<0 then bsF P U A b else if bsF P U A b<0 then p else mtF P U (bsF P U A b) p
 | [],b=>rfl
 | q::r,b=>by rw [List.cons_append,bsF,Qc8 P U p r];rfl
section
variable {l:List Nod} (hq:∀ i:Nat,i<l.length→∀ x∈flwL (l.getD i ub),0≤x∧x<(l.length:Int)) (h0:0<l.length) {U0 U:List Int} {i x b:Int} {ag:Bool}
include hq h0
theorem DmJ.rn (h:DmJ l U0) (h1:RnJ l U0 U i ag):∃ k,DmI l U k i.toNat:=by
 obtain ⟨j,rfl⟩:=h
 refine ⟨j,?_⟩
 rw [h1.eq]
 exact (DmI.it hq h0 j).rounds hq h0 _ (by have:=h1.lo;have:=h1.hi;omega)
omit hq h0 in
theorem RnJ.start (U0:List Int):RnJ l U0 U0 0 false:=⟨jE _,by omega,rfl,fun _=>rfl,fun h=>absurd h W149⟩
theorem RnJ.same (h:RnJ l U0 U i ag) (hj:DmJ l U0) (hi:i<((tlF l).length:Int)) (e:U.getD ((tlF l).getD i.toNat 0).toNat 0=cbF l U ((tlF l).getD i.toNat 0)):RnJ l U0 U (i+1) ag:=by
 obtain ⟨k,z⟩:=hj.rn hq h0 h
 obtain ⟨a1,a2,a3,a4,a5⟩:=h
 refine ⟨by omega,by omega,?_,a4,fun hg=>?_⟩
 ·rw [show (i+1).toNat=i.toNat+1 by omega,Q0j W29,← a3]
  have o:=Q2x hq h0 (show i.toNat<(tlF l).length by omega)
  have hl:=z.len
  unfold tnF
  unfold cbF at e
  rw [← e,Qc (l:=U) W29]
  exact (List.set_getElem_self _).symm
 ·obtain ⟨m,m1,m2⟩:=a5 hg
  exact ⟨m,by omega,m2⟩
theorem Qp6 {a b:Nat} (ha:a<(tlF l).length) (hb:b<(tlF l).length) (e:((tlF l).getD a 0).toNat=((tlF l).getD b 0).toNat):a=b:=by
 have h1:=(Q2x hq h0 ha).2.2.2.2
 have h2:=(Q2x hq h0 hb).2.2.2.2
 rw [e,h2] at h1
 omega
theorem Qc9:∀ (i m:Nat),i≤m→m<(tlF l).length→∀ U:List Int,(rnG l U i).getD ((tlF l).getD m 0).toNat 0=U.getD ((tlF l).getD m 0).toNat 0
 | 0,m,_,_,U=>rfl
 | i+1,m,hi,hm,U=>by
   rw [Q0j W29]
   unfold tnF
   have z:=Qc9 i m W29 hm U
   by_cases e:((tlF l).getD i 0).toNat<(rnG l U i).length
   ·rw [Qr _ _ _ _ _ e,if_neg (fun e2=>absurd (Qp6 hq h0 hm W29 e2) W29)]
    exact z
   ·rw [List.set_eq_of_length_le W29];exact z
theorem RnJ.diff (h:RnJ l U0 U i ag) (hj:DmJ l U0) (hi:i<((tlF l).length:Int)) (e:¬ U.getD ((tlF l).getD i.toNat 0).toNat 0=cbF l U ((tlF l).getD i.toNat 0)):RnJ l U0 (U.set ((tlF l).getD i.toNat 0).toNat (cbF l U ((tlF l).getD i.toNat 0))) (i+1) true:=by
 obtain ⟨k,z⟩:=hj.rn hq h0 h
 have o:=Q2x hq h0 (show i.toNat<(tlF l).length by have:=h.lo;omega)
 have hl:=z.len
 obtain ⟨a1,a2,a3,a4,a5⟩:=h
 refine ⟨by omega,by omega,?_,fun h=>absurd h W149,fun _=>⟨i.toNat,by omega,?_⟩⟩
 ·rw [show (i+1).toNat=i.toNat+1 by omega,Q0j W29,← a3];rfl
 ·rw [Qr _ _ _ _ _ W29,if_pos rfl]
  have y:=Qc9 hq h0 i.toNat i.toNat (jp _) W29 U0
  rw [← a3] at y
  rw [← y]
  exact fun e2=>e e2.symm
theorem RnJ.done (h:RnJ l U0 U i ag) (hj:DmJ l U0) (hi:¬ i<((tlF l).length:Int)):DmJ l U∧(ag=false→rnF l U=U)∧(ag=true→lfF l l.length U<lfF l l.length U0):=by
 have a1:=h.lo
 have a2:=h.hi
 have e:U=rnF l U0:=by rw [h.eq,show i.toNat=(tlF l).length by omega,Q8o]
 obtain ⟨j,hj⟩:=hj
 refine ⟨⟨j+1,by rw [Q66,← hj,e]⟩,fun hg=>?_,fun hg=>?_⟩
 ·have:=h.no hg
  rw [← this] at e
  exact e.symm
 ·obtain ⟨m,_,m2⟩:=h.yes hg
  have hne:rnF l U0≠U0:=fun e2=>m2 (by rw [e,e2])
  have st:rnF l (itF l l.length U0)=itF l l.length U0:=by
   rw [hj,← Q1w,Nat.add_comm,Q1w,Q0v (Q8p hq h0)]
   exact Q8p hq h0
  have:=Qk6 st hne
  rw [e];omega
theorem DmJ.fin (h:DmJ l U) (e:rnF l U=U):U.set 0 (-1)=domL l:=by
 obtain ⟨j,hj⟩:=h
 unfold domL
 have st:=Q8p hq h0
 congr 1
 rcases Nat.le_total j l.length with hl | hl
 ·rw [show l.length=(l.length-j)+j by omega,Q1w,← hj,Q0v e]
 ·rw [hj,show j=(j-l.length)+l.length by omega,Q1w,Q0v st]
omit hq h0 in
theorem BsJ.start (P U A:List Int):BsJ P U A 0 (-1):=⟨jE _,by omega,rfl,.inl rfl⟩
omit hq h0 in
theorem BsJ.at_ {P A:List Int} (h:BsJ P U A x b) (hx:x<(A.length:Int)):bsF P U (A.take (x+1).toNat) (-1)=if U.getD (A.getD x.toNat 0).toNat 0<0 then b else if b<0 then A.getD x.toNat 0 else mtF P U b (A.getD x.toNat 0):=by
 have a1:=h.lo
 rw [show (x+1).toNat=x.toNat+1 by omega,jR W29,Qc8,← h.eq,Qc (l:=A) W29]
omit hq h0 in
theorem BsJ.skip {P A:List Int} (h:BsJ P U A x b) (hx:x<(A.length:Int)) (e:U.getD (A.getD x.toNat 0).toNat 0<0):BsJ P U A (x+1) b:=by
 have a1:=h.lo
 exact ⟨by omega,by omega,by rw [h.at_ hx,if_pos e],h.set⟩
omit hq h0 in
theorem BsJ.first {P A:List Int} (h:BsJ P U A x b) (hx:x<(A.length:Int)) (hs:MtS U (A.getD x.toNat 0)) (hb:b<0):BsJ P U A (x+1) (A.getD x.toNat 0):=by
 have a1:=h.lo
 exact ⟨by omega,by omega,by rw [h.at_ hx,if_neg (by have:=hs.2.2;omega),if_pos hb],.inr hs⟩
theorem BsJ.meet {A:List Int} {k n:Nat} (hd:DmI l U k n) (h:BsJ (plcL l) U A x b) (hx:x<(A.length:Int)) (hs:MtS U (A.getD x.toNat 0)) (hb:¬ b<0):BsJ (plcL l) U A (x+1) (mtF (plcL l) U b (A.getD x.toNat 0)):=by
 have a1:=h.lo
 exact ⟨by omega,by omega,by rw [h.at_ hx,if_neg (by have:=hs.2.2;omega),if_neg hb],.inr (hd.meet hq h0 _ b _ (h.set.resolve_left W29) hs (Int.self_le_toNat _)).1⟩
omit hq h0 in
theorem BsJ.done {P A:List Int} (h:BsJ P U A x b) (hx:¬ x<(A.length:Int)):b=bsF P U A (-1):=by
 have a1:=h.hi
 have:=h.eq
 rwa [kD W29] at this
theorem Qca:UpH (plcL l) (domL l)∧(domL l).length=l.length∧∀ m:Nat,m<l.length→-1≤(domL l).getD m 0∧(domL l).getD m 0<(l.length:Int):=by
 have h:=DmI.it hq h0 l.length
 have hM:=h.mth hq h0
 have hr:=h.root h0
 unfold domL
 generalize itF l l.length (dm0 l)=U at h hM hr
 have hl:=h.len
 have rg:∀ m:Nat,m<l.length→-1≤(U.set 0 (-1)).getD m 0∧(U.set 0 (-1)).getD m 0<(l.length:Int):=fun m hm=>by
  rw [Qr _ _ _ _ _ W29];split
  ·omega
  ·exact h.rg m hm
 refine ⟨⟨by rw [jy];exact hM.len,fun x _ _=>pl_ge _,fun x hx hx2=>?_⟩,by rw [jy];exact hl,rg⟩
 rw [jy] at hx2 ⊢
 refine ⟨by have:=(rg x.toNat W29).2;omega,fun hge=>?_⟩
 rw [Qr _ _ _ _ _ W29] at hge ⊢
 by_cases e:x.toNat=0
 ·rw [if_pos e] at hge;omega
 ·rw [if_neg e] at hge ⊢
  have xS:MtS U x:=⟨hx,hx2,hge⟩
  rcases Int.lt_or_eq_of_le (pl_ge x.toNat) with t | t
  ·exact (hM.up x xS t).2
  ·have z:=(Q0i hq h0).rootP
   have z1:(drG l).pl 0=((plcL l).getD (0:Int).toNat 0).toNat:=rfl
   have z2:=pl_ge (l:=l) (0:Int).toNat
   rw [z] at z1
   have:=hM.one x 0 xS hr W29
   omega
end
def filF (n i:Nat):List Int:=(jD n).map fun j=>if j<i then -1 else 0
theorem Qho (n:Nat):filF n 0=jf n 0:=by
 refine List.ext_getElem (by simp [filF]) fun i h1 h2=>by simp [filF]
theorem Qhp {n:Nat} {i:Int} (h:0≤i) (hi:i<(n:Int)):(filF n i.toNat).set i.toNat (-1)=filF n (i+1).toNat:=by
 refine List.ext_getElem (by simp [filF]) fun j h1 h2=>?_
 rw [List.getElem_set]
 simp only [filF,List.getElem_map,List.getElem_range]
 split
 ·rw [if_pos W29]
 ·split
  ·rw [if_pos W29]
  ·rw [if_neg W29]
theorem Qk8 (l:List Nod):(filF l.length l.length).set 0 0=dm0 l:=by
 unfold dm0
 congr 1
 refine List.ext_getElem (by simp [filF]) fun j h1 h2=>?_
 simp only [filF,jP,kC] at h1
 simp [filF,h1]
theorem Qk9 (n i:Nat):(filF n i).length=n:=by simp [filF]
theorem Qcb (l:List Nod) (i:Nat):(ordL l).getD (1+i) 0=(tlF l).getD i 0:=by
 rw [jc,jc]
 unfold tlF
 rw [j8]
theorem Qhq (l:List Nod):(tlF l).length=(ordL l).length-1:=by unfold tlF;rw [kB]
theorem DmJ.start (l:List Nod):DmJ l (dm0 l):=⟨0,rfl⟩
section
variable {l:List Nod} (hq:∀ i:Nat,i<l.length→∀ x∈flwL (l.getD i ub),0≤x∧x<(l.length:Int)) (h0:0<l.length) {U0 U:List Int} {i x n:Int} {ag:Bool}
include hq h0
theorem Qhr:1≤(ordL l).length∧(ordL l).length≤l.length:=by
 obtain ⟨r,hr⟩:=Qe9 hq h0
 exact ⟨by rw [hr];simp,(Q1u hq h0).2.2⟩
theorem DmJ.len (h:DmJ l U):U.length=l.length:=by
 obtain ⟨j,rfl⟩:=h
 exact (DmI.it hq h0 j).len
theorem DmJ.len2 (h:DmJ l U0) (h1:RnJ l U0 U i ag):U.length=l.length:=by
 obtain ⟨k,z⟩:=h.rn hq h0 h1
 exact z.len
theorem Qqy (hi:0≤i) (h:i<((tlF l).length:Int)):0≤(tlF l).getD i.toNat 0∧(tlF l).getD i.toNat 0<(l.length:Int):=by
 have z:=Q2x hq h0 (show i.toNat<(tlF l).length by omega)
 exact ⟨z.1,z.2.1⟩
theorem DmJ.pt (h:DmJ l U0) (h1:RnJ l U0 U i ag) (hx0:0≤x) (hx:x<(((aheadL l).getD n.toNat ub).l.length:Int)) :
 0≤((aheadL l).getD n.toNat ub).l.getD x.toNat 0∧((aheadL l).getD n.toNat ub).l.getD x.toNat 0<(l.length:Int)∧(¬ U.getD (((aheadL l).getD n.toNat ub).l.getD x.toNat 0).toNat 0<0→MtS U (((aheadL l).getD n.toNat ub).l.getD x.toNat 0)):=by
 have z:=(Gq hq n.toNat _).1 (Y1 hx hx0)
 have e:=h.len2 hq h0 h1
 exact ⟨z.1,z.2.1,fun hn=>⟨z.1,by omega,by omega⟩⟩
theorem DmJ.mth (h:DmJ l U0) (h1:RnJ l U0 U i ag):MtH (plcL l) U:=by
 obtain ⟨k,z⟩:=h.rn hq h0 h1
 exact z.mth hq h0
theorem DmJ.meet {b:Int} {A:List Int} (h:DmJ l U0) (h1:RnJ l U0 U i ag) (h2:BsJ (plcL l) U A x b) (hx:x<(A.length:Int)) (hs:MtS U (A.getD x.toNat 0)) (hb:¬ b<0):BsJ (plcL l) U A (x+1) (mtF (plcL l) U b (A.getD x.toNat 0)):=by
 obtain ⟨k,z⟩:=h.rn hq h0 h1
 exact BsJ.meet hq h0 z h2 hx hs hb
omit hq h0 in
theorem Q8q (l:List Nod):(aheadL l).length=l.length:=Q2l _ _
omit hq h0 in
theorem Z3 (l:List Nod) (k:Nat):((aheadL l).getD k ub).l.length≤2 * l.length:=Js _ _ _
theorem DmJ.f2 (h:DmJ l U0) (h1:RnJ l U0 U i ag) (h7:i<(((ordL l).length-1:Nat):Int)):0≤i∧0≤(ordL l).getD (1+i.toNat) 0∧(ordL l).getD (1+i.toNat) 0<(l.length:Int)∧U.length=l.length∧(aheadL l).length=l.length∧((aheadL l).getD ((ordL l).getD (1+i.toNat) 0).toNat ub).l.length≤2 * l.length∧(ordL l).length≤l.length∧1≤(ordL l).length:=by
 have t:=Qqy hq h0 h1.lo W202
 have o:=Qhr hq h0
 rw [Qcb]
 exact ⟨h1.lo,t.1,t.2,h.len2 hq h0 h1,Q8q l,Z3 l _,o.2,o.1⟩
theorem DmJ.f3 {b:Int} (h:DmJ l U0) (h1:RnJ l U0 U i ag) (h8:BsJ (plcL l) U ((aheadL l).getD n.toNat ub).l x b) (h9:x<(((aheadL l).getD n.toNat ub).l.length:Int)):0≤x∧0≤((aheadL l).getD n.toNat ub).l.getD x.toNat 0∧((aheadL l).getD n.toNat ub).l.getD x.toNat 0<(l.length:Int):=by
 have p:=h.pt hq h0 h1 h8.lo h9
 exact ⟨h8.lo,p.1,p.2.1⟩
theorem RnJ.less (h:RnJ l U0 U i ag) (hj:DmJ l U0) (h7:¬ i<(((ordL l).length-1:Nat):Int)):(if ag=true then 1+lfF l l.length U else 0)<1+lfF l l.length U0:=by
 have d:=(h.done hq h0 hj W202).2.2
 split
 ·rename_i e;have:=d e;omega
 ·omega
theorem RnJ.both (h:RnJ l U0 U i ag) (hj:DmJ l U0) (h7:¬ i<(((ordL l).length-1:Nat):Int)):DmJ l U∧(ag=false→rnF l U=U):=by
 have d:=h.done hq h0 hj W202
 exact ⟨d.1,d.2.1⟩
theorem RnJ.sameI {b:Int} (h:RnJ l U0 U i ag) (hj:DmJ l U0) (h7:i<(((ordL l).length-1:Nat):Int)) (hb:BsJ (plcL l) U ((aheadL l).getD ((ordL l).getD (1+i.toNat) 0).toNat ub).l x b) (h9:¬ x<(((aheadL l).getD ((ordL l).getD (1+i.toNat) 0).toNat ub).l.length:Int)) (e:U.getD ((ordL l).getD (1+i.toNat) 0).toNat 0=b):RnJ l U0 U (i+1) ag:=by
 have z:=hb.done h9
 rw [Qcb] at z e
 exact h.same hq h0 hj W202 (by rw [e,z];rfl)
theorem RnJ.diffI {b:Int} (h:RnJ l U0 U i ag) (hj:DmJ l U0) (h7:i<(((ordL l).length-1:Nat):Int)) (hb:BsJ (plcL l) U ((aheadL l).getD ((ordL l).getD (1+i.toNat) 0).toNat ub).l x b) (h9:¬ x<(((aheadL l).getD ((ordL l).getD (1+i.toNat) 0).toNat ub).l.length:Int)) (e:¬ U.getD ((ordL l).getD (1+i.toNat) 0).toNat 0=b):RnJ l U0 (U.set ((ordL l).getD (1+i.toNat) 0).toNat b) (i+1) true:=by
 have z:=hb.done h9
 rw [Qcb] at z e ⊢
 have r:=h.diff hq h0 hj W202 (by rw [z] at e;exact e)
 rw [z];exact r
end
def cntB (N:Nat) (p:Nat→Bool):Nat:=(jD N).countP p
theorem Qeb (N:Nat) (p:Nat→Bool):cntB N p≤N:=by
 have h:=List.countP_le_length (p:=p) (l:=jD N)
 rwa [kC] at h
theorem Qhs {N:Nat} {p q:Nat→Bool} (h:∀ i,i<N→p i=q i):cntB N p=cntB N q:=by
 induction N with
 | zero=>rfl
 | succ n ih =>
   unfold cntB at ih ⊢
   rw [kz,k9,k9,ih (fun i hi=>h i W29)]
   simp [h n W29]
theorem Qcc {N k:Nat} {p q:Nat→Bool} (hk:k<N) (hp:p k=true) (hq:q k=false) (h:∀ i,i≠k→q i=p i):cntB N q+1=cntB N p:=by
 induction N with
 | zero=>omega
 | succ n ih =>
   by_cases e:k=n
   ·subst e
    have h1:=Qhs (N:=k) (p:=q) (q:=p) (fun i hi=>h i W29)
    unfold cntB at h1 ⊢
    rw [kz,k9,k9,h1]
    simp [hp,hq]
   ·have h1:=ih W29
    unfold cntB at h1 ⊢
    rw [kz,k9,k9]
    simp only [List.countP_cons,List.countP_nil]
    rw [h n (fun e2=>e e2.symm)]
    omega
def unmF (N:Nat) (D:Int→Option Bool):Nat:=cntB N fun i=>!((D (i:Int)).getD false)
theorem Qka {N:Nat} {D:Int→Option Bool} {q:Int} (h0:0≤q) (h1:q<(N:Int)) (h:(D q).getD false=false):unmF N (fun a=>if a=q then some true else D a)+1=unmF N D:=by
 refine Qcc (k:=q.toNat) W29 ?_ ?_ (fun i hi=>?_)
 ·show (!((D ((q.toNat:Nat):Int)).getD false))=true
  rw [show ((q.toNat:Nat):Int)=q by omega,h];rfl
 ·show (!(if ((q.toNat:Nat):Int)=q then some true else D ((q.toNat:Nat):Int)).getD false)=false
  rw [if_pos W29];rfl
 ·show (!(if (i:Int)=q then some true else D (i:Int)).getD false)=_
  rw [if_neg W29]
def lftF (N:Nat) (L:Int→Bool):Nat:=cntB N fun i=>L (i:Int)
theorem Qkb {N:Nat} {L:Int→Bool} {q:Int} (h0:0≤q) (h1:q<(N:Int)) (h:L q=true):lftF N (fun a=>L a&&!decide (a=q))+1=lftF N L:=by
 refine Qcc (k:=q.toNat) W29 ?_ ?_ (fun i hi=>?_)
 ·show L ((q.toNat:Nat):Int)=true
  rw [show ((q.toNat:Nat):Int)=q by omega,h]
 ·show (L ((q.toNat:Nat):Int)&&!decide (((q.toNat:Nat):Int)=q))=false
  rw [decide_eq_true (show ((q.toNat:Nat):Int)=q by omega)];simp
 ·show (L (i:Int)&&!decide ((i:Int)=q))=L (i:Int)
  rw [decide_eq_false (show ¬ ((i:Int)=q) by omega)];simp
def KeysIn (N:Nat) (D:Int→Option Bool):Prop:=∀ q,(D q).isSome=true→0≤q∧q<(N:Int)
theorem KeysIn.none (N:Nat):KeysIn N (fun _=>Option.none):=fun q h=>absurd h W149
theorem KeysIn.put {N:Nat} {D:Int→Option Bool} (h:KeysIn N D) {q:Int} (h0:0≤q∧q<(N:Int)):KeysIn N (fun a=>if a=q then some true else D a):=by
 intro a ha
 by_cases e:a=q
 ·subst e;exact h0
 ·exact h a (by simpa [e] using ha)
def InR (N:Nat) (t:List Int):Prop:=∀ x∈t,0≤x∧x<(N:Int)
theorem InR.snoc {N:Nat} {t:List Int} (h:InR N t) {x:Int} (hx:0≤x∧x<(N:Int)):InR N (t++[x]):=fun y hy=>by
 rcases List.mem_append.1 hy with hy | hy
 ·exact h y hy
 ·rw [jK] at hy;subst hy;exact hx
theorem InR.take {N:Nat} {t:List Int} (h:InR N t) (k:Nat):InR N (t.take k):=fun y hy=>h y (List.mem_of_mem_take hy)
theorem InR.top {N:Nat} {t:List Int} (h:InR N t) (h0:(0:Int)<(t.length:Int)):0≤t.getD ((t.length:Int)-1).toNat 0∧t.getD ((t.length:Int)-1).toNat 0<(N:Int):=h _ (Y1 W29 W29)
structure DpO (N:Nat) (h:Int) (out:List Int):Prop where
 lo:0≤h
 hi:h≤(N:Int)
 len:out.length=N
 val:∀ i:Nat,i<N→0≤out.getD i 0∧out.getD i 0≤h * 4096
structure DpA (N m:Nat) (i:Int) (todo:List Int) (n:Nat) (D:Int→Option Bool):Prop where
 lo:0≤i
 hi:i≤(m:Int)
 td:InR N todo
 ks:KeysIn N D
 tl:(todo.length:Int)≤i
 nl:(n:Int)≤i
structure DpB (N n:Nat) (D:Int→Option Bool) (todo:List Int):Prop where
 td:InR N todo
 ks:KeysIn N D
 ms:unmF N D * (2 * N+1)+todo.length≤N * (2 * N+1)+2 * N
 nl:n+unmF N D≤3 * N
structure DpD (N m k:Nat) (i:Int) (todo:List Int):Prop where
 lo:0≤i
 hi:i≤(m:Int)
 td:InR N todo
 tl:(todo.length:Int)≤(k:Int)-1+i
structure DpE (N:Nat) (h:Int) (out:List Int) (L:Int→Bool):Prop where
 len:out.length=N
 val:∀ i:Nat,i<N→0≤out.getD i 0∧out.getD i 0+lftF N L≤h * 4096+4096
theorem DpO.start (N:Nat):DpO N 0 (jf N 0):=by
 refine ⟨jE _,by omega,by simp,fun i hi=>?_⟩
 rw [Qc W199]
 simp
theorem DpO.next {N:Nat} {h:Int} {out:List Int} (H:DpO N h out) (hl:h<(N:Int)):DpO N (h+1) out:=⟨by have:=H.lo;omega,by omega,H.len,fun i hi=>by have:=H.val i hi;omega⟩
theorem DpA.start (N m:Nat):DpA N m 0 [] 0 (fun _=>Option.none):=⟨jE _,by omega,fun x hx=>absurd hx W149,.none N,by simp,by simp⟩
theorem DpA.skip {N m n:Nat} {i:Int} {todo:List Int} {D:Int→Option Bool} (H:DpA N m i todo n D) (hi:i<(m:Int)):DpA N m (i+1) todo n D:=⟨by have:=H.lo;omega,by omega,H.td,H.ks,by have:=H.tl;omega,by have:=H.nl;omega⟩
theorem DpA.put {N m n:Nat} {i h x:Int} {todo:List Int} {D:Int→Option Bool} (H:DpA N m i todo n D) (hi:i<(m:Int)) (hh:0≤h∧h<(N:Int)) (hx:0≤x∧x<(N:Int)):DpA N m (i+1) (todo++[x]) (n+1) (fun q=>if q=h then some true else D q):=
 ⟨by have:=H.lo;omega,by omega,H.td.snoc hx,H.ks.put hh,by have:=H.tl;simp only [jm,km];omega,by have:=H.nl;omega⟩
theorem DpA.done {N m n:Nat} {i:Int} {todo:List Int} {D:Int→Option Bool} (H:DpA N m i todo n D) (hm:m≤2 * N):DpB N n D todo:=by
 have h1:=Qeb N fun i=>!((D (i:Int)).getD false)
 have h2:=H.hi;have h3:=H.tl;have h4:=H.nl
 refine ⟨H.td,H.ks,?_,?_⟩
 ·have:=kr (2 * N+1) h1
  unfold unmF
  omega
 ·unfold unmF;omega
theorem DpB.pop {N n:Nat} {D:Int→Option Bool} {todo:List Int} (H:DpB N n D todo) (h0:(0:Int)<(todo.length:Int)):DpB N n D (todo.take (todo.length-1))∧unmF N D * (2 * N+1)+(todo.take (todo.length-1)).length<unmF N D * (2 * N+1)+todo.length:=by
 have h1:=H.ms
 have h2:(todo.take (todo.length-1)).length=todo.length-1:=by rw [jO];omega
 exact ⟨⟨H.td.take _,H.ks,by rw [h2];omega,H.nl⟩,by rw [h2];omega⟩
theorem DpB.small {N n:Nat} {D:Int→Option Bool} {todo:List Int} (H:DpB N n D todo) (hN:N≤4096):todo.length≤33566720∧n≤12288:=by
 have h1:=H.ms;have h2:=H.nl
 have h3:N * (2 * N+1)≤4096 * 8193:=Nat.mul_le_mul hN W29
 generalize N * (2 * N+1)=C at h1 h3
 generalize unmF N D * (2 * N+1)=A at h1
 omega
theorem DpB.inner {N n m:Nat} {D:Int→Option Bool} {todo:List Int} (H:DpB N n D todo) (h0:(0:Int)<(todo.length:Int)):DpD N m todo.length 0 (todo.take (todo.length-1)):=⟨jE _,by omega,H.td.take _,by rw [jO];omega⟩
theorem DpD.skip {N m k:Nat} {i:Int} {todo:List Int} (H:DpD N m k i todo) (hi:i<(m:Int)):DpD N m k (i+1) todo:=⟨by have:=H.lo;omega,by omega,H.td,by have:=H.tl;omega⟩
theorem DpD.put {N m k:Nat} {i x:Int} {todo:List Int} (H:DpD N m k i todo) (hi:i<(m:Int)) (hx:0≤x∧x<(N:Int)):DpD N m k (i+1) (todo++[x]):=⟨by have:=H.lo;omega,by omega,H.td.snoc hx,by have:=H.tl;simp only [jm,km];omega⟩
theorem DpD.done {N n m:Nat} {i q:Int} {D:Int→Option Bool} {todo t2:List Int} (H:DpB N n D todo) (h:DpD N m todo.length i t2) (hm:m≤2 * N) (hq:0≤q∧q<(N:Int)) (hd:(D q).getD false=false) :
 DpB N (n+1) (fun a=>if a=q then some true else D a) t2∧unmF N (fun a=>if a=q then some true else D a) * (2 * N+1)+t2.length<unmF N D * (2 * N+1)+todo.length:=by
 have h1:=Qka hq.1 hq.2 hd
 have h2:=h.tl;have h3:=h.hi;have h4:=H.ms;have h5:=H.nl
 generalize hu:unmF N (fun a=>if a=q then some true else D a)=u at h1 ⊢
 have h6:unmF N D * (2 * N+1)=u * (2 * N+1)+(2 * N+1):=by rw [← h1,Nat.add_mul,Nat.one_mul]
 generalize unmF N D * (2 * N+1)=A at h4 h6 ⊢
 have h7:u * (2 * N+1)+t2.length<A+todo.length:=by
  generalize u * (2 * N+1)=B at h6 ⊢
  omega
 refine ⟨⟨h.td,H.ks.put hq,?_,by omega⟩,h7⟩
 generalize N * (2 * N+1)=C at h4 ⊢
 have h8:unmF N (fun a=>if a=q then some true else D a) * (2 * N+1)+t2.length<A+todo.length:=by
  rw [hu];exact h7
 omega
theorem DpE.start {N:Nat} {h:Int} {out:List Int} (H:DpO N h out) (hN:N≤4096) (L:Int→Bool):DpE N h out L:=⟨H.len,fun i hi=>by
 have h1:=H.val i hi
 have h2:=Qeb N fun i=>L (i:Int)
 unfold lftF
 omega⟩
theorem DpE.put {N:Nat} {h q:Int} {out:List Int} {L:Int→Bool} (H:DpE N h out L) (hq:0≤q∧q<(N:Int)) (hL:L q=true):DpE N h (out.set q.toNat (out.getD q.toNat 0+1)) (fun a=>L a&&!decide (a=q)):=by
 have h1:=Qkb hq.1 hq.2 hL
 have hl:=H.len
 refine ⟨by rw [jy];exact H.len,fun i hi=>?_⟩
 rw [Qr _ _ _ _ _ W29]
 have h2:=H.val i hi
 split
 ·rename_i e;subst e;omega
 ·omega
theorem DpE.done {N:Nat} {h:Int} {out:List Int} {L:Int→Bool} (H:DpE N h out L) (h0:0≤h) (hl:h<(N:Int)):DpO N (h+1) out:=⟨by omega,by omega,H.len,fun i hi=>by have:=H.val i hi;omega⟩
theorem Q7g {l:List Nod} (hq:∀ i:Nat,i<l.length→∀ x∈flwL (l.getD i ub),0≤x∧x<(l.length:Int)) {k:Nat} {x:Int} (h0:0≤x) (h:x<(((aheadL l).getD k ub).l.length:Int)):0≤((aheadL l).getD k ub).l.getD x.toNat 0∧((aheadL l).getD k ub).l.getD x.toNat 0<(l.length:Int):=by
 have z:=(Gq hq k _).1 (Y1 h h0)
 exact ⟨z.1,z.2.1⟩
def vO (l:List Int):Lp (Int×Int×List Int):=⟨fun x=>{ N:=28,fr:=[se 3 (C.i .i64 x.1),se 2 (C.i .i64 x.2.1),se 0 (C.h 0)],rg:=[IntOwn (x.2.2)],wr:=[] },fun x=>RevJ l x.2.2 x.2.1 x.1,fun x=>(x.1-x.2.1).toNat⟩
abbrev zbZ (y0:List Int) (y1 y2:Int):List Int:=(y0.set y1.toNat (y0.getD y2.toNat 0)).set y2.toNat (y0.getD y1.toNat 0)
theorem Qht (l:List Int):Ctr jb 164 [IntOwn l] [.c (.h 0)]
 (Det (.tup []) [IntOwn l.reverse]):=by
 refine Ctr.intro [] Tryz.func164 K K ?_
 refine RunF.lens 0 (m:=l.length) K (fun hlens_0=>?_)
 refine Q7 (vO l) (((↑l.length:Int)-(1:Int),(0:Int),l)) (RevJ.start l) ?_ (vc:=[Fits ja ((↑l.length:Int)-(1:Int))]) (hv:=W122)
 rintro ⟨ue,uj,uh⟩ hJ1
 dsimp only [vO] at hJ1
 refine tz [3,2,0] ?_
 refine Q0 (decide (uj<ue)) (fun h2=>?_) (fun h2=>?_)
 ·exact Q4 (vO l) (ue,uj,uh) ((ue-(1:Int),uj+(1:Int),(zbZ uh uj ue))) (by dsimp only [vO];have q:=uc h2;omega) (hJ1.next (uc h2)) [] [0,1] [((zbZ uh uj ue)).length=uh.length,∀ (i:Nat),i<((zbZ uh uj ue)).length→i64T (((zbZ uh uj ue)).getD i 0)=updT (updT (fun i=>zc0 uh i) uj.toNat 0 [jg ja (uh.getD ue.toNat 0)]) ue.toNat 0 [jg ja (uh.getD uj.toNat 0)] i] (by simp only [Conj];(repeat' apply jo)<;>first | trivial | rfl | (intros;first | trivial | rfl) | (simp;done) | exact Qgp _ _ _ _ _) (vc:=[(0:Int)≤ue,ue<(↑uh.length:Int),ue.toNat<uh.length,(0:Int)≤uj,uj<(↑uh.length:Int),uj.toNat<uh.length,(0:Int)≤uj,uj<(↑uh.length:Int),uj.toNat<uh.length,(0:Int)≤ue,ue<(↑uh.length:Int),ue.toNat<uh.length,Fits ja (uj+(1:Int)),Fits ja (ue-(1:Int))]) (hv:=W122)
 ·exact Yh [] [0,1] [l.reverse.length=uh.length,∀ (i:Nat),i<l.reverse.length→i64T (l.reverse.getD i 0)=zc0 uh i] (by simp only [Conj];have q:=ud h2;rw [hJ1.done (by omega)];exact ⟨rfl,fun _ _=>rfl⟩)
def vB (g:Grf):Lp (List Int×List Bo×List Vis):=⟨fun x=>{ N:=104,fr:=[se 6 (C.h 3),se 5 (C.h 4),se 4 (C.h 2),se 3 (C.v (ji none 0 0)),zF,zaa],rg:=[rowOf 13 (·.tc) g.nodes,ze g,Bo.ownR (x.2.1),Vis.ownR (x.2.2)]++[IntOwn x.1],wr:=[] },fun x=>BkS g.nodes ⟨x.2.1,x.1,x.2.2⟩,fun x=>msB ⟨x.2.1,x.1,x.2.2⟩⟩
def vC (g:Grf) (ue:List Int) (uj:List Bo) (uh:List Vis):Lp (Int×List Int):=⟨fun x=>{ N:=104,fr:=[se 92 (C.i .i64 x.1),se 91 (C.i .i64 (↑ue.reverse.length:Int)),se 90 (C.h 4),se 10 (C.h 5),se 5 (C.h 4),se 3 (C.v (ji none 0 0)),zF],rg:=[rowOf 13 (·.tc) g.nodes,ze g,ownOf 4 1 (·.tc) uj,ownOf 225 2 (·.tc) uh,IntOwn ue.reverse,IntOwn (x.2)],wr:=[] },fun x=>0≤x.1∧x.1≤(ue.length:Int)∧x.2=plcU ue.reverse g.nodes.length x.1.toNat,fun x=>((ue.length:Int)-x.1).toNat⟩
abbrev zaC (y0:Grf):Reg:=IntOwn (plcL y0.nodes)
theorem Qd6 (g:Grf) (hq:zC g) (hN:1≤g.nodes.length∧g.nodes.length≤4096):Ctr jb 160 [zV g] [.agg (g.cs 0)]
 (Det (.tup [(false,[.h 1]),(false,[.h 2])]) [.dead,IntOwn (ordL g.nodes),zaC g]):=by
 refine Ctr.intro [] Tryz.func160 K K ?_
 refine Q7 (vB g) (([],(bk0 g.nodes).se,[Vis.mk (0:Int) (0:Int)])) (BkS.start W29) ?_ [0,1,2,3,1000004] [5,6,7,8,9,10,11] [(bk0 g.nodes).se.length=g.nodes.length,∀ (i:Nat),i<(bk0 g.nodes).se.length→((bk0 g.nodes).se.getD i ub).tc=updT (fun x j=>valT (jC false).cells.toList j) 0 0 [jC true] i,[Vis.mk (0:Int) (0:Int)].length=1,∀ (i:Nat),i < [Vis.mk (0:Int) (0:Int)].length→i≠0→([Vis.mk (0:Int) (0:Int)].getD i ub).tc=fun x=>TC.any,(Vis.mk (0:Int) (0:Int)).tc 0=TC.val (jg ja (0:Int)),(Vis.mk (0:Int) (0:Int)).tc 1=TC.val (jg ja (0:Int)),(0:Nat)=0] W68 (vc:=[(0:Int)≤(↑g.nodes.length:Int),(↑g.nodes.length:Int)≤(↑g.nodes.length:Int),(↑g.nodes.length:Int) * (1:Int)≤(140737488355328:Int),(↑g.nodes.length:Int)≤(↑maxLen:Int),(0:Int)≤(0:Int),(0:Int)<(↑g.nodes.length:Int),0<g.nodes.length]) (hv:=W25)
 rintro ⟨ue,uj,uh⟩ hJ1
 dsimp only [vB] at hJ1
 refine tz [6,5,4,3,2,1] ?_
 refine Q0 (decide ((0:Int)<(↑uh.length:Int))) (fun h2=>?_) (fun h2=>?_)
 ·refine tz [6,5,4,3,2,1] ?_
  refine Q3 Ym (Ge (g.nodes.getD (uh.getD ((↑uh.length:Int)-(1:Int)).toNat ub).pos.toNat ub)) [] ?_ (vc:=[Fits ja ((↑uh.length:Int)-(1:Int)),(0:Int)≤(↑uh.length:Int)-(1:Int),(↑uh.length:Int)-(1:Int)<(↑uh.length:Int),((↑uh.length:Int)-(1:Int)).toNat<uh.length,(0:Int)≤(uh.getD ((↑uh.length:Int)-(1:Int)).toNat ub).pos,(uh.getD ((↑uh.length:Int)-(1:Int)).toNat ub).pos<(↑g.nodes.length:Int),(uh.getD ((↑uh.length:Int)-(1:Int)).toNat ub).pos.toNat<g.nodes.length]) (hv:=W25)
  refine tz [37,36,35,34,33,32,31,30,29,7,6,5,4,3,2,1] ?_
  refine Q0 (decide ((uh.getD ((↑uh.length:Int)-(1:Int)).toNat ub).k=(↑(flwL (g.nodes.getD (uh.getD ((↑uh.length:Int)-(1:Int)).toNat ub).pos.toNat ub)).length:Int))) (fun h3=>?_) (fun h3=>?_) (vc:=[((↑uh.length:Int)-(1:Int)).toNat<uh.length]) (hv:=W25)
  ·refine RunF.hereJ (vc:=[((↑uh.length:Int)-(1:Int)).toNat<uh.length,ue.length+1≤maxLen,(ue.length+1) * 8≤140737488355328,Fits ja ((↑uh.length:Int)-(1:Int)),(0:Int)≤(↑uh.length:Int)-(1:Int),(↑uh.length:Int)-(1:Int)≤(↑uh.length:Int),0<uh.length]) K K W25 ?_
   refine RunF.trim 3 ((uh.length-1)) (ty:=225) (size:=2) (n:=uh.length) (f:=fun i=>(uh.getD i ub).tc) (vc:=[((↑uh.length:Int)-(1:Int)).toNat-0=uh.length-1,((↑uh.length:Int)-(1:Int)).toNat-0=uh.length-1]) K K W158 K W181 ?_
   exact Q4 (vB g) (ue,uj,uh) ((ue++[(uh.getD ((↑uh.length:Int)-(1:Int)).toNat ub).pos],uj,jW (uh.length-1) uh)) W114 W115 [0,1,2,8,7] [7,8,9,10,11] [(jW (uh.length-1) uh).length=uh.length-1,∀ (i:Nat),i<(jW (uh.length-1) uh).length→((jW (uh.length-1) uh).getD i ub).tc=(uh.getD i ub).tc,(ue++[(uh.getD ((↑uh.length:Int)-(1:Int)).toNat ub).pos]).length=ue.length+1,∀ (i:Nat),i<(ue++[(uh.getD ((↑uh.length:Int)-(1:Int)).toNat ub).pos]).length→i≠ue.length→i64T ((ue++[(uh.getD ((↑uh.length:Int)-(1:Int)).toNat ub).pos]).getD i 0)=i64T (ue.getD i 0),i64T ((ue++[(uh.getD ((↑uh.length:Int)-(1:Int)).toNat ub).pos]).getD ue.length 0) 0=TC.val (jg ja (uh.getD ((↑uh.length:Int)-(1:Int)).toNat ub).pos)] W66
  ·refine tz [8,7,6,5,4,3,2,1] ?_
   refine Q0 (!(uj.getD ((flwL (g.nodes.getD (uh.getD ((↑uh.length:Int)-(1:Int)).toNat ub).pos.toNat ub)).getD (uh.getD ((↑uh.length:Int)-(1:Int)).toNat ub).k.toNat (0:Int)).toNat ub).b) (fun h4=>?_) (fun h4=>?_) (vc:=[((↑uh.length:Int)-(1:Int)).toNat<uh.length,(0:Int)≤(uh.getD ((↑uh.length:Int)-(1:Int)).toNat ub).k,(uh.getD ((↑uh.length:Int)-(1:Int)).toNat ub).k<(↑(flwL (g.nodes.getD (uh.getD ((↑uh.length:Int)-(1:Int)).toNat ub).pos.toNat ub)).length:Int),(uh.getD ((↑uh.length:Int)-(1:Int)).toNat ub).k.toNat<(flwL (g.nodes.getD (uh.getD ((↑uh.length:Int)-(1:Int)).toNat ub).pos.toNat ub)).length,((↑uh.length:Int)-(1:Int)).toNat<uh.length,Fits ja ((uh.getD ((↑uh.length:Int)-(1:Int)).toNat ub).k+(1:Int)),((↑uh.length:Int)-(1:Int)).toNat<uh.length,(0:Int)≤(flwL (g.nodes.getD (uh.getD ((↑uh.length:Int)-(1:Int)).toNat ub).pos.toNat ub)).getD (uh.getD ((↑uh.length:Int)-(1:Int)).toNat ub).k.toNat (0:Int),(flwL (g.nodes.getD (uh.getD ((↑uh.length:Int)-(1:Int)).toNat ub).pos.toNat ub)).getD (uh.getD ((↑uh.length:Int)-(1:Int)).toNat ub).k.toNat (0:Int)<(↑uj.length:Int),((flwL (g.nodes.getD (uh.getD ((↑uh.length:Int)-(1:Int)).toNat ub).pos.toNat ub)).getD (uh.getD ((↑uh.length:Int)-(1:Int)).toNat ub).k.toNat (0:Int)).toNat<uj.length]) (hv:=W25)
   ·exact Q4 (vB g) (ue,uj,uh) ((ue,uj.set ((flwL (g.nodes.getD (uh.getD ((↑uh.length:Int)-(1:Int)).toNat ub).pos.toNat ub)).getD (uh.getD ((↑uh.length:Int)-(1:Int)).toNat ub).k.toNat (0:Int)).toNat (Bo.mk true),uh.set ((↑uh.length:Int)-(1:Int)).toNat (Vis.mk (uh.getD ((↑uh.length:Int)-(1:Int)).toNat ub).pos ((uh.getD ((↑uh.length:Int)-(1:Int)).toNat ub).k+(1:Int)))++[Vis.mk ((flwL (g.nodes.getD (uh.getD ((↑uh.length:Int)-(1:Int)).toNat ub).pos.toNat ub)).getD (uh.getD ((↑uh.length:Int)-(1:Int)).toNat ub).k.toNat (0:Int)) (0:Int)])) W114 W115 [0,1,2,7,4] [5,6,7,8,9,10] [(uj.set ((flwL (g.nodes.getD (uh.getD ((↑uh.length:Int)-(1:Int)).toNat ub).pos.toNat ub)).getD (uh.getD ((↑uh.length:Int)-(1:Int)).toNat ub).k.toNat (0:Int)).toNat (Bo.mk true)).length=uj.length,∀ (i:Nat),i<(uj.set ((flwL (g.nodes.getD (uh.getD ((↑uh.length:Int)-(1:Int)).toNat ub).pos.toNat ub)).getD (uh.getD ((↑uh.length:Int)-(1:Int)).toNat ub).k.toNat (0:Int)).toNat (Bo.mk true)).length→((uj.set ((flwL (g.nodes.getD (uh.getD ((↑uh.length:Int)-(1:Int)).toNat ub).pos.toNat ub)).getD (uh.getD ((↑uh.length:Int)-(1:Int)).toNat ub).k.toNat (0:Int)).toNat (Bo.mk true)).getD i ub).tc=updT (fun i=>(uj.getD i ub).tc) ((flwL (g.nodes.getD (uh.getD ((↑uh.length:Int)-(1:Int)).toNat ub).pos.toNat ub)).getD (uh.getD ((↑uh.length:Int)-(1:Int)).toNat ub).k.toNat (0:Int)).toNat 0 [jC true] i,(uh.set ((↑uh.length:Int)-(1:Int)).toNat (Vis.mk (uh.getD ((↑uh.length:Int)-(1:Int)).toNat ub).pos ((uh.getD ((↑uh.length:Int)-(1:Int)).toNat ub).k+(1:Int)))++[Vis.mk ((flwL (g.nodes.getD (uh.getD ((↑uh.length:Int)-(1:Int)).toNat ub).pos.toNat ub)).getD (uh.getD ((↑uh.length:Int)-(1:Int)).toNat ub).k.toNat (0:Int)) (0:Int)]).length=uh.length+1,∀ (i:Nat),i<(uh.set ((↑uh.length:Int)-(1:Int)).toNat (Vis.mk (uh.getD ((↑uh.length:Int)-(1:Int)).toNat ub).pos ((uh.getD ((↑uh.length:Int)-(1:Int)).toNat ub).k+(1:Int)))++[Vis.mk ((flwL (g.nodes.getD (uh.getD ((↑uh.length:Int)-(1:Int)).toNat ub).pos.toNat ub)).getD (uh.getD ((↑uh.length:Int)-(1:Int)).toNat ub).k.toNat (0:Int)) (0:Int)]).length→i≠uh.length→((uh.set ((↑uh.length:Int)-(1:Int)).toNat (Vis.mk (uh.getD ((↑uh.length:Int)-(1:Int)).toNat ub).pos ((uh.getD ((↑uh.length:Int)-(1:Int)).toNat ub).k+(1:Int)))++[Vis.mk ((flwL (g.nodes.getD (uh.getD ((↑uh.length:Int)-(1:Int)).toNat ub).pos.toNat ub)).getD (uh.getD ((↑uh.length:Int)-(1:Int)).toNat ub).k.toNat (0:Int)) (0:Int)]).getD i ub).tc=updT (fun i=>(uh.getD i ub).tc) ((↑uh.length:Int)-(1:Int)).toNat 1 [jg ja ((uh.getD ((↑uh.length:Int)-(1:Int)).toNat ub).k+(1:Int))] i,((uh.set ((↑uh.length:Int)-(1:Int)).toNat (Vis.mk (uh.getD ((↑uh.length:Int)-(1:Int)).toNat ub).pos ((uh.getD ((↑uh.length:Int)-(1:Int)).toNat ub).k+(1:Int)))++[Vis.mk ((flwL (g.nodes.getD (uh.getD ((↑uh.length:Int)-(1:Int)).toNat ub).pos.toNat ub)).getD (uh.getD ((↑uh.length:Int)-(1:Int)).toNat ub).k.toNat (0:Int)) (0:Int)]).getD uh.length ub).tc 0=TC.val (jg ja ((flwL (g.nodes.getD (uh.getD ((↑uh.length:Int)-(1:Int)).toNat ub).pos.toNat ub)).getD (uh.getD ((↑uh.length:Int)-(1:Int)).toNat ub).k.toNat (0:Int))),((uh.set ((↑uh.length:Int)-(1:Int)).toNat (Vis.mk (uh.getD ((↑uh.length:Int)-(1:Int)).toNat ub).pos ((uh.getD ((↑uh.length:Int)-(1:Int)).toNat ub).k+(1:Int)))++[Vis.mk ((flwL (g.nodes.getD (uh.getD ((↑uh.length:Int)-(1:Int)).toNat ub).pos.toNat ub)).getD (uh.getD ((↑uh.length:Int)-(1:Int)).toNat ub).k.toNat (0:Int)) (0:Int)]).getD uh.length ub).tc 1=TC.val (jg ja (0:Int))] W66 (vc:=[(0:Int)≤(flwL (g.nodes.getD (uh.getD ((↑uh.length:Int)-(1:Int)).toNat ub).pos.toNat ub)).getD (uh.getD ((↑uh.length:Int)-(1:Int)).toNat ub).k.toNat (0:Int),(flwL (g.nodes.getD (uh.getD ((↑uh.length:Int)-(1:Int)).toNat ub).pos.toNat ub)).getD (uh.getD ((↑uh.length:Int)-(1:Int)).toNat ub).k.toNat (0:Int)<(↑uj.length:Int),((flwL (g.nodes.getD (uh.getD ((↑uh.length:Int)-(1:Int)).toNat ub).pos.toNat ub)).getD (uh.getD ((↑uh.length:Int)-(1:Int)).toNat ub).k.toNat (0:Int)).toNat<uj.length,uh.length+1≤maxLen,(uh.length+1) * 16≤140737488355328]) (hv:=W25)
   ·exact Q4 (vB g) (ue,uj,uh) ((ue,uj,uh.set ((↑uh.length:Int)-(1:Int)).toNat (Vis.mk (uh.getD ((↑uh.length:Int)-(1:Int)).toNat ub).pos ((uh.getD ((↑uh.length:Int)-(1:Int)).toNat ub).k+(1:Int))))) W114 W115 [] [7,8] [(uh.set ((↑uh.length:Int)-(1:Int)).toNat (Vis.mk (uh.getD ((↑uh.length:Int)-(1:Int)).toNat ub).pos ((uh.getD ((↑uh.length:Int)-(1:Int)).toNat ub).k+(1:Int)))).length=uh.length,∀ (i:Nat),i<(uh.set ((↑uh.length:Int)-(1:Int)).toNat (Vis.mk (uh.getD ((↑uh.length:Int)-(1:Int)).toNat ub).pos ((uh.getD ((↑uh.length:Int)-(1:Int)).toNat ub).k+(1:Int)))).length→((uh.set ((↑uh.length:Int)-(1:Int)).toNat (Vis.mk (uh.getD ((↑uh.length:Int)-(1:Int)).toNat ub).pos ((uh.getD ((↑uh.length:Int)-(1:Int)).toNat ub).k+(1:Int)))).getD i ub).tc=updT (fun i=>(uh.getD i ub).tc) ((↑uh.length:Int)-(1:Int)).toNat 1 [jg ja ((uh.getD ((↑uh.length:Int)-(1:Int)).toNat ub).k+(1:Int))] i] W66
 ·refine tz [6,5,4,3,2,1] ?_
  refine Q3 Q2i (Qht ue) [4] ?_
  refine tz [5,3,2,1] ?_
  refine Q7 (vC g ue uj uh) (((0:Int),jf g.nodes.length (0:Int))) (⟨jE _,by omega,rfl⟩) ?_ [] [11,12] [(jf g.nodes.length (0:Int)).length=g.nodes.length,∀ (i:Nat),i<(jf g.nodes.length (0:Int)).length→i64T ((jf g.nodes.length (0:Int)).getD i 0)=fun j=>valT (jg ja (0:Int)).cells.toList j] W68 (vc:=[(0:Int)≤(↑g.nodes.length:Int),(↑g.nodes.length:Int)≤(↑g.nodes.length:Int),(↑g.nodes.length:Int) * (8:Int)≤(140737488355328:Int),(↑g.nodes.length:Int)≤(↑maxLen:Int)]) (hv:=W25)
  rintro ⟨ui,uq⟩ hJ3
  dsimp only [vC] at hJ3
  refine tz [92,91,90,10,5,3,2] ?_
  refine Q0 (decide (ui<(↑ue.reverse.length:Int))) (fun h4=>?_) (fun h4=>?_)
  ·exact Q4 (vC g ue uj uh) (ui,uq) ((ui+(1:Int),uq.set (ue.reverse.getD ui.toNat 0).toNat ui)) (by dsimp only [vC];have q:=uc h4;have z6:ue.reverse.length=ue.length:=List.length_reverse;omega) (by dsimp only [vC];have q:=uc h4;have z6:ue.reverse.length=ue.length:=List.length_reverse;have z7:=hJ3.1;refine ⟨by omega,by omega,?_⟩;rw [hJ3.2.2,show (ui+1).toNat=ui.toNat+1 by omega];simp only [plcU];rw [kv hJ3.1]) [] [11,12] [(uq.set (ue.reverse.getD ui.toNat 0).toNat ui).length=uq.length,∀ (i:Nat),i<(uq.set (ue.reverse.getD ui.toNat 0).toNat ui).length→i64T ((uq.set (ue.reverse.getD ui.toNat 0).toNat ui).getD i 0)=updT (fun i=>i64T (uq.getD i 0)) (ue.reverse.getD ui.toNat 0).toNat 0 [jg ja ui] i] W66 (vc:=[(0:Int)≤ui,ui<(↑ue.reverse.length:Int),ui.toNat<ue.reverse.length,(0:Int)≤ue.reverse.getD ui.toNat 0,ue.reverse.getD ui.toNat 0<(↑uq.length:Int),(ue.reverse.getD ui.toNat 0).toNat<uq.length,Fits ja (ui+(1:Int))]) (hv:=W25)
  ·exact Q2 [0,4,5] [0,1,2,3] [(ordL g.nodes).length=ue.reverse.length,∀ (i:Nat),i<(ordL g.nodes).length→i64T ((ordL g.nodes).getD i 0)=i64T (ue.reverse.getD i 0),(plcL g.nodes).length=uq.length,∀ (i:Nat),i<(plcL g.nodes).length→i64T ((plcL g.nodes).getD i 0)=i64T (uq.getD i 0)] (by simp only [Conj];have q:=ud h4;have z6:ue.reverse.length=ue.length:=List.length_reverse;have z7:=hJ3.1;have z8:=hJ3.2.1;have e:=hJ1.done (by have z:=ud h2;show uh.length=0;omega);have e1:ordL g.nodes=ue.reverse:=(by unfold ordL;rw [e]);have e2:uq=plcL g.nodes:=(by rw [hJ3.2.2];unfold plcL;rw [e1,show ui.toNat=ue.reverse.length by omega]);rw [e1,← e2];(repeat' apply jo)<;>first | rfl | (intros;rfl) | trivial)
abbrev za3:Reg:=Reg.box 49 [C.h 3]
def vP (P:List Int) (U:List Int) (a:Int) (b:Int):Lp (Int×Int):=⟨fun x=>{ N:=37,fr:=[se 6 (C.i .i64 0),se 0 (C.i .i64 x.1),se 1 (C.i .i64 x.2),se 2 (C.p 0 0),zau],rg:=[zY,za3,IntOwn P,IntOwn U],wr:=[] },fun x=>MtJ P U a b x.1 x.2,fun x=>(P.getD x.1.toNat 0+P.getD x.2.toNat 0).toNat⟩
abbrev zaQ (y0 y1:Int) (y2 y3:List Int):St:={ N:=37,fr:=[se 6 (C.i .i64 0),se 0 (C.i .i64 y0),se 1 (C.i .i64 y1),se 2 (C.p 0 0),zau],rg:=[zY,za3,IntOwn y2,IntOwn y3],wr:=[] }
def vD (P:List Int) (U:List Int) (ue:Int) (uj:Int) (a:Int) (b:Int):Lp (Int):=⟨fun x=>(zaQ x uj P U),fun x=>MtJ P U a b x uj∧(x=ue∨P.getD x.toNat 0<P.getD ue.toNat 0),fun x=>(P.getD x.toNat 0).toNat⟩
def vE (P:List Int) (U:List Int) (uj:Int) (ui:Int) (a:Int) (b:Int) (ue:Int):Lp (Int):=⟨fun x=>(zaQ ui x P U),fun x=>MtJ P U a b ui x∧((ui=ue∧x=uj)∨P.getD ui.toNat 0+P.getD x.toNat 0<P.getD ue.toNat 0+P.getD uj.toNat 0),fun x=>(P.getD x.toNat 0).toNat⟩
abbrev zdc (y0:Int) (y1:List Int) (y2:Int):List Prop:=[(0:Int)≤y0,y0<(↑y1.length:Int),y0.toNat<y1.length,(0:Int)≤y2,y2<(↑y1.length:Int),y2.toNat<y1.length]
theorem Qp7 (P U:List Int) (a b:Int) (hM:MtH P U) (ha:MtS U a) (hb:MtS U b):Ctr jb 161 [Reg.box 49 [.h 2],Reg.box 49 [.h 3],IntOwn P,IntOwn U] [zbK a,zbK b,.c (.p 0 0),.c (.p 1 0)]
 (Det (.c (.i .i64 (mtF P U a b))) [Reg.box 49 [.h 2],Reg.box 49 [.h 3],IntOwn P,IntOwn U]):=by
 refine Ctr.intro [] Tryz.func161 K K ?_
 refine Q7 (vP P U a b) ((a,b)) (.start ha hb) ?_
 rintro ⟨ue,uj⟩ hJ1
 dsimp only [vP] at hJ1
 refine tz [6,0,1,2,3] ?_
 refine Q0 (!decide (ue=uj)) (fun h2=>?_) (fun h2=>?_)
 ·refine tz [6,0,1,2,3] ?_
  refine Q7 (vD P U ue uj a b) (ue) (⟨hJ1,.inl rfl⟩) ?_
  rintro ui hJ3
  dsimp only [vD] at hJ3
  refine tz [6,0,1,2,3] ?_
  refine Q0 (decide (P.getD uj.toNat 0<P.getD ui.toNat 0)) (fun h4=>?_) (fun h4=>?_) (vc:=(zdc ui P uj)) (hv:=W62)
  ·exact Q4 (vD P U ue uj a b) ui (U.getD ui.toNat 0) (by dsimp only [vD];have z:=hJ3.1.one hM (uc h4);omega) (by dsimp only [vD];have z:=hJ3.1.one hM (uc h4);exact ⟨z.1,.inr (by rcases hJ3.2 with e | e<;>first | (rw [← e];exact z.2.1) | omega)⟩) (vc:=(zcb ui U)) (hv:=W62)
  ·refine tz [6,0,1,2,3] ?_
   refine Q7 (vE P U uj ui a b ue) (uj) (⟨hJ3.1,by rcases hJ3.2 with e | e<;>first | exact .inl ⟨e,rfl⟩ | exact .inr W29⟩) ?_
   rintro ul hJ5
   dsimp only [vE] at hJ5
   refine tz [6,0,1,2,3] ?_
   refine Q0 (decide (P.getD ui.toNat 0<P.getD ul.toNat 0)) (fun h6=>?_) (fun h6=>?_) (vc:=(zdc ul P ui)) (hv:=W62)
   ·exact Q4 (vE P U uj ui a b ue) ul (U.getD ul.toNat 0) (by dsimp only [vE];have z:=hJ5.1.two hM (uc h6);omega) (by dsimp only [vE];have z:=hJ5.1.two hM (uc h6);exact ⟨z.1,.inr (by rcases hJ5.2 with ⟨e,e1⟩ | e<;>first | (rw [← e,← e1];omega) | omega)⟩) (vc:=(zcb ul U)) (hv:=W62)
   ·exact Q4 (vP P U a b) (ue,uj) ((ui,ul)) (by dsimp only [vP];(have q4:=ud h4;have q6:=ud h6;have p1:=hM.pos _ hJ5.1.1;have p2:=hM.pos _ hJ5.1.2.1;rcases hJ5.2 with ⟨rfl,rfl⟩ | e<;>first | omega | exact absurd (hM.one _ _ hJ5.1.1 hJ5.1.2.1 (by omega)) (ud (nb3 h2)))) (hJ5.1)
 ·exact Q2 [] [4] [mtF P U a b=ue] (by have e:=hJ1.done (uc (nb1 h2));rw [e]<;>(try simp only [Conj])<;>(repeat' apply jo)<;>first | rfl | trivial)
abbrev zaK (y0:Grf):Reg:=IntRow (ordL y0.nodes)
def vF (g:Grf):Lp (Int×List Int):=⟨fun x=>{ N:=85,fr:=[se 31 (C.i .i64 x.1),se 30 (C.i .i64 (↑g.nodes.length:Int)),se 6 (C.p 7 0),se 5 (C.h 5),se 3 (C.h 2),se 4 (C.p 4 0),zF],rg:=[rowOf 13 (·.tc) g.nodes,ze g,zaK g,zaC g,za3,rowOf 1 (·.tc) (aheadL g.nodes),IntOwn (x.2),Reg.box 49 [C.h 6]],wr:=[] },fun x=>0≤x.1∧x.1≤(g.nodes.length:Int)∧x.2=filF g.nodes.length x.1.toNat,fun x=>((g.nodes.length:Int)-x.1).toNat⟩
abbrev zba:En:=se 8 (C.fn 161 false [4,7])
def vQ (g:Grf) (un:List Int):Lp (Bool×List Int):=⟨fun x=>{ N:=85,fr:=[se 9 (C.b x.1),zba,se 6 (C.p 7 0),se 5 (C.h 5),se 3 (C.h 2),zF],rg:=[rowOf 13 (·.tc) g.nodes,ze g,zaK g,zaC g,za3,rowOf 1 (·.tc) (aheadL g.nodes),IntOwn (x.2),Reg.box 49 [C.h 6]],wr:=[] },fun x=>DmJ g.nodes x.2∧(x.1=false→rnF g.nodes x.2=x.2),fun x=>(if x.1=true then 1+lfF g.nodes g.nodes.length x.2 else 0)⟩
abbrev zaL (y0:Grf):Reg:=Reg.row 1 ((ordL y0.nodes).length-1) (fun i=>i64T ((ordL y0.nodes).getD (1+i) 0)) none
def vj (g:Grf) (uw:List Int):Lp (Int×Bool×List Int):=⟨fun x=>{ N:=85,fr:=[se 45 (C.i .i64 x.1),{ slot:=44,g:=[],sv:=SV.c (C.i .i64 (↑((ordL g.nodes).length-1):Int)) },se 43 (C.h 8),se 9 (C.b x.2.1),zba,se 6 (C.p 7 0),se 5 (C.h 5),se 3 (C.h 2),zF],rg:=[rowOf 13 (·.tc) g.nodes,ze g,zaK g,zaC g,za3,rowOf 1 (·.tc) (aheadL g.nodes),IntOwn (x.2.2),Reg.box 49 [C.h 6],zaL g],wr:=[] },fun x=>RnJ g.nodes uw x.2.2 x.1 x.2.1,fun x=>(((tlF g.nodes).length:Int)-x.1).toNat⟩
def u4 (g:Grf) (uv:Int) (uH:Bool) (uF:List Int):Lp (Int×Int):=⟨fun x=>{ N:=85,fr:=[se 54 (C.i .i64 x.1),{ slot:=53,g:=[],sv:=SV.c (C.i .i64 (↑((aheadL g.nodes).getD ((ordL g.nodes).getD (1+uv.toNat) 0).toNat ub).l.length:Int)) },se 52 (C.h 9),se 12 (C.i .i64 x.2),se 11 (C.i .i64 ((ordL g.nodes).getD (1+uv.toNat) 0)),se 45 (C.i .i64 uv),{ slot:=44,g:=[],sv:=SV.c (C.i .i64 (↑((ordL g.nodes).length-1):Int)) },se 43 (C.h 8),se 9 (C.b uH),zba,se 6 (C.p 7 0),se 5 (C.h 5),se 3 (C.h 2),zF],rg:=[rowOf 13 (·.tc) g.nodes,ze g,zaK g,zaC g,za3,Reg.row 1 (aheadL g.nodes).length (fun i=>((aheadL g.nodes).getD i ub).tc) (some (((ordL g.nodes).getD (1+uv.toNat) 0).toNat,[C.h 9])),IntOwn uF,Reg.box 49 [C.h 6],zaL g,Reg.row 1 ((aheadL g.nodes).getD ((ordL g.nodes).getD (1+uv.toNat) 0).toNat ub).l.length (fun i=>i64T (((aheadL g.nodes).getD ((ordL g.nodes).getD (1+uv.toNat) 0).toNat ub).l.getD i 0)) none],wr:=[] },fun x=>BsJ (plcL g.nodes) uF ((aheadL g.nodes).getD ((ordL g.nodes).getD (1+uv.toNat) 0).toNat ub).l x.1 x.2,fun x=>((((aheadL g.nodes).getD ((ordL g.nodes).getD (1+uv.toNat) 0).toNat ub).l.length:Int)-x.1).toNat⟩
abbrev zaw (y0:Grf):Reg:=IntOwn (domL y0.nodes)
abbrev zaJ (y0:Grf):En:=En.mk 23 [] (SV.agg [C.v (jG y0.name),C.i .i64 y0.locals,C.i .i64 y0.slots,C.h 0])
abbrev zaX:En:=En.mk 20 [] (SV.tup [(false,[C.h 2]),(false,[C.h 3])])
theorem Qqz (g:Grf) (hq:zC g) (hN:1≤g.nodes.length∧g.nodes.length≤4096) (hk:zI g):Ctr jb 148 [zV g] [.agg (g.cs 0)]
 (Det (.c (.h 1)) [.dead,zaw g]):=by
 refine Ctr.intro [] Tryz.func148 K K ?_
 refine Q3 J8 (Q4r g W46 W46 W46) [] ?_
 refine tz [16,2,1] ?_
 refine Q0 (!true) (fun h1=>?_) (fun h1=>?_)
 ·exact absurd h1 W79
 ·refine tz [2,1] ?_
  refine Q3 Q76 (Qd6 g W46 W46) [] ?_
  refine tWk (St.mk 85 [zaX,En.mk 19 [] (SV.agg [C.v (jG g.name),C.i .i64 g.locals,C.i .i64 g.slots,C.h 0]),zF,zaa] [rowOf 13 (·.tc) g.nodes,ze g,zaK g,zaC g] []) ?_
  refine tz [20,2,1] ?_
  refine Q3 Q5c (Qe8 g W46 W46 W46) [] ?_
  refine tWk (St.mk 85 [se 24 (C.h 5),zaJ g,se 3 (C.h 2),se 4 (C.p 4 0),se 22 (C.h 3),se 21 (C.h 2),En.mk 18 [] (SV.tup [(false,[C.h 2]),(false,[C.h 3])]),zaX,zF,zaa] [rowOf 13 (·.tc) g.nodes,ze g,zaK g,zaC g,za3,rowOf 1 (·.tc) (aheadL g.nodes)] []) ?_
  refine tz [24,3,4,2,1] ?_
  refine Q7 (vF g) (((0:Int),jf g.nodes.length (0:Int))) (⟨jE _,by omega,(Qho _).symm⟩) ?_ [] [11,12] [(jf g.nodes.length (0:Int)).length=g.nodes.length,∀ (i:Nat),i<(jf g.nodes.length (0:Int)).length→i64T ((jf g.nodes.length (0:Int)).getD i 0)=fun j=>valT (jg ja (0:Int)).cells.toList j] W34 (vc:=[(0:Int)≤(↑g.nodes.length:Int),(↑g.nodes.length:Int)≤(↑g.nodes.length:Int),(↑g.nodes.length:Int) * (8:Int)≤(140737488355328:Int),(↑g.nodes.length:Int)≤(↑maxLen:Int)]) (hv:=W18)
  rintro ⟨uf,un⟩ hJ2
  dsimp only [vF] at hJ2
  refine tz [31,30,6,5,3,4,2] ?_
  refine Q0 (decide (uf<(↑g.nodes.length:Int))) (fun h3=>?_) (fun h3=>?_)
  ·exact Q4 (vF g) (uf,un) ((uf+(1:Int),un.set uf.toNat (-1:Int))) (by dsimp only [vF];have q:=uc h3;omega) (by dsimp only [vF];have q:=uc h3;refine ⟨by omega,by omega,?_⟩;rw [hJ2.2.2];exact Qhp hJ2.1 q) [] [11,12] [(un.set uf.toNat (-1:Int)).length=un.length,∀ (i:Nat),i<(un.set uf.toNat (-1:Int)).length→i64T ((un.set uf.toNat (-1:Int)).getD i 0)=updT (fun i=>i64T (un.getD i 0)) uf.toNat 0 [jg ja (-1:Int)] i] W34 (vc:=[(0:Int)≤uf,uf<(↑un.length:Int),uf.toNat<un.length,Fits ja (uf+(1:Int))]) (hv:=W18)
  ·refine tz [31,30,6,5,3,4,2] ?_
   refine Q7 (vQ g un) ((true,dm0 g.nodes)) (⟨DmJ.start _,fun h=>absurd h W149⟩) ?_ [] [11,12] [(dm0 g.nodes).length=un.length,∀ (i:Nat),i<(dm0 g.nodes).length→i64T ((dm0 g.nodes).getD i 0)=updT (fun i=>i64T (un.getD i 0)) 0 0 [jg ja (0:Int)] i] W34 (vc:=[(0:Int)≤(0:Int),(0:Int)<(↑un.length:Int),0<un.length]) (hv:=W18)
   rintro ⟨ur,uw⟩ hJ4
   dsimp only [vQ] at hJ4
   refine tz [9,8,6,5,3,2] ?_
   refine Q0 (ur) (fun h5=>?_) (fun h5=>?_)
   ·refine tz [9,8,6,5,3,2] ?_
    refine Q7 (vj g uw) (((0:Int),false,uw)) (RnJ.start _) ?_ (vc:=[(0:Int)≤(1:Int),(1:Int)≤(↑(ordL g.nodes).length:Int),(↑(ordL g.nodes).length:Int)≤(↑(ordL g.nodes).length:Int)]) (hv:=W18)
    rintro ⟨uv,uH,uF⟩ hJ6
    dsimp only [vj] at hJ6
    refine tz [45,44,43,9,8,6,5,3,2] ?_
    refine Q0 (decide (uv<(↑((ordL g.nodes).length-1):Int))) (fun h7=>?_) (fun h7=>?_)
    ·refine Y4 5 (((ordL g.nodes).getD (1+uv.toNat) 0).toNat) ?_ (vc:=[((ordL g.nodes).getD (1+uv.toNat) 0).toNat<(aheadL g.nodes).length]) (hv:=W18)
     refine tz [45,44,43,9,8,6,5,3,2] ?_
     refine Q7 (u4 g uv uH uF) (((0:Int),(-1:Int))) (BsJ.start _ _ _) ?_ (vc:=[(0:Int)≤uv,uv<(↑((ordL g.nodes).length-1):Int),uv.toNat<(ordL g.nodes).length-1,(0:Int)≤(ordL g.nodes).getD (1+uv.toNat) 0,(ordL g.nodes).getD (1+uv.toNat) 0<(↑(aheadL g.nodes).length:Int),((ordL g.nodes).getD (1+uv.toNat) 0).toNat=((ordL g.nodes).getD (1+uv.toNat) 0).toNat]) (hv:=W18)
     rintro ⟨uD,uC⟩ hJ8
     dsimp only [u4] at hJ8
     refine tz [54,53,52,12,11,45,44,43,9,8,6,5,3,2] ?_
     refine Q0 (decide (uD<(↑((aheadL g.nodes).getD ((ordL g.nodes).getD (1+uv.toNat) 0).toNat ub).l.length:Int))) (fun h9=>?_) (fun h9=>?_)
     ·refine tz [54,53,52,12,11,45,44,43,9,8,6,5,3,2] ?_
      refine Q0 (decide (uF.getD (((aheadL g.nodes).getD ((ordL g.nodes).getD (1+uv.toNat) 0).toNat ub).l.getD uD.toNat 0).toNat (0:Int)<(0:Int))) (fun h10=>?_) (fun h10=>?_) (vc:=[(0:Int)≤uD,uD<(↑((aheadL g.nodes).getD ((ordL g.nodes).getD (1+uv.toNat) 0).toNat ub).l.length:Int),uD.toNat<((aheadL g.nodes).getD ((ordL g.nodes).getD (1+uv.toNat) 0).toNat ub).l.length,(0:Int)≤((aheadL g.nodes).getD ((ordL g.nodes).getD (1+uv.toNat) 0).toNat ub).l.getD uD.toNat 0,((aheadL g.nodes).getD ((ordL g.nodes).getD (1+uv.toNat) 0).toNat ub).l.getD uD.toNat 0<(↑uF.length:Int),(((aheadL g.nodes).getD ((ordL g.nodes).getD (1+uv.toNat) 0).toNat ub).l.getD uD.toNat 0).toNat<uF.length]) (hv:=W18)
      ·exact Q4 (u4 g uv uH uF) (uD,uC) ((uD+(1:Int),uC)) W165 W81 (vc:=[Fits ja (uD+(1:Int))]) (hv:=W18)
      ·refine tz [14,54,53,52,12,11,45,44,43,9,8,6,5,3,2] ?_
       refine Q0 (decide (uC<(0:Int))) (fun h11=>?_) (fun h11=>?_)
       ·exact Q4 (u4 g uv uH uF) (uD,uC) ((uD+(1:Int),((aheadL g.nodes).getD ((ordL g.nodes).getD (1+uv.toNat) 0).toNat ub).l.getD uD.toNat 0)) W165 W81 (vc:=[Fits ja (uD+(1:Int))]) (hv:=W18)
       ·refine tz [14,54,53,52,12,11,45,44,43,9,8,6,5,3,2] ?_
        refine Q3 Q46 (Qp7 (plcL g.nodes) uF uC (((aheadL g.nodes).getD ((ordL g.nodes).getD (1+uv.toNat) 0).toNat ub).l.getD uD.toNat 0) W46 W46 W46) [4,7,3,6] ?_
        exact Q4 (u4 g uv uH uF) (uD,uC) ((uD+(1:Int),mtF (plcL g.nodes) uF uC (((aheadL g.nodes).getD ((ordL g.nodes).getD (1+uv.toNat) 0).toNat ub).l.getD uD.toNat 0))) W165 W81 (vc:=[Fits ja (uD+(1:Int))]) (hv:=W18)
     ·refine tz [54,53,52,12,11,45,44,43,9,8,6,5,3,2] ?_
      refine Q0 (!decide (uF.getD ((ordL g.nodes).getD (1+uv.toNat) 0).toNat (0:Int)=uC)) (fun h10=>?_) (fun h10=>?_) (vc:=[(0:Int)≤(ordL g.nodes).getD (1+uv.toNat) 0,(ordL g.nodes).getD (1+uv.toNat) 0<(↑uF.length:Int),((ordL g.nodes).getD (1+uv.toNat) 0).toNat<uF.length]) (hv:=W18)
      ·exact Q4 (vj g uw) (uv,uH,uF) ((uv+(1:Int),true,uF.set ((ordL g.nodes).getD (1+uv.toNat) 0).toNat uC)) W177 W139 [] [11,12] [(uF.set ((ordL g.nodes).getD (1+uv.toNat) 0).toNat uC).length=uF.length,∀ (i:Nat),i<(uF.set ((ordL g.nodes).getD (1+uv.toNat) 0).toNat uC).length→i64T ((uF.set ((ordL g.nodes).getD (1+uv.toNat) 0).toNat uC).getD i 0)=updT (fun i=>i64T (uF.getD i 0)) ((ordL g.nodes).getD (1+uv.toNat) 0).toNat 0 [jg ja uC] i] W34 (vc:=[(0:Int)≤(ordL g.nodes).getD (1+uv.toNat) 0,(ordL g.nodes).getD (1+uv.toNat) 0<(↑uF.length:Int),((ordL g.nodes).getD (1+uv.toNat) 0).toNat<uF.length,Fits ja (uv+(1:Int))]) (hv:=W18)
      ·exact Q4 (vj g uw) (uv,uH,uF) ((uv+(1:Int),uH,uF)) W177 W139 (vc:=[Fits ja (uv+(1:Int))]) (hv:=W18)
    ·exact Q4 (vQ g un) (ur,uw) ((uH,uF)) (by dsimp only [vQ];rw [if_pos h5];exact hJ6.less hq (by omega) hJ4.1 (ud h7)) (hJ6.both hq W29 hJ4.1 (ud h7))
   ·exact Q2 [0,6] [0,1] [(domL g.nodes).length=uw.length,∀ (i:Nat),i<(domL g.nodes).length→i64T ((domL g.nodes).getD i 0)=updT (fun i=>i64T (uw.getD i 0)) 0 0 [jg ja (-1:Int)] i] (by simp only [Conj];have e:=hJ4.1.fin hq (by omega) (hJ4.2 h5);rw [← e];exact ⟨jy,Qq _ _ _⟩) (vc:=[(0:Int)≤(0:Int),(0:Int)<(↑uw.length:Int),0<uw.length]) (hv:=W18)
theorem Qkc (g:Grf) (u b:Int) (hM:UpH (plcL g.nodes) (domL g.nodes)) (hb:b<((domL g.nodes).length:Int)):Ctr jb 150 [zaU,zaw g] [zbK u,zbK b,.c (.p 0 0)]
 (Det (.c (.b (upF (plcL g.nodes) (domL g.nodes) u b))) [zaU,zaw g]):=by
 exact Qn4 (plcL g.nodes) (domL g.nodes) u b hM hb
theorem Qkd:MT.Ok (MT.mk jb 141 3 4 [CK.i ja] false [CK.b] false):=MT.ok_int K K (.inr rfl) (fun w=>by kernel_rfl)
abbrev zax (y0:Grf):En:=se 32 (C.i .i64 (↑y0.nodes.length:Int))
abbrev zaA:En:=se 6 (C.fn 150 false [3])
def vm (g:Grf):Lp (Int×List Int):=⟨fun x=>{ N:=119,fr:=[se 33 (C.i .i64 x.1),zax g,se 7 (C.h 6),zaA,se 5 (C.h 5),se 4 (C.h 4),zF],rg:=[rowOf 13 (·.tc) g.nodes,ze g,zaw g,zY,rowOf 1 (·.tc) (rchL g.nodes),rowOf 1 (·.tc) (aheadL g.nodes),IntOwn (x.2)],wr:=[] },fun x=>DpO g.nodes.length x.1 x.2,fun x=>((g.nodes.length:Int)-x.1).toNat⟩
abbrev zT (y0:Grf) (y1:Int):Reg:=Reg.row 1 ((aheadL y0.nodes).getD y1.toNat ub).l.length (fun i=>i64T (((aheadL y0.nodes).getD y1.toNat ub).l.getD i 0)) none
def u5 (g:Grf) (ui:Int) (uq:List Int):Lp (Int×List Int×Nat×(Int→Option (Bool))):=⟨fun x=>{ N:=119,fr:=[se 47 (C.i .i64 x.1),{ slot:=46,g:=[],sv:=SV.c (C.i .i64 (↑((aheadL g.nodes).getD ui.toNat ub).l.length:Int)) },se 45 (C.h 7),se 10 (C.h 9),se 9 (C.h 8),se 8 (C.i .i64 ui),se 33 (C.i .i64 ui),zax g,se 7 (C.h 6),zaA,se 5 (C.h 5),se 4 (C.h 4),zF],rg:=[rowOf 13 (·.tc) g.nodes,ze g,zaw g,zY,rowOf 1 (·.tc) (rchL g.nodes),Reg.row 1 (aheadL g.nodes).length (fun i=>((aheadL g.nodes).getD i ub).tc) (some (ui.toNat,[C.h 7])),IntOwn uq,zT g ui,Reg.mp (MT.mk jb 141 3 4 [CK.i ja] false [CK.b] false) (x.2.2.1) (fun a=>(x.2.2.2 a).isSome) (fun a=>(x.2.2.2 a).getD (false)) none]++[IntOwn x.2.1],wr:=[] },fun x=>DpA g.nodes.length ((aheadL g.nodes).getD ui.toNat ub).l.length x.1 x.2.1 x.2.2.1 x.2.2.2,fun x=>((((aheadL g.nodes).getD ui.toNat ub).l.length:Int)-x.1).toNat⟩
def vR (g:Grf) (ui:Int) (uq:List Int) (uH:List Int) (uF:Nat) (uK:Int→Option Bool):Lp (Nat×(Int→Option (Bool))×List Int):=⟨fun x=>{ N:=119,fr:=[se 10 (C.h 9),se 9 (C.h 8),se 33 (C.i .i64 ui),zax g,se 7 (C.h 6),zaA,se 5 (C.h 5),se 4 (C.h 4),zF],rg:=[rowOf 13 (·.tc) g.nodes,ze g,zaw g,zY,rowOf 1 (·.tc) (rchL g.nodes),rowOf 1 (·.tc) (aheadL g.nodes),IntOwn uq,zT g ui,Reg.mp (MT.mk jb 141 3 4 [CK.i ja] false [CK.b] false) (x.1) (fun a=>(x.2.1 a).isSome) (fun a=>(x.2.1 a).getD (false)) none,IntOwn (x.2.2)],wr:=[] },fun x=>DpB g.nodes.length x.1 x.2.1 x.2.2,fun x=>unmF g.nodes.length x.2.1 * (2 * g.nodes.length+1)+x.2.2.length⟩
def vl (g:Grf) (ui:Int) (uq:List Int) (uD:Nat) (uC:Int→Option Bool) (uu:List Int):Lp (Int×List Int):=⟨fun x=>{ N:=119,fr:=[se 92 (C.i .i64 x.1),{ slot:=91,g:=[],sv:=SV.c (C.i .i64 (↑((aheadL g.nodes).getD (uu.getD ((↑uu.length:Int)-(1:Int)).toNat (0:Int)).toNat ub).l.length:Int)) },se 90 (C.h 10),se 10 (C.h 11),se 9 (C.h 8),se 33 (C.i .i64 ui),zax g,se 7 (C.h 6),zaA,se 5 (C.h 5),se 4 (C.h 4),zF],rg:=[rowOf 13 (·.tc) g.nodes,ze g,zaw g,zY,rowOf 1 (·.tc) (rchL g.nodes),Reg.row 1 (aheadL g.nodes).length (fun i=>((aheadL g.nodes).getD i ub).tc) (some ((uu.getD ((↑uu.length:Int)-(1:Int)).toNat (0:Int)).toNat,[C.h 10])),IntOwn uq,zT g ui,Reg.mp (MT.mk jb 141 3 4 [CK.i ja] false [CK.b] false) (uD+1) (fun (q:Int)=>decide (q=uu.getD ((↑uu.length:Int)-(1:Int)).toNat (0:Int))||(uC q).isSome) (fun (q:Int)=>if q=uu.getD ((↑uu.length:Int)-(1:Int)).toNat (0:Int) then true else (uC q).getD false) none,Reg.dead,Reg.row 1 ((aheadL g.nodes).getD (uu.getD ((↑uu.length:Int)-(1:Int)).toNat (0:Int)).toNat ub).l.length (fun i=>i64T (((aheadL g.nodes).getD (uu.getD ((↑uu.length:Int)-(1:Int)).toNat (0:Int)).toNat ub).l.getD i 0)) none,IntOwn (x.2)],wr:=[] },fun x=>DpD g.nodes.length ((aheadL g.nodes).getD (uu.getD ((uu.length:Int)-(1:Int)).toNat (0:Int)).toNat ub).l.length uu.length x.1 x.2,fun x=>((((aheadL g.nodes).getD (uu.getD ((uu.length:Int)-(1:Int)).toNat (0:Int)).toNat ub).l.length:Int)-x.1).toNat⟩
def wn (g:Grf) (ui:Int) (uq:List Int) (uD:Nat) (uC:Int→Option Bool) (uu:List Int) (rr10:Nat) (cc10:Nat):Lp (List Int×(Int→Bool)×Nat):=⟨fun x=>{ N:=119,fr:=[se 106 (C.h 10),se 33 (C.i .i64 ui),zax g,se 7 (C.h 6),zaA,se 5 (C.h 5),se 4 (C.h 4),zF],rg:=[rowOf 13 (·.tc) g.nodes,ze g,zaw g,zY,rowOf 1 (·.tc) (rchL g.nodes),rowOf 1 (·.tc) (aheadL g.nodes),IntOwn (x.1),zT g ui,Reg.mp (MT.mk jb 141 3 4 [CK.i ja] false [CK.b] false) (uD) (fun a=>(uC a).isSome) (fun a=>(uC a).getD false) (some (MIt.mk (rr10) (x.2.1) (x.2.2) none)),IntOwn uu,Reg.itr rr10],wr:=[] },fun x=>DpE g.nodes.length ui x.1 x.2.1,fun x=>x.2.2⟩
abbrev za0:En:=se 3 (C.p 3 0)
theorem Qn9 (g:Grf) (hq:zC g) (hN:1≤g.nodes.length∧g.nodes.length≤4096) (hk:zI g):Ctr jb 133 [zV g] [.agg (g.cs 0)]
 (DetE (fun D:List Int=>D.length=g.nodes.length∧∀ i:Nat,i<g.nodes.length→0≤D.getD i 0∧D.getD i 0≤4503599627370496) (fun _=>.c (.h 1)) (fun D=>[.dead,IntOwn D])):=by
 refine Ctr.intro [] Tryz.func133 K K ?_
 refine Q3 Q5r (Qqz g W71 W71 W71) [] ?_
 refine tz [18,2,1] ?_
 refine RunF.rnil (n:=(domL g.nodes).length) (vc:=[]) 2 K trivial K (fun _=>by kernel_rfl) (fun nil1 hn1=>?_)
 refine tz [20,3,2,1] ?_
 refine Q0 (nil1) (fun h2=>?_) (fun h2=>?_)
 ·exact (show False from by have z:=hn1 h2;rw [(Qca hq W29).2.1] at z;omega).elim
 ·refine tz [3,2,1] ?_
  refine Q3 Q45 (Qc4 g W71 W71) [] ?_
  refine tWk (St.mk 119 [se 22 (C.h 4),En.mk 21 [] (SV.agg [C.v (jG g.name),C.i .i64 g.locals,C.i .i64 g.slots,C.h 0]),za0,zF,zaa] [rowOf 13 (·.tc) g.nodes,ze g,zaw g,zY,rowOf 1 (·.tc) (rchL g.nodes)] []) ?_
  refine tz [22,3,2,1] ?_
  refine Q3 Q5c (Qe8 g W71 W71 W71) [] ?_
  refine tWk (St.mk 119 [se 24 (C.h 5),zaJ g,se 4 (C.h 4),se 22 (C.h 4),za0,zF,zaa] [rowOf 13 (·.tc) g.nodes,ze g,zaw g,zY,rowOf 1 (·.tc) (rchL g.nodes),rowOf 1 (·.tc) (aheadL g.nodes)] []) ?_
  refine tz [24,4,3,2,1] ?_
  refine Q7 (vm g) (((0:Int),jf g.nodes.length (0:Int))) (DpO.start _) ?_ [] [11,12] [(jf g.nodes.length (0:Int)).length=g.nodes.length,∀ (i:Nat),i<(jf g.nodes.length (0:Int)).length→i64T ((jf g.nodes.length (0:Int)).getD i 0)=fun j=>valT (jg ja (0:Int)).cells.toList j] W14 (vc:=[(0:Int)≤(↑g.nodes.length:Int),(↑g.nodes.length:Int)≤(↑g.nodes.length:Int),(↑g.nodes.length:Int) * (8:Int)≤(140737488355328:Int),(↑g.nodes.length:Int)≤(↑maxLen:Int)]) (hv:=W7)
  rintro ⟨ui,uq⟩ hJ3
  dsimp only [vm] at hJ3
  refine tz [33,32,7,6,5,4,2] ?_
  refine Q0 (decide (ui<(↑g.nodes.length:Int))) (fun h4=>?_) (fun h4=>?_)
  ·refine tz [33,32,7,6,5,4,2] ?_
   refine Q0 (!((rchL g.nodes).getD ui.toNat ub).b) (fun h5=>?_) (fun h5=>?_) (vc:=[(0:Int)≤ui,ui<(↑(rchL g.nodes).length:Int),ui.toNat<(rchL g.nodes).length]) (hv:=W7)
   ·exact Q4 (vm g) (ui,uq) ((ui+(1:Int),uq)) W184 W176 (vc:=[Fits ja (ui+(1:Int))]) (hv:=W7)
   ·refine Y4 5 (ui.toNat) ?_ (vc:=[ui.toNat<(aheadL g.nodes).length]) (hv:=W7)
    refine tz [8,33,32,7,6,5,4,2] ?_
    refine Q7 (u5 g ui uq) (((0:Int),[],0,fun x=>none)) (DpA.start _ _) ?_ [0,1,2,3,4,5,6,7,8,1000009] [16,17] [MpEq (MT.mk jb 141 3 4 [CK.i ja] false [CK.b] false) 0 (fun (a:Int)=>false) (fun (a:Int)=>false) none (MT.mk jb 141 3 4 [CK.i ja] false [CK.b] false) 0 (fun x=>false) (fun x=>KA.zero [CK.b]) none,(0:Nat)=0] W14 (vc:=[(MT.mk jb 141 3 4 [CK.i ja] false [CK.b] false).P=jb,(MT.mk jb 141 3 4 [CK.i ja] false [CK.b] false).Ok,(0:Int)≤ui,ui<(↑(aheadL g.nodes).length:Int),ui.toNat=ui.toNat]) (hv:=W7)
    rintro ⟨uv,uH,uF,uK⟩ hJ6
    dsimp only [u5] at hJ6
    refine tz [47,46,45,10,9,8,33,32,7,6,5,4,2] ?_
    refine Q0 (decide (uv<(↑((aheadL g.nodes).getD ui.toNat ub).l.length:Int))) (fun h7=>?_) (fun h7=>?_)
    ·refine tz [47,46,45,10,9,8,33,32,7,6,5,4,2] ?_
     refine Q0b (((rchL g.nodes).getD (((aheadL g.nodes).getD ui.toNat ub).l.getD uv.toNat 0).toNat ub).b) (fun h8=>?_) (fun h8=>?_) (vc:=[(0:Int)≤uv,uv<(↑((aheadL g.nodes).getD ui.toNat ub).l.length:Int),uv.toNat<((aheadL g.nodes).getD ui.toNat ub).l.length,(0:Int)≤((aheadL g.nodes).getD ui.toNat ub).l.getD uv.toNat 0,((aheadL g.nodes).getD ui.toNat ub).l.getD uv.toNat 0<(↑(rchL g.nodes).length:Int),(((aheadL g.nodes).getD ui.toNat ub).l.getD uv.toNat 0).toNat<(rchL g.nodes).length]) (hv:=W7)
     ·refine tz [58,57,56,55,12,47,46,45,10,9,8,33,32,7,6,5,4,2] ?_
      refine Q3 Qa8 (Qkc g ui (((aheadL g.nodes).getD ui.toNat ub).l.getD uv.toNat 0) W71 W71) [3,2] ?_
      refine tz [59,55,12,47,46,45,10,9,8,33,32,7,6,5,4,2] ?_
      refine Q0 (upF (plcL g.nodes) (domL g.nodes) ui (((aheadL g.nodes).getD ui.toNat ub).l.getD uv.toNat 0)) (fun h9=>?_) (fun h9=>?_)
      ·exact Q4 (u5 g ui uq) (uv,uH,uF,uK) ((uv+(1:Int),uH++[((aheadL g.nodes).getD ui.toNat ub).l.getD uv.toNat 0],uF+1,fun (q:Int)=>if q=ui then some true else uK q)) W166 W141 [0,1,2,3,4,5,6,7,8,11] [16,17,18,19] [MpEq (MT.mk jb 141 3 4 [CK.i ja] false [CK.b] false) (uF+1) (fun (a:Int)=>(if a=ui then some true else uK a).isSome) (fun (a:Int)=>(if a=ui then some true else uK a).getD false) none (MT.mk jb 141 3 4 [CK.i ja] false [CK.b] false) (uF+1) (fun (q:Int)=>decide (q=ui)||(uK q).isSome) (fun (q:Int)=>if q=ui then true else (uK q).getD false) none,(uH++[((aheadL g.nodes).getD ui.toNat ub).l.getD uv.toNat 0]).length=uH.length+1,∀ (i:Nat),i<(uH++[((aheadL g.nodes).getD ui.toNat ub).l.getD uv.toNat 0]).length→i≠uH.length→i64T ((uH++[((aheadL g.nodes).getD ui.toNat ub).l.getD uv.toNat 0]).getD i 0)=i64T (uH.getD i 0),i64T ((uH++[((aheadL g.nodes).getD ui.toNat ub).l.getD uv.toNat 0]).getD uH.length 0) 0=TC.val (jg ja (((aheadL g.nodes).getD ui.toNat ub).l.getD uv.toNat 0))] W14 (vc:=[Fits ja ui,(MT.mk jb 141 3 4 [CK.i ja] false [CK.b] false).P=jb,uF<maxLen,uH.length+1≤maxLen,(uH.length+1) * 8≤140737488355328,Fits ja (uv+(1:Int))]) (hv:=W7)
      ·exact Q4 (u5 g ui uq) (uv,uH,uF,uK) ((uv+(1:Int),uH,uF,uK)) W166 W141 [] [16] [MpEq (MT.mk jb 141 3 4 [CK.i ja] false [CK.b] false) uF (fun (a:Int)=>(uK a).isSome) (fun (a:Int)=>(uK a).getD false) none (MT.mk jb 141 3 4 [CK.i ja] false [CK.b] false) uF (fun (a:Int)=>(uK a).isSome) (fun (a:Int)=>(uK a).getD false) none] W14 (vc:=[Fits ja (uv+(1:Int))]) (hv:=W7)
     ·exact Q4 (u5 g ui uq) (uv,uH,uF,uK) ((uv+(1:Int),uH,uF,uK)) W166 W141 [] [16] [MpEq (MT.mk jb 141 3 4 [CK.i ja] false [CK.b] false) uF (fun (a:Int)=>(uK a).isSome) (fun (a:Int)=>(uK a).getD false) none (MT.mk jb 141 3 4 [CK.i ja] false [CK.b] false) uF (fun (a:Int)=>(uK a).isSome) (fun (a:Int)=>(uK a).getD false) none] W14 (vc:=[Fits ja (uv+(1:Int))]) (hv:=W7)
    ·refine tz [47,46,45,10,9,8,33,32,7,6,5,4,2] ?_
     refine RunF.hereL (vc:=[]) K trivial ?_
     refine Qb4 5 ((Iln.rowR (aheadL g.nodes))) ?_ (vc:=[(aheadL g.nodes).length=(aheadL g.nodes).length,∀ (i:Nat),i<(aheadL g.nodes).length→((aheadL g.nodes).getD i ub).tc=((aheadL g.nodes).getD i ub).tc]) (hv:=W174)
     refine tz [10,9,33,32,7,6,5,4,2] ?_
     refine Q7 (vR g ui uq uH uF uK) ((uF,uK,uH)) (hJ6.done (Z3 _ _)) ?_ [] [15] [MpEq (MT.mk jb 141 3 4 [CK.i ja] false [CK.b] false) uF (fun (a:Int)=>(uK a).isSome) (fun (a:Int)=>(uK a).getD false) none (MT.mk jb 141 3 4 [CK.i ja] false [CK.b] false) uF (fun (a:Int)=>(uK a).isSome) (fun (a:Int)=>(uK a).getD false) none] W14
     rintro ⟨uD,uC,uu⟩ hJ8
     dsimp only [vR] at hJ8
     refine tz [10,9,33,32,7,6,5,4,2] ?_
     refine Q0 (decide ((0:Int)<(↑uu.length:Int))) (fun h9=>?_) (fun h9=>?_)
     ·refine tz [10,9,33,32,7,6,5,4,2] ?_
      refine Q0 ((uC (uu.getD ((↑uu.length:Int)-(1:Int)).toNat (0:Int))).getD false) (fun h10=>?_) (fun h10=>?_) (vc:=[Fits ja ((↑uu.length:Int)-(1:Int)),(0:Int)≤(↑uu.length:Int)-(1:Int),(↑uu.length:Int)-(1:Int)<(↑uu.length:Int),((↑uu.length:Int)-(1:Int)).toNat<uu.length,Fits ja ((↑uu.length:Int)-(1:Int)),(0:Int)≤(0:Int),(0:Int)≤(↑uu.length:Int)-(1:Int),(↑uu.length:Int)-(1:Int)≤(↑uu.length:Int),(0:Int)<(↑uu.length:Int),Fits ja (uu.getD ((↑uu.length:Int)-(1:Int)).toNat (0:Int)),(MT.mk jb 141 3 4 [CK.i ja] false [CK.b] false).P=jb]) (hv:=W7)
      ·refine RunF.hereJ (vc:=[]) K K trivial ?_
       refine RunF.trim 9 ((uu.length-1)) (ty:=3) (size:=1) (n:=uu.length) (f:=fun i=>i64T (uu.getD i 0)) (vc:=[((↑uu.length:Int)-(1:Int)).toNat-0=uu.length-1,((↑uu.length:Int)-(1:Int)).toNat-0=uu.length-1]) K K (by have q:=uc h9;omega) K W181 ?_
       exact Q4 (vR g ui uq uH uF uK) (uD,uC,uu) ((uD,uC,jW (uu.length-1) uu)) W160 W161 [0,1,2,3,4,5,6,7,8,10] [15,16,17] [MpEq (MT.mk jb 141 3 4 [CK.i ja] false [CK.b] false) uD (fun (a:Int)=>(uC a).isSome) (fun (a:Int)=>(uC a).getD false) none (MT.mk jb 141 3 4 [CK.i ja] false [CK.b] false) uD (fun (a:Int)=>(uC a).isSome) (fun (a:Int)=>(uC a).getD false) none,(jW (uu.length-1) uu).length=uu.length-1,∀ (i:Nat),i<(jW (uu.length-1) uu).length→i64T ((jW (uu.length-1) uu).getD i 0)=i64T (uu.getD i 0)] W14
      ·refine Y4 5 ((uu.getD ((uu.length:Int)-(1:Int)).toNat (0:Int)).toNat) ?_ (vc:=[(uu.getD ((↑uu.length:Int)-(1:Int)).toNat (0:Int)).toNat<(aheadL g.nodes).length]) (hv:=W7)
       refine RunF.trim 9 ((uu.length-1)) (ty:=3) (size:=1) (n:=uu.length) (f:=fun i=>i64T (uu.getD i 0)) (vc:=[((↑uu.length:Int)-(1:Int)).toNat-0=uu.length-1,((↑uu.length:Int)-(1:Int)).toNat-0=uu.length-1]) K K (by have q:=uc h9;omega) K W181 ?_
       refine tz [10,13,9,33,32,7,6,5,4,2] ?_
       refine Q7 (vl g ui uq uD uC uu) (((0:Int),jW (uu.length-1) uu)) (hJ8.inner (uc h9)) ?_ [] [16,19,20] [MpEq (MT.mk jb 141 3 4 [CK.i ja] false [CK.b] false) (uD+1) (fun (q:Int)=>decide (q=uu.getD ((↑uu.length:Int)-(1:Int)).toNat (0:Int))||(uC q).isSome) (fun (q:Int)=>if q=uu.getD ((↑uu.length:Int)-(1:Int)).toNat (0:Int) then true else (uC q).getD false) none (MT.mk jb 141 3 4 [CK.i ja] false [CK.b] false) (uD+1) (fun (q:Int)=>decide (q=uu.getD ((↑uu.length:Int)-(1:Int)).toNat (0:Int))||(uC q).isSome) (fun (q:Int)=>if q=uu.getD ((↑uu.length:Int)-(1:Int)).toNat (0:Int) then true else (uC q).getD false) none,(jW (uu.length-1) uu).length=uu.length-1,∀ (i:Nat),i<(jW (uu.length-1) uu).length→i64T ((jW (uu.length-1) uu).getD i 0)=i64T (uu.getD i 0)] W14 (vc:=[Fits ja (uu.getD ((↑uu.length:Int)-(1:Int)).toNat (0:Int)),(MT.mk jb 141 3 4 [CK.i ja] false [CK.b] false).P=jb,uD<maxLen,(0:Int)≤uu.getD ((↑uu.length:Int)-(1:Int)).toNat (0:Int),uu.getD ((↑uu.length:Int)-(1:Int)).toNat (0:Int)<(↑(aheadL g.nodes).length:Int),(uu.getD ((↑uu.length:Int)-(1:Int)).toNat (0:Int)).toNat=(uu.getD ((↑uu.length:Int)-(1:Int)).toNat (0:Int)).toNat]) (hv:=W7)
       rintro ⟨uI,uP⟩ hJ11
       dsimp only [vl] at hJ11
       refine tz [92,91,90,10,9,33,32,7,6,5,4,2] ?_
       refine Q0 (decide (uI<(↑((aheadL g.nodes).getD (uu.getD ((↑uu.length:Int)-(1:Int)).toNat (0:Int)).toNat ub).l.length:Int))) (fun h12=>?_) (fun h12=>?_)
       ·refine tz [92,91,90,10,9,33,32,7,6,5,4,2] ?_
        refine Q0 (((rchL g.nodes).getD (((aheadL g.nodes).getD (uu.getD ((↑uu.length:Int)-(1:Int)).toNat (0:Int)).toNat ub).l.getD uI.toNat 0).toNat ub).b) (fun h13=>?_) (fun h13=>?_) (vc:=[(0:Int)≤uI,uI<(↑((aheadL g.nodes).getD (uu.getD ((↑uu.length:Int)-(1:Int)).toNat (0:Int)).toNat ub).l.length:Int),uI.toNat<((aheadL g.nodes).getD (uu.getD ((↑uu.length:Int)-(1:Int)).toNat (0:Int)).toNat ub).l.length,(0:Int)≤((aheadL g.nodes).getD (uu.getD ((↑uu.length:Int)-(1:Int)).toNat (0:Int)).toNat ub).l.getD uI.toNat 0,((aheadL g.nodes).getD (uu.getD ((↑uu.length:Int)-(1:Int)).toNat (0:Int)).toNat ub).l.getD uI.toNat 0<(↑(rchL g.nodes).length:Int),(((aheadL g.nodes).getD (uu.getD ((↑uu.length:Int)-(1:Int)).toNat (0:Int)).toNat ub).l.getD uI.toNat 0).toNat<(rchL g.nodes).length]) (hv:=W7)
        ·exact Q4 (vl g ui uq uD uC uu) (uI,uP) ((uI+(1:Int),uP++[((aheadL g.nodes).getD (uu.getD ((↑uu.length:Int)-(1:Int)).toNat (0:Int)).toNat ub).l.getD uI.toNat 0])) W183 W162 [0,1,2,3,4,5,6,7,8,9,10,13] [16,19,20,21] [MpEq (MT.mk jb 141 3 4 [CK.i ja] false [CK.b] false) (uD+1) (fun (q:Int)=>decide (q=uu.getD ((↑uu.length:Int)-(1:Int)).toNat (0:Int))||(uC q).isSome) (fun (q:Int)=>if q=uu.getD ((↑uu.length:Int)-(1:Int)).toNat (0:Int) then true else (uC q).getD false) none (MT.mk jb 141 3 4 [CK.i ja] false [CK.b] false) (uD+1) (fun (q:Int)=>decide (q=uu.getD ((↑uu.length:Int)-(1:Int)).toNat (0:Int))||(uC q).isSome) (fun (q:Int)=>if q=uu.getD ((↑uu.length:Int)-(1:Int)).toNat (0:Int) then true else (uC q).getD false) none,(uP++[((aheadL g.nodes).getD (uu.getD ((↑uu.length:Int)-(1:Int)).toNat (0:Int)).toNat ub).l.getD uI.toNat 0]).length=uP.length+1,∀ (i:Nat),i<(uP++[((aheadL g.nodes).getD (uu.getD ((↑uu.length:Int)-(1:Int)).toNat (0:Int)).toNat ub).l.getD uI.toNat 0]).length→i≠uP.length→i64T ((uP++[((aheadL g.nodes).getD (uu.getD ((↑uu.length:Int)-(1:Int)).toNat (0:Int)).toNat ub).l.getD uI.toNat 0]).getD i 0)=i64T (uP.getD i 0),i64T ((uP++[((aheadL g.nodes).getD (uu.getD ((↑uu.length:Int)-(1:Int)).toNat (0:Int)).toNat ub).l.getD uI.toNat 0]).getD uP.length 0) 0=TC.val (jg ja (((aheadL g.nodes).getD (uu.getD ((↑uu.length:Int)-(1:Int)).toNat (0:Int)).toNat ub).l.getD uI.toNat 0))] W14 (vc:=[uP.length+1≤maxLen,(uP.length+1) * 8≤140737488355328,Fits ja (uI+(1:Int))]) (hv:=W7)
        ·exact Q4 (vl g ui uq uD uC uu) (uI,uP) ((uI+(1:Int),uP)) W183 W162 [] [16] [MpEq (MT.mk jb 141 3 4 [CK.i ja] false [CK.b] false) (uD+1) (fun (q:Int)=>decide (q=uu.getD ((↑uu.length:Int)-(1:Int)).toNat (0:Int))||(uC q).isSome) (fun (q:Int)=>if q=uu.getD ((↑uu.length:Int)-(1:Int)).toNat (0:Int) then true else (uC q).getD false) none (MT.mk jb 141 3 4 [CK.i ja] false [CK.b] false) (uD+1) (fun (q:Int)=>decide (q=uu.getD ((↑uu.length:Int)-(1:Int)).toNat (0:Int))||(uC q).isSome) (fun (q:Int)=>if q=uu.getD ((↑uu.length:Int)-(1:Int)).toNat (0:Int) then true else (uC q).getD false) none] W14 (vc:=[Fits ja (uI+(1:Int))]) (hv:=W7)
       ·refine Qb4 5 ((Iln.rowR (aheadL g.nodes))) ?_ (vc:=[(aheadL g.nodes).length=(aheadL g.nodes).length,∀ (i:Nat),i<(aheadL g.nodes).length→((aheadL g.nodes).getD i ub).tc=((aheadL g.nodes).getD i ub).tc]) (hv:=W174)
        exact Q4 (vR g ui uq uH uF uK) (uD,uC,uu) ((uD+1,fun (q:Int)=>if q=uu.getD ((↑uu.length:Int)-(1:Int)).toNat (0:Int) then some true else uC q,uP)) W160 W161 [0,1,2,3,4,5,6,7,8,11] [15] [MpEq (MT.mk jb 141 3 4 [CK.i ja] false [CK.b] false) (uD+1) (fun (a:Int)=>(if a=uu.getD ((↑uu.length:Int)-(1:Int)).toNat (0:Int) then some true else uC a).isSome) (fun (a:Int)=>(if a=uu.getD ((↑uu.length:Int)-(1:Int)).toNat (0:Int) then some true else uC a).getD false) none (MT.mk jb 141 3 4 [CK.i ja] false [CK.b] false) (uD+1) (fun (q:Int)=>decide (q=uu.getD ((↑uu.length:Int)-(1:Int)).toNat (0:Int))||(uC q).isSome) (fun (q:Int)=>if q=uu.getD ((↑uu.length:Int)-(1:Int)).toNat (0:Int) then true else (uC q).getD false) none] W14
     ·refine tz [10,9,33,32,7,6,5,4,2] ?_
      refine RunF.mrange (T:=MT.mk jb 141 3 4 [CK.i ja] false [CK.b] false) (n:=uD) (has:=fun (a:Int)=>(uC a).isSome) (f:=fun (a:Int)=>(uC a).getD false) (it:=none) (vc:=[]) 8 K trivial K rfl (fun _ _=>by kernel_rfl) (fun rr10 cc10=>?_)
      refine tz [106,33,32,7,6,5,4,2] ?_
      refine Q7 (wn g ui uq uD uC uu rr10 cc10) ((uq,fun (a:Int)=>(uC a).isSome,cc10)) (DpE.start hJ3 hN.2 _) ?_ [] [15] [MpEq (MT.mk jb 141 3 4 [CK.i ja] false [CK.b] false) uD (fun (a:Int)=>(uC a).isSome) (fun (a:Int)=>(uC a).getD false) (some (MIt.mk (K:=[CK.i .i64]) rr10 (fun (a:Int)=>(uC a).isSome) cc10 none)) (MT.mk jb 141 3 4 [CK.i ja] false [CK.b] false) uD (fun (a:Int)=>(uC a).isSome) (fun (a:Int)=>(uC a).getD false) (some (MIt.mk (K:=[CK.i .i64]) rr10 (fun (a:Int)=>(uC a).isSome) cc10 none))] W14
      rintro ⟨uI,uP,vS⟩ hJ11
      dsimp only [wn] at hJ11
      refine tz [106,33,32,7,6,5,4,2] ?_
      refine RunF.mnext (A:=Int) (T:=MT.mk jb 141 3 4 [CK.i ja] false [CK.b] false) (n:=uD) (has:=fun (a:Int)=>(uC a).isSome) (f:=fun (a:Int)=>(uC a).getD false) (it:=MIt.mk (K:=[CK.i .i64]) rr10 uP vS none) (vc:=[]) 8 10 (fun p=>p) (fun (a:Int)=>⟨a,rfl⟩) K trivial K K rfl K (fun _ _=>by kernel_rfl) ?_ ?_
      ·intro hl12
       dsimp only at hl12
       exact Q4 (vm g) (ui,uq) ((ui+(1:Int),uI)) W184 W176 (vc:=[Fits ja (ui+(1:Int))]) (hv:=W7)
      ·rintro kv12_0 cn12 hwf12 hl12 hh12 hc12
       dsimp only at hl12 hh12 hc12
       exact Q4 (wn g ui uq uD uC uu rr10 cc10) (uI,uP,vS) ((uI.set kv12_0.toNat (uI.getD kv12_0.toNat 0+(1:Int)),fun (q:Int)=>(MIt.mk (K:=[CK.i .i64]) rr10 uP vS none).left q&&!decide (q=kv12_0),cn12)) (by assumption) (hJ11.put (hJ8.ks _ hh12) hl12) [] [11,12,15] [(uI.set kv12_0.toNat (uI.getD kv12_0.toNat 0+(1:Int))).length=uI.length,∀ (i:Nat),i<(uI.set kv12_0.toNat (uI.getD kv12_0.toNat 0+(1:Int))).length→i64T ((uI.set kv12_0.toNat (uI.getD kv12_0.toNat 0+(1:Int))).getD i 0)=updT (fun i=>i64T (uI.getD i 0)) kv12_0.toNat 0 [jg ja (uI.getD kv12_0.toNat 0+(1:Int))] i,MpEq (MT.mk jb 141 3 4 [CK.i ja] false [CK.b] false) uD (fun (a:Int)=>(uC a).isSome) (fun (a:Int)=>(uC a).getD false) (some (MIt.mk (K:=[CK.i .i64]) rr10 (fun (q:Int)=>uP q&&!decide (q=kv12_0)) cn12 none)) (MT.mk jb 141 3 4 [CK.i ja] false [CK.b] false) uD (fun (a:Int)=>(uC a).isSome) (fun (a:Int)=>(uC a).getD false) (some (MIt.mk (K:=[CK.i .i64]) rr10 (fun (q:Int)=>uP q&&!decide (q=kv12_0)) cn12 (some kv12_0)))] W14 (vc:=[rr10=(MIt.mk (K:=[CK.i .i64]) rr10 uP vS none).r,(MT.mk jb 141 3 4 [CK.i ja] false [CK.b] false).P=jb,(0:Int)≤kv12_0,kv12_0<(↑uI.length:Int),kv12_0.toNat<uI.length,Fits ja (uI.getD kv12_0.toNat 0+(1:Int)),(0:Int)≤kv12_0,kv12_0<(↑uI.length:Int),kv12_0.toNat<uI.length]) (hv:=W7)
  ·exact Q2 [0,6] (res:=_) (post:=_) (hS:=⟨uq,⟨hJ3.len,fun i hi=>by have v:=hJ3.val i hi;have v2:=hJ3.hi;omega⟩,rfl,rfl⟩)
abbrev zE (y0:Grf):Reg:=Reg.box 189 [C.v (jG y0.name),C.i .i64 y0.locals,C.i .i64 y0.slots,C.h 0,C.h 1,C.h 2,C.h 3]
abbrev zL (y0:Grf) (y1:WW):Reg:=Reg.row 65 y0.nodes.length (fun i=>wsT (y1 i)) none
abbrev zaV:En:=se 0 (C.p 4 0)
def uX (g:Grf) (W:WW) (V:WW) (a:Int) (b:Int):Lp (Int×Bool):=⟨fun x=>{ N:=67,fr:=[se 18 (C.i .i64 x.1),zaS g,se 16 (C.h 0),se 6 (C.b x.2),zaV,se 1 (C.i .i64 a),se 2 (C.i .i64 b)],rg:=[rowOf 13 (·.tc) g.nodes,rowOf 1 (·.tc) (rchL g.nodes),zL g W,zL g V,zE g],wr:=[] },fun x=>0≤x.1∧x.1≤(g.nodes.length:Int)∧∀ k,k<x.1.toNat→clB g.nodes (rchL g.nodes) V a b k=false,fun x=>((g.nodes.length:Int)-x.1).toNat⟩
abbrev za9 (y0:Grf):Reg:=Bo.rowR (rchL y0.nodes)
theorem Qna (g:Grf) (hN:1≤g.nodes.length∧g.nodes.length≤4096) (W V:WW) (a b:Int) (ha:0≤a∧a<4160) (hb:0≤b∧b<4160):Ctr jb 134 [zV g,za9 g,zL g W,zL g V,zE g] [.c (.p 4 0),.c (.i .i64 a),.c (.i .i64 b)]
 (Det (.c (.b (clF g.nodes V a b))) [.dead,.dead,.dead,.dead,zE g]):=by
 refine Ctr.intro [] Tryz.func134 K K ?_
 refine Q0 (decide (a=b)) (fun h1=>?_) (fun h1=>?_)
 ·exact Q2 [] [3] [clF g.nodes V a b=false] W78
 ·refine tz [6,0,1,2] ?_
  refine Q7 (uX g W V a b) (((0:Int),false)) (⟨jE _,by omega,fun k hk=>absurd hk W149⟩) ?_
  rintro ⟨uf,un⟩ hJ2
  dsimp only [uX] at hJ2
  refine tz [18,17,16,6,0,1,2] ?_
  refine Q0 (decide (uf<(↑g.nodes.length:Int))) (fun h3=>?_) (fun h3=>?_)
  ·refine tz [18,17,16,6,0,1,2] ?_
   refine Q0b (!((rchL g.nodes).getD uf.toNat ub).b) (fun h4=>?_) (fun h4=>?_) (vc:=[(0:Int)≤uf,uf<(↑g.nodes.length:Int),uf.toNat<g.nodes.length,(0:Int)≤uf,uf<(↑(rchL g.nodes).length:Int),uf.toNat<(rchL g.nodes).length]) (hv:=W33)
   ·exact Q4 (uX g W V a b) (uf,un) ((uf+(1:Int),un)) W142 W111 (vc:=[Fits ja (uf+(1:Int))]) (hv:=W33)
   ·refine tz [32,31,7,8,18,17,16,6,0,1,2] ?_
    refine Q3 Gw (Q4d (g.nodes.getD uf.toNat ub)) [] ?_
    refine tz [33,31,7,8,18,17,16,6,0,1,2] ?_
    refine Q0 (!(decide ((g.nodes.getD uf.toNat ub).kind=(1:Int))||decide ((g.nodes.getD uf.toNat ub).kind=(2:Int))||decide ((g.nodes.getD uf.toNat ub).kind=(4:Int)))) (fun h5=>?_) (fun h5=>?_)
    ·exact Q4 (uX g W V a b) (uf,un) ((uf+(1:Int),un)) W142 W111 (vc:=[Fits ja (uf+(1:Int))]) (hv:=W33)
    ·refine tz [7,8,18,17,16,6,0,1,2] ?_
     refine Q0b (decide ((g.nodes.getD uf.toNat ub).slot=a)) (fun h6=>?_) (fun h6=>?_) (vc:=[decide ((g.nodes.getD uf.toNat ub).slot=a)=true→(0:Int)≤uf,decide ((g.nodes.getD uf.toNat ub).slot=a)=true→uf<(↑g.nodes.length:Int)]) (hv:=W33)
     ·refine tz [47,46,40,7,8,18,17,16,6,0,1,2] ?_
      refine Q3 Gx (Qc5 V g.nodes.length uf.toNat b W132 W132) [3] ?_
      refine tz [48,40,7,8,18,17,16,6,0,1,2] ?_
      refine Q0b (hasW (V uf.toNat) b) (fun h7=>?_) (fun h7=>?_) (vc:=[hasW (V uf.toNat) b=false→decide ((g.nodes.getD uf.toNat ub).slot=b)=true→(0:Int)≤uf,hasW (V uf.toNat) b=false→decide ((g.nodes.getD uf.toNat ub).slot=b)=true→uf<(↑g.nodes.length:Int)]) (hv:=W33)
      ·exact Q2 [] [3] [clF g.nodes V a b=true] W78
      ·refine tz [62,61,55,50,18,17,16,6,0,1,2] ?_
       refine Q0b (decide ((g.nodes.getD uf.toNat ub).slot=b)) (fun h8=>?_) (fun h8=>?_)
       ·refine tz [62,61,55,50,18,17,16,6,0,1,2] ?_
        refine Q3 Gx (Qc5 V g.nodes.length uf.toNat a W132 W132) [3] ?_
        refine tz [63,55,50,18,17,16,6,0,1,2] ?_
        refine Q0 (hasW (V uf.toNat) a) (fun h9=>?_) (fun h9=>?_)
        ·exact Q2 [] [3] [clF g.nodes V a b=true] W78
        ·exact Q4 (uX g W V a b) (uf,un) ((uf+(1:Int),un)) W142 W111 (vc:=[Fits ja (uf+(1:Int))]) (hv:=W33)
       ·exact Q4 (uX g W V a b) (uf,un) ((uf+(1:Int),un)) W142 W111 (vc:=[Fits ja (uf+(1:Int))]) (hv:=W33)
     ·refine tz [47,46,40,7,8,18,17,16,6,0,1,2] ?_
      refine Q0b (decide ((g.nodes.getD uf.toNat ub).slot=b)) (fun h7=>?_) (fun h7=>?_) (vc:=[decide ((g.nodes.getD uf.toNat ub).slot=b)=true→(0:Int)≤uf,decide ((g.nodes.getD uf.toNat ub).slot=b)=true→uf<(↑g.nodes.length:Int)]) (hv:=W33)
      ·refine tz [62,61,55,50,18,17,16,6,0,1,2] ?_
       refine Q3 Gx (Qc5 V g.nodes.length uf.toNat a W132 W132) [3] ?_
       refine tz [63,55,50,18,17,16,6,0,1,2] ?_
       refine Q0 (hasW (V uf.toNat) a) (fun h8=>?_) (fun h8=>?_)
       ·exact Q2 [] [3] [clF g.nodes V a b=true] W78
       ·exact Q4 (uX g W V a b) (uf,un) ((uf+(1:Int),un)) W142 W111 (vc:=[Fits ja (uf+(1:Int))]) (hv:=W33)
      ·exact Q4 (uX g W V a b) (uf,un) ((uf+(1:Int),un)) W142 W111 (vc:=[Fits ja (uf+(1:Int))]) (hv:=W33)
  ·exact Q2 [] [3] [clF g.nodes V a b=false] W78
def vT (g:Grf) (W:WW) (V:WW) (s:Int) (l:List Int):Lp (Int×Bool):=⟨fun x=>{ N:=20,fr:=[se 11 (C.i .i64 x.1),se 10 (C.i .i64 (↑l.length:Int)),se 9 (C.h 5),se 6 (C.b x.2),zaV,se 1 (C.i .i64 s)],rg:=[rowOf 13 (·.tc) g.nodes,rowOf 1 (·.tc) (rchL g.nodes),zL g W,zL g V,zE g,IntRow l],wr:=[] },fun x=>0≤x.1∧x.1≤(l.length:Int)∧∀ k,k<x.1.toNat→clF g.nodes V s (l.getD k 0)=false,fun x=>((l.length:Int)-x.1).toNat⟩
theorem Qhu (g:Grf) (hN:1≤g.nodes.length∧g.nodes.length≤4096) (W V:WW) (s:Int) (l:List Int) (hs:0≤s∧s<4160) (hl:∀ x∈l,0≤x∧x<4160) (hm:l.length≤4160):Ctr jb 99 [zV g,za9 g,zL g W,zL g V,zE g,IntRow l] [.c (.p 4 0),.c (.i .i64 s),.c (.h 5)]
 (Det (.c (.b (l.any fun k=>clF g.nodes V s k))) [.dead,.dead,.dead,.dead,zE g,.dead]):=by
 refine Ctr.intro [] Tryz.func99 K K ?_
 refine Q7 (vT g W V s l) (((0:Int),false)) (⟨jE _,by omega,fun k hk=>absurd hk W149⟩) ?_
 rintro ⟨ue,uj⟩ hJ1
 dsimp only [vT] at hJ1
 refine tz [11,10,9,6,0,1] ?_
 refine Q0 (decide (ue<(↑l.length:Int))) (fun h2=>?_) (fun h2=>?_)
 ·refine tz [11,10,9,6,0,1] ?_
  refine Q3 Q44 (Qna g W159 W V s (l.getD ue.toNat 0) W159 W159) [] ?_ (vc:=[(0:Int)≤ue,ue<(↑l.length:Int),ue.toNat<l.length]) (hv:=W121)
  refine tz [18,11,10,9,6,0,1] ?_
  refine Q0 (clF g.nodes V s (l.getD ue.toNat 0)) (fun h3=>?_) (fun h3=>?_)
  ·exact Q2 [] [3] [(l.any fun k=>clF g.nodes V s k)=true] W147
  ·exact Q4 (vT g W V s l) (ue,uj) ((ue+(1:Int),uj)) (by dsimp only [vT];have q:=uc h2;have z:=hJ1.1;omega) (by have q:=uc h2;have z:=hJ1.1;exact ⟨by omega,by omega,Qdr (P:=fun k=>clF g.nodes V s (l.getD k 0)) z hJ1.2.2 h3⟩) (vc:=[Fits ja (ue+(1:Int))]) (hv:=W121)
 ·exact Q2 [] [3] [(l.any fun k=>clF g.nodes V s k)=false] W147
abbrev zaB (y0:Grf):En:=se 30 (C.i .i64 (y0.nodes.length:Int))
def vp (g:Grf) (W:WW) (V:WW) (ue:List Int):Lp (Int×List Int):=⟨fun x=>St.mk 93 [se 31 (C.i .i64 x.1),zaB g,se 29 (C.h 0),se 4 (C.h 6),se 3 (C.h 5),zF,zaV] [zV g,za9 g,zL g W,zL g V,zE g,IntOwn x.2,IntOwn ue] [],fun x=>0≤x.1∧x.1≤(g.nodes.length:Int)∧WtI g.nodes g.slots x.1.toNat x.2,fun x=>((g.nodes.length:Int)-x.1).toNat⟩
abbrev zag (y0:List Int) (y1:Int):En:=En.mk 7 [] (SV.c (C.i .i64 (shlI ja (1:Int) ((3:Int) * if (4:Int)<y0.getD y1.toNat 0 then (4:Int) else y0.getD y1.toNat 0))))
abbrev zbb (y0:Grf) (y1:Int):En:=En.mk 61 [] (SV.c (C.i .i64 ((slL (y0.nodes.getD y1.toNat ub)).length:Int)))
def vq (g:Grf) (W:WW) (V:WW) (ue:List Int) (uf:Int):Lp (Int×List Int):=⟨fun x=>St.mk 93 [se 62 (C.i .i64 x.1),zbb g uf,se 60 (C.h 7),se 8 (C.h 7),zag ue uf,se 31 (C.i .i64 uf),zaB g,se 29 (C.h 0),se 4 (C.h 6),se 3 (C.h 5),zF,zaV] [zV g,za9 g,zL g W,zL g V,zE g,IntOwn x.2,IntOwn ue,IntRow (slL (g.nodes.getD uf.toNat ub))] [],fun x=>0≤x.1∧x.1≤((slL (g.nodes.getD uf.toNat ub)).length:Int)∧WtK g.nodes g.slots uf.toNat x.1.toNat x.2,fun x=>(((slL (g.nodes.getD uf.toNat ub)).length:Int)-x.1).toNat⟩
def vU (g:Grf) (W:WW) (V:WW) (ue:List Int) (uf:Int) (ul:Int) (ux:List Int):Lp (Int×Bool):=⟨fun x=>St.mk 93 [se 71 (C.i .i64 x.1),En.mk 70 [] (SV.c (C.i .i64 ((jW ul.toNat (slL (g.nodes.getD uf.toNat ub))).length:Int))),se 69 (C.h 8),se 11 (C.b x.2),En.mk 10 [] (SV.c (C.i .i64 ((slL (g.nodes.getD uf.toNat ub)).getD ul.toNat 0))),se 9 (C.i .i64 ul),se 62 (C.i .i64 ul),zbb g uf,se 60 (C.h 7),se 8 (C.h 7),zag ue uf,se 31 (C.i .i64 uf),zaB g,se 29 (C.h 0),se 4 (C.h 6),se 3 (C.h 5),zF,zaV] [zV g,za9 g,zL g W,zL g V,zE g,IntOwn ux,IntOwn ue,IntRow (slL (g.nodes.getD uf.toNat ub)),IntRow (jW ul.toNat (slL (g.nodes.getD uf.toNat ub)))] [],fun x=>0≤x.1∧x.1≤((jW ul.toNat (slL (g.nodes.getD uf.toNat ub))).length:Int)∧OnceF (jW ul.toNat (slL (g.nodes.getD uf.toNat ub))) ((slL (g.nodes.getD uf.toNat ub)).getD ul.toNat 0) x.1.toNat x.2,fun x=>(((jW ul.toNat (slL (g.nodes.getD uf.toNat ub))).length:Int)-x.1).toNat⟩
abbrev zbe (y0:Grf) (y1:Int):Nod:=y0.nodes.getD y1.toNat ub
def C98A (g:Grf) (W V:WW) (ue:List Int) (uf:Int) (un:List Int):St:=St.mk 93 [se 8 (C.h 7),zag ue uf,se 31 (C.i .i64 uf),zaB g,se 29 (C.h 0),se 4 (C.h 6),se 3 (C.h 5),zF,zaV] [zV g,za9 g,zL g W,zL g V,zE g,IntOwn un,IntOwn ue,IntOwn (slL (zbe g uf))] []
theorem Qhv (g:Grf) (hq:zC g) (hN:1≤g.nodes.length∧g.nodes.length≤4096) (hk:zI g) (W V:WW) (hm:0≤g.slots∧g.slots≤4160) (hT:SlT g.nodes g.slots):Ctr jb 98 [zV g,za9 g,zL g W,zL g V,zE g] [.c (.p 4 0)]
 (DetE (fun w:List Int=>WtQ g.nodes g.slots w) (fun _=>.c (.h 5)) (fun w=>[.dead,.dead,.dead,.dead,zE g,IntOwn w])):=by
 refine Ctr.intro [] Tryz.func98 K K ?_
 refine Qn Qcz (Qn9 g W136 W136 W136) [] ?_ (vc:=[(0:Int)≤g.slots,g.slots≤g.slots,g.slots * (8:Int)≤(140737488355328:Int),g.slots≤(↑maxLen:Int)]) (hv:=W17)
 rintro ue hY1
 try dsimp only at hY1
 refine tz [24,3,2,0] ?_
 refine Q7 (vp g W V ue) (((0:Int),jf g.slots.toNat (0:Int))) (⟨jE _,by omega,WtI.zero⟩) ?_ [] [11,12] [(jf g.slots.toNat (0:Int)).length=g.slots.toNat,∀ (i:Nat),i<(jf g.slots.toNat (0:Int)).length→i64T ((jf g.slots.toNat (0:Int)).getD i 0)=fun j=>valT (jg ja (0:Int)).cells.toList j] W43
 rintro ⟨uf,un⟩ hJ2
 dsimp only [vp] at hJ2
 refine tz [31,30,29,4,3,2,0] ?_
 refine Q0 (decide (uf<(↑g.nodes.length:Int))) (fun h3=>?_) (fun h3=>?_)
 ·refine tz [31,30,29,4,3,2,0] ?_
  refine Q0 (!((rchL g.nodes).getD uf.toNat ub).b) (fun h4=>?_) (fun h4=>?_) (vc:=[(0:Int)≤uf,uf<(↑g.nodes.length:Int),uf.toNat<g.nodes.length,(0:Int)≤uf,uf<(↑(rchL g.nodes).length:Int),uf.toNat<(rchL g.nodes).length]) (hv:=W17)
  ·exact Q4 (vp g W V ue) (uf,un) ((uf+(1:Int),un)) W189 W110 (vc:=[Fits ja (uf+(1:Int))]) (hv:=W17)
  ·refine RunF.cutn 4 (fun _:Unit=>C98A g W V ue uf un) (fun _=>True) ?_ ?_
   ·refine tz [5,6,31,30,29,4,3,2,0] ?_
    refine Q3 Q15 (Q8m (g.nodes.getD uf.toNat ub) W136) [] ?_ (vc:=[(0:Int)≤uf,uf<(↑ue.length:Int),uf.toNat<ue.length,Fits ja ((3:Int) * if (4:Int)<ue.getD uf.toNat 0 then (4:Int) else ue.getD uf.toNat 0),(0:Int)≤(3:Int) * if (4:Int)<ue.getD uf.toNat 0 then (4:Int) else ue.getD uf.toNat 0]) (hv:=W17)
    refine tz [52,7,6,31,30,29,4,3,2,0] ?_
    refine Q3 Gw (Q4d (g.nodes.getD uf.toNat ub)) [] ?_
    refine tz [54,8,7,6,31,30,29,4,3,2,0] ?_
    refine Q0 (decide ((g.nodes.getD uf.toNat ub).kind=(1:Int))||decide ((g.nodes.getD uf.toNat ub).kind=(2:Int))||decide ((g.nodes.getD uf.toNat ub).kind=(4:Int))) (fun h5=>?_) (fun h5=>?_)
    ·exact tTo (fun xUnit=>C98A g W V ue uf un) (fun xUnit=>True) () trivial [0,1,2,3,4,5,6,10] [15,16,17] [(slL (g.nodes.getD uf.toNat ub)).length=(useL (g.nodes.getD uf.toNat ub)).length+1,∀ (i:Nat),i<(slL (g.nodes.getD uf.toNat ub)).length→i≠(useL (g.nodes.getD uf.toNat ub)).length→i64T ((slL (g.nodes.getD uf.toNat ub)).getD i 0)=i64T ((useL (g.nodes.getD uf.toNat ub)).getD i 0),i64T ((slL (g.nodes.getD uf.toNat ub)).getD (useL (g.nodes.getD uf.toNat ub)).length (0:Int)) 0=TC.val (jg ja (g.nodes.getD uf.toNat ub).slot)] W43 (vc:=[(useL (g.nodes.getD uf.toNat ub)).length+1≤maxLen,((useL (g.nodes.getD uf.toNat ub)).length+1) * 8≤140737488355328]) (hv:=W17)
    ·exact tTo (fun xUnit=>C98A g W V ue uf un) (fun xUnit=>True) () trivial [0,1,2,3,4,5,6,8] [15,16] [(slL (g.nodes.getD uf.toNat ub)).length=(useL (g.nodes.getD uf.toNat ub)).length,∀ (i:Nat),i<(slL (g.nodes.getD uf.toNat ub)).length→i64T ((slL (g.nodes.getD uf.toNat ub)).getD i 0)=i64T ((useL (g.nodes.getD uf.toNat ub)).getD i 0)] W43
   ·rintro ⟨⟩ hCC98A
    refine tz [8,7,31,30,29,4,3,2,0] ?_
    refine Q7 (vq g W V ue uf) (((0:Int),un)) (⟨jE _,by omega,hJ2.2.2⟩) ?_
    rintro ⟨ul,ux⟩ hJ5
    dsimp only [vq] at hJ5
    refine tz [62,61,60,8,7,31,30,29,4,3,2,0] ?_
    refine Q0 (decide (ul<(↑(slL (g.nodes.getD uf.toNat ub)).length:Int))) (fun h6=>?_) (fun h6=>?_)
    ·refine tz [62,61,60,8,7,31,30,29,4,3,2,0] ?_
     refine Q7 (vU g W V ue uf ul ux) (((0:Int),true)) (⟨jE _,by omega,OnceF.zero⟩) ?_ [] [17,18,20] [(jW ul.toNat (slL (g.nodes.getD uf.toNat ub))).length=ul.toNat-0,∀ (i:Nat),i<(jW ul.toNat (slL (g.nodes.getD uf.toNat ub))).length→i64T ((jW ul.toNat (slL (g.nodes.getD uf.toNat ub))).getD i 0)=i64T ((slL (g.nodes.getD uf.toNat ub)).getD (0+i) 0),(↑(jW ul.toNat (slL (g.nodes.getD uf.toNat ub))).length:Int)=(↑(ul.toNat-0):Int)] W43 (vc:=[(0:Int)≤ul,ul<(↑(slL (g.nodes.getD uf.toNat ub)).length:Int),ul.toNat<(slL (g.nodes.getD uf.toNat ub)).length,(0:Int)≤(0:Int),(0:Int)≤ul,ul≤(↑(slL (g.nodes.getD uf.toNat ub)).length:Int)]) (hv:=W17)
     rintro ⟨uJ,uR⟩ hJ7
     dsimp only [vU] at hJ7
     refine tz [71,70,69,11,10,9,62,61,60,8,7,31,30,29,4,3,2,0] ?_
     refine Q0 (decide (uJ<(↑(jW ul.toNat (slL (g.nodes.getD uf.toNat ub))).length:Int))) (fun h8=>?_) (fun h8=>?_)
     ·exact Q4 (vU g W V ue uf ul ux) (uJ,uR) ((uJ+(1:Int),uR&&!decide ((slL (g.nodes.getD uf.toNat ub)).getD ul.toNat 0=(jW ul.toNat (slL (g.nodes.getD uf.toNat ub))).getD uJ.toNat 0))) (by dsimp only [vU];have q:=uc h8;have z:=hJ7.1;omega) (by have q:=uc h8;have z:=hJ7.1;have e:(uJ+1).toNat=uJ.toNat+1:=(by omega);refine ⟨by omega,by omega,?_⟩;dsimp only;rw [e];exact OnceF.next hJ7.2.2 (by omega)) (vc:=[(0:Int)≤uJ,uJ<(↑(jW ul.toNat (slL (g.nodes.getD uf.toNat ub))).length:Int),uJ.toNat<(jW ul.toNat (slL (g.nodes.getD uf.toNat ub))).length,Fits ja (uJ+(1:Int))]) (hv:=W17)
     ·refine tz [71,70,69,11,10,9,62,61,60,8,7,31,30,29,4,3,2,0] ?_
      refine Q0 (uR) (fun h9=>?_) (fun h9=>?_)
      ·exact Q4 (vq g W V ue uf) (ul,ux) ((ul+(1:Int),ux.set ((slL (g.nodes.getD uf.toNat ub)).getD ul.toNat 0).toNat (ux.getD ((slL (g.nodes.getD uf.toNat ub)).getD ul.toNat 0).toNat (0:Int)+shlI ja (1:Int) ((3:Int) * if (4:Int)<ue.getD uf.toNat 0 then (4:Int) else ue.getD uf.toNat 0)))) W190 W103 [] [11,12] [(ux.set ((slL (g.nodes.getD uf.toNat ub)).getD ul.toNat 0).toNat (ux.getD ((slL (g.nodes.getD uf.toNat ub)).getD ul.toNat 0).toNat (0:Int)+shlI ja (1:Int) ((3:Int) * if (4:Int)<ue.getD uf.toNat 0 then (4:Int) else ue.getD uf.toNat 0))).length=ux.length,∀ (i:Nat),i<(ux.set ((slL (g.nodes.getD uf.toNat ub)).getD ul.toNat 0).toNat (ux.getD ((slL (g.nodes.getD uf.toNat ub)).getD ul.toNat 0).toNat (0:Int)+shlI ja (1:Int) ((3:Int) * if (4:Int)<ue.getD uf.toNat 0 then (4:Int) else ue.getD uf.toNat 0))).length→i64T ((ux.set ((slL (g.nodes.getD uf.toNat ub)).getD ul.toNat 0).toNat (ux.getD ((slL (g.nodes.getD uf.toNat ub)).getD ul.toNat 0).toNat (0:Int)+shlI ja (1:Int) ((3:Int) * if (4:Int)<ue.getD uf.toNat 0 then (4:Int) else ue.getD uf.toNat 0))).getD i 0)=updT (fun i=>i64T (ux.getD i 0)) ((slL (g.nodes.getD uf.toNat ub)).getD ul.toNat 0).toNat 0 [jg ja (ux.getD ((slL (g.nodes.getD uf.toNat ub)).getD ul.toNat 0).toNat (0:Int)+shlI ja (1:Int) ((3:Int) * if (4:Int)<ue.getD uf.toNat 0 then (4:Int) else ue.getD uf.toNat 0))] i] W43 (vc:=[(0:Int)≤(slL (g.nodes.getD uf.toNat ub)).getD ul.toNat 0,(slL (g.nodes.getD uf.toNat ub)).getD ul.toNat 0<(↑ux.length:Int),((slL (g.nodes.getD uf.toNat ub)).getD ul.toNat 0).toNat<ux.length,Fits ja (ux.getD ((slL (g.nodes.getD uf.toNat ub)).getD ul.toNat 0).toNat (0:Int)+shlI ja (1:Int) ((3:Int) * if (4:Int)<ue.getD uf.toNat 0 then (4:Int) else ue.getD uf.toNat 0)),(0:Int)≤(slL (g.nodes.getD uf.toNat ub)).getD ul.toNat 0,(slL (g.nodes.getD uf.toNat ub)).getD ul.toNat 0<(↑ux.length:Int),((slL (g.nodes.getD uf.toNat ub)).getD ul.toNat 0).toNat<ux.length,Fits ja (ul+(1:Int))]) (hv:=W17)
      ·exact Q4 (vq g W V ue uf) (ul,ux) ((ul+(1:Int),ux)) W190 W103 (vc:=[Fits ja (ul+(1:Int))]) (hv:=W17)
    ·exact Q4 (vp g W V ue) (uf,un) ((uf+(1:Int),ux)) W189 W110 (vc:=[Fits ja (uf+(1:Int))]) (hv:=W17)
 ·exact Q2 (res:=_) (post:=_) (hS:=⟨un,(by have q:=ud h3;have e:uf.toNat=g.nodes.length:=(by have v:=hJ2;omega);have w:=hJ2.2.2;rw [e] at w;exact w.done hm.1),rfl,rfl⟩)
def vu (g:Grf) (a:Alc):Lp (Int×Bool):=⟨fun x=>{ N:=45,fr:=[se 27 (C.i .i64 x.1),se 26 (C.i .i64 (↑a.places.length:Int)),se 25 (C.h 1),se 4 (C.b x.2),za0],rg:=[rowOf 13 (·.tc) g.nodes,rowOf 2 (·.tc) a.places,ze g,Reg.box 72 [C.h 1,C.i .i64 a.cells]],wr:=[] },fun x=>0≤x.1∧x.1≤(a.places.length:Int)∧∀ k,k<x.1.toNat→fit1 a.cells (a.places.getD k ub)=true,fun x=>((a.places.length:Int)-x.1).toNat⟩
theorem Qp8 (g:Grf) (a:Alc) (hp:a.places.length≤9223372036854775807):Ctr jb 96 [zV g,Plc.rowR a.places] [.agg (g.cs 0),.agg (a.cs 1)]
 (Det (.c (.b (fitB g.slots a))) [.dead,.dead]):=by
 refine Ctr.intro [] Tryz.func96 K K ?_
 refine Q0 (!decide ((↑a.places.length:Int)=g.slots)||decide (a.cells<(0:Int))||decide ((4160:Int)<a.cells)) (fun h1=>?_) (fun h1=>?_)
 ·exact Q2 [] [0] [fitB g.slots a=false] W80
 ·refine tz [4,3] ?_
  refine Q7 (vu g a) (((0:Int),false)) (⟨jE _,by omega,fun k hk=>absurd hk W149⟩) ?_
  rintro ⟨uf,un⟩ hJ2
  dsimp only [vu] at hJ2
  refine tz [27,26,25,4,3] ?_
  refine Q0 (decide (uf<(↑a.places.length:Int))) (fun h3=>?_) (fun h3=>?_)
  ·refine tz [27,26,25,4,3] ?_
   refine Q0 ((a.places.getD uf.toNat ub).cell) (fun h4=>?_) (fun h4=>?_) (vc:=[(0:Int)≤uf,uf<(↑a.places.length:Int),uf.toNat<a.places.length]) (hv:=W113)
   ·refine tz [7,6,27,26,25,4,3] ?_
    refine Q0 (decide ((a.places.getD uf.toNat ub).n<(0:Int))||decide (a.cells≤(a.places.getD uf.toNat ub).n)) (fun h5=>?_) (fun h5=>?_)
    ·exact Q2 [] [0] [fitB g.slots a=false] W80
    ·exact Q4 (vu g a) (uf,un) ((uf+(1:Int),un)) W193 W153 (vc:=[Fits ja (uf+(1:Int))]) (hv:=W113)
   ·refine tz [7,6,27,26,25,4,3] ?_
    refine Q0 (decide ((a.places.getD uf.toNat ub).n<(0:Int))||decide ((13:Int)≤(a.places.getD uf.toNat ub).n)) (fun h5=>?_) (fun h5=>?_)
    ·exact Q2 [] [0] [fitB g.slots a=false] W80
    ·exact Q4 (vu g a) (uf,un) ((uf+(1:Int),un)) W193 W153 (vc:=[Fits ja (uf+(1:Int))]) (hv:=W113)
  ·exact Q2 [] [0] [fitB g.slots a=true] W80
def vV (sh:List Dcl) (lk:List Dcl) (gs:List Grf) (al:List Alc):Lp (Int×Int×Bool):=⟨fun x=>{ N:=100,fr:=[se 37 (C.i .i64 x.1),se 36 (C.i .i64 (↑gs.length:Int)),se 35 (C.h 2),se 5 (C.i .i64 x.2.1),se 4 (C.b x.2.2),se 2 (C.p 4 0),se 1 (C.h 3)],rg:=[rowOf 3 (·.tc) sh,rowOf 3 (·.tc) lk,rowOf 4 (·.tc) gs,rowOf 2 (·.tc) al,zH],wr:=[] },fun x=>0≤x.1∧x.1≤(gs.length:Int)∧∀ k,k<x.1.toNat→fitB (gs.getD k ub).slots (al.getD k ub)=true,fun x=>((gs.length:Int)-x.1).toNat⟩
def vW (sh:List Dcl) (lk:List Dcl) (gs:List Grf) (al:List Alc) (uq:Int) (ut:Bool):Lp (Int×Bool):=⟨fun x=>{ N:=100,fr:=[se 53 (C.i .i64 x.1),se 52 (C.i .i64 (↑gs.length:Int)),se 51 (C.h 2),se 11 (C.b x.2),se 5 (C.i .i64 uq),se 4 (C.b ut),se 1 (C.h 3)],rg:=[rowOf 3 (·.tc) sh,rowOf 3 (·.tc) lk,rowOf 4 (·.tc) gs,rowOf 2 (·.tc) al,zH],wr:=[] },fun x=>0≤x.1∧x.1≤(gs.length:Int)∧x.2=okF gs al x.1.toNat,fun x=>((gs.length:Int)-x.1).toNat⟩
abbrev zj (y0:List Grf) (y1:Int):Reg:=Reg.row 4 y0.length (fun i=>(y0.getD i ub).tc) (some (y1.toNat,[C.v (jG (y0.getD y1.toNat ub).name),C.i .i64 (y0.getD y1.toNat ub).locals,C.i .i64 (y0.getD y1.toNat ub).slots,C.h 5]))
def u7 (sh:List Dcl) (lk:List Dcl) (gs:List Grf) (al:List Alc) (uq:Int) (ut:Bool) (ul:Int) (ux:Bool) (uJ:WW) (uR:Nat→Nat→Int) (uD:List Int):Lp (Int×Bool):=⟨fun x=>{ N:=100,fr:=[se 69 (C.i .i64 x.1),se 68 (C.i .i64 (↑(al.getD ul.toNat ub).places.length:Int)),se 67 (C.h 6),se 16 (C.h 13),se 15 (C.h 12),se 14 (C.p 8 0),se 53 (C.i .i64 ul),se 52 (C.i .i64 (↑gs.length:Int)),se 51 (C.h 2),se 11 (C.b x.2),se 5 (C.i .i64 uq),se 4 (C.b ut),se 1 (C.h 3)],rg:=[rowOf 3 (·.tc) sh,rowOf 3 (·.tc) lk,zj gs ul,Reg.row 2 al.length (fun i=>(al.getD i ub).tc) (some (ul.toNat,[C.h 6,C.i .i64 (al.getD ul.toNat ub).cells])),zH,zr gs ul,Reg.row 2 (al.getD ul.toNat ub).places.length (fun i=>((al.getD ul.toNat ub).places.getD i ub).tc) none,Reg.box 60 [C.v (jG (gs.getD ul.toNat ub).name),C.i .i64 (gs.getD ul.toNat ub).locals,C.i .i64 (gs.getD ul.toNat ub).slots,C.h 5],Reg.box 189 [C.v (jG (gs.getD ul.toNat ub).name),C.i .i64 (gs.getD ul.toNat ub).locals,C.i .i64 (gs.getD ul.toNat ub).slots,C.h 5,C.h 9,C.h 10,C.h 11],ownOf 4 1 (·.tc) (rchL (gs.getD ul.toNat ub).nodes),Reg.own 192 65 (gs.getD ul.toNat ub).nodes.length (fun i=>wsT (uJ i)) none,Reg.own 192 65 (gs.getD ul.toNat ub).nodes.length (fun i=>wsT (uR i)) none,IntOwn uD,Reg.mpr (MT.mk jb 163 74 49 [CK.b,CK.i ja] true [] false) 3 1 (2 * x.1.toNat) (atM (gs.getD ul.toNat ub).nodes (al.getD ul.toNat ub).places x.1.toNat) none],wr:=[] },fun x=>0≤x.1∧x.1≤((al.getD ul.toNat ub).places.length:Int)∧x.2=(okF gs al ul.toNat&&okS (gs.getD ul.toNat ub).nodes (al.getD ul.toNat ub).places x.1.toNat),fun x=>(((al.getD ul.toNat ub).places.length:Int)-x.1).toNat⟩
abbrev zab (y0:List Alc):Prop:=∀ j:Nat,(y0.getD j ub).places.length≤9223372036854775807
theorem Qnb (sh lk:List Dcl) (gs:List Grf) (al:List Alc) (hs:zx sh) (hl:zx lk) (hg:zM gs) (hw:UnitW gs) (hp:zab al):Ctr jb 60 [Dcl.rowR sh,Dcl.rowR lk,Grf.rowR gs,Alc.rowR al] [.agg [.h 0,.h 1,.h 2],.c (.h 3)]
 (Det (.tup [(false,[.b (rgtU sh lk gs al).1]),(false,[.i .i64 (rgtU sh lk gs al).2])]) [.dead,.dead,.dead,.dead]):=by
 refine Ctr.intro [] Tryz.func60 K K ?_
 refine Q3 J7 (Q2w sh lk gs W5 W5 W5 W5) [] ?_
 refine tz [21,5,4,2,1] ?_
 refine Q0 (!decide ((chkU sh lk gs).fst=(0:Int))) (fun h1=>?_) (fun h1=>?_)
 ·exact Q2 [] [0,1] [(rgtU sh lk gs al).fst=false,(rgtU sh lk gs al).snd=(chkU sh lk gs).fst] W88
 ·refine tz [5,4,2,1] ?_
  refine Q0 (!decide ((↑al.length:Int)=(↑gs.length:Int))) (fun h2=>?_) (fun h2=>?_)
  ·exact Q2 [] [0,1] [(rgtU sh lk gs al).fst=false,(rgtU sh lk gs al).snd=(150:Int)] W88
  ·have hL:al.length=gs.length:=by (simp only [Bool.not_eq_false',decide_eq_true_eq] at h2;omega)
   have hN8:gs.length≤8:=(Yj W134).1.2.2
   refine tz [5,4,2,1] ?_
   refine Q7 (vV sh lk gs al) (((0:Int),(0:Int),false)) (⟨jE _,by omega,fun k hk=>absurd hk W149⟩) ?_
   rintro ⟨ui,uq,ut⟩ hJ3
   dsimp only [vV] at hJ3
   refine tz [37,36,35,5,4,2,1] ?_
   refine Q0 (decide (ui<(↑gs.length:Int))) (fun h4=>?_) (fun h4=>?_)
   ·refine Y4 2 (ui.toNat) ?_ (vc:=[ui.toNat<gs.length]) (hv:=W10)
    refine Y4 3 (ui.toNat) ?_ (vc:=[ui.toNat<al.length]) (hv:=W10)
    refine tz [37,36,35,5,4,2,1] ?_
    refine Q3 Qcy (Qp8 (gs.getD ui.toNat ub) (al.getD ui.toNat ub) W5) [5,6] ?_ (vc:=[(0:Int)≤ui,ui<(↑gs.length:Int),ui.toNat=ui.toNat,(0:Int)≤ui,ui<(↑al.length:Int),ui.toNat=ui.toNat]) (hv:=W10)
    refine tz [47,46,45,44,43,42,9,10,37,36,35,5,4,2,1] ?_
    refine Q0 (!fitB (gs.getD ui.toNat ub).slots (al.getD ui.toNat ub)) (fun h5=>?_) (fun h5=>?_)
    ·exact Q2 [] [0,1] [(rgtU sh lk gs al).fst=false,(rgtU sh lk gs al).snd=(150:Int)] W88
    ·exact Q4 (vV sh lk gs al) (ui,uq,ut) ((ui+(1:Int),uq,ut)) (by dsimp only [vV];have q:=uc h4;have z:=hJ3.1;omega) W168 (vc:=[Fits ja (ui+(1:Int))]) (hv:=W10)
   ·have hF:∀ k,k<gs.length→fitB (gs.getD k ub).slots (al.getD k ub)=true:=fun k hk=>hJ3.2.2 k (by have q:=ud h4;omega)
    refine tz [37,36,35,5,4,2,1] ?_
    refine Q7 (vW sh lk gs al uq ut) (((0:Int),true)) (⟨jE _,by omega,rfl⟩) ?_
    rintro ⟨ul,ux⟩ hJ5
    dsimp only [vW] at hJ5
    refine tz [53,52,51,11,5,4,1] ?_
    refine Q0 (decide (ul<(↑gs.length:Int))) (fun h6=>?_) (fun h6=>?_)
    ·refine Y4 2 (ul.toNat) ?_ (vc:=[ul.toNat<gs.length]) (hv:=W10)
     refine Y4 3 (ul.toNat) ?_ (vc:=[ul.toNat<al.length]) (hv:=W10)
     refine tz [53,52,51,11,5,4,1] ?_
     refine Qn Qbb (Qn7 (gs.getD ul.toNat ub) W5 W5 W5 W5) [5] ?_ (vc:=[(0:Int)≤ul,ul<(↑gs.length:Int),ul.toNat=ul.toNat]) (hv:=W10)
     rintro ⟨uJ,uR⟩ hY7
     try dsimp only at hY7
     refine tz [59,12,53,52,51,11,5,4,1] ?_
     refine Qn Q2g (Qhv (gs.getD ul.toNat ub) W5 W5 W5 uJ uR W5 W5) [5,9,10,11,8] ?_
     rintro uD hY8
     try dsimp only at hY8
     refine tz [61,14,12,53,52,51,11,5,4,1] ?_
     refine Q7 (u7 sh lk gs al uq ut ul ux uJ uR uD) (((0:Int),ux)) (⟨jE _,by omega,by show ux=_;rw [hJ5.2.2];exact (Bool.and_true _).symm⟩) ?_ [] [32] [MrEq (MT.mk jb 163 74 49 [CK.b,CK.i ja] true [] false) 3 1 0 (atM (gs.getD ul.toNat ub).nodes (al.getD ul.toNat ub).places 0) (MT.mk jb 163 74 49 [CK.b,CK.i ja] true [] false) 3 1 0 fun x=>(0,fun x x_1=>TC.any)] W20 (vc:=[(MT.mk jb 163 74 49 [CK.b,CK.i ja] true [] false).P=jb,(MT.mk jb 163 74 49 [CK.b,CK.i ja] true [] false).OkV (ji none 0 0),(0:Int)≤ul,ul<(↑al.length:Int),ul.toNat=ul.toNat]) (hv:=W10)
     rintro ⟨um,uW⟩ hJ9
     dsimp only [u7] at hJ9
     refine tz [69,68,67,16,15,14,53,52,51,11,5,4,1] ?_
     refine Q0 (decide (um<(↑(al.getD ul.toNat ub).places.length:Int))) (fun h10=>?_) (fun h10=>?_)
     ·refine tz [69,68,67,16,15,14,53,52,51,11,5,4,1] ?_
      refine Q0 (decide (uD.getD um.toNat 0=(0:Int))) (fun h11=>?_) (fun h11=>?_) (vc:=[(0:Int)≤um,um<(↑(al.getD ul.toNat ub).places.length:Int),um.toNat<(al.getD ul.toNat ub).places.length,(0:Int)≤um,um<(↑uD.length:Int),um.toNat<uD.length]) (hv:=W10)
      ·exact Q4 (u7 sh lk gs al uq ut ul ux uJ uR uD) (um,uW) ((um+(1:Int),uW)) W169 W24 [] [32] [MrEq (MT.mk jb 163 74 49 [CK.b,CK.i ja] true [] false) 3 1 (2 * (um+(1:Int)).toNat) (atM (gs.getD ul.toNat ub).nodes (al.getD ul.toNat ub).places (um+(1:Int)).toNat) (MT.mk jb 163 74 49 [CK.b,CK.i ja] true [] false) 3 1 (2 * um.toNat) (atM (gs.getD ul.toNat ub).nodes (al.getD ul.toNat ub).places um.toNat)] W20 (vc:=[Fits ja (um+(1:Int))]) (hv:=W10)
      ·refine RunF.mopen 13 (T:=MT.mk jb 163 74 49 [CK.b,CK.i ja] true [] false) (ty:=3) (sz:=1) (n:=2 * um.toNat) (f:=atM (gs.getD ul.toNat ub).nodes (al.getD ul.toNat ub).places um.toNat) ((((al.getD ul.toNat ub).places.getD um.toNat ub).cell,((al.getD ul.toNat ub).places.getD um.toNat ub).n)) K K ?_
       refine tz [17,18,69,68,67,16,15,14,53,52,51,11,5,4,1] ?_
       refine Q0b (uW) (fun h12=>?_) (fun h12=>?_) (vc:=[uW=true→Fits ja ((al.getD ul.toNat ub).places.getD um.toNat ub).n,uW=true→(MT.mk jb 163 74 49 [CK.b,CK.i ja] true [] false).P=jb,uW=true→(((al.getD ul.toNat ub).places.getD um.toNat ub).cell,((al.getD ul.toNat ub).places.getD um.toNat ub).n)=(((al.getD ul.toNat ub).places.getD um.toNat ub).cell,((al.getD ul.toNat ub).places.getD um.toNat ub).n)]) (hv:=W10)
       ·refine tz [85,82,81,80,17,18,69,68,67,16,15,14,53,52,51,11,5,4,1] ?_
        refine Q3 Q2h (Qhu (gs.getD ul.toNat ub) W5 uJ uR um (atL (gs.getD ul.toNat ub).nodes (al.getD ul.toNat ub).places um.toNat (((al.getD ul.toNat ub).places.getD um.toNat ub).cell,((al.getD ul.toNat ub).places.getD um.toNat ub).n)) W5 W5 W5) [5,9,10,11,8,15] ?_ [11,12] [(atL (gs.getD ul.toNat ub).nodes (al.getD ul.toNat ub).places um.toNat (((al.getD ul.toNat ub).places.getD um.toNat ub).cell,((al.getD ul.toNat ub).places.getD um.toNat ub).n)).length=(atM (gs.getD ul.toNat ub).nodes (al.getD ul.toNat ub).places um.toNat (((al.getD ul.toNat ub).places.getD um.toNat ub).cell,((al.getD ul.toNat ub).places.getD um.toNat ub).n)).fst,∀ (i:Nat),i<(atL (gs.getD ul.toNat ub).nodes (al.getD ul.toNat ub).places um.toNat (((al.getD ul.toNat ub).places.getD um.toNat ub).cell,((al.getD ul.toNat ub).places.getD um.toNat ub).n)).length→i64T ((atL (gs.getD ul.toNat ub).nodes (al.getD ul.toNat ub).places um.toNat (((al.getD ul.toNat ub).places.getD um.toNat ub).cell,((al.getD ul.toNat ub).places.getD um.toNat ub).n)).getD i 0)=(atM (gs.getD ul.toNat ub).nodes (al.getD ul.toNat ub).places um.toNat (((al.getD ul.toNat ub).places.getD um.toNat ub).cell,((al.getD ul.toNat ub).places.getD um.toNat ub).n)).snd i] W20
        refine tz [86,80,17,18,69,68,67,16,15,14,53,52,51,11,5,4,1] ?_
        refine RunF.ment (vc:=[]) (vc2:=[Fits ja ((al.getD ul.toNat ub).places.getD um.toNat ub).n,(MT.mk jb 163 74 49 [CK.b,CK.i ja] true [] false).P=jb,2 * um.toNat<maxLen,(((al.getD ul.toNat ub).places.getD um.toNat ub).cell,((al.getD ul.toNat ub).places.getD um.toNat ub).n)=(((al.getD ul.toNat ub).places.getD um.toNat ub).cell,((al.getD ul.toNat ub).places.getD um.toNat ub).n)]) 13 K trivial K W10 (fun _=>by kernel_rfl) (fun st13=>?_)
        refine RunF.hereJ (vc:=[(atM (gs.getD ul.toNat ub).nodes (al.getD ul.toNat ub).places um.toNat (((al.getD ul.toNat ub).places.getD um.toNat ub).cell,((al.getD ul.toNat ub).places.getD um.toNat ub).n)).fst+1≤maxLen,((atM (gs.getD ul.toNat ub).nodes (al.getD ul.toNat ub).places um.toNat (((al.getD ul.toNat ub).places.getD um.toNat ub).cell,((al.getD ul.toNat ub).places.getD um.toNat ub).n)).fst+1) * 8≤140737488355328,Fits ja ((al.getD ul.toNat ub).places.getD um.toNat ub).n,(MT.mk jb 163 74 49 [CK.b,CK.i ja] true [] false).P=jb,2 * um.toNat+1<maxLen,st13=st13,Fits ja (um+(1:Int))]) K K W10 ?_
        refine Q2f 17 ((i64T um)) ?_ (vc:=[um=um]) (hv:=(by simp only [Conj]))
        refine RunF.mclose 13 17 (T:=MT.mk jb 163 74 49 [CK.b,CK.i ja] true [] false) (ty:=3) (sz:=1) (n:=2 * um.toNat+1+1) (m:=(atM (gs.getD ul.toNat ub).nodes (al.getD ul.toNat ub).places um.toNat (((al.getD ul.toNat ub).places.getD um.toNat ub).cell,((al.getD ul.toNat ub).places.getD um.toNat ub).n)).fst+1) (f:=atM (gs.getD ul.toNat ub).nodes (al.getD ul.toNat ub).places um.toNat) (x:=(((al.getD ul.toNat ub).places.getD um.toNat ub).cell,((al.getD ul.toNat ub).places.getD um.toNat ub).n)) (g:=fun i=>if i=(atM (gs.getD ul.toNat ub).nodes (al.getD ul.toNat ub).places um.toNat (((al.getD ul.toNat ub).places.getD um.toNat ub).cell,((al.getD ul.toNat ub).places.getD um.toNat ub).n)).fst then i64T um else (atM (gs.getD ul.toNat ub).nodes (al.getD ul.toNat ub).places um.toNat (((al.getD ul.toNat ub).places.getD um.toNat ub).cell,((al.getD ul.toNat ub).places.getD um.toNat ub).n)).snd i) K K K ?_
        exact Q4 (u7 sh lk gs al uq ut ul ux uJ uR uD) (um,uW) ((um+(1:Int),!(atL (gs.getD ul.toNat ub).nodes (al.getD ul.toNat ub).places um.toNat (((al.getD ul.toNat ub).places.getD um.toNat ub).cell,((al.getD ul.toNat ub).places.getD um.toNat ub).n)).any fun k=>clF (gs.getD ul.toNat ub).nodes uR um k)) W169 W24 [] [32,37] [MrEq (MT.mk jb 163 74 49 [CK.b,CK.i ja] true [] false) 3 1 (2 * (um+(1:Int)).toNat) (atM (gs.getD ul.toNat ub).nodes (al.getD ul.toNat ub).places (um+(1:Int)).toNat) (MT.mk jb 163 74 49 [CK.b,CK.i ja] true [] false) 3 1 (2 * um.toNat+1+1) fun (p:Bool×Int)=>if p=(((al.getD ul.toNat ub).places.getD um.toNat ub).cell,((al.getD ul.toNat ub).places.getD um.toNat ub).n) then ((atM (gs.getD ul.toNat ub).nodes (al.getD ul.toNat ub).places um.toNat (((al.getD ul.toNat ub).places.getD um.toNat ub).cell,((al.getD ul.toNat ub).places.getD um.toNat ub).n)).fst+1,fun i=>if i=(atM (gs.getD ul.toNat ub).nodes (al.getD ul.toNat ub).places um.toNat (((al.getD ul.toNat ub).places.getD um.toNat ub).cell,((al.getD ul.toNat ub).places.getD um.toNat ub).n)).fst then i64T um else (atM (gs.getD ul.toNat ub).nodes (al.getD ul.toNat ub).places um.toNat (((al.getD ul.toNat ub).places.getD um.toNat ub).cell,((al.getD ul.toNat ub).places.getD um.toNat ub).n)).snd i) else atM (gs.getD ul.toNat ub).nodes (al.getD ul.toNat ub).places um.toNat p,(!(atL (gs.getD ul.toNat ub).nodes (al.getD ul.toNat ub).places um.toNat (((al.getD ul.toNat ub).places.getD um.toNat ub).cell,((al.getD ul.toNat ub).places.getD um.toNat ub).n)).any fun k=>clF (gs.getD ul.toNat ub).nodes uR um k)=!(atL (gs.getD ul.toNat ub).nodes (al.getD ul.toNat ub).places um.toNat (((al.getD ul.toNat ub).places.getD um.toNat ub).cell,((al.getD ul.toNat ub).places.getD um.toNat ub).n)).any fun k=>clF (gs.getD ul.toNat ub).nodes uR um k] W20
       ·refine tz [85,82,81,80,17,18,69,68,67,16,15,14,53,52,51,11,5,4,1] ?_
        refine RunF.ment (vc:=[]) (vc2:=[Fits ja ((al.getD ul.toNat ub).places.getD um.toNat ub).n,(MT.mk jb 163 74 49 [CK.b,CK.i ja] true [] false).P=jb,2 * um.toNat<maxLen,(((al.getD ul.toNat ub).places.getD um.toNat ub).cell,((al.getD ul.toNat ub).places.getD um.toNat ub).n)=(((al.getD ul.toNat ub).places.getD um.toNat ub).cell,((al.getD ul.toNat ub).places.getD um.toNat ub).n)]) 13 K trivial K W10 (fun _=>by kernel_rfl) (fun st13=>?_)
        refine RunF.hereJ (vc:=[(atM (gs.getD ul.toNat ub).nodes (al.getD ul.toNat ub).places um.toNat (((al.getD ul.toNat ub).places.getD um.toNat ub).cell,((al.getD ul.toNat ub).places.getD um.toNat ub).n)).fst+1≤maxLen,((atM (gs.getD ul.toNat ub).nodes (al.getD ul.toNat ub).places um.toNat (((al.getD ul.toNat ub).places.getD um.toNat ub).cell,((al.getD ul.toNat ub).places.getD um.toNat ub).n)).fst+1) * 8≤140737488355328,Fits ja ((al.getD ul.toNat ub).places.getD um.toNat ub).n,(MT.mk jb 163 74 49 [CK.b,CK.i ja] true [] false).P=jb,2 * um.toNat+1<maxLen,st13=st13,Fits ja (um+(1:Int))]) K K W10 ?_
        refine Q2f 17 ((i64T um)) ?_ (vc:=[um=um]) (hv:=(by simp only [Conj]))
        refine RunF.mclose 13 17 (T:=MT.mk jb 163 74 49 [CK.b,CK.i ja] true [] false) (ty:=3) (sz:=1) (n:=2 * um.toNat+1+1) (m:=(atM (gs.getD ul.toNat ub).nodes (al.getD ul.toNat ub).places um.toNat (((al.getD ul.toNat ub).places.getD um.toNat ub).cell,((al.getD ul.toNat ub).places.getD um.toNat ub).n)).fst+1) (f:=atM (gs.getD ul.toNat ub).nodes (al.getD ul.toNat ub).places um.toNat) (x:=(((al.getD ul.toNat ub).places.getD um.toNat ub).cell,((al.getD ul.toNat ub).places.getD um.toNat ub).n)) (g:=fun i=>if i=(atM (gs.getD ul.toNat ub).nodes (al.getD ul.toNat ub).places um.toNat (((al.getD ul.toNat ub).places.getD um.toNat ub).cell,((al.getD ul.toNat ub).places.getD um.toNat ub).n)).fst then i64T um else (atM (gs.getD ul.toNat ub).nodes (al.getD ul.toNat ub).places um.toNat (((al.getD ul.toNat ub).places.getD um.toNat ub).cell,((al.getD ul.toNat ub).places.getD um.toNat ub).n)).snd i) K K K ?_
        exact Q4 (u7 sh lk gs al uq ut ul ux uJ uR uD) (um,uW) ((um+(1:Int),false)) W169 W24 [] [32] [MrEq (MT.mk jb 163 74 49 [CK.b,CK.i ja] true [] false) 3 1 (2 * (um+(1:Int)).toNat) (atM (gs.getD ul.toNat ub).nodes (al.getD ul.toNat ub).places (um+(1:Int)).toNat) (MT.mk jb 163 74 49 [CK.b,CK.i ja] true [] false) 3 1 (2 * um.toNat+1+1) fun (p:Bool×Int)=>if p=(((al.getD ul.toNat ub).places.getD um.toNat ub).cell,((al.getD ul.toNat ub).places.getD um.toNat ub).n) then ((atM (gs.getD ul.toNat ub).nodes (al.getD ul.toNat ub).places um.toNat (((al.getD ul.toNat ub).places.getD um.toNat ub).cell,((al.getD ul.toNat ub).places.getD um.toNat ub).n)).fst+1,fun i=>if i=(atM (gs.getD ul.toNat ub).nodes (al.getD ul.toNat ub).places um.toNat (((al.getD ul.toNat ub).places.getD um.toNat ub).cell,((al.getD ul.toNat ub).places.getD um.toNat ub).n)).fst then i64T um else (atM (gs.getD ul.toNat ub).nodes (al.getD ul.toNat ub).places um.toNat (((al.getD ul.toNat ub).places.getD um.toNat ub).cell,((al.getD ul.toNat ub).places.getD um.toNat ub).n)).snd i) else atM (gs.getD ul.toNat ub).nodes (al.getD ul.toNat ub).places um.toNat p] W20
     ·exact Q4 (vW sh lk gs al uq ut) (ul,ux) ((ul+(1:Int),uW)) (by dsimp only [vW];have q:=uc h6;have z:=hJ5.1;omega) (by have q:=uc h6;have z:=hJ5.1;have w:=hJ9.1;have w2:=ud h10;refine ⟨by omega,by omega,?_⟩;show uW=_;rw [show (ul+1).toNat=ul.toNat+1 by omega,Qjm,hJ9.2.2,show um.toNat=(al.getD ul.toNat ub).places.length by (have w3:=hJ9.2.1;omega)]) (vc:=[Fits ja (ul+(1:Int))]) (hv:=W10)
    ·exact Q2 [] [0,1] [(rgtU sh lk gs al).fst=ux,(rgtU sh lk gs al).snd=(0:Int)] W88
end Go.Proofs.YtnddggenhefaeaaGreatDoor
end
namespace Go.Tx
open Go Go.RowKit
def tabrowSt (st:St) (r n:Nat) (f:Nat→Nat→TC):St:={ st with rg:=st.rg.set r (.row 1 n f none) }
section
variable {P:Program} [hw:Wide P] {fn:Func} {n0:Nat} {U:Tgt} {c:Cfg}
theorem RunF.tabrow (r t:Nat) {n:Nat} {g f:Nat→Nat→TC} {X:Ext} (hr:nth c.st.rg r=some (.row 1 n g none)) (ht:nth c.st.rg t=some (.froz X)) (hsc:c.st.scp=true)
 (h:∀ i,i<n→∃ y ty m h,g i 0=.val y∧f i 0=.sub ty 1 m h∧X.Tab y 1 m h) (next:RunF P fn n0 U ⟨c.k,tabrowSt c.st r n f⟩):RunF P fn n0 U c:=by
 unfold RunF at next ⊢
 intro b hb a w ⟨ε,hs⟩
 have hrr:=Q6 hr
 have htt:=Q6 ht
 have hfz:∀ b,X.ro b→ε.fp t b∧b<w.heap.size∧w.heap[b]?=X.w0.heap[b]?:=Qe hs ht
 have hlen:=hs.regs.len
 have hrl:r<c.st.rg.length:=(List.getElem?_eq_some_iff.1 hrr).1
 have hrow:RdRow w (ε.fp r) (ε.at_ r) 1 n (okR ε w (ε.fp r) g none):=(hs.regs.reg r _ hrr).1
 generalize hx0:(⟨ε.at_ r,fun k=>ε.fp r k∨ε.fp t k⟩:Ent)=x0
 have e1:∀ i,i≠r→Env.ent (ε.set r x0) i=ε.ent i:=fun i hne=>by
  unfold Env.ent
  rw [jc,jc,jF (Ne.symm hne)]
 have e2:Env.ent (ε.set r x0) r=x0:=Zo W182
 have hat:∀ i,i<c.st.rg.length→Env.at_ (ε.set r x0) i=ε.at_ i:=fun i _=>by
  by_cases hir:i=r
  ·subst hir;unfold Env.at_;rw [e2,← hx0];rfl
  ·unfold Env.at_;rw [e1 i hir]
 have hscr:c.st.rg.all (Reg.scp c.st.rg.length)=true:=(Qh hsc).2
 have cls:∀ (i:Nat) (s:Reg),(c.st.rg.set r (.row 1 n f none))[i]?=some s→(i=r∧s=.row 1 n f none)∨(i≠r∧c.st.rg[i]?=some s):=fun i s hi=>by
  by_cases hir:i=r
  ·subst hir;rw [jI hrl] at hi;cases hi;exact .inl ⟨rfl,rfl⟩
  ·rw [jF (Ne.symm hir)] at hi;exact .inr ⟨hir,hi⟩
 refine next b hb a w ⟨ε.set r x0,Q09 hs hsc ⟨by simpa using hlen,fun i s hi=>?_,fun i s hi hl k hk=>?_,fun i s hi he k hk=>?_,fun i j ri rj hij hi hj he hl k hk1 hk2=>?_⟩ hat (by simp [hlen])⟩
 ·rcases cls i s hi with ⟨rfl,rfl⟩ | ⟨hne,hi⟩
  ·rw [e2,← hx0]
   refine ⟨?_,trivial⟩
   obtain ⟨A,cp,h0,h1,h2,h3,h4⟩:=hrow
   refine ⟨A,cp,h0,h1,h2,fun ad ha hp=>⟨(h3 ad ha hp).1,.inl (h3 ad ha hp).2⟩,fun hp=>?_⟩
   obtain ⟨ad,ha,h5⟩:=h4 hp
   refine ⟨ad,ha,fun i' j' hi' hj'=>?_⟩
   obtain ⟨u,k1,k2⟩:=h5 i' j' hi' hj'
   obtain rfl:j'=0:=by omega
   obtain ⟨y,ty,m,hh,g1,g2,g3⟩:=h i' hi'
   refine ⟨u,k1,?_⟩
   have k2:RdC w (ε.fp i) (g i' 0) u:=k2
   rw [g1] at k2
   have k2:u=y:=k2
   subst k2
   show RdC w _ (f i' 0) u
   rw [g2]
   exact Ext.Tab.keep (fun b hb=>⟨.inr (hfz b hb).1,(hfz b hb).2⟩) g3
  ·rw [e1 i hne]
   exact (hs.regs.reg i s hi).same (List.all_eq_true.1 hscr s (ju hi)) hat
 ·rcases cls i s hi with ⟨rfl,rfl⟩ | ⟨hne,hi⟩
  ·unfold Env.fp at hk;rw [e2,← hx0] at hk
   rcases hk with hk | hk
   ·exact hs.regs.lt i _ hrr rfl k hk
   ·exact hs.regs.lt t _ htt rfl k hk
  ·unfold Env.fp at hk;rw [e1 i hne] at hk
   exact hs.regs.lt i s hi hl k hk
 ·rcases cls i s hi with ⟨rfl,rfl⟩ | ⟨hne,hi⟩
  ·cases he
  ·unfold Env.fp at hk;rw [e1 i hne] at hk
   exact hs.regs.lim i s hi he k hk
 ·rcases cls i ri hi with ⟨rfl,rfl⟩ | ⟨hne,hi'⟩
  ·cases he
  ·unfold Env.fp at hk1;rw [e1 i hne] at hk1
   rcases cls j rj hj with ⟨hjr,rfl⟩ | ⟨hne2,hj⟩
   ·subst hjr
    clear cls
    unfold Env.fp at hk2;rw [e2,← hx0] at hk2
    rcases hk2 with hk2 | hk2
    ·exact hs.regs.sep i j ri _ hij hi' hrr he rfl k hk1 hk2
    ·by_cases hit:i=t
     ·subst hit;rw [htt] at hi';cases hi';cases he
     ·exact hs.regs.sep i t ri _ hit hi' htt he rfl k hk1 hk2
   ·unfold Env.fp at hk2;rw [e1 j hne2] at hk2
    exact hs.regs.sep i j ri rj hij hi' hj he hl k hk1 hk2
end
end Go.Tx
noncomputable section
namespace Go.Proofs.YtnddggenhefaeaaGreatDoor
open Go Go.Tx Go.RowKit
def TabX (X:Ext):Prop:=X.ro 0∧∀ i:Nat,i<32→∃ k:Int,0≤k∧k≤255∧X.w0.cell? ⟨0,i,none⟩=some (.int .u8 k)
theorem Qnc (x:Int) (hx:0≤x∧x<4294967296) (w:World) (hT:∀ i:Nat,i<32→∃ k:Int,0≤k∧k≤255∧w.cell? ⟨0,i,none⟩=some (.int .u8 k)) :
 Calls jb 169 #[.int .u32 x] w fun e w'=>∃ k:Int,0≤k∧k≤255∧e=.returned (.int .i64 k)∧w'=w:=by
 obtain ⟨idx,key,hi⟩:∃ idx:Nat,bits jx jq x (-x % 4294967296) * 125613361 % 4294967296 / 134217728=(idx:Int)∧idx<32:=
  ⟨(bits jx jq x (-x % 4294967296) * 125613361 % 4294967296 / 134217728).toNat,by omega,by omega⟩
 obtain ⟨k,hk0,hk1,hcell⟩:=hT idx hi
 by_cases hx0:x=0
 ·subst hx0
  go_enter Tryz.func169,Tryz.ntmps169
  go_wp2
  go_ret
  exact ⟨32,by decide,by decide,rfl,rfl⟩
 ·have hx1:(x==0)=false:=by simpa using hx0
  go_enter Tryz.func169,Tryz.ntmps169
  go_wp2_with (simp only [key])
  go_ret
  exact ⟨k,hk0,hk1,rfl,rfl⟩
theorem Qp9 {X:Ext} (hX:TabX X) (x:Int) (hx:0≤x∧x<4294967296):Ctr jb 169 [.froz X] [.c (.i .u32 x)] (DetE (fun k:Int=>0≤k∧k≤255) (fun k=>zbK k) (fun _=>[.dead])):=by
 intro ε w hreg
 have hfz:∀ b,X.ro b→(ε.ent 0).fp b∧b<w.heap.size∧w.heap[b]?=X.w0.heap[b]?:=hreg.reg 0 _ rfl
 have h0:=hfz 0 hX.1
 have hT:∀ i:Nat,i<32→∃ k:Int,0≤k∧k≤255∧w.cell? ⟨0,i,none⟩=some (.int .u8 k):=fun i hi=>by
  obtain ⟨k,a,b,c⟩:=hX.2 i hi
  exact ⟨k,a,b,by rw [World.cell?_of_block (w:=X.w0)];exact c;exact h0.2.2⟩
 refine (Qnc x hx w hT).mono fun e w' ⟨k,k0,k1,he,hw⟩=>?_
 subst he;subst hw
 refine ⟨zbK k,[.dead],ε,⟨k,⟨k0,k1⟩,rfl,rfl⟩,rfl,List.prefix_refl _,⟨hreg.len,fun i r hi=>?_,fun i r hi hl=>?_,fun i r hi he=>?_,fun i j ri rj hij hi hj he=>?_⟩,Fr.refl _ _⟩
 all_goals rcases i with _ | i
 all_goals first | (cases hi;first | trivial | cases hl | cases he) | (simp at hi;done)
theorem Qd7:MT.Ok (MT.mk jb 141 3 4 [CK.i ja] false [CK.b] false):=MT.ok_int K K (.inr rfl) (fun w=>by kernel_rfl)
def C71 (g:Grf) (ue:Int) (uj:Int) (uh:Ext) (uk:List Hdl) (uz:Nat) (uo:Int→Option Bool) (ug:List Int) (nw:List Int):St:=St.mk 109 (za8 ue uj) [zV g,Reg.froz uh,ze g,Hdl.ownR uk,zO uz uo,IntOwn ug,Reg.box 101 ((g.nodes.getD (ug.getD ue.toNat 0).toNat ub)).cs,IntRow nw,Reg.dead] []
def C71_J (g:Grf) (ue:Int) (uj:Int) (uh:Ext) (uk:List Hdl) (uz:Nat) (uo:Int→Option Bool) (ug:List Int) (nw:List Int):Prop:=nowH (g.nodes.getD (ug.getD ue.toNat 0).toNat ub) (rd uh (ji (uk.getD (ug.getD ue.toNat 0).toNat ub).a (uk.getD (ug.getD ue.toNat 0).toNat ub).n (uk.getD (ug.getD ue.toNat 0).toNat ub).c))=some nw
abbrev zaH (y0:Int × Int × Ext × List Hdl × Nat × (Int → Option Bool) × List Int):Reg:=Reg.mp (MT.mk jb 141 3 4 [CK.i ja] false [CK.b] false) (y0.2.2.2.2.1) (fun a=>(y0.2.2.2.2.2.1 a).isSome) (fun a=>(y0.2.2.2.2.2.1 a).getD (false)) none
def vX (g:Grf) (X0:Ext):Lp (Int×Int×Ext×List Hdl×Nat×(Int→Option (Bool))×List Int):=⟨fun x=>{ N:=109,fr:=[se 7 (C.i .i64 x.1),se 6 (C.h 5),se 5 (C.h 4),se 4 (C.h 3),se 3 (C.i .i64 x.2.1),zF,zaN],rg:=[rowOf 13 (·.tc) g.nodes,Reg.froz (x.2.2.1),ze g,Hdl.ownR (x.2.2.2.1),zaH x,IntOwn (x.2.2.2.2.2.2)],wr:=[] },fun x=>HJt g.nodes x.1 x.2.2.1 x.2.2.2.1 x.2.2.2.2.1 x.2.2.2.2.2.1 x.2.2.2.2.2.2,fun x=>(g.nodes.length+1-x.1.toNat)⟩
def vn (g:Grf) (ue:Int) (uj:Int) (uh:Ext) (uk:List Hdl) (uz:Nat) (uo:Int→Option Bool) (ug:List Int) (nw:List Int):Lp (Int×Int×Ext×List Hdl×Nat×(Int→Option (Bool))×List Int):=⟨fun x=>{ N:=109,fr:=[se 80 (C.i .i64 x.1),{ slot:=79,g:=[],sv:=SV.c (C.i .i64 (↑(flwL (g.nodes.getD (ug.getD ue.toNat 0).toNat ub)).length:Int)) },se 78 (C.h 9),se 10 (C.h 7),zaZ ue,se 6 (C.h 5),se 5 (C.h 4),se 4 (C.h 3),se 3 (C.i .i64 x.2.1),zF,zaN],rg:=[rowOf 13 (·.tc) g.nodes,Reg.froz (x.2.2.1),ze g,Hdl.ownR (x.2.2.2.1),zaH x,IntOwn (x.2.2.2.2.2.2),zc g ug ue,IntRow nw,Reg.dead,IntOwn (flwL (g.nodes.getD (ug.getD ue.toNat 0).toNat ub))],wr:=[] },fun x=>HKt g.nodes ue (g.nodes.getD (ug.getD ue.toNat 0).toNat ub) nw x.1 x.2.2.1 x.2.2.2.1 x.2.2.2.2.1 x.2.2.2.2.2.1 x.2.2.2.2.2.2,fun x=>((flwL (g.nodes.getD (ug.getD ue.toNat 0).toNat ub)).length-x.1).toNat⟩
abbrev zaj (y0 y1:Int):List En:=[se 10 (C.h 10),se 9 (C.p 6 0),zaZ y0,se 6 (C.h 5),se 5 (C.h 4),se 4 (C.h 3),se 3 (C.i .i64 y1),zF,zaN]
abbrev zaY (y0:Grf) (y1:List Iln):Prop:=∀ i:Nat,i<y0.nodes.length→hpos (y1.getD i ub).l∧(y1.getD i ub).l.length≤4096
theorem Qnd (g:Grf) (hq:zC g) (hN:1≤g.nodes.length∧g.nodes.length≤4096) (ht:thQ g.nodes) (hf:heldF g.nodes<0):Ctr jb 48 [zV g] [.agg (g.cs 0)]
 (DetE (fun L:List Iln=>L.length=g.nodes.length∧zaY g L) (fun _=>.tup [(false,[.h 1]),(false,[.i .i64 (-1)])]) (fun L=>[.dead,Iln.rowR L])):=by
 refine Ctr.intro [] Tryz.func48 K K ?_
 refine RunF.tabnew K (fun X0=>?_)
 refine tz [0] ?_
 refine Q7 (vX g X0) (((0:Int),(0:Int),X0,jf g.nodes.length Hdl.none,1,fun (q:Int)=>if q=(0:Int) then some true else none,[(0:Int)])) (.start hN.1 X0) ?_ [] [6,7,8,9,10,11] [(jf g.nodes.length Hdl.none).length=g.nodes.length,∀ (i:Nat),i<(jf g.nodes.length Hdl.none).length→((jf g.nodes.length Hdl.none).getD i ub).tc=fun j=>valT (ji none 0 0).cells.toList j,MpEq (MT.mk jb 141 3 4 [CK.i ja] false [CK.b] false) 1 (fun (a:Int)=>(if a=(0:Int) then some true else none).isSome) (fun (a:Int)=>(if a=(0:Int) then some true else none).getD false) none (MT.mk jb 141 3 4 [CK.i ja] false [CK.b] false) 1 (fun (q:Int)=>decide (q=(0:Int))||false) (fun (q:Int)=>if q=(0:Int) then true else KA.zero [CK.b]) none,[(0:Int)].length=1,∀ (i:Nat),i < [(0:Int)].length→i≠0→i64T ([(0:Int)].getD i 0)=fun x=>TC.any,i64T (0:Int) 0=TC.val (jg ja (0:Int))] W9 (vc:=[(0:Int)≤(↑g.nodes.length:Int),(↑g.nodes.length:Int)≤(↑g.nodes.length:Int),(↑g.nodes.length:Int) * (24:Int)≤(140737488355328:Int),(↑g.nodes.length:Int)≤(↑maxLen:Int),(MT.mk jb 141 3 4 [CK.i ja] false [CK.b] false).P=jb,(MT.mk jb 141 3 4 [CK.i ja] false [CK.b] false).Ok,Fits ja (0:Int),(MT.mk jb 141 3 4 [CK.i ja] false [CK.b] false).P=jb,0<maxLen]) (hv:=W21)
 rintro ⟨ue,uj,uh,uk,uz,uo,ug⟩ hJ1
 dsimp only [vX] at hJ1
 refine tz [7,6,5,4,3,2,1] ?_
 refine Q0 (decide (ue<(↑ug.length:Int))) (fun h2=>?_) (fun h2=>?_)
 ·refine RunF.cutn 5 (fun nw=>C71 g ue uj uh uk uz uo ug nw) (fun nw=>C71_J g ue uj uh uk uz uo ug nw) ?_ ?_
  ·refine tz [7,6,5,4,3,2,1] ?_
   refine Q0 (decide ((g.nodes.getD (ug.getD ue.toNat 0).toNat ub).kind=(5:Int))) (fun h3=>?_) (fun h3=>?_) (vc:=[(0:Int)≤ue,ue<(↑ug.length:Int),ue.toNat<ug.length,(0:Int)≤ug.getD ue.toNat 0,ug.getD ue.toNat 0<(↑g.nodes.length:Int),(ug.getD ue.toNat 0).toNat<g.nodes.length,(0:Int)≤ug.getD ue.toNat 0,ug.getD ue.toNat 0<(↑uk.length:Int),(ug.getD ue.toNat 0).toNat<uk.length]) (hv:=W21)
   ·refine RunF.tabout 10 1 (X:=uh) (y:=ji (uk.getD (ug.getD ue.toNat 0).toNat ub).a (uk.getD (ug.getD ue.toNat 0).toNat ub).n (uk.getD (ug.getD ue.toNat 0).toNat ub).c) (size:=1) (n:=(rd uh (ji (uk.getD (ug.getD ue.toNat 0).toNat ub).a (uk.getD (ug.getD ue.toNat 0).toNat ub).n (uk.getD (ug.getD ue.toNat 0).toNat ub).c)).length) (f:=fun j=>i64T ((rd uh (ji (uk.getD (ug.getD ue.toNat 0).toNat ub).a (uk.getD (ug.getD ue.toNat 0).toNat ub).n (uk.getD (ug.getD ue.toNat 0).toNat ub).c)).getD j 0)) K K K (Yi (hJ1.is (uc h2))) ?_
    refine tz [10,9,7,6,5,4,3,2,1] ?_
    refine Q0a 2 (fun _:Unit=>St.mk 109 (zaj ue uj) [rowOf 13 (·.tc) g.nodes,Reg.froz uh,ze g,ownOf 49 1 (·.tc) uk,zO uz uo,IntOwn ug,zc g ug ue,Reg.dead,Reg.dead,Reg.dead,zh uh uk ug ue g] []) (fun _=>True) ?_ ?_
    ·refine ⟨⟨trivial,?_⟩,?_⟩
     ·refine Q3 Ya (Zb (rd uh (ji (uk.getD (ug.getD ue.toNat 0).toNat ub).a (uk.getD (ug.getD ue.toNat 0).toNat ub).n (uk.getD (ug.getD ue.toNat 0).toNat ub).c)) W61) [7] ?_
      exact tTo (fun x=>St.mk 109 (zaj ue uj) [rowOf 13 (·.tc) g.nodes,Reg.froz uh,ze g,ownOf 49 1 (·.tc) uk,zO uz uo,IntOwn ug,zc g ug ue,Reg.dead,Reg.dead,Reg.dead,zh uh uk ug ue g] []) (fun x=>True) () trivial [] [8] [MpEq (MT.mk jb 141 3 4 [CK.i ja] false [CK.b] false) uz (fun (a:Int)=>(uo a).isSome) (fun (a:Int)=>(uo a).getD false) none (MT.mk jb 141 3 4 [CK.i ja] false [CK.b] false) uz (fun (a:Int)=>(uo a).isSome) (fun (a:Int)=>(uo a).getD false) none] W9 (vc:=[(rd uh (ji (uk.getD (ug.getD ue.toNat 0).toNat ub).a (uk.getD (ug.getD ue.toNat 0).toNat ub).n (uk.getD (ug.getD ue.toNat 0).toNat ub).c)).length+1≤maxLen,((rd uh (ji (uk.getD (ug.getD ue.toNat 0).toNat ub).a (uk.getD (ug.getD ue.toNat 0).toNat ub).n (uk.getD (ug.getD ue.toNat 0).toNat ub).c)).length+1) * 8≤140737488355328]) (hv:=W21)
     ·refine Q3 Ya (Zb (rd uh (ji (uk.getD (ug.getD ue.toNat 0).toNat ub).a (uk.getD (ug.getD ue.toNat 0).toNat ub).n (uk.getD (ug.getD ue.toNat 0).toNat ub).c)) W61) [7] ?_
      exact tTo (fun x=>St.mk 109 (zaj ue uj) [rowOf 13 (·.tc) g.nodes,Reg.froz uh,ze g,ownOf 49 1 (·.tc) uk,zO uz uo,IntOwn ug,zc g ug ue,Reg.dead,Reg.dead,Reg.dead,zh uh uk ug ue g] []) (fun x=>True) () trivial [] [8] [MpEq (MT.mk jb 141 3 4 [CK.i ja] false [CK.b] false) uz (fun (a:Int)=>(uo a).isSome) (fun (a:Int)=>(uo a).getD false) none (MT.mk jb 141 3 4 [CK.i ja] false [CK.b] false) uz (fun (a:Int)=>(uo a).isSome) (fun (a:Int)=>(uo a).getD false) none] W9 (vc:=[(rd uh (ji (uk.getD (ug.getD ue.toNat 0).toNat ub).a (uk.getD (ug.getD ue.toNat 0).toNat ub).n (uk.getD (ug.getD ue.toNat 0).toNat ub).c)).length+1≤maxLen,((rd uh (ji (uk.getD (ug.getD ue.toNat 0).toNat ub).a (uk.getD (ug.getD ue.toNat 0).toNat ub).n (uk.getD (ug.getD ue.toNat 0).toNat ub).c)).length+1) * 8≤140737488355328]) (hv:=W21)
    ·rintro ⟨⟩ _
     exact tTo (fun nw=>C71 g ue uj uh uk uz uo ug nw) (fun nw=>C71_J g ue uj uh uk uz uo ug nw) (rd uh (ji (uk.getD (ug.getD ue.toNat 0).toNat ub).a (uk.getD (ug.getD ue.toNat 0).toNat ub).n (uk.getD (ug.getD ue.toNat 0).toNat ub).c)++[(g.nodes.getD (ug.getD ue.toNat 0).toNat ub).thing]) W59 [0,1,2,3,4,5,6,10,8] [8,24,25,26] [MpEq (MT.mk jb 141 3 4 [CK.i ja] false [CK.b] false) uz (fun (a:Int)=>(uo a).isSome) (fun (a:Int)=>(uo a).getD false) none (MT.mk jb 141 3 4 [CK.i ja] false [CK.b] false) uz (fun (a:Int)=>(uo a).isSome) (fun (a:Int)=>(uo a).getD false) none,(rd uh (ji (uk.getD (ug.getD ue.toNat 0).toNat ub).a (uk.getD (ug.getD ue.toNat 0).toNat ub).n (uk.getD (ug.getD ue.toNat 0).toNat ub).c)++[(g.nodes.getD (ug.getD ue.toNat 0).toNat ub).thing]).length=(rd uh (ji (uk.getD (ug.getD ue.toNat 0).toNat ub).a (uk.getD (ug.getD ue.toNat 0).toNat ub).n (uk.getD (ug.getD ue.toNat 0).toNat ub).c)).length+1,∀ (i:Nat),i<(rd uh (ji (uk.getD (ug.getD ue.toNat 0).toNat ub).a (uk.getD (ug.getD ue.toNat 0).toNat ub).n (uk.getD (ug.getD ue.toNat 0).toNat ub).c)++[(g.nodes.getD (ug.getD ue.toNat 0).toNat ub).thing]).length→i≠(rd uh (ji (uk.getD (ug.getD ue.toNat 0).toNat ub).a (uk.getD (ug.getD ue.toNat 0).toNat ub).n (uk.getD (ug.getD ue.toNat 0).toNat ub).c)).length→i64T ((rd uh (ji (uk.getD (ug.getD ue.toNat 0).toNat ub).a (uk.getD (ug.getD ue.toNat 0).toNat ub).n (uk.getD (ug.getD ue.toNat 0).toNat ub).c)++[(g.nodes.getD (ug.getD ue.toNat 0).toNat ub).thing]).getD i 0)=i64T ((rd uh (ji (uk.getD (ug.getD ue.toNat 0).toNat ub).a (uk.getD (ug.getD ue.toNat 0).toNat ub).n (uk.getD (ug.getD ue.toNat 0).toNat ub).c)).getD i 0),i64T ((rd uh (ji (uk.getD (ug.getD ue.toNat 0).toNat ub).a (uk.getD (ug.getD ue.toNat 0).toNat ub).n (uk.getD (ug.getD ue.toNat 0).toNat ub).c)++[(g.nodes.getD (ug.getD ue.toNat 0).toNat ub).thing]).getD (rd uh (ji (uk.getD (ug.getD ue.toNat 0).toNat ub).a (uk.getD (ug.getD ue.toNat 0).toNat ub).n (uk.getD (ug.getD ue.toNat 0).toNat ub).c)).length (0:Int)) 0=TC.val (jg ja (g.nodes.getD (ug.getD ue.toNat 0).toNat ub).thing)] W9
   ·refine tz [40,10,9,8,7,6,5,4,3,2,1] ?_
    refine Q0 (decide ((g.nodes.getD (ug.getD ue.toNat 0).toNat ub).kind=(6:Int))) (fun h4=>?_) (fun h4=>?_)
    ·refine RunF.tabout 10 1 (X:=uh) (y:=ji (uk.getD (ug.getD ue.toNat 0).toNat ub).a (uk.getD (ug.getD ue.toNat 0).toNat ub).n (uk.getD (ug.getD ue.toNat 0).toNat ub).c) (size:=1) (n:=(rd uh (ji (uk.getD (ug.getD ue.toNat 0).toNat ub).a (uk.getD (ug.getD ue.toNat 0).toNat ub).n (uk.getD (ug.getD ue.toNat 0).toNat ub).c)).length) (f:=fun j=>i64T ((rd uh (ji (uk.getD (ug.getD ue.toNat 0).toNat ub).a (uk.getD (ug.getD ue.toNat 0).toNat ub).n (uk.getD (ug.getD ue.toNat 0).toNat ub).c)).getD j 0)) K K K (Yi (hJ1.is (uc h2))) ?_
     refine tz [10,9,8,7,6,5,4,3,2,1] ?_
     refine Q0 (decide ((↑(rd uh (ji (uk.getD (ug.getD ue.toNat 0).toNat ub).a (uk.getD (ug.getD ue.toNat 0).toNat ub).n (uk.getD (ug.getD ue.toNat 0).toNat ub).c)).length:Int)=(0:Int))||!decide ((rd uh (ji (uk.getD (ug.getD ue.toNat 0).toNat ub).a (uk.getD (ug.getD ue.toNat 0).toNat ub).n (uk.getD (ug.getD ue.toNat 0).toNat ub).c)).getD ((↑(rd uh (ji (uk.getD (ug.getD ue.toNat 0).toNat ub).a (uk.getD (ug.getD ue.toNat 0).toNat ub).n (uk.getD (ug.getD ue.toNat 0).toNat ub).c)).length:Int)-(1:Int)).toNat (0:Int)=(g.nodes.getD (ug.getD ue.toNat 0).toNat ub).thing)) (fun h5=>?_) (fun h5=>?_) (vc:=[decide ((↑(rd uh (ji (uk.getD (ug.getD ue.toNat 0).toNat ub).a (uk.getD (ug.getD ue.toNat 0).toNat ub).n (uk.getD (ug.getD ue.toNat 0).toNat ub).c)).length:Int)=(0:Int))=false→Fits ja ((↑(rd uh (ji (uk.getD (ug.getD ue.toNat 0).toNat ub).a (uk.getD (ug.getD ue.toNat 0).toNat ub).n (uk.getD (ug.getD ue.toNat 0).toNat ub).c)).length:Int)-(1:Int)),decide ((↑(rd uh (ji (uk.getD (ug.getD ue.toNat 0).toNat ub).a (uk.getD (ug.getD ue.toNat 0).toNat ub).n (uk.getD (ug.getD ue.toNat 0).toNat ub).c)).length:Int)=(0:Int))=false→(0:Int)≤(↑(rd uh (ji (uk.getD (ug.getD ue.toNat 0).toNat ub).a (uk.getD (ug.getD ue.toNat 0).toNat ub).n (uk.getD (ug.getD ue.toNat 0).toNat ub).c)).length:Int)-(1:Int),decide ((↑(rd uh (ji (uk.getD (ug.getD ue.toNat 0).toNat ub).a (uk.getD (ug.getD ue.toNat 0).toNat ub).n (uk.getD (ug.getD ue.toNat 0).toNat ub).c)).length:Int)=(0:Int))=false→(↑(rd uh (ji (uk.getD (ug.getD ue.toNat 0).toNat ub).a (uk.getD (ug.getD ue.toNat 0).toNat ub).n (uk.getD (ug.getD ue.toNat 0).toNat ub).c)).length:Int)-(1:Int)<(↑(rd uh (ji (uk.getD (ug.getD ue.toNat 0).toNat ub).a (uk.getD (ug.getD ue.toNat 0).toNat ub).n (uk.getD (ug.getD ue.toNat 0).toNat ub).c)).length:Int),decide ((↑(rd uh (ji (uk.getD (ug.getD ue.toNat 0).toNat ub).a (uk.getD (ug.getD ue.toNat 0).toNat ub).n (uk.getD (ug.getD ue.toNat 0).toNat ub).c)).length:Int)=(0:Int))=false→((↑(rd uh (ji (uk.getD (ug.getD ue.toNat 0).toNat ub).a (uk.getD (ug.getD ue.toNat 0).toNat ub).n (uk.getD (ug.getD ue.toNat 0).toNat ub).c)).length:Int)-(1:Int)).toNat<(rd uh (ji (uk.getD (ug.getD ue.toNat 0).toNat ub).a (uk.getD (ug.getD ue.toNat 0).toNat ub).n (uk.getD (ug.getD ue.toNat 0).toNat ub).c)).length]) (hv:=W21)
     ·exact (show False from by have q:=hJ1.at_ (uc h2);have z:=hJ1.fault (uc h2) (Qdf h3 h4 h5);omega).elim
     ·exact tTo (fun nw=>C71 g ue uj uh uk uz uo ug nw) (fun nw=>C71_J g ue uj uh uk uz uo ug nw) (jW (((↑(rd uh (ji (uk.getD (ug.getD ue.toNat 0).toNat ub).a (uk.getD (ug.getD ue.toNat 0).toNat ub).n (uk.getD (ug.getD ue.toNat 0).toNat ub).c)).length:Int)-(1:Int)).toNat-0) (List.drop 0 (rd uh (ji (uk.getD (ug.getD ue.toNat 0).toNat ub).a (uk.getD (ug.getD ue.toNat 0).toNat ub).n (uk.getD (ug.getD ue.toNat 0).toNat ub).c)))) W59 [0,1,2,3,4,5,6,8,8] [8,24,25] [MpEq (MT.mk jb 141 3 4 [CK.i ja] false [CK.b] false) uz (fun (a:Int)=>(uo a).isSome) (fun (a:Int)=>(uo a).getD false) none (MT.mk jb 141 3 4 [CK.i ja] false [CK.b] false) uz (fun (a:Int)=>(uo a).isSome) (fun (a:Int)=>(uo a).getD false) none,(jW (((↑(rd uh (ji (uk.getD (ug.getD ue.toNat 0).toNat ub).a (uk.getD (ug.getD ue.toNat 0).toNat ub).n (uk.getD (ug.getD ue.toNat 0).toNat ub).c)).length:Int)-(1:Int)).toNat-0) (List.drop 0 (rd uh (ji (uk.getD (ug.getD ue.toNat 0).toNat ub).a (uk.getD (ug.getD ue.toNat 0).toNat ub).n (uk.getD (ug.getD ue.toNat 0).toNat ub).c)))).length=((↑(rd uh (ji (uk.getD (ug.getD ue.toNat 0).toNat ub).a (uk.getD (ug.getD ue.toNat 0).toNat ub).n (uk.getD (ug.getD ue.toNat 0).toNat ub).c)).length:Int)-(1:Int)).toNat-0,∀ (i:Nat),i<(jW (((↑(rd uh (ji (uk.getD (ug.getD ue.toNat 0).toNat ub).a (uk.getD (ug.getD ue.toNat 0).toNat ub).n (uk.getD (ug.getD ue.toNat 0).toNat ub).c)).length:Int)-(1:Int)).toNat-0) (List.drop 0 (rd uh (ji (uk.getD (ug.getD ue.toNat 0).toNat ub).a (uk.getD (ug.getD ue.toNat 0).toNat ub).n (uk.getD (ug.getD ue.toNat 0).toNat ub).c)))).length→i64T ((jW (((↑(rd uh (ji (uk.getD (ug.getD ue.toNat 0).toNat ub).a (uk.getD (ug.getD ue.toNat 0).toNat ub).n (uk.getD (ug.getD ue.toNat 0).toNat ub).c)).length:Int)-(1:Int)).toNat-0) (List.drop 0 (rd uh (ji (uk.getD (ug.getD ue.toNat 0).toNat ub).a (uk.getD (ug.getD ue.toNat 0).toNat ub).n (uk.getD (ug.getD ue.toNat 0).toNat ub).c)))).getD i 0)=i64T ((rd uh (ji (uk.getD (ug.getD ue.toNat 0).toNat ub).a (uk.getD (ug.getD ue.toNat 0).toNat ub).n (uk.getD (ug.getD ue.toNat 0).toNat ub).c)).getD (0+i) 0)] W9 (vc:=[Fits ja ((↑(rd uh (ji (uk.getD (ug.getD ue.toNat 0).toNat ub).a (uk.getD (ug.getD ue.toNat 0).toNat ub).n (uk.getD (ug.getD ue.toNat 0).toNat ub).c)).length:Int)-(1:Int)),(0:Int)≤(0:Int),(0:Int)≤(↑(rd uh (ji (uk.getD (ug.getD ue.toNat 0).toNat ub).a (uk.getD (ug.getD ue.toNat 0).toNat ub).n (uk.getD (ug.getD ue.toNat 0).toNat ub).c)).length:Int)-(1:Int),(↑(rd uh (ji (uk.getD (ug.getD ue.toNat 0).toNat ub).a (uk.getD (ug.getD ue.toNat 0).toNat ub).n (uk.getD (ug.getD ue.toNat 0).toNat ub).c)).length:Int)-(1:Int)≤(↑(rd uh (ji (uk.getD (ug.getD ue.toNat 0).toNat ub).a (uk.getD (ug.getD ue.toNat 0).toNat ub).n (uk.getD (ug.getD ue.toNat 0).toNat ub).c)).length:Int)]) (hv:=W21)
    ·refine tz [40,10,9,8,7,6,5,4,3,2,1] ?_
     refine Q0 (decide ((g.nodes.getD (ug.getD ue.toNat 0).toNat ub).kind=(9:Int))) (fun h5=>?_) (fun h5=>?_)
     ·refine RunF.tabout 10 1 (X:=uh) (y:=ji (uk.getD (ug.getD ue.toNat 0).toNat ub).a (uk.getD (ug.getD ue.toNat 0).toNat ub).n (uk.getD (ug.getD ue.toNat 0).toNat ub).c) (size:=1) (n:=(rd uh (ji (uk.getD (ug.getD ue.toNat 0).toNat ub).a (uk.getD (ug.getD ue.toNat 0).toNat ub).n (uk.getD (ug.getD ue.toNat 0).toNat ub).c)).length) (f:=fun j=>i64T ((rd uh (ji (uk.getD (ug.getD ue.toNat 0).toNat ub).a (uk.getD (ug.getD ue.toNat 0).toNat ub).n (uk.getD (ug.getD ue.toNat 0).toNat ub).c)).getD j 0)) K K K (Yi (hJ1.is (uc h2))) ?_
      refine tz [10,9,8,7,6,5,4,3,2,1] ?_
      refine Q0 (decide ((0:Int)<(↑(rd uh (ji (uk.getD (ug.getD ue.toNat 0).toNat ub).a (uk.getD (ug.getD ue.toNat 0).toNat ub).n (uk.getD (ug.getD ue.toNat 0).toNat ub).c)).length:Int))) (fun h6=>?_) (fun h6=>?_)
      ·exact (show False from by have q:=hJ1.at_ (uc h2);have z:=hJ1.fault (uc h2) (Qbg h3 h4 h5 h6);omega).elim
      ·exact tTo (fun nw=>C71 g ue uj uh uk uz uo ug nw) (fun nw=>C71_J g ue uj uh uk uz uo ug nw) (rd uh (ji (uk.getD (ug.getD ue.toNat 0).toNat ub).a (uk.getD (ug.getD ue.toNat 0).toNat ub).n (uk.getD (ug.getD ue.toNat 0).toNat ub).c)) W59 [0,1,2,3,4,5,6,7,1000008] [8] [MpEq (MT.mk jb 141 3 4 [CK.i ja] false [CK.b] false) uz (fun (a:Int)=>(uo a).isSome) (fun (a:Int)=>(uo a).getD false) none (MT.mk jb 141 3 4 [CK.i ja] false [CK.b] false) uz (fun (a:Int)=>(uo a).isSome) (fun (a:Int)=>(uo a).getD false) none] W9
     ·refine RunF.tabout 10 1 (X:=uh) (y:=ji (uk.getD (ug.getD ue.toNat 0).toNat ub).a (uk.getD (ug.getD ue.toNat 0).toNat ub).n (uk.getD (ug.getD ue.toNat 0).toNat ub).c) (size:=1) (n:=(rd uh (ji (uk.getD (ug.getD ue.toNat 0).toNat ub).a (uk.getD (ug.getD ue.toNat 0).toNat ub).n (uk.getD (ug.getD ue.toNat 0).toNat ub).c)).length) (f:=fun j=>i64T ((rd uh (ji (uk.getD (ug.getD ue.toNat 0).toNat ub).a (uk.getD (ug.getD ue.toNat 0).toNat ub).n (uk.getD (ug.getD ue.toNat 0).toNat ub).c)).getD j 0)) K K K (Yi (hJ1.is (uc h2))) ?_
      exact tTo (fun nw=>C71 g ue uj uh uk uz uo ug nw) (fun nw=>C71_J g ue uj uh uk uz uo ug nw) (rd uh (ji (uk.getD (ug.getD ue.toNat 0).toNat ub).a (uk.getD (ug.getD ue.toNat 0).toNat ub).n (uk.getD (ug.getD ue.toNat 0).toNat ub).c)) W59 [0,1,2,3,4,5,6,7,1000008] [8] [MpEq (MT.mk jb 141 3 4 [CK.i ja] false [CK.b] false) uz (fun (a:Int)=>(uo a).isSome) (fun (a:Int)=>(uo a).getD false) none (MT.mk jb 141 3 4 [CK.i ja] false [CK.b] false) uz (fun (a:Int)=>(uo a).isSome) (fun (a:Int)=>(uo a).getD false) none] W9
  ·intro nw hCC71
   refine tz [10,9,7,6,5,4,3,2,1] ?_
   refine Q3 Ym (Ge (g.nodes.getD (ug.getD ue.toNat 0).toNat ub)) [] ?_
   refine tz [78,10,7,6,5,4,3,2,1] ?_
   refine Q7 (vn g ue uj uh uk uz uo ug nw) (((0:Int),uj,uh,uk,uz,uo,ug)) (hJ1.inner ht (uc h2) hCC71) ?_ [] [8] [MpEq (MT.mk jb 141 3 4 [CK.i ja] false [CK.b] false) uz (fun (a:Int)=>(uo a).isSome) (fun (a:Int)=>(uo a).getD false) none (MT.mk jb 141 3 4 [CK.i ja] false [CK.b] false) uz (fun (a:Int)=>(uo a).isSome) (fun (a:Int)=>(uo a).getD false) none] W9
   rintro ⟨ui,uq,ut,uA,uL,uE,uN⟩ hJ3
   dsimp only [vn] at hJ3
   refine tz [80,79,78,10,7,6,5,4,3,2,1] ?_
   refine Q0 (decide (ui<(↑(flwL (g.nodes.getD (ug.getD ue.toNat 0).toNat ub)).length:Int))) (fun h4=>?_) (fun h4=>?_)
   ·refine tz [80,79,78,10,7,6,5,4,3,2,1] ?_
    refine Q0 (!(uE ((flwL (g.nodes.getD (ug.getD ue.toNat 0).toNat ub)).getD ui.toNat 0)).getD false) (fun h5=>?_) (fun h5=>?_) (vc:=[(0:Int)≤ui,ui<(↑(flwL (g.nodes.getD (ug.getD ue.toNat 0).toNat ub)).length:Int),ui.toNat<(flwL (g.nodes.getD (ug.getD ue.toNat 0).toNat ub)).length,Fits ja ((flwL (g.nodes.getD (ug.getD ue.toNat 0).toNat ub)).getD ui.toNat 0),(MT.mk jb 141 3 4 [CK.i ja] false [CK.b] false).P=jb]) (hv:=W21)
    ·refine tz [12,80,79,78,10,7,6,5,4,3,2,1] ?_
     refine Q3 Ya (Zb nw W61) [7] ?_ (vc:=[Fits ja ((flwL (g.nodes.getD (ug.getD ue.toNat 0).toNat ub)).getD ui.toNat 0),(MT.mk jb 141 3 4 [CK.i ja] false [CK.b] false).P=jb,uL<maxLen]) (hv:=W21)
     refine RunF.tabin 10 1 (ty:=3) (size:=1) (n:=nw.length) (f:=fun i=>i64T (nw.getD i 0)) (X:=ut) K K K (fun X9 A9 c9 hInX9 hTabX9=>?_)
     exact Q4 (vn g ue uj uh uk uz uo ug nw) (ui,uq,ut,uA,uL,uE,uN) ((ui+(1:Int),uq,X9,uA.set ((flwL (g.nodes.getD (ug.getD ue.toNat 0).toNat ub)).getD ui.toNat 0).toNat (Hdl.mk A9 nw.length c9),uL+1,fun (q:Int)=>if q=(flwL (g.nodes.getD (ug.getD ue.toNat 0).toNat ub)).getD ui.toNat 0 then some true else uE q,uN++[(flwL (g.nodes.getD (ug.getD ue.toNat 0).toNat ub)).getD ui.toNat 0])) W185 W99 [0,1,2,3,4,12,6,7,8,9] [6,7,8,9,10,11] [(uA.set ((flwL (g.nodes.getD (ug.getD ue.toNat 0).toNat ub)).getD ui.toNat 0).toNat (Hdl.mk A9 nw.length c9)).length=uA.length,∀ (i:Nat),i<(uA.set ((flwL (g.nodes.getD (ug.getD ue.toNat 0).toNat ub)).getD ui.toNat 0).toNat (Hdl.mk A9 nw.length c9)).length→((uA.set ((flwL (g.nodes.getD (ug.getD ue.toNat 0).toNat ub)).getD ui.toNat 0).toNat (Hdl.mk A9 nw.length c9)).getD i ub).tc=updT (fun i=>(uA.getD i ub).tc) ((flwL (g.nodes.getD (ug.getD ue.toNat 0).toNat ub)).getD ui.toNat 0).toNat 0 [ji A9 nw.length c9] i,MpEq (MT.mk jb 141 3 4 [CK.i ja] false [CK.b] false) (uL+1) (fun (a:Int)=>(if a=(flwL (g.nodes.getD (ug.getD ue.toNat 0).toNat ub)).getD ui.toNat 0 then some true else uE a).isSome) (fun (a:Int)=>(if a=(flwL (g.nodes.getD (ug.getD ue.toNat 0).toNat ub)).getD ui.toNat 0 then some true else uE a).getD false) none (MT.mk jb 141 3 4 [CK.i ja] false [CK.b] false) (uL+1) (fun (q:Int)=>decide (q=(flwL (g.nodes.getD (ug.getD ue.toNat 0).toNat ub)).getD ui.toNat 0)||(uE q).isSome) (fun (q:Int)=>if q=(flwL (g.nodes.getD (ug.getD ue.toNat 0).toNat ub)).getD ui.toNat 0 then true else (uE q).getD false) none,(uN++[(flwL (g.nodes.getD (ug.getD ue.toNat 0).toNat ub)).getD ui.toNat 0]).length=uN.length+1,∀ (i:Nat),i<(uN++[(flwL (g.nodes.getD (ug.getD ue.toNat 0).toNat ub)).getD ui.toNat 0]).length→i≠uN.length→i64T ((uN++[(flwL (g.nodes.getD (ug.getD ue.toNat 0).toNat ub)).getD ui.toNat 0]).getD i 0)=i64T (uN.getD i 0),i64T ((uN++[(flwL (g.nodes.getD (ug.getD ue.toNat 0).toNat ub)).getD ui.toNat 0]).getD uN.length 0) 0=TC.val (jg ja ((flwL (g.nodes.getD (ug.getD ue.toNat 0).toNat ub)).getD ui.toNat 0))] W9 (vc:=[(0:Int)≤(flwL (g.nodes.getD (ug.getD ue.toNat 0).toNat ub)).getD ui.toNat 0,(flwL (g.nodes.getD (ug.getD ue.toNat 0).toNat ub)).getD ui.toNat 0<(↑uA.length:Int),((flwL (g.nodes.getD (ug.getD ue.toNat 0).toNat ub)).getD ui.toNat 0).toNat<uA.length,uN.length+1≤maxLen,(uN.length+1) * 8≤140737488355328,Fits ja (ui+(1:Int))]) (hv:=W21)
    ·refine tz [12,80,79,78,10,7,6,5,4,3,2,1] ?_
     refine Q3 Jd (Qlb ut ((uA.getD ((flwL (g.nodes.getD (ug.getD ue.toNat 0).toNat ub)).getD ui.toNat 0).toNat ub).a) ((uA.getD ((flwL (g.nodes.getD (ug.getD ue.toNat 0).toNat ub)).getD ui.toNat 0).toNat ub).n) ((uA.getD ((flwL (g.nodes.getD (ug.getD ue.toNat 0).toNat ub)).getD ui.toNat 0).toNat ub).c) nw W61) [7,1] ?_ (vc:=[(0:Int)≤(flwL (g.nodes.getD (ug.getD ue.toNat 0).toNat ub)).getD ui.toNat 0,(flwL (g.nodes.getD (ug.getD ue.toNat 0).toNat ub)).getD ui.toNat 0<(↑uA.length:Int),((flwL (g.nodes.getD (ug.getD ue.toNat 0).toNat ub)).getD ui.toNat 0).toNat<uA.length]) (hv:=W21)
     refine tz [104,12,80,79,78,10,7,6,5,4,3,2,1] ?_
     refine Q0 (!decide (rd ut (ji (uA.getD ((flwL (g.nodes.getD (ug.getD ue.toNat 0).toNat ub)).getD ui.toNat 0).toNat ub).a (uA.getD ((flwL (g.nodes.getD (ug.getD ue.toNat 0).toNat ub)).getD ui.toNat 0).toNat ub).n (uA.getD ((flwL (g.nodes.getD (ug.getD ue.toNat 0).toNat ub)).getD ui.toNat 0).toNat ub).c)=nw)) (fun h6=>?_) (fun h6=>?_)
     ·exact (show False from by have q:=hJ3.to_ (uc h4) (hq _ (by have q:=hJ1.at_ (uc h2);omega));have z:=hJ3.fault (uc h4) (hq _ (by have q:=hJ1.at_ (uc h2);omega)) h5 h6;omega).elim
     ·exact Q4 (vn g ue uj uh uk uz uo ug nw) (ui,uq,ut,uA,uL,uE,uN) ((ui+(1:Int),uq,ut,uA,uL,uE,uN)) W185 W99 [] [8] [MpEq (MT.mk jb 141 3 4 [CK.i ja] false [CK.b] false) uL (fun (a:Int)=>(uE a).isSome) (fun (a:Int)=>(uE a).getD false) none (MT.mk jb 141 3 4 [CK.i ja] false [CK.b] false) uL (fun (a:Int)=>(uE a).isSome) (fun (a:Int)=>(uE a).getD false) none] W9 (vc:=[Fits ja (ui+(1:Int))]) (hv:=W21)
   ·exact Q4 (vX g X0) (ue,uj,uh,uk,uz,uo,ug) ((ue+(1:Int),uq,ut,uA,uL,uE,uN)) (by dsimp only [vX];have q:=uc h2;have q1:=hJ1.most;have q2:=hJ1.k0;omega) (hJ3.done (ud h4)) [] [8] [MpEq (MT.mk jb 141 3 4 [CK.i ja] false [CK.b] false) uL (fun (a:Int)=>(uE a).isSome) (fun (a:Int)=>(uE a).getD false) none (MT.mk jb 141 3 4 [CK.i ja] false [CK.b] false) uL (fun (a:Int)=>(uE a).isSome) (fun (a:Int)=>(uE a).getD false) none] W9 (vc:=[Fits ja (ue+(1:Int))]) (hv:=W21)
 ·refine tWk (St.mk 109 [se 23 (C.t false),se 22 (C.i .i64 (↑ug.length:Int)),se 21 (C.h 5),se 20 (C.i .i64 ue),zaZ ue,se 6 (C.h 5),se 5 (C.h 4),se 4 (C.h 3),se 3 (C.i .i64 uj),zF,zaN] [rowOf 13 (·.tc) g.nodes,Reg.froz uh,ze g,rowOf 1 (·.tc) uk,zO uz uo,IntOwn ug] []) ?_ [] [8] [MpEq (MT.mk jb 141 3 4 [CK.i ja] false [CK.b] false) uz (fun (a:Int)=>(uo a).isSome) (fun (a:Int)=>(uo a).getD false) none (MT.mk jb 141 3 4 [CK.i ja] false [CK.b] false) uz (fun (a:Int)=>(uo a).isSome) (fun (a:Int)=>(uo a).getD false) none] W9
  refine RunF.tabrow 3 1 (n:=uk.length) (g:=fun i=>(uk.getD i ub).tc) (f:=fun i=>(Iln.mk (rd uh (uk.getD i ub).v)).tc) (X:=uh) K K K (fun i hi=>⟨_,_,_,_,rfl,rfl,Yi (Q5v hJ1.all hi)⟩) ?_
  exact Q2 [0,3] [0,1] [(List.map (fun v=>Iln.mk (rd uh v.v)) uk).length=uk.length,∀ (i:Nat),i<(List.map (fun v=>Iln.mk (rd uh v.v)) uk).length→((List.map (fun v=>Iln.mk (rd uh v.v)) uk).getD i ub).tc=(Iln.mk (rd uh (uk.getD i ub).v)).tc] (by simp only [Conj];(repeat' apply jo)<;>first | trivial | rfl | exact jP _ | exact Qlv _ _ | (intros;rfl)) (res:=_) (post:=_) (hS:=⟨(uk.map fun v=>Iln.mk (rd uh v.v)),(hJ1.fin hN.2),rfl,rfl⟩)
def vY (X:Ext) (l:Int):Lp (List Int×Int):=⟨fun x=>{ N:=16,fr:=[se 3 (C.h 1),zF,se 0 (C.i .u32 x.2)],rg:=[Reg.froz X]++[IntOwn x.1],wr:=[] },fun x=>LsJ l x,fun x=>x.2.toNat⟩
abbrev zch (y0:Int):TC:=TC.val (jg ja y0)
abbrev zb7 (y0:List Int) (y1:Int):List Prop:=[(y0++[y1]).length=y0.length+1,∀ (i:Nat),i<(y0++[y1]).length→i≠y0.length→i64T ((y0++[y1]).getD i 0)=zc0 y0 i,i64T ((y0++[y1]).getD y0.length 0) 0=zch y1]
theorem Qhw (X:Ext) (hX:TabX X) (l:Int) (hl:0≤l∧l<4294967296):Ctr jb 163 [.froz X] [.c (.i .u32 l)]
 (DetE (fun o:List Int=>lsQ l o) (fun _=>.c (.h 1)) (fun o=>[.dead,IntOwn o])):=by
 refine Ctr.intro [] Tryz.func163 K K ?_
 refine Q7 (vY X l) (([],l)) (LsJ.start hl) ?_ [0,1000001] [1] [(0:Nat)=0] W8
 rintro ⟨ue,uj⟩ hJ1
 dsimp only [vY] at hJ1
 refine tz [3,2,0] ?_
 refine Q0 (!decide (uj=(0:Int))) (fun h2=>?_) (fun h2=>?_)
 ·refine tz [3,2,0] ?_
  refine Qn Jf (Qp9 (X:=X) (hX:=by first | assumption | exact hJ1.lo | omega) (x:=uj) (hx:=by first | assumption | exact hJ1.lo | omega)) [] ?_
  rintro ui hY3
  try dsimp only at hY3
  exact Q4 (vY X l) (ue,uj) ((ue++[ui],bits jx jq uj (uj-(1:Int)))) (by dsimp only [vY];exact (hJ1.next h2 hY3).2) ((hJ1.next h2 hY3).1) [0,3] [1,2,3] (zb7 ue ui) W8 (vc:=[ue.length+1≤maxLen,(ue.length+1) * 8≤140737488355328,Fits jq (uj-(1:Int))]) (hv:=(by simp only [Conj,Fits,Q8,Qdg,Qdh,Q9,Qa,Qb,News.len,maxLen]<;>(repeat' (first | apply jo | intro _))<;>first | (have q:uj≠0:=(by simpa using h2);have z:=hJ1.lo;have z1:=hJ1.sum;(try dsimp only at z z1);(try simp only [maxLen] at *);omega) | grind | (simp only [BL] at *;omega)))
 ·exact Q2 (res:=_) (post:=_) (hS:=⟨ue,(hJ1.done h2),rfl,rfl⟩)
theorem Qpa (g:Grf) (hq:zC g) (hN:1≤g.nodes.length∧g.nodes.length≤4096) (hk:zI g) (ht:thQ g.nodes) (hf:heldF g.nodes<0):Ctr jb 171 [zV g] [.agg (g.cs 0)]
 (DetE (fun L:List Iln=>L.length=g.nodes.length∧zaY g L) (fun _=>.tup [(false,[.h 1]),(false,[.b true])]) (fun L=>[.dead,Iln.rowR L])):=by
 refine Ctr.intro [] Tryz.func171 K K ?_
 refine Q3 J8 (Q4r g W49 W49 W49) [] ?_
 refine tz [7,3,2,1] ?_
 refine Q0 (!true) (fun h1=>?_) (fun h1=>?_)
 ·exact absurd h1 W79
 ·refine tz [3,2,1] ?_
  refine Qn Q71 (Qnd g W49 W49 W49 W49) [] ?_
  rintro uf hY2
  try dsimp only at hY2
  exact Q2 [0,2] (res:=_) (post:=_) (hS:=⟨uf,hY2,rfl,rfl⟩)
end Go.Proofs.YtnddggenhefaeaaGreatDoor
end
