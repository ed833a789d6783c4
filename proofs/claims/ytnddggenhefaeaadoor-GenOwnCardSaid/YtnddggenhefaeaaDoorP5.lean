/-
  A part of the proof. Text 5 of 9: SpecBk SpecMt SpecLt SpecLv SpecLi SpecLj SpecLw DataG SpecFt SpecRg SpecRi SpecLk SpecDl SpecDs SpecSa SpecFa SpecMe SpecGn SpecGo SpecAl SpecCo SpecMa SpecB SpecC SpecD SpecE SpecF SpecG SpecH SpecI SpecJ SpecK SpecX SpecY SpecM SpecGr SpecOw Leaf124 Leaf Leaf2 Leaf3 Leaf4 Leaf74.
-/
import Derived.Test.YtnddggenhefaeaaDoorP4
import Derived.Test.YtnddggenhefaeaaDoorP1
import Derived.Laws.BitsAllLaws
set_option linter.unusedSimpArgs false
set_option linter.unusedVariables false
open List renaming replicate→ji,getD_eq_getElem?_getD→jb,getElem?_append_left→jp,append_assoc→jH,mem_append_left→jT,mem_singleton→jI,take_of_length_le→ky,length_append→jl,eq_nil_of_length_eq_zero→kh,length_singleton→ki,getElem_mem→jQ,mem_append→kM,take_succ_eq_append_getElem→jN,getElem?_replicate→j7,length_set→jt,length_map→jK,drop_eq_getElem_cons→kF,drop_eq_nil_of_le→kq,mem_cons_self→j5,mem_cons_of_mem→jR,getElem?_map→jk,getElem?_range→ke,getElem?_eq_none→jX,range→jB,length_replicate→jG,not_mem_nil→kg,getElem?_eq_getElem→jc,length_take→jJ,range_succ→kz,map_append→kK,length_cons→kd,getElem?_append_right→jy,append_nil→j6,getElem?_set_ne→jC,length_range→kv,mem_cons→ku,getElem?_set_self→jE,countP_append→kY
open Nat renaming le_refl→jm,min_eq_left→kL,lt_of_lt_of_le→jP,zero_le→kb,le_trans→kj,zero_add→j8
open Go.Value renaming int→jf,slice→jg,bool→jU,string→jF
open Go.IntKind renaming i64→ja,u32→jv,u8→jz
open Int renaming le_refl→jA,toNat_natCast→kP,tdiv_eq_ediv_of_nonneg→kN,toNat_of_nonneg→ko
open Bool renaming or_eq_true→jO,and_eq_true→je,not_eq_true'→jL,true_and→k9,or_eq_false_iff→j9,not_eq_false'→kC
open And renaming intro→jn
open Inhabited renaming default→ub
set_option maxHeartbeats 1000000
set_option maxHeartbeats 4000000
noncomputable section
namespace Go.Proofs.YtnddggenhefaeaaDoor
open Go Go.Tx
structure Vis where
 pos:Int
 k:Int
 deriving Inhabited,DecidableEq
def Vis.tl (x:Vis):List TC:=[.val (.int .i64 x.pos),.val (.int .i64 x.k)]
def Vis.tc (x:Vis):Nat→TC:=nthT x.tl
abbrev Vis.ownR (l:List Vis):Reg:=ownOf 168 2 Vis.tc l
structure Bk where
 se:List Bo
 od:List Int
 st:List Vis
def flB (l:List Nod) (v:Vis):List Int:=flwL (l.getD v.pos.toNat ub)
def topB (s:Bk):Vis:=s.st.getD (s.st.length-1) ub
def bkStep (l:List Nod) (s:Bk):Bk:=
 if (topB s).k=((flB l (topB s)).length:Int) then ⟨s.se,s.od++[(topB s).pos],s.st.take (s.st.length-1)⟩
 else
  if (s.se.getD ((flB l (topB s)).getD (topB s).k.toNat 0).toNat ub).b=true then ⟨s.se,s.od,s.st.set (s.st.length-1) ⟨(topB s).pos,(topB s).k+1⟩⟩
  else ⟨s.se.set ((flB l (topB s)).getD (topB s).k.toNat 0).toNat ⟨true⟩,s.od,s.st.set (s.st.length-1) ⟨(topB s).pos,(topB s).k+1⟩++[⟨(flB l (topB s)).getD (topB s).k.toNat 0,0⟩]⟩
def wtB:List Vis→Nat
 | []=>0
 | v::r=>(3-v.k.toNat)+wtB r
def msB (s:Bk):Nat:=4 * falses s.se+wtB s.st
def bkGo (l:List Nod):Nat→Bk→Bk
 | 0,s=>s
 | n+1,s=>if s.st.length=0 then s else bkGo l n (bkStep l s)
def bk0 (l:List Nod):Bk:=⟨(ji l.length (Bo.mk false)).set 0 (Bo.mk true),[],[⟨0,0⟩]⟩
def bkF (l:List Nod):Bk:=bkGo l (msB (bk0 l)) (bk0 l)
def psB (s:Bk):List Int:=s.st.map Vis.pos
structure BkJ (l:List Nod) (s:Bk):Prop where
 len:s.se.length=l.length
 st:∀ v∈s.st,0≤v.k∧v.k≤((flB l v).length:Int)
 od:∀ x∈s.od++psB s,0≤x∧x<(l.length:Int)
 sn:∀ i:Nat,(s.se.getD i default).b=true↔(i:Int)∈s.od++psB s
 nd:(s.od++psB s).Nodup
 bot:psB s≠[]→(psB s).getD 0 0=0
 fin:psB s=[]→∃ r,s.od=r++[0]
 cl:∀ x∈s.od,∀ y∈flwL (l.getD x.toNat default),(s.se.getD y.toNat default).b=true
 part:∀ v∈s.st,∀ y∈(flB l v).take v.k.toNat,(s.se.getD y.toNat default).b=true
 link:∀ i:Nat,i+1<(psB s).length→(psB s).getD (i+1) 0∈flwL (l.getD ((psB s).getD i 0).toNat default)
 par:∀ a x b,s.od=a++x::b→x≠0→∃ p,0≤p∧x∈flwL (l.getD p.toNat default)∧(p∈psB s∨p∈b)
theorem Yw {α:Type} {d:α} {a b:List α} {i:Nat} (h:i<a.length):(a++b).getD i d=a.getD i d:=by
 rw [jb,jb,jp h]
theorem Q3w {α:Type} {d x:α} {a:List α}:(a++[x]).getD a.length d=x:=by simp [jb]
theorem snoc_eq {α:Type} {o a b:List α} {v x:α} (h:o++[v]=a++x::b):(b=[]∧o=a∧v=x)∨∃ c,b=c++[v]∧o=a++x::c:=by
 rcases List.eq_nil_or_concat b with rfl | ⟨c,y,rfl⟩
 ·have:=List.append_inj' h rfl
  simp at this
  exact .inl ⟨rfl,this.1,this.2⟩
 ·rw [show a++x::c.concat y=(a++x::c)++[y] by simp] at h
  have:=List.append_inj' h rfl
  simp at this
  exact .inr ⟨c,by rw [this.2];simp,this.1⟩
section
variable {l:List Nod} {se:List Bo} {od:List Int} {pre:List Vis} {v:Vis}
theorem BkJ.finish (h:BkJ l ⟨se,od,pre++[v]⟩) (hk:v.k=((flB l v).length:Int)):BkJ l ⟨se,od++[v.pos],pre⟩:=by
 have hps:psB ⟨se,od,pre++[v]⟩=pre.map Vis.pos++[v.pos]:=by simp [psB]
 have hp:∀ o:List Int,psB ⟨se,o,pre⟩=pre.map Vis.pos:=fun _=>rfl
 obtain ⟨h1,h2,h3,h4,h5,h6,h7,h8,h9,h10,h11⟩:=h
 rw [hps] at h3 h4 h5 h6 h7 h10 h11
 have hperm:(od++(pre.map Vis.pos++[v.pos])).Perm (od++[v.pos]++pre.map Vis.pos):=by
  rw [jH]
  exact (List.perm_append_comm).append_left od
 refine ⟨h1,fun x hx=>h2 x (jT _ hx),fun x hx=>h3 x (hperm.mem_iff.2 hx),fun i=>by rw [h4 i];exact hperm.mem_iff,hperm.nodup_iff.1 h5,fun hne=>?_,fun hnil=>?_,fun x hx y hy=>?_,fun x hx=>h9 x (jT _ hx),fun i hi=>?_,fun a x b hab hx=>?_⟩
 ·rw [hp] at hne ⊢
  have:=h6 W149
  rwa [Yw (List.length_pos_iff.2 hne)] at this
 ·have hnil:pre.map Vis.pos=[]:=hnil
  have:=h6 W149
  rw [hnil] at this
  exact ⟨od,by rw [show v.pos=0 from this]⟩
 ·rcases List.mem_append.1 hx with hx | hx
  ·exact h8 x hx y hy
  ·rw [jI] at hx
   subst hx
   exact h9 v W149 y (by rw [ky (by omega)];exact hy)
 ·rw [hp] at hi ⊢
  have:=h10 i (by rw [jl];omega)
  rwa [Yw hi,Yw W31] at this
 ·rcases snoc_eq hab with ⟨rfl,rfl,rfl⟩ | ⟨c,rfl,rfl⟩
  ·have hne:0<(pre.map Vis.pos).length:=by
    rcases Nat.eq_zero_or_pos (pre.map Vis.pos).length with e | e
    ·have e1:=kh e
     have:=h6 W149
     rw [e1] at this
     exact absurd this hx
    ·exact e
   have hl:=h10 ((pre.map Vis.pos).length-1) (by rw [jl,ki];omega)
   rw [show (pre.map Vis.pos).length-1+1=(pre.map Vis.pos).length by omega,Q3w,Yw W31] at hl
   have hm:(pre.map Vis.pos).getD ((pre.map Vis.pos).length-1) 0∈pre.map Vis.pos:=by rw [Qc W31];exact jQ _
   exact ⟨_,(h3 _ (by simp only [kM];exact .inr (.inl hm))).1,hl,.inl hm⟩
  ·obtain ⟨p,p0,p1,p2⟩:=h11 a x c rfl hx
   refine ⟨p,p0,p1,?_⟩
   rcases p2 with p2 | p2
   ·rcases List.mem_append.1 p2 with p2 | p2
    ·exact .inl p2
    ·exact .inr (List.mem_append_right _ p2)
   ·exact .inr (jT _ p2)
theorem BkJ.again (h:BkJ l ⟨se,od,pre++[v]⟩) (hk:v.k≠((flB l v).length:Int)) (hs:(se.getD ((flB l v).getD v.k.toNat 0).toNat ub).b=true):BkJ l ⟨se,od,pre++[⟨v.pos,v.k+1⟩]⟩:=by
 obtain ⟨h1,h2,h3,h4,h5,h6,h7,h8,h9,h10,h11⟩:=h
 have hps:psB ⟨se,od,pre++[v]⟩=psB ⟨se,od,pre++[⟨v.pos,v.k+1⟩]⟩:=by simp [psB]
 rw [hps] at h3 h4 h5 h6 h7 h10 h11
 have hv:=h2 v W149
 refine ⟨h1,fun x hx=>?_,h3,h4,h5,h6,h7,h8,fun x hx y hy=>?_,h10,h11⟩
 ·rcases List.mem_append.1 hx with hx | hx
  ·exact h2 x (jT _ hx)
  ·rw [jI] at hx;subst hx
   show 0≤v.k+1∧v.k+1≤((flB l v).length:Int)
   omega
 ·rcases List.mem_append.1 hx with hx | hx
  ·exact h9 x (jT _ hx) y hy
  ·rw [jI] at hx;subst hx
   have hy:y∈(flB l v).take (v.k+1).toNat:=hy
   rw [show (v.k+1).toNat=v.k.toNat+1 by omega,jN W31,kM] at hy
   rcases hy with hy | hy
   ·exact h9 v W149 y hy
   ·rw [jI] at hy
    rw [Qc (l:=flB l v) W31,← hy] at hs
    exact hs
theorem BkJ.push (hq:∀ i:Nat,i<l.length→∀ x∈flwL (l.getD i ub),0≤x∧x<(l.length:Int)) (h:BkJ l ⟨se,od,pre++[v]⟩) (hk:v.k≠((flB l v).length:Int)) (hs:¬ (se.getD ((flB l v).getD v.k.toNat 0).toNat ub).b=true) :
 BkJ l ⟨se.set ((flB l v).getD v.k.toNat 0).toNat ⟨true⟩,od,pre++[⟨v.pos,v.k+1⟩]++[⟨(flB l v).getD v.k.toNat 0,0⟩]⟩:=by
 obtain ⟨h1,h2,h3,h4,h5,h6,h7,h8,h9,h10,h11⟩:=h
 have hv:=h2 v W149
 have hvp:=h3 v.pos (by simp [psB])
 have hmem:(flB l v).getD v.k.toNat 0∈flB l v:=by rw [Qc (l:=flB l v) W31];exact jQ _
 have hto:=hq v.pos.toNat W31 _ hmem
 have hk2:(flB l v).getD v.k.toNat 0=(flB l v)[v.k.toNat]'W31:=Qc _
 generalize hg:(flB l v).getD v.k.toNat 0=to at *
 have h1':se.length=l.length:=h1
 have hps:psB ⟨se.set to.toNat ⟨true⟩,od,pre++[⟨v.pos,v.k+1⟩]++[⟨to,0⟩]⟩=psB ⟨se,od,pre++[v]⟩++[to]:=by simp [psB]
 have hne:to ∉ od++psB ⟨se,od,pre++[v]⟩:=fun hm=>hs ((h4 to.toNat).2 (by rw [show ((to.toNat:Nat):Int)=to by omega];exact hm))
 have up:∀ i:Nat,(se.getD i ub).b=true→((se.set to.toNat ⟨true⟩).getD i ub).b=true:=fun i hi=>by
  rw [Qr _ _ _ _ _ W31];split
  ·rfl
  ·exact hi
 have kk:((se.set to.toNat ⟨true⟩).getD to.toNat ub).b=true:=by rw [Qr _ _ _ _ _ W31,if_pos rfl]
 have hlast:(psB ⟨se,od,pre++[v]⟩).getD ((psB ⟨se,od,pre++[v]⟩).length-1) 0=v.pos:=by simp [psB,jb]
 have hpos:0<(psB ⟨se,od,pre++[v]⟩).length:=by simp [psB]
 refine ⟨by simpa using h1',fun x hx=>?_,fun x hx=>?_,fun i=>?_,?_,fun _=>?_,fun e=>?_,fun x hx y hy=>up _ (h8 x hx y hy),fun x hx y hy=>?_,fun i hi=>?_,fun a x b hab hx=>?_⟩
 ·rcases List.mem_append.1 hx with hx | hx
  ·rcases List.mem_append.1 hx with hx | hx
   ·exact h2 x (jT _ hx)
   ·rw [jI] at hx;subst hx
    show 0≤v.k+1∧v.k+1≤((flB l v).length:Int)
    omega
  ·rw [jI] at hx;subst hx
   show (0:Int)≤0∧(0:Int)≤_
   omega
 ·rw [hps,← jH] at hx
  rcases List.mem_append.1 hx with hx | hx
  ·exact h3 x hx
  ·rw [jI] at hx;subst hx;exact hto
 ·rw [hps,← jH,kM,jI,Qr _ _ _ _ _ W31]
  by_cases e:i=to.toNat
  ·subst e;rw [if_pos rfl]
   exact ⟨fun _=>.inr W31,fun _=>rfl⟩
  ·rw [if_neg e,h4 i]
   exact ⟨fun h=>.inl h,fun h=>h.resolve_right W31⟩
 ·rw [hps,← jH]
  exact List.nodup_append.2 ⟨h5,by simp,fun x hx y hy e=>by rw [jI] at hy;subst hy;subst e;exact hne hx⟩
 ·rw [hps,Yw hpos]
  exact h6 (fun e=>by rw [e] at hpos;simp at hpos)
 ·rw [hps] at e;simp at e
 ·rcases List.mem_append.1 hx with hx | hx
  ·rcases List.mem_append.1 hx with hx | hx
   ·exact up _ (h9 x (jT _ hx) y hy)
   ·rw [jI] at hx;subst hx
    have hy:y∈(flB l v).take (v.k+1).toNat:=hy
    rw [show (v.k+1).toNat=v.k.toNat+1 by omega,jN W31,kM] at hy
    rcases hy with hy | hy
    ·exact up _ (h9 v W149 y hy)
    ·rw [jI,← hk2] at hy
     subst hy;exact kk
  ·rw [jI] at hx;subst hx
   have hy:y∈(flB l ⟨to,0⟩).take (0:Int).toNat:=hy
   simp at hy
 ·rw [hps] at hi ⊢
  rw [jl,ki] at hi
  by_cases e:i+1=(psB ⟨se,od,pre++[v]⟩).length
  ·rw [e,Q3w,Yw W31,show i=(psB ⟨se,od,pre++[v]⟩).length-1 by omega,hlast]
   exact hmem
  ·rw [Yw W31,Yw W31]
   exact h10 i W31
 ·obtain ⟨p,p0,p1,p2⟩:=h11 a x b hab hx
  refine ⟨p,p0,p1,?_⟩
  rw [hps]
  rcases p2 with p2 | p2
  ·exact .inl (jT _ p2)
  ·exact .inr p2
end
theorem Qij {α:Type} {d:α} {st:List α} (h:st.length≠0):st=st.take (st.length-1)++[st.getD (st.length-1) d]:=by
 rw [Qc W31]
 rw [List.take_append_getElem W31,show st.length-1+1=st.length by omega,List.take_length]
theorem Qik {α:Type} {pre:List α} {v x:α}:(pre++[v]).set ((pre++[v]).length-1) x=pre++[x]:=by simp
theorem Q1j:∀ (a b:List Vis),wtB (a++b)=wtB a+wtB b
 | [],b=>by simp [wtB]
 | x::r,b=>by simp only [List.cons_append,wtB,Q1j r b];omega
def BkS (l:List Nod) (s:Bk):Prop:=BkJ l s∧∃ k,msB s≤k∧bkGo l k s=bkF l
theorem BkJ.step {l:List Nod} (hq:∀ i:Nat,i<l.length→∀ x∈flwL (l.getD i ub),0≤x∧x<(l.length:Int)) {s:Bk} (h:BkJ l s) (h0:s.st.length≠0):BkJ l (bkStep l s)∧msB (bkStep l s)<msB s:=by
 obtain ⟨se,od,st⟩:=s
 have h0:st.length≠0:=h0
 have hsp:=Qij (d:=ub) h0
 generalize hpre:st.take (st.length-1)=pre at hsp
 generalize hv:st.getD (st.length-1) ub=v at hsp
 have htop:topB ⟨se,od,st⟩=v:=hv
 have hset:∀ x,st.set (st.length-1) x=pre++[x]:=fun x=>by rw [hsp];exact Qik
 have hbk:=h
 rw [hsp] at hbk
 have hvk:=hbk.st v W149
 have htwo:=Yv (l.getD v.pos.toNat ub)
 have hms:msB ⟨se,od,st⟩=4 * falses se+(wtB pre+(3-v.k.toNat)):=by
  show 4 * falses se+wtB st=_
  rw [hsp,Q1j];simp [wtB]
 have hfl:(flB l v).length≤2:=htwo
 unfold bkStep
 rw [htop]
 split
 ·rename_i hk
  show BkJ l ⟨se,od++[v.pos],st.take (st.length-1)⟩∧msB ⟨se,od++[v.pos],st.take (st.length-1)⟩<_
  rw [hpre,hms]
  refine ⟨hbk.finish hk,?_⟩
  show 4 * falses se+wtB pre<_
  omega
 ·rename_i hk
  split
  ·rename_i hs
   show BkJ l ⟨se,od,st.set (st.length-1) ⟨v.pos,v.k+1⟩⟩∧msB ⟨se,od,st.set (st.length-1) ⟨v.pos,v.k+1⟩⟩<_
   rw [hset,hms]
   refine ⟨hbk.again hk hs,?_⟩
   show 4 * falses se+wtB (pre++[⟨v.pos,v.k+1⟩])<_
   rw [Q1j]
   simp only [wtB]
   omega
  ·rename_i hs
   show BkJ l ⟨se.set ((flB l v).getD v.k.toNat 0).toNat ⟨true⟩,od,st.set (st.length-1) ⟨v.pos,v.k+1⟩++[⟨(flB l v).getD v.k.toNat 0,0⟩]⟩∧msB ⟨se.set ((flB l v).getD v.k.toNat 0).toNat ⟨true⟩,od,st.set (st.length-1) ⟨v.pos,v.k+1⟩++[⟨(flB l v).getD v.k.toNat 0,0⟩]⟩<_
   rw [hset,hms]
   refine ⟨hbk.push hq hk hs,?_⟩
   have hmem:(flB l v).getD v.k.toNat 0∈flB l v:=by rw [Qc (l:=flB l v) W31];exact jQ _
   have hto:=hq v.pos.toNat (by have:=hbk.od v.pos (by simp [psB]);omega) _ hmem
   have hlen:se.length=l.length:=hbk.len
   have hf:=Gi (l:=se) (i:=((flB l v).getD v.k.toNat 0).toNat) W31 (by simpa using hs)
   show 4 * falses (se.set ((flB l v).getD v.k.toNat 0).toNat ⟨true⟩)+wtB (pre++[⟨v.pos,v.k+1⟩]++[⟨(flB l v).getD v.k.toNat 0,0⟩])<_
   rw [Q1j,Q1j]
   simp only [wtB]
   have:(3-(0:Int).toNat)=3:=rfl
   omega
theorem BkS.next {l:List Nod} (hq:∀ i:Nat,i<l.length→∀ x∈flwL (l.getD i ub),0≤x∧x<(l.length:Int)) {s:Bk} (h:BkS l s) (h0:s.st.length≠0):BkS l (bkStep l s)∧msB (bkStep l s)<msB s:=by
 obtain ⟨h1,k,h2,h3⟩:=h
 obtain ⟨g1,g2⟩:=h1.step hq h0
 refine ⟨⟨g1,k-1,by omega,?_⟩,g2⟩
 rw [show k=(k-1)+1 by omega] at h3
 unfold bkGo at h3
 rwa [if_neg h0] at h3
theorem BkS.done {l:List Nod} {s:Bk} (h:BkS l s) (h0:s.st.length=0):bkF l=s:=by
 obtain ⟨_,k,_,h3⟩:=h
 rw [← h3]
 cases k with
 | zero=>rfl
 | succ k=>unfold bkGo;rw [if_pos h0]
theorem BkJ.start {l:List Nod} (h:0<l.length):BkJ l (bk0 l):=by
 have g:∀ i,((bk0 l).se.getD i ub).b=true↔i=0:=fun i=>by
  show (((ji l.length (Bo.mk false)).set 0 (Bo.mk true)).getD i ub).b=true↔i=0
  rw [Qr _ _ _ _ _ W183]
  by_cases e:i=0
  ·simp [e]
  ·rw [if_neg e,jb,j7]
   split
   ·simp [e]
   ·simp only [e,iff_false];decide
 refine ⟨by simp [bk0],fun v hv=>?_,fun x hx=>?_,fun i=>?_,by simp [bk0,psB],fun _=>rfl,fun e=>by simp [bk0,psB] at e,fun x hx=>by simp [bk0] at hx,fun v hv y hy=>?_,fun i hi=>by simp [bk0,psB] at hi,fun a x b hab=>by simp [bk0] at hab⟩
 ·simp [bk0] at hv;subst hv
  show (0:Int)≤0∧(0:Int)≤_
  omega
 ·simp [bk0,psB] at hx;subst hx;omega
 ·rw [g];simp [bk0,psB]
 ·simp [bk0] at hv;subst hv;simp at hy
theorem BkS.start {l:List Nod} (h:0<l.length):BkS l (bk0 l):=⟨.start h,_,jm _,rfl⟩
theorem Q7q {l:List Nod} (hq:∀ i:Nat,i<l.length→∀ x∈flwL (l.getD i ub),0≤x∧x<(l.length:Int)):∀ (k:Nat) (s:Bk),msB s≤k→BkJ l s→BkJ l (bkGo l k s)∧(bkGo l k s).st=[]
 | 0,s,h,hj=>by
   refine ⟨hj,?_⟩
   show s.st=[]
   cases hst:s.st with
   | nil=>rfl
   | cons v r =>
     have h1:wtB s.st=0:=by unfold msB at h;omega
     rw [hst] at h1
     unfold wtB at h1
     have h2:=hj.st v (by rw [hst];simp)
     have h3:(flB l v).length≤2:=Yv _
     omega
 | k+1,s,h,hj=>by
   unfold bkGo
   split
   ·rename_i e;exact ⟨hj,kh e⟩
   ·rename_i e
    obtain ⟨g1,g2⟩:=hj.step hq e
    exact Q7q hq k _ W31 g1
def ordL (l:List Nod):List Int:=(bkF l).od.reverse
def plcU (o:List Int) (n:Nat):Nat→List Int
 | 0=>ji n 0
 | i+1=>(plcU o n i).set (o.getD i 0).toNat i
def plcL (l:List Nod):List Int:=plcU (ordL l) l.length (ordL l).length
theorem Q2e (o:List Int) (n:Nat):∀ i,(plcU o n i).length=n
 | 0=>by simp [plcU]
 | i+1=>by rw [plcU,jt,Q2e o n i]
theorem Qax {o:List Int} {n:Nat} (hr:∀ x∈o,0≤x∧x<(n:Int)) (hn:o.Nodup):∀ i,i≤o.length→∀ j,j<i→(plcU o n i).getD (o.getD j 0).toNat 0=j
 | 0,_,j,hj=>absurd hj W31
 | i+1,hi,j,hj=>by
   have hm:∀ k,k<o.length→o.getD k 0∈o:=fun k hk=>by rw [Qc hk];exact jQ _
   have h1:=hr _ (hm i W31)
   unfold plcU
   rw [Qr _ _ _ _ _ (by rw [Q2e];omega)]
   by_cases e:j=i
   ·subst e;rw [if_pos rfl]
   ·have h2:=hr _ (hm j W31)
    rw [if_neg (fun h=>e ?_)]
    ·exact Qax hr hn i W31 j W31
    ·have h3:o.getD j 0=o.getD i 0:=by omega
     rw [Qc W31,Qc W31] at h3
     exact absurd h3 (List.pairwise_iff_getElem.1 hn j i W31 W31 W31)
theorem Qil (l:List Vis) (k:Nat):∀ i,i<(l.take k).length→((l.take k).getD i ub).tc=(l.getD i ub).tc:=fun i hi=>by
 have h:i<k:=by simp at hi;omega
 rw [jb,jb,List.getElem?_take_of_lt h]
theorem nb1 {b:Bool} (h:(!b)=false):b=true:=by cases b<;>simp at h ⊢
theorem nb2 {b:Bool} (h:(!b)=true):¬ b=true:=by cases b<;>simp at h ⊢
theorem Qen (n:Nat):∀ i,i<(ji n (0:Int)).length→i64T ((ji n (0:Int)).getD i 0)=fun j=>valT (jf ja 0).cells.toList j:=fun i hi=>by
 rw [Qc hi,List.getElem_replicate]
 first | rfl | (funext j;first | rfl | (rcases j with _ | j<;>first | rfl | simp [i64T,nthT,nth,valT,Value.cells]))
theorem Qk7 (l:List Vis) (k:Nat) (x:Int):∀ i,i<(l.set k ⟨(l.getD k ub).pos,x⟩).length→((l.set k ⟨(l.getD k ub).pos,x⟩).getD i ub).tc=updT (fun i=>(l.getD i ub).tc) k 1 [.int .i64 x] i:=
 Zf ub Vis.tc l k 1 _ _ (fun j=>by rcases j with _ | _ | j<;>simp [Vis.tc,Vis.tl,nthT,nth])
theorem Qnd (l:List Vis) (k:Nat) (x:Int) (v:Vis):∀ i,i<(l.set k ⟨(l.getD k ub).pos,x⟩++[v]).length→i≠l.length→((l.set k ⟨(l.getD k ub).pos,x⟩++[v]).getD i ub).tc=updT (fun i=>(l.getD i ub).tc) k 1 [.int .i64 x] i:=fun i hi hn=>by
 have h:i<(l.set k ⟨(l.getD k ub).pos,x⟩).length:=by simp at hi ⊢;omega
 exact (congrArg Vis.tc (Yw h)).trans (Qk7 l k x i h)
theorem Ql2 (l:List Vis) (k:Nat) (x v:Vis):(l.set k x++[v]).getD l.length ub=v:=by
 have h:=Q3w (d:=(ub:Vis)) (a:=l.set k x) (x:=v)
 rwa [jt] at h
def tpB (st:List Vis):Vis:=st.getD ((st.length:Int)-1).toNat ub
theorem Qay (s:Bk) (h:s.st.length≠0):tpB s.st=topB s:=by
 unfold tpB topB
 rw [show ((s.st.length:Int)-1).toNat=s.st.length-1 by omega]
theorem BkS.facts {l:List Nod} {se:List Bo} {od:List Int} {st:List Vis} (h:BkS l ⟨se,od,st⟩):se.length=l.length∧od.length≤l.length∧st.length≤l.length∧(st.length≠0→0≤(tpB st).pos∧(tpB st).pos<(l.length:Int)∧0≤(tpB st).k∧(tpB st).k≤((flwL (l.getD (tpB st).pos.toNat ub)).length:Int)):=by
 have z:=Q07 l.length _ h.1.nd h.1.od
 simp only [psB,jl,jK] at z
 refine ⟨h.1.len,by omega,by omega,fun h0=>?_⟩
 have hm:tpB st∈st:=by
  unfold tpB
  rw [Qc W31]
  exact jQ _
 have h1:=h.1.od (tpB st).pos (List.mem_append_right _ (List.mem_map.2 ⟨_,hm,rfl⟩))
 have h2:=h.1.st _ hm
 exact ⟨h1.1,h1.2,h2.1,h2.2⟩
theorem BkS.n1 {l:List Nod} (hq:∀ i:Nat,i<l.length→∀ x∈flwL (l.getD i ub),0≤x∧x<(l.length:Int)) {se:List Bo} {od:List Int} {st:List Vis} (h:BkS l ⟨se,od,st⟩) (h0:(0:Int)<(st.length:Int)) (hk:(tpB st).k=((flwL (l.getD (tpB st).pos.toNat ub)).length:Int)):BkS l ⟨se,od++[(tpB st).pos],st.take (st.length-1)⟩∧msB ⟨se,od++[(tpB st).pos],st.take (st.length-1)⟩<msB ⟨se,od,st⟩:=by
 have z:=h.next hq W179
 have e:=Qay ⟨se,od,st⟩ W179
 unfold bkStep flB at z
 rw [← e] at z
 rwa [if_pos hk] at z
theorem BkS.n2 {l:List Nod} (hq:∀ i:Nat,i<l.length→∀ x∈flwL (l.getD i ub),0≤x∧x<(l.length:Int)) {se:List Bo} {od:List Int} {st:List Vis} (h:BkS l ⟨se,od,st⟩) (h0:(0:Int)<(st.length:Int)) (hk:¬ (tpB st).k=((flwL (l.getD (tpB st).pos.toNat ub)).length:Int)) (hs:(se.getD ((flwL (l.getD (tpB st).pos.toNat ub)).getD (tpB st).k.toNat 0).toNat ub).b=true):BkS l ⟨se,od,st.set ((st.length:Int)-1).toNat ⟨(tpB st).pos,(tpB st).k+1⟩⟩∧msB ⟨se,od,st.set ((st.length:Int)-1).toNat ⟨(tpB st).pos,(tpB st).k+1⟩⟩<msB ⟨se,od,st⟩:=by
 have z:=h.next hq W179
 have e:=Qay ⟨se,od,st⟩ W179
 unfold bkStep flB at z
 rw [← e] at z
 rw [if_neg hk,if_pos hs] at z
 rwa [show ((st.length:Int)-1).toNat=st.length-1 by omega]
theorem BkS.n3 {l:List Nod} (hq:∀ i:Nat,i<l.length→∀ x∈flwL (l.getD i ub),0≤x∧x<(l.length:Int)) {se:List Bo} {od:List Int} {st:List Vis} (h:BkS l ⟨se,od,st⟩) (h0:(0:Int)<(st.length:Int)) (hk:¬ (tpB st).k=((flwL (l.getD (tpB st).pos.toNat ub)).length:Int)) (hs:¬ (se.getD ((flwL (l.getD (tpB st).pos.toNat ub)).getD (tpB st).k.toNat 0).toNat ub).b=true):BkS l ⟨se.set ((flwL (l.getD (tpB st).pos.toNat ub)).getD (tpB st).k.toNat 0).toNat ⟨true⟩,od,st.set ((st.length:Int)-1).toNat ⟨(tpB st).pos,(tpB st).k+1⟩++[⟨(flwL (l.getD (tpB st).pos.toNat ub)).getD (tpB st).k.toNat 0,0⟩]⟩∧msB ⟨se.set ((flwL (l.getD (tpB st).pos.toNat ub)).getD (tpB st).k.toNat 0).toNat ⟨true⟩,od,st.set ((st.length:Int)-1).toNat ⟨(tpB st).pos,(tpB st).k+1⟩++[⟨(flwL (l.getD (tpB st).pos.toNat ub)).getD (tpB st).k.toNat 0,0⟩]⟩<msB ⟨se,od,st⟩:=by
 have z:=h.next hq W179
 have e:=Qay ⟨se,od,st⟩ W179
 unfold bkStep flB at z
 rw [← e] at z
 rw [if_neg hk,if_neg hs] at z
 rwa [show ((st.length:Int)-1).toNat=st.length-1 by omega]
theorem BkS.ord {l:List Nod} {se:List Bo} {od:List Int} {st:List Vis} (h:BkS l ⟨se,od,st⟩) {i:Nat} (hi:i<od.reverse.length):0≤od.reverse.getD i 0∧od.reverse.getD i 0<(l.length:Int):=by
 refine h.1.od _ (jT _ (List.mem_reverse.1 ?_))
 rw [Qc hi]
 exact jQ _
theorem Q1k {l:List Nod} (hq:∀ i:Nat,i<l.length→∀ x∈flwL (l.getD i ub),0≤x∧x<(l.length:Int)) (h:0<l.length):(∀ x∈ordL l,0≤x∧x<(l.length:Int))∧(ordL l).Nodup∧(ordL l).length≤l.length:=by
 have z:=(Q7q hq (msB (bk0 l)) _ (jm _) (.start h)).1
 have h1:∀ x∈ordL l,0≤x∧x<(l.length:Int):=fun x hx=>z.od x (jT _ (List.mem_reverse.1 hx))
 have h2:(ordL l).Nodup:=List.pairwise_reverse.2 ((List.nodup_append.1 z.nd).1.imp fun h=>Ne.symm h)
 exact ⟨h1,h2,Q07 _ _ h2 h1⟩
theorem Qg2 (l:List Int) (a b:Nat) (x y:Int):∀ i,i<((l.set a x).set b y).length→i64T (((l.set a x).set b y).getD i 0)=updT (updT (fun i=>i64T (l.getD i 0)) a 0 [.int .i64 x]) b 0 [.int .i64 y] i:=by
 intro i hi
 rw [Qq (l.set a x) b y i hi]
 have h:=Qq l a x i W203
 funext j
 show (if _ then _ else i64T ((l.set a x).getD i 0) j)=if _ then _ else updT (fun i=>i64T (l.getD i 0)) a 0 [.int .i64 x] i j
 rw [h]
def RevJ (l x:List Int) (i j:Int):Prop:=x.length=l.length∧0≤i∧i+j=(l.length:Int)-1∧i≤j+1∧∀ k:Nat,k<l.length→x.getD k 0=if (k:Int)<i∨j<(k:Int) then l.getD (l.length-1-k) 0 else l.getD k 0
theorem RevJ.start (l:List Int):RevJ l l 0 ((l.length:Int)-1):=⟨rfl,jA _,by omega,by omega,fun k hk=>by rw [if_neg W31]⟩
theorem RevJ.next {l x:List Int} {i j:Int} (h:RevJ l x i j) (hij:i<j):RevJ l ((x.set i.toNat (x.getD j.toNat 0)).set j.toNat (x.getD i.toNat 0)) (i+1) (j-1):=by
 obtain ⟨h1,h2,h3,h4,h5⟩:=h
 refine ⟨by simpa using h1,by omega,by omega,by omega,fun k hk=>?_⟩
 rw [Qr _ _ _ _ _ W130,Qr _ _ _ _ _ W31]
 have hi:=h5 i.toNat W31
 have hj:=h5 j.toNat W31
 rw [if_neg W31] at hi hj
 by_cases e1:k=j.toNat
 ·subst e1
  rw [if_pos rfl,hi,if_pos W31]
  congr 1;omega
 ·rw [if_neg e1]
  by_cases e2:k=i.toNat
  ·subst e2
   rw [if_pos rfl,hj,if_pos W31]
   congr 1;omega
  ·rw [if_neg e2,h5 k hk]
   by_cases c:(k:Int)<i∨j<(k:Int)
   ·rw [if_pos c,if_pos W31]
   ·rw [if_neg c,if_neg W31]
theorem RevJ.done {l x:List Int} {i j:Int} (h:RevJ l x i j) (hij:j≤i):x=l.reverse:=by
 obtain ⟨h1,h2,h3,h4,h5⟩:=h
 refine List.ext_getElem W133 fun k hk hk'=>?_
 have:=h5 k W31
 rw [Qc hk] at this
 rw [this,List.getElem_reverse]
 split
 ·rw [Qc W31]
 ·rename_i c
  rw [Qc W31]
  congr 1;omega
section
def MtS (U:List Int) (x:Int):Prop:=0≤x∧x<(U.length:Int)∧0≤U.getD x.toNat 0
structure MtH (P U:List Int):Prop where
 len:P.length=U.length
 pos:∀ x,MtS U x→0≤P.getD x.toNat 0
 up:∀ x,MtS U x→0<P.getD x.toNat 0→MtS U (U.getD x.toNat 0)∧P.getD (U.getD x.toNat 0).toNat 0<P.getD x.toNat 0
 one:∀ x y,MtS U x→MtS U y→P.getD x.toNat 0=P.getD y.toNat 0→x=y
def mtG (P U:List Int):Nat→Int→Int→Int
 | 0,a,_=>a
 | k+1,a,b=>if a=b then a else if P.getD b.toNat 0<P.getD a.toNat 0 then mtG P U k (U.getD a.toNat 0) b else mtG P U k a (U.getD b.toNat 0)
def mtF (P U:List Int) (a b:Int):Int:=mtG P U (P.getD a.toNat 0+P.getD b.toNat 0).toNat a b
def MtJ (P U:List Int) (a b x y:Int):Prop:=MtS U x∧MtS U y∧∃ k:Nat,P.getD x.toNat 0+P.getD y.toNat 0≤k∧mtG P U k x y=mtF P U a b
variable {P U:List Int} {a b x y:Int}
theorem nb3 {b:Bool} (h:(!b)=true):b=false:=by cases b<;>simp at h ⊢
theorem MtJ.start (ha:MtS U a) (hb:MtS U b):MtJ P U a b a b:=⟨ha,hb,_,by omega,rfl⟩
theorem MtJ.one (hM:MtH P U) (h:MtJ P U a b x y) (hl:P.getD y.toNat 0<P.getD x.toNat 0):MtJ P U a b (U.getD x.toNat 0) y∧P.getD (U.getD x.toNat 0).toNat 0<P.getD x.toNat 0∧0≤P.getD (U.getD x.toNat 0).toNat 0:=by
 obtain ⟨h1,h2,k,h3,h4⟩:=h
 have h5:=hM.pos y h2
 have h6:=hM.up x h1 W31
 refine ⟨⟨h6.1,h2,?_⟩,h6.2,hM.pos _ h6.1⟩
 match k,h3,h4 with
 | 0,h3,_=>exact absurd h3 W31
 | k+1,h3,h4 =>
   refine ⟨k,by omega,?_⟩
   rw [← h4]
   conv=>rhs;unfold mtG
   rw [if_neg (by rintro rfl;omega),if_pos hl]
theorem MtJ.two (hM:MtH P U) (h:MtJ P U a b x y) (hl:P.getD x.toNat 0<P.getD y.toNat 0):MtJ P U a b x (U.getD y.toNat 0)∧P.getD (U.getD y.toNat 0).toNat 0<P.getD y.toNat 0∧0≤P.getD (U.getD y.toNat 0).toNat 0:=by
 obtain ⟨h1,h2,k,h3,h4⟩:=h
 have h5:=hM.pos x h1
 have h6:=hM.up y h2 W31
 refine ⟨⟨h1,h6.1,?_⟩,h6.2,hM.pos _ h6.1⟩
 match k,h3,h4 with
 | 0,h3,_=>exact absurd h3 W31
 | k+1,h3,h4 =>
   refine ⟨k,by omega,?_⟩
   rw [← h4]
   conv=>rhs;unfold mtG
   rw [if_neg (by rintro rfl;omega),if_neg W31]
theorem MtJ.done (h:MtJ P U a b x y) (e:x=y):mtF P U a b=x:=by
 obtain ⟨_,_,k,_,h4⟩:=h
 rw [← h4]
 subst e
 cases k with
 | zero=>rfl
 | succ k=>unfold mtG;rw [if_pos rfl]
end
section
def idxF:List Int→Int→Int→Int
 | [],_,_=>-1
 | x::r,v,k=>if v=x then k else idxF r v (k+1)
theorem Q8t (x v k:Int) (r:List Int):idxF (x::r) v k=if v=x then k else idxF r v (k+1):=rfl
def idxJ (l:List Int) (v x:Int):Prop:=0≤x∧x≤(l.length:Int)∧idxF l v 0=idxF (l.drop x.toNat) v x
theorem idxJ.start (l:List Int) (v:Int):idxJ l v 0:=⟨jA _,by omega,rfl⟩
theorem Qg3 {l:List Int} {x:Int} (h0:0≤x) (h:x<(l.length:Int)):l.drop x.toNat=l.getD x.toNat 0::l.drop (x+1).toNat:=by
 rw [show (x+1).toNat=x.toNat+1 by omega,kF (show x.toNat<l.length by omega),Qc (show x.toNat<l.length by omega)]
theorem idxJ.next {l:List Int} {v x:Int} (h:idxJ l v x) (hx:x<(l.length:Int)) (hn:¬ v=l.getD x.toNat 0):idxJ l v (x+1):=by
 obtain ⟨h1,h2,h3⟩:=h
 refine ⟨by omega,by omega,?_⟩
 rw [h3,Qg3 h1 hx,Q8t]
 rw [if_neg hn]
theorem idxJ.found {l:List Int} {v x:Int} (h:idxJ l v x) (hx:x<(l.length:Int)) (hn:v=l.getD x.toNat 0):idxF l v 0=x:=by
 obtain ⟨h1,h2,h3⟩:=h
 rw [h3,Qg3 h1 hx,Q8t]
 rw [if_pos hn]
theorem idxJ.done {l:List Int} {v x:Int} (h:idxJ l v x) (hx:¬ x<(l.length:Int)):idxF l v 0=-1:=by
 obtain ⟨h1,h2,h3⟩:=h
 rw [h3,kq W31]
 rfl
theorem Qaz:∀ (l:List Int) (v k:Int),0≤k→(0≤idxF l v k↔v∈l)
 | [],v,k,_=>by unfold idxF;simp
 | x::r,v,k,hk=>by
   unfold idxF
   split
   ·rename_i e;subst e;simp [hk]
   ·rename_i e
    rw [Qaz r v (k+1) W31]
    simp [e]
structure UpH (P U:List Int):Prop where
 len:P.length=U.length
 pos:∀ x:Int,0≤x→x<(U.length:Int)→0≤P.getD x.toNat 0
 up:∀ x:Int,0≤x→x<(U.length:Int)→U.getD x.toNat 0<(U.length:Int)∧(0≤U.getD x.toNat 0→P.getD (U.getD x.toNat 0).toNat 0<P.getD x.toNat 0)
def upM (P:List Int) (y:Int):Nat:=if 0≤y then (P.getD y.toNat 0).toNat+1 else 0
def upG (U:List Int) (x:Int):Nat→Int→Bool
 | 0,_=>false
 | k+1,y=>if y<0 then false else if y=x then true else upG U x k (U.getD y.toNat 0)
def upF (P U:List Int) (x y:Int):Bool:=upG U x (upM P y) y
def upJ (P U:List Int) (x b y:Int):Prop:=y<(U.length:Int)∧∃ k:Nat,upM P y≤k∧upG U x k y=upF P U x b
variable {P U:List Int} {x b y:Int}
theorem upJ.start (h:b<(U.length:Int)):upJ P U x b b:=⟨h,_,jm _,rfl⟩
theorem upJ.next (hM:UpH P U) (h:upJ P U x b y) (h0:0≤y) (hn:¬ y=x):upJ P U x b (U.getD y.toNat 0)∧upM P (U.getD y.toNat 0)<upM P y:=by
 obtain ⟨h1,k,h2,h3⟩:=h
 have h4:=hM.up y h0 h1
 have h5:upM P (U.getD y.toNat 0)<upM P y:=by
  unfold upM
  rw [if_pos h0]
  split
  ·rename_i e
   have h6:=h4.2 e
   have h7:=hM.pos _ e h4.1
   omega
  ·omega
 refine ⟨⟨h4.1,?_⟩,h5⟩
 match k,h2,h3 with
 | 0,h2,_=>exact absurd h2 W31
 | k+1,h2,h3 =>
   refine ⟨k,by omega,?_⟩
   rw [← h3]
   conv=>rhs;unfold upG
   rw [if_neg W31,if_neg hn]
theorem upJ.found (h:upJ P U x b y) (h0:0≤y) (hn:y=x):upF P U x b=true:=by
 obtain ⟨h1,k,h2,h3⟩:=h
 rw [← h3]
 match k,h2 with
 | 0,h2=>unfold upM at h2;rw [if_pos h0] at h2;exact absurd h2 W31
 | k+1,_=>unfold upG;rw [if_neg W31,if_pos hn]
theorem upJ.done (h:upJ P U x b y) (h0:¬ 0≤y):upF P U x b=false:=by
 obtain ⟨h1,k,h2,h3⟩:=h
 rw [← h3]
 match k with
 | 0=>rfl
 | k+1=>unfold upG;rw [if_pos W31]
end
end Go.Proofs.YtnddggenhefaeaaDoor
end
namespace Go.Lv
structure Gr where
 n:Nat
 s:Nat
 re:Nat→Bool
 use:Nat→Nat→Bool
 dfn:Nat→Nat→Bool
 flw:Nat→List Nat
inductive Live (g:Gr):Nat→Nat→Prop
 | use {i s:Nat} (hr:g.re i=true) (h:g.use i s=true):Live g i s
 | pass {i k s:Nat} (hr:g.re i=true) (h:g.dfn i s=false) (hk:k∈g.flw i) (t:Live g k s):Live g i s
abbrev Sets:=Nat→Nat→Bool
def behind (g:Gr) (A:Sets) (i s:Nat):Bool:=(g.flw i).any fun k=>A k s
def ahead (g:Gr) (A:Sets) (i s:Nat):Bool:=g.use i s||(!g.dfn i s&&behind g A i s)
def put (A:Sets) (i:Nat) (r:Nat→Bool):Sets:=fun j=>if j=i then r else A j
structure Inv (g:Gr) (A:Sets):Prop where
 lo:∀ i s,A i s=true→Live g i s
 post:∀ i s,A i s=true→ahead g A i s=true
 off:∀ i,g.re i=false→∀ s,A i s=false
variable {g:Gr} {A:Sets}
theorem Qci {B:Sets} (h:∀ i s,A i s=true→B i s=true) {i s:Nat} (hb:behind g A i s=true):behind g B i s=true:=by
 obtain ⟨k,h1,h2⟩:=List.any_eq_true.1 hb
 exact List.any_eq_true.2 ⟨k,h1,h _ _ h2⟩
theorem Q6r {B:Sets} (h:∀ i s,A i s=true→B i s=true) {i s:Nat} (hb:ahead g A i s=true):ahead g B i s=true:=by
 simp only [ahead,jO,je] at hb ⊢
 rcases hb with hb | ⟨h1,h2⟩
 ·exact .inl hb
 ·exact .inr ⟨h1,Qci h h2⟩
theorem Inv.none (g:Gr):Inv g (fun _ _=>false):=⟨fun _ _ h=>W167,fun _ _ h=>W167,fun _ _ _=>rfl⟩
theorem Inv.put_ (h:Inv g A) {i:Nat} (hr:g.re i=true):Inv g (put A i (ahead g A i)):=by
 have hup:∀ j s,A j s=true→Lv.put A i (ahead g A i) j s=true:=by
  intro j s hj
  unfold Lv.put
  split
  ·rename_i e;subst e;exact h.post _ _ hj
  ·exact hj
 refine ⟨fun j s hj=>?_,fun j s hj=>?_,fun j hj s=>?_⟩
 ·unfold Lv.put at hj
  split at hj
  ·rename_i e;subst e
   simp only [ahead,jO,je,jL] at hj
   rcases hj with hj | ⟨h1,h2⟩
   ·exact .use hr hj
   ·obtain ⟨k,h3,h4⟩:=List.any_eq_true.1 h2
    exact .pass hr h1 h3 (h.lo _ _ h4)
  ·exact h.lo _ _ hj
 ·unfold Lv.put at hj
  split at hj
  ·rename_i e;subst e
   exact Q6r hup hj
  ·exact Q6r hup (h.post _ _ hj)
 ·unfold Lv.put
  split
  ·rename_i e;subst e;rw [hr] at hj;cases hj
  ·exact h.off _ hj _
theorem Inv.done (h:Inv g A) (hfix:∀ i,g.re i=true→∀ s,ahead g A i s=A i s) (i s:Nat):A i s=true↔Live g i s:=by
 refine ⟨h.lo i s,fun t=>?_⟩
 induction t with
 | use hr hu=>rw [← hfix _ hr];simp [ahead,hu]
 | pass hr hd hk t ih=>rw [← hfix _ hr];simp only [ahead,jO,je,hd,Bool.not_false,true_and];exact .inr (List.any_eq_true.2 ⟨_,hk,ih⟩)
def miss1 (r:Nat→Bool):Nat→Nat
 | 0=>0
 | s+1=>(if r s then 0 else 1)+miss1 r s
def miss (S:Nat) (A:Sets):Nat→Nat
 | 0=>0
 | n+1=>miss1 (A n) S+miss S A n
theorem Qb0 {r q:Nat→Bool} (h:∀ s,r s=true→q s=true):∀ S,miss1 q S≤miss1 r S
 | 0=>jm _
 | S+1=>by
   have:=Qb0 h S
   unfold miss1
   by_cases e:r S=true
   ·rw [e,h S e];simpa using this
   ·have e':r S=false:=by simpa using e
    rw [e'];split<;>simp<;>omega
theorem Qb1 {r q:Nat→Bool} (h:∀ s,r s=true→q s=true) {s:Nat} (h1:r s=false) (h2:q s=true):∀ S,s<S→miss1 q S<miss1 r S
 | 0,hs=>absurd hs W31
 | S+1,hs=>by
   unfold miss1
   by_cases e:s=S
   ·subst e;rw [h1,h2];have:=Qb0 h s;simp;omega
   ·have h3:=Qb1 h h1 h2 S W31
    by_cases e1:r S=true
    ·rw [e1,h S e1];simpa using h3
    ·have e':r S=false:=by simpa using e1
     rw [e'];split<;>simp<;>omega
theorem Q4u {S i:Nat} {r:Nat→Bool}:∀ {n:Nat},n≤i→miss S (put A i r) n=miss S A n
 | 0,_=>rfl
 | n+1,h=>by
   unfold miss
   rw [Q4u W31,show put A i r n=A n from if_neg W31]
theorem Qb2 {S i:Nat} {r:Nat→Bool}:∀ {n:Nat},i<n→miss S (put A i r) n+miss1 (A i) S=miss S A n+miss1 r S
 | 0,h=>absurd h W31
 | n+1,h=>by
   unfold miss
   by_cases e:i=n
   ·subst e;rw [Q4u (jm _),show put A i r i=r from if_pos rfl];omega
   ·rw [show put A i r n=A n from if_neg (Ne.symm e)]
    have h9:miss S (put A i r) n+miss1 (A i) S=miss S A n+miss1 r S:=Qb2 (show i<n by omega)
    omega
theorem Inv.fewer (h:Inv g A) {S n i s:Nat} (hi:i<n) (hs:s<S) (hne:ahead g A i s≠A i s):miss S (Lv.put A i (ahead g A i)) n<miss S A n:=by
 have h1:=Qb2 (S:=S) (r:=ahead g A i) (A:=A) hi
 have h3:A i s=false:=by
  cases e:A i s with
  | false=>rfl
  | true=>exact absurd ((h.post i s e).trans e.symm) hne
 have h2:=Qb1 (h.post i) h3 (by cases e:ahead g A i s with
  | true=>rfl
  | false=>exact absurd (e.trans h3.symm) hne) S hs
 omega
end Go.Lv
noncomputable section
namespace Go.Proofs.YtnddggenhefaeaaDoor
open Go Go.Tx
abbrev WW:=Nat→Nat→Int
def joF (W:WW) (l:List Int):Nat→Nat→Int
 | 0=>fun _=>0
 | m+1=>joinW (joF W l m) (W (l.getD m 0).toNat) 65
def dfB (n:Nod):Bool:=decide (n.kind=1)||decide (n.kind=2)||decide (n.kind=4)
def dfF (n:Nod) (w:Nat→Int):Nat→Int:=if dfB n=true then takeW w n.slot else w
def adF (l:List Int) (w:Nat→Int):Nat→Nat→Int
 | 0=>w
 | m+1=>addW (adF l w m) (l.getD m 0)
def beF (l:List Nod) (W:WW) (i:Nat):Nat→Int:=joF W (flrL (l.getD i ub)) (flrL (l.getD i ub)).length
def ahF (l:List Nod) (W:WW) (i:Nat):Nat→Int:=adF (useL (l.getD i ub)) (dfF (l.getD i ub) (beF l W i)) (useL (l.getD i ub)).length
def putW (W:WW) (i:Nat) (r:Nat→Int):WW:=fun k=>if k=i then r else W k
abbrev SETS (ty n:Nat) (W:WW):Reg:=Reg.own ty 65 n (fun i=>wsT (W i)) none
def memW (w:Nat→Int) (s:Nat):Bool:=(w (s / 64)).toNat.testBit (s % 64)
def OkW (w:Nat→Int):Prop:=∀ j,0≤w j∧w j<18446744073709551616
theorem OkW.zero:OkW fun _=>0:=fun j=>⟨jA _,by show (0:Int)<18446744073709551616;omega⟩
theorem Q9m {a b:Int} (ha:0≤a∧a<18446744073709551616) (hb:0≤b∧b<18446744073709551616):bits .or .u64 a b=((a.toNat ||| b.toNat:Nat):Int)∧0≤bits .or .u64 a b∧bits .or .u64 a b<18446744073709551616:=by
 have h:=u64_or a b ha.1 ha.2 hb.1 hb.2
 have hx:a.toNat ||| b.toNat<2 ^ 64:=Nat.or_lt_two_pow W31 W31
 rw [h]
 exact ⟨rfl,by omega,by omega⟩
theorem Qg4 {a b:Int} (ha:0≤a∧a<18446744073709551616) (hb:0≤b∧b<18446744073709551616):bits .andNot .u64 a b=((a.toNat &&& (18446744073709551615-b.toNat):Nat):Int)∧0≤bits .andNot .u64 a b∧bits .andNot .u64 a b<18446744073709551616:=by
 have h:=u64_andNot a b ha.1 ha.2 hb.1 hb.2
 have hx:a.toNat &&& (18446744073709551615-b.toNat)≤a.toNat:=Nat.and_le_left
 rw [h]
 exact ⟨rfl,by omega,by omega⟩
theorem Q48 {k:Int} (h0:0≤k) (h:k<64):∃ p:Nat,p=2 ^ k.toNat∧shlI .u64 1 k=(p:Int)∧p<18446744073709551616:=by
 have h1:(2:Nat) ^ k.toNat<2 ^ 64:=Nat.pow_lt_pow_right W31 W31
 have e:((2:Int) ^ k.toNat)=((2 ^ k.toNat:Nat):Int):=by simp
 unfold shlI
 rw [show IntKind.bits .u64=64 from rfl,kL W31,Int.one_mul,e]
 generalize (2:Nat) ^ k.toNat=p at h1
 refine ⟨p,rfl,?_,h1⟩
 show (p:Int) % 18446744073709551616=p
 omega
theorem Ql3 {w v:Nat→Int} (hw:OkW w) (hv:OkW v) (m:Nat):OkW (joinW w v m):=fun j=>by
 unfold joinW;split
 ·exact (Q9m (hw j) (hv j)).2
 ·exact hw j
theorem Qim {w v:Nat→Int} (hw:OkW w) (hv:OkW v) {s:Nat} (hs:s<4160):memW (joinW w v 65) s=(memW w s||memW v s):=by
 unfold memW joinW
 rw [if_pos W31,(Q9m (hw _) (hv _)).1,kP,Nat.testBit_or]
theorem Gw {k:Int} (h0:0≤k):(k.tdiv 64).toNat=k.toNat / 64∧k.tmod 64=((k.toNat % 64:Nat):Int)∧0≤k.tmod 64∧k.tmod 64<64:=by
 have z1:=kN (b:=64) h0
 have z2:=Int.tmod_eq_emod_of_nonneg (b:=64) h0
 rw [z1,z2]
 omega
theorem Qd1 {k:Int} (h0:0≤k) {s:Nat} (e:k.toNat / 64=s / 64):(k.tmod 64).toNat=s % 64↔(s:Int)=k:=by
 obtain ⟨d1,d2,d3,d4⟩:=Gw h0
 rw [d2]
 omega
theorem Qne {w:Nat→Int} (hw:OkW w) {k:Int} (h0:0≤k):OkW (addW w k):=fun j=>by
 obtain ⟨d1,d2,d3,d4⟩:=Gw h0
 obtain ⟨p,_,o1,o2⟩:=Q48 d3 d4
 unfold addW;split
 ·exact (Q9m (hw _) (by rw [o1];omega)).2
 ·exact hw j
theorem Ql4 {w:Nat→Int} (hw:OkW w) {k:Int} (h0:0≤k) (s:Nat):memW (addW w k) s=(decide ((s:Int)=k)||memW w s):=by
 obtain ⟨d1,d2,d3,d4⟩:=Gw h0
 obtain ⟨p,hp,o1,o2⟩:=Q48 d3 d4
 unfold memW addW
 rw [d1]
 by_cases e:k.toNat / 64=s / 64
 ·rw [if_pos e,(Q9m (hw _) (by rw [o1];omega)).1,kP,Nat.testBit_or,o1,kP,hp,Nat.testBit_two_pow,e,Bool.or_comm]
  congr 1
  exact decide_eq_decide.2 (Qd1 h0 e)
 ·rw [if_neg e]
  have e2:¬ ((s:Int)=k):=by omega
  simp [e2]
theorem Ql5 {w:Nat→Int} (hw:OkW w) {k:Int} (h0:0≤k):OkW (takeW w k):=fun j=>by
 obtain ⟨d1,d2,d3,d4⟩:=Gw h0
 obtain ⟨p,_,o1,o2⟩:=Q48 d3 d4
 unfold takeW;split
 ·exact (Qg4 (hw _) (by rw [o1];omega)).2
 ·exact hw j
theorem Qin {w:Nat→Int} (hw:OkW w) {k:Int} (h0:0≤k) (s:Nat):memW (takeW w k) s=(memW w s&&!decide ((s:Int)=k)):=by
 obtain ⟨d1,d2,d3,d4⟩:=Gw h0
 obtain ⟨p,hp,o1,o2⟩:=Q48 d3 d4
 unfold memW takeW
 rw [d1]
 by_cases e:k.toNat / 64=s / 64
 ·rw [if_pos e,(Qg4 (hw _) (by rw [o1];omega)).1,kP,Nat.testBit_and,o1,kP,e]
  have hx:(18446744073709551615-p:Nat)=2 ^ 64-(p+1):=by omega
  have hl:s % 64<64:=Nat.mod_lt _ W31
  rw [hx,Nat.testBit_two_pow_sub_succ W31,hp,Nat.testBit_two_pow,decide_eq_true hl,k9]
  congr 2
  exact decide_eq_decide.2 (Qd1 h0 e)
 ·rw [if_neg e]
  have e2:¬ ((s:Int)=k):=by omega
  simp [e2]
theorem Qd2 {w:Nat→Int} (hw:OkW w) {k:Int} (h0:0≤k):hasW w k=memW w k.toNat:=by
 obtain ⟨d1,d2,d3,d4⟩:=Gw h0
 have h1:=hw (k.toNat / 64)
 unfold hasW memW
 rw [d1,show shrI .u64 (w (k.toNat / 64)) (k.tmod 64)=(((w (k.toNat / 64)).toNat >>> (k.toNat % 64):Nat):Int) by
  unfold shrI
  rw [show IntKind.bits .u64=64 from rfl,kL W31,d2,kP,Nat.shiftRight_eq_div_pow]
  obtain ⟨A,hA⟩:=Int.eq_ofNat_of_zero_le h1.1
  rw [hA,kP]
  rw [show ((2:Int) ^ (k.toNat % 64))=((2 ^ (k.toNat % 64):Nat):Int) by simp]
  rw [Int.fdiv_eq_ediv_of_nonneg _ (Int.natCast_nonneg _)]
  rfl]
 have h2:(w (k.toNat / 64)).toNat >>> (k.toNat % 64)<18446744073709551616:=by
  rw [Nat.shiftRight_eq_div_pow]
  have:=Nat.div_le_self (w (k.toNat / 64)).toNat (2 ^ (k.toNat % 64))
  omega
 rw [u64_and _ _ (Int.natCast_nonneg _) (by generalize (w (k.toNat / 64)).toNat >>> (k.toNat % 64)=q at h2 ⊢;omega) W31 W31,kP]
 rw [Nat.testBit_eq_decide_div_mod_eq,← Nat.shiftRight_eq_div_pow]
 have h3:(w (k.toNat / 64)).toNat >>> (k.toNat % 64) &&& (1:Int).toNat=((w (k.toNat / 64)).toNat >>> (k.toNat % 64)) % 2:=by
  show _ &&& 1=_
  rw [Nat.and_one_is_mod]
 rw [h3]
 generalize (w (k.toNat / 64)).toNat >>> (k.toNat % 64)=q
 exact decide_eq_decide.2 ⟨fun h=>by omega,fun h=>by omega⟩
theorem Ql6 {w v:Nat→Int} (hw:OkW w) (hv:OkW v) (h:∀ s,s<4160→memW w s=memW v s):∀ j,j<65→w j=v j:=by
 intro j hj
 have e:(w j).toNat=(v j).toNat:=by
  refine Nat.eq_of_testBit_eq fun i=>?_
  by_cases hi:i<64
  ·have:=h (64 * j+i) W31
   unfold memW at this
   rw [show (64 * j+i) / 64=j by omega,show (64 * j+i) % 64=i by omega] at this
   exact this
  ·have h1:(w j).toNat<2 ^ i:=jP (by have:=hw j;show _<2 ^ 64;omega) (Nat.pow_le_pow_right W31 W31)
   have h2:(v j).toNat<2 ^ i:=jP (by have:=hv j;show _<2 ^ 64;omega) (Nat.pow_le_pow_right W31 W31)
   rw [Nat.testBit_lt_two_pow h1,Nat.testBit_lt_two_pow h2]
 have:=hw j;have:=hv j
 omega
theorem Qio {w v:Nat→Int} (h:∀ j,j<65→w j=v j) {s:Nat} (hs:s<4160):memW w s=memW v s:=by
 unfold memW;rw [h _ W31]
theorem Qeo {W:WW} (h:∀ i,OkW (W i)) (l:List Int):∀ m,OkW (joF W l m)
 | 0=>OkW.zero
 | m+1=>Ql3 (Qeo h l m) (h _) 65
theorem Qg5 {W:WW} (h:∀ i,OkW (W i)) (l:List Int) {s:Nat} (hs:s<4160):∀ m,m≤l.length→memW (joF W l m) s=(l.take m).any fun k=>memW (W k.toNat) s
 | 0,_=>by simp [joF,memW]
 | m+1,hm=>by
   rw [joF,Qim (Qeo h l m) (h _) hs,Qg5 h l hs m W31,jN W31,List.any_append,Qc (show m<l.length by omega)]
   simp
theorem Q9n {W:WW} (h:∀ i,OkW (W i)) (l:List Nod) (i:Nat):OkW (beF l W i):=Qeo h _ _
theorem Qnf {W:WW} (h:∀ i,OkW (W i)) (l:List Nod) (i:Nat) {s:Nat} (hs:s<4160):memW (beF l W i) s=(flrL (l.getD i ub)).any fun k=>memW (W k.toNat) s:=by
 unfold beF;rw [Qg5 h _ hs _ (jm _),List.take_length]
theorem Qep {w:Nat→Int} (h:OkW w) (l:List Int) (hl:∀ x∈l,0≤x):∀ m,m≤l.length→OkW (adF l w m)
 | 0,_=>h
 | m+1,hm=>by
   rw [adF]
   exact Qne (Qep h l hl m W31) (hl _ W198)
theorem Qg6 {w:Nat→Int} (h:OkW w) (l:List Int) (hl:∀ x∈l,0≤x) (s:Nat):∀ m,m≤l.length→memW (adF l w m) s=(decide ((s:Int)∈l.take m)||memW w s)
 | 0,_=>by simp [adF]
 | m+1,hm=>by
   rw [adF,Ql4 (Qep h l hl m W31) (hl _ W198),Qg6 h l hl s m W31,jN W31,Qc (show m<l.length by omega)]
   simp only [kM,jI]
   by_cases e:(s:Int)=l[m]
   ·simp [e]
   ·simp [e]
def SlH (l:List Nod):Prop:=∀ i:Nat,i<l.length→(∀ k∈useL (l.getD i ub),0≤k∧k<4160)∧(dfB (l.getD i ub)=true→0≤(l.getD i ub).slot∧(l.getD i ub).slot<4160)
theorem Qk8 {w:Nat→Int} (h:OkW w) {l:List Nod} (hS:SlH l) {i:Nat} (hi:i<l.length):OkW (dfF (l.getD i ub) w):=by
 unfold dfF;split
 ·rename_i e;exact Ql5 h ((hS i hi).2 e).1
 ·exact h
theorem Qk9 {W:WW} (h:∀ i,OkW (W i)) {l:List Nod} (hS:SlH l) {i:Nat} (hi:i<l.length):OkW (ahF l W i):=
 Qep (Qk8 (Q9n h l i) hS hi) _ (fun x hx=>((hS i hi).1 x hx).1) _ (jm _)
theorem Qng {W:WW} (h:∀ i,OkW (W i)) {l:List Nod} (hS:SlH l) {i:Nat} (hi:i<l.length) (s:Nat) :
 memW (ahF l W i) s=(decide ((s:Int)∈useL (l.getD i ub))||(!(dfB (l.getD i ub)&&decide ((l.getD i ub).slot=(s:Int)))&&memW (beF l W i) s)):=by
 unfold ahF
 rw [Qg6 (Qk8 (Q9n h l i) hS hi) _ (fun x hx=>((hS i hi).1 x hx).1) s _ (jm _),List.take_length]
 congr 1
 unfold dfF
 split
 ·rename_i e
  rw [Qin (Q9n h l i) ((hS i hi).2 e).1,e,Bool.and_comm]
  congr 1
  simp only [k9]
  congr 1
  exact decide_eq_decide.2 ⟨fun h=>h.symm,fun h=>h.symm⟩
 ·rename_i e
  have e2:dfB (l.getD i ub)=false:=by simpa using e
  rw [e2];simp
noncomputable def lvG (l:List Nod):Go.Lv.Gr:=⟨l.length,4160,fun i=>decide (i<l.length)&&((rchL l).getD i ub).b,fun i s=>decide ((s:Int)∈useL (l.getD i ub)),fun i s=>dfB (l.getD i ub)&&decide ((l.getD i ub).slot=(s:Int)),fun i=>(flrL (l.getD i ub)).map Int.toNat⟩
def setsF (n:Nat) (W:WW):Go.Lv.Sets:=fun i s=>decide (i<n)&&decide (s<4160)&&memW (W i) s
theorem Q2f {α:Type} {p q:α→Bool}:∀ {l:List α},(∀ x∈l,p x=q x)→l.any p=l.any q
 | [],_=>rfl
 | x::r,h=>by rw [List.any_cons,List.any_cons,h x j5,Q2f fun y hy=>h y (jR _ hy)]
section
variable {l:List Nod} (hq:∀ i:Nat,i<l.length→∀ x∈flwL (l.getD i ub),0≤x∧x<(l.length:Int)) (hS:SlH l) {W V W0:WW}
theorem Qd3 (hq:∀ i:Nat,i<l.length→∀ x∈flwL (l.getD i ub),0≤x∧x<(l.length:Int)) (h:∀ i,OkW (W i)) {i s:Nat} (hi:i<l.length):Go.Lv.behind (lvG l) (setsF l.length W) i s=(decide (s<4160)&&memW (beF l W i) s):=by
 unfold Go.Lv.behind
 show ((flrL (l.getD i ub)).map Int.toNat).any _=_
 rw [List.any_map]
 by_cases hs:s<4160
 ·rw [Qnf h l i hs,decide_eq_true hs,k9]
  refine Q2f ?_
  intro k hk
  have z:=hq i hi k ((Jp _ _).1 hk)
  show (decide (k.toNat<l.length)&&decide (s<4160)&&memW (W k.toNat) s)=_
  rw [decide_eq_true (show k.toNat<l.length by omega),decide_eq_true hs];rfl
 ·rw [decide_eq_false hs,Bool.false_and]
  refine List.any_eq_false.2 fun k hk=>?_
  show ¬ (decide (k.toNat<l.length)&&decide (s<4160)&&memW (W k.toNat) s)=true
  rw [decide_eq_false hs];simp
theorem Q7r (hq:∀ i:Nat,i<l.length→∀ x∈flwL (l.getD i ub),0≤x∧x<(l.length:Int)) (hS:SlH l) (h:∀ i,OkW (W i)) {i s:Nat} (hi:i<l.length):Go.Lv.ahead (lvG l) (setsF l.length W) i s=(decide (s<4160)&&memW (ahF l W i) s):=by
 unfold Go.Lv.ahead
 rw [Qd3 hq h hi,Qng h hS hi]
 show (decide ((s:Int)∈useL (l.getD i ub))||(!(dfB (l.getD i ub)&&decide ((l.getD i ub).slot=(s:Int)))&&(decide (s<4160)&&memW (beF l W i) s)))=_
 by_cases hs:s<4160
 ·simp [hs]
 ·have h1:¬ (s:Int)∈useL (l.getD i ub):=fun hm=>by have:=(hS i hi).1 _ hm;omega
  rw [decide_eq_false h1,decide_eq_false hs];simp
theorem Qip (hq:∀ i:Nat,i<l.length→∀ x∈flwL (l.getD i ub),0≤x∧x<(l.length:Int)) (hS:SlH l) (h:∀ i,OkW (W i)) {i:Nat} (hi:i<l.length):setsF l.length (putW W i (ahF l W i))=Go.Lv.put (setsF l.length W) i (Go.Lv.ahead (lvG l) (setsF l.length W) i):=by
 funext k s
 unfold Go.Lv.put
 by_cases e:k=i
 ·subst e
  rw [if_pos rfl,Q7r hq hS h hi]
  unfold setsF putW
  rw [if_pos rfl,decide_eq_true hi,k9]
 ·rw [if_neg e]
  unfold setsF putW
  rw [if_neg e]
structure LvW (l:List Nod) (W:WW):Prop where
 ok:∀ i,OkW (W i)
 inv:Go.Lv.Inv (lvG l) (setsF l.length W)
def LvFix (l:List Nod) (W V:WW) (lo:Nat):Prop:=∀ k,lo≤k→k<l.length→((rchL l).getD k ub).b=true→(∀ s,s<4160→memW (ahF l W k) s=memW (W k) s)∧V k=beF l W k
noncomputable def lvM (l:List Nod) (W:WW):Nat:=Go.Lv.miss 4160 (setsF l.length W) l.length
structure LvS (l:List Nod) (W0:WW) (i:Int) (ag:Bool) (W V:WW):Prop where
 lo:-1≤i
 hi:i<(l.length:Int)
 w:LvW l W
 le:lvM l W≤lvM l W0
 no:ag=false→W=W0∧LvFix l W V (i+1).toNat
 yes:ag=true→lvM l W<lvM l W0
theorem LvW.start (l:List Nod):LvW l (fun _ _=>0):=⟨fun _=>OkW.zero,by
 have:setsF l.length (fun _ _=>0)=fun _ _=>false:=by funext i s;simp [setsF,memW]
 rw [this];exact .none _⟩
theorem LvS.start (h:LvW l W) (V:WW):LvS l W ((l.length:Int)-1) false W V:=⟨by omega,by omega,h,jm _,fun _=>⟨rfl,fun k h1 h2=>absurd h2 W31⟩,fun h=>absurd h W149⟩
theorem LvS.skip {i:Int} {ag:Bool} (h:LvS l W0 i ag W V) (h0:0≤i) (hr:((rchL l).getD i.toNat ub).b=false):LvS l W0 (i-1) ag W V:=by
 refine ⟨by omega,by have:=h.hi;omega,h.w,h.le,fun hg=>⟨(h.no hg).1,fun k h1 h2 h3=>?_⟩,h.yes⟩
 by_cases e:k=i.toNat
 ·subst e;rw [hr] at h3;cases h3
 ·exact (h.no hg).2 k W31 h2 h3
theorem LvS.same {i:Int} {ag:Bool} (h:LvS l W0 i ag W V) (h0:0≤i) (e:∀ j,j<65→ahF l W i.toNat j=W i.toNat j):LvS l W0 (i-1) ag W (putW V i.toNat (beF l W i.toNat)):=by
 refine ⟨by omega,by have:=h.hi;omega,h.w,h.le,fun hg=>⟨(h.no hg).1,fun k h1 h2 h3=>?_⟩,h.yes⟩
 by_cases e2:k=i.toNat
 ·subst e2
  exact ⟨fun s hs=>Qio e hs,by unfold putW;rw [if_pos rfl]⟩
 ·have z:=(h.no hg).2 k W31 h2 h3
  exact ⟨z.1,by unfold putW;rw [if_neg e2];exact z.2⟩
theorem LvS.diff (hq:∀ i:Nat,i<l.length→∀ x∈flwL (l.getD i ub),0≤x∧x<(l.length:Int)) (hS:SlH l) {i:Int} {ag:Bool} (h:LvS l W0 i ag W V) (h0:0≤i) (hr:((rchL l).getD i.toNat ub).b=true) (e:¬ ∀ j,j<65→ahF l W i.toNat j=W i.toNat j) (V':WW):LvS l W0 (i-1) true (putW W i.toNat (ahF l W i.toNat)) V':=by
 have hi:=h.hi
 have hin:i.toNat<l.length:=by omega
 have hre:(lvG l).re i.toNat=true:=by show (decide (i.toNat<l.length)&&_)=true;rw [decide_eq_true hin,hr];rfl
 have hp:=Qip hq hS h.w.ok hin
 have hw:LvW l (putW W i.toNat (ahF l W i.toNat)):=⟨fun k=>by unfold putW;split;exact Qk9 h.w.ok hS hin;exact h.w.ok k,by rw [hp];exact h.w.inv.put_ hre⟩
 have hlt:lvM l (putW W i.toNat (ahF l W i.toNat))<lvM l W:=by
  unfold lvM
  rw [hp]
  obtain ⟨s,hs,hne⟩:∃ s,s<4160∧memW (ahF l W i.toNat) s≠memW (W i.toNat) s:=by
   refine Classical.byContradiction fun hn=>e (Ql6 (Qk9 h.w.ok hS hin) (h.w.ok _) fun s hs=>?_)
   exact Classical.byContradiction fun hne=>hn ⟨s,hs,hne⟩
  refine h.w.inv.fewer hin hs ?_
  rw [Q7r hq hS h.w.ok hin]
  unfold setsF
  rw [decide_eq_true hs,decide_eq_true hin]
  simpa using hne
 refine ⟨by omega,by omega,hw,by have:=h.le;omega,fun hg=>absurd hg W149,fun _=>by have:=h.le;omega⟩
theorem LvS.done {i:Int} {ag:Bool} (h:LvS l W0 i ag W V) (h0:¬ 0≤i):LvW l W∧(ag=false→LvFix l W V 0)∧(if ag=true then 1+lvM l W else 0)<1+lvM l W0:=by
 refine ⟨h.w,fun hg=>?_,?_⟩
 ·have z:=(h.no hg).2
  rwa [show (i+1).toNat=0 by omega] at z
 ·split
  ·rename_i e;have:=h.yes e;omega
  ·omega
open Classical in
noncomputable def liveS (l:List Nod):Go.Lv.Sets:=fun i s=>decide (Go.Lv.Live (lvG l) i s)
def LvQ (l:List Nod) (W V:WW):Prop:=∀ i,i<l.length→((rchL l).getD i ub).b=true→OkW (V i)∧∀ s,s<4160→memW (V i) s=Go.Lv.behind (lvG l) (liveS l) i s
theorem LvW.fin (hq:∀ i:Nat,i<l.length→∀ x∈flwL (l.getD i ub),0≤x∧x<(l.length:Int)) (hS:SlH l) (h:LvW l W) (hf:LvFix l W V 0):LvQ l W V:=by
 have hd:∀ i s,setsF l.length W i s=true↔Go.Lv.Live (lvG l) i s:=fun i s=>h.inv.done (fun k hk t=>by
  have hk2:(decide (k<l.length)&&((rchL l).getD k ub).b)=true:=hk
  rw [je] at hk2
  have hkn:=uc hk2.1
  rw [Q7r hq hS h.ok hkn]
  unfold setsF
  rw [decide_eq_true hkn,k9]
  by_cases ht:t<4160
  ·rw [((hf k (kb _) hkn hk2.2).1 t ht)]
  ·rw [decide_eq_false ht];rfl) i s
 have he:setsF l.length W=liveS l:=by
  funext i s
  show _=@decide _ (Classical.propDecidable _)
  cases e:setsF l.length W i s with
  | true=>exact (@decide_eq_true _ (Classical.propDecidable _) ((hd i s).1 e)).symm
  | false=>exact (@decide_eq_false _ (Classical.propDecidable _) (fun t=>by rw [(hd i s).2 t] at e;cases e)).symm
 intro i hi hr
 have z:=(hf i (kb _) hi hr).2
 rw [z]
 refine ⟨Q9n h.ok l i,fun s hs=>?_⟩
 rw [← he,Qd3 hq h.ok hi,decide_eq_true hs,k9]
end
theorem Q1l (w:Nat→Int) {j:Nat} (h:j<65):wsT w j=TC.val (jf .u64 (w j)):=by
 unfold wsT nthT
 rw [Qo,jk,ke h];rfl
theorem Qb3 (w:Nat→Int) {j:Nat} (h:¬ j<65):wsT w j=TC.any:=by
 unfold wsT nthT
 rw [Qo,jX W130]
theorem Qb4 (j:Nat):wsT (fun _=>0) j=valT (ji 65 (jf .u64 0)) j:=by
 unfold valT
 rw [Q0z]
 by_cases h:j<65
 ·rw [Q1l _ h,j7,if_pos h]
 ·rw [Qb3 _ h,j7,if_neg h]
theorem Qg7 (V:WW) (k:Nat) (w:Nat→Int) (i:Nat):wsT (putW V k w i)=updT (fun i=>wsT (V i)) k 0 ((jB 65).map fun j=>jf .u64 (w j)) i:=by
 funext j
 unfold updT putW
 by_cases e:i=k
 ·subst e
  rw [if_pos rfl]
  by_cases hj:j<65
  ·rw [if_pos ⟨rfl,kb _,by simpa using hj⟩,Q1l _ hj,Nat.sub_zero,jb,jk,ke hj];rfl
  ·rw [if_neg W130,Qb3 _ hj];exact (Qb3 _ hj).symm
 ·rw [if_neg e,if_neg (by simp [e])]
def all65 (p:Nat→Bool):Nat→Nat→Bool
 | 0,_=>true
 | n+1,k=>p k&&all65 p n (k+1)
theorem Q2g (p:Nat→Bool):∀ (n k:Nat),all65 p n k=true↔∀ j,k≤j→j<k+n→p j=true
 | 0,k=>⟨fun _ j h1 h2=>absurd h2 W31,fun _=>rfl⟩
 | n+1,k=>by
   unfold all65
   rw [je,Q2g p n (k+1)]
   constructor
   ·rintro ⟨h1,h2⟩ j h3 h4
    by_cases e:j=k
    ·subst e;exact h1
    ·exact h2 j W31 W31
   ·intro h
    exact ⟨h k (jm _) W31,fun j h1 h2=>h j W31 W31⟩
theorem Qd4 {W:WW} {l:List Int} {x:Int} (h:0≤x) (j:Nat):joF W l (x+1).toNat j=joinW (joF W l x.toNat) (W (l.getD x.toNat 0).toNat) 65 j:=by
 rw [show (x+1).toNat=x.toNat+1 by omega];rfl
theorem Qd5 {w:Nat→Int} {l:List Int} {x:Int} (h:0≤x) (j:Nat):adF l w (x+1).toNat j=addW (adF l w x.toNat) (l.getD x.toNat 0) j:=by
 rw [show (x+1).toNat=x.toNat+1 by omega];rfl
theorem Q6s {l:List Nod} {W:WW} {i:Nat} {x:Int} (h:x≤((flrL (l.getD i ub)).length:Int)) (h2:¬ x<((flrL (l.getD i ub)).length:Int)):joF W (flrL (l.getD i ub)) x.toNat=beF l W i:=by
 rw [show x.toNat=(flrL (l.getD i ub)).length by omega];rfl
theorem Q6t {l:List Nod} {W:WW} {i:Nat} {x:Int} (h:x≤((useL (l.getD i ub)).length:Int)) (h2:¬ x<((useL (l.getD i ub)).length:Int)):adF (useL (l.getD i ub)) (dfF (l.getD i ub) (beF l W i)) x.toNat=ahF l W i:=by
 rw [show x.toNat=(useL (l.getD i ub)).length by omega];rfl
def clB (l:List Nod) (R:List Bo) (V:WW) (a b:Int) (i:Nat):Bool:=(R.getD i ub).b&&dfB (l.getD i ub)&&(decide ((l.getD i ub).slot=a)&&hasW (V i) b||decide ((l.getD i ub).slot=b)&&hasW (V i) a)
noncomputable def clF (l:List Nod) (V:WW) (a b:Int):Bool:=!decide (a=b)&&(jB l.length).any (clB l (rchL l) V a b)
theorem Qnh {l:List Nod} {V:WW} {a b:Int} (h:decide (a=b)=true):clF l V a b=false:=by unfold clF;rw [h];rfl
theorem Qiq {l:List Nod} {V:WW} {a b x:Int} (h:decide (a=b)=false) (h0:0≤x) (hx:x<(l.length:Int)) (hc:clB l (rchL l) V a b x.toNat=true):clF l V a b=true:=by
 unfold clF
 rw [h,Bool.not_false,k9]
 exact List.any_eq_true.2 ⟨x.toNat,List.mem_range.2 W31,hc⟩
theorem Qg8 {l:List Nod} {V:WW} {a b x:Int} (hx:¬ x<(l.length:Int)) (hc:∀ k,k<x.toNat→clB l (rchL l) V a b k=false):clF l V a b=false:=by
 unfold clF
 rw [List.any_eq_false.2 (fun k hk=>by rw [hc k (by have:=List.mem_range.1 hk;omega)];decide),Bool.and_false]
theorem Qd6 {P:Nat→Bool} {x:Int} (h0:0≤x) (h:∀ k,k<x.toNat→P k=false) (hx:P x.toNat=false):∀ k,k<(x+1).toNat→P k=false:=fun k hk=>by
 by_cases e:k=x.toNat
 ·subst e;exact hx
 ·exact h k W31
theorem Qir {l:List Nod} {V:WW} {s x:Int} {L:List Int} (h0:0≤x) (hx:x<(L.length:Int)) (hc:clF l V s (L.getD x.toNat 0)=true):(L.any fun k=>clF l V s k)=true:=
 List.any_eq_true.2 ⟨_,Y1 hx h0,hc⟩
theorem Qg9 {l:List Nod} {V:WW} {s x:Int} {L:List Int} (hx:¬ x<(L.length:Int)) (hc:∀ k,k<x.toNat→clF l V s (L.getD k 0)=false):(L.any fun k=>clF l V s k)=false:=
 List.any_eq_false.2 fun k hk=>by
  obtain ⟨i,hi,rfl⟩:=List.mem_iff_getElem.1 hk
  have:=hc i W31
  rw [Qc hi] at this
  rw [this];decide
def slL (n:Nod):List Int:=if dfB n=true then useL n++[n.slot] else useL n
def SlT (l:List Nod) (m:Int):Prop:=∀ i:Nat,i<l.length→∀ s∈slL (l.getD i ub),0≤s∧s<m
def WtQ (l:List Nod) (m:Int) (w:List Int):Prop:=(w.length:Int)=m∧∀ s:Nat,(s:Int)<m→0≤w.getD s 0∧(w.getD s 0≠0↔∃ i,i<l.length∧((rchL l).getD i ub).b=true∧(s:Int)∈slL (l.getD i ub))
def wU (l:List Nod) (i:Nat) (s:Nat):Prop:=∃ j,j<i∧((rchL l).getD j ub).b=true∧(s:Int)∈slL (l.getD j ub)
def WtK (l:List Nod) (m:Int) (i k:Nat) (w:List Int):Prop:=
 w.length=m.toNat∧∀ s:Nat,s<m.toNat→0≤w.getD s 0∧w.getD s 0≤32768 * (i:Int)+4096 * (k:Int)∧(w.getD s 0≠0↔wU l i s∨(s:Int)∈(slL (l.getD i ub)).take k)
def WtI (l:List Nod) (m:Int) (i:Nat) (w:List Int):Prop:=WtK l m i 0 w
theorem WtI.zero {l:List Nod} {m:Int}:WtI l m 0 (ji m.toNat 0):=by
 refine ⟨jG,fun s hs=>?_⟩
 have e:(ji m.toNat (0:Int)).getD s 0=0:=by rw [Qc (by rw [jG];exact hs)];simp
 rw [e]
 refine ⟨by omega,by omega,fun h=>absurd rfl h,fun h=>?_⟩
 rcases h with ⟨j,hj,_⟩ | h
 ·omega
 ·simp at h
theorem Qb5 (n:Nod):(useL n).length≤2:=by
 have v:∀ x:Vl,(vlL x).length≤1:=fun x=>by unfold vlL;split<;>simp
 have a:=v n.a;have b:=v n.b
 unfold useL;split
 ·rw [jl];split
  ·omega
  ·simp;omega
 ·split
  ·omega
  ·simp
theorem Q49 (n:Nod):(slL n).length≤3:=by
 have:=Qb5 n
 unfold slL;split
 ·rw [jl];simp;omega
 ·omega
theorem WtI.skip {l:List Nod} {m:Int} {i:Nat} {w:List Int} (h:WtI l m i w) (hr:((rchL l).getD i ub).b=false):WtI l m (i+1) w:=by
 refine ⟨h.1,fun s hs=>?_⟩
 obtain ⟨a,b,c⟩:=h.2 s hs
 refine ⟨a,by omega,c.trans ?_⟩
 simp only [List.take_zero,kg,or_false]
 constructor
 ·rintro ⟨j,hj,q⟩;exact ⟨j,by omega,q⟩
 ·rintro ⟨j,hj,q⟩
  by_cases e:j=i
  ·subst e;rw [hr] at q;exact absurd q.1 W149
  ·exact ⟨j,by omega,q⟩
theorem WtK.outer {l:List Nod} {m:Int} {i k:Nat} {w:List Int} (h:WtK l m i k w) (hk:(slL (l.getD i ub)).length≤k) (h8:k≤8) (hr:((rchL l).getD i ub).b=true):WtI l m (i+1) w:=by
 refine ⟨h.1,fun s hs=>?_⟩
 obtain ⟨a,b,c⟩:=h.2 s hs
 refine ⟨a,by omega,c.trans ?_⟩
 rw [ky hk]
 simp only [List.take_zero,kg,or_false]
 constructor
 ·rintro (⟨j,hj,q⟩ | q)
  ·exact ⟨j,by omega,q⟩
  ·exact ⟨i,by omega,hr,q⟩
 ·rintro ⟨j,hj,q⟩
  by_cases e:j=i
  ·subst e;exact .inr q.2
  ·exact .inl ⟨j,by omega,q⟩
theorem Q7s {l:List Int} {k:Nat} (h:k<l.length) (x:Int):x∈l.take (k+1)↔x∈l.take k∨x=l.getD k 0:=by
 rw [List.take_add_one,jc h,Qc h,kM];simp
theorem WtK.stay {l:List Nod} {m:Int} {i k:Nat} {w:List Int} (h:WtK l m i k w) (hk:k<(slL (l.getD i ub)).length) (hm:(slL (l.getD i ub)).getD k 0∈(slL (l.getD i ub)).take k):WtK l m i (k+1) w:=by
 refine ⟨h.1,fun s hs=>?_⟩
 obtain ⟨a,b,c⟩:=h.2 s hs
 refine ⟨a,by omega,c.trans ?_⟩
 rw [Q7s hk]
 constructor
 ·rintro (q | q)
  ·exact .inl q
  ·exact .inr (.inl q)
 ·rintro (q | q | q)
  ·exact .inl q
  ·exact .inr q
  ·rw [q];exact .inr hm
theorem WtK.add {l:List Nod} {m c:Int} {i k:Nat} {w:List Int} (h:WtK l m i k w) (hk:k<(slL (l.getD i ub)).length) (h0:0≤(slL (l.getD i ub)).getD k 0∧(slL (l.getD i ub)).getD k 0<m) (hc:1≤c∧c≤4096) :
 WtK l m i (k+1) (w.set ((slL (l.getD i ub)).getD k 0).toNat (w.getD ((slL (l.getD i ub)).getD k 0).toNat 0+c)):=by
 refine ⟨by rw [jt];exact h.1,fun s hs=>?_⟩
 obtain ⟨a,b,d⟩:=h.2 s hs
 rw [Qr _ _ _ _ _ (by rw [h.1];omega),Q7s hk]
 by_cases e:s=((slL (l.getD i ub)).getD k 0).toNat
 ·rw [if_pos e,← e]
  refine ⟨by omega,by omega,fun _=>.inr (.inr W31),fun _=>by omega⟩
 ·rw [if_neg e]
  refine ⟨a,by omega,d.trans ?_⟩
  constructor
  ·rintro (q | q)
   ·exact .inl q
   ·exact .inr (.inl q)
  ·rintro (q | q | q)
   ·exact .inl q
   ·exact .inr q
   ·exact absurd q W31
theorem WtI.bound {l:List Nod} {m:Int} {i k:Nat} {w:List Int} (h:WtK l m i k w) (s:Nat) (hs:s<m.toNat):0≤w.getD s 0∧w.getD s 0≤32768 * (i:Int)+4096 * (k:Int):=⟨(h.2 s hs).1,(h.2 s hs).2.1⟩
theorem WtI.done {l:List Nod} {m:Int} {w:List Int} (h:WtI l m l.length w) (hm:0≤m):WtQ l m w:=by
 refine ⟨by rw [h.1];omega,fun s hs=>?_⟩
 obtain ⟨a,b,c⟩:=h.2 s W31
 refine ⟨a,c.trans ?_⟩
 simp only [List.take_zero,kg,or_false];rfl
theorem Qka (d:Int) (h:0≤d):1≤shlI ja 1 (3 * (if (4:Int)<d then 4 else d))∧shlI ja 1 (3 * (if (4:Int)<d then 4 else d))≤4096:=by
 have:(if (4:Int)<d then 4 else d)=0∨(if (4:Int)<d then 4 else d)=1∨(if (4:Int)<d then 4 else d)=2∨(if (4:Int)<d then 4 else d)=3∨(if (4:Int)<d then 4 else d)=4:=by split<;>omega
 rcases this with e | e | e | e | e<;>rw [e]<;>decide
def OnceF (l:List Int) (s:Int) (j:Nat) (b:Bool):Prop:=b=true↔s ∉ l.take j
theorem OnceF.zero {l:List Int} {s:Int}:OnceF l s 0 true:=by simp [OnceF]
theorem OnceF.next {l:List Int} {s:Int} {j:Nat} {b:Bool} (h:OnceF l s j b) (hj:j<l.length):OnceF l s (j+1) (b&&!decide (s=l.getD j 0)):=by
 unfold OnceF at *
 rw [Q7s hj,je,h];simp
theorem OnceF.done {l:List Int} {s:Int} {j:Nat} {b:Bool} (h:OnceF l s j b) (hj:l.length≤j) (hb:b=false):s∈l:=by
 unfold OnceF at h
 rw [ky hj] at h
 exact Classical.byContradiction fun n=>by rw [hb] at h;exact absurd (h.2 n) W149
theorem Qga {l:List Int} {k i:Nat} (h:i<(l.take k).length):(l.take k).getD i 0=l.getD i 0:=by
 rw [jJ] at h
 rw [Qc (by rw [jJ];omega),List.getElem_take,Qc W31]
theorem Qeq {n:Nod} (h:dfB n=true):slL n=useL n++[n.slot]:=if_pos h
theorem Qkb {n:Nod} (h:dfB n=false):slL n=useL n:=if_neg W197
theorem Qq9 {d:Int} (h:0≤d):0≤(if (4:Int)<d then 4 else d)∧(if (4:Int)<d then 4 else d)≤4:=by split<;>omega
structure Plc where
 cell:Bool
 n:Int
 deriving Inhabited,DecidableEq
def Plc.tl (x:Plc):List TC:=[.val (.bool x.cell),.val (.int .i64 x.n)]
def Plc.tc (x:Plc):Nat→TC:=nthT x.tl
def Plc.cs (x:Plc):List C:=[.b x.cell,.i .i64 x.n]
abbrev Plc.rowR (l:List Plc):Reg:=rowOf 2 Plc.tc l
structure Alc where
 places:List Plc
 cells:Int
 deriving Inhabited,DecidableEq
def Alc.tl (x:Alc):List TC:=[.sub 52 2 (x.places).length (fun i=>Plc.tc ((x.places).getD i ub)),.val (.int .i64 x.cells)]
def Alc.tc (x:Alc):Nat→TC:=nthT x.tl
def Alc.cs (x:Alc) (r_places:Nat):List C:=[.h r_places,.i .i64 x.cells]
abbrev Alc.rowR (l:List Alc):Reg:=rowOf 2 Alc.tc l
def fit1 (c:Int) (p:Plc):Bool:=!(decide (p.n<0)||decide ((if p.cell=true then c else 13)≤p.n))
def fitB (m:Int) (a:Alc):Bool:=decide ((a.places.length:Int)=m)&&!(decide (a.cells<0)||decide (4160<a.cells))&&a.places.all (fit1 a.cells)
theorem Qd7 {m:Int} {a:Alc} (h:fitB m a=true):(a.places.length:Int)=m:=by
 unfold fitB at h;rw [je,je] at h;exact uc h.1.1
theorem Q3x {m:Int} {a:Alc} (h:fitB m a=true):0≤a.cells∧a.cells≤4160:=by
 unfold fitB at h;rw [je,je] at h
 have:=h.1.2
 simp only [jL,j9,decide_eq_false_iff_not] at this
 omega
theorem Qb6 {m:Int} {a:Alc} (h:fitB m a=true) {i:Nat} (hi:i<a.places.length):0≤(a.places.getD i ub).n∧(a.places.getD i ub).n<(if (a.places.getD i ub).cell=true then a.cells else 13):=by
 unfold fitB at h;rw [je] at h
 have:=List.all_eq_true.1 h.2 _ (jQ hi)
 rw [Qc hi]
 unfold fit1 at this
 simp only [jL,j9,decide_eq_false_iff_not] at this
 omega
theorem Qni {m:Int} {a:Alc} {i:Nat} (hi:i<a.places.length) (h:fit1 a.cells (a.places.getD i ub)=false):fitB m a=false:=by
 unfold fitB
 rw [Bool.and_eq_false_iff]
 refine .inr (List.all_eq_false.2 ⟨_,jQ hi,?_⟩)
 rw [Qc hi] at h;rw [h];decide
theorem Ql7 {m:Int} {a:Alc} (h1:(a.places.length:Int)=m) (h2:¬ a.cells<0) (h3:¬ 4160<a.cells) {x:Int} (hx:¬ x<(a.places.length:Int)) (h:∀ k,k<x.toNat→fit1 a.cells (a.places.getD k ub)=true):fitB m a=true:=by
 unfold fitB
 rw [je,je,decide_eq_true h1,decide_eq_false h2,decide_eq_false h3]
 refine ⟨⟨rfl,rfl⟩,List.all_eq_true.2 fun p hp=>?_⟩
 obtain ⟨i,hi,rfl⟩:=List.mem_iff_getElem.1 hp
 have:=h i W31
 rw [Qc hi] at this;exact this
theorem Ql8 {m:Int} {a:Alc} (h:(!decide ((a.places.length:Int)=m)||decide (a.cells<0)||decide (4160<a.cells))=true):fitB m a=false:=by
 unfold fitB
 cases e1:decide ((a.places.length:Int)=m)<;>cases e2:decide (a.cells<0)<;>cases e3:decide (4160<a.cells)<;>simp_all
theorem Qgb {c:Int} {p:Plc} (h:p.cell=true):fit1 c p=!(decide (p.n<0)||decide (c≤p.n)):=by unfold fit1;rw [if_pos h]
theorem Qgc {c:Int} {p:Plc} (h:p.cell=false):fit1 c p=!(decide (p.n<0)||decide (13≤p.n)):=by unfold fit1;rw [if_neg W197]
theorem Q5f {m:Int} {a:Alc} (h:(!decide ((a.places.length:Int)=m)||decide (a.cells<0)||decide (4160<a.cells))=false):(a.places.length:Int)=m∧¬ a.cells<0∧¬ 4160<a.cells:=by
 simp only [j9,kC,decide_eq_true_eq,decide_eq_false_iff_not] at h
 exact ⟨h.1.1,h.1.2,h.2⟩
theorem Qb7 {P:Nat→Bool} {x:Int} (h0:0≤x) (h:∀ k,k<x.toNat→P k=true) (hx:P x.toNat=true):∀ k,k<(x+1).toNat→P k=true:=fun k hk=>by
 by_cases e:k=x.toNat
 ·subst e;exact hx
 ·exact h k W31
end Go.Proofs.YtnddggenhefaeaaDoor
end
namespace Go.Tx
open Go
theorem MT.okv_struct {P : Program} {t k e : Nat} {K : List CK} {fs : Array Field} {z : Value} (ht : P.underlying t = some (.map k e)) (hk : P.underlying k = some (.struct fs)) (hkey : Go.Maps.Keyed P k) (hty : P.keyType k = true) (hn : fs.all (·.name != "_") = true)
 (hp:plainFs P 0 fs.toList K) (hc:P.cellsOf k=K.length) (hs:1≤P.types.size) (hz:∀ w,(zeroValue e).run P w=.ok z w):MT.OkV ⟨P,t,k,e,K,true,[],false⟩ z where
 map:=ht
 key:=hkey
 lit:=fun a ha=>by
  have hcells:(Value.agg (KA.vals K a).toArray).formed P k=true:=by
   simp only [Value.formed,hk]
   simp [KA.vals_len,hc]
  obtain ⟨d,hd⟩:∃ d,P.types.size=d+1:=⟨P.types.size-1,by omega⟩
  obtain ⟨ls,hls⟩:=Q4s (d:=d) hp (cs:=KA.vals K a) (a:=a) rfl ha
  refine ⟨.string (keyBytes ls.flatten),?_⟩
  show keyOf P k (.agg (KA.vals K a).toArray)=_
  unfold keyOf
  simp only [hk,hty,hcells,Bool.and_self,if_true]
  rw [hd]
  show (P.keyLits (d+1+1) k (KA.vals K a)).map _=_
  rw [Q7d hk,if_pos ⟨by rw [hc];exact KA.vals_len K a,hn⟩]
  rw [hls];rfl
 one:=.inl rfl
 zero:=hz
end Go.Tx
noncomputable section
namespace Go.Proofs.YtnddggenhefaeaaDoor
open Go Go.Tx
section
variable {ns nl:Nat} {g:Grf}
theorem GrfQ.q (h:GrfQ ns nl g) (hw:∀ b:Nat,0≤(g.nodes.getD b ub).kind) (i:Nat) (hi:i<g.nodes.length):NodQ ns nl g (g.nodes.getD i ub):=Q5d (h.nod i hi) (hw i)
theorem Qer {n:Nod} {m:Int} {v:Vl} (h:v.slotted=true→0≤v.slot∧v.slot<m):∀ k∈vlL v,0≤k∧k<m:=fun k hk=>by
 unfold vlL at hk;split at hk
 ·rename_i e;rw [jI] at hk;subst hk;exact h e
 ·cases hk
theorem NodQ.use {n:Nod} (h:NodQ ns nl g n):∀ k∈useL n,0≤k∧k<g.slots:=fun k hk=>by
 unfold useL at hk;split at hk
 ·rcases List.mem_append.1 hk with q | q
  ·exact Qer (n:=n) h.a k q
  ·split at q
   ·exact Qer (n:=n) h.b k q
   ·cases q
 ·split at hk
  ·exact Qer (n:=n) h.a k hk
  ·cases hk
theorem NodQ.dfn {n:Nod} (h:NodQ ns nl g n) (hd:dfB n=true):0≤n.slot∧n.slot<g.slots:=h.slot (by
 unfold dfB at hd
 simp only [jO,decide_eq_true_eq] at hd
 omega)
theorem GrfQ.hq (h:GrfQ ns nl g) (hw:∀ b:Nat,0≤(g.nodes.getD b ub).kind):∀ i:Nat,i<g.nodes.length→∀ x∈flwL (g.nodes.getD i ub),0≤x∧x<(g.nodes.length:Int):=fun i hi=>(h.q hw i hi).flw
theorem GrfQ.hk (h:GrfQ ns nl g) (hw:∀ b:Nat,0≤(g.nodes.getD b ub).kind):∀ i:Nat,i<g.nodes.length→1≤(g.nodes.getD i ub).kind∧(g.nodes.getD i ub).kind≤9:=fun i hi=>(h.q hw i hi).k
theorem GrfQ.hT (h:GrfQ ns nl g) (hw:∀ b:Nat,0≤(g.nodes.getD b ub).kind):SlT g.nodes g.slots:=fun i hi s hs=>by
 have n:=h.q hw i hi
 unfold slL at hs;split at hs
 ·rename_i e
  rcases List.mem_append.1 hs with q | q
  ·exact n.use s q
  ·rw [jI] at q;subst q;exact n.dfn e
 ·exact n.use s hs
theorem GrfQ.hS (h:GrfQ ns nl g) (hw:∀ b:Nat,0≤(g.nodes.getD b ub).kind):SlH g.nodes:=fun i hi=>by
 have n:=h.q hw i hi
 have l:=h.loc
 exact ⟨fun k hk=>by have:=n.use k hk;omega,fun e=>by have:=n.dfn e;omega⟩
end
noncomputable def clE (l:List Nod) (a b:Int):Bool:=!decide (a=b)&&(jB l.length).any fun i=>((rchL l).getD i ub).b&&dfB (l.getD i ub)&&(decide ((l.getD i ub).slot=a)&&Go.Lv.behind (lvG l) (liveS l) i b.toNat||decide ((l.getD i ub).slot=b)&&Go.Lv.behind (lvG l) (liveS l) i a.toNat)
theorem Qpc {l:List Nod} {W V:WW} {a b:Int} (h:LvQ l W V) (ha:0≤a∧a<4160) (hb:0≤b∧b<4160):clF l V a b=clE l a b:=by
 unfold clF clE
 congr 1
 refine Q2f fun i hi=>?_
 have hi:=List.mem_range.1 hi
 unfold clB
 cases hr:((rchL l).getD i ub).b with
 | false=>simp
 | true =>
   obtain ⟨h1,h2⟩:=h i hi hr
   have e1:hasW (V i) b=Go.Lv.behind (lvG l) (liveS l) i b.toNat:=by rw [← h2 b.toNat W31];exact Qd2 h1 hb.1
   have e2:hasW (V i) a=Go.Lv.behind (lvG l) (liveS l) i a.toNat:=by rw [← h2 a.toNat W31];exact Qd2 h1 ha.1
   rw [e1,e2]
open Classical in
noncomputable def useS (l:List Nod) (s:Nat):Bool:=decide (∃ i,i<l.length∧((rchL l).getD i ub).b=true∧(s:Int)∈slL (l.getD i ub))
theorem Q5g {l:List Nod} {m:Int} {w:List Int} (h:WtQ l m w) {s:Nat} (hs:(s:Int)<m) (h0:decide (w.getD s 0=0)=false):useS l s=true:=by
 unfold useS;exact decide_eq_true (((h.2 s hs).2).1 (ud h0))
theorem Qd8 {l:List Nod} {m:Int} {w:List Int} (h:WtQ l m w) {s:Nat} (hs:(s:Int)<m) (h0:decide (w.getD s 0=0)=true):useS l s=false:=by
 unfold useS;exact decide_eq_false fun q=>(((h.2 s hs).2).2 q) (uc h0)
noncomputable def atL (l:List Nod) (ps:List Plc) (s:Nat) (p:Bool×Int):List Int:=((jB s).filter fun k=>useS l k&&decide (((ps.getD k ub).cell,(ps.getD k ub).n)=p)).map fun (k:Nat)=>(k:Int)
noncomputable def okS (l:List Nod) (ps:List Plc) (s:Nat):Bool:=(jB s).all fun j=>!useS l j||!((atL l ps j ((ps.getD j ub).cell,(ps.getD j ub).n)).any fun k=>clE l j k)
noncomputable def okF (gs:List Grf) (al:List Alc) (n:Nat):Bool:=(jB n).all fun t=>okS (gs.getD t ub).nodes (al.getD t ub).places (al.getD t ub).places.length
noncomputable def rgtU (sh lk:List Dcl) (gs:List Grf) (al:List Alc):Bool×Int:=
 if (chkU sh lk gs).1≠0 then (false,(chkU sh lk gs).1) else if al.length≠gs.length then (false,150)
 else if (jB gs.length).all (fun t=>fitB (gs.getD t ub).slots (al.getD t ub))=false then (false,150) else (okF gs al gs.length,0)
noncomputable def atM (l:List Nod) (ps:List Plc) (s:Nat):Bool×Int→Nat×(Nat→Nat→TC):=fun p=>((atL l ps s p).length,fun i=>i64T ((atL l ps s p).getD i 0))
theorem Qis {l:List Nod} {ps:List Plc} {s:Nat} (h:useS l s=false) (p:Bool×Int):atL l ps (s+1) p=atL l ps s p:=by
 unfold atL;rw [kz,List.filter_append,kK];simp [h]
theorem Ql9 {l:List Nod} {ps:List Plc} {s:Nat} (h:useS l s=true):atL l ps (s+1) ((ps.getD s ub).cell,(ps.getD s ub).n)=atL l ps s ((ps.getD s ub).cell,(ps.getD s ub).n)++[(s:Int)]:=by
 unfold atL;rw [kz,List.filter_append,kK];simp [h]
theorem Qla {l:List Nod} {ps:List Plc} {s:Nat} {p:Bool×Int} (h:p≠((ps.getD s ub).cell,(ps.getD s ub).n)):atL l ps (s+1) p=atL l ps s p:=by
 have h2:(useS l s&&decide (((ps.getD s ub).cell,(ps.getD s ub).n)=p))=false:=by rw [decide_eq_false (Ne.symm h),Bool.and_false]
 unfold atL
 rw [kz,List.filter_append,kK,List.filter_cons_of_neg (by rw [h2];decide)]
 simp
theorem Qd9 {l:List Nod} {ps:List Plc} {s:Nat} {p:Bool×Int} {x:Int} (h:x∈atL l ps s p):0≤x∧x<(s:Int):=by
 unfold atL at h
 obtain ⟨k,hk,rfl⟩:=List.mem_map.1 h
 have:=List.mem_range.1 (List.mem_filter.1 hk).1
 omega
theorem Zn (l:List Nod) (ps:List Plc) (s:Nat) (p:Bool×Int):(atL l ps s p).length≤s:=by
 unfold atL;rw [jK];exact kj (List.length_filter_le _ _) W149
theorem Qit {l:List Nod} {ps:List Plc} {s:Nat} (h:useS l s=false):okS l ps (s+1)=okS l ps s:=by
 unfold okS;rw [kz,List.all_append];simp [h]
theorem Qda {l:List Nod} {ps:List Plc} {s:Nat} (h:useS l s=true):okS l ps (s+1)=(okS l ps s&&!((atL l ps s ((ps.getD s ub).cell,(ps.getD s ub).n)).any fun k=>clE l s k)):=by
 unfold okS;rw [kz,List.all_append];simp [h]
theorem Qiu {gs:List Grf} {al:List Alc} {n:Nat}:okF gs al (n+1)=(okF gs al n&&okS (gs.getD n ub).nodes (al.getD n ub).places (al.getD n ub).places.length):=by
 unfold okF;rw [kz,List.all_append];simp
theorem Qpd {l:List Nod} {W V:WW} {ps:List Plc} {s:Nat} {p:Bool×Int} (h:LvQ l W V) (hs:s<4160):((atL l ps s p).any fun k=>clF l V s k)=(atL l ps s p).any fun k=>clE l s k:=
 Q2f fun k hk=>by have:=Qd9 hk;exact Qpc h W31 W31
noncomputable abbrev MTpl:MT:=MT.mk Tryd.prog 92 52 49 [CK.b,CK.i ja] true [] false
theorem Qpe:laidOutB Tryd.prog=true:=by kernel_rfl
theorem Qlb:MTpl.OkV (jg none 0 0):=
 MT.okv_struct (by kernel_rfl) Tryd.underlying52 (Go.Maps.Keyed.of_law (deep_law_laid Qpe (m:=2) W31 (uc (by kernel_rfl)) (by kernel_rfl) (by rw [Tryd.underlying52]))) (by kernel_rfl) (by kernel_rfl)
  ⟨rfl,by kernel_rfl,Tryd.underlying4,rfl,by kernel_rfl,Tryd.underlying3,trivial⟩ (by kernel_rfl) (uc (by kernel_rfl)) (fun w=>by kernel_rfl)
section
variable {sh lk:List Dcl} {gs:List Grf} {al:List Alc}
theorem Q5h (h1:(!decide ((chkU sh lk gs).1=(0:Int)))=false) {x:Int} (h0:0≤x) (ht:decide (x<(gs.length:Int))=true):GrfQ sh.length lk.length (gs.getD x.toNat ub):=
 (Yj W133).2 _ (by have:=uc ht;omega)
theorem Qb8 (hw:UnitW gs) (t:Nat):∀ b:Nat,0≤((gs.getD t ub).nodes.getD b ub).kind:=fun b=>(hw t b).1
theorem Qpf (h1:(!decide ((chkU sh lk gs).1=(0:Int)))=true):rgtU sh lk gs al=(false,(chkU sh lk gs).1):=by unfold rgtU;rw [if_pos W133]
theorem Qpg (h1:(!decide ((chkU sh lk gs).1=(0:Int)))=false) (h2:(!decide ((al.length:Int)=(gs.length:Int)))=true):rgtU sh lk gs al=(false,150):=by
 have h2:al.length≠gs.length:=by (simp only [jL,decide_eq_false_iff_not] at h2;omega)
 unfold rgtU;rw [if_neg W133,if_pos h2]
theorem Qph (h1:(!decide ((chkU sh lk gs).1=(0:Int)))=false) (h2:(!decide ((al.length:Int)=(gs.length:Int)))=false) {x:Int} (h0:0≤x) (ht:decide (x<(gs.length:Int))=true) (hf:(!fitB (gs.getD x.toNat ub).slots (al.getD x.toNat ub))=true):rgtU sh lk gs al=(false,150):=by
 have h2:¬ al.length≠gs.length:=by (simp only [kC,decide_eq_true_eq] at h2;omega)
 have ht:=uc ht
 unfold rgtU;rw [if_neg W133,if_neg h2,if_pos]
 exact List.all_eq_false.2 ⟨x.toNat,List.mem_range.2 W31,by simpa using hf⟩
theorem Qpi (h1:(!decide ((chkU sh lk gs).1=(0:Int)))=false) (h2:(!decide ((al.length:Int)=(gs.length:Int)))=false) (hf:∀ k,k<gs.length→fitB (gs.getD k ub).slots (al.getD k ub)=true):rgtU sh lk gs al=(okF gs al gs.length,0):=by
 have h2:¬ al.length≠gs.length:=by (simp only [kC,decide_eq_true_eq] at h2;omega)
 unfold rgtU;rw [if_neg W133,if_neg h2,if_neg]
 rw [Bool.not_eq_false]
 exact List.all_eq_true.2 fun t ht=>hf t (List.mem_range.1 ht)
theorem Gk (h1:(!decide ((chkU sh lk gs).1=(0:Int)))=false) {x:Int} (h0:0≤x) (ht:decide (x<(gs.length:Int))=true) (hf:∀ k,k<gs.length→fitB (gs.getD k ub).slots (al.getD k ub)=true) :
 ((al.getD x.toNat ub).places.length:Int)=(gs.getD x.toNat ub).slots∧(al.getD x.toNat ub).places.length≤4160∧∀ s:Nat,s<(al.getD x.toNat ub).places.length→0≤((al.getD x.toNat ub).places.getD s ub).n∧((al.getD x.toNat ub).places.getD s ub).n≤4160:=by
 have q:=Q5h h1 h0 ht
 have ht:=uc ht
 have f:=hf x.toNat W31
 have l:=Qd7 f
 have c:=Q3x f
 have:=q.loc
 refine ⟨l,by omega,fun s hs=>?_⟩
 have p:=Qb6 f hs
 have h3:(if ((al.getD x.toNat ub).places.getD s ub).cell=true then (al.getD x.toNat ub).cells else 13)≤4160:=by split<;>omega
 omega
section
variable {l:List Nod} {ps:List Plc} {x:Int} {b o:Bool}
theorem Qlc (h0:0≤x) (hu:useS l x.toNat=false) (h:b=(o&&okS l ps x.toNat)):b=(o&&okS l ps (x+1).toNat):=by
 rw [show (x+1).toNat=x.toNat+1 by omega,Qit hu];exact h
theorem Qnj {W V:WW} (hv:LvQ l W V) (h0:0≤x) (hx:x<4160) (hu:useS l x.toNat=true) (hb:b=true) (h:b=(o&&okS l ps x.toNat)):(!(atL l ps x.toNat ((ps.getD x.toNat ub).cell,(ps.getD x.toNat ub).n)).any fun k=>clF l V x k)=(o&&okS l ps (x+1).toNat):=by
 rw [show (x+1).toNat=x.toNat+1 by omega,Qda hu,← Bool.and_assoc,← h,hb,k9,← Qpd hv W31,ko h0]
theorem Qnk (h0:0≤x) (hu:useS l x.toNat=true) (hb:b=false) (h:b=(o&&okS l ps x.toNat)):false=(o&&okS l ps (x+1).toNat):=by
 rw [show (x+1).toNat=x.toNat+1 by omega,Qda hu,← Bool.and_assoc,← h,hb,Bool.false_and]
theorem Qld (l:List Nod) (ps:List Plc):MrEq MTpl 3 1 0 (atM l ps 0) MTpl 3 1 0 (fun _=>(0,fun _ _=>TC.any)):=MrEq.mk' (jm _) fun (a:Bool×Int)=>⟨rfl,fun i hi=>absurd hi (Nat.not_lt_zero _)⟩
theorem Qle (h0:0≤x) (hu:useS l x.toNat=false):MrEq MTpl 3 1 (2 * (x+1).toNat) (atM l ps (x+1).toNat) MTpl 3 1 (2 * x.toNat) (atM l ps x.toNat):=
 MrEq.mk' W31 fun (a:Bool×Int)=>by
  rw [show (x+1).toNat=x.toNat+1 by omega]
  unfold atM
  rw [Qis hu]
  exact ⟨rfl,fun _ _=>rfl⟩
theorem Qnl (h0:0≤x) (hu:useS l x.toNat=true):MrEq MTpl 3 1 (2 * (x+1).toNat) (atM l ps (x+1).toNat) MTpl 3 1 (2 * x.toNat+1+1) (fun (p:Bool×Int)=>if p=((ps.getD x.toNat ub).cell,(ps.getD x.toNat ub).n) then ((atM l ps x.toNat ((ps.getD x.toNat ub).cell,(ps.getD x.toNat ub).n)).1+1,fun i=>if i=(atM l ps x.toNat ((ps.getD x.toNat ub).cell,(ps.getD x.toNat ub).n)).1 then i64T x else (atM l ps x.toNat ((ps.getD x.toNat ub).cell,(ps.getD x.toNat ub).n)).2 i) else atM l ps x.toNat p):=
 MrEq.mk' W31 fun (a:Bool×Int)=>by
  rw [show (x+1).toNat=x.toNat+1 by omega]
  by_cases e:a=((ps.getD x.toNat ub).cell,(ps.getD x.toNat ub).n)
  ·rw [if_pos e,e]
   unfold atM
   rw [Ql9 hu]
   refine ⟨by simp,fun i hi=>?_⟩
   dsimp only at hi ⊢
   split
   ·rename_i e1;subst e1;rw [Qj,ko h0]
   ·rename_i e1;rw [Qu W203 e1]
  ·rw [if_neg e]
   unfold atM
   rw [Qla e]
   exact ⟨rfl,fun _ _=>rfl⟩
end
end
structure Lok where
 reached:List Bo
 held:List Lz
 deriving Inhabited,DecidableEq
def Lok.tl (x:Lok):List TC:=[.sub 4 1 (x.reached).length (fun i=>Bo.tc ((x.reached).getD i ub)),.sub 158 1 (x.held).length (fun i=>Lz.tc ((x.held).getD i ub))]
def Lok.tc (x:Lok):Nat→TC:=nthT x.tl
abbrev Lok.rowR (l:List Lok):Reg:=rowOf 2 Lok.tc l
abbrev Lok.ownR (l:List Lok):Reg:=ownOf 183 2 Lok.tc l
theorem Q6u {ns nl:Nat}:∀ {l:List Grf} {t:Int},(chkGo ns nl l t).1=0→∀ j:Nat,j<l.length→heldF (l.getD j ub).nodes<0
 | [],_,_,j,hj=>absurd hj W149
 | g::r,t,h,j,hj=>by
   unfold chkGo at h
   split at h
   ·cases h
   ·split at h
    ·cases h
    ·split at h
     ·cases h
     ·rename_i hh
      cases j with
      | zero=>show heldF g.nodes<0;omega
      | succ j=>exact Q6u h j W196
theorem Qgd {sh lk:List Dcl} {gs:List Grf} (h:(chkU sh lk gs).1=0):∀ j:Nat,j<gs.length→heldF (gs.getD j ub).nodes<0:=by
 unfold chkU at h
 split at h
 ·exact Q6u h
 ·cases h
structure ThQ (sh lk:List Dcl) (g:Grf):Prop where
 hq:∀ i:Nat,i<g.nodes.length→∀ x∈flwL (g.nodes.getD i default),0≤x∧x<(g.nodes.length:Int)
 hN:1≤g.nodes.length∧g.nodes.length≤4096
 hk:∀ i:Nat,i<g.nodes.length→1≤(g.nodes.getD i default).kind∧(g.nodes.getD i default).kind≤9
 ht:thQ g.nodes
 hf:heldF g.nodes<0
 hv:∀ i:Nat,i<g.nodes.length→(g.nodes.getD i default).kind=2∨(g.nodes.getD i default).kind=3∨(g.nodes.getD i default).kind=4→0≤(g.nodes.getD i default).thing∧(g.nodes.getD i default).thing<(sh.length:Int)
 gq:GrfQ sh.length lk.length g
 nq:∀ i:Nat,i<g.nodes.length→NodQ sh.length lk.length g (g.nodes.getD i default)
theorem Yq {sh lk:List Dcl} {gs:List Grf} (h:(chkU sh lk gs).1=0) (hw:UnitW gs) {x:Int} (h0:0≤x) (hx:x<(gs.length:Int)):ThQ sh lk (gs.getD x.toNat ub):=by
 have hl:x.toNat<gs.length:=by omega
 have q:=(Yj h).2 _ hl
 have w:=Qb8 hw x.toNat
 have m:=(Yj h).1
 refine ⟨q.hq w,q.len,q.hk w,fun i hi hk=>?_,Qgd h _ hl,fun i hi hk=>(q.q w i hi).thing hk,q,q.q w⟩
 have:=(q.q w i hi).lock (.inl hk)
 omega
abbrev UF:=Int→Option (Int×Int)
def UseQ (F:UF):Prop:=∀ a p,F a=some p→(0≤p.1∧p.1<4294967296)∧(0≤p.2∧p.2<4294967296)
theorem UseQ.none:UseQ (fun _=>Option.none):=fun a p h=>by cases h
theorem UseQ.put {F:UF} (h:UseQ F) {k a b:Int} (ha:0≤a∧a<4294967296) (hb:0≤b∧b<4294967296):UseQ (fun q=>if q=k then some (a,b) else F q):=fun q p hp=>by
 dsimp only at hp
 split at hp
 ·cases hp;exact ⟨ha,hb⟩
 ·exact h q p hp
theorem UseQ.get {F:UF} (h:UseQ F) (a:Int):(0≤((F a).getD (0,0)).1∧((F a).getD (0,0)).1<4294967296)∧(0≤((F a).getD (0,0)).2∧((F a).getD (0,0)).2<4294967296):=by
 cases e:F a with
 | none=>simp
 | some p=>exact h a p e
def LokQ (gs:List Grf) (n:Nat) (L:List Lok):Prop:=L.length=n∧∀ t:Nat,t<n→(L.getD t ub).reached=rchL (gs.getD t ub).nodes∧(L.getD t ub).held.length=(gs.getD t ub).nodes.length∧LzQ (L.getD t ub).held
theorem LokQ.nil (gs:List Grf):LokQ gs 0 []:=⟨rfl,fun t h=>absurd h (Nat.not_lt_zero _)⟩
theorem LokQ.snoc {gs:List Grf} {n:Nat} {L:List Lok} (h:LokQ gs n L) {x:Lok} (h1:x.reached=rchL (gs.getD n ub).nodes) (h2:x.held.length=(gs.getD n ub).nodes.length) (h3:LzQ x.held):LokQ gs (n+1) (L++[x]):=by
 refine ⟨by simp [h.1],fun t ht=>?_⟩
 by_cases e:t=n
 ·subst e
  have:(L++[x]).getD t ub=x:=by rw [← h.1];exact Qj _ _ _
  rw [this];exact ⟨h1,h2,h3⟩
 ·have:(L++[x]).getD t ub=L.getD t default:=Qu (by simp [h.1];omega) (by rw [h.1];exact e)
  rw [this];exact h.2 t W31
noncomputable abbrev MTu:MT:=MT.mk Tryd.prog 164 3 160 [CK.i ja] false [CK.i jv,CK.i jv] true
theorem Q5i:MTu.Ok:=MT.ok_int (by kernel_rfl) (by kernel_rfl) (.inl rfl) (fun w=>by kernel_rfl)
structure Mrk where
 s:Bool
 l:Bool
 d:Bool
 f:Bool
 deriving Inhabited,DecidableEq
def Mrk.tl (x:Mrk):List TC:=[.val (.bool x.s),.val (.bool x.l),.val (.bool x.d),.val (.bool x.f)]
def Mrk.tc (x:Mrk):Nat→TC:=nthT x.tl
abbrev Mrk.rowR (l:List Mrk):Reg:=rowOf 4 Mrk.tc l
abbrev Mrk.ownR (l:List Mrk):Reg:=ownOf 108 4 Mrk.tc l
def fenR (N:Int) (last:Int):List Int→Bool
 | []=>true
 | n::r=>if n≤last∨N≤n then false else fenR N n r
def fenB (N:Int) (l:List Int):Bool:=fenR N (-1) l
structure FenJ (N:Int) (l:List Int) (i last:Int):Prop where
 i0:0≤i
 il:i≤(l.length:Int)
 lo:-1≤last
 run:fenB N l=fenR N last (l.drop i.toNat)
theorem FenJ.start (N:Int) (l:List Int):FenJ N l 0 (-1):=⟨jA _,by omega,jA _,rfl⟩
section
variable {N:Int} {l:List Int} {i last:Int}
theorem FenJ.drop (h:FenJ N l i last) (hi:i<(l.length:Int)):l.drop i.toNat=l.getD i.toNat 0::l.drop (i.toNat+1):=by
 have h0:=h.i0
 have hlt:i.toNat<l.length:=by omega
 rw [kF hlt,jb,jc hlt];rfl
theorem FenJ.bad (h:FenJ N l i last) (hi:i<(l.length:Int)) (hb:(decide (l.getD i.toNat 0≤last)||decide (N≤l.getD i.toNat 0))=true):fenB N l=false:=by
 rw [h.run,h.drop hi,fenR,if_pos (by simpa using hb)]
theorem FenJ.next (h:FenJ N l i last) (hi:i<(l.length:Int)) (hb:(decide (l.getD i.toNat 0≤last)||decide (N≤l.getD i.toNat 0))=false):FenJ N l (i+1) (l.getD i.toNat 0):=by
 have h0:=h.i0
 have hb:¬ (l.getD i.toNat 0≤last∨N≤l.getD i.toNat 0):=by simpa using hb
 refine ⟨by omega,by omega,by have:=h.lo;omega,?_⟩
 rw [h.run,h.drop hi,fenR,if_neg hb,show (i+1).toNat=i.toNat+1 by omega]
theorem FenJ.done (h:FenJ N l i last) (hi:¬ i<(l.length:Int)):fenB N l=true:=by
 have h0:=h.i0
 rw [h.run,kq W31,fenR]
end
theorem Q5j {N:Int}:∀ {l:List Int} {last:Int},fenR N last l=true→∀ x∈l,last<x∧x<N
 | [],_,_,x,hx=>by cases hx
 | n::r,last,h,x,hx=>by
   unfold fenR at h
   split at h
   ·cases h
   ·rename_i hn
    cases hx with
    | head=>omega
    | tail _ hx=>have:=Q5j h x hx;omega
theorem fenR_len {N:Int}:∀ {l:List Int} {last:Int},fenR N last l=true→l=[]∨last+(l.length:Int)<N
 | [],_,_=>.inl rfl
 | n::r,last,h=>by
   unfold fenR at h
   split at h
   ·cases h
   ·rename_i hn
    rcases fenR_len h with q | q
    ·subst q;right;simp only [kd,List.length_nil];omega
    ·right;simp only [kd];omega
theorem Q4a {N:Int} {l:List Int} (h:fenB N l=true):∀ x∈l,0≤x∧x<N:=fun x hx=>by have:=Q5j h x hx;omega
theorem Qlf (l:List Mrk) (k:Nat) (x:Mrk):∀ i,i<(l.set k x).length→Mrk.tc ((l.set k x).getD i ub)=updT (fun i=>Mrk.tc (l.getD i ub)) k 0 [.bool x.s,.bool x.l,.bool x.d,.bool x.f] i:=
 Zf ub Mrk.tc l k 0 x _ (fun j=>by rcases j with _ | _ | _ | _ | j<;>simp [Mrk.tc,Mrk.tl,nthT,nth])
theorem Qiv (l:List Mrk) (k:Nat):∀ i,i<(l.set k { l.getD k ub with f:=true }).length→Mrk.tc ((l.set k { l.getD k ub with f:=true }).getD i ub)=updT (fun i=>Mrk.tc (l.getD i ub)) k 3 [.bool true] i:=
 Zf ub Mrk.tc l k 3 _ _ (fun j=>by rcases j with _ | _ | _ | _ | j<;>simp [Mrk.tc,Mrk.tl,nthT,nth])
theorem Qiw {n:Nat}:∀ i,i<(ji n (Mrk.mk false false false false)).length→Mrk.tc ((ji n (Mrk.mk false false false false)).getD i ub)=valT [jU false,jU false,jU false,jU false]:=by
 intro i hi
 have hi:i<n:=by simpa using hi
 have e:(ji n (Mrk.mk false false false false)).getD i ub=⟨false,false,false,false⟩:=by rw [jb,j7,if_pos hi];rfl
 rw [e]
 funext j
 first | rfl | (rcases j with _ | _ | _ | _ | j<;>rfl)
theorem gAnd {a b:Bool} (h:(!a&&!b)=true):a=false:=by cases a<;>simp at h ⊢
theorem Qix {n:Nat}:∀ i,i<(ji n (Bo.mk false)).length→Bo.tc ((ji n (Bo.mk false)).getD i ub)=valT [jU false]:=by
 intro i hi
 have hi:i<n:=by simpa using hi
 have e:(ji n (Bo.mk false)).getD i ub=⟨false⟩:=by rw [jb,j7,if_pos hi];rfl
 rw [e]
 funext j
 first | rfl | (rcases j with _ | j<;>rfl)
def inR (n:Nat) (t:List Int):Prop:=∀ x∈t,0≤x∧x<(n:Int)
theorem inR.nil (n:Nat):inR n []:=fun x h=>by cases h
theorem inR.take {n:Nat} {t:List Int} (h:inR n t) (k:Nat):inR n (t.take k):=fun x hx=>h x (List.mem_of_mem_take hx)
theorem inR.add {n:Nat} {t:List Int} (h:inR n t) {x:Int} (hx:0≤x∧x<(n:Int)):inR n (t++[x]):=fun y hy=>by
 rcases List.mem_append.1 hy with q | q
 ·exact h y q
 ·rw [jI] at q;subst q;exact hx
theorem inR.at_ {n:Nat} {t:List Int} (h:inR n t) {i:Nat} (hi:i<t.length):0≤t.getD i 0∧t.getD i 0<(n:Int):=by
 rw [jb,jc hi];exact h _ (jQ hi)
structure SpO (n B:Nat) (o:List Bo) (t:List Int):Prop where
 len:o.length=n
 rng:inR n t
 ms:2 * falses o+t.length≤B
structure SpI (n B m fl:Nat) (x:Int) (o:List Bo) (t:List Int):Prop where
 len:o.length=n
 rng:inR n t
 ms:2 * falses o+t.length+1≤m
 mB:m≤B
 x0:0≤x
 xl:x≤(fl:Int)
theorem SpO.start {n B:Nat} {t:List Int} (h:inR n t) (hB:2 * n+t.length≤B):SpO n B (ji n (Bo.mk false)) t:=
 ⟨jG,h,by have z:=G7 (ji n (Bo.mk false));simp only [jG] at z;omega⟩
theorem SpO.inner {n B:Nat} {o:List Bo} {t:List Int} (h:SpO n B o t) (ht:0<t.length) (fl:Nat):SpI n B (2 * falses o+t.length) fl 0 o (t.take (t.length-1)):=
 ⟨h.len,h.rng.take _,by rw [jJ];omega,h.ms,jA _,by omega⟩
section
variable {n B m fl:Nat} {x:Int} {o:List Bo} {t:List Int}
theorem SpI.skip (h:SpI n B m fl x o t) (hx:x<(fl:Int)):SpI n B m fl (x+1) o t:=⟨h.len,h.rng,h.ms,h.mB,by have:=h.x0;omega,by omega⟩
theorem SpI.set (h:SpI n B m fl x o t) (hx:x<(fl:Int)) {k:Int} (hk:0≤k∧k<(n:Int)) (hf:(o.getD k.toNat ub).b=false):SpI n B m fl (x+1) (o.set k.toNat ⟨true⟩) t:=by
 have z:=Gi (l:=o) (i:=k.toNat) (by rw [h.len];omega) hf
 have z1:=h.ms
 exact ⟨by rw [jt,h.len],h.rng,by omega,h.mB,by have:=h.x0;omega,by omega⟩
theorem SpI.put (h:SpI n B m fl x o t) (hx:x<(fl:Int)) {k:Int} (hk:0≤k∧k<(n:Int)) (hf:(o.getD k.toNat ub).b=false):SpI n B m fl (x+1) (o.set k.toNat ⟨true⟩) (t++[k]):=by
 have z:=Gi (l:=o) (i:=k.toNat) (by rw [h.len];omega) hf
 have z1:=h.ms
 exact ⟨by rw [jt,h.len],h.rng.add hk,by rw [jl,ki];omega,h.mB,by have:=h.x0;omega,by omega⟩
theorem SpI.done (h:SpI n B m fl x o t):SpO n B o t∧2 * falses o+t.length<m:=⟨⟨h.len,h.rng,by have:=h.ms;have:=h.mB;omega⟩,by have:=h.ms;omega⟩
end
def fenAll (gs:List Grf) (fs:List Iln) (n:Nat):Bool:=(jB n).all fun t=>fenB ((gs.getD t ub).nodes.length:Int) (fs.getD t ub).l
def safU (sh lk:List Dcl) (gs:List Grf) (fs:List Iln):Int:=
 if (chkU sh lk gs).1≠0 then (chkU sh lk gs).1 else if fs.length≠gs.length then 110 else if fenAll gs fs gs.length=true then 0 else 110
section
variable {sh lk:List Dcl} {gs:List Grf} {fs:List Iln}
theorem Qpj (h1:(!decide ((chkU sh lk gs).1=(0:Int)))=true):(chkU sh lk gs).1=safU sh lk gs fs:=by unfold safU;rw [if_pos W133]
theorem Qpk (h1:(!decide ((chkU sh lk gs).1=(0:Int)))=false) (h2:(!decide ((fs.length:Int)=(gs.length:Int)))=true):110=safU sh lk gs fs:=by
 have h2:fs.length≠gs.length:=by (simp only [jL,decide_eq_false_iff_not] at h2;omega)
 unfold safU;rw [if_neg W133,if_pos h2]
theorem Qpl (h1:(!decide ((chkU sh lk gs).1=(0:Int)))=false) (h2:(!decide ((fs.length:Int)=(gs.length:Int)))=false) {x:Int} (h0:0≤x) (hx:decide (x<(fs.length:Int))=true) (hf:(!fenB ((gs.getD x.toNat ub).nodes.length:Int) (fs.getD x.toNat ub).l)=true):110=safU sh lk gs fs:=by
 have h2:¬ fs.length≠gs.length:=by (simp only [kC,decide_eq_true_eq] at h2;omega)
 have hx:=uc hx
 have hn:¬ fenAll gs fs gs.length=true:=fun h=>by
  have:=List.all_eq_true.1 h x.toNat (List.mem_range.2 W31)
  rw [this] at hf;cases hf
 unfold safU;rw [if_neg W133,if_neg h2,if_neg hn]
theorem Qpm (h1:(!decide ((chkU sh lk gs).1=(0:Int)))=false) (h2:(!decide ((fs.length:Int)=(gs.length:Int)))=false) (hf:∀ k,k<fs.length→fenB ((gs.getD k ub).nodes.length:Int) (fs.getD k ub).l=true):0=safU sh lk gs fs:=by
 have h2:¬ fs.length≠gs.length:=by (simp only [kC,decide_eq_true_eq] at h2;omega)
 have hn:fenAll gs fs gs.length=true:=List.all_eq_true.2 fun t ht=>hf t (by have:=List.mem_range.1 ht;omega)
 unfold safU;rw [if_neg W133,if_neg h2,if_pos hn]
end
noncomputable def fauU (sh lk:List Dcl) (gs:List Grf) (fs:List Iln) (al:List Alc) (bf:Int):Int:=
 if safU sh lk gs fs≠0 then safU sh lk gs fs else if (rgtU sh lk gs al).2≠0 then (rgtU sh lk gs al).2 else if (rgtU sh lk gs al).1=false then 150 else if bf<1∨16<bf then 2 else 0
section
variable {sh lk:List Dcl} {gs:List Grf} {fs:List Iln} {al:List Alc} {bf e:Int}
theorem Qpn (he:e=safU sh lk gs fs) (h1:(!decide (e=(0:Int)))=true):fauU sh lk gs fs al bf=e:=by subst he;unfold fauU;rw [if_pos W133]
theorem Qpo (he:e=safU sh lk gs fs) (h1:(!decide (e=(0:Int)))=false) (h2:(!decide ((rgtU sh lk gs al).2=(0:Int)))=true):fauU sh lk gs fs al bf=(rgtU sh lk gs al).2:=by
 subst he;unfold fauU;rw [if_neg W133,if_pos W166]
theorem Qpp (he:e=safU sh lk gs fs) (h1:(!decide (e=(0:Int)))=false) (h2:(!decide ((rgtU sh lk gs al).2=(0:Int)))=false) (h3:(!(rgtU sh lk gs al).1)=true):fauU sh lk gs fs al bf=150:=by
 subst he;unfold fauU;rw [if_neg W133,if_neg W166,if_pos (by simpa using h3)]
theorem Qpq (he:e=safU sh lk gs fs) (h1:(!decide (e=(0:Int)))=false) (h2:(!decide ((rgtU sh lk gs al).2=(0:Int)))=false) (h3:(!(rgtU sh lk gs al).1)=false) (h4:(decide (bf<(1:Int))||decide ((16:Int)<bf))=true):fauU sh lk gs fs al bf=2:=by
 subst he;unfold fauU;rw [if_neg W133,if_neg W166,if_neg (by simpa using h3),if_pos (by simpa using h4)]
theorem Qpr (he:e=safU sh lk gs fs) (h1:(!decide (e=(0:Int)))=false) (h2:(!decide ((rgtU sh lk gs al).2=(0:Int)))=false) (h3:(!(rgtU sh lk gs al).1)=false) (h4:(decide (bf<(1:Int))||decide ((16:Int)<bf))=false):fauU sh lk gs fs al bf=0:=by
 have h4:¬ (bf<1∨16<bf):=by simp only [j9,decide_eq_false_iff_not] at h4;omega
 subst he;unfold fauU;rw [if_neg W133,if_neg W166,if_neg (by simpa using h3),if_neg h4]
end
def memL (sh lk:List Dcl) (al:List Alc) (i:Nat):List Int:=sh.map (·.word)++ji lk.length 0++((al.take i).flatMap fun a=>ji a.cells.toNat 0)
def mAt (sh lk:List Dcl) (al:List Alc) (i:Nat):List Int:=(jB i).map fun j=>((memL sh lk al j).length:Int)
theorem Q6v (sh lk:List Dcl) (al:List Alc):memL sh lk al 0=sh.map (·.word)++ji lk.length 0:=by simp [memL]
theorem G8 (sh lk:List Dcl) (al:List Alc) (i:Nat) (h:i<al.length):memL sh lk al (i+1)=memL sh lk al i++ji (al.getD i ub).cells.toNat 0:=by
 unfold memL
 rw [jN h,List.flatMap_append]
 simp [jb,h]
theorem Qiy (sh lk:List Dcl) (al:List Alc) (i:Nat):mAt sh lk al (i+1)=mAt sh lk al i++[((memL sh lk al i).length:Int)]:=by
 simp [mAt,kz]
theorem Qdb (sh lk:List Dcl) (al:List Alc) (i:Nat):(mAt sh lk al i).length=i:=by simp [mAt]
theorem Qcj (sh:List Dcl) (i:Nat) (h:i<sh.length):(sh.take (i+1)).map (·.word)=(sh.take i).map (·.word)++[(sh.getD i ub).word]:=by
 rw [jN h,kK]
 simp [jb,h]
theorem Q5k (sh lk:List Dcl) (al:List Alc) (hc:∀ j:Nat,j<al.length→(al.getD j ub).cells≤4160):∀ i:Nat,i≤al.length→(memL sh lk al i).length≤sh.length+lk.length+4160 * i
 | 0,_=>by rw [Q6v];simp
 | i+1,h=>by
   have:=Q5k sh lk al hc i W31
   have:=hc i W31
   rw [G8 _ _ _ _ W31,jl,jG]
   omega
theorem Qdc (l:List Int) (m:Nat):∀ i,i<(l++ji m (0:Int)).length→i64T ((l++ji m (0:Int)).getD i 0)=fun j=>if i<l.length then i64T (l.getD i 0) j else valT (jf ja (0:Int)).cells.toList j:=fun i hi=>by
 funext j
 split
 ·rename_i h
  rw [jb,jp h,← jb]
 ·rename_i h
  rw [jb,jy W31]
  rw [jl,jG] at hi
  rw [j7,if_pos W31]
  rcases j with _ | j<;>rfl
section
variable {sh lk:List Dcl} {al:List Alc} {l:List Int} {x:Int}
theorem Qdd (h:l=(sh.take x.toNat).map (·.word)) (hx:x.toNat=sh.length):memL sh lk al 0=l++ji lk.length 0:=by rw [Q6v,h,hx,List.take_length]
theorem Qiz (h:l=(sh.take x.toNat).map (·.word)) (hx:x.toNat=sh.length):(memL sh lk al 0).length=l.length+lk.length:=by rw [Qdd h hx,jl,jG]
theorem Qj0 (h:l=(sh.take x.toNat).map (·.word)) (hx:x.toNat=sh.length):∀ i,i<(memL sh lk al 0).length→i64T ((memL sh lk al 0).getD i 0)=fun j=>if i<l.length then i64T (l.getD i 0) j else valT (jf ja (0:Int)).cells.toList j:=by
 rw [Qdd h hx];exact Qdc _ _
theorem Qj1 (h:l=memL sh lk al x.toNat) (hx:x.toNat<al.length):(memL sh lk al (x.toNat+1)).length=l.length+(al.getD x.toNat ub).cells.toNat:=by rw [G8 _ _ _ _ hx,h,jl,jG]
theorem Qj2 (h:l=memL sh lk al x.toNat) (hx:x.toNat<al.length):∀ i,i<(memL sh lk al (x.toNat+1)).length→i64T ((memL sh lk al (x.toNat+1)).getD i 0)=fun j=>if i<l.length then i64T (l.getD i 0) j else valT (jf ja (0:Int)).cells.toList j:=by
 rw [G8 _ _ _ _ hx,← h];exact Qdc _ _
end
structure Gm where
 ps:List Plc
 base:Int
 shared:Int
 fr:Int
def Gm.pl (x:Gm) (s:Int):Plc:=x.ps.getD s.toNat ub
def gSet (x:Gm) (d w:Int):Ins:={ (ub:Ins) with kind:=1,d:=d,word:=w,from_:=x.fr }
def gOr (x:Gm) (d p:Int):Ins:={ (ub:Ins) with kind:=2,op:=7,d:=d,a:=p,b:=p,from_:=x.fr }
def gLoad (x:Gm) (d w:Int):Ins:={ (ub:Ins) with kind:=3,d:=d,addr:=w,from_:=x.fr }
def gStore (x:Gm) (a w:Int):Ins:={ (ub:Ins) with kind:=4,a:=a,addr:=w,from_:=x.fr }
def gSwap (x:Gm) (d w:Int):Ins:={ (ub:Ins) with kind:=5,d:=d,addr:=w,from_:=x.fr }
def gPrint (x:Gm) (a:Int):Ins:={ (ub:Ins) with kind:=7,a:=a,from_:=x.fr }
def gJump (x:Gm) (t:Int):Ins:={ (ub:Ins) with kind:=8,to:=t,from_:=x.fr }
def gZero (x:Gm) (a t:Int):Ins:={ (ub:Ins) with kind:=9,a:=a,to:=t,from_:=x.fr }
def gFetch (x:Gm) (v:Vl) (r:Int):List Ins:=
 if v.slotted then (if (x.pl v.slot).cell then [gLoad x r (x.base+(x.pl v.slot).n)] else []) else [gSet x r v.word]
def gReg (x:Gm) (v:Vl) (r:Int):Int:=if v.slotted&&!(x.pl v.slot).cell then (x.pl v.slot).n else r
def gMove (x:Gm) (v:Vl) (r:Int):List Ins:=
 if v.slotted&&!(x.pl v.slot).cell then [gOr x r (x.pl v.slot).n] else gFetch x v r
def gGoal (x:Gm) (s:Int):Int:=if (x.pl s).cell then 15 else (x.pl s).n
def gKeep (x:Gm) (s:Int):List Ins:=if (x.pl s).cell then [gStore x 15 (x.base+(x.pl s).n)] else []
def gSetN (x:Gm) (n:Nod):List Ins:=
 if n.op=0 then gMove x n.a (gGoal x n.slot)++gKeep x n.slot
 else gFetch x n.a 13++(if twoB n.op then gFetch x n.b 14 else []) ++
  [{ (ub:Ins) with kind:=2,op:=n.op,d:=gGoal x n.slot,a:=gReg x n.a 13,b:=(if twoB n.op then gReg x n.b 14 else 0),from_:=x.fr }]++gKeep x n.slot
def gSwapN (x:Gm) (n:Nod):List Ins:=
 gMove x n.a 15++[gSwap x 15 n.thing]++(if (x.pl n.slot).cell then gKeep x n.slot else [gOr x (x.pl n.slot).n 15])
def gNode (x:Gm) (len:Int) (n:Nod):List Ins:=
 if n.kind=1 then gSetN x n
 else if n.kind=2 then [gLoad x (gGoal x n.slot) n.thing]++gKeep x n.slot
 else if n.kind=3 then gFetch x n.a 13++[gStore x (gReg x n.a 13) n.thing]
 else if n.kind=4 then gSwapN x n
 else if n.kind=5 then [gSet x 15 1,gSwap x 15 (x.shared+n.thing),gZero x 15 (len+4),gJump x len]
 else if n.kind=6 then [gSet x 15 0,gStore x 15 (x.shared+n.thing)]
 else if n.kind=7 then gFetch x n.a 13++[gPrint x (gReg x n.a 13)]
 else if n.kind=8 then (if n.els=n.next then [] else gFetch x n.a 13++[gZero x (gReg x n.a 13) n.els])
 else [{ (ub:Ins) with kind:=10,from_:=x.fr }]
noncomputable abbrev MTi:MT:=MT.mk Tryd.prog 71 3 3 [CK.i ja] false [CK.i ja] false
theorem Q5l:MTi.Ok:=MT.ok_int (by kernel_rfl) (by kernel_rfl) (.inr rfl) (fun w=>by kernel_rfl)
def putL (fr:Int) (l:List Ins):List Ins:=l.map fun i=>{ i with from_:=fr }
theorem Qge {fr:Int} {l:List Ins} {k:Int} (h0:0≤k) (h:k<(l.length:Int)) (code:List Ins):code++putL fr (l.take (k+1).toNat)=(code++putL fr (l.take k.toNat))++[{ l.getD k.toNat ub with from_:=fr }]:=by
 have hl:k.toNat<l.length:=by omega
 rw [show (k+1).toNat=k.toNat+1 by omega,jN hl,jH]
 unfold putL
 rw [kK,jb,jc hl]
 rfl
theorem Q08 (fr:Int) (l:List Ins):(putL fr l).length=l.length:=jK _
theorem gnt {b:Bool} (h:(!b)=true):b=false:=by cases b<;>simp at h ⊢
theorem gnf {b:Bool} (h:(!b)=false):b=true:=by cases b<;>simp at h ⊢
section
variable {gm:Gm} {s r:Int} {v:Vl} {n:Nod}
theorem Qlg (h:(gm.pl s).cell=true):gGoal gm s=15:=by unfold gGoal;rw [if_pos h]
theorem Qlh (h:(gm.pl s).cell=false):gGoal gm s=(gm.pl s).n:=by unfold gGoal;rw [if_neg W197]
theorem Qli (h:(gm.pl s).cell=true):gKeep gm s=putL gm.fr [Ins.mk 4 0 0 15 0 (gm.base+(gm.pl s).n) 0 0 0]:=by unfold gKeep;rw [if_pos h];rfl
theorem Qlj (h:(gm.pl s).cell=false):gKeep gm s=[]:=by unfold gKeep;rw [if_neg W197]
theorem Qj3 (h:v.slotted=false):gFetch gm v r=putL gm.fr [Ins.mk 1 0 r 0 0 0 0 v.word 0]∧gReg gm v r=r:=by
 unfold gFetch gReg;rw [h];exact ⟨rfl,rfl⟩
theorem Qj4 (h:v.slotted=true) (h2:(gm.pl v.slot).cell=true):gFetch gm v r=putL gm.fr [Ins.mk 3 0 r 0 0 (gm.base+(gm.pl v.slot).n) 0 0 0]∧gReg gm v r=r:=by
 unfold gFetch gReg;rw [h,h2];exact ⟨rfl,rfl⟩
theorem Qb9 (h:v.slotted=true) (h2:(gm.pl v.slot).cell=false):gFetch gm v r=[]∧gReg gm v r=(gm.pl v.slot).n:=by
 unfold gFetch gReg;rw [h,h2];exact ⟨rfl,rfl⟩
theorem Qde (h:(v.slotted&&!(gm.pl v.slot).cell)=true):gMove gm v r=gFetch gm v r++putL gm.fr [Ins.mk 2 7 r (gReg gm v r) (gReg gm v r) 0 0 0 0]:=by
 have h2:=h
 rw [je,jL] at h2
 have e:=Qb9 (gm:=gm) (v:=v) (r:=r) h2.1 h2.2
 unfold gMove;rw [if_pos h,e.1,e.2];rfl
theorem Q7t (h:(v.slotted&&!(gm.pl v.slot).cell)=false):gMove gm v r=gFetch gm v r:=by unfold gMove;rw [if_neg W197]
theorem Zo:(gFetch gm v r).length≤1:=by unfold gFetch;split<;>(try split)<;>simp
theorem Q8u:(gKeep gm s).length≤1:=by unfold gKeep;split<;>simp
theorem Q0j:(gMove gm v r).length≤1:=by unfold gMove;split<;>first | exact Zo | simp
theorem Qnm (h:decide (n.op=(0:Int))=true):gSetN gm n=gMove gm n.a (gGoal gm n.slot)++gKeep gm n.slot:=by unfold gSetN;rw [if_pos (uc h)]
theorem Qnn (h:decide (n.op=(0:Int))=false) (h2:twoB n.op=true):gSetN gm n=gFetch gm n.a 13++gFetch gm n.b 14++putL gm.fr [Ins.mk 2 n.op (gGoal gm n.slot) (gReg gm n.a 13) (gReg gm n.b 14) 0 0 0 0]++gKeep gm n.slot:=by
 unfold gSetN;rw [if_neg (ud h),if_pos h2,if_pos h2];rfl
theorem Qno (h:decide (n.op=(0:Int))=false) (h2:twoB n.op=false):gSetN gm n=gFetch gm n.a 13++putL gm.fr [Ins.mk 2 n.op (gGoal gm n.slot) (gReg gm n.a 13) 0 0 0 0 0]++gKeep gm n.slot:=by
 have h3:¬ twoB n.op=true:=by rw [h2];decide
 unfold gSetN;rw [if_neg (ud h),if_neg h3,if_neg h3,j6];rfl
theorem Qlk (h:(gm.pl n.slot).cell=true):gSwapN gm n=gMove gm n.a 15++putL gm.fr [Ins.mk 5 0 15 0 0 n.thing 0 0 0]++gKeep gm n.slot:=by unfold gSwapN;rw [if_pos h];rfl
theorem Qll (h:(gm.pl n.slot).cell=false):gSwapN gm n=gMove gm n.a 15++putL gm.fr [Ins.mk 5 0 15 0 0 n.thing 0 0 0]++putL gm.fr [Ins.mk 2 7 (gm.ps.getD n.slot.toNat ub).n 15 15 0 0 0 0]:=by unfold gSwapN;rw [if_neg W197];rfl
def gBranch (gm:Gm) (n:Nod):List Ins:=if n.els=n.next then [] else gFetch gm n.a 13++putL gm.fr [Ins.mk 9 0 0 (gReg gm n.a 13) 0 0 n.els 0 0]
theorem Qgf (h:decide (n.els=n.next)=true):gBranch gm n=[]:=by unfold gBranch;rw [if_pos (uc h)]
theorem Qgg (h:decide (n.els=n.next)=false):gBranch gm n=gFetch gm n.a 13++putL gm.fr [Ins.mk 9 0 0 (gReg gm n.a 13) 0 0 n.els 0 0]:=by unfold gBranch;rw [if_neg (ud h)]
structure NdQ (gm:Gm) (n:Nod):Prop where
 slot:n.kind=1∨n.kind=2∨n.kind=4→0≤n.slot∧n.slot<(gm.ps.length:Int)
 a:n.a.slotted=true→0≤n.a.slot∧n.a.slot<(gm.ps.length:Int)
 b:n.b.slotted=true→0≤n.b.slot∧n.b.slot<(gm.ps.length:Int)
 th:0≤n.thing∧n.thing≤1000
structure GmQ (gm:Gm):Prop where
 b0:0≤gm.base∧gm.base≤100000
 s0:0≤gm.shared∧gm.shared≤100000
 p0:∀ i:Nat,i<gm.ps.length→0≤(gm.ps.getD i default).n∧(gm.ps.getD i default).n≤4160
end
def innF (F:Int→Option Int) (n:Int):Int→Option Int:=fun a=>if a=n+3 then some 1 else if a=n+2 then some 1 else F a
theorem Qnp (F:Int→Option Int) (n:Int) (cN:Nat):MpEq MTi (cN+4) (fun (a:Int)=>(innF F n a).isSome) (fun (a:Int)=>(innF F n a).getD (0:Int)) none MTi (cN+1+1+1+1) (fun (p:Int)=>decide (p=n+3)||(decide (p=n+3)||(decide (p=n+2)||(decide (p=n+2)||(F p).isSome))))
 (fun (p:Int)=>if p=n+3 then (1:Int) else if p=n+2 then (1:Int) else (F p).getD (0:Int)) none:=by
 refine MpEq.mk' (jm _) ?_ ?_<;>intro (q:Int)<;>unfold innF<;>(try dsimp only)<;>by_cases h1:q=n+3<;>by_cases h2:q=n+2<;>(simp [h1,h2];try rfl)
theorem MT.okv_int {P:Program} {t k e:Nat} {z:Value} {q:IntKind} (ht:P.underlying t=some (.map k e)) (hk:P.underlying k=some (.int q)) (hz:∀ w,(zeroValue e).run P w=.ok z w):MT.OkV ⟨P,t,k,e,[.i q],false,[],false⟩ z where
 map:=ht
 key:=Go.Maps.int_keyed hk
 lit:=fun a ha=>⟨_,Go.Maps.keyOf_int_mk hk ha⟩
 one:=.inr rfl
 zero:=hz
noncomputable abbrev MTm:MT:=MT.mk Tryd.prog 77 60 81 [CK.i jz] false [] false
theorem Qdf:MTm.OkV .nilFunc:=MT.okv_int (by kernel_rfl) (by kernel_rfl) (fun w=>by kernel_rfl)
abbrev mkEnts:List (Int×C):=[((9:Int),C.fn 34 true [0]),((8:Int),C.fn 33 true [0]),((7:Int),C.fn 32 true [0]),((6:Int),C.fn 31 true [0]),((5:Int),C.fn 30 true [0]),((4:Int),C.fn 29 true [0]),((3:Int),C.fn 28 true [0]),((2:Int),C.fn 27 true [0]),((1:Int),C.fn 26 true [0])]
def hasF (fe:List Int) (k:Int):Bool:=decide (0≤idxF fe k 0)
def jmpB (k:Int) (n:Nod):Bool:=!decide (n.kind=9)&&!decide (n.next=k+1)
def innS (F:Int→Option Int) (nd:Nod) (n:Int):Int→Option Int:=if nd.kind=5 then innF F n else F
section
variable (ps:List Plc) (ba sh:Int) (fe:List Int) (l:List Nod)
def gmA (n:Nod):Gm:=⟨ps,ba,sh,n.origin+1⟩
def fenC (k:Nat) (code:List Ins):List Ins:=if hasF fe k then code++putL ((l.getD k ub).origin+1) [Ins.mk 6 0 0 0 0 0 0 0 0] else code
def nodC (k:Nat) (code:List Ins):List Ins:=fenC fe l k code++gNode (gmA ps ba sh (l.getD k ub)) ((fenC fe l k code).length:Int) (l.getD k ub)
def stepC (k:Nat) (code:List Ins):List Ins:=if jmpB k (l.getD k ub) then nodC ps ba sh fe l k code++putL ((l.getD k ub).origin+1) [Ins.mk 8 0 0 0 0 0 (l.getD k ub).next 0 0] else nodC ps ba sh fe l k code
def codeA:Nat→List Ins
 | 0=>[]
 | k+1=>stepC ps ba sh fe l k (codeA k)
def starA (k:Nat):List Int:=(jB k).map fun i=>((codeA ps ba sh fe l i).length:Int)
def innA:Nat→Int→Option Int
 | 0=>fun _=>none
 | k+1=>innS (innA k) (l.getD k ub) ((fenC fe l k (codeA ps ba sh fe l k)).length:Int)
end
section
variable {gm:Gm} {n:Nod} {k:Int}
theorem Qlm (h:n.kind=1):gNode gm k n=gSetN gm n:=by unfold gNode;rw [if_pos h]
theorem Qln (h:n.kind=2):gNode gm k n=putL gm.fr [Ins.mk 3 0 (gGoal gm n.slot) 0 0 n.thing 0 0 0]++gKeep gm n.slot:=by unfold gNode;rw [if_neg W31,if_pos h];rfl
theorem Qlo (h:n.kind=3):gNode gm k n=gFetch gm n.a 13++putL gm.fr [Ins.mk 4 0 0 (gReg gm n.a 13) 0 n.thing 0 0 0]:=by unfold gNode;rw [if_neg W31,if_neg W31,if_pos h];rfl
theorem Qlp (h:n.kind=4):gNode gm k n=gSwapN gm n:=by unfold gNode;rw [if_neg W31,if_neg W31,if_neg W31,if_pos h]
theorem Qdg (h:n.kind=5):gNode gm k n=putL gm.fr [Ins.mk 1 0 15 0 0 0 0 1 0,Ins.mk 5 0 15 0 0 (gm.shared+n.thing) 0 0 0,Ins.mk 9 0 0 15 0 0 (k+4) 0 0,Ins.mk 8 0 0 0 0 0 k 0 0]:=by
 unfold gNode;rw [if_neg W31,if_neg W31,if_neg W31,if_neg W31,if_pos h];rfl
theorem Qlq (h:n.kind=6):gNode gm k n=putL gm.fr [Ins.mk 1 0 15 0 0 0 0 0 0,Ins.mk 4 0 0 15 0 (gm.shared+n.thing) 0 0 0]:=by
 unfold gNode;rw [if_neg W31,if_neg W31,if_neg W31,if_neg W31,if_neg W31,if_pos h];rfl
theorem Qlr (h:n.kind=7):gNode gm k n=gFetch gm n.a 13++putL gm.fr [Ins.mk 7 0 0 (gReg gm n.a 13) 0 0 0 0 0]:=by
 unfold gNode;rw [if_neg W31,if_neg W31,if_neg W31,if_neg W31,if_neg W31,if_neg W31,if_pos h];rfl
theorem Qls (h:n.kind=8):gNode gm k n=gBranch gm n:=by
 unfold gNode gBranch;rw [if_neg W31,if_neg W31,if_neg W31,if_neg W31,if_neg W31,if_neg W31,if_neg W31,if_pos h];rfl
theorem Qdh (h:n.kind=9):gNode gm k n=putL gm.fr [Ins.mk 10 0 0 0 0 0 0 0 0]:=by
 unfold gNode;rw [if_neg W31,if_neg W31,if_neg W31,if_neg W31,if_neg W31,if_neg W31,if_neg W31,if_neg W31];rfl
theorem Qnq {F:Int→Option Int} (h:n.kind=5):innS F n k=innF F k:=by unfold innS;rw [if_pos h]
theorem Qgh {F:Int→Option Int} (h:n.kind≠5):innS F n k=F:=by unfold innS;rw [if_neg h]
end
def fixI (s:List Int) (F:Int→Option Int) (i:Nat) (c:Ins):Ins:=if (c.kind=8∨c.kind=9)∧(F (i:Int)).getD 0=0 then { c with to:=s.getD c.to.toNat 0 } else c
def fixN (s:List Int) (F:Int→Option Int) (code:List Ins):Nat→List Ins
 | 0=>code
 | k+1=>(fixN s F code k).set k (fixI s F k ((fixN s F code k).getD k ub))
theorem Z6 (s:List Int) (F:Int→Option Int) (code:List Ins):∀ k,(fixN s F code k).length=code.length
 | 0=>rfl
 | k+1=>by show ((fixN s F code k).set k _).length=_;rw [jt,Z6 s F code k]
theorem Q7u (s:List Int) (F:Int→Option Int) (code:List Ins):∀ (k i:Nat),k≤i→(fixN s F code k).getD i ub=code.getD i ub
 | 0,_,_=>rfl
 | k+1,i,h=>by
   show ((fixN s F code k).set k _).getD i ub=_
   rw [jb,jC W31,← jb,Q7u s F code k i W31]
structure AlJ (ps:List Plc) (ba sh:Int) (fe:List Int) (l:List Nod) (x:Int) (c:List Ins) (s:List Int) (n:Nat) (F:Int→Option Int):Prop where
 x0:0≤x
 xl:x≤(l.length:Int)
 code:c=codeA ps ba sh fe l x.toNat
 star:s=starA ps ba sh fe l x.toNat
 cnt:n≤4 * x.toNat
 inn:F=innA ps ba sh fe l x.toNat
 len:c.length≤16384
section
variable {ps:List Plc} {ba sh:Int} {fe:List Int} {l:List Nod} {x:Int} {c:List Ins} {s:List Int} {n:Nat} {F:Int→Option Int}
theorem AlJ.start {F0:Int→Option Int} (h:∀ a,F0 a=none):AlJ ps ba sh fe l 0 [] [] 0 F0:=⟨jA _,by omega,rfl,rfl,kb _,funext h,kb _⟩
theorem Qes:starA ps ba sh fe l (x.toNat+1)=starA ps ba sh fe l x.toNat++[((codeA ps ba sh fe l x.toNat).length:Int)]:=by unfold starA;rw [kz,kK];rfl
theorem AlJ.next (h:AlJ ps ba sh fe l x c s n F) (hx:x<(l.length:Int)) {c':List Ins} (hc:c'=stepC ps ba sh fe l x.toNat c) (hb:decide ((16384:Int)<(c'.length:Int))=false) :
 AlJ ps ba sh fe l (x+1) c' (s++[(c.length:Int)]) (n+4) (innS F (l.getD x.toNat ub) ((fenC fe l x.toNat c).length:Int)):=by
 have h0:=h.x0
 have e:(x+1).toNat=x.toNat+1:=by omega
 refine ⟨by omega,by omega,?_,?_,by have:=h.cnt;omega,?_,by have:=ud hb;omega⟩
 ·rw [e,hc,h.code];rfl
 ·rw [e,Qes,h.star,h.code]
 ·rw [e,h.inn,h.code];rfl
theorem Qlt {k:Nat} (h:(!decide ((l.getD k ub).kind=(9:Int))&&!decide ((l.getD k ub).next=(k:Int)+1))=true):stepC ps ba sh fe l k c=nodC ps ba sh fe l k c++putL ((l.getD k ub).origin+1) [Ins.mk 8 0 0 0 0 0 (l.getD k ub).next 0 0]:=by unfold stepC jmpB;rw [if_pos h]
theorem Qlu {k:Nat} (h:(!decide ((l.getD k ub).kind=(9:Int))&&!decide ((l.getD k ub).next=(k:Int)+1))=false):stepC ps ba sh fe l k c=nodC ps ba sh fe l k c:=by unfold stepC jmpB;rw [if_neg W197]
end
theorem Qgi (gm:Gm) (k:Int) (n:Nod):(gNode gm k n).length≤4:=by
 have a1:=Zo (gm:=gm) (v:=n.a) (r:=13)
 have a2:=Zo (gm:=gm) (v:=n.b) (r:=14)
 have a3:=Q8u (gm:=gm) (s:=n.slot)
 have a4:=Q0j (gm:=gm) (v:=n.a) (r:=gGoal gm n.slot)
 have a5:=Q0j (gm:=gm) (v:=n.a) (r:=15)
 unfold gNode gSetN gSwapN
 repeat' split
 all_goals simp only [jl,kd,List.length_nil]
 all_goals omega
theorem G0 (fe:List Int) (l:List Nod) (k:Nat) (c:List Ins):c.length≤(fenC fe l k c).length∧(fenC fe l k c).length≤c.length+1:=by
 unfold fenC;split<;>simp [Q08]
theorem Gx (ps:List Plc) (ba sh:Int) (fe:List Int) (l:List Nod) (k:Nat) (c:List Ins):c.length≤(nodC ps ba sh fe l k c).length∧(nodC ps ba sh fe l k c).length≤c.length+5:=by
 have a:=G0 fe l k c
 have b:=Qgi (gmA ps ba sh (l.getD k ub)) ((fenC fe l k c).length:Int) (l.getD k ub)
 unfold nodC;rw [jl];omega
theorem Zg (ps:List Plc) (ba sh:Int) (fe:List Int) (l:List Nod) (k:Nat) (c:List Ins):c.length≤(stepC ps ba sh fe l k c).length∧(stepC ps ba sh fe l k c).length≤c.length+6:=by
 have a:=Gx ps ba sh fe l k c
 unfold stepC;split
 ·rw [jl,Q08];simp only [kd,List.length_nil];omega
 ·omega
theorem Q6w (ps:List Plc) (ba sh:Int) (fe:List Int) (l:List Nod) (i:Nat):∀ d:Nat,(codeA ps ba sh fe l i).length≤(codeA ps ba sh fe l (i+d)).length
 | 0=>jm _
 | d+1=>kj (Q6w ps ba sh fe l i d) (Zg ps ba sh fe l (i+d) _).1
def okA (ps:List Plc) (ba sh:Int) (fe:List Int) (l:List Nod):Bool:=decide ((codeA ps ba sh fe l l.length).length≤16384)
def finA (ps:List Plc) (ba sh:Int) (fe:List Int) (l:List Nod):List Ins:=fixN (starA ps ba sh fe l l.length) (innA ps ba sh fe l l.length) (codeA ps ba sh fe l l.length) (codeA ps ba sh fe l l.length).length
theorem Qnr {ps:List Plc} {ba sh:Int} {fe:List Int} {l:List Nod} {x:Int} {c:List Ins} {s:List Int} {n:Nat} {F:Int→Option Int} (h:AlJ ps ba sh fe l x c s n F) (hx:x<(l.length:Int)) (hb:decide ((16384:Int)<((stepC ps ba sh fe l x.toNat c).length:Int))=true):false=okA ps ba sh fe l:=by
 have hb:=uc hb
 have h0:=h.x0
 have m:=Q6w ps ba sh fe l (x.toNat+1) (l.length-(x.toNat+1))
 rw [show x.toNat+1+(l.length-(x.toNat+1))=l.length by omega] at m
 have e:codeA ps ba sh fe l (x.toNat+1)=stepC ps ba sh fe l x.toNat c:=by rw [h.code];rfl
 rw [e] at m
 unfold okA
 rw [decide_eq_false W31]
def ToA (ps:List Plc) (ba sh:Int) (fe:List Int) (l:List Nod):Prop:=∀ i:Nat,i<(codeA ps ba sh fe l l.length).length→((codeA ps ba sh fe l l.length).getD i ub).kind=8∨((codeA ps ba sh fe l l.length).getD i ub).kind=9 →
 (innA ps ba sh fe l l.length (i:Int)).getD 0=0→0≤((codeA ps ba sh fe l l.length).getD i ub).to∧((codeA ps ba sh fe l l.length).getD i ub).to<(l.length:Int)
section
variable {ps:List Plc} {ba sh:Int} {fe:List Int} {l:List Nod} {x:Int} {c cd:List Ins} {s:List Int} {n:Nat} {F:Int→Option Int} {i:Int}
theorem Qns (h0:0≤x) (h:hasF fe x=true):fenC fe l x.toNat c=c++putL ((l.getD x.toNat ub).origin+1) [Ins.mk 6 0 0 0 0 0 0 0 0]:=by unfold fenC;rw [ko h0,if_pos h]
theorem Qnt (h0:0≤x) (h:hasF fe x=false):fenC fe l x.toNat c=c:=by unfold fenC;rw [ko h0,if_neg W197]
theorem Qj5 (h0:0≤x) (h:(!decide ((l.getD x.toNat ub).kind=(9:Int))&&!decide ((l.getD x.toNat ub).next=x+1))=true):stepC ps ba sh fe l x.toNat c=nodC ps ba sh fe l x.toNat c++putL ((l.getD x.toNat ub).origin+1) [Ins.mk 8 0 0 0 0 0 (l.getD x.toNat ub).next 0 0]:=
 Qlt (by rw [ko h0];exact h)
theorem Qj6 (h0:0≤x) (h:(!decide ((l.getD x.toNat ub).kind=(9:Int))&&!decide ((l.getD x.toNat ub).next=x+1))=false):stepC ps ba sh fe l x.toNat c=nodC ps ba sh fe l x.toNat c:=
 Qlu (by rw [ko h0];exact h)
theorem Qkc {a b d:Bool} (h:((a||b)&&d)=true):(a=true∨b=true)∧d=true:=by cases a<;>cases b<;>cases d<;>simp at h ⊢
theorem Qps (h0:0≤i) (hcd:cd=fixN s F c i.toNat) (hb:((decide ((cd.getD i.toNat ub).kind=(8:Int))||decide ((cd.getD i.toNat ub).kind=(9:Int)))&&decide ((F i).getD (0:Int)=(0:Int)))=true) :
 cd.set i.toNat { cd.getD i.toNat ub with to:=s.getD (cd.getD i.toNat ub).to.toNat 0 }=fixN s F c (i+1).toNat:=by
 have b:=Qkc hb
 rw [show (i+1).toNat=i.toNat+1 by omega,fixN,← hcd]
 unfold fixI
 rw [ko h0,if_pos ⟨by rcases b.1 with q | q;exact .inl (uc q);exact .inr (uc q),uc b.2⟩]
theorem Qpt (h0:0≤i) (hi:i<(c.length:Int)) (hcd:cd=fixN s F c i.toNat) (hb:((decide ((cd.getD i.toNat ub).kind=(8:Int))||decide ((cd.getD i.toNat ub).kind=(9:Int)))&&decide ((F i).getD (0:Int)=(0:Int)))=false) :
 cd=fixN s F c (i+1).toNat:=by
 have hl:i.toNat<cd.length:=by rw [hcd,Z6];omega
 rw [show (i+1).toNat=i.toNat+1 by omega,fixN,← hcd]
 unfold fixI
 rw [ko h0,if_neg (fun q=>by
  rw [decide_eq_true q.2,Bool.and_true,j9] at hb
  rcases q.1 with q | q
  ·exact ud hb.1 q
  ·exact ud hb.2 q)]
 rw [jb,jc hl]
 exact (List.set_getElem_self hl).symm
theorem AlJ.to (h:AlJ ps ba sh fe l x c s n F) (hx:¬ x<(l.length:Int)) (ht:ToA ps ba sh fe l) (h0:0≤i) (hi:i<(c.length:Int)) (hcd:cd=fixN s F c i.toNat) (hb:((decide ((cd.getD i.toNat ub).kind=(8:Int))||decide ((cd.getD i.toNat ub).kind=(9:Int)))&&decide ((F i).getD (0:Int)=(0:Int)))=true) :
 0≤(cd.getD i.toNat ub).to∧(cd.getD i.toNat ub).to<(s.length:Int):=by
 have e:x.toNat=l.length:=by have:=h.x0;have:=h.xl;omega
 have b:=Qkc hb
 have hg:cd.getD i.toNat ub=c.getD i.toNat default:=by rw [hcd];exact Q7u s F c _ _ (jm _)
 rw [hg] at b ⊢
 have hc:=h.code
 have hF:=h.inn
 have hs:=h.star
 rw [e] at hc hF hs
 subst hc hF hs
 have:=ht i.toNat W31 (by rcases b.1 with q | q;exact .inl (uc q);exact .inr (uc q)) (by rw [ko h0];exact uc b.2)
 refine ⟨this.1,?_⟩
 unfold starA;rw [jK,kv];exact this.2
theorem AlJ.done (h:AlJ ps ba sh fe l x c s n F) (hx:¬ x<(l.length:Int)) (hi0:0≤i) (hi:i≤(c.length:Int)) (hi2:¬ i<(c.length:Int)) (hcd:cd=fixN s F c i.toNat):true=okA ps ba sh fe l∧(true=true→cd=finA ps ba sh fe l∧s=starA ps ba sh fe l l.length):=by
 have e:x.toNat=l.length:=by have:=h.x0;have:=h.xl;omega
 have hc:=h.code
 have hF:=h.inn
 have hs:=h.star
 have hl:=h.len
 rw [e] at hc hF hs
 have ei:i.toNat=c.length:=by omega
 refine ⟨?_,fun _=>⟨?_,hs⟩⟩
 ·unfold okA;rw [decide_eq_true (by rw [← hc];exact hl)]
 ·rw [hcd,ei];unfold finA;rw [← hc,← hF,← hs]
end
theorem Qgj (l:List Ins) (k:Nat) (v:Int):∀ i,i<(l.set k { l.getD k ub with to:=v }).length→Ins.tc ((l.set k { l.getD k ub with to:=v }).getD i ub)=updT (fun i=>Ins.tc (l.getD i ub)) k 6 [.int .i64 v] i:=
 Zf ub Ins.tc l k 6 _ _ (fun j=>by rcases j with _ | _ | _ | _ | _ | _ | _ | _ | _ | j<;>simp [Ins.tc,Ins.tl,nthT,nth])
def Good (P:Ins→Prop) (N k L:Nat) (F:Int→Option Int) (i:Nat) (x:Ins):Prop:=
 P x∧(x.kind=8∨x.kind=9→if (F (i:Int)).getD 0=0 then 0≤x.to∧x.to<(N:Int) else 0≤x.to∧(x.to<(L:Int)∨(k<N∧x.to≤(L:Int))))
def CodJ (P:Ins→Prop) (N k:Nat) (c:List Ins) (F:Int→Option Int):Prop:=
 (∀ i:Nat,i<c.length→Good P N k c.length F i (c.getD i ub))∧∀ i:Nat,c.length≤i→F (i:Int)=none
theorem Q0k {l m:List Ins} {i:Nat} (h:i<l.length):(l++m).getD i ub=l.getD i default:=by
 rw [jb,jp h,← jb]
theorem Q0l {l m:List Ins} {i:Nat} (h:l.length≤i):(l++m).getD i ub=m.getD (i-l.length) default:=by
 rw [jb,jy h,← jb]
theorem Q2h {l:List Ins} {i:Nat} (h:i<l.length):l.getD i ub∈l:=by
 rw [jb,jc h];exact jQ h
section
variable {P:Ins→Prop} {N k:Nat} {c seg:List Ins} {F F':Int→Option Int}
theorem CodJ.app (h:CodJ P N k c F) (hF:∀ i:Nat,i<c.length→F' (i:Int)=F (i:Int)) (hs:∀ j:Nat,j<seg.length→Good P N (k+1) (c.length+seg.length) F' (c.length+j) (seg.getD j ub))
 (hk:k<N) (hne:k+1=N→seg≠[]) (hhi:∀ i:Nat,c.length+seg.length≤i→F' (i:Int)=none):CodJ P N (k+1) (c++seg) F':=by
 refine ⟨fun i hi=>?_,fun i hi=>hhi i (by rw [jl] at hi;exact hi)⟩
 rw [jl] at hi ⊢
 by_cases hc:i<c.length
 ·rw [Q0k hc]
  obtain ⟨g1,g2⟩:=h.1 i hc
  refine ⟨g1,fun hj=>?_⟩
  have g:=g2 hj
  rw [hF i hc]
  split
  ·rename_i e;rw [if_pos e] at g;exact g
  ·rename_i e;rw [if_neg e] at g
   refine ⟨g.1,?_⟩
   rcases g.2 with q | q
   ·exact .inl W31
   ·by_cases hs0:seg=[]
    ·subst hs0
     refine .inr ⟨by have:=mt hne W149;omega,by simpa using q.2⟩
    ·have:0<seg.length:=List.length_pos_iff.2 hs0
     exact .inl W31
 ·rw [Q0l W31]
  have:=hs (i-c.length) W31
  rw [show c.length+(i-c.length)=i by omega] at this
  exact this
theorem CodJ.plain (h:CodJ P N k c F) (hs:∀ x∈seg,P x∧(x.kind=8∨x.kind=9→0≤x.to∧x.to<(N:Int))) (hk:k<N) (hne:k+1=N→seg≠[]):CodJ P N (k+1) (c++seg) F:=
 h.app (fun _ _=>rfl) (fun j hj=>by
  have:=hs _ (Q2h hj)
  refine ⟨this.1,fun q=>?_⟩
  rw [h.2 _ W31]
  exact this.2 q) hk hne (fun i hi=>h.2 i W31)
end
theorem nk {a:Int} (h:(a==8||a==9)=false):a≠8∧a≠9:=by
 simp only [j9,beq_eq_false_iff_ne] at h
 exact h
theorem nj {a:Int} (h:(a==8||a==9)=false) (q:a=8∨a=9):False:=q.elim (nk h).1 (nk h).2
theorem Q5m {gm:Gm} {v:Vl} {r:Int} {x:Ins} (h:x∈gFetch gm v r):x.kind≠8∧x.kind≠9:=by
 unfold gFetch at h
 split at h
 ·split at h
  ·cases List.mem_singleton.1 h;exact nk rfl
  ·cases h
 ·cases List.mem_singleton.1 h;exact nk rfl
theorem Qlv {gm:Gm} {s:Int} {x:Ins} (h:x∈gKeep gm s):x.kind≠8∧x.kind≠9:=by
 unfold gKeep at h
 split at h
 ·cases List.mem_singleton.1 h;exact nk rfl
 ·cases h
theorem Qlw {gm:Gm} {v:Vl} {r:Int} {x:Ins} (h:x∈gMove gm v r):x.kind≠8∧x.kind≠9:=by
 unfold gMove at h
 split at h
 ·cases List.mem_singleton.1 h;exact nk rfl
 ·exact Q5m h
theorem Qlx {gm:Gm} {len:Int} {n:Nod} (h5:n.kind≠5) {x:Ins} (h:x∈gNode gm len n) (hj:x.kind=8∨x.kind=9):n.kind=8∧x.to=n.els:=by
 unfold gNode gSetN gSwapN at h
 repeat' split at h
 all_goals simp only [kM,ku,kg,or_false] at h
 all_goals first
  | exact absurd ‹n.kind=5› h5
  | (rcases h with h | h
     ·have:=Q5m h;omega
     ·subst h;exact ⟨by assumption,rfl⟩)
  | (exfalso
     repeat' (rcases h with h | h)
     all_goals first
      | (have:=Q5m h;omega)
      | (have:=Qlw h;omega)
      | (have:=Qlv h;omega)
      | exact nj rfl hj
      | (subst h;exact nj rfl hj)
      | cases h)
section
variable {P:Ins→Prop} {ps:List Plc} {ba sh:Int} {fe:List Int} {l:List Nod}
structure NodG (P:Ins→Prop) (ps:List Plc) (ba sh:Int) (N:Nat) (n:Nod):Prop where
 fence:P { (Ins.mk 6 0 0 0 0 0 0 0 0) with from_:=n.origin+1 }
 code:∀ len:Int,∀ x∈gNode (gmA ps ba sh n) len n,P x
 jump:P { (Ins.mk 8 0 0 0 0 0 n.next 0 0) with from_:=n.origin+1 }
 next:n.kind≠9→0≤n.next∧n.next<(N:Int)
 els:n.kind=8→0≤n.els∧n.els<(N:Int)
theorem Qdi {F:Int→Option Int} {nd:Nod} {n:Int} {i:Nat} (h:(i:Int)<n+2):innS F nd n (i:Int)=F (i:Int):=by
 unfold innS innF;split
 ·show (if (i:Int)=n+3 then some 1 else if (i:Int)=n+2 then some 1 else F i)=_
  rw [if_neg W31,if_neg W31]
 ·rfl
theorem Qdj {F:Int→Option Int} {nd:Nod} {n:Int} {i:Nat} (h:n+4≤(i:Int)):innS F nd n (i:Int)=F (i:Int):=by
 unfold innS innF;split
 ·show (if (i:Int)=n+3 then some 1 else if (i:Int)=n+2 then some 1 else F i)=_
  rw [if_neg W31,if_neg W31]
 ·rfl
theorem Q0m {k:Nat} {c:List Ins}:stepC ps ba sh fe l k c=c++((if hasF fe k then [{ (Ins.mk 6 0 0 0 0 0 0 0 0) with from_:=(l.getD k ub).origin+1 }] else [])++gNode (gmA ps ba sh (l.getD k ub)) ((fenC fe l k c).length:Int) (l.getD k ub)++(if jmpB k (l.getD k ub) then [{ (Ins.mk 8 0 0 0 0 0 (l.getD k ub).next 0 0) with from_:=(l.getD k ub).origin+1 }] else [])):=by
 unfold stepC nodC
 have e:fenC fe l k c=c++(if hasF fe k then [{ (Ins.mk 6 0 0 0 0 0 0 0 0) with from_:=(l.getD k ub).origin+1 }] else []):=by
  unfold fenC;split
  ·rfl
  ·rw [j6]
 split
 ·rw [e];simp [putL]
 ·rw [e];simp
theorem CodJ.step {k:Nat} {c:List Ins} {F:Int→Option Int} (h:CodJ P l.length k c F) (hk:k<l.length) (hn:NodG P ps ba sh l.length (l.getD k ub)) :
 CodJ P l.length (k+1) (stepC ps ba sh fe l k c) (innS F (l.getD k ub) ((fenC fe l k c).length:Int)):=by
 have hlast:k+1=l.length→jmpB k (l.getD k ub)=true∨(l.getD k ub).kind=9:=fun e=>by
  by_cases h9:(l.getD k ub).kind=9
  ·exact .inr h9
  ·left
   have:=hn.next h9
   unfold jmpB
   rw [decide_eq_false h9,decide_eq_false W31];rfl
 have hjmp:jmpB k (l.getD k ub)=true→(l.getD k ub).kind≠9:=fun e q=>by
  unfold jmpB at e;rw [decide_eq_true q] at e;cases e
 have hf:=G0 fe l k c
 have hfl:(fenC fe l k c).length=c.length+(if hasF fe k then [{ (Ins.mk 6 0 0 0 0 0 0 0 0) with from_:=(l.getD k ub).origin+1 }] else ([]:List Ins)).length:=by
  unfold fenC;split
  ·rw [jl,Q08];rfl
  ·rfl
 rw [Q0m]
 by_cases h5:(l.getD k ub).kind=5
 ·have hg:=Qdg (gm:=gmA ps ba sh (l.getD k ub)) (k:=((fenC fe l k c).length:Int)) h5
  have hin:∀ i:Nat,(innS F (l.getD k ub) ((fenC fe l k c).length:Int)) (i:Int)=if (i:Int)=((fenC fe l k c).length:Int)+3 then some 1 else if (i:Int)=((fenC fe l k c).length:Int)+2 then some 1 else F (i:Int):=fun i=>by unfold innS innF;rw [if_pos h5]
  have hcode:=hn.code ((fenC fe l k c).length:Int)
  rw [hg] at hcode ⊢
  have hl4:(putL (gmA ps ba sh (l.getD k ub)).fr [Ins.mk 1 0 15 0 0 0 0 1 0,Ins.mk 5 0 15 0 0 ((gmA ps ba sh (l.getD k ub)).shared+(l.getD k ub).thing) 0 0 0,Ins.mk 9 0 0 15 0 0 (((fenC fe l k c).length:Int)+4) 0 0,Ins.mk 8 0 0 0 0 0 ((fenC fe l k c).length:Int) 0 0]).length=4:=rfl
  generalize hA:(if hasF fe k then [{ (Ins.mk 6 0 0 0 0 0 0 0 0) with from_:=(l.getD k ub).origin+1 }] else ([]:List Ins))=A at hfl ⊢
  generalize hB:(if jmpB k (l.getD k ub) then [{ (Ins.mk 8 0 0 0 0 0 (l.getD k ub).next 0 0) with from_:=(l.getD k ub).origin+1 }] else ([]:List Ins))=B
  have hAm:∀ x∈A,P x∧(x.kind=8∨x.kind=9→0≤x.to∧x.to<(l.length:Int)):=fun x hx=>by
   rw [← hA] at hx
   split at hx
   ·cases List.mem_singleton.1 hx
    exact ⟨hn.fence,fun q=>(nj rfl q).elim⟩
   ·cases hx
  have hBm:∀ x∈B,P x∧(x.kind=8∨x.kind=9→0≤x.to∧x.to<(l.length:Int)):=fun x hx=>by
   rw [← hB] at hx
   split at hx
   ·rename_i e
    cases List.mem_singleton.1 hx
    exact ⟨hn.jump,fun _=>hn.next (hjmp e)⟩
   ·cases hx
  have hB1:k+1=l.length→B≠[]:=fun e=>by
   rcases hlast e with q | q
   ·rw [← hB,if_pos q];exact List.cons_ne_nil _ _
   ·omega
  refine h.app (fun i hi=>Qdi W31) (fun j hj=>?_) hk (fun _=>by intro q;simp only [List.append_eq_nil_iff] at q;cases q.1.2) (fun i hi=>?_)
  ·simp only [jl,hl4] at hj ⊢
   have hlt:c.length+j<A.length∨True:=.inr trivial
   by_cases j1:j<A.length
   ·rw [Q0k (by rw [jl];omega),Q0k j1]
    have:=hAm _ (Q2h j1)
    refine ⟨this.1,fun q=>?_⟩
    rw [Qdi W31,h.2 _ W31]
    exact this.2 q
   ·by_cases j2:j<A.length+4
    ·rw [Q0k (by rw [jl,hl4];omega),Q0l W31]
     have hm:(j-A.length)<4:=by omega
     have hx:=hcode _ (Q2h (i:=j-A.length) (by rw [hl4];exact hm))
     refine ⟨hx,fun q=>?_⟩
     have hj4:j-A.length=0∨j-A.length=1∨j-A.length=2∨j-A.length=3:=by omega
     rcases hj4 with e | e | e | e
     ·rw [e] at q;exact (nj rfl q).elim
     ·rw [e] at q;exact (nj rfl q).elim
     ·have hv:=hin (c.length+j)
      rw [if_neg W31,if_pos W31] at hv
      rw [e,hv,if_neg W147]
      show 0≤((fenC fe l k c).length:Int)+4∧(((fenC fe l k c).length:Int)+4<_∨(k+1<l.length∧((fenC fe l k c).length:Int)+4≤_))
      refine ⟨by omega,?_⟩
      by_cases hkn:k+1=l.length
      ·have:0<B.length:=List.length_pos_iff.2 (hB1 hkn)
       exact .inl W31
      ·exact .inr ⟨by omega,by omega⟩
     ·have hv:=hin (c.length+j)
      rw [if_pos W31] at hv
      rw [e,hv,if_neg W147]
      show 0≤((fenC fe l k c).length:Int)∧(((fenC fe l k c).length:Int)<_∨_)
      exact ⟨by omega,.inl W31⟩
    ·rw [Q0l (by rw [jl,hl4];omega),jl,hl4]
     have:=hBm _ (Q2h (i:=j-(A.length+4)) W31)
     refine ⟨this.1,fun q=>?_⟩
     rw [Qdj W31,h.2 _ W31]
     exact this.2 q
  ·simp only [jl,hl4] at hi
   rw [Qdj W31]
   exact h.2 i W31
 ·rw [Qgh h5]
  refine h.plain (fun x hx=>?_) hk (fun e=>?_)
  ·rcases List.mem_append.1 hx with hx | hx
   ·rcases List.mem_append.1 hx with hx | hx
    ·split at hx
     ·cases List.mem_singleton.1 hx
      exact ⟨hn.fence,fun q=>(nj rfl q).elim⟩
     ·cases hx
    ·refine ⟨hn.code _ x hx,fun q=>?_⟩
     have:=Qlx h5 hx q
     rw [this.2];exact hn.els this.1
   ·split at hx
    ·rename_i e
     cases List.mem_singleton.1 hx
     exact ⟨hn.jump,fun _=>hn.next (hjmp e)⟩
    ·cases hx
  ·rcases hlast e with q | q
   ·rw [if_pos q];intro z;simp at z
   ·rw [Qdh q];intro z;simp [putL] at z
theorem Q7v (hn:∀ k:Nat,k<l.length→NodG P ps ba sh l.length (l.getD k ub)):∀ k:Nat,k≤l.length→CodJ P l.length k (codeA ps ba sh fe l k) (innA ps ba sh fe l k)
 | 0,_=>⟨fun i hi=>absurd hi (by simp [codeA]),fun _ _=>rfl⟩
 | k+1,h=>(Q7v hn k W31).step W31 (hn k W31)
theorem Qnu (hn:∀ k:Nat,k<l.length→NodG P ps ba sh l.length (l.getD k ub)):ToA ps ba sh fe l:=fun i hi hk h0=>by
 have:=((Q7v hn l.length (jm _)).1 i hi).2 hk
 rw [if_pos h0] at this
 exact this
end
structure FauQ (sh lk:List Dcl) (gs:List Grf) (fs:List Iln) (al:List Alc) (bf:Int):Prop where
 nam:namedB sh lk gs=true
 ns:sh.length≤64
 nl:lk.length≤16
 ng:gs.length≤8
 grf:∀ t:Nat,t<gs.length→GrfQ sh.length lk.length (gs.getD t default)
 nf:fs.length=gs.length
 fen:∀ t:Nat,t<gs.length→fenB ((gs.getD t default).nodes.length:Int) (fs.getD t default).l=true
 na:al.length=gs.length
 fit:∀ t:Nat,t<gs.length→fitB (gs.getD t default).slots (al.getD t default)=true
 bf:1≤bf∧bf≤16
section
variable {sh lk:List Dcl} {gs:List Grf} {fs:List Iln} {al:List Alc} {bf:Int}
theorem Q9o (h:fauU sh lk gs fs al bf=0):FauQ sh lk gs fs al bf:=by
 unfold fauU at h
 split at h
 ·rename_i h1;exact absurd h h1
 ·rename_i h1
  split at h
  ·rename_i h2;exact absurd h h2
  ·rename_i h2
   split at h
   ·exact absurd h W147
   ·rename_i h3
    split at h
    ·exact absurd h W147
    ·rename_i h4
     have h1:safU sh lk gs fs=0:=Decidable.not_not.1 h1
     have h2:(rgtU sh lk gs al).2=0:=Decidable.not_not.1 h2
     unfold safU at h1
     split at h1
     ·rename_i e;exact absurd h1 e
     ·rename_i e
      have e:(chkU sh lk gs).1=0:=Decidable.not_not.1 e
      have c:=Yj e
      split at h1
      ·exact absurd h1 W147
      ·rename_i e2
       split at h1
       ·rename_i e3
        unfold rgtU at h2
        rw [if_neg (by rw [e];decide)] at h2
        split at h2
        ·exact absurd h2 W147
        ·rename_i e4
         split at h2
         ·exact absurd h2 W147
         ·rename_i e5
          have hnm:namedB sh lk gs=true:=by
           unfold chkU at e
           split at e
           ·assumption
           ·exact absurd e W147
          refine ⟨hnm,c.1.1,c.1.2.1,c.1.2.2,c.2,by omega,fun t ht=>List.all_eq_true.1 e3 t (List.mem_range.2 ht),by omega,fun t ht=>?_,by omega⟩
          have:=List.all_eq_true.1 (by simpa using e5) t (List.mem_range.2 ht)
          exact this
       ·exact absurd h1 W147
end
section
variable (sh lk:List Dcl) (gs:List Grf) (fs:List Iln) (al:List Alc)
def baT (t:Nat):Int:=(mAt sh lk al al.length).getD t 0
def okT (t:Nat):Bool:=okA (al.getD t ub).places (baT sh lk al t) (sh.length:Int) (fs.getD t ub).l (gs.getD t ub).nodes
def codT (t:Nat):List Ins:=finA (al.getD t ub).places (baT sh lk al t) (sh.length:Int) (fs.getD t ub).l (gs.getD t ub).nodes
def staT (t:Nat):List Int:=starA (al.getD t ub).places (baT sh lk al t) (sh.length:Int) (fs.getD t ub).l (gs.getD t ub).nodes (gs.getD t ub).nodes.length
def corL (n:Nat):List Cor:=(jB n).map fun t=>⟨(gs.getD t ub).name,codT sh lk gs fs al t⟩
def sttL (n:Nat):List Iln:=(jB n).map fun t=>⟨staT sh lk gs fs al t⟩
abbrev MadY:=Int×List Int×List Cor×List Iln×Int×Int×Int
def madR (bf:Int):MadY:=(0,memL sh lk al al.length,corL sh lk gs fs al gs.length,sttL sh lk gs fs al gs.length,(sh.length:Int),(lk.length:Int),bf)
noncomputable def madU (bf:Int):MadY:=
 if fauU sh lk gs fs al bf≠0 then (fauU sh lk gs fs al bf,[],[],[],0,0,0)
 else if 4096<((memL sh lk al al.length).length:Int) then (3,[],[],[],0,0,0)
 else if (jB gs.length).all (okT sh lk gs fs al)=true then madR sh lk gs fs al bf else (3,[],[],[],0,0,0)
theorem Qgk (n:Nat):corL sh lk gs fs al (n+1)=corL sh lk gs fs al n++[⟨(gs.getD n ub).name,codT sh lk gs fs al n⟩]:=by unfold corL;rw [kz,kK];rfl
theorem Qgl (n:Nat):sttL sh lk gs fs al (n+1)=sttL sh lk gs fs al n++[⟨staT sh lk gs fs al n⟩]:=by unfold sttL;rw [kz,kK];rfl
theorem Qba (n:Nat):(corL sh lk gs fs al n).length=n:=by unfold corL;rw [jK,kv]
theorem Qbb (n:Nat):(sttL sh lk gs fs al n).length=n:=by unfold sttL;rw [jK,kv]
end
section
variable {sh lk:List Dcl} {gs:List Grf} {fs:List Iln} {al:List Alc} {bf:Int}
theorem Qpu (h1:(!decide (fauU sh lk gs fs al bf=(0:Int)))=true):(fauU sh lk gs fs al bf,[],[],[],0,0,0)=madU sh lk gs fs al bf:=by unfold madU;rw [if_pos W133]
theorem Qpv (h1:(!decide (fauU sh lk gs fs al bf=(0:Int)))=false) (h2:decide ((4096:Int)<((memL sh lk al al.length).length:Int))=true):(3,[],[],[],0,0,0)=madU sh lk gs fs al bf:=by
 unfold madU;rw [if_neg W133,if_pos (uc h2)]
structure MadJ (sh lk:List Dcl) (gs:List Grf) (fs:List Iln) (al:List Alc) (x:Int) (c:List Cor) (s:List Iln):Prop where
 x0:0≤x
 xl:x≤(gs.length:Int)
 c:c=corL sh lk gs fs al x.toNat
 s:s=sttL sh lk gs fs al x.toNat
 ok:∀ t:Nat,t<x.toNat→okT sh lk gs fs al t=true
theorem MadJ.start:MadJ sh lk gs fs al 0 [] []:=⟨jA _,by omega,rfl,rfl,fun t h=>absurd h W149⟩
section
variable {x:Int} {c:List Cor} {s:List Iln}
theorem Qpw (h1:(!decide (fauU sh lk gs fs al bf=(0:Int)))=false) (h2:decide ((4096:Int)<((memL sh lk al al.length).length:Int))=false) (h:MadJ sh lk gs fs al x c s) (hx:decide (x<(gs.length:Int))=true) (ho:(!okT sh lk gs fs al x.toNat)=true):(3,[],[],[],0,0,0)=madU sh lk gs fs al bf:=by
 have h0:=h.x0
 have hx:=uc hx
 have hn:¬ (jB gs.length).all (okT sh lk gs fs al)=true:=fun q=>by
  have:=List.all_eq_true.1 q x.toNat (List.mem_range.2 W31)
  rw [this] at ho;cases ho
 unfold madU;rw [if_neg W133,if_neg (ud h2),if_neg hn]
theorem Qpx (h1:(!decide (fauU sh lk gs fs al bf=(0:Int)))=false) (h2:decide ((4096:Int)<((memL sh lk al al.length).length:Int))=false) (h:MadJ sh lk gs fs al x c s) (hx:decide (x<(gs.length:Int))=false):(0,memL sh lk al al.length,c,s,(sh.length:Int),(lk.length:Int),bf)=madU sh lk gs fs al bf:=by
 have h0:=h.x0
 have hl:=h.xl
 have hx:=ud hx
 have e:x.toNat=gs.length:=by omega
 have hn:(jB gs.length).all (okT sh lk gs fs al)=true:=List.all_eq_true.2 fun t ht=>h.ok t (by rw [e];exact List.mem_range.1 ht)
 unfold madU;rw [if_neg W133,if_neg (ud h2),if_pos hn,h.c,h.s,e];rfl
theorem MadJ.next (h:MadJ sh lk gs fs al x c s) (hx:decide (x<(gs.length:Int))=true) (ho:(!okT sh lk gs fs al x.toNat)=false):MadJ sh lk gs fs al (x+1) (c++[⟨(gs.getD x.toNat ub).name,codT sh lk gs fs al x.toNat⟩]) (s++[⟨staT sh lk gs fs al x.toNat⟩]):=by
 have h0:=h.x0
 have hx:=uc hx
 have e:(x+1).toNat=x.toNat+1:=by omega
 refine ⟨by omega,by omega,by rw [e,Qgk,h.c],by rw [e,Qgl,h.s],fun t ht=>?_⟩
 by_cases q:t<x.toNat
 ·exact h.ok t q
 ·have:t=x.toNat:=by omega
  subst this;simpa using ho
end
theorem Qbc {t:Nat} (h:t<al.length):baT sh lk al t=((memL sh lk al t).length:Int):=by
 unfold baT mAt
 rw [jb,jk,ke h];rfl
theorem FauQ.cells (h:FauQ sh lk gs fs al bf):∀ j:Nat,j<al.length→0≤(al.getD j ub).cells∧(al.getD j ub).cells≤4160:=fun j hj=>Q3x (h.fit j (by have:=h.na;omega))
theorem FauQ.ba (h:FauQ sh lk gs fs al bf) {t:Nat} (ht:t<gs.length):0≤baT sh lk al t∧baT sh lk al t≤100000:=by
 have:=h.na;have:=h.ns;have:=h.nl;have:=h.ng
 have:=Q5k sh lk al (fun j hj=>(h.cells j hj).2) t W31
 rw [Qbc W31]
 omega
theorem FauQ.fl (h:FauQ sh lk gs fs al bf) {t:Nat} (ht:t<gs.length):(fs.getD t ub).l.length≤8388608:=by
 have:=(h.grf t ht).len
 rcases fenR_len (h.fen t ht) with q | q
 ·rw [q];simp
 ·omega
theorem FauQ.ps (h:FauQ sh lk gs fs al bf) {t:Nat} (ht:t<gs.length):((al.getD t ub).places.length:Int)=(gs.getD t ub).slots:=Qd7 (h.fit t ht)
theorem FauQ.org (h:FauQ sh lk gs fs al bf) {t:Nat} (ht:t<gs.length) {i:Nat} (hi:i<(gs.getD t ub).nodes.length):0≤((gs.getD t ub).nodes.getD i ub).origin∧((gs.getD t ub).nodes.getD i ub).origin≤4095:=by
 have:=(h.grf t ht).nod i hi
 unfold rightN at this
 simp only [je,jL,j9,decide_eq_false_iff_not] at this
 omega
theorem FauQ.gm (h:FauQ sh lk gs fs al bf) {t:Nat} (ht:t<gs.length) (fr:Int):GmQ (Gm.mk (al.getD t ub).places (baT sh lk al t) (sh.length:Int) fr):=by
 refine ⟨h.ba ht,by have:=h.ns;show 0≤(sh.length:Int)∧(sh.length:Int)≤100000;omega,fun i hi=>?_⟩
 have a:=Qb6 (h.fit t ht) hi
 have c:=Q3x (h.fit t ht)
 refine ⟨a.1,?_⟩
 have:=a.2
 split at this<;>(show ((al.getD t ub).places.getD i ub).n≤4160)<;>omega
section
variable {t:Nat}
theorem Qgm {ns nl:Nat} {g:Grf} {n:Nod} (h:rightN ns nl g n=true) (hk0:0≤n.kind) (h1:ns≤64) (h2:nl≤16):0≤n.thing∧n.thing≤1000:=by
 have q:=Q5d h hk0
 by_cases h5:n.kind=5∨n.kind=6
 ·have:=q.lock h5;omega
 ·by_cases h2:n.kind=2∨n.kind=3∨n.kind=4
  ·have:=q.thing h2;omega
  ·unfold rightN at h
   simp only [je] at h
   have w3:=h.2.1.1.1.1.2
   have hz:usesB (prtN n) 4=false:=by
    have hk:=q.k
    have:n.kind=1∨n.kind=7∨n.kind=8∨n.kind=9:=by omega
    unfold prtN
    rcases this with e | e | e | e<;>rw [e]
    ·cases twoB n.op<;>rfl
    all_goals (simp;rfl)
   have:=Q6p hz w3
   omega
theorem FauQ.nd (h:FauQ sh lk gs fs al bf) (hw:UnitW gs) (ht:t<gs.length) {i:Nat} (hi:i<(gs.getD t ub).nodes.length) (fr:Int):NdQ (Gm.mk (al.getD t ub).places (baT sh lk al t) (sh.length:Int) fr) ((gs.getD t ub).nodes.getD i ub):=by
 have q:=(h.grf t ht).q (fun b=>(hw t b).1) i hi
 have p:=h.ps ht
 refine ⟨fun k=>?_,fun k=>?_,fun k=>?_,Qgm ((h.grf t ht).nod i hi) (hw t i).1 h.ns h.nl⟩
 ·have:=q.slot k;show 0≤_∧_<((al.getD t ub).places.length:Int);omega
 ·have:=q.a k;show 0≤_∧_<((al.getD t ub).places.length:Int);omega
 ·have:=q.b k;show 0≤_∧_<((al.getD t ub).places.length:Int);omega
theorem FauQ.to (h:FauQ sh lk gs fs al bf) (hw:UnitW gs) (ht:t<gs.length):ToA (al.getD t ub).places (baT sh lk al t) (sh.length:Int) (fs.getD t ub).l (gs.getD t ub).nodes:=
 Qnu (P:=fun _=>True) fun k hk=>by
  have q:=(h.grf t ht).q (fun b=>(hw t b).1) k hk
  exact ⟨trivial,fun _ _ _=>trivial,trivial,q.next,q.els⟩
end
end
theorem Qet {p:Int→Bool} {n k:Int}:∀ (m:Nat) (i:Int),(n-i).toNat=m→allFrom p i n=true→i≤k→k<n→p k=true:=by
 intro m
 induction m with
 | zero=>intro i h _ h1 h2;omega
 | succ m ih =>
   intro i h ha h1 h2
   rw [Qao p W31,je] at ha
   by_cases e:i=k
   ·subst e;exact ha.1
   ·exact ih (i+1) W31 ha.2 W31 h2
def didAt (l:List Did) (i:Int):Did:=l.getD i.toNat ub
def rightP (l:List Did) (i:Int):Bool:=didB (didAt l i)
def rightsB (l:List Did):Bool:=allFrom (rightP l) 0 l.length
theorem Qgn {l:List Did} (h:rightsB l=true) {i:Int} (h0:0≤i) (h1:i<l.length):didB (l.getD i.toNat ub)=true:=
 Qet (p:=rightP l) _ 0 rfl h h0 h1
theorem Qck {d:Did} (h:didB d=true):0<d.kind∧d.kind<9∧0≤d.core∧d.core<8∧0≤d.addr∧d.addr<4096:=by
 unfold didB at h
 simp only [BL] at h
 omega
def evE (mem:List Int) (shared locks bu:Int) (cs:List Cor) (l:List Did):Int:=
 if chkE mem shared locks bu cs=0 then if rightsB l then 0 else 190 else chkE mem shared locks bu cs
theorem Q9k {mem:List Int} {shared locks bu:Int} {cs:List Cor} (h:shapedB mem shared locks bu cs=true):0≤shared∧shared≤64∧0≤locks∧locks≤16∧shared+locks≤(mem.length:Int)∧(mem.length:Int)≤4096:=by
 unfold shapedB at h
 simp only [je,decide_eq_true_eq] at h
 omega
theorem Qgo {mem:List Int} {shared locks bu:Int} {cs:List Cor} (h:chkE mem shared locks bu cs=0):0≤shared∧shared≤64∧0≤locks∧locks≤16∧shared+locks≤(mem.length:Int)∧(mem.length:Int)≤4096:=by
 refine Q9k (bu:=bu) (cs:=cs) ?_
 unfold chkE at h
 cases hs:shapedB mem shared locks bu cs with
 | true=>rfl
 | false=>rw [hs] at h;simp at h
theorem rng {l:List Did} (hr:rightsB l=true) {i:Int} (h0:0≤i) (h1:i<l.length):0≤(l.getD i.toNat ub).addr∧(l.getD i.toNat ub).addr<4096:=by
 have:=Qck (Qgn hr h0 h1);omega
theorem shr {mem:List Int} {shared locks bu:Int} {cs:List Cor} (h:chkE mem shared locks bu cs=0):0≤shared∧shared≤64∧0≤locks∧locks≤16:=by
 have:=Qgo h;omega
theorem Yc {mem:List Int} {shared locks bu:Int} {cs:List Cor} {l:List Did} (h:evE mem shared locks bu cs l=0):0≤shared∧shared≤64∧0≤locks∧locks≤16:=by
 unfold evE at h
 split at h
 ·rename_i hc;exact shr hc
 ·rename_i hc;exact absurd h hc
theorem Y4 {mem:List Int} {shared locks bu:Int} {cs:List Cor} {l:List Did} (h:evE mem shared locks bu cs l=0):shared+locks≤(mem.length:Int):=by
 unfold evE at h
 split at h
 ·rename_i hc;have:=Qgo hc;omega
 ·rename_i hc;exact absurd h hc
def askE (mem:List Int) (shared locks bu:Int) (cs:List Cor) (l:List Did) (cl:List Cls):Int:=
 if evE mem shared locks bu cs l=0 then if (cl.length:Int)=shared then 0 else 210 else evE mem shared locks bu cs l
theorem Y5 {mem:List Int} {shared locks bu:Int} {cs:List Cor} {l:List Did} {cl:List Cls} (h:askE mem shared locks bu cs l cl=0):evE mem shared locks bu cs l=0∧(cl.length:Int)=shared:=by
 unfold askE at h
 split at h
 ·rename_i h1
  split at h
  ·rename_i h2;exact ⟨h1,h2⟩
  ·simp at h
 ·rename_i h1;exact absurd h h1
section
variable {bu:Int} {cs:List Cor} {k:Int} {vs:List VCo} {mem:List Int} {pr:List Prt}
variable {i:Ins} {d:Did} {c:VCo}
end
section
variable {bu:Int} {cs:List Cor} {k:Int} {vs:List VCo} {mem:List Int} {pr:List Prt} {s:Stp}
end
section
variable {vs:List VCo} {k:Int} {r:Nat}
end
section
variable {bu:Int} {cs:List Cor} {vs:List VCo} {mem:List Int}
end
def newVs (n:Nat):List VCo:=ji n ⟨0,false,ji 16 0,[]⟩
section
variable {mem:List Int} {shared locks bu:Int} {cs:List Cor}
end
section
variable {bu:Int} {cs:List Cor} {vs:List VCo} {mem:List Int}
end
def insB0 (i:Ins) (memory:Int):Bool:=
 decide (0<i.kind)&&decide (i.kind<11)&&decide (0≤i.from_)&&decide (i.from_≤4096) &&
 (decide (i.kind=2)&&opB i.op||!decide (i.kind=2)&&decide (i.op=0)) &&
 within (useD i.kind) i.d 16&&within (useA i.kind) i.a 16&&within (decide (i.kind=2)&&twoB i.op) i.b 16 &&
 within (useAddr i.kind) i.addr memory&&(decide (i.kind=1)||decide (i.word=0))
def AdN (ba ac sh:Int) (n:Nod) (a:Int):Prop:=(ba≤a∧a<ba+ac)∨((n.kind=2∨n.kind=3∨n.kind=4)∧a=n.thing)∨((n.kind=5∨n.kind=6)∧a=sh+n.thing)
def InsP (M ba ac sh:Int) (n:Nod) (x:Ins):Prop:=insB0 x M=true∧(useTo x.kind=false→x.to=0)∧(useAddr x.kind=true→AdN ba ac sh n x.addr)∧x.kind≠6
structure PlG (ac:Int) (p:Plc):Prop where
 c:p.cell=true→0≤p.n∧p.n<ac
 r:p.cell=false→0≤p.n∧p.n<13
structure GmG (M:Int) (ac nl:Int) (gm:Gm):Prop where
 b:0≤gm.base∧gm.base+ac≤M
 s:0≤gm.shared∧gm.shared+nl≤M
 fr:0≤gm.fr∧gm.fr≤4096
 nl:0≤nl
structure NodW (nl sh ac:Int) (gm:Gm) (n:Nod):Prop where
 k:1≤n.kind∧n.kind≤9
 op:n.op=0∨opB n.op=true
 slot:n.kind=1∨n.kind=2∨n.kind=4→PlG ac (gm.pl n.slot)
 a:n.a.slotted=true→PlG ac (gm.pl n.a.slot)
 b:n.b.slotted=true→PlG ac (gm.pl n.b.slot)
 th:n.kind=2∨n.kind=3∨n.kind=4→0≤n.thing∧n.thing<sh
 lk:n.kind=5∨n.kind=6→0≤n.thing∧n.thing<nl
section
variable {M ba ac nl sh:Int} {gm:Gm} {n:Nod} {v:Vl} {x:Ins}
theorem Qeu {d w:Int} (h:GmG M ac nl gm) (hd:0≤d∧d<16):InsP M ba ac sh n (gSet gm d w):=by
 have:=h.fr
 refine ⟨?_,fun _=>rfl,fun q=>W204,by show (1:Int)≠6;decide⟩
 show insB0 (Ins.mk 1 0 d 0 0 0 0 w gm.fr) M=true
 simp [insB0,within,useD,useA,useAddr,twoB,opB];omega
theorem Qnv {op d a b:Int} (h:GmG M ac nl gm) (hd:0≤d∧d<16) (ha:0≤a∧a<16) (ho:opB op=true) (hb:twoB op=true∧0≤b∧b<16∨twoB op=false∧b=0):InsP M ba ac sh n { (ub:Ins) with kind:=2,op:=op,d:=d,a:=a,b:=b,from_:=gm.fr }:=by
 have:=h.fr
 refine ⟨?_,fun _=>rfl,fun q=>W204,by show (2:Int)≠6;decide⟩
 show insB0 (Ins.mk 2 op d a b 0 0 0 gm.fr) M=true
 unfold insB0
 rw [show opB (Ins.mk 2 op d a b 0 0 0 gm.fr).op=true from ho]
 rcases hb with hb | hb
 ·rw [show twoB (Ins.mk 2 op d a b 0 0 0 gm.fr).op=true from hb.1]
  simp [within,useD,useA,useAddr];omega
 ·rw [show twoB (Ins.mk 2 op d a b 0 0 0 gm.fr).op=false from hb.1]
  simp [within,useD,useA,useAddr];omega
theorem Qnw {d p:Int} (h:GmG M ac nl gm) (hd:0≤d∧d<16) (hp:0≤p∧p<16):InsP M ba ac sh n (gOr gm d p):=Qnv h hd hp rfl (.inl ⟨rfl,hp⟩)
theorem Qgp {d a:Int} (h:GmG M ac nl gm) (hd:0≤d∧d<16) (ha:0≤a∧a<M) (hn:AdN ba ac sh n a):InsP M ba ac sh n (gLoad gm d a):=by
 have:=h.fr
 refine ⟨?_,fun _=>rfl,fun _=>hn,by show (3:Int)≠6;decide⟩
 show insB0 (Ins.mk 3 0 d 0 0 a 0 0 gm.fr) M=true
 simp [insB0,within,useD,useA,useAddr,twoB,opB];omega
theorem Q7w {r a:Int} (h:GmG M ac nl gm) (hd:0≤r∧r<16) (ha:0≤a∧a<M) (hn:AdN ba ac sh n a):InsP M ba ac sh n (gStore gm r a):=by
 have:=h.fr
 refine ⟨?_,fun _=>rfl,fun _=>hn,by show (4:Int)≠6;decide⟩
 show insB0 (Ins.mk 4 0 0 r 0 a 0 0 gm.fr) M=true
 simp [insB0,within,useD,useA,useAddr,twoB,opB];omega
theorem Qgq {d a:Int} (h:GmG M ac nl gm) (hd:0≤d∧d<16) (ha:0≤a∧a<M) (hn:AdN ba ac sh n a):InsP M ba ac sh n (gSwap gm d a):=by
 have:=h.fr
 refine ⟨?_,fun _=>rfl,fun _=>hn,by show (5:Int)≠6;decide⟩
 show insB0 (Ins.mk 5 0 d 0 0 a 0 0 gm.fr) M=true
 simp [insB0,within,useD,useA,useAddr,twoB,opB];omega
theorem Qly {r:Int} (h:GmG M ac nl gm) (hd:0≤r∧r<16):InsP M ba ac sh n (gPrint gm r):=by
 have:=h.fr
 refine ⟨?_,fun _=>rfl,fun q=>W204,by show (7:Int)≠6;decide⟩
 show insB0 (Ins.mk 7 0 0 r 0 0 0 0 gm.fr) M=true
 simp [insB0,within,useD,useA,useAddr,twoB,opB];omega
theorem Qgr {r t:Int} (h:GmG M ac nl gm) (hd:0≤r∧r<16):InsP M ba ac sh n (gZero gm r t):=by
 have:=h.fr
 refine ⟨?_,fun q=>W204,fun q=>W204,by show (9:Int)≠6;decide⟩
 show insB0 (Ins.mk 9 0 0 r 0 0 t 0 gm.fr) M=true
 simp [insB0,within,useD,useA,useAddr,twoB,opB];omega
theorem Qnx {t:Int} (h:GmG M ac nl gm):InsP M ba ac sh n (gJump gm t):=by
 have:=h.fr
 refine ⟨?_,fun q=>W204,fun q=>W204,by show (8:Int)≠6;decide⟩
 show insB0 (Ins.mk 8 0 0 0 0 0 t 0 gm.fr) M=true
 simp [insB0,within,useD,useA,useAddr,twoB,opB];omega
theorem Qny (h:GmG M ac nl gm):InsP M ba ac sh n { (ub:Ins) with kind:=10,from_:=gm.fr }:=by
 have:=h.fr
 refine ⟨?_,fun _=>rfl,fun q=>W204,by show (10:Int)≠6;decide⟩
 show insB0 (Ins.mk 10 0 0 0 0 0 0 0 gm.fr) M=true
 simp [insB0,within,useD,useA,useAddr,twoB,opB];omega
theorem own_cell (h:GmG M ac nl gm) {p:Plc} (hp:PlG ac p) (hc:p.cell=true):(0≤gm.base+p.n∧gm.base+p.n<M)∧AdN gm.base ac sh n (gm.base+p.n):=by
 have:=h.b;have:=hp.c hc
 exact ⟨by omega,.inl W31⟩
theorem Q7x (h:GmG M ac nl gm) (hv:v.slotted=true→PlG ac (gm.pl v.slot)) {r:Int} (hr:0≤r∧r<16):(∀ x∈gFetch gm v r,InsP M gm.base ac sh n x)∧0≤gReg gm v r∧gReg gm v r<16:=by
 refine ⟨fun x hx=>?_,?_⟩
 ·unfold gFetch at hx
  split at hx
  ·rename_i e
   split at hx
   ·rename_i c
    cases List.mem_singleton.1 hx
    have:=own_cell (sh:=sh) (n:=n) h (hv e) c
    exact Qgp h hr this.1 this.2
   ·cases hx
  ·cases List.mem_singleton.1 hx
   exact Qeu h hr
 ·unfold gReg
  split
  ·rename_i e
   simp only [je,jL] at e
   have:=(hv e.1).r e.2
   omega
  ·exact hr
theorem Qgs (h:GmG M ac nl gm) (hv:v.slotted=true→PlG ac (gm.pl v.slot)) {r:Int} (hr:0≤r∧r<16):∀ x∈gMove gm v r,InsP M gm.base ac sh n x:=fun x hx=>by
 unfold gMove at hx
 split at hx
 ·rename_i e
  simp only [je,jL] at e
  cases List.mem_singleton.1 hx
  have:=(hv e.1).r e.2
  exact Qnw h hr W31
 ·exact (Q7x h hv hr).1 x hx
theorem Qgt {s:Int} (hp:PlG ac (gm.pl s)):0≤gGoal gm s∧gGoal gm s<16:=by
 unfold gGoal
 split
 ·omega
 ·rename_i e
  have:=hp.r (by simpa using e)
  omega
theorem Qbd {s:Int} (h:GmG M ac nl gm) (hp:PlG ac (gm.pl s)):∀ x∈gKeep gm s,InsP M gm.base ac sh n x:=fun x hx=>by
 unfold gKeep at hx
 split at hx
 ·rename_i c
  cases List.mem_singleton.1 hx
  have:=own_cell (sh:=sh) (n:=n) h hp c
  exact Q7w h W31 this.1 this.2
 ·cases hx
theorem Qgu (h:GmG M ac nl gm) (hn:NodW nl gm.shared ac gm n) (len:Int):∀ x∈gNode gm len n,InsP M gm.base ac gm.shared n x:=fun x hx=>by
 have hs:=h.s
 have hnl:=h.nl
 have f1:=Q7x (sh:=gm.shared) (n:=n) (r:=13) h hn.a W31
 have f2:=Q7x (sh:=gm.shared) (n:=n) (r:=14) h hn.b W31
 have m15:=Qgs (sh:=gm.shared) (n:=n) (r:=15) h hn.a W31
 unfold gNode at hx
 split at hx
 ·rename_i e
  have p:=hn.slot (.inl e)
  have kp:=Qbd (sh:=gm.shared) (n:=n) h p
  have go:=Qgt p
  unfold gSetN at hx
  split at hx
  ·rcases List.mem_append.1 hx with hx | hx
   ·exact Qgs h hn.a go x hx
   ·exact kp x hx
  ·rename_i o
   have ho:opB n.op=true:=hn.op.resolve_left o
   rcases List.mem_append.1 hx with hx | hx
   ·rcases List.mem_append.1 hx with hx | hx
    ·rcases List.mem_append.1 hx with hx | hx
     ·exact f1.1 x hx
     ·split at hx
      ·exact f2.1 x hx
      ·cases hx
    ·cases List.mem_singleton.1 hx
     refine Qnv h go f1.2 ho ?_
     cases t:twoB n.op with
     | true=>rw [if_pos rfl];exact .inl ⟨rfl,f2.2⟩
     | false=>rw [if_neg W147];exact .inr ⟨rfl,rfl⟩
   ·exact kp x hx
 ·split at hx
  ·rename_i e
   have p:=hn.slot (.inr (.inl e))
   have t:=hn.th (.inl e)
   rcases List.mem_append.1 hx with hx | hx
   ·cases List.mem_singleton.1 hx
    exact Qgp h (Qgt p) W31 (.inr (.inl ⟨.inl e,rfl⟩))
   ·exact Qbd h p x hx
  ·split at hx
   ·rename_i e
    have t:=hn.th (.inr (.inl e))
    rcases List.mem_append.1 hx with hx | hx
    ·exact f1.1 x hx
    ·cases List.mem_singleton.1 hx
     exact Q7w h f1.2 W31 (.inr (.inl ⟨.inr (.inl e),rfl⟩))
   ·split at hx
    ·rename_i e
     have p:=hn.slot (.inr (.inr e))
     have t:=hn.th (.inr (.inr e))
     unfold gSwapN at hx
     rcases List.mem_append.1 hx with hx | hx
     ·rcases List.mem_append.1 hx with hx | hx
      ·exact m15 x hx
      ·cases List.mem_singleton.1 hx
       exact Qgq h W31 W31 (.inr (.inl ⟨.inr (.inr e),rfl⟩))
     ·split at hx
      ·exact Qbd h p x hx
      ·rename_i c
       cases List.mem_singleton.1 hx
       have:=p.r (by simpa using c)
       exact Qnw h W31 W31
    ·split at hx
     ·rename_i e
      have t:=hn.lk (.inl e)
      simp only [ku,kg,or_false] at hx
      rcases hx with rfl | rfl | rfl | rfl
      ·exact Qeu h W31
      ·exact Qgq h W31 W31 (.inr (.inr ⟨.inl e,rfl⟩))
      ·exact Qgr h W31
      ·exact Qnx h
     ·split at hx
      ·rename_i e
       have t:=hn.lk (.inr e)
       simp only [ku,kg,or_false] at hx
       rcases hx with rfl | rfl
       ·exact Qeu h W31
       ·exact Q7w h W31 W31 (.inr (.inr ⟨.inr e,rfl⟩))
      ·split at hx
       ·rcases List.mem_append.1 hx with hx | hx
        ·exact f1.1 x hx
        ·cases List.mem_singleton.1 hx
         exact Qly h f1.2
       ·split at hx
        ·split at hx
         ·cases hx
         ·rcases List.mem_append.1 hx with hx | hx
          ·exact f1.1 x hx
          ·cases List.mem_singleton.1 hx
           exact Qgr h f1.2
        ·cases List.mem_singleton.1 hx
         exact Qny h
end
theorem Qbe (s:List Int) (F:Int→Option Int) (c:List Ins):∀ (k i:Nat),i<k→k≤c.length→(fixN s F c k).getD i ub=fixI s F i (c.getD i ub)
 | 0,i,h,_=>absurd h W31
 | k+1,i,h,hk=>by
   show ((fixN s F c k).set k _).getD i ub=_
   by_cases e:i=k
   ·subst e
    rw [jb,jE (by rw [Z6];omega)]
    show fixI s F i ((fixN s F c i).getD i ub)=_
    rw [Q7u s F c i i (jm _)]
   ·rw [jb,jC (fun q=>e q.symm),← jb]
    exact Qbe s F c k i W31 W31
section
variable {P:Ins→Prop} {ps:List Plc} {ba sh:Int} {fe:List Int} {l:List Nod}
end
section
variable {sh lk:List Dcl} {gs:List Grf} {fs:List Iln} {al:List Alc} {bf:Int}
theorem Q7y (sh lk:List Dcl) (al:List Alc):∀ (i d:Nat),i+d≤al.length→(memL sh lk al i).length≤(memL sh lk al (i+d)).length
 | _,0,_=>jm _
 | i,d+1,h=>kj (Q7y sh lk al i d W31) (by rw [← Nat.add_assoc,G8 _ _ _ _ (by omega)];simp)
theorem FauQ.M (h:FauQ sh lk gs fs al bf) {t:Nat} (ht:t<gs.length):(sh.length:Int)+lk.length≤baT sh lk al t∧baT sh lk al t+(al.getD t ub).cells≤((memL sh lk al al.length).length:Int):=by
 have hna:=h.na
 have c:=h.cells t W31
 have a:=Q7y sh lk al 0 t W31
 have b:=Q7y sh lk al (t+1) (al.length-(t+1)) W31
 rw [show t+1+(al.length-(t+1))=al.length by omega,G8 _ _ _ _ W31,jl,jG] at b
 rw [j8,Q6v,jl,jK,jG] at a
 rw [Qbc W31]
 omega
theorem FauQ.nodW (h:FauQ sh lk gs fs al bf) (hw:UnitW gs) {t:Nat} (ht:t<gs.length) {i:Nat} (hi:i<(gs.getD t ub).nodes.length) (fr:Int) :
 NodW (lk.length:Int) (sh.length:Int) (al.getD t ub).cells (Gm.mk (al.getD t ub).places (baT sh lk al t) (sh.length:Int) fr) ((gs.getD t ub).nodes.getD i ub):=by
 have q:=(h.grf t ht).q (fun b=>(hw t b).1) i hi
 have p:=h.ps ht
 have pl:∀ s:Int,0≤s∧s<(gs.getD t ub).slots→PlG (al.getD t ub).cells ((al.getD t ub).places.getD s.toNat ub):=fun s hs=>by
  have f:=Qb6 (h.fit t ht) (i:=s.toNat) W31
  refine ⟨fun e=>?_,fun e=>?_⟩
  ·rw [if_pos e] at f;exact f
  ·rw [if_neg (by rw [e];decide)] at f;exact f
 refine ⟨q.k,?_,fun k=>pl _ (q.slot k),fun k=>pl _ (q.a k),fun k=>pl _ (q.b k),q.thing,q.lock⟩
 have:=q.op
 by_cases e:((gs.getD t ub).nodes.getD i ub).op=0
 ·exact .inl e
 ·right;unfold opB;simp only [je,decide_eq_true_eq];omega
theorem FauQ.gmG (h:FauQ sh lk gs fs al bf) {t:Nat} (ht:t<gs.length) {fr:Int} (hf:0≤fr∧fr≤4096):GmG ((memL sh lk al al.length).length:Int) (al.getD t ub).cells (lk.length:Int) (Gm.mk (al.getD t ub).places (baT sh lk al t) (sh.length:Int) fr):=by
 have m:=h.M ht
 have c:=h.cells t (by have:=h.na;omega)
 exact ⟨⟨(h.ba ht).1,m.2⟩,⟨by show 0≤(sh.length:Int);omega,by show (sh.length:Int)+_≤_;omega⟩,hf,by omega⟩
def ThP (M ba ac sh:Int) (l:List Nod) (x:Ins):Prop:=insB0 x M=true∧(useTo x.kind=false→x.to=0)∧(useAddr x.kind=true→∃ i:Nat,i<l.length∧AdN ba ac sh (l.getD i ub) x.addr)
theorem FauQ.nodG (h:FauQ sh lk gs fs al bf) (hw:UnitW gs) {t:Nat} (ht:t<gs.length):∀ k:Nat,k<(gs.getD t ub).nodes.length →
 NodG (ThP ((memL sh lk al al.length).length:Int) (baT sh lk al t) (al.getD t ub).cells (sh.length:Int) (gs.getD t ub).nodes) (al.getD t ub).places (baT sh lk al t) (sh.length:Int) (gs.getD t ub).nodes.length ((gs.getD t ub).nodes.getD k ub):=fun k hk=>by
 have q:=(h.grf t ht).q (fun b=>(hw t b).1) k hk
 have o:=h.org ht hk
 have g:=h.gmG ht (fr:=((gs.getD t ub).nodes.getD k ub).origin+1) W31
 refine ⟨⟨?_,fun _=>rfl,fun q=>W204⟩,fun len x hx=>?_,⟨?_,fun q=>W204,fun q=>W204⟩,q.next,q.els⟩
 ·show insB0 (Ins.mk 6 0 0 0 0 0 0 0 (((gs.getD t ub).nodes.getD k ub).origin+1)) _=true
  generalize ((gs.getD t ub).nodes.getD k ub).origin=og at o ⊢
  simp [insB0,within,useD,useA,useAddr,twoB,opB];omega
 ·have:=Qgu g (h.nodW hw ht hk _) len x hx
  exact ⟨this.1,this.2.1,fun u=>⟨k,hk,this.2.2.1 u⟩⟩
 ·show insB0 (Ins.mk 8 0 0 0 0 0 ((gs.getD t ub).nodes.getD k ub).next 0 (((gs.getD t ub).nodes.getD k ub).origin+1)) _=true
  generalize ((gs.getD t ub).nodes.getD k ub).origin=og at o ⊢
  simp [insB0,within,useD,useA,useAddr,twoB,opB];omega
theorem Qlz {n t:Nat} (h:t<n):(corL sh lk gs fs al n).getD t ub=⟨(gs.getD t ub).name,codT sh lk gs fs al t⟩:=by
 unfold corL;rw [jb,jk,ke h];rfl
section
variable {a n1 n2 n3:Int} {m:List Int} {c:List Cor} {s:List Iln}
end
end
def fkN (c:List Int):Nat:=c.countP fun x=>decide (x=6)
def fk (c:List Ins):Nat:=fkN (c.map (·.kind))
theorem Q6x (a b:List Ins):fk (a++b)=fk a+fk b:=by unfold fk fkN;rw [kK,kY]
theorem Qqa {c:List Ins} (h:∀ x∈c,x.kind≠6):fk c=0:=by
 unfold fk fkN
 rw [List.countP_eq_zero]
 intro x hx
 obtain ⟨y,hy,e⟩:=List.mem_map.1 hx
 subst e
 simpa using h y hy
theorem Qj7 {l:List Ins} {k:Nat} {x:Ins} (h:x.kind=(l.getD k ub).kind):(l.set k x).map (·.kind)=l.map (·.kind):=by
 rw [List.map_set,h]
 by_cases q:k<l.length
 ·have e:(l.getD k ub).kind=(l.map (·.kind))[k]'(by simpa using q):=by rw [jb,jc q,List.getElem_map];rfl
  rw [e,List.set_getElem_self]
 ·rw [List.set_eq_of_length_le (by rw [jK];omega)]
theorem Q8v (s:List Int) (F:Int→Option Int) (c:List Ins):∀ k:Nat,(fixN s F c k).map (·.kind)=c.map (·.kind)
 | 0=>rfl
 | k+1=>by
   show ((fixN s F c k).set k _).map _=_
   rw [Qj7,Q8v s F c k]
   unfold fixI;split<;>rfl
theorem Qbf (k:Int):∀ l:List Int,l.countP (fun x=>decide (x<k+1))=l.countP (fun x=>decide (x<k))+l.countP (fun x=>decide (x=k))
 | []=>rfl
 | a::l=>by
   have ih:=Qbf k l
   simp only [List.countP_cons,decide_eq_true_eq]
   split<;>split<;>split<;>omega
theorem Qdk {N:Int} (k:Int):∀ {l:List Int} {last:Int},fenR N last l=true→l.countP (fun x=>decide (x=k))=if k∈l then 1 else 0
 | [],_,_=>rfl
 | a::l,last,h=>by
   unfold fenR at h
   split at h
   ·cases h
   ·have ih:=Qdk k h
    have m:=Q5j h
    simp only [List.countP_cons,decide_eq_true_eq,ku]
    by_cases e:a=k
    ·subst e
     have:a ∉ l:=fun q=>by have:=m a q;omega
     rw [if_neg this] at ih
     simp [ih]
    ·have e2:k≠a:=fun q=>e q.symm
     simp only [e,e2,if_false,false_or]
     exact ih
theorem Qnz {l:List Int} {i:Nat} (h:i<l.length):l.getD i 0∈l:=by
 rw [jb,jc h];exact jQ h
theorem Q5n {fe:List Int} {k:Int}:hasF fe k=true↔k∈fe:=by
 unfold hasF;rw [decide_eq_true_eq];exact Qaz fe k 0 (jA _)
section
variable {P:Ins→Prop} {ps:List Plc} {ba sh:Int} {fe:List Int} {l:List Nod}
theorem Q8w (i:Nat):∀ d:Nat,∃ r,codeA ps ba sh fe l (i+d)=codeA ps ba sh fe l i++r
 | 0=>⟨[],by simp⟩
 | d+1=>by
   obtain ⟨r,e⟩:=Q8w i d
   show ∃ r,stepC ps ba sh fe l (i+d) (codeA ps ba sh fe l (i+d))=_
   rw [Q0m,e,jH]
   exact ⟨_,rfl⟩
theorem Qbg (ps:List Plc) (ba sh:Int) (fe:List Int) (l:List Nod):∀ k:Nat,(codeA ps ba sh fe l k).length≤6 * k
 | 0=>jm _
 | k+1=>by
   have:=Qbg ps ba sh fe l k
   have:=(Zg ps ba sh fe l k (codeA ps ba sh fe l k)).2
   show (stepC ps ba sh fe l k _).length≤_;omega
def NoF (ps:List Plc) (ba sh:Int) (l:List Nod):Prop:=∀ k:Nat,k<l.length→∀ len:Int,∀ x∈gNode (gmA ps ba sh (l.getD k ub)) len (l.getD k ub),x.kind≠6
theorem Qbh (hf:fenB (l.length:Int) fe=true) (hn:NoF ps ba sh l):∀ k:Nat,k≤l.length→fk (codeA ps ba sh fe l k)=fe.countP fun x=>decide (x<(k:Int))
 | 0,_=>by
   show 0=_
   symm;rw [List.countP_eq_zero]
   intro x hx;have:=Q4a hf x hx;simp;omega
 | k+1,h=>by
   show fk (stepC ps ba sh fe l k (codeA ps ba sh fe l k))=_
   rw [Q0m,Q6x,Q6x,Q6x,Qbh hf hn k W31,Qqa (hn k W31 _)]
   have e:fk (if jmpB k (l.getD k ub)=true then [{ (Ins.mk 8 0 0 0 0 0 (l.getD k ub).next 0 0) with from_:=(l.getD k ub).origin+1 }] else [])=0:=by split<;>rfl
   rw [e,show ((k+1:Nat):Int)=(k:Int)+1 by omega,Qbf,Qdk (k:Int) hf]
   by_cases q:(k:Int)∈fe
   ·rw [if_pos (Q5n.2 q),if_pos q];rfl
   ·rw [if_neg (fun z=>q (Q5n.1 z)),if_neg q];rfl
theorem Qm0 (hf:fenB (l.length:Int) fe=true) (hn:NoF ps ba sh l):fk (finA ps ba sh fe l)=fe.length:=by
 unfold finA fk
 rw [Q8v]
 show fk _=_
 rw [Qbh hf hn _ (jm _),List.countP_eq_length]
 intro x hx;have:=Q4a hf x hx;simp;omega
theorem Qbi {i:Nat} (hi:i<(finA ps ba sh fe l).length):(finA ps ba sh fe l).getD i ub=fixI (starA ps ba sh fe l l.length) (innA ps ba sh fe l l.length) i ((codeA ps ba sh fe l l.length).getD i ub):=by
 have hlen:(finA ps ba sh fe l).length=(codeA ps ba sh fe l l.length).length:=by unfold finA;rw [Z6]
 unfold finA;exact Qbe _ _ _ _ i W31 (jm _)
theorem Qgv {n:Int} (h0:0≤n) (hn:n<(l.length:Int)) (hf:n∈fe) :
 0≤(starA ps ba sh fe l l.length).getD n.toNat 0∧(starA ps ba sh fe l l.length).getD n.toNat 0<((finA ps ba sh fe l).length:Int)∧((finA ps ba sh fe l).getD ((starA ps ba sh fe l l.length).getD n.toNat 0).toNat ub).kind=6:=by
 have hlen:(finA ps ba sh fe l).length=(codeA ps ba sh fe l l.length).length:=by unfold finA;rw [Z6]
 have hs:(starA ps ba sh fe l l.length).getD n.toNat 0=((codeA ps ba sh fe l n.toNat).length:Int):=by
  unfold starA;rw [jb,jk,ke W31];rfl
 obtain ⟨r,e⟩:=Q8w (ps:=ps) (ba:=ba) (sh:=sh) (fe:=fe) (l:=l) (n.toNat+1) (l.length-(n.toNat+1))
 rw [show n.toNat+1+(l.length-(n.toNat+1))=l.length by omega] at e
 have e1:codeA ps ba sh fe l (n.toNat+1)=stepC ps ba sh fe l n.toNat (codeA ps ba sh fe l n.toNat):=rfl
 rw [e1,Q0m,if_pos (by rw [ko h0];exact Q5n.2 hf),jH,jH,jH] at e
 have hi:(codeA ps ba sh fe l n.toNat).length<(codeA ps ba sh fe l l.length).length:=by rw [e];simp
 refine ⟨by rw [hs];omega,by rw [hs,hlen];omega,?_⟩
 rw [hs,kP,Qbi (by rw [hlen];exact hi)]
 have k:∀ (s:List Int) (F:Int→Option Int) (i:Nat) (c:Ins),(fixI s F i c).kind=c.kind:=fun s F i c=>by unfold fixI;split<;>rfl
 rw [k,e,Q0l (jm _),Nat.sub_self];rfl
theorem Qpy (hn:∀ k:Nat,k<l.length→NodG P ps ba sh l.length (l.getD k ub)) {i:Nat} (hi:i<(finA ps ba sh fe l).length) :
 ∃ y,P y∧((finA ps ba sh fe l).getD i ub).kind=y.kind∧((finA ps ba sh fe l).getD i ub).addr=y.addr:=by
 have hlen:(finA ps ba sh fe l).length=(codeA ps ba sh fe l l.length).length:=by unfold finA;rw [Z6]
 refine ⟨_,((Q7v (fe:=fe) hn l.length (jm _)).1 i W31).1,?_⟩
 rw [Qbi hi]
 unfold fixI;split<;>exact ⟨rfl,rfl⟩
end
def nmB (sh a:Int) (n:Nod):Bool:=((decide (n.kind=2)||decide (n.kind=3)||decide (n.kind=4))&&decide (n.thing=a))||((decide (n.kind=5)||decide (n.kind=6))&&decide (n.thing+sh=a))
def nmU (sh a:Int) (l:List Nod):Bool:=(jB l.length).any fun j=>nmB sh a (l.getD j ub)
theorem Qkd {sh a:Int} {l:List Nod} {j:Nat} (hj:j<l.length) (h:nmB sh a (l.getD j ub)=true):true=nmU sh a l:=(List.any_eq_true.2 ⟨j,List.mem_range.2 hj,h⟩).symm
theorem Qpz {sh a:Int} {l:List Nod} {x:Int} (h:∀ j:Nat,j<x.toNat→nmB sh a (l.getD j ub)=false) (hx:¬ x<(l.length:Int)):false=nmU sh a l:=by
 symm;unfold nmU;rw [List.any_eq_false]
 intro j hj;rw [h j (by have:=List.mem_range.1 hj;omega)];decide
theorem Jq {sh a:Int} {l:List Nod} {x:Int} (h0:0≤x) (h:∀ j:Nat,j<x.toNat→nmB sh a (l.getD j ub)=false) (hb:nmB sh a (l.getD x.toNat ub)=false):0≤x+1∧∀ j:Nat,j<(x+1).toNat→nmB sh a (l.getD j ub)=false:=⟨by omega,fun j hj=>by
 by_cases e:j<x.toNat
 ·exact h j e
 ·rw [show j=x.toNat by omega];exact hb⟩
section
variable {sh lk:List Dcl} {gs:List Grf} {fs:List Iln} {al:List Alc} {bf:Int}
theorem FauQ.noF (h:FauQ sh lk gs fs al bf) (hw:UnitW gs) {t:Nat} (ht:t<gs.length):NoF (al.getD t ub).places (baT sh lk al t) (sh.length:Int) (gs.getD t ub).nodes:=fun k hk len x hx=>by
 have o:=h.org ht hk
 have g:=h.gmG ht (fr:=((gs.getD t ub).nodes.getD k ub).origin+1) W31
 exact (Qgu g (h.nodW hw ht hk _) len x hx).2.2.2
theorem FauQ.fences (h:FauQ sh lk gs fs al bf) (hw:UnitW gs) {t:Nat} (ht:t<gs.length):fk (codT sh lk gs fs al t)=(fs.getD t ub).l.length:=Qm0 (h.fen t ht) (h.noF hw ht)
theorem FauQ.fence (h:FauQ sh lk gs fs al bf) {t:Nat} (ht:t<gs.length) {i:Nat} (hi:i<(fs.getD t ub).l.length) :
 (0≤(fs.getD t ub).l.getD i 0∧(fs.getD t ub).l.getD i 0<((gs.getD t ub).nodes.length:Int))∧0≤(staT sh lk gs fs al t).getD ((fs.getD t ub).l.getD i 0).toNat 0 ∧
 (staT sh lk gs fs al t).getD ((fs.getD t ub).l.getD i 0).toNat 0<((codT sh lk gs fs al t).length:Int)∧((codT sh lk gs fs al t).getD ((staT sh lk gs fs al t).getD ((fs.getD t ub).l.getD i 0).toNat 0).toNat ub).kind=6:=by
 have hm:(fs.getD t ub).l.getD i 0∈(fs.getD t ub).l:=Qnz hi
 have r:=Q4a (h.fen t ht) _ hm
 exact ⟨r,Qgv r.1 r.2 hm⟩
theorem FauQ.addr (h:FauQ sh lk gs fs al bf) (hw:UnitW gs) {t:Nat} (ht:t<gs.length) {i:Nat} (hi:i<(codT sh lk gs fs al t).length)
 (hk:((codT sh lk gs fs al t).getD i ub).kind=3∨((codT sh lk gs fs al t).getD i ub).kind=4∨((codT sh lk gs fs al t).getD i ub).kind=5) :
 (baT sh lk al t≤((codT sh lk gs fs al t).getD i ub).addr∧((codT sh lk gs fs al t).getD i ub).addr<baT sh lk al t+(al.getD t ub).cells) ∨
 (0≤((codT sh lk gs fs al t).getD i ub).addr∧((codT sh lk gs fs al t).getD i ub).addr<(sh.length:Int)+lk.length∧∃ j:Nat,j<(gs.getD t ub).nodes.length∧nmB (sh.length:Int) ((codT sh lk gs fs al t).getD i ub).addr ((gs.getD t ub).nodes.getD j ub)=true):=by
 obtain ⟨y,hy,e1,e2⟩:=Qpy (fe:=(fs.getD t ub).l) (h.nodG hw ht) hi
 have e1:((codT sh lk gs fs al t).getD i ub).kind=y.kind:=e1
 have e2:((codT sh lk gs fs al t).getD i ub).addr=y.addr:=e2
 rw [e1] at hk
 rw [e2]
 have u:useAddr y.kind=true:=by unfold useAddr;rcases hk with q | q | q<;>rw [q]<;>rfl
 obtain ⟨j,hj,a⟩:=hy.2.2 u
 have w:=h.nodW hw ht hj 0
 rcases a with a | a | a
 ·exact .inl a
 ·have t:=w.th a.1
  refine .inr ⟨by omega,by have:=t.2;show y.addr<_;omega,j,hj,?_⟩
  unfold nmB
  simp only [jO,je,decide_eq_true_eq]
  exact .inl ⟨by omega,a.2.symm⟩
 ·have t:=w.lk a.1
  refine .inr ⟨by omega,by have:=t.2;show y.addr<_;omega,j,hj,?_⟩
  unfold nmB
  simp only [jO,je,decide_eq_true_eq]
  exact .inr ⟨a.1,by omega⟩
end
structure OwnQ (sh lk:List Dcl) (gs:List Grf) (fs:List Iln) (al:List Alc) (c:List Cor) (s:List Iln):Prop where
 q:FauQ sh lk gs fs al 1
 c:c=corL sh lk gs fs al gs.length
 s:s=sttL sh lk gs fs al gs.length
 m:((memL sh lk al al.length).length:Int)≤4096
section
variable {sh lk:List Dcl} {gs:List Grf} {fs:List Iln} {al:List Alc} {c:List Cor} {s:List Iln} {x i cn:Int}
theorem Qo0 {a n1 n2 n3 a' n1' n2' n3':Int} {m m':List Int} {c':List Cor} {s':List Iln} (h:(a,m,c,s',n1,n2,n3)=madU sh lk gs fs al 1) (h':(a',m',c',s,n1',n2',n3')=madU sh lk gs fs al 1) (h4:(!decide (a=(0:Int))||!decide (a'=(0:Int)))=false):OwnQ sh lk gs fs al c s:=by
 rw [← h] at h'
 have h3:a=0:=by simp at h4;omega
 unfold madU at h
 split at h
 ·rename_i e;cases h;exact absurd h3 e
 ·rename_i e
  have q:=Q9o (Decidable.not_not.1 e)
  split at h
  ·cases h;exact absurd h3 W147
  ·rename_i e2
   split at h
   ·unfold madR at h;cases h;cases h';exact ⟨q,rfl,rfl,by omega⟩
   ·cases h;exact absurd h3 W147
theorem Qo1 {a a':Int} {r r':List Int×List Cor×List Iln×Int×Int×Int} (h:(a,r)=madU sh lk gs fs al 1) (h':(a',r')=madU sh lk gs fs al 1):true=decide (a=a'):=by
 rw [← h] at h';cases h';simp
namespace OwnQ
theorem len (h:OwnQ sh lk gs fs al c s):c.length=gs.length∧s.length=gs.length∧al.length=gs.length∧fs.length=gs.length:=by
 refine ⟨by rw [h.c,Qba],by rw [h.s,Qbb],h.q.na,h.q.nf⟩
theorem cod (h:OwnQ sh lk gs fs al c s) (h0:0≤x) (hx:x<(gs.length:Int)):(c.getD x.toNat ub).code=codT sh lk gs fs al x.toNat:=by rw [h.c,Qlz W31]
theorem sta (h:OwnQ sh lk gs fs al c s) (h0:0≤x) (hx:x<(gs.length:Int)):(s.getD x.toNat ub).l=staT sh lk gs fs al x.toNat:=by
 rw [h.s];unfold sttL;rw [jb,jk,ke W31];rfl
theorem stalen (h:OwnQ sh lk gs fs al c s) (h0:0≤x) (hx:x<(gs.length:Int)):(s.getD x.toNat ub).l.length=(gs.getD x.toNat ub).nodes.length:=by
 rw [h.sta h0 hx];unfold staT starA;rw [jK,kv]
def B (sh lk:List Dcl) (al:List Alc) (x:Int) (b:Int):Prop:=0≤x∧x≤(al.length:Int)∧b=((memL sh lk al x.toNat).length:Int)
theorem start:B sh lk al 0 ((sh.length:Int)+(lk.length:Int)):=⟨jA _,by omega,by show _=((memL sh lk al 0).length:Int);rw [Q6v,jl,jK,jG];omega⟩
theorem next (h:OwnQ sh lk gs fs al c s) {b:Int} (hb:B sh lk al x b) (hx:x<(gs.length:Int)):B sh lk al (x+1) (b+(al.getD x.toNat ub).cells):=by
 have hl:=h.len
 have h0:=hb.1
 have c:=h.q.cells x.toNat W31
 refine ⟨by omega,by omega,?_⟩
 rw [show (x+1).toNat=x.toNat+1 by omega,G8 _ _ _ _ W31,jl,jG,hb.2.2];omega
theorem bnd (h:OwnQ sh lk gs fs al c s) {b:Int} (hb:B sh lk al x b) (hx:x<(gs.length:Int)):b=baT sh lk al x.toNat∧(sh.length:Int)+lk.length≤b∧b+(al.getD x.toNat ub).cells≤4096∧0≤(al.getD x.toNat ub).cells:=by
 have hl:=h.len
 have h0:=hb.1
 have c:=h.q.cells x.toNat W31
 have e:b=baT sh lk al x.toNat:=by rw [hb.2.2,Qbc W31]
 have M:=h.q.M (t:=x.toNat) W31
 have m:=h.m
 refine ⟨e,by omega,by omega,c.1⟩
def F (l:List Ins) (i n:Int):Prop:=0≤i∧i≤(l.length:Int)∧n=(fk (l.take i.toNat):Int)
theorem F0 (l:List Ins):F l 0 0:=⟨jA _,by omega,rfl⟩
theorem F_next {l:List Ins} (h:F l i cn) (hi:i<(l.length:Int)):F l (i+1) (if (l.getD i.toNat ub).kind=6 then cn+1 else cn):=by
 have h0:=h.1
 refine ⟨by omega,by omega,?_⟩
 have hi':i.toNat<l.length:=by omega
 have e:(l.getD i.toNat ub)=l[i.toNat]:=by rw [jb,jc hi'];rfl
 rw [show (i+1).toNat=i.toNat+1 by omega,jN hi',Q6x,← e,h.2.2]
 have:fk [l.getD i.toNat ub]=if (l.getD i.toNat ub).kind=6 then 1 else 0:=by unfold fk fkN;simp [List.countP_cons]
 rw [this]
 split<;>simp
theorem F_le {l:List Ins} (h:F l i cn):0≤cn∧cn≤(l.length:Int):=by
 have:fk (l.take i.toNat)≤(l.take i.toNat).length:=by unfold fk fkN;exact kj List.countP_le_length W149
 rw [jJ] at this
 have:=h.2.2;omega
theorem F_done (h:OwnQ sh lk gs fs al c s) (hw:UnitW gs) (h0:0≤x) (hx:x<(gs.length:Int)) (hf:F (c.getD x.toNat ub).code i cn) (hi:¬ i<((c.getD x.toNat ub).code.length:Int)):cn=((fs.getD x.toNat ub).l.length:Int):=by
 have e:=hf.2.2
 rw [ky W31,h.cod h0 hx,h.q.fences hw W31] at e
 exact e
theorem addr (h:OwnQ sh lk gs fs al c s) (hw:UnitW gs) {b:Int} (hb:B sh lk al x b) (hx:x<(gs.length:Int)) (h0i:0≤i) (hi:i<((c.getD x.toNat ub).code.length:Int))
 (hk:((c.getD x.toNat ub).code.getD i.toNat ub).kind=3∨((c.getD x.toNat ub).code.getD i.toNat ub).kind=4∨((c.getD x.toNat ub).code.getD i.toNat ub).kind=5) :
 (b≤((c.getD x.toNat ub).code.getD i.toNat ub).addr∧((c.getD x.toNat ub).code.getD i.toNat ub).addr-b<(al.getD x.toNat ub).cells) ∨
 (0≤((c.getD x.toNat ub).code.getD i.toNat ub).addr∧((c.getD x.toNat ub).code.getD i.toNat ub).addr<(sh.length:Int)+lk.length∧∃ j:Nat,j<(gs.getD x.toNat ub).nodes.length∧nmB (sh.length:Int) ((c.getD x.toNat ub).code.getD i.toNat ub).addr ((gs.getD x.toNat ub).nodes.getD j ub)=true):=by
 have h0:=hb.1
 have q:=h.bnd hb hx
 rw [h.cod h0 hx] at hi hk ⊢
 have a:=h.q.addr hw (t:=x.toNat) W31 (i:=i.toNat) W31 hk
 rw [← q.1] at a
 rcases a with a | a
 ·exact .inl ⟨a.1,by omega⟩
 ·exact .inr a
theorem addr_le (h:OwnQ sh lk gs fs al c s) (hw:UnitW gs) {b:Int} (hb:B sh lk al x b) (hx:x<(gs.length:Int)) (h0i:0≤i) (hi:i<((c.getD x.toNat ub).code.length:Int))
 (hk:((c.getD x.toNat ub).code.getD i.toNat ub).kind=3∨((c.getD x.toNat ub).code.getD i.toNat ub).kind=4∨((c.getD x.toNat ub).code.getD i.toNat ub).kind=5) :
 0≤((c.getD x.toNat ub).code.getD i.toNat ub).addr∧((c.getD x.toNat ub).code.getD i.toNat ub).addr≤8192:=by
 have q:=h.bnd hb hx
 have hns:=h.q.ns;have hnl:=h.q.nl
 rcases h.addr hw hb hx h0i hi hk with a | a<;>omega
theorem fence (h:OwnQ sh lk gs fs al c s) (h0:0≤x) (hx:x<(gs.length:Int)) (h0i:0≤i) (hi:i<((fs.getD x.toNat ub).l.length:Int)) :
 (0≤(fs.getD x.toNat ub).l.getD i.toNat 0∧(fs.getD x.toNat ub).l.getD i.toNat 0<((s.getD x.toNat ub).l.length:Int))∧0≤(s.getD x.toNat ub).l.getD ((fs.getD x.toNat ub).l.getD i.toNat 0).toNat 0 ∧
 (s.getD x.toNat ub).l.getD ((fs.getD x.toNat ub).l.getD i.toNat 0).toNat 0<((c.getD x.toNat ub).code.length:Int)∧((c.getD x.toNat ub).code.getD ((s.getD x.toNat ub).l.getD ((fs.getD x.toNat ub).l.getD i.toNat 0).toNat 0).toNat ub).kind=6:=by
 rw [h.stalen h0 hx,h.sta h0 hx,h.cod h0 hx]
 exact h.q.fence (t:=x.toNat) W31 (i:=i.toNat) W31
theorem codlen (h:OwnQ sh lk gs fs al c s) (h0:0≤x) (hx:x<(gs.length:Int)):(c.getD x.toNat ub).code.length≤24576:=by
 rw [h.cod h0 hx]
 have g:=(h.q.grf x.toNat W31).len
 have:=Qbg (al.getD x.toNat ub).places (baT sh lk al x.toNat) (sh.length:Int) (fs.getD x.toNat ub).l (gs.getD x.toNat ub).nodes (gs.getD x.toNat ub).nodes.length
 unfold codT finA;rw [Z6];omega
theorem k3 {k:Int} (h:(!decide (k=3)&&!decide (k=4)&&!decide (k=5))=false):k=3∨k=4∨k=5:=by
 simp only [Bool.and_eq_false_iff,kC,decide_eq_true_eq] at h;omega
theorem bad (h:OwnQ sh lk gs fs al c s) (hw:UnitW gs) {b:Int} (hb:B sh lk al x b) (hx:decide (x<(c.length:Int))=true) (h0i:0≤i) (hi:decide (i<((c.getD x.toNat ub).code.length:Int))=true)
 (hk:(!decide (((c.getD x.toNat ub).code.getD i.toNat ub).kind=3)&&!decide (((c.getD x.toNat ub).code.getD i.toNat ub).kind=4)&&!decide (((c.getD x.toNat ub).code.getD i.toNat ub).kind=5))=false)
 (hc:(!(decide (b≤((c.getD x.toNat ub).code.getD i.toNat ub).addr)&&decide (((c.getD x.toNat ub).code.getD i.toNat ub).addr-b<(al.getD x.toNat ub).cells))&&(decide ((sh.length:Int)+(lk.length:Int)≤((c.getD x.toNat ub).code.getD i.toNat ub).addr)||!nmU (sh.length:Int) ((c.getD x.toNat ub).code.getD i.toNat ub).addr (gs.getD x.toNat ub).nodes))=true):False:=by
 have hx:=uc hx
 have l:=h.len
 simp only [je,jL,Bool.and_eq_false_iff,jO,decide_eq_false_iff_not,decide_eq_true_eq] at hc
 rcases h.addr hw hb W31 h0i (uc hi) (k3 hk) with a | ⟨a1,a2,j,hj,e⟩
 ·omega
 ·rcases hc.2 with r | r
  ·omega
  ·rw [← Qkd hj e] at r;cases r
end OwnQ
end
theorem K {α:Sort _} {a b:α} (h:a=b:=by kernel_rfl):a=b:=h
theorem R {p:Prop} (h:p:=by repeat' first | refine And.intro ?_ ?_ | exact rfl | exact fun _ _=>rfl | trivial):p:=h
end Go.Proofs.YtnddggenhefaeaaDoor
noncomputable section
namespace Go.Proofs.YtnddggenhefaeaaDoor
open Go Go.Tx
def vG (l:List Int) (v:Int):Lp (Int×Int):=⟨fun x=>{ N:=19,fr:=[se 8 (C.i .i64 x.1),se 7 (C.i .i64 (↑l.length:Int)),se 4 (C.i .i64 x.2),se 0 (C.h 0),se 1 (C.i .i64 v)],rg:=[IntRow l],wr:=[] },fun x=>idxJ l v x.1,fun x=>((l.length:Int)-x.1).toNat⟩
abbrev zD (y0:Int):List Prop:=[Fits ja (y0+(1:Int))]
abbrev zaP (y0:Int) (y1:List Int):List Prop:=[(0:Int)≤y0,y0<(↑y1.length:Int),y0.toNat<y1.length]
abbrev zcy:Int × Int:=((0:Int),(0:Int))
abbrev zc6 (y0:Int):SV:=.c (.i .i64 y0)
theorem Qm1 (l:List Int) (v:Int) (hl:l.length≤8388608):Ctr Tryd.prog 35 [IntRow l] [.c (.h 0),zc6 v]
 (Det (.c (.i .i64 (idxF l v 0))) [IntRow l]):=by
 refine Ctr.intro [] Tryd.func35 K K ?_
 refine Q9 (vG l v) (zcy) (.start l v) ?_
 rintro ⟨ue,uj⟩ hJ1
 dsimp only [vG] at hJ1
 refine tz [8,7,4,0,1] ?_
 refine Q0 (decide (ue<(↑l.length:Int))) (fun h2=>?_) (fun h2=>?_)
 ·refine tz [8,7,4,0,1] ?_
  refine Q0 (decide (v=l.getD ue.toNat 0)) (fun h3=>?_) (fun h3=>?_) (vc:=(zaP ue l)) (hv:=W134)
  ·exact Q3 [] [2] [idxF l v (0:Int)=ue] W106
  ·exact Q4 (vG l v) (ue,uj) ((ue+(1:Int),uj)) (by dsimp only [vG];have q:=uc h2;omega) (hJ1.next (uc h2) (ud h3)) (vc:=(zD ue)) (hv:=W134)
 ·exact Q3 [] [2] [idxF l v (0:Int)=(-1:Int)] W106
theorem Q3y (n:Nod):Ctr Tryd.prog 44 [] [.agg n.cs]
 (Det (.c (.b (decide (n.kind=1)||decide (n.kind=2)||decide (n.kind=4)))) []):=by
 refine Ctr.intro [] Tryd.func44 K K ?_
 exact Q3
theorem Qgw (n:Nod):Ctr Tryd.prog 95 [] [.agg n.cs]
 (Det (.c (.b (decide (n.kind=2)||decide (n.kind=3)||decide (n.kind=4)))) []):=by
 refine Ctr.intro [] Tryd.func95 K K ?_
 exact Q3
def wl (U:List Int) (u:Int) (b:Int) (P:List Int):Lp (Bool×Int):=⟨fun x=>{ N:=15,fr:=[se 5 (C.b x.1),se 0 (C.i .i64 u),se 1 (C.i .i64 x.2),se 2 (C.p 0 0)],rg:=[Reg.box 49 [C.h 1],IntOwn U],wr:=[] },fun x=>upJ P U u b x.2,fun x=>upM P x.2⟩
abbrev zbT:Reg:=Reg.box 49 [.h 1]
theorem Qm2 (P U:List Int) (u b:Int) (hM:UpH P U) (hb:b<(U.length:Int)):Ctr Tryd.prog 73 [zbT,IntOwn U] [zc6 u,zc6 b,.c (.p 0 0)]
 (Det (.c (.b (upF P U u b))) [zbT,IntOwn U]):=by
 refine Ctr.intro [] Tryd.func73 K K ?_
 refine Q9 (wl U u b P) ((false,b)) (.start hb) ?_
 rintro ⟨ue,uj⟩ hJ1
 dsimp only [wl] at hJ1
 refine tz [5,0,1,2] ?_
 refine Q0 (decide ((0:Int)≤uj)) (fun h2=>?_) (fun h2=>?_)
 ·refine tz [5,0,1,2] ?_
  refine Q0 (decide (uj=u)) (fun h3=>?_) (fun h3=>?_)
  ·exact Q3 [] [2] [upF P U u b=true] W106
  ·exact Q4 (wl U u b P) (ue,uj) ((ue,U.getD uj.toNat 0)) ((hJ1.next hM (uc h2) (ud h3)).2) ((hJ1.next hM (uc h2) (ud h3)).1) (vc:=(zaP uj U)) (hv:=(by simp only [Conj,Fits,Q7,Q8,Qa,Qb,News.len,maxLen]<;>(repeat' (first | apply jn | intro _))<;>first | (have z:=hJ1.1;have q:=uc h2;omega) | grind | (simp only [BL] at *;omega)))
 ·exact Q3 [] [2] [upF P U u b=false] W106
theorem Qm3 (k:Int):Ctr Tryd.prog 76 [] [.c (.i .u8 k)]
 (Det (.c (.b (opB k))) []):=by
 refine Ctr.intro [] Tryd.func76 K K ?_
 exact Q3 [] [0] [opB k=(decide (0<k)&&decide (k<19))] (by simp only [Conj,opB] at *<;>grind)
theorem Gl (k:Int):Ctr Tryd.prog 54 [] [.c (.i .u8 k)]
 (Det (.c (.b (twoB k))) []):=by
 refine Ctr.intro [] Tryd.func54 K K ?_
 refine Q2 Q9g (Qm3 k) [] ?_
 exact Q3 [] [0] [twoB k=(opB k&&!decide (k=17)&&!decide (k=18))] (by simp only [Conj,twoB,opB] at *<;>grind)
theorem Qdl (k:Int):Ctr Tryd.prog 77 [] [.c (.i .u8 k)]
 (Det (.c (.b (digitB k))) []):=by
 refine Ctr.intro [] Tryd.func77 K K ?_
 exact Q3 [] [0] [digitB k=(decide (48≤k)&&decide (k≤57))] (by simp only [Conj,digitB] at *<;>grind)
theorem Qj8 (k:Int):Ctr Tryd.prog 79 [] [.c (.i .u8 k)]
 (Det (.c (.b (letterB k))) []):=by
 refine Ctr.intro [] Tryd.func79 K K ?_
 exact Q3 [] [0] [letterB k=(decide (97≤k)&&decide (k≤122)||decide (65≤k)&&decide (k≤90)||decide (k=95))] (by simp only [Conj,letterB] at *<;>grind)
theorem Qo2 (s:ByteArray):Ctr Tryd.prog 78 [] [.c (.v (.string s))]
 (Det (.c (.b (wordB s))) []):=by
 refine Ctr.intro [] Tryd.func78 K K ?_
 refine Q0 (decide (s={ data:=#[115,104,97,114,101,100] })) (fun h1=>?_) (fun h1=>?_)
 ·exact Q3 [] [0] [wordB s=true] W144
 ·refine tz [4,3,2] ?_
  refine Q0 (decide (s={ data:=#[108,111,99,107] })) (fun h2=>?_) (fun h2=>?_)
  ·exact Q3 [] [0] [wordB s=true] W144
  ·refine tz [4,3,2] ?_
   refine Q0 (decide (s={ data:=#[116,104,114,101,97,100] })) (fun h3=>?_) (fun h3=>?_)
   ·exact Q3 [] [0] [wordB s=true] W144
   ·refine tz [4,3,2] ?_
    refine Q0 (decide (s={ data:=#[108,111,99,97,108] })) (fun h4=>?_) (fun h4=>?_)
    ·exact Q3 [] [0] [wordB s=true] W144
    ·refine tz [4,3,2] ?_
     refine Q0 (decide (s={ data:=#[105,102] })) (fun h5=>?_) (fun h5=>?_)
     ·exact Q3 [] [0] [wordB s=true] W144
     ·refine tz [4,3,2] ?_
      refine Q0 (decide (s={ data:=#[101,108,115,101] })) (fun h6=>?_) (fun h6=>?_)
      ·exact Q3 [] [0] [wordB s=true] W144
      ·refine tz [4,3,2] ?_
       refine Q0 (decide (s={ data:=#[119,104,105,108,101] })) (fun h7=>?_) (fun h7=>?_)
       ·exact Q3 [] [0] [wordB s=true] W144
       ·refine tz [4,3,2] ?_
        refine Q0 (decide (s={ data:=#[112,114,105,110,116] })) (fun h8=>?_) (fun h8=>?_)
        ·exact Q3 [] [0] [wordB s=true] W144
        ·refine tz [4,3,2] ?_
         refine Q0 (decide (s={ data:=#[115,107,105,112] })) (fun h9=>?_) (fun h9=>?_)
         ·exact Q3 [] [0] [wordB s=true] W144
         ·refine tz [4,3,2] ?_
          refine Q0 (decide (s={ data:=#[115,119,97,112] })) (fun h10=>?_) (fun h10=>?_)
          ·exact Q3 [] [0] [wordB s=true] W144
          ·exact Q3 [] [0] [wordB s=false] W144
def L2_I (s:ByteArray):Int→St:=fun i=>{ N:=38,fr:=[se 22 (C.i ja i),se 21 (C.i ja s.size),se 20 (C.v (jF s)),se 2 (C.t false),se 0 (C.v (jF s))],rg:=[] }
def L2_J (s:ByteArray):Int→Prop:=fun i=>0≤i∧i≤(s.size:Int)∧restB s 0=restB s i
def L2_m (s:ByteArray):Int→Nat:=fun i=>((s.size:Int)-i).toNat
def L2 (s:ByteArray):Lp (Int):=⟨L2_I s,L2_J s,L2_m s⟩
abbrev zcD (y0:ByteArray) (y1:Int):UInt8:=y0.data.toList.getD y1.toNat (0:UInt8)
theorem Qo3 (s:ByteArray):Ctr Tryd.prog 56 [] [.c (.v (.string s))]
 (Det (.c (.b (nameB s))) []):=by
 have h0:s.size=0→s={ data:=#[] }:=(fun h=>by cases s;simp_all [ByteArray.size])
 have h00:s={ data:=#[] }→s.size=0:=(fun h=>by rw [h];rfl)
 refine Ctr.intro [] Tryd.func56 K K ?_
 refine tG Q2s (Qdl (↑(s.data.toList.getD (Int.toNat (0:Int)) (0:UInt8)).toNat:Int)) [] ?_ (vc:=[(decide (s={ data:=#[] })||decide ((32:Int)<(↑s.size:Int)))=false→(0:Int)≤(0:Int),(decide (s={ data:=#[] })||decide ((32:Int)<(↑s.size:Int)))=false→(0:Int)<(↑s.size:Int)]) (hv:=W165)
 refine tz [14,11,2,0] ?_
 refine tG Qah (Qo2 s) [] ?_
 refine tz [18,16,2,0] ?_
 refine Q0 (decide (s={ data:=#[] })||decide ((32:Int)<(↑s.size:Int))||digitB (↑(s.data.toList.getD (Int.toNat (0:Int)) (0:UInt8)).toNat:Int)||wordB s) (fun h1=>?_) (fun h1=>?_)
 ·exact Q3 [] [0] [nameB s=false] W122
 ·refine tz [2,0] ?_
  refine Q9 (L2 s) ((0:Int)) ⟨jA _,by omega,rfl⟩ ?_
  rintro uf hJ2
  obtain ⟨hA,hB,hC⟩:=hJ2
  refine tz [22,21,20,2,0] ?_
  refine Q0 (decide (uf<(↑s.size:Int))) (fun h3=>?_) (fun h3=>?_)
  ·refine tz [22,21,20,2,0] ?_
   refine Q2 Q7e (Qj8 (↑(zcD s uf).toNat:Int)) [] ?_ (vc:=[(0:Int)≤uf,uf<(↑s.size:Int)]) (hv:=W165)
   refine tz [28,3,22,21,20,2,0] ?_
   refine tG Q2s (Qdl (↑(zcD s uf).toNat:Int)) [] ?_ (vc:=[(!letterB (↑(zcD s uf).toNat:Int))=true→(0:Int)≤uf,(!letterB (↑(zcD s uf).toNat:Int))=true→uf<(↑s.size:Int)]) (hv:=W165)
   refine tz [34,30,22,21,20,2,0] ?_
   refine Q0 (!letterB (↑(zcD s uf).toNat:Int)&&!digitB (↑(zcD s uf).toNat:Int)) (fun h4=>?_) (fun h4=>?_)
   ·exact Q3 [] [0] [nameB s=false] W122
   ·exact Q4 (L2 s) uf (uf+(1:Int)) (by simp only [L2,L2_m];grind) (by have hs:=Q6o s uf hA (by grind);simp only [byteAt,L2,L2_J] at *;grind) (vc:=(zD uf)) (hv:=W165)
  ·exact Q3 [] [0] [nameB s=true] W122
abbrev z74_1:=(MT.mk Tryd.prog 127 9 4 [CK.s] false [CK.b] false)
theorem Q8x:MT.Ok z74_1:=MT.ok_str K K (.inr rfl) (fun w=>by kernel_rfl)
abbrev zc0:MT:=(MT.mk Tryd.prog 127 9 4 [CK.s] false [CK.b] false)
theorem Qev (s:ByteArray) (n:Nat) (D:ByteArray→Option Bool) (hs:s.size≤maxLen) (hn:n<maxLen):Ctr Tryd.prog 55 [Reg.box 127 [.h 1],Reg.mp zc0 n (fun q=>(D q).isSome) (fun q=>(D q).getD false) none] [.c (.v (.string s)),.c (.p 0 0)]
 (Det (.c (.b (nameB s&&!(D s).getD false))) [Reg.box 127 [.h 1],Reg.mp zc0 (n+1) (fun q=>((fun q=>if q=s then some true else D q) q).isSome) (fun q=>((fun q=>if q=s then some true else D q) q).getD false) none]):=by
 refine Ctr.intro [] Tryd.func55 K K ?_
 refine Q2 Qag (Qo3 s) [] ?_
 exact Q3 [] [0] [MpEq z74_1 (n+1) (fun (q:ByteArray)=>(if q=s then some true else D q).isSome) (fun (q:ByteArray)=>(if q=s then some true else D q).getD false) none z74_1 (n+1) (fun (q:ByteArray)=>decide (q=s)||(D q).isSome) (fun (q:ByteArray)=>if q=s then true else (D q).getD false) none] (by simp only [Conj];first | exact ⟨MpEq.put (jm _),rfl⟩ | exact MpEq.put (jm _) | (and_intros<;>first | exact MpEq.put (jm _) | rfl)) (vc:=[nameB s=true→s.size≤maxLen,nameB s=true→zc0.P=Tryd.prog,s.size≤maxLen,zc0.P=Tryd.prog,n<maxLen]) (hv:=(by simp only [Conj,Fits,Q7,Q8,Qa,Qb,News.len,maxLen]<;>(repeat' (first | apply jn | intro _))<;>first | rfl | exact Q8x | exact hs | exact hn | grind | (simp only [BL] at *;omega)))
end Go.Proofs.YtnddggenhefaeaaDoor
end
