/-
  A part of the proof. Text 4 of 9: TxZ TxO TxU TxQ Ent EntB EntG EntO Data DataU Spec SpecW SpecN SpecNm SpecV SpecTb SpecHd SpecCk SpecBo SpecRe SpecAh SpecHt SpecLs SpecDm SpecLz SpecSe SpecBk SpecMt SpecLt SpecLv SpecLi.
-/
import Derived.Test.YtnddggenhefaeaaGreatDoorP3
import Derived.Test.YtnddggenhefaeaaGreatDoorP1
import Derived.DeepKeys4
import Derived.Maps.RangeWalk
import Derived.StringKeys
import Derived.Test.YtnddggenhefaeaaGreatDoorRows
import Derived.Laws.BitsAllLaws
set_option linter.unusedSimpArgs false
set_option linter.unusedVariables false
set_option linter.unusedSectionVars false
open Nat renaming le_refl→jn,zero_le→j9,beq→jr,eq_of_beq_eq_true→jf,min_eq_left→kU,mul_le_mul_right→kz,blt→kF,le_trans→kr,lt_of_lt_of_le→jO
open List renaming getD_eq_getElem?_getD→jc,getElem?_set_ne→jE,getElem?_set_self→jG,mem_of_getElem?→jq,mem_singleton→jH,mem_cons_self→ke,flatten_cons→kN,mem_cons_of_mem→jW,length_take→jQ,length_set→jF,mem_or_eq_of_mem_set→ku,map_cons→j5,getElem?_append_right→jA,getElem?_append_left→jp,getElem?_drop→kj,range→jB,getElem?_map→jm,getElem?_range→ko,getElem?_eq_none→jY,getElem?_eq_getElem→jd,drop_eq_getElem_cons→ki,drop_eq_nil_of_le→j8,replicate→jh,mem_append→kH,getElem?_replicate→jX,length_map→jP,getElem_mem→jN,map_congr_left→kg,take→jR,mem_cons→kD,not_mem_nil→kq,take_succ_eq_append_getElem→jM,mem_append_left→jU,take_of_length_le→j7,length_append→jt,length_singleton→kf,length_cons→j6,eq_nil_of_length_eq_zero→kt,append_nil→jZ,append_assoc→jV
open Bool renaming and_eq_true→ji,not_eq_true'→jJ,eq_false_iff→kC,or_eq_false_iff→jT,not_eq_false'→kI,or_eq_true→jK,true_and→kJ
open Option renaming map_some→jL,getD_some→kA
open Go.Proofs.Tryz renaming prog→jb
open Go.BinOp renaming and→km,or→kK
open Go.IntKind renaming u8→jx,u32→jv,u64→kd,i64→ja
open Int renaming le_refl→jz,toNat_natCast→kO,tdiv_eq_ediv_of_nonneg→kR
open Go.Value renaming bool→jS,int→jg
open Inhabited renaming default→ua
namespace Go
theorem W196{p:Prop}(h:p:=by show st.length≠0;omega):p:=h
theorem W215{p:Prop}(h:p:=by rw [h];decide):p:=h
end Go
namespace Go.Tx
open Go Go.RowKit
def Ext.Tab (X:Ext) (y:Value) (size n:Nat) (f:Nat→Nat→TC):Prop:=RdRow X.w0 X.ro y size n (fun i j u=>RdC X.w0 X.ro (f i j) u)
def Ext.Into (X X':Ext):Prop:=∀ y size n f,X.Tab y size n f→X'.Tab y size n f
theorem Ext.Tab.nil (X:Ext) (size:Nat) (f:Nat→Nat→TC):X.Tab (.slice none 0 0) size 0 f:=⟨none,0,rfl,jn _,j9 _,fun _ h _=>W181,fun h=>absurd h W30⟩
theorem RdRow.keep {w w':World} {fp fp':Nat→Prop} {h:Value} {size n:Nat} {ok ok':Nat→Nat→Value→Prop} (hr:RdRow w fp h size n ok) (hb:∀ b,fp b→fp' b∧b<w'.heap.size∧w'.heap[b]?=w.heap[b]?)
 (hok:∀ i j u,i<n→j<size→ok i j u→ok' i j u):RdRow w' fp' h size n ok':=by
 obtain ⟨A,c,rfl,h1,h2,ha,hc⟩:=hr
 refine ⟨A,c,rfl,h1,h2,fun a e hp=>⟨(hb _ (ha a e hp).2).2.1,(hb _ (ha a e hp).2).1⟩,fun hn=>?_⟩
 obtain ⟨ad,rfl,hc2⟩:=hc hn
 refine ⟨ad,rfl,fun i j hi hj=>?_⟩
 obtain ⟨u,h3,h4⟩:=hc2 i j hi hj
 refine ⟨u,?_,hok i j u hi hj h4⟩
 rw [World.cell?_of_block (w:=w)]
 ·exact h3
 ·rw [Gu];exact (hb _ (ha ad rfl hn).2).2.2
theorem RdC.keep {w w':World} {fp fp':Nat→Prop} (hb:∀ b,fp b→fp' b∧b<w'.heap.size∧w'.heap[b]?=w.heap[b]?):∀ (t:TC) {v:Value},RdC w fp t v→RdC w' fp' t v
 | .val x,v,h=>h
 | .any,v,h=>h
 | .sub ty size n f,v,h=>RdRow.keep (w':=w') h hb (fun i j u _ _ hu=>RdC.keep hb (f i j) hu)
theorem Ext.Tab.keep {X:Ext} {w:World} {fp:Nat→Prop} (hb:∀ b,X.ro b→fp b∧b<w.heap.size∧w.heap[b]?=X.w0.heap[b]?) {y:Value} {size n:Nat} {f:Nat→Nat→TC} (h:X.Tab y size n f) :
 RdRow w fp y size n (fun i j u=>RdC w fp (f i j) u):=RdRow.keep h hb (fun i j u _ _ hu=>RdC.keep hb (f i j) hu)
def unH (r:Nat) (y:Value):SV→SV
 | .c (.h q)=>match jr q r with
   | true=>.c (.v y)
   | false=>.c (.h q)
 | s=>s
def unHs (r:Nat) (y:Value) (e:En):En:=⟨e.slot,e.g,unH r y e.sv⟩
theorem Qlg {ε:Env} {r:Nat} {y:Value} (h:ε.at_ r=y) (s:SV):(unH r y s).den ε=s.den ε:=by
 unfold unH
 split
 ·split
  ·rename_i q hq
   have:=jf hq
   subst this
   exact h.symm
  ·rfl
 ·rfl
def svsAt (s:Nat):List En→List SV
 | []=>[]
 | e::r=>match jr e.slot s with
   | true=>e.sv::svsAt s r
   | false=>svsAt s r
def putH (s:Nat) (new:SV) (e:En):En:=match jr e.slot s with
 | true=>⟨e.slot,e.g,new⟩
 | false=>e
theorem Q3h {s:Nat}:∀ {l:List En} {e:En},e∈l→jr e.slot s=true→e.sv∈svsAt s l
 | x::r,e,h,he=>by
   rcases List.mem_cons.1 h with rfl | h
   ·simp only [svsAt,he];exact .head _
   ·simp only [svsAt]
    split
    ·exact .tail _ (Q3h h he)
    ·exact Q3h h he
def tabinSt (st:St) (r t:Nat) (X':Ext) (y:Value):St:={ st with fr:=st.fr.map (unHs r y),rg:=(st.rg.set r .dead).set t (.froz X') }
def taboutSt (st:St) (s size n:Nat) (f:Nat→Nat→TC):St:={ st with fr:=st.fr.map (putH s (.c (.h st.rg.length))),rg:=st.rg++[.row size n f none] }
def tabnewSt (st:St) (X:Ext):St:={ st with rg:=st.rg++[.froz X] }
def cutV (v:Value) (k:Nat):Value:=match v with
 | .slice A _ c=>.slice A k c
 | v=>v
theorem Qlh (v:Value) (k:Nat):pieceV v 0 k=cutV v k:=by
 cases v<;>try rfl
 rename_i A n c
 cases A with
 | none=>rfl
 | some ad=>cases ad;simp [pieceV,cutV,Addr.add]
def unP (r:Nat) (y:Value):SV→SV
 | .c (.hs q 0 k)=>match jr q r with
   | true=>.c (.v (cutV y k))
   | false=>.c (.hs q 0 k)
 | s=>s
def unPs (r:Nat) (y:Value) (e:En):En:=⟨e.slot,e.g,unP r y e.sv⟩
theorem Qli {ε:Env} {r:Nat} {y:Value} (h:ε.at_ r=y) (s:SV):(unP r y s).den ε=s.den ε:=by
 unfold unP
 split
 ·split
  ·rename_i q k hq
   have h1:=jf hq
   subst h1 h
   exact (Qlh _ _).symm
  ·rfl
 ·rfl
def tabinPSt (st:St) (r t:Nat) (X':Ext) (y:Value):St:={ st with fr:=st.fr.map (unPs r y),rg:=(st.rg.set r .dead).set t (.froz X') }
def Cfg.here (P:Program) (c:Cfg):Option Cfg:=match (seg P 5000 c.k c.st).2 with
 | .op all o todo k st=>some ⟨.ops all (o::todo)::k,st⟩
 | _=>none
def Cfg.hereJ (P:Program) (c:Cfg):Option Cfg:=match (seg P 5000 c.k c.st).2 with
 | .jump J st=>some ⟨[.jmp J],st⟩
 | _=>none
section
variable {P:Program} {fn:Func} {n0:Nat} {U:Tgt} {c:Cfg}
theorem RunF.hereJ [hw:Wide P] {vc:List Prop} (h:(seg P 5000 c.k c.st).1=vc) (hj:(c.hereJ P).isSome=true) (hv:Conj vc) (next:RunF P fn n0 U (orNo (c.hereJ P))):RunF P fn n0 U c:=by
 unfold RunF at next ⊢
 intro b hb
 unfold Cfg.hereJ at next hj
 generalize hg:seg P 5000 c.k c.st=rr at h hj next
 obtain ⟨vc',out⟩:=rr
 cases out<;>first | (cases hj;done) | skip
 case jump J' st =>
  cases h
  exact Qj hw.mixed 5000 _ _ _ _ hg hv.toAll (fun a w hsat=>next b hb a w hsat)
theorem RunF.here [hw:Wide P] {vc:List Prop} (h:see P fn c=(vc,.op)) (hv:Conj vc) (next:RunF P fn n0 U (orNo (c.here P))):RunF P fn n0 U c:=by
 unfold RunF at next ⊢
 intro b hb
 unfold see at h
 unfold Cfg.here at next
 generalize hg:seg P 5000 c.k c.st=rr at h next
 obtain ⟨vc',out⟩:=rr
 cases out<;>simp only [Prod.mk.injEq,reduceCtorEq,and_false] at h
 case op all o todo k st =>
  obtain ⟨rfl,_⟩:=h
  exact Qj hw.mixed 5000 _ _ _ _ hg hv.toAll (fun a w hsat=>next b hb a w hsat)
 all_goals first | (unfold callV at h;split at h<;>simp at h;done) | (split at h<;>simp at h)
theorem RunF.cutn [hw:Wide P] {X:Type} (m:Nat) (I:X→St) (J:X→Prop) (h1:RunF P fn n0 U ⟨cutK (AtSt I J) m (flatK 200 (openK 50 c.k)),c.st⟩) (h2:∀ x,J x→RunF P fn n0 U ⟨(flatK 200 (openK 50 c.k)).drop m,I x⟩):RunF P fn n0 U c:=by
 unfold RunF at *
 intro b hb a w hs
 exact Zm 50 _ (Gp 200 _ _ _ _ (Q22 m _ (fun a w ⟨x,hx,hs⟩=>h2 x hx b hb a w hs) _ _ _ (h1 b hb a w hs)))
theorem RunF.tabnew (hsc:c.st.scp=true) (next:∀ X:Ext,RunF P fn n0 U ⟨c.k,tabnewSt c.st X⟩):RunF P fn n0 U c:=by
 unfold RunF at next ⊢
 intro b hb a w ⟨ε,hs⟩
 refine next ⟨0,0,fun _=>.u,fun _ _ _ _=>True,fun _=>False,w⟩ b hb a w ⟨ε++[⟨.slice none 0 0,fun _=>False⟩],?_⟩
 exact hs.add hsc hs.below (jn _) (fun _ _ _ _ _ _=>rfl) (fun b h=>h.elim) (fun _ b h=>h.elim) (fun h=>by cases h) (fun b h=>h.elim)
abbrev zdo (y0:Env) (y1 y2:Nat):Ent:=⟨y0.at_ y1,fun b=>y0.fp y1 b∨y0.fp y2 b⟩
theorem RunF.tabinG (r t:Nat) (T:Ext→Value→St) (Y:Value→Value) (V:Value→SV→SV)
 (hT:∀ X' y,T X' y={ c.st with fr:=c.st.fr.map (fun e=>⟨e.slot,e.g,V y e.sv⟩),rg:=(c.st.rg.set r .dead).set t (.froz X') })
 (hV:∀ (ε:Env) y s,ε.at_ r=y→(V (Y y) s).den ε=s.den ε) {ty size n:Nat} {f:Nat→Nat→TC} {X:Ext} (hr:nth c.st.rg r=some (.own ty size n f none)) (ht:nth c.st.rg t=some (.froz X)) (hsc:c.st.scp=true)
 (next:∀ (X':Ext) (A:Option Addr) (cp:Nat),(0<n→∃ ad,A=some ad)→X.Into X'→X'.Tab (.slice A n cp) size n f→RunF P fn n0 U ⟨c.k,T X' (Y (.slice A n cp))⟩):RunF P fn n0 U c:=by
 unfold RunF at next ⊢
 intro b hb a w ⟨ε,hs⟩
 obtain ⟨s1,s2⟩:=Qh hsc
 have hl:=hs.regs.len
 have hrr:=Qb hr
 have htt:=Qb ht
 have hrl:r<c.st.rg.length:=(List.getElem?_eq_some_iff.1 hrr).1
 have htl:t<c.st.rg.length:=(List.getElem?_eq_some_iff.1 htt).1
 have hrt:r≠t:=fun e=>by subst e;rw [hrr] at htt;cases htt
 have hfz:∀ b,X.ro b→ε.fp t b∧b<w.heap.size∧w.heap[b]?=X.w0.heap[b]?:=Qe hs ht
 generalize hX':(⟨X.l,X.n,X.enc,X.G,fun b=>X.ro b∨ε.fp r b,w⟩:Ext)=X'
 have hro:X'.ro=fun b=>X.ro b∨ε.fp r b:=by rw [← hX']
 have hw0:X'.w0=w:=by rw [← hX']
 have hinto:X.Into X':=fun y size n f h=>by
  have:=Ext.Tab.keep (w:=w) (fp:=X'.ro) (fun b hb=>⟨by rw [hro];exact .inl hb,(hfz b hb).2⟩) h
  unfold Ext.Tab
  rw [hw0];exact this
 have htab:X'.Tab (ε.at_ r) size n f:=by
  unfold Ext.Tab
  rw [hw0]
  have h0:RdRow w (ε.fp r) (ε.at_ r) size n (fun i j u=>RdC w (ε.fp r) (f i j) u):=Yt (Qe hs hr).1 (fun i j fp' u _ _ hf hu=>Zf (f i j) hf hu)
  refine RdRow.keep h0 (fun b hb=>⟨by rw [hro];exact .inr hb,(hs.regs.lt r _ hrr rfl b hb).1,rfl⟩) (fun i j u _ _ hu=>RdC.mono (fun b hb=>by rw [hro];exact .inr hb) (f i j) hu)
 obtain ⟨A,cp,hA,_,hA0⟩:=Z7 (Qe hs hr).1
 have hA:ε.at_ r=.slice A n cp:=hA
 refine (hT _ _▸next X' A cp hA0 hinto (by rw [← hA];exact htab)) b hb a w ⟨ε.set t (zdo ε t r),?_⟩
 generalize hx:((zdo ε t r):Ent)=x
 have hxh:x.h=ε.at_ t:=by rw [← hx]
 have hxf:x.fp=fun b=>ε.fp t b∨ε.fp r b:=by rw [← hx]
 obtain ⟨atAll,hsAll⟩:=Env.set_same (ε:=ε) (r:=t) (x:=x) W30 hxh
 have entT:Env.ent (ε.set t x) t=x:=Zh W198
 have entO:∀ j,j≠t→Env.ent (ε.set t x) j=ε.ent j:=fun j hj=>by
  unfold Env.ent;rw [jc,jc,jE (Ne.symm hj)]
 have cls:∀ (j:Nat) (s:Reg),((c.st.rg.set r .dead).set t (.froz X'))[j]?=some s→(j=t∧s=.froz X')∨(j=r∧s=.dead)∨(j≠t∧j≠r∧c.st.rg[j]?=some s):=fun j s hj=>by
  by_cases hjt:j=t
  ·subst hjt
   rw [jG (by simpa using htl)] at hj
   cases hj;exact .inl ⟨rfl,rfl⟩
  ·rw [jE (Ne.symm hjt)] at hj
   by_cases hjr:j=r
   ·subst hjr
    rw [jG hrl] at hj
    cases hj;exact .inr (.inl ⟨rfl,rfl⟩)
   ·rw [jE (Ne.symm hjr)] at hj
    exact .inr (.inr ⟨hjt,hjr,hj⟩)
 have fpO:∀ j,j≠t→∀ b,Env.fp (ε.set t x) j b→ε.fp j b:=fun j hj b hb=>by unfold Env.fp at hb ⊢;rwa [entO j hj] at hb
 have fpT:∀ b,Env.fp (ε.set t x) t b→ε.fp t b∨ε.fp r b:=fun b hb=>by unfold Env.fp at hb;rw [entT,hxf] at hb;exact hb
 refine ⟨hs.defs,hs.size,fun e he=>?_,⟨by simp [hl],fun j s hj=>?_,fun j s hj hl' b hb=>?_,fun j s hj he b hb=>?_,fun i j ri rj hij hi hj he hl' b hb1 hb2=>?_⟩,hs.below,by rw [hsAll];exact hs.pre⟩
 ·obtain ⟨e0,he0,rfl⟩:=List.mem_map.1 he
  have h0:=(hs.fr e0 he0).same (s1 e0 he0) (fun i _=>atAll i)
  refine ⟨h0.1,fun hg=>?_,h0.2.2⟩
  show get a e0.slot=(V (Y (.slice A n cp)) e0.sv).den _
  rw [hV _ _ _ ((atAll r).trans hA)]
  exact h0.2.1 hg
 ·rcases cls j s hj with ⟨rfl,rfl⟩ | ⟨rfl,rfl⟩ | ⟨k1,k2,k3⟩
  ·rw [entT]
   intro b hb
   rw [hro] at hb
   rw [hxf,hw0]
   rcases hb with hb | hb
   ·exact ⟨.inl (hfz b hb).1,(hfz b hb).2.1,rfl⟩
   ·exact ⟨.inr hb,(hs.regs.lt r _ hrr rfl b hb).1,rfl⟩
  ·trivial
  ·rw [entO j k1]
   exact (hs.regs.reg j s k3).same (List.all_eq_true.1 s2 s (jq k3)) (fun i _=>atAll i)
 ·rcases cls j s hj with ⟨rfl,rfl⟩ | ⟨rfl,rfl⟩ | ⟨k1,k2,k3⟩
  ·rcases fpT b hb with h | h
   ·exact hs.regs.lt j _ htt rfl b h
   ·exact hs.regs.lt r _ hrr rfl b h
  ·cases hl'
  ·exact hs.regs.lt j s k3 hl' b (fpO j k1 b hb)
 ·rcases cls j s hj with ⟨rfl,rfl⟩ | ⟨rfl,rfl⟩ | ⟨k1,k2,k3⟩
  ·cases he
  ·cases he
  ·exact hs.regs.lim j s k3 he b (fpO j k1 b hb)
 ·rcases cls i ri hi with ⟨rfl,rfl⟩ | ⟨rfl,rfl⟩ | ⟨k1,k2,k3⟩
  ·cases he
  ·cases he
  ·have hb0:ε.fp i b:=fpO i k1 b hb1
   rcases cls j rj hj with ⟨e1,e2⟩ | ⟨e1,e2⟩ | ⟨m1,m2,m3⟩
   ·subst e1 e2
    rcases fpT b hb2 with h | h
    ·exact hs.regs.sep i j ri _ k1 k3 htt he rfl b hb0 h
    ·exact hs.regs.sep i r ri _ k2 k3 hrr he rfl b hb0 h
   ·subst e2;cases hl'
   ·exact hs.regs.sep i j ri rj hij k3 m3 he hl' b hb0 (fpO j m1 b hb2)
theorem RunF.tabin (r t:Nat) {ty size n:Nat} {f:Nat→Nat→TC} {X:Ext} (hr:nth c.st.rg r=some (.own ty size n f none)) (ht:nth c.st.rg t=some (.froz X)) (hsc:c.st.scp=true)
 (next:∀ (X':Ext) (A:Option Addr) (cp:Nat),X.Into X'→X'.Tab (.slice A n cp) size n f→RunF P fn n0 U ⟨c.k,tabinSt c.st r t X' (.slice A n cp)⟩):RunF P fn n0 U c:=
 RunF.tabinG r t (fun X' y=>tabinSt c.st r t X' y) id (unH r) (fun _ _=>rfl) (fun _ _ s h=>Qlg h s) hr ht hsc (fun X' A cp _=>next X' A cp)
theorem RunF.tabinP (r t m:Nat) {ty n:Nat} {f:Nat→Nat→TC} {X:Ext} (hr:nth c.st.rg r=some (.own ty 1 n f none)) (ht:nth c.st.rg t=some (.froz X)) (hsc:c.st.scp=true) (hm:m≤n)
 (next:∀ (X':Ext) (A:Option Addr) (cp:Nat),X.Into X'→X'.Tab (.slice A m cp) 1 m f→RunF P fn n0 U ⟨c.k,tabinPSt c.st r t X' (.slice A n cp)⟩):RunF P fn n0 U c:=by
 refine RunF.tabinG r t (fun X' y=>tabinPSt c.st r t X' y) id (unP r) (fun _ _=>rfl) (fun ε y s h=>Qli h s) hr ht hsc (fun X' A cp hA hin htab=>?_)
 refine next X' A cp hin ?_
 obtain ⟨A1,c1,e1,h1,h2,h3,h4⟩:=htab
 cases e1
 refine ⟨A,cp,rfl,by omega,h2,fun a ha hm0=>h3 a ha W30,fun hm0=>?_⟩
 obtain ⟨ad,rfl,h5⟩:=h4 W30
 exact ⟨ad,rfl,fun i j hi hj=>h5 i j W30 hj⟩
theorem Qlj {b:Base} {st:St} {ε:Env} {a:Act} {w:World} (hs:SatE b st ε a w) (hsc:st.scp=true) {t:Nat} {X:Ext} (ht:nth st.rg t=some (.froz X)) {y:Value} {size n:Nat} {f:Nat→Nat→TC} (h:X.Tab y size n f) :
 SatE b { st with rg:=st.rg++[.row size n f none] } (ε++[⟨y,ε.fp t⟩]) a w:=by
 have htt:=Qb ht
 have hfz:∀ b,X.ro b→ε.fp t b∧b<w.heap.size∧w.heap[b]?=X.w0.heap[b]?:=Qe hs ht
 refine hs.add hsc hs.below (jn _) (fun _ _ _ _ _ _=>rfl) ⟨Ext.Tab.keep hfz h,trivial⟩ (fun _ b hb=>hs.regs.lt t _ htt rfl b hb) (fun h=>by cases h) (fun b hb _ i ri hi hl he hb'=>?_)
 rcases he with he | he
 ·cases he
 ·by_cases hit:i=t
  ·subst hit;rw [htt] at hi;cases hi;cases he
  ·exact hs.regs.sep i t ri _ hit hi htt he rfl b hb' hb
theorem RunF.tabout (s t:Nat) {X:Ext} {y:Value} {size n:Nat} {f:Nat→Nat→TC} (hs0:svsAt s c.st.fr=[.c (.v y)]) (ht:nth c.st.rg t=some (.froz X)) (hsc:c.st.scp=true) (h:X.Tab y size n f)
 (next:RunF P fn n0 U ⟨c.k,taboutSt c.st s size n f⟩):RunF P fn n0 U c:=by
 unfold RunF at next ⊢
 intro b hb a w ⟨ε,hs⟩
 have h1:=Qlj hs hsc ht h
 refine next b hb a w ⟨_,h1.defs,h1.size,fun e he=>?_,h1.regs,h1.below,h1.pre⟩
 obtain ⟨e0,he0,rfl⟩:=List.mem_map.1 he
 have h0:=h1.fr e0 he0
 unfold putH
 split
 ·rename_i hb
  refine ⟨h0.1,fun hg=>?_,h0.2.2⟩
  have hm:=Q3h he0 hb
  rw [hs0,jH] at hm
  rw [h0.2.1 hg,hm]
  show y=Env.at_ (ε++[⟨y,ε.fp t⟩]) c.st.rg.length
  rw [← hs.regs.len,Yu]
 ·exact h0
end
def mopenSt (st:St) (r:Nat) (T:MT) (ty sz n:Nat) (f:KA T.K→Nat×(Nat→Nat→TC)) (a:KA T.K):St:={ st with rg:=st.rg.set r (.mpr T ty sz n f (some (a,st.rg.length,none)))++[.own ty sz (f a).1 (f a).2 none] }
def mcloseSt (st:St) (r q:Nat) (T:MT) (ty sz n:Nat) (f:KA T.K→Nat×(Nat→Nat→TC)) (a:KA T.K) (m:Nat) (g:Nat→Nat→TC):St:={ st with rg:=(st.rg.set q .dead).set r (.mpr T ty sz n (fun p=>if p=a then (m,g) else f p) none) }
def unT (r q:Nat):SV→SV
 | .c (.hs p 0 k)=>match jr p r with
   | true=>.c (.h q)
   | false=>.c (.hs p 0 k)
 | s=>s
theorem Qlk {ε:Env} {r q m:Nat} (hq:ε.at_ q=pieceV (ε.at_ r) 0 m) (s:SV) (h:∀ k,s=.c (.hs r 0 k)→k=m):(unT r q s).den ε=s.den ε:=by
 unfold unT
 split
 ·rename_i p k
  split
  ·rename_i hp
   have e1:=jf hp
   subst e1
   have e2:=h k rfl
   subst e2
   exact hq
  ·rfl
 ·rfl
def trimSt (st:St) (r ty size m:Nat) (f:Nat→Nat→TC):St:={ st with fr:=st.fr.map (fun e=>⟨e.slot,e.g,unT r st.rg.length e.sv⟩),rg:=st.rg.set r .dead++[.own ty size m f none] }
def trimVc (r m:Nat):List En→List Prop
 | []=>[]
 | e::l=>match e.sv with
   | .c (.hs p 0 k)=>match jr p r with
     | true=>(k=m)::trimVc r m l
     | false=>trimVc r m l
   | _=>trimVc r m l
theorem Gq {r m:Nat}:∀ {l:List En},All (trimVc r m l)→∀ e∈l,∀ k,e.sv=.c (.hs r 0 k)→k=m
 | x::l,h,e,he,k,hk=>by
   unfold trimVc at h
   rcases List.mem_cons.1 he with rfl | he
   ·rw [hk] at h
    simp only [Nat.beq_refl] at h
    exact h.head
   ·split at h
    ·split at h
     ·exact Gq h.tail e he k hk
     ·exact Gq h e he k hk
    ·exact Gq h e he k hk
theorem Q00 {α:Type} {size:Nat}:∀ {l:List (List α)} {m:Nat},(∀ x∈l,x.length=size)→(l.take m).flatten=l.flatten.take (m * size)
 | [],m,_=>by simp
 | x::r,0,_=>by simp
 | x::r,m+1,h=>by
   have hx:=h x ke
   rw [List.take_succ_cons,kN,kN,Q00 (fun y hy=>h y (jW _ hy)),show (m+1) * size=x.length+m * size by rw [hx,Nat.succ_mul,Nat.add_comm],List.take_length_add_append]
theorem Qia {w:World} {M fp:Nat→Prop} {ty size n m:Nat} {h:Value} {ok:Nat→Nat→(Nat→Prop)→Value→Prop} (ho:OwnRow w M fp ty size n h ok) (hm:m≤n) (h0:0<n):OwnRow w M fp ty size m (pieceV h 0 m) ok:=by
 obtain ⟨els,⟨o1,ho⟩,o2,o3,o4,fps,o5,o6,o7⟩:=ho
 rcases ho with ⟨_,e⟩ | ⟨g,cap,cur,rfl,hb,hg,hnc,hcm,hsz,htk⟩
 ·omega
 have hp:pieceV (.slice (some ⟨g,0,none⟩) n cap) 0 m=.slice (some ⟨g,0,none⟩) m cap:=by simp [pieceV,Addr.add]
 rw [hp]
 have hgv:∀ i j,i<m→getV (els.take m) i j=getV els i j:=fun i j hi=>by
  unfold getV;rw [List.getElem?_take_of_lt hi]
 refine ⟨els.take m,⟨?_,.inr ⟨g,cap,cur,rfl,hb,hg,by omega,hcm,hsz,?_⟩⟩,by simp [o2];omega,fun el he=>o3 el (List.mem_of_mem_take he),o4,fps,fun i j hi hj=>?_,fun i j b hi hj=>o6 i j b W30 hj,fun i j i' j' b hi hj hi' hj'=>o7 i j i' j' b W30 hj W30 hj'⟩
 ·rw [Q00 o3,jQ,o1]
  exact kU (kz _ hm)
 ·rw [Q00 o3,← htk,List.take_take,kU (kz _ hm)]
 ·rw [hgv i j hi];exact o5 i j W30 hj
def Cfg.hereL (P:Program) (c:Cfg):Option Cfg:=match (seg P 5000 c.k c.st).2 with
 | .loop body k st=>some ⟨.code (.loop body)::k,st⟩
 | _=>none
def Cfg.hereC (P:Program) (c:Cfg):Option Cfg:=match (seg P 5000 c.k c.st).2 with
 | .call _ _ _ _ _ k0 _ st=>some ⟨k0,st⟩
 | _=>none
section
variable {P:Program} {fn:Func} {n0:Nat} {U:Tgt} {c:Cfg}
theorem RunF.hereC [hw:Wide P] {vc:List Prop} (h:(seg P 5000 c.k c.st).1=vc) (hj:(c.hereC P).isSome=true) (hv:Conj vc) (next:RunF P fn n0 U (orNo (c.hereC P))):RunF P fn n0 U c:=by
 unfold RunF at next ⊢
 intro b hb
 unfold Cfg.hereC at next hj
 generalize hg:seg P 5000 c.k c.st=rr at h hj next
 obtain ⟨vc',out⟩:=rr
 cases out<;>first | (cases hj;done) | skip
 cases h
 exact Qj hw.mixed 5000 _ _ _ _ hg hv.toAll (.inl (next b hb))
theorem RunF.hereL [hw:Wide P] {vc:List Prop} (h:see P fn c=(vc,.loop)) (hv:Conj vc) (next:RunF P fn n0 U (orNo (c.hereL P))):RunF P fn n0 U c:=by
 unfold RunF at next ⊢
 intro b hb
 unfold see at h
 unfold Cfg.hereL at next
 generalize hg:seg P 5000 c.k c.st=rr at h next
 obtain ⟨vc',out⟩:=rr
 cases out<;>simp only [Prod.mk.injEq,reduceCtorEq,and_false] at h
 case loop body k st =>
  obtain ⟨rfl,_⟩:=h
  exact Qj hw.mixed 5000 _ _ _ _ hg hv.toAll (fun a w hsat=>next b hb a w hsat)
 all_goals first | (unfold callV at h;split at h<;>simp at h;done) | (split at h<;>simp at h)
theorem RunF.trim (r m:Nat) {ty size n:Nat} {f:Nat→Nat→TC} {vc:List Prop} (hr:nth c.st.rg r=some (.own ty size n f none)) (hsc:c.st.scp=true) (hm:m≤n∧0<n) (hvc:trimVc r m c.st.fr=vc) (hv:Conj vc)
 (next:RunF P fn n0 U ⟨c.k,trimSt c.st r ty size m f⟩):RunF P fn n0 U c:=by
 unfold RunF at next ⊢
 intro b hb a w ⟨ε,hs⟩
 obtain ⟨s1,s2⟩:=Qh hsc
 have hl:=hs.regs.len
 have hrr:=Qb hr
 have hrl:r<c.st.rg.length:=(List.getElem?_eq_some_iff.1 hrr).1
 have hown:=(Qe hs hr).1
 have hkill:SatE b { c.st with rg:=c.st.rg.set r .dead } ε a w:=⟨hs.defs,hs.size,hs.fr,hs.regs.kill r,hs.below,hs.pre⟩
 have hsc2:St.scp { c.st with rg:=c.st.rg.set r .dead }=true:=by
  unfold St.scp
  rw [ji]
  simp only [jF]
  refine ⟨List.all_eq_true.2 s1,List.all_eq_true.2 fun s hs=>?_⟩
  rcases ku hs with h | h
  ·exact List.all_eq_true.1 s2 s h
  ·subst h;rfl
 have hadd:=hkill.add (x:=⟨pieceV (ε.at_ r) 0 m,ε.fp r⟩) (r:=.own ty size m f none) hsc2 hs.below (jn _) (fun _ _ _ _ _ _=>rfl) ⟨Qia hown hm.1 hm.2,trivial⟩ (fun _ q hq=>hs.regs.lt r _ hrr rfl q hq) (fun _ q hq=>hs.regs.lim r _ hrr rfl q hq)
  (fun q hq _ i ri hi hlv _ hq'=>by
    by_cases hir:i=r
    ·subst hir
     simp only [jG hrl] at hi
     cases hi;cases hlv
    ·rw [jE (Ne.symm hir)] at hi
     exact hs.regs.sep r i _ ri (Ne.symm hir) hrr hi rfl hlv q hq hq')
 refine next b hb a w ⟨ε++[⟨pieceV (ε.at_ r) 0 m,ε.fp r⟩],hadd.defs,hadd.size,fun e he=>?_,by simpa [trimSt] using hadd.regs,hadd.below,hadd.pre⟩
 obtain ⟨e0,he0,rfl⟩:=List.mem_map.1 he
 have h0:=hadd.fr e0 he0
 refine ⟨h0.1,fun hg=>?_,h0.2.2⟩
 have h1:=h0.2.1 hg
 show get a e0.slot=(unT r c.st.rg.length e0.sv).den _
 rw [h1]
 refine (Qlk ?_ _ (fun k hk=>Gq (hvc▸hv.all) e0 he0 k hk)).symm
 rw [← hl,Yu,Q13 (show r<ε.length by omega)]
def Cfg.ment (P:Program) (c:Cfg) (r:Nat) (s:Int):Option Cfg:=
 match (seg P 5000 c.k c.st).2 with
 | .op all o todo k st=>match o.op,o.guard with
   | .mapEntry t m x,none=>match opndC st [] m,opnd st [] x with
     | some (.h r'),some kx=>match nth st.rg r' with
       | some (.mpr T ty sz n f (some (a,q,_)))=>match kaOf T.K T.kAgg kx with
         | some a'=>if jr r r'&&(jr T.t t&&st.scp) then
            (putSt { st with rg:=st.rg.set r' (.mpr T ty sz (n+1) f (some (a,q,some s))) } o.dst [] (.tup [(false,[.h q]),(false,[.i .i64 s])])).map fun st'=>⟨.ops all todo::k,st'⟩
           else none
         | none=>none
       | _=>none
     | _,_=>none
   | _,_=>none
 | _=>none
def mentVc (P:Program) (c:Cfg) (r:Nat):List Prop:=
 match (seg P 5000 c.k c.st).2 with
 | .op all o todo k st=>match o.op,o.guard with
   | .mapEntry t m x,none=>match opnd st [] x with
     | some kx=>match nth st.rg r with
       | some (.mpr T ty sz n f (some (a,q,_)))=>match kaOf T.K T.kAgg kx with
         | some a'=>KA.vc T.K a'++[T.P=P,n<maxLen,a=a']
         | none=>[]
       | _=>[]
     | _=>[]
   | _,_=>[]
 | _=>[]
theorem RunF.ment [hw:Wide P] {vc vc2:List Prop} (r:Nat) (h:see P fn c=(vc,.op)) (hv:Conj vc) (hm:mentVc P c r=vc2) (hv2:Conj vc2) (hsome:∀ s,(c.ment P r s).isSome=true)
 (next:∀ s:Int,RunF P fn n0 U (orNo (c.ment P r s))):RunF P fn n0 U c:=by
 unfold RunF at next ⊢
 intro b hb
 subst hm
 unfold see at h
 unfold mentVc at hv2
 unfold Cfg.ment at next hsome
 generalize hg:seg P 5000 c.k c.st=rr at h hv2 next hsome
 obtain ⟨vc',out⟩:=rr
 cases out<;>simp only [Prod.mk.injEq,reduceCtorEq,and_false] at h
 case op all o todo k st =>
  obtain ⟨rfl,_⟩:=h
  refine Qj hw.mixed 5000 _ _ _ _ hg hv.toAll (fun a w hsat=>?_)
  obtain ⟨ε,hs⟩:=hsat
  simp only at hv2 next hsome
  obtain ⟨dst,op,type,pos,after,guard⟩:=o
  simp only at hsome next hv2
  have hfind:∃ t m x kx T ty sz n f a1 q st0 a',op=.mapEntry t m x∧guard=none∧opndC st [] m=some (.h r)∧opnd st [] x=some kx∧nth st.rg r=some (.mpr T ty sz n f (some (a1,q,st0)))∧kaOf T.K T.kAgg kx=some a'∧T.t=t∧st.scp=true:=by
   have h0:=hsome 0
   cases op<;>first | (cases h0;done) | skip
   rename_i t m x
   cases guard with
   | some g=>cases h0
   | none =>
     simp only at h0
     split at h0
     ·rename_i r' kx hm hx
      split at h0
      ·rename_i T ty sz n f a1 q st0 hr
       split at h0
       ·rename_i a' hk
        split at h0
        ·rename_i hbc
         simp only [ji] at hbc
         have e:=jf hbc.1
         subst e
         exact ⟨t,m,x,kx,T,ty,sz,n,f,a1,q,st0,a',rfl,rfl,hm,hx,hr,hk,jf hbc.2.1,hbc.2.2⟩
        ·cases h0
       ·cases h0
      ·cases h0
     ·cases h0
  obtain ⟨t,m,x,kx,T,ty,sz,n,f,a1,q,st0,a',rfl,rfl,hm,hx,hr,hk,ht,hsc⟩:=hfind
  subst ht
  have hbq:(jr r r&&(jr T.t T.t&&st.scp))=true:=by simp [hsc]
  simp only [hm,hx,hr,hk,if_pos hbq] at hsome next hv2
  have hva:=hv2.toAll
  have hP:T.P=P:=hva.right.head
  have hn:n<maxLen:=hva.right.tail.head
  have ha:a1=a':=hva.right.tail.tail.one
  subst ha
  obtain ⟨has,hd,fb,fps,g1,g2,g3,g4,g5,g6⟩:=Qe hs hr
  obtain ⟨bb,w',s,he,hrun,hgr,hM,hf,hmv,hpd⟩:=MapV.entry g1 (KA.vc_wf _ _ hva.left) hn
  have hs1:=hs.updG (new:=.mpr T ty sz (n+1) f (some (a1,q,some (s:Int)))) (Qb hr) rfl (g2 bb hf) hgr.size hgr.os hgr.tape hgr.output (fun k hk hne=>hgr.block k hk (fun e=>hne (Option.some.inj e)))
   (show MapR ε w' _ _ T ty sz _ (n+1) f (some (a1,q,some (s:Int))) from ⟨_,_,fb,fps,hmv,g2,g3,g4,fun a ha=>by
     exact OwnRow.map (w':=w') (g5 a (fun e=>ha (by simpa using e))) (fun c hc hlt=>hgr.block c hlt (fun e=>(g3 a c hc).2 W219)) (fun i j fp' u _ _ hf' hu=>OwnC.world ((f a).2 i j) (fun c hc hlt=>hgr.block c hlt (fun e=>(g3 a c (hf' c hc)).2 W219)) hu),
     fun a q3 st3 e=>by cases e;exact ⟨(g6 _ _ _ rfl).1,(g6 _ _ _ rfl).2.1,fun s2 hs2=>by cases hs2;exact hpd⟩⟩) rfl
  have hn1:=next (s:Int)
  have hM1:=hsome (s:Int)
  refine Yn (Zn rfl _) ?_
  unfold Oper.wp
  have hex:(execOp a.eval { dst,op:=.mapEntry T.t m x,type,pos,after,guard:=none }).run P w=.ok (.value ((SV.tup [(false,[C.h q]),(false,[C.i .i64 (s:Int)])]).den ε)) w':=by
   simp only [execOp,Q5 hs (gHolds_nil a) hm,Qg hs (gHolds_nil a) hx]
   rw [hP] at hrun
   refine Q45 ?_
   rw [Yl hk]
   show (Instr.mapEntry T.t (ε.ent r).h (T.valK a1)).run P w=_
   rw [hrun,(g6 _ _ _ rfl).1]
   rfl
  rw [hex,Oper.upon_value]
  cases hput:putSt { st with rg:=st.rg.set r (.mpr T ty sz (n+1) f (some (a1,q,some (s:Int)))) } dst [] (.tup [(false,[C.h q]),(false,[C.i .i64 (s:Int)])]) with
  | none=>rw [hput] at hM1;cases hM1
  | some st' =>
    rw [hput] at hn1
    simp only [jL,orNo] at hn1
    exact hn1 b hb _ w' ⟨_,Qf hs1 hput (fun _=>rfl) (fun hn=>absurd (gHolds_nil _) hn)⟩
 all_goals first | (unfold callV at h;split at h<;>simp at h;done) | (split at h<;>simp at h)
def Cfg.mentP (P:Program) (c:Cfg) (r:Nat) (s:Int):Option Cfg:=
 match (seg P 5000 c.k c.st).2 with
 | .op all o todo k st=>match o.op,o.guard with
   | .mapEntry t m x,none=>match opndC st [] m,opnd st [] x with
     | some (.h r'),some kx=>match nth st.rg r' with
       | some (.mp T n has f _)=>match kaOf T.K T.kAgg kx with
         | some a'=>if jr r r'&&(jr T.t t&&st.scp) then
            (putSt { st with rg:=st.rg.set r' (.mp T (n+1) (fun q=>decide (q=a')||has q) f (some ⟨0,fun _=>false,0,some a',some s⟩)) } o.dst [] (.tup [(T.vAgg,KA.cs T.V (f a')),(false,[.i .i64 s])])).map fun st'=>⟨.ops all todo::k,st'⟩
           else none
         | none=>none
       | _=>none
     | _,_=>none
   | _,_=>none
 | _=>none
def Cfg.mentR (P:Program) (c:Cfg) (r:Nat) (s:Int):Option Cfg:=
 match (seg P 5000 c.k c.st).2 with
 | .opR all listed m i k st=>match nth all i with
   | none=>none
   | some o=>match o.op,o.guard with
   | .mapEntry t mm x,none=>match opndC st [] mm,opnd st [] x with
     | some (.h r'),some kx=>match nth st.rg r' with
       | some (.mp T n has f _)=>match kaOf T.K T.kAgg kx with
         | some a'=>if jr r r'&&(jr T.t t&&(st.scp&&!calmAt all i o)) then
            (putSt { st with rg:=st.rg.set r' (.mp T (n+1) (fun q=>decide (q=a')||has q) f (some ⟨0,fun _=>false,0,some a',some s⟩)) } o.dst [] (.tup [(T.vAgg,KA.cs T.V (f a')),(false,[.i .i64 s])])).map fun st'=>⟨.mix all (setL listed i) m::k,st'⟩
           else none
         | none=>none
       | _=>none
     | _,_=>none
   | _,_=>none
 | _=>none
def mentVcR (P:Program) (c:Cfg) (r:Nat):List Prop:=
 match (seg P 5000 c.k c.st).2 with
 | .opR all listed m i k st=>match nth all i with
   | none=>[]
   | some o=>match o.op,o.guard with
   | .mapEntry t mm x,none=>match opnd st [] x with
     | some kx=>match nth st.rg r with
       | some (.mp T n has f _)=>match kaOf T.K T.kAgg kx with
         | some a'=>KA.vc T.K a'++[T.P=P,n<maxLen]
         | none=>[]
       | _=>[]
     | _=>[]
   | _,_=>[]
 | _=>[]
theorem RunF.mentR [hw:Wide P] {vc vc2:List Prop} (r:Nat) (h:see P fn c=(vc,.opR)) (hv:Conj vc) (hm:mentVcR P c r=vc2) (hv2:Conj vc2) (hsome:∀ s,(c.mentR P r s).isSome=true)
 (next:∀ s:Int,RunF P fn n0 U (orNo (c.mentR P r s))):RunF P fn n0 U c:=by
 unfold RunF at next ⊢
 intro b hb
 subst hm
 unfold see at h
 unfold mentVcR at hv2
 unfold Cfg.mentR at next hsome
 generalize hg:seg P 5000 c.k c.st=rr at h hv2 next hsome
 obtain ⟨vc',out⟩:=rr
 cases out<;>simp only [Prod.mk.injEq,reduceCtorEq,and_false] at h
 case opR all listed m i k st =>
  obtain ⟨rfl,_⟩:=h
  refine Qj hw.mixed 5000 _ _ _ _ hg hv.toAll ?_
  intro a w hsat hsel
  obtain ⟨ε,hs⟩:=hsat
  simp only at hv2 next hsome
  cases hoi:nth all i with
  | none=>simp only [hoi] at hsome;cases hsome 0
  | some o =>
  simp only [hoi] at hv2 next hsome
  rw [Ql] at hoi
  have hoi':all.toArray[i]?=some o:=by simpa using hoi
  obtain ⟨dst,op,type,pos,after,guard⟩:=o
  simp only at hsome next hv2
  have hfind:∃ t mm x kx T n has f it a',op=.mapEntry t mm x∧guard=none∧opndC st [] mm=some (.h r)∧opnd st [] x=some kx∧nth st.rg r=some (.mp T n has f it)∧kaOf T.K T.kAgg kx=some a'∧T.t=t∧st.scp=true∧calmAt all i { dst,op:=.mapEntry t mm x,type,pos,after,guard:=none }=false:=by
   have h0:=hsome 0
   cases op<;>first | (cases h0;done) | skip
   rename_i t mm x
   cases guard with
   | some g=>cases h0
   | none =>
     simp only at h0
     split at h0
     ·rename_i r' kx hm hx
      split at h0
      ·rename_i T n has f it hr
       split at h0
       ·rename_i a' hk
        split at h0
        ·rename_i hbc
         simp only [ji,jJ] at hbc
         have e:=jf hbc.1
         subst e
         exact ⟨t,mm,x,kx,T,n,has,f,it,a',rfl,rfl,hm,hx,hr,hk,jf hbc.2.1,hbc.2.2.1,hbc.2.2.2⟩
        ·cases h0
       ·cases h0
      ·cases h0
     ·cases h0
  obtain ⟨t,mm,x,kx,T,n,has,f,it,a',rfl,rfl,hm,hx,hr,hk,ht,hsc,hcalm⟩:=hfind
  subst ht
  have hbq:(jr r r&&(jr T.t T.t&&(st.scp&&!calmAt all i { dst,op:=.mapEntry T.t mm x,type,pos,after,guard:=none })))=true:=by simp [hsc,hcalm]
  simp only [hm,hx,hr,hk,if_pos hbq] at hsome next hv2
  have hva:=hv2.toAll
  have hP:T.P=P:=hva.right.head
  have hn:n<maxLen:=hva.right.tail.one
  obtain ⟨bb,w',s,he,hrun,hgr,hM,hf,hmv⟩:=MapAt.entry (Qe hs hr) (KA.vc_wf _ _ hva.left) hn
  have hs1:=hs.updG (new:=.mp T (n+1) (fun q=>decide (q=a')||has q) f (some ⟨0,fun _=>false,0,some a',some (s:Int)⟩)) (Qb hr) rfl hf hgr.size hgr.os hgr.tape hgr.output (fun k hk hne=>hgr.block k hk (fun e=>hne (Option.some.inj e))) hmv rfl
  have hn1:=next (s:Int)
  have hM1:=hsome (s:Int)
  have hw1:Region.wanted ({ dst,op:=.mapEntry T.t mm x,type,pos,after,guard:=none }:Oper) (yielded all.toArray a.tmps)=true:=Zn rfl _
  unfold wpOpR
  simp only [hoi',hw1,if_true]
  have hex:(execOp a.eval { dst,op:=.mapEntry T.t mm x,type,pos,after,guard:=none }).run P w=.ok (.value ((SV.tup [(T.vAgg,KA.cs T.V (f a')),(false,[C.i .i64 (s:Int)])]).den ε)) w':=by
   simp only [execOp,Q5 hs (gHolds_nil a) hm,Qg hs (gHolds_nil a) hx]
   rw [hP] at hrun
   refine Q45 ?_
   rw [Yl hk]
   show (Instr.mapEntry T.t (ε.ent r).h (T.valK a')).run P w=_
   rw [hrun]
   simp only [SV.den,j5,List.map_nil,Q1p,KA.cs_den]
   rfl
  unfold stepR
  rw [hex]
  cases hput:putSt { st with rg:=st.rg.set r (.mp T (n+1) (fun q=>decide (q=a')||has q) f (some ⟨0,fun _=>false,0,some a',some (s:Int)⟩)) } dst [] (.tup [(T.vAgg,KA.cs T.V (f a')),(false,[C.i .i64 (s:Int)])]) with
  | none=>rw [hput] at hM1;cases hM1
  | some st' =>
    rw [hput] at hn1
    simp only [jL,orNo] at hn1
    exact ⟨fun hc=>absurd hc (by rw [hcalm];decide),hn1 b hb _ w' ⟨_,Qf hs1 hput (fun _=>rfl) (fun hn=>absurd (gHolds_nil _) hn)⟩ hsel⟩
 all_goals first | (unfold callV at h;split at h<;>simp at h;done) | (split at h<;>simp at h)
attribute [irreducible] Cfg.ment
attribute [irreducible] Cfg.mentP
attribute [irreducible] Cfg.mentR
theorem RunF.mopen (r:Nat) {T:MT} {ty sz n:Nat} {f:KA T.K→Nat×(Nat→Nat→TC)} (x:KA T.K) (hr:nth c.st.rg r=some (.mpr T ty sz n f none)) (hsc:c.st.scp=true)
 (next:RunF P fn n0 U ⟨c.k,mopenSt c.st r T ty sz n f x⟩):RunF P fn n0 U c:=by
 unfold RunF at next ⊢
 intro b hb a w ⟨ε,hs⟩
 obtain ⟨s1,s2⟩:=Qh hsc
 have hl:=hs.regs.len
 have hrl:r<c.st.rg.length:=(List.getElem?_eq_some_iff.1 (Qb hr)).1
 obtain ⟨has,hd,fb,fps,g1,g2,g3,g4,g5,g6⟩:MapR ε w b.M (ε.fp r) T ty sz (ε.at_ r) n f none:=Qe hs hr
 obtain ⟨hregs,hat⟩:=hs.regs.split (x0:=(⟨ε.at_ r,fun q=>ε.fp r q∧¬ fps x q⟩:Ent)) (xs:=[⟨hd x,fps x⟩]) (regs:=[.own ty sz (f x).1 (f x).2 none]) (new:=.mpr T ty sz n f (some (x,c.st.rg.length,none))) (Qb hr) rfl rfl s2 (.inl rfl) rfl (fun _ h=>h.1)
  (fun y hy q hq=>by
    rw [jH] at hy
    subst hy
    exact (g3 x q hq).1)
  (fun _ y hy q hq h0=>by
    rw [jH] at hy
    subst hy
    exact h0.2 hq)
  (fun _ i j y y' hij hy hy'=>by
    have h1:i=0:=by
     have:=(List.getElem?_eq_some_iff.1 hy).1
     simp at this;exact this
    have h2:j=0:=by
     have:=(List.getElem?_eq_some_iff.1 hy').1
     simp at this;exact this
    omega)
  (by
    have hm:Env.at_ (ε.set r (⟨ε.at_ r,fun q=>ε.fp r q∧¬ fps x q⟩:Ent)++[⟨hd x,fps x⟩]) c.st.rg.length=hd x:=by
     unfold Env.at_
     rw [Zh (x:=(⟨hd x,fps x⟩:Ent))]
     rw [jA W138]
     simp [hl]
    refine ⟨has,hd,fb,fun p q=>p≠x∧fps p q,g1,fun q hq=>⟨g2 q hq,fun h=>(g3 x q h).2 hq⟩,fun p q hq=>⟨⟨(g3 p q hq.2).1,fun h=>hq.1 (g4 p x q hq.2 h)⟩,(g3 p q hq.2).2⟩,fun p p' q h h'=>g4 p p' q h.2 h'.2,fun p hp=>?_,fun p q st e=>?_⟩
    ·have hpx:p≠x:=fun e=>hp (by rw [e];rfl)
     have e:(fun q=>p≠x∧fps p q)=fps p:=by funext q;simp [hpx]
     show OwnRow w b.M (fun q=>p≠x∧fps p q) ty sz (f p).1 (hd p) _
     rw [e]
     exact g5 p (fun e=>by cases e)
    ·cases e
     exact ⟨hm.symm,fun q h=>h.1 rfl,fun s hs=>by cases hs⟩)
  (fun i s y hi hy=>by
    have h1:i=0:=by
     have:=(List.getElem?_eq_some_iff.1 hy).1
     simp at this;exact this
    subst h1
    cases hi;cases hy
    exact ⟨g5 x (fun e=>by cases e),trivial⟩)
 exact next b hb a w ⟨_,Jx hs hsc hregs hat W138⟩
theorem RunF.mclose (r q:Nat) {T:MT} {ty sz n m:Nat} {f:KA T.K→Nat×(Nat→Nat→TC)} {x:KA T.K} {g:Nat→Nat→TC} (hr:nth c.st.rg r=some (.mpr T ty sz n f (some (x,q,none)))) (hq:nth c.st.rg q=some (.own ty sz m g none)) (hsc:c.st.scp=true)
 (next:RunF P fn n0 U ⟨c.k,mcloseSt c.st r q T ty sz n f x m g⟩):RunF P fn n0 U c:=by
 unfold RunF at next ⊢
 intro b hb a w ⟨ε,hs⟩
 obtain ⟨s1,s2⟩:=Qh hsc
 have hl:=hs.regs.len
 have hrr:=Qb hr
 have hqq:=Qb hq
 have hrl:r<c.st.rg.length:=(List.getElem?_eq_some_iff.1 hrr).1
 have hql:q<c.st.rg.length:=(List.getElem?_eq_some_iff.1 hqq).1
 have hqr:q≠r:=fun e=>by subst e;rw [hrr] at hqq;cases hqq
 obtain ⟨has,hd,fb,fps,g1,g2,g3,g4,g5,g6⟩:MapR ε w b.M (ε.fp r) T ty sz (ε.at_ r) n f (some (x,q,none)):=Qe hs hr
 have hown:=(Qe hs hq).1
 refine next b hb a w ⟨ε.set r (zdo ε r q),?_⟩
 generalize hx:((zdo ε r q):Ent)=y
 have hxh:y.h=ε.at_ r:=by rw [← hx]
 have hxf:y.fp=fun b=>ε.fp r b∨ε.fp q b:=by rw [← hx]
 obtain ⟨atAll,hsAll⟩:=Env.set_same (ε:=ε) (r:=r) (x:=y) W30 hxh
 have entT:Env.ent (ε.set r y) r=y:=Zh W198
 have entO:∀ j,j≠r→Env.ent (ε.set r y) j=ε.ent j:=fun j hj=>by
  unfold Env.ent;rw [jc,jc,jE (Ne.symm hj)]
 have cls:∀ (j:Nat) (s:Reg),((c.st.rg.set q .dead).set r (.mpr T ty sz n (fun p=>if p=x then (m,g) else f p) none))[j]?=some s→(j=r∧s=.mpr T ty sz n (fun p=>if p=x then (m,g) else f p) none)∨(j=q∧s=.dead)∨(j≠r∧j≠q∧c.st.rg[j]?=some s):=fun j s hj=>by
  by_cases hjt:j=r
  ·subst hjt
   rw [jG (by simpa using hrl)] at hj
   cases hj;exact .inl ⟨rfl,rfl⟩
  ·rw [jE (Ne.symm hjt)] at hj
   by_cases hjr:j=q
   ·subst hjr
    rw [jG hql] at hj
    cases hj;exact .inr (.inl ⟨rfl,rfl⟩)
   ·rw [jE (Ne.symm hjr)] at hj
    exact .inr (.inr ⟨hjt,hjr,hj⟩)
 have fpO:∀ j,j≠r→∀ b,Env.fp (ε.set r y) j b→ε.fp j b:=fun j hj b hb=>by unfold Env.fp at hb ⊢;rwa [entO j hj] at hb
 have fpT:∀ b,Env.fp (ε.set r y) r b→ε.fp r b∨ε.fp q b:=fun b hb=>by unfold Env.fp at hb;rw [entT,hxf] at hb;exact hb
 refine ⟨hs.defs,hs.size,fun e he=>(hs.fr e he).same (s1 e he) (fun i _=>atAll i),⟨by simp [mcloseSt,hl],fun j s hj=>?_,fun j s hj hl' b hb=>?_,fun j s hj he b hb=>?_,fun i j ri rj hij hi hj he hl' b hb1 hb2=>?_⟩,hs.below,by rw [hsAll];exact hs.pre⟩
 ·rcases cls j s hj with ⟨rfl,rfl⟩ | ⟨rfl,rfl⟩ | ⟨k1,k2,k3⟩
  ·rw [entT]
   show MapR _ w b.M y.fp T ty sz y.h n _ none
   rw [hxh,hxf]
   refine ⟨has,hd,fb,fun p d=>if p=x then ε.fp q d else fps p d,g1,fun d hd=>.inl (g2 d hd),fun p d hd=>?_,fun p p' d h h'=>?_,fun p _=>?_,fun p q' st e=>by cases e⟩
   ·dsimp only at hd
    by_cases e:p=x
    ·rw [if_pos e] at hd
     exact ⟨.inr hd,fun h=>hs.regs.sep q j _ _ hqr hqq hrr rfl rfl d hd (g2 d h)⟩
    ·rw [if_neg e] at hd
     exact ⟨.inl (g3 p d hd).1,(g3 p d hd).2⟩
   ·dsimp only at h h'
    by_cases e:p=x<;>by_cases e':p'=x
    ·rw [e,e']
    ·rw [if_pos e] at h;rw [if_neg e'] at h'
     exact absurd (g3 p' d h').1 (hs.regs.sep q j _ _ hqr hqq hrr rfl rfl d h)
    ·rw [if_neg e] at h;rw [if_pos e'] at h'
     exact absurd (g3 p d h).1 (hs.regs.sep q j _ _ hqr hqq hrr rfl rfl d h')
    ·rw [if_neg e] at h;rw [if_neg e'] at h'
     exact g4 p p' d h h'
   ·by_cases e:p=x
    ·subst e
     simp only [if_true]
     rw [(g6 p q _ rfl).1]
     exact hown
    ·simp only [if_neg e]
     exact g5 p (fun h=>e (by cases h;rfl))
  ·trivial
  ·rw [entO j k1]
   exact (hs.regs.reg j s k3).same (List.all_eq_true.1 s2 s (jq k3)) (fun i _=>atAll i)
 ·rcases cls j s hj with ⟨rfl,rfl⟩ | ⟨rfl,rfl⟩ | ⟨k1,k2,k3⟩
  ·rcases fpT b hb with h | h
   ·exact hs.regs.lt j _ hrr rfl b h
   ·exact hs.regs.lt q _ hqq rfl b h
  ·cases hl'
  ·exact hs.regs.lt j s k3 hl' b (fpO j k1 b hb)
 ·rcases cls j s hj with ⟨rfl,rfl⟩ | ⟨rfl,rfl⟩ | ⟨k1,k2,k3⟩
  ·rcases fpT b hb with h | h
   ·exact hs.regs.lim j _ hrr rfl b h
   ·exact hs.regs.lim q _ hqq rfl b h
  ·cases he
  ·exact hs.regs.lim j s k3 he b (fpO j k1 b hb)
 ·rcases cls i ri hi with ⟨rfl,rfl⟩ | ⟨rfl,rfl⟩ | ⟨k1,k2,k3⟩
  ·rcases cls j rj hj with ⟨e1,e2⟩ | ⟨e1,e2⟩ | ⟨m1,m2,m3⟩
   ·exact hij e1.symm
   ·subst e2;cases hl'
   ·rcases fpT b hb1 with h | h
    ·exact hs.regs.sep i j _ rj (Ne.symm m1) hrr m3 rfl hl' b h (fpO j m1 b hb2)
    ·exact hs.regs.sep q j _ rj (Ne.symm m2) hqq m3 rfl hl' b h (fpO j m1 b hb2)
  ·cases he
  ·have hb0:ε.fp i b:=fpO i k1 b hb1
   rcases cls j rj hj with ⟨e1,e2⟩ | ⟨e1,e2⟩ | ⟨m1,m2,m3⟩
   ·subst e1 e2
    rcases fpT b hb2 with h | h
    ·exact hs.regs.sep i j ri _ k1 k3 hrr he rfl b hb0 h
    ·exact hs.regs.sep i q ri _ k2 k3 hqq he rfl b hb0 h
   ·subst e2;cases hl'
   ·exact hs.regs.sep i j ri rj hij k3 m3 he hl' b hb0 (fpO j m1 b hb2)
end
end Go.Tx
namespace Go.Tx
open Go
theorem MpEq.put {T:MT} {n n':Nat} {D:KA T.K→Option (KA T.V)} {z:KA T.V} {k:KA T.K} {y:KA T.V} {it':Option (MIt T.K)} (h:n'≤n) :
 MpEq T n (fun q=>(if q=k then some y else D q).isSome) (fun q=>(if q=k then some y else D q).getD z) none T n' (fun q=>decide (q=k)||(D q).isSome) (fun q=>if q=k then y else (D q).getD z) it':=by
 refine MpEq.mk' h (fun q=>?_) (fun q=>?_)
 ·by_cases e:q=k<;>simp [e]
 ·by_cases e:q=k<;>simp [e]
def KA.mk {c:CK} {K:List CK} (x:c.α) (a:KA K):KA (c::K):=match K,a with
 | [],_=>x
 | _::_,a=>(x,a)
theorem KA.vals_mk {c:CK} {K:List CK} (x:c.α) (a:KA K):KA.vals (c::K) (KA.mk x a)=c.val x::KA.vals K a:=by cases K<;>rfl
theorem KA.wf_mk {c:CK} {K:List CK} (x:c.α) (a:KA K):KA.wf (c::K) (KA.mk x a)↔c.wf x∧KA.wf K a:=by
 cases K with
 | nil=>exact ⟨fun h=>⟨h,trivial⟩,fun h=>h.1⟩
 | cons d r=>exact Iff.rfl
theorem KA.un_mk {c:CK} {K:List CK} (a:KA (c::K)):∃ (x:c.α) (b:KA K),a=KA.mk x b:=by
 cases K with
 | nil=>exact ⟨a,(),rfl⟩
 | cons d r=>exact ⟨a.1,a.2,rfl⟩
def plainIs (P:Program) (t:TypeId):CK→Prop
 | .i k=>P.underlying t=some (.int k)
 | .s=>P.underlying t=some .string
 | .b=>P.underlying t=some .bool
def plainFs (P:Program):Nat→List Field→List CK→Prop
 | _,[],[]=>True
 | i,f::r,c::K=>f.offset=i∧P.cellsOf f.type=1∧plainIs P f.type c∧plainFs P (i+1) r K
 | _,_,_=>False
theorem Qll {P:Program} {d:Nat} {t:TypeId} {c:CK} (h:plainIs P t c) (x:c.α) (hw:c.wf x):∃ ls,P.keyLits (d+1) t [c.val x]=some ls:=by
 cases c with
 | i k =>
   refine ⟨[.int k x],?_⟩
   simp only [Program.keyLits,show P.underlying t=_ from h,CK.val]
   exact if_pos ⟨trivial,hw⟩
 | s =>
   refine ⟨[.string (ByteArray.data x).toList],?_⟩
   simp only [Program.keyLits,show P.underlying t=_ from h,CK.val]
   exact if_pos hw
 | b =>
   refine ⟨[.bool x],?_⟩
   simp only [Program.keyLits,show P.underlying t=_ from h,CK.val]
theorem Qib {α:Type} {l:List α} {i:Nat} {x:α} {r:List α} (h:l.drop i=x::r):(l.drop i).take 1=[x]∧l.drop (i+1)=r:=by
 refine ⟨by rw [h];rfl,?_⟩
 rw [← List.drop_drop,h];rfl
theorem Q50 {P:Program} {d:Nat}:∀ {i:Nat} {fs:List Field} {K:List CK} (hp:plainFs P i fs K) {cs:List Value} {a:KA K},cs.drop i=KA.vals K a→KA.wf K a →
 ∃ ls,(fs.mapM fun (f:Field)=>P.keyLits (d+1) f.type ((cs.drop f.offset).take (P.cellsOf f.type)))=some ls
 | i,[],[],_,cs,a,h,hw=>⟨[],rfl⟩
 | i,f::r,c::K,hp,cs,a,h,hw=>by
   obtain ⟨h1,h2,h3,h4⟩:=hp
   obtain ⟨x,b,rfl⟩:=KA.un_mk a
   rw [KA.vals_mk] at h
   obtain ⟨w1,w2⟩:=(KA.wf_mk x b).1 hw
   obtain ⟨e1,e2⟩:=Qib h
   obtain ⟨ls,hl⟩:=Qll (d:=d) h3 x w1
   obtain ⟨ls2,hl2⟩:=Q50 h4 e2 w2
   refine ⟨ls::ls2,?_⟩
   rw [List.mapM_cons,h1,h2,e1,hl,hl2]
   rfl
 | _,[],_::_,hp,_,_,_,_=>hp.elim
 | _,_::_,[],hp,_,_,_,_=>hp.elim
theorem Q7j {P:Program} {d:Nat} {k:TypeId} {fs:Array Field} (hk:P.underlying k=some (.struct fs)) (cs:List Value):P.keyLits (d+1) k cs =
 if cs.length = P.cellsOf k ∧ fs.all (·.name != "_") = true then (fs.toList.mapM fun f => P.keyLits d f.type ((cs.drop f.offset).take (P.cellsOf f.type))).map List.flatten else none := by
 conv=>lhs;unfold Program.keyLits
 simp only [hk]
section
variable {P:Program} {t k e:Nat} {K:List CK} {V:List CK} {va:Bool}
theorem MT.ok_int {q:IntKind} (ht:P.underlying t=some (.map k e)) (hk:P.underlying k=some (.int q)) (hv:va=true∨V.length=1) (hz:∀ w,(zeroValue e).run P w=.ok (mkVal va (KA.vals V (KA.zero V))) w):MT.Ok ⟨P,t,k,e,[.i q],false,V,va⟩ where
 map:=ht
 key:=Go.Maps.int_keyed hk
 lit:=fun a ha=>⟨_,Go.Maps.keyOf_int_mk hk ha⟩
 inv:=fun v l h=>by obtain ⟨x,rfl,_,hw⟩:=Go.Maps.keyOf_int_inv hk h;exact ⟨x,hw,rfl⟩
 one:=.inr rfl
 oneE:=hv
 zero:=hz
theorem MT.ok_str (ht:P.underlying t=some (.map k e)) (hk:P.underlying k=some .string) (hv:va=true∨V.length=1) (hz:∀ w,(zeroValue e).run P w=.ok (mkVal va (KA.vals V (KA.zero V))) w):MT.Ok ⟨P,t,k,e,[.s],false,V,va⟩ where
 map:=ht
 key:=Go.Maps.string_keyed hk
 lit:=fun a ha=>⟨_,Go.WideMaps.keyOf_string_mk hk ha⟩
 inv:=fun v l h=>by obtain ⟨x,rfl,_,hw⟩:=Go.WideMaps.string_of_keyOf hk h;exact ⟨x,hw,rfl⟩
 one:=.inr rfl
 oneE:=hv
 zero:=hz
end
def DetE {Y:Type} (Q:Y→Prop) (res:Y→SV) (post:Y→List Reg):SV→List Reg→Prop:=fun r p=>∃ y,Q y∧r=res y∧p=post y
section
variable {P:Program} [hw:Wide P] {fn:Func} {n0:Nat} {U:Tgt} {c:Cfg} {vc:List Prop} {Y:Type}
theorem RunF.callQ {f:Nat} {args want:List SV} {pre:List Reg} {Q:Y→Prop} {res:Y→SV} {post:Y→List Reg} (he:Enters P f) (spec:Ctr P f pre want (DetE Q res post)) (σ:List Nat) {E:List F} (h:see P fn c=(vc,.call f args)) (hv:Conj vc)
 (hc:callEnt (c.drawn P) σ (c.at P) pre want args=some E) (hE:AllF E) (hx:exclIn (c.at P).rg.length σ pre=true) (hok:∀ y,(c.after P σ pre (res y) (post y)).isSome=true) (next:∀ y,Q y→RunF P fn n0 U (c.ret P σ pre (res y) (post y))):RunF P fn n0 U c:=
 RunF.callE he spec σ h hv hc hE hx fun r p ⟨y,hq,e1,e2⟩=>by subst e1;subst e2;exact ⟨hok y,next y hq⟩
theorem Qk {f:Nat} {want:List SV} {pre:List Reg} {Q:Y→Prop} {res:Y→SV} {post:Y→List Reg} (he:Enters P f) (spec:Ctr P f pre want (DetE Q res post)) (σ:List Nat) (next:∀ y,Q y→RunF P fn n0 U (c.ret P (piN σ pre.length) pre (res y) (post y))) (M:List Nat:=[]) (E:List Prop:=[]) (hE:Conj E:=by exact trivial) (vc:List Prop:=[]) (hv:Conj vc:=by exact trivial)
 (h:see P fn c=(vc,.call f (see P fn c).2.as):=by kernel_rfl) (hc:lF M (callEnt (c.drawn P) (piN σ pre.length) (c.at P) pre want (see P fn c).2.as)=rF M E (callEnt (c.drawn P) (piN σ pre.length) (c.at P) pre want (see P fn c).2.as):=by kernel_rfl)
 (hx:exclIn (c.at P).rg.length (piN σ pre.length) pre=true:=by kernel_rfl) (hok:∀ y,(c.after P (piN σ pre.length) pre (res y) (post y)).isSome=true:=by intro _;kernel_rfl):RunF P fn n0 U c:=
 let ⟨_,h1,h2⟩:=Yw hc hE
 RunF.callQ he spec _ h hv h1 h2 hx hok next
end
end Go.Tx
noncomputable section
namespace Go.Proofs.YtnddggenhefaeaaGreatDoor
open Go Go.Tx
instance:Wide jb:=⟨by kernel_rfl⟩
theorem Q4e:Enters jb 26:=Q1 Tryz.func26 (by kernel_rfl) (by kernel_rfl)
theorem Jb:Enters jb 82:=Q1 Tryz.func82 (by kernel_rfl) (by kernel_rfl)
theorem Q01:Enters jb 84:=Q1 Tryz.func84 (by kernel_rfl) (by kernel_rfl)
theorem Qaj:Enters jb 54:=Q1 Tryz.func54 (by kernel_rfl) (by kernel_rfl)
theorem Gz:Enters jb 120:=Q1 Tryz.func120 (by kernel_rfl) (by kernel_rfl)
theorem Q4f:Enters jb 121:=Q1 Tryz.func121 (by kernel_rfl) (by kernel_rfl)
theorem Q2u:Enters jb 122:=Q1 Tryz.func122 (by kernel_rfl) (by kernel_rfl)
theorem Q2s:Enters jb 88:=Q1 Tryz.func88 (by kernel_rfl) (by kernel_rfl)
theorem Qak:Enters jb 89:=Q1 Tryz.func89 (by kernel_rfl) (by kernel_rfl)
theorem Q7k:Enters jb 90:=Q1 Tryz.func90 (by kernel_rfl) (by kernel_rfl)
theorem Qy:Enters jb 93:=Q1 Tryz.func93 (by kernel_rfl) (by kernel_rfl)
theorem Q9i:Enters jb 123:=Q1 Tryz.func123 (by kernel_rfl) (by kernel_rfl)
theorem Z2:Enters jb 31:=Q1 Tryz.func31 (by kernel_rfl) (by kernel_rfl)
theorem Qca:Enters jb 46:=Q1 Tryz.func46 (by kernel_rfl) (by kernel_rfl)
theorem Qcb:Enters jb 47:=Q1 Tryz.func47 (by kernel_rfl) (by kernel_rfl)
theorem Q6l:Enters jb 48:=Q1 Tryz.func48 (by kernel_rfl) (by kernel_rfl)
theorem J9:Enters jb 75:=Q1 Tryz.func75 (by kernel_rfl) (by kernel_rfl)
theorem Qcc:Enters jb 76:=Q1 Tryz.func76 (by kernel_rfl) (by kernel_rfl)
theorem Qt:Enters jb 77:=Q1 Tryz.func77 (by kernel_rfl) (by kernel_rfl)
theorem Zp:Enters jb 78:=Q1 Tryz.func78 (by kernel_rfl) (by kernel_rfl)
theorem Y2:Enters jb 79:=Q1 Tryz.func79 (by kernel_rfl) (by kernel_rfl)
theorem Ye:Enters jb 80:=Q1 Tryz.func80 (by kernel_rfl) (by kernel_rfl)
theorem J0:Enters jb 81:=Q1 Tryz.func81 (by kernel_rfl) (by kernel_rfl)
theorem J1:Enters jb 32:=Q1 Tryz.func32 (by kernel_rfl) (by kernel_rfl)
theorem Z9:Enters jb 49:=Q1 Tryz.func49 (by kernel_rfl) (by kernel_rfl)
theorem Q4g:Enters jb 50:=Q1 Tryz.func50 (by kernel_rfl) (by kernel_rfl)
theorem Q4h:Enters jb 51:=Q1 Tryz.func51 (by kernel_rfl) (by kernel_rfl)
theorem Q4i:Enters jb 83:=Q1 Tryz.func83 (by kernel_rfl) (by kernel_rfl)
theorem Qp:Enters jb 85:=Q1 Tryz.func85 (by kernel_rfl) (by kernel_rfl)
theorem Yj:Enters jb 86:=Q1 Tryz.func86 (by kernel_rfl) (by kernel_rfl)
theorem Q23:Enters jb 87:=Q1 Tryz.func87 (by kernel_rfl) (by kernel_rfl)
theorem Q4j:Enters jb 27:=Q1 Tryz.func27 (by kernel_rfl) (by kernel_rfl)
theorem Q7l:Enters jb 7:=Q1 Tryz.func7 (by kernel_rfl) (by kernel_rfl)
theorem Qal:Enters jb 9:=Q1 Tryz.func9 (by kernel_rfl) (by kernel_rfl)
theorem Q3i:Enters jb 11:=Q1 Tryz.func11 (by kernel_rfl) (by kernel_rfl)
theorem Qee:Enters jb 16:=Q1 Tryz.func16 (by kernel_rfl) (by kernel_rfl)
theorem Q4k:Enters jb 17:=Q1 Tryz.func17 (by kernel_rfl) (by kernel_rfl)
theorem Qef:Enters jb 18:=Q1 Tryz.func18 (by kernel_rfl) (by kernel_rfl)
theorem Q4l:Enters jb 19:=Q1 Tryz.func19 (by kernel_rfl) (by kernel_rfl)
theorem Q6m:Enters jb 21:=Q1 Tryz.func21 (by kernel_rfl) (by kernel_rfl)
theorem Q3j:Enters jb 23:=Q1 Tryz.func23 (by kernel_rfl) (by kernel_rfl)
theorem J2:Enters jb 25:=Q1 Tryz.func25 (by kernel_rfl) (by kernel_rfl)
theorem Qam:Enters jb 34:=Q1 Tryz.func34 (by kernel_rfl) (by kernel_rfl)
theorem Q3k:Enters jb 35:=Q1 Tryz.func35 (by kernel_rfl) (by kernel_rfl)
theorem Qcd:Enters jb 38:=Q1 Tryz.func38 (by kernel_rfl) (by kernel_rfl)
theorem Q5a:Enters jb 39:=Q1 Tryz.func39 (by kernel_rfl) (by kernel_rfl)
theorem Qan:Enters jb 59:=Q1 Tryz.func59 (by kernel_rfl) (by kernel_rfl)
theorem Qao:Enters jb 60:=Q1 Tryz.func60 (by kernel_rfl) (by kernel_rfl)
theorem Q2v:Enters jb 61:=Q1 Tryz.func61 (by kernel_rfl) (by kernel_rfl)
theorem Q1d:Enters jb 62:=Q1 Tryz.func62 (by kernel_rfl) (by kernel_rfl)
theorem Qd:Enters jb 63:=Q1 Tryz.func63 (by kernel_rfl) (by kernel_rfl)
theorem Q2t:Enters jb 94:=Q1 Tryz.func94 (by kernel_rfl) (by kernel_rfl)
theorem Q9j:Enters jb 95:=Q1 Tryz.func95 (by kernel_rfl) (by kernel_rfl)
theorem Qce:Enters jb 96:=Q1 Tryz.func96 (by kernel_rfl) (by kernel_rfl)
theorem Qap:Enters jb 97:=Q1 Tryz.func97 (by kernel_rfl) (by kernel_rfl)
theorem Q24:Enters jb 98:=Q1 Tryz.func98 (by kernel_rfl) (by kernel_rfl)
theorem Q25:Enters jb 99:=Q1 Tryz.func99 (by kernel_rfl) (by kernel_rfl)
theorem Q5b:Enters jb 100:=Q1 Tryz.func100 (by kernel_rfl) (by kernel_rfl)
theorem Q4m:Enters jb 101:=Q1 Tryz.func101 (by kernel_rfl) (by kernel_rfl)
theorem Q3l:Enters jb 102:=Q1 Tryz.func102 (by kernel_rfl) (by kernel_rfl)
theorem Q4n:Enters jb 103:=Q1 Tryz.func103 (by kernel_rfl) (by kernel_rfl)
theorem Q4o:Enters jb 104:=Q1 Tryz.func104 (by kernel_rfl) (by kernel_rfl)
theorem Q2w:Enters jb 105:=Q1 Tryz.func105 (by kernel_rfl) (by kernel_rfl)
theorem Q3m:Enters jb 106:=Q1 Tryz.func106 (by kernel_rfl) (by kernel_rfl)
theorem Q2x:Enters jb 107:=Q1 Tryz.func107 (by kernel_rfl) (by kernel_rfl)
theorem Q5c:Enters jb 108:=Q1 Tryz.func108 (by kernel_rfl) (by kernel_rfl)
theorem Q3n:Enters jb 109:=Q1 Tryz.func109 (by kernel_rfl) (by kernel_rfl)
theorem Qaq:Enters jb 124:=Q1 Tryz.func124 (by kernel_rfl) (by kernel_rfl)
theorem Q3o:Enters jb 125:=Q1 Tryz.func125 (by kernel_rfl) (by kernel_rfl)
theorem Qs:Enters jb 126:=Q1 Tryz.func126 (by kernel_rfl) (by kernel_rfl)
theorem Q7m:Enters jb 127:=Q1 Tryz.func127 (by kernel_rfl) (by kernel_rfl)
theorem Q6n:Enters jb 128:=Q1 Tryz.func128 (by kernel_rfl) (by kernel_rfl)
theorem Ge:Enters jb 129:=Q1 Tryz.func129 (by kernel_rfl) (by kernel_rfl)
theorem Q6o:Enters jb 130:=Q1 Tryz.func130 (by kernel_rfl) (by kernel_rfl)
theorem Q0w:Enters jb 131:=Q1 Tryz.func131 (by kernel_rfl) (by kernel_rfl)
theorem Q1e:Enters jb 132:=Q1 Tryz.func132 (by kernel_rfl) (by kernel_rfl)
theorem Qcf:Enters jb 133:=Q1 Tryz.func133 (by kernel_rfl) (by kernel_rfl)
theorem Q3p:Enters jb 134:=Q1 Tryz.func134 (by kernel_rfl) (by kernel_rfl)
theorem Jc:Enters jb 135:=Q1 Tryz.func135 (by kernel_rfl) (by kernel_rfl)
theorem Jd:Enters jb 136:=Q1 Tryz.func136 (by kernel_rfl) (by kernel_rfl)
theorem Y9:Enters jb 137:=Q1 Tryz.func137 (by kernel_rfl) (by kernel_rfl)
theorem Qm:Enters jb 138:=Q1 Tryz.func138 (by kernel_rfl) (by kernel_rfl)
theorem Q9k:Enters jb 140:=Q1 Tryz.func140 (by kernel_rfl) (by kernel_rfl)
theorem Q1f:Enters jb 141:=Q1 Tryz.func141 (by kernel_rfl) (by kernel_rfl)
theorem Q1g:Enters jb 142:=Q1 Tryz.func142 (by kernel_rfl) (by kernel_rfl)
theorem Q4p:Enters jb 143:=Q1 Tryz.func143 (by kernel_rfl) (by kernel_rfl)
theorem Qar:Enters jb 144:=Q1 Tryz.func144 (by kernel_rfl) (by kernel_rfl)
theorem Gt:Enters jb 145:=Q1 Tryz.func145 (by kernel_rfl) (by kernel_rfl)
theorem Q3q:Enters jb 146:=Q1 Tryz.func146 (by kernel_rfl) (by kernel_rfl)
theorem Yf:Enters jb 147:=Q1 Tryz.func147 (by kernel_rfl) (by kernel_rfl)
theorem Q5d:Enters jb 148:=Q1 Tryz.func148 (by kernel_rfl) (by kernel_rfl)
theorem Q51:Enters jb 149:=Q1 Tryz.func149 (by kernel_rfl) (by kernel_rfl)
theorem Q9l:Enters jb 150:=Q1 Tryz.func150 (by kernel_rfl) (by kernel_rfl)
theorem Gf:Enters jb 151:=Q1 Tryz.func151 (by kernel_rfl) (by kernel_rfl)
theorem Je:Enters jb 152:=Q1 Tryz.func152 (by kernel_rfl) (by kernel_rfl)
theorem Q6p:Enters jb 153:=Q1 Tryz.func153 (by kernel_rfl) (by kernel_rfl)
theorem Q7n:Enters jb 154:=Q1 Tryz.func154 (by kernel_rfl) (by kernel_rfl)
theorem Q2y:Enters jb 155:=Q1 Tryz.func155 (by kernel_rfl) (by kernel_rfl)
theorem Gg:Enters jb 156:=Q1 Tryz.func156 (by kernel_rfl) (by kernel_rfl)
theorem Q7o:Enters jb 157:=Q1 Tryz.func157 (by kernel_rfl) (by kernel_rfl)
theorem Q7p:Enters jb 158:=Q1 Tryz.func158 (by kernel_rfl) (by kernel_rfl)
theorem Q7q:Enters jb 159:=Q1 Tryz.func159 (by kernel_rfl) (by kernel_rfl)
theorem Q6q:Enters jb 160:=Q1 Tryz.func160 (by kernel_rfl) (by kernel_rfl)
theorem Q3r:Enters jb 161:=Q1 Tryz.func161 (by kernel_rfl) (by kernel_rfl)
theorem Q7r:Enters jb 162:=Q1 Tryz.func162 (by kernel_rfl) (by kernel_rfl)
theorem G6:Enters jb 163:=Q1 Tryz.func163 (by kernel_rfl) (by kernel_rfl)
theorem Q26:Enters jb 164:=Q1 Tryz.func164 (by kernel_rfl) (by kernel_rfl)
theorem Q6r:Enters jb 165:=Q1 Tryz.func165 (by kernel_rfl) (by kernel_rfl)
theorem Q7s:Enters jb 166:=Q1 Tryz.func166 (by kernel_rfl) (by kernel_rfl)
theorem Q5e:Enters jb 167:=Q1 Tryz.func167 (by kernel_rfl) (by kernel_rfl)
theorem Q4q:Enters jb 168:=Q1 Tryz.func168 (by kernel_rfl) (by kernel_rfl)
theorem Q5f:Enters jb 170:=Q1 Tryz.func170 (by kernel_rfl) (by kernel_rfl)
theorem Qeg:Enters jb 171:=Q1 Tryz.func171 (by kernel_rfl) (by kernel_rfl)
theorem J3:Enters jb 169:=Q1 Tryz.func169 (by kernel_rfl) (by kernel_rfl)
theorem Q02:Enters jb 52:=Q1 Tryz.func52 (by kernel_rfl) (by kernel_rfl)
theorem J4:Enters jb 33:=Q1 Tryz.func33 (by kernel_rfl) (by kernel_rfl)
def nthT (l:List TC) (j:Nat):TC:=match nth l j with
 | some t=>t
 | none=>.any
def rowOf {α:Type} [Inhabited α] (size:Nat) (tc:α→Nat→TC) (l:List α):Reg:=.row size l.length (fun i=>tc (l.getD i ua)) none
def ownOf {α:Type} [Inhabited α] (ty size:Nat) (tc:α→Nat→TC) (l:List α):Reg:=.own ty size l.length (fun i=>tc (l.getD i ua)) none
def i64T (n:Int):Nat→TC:=nthT [.val (.int .i64 n)]
theorem i64T.flat (x:Int):∀ j,j<1→flatT (i64T x j):=by
 intro j hj
 match j,hj with
 | 0,_=>exact ⟨_,rfl,rfl⟩
abbrev IntRow (l:List Int):Reg:=.row 1 l.length (fun i=>i64T (l.getD i 0)) none
abbrev IntOwn (l:List Int):Reg:=.own 3 1 l.length (fun i=>i64T (l.getD i 0)) none
abbrev WordOwn (l:List Int):Reg:=.own 2 1 l.length (fun i=>i64T (l.getD i 0)) none
structure Did where
 kind:Int
 core:Int
 pc:Int
 addr:Int
 word:Int
 put:Int
 own:Bool
 deriving Inhabited,DecidableEq
structure Cls where
 kind:Int
 thread:Int
 lock:Int
 deriving Inhabited,DecidableEq
def Cls.tl (x:Cls):List TC:=[.val (.int .u8 x.kind),.val (.int .i64 x.thread),.val (.int .i64 x.lock)]
def Cls.tc (x:Cls):Nat→TC:=nthT x.tl
abbrev Cls.ownR (l:List Cls):Reg:=ownOf 207 3 Cls.tc l
structure Prt where
 thread:Int
 word:Int
 deriving Inhabited,DecidableEq
structure Stp where
 kind:Int
 core:Int
 deriving Inhabited,DecidableEq
structure Sto where
 pos:Int
 addr:Int
 word:Int
 deriving Inhabited,DecidableEq
structure Ins where
 kind:Int
 op:Int
 d:Int
 a:Int
 b:Int
 addr:Int
 to:Int
 word:Int
 from_:Int
 deriving Inhabited,DecidableEq
def Ins.tl (x:Ins):List TC:=[.val (.int .u8 x.kind),.val (.int .u8 x.op),.val (.int .i64 x.d),.val (.int .i64 x.a),.val (.int .i64 x.b),.val (.int .i64 x.addr),.val (.int .i64 x.to),.val (.int .i64 x.word),.val (.int .i64 x.from_)]
def Ins.tc (x:Ins):Nat→TC:=nthT x.tl
abbrev Ins.rowR (l:List Ins):Reg:=rowOf 9 Ins.tc l
abbrev Ins.ownR (l:List Ins):Reg:=ownOf 48 9 Ins.tc l
structure Cor where
 name:ByteArray
 code:List Ins
 deriving Inhabited,DecidableEq
def Cor.tl (x:Cor):List TC:=[.val (.string x.name),.sub 48 9 (x.code).length (fun i=>Ins.tc ((x.code).getD i ua))]
def Cor.tc (x:Cor):Nat→TC:=nthT x.tl
abbrev Cor.ownR (l:List Cor):Reg:=ownOf 44 2 Cor.tc l
theorem Q1h {α:Type} (d:α) (l r:List α) {i:Nat} (h:i<l.length):(l++r).getD i d=l.getD i d:=by
 rw [jc,jc,jp h]
theorem Qw {α:Type} (d:α) (l:List α) (x:α):(l++[x]).getD l.length d=x:=by
 rw [jc,jA (jn _)];simp
theorem Q27 {α:Type} (d:α) (tc:α→Nat→TC) (l:List α) (x:α):∀ i,i<(l++[x]).length→tc ((l++[x]).getD i d)=if i=l.length then tc x else tc (l.getD i d):=by
 intro i hi
 by_cases h:i=l.length
 ·subst h;rw [if_pos rfl,Qw]
 ·rw [if_neg h,Q1h]
  simp at hi;omega
theorem Y6 {α:Type} (l:List α) (x:α):(l++[x]).length=l.length+1:=by simp
theorem Yb {α:Type} {d:α} {l:List α} {x:α} {i:Nat} (h1:i<(l++[x]).length) (h2:i≠l.length):(l++[x]).getD i d=l.getD i d:=
 Q1h _ _ _ (by simp at h1;omega)
theorem Za {α:Type} (d:α) (tc:α→Nat→TC) (l:List α) (k off:Nat) (x:α) (vs:List Value) (h:∀ j,tc x j=if off≤j∧j<off+vs.length then .val (vs.getD (j-off) undef) else tc (l.getD k d) j) :
 ∀ i,i<(l.set k x).length→tc ((l.set k x).getD i d)=updT (fun i=>tc (l.getD i d)) k off vs i:=by
 intro i hi
 rw [jF] at hi
 funext j
 unfold updT
 by_cases e:i=k
 ·subst e
  rw [jc,jG hi]
  simp only [kA,true_and]
  exact h j
 ·rw [jc,jE (Ne.symm e),← jc]
  simp [e]
theorem Zb (l:List Int) (k:Nat) (x:Int):∀ i,i<(l.set k x).length→i64T ((l.set k x).getD i 0)=updT (fun i=>i64T (l.getD i 0)) k 0 [.int .i64 x] i:=
 Za 0 i64T l k 0 x _ (fun j=>by rcases j with _ | j<;>simp [i64T,nthT,nth])
theorem Qic {α:Type} (d:α) (tc:α→Nat→TC) (l:List α) (k n:Nat):∀ i,i<((l.drop k).take n).length→tc (((l.drop k).take n).getD i d)=tc (l.getD (k+i) d):=by
 intro i hi
 congr 1
 rw [jQ] at hi
 rw [jc,List.getElem?_take_of_lt W30,kj,← jc]
theorem Qid {α:Type} (l:List α) (k n:Nat) (h:k+n≤l.length):((l.drop k).take n).length=n:=by simp;omega
theorem Qie (size:Nat) (vs:List Value) (i:Nat) (tl:List TC) (h:((jB size).map fun j=>TC.val (vs.getD (i * size+j) undef))=tl):nthT tl=rowT size vs i:=by
 subst h
 funext j
 unfold nthT rowT
 have e:∀ (l:List TC) (k:Nat),nth l k=l[k]?:=fun l k=>Ql l k
 rw [e,jm]
 by_cases hj:j<size
 ·rw [ko hj,show kF j size=true by simp only [Nat.blt_eq];exact hj];rfl
 ·rw [jY W138,show kF j size=false by rw [kC];simp only [ne_eq,Nat.blt_eq];exact hj];rfl
theorem Q0g {α:Type} (d:α) (tl:α→List TC) (l:List α) (size:Nat) (vs:List Value) (h:((jB l.length).map fun i=>(jB size).map fun j=>TC.val (vs.getD (i * size+j) undef))=l.map tl):∀ i,i<l.length→nthT (tl (l.getD i d))=rowT size vs i:=by
 intro i hi
 refine Qie size vs i _ ?_
 have:=congrArg (fun x=>x[i]?) h
 simp only [jm,ko hi,jd hi,jL,Option.some.injEq] at this
 rw [this,jc,jd hi];rfl
structure Vl where
 slotted:Bool
 slot:Int
 word:Int
 deriving Inhabited,DecidableEq
def Vl.cs (x:Vl):List C:=[.b x.slotted,.i .i64 x.slot,.i .i64 x.word]
structure Dcl where
 name:ByteArray
 word:Int
 pos:Int
 deriving Inhabited,DecidableEq
def Dcl.tl (x:Dcl):List TC:=[.val (.string x.name),.val (.int .i64 x.word),.val (.int .i64 x.pos)]
def Dcl.tc (x:Dcl):Nat→TC:=nthT x.tl
abbrev Dcl.rowR (l:List Dcl):Reg:=rowOf 3 Dcl.tc l
abbrev Dcl.ownR (l:List Dcl):Reg:=ownOf 62 3 Dcl.tc l
structure Act where
 thread:Int
 node:Int
 kind:Int
 thing:Int
 word:Int
 put:Int
 deriving Inhabited,DecidableEq
structure Nod where
 kind:Int
 op:Int
 slot:Int
 thing:Int
 a:Vl
 b:Vl
 next:Int
 els:Int
 origin:Int
 deriving Inhabited,DecidableEq
def Nod.tl (x:Nod):List TC:=[.val (.int .u8 x.kind),.val (.int .u8 x.op),.val (.int .i64 x.slot),.val (.int .i64 x.thing),.val (.bool x.a.slotted),.val (.int .i64 x.a.slot),.val (.int .i64 x.a.word),.val (.bool x.b.slotted),.val (.int .i64 x.b.slot),.val (.int .i64 x.b.word),.val (.int .i64 x.next),.val (.int .i64 x.els),.val (.int .i64 x.origin)]
def Nod.tc (x:Nod):Nat→TC:=nthT x.tl
def Nod.cs (x:Nod):List C:=[.i .u8 x.kind,.i .u8 x.op,.i .i64 x.slot,.i .i64 x.thing,.b x.a.slotted,.i .i64 x.a.slot,.i .i64 x.a.word,.b x.b.slotted,.i .i64 x.b.slot,.i .i64 x.b.word,.i .i64 x.next,.i .i64 x.els,.i .i64 x.origin]
abbrev Nod.rowR (l:List Nod):Reg:=rowOf 13 Nod.tc l
structure Grf where
 name:ByteArray
 locals:Int
 slots:Int
 nodes:List Nod
 deriving Inhabited,DecidableEq
def Grf.tl (x:Grf):List TC:=[.val (.string x.name),.val (.int .i64 x.locals),.val (.int .i64 x.slots),.sub 101 13 (x.nodes).length (fun i=>Nod.tc ((x.nodes).getD i ua))]
def Grf.tc (x:Grf):Nat→TC:=nthT x.tl
def Grf.cs (x:Grf) (r_nodes:Nat):List C:=[.v (.string x.name),.i .i64 x.locals,.i .i64 x.slots,.h r_nodes]
abbrev Grf.rowR (l:List Grf):Reg:=rowOf 4 Grf.tc l
abbrev Grf.ownR (l:List Grf):Reg:=ownOf 60 4 Grf.tc l
theorem BL:(∀ a b:Bool,((a&&b)=true)=(a=true∧b=true))∧(∀ a b:Bool,((a||b)=true)=(a=true∨b=true))∧(∀ a b:Bool,((a&&b)=false)=(a=false∨b=false))∧(∀ a b:Bool,((a||b)=false)=(a=false∧b=false)) ∧
 (∀ a:Bool,((!a)=true)=(a=false))∧(∀ a:Bool,((!a)=false)=(a=true))∧(∀ (p:Prop) [Decidable p],(decide p=true)=p)∧(∀ (p:Prop) [Decidable p],(decide p=false)=¬ p):=by
 exact ⟨by simp,by simp,by intro a b;cases a<;>cases b<;>simp,by simp,by simp,by simp,by simp,by simp⟩
def twoB (op:Int):Bool:=decide (0<op)&&decide (op<19)&&!decide (op=17)&&!decide (op=18)
def opB (op:Int):Bool:=decide (0<op)&&decide (op<19)
def addrB (k:Int):Bool:=decide (k=2)||decide (k=3)||decide (k=4)||decide (k=8)
def didB (d:Did):Bool:=
 decide (0<d.kind)&&decide (d.kind<9)&&decide (0≤d.core)&&decide (d.core<8)&&decide (0≤d.pc)&&decide (d.pc<16384)&&decide (0≤d.addr)&&decide (d.addr<4096) &&
 (addrB d.kind||decide (d.addr=0))&&(addrB d.kind||decide (d.kind=6)||decide (d.word=0))&&(decide (d.kind=4)||decide (d.put=0))&&(decide (d.kind=2)||!d.own)
def digitB (c:Int):Bool:=decide (48≤c)&&decide (c≤57)
def letterB (c:Int):Bool:=decide (97≤c)&&decide (c≤122)||decide (65≤c)&&decide (c≤90)||decide (c=95)
def wordB (s:ByteArray):Bool:=
 decide (s={ data:=#[115,104,97,114,101,100] })||decide (s={ data:=#[108,111,99,107] })||decide (s={ data:=#[116,104,114,101,97,100] })||decide (s={ data:=#[108,111,99,97,108] })||decide (s={ data:=#[105,102] })||decide (s={ data:=#[101,108,115,101] })||decide (s={ data:=#[119,104,105,108,101] })||decide (s={ data:=#[112,114,105,110,116] })||decide (s={ data:=#[115,107,105,112] })||decide (s={ data:=#[115,119,97,112] })
def byteAt (s:ByteArray) (i:Nat):Int:=((s.data.toList.getD i 0).toNat:Int)
def letgB (c:UInt8):Bool:=letterB (c.toNat:Int)||digitB (c.toNat:Int)
def restB (s:ByteArray) (i:Int):Bool:=(s.data.toList.drop i.toNat).all letgB
def nameB (s:ByteArray):Bool:=decide (1≤(s.size:Int))&&decide ((s.size:Int)≤32)&&!digitB (byteAt s 0)&&!wordB s&&restB s 0
theorem Q28 (s:ByteArray) (i:Int) (h0:0≤i) (h:i<s.size):restB s i=((letterB (byteAt s i.toNat)||digitB (byteAt s i.toNat))&&restB s (i+1)):=by
 unfold restB byteAt
 have hlt:i.toNat<s.data.toList.length:=by simp;omega
 have e:(i+1).toNat=i.toNat+1:=by omega
 rw [e,ki hlt,List.all_cons,jc,jd hlt]
 rfl
theorem Qfy (s:ByteArray) (i:Int) (h:(s.size:Int)≤i):restB s i=true:=by
 unfold restB
 rw [j8 W138]
 rfl
def allFrom (p:Int→Bool) (i n:Int):Bool:=(jB (n-i).toNat).all fun j=>p (i+j)
theorem Qas (p:Int→Bool) {i n:Int} (h:i<n):allFrom p i n=(p i&&allFrom p (i+1) n):=by
 unfold allFrom
 rw [show (n-i).toNat=(n-(i+1)).toNat+1 by omega,List.range_succ_eq_map,List.all_cons,List.all_map]
 simp only [Function.comp_def]
 congr 1
 ·simp
 ·congr 1;funext j
  congr 1
  rw [show ((Nat.succ j:Nat):Int)=(j:Int)+1 from rfl];omega
theorem Q7:IntKind.i64.min=-9223372036854775808:=rfl
theorem Q8:IntKind.i64.max=9223372036854775807:=rfl
theorem Q9:IntKind.u8.min=0:=rfl
theorem Qa:IntKind.u8.max=255:=rfl
def flwL (n:Nod):List Int:=if n.kind=9 then [] else if n.kind=8∧n.els≠n.next then [n.next,n.els] else [n.next]
theorem Qlm {n:Nod} (h:decide (n.kind=9)=true):flwL n=[]:=by
 unfold flwL;rw [if_pos (ub h)]
theorem Qln {n:Nod} (h:decide (n.kind=9)=false) (h2:(decide (n.kind=8)&&!decide (n.els=n.next))=true):flwL n=[n.next,n.els]:=by
 unfold flwL;rw [if_neg (uc h),if_pos W167]
theorem Qlo {n:Nod} (h:decide (n.kind=9)=false) (h2:(decide (n.kind=8)&&!decide (n.els=n.next))=false):flwL n=[n.next]:=by
 unfold flwL;rw [if_neg (uc h),if_neg (by intro h3;simp [h3] at h2)]
def prtN (n:Nod):Int:=if n.kind=1 then (if twoB n.op then 59 else 43) else if n.kind=2 then 38 else if n.kind=3 then 44 else if n.kind=4 then 46 else if n.kind=5 then 36 else if n.kind=6 then 36 else if n.kind=7 then 40 else if n.kind=8 then 104 else 0
theorem Qif {n:Nod} (hk:n.kind=1) (h:(decide ((1:Int)=(1:Int))&&twoB n.op)=true):prtN n=59:=by
 unfold prtN;rw [if_pos hk,if_pos W200]
theorem Qig {n:Nod} (hk:n.kind=1) (h:(decide ((1:Int)=(1:Int))&&twoB n.op)=false):prtN n=43:=by
 unfold prtN;rw [if_pos hk,if_neg W200]
def usesB (p h:Int):Bool:=!decide (bits km jx p h=0)
def withinP (p k h most:Int):Bool:=!usesB p h&&decide (k=0)||(usesB p h&&decide (0≤k)&&decide (k<most))
def valueP (p slots:Int) (v:Vl) (h:Int):Bool:=if usesB p h=false then decide (v=⟨false,0,0⟩) else if v.slotted=true then decide (0≤v.slot)&&decide (v.slot<slots)&&decide (v.word=0) else decide (v.slot=0)
def rightN (ns nl:Int) (g:Grf) (n:Nod):Bool:=
 !(decide (n.kind=0)||decide (10≤n.kind)||decide (n.origin<0)||decide (4096≤n.origin)) &&
 (withinP (prtN n) n.op 1 19&&withinP (prtN n) n.slot 2 g.slots&&withinP (prtN n) n.thing 4 (if n.kind=5∨n.kind=6 then nl else ns) &&
  withinP (prtN n) n.next 32 g.nodes.length&&withinP (prtN n) n.els 64 g.nodes.length&&valueP (prtN n) g.slots n.a 8&&valueP (prtN n) g.slots n.b 16)
section
variable {ns nl:Int} {g:Grf} {n:Nod}
theorem Q6s (h:(decide (n.kind=0)||decide (10≤n.kind)||decide (n.origin<0)||decide (4096≤n.origin))=true):rightN ns nl g n=false:=by unfold rightN;rw [h];rfl
theorem Qfz (h:(decide (n.kind=0)||decide (10≤n.kind)||decide (n.origin<0)||decide (4096≤n.origin))=false) (h2:(decide (n.kind=5)||decide (n.kind=6))=true):rightN ns nl g n=(withinP (prtN n) n.op 1 19&&withinP (prtN n) n.slot 2 g.slots&&withinP (prtN n) n.thing 4 nl&&withinP (prtN n) n.next 32 g.nodes.length&&withinP (prtN n) n.els 64 g.nodes.length&&valueP (prtN n) g.slots n.a 8&&valueP (prtN n) g.slots n.b 16):=by
 unfold rightN;rw [h,if_pos W167];rfl
theorem Qg0 (h:(decide (n.kind=0)||decide (10≤n.kind)||decide (n.origin<0)||decide (4096≤n.origin))=false) (h2:(decide (n.kind=5)||decide (n.kind=6))=false):rightN ns nl g n=(withinP (prtN n) n.op 1 19&&withinP (prtN n) n.slot 2 g.slots&&withinP (prtN n) n.thing 4 ns&&withinP (prtN n) n.next 32 g.nodes.length&&withinP (prtN n) n.els 64 g.nodes.length&&valueP (prtN n) g.slots n.a 8&&valueP (prtN n) g.slots n.b 16):=by
 unfold rightN;rw [h,if_neg W167];rfl
end
def goN:List (ByteArray×Bool)→(ByteArray→Option Bool)→Bool
 | [],_=>true
 | s::r,D=>if (nameB s.1&&!(D s.1).getD false)=true∧s.2=true then goN r (fun q=>if q=s.1 then some true else D q) else false
def nmS (l:List Dcl):List (ByteArray×Bool):=l.map fun d=>(d.name,true)
def nmL (l:List Dcl):List (ByteArray×Bool):=l.map fun d=>(d.name,decide (d.word=0))
def nmG (l:List Grf):List (ByteArray×Bool):=l.map fun g=>(g.name,true)
def manyB (sh lk:List Dcl) (gs:List Grf):Bool:=decide (64<(sh.length:Int))||decide (16<(lk.length:Int))||decide (8<(gs.length:Int))
def namedB (sh lk:List Dcl) (gs:List Grf):Bool:=!manyB sh lk gs&&goN (nmS sh++(nmL lk++nmG gs)) (fun _=>none)
theorem Q0x {α β:Type} (f:α→β) (d:α) {l:List α} {n:Nat} (h:n<l.length):(l.drop n).map f=f (l.getD n d)::(l.drop (n+1)).map f:=by
 rw [ki h,j5,jc,jd h];rfl
section
variable {sh lk:List Dcl} {gs:List Grf} {D:ByteArray→Option Bool} {n:Nat} {R:List (ByteArray×Bool)}
theorem Qkt (h:n<sh.length):goN (nmS (sh.drop n)++R) D=(if (nameB (sh.getD n ua).name&&!(D (sh.getD n ua).name).getD false)=true then goN (nmS (sh.drop (n+1))++R) (fun q=>if q=(sh.getD n ua).name then some true else D q) else false):=by
 unfold nmS;rw [Q0x _ ua h,List.cons_append,goN];simp
theorem Qku (h:n<lk.length):goN (nmL (lk.drop n)++R) D=(if (nameB (lk.getD n ua).name&&!(D (lk.getD n ua).name).getD false)=true∧(lk.getD n ua).word=0 then goN (nmL (lk.drop (n+1))++R) (fun q=>if q=(lk.getD n ua).name then some true else D q) else false):=by
 unfold nmL;rw [Q0x _ ua h,List.cons_append,goN];simp
theorem Qkv (h:n<gs.length):goN (nmG (gs.drop n)) D=(if (nameB (gs.getD n ua).name&&!(D (gs.getD n ua).name).getD false)=true then goN (nmG (gs.drop (n+1))) (fun q=>if q=(gs.getD n ua).name then some true else D q) else false):=by
 unfold nmG;rw [Q0x _ ua h,goN];simp
end
section
variable {sh lk:List Dcl} {gs:List Grf} {D:ByteArray→Option Bool} {n:Nat} {R:List (ByteArray×Bool)}
theorem Q6t (h:(decide ((64:Int)<(sh.length:Int))||decide ((16:Int)<(lk.length:Int))||decide ((8:Int)<(gs.length:Int)))=true):namedB sh lk gs=false:=by unfold namedB manyB;rw [h];rfl
theorem J5 (h:(decide ((64:Int)<(sh.length:Int))||decide ((16:Int)<(lk.length:Int))||decide ((8:Int)<(gs.length:Int)))=false):namedB sh lk gs=goN (nmS sh++(nmL lk++nmG gs)) (fun _=>none):=by unfold namedB manyB;rw [h];rfl
theorem Q0h (h:(decide ((64:Int)<(sh.length:Int))||decide ((16:Int)<(lk.length:Int))||decide ((8:Int)<(gs.length:Int)))=false):sh.length≤64∧lk.length≤16∧gs.length≤8:=by
 simp only [jT,decide_eq_false_iff_not] at h;omega
theorem Qih (h:n<sh.length) (hc:(!(nameB (sh.getD n ua).name&&!(D (sh.getD n ua).name).getD false))=true):goN (nmS (sh.drop n)++R) D=false:=by
 rw [Qkt h,if_neg];intro h2;rw [h2] at hc;cases hc
theorem Qii (h:n<sh.length) (hc:(!(nameB (sh.getD n ua).name&&!(D (sh.getD n ua).name).getD false))=false) :
 goN (nmS (sh.drop n)++R) D=goN (nmS (sh.drop (n+1))++R) (fun q=>if q=(sh.getD n ua).name then some true else D q):=by
 rw [Qkt h,if_pos];simpa using hc
theorem Qij (h:n<lk.length) (hc:(!(nameB (lk.getD n ua).name&&!(D (lk.getD n ua).name).getD false)||!decide ((lk.getD n ua).word=(0:Int)))=true):goN (nmL (lk.drop n)++R) D=false:=by
 rw [Qku h,if_neg];rintro ⟨h2,h3⟩;rw [h2,h3] at hc;cases hc
theorem Qik (h:n<lk.length) (hc:(!(nameB (lk.getD n ua).name&&!(D (lk.getD n ua).name).getD false)||!decide ((lk.getD n ua).word=(0:Int)))=false) :
 goN (nmL (lk.drop n)++R) D=goN (nmL (lk.drop (n+1))++R) (fun q=>if q=(lk.getD n ua).name then some true else D q):=by
 simp only [jT] at hc
 rw [Qku h,if_pos];exact ⟨by simpa using hc.1,by simpa using hc.2⟩
theorem Qil (h:n<gs.length) (hc:(!(nameB (gs.getD n ua).name&&!(D (gs.getD n ua).name).getD false))=true):goN (nmG (gs.drop n)) D=false:=by
 rw [Qkv h,if_neg];intro h2;rw [h2] at hc;cases hc
theorem Qim (h:n<gs.length) (hc:(!(nameB (gs.getD n ua).name&&!(D (gs.getD n ua).name).getD false))=false) :
 goN (nmG (gs.drop n)) D=goN (nmG (gs.drop (n+1))) (fun q=>if q=(gs.getD n ua).name then some true else D q):=by
 rw [Qkv h,if_pos];simpa using hc
end
abbrev HL:=List (List Int)
abbrev HF:=Int→Option Bool
def hIn (now:List Int) (q:HL→HF→List Int→Int):List Int→HL→HF→List Int→Int
 | [],L,F,T=>q L F T
 | to::r,L,F,T=>if (F to).getD false=false then hIn now q r (L.set to.toNat now) (fun a=>if a=to then some true else F a) (T++[to])
   else if L.getD to.toNat []=now then hIn now q r L F T else to
def nowH (n:Nod) (l:List Int):Option (List Int):=
 if n.kind=5 then some (l++[n.thing]) else if n.kind=6 then (if l.length=0∨l.getD (l.length-1) 0≠n.thing then none else some (l.take (l.length-1)))
 else if n.kind=9∧0<l.length then none else some l
def hOut (ns:List Nod):Nat→Nat→HL→HF→List Int→Int
 | 0,_,_,_,_=>-1
 | fu+1,k,L,F,T=>if k<T.length then
    match nowH (ns.getD (T.getD k 0).toNat ua) (L.getD (T.getD k 0).toNat []) with
    | none=>T.getD k 0
    | some now=>hIn now (hOut ns fu (k+1)) (flwL (ns.getD (T.getD k 0).toNat ua)) L F T
   else -1
def heldF (ns:List Nod):Int:=hOut ns (ns.length+1) 0 (jh ns.length []) (fun a=>if a=0 then some true else none) [0]
structure HInv (N k:Nat) (L:HL) (F:HF) (T:List Int):Prop where
 len:L.length=N
 nd:T.Nodup
 rng:∀ x∈T,0≤x∧x<(N:Int)
 fd:∀ x,(F x).getD false=true↔x∈T
 short:∀ i,(L.getD i []).length≤k
theorem Q03:∀ (N:Nat) (T:List Int),T.Nodup→(∀ x∈T,0≤x∧x<(N:Int))→T.length≤N
 | 0,T,_,h=>by
   cases T with
   | nil=>exact jn _
   | cons x r=>have:=h x (.head _);omega
 | N+1,T,hn,h=>by
   by_cases hm:(N:Int)∈T
   ·have h1:=Q03 N (T.erase (N:Int)) (hn.erase _) (fun x hx=>by
     have h2:=(hn.mem_erase_iff).1 hx
     have:=h x h2.2
     have:=h2.1
     omega)
    have:=List.length_erase_of_mem hm
    omega
   ·have:=Q03 N T hn (fun x hx=>by
     have:=h x hx
     have:x≠(N:Int):=fun e=>hm (e▸hx)
     omega)
    omega
theorem HInv.le {N k:Nat} {L:HL} {F:HF} {T:List Int} (h:HInv N k L F T):T.length≤N:=Q03 N T h.nd h.rng
theorem HInv.up {N k k':Nat} {L:HL} {F:HF} {T:List Int} (h:HInv N k L F T) (hk:k≤k'):HInv N k' L F T:=⟨h.len,h.nd,h.rng,h.fd,fun i=>kr (h.short i) hk⟩
theorem HInv.put {N k:Nat} {L:HL} {F:HF} {T:List Int} (h:HInv N k L F T) {to:Int} (hf:(F to).getD false=false) (h0:0≤to) (h1:to<(N:Int)) {now:List Int} (hn:now.length≤k) :
 HInv N k (L.set to.toNat now) (fun a=>if a=to then some true else F a) (T++[to]):=by
 have hx:to ∉ T:=fun hm=>by have:=(h.fd to).2 hm;rw [hf] at this;cases this
 refine ⟨by rw [jF];exact h.len,?_,fun x hx'=>?_,fun x=>?_,fun i=>?_⟩
 ·rw [List.nodup_append]
  exact ⟨h.nd,W162,fun a ha b hb=>by rw [jH] at hb;subst hb;intro e;exact hx (e▸ha)⟩
 ·rw [kH,jH] at hx'
  rcases hx' with hx' | rfl
  ·exact h.rng x hx'
  ·exact ⟨h0,h1⟩
 ·rw [kH,jH]
  show (if x=to then some true else F x).getD false=true↔_
  split
  ·rename_i e;subst e;simp
  ·rename_i e;rw [h.fd x];simp [e]
 ·rw [jc,List.getElem?_set]
  split
  ·split
   ·exact hn
   ·simp
  ·rw [← jc];exact h.short i
theorem HInv.first {N:Nat} (h:0<N):HInv N 0 (jh N []) (fun a=>if a=0 then some true else none) [0]:=by
 refine ⟨by simp,W162,fun x hx=>?_,fun x=>?_,fun i=>?_⟩
 ·rw [jH] at hx;subst hx;omega
 ·rw [jH];show (if x=0 then some true else none).getD false=true↔_;split<;>simp_all
 ·rw [jc,jX];split<;>simp
structure VCo where
 pos:Int
 halted:Bool
 regs:List Int
 buf:List Sto
 deriving Inhabited,DecidableEq
def setR (l:List Int) (n:Nat) (x:Int):List Int:=[if n=0 then x else l.getD 0 0,if n=1 then x else l.getD 1 0,if n=2 then x else l.getD 2 0,if n=3 then x else l.getD 3 0,if n=4 then x else l.getD 4 0,if n=5 then x else l.getD 5 0,if n=6 then x else l.getD 6 0,if n=7 then x else l.getD 7 0,if n=8 then x else l.getD 8 0,if n=9 then x else l.getD 9 0,if n=10 then x else l.getD 10 0,if n=11 then x else l.getD 11 0,if n=12 then x else l.getD 12 0,if n=13 then x else l.getD 13 0,if n=14 then x else l.getD 14 0,if n=15 then x else l.getD 15 0]
def bufUp (addr:Int) (b:List Sto) (w:Int):Nat→Int×Bool
 | 0=>(w,false)
 | n+1=>if (b.getD n ua).addr=addr then ((b.getD n ua).word,true) else bufUp addr b w n
def loadV (mem:List Int) (addr:Int) (b:List Sto):Int×Bool:=bufUp addr b (mem.getD addr.toNat 0) b.length
def loadT (i:Ins) (mem:List Int) (c:VCo):VCo:={ c with regs:=setR c.regs i.d.toNat (loadV mem i.addr c.buf).1 }
structure Hdl where
 a:Option Addr
 n:Nat
 c:Nat
 deriving Inhabited
def Hdl.none:Hdl:=⟨Option.none,0,0⟩
abbrev Hdl.v (h:Hdl):Value:=.slice h.a h.n h.c
def Hdl.tl (x:Hdl):List TC:=[.val (.slice x.a x.n x.c)]
def Hdl.tc (x:Hdl):Nat→TC:=nthT x.tl
abbrev Hdl.ownR (l:List Hdl):Reg:=ownOf 49 1 Hdl.tc l
theorem Qat (n:Nat) (f:Nat→Nat→TC) (hf:f=fun _=>valT [.slice Option.none 0 0]):∀ i,i<n→Hdl.tc ((jh n Hdl.none).getD i ua)=f i:=by
 intro i hi
 subst hf
 rw [jc,jX,if_pos hi]
 funext j
 match j with
 | 0=>rfl
 | j+1=>rfl
theorem Qct (l:List Hdl) (k:Nat) (x:Hdl):∀ i,i<(l.set k x).length→Hdl.tc ((l.set k x).getD i ua)=updT (fun i=>Hdl.tc (l.getD i ua)) k 0 [.slice x.a x.n x.c] i:=
 Za ua Hdl.tc l k 0 x _ (fun j=>by rcases j with _ | j<;>simp [Hdl.tc,Hdl.tl,nthT,nth])
def Is (X:Ext) (v:Value):Prop:=∃ l:List Int,X.Tab v 1 l.length (fun j=>i64T (l.getD j 0))
theorem Qlp {X:Ext} {v:Value} {l l':List Int} (h:X.Tab v 1 l.length (fun j=>i64T (l.getD j 0))) (h':X.Tab v 1 l'.length (fun j=>i64T (l'.getD j 0))):l=l':=by
 obtain ⟨A,c,e,_,_,_,h1⟩:=h
 obtain ⟨A',c',e',_,_,_,h1'⟩:=h'
 rw [e] at e'
 injection e' with e1 e2 e3
 refine List.ext_getElem e2 fun i hi hi'=>?_
 obtain ⟨ad,ha,h2⟩:=h1 W30
 obtain ⟨ad',ha',h2'⟩:=h1' W30
 rw [← e1,ha] at ha'
 injection ha' with ha'
 subst ha'
 obtain ⟨u,k1,k2⟩:=h2 i 0 hi W30
 obtain ⟨u',k1',k2'⟩:=h2' i 0 hi' W30
 rw [k1] at k1'
 injection k1' with k1'
 subst k1'
 have k2:u=.int .i64 (l.getD i 0):=k2
 have k2':u=.int .i64 (l'.getD i 0):=k2'
 rw [k2] at k2'
 injection k2' with _ k3
 rw [jc,jc,jd hi,jd hi'] at k3
 exact k3
open Classical in
noncomputable def rd (X:Ext) (v:Value):List Int:=if h:Is X v then h.choose else []
theorem Qx {X:Ext} {v:Value} (h:Is X v):X.Tab v 1 (rd X v).length (fun j=>i64T ((rd X v).getD j 0)):=by
 unfold rd;rw [dif_pos h];exact h.choose_spec
theorem Q9n {X:Ext} {v:Value} {l:List Int} (h:X.Tab v 1 l.length (fun j=>i64T (l.getD j 0))):rd X v=l:=Qlp (Qx ⟨l,h⟩) h
theorem Qo7 (X:Ext):rd X Hdl.none.v=[]:=Q9n (l:=[]) (Ext.Tab.nil X 1 _)
theorem Qo8 (X:Ext):Is X Hdl.none.v:=⟨[],Ext.Tab.nil X 1 _⟩
theorem Qcu {X X':Ext} (hi:X.Into X') {v:Value} (h:Is X v):Is X' v∧rd X' v=rd X v:=⟨⟨_,hi _ _ _ _ (Qx h)⟩,Q9n (hi _ _ _ _ (Qx h))⟩
noncomputable def rds (X:Ext) (l:List Hdl):List (List Int):=l.map fun h=>rd X h.v
def Alls (X:Ext) (l:List Hdl):Prop:=∀ h∈l,Is X h.v
theorem Jk (X:Ext) (l:List Hdl):(rds X l).length=l.length:=jP _
theorem Gh (X:Ext) (l:List Hdl) (i:Nat) (hi:i<l.length):(rds X l).getD i []=rd X (l.getD i ua).v:=by
 unfold rds
 rw [jc,jm,jc,jd hi];rfl
theorem Q29 {X:Ext} {l:List Hdl} (h:Alls X l) {i:Nat} (hi:i<l.length):Is X (l.getD i ua).v:=by
 rw [jc,jd hi]
 exact h _ (jN hi)
theorem Qg1 (X:Ext) (n:Nat):Alls X (jh n Hdl.none):=fun h hh=>by rw [List.eq_of_mem_replicate hh];exact Qo8 X
theorem Q5g (X:Ext) (n:Nat):rds X (jh n Hdl.none)=jh n []:=by unfold rds;rw [List.map_replicate,Qo7]
theorem Q8t {X X':Ext} (hi:X.Into X') {l:List Hdl} (h:Alls X l):Alls X' l∧rds X' l=rds X l:=
 ⟨fun x hx=>(Qcu hi (h x hx)).1,kg fun x hx=>(Qcu hi (h x hx)).2⟩
theorem Qau {X X':Ext} (hi:X.Into X') {l:List Hdl} (h:Alls X l) {now:List Int} {A:Option Addr} {cp:Nat} (ht:X'.Tab (.slice A now.length cp) 1 now.length (fun j=>i64T (now.getD j 0))) (k:Nat) :
 Alls X' (l.set k ⟨A,now.length,cp⟩)∧rds X' (l.set k ⟨A,now.length,cp⟩)=(rds X l).set k now:=by
 have h0:=Q8t hi h
 refine ⟨fun x hx=>?_,?_⟩
 ·rcases ku hx with hx | rfl
  ·exact h0.1 x hx
  ·exact ⟨now,ht⟩
 ·unfold rds at h0 ⊢
  rw [List.map_set,h0.2,Q9n ht]
theorem Yz (n:Nod):(flwL n).length≤2:=by unfold flwL;split<;>(try split)<;>simp
structure HJ (ns:List Nod) (k:Int) (X:Ext) (V:List Hdl) (n:Nat) (F:HF) (T:List Int):Prop where
 k0:0≤k
 kn:k≤(ns.length:Int)
 inv:HInv ns.length k.toNat (rds X V) F T
 all:Alls X V
 cnt:n≤T.length
 run:heldF ns=hOut ns (ns.length+1-k.toNat) k.toNat (rds X V) F T
structure HK (ns:List Nod) (k:Int) (nd:Nod) (nw:List Int) (i:Int) (X:Ext) (V:List Hdl) (n:Nat) (F:HF) (T:List Int):Prop where
 i0:0≤i
 il:i≤((flwL nd).length:Int)
 k0:0≤k
 kn:k<(ns.length:Int)
 inv:HInv ns.length (k.toNat+1) (rds X V) F T
 all:Alls X V
 cnt:n≤T.length
 nl:nw.length≤k.toNat+1
 run:heldF ns=hIn nw (hOut ns (ns.length-k.toNat) (k.toNat+1)) ((flwL nd).drop i.toNat) (rds X V) F T
theorem HJ.start {ns:List Nod} (h:1≤ns.length) (X:Ext):HJ ns 0 X (jh ns.length Hdl.none) 1 (fun q=>if q=0 then some true else none) [0]:=
 ⟨jz _,by omega,by rw [Q5g];exact HInv.first W30,Qg1 X _,jn _,by rw [Q5g];rfl⟩
section
variable {ns:List Nod} {k:Int} {X:Ext} {V:List Hdl} {n:Nat} {F:HF} {T:List Int}
theorem HJ.len (h:HJ ns k X V n F T):V.length=ns.length:=by rw [← Jk X V];exact h.inv.len
theorem HJ.at_ (h:HJ ns k X V n F T) (hk:k<(T.length:Int)):0≤T.getD k.toNat 0∧T.getD k.toNat 0<(ns.length:Int):=by
 have hk0:=h.k0
 have hlt:k.toNat<T.length:=by omega
 rw [jc,jd hlt]
 exact h.inv.rng _ (jN hlt)
theorem HJ.most (h:HJ ns k X V n F T):T.length≤ns.length:=h.inv.le
theorem HJ.is (h:HJ ns k X V n F T) (hk:k<(T.length:Int)):Is X (V.getD (T.getD k.toNat 0).toNat ua).v:=Q29 h.all (by have:=h.at_ hk;have:=h.len;omega)
theorem HJ.get (h:HJ ns k X V n F T) (hk:k<(T.length:Int)):(rds X V).getD (T.getD k.toNat 0).toNat []=rd X (V.getD (T.getD k.toNat 0).toNat ua).v:=Gh X V _ (by have:=h.at_ hk;have:=h.len;omega)
theorem HJ.short (h:HJ ns k X V n F T) (hk:k<(T.length:Int)):(rd X (.slice (V.getD (T.getD k.toNat 0).toNat ua).a (V.getD (T.getD k.toNat 0).toNat ua).n (V.getD (T.getD k.toNat 0).toNat ua).c)).length≤k.toNat:=by
 show (rd X (V.getD (T.getD k.toNat 0).toNat ua).v).length≤k.toNat
 rw [← h.get hk];exact h.inv.short _
theorem HJ.step (h:HJ ns k X V n F T) (hk:k<(T.length:Int)):heldF ns=(match nowH (ns.getD (T.getD k.toNat 0).toNat ua) (rd X (V.getD (T.getD k.toNat 0).toNat ua).v) with
 | none=>T.getD k.toNat 0
 | some now=>hIn now (hOut ns (ns.length-k.toNat) (k.toNat+1)) (flwL (ns.getD (T.getD k.toNat 0).toNat ua)) (rds X V) F T):=by
 have hk0:=h.k0
 have hm:=h.most
 rw [h.run,show ns.length+1-k.toNat=(ns.length-k.toNat)+1 by omega,hOut,if_pos W30,h.get hk]<;>rfl
theorem HJ.fault (h:HJ ns k X V n F T) (hk:k<(T.length:Int)) (hn:nowH (ns.getD (T.getD k.toNat 0).toNat ua) (rd X (V.getD (T.getD k.toNat 0).toNat ua).v)=none):heldF ns=T.getD k.toNat 0:=by rw [h.step hk,hn]
theorem HJ.done (h:HJ ns k X V n F T) (hk:¬ k<(T.length:Int)):heldF ns=-1:=by
 have hk0:=h.k0
 have hkn:=h.kn
 rw [h.run,show ns.length+1-k.toNat=(ns.length-k.toNat)+1 by omega,hOut,if_neg W30]
theorem Qin {nd:Nod} {l nw:List Int} (h:nowH nd l=some nw):nw.length≤l.length+1:=by
 unfold nowH at h
 split at h
 ·cases h;simp
 ·split at h
  ·split at h
   ·cases h
   ·cases h;simp;omega
  ·split at h
   ·cases h
   ·cases h;omega
theorem HJ.inner (h:HJ ns k X V n F T) (hk:k<(T.length:Int)) {nw:List Int} (hn:nowH (ns.getD (T.getD k.toNat 0).toNat ua) (rd X (V.getD (T.getD k.toNat 0).toNat ua).v)=some nw) :
 HK ns k (ns.getD (T.getD k.toNat 0).toNat ua) nw 0 X V n F T:=
 ⟨jz _,by omega,h.k0,by have:=h.most;have:=h.k0;omega,h.inv.up W30,h.all,h.cnt,kr (Qin hn) (Nat.succ_le_succ (h.short hk)),by rw [h.step hk,hn];rfl⟩
end
section
variable {ns:List Nod} {k:Int} {nd:Nod} {nw:List Int} {i:Int} {X:Ext} {V:List Hdl} {n:Nat} {F:HF} {T:List Int}
theorem HK.len (h:HK ns k nd nw i X V n F T):V.length=ns.length:=by rw [← Jk X V];exact h.inv.len
theorem HK.most (h:HK ns k nd nw i X V n F T):T.length≤ns.length:=h.inv.le
theorem HK.to_ (h:HK ns k nd nw i X V n F T) (hi:i<((flwL nd).length:Int)) (hq:∀ x∈flwL nd,0≤x∧x<(ns.length:Int)):0≤(flwL nd).getD i.toNat 0∧(flwL nd).getD i.toNat 0<(ns.length:Int):=by
 have h0:=h.i0
 have hlt:i.toNat<(flwL nd).length:=by omega
 rw [jc,jd hlt]
 exact hq _ (jN hlt)
theorem HK.drop (h:HK ns k nd nw i X V n F T) (hi:i<((flwL nd).length:Int)):(flwL nd).drop i.toNat=(flwL nd).getD i.toNat 0::(flwL nd).drop (i.toNat+1):=by
 have h0:=h.i0
 have hlt:i.toNat<(flwL nd).length:=by omega
 rw [ki hlt,jc,jd hlt];rfl
theorem HK.is (h:HK ns k nd nw i X V n F T) {to:Int} (h0:0≤to∧to<(ns.length:Int)):Is X (V.getD to.toNat ua).v:=Q29 h.all (by have:=h.len;omega)
theorem HK.put (h:HK ns k nd nw i X V n F T) (hi:i<((flwL nd).length:Int)) (hq:∀ x∈flwL nd,0≤x∧x<(ns.length:Int)) (hf:(!(F ((flwL nd).getD i.toNat 0)).getD false)=true) {X':Ext} {A:Option Addr} {c:Nat} (hin:X.Into X')
 (ht:X'.Tab (.slice A nw.length c) 1 nw.length (fun j=>i64T (nw.getD j 0))) :
 HK ns k nd nw (i+1) X' (V.set ((flwL nd).getD i.toNat 0).toNat ⟨A,nw.length,c⟩) (n+1) (fun a=>if a=(flwL nd).getD i.toNat 0 then some true else F a) (T++[(flwL nd).getD i.toNat 0]):=by
 have hs:=Qau hin h.all ht ((flwL nd).getD i.toNat 0).toNat
 have h0:=h.to_ hi hq
 have hf:(F ((flwL nd).getD i.toNat 0)).getD false=false:=by simpa using hf
 have e:=h.i0
 refine ⟨by omega,by omega,h.k0,h.kn,by rw [hs.2];exact h.inv.put hf h0.1 h0.2 h.nl,hs.1,by simp;exact h.cnt,h.nl,?_⟩
 rw [h.run,h.drop hi,hIn,if_pos hf,hs.2,show (i+1).toNat=i.toNat+1 by omega]
theorem HK.skip (h:HK ns k nd nw i X V n F T) (hi:i<((flwL nd).length:Int)) (hq:∀ x∈flwL nd,0≤x∧x<(ns.length:Int)) (hf:(!(F ((flwL nd).getD i.toNat 0)).getD false)=false) (he:(!decide (rd X (V.getD ((flwL nd).getD i.toNat 0).toNat ua).v=nw))=false) :
 HK ns k nd nw (i+1) X V n F T:=by
 have h0:=h.to_ hi hq
 have hf:(F ((flwL nd).getD i.toNat 0)).getD false=true:=by simpa using hf
 have he:rd X (V.getD ((flwL nd).getD i.toNat 0).toNat ua).v=nw:=by simpa using he
 have e:=h.i0
 refine ⟨by omega,by omega,h.k0,h.kn,h.inv,h.all,h.cnt,h.nl,?_⟩
 rw [h.run,h.drop hi,hIn,if_neg (by rw [hf];decide),Gh X V _ (by have:=h.len;omega),if_pos he,show (i+1).toNat=i.toNat+1 by omega]
theorem HK.fault (h:HK ns k nd nw i X V n F T) (hi:i<((flwL nd).length:Int)) (hq:∀ x∈flwL nd,0≤x∧x<(ns.length:Int)) (hf:(!(F ((flwL nd).getD i.toNat 0)).getD false)=false) (he:(!decide (rd X (V.getD ((flwL nd).getD i.toNat 0).toNat ua).v=nw))=true) :
 heldF ns=(flwL nd).getD i.toNat 0:=by
 have h0:=h.to_ hi hq
 have hf:(F ((flwL nd).getD i.toNat 0)).getD false=true:=by simpa using hf
 have he:¬ rd X (V.getD ((flwL nd).getD i.toNat 0).toNat ua).v=nw:=by simpa using he
 rw [h.run,h.drop hi,hIn,if_neg (by rw [hf];decide),Gh X V _ (by have:=h.len;omega),if_neg he]
theorem HK.done (h:HK ns k nd nw i X V n F T) (hi:¬ i<((flwL nd).length:Int)):HJ ns (k+1) X V n F T:=by
 have h1:=h.il
 have h2:=h.k0
 have h3:=h.kn
 refine ⟨by omega,by omega,by rw [show (k+1).toNat=k.toNat+1 by omega];exact h.inv,h.all,h.cnt,?_⟩
 rw [h.run,j8 W30,hIn,show (k+1).toNat=k.toNat+1 by omega,show ns.length+1-(k.toNat+1)=ns.length-k.toNat by omega]
end
section
variable {nd:Nod} {l:List Int}
theorem Q8u (h:decide (nd.kind=5)=true):nowH nd l=some (l++[nd.thing]):=by unfold nowH;rw [if_pos (ub h)]
theorem Qcg (h:decide (nd.kind=5)=false) (h2:decide (nd.kind=6)=true) (h3:¬ (l.length=0∨l.getD (l.length-1) 0≠nd.thing)):nowH nd l=some (l.take (l.length-1)):=by
 unfold nowH;rw [if_neg (uc h),if_pos (ub h2),if_neg h3]
theorem Qio (h:decide (nd.kind=5)=false) (h2:decide (nd.kind=6)=true) (h3:l.length=0∨l.getD (l.length-1) 0≠nd.thing):nowH nd l=none:=by
 unfold nowH;rw [if_neg (uc h),if_pos (ub h2),if_pos h3]
theorem Q5h (h:decide (nd.kind=5)=false) (h2:decide (nd.kind=6)=false) (h3:decide (nd.kind=9)=true) (h4:decide ((0:Int)<(l.length:Int))=true):nowH nd l=none:=by
 have h4:0<l.length:=by have:=ub h4;omega
 unfold nowH;rw [if_neg (uc h),if_neg (uc h2),if_pos ⟨ub h3,h4⟩]
theorem Q0i (h:decide (nd.kind=5)=false) (h2:decide (nd.kind=6)=false) (h3:¬ (nd.kind=9∧0<l.length)):nowH nd l=some l:=by
 unfold nowH;rw [if_neg (uc h),if_neg (uc h2),if_neg h3]
end
theorem Qav {nd:Nod} {l:List Int} (h:decide (nd.kind=5)=false) (h2:decide (nd.kind=6)=true) (h3:(decide ((l.length:Int)=(0:Int))||!decide (l.getD ((l.length:Int)-(1:Int)).toNat (0:Int)=nd.thing))=false) :
 nowH nd l=some (jR (((l.length:Int)-(1:Int)).toNat-0) (List.drop 0 l)):=by
 simp only [jT,decide_eq_false_iff_not,kI,decide_eq_true_eq] at h3
 rw [show ((l.length:Int)-(1:Int)).toNat=l.length-1 by omega] at h3 ⊢
 rw [Qcg h h2 (fun e=>e.elim (fun e=>W30) (fun e=>e h3.2))]
 rfl
theorem Qqe {a N:Nat} {k:Int} (h:a≤k.toNat) (h2:k≤(N:Int)) (h3:N≤4096):a * 64≤140737488355328:=by omega
theorem Qo9 {a N:Nat} {k:Int} (h:a≤k.toNat+1) (h2:k<(N:Int)) (h3:N≤4096):a * 64≤140737488355328:=by omega
theorem Q7t {nd:Nod} {l:List Int} (h:decide (nd.kind=5)=false) (h2:decide (nd.kind=6)=true) (h3:(decide ((l.length:Int)=(0:Int))||!decide (l.getD ((l.length:Int)-(1:Int)).toNat (0:Int)=nd.thing))=true):nowH nd l=none:=by
 refine Qio h h2 ?_
 by_cases e:l.length=0
 ·exact .inl e
 ·refine .inr ?_
  rw [show ((l.length:Int)-(1:Int)).toNat=l.length-1 by omega] at h3
  simp only [jK,decide_eq_true_eq,jJ,decide_eq_false_iff_not] at h3
  rcases h3 with h3 | h3
  ·omega
  ·exact h3
structure NodQ (ns nl:Nat) (g:Grf) (n:Nod):Prop where
 k:1≤n.kind∧n.kind≤9
 op:0≤n.op∧n.op≤18
 slot:n.kind=1∨n.kind=2∨n.kind=4→0≤n.slot∧n.slot<g.slots
 thing:n.kind=2∨n.kind=3∨n.kind=4→0≤n.thing∧n.thing<(ns:Int)
 lock:n.kind=5∨n.kind=6→0≤n.thing∧n.thing<(nl:Int)
 next:n.kind≠9→0≤n.next∧n.next<(g.nodes.length:Int)
 els:n.kind=8→0≤n.els∧n.els<(g.nodes.length:Int)
 a:n.a.slotted=true→0≤n.a.slot∧n.a.slot<g.slots
 b:n.b.slotted=true→0≤n.b.slot∧n.b.slot<g.slots
theorem Zw {p k h m:Int} (hu:usesB p h=true) (hw:withinP p k h m=true):0≤k∧k<m:=by
 unfold withinP at hw;rw [hu] at hw;simpa using hw
theorem Q6u {p k h m:Int} (hu:usesB p h=false) (hw:withinP p k h m=true):k=0:=by
 unfold withinP at hw;rw [hu] at hw;simpa using hw
theorem Qeh {p k h m:Int} (hm:0<m) (hw:withinP p k h m=true):0≤k∧k<m:=by
 cases hu:usesB p h with
 | true=>exact Zw hu hw
 | false=>have:=Q6u hu hw;omega
theorem Qaw {p s h:Int} {v:Vl} (hv:valueP p s v h=true) (hs:v.slotted=true):0≤v.slot∧v.slot<s:=by
 unfold valueP at hv
 split at hv
 ·have:=ub hv
  subst this
  cases hs
 ·first | rw [if_pos hs] at hv | skip
  simp only [ji,decide_eq_true_eq] at hv
  exact hv.1
theorem Q5i {ns nl:Nat} {g:Grf} {n:Nod} (h:rightN ns nl g n=true) (hk0:0≤n.kind):NodQ ns nl g n:=by
 unfold rightN at h
 simp only [ji,jJ,jT,decide_eq_false_iff_not] at h
 obtain ⟨⟨⟨⟨k0,k10⟩,o0⟩,o1⟩,⟨⟨⟨⟨⟨w1,w2⟩,w3⟩,w4⟩,w5⟩,w6⟩,w7⟩:=h
 have hk:1≤n.kind∧n.kind≤9:=by omega
 have hop:=Qeh W164 w1
 refine ⟨hk,by omega,fun q=>?_,fun q=>?_,fun q=>?_,fun q=>?_,fun q=>?_,Qaw w6,Qaw w7⟩
 ·refine Zw ?_ w2
  rcases q with q | q | q
  ·unfold prtN;rw [if_pos q];split<;>rfl
  ·unfold prtN;rw [if_neg W30,if_pos q];rfl
  ·unfold prtN;rw [if_neg W30,if_neg W30,if_neg W30,if_pos q];rfl
 ·rw [if_neg W30] at w3
  refine Zw ?_ w3
  rcases q with q | q | q
  ·unfold prtN;rw [if_neg W30,if_pos q];rfl
  ·unfold prtN;rw [if_neg W30,if_neg W30,if_pos q];rfl
  ·unfold prtN;rw [if_neg W30,if_neg W30,if_neg W30,if_pos q];rfl
 ·rw [if_pos q] at w3
  refine Zw ?_ w3
  rcases q with q | q
  ·unfold prtN;rw [if_neg W30,if_neg W30,if_neg W30,if_neg W30,if_pos q];rfl
  ·unfold prtN;rw [if_neg W30,if_neg W30,if_neg W30,if_neg W30,if_neg W30,if_pos q];rfl
 ·refine Zw ?_ w4
  have q:n.kind=1∨n.kind=2∨n.kind=3∨n.kind=4∨n.kind=5∨n.kind=6∨n.kind=7∨n.kind=8:=by omega
  unfold prtN
  rcases q with q | q | q | q | q | q | q | q
  ·rw [if_pos q];split<;>rfl
  all_goals first | (rw [q];rfl) | (simp only [q];decide) | (rw [if_neg W30];simp [q];rfl)
 ·refine Zw ?_ w5
  unfold prtN
  rw [if_neg W30];simp [q];rfl
theorem NodQ.flw {ns nl:Nat} {g:Grf} {n:Nod} (h:NodQ ns nl g n):∀ x∈flwL n,0≤x∧x<(g.nodes.length:Int):=by
 intro x hx
 unfold flwL at hx
 split at hx
 ·cases hx
 ·rename_i h9
  split at hx
  ·rename_i h8
   simp only [kD,kq,or_false] at hx
   rcases hx with rfl | rfl
   ·exact h.next h9
   ·exact h.els h8.1
  ·simp only [kD,kq,or_false] at hx
   subst hx
   exact h.next h9
def badG (g:Grf):Bool:=decide (g.locals<(0:Int))||decide ((64:Int)<g.locals)||decide (g.slots<g.locals)||decide ((4160:Int)<g.slots)||decide ((g.nodes.length:Int)<(1:Int))||decide ((4096:Int)<(g.nodes.length:Int))
def badN (ns nl:Nat) (g:Grf):List Nod→Int→Option Int
 | [],_=>none
 | n::r,i=>if rightN ns nl g n=true then badN ns nl g r (i+1) else some i
def chkGo (ns nl:Nat):List Grf→Int→Int×Int×Int
 | [],_=>(0,0,0)
 | g::r,t=>if badG g=true then (60,t,0) else match badN ns nl g g.nodes 0 with
   | some i=>(60,t,i)
   | none=>if 0≤heldF g.nodes then (60,t,heldF g.nodes) else chkGo ns nl r (t+1)
def chkU (sh lk:List Dcl) (gs:List Grf):Int×Int×Int:=if namedB sh lk gs=true then chkGo sh.length lk.length gs 0 else (60,0,0)
structure GrfQ (ns nl:Nat) (g:Grf):Prop where
 loc:0≤g.locals∧g.locals≤g.slots∧g.slots≤4160
 len:1≤g.nodes.length∧g.nodes.length≤4096
 nod:∀ i:Nat,i<g.nodes.length→rightN ns nl g (g.nodes.getD i default)=true
theorem Q1i {g:Grf} (h:badG g=false):(0≤g.locals∧g.locals≤g.slots∧g.slots≤4160)∧(1≤g.nodes.length∧g.nodes.length≤4096):=by
 unfold badG at h
 simp only [jT,decide_eq_false_iff_not] at h
 omega
theorem Q3s {ns nl:Nat} {g:Grf}:∀ {l:List Nod} {i:Int},badN ns nl g l i=none→∀ j:Nat,j<l.length→rightN ns nl g (l.getD j ua)=true
 | [],_,_,j,hj=>absurd hj W162
 | n::r,i,h,j,hj=>by
   unfold badN at h
   split at h
   ·rename_i hr
    cases j with
    | zero=>exact hr
    | succ j=>exact Q3s h j W214
   ·cases h
theorem Qax {ns nl:Nat}:∀ {l:List Grf} {t:Int},(chkGo ns nl l t).1=0→∀ j:Nat,j<l.length→GrfQ ns nl (l.getD j ua)
 | [],_,_,j,hj=>absurd hj W162
 | g::r,t,h,j,hj=>by
   unfold chkGo at h
   split at h
   ·cases h
   ·rename_i hb
    split at h
    ·cases h
    ·rename_i hn
     split at h
     ·cases h
     ·cases j with
      | zero =>
        have:=Q1i (by simpa using hb)
        exact ⟨this.1,this.2,Q3s hn⟩
      | succ j=>exact Qax h j W214
theorem Yc {sh lk:List Dcl} {gs:List Grf} (h:(chkU sh lk gs).1=0):(sh.length≤64∧lk.length≤16∧gs.length≤8)∧∀ j:Nat,j<gs.length→GrfQ sh.length lk.length (gs.getD j ua):=by
 unfold chkU at h
 split at h
 ·rename_i hn
  refine ⟨?_,Qax h⟩
  unfold namedB at hn
  simp only [ji] at hn
  have hm:manyB sh lk gs=false:=by have:=hn.1;simpa using this
  exact Q0h hm
 ·cases h
section
variable {sh lk:List Dcl} {gs:List Grf} {t:Int}
structure CJ (sh lk:List Dcl) (gs:List Grf) (t:Int):Prop where
 t0:0≤t
 tl:t≤(gs.length:Int)
 run:chkU sh lk gs=chkGo sh.length lk.length (gs.drop t.toNat) t
theorem CJ.start (h:(!namedB sh lk gs)=false):CJ sh lk gs 0:=⟨jz _,by omega,by unfold chkU;rw [if_pos W200];rfl⟩
theorem CJ.first (h:(!namedB sh lk gs)=true):chkU sh lk gs=(60,0,0):=by unfold chkU;rw [if_neg W200]
theorem CJ.drop (h:CJ sh lk gs t) (ht:t<(gs.length:Int)):gs.drop t.toNat=gs.getD t.toNat ua::gs.drop (t.toNat+1):=by
 have h0:=h.t0
 have hlt:t.toNat<gs.length:=by omega
 rw [ki hlt,jc,jd hlt];rfl
theorem CJ.bad (h:CJ sh lk gs t) (ht:t<(gs.length:Int)) (hb:badG (gs.getD t.toNat ua)=true):chkU sh lk gs=(60,t,0):=by
 rw [h.run,h.drop ht,chkGo,if_pos hb]
theorem CJ.nods (h:CJ sh lk gs t) (ht:t<(gs.length:Int)) (hb:badG (gs.getD t.toNat ua)=false) {i:Int} (hn:badN sh.length lk.length (gs.getD t.toNat ua) (gs.getD t.toNat ua).nodes 0=some i):chkU sh lk gs=(60,t,i):=by
 rw [h.run,h.drop ht,chkGo,if_neg (by rw [hb];decide),hn]
theorem CJ.held (h:CJ sh lk gs t) (ht:t<(gs.length:Int)) (hb:badG (gs.getD t.toNat ua)=false) (hn:badN sh.length lk.length (gs.getD t.toNat ua) (gs.getD t.toNat ua).nodes 0=none) (hh:decide ((0:Int)≤heldF (gs.getD t.toNat ua).nodes)=true) :
 chkU sh lk gs=(60,t,heldF (gs.getD t.toNat ua).nodes):=by
 rw [h.run,h.drop ht,chkGo,if_neg (by rw [hb];decide),hn];dsimp only;rw [if_pos (ub hh)]
theorem CJ.next (h:CJ sh lk gs t) (ht:t<(gs.length:Int)) (hb:badG (gs.getD t.toNat ua)=false) (hn:badN sh.length lk.length (gs.getD t.toNat ua) (gs.getD t.toNat ua).nodes 0=none) (hh:decide ((0:Int)≤heldF (gs.getD t.toNat ua).nodes)=false) :
 CJ sh lk gs (t+1):=by
 have h0:=h.t0
 refine ⟨by omega,by omega,?_⟩
 rw [h.run,h.drop ht,chkGo,if_neg (by rw [hb];decide),hn];dsimp only;rw [if_neg (uc hh),show (t+1).toNat=t.toNat+1 by omega]
theorem CJ.done (h:CJ sh lk gs t) (ht:¬ t<(gs.length:Int)):chkU sh lk gs=(0,0,0):=by
 have h1:=h.tl
 rw [h.run,j8 W30];rfl
structure CN (ns nl:Nat) (g:Grf) (i:Int):Prop where
 i0:0≤i
 il:i≤(g.nodes.length:Int)
 run:badN ns nl g g.nodes 0=badN ns nl g (g.nodes.drop i.toNat) i
end
section
variable {ns nl:Nat} {g:Grf} {i:Int}
theorem CN.start (ns nl:Nat) (g:Grf):CN ns nl g 0:=⟨jz _,by omega,rfl⟩
theorem CN.drop (h:CN ns nl g i) (hi:i<(g.nodes.length:Int)):g.nodes.drop i.toNat=g.nodes.getD i.toNat ua::g.nodes.drop (i.toNat+1):=by
 have h0:=h.i0
 have hlt:i.toNat<g.nodes.length:=by omega
 rw [ki hlt,jc,jd hlt];rfl
theorem CN.bad (h:CN ns nl g i) (hi:i<(g.nodes.length:Int)) (hr:(!rightN ns nl g (g.nodes.getD i.toNat ua))=true):badN ns nl g g.nodes 0=some i:=by
 rw [h.run,h.drop hi,badN,if_neg (by simpa using hr)]
theorem CN.next (h:CN ns nl g i) (hi:i<(g.nodes.length:Int)) (hr:(!rightN ns nl g (g.nodes.getD i.toNat ua))=false):CN ns nl g (i+1):=by
 have h0:=h.i0
 refine ⟨by omega,by omega,?_⟩
 rw [h.run,h.drop hi,badN,if_pos (by simpa using hr),show (i+1).toNat=i.toNat+1 by omega]
theorem CN.done (h:CN ns nl g i) (hi:¬ i<(g.nodes.length:Int)):badN ns nl g g.nodes 0=none:=by
 have h1:=h.il
 rw [h.run,j8 W30];rfl
theorem Qg2 (h:badN ns nl g g.nodes 0=none) (hk:∀ j:Nat,0≤(g.nodes.getD j ua).kind):∀ j:Nat,j<g.nodes.length→∀ x∈flwL (g.nodes.getD j ua),0≤x∧x<(g.nodes.length:Int):=
 fun j hj=>(Q5i (Q3s h j hj) (hk j)).flw
end
def UnitW (gs:List Grf):Prop:=∀ a b:Nat,0≤((gs.getD a ua).nodes.getD b ua).kind∧0≤((gs.getD a ua).nodes.getD b ua).op∧((gs.getD a ua).nodes.getD b ua).op≤255
structure Bo where
 b:Bool
 deriving Inhabited,DecidableEq
def Bo.tl (x:Bo):List TC:=[.val (.bool x.b)]
def Bo.tc (x:Bo):Nat→TC:=nthT x.tl
abbrev Bo.rowR (l:List Bo):Reg:=rowOf 1 Bo.tc l
abbrev Bo.ownR (l:List Bo):Reg:=ownOf 4 1 Bo.tc l
theorem Q3t (l:List Bo) (k:Nat) (x:Bo):∀ i,i<(l.set k x).length→Bo.tc ((l.set k x).getD i ua)=updT (fun i=>Bo.tc (l.getD i ua)) k 0 [.bool x.b] i:=
 Za ua Bo.tc l k 0 x _ (fun j=>by rcases j with _ | j<;>simp [Bo.tc,Bo.tl,nthT,nth])
theorem Q7u {n:Nat}:∀ i,i<((jh n (Bo.mk false)).set 0 ⟨true⟩).length→Bo.tc (((jh n (Bo.mk false)).set 0 ⟨true⟩).getD i ua)=updT (fun _ j=>valT [jS false] j) 0 0 [jS true] i:=by
 intro i hi
 rw [Q3t _ _ _ i hi]
 have hi:i<n:=by simpa using hi
 unfold updT
 funext j
 have e:(jh n (Bo.mk false)).getD i ua=⟨false⟩:=by rw [jc,jX,if_pos hi];rfl
 simp only [e]
 first | rfl | (split<;>first | rfl | (rcases j with _ | j<;>rfl))
inductive Rch (l:List Nod):Nat→Prop
 | zero:Rch l 0
 | step {i:Nat} {x:Int} (t:Rch l i) (h:x∈flwL (l.getD i ua)):Rch l x.toNat
open Classical in
noncomputable def rchL (l:List Nod):List Bo:=(jB l.length).map fun i=>⟨decide (Rch l i)⟩
theorem Qo (l:List Nod):(rchL l).length=l.length:=by simp [rchL]
theorem Qip {l:List Nod} {i:Nat} (h:i<l.length):((rchL l).getD i ua).b=true↔Rch l i:=by
 unfold rchL
 rw [jc,jm,ko h]
 simp
def falses:List Bo→Nat
 | []=>0
 | ⟨true⟩::r=>falses r
 | ⟨false⟩::r=>falses r+1
theorem G7:∀ {l:List Bo} {i:Nat},i<l.length→(l.getD i ua).b=false→falses (l.set i ⟨true⟩)+1=falses l
 | [],_,h,_=>absurd h W162
 | ⟨b⟩::r,0,_,h=>by
   have:b=false:=h
   subst this;rfl
 | ⟨b⟩::r,i+1,h,hb=>by
   have:=G7 (l:=r) (i:=i) W200 (by simpa using hb)
   cases b<;>simp only [List.set_cons_succ,falses]<;>omega
theorem Zx:∀ l:List Bo,falses l≤l.length
 | []=>jn _
 | ⟨true⟩::r=>Nat.le_succ_of_le (Zx r)
 | ⟨false⟩::r=>Nat.succ_le_succ (Zx r)
theorem Qn {α:Type} (d:α) (l:List α) (i j:Nat) (x:α) (h:i<l.length):(l.set i x).getD j d=if j=i then x else l.getD j d:=by
 rw [jc,List.getElem?_set,jc]
 by_cases e:i=j
 ·subst e;simp [h]
 ·simp [e,Ne.symm e]
theorem Qc {α:Type} {l:List α} {i:Nat} {d:α} (h:i<l.length):l.getD i d=l[i]:=by rw [jc,jd h];rfl
structure SprJ (l:List Nod) (out:List Bo) (todo:List Int) (at_:Option (Int×Int)):Prop where
 len:out.length=l.length
 lo:∀ i,(out.getD i default).b=true→Rch l i
 td:∀ x∈todo,0≤x∧x<(l.length:Int)∧(out.getD x.toNat default).b=true
 z:(out.getD 0 default).b=true
 hi:∀ i,(out.getD i default).b=true→(∃ x∈todo,x.toNat=i)∨(∃ a j,at_=some (a,j)∧a.toNat=i)∨∀ x∈flwL (l.getD i default),(out.getD x.toNat default).b=true
 cur:∀ a j,at_=some (a,j)→0≤a∧a<(l.length:Int)∧(out.getD a.toNat default).b=true∧0≤j∧j≤((flwL (l.getD a.toNat default)).length:Int)∧∀ x∈(flwL (l.getD a.toNat default)).take j.toNat,(out.getD x.toNat default).b=true
theorem Qiq {α:Type} {l:List α} {d:α} (h:0<l.length):l.getD (l.length-1) d∈l:=by
 rw [jc,jd W30]
 exact jN _
theorem mem_take_last {l:List Int} {x:Int} (h:x∈l):x∈l.take (l.length-1)∨x=l.getD (l.length-1) 0:=by
 obtain ⟨i,hi,rfl⟩:=List.mem_iff_getElem.1 h
 by_cases e:i<l.length-1
 ·left
  exact List.mem_take_iff_getElem.2 ⟨i,by omega,rfl⟩
 ·right
  have:i=l.length-1:=by omega
  subst this
  rw [jc,jd hi];rfl
theorem Y3 {l:List Int} {j:Int} (h:j<(l.length:Int)) (h0:0≤j):l.getD j.toNat 0∈l:=by
 rw [Qc W30];exact jN _
theorem SprJ.start {l:List Nod} (h:0<l.length):SprJ l ((jh l.length (Bo.mk false)).set 0 (Bo.mk true)) [0] none:=by
 have g:∀ i,(((jh l.length (Bo.mk false)).set 0 (Bo.mk true)).getD i ua).b=true→i=0:=fun i hi=>by
  rw [Qn _ _ _ _ _ W200] at hi
  by_cases e:i=0
  ·exact e
  ·rw [if_neg e,jc,jX] at hi
   split at hi
   ·simp at hi
   ·exact absurd hi W164
 have z:(((jh l.length (Bo.mk false)).set 0 (Bo.mk true)).getD 0 ua).b=true:=by rw [Qn _ _ _ _ _ W200,if_pos rfl]
 refine ⟨by simp,fun i hi=>by rw [g i hi];exact .zero,fun x hx=>?_,z,fun i hi=>?_,fun a j e=>by cases e⟩
 ·rw [jH] at hx;subst hx
  exact ⟨by omega,by omega,z⟩
 ·exact .inl ⟨0,by simp,by rw [g i hi];rfl⟩
theorem SprJ.pop {l:List Nod} {out:List Bo} {todo:List Int} (h:SprJ l out todo none) (h0:0<todo.length):SprJ l out (todo.take (todo.length-1)) (some (todo.getD (todo.length-1) 0,0)):=by
 have hm:=h.td _ (Qiq (d:=0) h0)
 refine ⟨h.len,h.lo,fun x hx=>h.td x (List.mem_of_mem_take hx),h.z,fun i hi=>?_,fun a j e=>?_⟩
 ·rcases h.hi i hi with ⟨x,hx,rfl⟩ | ⟨a,j,e,_⟩ | h3
  ·rcases mem_take_last hx with h1 | h1
   ·exact .inl ⟨x,h1,rfl⟩
   ·exact .inr (.inl ⟨_,_,rfl,by rw [h1]⟩)
  ·cases e
  ·exact .inr (.inr h3)
 ·cases e
  exact ⟨hm.1,hm.2.1,hm.2.2,jz _,by omega,fun x hx=>by simp at hx⟩
theorem SprJ.popI {l:List Nod} {out:List Bo} {todo:List Int} (h:SprJ l out todo none) (h0:0<todo.length):SprJ l out (todo.take (todo.length-1)) (some (todo.getD ((todo.length:Int)-(1:Int)).toNat 0,0)):=by
 rw [show ((todo.length:Int)-(1:Int)).toNat=todo.length-1 by omega];exact h.pop h0
theorem SprJ.old {l:List Nod} {out:List Bo} {todo:List Int} {a j:Int} (h:SprJ l out todo (some (a,j))) (hj:j<((flwL (l.getD a.toNat ua)).length:Int)) (ho:(out.getD ((flwL (l.getD a.toNat ua)).getD j.toNat 0).toNat ua).b=true):SprJ l out todo (some (a,j+1)):=by
 obtain ⟨c1,c2,c3,c4,c5,c6⟩:=h.cur a j rfl
 refine ⟨h.len,h.lo,h.td,h.z,fun i hi=>?_,fun a' j' e=>?_⟩
 ·rcases h.hi i hi with h1 | ⟨a',j',e,e2⟩ | h3
  ·exact .inl h1
  ·cases e;exact .inr (.inl ⟨_,_,rfl,e2⟩)
  ·exact .inr (.inr h3)
 ·cases e
  refine ⟨c1,c2,c3,by omega,by omega,fun x hx=>?_⟩
  rw [show (j+1).toNat=j.toNat+1 by omega,jM W30,kH] at hx
  rcases hx with hx | hx
  ·exact c6 x hx
  ·rw [jH] at hx;subst hx
   rw [Qc (l:=flwL (l.getD a.toNat ua)) W30] at ho;exact ho
theorem SprJ.new {l:List Nod} {out:List Bo} {todo:List Int} {a j:Int} (hq:∀ i<l.length,∀ x∈flwL (l.getD i ua),0≤x∧x<(l.length:Int)) (h:SprJ l out todo (some (a,j))) (hj:j<((flwL (l.getD a.toNat ua)).length:Int)) :
 SprJ l (out.set ((flwL (l.getD a.toNat ua)).getD j.toNat 0).toNat ⟨true⟩) (todo++[(flwL (l.getD a.toNat ua)).getD j.toNat 0]) (some (a,j+1)):=by
 obtain ⟨c1,c2,c3,c4,c5,c6⟩:=h.cur a j rfl
 have hmem:(flwL (l.getD a.toNat ua)).getD j.toNat 0∈flwL (l.getD a.toNat ua):=by
  rw [Qc (l:=flwL (l.getD a.toNat ua)) W30];exact jN _
 have hr:=hq a.toNat W30 _ hmem
 generalize hk:(flwL (l.getD a.toNat ua)).getD j.toNat 0=k at *
 have hlen:=h.len
 have up:∀ i,(out.getD i ua).b=true→((out.set k.toNat ⟨true⟩).getD i ua).b=true:=fun i hi=>by
  rw [Qn _ _ _ _ _ W30];split
  ·rfl
  ·exact hi
 have kk:((out.set k.toNat ⟨true⟩).getD k.toNat ua).b=true:=by rw [Qn _ _ _ _ _ W30,if_pos rfl]
 refine ⟨by simp [hlen],fun i hi=>?_,fun x hx=>?_,up _ h.z,fun i hi=>?_,fun a' j' e=>?_⟩
 ·rw [Qn _ _ _ _ _ W30] at hi
  by_cases e:i=k.toNat
  ·subst e;exact .step (h.lo _ c3) hmem
  ·rw [if_neg e] at hi;exact h.lo i hi
 ·rcases List.mem_append.1 hx with hx | hx
  ·have:=h.td x hx;exact ⟨this.1,this.2.1,up _ this.2.2⟩
  ·rw [jH] at hx;subst hx;exact ⟨hr.1,hr.2,kk⟩
 ·rw [Qn _ _ _ _ _ W30] at hi
  by_cases e:i=k.toNat
  ·subst e;exact .inl ⟨k,by simp,rfl⟩
  ·rw [if_neg e] at hi
   rcases h.hi i hi with ⟨x,h1,h2⟩ | ⟨a',j',e,e2⟩ | h3
   ·exact .inl ⟨x,jU _ h1,h2⟩
   ·cases e;exact .inr (.inl ⟨_,_,rfl,e2⟩)
   ·exact .inr (.inr fun x hx=>up _ (h3 x hx))
 ·cases e
  refine ⟨c1,c2,up _ c3,by omega,by omega,fun x hx=>?_⟩
  rw [show (j+1).toNat=j.toNat+1 by omega,jM W30,kH] at hx
  rcases hx with hx | hx
  ·exact up _ (c6 x hx)
  ·rw [jH] at hx;subst hx
   rw [Qc (l:=flwL (l.getD a.toNat ua)) W30] at hk
   rw [show (flwL (l.getD a.toNat ua))[j.toNat]=k from hk];exact kk
theorem SprJ.close {l:List Nod} {out:List Bo} {todo:List Int} {a j:Int} (h:SprJ l out todo (some (a,j))) (hj:((flwL (l.getD a.toNat ua)).length:Int)≤j):SprJ l out todo none:=by
 obtain ⟨c1,c2,c3,c4,c5,c6⟩:=h.cur a j rfl
 refine ⟨h.len,h.lo,h.td,h.z,fun i hi=>?_,fun a j e=>by cases e⟩
 rcases h.hi i hi with h1 | ⟨a',j',e,e2⟩ | h3
 ·exact .inl h1
 ·cases e
  subst e2
  refine .inr (.inr fun x hx=>c6 x ?_)
  rw [j7 W30];exact hx
 ·exact .inr (.inr h3)
theorem SprJ.done {l:List Nod} {out:List Bo} (h:SprJ l out [] none) (hq:∀ i<l.length,∀ x∈flwL (l.getD i ua),0≤x∧x<(l.length:Int)):out=rchL l:=by
 have hr:∀ i,Rch l i→(out.getD i ua).b=true:=fun i t=>by
  induction t with
  | zero=>exact h.z
  | @step i x t hx ih =>
    rcases h.hi i ih with ⟨y,hy,_⟩ | ⟨a,j,e,_⟩ | h3
    ·cases hy
    ·cases e
    ·exact h3 x hx
 refine List.ext_getElem (by rw [h.len,Qo]) fun i h1 h2=>?_
 have e1:(out.getD i ua)=out[i]:=by rw [jc,jd h1];rfl
 have e2:((rchL l).getD i ua)=(rchL l)[i]:=by rw [jc,jd h2];rfl
 rw [← e1,← e2]
 have e3:(out.getD i ua).b=((rchL l).getD i ua).b:=by
  rw [Bool.eq_iff_iff,Qip (by rw [← h.len];exact h1)]
  exact ⟨h.lo i,hr i⟩
 cases hx:out.getD i ua;cases hy:(rchL l).getD i ua
 rw [hx,hy] at e3
 exact congrArg Bo.mk e3
structure Iln where
 l:List Int
 deriving Inhabited,DecidableEq
def Iln.tl (x:Iln):List TC:=[.sub 3 1 x.l.length (fun i=>i64T (x.l.getD i 0))]
def Iln.tc (x:Iln):Nat→TC:=nthT x.tl
abbrev Iln.rowR (l:List Iln):Reg:=rowOf 1 Iln.tc l
abbrev Iln.ownR (l:List Iln):Reg:=ownOf 49 1 Iln.tc l
def ahd1 (out:List Iln) (i x:Int):List Iln:=out.set x.toNat ⟨(out.getD x.toNat ua).l++[i]⟩
def ahdN (l:List Nod):Nat→List Iln
 | 0=>jh l.length ⟨[]⟩
 | i+1=>(flwL (l.getD i ua)).foldl (fun o x=>ahd1 o i x) (ahdN l i)
def ahdJ (l:List Nod) (i j:Nat):List Iln:=((flwL (l.getD i ua)).take j).foldl (fun o x=>ahd1 o i x) (ahdN l i)
def aheadL (l:List Nod):List Iln:=ahdN l l.length
theorem Qg3 (l:List Nod) (i:Nat):ahdJ l i 0=ahdN l i:=by simp [ahdJ]
theorem Qg4 {l:List Nod} {i j:Nat} (h:j<(flwL (l.getD i ua)).length):ahdJ l i (j+1)=ahd1 (ahdJ l i j) i ((flwL (l.getD i ua)).getD j 0):=by
 unfold ahdJ
 rw [jM h,List.foldl_append,Qc h];rfl
theorem Qg5 {l:List Nod} {i j:Nat} (h:(flwL (l.getD i ua)).length≤j):ahdJ l i j=ahdN l (i+1):=by
 unfold ahdJ;rw [j7 h];rfl
theorem Qg6 {l:List Nod} {i j:Int} (hi:0≤i) (hj:0≤j) (h:j<((flwL (l.getD i.toNat ua)).length:Int)):ahd1 (ahdJ l i.toNat j.toNat) i ((flwL (l.getD i.toNat ua)).getD j.toNat 0)=ahdJ l i.toNat (j+1).toNat:=by
 rw [show (j+1).toNat=j.toNat+1 by omega,Qg4 W30,show ((i.toNat:Nat):Int)=i by omega]
theorem Qlq (o:List Iln) (i x:Int) (h:x.toNat<o.length):∀ j,j<(ahd1 o i x).length→Iln.tc ((ahd1 o i x).getD j ua)=if j=x.toNat then Iln.tc ⟨(o.getD x.toNat ua).l++[i]⟩ else Iln.tc (o.getD j ua):=by
 intro j hj
 unfold ahd1
 rw [Qn _ _ _ _ _ h]
 split<;>rfl
theorem Q5j (o:List Iln) (i x:Int):(ahd1 o i x).length=o.length:=by simp [ahd1]
theorem Q5k (i:Int):∀ (xs:List Int) (o:List Iln),(xs.foldl (fun o x=>ahd1 o i x) o).length=o.length
 | [],_=>rfl
 | x::r,o=>by rw [List.foldl_cons,Q5k i r,Q5j]
theorem Q2a (l:List Nod):∀ n,(ahdN l n).length=l.length
 | 0=>by simp [ahdN]
 | n+1=>by rw [ahdN,Q5k,Q2a l n]
theorem Qay (l:List Nod) (i j:Nat):(ahdJ l i j).length=l.length:=by unfold ahdJ;rw [Q5k,Q2a]
theorem Qei {o:List Iln} {i x:Int} {m:Nat} (h:∀ k:Nat,(o.getD k ua).l.length≤m) (k:Nat):((ahd1 o i x).getD k ua).l.length≤m+1:=by
 unfold ahd1
 by_cases e:x.toNat<o.length
 ·rw [Qn _ _ _ _ _ e]
  split
  ·have:=h x.toNat;rw [jt,kf];omega
  ·have:=h k;omega
 ·rw [List.set_eq_of_length_le W30];have:=h k;omega
theorem Q2b (i:Int):∀ (xs:List Int) (o:List Iln) (m:Nat),(∀ k:Nat,(o.getD k ua).l.length≤m)→∀ k:Nat,((xs.foldl (fun o x=>ahd1 o i x) o).getD k ua).l.length≤m+xs.length
 | [],_,m,h=>h
 | x::r,o,m,h=>fun k=>by
   have:=Q2b i r (ahd1 o i x) (m+1) (Qei h) k
   rw [List.foldl_cons];simp only [j6];omega
theorem Jh (l:List Nod):∀ (n k:Nat),((ahdN l n).getD k ua).l.length≤2 * n
 | 0,k=>by
   unfold ahdN
   rw [jc,jX]
   split
   ·simp
   ·simp;rfl
 | n+1,k=>by
   have h1:=Q2b n (flwL (l.getD n ua)) (ahdN l n) (2 * n) (Jh l n) k
   have h2:=Yz (l.getD n ua)
   unfold ahdN;omega
theorem Qej (l:List Nod) (i j k:Nat):((ahdJ l i j).getD k ua).l.length≤2 * i+2:=by
 have h1:=Q2b i ((flwL (l.getD i ua)).take j) (ahdN l i) (2 * i) (Jh l i) k
 have h2:=Yz (l.getD i ua)
 have h3:=jQ (i:=j) (l:=flwL (l.getD i ua))
 unfold ahdJ;omega
theorem Qir {o:List Iln} {i x:Int} (hx:0≤x∧x.toNat<o.length) (k:Nat) (y:Int):y∈((ahd1 o i x).getD k ua).l↔y∈(o.getD k ua).l∨(y=i∧k=x.toNat):=by
 unfold ahd1
 rw [Qn _ _ _ _ _ hx.2]
 by_cases e:k=x.toNat
 ·subst e;simp
 ·simp [e]
theorem Qaz (i:Int) (n:Nat):∀ (xs:List Int) (o:List Iln),o.length=n→(∀ x∈xs,0≤x∧x<(n:Int))→∀ (k:Nat) (y:Int),y∈((xs.foldl (fun o x=>ahd1 o i x) o).getD k ua).l↔y∈(o.getD k ua).l∨(y=i∧(k:Int)∈xs)
 | [],o,_,_,k,y=>by simp
 | x::r,o,ho,hx,k,y=>by
   have h0:=hx x ke
   rw [List.foldl_cons,Qaz i n r _ (by rw [Q5j];exact ho) (fun z hz=>hx z (jW _ hz)) k y,Qir ⟨h0.1,by omega⟩]
   simp only [kD]
   constructor
   ·rintro ((h | ⟨h1,h2⟩) | ⟨h1,h2⟩)
    ·exact .inl h
    ·exact .inr ⟨h1,.inl W30⟩
    ·exact .inr ⟨h1,.inr h2⟩
   ·rintro (h | ⟨h1,h2 | h2⟩)
    ·exact .inl (.inl h)
    ·exact .inl (.inr ⟨h1,by omega⟩)
    ·exact .inr ⟨h1,h2⟩
theorem Qb0 {l:List Nod} (hq:∀ i:Nat,i<l.length→∀ x∈flwL (l.getD i ua),0≤x∧x<(l.length:Int)):∀ n,n≤l.length→∀ (k:Nat) (y:Int),y∈((ahdN l n).getD k ua).l↔0≤y∧y<(n:Int)∧(k:Int)∈flwL (l.getD y.toNat ua)
 | 0,_,k,y=>by
   have:((ahdN l 0).getD k ua).l=[]:=kt (by have:=Jh l 0 k;omega)
   rw [this];simp;omega
 | n+1,hn,k,y=>by
   unfold ahdN
   rw [Qaz n l.length _ _ (Q2a l n) (hq n W30) k y,Qb0 hq n W30 k y]
   constructor
   ·rintro (⟨h1,h2,h3⟩ | ⟨h1,h2⟩)
    ·exact ⟨h1,by omega,h3⟩
    ·subst h1;exact ⟨by omega,by omega,h2⟩
   ·rintro ⟨h1,h2,h3⟩
    by_cases e:y=(n:Int)
    ·subst e;exact .inr ⟨rfl,h3⟩
    ·exact .inl ⟨h1,by omega,h3⟩
theorem G8 {l:List Nod} (hq:∀ i:Nat,i<l.length→∀ x∈flwL (l.getD i ua),0≤x∧x<(l.length:Int)) (k:Nat) (y:Int):y∈((aheadL l).getD k ua).l↔0≤y∧y<(l.length:Int)∧(k:Int)∈flwL (l.getD y.toNat ua):=Qb0 hq _ (jn _) k y
def hpos (l:List Int):Prop:=∀ x∈l,0≤x∧x<64
def rdsQ (X:Ext) (V:List Hdl):Prop:=∀ l∈rds X V,hpos l
def thQ (ns:List Nod):Prop:=∀ i:Nat,i<ns.length→(ns.getD i ua).kind=5→0≤(ns.getD i ua).thing∧(ns.getD i ua).thing<64
theorem Qis:hpos []:=fun x h=>by cases h
theorem Qit {nd:Nod} {l nw:List Int} (h:nowH nd l=some nw) (hl:hpos l) (ht:nd.kind=5→0≤nd.thing∧nd.thing<64):hpos nw:=by
 unfold nowH at h
 split at h
 ·rename_i e
  cases h
  intro x hx
  rcases List.mem_append.1 hx with q | q
  ·exact hl x q
  ·rw [jH] at q;subst q;exact ht e
 ·split at h
  ·split at h
   ·cases h
   ·cases h;exact fun x hx=>hl x (List.mem_of_mem_take hx)
  ·split at h
   ·cases h
   ·cases h;exact hl
structure HJt (ns:List Nod) (k:Int) (X:Ext) (V:List Hdl) (n:Nat) (F:HF) (T:List Int):Prop extends HJ ns k X V n F T where
 q:rdsQ X V
structure HKt (ns:List Nod) (k:Int) (nd:Nod) (nw:List Int) (i:Int) (X:Ext) (V:List Hdl) (n:Nat) (F:HF) (T:List Int):Prop extends HK ns k nd nw i X V n F T where
 q:rdsQ X V
 nq:hpos nw
theorem HJt.start {ns:List Nod} (h:1≤ns.length) (X:Ext):HJt ns 0 X (jh ns.length Hdl.none) 1 (fun q=>if q=0 then some true else none) [0]:=
 ⟨HJ.start h X,by
  unfold rdsQ;rw [Q5g]
  intro l hl;rw [List.eq_of_mem_replicate hl];exact Qis⟩
section
variable {ns:List Nod} {k:Int} {X:Ext} {V:List Hdl} {n:Nat} {F:HF} {T:List Int}
theorem HJt.inner (h:HJt ns k X V n F T) (ht:thQ ns) (hk:k<(T.length:Int)) {nw:List Int} (hn:nowH (ns.getD (T.getD k.toNat 0).toNat ua) (rd X (V.getD (T.getD k.toNat 0).toNat ua).v)=some nw) :
 HKt ns k (ns.getD (T.getD k.toNat 0).toNat ua) nw 0 X V n F T:=
 ⟨h.toHJ.inner hk hn,h.q,Qit hn (by
  rw [← h.toHJ.get hk]
  have hat:=h.toHJ.at_ hk
  have hl:(T.getD k.toNat 0).toNat<(rds X V).length:=by rw [Jk,h.toHJ.len];omega
  rw [jc,jd hl]
  exact h.q _ (jN hl)) (ht _ (by have:=h.toHJ.at_ hk;omega))⟩
theorem HJt.fin (h:HJt ns k X V n F T) (hN:ns.length≤4096):(V.map fun v=>Iln.mk (rd X v.v)).length=ns.length∧∀ i:Nat,i<ns.length→hpos ((V.map fun v=>Iln.mk (rd X v.v)).getD i ua).l∧((V.map fun v=>Iln.mk (rd X v.v)).getD i ua).l.length≤4096:=by
 have hl:=h.toHJ.len
 refine ⟨by rw [jP,hl],fun i hi=>?_⟩
 have e:((V.map fun v=>Iln.mk (rd X v.v)).getD i ua).l=(rds X V).getD i []:=by
  rw [Gh X V i W30,jc,jm,jd (by omega:i<V.length),jc,jd (by omega:i<V.length)]
  rfl
 rw [e]
 refine ⟨?_,?_⟩
 ·have hl2:i<(rds X V).length:=by rw [Jk];omega
  rw [jc,jd hl2]
  exact h.q _ (jN hl2)
 ·have:=h.toHJ.inv.short i
  have:=h.kn
  have:=h.k0
  omega
end
section
variable {ns:List Nod} {k:Int} {nd:Nod} {nw:List Int} {i:Int} {X:Ext} {V:List Hdl} {n:Nat} {F:HF} {T:List Int}
theorem HKt.put (h:HKt ns k nd nw i X V n F T) (hi:i<((flwL nd).length:Int)) (hq:∀ x∈flwL nd,0≤x∧x<(ns.length:Int)) (hf:(!(F ((flwL nd).getD i.toNat 0)).getD false)=true) {X':Ext} {A:Option Addr} {c:Nat} (hin:X.Into X')
 (ht:X'.Tab (.slice A nw.length c) 1 nw.length (fun j=>i64T (nw.getD j 0))) :
 HKt ns k nd nw (i+1) X' (V.set ((flwL nd).getD i.toNat 0).toNat ⟨A,nw.length,c⟩) (n+1) (fun a=>if a=(flwL nd).getD i.toNat 0 then some true else F a) (T++[(flwL nd).getD i.toNat 0]):=
 ⟨h.toHK.put hi hq hf hin ht,by
  unfold rdsQ
  rw [(Qau hin h.all ht ((flwL nd).getD i.toNat 0).toNat).2]
  intro l hl
  rcases ku hl with q | q
  ·exact h.q l q
  ·rw [q];exact h.nq,h.nq⟩
theorem HKt.skip (h:HKt ns k nd nw i X V n F T) (hi:i<((flwL nd).length:Int)) (hq:∀ x∈flwL nd,0≤x∧x<(ns.length:Int)) (hf:(!(F ((flwL nd).getD i.toNat 0)).getD false)=false) (he:(!decide (rd X (V.getD ((flwL nd).getD i.toNat 0).toNat ua).v=nw))=false) :
 HKt ns k nd nw (i+1) X V n F T:=⟨h.toHK.skip hi hq hf he,h.q,h.nq⟩
theorem HKt.done (h:HKt ns k nd nw i X V n F T) (hi:¬ i<((flwL nd).length:Int)):HJt ns (k+1) X V n F T:=⟨h.toHK.done hi,h.q⟩
end
theorem Qlr (X:Ext) (V:List Hdl):∀ i:Nat,i<(V.map fun v=>Iln.mk (rd X v.v)).length→((V.map fun v=>Iln.mk (rd X v.v)).getD i ua).tc=(Iln.mk (rd X (V.getD i ua).v)).tc:=fun i hi=>by
 have hi:i<V.length:=by simpa using hi
 rw [jc,jm,jd hi,jc,jd hi]
 rfl
theorem Qcv:IntKind.u32.min=0:=by decide
theorem Qcw:IntKind.u32.max=4294967295:=by decide
def lsQ (l:Int) (o:List Int):Prop:=(l≠0→1≤o.length)∧∀ x∈o,0≤x∧x≤255
theorem Qoa {n:Int} (h:0≤n∧n<4294967296):IntKind.u32.wrap n=n:=by
 simp only [IntKind.wrap,IntKind.signed,IntKind.bits]
 simp;omega
theorem Qob {a b:Int} (ha:0≤a∧a<4294967296) (hb:0≤b∧b<4294967296):0≤bits km jv a b∧bits km jv a b≤b∧bits km jv a b≤a:=by
 obtain ⟨n,rfl⟩:=Int.eq_ofNat_of_zero_le ha.1
 obtain ⟨m,rfl⟩:=Int.eq_ofNat_of_zero_le hb.1
 have e:bits km jv (n:Int) (m:Int)=((n &&& m:Nat):Int):=by
  have h1:(BitVec.ofInt 32 (n:Int)).toNat=n:=by rw [BitVec.ofInt_natCast,BitVec.toNat_ofNat];exact Nat.mod_eq_of_lt W30
  have h2:(BitVec.ofInt 32 (m:Int)).toNat=m:=by rw [BitVec.ofInt_natCast,BitVec.toNat_ofNat];exact Nat.mod_eq_of_lt W30
  show IntKind.u32.wrap ((BitVec.ofInt 32 (n:Int) &&& BitVec.ofInt 32 (m:Int)).toNat:Int)=_
  rw [BitVec.toNat_and,h1,h2]
  have:n &&& m≤n:=Nat.and_le_left
  exact Qoa W30
 rw [e]
 have h1:n &&& m≤n:=Nat.and_le_left
 have h2:n &&& m≤m:=Nat.and_le_right
 omega
structure LsJ (l:Int) (x:List Int×Int):Prop where
 lo:0≤x.2∧x.2<4294967296
 sum:(x.1.length:Int)+x.2≤l
 one:1≤x.1.length∨x.2=l
 rng:∀ y∈x.1,0≤y∧y≤255
theorem LsJ.start {l:Int} (h:0≤l∧l<4294967296):LsJ l ([],l):=⟨h,by simp,.inr rfl,fun y h=>by cases h⟩
theorem LsJ.next {l:Int} {x:List Int×Int} (h:LsJ l x) (hn:(!decide (x.2=(0:Int)))=true) {k:Int} (hk:0≤k∧k≤255):LsJ l (x.1++[k],bits km jv x.2 (x.2-1))∧(bits km jv x.2 (x.2-1)).toNat<x.2.toNat:=by
 have hn:x.2≠0:=by simpa using hn
 have h0:=h.lo
 have hs:=h.sum
 have z:=Qob (a:=x.2) (b:=x.2-1) h0 W30
 refine ⟨⟨⟨z.1,by omega⟩,by simp;omega,.inl W162,fun y hy=>?_⟩,by omega⟩
 rcases List.mem_append.1 hy with q | q
 ·exact h.rng y q
 ·rw [jH] at q;subst q;exact hk
theorem LsJ.done {l:Int} {x:List Int×Int} (h:LsJ l x) (hn:(!decide (x.2=(0:Int)))=false):lsQ l x.1:=by
 have hn:x.2=0:=by simpa using hn
 refine ⟨fun hl=>?_,h.rng⟩
 rcases h.one with q | q
 ·exact q
 ·omega
end Go.Proofs.YtnddggenhefaeaaGreatDoor
end
namespace Go.Dm
structure Gr where
 n:Nat
 pre:Nat→List Nat
 ord:List Nat
 pl:Nat→Nat
structure Gr.Ok (g:Gr):Prop where
 lt:∀ m,m∈g.ord→m<g.n
 root:0∈g.ord
 rootP:g.pl 0=0
 pos:∀ m,m∈g.ord→m≠0→0<g.pl m
 inj:∀ a b,a∈g.ord→b∈g.ord→g.pl a=g.pl b→a=b
 closed:∀ p q,p∈g.ord→q<g.n→p∈g.pre q→q∈g.ord
abbrev Tree:=Nat→Option Nat
inductive Anc (o:Tree):Nat→Nat→Prop
 | refl (m:Nat):Anc o m m
 | up {m p a:Nat} (h0:m≠0) (h:o m=some p) (t:Anc o p a):Anc o m a
inductive Pth (g:Gr):List Nat→Nat→Nat→Prop
 | nil:Pth g [0] 0 0
 | snoc {l:List Nat} {k p q:Nat} (t:Pth g l k p) (hq:q<g.n) (h:p∈g.pre q):Pth g (q::l) (k+if g.pl p<g.pl q then 0 else 1) q
inductive Wy (g:Gr) (b:Nat):Nat→Prop
 | base:Wy g b b
 | step {p q:Nat} (t:Wy g b p) (hq:q<g.n) (h:p∈g.pre q) (hl:g.pl b<g.pl q):Wy g b q
def Dom (g:Gr) (d m:Nat):Prop:=∀ l k,Pth g l k m→d∈l
variable {g:Gr} {o:Tree}
theorem Pth.mem (hg:g.Ok) {l:List Nat} {k m:Nat} (h:Pth g l k m):m∈g.ord:=by
 induction h with
 | nil=>exact hg.root
 | snoc t hq h ih=>exact hg.closed _ _ ih hq h
theorem Pth.all (hg:g.Ok) {l:List Nat} {k m:Nat} (h:Pth g l k m):∀ x∈l,x∈g.ord:=by
 induction h with
 | nil=>intro x hx;simp at hx;subst hx;exact hg.root
 | snoc t hq h ih =>
   intro x hx
   rcases List.mem_cons.1 hx with rfl | hx
   ·exact hg.closed _ _ (t.mem hg) hq h
   ·exact ih x hx
theorem Pth.len {l:List Nat} {k m:Nat} (h:Pth g l k m):k+1≤l.length:=by
 induction h with
 | nil=>simp
 | snoc t hq h ih=>simp only [j6];split<;>omega
theorem Pth.cut {l:List Nat} {k m:Nat} (h:Pth g l k m) {q:Nat} (hq:q∈l):∃ l' k',Pth g l' k' q∧l' <:+ l∧k'≤k:=by
 induction h with
 | nil=>simp at hq;subst hq;exact ⟨_,_,.nil,List.suffix_refl _,jn _⟩
 | @snoc l k p r t hr h ih =>
   rcases List.mem_cons.1 hq with rfl | hq
   ·exact ⟨_,_,.snoc t hr h,List.suffix_refl _,jn _⟩
   ·obtain ⟨l',k',h1,h2,h3⟩:=ih hq
    exact ⟨l',k',h1,h2.trans (List.suffix_cons _ _),by omega⟩
theorem Pth.simple {l:List Nat} {k m:Nat} (h:Pth g l k m):∃ l' k',Pth g l' k' m∧l'.Nodup∧∀ x∈l',x∈l:=by
 induction h with
 | nil=>exact ⟨_,_,.nil,by simp,fun _ h=>h⟩
 | @snoc l k p q t hq h ih =>
   obtain ⟨l',k',h1,h2,h3⟩:=ih
   by_cases e:q∈l'
   ·obtain ⟨l'',k'',g1,g2,-⟩:=h1.cut e
    exact ⟨l'',k'',g1,g2.sublist.nodup h2,fun x hx=>jW _ (h3 x (g2.subset hx))⟩
   ·refine ⟨q::l',_,.snoc h1 hq h,List.nodup_cons.2 ⟨e,h2⟩,fun x hx=>?_⟩
    rcases List.mem_cons.1 hx with rfl | hx
    ·exact ke
    ·exact jW _ (h3 x hx)
theorem Q8v:∀ (n:Nat) (l:List Nat),l.Nodup→(∀ x∈l,x<n)→l.length≤n
 | 0,l,_,h=>by
   cases l with
   | nil=>simp
   | cons x r=>exact absurd (h x ke) W30
 | n+1,l,hn,h=>by
   have h1:=Q8v n (l.erase n) (hn.erase n) (fun x hx=>by
    have h2:=(List.Nodup.mem_erase_iff hn).1 hx
    have h3:=h x h2.2
    have h4:x≠n:=h2.1
    omega)
   have h2:=List.length_erase (a:=n) (l:=l)
   split at h2<;>omega
theorem Pth.few (hg:g.Ok) {l:List Nat} {k m:Nat} (h:Pth g l k m):∃ l' k',Pth g l' k' m∧k'+1≤g.n∧∀ x∈l',x∈l:=by
 obtain ⟨l',k',h1,h2,h3⟩:=h.simple
 have h4:=h1.len
 have h5:=Q8v g.n l' h2 (fun x hx=>hg.lt x (h1.all hg x hx))
 exact ⟨l',k',h1,by omega,h3⟩
structure Inv (g:Gr) (o:Tree) (r:Nat→Nat):Prop where
 root:o 0=some 0
 some_:∀ m,m≠0→(o m≠none↔m∈g.ord∧1≤r m)
 dec:∀ m p,m≠0→o m=some p→g.pl p<g.pl m∧o p≠none
 way:∀ m p,m≠0→o m=some p→Wy g p m
 B:∀ l k m,Pth g l k m→(m=0∨k+1≤r m)→∀ x,Anc o m x→x∈l
 A:∀ m d,o m≠none→Dom g d m→Anc o m d
theorem Anc.root {x:Nat} (h:Anc o 0 x):x=0:=by
 cases h with
 | refl=>rfl
 | up h0=>exact absurd rfl h0
variable {r:Nat→Nat}
theorem Inv.le (h:Inv g o r) {m x:Nat} (t:Anc o m x):x=m∨g.pl x<g.pl m:=by
 induction t with
 | refl=>exact .inl rfl
 | up h0 hp t ih =>
   have:=(h.dec _ _ h0 hp).1
   rcases ih with rfl | ih
   ·exact .inr this
   ·exact .inr W30
theorem Inv.mem (hg:g.Ok) (h:Inv g o r) {m:Nat} (hm:o m≠none):m∈g.ord:=by
 by_cases e:m=0
 ·subst e;exact hg.root
 ·exact ((h.some_ m e).1 hm).1
theorem Anc.trans {m x y:Nat} (h:Anc o m x) (h':Anc o x y):Anc o m y:=by
 induction h with
 | refl=>exact h'
 | up h0 hp t ih=>exact .up h0 hp (ih h')
theorem Wy.trans {a b c:Nat} (h:Wy g a b) (hl:a=b∨g.pl a<g.pl b) (h':Wy g b c):Wy g a c:=by
 induction h' with
 | base=>exact h
 | step t hq hp hl' ih=>exact .step ih hq hp (by rcases hl with rfl | hl<;>omega)
theorem Inv.wy (h:Inv g o r) {m x:Nat} (t:Anc o m x):Wy g x m:=by
 induction t with
 | refl=>exact .base
 | @up m p a h0 hp t ih =>
   refine ih.trans ?_ (h.way _ _ h0 hp)
   exact h.le t
theorem Pth.go {l:List Nat} {k b m:Nat} (h:Pth g l k b) (w:Wy g b m):∃ l' k',Pth g l' k' m∧∀ x∈l',x∈l∨g.pl b<g.pl x:=by
 induction w with
 | base=>exact ⟨l,k,h,fun _ hx=>.inl hx⟩
 | @step p q t hq hp hl ih =>
   obtain ⟨l',k',h1,h2⟩:=ih
   refine ⟨q::l',_,.snoc h1 hq hp,fun x hx=>?_⟩
   rcases List.mem_cons.1 hx with rfl | hx
   ·exact .inr hl
   ·exact h2 x hx
def Best (g:Gr) (o:Tree) (n c:Nat):Prop:=
 (∀ x,Anc o c x↔∀ p∈g.pre n,o p≠none→Anc o p x)∧o c≠none
def upd (o:Tree) (n c:Nat):Tree:=fun m=>if m=n then some c else o m
theorem Inv.meet_step (h:Inv g o r) {a b p:Nat} (h0:a≠0) (hp:o a=some p) (hl:g.pl b<g.pl a) (x:Nat):(Anc o a x∧Anc o b x)↔(Anc o p x∧Anc o b x):=by
 constructor
 ·rintro ⟨h1,h2⟩
  refine ⟨?_,h2⟩
  cases h1 with
  | refl =>
    rcases h.le h2 with e | e
    ·subst e;omega
    ·omega
  | up h0' hp' t=>rw [hp] at hp';cases hp';exact t
 ·rintro ⟨h1,h2⟩
  exact ⟨.up h0 hp h1,h2⟩
theorem Qcx {n c:Nat} (hn:n≠0) (h:Inv g o r) (hc:o c≠none) (hl:g.pl c<g.pl n) {m x:Nat} :
 (Anc o m x→¬ Anc o m n→Anc (upd o n c) m x):=by
 intro t
 induction t with
 | refl=>intro _;exact .refl _
 | @up m p a h0 hp t ih =>
   intro hno
   refine .up h0 ?_ (ih fun e=>hno (.up h0 hp e))
   have:m≠n:=fun e=>hno (e▸.refl _)
   rw [upd,if_neg this];exact hp
theorem anc_cases {n c:Nat} {m x:Nat} (t:Anc (upd o n c) m x):(Anc o m x)∨(Anc o m n∧Anc (upd o n c) c x):=by
 induction t with
 | refl=>exact .inl (.refl _)
 | @up m p a h0 hp t ih =>
   by_cases e:m=n
   ·subst e
    rw [upd,if_pos rfl] at hp
    cases hp
    exact .inr ⟨.refl _,t⟩
   ·rw [upd,if_neg e] at hp
    rcases ih with ih | ⟨i1,i2⟩
    ·exact .inl (.up h0 hp ih)
    ·exact .inr ⟨.up h0 hp i1,i2⟩
theorem Q8w {n c:Nat} (hn:n≠0) (h:Inv g o r) (hc:o c≠none) (hl:g.pl c<g.pl n) {x:Nat}:Anc (upd o n c) c x↔Anc o c x:=by
 have hno:¬ Anc o c n:=fun e=>by
  rcases h.le e with e | e
  ·subst e;omega
  ·omega
 constructor
 ·intro t
  rcases anc_cases t with t | ⟨t,-⟩
  ·exact t
  ·exact absurd t hno
 ·exact fun t=>Qcx hn h hc hl t hno
theorem Qoc {c m a:Nat} (t:Anc o m a):Anc (upd o a c) m a:=by
 induction t with
 | refl=>exact .refl _
 | @up m p a h0 hp t ih =>
   by_cases e:m=a
   ·subst e;exact .refl _
   ·exact .up h0 (by rw [upd,if_neg e];exact hp) ih
theorem Inv.turn (hg:g.Ok) (h:Inv g o r) {n c k:Nat} (hn:n≠0) (hm:n∈g.ord) (hb:Best g o n c) (hk:1≤k)
 (hlo:∀ m∈g.ord,m≠0→g.pl m<g.pl n→r m=k) (hhi:∀ m∈g.ord,m≠0→g.pl n≤g.pl m→r m+1=k)
 (hs:∃ p∈g.pre n,o p≠none∧g.pl p<g.pl n):Inv g (upd o n c) (fun m=>if m=n then k else r m):=by
 have hlt:=hg.lt n hm
 obtain ⟨p0,hp0,hs0,hl0⟩:=hs
 have hcp:∀ p∈g.pre n,o p≠none→Anc o p c:=(hb.1 c).1 (.refl c)
 have hl:g.pl c<g.pl n:=by
  rcases h.le (hcp p0 hp0 hs0) with e | e
  ·subst e;exact hl0
  ·omega
 have hsome:∀ m,o m≠none→upd o n c m≠none:=fun m e=>by
  unfold upd;split
  ·simp
  ·exact e
 have hr:∀ m∈g.ord,m≠0→(if m=n then k else r m)≤k:=fun m hm' h0=>by
  split
  ·exact jn _
  ·by_cases e:g.pl m<g.pl n
   ·exact Nat.le_of_eq (hlo m hm' h0 e)
   ·have:=hhi m hm' h0 W30;omega
 have hBn:∀ l j,Pth g l j n→j+1≤k→∀ x,Anc (upd o n c) n x→x∈l:=by
  intro l j hp hj x hx
  cases hp with
  | nil=>exact absurd rfl hn
  | @snoc l' j' p _ t hq hpre =>
    cases hx with
    | refl=>exact ke
    | up h0 hup t' =>
      rw [upd,if_pos rfl] at hup
      cases hup
      have ht:Anc o c x:=(Q8w hn h hb.2 hl).1 t'
      have hmem:=t.mem hg
      by_cases e0:p=0
      ·subst e0
       have:Anc o 0 x:=(hb.1 x).1 ht 0 hpre (by rw [h.root];simp)
       exact jW _ (h.B _ _ _ t (.inl rfl) x this)
      ·by_cases e:g.pl p<g.pl n
       ·have hrp:=hlo p hmem e0 e
        have:Anc o p x:=(hb.1 x).1 ht p hpre ((h.some_ p e0).2 ⟨hmem,by omega⟩)
        rw [if_pos e] at hj
        exact jW _ (h.B _ _ _ t (.inr W30) x this)
       ·rw [if_neg e] at hj
        have hrp:=hhi p hmem e0 W30
        have:Anc o p x:=(hb.1 x).1 ht p hpre ((h.some_ p e0).2 ⟨hmem,by omega⟩)
        exact jW _ (h.B _ _ _ t (.inr W30) x this)
 refine ⟨?_,?_,?_,?_,?_,?_⟩
 ·rw [upd,if_neg (Ne.symm hn)];exact h.root
 ·intro m h0
  by_cases e:m=n
  ·subst e;simp [upd,hm,hk]
  ·simp only [upd,if_neg e];exact h.some_ m h0
 ·intro m p h0 hp
  by_cases e:m=n
  ·subst e
   rw [upd,if_pos rfl] at hp;cases hp
   exact ⟨hl,hsome _ hb.2⟩
  ·rw [upd,if_neg e] at hp
   exact ⟨(h.dec m p h0 hp).1,hsome _ (h.dec m p h0 hp).2⟩
 ·intro m p h0 hp
  by_cases e:m=n
  ·subst e
   rw [upd,if_pos rfl] at hp;cases hp
   exact .step (h.wy (hcp p0 hp0 hs0)) hlt hp0 hl
  ·rw [upd,if_neg e] at hp
   exact h.way m p h0 hp
 ·intro l j m hp hj x hx
  by_cases e:m=n
  ·subst e
   rw [if_pos rfl] at hj
   exact hBn l j hp (hj.resolve_left hn) x hx
  ·rw [if_neg e] at hj
   rcases anc_cases hx with t | ⟨t,t'⟩
   ·exact h.B l j m hp hj x t
   ·have hin:n∈l:=h.B l j m hp hj n t
    obtain ⟨l',k',g1,g2,g3⟩:=hp.cut hin
    have hm0:m≠0:=fun e0=>by subst e0;exact hn t.root
    have h5:=hr m (hp.mem hg) hm0
    rw [if_neg e] at h5
    have h6:j+1≤r m:=hj.resolve_left hm0
    exact g2.subset (hBn l' k' g1 W30 x (.up hn (by rw [upd,if_pos rfl]) t'))
 ·intro m d hs' hd
  have hAn:Dom g d n→Anc (upd o n c) n d:=by
   intro hd
   by_cases e:d=n
   ·subst e;exact .refl _
   refine .up hn (by rw [upd,if_pos rfl]) ((Q8w hn h hb.2 hl).2 ((hb.1 d).2 fun p hp hps=>h.A p d hps fun l j t=>?_))
   rcases List.mem_cons.1 (hd _ _ (.snoc t hlt hp)) with e' | e'
   ·exact absurd e' e
   ·exact e'
  by_cases e:m=n
  ·subst e;exact hAn hd
  ·rw [upd,if_neg e] at hs'
   have t:=h.A m d hs' hd
   by_cases hno:Anc o m n
   ·by_cases hdn:Anc o n d
    ·-- d above n: then d rules n
     have hAd:Dom g d n:=by
      intro l j hp
      by_cases e':d=n
      ·subst e';cases hp with
       | nil=>exact absurd rfl hn
       | snoc=>exact ke
      obtain ⟨l',k',g1,g2⟩:=hp.go (h.wy hno)
      rcases g2 d (hd _ _ g1) with g2 | g2
      ·exact g2
      ·rcases h.le hdn with e2 | e2
       ·exact absurd e2 e'
       ·omega
     exact (Qoc hno).trans (hAn hAd)
    ·-- d between m and n
     clear hd hAn
     induction t with
     | refl=>exact .refl _
     | @up m p a h0 hp t ih =>
       refine .up h0 (by rw [upd,if_neg e];exact hp) ?_
       by_cases e2:p=n
       ·subst e2;exact absurd t hdn
       ·refine ih (h.dec _ _ h0 hp).2 e2 ?_ hdn
        cases hno with
        | refl=>exact absurd rfl e
        | up _ hp' t'=>rw [hp] at hp';cases hp';exact t'
   ·exact Qcx hn h hb.2 hl t hno
theorem Inv.still (hg:g.Ok) (h:Inv g o r) {n c p:Nat} (hn:n≠0) (hm:n∈g.ord) (hb:Best g o n c) (hp:o n=some p)
 (hall:∀ m∈g.ord,m≠0→g.n≤r m) (hs:∃ q∈g.pre n,o q≠none∧g.pl q<g.pl n):c=p:=by
 have hlt:=hg.lt n hm
 have hB:∀ l k m x,Pth g l k m→Anc o m x→x∈l:=by
  intro l k m x t a
  obtain ⟨l',k',h1,h2,h3⟩:=t.few hg
  refine h3 x (h.B _ _ _ h1 ?_ x a)
  by_cases e:m=0
  ·exact .inl e
  ·exact .inr (by have:=hall m (t.mem hg) e;omega)
 have hnp:o n≠none:=by rw [hp];simp
 obtain ⟨p0,hp0,hs0,hl0⟩:=hs
 have hl:g.pl c<g.pl n:=by
  rcases h.le ((hb.1 c).1 (.refl c) p0 hp0 hs0) with e | e
  ·subst e;exact hl0
  ·omega
 have h1:Anc o n c:=by
  refine h.A n c hnp fun l k t=>?_
  cases t with
  | nil=>exact absurd rfl hn
  | snoc t hq hpre =>
    refine jW _ (hB _ _ _ c t ((hb.1 c).1 (.refl c) _ hpre ?_))
    rename_i q
    by_cases e0:q=0
    ·rw [e0,h.root];simp
    ·exact (h.some_ q e0).2 ⟨t.mem hg,by have:=hall q (t.mem hg) e0;have:=hg.lt q (t.mem hg);omega⟩
 have h2:Anc o c p:=by
  refine (hb.1 p).2 fun q hq hqs=>h.A q p hqs fun l k t=>?_
  rcases List.mem_cons.1 (hB _ _ _ p (.snoc t hlt hq) (.up hn hp (.refl _))) with e | e
  ·have:=(h.dec n p hn hp).1;rw [e] at this;omega
  ·exact e
 have h3:Anc o p c:=by
  cases h1 with
  | refl=>omega
  | up _ hp' t=>rw [hp] at hp';cases hp';exact t
 have hc:=h.mem hg hb.2
 have hpm:=h.mem hg (h.dec n p hn hp).2
 rcases h.le h2 with e | e
 ·exact e.symm
 ·rcases h.le h3 with e' | e'
  ·exact e'
  ·omega
end Go.Dm
noncomputable section
namespace Go.Proofs.YtnddggenhefaeaaGreatDoor
open Go Go.Tx
structure Lz where
 w:Int
 deriving Inhabited,DecidableEq
def Lz.tl (x:Lz):List TC:=[.val (.int .u32 x.w)]
def Lz.tc (x:Lz):Nat→TC:=nthT x.tl
abbrev Lz.ownR (l:List Lz):Reg:=ownOf 215 1 Lz.tc l
theorem Qod (l:List Lz) (k:Nat) (x:Lz):∀ i,i<(l.set k x).length→Lz.tc ((l.set k x).getD i ua)=updT (fun i=>Lz.tc (l.getD i ua)) k 0 [.int .u32 x.w] i:=
 Za ua Lz.tc l k 0 x _ (fun j=>by rcases j with _ | j<;>simp [Lz.tc,Lz.tl,nthT,nth])
theorem Qls {n:Nat}:∀ i,i<(jh n (Lz.mk 0)).length→Lz.tc ((jh n (Lz.mk 0)).getD i ua)=valT [jg .u32 0]:=by
 intro i hi
 have hi:i<n:=by simpa using hi
 have e:(jh n (Lz.mk 0)).getD i ua=⟨0⟩:=by rw [jc,jX,if_pos hi];rfl
 rw [e]
 funext j
 first | rfl | (rcases j with _ | j<;>rfl)
theorem Q6v (n:Int):0≤IntKind.u32.wrap n∧IntKind.u32.wrap n<4294967296:=by
 have e:IntKind.u32.wrap n=n % 4294967296:=by simp [IntKind.wrap,IntKind.signed,IntKind.bits]
 rw [e];omega
theorem or_rng (a b:Int):0≤bits kK jv a b∧bits kK jv a b<4294967296:=Q6v _
theorem Qlt (a b:Int):0≤bits km jv a b∧bits km jv a b<4294967296:=Q6v _
def LzQ (l:List Lz):Prop:=∀ x∈l,0≤x.w∧x.w<4294967296
theorem LzQ.rep (n:Nat):LzQ (jh n (Lz.mk 0)):=fun x h=>by rw [List.eq_of_mem_replicate h];decide
theorem LzQ.set {l:List Lz} (h:LzQ l) {k:Nat} {x:Int} (hx:0≤x∧x<4294967296):LzQ (l.set k ⟨x⟩):=fun y hy=>by
 rcases ku hy with q | q
 ·exact h y q
 ·subst q;exact hx
theorem LzQ.at_ {l:List Lz} (h:LzQ l) {i:Nat} (hi:i<l.length):0≤(l.getD i ua).w∧(l.getD i ua).w<4294967296:=by
 rw [jc,jd hi];exact h _ (jN hi)
def flrL (n:Nod):List Int:=if n.kind=9 then [] else if n.kind=8 then [n.next,n.els] else [n.next]
theorem Qcy {n:Nod} (h:decide (n.kind=9)=true):flrL n=[]:=by
 unfold flrL;rw [if_pos (ub h)]
theorem Qcz {n:Nod} (h:decide (n.kind=9)=false) (h2:decide (n.kind=8)=true):flrL n=[n.next,n.els]:=by
 unfold flrL;rw [if_neg (uc h),if_pos (ub h2)]
theorem Qd0 {n:Nod} (h:decide (n.kind=9)=false) (h2:decide (n.kind=8)=false):flrL n=[n.next]:=by
 unfold flrL;rw [if_neg (uc h),if_neg (uc h2)]
theorem Q1j (n:Nod) (x:Int):x∈flrL n↔x∈flwL n:=by
 unfold flrL flwL
 split
 ·rfl
 ·by_cases h:n.kind=8
  ·by_cases e:n.els=n.next
   ·simp [h,e]
   ·simp [h,e]
  ·simp [h]
theorem Q2c (n:Nod):(flrL n).length≤2:=by
 unfold flrL;split
 ·simp
 ·split<;>simp
def vlL (v:Vl):List Int:=if v.slotted=true then [v.slot] else []
theorem Qoe {v:Vl} (h:v.slotted=true):vlL v=[v.slot]:=by unfold vlL;rw [if_pos h]
theorem Qqf {v:Vl} (l:List Int) (h:v.slotted=false):l++vlL v=l:=by unfold vlL;rw [if_neg W215,jZ]
def useL (n:Nod):List Int:=if n.kind=1 then vlL n.a++(if twoB n.op then vlL n.b else []) else if n.kind=3∨n.kind=4∨n.kind=7∨n.kind=8 then vlL n.a else []
theorem Qlu (v:Vl):([]++vlL v).length≤2:=by unfold vlL;split<;>simp
theorem Qof {n:Nod} (h:n.kind=1) (h2:twoB n.op=true):useL n=[]++vlL n.a++vlL n.b:=by unfold useL;rw [if_pos h,if_pos h2];rfl
theorem Qog {n:Nod} (h:n.kind=1) (h2:twoB n.op=false):useL n=[]++vlL n.a:=by unfold useL;rw [if_pos h,if_neg (by rw [h2];decide),jZ];rfl
theorem Qqg {n:Nod} (h:n.kind=3∨n.kind=4∨n.kind=7∨n.kind=8):useL n=[]++vlL n.a:=by unfold useL;rw [if_neg W30,if_pos h];rfl
theorem Qqh {n:Nod} (h:n.kind=2∨n.kind=5∨n.kind=6∨n.kind=9):useL n=[]:=by unfold useL;rw [if_neg W30,if_neg W30]
theorem Qb1 (n:Nod):(useL n).length≤2:=by
 have h:∀ v:Vl,(vlL v).length≤1:=fun v=>by unfold vlL;split<;>simp
 have ha:=h n.a
 have hb:=h n.b
 unfold useL
 split
 ·rw [jt];split
  ·omega
  ·simp;omega
 ·split
  ·omega
  ·simp
def addW (w:Nat→Int) (k:Int):Nat→Int:=fun j=>if (k.tdiv 64).toNat=j then bits kK kd (w (k.tdiv 64).toNat) (shlI kd 1 (k.tmod 64)) else w j
def takeW (w:Nat→Int) (k:Int):Nat→Int:=fun j=>if (k.tdiv 64).toNat=j then bits BinOp.andNot kd (w (k.tdiv 64).toNat) (shlI kd 1 (k.tmod 64)) else w j
def hasW (w:Nat→Int) (k:Int):Bool:=decide (bits km kd (shrI kd (w (k.tdiv 64).toNat) (k.tmod 64)) 1=1)
def joinW (w v:Nat→Int) (m:Nat):Nat→Int:=fun j=>if j<m then bits kK kd (w j) (v j) else w j
theorem Qek (w v:Nat→Int):joinW w v 0=w:=by funext j;simp [joinW]
theorem Qel (w v:Nat→Int) {x:Int} (h:0≤x) (j:Nat):joinW w v (x+1).toNat j=if x.toNat=j then bits kK kd (joinW w v x.toNat x.toNat) (v x.toNat) else joinW w v x.toNat j:=by
 rw [show (x+1).toNat=x.toNat+1 by omega]
 by_cases e:x.toNat=j
 ·subst e;simp [joinW]
 ·rw [if_neg e];unfold joinW
  by_cases h2:j<x.toNat
  ·rw [if_pos h2,if_pos W30]
  ·rw [if_neg h2,if_neg W30]
def wsT (w:Nat→Int):Nat→TC:=nthT ((jB 65).map fun j=>TC.val (jg .u64 (w j)))
theorem Q7v:∀ (l:List Prop),(∀ p∈l,p)→Conj l
 | [],_=>trivial
 | [p],h=>by first | exact h p ke | exact ⟨h p ke,trivial⟩
 | p::q::r,h=>⟨h p ke,Q7v (q::r) fun x hx=>h x (jW _ hx)⟩
theorem Q2d {n:Nat} {P:Nat→Prop} (h:∀ j,j<n→P j):Conj ((jB n).map P):=Q7v _ fun p hp=>by
 obtain ⟨j,hj,rfl⟩:=List.mem_map.1 hp
 exact h j (List.mem_range.1 hj)
theorem Qiu {a b:List Prop} (h:Conj a) (h2:Conj b):Conj (a++b):=Q7v _ fun p hp=>by
 rcases List.mem_append.1 hp with q | q
 ·exact h.all p q
 ·exact h2.all p q
theorem Qb2 {n:Nat} (w:Nat→Int) {i:Nat} (h:i<n):((jB n).map fun j=>w j).getD i 0=w i:=by
 rw [jc,jm,ko h];rfl
structure Vis where
 pos:Int
 k:Int
 deriving Inhabited,DecidableEq
def Vis.tl (x:Vis):List TC:=[.val (.int .i64 x.pos),.val (.int .i64 x.k)]
def Vis.tc (x:Vis):Nat→TC:=nthT x.tl
abbrev Vis.ownR (l:List Vis):Reg:=ownOf 225 2 Vis.tc l
structure Bk where
 se:List Bo
 od:List Int
 st:List Vis
def flB (l:List Nod) (v:Vis):List Int:=flwL (l.getD v.pos.toNat ua)
def topB (s:Bk):Vis:=s.st.getD (s.st.length-1) ua
def bkStep (l:List Nod) (s:Bk):Bk:=
 if (topB s).k=((flB l (topB s)).length:Int) then ⟨s.se,s.od++[(topB s).pos],s.st.take (s.st.length-1)⟩
 else
  if (s.se.getD ((flB l (topB s)).getD (topB s).k.toNat 0).toNat ua).b=true then ⟨s.se,s.od,s.st.set (s.st.length-1) ⟨(topB s).pos,(topB s).k+1⟩⟩
  else ⟨s.se.set ((flB l (topB s)).getD (topB s).k.toNat 0).toNat ⟨true⟩,s.od,s.st.set (s.st.length-1) ⟨(topB s).pos,(topB s).k+1⟩++[⟨(flB l (topB s)).getD (topB s).k.toNat 0,0⟩]⟩
def wtB:List Vis→Nat
 | []=>0
 | v::r=>(3-v.k.toNat)+wtB r
def msB (s:Bk):Nat:=4 * falses s.se+wtB s.st
def bkGo (l:List Nod):Nat→Bk→Bk
 | 0,s=>s
 | n+1,s=>if s.st.length=0 then s else bkGo l n (bkStep l s)
def bk0 (l:List Nod):Bk:=⟨(jh l.length (Bo.mk false)).set 0 (Bo.mk true),[],[⟨0,0⟩]⟩
def bkF (l:List Nod):Bk:=bkGo l (msB (bk0 l)) (bk0 l)
def psB (s:Bk):List Int:=s.st.map Vis.pos
structure BkJ (l:List Nod) (s:Bk):Prop where
 len:s.se.length=l.length
 st:∀ v∈s.st,0≤v.k∧v.k≤((flB l v).length:Int)
 od:∀ x∈s.od++psB s,0≤x∧x<(l.length:Int)
 sn:∀ i:Nat,(s.se.getD i default).b=true↔(i:Int)∈s.od++psB s
 nd:(s.od++psB s).Nodup
 bot:psB s≠[]→(psB s).getD 0 0=0
 fin:psB s=[]→∃ r,s.od=r++[0]
 cl:∀ x∈s.od,∀ y∈flwL (l.getD x.toNat default),(s.se.getD y.toNat default).b=true
 part:∀ v∈s.st,∀ y∈(flB l v).take v.k.toNat,(s.se.getD y.toNat default).b=true
 link:∀ i:Nat,i+1<(psB s).length→(psB s).getD (i+1) 0∈flwL (l.getD ((psB s).getD i 0).toNat default)
 par:∀ a x b,s.od=a++x::b→x≠0→∃ p,0≤p∧x∈flwL (l.getD p.toNat default)∧(p∈psB s∨p∈b)
theorem Yp {α:Type} {d:α} {a b:List α} {i:Nat} (h:i<a.length):(a++b).getD i d=a.getD i d:=by
 rw [jc,jc,jp h]
theorem Q3u {α:Type} {d x:α} {a:List α}:(a++[x]).getD a.length d=x:=by simp [jc]
theorem snoc_eq {α:Type} {o a b:List α} {v x:α} (h:o++[v]=a++x::b):(b=[]∧o=a∧v=x)∨∃ c,b=c++[v]∧o=a++x::c:=by
 rcases List.eq_nil_or_concat b with rfl | ⟨c,y,rfl⟩
 ·have:=List.append_inj' h rfl
  simp at this
  exact .inl ⟨rfl,this.1,this.2⟩
 ·rw [show a++x::c.concat y=(a++x::c)++[y] by simp] at h
  have:=List.append_inj' h rfl
  simp at this
  exact .inr ⟨c,by rw [this.2];simp,this.1⟩
section
variable {l:List Nod} {se:List Bo} {od:List Int} {pre:List Vis} {v:Vis}
theorem BkJ.finish (h:BkJ l ⟨se,od,pre++[v]⟩) (hk:v.k=((flB l v).length:Int)):BkJ l ⟨se,od++[v.pos],pre⟩:=by
 have hps:psB ⟨se,od,pre++[v]⟩=pre.map Vis.pos++[v.pos]:=by simp [psB]
 have hp:∀ o:List Int,psB ⟨se,o,pre⟩=pre.map Vis.pos:=fun _=>rfl
 obtain ⟨h1,h2,h3,h4,h5,h6,h7,h8,h9,h10,h11⟩:=h
 rw [hps] at h3 h4 h5 h6 h7 h10 h11
 have hperm:(od++(pre.map Vis.pos++[v.pos])).Perm (od++[v.pos]++pre.map Vis.pos):=by
  rw [jV]
  exact (List.perm_append_comm).append_left od
 refine ⟨h1,fun x hx=>h2 x (jU _ hx),fun x hx=>h3 x (hperm.mem_iff.2 hx),fun i=>by rw [h4 i];exact hperm.mem_iff,hperm.nodup_iff.1 h5,fun hne=>?_,fun hnil=>?_,fun x hx y hy=>?_,fun x hx=>h9 x (jU _ hx),fun i hi=>?_,fun a x b hab hx=>?_⟩
 ·rw [hp] at hne ⊢
  have:=h6 W162
  rwa [Yp (List.length_pos_iff.2 hne)] at this
 ·have hnil:pre.map Vis.pos=[]:=hnil
  have:=h6 W162
  rw [hnil] at this
  exact ⟨od,by rw [show v.pos=0 from this]⟩
 ·rcases List.mem_append.1 hx with hx | hx
  ·exact h8 x hx y hy
  ·rw [jH] at hx
   subst hx
   exact h9 v W162 y (by rw [j7 (by omega)];exact hy)
 ·rw [hp] at hi ⊢
  have:=h10 i (by rw [jt];omega)
  rwa [Yp hi,Yp W30] at this
 ·rcases snoc_eq hab with ⟨rfl,rfl,rfl⟩ | ⟨c,rfl,rfl⟩
  ·have hne:0<(pre.map Vis.pos).length:=by
    rcases Nat.eq_zero_or_pos (pre.map Vis.pos).length with e | e
    ·have e1:=kt e
     have:=h6 W162
     rw [e1] at this
     exact absurd this hx
    ·exact e
   have hl:=h10 ((pre.map Vis.pos).length-1) (by rw [jt,kf];omega)
   rw [show (pre.map Vis.pos).length-1+1=(pre.map Vis.pos).length by omega,Q3u,Yp W30] at hl
   have hm:(pre.map Vis.pos).getD ((pre.map Vis.pos).length-1) 0∈pre.map Vis.pos:=by rw [Qc W30];exact jN _
   exact ⟨_,(h3 _ (by simp only [kH];exact .inr (.inl hm))).1,hl,.inl hm⟩
  ·obtain ⟨p,p0,p1,p2⟩:=h11 a x c rfl hx
   refine ⟨p,p0,p1,?_⟩
   rcases p2 with p2 | p2
   ·rcases List.mem_append.1 p2 with p2 | p2
    ·exact .inl p2
    ·exact .inr (List.mem_append_right _ p2)
   ·exact .inr (jU _ p2)
theorem BkJ.again (h:BkJ l ⟨se,od,pre++[v]⟩) (hk:v.k≠((flB l v).length:Int)) (hs:(se.getD ((flB l v).getD v.k.toNat 0).toNat ua).b=true):BkJ l ⟨se,od,pre++[⟨v.pos,v.k+1⟩]⟩:=by
 obtain ⟨h1,h2,h3,h4,h5,h6,h7,h8,h9,h10,h11⟩:=h
 have hps:psB ⟨se,od,pre++[v]⟩=psB ⟨se,od,pre++[⟨v.pos,v.k+1⟩]⟩:=by simp [psB]
 rw [hps] at h3 h4 h5 h6 h7 h10 h11
 have hv:=h2 v W162
 refine ⟨h1,fun x hx=>?_,h3,h4,h5,h6,h7,h8,fun x hx y hy=>?_,h10,h11⟩
 ·rcases List.mem_append.1 hx with hx | hx
  ·exact h2 x (jU _ hx)
  ·rw [jH] at hx;subst hx
   show 0≤v.k+1∧v.k+1≤((flB l v).length:Int)
   omega
 ·rcases List.mem_append.1 hx with hx | hx
  ·exact h9 x (jU _ hx) y hy
  ·rw [jH] at hx;subst hx
   have hy:y∈(flB l v).take (v.k+1).toNat:=hy
   rw [show (v.k+1).toNat=v.k.toNat+1 by omega,jM W30,kH] at hy
   rcases hy with hy | hy
   ·exact h9 v W162 y hy
   ·rw [jH] at hy
    rw [Qc (l:=flB l v) W30,← hy] at hs
    exact hs
theorem BkJ.push (hq:∀ i:Nat,i<l.length→∀ x∈flwL (l.getD i ua),0≤x∧x<(l.length:Int)) (h:BkJ l ⟨se,od,pre++[v]⟩) (hk:v.k≠((flB l v).length:Int)) (hs:¬ (se.getD ((flB l v).getD v.k.toNat 0).toNat ua).b=true) :
 BkJ l ⟨se.set ((flB l v).getD v.k.toNat 0).toNat ⟨true⟩,od,pre++[⟨v.pos,v.k+1⟩]++[⟨(flB l v).getD v.k.toNat 0,0⟩]⟩:=by
 obtain ⟨h1,h2,h3,h4,h5,h6,h7,h8,h9,h10,h11⟩:=h
 have hv:=h2 v W162
 have hvp:=h3 v.pos (by simp [psB])
 have hmem:(flB l v).getD v.k.toNat 0∈flB l v:=by rw [Qc (l:=flB l v) W30];exact jN _
 have hto:=hq v.pos.toNat W30 _ hmem
 have hk2:(flB l v).getD v.k.toNat 0=(flB l v)[v.k.toNat]'W30:=Qc _
 generalize hg:(flB l v).getD v.k.toNat 0=to at *
 have h1':se.length=l.length:=h1
 have hps:psB ⟨se.set to.toNat ⟨true⟩,od,pre++[⟨v.pos,v.k+1⟩]++[⟨to,0⟩]⟩=psB ⟨se,od,pre++[v]⟩++[to]:=by simp [psB]
 have hne:to ∉ od++psB ⟨se,od,pre++[v]⟩:=fun hm=>hs ((h4 to.toNat).2 (by rw [show ((to.toNat:Nat):Int)=to by omega];exact hm))
 have up:∀ i:Nat,(se.getD i ua).b=true→((se.set to.toNat ⟨true⟩).getD i ua).b=true:=fun i hi=>by
  rw [Qn _ _ _ _ _ W30];split
  ·rfl
  ·exact hi
 have kk:((se.set to.toNat ⟨true⟩).getD to.toNat ua).b=true:=by rw [Qn _ _ _ _ _ W30,if_pos rfl]
 have hlast:(psB ⟨se,od,pre++[v]⟩).getD ((psB ⟨se,od,pre++[v]⟩).length-1) 0=v.pos:=by simp [psB,jc]
 have hpos:0<(psB ⟨se,od,pre++[v]⟩).length:=by simp [psB]
 refine ⟨by simpa using h1',fun x hx=>?_,fun x hx=>?_,fun i=>?_,?_,fun _=>?_,fun e=>?_,fun x hx y hy=>up _ (h8 x hx y hy),fun x hx y hy=>?_,fun i hi=>?_,fun a x b hab hx=>?_⟩
 ·rcases List.mem_append.1 hx with hx | hx
  ·rcases List.mem_append.1 hx with hx | hx
   ·exact h2 x (jU _ hx)
   ·rw [jH] at hx;subst hx
    show 0≤v.k+1∧v.k+1≤((flB l v).length:Int)
    omega
  ·rw [jH] at hx;subst hx
   show (0:Int)≤0∧(0:Int)≤_
   omega
 ·rw [hps,← jV] at hx
  rcases List.mem_append.1 hx with hx | hx
  ·exact h3 x hx
  ·rw [jH] at hx;subst hx;exact hto
 ·rw [hps,← jV,kH,jH,Qn _ _ _ _ _ W30]
  by_cases e:i=to.toNat
  ·subst e;rw [if_pos rfl]
   exact ⟨fun _=>.inr W30,fun _=>rfl⟩
  ·rw [if_neg e,h4 i]
   exact ⟨fun h=>.inl h,fun h=>h.resolve_right W30⟩
 ·rw [hps,← jV]
  exact List.nodup_append.2 ⟨h5,by simp,fun x hx y hy e=>by rw [jH] at hy;subst hy;subst e;exact hne hx⟩
 ·rw [hps,Yp hpos]
  exact h6 (fun e=>by rw [e] at hpos;simp at hpos)
 ·rw [hps] at e;simp at e
 ·rcases List.mem_append.1 hx with hx | hx
  ·rcases List.mem_append.1 hx with hx | hx
   ·exact up _ (h9 x (jU _ hx) y hy)
   ·rw [jH] at hx;subst hx
    have hy:y∈(flB l v).take (v.k+1).toNat:=hy
    rw [show (v.k+1).toNat=v.k.toNat+1 by omega,jM W30,kH] at hy
    rcases hy with hy | hy
    ·exact up _ (h9 v W162 y hy)
    ·rw [jH,← hk2] at hy
     subst hy;exact kk
  ·rw [jH] at hx;subst hx
   have hy:y∈(flB l ⟨to,0⟩).take (0:Int).toNat:=hy
   simp at hy
 ·rw [hps] at hi ⊢
  rw [jt,kf] at hi
  by_cases e:i+1=(psB ⟨se,od,pre++[v]⟩).length
  ·rw [e,Q3u,Yp W30,show i=(psB ⟨se,od,pre++[v]⟩).length-1 by omega,hlast]
   exact hmem
  ·rw [Yp W30,Yp W30]
   exact h10 i W30
 ·obtain ⟨p,p0,p1,p2⟩:=h11 a x b hab hx
  refine ⟨p,p0,p1,?_⟩
  rw [hps]
  rcases p2 with p2 | p2
  ·exact .inl (jU _ p2)
  ·exact .inr p2
end
theorem Qiv {α:Type} {d:α} {st:List α} (h:st.length≠0):st=st.take (st.length-1)++[st.getD (st.length-1) d]:=by
 rw [Qc W30]
 rw [List.take_append_getElem W30,show st.length-1+1=st.length by omega,List.take_length]
theorem Qiw {α:Type} {pre:List α} {v x:α}:(pre++[v]).set ((pre++[v]).length-1) x=pre++[x]:=by simp
theorem Q1k:∀ (a b:List Vis),wtB (a++b)=wtB a+wtB b
 | [],b=>by simp [wtB]
 | x::r,b=>by simp only [List.cons_append,wtB,Q1k r b];omega
def BkS (l:List Nod) (s:Bk):Prop:=BkJ l s∧∃ k,msB s≤k∧bkGo l k s=bkF l
theorem BkJ.step {l:List Nod} (hq:∀ i:Nat,i<l.length→∀ x∈flwL (l.getD i ua),0≤x∧x<(l.length:Int)) {s:Bk} (h:BkJ l s) (h0:s.st.length≠0):BkJ l (bkStep l s)∧msB (bkStep l s)<msB s:=by
 obtain ⟨se,od,st⟩:=s
 have h0:st.length≠0:=h0
 have hsp:=Qiv (d:=ua) h0
 generalize hpre:st.take (st.length-1)=pre at hsp
 generalize hv:st.getD (st.length-1) ua=v at hsp
 have htop:topB ⟨se,od,st⟩=v:=hv
 have hset:∀ x,st.set (st.length-1) x=pre++[x]:=fun x=>by rw [hsp];exact Qiw
 have hbk:=h
 rw [hsp] at hbk
 have hvk:=hbk.st v W162
 have htwo:=Yz (l.getD v.pos.toNat ua)
 have hms:msB ⟨se,od,st⟩=4 * falses se+(wtB pre+(3-v.k.toNat)):=by
  show 4 * falses se+wtB st=_
  rw [hsp,Q1k];simp [wtB]
 have hfl:(flB l v).length≤2:=htwo
 unfold bkStep
 rw [htop]
 split
 ·rename_i hk
  show BkJ l ⟨se,od++[v.pos],st.take (st.length-1)⟩∧msB ⟨se,od++[v.pos],st.take (st.length-1)⟩<_
  rw [hpre,hms]
  refine ⟨hbk.finish hk,?_⟩
  show 4 * falses se+wtB pre<_
  omega
 ·rename_i hk
  split
  ·rename_i hs
   show BkJ l ⟨se,od,st.set (st.length-1) ⟨v.pos,v.k+1⟩⟩∧msB ⟨se,od,st.set (st.length-1) ⟨v.pos,v.k+1⟩⟩<_
   rw [hset,hms]
   refine ⟨hbk.again hk hs,?_⟩
   show 4 * falses se+wtB (pre++[⟨v.pos,v.k+1⟩])<_
   rw [Q1k]
   simp only [wtB]
   omega
  ·rename_i hs
   show BkJ l ⟨se.set ((flB l v).getD v.k.toNat 0).toNat ⟨true⟩,od,st.set (st.length-1) ⟨v.pos,v.k+1⟩++[⟨(flB l v).getD v.k.toNat 0,0⟩]⟩∧msB ⟨se.set ((flB l v).getD v.k.toNat 0).toNat ⟨true⟩,od,st.set (st.length-1) ⟨v.pos,v.k+1⟩++[⟨(flB l v).getD v.k.toNat 0,0⟩]⟩<_
   rw [hset,hms]
   refine ⟨hbk.push hq hk hs,?_⟩
   have hmem:(flB l v).getD v.k.toNat 0∈flB l v:=by rw [Qc (l:=flB l v) W30];exact jN _
   have hto:=hq v.pos.toNat (by have:=hbk.od v.pos (by simp [psB]);omega) _ hmem
   have hlen:se.length=l.length:=hbk.len
   have hf:=G7 (l:=se) (i:=((flB l v).getD v.k.toNat 0).toNat) W30 (by simpa using hs)
   show 4 * falses (se.set ((flB l v).getD v.k.toNat 0).toNat ⟨true⟩)+wtB (pre++[⟨v.pos,v.k+1⟩]++[⟨(flB l v).getD v.k.toNat 0,0⟩])<_
   rw [Q1k,Q1k]
   simp only [wtB]
   have:(3-(0:Int).toNat)=3:=rfl
   omega
theorem BkS.next {l:List Nod} (hq:∀ i:Nat,i<l.length→∀ x∈flwL (l.getD i ua),0≤x∧x<(l.length:Int)) {s:Bk} (h:BkS l s) (h0:s.st.length≠0):BkS l (bkStep l s)∧msB (bkStep l s)<msB s:=by
 obtain ⟨h1,k,h2,h3⟩:=h
 obtain ⟨g1,g2⟩:=h1.step hq h0
 refine ⟨⟨g1,k-1,by omega,?_⟩,g2⟩
 rw [show k=(k-1)+1 by omega] at h3
 unfold bkGo at h3
 rwa [if_neg h0] at h3
theorem BkS.done {l:List Nod} {s:Bk} (h:BkS l s) (h0:s.st.length=0):bkF l=s:=by
 obtain ⟨_,k,_,h3⟩:=h
 rw [← h3]
 cases k with
 | zero=>rfl
 | succ k=>unfold bkGo;rw [if_pos h0]
theorem BkJ.start {l:List Nod} (h:0<l.length):BkJ l (bk0 l):=by
 have g:∀ i,((bk0 l).se.getD i ua).b=true↔i=0:=fun i=>by
  show (((jh l.length (Bo.mk false)).set 0 (Bo.mk true)).getD i ua).b=true↔i=0
  rw [Qn _ _ _ _ _ W200]
  by_cases e:i=0
  ·simp [e]
  ·rw [if_neg e,jc,jX]
   split
   ·simp [e]
   ·simp only [e,iff_false];decide
 refine ⟨by simp [bk0],fun v hv=>?_,fun x hx=>?_,fun i=>?_,by simp [bk0,psB],fun _=>rfl,fun e=>by simp [bk0,psB] at e,fun x hx=>by simp [bk0] at hx,fun v hv y hy=>?_,fun i hi=>by simp [bk0,psB] at hi,fun a x b hab=>by simp [bk0] at hab⟩
 ·simp [bk0] at hv;subst hv
  show (0:Int)≤0∧(0:Int)≤_
  omega
 ·simp [bk0,psB] at hx;subst hx;omega
 ·rw [g];simp [bk0,psB]
 ·simp [bk0] at hv;subst hv;simp at hy
theorem BkS.start {l:List Nod} (h:0<l.length):BkS l (bk0 l):=⟨.start h,_,jn _,rfl⟩
theorem Q7w {l:List Nod} (hq:∀ i:Nat,i<l.length→∀ x∈flwL (l.getD i ua),0≤x∧x<(l.length:Int)):∀ (k:Nat) (s:Bk),msB s≤k→BkJ l s→BkJ l (bkGo l k s)∧(bkGo l k s).st=[]
 | 0,s,h,hj=>by
   refine ⟨hj,?_⟩
   show s.st=[]
   cases hst:s.st with
   | nil=>rfl
   | cons v r =>
     have h1:wtB s.st=0:=by unfold msB at h;omega
     rw [hst] at h1
     unfold wtB at h1
     have h2:=hj.st v (by rw [hst];simp)
     have h3:(flB l v).length≤2:=Yz _
     omega
 | k+1,s,h,hj=>by
   unfold bkGo
   split
   ·rename_i e;exact ⟨hj,kt e⟩
   ·rename_i e
    obtain ⟨g1,g2⟩:=hj.step hq e
    exact Q7w hq k _ W30 g1
def ordL (l:List Nod):List Int:=(bkF l).od.reverse
def plcU (o:List Int) (n:Nat):Nat→List Int
 | 0=>jh n 0
 | i+1=>(plcU o n i).set (o.getD i 0).toNat i
def plcL (l:List Nod):List Int:=plcU (ordL l) l.length (ordL l).length
theorem Q2e (o:List Int) (n:Nat):∀ i,(plcU o n i).length=n
 | 0=>by simp [plcU]
 | i+1=>by rw [plcU,jF,Q2e o n i]
theorem Qb3 {o:List Int} {n:Nat} (hr:∀ x∈o,0≤x∧x<(n:Int)) (hn:o.Nodup):∀ i,i≤o.length→∀ j,j<i→(plcU o n i).getD (o.getD j 0).toNat 0=j
 | 0,_,j,hj=>absurd hj W30
 | i+1,hi,j,hj=>by
   have hm:∀ k,k<o.length→o.getD k 0∈o:=fun k hk=>by rw [Qc hk];exact jN _
   have h1:=hr _ (hm i W30)
   unfold plcU
   rw [Qn _ _ _ _ _ (by rw [Q2e];omega)]
   by_cases e:j=i
   ·subst e;rw [if_pos rfl]
   ·have h2:=hr _ (hm j W30)
    rw [if_neg (fun h=>e ?_)]
    ·exact Qb3 hr hn i W30 j W30
    ·have h3:o.getD j 0=o.getD i 0:=by omega
     rw [Qc W30,Qc W30] at h3
     exact absurd h3 (List.pairwise_iff_getElem.1 hn j i W30 W30 W30)
theorem Qix (l:List Vis) (k:Nat):∀ i,i<(l.take k).length→((l.take k).getD i ua).tc=(l.getD i ua).tc:=fun i hi=>by
 have h:i<k:=by simp at hi;omega
 rw [jc,jc,List.getElem?_take_of_lt h]
theorem nb1 {b:Bool} (h:(!b)=false):b=true:=by cases b<;>simp at h ⊢
theorem nb2 {b:Bool} (h:(!b)=true):¬ b=true:=by cases b<;>simp at h ⊢
theorem Qem (n:Nat):∀ i,i<(jh n (0:Int)).length→i64T ((jh n (0:Int)).getD i 0)=fun j=>valT (jg ja 0).cells.toList j:=fun i hi=>by
 rw [Qc hi,List.getElem_replicate]
 first | rfl | (funext j;first | rfl | (rcases j with _ | j<;>first | rfl | simp [i64T,nthT,nth,valT,Value.cells]))
theorem Qkw (l:List Vis) (k:Nat) (x:Int):∀ i,i<(l.set k ⟨(l.getD k ua).pos,x⟩).length→((l.set k ⟨(l.getD k ua).pos,x⟩).getD i ua).tc=updT (fun i=>(l.getD i ua).tc) k 1 [.int .i64 x] i:=
 Za ua Vis.tc l k 1 _ _ (fun j=>by rcases j with _ | _ | j<;>simp [Vis.tc,Vis.tl,nthT,nth])
theorem Qoh (l:List Vis) (k:Nat) (x:Int) (v:Vis):∀ i,i<(l.set k ⟨(l.getD k ua).pos,x⟩++[v]).length→i≠l.length→((l.set k ⟨(l.getD k ua).pos,x⟩++[v]).getD i ua).tc=updT (fun i=>(l.getD i ua).tc) k 1 [.int .i64 x] i:=fun i hi hn=>by
 have h:i<(l.set k ⟨(l.getD k ua).pos,x⟩).length:=by simp at hi ⊢;omega
 exact (congrArg Vis.tc (Yp h)).trans (Qkw l k x i h)
theorem Qlv (l:List Vis) (k:Nat) (x v:Vis):(l.set k x++[v]).getD l.length ua=v:=by
 have h:=Q3u (d:=(ua:Vis)) (a:=l.set k x) (x:=v)
 rwa [jF] at h
def tpB (st:List Vis):Vis:=st.getD ((st.length:Int)-1).toNat ua
theorem Qb4 (s:Bk) (h:s.st.length≠0):tpB s.st=topB s:=by
 unfold tpB topB
 rw [show ((s.st.length:Int)-1).toNat=s.st.length-1 by omega]
theorem BkS.facts {l:List Nod} {se:List Bo} {od:List Int} {st:List Vis} (h:BkS l ⟨se,od,st⟩):se.length=l.length∧od.length≤l.length∧st.length≤l.length∧(st.length≠0→0≤(tpB st).pos∧(tpB st).pos<(l.length:Int)∧0≤(tpB st).k∧(tpB st).k≤((flwL (l.getD (tpB st).pos.toNat ua)).length:Int)):=by
 have z:=Q03 l.length _ h.1.nd h.1.od
 simp only [psB,jt,jP] at z
 refine ⟨h.1.len,by omega,by omega,fun h0=>?_⟩
 have hm:tpB st∈st:=by
  unfold tpB
  rw [Qc W30]
  exact jN _
 have h1:=h.1.od (tpB st).pos (List.mem_append_right _ (List.mem_map.2 ⟨_,hm,rfl⟩))
 have h2:=h.1.st _ hm
 exact ⟨h1.1,h1.2,h2.1,h2.2⟩
theorem BkS.n1 {l:List Nod} (hq:∀ i:Nat,i<l.length→∀ x∈flwL (l.getD i ua),0≤x∧x<(l.length:Int)) {se:List Bo} {od:List Int} {st:List Vis} (h:BkS l ⟨se,od,st⟩) (h0:(0:Int)<(st.length:Int)) (hk:(tpB st).k=((flwL (l.getD (tpB st).pos.toNat ua)).length:Int)):BkS l ⟨se,od++[(tpB st).pos],st.take (st.length-1)⟩∧msB ⟨se,od++[(tpB st).pos],st.take (st.length-1)⟩<msB ⟨se,od,st⟩:=by
 have z:=h.next hq W196
 have e:=Qb4 ⟨se,od,st⟩ W196
 unfold bkStep flB at z
 rw [← e] at z
 rwa [if_pos hk] at z
theorem BkS.n2 {l:List Nod} (hq:∀ i:Nat,i<l.length→∀ x∈flwL (l.getD i ua),0≤x∧x<(l.length:Int)) {se:List Bo} {od:List Int} {st:List Vis} (h:BkS l ⟨se,od,st⟩) (h0:(0:Int)<(st.length:Int)) (hk:¬ (tpB st).k=((flwL (l.getD (tpB st).pos.toNat ua)).length:Int)) (hs:(se.getD ((flwL (l.getD (tpB st).pos.toNat ua)).getD (tpB st).k.toNat 0).toNat ua).b=true):BkS l ⟨se,od,st.set ((st.length:Int)-1).toNat ⟨(tpB st).pos,(tpB st).k+1⟩⟩∧msB ⟨se,od,st.set ((st.length:Int)-1).toNat ⟨(tpB st).pos,(tpB st).k+1⟩⟩<msB ⟨se,od,st⟩:=by
 have z:=h.next hq W196
 have e:=Qb4 ⟨se,od,st⟩ W196
 unfold bkStep flB at z
 rw [← e] at z
 rw [if_neg hk,if_pos hs] at z
 rwa [show ((st.length:Int)-1).toNat=st.length-1 by omega]
theorem BkS.n3 {l:List Nod} (hq:∀ i:Nat,i<l.length→∀ x∈flwL (l.getD i ua),0≤x∧x<(l.length:Int)) {se:List Bo} {od:List Int} {st:List Vis} (h:BkS l ⟨se,od,st⟩) (h0:(0:Int)<(st.length:Int)) (hk:¬ (tpB st).k=((flwL (l.getD (tpB st).pos.toNat ua)).length:Int)) (hs:¬ (se.getD ((flwL (l.getD (tpB st).pos.toNat ua)).getD (tpB st).k.toNat 0).toNat ua).b=true):BkS l ⟨se.set ((flwL (l.getD (tpB st).pos.toNat ua)).getD (tpB st).k.toNat 0).toNat ⟨true⟩,od,st.set ((st.length:Int)-1).toNat ⟨(tpB st).pos,(tpB st).k+1⟩++[⟨(flwL (l.getD (tpB st).pos.toNat ua)).getD (tpB st).k.toNat 0,0⟩]⟩∧msB ⟨se.set ((flwL (l.getD (tpB st).pos.toNat ua)).getD (tpB st).k.toNat 0).toNat ⟨true⟩,od,st.set ((st.length:Int)-1).toNat ⟨(tpB st).pos,(tpB st).k+1⟩++[⟨(flwL (l.getD (tpB st).pos.toNat ua)).getD (tpB st).k.toNat 0,0⟩]⟩<msB ⟨se,od,st⟩:=by
 have z:=h.next hq W196
 have e:=Qb4 ⟨se,od,st⟩ W196
 unfold bkStep flB at z
 rw [← e] at z
 rw [if_neg hk,if_neg hs] at z
 rwa [show ((st.length:Int)-1).toNat=st.length-1 by omega]
theorem BkS.ord {l:List Nod} {se:List Bo} {od:List Int} {st:List Vis} (h:BkS l ⟨se,od,st⟩) {i:Nat} (hi:i<od.reverse.length):0≤od.reverse.getD i 0∧od.reverse.getD i 0<(l.length:Int):=by
 refine h.1.od _ (jU _ (List.mem_reverse.1 ?_))
 rw [Qc hi]
 exact jN _
theorem Q1l {l:List Nod} (hq:∀ i:Nat,i<l.length→∀ x∈flwL (l.getD i ua),0≤x∧x<(l.length:Int)) (h:0<l.length):(∀ x∈ordL l,0≤x∧x<(l.length:Int))∧(ordL l).Nodup∧(ordL l).length≤l.length:=by
 have z:=(Q7w hq (msB (bk0 l)) _ (jn _) (.start h)).1
 have h1:∀ x∈ordL l,0≤x∧x<(l.length:Int):=fun x hx=>z.od x (jU _ (List.mem_reverse.1 hx))
 have h2:(ordL l).Nodup:=List.pairwise_reverse.2 ((List.nodup_append.1 z.nd).1.imp fun h=>Ne.symm h)
 exact ⟨h1,h2,Q03 _ _ h2 h1⟩
theorem Qg7 (l:List Int) (a b:Nat) (x y:Int):∀ i,i<((l.set a x).set b y).length→i64T (((l.set a x).set b y).getD i 0)=updT (updT (fun i=>i64T (l.getD i 0)) a 0 [.int .i64 x]) b 0 [.int .i64 y] i:=by
 intro i hi
 rw [Zb (l.set a x) b y i hi]
 have h:=Zb l a x i W218
 funext j
 show (if _ then _ else i64T ((l.set a x).getD i 0) j)=if _ then _ else updT (fun i=>i64T (l.getD i 0)) a 0 [.int .i64 x] i j
 rw [h]
def RevJ (l x:List Int) (i j:Int):Prop:=x.length=l.length∧0≤i∧i+j=(l.length:Int)-1∧i≤j+1∧∀ k:Nat,k<l.length→x.getD k 0=if (k:Int)<i∨j<(k:Int) then l.getD (l.length-1-k) 0 else l.getD k 0
theorem RevJ.start (l:List Int):RevJ l l 0 ((l.length:Int)-1):=⟨rfl,jz _,by omega,by omega,fun k hk=>by rw [if_neg W30]⟩
theorem RevJ.next {l x:List Int} {i j:Int} (h:RevJ l x i j) (hij:i<j):RevJ l ((x.set i.toNat (x.getD j.toNat 0)).set j.toNat (x.getD i.toNat 0)) (i+1) (j-1):=by
 obtain ⟨h1,h2,h3,h4,h5⟩:=h
 refine ⟨by simpa using h1,by omega,by omega,by omega,fun k hk=>?_⟩
 rw [Qn _ _ _ _ _ W138,Qn _ _ _ _ _ W30]
 have hi:=h5 i.toNat W30
 have hj:=h5 j.toNat W30
 rw [if_neg W30] at hi hj
 by_cases e1:k=j.toNat
 ·subst e1
  rw [if_pos rfl,hi,if_pos W30]
  congr 1;omega
 ·rw [if_neg e1]
  by_cases e2:k=i.toNat
  ·subst e2
   rw [if_pos rfl,hj,if_pos W30]
   congr 1;omega
  ·rw [if_neg e2,h5 k hk]
   by_cases c:(k:Int)<i∨j<(k:Int)
   ·rw [if_pos c,if_pos W30]
   ·rw [if_neg c,if_neg W30]
theorem RevJ.done {l x:List Int} {i j:Int} (h:RevJ l x i j) (hij:j≤i):x=l.reverse:=by
 obtain ⟨h1,h2,h3,h4,h5⟩:=h
 refine List.ext_getElem W126 fun k hk hk'=>?_
 have:=h5 k W30
 rw [Qc hk] at this
 rw [this,List.getElem_reverse]
 split
 ·rw [Qc W30]
 ·rename_i c
  rw [Qc W30]
  congr 1;omega
section
def MtS (U:List Int) (x:Int):Prop:=0≤x∧x<(U.length:Int)∧0≤U.getD x.toNat 0
structure MtH (P U:List Int):Prop where
 len:P.length=U.length
 pos:∀ x,MtS U x→0≤P.getD x.toNat 0
 up:∀ x,MtS U x→0<P.getD x.toNat 0→MtS U (U.getD x.toNat 0)∧P.getD (U.getD x.toNat 0).toNat 0<P.getD x.toNat 0
 one:∀ x y,MtS U x→MtS U y→P.getD x.toNat 0=P.getD y.toNat 0→x=y
def mtG (P U:List Int):Nat→Int→Int→Int
 | 0,a,_=>a
 | k+1,a,b=>if a=b then a else if P.getD b.toNat 0<P.getD a.toNat 0 then mtG P U k (U.getD a.toNat 0) b else mtG P U k a (U.getD b.toNat 0)
def mtF (P U:List Int) (a b:Int):Int:=mtG P U (P.getD a.toNat 0+P.getD b.toNat 0).toNat a b
def MtJ (P U:List Int) (a b x y:Int):Prop:=MtS U x∧MtS U y∧∃ k:Nat,P.getD x.toNat 0+P.getD y.toNat 0≤k∧mtG P U k x y=mtF P U a b
variable {P U:List Int} {a b x y:Int}
theorem nb3 {b:Bool} (h:(!b)=true):b=false:=by cases b<;>simp at h ⊢
theorem MtJ.start (ha:MtS U a) (hb:MtS U b):MtJ P U a b a b:=⟨ha,hb,_,by omega,rfl⟩
theorem MtJ.one (hM:MtH P U) (h:MtJ P U a b x y) (hl:P.getD y.toNat 0<P.getD x.toNat 0):MtJ P U a b (U.getD x.toNat 0) y∧P.getD (U.getD x.toNat 0).toNat 0<P.getD x.toNat 0∧0≤P.getD (U.getD x.toNat 0).toNat 0:=by
 obtain ⟨h1,h2,k,h3,h4⟩:=h
 have h5:=hM.pos y h2
 have h6:=hM.up x h1 W30
 refine ⟨⟨h6.1,h2,?_⟩,h6.2,hM.pos _ h6.1⟩
 match k,h3,h4 with
 | 0,h3,_=>exact absurd h3 W30
 | k+1,h3,h4 =>
   refine ⟨k,by omega,?_⟩
   rw [← h4]
   conv=>rhs;unfold mtG
   rw [if_neg (by rintro rfl;omega),if_pos hl]
theorem MtJ.two (hM:MtH P U) (h:MtJ P U a b x y) (hl:P.getD x.toNat 0<P.getD y.toNat 0):MtJ P U a b x (U.getD y.toNat 0)∧P.getD (U.getD y.toNat 0).toNat 0<P.getD y.toNat 0∧0≤P.getD (U.getD y.toNat 0).toNat 0:=by
 obtain ⟨h1,h2,k,h3,h4⟩:=h
 have h5:=hM.pos x h1
 have h6:=hM.up y h2 W30
 refine ⟨⟨h1,h6.1,?_⟩,h6.2,hM.pos _ h6.1⟩
 match k,h3,h4 with
 | 0,h3,_=>exact absurd h3 W30
 | k+1,h3,h4 =>
   refine ⟨k,by omega,?_⟩
   rw [← h4]
   conv=>rhs;unfold mtG
   rw [if_neg (by rintro rfl;omega),if_neg W30]
theorem MtJ.done (h:MtJ P U a b x y) (e:x=y):mtF P U a b=x:=by
 obtain ⟨_,_,k,_,h4⟩:=h
 rw [← h4]
 subst e
 cases k with
 | zero=>rfl
 | succ k=>unfold mtG;rw [if_pos rfl]
end
section
def idxF:List Int→Int→Int→Int
 | [],_,_=>-1
 | x::r,v,k=>if v=x then k else idxF r v (k+1)
theorem Q8x (x v k:Int) (r:List Int):idxF (x::r) v k=if v=x then k else idxF r v (k+1):=rfl
def idxJ (l:List Int) (v x:Int):Prop:=0≤x∧x≤(l.length:Int)∧idxF l v 0=idxF (l.drop x.toNat) v x
theorem idxJ.start (l:List Int) (v:Int):idxJ l v 0:=⟨jz _,by omega,rfl⟩
theorem Qg8 {l:List Int} {x:Int} (h0:0≤x) (h:x<(l.length:Int)):l.drop x.toNat=l.getD x.toNat 0::l.drop (x+1).toNat:=by
 rw [show (x+1).toNat=x.toNat+1 by omega,ki (show x.toNat<l.length by omega),Qc (show x.toNat<l.length by omega)]
theorem idxJ.next {l:List Int} {v x:Int} (h:idxJ l v x) (hx:x<(l.length:Int)) (hn:¬ v=l.getD x.toNat 0):idxJ l v (x+1):=by
 obtain ⟨h1,h2,h3⟩:=h
 refine ⟨by omega,by omega,?_⟩
 rw [h3,Qg8 h1 hx,Q8x]
 rw [if_neg hn]
theorem idxJ.found {l:List Int} {v x:Int} (h:idxJ l v x) (hx:x<(l.length:Int)) (hn:v=l.getD x.toNat 0):idxF l v 0=x:=by
 obtain ⟨h1,h2,h3⟩:=h
 rw [h3,Qg8 h1 hx,Q8x]
 rw [if_pos hn]
theorem idxJ.done {l:List Int} {v x:Int} (h:idxJ l v x) (hx:¬ x<(l.length:Int)):idxF l v 0=-1:=by
 obtain ⟨h1,h2,h3⟩:=h
 rw [h3,j8 W30]
 rfl
structure UpH (P U:List Int):Prop where
 len:P.length=U.length
 pos:∀ x:Int,0≤x→x<(U.length:Int)→0≤P.getD x.toNat 0
 up:∀ x:Int,0≤x→x<(U.length:Int)→U.getD x.toNat 0<(U.length:Int)∧(0≤U.getD x.toNat 0→P.getD (U.getD x.toNat 0).toNat 0<P.getD x.toNat 0)
def upM (P:List Int) (y:Int):Nat:=if 0≤y then (P.getD y.toNat 0).toNat+1 else 0
def upG (U:List Int) (x:Int):Nat→Int→Bool
 | 0,_=>false
 | k+1,y=>if y<0 then false else if y=x then true else upG U x k (U.getD y.toNat 0)
def upF (P U:List Int) (x y:Int):Bool:=upG U x (upM P y) y
def upJ (P U:List Int) (x b y:Int):Prop:=y<(U.length:Int)∧∃ k:Nat,upM P y≤k∧upG U x k y=upF P U x b
variable {P U:List Int} {x b y:Int}
theorem upJ.start (h:b<(U.length:Int)):upJ P U x b b:=⟨h,_,jn _,rfl⟩
theorem upJ.next (hM:UpH P U) (h:upJ P U x b y) (h0:0≤y) (hn:¬ y=x):upJ P U x b (U.getD y.toNat 0)∧upM P (U.getD y.toNat 0)<upM P y:=by
 obtain ⟨h1,k,h2,h3⟩:=h
 have h4:=hM.up y h0 h1
 have h5:upM P (U.getD y.toNat 0)<upM P y:=by
  unfold upM
  rw [if_pos h0]
  split
  ·rename_i e
   have h6:=h4.2 e
   have h7:=hM.pos _ e h4.1
   omega
  ·omega
 refine ⟨⟨h4.1,?_⟩,h5⟩
 match k,h2,h3 with
 | 0,h2,_=>exact absurd h2 W30
 | k+1,h2,h3 =>
   refine ⟨k,by omega,?_⟩
   rw [← h3]
   conv=>rhs;unfold upG
   rw [if_neg W30,if_neg hn]
theorem upJ.found (h:upJ P U x b y) (h0:0≤y) (hn:y=x):upF P U x b=true:=by
 obtain ⟨h1,k,h2,h3⟩:=h
 rw [← h3]
 match k,h2 with
 | 0,h2=>unfold upM at h2;rw [if_pos h0] at h2;exact absurd h2 W30
 | k+1,_=>unfold upG;rw [if_neg W30,if_pos hn]
theorem upJ.done (h:upJ P U x b y) (h0:¬ 0≤y):upF P U x b=false:=by
 obtain ⟨h1,k,h2,h3⟩:=h
 rw [← h3]
 match k with
 | 0=>rfl
 | k+1=>unfold upG;rw [if_pos W30]
end
end Go.Proofs.YtnddggenhefaeaaGreatDoor
end
namespace Go.Lv
structure Gr where
 n:Nat
 s:Nat
 re:Nat→Bool
 use:Nat→Nat→Bool
 dfn:Nat→Nat→Bool
 flw:Nat→List Nat
inductive Live (g:Gr):Nat→Nat→Prop
 | use {i s:Nat} (hr:g.re i=true) (h:g.use i s=true):Live g i s
 | pass {i k s:Nat} (hr:g.re i=true) (h:g.dfn i s=false) (hk:k∈g.flw i) (t:Live g k s):Live g i s
abbrev Sets:=Nat→Nat→Bool
def behind (g:Gr) (A:Sets) (i s:Nat):Bool:=(g.flw i).any fun k=>A k s
def ahead (g:Gr) (A:Sets) (i s:Nat):Bool:=g.use i s||(!g.dfn i s&&behind g A i s)
def put (A:Sets) (i:Nat) (r:Nat→Bool):Sets:=fun j=>if j=i then r else A j
structure Inv (g:Gr) (A:Sets):Prop where
 lo:∀ i s,A i s=true→Live g i s
 post:∀ i s,A i s=true→ahead g A i s=true
 off:∀ i,g.re i=false→∀ s,A i s=false
variable {g:Gr} {A:Sets}
theorem Qch {B:Sets} (h:∀ i s,A i s=true→B i s=true) {i s:Nat} (hb:behind g A i s=true):behind g B i s=true:=by
 obtain ⟨k,h1,h2⟩:=List.any_eq_true.1 hb
 exact List.any_eq_true.2 ⟨k,h1,h _ _ h2⟩
theorem Q6w {B:Sets} (h:∀ i s,A i s=true→B i s=true) {i s:Nat} (hb:ahead g A i s=true):ahead g B i s=true:=by
 simp only [ahead,jK,ji] at hb ⊢
 rcases hb with hb | ⟨h1,h2⟩
 ·exact .inl hb
 ·exact .inr ⟨h1,Qch h h2⟩
theorem Inv.none (g:Gr):Inv g (fun _ _=>false):=⟨fun _ _ h=>W181,fun _ _ h=>W181,fun _ _ _=>rfl⟩
theorem Inv.put_ (h:Inv g A) {i:Nat} (hr:g.re i=true):Inv g (put A i (ahead g A i)):=by
 have hup:∀ j s,A j s=true→Lv.put A i (ahead g A i) j s=true:=by
  intro j s hj
  unfold Lv.put
  split
  ·rename_i e;subst e;exact h.post _ _ hj
  ·exact hj
 refine ⟨fun j s hj=>?_,fun j s hj=>?_,fun j hj s=>?_⟩
 ·unfold Lv.put at hj
  split at hj
  ·rename_i e;subst e
   simp only [ahead,jK,ji,jJ] at hj
   rcases hj with hj | ⟨h1,h2⟩
   ·exact .use hr hj
   ·obtain ⟨k,h3,h4⟩:=List.any_eq_true.1 h2
    exact .pass hr h1 h3 (h.lo _ _ h4)
  ·exact h.lo _ _ hj
 ·unfold Lv.put at hj
  split at hj
  ·rename_i e;subst e
   exact Q6w hup hj
  ·exact Q6w hup (h.post _ _ hj)
 ·unfold Lv.put
  split
  ·rename_i e;subst e;rw [hr] at hj;cases hj
  ·exact h.off _ hj _
theorem Inv.done (h:Inv g A) (hfix:∀ i,g.re i=true→∀ s,ahead g A i s=A i s) (i s:Nat):A i s=true↔Live g i s:=by
 refine ⟨h.lo i s,fun t=>?_⟩
 induction t with
 | use hr hu=>rw [← hfix _ hr];simp [ahead,hu]
 | pass hr hd hk t ih=>rw [← hfix _ hr];simp only [ahead,jK,ji,hd,Bool.not_false,true_and];exact .inr (List.any_eq_true.2 ⟨_,hk,ih⟩)
def miss1 (r:Nat→Bool):Nat→Nat
 | 0=>0
 | s+1=>(if r s then 0 else 1)+miss1 r s
def miss (S:Nat) (A:Sets):Nat→Nat
 | 0=>0
 | n+1=>miss1 (A n) S+miss S A n
theorem Qb5 {r q:Nat→Bool} (h:∀ s,r s=true→q s=true):∀ S,miss1 q S≤miss1 r S
 | 0=>jn _
 | S+1=>by
   have:=Qb5 h S
   unfold miss1
   by_cases e:r S=true
   ·rw [e,h S e];simpa using this
   ·have e':r S=false:=by simpa using e
    rw [e'];split<;>simp<;>omega
theorem Qb6 {r q:Nat→Bool} (h:∀ s,r s=true→q s=true) {s:Nat} (h1:r s=false) (h2:q s=true):∀ S,s<S→miss1 q S<miss1 r S
 | 0,hs=>absurd hs W30
 | S+1,hs=>by
   unfold miss1
   by_cases e:s=S
   ·subst e;rw [h1,h2];have:=Qb5 h s;simp;omega
   ·have h3:=Qb6 h h1 h2 S W30
    by_cases e1:r S=true
    ·rw [e1,h S e1];simpa using h3
    ·have e':r S=false:=by simpa using e1
     rw [e'];split<;>simp<;>omega
theorem Q52 {S i:Nat} {r:Nat→Bool}:∀ {n:Nat},n≤i→miss S (put A i r) n=miss S A n
 | 0,_=>rfl
 | n+1,h=>by
   unfold miss
   rw [Q52 W30,show put A i r n=A n from if_neg W30]
theorem Qb7 {S i:Nat} {r:Nat→Bool}:∀ {n:Nat},i<n→miss S (put A i r) n+miss1 (A i) S=miss S A n+miss1 r S
 | 0,h=>absurd h W30
 | n+1,h=>by
   unfold miss
   by_cases e:i=n
   ·subst e;rw [Q52 (jn _),show put A i r i=r from if_pos rfl];omega
   ·rw [show put A i r n=A n from if_neg (Ne.symm e)]
    have h9:miss S (put A i r) n+miss1 (A i) S=miss S A n+miss1 r S:=Qb7 (show i<n by omega)
    omega
theorem Inv.fewer (h:Inv g A) {S n i s:Nat} (hi:i<n) (hs:s<S) (hne:ahead g A i s≠A i s):miss S (Lv.put A i (ahead g A i)) n<miss S A n:=by
 have h1:=Qb7 (S:=S) (r:=ahead g A i) (A:=A) hi
 have h3:A i s=false:=by
  cases e:A i s with
  | false=>rfl
  | true=>exact absurd ((h.post i s e).trans e.symm) hne
 have h2:=Qb6 (h.post i) h3 (by cases e:ahead g A i s with
  | true=>rfl
  | false=>exact absurd (e.trans h3.symm) hne) S hs
 omega
end Go.Lv
noncomputable section
namespace Go.Proofs.YtnddggenhefaeaaGreatDoor
open Go Go.Tx
abbrev WW:=Nat→Nat→Int
def joF (W:WW) (l:List Int):Nat→Nat→Int
 | 0=>fun _=>0
 | m+1=>joinW (joF W l m) (W (l.getD m 0).toNat) 65
def dfB (n:Nod):Bool:=decide (n.kind=1)||decide (n.kind=2)||decide (n.kind=4)
def dfF (n:Nod) (w:Nat→Int):Nat→Int:=if dfB n=true then takeW w n.slot else w
def adF (l:List Int) (w:Nat→Int):Nat→Nat→Int
 | 0=>w
 | m+1=>addW (adF l w m) (l.getD m 0)
def beF (l:List Nod) (W:WW) (i:Nat):Nat→Int:=joF W (flrL (l.getD i ua)) (flrL (l.getD i ua)).length
def ahF (l:List Nod) (W:WW) (i:Nat):Nat→Int:=adF (useL (l.getD i ua)) (dfF (l.getD i ua) (beF l W i)) (useL (l.getD i ua)).length
def putW (W:WW) (i:Nat) (r:Nat→Int):WW:=fun k=>if k=i then r else W k
abbrev SETS (ty n:Nat) (W:WW):Reg:=Reg.own ty 65 n (fun i=>wsT (W i)) none
def memW (w:Nat→Int) (s:Nat):Bool:=(w (s / 64)).toNat.testBit (s % 64)
def OkW (w:Nat→Int):Prop:=∀ j,0≤w j∧w j<18446744073709551616
theorem OkW.zero:OkW fun _=>0:=fun j=>⟨jz _,by show (0:Int)<18446744073709551616;omega⟩
theorem Q9o {a b:Int} (ha:0≤a∧a<18446744073709551616) (hb:0≤b∧b<18446744073709551616):bits .or .u64 a b=((a.toNat ||| b.toNat:Nat):Int)∧0≤bits .or .u64 a b∧bits .or .u64 a b<18446744073709551616:=by
 have h:=u64_or a b ha.1 ha.2 hb.1 hb.2
 have hx:a.toNat ||| b.toNat<2 ^ 64:=Nat.or_lt_two_pow W30 W30
 rw [h]
 exact ⟨rfl,by omega,by omega⟩
theorem Qg9 {a b:Int} (ha:0≤a∧a<18446744073709551616) (hb:0≤b∧b<18446744073709551616):bits .andNot .u64 a b=((a.toNat &&& (18446744073709551615-b.toNat):Nat):Int)∧0≤bits .andNot .u64 a b∧bits .andNot .u64 a b<18446744073709551616:=by
 have h:=u64_andNot a b ha.1 ha.2 hb.1 hb.2
 have hx:a.toNat &&& (18446744073709551615-b.toNat)≤a.toNat:=Nat.and_le_left
 rw [h]
 exact ⟨rfl,by omega,by omega⟩
theorem Q46 {k:Int} (h0:0≤k) (h:k<64):∃ p:Nat,p=2 ^ k.toNat∧shlI .u64 1 k=(p:Int)∧p<18446744073709551616:=by
 have h1:(2:Nat) ^ k.toNat<2 ^ 64:=Nat.pow_lt_pow_right W30 W30
 have e:((2:Int) ^ k.toNat)=((2 ^ k.toNat:Nat):Int):=by simp
 unfold shlI
 rw [show IntKind.bits .u64=64 from rfl,kU W30,Int.one_mul,e]
 generalize (2:Nat) ^ k.toNat=p at h1
 refine ⟨p,rfl,?_,h1⟩
 show (p:Int) % 18446744073709551616=p
 omega
theorem Qlw {w v:Nat→Int} (hw:OkW w) (hv:OkW v) (m:Nat):OkW (joinW w v m):=fun j=>by
 unfold joinW;split
 ·exact (Q9o (hw j) (hv j)).2
 ·exact hw j
theorem Qiy {w v:Nat→Int} (hw:OkW w) (hv:OkW v) {s:Nat} (hs:s<4160):memW (joinW w v 65) s=(memW w s||memW v s):=by
 unfold memW joinW
 rw [if_pos W30,(Q9o (hw _) (hv _)).1,kO,Nat.testBit_or]
theorem Gi {k:Int} (h0:0≤k):(k.tdiv 64).toNat=k.toNat / 64∧k.tmod 64=((k.toNat % 64:Nat):Int)∧0≤k.tmod 64∧k.tmod 64<64:=by
 have z1:=kR (b:=64) h0
 have z2:=Int.tmod_eq_emod_of_nonneg (b:=64) h0
 rw [z1,z2]
 omega
theorem Qd1 {k:Int} (h0:0≤k) {s:Nat} (e:k.toNat / 64=s / 64):(k.tmod 64).toNat=s % 64↔(s:Int)=k:=by
 obtain ⟨d1,d2,d3,d4⟩:=Gi h0
 rw [d2]
 omega
theorem Qoi {w:Nat→Int} (hw:OkW w) {k:Int} (h0:0≤k):OkW (addW w k):=fun j=>by
 obtain ⟨d1,d2,d3,d4⟩:=Gi h0
 obtain ⟨p,_,o1,o2⟩:=Q46 d3 d4
 unfold addW;split
 ·exact (Q9o (hw _) (by rw [o1];omega)).2
 ·exact hw j
theorem Qlx {w:Nat→Int} (hw:OkW w) {k:Int} (h0:0≤k) (s:Nat):memW (addW w k) s=(decide ((s:Int)=k)||memW w s):=by
 obtain ⟨d1,d2,d3,d4⟩:=Gi h0
 obtain ⟨p,hp,o1,o2⟩:=Q46 d3 d4
 unfold memW addW
 rw [d1]
 by_cases e:k.toNat / 64=s / 64
 ·rw [if_pos e,(Q9o (hw _) (by rw [o1];omega)).1,kO,Nat.testBit_or,o1,kO,hp,Nat.testBit_two_pow,e,Bool.or_comm]
  congr 1
  exact decide_eq_decide.2 (Qd1 h0 e)
 ·rw [if_neg e]
  have e2:¬ ((s:Int)=k):=by omega
  simp [e2]
theorem Qly {w:Nat→Int} (hw:OkW w) {k:Int} (h0:0≤k):OkW (takeW w k):=fun j=>by
 obtain ⟨d1,d2,d3,d4⟩:=Gi h0
 obtain ⟨p,_,o1,o2⟩:=Q46 d3 d4
 unfold takeW;split
 ·exact (Qg9 (hw _) (by rw [o1];omega)).2
 ·exact hw j
theorem Qiz {w:Nat→Int} (hw:OkW w) {k:Int} (h0:0≤k) (s:Nat):memW (takeW w k) s=(memW w s&&!decide ((s:Int)=k)):=by
 obtain ⟨d1,d2,d3,d4⟩:=Gi h0
 obtain ⟨p,hp,o1,o2⟩:=Q46 d3 d4
 unfold memW takeW
 rw [d1]
 by_cases e:k.toNat / 64=s / 64
 ·rw [if_pos e,(Qg9 (hw _) (by rw [o1];omega)).1,kO,Nat.testBit_and,o1,kO,e]
  have hx:(18446744073709551615-p:Nat)=2 ^ 64-(p+1):=by omega
  have hl:s % 64<64:=Nat.mod_lt _ W30
  rw [hx,Nat.testBit_two_pow_sub_succ W30,hp,Nat.testBit_two_pow,decide_eq_true hl,kJ]
  congr 2
  exact decide_eq_decide.2 (Qd1 h0 e)
 ·rw [if_neg e]
  have e2:¬ ((s:Int)=k):=by omega
  simp [e2]
theorem Qd2 {w:Nat→Int} (hw:OkW w) {k:Int} (h0:0≤k):hasW w k=memW w k.toNat:=by
 obtain ⟨d1,d2,d3,d4⟩:=Gi h0
 have h1:=hw (k.toNat / 64)
 unfold hasW memW
 rw [d1,show shrI .u64 (w (k.toNat / 64)) (k.tmod 64)=(((w (k.toNat / 64)).toNat >>> (k.toNat % 64):Nat):Int) by
  unfold shrI
  rw [show IntKind.bits .u64=64 from rfl,kU W30,d2,kO,Nat.shiftRight_eq_div_pow]
  obtain ⟨A,hA⟩:=Int.eq_ofNat_of_zero_le h1.1
  rw [hA,kO]
  rw [show ((2:Int) ^ (k.toNat % 64))=((2 ^ (k.toNat % 64):Nat):Int) by simp]
  rw [Int.fdiv_eq_ediv_of_nonneg _ (Int.natCast_nonneg _)]
  rfl]
 have h2:(w (k.toNat / 64)).toNat >>> (k.toNat % 64)<18446744073709551616:=by
  rw [Nat.shiftRight_eq_div_pow]
  have:=Nat.div_le_self (w (k.toNat / 64)).toNat (2 ^ (k.toNat % 64))
  omega
 rw [u64_and _ _ (Int.natCast_nonneg _) (by generalize (w (k.toNat / 64)).toNat >>> (k.toNat % 64)=q at h2 ⊢;omega) W30 W30,kO]
 rw [Nat.testBit_eq_decide_div_mod_eq,← Nat.shiftRight_eq_div_pow]
 have h3:(w (k.toNat / 64)).toNat >>> (k.toNat % 64) &&& (1:Int).toNat=((w (k.toNat / 64)).toNat >>> (k.toNat % 64)) % 2:=by
  show _ &&& 1=_
  rw [Nat.and_one_is_mod]
 rw [h3]
 generalize (w (k.toNat / 64)).toNat >>> (k.toNat % 64)=q
 exact decide_eq_decide.2 ⟨fun h=>by omega,fun h=>by omega⟩
theorem Qlz {w v:Nat→Int} (hw:OkW w) (hv:OkW v) (h:∀ s,s<4160→memW w s=memW v s):∀ j,j<65→w j=v j:=by
 intro j hj
 have e:(w j).toNat=(v j).toNat:=by
  refine Nat.eq_of_testBit_eq fun i=>?_
  by_cases hi:i<64
  ·have:=h (64 * j+i) W30
   unfold memW at this
   rw [show (64 * j+i) / 64=j by omega,show (64 * j+i) % 64=i by omega] at this
   exact this
  ·have h1:(w j).toNat<2 ^ i:=jO (by have:=hw j;show _<2 ^ 64;omega) (Nat.pow_le_pow_right W30 W30)
   have h2:(v j).toNat<2 ^ i:=jO (by have:=hv j;show _<2 ^ 64;omega) (Nat.pow_le_pow_right W30 W30)
   rw [Nat.testBit_lt_two_pow h1,Nat.testBit_lt_two_pow h2]
 have:=hw j;have:=hv j
 omega
theorem Qj0 {w v:Nat→Int} (h:∀ j,j<65→w j=v j) {s:Nat} (hs:s<4160):memW w s=memW v s:=by
 unfold memW;rw [h _ W30]
end Go.Proofs.YtnddggenhefaeaaGreatDoor
end
