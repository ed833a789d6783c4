/-
  A part of the proof. Text 8 of 8: Read FinA FinBack.
-/
import Derived.Test.YtmjjikcappbkeaaP4
import Derived.Deep.Slices
import Derived.ChangeArms
import Derived.WideShapes
import Derived.ChangeOld
import Derived.Test.YtmjjikcappbkeaaRows
import Derived.Test.YtmjjikcappbkeaaP7
import Derived.WalkKit
import Derived.ProofKit
import Derived.OpenShut
import Derived.JoinedCond
import Derived.Carry
set_option linter.unusedVariables false
set_option linter.unusedSimpArgs false
set_option maxRecDepth 100000
namespace Go.Proofs.Ytmjjikcappbkeaa
open Go Go.Tx
inductive Sh where
 | num (k:IntKind)
 | str
 | boo
 | sl (e size:Nat) (el:List Sh)
mutual
/-- the cells of a type -/
inductive ShT (P:Program):Nat→List Sh→Prop
 | int {t:Nat} {k:IntKind} (ht:P.underlying t=some (.int k)):ShT P t [.num k]
 | str {t:Nat} (ht:P.underlying t=some .string):ShT P t [.str]
 | bool {t:Nat} (ht:P.underlying t=some .bool):ShT P t [.boo]
 | slice {t e:Nat} {el:List Sh} (ht:P.underlying t=some (.slice e)) (hc:P.cellsOf e=el.length) (hp:0<el.length) (h:ShT P e el):ShT P t [.sl e el.length el]
 | struct {t:Nat} {fs:Array Field} {ss:List Sh} (ht:P.underlying t=some (.struct fs)) (hc:P.cellsOf t=ss.length) (h:ShF P 0 fs.toList ss):ShT P t ss
/-- .. of fields,the first of which lies at cell i -/
inductive ShF (P:Program):Nat→List Field→List Sh→Prop
 | nil {i:Nat}:ShF P i [] []
 | cons {i:Nat} {f:Field} {fs:List Field} {s1 s2:List Sh} (ho:f.offset=i) (hc:P.cellsOf f.type=s1.length) (h:ShT P f.type s1) (r:ShF P (i+s1.length) fs s2):ShF P i (f::fs) (s1++s2)
end
inductive ShC:Sh→TC→Prop
 | num {k:IntKind} (n:Int) (h:(Lit.int k n).wf=true):ShC (.num k) (.val (.int k n))
 | str (x:ByteArray):ShC .str (.val (.string x))
 | boo (x:Bool):ShC .boo (.val (.bool x))
 | sl {e size:Nat} {el:List Sh} (n:Nat) (g:Nat→List TC) (hl:∀ i,i<n→(g i).length=el.length) (h:∀ (i j:Nat) (s:Sh) (c:TC),i<n→el[j]?=some s→(g i)[j]?=some c→ShC s c) :
    ShC (.sl e size el) (.sub e size n (fun i=>nthT (g i)))
def ShL (ss:List Sh) (tl:List TC):Prop:=tl.length=ss.length∧∀ (j:Nat) (s:Sh) (c:TC),ss[j]?=some s→tl[j]?=some c→ShC s c
def inW (w:World) (b:Nat):Prop:=b<w.heap.size
def Holds (w:World) (tl:List TC) (cs:List Value):Prop:=∀ (j:Nat) (c:TC) (u:Value),tl[j]?=some c→cs[j]?=some u→RdC w (inW w) c u
theorem nthT_get {tl:List TC} {j:Nat} {c:TC} (h:tl[j]?=some c):nthT tl j=c:=by
 unfold nthT;rw [nth_eq,h]
section
variable {H:Type} {enc:TypeId×Value→H} {P:Program} {w:World}
mutual
theorem readT:∀ {t:Nat} {ss:List Sh},ShT P t ss→∀ {n:Nat} {cs:List Value} {x:DataW H×List MemPlace},DataW.trod enc P w 0 (fun _=>true) true n t cs=some x →
 cs.length=ss.length∧∃ tl:List TC,ShL ss tl∧Holds w tl cs
 | t,_,(.int (k:=k) ht),n,cs,x,h=>by
   obtain ⟨m,rfl,_,hw⟩:=DataW.trod_int ht h
   refine ⟨rfl,[.val (.int k m)],⟨rfl,fun j s c hs hc=>?_⟩,fun j c u hc hu=>?_⟩
   ·match j,hs,hc with
    | 0,hs,hc=>cases hs;cases hc;exact .num m hw
    | j+1,hs,_=>simp at hs
   ·match j,hc,hu with
    | 0,hc,hu=>cases hc;cases hu;rfl
    | j+1,hc,_=>simp at hc
 | t,_,(.str ht),n,cs,x,h=>by
   obtain ⟨m,rfl,_⟩:=DataW.trod_string ht h
   refine ⟨rfl,[.val (.string m)],⟨rfl,fun j s c hs hc=>?_⟩,fun j c u hc hu=>?_⟩
   ·match j,hs,hc with
    | 0,hs,hc=>cases hs;cases hc;exact .str m
    | j+1,hs,_=>simp at hs
   ·match j,hc,hu with
    | 0,hc,hu=>cases hc;cases hu;rfl
    | j+1,hc,_=>simp at hc
 | t,_,(.bool ht),n,cs,x,h=>by
   obtain ⟨m,rfl,_⟩:=DataW.trod_bool ht h
   refine ⟨rfl,[.val (.bool m)],⟨rfl,fun j s c hs hc=>?_⟩,fun j c u hc hu=>?_⟩
   ·match j,hs,hc with
    | 0,hs,hc=>cases hs;cases hc;exact .boo m
    | j+1,hs,_=>simp at hs
   ·match j,hc,hu with
    | 0,hc,hu=>cases hc;cases hu;rfl
    | j+1,hc,_=>simp at hc
 | t,_,(.slice (e:=e) (el:=el) ht hce hpos he),n,cs,x,h=>by
   have key:∀ (v:Value) (m:Nat) (g:Nat→List TC),(∀ i,i<m→ShL el (g i))→RdC w (inW w) (.sub e el.length m fun i=>nthT (g i)) v →
    ([v]:List Value).length=([.sl e el.length el]:List Sh).length∧∃ tl:List TC,ShL [.sl e el.length el] tl∧Holds w tl [v]:=fun v m g hg hv=>by
    refine ⟨rfl,[.sub e el.length m fun i=>nthT (g i)],⟨rfl,fun j s c hs hc=>?_⟩,fun j c u hc hu=>?_⟩
    ·match j,hs,hc with
     | 0,hs,hc=>cases hs;cases hc;exact .sl m g (fun i hi=>(hg i hi).1) (fun i j s c hi h1 h2=>(hg i hi).2 j s c h1 h2)
     | j+1,hs,_=>simp at hs
    ·match j,hc,hu with
     | 0,hc,hu=>cases hc;cases hu;exact hv
     | j+1,hc,_=>simp at hc
   rcases Go.Deep.open_slice ht h with ⟨rfl,_⟩ | ⟨a,len,cap,m,n',D,Pl,rfl,_,hlc,hcm,hm,_,hel⟩
   ·refine key _ 0 (fun _=>[]) (fun i hi=>absurd hi (Nat.not_lt_zero _)) ⟨none,0,rfl,Nat.le_refl _,by simp [maxLen],fun a ha _=>(by cases ha),fun h=>absurd h (Nat.lt_irrefl _)⟩
   ·have hm':m=cap:=by simpa using hm
    subst hm'
    have hall:∀ i,i<len→∃ tl:List TC,ShL el tl∧∃ cs',w.cells? 0 (a.add (i * P.cellsOf e)) (P.cellsOf e)=some cs'∧Holds w tl cs':=fun i hi=>by
     obtain ⟨cs',h1,h2⟩:=hel i (Nat.lt_of_lt_of_le hi hlc)
     obtain ⟨h3,tl,h4,h5⟩:=readT he h2
     exact ⟨tl,h4,cs',h1,h5⟩
    obtain ⟨g,hg⟩:=Go.Deep.choose_lt hall
    refine key _ len g (fun i hi=>(hg i hi).1) ⟨some a,m,rfl,hlc,hcm,fun ad had hp=>?_,fun hp=>⟨a,rfl,fun i j hi hj=>?_⟩⟩
    ·cases had
     obtain ⟨_,cs',h2,_⟩:=hg 0 hp
     have:=World.cells?_block h2 (by rw [hce];exact hpos)
     rw [block_add] at this
     exact ⟨this,this⟩
    ·obtain ⟨h1,cs',h2,h3⟩:=hg i hi
     obtain ⟨_,h4,h5⟩:=World.cells?_some h2
     have hjl:j<cs'.length:=by rw [h4,hce];exact hj
     refine ⟨cs'[j],?_,?_⟩
     ·rw [hce] at h5
      have:=h5 j hj
      rw [add_add] at this
      rw [this,List.getElem?_eq_getElem hjl]
     ·have hjt:j<(g i).length:=by rw [h1.1];exact hj
      show RdC w (inW w) (nthT (g i) j) _
      rw [nthT_get (List.getElem?_eq_getElem hjt)]
      exact h3 j _ _ (List.getElem?_eq_getElem hjt) (List.getElem?_eq_getElem hjl)
 | t,_,(.struct (fs:=fs) (ss:=ss) ht hc hf),n,cs,x,h=>by
   obtain ⟨xs,n',_,_,hl,hxl,hx⟩:=DataW.trod_struct ht h
   refine ⟨by rw [hl,hc],?_⟩
   have:=readF hf (n:=n') (cs:=cs) (fun f hm=>by
    obtain ⟨k,hk⟩:=List.getElem?_of_mem hm
    have hk':fs[k]?=some f:=by simpa using hk
    have hlt:k<xs.length:=by rw [hxl];exact (Array.getElem?_eq_some_iff.1 hk').1
    exact ⟨xs[k],by rw [hx k f hk',List.getElem?_eq_getElem hlt]⟩) (by rw [hl,hc];omega)
   simpa using this
theorem readF:∀ {i:Nat} {fs:List Field} {ss:List Sh},ShF P i fs ss→∀ {n:Nat} {cs:List Value},(∀ f∈fs,∃ x,DataW.trod enc P w 0 (fun _=>true) true n f.type ((cs.drop f.offset).take (P.cellsOf f.type))=some x) →
 i+ss.length≤cs.length→∃ tl:List TC,ShL ss tl∧Holds w tl (cs.drop i)
 | _,_,_,.nil,n,cs,h,hl=>⟨[],⟨rfl,fun j s c hs=>by simp at hs⟩,fun j c u hc=>by simp at hc⟩
 | i,_,_,(.cons (f:=f) (fs:=fs) (s1:=s1) (s2:=s2) ho hc hT hr),n,cs,h,hl=>by
   simp only [List.length_append] at hl
   obtain ⟨x,hx⟩:=h f (.head _)
   obtain ⟨h1,t1,h2,h3⟩:=readT hT hx
   obtain ⟨t2,h4,h5⟩:=readF hr (n:=n) (cs:=cs) (fun f' hf'=>h f' (.tail _ hf')) (by omega)
   refine ⟨t1++t2,⟨by rw [List.length_append,List.length_append,h2.1,h4.1],fun j s c hs hcj=>?_⟩,fun j c u hcj hu=>?_⟩
   ·by_cases hj:j<s1.length
    ·rw [List.getElem?_append_left hj] at hs
     rw [List.getElem?_append_left (by rw [h2.1];exact hj)] at hcj
     exact h2.2 j s c hs hcj
    ·rw [List.getElem?_append_right (by omega)] at hs
     rw [List.getElem?_append_right (by rw [h2.1];omega),h2.1] at hcj
     exact h4.2 _ s c hs hcj
   ·by_cases hj:j<s1.length
    ·rw [List.getElem?_append_left (by rw [h2.1];exact hj)] at hcj
     refine h3 j c u hcj ?_
     rw [List.getElem?_take_of_lt (by rw [hc];exact hj),ho]
     exact hu
    ·rw [List.getElem?_append_right (by rw [h2.1];omega),h2.1] at hcj
     refine h5 _ c u hcj ?_
     rw [List.getElem?_drop] at hu ⊢
     rw [show i+s1.length+(j-s1.length)=i+j by omega]
     exact hu
end
end
theorem readAt {H:Type} {enc:TypeId×Value→H} {P:Program} {w:World} {t:Nat} {ss:List Sh} {v:Value} {d:DataW H} {p:List MemPlace} (hs:ShT P t ss) (h:DataW.Trod enc P w 0 (fun _=>true) true t v d p) :
 v.cells.toList.length=ss.length∧∃ tl:List TC,ShL ss tl∧Holds w tl v.cells.toList:=by
 obtain ⟨n,hn⟩:=h
 exact readT hs hn
def Imp (w:World) (a b:List TC):Prop:=∀ (j:Nat) (c:TC) (u:Value),a[j]?=some c→RdC w (inW w) c u→RdC w (inW w) (nthT b j) u
theorem Imp.of_eq {w:World} {a b:List TC} (h:a=b):Imp w a b:=fun j c u hj hu=>by
 subst h;rw [nthT_get hj];exact hu
theorem list_of {α:Type} [Inhabited α] {w:World} {tl:α→List TC} {Q:α→Prop} {n:Nat} {g:Nat→List TC} (h:∀ i,i<n→∃ x,Imp w (g i) (tl x)∧Q x) (hd:Q default) :
 ∃ l:List α,l.length=n∧(∀ i,i<n→Imp w (g i) (tl (l.getD i default)))∧∀ i,Q (l.getD i default):=by
 obtain ⟨f,hf⟩:=Go.Deep.choose_lt h
 refine ⟨(List.range n).map f,by simp,fun i hi=>?_,fun i=>?_⟩
 ·rw [List.getD_eq_getElem?_getD,List.getElem?_map,List.getElem?_range hi]
  exact (hf i hi).1
 ·rw [List.getD_eq_getElem?_getD,List.getElem?_map]
  by_cases hi:i<n
  ·rw [List.getElem?_range hi];exact (hf i hi).2
  ·rw [List.getElem?_eq_none (by simp;omega)];exact hd
theorem row_of {α:Type} [Inhabited α] {w:World} {e size:Nat} {el:List Sh} {c:TC} {tl:α→List TC} {Q:α→Prop} (hs:size=el.length) (h:ShC (.sl e size el) c) (hx:∀ t:List TC,ShL el t→∃ x,Imp w t (tl x)∧Q x) (hd:Q default) :
 ∃ l:List α,(∀ i,Q (l.getD i default))∧∀ v,RdC w (inW w) c v→RdRow w (inW w) v size l.length (fun i j u=>RdC w (inW w) (nthT (tl (l.getD i default)) j) u):=by
 cases h with
 | sl n g hl hg =>
   obtain ⟨l,h1,h2,h3⟩:=list_of (tl:=tl) (Q:=Q) (n:=n) (g:=g) (w:=w) (fun i hi=>hx _ ⟨hl i hi,fun j s c h1 h2=>hg i j s c hi h1 h2⟩) hd
   refine ⟨l,h3,fun v hv=>?_⟩
   rw [h1]
   refine RdRow.map hv (Nat.le_refl _) (fun _ _ _=>rfl) (fun i j u hi hj hu=>?_)
   have hjl:j<(g i).length:=by rw [hl i hi,← hs];exact hj
   have:nthT (g i) j=(g i)[j]:=nthT_get (List.getElem?_eq_getElem hjl)
   have hu:RdC w (inW w) (nthT (g i) j) u:=hu
   rw [this] at hu
   exact h2 i hi j _ u (List.getElem?_eq_getElem hjl) hu
end Go.Proofs.Ytmjjikcappbkeaa
noncomputable section
namespace Go.Proofs.Ytmjjikcappbkeaa
open Go Go.Tx
theorem u8_of {n:Int} (h:(Lit.int .u8 n).wf=true):0≤n∧n≤255:=by simpa [Lit.wf,IntKind.min,IntKind.max,IntKind.signed,IntKind.bits] using h
abbrev shCls:List Sh:=[.num .u8,.num .i64,.num .i64]
theorem shT_Cls:ShT Try.prog 78 shCls:=.struct Try.underlying78 (by kernel_rfl) (.cons (s1:=[.num .u8]) (s2:=[.num .i64,.num .i64]) rfl (by kernel_rfl) (.int (by kernel_rfl)) (.cons (s1:=[.num .i64]) (s2:=[.num .i64]) rfl (by kernel_rfl) (.int (by kernel_rfl)) (.cons (s1:=[.num .i64]) (s2:=[]) rfl (by kernel_rfl) (.int (by kernel_rfl)) .nil)))
theorem of_Cls {w:World} {t:List TC} (h:ShL shCls t):∃ x:Cls,Imp w t x.tl∧True:=by
 obtain ⟨hl,hc⟩:=h
 rcases t with _ | ⟨c0,_ | ⟨c1,_ | ⟨c2,_ | ⟨c3,t⟩⟩⟩⟩
 all_goals first | (exfalso;simp at hl;done) | skip
 have h0:=hc 0 _ _ rfl rfl
 have h1:=hc 1 _ _ rfl rfl
 have h2:=hc 2 _ _ rfl rfl
 cases h0 with | num n0 w0 =>
 cases h1 with | num n1 w1 =>
 cases h2 with | num n2 w2 =>
 exact ⟨⟨n0,n1,n2⟩,Imp.of_eq rfl,trivial⟩
abbrev shIns:List Sh:=[.num .u8,.num .u8,.num .i64,.num .i64,.num .i64,.num .i64,.num .i64,.num .i64,.num .i64]
theorem shT_Ins:ShT Try.prog 135 shIns:=.struct Try.underlying135 (by kernel_rfl) (.cons (s1:=[.num .u8]) (s2:=[.num .u8,.num .i64,.num .i64,.num .i64,.num .i64,.num .i64,.num .i64,.num .i64]) rfl (by kernel_rfl) (.int (by kernel_rfl)) (.cons (s1:=[.num .u8]) (s2:=[.num .i64,.num .i64,.num .i64,.num .i64,.num .i64,.num .i64,.num .i64]) rfl (by kernel_rfl) (.int (by kernel_rfl)) (.cons (s1:=[.num .i64]) (s2:=[.num .i64,.num .i64,.num .i64,.num .i64,.num .i64,.num .i64]) rfl (by kernel_rfl) (.int (by kernel_rfl)) (.cons (s1:=[.num .i64]) (s2:=[.num .i64,.num .i64,.num .i64,.num .i64,.num .i64]) rfl (by kernel_rfl) (.int (by kernel_rfl)) (.cons (s1:=[.num .i64]) (s2:=[.num .i64,.num .i64,.num .i64,.num .i64]) rfl (by kernel_rfl) (.int (by kernel_rfl)) (.cons (s1:=[.num .i64]) (s2:=[.num .i64,.num .i64,.num .i64]) rfl (by kernel_rfl) (.int (by kernel_rfl)) (.cons (s1:=[.num .i64]) (s2:=[.num .i64,.num .i64]) rfl (by kernel_rfl) (.int (by kernel_rfl)) (.cons (s1:=[.num .i64]) (s2:=[.num .i64]) rfl (by kernel_rfl) (.int (by kernel_rfl)) (.cons (s1:=[.num .i64]) (s2:=[]) rfl (by kernel_rfl) (.int (by kernel_rfl)) .nil)))))))))
theorem of_Ins {w:World} {t:List TC} (h:ShL shIns t):∃ x:Ins,Imp w t x.tl∧insK x:=by
 obtain ⟨hl,hc⟩:=h
 rcases t with _ | ⟨c0,_ | ⟨c1,_ | ⟨c2,_ | ⟨c3,_ | ⟨c4,_ | ⟨c5,_ | ⟨c6,_ | ⟨c7,_ | ⟨c8,_ | ⟨c9,t⟩⟩⟩⟩⟩⟩⟩⟩⟩⟩
 all_goals first | (exfalso;simp at hl;done) | skip
 have h0:=hc 0 _ _ rfl rfl
 have h1:=hc 1 _ _ rfl rfl
 have h2:=hc 2 _ _ rfl rfl
 have h3:=hc 3 _ _ rfl rfl
 have h4:=hc 4 _ _ rfl rfl
 have h5:=hc 5 _ _ rfl rfl
 have h6:=hc 6 _ _ rfl rfl
 have h7:=hc 7 _ _ rfl rfl
 have h8:=hc 8 _ _ rfl rfl
 cases h0 with | num n0 w0 =>
 cases h1 with | num n1 w1 =>
 cases h2 with | num n2 w2 =>
 cases h3 with | num n3 w3 =>
 cases h4 with | num n4 w4 =>
 cases h5 with | num n5 w5 =>
 cases h6 with | num n6 w6 =>
 cases h7 with | num n7 w7 =>
 cases h8 with | num n8 w8 =>
 exact ⟨⟨n0,n1,n2,n3,n4,n5,n6,n7,n8⟩,Imp.of_eq rfl,⟨u8_of w0,u8_of w1⟩⟩
abbrev shCor:List Sh:=[.str,.sl 135 9 shIns]
theorem shT_Cor:ShT Try.prog 131 shCor:=.struct Try.underlying131 (by kernel_rfl) (.cons (s1:=[.str]) (s2:=[.sl 135 9 shIns]) rfl (by kernel_rfl) (.str (by kernel_rfl)) (.cons (s1:=[.sl 135 9 shIns]) (s2:=[]) rfl (by kernel_rfl) (.slice (el:=shIns) (by kernel_rfl) (by kernel_rfl) (by decide) shT_Ins) .nil))
theorem insK_dflt:insK default:=by unfold insK;decide
theorem of_Cor {w:World} {t:List TC} (h:ShL shCor t):∃ x:Cor,Imp w t x.tl∧∀ b,insK (x.code.getD b default):=by
 obtain ⟨hl,hc⟩:=h
 rcases t with _ | ⟨c0,_ | ⟨c1,_ | ⟨c2,t⟩⟩⟩
 all_goals first | (exfalso;simp at hl;done) | skip
 have h0:=hc 0 _ _ rfl rfl
 have h1:=hc 1 _ _ rfl rfl
 cases h0 with | str n0 =>
 obtain ⟨code,hq,hr⟩:=row_of (w:=w) (tl:=Ins.tl) (Q:=insK) rfl h1 (fun t ht=>of_Ins ht) insK_dflt
 refine ⟨⟨n0,code⟩,fun j c u hj hu=>?_,hq⟩
 match j,hj with
 | 0,hj=>cases hj;exact hu
 | 1,hj=>cases hj;exact hr u hu
 | j+2,hj=>simp at hj
theorem of_Int {w:World} {t:List TC} (h:ShL [.num .i64] t):∃ x:Int,Imp w t [.val (.int .i64 x)]∧True:=by
 obtain ⟨hl,hc⟩:=h
 rcases t with _ | ⟨c,_ | ⟨c',t⟩⟩
 ·simp at hl
 ·have h0:=hc 0 _ _ rfl rfl
  cases h0 with | num n w =>
  exact ⟨n,Imp.of_eq rfl,trivial⟩
 ·simp at hl
abbrev shObj:List Sh:=[.sl 2 1 [.num .i64],.num .i64,.num .i64,.num .i64,.sl 131 2 shCor]
theorem shT_Obj:ShT Try.prog 48 shObj:=.struct Try.underlying48 (by kernel_rfl)
 (.cons (s1:=[.sl 2 1 [.num .i64]]) (s2:=[.num .i64,.num .i64,.num .i64,.sl 131 2 shCor]) rfl (by kernel_rfl) (.slice (el:=[.num .i64]) (by kernel_rfl) (by kernel_rfl) (by decide) (.int (by kernel_rfl)))
 (.cons (s1:=[.num .i64]) (s2:=[.num .i64,.num .i64,.sl 131 2 shCor]) rfl (by kernel_rfl) (.int (by kernel_rfl))
 (.cons (s1:=[.num .i64]) (s2:=[.num .i64,.sl 131 2 shCor]) rfl (by kernel_rfl) (.int (by kernel_rfl))
 (.cons (s1:=[.num .i64]) (s2:=[.sl 131 2 shCor]) rfl (by kernel_rfl) (.int (by kernel_rfl))
 (.cons (s1:=[.sl 131 2 shCor]) (s2:=[]) rfl (by kernel_rfl) (.slice (el:=shCor) (by kernel_rfl) (by kernel_rfl) (by decide) shT_Cor) .nil)))))
theorem shT_Clss:ShT Try.prog 26 [.sl 78 3 shCls]:=.slice (el:=shCls) (by kernel_rfl) (by kernel_rfl) (by decide) shT_Cls
section
variable {H:Type} {enc:TypeId×Value→H} {W:World} {base:Nat}
theorem row_ok {ε:Env} {M:Nat→Prop} {v:Value} {size n:Nat} {f:Nat→Nat→TC} (h:RdRow W (inW W) v size n (fun i j u=>RdC W (inW W) (f i j) u)):RegOk ε M W ⟨v,inW W⟩ (.row size n f none):=⟨h,trivial⟩
theorem rows_ok {ε:Env} {pre:List Reg} (hl:ε.length=pre.length) (hx:pre.all (fun r=>!r.excl)=true) (hf:∀ i,i<pre.length→ε.fp i=inW W) (h:∀ i r,pre[i]?=some r→RegOk ε (Base.at_ pre ε W).M W (ε.ent i) r) :
 RegsOk ε (Base.at_ pre ε W).M (Base.at_ pre ε W).L W pre:=by
 have hx':∀ (i:Nat) (r:Reg),pre[i]?=some r→r.excl=false:=fun i r hi=>by simpa using List.all_eq_true.1 hx r (List.mem_of_getElem? hi)
 refine ⟨hl,h,fun i r hi hlv b hb=>?_,fun i r hi he=>?_,fun i j ri rj _ hi _ he=>?_⟩
 ·have hi':=(List.getElem?_eq_some_iff.1 hi).1
  have hb':b<W.heap.size:=by rw [hf i hi'] at hb;exact hb
  exact ⟨hb',.inr ⟨i,r,hi,hlv,hb⟩⟩
 ·rw [hx' i r hi] at he;cases he
 ·rw [hx' i ri hi] at he;cases he
theorem open_obj {v:Value} {d:DataW H} {p:List MemPlace} (hv:Value.okWide Try.prog W .any base 48 v) (h:DataW.Trod enc Try.prog W 0 (fun _=>true) true 48 v d p) :
 ∃ (u0 u4:Value) (mem:List Int) (sh lk bu:Int) (cs:List Cor),v=.agg #[u0,.int .i64 sh,.int .i64 lk,.int .i64 bu,u4] ∧
  RdRow W (inW W) u0 1 mem.length (fun i j u=>RdC W (inW W) (i64T (mem.getD i 0) j) u)∧RdRow W (inW W) u4 2 cs.length (fun i j u=>RdC W (inW W) ((cs.getD i default).tc j) u) ∧
  ∀ a b:Nat,insK ((cs.getD a default).code.getD b default):=by
 obtain ⟨cs0,rfl,hsz⟩:=Go.WideShapes.okWide_struct Try.underlying48 hv
 obtain ⟨hlen,tl,⟨hl,hc⟩,hh⟩:=readAt shT_Obj h
 have hlen:cs0.toList.length=5:=hlen
 rcases tl with _ | ⟨c0,_ | ⟨c1,_ | ⟨c2,_ | ⟨c3,_ | ⟨c4,_ | ⟨c5,t⟩⟩⟩⟩⟩⟩
 all_goals first | (exfalso;simp at hl;done) | skip
 obtain ⟨l,rfl⟩:∃ l:List Value,cs0=l.toArray:=⟨cs0.toList,by simp⟩
 simp only [List.toList_toArray] at hlen
 rcases l with _ | ⟨u0,_ | ⟨u1,_ | ⟨u2,_ | ⟨u3,_ | ⟨u4,_ | ⟨u5,t⟩⟩⟩⟩⟩⟩
 all_goals first | (exfalso;simp at hlen;done) | skip
 have h0:=hc 0 _ _ rfl rfl
 have h1:=hc 1 _ _ rfl rfl
 have h2:=hc 2 _ _ rfl rfl
 have h3:=hc 3 _ _ rfl rfl
 have h4:=hc 4 _ _ rfl rfl
 have g0:=hh 0 _ _ rfl rfl
 have g1:=hh 1 _ _ rfl rfl
 have g2:=hh 2 _ _ rfl rfl
 have g3:=hh 3 _ _ rfl rfl
 have g4:=hh 4 _ _ rfl rfl
 cases h1 with | num sh w1 =>
 cases h2 with | num lk w2 =>
 cases h3 with | num bu w3 =>
 obtain ⟨mem,_,hm⟩:=row_of (w:=W) (α:=Int) (tl:=fun n=>[.val (.int .i64 n)]) (Q:=fun _=>True) rfl h0 (fun t ht=>of_Int ht) trivial
 obtain ⟨cs,hq,hr⟩:=row_of (w:=W) (tl:=Cor.tl) (Q:=fun x:Cor=>∀ b,insK (x.code.getD b default)) rfl h4 (fun t ht=>of_Cor ht) (fun b=>by
  rw [List.getD_eq_getElem?_getD];exact insK_dflt)
 have e1:u1=.int .i64 sh:=g1
 have e2:u2=.int .i64 lk:=g2
 have e3:u3=.int .i64 bu:=g3
 subst e1 e2 e3
 exact ⟨u0,u4,mem,sh,lk,bu,cs,rfl,hm u0 g0,hr u4 g4,hq⟩
theorem open_clss {v:Value} {d:DataW H} {p:List MemPlace} (hv:Value.okWide Try.prog W .any base 26 v) (h:DataW.Trod enc Try.prog W 0 (fun _=>true) true 26 v d p):∃ l:List Cls,RdRow W (inW W) v 3 l.length (fun i j u=>RdC W (inW W) ((l.getD i default).tc j) u):=by obtain ⟨a,len,cap,rfl⟩:=Go.WideShapes.okWide_slice Try.underlying26 hv;obtain ⟨hlen,tl,⟨hl,hc⟩,hh⟩:=readAt shT_Clss h;(rcases tl with _ | ⟨c0,_ | ⟨c1,t⟩⟩<;>first | (exfalso;simp at hl;done) | (obtain ⟨l,_,hr⟩:=row_of (w:=W) (tl:=Cls.tl) (Q:=fun _:Cls=>True) rfl (hc 0 _ _ rfl rfl) (fun t ht=>of_Cls ht) trivial;exact ⟨l,hr _ (hh 0 _ _ rfl rfl)⟩))
end
end Go.Proofs.Ytmjjikcappbkeaa
end
noncomputable section
namespace Go.Proofs.Ytmjjikcappbkeaa.lawRealiseBack
open Go.ChangeShapes Go.WideShapes Go.ChangeAt Go.RowKit Go.Tx
theorem laidT:laidOutB Try.prog=true:=by kernel_rfl
theorem own:ownKnob Try.prog.godebug=none:=by kernel_rfl
theorem results:Try.f4.resultTypes=#[4]:=by kernel_rfl
section
variable {H:Type} {enc:TypeId×Value→H} {W:World} {base:Nat}
theorem shT_Ints:ShT Try.prog 27 [.sl 3 1 [.num .i64]]:=.slice (el:=[.num .i64]) (by kernel_rfl) (by kernel_rfl) (by decide) (.int (by kernel_rfl))
theorem open_ints {v:Value} {d:DataW H} {p:List MemPlace} (hv:Value.okWide Try.prog W .any base 27 v) (h:DataW.Trod enc Try.prog W 0 (fun _=>true) true 27 v d p) :
 ∃ l:List Int,RdRow W (inW W) v 1 l.length (fun i j u=>RdC W (inW W) (i64T (l.getD i 0) j) u):=by
 obtain ⟨a,len,cap,rfl⟩:=Go.WideShapes.okWide_slice Try.underlying27 hv
 obtain ⟨hlen,tl,⟨hl,hc⟩,hh⟩:=readAt shT_Ints h
 rcases tl with _ | ⟨c0,_ | ⟨c1,t⟩⟩
 all_goals first | (exfalso;simp at hl;done) | skip
 obtain ⟨l,_,hr⟩:=row_of (w:=W) (α:=Int) (tl:=fun n=>[.val (.int .i64 n)]) (Q:=fun _=>True) rfl (hc 0 _ _ rfl rfl) (fun t ht=>of_Int ht) trivial
 exact ⟨l,hr _ (hh 0 _ _ rfl rfl)⟩
end
theorem contract (H:Type) (enc:TypeId×Value→H) (W:World) (base:Nat) (args:Array Value) (ds gs:List (DataW H)) (before:List MemPlace)
 (hval:∀ (j:Nat) t v,Try.f4.params[j]?=some t→args[j]?=some v→Value.okWide Try.prog W .any base t v)
 (hW:DataW.Whole enc Try.prog Try.f4.params.toList Rows.realiseBackSpec.vars false W args.toList ds gs before) (hk:Rows.uptoSmall H (ds++gs)=true) :
 Calls Try.prog 4 args W fun e W'=>∃ v,e=.returned v∧Rows.realiseBackSpec.post enc Try.prog Try.f4 false true false false W args v W':=by
 have hW':=hW
 have hlt:=hW.lt
 obtain ⟨p,q,hA0,hV,rfl,hfz,hnd⟩:=hW
 have hA:DataW.TrodAll enc Try.prog W 0 (fun _=>true) true Try.f4.params.toList args.toList ds p:=hA0
 rw [Try.params4] at hA hval
 obtain ⟨v0,vs0,d0,ds0,p0,q0,hargs0,rfl,rfl,h0,r0⟩:=trodAll_cons hA
 obtain ⟨v1,vs1,d1,ds1,p1,q1,hargs1,rfl,rfl,h1,r1⟩:=trodAll_cons r0
 obtain ⟨v2,vs2,d2,ds2,p2,q2,hargs2,rfl,rfl,h2,r2⟩:=trodAll_cons r1
 obtain ⟨v3,vs3,d3,ds3,p3,q3,hargs3,rfl,rfl,h3,r3⟩:=trodAll_cons r2
 obtain ⟨rfl,rfl,rfl⟩:=trodAll_nil r3
 obtain rfl:args=#[v0,v1,v2,v3]:=by cases args;simp_all
 obtain ⟨rfl,rfl⟩:=trodVars_none hV
 clear hA0
 have hv0:=hval 0 48 v0 rfl rfl
 have hv1:=hval 1 26 v1 rfl rfl
 have hv2:=hval 2 27 v2 rfl rfl
 have hv3:=hval 3 3 v3 rfl rfl
 obtain ⟨cl,hrc⟩:=open_clss hv1 h1
 obtain ⟨order,hro⟩:=open_ints hv2 h2
 obtain ⟨most,rfl⟩:=Go.WideShapes.okWide_int Try.underlying3 hv3
 obtain ⟨u0,u4,mem,sh,lk,bu,cs,rfl,hr0,hr4,hw⟩:=open_obj hv0 h0
 have hregs:RegsOk ([⟨u0,inW W⟩,⟨u4,inW W⟩,⟨v1,inW W⟩,⟨v2,inW W⟩]:Env) (Base.at_ [WordRow mem,Cor.rowR cs,Cls.rowR cl,IntRow order] [⟨u0,inW W⟩,⟨u4,inW W⟩,⟨v1,inW W⟩,⟨v2,inW W⟩] W).M (Base.at_ [WordRow mem,Cor.rowR cs,Cls.rowR cl,IntRow order] [⟨u0,inW W⟩,⟨u4,inW W⟩,⟨v1,inW W⟩,⟨v2,inW W⟩] W).L W [WordRow mem,Cor.rowR cs,Cls.rowR cl,IntRow order]:=by
  refine rows_ok rfl rfl (fun i hi=>?_) (fun i r hi=>?_)
  ·match i,hi with
   | 0,_=>rfl
   | 1,_=>rfl
   | 2,_=>rfl
   | 3,_=>rfl
   | i+4,hi=>exact absurd hi (by simp)
  ·match i,hi with
   | 0,hi=>cases hi;exact row_ok hr0
   | 1,hi=>cases hi;exact row_ok hr4
   | 2,hi=>cases hi;exact row_ok hrc
   | 3,hi=>cases hi;exact row_ok hro
   | i+4,hi=>simp at hi
 refine ((c_back mem sh lk bu cs hw cl order most) [⟨u0,inW W⟩,⟨u4,inW W⟩,⟨v1,inW W⟩,⟨v2,inW W⟩] W hregs).mono fun e W' hret=>?_
 obtain ⟨res,post,ε',⟨rfl,_⟩,rfl,_,_,hfr⟩:=hret
 have hb:Below W.heap.size W W':=⟨hfr.os,hfr.tape,hfr.output,hfr.size,fun k hk=>hfr.block k hk (fun ⟨i,r,hi,he,_⟩=>by
  match i,hi with
  | 0,hi=>cases hi;cases he
  | 1,hi=>cases hi;cases he
  | 2,hi=>cases hi;cases he
  | 3,hi=>cases hi;cases he
  | i+4,hi=>simp at hi)⟩
 refine ⟨_,rfl,_,_,_,[],p0++(p1++(p2++(p3++[]))),[],hW',?_,?_,?_,hb.frame _,fun h=>by cases h⟩
 ·rw [results]
  exact trodAll_cons_mk (shut_bool Try.underlying4 _) trodAll_mk0
 ·rw [Try.params4]
  exact (trodAll_cons_mk (WideElems.Trod_stays laidT (by kernel_rfl) (of_decide_eq_true (by kernel_rfl)) h0 (fun p hp=>hb.same (hlt p (by simp [hp]))) (fun p hp=>by simpa using hlt p (by simp [hp]))) (trodAll_cons_mk (WideElems.Trod_stays laidT (by kernel_rfl) (of_decide_eq_true (by kernel_rfl)) h1 (fun p hp=>hb.same (hlt p (by simp [hp]))) (fun p hp=>by simpa using hlt p (by simp [hp]))) (trodAll_cons_mk (WideElems.Trod_stays laidT (by kernel_rfl) (of_decide_eq_true (by kernel_rfl)) h2 (fun p hp=>hb.same (hlt p (by simp [hp]))) (fun p hp=>by simpa using hlt p (by simp [hp]))) (trodAll_cons_mk (WideElems.Trod_stays laidT (by kernel_rfl) (of_decide_eq_true (by kernel_rfl)) h3 (fun p hp=>hb.same (hlt p (by simp [hp]))) (fun p hp=>by simpa using hlt p (by simp [hp]))) trodAll_mk0))))
 ·rfl
set_option maxRecDepth 100000 in
theorem lifted (os:Os) (started:os.Started) (H:Type) (enc:TypeId×Value→H) (F:Stop.Interp) :
 ReturnsInHanded {} Try.checked os 4 .any ((Rows.OpenSpec.upto Rows.realiseBackSpec).pre6 enc Try.prog Try.f4 Rows.realiseBackUptoRow.domain false) (((Rows.OpenSpec.upto Rows.realiseBackSpec).at F).post enc Try.prog Try.f4 false true false false):=by
 refine returnsInHanded_of_cond (C:=Try.checked) (s:=Rows.OpenSpec.upto Rows.realiseBackSpec) (k:=Rows.uptoSmall) rfl own started (by kernel_rfl) Try.func4
  (OpenSpec.witness (enc:=enc) (C:=Try.checked) (s:=Rows.OpenSpec.upto Rows.realiseBackSpec) (k:=Rows.uptoSmall) rfl false ⟨#[],#[.agg #[.slice none 0 0,.int .i64 0,.int .i64 0,.int .i64 0,.slice none 0 0],.slice none 0 0,.slice none 0 0,.int .i64 0],[]⟩ 8 (by kernel_rfl) (by kernel_rfl) (by kernel_rfl)
    (x:=([.agg [.nil,.lit (.int .i64 0),.lit (.int .i64 0),.lit (.int .i64 0),.nil],.nil,.nil,.lit (.int .i64 0)],[],[])) (by kernel_rfl) rfl (by kernel_rfl)) ?_
 intro W base args ds gs before hval hW _ hk _
 exact contract H enc W base args ds gs before hval hW hk
theorem proved:Rows.RealiseBackUptoSaid:=
 OpenClaim.holds_of_cond 4 Try.f4 rfl rfl rfl rfl rfl rfl rfl ⟨rfl,rfl,rfl,rfl,rfl⟩ rfl rfl rfl rfl rfl (by kernel_rfl) Try.func4 (by kernel_rfl)
  (of_decide_eq_true (by kernel_rfl)) (by unfold Func.isWrapper;first | (rw [if_pos (by decide +kernel)];kernel_rfl) | (rw [if_neg (by decide +kernel)];exact ⟨rfl,rfl⟩))
  (fun os started H enc _ F=>lifted os started H enc F)
end Go.Proofs.Ytmjjikcappbkeaa.lawRealiseBack
end
