/-
  A part of the proof. Text 3 of 10: TxF TxV TxR TxS TxT TxY TxQ TxX.
-/
import Derived.Test.YtnddggenhefaeaaGreatDoorP2
import Derived.Deep.LoopGhost
import Derived.Laws.Cover3
set_option linter.unusedSimpArgs false
set_option linter.unusedVariables false
set_option linter.unusedSectionVars false
open Go.Sem renaming run->kJ,run_pure->jz,run_bind->jp
open Nat renaming le_of_ble_eq_true->jx,beq->jr,ble->kH,eq_of_beq_eq_true->jf,le_refl->jo,zero_add->ko,blt->kv,le_trans->kf,lt_of_lt_of_le->jN
open List renaming map_congr_left->ki,mem_append_left->j5,map_cons->jW,getElem?_cons_zero->jH,length->jV,getElem?_map->jy,getD_eq_getElem?_getD->jc,getElem?_eq_getElem->jh,ext_getElem?->kD,getElem?_append_left->jI,getElem?_eq_none->kd,mem_of_getElem?->jB,length_map->jK,append_nil->jR,length_cons->kj,getElem_mem->jT,getElem?_append_right->jJ,length_append->jm,getElem?_set_ne->j6,length_set->jq,getElem?_set_self->kp,mem_cons_of_mem->j7
open Bool renaming and_eq_true->jg,not_eq_true'->jC,or_eq_true->jQ,false_eq_true->jY
open Option renaming map_some->jX
open Go.Result renaming andThen_ok->jk
namespace Go
theorem W248{p:Prop}(h:p:=by simpa using h1):p:=h
theorem W276{p:Prop}(h:p:=by rw[List.getElem?_set_self (by omega)]):p:=h
theorem W300{p:Prop}(h:p:=by simpa using h2):p:=h
end Go
namespace Go.Tx
open Go Go.RowKit
theorem Q1{P : Program}{f : Nat}{fn : Func}(hf : P.funcs[f]? = some fn)(hb : fn.body.isSome = true)(hn : (fn.name == "runtime.NumGoroutine") = false) : Enters P f := λargs w => by
 have hb':fn.body≠none:=λe=>by rw[e] at hb;cases hb
 simp_all[callFunc,program,kJ]
def C.ren(τ:Nat->Nat):C->C
 |.p r off=>.p (τ r) off
 |.h r=>.h (τ r)
 |.e r sz ix off=>.e (τ r) sz ix off
 |.fn f bd caps=>.fn f bd (caps.map τ)
 |.ar r sz0 ix0 off sz len ix off2=>.ar (τ r) sz0 ix0 off sz len ix off2
 |.hs r lo n=>.hs (τ r) lo n
 |c=>c
def SV.ren(τ:Nat->Nat):SV->SV
 |.c x=>.c (x.ren τ)
 |.agg cs=>.agg (cs.map (C.ren τ))
 |.tup vs=>.tup (vs.map λv=>(v.1,v.2.map (C.ren τ)))
 |.u=>.u
def focRen(τ:Nat->Nat):Option (Nat×List C)->Option (Nat×List C)
 |none=>none
 |some x=>some (x.1,x.2.map (C.ren τ))
def Reg.ren(τ:Nat->Nat):Reg->Reg
 |.box ty cells=>.box ty (cells.map (C.ren τ))
 |.own ty size n f foc=>.own ty size n f (focRen τ foc)
 |.row size n f foc=>.row size n f (focRen τ foc)
 |.ro cells=>.ro (cells.map (C.ren τ))
 |.mpv T z n ents=>.mpv T z n (ents.map λx=>(x.1,x.2.ren τ))
 |.mpr T ty sz n f o=>.mpr T ty sz n f (o.map λx=>(x.1,τ x.2.1,x.2.2))
 |r=>r
def at'(l:List Nat)(i:Nat):Nat:=match nth l i with
 |some x=>x
 |none=>0
theorem Q2o{ε ε':Env}{τ:Nat->Nat}{n:Nat}(h:∀r,r<n->ε'.at_ (τ r)=ε.at_ r){c:C}(hs:c.scp n=true):(c.ren τ).den ε'=c.den ε:=by
 cases c<;>simp only[C.scp] at hs<;>simp only[C.ren,C.den];case hs=>rw[h _ (jx hs)]
 rw[h _ (jx hs)];rw[h _ (jx hs)];rw[h _ (jx hs)];rename_i f bd caps;congr 1;simp_all;rw[h _ (jx hs)]
theorem Z0{ε ε':Env}{τ:Nat->Nat}{n:Nat}(h:∀r,r<n->ε'.at_ (τ r)=ε.at_ r){cs:List C}(hs:cs.all (C.scp n)=true):(cs.map (C.ren τ)).map (C.den ε')=cs.map (C.den ε):=by
 grind[List.map_map,ki,Q2o]
theorem Gd{ε ε':Env}{τ:Nat->Nat}{n:Nat}(h:∀r,r<n->ε'.at_ (τ r)=ε.at_ r){s:SV}(hs:s.scp n=true):(s.ren τ).den ε'=s.den ε:=by
 cases s with|c x=>exact Q2o h hs|agg cs=>simp only[SV.ren,SV.den,Z0 h hs]|tup vs =>simp only[SV.ren,SV.den,List.map_map];congr 2;refine ki λv hv=>?_;have:=List.all_eq_true.1 hs v hv;simp only[denPart,Function.comp,Z0 h this]|u=>rfl
def beqL:List Nat->List Nat->Bool
 |[],[]=>true
 |x::r,y::r'=>jr x y&&beqL r r'
 |_,_=>false
def kindB(a b:IntKind):Bool:=decide (a=b)
def MrEq(T:MT)(ty sz n:Nat)(f:KA T.K->Nat×(Nat->Nat->TC))(T':MT)(ty' sz' n':Nat)(f':KA T'.K->Nat×(Nat->Nat->TC)):Prop:=
 ∃h:T'=T,ty=ty'/\sz=sz'/\n'<=n/\∀a,(f (h▸a)).1=(f' a).1/\∀i,i<(f' a).1->(f (h▸a)).2 i=(f' a).2 i
inductive F where
 |n (a b:Nat)
 |i (a b:Int)
 |b (a b:Bool)
 |v (a b:Value)
 |t (a b:TC)
 |fn (n:Nat) (f g:Nat->Nat->TC)
 |fx (n k:Nat) (f g:Nat->Nat->TC)
 |ex (a b:Ext)
 |p (p:Prop)
 |rg (a b:Reg)
 |mq (T:MT) (n:Nat) (has:KA T.K->Bool) (f:KA T.K->KA T.V) (T':MT) (n':Nat) (has':KA T'.K->Bool) (f':KA T'.K->KA T'.V) (it':Option (MIt T'.K))
 |mr (T:MT) (ty sz n:Nat) (f:KA T.K->Nat×(Nat->Nat->TC)) (T':MT) (ty' sz' n':Nat) (f':KA T'.K->Nat×(Nat->Nat->TC))
def F.prop:F->Prop
 |.n x y=>x=y
 |.i x y=>x=y
 |.b x y=>x=y
 |.v x y=>x=y
 |.t x y=>x=y
 |.fn m f g=>∀i,i<m->f i=g i
 |.fx m k f g=>∀i,i<m->i≠k->f i=g i
 |.ex x y=>x=y
 |.p x=>x
 |.rg x y=>x=y
 |.mq T m has f T' m' has' f' it'=>MpEq T m has f none T' m' has' f' it'
 |.mr T ty sz m f T' ty' sz' m' f'=>MrEq T ty sz m f T' ty' sz' m' f'
def AllF(l:List F):Prop:=∀p∈l,p.prop
theorem AllF.left{l r:List F}(h:AllF (l++r)):AllF l:=λp hp=>h p (j5 _ hp)
theorem AllF.right{l r:List F}(h:AllF (l++r)):AllF r:=λp hp=>h p (List.mem_append_right _ hp)
theorem AllF.one{p:F}(h:AllF [p]):p.prop:=h p (.head _)
theorem AllF.head{p:F}{l:List F}(h:AllF (p::l)):p.prop:=h p (.head _)
theorem AllF.tail{p:F}{l:List F}(h:AllF (p::l)):AllF l:=λq hq=>h q (.tail _ hq)
def cEq:C->C->Option (List F)
 |.i k n,.i k' m=>if kindB k k' then some [.i n m] else none
 |.b x,.b y=>some [.b x y]
 |.b x,.t y=>some [.b x y]
 |.t x,.b y=>some [.b x y]
 |.t x,.t y=>if beqB x y then some [] else none
 |.v x,.v y=>some [.v x y]
 |.v x,.i k n=>some [.v x (.int k n)]
 |.i k n,.v x=>some [.v (.int k n) x]
 |.v x,.b y=>some [.v x (.bool y)]
 |.b y,.v x=>some [.v (.bool y) x]
 |.p r o,.p r' o'=>if jr r r'&&jr o o' then some [] else none
 |.h r,.h r'=>if jr r r' then some [] else none
 |.e r sz ix o,.e r' sz' ix' o'=>if jr r r'&&jr sz sz'&&jr o o' then some [.n ix ix'] else none
 |.fn f bd cs,.fn f' bd' cs'=>if jr f f'&&beqB bd bd'&&beqL cs cs' then some [] else none
 |.h r,.v (.slice none 0 0)=>if kH 1000000 r then some [] else none
 |.ar r sz0 ix0 off sz len ix off2,.ar r' sz0' ix0' off' sz' len' ix' off2'=>if jr r r'&&jr sz0 sz0'&&jr off off'&&jr sz sz'&&jr off2 off2' then some [.n ix0 ix0',.n len len',.n ix ix'] else none
 |_,_=>none
def cEqs:List C->List C->Option (List F)
 |[],[]=>some []
 |x::r,y::r'=>match cEq x y,cEqs r r' with
   |some a,some b=>some (a++b)
   |_,_=>none
 |_,_=>none
def tEqs:List (Bool×List C)->List (Bool×List C)->Option (List F)
 |[],[]=>some []
 |(a,x)::r,(b,y)::r'=>if beqB a b then
     match cEqs x y,tEqs r r' with
     |some a,some b=>some (a++b)
     |_,_=>none
   else none
 |_,_=>none
def sEq:SV->SV->Option (List F)
 |.c x,.c y=>cEq x y
 |.agg xs,.agg ys=>cEqs xs ys
 |.tup xs,.tup ys=>tEqs xs ys
 |.u,.u=>some []
 |_,_=>none
def sEqs:List SV->List SV->Option (List F)
 |[],[]=>some []
 |x::r,y::r'=>match sEq x y,sEqs r r' with
   |some a,some b=>some (a++b)
   |_,_=>none
 |_,_=>none
theorem Qfr:∀{a b:List Nat},beqL a b=true->a=b
 |[],[],_=>rfl
 |x::r,y::r',h=>by simp only[beqL,jg] at h;rw[jf h.1,Qfr h.2]
 |[],_::_,h=>by cases h
 |_::_,[],h=>by
  cases h
theorem Q2p{ε:Env}{r:Nat}(h:ε.length<=r):ε.ent r=⟨.slice none 0 0,λ_=>False⟩:=by
 unfold Env.ent;grind
theorem Qcv{ε:Env}{r:Nat}(h:ε.length<=r):ε.at_ r=.slice none 0 0:=by
 unfold Env.at_;rw[Q2p h]
theorem Qax{ε:Env}(hε:ε.length<=1000000){x y:C}{vc:List F}(h:cEq x y=some vc)(hv:AllF vc):x.den ε=y.den ε:=by
 unfold cEq at h;split at h<;>first|(cases h;done)|(cases h;have:=hv.one;grind[F.prop,C.den])|(cases h;have:=hv.one;dsimp only[F.prop] at this;simp only[C.den];exact this)|(split at h;rename_i hb;cases h;(first|(have e:=kR hb;have:=hv.one;grind[F.prop,C.den])|(have e:=Zt.1 hb;subst e;rfl)|(simp only[jg] at hb;have e1:=jf hb.1.1;have e2:=jf hb.1.2;have e3:=jf hb.2;have:=hv.one;dsimp only[F.prop] at this;subst e1 e2 e3 this;rfl)|(simp only[jg] at hb;have e1:=jf hb.1;simp_all)|(simp only[jg] at hb;have e1:=jf hb.1;have e2:=jf hb.2;subst e1 e2;rfl)|(simp only[jg] at hb;have e1:=jf hb.1.1;have e3:=Zt.1 hb.1.2;have e2:=Qfr hb.2;subst e1 e2 e3;rfl)|(have e1:=jf hb;subst e1;rfl)|(have e1:=jx hb;simp only[C.den];exact Qcv W48)|(simp only[jg] at hb;obtain⟨⟨⟨⟨b1,b2⟩,b3⟩,b4⟩,b5⟩:=hb;have e1:=jf b1;have e2:=jf b2;have e3:=jf b3;have e4:=jf b4;have e5:=jf b5;have e6:=hv.head;have e7:=hv.tail.head;have e8:=hv.tail.tail.one;dsimp only[F.prop] at e6 e7 e8;subst e1 e2 e3 e4 e5 e6 e7 e8;rfl));cases h)
theorem Yu{ε:Env}(hε:ε.length<=1000000):∀{x y:List C} {vc:List F},cEqs x y=some vc->AllF vc->x.map (C.den ε)=y.map (C.den ε)
 |[],[],_,_,_=>rfl
 |x::r,y::r',vc,h,hv=>by simp only[cEqs] at h;split at h;rename_i h1 h2;cases h;simp only[jW,Qax hε h1 hv.left,Yu hε h2 hv.right];cases h
 |[],_::_,_,h,_=>by cases h
 |_::_,[],_,h,_=>by
  cases h
theorem Q88{ε:Env}(hε:ε.length<=1000000):∀{x y:List (Bool×List C)} {vc:List F},tEqs x y=some vc->AllF vc->x.map (denPart ε)=y.map (denPart ε)
 |[],[],_,_,_=>rfl
 |(a,x)::r,(b,y)::r',vc,h,hv=>by simp only[tEqs] at h;split at h;rename_i hb;have:=Zt.1 hb;subst this;split at h;rename_i h1 h2;cases h;simp only[jW,denPart,Yu hε h1 hv.left,Q88 hε h2 hv.right];cases h;cases h
 |[],_::_,_,h,_=>by cases h
 |_::_,[],_,h,_=>by
  cases h
theorem Q4z{ε:Env}(hε:ε.length<=1000000){x y:SV}{vc:List F}(h:sEq x y=some vc)(hv:AllF vc):x.den ε=y.den ε:=by
 cases x<;>cases y<;>simp only[sEq,reduceCtorEq] at h;exact Qax hε h hv;simp only[SV.den,Yu hε h hv];simp only[SV.den,Q88 hε h hv];rfl
theorem Q3j{ε:Env}(hε:ε.length<=1000000):∀{x y:List SV} {vc:List F},sEqs x y=some vc->AllF vc->x.map (SV.den ε)=y.map (SV.den ε)
 |[],[],_,_,_=>rfl
 |x::r,y::r',vc,h,hv=>by simp only[sEqs] at h;split at h;rename_i h1 h2;cases h;simp only[jW,Q4z hε h1 hv.left,Q3j hε h2 hv.right];cases h
 |[],_::_,_,h,_=>by cases h
 |_::_,[],_,h,_=>by
  cases h
def flatVal:C->Option Value
 |.i k n=>some (.int k n)
 |.b x=>some (.bool x)
 |.t x=>some (.bool x)
 |.v y=>some y
 |_=>none
def flatCells(f:Nat->TC):Nat->List C->Option (List F)
 |_,[]=>some []
 |j,c::cs=>match flatVal c,flatCells f (j+1) cs with
   |some v,some l=>some (.t (f j) (.val v)::l)
   |_,_=>none
theorem Qf7{c:C}{v:Value}(ε:Env)(h:flatVal c=some v):c.den ε=v:=by
 cases c<;>simp only[flatVal,Option.some.injEq,reduceCtorEq] at h<;>subst h<;>rfl
theorem Jc(ε:Env){f:Nat->TC}:∀{cs:List C} {j0:Nat} {vc:List F},flatCells f j0 cs=some vc->AllF vc->∀q x,cs[q]?=some x->f (j0+q)=.val (x.den ε)
 |[],_,_,_,_,q,x,hx=>by simp at hx
 |c::cs,j0,vc,h,hv,q,x,hx=>by
  simp only[flatCells] at h;split at h;rename_i v l h1 h2;cases h;cases q with|zero =>simp only[jH,Option.some.injEq] at hx;subst hx;rw[Qf7 ε h1];exact hv.head|succ q =>have:=Jc ε h2 hv.tail q x (by simpa using hx);grind
  cases h
theorem Q50{K:List CK}(τ:Nat->Nat):∀(l:List (KA K×C)) (q:KA K),entOf (l.map λx=>(x.1,x.2.ren τ)) q=(entOf l q).map (C.ren τ)
 |[],_=>rfl
 |(a,c)::r,q=>by
  simp only[jW,entOf];split;rfl;exact Q50 τ r q
theorem Q2q{K:List CK}{τ:Nat->Nat}(l:List (KA K×C))(q:KA K):(entOf (l.map λx=>(x.1,x.2.ren τ)) q).isSome=(entOf l q).isSome:=by
 rw[Q50];cases entOf l q<;>rfl
theorem Qcw{ε ε':Env}{τ:Nat->Nat}{n:Nat}(hτ:∀r,r<n->ε'.at_ (τ r)=ε.at_ r){K:List CK}{z:Value}{l:List (KA K×C)}(hsc:l.all (λx=>x.2.scp n)=true):entV ε' z (l.map λx=>(x.1,x.2.ren τ))=entV ε z l:=by
 funext q;unfold entV;rw[Q50];cases h:entOf l q with|none=>rfl|some c=>exact Q2o hτ (Q4u hsc h)
theorem MrEq.mk'{T:MT}{ty sz n n':Nat}{f f':KA T.K->Nat×(Nat->Nat->TC)}(h1:n'<=n)(h2:∀a,(f a).1=(f' a).1/\∀i,i<(f' a).1->(f a).2 i=(f' a).2 i):MrEq T ty sz n f T ty sz n' f':=⟨rfl,rfl,rfl,h1,h2⟩
theorem MrEq.apply{ε ε':Env}{w:World}{M fp:Nat->Prop}{T T':MT}{h:Value}{ty sz n ty' sz' n':Nat}{f:KA T.K->Nat×(Nat->Nat->TC)}{f':KA T'.K->Nat×(Nat->Nat->TC)}(e:MrEq T ty sz n f T' ty' sz' n' f')
 (hm:MapR ε' w M fp T' ty' sz' h n' f' none):MapR ε w M fp T ty sz h n f none:=by
  obtain⟨hT,rfl,rfl,h1,h2⟩:=e;subst hT;obtain⟨has,hd,fb,fps,⟨ok,b,D,g1,g2,g3,g4,g5⟩,g6,g7,g8,g9,g10⟩:=hm;refine⟨has,hd,fb,fps,⟨ok,b,D,g1,g2,g3,g4,World.ownsMap.mono g5 h1⟩,g6,g7,g8,λa _=>?_,λa q st e=>by cases e⟩;have h3:=g9 a W207;obtain⟨k1,k2⟩:=h2 a;have k1':(f a).1=(f' a).1:=k1;rw[k1'];refine OwnRow.map (w':=w) h3 (λ_ _ _=>rfl) (λi j fp' u hi _ _ hu=>?_);simp_all
def regMatch(τ:Nat->Nat)(want have_:Reg):Option (List F):=
 match want,have_ with
 |.dead,_=>some []
 |.box ty cs,.box ty' cs'=>if jr ty ty' then cEqs (cs.map (C.ren τ)) cs' else none
 |.own ty sz n f none,.own ty' sz' n' f' none=>if jr ty ty'&&jr sz sz' then some [.n n n',.fn n f f'] else none
 |.own ty sz n f (some (k,cs)),.own ty' sz' n' f' (some (k',cs'))=>if jr ty ty'&&jr sz sz' then(cEqs (cs.map (C.ren τ)) cs').map ([.n n n',.n k k',.fx n k f f']++·) else none
 |.row sz n f none,.row sz' n' f' _=>if jr sz sz' then some [.n n n',.fn n f f'] else none
 |.row sz n f (some (k,cs)),.row sz' n' f' (some (k',cs'))=>if jr sz sz' then(cEqs (cs.map (C.ren τ)) cs').map ([.n n n',.n k k',.fn n f f']++·) else none
 |.row sz n f none,.own _ sz' n' f' none=>if jr sz sz' then some [.n n n',.fn n f f'] else none
 |.ro cs,.box _ cs'=>cEqs (cs.map (C.ren τ)) cs'
 |.ro cs,.ro cs'=>cEqs (cs.map (C.ren τ)) cs'
 |.own ty sz n f none,.own ty' sz' n' f' (some (k,cs))=>if jr ty ty'&&jr sz sz' then(flatCells (f k) 0 cs).map ([.n n n',.fx n k f f']++·) else none
 |.one,.one=>some []
 |.froz X,.froz X'=>some [.ex X X']
 |.row sz n f none,.own _ sz' n' f' (some (k,cs))=>if jr sz sz' then(flatCells (f k) 0 cs).map ([.n n n',.fx n k f f']++·) else none
 |.mp T n has f none,.mp T' n' has' f' it'=>some [.mq T n has f T' n' has' f' it']
 |.mp T n has f it,.mp T' n' has' f' it'=>some [.p (MpEq T n has f it T' n' has' f' it')]
 |.mpv T z n ents,.mpv T' z' n' ents'=>some [.rg (.mpv T z n (ents.map λx=>(x.1,x.2.ren τ))) (.mpv T' z' n' ents')]
 |.mpr T ty sz n f none,.mpr T' ty' sz' n' f' none=>some [.mr T ty sz n f T' ty' sz' n' f']
 |.itr q,.itr q'=>some [.n q q']
 |.one,.own _ _ _ _ _=>some []
 |.one,.row _ _ _ _=>some []
 |_,_=>none
def nilMatch(want:Reg):Option (List F):=
 match want with
 |.dead=>some []
 |.own _ _ n _ none=>some [.n n 0]
 |.row _ n _ none=>some [.n n 0]
 |.one=>some []
 |_=>none
theorem Qay{ε:Env}{M:Nat->Prop}{w:World}{e:Ent}{sz n n':Nat}{f f':Nat->Nat->TC}(hr:RdRow w e.fp e.h sz n' (λi j u=>RdC w e.fp (f' i j) u))(e1:n=n')(e2:∀i,i<n->f i=f' i):RegOk ε M w e (.row sz n f none):=by
 subst e1;exact⟨hr.map (jo _) (λ_ _ _=>rfl) (λi j u hi hj hu=>by show RdC w e.fp (f i j) u;rw[e2 i hi];exact hu),trivial⟩
theorem Qj7{ε ε':Env}{τ:Nat->Nat}{n:Nat}{cs cs':List C}(hτ:∀r,r<n->ε.at_ (τ r)=ε'.at_ r)(hsc:cs.all (C.scp n)=true)(hc:(cs.map (C.ren τ)).map (C.den ε)=cs'.map (C.den ε)) :
 cs.length=cs'.length/\∀(j:Nat) (x:C),cs'[j]?=some x->∃y:C,cs[j]?=some y/\y.den ε'=x.den ε:=by
  rw[Z0 hτ hsc] at hc;refine⟨by simpa using congrArg jV hc,λj x hj=>?_⟩;have e1:(cs.map (C.den ε'))[j]?=some (x.den ε):=by rw[hc,jy,hj];rfl
  grind
theorem Q2r{ε ε':Env}(hε:ε.length<=1000000){M:Nat->Prop}{w:World}{e:Ent}{τ:Nat->Nat}{n:Nat}{want have_:Reg}{vc:List F}(hτ:∀r,r<n->ε.at_ (τ r)=ε'.at_ r)(hsc:want.scp n=true)(hm:regMatch τ want have_=some vc)(hv:AllF vc)
 (hlt:have_.live=true->∀b,e.fp b->b<w.heap.size) (hr:RegOk ε M w e have_):RegOk ε' M w e want:=by
  unfold regMatch at hm;split at hm;trivial;rename_i ty cs ty' cs';split at hm;rename_i hb;have:=jf hb;subst this;have hc:=Yu (ε:=ε) hε hm hv;obtain⟨g,h1,h2,h3,h4⟩:=hr;refine⟨g,h1,h2,h3,?_⟩;rw[<- Z0 hτ hsc,hc];exact h4;cases hm;rename_i ty sz n1 f ty' sz' n' f';split at hm;rename_i hb;simp only[jg] at hb;cases hm;have h1:=jf hb.1;have h2:=jf hb.2;have e1:=hv.head;have e2:=hv.tail.one;dsimp only[F.prop] at e1 e2;subst h1 h2 e1;exact⟨OwnRow.map hr.1 (λ_ _ _=>rfl) (λi j fp' u hi _ _ hu=>by show OwnC w M (f i j) fp' u;rw[e2 i hi];exact hu),trivial⟩;cases hm;rename_i ty sz n1 f k cs ty' sz' n' f' k' cs';split at hm;rename_i hb;simp only[jg] at hb;obtain⟨vc1,hm1,he⟩:=map_nil hm;subst he;have h1:=jf hb.1;have h2:=jf hb.2;have e1:=hv.left.head;have e2:=hv.left.tail.head;have e3:=hv.left.tail.tail.one;dsimp only[F.prop] at e1 e2 e3;subst h1 h2 e1 e2;obtain⟨c1,c2⟩:=Qj7 hτ hsc (Yu (ε:=ε) hε hm1 hv.right);refine⟨OwnRow.map hr.1 (λ_ _ _=>rfl) (λi j fp' u hi _ _ hu=>⟨λhik=>?_,λhik=>?_⟩),hr.2.1,c1.trans hr.2.2⟩;rw[e3 i hi hik];exact hu.1 hik;obtain⟨x,hx,he⟩:=hu.2 hik;grind;cases hm;rename_i sz n1 f sz' n' f' foc;split at hm;rename_i hb;cases hm;have h1:=jf hb;subst h1;refine Qay (ε:=ε') (M:=M) (hr.1.map (jo _) (λ_ _ _=>rfl) (λi j u _ _ hu=>?_)) hv.head hv.tail.one;cases foc with|none=>exact hu|some kc=>exact hu.1
  cases hm;rename_i sz n1 f k cs sz' n' f' k' cs';split at hm;rename_i hb;obtain⟨vc1,hm1,he⟩:=map_nil hm;subst he;have h1:=jf hb;have e1:=hv.left.head;have e2:=hv.left.tail.head;have e3:=hv.left.tail.tail.one;dsimp only[F.prop] at e1 e2 e3;subst h1 e1 e2;obtain⟨c1,c2⟩:=Qj7 hτ hsc (Yu (ε:=ε) hε hm1 hv.right);refine⟨hr.1.map (jo _) (λ_ _ _=>rfl) (λi j u hi _ hu=>⟨by rw[e3 i hi];exact hu.1,λhik=>?_⟩),hr.2.1,c1.trans hr.2.2⟩;obtain⟨x,hx,he⟩:=hu.2 hik;grind;cases hm;rename_i sz n1 f ty' sz' n' f';split at hm;rename_i hb;cases hm;have h1:=jf hb;subst h1;exact Qay (ε:=ε') (M:=M) (Z4 hr.1 (λi j fp' u _ _ hf hu=>Zw (f' i j) hf hu)) hv.head hv.tail.one;cases hm;rename_i cs ty' cs';have hc:=Yu (ε:=ε) hε hm hv;obtain⟨g,h1,h2,h3,h4⟩:=hr;refine⟨_,h1,hlt rfl g h3,h3,λj x hx=>?_⟩;rw[<- hc,Z0 hτ hsc] at h4;rw[Jl h4];simp[hx];rename_i cs cs';have hc:=Yu (ε:=ε) hε hm hv;rw[Z0 hτ hsc] at hc;obtain⟨A,h1,h2,h3,h4⟩:=hr;refine⟨A,h1,h2,h3,λj x hx=>?_⟩;have e1:(cs'.map (C.den ε))[j]?=some (x.den ε'):=by rw[<- hc,jy,hx];rfl
  grind;rename_i ty sz n1 f ty' sz' n' f' k cs;split at hm;rename_i hb;simp only[jg] at hb;obtain⟨vc1,hm1,he⟩:=map_nil hm;subst he;have h1:=jf hb.1;have h2:=jf hb.2;have e1:=hv.left.head;have e3:=hv.left.tail.one;dsimp only[F.prop] at e1 e3;subst h1 h2 e1;refine⟨OwnRow.map hr.1 (λ_ _ _=>rfl) (λi j fp' u hi _ _ hu=>?_),trivial⟩;show OwnC w M (f i j) fp' u;by_cases hik:i=k;obtain⟨x,hx,he⟩:=hu.2 hik;have:=Jc ε hm1 hv.right j x hx;rw[ko] at this;rw[hik,this];exact he;rw[e3 i hi hik];exact hu.1 hik;cases hm;exact hr;cases hm;have e1:=hv.one;dsimp only[F.prop] at e1;subst e1;exact hr;rename_i sz n1 f ty' sz' n' f' k cs;split at hm;rename_i hb;obtain⟨vc1,hm1,he⟩:=map_nil hm;subst he;have h1:=jf hb;have e1:=hv.left.head;have e3:=hv.left.tail.one;dsimp only[F.prop] at e1 e3;subst h1 e1;refine⟨Z4 hr.1 (λi j fp' u hi _ hf hu=>?_),trivial⟩;show RdC w e.fp (f i j) u;by_cases hik:i=k;obtain⟨x,hx,he⟩:=hu.2 hik;have:=Jc ε hm1 hv.right j x hx;rw[ko] at this;rw[hik,this];exact he;rw[e3 i hi hik];exact Zw (f' i j) hf (hu.1 hik);cases hm;cases hm;have e1:=hv.one;dsimp only[F.prop] at e1;exact MpEq.apply e1 hr;cases hm;exact MpEq.apply hv.one hr;cases hm;rename_i T z n1 ents T' z' n' ents';have e1:Reg.mpv T z n1 (ents.map λx=>(x.1,x.2.ren τ))=.mpv T' z' n' ents':=hv.one;rw[<- e1] at hr;have hr':MapV w M e.fp T z e.h n1 (λq=>(entOf (ents.map λx=>(x.1,x.2.ren τ)) q).isSome) (entV ε z (ents.map λx=>(x.1,x.2.ren τ))):=hr;rw[Qcw (ε:=ε') (ε':=ε) hτ hsc,funext (Q2q ents)] at hr';exact hr';cases hm;have e1:=hv.one;dsimp only[F.prop] at e1;exact MrEq.apply e1 hr;cases hm;have e1:=hv.one;dsimp only[F.prop] at e1;subst e1;exact hr;exact Q3d hr rfl;exact Q3d hr rfl;cases hm
theorem Q9e{ε':Env}{M:Nat->Prop}{w:World}{want:Reg}{vc:List F}(hm:nilMatch want=some vc)(hv:AllF vc):RegOk ε' M w ⟨.slice none 0 0,λ_=>False⟩ want:=by
 unfold nilMatch at hm;split at hm;trivial;cases hm;have:=hv.one;dsimp only[F.prop] at this;subst this;exact⟨Q5u,trivial⟩;cases hm;have:=hv.one;dsimp only[F.prop] at this;subst this;exact⟨⟨none,0,rfl,jo _,by simp[maxLen],λa h=>W268,λh=>absurd h W48⟩,trivial⟩;show Value.oneCell' (.slice none 0 0)=true;rfl;cases hm
def regsMatch(τ:Nat->Nat)(have_:List Reg):List Nat->List Reg->Option (List F)
 |[],[]=>some []
 |p::π,r::want=>match(match nth have_ p with|some h=>regMatch τ r h|none=>if kH 1000000 p then nilMatch r else none),regsMatch τ have_ π want with
   |some vc,some vc'=>some (vc++vc')
   |_,_=>none
 |_,_=>none
theorem Gw{ε ε':Env}(hε:ε.length<=1000000){M L:Nat->Prop}{w:World}{τ:Nat->Nat}{n:Nat}{have_:List Reg}(hτ:∀r,r<n->ε.at_ (τ r)=ε'.at_ r)(hr:RegsOk ε M L w have_) :
 ∀{π:List Nat} {want:List Reg} {vc:List F},want.all (Reg.scp n)=true->regsMatch τ have_ π want=some vc->AllF vc->π.length=want.length/\∀(j:Nat) (r:Reg),want[j]?=some r->∃(p:Nat),π[j]?=some p/\RegOk ε' M w (ε.ent p) r/\((∃h vc',have_[p]?=some h/\regMatch τ r h=some vc')\/have_.length<=p)
 |[],[],vc,_,_,_=>⟨rfl,λj r h=>by simp at h⟩
 |p::π,r::want,vc,hsc,h,hv=>by simp only[List.all_cons,jg] at hsc;simp only[regsMatch] at h;split at h;rename_i vc1 vc2 h1 h2;cases h;obtain⟨l1,l2⟩:=Gw hε hτ hr hsc.2 h2 hv.right;refine⟨by simp[l1],λj r' hj=>?_⟩;(cases j with|zero =>cases hj;refine⟨p,rfl,?_⟩;split at h1;rename_i hh hn;have hn:=Qd hn;exact⟨Q2r hε hτ hsc.1 h1 hv.left (λhl b hb=>(hr.lt p hh hn hl b hb).1) (hr.reg p hh hn),.inl ⟨hh,vc1,hn,h1⟩⟩;rename_i hn;split at h1;rename_i hp;have hp:=jx hp;rw[Q2p W48];refine⟨Q9e h1 hv.left,.inr ?_⟩;rw[<- hr.len];omega;cases h1|succ j=>simpa using l2 j r' W299);cases h
 |[],r::want,vc,_,h,_=>by cases h
 |p::π,[],vc,_,h,_=>by
  cases h
def liveIx:List Nat->List Reg->List Nat
 |p::π,r::w=>if r.live then p::liveIx π w else liveIx π w
 |_,_=>[]
theorem Q89:∀{π:List Nat} {w:List Reg} {j p:Nat} {r:Reg},π[j]?=some p->w[j]?=some r->r.live=true->p∈liveIx π w
 |[],_,j,p,r,h,_,_=>by simp at h
 |_::_,[],j,p,r,_,h,_=>by simp at h
 |q::π,x::w,0,p,r,h1,h2,h3=>by grind[jH,Option.some.injEq,liveIx]
 |q::π,x::w,j+1,p,r,h1,h2,h3=>by
  have:=Q89 (π:=π) (w:=w) (j:=j) W248 W300 h3;grind[liveIx]
def exIx:List Nat->List Reg->List Nat
 |p::π,r::w=>if r.excl then p::exIx π w else exIx π w
 |_,_=>[]
theorem Qcx:∀{π:List Nat} {w:List Reg} {j p:Nat} {r:Reg},π[j]?=some p->w[j]?=some r->r.excl=true->p∈exIx π w
 |[],_,j,p,r,h,_,_=>by simp at h
 |_::_,[],j,p,r,_,h,_=>by simp at h
 |q::π,x::w,0,p,r,h1,h2,h3=>by grind[jH,Option.some.injEq,exIx]
 |q::π,x::w,j+1,p,r,h1,h2,h3=>by
  have:=Qcx (π:=π) (w:=w) (j:=j) W248 W300 h3;grind[exIx]
def okIx:List Nat->List Reg->Bool
 |p::π,r::w=>!(r.excl&&hasN p (liveIx π w))&&!(r.live&&hasN p (exIx π w))&&okIx π w
 |_,_=>true
theorem Qcy:∀{π:List Nat} {w:List Reg} {i j p:Nat} {ri rj:Reg},okIx π w=true->i≠j->w[i]?=some ri->w[j]?=some rj->ri.excl=true->rj.live=true->π[i]?=some p->π[j]?=some p->False
 |[],_,i,_,_,_,_,_,_,_,_,_,_,h,_=>by simp at h
 |_::_,[],i,_,_,_,_,_,_,h,_,_,_,_,_=>by simp at h
 |q::π,x::w,i,j,p,ri,rj,hd,hij,h1,h2,h3,h4,h5,h6=>by
  simp only[okIx,jg,jC] at hd;cases i with|zero=>(cases j with|zero=>exact hij rfl|succ j =>grind[jH,Option.some.injEq,Gc,Q89,absurd,decide])|succ i=>cases j with|zero =>grind[jH,Option.some.injEq,Gc,Qcx,absurd,decide]|succ j=>exact Qcy hd.2 (λe=>hij (congrArg (·+1) e)) W248 W300 h3 h4 (by simpa using h5) (by simpa using h6)
theorem Qz{τ:Nat->Nat}{want have_:Reg}{vc:List F}(h:regMatch τ want have_=some vc):(want.excl=true->have_.excl=true)/\(want.live=true->have_.live=true):=by
 unfold regMatch at h;grind[Reg.excl,Reg.live]
theorem Q2s(ε:Env)(l:List Nat){j p:Nat}(h:l[j]?=some p):Env.ent (l.map ε.ent) j=ε.ent p:=by
 unfold Env.ent;rw[jc,jy,h];rfl
theorem Q13(ε:Env)(l:List Nat){j p:Nat}(h:l[j]?=some p):Env.at_ (l.map ε.ent) j=ε.at_ p:=by
 unfold Env.at_;rw[Q2s ε l h]
theorem Yb(ε:Env)(l:List Nat){j p:Nat}(h:l[j]?=some p):Env.fp (l.map ε.ent) j=ε.fp p:=by
 unfold Env.fp;rw[Q2s ε l h]
theorem Q14{l:List Nat}{j p:Nat}(h:l[j]?=some p):at' l j=p:=by
 unfold at';rw[Qq,h]
theorem Yh{τ:Nat->Nat}{have_:List Reg}:∀{π:List Nat} {want:List Reg} {vc:List F},regsMatch τ have_ π want=some vc->π.length=want.length
 |[],[],_,_=>rfl
 |p::π,r::want,vc,h=>by simp only[regsMatch] at h;split at h;rename_i h2;simp[Yh h2];cases h
 |[],r::want,vc,h=>by cases h
 |p::π,[],vc,h=>by
  cases h
theorem RegsOk.renum{ε:Env}(hε:ε.length<=1000000){M L:Nat->Prop}{w:World}{have_:List Reg}(hs:RegsOk ε M L w have_){π:List Nat}{want:List Reg}{vc:List F}(hsc:want.all (Reg.scp want.length)=true)(hd:okIx π want=true)
 (hm:regsMatch (at' π) have_ π want=some vc) (hv:AllF vc):RegsOk (π.map ε.ent) M L w want:=by
  have hl:=Yh hm;have hτ:∀r,r<want.length->ε.at_ (at' π r)=Env.at_ (π.map ε.ent) r:=λr hr=>by simp_all[some,jh,Q13,Q14]
  obtain⟨_,h1⟩:=Gw hε hτ hs hsc hm hv;have out:∀p b,have_.length<=p->¬ε.fp p b:=λp b hp hb=>by unfold Env.fp at hb;rw[Q2p (by rw[hs.len];exact hp)] at hb;exact hb
  refine⟨by simp[hl],λi r hi=>?_,λi r hi hlv b hb=>?_,λi r hi hex b hb=>?_,λi j ri rj hij hi hj he hlv b hb hb'=>?_⟩;grind[Q2s];obtain⟨p,hp,_,⟨h,vc',hh,hm1⟩|ho⟩:=h1 i r hi;rw[Yb ε π hp] at hb;exact hs.lt p h hh ((Qz hm1).2 hlv) b hb;simp_all[Yb,absurd];obtain⟨p,hp,_,⟨h,vc',hh,hm1⟩|ho⟩:=h1 i r hi;rw[Yb ε π hp] at hb;exact hs.lim p h hh ((Qz hm1).1 hex) b hb;simp_all[Yb,absurd];obtain⟨p,hp,_,⟨h,vc',hh,hm1⟩|ho⟩:=h1 i ri hi;obtain⟨q,hq,_,⟨h',vc'',hh',hm2⟩|ho'⟩:=h1 j rj hj;rw[Yb ε π hp] at hb;rw[Yb ε π hq] at hb';have hpq:p≠q:=λe=>by subst e;exact Qcy hd hij hi hj he hlv hp hq
  exact hs.sep p q h h' hpq hh hh' ((Qz hm1).1 he) ((Qz hm2).2 hlv) b hb hb';simp_all[Yb,absurd];simp_all[Yb,absurd]
def frMatch(τ:Nat->Nat)(have_:List En):List En->Option (List F)
 |[]=>some []
 |e::r=>match e.g,lookup e.slot have_,frMatch τ have_ r with
   |[],some e',some vc=>match e'.g with
     |[]=>(sEq (e.sv.ren τ) e'.sv).map (·++vc)
     |_=>none
   |_,_,_=>none
def idOn(π:List Nat):Nat->Bool
 |0=>true
 |n+1=>(match nth π n with|some p=>jr p n|none=>false)&&idOn π n
theorem Q1s{π:List Nat}:∀{n:Nat},idOn π n=true->∀i,i<n->π[i]?=some i
 |0,_,i,hi=>by omega
 |n+1,h,i,hi=>by
  simp only[idOn,jg] at h;by_cases hin:i=n;grind[Qq,jf];exact Q1s h.2 i W48
def ent(n0:Nat)(π:List Nat)(st st':St):Option (List F):=
 if jr st.N st'.N&&kH st.rg.length 1000000&&kH n0 st.rg.length&&okIx π st'.rg&&idOn π n0&&kH n0 st'.rg.length&&st'.scp&&(!st.rd||st'.rd) then
  match regsMatch (at' π) st.rg π st'.rg,frMatch (at' π) st.fr st'.fr with
  |some vc,some vc'=>some (vc++vc')
  |_,_=>none
 else none
theorem Q4c{ε:Env}(hε:ε.length<=1000000){a:Act}{N n:Nat}{π:List Nat}{have_:List En}(hh:∀e∈have_,EnOk ε N a e)(hl:π.length=n):∀{want:List En} {vc:List F},(∀e∈want,e.sv.scp n=true)->frMatch (at' π) have_ want=some vc->AllF vc->∀e∈want,EnOk (π.map ε.ent) N a e
 |[],_,_,_,_,_,h=>by cases h
 |e::r,vc,hsc,h,hv,e1,he1=>by
  simp only[frMatch] at h;split at h;rename_i e' vc' hg hlk hr;split at h;rename_i hg';obtain⟨vs,hvs,he⟩:=map_nil h;subst he;cases he1 with|head =>obtain⟨hm,hsl⟩:=Yy hlk;obtain⟨h1,h2,h3⟩:=hh e' hm;rw[hsl] at h1 h2 h3;rw[hg'] at h2;have hval:=h2 (gHolds_nil a);refine⟨h1,λ_=>?_,λhn=>absurd W306 hn⟩;rw[hval,<- Q4z (ε:=ε) hε hvs hv.left];refine Gd (n:=n) (λr hr=>?_) (hsc _ (.head _));simp_all[some,jh,Q13,Q14]|tail _ he1=>exact Q4c hε hh hl (λe he=>hsc e (.tail _ he)) hr hv.right e1 he1
  cases h;cases h
theorem Qcz{ε:Env}{b:List Value}{π:List Nat}{n0:Nat}(hb:b.length=n0)(hpre:b <+: ε.hs)(hid:∀i,i<n0->π[i]?=some i):b <+: Env.hs (π.map ε.ent):=by
 rw[List.prefix_iff_eq_take];apply kD;intro i;rw[List.getElem?_take,hb];by_cases hi:i<n0;rw[if_pos hi];unfold Env.hs;rw[jy,jy,hid i hi];obtain⟨t,ht⟩:=hpre;have hlt:i<b.length:=by omega
 have h1:ε.hs[i]?=b[i]?:=by rw[<- ht,jI hlt]
 unfold Env.hs at h1;rw[jy] at h1;have h2:b[i]?=some b[i]:=jh hlt;rw[h2] at h1;cases hx:ε[i]? with|none=>rw[hx] at h1;cases h1|some x =>rw[hx] at h1;simp only[jX,Option.some.injEq] at h1⊢;rw[h2];unfold Env.ent;rw[jc,hx,<- h1];rfl
 rw[if_neg hi,kd W48]
theorem Jw{b:Base}{n0:Nat}(hb:b.e.length=n0){π:List Nat}{st st':St}{vc:List F}(h:ent n0 π st st'=some vc)(hv:AllF vc){a:Act}{w:World}(hs:Sat b st a w):Sat b st' a w:=by
 obtain⟨ε,hs⟩:=hs;unfold ent at h;split at h;rename_i hc;simp only[jg] at hc;obtain⟨⟨⟨⟨⟨⟨⟨c1,c6⟩,c7⟩,c2⟩,c3⟩,c4⟩,c5⟩,c8⟩:=hc;have hε:ε.length<=1000000:=by rw[hs.regs.len];exact jx c6
 split at h;rename_i vc1 vc2 h1 h2;cases h;obtain⟨s1,s2⟩:=Ql c5;have hN:=jf c1;have hl:=Yh h1;have hregs:=hs.regs.renum hε s2 c2 h1 hv.left;refine⟨π.map ε.ent,⟨⟨hs.defs.1,λhrd=>hs.defs.2 (by simpa[hrd] using c8)⟩,by rw[<- hN];exact hs.size,?_,hregs,hs.below,Qcz hb hs.pre (Q1s c3)⟩⟩;rw[<- hN];exact Q4c hε hs.fr hl s1 h2 hv.right;cases h;cases h
def Rets(b:Base)(S:SV->List Reg->Prop)(e:Ending)(w':World):Prop:=
 ∃(res:SV) (post:List Reg) (ε':Env),S res post/\e=.returned (res.den ε')/\b.e <+: ε'.hs/\RegsOk ε' b.M b.L w' post/\Fr b.m b.w w'
structure Cfg where
 k:List K
 st:St
class Wide (P:Program):Prop where
 mixed:P.follows .mixedOrders=true
def Tgt:=Base->Exit->Act->World->Prop
def mark(D:Nat):Deferred:={ target:=.collected D,args:=#[] }
def shut(ds:List Nat)(w:World):World:=ds.foldl (λw D=>w.putObj D (.deferred none)) w
def Rt(P:Program)(fn:Func)(S:SV->List Reg->Prop):Tgt:=λb e a w=>match e with
 |.normal|.ret=>∃(ds:List Nat) (v:Value),a.defers=ds.map mark++b.d/\ds.Nodup/\(∀D∈ds,b.w.heap.size<=D/\w.heap[D]?=some (.deferred (some []))) /\
    (∀Ds:List Nat,(∀D∈Ds,D<b.w.heap.size/\¬b.l D)->(results fn a.tmps).run P (shut Ds (shut ds w))=.ok v (shut Ds (shut ds w)))/\Rets b S (.returned v) (shut ds w)
 |_=>False
theorem Rt.mk{P:Program}{fn:Func}{S:SV->List Reg->Prop}{b:Base}{a:Act}{w:World}{v:Value}(h:a.defers=b.d)(h1:∀Ds:List Nat,(∀D∈Ds,D<b.w.heap.size/\¬b.l D)->(results fn a.tmps).run P (shut Ds w)=.ok v (shut Ds w))(h2:Rets b S (.returned v) w):Rt P fn S b .ret a w/\Rt P fn S b .normal a w:=
 ⟨⟨[],v,by simpa using h,List.nodup_nil,by simp,h1,h2⟩,⟨[],v,by simpa using h,List.nodup_nil,by simp,h1,h2⟩⟩
theorem Qaz{ds:List Nat}:∀{w:World},(shut ds w).heap.size=w.heap.size:=by
 induction ds with|nil=>intro w;rfl|cons D ds ih=>intro w;exact(ih (w:=w.putObj D (.deferred none))).trans W207
theorem Qht{ds:List Nat}{k:Nat}(h:k ∉ ds):∀{w:World},(shut ds w).heap[k]?=w.heap[k]?:=by
 induction ds with|nil=>intro w;rfl|cons D ds ih =>intro w;exact(ih (λh'=>h (.tail _ h')) (w:=w.putObj D (.deferred none))).trans (World.putObj_heap_other (λe=>h (e▸.head _)))
theorem Q24{P:Program}{F:Fence}{n:Nat}{fn:Func}{tmps:Array Value}{R:Ending->World->Prop}:∀(ds:List Nat) (w:World),ds.Nodup->(∀D∈ds,w.heap[D]?=some (.deferred (some []))) ->
 (∃v,(results fn tmps).run P (shut ds w)=.ok v (shut ds w)/\R (.returned v) (shut ds w))->LeavesInM F n P fn tmps R (ds.map mark) .returning w
 |[],w,_,_,h=>h
 |D::ds,w,hn,hd,h=>by
  refine⟨by simp,.inl ⟨D,w.putObj D (.deferred none),rfl,run_takeDeferred (hd D (.head _)),Q24 ds _ (List.nodup_cons.1 hn).2 (λD' hD'=>?_) h⟩⟩;grind[World.putObj_heap_other]
def RunF(P:Program)(fn:Func)(n0:Nat)(U:Tgt)(c:Cfg):Prop:=
 ∀b:Base,b.e.length=n0->Run P b (U b) c.k c.st
inductive View where
 |cond (x:Bool)
 |ret (v:SV)
 |call (f:Nat) (args:List SV)
 |gcall (f:Nat) (args:List SV)
 |loop
 |jump (J:Base->Act->World->Prop)
 |fin (v:SV)
 |op
 |opR
 |any (n:Nat)
 |fail (n:Nat)
def resVal(P:Program)(st:St):ResultVar->Option (SV×List Prop)
 |.tmp t=>match lookup t st.fr with
   |some e=>match e.g with
     |[]=>some (e.sv,[])
     |_=>none
   |none=>none
 |.cell t ty=>match lookup t st.fr with
   |some e=>match e.g,e.sv with
     |[],.c (.p r off)=>loadAt P st ty (.p r off)
     |_,_=>none
   |none=>none
def resPart:SV->Option (Bool×List C)
 |.c x=>some (false,[x])
 |.agg cs=>some (true,cs)
 |_=>none
def resVals(P:Program)(st:St):List ResultVar->Option (List SV×List Prop)
 |[]=>some ([],[])
 |r::rs=>match resVal P st r,resVals P st rs with
   |some (s,vc),some (ps,vc')=>some (s::ps,vc++vc')
   |_,_=>none
def resParts:List SV->Option (List (Bool×List C))
 |[]=>some []
 |s::r=>match resPart s,resParts r with
   |some p,some ps=>some (p::ps)
   |_,_=>none
def retVal(P:Program)(st:St)(rs:List ResultVar):Option (SV×List Prop):=
 match resVals P st rs with
 |some ([s],vc)=>some (s,vc)
 |some (ss,vc)=>match resParts ss with
   |some ps=>some (.tup ps,vc)
   |none=>none
 |none=>none
def callV(g:List (Nat×Bool))(f:Nat)(args:List SV):View:=match g with
 |[]=>.call f args
 |_=>.gcall f args
def see(P:Program)(fn:Func)(c:Cfg):List Prop×View:=
 match seg P 5000 c.k c.st with
 |(vc,.cond x _ _ _ _ _)=>(vc,.cond x)
 |(vc,.ret st)=>match retVal P st fn.results.toList with
   |some (v,vc')=>(vc++vc',.ret v)
   |none=>(vc,.fail 100)
 |(vc,.call f args _ g _ _ _ _)=>(vc,callV g f args)
 |(vc,.loop _ _ _)=>(vc,.loop)
 |(vc,.jump J _)=>(vc,.jump J)
 |(vc,.fin st)=>match retVal P st fn.results.toList with
   |some (v,vc')=>(vc++vc',.fin v)
   |none=>(vc,.fail 101)
 |(vc,.op ..)=>(vc,.op)
 |(vc,.opR ..)=>(vc,.opR)
 |(vc,.any _ _ _ l _ _)=>(vc,.any l.length)
 |(vc,.fail n)=>(vc,.fail n)
def noCfg:Cfg:=⟨[],{ N:=0,fr:=[],rg:=[] }⟩
def Cfg.thn(P:Program)(c:Cfg):Cfg:=match(seg P 5000 c.k c.st).2 with
 |.cond _ k _ _ st _=>⟨k,st⟩
 |_=>noCfg
def Cfg.els(P:Program)(c:Cfg):Cfg:=match(seg P 5000 c.k c.st).2 with
 |.cond _ _ k _ _ st=>⟨k,st⟩
 |_=>noCfg
def Cfg.at(P:Program)(c:Cfg):St:=match(seg P 5000 c.k c.st).2 with
 |.cond _ _ _ st _ _|.ret st|.call _ _ _ _ _ _ _ st|.loop _ _ st|.jump _ st|.fin st|.op _ _ _ _ st|.opR _ _ _ _ _ st|.any _ _ _ _ _ st=>st
 |.fail _=>noCfg.st
def Cfg.round(P:Program)(c:Cfg)(J:Base->Act->World->Prop)(st:St):Cfg:=match(seg P 5000 c.k c.st).2 with
 |.loop body k _=>⟨.code body::.jmp J::k,st⟩
 |_=>noCfg
section
variable {P:Program} [hw:Wide P] {fn:Func} {n0:Nat} {S:SV->List Reg->Prop} {U:Tgt} {c:Cfg} {vc:List Prop}
theorem Conj.toAll{l:List Prop}(h:Conj l):All l:=h.all
theorem RunF.cond{x:Bool}(h:see P fn c=(vc,.cond x))(hv:Conj vc)(ht:x=true->RunF P fn n0 U (c.thn P))(he:x=false->RunF P fn n0 U (c.els P)):RunF P fn n0 U c:=by
 intro b hb;unfold see at h;unfold Cfg.thn at ht;unfold Cfg.els at he;generalize hg:seg P 5000 c.k c.st=r at h ht he;obtain⟨vc',out⟩:=r;cases out<;>simp only[Prod.mk.injEq,View.cond.injEq,reduceCtorEq,and_false] at h;obtain⟨rfl,rfl⟩:=h;exact Qp hw.mixed 5000 _ _ _ _ hg hv.toAll ⟨λhx=>ht hx b hb,λhx=>he hx b hb⟩;all_goals grind[callV]
def retEnt(n0:Nat)(π:List Nat)(st:St)(v:SV)(res:SV)(post:List Reg):Option (List F):=
 if okIx π post&&idOn π n0&&kH n0 st.rg.length&&kH st.rg.length 1000000&&post.all (Reg.scp post.length)&&res.scp post.length then
  match regsMatch (at' π) st.rg π post with
  |some vc=>(sEq (res.ren (at' π)) v).map (vc++·)
  |none=>none
 else none
def resSem(a:Act)(r:ResultVar):Sem Value:=match r with
 |.tmp t=>pure (a.tmps.getD t undef)
 |.cell p t=>do loadVar t (<- asAddr (a.tmps.getD p undef))
theorem Qhu(fn:Func)(a:Act):results fn a.tmps=(do let vs <- fn.results.mapM (resSem a);pure (if h:vs.size=1 then vs[0] else .tuple vs)):=by
 unfold results;congr 2
theorem Qd0{w0:Base}{st:St}{ε:Env}{a:Act}{w:World}(hs:SatE w0 st ε a w){r:ResultVar}{s:SV}{vc:List Prop}(h:resVal P st r=some (s,vc))(hv:All vc):(resSem a r).run P w=.ok (s.den ε) w:=by
 unfold resSem;cases r with|tmp t =>simp only[resVal] at h;split at h;rename_i e he;split at h;rename_i hg;cases h;obtain⟨hm,hsl⟩:=Yy he;have:=(hs.fr e hm).2.1 W306;rw[hsl] at this;simp only[jz];exact congrArg (λv=>Result.ok v w) this;cases h;cases h|cell t ty =>simp only[resVal] at h;split at h;rename_i e he;split at h;rename_i r off hg hsv;obtain⟨hm,hsl⟩:=Yy he;have hval:=(hs.fr e hm).2.1 W306;rw[hsl,hsv] at hval;have hval':a.tmps.getD t undef=.pointer (some ((haddr (ε.at_ r)).add off)):=hval;have:=Q7y hs h hv;grind[C.den,Instr.loadAt,Instr.sureAddr,jp,jz,jk,asAddr];cases h;cases h
theorem Q4d{w0:Base}{st:St}{ε:Env}{a:Act}{w:World}(hs:SatE w0 st ε a w):∀{rs:List ResultVar} {ss:List SV} {vc:List Prop},resVals P st rs=some (ss,vc)->All vc ->
 (rs.mapM (resSem a)).run P w=.ok (ss.map (SV.den ε)) w
 |[],ss,vc,h,_=>by simp only[resVals,Option.some.injEq,Prod.mk.injEq] at h;obtain⟨rfl,rfl⟩:=h;simp
 |r::rs,ss,vc,h,hv=>by
  simp only[resVals] at h;split at h;rename_i s vc1 ps vc2 h1 h2;cases h;have e1:=Qd0 hs h1 hv.left;have e2:=Q4d hs h2 hv.right;simp_all;cases h
theorem Q2t{ε:Env}:∀{ss:List SV} {ps:List (Bool×List C)},resParts ss=some ps->ps.map (denPart ε)=ss.map (SV.den ε)
 |[],ps,h=>by simp only[resParts,Option.some.injEq] at h;subst h;rfl
 |s::r,ps,h=>by
  simp only[resParts] at h;split at h;rename_i p ps' h1 h2;cases h;simp only[jW,Q2t h2];congr 1;cases s<;>simp only[resPart,Option.some.injEq,reduceCtorEq] at h1<;>subst h1<;>rfl;cases h
theorem OwnC.reM{w:World}{M M':Nat->Prop}:∀(t:TC) {fp:Nat->Prop} {v:Value},(∀b,fp b->M' b)->OwnC w M t fp v->OwnC w M' t fp v
 |.val x,fp,v,hM,h=>h
 |.any,fp,v,hM,h=>h
 |.sub ty size n f,fp,v,hM,h=>by
  obtain⟨els,h1,h2,h3,h4,fps,h5,h6,h7⟩:=h;refine⟨els,h1,h2,h3,λb hb=>⟨(h4 b hb).1,hM b (h4 b hb).1⟩,fps,λi j hi hj=>?_,h6,h7⟩;obtain⟨u,hu,h8⟩:=h5 i j hi hj;exact⟨u,hu,OwnC.reM (f i j) (λb hb=>hM b (h6 i j b hi hj hb).1) h8⟩
theorem OwnRow.reM{w:World}{M M' fp:Nat->Prop}{ty size n:Nat}{h:Value}{ok ok':Nat->Nat->(Nat->Prop)->Value->Prop}(ho:OwnRow w M fp ty size n h ok)(hM:∀b,fp b->M' b)
 (hok:∀i j fp' u,i<n->j<size->(∀b,fp' b->fp b)->ok i j fp' u->ok' i j fp' u):OwnRow w M' fp ty size n h ok':=by
  obtain⟨els,h1,h2,h3,h4,fps,h5,h6,h7⟩:=ho;refine⟨els,h1,h2,h3,λb hb=>⟨(h4 b hb).1,hM b (h4 b hb).1⟩,fps,λi j hi hj=>?_,h6,h7⟩;grind
theorem MapR.reM{ε:Env}{w:World}{M M' fp:Nat->Prop}{T:MT}{ty sz n:Nat}{h:Value}{f:KA T.K->Nat×(Nat->Nat->TC)}{opn:Option (KA T.K×Nat×Option Int)}(hm:MapR ε w M fp T ty sz h n f opn)(hM:∀b,fp b->M' b):MapR ε w M' fp T ty sz h n f opn:=by
 obtain⟨has,hd,fb,fps,h1,h2,h3,h4,h5,h6⟩:=hm;exact⟨has,hd,fb,fps,h1.reM (λb hb=>hM b (h2 b hb)) (λ_ h=>h),h2,h3,h4,λa ha=>OwnRow.reM (h5 a ha) (λb hb=>hM b (h3 a b hb).1) (λi j fp' u _ _ hf hu=>OwnC.reM ((f a).2 i j) (λb hb=>hM b (h3 a b (hf b hb)).1) hu),h6⟩
theorem RegOk.reM{ε:Env}{M M':Nat->Prop}{w:World}{e:Ent}{r:Reg}(hM:r.excl=true->∀b,e.fp b->M' b)(hr:RegOk ε M w e r):RegOk ε M' w e r:=by
 cases r with|box ty cells=>obtain⟨g,h1,h2,h3,h4⟩:=hr;exact⟨g,h1,hM rfl g h3,h3,h4⟩|own ty size n f foc =>refine⟨OwnRow.reM hr.1 (hM rfl) (λi j fp' u _ _ hf hu=>?_),hr.2⟩;(cases foc with|none=>exact OwnC.reM (f i j) (λb hb=>hM rfl b (hf b hb)) hu|some kc=>exact⟨λhik=>OwnC.reM (f i j) (λb hb=>hM rfl b (hf b hb)) (hu.1 hik),hu.2⟩)|row size n f foc=>exact hr|ro cells=>exact hr|dead=>trivial|one=>exact hr|froz X=>exact hr|mp T n has f it=>exact MapAt.reM hr (hM rfl) (λ_ h=>h)|itr q=>exact hr|mpv T z n ents=>exact MapV.reM hr (hM rfl) (λ_ h=>h)|mpr T ty size n f opn=>exact MapR.reM hr (hM rfl)
theorem Qd1{w0:Base}{st:St}{ε:Env}{a:Act}{w:World}(hs:SatE w0 st ε a w){v:SV}{vc:List Prop}(h:retVal P st fn.results.toList=some (v,vc))(hv:All vc):(results fn a.tmps).run P w=.ok (v.den ε) w:=by
 have key:∀{ss:List SV} {vc:List Prop},resVals P st fn.results.toList=some (ss,vc)->All vc->∀v:Value,(if h:(ss.map (SV.den ε)).toArray.size=1 then(ss.map (SV.den ε)).toArray[0] else .tuple (ss.map (SV.den ε)).toArray)=v->(results fn a.tmps).run P w=.ok v w:=by grind[Q4d,Qhu,Array.mapM_eq_mapM_toList,jp,Sem.run_map,jk,jz]
 unfold retVal at h;split at h;rename_i s vc' h1;cases h;exact key h1 hv _ rfl;rename_i ss vc' hne h1;split at h;rename_i ps h2;cases h;refine key h1 hv _ ?_;have hl:(ss.map (SV.den ε)).toArray.size≠1:=by intro e;simp at e;obtain⟨s,hs⟩:=List.length_eq_one_iff.1 e;subst hs;exact hne s rfl
 rw[dif_neg hl,SV.den,Q2t h2];cases h;cases h
theorem Q25{b:Base}{st:St}{ε:Env}{a:Act}{w:World}(hs:SatE b st ε a w){v:SV}{vc:List Prop}(h:retVal P st fn.results.toList=some (v,vc))(hv:All vc){Ds:List Nat}(hD:∀D∈Ds,D<b.w.heap.size/\¬b.l D) :
 (results fn a.tmps).run P (shut Ds w)=.ok (v.den ε) (shut Ds w):=by
  have hno:∀k,(∃(i:Nat) (r:Reg),st.rg[i]?=some r/\r.live=true/\ε.fp i k)->k ∉ Ds:=λk ⟨i,r,h1,h2,h3⟩ hk=>by obtain⟨_,h4⟩:=hs.regs.lt i r h1 h2 k h3;obtain⟨h5,h6⟩:=hD k hk;rcases h4 with h4|h4;omega;exact h6 h4
  refine Qd1 (w0:={ w:=shut Ds w,e:=[],m:=b.M,l:=b.L,ro:=b.ro,d:=b.d }) ⟨hs.defs,hs.size,hs.fr,⟨hs.regs.len,λi r hi=>?_,λi r hi hl k hk=>?_,λi r hi he k hk=>.inr (hs.regs.lim i r hi he k hk),hs.regs.sep⟩,Fr.refl _ _,List.nil_prefix⟩ h hv;have h1:RegOk ε b.M (shut Ds w) (ε.ent i) r:=RegOk.world (hs.regs.reg i r hi) (Nat.le_of_eq Qaz.symm) (λk hk hl _=>Qht (hno k ⟨i,r,hi,hl,hk⟩));exact RegOk.reM (λhe k hk=>.inr (hs.regs.lim i r hi he k hk)) h1;exact⟨by rw[Qaz];exact(hs.regs.lt i r hi hl k hk).1,.inr (hs.regs.lt i r hi hl k hk).2⟩
theorem Q51{b:Base}(hb:b.e.length=n0){st:St}{v res:SV}{post:List Reg}{π:List Nat}{E:List F}(he:retEnt n0 π st v res post=some E)(hE:AllF E)(hS:S res post){a:Act}{w:World}{ε:Env}(hs:SatE b st ε a w) :
 Rets b S (.returned (v.den ε)) w:=by
  unfold retEnt at he;split at he;rename_i hc;simp only[jg] at hc;obtain⟨⟨⟨⟨⟨c1,c2⟩,c3⟩,c4⟩,c5⟩,c6⟩:=hc;have hε:ε.length<=1000000:=by rw[hs.regs.len];exact jx c4
  split at he;rename_i vc1 h1;obtain⟨vc2,h2,he2⟩:=map_nil he;subst he2;have hl:=Yh h1;have hτ:∀r,r<post.length->ε.at_ (at' π r)=Env.at_ (π.map ε.ent) r:=λr hr=>by simp_all[some,jh,Q13,Q14]
  have hval:=Q4z (ε:=ε) hε h2 hE.right;refine⟨res,post,π.map ε.ent,hS,?_,Qcz hb hs.pre (Q1s c2),hs.regs.renum hε c5 c1 h1 hE.left,hs.below⟩;rw[<- Gd hτ c6,hval];cases he;cases he
theorem RunF.ret{v:SV}(res:SV)(post:List Reg)(π:List Nat){E:List F}(h:see P fn c=(vc,.ret v))(hv:Conj vc)(hS:S res post)(he:retEnt n0 π (c.at P) v res post=some E)(hE:AllF E):RunF P fn n0 (Rt P fn S) c:=by
 intro b hb;unfold see at h;unfold Cfg.at at he;generalize hg:seg P 5000 c.k c.st=r at h he;obtain⟨vc',out⟩:=r;cases out<;>simp only[Prod.mk.injEq,reduceCtorEq,and_false] at h;rename_i st;split at h;rename_i v' vc2 hr;simp only[Prod.mk.injEq,View.ret.injEq] at h;obtain⟨rfl,rfl⟩:=h;refine Qp hw.mixed 5000 _ _ _ _ hg hv.toAll.left (λa w ⟨ε,hs⟩=>?_);exact(Rt.mk hs.defs.1 (λDs hD=>Q25 hs hr hv.toAll.right hD) (Q51 hb he hE hS hs)).1;simp at h;all_goals grind[callV]
theorem RunF.fin{v:SV}(res:SV)(post:List Reg)(π:List Nat){E:List F}(h:see P fn c=(vc,.fin v))(hv:Conj vc)(hS:S res post)(he:retEnt n0 π (c.at P) v res post=some E)(hE:AllF E):RunF P fn n0 (Rt P fn S) c:=by
 intro b hb;unfold see at h;unfold Cfg.at at he;generalize hg:seg P 5000 c.k c.st=r at h he;obtain⟨vc',out⟩:=r;cases out<;>simp only[Prod.mk.injEq,reduceCtorEq,and_false] at h;case fin st =>split at h;rename_i v' vc2 hr;simp only[Prod.mk.injEq,View.fin.injEq] at h;obtain⟨rfl,rfl⟩:=h;refine Qp hw.mixed 5000 _ _ _ _ hg hv.toAll.left (λa w ⟨ε,hs⟩=>?_);exact(Rt.mk hs.defs.1 (λDs hD=>Q25 hs hr hv.toAll.right hD) (Q51 hb he hE hS hs)).2;simp at h
 all_goals grind[callV]
theorem RunF.weaken(st':St)(π:List Nat){E:List F}(he:ent n0 π c.st st'=some E)(hE:AllF E)(h:RunF P fn n0 U ⟨c.k,st'⟩):RunF P fn n0 U c:=
 λb hb a w hs=>h b hb a w (Jw hb he hE hs)
theorem Qj8{ro:Option Nat}{P:Program}{body:Code}{Q:Exit->Act->World->Prop}{X:Type}(I:X->Act->World->Prop)(m:X->Nat)
 (round:∀x a w,I x a w->wpW ro P body (Exit.then (λa' w'=>∃x',m x'<m x/\I x' a' w') Q) a w) {a:Act} {w:World} (x0:X) (h0:I x0 a w):wpW ro P (Code.loop body) Q a w:=by
  refine wpIn_loop_ghost (λn a w=>∃x,m x=n/\I x a w) (m x0) ⟨x0,rfl,h0⟩ (λn a w ⟨x,hx,hI⟩=>?_);subst hx;refine wpIn_mono (round x a w hI) λe a' w' hq=>?_;grind
def Next{X:Type}(I:X->St)(J:X->Prop)(m:X->Nat)(x:X):Base->Act->World->Prop:=λb a w=>∃x',m x'<m x/\J x'/\Sat b (I x') a w
theorem RunF.loop{X:Type}(I:X->St)(J:X->Prop)(m:X->Nat)(x0:X)(π:List Nat){E:List F}(h:see P fn c=(vc,.loop))(hv:Conj vc)(he:ent n0 π (c.at P) (I x0)=some E)(hE:AllF E)(hJ:J x0)
 (round:∀x,J x->RunF P fn n0 U (c.round P (Next I J m x) (I x))):RunF P fn n0 U c:=by
  intro b hb;unfold see at h;unfold Cfg.at at he;unfold Cfg.round at round;generalize hg:seg P 5000 c.k c.st=r at h he round;obtain⟨vc',out⟩:=r;cases out<;>simp only[Prod.mk.injEq,reduceCtorEq,and_false] at h;case loop body k st =>obtain⟨rfl,_⟩:=h;refine Qp hw.mixed 5000 _ _ _ _ hg hv.toAll (λa w hs=>?_);refine Qj8 (λx a w=>J x/\Sat b (I x) a w) m (λx a w ⟨hJx,hI⟩=>?_) x0 ⟨hJ,Jw hb he hE hs⟩;exact round x hJx b hb a w hI
  all_goals grind[callV]
theorem RunF.next{X:Type}{I:X->St}{J:X->Prop}{m:X->Nat}{x:X}(x':X)(π:List Nat){E:List F}(h:see P fn c=(vc,.jump (Next I J m x)))(hv:Conj vc)(he:ent n0 π (c.at P) (I x')=some E)(hE:AllF E)(hm:m x'<m x)(hJ:J x'):RunF P fn n0 U c:=by
 intro b hb;unfold see at h;unfold Cfg.at at he;generalize hg:seg P 5000 c.k c.st=r at h he;obtain⟨vc',out⟩:=r;cases out<;>simp only[Prod.mk.injEq,reduceCtorEq,and_false] at h;case jump J' st =>simp only[View.jump.injEq] at h;obtain⟨rfl,rfl⟩:=h;exact Qp hw.mixed 5000 _ _ _ _ hg hv.toAll (λa w hs=>⟨x',hm,hJ,Jw hb he hE hs⟩)
 all_goals grind[callV]
theorem Q26{P:Program}{ops:Array Oper}{Q Q':Act->World->Prop}(h:∀a w,Q a w->Q' a w):∀(n:Nat) (listed:Array Bool) (a:Act) (w:World),wpAnyR P ops Q n listed a w->wpAnyR P ops Q' n listed a w
 |0,_,_,_,hh=>⟨hh.1,h _ _ hh.2⟩
 |n+1,_,_,_,hh=>⟨λh0=>h _ _ (hh.1 h0),λi hi=>Q3g (λa w=>Q26 h n _ a w) (hh.2 i hi)⟩
theorem Qd2{Q Q':Exit->Act->World->Prop}(hq:∀e a w,Q e a w->Q' e a w)(h:LetsOut Q):LetsOut Q':=let⟨a,w,h⟩:=h;⟨a,w,hq _ _ _ h⟩
theorem Oper.wp_both{P:Program}{o:Oper}{a:Act}{w:World}{K K':Act->World->Prop}{Q Q':Exit->Act->World->Prop}(h:∀a w,K a w->K' a w)(hq:∀e a w,Q e a w->Q' e a w)(hh:o.wp P a w K Q):o.wp P a w K' Q':=by
 unfold Oper.wp at *;generalize (execOp a.eval o).run P w=r at *;cases r with|ok n w' =>(cases n<;>simp only[Oper.upon] at hh⊢ <;> first|exact h _ _ hh|exact Calls.mono hh (λe w'' he=>by grind[Qd2])|exact Rows.mono hh (λ_ _ he=>h _ _ he))|halt x w'=>cases x<;>simp only[Oper.upon] at hh⊢<;>first|exact hq _ _ _ hh|exact hh
theorem Qd3{P:Program}{o:Oper}{a:Act}{w:World}{K K':Act->World->Prop}(h:∀a w,K a w->K' a w)(hh:roundOp P o a w K):roundOp P o a w K':=by
 obtain⟨l,f,tmps,assign,body,w',h1,h2⟩:=hh;exact⟨l,f,tmps,assign,body,w',h1,h2.mono λe w'' ⟨v,he,hk⟩=>⟨v,he,h _ _ hk⟩⟩
theorem Gx{P:Program}{ops:Array Oper}{Q Q':Exit->Act->World->Prop}(hq:∀e a w,Q e a w->Q' e a w):∀(l:List Oper) (a:Act) (w:World),wpListW P ops Q l a w->wpListW P ops Q' l a w
 |[],a,w,h=>hq _ _ _ h
 |o::r,a,w,h=>by
  unfold wpListW at *;split at h;rename_i hw;rw[if_pos hw];exact h.imp (Oper.wp_both (λa w=>Gx hq r a w) hq) (Qd3 (λa w=>Gx hq r a w));rename_i hw;rw[if_neg hw];exact Gx hq r _ _ h
theorem Q3k{b:Base}{Q Q':Exit->Act->World->Prop}(h:∀e a w,Q e a w->Q' e a w)(x:K):∀e a w,kpost P b x Q e a w->kpost P b x Q' e a w:=by
 have hthen:∀{R R':Act->World->Prop},(∀a w,R a w->R' a w)->∀e a w,Exit.then R Q e a w->Exit.then R' Q' e a w:=λhr e a w hh=>by cases e<;>first|exact hr _ _ hh|exact h _ _ _ hh
 cases x with|code c=>(exact hthen λa w hh=>wpIn_mono hh h)|blk id =>intro e a w hh;(cases e with|exit id' =>have hh':(if id'=id then Q .normal a w else Q (.exit id') a w):=hh;show(if id'=id then Q' .normal a w else Q' (.exit id') a w);grind|_=>exact h _ _ _ hh)|ops all todo=>(exact hthen λa w hh=>Gx h _ _ _ hh)|jmp J=>(exact hthen λa w hh=>hh)|rnd body n =>intro e a w hh;(have hr:∀n a w,Code.roundsIn (Wf b.ro) 0 P body Q n a w->Code.roundsIn (Wf b.ro) 0 P body Q' n a w:=λn=>by induction n with|zero=>intro a w h;exact h|succ n ih =>grind[roundsIn_succ,wpIn_mono]);(cases e<;>first|exact hr _ _ _ hh|exact h _ _ _ hh)|mix all listed n=>(exact hthen λa w hh hs=>Q26 (λa w=>h _ a w) _ _ _ _ (hh hs))|mixAt all listed n i=>exact hthen λa w hh hs=>Q3g (λa w=>Q26 (λa w=>h _ a w) _ _ a w) (hh hs)
def AtSt{X:Type}(I:X->St)(J:X->Prop):Base->Act->World->Prop:=λb a w=>∃x,J x/\Sat b (I x) a w
def insJ(J:Base->Act->World->Prop):List K->List K
 |[]=>[.jmp J]
 |x::k=>x::.jmp J::k
def restK:List K->List K
 |[]=>[]
 |_::k=>k
theorem Q8a{b:Base}{Q:Exit->Act->World->Prop}{J:Base->Act->World->Prop}(k:List K)(hk:∀a w,J b a w->contQ P b Q (restK k) .normal a w){a:Act}{w:World}(h:contQ P b Q (insJ J k) .normal a w):contQ P b Q k .normal a w:=by
 cases k with|nil=>exact hk a w h|cons x k =>refine Q3k (λe a w hh=>?_) x _ _ _ h;cases e<;>first|exact hk a w hh|exact hh
def Cfg.pick(P:Program)(c:Cfg)(J:Base->Act->World->Prop)(j:Nat):Cfg:=match(seg P 5000 c.k c.st).2 with
 |.any all listed n l k st=>match nth l j with
   |some i=>⟨.mixAt all listed n i::.jmp J::k,st⟩
   |none=>noCfg
 |_=>noCfg
def Cfg.rest(P:Program)(c:Cfg)(st:St):Cfg:=match(seg P 5000 c.k c.st).2 with
 |.any _ _ _ _ k _=>⟨k,st⟩
 |.cond _ k1 _ _ _ _=>⟨restK k1,st⟩
 |_=>noCfg
def upTo(p:Nat->Prop):Nat->Prop
 |0=>True
 |n+1=>upTo p n/\p n
theorem Qb0{p:Nat->Prop}:∀{n:Nat},upTo p n->∀j,j<n->p j
 |0,_,j,hj=>by omega
 |n+1,h,j,hj=>by
  by_cases hjn:j=n;subst hjn;exact h.2;exact Qb0 h.1 j W48
theorem RunF.any{n:Nat}{X:Type}(I:X->St)(J:X->Prop)(h:see P fn c=(vc,.any n))(hv:Conj vc)(hall:upTo (λj=>RunF P fn n0 U (c.pick P (AtSt I J) j)) n)
 (hk:∀x,J x->RunF P fn n0 U (c.rest P (I x))):RunF P fn n0 U c:=by
  intro b hb;replace hall:=Qb0 hall;unfold see at h;unfold Cfg.rest at hk;unfold Cfg.pick at hall;generalize hg:seg P 5000 c.k c.st=r at h hk hall;obtain⟨vc',out⟩:=r;cases out<;>simp only[Prod.mk.injEq,reduceCtorEq,and_false] at h;case any all listed n' l k st =>simp only[View.any.injEq] at h;obtain⟨rfl,rfl⟩:=h;refine Qp hw.mixed 5000 _ _ _ _ hg hv.toAll (λi hi a w hs=>?_);obtain⟨j,hj,hji⟩:=List.mem_iff_getElem.1 hi;have h1:=hall j hj;(have e:nth l j=some i:=by rw[Qq,jh hj,hji]);simp only[e] at h1;exact Q8a (.mixAt all listed n' i::k) (λa w ⟨x,hx,hs⟩=>hk x hx b hb a w hs) (h1 b hb a w hs)
  all_goals grind[callV]
theorem RunF.to{X:Type}{I:X->St}{J:X->Prop}(x':X)(π:List Nat){E:List F}(h:see P fn c=(vc,.jump (AtSt I J)))(hv:Conj vc)(he:ent n0 π (c.at P) (I x')=some E)(hE:AllF E)(hJ:J x'):RunF P fn n0 U c:=by
 intro b hb;unfold see at h;unfold Cfg.at at he;generalize hg:seg P 5000 c.k c.st=r at h he;obtain⟨vc',out⟩:=r;cases out<;>simp only[Prod.mk.injEq,reduceCtorEq,and_false] at h;case jump J' st =>simp only[View.jump.injEq] at h;obtain⟨rfl,rfl⟩:=h;exact Qp hw.mixed 5000 _ _ _ _ hg hv.toAll (λa w hs=>⟨x',hJ,Jw hb he hE hs⟩)
 all_goals grind[callV]
end
theorem Q15(r:Reg)(τ:Nat->Nat):(r.ren τ).excl=r.excl:=by
 cases r<;>rfl
theorem Q16(r:Reg)(τ:Nat->Nat):(r.ren τ).live=r.live:=by
 cases r<;>rfl
theorem Qfs{ε ε':Env}{τ:Nat->Nat}{n:Nat}(hτ:∀r,r<n->ε'.at_ (τ r)=ε.at_ r){cs:List C}(hsc:cs.all (C.scp n)=true){j:Nat}{u:Value}(h:∃x:C,cs[j]?=some x/\u=x.den ε):∃x:C,(cs.map (C.ren τ))[j]?=some x/\u=x.den ε':=by
 obtain⟨x,hx,rfl⟩:=h;exact⟨x.ren τ,by rw[jy,hx];rfl,(Q2o hτ (List.all_eq_true.1 hsc x (jB hx))).symm⟩
theorem RegOk.reren{ε ε':Env}{τ:Nat->Nat}{n:Nat}{M M':Nat->Prop}{w:World}{e:Ent}{r:Reg}(hτ:∀r,r<n->ε'.at_ (τ r)=ε.at_ r)(hsc:r.scp n=true)(hM:r.excl=true->∀b,e.fp b->M' b)(hr:RegOk ε M w e r):RegOk ε' M' w e (r.ren τ):=by
 cases r with|box ty cells=>obtain⟨g,h1,h2,h3,h4⟩:=hr;exact⟨g,h1,hM rfl g h3,h3,by rw[Z0 hτ hsc];exact h4⟩|ro cells =>obtain⟨A,h1,h2,h3,h4⟩:=hr;refine⟨A,h1,h2,h3,λj y hy=>?_⟩;simp only[jy] at hy;(cases hj:cells[j]? with|none=>rw[hj] at hy;cases hy|some x =>rw[hj] at hy;cases hy;rw[Q2o hτ (List.all_eq_true.1 hsc x (jB hj))];exact h4 j x hj)|own ty size n f foc =>(cases foc with|none=>exact⟨OwnRow.reM hr.1 (hM rfl) (λi j fp' u _ _ hf hu=>OwnC.reM (f i j) (λb hb=>hM rfl b (hf b hb)) hu),trivial⟩|some kc =>refine⟨OwnRow.reM hr.1 (hM rfl) (λi j fp' u _ _ hf hu=>⟨λhik=>OwnC.reM (f i j) (λb hb=>hM rfl b (hf b hb)) (hu.1 hik),λhik=>Qfs hτ hsc (hu.2 hik)⟩),hr.2.1,?_⟩;show(kc.2.map (C.ren τ)).length=size;rw[jK];exact hr.2.2)|row size n f foc =>(cases foc with|none=>exact hr|some kc =>refine⟨RdRow.map hr.1 (jo _) (λ_ _ _=>rfl) (λi j u _ _ hu=>⟨hu.1,λhik=>Qfs hτ hsc (hu.2 hik)⟩),hr.2.1,?_⟩;show(kc.2.map (C.ren τ)).length=size;rw[jK];exact hr.2.2)|dead=>trivial|one=>exact hr|froz X=>exact hr|mp T n has f it=>exact MapAt.reM hr (hM rfl) (λ_ h=>h)|itr q=>exact hr|mpv T z n ents =>show MapV w _ e.fp T z e.h n (λq=>(entOf (ents.map λx=>(x.1,x.2.ren τ)) q).isSome) (entV ε' z (ents.map λx=>(x.1,x.2.ren τ)));rw[Qcw hτ hsc,funext (Q2q ents)];exact MapV.reM hr (hM rfl) (λ_ h=>h)|mpr T ty size n f opn =>obtain⟨has,hd,fb,fps,h1,h2,h3,h4,h5,h6⟩:=MapR.reM hr (hM rfl);refine⟨has,hd,fb,fps,h1,h2,h3,h4,λa ha=>h5 a (λe'=>ha (by rw[<- e'];cases opn<;>rfl)),λa q st e'=>?_⟩;cases opn with|none=>cases e'|some x =>cases e';rw[hτ _ (jx hsc)];exact h6 _ _ _ rfl
def Base.at_(pre:List Reg)(ε:Env)(w:World):Base:=⟨w,ε.hs,λb=>∃(i:Nat) (r:Reg),pre[i]?=some r/\r.excl=true/\ε.fp i b,λb=>∃(i:Nat) (r:Reg),pre[i]?=some r/\r.live=true/\ε.fp i b,none,[]⟩
def Ctr(P:Program)(f:Nat)(pre:List Reg)(args:List SV)(S:SV->List Reg->Prop):Prop:=
 ∀(ε:Env) (w:World),RegsOk ε (Base.at_ pre ε w).M (Base.at_ pre ε w).L w pre->Calls P f (args.map (SV.den ε)).toArray w (Rets (Base.at_ pre ε w) S)
def Det(res:SV)(post:List Reg):SV->List Reg->Prop:=λr p=>r=res/\p=post
def argFr:Nat->List SV->List En
 |_,[]=>[]
 |i,x::r=>{ slot:=i,g:=[],sv:=x }::argFr (i+1) r
def bodyK(fn:Func):List K:=match fn.body with
 |some c=>[.code c]
 |none=>[]
def entry(fn:Func)(pre:List Reg)(args:List SV)(wr:List Nat):Cfg:=⟨bodyK fn,{ N:=fn.ntmps,fr:=argFr 0 args,rg:=pre,wr }⟩
theorem Qd4{ε:Env}{a:Act}{N:Nat}:∀(args:List SV) (i:Nat),(∀j x,args[j]?=some x->i+j<N/\get a (i+j)=x.den ε)->∀e∈argFr i args,EnOk ε N a e
 |[],_,_,_,h=>by cases h
 |x::r,i,hh,e,he=>by
  cases he with|head =>obtain⟨h1,h2⟩:=hh 0 x rfl;exact⟨h1,λ_=>h2,λhn=>absurd (gHolds_nil a) hn⟩|tail _ he =>refine Qd4 r (i+1) (λj y hj=>?_) e he;have:=hh (j+1) y W299;rw[show i+1+j=i+(j+1) by omega];exact this
theorem Ctr.intro{P:Program}[hw:Wide P]{S:SV->List Reg->Prop}{f:Nat}{fn:Func}{pre:List Reg}{args:List SV}(wr:List Nat)(hf:P.funcs[f]?=some fn)(hb:fn.body.isSome=true)(hl:kH args.length fn.ntmps=true)
 (h:RunF P fn pre.length (Rt P fn S) (entry fn pre args wr)):Ctr P f pre args S:=by
  intro ε w hreg;obtain⟨body,hbody⟩:=Option.isSome_iff_exists.1 hb;refine Qct.1 (callsIn_of_wp_marks (F:=Wf none) (n:=0) hf hbody trivial ?_);have hle:=jx hl;have hrun:=h (Base.at_ pre ε w) (by simp[Base.at_,Env.hs,hreg.len]);unfold entry bodyK at hrun;rw[hbody] at hrun;refine wpIn_mono (hrun { tmps:=(args.map (SV.den ε)).toArray++Array.replicate (fn.ntmps-(args.map (SV.den ε)).toArray.size) undef,defers:=[] } w ⟨ε,⟨⟨rfl,λ_=>rfl⟩,?_,?_,hreg,Fr.refl _ _,List.prefix_refl _⟩⟩) (λe a' w' hq=>?_);simp;omega;refine Qd4 args 0 λj x hj=>?_;have hjl:j<args.length:=(List.getElem?_eq_some_iff.1 hj).1;refine⟨by simp;omega,?_⟩;simp_all[get,ko,Array.getD_eq_getD_getElem?,Array.getElem?_append_left];have hq':Rt P fn S (Base.at_ pre ε w) e a' w':=hq;cases e with|normal =>obtain⟨ds,v,h1,h2,h3,h4,h5⟩:=hq';have h4:=h4 [] (λD h=>by cases h);have h3:=λD hD=>(h3 D hD).2;show LeavesInM _ _ _ _ _ _ _ _ _;rw[h1,show(Base.at_ pre ε w).d=[] from rfl,jR];exact Q24 ds w' h2 h3 ⟨v,h4,h5⟩|ret =>obtain⟨ds,v,h1,h2,h3,h4,h5⟩:=hq';have h4:=h4 [] (λD h=>by cases h);have h3:=λD hD=>(h3 D hD).2;show LeavesInM _ _ _ _ _ _ _ _ _;rw[h1,show(Base.at_ pre ε w).d=[] from rfl,jR];exact Q24 ds w' h2 h3 ⟨v,h4,h5⟩|_=>exact hq'.elim
def callTau(n0 base:Nat)(σ:List Nat)(r:Nat):Nat:=if kv r n0 then at' σ r else base+(r-n0)
def back(τ:Nat->Nat):List Nat->List Reg->List Reg->List Reg->List Reg
 |q::σ,p::pre,s::post,rg=>back τ σ pre post (if p.excl then rg.set q (s.ren τ) else rg)
 |_,_,_,rg=>rg
def backE:List Nat->List Reg->Env->Env->Env
 |q::σ,p::pre,x::ε',ε=>backE σ pre ε' (if p.excl then ε.set q x else ε)
 |_,_,_,ε=>ε
theorem Q52{τ:Nat->Nat}(j:Nat):∀(σ:List Nat) (pre post:List Reg) (ε':Env) (rg:List Reg) (ε:Env),σ.length=pre.length->pre.length<=post.length->post.length<=ε'.length->rg.length=ε.length ->
 (back τ σ pre post rg).length=rg.length/\(backE σ pre ε' ε).length=ε.length /\
 (((back τ σ pre post rg)[j]?=rg[j]?/\(backE σ pre ε' ε)[j]?=ε[j]?/\∀(i:Nat) (p:Reg),pre[i]?=some p->p.excl=true->σ[i]?≠some j) \/
  ∃(i:Nat) (p s:Reg) (x:Ent),σ[i]?=some j/\pre[i]?=some p/\p.excl=true/\post[i]?=some s/\ε'[i]?=some x/\(j<rg.length->(back τ σ pre post rg)[j]?=some (s.ren τ)/\(backE σ pre ε' ε)[j]?=some x))
 |[],[],post,ε',rg,ε,_,_,_,_=>⟨by simp[back],by simp[backE],.inl ⟨by simp[back],by simp[backE],λi p h=>by simp at h⟩⟩
 |q::σ,p::pre,s::post,x::ε',rg,ε,h1,h2,h3,h4=>by simp only[kj] at h1 h2 h3;obtain⟨l1,l2,l3⟩:=Q52 (τ:=τ) j σ pre post ε' (if p.excl then rg.set q (s.ren τ) else rg) (if p.excl then ε.set q x else ε) W48 W48 W48 (by split<;>simp[h4]);refine⟨by simp only[back];rw[l1];split<;>simp,by simp only[backE];rw[l2];split<;>simp,?_⟩;simp only[back,backE];(have hlen:(if p.excl then rg.set q (s.ren τ) else rg).length=rg.length:=by split<;>simp);rcases l3 with⟨k1,k2,k3⟩|⟨i,p',s',x',k1,k2,k3,k4,k5,k6⟩;by_cases hp:p.excl=true/\q=j;obtain⟨hp,rfl⟩:=hp;refine .inr ⟨0,p,s,x,rfl,rfl,hp,rfl,rfl,λhlt=>?_⟩;grind;refine .inl ⟨?_,?_,λi p' hi he=>?_⟩;grind;grind;grind;refine .inr ⟨i+1,p',s',x',by simpa using k1,by simpa using k2,k3,by simpa using k4,by simpa using k5,λhlt=>k6 W48⟩
 |[],_::_,_,_,_,_,h,_,_,_=>by simp at h
 |_::_,[],_,_,_,_,h,_,_,_=>by simp at h
 |_::_,_::_,[],_,_,_,_,h,_,_=>by simp at h
 |_::_,_::_,_::_,[],_,_,_,_,h,_=>by
  simp at h
def shareOk(rg:List Reg):List Nat->List Reg->Bool
 |q::σ,p::pre=>(p.excl||(match nth rg q with|some h=>!h.excl|none=>true))&&shareOk rg σ pre
 |_,_=>true
theorem Q53{rg:List Reg}:∀{σ:List Nat} {pre:List Reg},shareOk rg σ pre=true->∀(i q:Nat) (p h:Reg),pre[i]?=some p->σ[i]?=some q->rg[q]?=some h->p.excl=true\/h.excl=false
 |q::σ,p::pre,hh,i,q',p',h,h1,h2,h3=>by simp only[shareOk,jg,jQ] at hh;cases i with|zero =>grind[jH,Option.some.injEq,Qq]|succ i=>exact Q53 hh.2 i q' p' h W248 W300 h3
 |[],_,_,i,_,_,_,_,h2,_=>by simp at h2
 |_::_,[],_,i,_,_,_,h1,_,_=>by
  simp at h1
theorem RegsOk.calls{bc:Base}{ε ε':Env}{w w':World}{rg pre post:List Reg}{σ:List Nat}(hs:RegsOk ε bc.M bc.L w rg)(hB:bc.w.heap.size<=w.heap.size)(hsc:rg.all (Reg.scp rg.length)=true)(hσ:σ.length=pre.length)
 (hreg:∀(i:Nat) (p:Reg),pre[i]?=some p->∃q:Nat,σ[i]?=some q/\(p.excl=true->∃h:Reg,rg[q]?=some h/\h.excl=true)/\(p.live=true->(∃h:Reg,rg[q]?=some h/\h.live=true)\/rg.length<=q))
 (hout:∀q∈σ,q<rg.length\/rg.length+post.length<=q) (hdup:noDup σ=true\/∀p∈pre,p.excl=false) (hn:pre.length<=post.length) (hpsc:post.all (Reg.scp post.length)=true)
 (hpost:RegsOk ε' (Base.at_ pre (σ.map ε.ent) w).M (Base.at_ pre (σ.map ε.ent) w).L w' post) (hpre:(Env.hs (σ.map ε.ent)) <+: ε'.hs) (hfr:Fr (Base.at_ pre (σ.map ε.ent) w).m w w')
 (hshare:(∀r∈post,r.excl=true\/r.live=false)\/shareOk rg σ pre=true) :
 RegsOk (backE σ pre ε' ε++ε'.drop pre.length) bc.M bc.L w' (back (callTau pre.length rg.length σ) σ pre post rg++(post.drop pre.length).map (Reg.ren (callTau pre.length rg.length σ))) /\
 (∀r,r<rg.length->Env.at_ (backE σ pre ε' ε++ε'.drop pre.length) r=ε.at_ r) /\
 (∀r,r<post.length->Env.at_ (backE σ pre ε' ε++ε'.drop pre.length) (callTau pre.length rg.length σ r)=ε'.at_ r):=by
  have hlen:=hs.len;have hplen:=hpost.len;generalize hτd:callTau pre.length rg.length σ=τ;have spec:=λj=>Q52 (τ:=τ) j σ pre post ε' rg ε hσ hn W48 hlen.symm;have lb:=(spec 0).1;have lbe:=(spec 0).2.1;have hin:∀(i q:Nat),σ[i]?=some q->∀(x:Ent),ε'[i]?=some x->x.h=ε.at_ q:=λi q hi x hx=>by obtain⟨t,ht⟩:=hpre;(have h1:(Env.hs (σ.map ε.ent))[i]?=some (ε.at_ q):=by unfold Env.hs;rw[jy,jy,hi];rfl);(have h2:ε'.hs[i]?=some x.h:=by unfold Env.hs;rw[jy,hx];rfl);grind
  have entnew:∀j,j<rg.length->Env.ent (backE σ pre ε' ε++ε'.drop pre.length) j=Env.ent (backE σ pre ε' ε) j:=λj hj=>by simp_all[Env.ent,jc,jI]
  have entnew2:∀t,Env.ent (backE σ pre ε' ε++ε'.drop pre.length) (rg.length+t)=ε'.ent (pre.length+t):=λt=>by unfold Env.ent;grind
  have hat:∀r,r<rg.length->Env.at_ (backE σ pre ε' ε++ε'.drop pre.length) r=ε.at_ r:=λr hr=>by unfold Env.at_;rw[entnew r hr];rcases(spec r).2.2 with⟨k1,k2,k3⟩|⟨i,p,s,x,k1,k2,k3,k4,k5,k6⟩;simp_all[Env.ent,jc];have:=(k6 hr).2;(have e1:Env.ent (backE σ pre ε' ε) r=x:=by unfold Env.ent;rw[jc,this];rfl);rw[e1];exact hin i r k1 x k5
  have hτ:∀r,r<post.length->Env.at_ (backE σ pre ε' ε++ε'.drop pre.length) (τ r)=ε'.at_ r:=λr hr=>by rw[<- hτd];unfold callTau;by_cases h:r<pre.length;have h':kv r pre.length=true:=Nat.ble_eq_true_of_le h;rw[if_pos h'];have hp:σ[r]?=some (σ[r]):=jh W48;have hx:ε'[r]?=some (ε'[r]):=jh W48;(have e2:ε'.at_ r=ε.at_ σ[r]:=by rw[<- hin r _ hp _ hx];unfold Env.at_ Env.ent;rw[jc,hx];rfl);grind[Q14,jT,Qcv];have h':¬kv r pre.length=true:=λe=>h (jx e);simp_all[if_neg,Env.at_]
  refine⟨?_,hat,hτ⟩;have cls:∀(j:Nat) (r:Reg),(back τ σ pre post rg++(post.drop pre.length).map (Reg.ren τ))[j]?=some r -> (j<rg.length/\rg[j]?=some r/\Env.ent (backE σ pre ε' ε++ε'.drop pre.length) j=ε.ent j/\∀(i:Nat) (p:Reg),pre[i]?=some p->p.excl=true->σ[i]?≠some j) \/ (∃(i:Nat) (s:Reg),post[i]?=some s/\r=s.ren τ/\Env.ent (backE σ pre ε' ε++ε'.drop pre.length) j=ε'.ent i/\((i<pre.length/\j<rg.length/\σ[i]?=some j)\/(pre.length<=i/\j=rg.length+(i-pre.length)))):=λj r hj=>by rcases Nat.lt_or_ge j rg.length with h1|h1;rw[jI W48] at hj;rcases(spec j).2.2 with⟨k1,k2,k3⟩|⟨i,p,s,x,k1,k2,k3,k4,k5,k6⟩;simp_all[Env.ent,jc];obtain⟨k7,k8⟩:=k6 h1;rw[k7] at hj;cases hj;refine .inr ⟨i,s,k4,rfl,?_,.inl ⟨(List.getElem?_eq_some_iff.1 k2).1,h1,k1⟩⟩;simp_all[Env.ent,jc];rw[jJ W48,jy,List.getElem?_drop,lb] at hj;cases hp:post[pre.length+(j-rg.length)]? with|none=>rw[hp] at hj;cases hj|some s =>rw[hp] at hj;cases hj;refine .inr ⟨_,s,hp,rfl,?_,.inr ⟨by omega,by omega⟩⟩;have:=entnew2 (j-rg.length);rwa [show rg.length+(j-rg.length)=j by omega] at this
  have fpm:∀(i q b:Nat),σ[i]?=some q->Env.fp (σ.map ε.ent) i b->ε.fp q b:=λi q b hi hb=>by rwa [Yb ε σ hi] at hb
  have fpo:∀q b,rg.length<=q->¬ε.fp q b:=λq b hq hb=>by grind[Env.fp,Q2p]
  have mOf:∀b,(Base.at_ pre (σ.map ε.ent) w).m b->∃(i q:Nat) (h:Reg),σ[i]?=some q/\rg[q]?=some h/\h.excl=true/\ε.fp q b/\(∃p:Reg,pre[i]?=some p/\p.excl=true):=λb ⟨i,p,hp,he,hb⟩=>by grind
  have lOf:∀b,(Base.at_ pre (σ.map ε.ent) w).l b->∃(i q:Nat) (h p:Reg),σ[i]?=some q/\rg[q]?=some h/\h.live=true/\ε.fp q b/\pre[i]?=some p:=λb ⟨i,p,hp,he,hb⟩=>by grind
  have MOf:∀b,(Base.at_ pre (σ.map ε.ent) w).M b->bc.M b:=λb hb=>by rcases hb with h|h;exact .inl (kf hB h);obtain⟨i,q,h,_,hh,hex,hf,_⟩:=mOf b h;exact hs.lim q h hh hex b hf
  have LOf:∀b,(Base.at_ pre (σ.map ε.ent) w).L b->bc.L b:=λb hb=>by rcases hb with h|h;exact .inl (kf hB h);obtain⟨i,q,h,p,_,hh,hlv,hf,_⟩:=lOf b h;exact(hs.lt q h hh hlv b hf).2
  have sepA:∀(j:Nat) (r:Reg),rg[j]?=some r->r.live=true->(∀(i:Nat) (p:Reg),pre[i]?=some p->p.excl=true->σ[i]?≠some j)->∀b,ε.fp j b->¬(Base.at_ pre (σ.map ε.ent) w).M b:=λj r hj hlv hno b hb hM=>by rcases hM with h|h;have h:w.heap.size<=b:=h;have:=(hs.lt j r hj hlv b hb).1;omega;obtain⟨i,q,h,hq,hh,hex,hf,p,hp,he⟩:=mOf b h;have hqj:q≠j:=λe=>hno i p hp he (by rw[hq,e]);exact hs.sep q j h r hqj hh hj hex hlv b hf hb
  refine⟨by simp[lb,lbe,hlen,hplen],λj r hj=>?_,λj r hj hlv b hb=>?_,λj r hj hex b hb=>?_,λi j ri rj hij hi hj he hlv b hb1 hb2=>?_⟩;rcases cls j r hj with⟨k1,k2,k3,k4⟩|⟨i,s,k1,k2,k3,k4⟩;rw[k3];refine(RegOk.world (hs.reg j r k2) hfr.size (λb hb hlv hlt=>hfr.block b hlt (λhm=>sepA j r k2 hlv k4 b hb (.inr hm)))).same (List.all_eq_true.1 hsc r (jB k2)) hat;rw[k3,k2];exact RegOk.reren hτ (List.all_eq_true.1 hpsc s (jB k1)) (λhex b hb=>MOf b (hpost.lim i s k1 hex b hb)) (hpost.reg i s k1);unfold Env.fp at hb;rcases cls j r hj with⟨k1,k2,k3,k4⟩|⟨i,s,k1,k2,k3,k4⟩;rw[k3] at hb;have:=hs.lt j r k2 hlv b hb;exact⟨jN this.1 hfr.size,this.2⟩;rw[k3] at hb;rw[k2,Q16] at hlv;have:=hpost.lt i s k1 hlv b hb;exact⟨this.1,LOf b this.2⟩;unfold Env.fp at hb;rcases cls j r hj with⟨k1,k2,k3,k4⟩|⟨i,s,k1,k2,k3,k4⟩;rw[k3] at hb;exact hs.lim j r k2 hex b hb;rw[k3] at hb;rw[k2,Q15] at hex;exact MOf b (hpost.lim i s k1 hex b hb);unfold Env.fp at hb1 hb2;rcases cls i ri hi with⟨k1,k2,k3,k4⟩|⟨t,s,k1,k2,k3,k4⟩<;>rcases cls j rj hj with⟨m1,m2,m3,m4⟩|⟨t',s',m1,m2,m3,m4⟩;rw[k3] at hb1;rw[m3] at hb2;exact hs.sep i j ri rj hij k2 m2 he hlv b hb1 hb2;rw[k3] at hb1;rw[m3] at hb2;rw[m2,Q16] at hlv;cases hse:s'.excl with|true=>exact sepA i ri k2 (Y7 he) k4 b hb1 (hpost.lim t' s' m1 hse b hb2)|false =>rcases hshare with hsh|hsh;grind;rcases(hpost.lt t' s' m1 hlv b hb2).2 with h|h;have h:w.heap.size<=b:=h;have:=(hs.lt i ri k2 (Y7 he) b hb1).1;omega;obtain⟨u,q,h,p,hq,hh,hlv',hf,hp⟩:=lOf b h;by_cases hqi:q=i;grind[Q53];exact hs.sep i q ri h (Ne.symm hqi) k2 hh he hlv' b hb1 hf
  rw[k3] at hb1;rw[m3] at hb2;rw[k2,Q15] at he;exact sepA j rj m2 hlv m4 b hb2 (hpost.lim t s k1 he b hb1);rw[k3] at hb1;rw[m3] at hb2;rw[k2,Q15] at he;rw[m2,Q16] at hlv;refine hpost.sep t t' s s' (λe=>hij ?_) k1 m1 he hlv b hb1 hb2;grind
def Cfg.after(P:Program)(c:Cfg)(σ:List Nat)(pre:List Reg)(res:SV)(post:List Reg):Option Cfg:=match(seg P 5000 c.k c.st).2 with
 |.call _ _ dst _ _ _ k st =>
   let τ:=callTau pre.length st.rg.length σ
   if st.scp&&post.all (Reg.scp post.length)&&res.scp post.length&&kH pre.length post.length&&σ.all (λq=>kv q st.rg.length||kH (st.rg.length+post.length) q) &&
    (noDup σ||pre.all λp=>!p.excl)&&(post.all (λr=>r.excl||!r.live)||shareOk st.rg σ pre) then
    (putSt { st with rg:=back τ σ pre post st.rg++(post.drop pre.length).map (Reg.ren τ) } dst [] (res.ren τ)).map λst'=>⟨k,st'⟩
   else none
 |_=>none
def Cfg.ret(P:Program)(c:Cfg)(σ:List Nat)(pre:List Reg)(res:SV)(post:List Reg):Cfg:=match c.after P σ pre res post with
 |some c'=>c'
 |none=>noCfg
def Cfg.drawn(P:Program)(c:Cfg):Bool:=match(seg P 5000 c.k c.st).2 with
 |.call _ _ _ _ d _ _ _=>d
 |_=>true
def callEnt(drawn:Bool)(σ:List Nat)(st:St)(pre:List Reg)(want have_:List SV):Option (List F):=
 if pre.all (Reg.scp pre.length)&&want.all (SV.scp pre.length)&&(!drawn||pre.all (λr=>!r.excl))&&kH st.rg.length 1000000&&(noDup σ||pre.all λp=>!p.excl) then
  match regsMatch (at' σ) st.rg σ pre with
  |some vc=>(sEqs (want.map (SV.ren (at' σ))) have_).map (vc++·)
  |none=>none
 else none
section
variable {P:Program} [hw:Wide P] {fn:Func} {n0:Nat} {S:SV->List Reg->Prop} {U:Tgt} {c:Cfg} {vc:List Prop}
theorem Qhv{bc:Base}{ε:Env}(hε:ε.length<=1000000){w:World}{rg pre:List Reg}{σ:List Nat}{E:List F}(hs:RegsOk ε bc.M bc.L w rg)(hsc:pre.all (Reg.scp pre.length)=true)(hd:noDup σ=true\/∀p∈pre,p.excl=false)
 (h:regsMatch (at' σ) rg σ pre=some E) (hE:AllF E) (hex:∀(i q:Nat) (p:Reg),pre[i]?=some p->σ[i]?=some q->p.excl=true->q<rg.length) :
 RegsOk (σ.map ε.ent) (Base.at_ pre (σ.map ε.ent) w).M (Base.at_ pre (σ.map ε.ent) w).L w pre /\
 (∀(i:Nat) (p:Reg),pre[i]?=some p->∃q:Nat,σ[i]?=some q/\(p.excl=true->∃h:Reg,rg[q]?=some h/\h.excl=true)/\(p.live=true->(∃h:Reg,rg[q]?=some h/\h.live=true)\/rg.length<=q)):=by
  have hl:=Yh h;have hτ:∀r,r<pre.length->ε.at_ (at' σ r)=Env.at_ (σ.map ε.ent) r:=λr hr=>by simp_all[some,jh,Q13,Q14]
  obtain⟨_,h1⟩:=Gw hε hτ hs hsc h hE;have out:∀p b,rg.length<=p->¬ε.fp p b:=λp b hp hb=>by unfold Env.fp at hb;rw[Q2p (by rw[hs.len];exact hp)] at hb;exact hb
  have hreg:∀(i:Nat) (p:Reg),pre[i]?=some p->∃q:Nat,σ[i]?=some q/\(p.excl=true->∃h:Reg,rg[q]?=some h/\h.excl=true)/\(p.live=true->(∃h:Reg,rg[q]?=some h/\h.live=true)\/rg.length<=q):=λi p hp=>by obtain⟨q,hq,_,⟨h,vc',hh,hm⟩|ho⟩:=h1 i p hp;exact⟨q,hq,λhe=>⟨h,hh,(Qz hm).1 he⟩,λhe=>.inl ⟨h,hh,(Qz hm).2 he⟩⟩;grind
  refine⟨⟨by simp[hl],λi r hi=>?_,λi r hi hlv b hb=>?_,λi r hi he b hb=>.inr ⟨i,r,hi,he,hb⟩,λi j ri rj hij hi hj he hlv b hb hb'=>?_⟩,hreg⟩;obtain⟨q,hq,hok,_⟩:=h1 i r hi;rw[Q2s ε σ hq];have:=RegOk.reren (ε:=σ.map ε.ent) (ε':=σ.map ε.ent) (τ:=id) (n:=pre.length) (M':=(Base.at_ pre (σ.map ε.ent) w).M) (λ_ _=>rfl) (List.all_eq_true.1 hsc r (jB hi)) (λhe b hb=>.inr ⟨i,r,hi,he,by rw[Yb ε σ hq];exact hb⟩) hok;have hid:∀r:Reg,r.ren id=r:=λr=>by(have hc:∀cs:List C,cs.map (C.ren id)=cs:=λcs=>by(conv=>rhs;rw[<- List.map_id cs]);exact ki λc _=>by cases c<;>simp[C.ren]);(have hf:∀foc:Option (Nat×List C),focRen id foc=foc:=λfoc=>by cases foc with|none=>rfl|some kc=>simp only[focRen,hc]);(have hc1:∀c:C,C.ren id c=c:=λc=>by cases c<;>simp[C.ren]);cases r<;>simp only[Reg.ren,hc,hf,hc1];simp;rename_i o;cases o<;>rfl
  rw[hid] at this;exact this;obtain⟨q,hq,_,hkind⟩:=h1 i r hi;refine⟨?_,.inr ⟨i,r,hi,hlv,hb⟩⟩;rw[Yb ε σ hq] at hb;rcases hkind with⟨h,vc',hh,hm⟩|ho;exact(hs.lt q h hh ((Qz hm).2 hlv) b hb).1;exact absurd hb (out q b ho);obtain⟨p,hp,_,⟨h,vc',hh,hm1⟩|ho⟩:=h1 i ri hi;obtain⟨q,hq,_,⟨h',vc'',hh',hm2⟩|ho'⟩:=h1 j rj hj;rw[Yb ε σ hp] at hb;rw[Yb ε σ hq] at hb';have hpq:p≠q:=λe=>by grind[Q4w,jB]
  exact hs.sep p q h h' hpq hh hh' ((Qz hm1).1 he) ((Qz hm2).2 hlv) b hb hb';simp_all[Yb,absurd];grind
theorem RunF.callX{f:Nat}{args want:List SV}{pre:List Reg}{T:SV->List Reg->Prop}(he:Enters P f)(spec:Ctr P f pre want T)(σ:List Nat){E:List F}(h:see P fn c=(vc,.call f args))(hv:Conj vc)
 (hc:callEnt (c.drawn P) σ (c.at P) pre want args=some E) (hE:AllF E) (hlt:∀(i q:Nat) (p:Reg),pre[i]?=some p->σ[i]?=some q->p.excl=true->q<(c.at P).rg.length)
 (next:∀res post,T res post->(c.after P σ pre res post).isSome=true/\RunF P fn n0 U (c.ret P σ pre res post)):RunF P fn n0 U c:=by
  intro b hb;unfold see at h;unfold Cfg.at Cfg.drawn at hc;unfold Cfg.at at hlt;unfold Cfg.ret Cfg.after at next;generalize hg:seg P 5000 c.k c.st=r at h hc next hlt;obtain⟨vc',out⟩:=r;cases out<;>simp only[Prod.mk.injEq,reduceCtorEq,and_false] at h;case call f' args' dst g d k0 k st =>cases g with|cons=>simp[callV] at h|nil =>simp only[callV,Prod.mk.injEq,View.call.injEq] at h;obtain⟨rfl,rfl,rfl⟩:=h;refine Qp hw.mixed 5000 _ _ _ _ hg hv.toAll (.inr ⟨he,λε a w hs=>⟨λ_=>?_,λhn=>absurd (gHolds_nil a) hn⟩⟩);simp only at hc hlt;unfold callEnt at hc;split at hc;rename_i hcc;simp only[jg] at hcc;obtain⟨⟨⟨⟨c1,c2⟩,c3⟩,c4⟩,c5⟩:=hcc;(have hε:ε.length<=1000000:=by rw[hs.regs.len];exact jx c4);(have hdup:noDup σ=true\/∀p∈pre,p.excl=false:=by grind);split at hc;rename_i vc1 h1;obtain⟨vc2,h2,he2⟩:=map_nil hc;subst he2;have hE':=hE;have hl:=Yh h1;(have hτ:∀r,r<pre.length->ε.at_ (at' σ r)=Env.at_ (σ.map ε.ent) r:=λr hr=>by simp_all[some,jh,Q13,Q14]);obtain⟨hgiven,hreg⟩:=Qhv hε hs.regs c1 hdup h1 hE'.left hlt;(have hargs:args'.map (SV.den ε)=want.map (SV.den (σ.map ε.ent)):=by rw[<- Q3j (ε:=ε) hε h2 hE'.right,List.map_map];grind[ki,Gd]);rw[hargs];refine(spec (σ.map ε.ent) w hgiven).mono ?_;rintro e w' ⟨res,post,ε',hT,rfl,hpre,hpost,hfr⟩;obtain⟨hsome,hnext⟩:=next res post hT;simp only at hsome hnext;split at hsome;rename_i hcond;rw[if_pos hcond] at hnext;simp only[jg] at hcond;obtain⟨⟨⟨⟨⟨⟨d1,d2⟩,d3⟩,d4⟩,d5⟩,d6⟩,d7⟩:=hcond;obtain⟨s1,s2⟩:=Ql d1;(have hshare:(∀r∈post,r.excl=true\/r.live=false)\/shareOk st.rg σ pre=true:=by grind);obtain⟨hregs',hat,hτ2⟩:=hs.regs.calls (w':=w') (ε':=ε') (post:=post) (σ:=σ) (pre:=pre) hs.below.size s2 hl hreg (λq hq=>by simp_all) hdup (jx d4) d2 hpost hpre hfr hshare;(cases hput:putSt { st with rg:=back (callTau pre.length st.rg.length σ) σ pre post st.rg++(post.drop pre.length).map (Reg.ren (callTau pre.length st.rg.length σ)) } dst [] (res.ren (callTau pre.length st.rg.length σ)) with|none=>rw[hput] at hsome;cases hsome|some st' =>rw[hput] at hnext;simp only[jX] at hnext;(have hm:∀k,k<b.w.heap.size->¬b.m k->¬(Base.at_ pre (σ.map ε.ent) w).m k:=λk hk hm ⟨i,p,hp,hex,hfp⟩=>by obtain⟨q,hq,hx,_⟩:=hreg i p hp;obtain⟨h,hh,hhex⟩:=hx hex;rw[Yb ε σ hq] at hfp;rcases hs.regs.lim q h hh hhex k hfp with h|h;omega;exact hm h);(have hsat:SatE b { st with rg:=back (callTau pre.length st.rg.length σ) σ pre post st.rg++(post.drop pre.length).map (Reg.ren (callTau pre.length st.rg.length σ)) } (backE σ pre ε' ε++ε'.drop pre.length) a w':=by refine⟨hs.defs,hs.size,λen hen=>(hs.fr en hen).same (s1 en hen) hat,hregs',hs.below.step hfr.os hfr.tape hfr.output hfr.size (λk hk hmk=>hfr.block k (jN hk hs.below.size) (hm k hk hmk)),?_⟩;have hbl:=(Q52 (τ:=id) 0 σ pre post ε' st.rg ε hl (jx d4) (by rw[hpost.len];exact jo _) hs.regs.len.symm).2.1;(have e1:(Env.hs (backE σ pre ε' ε++ε'.drop pre.length)).take ε.length=ε.hs:=by apply kD;intro i;rw[List.getElem?_take];by_cases hi:i<ε.length;rw[if_pos hi];have:=hat i (by rw[<- hs.regs.len];exact hi);unfold Env.hs;(have hi2:i<(backE σ pre ε' ε++ε'.drop pre.length).length:=by rw[jm,hbl];omega);rw[jy,jy,jh hi,jh hi2];unfold Env.at_ Env.ent at this;grind;simp_all[if_neg,Env.hs,kd]);exact(hs.pre.trans (by rw[<- e1];exact List.take_prefix _ _)));refine⟨_,rfl,λhd=>?_,hnext b hb _ w' ⟨_,Qi hsat hput (λ_=>?_) (λhn=>absurd (gHolds_nil _) hn)⟩⟩;subst hd;(have c3:pre.all (λr=>!r.excl)=true:=by simpa using c3);refine⟨hfr.os,hfr.tape,hfr.output,hfr.size,λk hk=>hfr.block k hk λ⟨i,p,hp,hex,_⟩=>?_⟩;grind;exact(Gd hτ2 d3).symm);cases hsome;cases hc;cases hc
  all_goals grind
def exclIn(n:Nat):List Nat->List Reg->Bool
 |q::σ,p::pre=>(!p.excl||kv q n)&&exclIn n σ pre
 |_,_=>true
theorem Q27{n:Nat}:∀{σ:List Nat} {pre:List Reg},exclIn n σ pre=true->∀(i q:Nat) (p:Reg),pre[i]?=some p->σ[i]?=some q->p.excl=true->q<n
 |q::σ,p::pre,h,i,q',p',h1,h2,h3=>by simp only[exclIn,jg,jQ,jC] at h;cases i with|zero =>simp_all|succ i=>exact Q27 h.2 i q' p' W248 W300 h3
 |[],_,_,i,_,_,_,h2,_=>by simp at h2
 |_::_,[],_,i,_,_,h1,_,_=>by
  simp at h1
theorem RunF.call{f:Nat}{args want:List SV}{pre:List Reg}{res:SV}{post:List Reg}(he:Enters P f)(spec:Ctr P f pre want (Det res post))(σ:List Nat){E:List F}(h:see P fn c=(vc,.call f args))(hv:Conj vc)
 (hc:callEnt (c.drawn P) σ (c.at P) pre want args=some E) (hE:AllF E) (hok:((c.after P σ pre res post).isSome&&exclIn (c.at P).rg.length σ pre)=true) (next:RunF P fn n0 U (c.ret P σ pre res post)):RunF P fn n0 U c:=by
  rw[jg] at hok;exact RunF.callX he spec σ h hv hc hE (Q27 hok.2) λr p ⟨h1,h2⟩=>by subst h1;subst h2;exact⟨hok.1,next⟩
theorem RunF.callE{f:Nat}{args want:List SV}{pre:List Reg}{T:SV->List Reg->Prop}(he:Enters P f)(spec:Ctr P f pre want T)(σ:List Nat){E:List F}(h:see P fn c=(vc,.call f args))(hv:Conj vc)
 (hc:callEnt (c.drawn P) σ (c.at P) pre want args=some E) (hE:AllF E) (hok:exclIn (c.at P).rg.length σ pre=true) (next:∀res post,T res post->(c.after P σ pre res post).isSome=true/\RunF P fn n0 U (c.ret P σ pre res post)):RunF P fn n0 U c:=
 RunF.callX he spec σ h hv hc hE (Q27 hok) next
def Cfg.gafter(P:Program)(c:Cfg)(σ:List Nat)(res:SV):Option Cfg:=match(seg P 5000 c.k c.st).2 with
 |.call _ _ dst g _ _ k st=>if res.scp σ.length then(putSt st dst g (res.ren (at' σ))).map λst'=>⟨k,st'⟩ else none
 |_=>none
def Cfg.gret(P:Program)(c:Cfg)(σ:List Nat)(res:SV):Cfg:=match c.gafter P σ res with
 |some c'=>c'
 |none=>noCfg
def Cfg.gx(P:Program)(c:Cfg):Option Bool:=match(seg P 5000 c.k c.st).2 with
 |.call _ _ _ g _ _ _ st=>(splitOn st g).map (·.2)
 |_=>none
def Cfg.gthn(P:Program)(c:Cfg)(b:Bool):Cfg:=match(seg P 5000 c.k c.st).2 with
 |.call _ _ _ g _ k0 _ st=>match splitOn st g with
   |some (t,_)=>⟨k0,litT st t b⟩
   |none=>noCfg
 |_=>noCfg
theorem RunF.guard{f:Nat}{args:List SV}{x:Bool}(h:see P fn c=(vc,.gcall f args))(hv:Conj vc)(hx:c.gx P=some x)(ht:x=true->RunF P fn n0 U (c.gthn P true))(hf:x=false->RunF P fn n0 U (c.gthn P false)):RunF P fn n0 U c:=by
 intro b hb;unfold see at h;unfold Cfg.gx at hx;unfold Cfg.gthn at ht hf;generalize hg:seg P 5000 c.k c.st=r at h hx ht hf;obtain⟨vc',out⟩:=r;cases out<;>simp only[Prod.mk.injEq,reduceCtorEq,and_false] at h;case call f' args' dst g d k0 k st =>(have hvc:vc'=vc:=by cases g<;>simp[callV] at h<;>exact h.1);subst hvc;simp only at hx ht hf;cases hsp:splitOn st g with|none=>rw[hsp] at hx;cases hx|some tx =>obtain⟨t,y⟩:=tx;rw[hsp] at hx ht hf;cases hx;refine Qp hw.mixed 5000 _ _ _ _ hg hv.toAll (.inl λa w ⟨ε,hs⟩=>?_);cases hy:y with|true=>exact ht hy b hb a w ⟨ε,Zg hs hsp hy⟩|false=>exact hf hy b hb a w ⟨ε,Zg hs hsp hy⟩
 all_goals grind
theorem RunF.gcall{f:Nat}{args want:List SV}{pre:List Reg}{res:SV}{post:List Reg}(he:Enters P f)(spec:Ctr P f pre want (Det res post))(σ:List Nat){E:List F}(h:see P fn c=(vc,.gcall f args))(hv:Conj vc)
 (hc:callEnt true σ (c.at P) pre want args=some E) (hE:AllF E) (hok:(c.gafter P σ res).isSome=true) (next:RunF P fn n0 U (c.gret P σ res)):RunF P fn n0 U c:=by
  intro b hb;unfold see at h;unfold Cfg.at at hc;unfold Cfg.gret at next;unfold Cfg.gafter at next hok;generalize hg:seg P 5000 c.k c.st=r at h hc next hok;obtain⟨vc',out⟩:=r;cases out<;>simp only[Prod.mk.injEq,reduceCtorEq,and_false] at h;case call f' args' dst g d k0 k st =>(have hvc:vc'=vc/\f'=f/\args'=args:=by cases g<;>simp[callV] at h<;>exact h);obtain⟨rfl,rfl,rfl⟩:=hvc;simp only at hc hok next;split at hok;rename_i hsc;rw[if_pos hsc] at next;(cases hput:putSt st dst g (res.ren (at' σ)) with|none=>rw[hput] at hok;cases hok|some st' =>rw[hput] at next;simp only[jX] at next;refine Qp hw.mixed 5000 _ _ _ _ hg hv.toAll (.inr ⟨he,λε a w hs=>⟨λhgh=>?_,λhn=>?_⟩⟩);unfold callEnt at hc;split at hc;rename_i hcc;simp only[jg] at hcc;obtain⟨⟨⟨⟨c1,c2⟩,c3⟩,c4⟩,c5⟩:=hcc;(have c3:∀p∈pre,p.excl=false:=λp hp=>by grind);(have hε:ε.length<=1000000:=by rw[hs.regs.len];exact jx c4);split at hc;rename_i vc1 h1;obtain⟨vc2,h2,he2⟩:=map_nil hc;subst he2;have hE':=hE;have hl:=Yh h1;(have hτ:∀r,r<pre.length->ε.at_ (at' σ r)=Env.at_ (σ.map ε.ent) r:=λr hr=>by simp_all[some,jh,Q13,Q14]);obtain⟨hgiven,hreg⟩:=Qhv hε hs.regs c1 (.inr c3) h1 hE'.left (λi q p hp _ hex=>by rw[c3 p (jB hp)] at hex;cases hex);(have hargs:args'.map (SV.den ε)=want.map (SV.den (σ.map ε.ent)):=by rw[<- Q3j (ε:=ε) hε h2 hE'.right,List.map_map];grind[ki,Gd]);rw[hargs];refine(spec (σ.map ε.ent) w hgiven).mono ?_;rintro e w' ⟨res',post',ε',⟨rfl,rfl⟩,rfl,hpre,hpost,hfr⟩;have hgrow:Grow w w':=⟨hfr.os,hfr.tape,hfr.output,hfr.size,λk hk=>hfr.block k hk λ⟨i,p,hp,hex,_⟩=>by rw[c3 p (jB hp)] at hex;cases hex⟩;refine⟨_,rfl,λ_=>hgrow,next b hb _ w' ⟨ε,Qi (hs.grow hgrow) hput (λ_=>?_) (λhn=>absurd hgh hn)⟩⟩;refine(Gd (n:=σ.length) (λr hr=>?_) hsc).symm;rw[hτ r W48];obtain⟨t,ht⟩:=hpre;(have hlt:r<(Env.hs (σ.map ε.ent)).length:=by simp[Env.hs];omega);(have e1:ε'.hs[r]?=(Env.hs (σ.map ε.ent))[r]?:=by grind[Base.at_,Env.hs,jI]);generalize σ.map ε.ent=η at hlt e1⊢;unfold Env.hs at e1 hlt;rw[jK] at hlt;rw[jy,jy,jh hlt] at e1;unfold Env.at_ Env.ent;grind;cases hc;cases hc;exact next b hb _ w ⟨ε,Qi hs hput (λh=>absurd h hn) (λ_=>rfl)⟩);cases hok
  all_goals grind
def openCells(own:Bool):Nat->List TC->Option (List C×List Reg)
 |_,[]=>some ([],[])
 |base,.val x::r=>(openCells own base r).map λy=>(toC x::y.1,y.2)
 |base,.sub ty s n f::r=>(openCells own (base+1) r).map λy=>(.h base::y.1,(if own then .own ty s n f none else .row s n f none)::y.2)
 |_,.any::_=>none
def tcs(g:Nat->TC):Nat->Nat->List TC
 |_,0=>[]
 |j,n+1=>g j::tcs g (j+1) n
def focSt(st:St)(r k:Nat):Option (St×List Prop):=
 if st.scp then
  match nth st.rg r with
  |some (.own ty size n f none)=>(openCells true st.rg.length (tcs (f k) 0 size)).map λy=>({ st with rg:=st.rg.set r (.own ty size n f (some (k,y.1)))++y.2 },[k<n])
  |some (.row size n f _)=>(openCells false st.rg.length (tcs (f k) 0 size)).map λy=>({ st with rg:=st.rg.set r (.row size n f (some (k,y.1)))++y.2 },[k<n])
  |_=>none
 else none
end
theorem Zy{ε:Env}{i:Nat}{x:Ent}(h:ε[i]?=some x):ε.ent i=x:=by
 unfold Env.ent;rw[jc,h];rfl
theorem RegsOk.split{ε:Env}{M L:Nat->Prop}{w:World}{rg regs:List Reg}{r:Nat}{old new:Reg}{x0:Ent}{xs:Env}(hs:RegsOk ε M L w rg)(ho:rg[r]?=some old)(hlv:old.live=true)(hx0:x0.h=ε.at_ r)(hsc:rg.all (Reg.scp rg.length)=true)
 (hk:old.excl=true\/(new.excl=false/\∀s∈regs,s.excl=false)) (hl:xs.length=regs.length) (hf0:∀b,x0.fp b->ε.fp r b) (hfx:∀x∈xs,∀b,x.fp b->ε.fp r b)
 (hd0:old.excl=true->∀x∈xs,∀b,x.fp b->¬x0.fp b) (hdx:old.excl=true->∀(q q':Nat) (x x':Ent),q≠q'->xs[q]?=some x->xs[q']?=some x'->∀b,x.fp b->¬x'.fp b)
 (hnew:RegOk (ε.set r x0++xs) M w x0 new) (hregs:∀(q:Nat) (s:Reg) (x:Ent),regs[q]?=some s->xs[q]?=some x->RegOk (ε.set r x0++xs) M w x s) :
 RegsOk (ε.set r x0++xs) M L w (rg.set r new++regs)/\∀i,i<rg.length->Env.at_ (ε.set r x0++xs) i=ε.at_ i:=by
  have hlen:=hs.len;have hr:r<rg.length:=(List.getElem?_eq_some_iff.1 ho).1;have e1:∀i,i<rg.length->i≠r->Env.ent (ε.set r x0++xs) i=ε.ent i:=λi hi hne=>by simp_all[Env.ent,jc,jI,j6,Ne.symm]
  have e2:Env.ent (ε.set r x0++xs) r=x0:=Zy (by grind);have e3:∀q x,xs[q]?=some x->Env.ent (ε.set r x0++xs) (rg.length+q)=x:=λq x hx=>Zy (by grind);have hat:∀i,i<rg.length->Env.at_ (ε.set r x0++xs) i=ε.at_ i:=λi hi=>by grind[Env.at_]
  refine⟨?_,hat⟩;have cls:∀(j:Nat) (s:Reg),(rg.set r new++regs)[j]?=some s->(j<rg.length/\j≠r/\rg[j]?=some s/\Env.ent (ε.set r x0++xs) j=ε.ent j)\/(j=r/\s=new/\Env.ent (ε.set r x0++xs) j=x0) \/ (∃(q:Nat) (x:Ent),j=rg.length+q/\regs[q]?=some s/\xs[q]?=some x/\Env.ent (ε.set r x0++xs) j=x):=λj s hj=>by grind
  have hpart:∀(j:Nat) (s:Reg),(rg.set r new++regs)[j]?=some s->¬(j<rg.length/\j≠r)->(∀b,Env.fp (ε.set r x0++xs) j b->ε.fp r b):=λj s hj hn b hb=>by unfold Env.fp at hb;grind
  have hexcl:∀(j:Nat) (s:Reg),(rg.set r new++regs)[j]?=some s->¬(j<rg.length/\j≠r)->s.excl=true->old.excl=true:=λj s hj hn he=>by grind
  refine⟨by simp[hlen,hl],λj s hj=>?_,λj s hj hl' b hb=>?_,λj s hj he b hb=>?_,λi j ri rj hij hi hj he hl' b hb1 hb2=>?_⟩;rcases cls j s hj with⟨k1,k2,k3,k4⟩|⟨rfl,rfl,k3⟩|⟨q,x,rfl,k2,k3,k4⟩;rw[k4];exact(hs.reg j s k3).same (List.all_eq_true.1 hsc s (jB k3)) hat;rw[k3];exact hnew;rw[k4];exact hregs q s x k2 k3;rcases cls j s hj with⟨k1,k2,k3,k4⟩|h;unfold Env.fp at hb;rw[k4] at hb;exact hs.lt j s k3 hl' b hb;exact hs.lt r old ho hlv b (hpart j s hj (λ⟨a1,a2⟩=>by rcases h with⟨h,_⟩|⟨q,x,h,_⟩<;>omega) b hb);rcases cls j s hj with⟨k1,k2,k3,k4⟩|h;unfold Env.fp at hb;rw[k4] at hb;exact hs.lim j s k3 he b hb;have hn:¬(j<rg.length/\j≠r):=λ⟨a1,a2⟩=>by rcases h with⟨h,_⟩|⟨q,x,h,_⟩<;>omega
  exact hs.lim r old ho (hexcl j s hj hn he) b (hpart j s hj hn b hb);by_cases hni:i<rg.length/\i≠r;have ci:=cls i ri hi;rcases ci with⟨k1,k2,k3,k4⟩|⟨h,_⟩|⟨q,x,h,_⟩;have hb1':ε.fp i b:=by unfold Env.fp at hb1;rw[k4] at hb1;exact hb1
  by_cases hnj:j<rg.length/\j≠r;rcases cls j rj hj with⟨m1,m2,m3,m4⟩|⟨h,_⟩|⟨q,x,h,_⟩;have hb2':ε.fp j b:=by unfold Env.fp at hb2;rw[m4] at hb2;exact hb2
  exact hs.sep i j ri rj hij k3 m3 he hl' b hb1' hb2';exact hnj.2 h;omega;exact hs.sep i r ri old k2 k3 ho he hlv b hb1' (hpart j rj hj hnj b hb2);exact hni.2 h;omega;have hex:=hexcl i ri hi hni he;have hb1':=hpart i ri hi hni b hb1;by_cases hnj:j<rg.length/\j≠r;rcases cls j rj hj with⟨m1,m2,m3,m4⟩|⟨h,_⟩|⟨q,x,h,_⟩;have hb2':ε.fp j b:=by unfold Env.fp at hb2;rw[m4] at hb2;exact hb2
  exact hs.sep r j old rj (Ne.symm m2) ho m3 hex hl' b hb1' hb2';exact hnj.2 h;omega;unfold Env.fp at hb1 hb2;rcases cls i ri hi with⟨k1,k2,_⟩|⟨rfl,rfl,k3⟩|⟨q,x,rfl,k2,k3,k4⟩<;>rcases cls j rj hj with⟨m1,m2,_⟩|⟨rfl,rfl,m3⟩|⟨q',x',rfl,m2,m3,m4⟩;exact hni ⟨k1,k2⟩;exact hni ⟨k1,k2⟩;exact hni ⟨k1,k2⟩;exact hnj ⟨m1,m2⟩;exact hij rfl;grind;exact hnj ⟨m1,m2⟩;grind;grind
theorem Q5v{g:Nat->TC}:∀{n j0 q:Nat},q<n->(tcs g j0 n)[q]?=some (g (j0+q))
 |0,_,q,h=>by omega
 |n+1,j0,0,_=>rfl
 |n+1,j0,q+1,h=>by
  simp only[tcs,List.getElem?_cons_succ];rw[Q5v W48,show j0+1+q=j0+(q+1) by omega]
theorem Q0r{g:Nat->TC}:∀{n j0:Nat},(tcs g j0 n).length=n
 |0,_=>rfl
 |n+1,j0=>by
  simp[tcs,Q0r (n:=n)]
theorem Zz{w:World}{M:Nat->Prop}{own:Bool}(us:Nat->Value)(Fs:Nat->Nat->Prop):∀{ts:List TC} {base j0:Nat} {cells:List C} {regs:List Reg},openCells own base ts=some (cells,regs) ->
 (∀q t,ts[q]?=some t->if own then OwnC w M t (Fs (j0+q)) (us (j0+q)) else RdC w (Fs (j0+q)) t (us (j0+q))) ->
 ∃js:List Nat,js.length=regs.length/\cells.length=ts.length/\(∀x∈js,j0<=x/\x<j0+ts.length)/\(∀(a b:Nat) x,js[a]?=some x->js[b]?=some x->a=b) /\
  (∀s∈regs,s.excl=own/\∀m,s.scp m=true)/\(∀(q:Nat) (s:Reg) (x:Nat),regs[q]?=some s->js[q]?=some x->∀ε,RegOk ε M w ⟨us x,Fs x⟩ s) /\
  (∀ε:Env,(∀(q x:Nat),js[q]?=some x->ε.at_ (base+q)=us x)->∀(q:Nat) (c:C),cells[q]?=some c->c.den ε=us (j0+q))
 |[],base,j0,cells,regs,h,_=>by simp only[openCells,Option.some.injEq,Prod.mk.injEq] at h;simp_all
 |.val v::ts,base,j0,cells,regs,h,hv=>by simp only[openCells] at h;obtain⟨⟨cs,rs⟩,h1,h2⟩:=map_nil h;cases h2;obtain⟨js,k1,k2,k3,k4,k5,k6,k7⟩:=Zz (w:=w) (M:=M) us Fs (j0:=j0+1) h1 (λq t ht=>by have:=hv (q+1) t (by simpa using ht);rwa [show j0+(q+1)=j0+1+q by omega] at this);refine⟨js,k1,by simp[k2],λx hx=>?_,k4,k5,k6,λε hε q c hc=>?_⟩;have:=k3 x hx;simp only[kj];omega;cases q with|zero =>simp only[jH,Option.some.injEq] at hc;subst hc;rw[Q93];have:=hv 0 (.val v) rfl;cases own<;>simp only[OwnC,RdC,jY,if_false,if_true] at this<;>exact this.symm|succ q =>grind
 |.sub ty s n f::ts,base,j0,cells,regs,h,hv=>by simp only[openCells] at h;obtain⟨⟨cs,rs⟩,h1,h2⟩:=map_nil h;cases h2;obtain⟨js,k1,k2,k3,k4,k5,k6,k7⟩:=Zz (w:=w) (M:=M) us Fs (j0:=j0+1) h1 (λq t ht=>by have:=hv (q+1) t (by simpa using ht);rwa [show j0+(q+1)=j0+1+q by omega] at this);refine⟨j0::js,by simp[k1],by simp[k2],λx hx=>?_,λa b x ha hb=>?_,λs' hs'=>?_,λq s' x hq hx=>?_,λε hε q c hc=>?_⟩;grind;(cases a with|zero =>simp only[jH,Option.some.injEq] at ha;subst ha;(cases b with|zero=>rfl|succ b =>have:=k3 _ (jB (by simpa using hb));omega)|succ a=>cases b with|zero =>simp only[jH,Option.some.injEq] at hb;subst hb;have:=k3 _ (jB (by simpa using ha));omega|succ b=>rw[k4 a b x (by simpa using ha) (by simpa using hb)]);(cases hs' with|head=>cases own<;>exact⟨rfl,λm=>rfl⟩|tail _ hs'=>exact k5 s' hs');(cases q with|zero =>simp only[jH,Option.some.injEq] at hq hx;subst hq hx;intro ε;have:=hv 0 _ rfl;cases own;simp only[jY,if_false,Nat.add_zero] at this;exact⟨this,trivial⟩;simp only[if_true,Nat.add_zero] at this;exact⟨this,trivial⟩|succ q=>exact k6 q s' x (by simpa using hq) (by simpa using hx));cases q with|zero =>simp only[jH,Option.some.injEq] at hc;subst hc;have:=hε 0 j0 rfl;simpa[C.den] using this|succ q =>have:=k7 ε (λq x hx=>by have:=hε (q+1) x (by simpa using hx);rwa [show base+(q+1)=base+1+q by omega] at this) q c (by simpa using hc);rwa [show j0+1+q=j0+(q+1) by omega] at this
 |.any::_,_,_,_,_,h,_=>by
  cases h
theorem Q17{b:Base}{st:St}{ε ε':Env}{a:Act}{w:World}{rg:List Reg}(hs:SatE b st ε a w)(hsc:st.scp=true)(hregs:RegsOk ε' b.M b.L w rg)(hat:∀i,i<st.rg.length->ε'.at_ i=ε.at_ i)(hle:st.rg.length<=ε'.length):SatE b { st with rg } ε' a w:=by
 refine⟨hs.defs,hs.size,λen hen=>(hs.fr en hen).same ((Ql hsc).1 en hen) hat,hregs,hs.below,?_⟩;have hl:=hs.regs.len;have e1:ε'.hs.take ε.length=ε.hs:=by apply kD;intro i;rw[List.getElem?_take];by_cases hi:i<ε.length;rw[if_pos hi];have:=hat i W48;unfold Env.hs;(have hi2:i<ε'.length:=by omega);simp_all[jy,jh,Env.at_,Env.ent,jc];simp_all[if_neg,Env.hs,kd]
 exact hs.pre.trans (by rw[<- e1];exact List.take_prefix _ _)
theorem Qj9{b:Base}{st st':St}{ε:Env}{a:Act}{w:World}{r k:Nat}{vc:List Prop}(hs:SatE b st ε a w)(h:focSt st r k=some (st',vc))(hv:All vc):∃ε',SatE b st' ε' a w:=by
 unfold focSt at h;split at h;rename_i hsc;obtain⟨s1,s2⟩:=Ql hsc;have hl:=hs.regs.len;split at h;rename_i ty size n f hr;obtain⟨⟨cells,regs⟩,h1,h2⟩:=map_nil h;cases h2;have hk:k<n:=hv.one;obtain⟨els,o1,o2,o3,o4,fps,o5,o6,o7⟩:=(Qf hs hr).1;have hget:∀j,j<size->getV els k j=some ((getV els k j).getD undef):=λj hj=>by obtain⟨u,hu,_⟩:=o5 k j hk hj;rw[hu];rfl
 obtain⟨js,k1,k2,k3,k4,k5,k6,k7⟩:=Zz (w:=w) (M:=b.M) (own:=true) (λj=>(getV els k j).getD undef) (fps k) (j0:=0) h1 (λq t ht=>by(have hq:q<size:=by grind[Q0r]);rw[Q5v hq] at ht;cases ht;obtain⟨u,hu,hok⟩:=o5 k q hk hq;simp only[ko,if_true,hu,Option.getD_some];exact hok);have k3:∀x∈js,x<size:=λx hx=>by have:=(k3 x hx).2;rwa [Q0r,ko] at this
 have k2:cells.length=size:=by rw[k2,Q0r]
 generalize hxsd:(js.map λx=>(⟨(getV els k x).getD undef,fps k x⟩:Ent))=xs;have hxs:∀(q:Nat) (x:Ent),xs[q]?=some x->∃j,js[q]?=some j/\x=⟨(getV els k j).getD undef,fps k j⟩:=λq x hx=>by grind
 have hxl:xs.length=regs.length:=by rw[<- hxsd];simp[k1]
 have hsc':∀foc,(Reg.own ty size n f foc).excl=true:=λ_=>rfl;obtain⟨hregs,hat⟩:=hs.regs.split (x0:=(⟨ε.at_ r,λbb=>ε.fp r bb/\∀j,j<size->¬fps k j bb⟩:Ent)) (xs:=xs) (regs:=regs) (new:=.own ty size n f (some (k,cells))) (Qd hr) rfl rfl s2 (.inl rfl) hxl (λbb hb=>hb.1) (λx hx bb hb=>by obtain⟨q,hq,rfl⟩:=List.mem_iff_getElem.1 hx;obtain⟨j,hj,he⟩:=hxs q _ (jh hq);rw[he] at hb;exact(o6 k j bb hk (k3 j (jB hj)) hb).1) (λ_ x hx bb hb hb0=>by grind) (λ_ q q' x x' hqq hx hx' bb hb hb'=>by obtain⟨j,hj,rfl⟩:=hxs q x hx;grind) (by(have hcells:∀(q:Nat) (c:C),cells[q]?=some c->c.den (ε.set r (⟨ε.at_ r,λbb=>ε.fp r bb/\∀j,j<size->¬fps k j bb⟩:Ent)++xs)=(getV els k q).getD undef:=λq c hc=>by have:=k7 (ε.set r (⟨ε.at_ r,λbb=>ε.fp r bb/\∀j,j<size->¬fps k j bb⟩:Ent)++xs) (λq x hx=>by unfold Env.at_;rw[Zy (x:=(⟨(getV els k x).getD undef,fps k x⟩:Ent))];grind) q c hc;rwa [ko] at this);refine⟨⟨els,o1,o2,o3,λbb hb=>⟨⟨(o4 bb hb).1,λj hj hf=>(o6 k j bb hk hj hf).2 hb⟩,(o4 bb hb).2⟩,λi j bb=>fps i j bb/\i≠k,λi j hi hj=>?_,λi j bb hi hj hb=>⟨⟨(o6 i j bb hi hj hb.1).1,λj' hj' hf=>hb.2 (o7 i j k j' bb hi hj hk hj' hb.1 hf).1⟩,(o6 i j bb hi hj hb.1).2⟩,λi j i' j' bb hi hj hi' hj' hb hb'=>o7 i j i' j' bb hi hj hi' hj' hb.1 hb'.1⟩,hk,k2⟩;obtain⟨u,hu,hok⟩:=o5 i j hi hj;refine⟨u,hu,λhik=>?_,λhik=>?_⟩;(have e:(λbb=>fps i j bb/\i≠k)=fps i j:=by funext bb;simp[hik]);show OwnC w b.M (f i j) (λbb=>fps i j bb/\i≠k) u;rw[e];exact hok;subst hik;(have hlt:j<cells.length:=by omega);refine⟨cells[j],jh hlt,?_⟩;rw[hcells j _ (jh hlt),hu];rfl) (λq s x hq hx=>by grind);exact⟨_,Q17 hs hsc hregs hat W228⟩;rename_i size n f foc hr;obtain⟨⟨cells,regs⟩,h1,h2⟩:=map_nil h;cases h2;have hk:k<n:=hv.one;have hrd:RdRow w (ε.fp r) (ε.at_ r) size n (λi j u=>RdC w (ε.fp r) (f i j) u):=by refine(Qf hs hr).1.map (jo _) (λ_ _ _=>rfl) (λi j u _ _ hu=>?_);cases foc with|none=>exact hu|some kc=>exact hu.1
 have hcell:=λj (hj:j<size)=>RdRow.cell hrd hk hj;have hus:∃us:Nat->Value,∀j,j<size->w.cell? ((haddr (ε.at_ r)).add (k * size+j))=some (us j)/\RdC w (ε.fp r) (f k j) (us j):=by refine⟨λj=>(w.cell? ((haddr (ε.at_ r)).add (k * size+j))).getD undef,λj hj=>?_⟩;grind
 obtain⟨us,hus⟩:=hus;obtain⟨js,k1,k2,k3,k4,k5,k6,k7⟩:=Zz (w:=w) (M:=b.M) (own:=false) us (λ_=>ε.fp r) (j0:=0) h1 (λq t ht=>by(have hq:q<size:=by grind[Q0r]);rw[Q5v hq] at ht;grind);have k2:cells.length=size:=by rw[k2,Q0r]
 generalize hxsd:(js.map λx=>(⟨us x,ε.fp r⟩:Ent))=xs;have hxs:∀(q:Nat) (x:Ent),xs[q]?=some x->∃j,js[q]?=some j/\x=⟨us j,ε.fp r⟩:=λq x hx=>by grind
 have hxl:xs.length=regs.length:=by rw[<- hxsd];simp[k1]
 obtain⟨hregs,hat⟩:=hs.regs.split (x0:=(⟨ε.at_ r,ε.fp r⟩:Ent)) (xs:=xs) (regs:=regs) (new:=.row size n f (some (k,cells))) (Qd hr) rfl rfl s2 (.inr ⟨rfl,λs hs=>(k5 s hs).1⟩) hxl (λbb hb=>hb) (λx hx bb hb=>by obtain⟨q,hq,rfl⟩:=List.mem_iff_getElem.1 hx;obtain⟨j,hj,he⟩:=hxs q _ (jh hq);rw[he] at hb;exact hb) (λh=>by cases h) (λh=>by cases h) (by(have hcells:∀(q:Nat) (c:C),cells[q]?=some c->c.den (ε.set r (⟨ε.at_ r,ε.fp r⟩:Ent)++xs)=us q:=λq c hc=>by have:=k7 (ε.set r (⟨ε.at_ r,ε.fp r⟩:Ent)++xs) (λq x hx=>by unfold Env.at_;rw[Zy (x:=(⟨us x,ε.fp r⟩:Ent))];grind) q c hc;rwa [ko] at this);obtain⟨A,c,e1,e2,e3,e4,e5⟩:=hrd;refine⟨⟨A,c,e1,e2,e3,e4,λhn=>?_⟩,hk,k2⟩;obtain⟨ad,rfl,hc⟩:=e5 hn;refine⟨ad,rfl,λi j hi hj=>?_⟩;obtain⟨u,h3,h4⟩:=hc i j hi hj;refine⟨u,h3,h4,λhik=>?_⟩;subst hik;(have hlt:j<cells.length:=by omega);refine⟨cells[j],jh hlt,?_⟩;rw[hcells j _ (jh hlt)];have h5:=(hus j hj).1;rw[e1,show haddr (.slice (some ad) n c)=ad from rfl,h3] at h5;injection h5) (λq s x hq hx=>by grind);exact⟨_,Q17 hs hsc hregs hat W228⟩;cases h;cases h
def foldCell(x:Value)(c:C):Option (List Prop):=
 match x,c with
 |.int k n,.i k' m=>if kindB k k' then some [n=m] else none
 |.bool a,.b b=>some [a=b]
 |.bool a,.t b=>some [a=b]
 |x,.v y=>some [x=y]
 |_,_=>none
def foldCells(rg:List Reg)(r:Nat):Nat->List TC->List C->Option (List Prop×List (Nat×Nat))
 |_,[],[]=>some ([],[])
 |j,.val x::ts,c::cs=>match foldCell x c,foldCells rg r (j+1) ts cs with
   |some e,some y=>some (e++y.1,y.2)
   |_,_=>none
 |j,.any::ts,_::cs=>foldCells rg r (j+1) ts cs
 |j,.sub ty s n f::ts,c::cs=>match c,foldCells rg r (j+1) ts cs with
   |.h q,some y=>match nth rg q with
     |some (.own ty' s' n' f' none)=>if jr ty ty'&&jr s s'&&!Nat.beq q r then some ([n=n',∀i,i<n->f i=f' i]++y.1,(j,q)::y.2) else none
     |none=>if kH 1000000 q then some ([n=0]++y.1,y.2) else none
     |_=>none
   |.v (.slice none 0 0),some y=>some ([n=0]++y.1,y.2)
   |_,_=>none
 |_,_,_=>none
def kill:List (Nat×Nat)->List Reg->List Reg
 |[],rg=>rg
 |(_,q)::l,rg=>kill l (rg.set q .dead)
def foldSt(st:St)(r:Nat)(g:Nat->TC):Option (St×List Prop):=
 match nth st.rg r with
 |some (.own ty size n f (some (k,cs)))=>match foldCells st.rg r 0 (tcs g 0 size) cs with
   |some y=>if noDup (y.2.map (·.2))&&st.scp&&kH st.rg.length 1000000 then some ({ st with rg:=kill y.2 (st.rg.set r (.own ty size n (λi=>if i=k then g else f i) none)) },y.1) else none
   |none=>none
 |_=>none
theorem Qb1{rg:List Reg}(j:Nat):∀{l:List (Nat×Nat)},(kill l rg).length=rg.length/\((∃p∈l,p.2=j)->∀s,(kill l rg)[j]?=some s->s=.dead)/\((∀p∈l,p.2≠j)->(kill l rg)[j]?=rg[j]?):=by
 intro l;induction l generalizing rg with|nil=>exact⟨rfl,(λ⟨p,hp,_⟩=>by cases hp),λ_=>rfl⟩|cons p l ih =>obtain⟨j0,q⟩:=p;obtain⟨h1,h2,h3⟩:=ih (rg:=rg.set q .dead);simp only[kill];refine⟨by rw[h1];simp,λ⟨p,hp,he⟩ s hs=>?_,λhn=>?_⟩;grind;simp_all
theorem Q9f{ε:Env}{x:Value}{c:C}{vc:List Prop}(h:foldCell x c=some vc)(hv:All vc):x=c.den ε:=by
 unfold foldCell at h;split at h;split at h;rename_i hk;cases h;have:=kR hk;subst this;rw[hv.one];rfl;cases h;cases h;rw[hv.one];rfl;cases h;rw[hv.one];rfl;cases h;rw[hv.one];rfl;cases h
theorem Z6{ε:Env}{M L:Nat->Prop}{w:World}{rg:List Reg}{r:Nat}(hε:rg.length<=1000000)(hs:RegsOk ε M L w rg):∀{ts:List TC} {cs:List C} {j0:Nat} {vc:List Prop} {ps:List (Nat×Nat)},foldCells rg r j0 ts cs=some (vc,ps)->All vc ->
 (∀p∈ps,j0<=p.1/\p.1<j0+ts.length/\p.2≠r/\∃h:Reg,rg[p.2]?=some h/\h.excl=true)/\(∀(a b:Nat×Nat),a∈ps->b∈ps->a.1=b.1->a=b) /\
 ∀(q:Nat) (t:TC) (c:C),ts[q]?=some t->cs[q]?=some c->OwnC w M t (λb=>∃p∈ps,p.1=j0+q/\ε.fp p.2 b) (c.den ε)
 |[],[],j0,vc,ps,h,_=>by simp only[foldCells,Option.some.injEq,Prod.mk.injEq] at h;grind
 |.val x::ts,c::cs,j0,vc,ps,h,hv=>by simp only[foldCells] at h;split at h;rename_i e y h1 h2;obtain⟨vc2,ps2⟩:=y;cases h;obtain⟨k1,k2,k3⟩:=Z6 hε hs h2 hv.right;refine⟨λp hp=>by grind,k2,λq t c' ht hc=>?_⟩;(cases q with|zero =>simp only[jH,Option.some.injEq] at ht hc;subst ht hc;exact(Q9f h1 hv.left).symm|succ q =>grind);cases h
 |.any::ts,c::cs,j0,vc,ps,h,hv=>by simp only[foldCells] at h;obtain⟨k1,k2,k3⟩:=Z6 hε hs h hv;refine⟨λp hp=>by grind,k2,λq t c' ht hc=>?_⟩;cases q with|zero =>simp only[jH,Option.some.injEq] at ht;subst ht;trivial|succ q =>grind
 |.sub ty s n f::ts,c::cs,j0,vc,ps,h,hv=>by(have nil:∀{n:Nat} {fp:Nat->Prop},n=0->OwnC w M (.sub ty s n f) fp (.slice none 0 0):=λhn=>by subst hn;exact Q5u);(have keep:∀{vc2:List Prop} {ps2:List (Nat×Nat)},foldCells rg r (j0+1) ts cs=some (vc2,ps2)->All vc2->(∀fp,OwnC w M (.sub ty s n f) fp (c.den ε)) -> (∀p∈ps2,j0<=p.1/\p.1<j0+(TC.sub ty s n f::ts).length/\p.2≠r/\∃h:Reg,rg[p.2]?=some h/\h.excl=true)/\(∀(a b:Nat×Nat),a∈ps2->b∈ps2->a.1=b.1->a=b) /\ ∀(q:Nat) (t:TC) (c':C),(TC.sub ty s n f::ts)[q]?=some t->(c::cs)[q]?=some c'->OwnC w M t (λb=>∃p∈ps2,p.1=j0+q/\ε.fp p.2 b) (c'.den ε):=λh2 hv2 hok=>by obtain⟨k1,k2,k3⟩:=Z6 hε hs h2 hv2;grind);simp only[foldCells] at h;split at h;rename_i q y h2;obtain⟨vc2,ps2⟩:=y;split at h;rename_i ty' s' n' f' hq;split at h;rename_i hb;cases h;simp only[jg,jC] at hb;obtain⟨⟨b1,b2⟩,b3⟩:=hb;have e1:=jf b1;have e2:=jf b2;subst e1 e2;have hv1:=hv.left;have e3:=hv1.head;have e4:=hv1.tail.one;subst e3;(have hqr:q≠r:=λe=>by subst e;rw[Nat.beq_refl] at b3;cases b3);obtain⟨k1,k2,k3⟩:=Z6 hε hs h2 hv.right;refine⟨λp hp=>?_,λa b ha hb he=>?_,λq' t c' ht hc=>?_⟩;simp only[kj];(cases hp with|head=>exact⟨jo _,by show j0<_;omega,hqr,_,Qd hq,rfl⟩|tail _ hp=>have:=k1 p hp;exact⟨by omega,by omega,this.2.2⟩);grind;(cases q' with|zero =>simp only[jH,Option.some.injEq] at ht hc;subst ht hc;have hok:=(hs.reg q _ (Qd hq)).1;(have e:(λb=>∃p∈(j0,q)::ps2,p.1=j0+0/\ε.fp p.2 b)=ε.fp q:=by funext b;apply propext;constructor;grind;exact λhf=>⟨_,.head _,rfl,hf⟩);rw[e];exact OwnRow.map hok (λ_ _ _=>rfl) (λi j fp' u hi _ _ hu=>by show OwnC w M (f i j) fp' u;rw[e4 i hi];exact hu)|succ q' =>grind);cases h;split at h;rename_i hq hb;cases h;exact keep h2 hv.right (λfp=>by have:(C.h q).den ε=.slice none 0 0:=Qcv (by rw[hs.len];have:=jx hb;omega);rw[this];exact nil hv.left.one);cases h;cases h;rename_i y h2;obtain⟨vc2,ps2⟩:=y;cases h;exact keep h2 hv.right (λfp=>nil hv.left.one);cases h
 |[],_::_,_,_,_,h,_=>by cases h
 |.val _::_,[],_,_,_,h,_=>by cases h
 |.any::_,[],_,_,_,h,_=>by cases h
 |.sub ..::_,[],_,_,_,h,_=>by
  cases h
theorem Q8b{b:Base}{st st':St}{ε:Env}{a:Act}{w:World}{r:Nat}{g:Nat->TC}{vc:List Prop}(hs:SatE b st ε a w)(h:foldSt st r g=some (st',vc))(hv:All vc):∃ε',SatE b st' ε' a w/\∀i,Env.at_ ε' i=ε.at_ i:=by
 unfold foldSt at h;split at h;rename_i ty size n f k cs hr;split at h;rename_i y hy;obtain⟨vc1,ps⟩:=y;split at h;rename_i hb;simp only[jg] at hb;cases h;obtain⟨⟨hnd,hsc⟩,h6⟩:=hb;obtain⟨s1,s2⟩:=Ql hsc;have hl:=hs.regs.len;generalize hf':(λi=>if i=k then g else f i)=f';have hvf:∀i,i<n->i≠k->f' i=f i:=λi _ hik=>by rw[<- hf'];exact if_neg hik
 have hgk:g=f' k:=by rw[<- hf'];exact(if_pos rfl).symm
 subst hgk;obtain⟨p1,p2,p3⟩:=Z6 (jx h6) hs.regs hy hv;obtain⟨⟨els,o1,o2,o3,o4,fps,o5,o6,o7⟩,hk,hcl⟩:=Qf hs hr;have hrr:=Qd hr;have hrl:r<st.rg.length:=(List.getElem?_eq_some_iff.1 hrr).1;have hq:∀p∈ps,∀q∈ps,p.2=q.2->p=q:=λp hp q hq he=>by obtain⟨i,hi,rfl⟩:=List.mem_iff_getElem.1 hp;obtain⟨j,hj,rfl⟩:=List.mem_iff_getElem.1 hq;by_cases hij:i=j;subst hij;rfl;exact(Q4w hnd hij (x:=ps[i].2) (by rw[jy,jh hi];rfl) (by grind)).elim
 let x0:Ent:=⟨ε.at_ r,λbb=>ε.fp r bb\/∃p∈ps,ε.fp p.2 bb⟩;have eq1:∀i,i≠r->Env.ent (ε.set r x0) i=ε.ent i:=λi hne=>by unfold Env.ent;grind
 have eq2:Env.ent (ε.set r x0) r=x0:=Zy W276;have hat:∀i,Env.at_ (ε.set r x0) i=ε.at_ i:=λi=>by by_cases hir:i=r;subst hir;unfold Env.at_;rw[eq2];rfl;unfold Env.at_;rw[eq1 i hir]
 have cls:∀(j:Nat) (s:Reg),(kill ps (st.rg.set r (.own ty size n f' none)))[j]?=some s->s=.dead\/(j=r/\s=.own ty size n f' none)\/(j≠r/\st.rg[j]?=some s/\∀p∈ps,p.2≠j):=λj s hj=>by obtain⟨_,k2,k3⟩:=Qb1 (rg:=st.rg.set r (.own ty size n f' none)) j (l:=ps);by_cases hex:∃p∈ps,p.2=j;exact .inl (k2 hex s hj);grind
 have fp0:∀bb,Env.fp (ε.set r x0) r bb->ε.fp r bb\/∃p∈ps,ε.fp p.2 bb:=λbb hb=>by unfold Env.fp at hb;rw[eq2] at hb;exact hb
 have fp1:∀j bb,j≠r->Env.fp (ε.set r x0) j bb->ε.fp j bb:=λj bb hj hb=>by unfold Env.fp at hb;rw[eq1 j hj] at hb;exact hb
 have hrq:∀p∈ps,∀bb,ε.fp r bb->¬ε.fp p.2 bb:=λp hp bb h1 h2=>by obtain⟨_,_,hne,h,hh,hex⟩:=p1 p hp;exact hs.regs.sep r p.2 _ h (Ne.symm hne) hrr hh rfl (Y7 hex) bb h1 h2
 refine⟨ε.set r x0,Q17 hs hsc ⟨?_,λj s hj=>?_,λj s hj hl' bb hb=>?_,λj s hj he bb hb=>?_,λi j ri rj hij hi hj he hl' bb hb1 hb2=>?_⟩ (λi _=>hat i) W228,hat⟩;grind[jq,Qb1];rcases cls j s hj with rfl|⟨rfl,rfl⟩|⟨k1,k2,_⟩;trivial;rw[eq2];have hcell:∀j,j<size->OwnC w b.M (f' k j) (λbb=>∃p∈ps,p.1=j/\ε.fp p.2 bb) ((cs.getD j (.v undef)).den ε):=λj hj=>by have:=p3 j (f' k j) (cs.getD j (.v undef)) (by rw[Q5v hj,ko]) (by grind);simpa using this
 refine⟨⟨els,o1,o2,o3,λbb hb=>⟨.inl (o4 bb hb).1,(o4 bb hb).2⟩,λi jj bb=>if i=k then(∃p∈ps,p.1=jj/\ε.fp p.2 bb) else fps i jj bb,λi jj hi hjj=>?_,λi jj bb hi hjj hb=>?_,λi jj i' jj' bb hi hjj hi' hjj' hb hb'=>?_⟩,trivial⟩;obtain⟨u,hu,hok⟩:=o5 i jj hi hjj;refine⟨u,hu,?_⟩;show OwnC w b.M (f' i jj) (λbb=>if i=k then(∃p∈ps,p.1=jj/\ε.fp p.2 bb) else fps i jj bb) u;by_cases hik:i=k;subst hik;obtain⟨x,hx,rfl⟩:=hok.2 rfl;grind;simp only[hik,if_false];rw[hvf i hi hik];exact hok.1 hik;by_cases hik:i=k;simp only[hik,if_true] at hb;obtain⟨p,hp,_,hf⟩:=hb;exact⟨.inr ⟨p,hp,hf⟩,λhbk=>hrq p hp bb (o4 bb hbk).1 hf⟩;simp only[hik,if_false] at hb;exact⟨.inl (o6 i jj bb hi hjj hb).1,(o6 i jj bb hi hjj hb).2⟩;by_cases hik:i=k<;>by_cases hik':i'=k<;>simp only[hik,hik',if_true,if_false] at hb hb';obtain⟨p,hp,e1,hf⟩:=hb;obtain⟨p',hp',e1',hf'⟩:=hb';have:p=p':=by apply hq p hp p' hp';apply Classical.byContradiction;intro hne;obtain⟨_,_,_,h,hh,hex⟩:=p1 p hp;obtain⟨_,_,_,h',hh',hex'⟩:=p1 p' hp';exact hs.regs.sep _ _ h h' hne hh hh' hex (Y7 hex') bb hf hf'
 subst this;exact⟨by omega,by omega⟩;obtain⟨p,hp,e1,hf⟩:=hb;exact(hrq p hp bb (o6 i' jj' bb hi' hjj' hb').1 hf).elim;obtain⟨p,hp,e1,hf⟩:=hb';exact(hrq p hp bb (o6 i jj bb hi hjj hb).1 hf).elim;exact o7 i jj i' jj' bb hi hjj hi' hjj' hb hb';rw[eq1 j k1];exact(hs.regs.reg j s k2).same (List.all_eq_true.1 s2 s (jB k2)) (λi _=>hat i);rcases cls j s hj with rfl|⟨rfl,rfl⟩|⟨k1,k2,_⟩;cases hl';rcases fp0 bb hb with h|⟨p,hp,h⟩;exact hs.regs.lt j _ hrr rfl bb h;obtain⟨_,_,_,h',hh,hex⟩:=p1 p hp;exact hs.regs.lt p.2 h' hh (Y7 hex) bb h;exact hs.regs.lt j s k2 hl' bb (fp1 j bb k1 hb);rcases cls j s hj with rfl|⟨rfl,rfl⟩|⟨k1,k2,_⟩;cases he;rcases fp0 bb hb with h|⟨p,hp,h⟩;exact hs.regs.lim j _ hrr rfl bb h;obtain⟨_,_,_,h',hh,hex⟩:=p1 p hp;exact hs.regs.lim p.2 h' hh hex bb h;exact hs.regs.lim j s k2 he bb (fp1 j bb k1 hb);rcases cls i ri hi with rfl|⟨rfl,rfl⟩|⟨k1,k2,k3⟩;cases he;rcases cls j rj hj with rfl|⟨rfl,rfl⟩|⟨m1,m2,m3⟩;cases hl';exact hij rfl;have hb2:=fp1 j bb m1 hb2;rcases fp0 bb hb1 with h|⟨p,hp,h⟩;exact hs.regs.sep i j _ rj hij hrr m2 rfl hl' bb h hb2;obtain⟨_,_,_,h',hh,hex⟩:=p1 p hp;exact hs.regs.sep p.2 j h' rj (m3 p hp) hh m2 hex hl' bb h hb2;have hb1':=fp1 i bb k1 hb1;rcases cls j rj hj with rfl|⟨rfl,rfl⟩|⟨m1,m2,m3⟩;cases hl';rcases fp0 bb hb2 with h|⟨p,hp,h⟩;exact hs.regs.sep i j ri _ hij k2 hrr he rfl bb hb1' h;obtain⟨_,_,_,h',hh,hex⟩:=p1 p hp;exact hs.regs.sep i p.2 ri h' (Ne.symm (k3 p hp)) k2 hh he (Y7 hex) bb hb1' h;exact hs.regs.sep i j ri rj hij k2 m2 he hl' bb hb1' (fp1 j bb m1 hb2);cases h;cases h;cases h
def nilsSt(st:St)(r:Nat)(f':Nat->Nat->TC):Option (St×List Prop):=
 match nth st.rg r with
 |some (.own ty size n f none)=>some ({ st with rg:=st.rg.set r (.own ty size n f' none) },[∀i j,i<n->j<size->f' i j=f i j\/(f i j=.val (.slice none 0 0)/\∃ty s g,f' i j=.sub ty s 0 g)])
 |_=>none
theorem Qhw{b:Base}{st st':St}{ε:Env}{a:Act}{w:World}{r:Nat}{f':Nat->Nat->TC}{vc:List Prop}(hs:SatE b st ε a w)(h:nilsSt st r f'=some (st',vc))(hv:All vc):∃ε',SatE b st' ε' a w:=by
 unfold nilsSt at h;split at h;rename_i ty size n f hr;cases h;have hvf:=hv.one;have hrr:=Qd hr;have hrl:r<st.rg.length:=(List.getElem?_eq_some_iff.1 hrr).1;have cls:∀(j:Nat) (s:Reg),(st.rg.set r (.own ty size n f' none))[j]?=some s->(j=r/\s=.own ty size n f' none)\/(j≠r/\st.rg[j]?=some s):=λj s hj=>by grind
 have old:∀(j:Nat) (s:Reg),(st.rg.set r (.own ty size n f' none))[j]?=some s->∃o:Reg,st.rg[j]?=some o/\(s.live=true->o.live=true)/\(s.excl=true->o.excl=true):=λj s hj=>by rcases cls j s hj with⟨rfl,rfl⟩|⟨k1,k2⟩;exact⟨_,hrr,λ_=>rfl,λ_=>rfl⟩;exact⟨s,k2,id,id⟩
 refine⟨ε,hs.defs,hs.size,hs.fr,⟨by simp[hs.regs.len],λj s hj=>?_,λj s hj hl bb hb=>?_,λj s hj he bb hb=>?_,λi j ri rj hij hi hj he hl bb hb1 hb2=>?_⟩,hs.below,hs.pre⟩;rcases cls j s hj with⟨rfl,rfl⟩|⟨k1,k2⟩;refine⟨OwnRow.map (Qf hs hr).1 (λ_ _ _=>rfl) (λi jj fp' u hi hjj hf hu=>?_),trivial⟩;grind[OwnC,okO,Q5u];exact hs.regs.reg j s k2;obtain⟨o,h1,h2,h3⟩:=old j s hj;exact hs.regs.lt j o h1 (h2 hl) bb hb;obtain⟨o,h1,h2,h3⟩:=old j s hj;exact hs.regs.lim j o h1 (h3 he) bb hb;obtain⟨o,h1,h2,h3⟩:=old i ri hi;obtain⟨o',h1',h2',h3'⟩:=old j rj hj;exact hs.regs.sep i j o o' hij h1 h1' (h3 he) (h2' hl) bb hb1 hb2;cases h
def regSt(st:St)(r:Nat)(new:Reg):Option (St×List Prop):=
 match nth st.rg r with
 |some old=>if new.scp st.rg.length&&kH st.rg.length 1000000 then(regMatch id new old).map λvc=>({ st with rg:=st.rg.set r new },vc.map F.prop) else none
 |none=>none
theorem Qja{b:Base}{st st':St}{ε:Env}{a:Act}{w:World}{r:Nat}{new:Reg}{vc:List Prop}(hs:SatE b st ε a w)(h:regSt st r new=some (st',vc))(hv:All vc):∃ε',SatE b st' ε' a w:=by
 unfold regSt at h;split at h;rename_i o hr;split at h;rename_i hsc;simp only[jg] at hsc;obtain⟨vc',hm,he⟩:=map_nil h;cases he;have hε:ε.length<=1000000:=by rw[hs.regs.len];exact jx hsc.2
 have hrr:=Qd hr;have hrl:r<st.rg.length:=(List.getElem?_eq_some_iff.1 hrr).1;have old:∀(j:Nat) (s:Reg),(st.rg.set r new)[j]?=some s->∃o:Reg,st.rg[j]?=some o/\(s.live=true->o.live=true)/\(s.excl=true->o.excl=true):=λj s hj=>by by_cases hjr:j=r;grind[kp,Qz];grind
 refine⟨ε,hs.defs,hs.size,hs.fr,⟨by simp[hs.regs.len],λj s hj=>?_,λj s hj hl bb hb=>?_,λj s hj he bb hb=>?_,λi j ri rj hij hi hj he hl bb hb1 hb2=>?_⟩,hs.below,hs.pre⟩;by_cases hjr:j=r;subst hjr;rw[kp hrl] at hj;cases hj;exact Q2r hε (λ_ _=>rfl) hsc.1 hm (λp hp=>hv _ (List.mem_map_of_mem hp)) (λhl bb hb=>(hs.regs.lt j _ hrr hl bb hb).1) (hs.regs.reg j _ hrr);rw[j6 (Ne.symm hjr)] at hj;exact hs.regs.reg j s hj;obtain⟨o,h1,h2,h3⟩:=old j s hj;exact hs.regs.lt j o h1 (h2 hl) bb hb;obtain⟨o,h1,h2,h3⟩:=old j s hj;exact hs.regs.lim j o h1 (h3 he) bb hb;obtain⟨o,h1,h2,h3⟩:=old i ri hi;obtain⟨o',h1',h2',h3'⟩:=old j rj hj;exact hs.regs.sep i j o o' hij h1 h1' (h3 he) (h2' hl) bb hb1 hb2;cases h;cases h
def sub:Code->List Nat->Code
 |c,[]=>c
 |.seq a b,n::p=>match n with
   |0=>sub a p
   |_=>sub b p
 |.cond _ a b,n::p=>match n with
   |0=>sub a p
   |_=>sub b p
 |.block _ b,_::p=>sub b p
 |.loop b,_::p=>sub b p
 |.rangeFunc _ _ a b,n::p=>match n with
   |0=>sub a p
   |_=>sub b p
 |.scope b,_::p=>sub b p
 |_,_=>.skip
def prune(keep:List Nat)(st:St):St:={ st with fr:=st.fr.filter λe=>hasN e.slot keep }
def Cfg.pr(c:Cfg)(keep:List Nat):Cfg:=⟨c.k,prune keep c.st⟩
section
variable {P:Program} [hw:Wide P] {fn:Func} {n0:Nat} {S:SV->List Reg->Prop} {U:Tgt} {c:Cfg} {vc:List Prop}
def Cfg.with_(c:Cfg)(x:Option (St×List Prop)):Cfg:=⟨c.k,match x with|some y=>y.1|none=>noCfg.st⟩
theorem RunF.focus(r k:Nat){vc:List Prop}(h:(focSt c.st r k).map (·.2)=some vc)(hv:Conj vc)(next:RunF P fn n0 U (c.with_ (focSt c.st r k))):RunF P fn n0 U c:=by
 intro b hb a w ⟨ε,hs⟩;cases hf:focSt c.st r k with|none=>rw[hf] at h;cases h|some y =>obtain⟨st',vc'⟩:=y;rw[hf] at h next;simp only[jX,Option.some.injEq] at h;subst h;obtain⟨ε',hs'⟩:=Qj9 hs hf hv.toAll;exact next b hb a w ⟨ε',hs'⟩
theorem RunF.fold(r:Nat)(g:Nat->TC){vc:List Prop}(h:(foldSt c.st r g).map (·.2)=some vc)(hv:Conj vc)(next:RunF P fn n0 U (c.with_ (foldSt c.st r g))):RunF P fn n0 U c:=by
 intro b hb a w ⟨ε,hs⟩;cases hf:foldSt c.st r g with|none=>rw[hf] at h;cases h|some y =>obtain⟨st',vc'⟩:=y;rw[hf] at h next;simp only[jX,Option.some.injEq] at h;subst h;obtain⟨ε',hs',_⟩:=Q8b hs hf hv.toAll;exact next b hb a w ⟨ε',hs'⟩
theorem RunF.nils(r:Nat)(f':Nat->Nat->TC){vc:List Prop}(h:(nilsSt c.st r f').map (·.2)=some vc)(hv:Conj vc)(next:RunF P fn n0 U (c.with_ (nilsSt c.st r f'))):RunF P fn n0 U c:=by
 intro b hb a w ⟨ε,hs⟩;cases hf:nilsSt c.st r f' with|none=>rw[hf] at h;cases h|some y =>obtain⟨st',vc'⟩:=y;rw[hf] at h next;simp only[jX,Option.some.injEq] at h;subst h;obtain⟨ε',hs'⟩:=Qhw hs hf hv.toAll;exact next b hb a w ⟨ε',hs'⟩
theorem RunF.reg(r:Nat)(f':Reg){vc:List Prop}(h:(regSt c.st r f').map (·.2)=some vc)(hv:Conj vc)(next:RunF P fn n0 U (c.with_ (regSt c.st r f'))):RunF P fn n0 U c:=by
 intro b hb a w ⟨ε,hs⟩;cases hf:regSt c.st r f' with|none=>rw[hf] at h;cases h|some y =>obtain⟨st',vc'⟩:=y;rw[hf] at h next;simp only[jX,Option.some.injEq] at h;subst h;obtain⟨ε',hs'⟩:=Qja hs hf hv.toAll;exact next b hb a w ⟨ε',hs'⟩
def lenAt(st:St)(r:Nat):Option Nat:=match nth st.rg r with
 |some (.row _ n _ _)=>some n
 |some (.own _ _ n _ _)=>some n
 |_=>none
theorem RunF.lens(r:Nat){m:Nat}(h:lenAt c.st r=some m)(next:(m:Int)<=9223372036854775807->RunF P fn n0 U c):RunF P fn n0 U c:=by
 intro b hb a w ⟨ε,hs⟩;unfold lenAt at h;have hm:m<=maxLen:=by split at h;rename_i size n f foc hr;cases h;obtain⟨⟨A,cc,_,h1,h2,_⟩,_⟩:=hs.regs.reg r _ (Qd hr);exact kf h1 h2;rename_i ty size n f foc hr;cases h;obtain⟨⟨els,h1,_⟩,_⟩:=hs.regs.reg r _ (Qd hr);rcases h1.2 with⟨_,h0⟩|⟨g,cap,cur,_,_,_,h2,h3,_⟩;omega;exact kf h2 h3;cases h
 have hml:maxLen=9223372036854775807:=by simp[maxLen]
 exact next W48 b hb a w ⟨ε,hs⟩
end
attribute [irreducible] see RunF Cfg.thn Cfg.els Cfg.at Cfg.round Cfg.after Cfg.ret Cfg.pick Cfg.rest callEnt retEnt ent entry Cfg.gafter Cfg.gret Cfg.gx Cfg.gthn Cfg.with_ Cfg.drawn focSt foldSt nilsSt regSt lenAt Cfg.pr
universe u
section
variable {α:Sort u}
def fN:Nat->(Nat->α)->α
 |0,k=>k 0
 |n+1,k=>k (n+1)
def fB:Bool->(Bool->α)->α
 |true,k=>k true
 |false,k=>k false
def fL{β:Type}(f:β->(β->α)->α):List β->(List β->α)->α
 |[],k=>k []
 |x::r,k=>f x λx=>fL f r λr=>k (x::r)
def fC:C->(C->α)->α
 |.i k n,q=>q (.i k n)
 |.b x,q=>q (.b x)
 |.t x,q=>fB x λx=>q (.t x)
 |.v x,q=>q (.v x)
 |.p r o,q=>fN r λr=>fN o λo=>q (.p r o)
 |.h r,q=>fN r λr=>q (.h r)
 |.e r sz ix o,q=>fN r λr=>fN sz λsz=>fN o λo=>q (.e r sz ix o)
 |.fn f bd cs,q=>fN f λf=>fB bd λbd=>fL fN cs λcs=>q (.fn f bd cs)
 |.ar r sz0 ix0 off sz len ix off2,q=>fN r λr=>fN sz0 λsz0=>fN off λoff=>fN sz λsz=>fN len λlen=>fN off2 λoff2=>q (.ar r sz0 ix0 off sz len ix off2)
 |.hs r lo n,q=>fN r λr=>q (.hs r lo n)
def fT:Bool×List C->(Bool×List C->α)->α
 |(b,cs),q=>fB b λb=>fL fC cs λcs=>q (b,cs)
def fV:SV->(SV->α)->α
 |.c x,q=>fC x λx=>q (.c x)
 |.agg cs,q=>fL fC cs λcs=>q (.agg cs)
 |.tup vs,q=>fL fT vs λvs=>q (.tup vs)
 |.u,q=>q .u
def fG:Nat×Bool->(Nat×Bool->α)->α
 |(n,b),q=>fN n λn=>fB b λb=>q (n,b)
def fE:En->(En->α)->α
 |⟨s,g,v⟩,q=>fN s λs=>fL fG g λg=>fV v λv=>q ⟨s,g,v⟩
def fF:Option (Nat×List C)->(Option (Nat×List C)->α)->α
 |none,q=>q none
 |some (k,cs),q=>fL fC cs λcs=>q (some (k,cs))
def fEnt{K:List CK}:KA K×C->(KA K×C->α)->α
 |(a,c),q=>fC c λc=>q (a,c)
def fR:Reg->(Reg->α)->α
 |.box ty cs,q=>fN ty λty=>fL fC cs λcs=>q (.box ty cs)
 |.own ty sz n f foc,q=>fN ty λty=>fN sz λsz=>fF foc λfoc=>q (.own ty sz n f foc)
 |.row sz n f foc,q=>fN sz λsz=>fF foc λfoc=>q (.row sz n f foc)
 |.ro cs,q=>fL fC cs λcs=>q (.ro cs)
 |.dead,q=>q .dead
 |.one,q=>q .one
 |.froz X,q=>q (.froz X)
 |.mp T n has f it,q=>q (.mp T n has f it)
 |.itr r,q=>q (.itr r)
 |.mpv T z n ents,q=>fL fEnt ents λents=>q (.mpv T z n ents)
 |.mpr T ty sz n f o,q=>fN sz λsz=>q (.mpr T ty sz n f o)
def fS:St->(St->α)->α
 |⟨N,fr,rg,wr⟩,q=>fN N λN=>fL fE fr λfr=>fL fR rg λrg=>fL fN wr λwr=>q ⟨N,fr,rg,wr⟩
def fK:K->(K->α)->α
 |.code c,q=>q (.code c)
 |.blk id,q=>fN id λid=>q (.blk id)
 |.ops all todo,q=>q (.ops all todo)
 |.jmp J,q=>q (.jmp J)
 |.mix all listed n,q=>fL fB listed λlisted=>fN n λn=>q (.mix all listed n)
 |.mixAt all listed n i,q=>fL fB listed λlisted=>fN n λn=>fN i λi=>q (.mixAt all listed n i)
 |.rnd body n,q=>q (.rnd body n)
def fZ:Cfg->(Cfg->α)->α
 |⟨k,st⟩,q=>fL fK k λk=>fS st λst=>q ⟨k,st⟩
theorem Q3l(n:Nat)(q:Nat->α):fN n q=q n:=by
 cases n<;>rfl
theorem Qc8(n:Bool)(q:Bool->α):fB n q=q n:=by
 cases n<;>rfl
theorem G8{β:Type}{f:β->(β->α)->α}(hf:∀x q,f x q=q x):∀(l:List β) (q:List β->α),fL f l q=q l
 |[],q=>rfl
 |x::r,q=>by
  simp only[fL];rw[hf,G8 hf r]
theorem Q5w(x:C)(q:C->α):fC x q=q x:=by
 cases x<;>simp only[fC,Q3l,Qc8,G8 Q3l]
theorem Quc(x:Bool×List C)(q:Bool×List C->α):fT x q=q x:=by
 cases x;simp only[fT,Qc8,G8 Q5w]
theorem Qud(x:SV)(q:SV->α):fV x q=q x:=by
 cases x<;>simp only[fV,Q5w,G8 Q5w,G8 Quc]
theorem Que(x:Nat×Bool)(q:Nat×Bool->α):fG x q=q x:=by
 cases x;simp only[fG,Q3l,Qc8]
theorem Quf(x:En)(q:En->α):fE x q=q x:=by
 cases x;simp only[fE,Q3l,Qud,G8 Que]
theorem Qug(x:Option (Nat×List C))(q:Option (Nat×List C)->α):fF x q=q x:=by
 cases x with|none=>rfl|some y=>cases y;simp only[fF,G8 Q5w]
theorem Qp8{K:List CK}(x:KA K×C)(q:KA K×C->α):fEnt x q=q x:=by
 cases x;simp only[fEnt,Q5w]
theorem Quh(x:Reg)(q:Reg->α):fR x q=q x:=by
 cases x<;>simp only[fR,Q3l,Qug,G8 Q5w,G8 Qp8]
theorem Qoh(x:St)(q:St->α):fS x q=q x:=by
 simp_all[fS,Q3l,G8,Quf,Quh]
theorem Qui(x:K)(q:K->α):fK x q=q x:=by
 cases x<;>simp only[fK,Q3l,G8 Qc8]
theorem Quj(x:Cfg)(q:Cfg->α):fZ x q=q x:=by
 cases x;simp only[fZ,Qoh,G8 Qui]
end
def Cfg.fz(c:Cfg):Cfg:=fZ c λc=>c
section
variable {P:Program} {fn:Func} {n0:Nat} {U:Tgt} {c:Cfg}
theorem RunF.fz(next:RunF P fn n0 U c.fz):RunF P fn n0 U c:=by
 unfold Cfg.fz at next;rw[Quj] at next;exact next
end
attribute [irreducible] Cfg.fz
section
variable {P:Program} [hw:Wide P] {fn:Func} {n0:Nat} {U:Tgt} {c:Cfg} {vc:List Prop}
theorem RegsOk.step1{bc:Base}{ε:Env}{w w':World}{rg:List Reg}{r:Nat}{p new:Reg}{x:Ent}(hs:RegsOk ε bc.M bc.L w rg)(hB:bc.w.heap.size<=w.heap.size)(hr:rg[r]?=some p)(hp:p.excl=true)(hpl:p.live=true)
 (hx:x.h=ε.at_ r) (hnew:RegOk (ε.set r x) bc.M w' x new) (hfp:∀b,x.fp b->(ε.fp r b\/w.heap.size<=b)/\b<w'.heap.size) (hfr:Fr (ε.fp r) w w') (hnl:new.excl=true) (hsc:rg.all (Reg.scp rg.length)=true) :
 RegsOk (ε.set r x) bc.M bc.L w' (rg.set r new):=by
  have hrl:r<rg.length:=(List.getElem?_eq_some_iff.1 hr).1;have hεl:r<ε.length:=by rw[hs.len];exact hrl
  have entR:Env.ent (ε.set r x) r=x:=by unfold Env.ent;grind
  have entO:∀j,j≠r->Env.ent (ε.set r x) j=ε.ent j:=λj hj=>by simp_all[Env.ent,jc,j6,Ne.symm]
  have atAll:∀j,Env.at_ (ε.set r x) j=ε.at_ j:=λj=>by grind[Env.at_]
  have old:∀(j:Nat) (s:Reg),(rg.set r new)[j]?=some s->(j=r/\s=new)\/(j≠r/\rg[j]?=some s):=λj s hj=>by grind
  have keep:∀(j:Nat) (s:Reg),j≠r->rg[j]?=some s->s.live=true->∀b,ε.fp j b->¬ε.fp r b:=λj s hj hjs hl b hb hb'=>hs.sep r j p s (Ne.symm hj) hr hjs hp hl b hb' hb;refine⟨by simp[hs.len],λj s hj=>?_,λj s hj hl b hb=>?_,λj s hj he b hb=>?_,λi j ri rj hij hi hj he hl b hb1 hb2=>?_⟩;rcases old j s hj with⟨rfl,rfl⟩|⟨hjr,hj'⟩;rw[entR];exact hnew;rw[entO j hjr];refine RegOk.same (n:=rg.length) (RegOk.world (hs.reg j s hj') hfr.size (λb hb hl hlt=>hfr.block b hlt (keep j s hjr hj' hl b hb))) (List.all_eq_true.1 hsc s (jB hj')) (λq _=>atAll q);rcases old j s hj with⟨rfl,rfl⟩|⟨hjr,hj'⟩;unfold Env.fp at hb;rw[entR] at hb;obtain⟨h1,h2⟩:=hfp b hb;refine⟨h2,?_⟩;rcases h1 with h1|h1;exact(hs.lt _ p hr hpl b h1).2;exact .inl (kf hB h1);unfold Env.fp at hb;rw[entO j hjr] at hb;obtain⟨h1,h2⟩:=hs.lt j s hj' hl b hb;exact⟨jN h1 hfr.size,h2⟩;rcases old j s hj with⟨rfl,rfl⟩|⟨hjr,hj'⟩;unfold Env.fp at hb;rw[entR] at hb;rcases(hfp b hb).1 with h1|h1;exact hs.lim _ p hr hp b h1;exact .inl (kf hB h1);unfold Env.fp at hb;rw[entO j hjr] at hb;exact hs.lim j s hj' he b hb;unfold Env.fp at hb1 hb2;rcases old i ri hi with⟨rfl,rfl⟩|⟨hir,hi'⟩;rcases old j rj hj with⟨rfl,rfl⟩|⟨hjr,hj'⟩;exact hij rfl;rw[entR] at hb1;rw[entO j hjr] at hb2;rcases(hfp b hb1).1 with h1|h1;exact keep j rj hjr hj' hl b hb2 h1;exact absurd (hs.lt j rj hj' hl b hb2).1 W48;rcases old j rj hj with⟨rfl,rfl⟩|⟨hjr,hj'⟩;rw[entO i hir] at hb1;rw[entR] at hb2;rcases(hfp b hb2).1 with h1|h1;exact hs.sep i _ ri p hir hi' hr he hpl b hb1 h1;have hlive:ri.live=true:=by cases ri<;>first|rfl|cases he
  exact absurd (hs.lt i ri hi' hlive b hb1).1 W48;rw[entO i hir] at hb1;rw[entO j hjr] at hb2;exact hs.sep i j ri rj hij hi' hj' he hl b hb1 hb2
theorem Env.set_same{ε:Env}{r:Nat}{x:Ent}(hr:r<ε.length)(hx:x.h=ε.at_ r):(∀j,Env.at_ (ε.set r x) j=ε.at_ j)/\Env.hs (ε.set r x)=ε.hs:=by
 constructor;intro j;by_cases hj:j=r;subst hj;rw[<- hx];unfold Env.at_ Env.ent;grind;simp_all[Env.at_,Env.ent,jc,j6,Ne.symm];unfold Env.hs;apply kD;intro i;rw[jy,jy];by_cases hi:i=r;subst hi;rw[kp hr,jh hr];simp only[jX,hx];unfold Env.at_ Env.ent;grind;rw[j6 (Ne.symm hi)]
end
def openK:Nat->List K->List K
 |n+1,.code (.seq a b)::k=>openK n (.code a::.code b::k)
 |n+1,.code .skip::k=>openK n k
 |n+1,.code (.block id c)::k=>openK n (.code c::.blk id::k)
 |_,k=>k
theorem G5{P:Program}{b:Base}{Q:Exit->Act->World->Prop}{a:Act}{w:World}:∀(n:Nat) (k:List K),contQ P b Q (openK n k) .normal a w->contQ P b Q k .normal a w
 |0,k,h=>by simpa[openK] using h
 |n+1,k,h=>by
  unfold openK at h;split at h;rename_i heq;cases heq;exact wpIn_seq (G5 _ _ h);rename_i heq;cases heq;exact wpIn_skip (G5 _ _ h);rename_i heq;cases heq;exact wpIn_block (G5 _ _ h);exact h
theorem RunF.cut{P:Program}[hw:Wide P]{fn:Func}{n0:Nat}{U:Tgt}{c:Cfg}{X:Type}(I:X->St)(J:X->Prop)(h1:RunF P fn n0 U ⟨insJ (AtSt I J) (openK 50 c.k),c.st⟩)(h2:∀x,J x->RunF P fn n0 U ⟨restK (openK 50 c.k),I x⟩):RunF P fn n0 U c:=by
 unfold RunF at *;intro b hb a w hs;exact G5 50 _ (Q8a _ (λa w ⟨x,hx,hs⟩=>h2 x hx b hb a w hs) (h1 b hb a w hs))
def flatK:Nat->List K->List K
 |n+1,.code (.seq a b)::k=>flatK n (.code a::.code b::k)
 |n+1,x::k=>x::flatK n k
 |_,k=>k
theorem Jo{P:Program}[hw:Wide P]{b:Base}{Q:Exit->Act->World->Prop}:∀(n:Nat) (k:List K) (e:Exit) (a:Act) (w:World),contQ P b Q (flatK n k) e a w->contQ P b Q k e a w
 |0,k,e,a,w,h=>by simpa[flatK] using h
 |n+1,k,e,a,w,h=>by
  unfold flatK at h;split at h;rename_i heq;cases heq;have h1:=Jo _ _ e a w h;cases e with|normal=>exact wpIn_seq h1|_=>exact h1
  rename_i heq;cases heq;exact Q3k (λe a w hq=>Jo _ _ e a w hq) _ e a w h;exact h
def cutK(J:Base->Act->World->Prop):Nat->List K->List K
 |0,k=>.jmp J::k
 |m+1,x::k=>x::cutK J m k
 |_+1,[]=>[.jmp J]
theorem Q3m{P:Program}[hw:Wide P]{b:Base}{Q:Exit->Act->World->Prop}{J:Base->Act->World->Prop}:∀(m:Nat) (k:List K),(∀a w,J b a w->contQ P b Q (k.drop m) .normal a w)->∀e a w,contQ P b Q (cutK J m k) e a w->contQ P b Q k e a w
 |0,k,h,e,a,w,hq=>by unfold cutK at hq;cases e with|normal=>exact h a w hq|_=>exact hq
 |m+1,[],h,e,a,w,hq=>by unfold cutK at hq;cases e with|normal=>exact h a w hq|_=>exact hq
 |m+1,x::k,h,e,a,w,hq=>by
  unfold cutK at hq;exact Q3k (λe a w hq=>Q3m m k h e a w hq) _ e a w hq
theorem RunF.cutm{P:Program}[hw:Wide P]{fn:Func}{n0:Nat}{U:Tgt}{c:Cfg}{X:Type}(m:Nat)(I:X->St)(J:X->Prop)(h1:RunF P fn n0 U ⟨cutK (AtSt I J) m (flatK 200 c.k),c.st⟩)(h2:∀x,J x->RunF P fn n0 U ⟨(flatK 200 c.k).drop m,I x⟩):RunF P fn n0 U c:=by
 unfold RunF at *;intro b hb a w hs;exact Jo 200 _ _ _ _ (Q3m m _ (λa w ⟨x,hx,hs⟩=>h2 x hx b hb a w hs) _ _ _ (h1 b hb a w hs))
end Go.Tx
namespace Go.Tx
open Go
def Cfg.mrg(P:Program)(c:Cfg)(m:Nat)(T:MT)(n:Nat)(has:KA T.K->Bool)(f:KA T.K->KA T.V)(r cnt:Nat):Option Cfg:=
 match(seg P 5000 c.k c.st).2 with
 |.op all o todo k st=>match o.op,o.guard with
   |.range t x,none=>match opndC st [] x with
     |some (.h m')=>if jr m m'&&jr T.t t&&st.scp then
        (putSt { st with rg:=st.rg.set m (.mp T n has f (some ⟨r,has,cnt,none,none⟩))++[.itr r] } o.dst [] (.c (.h st.rg.length))).map λst'=>⟨.ops all todo::k,st'⟩
       else none
     |_=>none
   |_,_=>none
 |_=>none
def orNo(c:Option Cfg):Cfg:=match c with
 |some c'=>c'
 |none=>noCfg
def Cfg.mnxD(P:Program)(c:Cfg)(j:Nat):Option Cfg:=
 match(seg P 5000 c.k c.st).2 with
 |.op all o todo k st=>match o.op,o.guard with
   |.next x false,none=>match opndC st [] x with
     |some (.h j')=>if jr j j'&&st.scp then(putSt st o.dst [] (.tup [(false,[.t false])])).map λst'=>⟨.ops all todo::k,st'⟩ else none
     |_=>none
   |_,_=>none
 |_=>none
def Cfg.mnxM(P:Program)(c:Cfg)(m j:Nat)(T:MT)(n:Nat)(has:KA T.K->Bool)(f:KA T.K->KA T.V)(it:MIt T.K)(a:KA T.K)(cnt:Nat):Option Cfg:=
 match(seg P 5000 c.k c.st).2 with
 |.op all o todo k st=>match o.op,o.guard with
   |.next x false,none=>match opndC st [] x with
     |some (.h j')=>if jr j j'&&st.scp then
        (putSt { st with rg:=st.rg.set m (.mp T n has f (some ⟨it.r,λq=>it.left q&&!decide (q=a),cnt,some a,none⟩)) } o.dst []
          (.tup [(false,[.t true]),(T.kAgg,KA.cs T.K a),(T.vAgg,KA.cs T.V (f a))])).map λst'=>⟨.ops all todo::k,st'⟩
       else none
     |_=>none
   |_,_=>none
 |_=>none
def Cfg.rnil(P:Program)(c:Cfg)(r:Nat)(x:Bool):Option Cfg:=
 match(seg P 5000 c.k c.st).2 with
 |.op all o todo k st=>match o.op,o.guard with
   |.binOp .eql t u v _,none=>match opndC st [] u,opndC st [] v,sliceOf P t with
     |some (.h r'),some cv,some _=>if jr r r'&&isNil cv then(putSt st o.dst [] (.c (.b x))).map λst'=>⟨.ops all todo::k,st'⟩ else none
     |_,_,_=>none
   |_,_=>none
 |_=>none
theorem Q5x{P:Program}{w w':World}{s:Sem Value}{v:Value}(hr:s.run P w=.ok v w'):(do pure (Go.Next.value (<- s)):Sem Go.Next).run P w=.ok (.value v) w':=by
 grind[jp,jk,jz]
theorem Qd5{w w':World}{row:Option Nat}(h:w.grownBy w' row){m:Nat->Prop}(hm:∀b,row=some b->m b):Fr m w w':=
 ⟨h.os,h.tape,h.output,h.size,λk hk hn=>h.block k hk (λe=>hn (hm k e.symm))⟩
section
variable {P:Program} [hw:Wide P] {fn:Func} {n0:Nat} {S:SV->List Reg->Prop} {U:Tgt} {c:Cfg} {vc:List Prop}
theorem G6{o:Oper}(h:o.guard=none)(f:Nat->Option Bool):Region.wanted o f=true:=by
 unfold Region.wanted;rw[h]
theorem SatE.turn{b:Base}{st:St}{ε:Env}{a:Act}{w w':World}{m:Nat}{p new:Reg}{fp:Nat->Prop}(hs:SatE b st ε a w)(hsc:st.scp=true)(hm:st.rg[m]?=some p)(hp:p.excl=true)(hnl:new.excl=true)
 (hnew:RegOk (ε.set m ⟨ε.at_ m,fp⟩) b.M w' ⟨ε.at_ m,fp⟩ new) (hfp:∀b,fp b->(ε.fp m b\/w.heap.size<=b)/\b<w'.heap.size) (hfr:Fr (ε.fp m) w w') :
 SatE b { st with rg:=st.rg.set m new } (ε.set m ⟨ε.at_ m,fp⟩) a w':=by
  have hml:m<ε.length:=by rw[hs.regs.len];exact(List.getElem?_eq_some_iff.1 hm).1
  obtain⟨s1,s2⟩:=Ql hsc;obtain⟨e1,e2⟩:=Env.set_same (x:=⟨ε.at_ m,fp⟩) hml rfl;refine⟨hs.defs,hs.size,λen hen=>(hs.fr en hen).same (s1 en hen) (λq _=>e1 q),RegsOk.step1 hs.regs hs.below.size hm hp (Y7 hp) rfl hnew hfp hfr hnl s2,hs.below.step hfr.os hfr.tape hfr.output hfr.size (λq hq hmq=>hfr.block q (jN hq hs.below.size) (λhfq=>?_)),by rw[e2];exact hs.pre⟩;rcases hs.regs.lim m p hm hp q hfq with h|h;omega;exact hmq h
theorem RunF.mrange{T:MT}{n:Nat}{has:KA T.K->Bool}{f:KA T.K->KA T.V}{it:Option (MIt T.K)}(m:Nat)(h:see P fn c=(vc,.op))(hv:Conj vc)
 (hm:nth (c.at P).rg m=some (.mp T n has f it)) (hP:T.P=P) (hsome:∀r cnt,(c.mrg P m T n has f r cnt).isSome=true)
 (next:∀r cnt,RunF P fn n0 U (orNo (c.mrg P m T n has f r cnt))):RunF P fn n0 U c:=by
  unfold RunF at next⊢;intro b hb;unfold see at h;unfold Cfg.at at hm;unfold Cfg.mrg at next hsome;generalize hg:seg P 5000 c.k c.st=rr at h hm next hsome;obtain⟨vc',out⟩:=rr;cases out<;>simp only[Prod.mk.injEq,reduceCtorEq,and_false] at h;case op all o todo k st =>obtain⟨rfl,_⟩:=h;refine Qp hw.mixed 5000 _ _ _ _ hg hv.toAll (λa w hsat=>?_);obtain⟨ε,hs⟩:=hsat;simp only at hm next hsome;have hm':=Qd hm;have hso:=hsome w.heap.size;have hne:=next w.heap.size;obtain⟨dst,op,type,pos,after,guard⟩:=o;simp only at hso hne;(have hfind:∃t x m',op=.range t x/\guard=none/\opndC st [] x=some (.h m')/\(jr m m'&&jr T.t t&&st.scp)=true:=by have h0:=hso 0;grind);obtain⟨t,x,m',rfl,rfl,hx,hbc⟩:=hfind;simp only[hx] at hso hne;have hbc':=hbc;simp only[jg] at hbc;have e1:=jf hbc.1.1;have e2:=jf hbc.1.2;have hsc:=hbc.2;subst e1;have hh:MapAt w b.M (ε.fp m) T (ε.at_ m) n has f none:=MapAt.close (hs.regs.reg m _ hm');obtain⟨w',cnt,hrun,hgr,hsz,hmp⟩:=hh.range (M':=b.M) (fp':=λq=>ε.fp m q\/q=w.heap.size) (λ_ h=>h) (λ_ h=>.inl h) (Base.fresh_M hs (jo _)).1 (.inr rfl);have hs1:=hs.turn (fp:=λq=>ε.fp m q\/q=w.heap.size) (new:=.mp T n has f (some ⟨w.heap.size,has,cnt,none,none⟩)) hsc hm' rfl rfl hmp (λq hq=>by rcases hq with hq|hq;exact⟨.inl hq,jN (hs.regs.lt m _ hm' rfl q hq).1 hgr.size⟩;subst hq;exact⟨.inr (jo _),by omega⟩) (Qd5 hgr (λb hb=>by cases hb));(have hsc1:St.scp { st with rg:=st.rg.set m (.mp T n has f (some ⟨w.heap.size,has,cnt,none,none⟩)) }=true:=by obtain⟨s1,s2⟩:=Ql hsc;unfold St.scp;simp only[jg,jq];refine⟨List.all_eq_true.2 s1,List.all_eq_true.2 λr hr=>?_⟩;rcases List.mem_or_eq_of_mem_set hr with h|h;exact List.all_eq_true.1 s2 r h;subst h;rfl);have hs2:=hs1.add (w':=w') (x:=⟨itPtr w.heap.size,λ_=>False⟩) (r:=.itr w.heap.size) hsc1 hs1.below (jo _) (λ_ _ _ _ _ _=>rfl) rfl (λh=>by cases h) (λh=>by cases h) (λ_ h=>h.elim);refine Yz (G6 rfl _) ?_;unfold Oper.wp;(have hex:(execOp a.eval { dst,op:=.range t x,type,pos,after,guard:=none }).run P w=.ok (.value ((SV.c (.h st.rg.length)).den (ε.set m ⟨ε.at_ m,λq=>ε.fp m q\/q=w.heap.size⟩++[⟨itPtr w.heap.size,λ_=>False⟩]))) w':=by(have hlen:st.rg.length=(ε.set m ⟨ε.at_ m,λq=>ε.fp m q\/q=w.heap.size⟩).length:=by rw[jq,hs.regs.len]);rw[show(SV.c (.h st.rg.length)).den (ε.set m ⟨ε.at_ m,λq=>ε.fp m q\/q=w.heap.size⟩++[⟨itPtr w.heap.size,λ_=>False⟩])=itPtr w.heap.size by simp only[SV.den,C.den];rw[hlen,Z5]];simp only[execOp,Qa hs (gHolds_nil a) hx];rw[hP,e2] at hrun;exact Q5x hrun);rw[hex,Oper.upon_value];have hso':=hso cnt;have hn1:=hne cnt;rw[if_pos hbc'] at hso' hn1;cases hput:putSt { st with rg:=st.rg.set m (.mp T n has f (some ⟨w.heap.size,has,cnt,none,none⟩))++[.itr w.heap.size] } dst [] (.c (.h st.rg.length)) with|none=>rw[hput] at hso';cases hso'|some st' =>rw[hput] at hn1;simp only[jX,orNo] at hn1;exact hn1 b hb _ w' ⟨_,Qi hs2 hput (λ_=>rfl) (λhn=>absurd (gHolds_nil _) hn)⟩
  all_goals grind[callV]
theorem RunF.mnext{A:Type}{T:MT}{n:Nat}{has:KA T.K->Bool}{f:KA T.K->KA T.V}{it:MIt T.K}(m j:Nat)(mk:A->KA T.K)(hmk:∀a,∃p,a=mk p)(h:see P fn c=(vc,.op))(hv:Conj vc)
 (hm:nth (c.at P).rg m=some (.mp T n has f (some it))) (hj:nth (c.at P).rg j=some (.itr it.r)) (hP:T.P=P)
 (hD:(c.mnxD P j).isSome=true) (hM:∀p cnt,(c.mnxM P m j T n has f it (mk p) cnt).isSome=true)
 (next1:(∀p,it.left (mk p)=false)->RunF P fn n0 U (orNo (c.mnxD P j)))
 (next2:∀(p:A) (cnt:Nat),KA.wf T.K (mk p)->it.left (mk p)=true->has (mk p)=true->cnt<it.cnt->RunF P fn n0 U (orNo (c.mnxM P m j T n has f it (mk p) cnt)))
 (hpd:it.pd=none:=by rfl):RunF P fn n0 U c:=by
  unfold RunF at next1 next2⊢;intro b hb;unfold see at h;unfold Cfg.at at hm hj;unfold Cfg.mnxD at next1 hD;unfold Cfg.mnxM at next2 hM;generalize hg:seg P 5000 c.k c.st=rr at h hm hj next1 next2 hD hM;obtain⟨vc',out⟩:=rr;cases out<;>simp only[Prod.mk.injEq,reduceCtorEq,and_false] at h;case op all o todo k st =>obtain⟨rfl,_⟩:=h;refine Qp hw.mixed 5000 _ _ _ _ hg hv.toAll (λa w hsat=>?_);obtain⟨ε,hs⟩:=hsat;simp only at hm hj next1 next2 hD hM;have hm':=Qd hm;have hj':ε.at_ j=itPtr it.r:=hs.regs.reg j _ (Qd hj);obtain⟨dst,op,type,pos,after,guard⟩:=o;simp only at hD hM next1 next2;(have hfind:∃x j',op=.next x false/\guard=none/\opndC st [] x=some (.h j')/\(jr j j'&&st.scp)=true:=by grind);obtain⟨x,j',rfl,rfl,hx,hbc⟩:=hfind;simp only[hx,if_pos hbc] at hD hM next1 next2;have hbc':=hbc;simp only[jg] at hbc;have e1:=jf hbc.1;have hsc:=hbc.2;subst e1;have hh:MapAt w b.M (ε.fp m) T (ε.at_ m) n has f (some it):=hs.regs.reg m _ hm';refine Yz (G6 rfl _) ?_;unfold Oper.wp;rcases hh.next hpd type with⟨hl,hrun⟩|⟨q,w',cnt',hwf,hl,hha,hlt,hrun,hMr,hfr,hgr,hsz,hmp⟩;(have hex:(execOp a.eval { dst,op:=.next x false,type,pos,after,guard:=none }).run P w=.ok (.value ((SV.tup [(false,[.t false])]).den ε)) w:=by simp only[execOp,Qa hs (gHolds_nil a) hx];rw[hP] at hrun;refine Y6 ?_;show(Instr.next (ε.at_ j) false type).run P w=_;rw[hj'];exact hrun);rw[hex,Oper.upon_value];have hn1:=next1 (λp=>hl (mk p));(cases hput:putSt st dst [] (.tup [(false,[.t false])]) with|none=>rw[hput] at hD;cases hD|some st' =>rw[hput] at hn1;simp only[jX,orNo] at hn1;exact hn1 b hb _ w ⟨_,Qi hs hput (λ_=>rfl) (λhn=>absurd (gHolds_nil _) hn)⟩);obtain⟨p,rfl⟩:=hmk q;have hs1:=hs.turn (fp:=ε.fp m) (new:=.mp T n has f (some ⟨it.r,λq=>it.left q&&!decide (q=mk p),cnt',some (mk p),none⟩)) hsc hm' rfl rfl hmp (λq hq=>⟨.inl hq,jN (hs.regs.lt m _ hm' rfl q hq).1 hgr.size⟩) (Qd5 hgr (λb hb=>by cases hb;exact hfr));(have hex:(execOp a.eval { dst,op:=.next x false,type,pos,after,guard:=none }).run P w=.ok (.value ((SV.tup [(false,[.t true]),(T.kAgg,KA.cs T.K (mk p)),(T.vAgg,KA.cs T.V (f (mk p)))]).den (ε.set m ⟨ε.at_ m,ε.fp m⟩))) w':=by simp only[execOp,Qa hs (gHolds_nil a) hx];rw[hP] at hrun;refine Q5x ?_;show(Instr.next (ε.at_ j) false type).run P w=_;rw[hj',hrun];simp only[SV.den,jW,List.map_nil,Q39,KA.cs_den];rfl);rw[hex,Oper.upon_value];have hM1:=hM p cnt';have hn1:=next2 p cnt' hwf hl hha hlt;cases hput:putSt { st with rg:=st.rg.set m (.mp T n has f (some ⟨it.r,λq=>it.left q&&!decide (q=mk p),cnt',some (mk p),none⟩)) } dst [] (.tup [(false,[.t true]),(T.kAgg,KA.cs T.K (mk p)),(T.vAgg,KA.cs T.V (f (mk p)))]) with|none=>rw[hput] at hM1;cases hM1|some st' =>rw[hput] at hn1;simp only[jX,orNo] at hn1;exact hn1 b hb _ w' ⟨_,Qi hs1 hput (λ_=>rfl) (λhn=>absurd (gHolds_nil _) hn)⟩
  all_goals grind
theorem Q8c(t:TypeId)(x y:Option Addr)(i j k l:Nat):binOp .eql t (.slice x i j) (.slice y k l)=(do pure (.bool (<- Op.equal t (.slice x i j) (.slice y k l)))):=rfl
theorem RunF.rnil(r:Nat){n:Nat}(h:see P fn c=(vc,.op))(hv:Conj vc)(hm:lenAt (c.at P) r=some n)(hsome:∀x,(c.rnil P r x).isSome=true)
 (next:∀x:Bool,(x=true->n=0)->RunF P fn n0 U (orNo (c.rnil P r x))):RunF P fn n0 U c:=by
  unfold RunF at next⊢;intro b hb;unfold see at h;unfold Cfg.at at hm;unfold Cfg.rnil at next hsome;generalize hg:seg P 5000 c.k c.st=rr at h hm next hsome;obtain⟨vc',out⟩:=rr;cases out<;>simp only[Prod.mk.injEq,reduceCtorEq,and_false] at h;case op all o todo k st =>obtain⟨rfl,_⟩:=h;refine Qp hw.mixed 5000 _ _ _ _ hg hv.toAll (λa w hsat=>?_);obtain⟨ε,hs⟩:=hsat;simp only at hm next hsome;obtain⟨dst,op,type,pos,after,guard⟩:=o;simp only at hsome next;(have hfind:∃t u v q e cv,op=.binOp .eql t u v q/\guard=none/\opndC st [] u=some (.h r)/\opndC st [] v=some cv/\isNil cv=true/\sliceOf P t=some e:=by have h0:=hsome true;(cases op<;>first|(cases h0;done)|skip);rename_i bop t u v q;(cases bop<;>first|(cases h0;done)|skip);cases guard with|some g=>cases h0|none =>simp only at h0;split at h0;rename_i r' cv e hx hy hse;split at h0;rename_i hbc;simp only[jg] at hbc;have:=jf hbc.1;grind;cases h0;cases h0);obtain⟨t,u,v,q,e,cv,rfl,rfl,hx,hy,hni,hse⟩:=hfind;(have hcv:cv=.v (.slice none 0 0):=by unfold isNil at hni;split at hni;rfl;cases hni);subst hcv;(have hbq:(jr r r&&isNil (.v (.slice none 0 0)))=true:=by simp[isNil]);simp only[hx,hy,hse,if_pos hbq] at hsome next;(have hrow:∃A c,ε.at_ r=.slice A n c/\(0<n->∃ad,A=some ad):=by unfold lenAt at hm;split at hm;rename_i hr;cases hm;obtain⟨A,c,h1,_,h2⟩:=Jv (Qf hs hr).1;exact⟨A,c,h1,h2⟩;rename_i hr;cases hm;obtain⟨A,c,h1,_,h2⟩:=Zl (Qf hs hr).1;exact⟨A,c,h1,h2⟩;cases hm);obtain⟨A,cp,hA,hA0⟩:=hrow;refine Yz (G6 rfl _) ?_;unfold Oper.wp;(have hex:(execOp a.eval { dst,op:=.binOp .eql t u v q,type,pos,after,guard:=none }).run P w=.ok (.value ((SV.c (.b A.isNone)).den ε)) w:=by simp only[execOp,Qa hs (gHolds_nil a) hx,Qa hs (gHolds_nil a) hy];refine Y6 ?_;simp only[C.den,hA];simp only[go_sem,jp,jz,jk,Q8c,run_equal_slice_nil w t e A n cp (Yk hse),SV.den,C.den]);rw[hex,Oper.upon_value];have hso:=hsome A.isNone;have hn1:=next A.isNone (λhx=>by grind);cases hput:putSt st dst [] (.c (.b A.isNone)) with|none=>rw[hput] at hso;cases hso|some st' =>rw[hput] at hn1;simp only[jX,orNo] at hn1;exact hn1 b hb _ w ⟨_,Qi hs hput (λ_=>rfl) (λhn=>absurd (gHolds_nil _) hn)⟩
  all_goals grind[callV]
end
attribute [irreducible] Cfg.mrg Cfg.mnxD Cfg.mnxM Cfg.rnil
def foldL:List (Nat×(Nat->TC))->St->Option (St×List Prop)
 |[],st=>some (st,[])
 |(r,g)::l,st=>match foldSt st r g with
   |some (st1,vc1)=>match foldL l st1 with
     |some (st2,vc2)=>some (st2,vc1++vc2)
     |none=>none
   |none=>none
theorem Q28{b:Base}{a:Act}{w:World}:∀{l:List (Nat×(Nat->TC))} {st st':St} {ε:Env} {vc:List Prop},SatE b st ε a w->foldL l st=some (st',vc)->All vc->∃ε',SatE b st' ε' a w/\∀i,Env.at_ ε' i=ε.at_ i
 |[],st,st',ε,vc,hs,h,hv=>by cases h;exact⟨ε,hs,λ_=>rfl⟩
 |(r,g)::l,st,st',ε,vc,hs,h,hv=>by
  simp only[foldL] at h;split at h;rename_i st1 vc1 h1;split at h;rename_i st2 vc2 h2;cases h;obtain⟨ε1,g1,e1⟩:=Q8b hs h1 hv.left;obtain⟨ε2,g2,e2⟩:=Q28 g1 h2 hv.right;exact⟨ε2,g2,λi=>(e2 i).trans (e1 i)⟩;cases h;cases h
theorem Qs4{ε ε':Env}(h:∀i,Env.at_ ε' i=ε.at_ i)(c:C):c.den ε'=c.den ε:=by
 have hf:Env.at_ ε'=Env.at_ ε:=funext h;cases c<;>simp only[C.den,hf]
theorem Qp9{ε ε':Env}(h:∀i,Env.at_ ε' i=ε.at_ i)(v:SV):v.den ε'=v.den ε:=by
 have hc:C.den ε'=C.den ε:=funext (Qs4 h);have hd:denPart ε'=denPart ε:=funext λx=>by simp only[denPart,hc]
 cases v<;>simp only[SV.den,hc,hd]
def foldS(fs:List (Nat×(Nat->TC)))(st:St):St:=match foldL fs st with
 |some x=>x.1
 |none=>noCfg.st
section
variable {P:Program} [hw:Wide P] {fn:Func} {n0:Nat} {S:SV->List Reg->Prop} {U:Tgt} {c:Cfg} {vc:List Prop}
theorem RunF.retF{v:SV}(res:SV)(post:List Reg)(π:List Nat)(fs:List (Nat×(Nat->TC))){vc2:List Prop}{E:List F}(h:see P fn c=(vc,.ret v))(hv:Conj vc)(hS:S res post)(hf:(foldL fs (c.at P)).map (·.2)=some vc2)(hv2:Conj vc2)
 (he:retEnt n0 π (foldS fs (c.at P)) v res post=some E) (hE:AllF E):RunF P fn n0 (Rt P fn S) c:=by
  unfold RunF;intro b hb;unfold see at h;unfold Cfg.at at he hf;generalize hg:seg P 5000 c.k c.st=r at h he hf;obtain⟨vc',out⟩:=r;cases out<;>simp only[Prod.mk.injEq,reduceCtorEq,and_false] at h;rename_i st;split at h;rename_i v' vc2' hr;simp only[Prod.mk.injEq,View.ret.injEq] at h;obtain⟨rfl,rfl⟩:=h;refine Qp hw.mixed 5000 _ _ _ _ hg hv.toAll.left (λa w ⟨ε,hs⟩=>?_);unfold foldS at he;simp only at he hf;cases hx:foldL fs st with|none=>rw[hx] at hf;cases hf|some y =>obtain⟨st2,vc3⟩:=y;rw[hx] at hf he;simp only[jX,Option.some.injEq] at hf;subst hf;obtain⟨ε2,g2,e2⟩:=Q28 hs hx hv2.toAll;have:=Q51 hb he hE hS g2;rw[Qp9 e2] at this;exact(Rt.mk hs.defs.1 (λDs hD=>Q25 hs hr hv.toAll.right hD) this).1
  simp at h;all_goals grind[callV]
theorem RunF.nextF{X:Type}{I:X->St}{J:X->Prop}{m:X->Nat}{x:X}(x':X)(π:List Nat)(fs:List (Nat×(Nat->TC))){vc2:List Prop}{E:List F}(h:see P fn c=(vc,.jump (Next I J m x)))(hv:Conj vc)(hf:(foldL fs (c.at P)).map (·.2)=some vc2)(hv2:Conj vc2)
 (he:ent n0 π (foldS fs (c.at P)) (I x')=some E) (hE:AllF E) (hm:m x'<m x) (hJ:J x'):RunF P fn n0 U c:=by
  unfold RunF;intro b hb;unfold see at h;unfold Cfg.at at he hf;generalize hg:seg P 5000 c.k c.st=r at h he hf;obtain⟨vc',out⟩:=r;cases out<;>simp only[Prod.mk.injEq,reduceCtorEq,and_false] at h;case jump J' st =>simp only[View.jump.injEq] at h;obtain⟨rfl,rfl⟩:=h;unfold foldS at he;simp only at he hf;cases hx:foldL fs st with|none=>rw[hx] at hf;cases hf|some y =>obtain⟨st2,vc3⟩:=y;rw[hx] at hf he;simp only[jX,Option.some.injEq] at hf;subst hf;exact Qp hw.mixed 5000 _ _ _ _ hg hv.toAll (λa w ⟨ε,hs⟩=>by obtain⟨ε2,g2,_⟩:=Q28 hs hx hv2.toAll;exact⟨x',hm,hJ,Jw hb he hE ⟨ε2,g2⟩⟩)
  all_goals grind[callV]
end
inductive Side where
 |n (a:Nat)
 |i (a:Int)
 |b (a:Bool)
 |v (a:Value)
 |t (a:TC)
 |f (a:Nat->Nat->TC)
 |x (a:Ext)
 |p (a:Prop)
 |r (a:Reg)
def F.l:F->Side
 |.n x _=>.n x
 |.i x _=>.i x
 |.b x _=>.b x
 |.v x _=>.v x
 |.t x _=>.t x
 |.fn _ x _=>.f x
 |.fx _ _ x _=>.f x
 |.ex x _=>.x x
 |.p x=>.p x
 |.rg x _=>.r x
 |.mq T m has f _ _ _ _ _=>.r (.mp T m has f none)
 |.mr T ty sz m f _ _ _ _ _=>.r (.mpr T ty sz m f none)
def F.r:F->Side
 |.n _ x=>.n x
 |.i _ x=>.i x
 |.b _ x=>.b x
 |.v _ x=>.v x
 |.t _ x=>.t x
 |.fn _ _ x=>.f x
 |.fx _ _ _ x=>.f x
 |.ex _ x=>.x x
 |.p _=>.p True
 |.rg _ x=>.r x
 |.mq _ _ _ _ T m has f _=>.r (.mp T m has f none)
 |.mr _ _ _ _ _ T ty sz m f=>.r (.mpr T ty sz m f none)
theorem F.of_sides{f:F}(h:f.l=f.r):f.prop:=by
 cases f;case mq T n has f T' n' has' f' it' =>simp only[F.l,F.r,Side.r.injEq] at h;cases h;exact MpEq.mk' (it':=it') (jo _) (λ_=>rfl) (λ_=>rfl)
 case mr T ty sz n f T' ty' sz' n' f' =>simp only[F.l,F.r,Side.r.injEq] at h;cases h;exact MrEq.mk' (jo _) (λ_=>⟨rfl,λ_ _=>rfl⟩)
 all_goals simp only[F.l,F.r,Side.n.injEq,Side.i.injEq,Side.b.injEq,Side.v.injEq,Side.t.injEq,Side.f.injEq,Side.x.injEq,Side.p.injEq,Side.r.injEq] at h<;>simp only[F.prop,h]<;>(try intros)<;>trivial
def cutF:Nat->List Nat->List F->List F×List F
 |_,_,[]=>([],[])
 |_,[],f::r=>(f::r,[])
 |j,m::ms,f::r=>if jr j m then((cutF (j+1) ms r).1,f::(cutF (j+1) ms r).2) else(f::(cutF (j+1) (m::ms) r).1,(cutF (j+1) (m::ms) r).2)
theorem cutF_mem:∀{l:List F} {j:Nat} {M:List Nat} {f:F},f∈l->f∈(cutF j M l).1\/f∈(cutF j M l).2
 |[],_,_,_,h=>by cases h
 |x::r,j,[],f,h=>.inl h
 |x::r,j,m::ms,f,h=>by
  simp only[cutF];split;cases h with|head=>exact .inr (.head _)|tail _ h=>exact(cutF_mem h).imp id (j7 _)
  cases h with|head=>exact .inl (.head _)|tail _ h=>exact(cutF_mem h).imp (j7 _) id
def lF(M:List Nat)(o:Option (List F)):Option (List Side×List Prop):=match o with
 |some l=>some ((cutF 0 M l).1.map F.l,(cutF 0 M l).2.map F.prop)
 |none=>none
def rF(M:List Nat)(E:List Prop)(o:Option (List F)):Option (List Side×List Prop):=match o with
 |some l=>some ((cutF 0 M l).1.map F.r,E)
 |none=>some ([],[])
theorem Z7{M:List Nat}{E:List Prop}{o:Option (List F)}(h:lF M o=rF M E o)(hE:Conj E):∃l,o=some l/\AllF l:=by
 cases o with|none=>cases h|some l =>simp only[lF,rF,Option.some.injEq,Prod.mk.injEq] at h;obtain⟨h1,h2⟩:=h;refine⟨l,rfl,λf hf=>?_⟩;rcases cutF_mem (j:=0) (M:=M) hf with h3|h3;obtain⟨i,hi⟩:=List.mem_iff_getElem?.1 h3;(have e:((cutF 0 M l).1.map F.l)[i]?=((cutF 0 M l).1.map F.r)[i]?:=by rw[h1]);simp_all[jy,jX,Option.some.injEq,F.of_sides];subst h2;exact hE.all _ (List.mem_map_of_mem h3)
def idN:Nat->Nat->List Nat
 |_,0=>[]
 |j,n+1=>j::idN (j+1) n
def piN(π:List Nat)(n:Nat):List Nat:=match π with
 |[]=>idN 0 n
 |_::_=>π
def View.v:View->SV
 |.ret v=>v
 |.fin v=>v
 |_=>.u
def View.as:View->List SV
 |.call _ a=>a
 |.gcall _ a=>a
 |_=>[]
structure Lp(X:Type) where
 I:X->St
 J:X->Prop
 m:X->Nat
section
variable {P:Program} [hw:Wide P] {fn:Func} {n0:Nat} {S:SV->List Reg->Prop} {U:Tgt} {c:Cfg}
theorem tz(next:RunF P fn n0 U c.fz):RunF P fn n0 U c:=RunF.fz next
theorem Q0(x:Bool)(ht:x=true->RunF P fn n0 U (c.fz.thn P))(he:x=false->RunF P fn n0 U (c.fz.els P))(vc:List Prop:=[])(hv:Conj vc:=by exact trivial)(h:see P fn c.fz=(vc,.cond x):=by kernel_rfl):RunF P fn n0 U c:=tz (RunF.cond h hv ht he)
theorem Q3{res:SV}{post:List Reg}(π:List Nat:=[])(M:List Nat:=[])(E:List Prop:=[])(hE:Conj E:=by exact trivial)(vc:List Prop:=[])(hv:Conj vc:=by exact trivial)(hS:S res post:=by exact⟨rfl,rfl⟩)
 (h:see P fn c.fz=(vc,.ret (see P fn c.fz).2.v):=by kernel_rfl) (he:lF M (retEnt n0 (piN π post.length) (c.fz.at P) (see P fn c.fz).2.v res post)=rF M E (retEnt n0 (piN π post.length) (c.fz.at P) (see P fn c.fz).2.v res post):=by kernel_rfl):RunF P fn n0 (Rt P fn S) c:=
 let⟨_,h1,h2⟩:=Z7 he hE
 tz (RunF.ret res post _ h hv hS h1 h2)
theorem Qs{res:SV}{post:List Reg}(π:List Nat:=[])(M:List Nat:=[])(E:List Prop:=[])(hE:Conj E:=by exact trivial)(vc:List Prop:=[])(hv:Conj vc:=by exact trivial)(hS:S res post:=by exact⟨rfl,rfl⟩)
 (h:see P fn c.fz=(vc,.fin (see P fn c.fz).2.v):=by kernel_rfl) (he:lF M (retEnt n0 (piN π post.length) (c.fz.at P) (see P fn c.fz).2.v res post)=rF M E (retEnt n0 (piN π post.length) (c.fz.at P) (see P fn c.fz).2.v res post):=by kernel_rfl):RunF P fn n0 (Rt P fn S) c:=
 let⟨_,h1,h2⟩:=Z7 he hE
 tz (RunF.fin res post _ h hv hS h1 h2)
theorem Quk{res:SV}{post:List Reg}(fs:List (Nat×(Nat->TC)))(π:List Nat:=[])(M:List Nat:=[])(E:List Prop:=[])(hE:Conj E:=by exact trivial)(vc:List Prop:=[])(hv:Conj vc:=by exact trivial)(vc2:List Prop:=[])(hv2:Conj vc2:=by exact trivial)(hS:S res post:=by exact⟨rfl,rfl⟩)
 (h:see P fn c.fz=(vc,.ret (see P fn c.fz).2.v):=by kernel_rfl) (hf:(foldL fs (c.fz.at P)).map (·.2)=some vc2:=by kernel_rfl) (he:lF M (retEnt n0 (piN π post.length) (foldS fs (c.fz.at P)) (see P fn c.fz).2.v res post)=rF M E (retEnt n0 (piN π post.length) (foldS fs (c.fz.at P)) (see P fn c.fz).2.v res post):=by kernel_rfl):RunF P fn n0 (Rt P fn S) c:=
 let⟨_,h1,h2⟩:=Z7 he hE
 tz (RunF.retF res post _ fs h hv hS hf hv2 h1 h2)
theorem tWk(st':St)(next:RunF P fn n0 U ⟨c.fz.k,st'⟩)(π:List Nat:=[])(M:List Nat:=[])(E:List Prop:=[])(hE:Conj E:=by exact trivial)
 (he:lF M (ent n0 (piN π st'.rg.length) c.fz.st st')=rF M E (ent n0 (piN π st'.rg.length) c.fz.st st'):=by kernel_rfl):RunF P fn n0 U c:=
 let⟨_,h1,h2⟩:=Z7 he hE
 tz (RunF.weaken st' _ h1 h2 next)
def setN(j:Nat)(x:C):List C->List C
 |[]=>[]
 |a::l=>match j with
   |0=>x::l
   |j+1=>a::setN j x l
def spR(r j:Nat)(x:C):List Reg->List Reg
 |[]=>[]
 |a::l=>match r with
   |0=>(match a with|.box ty cs=>.box ty (setN j x cs)|y=>y)::l
   |r+1=>a::spR r j x l
def spE(s j:Nat)(x:C):List En->List En
 |[]=>[]
 |e::l=>match jr e.slot s with
   |true=>{ e with sv:=match e.sv with|.agg cs=>.agg (setN j x cs)|_=>.c x }::l
   |false=>e::spE s j x l
def St.sp(fs ps:List (Nat×Nat×C))(st:St):St:={ st with fr:=fs.foldl (λl p=>spE p.1 p.2.1 p.2.2 l) st.fr,rg:=ps.foldl (λl p=>spR p.1 p.2.1 p.2.2 l) st.rg }
theorem tSp(fs ps:List (Nat×Nat×C))(next:RunF P fn n0 U ⟨c.fz.k,c.fz.st.sp fs ps⟩)(M:List Nat:=[])(E:List Prop:=[])(hE:Conj E:=by exact trivial)
 (he:lF M (ent n0 (piN [] (c.fz.st.sp fs ps).rg.length) c.fz.st (c.fz.st.sp fs ps))=rF M E (ent n0 (piN [] (c.fz.st.sp fs ps).rg.length) c.fz.st (c.fz.st.sp fs ps)):=by kernel_rfl):RunF P fn n0 U c:=
 tWk (c.fz.st.sp fs ps) next [] M E hE he
theorem Q5{X:Type}(L:Lp X)(x0:X)(hJ:L.J x0)(round:∀x,L.J x->RunF P fn n0 U (c.fz.round P (Next L.I L.J L.m x) (L.I x)))(π:List Nat:=[])(M:List Nat:=[])(E:List Prop:=[])(hE:Conj E:=by exact trivial)(vc:List Prop:=[])(hv:Conj vc:=by exact trivial)
 (h:see P fn c.fz=(vc,.loop):=by kernel_rfl) (he:lF M (ent n0 (piN π (L.I x0).rg.length) (c.fz.at P) (L.I x0))=rF M E (ent n0 (piN π (L.I x0).rg.length) (c.fz.at P) (L.I x0)):=by kernel_rfl):RunF P fn n0 U c:=
 let⟨_,h1,h2⟩:=Z7 he hE
 tz (RunF.loop L.I L.J L.m x0 _ h hv h1 h2 hJ round)
theorem Q4{X:Type}(L:Lp X)(x x':X)(hm:L.m x'<L.m x)(hJ:L.J x')(π:List Nat:=[])(M:List Nat:=[])(E:List Prop:=[])(hE:Conj E:=by exact trivial)(vc:List Prop:=[])(hv:Conj vc:=by exact trivial)
 (h:see P fn c.fz=(vc,.jump (Next L.I L.J L.m x)):=by kernel_rfl) (he:lF M (ent n0 (piN π (L.I x').rg.length) (c.fz.at P) (L.I x'))=rF M E (ent n0 (piN π (L.I x').rg.length) (c.fz.at P) (L.I x')):=by kernel_rfl):RunF P fn n0 U c:=
 let⟨_,h1,h2⟩:=Z7 he hE
 tz (RunF.next x' _ h hv h1 h2 hm hJ)
theorem Yl{X:Type}(L:Lp X)(x x':X)(hm:L.m x'<L.m x)(hJ:L.J x')(fs:List (Nat×(Nat->TC)))(π:List Nat:=[])(M:List Nat:=[])(E:List Prop:=[])(hE:Conj E:=by exact trivial)(vc:List Prop:=[])(hv:Conj vc:=by exact trivial)(vc2:List Prop:=[])(hv2:Conj vc2:=by exact trivial)
 (h:see P fn c.fz=(vc,.jump (Next L.I L.J L.m x)):=by kernel_rfl) (hf:(foldL fs (c.fz.at P)).map (·.2)=some vc2:=by kernel_rfl) (he:lF M (ent n0 (piN π (L.I x').rg.length) (foldS fs (c.fz.at P)) (L.I x'))=rF M E (ent n0 (piN π (L.I x').rg.length) (foldS fs (c.fz.at P)) (L.I x')):=by kernel_rfl):RunF P fn n0 U c:=
 let⟨_,h1,h2⟩:=Z7 he hE
 tz (RunF.nextF x' _ fs h hv hf hv2 h1 h2 hm hJ)
theorem Q0b{X:Type}(n:Nat)(I:X->St)(J:X->Prop)(hall:upTo (λj=>RunF P fn n0 U (c.fz.pick P (AtSt I J) j)) n)(hk:∀x,J x->RunF P fn n0 U (c.fz.rest P (I x)))(vc:List Prop:=[])(hv:Conj vc:=by exact trivial)
 (h:see P fn c.fz=(vc,.any n):=by kernel_rfl):RunF P fn n0 U c:=tz (RunF.any I J h hv hall hk)
theorem tTo{X:Type}(I:X->St)(J:X->Prop)(x':X)(hJ:J x')(π:List Nat:=[])(M:List Nat:=[])(E:List Prop:=[])(hE:Conj E:=by exact trivial)(vc:List Prop:=[])(hv:Conj vc:=by exact trivial)
 (h:see P fn c.fz=(vc,.jump (AtSt I J)):=by kernel_rfl) (he:lF M (ent n0 (piN π (I x').rg.length) (c.fz.at P) (I x'))=rF M E (ent n0 (piN π (I x').rg.length) (c.fz.at P) (I x')):=by kernel_rfl):RunF P fn n0 U c:=
 let⟨_,h1,h2⟩:=Z7 he hE
 tz (RunF.to x' _ h hv h1 h2 hJ)
theorem Q2{f:Nat}{want:List SV}{pre:List Reg}{res:SV}{post:List Reg}(he:Enters P f)(spec:Ctr P f pre want (Det res post))(σ:List Nat)(next:RunF P fn n0 U (c.fz.ret P (piN σ pre.length) pre res post))(M:List Nat:=[])(E:List Prop:=[])(hE:Conj E:=by exact trivial)(vc:List Prop:=[])(hv:Conj vc:=by exact trivial)
 (h:see P fn c.fz=(vc,.call f (see P fn c.fz).2.as):=by kernel_rfl) (hc:lF M (callEnt (c.fz.drawn P) (piN σ pre.length) (c.fz.at P) pre want (see P fn c.fz).2.as)=rF M E (callEnt (c.fz.drawn P) (piN σ pre.length) (c.fz.at P) pre want (see P fn c.fz).2.as):=by kernel_rfl)
 (hok:((c.fz.after P (piN σ pre.length) pre res post).isSome&&exclIn (c.fz.at P).rg.length (piN σ pre.length) pre)=true:=by kernel_rfl):RunF P fn n0 U c:=
 let⟨_,h1,h2⟩:=Z7 hc hE
 tz (RunF.call he spec _ h hv h1 h2 hok next)
theorem tG{f:Nat}{want:List SV}{pre:List Reg}{res:SV}{post:List Reg}(he:Enters P f)(spec:Ctr P f pre want (Det res post))(σ:List Nat)(next:RunF P fn n0 U (c.fz.gret P (piN σ pre.length) res))(M:List Nat:=[])(E:List Prop:=[])(hE:Conj E:=by exact trivial)(vc:List Prop:=[])(hv:Conj vc:=by exact trivial)
 (h:see P fn c.fz=(vc,.gcall f (see P fn c.fz).2.as):=by kernel_rfl) (hc:lF M (callEnt true (piN σ pre.length) (c.fz.at P) pre want (see P fn c.fz).2.as)=rF M E (callEnt true (piN σ pre.length) (c.fz.at P) pre want (see P fn c.fz).2.as):=by kernel_rfl)
 (hok:(c.fz.gafter P (piN σ pre.length) res).isSome=true:=by kernel_rfl):RunF P fn n0 U c:=
 let⟨_,h1,h2⟩:=Z7 hc hE
 tz (RunF.gcall he spec _ h hv h1 h2 hok next)
theorem Qj(r k:Nat)(next:RunF P fn n0 U (c.fz.with_ (focSt c.fz.st r k)))(vc:List Prop:=[])(hv:Conj vc:=by exact trivial)(h:(focSt c.fz.st r k).map (·.2)=some vc:=by kernel_rfl):RunF P fn n0 U c:=tz (RunF.focus r k h hv next)
theorem Q1t(r:Nat)(g:Nat->TC)(next:RunF P fn n0 U (c.fz.with_ (foldSt c.fz.st r g)))(vc:List Prop:=[])(hv:Conj vc:=by exact trivial)(h:(foldSt c.fz.st r g).map (·.2)=some vc:=by kernel_rfl):RunF P fn n0 U c:=tz (RunF.fold r g h hv next)
theorem Q9g(r:Nat)(g:Reg)(next:RunF P fn n0 U (c.fz.with_ (regSt c.fz.st r g)))(vc:List Prop:=[])(hv:Conj vc:=by exact trivial)(h:(regSt c.fz.st r g).map (·.2)=some vc:=by kernel_rfl):RunF P fn n0 U c:=tz (RunF.reg r g h hv next)
theorem Qc9(r:Nat)(g:Nat->Nat->TC)(next:RunF P fn n0 U (c.fz.with_ (nilsSt c.fz.st r g)))(vc:List Prop:=[])(hv:Conj vc:=by exact trivial)(h:(nilsSt c.fz.st r g).map (·.2)=some vc:=by kernel_rfl):RunF P fn n0 U c:=tz (RunF.nils r g h hv next)
end
section
variable {P:Program} [hw:Wide P] {fn:Func} {n0:Nat} {c:Cfg}
end
attribute [irreducible] lF rF foldL foldS
def DetE{Y:Type}(Q:Y->Prop)(res:Y->SV)(post:Y->List Reg):SV->List Reg->Prop:=λr p=>∃y,Q y/\r=res y/\p=post y
section
variable {P:Program} [hw:Wide P] {fn:Func} {n0:Nat} {U:Tgt} {c:Cfg} {vc:List Prop} {Y:Type}
theorem RunF.callQ{f:Nat}{args want:List SV}{pre:List Reg}{Q:Y->Prop}{res:Y->SV}{post:Y->List Reg}(he:Enters P f)(spec:Ctr P f pre want (DetE Q res post))(σ:List Nat){E:List F}(h:see P fn c=(vc,.call f args))(hv:Conj vc)
 (hc:callEnt (c.drawn P) σ (c.at P) pre want args=some E) (hE:AllF E) (hx:exclIn (c.at P).rg.length σ pre=true) (hok:∀y,(c.after P σ pre (res y) (post y)).isSome=true) (next:∀y,Q y->RunF P fn n0 U (c.ret P σ pre (res y) (post y))):RunF P fn n0 U c:=
 RunF.callE he spec σ h hv hc hE hx λr p ⟨y,hq,e1,e2⟩=>by
  subst e1;subst e2;exact⟨hok y,next y hq⟩
theorem Qg{f:Nat}{want:List SV}{pre:List Reg}{Q:Y->Prop}{res:Y->SV}{post:Y->List Reg}(he:Enters P f)(spec:Ctr P f pre want (DetE Q res post))(σ:List Nat)(next:∀y,Q y->RunF P fn n0 U (c.fz.ret P (piN σ pre.length) pre (res y) (post y)))(M:List Nat:=[])(E:List Prop:=[])(hE:Conj E:=by exact trivial)(vc:List Prop:=[])(hv:Conj vc:=by exact trivial)
 (h:see P fn c.fz=(vc,.call f (see P fn c.fz).2.as):=by kernel_rfl) (hc:lF M (callEnt (c.fz.drawn P) (piN σ pre.length) (c.fz.at P) pre want (see P fn c.fz).2.as)=rF M E (callEnt (c.fz.drawn P) (piN σ pre.length) (c.fz.at P) pre want (see P fn c.fz).2.as):=by kernel_rfl)
 (hx:exclIn (c.fz.at P).rg.length (piN σ pre.length) pre=true:=by kernel_rfl) (hok:∀y,(c.fz.after P (piN σ pre.length) pre (res y) (post y)).isSome=true:=by intro _;kernel_rfl):RunF P fn n0 U c:=
 let⟨_,h1,h2⟩:=Z7 hc hE
 tz (RunF.callQ he spec _ h hv h1 h2 hx hok next)
end
def insFr(e:En):List En->List En
 |[]=>[e]
 |x::r=>if kH e.slot x.slot then e::x::r else x::insFr e r
def sortFr:List En->List En
 |[]=>[]
 |e::r=>insFr e (sortFr r)
theorem insFr_mem{e x:En}:∀{l:List En},x∈insFr e l->x=e\/x∈l
 |[],h=>by simpa[insFr] using h
 |y::r,h=>by
  simp only[insFr] at h;split at h;simpa using h;cases h with|head=>exact .inr (.head _)|tail _ h=>exact(insFr_mem h).imp id (j7 _)
theorem Q8d{x:En}:∀{l:List En},x∈sortFr l->x∈l
 |[],h=>h
 |y::r,h=>by
  rcases insFr_mem h with h|h;subst h;exact .head _;exact .tail _ (Q8d h)
def canon(st:St):St:=fS { st with fr:=sortFr st.fr } λs=>s
theorem Q54{b:Base}{st:St}{a:Act}{w:World}(h:Sat b st a w):Sat b (canon st) a w:=by
 obtain⟨ε,hs⟩:=h;unfold canon;rw[Qoh];exact⟨ε,hs.defs,hs.size,λe he=>hs.fr e (Q8d he),hs.regs,hs.below,hs.pre⟩
def C.refs:C->List Nat
 |.p r _=>[r]
 |.h r=>[r]
 |.e r _ _ _=>[r]
 |.fn _ _ cs=>cs
 |.ar r _ _ _ _ _ _ _=>[r]
 |.hs r _ _=>[r]
 |_=>[]
def refsL:List C->List Nat
 |[]=>[]
 |c::r=>c.refs++refsL r
def refsT:List (Bool×List C)->List Nat
 |[]=>[]
 |x::r=>refsL x.2++refsT r
def SV.refs:SV->List Nat
 |.c x=>x.refs
 |.agg cs=>refsL cs
 |.tup vs=>refsT vs
 |.u=>[]
def refsF:List En->List Nat
 |[]=>[]
 |e::r=>e.sv.refs++refsF r
def addNew(n m:Nat):List Nat->List Nat->List Nat
 |[],acc=>acc
 |x::r,acc=>addNew n m r (if kH n x&&kv x m&&!hasN x acc then acc++[x] else acc)
def upN:Nat->List Nat
 |0=>[]
 |n+1=>upN n++[n]
def ordR(n0:Nat)(st:St):List Nat:=addNew n0 st.rg.length (upN st.rg.length) (addNew n0 st.rg.length (refsF (sortFr st.fr)) (upN n0))
def ixOf(x:Nat):List Nat->Nat
 |[]=>0
 |y::r=>if jr x y then 0 else ixOf x r+1
def invOk(π:List Nat):Nat->Bool
 |0=>true
 |n+1=>(match nth π (ixOf n π) with|some p=>jr p n|none=>false)&&invOk π n
def pickR(rg:List Reg)(τ:Nat->Nat):List Nat->Option (List Reg)
 |[]=>some []
 |p::r=>match nth rg p,pickR rg τ r with
   |some x,some l=>some (x.ren τ::l)
   |_,_=>none
def permSt(n0:Nat)(π:List Nat)(st:St):Option St:=
 if st.scp&&jr π.length st.rg.length&&noDup π&&idOn π n0&&invOk π st.rg.length then
  (pickR st.rg (λr=>ixOf r π) π).map λrg=>{ st with fr:=st.fr.map λe=>{ e with sv:=e.sv.ren λr=>ixOf r π },rg }
 else none
theorem Q8e{π:List Nat}:∀{n:Nat},invOk π n=true->∀r,r<n->π[ixOf r π]?=some r
 |0,_,r,hr=>by omega
 |n+1,h,r,hr=>by
  simp only[invOk,jg] at h;by_cases hrn:r=n;grind[Qq,jf];exact Q8e h.2 r W48
theorem Q8f{rg:List Reg}{τ:Nat->Nat}:∀{π:List Nat} {l:List Reg},pickR rg τ π=some l->l.length=π.length/\∀(i:Nat) (r:Reg),l[i]?=some r->∃(p:Nat) (x:Reg),π[i]?=some p/\rg[p]?=some x/\r=x.ren τ
 |[],l,h=>by cases h;exact⟨rfl,λi r h=>by simp at h⟩
 |p::π,l,h=>by
  simp only[pickR] at h;split at h;rename_i x l' hx hl;cases h;obtain⟨h1,h2⟩:=Q8f hl;refine⟨by simp[h1],λi r hi=>?_⟩;cases i with|zero =>simp only[jH,Option.some.injEq] at hi;exact⟨p,x,rfl,by rw[Qq] at hx;exact hx,hi.symm⟩|succ i=>exact h2 i r (by simpa using hi)
  cases h
theorem Qlu{b:Base}{n0:Nat}(hb:b.e.length=n0){π:List Nat}{st st':St}(h:permSt n0 π st=some st'){a:Act}{w:World}(hs:Sat b st a w):Sat b st' a w:=by
 obtain⟨ε,hs⟩:=hs;unfold permSt at h;split at h;rename_i hc;simp only[jg] at hc;obtain⟨⟨⟨⟨c1,c2⟩,c3⟩,c4⟩,c5⟩:=hc;obtain⟨rg,h1,h2⟩:=map_nil h;cases h2;obtain⟨s1,s2⟩:=Ql c1;obtain⟨hlen,hpk⟩:=Q8f h1;have hτ:∀r,r<st.rg.length->Env.at_ (π.map ε.ent) (ixOf r π)=ε.at_ r:=λr hr=>Q13 ε π (Q8e c5 r hr);refine⟨π.map ε.ent,hs.defs,hs.size,λe he=>?_,⟨by simp[hlen],λi r hi=>?_,λi r hi hlv b hb=>?_,λi r hi hex b hb=>?_,λi j ri rj hij hi hj he hlv b hb hb'=>?_⟩,hs.below,Qcz hb hs.pre (Q1s c4)⟩;obtain⟨e0,he0,rfl⟩:=List.mem_map.1 he;obtain⟨k1,k2,k3⟩:=hs.fr e0 he0;exact⟨k1,λhg=>by rw[k2 hg];exact(Gd hτ (s1 _ he0)).symm,k3⟩;obtain⟨p,x,hp,hx,rfl⟩:=hpk i r hi;rw[Q2s ε π hp];have hok:=hs.regs.reg p x hx;exact RegOk.reren hτ (List.all_eq_true.1 s2 x (jB hx)) (λhex b hb=>hs.regs.lim p x hx hex b hb) hok;obtain⟨p,x,hp,hx,rfl⟩:=hpk i r hi;rw[Yb ε π hp] at hb;exact hs.regs.lt p x hx (by rw[Q16] at hlv;exact hlv) b hb;obtain⟨p,x,hp,hx,rfl⟩:=hpk i r hi;rw[Yb ε π hp] at hb;exact hs.regs.lim p x hx (by rw[Q15] at hex;exact hex) b hb;obtain⟨p,x,hp,hx,rfl⟩:=hpk i ri hi;obtain⟨q,y,hq,hy,rfl⟩:=hpk j rj hj;rw[Yb ε π hp] at hb;rw[Yb ε π hq] at hb';have hpq:p≠q:=λe=>by subst e;exact Q4w c3 hij hp hq
 exact hs.regs.sep p q x y hpq hx hy (by rw[Q15] at he;exact he) (by rw[Q16] at hlv;exact hlv) b hb hb';cases h
def canonP(n0:Nat)(st:St):St:=match permSt n0 (ordR n0 st) st with
 |some st'=>canon st'
 |none=>canon st
def kap:Option Nat->St->St
 |none=>canon
 |some n0=>canonP n0
theorem Qpa{b:Base}{o:Option Nat}(ho:∀n,o=some n->b.e.length=n){st:St}{a:Act}{w:World}(h:Sat b st a w):Sat b (kap o st) a w:=by
 cases o with|none=>exact Q54 h|some n =>show Sat b (canonP n st) a w;unfold canonP;split;rename_i st' hst;exact Q54 (Qlu (ho n rfl) hst h);exact Q54 h
theorem Q9h{P:Program}{b:Base}{Q:Exit->Act->World->Prop}{k:List K}{o:Option Nat}(ho:∀n,o=some n->b.e.length=n){st:St}(h:Run P b Q k (kap o st)):Run P b Q k st:=λa w hs=>h a w (Qpa ho hs)
def mixEff(P:Program)(all:List Oper)(st:St)(i:Nat):Option (St×List Prop):=match nth all i with
 |none=>none
 |some o=>match guardOf all st o with
   |.run []=>match effOp P st o,effCalm P (calmAt all i o) st o with
     |some (st',sv,vc),some vc'=>(putSt st' o.dst [] sv).map (·,vc'++vc)
     |_,_=>match callOf st [] o,pureOp P st [] o with
       |none,some (sv,vc)=>(putSt st o.dst [] sv).map (·,vc)
       |_,_=>none
   |.skip=>(putSt st o.dst [] .u).map (·,[])
   |_=>none
section
variable {P:Program} {b:Base} {Q:Exit->Act->World->Prop} {k:List K} {all:List Oper} {listed:List Bool} {st st':St} {vc:List Prop} {m i:Nat}
theorem Qpb(hfp:findPure P all listed st 0 all=some (i,st',vc))(hv:All vc)(h:Run P b Q (.mix all (setL listed i) m::k) st'):Run P b Q (.mix all listed (m+1)::k) st:=λa w ⟨ε,hs⟩ hsel=>by
 obtain⟨o,hoi,htp⟩:=Q0a (λk=>by simp) hfp;exact Q2n hs hsel hoi htp hv (λv hs'=>h _ w ⟨ε,hs'⟩ hsel)
theorem Qs5(he:mixEff P all st i=some (st',vc))(hv:All vc)(h:Run P b Q (.mix all (setL listed i) m::k) st'):Run P b Q (.mixAt all listed m i::k) st:=λa w ⟨ε,hs⟩ hsel=>by
 unfold mixEff at he;split at he;cases he;rename_i o hoi;rw[Qq] at hoi;have hoi':all.toArray[i]?=some o:=by simpa using hoi
 obtain⟨g1,g2⟩:=Zx hs (ops:=all) (o:=o);split at he;rename_i hgd;have hw:=(g1 _ hgd).2 (gHolds_nil a);unfold wpOpR;simp only[hoi',hw,if_true];split at he;rename_i st1 sv vc1 vc2 h1 h2;obtain⟨st2,hput,he2⟩:=map_nil he;cases he2;exact Qaw (b:=b) hs h1 h2 hv.right hv.left (λv w' ε' hve hs'=>h _ w' ⟨ε',Qi hs' hput (λ_=>hve) (λhn=>absurd (gHolds_nil _) hn)⟩ hsel);split at he;rename_i sv vc1 hco hp;obtain⟨st2,hput,he2⟩:=map_nil he;cases he2;unfold stepR;rw[Zv hs (gHolds_nil a) hp hv];exact⟨λ_=>⟨rfl,rfl,rfl,jo _,λ_ _=>rfl⟩,h _ w ⟨ε,Qi hs hput (λ_=>rfl) (λhn=>absurd (gHolds_nil _) hn)⟩ hsel⟩;cases he;rename_i hgd;obtain⟨st2,hput,he2⟩:=map_nil he;cases he2;have hw:=g2 hgd;unfold wpOpR;simp only[hoi',hw,jY,if_false];exact h _ w ⟨ε,Qi hs hput (λ_=>rfl) (λ_=>rfl)⟩ hsel;cases he
theorem Qs6(hne:readyL all listed≠[])(h:∀i∈readyL all listed,Run P b Q (.mixAt all listed m i::k) st):Run P b Q (.mix all listed (m+1)::k) st:=λa w hs hsel=>by
 refine⟨λh0=>?_,λj hj=>?_⟩;cases hl:readyL all listed with|nil=>exact absurd hl hne|cons i l =>(have hi:i∈readyL all listed:=by rw[hl];exact .head _);have:=Z9.1 (List.mem_filter.1 hi).2;rw[h0] at this;cases this
 have hq:=h j (Q3h hj) a w hs hsel;rw[<- Ya];exact hq
theorem Qpc(hr:readyL all listed=[])(h:Run P b Q k st):Run P b Q (.mix all listed m::k) st:=λa w hs hsel=>by
 have hr':=Q84 hr;have hq:=h a w hs;cases m with|zero=>exact⟨hr',hq⟩|succ n=>exact⟨λ_=>hq,λi hi=>by rw[hr'] at hi;cases hi⟩
end
abbrev Nd:=List Bool×St
abbrev Ask:=List (St×St)×List (List Prop)
def beqLB:List Bool->List Bool->Bool
 |[],[]=>true
 |x::r,y::s=>beqB x y&&beqLB r s
 |_,_=>false
theorem Qd6:∀{a b:List Bool},beqLB a b=true->a=b
 |[],[],_=>rfl
 |x::r,y::s,h=>by simp only[beqLB,jg] at h;rw[Zt.1 h.1,Qd6 h.2]
 |[],_::_,h=>by cases h
 |_::_,[],h=>by
  cases h
def findNd(l:List Bool):List Nd->Option St
 |[]=>none
 |x::r=>if beqLB x.1 l then some x.2 else findNd l r
theorem Q8g{l:List Bool}{s:St}:∀{T:List Nd},findNd l T=some s->(l,s)∈T
 |[],h=>by cases h
 |x::r,h=>by
  simp only[findNd] at h;split at h;grind[Qd6];exact .tail _ (Q8g h)
def addNd(x:Nd)(T:List Nd)(q:Ask):List Nd×Ask:=match findNd x.1 T with
 |some s=>(T,(s,x.2)::q.1,q.2)
 |none=>(T++[x],q)
def addAll(P:Program)(o:Option Nat)(all:List Oper)(nd:Nd):List Nat->List Nd->Ask->Option (List Nd×Ask)
 |[],T,q=>some (T,q)
 |i::r,T,q=>match mixEff P all nd.2 i with
   |some (st',vc)=>addAll P o all nd r (addNd (setL nd.1 i,kap o st') T (q.1,vc::q.2)).1 (addNd (setL nd.1 i,kap o st') T (q.1,vc::q.2)).2
   |none=>none
def expand(P:Program)(o:Option Nat)(all:List Oper)(nd:Nd)(T:List Nd)(q:Ask):Option (List Nd×Ask):=match findPure P all nd.1 nd.2 0 all with
 |some (i,st',vc)=>some (addNd (setL nd.1 i,kap o st') T (q.1,vc::q.2))
 |none=>match readyL all nd.1 with
   |[]=>none
   |i::r=>addAll P o all nd (i::r) T q
def level(P:Program)(o:Option Nat)(all:List Oper):List Nd->List Nd->Ask->Option (List Nd×Ask)
 |[],T,q=>some (T,q)
 |nd::r,T,q=>match expand P o all nd T q with
   |some (T',q')=>level P o all r T' q'
   |none=>none
def explore(P:Program)(o:Option Nat)(all:List Oper):Nat->List Nd->Ask->Option (St×Ask)
 |0,nds,q=>match nds with
   |[nd]=>match readyL all nd.1 with
     |[]=>some (nd.2,q)
     |_=>none
   |_=>none
 |m+1,nds,q=>match level P o all nds [] q with
   |some (T,q')=>explore P o all m T q'
   |none=>none
def AskOk(q:Ask):Prop:=(∀p∈q.1,p.1=p.2)/\∀v∈q.2,All v
def AskLe(q r:Ask):Prop:=(∀p∈q.1,p∈r.1)/\∀v∈q.2,v∈r.2
theorem AskLe.refl(q:Ask):AskLe q q:=⟨λ_ h=>h,λ_ h=>h⟩
theorem AskLe.trans{q r s:Ask}(h:AskLe q r)(h':AskLe r s):AskLe q s:=⟨λp hp=>h'.1 p (h.1 p hp),λv hv=>h'.2 v (h.2 v hv)⟩
theorem AskOk.le{q r:Ask}(h:AskLe q r)(hr:AskOk r):AskOk q:=⟨λp hp=>hr.1 p (h.1 p hp),λv hv=>hr.2 v (h.2 v hv)⟩
theorem Q8h(x:Nd)(T:List Nd)(q:Ask):AskLe q (addNd x T q).2/\(∀y∈T,y∈(addNd x T q).1)/\(AskOk (addNd x T q).2->x∈(addNd x T q).1):=by
 unfold addNd;split;rename_i s hs;refine⟨⟨λp hp=>.tail _ hp,λv hv=>hv⟩,λy hy=>hy,λhq=>?_⟩;have:=hq.1 (s,x.2) (.head _);grind[Q8g];grind[AskLe.refl,j5,List.mem_append_right]
section
variable {P:Program} {b:Base} {Q:Exit->Act->World->Prop} {k:List K} {all:List Oper} {m:Nat} {o:Option Nat}
def NdRun(P:Program)(b:Base)(Q:Exit->Act->World->Prop)(k:List K)(all:List Oper)(m:Nat)(nd:Nd):Prop:=Run P b Q (.mix all nd.1 m::k) nd.2
theorem Q6y(ho:∀n,o=some n->b.e.length=n){nd:Nd}:∀{l:List Nat} {T T':List Nd} {q q':Ask},addAll P o all nd l T q=some (T',q') ->
 AskLe q q'/\(∀y∈T,y∈T')/\(AskOk q'->(∀y∈T',NdRun P b Q k all m y)->∀i∈l,Run P b Q (.mixAt all nd.1 m i::k) nd.2)
 |[],T,T',q,q',h=>by cases h;grind[AskLe.refl]
 |i::r,T,T',q,q',h=>by
  simp only[addAll] at h;split at h;rename_i st' vc he;obtain⟨h1,h2,h3⟩:=Q6y ho h;obtain⟨g1,g2,g3⟩:=Q8h (setL nd.1 i,kap o st') T (q.1,vc::q.2);refine⟨AskLe.trans (r:=(q.1,vc::q.2)) ⟨λp hp=>hp,λv hv=>.tail _ hv⟩ (g1.trans h1),λy hy=>h2 y (g2 y hy),λhq hT j hj=>?_⟩;cases hj with|head =>have hx:=h2 _ (g3 (AskOk.le h1 hq));have hvc:All vc:=(AskOk.le (g1.trans h1) hq).2 vc (.head _);exact Qs5 he hvc (Q9h ho (hT _ hx))|tail _ hj=>exact h3 hq hT j hj
  cases h
theorem Qf8(ho:∀n,o=some n->b.e.length=n){nd:Nd}{T T':List Nd}{q q':Ask}(h:expand P o all nd T q=some (T',q')) :
 AskLe q q'/\(∀y∈T,y∈T')/\(AskOk q'->(∀y∈T',NdRun P b Q k all m y)->NdRun P b Q k all (m+1) nd):=by
  unfold expand at h;split at h;rename_i i st' vc he;obtain⟨g1,g2,g3⟩:=Q8h (setL nd.1 i,kap o st') T (q.1,vc::q.2);have e:=Option.some.inj h;rw[e] at g1 g2 g3;refine⟨AskLe.trans (r:=(q.1,vc::q.2)) ⟨λp hp=>hp,λv hv=>.tail _ hv⟩ g1,g2,λhq hT=>?_⟩;have hvc:All vc:=(AskOk.le g1 hq).2 vc (.head _);exact Qpb he hvc (Q9h ho (hT _ (g3 hq)));split at h;cases h;rename_i i r hr;obtain⟨h1,h2,h3⟩:=Q6y (b:=b) (Q:=Q) (k:=k) (m:=m) ho h;refine⟨h1,h2,λhq hT=>Qs6 (by rw[hr];simp) (λj hj=>h3 hq hT j (by rw[<- hr];exact hj))⟩
theorem Q8i(ho:∀n,o=some n->b.e.length=n):∀{nds:List Nd} {T T':List Nd} {q q':Ask},level P o all nds T q=some (T',q') ->
 AskLe q q'/\(∀y∈T,y∈T')/\(AskOk q'->(∀y∈T',NdRun P b Q k all m y)->∀nd∈nds,NdRun P b Q k all (m+1) nd)
 |[],T,T',q,q',h=>by cases h;grind[AskLe.refl]
 |nd::r,T,T',q,q',h=>by
  simp only[level] at h;split at h;rename_i T1 q1 he;obtain⟨h1,h2,h3⟩:=Q8i ho h;obtain⟨g1,g2,g3⟩:=Qf8 (b:=b) (Q:=Q) (k:=k) (m:=m) ho he;refine⟨g1.trans h1,λy hy=>h2 y (g2 y hy),λhq hT x hx=>?_⟩;grind[AskOk.le];cases h
theorem Q55(ho:∀n,o=some n->b.e.length=n):∀{m:Nat} {nds:List Nd} {q:Ask} {st':St} {q':Ask},explore P o all m nds q=some (st',q') ->
 AskLe q q'/\(AskOk q'->Run P b Q k st'->∀nd∈nds,NdRun P b Q k all m nd)
 |0,nds,q,st',q',h=>by simp only[explore] at h;split at h;rename_i nd;split at h;rename_i hr;cases h;refine⟨AskLe.refl _,λ_ hq x hx=>?_⟩;cases List.mem_singleton.1 hx;exact Qpc hr hq;cases h;cases h
 |m+1,nds,q,st',q',h=>by
  simp only[explore] at h;split at h;rename_i T q1 hl;obtain⟨h1,h2⟩:=Q55 ho h;obtain⟨g1,g2,g3⟩:=Q8i (b:=b) (Q:=Q) (k:=k) (m:=m) ho hl;exact⟨g1.trans h1,λhq hr=>g3 (AskOk.le h1 hq) (h2 hq hr)⟩;cases h
end
def Cfg.dag(P:Program)(o:Option Nat)(c:Cfg):Option (St×Ask):=match(seg P 5000 c.k c.st).2 with
 |.any all listed n l _ st=>if l.all (readyI all listed) then explore P o all (n+1) [(listed,kap o st)] ([],[]) else none
 |_=>none
def Cfg.dagK(P:Program)(o:Option Nat)(c:Cfg):Cfg:=match(seg P 5000 c.k c.st).2 with
 |.any all listed n _ k st=>match explore P o all (n+1) [(listed,kap o st)] ([],[]) with
   |some x=>⟨k,x.1⟩
   |none=>noCfg
 |_=>noCfg
def lG(o:Option (St×Ask)):Option (List St×List (List Prop)):=match o with
 |some x=>some (x.2.1.map Prod.fst,x.2.2)
 |none=>none
def rG(V:List (List Prop))(ix:List Nat)(o:Option (St×Ask)):Option (List St×List (List Prop)):=match o with
 |some x=>some (x.2.1.map Prod.snd,ix.map λi=>V.getD i [False])
 |none=>some ([],[])
def flatP:List (List Prop)->List Prop
 |[]=>[]
 |x::r=>x++flatP r
theorem Qjb{V:List (List Prop)}{v:List Prop}(h:v∈V){p:Prop}(hp:p∈v):p∈flatP V:=by
 induction V with|nil=>cases h|cons x r ih =>cases h with|head=>exact j5 _ hp|tail _ h=>exact List.mem_append_right _ (ih h)
section
variable {P:Program} [hw:Wide P] {fn:Func} {n0:Nat} {U:Tgt} {c:Cfg}
theorem RunF.dag{n:Nat}{vc:List Prop}(o:Option Nat)(ho:o=none\/o=some n0)(V:List (List Prop))(ix:List Nat)(h:see P fn c=(vc,.any n))(hv:Conj vc)(hd:lG (c.dag P o)=rG V ix (c.dag P o))(hix:ix.all (λi=>kv i V.length)=true)(hV:Conj (flatP V))(next:RunF P fn n0 U (c.dagK P o)):RunF P fn n0 U c:=by
 unfold RunF at next⊢;intro b hb;have ho':∀n,o=some n->b.e.length=n:=λn e=>by grind
 unfold see at h;unfold Cfg.dag at hd;unfold Cfg.dagK at next;generalize hg:seg P 5000 c.k c.st=r at h hd next;obtain⟨vc',out⟩:=r;cases out<;>simp only[Prod.mk.injEq,reduceCtorEq,and_false] at h;case any all listed n' l k st =>simp only[View.any.injEq] at h;obtain⟨rfl,rfl⟩:=h;simp only at hd next;cases hl:l.all (readyI all listed) with|false=>rw[hl] at hd;cases hd|true =>rw[hl] at hd;simp only[if_true] at hd;cases hx:explore P o all (n'+1) [(listed,kap o st)] ([],[]) with|none=>rw[hx] at hd;cases hd|some x =>obtain⟨stf,q⟩:=x;rw[hx] at hd next;simp only[lG,rG,Option.some.injEq,Prod.mk.injEq] at hd;obtain⟨hd1,hd2⟩:=hd;(have hq:AskOk q:=by refine⟨λp hp=>?_,λv hvm=>?_⟩;obtain⟨i,hi⟩:=List.mem_iff_getElem?.1 hp;(have e:(q.1.map Prod.fst)[i]?=(q.1.map Prod.snd)[i]?:=by rw[hd1]);grind;rw[hd2] at hvm;obtain⟨i,hi,rfl⟩:=List.mem_map.1 hvm;have hlt:=jN (Nat.lt_of_succ_le (jx (List.all_eq_true.1 hix i hi))) (jo _);intro p hp;rw[jc,jh hlt] at hp;exact hV.all p (Qjb (jT hlt) hp));obtain⟨_,h2⟩:=Q55 (b:=b) (Q:=U b) (k:=k) ho' hx;have hrun:=h2 hq (next b hb) _ (.head _);refine Qp hw.mixed 5000 _ _ _ _ hg hv.toAll (λi hi a w hs hsel=>?_);have:=(Q9h ho' (show Run P b (U b) (.mix all listed (n'+1)::k) (kap o st) from hrun) a w hs hsel).2 i (Z9.1 (List.all_eq_true.1 hl i hi));rw[<- Ya] at this;exact this
 all_goals grind[callV]
theorem Qvw(n:Nat)(V:List (List Prop))(ix:List Nat)(next:RunF P fn n0 U (c.fz.dagK P none))(hV:Conj (flatP V):=by exact trivial)(vc:List Prop:=[])(hv:Conj vc:=by exact trivial)
 (h:see P fn c.fz=(vc,.any n):=by kernel_rfl) (hd:lG (c.fz.dag P none)=rG V ix (c.fz.dag P none):=by kernel_rfl) (hix:ix.all (λi=>Nat.blt i V.length)=true:=by kernel_rfl):RunF P fn n0 U c:=tz (RunF.dag none (.inl rfl) V ix h hv hd hix hV next)
theorem Qca(n:Nat)(V:List (List Prop))(ix:List Nat)(next:RunF P fn n0 U (c.fz.dagK P (some n0)))(hV:Conj (flatP V):=by exact trivial)(vc:List Prop:=[])(hv:Conj vc:=by exact trivial)
 (h:see P fn c.fz=(vc,.any n):=by kernel_rfl) (hd:lG (c.fz.dag P (some n0))=rG V ix (c.fz.dag P (some n0)):=by kernel_rfl) (hix:ix.all (λi=>Nat.blt i V.length)=true:=by kernel_rfl):RunF P fn n0 U c:=tz (RunF.dag (some n0) (.inr rfl) V ix h hv hd hix hV next)
end
def View.gf:View->Nat
 |.gcall f _=>f
 |_=>0
def View.ga:View->List SV
 |.gcall _ a=>a
 |_=>[]
theorem Zn{P:Program}[hw:Wide P]{fn:Func}{n0:Nat}{U:Tgt}{c:Cfg}(x:Bool)(ht:x=true->RunF P fn n0 U (c.fz.gthn P true))(hf:x=false->RunF P fn n0 U (c.fz.gthn P false))(vc:List Prop:=[])(hv:Conj vc:=by exact trivial)
 (h:see P fn c.fz=(vc,.gcall (see P fn c.fz).2.gf (see P fn c.fz).2.ga):=by kernel_rfl) (hx:c.fz.gx P=some x:=by kernel_rfl):RunF P fn n0 U c:=tz (RunF.guard h hv hx ht hf)
attribute [irreducible] Cfg.dag Cfg.dagK lG rG
end Go.Tx
