/-
  A part of the proof. Text 1 of 10: TxK TxN TxA TxB TxL TxC.
-/
import Derived.WideKeyEntry
import Derived.Maps.Own
import Derived.Maps.Range
import Derived.WalkKit
import Derived.WalkSpells
import Derived.Maps.AppendAt
import Derived.Deep.Quiet
import Derived.KernelRfl
import Derived.ChangeKeysEq
set_option linter.unusedVariables false
set_option linter.unusedSimpArgs false
open Go.Sem renaming run_bind->jp,run->kJ,run_pure->jz
open Go.Result renaming andThen->kA,andThen_ok->jk
open Bool renaming false_eq_true->jY,or_eq_true->jQ,and_eq_true->jg,eq_false_iff->ky,not_eq_true'->jC
open Nat renaming le_trans->kf,blt->kv,beq->jr,ble->kH,eq_of_beq_eq_true->jf,add_assoc->kM,le_of_ble_eq_true->jx,zero_add->ko
open List renaming length_cons->kj,mem_of_getElem?->jB,map_cons->jW,range->jv,map_congr_left->ki,getElem?_map->jy,length_map->jK,mem_append_left->j5,getElem?_append_right->jJ,getElem?_eq_getElem->jh,length->jV,getD_eq_getElem?_getD->jc,getElem?_eq_none->kd,ext_getElem?->kD
open Go.Value renaming bool->jL
open Option renaming map_some->jX
open And renaming intro->ji
open Array renaming toList_map->kK
namespace Go
theorem kR{p:Prop}[Decidable p](h:decide p=true):p:=of_decide_eq_true h
theorem kS{p:Prop}[Decidable p](h:decide p=false):¬p:=of_decide_eq_false h
theorem W48{p:Prop}(h:p:=by omega):p:=h
theorem W207{p:Prop}(h:p:=by simp):p:=h
theorem W259{p:Prop}(h:p:=by simpa using h):p:=h
end Go
namespace Go.Tx
open Go
inductive CK where
 |i (k:IntKind)
 |s
 |b
def CK.α:CK->Type
 |.i _=>Int
 |.s=>ByteArray
 |.b=>Bool
def CK.val:(c:CK)->c.α->Value
 |.i k,n=>.int k n
 |.s,x=>.string x
 |.b,x=>.bool x
def CK.zero:(c:CK)→c.α
 | .i _=>(0:Int)
 | .s=>(⟨#[]⟩:ByteArray)
 | .b=>false
def CK.wf:(c:CK)->c.α->Prop
 |.i k,n=>(Lit.int k n).wf=true
 |.s,x=>ByteArray.size x<=maxLen
 |.b,_=>True
def KA:List CK->Type
 |[]=>Unit
 |[c]=>c.α
 |c::d::r=>c.α×KA (d::r)
def KA.vals:(K:List CK)->KA K->List Value
 |[],_=>[]
 |[c],x=>[c.val x]
 |c::d::r,x=>c.val x.1::KA.vals (d::r) x.2
def KA.zero:(K:List CK)->KA K
 |[]=>()
 |[c]=>c.zero
 |c::d::r=>(c.zero,KA.zero (d::r))
def KA.wf:(K:List CK)->KA K->Prop
 |[],_=>True
 |[c],x=>c.wf x
 |c::d::r,x=>c.wf x.1/\KA.wf (d::r) x.2
instance (c:CK):DecidableEq c.α:=match c with
 |.i _=>inferInstanceAs (DecidableEq Int)
 |.s=>inferInstanceAs (DecidableEq ByteArray)
 |.b=>inferInstanceAs (DecidableEq Bool)
def KA.deq:(K:List CK)->DecidableEq (KA K)
 |[]=>inferInstanceAs (DecidableEq Unit)
 |[c]=>inferInstanceAs (DecidableEq c.α)
 |c::d::r=>let _:=KA.deq (d::r);inferInstanceAs (DecidableEq (c.α×KA (d::r)))
instance (K:List CK):DecidableEq (KA K):=KA.deq K
structure MT where
 P:Program
 t:Nat
 k:Nat
 e:Nat
 K:List CK
 kAgg:Bool
 V:List CK
 vAgg:Bool
def mkVal(agg:Bool)(l:List Value):Value:=if agg then .agg l.toArray else l.headD undef
def MT.valK(T:MT)(a:KA T.K):Value:=mkVal T.kAgg (KA.vals T.K a)
def MT.valE(T:MT)(x:KA T.V):Value:=mkVal T.vAgg (KA.vals T.V x)
def heldR(v:Value):Option (DataW Value×List MemPlace):=some (.held v,[])
structure MT.Ok(T:MT):Prop where
 map:T.P.underlying T.t=some (.map T.k T.e)
 key:Go.Maps.Keyed T.P T.k
 lit:∀a:KA T.K,KA.wf T.K a->∃l,keyOf T.P T.k (T.valK a)=some l
 inv:∀v l,keyOf T.P T.k v=some l->∃a:KA T.K,KA.wf T.K a/\v=T.valK a
 one:T.kAgg=true\/T.K.length=1
 oneE:T.vAgg=true\/T.V.length=1
 zero:∀w,(zeroValue T.e).run T.P w=.ok (T.valE (KA.zero T.V)) w
structure MT.Rep(T:MT)(has:KA T.K->Bool)(f:KA T.K->KA T.V)(D:DataW Value):Prop where
 at_:∀a l,keyOf T.P T.k (T.valK a)=some l->Go.Maps.has D l=has a/\(has a=true->∀z,D.atKey l z=.held (T.valE (f a)))
 off:∀a,keyOf T.P T.k (T.valK a)=none->has a=false
 zero:∀a,has a=false->f a=KA.zero T.V
structure MIt(K:List CK) where
 mk5 ::
 r:Nat
 left:KA K->Bool
 cnt:Nat
 cur:Option (KA K)
 /-- the stamp of an entry that has been found for a store -/
 pd:Option Int
abbrev MIt.mk{K:List CK}(r:Nat)(left:KA K->Bool)(cnt:Nat)(cur:Option (KA K)):MIt K:=⟨r,left,cnt,cur,none⟩
def itPtr(r:Nat):Value:=.pointer (some ⟨r,0,none⟩)
structure MRange(w:World)(T:MT)(b n:Nat)(D:DataW Value)(f:KA T.K->KA T.V)(it:MIt T.K):Prop where
 rg:∃L:Lit->Bool,w.ranges T.P T.k heldR b it.r n D L it.cnt/\∀a l,keyOf T.P T.k (T.valK a)=some l->L l=it.left a
 off:∀a,keyOf T.P T.k (T.valK a)=none->it.left a=false
 cur:∀a,it.cur=some a->(Instr.entry (itPtr it.r)).run T.P w=.ok (.tuple #[T.valK a,T.valE (f a)]) w
def PendV(w:World)(T:MT)(h:Value)(a:KA T.K)(s:Int):Prop:=
 ∃(b:Nat) (es:Array MapEntry) (clock:Nat) (e:MapEntry),h=.map (some b)/\w.heap[b]?=some (.map es clock)/\e∈es.toList/\e.key=T.valK a/\(e.born:Int)=s
theorem PendV.move{w w':World}{T:MT}{b:Nat}{a:KA T.K}{s:Int}(hp:PendV w T (.map (some b)) a s)(hb:w'.heap[b]?=w.heap[b]?):PendV w' T (.map (some b)) a s:=by
 obtain⟨b',es,clock,e,e0,h2,h3,h4,h5⟩:=hp;cases e0;exact⟨b,es,clock,e,rfl,hb.trans h2,h3,h4,h5⟩
def ItAt(w:World)(M fp:Nat->Prop)(T:MT)(h:Value)(b n:Nat)(D:DataW Value)(f:KA T.K->KA T.V)(x:MIt T.K):Prop:=match x.pd with
 |none=>M x.r/\fp x.r/\MRange w T b n D f x
 |some s=>w.ownsMap T.P T.k heldR b n D/\∃k,x.cur=some k/\PendV w T h k s
def MapAt(w:World)(M fp:Nat->Prop)(T:MT)(h:Value)(n:Nat)(has:KA T.K->Bool)(f:KA T.K->KA T.V)(it:Option (MIt T.K)):Prop:=
 T.Ok/\∃b D,h=.map (some b)/\M b/\fp b/\T.Rep has f D/\match it with
  |none=>w.ownsMap T.P T.k heldR b n D
  |some x=>ItAt w M fp T h b n D f x
theorem Q0u{w w':World}{P:Program}{k b n:Nat}{D:DataW Value}(h:w.ownsMap P k heldR b n D)(hb:w'.heap[b]?=w.heap[b]?):w'.ownsMap P k heldR b n D:=by
 obtain⟨es,clock,h1,h2⟩:=h;exact⟨es,clock,hb.trans h1,h2⟩
theorem Qeu{w w':World}{P:Program}{k b r n cnt:Nat}{D:DataW Value}{L:Lit->Bool}(h:w.ranges P k heldR b r n D L cnt)(hb:w'.heap[b]?=w.heap[b]?)(hr:w'.heap[r]?=w.heap[r]?):w'.ranges P k heldR b r n D L cnt:=by
 obtain⟨es,clock,since,seen,c0,h1,h2,h3,h4,h5,h6⟩:=h;exact⟨es,clock,since,seen,c0,hb.trans h1,h2,h3,h4,hr.trans h5,h6⟩
theorem Qhe{w w':World}{P:Program}{k b r n cnt:Nat}{D:DataW Value}{L:Lit->Bool}{v:Value}(h:w.ranges P k heldR b r n D L cnt)(hb:w'.heap[b]?=w.heap[b]?)(hr:w'.heap[r]?=w.heap[r]?)
 (he:(Instr.entry (itPtr r)).run P w=.ok v w):(Instr.entry (itPtr r)).run P w'=.ok v w':=by
  obtain⟨es,clock,since,seen,c0,h1,h2,h3,h4,h5,h6⟩:=h;have h1':=hb.trans h1;have h5':=hr.trans h5;unfold itPtr at he⊢;simp only[Instr.entry,getObj,jp,kJ,h1,h5,kA] at he;simp only[Instr.entry,getObj,jp,kJ,h1',h5',kA];cases hs:seen.back? with|none=>simp[hs,kJ] at he|some stamp =>simp only[hs,jp,getObj,kJ,h1,kA] at he;simp only[jp,getObj,kJ,h1',kA];by_cases hc:(clock !=c0)=true;simp[hc,kJ,jp,kA] at he;simp only[hc,if_false,jY] at he⊢;cases hf:es.find? (λx=>x.born==stamp) with|none=>simp[hf,kJ] at he|some e=>simp[hf,kJ] at he⊢;exact he
theorem MRange.move{w w':World}{T:MT}{b n:Nat}{D:DataW Value}{f:KA T.K->KA T.V}{it:MIt T.K}(h:MRange w T b n D f it)(hb:w'.heap[b]?=w.heap[b]?)(hr:w'.heap[it.r]?=w.heap[it.r]?):MRange w' T b n D f it:=by
 obtain⟨L,h1,h2⟩:=h.rg;exact⟨⟨L,Qeu h1 hb hr,h2⟩,h.off,λa ha=>Qhe h1 hb hr (h.cur a ha)⟩
theorem Qah{w:World}{P:Program}{k b r n cnt:Nat}{D:DataW Value}{L:Lit->Bool}(h:w.ranges P k heldR b r n D L cnt):b<w.heap.size/\r<w.heap.size:=⟨h.owns.lt,h.lt⟩
theorem MapAt.world{w w':World}{M fp:Nat->Prop}{T:MT}{h:Value}{n:Nat}{has:KA T.K->Bool}{f:KA T.K->KA T.V}{it:Option (MIt T.K)}(hm:MapAt w M fp T h n has f it)
 (hb:∀b,fp b->b<w.heap.size->w'.heap[b]?=w.heap[b]?):MapAt w' M fp T h n has f it:=by
  obtain⟨ok,b,D,h1,h2,h3,h4,h5⟩:=hm;refine⟨ok,b,D,h1,h2,h3,h4,?_⟩;cases it with|none=>exact Q0u h5 (hb b h3 (World.ownsMap.lt h5))|some x =>obtain⟨r,left,cnt,cur,pd⟩:=x;cases pd with|none =>have h5:M r/\fp r/\MRange w T b n D f ⟨r,left,cnt,cur,none⟩:=h5;obtain⟨L,hL,_⟩:=h5.2.2.rg;exact⟨h5.1,h5.2.1,h5.2.2.move (hb b h3 (Qah hL).1) (hb r h5.2.1 (Qah hL).2)⟩|some s =>have h5:w.ownsMap T.P T.k heldR b n D/\∃k,cur=some k/\PendV w T h k s:=h5;obtain⟨h6,k,h7,h8⟩:=h5;have e:=hb b h3 (World.ownsMap.lt h6);subst h1;exact⟨Q0u h6 e,k,h7,h8.move e⟩
theorem MapAt.reM{w:World}{M M' fp fp':Nat->Prop}{T:MT}{h:Value}{n:Nat}{has:KA T.K->Bool}{f:KA T.K->KA T.V}{it:Option (MIt T.K)}(hm:MapAt w M fp T h n has f it)
 (hM:∀b,fp b->M' b) (hf:∀b,fp b->fp' b):MapAt w M' fp' T h n has f it:=by
  obtain⟨ok,b,D,h1,h2,h3,h4,h5⟩:=hm;refine⟨ok,b,D,h1,hM b h3,hf b h3,h4,?_⟩;cases it with|none=>exact h5|some x =>obtain⟨r,left,cnt,cur,pd⟩:=x;cases pd with|none =>have h5:M r/\fp r/\MRange w T b n D f ⟨r,left,cnt,cur,none⟩:=h5;exact⟨hM _ h5.2.1,hf _ h5.2.1,h5.2.2⟩|some s=>exact h5
theorem MapAt.close{w:World}{M fp:Nat->Prop}{T:MT}{h:Value}{n:Nat}{has:KA T.K->Bool}{f:KA T.K->KA T.V}{it:Option (MIt T.K)}(hm:MapAt w M fp T h n has f it):MapAt w M fp T h n has f none:=by
 obtain⟨ok,b,D,h1,h2,h3,h4,h5⟩:=hm;refine⟨ok,b,D,h1,h2,h3,h4,?_⟩;cases it with|none=>exact h5|some x =>obtain⟨r,left,cnt,cur,pd⟩:=x;cases pd with|none =>have h5:M r/\fp r/\MRange w T b n D f ⟨r,left,cnt,cur,none⟩:=h5;obtain⟨L,hL,_⟩:=h5.2.2.rg;exact hL.owns|some s =>have h5:w.ownsMap T.P T.k heldR b n D/\∃k,cur=some k/\PendV w T h k s:=h5;exact h5.1
def MpEq(T:MT)(n:Nat)(has:KA T.K->Bool)(f:KA T.K->KA T.V)(it:Option (MIt T.K))(T':MT)(n':Nat)(has':KA T'.K->Bool)(f':KA T'.K->KA T'.V)(it':Option (MIt T'.K)):Prop:=
 ∃h:T'=T,n'<=n/\(∀a,has (h▸a)=has' a)/\(∀a,f (h▸a)=h▸(f' a))/\match it with
  |none=>True
  |some x=>∃x',it'=some x'/\x.r=x'.r/\x.cnt=x'.cnt/\(∀a,x.left (h▸a)=x'.left a)/\(∀a,x.cur=some (h▸a)->x'.cur=some a)/\x.pd=none/\x'.pd=none
theorem MpEq.mk'{T:MT}{n n':Nat}{has has':KA T.K->Bool}{f f':KA T.K->KA T.V}{it':Option (MIt T.K)}(h1:n'<=n)(h2:∀a,has a=has' a)(h3:∀a,f a=f' a):MpEq T n has f none T n' has' f' it':=
 ⟨rfl,h1,h2,h3,trivial⟩
theorem MpEq.mkIt{T:MT}{n n' r r' cnt cnt':Nat}{has has' left left':KA T.K->Bool}{f f':KA T.K->KA T.V}{cur':Option (KA T.K)}(h1:n'<=n)(h2:∀a,has a=has' a)(h3:∀a,f a=f' a)(h4:r=r')(h5:cnt=cnt')(h6:∀a,left a=left' a) :
 MpEq T n has f (some ⟨r,left,cnt,none,none⟩) T n' has' f' (some ⟨r',left',cnt',cur',none⟩):=
 ⟨rfl,h1,h2,h3,_,rfl,h4,h5,h6,(λa h=>by cases h),rfl,rfl⟩
theorem MpEq.apply{w:World}{M fp:Nat->Prop}{T T':MT}{h:Value}{n n':Nat}{has:KA T.K->Bool}{f:KA T.K->KA T.V}{it:Option (MIt T.K)}{has':KA T'.K->Bool}{f':KA T'.K->KA T'.V}{it':Option (MIt T'.K)}
 (e:MpEq T n has f it T' n' has' f' it') (hm:MapAt w M fp T' h n' has' f' it'):MapAt w M fp T h n has f it:=by
  obtain⟨hT,e1,e2,e3,e4⟩:=e;subst hT;have e2':has=has':=funext e2;have e3':f=f':=funext e3;subst e2' e3';cases it with|none =>obtain⟨ok,b,D,h1,h2,h3,h4,h5⟩:=hm.close;exact⟨ok,b,D,h1,h2,h3,h4,World.ownsMap.mono h5 e1⟩|some x =>obtain⟨x',rfl,e5,e6,e7,e8,e9,e10⟩:=e4;obtain⟨ok,b,D,h1,h2,h3,h4,h5⟩:=hm;obtain⟨r,left,cnt,cur,pd⟩:=x;obtain⟨r',left',cnt',cur',pd'⟩:=x';simp only at e5 e6 e7 e8 e9 e10 h5;subst e5 e6 e9 e10;have h5:M r/\fp r/\MRange w _ b n' D f ⟨r,left',cnt,cur',none⟩:=h5;have e7':left=left':=funext e7;subst e7';obtain⟨L,hL,hl⟩:=h5.2.2.rg;refine⟨ok,b,D,h1,h2,h3,h4,h5.1,h5.2.1,⟨L,?_,hl⟩,h5.2.2.off,λa ha=>h5.2.2.cur a (e8 a ha)⟩;obtain⟨es,clock,since,seen,c0,q1,q2,q3,q4⟩:=hL;exact⟨es,clock,since,seen,c0,q1,q2,kf q3 e1,q4⟩
theorem MapAt.lookup{w:World}{M fp:Nat->Prop}{T:MT}{h:Value}{n:Nat}{has:KA T.K->Bool}{f:KA T.K->KA T.V}{it:Option (MIt T.K)}(hm:MapAt w M fp T h n has f it){a:KA T.K}(ha:KA.wf T.K a) :
 (Instr.lookup T.t h (T.valK a) false).run T.P w=.ok (T.valE (f a)) w/\(Instr.lookup T.t h (T.valK a) true).run T.P w=.ok (.tuple #[T.valE (f a),.bool (has a)]) w:=by
  obtain⟨ok,b,D,rfl,h2,h3,h4,h5⟩:=hm.close;obtain⟨l,hl⟩:=ok.lit a ha;have hat:=h4.at_ a l hl;have key:D.atKey l (.held (T.valE (KA.zero T.V)))=.held (T.valE (f a)):=by cases hh:has a with|true=>exact hat.2 hh _|false =>rw[Go.Maps.atKey_of_not_has (by rw[hat.1,hh]),h4.zero a hh]
  constructor;obtain⟨v,ps,hrun,hv⟩:=World.ownsMap.lookup h5 ok.key ok.map (ok.zero w) (R:=heldR) rfl hl;rw[key] at hv;cases hv;exact hrun;obtain⟨v,ps,hrun,hv⟩:=World.ownsMap.look_ok h5 ok.key ok.map (ok.zero w) (R:=heldR) rfl hl;rw[key] at hv;cases hv;rw[<- hat.1];exact hrun
theorem Qfn{T:MT}(ok:T.Ok){a b:KA T.K}{l:Lit}(h1:keyOf T.P T.k (T.valK a)=some l)(h2:keyOf T.P T.k (T.valK b)=some l):T.valK a=T.valK b:=ok.key.inj h1 h2
theorem CK.val_inj(c:CK){x y:c.α}(h:c.val x=c.val y):x=y:=by
 cases c with|i k=>exact(Value.int.inj h).2|s=>exact Value.string.inj h|b=>exact Value.bool.inj h
theorem KA.vals_inj:∀(K:List CK) {x y:KA K},KA.vals K x=KA.vals K y->x=y
 |[],_,_,_=>rfl
 |[c],x,y,h=>by simp only[KA.vals,List.cons.injEq,and_true] at h;exact c.val_inj h
 |c::d::r,x,y,h=>by
  simp only[KA.vals,List.cons.injEq] at h;exact Prod.ext (c.val_inj h.1) (KA.vals_inj (d::r) h.2)
theorem KA.vals_len:∀(K:List CK) (x:KA K),(KA.vals K x).length=K.length
 |[],_=>rfl
 |[c],_=>rfl
 |c::d::r,x=>by
  simp only[KA.vals,kj,KA.vals_len (d::r) x.2]
theorem Qai{agg:Bool}{K:List CK}(h1:agg=true\/K.length=1){x y:KA K}(h:mkVal agg (KA.vals K x)=mkVal agg (KA.vals K y)):x=y:=by
 unfold mkVal at h;split at h;exact KA.vals_inj K W259;rename_i hf;have hl:K.length=1:=by rcases h1 with h1|h1;exact absurd h1 hf;exact h1
 match K,x,y,h,hl with|[c],x,y,h,_=>exact c.val_inj (by simpa[KA.vals] using h)
theorem Qcf{T:MT}(ok:T.Ok){a b:KA T.K}(h:T.valK a=T.valK b):a=b:=Qai ok.one h
theorem MapAt.update{w:World}{M fp:Nat->Prop}{T:MT}{h:Value}{n:Nat}{has:KA T.K->Bool}{f:KA T.K->KA T.V}{it:Option (MIt T.K)}(hm:MapAt w M fp T h n has f it){a:KA T.K}(ha:KA.wf T.K a)(x:KA T.V)(hn:n<maxLen) :
 ∃(b:Nat) (w':World),h=.map (some b)/\(Instr.mapUpdate T.t h (T.valK a) (T.valE x)).run T.P w=.ok () w'/\w.grownBy w' (some b)/\M b/\fp b/\MapAt w' M fp T h (n+1) (λq=>decide (q=a)||has q) (λq=>if q=a then x else f q) none:=by
  obtain⟨ok,b,D,rfl,h2,h3,h4,h5⟩:=hm.close;obtain⟨l,hl⟩:=ok.lit a ha;obtain⟨w',hrun,how,hgr⟩:=World.ownsMap.update h5 ok.key ok.map hn hl (val:=T.valE x) (R:=heldR) rfl;refine⟨b,w',rfl,hrun,hgr,h2,h3,ok,b,_,rfl,h2,h3,⟨λq lq hq=>?_,λq hq=>?_,λq hq=>?_⟩,how⟩;by_cases e:q=a;subst e;have:lq=l:=Option.some.inj (hq.symm.trans hl);subst this;refine⟨by rw[Go.Maps.has_put_same (World.ownsMap.isMap h5) (ok.key.key hl)];simp,λ_ z=>?_⟩;rw[Go.Maps.atKey_put_same (World.ownsMap.isMap h5) (ok.key.key hl),if_pos rfl];have hne:lq≠l:=λe1=>e (Qcf ok (Qfn ok hq (e1▸hl)));have:=h4.at_ q lq hq;simp_all[Go.Maps.has_put_other,Go.Maps.atKey_put_other,if_neg];have e:q≠a:=λe=>by subst e;rw[hl] at hq;cases hq
  simp[e,h4.off q hq];by_cases e:q=a;simp[e] at hq;rw[if_neg e];exact h4.zero q (by simpa[e] using hq)
theorem MapAt.made{w:World}{M fp:Nat->Prop}{T:MT}(ok:T.Ok)(hM:M w.heap.size)(hf:fp w.heap.size):MapAt (w.alloc (.map #[] 0)) M fp T (.map (some w.heap.size)) 0 (λ_=>false) (λ_=>KA.zero T.V) none:=
 ⟨ok,_,_,rfl,hM,hf,⟨λa l _=>⟨rfl,λh=>by cases h⟩,λ_ _=>rfl,λ_ _=>rfl⟩,World.ownsMap_made w T.P T.k heldR⟩
theorem MapAt.range{w:World}{M fp:Nat->Prop}{T:MT}{h:Value}{n:Nat}{has:KA T.K->Bool}{f:KA T.K->KA T.V}(hm:MapAt w M fp T h n has f none){M' fp':Nat->Prop}(hM:∀b,M b->M' b)(hf:∀b,fp b->fp' b)
 (hM':M' w.heap.size) (hf':fp' w.heap.size) :
 ∃(w':World) (cnt:Nat),(Instr.range T.t h).run T.P w=.ok (itPtr w.heap.size) w'/\w.grownBy w' none/\w'.heap.size=w.heap.size+1/\MapAt w' M' fp' T h n has f (some ⟨w.heap.size,has,cnt,none,none⟩):=by
  obtain⟨ok,b,D,rfl,h2,h3,h4,h5⟩:=hm;obtain⟨w',hrun,hrg,hgr,hsz⟩:=World.ownsMap.range h5 ok.key ok.map;exact⟨w',Go.Maps.size D,hrun,hgr,hsz,ok,b,D,rfl,hM b h2,hf b h3,h4,hM',hf',⟨_,hrg,λa l hl=>(h4.at_ a l hl).1⟩,h4.off,λa ha=>by cases ha⟩
theorem MapAt.next{w:World}{M fp:Nat->Prop}{T:MT}{h:Value}{n:Nat}{has:KA T.K->Bool}{f:KA T.K->KA T.V}{it:MIt T.K}(hm:MapAt w M fp T h n has f (some it))(hpd:it.pd=none)(ty:TypeId) :
 ((∀a,it.left a=false)/\(Instr.next (itPtr it.r) false ty).run T.P w=.ok (.tuple #[.bool false]) w) \/
 ∃(a:KA T.K) (w':World) (cnt':Nat),KA.wf T.K a/\it.left a=true/\has a=true/\cnt'<it.cnt/\(Instr.next (itPtr it.r) false ty).run T.P w=.ok (.tuple #[.bool true,T.valK a,T.valE (f a)]) w'/\M it.r/\fp it.r/\w.grownBy w' (some it.r)/\w'.heap.size=w.heap.size /\
  MapAt w' M fp T h n has f (some ⟨it.r,λq=>it.left q&&!decide (q=a),cnt',some a,none⟩):=by
   obtain⟨ok,b,D,rfl,h2,h3,h4,hit⟩:=hm;obtain⟨h5,h6,h7⟩:M it.r/\fp it.r/\MRange w T b n D f it:=by simp_all[ItAt,some]
   obtain⟨L,hL,hl⟩:=h7.rg;rcases World.ranges.next hL ok.key ty with⟨_,hleft,hrun⟩|⟨key,v,kl,y,w',cnt',hkey,hk,hv,hat,hrun,hrg,hlt,hgr,hsz,hen⟩;refine .inl ⟨λa=>?_,hrun⟩;cases hka:keyOf T.P T.k (T.valK a) with|none=>exact h7.off a hka|some l=>rw[<- hl a l hka];exact hleft l
   obtain⟨a,hwf,rfl⟩:=ok.inv key kl hkey;have hla:it.left a=true:=by rw[<- hl a kl hkey];exact hk
   have hv':v=T.valE (f a):=by have h0:=h4.at_ a kl hkey;have h1:=h0.2 (by rw[<- h0.1];exact Go.Maps.has_true_of_atKey hat) (.held v);rw[hat] at h1;cases hv;exact DataW.held.inj h1
   subst hv';refine .inr ⟨a,w',cnt',hwf,hla,by rw[<- (h4.at_ a kl hkey).1];exact Go.Maps.has_true_of_atKey hat,hlt,hrun,h5,h6,hgr,hsz,ok,b,D,rfl,h2,h3,h4,h5,h6,⟨_,hrg,λq l hq=>?_⟩,λq hq=>?_,λq hq=>?_⟩;show(L l&&!l.sameKey kl)=(it.left q&&!decide (q=a));rw[hl q l hq];by_cases e:q=a;subst e;have:l=kl:=Option.some.inj (hq.symm.trans hkey);subst this;rw[WideAt.sameKey_self (ok.key.key hkey)];simp;have hne:l.sameKey kl=false:=Go.Maps.sameKey_ne (λe1=>e (Qcf ok (Qfn ok hq (e1▸hkey))));rw[hne];simp[e];simp[h7.off q hq];cases hq;exact hen
section
variable {w:World}
open Go.ChangeMaps (setBlock modify_eq_set) in
theorem Qcg{P:Program}{k e t:TypeId}{b:Nat}{es:Array MapEntry}{clock:Nat}{z:Value}{H:Type}{R:Value->Option (DataW H×List MemPlace)}(K:Go.Maps.Keyed P k)(ht:P.underlying t=some (.map k e))(hz:∀u:World,(zeroValue e).run P u=.ok z u)
 (hb:w.heap[b]?=some (.map es clock)) (F:Go.WideElems.Fit P k R es clock) {key:Value} {kl:Lit} (hkey:keyOf P k key=some kl) :
 ∃(v0:Value) (st:Nat) (es1:Array MapEntry) (clock1:Nat),(Instr.mapEntry t (.map (some b)) key).run P w=.ok (.tuple #[v0,goInt st]) (setBlock w b (.map es1 clock1)) /\
  (Instr.lookup t (.map (some b)) key false).run P w=.ok v0 w/\(Instr.mapUpdate t (.map (some b)) key v0).run P w=.ok () (setBlock w b (.map es1 clock1))/\∃e1,e1∈es1.toList/\e1.key=key/\e1.born=st:=by
   rcases K.find w hkey es.toList F.keys with⟨h1,h2⟩|⟨j,e0,h1,h2,h3⟩;refine⟨z,clock,es.push ⟨key,z,clock⟩,clock+1,?_,?_,?_,⟨key,z,clock⟩,by simp,rfl,rfl⟩;simp[Instr.mapEntry,run_underlying ht,MapKept.run_getObj_map hb,K.check w false hkey,h1,hz,MapKept.run_setObj_map _ hb,kA,setBlock];simp[Instr.lookup,run_underlying ht,MapKept.run_getObj_map hb,K.check w _ hkey,h1,hz,kA];simp[Instr.mapUpdate,run_underlying ht,MapKept.run_getObj_map hb,K.check w false hkey,h1,MapKept.run_setObj_map _ hb,kA,setBlock];have hj:es[j]?=some e0:=by simpa using h2
   have hsame:∀u,u=e0->es.modify j (λ_=>u)=es:=λu hu=>by grind
   have hs1:es.modify j (λe=>{ e with key:=key })=es:=by apply Array.ext';rw[Array.toList_modify,modify_eq_set _ _ _ _ h2];(have:({ e0 with key:=key }:MapEntry)=e0:=by rw[<- h3]);rw[this];exact Go.WideElems.set_self _ _ _ h2
   have hs2:es.modify j (λe=>{ e with key:=key,val:=e0.val })=es:=by grind[Array.ext',Array.toList_modify,modify_eq_set,MapEntry,Go.WideElems.set_self]
   refine⟨e0.val,e0.born,es,clock,?_,?_,?_,e0,jB h2,h3,rfl⟩;simp[Instr.mapEntry,run_underlying ht,MapKept.run_getObj_map hb,K.check w false hkey,h1,hj,h3,K.stays w hkey,hs1,MapKept.run_setObj_map _ hb,kA,setBlock];simp[Instr.lookup,run_underlying ht,MapKept.run_getObj_map hb,K.check w _ hkey,h1,kA];simp[Instr.mapUpdate,run_underlying ht,MapKept.run_getObj_map hb,K.check w false hkey,h1,hj,h3,K.stays w hkey,hs2,MapKept.run_setObj_map _ hb,kA,setBlock]
theorem Qaj:∀{l:List MapEntry} {a b:MapEntry},(l.map (·.key)).Nodup->a∈l->b∈l->a.key=b.key->a=b
 |[],_,_,_,ha,_,_=>by cases ha
 |x::r,a,b,h,ha,hb,e=>by
  rw[jW,List.nodup_cons] at h;rcases List.mem_cons.1 ha with q|ha<;>rcases List.mem_cons.1 hb with p|hb;rw[q,p];grind;grind;exact Qaj h.2 ha hb e
open Go.ChangeMaps (setBlock modify_eq_set) in
theorem Qch{P:Program}{k e t:TypeId}{b:Nat}{es:Array MapEntry}{clock:Nat}{H:Type}{R:Value->Option (DataW H×List MemPlace)}(K:Go.Maps.Keyed P k)(ht:P.underlying t=some (.map k e))
 (hb:w.heap[b]?=some (.map es clock)) (F:Go.WideElems.Fit P k R es clock) {key:Value} {kl:Lit} (hkey:keyOf P k key=some kl) {e1:MapEntry} (hm:e1∈es.toList) (hk:e1.key=key) (val:Value) :
 (Instr.entryStore t (.map (some b)) (goInt e1.born) val).run P w=(Instr.mapUpdate t (.map (some b)) key val).run P w:=by
  obtain⟨s1,s2,_⟩:=F.stamped;rcases K.find w hkey es.toList F.keys with⟨h1,h2⟩|⟨j,e0,h1,h2,h3⟩;exact absurd hk (h2 e1 hm);have hj:es[j]?=some e0:=by simpa using h2
  have hidx:es.findIdx? (λe=>((e.born:Nat):Int)==((e0.born:Nat):Int))=some j:=by rw[Go.WideElems.findIdx_arr];exact Go.WideElems.findIdx_born s2 h2
  have hee:e1.born=e0.born:=by grind[Qaj,jB]
  have hmod:es.modify j (λe=>{ e with val:=val })=es.modify j (λe'=>{ e' with key:=key,val:=val }):=by grind
  rw[hee];simp[Instr.entryStore,Instr.mapUpdate,run_underlying ht,K.check w false hkey,h1,hj,h3,K.stays w hkey,MapKept.run_getObj_map hb,asInt,asIntOf,goInt,hidx,hmod,MapKept.run_setObj_map _ hb,kA,setBlock]
end
theorem MapAt.entry{w:World}{M fp:Nat->Prop}{T:MT}{h:Value}{n:Nat}{has:KA T.K->Bool}{f:KA T.K->KA T.V}{it:Option (MIt T.K)}(hm:MapAt w M fp T h n has f it){a:KA T.K}(ha:KA.wf T.K a)(hn:n<maxLen) :
 ∃(b:Nat) (w':World) (s:Nat),h=.map (some b)/\(Instr.mapEntry T.t h (T.valK a)).run T.P w=.ok (.tuple #[T.valE (f a),goInt s]) w'/\w.grownBy w' (some b)/\M b/\fp b/\MapAt w' M fp T h (n+1) (λq=>decide (q=a)||has q) f (some ⟨0,λ_=>false,0,some a,some (s:Int)⟩):=by
  obtain⟨b,w',h1,h2,h3,h4,h5,h6⟩:=hm.update ha (f a) hn;have hlook:=(hm.lookup ha).1;have hfe:(λq=>if q=a then f a else f q)=f:=by grind
  rw[hfe] at h6;obtain⟨ok,b',D,e1,g2,g3,g4,g5⟩:=hm.close;subst h1;cases e1;obtain⟨l,hl⟩:=ok.lit a ha;obtain⟨es,clock,hb,F,_,_⟩:=g5;obtain⟨v0,st,es1,clock1,k1,k2,k3,e1,k4,k5,k6⟩:=Qcg ok.key ok.map ok.zero hb F hl;rw[k2] at hlook;cases hlook;rw[k3] at h2;cases h2;obtain⟨ok',b2,D',e2,m2,m3,m4,m5⟩:=h6;cases e2;exact⟨b,_,st,rfl,k1,h3,h4,h5,ok',b,D',rfl,m2,m3,m4,m5,a,rfl,b,es1,clock1,e1,rfl,Go.ChangeMaps.heap_setBlock_same hb _,k4,k5,by rw[k6]⟩
theorem MapAt.estore{w:World}{M fp:Nat->Prop}{T:MT}{h:Value}{n r cnt:Nat}{has left:KA T.K->Bool}{f:KA T.K->KA T.V}{a:KA T.K}{s:Int}(hm:MapAt w M fp T h n has f (some ⟨r,left,cnt,some a,some s⟩))(ha:KA.wf T.K a)(x:KA T.V)(hn:n<maxLen) :
 ∃(b:Nat) (w':World),h=.map (some b)/\(Instr.entryStore T.t h (.int .i64 s) (T.valE x)).run T.P w=.ok () w'/\w.grownBy w' (some b)/\M b/\fp b/\MapAt w' M fp T h (n+1) (λq=>decide (q=a)||has q) (λq=>if q=a then x else f q) none:=by
  obtain⟨b,w',h1,h2,h3,h4,h5,h6⟩:=hm.update ha x hn;refine⟨b,w',h1,?_,h3,h4,h5,h6⟩;obtain⟨ok,b',D,e1,g2,g3,g4,g5⟩:=hm;have g5:w.ownsMap T.P T.k heldR b' n D/\∃k,some a=some k/\PendV w T h k s:=g5;obtain⟨g6,k,ek,hp⟩:=g5;cases ek;subst h1;cases e1;obtain⟨l,hl⟩:=ok.lit a ha;obtain⟨es,clock,hb,F,_,_⟩:=g6;obtain⟨b2,es2,clock2,e2,q1,q2,q3,q4,q5⟩:=hp;cases q1;rw[hb] at q2;cases q2;rw[<- h2,<- q5];exact Qch ok.key ok.map hb F hl q3 q4 (T.valE x)
end Go.Tx
namespace Go.Tx
open Go
structure MT.OkV(T:MT)(z:Value):Prop where
 map:T.P.underlying T.t=some (.map T.k T.e)
 key:Go.Maps.Keyed T.P T.k
 lit:∀a:KA T.K,KA.wf T.K a->∃l,keyOf T.P T.k (T.valK a)=some l
 one:T.kAgg=true\/T.K.length=1
 zero:∀w,(zeroValue T.e).run T.P w=.ok z w
structure MT.RepV(T:MT)(z:Value)(has:KA T.K->Bool)(f:KA T.K->Value)(D:DataW Value):Prop where
 at_:∀a l,keyOf T.P T.k (T.valK a)=some l->Go.Maps.has D l=has a/\(has a=true->∀y,D.atKey l y=.held (f a))
 zero:∀a,has a=false->f a=z
def MapV(w:World)(M fp:Nat->Prop)(T:MT)(z h:Value)(n:Nat)(has:KA T.K->Bool)(f:KA T.K->Value):Prop:=
 T.OkV z/\∃b D,h=.map (some b)/\M b/\fp b/\T.RepV z has f D/\w.ownsMap T.P T.k heldR b n D
section
variable {w w':World} {M M' fp fp':Nat->Prop} {T:MT} {z h:Value} {n:Nat} {has:KA T.K->Bool} {f:KA T.K->Value}
theorem MapV.world(hm:MapV w M fp T z h n has f)(hb:∀b,fp b->h=.map (some b)->b<w.heap.size->w'.heap[b]?=w.heap[b]?):MapV w' M fp T z h n has f:=by
 obtain⟨ok,b,D,h1,h2,h3,h4,h5⟩:=hm;exact⟨ok,b,D,h1,h2,h3,h4,Q0u h5 (hb b h3 h1 (World.ownsMap.lt h5))⟩
theorem MapV.reM(hm:MapV w M fp T z h n has f)(hM:∀b,fp b->M' b)(hf:∀b,fp b->fp' b):MapV w M' fp' T z h n has f:=by
 obtain⟨ok,b,D,h1,h2,h3,h4,h5⟩:=hm;exact⟨ok,b,D,h1,hM b h3,hf b h3,h4,h5⟩
theorem MapV.lookup(hm:MapV w M fp T z h n has f){a:KA T.K}(ha:KA.wf T.K a):(Instr.lookup T.t h (T.valK a) false).run T.P w=.ok (f a) w:=by
 obtain⟨ok,b,D,rfl,h2,h3,h4,h5⟩:=hm;obtain⟨l,hl⟩:=ok.lit a ha;have hat:=h4.at_ a l hl;have key:D.atKey l (.held z)=.held (f a):=by cases hh:has a with|true=>exact hat.2 hh _|false=>rw[Go.Maps.atKey_of_not_has (by rw[hat.1,hh]),h4.zero a hh]
 obtain⟨v,ps,hrun,hv⟩:=World.ownsMap.lookup h5 ok.key ok.map (ok.zero w) (R:=heldR) rfl hl;rw[key] at hv;cases hv;exact hrun
theorem MapV.update(hm:MapV w M fp T z h n has f){a:KA T.K}(ha:KA.wf T.K a)(x:Value)(hn:n<maxLen) :
 ∃(b:Nat) (w':World),h=.map (some b)/\(Instr.mapUpdate T.t h (T.valK a) x).run T.P w=.ok () w'/\w.grownBy w' (some b)/\M b/\fp b/\MapV w' M fp T z h (n+1) (λq=>decide (q=a)||has q) (λq=>if q=a then x else f q):=by
  obtain⟨ok,b,D,rfl,h2,h3,h4,h5⟩:=hm;obtain⟨l,hl⟩:=ok.lit a ha;obtain⟨w',hrun,how,hgr⟩:=World.ownsMap.update h5 ok.key ok.map hn hl (val:=x) (R:=heldR) rfl;refine⟨b,w',rfl,hrun,hgr,h2,h3,ok,b,_,rfl,h2,h3,⟨λq lq hq=>?_,λq hq=>?_⟩,how⟩;by_cases e:q=a;subst e;have:lq=l:=Option.some.inj (hq.symm.trans hl);subst this;refine⟨by rw[Go.Maps.has_put_same (World.ownsMap.isMap h5) (ok.key.key hl)];simp,λ_ y=>?_⟩;rw[Go.Maps.atKey_put_same (World.ownsMap.isMap h5) (ok.key.key hl),if_pos rfl];have hne:lq≠l:=λe1=>e (Qai ok.one (ok.key.inj hq (e1▸hl)));have:=h4.at_ q lq hq;simp_all[Go.Maps.has_put_other,Go.Maps.atKey_put_other,if_neg];by_cases e:q=a;simp[e] at hq;rw[if_neg e];exact h4.zero q (by simpa[e] using hq)
theorem MapV.made(ok:T.OkV z)(hM:M w.heap.size)(hf:fp w.heap.size):MapV (w.alloc (.map #[] 0)) M fp T z (.map (some w.heap.size)) 0 (λ_=>false) (λ_=>z):=
 ⟨ok,_,_,rfl,hM,hf,⟨λa l _=>⟨rfl,λh=>by cases h⟩,λ_ _=>rfl⟩,World.ownsMap_made w T.P T.k heldR⟩
theorem PendV.world{a:KA T.K}{s:Int}(hp:PendV w T h a s)(hm:MapV w M fp T z h n has f)(hb:∀b,fp b->b<w.heap.size->w'.heap[b]?=w.heap[b]?):PendV w' T h a s:=by
 obtain⟨b,es,clock,e,rfl,h2,h3,h4,h5⟩:=hp;obtain⟨_,b',D,e1,_,hf,_⟩:=hm;cases e1;refine⟨b,es,clock,e,rfl,?_,h3,h4,h5⟩;grind
theorem MapV.entry(hm:MapV w M fp T z h n has f){a:KA T.K}(ha:KA.wf T.K a)(hn:n<maxLen) :
 ∃(b:Nat) (w':World) (s:Nat),h=.map (some b)/\(Instr.mapEntry T.t h (T.valK a)).run T.P w=.ok (.tuple #[f a,goInt s]) w'/\w.grownBy w' (some b)/\M b/\fp b/\MapV w' M fp T z h (n+1) (λq=>decide (q=a)||has q) f/\PendV w' T h a s:=by
  obtain⟨b,w',h1,h2,h3,h4,h5,h6⟩:=hm.update ha (f a) hn;have hlook:=hm.lookup ha;have hfe:(λq=>if q=a then f a else f q)=f:=by grind
  rw[hfe] at h6;obtain⟨ok,b',D,e1,g2,g3,g4,g5⟩:=hm;subst h1;cases e1;obtain⟨l,hl⟩:=ok.lit a ha;obtain⟨es,clock,hb,F,_,_⟩:=g5;obtain⟨v0,st,es1,clock1,k1,k2,k3,e1,k4,k5,k6⟩:=Qcg ok.key ok.map ok.zero hb F hl;rw[k2] at hlook;cases hlook;rw[k3] at h2;cases h2;exact⟨b,_,st,rfl,k1,h3,h4,h5,h6,b,es1,clock1,e1,rfl,Go.ChangeMaps.heap_setBlock_same hb _,k4,k5,by rw[k6]⟩
theorem MapV.store(hm:MapV w M fp T z h n has f){a:KA T.K}(ha:KA.wf T.K a){s:Int}(hp:PendV w T h a s)(x:Value)(hn:n<maxLen) :
 ∃(b:Nat) (w':World),h=.map (some b)/\(Instr.entryStore T.t h (.int .i64 s) x).run T.P w=.ok () w'/\w.grownBy w' (some b)/\M b/\fp b/\MapV w' M fp T z h (n+1) (λq=>decide (q=a)||has q) (λq=>if q=a then x else f q):=by
  obtain⟨b,w',h1,h2,h3,h4,h5,h6⟩:=hm.update ha x hn;refine⟨b,w',h1,?_,h3,h4,h5,h6⟩;obtain⟨ok,b',D,e1,g2,g3,g4,g5⟩:=hm;subst h1;cases e1;obtain⟨l,hl⟩:=ok.lit a ha;obtain⟨es,clock,hb,F,_,_⟩:=g5;obtain⟨b2,es2,clock2,e2,q1,q2,q3,q4,q5⟩:=hp;cases q1;rw[hb] at q2;cases q2;rw[<- h2,<- q5];exact Qch ok.key ok.map hb F hl q3 q4 x
end
inductive TC where
 |val (x:Value)
 |sub (ty size n:Nat) (f:Nat->Nat->TC)
 |any
def nthV:List Value->Nat->Option Value
 |[],_=>none
 |x::_,0=>some x
 |_::r,n+1=>nthV r n
def valT(l:List Value)(j:Nat):TC:=match nthV l j with
 |some x=>.val x
 |none=>.any
theorem Q2f:∀(l:List Value) (i:Nat),nthV l i=l[i]?
 |[],_=>rfl
 |_::_,0=>rfl
 |_::r,n+1=>by
  show nthV r n=_;rw[Q2f r n];simp
def rowT(size:Nat)(l:List Value)(i j:Nat):TC:=match kv j size with
 |true=>.val (l.getD (i * size+j) undef)
 |false=>.any
inductive C where
 |i (k:IntKind) (n:Int)
 |b (x:Bool)
 |t (x:Bool)
 |v (x:Value)
 |p (r off:Nat)
 |h (r:Nat)
 |e (r sz ix off:Nat)
 |fn (f:Nat) (bnd:Bool) (caps:List Nat)
 |ar (r sz0 ix0 off sz len ix off2:Nat)
 |hs (r lo n:Nat)
inductive SV where
 |c (x:C)
 |agg (cs:List C)
 |tup (vs:List (Bool×List C))
 |u
structure Ent where
 h:Value
 fp:Nat->Prop
abbrev Env:=List Ent
def haddr:Value->Addr
 |.pointer (some a)=>a
 |.slice (some a) _ _=>a
 |_=>⟨0,0,none⟩
def bk:Value->Option Nat
 |.pointer (some a)=>some a.block
 |.slice (some a) _ _=>some a.block
 |.map (some r)=>some r
 |_=>none
def Env.ent(ε:Env)(r:Nat):Ent:=ε.getD r ⟨.slice none 0 0,λ_=>False⟩
def Env.at_(ε:Env)(r:Nat):Value:=(ε.ent r).h
def Env.fp(ε:Env)(r:Nat):Nat->Prop:=(ε.ent r).fp
def Env.hs(ε:Env):List Value:=ε.map Ent.h
def fnDen(f:Nat)(bnd:Bool)(l:List Value):Value:=match bnd with
 |true=>.func (.func f) l.toArray #[]
 |false=>.func (.func f) #[] l.toArray
def pieceV(v:Value)(lo n:Nat):Value:=match v with
 |.slice A _ c=>.slice (A.map (·.add lo)) n (c-lo)
 |v=>v
def C.den(ε:Env):C->Value
 |.i k n=>.int k n
 |.b x=>.bool x
 |.t x=>.bool x
 |.v x=>x
 |.p r off=>.pointer (some ((haddr (ε.at_ r)).add off))
 |.h r=>ε.at_ r
 |.e r sz ix off=>.pointer (some ((haddr (ε.at_ r)).add (ix * sz+off)))
 |.fn f bnd caps=>fnDen f bnd (caps.map ε.at_)
 |.ar r sz0 ix0 off sz _ ix off2=>.pointer (some ((haddr (ε.at_ r)).add (ix0 * sz0+(off+(ix * sz+off2)))))
 |.hs r lo n=>pieceV (ε.at_ r) lo n
def denPart(ε:Env)(x:Bool×List C):Value:=
 if x.1 then .agg (x.2.map (C.den ε)).toArray else(x.2.map (C.den ε)).headD undef
def SV.den(ε:Env):SV->Value
 |.c x=>x.den ε
 |.agg cs=>.agg (cs.map (C.den ε)).toArray
 |.tup vs=>.tuple (vs.map (denPart ε)).toArray
 |.u=>undef
structure Ext where
 l:Nat
 n:Nat
 enc:Nat->SV
 G:Nat->Bool->(Nat->Prop)->World->Prop
 ro:Nat->Prop
 w0:World
inductive Reg where
 |box (ty:Nat) (cells:List C)
 |own (ty size n:Nat) (f:Nat->Nat->TC) (foc:Option (Nat×List C))
 |row (size n:Nat) (f:Nat->Nat->TC) (foc:Option (Nat×List C))
 |ro (cells:List C)
 |dead
 |one
 |froz (X:Ext)
 |mp (T:MT) (n:Nat) (has:KA T.K->Bool) (f:KA T.K->KA T.V) (it:Option (MIt T.K))
 |itr (r:Nat)
 |mpv (T:MT) (z:Value) (n:Nat) (ents:List (KA T.K×C))
 |mpr (T:MT) (ty size n:Nat) (f:KA T.K->Nat×(Nat->Nat->TC)) (opn:Option (KA T.K×Nat×Option Int))
def Reg.excl:Reg->Bool
 |.box .. |.own .. |.mp .. |.mpv .. |.mpr ..=>true
 |_=>false
def Reg.hand:Reg->Bool
 |.dead|.froz _=>false
 |_=>true
def Reg.live:Reg->Bool
 |.dead|.one|.itr _=>false
 |_=>true
structure En where
 slot:Nat
 g:List (Nat×Bool)
 sv:SV
structure St where
 N:Nat
 fr:List En
 rg:List Reg
 wr:List Nat:=[]
def RdRow(w:World)(fp:Nat->Prop)(h:Value)(size n:Nat)(ok:Nat->Nat->Value->Prop):Prop:=
 ∃A c,h=.slice A n c/\n<=c/\c<=maxLen/\(∀a,A=some a->0<n->a.block<w.heap.size/\fp a.block) /\
  (0<n->∃a,A=some a/\∀i j,i<n->j<size->∃u,w.cell? (a.add (i * size+j))=some u/\ok i j u)
def getV(els:List (List Value))(i j:Nat):Option Value:=(els[i]?).bind (·[j]?)
def OwnRow(w:World)(M fp:Nat->Prop)(ty size n:Nat)(h:Value)(ok:Nat->Nat->(Nat->Prop)->Value->Prop):Prop:=
 ∃els:List (List Value),w.ownsRow 0 ty size h n els.flatten/\els.length=n/\(∀el∈els,el.length=size)/\(∀b,bk h=some b->fp b/\M b) /\
  ∃fps:Nat->Nat->Nat->Prop,
   (∀i j,i<n->j<size->∃u,getV els i j=some u/\ok i j (fps i j) u) /\
   (∀i j b,i<n->j<size->fps i j b->fp b/\bk h≠some b) /\
   (∀i j i' j' b,i<n->j<size->i'<n->j'<size->fps i j b->fps i' j' b->i=i'/\j=j')
def RdC(w:World)(fp:Nat->Prop):TC->Value->Prop
 |.val x,v=>v=x
 |.sub _ size n f,v=>RdRow w fp v size n λi j u=>RdC w fp (f i j) u
 |.any,_=>True
def OwnC(w:World)(M:Nat->Prop):TC->(Nat->Prop)->Value->Prop
 |.val x,_,v=>v=x
 |.sub ty size n f,fp,v=>OwnRow w M fp ty size n v λi j fp' u=>OwnC w M (f i j) fp' u
 |.any,_,_=>True
def focOk(size n:Nat):Option (Nat×List C)->Prop
 |none=>True
 |some (k,cs)=>k<n/\cs.length=size
def okR(ε:Env)(w:World)(fp:Nat->Prop)(f:Nat->Nat->TC):Option (Nat×List C)->Nat->Nat->Value->Prop
 |none=>λi j u=>RdC w fp (f i j) u
 |some (k,cs)=>λi j u=>RdC w fp (f i j) u/\(i=k->∃x,cs[j]?=some x/\u=x.den ε)
def okO(ε:Env)(w:World)(M:Nat->Prop)(f:Nat->Nat->TC):Option (Nat×List C)->Nat->Nat->(Nat->Prop)->Value->Prop
 |none=>λi j fp u=>OwnC w M (f i j) fp u
 |some (k,cs)=>λi j fp u=>(i≠k->OwnC w M (f i j) fp u)/\(i=k->∃x,cs[j]?=some x/\u=x.den ε)
def entOf{K:List CK}:List (KA K×C)->KA K->Option C
 |[],_=>none
 |(a,c)::r,q=>match decide (q=a) with
   |true=>some c
   |false=>entOf r q
def entV{K:List CK}(ε:Env)(z:Value)(ents:List (KA K×C))(q:KA K):Value:=match entOf ents q with
 |some c=>c.den ε
 |none=>z
def MapR(ε:Env)(w:World)(M fp:Nat->Prop)(T:MT)(ty size:Nat)(h:Value)(n:Nat)(f:KA T.K->Nat×(Nat->Nat->TC))(opn:Option (KA T.K×Nat×Option Int)):Prop:=
 ∃(has:KA T.K->Bool) (hd:KA T.K->Value) (fb:Nat->Prop) (fps:KA T.K->Nat->Prop),MapV w M fb T (.slice none 0 0) h n has hd/\(∀b,fb b->fp b)/\(∀a b,fps a b->fp b/\¬fb b) /\
  (∀a a' b,fps a b->fps a' b->a=a')/\(∀a,opn.map (·.1)≠some a->OwnRow w M (fps a) ty size (f a).1 (hd a) (λi j fp' u=>OwnC w M ((f a).2 i j) fp' u)) /\
  ∀a q st,opn=some (a,q,st)->hd a=ε.at_ q/\(∀b,¬fps a b)/\∀s,st=some s->PendV w T h a s
def RegOk(ε:Env)(M:Nat->Prop)(w:World)(e:Ent):Reg->Prop
 |.box ty cells=>∃g,e.h=.pointer (some ⟨g,0,none⟩)/\M g/\e.fp g/\w.heap[g]?=some (.cells (cells.map (C.den ε)).toArray ty (0,0))
 |.own ty size n f foc=>OwnRow w M e.fp ty size n e.h (okO ε w M f foc)/\focOk size n foc
 |.row size n f foc=>RdRow w e.fp e.h size n (okR ε w e.fp f foc)/\focOk size n foc
 |.ro cells=>∃a,e.h=.pointer (some a)/\a.block<w.heap.size/\e.fp a.block/\∀j x,cells[j]?=some x->w.cell? (a.add j)=some (x.den ε)
 |.dead=>True
 |.one=>e.h.oneCell'=true
 |.froz X=>∀b,X.ro b->e.fp b/\b<w.heap.size/\w.heap[b]?=X.w0.heap[b]?
 |.mp T n has f it=>MapAt w M e.fp T e.h n has f it
 |.itr r=>e.h=itPtr r
 |.mpv T z n ents=>MapV w M e.fp T z e.h n (λq=>(entOf ents q).isSome) (entV ε z ents)
 |.mpr T ty size n f opn=>MapR ε w M e.fp T ty size e.h n f opn
def Sep(rg:List Reg)(ε:Env):Prop:=
 ∀i j ri rj,i≠j->rg[i]?=some ri->rg[j]?=some rj->ri.excl=true->rj.live=true->∀b,ε.fp i b->¬ε.fp j b
def get(a:Act)(t:Nat):Value:=a.tmps.getD t undef
def gHolds(a:Act)(g:List (Nat×Bool)):Prop:=∀x∈g,get a x.1=.bool x.2
def EnOk(ε:Env)(N:Nat)(a:Act)(e:En):Prop:=
 e.slot<N/\(gHolds a e.g->get a e.slot=e.sv.den ε)/\(¬gHolds a e.g->get a e.slot=undef)
structure RegsOk(ε:Env)(M L:Nat->Prop)(w:World)(rg:List Reg):Prop where
 len:ε.length=rg.length
 reg:∀i r,rg[i]?=some r->RegOk ε M w (ε.ent i) r
 lt:∀i r,rg[i]?=some r->r.live=true->∀b,ε.fp i b->b<w.heap.size/\L b
 lim:∀i r,rg[i]?=some r->r.excl=true->∀b,ε.fp i b->M b
 sep:Sep rg ε
structure Fr(m:Nat->Prop)(w w':World):Prop where
 os:w'.os=w.os
 tape:w'.tape=w.tape
 output:w'.output=w.output
 size:w.heap.size<=w'.heap.size
 block:∀k,k<w.heap.size->¬m k->w'.heap[k]?=w.heap[k]?
structure Base where
 w:World
 e:List Value
 m:Nat->Prop
 l:Nat->Prop
 ro:Option Nat:=none
 d:List Deferred:=[]
def Base.M(b:Base)(g:Nat):Prop:=b.w.heap.size<=g\/b.m g
def Base.L(b:Base)(g:Nat):Prop:=b.w.heap.size<=g\/b.l g
def inWr(n:Nat):List Nat->Bool
 |[]=>false
 |m::r=>jr n m||inWr n r
def St.rd(st:St):Bool:=inWr 1000000007 st.wr
structure SatE(b:Base)(st:St)(ε:Env)(a:Act)(w:World):Prop where
 defs:a.defers=b.d/\(st.rd=false->b.ro=none)
 size:a.tmps.size=st.N
 fr:∀e∈st.fr,EnOk ε st.N a e
 regs:RegsOk ε b.M b.L w st.rg
 below:Fr b.m b.w w
 pre:b.e <+: ε.hs
def Sat(b:Base)(st:St)(a:Act)(w:World):Prop:=∃ε:Env,SatE b st ε a w
def lookup(t:Nat):List En->Option En
 |[]=>none
 |e::r=>if jr e.slot t then some e else lookup t r
def beqB:Bool->Bool->Bool
 |true,b=>b
 |false,b=>!b
def hasG(x:Nat×Bool):List (Nat×Bool)->Bool
 |[]=>false
 |y::r=>(jr x.1 y.1&&beqB x.2 y.2)||hasG x r
def subG:List (Nat×Bool)->List (Nat×Bool)->Bool
 |[],_=>true
 |x::r,g=>hasG x g&&subG r g
def toC:Value->C
 |.int k n=>.i k n
 |.bool x=>.b x
 |x=>.v x
def constC:Value->C
 |.int k n=>.i k n
 |.bool true=>.t true
 |.bool false=>.t false
 |x=>.v x
def constS:Value->Option SV
 |.agg cs=>some (.agg (cs.toList.map constC))
 |.tuple _=>none
 |x=>some (.c (constC x))
def opnd(st:St)(g:List (Nat×Bool)):Operand->Option SV
 |.tmp t=>match lookup t st.fr with
   |some e=>if subG e.g g then some e.sv else none
   |none=>none
 |.const v=>constS v
 |.func f=>some (.c (.fn f false []))
 |.global _=>none
def opndC(st:St)(g:List (Nat×Bool))(x:Operand):Option C:=
 match opnd st g x with
 |some (.c c)=>some c
 |_=>none
def C.asBool:C->Option Bool
 |.b x=>some x
 |.t x=>some x
 |_=>none
def C.asInt:C->Option (IntKind×Int)
 |.i k n=>some (k,n)
 |_=>none
def C.asStr:C->Option ByteArray
 |.v (.string s)=>some s
 |_=>none
def tySize(P:Program)(t:Nat):Option Nat:=(P.info? t).map (·.size)
def tyZero(P:Program)(t:Nat):Option Value:=(P.info? t).bind (·.zero)
def tyBytes(P:Program)(t:Nat):Option Nat:=(P.info? t).map (·.bytes)
def isAggB(P:Program)(t:Nat):Option Bool:=
 match P.underlying t with
 |some (.struct _)|some (.array ..)=>some true
 |some _=>some false
 |none=>none
def structOf(P:Program)(t:Nat):Option (Array Field):=
 match P.underlying t with
 |some (.struct fs)=>some fs
 |_=>none
def sliceOf(P:Program)(t:Nat):Option Nat:=
 match P.underlying t with
 |some (.slice e)=>some e
 |_=>none
def arrayOf(P:Program)(t:Nat):Option (Nat×Nat):=
 match P.underlying t with
 |some (.array n e)=>some (n,e)
 |_=>none
def nth{α:Type}:List α->Nat->Option α
 |[],_=>none
 |x::_,0=>some x
 |_::r,n+1=>nth r n
def cut{α:Type}(l:List α)(off n:Nat):Option (List α):=
 match n with
 |0=>some []
 |n+1=>match nth l off,cut l (off+1) n with
   |some x,some r=>some (x::r)
   |_,_=>none
def Fits(k:IntKind)(n:Int):Prop:=k.min<=n/\n<=k.max
def bin(op:BinOp)(wraps:Bool)(k:IntKind)(a b:Int):Option (C×List Prop):=
 match op with
 |.eql=>some (.b (decide (a=b)),[])
 |.neq=>some (.b (!decide (a=b)),[])
 |.lss=>some (.b (decide (a<b)),[])
 |.leq=>some (.b (decide (a<=b)),[])
 |.gtr=>some (.b (decide (b<a)),[])
 |.geq=>some (.b (decide (b<=a)),[])
 |.add=>some (if wraps then(.i k (k.wrap (a+b)),[]) else(.i k (a+b),[Fits k (a+b)]))
 |.sub=>some (if wraps then(.i k (k.wrap (a-b)),[]) else(.i k (a-b),[Fits k (a-b)]))
 |.mul=>some (if wraps then(.i k (k.wrap (a * b)),[]) else(.i k (a * b),[Fits k (a * b)]))
 |.quo=>some (if wraps then(.i k (k.wrap (a.tdiv b)),[b≠0]) else(.i k (a.tdiv b),[b≠0,Fits k (a.tdiv b)]))
 |.rem=>some (.i k (a.tmod b),[b≠0])
 |.and=>some (.i k (bits .and k a b),[])
 |.or=>some (.i k (bits .or k a b),[])
 |.xor=>some (.i k (bits .xor k a b),[])
 |.andNot=>some (.i k (bits .andNot k a b),[])
 |_=>none
def loadFrom(P:Program)(t:Nat)(cells:List C)(off:Nat):Option SV:=
 match isAggB P t,tySize P t with
 |some true,some n=>(cut cells off n).map .agg
 |some false,_=>(nth cells off).map .c
 |_,_=>none
def tcC:TC->Option C
 |.val x=>some (toC x)
 |_=>none
def cutT(g:Nat->TC)(off:Nat):Nat->Option (List C)
 |0=>some []
 |n+1=>match tcC (g off),cutT g (off+1) n with
   |some x,some r=>some (x::r)
   |_,_=>none
def loadT(P:Program)(t size:Nat)(g:Nat->TC)(off:Nat):Option SV:=
 match isAggB P t,tySize P t with
 |some true,some n=>if kH (off+n) size then(cutT g off n).map .agg else none
 |some false,_=>if kv off size then(tcC (g off)).map .c else none
 |_,_=>none
def ints(k:IntKind):List C->Option (List Int)
 |[]=>some []
 |.i k' n::r=>if decide (k=k') then(ints k r).map (n::·) else none
 |_::_=>none
def intsOf:List C->Option (IntKind×List Int)
 |.i k n::r=>(ints k r).map λl=>(k,n::l)
 |_=>none
def strs:List C->Option (List ByteArray)
 |[]=>some []
 |.v (.string s)::r=>(strs r).map (s::·)
 |_::_=>none
def bools:List C->Option (List Bool)
 |[]=>some []
 |.b x::r=>(bools r).map (x::·)
 |.t x::r=>(bools r).map (x::·)
 |_::_=>none
def selC(col:List C)(ix:Nat):Option C:=
 match intsOf col with
 |some (k,ns)=>some (.i k (ns.getD ix 0))
 |none=>match strs col with
   |some ss=>some (.v (.string (ss.getD ix ⟨#[]⟩)))
   |none=>match bools col with
     |some bs=>some (.b (bs.getD ix false))
     |none=>none
def column(cells:List C)(off sz:Nat):Nat->Option (List C)
 |0=>some []
 |n+1=>match nth cells off,column cells (off+sz) sz n with
   |some x,some r=>some (x::r)
   |_,_=>none
def selArr(cells:List C)(off sz len ix:Nat):Nat->Option (List C)
 |0=>some []
 |n+1=>match(column cells off sz len).bind (selC · ix),selArr cells (off+1) sz len ix n with
   |some x,some r=>some (x::r)
   |_,_=>none
def loadArr(P:Program)(t:Nat)(cells:List C)(off sz len ix off2:Nat):Option (SV×List Prop):=
 match(match isAggB P t,tySize P t with
  |some true,some n=>(selArr cells (off+off2) sz len ix n).map SV.agg
  |some false,_=>((column cells (off+off2) sz len).bind (selC · ix)).map SV.c
  |_,_=>none) with
 |some s=>some (s,[ix<len])
 |none=>(loadFrom P t cells (off+(ix * sz+off2))).map (·,[])
def loadAt(P:Program)(st:St)(t:Nat):C->Option (SV×List Prop)
 |.p r off=>match nth st.rg r with
   |some (.box _ cells)=>(loadFrom P t cells off).map (·,[])
   |some (.ro cells)=>(loadFrom P t cells off).map (·,[])
   |_=>none
 |.e r sz ix off=>match nth st.rg r with
   |some (.row size n f none)=>if jr size sz then(loadT P t size (f ix) off).map (·,[ix<n]) else none
   |some (.own _ size n f none)=>if jr size sz then(loadT P t size (f ix) off).map (·,[ix<n]) else none
   |some (.row size n f (some (k,cs)))=>if jr size sz then(match loadT P t size (f ix) off with
     |some s=>some (s,[ix<n])
     |none=>(loadFrom P t cs off).map (·,[ix=k])) else none
   |some (.own _ size _ _ (some (k,cs)))=>if jr size sz then(loadFrom P t cs off).map (·,[ix=k]) else none
   |_=>none
 |.ar r sz0 ix0 off sz len ix off2=>match nth st.rg r with
   |some (.box _ cells)=>if jr sz0 0 then loadArr P t cells off sz len ix off2 else none
   |some (.ro cells)=>if jr sz0 0 then loadArr P t cells off sz len ix off2 else none
   |some (.row size _ _ (some (k,cs)))=>if jr size sz0 then(loadArr P t cs off sz len ix off2).map λx=>(x.1,x.2++[ix0=k]) else none
   |some (.own _ size _ _ (some (k,cs)))=>if jr size sz0 then(loadArr P t cs off sz len ix off2).map λx=>(x.1,x.2++[ix0=k]) else none
   |_=>none
 |_=>none
def fieldOf(P:Program)(s f:Nat):Option Field:=(structOf P s).bind λfs=>nth fs.toList f
def noZero(P:Program)(t:Nat):Bool:=match tySize P t with
 |some 0=>false
 |some _=>true
 |none=>false
def setAt{α:Type}:List α->Nat->α->Option (List α)
 |[],_,_=>none
 |_::r,0,x=>some (x::r)
 |y::r,n+1,x=>(setAt r n x).map (y::·)
def setCut{α:Type}(l:List α)(off:Nat):List α->Option (List α)
 |[]=>some l
 |x::r=>match setAt l off x with
   |some l'=>setCut l' (off+1) r
   |none=>none
def fillC(places:List (Nat×Nat))(cells:List C):List (Nat×SV)->Option (List C)
 |[]=>some cells
 |(i,v)::rest=>match nth places i,(match v with|.c x=>some [x]|.agg xs=>some xs|_=>none) with
   |some (off,sz),some xs=>if jr xs.length sz&&kH (off+sz) cells.length then
      match setCut cells off xs with
      |some cells'=>fillC places cells' rest
      |none=>none
     else none
   |_,_=>none
def opnds(st:St)(g:List (Nat×Bool)):List Operand->Option (List SV)
 |[]=>some []
 |x::r=>match opnd st g x,opnds st g r with
   |some v,some vs=>some (v::vs)
   |_,_=>none
def partsOf(st:St)(g:List (Nat×Bool)):List (Nat×Operand)->Option (List (Nat×SV))
 |[]=>some []
 |(i,x)::r=>match opnd st g x,partsOf st g r with
   |some v,some vs=>some ((i,v)::vs)
   |_,_=>none
def isVar(st:St)(r:Nat):Bool:=match nth st.rg r with
 |some (.box ..)=>true
 |some (.ro _)=>true
 |_=>false
def capOf(st:St):SV->Option Nat
 |.c (.p r 0)=>if isVar st r then some r else none
 |.c (.h r)=>some r
 |_=>none
def capsOf(st:St):List SV->Option (List Nat)
 |[]=>some []
 |v::l=>match capOf st v,capsOf st l with
   |some r,some rs=>some (r::rs)
   |_,_=>none
def zeroCells(P:Program)(t:Nat):Option (List C):=match tyZero P t with
 |some z=>some (z.cells.toList.map constC)
 |none=>none
def hasN(n:Nat):List Nat->Bool
 |[]=>false
 |m::r=>jr n m||hasN n r
def placesOf(P:Program):List Field->Option (List (Nat×Nat))
 |[]=>some []
 |f::r=>match tySize P f.type,placesOf P r with
   |some n,some l=>some ((f.offset,n)::l)
   |_,_=>none
abbrev se(n:Nat)(x:C):En:=⟨n,[],.c x⟩
def C.one:C->Bool
 |.v x=>x.oneCell'
 |.h _=>false
 |.hs ..=>false
 |_=>true
def C.one'(st:St):C->Bool
 |.h r=>match nth st.rg r with
   |some x=>x.hand
   |none=>false
 |c=>c.one
def partOne(st:St):Nat×SV->Bool
 |(_,.c x)=>x.one' st
 |_=>true
def CK.c:(c:CK)->c.α->C
 |.i k,n=>.i k n
 |.s,x=>.v (.string x)
 |.b,x=>.b x
def KA.cs:(K:List CK)->KA K->List C
 |[],_=>[]
 |[c],x=>[c.c x]
 |c::d::r,x=>c.c x.1::KA.cs (d::r) x.2
def CK.of:(c:CK)->C->Option c.α
 |.i k,.i k' n=>if decide (k=k') then(some n:Option Int) else none
 |.s,.v (.string x)=>some x
 |.b,.b x=>some x
 |.b,.t x=>some x
 |_,_=>none
def KA.of:(K:List CK)->List C->Option (KA K)
 |[],[]=>some ()
 |[c],[x]=>CK.of c x
 |c::d::r,x::xs=>match CK.of c x,KA.of (d::r) xs with
   |some a,some b=>some (a,b)
   |_,_=>none
 |_,_=>none
def kaOf(K:List CK)(agg:Bool):SV->Option (KA K)
 |.c x=>match agg with
   |true=>none
   |false=>KA.of K [x]
 |.agg xs=>match agg with
   |true=>KA.of K xs
   |false=>none
 |_=>none
def CK.vc:(c:CK)->c.α->List Prop
 |.i k,n=>[Fits k n]
 |.s,x=>[ByteArray.size x<=maxLen]
 |.b,_=>[]
def KA.vc:(K:List CK)->KA K->List Prop
 |[],_=>[]
 |[c],x=>c.vc x
 |c::d::r,x=>c.vc x.1++KA.vc (d::r) x.2
def svOf(agg:Bool)(l:List C):SV:=match agg with
 |true=>.agg l
 |false=>match l with
   |c::_=>.c c
   |[]=>.u
def ckField(P:Program):List Field->Option (List CK)
 |[]=>some []
 |f::r=>match P.underlying f.type,ckField P r with
   |some (.int k),some l=>some (.i k::l)
   |some .string,some l=>some (.s::l)
   |some .bool,some l=>some (.b::l)
   |_,_=>none
def ckOf(P:Program)(t:Nat):Option (List CK×Bool):=match P.underlying t with
 |some (.int k)=>some ([.i k],false)
 |some .string=>some ([.s],false)
 |some .bool=>some ([.b],false)
 |some (.struct fs)=>(ckField P fs.toList).map (·,true)
 |_=>none
def mtOf(P:Program)(t:Nat):Option MT:=match P.underlying t with
 |some (.map k e)=>match ckOf P k,ckOf P e with
   |some (K,ka),some (V,va)=>some ⟨P,t,k,e,K,ka,V,va⟩
   |_,_=>none
 |_=>none
def lookupC(P:Program)(st:St)(t:Nat)(m:C)(x:SV)(ok:Bool):Option (SV×List Prop):=
 match m with
 |.h r=>match nth st.rg r with
   |some (.mp T n has f it)=>match jr T.t t,kaOf T.K T.kAgg x with
     |true,some a=>some (match ok with
       |true=>.tup [(T.vAgg,KA.cs T.V (f a)),(false,[.b (has a)])]
       |false=>svOf T.vAgg (KA.cs T.V (f a)),KA.vc T.K a++[T.P=P])
     |_,_=>none
   |some (.mpv T z n ents)=>match jr T.t t,kaOf T.K T.kAgg x,ok with
     |true,some a,false=>some (.c (match entOf ents a with
       |some c=>c
       |none=>.v z),KA.vc T.K a++[T.P=P])
     |_,_,_=>none
   |some (.mpr T ty size n f (some (a',q,_)))=>match jr T.t t,kaOf T.K T.kAgg x,ok with
     |true,some a,false=>some (.c (.h q),KA.vc T.K a++[T.P=P,a'=a])
     |_,_,_=>none
   |_=>none
 |_=>none
def curOf(P:Program)(r:Nat):List Reg->Option (SV×List Prop)
 |[]=>none
 |.mp T n has f (some ⟨r',left,cnt,some a,none⟩)::_=>some (.tup [(T.kAgg,KA.cs T.K a),(T.vAgg,KA.cs T.V (f a))],[r=r',T.P=P])
 |_::l=>curOf P r l
def entryC(P:Program)(st:St)(x:C):Option (SV×List Prop):=
 match x with
 |.h j=>match nth st.rg j with
   |some (.itr r)=>curOf P r st.rg
   |_=>none
 |_=>none
def pickS(st:St)(g:List (Nat×Bool))(c a b:Operand):Option SV:=
 match c,opndC st g c with
 |_,some (.t true)=>opnd st g a
 |_,some (.t false)=>opnd st g b
 |.tmp tc,some (.b x)=>match a,b with
   |.const (.bool true),y=>match opndC st (g++[(tc,false)]) y with
     |some cy=>match cy.asBool with
       |some yb=>some (.c (.b (x||yb)))
       |none=>none
     |none=>none
   |y,.const (.bool false)=>match opndC st (g++[(tc,true)]) y with
     |some cy=>match cy.asBool with
       |some yb=>some (.c (.b (x&&yb)))
       |none=>none
     |none=>none
   |_,_=>none
 |_,_=>none
def plainField(f : Field) : Bool := f.name != "_"
def eqCellsW(P:Program)(rec:List Field->List C->List C->Option Bool):List Field->List C->List C->Option Bool
 |[],_,_=>some true
 |f::fs,xs,ys =>
   match nth xs f.offset,nth ys f.offset,P.underlying f.type,eqCellsW P rec fs xs ys with
   |some (.i k a),some (.i k' b),some (.int _),some r=>if decide (k=k') then some (decide (a=b)&&r) else none
   |some cx,some cy,some .bool,some r=>match cx.asBool,cy.asBool with
     |some x,some y=>some (decide (x=y)&&r)
     |_,_=>none
   |some cx,some cy,some .string,some r=>match cx.asStr,cy.asStr with
     |some x,some y=>some (decide (x=y)&&r)
     |_,_=>none
   |_,_,some (.struct gs),some r=>match loadFrom P f.type xs f.offset,loadFrom P f.type ys f.offset with
     |some (.agg us),some (.agg vs)=>if gs.toList.all plainField&&!P.stoodInHeld f.type then(rec gs.toList us vs).map (·&&r) else none
     |_,_=>none
   |_,_,_,_=>none
def eqCells(P:Program)(fs:List Field)(xs ys:List C):Option Bool:=eqCellsW P (eqCellsW P λ_ _ _=>none) fs xs ys
def isPtr:C->Bool
 |.p .. |.e .. |.ar ..=>true
 |_=>false
def isNilP:C->Bool
 |.v (.pointer none)=>true
 |_=>false
def isFn:C->Bool
 |.fn ..=>true
 |_=>false
def isNilF:C->Bool
 |.v .nilFunc=>true
 |_=>false
def ptrNil(P:Program)(op:BinOp)(t:Nat)(x y:C):Option (C×List Prop):=
 match P.underlying t with
 |some (.pointer _)=>if isNilP y&&(isPtr x||isNilP x) then
    match op with
    |.eql=>some (.t (isNilP x),[])
    |.neq=>some (.t (!isNilP x),[])
    |_=>none
   else none
 |some (.func _ _ _)=>if isNilF y&&(isFn x||isNilF x) then
    match op with
    |.eql=>some (.t (isNilF x),[])
    |.neq=>some (.t (!isNilF x),[])
    |_=>none
   else none
 |_=>none
def binRest(P:Program)(op:BinOp)(t:Nat)(x y:C):Option (C×List Prop):=
 match x.asBool,y.asBool,P.underlying t with
 |some x,some y,some .bool=>match op with
   |.eql=>some (.b (decide (x=y)),[])
   |.neq=>some (.b (!decide (x=y)),[])
   |_=>none
 |_,_,_=>match x.asStr,y.asStr with
   |some x,some y=>match op with
     |.eql=>some (.b (decide (x=y)),[])
     |.neq=>some (.b (!decide (x=y)),[])
     |.add=>some (.v (.string (x++y)),[((x.size+y.size:Nat):Int)<=IntKind.i64.max])
     |_=>none
   |_,_=>ptrNil P op t x y
def shlI(k:IntKind)(a b:Int):Int:=k.wrap (a * 2 ^ min b.toNat k.bits)
def shrI(k:IntKind)(a b:Int):Int:=a.fdiv (2 ^ min b.toNat k.bits)
def shiftC(op:BinOp)(k:IntKind)(a b:Int):Option (C×List Prop):=
 match op with
 |.shl=>some (.i k (shlI k a b),[0<=b])
 |.shr=>some (.i k (shrI k a b),[0<=b])
 |_=>none
def binC(P:Program)(wraps:Bool)(op:BinOp)(t:Nat)(x y:C):Option (C×List Prop):=
 match x.asInt,y.asInt with
 |some (k,a),some (k',b)=>match shiftC op k a b with
   |some r=>some r
   |none=>if decide (k=k') then bin op wraps k a b else none
 |_,_=>binRest P op t x y
def addrOff(c:C)(n:Nat):Option C:=
 match c with
 |.p r off=>some (.p r (off+n))
 |.e r sz ix off=>some (.e r sz ix (off+n))
 |.ar r sz0 ix0 off sz len ix off2=>some (.ar r sz0 ix0 off sz len ix (off2+n))
 |_=>none
def indexAddrC(P:Program)(st:St)(t:Nat)(x:C)(i:Int):Option (C×List Prop):=
 match sliceOf P t,arrayOf P t with
 |some e,_=>match x,tySize P e with
   |.h r,some sz=>match nth st.rg r with
     |some (.row size n _ _)=>if jr size sz then some (.e r sz i.toNat 0,[0<=i,i<n]) else none
     |some (.own _ size n _ _)=>if jr size sz then some (.e r sz i.toNat 0,[0<=i,i<n]) else none
     |_=>none
   |_,_=>none
 |none,some (len,e)=>match x,tySize P e with
   |.p r off,some sz=>some (.ar r 0 0 off sz len i.toNat 0,[0<=i,i<len])
   |.e r sz0 ix0 off,some sz=>some (.ar r sz0 ix0 off sz len i.toNat 0,[0<=i,i<len])
   |_,_=>none
 |_,_=>none
def isStrT(P:Program)(t:Nat):Bool:=match P.underlying t with
 |some .string=>true
 |_=>false
def indexC(P:Program)(t:Nat)(x:SV)(i:Int):Option (SV×List Prop):=
 match arrayOf P t,x with
 |some (len,e),.agg cs=>match tySize P e with
   |some sz=>(loadArr P e cs 0 sz len i.toNat 0).map λx=>(x.1,x.2++[0<=i,i<len])
   |none=>none
 |none,.c (.v (.string s))=>if isStrT P t then some (.c (.i .u8 ((s.data.toList.getD i.toNat 0).toNat:Int)),[0<=i,i<s.size]) else none
 |_,_=>none
def intOf2(st:St)(g:List (Nat×Bool))(x y:Operand):Option (IntKind×Int×Int):=
 match opndC st g x,opndC st g y with
 |some cx,some cy=>match cx.asInt,cy.asInt with
   |some (k,a),some (_,b)=>some (k,a,b)
   |_,_=>none
 |_,_=>none
def lenOfC(P:Program)(st:St)(t:Nat)(c:C):Option (Int×List Prop):=
 match sliceOf P t with
 |some _=>match c with
   |.h r=>match nth st.rg r with
     |some (.row _ n _ _)=>some (n,[])
     |some (.own _ _ n _ _)=>some (n,[])
     |_=>none
   |.v (.slice _ n _)=>some (n,[])
   |_=>none
 |none=>match isStrT P t,c.asStr with
   |true,some s=>some (s.size,[])
   |_,_=>none
def builtinC(P:Program)(st:St)(g:List (Nat×Bool))(b:Builtin)(args:List Operand)(ts:List TypeId):Option (SV×List Prop):=
 match args,ts with
 |[x],[t]=>match b,opndC st g x with
   |.len,some c=>(lenOfC P st t c).map λn=>(.c (.i .i64 n.1),n.2)
   |_,_=>none
 |[x,y],_=>match b,intOf2 st g x y with
   |.max,some (k,a,b)=>some (.c (.i k (if b>a then b else a)),[])
   |.min,some (k,a,b)=>some (.c (.i k (if b<a then b else a)),[])
   |_,_=>none
 |_,_=>none
def wraps(st:St)(o:Oper):Bool:=match o.dst with
 |some d=>hasN d st.wr
 |none=>false
def wrapOr(wr:Bool)(k:IntKind)(n:Int):SV×List Prop:=if wr then(.c (.i k (k.wrap n)),[]) else(.c (.i k n),[Fits k n])
def eqItemsC(xs ys:List C):List Nat->Option Bool
 |[]=>some true
 |i::is=>match nth xs i,nth ys i,eqItemsC xs ys is with
   |some (.i k a),some (.i k' b),some r=>if decide (k=k') then some (decide (a=b)&&r) else none
   |_,_,_=>none
def intEltB(P:Program)(e:Nat):Bool:=match P.underlying e with
 |some (.int _)=>jr (P.cellsOf e) 1&&(P.info? e).isSome
 |_=>false
def eqAggC(P:Program)(op:BinOp)(t:Nat)(xs ys:List C):Option (SV×List Prop):=
 match structOf P t with
 |some fs=>if fs.toList.all plainField&&!P.stoodInHeld t&&!P.eqGuardType P.depth t then
    match eqCells P fs.toList xs ys with
    |some r=>match op with
      |.eql=>some (.c (.b r),[])
      |.neq=>some (.c (.b !r),[])
      |_=>none
    |none=>none
   else none
 |none=>match arrayOf P t with
   |some (n,e)=>if intEltB P e&&!P.eqGuardType P.depth t then
      match eqItemsC xs ys (jv n) with
      |some r=>match op with
        |.eql=>some (.c (.b r),[])
        |.neq=>some (.c (.b !r),[])
        |_=>none
      |none=>none
     else none
   |none=>none
def buildC(P:Program)(t:Nat)(z:List C)(ps:List (Nat×SV)):Option (List C):=
 match structOf P t with
 |some fs=>match placesOf P fs.toList with
   |some places=>fillC places z ps
   |none=>none
 |none=>match arrayOf P t with
   |some (n,e)=>match tySize P e with
     |some sz=>fillC ((jv n).map λi=>(i * sz,sz)) z ps
     |none=>none
   |none=>none
def extractC(vs:List (Bool×List C))(ix:Nat):Option SV:=
 match nth vs ix with
 |some (true,cs)=>some (.agg cs)
 |some (false,c::_)=>some (.c c)
 |_=>none
def boundOf(st:St)(g:List (Nat×Bool))(x:Option Operand)(d:Int):Option Int:=
 match x with
 |none=>some d
 |some x=>match opndC st g x with
   |some (.i _ n)=>some n
   |_=>none
def pureOp(P:Program)(st:St)(g:List (Nat×Bool))(o:Oper):Option (SV×List Prop):=
 match o.op with
 |.move x=>(opnd st g x).map (·,[])
 |.assign x=>(opnd st g x).map (·,[])
 |.pick c a b=>(pickS st g c a b).map (·,[])
 |.load t a=>match opndC st g a with
   |some c=>loadAt P st t c
   |none=>none
 |.nilCheck x=>match opndC st g x with
   |some (.p r off)=>some (.c (.p r off),[])
   |some (.e r sz ix off)=>some (.c (.e r sz ix off),[])
   |some (.ar r sz0 ix0 off sz len ix off2)=>some (.c (.ar r sz0 ix0 off sz len ix off2),[])
   |some (.fn f b cs)=>some (.c (.fn f b cs),[])
   |_=>none
 |.binOp op t x y _=>match opnd st g x,opnd st g y with
   |some (.c x),some (.c y)=>(binC P (wraps st o) op t x y).map λr=>(.c r.1,r.2)
   |some (.agg xs),some (.agg ys)=>eqAggC P op t xs ys
   |_,_=>none
 |.unOp .not _ x=>match opndC st g x with
   |some (.b x)=>some (.c (.b !x),[])
   |some (.t x)=>some (.c (.t !x),[])
   |_=>none
 |.unOp .neg _ x=>match opndC st g x with
   |some (.i k n)=>some (wrapOr (wraps st o) k (0-n))
   |_=>none
 |.convert src dst x=>match P.underlying src,P.underlying dst,opndC st g x with
   |some (.int _),some (.int k),some (.i _ n)=>some (wrapOr (wraps st o) k n)
   |_,_,_=>none
 |.fieldAddr s x f=>match opndC st g x,fieldOf P s f with
   |some c,some fd=>if noZero P fd.type then(addrOff c fd.offset).map λc=>(.c c,[]) else none
   |_,_=>none
 |.field t x f=>match opnd st g x,fieldOf P t f with
   |some (.agg cs),some fd=>(loadFrom P fd.type cs fd.offset).map (·,[])
   |_,_=>none
 |.indexAddr t x ix=>match opndC st g x,opndC st g ix with
   |some c,some (.i _ i)=>(indexAddrC P st t c i).map λr=>(.c r.1,r.2)
   |_,_=>none
 |.index t x ix=>match opnd st g x,opndC st g ix with
   |some v,some (.i _ i)=>indexC P t v i
   |_,_=>none
 |.extract t ix=>match opnd st g t with
   |some (.tup vs)=>(extractC vs ix).map (·,[])
   |_=>none
 |.build t parts=>match zeroCells P t,partsOf st g parts.toList with
   |some z,some ps=>if ps.all (partOne st) then(buildC P t z ps).map λcs=>(.agg cs,[]) else none
   |_,_=>none
 |.slice t x lo hi mx=>match isStrT P t,opndC st g x,mx with
   |true,some c,none=>match c.asStr,boundOf st g lo 0,boundOf st g hi ((match c.asStr with|some s=>s.size|none=>0:Nat):Int) with
     |some s,some l,some h=>some (.c (.v (.string (s.extract l.toNat h.toNat))),[0<=l,l<=h,h<=s.size])
     |_,_,_=>none
   |_,_,_=>none
 |.makeFunc (.func f) first caps=>match first.toList,opnds st g caps.toList with
   |[],some cs=>(capsOf st cs).map λrs=>(.c (.fn f false rs),[])
   |[x],some []=>match opnds st g [x] with
     |some cs=>(capsOf st cs).map λrs=>(.c (.fn f true rs),[])
     |none=>none
   |_,_=>none
 |.call { callee:=.builtin b,args,argTypes }=>builtinC P st g b args.toList argTypes.toList
 |.lookup t m x ok=>match opndC st g m,opnd st g x with
   |some m,some x=>lookupC P st t m x ok
   |_,_=>none
 |.entry x=>match opndC st g x with
   |some x=>entryC P st x
   |none=>none
 |_=>none
def C.scp(n:Nat):C->Bool
 |.p r _=>kv r n
 |.h r=>kv r n
 |.e r _ _ _=>kv r n
 |.ar r _ _ _ _ _ _ _=>kv r n
 |.hs r _ _=>kv r n
 |.fn _ _ caps=>caps.all λr=>kv r n
 |_=>true
def SV.scp(n:Nat):SV->Bool
 |.c x=>x.scp n
 |.agg cs=>cs.all (C.scp n)
 |.tup vs=>vs.all λv=>v.2.all (C.scp n)
 |.u=>true
def focScoped(n:Nat):Option (Nat×List C)->Bool
 |none=>true
 |some x=>x.2.all (C.scp n)
def Reg.scp(n:Nat):Reg->Bool
 |.box _ cells=>cells.all (C.scp n)
 |.own _ _ _ _ foc=>focScoped n foc
 |.row _ _ _ foc=>focScoped n foc
 |.ro cells=>cells.all (C.scp n)
 |.mpv _ _ _ ents=>ents.all (λx=>x.2.scp n)
 |.mpr _ _ _ _ _ (some x)=>kv x.2.1 n
 |_=>true
def St.scp(st:St):Bool:=st.fr.all (λe=>e.sv.scp st.rg.length)&&st.rg.all (Reg.scp st.rg.length)
def SV.cells(st:St):SV->Option (List C)
 |.c x=>if x.one' st then some [x] else none
 |.agg cs=>if cs.all (C.one' st) then some cs else none
 |_=>none
def C.val:C->Option Value
 |.i k n=>some (.int k n)
 |.b x=>some (.bool x)
 |.t x=>some (.bool x)
 |.v x=>if x.oneCell' then some x else none
 |_=>none
def vals:List C->Option (List Value)
 |[]=>some []
 |c::r=>match c.val,vals r with
   |some v,some vs=>some (v::vs)
   |_,_=>none
def alloc(st:St)(ty:Nat)(cells:List C):Option (St×SV):=
 if st.scp&&cells.all (C.scp st.rg.length) then some ({ st with rg:=st.rg++[.box ty cells] },.c (.p st.rg.length 0)) else none
def own(st:St)(ty size n:Nat)(f:Nat->Nat->TC)(foc:Option (Nat×List C)):Option (St×SV):=
 if st.scp&&focScoped st.rg.length foc then some ({ st with rg:=st.rg++[.own ty size n f foc] },.c (.h st.rg.length)) else none
def updT(f:Nat->Nat->TC)(ix off:Nat)(vs:List Value):Nat->Nat->TC:=λi j =>
 if i=ix/\off<=j/\j<off+vs.length then .val (vs.getD (j-off) undef) else f i j
def setArr(off ix:Nat)(x:C)(cells:List C)(len:Nat):Option (List C):=
 match(cut cells off len).bind intsOf,x with
 |some (k,ns),.i k' n=>if decide (k=k') then setCut cells off ((jv ns.length).map λj=>C.i k (if ix=j then n else ns.getD j 0)) else none
 |_,_=>none
def storeArr(cells:List C)(off sz len ix off2:Nat)(cs:List C):Option (List C×List Prop):=
 match cs,jr sz 1,jr off2 0 with
 |[x],true,true=>match setArr off ix x cells len with
   |some r=>some (r,[ix<len])
   |none=>(setCut cells (off+(ix * sz+off2)) cs).map (·,[])
 |_,_,_=>(setCut cells (off+(ix * sz+off2)) cs).map (·,[])
def storeC(P:Program)(st:St)(t:Nat)(a:C)(x:SV):Option (St×List Prop):=
 match x.cells st,tySize P t with
 |some cs,some sz=>if jr cs.length sz then
    match a with
    |.p r off=>match nth st.rg r with
      |some (.box ty cells)=>match setCut cells off cs with
        |some cells'=>(setAt st.rg r (.box ty cells')).map λrg=>({ st with rg },[])
        |none=>none
      |_=>none
    |.e r es ix off=>match nth st.rg r with
      |some (.own ty size n f none)=>if jr size es&&kH (off+sz) size then
         match vals cs with
         |some vs=>(setAt st.rg r (.own ty size n (updT f ix off vs) none)).map λrg=>({ st with rg },[ix<n])
         |none=>none
        else none
      |some (.own ty size n f (some (k,cells)))=>if jr size es then
         match setCut cells off cs with
         |some cells'=>(setAt st.rg r (.own ty size n f (some (k,cells')))).map λrg=>({ st with rg },[ix=k])
         |none=>none
        else none
      |_=>none
    |.ar r sz0 ix0 off sz2 len ix off2=>match nth st.rg r with
      |some (.box ty cells)=>if jr sz0 0 then
         match storeArr cells off sz2 len ix off2 cs with
         |some (cells',vc)=>(setAt st.rg r (.box ty cells')).map λrg=>({ st with rg },vc)
         |none=>none
        else none
      |some (.own ty size n f (some (k,cells)))=>if jr size sz0 then
         match storeArr cells off sz2 len ix off2 cs with
         |some (cells',vc)=>(setAt st.rg r (.own ty size n f (some (k,cells')))).map λrg=>({ st with rg },vc++[ix0=k])
         |none=>none
        else none
      |_=>none
    |_=>none
   else none
 |_,_=>none
def isNil:C->Bool
 |.v (.slice none 0 0)=>true
 |_=>false
def flatT(t:TC):Prop:=∃x,t=.val x/\x.oneCell'=true
inductive News where
 |flat (m:Nat) (f:Nat->Nat->TC)
 |one (cs:List C)
def newsOf(st:St)(size:Nat):C->Option (News×List Prop)
 |.h r=>match nth st.rg r with
   |some (.own _ sz m f none)=>if jr sz size then some (.flat m f,[∀i j,i<m->j<sz->flatT (f i j)]) else none
   |some (.row sz m f none)=>if jr sz size then some (.flat m f,[∀i j,i<m->j<sz->flatT (f i j)]) else none
   |some (.own _ sz m _ (some (k,cs)))=>if jr sz size&&jr m 1&&jr k 0&&cs.all (C.one' st) then some (.one cs,[]) else none
   |_=>none
 |_=>none
def News.len:News->Nat
 |.flat m _=>m
 |.one _=>1
def News.reg(ty size n:Nat)(f:Nat->Nat->TC):News->Reg
 |.flat m g=>.own ty size (n+m) (λi j=>if i<n then f i j else g (i-n) j) none
 |.one cs=>.own ty size (n+1) f (some (n,cs))
def News.reg0(ty size:Nat):News->Reg
 |.flat m g=>.own ty size m g none
 |.one cs=>.own ty size 1 (λ_ _=>.any) (some (0,cs))
def isH:C->Nat->Bool
 |.h r',r=>jr r' r
 |_,_=>false
def isIntT(P:Program)(t:Nat):Bool:=match P.underlying t with
 |some (.int _)=>true
 |_=>false
def newsZ(P:Program)(t:Nat)(z:List Value):C->Option (News×List Prop)
 |.i _ v=>if isIntT P t&&z.all Value.oneCell' then some (.flat v.toNat (λ_ j=>valT z j),[0<=v]) else none
 |_=>none
def newsA(P:Program)(st:St)(t t' size:Nat)(z:List Value)(x:C):Option (News×List Prop):=
 if jr t t' then newsOf st size x else newsZ P t' z x
def appendC(P:Program)(st:St)(t t':Nat)(s x:C):Option (St×SV×List Prop):=
 match sliceOf P t with
 |some e=>match tySize P e,tyBytes P e,tyZero P e with
   |some (sz+1),some by_,some z=>match newsA P st t t' (sz+1) z.cells.toList x with
     |some (news,vc)=>if jr z.cells.size (sz+1)&&st.scp then
        match s with
        |.h r=>match nth st.rg r with
          |some (.own ty size n f none) =>
            if jr ty e&&jr size (sz+1)&&!isH x r then
             (setAt st.rg r .dead).map λrg =>
               ({ st with rg:=rg++[news.reg ty size n f] },.c (.h st.rg.length),
                 vc++[n+news.len<=maxLen,(n+news.len) * by_<=140737488355328])
            else none
          |_=>none
        |s=>if isNil s then
           some ({ st with rg:=st.rg++[news.reg0 e (sz+1)] },.c (.h st.rg.length),vc++[news.len<=maxLen,news.len * by_<=140737488355328])
          else none
       else none
     |none=>none
   |_,_,_=>none
 |none=>none
def zeros(z:List C)(n:Nat):List C:=(jv n).map λi=>(nth z (i % z.length)).getD (.v undef)
def noDup:List Nat->Bool
 |[]=>true
 |x::r=>!hasN x r&&noDup r
def cellT(st:St)(c:C):Option (TC×List Nat):=match c with
 |.h r=>match nth st.rg r with
   |some (.own ty size n f none)=>some (.sub ty size n f,[r])
   |_=>none
 |c=>match c.val with
   |some v=>some (.val v,[])
   |none=>none
def cellTs(st:St):List C->Option (List TC×List Nat)
 |[]=>some ([],[])
 |c::r=>match cellT st c,cellTs st r with
   |some x,some l=>some (x.1::l.1,x.2++l.2)
   |_,_=>none
def killAt(rs:List Nat):Nat->List Reg->List Reg
 |_,[]=>[]
 |i,r::l=>(match hasN i rs with|true=>.dead|false=>r)::killAt rs (i+1) l
def rowTC(size:Nat)(ts:List TC)(i j:Nat):TC:=match kv j size with
 |true=>match nth ts (i * size+j) with
   |some t=>t
   |none=>.any
 |false=>.any
def gatherC(st:St)(e size len:Nat)(cs:List C):Option (St×SV):=match cellTs st cs with
 |some (ts,rs)=>if noDup rs&&st.scp then some ({ st with rg:=killAt rs 0 st.rg++[.own e size len (rowTC size ts) none] },.c (.h st.rg.length)) else none
 |none=>none
def buildSliceC(P:Program)(st:St)(t len:Nat)(ps:List (Nat×SV)):Option (St×SV):=
 match sliceOf P t with
 |some e=>match tySize P e,zeroCells P e with
   |some (sz+1),some z=>if jr z.length (sz+1)&&kH (len * (sz+1)) 16777216&&ps.all (partOne st) then
      match fillC ((jv len).map λi=>(i * (sz+1),sz+1)) (zeros z (len * (sz+1))) ps with
      |some cs=>if jr len 1 then own st e (sz+1) 1 (λ_ _=>.any) (some (0,cs))
        else match vals cs with
         |some vs=>own st e (sz+1) len (rowT (sz+1) vs) none
         |none=>gatherC st e (sz+1) len cs
      |none=>none
     else none
   |_,_=>none
 |none=>none
def makeC(P:Program)(st:St)(t:Nat)(l c:Int):Option (St×SV×List Prop):=
 match sliceOf P t with
 |some e=>match tySize P e,tyZero P e,tyBytes P e with
   |some (sz+1),some z,some by_=>if jr z.cells.size (sz+1) then
      (own st e (sz+1) l.toNat (λ_ j=>valT z.cells.toList j) none).map λr=>(r.1,r.2,[0<=l,l<=c,c * (by_:Int)<=140737488355328,c<=(maxLen:Nat)])
     else none
   |_,_,_=>none
 |none=>none
def sliceC(P:Program)(st:St)(t:Nat)(x:C)(l h:Int):Option (St×SV×List Prop):=
 match sliceOf P t,x with
 |some e,.h r=>match nth st.rg r,tySize P e with
   |some (.row size n f _),some sz=>if jr size sz&&st.scp then
      some ({ st with rg:=st.rg++[.row size (h.toNat-l.toNat) (λi=>f (l.toNat+i)) none] },.c (.h st.rg.length),[0<=l,l<=h,h<=n])
     else none
   |some (.own _ size n _ none),some sz=>if jr size 1&&jr sz 1 then some (st,.c (.hs r l.toNat (h.toNat-l.toNat)),[0<=l,l<=h,h<=n,l<n]) else
      match l with
      |.ofNat 0=>if jr size sz then some (st,.c (.hs r 0 (h.toNat-0)),[0<=h,h<=n,0<n]) else none
      |_=>none
   |_,_=>none
 |_,_=>none
def mtVOf(P:Program)(t:Nat):Option MT:=match P.underlying t with
 |some (.map k e)=>match ckOf P k with
   |some (K,ka)=>some ⟨P,t,k,e,K,ka,[],false⟩
   |none=>none
 |_=>none
def makeMapC(P:Program)(st:St)(t:Nat):Option (St×SV×List Prop):=
 match mtOf P t with
 |some T=>if st.scp then some ({ st with rg:=st.rg++[.mp T 0 (λ_=>false) (λ_=>KA.zero T.V) none] },.c (.h st.rg.length),[T.P=P,T.Ok]) else none
 |none=>match mtVOf P t with
   |some T=>if st.scp then match sliceOf P T.e with
      |some e=>match tySize P e with
        |some sz=>some ({ st with rg:=st.rg++[.mpr T e sz 0 (λ_=>(0,λ_ _=>.any)) none] },.c (.h st.rg.length),[T.P=P,T.OkV (.slice none 0 0)])
        |none=>none
      |none=>match tyZero P T.e with
        |some z=>match z.cells.toList with
          |[x]=>some ({ st with rg:=st.rg++[.mpv T x 0 []] },.c (.h st.rg.length),[T.P=P,T.OkV x])
          |_=>none
        |none=>none
     else none
   |none=>none
def mapUpdateC(P:Program)(st:St)(t:Nat)(m:C)(x v:SV):Option (St×List Prop):=
 match m with
 |.h r=>match nth st.rg r with
   |some (.mp T n has f it)=>match jr T.t t,kaOf T.K T.kAgg x,kaOf T.V T.vAgg v with
     |true,some a,some y=>(setAt st.rg r (.mp T (n+1) (λq=>decide (q=a)||has q) (λq=>if q=a then y else f q) none)).map λrg=>({ st with rg },KA.vc T.K a++[T.P=P,n<maxLen])
     |_,_,_=>none
   |some (.mpv T z n ents)=>match jr T.t t,kaOf T.K T.kAgg x,v with
     |true,some a,.c c=>if c.one' st then(setAt st.rg r (.mpv T z (n+1) ((a,c)::ents))).map λrg=>({ st with rg },KA.vc T.K a++[T.P=P,n<maxLen]) else none
     |_,_,_=>none
   |some (.mpr T ty size n f (some (a',q,_)))=>match jr T.t t,kaOf T.K T.kAgg x,v with
     |true,some a,.c (.h q')=>if C.one' st (.h q') then(setAt st.rg r (.mpr T ty size (n+1) f (some (a',q',none)))).map λrg=>({ st with rg },KA.vc T.K a++[T.P=P,n<maxLen,a'=a]) else none
     |_,_,_=>none
   |_=>none
 |_=>none
def entryStoreC(P:Program)(st:St)(t:Nat)(m s:C)(v:SV):Option (St×List Prop):=
 match m with
 |.h r=>match nth st.rg r with
   |some (.mpr T ty size n f (some (a,q,some s0)))=>match jr T.t t,s,v with
     |true,.i .i64 s1,.c (.h q')=>if C.one' st (.h q') then(setAt st.rg r (.mpr T ty size (n+1) f (some (a,q',none)))).map λrg=>({ st with rg },KA.vc T.K a++[T.P=P,n<maxLen,s1=s0]) else none
     |_,_,_=>none
   |some (.mp T n has f (some ⟨_,_,_,some a,some s0⟩))=>match jr T.t t,s,kaOf T.V T.vAgg v with
     |true,.i .i64 s1,some y=>(setAt st.rg r (.mp T (n+1) (λp=>decide (p=a)||has p) (λp=>if p=a then y else f p) none)).map λrg=>({ st with rg },KA.vc T.K a++[T.P=P,n<maxLen,s1=s0])
     |_,_,_=>none
   |_=>none
 |_=>none
def effOp(P:Program)(st:St)(o:Oper):Option (St×SV×List Prop):=
 match o.op with
 |.alloc t=>match zeroCells P t with
   |some cs=>if cs.all (C.one' st) then(alloc st t cs).map λr=>(r.1,r.2,[]) else none
   |none=>none
 |.box t x=>match opnd st [] x with
   |some v=>match v.cells st with
     |some cs=>(alloc st t cs).map λr=>(r.1,r.2,[])
     |none=>none
   |none=>none
 |.store t a x=>match opndC st [] a,opnd st [] x with
   |some c,some v=>(storeC P st t c v).map λr=>(r.1,.u,r.2)
   |_,_=>none
 |.call { callee:=.builtin .append,args,argTypes }=>match args.toList,argTypes.toList with
   |[s,x],[t,t']=>match opndC st [] s,opndC st [] x with
     |some s,some x=>match appendC P st t t' s x with
       |some r=>some r
       |none=>none
     |_,_=>none
   |_,_=>none
 |.buildSlice t len parts=>match partsOf st [] parts.toList with
   |some ps=>(buildSliceC P st t len ps).map λr=>(r.1,r.2,[])
   |none=>none
 |.slice t x lo hi none=>match opndC st [] x with
   |some c=>match lenOfC P st t c with
     |some (n,_)=>match boundOf st [] lo 0,boundOf st [] hi n with
       |some l,some h=>sliceC P st t c l h
       |_,_=>none
     |none=>none
   |none=>none
 |.makeMap t none=>makeMapC P st t
 |.mapUpdate t m x v=>match opndC st [] m,opnd st [] x,opnd st [] v with
   |some m,some x,some v=>(mapUpdateC P st t m x v).map λr=>(r.1,.u,r.2)
   |_,_,_=>none
 |.insert t m x v=>match opndC st [] m,opnd st [] x,opnd st [] v with
   |some m,some x,some v=>(mapUpdateC P st t m x v).map λr=>(r.1,.u,r.2)
   |_,_,_=>none
 |.entryStore t m s v=>match opndC st [] m,opndC st [] s,opnd st [] v with
   |some m,some s,some v=>(entryStoreC P st t m s v).map λr=>(r.1,.u,r.2)
   |_,_,_=>none
 |.makeSlice t l c=>match opndC st [] l,opndC st [] c with
   |some (.i _ l),some (.i _ c)=>makeC P st t l c
   |_,_=>none
 |_=>none
end Go.Tx
namespace Go.Tx
open Go
variable {ε:Env}
theorem CK.c_den(c:CK)(x:c.α):(c.c x).den ε=c.val x:=by
 cases c<;>rfl
theorem KA.cs_den:∀(K:List CK) (x:KA K),(KA.cs K x).map (C.den ε)=KA.vals K x:=by
 intro K;induction K with|nil=>intro x;rfl|cons c r ih =>cases r with|nil =>intro x;exact congrArg (λv=>[v]) (CK.c_den c x)|cons d r =>intro x;exact congr (congrArg List.cons (CK.c_den c x.1)) (ih x.2)
theorem Qlk(agg:Bool)(l:List C):(svOf agg l).den ε=mkVal agg (l.map (C.den ε)):=by
 cases agg with|true=>rfl|false=>cases l<;>rfl
theorem Q39(agg:Bool)(l:List C):denPart ε (agg,l)=mkVal agg (l.map (C.den ε)):=by
 cases agg<;>rfl
theorem CK.of_den{c:CK}{x:C}{y:c.α}(h:CK.of c x=some y):x.den ε=c.val y:=by
 cases c with|i k =>(cases x with|i k' n =>by_cases hk:k=k';subst hk;have e:CK.of (.i k) (.i k n)=some (show CK.α (.i k) from n):=if_pos (decide_eq_true rfl);rw[e] at h;cases h;rfl;simp_all[CK.of,none,if_neg]|_=>cases h)|s =>(cases x with|v x =>(cases x with|string s=>cases h;rfl|_=>cases h)|_=>cases h)|b =>cases x with|b x=>cases h;rfl|t x=>cases h;rfl|_=>cases h
theorem KA.of_den:∀(K:List CK) (xs:List C) (a:KA K),KA.of K xs=some a->xs.map (C.den ε)=KA.vals K a:=by
 intro K;induction K with|nil =>intro xs a h;(cases xs with|nil=>rfl|cons x xs=>cases h)|cons c r ih =>cases r with|nil =>intro xs a h;rcases xs with _|⟨x,_|⟨y,ys⟩⟩;cases h;exact congrArg (λv=>[v]) (CK.of_den (c:=c) (y:=a) h);cases h|cons d r =>intro xs a h;rcases xs with _|⟨x,xs⟩;cases h;have h':(match CK.of c x,KA.of (d::r) xs with|some a,some b=>some (a,b)|_,_=>none)=some a:=h;split at h';rename_i y b h1 h2;cases h';exact congr (congrArg List.cons (CK.of_den h1)) (ih xs b h2);cases h'
theorem Yx{K:List CK}{agg:Bool}{s:SV}{a:KA K}(h:kaOf K agg s=some a):s.den ε=mkVal agg (KA.vals K a):=by
 cases s with|c x =>(cases agg with|true=>cases h|false =>have:=KA.of_den (ε:=ε) K [x] a h;show x.den ε=(KA.vals K a).headD undef;rw[<- this];rfl)|agg xs =>(cases agg with|false=>cases h|true =>have:=KA.of_den (ε:=ε) K xs a h;show Value.agg _=Value.agg (KA.vals K a).toArray;rw[<- this])|tup vs=>cases agg<;>cases h|u=>cases agg<;>cases h
theorem Qq{α:Type}(l:List α)(i:Nat):nth l i=l[i]?:=by
 induction l generalizing i with|nil=>simp[nth]|cons x r ih=>cases i<;>simp[nth,ih]
theorem Q76{α:Type}{l:List α}{off n:Nat}{r:List α}(h:cut l off n=some r):r.length=n/\(∀j,j<n->r[j]?=l[off+j]?)/\off+n<=max l.length off:=by
 induction n generalizing off r with|zero=>simp[cut] at h;grind|succ n ih =>simp only[cut] at h;rw[Qq] at h;split at h;rename_i x r' hx hr;obtain⟨h1,h2,h3⟩:=ih hr;cases h;have hlt:off<l.length:=(List.getElem?_eq_some_iff.1 hx).1;refine⟨by simp[h1],λj hj=>?_,by omega⟩;(cases j with|zero=>simpa using hx.symm|succ j=>grind);cases h
theorem Yy{t:Nat}{l:List En}{e:En}(h:lookup t l=some e):e∈l/\e.slot=t:=by
 induction l with|nil=>cases h|cons x r ih =>grind[lookup,jf]
theorem Zt{a b:Bool}:beqB a b=true↔a=b:=by
 cases a<;>cases b<;>simp[beqB]
theorem Qip{x:Nat×Bool}{g:List (Nat×Bool)}(h:hasG x g=true):x∈g:=by
 induction g with|nil=>cases h|cons y r ih =>simp only[hasG,jQ,jg] at h;rcases h with⟨h1,h2⟩|h;have e1:=jf h1;have e2:=Zt.1 h2;grind;exact .tail _ (ih h)
theorem Qiq{g g':List (Nat×Bool)}(h:subG g g'=true):∀x∈g,x∈g':=by
 induction g with|nil=>intro x hx;cases hx|cons y r ih =>simp_all[subG,jg,Qip]
theorem gHolds.sub{a:Act}{g g':List (Nat×Bool)}(h:gHolds a g')(hs:subG g g'=true):gHolds a g:=λx hx=>h x (Qiq hs x hx)
theorem gHolds_nil(a:Act):gHolds a []:=λ_ h=>by
 cases h
theorem Q21{a:Act}{g:List (Nat×Bool)}{x:Nat×Bool}:gHolds a (g++[x])↔gHolds a g/\get a x.1=.bool x.2:=by
 unfold gHolds;constructor;intro h;exact⟨λy hy=>h y (by simp[hy]),h x W207⟩;grind
theorem Q3a(ε:Env)(v:Value):(constC v).den ε=v:=by
 unfold constC;split<;>rfl
theorem Q93(ε:Env)(v:Value):(toC v).den ε=v:=by
 unfold toC;split<;>rfl
theorem Q2g(ε:Env)(l:List Value):(l.map constC).map (C.den ε)=l:=by
 rw[List.map_map];conv=>rhs;rw[<- List.map_id l]
 exact ki λv _=>Q3a ε v
theorem Qhf{ε:Env}{v:Value}{s:SV}(h:constS v=some s):s.den ε=v:=by
 cases v<;>simp only[constS,Option.some.injEq] at h<;>first|(subst h;exact Q3a ε _)|(subst h;simp only[SV.den,Q3a,Q2g])|cases h
section
variable {w0:Base} {st:St} {ε:Env} {a:Act} {w:World} {g:List (Nat×Bool)}
theorem Qo(hs:SatE w0 st ε a w)(hg:gHolds a g){x:Operand}{s:SV}(h:opnd st g x=some s):a.eval x=s.den ε:=by
 cases x with|tmp t =>simp only[opnd] at h;split at h;rename_i e he;split at h;rename_i hsub;cases h;obtain⟨hm,rfl⟩:=Yy he;exact(hs.fr e hm).2.1 (hg.sub hsub);cases h;cases h|const v=>exact(Qhf h).symm|func f =>simp only[opnd,Option.some.injEq] at h;subst h;rfl|global x=>cases h
theorem Qa(hs:SatE w0 st ε a w)(hg:gHolds a g){x:Operand}{c:C}(h:opndC st g x=some c):a.eval x=c.den ε:=by
 unfold opndC at h;split at h;rename_i c' hc;cases h;exact Qo hs hg hc;cases h
theorem Zu{c:C}{x:Bool}(h:c.asBool=some x):c.den ε=.bool x:=by
 cases c<;>simp[C.asBool] at h<;>subst h<;>rfl
theorem Gi{c:C}{x:ByteArray}(h:c.asStr=some x):c.den ε=.string x:=by
 cases c<;>simp only[C.asStr] at h<;>try cases h
 split at h;cases h;rename_i he;cases he;rfl;cases h
end
section
variable {P:Program} {ε:Env} {w:World}
theorem Y5(a:Addr)(i j:Nat):(a.add i).add j=a.add (i+j):=by
 grind[Addr.add,kM]
theorem Jt(a:Addr)(n:Nat):(a.add n).block=a.block:=by
 unfold Addr.add;split<;>rfl
theorem Ys{t:Nat}{b:Bool}(h:isAggB P t=some b):(isAgg t).run P w=.ok b w:=by
 unfold isAggB at h;unfold isAgg;cases hu:P.underlying t with|none=>rw[hu] at h;cases h|some d =>rw[hu] at h;simp only[jp,run_underlying hu,jk];cases d<;>simp_all
theorem Q4n{t:Nat}{i:TypeInfo}(h:P.info? t=some i):(typeInfo t).run P w=.ok i w:=by
 simp[typeInfo,program,kJ,h]
theorem Q6q{t n:Nat}(h:tySize P t=some n):∃i,P.info? t=some i/\i.size=n:=by
 unfold tySize at h;simp_all
theorem Qu{t n:Nat}(h:tySize P t=some n):(sizeOf t).run P w=.ok n w:=by
 obtain⟨i,hi,rfl⟩:=Q6q h;simp[sizeOf,Q4n hi]
theorem G7{t:Nat}{z:Value}(h:tyZero P t=some z):(zeroValue t).run P w=.ok z w:=by
 unfold tyZero at h;cases hi:P.info? t with|none=>rw[hi] at h;cases h|some i =>simp_all[some,zeroValue,Q4n]
theorem Q08{a:Addr}{v:Value}(h:w.cell? a=some v):(load a).run P w=.ok v w:=by
 simp[h]
theorem G4{t off:Nat}{cells:List C}{s:SV}{A:Addr}(h:loadFrom P t cells off=some s)
 (hc:∀j x,cells[j]?=some x->w.cell? (A.add j)=some (x.den ε)):(loadVar t (A.add off)).run P w=.ok (s.den ε) w:=by
  unfold loadFrom at h;split at h;rename_i n h1 h2;cases hcut:cut cells off n with|none=>rw[hcut] at h;cases h|some r =>rw[hcut] at h;cases h;obtain⟨hl,hr,_⟩:=Q76 hcut;unfold loadVar;simp only[jp,Ys h1,jk,if_true,Qu h2];have:=run_loadCells_list (P:=P) (w:=w) (A.add off) (r.map (C.den ε)) (by intro j v hv;rw[jy] at hv;cases hj:r[j]? with|none=>rw[hj] at hv;cases hv|some x =>grind[Y5]);rw[jK,hl] at this;rw[this];rfl
  rename_i n h1;cases hn:nth cells off with|none=>rw[hn] at h;cases h|some x =>rw[hn] at h;cases h;rw[Qq] at hn;unfold loadVar;simp only[jp,Ys h1,jk,jY,if_false];exact Q08 (hc off x hn)
  cases h
theorem J8{t off:Nat}{cells:List C}{s:SV}(h:loadFrom P t cells off=some s):(part t (cells.map (C.den ε)).toArray off).run P w=.ok (s.den ε) w:=by
 unfold loadFrom at h;split at h;rename_i n h1 h2;cases hcut:cut cells off n with|none=>rw[hcut] at h;cases h|some r =>rw[hcut] at h;cases h;obtain⟨hl,hr,_⟩:=Q76 hcut;unfold part;simp only[jp,Ys h1,jk,if_true,Qu h2,jz,SV.den];congr 2;grind
 rename_i n h1;cases hn:nth cells off with|none=>rw[hn] at h;cases h|some x =>rw[hn] at h;cases h;rw[Qq] at hn;simp_all[part,jp,Ys,jk,jY,if_false,SV.den]
 cases h
end
theorem Qll{α:Type}[BEq α][LawfulBEq α][DecidableEq α](x y:α):(x==y)=decide (x=y):=by
 by_cases h:x=y<;>simp[h]
theorem Qhg(x y:Int):(x==y)=decide (x=y):=Qll x y
theorem Ju{k:IntKind}{n:Int}(h:Fits k n):k.wrap n=n:=by
 obtain⟨h1,h2⟩:=h;cases k<;>simp[IntKind.wrap,IntKind.min,IntKind.max,IntKind.signed,IntKind.bits] at *<;>omega
def Conj:List Prop->Prop
 |[]=>True
 |[p]=>p
 |p::q::r=>p/\Conj (q::r)
theorem Conj.all{l:List Prop}(h:Conj l):∀p∈l,p:=by
 induction l with|nil=>intro p hp;cases hp|cons x r ih =>intro p hp;cases r with|nil=>(cases hp with|head=>exact h|tail _ h=>cases h)|cons y r=>cases hp with|head=>exact h.1|tail _ hp=>exact ih h.2 p hp
def All(l:List Prop):Prop:=∀p∈l,p
theorem All.left{l r:List Prop}(h:All (l++r)):All l:=λp hp=>h p (j5 _ hp)
theorem All.right{l r:List Prop}(h:All (l++r)):All r:=λp hp=>h p (List.mem_append_right _ hp)
theorem All.one{p:Prop}(h:All [p]):p:=h p (.head _)
theorem All.head{p:Prop}{l:List Prop}(h:All (p::l)):p:=h p (.head _)
theorem All.tail{p:Prop}{l:List Prop}(h:All (p::l)):All l:=λq hq=>h q (.tail _ hq)
section
variable {P:Program} {ε:Env} {w:World}
theorem Qir{op:BinOp}{wr:Bool}{k:IntKind}{x y:Int}{c:C}{vc:List Prop}{t:Nat}(h:bin op wr k x y=some (c,vc))(hv:All vc) :
 (binOp op t (.int k x) (.int k y)).run P w=.ok (c.den ε) w:=by
  cases op<;>simp only[bin,Option.some.injEq,reduceCtorEq,Prod.mk.injEq] at h<;>(try cases h);case add=>cases wr<;>simp at h<;>obtain⟨rfl,rfl⟩:=h<;>simp[go_sem,Op.intArith,C.den];exact Ju hv.one
  case sub=>cases wr<;>simp at h<;>obtain⟨rfl,rfl⟩:=h<;>simp[go_sem,Op.intArith,C.den];exact Ju hv.one
  case mul=>cases wr<;>simp at h<;>obtain⟨rfl,rfl⟩:=h<;>simp[go_sem,Op.intArith,C.den];exact Ju hv.one
  case quo =>cases wr<;>simp at h<;>obtain⟨rfl,rfl⟩:=h;have h0:y≠0:=hv.head;simp[go_sem,Op.intDiv,C.den,h0];exact Ju hv.tail.one;have h0:y≠0:=hv.one;simp[go_sem,Op.intDiv,C.den,h0]
  case rem =>rename_i h1 h2;subst h1 h2;have h0:y≠0:=hv.one;simp[go_sem,Op.intDiv,C.den,h0]
  all_goals (rename_i h1 h2;subst h1 h2;simp only[go_sem,C.den,bne,Qhg,jz,gt_iff_lt,ge_iff_le])
theorem Q94(t:TypeId)(x y:Bool):binOp .eql t (.bool x) (.bool y)=(do pure (.bool (<- Op.equal t (.bool x) (.bool y)))):=rfl
theorem Q95(t:TypeId)(x y:Bool):binOp .neq t (.bool x) (.bool y)=(do pure (.bool (!(<- Op.equal t (.bool x) (.bool y))))):=rfl
theorem Q2h{t:TypeId}(w:World)(h:P.underlying t=some .bool)(x y:Bool):(Op.equal t (.bool x) (.bool y)).run P w=.ok (decide (x=y)) w:=by
 have:=run_equalIn_bool' (P:=P) w 9999 t x y h;rw[Qll] at this;exact this
theorem Qhh(a b:ByteArray):(a==b)=decide (a=b):=by
 by_cases h:a=b;subst h;rw[beq_toListBytes];simp;rw[beq_toListBytes];simp only[h,decide_false];rw[ky];intro hh;have:=eq_of_beq hh;rw[ByteArray.toList_eq,ByteArray.toList_eq] at this;apply h;cases a;cases b;simp_all
theorem Q1n{c:C}{k:IntKind}{n:Int}(h:c.asInt=some (k,n)):c.den ε=.int k n:=by
 cases c<;>simp[C.asInt] at h;obtain⟨rfl,rfl⟩:=h;rfl
theorem Qbs(t:TypeId)(x y:Option Addr):binOp .eql t (.pointer x) (.pointer y)=(do pure (.bool (<- Op.equal t (.pointer x) (.pointer y)))):=rfl
theorem Qbt(t:TypeId)(x y:Option Addr):binOp .neq t (.pointer x) (.pointer y)=(do pure (.bool (!(<- Op.equal t (.pointer x) (.pointer y))))):=rfl
theorem Qci(t:TypeId)(f:Fn)(a b:Array Value):binOp .eql t (.func f a b) .nilFunc=(do pure (.bool (<- Op.equal t (.func f a b) .nilFunc))):=rfl
theorem Qcj(t:TypeId)(f:Fn)(a b:Array Value):binOp .neq t (.func f a b) .nilFunc=(do pure (.bool (!(<- Op.equal t (.func f a b) .nilFunc)))):=rfl
theorem Qck(t:TypeId):binOp .eql t .nilFunc .nilFunc=(do pure (.bool (<- Op.equal t .nilFunc .nilFunc))):=rfl
theorem Qcl(t:TypeId):binOp .neq t .nilFunc .nilFunc=(do pure (.bool (!(<- Op.equal t .nilFunc .nilFunc)))):=rfl
theorem Q0v{P:Program}{f:Fn}{a b:Array Value}(w:World)(t:TypeId){p1 p2 p3}(h:P.underlying t=some (.func p1 p2 p3)):(Op.equal t (.func f a b) .nilFunc).run P w=.ok false w:=
 let q:∀d,(Op.equalIn (d+1) t (.func f a b) .nilFunc).run P w=.ok false w:=λd=>by simp[Op.equalIn,run_underlying h]
 q 9999
theorem Q0e{P:Program}(w:World)(t:TypeId){p1 p2 p3}(h:P.underlying t=some (.func p1 p2 p3)):(Op.equal t .nilFunc .nilFunc).run P w=.ok true w:=
 let q:∀d,(Op.equalIn (d+1) t .nilFunc .nilFunc).run P w=.ok true w:=λd=>by simp[Op.equalIn,run_underlying h]
 q 9999
theorem Qcm{op:BinOp}{t:Nat}{x y:C}{c:C}{vc:List Prop}{ox oy:Operand}(h:ptrNil P op t x y=some (c,vc)) :
 (do eqGuard op t ox oy (x.den ε) (y.den ε);binOp op t (x.den ε) (y.den ε):Sem Value).run P w=.ok (c.den ε) w:=by
  unfold ptrNil at h;split at h;rename_i e hu;have hu':P.underlying t=some (.pointer (P.pointee t)):=by simp[Program.pointee,hu]
  split at h;rename_i hc;simp only[jg,jQ] at hc;have hy:y.den ε=.pointer none:=by have:=hc.1;unfold isNilP at this;split at this;rfl;cases this
  have hx:∃a:Option Addr,x.den ε=.pointer a/\a.isNone=isNilP x:=by rcases hc.2 with h1|h1;cases x<;>simp[isPtr] at h1<;>exact⟨_,rfl,rfl⟩;refine⟨none,?_,by simp[h1]⟩;unfold isNilP at h1;split at h1;rfl;cases h1
  obtain⟨a,hx,ha⟩:=hx;rw[hx,hy];split at h<;>cases h;simp only[go_sem,jp,jz,jk,Qbs,run_equal_pointer_nil _ _ _ hu',C.den,ha];simp only[go_sem,jp,jz,jk,Qbt,run_equal_pointer_nil _ _ _ hu',C.den,ha];cases h;rename_i p1 p2 p3 hu;split at h;rename_i hc;simp only[jg,jQ] at hc;have nf:∀c:C,isNilF c=true->c.den ε=.nilFunc:=λc hcc=>by unfold isNilF at hcc;split at hcc;rfl;cases hcc
  have hy:=nf y hc.1;rcases hc.2 with h1|h1;have hx:isNilF x=false/\∃f a b,x.den ε=.func f a b:=by cases x<;>simp[isFn] at h1;refine⟨rfl,?_⟩;simp only[C.den,fnDen];split<;>exact⟨_,_,_,rfl⟩
  obtain⟨h2,f,a,b,hx⟩:=hx;rw[hx,hy];rw[h2] at h;split at h<;>cases h;simp only[go_sem,jp,jz,jk,Qci,Q0v _ _ hu,C.den];simp only[go_sem,jp,jz,jk,Qcj,Q0v _ _ hu,C.den];have hx:=nf x h1;rw[hx,hy];rw[h1] at h;split at h<;>cases h;simp only[go_sem,jp,jz,jk,Qck,Q0e _ _ hu,C.den];simp only[go_sem,jp,jz,jk,Qcl,Q0e _ _ hu,C.den];cases h;cases h
theorem Qbu{op:BinOp}{t:Nat}{x y:C}{c:C}{vc:List Prop}{ox oy:Operand}(h:binRest P op t x y=some (c,vc))(hv:All vc) :
 (do eqGuard op t ox oy (x.den ε) (y.den ε);binOp op t (x.den ε) (y.den ε):Sem Value).run P w=.ok (c.den ε) w:=by
  unfold binRest at h;split at h;rename_i x' y' hx hy hu;rw[Zu hx,Zu hy];split at h<;>cases h;simp only[go_sem,jp,jz,jk,Q94,Q2h _ hu,C.den];simp only[go_sem,jp,jz,jk,Q95,Q2h _ hu,C.den];split at h;rename_i x' y' hx hy;rw[Gi hx,Gi hy];split at h<;>cases h;simp only[go_sem,jp,jz,jk,C.den];rw[<- beq_toListBytes,Qhh];simp only[go_sem,jp,jz,jk,C.den];rw[<- beq_toListBytes,Qhh];have:=hv.one;simp only[go_sem,jp,jz,jk,C.den,Op.stringOp];rw[if_neg W48];rfl;exact Qcm h
theorem Qhi{op:BinOp}{wr:Bool}{t:Nat}{x y:C}{c:C}{vc:List Prop}{ox oy:Operand}(h:binC P wr op t x y=some (c,vc))(hv:All vc) :
 (do eqGuard op t ox oy (x.den ε) (y.den ε);binOp op t (x.den ε) (y.den ε):Sem Value).run P w=.ok (c.den ε) w:=by
  unfold binC at h;split at h;rename_i k x' k' y' hx hy;rw[Q1n hx,Q1n hy];split at h;rename_i r hr;cases h;unfold shiftC at hr;split at hr;cases hr;have h0:¬y'<0:=Int.not_lt.2 hv.one;simp[go_sem,C.den,Op.shift,h0,shlI];cases hr;have h0:¬y'<0:=Int.not_lt.2 hv.one;simp[go_sem,C.den,Op.shift,h0,shrI];cases hr;split at h;rename_i hk;have:=kR hk;subst this;have:=Qir (P:=P) (ε:=ε) (w:=w) (t:=t) h hv;simpa[go_sem,C.den] using this;cases h;exact Qbu h hv
end
section
variable {P:Program} {w0:Base} {st:St} {ε:Env} {a:Act} {w:World} {g:List (Nat×Bool)}
theorem Y6{s:Sem Value}{v:Value}(hr:s.run P w=.ok v w):(do pure (Next.value (<- s)):Sem Next).run P w=.ok (.value v) w:=by
 simp[hr]
theorem Qhj(hs:SatE w0 st ε a w)(hg:gHolds a g){c x y:Operand}{s:SV}(h:pickS st g c x y=some s) :
 (do pure (Next.value (if <- asBool (a.eval c) then a.eval x else a.eval y)):Sem Next).run P w=.ok (.value (s.den ε)) w:=by
  unfold pickS at h;split at h;rename_i c' hc;rw[Qa hs hg hc,<- Qo hs hg h];simp[C.den,asBool];rename_i c' hc;rw[Qa hs hg hc,<- Qo hs hg h];simp[C.den,asBool];rename_i tc b hc;have hcv:=Qa hs hg hc;have hget:get a tc=.bool b:=hcv;split at h;rename_i y';split at h;rename_i cy hcy;split at h;rename_i yb hyb;cases h;rw[hcv];cases b;have hy:=Qa hs (Q21.2 ⟨hg,hget⟩) hcy;rw[hy,Zu hyb];simp[C.den,asBool,SV.den];simp[C.den,asBool,SV.den,Act.eval];cases h;cases h;rename_i x' hx';split at h;rename_i cy hcy;split at h;rename_i yb hyb;cases h;rw[hcv];cases b;simp[C.den,asBool,SV.den,Act.eval];have hy:=Qa hs (Q21.2 ⟨hg,hget⟩) hcy;rw[hy,Zu hyb];simp[C.den,asBool,SV.den];cases h;cases h;cases h;cases h
theorem Qd{α:Type}{l:List α}{i:Nat}{x:α}(h:nth l i=some x):l[i]?=some x:=by
 rw[<- Qq];exact h
theorem map_nil{α β:Type}{o:Option α}{f:α->β}{y:β}(h:o.map f=some y):∃x,o=some x/\f x=y:=by
 simp_all
theorem Jl{g ty:Nat}{cs:Array Value}(h:w.heap[g]?=some (.cells cs ty (0,0)))(j:Nat):w.cell? ((⟨g,0,none⟩:Addr).add j)=cs[j]?:=by
 have e:(⟨g,0,none⟩:Addr).add j=⟨g,j,none⟩:=by unfold Addr.add;split<;>simp_all
 rw[e];simp[World.cell?,h]
theorem Qis{g ty:Nat}{cells:List C}(h:w.heap[g]?=some (.cells (cells.map (C.den ε)).toArray ty (0,0))) :
 ∀j x,cells[j]?=some x->w.cell? ((⟨g,0,none⟩:Addr).add j)=some (x.den ε):=by
  intro j x hj;rw[Jl h];simp[hj]
theorem Q96:∀(r:List (List Value)) (k:Nat) (e:List Value),r[k]?=some e->∀{size:Nat},(∀el∈r,el.length=size)->∀j x,e[j]?=some x->j<size->r.flatten[k * size+j]?=some x
 |[],_,_,h,_,_,_,_,_,_=>by cases h
 |e'::r,0,e,h,size,hel,j,x,hj,hlt=>by grind
 |e'::r,k+1,e,h,size,hel,j,x,hj,hlt=>by
  have he:e'.length=size:=hel e' (.head _);rw[List.flatten_cons,jJ (by rw[he,Nat.succ_mul];omega),he];have e1:(k+1) * size+j-size=k * size+j:=by rw[Nat.succ_mul];omega
  rw[e1];exact Q96 r k e W259 (λel hm=>hel el (.tail _ hm)) j x hj hlt
theorem own_cell{B ty size n:Nat}{els:List (List Value)}{h:Value}(ho:w.ownsRow B ty size h n els.flatten)(hel:∀el∈els,el.length=size){i j:Nat}(hi:i<n)(hj:j<size){u:Value}(hu:getV els i j=some u) :
 w.cell? ((haddr h).add (i * size+j))=some u:=by
  obtain⟨hlen,hn|⟨g,cap,cur,rfl,hb,hh,hnc,hm,hsz,hcur⟩⟩:=ho;omega;rw[show haddr (.slice (some ⟨g,0,none⟩) n cap)=⟨g,0,none⟩ from rfl,Jl hh];unfold getV at hu;cases hi2:els[i]? with|none=>rw[hi2] at hu;cases hu|some e =>rw[hi2] at hu;have hflat:=Q96 els i e hi2 hel j u hu hj;grind
theorem OwnRow.cell{M fp:Nat->Prop}{ty size n:Nat}{h:Value}{ok:Nat->Nat->(Nat->Prop)->Value->Prop}(ho:OwnRow w M fp ty size n h ok){i j:Nat}(hi:i<n)(hj:j<size) :
 ∃u fp',w.cell? ((haddr h).add (i * size+j))=some u/\ok i j fp' u:=by
  obtain⟨els,h1,h2,h3,h4,fps,h5,h6,h7⟩:=ho;grind[own_cell]
theorem RdRow.cell{fp:Nat->Prop}{size n:Nat}{h:Value}{ok:Nat->Nat->Value->Prop}(ho:RdRow w fp h size n ok){i j:Nat}(hi:i<n)(hj:j<size) :
 ∃u,w.cell? ((haddr h).add (i * size+j))=some u/\ok i j u:=by
  obtain⟨A,c,rfl,_,_,_,hr⟩:=ho;obtain⟨ad,rfl,hc⟩:=hr W48;exact hc i j hi hj
end
section
variable {P:Program} {w0:Base} {st:St} {ε:Env} {a:Act} {w:World} {g:List (Nat×Bool)}
theorem Qf(hs:SatE w0 st ε a w){r:Nat}{x:Reg}(h:nth st.rg r=some x):RegOk ε w0.M w (ε.ent r) x:=hs.regs.reg r x (Qd h)
theorem Q1o(hs:SatE w0 st ε a w){r:Nat}{x:Reg}{cells:List C}(h:nth st.rg r=some x)(hx:x=.ro cells\/∃ty,x=.box ty cells) :
 ∀j x,cells[j]?=some x->w.cell? ((haddr (ε.at_ r)).add j)=some (x.den ε):=by
  have hr:=Qf hs h;unfold Env.at_;rcases hx with rfl|⟨ty,rfl⟩;obtain⟨p,he,_,_,hc⟩:=hr;rw[he];exact hc;obtain⟨p,he,_,_,hc⟩:=hr;rw[he];exact Qis hc
theorem Q0w{t:Nat}{A:Addr}{v:Value}(h:(loadVar t A).run P w=.ok v w):(Instr.loadAt t (.pointer (some A))).run P w=.ok v w:=by
 grind[Instr.loadAt,Instr.sureAddr,jp,jz,jk]
theorem Qfo(hs:SatE w0 st ε a w){r size n:Nat}{f:Nat->Nat->TC}{x:Reg}(h:nth st.rg r=some x)(hx:(∃foc,x=.row size n f foc)\/∃ty,x=.own ty size n f none){i j:Nat}(hi:i<n)(hj:j<size){c:C}(hc:tcC (f i j)=some c) :
 w.cell? ((haddr (ε.at_ r)).add (i * size+j))=some (c.den ε):=by
  have hr:=Qf hs h;have key:∀u,f i j=.val u->c.den ε=u:=λu hu=>by grind[tcC,Option.some.injEq,Q93]
  rcases hx with⟨foc,rfl⟩|⟨ty,rfl⟩;obtain⟨u,h1,h2⟩:=RdRow.cell hr.1 hi hj;unfold Env.at_;rw[h1];have h2:RdC w (ε.ent r).fp (f i j) u:=by cases foc with|none=>exact h2|some kc=>exact h2.1
  cases hf:f i j with|val y=>simp only[hf,RdC] at h2;subst h2;rw[key _ hf]|sub=>rw[hf] at hc;cases hc|any=>rw[hf] at hc;cases hc
  obtain⟨u,fp',h1,h2⟩:=OwnRow.cell hr.1 hi hj;unfold Env.at_;rw[h1];cases hf:f i j with|val y=>simp only[okO,hf,OwnC] at h2;subst h2;rw[key _ hf]|sub=>rw[hf] at hc;cases hc|any=>rw[hf] at hc;cases hc
theorem Q77(hs:SatE w0 st ε a w){r size n k:Nat}{f:Nat->Nat->TC}{cs:List C}{x:Reg}(h:nth st.rg r=some x)(hx:x=.row size n f (some (k,cs))\/∃ty,x=.own ty size n f (some (k,cs))) :
 ∀j x,cs[j]?=some x->w.cell? ((haddr (ε.at_ r)).add (k * size+j))=some (x.den ε):=by
  intro j y hj;have hr:=Qf hs h;unfold Env.at_;rcases hx with rfl|⟨ty,rfl⟩;obtain⟨h0,hk,hl⟩:=hr;have hjl:j<size:=by rw[<- hl];exact(List.getElem?_eq_some_iff.1 hj).1
  obtain⟨u,h1,_,h2⟩:=RdRow.cell h0 hk hjl;grind;obtain⟨h0,hk,hl⟩:=hr;have hjl:j<size:=by rw[<- hl];exact(List.getElem?_eq_some_iff.1 hj).1
  obtain⟨u,fp',h1,_,h2⟩:=OwnRow.cell h0 hk hjl;grind
theorem Qit{g:Nat->TC}{off n:Nat}{r:List C}(h:cutT g off n=some r):r.length=n/\∀j,j<n->∃c,r[j]?=some c/\tcC (g (off+j))=some c:=by
 induction n generalizing off r with|zero=>simp[cutT] at h;grind|succ n ih =>simp only[cutT] at h;grind
theorem Qev{t size:Nat}{g:Nat->TC}{off:Nat}{s:SV}{A:Addr}(h:loadT P t size g off=some s)(hc:∀j c,j<size->tcC (g j)=some c->w.cell? (A.add j)=some (c.den ε)) :
 (loadVar t (A.add off)).run P w=.ok (s.den ε) w:=by
  unfold loadT at h;split at h;rename_i n h1 h2;split at h;rename_i hb;have hb:=jx hb;obtain⟨r,hr,he⟩:=map_nil h;cases he;obtain⟨hl,hcs⟩:=Qit hr;have:loadFrom P t r 0=some (.agg r):=by unfold loadFrom;rw[h1,h2];(have:cut r 0 n=some r:=by clear hcs h1 h2;subst hl;(have:∀(l:List C) (off:Nat),off<=l.length->cut l off (l.length-off)=some (l.drop off):=by intro l off ho;induction h:l.length-off generalizing off with|zero=>simp[cut];omega|succ m ih =>(have hlt:off<l.length:=by omega);simp only[cut,Qq,jh hlt];rw[ih (off+1) W48 W48];simp);simpa using this r 0 W48);simp[this]
  have:=G4 (P:=P) (w:=w) (ε:=ε) (A:=A.add off) this (λj x hj=>by grind[Y5]);simpa[Addr.add] using this;cases h;rename_i n h1;split at h;rename_i hb;have hb:off<size:=jx hb;obtain⟨c,hr,he⟩:=map_nil h;cases he;unfold loadVar;simp only[jp,Ys h1,jk,jY,if_false];exact Q08 (hc off c hb hr);cases h;cases h
theorem Qiu{k:IntKind}{l:List C}{ns:List Int}(h:ints k l=some ns):l=ns.map (C.i k):=by
 induction l generalizing ns with|nil=>simp only[ints,Option.some.injEq] at h;subst h;rfl|cons x r ih =>(cases x<;>simp only[ints] at h<;>try cases h);rename_i k' n;split at h;rename_i hk;have:=kR hk;subst this;obtain⟨ns',h1,h2⟩:=map_nil h;subst h2;rw[ih h1];rfl;cases h
theorem Q6r{k:IntKind}{l:List C}{ns:List Int}(h:intsOf l=some (k,ns)):l=ns.map (C.i k):=by
 cases l with|nil=>cases h|cons x r =>(cases x<;>simp only[intsOf] at h<;>try cases h);rename_i k' n;obtain⟨ns',h1,h2⟩:=map_nil h;cases h2;rw[Qiu h1];rfl
theorem Qiv{l:List C}{ss:List ByteArray}(h:strs l=some ss):l=ss.map λs=>C.v (.string s):=by
 induction l generalizing ss with|nil=>simp only[strs,Option.some.injEq] at h;subst h;rfl|cons x r ih =>unfold strs at h;split at h;cases ‹_::_=[]›;rename_i hx;cases hx;obtain⟨ss',h1,h2⟩:=map_nil h;subst h2;rw[ih h1];rfl;cases h
theorem Qiw{l:List C}{bs:List Bool}(h:bools l=some bs):l.map (C.den ε)=bs.map jL:=by
 induction l generalizing bs with|nil=>simp only[bools,Option.some.injEq] at h;subst h;rfl|cons x r ih =>unfold bools at h;split at h;cases ‹_::_=[]›;rename_i hx;cases hx;obtain⟨ss',h1,h2⟩:=map_nil h;subst h2;simp only[jW,ih h1,C.den];rename_i hx;cases hx;obtain⟨ss',h1,h2⟩:=map_nil h;subst h2;simp only[jW,ih h1,C.den];cases h
theorem Qlm{col:List C}{ix:Nat}{c:C}(h:selC col ix=some c)(hix:ix<col.length):c.den ε=(col[ix]).den ε:=by
 unfold selC at h;split at h;rename_i k ns h1;cases h;have:=Q6r h1;grind;split at h;rename_i ss h1;cases h;have:=Qiv h1;grind;split at h;rename_i bs h1;cases h;have h2:=Qiw (ε:=ε) h1;have h3:(col.map (C.den ε))[ix]?=(bs.map jL)[ix]?:=by rw[h2]
 have hl:bs.length=col.length:=by simpa using(congrArg jV h2).symm
 rw[jy,jy,jh hix,jh W48] at h3;simp_all[jX,Option.some.injEq,C.den,jc,jh,Option.getD_some];cases h
theorem Qew{cells:List C}{off sz n:Nat}{col:List C}(h:column cells off sz n=some col):col.length=n/\∀i,i<n->cells[off+i * sz]?=col[i]?:=by
 induction n generalizing off col with|zero=>simp only[column,Option.some.injEq] at h;subst h;exact⟨rfl,λi hi=>by omega⟩|succ n ih =>simp only[column,Qq] at h;split at h;rename_i x r h1 h2;cases h;obtain⟨k1,k2⟩:=ih h2;refine⟨by simp[k1],λi hi=>?_⟩;(cases i with|zero=>simpa using h1|succ i =>grind);cases h
theorem Q3b{cells:List C}{off sz len ix:Nat}{c:C}(h:(column cells off sz len).bind (selC · ix)=some c)(hix:ix<len):∃x,cells[off+ix * sz]?=some x/\c.den ε=x.den ε:=by
 cases hc:column cells off sz len with|none=>rw[hc] at h;cases h|some col =>rw[hc] at h;obtain⟨k1,k2⟩:=Qew hc;grind[jh,Qlm]
theorem Q7x{cells:List C}{off sz len ix n:Nat}{r:List C}(h:selArr cells off sz len ix n=some r)(hix:ix<len):r.length=n/\∀j,j<n->∃c x,r[j]?=some c/\cells[off+ix * sz+j]?=some x/\c.den ε=x.den ε:=by
 induction n generalizing off r with|zero=>simp only[selArr,Option.some.injEq] at h;subst h;exact⟨rfl,λj hj=>by omega⟩|succ n ih =>simp only[selArr] at h;split at h;rename_i x r' h1 h2;cases h;obtain⟨k1,k2⟩:=ih h2;refine⟨by simp[k1],λj hj=>?_⟩;(cases j with|zero =>obtain⟨y,h3,h4⟩:=Q3b (ε:=ε) h1 hix;exact⟨x,y,rfl,h3,h4⟩|succ j =>grind);cases h
theorem Q09{t:Nat}{cells:List C}{off sz len ix off2:Nat}{s:SV}{vc:List Prop}{A:Addr}(h:loadArr P t cells off sz len ix off2=some (s,vc))(hv:All vc)
 (hc:∀j x,cells[j]?=some x->w.cell? (A.add j)=some (x.den ε)):(loadVar t (A.add (off+(ix * sz+off2)))).run P w=.ok (s.den ε) w:=by
  unfold loadArr at h;split at h;rename_i s' hs';cases h;have hix:ix<len:=hv.one;split at hs';rename_i n h1 h2;obtain⟨r,hr,he⟩:=map_nil hs';subst he;obtain⟨k1,k2⟩:=Q7x (ε:=ε) hr hix;unfold loadVar;simp only[jp,Ys h1,jk,if_true,Qu h2];have:=run_loadCells_list (P:=P) (w:=w) (A.add (off+(ix * sz+off2))) (r.map (C.den ε)) (by intro j v hv;rw[jy] at hv;grind[Nat.lt_or_ge,kd,Y5]);rw[jK,k1] at this;rw[this];rfl;rename_i h1;obtain⟨c,hr,he⟩:=map_nil hs';subst he;obtain⟨x,h3,h4⟩:=Q3b (ε:=ε) hr hix;unfold loadVar;simp only[jp,Ys h1,jk,jY,if_false];grind[Q08,SV.den];cases hs';obtain⟨s',hl,he⟩:=map_nil h;cases he;exact G4 hl hc
theorem Qbv{t:Nat}{cells:List C}{sz len ix:Nat}{s:SV}{vc:List Prop}(h:loadArr P t cells 0 sz len ix 0=some (s,vc))(hv:All vc) :
 (part t (cells.map (C.den ε)).toArray (ix * sz)).run P w=.ok (s.den ε) w:=by
  unfold loadArr at h;split at h;rename_i s' hs';cases h;have hix:ix<len:=hv.one;split at hs';rename_i n h1 h2;obtain⟨r,hr,he⟩:=map_nil hs';subst he;obtain⟨k1,k2⟩:=Q7x (ε:=ε) hr hix;unfold part;simp only[jp,Ys h1,jk,if_true,Qu h2,jz,SV.den];congr 2;apply Array.ext';rw[Array.toList_extract];apply kD;grind;rename_i h1;obtain⟨c,hr,he⟩:=map_nil hs';subst he;obtain⟨x,h3,h4⟩:=Q3b (ε:=ε) hr hix;simp_all[part,jp,Ys,jk,jY,if_false,SV.den];cases hs';obtain⟨s',hl,he⟩:=map_nil h;grind[J8]
theorem Q7y(hs:SatE w0 st ε a w){t:Nat}{c:C}{s:SV}{vc:List Prop}(h:loadAt P st t c=some (s,vc))(hv:All vc) :
 (Instr.loadAt t (c.den ε)).run P w=.ok (s.den ε) w:=by
  have foc:∀{r size n k:Nat} {f:Nat->Nat->TC} {cs:List C} {x:Reg} {off:Nat} {s':SV},nth st.rg r=some x->(x=.row size n f (some (k,cs))\/∃ty,x=.own ty size n f (some (k,cs)))->loadFrom P t cs off=some s' -> (loadVar t ((haddr (ε.at_ r)).add (k * size+off))).run P w=.ok (s'.den ε) w:=λhr hx hl=>by rw[<- Y5];grind[G4,Y5,Q77]
  have focA:∀{r size n k:Nat} {f:Nat->Nat->TC} {cs:List C} {x:Reg} {off sz len ix off2:Nat} {s':SV} {vc':List Prop},nth st.rg r=some x->(x=.row size n f (some (k,cs))\/∃ty,x=.own ty size n f (some (k,cs)))->loadArr P t cs off sz len ix off2=some (s',vc')->All vc' -> (loadVar t ((haddr (ε.at_ r)).add (k * size+(off+(ix * sz+off2))))).run P w=.ok (s'.den ε) w:=λhr hx hl hv=>by rw[<- Y5];grind[Q09,Y5,Q77]
  have el:∀{r size n ix:Nat} {f:Nat->Nat->TC} {x:Reg} {off:Nat} {s':SV},nth st.rg r=some x->((∃foc,x=.row size n f foc)\/∃ty,x=.own ty size n f none)->ix<n->loadT P t size (f ix) off=some s' -> (loadVar t ((haddr (ε.at_ r)).add (ix * size+off))).run P w=.ok (s'.den ε) w:=λhr hx hi hl=>by rw[<- Y5];exact Qev hl (λj c hj hc=>by rw[Y5];exact Qfo hs hr hx hi hj hc)
  cases c with|p r off =>simp only[loadAt] at h;refine Q0w ?_;split at h;rename_i ty cells hr;obtain⟨s',hl,he⟩:=map_nil h;cases he;exact G4 hl (Q1o hs hr (.inr ⟨_,rfl⟩));rename_i cells hr;obtain⟨s',hl,he⟩:=map_nil h;cases he;exact G4 hl (Q1o hs hr (.inl rfl));cases h|e r sz ix off =>simp only[loadAt] at h;refine Q0w ?_;split at h;(case h_3 hr =>split at h;(case isFalse=>cases h);rename_i hsz;have:=jf hsz;subst this;split at h;rename_i s' hl;cases h;exact el hr (.inl ⟨_,rfl⟩) hv.one hl;obtain⟨s',hl,he⟩:=map_nil h;cases he;have hk:=hv.one;subst hk;exact foc hr (.inl rfl) hl);(all_goals first|(rename_i hr;split at h;(case isFalse=>cases h);rename_i hsz;have:=jf hsz;subst this;obtain⟨s',hl,he⟩:=map_nil h;cases he;first|exact el hr (.inl ⟨_,rfl⟩) hv.one hl|exact el hr (.inr ⟨_,rfl⟩) hv.one hl|(have hk:=hv.one;subst hk;first|exact foc hr (.inl rfl) hl|exact foc hr (.inr ⟨_,rfl⟩) hl))|cases h)|ar r sz0 ix0 off sz len ix off2 =>simp only[loadAt] at h;refine Q0w ?_;split at h;rename_i hr;split at h;rename_i h0;have:=jf h0;subst this;simp only[Nat.mul_zero,ko];exact Q09 h hv (Q1o hs hr (.inr ⟨_,rfl⟩));cases h;rename_i hr;split at h;rename_i h0;have:=jf h0;subst this;simp only[Nat.mul_zero,ko];exact Q09 h hv (Q1o hs hr (.inl rfl));cases h;(all_goals first|(rename_i hr;split at h;(case isFalse=>cases h);rename_i hsz;have:=jf hsz;subst this;obtain⟨s',hl,he⟩:=map_nil h;cases he;have hk:=hv.right.one;subst hk;first|exact focA hr (.inl rfl) hl hv.left|exact focA hr (.inr ⟨_,rfl⟩) hl hv.left)|cases h)|_=>cases h
theorem Q2i{rec:List Field->List C->List C->Option Bool}{d:Nat}(hrec:∀{fs:List Field} {xs ys:List C} {b:Bool},rec fs xs ys=some b->fs.all plainField=true->(Op.eqFields d (xs.map (C.den ε)).toArray (ys.map (C.den ε)).toArray fs).run P w=.ok b w)
 {fs:List Field} {xs ys:List C} {b:Bool} (h:eqCellsW P rec fs xs ys=some b) (hp:fs.all plainField=true) :
 (Op.eqFields (d+1) (xs.map (C.den ε)).toArray (ys.map (C.den ε)).toArray fs).run P w=.ok b w:=by
  induction fs generalizing b with|nil=>simp only[eqCellsW,Option.some.injEq] at h;subst h;simp[Op.eqFields]|cons f fs ih =>simp only[List.all_cons,jg] at hp;(have hname : f.name ≠ "_" := by simpa[plainField] using hp.1);have part1:∀(zs:List C) (c:C),nth zs f.offset=some c->(∃d,P.underlying f.type=some d/\isAggB P f.type=some false) -> (part f.type (zs.map (C.den ε)).toArray f.offset).run P w=.ok (c.den ε) w:=λzs c hz ⟨_,_,hagg⟩ => J8 (s:=.c c) (by unfold loadFrom;rw[hagg];simp[hz]);unfold eqCellsW at h;simp only[Op.eqFields,if_pos hname,jp];split at h;rename_i k x k' y kk r hx hy hu hr;split at h;rename_i hk;have:=kR hk;subst this;cases h;(have hagg:isAggB P f.type=some false:=by unfold isAggB;rw[hu]);rw[part1 xs _ hx ⟨_,hu,hagg⟩,jk,part1 ys _ hy ⟨_,hu,hagg⟩,jk];simp only[C.den,run_equalIn_int _ d _ _ _ _ _ hu,jk,Qhg];by_cases hxy:x=y;simp[hxy,ih hr hp.2];simp[hxy];cases h;rename_i cx cy r hx hy hu hr;(have hagg:isAggB P f.type=some false:=by unfold isAggB;rw[hu]);split at h;rename_i x y hbx hby;cases h;rw[part1 xs _ hx ⟨_,hu,hagg⟩,jk,part1 ys _ hy ⟨_,hu,hagg⟩,jk];rw[Zu hbx,Zu hby,run_equalIn_bool' _ d _ _ _ hu,jk,Qll];by_cases hxy:x=y;simp[hxy,ih hr hp.2];simp[hxy];cases h;rename_i cx cy r hx hy hu hr;(have hagg:isAggB P f.type=some false:=by unfold isAggB;rw[hu]);split at h;rename_i x y hbx hby;cases h;rw[part1 xs _ hx ⟨_,hu,hagg⟩,jk,part1 ys _ hy ⟨_,hu,hagg⟩,jk];rw[Gi hbx,Gi hby,run_equalIn_string _ d _ _ _ hu,jk,<- beq_toListBytes,Qhh];by_cases hxy:x=y;simp[hxy,ih hr hp.2];simp[hxy];cases h;rename_i gs r hu hr;split at h;rename_i us vs hus hvs;split at h;rename_i hc;simp only[jg,jC] at hc;(cases hq:rec gs.toList us vs with|none=>rw[hq] at h;cases h|some q =>rw[hq] at h;cases h;(have hf:P.fieldsOf f.type=gs:=by unfold Program.fieldsOf;rw[hu]);have e1:=run_equalIn_struct (P:=P) w d f.type (us.map (C.den ε)).toArray (vs.map (C.den ε)).toArray (by rw[hf];exact hu) hc.2;rw[hf] at e1;rw[J8 hus,jk,J8 hvs,jk];simp only[SV.den];rw[e1,hrec hq hc.1,jk];cases q;simp;simp[ih hr hp.2]);cases h;cases h;cases h
theorem Qbw{fs:List Field}{xs ys:List C}{b:Bool}(d:Nat)(h:eqCells P fs xs ys=some b)(hp:fs.all plainField=true) :
 (Op.eqFields (d+2) (xs.map (C.den ε)).toArray (ys.map (C.den ε)).toArray fs).run P w=.ok b w:=Q2i (Q2i λh=>by cases h) h hp
theorem Zk(t:Nat)(h:P.eqGuardType P.depth t=false){op:BinOp}(hop:op=.eql\/op=.neq){x y:Operand}{xs ys:Array Value}:(eqGuard op t x y (.agg xs) (.agg ys)).run P w=.ok () w:=by
 rcases hop with rfl|rfl<;>simp[eqGuard,program,kJ,h]
theorem Q6s{t:Nat}{fs:Array Field}{xs ys:List C}{b:Bool}(ht:structOf P t=some fs)(hp:fs.toList.all plainField=true)(hst:P.stoodInHeld t=false)(h:eqCells P fs.toList xs ys=some b) :
 (Op.equal t (.agg (xs.map (C.den ε)).toArray) (.agg (ys.map (C.den ε)).toArray)).run P w=.ok b w:=by
  unfold structOf at ht;split at ht;rename_i fs' hu;cases ht;have hf:P.fieldsOf t=fs:=by unfold Program.fieldsOf;rw[hu]
  have:=run_equalIn_struct (P:=P) w 9999 t (xs.map (C.den ε)).toArray (ys.map (C.den ε)).toArray (by rw[hf];exact hu) hst;rw[hf] at this;exact this.trans (Qbw 9997 h hp);cases ht
theorem Q2j{e:Nat}{xs ys:List C}(d:Nat)(he:intEltB P e=true):∀(is:List Nat) {b:Bool},eqItemsC xs ys is=some b->(Op.eqItems (d+1) e (P.cellsOf e) (xs.map (C.den ε)).toArray (ys.map (C.den ε)).toArray is).run P w=.ok b w
 |[],b,h=>by simp_all[eqItemsC,Option.some.injEq,Op.eqItems]
 |i::is,b,h=>by
  unfold intEltB at he;split at he;rename_i kk hu;rw[jg] at he;have hc:P.cellsOf e=1:=jf he.1;have hagg:isAggB P e=some false:=by unfold isAggB;rw[hu]
  have part1:∀(zs:List C) (c:C),nth zs i=some c->(part e (zs.map (C.den ε)).toArray i).run P w=.ok (c.den ε) w:=λzs c hz => J8 (s:=.c c) (by unfold loadFrom;rw[hagg];simp[hz]);have he2:intEltB P e=true:=by simp_all[intEltB,jg]
  unfold eqItemsC at h;split at h;rename_i k x k' y r hx hy hr;split at h;rename_i hk;have:=kR hk;subst this;cases h;have ih:=Q2j d he2 is hr;simp only[Op.eqItems,jp,hc,Nat.mul_one] at ih⊢;rw[part1 xs _ hx,jk,part1 ys _ hy,jk];simp only[C.den,run_equalIn_int _ d _ _ _ _ _ hu,jk,Qhg];by_cases hxy:x=y;simp[hxy,ih];simp[hxy];cases h;cases h;cases he
theorem Q6t{t n e:Nat}{xs ys:List C}{b:Bool}(ht:arrayOf P t=some (n,e))(he:intEltB P e=true)(h:eqItemsC xs ys (jv n)=some b) :
 (Op.equal t (.agg (xs.map (C.den ε)).toArray) (.agg (ys.map (C.den ε)).toArray)).run P w=.ok b w:=by
  unfold arrayOf at ht;split at ht;rename_i n' e' hu;cases ht;obtain⟨i,hi⟩:∃i,P.info? e=some i:=by unfold intEltB at he;split at he;rw[jg] at he;exact Option.isSome_iff_exists.1 he.2;cases he
  exact(run_equalIn_array (P:=P) w 9999 (xs.map (C.den ε)).toArray (ys.map (C.den ε)).toArray hu hi).trans (Q2j 9998 he _ h);cases ht
theorem Q47(t:TypeId)(x y:Array Value):binOp .eql t (.agg x) (.agg y)=(do pure (.bool (<- Op.equal t (.agg x) (.agg y)))):=rfl
theorem Q48(t:TypeId)(x y:Array Value):binOp .neq t (.agg x) (.agg y)=(do pure (.bool (!(<- Op.equal t (.agg x) (.agg y))))):=rfl
theorem Qex{c c':C}{n:Nat}(h:addrOff c n=some c'):∃A,c.den ε=.pointer (some A)/\c'.den ε=.pointer (some (A.add n)):=by
 cases c<;>simp only[addrOff,Option.some.injEq,reduceCtorEq] at h;subst h;exact⟨_,rfl,by simp only[C.den,Y5]⟩;subst h;exact⟨_,rfl,by simp only[C.den,Y5,kM]⟩;subst h;exact⟨_,rfl,by simp only[C.den,Y5,kM]⟩
theorem Q4o{s f:Nat}{fd:Field}(h:fieldOf P s f=some fd):∃fs,P.underlying s=some (.struct fs)/\fs[f]?=some fd:=by
 unfold fieldOf structOf at h;split at h;simp_all[nth,some,Qq];cases h
theorem Qbx{s f:Nat}{fd:Field}{c c':C}(hf:fieldOf P s f=some fd)(hz:noZero P fd.type=true)(h:addrOff c fd.offset=some c') :
 (Instr.fieldAt s (c.den ε) f).run P w=.ok (c'.den ε) w:=by
  obtain⟨fs,hu,hfs⟩:=Q4o hf;obtain⟨A,h1,h2⟩:=Qex (ε:=ε) h;unfold noZero at hz;split at hz;cases hz;rename_i n hn hsz;have hn0:n≠0:=λe=>hn e;simp only[Instr.fieldAt,jp,run_underlying hu,jk,hfs,h1,Instr.sureAddr,jz,fieldPlace,Qu hsz,if_neg hn0,h2];cases hz
theorem Qey{t f:Nat}{fd:Field}{cs:List C}{s:SV}(hf:fieldOf P t f=some fd)(h:loadFrom P fd.type cs fd.offset=some s) :
 (Instr.field t (.agg (cs.map (C.den ε)).toArray) f).run P w=.ok (s.den ε) w:=by
  obtain⟨fs,hu,hfs⟩:=Q4o hf;simp_all[Instr.field,jp,run_underlying,jk,asAgg,jz,J8]
theorem Yk{t e:Nat}(h:sliceOf P t=some e):P.underlying t=some (.slice e):=by
 grind[sliceOf]
theorem Q0x{t n e:Nat}(h:arrayOf P t=some (n,e)):P.underlying t=some (.array n e):=by
 grind[arrayOf]
theorem Q97{t e sz n c:Nat}{A:Addr}{k:IntKind}{i:Int}(ht:P.underlying t=some (.slice e))(hsz:tySize P e=some sz)(h0:0<=i)(h1:i<n) :
 (Instr.indexAt t (.slice (some A) n c) (.int k i)).run P w=.ok (.pointer (some (A.add (i.toNat * sz)))) w:=by
  simp only[Instr.indexAt,asIntOf,jp,jz,jk,run_underlying ht,if_pos (ji h0 h1),Qu hsz,Sem.run_ite]
theorem Q2k{t e sz n:Nat}{A:Addr}{k:IntKind}{i:Int}(ht:P.underlying t=some (.array n e))(hsz:tySize P e=some sz)(h0:0<=i)(h1:i<n) :
 (Instr.indexAt t (.pointer (some A)) (.int k i)).run P w=.ok (.pointer (some (A.add (i.toNat * sz)))) w:=by
  simp only[Instr.indexAt,asIntOf,jp,jz,jk,run_underlying ht,Instr.sureAddr,if_pos (ji h0 h1),Qu hsz,Sem.run_ite]
theorem Zl{M fp:Nat->Prop}{ty size n:Nat}{h:Value}{ok:Nat->Nat->(Nat->Prop)->Value->Prop}(ho:OwnRow w M fp ty size n h ok):∃A c,h=.slice A n c/\n<=c/\(0<n->∃ad,A=some ad):=by
 obtain⟨els,⟨_,ho⟩,_⟩:=ho;grind
theorem Jv{fp:Nat->Prop}{size n:Nat}{h:Value}{ok:Nat->Nat->Value->Prop}(ho:RdRow w fp h size n ok):∃A c,h=.slice A n c/\n<=c/\(0<n->∃ad,A=some ad):=by
 obtain⟨A,c,rfl,hc,_,_,hr⟩:=ho;grind
theorem Q7z(hs:SatE w0 st ε a w){t:Nat}{x c:C}{k:IntKind}{i:Int}{vc:List Prop}(h:indexAddrC P st t x i=some (c,vc))(hv:All vc) :
 (Instr.indexAt t (x.den ε) (.int k i)).run P w=.ok (c.den ε) w:=by
  have sl:∀{t e sz n:Nat} {h:Value},P.underlying t=some (.slice e)->tySize P e=some sz->0<=i->i<n->(∃A c,h=.slice A n c/\n<=c/\(0<n->∃ad,A=some ad)) -> (Instr.indexAt t h (.int k i)).run P w=.ok (.pointer (some ((haddr h).add (i.toNat * sz+0)))) w:=λht hsz h0 h1 ⟨A,c,he,_,hA⟩=>by obtain⟨ad,rfl⟩:=hA W48;rw[he,Q97 ht hsz h0 h1];simp[haddr]
  unfold indexAddrC at h;split at h;rename_i e hsl;have ht:=Yk hsl;split at h;rename_i r sz hsz;split at h;rename_i hr;split at h;cases h;exact sl ht hsz hv.head hv.tail.one (Jv (Qf hs hr).1);cases h;rename_i hr;split at h;cases h;exact sl ht hsz hv.head hv.tail.one (Zl (Qf hs hr).1);cases h;cases h;cases h;rename_i len e _ harr;have ht:=Q0x harr;split at h;rename_i r off sz hsz;cases h;have h0:0<=i:=hv.head;have h1:i<len:=hv.tail.one;simp only[C.den];rw[Q2k ht hsz h0 h1,Y5];simp;rename_i r sz0 ix0 off sz hsz;cases h;have h0:0<=i:=hv.head;have h1:i<len:=hv.tail.one;simp only[C.den];rw[Q2k ht hsz h0 h1,Y5,Nat.add_zero,kM];cases h;cases h
theorem Qez{t:Nat}{x s:SV}{k:IntKind}{i:Int}{vc:List Prop}(h:indexC P t x i=some (s,vc))(hv:All vc) :
 (Instr.index t (x.den ε) (.int k i)).run P w=.ok (s.den ε) w:=by
  unfold indexC at h;split at h;rename_i len e cs harr;have ht:=Q0x harr;split at h;rename_i sz hsz;obtain⟨s',hl,he⟩:=map_nil h;cases he;have h0:0<=i:=hv.right.head;have h1:i<len:=hv.right.tail.one;simp only[Instr.index,asIntOf,jp,jz,jk,run_underlying ht,SV.den,if_pos (ji h0 h1),Qu hsz,Sem.run_ite];exact Qbv hl hv.left;cases h;rename_i y _;split at h;case isFalse=>cases h
  rename_i hst;cases h;have h0:0<=i:=hv.head;have h1:i<y.size:=hv.tail.one;have ht:P.underlying t=some .string:=by grind[isStrT]
  have hlt:i.toNat<y.size:=by omega
  simp only[Instr.index,asIntOf,jp,jz,jk,run_underlying ht,SV.den,C.den,if_pos h0];have e1:y[i.toNat]?=some (y.data.toList.getD i.toNat 0):=by rw[getElem?_pos y i.toNat hlt];congr 1;rw[jc,jh (by simpa using hlt)];rfl
  rw[e1];rfl;cases h
end
section
variable {P:Program} {w0:Base} {st:St} {ε:Env} {a:Act} {w:World} {g:List (Nat×Bool)}
theorem Jm(hs:SatE w0 st ε a w)(hg:gHolds a g){l:List Operand}{vs:List SV}(h:opnds st g l=some vs):l.map a.eval=vs.map (SV.den ε):=by
 induction l generalizing vs with|nil=>simp only[opnds,Option.some.injEq] at h;subst h;rfl|cons x r ih =>simp only[opnds] at h;split at h;rename_i v vs' hx hr;cases h;simp only[jW,Qo hs hg hx,ih hr];cases h
theorem Q49(hs:SatE w0 st ε a w)(hg:gHolds a g){l:List (Nat×Operand)}{vs:List (Nat×SV)}(h:partsOf st g l=some vs) :
 l.map (λ(x:Nat×Operand)=>(x.1,a.eval x.2))=vs.map (λx=>(x.1,x.2.den ε)):=by
  induction l generalizing vs with|nil=>simp only[partsOf,Option.some.injEq] at h;subst h;rfl|cons x r ih =>obtain⟨i,x⟩:=x;simp only[partsOf] at h;split at h;rename_i v vs' hx hr;cases h;simp only[jW,Qo hs hg hx,ih hr];cases h
theorem Y1{α:Type}{l l':List α}{i:Nat}{x:α}(h:setAt l i x=some l'):i<l.length/\l'=l.set i x:=by
 induction l generalizing i l' with|nil=>cases h|cons y r ih =>cases i with|zero=>simp only[setAt,Option.some.injEq] at h;subst h;exact⟨by simp,rfl⟩|succ i =>simp only[setAt] at h;obtain⟨r',hr,he⟩:=map_nil h;grind
theorem Q3c{α:Type}{l l':List α}{off:Nat}{xs:List α}(h:setCut l off xs=some l'):l'.length=l.length:=by
 induction xs generalizing l off with|nil=>simp only[setCut,Option.some.injEq] at h;rw[h]|cons x r ih =>simp only[setCut] at h;split at h;rename_i l1 h1;rw[ih h,(Y1 h1).2];simp;cases h
theorem Q22{α:Type}{l l':List α}{off:Nat}{xs:List α}(h:setCut l off xs=some l'):xs=[]\/off+xs.length<=l.length:=by
 induction xs generalizing l off with|nil=>exact .inl rfl|cons x r ih =>simp only[setCut] at h;split at h;rename_i l1 h1;obtain⟨hlt,rfl⟩:=Y1 h1;grind;cases h
theorem Qix(xs:List C):∀(k:Nat) (cells cells':List C) (off:Nat),setCut cells (off+k) xs=some cells' ->
 (((xs.map (C.den ε)).zipIdx k).foldl (λcs (x:Value×Nat)=>cs.setIfInBounds (off+x.2) x.1) (cells.map (C.den ε)).toArray)=(cells'.map (C.den ε)).toArray:=by
  induction xs with|nil=>intro k cells cells' off h;simp only[setCut,Option.some.injEq] at h;subst h;rfl|cons x xs ih =>intro k cells cells' off h;simp only[setCut] at h;split at h;rename_i l1 h1;obtain⟨hlt,rfl⟩:=Y1 h1;simp only[jW,List.zipIdx_cons,List.foldl_cons];(have e:(cells.map (C.den ε)).toArray.setIfInBounds (off+k) (x.den ε)=((cells.set (off+k) x).map (C.den ε)).toArray:=by simp[List.map_set]);rw[e];exact ih (k+1) _ _ off h;cases h
theorem Q23{places:List (Nat×Nat)}{ps:List (Nat×SV)}{z cs:List C}(h:fillC places z ps=some cs)(f:Nat->Option (Nat×Nat))(hf:∀i p,nth places i=some p->f i=some p)(hone:∀i c,(i,SV.c c)∈ps->(c.den ε).cells=#[c.den ε]) :
 Instr.fill f (z.map (C.den ε)).toArray (ps.map λx=>(x.1,x.2.den ε))=some (cs.map (C.den ε)).toArray:=by
  induction ps generalizing z with|nil=>simp only[fillC,Option.some.injEq] at h;subst h;rfl|cons p rest ih =>obtain⟨i,v⟩:=p;simp only[fillC] at h;split at h;rename_i off sz xs hp hv;split at h;rename_i hb;simp only[jg] at hb;have hsz:=jf hb.1;have hroom:=jx hb.2;split at h;rename_i z' hz;(have hcells:(v.den ε).cells=(xs.map (C.den ε)).toArray:=by split at hv;rename_i x;cases hv;exact hone i x (.head _);cases hv;rfl;cases hv);simp only[jW,Instr.fill,hf i _ hp,hcells];rw[if_neg];have:=Qix (ε:=ε) xs 0 z z' off (by simpa using hz);grind;grind;cases h;cases h;cases h
end
section
variable {P:Program} {w0:Base} {st:St} {ε:Env} {a:Act} {w:World} {g:List (Nat×Bool)}
theorem Q4p{v:Value}(h:v.oneCell'=true):v.cells=#[v]:=by
 cases v<;>first|rfl|cases h
theorem Q3d{M:Nat->Prop}{e:Ent}{x:Reg}(hr:RegOk ε M w e x)(hl:x.hand=true):e.h.oneCell'=true:=by
 cases x with|box ty cells=>obtain⟨g,h,_⟩:=hr;rw[h];rfl|own ty size n f foc=>obtain⟨A,c,h,_⟩:=Zl hr.1;rw[h];rfl|row size n f foc=>obtain⟨A,c,h,_⟩:=Jv hr.1;rw[h];rfl|ro cells=>obtain⟨A,h,_⟩:=hr;rw[h];rfl|dead=>cases hl|one=>exact hr|froz X=>cases hl|mp T n has f it=>obtain⟨_,b,D,h,_⟩:=hr;rw[h];rfl|itr r=>rw[show e.h=itPtr r from hr];rfl|mpv T z n ents=>obtain⟨_,b,D,h,_⟩:=hr;rw[h];rfl|mpr T ty size n f opn=>obtain⟨_,_,_,_,⟨_,b,D,h,_⟩,_⟩:=hr;rw[h];rfl
theorem Gp{M L:Nat->Prop}(hs:RegsOk ε M L w st.rg){c:C}(h:c.one' st=true):(c.den ε).oneCell'=true:=by
 cases c with|h r =>simp only[C.one'] at h;split at h;rename_i x hr;exact Q3d (hs.reg r x (Qd hr)) h;cases h|v x=>exact h|hs r lo n=>cases h|fn f b caps=>cases b<;>rfl|_=>rfl
theorem Q80{M L:Nat->Prop}(hs:RegsOk ε M L w st.rg){r:Nat}(h:isVar st r=true):(C.p r 0).den ε=ε.at_ r:=by
 unfold isVar at h;split at h;rename_i ty cells hr;obtain⟨g,he,_⟩:=hs.reg r _ (Qd hr);simp[C.den,Env.at_,he,haddr,Addr.add];rename_i cells hr;obtain⟨g,he,_⟩:=hs.reg r _ (Qd hr);simp[C.den,Env.at_,he,haddr,Addr.add];cases h
theorem Q4q{vs:List SV}{rs:List Nat}{M L:Nat->Prop}(hs:RegsOk ε M L w st.rg)(h:capsOf st vs=some rs):vs.map (SV.den ε)=rs.map ε.at_:=by
 induction vs generalizing rs with|nil=>simp only[capsOf,Option.some.injEq] at h;subst h;rfl|cons v l ih =>simp only[capsOf] at h;split at h;rename_i r rs' h1 h2;cases h;simp only[jW,ih h2];congr 1;unfold capOf at h1;split at h1;split at h1;rename_i hv;cases h1;exact Q80 hs hv;cases h1;cases h1;rfl;cases h1;cases h
theorem Q4r(hs:SatE w0 st ε a w)(hg:gHolds a g){x y:Operand}{k:IntKind}{m n:Int}(h:intOf2 st g x y=some (k,m,n)):a.eval x=.int k m/\∃k',a.eval y=.int k' n:=by
 unfold intOf2 at h;split at h;rename_i cx cy hx hy;split at h;rename_i k1 m1 k2 n1 h1 h2;cases h;exact⟨by rw[Qa hs hg hx,Q1n h1],_,by rw[Qa hs hg hy,Q1n h2]⟩;cases h;cases h
theorem Qf0(hs:SatE w0 st ε a w){t:Nat}{c:C}{n:Int}{vc:List Prop}(h:lenOfC P st t c=some (n,vc))(hv:All vc)(ty:TypeId) :
 (Builtin.len_ #[t] ty #[c.den ε]).run P w=.ok (.int .i64 n) w:=by
  unfold lenOfC at h;split at h;rename_i e hsl;have ht:=Yk hsl;have key:∀A n c,(Builtin.len_ #[t] ty #[.slice A n c]).run P w=.ok (.int .i64 (n:Int)) w:=by simp_all[Builtin.len_,run_underlying,goInt]
  split at h;rename_i r;split at h;rename_i hr;cases h;obtain⟨A,c,he,_⟩:=Jv (Qf hs hr).1;simp only[C.den,Env.at_,he];exact key _ _ _;rename_i hr;cases h;obtain⟨A,c,he,_⟩:=Zl (Qf hs hr).1;simp only[C.den,Env.at_,he];exact key _ _ _;cases h;cases h;exact key _ _ _;cases h;split at h;rename_i s hst hcs;cases h;have hu:P.underlying t=some .string:=by grind[isStrT]
  simp_all[Gi,Builtin.len_,run_underlying,goInt];cases h
theorem Qby(hs:SatE w0 st ε a w)(hg:gHolds a g){b:Builtin}{args:List Operand}{ts:List TypeId}{s:SV}{vc:List Prop}(h:builtinC P st g b args ts=some (s,vc))(hv:All vc)
 {dst:Option Nat} {ty:TypeId} {pos:String} {af:Array Edge} {gd:Option (Nat×Bool)} :
 (execOp a.eval { dst,op:=.call { callee:=.builtin b,args:=args.toArray,argTypes:=ts.toArray },type:=ty,pos,after:=af,guard:=gd }).run P w=.ok (.value (s.den ε)) w:=by
  unfold builtinC at h;split at h;rename_i x t;split at h;rename_i c hc;obtain⟨⟨n,vc'⟩,hn,he⟩:=map_nil h;cases he;simp only[execOp,resolve,invoke,builtin,List.map_toArray,jW,List.map_nil,jp,jz,jk,Qa hs hg hc,Qf0 hs hn hv];rfl;cases h;rename_i x y _;split at h;rename_i k m n hc;cases h;obtain⟨h1,k',h2⟩:=Q4r hs hg hc;simp[execOp,resolve,invoke,builtin,h1,h2,Builtin.max_,Builtin.max2,SV.den,C.den];rename_i k m n hc;cases h;obtain⟨h1,k',h2⟩:=Q4r hs hg hc;simp[execOp,resolve,invoke,builtin,h1,h2,Builtin.min_,Builtin.min2,SV.den,C.den];cases h;cases h
theorem Q4s{wr:Bool}{k:IntKind}{n:Int}{s:SV}{vc:List Prop}(h:wrapOr wr k n=(s,vc))(hv:All vc):s.den ε=.int k (k.wrap n):=by
 unfold wrapOr at h;split at h<;>cases h;rfl;simp only[SV.den,C.den];rw[Ju hv.one]
theorem Qhk{fs:List Field}{ps:List (Nat×Nat)}(h:placesOf P fs=some ps):(fs.mapM (λ(f:Field)=>(do pure (f.offset,<- sizeOf f.type):Sem (Nat×Nat)))).run P w=.ok ps w:=by
 induction fs generalizing ps with|nil=>simp only[placesOf,Option.some.injEq] at h;subst h;simp|cons f r ih =>simp only[placesOf] at h;split at h;simp_all[List.mapM_cons,jp,Qu,jk,jz];cases h
theorem J9{t:Nat}{z:List C}(h:zeroCells P t=some z):∃v,tyZero P t=some v/\v.cells=(z.map (C.den ε)).toArray:=by
 unfold zeroCells at h;split at h;rename_i v hv;cases h;exact⟨v,hv,by rw[Q2g]⟩;cases h
theorem Qf1(hs:SatE w0 st ε a w){t:Nat}{z cs:List C}{ps:List (Nat×SV)}(hz:zeroCells P t=some z)(hone:ps.all (partOne st)=true)(h:buildC P t z ps=some cs) :
 (Instr.build t (ps.map λx=>(x.1,x.2.den ε)).toArray).run P w=.ok (.agg (cs.map (C.den ε)).toArray) w:=by
  obtain⟨v,hv,hcells⟩:=J9 (ε:=ε) hz;have h1:∀i c,(i,SV.c c)∈ps->(c.den ε).cells=#[c.den ε]:=λi c hm=>Q4p (Gp hs.regs (List.all_eq_true.1 hone _ hm));unfold buildC at h;split at h;rename_i fs hst;split at h;rename_i places hpl;have hu:P.underlying t=some (.struct fs):=by grind[structOf]
  have hm:(fs.mapM (λ(f:Field)=>(do pure (f.offset,<- sizeOf f.type):Sem (Nat×Nat)))).run P w=.ok places.toArray w:=by rw[Array.mapM_eq_mapM_toList,Sem.run_map,Qhk hpl];rfl
  have hfill:=Q23 (ε:=ε) h (places.toArray[·]?) (λi p hp=>by rw[Qq] at hp;simpa using hp) h1;simp_all[Instr.build,jp,G7,jk,run_underlying,jz];cases h;split at h;rename_i n e harr;split at h;rename_i sz hsz;have hu:=Q0x harr;have hfill:=Q23 (ε:=ε) h (λi=>some (i * sz,sz)) (λi p hp=>by rw[Qq,jy] at hp;grind) h1;simp_all[Instr.build,jp,G7,jk,run_underlying,Qu,jz];cases h;cases h
end
section
variable {P:Program} {w0:Base} {st:St} {ε:Env} {a:Act} {w:World} {g:List (Nat×Bool)}
theorem Qbz{vs:List (Bool×List C)}{ix:Nat}{s:SV}(h:extractC vs ix=some s):(Instr.extract (SV.den ε (.tup vs)) ix).run P w=.ok (s.den ε) w:=by
 unfold extractC at h;split at h;rename_i cs hn;cases h;simp_all[Qq,Instr.extract,SV.den,denPart];rename_i c r hn;cases h;simp_all[Qq,Instr.extract,SV.den,denPart];cases h
theorem Qcn{op:BinOp}{t:Nat}{xs ys:List C}{s:SV}{vc:List Prop}{ox oy:Operand}(h:eqAggC P op t xs ys=some (s,vc)) :
 (do eqGuard op t ox oy (.agg (xs.map (C.den ε)).toArray) (.agg (ys.map (C.den ε)).toArray);binOp op t (.agg (xs.map (C.den ε)).toArray) (.agg (ys.map (C.den ε)).toArray):Sem Value).run P w=.ok (s.den ε) w:=by
  unfold eqAggC at h;split at h;rename_i fs hst;split at h;rename_i hc;simp only[jg,jC] at hc;split at h;rename_i r hr;split at h;cases h;simp only[jp,Zk t hc.2 (.inl rfl),jk,Q47,Q6s hst hc.1.1 hc.1.2 hr,jz,SV.den,C.den];cases h;simp only[jp,Zk t hc.2 (.inr rfl),jk,Q48,Q6s hst hc.1.1 hc.1.2 hr,jz,SV.den,C.den];cases h;cases h;cases h;split at h;rename_i n e hst;split at h;rename_i hc;simp only[jg,jC] at hc;split at h;rename_i r hr;split at h;cases h;simp only[jp,Zk t hc.2 (.inl rfl),jk,Q47,Q6t hst hc.1 hr,jz,SV.den,C.den];cases h;simp only[jp,Zk t hc.2 (.inr rfl),jk,Q48,Q6t hst hc.1 hr,jz,SV.den,C.den];cases h;cases h;cases h;cases h
theorem bound_sound(hs:SatE w0 st ε a w)(hg:gHolds a g){x:Option Operand}{d n:Int}(h:boundOf st g x d=some n) :
 (x=none/\n=d)\/∃o k,x=some o/\a.eval o=.int k n:=by
  unfold boundOf at h;split at h;cases h;exact .inl ⟨rfl,rfl⟩;rename_i o;split at h;rename_i k n' hc;cases h;exact .inr ⟨o,k,rfl,Qa hs hg hc⟩;cases h
theorem Qm{k:IntKind}{i:Int}{y:Nat}{code:BoundsCode}(h0:0<=i)(h1:i<=y):(Instr.sliceBound (.int k i) y code).run P w=.ok i.toNat w:=by
 simp_all[Instr.sliceBound,asIntOf,jp,jz,jk,if_pos,ji]
theorem Q98(hs:SatE w0 st ε a w)(hg:gHolds a g){t:Nat}{s:ByteArray}{lo hi:Option Operand}{l h:Int}(hu:P.underlying t=some .string)
 (hl:boundOf st g lo 0=some l) (hh:boundOf st g hi (s.size:Int)=some h) (hv:All [0<=l,l<=h,h<=(s.size:Int)]) :
 (Instr.sliceAt t (.string s) (lo.map a.eval) (hi.map a.eval) (Option.map a.eval none)).run P w=.ok (.string (s.extract l.toNat h.toNat)) w:=by
  have h0:0<=l:=hv.head;have h1:l<=h:=hv.tail.head;have h2:h<=(s.size:Int):=hv.tail.tail.one;simp only[Instr.sliceAt,Instr.slice,Instr.sliceBounds,jp,run_underlying hu,jk,Option.map_none,Option.isSome_none,jY,if_false,jz];rcases bound_sound hs hg hh with⟨rfl,rfl⟩|⟨o,k,rfl,he⟩<;>rcases bound_sound hs hg hl with⟨rfl,rfl⟩|⟨o',k',rfl,he'⟩;simp;simp_all[Qm];simp_all[Qm];have h3:l<=(h.toNat:Int):=by omega
  simp[he,he',Qm (P:=P) (w:=w) (k:=k) (code:=.sliceAlen) (by omega:0<=h) h2,Qm (P:=P) (w:=w) (k:=k') (code:=.sliceB) h0 h3]
theorem CK.vc_wf{c:CK}{x:c.α}(h:All (c.vc x)):c.wf x:=by
 cases c with|i k =>have:Fits k x:=h.one;show(Lit.int k x).wf=true;simp only[Lit.wf,jg,decide_eq_true_eq];exact this|s=>exact h.one|b=>trivial
theorem KA.vc_wf:∀(K:List CK) (x:KA K),All (KA.vc K x)->KA.wf K x:=by
 intro K;induction K with|nil=>intro x h;trivial|cons c r ih =>cases r with|nil=>intro x h;exact CK.vc_wf (c:=c) h|cons d r=>intro x h;exact⟨CK.vc_wf h.left,ih x.2 h.right⟩
theorem Qco(hs:SatE w0 st ε a w){t:Nat}{m:C}{x s:SV}{ok:Bool}{vc:List Prop}(h:lookupC P st t m x ok=some (s,vc))(hv:All vc) :
 (Instr.lookup t (m.den ε) (x.den ε) ok).run P w=.ok (s.den ε) w:=by
  unfold lookupC at h;split at h;rename_i r;split at h;rename_i T n has f it hr;split at h;rename_i q hT hk;cases h;have hP:T.P=P:=hv.right.one;have ht:=jf hT;obtain⟨h1,h2⟩:=MapAt.lookup (Qf hs hr) (KA.vc_wf _ _ hv.left);rw[hP,ht] at h1 h2;rw[Yx hk];cases ok with|false =>show(Instr.lookup t (ε.ent r).h (T.valK q) false).run P w=_;rw[h1,Qlk,KA.cs_den];rfl|true =>show(Instr.lookup t (ε.ent r).h (T.valK q) true).run P w=_;rw[h2];simp only[SV.den,jW,List.map_nil,Q39,KA.cs_den];rfl
  cases h;rename_i T z n ents hr;split at h;rename_i q hT hk;cases h;have hP:T.P=P:=hv.right.one;have ht:=jf hT;have h1:=MapV.lookup (Qf hs hr) (KA.vc_wf _ _ hv.left);rw[hP,ht] at h1;rw[Yx hk];show(Instr.lookup t (ε.ent r).h (T.valK q) false).run P w=_;rw[h1];simp only[SV.den,entV];cases entOf ents q<;>rfl;cases h;rename_i T ty size n f a' q' st' hr;split at h;rename_i q hT hk;cases h;have hP:T.P=P:=hv.right.head;have ha:a'=q:=hv.right.tail.one;subst ha;have ht:=jf hT;obtain⟨has,hd,fb,fps,g1,g2,g3,g4,g5,g6⟩:=Qf hs hr;have h1:=MapV.lookup g1 (KA.vc_wf _ _ hv.left);rw[hP,ht] at h1;rw[Yx hk];show(Instr.lookup t (ε.ent r).h (T.valK a') false).run P w=_;rw[h1,(g6 _ _ _ rfl).1];rfl;cases h;cases h;cases h
theorem Qak{M L:Nat->Prop}{rg0:List Reg}(hs:RegsOk ε M L w rg0){r:Nat}{s:SV}{vc:List Prop}:∀{l:List Reg} {j0:Nat},(∀k x,l[k]?=some x->rg0[j0+k]?=some x)->curOf P r l=some (s,vc)->All vc ->
 (Instr.entry (itPtr r)).run P w=.ok (s.den ε) w
 |[],_,_,h,_=>by cases h
 |x::l,j0,hl,h,hv=>by
  unfold curOf at h;split at h;rename_i heq;cases heq;rename_i T n has f r' left cnt q l' heq;cases h;cases heq;have hr:r=r':=hv.head;have hP:T.P=P:=hv.tail.one;have h0:=hs.reg j0 _ (by have:=hl 0 _ rfl;simpa using this);obtain⟨_,b,D,_,_,_,_,h5⟩:=h0;have h5:_/\_/\MRange w T b n D f ⟨r',left,cnt,some q,none⟩:=h5;have h6:=h5.2.2.cur q rfl;simp only at h6;rw[hP,<- hr] at h6;rw[h6];simp only[SV.den,jW,List.map_nil,Q39,KA.cs_den];rfl;rename_i y l' _ heq;cases heq;exact Qak hs (j0:=j0+1) (λk x hk=>by have:=hl (k+1) x (by simpa using hk);rw[show j0+1+k=j0+(k+1) by omega];exact this) h hv
theorem Qf2(hs:SatE w0 st ε a w){x:C}{s:SV}{vc:List Prop}(h:entryC P st x=some (s,vc))(hv:All vc) :
 (Instr.entry (x.den ε)).run P w=.ok (s.den ε) w:=by
  unfold entryC at h;split at h;rename_i j;split at h;rename_i r hr;have he:ε.at_ j=itPtr r:=Qf hs hr;show(Instr.entry (ε.at_ j)).run P w=_;rw[he];exact Qak hs.regs (j0:=0) (λk x hk=>by simpa using hk) h hv;cases h;cases h
theorem Zv (hs:SatE w0 st ε a w) (hg:gHolds a g) {o:Oper} {s:SV} {vc:List Prop} (h:pureOp P st g o=some (s,vc)) (hv:All vc) :
 (execOp a.eval o).run P w=.ok (.value (s.den ε)) w:=by
 obtain ⟨dst,op,type,pos,after,guard⟩:=o
 unfold pureOp at h
 simp only at h
 split at h
 ·-- move
  obtain ⟨s',h1,he⟩:=map_nil h
  grind [execOp,Qo,jz]
 ·-- assign
  obtain ⟨s',h1,he⟩:=map_nil h
  grind [execOp,Qo,jz]
 ·-- pick
  obtain ⟨s',h1,he⟩:=map_nil h
  cases he
  exact Qhj hs hg h1
 ·-- load
  split at h
  ·rename_i c hc
   simp only [execOp,Qa hs hg hc]
   exact Y6 (Q7y hs h hv)
  ·cases h
 ·-- nilCheck
  split at h<;>cases h
  case h_4 =>
   rename_i f b cs hc
   simp only [execOp,Qa hs hg hc]
   cases b<;>rfl
  all_goals (rename_i hc;simp only [execOp,Qa hs hg hc];rfl)
 ·-- binOp
  split at h
  ·rename_i x y hx hy
   obtain ⟨⟨c,vc'⟩,h1,he⟩:=map_nil h
   cases he
   simp only [execOp,Qo hs hg hx,Qo hs hg hy]
   exact Y6 (Qhi h1 hv)
  ·rename_i xs ys hx hy
   simp only [execOp,Qo hs hg hx,Qo hs hg hy]
   exact Y6 (Qcn h)
  ·cases h
 ·-- not
  split at h<;>cases h
  all_goals (rename_i hc;simp only [execOp,Qa hs hg hc];exact Y6 rfl)
 ·-- neg
  split at h
  ·rename_i k n hc
   have he:=Option.some.inj h
   simp only [execOp,Qa hs hg hc]
   exact Y6 (by simp [Op.unary,C.den,Op.intArith,Q4s (ε:=ε) he hv])
  ·cases h
 ·-- convert
  split at h
  ·rename_i k1 k k2 n h1 h2 hc
   have he:=Option.some.inj h
   simp only [execOp,Qa hs hg hc]
   refine Y6 ?_
   simp only [convert,jp,run_underlying h1,run_underlying h2,jk,C.den,Conv.intToInt,jz,Q4s (ε:=ε) he hv]
  ·cases h
 ·-- fieldAddr
  split at h
  ·rename_i c fd hc hf
   split at h
   ·rename_i hz
    obtain ⟨c',h1,he⟩:=map_nil h
    cases he
    simp only [execOp,Qa hs hg hc]
    exact Y6 (Qbx hf hz h1)
   ·cases h
  ·cases h
 ·-- field
  split at h
  ·rename_i cs fd hc hf
   obtain ⟨s',h1,he⟩:=map_nil h
   cases he
   simp only [execOp,Qo hs hg hc]
   exact Y6 (Qey hf h1)
  ·cases h
 ·-- indexAddr
  split at h
  ·rename_i c k i hc hi
   obtain ⟨⟨c',vc'⟩,h1,he⟩:=map_nil h
   cases he
   simp only [execOp,Qa hs hg hc,Qa hs hg hi]
   exact Y6 (Q7z hs h1 hv)
  ·cases h
 ·-- index
  split at h
  ·rename_i v k i hc hi
   simp only [execOp,Qo hs hg hc,Qa hs hg hi]
   exact Y6 (Qez h hv)
  ·cases h
 ·-- extract
  split at h
  ·rename_i vs hc
   obtain ⟨s',h1,he⟩:=map_nil h
   cases he
   simp only [execOp,Qo hs hg hc]
   exact Y6 (Qbz h1)
  ·cases h
 ·-- build
  rename_i t parts
  split at h
  ·rename_i z ps hz hp
   split at h
   ·rename_i hone
    obtain ⟨cs,h1,he⟩:=map_nil h
    cases he
    simp only [execOp]
    refine Y6 ?_
    have e:(parts.map fun (x:Nat×Operand)=>match x with | (i,x)=>(i,a.eval x))=(ps.map fun x=>(x.1,x.2.den ε)).toArray:=by
     grind [Q49,Array.ext',kK]
    rw [e]
    exact Qf1 hs hz hone h1
   ·cases h
  ·cases h
 ·-- slice of a string
  rename_i t x lo hi mx
  split at h
  ·rename_i c hst hc
   split at h
   ·rename_i y l n hy hlo hhi
    cases h
    have hu:P.underlying t=some .string:=by
     grind [isStrT]
    simp only [execOp,Qa hs hg hc,Gi hy]
    exact Y6 (Q98 hs hg hu (by simpa [hy] using hlo) (by simpa [hy] using hhi) hv)
   ·cases h
  ·cases h
 ·-- makeFunc
  rename_i f first caps
  split at h
  ·rename_i cs hf hc
   obtain ⟨rs,h1,he⟩:=map_nil h
   cases he
   simp only [execOp]
   refine Y6 ?_
   have e1:first.map a.eval=#[]:=by
    simp_all
   have e2:caps.map a.eval=(rs.map ε.at_).toArray:=by
    rw [← Q4q hs.regs h1,← Jm hs hg hc]
    apply Array.ext'
    rw [kK]
   rw [e1,e2]
   rfl
  ·rename_i x hf hc
   split at h
   ·rename_i cs hx
    obtain ⟨rs,h1,he⟩:=map_nil h
    cases he
    simp only [execOp]
    refine Y6 ?_
    have e1:first.map a.eval=(rs.map ε.at_).toArray:=by
     rw [← Q4q hs.regs h1,← Jm hs hg hx,← hf]
     apply Array.ext'
     rw [kK]
    have e2:caps.map a.eval=#[]:=by
     have h3:=Jm hs hg hc
     grind
    rw [e1,e2]
    rfl
   ·cases h
  ·cases h
 ·-- builtin
  exact Qby (args:=_) (ts:=_) hs hg h hv
 ·-- lookup
  split at h
  ·rename_i m x hm hx
   simp only [execOp,Qa hs hg hm,Qo hs hg hx]
   exact Y6 (Qco hs h hv)
  ·cases h
 ·-- entry
  split at h
  ·rename_i x hx
   simp only [execOp,Qa hs hg hx]
   exact Y6 (Qf2 hs h hv)
  ·cases h
 ·cases h
end
end Go.Tx
