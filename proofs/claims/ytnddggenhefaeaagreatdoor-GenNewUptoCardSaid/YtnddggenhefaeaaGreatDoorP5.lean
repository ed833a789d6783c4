/-
  A part of the proof. Text 5 of 10: SpecR5 SpecHt SpecLs SpecDm SpecLz SpecRi SpecLk SpecDl SpecR9 SpecRf SpecDs SpecSa SpecFa SpecMe SpecGn SpecGo SpecAl SpecCo SpecMa SpecB SpecC SpecD SpecE SpecF SpecG SpecH SpecI SpecJ SpecK SpecX SpecY SpecM SpecGr SpecRj SpecRk SpecRt SpecWy SpecGe Leaf124 Leaf Leaf2 Leaf3 Leaf4 Leaf74 Leaf75 SpecR SpecP SpecQ Leaf76 Leaf40 Leaf70.
-/
import Derived.Test.YtnddggenhefaeaaGreatDoorP4
import Derived.Test.YtnddggenhefaeaaGreatDoorP1
import Derived.Test.YtnddggenhefaeaaGreatDoorP3
set_option linter.unusedSimpArgs false
set_option linter.unusedVariables false
set_option maxHeartbeats 1000000
set_option maxHeartbeats 4000000
set_option linter.unusedSectionVars false
open List renaming range->jv,replicate->jd,length_replicate->ju,getD_eq_getElem?_getD->jc,getElem?_replicate->ke,length_set->jq,ext_getElem->ku,take_succ_eq_append_getElem->jF,take_of_length_le->jU,mem_singleton->jG,getElem?_eq_getElem->jh,getElem_mem->jT,length_map->jK,getElem?_map->jy,length_cons->kj,mem_cons_self->kb,mem_cons_of_mem->j7,drop_eq_nil_of_le->j4,length_take->jO,length_append->jm,length_singleton->jP,range_succ->kt,map_append->kG,getElem?_append_right->jJ,append_assoc->jM,append_nil->jR,getElem?_set_ne->j6,length_range->kz,mem_append->kq,mem_cons->kC,not_mem_nil->km,getElem?_set_self->kp
open Int renaming toNat_of_nonneg->jS,le_refl->jl,toNat_natCast->kE
open Bool renaming or_eq_true->jQ,and_eq_true->jg,not_eq_true'->jC,or_eq_false_iff->kg,not_eq_false'->j9,true_and->kr
open Nat renaming le_refl->jo,zero_le->jE,le_trans->kf
open Go.BinOp renaming and->kh,or->kF
open Go.IntKind renaming u32->jA,i64->jb,u8->jD
open Go.Value renaming int->jn,slice->je,bool->jL,string->jt
open Go.Proofs.Tryz renaming prog->ja
open And renaming intro->ji
open Inhabited renaming default->kQ
namespace Go
theorem W37{p:Prop}(h:p:=by simp only[Conj,Fits,Q6,Q7,Q8,Q9,News.len,maxLen]<;>(repeat' (first|apply And.intro|intro _))<;>grind):p:=h
theorem W68{p:Prop}(h:p:=by simp only[Conj]<;>(repeat' apply And.intro)<;>first|rfl|(exact Q05 (0:Int) (λn=>[.val (.int .i64 n)]) _ _ _ (by kernel_rfl))|(intro i h1 h2;exact absurd h1 (by simp;omega))):p:=h
theorem W70{p:Prop}(h:p:=by simp only[Conj];(repeat' apply And.intro)<;>(exact Eq.symm (by assumption))):p:=h
theorem W71{p:Prop}(h:p:=by simp only[Conj];first|exact Q8r h1|(rw[Q06 h1,hJ2.2.2.2];exact Qm2 W334 h4)|(rw[Q06 h1,hJ4.2.2.2];exact Qm4 (by have q:=of_decide_eq_true h5;omega) h6)|(rw[Q06 h1,hJ6.2.2.2];exact Qm6 (by have q:=of_decide_eq_true h7;omega) h8)|(rw[Q06 h1,hJ6.2.2.2,List.drop_eq_nil_of_le (by have q:=of_decide_eq_false h7;omega)];rfl)):p:=h
theorem W101{p:Prop}(h:p:=by first|decide|simp):p:=h
theorem W112{p:Prop}(h:p:=by simp only[Conj,nameB,byteAt,Int.toNat_zero] at *<;>first|(have hs:=Q3q s kU hA (by grind);simp only[byteAt] at *;grind)|(have he:=Qjc s kU (by grind);grind)|grind):p:=h
theorem W113{p:Prop}(h:p:=by simp only[Conj];(try subst hs1);first|(simp[prtN, *];done)|(exact Qlz hs1 h2)|(exact Qm0 hs1 h2)):p:=h
theorem W116{p:Prop}(h:p:=by simp only[Conj,Fits,Q6,Q7,Q8,Q9,News.len,maxLen]<;>(repeat' apply And.intro)<;>first|exact Qkg|grind):p:=h
theorem W138{p:Prop}(h:p:=by simp only[Conj,wordB] at *<;>grind):p:=h
theorem W147{p:Prop}(h:p:=by simp only[Conj];first|exact Qa5 (by simp at h1;omega)|exact Q7p hJ2.2.2.1 hJ2.2.2.2 h3|exact Qa6 (by show ¬((rd X (.slice A nn cc)).getD kU.toNat 0=now.getD kU.toNat 0);simpa only[Bool.not_eq_true',decide_eq_false_iff_not] using h4)):p:=h
theorem W160{p:Prop}(h:p:=by(first|rw[hJ1.found (of_decide_eq_true h2) (of_decide_eq_true h3)]|rw[hJ1.done (of_decide_eq_false h2)])<;>(try simp only[Conj])<;>(repeat' apply And.intro)<;>rfl):p:=h
theorem W164{p:Prop}(h:p:=by first|assumption|exact hs _|exact hl _|exact hg _|(have hm:=Q1u h1;simp only[maxLen];omega)):p:=h
theorem W187{p:Prop}(h:p:=by simp only[Conj,Fits,Q6,Q7,Q8,Q9];grind):p:=h
theorem W214{p:Prop}(h:p:=by simp only[Conj,Fits,Q6,Q7,Q8,Q9,News.len,maxLen]<;>(repeat' apply And.intro)<;>(have z:=hJ1.1;have z1:=hJ1.2.1;exact W326)):p:=h
theorem W233{p:Prop}(h:p:=by have:=of_decide_eq_true h;omega):p:=h
theorem W266{p:Prop}(h:p:=by simp only[Conj];(repeat' apply And.intro)<;>first|omega|(exact hn1 h2)|(intros;simp)):p:=h
theorem W325{p:Prop}(h:p:=by(try simp only[decide_eq_true_eq] at *);omega):p:=h
theorem W326{p:Prop}(h:p:=by have q:=of_decide_eq_true h2;omega):p:=h
theorem W334{p:Prop}(h:p:=by have q:=of_decide_eq_true h3;omega):p:=h
end Go
noncomputable section
namespace Go.Proofs.YtnddggenhefaeaaGreatDoor
open Go Go.Tx
def useR(n:Nod)(s:Int):Bool:=if n.kind=1 then(n.a.slotted&&decide (n.a.slot=s))||(twoB n.op&&(n.b.slotted&&decide (n.b.slot=s))) else if n.kind=3\/n.kind=4\/n.kind=7\/n.kind=8 then n.a.slotted&&decide (n.a.slot=s) else false
def dfR(n:Nod)(s:Int):Bool:=dfB n&&decide (n.slot=s)
theorem Qsj(v:Vl)(s:Int):(v.slotted&&decide (v.slot=s))=decide (s∈vlL v):=by
 unfold vlL;cases v.slotted;simp;simp[eq_comm]
theorem Qa0(n:Nod)(s:Int):useR n s=decide (s∈useL n):=by
 grind[useR,useL,Qsj,twoB]
def behR(out:List Bo)(n:Nod):Bool:=(flwL n).any λk=>(out.getD k.toNat kQ).b
def ahR(out:List Bo)(n:Nod)(s:Int):Bool:=useR n s||(!dfR n s&&behR out n)
noncomputable def lvL(l:List Nod)(s:Int):List Bo:=(jv l.length).map λi=>⟨liveS l i s.toNat⟩
theorem Qga(l:List Nod)(s:Int):(lvL l s).length=l.length:=by
 unfold lvL;simp
theorem Qgb{l:List Nod}{s:Int}{i:Nat}(h:i<l.length):((lvL l s).getD i kQ).b=liveS l i s.toNat:=by
 unfold lvL;grind
theorem Qb6{l:List Nod}{i s:Nat}:liveS l i s=true↔Go.Lv.Live (lvG l) i s:=by
 show @decide _ (Classical.propDecidable _)=true↔_;exact @decide_eq_true_iff _ (Classical.propDecidable _)
structure LoJ(l:List Nod)(s:Int)(out:List Bo):Prop where
 len:out.length=l.length
 lo:∀i:Nat,(out.getD i default).b=true->Go.Lv.Live (lvG l) i s.toNat
def FixR(l:List Nod)(s:Int)(out:List Bo)(i:Nat):Prop:=((rchL l).getD i kQ).b=true->ahR out (l.getD i kQ) s=true->(out.getD i kQ).b=true
section
variable {l:List Nod} {s:Int} {out out0:List Bo} {i:Nat}
theorem LoJ.start(l:List Nod)(s:Int):LoJ l s (jd l.length ⟨false⟩):=⟨ju,λi h=>by rw[jc,ke] at h;split at h<;>cases h⟩
theorem LoJ.put(h:LoJ l s out)(hs:0<=s)(hi:i<l.length)(hr:((rchL l).getD i kQ).b=true)(ha:ahR out (l.getD i kQ) s=true):LoJ l s (out.set i ⟨true⟩):=by
 have e:((s.toNat:Nat):Int)=s:=jS hs;refine⟨by rw[jq,h.len],λj hj=>?_⟩;rw[Qk _ _ _ _ _ (by rw[h.len];exact hi)] at hj;split at hj;rename_i q;subst q;have hre:(lvG l).re j=true:=by show(decide (j<l.length)&&_)=true;rw[decide_eq_true hi,hr];rfl
 unfold ahR at ha;rw[jQ,jg,jC] at ha;rcases ha with ha|⟨h1,h2⟩;rw[Qa0] at ha;exact .use hre (by show decide _=true;rw[e];exact ha);obtain⟨k,hk,hb⟩:=List.any_eq_true.1 h2;exact .pass (k:=k.toNat) hre (by show(dfB _&&decide _)=false;rw[e];exact h1) (List.mem_map.2 ⟨k,(G0 _ _).2 hk,rfl⟩) (h.lo _ hb);exact h.lo j hj
theorem LoJ.done(h:LoJ l s out)(hs:0<=s)(hf:∀j:Nat,j<l.length->FixR l s out j):out=lvL l s:=by
 have e:((s.toNat:Nat):Int)=s:=jS hs;have up:∀i t,Go.Lv.Live (lvG l) i t->t=s.toNat->(out.getD i kQ).b=true:=λi t q=>by induction q with|use hr hu =>intro et;subst et;have hr:(decide (_<l.length)&&_)=true:=hr;rw[jg] at hr;refine hf _ (kR hr.1) hr.2 ?_;have hu:decide (((s.toNat:Nat):Int)∈_)=true:=hu;rw[e] at hu;unfold ahR;rw[Qa0,hu];rfl|pass hr hd hk t ih =>intro et;have z:=ih et;subst et;have hr:(decide (_<l.length)&&_)=true:=hr;rw[jg] at hr;refine hf _ (kR hr.1) hr.2 ?_;have hd:(dfB _&&decide (_=((s.toNat:Nat):Int)))=false:=hd;rw[e] at hd;obtain⟨k2,hk2,rfl⟩:=List.mem_map.1 hk;unfold ahR dfR;rw[hd];have:behR out _=true:=List.any_eq_true.2 ⟨k2,(G0 _ _).1 hk2,z⟩;rw[this];simp
 refine ku (by rw[h.len,Qga]) λi h1 h2=>?_;have hi:i<l.length:=by rw[<- h.len];exact h1
 have a:out[i]=out.getD i default:=(Qc h1).symm;have b:(lvL l s)[i]=(lvL l s).getD i default:=(Qc h2).symm;rw[a,b];have c:(out.getD i kQ).b=((lvL l s).getD i kQ).b:=by rw[Qgb hi];cases q:(out.getD i kQ).b with|true=>exact(Qb6.2 (h.lo i q)).symm|false =>cases r:liveS l i s.toNat with|false=>rfl|true=>rw[up i _ (Qb6.1 r) rfl] at q;cases q
 cases x:out.getD i kQ;simp_all
structure LiJ(l:List Nod)(s:Int)(out0:List Bo)(x:Int)(ag:Bool)(out:List Bo):Prop where
 lo:LoJ l s out
 x0:0<=x
 xl:x<=(l.length:Int)
 le:falses out<=falses out0
 lt:ag=true->falses out<falses out0
 same:ag=false->out=out0
 fix:ag=false->∀j:Nat,j<x.toNat->FixR l s out j
variable {x:Int} {ag:Bool}
theorem LiJ.start(h:LoJ l s out):LiJ l s out 0 false out:=⟨h,jl _,by omega,jo _,λq=>(by cases q),λ_=>rfl,λ_ j hj=>absurd hj W207⟩
theorem LiJ.keep(h:LiJ l s out0 x ag out)(hx:x<(l.length:Int))(hf:FixR l s out x.toNat):LiJ l s out0 (x+1) ag out:=by
 have h0:=h.x0;refine⟨h.lo,by omega,by omega,h.le,h.lt,h.same,λq j hj=>?_⟩;by_cases e:j<x.toNat;exact h.fix q j e;rw[show j=x.toNat by omega];exact hf
theorem LiJ.skip(h:LiJ l s out0 x ag out)(hx:x<(l.length:Int))(hb:(!((rchL l).getD x.toNat kQ).b||(out.getD x.toNat kQ).b)=true):LiJ l s out0 (x+1) ag out:=h.keep hx λhr _=>by
 rw[hr] at hb;simpa using hb
theorem LiJ.set(h:LiJ l s out0 x ag out)(hs:0<=s)(hx:x<(l.length:Int))(hb:(!((rchL l).getD x.toNat kQ).b||(out.getD x.toNat kQ).b)=false)(ha:ahR out (l.getD x.toNat kQ) s=true):LiJ l s out0 (x+1) true (out.set x.toNat ⟨true⟩):=by
 have h0:=h.x0;rw[kg,j9] at hb;have f:=Yf (l:=out) (i:=x.toNat) (by rw[h.lo.len];omega) hb.2;have le:=h.le;exact⟨h.lo.put hs W48 hb.1 ha,by omega,by omega,by omega,λ_=>W48,λq=>(by cases q),λq=>(by cases q)⟩
def IsJ(out:List Bo)(n:Nod)(s:Int)(j:Int)(b:Bool):Prop:=0<=j/\j<=((flwL n).length:Int)/\b=(useR n s||((flwL n).take j.toNat).any λk=>(out.getD k.toNat kQ).b)
theorem IsJ.start(out:List Bo)(n:Nod)(s:Int):IsJ out n s 0 (useR n s):=⟨jl _,by omega,by simp⟩
theorem IsJ.next{n:Nod}{j:Int}{b:Bool}(h:IsJ out n s j b)(hj:j<((flwL n).length:Int)):IsJ out n s (j+1) (b||(out.getD ((flwL n).getD j.toNat 0).toNat kQ).b):=by
 have h0:=h.1;have hi:j.toNat<(flwL n).length:=by omega
 refine⟨by omega,by omega,?_⟩;rw[h.2.2,show(j+1).toNat=j.toNat+1 by omega,jF hi,List.any_append,Qc hi,Bool.or_assoc];simp
theorem IsJ.done{n:Nod}{j:Int}{b:Bool}(h:IsJ out n s j b)(hj:¬j<((flwL n).length:Int))(hd:(!dfR n s)=true):b=ahR out n s:=by
 have h1:=h.2.1;rw[h.2.2,jU W48];unfold ahR;rw[hd];rfl
theorem ah_d{n:Nod}(hd:(!dfR n s)=false):useR n s=ahR out n s:=by
 unfold ahR;rw[hd];simp
theorem LiJ.no(h:LiJ l s out0 x ag out)(hx:x<(l.length:Int))(ha:ahR out (l.getD x.toNat kQ) s=false):LiJ l s out0 (x+1) ag out:=h.keep hx λ_ q=>by
 rw[ha] at q;cases q
theorem LiJ.end_(h:LiJ l s out0 x false out)(hs:0<=s)(hx:¬x<(l.length:Int)):out=lvL l s:=h.lo.done hs λj hj=>h.fix rfl j (by have:=h.x0;omega)
def LrJ(l:List Nod)(s:Int)(ag:Bool)(out:List Bo):Prop:=LoJ l s out/\(ag=false->out=lvL l s)
def lrM(ag:Bool)(out:List Bo):Nat:=2 * falses out+(if ag then 1 else 0)
theorem LiJ.round(h:LiJ l s out0 x ag out)(hs:0<=s)(hx:¬x<(l.length:Int)):LrJ l s ag out/\lrM ag out<lrM true out0:=by
 refine⟨⟨h.lo,λq=>?_⟩,?_⟩;subst q;exact h.end_ hs hx;unfold lrM;have le:=h.le;cases ag with|true=>have:=h.lt rfl;simp;omega|false=>simp;omega
end
noncomputable def ovR(l:List Nod)(b:List Bo)(a:Int):Bool:=(jv l.length).any λi=>((rchL l).getD i kQ).b&&dfR (l.getD i kQ) a&&behR b (l.getD i kQ)
noncomputable def clR(l:List Nod)(a b:Int):Bool:=!decide (a=b)&&(ovR l (lvL l b) a||ovR l (lvL l a) b)
theorem Qjy{α:Type}(p q:α->Bool):∀l:List α,(l.any p||l.any q)=l.any λx=>p x||q x
 |[]=>rfl
 |x::l=>by
  rw[List.any_cons,List.any_cons,List.any_cons,<- Qjy p q l];cases p x<;>cases q x<;>simp
section
variable {l:List Nod}
theorem Qsk(hq:∀i:Nat,i<l.length->∀x∈flwL (l.getD i kQ),0<=x/\x<(l.length:Int)){i:Nat}(hi:i<l.length)(s:Int):behR (lvL l s) (l.getD i kQ)=Go.Lv.behind (lvG l) (liveS l) i s.toNat:=by
 unfold behR Go.Lv.behind;show _=((flrL (l.getD i kQ)).map Int.toNat).any _;rw[List.any_map];have e:∀p:Int->Bool,(flwL (l.getD i kQ)).any p=(flrL (l.getD i kQ)).any p:=λp=>by rw[Bool.eq_iff_iff,List.any_eq_true,List.any_eq_true];grind[G0]
 grind[Jj,G0,Qgb]
theorem Qsl(hq:∀i:Nat,i<l.length->∀x∈flwL (l.getD i kQ),0<=x/\x<(l.length:Int))(a b:Int):clR l a b=clE l a b:=by
 unfold clR clE ovR;congr 1;rw[Qjy];refine Jj λi hi=>?_;grind[Qsk,dfR,rchL,default,dfB]
def OvJ(l:List Nod)(b:List Bo)(a:Int)(x:Int):Prop:=0<=x/\x<=(l.length:Int)/\∀j:Nat,j<x.toNat->(((rchL l).getD j kQ).b&&dfR (l.getD j kQ) a&&behR b (l.getD j kQ))=false
variable {b:List Bo} {a x:Int}
theorem OvJ.start(l:List Nod)(b:List Bo)(a:Int):OvJ l b a 0:=⟨jl _,by omega,λj hj=>absurd hj W207⟩
theorem OvJ.next(h:OvJ l b a x)(hx:x<(l.length:Int))(hn:(((rchL l).getD x.toNat kQ).b&&dfR (l.getD x.toNat kQ) a&&behR b (l.getD x.toNat kQ))=false):OvJ l b a (x+1):=by
 have h0:=h.1;refine⟨by omega,by omega,λj hj=>?_⟩;by_cases e:j<x.toNat;exact h.2.2 j e;rw[show j=x.toNat by omega];exact hn
theorem OvJ.skip(h:OvJ l b a x)(hx:x<(l.length:Int))(hn:(!((rchL l).getD x.toNat kQ).b||!dfR (l.getD x.toNat kQ) a)=true):OvJ l b a (x+1):=h.next hx (by grind)
theorem OvJ.done(h:OvJ l b a x)(hx:¬x<(l.length:Int)):false=ovR l b a:=by
 symm;unfold ovR;rw[List.any_eq_false];intro j hj;rw[h.2.2 j (by have:=List.mem_range.1 hj;have:=h.1;omega)];decide
theorem OvJ.yes(h:OvJ l b a x)(hx:x<(l.length:Int))(hn:(!((rchL l).getD x.toNat kQ).b||!dfR (l.getD x.toNat kQ) a)=false){k:Int}(h0:0<=k)(hk:k<((flwL (l.getD x.toNat kQ)).length:Int))(hb:(b.getD ((flwL (l.getD x.toNat kQ)).getD k.toNat 0).toNat kQ).b=true):true=ovR l b a:=by
 symm;unfold ovR;have h1:=h.1;refine List.any_eq_true.2 ⟨x.toNat,List.mem_range.2 W48,?_⟩;have e:behR b (l.getD x.toNat kQ)=true:=List.any_eq_true.2 ⟨_,Qn hk h0,hb⟩;grind
def BeJ(b:List Bo)(n:Nod)(k:Int):Prop:=0<=k/\k<=((flwL n).length:Int)/\∀j:Nat,j<k.toNat->(b.getD ((flwL n).getD j 0).toNat kQ).b=false
theorem BeJ.start(b:List Bo)(n:Nod):BeJ b n 0:=⟨jl _,by omega,λj hj=>absurd hj W207⟩
theorem BeJ.next{n:Nod}{k:Int}(h:BeJ b n k)(hk:k<((flwL n).length:Int))(hb:(b.getD ((flwL n).getD k.toNat 0).toNat kQ).b=false):BeJ b n (k+1):=by
 have h0:=h.1;refine⟨by omega,by omega,λj hj=>?_⟩;by_cases e:j<k.toNat;exact h.2.2 j e;rw[show j=k.toNat by omega];exact hb
theorem BeJ.done{n:Nod}{k:Int}(h:BeJ b n k)(hk:¬k<((flwL n).length:Int)):behR b n=false:=by
 unfold behR;rw[List.any_eq_false];intro y hy;obtain⟨j,hj,rfl⟩:=List.mem_iff_getElem.1 hy;have z:=h.2.2 j (by have:=h.1;omega);rw[Qc hj] at z;rw[z];decide
end
theorem Qgc(n:Nod)(s:Int):s∈slL n↔(useR n s||dfR n s)=true:=by
 rw[Qa0];unfold slL dfR;grind
structure WrJ(l:List Nod)(s:Int)(x w:Int):Prop where
 x0:0<=x
 xl:x<=(l.length:Int)
 w0:0<=w
 wl:w<=4096 * x
 pos:0<w↔∃j:Nat,j<x.toNat/\((rchL l).getD j default).b=true/\s∈slL (l.getD j default)
section
variable {l:List Nod} {s x w k:Int}
theorem WrJ.start(l:List Nod)(s:Int):WrJ l s 0 0:=⟨jl _,by omega,jl _,by omega,⟨λh=>absurd h W48,λ⟨j,hj,_⟩=>absurd hj W207⟩⟩
theorem WrJ.next(h:WrJ l s x w)(hx:x<(l.length:Int)){v:Int}(hv:w<=v/\v<=w+4096)(hp:w<v↔((rchL l).getD x.toNat kQ).b=true/\s∈slL (l.getD x.toNat kQ)):WrJ l s (x+1) v:=by
 have h0:=h.x0;have h1:=h.w0;have h2:=h.wl;refine⟨by omega,by omega,by omega,by omega,⟨λq=>?_,λ⟨j,hj,q⟩=>?_⟩⟩;by_cases e:w<v;exact⟨x.toNat,by omega,hp.1 e⟩;obtain⟨j,hj,q⟩:=h.pos.1 W48;exact⟨j,by omega,q⟩;by_cases e:j<x.toNat;have:=h.pos.2 ⟨j,e,q⟩;omega;grind
theorem WrJ.done(h:WrJ l s x w)(hs:0<=s)(hx:¬x<(l.length:Int)):0<=w/\decide (0<w)=useS l s.toNat:=by
 refine⟨h.w0,?_⟩;have h0:=h.x0;have h1:=h.xl;have e:((s.toNat:Nat):Int)=s:=jS hs;have ex:x.toNat=l.length:=by omega
 have p:=h.pos;grind[useS]
theorem WrJ.skip(h:WrJ l s x w)(hx:x<(l.length:Int))(hb:(((rchL l).getD x.toNat kQ).b&&(useR (l.getD x.toNat kQ) s||dfR (l.getD x.toNat kQ) s))=false):WrJ l s (x+1) w:=h.next hx ⟨jl _,by omega⟩ ⟨λq=>absurd q W48,λq=>by rw[(Qgc _ _).1 q.2,q.1] at hb;cases hb⟩
theorem WrJ.add(h:WrJ l s x w)(hx:x<(l.length:Int))(hb:(((rchL l).getD x.toNat kQ).b&&(useR (l.getD x.toNat kQ) s||dfR (l.getD x.toNat kQ) s))=true)(hk:1<=k/\k<=4096):WrJ l s (x+1) (w+k):=h.next hx ⟨by omega,by omega⟩ ⟨λ_=>by simp_all[jg,Qgc],λ_=>by omega⟩
end
def plE(p q:Plc):Bool:=decide (p.cell=q.cell)&&decide (p.n=q.n)
noncomputable def badP(l:List Nod)(ps:List Plc)(a b:Nat):Bool:=plE (ps.getD a kQ) (ps.getD b kQ)&&useS l a&&useS l b&&clE l a b
theorem Qgd(l:List Nod)(ps:List Plc)(m:Nat):okS l ps m=true↔∀a:Nat,a<m->∀b:Nat,b<a->badP l ps a b=false:=by
 unfold okS;rw[List.all_eq_true];constructor;intro h a ha b hb;have z:=h a (List.mem_range.2 ha);unfold badP;cases u:useS l a with|false=>simp|true =>rw[u] at z;simp only[Bool.not_true,Bool.false_or,jC,List.any_eq_false] at z;by_cases q:useS l b=true/\plE (ps.getD a kQ) (ps.getD b kQ)=true;(have hm:((b:Nat):Int)∈atL l ps a ((ps.getD a kQ).cell,(ps.getD a kQ).n):=by unfold atL;refine List.mem_map.2 ⟨b,List.mem_filter.2 ⟨List.mem_range.2 hb,?_⟩,rfl⟩;simp_all[plE,jg,decide_eq_true_eq]);grind;grind
 intro h a ha;have ha:=List.mem_range.1 ha;cases u:useS l a with|false=>simp|true =>simp only[Bool.not_true,Bool.false_or,jC,List.any_eq_false];intro k hk;unfold atL at hk;obtain⟨b,hb,rfl⟩:=List.mem_map.1 hk;simp_all[jg,decide_eq_true_eq,Prod.mk.injEq,badP,plE]
def hpos(l:List Int):Prop:=∀x∈l,0<=x/\x<64
def rdsQ(X:Ext)(V:List Hdl):Prop:=∀l∈rds X V,hpos l
def thQ(ns:List Nod):Prop:=∀i:Nat,i<ns.length->(ns.getD i kQ).kind=5->0<=(ns.getD i kQ).thing/\(ns.getD i kQ).thing<64
theorem Qmp:hpos []:=λx h=>by
 cases h
theorem Qmq{nd:Nod}{l nw:List Int}(h:nowH nd l=some nw)(hl:hpos l)(ht:nd.kind=5->0<=nd.thing/\nd.thing<64):hpos nw:=by
 unfold nowH at h;split at h;rename_i e;cases h;intro x hx;rcases List.mem_append.1 hx with q|q;exact hl x q;rw[jG] at q;subst q;exact ht e;split at h;split at h;cases h;cases h;exact λx hx=>hl x (List.mem_of_mem_take hx);split at h;cases h;cases h;exact hl
structure HJt(ns:List Nod)(k:Int)(X:Ext)(V:List Hdl)(n:Nat)(F:HF)(T:List Int):Prop extends HJ ns k X V n F T where
 q:rdsQ X V
structure HKt(ns:List Nod)(k:Int)(nd:Nod)(nw:List Int)(i:Int)(X:Ext)(V:List Hdl)(n:Nat)(F:HF)(T:List Int):Prop extends HK ns k nd nw i X V n F T where
 q:rdsQ X V
 nq:hpos nw
theorem HJt.start{ns:List Nod}(h:1<=ns.length)(X:Ext):HJt ns 0 X (jd ns.length Hdl.none) 1 (λq=>if q=0 then some true else none) [0]:=
 ⟨HJ.start h X,by unfold rdsQ;rw[Q7j];intro l hl;rw[List.eq_of_mem_replicate hl];exact Qmp⟩
section
variable {ns:List Nod} {k:Int} {X:Ext} {V:List Hdl} {n:Nat} {F:HF} {T:List Int}
theorem HJt.inner(h:HJt ns k X V n F T)(ht:thQ ns)(hk:k<(T.length:Int)){nw:List Int}(hn:nowH (ns.getD (T.getD k.toNat 0).toNat kQ) (rd X (V.getD (T.getD k.toNat 0).toNat kQ).v)=some nw) :
 HKt ns k (ns.getD (T.getD k.toNat 0).toNat kQ) nw 0 X V n F T:=
 ⟨h.toHJ.inner hk hn,h.q,Qmq hn (by rw[<- h.toHJ.get hk];have hat:=h.toHJ.at_ hk;(have hl:(T.getD k.toNat 0).toNat<(rds X V).length:=by rw[Q0s,h.toHJ.len];omega);rw[jc,jh hl];exact h.q _ (jT hl)) (ht _ (by have:=h.toHJ.at_ hk;omega))⟩
theorem HJt.fin(h:HJt ns k X V n F T)(hN:ns.length<=4096):(V.map λv=>Iln.mk (rd X v.v)).length=ns.length/\∀i:Nat,i<ns.length->hpos ((V.map λv=>Iln.mk (rd X v.v)).getD i kQ).l/\((V.map λv=>Iln.mk (rd X v.v)).getD i kQ).l.length<=4096:=by
 have hl:=h.toHJ.len;refine⟨by rw[jK,hl],λi hi=>?_⟩;have e:((V.map λv=>Iln.mk (rd X v.v)).getD i kQ).l=(rds X V).getD i []:=by rw[Ji X V i W48,jc,jy,jh (by omega:i<V.length),jc,jh (by omega:i<V.length)];rfl
 rw[e];refine⟨?_,?_⟩;have hl2:i<(rds X V).length:=by rw[Q0s];omega
 rw[jc,jh hl2];exact h.q _ (jT hl2);have:=h.toHJ.inv.short i;have:=h.kn;have:=h.k0;omega
end
section
variable {ns:List Nod} {k:Int} {nd:Nod} {nw:List Int} {i:Int} {X:Ext} {V:List Hdl} {n:Nat} {F:HF} {T:List Int}
theorem HKt.put(h:HKt ns k nd nw i X V n F T)(hi:i<((flwL nd).length:Int))(hq:∀x∈flwL nd,0<=x/\x<(ns.length:Int))(hf:(!(F ((flwL nd).getD i.toNat 0)).getD false)=true){X':Ext}{A:Option Addr}{c:Nat}(hin:X.Into X')
 (ht:X'.Tab (.slice A nw.length c) 1 nw.length (λj=>i64T (nw.getD j 0))) :
 HKt ns k nd nw (i+1) X' (V.set ((flwL nd).getD i.toNat 0).toNat ⟨A,nw.length,c⟩) (n+1) (λa=>if a=(flwL nd).getD i.toNat 0 then some true else F a) (T++[(flwL nd).getD i.toNat 0]):=
 ⟨h.toHK.put hi hq hf hin ht,by unfold rdsQ;rw[(Qdk hin h.all ht ((flwL nd).getD i.toNat 0).toNat).2];intro l hl;rcases List.mem_or_eq_of_mem_set hl with q|q;exact h.q l q;rw[q];exact h.nq,h.nq⟩
theorem HKt.skip(h:HKt ns k nd nw i X V n F T)(hi:i<((flwL nd).length:Int))(hq:∀x∈flwL nd,0<=x/\x<(ns.length:Int))(hf:(!(F ((flwL nd).getD i.toNat 0)).getD false)=false)(he:(!decide (rd X (V.getD ((flwL nd).getD i.toNat 0).toNat kQ).v=nw))=false) :
 HKt ns k nd nw (i+1) X V n F T:=⟨h.toHK.skip hi hq hf he,h.q,h.nq⟩
theorem HKt.done(h:HKt ns k nd nw i X V n F T)(hi:¬i<((flwL nd).length:Int)):HJt ns (k+1) X V n F T:=⟨h.toHK.done hi,h.q⟩
end
theorem Qpv(X:Ext)(V:List Hdl):∀i:Nat,i<(V.map λv=>Iln.mk (rd X v.v)).length->((V.map λv=>Iln.mk (rd X v.v)).getD i kQ).tc=(Iln.mk (rd X (V.getD i kQ).v)).tc:=λi hi=>by
 grind
theorem Qge:IntKind.u32.min=0:=by
 decide
theorem Qgf:IntKind.u32.max=4294967295:=by
 decide
def lsQ(l:Int)(o:List Int):Prop:=(l≠0->1<=o.length)/\∀x∈o,0<=x/\x<=255
theorem Qsm{n:Int}(h:0<=n/\n<4294967296):IntKind.u32.wrap n=n:=by
 grind[IntKind.wrap,IntKind.signed,IntKind.bits]
theorem Qsn{a b:Int}(ha:0<=a/\a<4294967296)(hb:0<=b/\b<4294967296):0<=bits kh jA a b/\bits kh jA a b<=b/\bits kh jA a b<=a:=by
 obtain⟨n,rfl⟩:=Int.eq_ofNat_of_zero_le ha.1;obtain⟨m,rfl⟩:=Int.eq_ofNat_of_zero_le hb.1;have e:bits kh jA (n:Int) (m:Int)=((n &&& m:Nat):Int):=by(have h1:(BitVec.ofInt 32 (n:Int)).toNat=n:=by grind);(have h2:(BitVec.ofInt 32 (m:Int)).toNat=m:=by grind);show IntKind.u32.wrap ((BitVec.ofInt 32 (n:Int) &&& BitVec.ofInt 32 (m:Int)).toNat:Int)=_;grind[BitVec.toNat_and,Nat.and_le_left,Qsm]
 grind[Nat.and_le_left,Nat.and_le_right]
structure LsJ(l:Int)(x:List Int×Int):Prop where
 lo:0<=x.2/\x.2<4294967296
 sum:(x.1.length:Int)+x.2<=l
 one:1<=x.1.length\/x.2=l
 rng:∀y∈x.1,0<=y/\y<=255
theorem LsJ.start{l:Int}(h:0<=l/\l<4294967296):LsJ l ([],l):=⟨h,by simp,.inr rfl,λy h=>by cases h⟩
theorem LsJ.next{l:Int}{x:List Int×Int}(h:LsJ l x)(hn:(!decide (x.2=(0:Int)))=true){k:Int}(hk:0<=k/\k<=255):LsJ l (x.1++[k],bits kh jA x.2 (x.2-1))/\(bits kh jA x.2 (x.2-1)).toNat<x.2.toNat:=by
 have hn:x.2≠0:=by simpa using hn
 have h0:=h.lo;have hs:=h.sum;have z:=Qsn (a:=x.2) (b:=x.2-1) h0 W48;refine⟨⟨⟨z.1,by omega⟩,by simp;omega,.inl W207,λy hy=>?_⟩,by omega⟩;rcases List.mem_append.1 hy with q|q;exact h.rng y q;rw[jG] at q;subst q;exact hk
theorem LsJ.done{l:Int}{x:List Int×Int}(h:LsJ l x)(hn:(!decide (x.2=(0:Int)))=false):lsQ l x.1:=by
 have hn:x.2=0:=by simpa using hn
 refine⟨λhl=>?_,h.rng⟩;rcases h.one with q|q;exact q;omega
end Go.Proofs.YtnddggenhefaeaaGreatDoor
end
namespace Go.Dm
structure Gr where
 n:Nat
 pre:Nat->List Nat
 ord:List Nat
 pl:Nat->Nat
structure Gr.Ok(g:Gr):Prop where
 lt:∀m,m∈g.ord->m<g.n
 root:0∈g.ord
 rootP:g.pl 0=0
 pos:∀m,m∈g.ord->m≠0->0<g.pl m
 inj:∀a b,a∈g.ord->b∈g.ord->g.pl a=g.pl b->a=b
 closed:∀p q,p∈g.ord->q<g.n->p∈g.pre q->q∈g.ord
abbrev Tree:=Nat->Option Nat
inductive Anc(o:Tree):Nat->Nat->Prop
 |refl (m:Nat):Anc o m m
 |up {m p a:Nat} (h0:m≠0) (h:o m=some p) (t:Anc o p a):Anc o m a
inductive Pth(g:Gr):List Nat->Nat->Nat->Prop
 |nil:Pth g [0] 0 0
 |snoc {l:List Nat} {k p q:Nat} (t:Pth g l k p) (hq:q<g.n) (h:p∈g.pre q):Pth g (q::l) (k+if g.pl p<g.pl q then 0 else 1) q
inductive Wy(g:Gr)(b:Nat):Nat->Prop
 |base:Wy g b b
 |step {p q:Nat} (t:Wy g b p) (hq:q<g.n) (h:p∈g.pre q) (hl:g.pl b<g.pl q):Wy g b q
def Dom(g:Gr)(d m:Nat):Prop:=∀l k,Pth g l k m->d∈l
variable {g:Gr} {o:Tree}
theorem Pth.mem(hg:g.Ok){l:List Nat}{k m:Nat}(h:Pth g l k m):m∈g.ord:=by
 induction h with|nil=>exact hg.root|snoc t hq h ih=>exact hg.closed _ _ ih hq h
theorem Pth.all(hg:g.Ok){l:List Nat}{k m:Nat}(h:Pth g l k m):∀x∈l,x∈g.ord:=by
 induction h with|nil=>intro x hx;simp at hx;subst hx;exact hg.root|snoc t hq h ih =>intro x hx;rcases List.mem_cons.1 hx with rfl|hx;exact hg.closed _ _ (t.mem hg) hq h;exact ih x hx
theorem Pth.len{l:List Nat}{k m:Nat}(h:Pth g l k m):k+1<=l.length:=by
 induction h with|nil=>simp|snoc t hq h ih=>simp only[kj];split<;>omega
theorem Pth.cut{l:List Nat}{k m:Nat}(h:Pth g l k m){q:Nat}(hq:q∈l):∃l' k',Pth g l' k' q/\l' <:+ l/\k'<=k:=by
 induction h with|nil=>simp at hq;subst hq;exact⟨_,_,.nil,List.suffix_refl _,jo _⟩| @snoc l k p r t hr h ih =>rcases List.mem_cons.1 hq with rfl|hq;exact⟨_,_,.snoc t hr h,List.suffix_refl _,jo _⟩;grind
theorem Pth.simple{l:List Nat}{k m:Nat}(h:Pth g l k m):∃l' k',Pth g l' k' m/\l'.Nodup/\∀x∈l',x∈l:=by
 induction h with|nil=>exact⟨_,_,.nil,by simp,λ_ h=>h⟩| @snoc l k p q t hq h ih =>obtain⟨l',k',h1,h2,h3⟩:=ih;by_cases e:q∈l';obtain⟨l'',k'',g1,g2,-⟩:=h1.cut e;grind;refine⟨q::l',_,.snoc h1 hq h,List.nodup_cons.2 ⟨e,h2⟩,λx hx=>?_⟩;grind
theorem Qb7:∀(n:Nat) (l:List Nat),l.Nodup->(∀x∈l,x<n)->l.length<=n
 |0,l,_,h=>by cases l with|nil=>simp|cons x r=>exact absurd (h x kb) W48
 |n+1,l,hn,h=>by
  have h1:=Qb7 n (l.erase n) (hn.erase n) (λx hx=>by grind);grind
theorem Pth.few(hg:g.Ok){l:List Nat}{k m:Nat}(h:Pth g l k m):∃l' k',Pth g l' k' m/\k'+1<=g.n/\∀x∈l',x∈l:=by
 obtain⟨l',k',h1,h2,h3⟩:=h.simple;have h4:=h1.len;have h5:=Qb7 g.n l' h2 (λx hx=>hg.lt x (h1.all hg x hx));exact⟨l',k',h1,by omega,h3⟩
structure Inv(g:Gr)(o:Tree)(r:Nat->Nat):Prop where
 root:o 0=some 0
 some_:∀m,m≠0->(o m≠none↔m∈g.ord/\1<=r m)
 dec:∀m p,m≠0->o m=some p->g.pl p<g.pl m/\o p≠none
 way:∀m p,m≠0->o m=some p->Wy g p m
 B:∀l k m,Pth g l k m->(m=0\/k+1<=r m)->∀x,Anc o m x->x∈l
 A:∀m d,o m≠none->Dom g d m->Anc o m d
theorem Anc.root{x:Nat}(h:Anc o 0 x):x=0:=by
 cases h with|refl=>rfl|up h0=>exact absurd rfl h0
variable {r:Nat->Nat}
theorem Inv.le(h:Inv g o r){m x:Nat}(t:Anc o m x):x=m\/g.pl x<g.pl m:=by
 induction t with|refl=>exact .inl rfl|up h0 hp t ih =>have:=(h.dec _ _ h0 hp).1;grind
theorem Inv.mem(hg:g.Ok)(h:Inv g o r){m:Nat}(hm:o m≠none):m∈g.ord:=by
 by_cases e:m=0;subst e;exact hg.root;exact((h.some_ m e).1 hm).1
theorem Anc.trans{m x y:Nat}(h:Anc o m x)(h':Anc o x y):Anc o m y:=by
 induction h with|refl=>exact h'|up h0 hp t ih=>exact .up h0 hp (ih h')
theorem Wy.trans{a b c:Nat}(h:Wy g a b)(hl:a=b\/g.pl a<g.pl b)(h':Wy g b c):Wy g a c:=by
 induction h' with|base=>exact h|step t hq hp hl' ih=>exact .step ih hq hp (by rcases hl with rfl|hl<;>omega)
theorem Inv.wy(h:Inv g o r){m x:Nat}(t:Anc o m x):Wy g x m:=by
 induction t with|refl=>exact .base| @up m p a h0 hp t ih =>refine ih.trans ?_ (h.way _ _ h0 hp);exact h.le t
theorem Pth.go{l:List Nat}{k b m:Nat}(h:Pth g l k b)(w:Wy g b m):∃l' k',Pth g l' k' m/\∀x∈l',x∈l\/g.pl b<g.pl x:=by
 induction w with|base=>exact⟨l,k,h,λ_ hx=>.inl hx⟩| @step p q t hq hp hl ih =>obtain⟨l',k',h1,h2⟩:=ih;refine⟨q::l',_,.snoc h1 hq hp,λx hx=>?_⟩;grind
def Best(g:Gr)(o:Tree)(n c:Nat):Prop:=
 (∀x,Anc o c x↔∀p∈g.pre n,o p≠none->Anc o p x)/\o c≠none
def upd(o:Tree)(n c:Nat):Tree:=λm=>if m=n then some c else o m
theorem Inv.meet_step(h:Inv g o r){a b p:Nat}(h0:a≠0)(hp:o a=some p)(hl:g.pl b<g.pl a)(x:Nat):(Anc o a x/\Anc o b x)↔(Anc o p x/\Anc o b x):=by
 constructor;rintro ⟨h1,h2⟩;refine⟨?_,h2⟩;cases h1 with|refl =>rcases h.le h2 with e|e;subst e;omega;omega|up h0' hp' t=>rw[hp] at hp';cases hp';exact t
 rintro ⟨h1,h2⟩;exact⟨.up h0 hp h1,h2⟩
theorem Qgg{n c:Nat}(hn:n≠0)(h:Inv g o r)(hc:o c≠none)(hl:g.pl c<g.pl n){m x:Nat} :
 (Anc o m x->¬Anc o m n->Anc (upd o n c) m x):=by
  intro t;induction t with|refl=>intro _;exact .refl _| @up m p a h0 hp t ih =>intro hno;refine .up h0 ?_ (ih λe=>hno (.up h0 hp e));have:m≠n:=λe=>hno (e▸.refl _);rw[upd,if_neg this];exact hp
theorem anc_cases{n c:Nat}{m x:Nat}(t:Anc (upd o n c) m x):(Anc o m x)\/(Anc o m n/\Anc (upd o n c) c x):=by
 induction t with|refl=>exact .inl (.refl _)| @up m p a h0 hp t ih =>by_cases e:m=n;subst e;rw[upd,if_pos rfl] at hp;cases hp;exact .inr ⟨.refl _,t⟩;rw[upd,if_neg e] at hp;rcases ih with ih|⟨i1,i2⟩;exact .inl (.up h0 hp ih);exact .inr ⟨.up h0 hp i1,i2⟩
theorem Qb8{n c:Nat}(hn:n≠0)(h:Inv g o r)(hc:o c≠none)(hl:g.pl c<g.pl n){x:Nat}:Anc (upd o n c) c x↔Anc o c x:=by
 have hno:¬Anc o c n:=λe=>by rcases h.le e with e|e;subst e;omega;omega
 grind[anc_cases,absurd,Qgg]
theorem Qso{c m a:Nat}(t:Anc o m a):Anc (upd o a c) m a:=by
 induction t with|refl=>exact .refl _| @up m p a h0 hp t ih =>by_cases e:m=a;subst e;exact .refl _;exact .up h0 (by rw[upd,if_neg e];exact hp) ih
theorem Inv.turn(hg:g.Ok)(h:Inv g o r){n c k:Nat}(hn:n≠0)(hm:n∈g.ord)(hb:Best g o n c)(hk:1<=k)
 (hlo:∀m∈g.ord,m≠0->g.pl m<g.pl n->r m=k) (hhi:∀m∈g.ord,m≠0->g.pl n<=g.pl m->r m+1=k)
 (hs:∃p∈g.pre n,o p≠none/\g.pl p<g.pl n):Inv g (upd o n c) (λm=>if m=n then k else r m):=by
  have hlt:=hg.lt n hm;obtain⟨p0,hp0,hs0,hl0⟩:=hs;have hcp:∀p∈g.pre n,o p≠none->Anc o p c:=(hb.1 c).1 (.refl c);have hl:g.pl c<g.pl n:=by rcases h.le (hcp p0 hp0 hs0) with e|e;subst e;exact hl0;omega
  have hsome:∀m,o m≠none->upd o n c m≠none:=λm e=>by unfold upd;split;simp;exact e
  have hr:∀m∈g.ord,m≠0->(if m=n then k else r m)<=k:=λm hm' h0=>by grind
  have hBn:∀l j,Pth g l j n->j+1<=k->∀x,Anc (upd o n c) n x->x∈l:=by intro l j hp hj x hx;cases hp with|nil=>exact absurd rfl hn| @snoc l' j' p _ t hq hpre =>cases hx with|refl=>exact kb|up h0 hup t' =>rw[upd,if_pos rfl] at hup;cases hup;have ht:Anc o c x:=(Qb8 hn h hb.2 hl).1 t';have hmem:=t.mem hg;by_cases e0:p=0;subst e0;have:Anc o 0 x:=(hb.1 x).1 ht 0 hpre (by rw[h.root];simp);exact j7 _ (h.B _ _ _ t (.inl rfl) x this);by_cases e:g.pl p<g.pl n;have hrp:=hlo p hmem e0 e;have:Anc o p x:=(hb.1 x).1 ht p hpre ((h.some_ p e0).2 ⟨hmem,by omega⟩);rw[if_pos e] at hj;exact j7 _ (h.B _ _ _ t (.inr W48) x this);rw[if_neg e] at hj;have hrp:=hhi p hmem e0 W48;have:Anc o p x:=(hb.1 x).1 ht p hpre ((h.some_ p e0).2 ⟨hmem,by omega⟩);exact j7 _ (h.B _ _ _ t (.inr W48) x this)
  refine⟨?_,?_,?_,?_,?_,?_⟩;rw[upd,if_neg (Ne.symm hn)];exact h.root;intro m h0;by_cases e:m=n;subst e;simp[upd,hm,hk];simp only[upd,if_neg e];exact h.some_ m h0;intro m p h0 hp;by_cases e:m=n;subst e;rw[upd,if_pos rfl] at hp;cases hp;exact⟨hl,hsome _ hb.2⟩;rw[upd,if_neg e] at hp;exact⟨(h.dec m p h0 hp).1,hsome _ (h.dec m p h0 hp).2⟩;intro m p h0 hp;by_cases e:m=n;subst e;rw[upd,if_pos rfl] at hp;cases hp;exact .step (h.wy (hcp p0 hp0 hs0)) hlt hp0 hl;rw[upd,if_neg e] at hp;exact h.way m p h0 hp;intro l j m hp hj x hx;by_cases e:m=n;grind;rw[if_neg e] at hj;rcases anc_cases hx with t|⟨t,t'⟩;exact h.B l j m hp hj x t;have hin:n∈l:=h.B l j m hp hj n t;obtain⟨l',k',g1,g2,g3⟩:=hp.cut hin;have hm0:m≠0:=λe0=>by subst e0;exact hn t.root
  have h5:=hr m (hp.mem hg) hm0;rw[if_neg e] at h5;have h6:j+1<=r m:=hj.resolve_left hm0;exact g2.subset (hBn l' k' g1 W48 x (.up hn (by rw[upd,if_pos rfl]) t'));intro m d hs' hd;have hAn:Dom g d n->Anc (upd o n c) n d:=by intro hd;by_cases e:d=n;subst e;exact .refl _;refine .up hn (by rw[upd,if_pos rfl]) ((Qb8 hn h hb.2 hl).2 ((hb.1 d).2 λp hp hps=>h.A p d hps λl j t=>?_));rcases List.mem_cons.1 (hd _ _ (.snoc t hlt hp)) with e'|e';exact absurd e' e;exact e'
  by_cases e:m=n;subst e;exact hAn hd;rw[upd,if_neg e] at hs';have t:=h.A m d hs' hd;by_cases hno:Anc o m n;by_cases hdn:Anc o n d;have hAd:Dom g d n:=by intro l j hp;by_cases e':d=n;subst e';(cases hp with|nil=>exact absurd rfl hn|snoc=>exact kb);obtain⟨l',k',g1,g2⟩:=hp.go (h.wy hno);rcases g2 d (hd _ _ g1) with g2|g2;exact g2;rcases h.le hdn with e2|e2;exact absurd e2 e';omega
  exact(Qso hno).trans (hAn hAd);clear hd hAn;induction t with|refl=>exact .refl _| @up m p a h0 hp t ih =>refine .up h0 (by rw[upd,if_neg e];exact hp) ?_;by_cases e2:p=n;subst e2;exact absurd t hdn;refine ih (h.dec _ _ h0 hp).2 e2 ?_ hdn;cases hno with|refl=>exact absurd rfl e|up _ hp' t'=>rw[hp] at hp';cases hp';exact t'
  exact Qgg hn h hb.2 hl t hno
theorem Inv.still(hg:g.Ok)(h:Inv g o r){n c p:Nat}(hn:n≠0)(hm:n∈g.ord)(hb:Best g o n c)(hp:o n=some p)
 (hall:∀m∈g.ord,m≠0->g.n<=r m) (hs:∃q∈g.pre n,o q≠none/\g.pl q<g.pl n):c=p:=by
  have hlt:=hg.lt n hm;have hB:∀l k m x,Pth g l k m->Anc o m x->x∈l:=by intro l k m x t a;obtain⟨l',k',h1,h2,h3⟩:=t.few hg;refine h3 x (h.B _ _ _ h1 ?_ x a);by_cases e:m=0;exact .inl e;exact .inr (by have:=hall m (t.mem hg) e;omega)
  have hnp:o n≠none:=by rw[hp];simp
  obtain⟨p0,hp0,hs0,hl0⟩:=hs;have hl:g.pl c<g.pl n:=by rcases h.le ((hb.1 c).1 (.refl c) p0 hp0 hs0) with e|e;subst e;exact hl0;omega
  have h1:Anc o n c:=by refine h.A n c hnp λl k t=>?_;cases t with|nil=>exact absurd rfl hn|snoc t hq hpre =>refine j7 _ (hB _ _ _ c t ((hb.1 c).1 (.refl c) _ hpre ?_));rename_i q;by_cases e0:q=0;rw[e0,h.root];simp;exact(h.some_ q e0).2 ⟨t.mem hg,by have:=hall q (t.mem hg) e0;have:=hg.lt q (t.mem hg);omega⟩
  have h2:Anc o c p:=by refine(hb.1 p).2 λq hq hqs=>h.A q p hqs λl k t=>?_;rcases List.mem_cons.1 (hB _ _ _ p (.snoc t hlt hq) (.up hn hp (.refl _))) with e|e;have:=(h.dec n p hn hp).1;rw[e] at this;omega;exact e
  have h3:Anc o p c:=by cases h1 with|refl=>omega|up _ hp' t=>rw[hp] at hp';cases hp';exact t
  have hc:=h.mem hg hb.2;have hpm:=h.mem hg (h.dec n p hn hp).2;rcases h.le h2 with e|e;exact e.symm;rcases h.le h3 with e'|e';exact e';omega
end Go.Dm
noncomputable section
namespace Go.Proofs.YtnddggenhefaeaaGreatDoor
open Go Go.Tx
structure Lz where
 w:Int
 deriving Inhabited,DecidableEq
def Lz.tl(x:Lz):List TC:=[.val (.int .u32 x.w)]
def Lz.tc(x:Lz):Nat->TC:=nthT x.tl
abbrev Lz.ownR(l:List Lz):Reg:=ownOf 215 1 Lz.tc l
theorem Qsp(l:List Lz)(k:Nat)(x:Lz):∀i,i<(l.set k x).length->Lz.tc ((l.set k x).getD i kQ)=updT (λi=>Lz.tc (l.getD i kQ)) k 0 [.int .u32 x.w] i:=
 Zc kQ Lz.tc l k 0 x _ (λj=>by rcases j with _|j<;>simp[Lz.tc,Lz.tl,nthT,nth])
theorem Qpw{n:Nat}:∀i,i<(jd n (Lz.mk 0)).length->Lz.tc ((jd n (Lz.mk 0)).getD i kQ)=valT [jn .u32 0]:=by
 intro i hi;have hi:i<n:=by simpa using hi
 have e:(jd n (Lz.mk 0)).getD i kQ=⟨0⟩:=by grind
 rw[e];funext j;first|rfl|(rcases j with _|j<;>rfl)
theorem Q8v(n:Int):0<=IntKind.u32.wrap n/\IntKind.u32.wrap n<4294967296:=by
 grind[IntKind.wrap,IntKind.signed,IntKind.bits]
theorem or_rng(a b:Int):0<=bits kF jA a b/\bits kF jA a b<4294967296:=Q8v _
theorem Qpx(a b:Int):0<=bits kh jA a b/\bits kh jA a b<4294967296:=Q8v _
def LzQ(l:List Lz):Prop:=∀x∈l,0<=x.w/\x.w<4294967296
theorem LzQ.rep(n:Nat):LzQ (jd n (Lz.mk 0)):=λx h=>by
 rw[List.eq_of_mem_replicate h];decide
theorem LzQ.set{l:List Lz}(h:LzQ l){k:Nat}{x:Int}(hx:0<=x/\x<4294967296):LzQ (l.set k ⟨x⟩):=λy hy=>by
 rcases List.mem_or_eq_of_mem_set hy with q|q;exact h y q;subst q;exact hx
theorem LzQ.at_{l:List Lz}(h:LzQ l){i:Nat}(hi:i<l.length):0<=(l.getD i kQ).w/\(l.getD i kQ).w<4294967296:=by
 rw[jc,jh hi];exact h _ (jT hi)
noncomputable abbrev MTpl:MT:=MT.mk ja 163 74 49 [CK.b,CK.i jb] true [] false
theorem Qur:laidOutB ja=true:=by
 kernel_rfl
theorem Qpy:MTpl.OkV (je none 0 0):=
 MT.okv_struct (by kernel_rfl) Tryz.underlying74 (Go.Maps.Keyed.of_law (deep_law_laid Qur (m:=2) W48 (kR (by kernel_rfl)) (by kernel_rfl) (by rw[Tryz.underlying74]))) (by kernel_rfl) (by kernel_rfl)
  ⟨rfl,by kernel_rfl,Tryz.underlying4,rfl,by kernel_rfl,Tryz.underlying3,trivial⟩ (by kernel_rfl) (kR (by kernel_rfl)) (λw=>by kernel_rfl)
section
variable {sh lk:List Dcl} {gs:List Grf} {al:List Alc}
theorem Q0d(h1:(!decide ((chkU sh lk gs).1=(0:Int)))=false){x:Int}(h0:0<=x)(ht:decide (x<(gs.length:Int))=true):GrfQ sh.length lk.length (gs.getD x.toNat kQ):=
 (Ye W248).2 _ (by have:=kR ht;omega)
theorem Q3y(hw:UnitW gs)(t:Nat):∀b:Nat,0<=((gs.getD t kQ).nodes.getD b kQ).kind:=λb=>(hw t b).1
theorem Qoq(h1:(!decide ((chkU sh lk gs).1=(0:Int)))=true):rgtU sh lk gs al=(false,(chkU sh lk gs).1):=by
 unfold rgtU;rw[if_pos W248]
theorem Qus(h1:(!decide ((chkU sh lk gs).1=(0:Int)))=false)(h2:(!decide ((al.length:Int)=(gs.length:Int)))=true):rgtU sh lk gs al=(false,150):=by
 have h2:al.length≠gs.length:=by grind
 unfold rgtU;rw[if_neg W248,if_pos h2]
theorem Qut(h1:(!decide ((chkU sh lk gs).1=(0:Int)))=false)(h2:(!decide ((al.length:Int)=(gs.length:Int)))=false){x:Int}(h0:0<=x)(ht:decide (x<(gs.length:Int))=true)(hf:(!fitB (gs.getD x.toNat kQ).slots (al.getD x.toNat kQ))=true):rgtU sh lk gs al=(false,150):=by
 have h2:¬al.length≠gs.length:=by grind
 have ht:=kR ht;unfold rgtU;grind
theorem Quu(h1:(!decide ((chkU sh lk gs).1=(0:Int)))=false)(h2:(!decide ((al.length:Int)=(gs.length:Int)))=false)(hf:∀k,k<gs.length->fitB (gs.getD k kQ).slots (al.getD k kQ)=true):rgtU sh lk gs al=(okF gs al gs.length,0):=by
 have h2:¬al.length≠gs.length:=by grind
 simp_all[rgtU,if_neg,Bool.not_eq_false]
theorem Qe1(h1:(!decide ((chkU sh lk gs).1=(0:Int)))=false){x:Int}(h0:0<=x)(ht:decide (x<(gs.length:Int))=true)(hf:∀k,k<gs.length->fitB (gs.getD k kQ).slots (al.getD k kQ)=true) :
 ((al.getD x.toNat kQ).places.length:Int)=(gs.getD x.toNat kQ).slots/\(al.getD x.toNat kQ).places.length<=4160/\∀s:Nat,s<(al.getD x.toNat kQ).places.length->0<=((al.getD x.toNat kQ).places.getD s kQ).n/\((al.getD x.toNat kQ).places.getD s kQ).n<=4160:=by
  have q:=Q0d h1 h0 ht;have ht:=kR ht;have f:=hf x.toNat W48;have l:=Qg4 f;have c:=Q5k f;have:=q.loc;refine⟨l,by omega,λs hs=>?_⟩;have p:=Qju f hs;grind
section
variable {l:List Nod} {ps:List Plc} {x:Int} {b o:Bool}
theorem Qpz(h0:0<=x)(hu:useS l x.toNat=false)(h:b=(o&&okS l ps x.toNat)):b=(o&&okS l ps (x+1).toNat):=by
 rw[show(x+1).toNat=x.toNat+1 by omega,Qmo hu];exact h
theorem Qsq{W V:WW}(hv:LvQ l W V)(h0:0<=x)(hx:x<4160)(hu:useS l x.toNat=true)(hb:b=true)(h:b=(o&&okS l ps x.toNat)):(!(atL l ps x.toNat ((ps.getD x.toNat kQ).cell,(ps.getD x.toNat kQ).n)).any λk=>clF l V x k)=(o&&okS l ps (x+1).toNat):=by
 rw[show(x+1).toNat=x.toNat+1 by omega,Qg9 hu,<- Bool.and_assoc,<- h,hb,kr,<- Quq hv W48,jS h0]
theorem Qsr(h0:0<=x)(hu:useS l x.toNat=true)(hb:b=false)(h:b=(o&&okS l ps x.toNat)):false=(o&&okS l ps (x+1).toNat):=by
 rw[show(x+1).toNat=x.toNat+1 by omega,Qg9 hu,<- Bool.and_assoc,<- h,hb,Bool.false_and]
theorem Qq0(l:List Nod)(ps:List Plc):MrEq MTpl 3 1 0 (atM l ps 0) MTpl 3 1 0 (λ_=>(0,λ_ _=>TC.any)):=MrEq.mk' (jo _) λ(a:Bool×Int)=>⟨rfl,λi hi=>absurd hi (Nat.not_lt_zero _)⟩
theorem Qq1(h0:0<=x)(hu:useS l x.toNat=false):MrEq MTpl 3 1 (2 * (x+1).toNat) (atM l ps (x+1).toNat) MTpl 3 1 (2 * x.toNat) (atM l ps x.toNat):=
 MrEq.mk' W48 λ(a:Bool×Int)=>by
  rw[show(x+1).toNat=x.toNat+1 by omega];unfold atM;rw[Qmn hu];exact⟨rfl,λ_ _=>rfl⟩
theorem Qss(h0:0<=x)(hu:useS l x.toNat=true):MrEq MTpl 3 1 (2 * (x+1).toNat) (atM l ps (x+1).toNat) MTpl 3 1 (2 * x.toNat+1+1) (λ(p:Bool×Int)=>if p=((ps.getD x.toNat kQ).cell,(ps.getD x.toNat kQ).n) then((atM l ps x.toNat ((ps.getD x.toNat kQ).cell,(ps.getD x.toNat kQ).n)).1+1,λi=>if i=(atM l ps x.toNat ((ps.getD x.toNat kQ).cell,(ps.getD x.toNat kQ).n)).1 then i64T x else(atM l ps x.toNat ((ps.getD x.toNat kQ).cell,(ps.getD x.toNat kQ).n)).2 i) else atM l ps x.toNat p):=
 MrEq.mk' W48 λ(a:Bool×Int)=>by
  rw[show(x+1).toNat=x.toNat+1 by omega];by_cases e:a=((ps.getD x.toNat kQ).cell,(ps.getD x.toNat kQ).n);rw[if_pos e,e];grind[atM,Qpt,Qx,jS,Yd];rw[if_neg e];unfold atM;rw[Qpu e];exact⟨rfl,λ_ _=>rfl⟩
end
end
structure Lok where
 reached:List Bo
 held:List Lz
 deriving Inhabited,DecidableEq
def Lok.tl(x:Lok):List TC:=[.sub 4 1 (x.reached).length (λi=>Bo.tc ((x.reached).getD i kQ)),.sub 215 1 (x.held).length (λi=>Lz.tc ((x.held).getD i kQ))]
def Lok.tc(x:Lok):Nat->TC:=nthT x.tl
abbrev Lok.rowR(l:List Lok):Reg:=rowOf 2 Lok.tc l
abbrev Lok.ownR(l:List Lok):Reg:=ownOf 240 2 Lok.tc l
theorem Q8w{ns nl:Nat}:∀{l:List Grf} {t:Int},(chkGo ns nl l t).1=0->∀j:Nat,j<l.length->heldF (l.getD j kQ).nodes<0
 |[],_,_,j,hj=>absurd hj W207
 |g::r,t,h,j,hj=>by
  unfold chkGo at h;split at h;cases h;split at h;cases h;split at h;cases h;rename_i hh;cases j with|zero=>show heldF g.nodes<0;omega|succ j=>exact Q8w h j W299
theorem Qjz{sh lk:List Dcl}{gs:List Grf}(h:(chkU sh lk gs).1=0):∀j:Nat,j<gs.length->heldF (gs.getD j kQ).nodes<0:=by
 unfold chkU at h;split at h;exact Q8w h;cases h
structure ThQ(sh lk:List Dcl)(g:Grf):Prop where
 hq:∀i:Nat,i<g.nodes.length->∀x∈flwL (g.nodes.getD i default),0<=x/\x<(g.nodes.length:Int)
 hN:1<=g.nodes.length/\g.nodes.length<=4096
 hk:∀i:Nat,i<g.nodes.length->1<=(g.nodes.getD i default).kind/\(g.nodes.getD i default).kind<=9
 ht:thQ g.nodes
 hf:heldF g.nodes<0
 hv:∀i:Nat,i<g.nodes.length->(g.nodes.getD i default).kind=2\/(g.nodes.getD i default).kind=3\/(g.nodes.getD i default).kind=4->0<=(g.nodes.getD i default).thing/\(g.nodes.getD i default).thing<(sh.length:Int)
 gq:GrfQ sh.length lk.length g
 nq:∀i:Nat,i<g.nodes.length->NodQ sh.length lk.length g (g.nodes.getD i default)
theorem Z2{sh lk:List Dcl}{gs:List Grf}(h:(chkU sh lk gs).1=0)(hw:UnitW gs){x:Int}(h0:0<=x)(hx:x<(gs.length:Int)):ThQ sh lk (gs.getD x.toNat kQ):=by
 have hl:x.toNat<gs.length:=by omega
 have q:=(Ye h).2 _ hl;have w:=Q3y hw x.toNat;have m:=(Ye h).1;refine⟨q.hq w,q.len,q.hk w,λi hi hk=>?_,Qjz h _ hl,λi hi hk=>(q.q w i hi).thing hk,q,q.q w⟩;have:=(q.q w i hi).lock (.inl hk);omega
abbrev UF:=Int->Option (Int×Int)
def UseQ(F:UF):Prop:=∀a p,F a=some p->(0<=p.1/\p.1<4294967296)/\(0<=p.2/\p.2<4294967296)
theorem UseQ.none:UseQ (λ_=>Option.none):=λa p h=>by
 cases h
theorem UseQ.put{F:UF}(h:UseQ F){k a b:Int}(ha:0<=a/\a<4294967296)(hb:0<=b/\b<4294967296):UseQ (λq=>if q=k then some (a,b) else F q):=λq p hp=>by
 dsimp only at hp;split at hp;cases hp;exact⟨ha,hb⟩;exact h q p hp
theorem UseQ.get{F:UF}(h:UseQ F)(a:Int):(0<=((F a).getD (0,0)).1/\((F a).getD (0,0)).1<4294967296)/\(0<=((F a).getD (0,0)).2/\((F a).getD (0,0)).2<4294967296):=by
 cases e:F a with|none=>simp|some p=>exact h a p e
def LokQ(gs:List Grf)(n:Nat)(L:List Lok):Prop:=L.length=n/\∀t:Nat,t<n->(L.getD t kQ).reached=rchL (gs.getD t kQ).nodes/\(L.getD t kQ).held.length=(gs.getD t kQ).nodes.length/\LzQ (L.getD t kQ).held
theorem LokQ.nil(gs:List Grf):LokQ gs 0 []:=⟨rfl,λt h=>absurd h (Nat.not_lt_zero _)⟩
theorem LokQ.snoc{gs:List Grf}{n:Nat}{L:List Lok}(h:LokQ gs n L){x:Lok}(h1:x.reached=rchL (gs.getD n kQ).nodes)(h2:x.held.length=(gs.getD n kQ).nodes.length)(h3:LzQ x.held):LokQ gs (n+1) (L++[x]):=by
 refine⟨by simp[h.1],λt ht=>?_⟩;by_cases e:t=n;subst e;have:(L++[x]).getD t kQ=x:=by rw[<- h.1];exact Qx _ _ _
 rw[this];exact⟨h1,h2,h3⟩;have:(L++[x]).getD t kQ=L.getD t default:=Yd (by simp[h.1];omega) (by rw[h.1];exact e);rw[this];exact h.2 t W48
noncomputable abbrev MTu:MT:=MT.mk ja 221 3 217 [CK.i jb] false [CK.i jA,CK.i jA] true
theorem Qmr:MTu.Ok:=MT.ok_int (by kernel_rfl) (by kernel_rfl) (.inl rfl) (λw=>by kernel_rfl)
structure Mrk where
 s:Bool
 l:Bool
 d:Bool
 f:Bool
 deriving Inhabited,DecidableEq
def Mrk.tl(x:Mrk):List TC:=[.val (.bool x.s),.val (.bool x.l),.val (.bool x.d),.val (.bool x.f)]
def Mrk.tc(x:Mrk):Nat->TC:=nthT x.tl
abbrev Mrk.rowR(l:List Mrk):Reg:=rowOf 4 Mrk.tc l
abbrev Mrk.ownR(l:List Mrk):Reg:=ownOf 186 4 Mrk.tc l
def fenR(N:Int)(last:Int):List Int->Bool
 |[]=>true
 |n::r=>if n<=last\/N<=n then false else fenR N n r
def fenB(N:Int)(l:List Int):Bool:=fenR N (-1) l
structure FenJ(N:Int)(l:List Int)(i last:Int):Prop where
 i0:0<=i
 il:i<=(l.length:Int)
 lo:-1<=last
 run:fenB N l=fenR N last (l.drop i.toNat)
theorem FenJ.start(N:Int)(l:List Int):FenJ N l 0 (-1):=⟨jl _,by omega,jl _,rfl⟩
section
variable {N:Int} {l:List Int} {i last:Int}
theorem FenJ.drop(h:FenJ N l i last)(hi:i<(l.length:Int)):l.drop i.toNat=l.getD i.toNat 0::l.drop (i.toNat+1):=by
 have h0:=h.i0;simp_all
theorem FenJ.bad(h:FenJ N l i last)(hi:i<(l.length:Int))(hb:(decide (l.getD i.toNat 0<=last)||decide (N<=l.getD i.toNat 0))=true):fenB N l=false:=by
 rw[h.run,h.drop hi,fenR,if_pos (by simpa using hb)]
theorem FenJ.next(h:FenJ N l i last)(hi:i<(l.length:Int))(hb:(decide (l.getD i.toNat 0<=last)||decide (N<=l.getD i.toNat 0))=false):FenJ N l (i+1) (l.getD i.toNat 0):=by
 have h0:=h.i0;have hb:¬(l.getD i.toNat 0<=last\/N<=l.getD i.toNat 0):=by simpa using hb
 refine⟨by omega,by omega,by have:=h.lo;omega,?_⟩;rw[h.run,h.drop hi,fenR,if_neg hb,show(i+1).toNat=i.toNat+1 by omega]
theorem FenJ.done(h:FenJ N l i last)(hi:¬i<(l.length:Int)):fenB N l=true:=by
 have h0:=h.i0;rw[h.run,j4 W48,fenR]
end
theorem Qe2{N:Int}:∀{l:List Int} {last:Int},fenR N last l=true->∀x∈l,last<x/\x<N
 |[],_,_,x,hx=>by cases hx
 |n::r,last,h,x,hx=>by
  unfold fenR at h;split at h;cases h;rename_i hn;cases hx with|head=>omega|tail _ hx=>have:=Qe2 h x hx;omega
theorem fenR_len{N:Int}:∀{l:List Int} {last:Int},fenR N last l=true->l=[]\/last+(l.length:Int)<N
 |[],_,_=>.inl rfl
 |n::r,last,h=>by
  unfold fenR at h;split at h;cases h;rename_i hn;rcases fenR_len h with q|q;grind;right;simp only[kj];omega
theorem Qq2{N:Int}{l:List Int}(h:fenB N l=true):∀x∈l,0<=x/\x<N:=λx hx=>by
 have:=Qe2 h x hx;omega
theorem Qq3(l:List Mrk)(k:Nat)(x:Mrk):∀i,i<(l.set k x).length->Mrk.tc ((l.set k x).getD i kQ)=updT (λi=>Mrk.tc (l.getD i kQ)) k 0 [.bool x.s,.bool x.l,.bool x.d,.bool x.f] i:=
 Zc kQ Mrk.tc l k 0 x _ (λj=>by rcases j with _|_|_|_|j<;>simp[Mrk.tc,Mrk.tl,nthT,nth])
theorem Qms(l:List Mrk)(k:Nat):∀i,i<(l.set k { l.getD k kQ with f:=true }).length->Mrk.tc ((l.set k { l.getD k kQ with f:=true }).getD i kQ)=updT (λi=>Mrk.tc (l.getD i kQ)) k 3 [.bool true] i:=
 Zc kQ Mrk.tc l k 3 _ _ (λj=>by rcases j with _|_|_|_|j<;>simp[Mrk.tc,Mrk.tl,nthT,nth])
theorem Qmt{n:Nat}:∀i,i<(jd n (Mrk.mk false false false false)).length->Mrk.tc ((jd n (Mrk.mk false false false false)).getD i kQ)=valT [jL false,jL false,jL false,jL false]:=by
 intro i hi;have hi:i<n:=by simpa using hi
 have e:(jd n (Mrk.mk false false false false)).getD i kQ=⟨false,false,false,false⟩:=by grind
 rw[e];funext j;first|rfl|(rcases j with _|_|_|_|j<;>rfl)
def laR(l:List Int)(i:Int):Int:=if i=0 then -1 else l.getD (i-1).toNat 0
section
variable {N:Int} {l:List Int} {i:Int}
theorem Qq4(h:FenJ N l i (laR l i))(hi:i<(l.length:Int))(hb:(decide (l.getD i.toNat 0<0)||decide (N<=l.getD i.toNat 0)||(decide (0<i)&&decide (l.getD i.toNat 0<=l.getD (i-1).toNat 0)))=true):fenB N l=false:=h.bad hi (by have h1:=h.lo;have h0:=h.i0;simp only[jQ,jg,decide_eq_true_eq] at hb⊢;unfold laR at h1⊢;split;rename_i e;rw[if_pos e] at h1;omega;rename_i e;rw[if_neg e] at h1;omega)
theorem Qmu(h:FenJ N l i (laR l i))(hi:i<(l.length:Int))(hb:(decide (l.getD i.toNat 0<0)||decide (N<=l.getD i.toNat 0)||(decide (0<i)&&decide (l.getD i.toNat 0<=l.getD (i-1).toNat 0)))=false):FenJ N l (i+1) (laR l (i+1)):=by
 have h1:=h.lo;have h0:=h.i0;have e:laR l (i+1)=l.getD i.toNat 0:=by unfold laR;rw[if_neg W48,show(i+1-1).toNat=i.toNat by omega]
 rw[e];refine h.next hi ?_;simp only[kg,Bool.and_eq_false_iff,decide_eq_false_iff_not] at hb⊢;unfold laR at h1⊢;split;rename_i e;rw[if_pos e] at h1;omega;rename_i e;rw[if_neg e] at h1;omega
end
def mi4(d:Int):Int:=if 4<d then 4 else d
noncomputable def onR(l:List Nod)(s:Int)(i:Nat):Bool:=((rchL l).getD i kQ).b&&(useR (l.getD i kQ) s||dfR (l.getD i kQ) s)
noncomputable def wtR(l:List Nod)(D:List Int)(s:Int):Nat->Int
 |0=>0
 |i+1=>wtR l D s i+(if onR l s i=true then 8 ^ (mi4 (D.getD i 0)).toNat else 0)
theorem pw4{m:Nat}(h:m<=4):(1:Int)<=8 ^ m/\(8:Int) ^ m<=4096:=by
 have:m=0\/m=1\/m=2\/m=3\/m=4:=by omega
 rcases this with e|e|e|e|e<;>subst e<;>decide
theorem Q8x(d:Int):(mi4 d).toNat<=4:=by
 unfold mi4;split<;>omega
theorem Qi7(l:List Nod)(D:List Int)(s:Int):∀n:Nat,n<=l.length->WrJ l s (n:Int) (wtR l D s n)
 |0,_=>WrJ.start l s
 |n+1,h=>by
  have ih:=Qi7 l D s n W48;have e:((n:Int)).toNat=n:=kE n;show WrJ l s ((n:Int)+1) (wtR l D s n+_);split;rename_i q;exact ih.add W48 (by rw[e];exact q) (pw4 (Q8x _));rename_i q;rw[Int.add_zero];exact ih.skip W48 (by rw[e];exact Bool.eq_false_iff.2 q)
theorem Qgh(l:List Nod)(D:List Int){s:Int}(hs:0<=s):decide (0<wtR l D s l.length)=useS l s.toNat:=((Qi7 l D s l.length (jo _)).done hs W48).2
def ojA(l:List Nod)(ps:List Plc)(a:Int):Prop:=∀a':Nat,a'<a.toNat->∀b:Nat,b<a'->badP l ps a' b=false
def ojB(l:List Nod)(ps:List Plc)(a b:Int):Prop:=∀b':Nat,b'<b.toNat->badP l ps a.toNat b'=false
section
variable {l:List Nod} {ps:List Plc} {a b:Int}
theorem Quv:ojA l ps 0:=λa' h=>absurd h W207
theorem Quw:ojB l ps a 0:=λa' h=>absurd h W207
theorem Qmv(h:ojB l ps a b)(h0:0<=b)(hb:badP l ps a.toNat b.toNat=false):ojB l ps a (b+1):=λk hk=>by
 by_cases e:k<b.toNat;exact h k e;rw[show k=b.toNat by omega];exact hb
theorem Qmw(h:ojA l ps a)(h0:0<=a)(hb:ojB l ps a b)(hx:a<=b):ojA l ps (a+1):=λk hk j hj=>by
 by_cases e:k<a.toNat;exact h k e j hj;rw[show k=a.toNat by omega] at hj⊢;exact hb j W48
theorem Qmx(h:ojA l ps a)(ha:a.toNat=ps.length):okS l ps ps.length=true:=(Qgd l ps _).2 (by rw[<- ha];exact h)
theorem Qq5(h0:0<=a)(ha:a<(ps.length:Int))(hb0:0<=b)(hb:b<a)(h:badP l ps a.toNat b.toNat=true):okS l ps ps.length=false:=by
 cases e:okS l ps ps.length with|false=>rfl|true=>grind[Qgd]
end
theorem Qst{gs:List Grf}{al:List Alc}{t:Int}(h0:0<=t)(ht:t<(gs.length:Int))(h:okS (gs.getD t.toNat kQ).nodes (al.getD t.toNat kQ).places (al.getD t.toNat kQ).places.length=false):okF gs al gs.length=false:=by
 grind[okF,decide]
def fitsR(gs:List Grf)(al:List Alc):Bool:=decide (al.length=gs.length)&&(jv gs.length).all λt=>fitB (gs.getD t kQ).slots (al.getD t kQ)
section
variable {sh lk:List Dcl} {gs:List Grf} {al:List Alc}
theorem Qq6(h:(!decide ((al.length:Int)=(gs.length:Int)))=true):fitsR gs al=false:=by
 unfold fitsR;grind
theorem Qsu{t:Int}(h0:0<=t)(ht:t<(gs.length:Int))(h:fitB (gs.getD t.toNat kQ).slots (al.getD t.toNat kQ)=false):fitsR gs al=false:=by
 grind[fitsR,Bool.and_eq_false_iff,decide]
theorem Qq7(hl:(!decide ((al.length:Int)=(gs.length:Int)))=false){x:Int}(hx:¬x<(al.length:Int))(h:∀k,k<x.toNat->fitB (gs.getD k kQ).slots (al.getD k kQ)=true):fitsR gs al=true:=by
 rw[j9,decide_eq_true_eq] at hl;unfold fitsR;grind
theorem Qor(c:Int)(p:Plc):(decide (p.n<0)||p.cell&&decide (c<=p.n)||!p.cell&&decide (13<=p.n))=!fit1 c p:=by
 unfold fit1;cases p.cell<;>simp
theorem Qb9(h:fitsR gs al=true):al.length=gs.length:=by
 simp_all[fitsR,jg,kR]
theorem Qsv(h1:(!decide ((chkU sh lk gs).1=(0:Int)))=false)(h:(!fitsR gs al)=true):rgtU sh lk gs al=(false,150):=by
 rw[j9,decide_eq_true_eq] at h1;rw[jC] at h;simp_all[rgtU,if_neg,fitsR,decide_eq_true,kr,if_pos]
theorem Qgi(h1:(!decide ((chkU sh lk gs).1=(0:Int)))=false)(h:(!fitsR gs al)=false):rgtU sh lk gs al=(okF gs al gs.length,0):=by
 rw[j9,decide_eq_true_eq] at h1;rw[j9] at h;have e:=Qb9 h;simp_all[rgtU,if_neg,fitsR,jg,decide]
theorem Qos{l:List Nod}(hq:∀i:Nat,i<l.length->∀x∈flwL (l.getD i kQ),0<=x/\x<(l.length:Int))(D:List Int)(ps:List Plc){a b:Int}(ha:0<=a)(hb:0<=b):badP l ps a.toNat b.toNat=(decide ((ps.getD a.toNat kQ).cell=(ps.getD b.toNat kQ).cell)&&(decide ((ps.getD a.toNat kQ).n=(ps.getD b.toNat kQ).n)&&true)&&decide ((0:Int)<wtR l D a l.length)&&decide ((0:Int)<wtR l D b l.length)&&clR l a b):=by
 unfold badP plE;rw[Qgh l D ha,Qgh l D hb,Qsl hq,Bool.and_true,jS ha,jS hb]
theorem Qsw{t:Int}(h0:0<=t)(h:okF gs al t.toNat=true)(hs:okS (gs.getD t.toNat kQ).nodes (al.getD t.toNat kQ).places (al.getD t.toNat kQ).places.length=true):okF gs al (t+1).toNat=true:=by
 rw[show(t+1).toNat=t.toNat+1 by omega,Qe0,h,hs];rfl
end
theorem gAnd{a b:Bool}(h:(!a&&!b)=true):a=false:=by
 cases a<;>simp at h⊢
theorem Q1f{n:Nat}:∀i,i<(jd n (Bo.mk false)).length->Bo.tc ((jd n (Bo.mk false)).getD i kQ)=valT [jL false]:=by
 intro i hi;have hi:i<n:=by simpa using hi
 have e:(jd n (Bo.mk false)).getD i kQ=⟨false⟩:=by grind
 rw[e];funext j;first|rfl|(rcases j with _|j<;>rfl)
def inR(n:Nat)(t:List Int):Prop:=∀x∈t,0<=x/\x<(n:Int)
theorem inR.nil(n:Nat):inR n []:=λx h=>by
 cases h
theorem inR.take{n:Nat}{t:List Int}(h:inR n t)(k:Nat):inR n (t.take k):=λx hx=>h x (List.mem_of_mem_take hx)
theorem inR.add{n:Nat}{t:List Int}(h:inR n t){x:Int}(hx:0<=x/\x<(n:Int)):inR n (t++[x]):=λy hy=>by
 rcases List.mem_append.1 hy with q|q;exact h y q;rw[jG] at q;subst q;exact hx
theorem inR.at_{n:Nat}{t:List Int}(h:inR n t){i:Nat}(hi:i<t.length):0<=t.getD i 0/\t.getD i 0<(n:Int):=by
 rw[jc,jh hi];exact h _ (jT hi)
structure SpO(n B:Nat)(o:List Bo)(t:List Int):Prop where
 len:o.length=n
 rng:inR n t
 ms:2 * falses o+t.length<=B
structure SpI(n B m fl:Nat)(x:Int)(o:List Bo)(t:List Int):Prop where
 len:o.length=n
 rng:inR n t
 ms:2 * falses o+t.length+1<=m
 mB:m<=B
 x0:0<=x
 xl:x<=(fl:Int)
theorem SpO.start{n B:Nat}{t:List Int}(h:inR n t)(hB:2 * n+t.length<=B):SpO n B (jd n (Bo.mk false)) t:=
 ⟨ju,h,by have z:=Gl (jd n (Bo.mk false));simp only[ju] at z;omega⟩
theorem SpO.inner{n B:Nat}{o:List Bo}{t:List Int}(h:SpO n B o t)(ht:0<t.length)(fl:Nat):SpI n B (2 * falses o+t.length) fl 0 o (t.take (t.length-1)):=
 ⟨h.len,h.rng.take _,by rw[jO];omega,h.ms,jl _,by omega⟩
section
variable {n B m fl:Nat} {x:Int} {o:List Bo} {t:List Int}
theorem SpI.skip(h:SpI n B m fl x o t)(hx:x<(fl:Int)):SpI n B m fl (x+1) o t:=⟨h.len,h.rng,h.ms,h.mB,by have:=h.x0;omega,by omega⟩
theorem SpI.set(h:SpI n B m fl x o t)(hx:x<(fl:Int)){k:Int}(hk:0<=k/\k<(n:Int))(hf:(o.getD k.toNat kQ).b=false):SpI n B m fl (x+1) (o.set k.toNat ⟨true⟩) t:=by
 have z:=Yf (l:=o) (i:=k.toNat) (by rw[h.len];omega) hf;have z1:=h.ms;exact⟨by rw[jq,h.len],h.rng,by omega,h.mB,by have:=h.x0;omega,by omega⟩
theorem SpI.put(h:SpI n B m fl x o t)(hx:x<(fl:Int)){k:Int}(hk:0<=k/\k<(n:Int))(hf:(o.getD k.toNat kQ).b=false):SpI n B m fl (x+1) (o.set k.toNat ⟨true⟩) (t++[k]):=by
 have z:=Yf (l:=o) (i:=k.toNat) (by rw[h.len];omega) hf;have z1:=h.ms;exact⟨by rw[jq,h.len],h.rng.add hk,by rw[jm,jP];omega,h.mB,by have:=h.x0;omega,by omega⟩
theorem SpI.done(h:SpI n B m fl x o t):SpO n B o t/\2 * falses o+t.length<m:=⟨⟨h.len,h.rng,by have:=h.ms;have:=h.mB;omega⟩,by have:=h.ms;omega⟩
end
def fenAll(gs:List Grf)(fs:List Iln)(n:Nat):Bool:=(jv n).all λt=>fenB ((gs.getD t kQ).nodes.length:Int) (fs.getD t kQ).l
def safU(sh lk:List Dcl)(gs:List Grf)(fs:List Iln):Int:=
 if(chkU sh lk gs).1≠0 then(chkU sh lk gs).1 else if fs.length≠gs.length then 110 else if fenAll gs fs gs.length=true then 0 else 110
section
variable {sh lk:List Dcl} {gs:List Grf} {fs:List Iln}
theorem Qot(h1:(!decide ((chkU sh lk gs).1=(0:Int)))=true):(chkU sh lk gs).1=safU sh lk gs fs:=by
 unfold safU;rw[if_pos W248]
theorem Qou(h1:(!decide ((chkU sh lk gs).1=(0:Int)))=false)(h2:(!decide ((fs.length:Int)=(gs.length:Int)))=true):110=safU sh lk gs fs:=by
 have h2:fs.length≠gs.length:=by grind
 unfold safU;rw[if_neg W248,if_pos h2]
theorem Qux(h1:(!decide ((chkU sh lk gs).1=(0:Int)))=false)(h2:(!decide ((fs.length:Int)=(gs.length:Int)))=false){x:Int}(h0:0<=x)(hx:decide (x<(fs.length:Int))=true)(hf:(!fenB ((gs.getD x.toNat kQ).nodes.length:Int) (fs.getD x.toNat kQ).l)=true):110=safU sh lk gs fs:=by
 have h2:¬fs.length≠gs.length:=by grind
 have hx:=kR hx;have hn:¬fenAll gs fs gs.length=true:=λh=>by have:=List.all_eq_true.1 h x.toNat (List.mem_range.2 W48);rw[this] at hf;cases hf
 simp_all[safU,if_neg]
theorem Quy(h1:(!decide ((chkU sh lk gs).1=(0:Int)))=false)(h2:(!decide ((fs.length:Int)=(gs.length:Int)))=false)(hf:∀k,k<fs.length->fenB ((gs.getD k kQ).nodes.length:Int) (fs.getD k kQ).l=true):0=safU sh lk gs fs:=by
 have h2:¬fs.length≠gs.length:=by grind
 simp_all[fenAll,true,safU,if_neg,if_pos]
end
noncomputable def fauU(sh lk:List Dcl)(gs:List Grf)(fs:List Iln)(al:List Alc)(bf:Int):Int:=
 if safU sh lk gs fs≠0 then safU sh lk gs fs else if(rgtU sh lk gs al).2≠0 then(rgtU sh lk gs al).2 else if(rgtU sh lk gs al).1=false then 150 else if bf<1\/16<bf then 2 else 0
section
variable {sh lk:List Dcl} {gs:List Grf} {fs:List Iln} {al:List Alc} {bf e:Int}
theorem Qov(he:e=safU sh lk gs fs)(h1:(!decide (e=(0:Int)))=true):fauU sh lk gs fs al bf=e:=by
 subst he;unfold fauU;rw[if_pos W248]
theorem Qow(he:e=safU sh lk gs fs)(h1:(!decide (e=(0:Int)))=false)(h2:(!decide ((rgtU sh lk gs al).2=(0:Int)))=true):fauU sh lk gs fs al bf=(rgtU sh lk gs al).2:=by
 simp_all[fauU,if_neg,if_pos]
theorem Qox(he:e=safU sh lk gs fs)(h1:(!decide (e=(0:Int)))=false)(h2:(!decide ((rgtU sh lk gs al).2=(0:Int)))=false)(h3:(!(rgtU sh lk gs al).1)=true):fauU sh lk gs fs al bf=150:=by
 simp_all[fauU,if_neg,if_pos]
theorem Qoy(he:e=safU sh lk gs fs)(h1:(!decide (e=(0:Int)))=false)(h2:(!decide ((rgtU sh lk gs al).2=(0:Int)))=false)(h3:(!(rgtU sh lk gs al).1)=false)(h4:(decide (bf<(1:Int))||decide ((16:Int)<bf))=true):fauU sh lk gs fs al bf=2:=by
 simp_all[fauU,if_neg,if_pos]
theorem Qoz(he:e=safU sh lk gs fs)(h1:(!decide (e=(0:Int)))=false)(h2:(!decide ((rgtU sh lk gs al).2=(0:Int)))=false)(h3:(!(rgtU sh lk gs al).1)=false)(h4:(decide (bf<(1:Int))||decide ((16:Int)<bf))=false):fauU sh lk gs fs al bf=0:=by
 simp_all[kg,decide_eq_false_iff_not,fauU,if_neg]
end
def memL(sh lk:List Dcl)(al:List Alc)(i:Nat):List Int:=sh.map (·.word)++jd lk.length 0++((al.take i).flatMap λa=>jd a.cells.toNat 0)
def mAt(sh lk:List Dcl)(al:List Alc)(i:Nat):List Int:=(jv i).map λj=>((memL sh lk al j).length:Int)
theorem Qe3(sh lk:List Dcl)(al:List Alc):memL sh lk al 0=sh.map (·.word)++jd lk.length 0:=by
 simp[memL]
theorem Q1w(sh lk:List Dcl)(al:List Alc)(i:Nat)(h:i<al.length):memL sh lk al (i+1)=memL sh lk al i++jd (al.getD i kQ).cells.toNat 0:=by
 unfold memL;rw[jF h,List.flatMap_append];simp[jc,h]
theorem Qe4(sh lk:List Dcl)(al:List Alc)(i:Nat):mAt sh lk al (i+1)=mAt sh lk al i++[((memL sh lk al i).length:Int)]:=by
 simp[mAt,kt]
theorem Q0t(sh lk:List Dcl)(al:List Alc)(i:Nat):(mAt sh lk al i).length=i:=by
 simp[mAt]
theorem Qfh(sh:List Dcl)(i:Nat)(h:i<sh.length):(sh.take (i+1)).map (·.word)=(sh.take i).map (·.word)++[(sh.getD i kQ).word]:=by
 rw[jF h,kG];simp[jc,h]
theorem Q3z(sh lk:List Dcl)(al:List Alc)(hc:∀j:Nat,j<al.length->(al.getD j kQ).cells<=4160):∀i:Nat,i<=al.length->(memL sh lk al i).length<=sh.length+lk.length+4160 * i
 |0,_=>by rw[Qe3];simp
 |i+1,h=>by
  have:=Q3z sh lk al hc i W48;grind[Q1w,jm,ju]
theorem Qgj(l:List Int)(m:Nat):∀i,i<(l++jd m (0:Int)).length->i64T ((l++jd m (0:Int)).getD i 0)=λj=>if i<l.length then i64T (l.getD i 0) j else valT (jn jb (0:Int)).cells.toList j:=λi hi=>by
 funext j;split;grind;rename_i h;rw[jc,jJ W48];rw[jm,ju] at hi;rw[ke,if_pos W48];rcases j with _|j<;>rfl
section
variable {sh lk:List Dcl} {al:List Alc} {l:List Int} {x:Int}
theorem Qgk(h:l=(sh.take x.toNat).map (·.word))(hx:x.toNat=sh.length):memL sh lk al 0=l++jd lk.length 0:=by
 rw[Qe3,h,hx,List.take_length]
theorem Qmy(h:l=(sh.take x.toNat).map (·.word))(hx:x.toNat=sh.length):(memL sh lk al 0).length=l.length+lk.length:=by
 rw[Qgk h hx,jm,ju]
theorem Qmz(h:l=(sh.take x.toNat).map (·.word))(hx:x.toNat=sh.length):∀i,i<(memL sh lk al 0).length->i64T ((memL sh lk al 0).getD i 0)=λj=>if i<l.length then i64T (l.getD i 0) j else valT (jn jb (0:Int)).cells.toList j:=by
 rw[Qgk h hx];exact Qgj _ _
theorem Qn0(h:l=memL sh lk al x.toNat)(hx:x.toNat<al.length):(memL sh lk al (x.toNat+1)).length=l.length+(al.getD x.toNat kQ).cells.toNat:=by
 grind[Q1w,jm,ju]
theorem Qn1(h:l=memL sh lk al x.toNat)(hx:x.toNat<al.length):∀i,i<(memL sh lk al (x.toNat+1)).length->i64T ((memL sh lk al (x.toNat+1)).getD i 0)=λj=>if i<l.length then i64T (l.getD i 0) j else valT (jn jb (0:Int)).cells.toList j:=by
 rw[Q1w _ _ _ _ hx,<- h];exact Qgj _ _
end
structure Gm where
 ps:List Plc
 base:Int
 shared:Int
 fr:Int
def Gm.pl(x:Gm)(s:Int):Plc:=x.ps.getD s.toNat kQ
def gSet(x:Gm)(d w:Int):Ins:={ (kQ:Ins) with kind:=1,d:=d,word:=w,from_:=x.fr }
def gOr(x:Gm)(d p:Int):Ins:={ (kQ:Ins) with kind:=2,op:=7,d:=d,a:=p,b:=p,from_:=x.fr }
def gLoad(x:Gm)(d w:Int):Ins:={ (kQ:Ins) with kind:=3,d:=d,addr:=w,from_:=x.fr }
def gStore(x:Gm)(a w:Int):Ins:={ (kQ:Ins) with kind:=4,a:=a,addr:=w,from_:=x.fr }
def gSwap(x:Gm)(d w:Int):Ins:={ (kQ:Ins) with kind:=5,d:=d,addr:=w,from_:=x.fr }
def gPrint(x:Gm)(a:Int):Ins:={ (kQ:Ins) with kind:=7,a:=a,from_:=x.fr }
def gJump(x:Gm)(t:Int):Ins:={ (kQ:Ins) with kind:=8,to:=t,from_:=x.fr }
def gZero(x:Gm)(a t:Int):Ins:={ (kQ:Ins) with kind:=9,a:=a,to:=t,from_:=x.fr }
def gFetch(x:Gm)(v:Vl)(r:Int):List Ins:=
 if v.slotted then(if(x.pl v.slot).cell then [gLoad x r (x.base+(x.pl v.slot).n)] else []) else [gSet x r v.word]
def gReg(x:Gm)(v:Vl)(r:Int):Int:=if v.slotted&&!(x.pl v.slot).cell then(x.pl v.slot).n else r
def gMove(x:Gm)(v:Vl)(r:Int):List Ins:=
 if v.slotted&&!(x.pl v.slot).cell then [gOr x r (x.pl v.slot).n] else gFetch x v r
def gGoal(x:Gm)(s:Int):Int:=if(x.pl s).cell then 15 else(x.pl s).n
def gKeep(x:Gm)(s:Int):List Ins:=if(x.pl s).cell then [gStore x 15 (x.base+(x.pl s).n)] else []
def gSetN(x:Gm)(n:Nod):List Ins:=
 if n.op=0 then gMove x n.a (gGoal x n.slot)++gKeep x n.slot
 else gFetch x n.a 13++(if twoB n.op then gFetch x n.b 14 else []) ++
  [{ (kQ:Ins) with kind:=2,op:=n.op,d:=gGoal x n.slot,a:=gReg x n.a 13,b:=(if twoB n.op then gReg x n.b 14 else 0),from_:=x.fr }]++gKeep x n.slot
def gSwapN(x:Gm)(n:Nod):List Ins:=
 gMove x n.a 15++[gSwap x 15 n.thing]++(if(x.pl n.slot).cell then gKeep x n.slot else [gOr x (x.pl n.slot).n 15])
def gNode(x:Gm)(len:Int)(n:Nod):List Ins:=
 if n.kind=1 then gSetN x n
 else if n.kind=2 then [gLoad x (gGoal x n.slot) n.thing]++gKeep x n.slot
 else if n.kind=3 then gFetch x n.a 13++[gStore x (gReg x n.a 13) n.thing]
 else if n.kind=4 then gSwapN x n
 else if n.kind=5 then [gSet x 15 1,gSwap x 15 (x.shared+n.thing),gZero x 15 (len+4),gJump x len]
 else if n.kind=6 then [gSet x 15 0,gStore x 15 (x.shared+n.thing)]
 else if n.kind=7 then gFetch x n.a 13++[gPrint x (gReg x n.a 13)]
 else if n.kind=8 then(if n.els=n.next then [] else gFetch x n.a 13++[gZero x (gReg x n.a 13) n.els])
 else [{ (kQ:Ins) with kind:=10,from_:=x.fr }]
noncomputable abbrev MTi:MT:=MT.mk ja 88 3 3 [CK.i jb] false [CK.i jb] false
theorem Qn2:MTi.Ok:=MT.ok_int (by kernel_rfl) (by kernel_rfl) (.inr rfl) (λw=>by kernel_rfl)
def putL(fr:Int)(l:List Ins):List Ins:=l.map λi=>{ i with from_:=fr }
theorem Qk0{fr:Int}{l:List Ins}{k:Int}(h0:0<=k)(h:k<(l.length:Int))(code:List Ins):code++putL fr (l.take (k+1).toNat)=(code++putL fr (l.take k.toNat))++[{ l.getD k.toNat kQ with from_:=fr }]:=by
 have hl:k.toNat<l.length:=by omega
 rw[show(k+1).toNat=k.toNat+1 by omega,jF hl,jM];unfold putL;grind
theorem Ze(fr:Int)(l:List Ins):(putL fr l).length=l.length:=jK _
theorem gnt{b:Bool}(h:(!b)=true):b=false:=by
 cases b<;>simp at h⊢
theorem gnf{b:Bool}(h:(!b)=false):b=true:=by
 cases b<;>simp at h⊢
section
variable {gm:Gm} {s r:Int} {v:Vl} {n:Nod}
theorem Qgl(h:(gm.pl s).cell=true):gGoal gm s=15:=by
 unfold gGoal;rw[if_pos h]
theorem Qgm(h:(gm.pl s).cell=false):gGoal gm s=(gm.pl s).n:=by
 unfold gGoal;rw[if_neg W301]
theorem Qgn(h:(gm.pl s).cell=true):gKeep gm s=putL gm.fr [Ins.mk 4 0 0 15 0 (gm.base+(gm.pl s).n) 0 0 0]:=by
 unfold gKeep;rw[if_pos h];rfl
theorem Qgo(h:(gm.pl s).cell=false):gKeep gm s=[]:=by
 unfold gKeep;rw[if_neg W301]
theorem Qe5(h:v.slotted=false):gFetch gm v r=putL gm.fr [Ins.mk 1 0 r 0 0 0 0 v.word 0]/\gReg gm v r=r:=by
 unfold gFetch gReg;rw[h];exact⟨rfl,rfl⟩
theorem Qe6(h:v.slotted=true)(h2:(gm.pl v.slot).cell=true):gFetch gm v r=putL gm.fr [Ins.mk 3 0 r 0 0 (gm.base+(gm.pl v.slot).n) 0 0 0]/\gReg gm v r=r:=by
 unfold gFetch gReg;rw[h,h2];exact⟨rfl,rfl⟩
theorem Q1g(h:v.slotted=true)(h2:(gm.pl v.slot).cell=false):gFetch gm v r=[]/\gReg gm v r=(gm.pl v.slot).n:=by
 unfold gFetch gReg;rw[h,h2];exact⟨rfl,rfl⟩
theorem Qgp(h:(v.slotted&&!(gm.pl v.slot).cell)=true):gMove gm v r=gFetch gm v r++putL gm.fr [Ins.mk 2 7 r (gReg gm v r) (gReg gm v r) 0 0 0 0]:=by
 have h2:=h;rw[jg,jC] at h2;have e:=Q1g (gm:=gm) (v:=v) (r:=r) h2.1 h2.2;unfold gMove;rw[if_pos h,e.1,e.2];rfl
theorem Q61(h:(v.slotted&&!(gm.pl v.slot).cell)=false):gMove gm v r=gFetch gm v r:=by
 unfold gMove;rw[if_neg W301]
theorem J4:(gFetch gm v r).length<=1:=by
 unfold gFetch;split<;>(try split)<;>simp
theorem Qba:(gKeep gm s).length<=1:=by
 unfold gKeep;split<;>simp
theorem Q5l:(gMove gm v r).length<=1:=by
 unfold gMove;split<;>first|exact J4|simp
theorem Qk1(h:decide (n.op=(0:Int))=true):gSetN gm n=gMove gm n.a (gGoal gm n.slot)++gKeep gm n.slot:=by
 unfold gSetN;rw[if_pos (kR h)]
theorem Qk2(h:decide (n.op=(0:Int))=false)(h2:twoB n.op=true):gSetN gm n=gFetch gm n.a 13++gFetch gm n.b 14++putL gm.fr [Ins.mk 2 n.op (gGoal gm n.slot) (gReg gm n.a 13) (gReg gm n.b 14) 0 0 0 0]++gKeep gm n.slot:=by
 unfold gSetN;rw[if_neg (kS h),if_pos h2,if_pos h2];rfl
theorem Qk3(h:decide (n.op=(0:Int))=false)(h2:twoB n.op=false):gSetN gm n=gFetch gm n.a 13++putL gm.fr [Ins.mk 2 n.op (gGoal gm n.slot) (gReg gm n.a 13) 0 0 0 0 0]++gKeep gm n.slot:=by
 have h3:¬twoB n.op=true:=by rw[h2];decide
 unfold gSetN;rw[if_neg (kS h),if_neg h3,if_neg h3,jR];rfl
theorem Qgq(h:(gm.pl n.slot).cell=true):gSwapN gm n=gMove gm n.a 15++putL gm.fr [Ins.mk 5 0 15 0 0 n.thing 0 0 0]++gKeep gm n.slot:=by
 unfold gSwapN;rw[if_pos h];rfl
theorem Qgr(h:(gm.pl n.slot).cell=false):gSwapN gm n=gMove gm n.a 15++putL gm.fr [Ins.mk 5 0 15 0 0 n.thing 0 0 0]++putL gm.fr [Ins.mk 2 7 (gm.ps.getD n.slot.toNat kQ).n 15 15 0 0 0 0]:=by
 unfold gSwapN;rw[if_neg W301];rfl
def gBranch(gm:Gm)(n:Nod):List Ins:=if n.els=n.next then [] else gFetch gm n.a 13++putL gm.fr [Ins.mk 9 0 0 (gReg gm n.a 13) 0 0 n.els 0 0]
theorem Qk4(h:decide (n.els=n.next)=true):gBranch gm n=[]:=by
 unfold gBranch;rw[if_pos (kR h)]
theorem Qk5(h:decide (n.els=n.next)=false):gBranch gm n=gFetch gm n.a 13++putL gm.fr [Ins.mk 9 0 0 (gReg gm n.a 13) 0 0 n.els 0 0]:=by
 unfold gBranch;rw[if_neg (kS h)]
structure NdQ(gm:Gm)(n:Nod):Prop where
 slot:n.kind=1\/n.kind=2\/n.kind=4->0<=n.slot/\n.slot<(gm.ps.length:Int)
 a:n.a.slotted=true->0<=n.a.slot/\n.a.slot<(gm.ps.length:Int)
 b:n.b.slotted=true->0<=n.b.slot/\n.b.slot<(gm.ps.length:Int)
 th:0<=n.thing/\n.thing<=1000
structure GmQ(gm:Gm):Prop where
 b0:0<=gm.base/\gm.base<=100000
 s0:0<=gm.shared/\gm.shared<=100000
 p0:∀i:Nat,i<gm.ps.length->0<=(gm.ps.getD i default).n/\(gm.ps.getD i default).n<=4160
end
def innF(F:Int->Option Int)(n:Int):Int->Option Int:=λa=>if a=n+3 then some 1 else if a=n+2 then some 1 else F a
theorem Qsx(F:Int->Option Int)(n:Int)(cN:Nat):MpEq MTi (cN+4) (λ(a:Int)=>(innF F n a).isSome) (λ(a:Int)=>(innF F n a).getD (0:Int)) none MTi (cN+1+1+1+1) (λ(p:Int)=>decide (p=n+3)||(decide (p=n+3)||(decide (p=n+2)||(decide (p=n+2)||(F p).isSome))))
 (λ(p:Int)=>if p=n+3 then(1:Int) else if p=n+2 then(1:Int) else(F p).getD (0:Int)) none:=by
  refine MpEq.mk' (jo _) ?_ ?_<;>intro (q:Int)<;>unfold innF<;>(try dsimp only)<;>by_cases h1:q=n+3<;>by_cases h2:q=n+2<;>(simp[h1,h2];try rfl)
theorem MT.okv_int{P:Program}{t k e:Nat}{z:Value}{q:IntKind}(ht:P.underlying t=some (.map k e))(hk:P.underlying k=some (.int q))(hz:∀w,(zeroValue e).run P w=.ok z w):MT.OkV ⟨P,t,k,e,[.i q],false,[],false⟩ z where
 map:=ht
 key:=Go.Maps.int_keyed hk
 lit:=λa ha=>⟨_,Go.Maps.keyOf_int_mk hk ha⟩
 one:=.inr rfl
 zero:=hz
noncomputable abbrev MTm:MT:=MT.mk ja 123 97 104 [CK.i jD] false [] false
theorem Qq8:MTm.OkV .nilFunc:=MT.okv_int (by kernel_rfl) (by kernel_rfl) (λw=>by kernel_rfl)
abbrev mkEnts:List (Int×C):=[((9:Int),C.fn 108 true [0]),((8:Int),C.fn 107 true [0]),((7:Int),C.fn 106 true [0]),((6:Int),C.fn 105 true [0]),((5:Int),C.fn 104 true [0]),((4:Int),C.fn 103 true [0]),((3:Int),C.fn 102 true [0]),((2:Int),C.fn 101 true [0]),((1:Int),C.fn 100 true [0])]
def hasF(fe:List Int)(k:Int):Bool:=decide (0<=idxF fe k 0)
def jmpB(k:Int)(n:Nod):Bool:=!decide (n.kind=9)&&!decide (n.next=k+1)
def innS(F:Int->Option Int)(nd:Nod)(n:Int):Int->Option Int:=if nd.kind=5 then innF F n else F
section
variable (ps:List Plc) (ba sh:Int) (fe:List Int) (l:List Nod)
def gmA(n:Nod):Gm:=⟨ps,ba,sh,n.origin+1⟩
def fenC(k:Nat)(code:List Ins):List Ins:=if hasF fe k then code++putL ((l.getD k kQ).origin+1) [Ins.mk 6 0 0 0 0 0 0 0 0] else code
def nodC(k:Nat)(code:List Ins):List Ins:=fenC fe l k code++gNode (gmA ps ba sh (l.getD k kQ)) ((fenC fe l k code).length:Int) (l.getD k kQ)
def stepC(k:Nat)(code:List Ins):List Ins:=if jmpB k (l.getD k kQ) then nodC ps ba sh fe l k code++putL ((l.getD k kQ).origin+1) [Ins.mk 8 0 0 0 0 0 (l.getD k kQ).next 0 0] else nodC ps ba sh fe l k code
def codeA:Nat->List Ins
 |0=>[]
 |k+1=>stepC ps ba sh fe l k (codeA k)
def starA(k:Nat):List Int:=(jv k).map λi=>((codeA ps ba sh fe l i).length:Int)
def innA:Nat->Int->Option Int
 |0=>λ_=>none
 |k+1=>innS (innA k) (l.getD k kQ) ((fenC fe l k (codeA ps ba sh fe l k)).length:Int)
end
section
variable {gm:Gm} {n:Nod} {k:Int}
theorem Qgs(h:n.kind=1):gNode gm k n=gSetN gm n:=by
 unfold gNode;rw[if_pos h]
theorem Qgt(h:n.kind=2):gNode gm k n=putL gm.fr [Ins.mk 3 0 (gGoal gm n.slot) 0 0 n.thing 0 0 0]++gKeep gm n.slot:=by
 unfold gNode;rw[if_neg W48,if_pos h];rfl
theorem Qgu(h:n.kind=3):gNode gm k n=gFetch gm n.a 13++putL gm.fr [Ins.mk 4 0 0 (gReg gm n.a 13) 0 n.thing 0 0 0]:=by
 unfold gNode;rw[if_neg W48,if_neg W48,if_pos h];rfl
theorem Qgv(h:n.kind=4):gNode gm k n=gSwapN gm n:=by
 simp_all[gNode,if_neg,if_pos]
theorem Q62(h:n.kind=5):gNode gm k n=putL gm.fr [Ins.mk 1 0 15 0 0 0 0 1 0,Ins.mk 5 0 15 0 0 (gm.shared+n.thing) 0 0 0,Ins.mk 9 0 0 15 0 0 (k+4) 0 0,Ins.mk 8 0 0 0 0 0 k 0 0]:=by
 unfold gNode;rw[if_neg W48,if_neg W48,if_neg W48,if_neg W48,if_pos h];rfl
theorem Qgw(h:n.kind=6):gNode gm k n=putL gm.fr [Ins.mk 1 0 15 0 0 0 0 0 0,Ins.mk 4 0 0 15 0 (gm.shared+n.thing) 0 0 0]:=by
 unfold gNode;rw[if_neg W48,if_neg W48,if_neg W48,if_neg W48,if_neg W48,if_pos h];rfl
theorem Qgx(h:n.kind=7):gNode gm k n=gFetch gm n.a 13++putL gm.fr [Ins.mk 7 0 0 (gReg gm n.a 13) 0 0 0 0 0]:=by
 unfold gNode;rw[if_neg W48,if_neg W48,if_neg W48,if_neg W48,if_neg W48,if_neg W48,if_pos h];rfl
theorem Q33(h:n.kind=8):gNode gm k n=gBranch gm n:=by
 unfold gNode gBranch;rw[if_neg W48,if_neg W48,if_neg W48,if_neg W48,if_neg W48,if_neg W48,if_neg W48,if_pos h];rfl
theorem Qa1(h:n.kind=9):gNode gm k n=putL gm.fr [Ins.mk 10 0 0 0 0 0 0 0 0]:=by
 unfold gNode;rw[if_neg W48,if_neg W48,if_neg W48,if_neg W48,if_neg W48,if_neg W48,if_neg W48,if_neg W48];rfl
theorem Qsy{F:Int->Option Int}(h:n.kind=5):innS F n k=innF F k:=by
 unfold innS;rw[if_pos h]
theorem Qe7{F:Int->Option Int}(h:n.kind≠5):innS F n k=F:=by
 unfold innS;rw[if_neg h]
end
def fixI(s:List Int)(F:Int->Option Int)(i:Nat)(c:Ins):Ins:=if(c.kind=8\/c.kind=9)/\(F (i:Int)).getD 0=0 then { c with to:=s.getD c.to.toNat 0 } else c
def fixN(s:List Int)(F:Int->Option Int)(code:List Ins):Nat->List Ins
 |0=>code
 |k+1=>(fixN s F code k).set k (fixI s F k ((fixN s F code k).getD k kQ))
theorem Ge(s:List Int)(F:Int->Option Int)(code:List Ins):∀k,(fixN s F code k).length=code.length
 |0=>rfl
 |k+1=>by
  show((fixN s F code k).set k _).length=_;rw[jq,Ge s F code k]
theorem Qa2(s:List Int)(F:Int->Option Int)(code:List Ins):∀(k i:Nat),k<=i->(fixN s F code k).getD i kQ=code.getD i kQ
 |0,_,_=>rfl
 |k+1,i,h=>by
  show((fixN s F code k).set k _).getD i kQ=_;rw[jc,j6 W48,<- jc,Qa2 s F code k i W48]
structure AlJ(ps:List Plc)(ba sh:Int)(fe:List Int)(l:List Nod)(x:Int)(c:List Ins)(s:List Int)(n:Nat)(F:Int->Option Int):Prop where
 x0:0<=x
 xl:x<=(l.length:Int)
 code:c=codeA ps ba sh fe l x.toNat
 star:s=starA ps ba sh fe l x.toNat
 cnt:n<=4 * x.toNat
 inn:F=innA ps ba sh fe l x.toNat
 len:c.length<=16384
section
variable {ps:List Plc} {ba sh:Int} {fe:List Int} {l:List Nod} {x:Int} {c:List Ins} {s:List Int} {n:Nat} {F:Int->Option Int}
theorem AlJ.start{F0:Int->Option Int}(h:∀a,F0 a=none):AlJ ps ba sh fe l 0 [] [] 0 F0:=⟨jl _,by omega,rfl,rfl,jE _,funext h,jE _⟩
theorem Q8y:starA ps ba sh fe l (x.toNat+1)=starA ps ba sh fe l x.toNat++[((codeA ps ba sh fe l x.toNat).length:Int)]:=by
 unfold starA;rw[kt,kG];rfl
theorem AlJ.next(h:AlJ ps ba sh fe l x c s n F)(hx:x<(l.length:Int)){c':List Ins}(hc:c'=stepC ps ba sh fe l x.toNat c)(hb:decide ((16384:Int)<(c'.length:Int))=false) :
 AlJ ps ba sh fe l (x+1) c' (s++[(c.length:Int)]) (n+4) (innS F (l.getD x.toNat kQ) ((fenC fe l x.toNat c).length:Int)):=by
  have h0:=h.x0;have e:(x+1).toNat=x.toNat+1:=by omega
  refine⟨by omega,by omega,?_,?_,by have:=h.cnt;omega,?_,by have:=kS hb;omega⟩;rw[e,hc,h.code];rfl;rw[e,Q8y,h.star,h.code];rw[e,h.inn,h.code];rfl
theorem Qq9{k:Nat}(h:(!decide ((l.getD k kQ).kind=(9:Int))&&!decide ((l.getD k kQ).next=(k:Int)+1))=true):stepC ps ba sh fe l k c=nodC ps ba sh fe l k c++putL ((l.getD k kQ).origin+1) [Ins.mk 8 0 0 0 0 0 (l.getD k kQ).next 0 0]:=by
 unfold stepC jmpB;rw[if_pos h]
theorem Qqa{k:Nat}(h:(!decide ((l.getD k kQ).kind=(9:Int))&&!decide ((l.getD k kQ).next=(k:Int)+1))=false):stepC ps ba sh fe l k c=nodC ps ba sh fe l k c:=by
 unfold stepC jmpB;rw[if_neg W301]
end
theorem Q5m(gm:Gm)(k:Int)(n:Nod):(gNode gm k n).length<=4:=by
 grind[J4,Qba,Q5l,gGoal,gNode,gSetN,gSwapN]
theorem Q1h(fe:List Int)(l:List Nod)(k:Nat)(c:List Ins):c.length<=(fenC fe l k c).length/\(fenC fe l k c).length<=c.length+1:=by
 unfold fenC;split<;>simp[Ze]
theorem Q7o(ps:List Plc)(ba sh:Int)(fe:List Int)(l:List Nod)(k:Nat)(c:List Ins):c.length<=(nodC ps ba sh fe l k c).length/\(nodC ps ba sh fe l k c).length<=c.length+5:=by
 grind[Q1h,Q5m,gmA,default,fenC,Int,nodC]
theorem Q1x(ps:List Plc)(ba sh:Int)(fe:List Int)(l:List Nod)(k:Nat)(c:List Ins):c.length<=(stepC ps ba sh fe l k c).length/\(stepC ps ba sh fe l k c).length<=c.length+6:=by
 grind[Q7o,stepC,jm,Ze,kj,List.length_nil]
theorem Q8z(ps:List Plc)(ba sh:Int)(fe:List Int)(l:List Nod)(i:Nat):∀d:Nat,(codeA ps ba sh fe l i).length<=(codeA ps ba sh fe l (i+d)).length
 |0=>jo _
 |d+1=>kf (Q8z ps ba sh fe l i d) (Q1x ps ba sh fe l (i+d) _).1
def okA(ps:List Plc)(ba sh:Int)(fe:List Int)(l:List Nod):Bool:=decide ((codeA ps ba sh fe l l.length).length<=16384)
def finA(ps:List Plc)(ba sh:Int)(fe:List Int)(l:List Nod):List Ins:=fixN (starA ps ba sh fe l l.length) (innA ps ba sh fe l l.length) (codeA ps ba sh fe l l.length) (codeA ps ba sh fe l l.length).length
theorem Qsz{ps:List Plc}{ba sh:Int}{fe:List Int}{l:List Nod}{x:Int}{c:List Ins}{s:List Int}{n:Nat}{F:Int->Option Int}(h:AlJ ps ba sh fe l x c s n F)(hx:x<(l.length:Int))(hb:decide ((16384:Int)<((stepC ps ba sh fe l x.toNat c).length:Int))=true):false=okA ps ba sh fe l:=by
 have hb:=kR hb;have h0:=h.x0;have m:=Q8z ps ba sh fe l (x.toNat+1) (l.length-(x.toNat+1));rw[show x.toNat+1+(l.length-(x.toNat+1))=l.length by omega] at m;have e:codeA ps ba sh fe l (x.toNat+1)=stepC ps ba sh fe l x.toNat c:=by rw[h.code];rfl
 rw[e] at m;unfold okA;rw[decide_eq_false W48]
def ToA(ps:List Plc)(ba sh:Int)(fe:List Int)(l:List Nod):Prop:=∀i:Nat,i<(codeA ps ba sh fe l l.length).length->((codeA ps ba sh fe l l.length).getD i kQ).kind=8\/((codeA ps ba sh fe l l.length).getD i kQ).kind=9 ->
 (innA ps ba sh fe l l.length (i:Int)).getD 0=0->0<=((codeA ps ba sh fe l l.length).getD i kQ).to/\((codeA ps ba sh fe l l.length).getD i kQ).to<(l.length:Int)
section
variable {ps:List Plc} {ba sh:Int} {fe:List Int} {l:List Nod} {x:Int} {c cd:List Ins} {s:List Int} {n:Nat} {F:Int->Option Int} {i:Int}
theorem Qk6(h0:0<=x)(h:hasF fe x=true):fenC fe l x.toNat c=c++putL ((l.getD x.toNat kQ).origin+1) [Ins.mk 6 0 0 0 0 0 0 0 0]:=by
 unfold fenC;rw[jS h0,if_pos h]
theorem Qk7(h0:0<=x)(h:hasF fe x=false):fenC fe l x.toNat c=c:=by
 unfold fenC;rw[jS h0,if_neg W301]
theorem Qe8(h0:0<=x)(h:(!decide ((l.getD x.toNat kQ).kind=(9:Int))&&!decide ((l.getD x.toNat kQ).next=x+1))=true):stepC ps ba sh fe l x.toNat c=nodC ps ba sh fe l x.toNat c++putL ((l.getD x.toNat kQ).origin+1) [Ins.mk 8 0 0 0 0 0 (l.getD x.toNat kQ).next 0 0]:=
 Qq9 (by rw[jS h0];exact h)
theorem Qe9(h0:0<=x)(h:(!decide ((l.getD x.toNat kQ).kind=(9:Int))&&!decide ((l.getD x.toNat kQ).next=x+1))=false):stepC ps ba sh fe l x.toNat c=nodC ps ba sh fe l x.toNat c:=
 Qqa (by rw[jS h0];exact h)
theorem Qp0{a b d:Bool}(h:((a||b)&&d)=true):(a=true\/b=true)/\d=true:=by
 cases a<;>cases b<;>cases d<;>simp at h⊢
theorem Quz(h0:0<=i)(hcd:cd=fixN s F c i.toNat)(hb:((decide ((cd.getD i.toNat kQ).kind=(8:Int))||decide ((cd.getD i.toNat kQ).kind=(9:Int)))&&decide ((F i).getD (0:Int)=(0:Int)))=true) :
 cd.set i.toNat { cd.getD i.toNat kQ with to:=s.getD (cd.getD i.toNat kQ).to.toNat 0 }=fixN s F c (i+1).toNat:=by
  have b:=Qp0 hb;rw[show(i+1).toNat=i.toNat+1 by omega,fixN,<- hcd];unfold fixI;grind
theorem Qv0(h0:0<=i)(hi:i<(c.length:Int))(hcd:cd=fixN s F c i.toNat)(hb:((decide ((cd.getD i.toNat kQ).kind=(8:Int))||decide ((cd.getD i.toNat kQ).kind=(9:Int)))&&decide ((F i).getD (0:Int)=(0:Int)))=false) :
 cd=fixN s F c (i+1).toNat:=by
  have hl:i.toNat<cd.length:=by rw[hcd,Ge];omega
  rw[show(i+1).toNat=i.toNat+1 by omega,fixN,<- hcd];unfold fixI;rw[jS h0,if_neg (λq=>by grind)];simp_all
theorem AlJ.to(h:AlJ ps ba sh fe l x c s n F)(hx:¬x<(l.length:Int))(ht:ToA ps ba sh fe l)(h0:0<=i)(hi:i<(c.length:Int))(hcd:cd=fixN s F c i.toNat)(hb:((decide ((cd.getD i.toNat kQ).kind=(8:Int))||decide ((cd.getD i.toNat kQ).kind=(9:Int)))&&decide ((F i).getD (0:Int)=(0:Int)))=true) :
 0<=(cd.getD i.toNat kQ).to/\(cd.getD i.toNat kQ).to<(s.length:Int):=by
  have e:x.toNat=l.length:=by have:=h.x0;have:=h.xl;omega
  have b:=Qp0 hb;have hg:cd.getD i.toNat kQ=c.getD i.toNat default:=by rw[hcd];exact Qa2 s F c _ _ (jo _)
  rw[hg] at b⊢;have hc:=h.code;have hF:=h.inn;have hs:=h.star;rw[e] at hc hF hs;subst hc hF hs;have:=ht i.toNat W48 (by grind) (by rw[jS h0];exact kR b.2);grind[starA,jK,kz]
theorem AlJ.done(h:AlJ ps ba sh fe l x c s n F)(hx:¬x<(l.length:Int))(hi0:0<=i)(hi:i<=(c.length:Int))(hi2:¬i<(c.length:Int))(hcd:cd=fixN s F c i.toNat):true=okA ps ba sh fe l/\(true=true->cd=finA ps ba sh fe l/\s=starA ps ba sh fe l l.length):=by
 have e:x.toNat=l.length:=by have:=h.x0;have:=h.xl;omega
 have hc:=h.code;have hF:=h.inn;have hs:=h.star;have hl:=h.len;grind[okA,decide_eq_true,finA]
end
theorem Qbb(l:List Ins)(k:Nat)(v:Int):∀i,i<(l.set k { l.getD k kQ with to:=v }).length->Ins.tc ((l.set k { l.getD k kQ with to:=v }).getD i kQ)=updT (λi=>Ins.tc (l.getD i kQ)) k 6 [.int .i64 v] i:=
 Zc kQ Ins.tc l k 6 _ _ (λj=>by rcases j with _|_|_|_|_|_|_|_|_|j<;>simp[Ins.tc,Ins.tl,nthT,nth])
def Good(P:Ins->Prop)(N k L:Nat)(F:Int->Option Int)(i:Nat)(x:Ins):Prop:=
 P x/\(x.kind=8\/x.kind=9->if(F (i:Int)).getD 0=0 then 0<=x.to/\x.to<(N:Int) else 0<=x.to/\(x.to<(L:Int)\/(k<N/\x.to<=(L:Int))))
def CodJ(P:Ins->Prop)(N k:Nat)(c:List Ins)(F:Int->Option Int):Prop:=
 (∀i:Nat,i<c.length->Good P N k c.length F i (c.getD i kQ))/\∀i:Nat,c.length<=i->F (i:Int)=none
theorem Zq{l m:List Ins}{i:Nat}(h:i<l.length):(l++m).getD i kQ=l.getD i default:=by
 grind
theorem Zr{l m:List Ins}{i:Nat}(h:l.length<=i):(l++m).getD i kQ=m.getD (i-l.length) default:=by
 grind
theorem Gf{l:List Ins}{i:Nat}(h:i<l.length):l.getD i kQ∈l:=by
 grind
section
variable {P:Ins->Prop} {N k:Nat} {c seg:List Ins} {F F':Int->Option Int}
theorem CodJ.app(h:CodJ P N k c F)(hF:∀i:Nat,i<c.length->F' (i:Int)=F (i:Int))(hs:∀j:Nat,j<seg.length->Good P N (k+1) (c.length+seg.length) F' (c.length+j) (seg.getD j kQ))
 (hk:k<N) (hne:k+1=N->seg≠[]) (hhi:∀i:Nat,c.length+seg.length<=i->F' (i:Int)=none):CodJ P N (k+1) (c++seg) F':=by
  refine⟨λi hi=>?_,λi hi=>hhi i (by rw[jm] at hi;exact hi)⟩;rw[jm] at hi⊢;by_cases hc:i<c.length;rw[Zq hc];obtain⟨g1,g2⟩:=h.1 i hc;refine⟨g1,λhj=>?_⟩;grind;rw[Zr W48];grind
theorem CodJ.plain(h:CodJ P N k c F)(hs:∀x∈seg,P x/\(x.kind=8\/x.kind=9->0<=x.to/\x.to<(N:Int)))(hk:k<N)(hne:k+1=N->seg≠[]):CodJ P N (k+1) (c++seg) F:=
 h.app (λ_ _=>rfl) (λj hj=>by have:=hs _ (Gf hj);refine⟨this.1,λq=>?_⟩;rw[h.2 _ W48];exact this.2 q) hk hne (λi hi=>h.2 i W48)
end
theorem nk{a:Int}(h:(a==8||a==9)=false):a≠8/\a≠9:=by
 grind
theorem nj{a:Int}(h:(a==8||a==9)=false)(q:a=8\/a=9):False:=q.elim (nk h).1 (nk h).2
theorem Q40{gm:Gm}{v:Vl}{r:Int}{x:Ins}(h:x∈gFetch gm v r):x.kind≠8/\x.kind≠9:=by
 unfold gFetch at h;split at h;split at h;cases List.mem_singleton.1 h;exact nk rfl;cases h;cases List.mem_singleton.1 h;exact nk rfl
theorem Qqb{gm:Gm}{s:Int}{x:Ins}(h:x∈gKeep gm s):x.kind≠8/\x.kind≠9:=by
 unfold gKeep at h;split at h;cases List.mem_singleton.1 h;exact nk rfl;cases h
theorem Qqc{gm:Gm}{v:Vl}{r:Int}{x:Ins}(h:x∈gMove gm v r):x.kind≠8/\x.kind≠9:=by
 unfold gMove at h;split at h;cases List.mem_singleton.1 h;exact nk rfl;exact Q40 h
theorem Qgy{gm:Gm}{len:Int}{n:Nod}(h5:n.kind≠5){x:Ins}(h:x∈gNode gm len n)(hj:x.kind=8\/x.kind=9):n.kind=8/\x.to=n.els:=by
 unfold gNode gSetN gSwapN at h;repeat' split at h
 all_goals simp only[kq,kC,km,or_false] at h
 all_goals first|exact absurd ‹n.kind=5› h5|(rcases h with h|h;have:=Q40 h;omega;subst h;exact⟨by assumption,rfl⟩)|(exfalso;(repeat' (rcases h with h|h));all_goals first|(have:=Q40 h;omega)|(have:=Qqc h;omega)|(have:=Qqb h;omega)|exact nj rfl hj|(subst h;exact nj rfl hj)|cases h)
section
variable {P:Ins->Prop} {ps:List Plc} {ba sh:Int} {fe:List Int} {l:List Nod}
structure NodG(P:Ins->Prop)(ps:List Plc)(ba sh:Int)(N:Nat)(n:Nod):Prop where
 fence:P { (Ins.mk 6 0 0 0 0 0 0 0 0) with from_:=n.origin+1 }
 code:∀len:Int,∀x∈gNode (gmA ps ba sh n) len n,P x
 jump:P { (Ins.mk 8 0 0 0 0 0 n.next 0 0) with from_:=n.origin+1 }
 next:n.kind≠9->0<=n.next/\n.next<(N:Int)
 els:n.kind=8->0<=n.els/\n.els<(N:Int)
theorem Qgz{F:Int->Option Int}{nd:Nod}{n:Int}{i:Nat}(h:(i:Int)<n+2):innS F nd n (i:Int)=F (i:Int):=by
 unfold innS innF;split;grind;rfl
theorem Qa3{F:Int->Option Int}{nd:Nod}{n:Int}{i:Nat}(h:n+4<=(i:Int)):innS F nd n (i:Int)=F (i:Int):=by
 unfold innS innF;split;grind;rfl
theorem Qk8{k:Nat}{c:List Ins}:stepC ps ba sh fe l k c=c++((if hasF fe k then [{ (Ins.mk 6 0 0 0 0 0 0 0 0) with from_:=(l.getD k kQ).origin+1 }] else [])++gNode (gmA ps ba sh (l.getD k kQ)) ((fenC fe l k c).length:Int) (l.getD k kQ)++(if jmpB k (l.getD k kQ) then [{ (Ins.mk 8 0 0 0 0 0 (l.getD k kQ).next 0 0) with from_:=(l.getD k kQ).origin+1 }] else [])):=by
 unfold stepC nodC;have e:fenC fe l k c=c++(if hasF fe k then [{ (Ins.mk 6 0 0 0 0 0 0 0 0) with from_:=(l.getD k kQ).origin+1 }] else []):=by unfold fenC;split;rfl;rw[jR]
 split;rw[e];simp[putL];rw[e];simp
theorem CodJ.step{k:Nat}{c:List Ins}{F:Int->Option Int}(h:CodJ P l.length k c F)(hk:k<l.length)(hn:NodG P ps ba sh l.length (l.getD k kQ)) :
 CodJ P l.length (k+1) (stepC ps ba sh fe l k c) (innS F (l.getD k kQ) ((fenC fe l k c).length:Int)):=by
  have hlast:k+1=l.length->jmpB k (l.getD k kQ)=true\/(l.getD k kQ).kind=9:=λe=>by by_cases h9:(l.getD k kQ).kind=9;exact .inr h9;left;have:=hn.next h9;unfold jmpB;rw[decide_eq_false h9,decide_eq_false W48];rfl
  have hjmp:jmpB k (l.getD k kQ)=true->(l.getD k kQ).kind≠9:=λe q=>by unfold jmpB at e;rw[decide_eq_true q] at e;cases e
  have hf:=Q1h fe l k c;have hfl:(fenC fe l k c).length=c.length+(if hasF fe k then [{ (Ins.mk 6 0 0 0 0 0 0 0 0) with from_:=(l.getD k kQ).origin+1 }] else([]:List Ins)).length:=by unfold fenC;split;rw[jm,Ze];rfl;rfl
  rw[Qk8];by_cases h5:(l.getD k kQ).kind=5;have hg:=Q62 (gm:=gmA ps ba sh (l.getD k kQ)) (k:=((fenC fe l k c).length:Int)) h5;have hin:∀i:Nat,(innS F (l.getD k kQ) ((fenC fe l k c).length:Int)) (i:Int)=if(i:Int)=((fenC fe l k c).length:Int)+3 then some 1 else if(i:Int)=((fenC fe l k c).length:Int)+2 then some 1 else F (i:Int):=λi=>by unfold innS innF;rw[if_pos h5]
  have hcode:=hn.code ((fenC fe l k c).length:Int);rw[hg] at hcode⊢;have hl4:(putL (gmA ps ba sh (l.getD k kQ)).fr [Ins.mk 1 0 15 0 0 0 0 1 0,Ins.mk 5 0 15 0 0 ((gmA ps ba sh (l.getD k kQ)).shared+(l.getD k kQ).thing) 0 0 0,Ins.mk 9 0 0 15 0 0 (((fenC fe l k c).length:Int)+4) 0 0,Ins.mk 8 0 0 0 0 0 ((fenC fe l k c).length:Int) 0 0]).length=4:=rfl;generalize hA:(if hasF fe k then [{ (Ins.mk 6 0 0 0 0 0 0 0 0) with from_:=(l.getD k kQ).origin+1 }] else([]:List Ins))=A at hfl⊢;generalize hB:(if jmpB k (l.getD k kQ) then [{ (Ins.mk 8 0 0 0 0 0 (l.getD k kQ).next 0 0) with from_:=(l.getD k kQ).origin+1 }] else([]:List Ins))=B;have hAm:∀x∈A,P x/\(x.kind=8\/x.kind=9->0<=x.to/\x.to<(l.length:Int)):=λx hx=>by rw[<- hA] at hx;split at hx;cases List.mem_singleton.1 hx;exact⟨hn.fence,λq=>(nj rfl q).elim⟩;cases hx
  have hBm:∀x∈B,P x/\(x.kind=8\/x.kind=9->0<=x.to/\x.to<(l.length:Int)):=λx hx=>by rw[<- hB] at hx;split at hx;rename_i e;cases List.mem_singleton.1 hx;exact⟨hn.jump,λ_=>hn.next (hjmp e)⟩;cases hx
  have hB1:k+1=l.length->B≠[]:=λe=>by grind
  refine h.app (λi hi=>Qgz W48) (λj hj=>?_) hk (λ_=>by grind[List.append_eq_nil_iff]) (λi hi=>?_);simp only[jm,hl4] at hj⊢;have hlt:c.length+j<A.length\/True:=.inr trivial;by_cases j1:j<A.length;rw[Zq (by rw[jm];omega),Zq j1];have:=hAm _ (Gf j1);refine⟨this.1,λq=>?_⟩;grind;by_cases j2:j<A.length+4;rw[Zq (by rw[jm,hl4];omega),Zr W48];have hm:(j-A.length)<4:=by omega
  have hx:=hcode _ (Gf (i:=j-A.length) (by rw[hl4];exact hm));refine⟨hx,λq=>?_⟩;have hj4:j-A.length=0\/j-A.length=1\/j-A.length=2\/j-A.length=3:=by omega
  rcases hj4 with e|e|e|e;rw[e] at q;exact(nj rfl q).elim;rw[e] at q;exact(nj rfl q).elim;have hv:=hin (c.length+j);rw[if_neg W48,if_pos W48] at hv;rw[e,hv,if_neg W219];show 0<=((fenC fe l k c).length:Int)+4/\(((fenC fe l k c).length:Int)+4<_\/(k+1<l.length/\((fenC fe l k c).length:Int)+4<=_));grind;have hv:=hin (c.length+j);rw[if_pos W48] at hv;rw[e,hv,if_neg W219];show 0<=((fenC fe l k c).length:Int)/\(((fenC fe l k c).length:Int)<_\/_);exact⟨by omega,.inl W48⟩;rw[Zr (by rw[jm,hl4];omega),jm,hl4];have:=hBm _ (Gf (i:=j-(A.length+4)) W48);refine⟨this.1,λq=>?_⟩;rw[Qa3 W48,h.2 _ W48];exact this.2 q;simp only[jm,hl4] at hi;rw[Qa3 W48];exact h.2 i W48;rw[Qe7 h5];refine h.plain (λx hx=>?_) hk (λe=>?_);rcases List.mem_append.1 hx with hx|hx;rcases List.mem_append.1 hx with hx|hx;split at hx;cases List.mem_singleton.1 hx;exact⟨hn.fence,λq=>(nj rfl q).elim⟩;cases hx;refine⟨hn.code _ x hx,λq=>?_⟩;have:=Qgy h5 hx q;rw[this.2];exact hn.els this.1;split at hx;rename_i e;cases List.mem_singleton.1 hx;exact⟨hn.jump,λ_=>hn.next (hjmp e)⟩;cases hx;rcases hlast e with q|q;rw[if_pos q];intro z;simp at z;rw[Qa1 q];intro z;simp[putL] at z
theorem Qh0(hn:∀k:Nat,k<l.length->NodG P ps ba sh l.length (l.getD k kQ)):∀k:Nat,k<=l.length->CodJ P l.length k (codeA ps ba sh fe l k) (innA ps ba sh fe l k)
 |0,_=>⟨λi hi=>absurd hi (by simp[codeA]),λ_ _=>rfl⟩
 |k+1,h=>(Qh0 hn k W48).step W48 (hn k W48)
theorem Qt0(hn:∀k:Nat,k<l.length->NodG P ps ba sh l.length (l.getD k kQ)):ToA ps ba sh fe l:=λi hi hk h0=>by
 have:=((Qh0 hn l.length (jo _)).1 i hi).2 hk;rw[if_pos h0] at this;exact this
end
structure FauQ(sh lk:List Dcl)(gs:List Grf)(fs:List Iln)(al:List Alc)(bf:Int):Prop where
 nam:namedB sh lk gs=true
 ns:sh.length<=64
 nl:lk.length<=16
 ng:gs.length<=8
 grf:∀t:Nat,t<gs.length->GrfQ sh.length lk.length (gs.getD t default)
 nf:fs.length=gs.length
 fen:∀t:Nat,t<gs.length->fenB ((gs.getD t default).nodes.length:Int) (fs.getD t default).l=true
 na:al.length=gs.length
 fit:∀t:Nat,t<gs.length->fitB (gs.getD t default).slots (al.getD t default)=true
 bf:1<=bf/\bf<=16
section
variable {sh lk:List Dcl} {gs:List Grf} {fs:List Iln} {al:List Alc} {bf:Int}
theorem G1(h:fauU sh lk gs fs al bf=0):FauQ sh lk gs fs al bf:=by
 unfold fauU at h;split at h;rename_i h1;exact absurd h h1;rename_i h1;split at h;rename_i h2;exact absurd h h2;rename_i h2;split at h;exact absurd h W219;rename_i h3;split at h;exact absurd h W219;rename_i h4;have h1:safU sh lk gs fs=0:=Decidable.not_not.1 h1;have h2:(rgtU sh lk gs al).2=0:=Decidable.not_not.1 h2;unfold safU at h1;split at h1;rename_i e;exact absurd h1 e;rename_i e;have e:(chkU sh lk gs).1=0:=Decidable.not_not.1 e;have c:=Ye e;split at h1;exact absurd h1 W219;rename_i e2;split at h1;rename_i e3;unfold rgtU at h2;rw[if_neg (by rw[e];decide)] at h2;split at h2;exact absurd h2 W219;rename_i e4;split at h2;exact absurd h2 W219;rename_i e5;have hnm:namedB sh lk gs=true:=by grind[chkU,absurd,decide]
 refine⟨hnm,c.1.1,c.1.2.1,c.1.2.2,c.2,by omega,λt ht=>List.all_eq_true.1 e3 t (List.mem_range.2 ht),by omega,λt ht=>?_,by omega⟩;grind;exact absurd h1 W219
end
section
variable (sh lk:List Dcl) (gs:List Grf) (fs:List Iln) (al:List Alc)
def baT(t:Nat):Int:=(mAt sh lk al al.length).getD t 0
def okT(t:Nat):Bool:=okA (al.getD t kQ).places (baT sh lk al t) (sh.length:Int) (fs.getD t kQ).l (gs.getD t kQ).nodes
def codT(t:Nat):List Ins:=finA (al.getD t kQ).places (baT sh lk al t) (sh.length:Int) (fs.getD t kQ).l (gs.getD t kQ).nodes
def staT(t:Nat):List Int:=starA (al.getD t kQ).places (baT sh lk al t) (sh.length:Int) (fs.getD t kQ).l (gs.getD t kQ).nodes (gs.getD t kQ).nodes.length
def corL(n:Nat):List Cor:=(jv n).map λt=>⟨(gs.getD t kQ).name,codT sh lk gs fs al t⟩
def sttL(n:Nat):List Iln:=(jv n).map λt=>⟨staT sh lk gs fs al t⟩
abbrev MadY:=Int×List Int×List Cor×List Iln×Int×Int×Int
def madR(bf:Int):MadY:=(0,memL sh lk al al.length,corL sh lk gs fs al gs.length,sttL sh lk gs fs al gs.length,(sh.length:Int),(lk.length:Int),bf)
noncomputable def madU(bf:Int):MadY:=
 if fauU sh lk gs fs al bf≠0 then(fauU sh lk gs fs al bf,[],[],[],0,0,0)
 else if 4096<((memL sh lk al al.length).length:Int) then(3,[],[],[],0,0,0)
 else if(jv gs.length).all (okT sh lk gs fs al)=true then madR sh lk gs fs al bf else(3,[],[],[],0,0,0)
theorem Qbc(n:Nat):corL sh lk gs fs al (n+1)=corL sh lk gs fs al n++[⟨(gs.getD n kQ).name,codT sh lk gs fs al n⟩]:=by
 unfold corL;rw[kt,kG];rfl
theorem Qbd(n:Nat):sttL sh lk gs fs al (n+1)=sttL sh lk gs fs al n++[⟨staT sh lk gs fs al n⟩]:=by
 unfold sttL;rw[kt,kG];rfl
theorem Q41(n:Nat):(corL sh lk gs fs al n).length=n:=by
 unfold corL;rw[jK,kz]
theorem Q42(n:Nat):(sttL sh lk gs fs al n).length=n:=by
 unfold sttL;rw[jK,kz]
end
section
variable {sh lk:List Dcl} {gs:List Grf} {fs:List Iln} {al:List Alc} {bf:Int}
theorem Qv1(h1:(!decide (fauU sh lk gs fs al bf=(0:Int)))=true):(fauU sh lk gs fs al bf,[],[],[],0,0,0)=madU sh lk gs fs al bf:=by
 unfold madU;rw[if_pos W248]
theorem Qv2(h1:(!decide (fauU sh lk gs fs al bf=(0:Int)))=false)(h2:decide ((4096:Int)<((memL sh lk al al.length).length:Int))=true):(3,[],[],[],0,0,0)=madU sh lk gs fs al bf:=by
 simp_all[madU,if_neg,if_pos,kR]
structure MadJ(sh lk:List Dcl)(gs:List Grf)(fs:List Iln)(al:List Alc)(x:Int)(c:List Cor)(s:List Iln):Prop where
 x0:0<=x
 xl:x<=(gs.length:Int)
 c:c=corL sh lk gs fs al x.toNat
 s:s=sttL sh lk gs fs al x.toNat
 ok:∀t:Nat,t<x.toNat->okT sh lk gs fs al t=true
theorem MadJ.start:MadJ sh lk gs fs al 0 [] []:=⟨jl _,by omega,rfl,rfl,λt h=>absurd h W207⟩
section
variable {x:Int} {c:List Cor} {s:List Iln}
theorem Qv3(h1:(!decide (fauU sh lk gs fs al bf=(0:Int)))=false)(h2:decide ((4096:Int)<((memL sh lk al al.length).length:Int))=false)(h:MadJ sh lk gs fs al x c s)(hx:decide (x<(gs.length:Int))=true)(ho:(!okT sh lk gs fs al x.toNat)=true):(3,[],[],[],0,0,0)=madU sh lk gs fs al bf:=by
 have h0:=h.x0;have hx:=kR hx;have hn:¬(jv gs.length).all (okT sh lk gs fs al)=true:=λq=>by grind
 unfold madU;grind
theorem Qv4(h1:(!decide (fauU sh lk gs fs al bf=(0:Int)))=false)(h2:decide ((4096:Int)<((memL sh lk al al.length).length:Int))=false)(h:MadJ sh lk gs fs al x c s)(hx:decide (x<(gs.length:Int))=false):(0,memL sh lk al al.length,c,s,(sh.length:Int),(lk.length:Int),bf)=madU sh lk gs fs al bf:=by
 have h0:=h.x0;have hl:=h.xl;have hx:=kS hx;have e:x.toNat=gs.length:=by omega
 have hn:(jv gs.length).all (okT sh lk gs fs al)=true:=List.all_eq_true.2 λt ht=>h.ok t (by rw[e];exact List.mem_range.1 ht);unfold madU;rw[if_neg W248,if_neg (kS h2),if_pos hn,h.c,h.s,e];rfl
theorem MadJ.next(h:MadJ sh lk gs fs al x c s)(hx:decide (x<(gs.length:Int))=true)(ho:(!okT sh lk gs fs al x.toNat)=false):MadJ sh lk gs fs al (x+1) (c++[⟨(gs.getD x.toNat kQ).name,codT sh lk gs fs al x.toNat⟩]) (s++[⟨staT sh lk gs fs al x.toNat⟩]):=by
 have h0:=h.x0;have hx:=kR hx;have e:(x+1).toNat=x.toNat+1:=by omega
 refine⟨by omega,by omega,by rw[e,Qbc,h.c],by rw[e,Qbd,h.s],λt ht=>?_⟩;by_cases q:t<x.toNat;exact h.ok t q;grind
end
theorem Qt1{t:Nat}(h:t<al.length):baT sh lk al t=((memL sh lk al t).length:Int):=by
 unfold baT mAt;grind
theorem FauQ.cells(h:FauQ sh lk gs fs al bf):∀j:Nat,j<al.length->0<=(al.getD j kQ).cells/\(al.getD j kQ).cells<=4160:=λj hj=>Q5k (h.fit j (by have:=h.na;omega))
theorem FauQ.ba(h:FauQ sh lk gs fs al bf){t:Nat}(ht:t<gs.length):0<=baT sh lk al t/\baT sh lk al t<=100000:=by
 have:=h.na;have:=h.ns;have:=h.nl;have:=h.ng;have:=Q3z sh lk al (λj hj=>(h.cells j hj).2) t W48;rw[Qt1 W48];omega
theorem FauQ.fl(h:FauQ sh lk gs fs al bf){t:Nat}(ht:t<gs.length):(fs.getD t kQ).l.length<=8388608:=by
 have:=(h.grf t ht).len;rcases fenR_len (h.fen t ht) with q|q;rw[q];simp;omega
theorem FauQ.ps(h:FauQ sh lk gs fs al bf){t:Nat}(ht:t<gs.length):((al.getD t kQ).places.length:Int)=(gs.getD t kQ).slots:=Qg4 (h.fit t ht)
theorem FauQ.org(h:FauQ sh lk gs fs al bf){t:Nat}(ht:t<gs.length){i:Nat}(hi:i<(gs.getD t kQ).nodes.length):0<=((gs.getD t kQ).nodes.getD i kQ).origin/\((gs.getD t kQ).nodes.getD i kQ).origin<=4095:=by
 have:=(h.grf t ht).nod i hi;unfold rightN at this;grind
theorem FauQ.gm(h:FauQ sh lk gs fs al bf){t:Nat}(ht:t<gs.length)(fr:Int):GmQ (Gm.mk (al.getD t kQ).places (baT sh lk al t) (sh.length:Int) fr):=by
 refine⟨h.ba ht,by have:=h.ns;grind,λi hi=>?_⟩;have a:=Qju (h.fit t ht) hi;have c:=Q5k (h.fit t ht);grind
section
variable {t:Nat}
theorem Qk9{ns nl:Nat}{g:Grf}{n:Nod}(h:rightN ns nl g n=true)(hk0:0<=n.kind)(h1:ns<=64)(h2:nl<=16):0<=n.thing/\n.thing<=1000:=by
 have q:=Q7l h hk0;by_cases h5:n.kind=5\/n.kind=6;have:=q.lock h5;omega;by_cases h2:n.kind=2\/n.kind=3\/n.kind=4;have:=q.thing h2;omega;unfold rightN at h;simp only[jg] at h;have w3:=h.2.1.1.1.1.2;have hz:usesB (prtN n) 4=false:=by have hk:=q.k;(have:n.kind=1\/n.kind=7\/n.kind=8\/n.kind=9:=by omega);unfold prtN;rcases this with e|e|e|e<;>rw[e];cases twoB n.op<;>rfl;all_goals (simp;rfl)
 have:=Q8s hz w3;omega
theorem FauQ.nd(h:FauQ sh lk gs fs al bf)(hw:UnitW gs)(ht:t<gs.length){i:Nat}(hi:i<(gs.getD t kQ).nodes.length)(fr:Int):NdQ (Gm.mk (al.getD t kQ).places (baT sh lk al t) (sh.length:Int) fr) ((gs.getD t kQ).nodes.getD i kQ):=by
 have q:=(h.grf t ht).q (λb=>(hw t b).1) i hi;have p:=h.ps ht;refine⟨λk=>?_,λk=>?_,λk=>?_,Qk9 ((h.grf t ht).nod i hi) (hw t i).1 h.ns h.nl⟩;have:=q.slot k;grind;have:=q.a k;grind;have:=q.b k;grind
theorem FauQ.to(h:FauQ sh lk gs fs al bf)(hw:UnitW gs)(ht:t<gs.length):ToA (al.getD t kQ).places (baT sh lk al t) (sh.length:Int) (fs.getD t kQ).l (gs.getD t kQ).nodes:=
 Qt0 (P:=λ_=>True) λk hk=>by
  have q:=(h.grf t ht).q (λb=>(hw t b).1) k hk;exact⟨trivial,λ_ _ _=>trivial,trivial,q.next,q.els⟩
end
end
theorem Qi8{p:Int->Bool}{n k:Int}:∀(m:Nat) (i:Int),(n-i).toNat=m->allFrom p i n=true->i<=k->k<n->p k=true:=by
 intro m;induction m with|zero=>intro i h _ h1 h2;omega|succ m ih =>intro i h ha h1 h2;rw[Qdg p W48,jg] at ha;by_cases e:i=k;subst e;exact ha.1;exact ih (i+1) W48 ha.2 W48 h2
def didAt(l:List Did)(i:Int):Did:=l.getD i.toNat kQ
def rightP(l:List Did)(i:Int):Bool:=didB (didAt l i)
def rightsB(l:List Did):Bool:=allFrom (rightP l) 0 l.length
theorem Qka{l:List Did}(h:rightsB l=true){i:Int}(h0:0<=i)(h1:i<l.length):didB (l.getD i.toNat kQ)=true:=
 Qi8 (p:=rightP l) _ 0 rfl h h0 h1
theorem Qfi{d:Did}(h:didB d=true):0<d.kind/\d.kind<9/\0<=d.core/\d.core<8/\0<=d.addr/\d.addr<4096:=by
 unfold didB at h;simp only[BL] at h;omega
theorem rng{l:List Did}(hr:rightsB l=true){i:Int}(h0:0<=i)(h1:i<l.length):0<=(l.getD i.toNat kQ).addr/\(l.getD i.toNat kQ).addr<4096:=by
 have:=Qfi (Qka hr h0 h1);omega
theorem Qkb{α:Type}[Inhabited α]{L:List α}{k:Nat}(h:k<L.length):L.take k++[L.getD k kQ]=L.take (k+1):=by
 rw[List.take_add_one,jc,jh h];rfl
section
variable {bu:Int} {cs:List Cor} {k:Int} {vs:List VCo} {mem:List Int} {pr:List Prt}
variable {i:Ins} {d:Did} {c:VCo}
end
section
variable {bu:Int} {cs:List Cor} {k:Int} {vs:List VCo} {mem:List Int} {pr:List Prt} {s:Stp}
end
section
variable {vs:List VCo} {k:Int} {r:Nat}
end
section
variable {bu:Int} {cs:List Cor} {vs:List VCo} {mem:List Int}
end
def newVs(n:Nat):List VCo:=jd n ⟨0,false,jd 16 0,[]⟩
section
variable {mem:List Int} {shared locks bu:Int} {cs:List Cor}
end
section
variable {bu:Int} {cs:List Cor} {vs:List VCo} {mem:List Int}
end
def AdN(ba ac sh:Int)(n:Nod)(a:Int):Prop:=(ba<=a/\a<ba+ac)\/((n.kind=2\/n.kind=3\/n.kind=4)/\a=n.thing)\/((n.kind=5\/n.kind=6)/\a=sh+n.thing)
structure PlG(ac:Int)(p:Plc):Prop where
 c:p.cell=true->0<=p.n/\p.n<ac
 r:p.cell=false->0<=p.n/\p.n<13
structure GmG(M:Int)(ac nl:Int)(gm:Gm):Prop where
 b:0<=gm.base/\gm.base+ac<=M
 s:0<=gm.shared/\gm.shared+nl<=M
 fr:0<=gm.fr/\gm.fr<=4096
 nl:0<=nl
section
variable {M ba ac nl sh:Int} {gm:Gm} {n:Nod} {v:Vl} {x:Ins}
theorem own_cell(h:GmG M ac nl gm){p:Plc}(hp:PlG ac p)(hc:p.cell=true):(0<=gm.base+p.n/\gm.base+p.n<M)/\AdN gm.base ac sh n (gm.base+p.n):=by
 have:=h.b;have:=hp.c hc;exact⟨by omega,.inl W48⟩
end
theorem Qea(s:List Int)(F:Int->Option Int)(c:List Ins):∀(k i:Nat),i<k->k<=c.length->(fixN s F c k).getD i kQ=fixI s F i (c.getD i kQ)
 |0,i,h,_=>absurd h W48
 |k+1,i,h,hk=>by
  show((fixN s F c k).set k _).getD i kQ=_;by_cases e:i=k;subst e;rw[jc,kp (by rw[Ge];omega)];show fixI s F i ((fixN s F c i).getD i kQ)=_;rw[Qa2 s F c i i (jo _)];rw[jc,j6 (λq=>e q.symm),<- jc];exact Qea s F c k i W48 W48
section
variable {P:Ins->Prop} {ps:List Plc} {ba sh:Int} {fe:List Int} {l:List Nod}
end
section
variable {sh lk:List Dcl} {gs:List Grf} {fs:List Iln} {al:List Alc} {bf:Int}
theorem Qqd{n t:Nat}(h:t<n):(corL sh lk gs fs al n).getD t kQ=⟨(gs.getD t kQ).name,codT sh lk gs fs al t⟩:=by
 unfold corL;grind
section
variable {a n1 n2 n3:Int} {m:List Int} {c:List Cor} {s:List Iln}
end
end
def brB(n:Nod):Bool:=decide (n.kind=8)&&!decide (n.els=n.next)
def jpN(gm:Gm)(n:Nod)(len:Int):List Int:=if brB n then [len+((gFetch gm n.a 13).length:Int)] else []
section
variable (ps:List Plc) (ba sh:Int) (fe:List Int) (l:List Nod)
def jpM(k:Nat)(c:List Ins)(J:List Int):List Int:=J++jpN (gmA ps ba sh (l.getD k kQ)) (l.getD k kQ) ((fenC fe l k c).length:Int)
def jpS(k:Nat)(c:List Ins)(J:List Int):List Int:=jpM ps ba sh fe l k c J++(if jmpB k (l.getD k kQ) then [((nodC ps ba sh fe l k c).length:Int)] else [])
def jpA:Nat->List Int
 |0=>[]
 |k+1=>jpS ps ba sh fe l k (codeA ps ba sh fe l k) (jpA k)
end
def zB(x:Ins):Prop:=x.kind=8\/x.kind=9
structure JpJ(c:List Ins)(F:Int->Option Int)(J:List Int):Prop where
 mem:∀i:Nat,i<c.length->((i:Int)∈J↔zB (c.getD i default)/\(F (i:Int)).getD 0=0)
 rng:∀y∈J,0<=y/\y<(c.length:Int)
 inc:J.Pairwise (· < ·)
 hi:∀i:Nat,c.length<=i->F (i:Int)=none
section
variable {c seg:List Ins} {F F':Int->Option Int} {J K:List Int}
theorem JpJ.app(h:JpJ c F J)(hF:∀i:Nat,i<c.length->F' (i:Int)=F (i:Int))(hk:∀y∈K,(c.length:Int)<=y/\y<(c.length:Int)+seg.length)(hi:K.Pairwise (· < ·))
 (hs:∀j:Nat,j<seg.length->(((c.length+j:Nat):Int)∈K↔zB (seg.getD j kQ)/\(F' ((c.length+j:Nat):Int)).getD 0=0)) (hh:∀i:Nat,c.length+seg.length<=i->F' (i:Int)=none):JpJ (c++seg) F' (J++K):=by
  refine⟨λi hi=>?_,λy hy=>?_,?_,λi hi=>hh i (by rw[jm] at hi;exact hi)⟩;rw[jm] at hi;rw[kq];by_cases e:i<c.length;rw[Zq e,hF i e];constructor;rintro (q|q);exact(h.mem i e).1 q;have:=hk _ q;omega;exact λq=>.inl ((h.mem i e).2 q);rw[Zr W48];have z:=hs (i-c.length) W48;rw[show c.length+(i-c.length)=i by omega] at z;constructor;rintro (q|q);have:=h.rng _ q;omega;exact z.1 q;exact λq=>.inr (z.2 q);rw[jm];rcases List.mem_append.1 hy with q|q;have:=h.rng _ q;omega;have:=hk _ q;omega;exact List.pairwise_append.2 ⟨h.inc,hi,λa ha b hb=>by have:=h.rng _ ha;have:=hk _ hb;omega⟩
end
theorem zb6(o:Int):¬zB { (Ins.mk 6 0 0 0 0 0 0 0 0) with from_:=o }:=λq=>(nj rfl q).elim
section
variable {ps:List Plc} {ba sh:Int} {fe:List Int} {l:List Nod}
theorem Qn3{k:Nat}{c:List Ins}:nodC ps ba sh fe l k c=c++((if hasF fe k then [{ (Ins.mk 6 0 0 0 0 0 0 0 0) with from_:=(l.getD k kQ).origin+1 }] else [])++gNode (gmA ps ba sh (l.getD k kQ)) ((fenC fe l k c).length:Int) (l.getD k kQ)):=by
 unfold nodC;have e:fenC fe l k c=c++(if hasF fe k then [{ (Ins.mk 6 0 0 0 0 0 0 0 0) with from_:=(l.getD k kQ).origin+1 }] else []):=by unfold fenC;split;rfl;rw[jR]
 rw[e,jM]
theorem Qqe{gm:Gm}{n:Nod}{len:Int}(h:brB n=true):∃x,gNode gm len n=gFetch gm n.a 13++[x]/\x.kind=9:=by
 unfold brB at h;rw[jg,jC] at h;have h8:=kR h.1;have h9:=kS h.2;rw[Q33 h8];unfold gBranch;rw[if_neg h9];exact⟨_,rfl,rfl⟩
theorem gNb{gm:Gm}{n:Nod}{len:Int}(h5:n.kind≠5)(h:brB n=false):∀x∈gNode gm len n,¬zB x:=λx hx q=>by
 have z:=(Qgy h5 hx q).1;simp_all[brB,decide_eq_true,kr,j9,Q33,gBranch,if_pos]
theorem JpJ.node{k:Nat}{c:List Ins}{F:Int->Option Int}{J:List Int}(h:JpJ c F J):JpJ (nodC ps ba sh fe l k c) (innS F (l.getD k kQ) ((fenC fe l k c).length:Int)) (jpM ps ba sh fe l k c J):=by
 have hf:=Q1h fe l k c;have hfl:(fenC fe l k c).length=c.length+(if hasF fe k then [{ (Ins.mk 6 0 0 0 0 0 0 0 0) with from_:=(l.getD k kQ).origin+1 }] else([]:List Ins)).length:=by unfold fenC;split;rw[jm,Ze];rfl;rfl
 rw[Qn3];unfold jpM;generalize hA:(if hasF fe k then [{ (Ins.mk 6 0 0 0 0 0 0 0 0) with from_:=(l.getD k kQ).origin+1 }] else([]:List Ins))=A at hfl⊢;have hAm:∀x∈A,¬zB x:=λx hx=>by grind[zb6]
 by_cases h5:(l.getD k kQ).kind=5;have hb:brB (l.getD k kQ)=false:=by unfold brB;rw[decide_eq_false W48];rfl
 have hg:=Q62 (gm:=gmA ps ba sh (l.getD k kQ)) (k:=((fenC fe l k c).length:Int)) h5;have hl4:(gNode (gmA ps ba sh (l.getD k kQ)) ((fenC fe l k c).length:Int) (l.getD k kQ)).length=4:=by rw[hg];rfl
 have hin:∀i:Nat,(innS F (l.getD k kQ) ((fenC fe l k c).length:Int)) (i:Int)=if(i:Int)=((fenC fe l k c).length:Int)+3 then some 1 else if(i:Int)=((fenC fe l k c).length:Int)+2 then some 1 else F (i:Int):=λi=>by unfold innS innF;rw[if_pos h5]
 unfold jpN;rw[hb,if_neg W219];refine h.app (λi hi=>Qgz W48) (λy hy=>by cases hy) .nil (λj hj=>?_) (λi hi=>?_);rw[jm,hl4] at hj;refine⟨λq=>(by cases q),λq=>?_⟩;exfalso;by_cases j1:j<A.length;rw[Zq j1] at q;exact hAm _ (Gf j1) q.1;rw[Zr W48,hin] at q;have hj4:j-A.length=0\/j-A.length=1\/j-A.length=2\/j-A.length=3:=by omega
 rw[hg] at q;rcases hj4 with e|e|e|e;rw[e] at q;exact nj rfl q.1;rw[e] at q;exact nj rfl q.1;grind;grind;grind[jm,hi,Qa3];rw[Qe7 h5];unfold jpN;cases hb:brB (l.getD k kQ) with|false =>rw[if_neg W219];refine h.app (λ_ _=>rfl) (λy hy=>by cases hy) .nil (λj hj=>?_) (λi hi=>h.hi i W48);grind[Gf,gNb]|true =>rw[if_pos rfl];obtain⟨x,e,hx⟩:=Qqe (gm:=gmA ps ba sh (l.getD k kQ)) (len:=((fenC fe l k c).length:Int)) hb;rw[e];refine h.app (λ_ _=>rfl) (λy hy=>?_) (List.pairwise_singleton _ _) (λj hj=>?_) (λi hi=>h.hi i W48);grind;simp only[jm,jP] at hj;rw[h.hi _ W48,jG];by_cases j1:j<A.length;grind;rw[Zr W48];by_cases j2:j-A.length<(gFetch (gmA ps ba sh (l.getD k kQ)) (l.getD k kQ).a 13).length;rw[Zq j2];exact⟨λq=>by omega,λq=>absurd q.1 (λz=>by have:=Q40 (Gf j2);rcases z with z|z;exact this.1 z;exact this.2 z)⟩;rw[Zr W48,show j-A.length-(gFetch (gmA ps ba sh (l.getD k kQ)) (l.getD k kQ).a 13).length=0 by omega];exact⟨λ_=>⟨.inr hx,rfl⟩,λ_=>by omega⟩
theorem JpJ.step{k:Nat}{c:List Ins}{F:Int->Option Int}{J:List Int}(h:JpJ c F J):JpJ (stepC ps ba sh fe l k c) (innS F (l.getD k kQ) ((fenC fe l k c).length:Int)) (jpS ps ba sh fe l k c J):=by
 have z:=h.node (ps:=ps) (ba:=ba) (sh:=sh) (fe:=fe) (l:=l) (k:=k);unfold stepC jpS;split;refine z.app (λ_ _=>rfl) (λy hy=>?_) (List.pairwise_singleton _ _) (λj hj=>?_) (λi hi=>z.hi i W48);grind[jG,Ze,kj,List.length_nil];rw[Ze] at hj;have e:j=0:=by simpa using hj
 subst e;rw[z.hi _ W48,jG];exact⟨λ_=>⟨.inl rfl,rfl⟩,λ_=>by simp⟩;rw[jR];exact z
theorem Qi9:∀k:Nat,JpJ (codeA ps ba sh fe l k) (innA ps ba sh fe l k) (jpA ps ba sh fe l k)
 |0=>⟨λi hi=>absurd hi (by simp[codeA]),λy hy=>(by cases hy),.nil,λ_ _=>rfl⟩
 |k+1=>(Qi9 k).step
end
def fx1(s:List Int)(c:List Ins)(p:Int):List Ins:=c.set p.toNat { c.getD p.toNat kQ with to:=s.getD (c.getD p.toNat kQ).to.toNat 0 }
def fxL(s:List Int)(c:List Ins)(J:List Int):List Ins:=J.foldl (fx1 s) c
theorem Q63(s:List Int):∀(J:List Int) (c:List Ins),(fxL s c J).length=c.length
 |[],_=>rfl
 |p::r,c=>by
  show(fxL s (fx1 s c p) r).length=_;rw[Q63 s r];unfold fx1;rw[jq]
theorem Qa4(s:List Int):∀(J:List Int) (c:List Ins),J.Pairwise (· < ·)->(∀y∈J,0<=y/\y<(c.length:Int))->∀i:Nat,i<c.length->(fxL s c J).getD i kQ=if(i:Int)∈J then { c.getD i kQ with to:=s.getD (c.getD i kQ).to.toNat 0 } else c.getD i kQ
 |[],_,_,_,_,_=>rfl
 |p::r,c,h,hr,i,hi=>by
  obtain⟨h1,h2⟩:=List.pairwise_cons.1 h;have hp:=hr p kb;show(fxL s (fx1 s c p) r).getD i kQ=_;have hl:(fx1 s c p).length=c.length:=by unfold fx1;rw[jq]
  rw[Qa4 s r (fx1 s c p) h2 (λy hy=>by rw[hl];exact hr y (j7 _ hy)) i (by rw[hl];exact hi)];have hg:(fx1 s c p).getD i kQ=if i=p.toNat then { c.getD p.toNat kQ with to:=s.getD (c.getD p.toNat kQ).to.toNat 0 } else c.getD i default:=by unfold fx1;rw[Qk _ _ _ _ _ W48]
  grind
theorem Qqf(ps:List Plc)(ba sh:Int)(fe:List Int)(l:List Nod):fxL (starA ps ba sh fe l l.length) (codeA ps ba sh fe l l.length) (jpA ps ba sh fe l l.length)=finA ps ba sh fe l:=by
 have h:=Qi9 (ps:=ps) (ba:=ba) (sh:=sh) (fe:=fe) (l:=l) l.length;have hl:(finA ps ba sh fe l).length=(codeA ps ba sh fe l l.length).length:=by unfold finA;rw[Ge]
 refine ku (by rw[Q63,hl]) λi h1 h2=>?_;rw[<- Qc (d:=kQ) h1,<- Qc (d:=kQ) h2];rw[Q63] at h1;rw[Qa4 _ _ _ h.inc h.rng i h1];have e:(finA ps ba sh fe l).getD i kQ=fixI (starA ps ba sh fe l l.length) (innA ps ba sh fe l l.length) i ((codeA ps ba sh fe l l.length).getD i kQ):=by unfold finA;exact Qea _ _ _ _ i h1 (jo _)
 rw[e];have hm:(i:Int)∈jpA ps ba sh fe l l.length↔(((codeA ps ba sh fe l l.length).getD i kQ).kind=8\/((codeA ps ba sh fe l l.length).getD i kQ).kind=9)/\(innA ps ba sh fe l l.length (i:Int)).getD 0=0:=h.mem i h1;simp_all[fixI,Int,jpA,if_pos,if_neg]
section
variable {gm:Gm} {v:Vl} {r:Int}
theorem Qvy(h:v.slotted=false):gMove gm v r=[Ins.mk 1 0 r 0 0 0 0 v.word gm.fr]:=by
 rw[Q61 (by rw[h];rfl),(Qe5 h).1];rfl
theorem Qvz(h:v.slotted=true)(h2:(gm.ps.getD v.slot.toNat kQ).cell=true):gMove gm v r=[Ins.mk 3 0 r 0 0 (gm.base+(gm.ps.getD v.slot.toNat kQ).n) 0 0 gm.fr]:=by
 have h2:(gm.pl v.slot).cell=true:=h2;rw[Q61 (by rw[h,h2];rfl),(Qe6 h h2).1];rfl
theorem Qw0(h:v.slotted=true)(h2:(gm.ps.getD v.slot.toNat kQ).cell=false):gMove gm v r=[Ins.mk 2 7 r (gm.ps.getD v.slot.toNat kQ).n (gm.ps.getD v.slot.toNat kQ).n 0 0 0 gm.fr]:=by
 have h2:(gm.pl v.slot).cell=false:=h2;rw[Qgp (by rw[h,h2];rfl),(Q1g h h2).1,(Q1g h h2).2];rfl
theorem Qv5(h:(v.slotted&&!(gm.ps.getD v.slot.toNat kQ).cell)=true):gFetch gm v r=[]:=by
 rw[jg,jC] at h;exact(Q1g h.1 h.2).1
theorem Qv6(h:(v.slotted&&!(gm.ps.getD v.slot.toNat kQ).cell)=true):gReg gm v r=(gm.ps.getD v.slot.toNat kQ).n:=by
 unfold gReg;exact if_pos h
theorem Qv7(h:(v.slotted&&!(gm.ps.getD v.slot.toNat kQ).cell)=false):gFetch gm v r=gMove gm v r:=(Q61 h).symm
theorem Qv8(h:(v.slotted&&!(gm.ps.getD v.slot.toNat kQ).cell)=false):gReg gm v r=r:=by
 unfold gReg;exact if_neg (λe=>by rw[show(v.slotted&&!(gm.pl v.slot).cell)=false from h] at e;cases e)
end
def jpC(gm:Gm)(n:Nod)(code:List Ins):List Int:=if brB n then [((code++gFetch gm n.a 13).length:Int)] else []
theorem Qkc(gm:Gm)(n:Nod)(code:List Ins):jpC gm n code=jpN gm n code.length:=by
 unfold jpC jpN;rw[jm,Int.natCast_add]
section
variable {gm:Gm} {k:Int} {n:Nod} {code:List Ins}
theorem Q07(h:n.kind≠8):jpC gm n code=[]:=by
 unfold jpC brB;rw[decide_eq_false h];rfl
theorem nd1(h:decide (n.kind=(1:Int))=true):gNode gm k n=gSetN gm n/\jpC gm n code=[]:=⟨Qgs (kR h),Q07 W233⟩
theorem nd2(h:decide (n.kind=(2:Int))=true):gNode gm k n=[Ins.mk 3 0 (gGoal gm n.slot) 0 0 n.thing 0 0 gm.fr]++gKeep gm n.slot/\jpC gm n code=[]:=⟨Qgt (kR h),Q07 W233⟩
theorem nd3(h:decide (n.kind=(3:Int))=true):gNode gm k n=gFetch gm n.a 13++[Ins.mk 4 0 0 (gReg gm n.a 13) 0 n.thing 0 0 gm.fr]/\jpC gm n code=[]:=⟨Qgu (kR h),Q07 W233⟩
theorem nd4(h:decide (n.kind=(4:Int))=true):gNode gm k n=gSwapN gm n/\jpC gm n code=[]:=⟨Qgv (kR h),Q07 W233⟩
theorem nd5(h:decide (n.kind=(5:Int))=true):gNode gm k n=putL gm.fr [Ins.mk 1 0 15 0 0 0 0 1 0,Ins.mk 5 0 15 0 0 (gm.shared+n.thing) 0 0 0,Ins.mk 9 0 0 15 0 0 (k+4) 0 0,Ins.mk 8 0 0 0 0 0 k 0 0]/\jpC gm n code=[]:=⟨Q62 (kR h),Q07 W233⟩
theorem nd6(h:decide (n.kind=(6:Int))=true):gNode gm k n=[Ins.mk 1 0 15 0 0 0 0 0 gm.fr]++[Ins.mk 4 0 0 15 0 (gm.shared+n.thing) 0 0 gm.fr]/\jpC gm n code=[]:=⟨Qgw (kR h),Q07 W233⟩
theorem nd7(h:decide (n.kind=(7:Int))=true):gNode gm k n=gFetch gm n.a 13++[Ins.mk 7 0 0 (gReg gm n.a 13) 0 0 0 0 gm.fr]/\jpC gm n code=[]:=⟨Qgx (kR h),Q07 W233⟩
theorem Qw1(h:decide (n.kind=(8:Int))=true)(h2:(!decide (n.els=n.next))=true):gNode gm k n=gFetch gm n.a 13++[Ins.mk 9 0 0 (gReg gm n.a 13) 0 0 n.els 0 gm.fr]/\jpC gm n code=[((code++gFetch gm n.a 13).length:Int)]:=by
 refine⟨?_,by unfold jpC brB;rw[h,h2];rfl⟩;rw[Q33 (kR h)];unfold gBranch;rw[if_neg (by intro e;rw[decide_eq_true e] at h2;cases h2)];rfl
theorem Qw2(h:decide (n.kind=(8:Int))=true)(h2:(!decide (n.els=n.next))=false):gNode gm k n=[]/\jpC gm n code=[]:=by
 refine⟨?_,by unfold jpC brB;rw[h,h2];rfl⟩;simp_all[Q33,kR,gBranch,if_pos,j9]
theorem nd9(h:decide (n.kind=(9:Int))=true):gNode gm k n=[Ins.mk 10 0 0 0 0 0 0 0 gm.fr]/\jpC gm n code=[]:=⟨Qa1 (kR h),Q07 W233⟩
end
section
variable {ps:List Plc} {ba sh:Int} {fe:List Int} {l:List Nod} {x i:Int} {c c':List Ins} {s J J':List Int}
theorem Qeb:∀k:Nat,(codeA ps ba sh fe l k).length<=6 * k
 |0=>jo _
 |k+1=>by
  have:=(Q1x ps ba sh fe l k (codeA ps ba sh fe l k)).2;have ih:=Qeb k;show(stepC ps ba sh fe l k _).length<=_;omega
theorem Qt2(k:Nat)(c:List Ins)(J:List Int):(jpS ps ba sh fe l k c J).length<=J.length+2:=by
 grind[jpS,jpM,jpN,jm,jP,List.length_nil]
theorem Qkd:∀k:Nat,(jpA ps ba sh fe l k).length<=2 * k
 |0=>jo _
 |k+1=>by
  have ih:=Qkd k;grind[Qt2,codeA,jpA,jpS]
theorem Qbe(k:Nat):(starA ps ba sh fe l k).length=k:=by
 unfold starA;rw[jK,kz]
structure ThJ(ps:List Plc)(ba sh:Int)(fe:List Int)(l:List Nod)(x:Int)(s:List Int)(c:List Ins)(J:List Int):Prop where
 x0:0<=x
 xl:x<=(l.length:Int)
 star:s=starA ps ba sh fe l x.toNat
 code:c=codeA ps ba sh fe l x.toNat
 jmp:J=jpA ps ba sh fe l x.toNat
theorem ThJ.start:ThJ ps ba sh fe l 0 [] [] []:=⟨jl _,by omega,rfl,rfl,rfl⟩
theorem ThJ.lens(h:ThJ ps ba sh fe l x s c J):c.length<=6 * x.toNat/\J.length<=2 * x.toNat/\s.length=x.toNat:=by
 rw[h.star,h.code,h.jmp];exact⟨Qeb _,Qkd _,Qbe _⟩
theorem ThJ.next(h:ThJ ps ba sh fe l x s c J)(hx:x<(l.length:Int))(hc:c'=stepC ps ba sh fe l x.toNat c)(hj:J'=jpS ps ba sh fe l x.toNat c J):ThJ ps ba sh fe l (x+1) (s++[(c.length:Int)]) c' J':=by
 have h0:=h.x0;have e:(x+1).toNat=x.toNat+1:=by omega
 refine⟨by omega,by omega,?_,?_,?_⟩;rw[e,Q8y,<- h.star,<- h.code];rw[e,hc,h.code];rfl;rw[e,hj,h.jmp,h.code];rfl
theorem Qv9(h0:0<=x)(h:(!decide ((l.getD x.toNat kQ).kind=(9:Int))&&!decide ((l.getD x.toNat kQ).next=x+1))=true):jpS ps ba sh fe l x.toNat c J=J++jpC (gmA ps ba sh (l.getD x.toNat kQ)) (l.getD x.toNat kQ) (fenC fe l x.toNat c)++[((nodC ps ba sh fe l x.toNat c).length:Int)]:=by
 unfold jpS jpM jmpB;rw[jS h0,if_pos h,Qkc]
theorem Qva(h0:0<=x)(h:(!decide ((l.getD x.toNat kQ).kind=(9:Int))&&!decide ((l.getD x.toNat kQ).next=x+1))=false):jpS ps ba sh fe l x.toNat c J=J++jpC (gmA ps ba sh (l.getD x.toNat kQ)) (l.getD x.toNat kQ) (fenC fe l x.toNat c):=by
 unfold jpS jpM jmpB;rw[jS h0,if_neg W301,Qkc,jR]
theorem Qh1(gm:Gm)(n:Nod)(c:List Ins):(jpC gm n c).length<=1:=by
 unfold jpC;split<;>simp
theorem Qn4(h0:0<=i)(hi:i<(J.length:Int)):fxL s c (J.take (i+1).toNat)=fx1 s (fxL s c (J.take i.toNat)) (J.getD i.toNat 0):=by
 rw[show(i+1).toNat=i.toNat+1 by omega,jF W48];unfold fxL;rw[List.foldl_append,Qc W48];rfl
theorem Qvb(hto:ToA ps ba sh fe l)(s:List Int)(h0:0<=i)(hi:i<((jpA ps ba sh fe l l.length).length:Int)):0<=(jpA ps ba sh fe l l.length).getD i.toNat 0/\(jpA ps ba sh fe l l.length).getD i.toNat 0<((codeA ps ba sh fe l l.length).length:Int) /\
 0<=((fxL s (codeA ps ba sh fe l l.length) ((jpA ps ba sh fe l l.length).take i.toNat)).getD ((jpA ps ba sh fe l l.length).getD i.toNat 0).toNat kQ).to/\((fxL s (codeA ps ba sh fe l l.length) ((jpA ps ba sh fe l l.length).take i.toNat)).getD ((jpA ps ba sh fe l l.length).getD i.toNat 0).toNat kQ).to<(l.length:Int):=by
  have h:=Qi9 (ps:=ps) (ba:=ba) (sh:=sh) (fe:=fe) (l:=l) l.length;have hm:=Qn hi h0;have r:=h.rng _ hm;refine⟨r.1,r.2,?_⟩;generalize hk:(jpA ps ba sh fe l l.length).getD i.toNat 0=k at hm r;have hlt:i.toNat<(jpA ps ba sh fe l l.length).length:=by omega
  have hk2:(jpA ps ba sh fe l l.length)[i.toNat]=k:=by rw[<- hk,Qc hlt]
  have no:¬((k.toNat:Nat):Int)∈(jpA ps ba sh fe l l.length).take i.toNat:=λq=>by rw[jS r.1] at q;obtain⟨j,hj,e⟩:=List.mem_iff_getElem.1 q;rw[List.getElem_take] at e;(have hj2:j<i.toNat:=by rw[jO] at hj;omega);have:=List.pairwise_iff_getElem.1 h.inc j i.toNat W48 hlt hj2;rw[e,hk2] at this;omega
  rw[Qa4 s _ _ (h.inc.sublist (List.take_sublist _ _)) (λy hy=>h.rng y (List.mem_of_mem_take hy)) k.toNat W48,if_neg no];have m:=(h.mem k.toNat W48).1 (by rw[jS r.1];exact hm);exact hto k.toNat W48 m.1 m.2
end
section
variable {sh lk:List Dcl} {gs:List Grf} {fs:List Iln} {al:List Alc} {bf x:Int}
noncomputable def whyU(sh lk:List Dcl)(gs:List Grf)(fs:List Iln)(al:List Alc)(bf:Int):Int:=
 if fauU sh lk gs fs al bf≠0 then fauU sh lk gs fs al bf else if 4096<((memL sh lk al al.length).length:Int) then 3 else if(jv gs.length).all (okT sh lk gs fs al)=true then 0 else 3
theorem Qce(h:(!decide (fauU sh lk gs fs al bf=(0:Int)))=true):whyU sh lk gs fs al bf=fauU sh lk gs fs al bf:=by
 unfold whyU;rw[if_pos W259]
theorem Qn5{e:Int}(he:e=safU sh lk gs fs)(h:(!decide (e=(0:Int)))=true):whyU sh lk gs fs al bf=e:=by
 simp_all[Qov,Qce]
theorem Q90(h1:(!decide ((chkU sh lk gs).1=(0:Int)))=false)(h2:(!decide ((fs.length:Int)=(gs.length:Int)))=false){x:Int}(hx:¬x<(gs.length:Int))(h:∀k,k<x.toNat->fenB ((gs.getD k kQ).nodes.length:Int) (fs.getD k kQ).l=true):safU sh lk gs fs=0:=by
 rw[j9,decide_eq_true_eq] at h1 h2;unfold safU;rw[if_neg W48,if_neg W48,if_pos];grind[fenAll]
theorem Qqg(h1:(!decide ((chkU sh lk gs).1=(0:Int)))=false)(h2:(!decide ((fs.length:Int)=(gs.length:Int)))=false){x:Int}(h0:0<=x)(hx:x<(gs.length:Int))(h:(!fenB ((gs.getD x.toNat kQ).nodes.length:Int) (fs.getD x.toNat kQ).l)=true):110=safU sh lk gs fs:=by
 rw[j9,decide_eq_true_eq] at h1 h2;unfold safU;rw[if_neg W48,if_neg W48,if_neg];grind[fenAll]
theorem Qt3(hs:safU sh lk gs fs=0)(h5:(decide ((rgtU sh lk gs al).2=(0:Int))&&!(rgtU sh lk gs al).1)=false)(h6:(decide ((rgtU sh lk gs al).2=(0:Int))&&(decide (bf<(1:Int))||decide ((16:Int)<bf)))=false)(h7:(!decide ((rgtU sh lk gs al).2=(0:Int)))=false):fauU sh lk gs fs al bf=0:=by
 rw[j9] at h7;rw[h7,kr] at h5 h6;exact Qoz (e:=safU sh lk gs fs) rfl (by rw[hs];rfl) (by rw[h7];rfl) h5 h6
theorem Qvc(hs:safU sh lk gs fs=0)(h5:(decide ((rgtU sh lk gs al).2=(0:Int))&&!(rgtU sh lk gs al).1)=true):whyU sh lk gs fs al bf=150:=by
 rw[jg] at h5;have z:=Qox (bf:=bf) (e:=safU sh lk gs fs) rfl (by rw[hs];rfl) (by rw[h5.1];rfl) h5.2;rw[Qce (by rw[z];rfl),z]
theorem Qvd(hs:safU sh lk gs fs=0)(h5:(decide ((rgtU sh lk gs al).2=(0:Int))&&!(rgtU sh lk gs al).1)=false)(h6:(decide ((rgtU sh lk gs al).2=(0:Int))&&(decide (bf<(1:Int))||decide ((16:Int)<bf)))=true):whyU sh lk gs fs al bf=2:=by
 rw[jg] at h6;rw[h6.1,kr] at h5;have z:=Qoy (e:=safU sh lk gs fs) rfl (by rw[hs];rfl) (by rw[h6.1];rfl) h5 h6.2;rw[Qce (by rw[z];rfl),z]
theorem Qve(hs:safU sh lk gs fs=0)(h7:(!decide ((rgtU sh lk gs al).2=(0:Int)))=true):whyU sh lk gs fs al bf=(rgtU sh lk gs al).2:=by
 have z:=Qow (bf:=bf) (e:=safU sh lk gs fs) rfl (by rw[hs];rfl) h7;rw[Qce (by rw[z];exact h7),z]
theorem Qvf(hf:fauU sh lk gs fs al bf=0)(h8:decide ((4096:Int)<((memL sh lk al al.length).length:Int))=true):whyU sh lk gs fs al bf=3:=by
 simp_all[whyU,if_neg,if_pos,kR]
theorem Qh2(t:Nat):okT sh lk gs fs al t=!decide ((16384:Int)<((codT sh lk gs fs al t).length:Int)):=by
 grind[okT,okA,codT,finA,Ge,decide,Int]
theorem Qvg(hf:fauU sh lk gs fs al bf=0)(h8:decide ((4096:Int)<((memL sh lk al al.length).length:Int))=false)(h0:0<=x)(hx:x<(gs.length:Int))(h:decide ((16384:Int)<((codT sh lk gs fs al x.toNat).length:Int))=true):whyU sh lk gs fs al bf=3:=by
 unfold whyU;rw[if_neg W48,if_neg (kS h8),if_neg];intro q;have z:=List.all_eq_true.1 q x.toNat (List.mem_range.2 W48);rw[Qh2,h] at z;cases z
theorem Qvh(hf:fauU sh lk gs fs al bf=0)(h8:decide ((4096:Int)<((memL sh lk al al.length).length:Int))=false)(hx:¬x<(gs.length:Int))(h:∀k,k<x.toNat->okT sh lk gs fs al k=true):whyU sh lk gs fs al bf=0:=by
 unfold whyU;grind
end
def wdR(sh:List Dcl)(n v:Nat):List Int:=(sh.take v).map (·.word)++jd (n-v) 0
section
variable {sh lk:List Dcl} {gs:List Grf} {fs:List Iln} {al:List Alc} {n:Nat} {x:Int}
theorem Qp1(sh:List Dcl)(n:Nat):wdR sh n 0=jd n 0:=by
 unfold wdR;simp
theorem Qqh{v:Nat}(h:v<=sh.length)(hn:v<=n):(wdR sh n v).length=n:=by
 grind[wdR,jm,jK,jO,ju]
theorem Qec(h0:0<=x)(h:x<(sh.length:Int))(hn:sh.length<=n):(wdR sh n x.toNat).set x.toNat (sh.getD x.toNat kQ).word=wdR sh n (x+1).toNat:=by
 have hx:x.toNat<sh.length:=by omega
 have hl:((sh.take x.toNat).map (·.word)).length=x.toNat:=by rw[jK,jO];omega
 unfold wdR;rw[show(x+1).toNat=x.toNat+1 by omega,jF hx,kG,List.set_append_right _ _ W48,hl,Nat.sub_self,show n-x.toNat=(n-(x.toNat+1))+1 by omega,List.replicate_succ,List.set_cons_zero,Qc hx,jM];rfl
theorem Qw3(h0:0<=x)(h:x<(sh.length:Int))(hn:sh.length<=n){m:List Int}(e:m=wdR sh n x.toNat):(wdR sh n (x+1).toNat).length=m.length:=by
 subst e;rw[<- Qec h0 h hn,jq]
theorem Qw4(h0:0<=x)(h:x<(sh.length:Int))(hn:sh.length<=n){m:List Int}(e:m=wdR sh n x.toNat):∀i,i<(wdR sh n (x+1).toNat).length->i64T ((wdR sh n (x+1).toNat).getD i 0)=updT (λi=>i64T (m.getD i 0)) x.toNat 0 [jn .i64 (sh.getD x.toNat kQ).word] i:=by
 subst e;rw[<- Qec h0 h hn];exact Ym _ _ _
theorem Q64(sh lk:List Dcl)(al:List Alc)(i:Nat):sh.length<=(memL sh lk al i).length:=by
 grind[memL,jm,jK]
theorem Qqi(sh lk:List Dcl)(al:List Alc):wdR sh (memL sh lk al al.length).length sh.length=memL sh lk al al.length:=by
 have e:memL sh lk al al.length=sh.map (·.word)++(jd lk.length 0++((al.take al.length).flatMap λa=>jd a.cells.toNat 0)):=by unfold memL;rw[jM]
 have z:∀y∈(jd lk.length 0++((al.take al.length).flatMap λa=>jd a.cells.toNat 0)),y=0:=λy hy=>by grind
 unfold wdR;rw[List.take_length,e];congr 1;grind[jm,jK,Nat.add_sub_cancel_left,List.eq_replicate_of_mem]
theorem Qke(h:(!decide (whyU sh lk gs fs al x=(0:Int)))=true):madU sh lk gs fs al x=(whyU sh lk gs fs al x,[],[],[],0,0,0):=by
 have h:whyU sh lk gs fs al x≠0:=by simpa using h
 unfold whyU at h⊢;unfold madU;grind
theorem Q5n(h:(!decide (whyU sh lk gs fs al x=(0:Int)))=false):madU sh lk gs fs al x=madR sh lk gs fs al x/\fauU sh lk gs fs al x=0/\(memL sh lk al al.length).length<=4096:=by
 have h:whyU sh lk gs fs al x=0:=by simpa using h
 unfold whyU at h;unfold madU;grind
end
theorem K{α:Sort _}{a b:α}(h:a=b:=by kernel_rfl):a=b:=h
theorem R{p:Prop}(h:p:=by repeat' first|refine And.intro ?_ ?_|exact rfl|(exact λ_ _=>rfl)|trivial):p:=h
end Go.Proofs.YtnddggenhefaeaaGreatDoor
noncomputable section
namespace Go.Proofs.YtnddggenhefaeaaGreatDoor
open Go Go.Tx
abbrev zc7(y0:Int):En:=se 1 (C.i .i64 y0)
abbrev zes(y0:List Int):C:=C.i .i64 (↑y0.length:Int)
def vZ(l:List Int)(v:Int):Lp (Int×Int):=⟨λx=>{ N:=19,fr:=[se 8 (C.i .i64 x.1),se 7 (zes l),se 4 (C.i .i64 x.2),se 0 (C.h 0),zc7 v],rg:=[IntRow l],wr:=[] },λx=>idxJ l v x.1,λx=>((l.length:Int)-x.1).toNat⟩
abbrev zj(y0:Int):List Prop:=[Fits jb (y0+(1:Int))]
abbrev zar(y0:Int)(y1:List Int):List Prop:=[(0:Int)<=y0,y0<(↑y1.length:Int),y0.toNat<y1.length]
abbrev zdG(y0:Int):SV:=.c (.i .i64 y0)
abbrev zdX:Int × Int:=((0:Int),(0:Int))
theorem Qqj(l:List Int)(v:Int)(hl:l.length<=8388608):Ctr ja 109 [IntRow l] [.c (.h 0),zdG v]
 (Det (.c (.i .i64 (idxF l v 0))) [IntRow l]):=by
  refine Ctr.intro [] Tryz.func109 K K ?_;refine Q5 (vZ l v) (zdX) (.start l v) ?_;rintro ⟨kT,kX⟩ hJ1;dsimp only[vZ] at hJ1;refine Q0 (decide (kT<(↑l.length:Int))) (λh2=>?_) (λh2=>?_);refine Q0 (decide (v=l.getD kT.toNat 0)) (λh3=>?_) (λh3=>?_) (vc:=(zar kT l)) (hv:=W214);exact Q3 [] [2] [idxF l v 0=kT] W160;exact Q4 (vZ l v) (kT,kX) ((kT+1,kX)) (by dsimp only[vZ];exact W326) (hJ1.next (kR h2) (kS h3)) (vc:=(zj kT)) (hv:=W214);exact Q3 [] [2] [idxF l v 0=(-1:Int)] W160
theorem Q5o(n:Nod):Ctr ja 129 [] [.agg n.cs]
 (Det (.c (.b (decide (n.kind=1)||decide (n.kind=2)||decide (n.kind=4)))) []):=by
  refine Ctr.intro [] Tryz.func129 K K ?_;exact Q3
theorem Qkf(n:Nod):Ctr ja 168 [] [.agg n.cs]
 (Det (.c (.b (decide (n.kind=2)||decide (n.kind=3)||decide (n.kind=4)))) []):=by
  refine Ctr.intro [] Tryz.func168 K K ?_;exact Q3
def JU(U:List Int)(u:Int)(b:Int)(P:List Int):Lp (Bool×Int):=⟨λx=>{ N:=15,fr:=[se 5 (C.b x.1),se 0 (C.i .i64 u),se 1 (C.i .i64 x.2),se 2 (C.p 0 0)],rg:=[Reg.box 49 [C.h 1],IntOwn U],wr:=[] },λx=>upJ P U u b x.2,λx=>upM P x.2⟩
abbrev zcR:Reg:=Reg.box 49 [.h 1]
theorem Qqk(P U:List Int)(u b:Int)(hM:UpH P U)(hb:b<(U.length:Int)):Ctr ja 150 [zcR,IntOwn U] [zdG u,zdG b,.c (.p 0 0)]
 (Det (.c (.b (upF P U u b))) [zcR,IntOwn U]):=by
  refine Ctr.intro [] Tryz.func150 K K ?_;refine Q5 (JU U u b P) ((false,b)) (.start hb) ?_;rintro ⟨kT,kX⟩ hJ1;dsimp only[JU] at hJ1;refine Q0 (decide (0<=kX)) (λh2=>?_) (λh2=>?_);refine Q0 (decide (kX=u)) (λh3=>?_) (λh3=>?_);exact Q3 [] [2] [upF P U u b=true] W160;exact Q4 (JU U u b P) (kT,kX) ((kT,U.getD kX.toNat 0)) ((hJ1.next hM (kR h2) (kS h3)).2) ((hJ1.next hM (kR h2) (kS h3)).1) (vc:=(zar kX U)) (hv:=(by simp only[Conj,Fits,Q6,Q7,Q8,Q9,News.len,maxLen]<;>(repeat' apply ji)<;>(have z:=hJ1.1;exact W326)));exact Q3 [] [2] [upF P U u b=false] W160
theorem Qql(k:Int):Ctr ja 123 [] [.c (.i .u8 k)]
 (Det (.c (.b (opB k))) []):=by
  refine Ctr.intro [] Tryz.func123 K K ?_;exact Q3 [] [0] [opB k=(decide (0<k)&&decide (k<19))] (by simp only[Conj,opB] at *<;>grind)
theorem J5(k:Int):Ctr ja 93 [] [.c (.i .u8 k)]
 (Det (.c (.b (twoB k))) []):=by
  refine Ctr.intro [] Tryz.func93 K K ?_;refine Q2 Qc4 (Qql k) [] ?_;exact Q3 [] [0] [twoB k=(opB k&&!decide (k=17)&&!decide (k=18))] (by simp only[Conj,twoB,opB] at *<;>grind)
theorem Q72(k:Int):Ctr ja 120 [] [.c (.i .u8 k)]
 (Det (.c (.b (digitB k))) []):=by
  refine Ctr.intro [] Tryz.func120 K K ?_;exact Q3 [] [0] [digitB k=(decide (48<=k)&&decide (k<=57))] (by simp only[Conj,digitB] at *<;>grind)
abbrev zcI(y0:Int):List Prop:=[letterB y0=(decide (97<=y0)&&decide (y0<=122)||decide (65<=y0)&&decide (y0<=90)||decide (y0=95))]
theorem Qed(k:Int):Ctr ja 122 [] [.c (.i .u8 k)]
 (Det (.c (.b (letterB k))) []):=by
  refine Ctr.intro [] Tryz.func122 K K ?_;exact Q3 [] [0] (zcI k) (by simp only[Conj,letterB] at *<;>grind)
theorem Qh3(k:Int):Ctr ja 88 [] [.c (.i .u8 k)]
 (Det (.c (.b (digitB k))) []):=by
  refine Ctr.intro [] Tryz.func88 K K ?_;exact Q3 [] [0] [digitB k=(decide (48<=k)&&decide (k<=57))] (by simp only[Conj,digitB] at *<;>grind)
theorem Qn6(k:Int):Ctr ja 90 [] [.c (.i .u8 k)]
 (Det (.c (.b (letterB k))) []):=by
  refine Ctr.intro [] Tryz.func90 K K ?_;exact Q3 [] [0] (zcI k) (by simp only[Conj,letterB] at *<;>grind)
abbrev zbX(y0:ByteArray):List Prop:=[wordB y0=true]
theorem Qia(s:ByteArray):Ctr ja 121 [] [.c (.v (.string s))]
 (Det (.c (.b (wordB s))) []):=by
  refine Ctr.intro [] Tryz.func121 K K ?_;refine Q0 (decide (s={ data:=#[115,104,97,114,101,100] })) (λh1=>?_) (λh1=>?_);exact Q3 [] [0] (zbX s) W138;refine Q0 (decide (s={ data:=#[108,111,99,107] })) (λh2=>?_) (λh2=>?_);exact Q3 [] [0] (zbX s) W138;refine Q0 (decide (s={ data:=#[116,104,114,101,97,100] })) (λh3=>?_) (λh3=>?_);exact Q3 [] [0] (zbX s) W138;refine Q0 (decide (s={ data:=#[108,111,99,97,108] })) (λh4=>?_) (λh4=>?_);exact Q3 [] [0] (zbX s) W138;refine Q0 (decide (s={ data:=#[105,102] })) (λh5=>?_) (λh5=>?_);exact Q3 [] [0] (zbX s) W138;refine Q0 (decide (s={ data:=#[101,108,115,101] })) (λh6=>?_) (λh6=>?_);exact Q3 [] [0] (zbX s) W138;refine Q0 (decide (s={ data:=#[119,104,105,108,101] })) (λh7=>?_) (λh7=>?_);exact Q3 [] [0] (zbX s) W138;refine Q0 (decide (s={ data:=#[112,114,105,110,116] })) (λh8=>?_) (λh8=>?_);exact Q3 [] [0] (zbX s) W138;refine Q0 (decide (s={ data:=#[115,107,105,112] })) (λh9=>?_) (λh9=>?_);exact Q3 [] [0] (zbX s) W138;refine Q0 (decide (s={ data:=#[115,119,97,112] })) (λh10=>?_) (λh10=>?_);exact Q3 [] [0] (zbX s) W138;exact Q3 [] [0] [wordB s=false] W138
theorem Qt4(s:ByteArray):Ctr ja 89 [] [.c (.v (.string s))]
 (Det (.c (.b (wordB s))) []):=by
  refine Ctr.intro [] Tryz.func89 K K ?_;refine Q0 (decide (s={ data:=#[115,104,97,114,101,100] })) (λh1=>?_) (λh1=>?_);exact Q3 [] [0] (zbX s) W138;refine Q0 (decide (s={ data:=#[108,111,99,107] })) (λh2=>?_) (λh2=>?_);exact Q3 [] [0] (zbX s) W138;refine Q0 (decide (s={ data:=#[116,104,114,101,97,100] })) (λh3=>?_) (λh3=>?_);exact Q3 [] [0] (zbX s) W138;refine Q0 (decide (s={ data:=#[108,111,99,97,108] })) (λh4=>?_) (λh4=>?_);exact Q3 [] [0] (zbX s) W138;refine Q0 (decide (s={ data:=#[105,102] })) (λh5=>?_) (λh5=>?_);exact Q3 [] [0] (zbX s) W138;refine Q0 (decide (s={ data:=#[101,108,115,101] })) (λh6=>?_) (λh6=>?_);exact Q3 [] [0] (zbX s) W138;refine Q0 (decide (s={ data:=#[119,104,105,108,101] })) (λh7=>?_) (λh7=>?_);exact Q3 [] [0] (zbX s) W138;refine Q0 (decide (s={ data:=#[112,114,105,110,116] })) (λh8=>?_) (λh8=>?_);exact Q3 [] [0] (zbX s) W138;refine Q0 (decide (s={ data:=#[115,107,105,112] })) (λh9=>?_) (λh9=>?_);exact Q3 [] [0] (zbX s) W138;refine Q0 (decide (s={ data:=#[115,119,97,112] })) (λh10=>?_) (λh10=>?_);exact Q3 [] [0] (zbX s) W138;exact Q3 [] [0] [wordB s=false] W138
def L1_I(s:ByteArray):Int->St:=λi=>{ N:=39,fr:=[se 3 (C.i jb i),se 2 (C.t false),se 0 (C.v (jt s))],rg:=[] }
def L1_J(s:ByteArray):Int->Prop:=λi=>0<=i/\i<=(s.size:Int)/\restB s 0=restB s i
def L1_m(s:ByteArray):Int->Nat:=λi=>((s.size:Int)-i).toNat
def L1(s:ByteArray):Lp (Int):=⟨L1_I s,L1_J s,L1_m s⟩
abbrev zb4(y0:ByteArray)(y1:Int):List Prop:=[(!letterB (↑(y0.data.toList.getD y1.toNat (0:UInt8)).toNat:Int))=true->(0:Int)<=y1,(!letterB (↑(y0.data.toList.getD y1.toNat (0:UInt8)).toNat:Int))=true->y1<(↑y0.size:Int)]
abbrev zdJ(y0:ByteArray)(y1:Int):UInt8:=y0.data.toList.getD y1.toNat (0:UInt8)
abbrev zdT(y0:ByteArray):UInt8:=y0.data.toList.getD (Int.toNat (0:Int)) (0:UInt8)
theorem Q91(s:ByteArray):Ctr ja 82 [] [.c (.v (.string s))]
 (Det (.c (.b (nameB s))) []):=by
  have h0:s.size=0->s={ data:=#[] }:=(λh=>by cases s;simp_all[ByteArray.size]);have h00:s={ data:=#[] }->s.size=0:=(λh=>by rw[h];rfl);refine Ctr.intro [] Tryz.func82 K K ?_;refine tG Jx (Q72 (↑(zdT s).toNat:Int)) [] ?_ (vc:=[(decide ((↑s.size:Int)<(1:Int))||decide ((32:Int)<(↑s.size:Int)))=false->(0:Int)<=(0:Int),(decide ((↑s.size:Int)<(1:Int))||decide ((32:Int)<(↑s.size:Int)))=false->(0:Int)<(↑s.size:Int)]) (hv:=W187);refine tG Q6d (Qia s) [] ?_;refine Q0 (decide ((↑s.size:Int)<(1:Int))||decide ((32:Int)<(↑s.size:Int))||digitB (↑(zdT s).toNat:Int)||wordB s) (λh1=>?_) (λh1=>?_);exact Q3 [] [0] [nameB s=false] W112;refine Q5 (L1 s) (0) ⟨jl _,by omega,rfl⟩ ?_;rintro kU hJ2;obtain⟨hA,hB,hC⟩:=hJ2;refine Q0 (decide (kU<(↑s.size:Int))) (λh3=>?_) (λh3=>?_);refine Q2 Q4g (Qed (↑(zdJ s kU).toNat:Int)) [] ?_ (vc:=[0<=kU,kU<(↑s.size:Int)]) (hv:=W187);refine tG Jx (Q72 (↑(zdJ s kU).toNat:Int)) [] ?_ (vc:=(zb4 s kU)) (hv:=W187);refine Q0 (!letterB (↑(zdJ s kU).toNat:Int)&&!digitB (↑(zdJ s kU).toNat:Int)) (λh4=>?_) (λh4=>?_);exact Q3 [] [0] [nameB s=false] W112;exact Q4 (L1 s) kU (kU+1) (by simp only[L1,L1_m];grind) (by have hs:=Q3q s kU hA (by grind);simp only[byteAt,L1,L1_J] at *;grind) (vc:=(zj kU)) (hv:=W187);exact Q3 [] [0] [nameB s=true] W112
def L2_I(s:ByteArray):Int->St:=λi=>{ N:=38,fr:=[se 22 (C.i jb i),se 21 (C.i jb s.size),se 20 (C.v (jt s)),se 2 (C.t false),se 0 (C.v (jt s))],rg:=[] }
def L2_J(s:ByteArray):Int->Prop:=λi=>0<=i/\i<=(s.size:Int)/\restB s 0=restB s i
def L2_m(s:ByteArray):Int->Nat:=λi=>((s.size:Int)-i).toNat
def L2(s:ByteArray):Lp (Int):=⟨L2_I s,L2_J s,L2_m s⟩
theorem Qt5(s:ByteArray):Ctr ja 54 [] [.c (.v (.string s))]
 (Det (.c (.b (nameB s))) []):=by
  have h0:s.size=0->s={ data:=#[] }:=(λh=>by cases s;simp_all[ByteArray.size]);have h00:s={ data:=#[] }->s.size=0:=(λh=>by rw[h];rfl);refine Ctr.intro [] Tryz.func54 K K ?_;refine tG Q4e (Qh3 (↑(zdT s).toNat:Int)) [] ?_ (vc:=[(decide (s={ data:=#[] })||decide ((32:Int)<(↑s.size:Int)))=false->(0:Int)<=(0:Int),(decide (s={ data:=#[] })||decide ((32:Int)<(↑s.size:Int)))=false->(0:Int)<(↑s.size:Int)]) (hv:=W187);refine tG Qd8 (Qt4 s) [] ?_;refine Q0 (decide (s={ data:=#[] })||decide ((32:Int)<(↑s.size:Int))||digitB (↑(zdT s).toNat:Int)||wordB s) (λh1=>?_) (λh1=>?_);exact Q3 [] [0] [nameB s=false] W112;refine Q5 (L2 s) (0) ⟨jl _,by omega,rfl⟩ ?_;rintro kU hJ2;obtain⟨hA,hB,hC⟩:=hJ2;refine Q0 (decide (kU<(↑s.size:Int))) (λh3=>?_) (λh3=>?_);refine Q2 Q9i (Qn6 (↑(zdJ s kU).toNat:Int)) [] ?_ (vc:=[0<=kU,kU<(↑s.size:Int)]) (hv:=W187);refine tG Q4e (Qh3 (↑(zdJ s kU).toNat:Int)) [] ?_ (vc:=(zb4 s kU)) (hv:=W187);refine Q0 (!letterB (↑(zdJ s kU).toNat:Int)&&!digitB (↑(zdJ s kU).toNat:Int)) (λh4=>?_) (λh4=>?_);exact Q3 [] [0] [nameB s=false] W112;exact Q4 (L2 s) kU (kU+1) (by simp only[L2,L2_m];grind) (by have hs:=Q3q s kU hA (by grind);simp only[byteAt,L2,L2_J] at *;grind) (vc:=(zj kU)) (hv:=W187);exact Q3 [] [0] [nameB s=true] W112
abbrev z74_1:=(MT.mk ja 136 9 4 [CK.s] false [CK.b] false)
theorem Qkg:MT.Ok z74_1:=MT.ok_str K K (.inr rfl) (λw=>by kernel_rfl)
abbrev zdC:MT:=(MT.mk ja 136 9 4 [CK.s] false [CK.b] false)
theorem Qib(s:ByteArray)(n:Nat)(D:ByteArray->Option Bool)(hs:s.size<=maxLen)(hn:n<maxLen):Ctr ja 75 [Reg.box 136 [.h 1],Reg.mp zdC n (λq=>(D q).isSome) (λq=>(D q).getD false) none] [.c (.v (.string s)),.c (.p 0 0)]
 (Det (.c (.b (nameB s&&!(D s).getD false))) [Reg.box 136 [.h 1],Reg.mp zdC (n+1) (λq=>((λq=>if q=s then some true else D q) q).isSome) (λq=>((λq=>if q=s then some true else D q) q).getD false) none]):=by
  refine Ctr.intro [] Tryz.func75 K K ?_;refine Q2 Qd7 (Qt5 s) [] ?_;exact Q3 [] [0] [MpEq z74_1 (n+1) (λ(q:ByteArray)=>(if q=s then some true else D q).isSome) (λ(q:ByteArray)=>(if q=s then some true else D q).getD false) none z74_1 (n+1) (λ(q:ByteArray)=>decide (q=s)||(D q).isSome) (λ(q:ByteArray)=>if q=s then true else(D q).getD false) none] (by simp only[Conj];exact MpEq.put (jo _)) (vc:=[nameB s=true->s.size<=maxLen,nameB s=true->zdC.P=ja,s.size<=maxLen,zdC.P=ja,n<maxLen]) (hv:=(by simp only[Conj,Fits,Q6,Q7,Q8,Q9,News.len,maxLen]<;>(repeat' (first|apply ji|intro _))<;>first|exact hs|exact hn|grind))
abbrev z75_1:=(MT.mk ja 136 9 4 [CK.s] false [CK.b] false)
abbrev zJ:Reg:=Reg.box 25 [C.h 0,C.h 1,C.h 2]
abbrev zL(y0:List Dcl):Reg:=rowOf 3 (·.tc) y0
abbrev za2(y0:List Grf):Reg:=rowOf 4 (·.tc) y0
abbrev zbF(y0 y1:List Dcl)(y2:List Grf)(y3:Int × Bool × Nat × (ByteArray -> Option Bool)):List Reg:=[zL y0,zL y1,za2 y2,zJ,Reg.mp z75_1 (y3.2.2.1) (λa=>(y3.2.2.2 a).isSome) (λa=>(y3.2.2.2 a).getD (false)) none,Reg.box 136 [C.h 4]]
abbrev zc0:En:=se 1 (C.p 3 0)
def u7(sh:List Dcl)(lk:List Dcl)(gs:List Grf):Lp (Int×Bool×Nat×(ByteArray->Option (Bool))):=⟨λx=>{ N:=73,fr:=[se 32 (C.i .i64 x.1),se 31 (C.i .i64 (↑sh.length:Int)),se 30 (C.h 0),se 4 (C.fn 75 false [5]),se 2 (C.b x.2.1),zc0],rg:=(zbF sh lk gs x),wr:=[] },λx=>0<=x.1/\x.1<=(sh.length:Int)/\(x.2.2.1:Int)<=x.1/\goN (nmS sh++(nmL lk++nmG gs)) (λ_=>none)=goN (nmS (sh.drop x.1.toNat)++(nmL lk++nmG gs)) x.2.2.2,λx=>((sh.length:Int)-x.1).toNat⟩
def u9(sh:List Dcl)(lk:List Dcl)(gs:List Grf)(ud:Bool)(uE:Nat)(uR:ByteArray->Option Bool):Lp (Int×Bool×Nat×(ByteArray->Option (Bool))):=⟨λx=>{ N:=73,fr:=[se 45 (C.i .i64 x.1),se 44 (C.i .i64 (↑lk.length:Int)),se 43 (C.h 1),se 4 (C.fn 75 false [5]),se 2 (C.b x.2.1),zc0],rg:=(zbF sh lk gs x),wr:=[] },λx=>0<=x.1/\x.1<=(lk.length:Int)/\(x.2.2.1:Int)<=sh.length+x.1/\goN (nmS sh++(nmL lk++nmG gs)) (λ_=>none)=goN (nmL (lk.drop x.1.toNat)++nmG gs) x.2.2.2,λx=>((lk.length:Int)-x.1).toNat⟩
abbrev zet(y0:List Grf):C:=C.i .i64 (↑y0.length:Int)
def vb(sh:List Dcl)(lk:List Dcl)(gs:List Grf)(uf:Bool)(uy:Nat)(uX:ByteArray->Option Bool):Lp (Int×Bool×Nat×(ByteArray->Option (Bool))):=⟨λx=>{ N:=73,fr:=[se 63 (C.i .i64 x.1),se 62 (zet gs),se 61 (C.h 2),se 4 (C.fn 75 false [5]),se 2 (C.b x.2.1)],rg:=(zbF sh lk gs x),wr:=[] },λx=>0<=x.1/\x.1<=(gs.length:Int)/\(x.2.2.1:Int)<=sh.length+lk.length+x.1/\goN (nmS sh++(nmL lk++nmG gs)) (λ_=>none)=goN (nmG (gs.drop x.1.toNat)) x.2.2.2,λx=>((gs.length:Int)-x.1).toNat⟩
abbrev zq(y0:List Dcl):Prop:=∀j:Nat,(y0.getD j kQ).name.size<=maxLen
abbrev zQ(y0:List Grf):Prop:=∀j:Nat,(y0.getD j kQ).name.size<=maxLen
abbrev za0(y0:Int)(y1:List Grf):List Prop:=[(0:Int)<=y0,y0<(↑y1.length:Int),y0.toNat=y0.toNat]
abbrev zbI(y0:Int)(y1:List Grf):List Prop:=[y0.toNat<y1.length]
abbrev zbV(y0:Int)(y1:List Dcl):List Prop:=[(0:Int)<=y0,y0<(↑y1.length:Int),y0.toNat<y1.length]
abbrev zcj(y0 y1:List Dcl)(y2:List Grf):List Reg:=[Dcl.rowR y0,Dcl.rowR y1,Grf.rowR y2]
abbrev zck:List Reg:=[.dead,.dead,.dead]
abbrev zdt(y0:List Grf)(y1:Int):Grf:=y0.getD y1.toNat kQ
abbrev zd2(y0:List Dcl)(y1:Int):Dcl:=y0.getD y1.toNat kQ
abbrev zd7:SV:=.agg [.h 0,.h 1,.h 2]
theorem Qqm(sh lk:List Dcl)(gs:List Grf)(hs:zq sh)(hl:zq lk)(hg:zQ gs):Ctr ja 46 (zcj sh lk gs) [zd7]
 (Det (.c (.b (namedB sh lk gs))) zck):=by
  refine Ctr.intro [] Tryz.func46 K K ?_;refine Q0 (decide ((64:Int)<(↑sh.length:Int))||decide ((16:Int)<(↑lk.length:Int))||decide ((8:Int)<(↑gs.length:Int))) (λh1=>?_) (λh1=>?_);exact Q3 [] [0] [namedB sh lk gs=false] W71;refine Q5 (u7 sh lk gs) ((0,false,0,λx=>none)) (by dsimp only[u7];exact⟨jl _,by omega,jl _,rfl⟩) ?_ [] (vc:=[zdC.P=ja,zdC.Ok]) (hv:=W116);rintro ⟨kU,ud,uE,uR⟩ hJ2;dsimp only[u7] at hJ2;refine Q0 (decide (kU<(↑sh.length:Int))) (λh3=>?_) (λh3=>?_);refine Q2 Q0c (Qib ((zd2 sh kU).name) uE uR W164 W164) [5,4] ?_ (vc:=(zbV kU sh)) (hv:=W116);refine Q0 (!(nameB (zd2 sh kU).name&&!(uR (zd2 sh kU).name).getD false)) (λh4=>?_) (λh4=>?_);exact Q3 [] [0] [namedB sh lk gs=false] W71;exact Q4 (u7 sh lk gs) (kU,ud,uE,uR) ((kU+1,ud,uE+1,λ(a:ByteArray)=>if a=(zd2 sh kU).name then some true else uR a)) (by dsimp only[u7];exact W334) (by dsimp only[u7];have q:=kR h3;refine⟨by omega,by omega,by omega,?_⟩;rw[show(kU+1).toNat=kU.toNat+1 from by omega,hJ2.2.2.2];exact Qm3 (by omega) h4) [] (vc:=(zj kU)) (hv:=W116);refine Q5 (u9 sh lk gs ud uE uR) ((0,ud,uE,uR)) (by dsimp only[u9];have q:=kS h3;refine⟨jl _,by omega,by omega,?_⟩;rw[hJ2.2.2.2,j4 (by omega)];rfl) ?_ [];rintro ⟨kY,uf,uy,uX⟩ hJ4;dsimp only[u9] at hJ4;refine Q0 (decide (kY<(↑lk.length:Int))) (λh5=>?_) (λh5=>?_);refine Q2 Q0c (Qib ((zd2 lk kY).name) uy uX W164 W164) [5,4] ?_ (vc:=(zbV kY lk)) (hv:=W116);refine Q0 (!(nameB (zd2 lk kY).name&&!(uX (zd2 lk kY).name).getD false)||!decide ((zd2 lk kY).word=0)) (λh6=>?_) (λh6=>?_);exact Q3 [] [0] [namedB sh lk gs=false] W71;exact Q4 (u9 sh lk gs ud uE uR) (kY,uf,uy,uX) ((kY+1,uf,uy+1,λ(a:ByteArray)=>if a=(zd2 lk kY).name then some true else uX a)) (by dsimp only[u9];have q:=kR h5;omega) (by dsimp only[u9];have q:=kR h5;refine⟨by omega,by omega,by omega,?_⟩;rw[show(kY+1).toNat=kY.toNat+1 from by omega,hJ4.2.2.2];exact Qm5 (by omega) h6) [] (vc:=(zj kY)) (hv:=W116);refine Q5 (vb sh lk gs uf uy uX) ((0,uf,uy,uX)) (by dsimp only[vb];have q:=kS h5;refine⟨jl _,by omega,by omega,?_⟩;rw[hJ4.2.2.2,j4 (by omega)];rfl) ?_ [];rintro ⟨uh,ur,uv,uO⟩ hJ6;dsimp only[vb] at hJ6;refine Q0 (decide (uh<(↑gs.length:Int))) (λh7=>?_) (λh7=>?_);refine Qj 2 (uh.toNat) ?_ (vc:=(zbI uh gs)) (hv:=W116);refine Q2 Q0c (Qib ((zdt gs uh).name) uv uO W164 W164) [5,4] ?_ (vc:=(za0 uh gs)) (hv:=W116);refine Q0 (!(nameB (zdt gs uh).name&&!(uO (zdt gs uh).name).getD false)) (λh8=>?_) (λh8=>?_);exact Q3 [] [0] [namedB sh lk gs=false] W71;exact Q4 (vb sh lk gs uf uy uX) (uh,ur,uv,uO) ((uh+1,ur,uv+1,λ(a:ByteArray)=>if a=(zdt gs uh).name then some true else uO a)) (by dsimp only[vb];have q:=kR h7;omega) (by dsimp only[vb];have q:=kR h7;refine⟨by omega,by omega,by omega,?_⟩;rw[show(uh+1).toNat=uh.toNat+1 from by omega,hJ6.2.2.2];exact Qm7 (by omega) h8) [] (vc:=(zj uh)) (hv:=W116);exact Q3 [] [0] [namedB sh lk gs=true] W71
structure Gs where
 vs:List VCo
 mem:List Int
 pr:List Prt
 steps:List Stp
section
variable {shared locks bu:Int} {cs:List Cor} {k:Int} {g:Gs}
end
structure Uns where
 err:Int
 g:Gs
section
variable {p:Did->Bool} {shared locks bu most:Int} {cs:List Cor} {k x:Int} {g:Gs} {u:Uns}
end
section
variable {shared locks bu most:Int} {cl:List Cls} {cs:List Cor} {x:Int} {order:List Int} {g:Gs} {u:Uns}
end
def g0(mem:List Int)(cs:List Cor):Gs:=⟨newVs cs.length,mem,[],[]⟩
section
variable {mem:List Int} {shared locks bu most:Int} {cs:List Cor} {cl:List Cls} {order:List Int}
end
section
variable {shared locks bu:Int} {cs:List Cor} {k:Int} {g:Gs}
variable {most:Int} {cl:List Cls}
end
structure Ps where
 vs:List VCo
 mem:List Int
 pr:List Prt
 dids:List Did
 errs:List Int
def p0(mem:List Int)(cs:List Cor):Ps:=⟨newVs cs.length,mem,[],[],[]⟩
section
variable {bu:Int} {cs:List Cor} {vs:List VCo} {mem:List Int} {pr:List Prt} {s:Stp} {p u:Ps} {l:List Stp} {x:Int}
variable {ds out v:List Did} {es:List Int}
end
section
variable {mem:List Int} {shared locks bu:Int} {cs:List Cor} {l:List Stp}
end
section
variable {mem:List Int} {shared locks bu most x:Int} {cs:List Cor} {cl:List Cls} {order:List Int} {g:Gs} {u:Uns}
end
section
variable {α:Type} [Inhabited α] [DecidableEq α] {a b:List α} {x:Int}
theorem Q7p(hl:a.length=b.length)(hu:∀j:Nat,(j:Int)<x->a.getD j kQ=b.getD j kQ)(h:decide (x<(a.length:Int))=false):decide (a=b)=true:=by
 have:=kS h;refine decide_eq_true (ku hl λi h1 h2=>?_);have:=hu i W48;simpa only[jc,jh h1,jh h2,Option.getD_some] using this
theorem Q5p(hu:∀j:Nat,(j:Int)<x->a.getD j kQ=b.getD j kQ)(h0:0<=x)(h:a.getD x.toNat kQ=b.getD x.toNat kQ):∀j:Nat,(j:Int)<x+1->a.getD j kQ=b.getD j default:=λj hj=>by
 by_cases e:(j:Int)=x;have e2:x.toNat=j:=by omega
 rw[e2] at h;exact h;exact hu j W48
theorem Qa5(hl:¬a.length=b.length):decide (a=b)=false:=decide_eq_false (λe=>hl (by rw[e]))
theorem Qa6(h:¬a.getD x.toNat kQ=b.getD x.toNat kQ):decide (a=b)=false:=decide_eq_false (λe=>h (by rw[e]))
end
theorem Zh(l:List Int)(hl:l.length * 64<=140737488355328):Ctr ja 79 [IntRow l] [.c (.h 0)]
 (Det (.c (.h 1)) [.dead,IntOwn l]):=by
  refine Ctr.intro [] Tryz.func79 K K ?_;refine RunF.rnil (n:=l.length) (vc:=[]) 0 K trivial K (λ_=>by kernel_rfl) (λnil1 hn1=>?_);refine Q0 (nil1) (λh2=>?_) (λh2=>?_);exact Q3 [0,1000001] [0] [l.length=0] W266;exact Q3 [0,2] [0,1] [l.length=0+l.length,∀(i:Nat),i<l.length->i64T (l.getD i 0)=λj=>if i<0 then rowT 1 [] i j else i64T (l.getD (i-0) 0) j] W266 (vc:=[∀(i j:Nat),i<l.length->j<1->flatT (i64T (l.getD i 0) j),0+l.length<=maxLen,(0+l.length) * 8<=140737488355328]) (hv:=(by simp only[Conj,Fits,Q6,Q7,Q8,Q9,News.len,maxLen]<;>(repeat' (first|apply ji|intro _))<;>first|(exact i64T.flat _ _ (by assumption))|grind))
abbrev zbD(y0:Ext)(y1:Option Addr)(y2 y3:Nat):Reg:=Reg.row 1 (rd y0 (je y1 y2 y3)).length (λj=>i64T ((rd y0 (je y1 y2 y3)).getD j 0)) none
abbrev zbQ(y0:Int × Bool):En:=se 4 (C.b y0.2)
def v3(X:Ext)(A:Option Addr)(nn:Nat)(cc:Nat)(now:List Int):Lp (Int×Bool):=⟨λx=>{ N:=26,fr:=[se 13 (C.i .i64 x.1),{ slot:=12,g:=[],sv:=SV.c (C.i .i64 (↑(rd X (je A nn cc)).length:Int)) },zbQ x,se 0 (C.h 2),se 1 (C.h 0)],rg:=[IntRow now,Reg.froz X,zbD X A nn cc],wr:=[] },λx=>0<=x.1/\x.1<=((rd X (.slice A nn cc)).length:Int)/\(rd X (.slice A nn cc)).length=now.length/\∀j:Nat,(j:Int)<x.1->(rd X (.slice A nn cc)).getD j kQ=now.getD j kQ,λx=>(((rd X (.slice A nn cc)).length:Int)-x.1).toNat⟩
theorem Qp2(X:Ext)(A:Option Addr)(nn cc:Nat)(now:List Int)(hT:Is X (.slice A nn cc)):Ctr ja 81 [IntRow now,.froz X] [.c (.v (.slice A nn cc)),.c (.h 0)]
 (Det (.c (.b (decide (rd X (.slice A nn cc)=now)))) [.dead,.dead]):=by
  refine Ctr.intro [] Tryz.func81 K K ?_;refine RunF.lens 0 (m:=now.length) K (λhlens_0=>?_);refine RunF.tabout 0 1 (X:=X) (y:=je A nn cc) (size:=1) (n:=(rd X (je A nn cc)).length) (f:=λj=>i64T ((rd X (je A nn cc)).getD j 0)) K K K (Y3 hT) ?_;refine Q0 (!decide ((↑(rd X (je A nn cc)).length:Int)=(↑now.length:Int))) (λh1=>?_) (λh1=>?_);exact Q3 [] [0] [decide (rd X (je A nn cc)=now)=false] W147;refine Q5 (v3 X A nn cc now) ((0,false)) ⟨by omega,by omega,by simp at h1;omega,λj hj=>absurd hj W48⟩ ?_;rintro ⟨kU,ud⟩ hJ2;dsimp only[v3] at hJ2;refine Q0 (decide (kU<(↑(rd X (je A nn cc)).length:Int))) (λh3=>?_) (λh3=>?_);refine Q0 (!decide ((rd X (je A nn cc)).getD kU.toNat 0=now.getD kU.toNat 0)) (λh4=>?_) (λh4=>?_) (vc:=[0<=kU,kU<(↑(rd X (je A nn cc)).length:Int),kU.toNat<(rd X (je A nn cc)).length,0<=kU,kU<(↑now.length:Int),kU.toNat<now.length]) (hv:=W37);exact Q3 [] [0] [decide (rd X (je A nn cc)=now)=false] W147;exact Q4 (v3 X A nn cc now) (kU,ud) ((kU+1,ud)) (by dsimp only[v3];exact W325) ⟨by omega,by have:=kR h3;omega,hJ2.2.2.1,Q5p hJ2.2.2.2 hJ2.1 (by show(rd X (.slice A nn cc)).getD kU.toNat 0=now.getD kU.toNat 0;simpa using h4)⟩ (vc:=(zj kU)) (hv:=W37);exact Q3 [] [0] [decide (rd X (je A nn cc)=now)=true] W147
abbrev zap(y0:Nod):List Prop:=[∀(i:Nat),i < [y0.next,y0.els].length->i64T ([y0.next,y0.els].getD i 0)=rowT 1 [jn jb y0.next,jn jb y0.els] i]
abbrev za5(y0:Nod):List Prop:=[∀(i:Nat),i < [y0.next].length->i≠0->i64T ([y0.next].getD i 0)=λx=>TC.any]
theorem Gn(n:Nod):Ctr ja 80 [] [.agg n.cs]
 (Det (.c (.h 0)) [IntOwn (flwL n)]):=by
  refine Ctr.intro [] Tryz.func80 K K ?_;refine Q0 (decide (n.kind=9)) (λh1=>?_) (λh1=>?_);rw[Qft h1];exact Q3 [1000000] [0] [(0:Nat)=0] W68;refine Q0 (decide (n.kind=8)&&!decide (n.els=n.next)) (λh2=>?_) (λh2=>?_);rw[Qfu h1 h2];exact Q3 [1] [1] (zap n) W68;rw[Q9r h1 h2];exact Q3 [1] [1] (za5 n) W68
theorem Qqn(n:Nod)(hk:1<=n.kind/\n.kind<=9):Ctr ja 76 [] [.agg n.cs]
 (Det (.c (.i .u8 (prtN n))) []):=by
  refine Ctr.intro [] Tryz.func76 K K ?_;rcases(show n.kind=1\/n.kind=2\/n.kind=3\/n.kind=4\/n.kind=5\/n.kind=6\/n.kind=7\/n.kind=8\/n.kind=9 from W48) with hs1|hs1|hs1|hs1|hs1|hs1|hs1|hs1|hs1;refine tSp [(0,0,.i .u8 1)] [] ?_ [0] [1=n.kind] W70;refine tG Y4 (J5 n.op) [] ?_ (vc:=[(0:Int)<=(1:Int),(1:Int)<(10:Int),1<10]) (hv:=W37);refine Q0 (decide ((1:Int)=(1:Int))&&twoB n.op) (λh2=>?_) (λh2=>?_);exact Q3 [] [0] [prtN n=bits kF jD 43 16] W113;exact Q3 [] [0] [prtN n=43] W113;refine tSp [(0,0,.i .u8 2)] [] ?_ [0] [2=n.kind] W70;refine tG Y4 (J5 n.op) [] ?_ (vc:=[(0:Int)<=(2:Int),(2:Int)<(10:Int),2<10]) (hv:=W37);refine Q0 (decide ((2:Int)=(1:Int))&&twoB n.op) (λh2=>?_) (λh2=>?_);exact absurd h2 W101;exact Q3 [] [0] [prtN n=38] W113;refine tSp [(0,0,.i .u8 3)] [] ?_ [0] [3=n.kind] W70;refine tG Y4 (J5 n.op) [] ?_ (vc:=[(0:Int)<=(3:Int),(3:Int)<(10:Int),3<10]) (hv:=W37);refine Q0 (decide ((3:Int)=(1:Int))&&twoB n.op) (λh2=>?_) (λh2=>?_);exact absurd h2 W101;exact Q3 [] [0] [prtN n=44] W113;refine tSp [(0,0,.i .u8 4)] [] ?_ [0] [4=n.kind] W70;refine tG Y4 (J5 n.op) [] ?_ (vc:=[(0:Int)<=(4:Int),(4:Int)<(10:Int),4<10]) (hv:=W37);refine Q0 (decide ((4:Int)=(1:Int))&&twoB n.op) (λh2=>?_) (λh2=>?_);exact absurd h2 W101;exact Q3 [] [0] [prtN n=46] W113;refine tSp [(0,0,.i .u8 5)] [] ?_ [0] [5=n.kind] W70;refine tG Y4 (J5 n.op) [] ?_ (vc:=[(0:Int)<=(5:Int),(5:Int)<(10:Int),5<10]) (hv:=W37);refine Q0 (decide ((5:Int)=(1:Int))&&twoB n.op) (λh2=>?_) (λh2=>?_);exact absurd h2 W101;exact Q3 [] [0] [prtN n=36] W113;refine tSp [(0,0,.i .u8 6)] [] ?_ [0] [6=n.kind] W70;refine tG Y4 (J5 n.op) [] ?_ (vc:=[(0:Int)<=(6:Int),(6:Int)<(10:Int),6<10]) (hv:=W37);refine Q0 (decide ((6:Int)=(1:Int))&&twoB n.op) (λh2=>?_) (λh2=>?_);exact absurd h2 W101;exact Q3 [] [0] [prtN n=36] W113;refine tSp [(0,0,.i .u8 7)] [] ?_ [0] [7=n.kind] W70;refine tG Y4 (J5 n.op) [] ?_ (vc:=[(0:Int)<=(7:Int),(7:Int)<(10:Int),7<10]) (hv:=W37);refine Q0 (decide ((7:Int)=(1:Int))&&twoB n.op) (λh2=>?_) (λh2=>?_);exact absurd h2 W101;exact Q3 [] [0] [prtN n=40] W113;refine tSp [(0,0,.i .u8 8)] [] ?_ [0] [8=n.kind] W70;refine tG Y4 (J5 n.op) [] ?_ (vc:=[(0:Int)<=(8:Int),(8:Int)<(10:Int),8<10]) (hv:=W37);refine Q0 (decide ((8:Int)=(1:Int))&&twoB n.op) (λh2=>?_) (λh2=>?_);exact absurd h2 W101;exact Q3 [] [0] [prtN n=104] W113;refine tSp [(0,0,.i .u8 9)] [] ?_ [0] [9=n.kind] W70;refine tG Y4 (J5 n.op) [] ?_ (vc:=[(0:Int)<=(9:Int),(9:Int)<(10:Int),9<10]) (hv:=W37);refine Q0 (decide ((9:Int)=(1:Int))&&twoB n.op) (λh2=>?_) (λh2=>?_);exact absurd h2 W101;exact Q3 [] [0] [prtN n=0] W113
end Go.Proofs.YtnddggenhefaeaaGreatDoor
end
