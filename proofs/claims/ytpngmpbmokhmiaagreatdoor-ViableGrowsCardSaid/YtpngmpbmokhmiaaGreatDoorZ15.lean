/-
  Part 15 of the proof. No condition.
-/
import Derived.Test.YtpngmpbmokhmiaaGreatDoorZ14
set_option linter.unusedVariables false
set_option linter.unusedSimpArgs false
set_option maxRecDepth 100000
set_option maxHeartbeats 4000000
set_option linter.defProp false
open Option renaming some->D,none->Q
open Bool renaming true->f,false->aC
open Go renaming Value->Z,TypeId->aH,Program->aU,Operand->bT,IntKind->fB
open Go.Value renaming slice->I
open Nat renaming beq->aA,ble->aD,sub->dJ
open List renaming replicate->aX,range->f_
open BitVec renaming ofInt->lq
open And renaming intro->ik
noncomputable section
namespace Go.Proofs.Lv
open Go.Proofs.Lu
open Go.Ae Go.Ae.cs
section
variable{H0 H:R}{L cs:C dL}{S:C Nat}{SH:Nat->Prop}{A:At}{q:AV}
def xL(hw:Wf H)(h:sQ SH H A q)(ho:A.Ok):aO Pg X 54 [q.v A] H (Q1 (λv T=>∃q':AV,v=q'.v A/\sQ (H.next<=·) T A q') H):=by
 refine aO.mono (NU hw h ho) ?_;rintro _ T ⟨M,cs,rfl,⟨_,_,hB⟩,G⟩;obtain⟨q',rfl,h'⟩:=(hB 0).atC (G.cast (bq cs).symm) ho;exact⟨⟨q',O,h'⟩,G.ext⟩
def sQ.both(h:sQ SH H A q):sQ (λr=>SH r/\r<H.next) H A q:=by
 have fl:∀{ty n es a M},je SH ty H a n es M->je (λr=>SH r/\r<H.next) ty H a n es M:=λh=>⟨h.1,λr o e hn=>let⟨W,J,h3⟩:=h.2 r o e hn;⟨⟨W,J⟩,J,h3⟩⟩;exact⟨fl h.n,fl h.s,fl h.p,fl h.o,let⟨evs,W,J⟩:=h.e;⟨evs,fl W,λi hi=>let⟨a,c,h3,h4⟩:=J i hi;⟨a,c,h3,fl h4⟩⟩⟩
def sQ.m'(h:sQ SH H A q):sQ SH (hM H0 H) A q:=⟨h.n,h.s,h.p,h.o,h.e⟩
structure Bh(SH:Nat->Prop)(H:R)(rw:Nat)(A:At)(q:AV)(ev sv:Z)(sb:C Bool):Prop where
 k:SH rw/\rw<H.next
 b:Bk H rw 114 (q.cells A++[ev,sv])
 a:sQ SH H A q
 s:∃sa sc,sv=I sa A.ns sc/\je SH 4 H sa A.ns 1 (bools sb)
 l:sb.length=A.ns
 on:∀s,s<A.ns->sb[s]?=D (decide<|s∈A.sp)
def acO(hw:Wf H)(h:sQ SH H A q)(ho:A.Ok)(ht:A.trim=A):aO Pg X 21 [q.v A] H (Q1 (λv T=>∃(w:Z)(code:Int),v=.tuple ⟨[w,vi code]⟩/\(code=0->∃rw q' ev sv sb,w=pr rw/\Bh (H.next<=·) T rw A q' ev sv sb)) H):=by
 have G:=F.refl hw;have hbig:=ho.big;have Lm:=ho.few;refine jS [0,1,2,3,4,6,8,33,34,35] ?_;refine G.box O λH1 u G=>?_;rw[jM]at G;refine G.rZ 0 O (ax 6) ?_;refine G.cm (UO G.wf (h.ex G.ext) ho) ?_;rintro v H2 ⟨code,z,rfl⟩ E G;refine wR (λhc=>?_) λhc=>?_
 .refine iD O<|rr ?_;exact⟨⟨_,_,O,λh=>absurd h mO⟩,G.ext⟩
 subst hc;refine G.KH 0 O (ax 6) ?_;simp only[gN G.wf];refine aO.mono (NV (nS H2) (h.ex G.ext).n' ho) ?_;rintro v H3 ⟨⟨q1,rfl,W⟩,E⟩;have G:=G.nH E;refine G.KH 0 O (ax 6) ?_;simp only[gN G.wf];rw[ht]at W|-;have W:sQ (H2.next<=·) (hM H2 H3) A q1:=W.m';refine aO.mono (YW (nS _) W.n' (h.ex G.ext).n' ho) ?_;rintro v H4 ⟨rfl,hx4⟩;have G:=G.nH hx4;refine bG ?_;refine iD (by simp only[d_,fP E,fP hx4];rfl) ?_;refine gF (λhb=>by cases hb) λ_=>?_;refine tl ?_;generalize hM (hM H2 H3) H4=H5 at G;refine G.KH 0 O (ax 6) ?_;simp only[gN G.wf];refine aO.mono (xL (nS _) (h.ex G.ext).n' ho) ?_;rintro _ H6 ⟨⟨q2,rfl,J⟩,hx6⟩;have hge:=G.ext.next
 have J:sQ (H5.next<=·) (hM H5 H6) A q2:=J.m';have anF:=(G.lo _<|aN ..).2;have G:=G.nH hx6;refine G.KH 0 O (ax 6) ?_;simp only[gN G.wf];refine aO.mono (Fe (nS _) (h.ex G.ext).n' ho) ?_;rintro _ H7 ⟨⟨l,⟨ea,ec,rfl,_⟩,_⟩,hx7⟩;have J:=J.ex hx7.draw;have G:=G.nH hx7;refine G.KH 0 O (ax 6) ?_;simp only[gN G.wf];refine aO.mono (sI (nS _) q A) ?_;rintro _ H8 ⟨rfl,Bg⟩;have J:=J.ex Bg.draw;have G:=G.nH Bg;generalize hH:hM (hM (hM H5 H6) H7) H8=H9 at G J|-;have J:=J.both;have hrg:=(G.lo _<|aN ..).2;refine G.amy (ax _) N λDq rs G c1 Ap hrs=>?_;rw[mZ]at G;have J:=J.ex Ap;refine PU.of (v:=.agg ⟨q2.cells A++[I ea A.nr ec,I (D ⟨rs,0,Q⟩) A.ns A.ns]⟩) O ?_;refine G.aic O λSn rw G c2 ae2 hrw=>?_;have J:=J.ex ae2;have G:F [] H (hM (hM H9 Dq) Sn) [(rw,114,q2.cells A++[I ea A.nr ec,I (D ⟨rs,0,Q⟩) A.ns A.ns]),(rs,4,aX A.ns<|.bool aC),(u,27,q.cells A)]:=G;refine iD (by simp only[d_,fP hx6,fP hx7,fP Bg,hH,c1,c2];rfl) ?_;generalize hM (hM H9 Dq) Sn=H12 at G J|-;refine eU ?_;have hpl:=ho.YA;have hSb:=G;have G:=G.base;refine lp2 8 35 (ai:=λm x8 Eh T=>∃(i:Nat)(sb:C Bool),Eh=B i/\i+m=A.nr/\sb.length=A.ns/\(∀s,s<A.ns->sb[s]?=D (decide<|s∈A.sp.take i))/\F [rw,rs,u] H12 T [(rw,114,q2.cells A++[I ea A.nr ec,I (D ⟨rs,0,Q⟩) A.ns A.ns]),(rs,4,bools sb),(u,27,q.cells A)]) ?_ A.nr ⟨0,aX A.ns aC,rfl,N,by simp,λs hs=>by rw[kH,if_pos hs];simp,by rw[show bools (aX A.ns aC)=aX A.ns (.bool aC)from ku];exact G⟩;clear G;rintro m x8 Eh ni H13 ⟨i,sb,rfl,him,hsl,hsb,G⟩
 have h3:=J.stay G.ext λr y=>by
  have h9:=Ap.next
  simp only[bP,dX,iF]at y;rcases y with rfl|rfl|rfl<;>omega
 refine kX (λhc=>?_) λhc=>?_
 .refine tl ?_;have G:=hSb.over G;have hm:((rs,4,bools sb):dL)∈[(rw,114,q2.cells A++[I ea A.nr ec,I (D ⟨rs,0,Q⟩) A.ns A.ns]),(rs,4,bools sb),(u,27,q.cells A)]:=by simp
  refine rr ?_;refine⟨⟨_,_,O,λ_=>⟨rw,q2,_,_,sb,rfl,⟨G.wQ<|aN ..,(G.lo _<|aN ..).2⟩,G.get 0 O,h3.wk λr y=>a_ hge y.1,⟨_,_,rfl,je.one G hm (by rw[aK];omega)<|G.wQ hm⟩,hsl,λs hs=>?_⟩⟩,G.ext⟩;rw[hsb s hs,cO N]
 have hi:i<A.nr:=N;have hpi:=(ho.p i hi).1;refine(h.p.ex (hSb.over G).ext).ix (v:=B<|A.P i) hi (Ao N) λp=>G.pz ?_;refine G.Zg hpi (by rw[aK];omega) (kk:=λp H14 G=>?_);refine dQ ?_;refine⟨A.nr-(i+1),N,_,_,_,_,O,i+1,sb.set (A.P i) f,og,N,by rw[bJ];exact hsl,λs hs=>?_,by rw[show bools (sb.set (A.P i) f)=(bools sb).set (A.P i) (.bool f)from fZ];exact G⟩;have e:A.sp[i]?=D (A.P i):=by unfold At.P;rw[av N];rfl
 rw[dG,eH,e];simp only[Option.toList,bZ,aP]
 by_cases hp:A.P i=s
 .subst hp;rw[if_pos O,if_pos N,bL<|.inr O]
 .rw[if_neg hp,hsb s hs];have:s∈A.sp.take i\/s=A.P i<->s∈A.sp.take i:=⟨λh=>h.resolve_right λh=>hp h.symm,.inl⟩;simp only[this]
end
end Go.Proofs.Lv
namespace Go.Proofs.Lu
def LF{m n:Nat}{l:C (Nat×Nat)}(h:l.Nodup)(hb:∀p∈l,p.1<m/\p.2<n):l.length<=m*n:=by
 have J:(l.map λp=>p.1*n+p.2).Nodup:=by
  refine List.pairwise_map.2<|List.Pairwise.imp_of_mem (λ{a b} ha hb' h3 e=>?_) h;have W:=hb _ ha;have J:=hb _ hb';refine h3<|Prod.ext ?_ ?_
  .have e1:=dW (·/n) e;have hn:0<n:=N;simp only[vB _ n,Nat.mul_add_div hn,uI W.2,uI J.2]at e1;omega
  .have e1:=dW (·%n) e;simp only[vB _ n,Nat.mul_add_mod,uK W.2,uK J.2]at e1;exact e1
 have h3:=J.length_le_of_subset (l₂:=f_<|m*n) λx E=>by
  obtain⟨p,hp,rfl⟩:=bQ.1 E;have:=hb p hp;rw[my]
  calc p.1*n+p.2<p.1*n+n:=N
   _=(p.1+1)*n:=by rw[kR]
   _<=m*n:=eY _ N
 simpa using h3
namespace Wk
variable{a i r:Nat}
abbrev Sp:=Nat×Nat
variable{ay:Nat->Sp}
abbrev Sk:=C<|Nat×Nat×C Nat
def tZ(s:Sk)(k:Nat):Nat×Nat×C Nat:=s[k-1]?.getD (0,0,[])
def R_(s:Sk)(r a:Nat):aB Nat:=s.findIdx? λe=>e.1==r&&e.2.1==a
def put(s:Sk)(r a rg:Nat):Sk×Nat×Bool:=
 match R_ s r a with
 |some i=>if rg∈(tZ s<|i+1).2.2 then(s,i+1,aC)else(s.set i (r,a,(tZ s<|i+1).2.2++[rg]),i+1,f)
 |none=>(s++[(r,a,[rg])],s.length+1,f)
structure Rn where
 sk:Sk
 sp:C Sp
 en:C Nat
 ok:Bool
def Rn.meet(x:Rn)(p:Sp):Rn:=if p∈x.sp then x else{x with sp:=x.sp++[p]}
def Rn.back(x:Rn)(p:Sp):Rn:=
 if p.2=0 then{x with ok:=f}else if p.2∈x.en then x
 else(tZ x.sk p.2).2.2.foldl (λhr rg=>hr.meet ((tZ x.sk p.2).1,rg)) {x with en:=p.2::x.en}
def Rn.hop(x:Rn)(q:Nat×Bool)(p:Sp):Rn:=if q.1∈x.en/\q.2=f then x.meet p else x
variable(A:At)(a:Nat)
def Rn.along(p:Sp)(x:Rn)(e:Ed):Rn:=
 if e.1=1 then x
 else if e.1=2 then
  ({x with sk:=(put x.sk e.2.2 a p.2).1}.meet (A.S e.2.1,(put x.sk e.2.2 a p.2).2.1)).hop (put x.sk e.2.2 a p.2).2 (e.2.2,p.2)
 else x.meet (e.2.2,p.2)
def Rn.one(x:Rn)(p:Sp):Rn:=(A.hx p.1).foldl (Rn.along A a p) (if p.1∈A.sp then x.back p else x)
def go:Nat->Nat->Rn->Rn
 |0,_,x=>x
 |n+1,i,x=>match x.sp[i]? with
  |none=>x
  |some p=>go n (i+1)<|x.one A a p
def bnd:Nat:=A.ns*(A.ns*(a+1)+1)
def close(s:Sk)(l:C Sp):Rn:=go A a (bnd A a+1) 0<|l.foldl Rn.meet ⟨s,[],[],aC⟩
structure Sk.h1(s:Sk):Prop where
 nd:(s.map λe=>(e.1,e.2.1)).Nodup
 b:∀e∈s,(e.1<A.ns/\e.2.1<=a)/\∀rg∈e.2.2,rg<=s.length
 rg:∀e∈s,e.2.2.Nodup
structure Rn.h1(x:Rn):Prop where
 sk:Sk.h1 A a x.sk
 nd:x.sp.Nodup
 b:∀p∈x.sp,p.1<A.ns/\p.2<=x.sk.length
variable{A:At}{a:Nat}{x:Rn}{s:Sk}{p:Sp}
def Sk.h1.le(h:Sk.h1 A a s):s.length<=A.ns*(a+1):=by
 have:=LF h.nd (m:=A.ns) (n:=a+1) λp hp=>by
  obtain⟨e,he,rfl⟩:=bQ.1 hp;have:=(h.b e he).1;exact⟨this.1,N⟩
 simpa using this
def Sk.h1.few(h:Sk.h1 A a s)(n:Nat):(tZ s n).2.2.length<=s.length+1:=by
 unfold tZ;cases e:s[n-1]? with
 |none=>exact bA _
 |some x=>
  have E:=aS e;have:=(h.rg x E).length_le_of_subset (l₂:=f_<|s.length+1) λrg hu=>by have:=(h.b x E).2 rg hu;rw[my];omega
  simpa using this
def Rn.h1.le(h:x.h1 A a):x.sp.length<=bnd A a:=by
 have W:=LF h.nd (m:=A.ns) (n:=x.sk.length+1) λp hp=>⟨(h.b p hp).1,by have:=(h.b p hp).2;omega⟩;exact a_ W<|gG _ (by have:=h.sk.le;omega)
def Rn.h1.meet(h:x.h1 A a)(W:p.1<A.ns)(J:p.2<=x.sk.length):(x.meet p).h1 A a:=by
 unfold Rn.meet;split
 .exact h
 .next hp=>
  refine⟨h.sk,?_,λq hq=>?_⟩
  .refine nO.2 ⟨h.nd,by simp,λq hq r y e=>?_⟩;rw[aP]at y;exact hp<|y▸e▸hq
  .rcases bZ.1 hq with hq|hq
   .exact h.b q hq
   .rw[aP]at hq;subst hq;exact⟨W,J⟩
def Rn.Cb:(x.meet p).sk=x.sk:=by unfold Rn.meet;split<;>rfl
def Rn.h1.meets(l:C Nat):∀hr:Rn,hr.h1 A a->(∀rg∈l,(ay rg).1<A.ns/\(ay rg).2<=hr.sk.length)->(l.foldl (λhr rg=>hr.meet<|ay rg) hr).h1 A a:=by
 induction l with
 |nil=>exactλhr h _=>h
 |cons rg l ih=>exactλhr h hb=>ih _ (h.meet (hb rg kg).1 (hb rg kg).2) λv hv=>by rw[Rn.Cb];exact hb v (by simp[hv])
def Sa(h:R_ s r a=D i):i<s.length/\(tZ s<|i+1).1=r/\(tZ s<|i+1).2.1=a/\tZ s (i+1)∈s:=by
 unfold R_ at h;rw[List.findIdx?_eq_some_iff_getElem]at h;have⟨W,J,_⟩:=h;have e:tZ s (i+1)=s[i]:=by unfold tZ;rw[mW,av W];rfl
 rw[e];simp at J;exact⟨W,J.1,J.2,bB W⟩
def agJ(h:Sk.h1 A a s){rg:Nat}(y:r<A.ns)(hu:rg<=s.length):Sk.h1 A a (put s r a rg).1/\(put s r a rg).2.1<=(put s r a rg).1.length/\s.length<=(put s r a rg).1.length:=by
 unfold put;split
 .next i hi=>
  have⟨W,J,h3,h4⟩:=Sa hi;split
  .exact⟨h,W,ax _⟩
  .next hnu=>
   refine⟨⟨?_,λe he=>?_,λe he=>?_⟩,by rw[bJ];exact W,by rw[bJ];exact ax _⟩
   .have:(s.set i (r,a,(tZ s<|i+1).2.2++[rg])).map (λe=>(e.1,e.2.1))=s.map λe=>(e.1,e.2.1):=by
     rw[fZ];refine h_ λj=>?_;rw[dG];split
     .next hj=>
      subst hj;have e:tZ s (i+1)=s[i]:=by unfold tZ;rw[mW,av W];rfl
      rw[e]at J h3;simp[W,J,h3]
     .rfl
    rw[this];exact h.nd
   .rw[bJ];rcases ig he with he|rfl
    .exact h.b e he
    .refine⟨⟨y,ax _⟩,λv hv=>?_⟩;rcases bZ.1 hv with hv|hv
     .exact(h.b _ h4).2 v hv
     .rw[aP]at hv;omega
   .rcases ig he with he|rfl
    .exact h.rg e he
    .exact nO.2 ⟨h.rg _ h4,by simp,λv hv w hw e=>hnu (by rw[aP]at hw;subst hw;subst e;exact hv)⟩
 .next hi=>
  refine⟨⟨?_,λe he=>?_,λe he=>?_⟩,by simp,by simp⟩
  .rw[dA];refine nO.2 ⟨h.nd,by simp,λq hq v hv e=>?_⟩;obtain⟨z,hz,rfl⟩:=bQ.1 hq;simp only[iC,jF,aP]at hv;subst hv;unfold R_ at hi;rw[List.findIdx?_eq_none_iff]at hi;have:=hi z hz;simp at this e;exact this e.1 e.2
  .rw[aQ];rcases bZ.1 he with he|he
   .exact⟨(h.b e he).1,λv hv=>by have:=(h.b e he).2 v hv;simp;omega⟩
   .rw[aP]at he;subst he;exact⟨⟨y,ax _⟩,λv hv=>by rw[aP]at hv;simp;omega⟩
  .rcases bZ.1 he with he|he
   .exact h.rg e he
   .rw[aP]at he;subst he;simp
theorem Rn.h1.back(h:x.h1 A a)(hp:p∈x.sp):(x.back p).h1 A a:=by
 unfold Rn.back;split
 .exact⟨h.sk,h.nd,h.b⟩
 split
 .exact h
 .next h0 _=>
  have hb:=(h.b p hp).2
  have e:tZ x.sk p.2∈x.sk:=by
   unfold tZ;rw[av (show p.2-1<x.sk.length by omega)];exact bB _
  exact Rn.h1.meets (ay:=λrg=>((tZ x.sk p.2).1,rg)) _ _ ⟨h.sk,h.nd,h.b⟩ λrg hu=>⟨(h.sk.b _ e).1.1,(h.sk.b _ e).2 rg hu⟩
def Rn.h1.along(ho:A.Ok)(h:x.h1 A a)(hp:p.1<A.ns/\p.2<=x.sk.length){e:Ed}(he:e∈A.hx p.1):(x.along A a p e).h1 A a/\x.sk.length<=(x.along A a p e).sk.length:=by
 have he:=ho.e _ hp.1 e he;unfold Rn.along;split
 .exact⟨h,ax _⟩
 split
 .next W J=>
  have y:e.2.1<A.nr:=by rcases he.2.2 with h|h|h<;>omega
  have⟨w1,w2,w3⟩:=agJ h.sk he.1 hp.2;have hy:Rn.h1 A a ({x with sk:=(put x.sk e.2.2 a p.2).1}.meet (A.S e.2.1,(put x.sk e.2.2 a p.2).2.1)):=Rn.h1.meet ⟨w1,h.nd,λq hq=>⟨(h.b q hq).1,a_ (h.b q hq).2 w3⟩⟩ (ho.s _ y).1 w2;have hk:({x with sk:=(put x.sk e.2.2 a p.2).1}.meet (A.S e.2.1,(put x.sk e.2.2 a p.2).2.1):Rn).sk=(put x.sk e.2.2 a p.2).1:=Rn.Cb;unfold Rn.hop;split
  .exact⟨hy.meet he.1 (by rw[hk];omega),by rw[Rn.Cb,hk];exact w3⟩
  .exact⟨hy,by rw[hk];exact w3⟩
 .exact⟨h.meet he.1 hp.2,by rw[Rn.Cb];exact ax _⟩
def Rn.acP(l:C Nat):∀hr:Rn,(l.foldl (λhr rg=>hr.meet<|ay rg) hr).sk=hr.sk:=by
 induction l with
 |nil=>exactλ_=>rfl
 |cons rg l ih=>exactλhr=>(ih _).trans Rn.Cb
def Rn.WJ:(x.back p).sk=x.sk:=by
 unfold Rn.back;split
 .rfl
 split
 .rfl
 .exact Rn.acP _ _
def Rn.h1.UQ(ho:A.Ok)(hp:p.1<A.ns)(l:C Ed):∀hr:Rn,(∀e∈l,e∈A.hx p.1)->hr.h1 A a->p.2<=hr.sk.length->(l.foldl (Rn.along A a p) hr).h1 A a/\hr.sk.length<=(l.foldl (Rn.along A a p) hr).sk.length:=by
 induction l with
 |nil=>exactλ_ _ h _=>⟨h,ax _⟩
 |cons e l ih=>
  intro hr hl h J;have⟨w1,w2⟩:=h.along ho ⟨hp,J⟩<|hl e kg;have⟨w3,w4⟩:=ih _ (λd hd=>hl d<|by simp[hd]) w1<|a_ J w2;exact⟨w3,a_ w2 w4⟩
def Rn.h1.one(ho:A.Ok)(h:x.h1 A a)(hp:p∈x.sp):(x.one A a p).h1 A a:=by
 have hb:=h.b p hp;unfold Rn.one;split
 .exact(Rn.h1.UQ ho hb.1 _ _ (λ_ h=>h) (h.back hp) (by rw[Rn.WJ];exact hb.2)).1
 .exact(Rn.h1.UQ ho hb.1 _ _ (λ_ h=>h) h hb.2).1
def akY(ho:A.Ok):∀n i x,Rn.h1 A a x->(go A a n i x).h1 A a
 |0,_,x,h=>h
 |n+1,i,x,h=>by
  show Rn.h1 A a (match x.sp[i]? with|none=>x|some p=>go A a n (i+1)<|x.one A a p);cases hp:x.sp[i]? with
  |none=>exact h
  |some p=>exact akY ho n (i+1) _<|h.one ho<|aS hp
end Wk
namespace Wk
variable{a b k:Nat}{l:C Sp}{s:Sk}
variable(A:At)
def zf(l:C Sp)(t:Int):C Sp:=(l.flatMap λp=>((A.hx p.1).filter λe=>e.1==1&&((e.2.1:Nat):Int)==t).map λe=>(e.2.2,p.2)).foldl (λo p=>if p∈o then o else o++[p]) []
def off(l:C Sp)(t:Int):Prop:=∃p∈l,∃e∈A.hx p.1,e.1=1/\((e.2.1:Nat):Int)=t
instance(l:C Sp)(t:Int):Decidable (off A l t):=by unfold off;exact inferInstance
structure ae where
 sk:Sk
 sp:C Sp
 ok:Bool
 long:Nat
 st:Nat
def ae.of(x:Rn)(n k:Nat):ae:=⟨x.sk,x.sp,x.ok,n,k+x.sp.length⟩
def ae.new:ae:=.of (close A 0 [] [(A.S 0,0)]) 0 0
def ae.on(z:ae)(t:Int):ae:=.of (close A (z.long+1) z.sk<|zf A z.sp t) (z.long+1) z.st
def ae.feed(z:ae)(t:Int):ae:=if off A z.sp t then z.on A t else z
def ae.all(z:ae)(l:C Int):ae:=l.foldl (ae.feed A) z
def ae.kept:ae->C Int->C Bool
 |_,[]=>[]
 |z,t::l=>decide (off A z.sp t)::ae.kept (z.feed A t) l
def pick:C Int->C Bool->C Int
 |t::l,b::bs=>if b=f then t::pick l bs else pick l bs
 |_,_=>[]
variable{A:At}
def ae.sF:∀(l:C Int)(z:ae),(z.kept A l).length=l.length
 |[],_=>rfl
 |t::l,z=>dW (·+1)<|ae.sF l _
def ae.again:∀(l:C Int)(z:ae),z.all A (pick l<|z.kept A l)=z.all A l/\∀b∈z.kept A (pick l<|z.kept A l),b=f
 |[],z=>⟨rfl,nofun⟩
 |t::l,z=>by
  show ae.all A z (if decide (off A z.sp t)=f then t::pick l _ else pick l _)=ae.all A (z.feed A t) l/\∀b∈z.kept A (if decide (off A z.sp t)=f then t::pick l _ else pick l _),b=f
  by_cases h:off A z.sp t
  .rw[if_pos (bL h)];have⟨W,J⟩:=ae.again l<|z.feed A t;refine⟨W,λb hb=>?_⟩;rcases bP.1 hb with rfl|hb
   .exact bL h
   .exact J b hb
  .rw[if_neg (mg h)];have e:z.feed A t=z:=if_neg h;rw[e];exact ae.again l z
def ae.acQ(l:C Int)(t:Int)(z:ae):z.all A (l++[t])=(z.all A l).feed A t:=by unfold ae.all;rw[iO];rfl
def ae.Ht:∀(l:C Int)(t:Int)(z:ae),z.kept A (l++[t])=z.kept A l++[decide (off A (z.all A l).sp t)]
 |[],t,z=>rfl
 |rg::l,t,z=>dW (_::·)<|ae.Ht l t<|z.feed A rg
structure ae.h1(A:At)(z:ae):Prop where
 sk:Sk.h1 A z.long z.sk
 b:∀p∈z.sp,p.1<A.ns/\p.2<=z.sk.length
 le:z.sp.length<=bnd A z.long
 st:z.st<=(z.long+1)*bnd A z.long
variable{z:ae}
def Sk.h1.up(h:Sk.h1 A a s)(hb:a<=b):Sk.h1 A b s:=⟨h.nd,λe he=>⟨⟨(h.b e he).1.1,a_ (h.b e he).1.2 hb⟩,(h.b e he).2⟩,h.rg⟩
def Hu(h:a<=b):bnd A a<=bnd A b:=gG _<|mK<|gG _ N
def WK:∀(l:C Sp)(x:Rn),x.h1 A a->(∀p∈l,p.1<A.ns/\p.2<=x.sk.length)->(l.foldl Rn.meet x).h1 A a:=by
 intro l
 induction l with
 |nil=>exactλx h _=>h
 |cons p l ih=>exactλx h hb=>ih _ (h.meet (hb p kg).1 (hb p kg).2) λq hq=>by rw[Rn.Cb];exact hb q (by simp[hq])
def WL(ho:A.Ok)(hs:Sk.h1 A a s)(hl:∀p∈l,p.1<A.ns/\p.2<=s.length):(close A a s l).h1 A a:=
 akY ho _ _ _ (WK l ⟨s,[],[],aC⟩ ⟨hs,mD,nofun⟩ hl)
def ae3{t:Int}{q:Sp}(h:q∈zf A l t):∃p∈l,∃e∈A.hx p.1,e.1=1/\((e.2.1:Nat):Int)=t/\q=(e.2.2,p.2):=by
 have key:∀(m o:C Sp),q∈m.foldl (λo p=>if p∈o then o else o++[p]) o->q∈m\/q∈o:=by
  intro m
  induction m with
  |nil=>exactλo h=>.inr h
  |cons p m ih=>
   intro o h;rcases ih _ h with h|h
   .exact .inl (by simp[h])
   .have h:q∈(if p∈o then o else o++[p]):=h;split at h
    .exact .inr h
    .rcases bZ.1 h with h|h
     .exact .inr h
     .rw[aP]at h;exact .inl (by simp[h])
 rcases key _ _ h with h|h
 .have⟨p,hp,h⟩:=uH.1 h;obtain⟨e,he,rfl⟩:=bQ.1 h;have he:=List.mem_filter.1 he;simp at he;exact⟨p,hp,e,he.1,he.2.1,he.2.2,O⟩
 .cases h
def ae.akZ(ho:A.Ok)(hs:Sk.h1 A a s)(hl:∀p∈l,p.1<A.ns/\p.2<=s.length)(hk:k<=a*bnd A a):ae.h1 A (.of (close A a s l) a k):=
 have h:=WL ho hs hl
 ⟨h.sk,h.b,h.le,by
   have:=h.le;show k+_<=(a+1)*bnd A a;rw[kR];omega⟩
def ae.agK(ho:A.Ok):ae.h1 A (ae.new A):=ae.akZ ho ⟨mD,(λe h=>by cases h),λe h=>by cases h⟩ (λp h=>by
 rw[aP]at h;subst h;exact⟨(ho.s 0 ho.pos).1,bA _⟩) (bA _)
def ae.h1.nx(ho:A.Ok)(h:ae.h1 A z)(t:Int):∀p∈zf A z.sp t,p.1<A.ns/\p.2<=z.sk.length:=λq hq=>by
 obtain⟨p,hp,e,he,_,_,rfl⟩:=ae3 hq;exact⟨(ho.e _ (h.b p hp).1 e he).1,(h.b p hp).2⟩
def ae.h1.on(ho:A.Ok)(h:ae.h1 A z)(t:Int):ae.h1 A (z.on A t):=
 ae.akZ ho (h.sk.up<|iU _) (h.nx ho t) (a_ h.st<|gG _<|Hu<|iU _)
def ae.h1.feed(ho:A.Ok)(h:ae.h1 A z)(t:Int):ae.h1 A (z.feed A t):=by
 unfold ae.feed;split
 .exact h.on ho t
 .exact h
end Wk
end Go.Proofs.Lu
namespace Go.Proofs.Lv
open Go.Proofs.Lu Go.Proofs.Lu.Wk
open Go.Ae Go.Ae.cs
variable{T:R}
section
variable{H0 H:R}{L cs:C dL}{S:C Nat}
abbrev pE(p:Sp):Z:=.agg ⟨[B p.1,B p.2]⟩
abbrev u0:Z:=.agg ⟨[]⟩
abbrev vnE(n:Nat):Z:=B n
def acS(a b:Sp):bV (Jq (a.1:Int) b.1) (bV (Jq (a.2:Int) b.2) (D f)<|D aC) (D aC)=D (decide<|a=b):=by
 have⟨a1,a2⟩:=a;have⟨b1,b2⟩:=b;rw[BI,BI]
 by_cases W:a1=b1<;>by_cases J:a2=b2<;>simp[W,J]<;>first|rfl|(rw[dB N];rfl)
def acT(a b:Sp):lC Pg 86 (pE a) (pE b)=D (decide<|a=b):=Eq.trans jr<|acS a b
def agL(a b:Sp):lC Pg 161 (pE a) (pE b)=D (decide<|a=b):=Eq.trans jr<|acS a b
def agM(a b:Sp):lC Pg 163 (pE a) (pE b)=D (decide<|a=b):=Eq.trans jr<|acS a b
def eq3(a b:Nat):lC Pg 3 (vnE a) (vnE b)=D (decide<|a=b):=by
 have:lC Pg 3 (vnE a) (vnE b)=D (Jq (a:Int) b):=by kernel_rfl
 rw[this,BI]
 by_cases h:a=b
 .rw[bL h,bL N]
 .rw[dB h,dB N]
def Dw:uT Pg 151=D (86,133):=by kernel_rfl
def LG:uT Pg 154=D (3,133):=by kernel_rfl
def UR:uT Pg 125=D (161,3):=by kernel_rfl
def US:uT Pg 126=D (163,133):=by kernel_rfl
def DW:xW Pg 133=D u0:=by kernel_rfl
def aim:xW Pg 3=D (vi 0):=by kernel_rfl
def Hw:C Sp->C Z
 |[]=>[]
 |p::l=>B p.1::B p.2::Hw l
def wL:∀l,(Hw l).length=l.length*2
 |[]=>rfl
 |p::l=>by have:=wL l;simp only[Hw,cK];omega
def JM:∀l m,Hw (l++m)=Hw l++Hw m
 |[],m=>rfl
 |p::l,m=>by simp only[bI,Hw,JM l m]
def Cc:∀{l:C Sp}{i:Nat}{p:Sp},l[i]?=D p->El (Hw l) 2 i=[B p.1,B p.2]
 |[],i,p,h=>by simp at h
 |x::l,0,p,h=>by simp at h;subst h;simp[El,Hw]
 |x::l,i+1,p,h=>by
  have:=Cc (l:=l) (i:=i)<|mg h;rw[<-this];unfold El;rw[show(i+1)*2=i*2+2 by omega];rfl
structure M4(H:R)(ms me mn ml:Nat)(x:Rn):Prop where
 s:Cx pE H ms λp=>if p∈x.sp then D u0 else Q
 e:Cx vnE H me λn=>if n∈x.en then D u0 else Q
 n:Cx pE H mn λp=>(R_ x.sk p.1 p.2).map λk=>B<|k+1
 l:Cx pE H ml λp=>if 0<p.1/\p.2∈(tZ x.sk p.1).2.2 then D u0 else Q
variable{x:Rn}{rr rs ms me mn ml mo:Nat}
def M4.ex(h:M4 H ms me mn ml x)(E:oN S H T)(hn:∀m∈[ms,me,mn,ml],m∉S):M4 T ms me mn ml x:=⟨h.s.ex E<|hn _ kg,h.e.ex E<|hn _ kg,h.n.ex E<|hn _ kg,h.l.ex E<|hn _ kg⟩
def M4.rows(h:M4 H ms me mn ml x)(G:F S H0 H L)(E:oN (L.map (·.1)) H T):M4 T ms me mn ml x:=h.ex E λm hm=>by
 simp only[bP,dX,iF]at hm;rcases hm with rfl|rfl|rfl|rfl
 .exact G.Dv h.s
 .exact G.Dv h.e
 .exact G.Dv h.n
 .exact G.Dv h.l
def WS(S:C Nat)(H0 H:R)(rr rs ms me mn ml mo:Nat)(x:Rn):Prop:=∃sv pv uv us gS gP gU az,
 F S H0 H ((rr,156,[sv,.bool x.ok,I Q 0 0,vi 0,.map<|D ms,.map<|D me,B mo])::(rs,128,[pv,uv,.map<|D mn,.map<|D ml])::(gS++(gP++(gU++az))))/\
 GB 86 2 sv (Hw x.sp) gS/\GJ 161 2 pv (vi (-1)::B 0::Hw (x.sk.map λe=>(e.1,e.2.1))) gP/\GJ 22 1 uv us gU/\IB 3 1 ([]::x.sk.map λe=>fF e.2.2) us az/\
 M4 H ms me mn ml x/\[ms,me,mn,ml].Nodup/\∀m∈[ms,me,mn,ml],m∈S\/H0.next<=m
def ak1{p:Sp}(h:WS S H0 H rr rs ms me mn ml mo x)(hl:(x.meet p).sp.length<=mo)(hb:(x.meet p).sp.length<=8000000):aO Pg X 87 [pr rr,pE p] H λv T=>v=.bool f/\WS S H0 T rr rs ms me mn ml mo (x.meet p):=by
 have⟨sv,pv,uv,us,gS,gP,gU,az,h,gs,gp,gu,gR,m,ne,lo⟩:=h;obtain⟨sa,sn,sc,rfl,hsn⟩:=gs.UK;rw[wL]at hsn;refine jS [0,1,3,4,6] ?_;have G:=h.base;refine G.box O λH1 rb G=>?_;have G:F _ H H1 ((rb,86,[B p.1,B p.2])::(rr,156,[I sa sn sc,.bool x.ok,I Q 0 0,vi 0,.map<|D ms,.map<|D me,B mo])::(rs,128,[pv,uv,.map<|D mn,.map<|D ml])::(gS++(gP++(gU++az)))):=G;have n1:=G.nq 0 1 O O N;refine eU ?_;have m1:=m.rows h G.ext;refine Cx.has (e:=pE) (k:=p) (H:=hN H1) m1.s Dw DW acT ?_;refine G.kL ?_;have hlt:=G.lt;refine G.WH λH2 rz G hx2 c1 hrz=>?_;have m2:=m1.ex hx2 nofun;refine G.kL ?_;refine splitK (λK hK=>?_) ?_
 .have n2:rz≠rb:=λe=>by have:=hlt rb kg;omega
  have n3:rz≠rr:=λe=>by have:=hlt rr kg;omega
  simp only[c1,d_,fK,fP<|Ext.refl<|hN _];apply xG (a:=rz) (b:=rb) (c:=rr) n2 n3 n1 xN jr jr hK
 have G:=h.over G;refine aT (λhp=>?_) λhp=>?_
 .have e:x.meet p=x:=if_pos hp;rw[e];refine Lu.rr ?_;exact⟨O,_,_,_,_,_,_,_,_,F.drop (A:=[_]) G,gs,gp,gu,gR,m2,ne,lo⟩
 have e:x.meet p={x with sp:=x.sp++[p]}:=if_neg hp;rw[e]at hl hb|-;dsimp only at hl hb;rw[aQ]at hl hb;simp only[cK,vL]at hl hb;refine eU ?_;refine aT (λhc=>N) λ_=>?_;refine eU ?_;refine PU.of (v:=u0) O<|G.ae4 (e:=pE) (k:=p) (lo _ kg) m2.s Dw acT λH3 m3 G hx3 c3=>?_;have e3:DY H3 (hN H3)=cl 1:=fP<|Ext.refl _;refine splitK (λK hK=>?_) ?_
 .simp only[d_,c3];apply lQ (a:=rb) (b:=rr) n1 xN jr jr hK
 have nn:∀{m},m∈[me,mn,ml]->m∉[ms]:=λ{m} hm h=>(jm.1 ne).1 (by rw[aP.1 h]at hm;exact hm);have m4:M4 (hM (hM H1 H2) H3) ms me mn ml {x with sp:=x.sp++[p]}:=⟨m3.plus λj=>by simp,m2.e.ex hx3<|nn kg,m2.n.ex hx3<|nn kg,m2.l.ex hx3<|nn kg⟩;generalize hM (hM H1 H2) H3=H4 at G m4|-;have h4:=G;have G:=G.base;refine eU ?_;refine gs.LC G O O O (by rw[wL];omega) λq H5 v' H6 gQ gs' G c5 c6 _=>?_;obtain⟨sa',sn',sc',rfl⟩:=gs'.sl;refine G.mh λHn G=>?_;refine splitK (λK hK=>?_) ?_
 .simp only[d_,fK,c5];rcases c6 with e|e<;>rw[e]<;>apply lQ (a:=rb) (b:=rr) n1 xN jr jr hK
 have m5:=m4.rows h4 G.ext;have G:=F.drop (A:=[_])<|h4.over G;refine Lu.rr ?_;exact⟨O,_,_,_,_,_,_,_,_,G,by rw[JM];exact gs',gp,gu,gR,m5,ne,lo⟩
end
end Go.Proofs.Lv
namespace Go.Proofs.Lu.Wk
section
variable{s:Sk}{r a r' a' i n:Nat}{l:C Nat}
def acU(h:R_ s r a=Q):R_ (s++[(r,a,l)]) r' a'=if(r',a')=(r,a)then D s.length else R_ s r' a':=by
 unfold R_ at h|-;rw[List.findIdx?_append]
 by_cases e:(r',a')=(r,a)
 .cases e;rw[h,if_pos O];simp
 .rw[if_neg e]
  have:(r==r'&&a==a')=aC:=by
   rw[<-b_];simp only[bg,lz];exactλg=>e (by rw[g.1,g.2])
  simp[this]
def acV:(tZ (s++[(r,a,[])]) n).2.2=(tZ s n).2.2:=by
 unfold tZ;rw[qU];split
 .rfl
 .next h=>
  rw[fE (qP h)];cases n-1-s.length with
  |zero=>rfl
  |succ k=>rfl
def Hy(h:i<s.length):tZ s (i+1)=s[i]:=by unfold tZ;rw[mW,av h];rfl
def ae5(h:i<s.length)(W:s[i].1=r)(J:s[i].2.1=a):R_ (s.set i (r,a,l)) r' a'=R_ s r' a':=by
 have e:∀t:Sk,R_ t r' a'=(t.map λe=>(e.1,e.2.1)).findIdx? λe=>e.1==r'&&e.2==a':=λt=>by rw[List.findIdx?_map];rfl
 rw[e,e,fZ,show(r,a)=(s.map λe=>(e.1,e.2.1))[i]'(mg h) by rw[mJ,W,J],qz]
def ae6(h:i<s.length)(hn:0<n):(tZ (s.set i (r,a,l)) n).2.2=if n=i+1 then l else(tZ s n).2.2:=by
 unfold tZ;rw[dG]
 by_cases e:n=i+1
 .subst e;rw[if_pos O,if_pos N,if_pos N];rfl
 .rw[if_neg e,if_neg N]
end
end Go.Proofs.Lu.Wk
namespace Go.Proofs.Lv
open Go.Proofs.Lu Go.Proofs.Lu.Wk
open Go.Ae Go.Ae.cs
variable{a c me ml mn mo ms n r rs rw' rg:Nat}{H':C Nat}{H T H0 H1:R}{L cs:C dL}{x hr:Rn}
section
variable{S:C Nat}{rr:Nat}
def WS.stk(h:WS S H0 H rr rs ms me mn ml mo x):∃L pv uv,F S H0 H ((rs,128,[pv,uv,.map<|D mn,.map<|D ml])::L)/\(∃a c,pv=I a (x.sk.length+1) c/\Fl H a (x.sk.length+1) 2 (vi (-1)::B 0::Hw (x.sk.map λe=>(e.1,e.2.1))))/\∃us az a c L',uv=I a (x.sk.length+1) c/\Fl H a (x.sk.length+1) 1 us/\IB 3 1 ([]::x.sk.map λe=>fF e.2.2) us az/\F S H0 H (az++L'):=by
 have⟨sv,pv,uv,us,gS,gP,gU,az,h,gs,gp,gu,gR,m,ne,lo⟩:=h;have W:=F.drop (A:=[_,_]) h;have J:=F.drop W;have h3:=F.drop J;obtain⟨pa,n,pc,rfl,hn,hf⟩:=gp.fl J;obtain⟨ua,k,uc,rfl,hk,hg⟩:=gu.fl h3;have e1:n=x.sk.length+1:=by simp only[cK,wL,aK]at hn;omega
 have e2:k=x.sk.length+1:=by have:=gR.len;simp only[cK,aK]at this;omega
 subst e1 e2;exact⟨_,_,_,F.drop (A:=[_]) h,⟨_,_,O,hf⟩,us,az,_,_,[],O,hg,gR,(F.drop h3).cast (bq _).symm⟩
def HV{a:aB Addr}(hb:H.cell rs 0=D (I a n c)):aO Pg X 29 [pr rs] H (Q0 (λv=>v=B n) H):=by
 refine jS [0,2] ?_;refine PU.of (v:=.bool aC) jr ?_;refine bG ?_;refine ME.ld hb ?_;refine bG ?_;refine Lu.rr ?_;exact⟨O,O⟩
def ak2(h:WS S H0 H rr rs ms me mn ml mo x):aO Pg X 29 [pr rs] H (Q0 (λv=>v=B (x.sk.length+1)) H):=by
 obtain⟨L,pv,uv,G,⟨a,c,rfl,_⟩,_⟩:=h.stk;exact HV<|(G.get 0 O).cell O
def ain(h:WS S H0 H rr rs ms me mn ml mo x)(hn:n<=x.sk.length):aO Pg X 116 [pr rs,B n] H (Q0 (λv=>v=.bool f) H):=by
 obtain⟨L,pv,uv,G,⟨a,c,rfl,_⟩,_⟩:=h.stk;refine jS [0,1,4] ?_;refine PU.of (v:=.bool f) jr ?_;refine G.kL ?_;refine aT (λ_=>?_) λhc=>absurd (jw n) hc;refine eU ?_;refine Lu.rr ?_;exact⟨by rw[bL N],rfl⟩
def amG(h:WS S H0 H rr rs ms me mn ml mo x)(h0:0<n)(hn:n<=x.sk.length):aO Pg X 113 [pr rs,B n] H (Q0 (λv=>v=B (tZ x.sk n).1) H):=by
 refine jS [0,1,4] ?_;refine aO.mono (ain h hn) ?_;rintro _ _ ⟨rfl,rfl⟩;obtain⟨L,pv,uv,G,⟨a,c,rfl,hf⟩,_⟩:=h.stk;refine G.kL ?_;refine gF (λhb=>by cases hb) λ_=>?_;apply G.pz;have⟨r,o,e1,y,hcl,_⟩:=hf.idx (c:=c) N (show n<x.sk.length+1 by omega);refine PU.of e1<|G.kL ?_;obtain⟨k,rfl⟩:∃k,n=k+1:=⟨n-1,N⟩;refine ME.ld (hcl 0 (B (tZ x.sk<|k+1).1) N ?_) ?_
 .have:=Cc (l:=x.sk.map λe=>(e.1,e.2.1)) (i:=k) (p:=((tZ x.sk<|k+1).1,(tZ x.sk<|k+1).2.1)) (by rw[bF,av hn,Hy hn];rfl);have:=dW (λl=>l[0]?) this;rw[show(k+1)*2+0=k*2+2 by omega];simp only[mR]at this;simpa using this
 refine Lu.rr ?_;exact⟨O,O⟩
def amH(h:WS S H0 H rr rs ms me mn ml mo x)(h0:0<n)(hn:n<=x.sk.length)(hb:(tZ x.sk n).2.2.length<=8000000):aO Pg X 114 [pr rs,B n] H (Q1 (λv T=>∃a c,v=.slice a (tZ x.sk n).2.2.length c/\je (H.next<=·) 3 T a (tZ x.sk n).2.2.length 1 (fF (tZ x.sk n).2.2)) H):=by
 refine jS [0,1,4] ?_;refine aO.mono (ain h hn) ?_;rintro _ _ ⟨rfl,rfl⟩;obtain⟨L,pv,uv,G,_,us,az,a,c,L',rfl,hf,hR,hS2⟩:=h.stk;refine G.kL ?_;refine gF (λhb=>by cases hb) λ_=>?_;apply G.pz;have hl:=hR.len;simp only[cK,aK]at hl;have⟨b,m,c2,e,hm,hg⟩:=hR.all hS2 n N;have⟨r,o,e1,y,hcl,_⟩:=hf.idx (c:=c) N (show n<x.sk.length+1 by omega);refine PU.of e1<|ME.ld (hcl 0 us[n] N (by rw[dz,dH];exact av N)) ?_;rw[e];obtain⟨k,rfl⟩:∃k,n=k+1:=⟨n-1,N⟩;have ek:([]::x.sk.map λe=>fF e.2.2)[k+1]?.getD []=fF (tZ x.sk<|k+1).2.2:=by rw[dZ,bF,av hn,Hy hn];rfl
 rw[ek]at hm hg;rw[aK]at hm;obtain rfl:m=(tZ x.sk<|k+1).2.2.length:=N;refine(F.refl G.wf).apG N hg.1 N λv' H1 gb hgb sG E=>?_;obtain⟨va,vn',vc,rfl,hvn,hvf⟩:=hgb.Sj sG;rw[aK]at hvn;obtain rfl:vn'=(tZ x.sk<|k+1).2.2.length:=N;refine Lu.rr ?_;exact⟨⟨_,_,O,hvf⟩,E⟩
end
section
variable{S:C Nat}{rr:Nat}
def acW(s:Sk)(r a:Nat)(l:C Nat):Hw ((s++[(r,a,l)]).map λe=>(e.1,e.2.1))=Hw (s.map λe=>(e.1,e.2.1))++[B r,B a]:=by rw[dA,JM];rfl
theorem agN(h:WS S H0 H rr rs ms me mn ml mo x)(hn:n<x.sk.length)(y:x.sk[n].1=r)(ha:x.sk[n].2.1=a){fd:Bool}{x8 x9 jo iJ kW lH yo:Z}(u:Rs)(hub:(tZ x.sk<|n+1).2.2.length<=8000000){Kp:Z->R->Prop}(k1:rg∈(tZ x.sk<|n+1).2.2->∀T,WS S H0 T rr rs ms me mn ml mo x->Kp (.tuple ⟨[B (n+1),.bool<|!fd,.bool aC,vi 0]⟩) T)(k2:rg∉(tZ x.sk<|n+1).2.2->∀T,WS S H0 T rr rs ms me mn ml mo {x with sk:=x.sk.set n (r,a,(tZ x.sk<|n+1).2.2++[rg])}->Kp (.tuple ⟨[B (n+1),.bool<|!fd,.bool f,vi 0]⟩) T):
 gK Pg X (sub FZ [1,1,1,1,1,1]) (EP (pr rs) (B r) (B a) (B rg) x8 x9 jo iJ kW (B<|n+1) (.bool fd) lH yo u H) (jL Pg [.tmp 8,.tmp 9,.tmp 10,.tmp 11] Kp):=by
 have⟨sv,pv,uv,us,gS,gP,gU,az,h,gs,gp,gu,gR,m,ne,lo⟩:=h;refine tl ?_;have G:=h.base;refine PU.of (v:=.agg ⟨[B (n+1),B rg]⟩) O<|G.ns O O O λH1 rb G _=>?_;have G:F _ H H1 ((rb,163,[B (n+1),B rg])::(rr,156,[sv,.bool x.ok,I Q 0 0,vi 0,.map<|D ms,.map<|D me,B mo])::(rs,128,[pv,uv,.map<|D mn,.map<|D ml])::(gS++(gP++(gU++az)))):=G;have n1:=G.nq 0 2 O O N;refine eU ?_;have m1:=m.rows h G.ext;refine Cx.has (e:=pE) (k:=(n+1,rg)) (H:=hN H1) m1.l US DW agM<|G.kL ?_;have hlt:=G.lt;refine G.WH λH2 rz G hx2 c1 hrz=>?_;have m2:=m1.ex hx2 nofun;refine G.kL ?_;refine splitK (λK hK=>?_) ?_
 .have n2:rz≠rb:=λe=>by have:=hlt rb kg;omega
  have n3:rz≠rs:=λe=>by have:=hlt rs kg;omega
  simp only[c1,d_,fK,fP<|Ext.refl<|hN _];apply xG (a:=rz) (b:=rb) (c:=rs) n2 n3 n1 xN jr jr hK
 have G:=h.over G;refine aT (λhp=>?_) λhp=>?_
 .exact Lu.rr<|k1 hp.2 _ ⟨_,_,_,_,_,_,_,_,F.drop (A:=[_]) G,gs,gp,gu,gR,m2,ne,lo⟩
 have hp:rg∉(tZ x.sk<|n+1).2.2:=λh=>hp ⟨vC n,h⟩;refine eU ?_;refine PU.of (v:=u0) O<|G.ae4 (e:=pE) (k:=(n+1,rg)) (lo _ kg) m2.l US agM λH3 m3 G hx3 c3=>?_;refine splitK (λK hK=>?_) ?_
 .simp only[d_,c3];apply lQ (a:=rb) (b:=rs) n1 xN jr jr hK
 have nn:∀{m},m∈[ms,me,mn]->m∉[ml]:=λ{m} hm h=>(nO.1 (show([ms,me,mn]++[ml]).Nodup from ne)).2.2 m hm m h O
 have m4:M4 (hM (hM H1 H2) H3) ms me mn ml {x with sk:=x.sk.set n (r,a,(tZ x.sk<|n+1).2.2++[rg])}:=⟨m2.s.ex hx3<|nn kg,m2.e.ex hx3<|nn kg,by
  have:=m2.n.ex hx3<|nn kg
  simp only[ae5 hn y ha];exact this,m3.plus λj=>by
   by_cases h0:0<j.1
   .rw[ae6 hn h0]
    by_cases hj:j.1=n+1
    .rw[if_pos hj,hj];simp[yz,hj]
    .rw[if_neg hj];simp[yz,hj]
   .simp[yz,h0];omega⟩
 generalize hM (hM H1 H2) H3=H4 at G m4|-;have hul:us.length=x.sk.length+1:=by rw[<-gR.len];simp
 rcases id gu with(⟨_,e,_⟩|⟨rU,k,eB,rfl,hk,rfl⟩)|⟨_,_,W,_⟩
 rotate_right
 .omega
 .rw[e]at hul;simp at hul
 obtain rfl:k=us.length:=N;obtain⟨A',gb,vn,rfl,hgb,hput⟩:=gR.at (n+1) N;have hks:([]::x.sk.map λe=>fF e.2.2)[n+1]?.getD []=fF (tZ x.sk<|n+1).2.2:=by rw[dZ,bF,av hn,Hy hn];rfl
 rw[hks]at hgb;have G:=G.cast (L':=(rb,163,[B (n+1),B rg])::(rr,156,[sv,.bool x.ok,I Q 0 0,vi 0,.map<|D ms,.map<|D me,B mo])::(rs,128,[pv,I (D ⟨rU,0,Q⟩) us.length<|fJ 1,.map<|D mn,.map<|D ml])::(gS++(gP++((rU,22,us++eB)::(A'++(gb++vn)))))) O;have hv0:(us++eB)[n+1]?=D us[n+1]:=by rw[bM N];exact av N
 have h4:=G;have G:=G.base;refine eU ?_;refine G.Uw (k:=n+1) N hv0<|G.kL ?_;refine hgb.LC G O O O (by rw[aK];omega) λq H5 v' H6 gQ Zf G c5 c6 h5=>?_;obtain⟨va,vl,vc,rfl⟩:=Zf.sl;have h6:=G;refine G.RO (k:=n+1) N (by rw[aQ];omega) (kk:=λH7 G=>?_);have n2:rU≠rs:=h5.neT;refine splitK (λK hK=>?_) ?_
 .have r1:∀{a b:R},mY ⟨2,0,0,0,hM H4 H5,H6⟩ ⟨4,rs,1,1,a,b⟩=f:=h5.rd h6 λv hv=>by
   have hv:v∈[I (D ⟨rU,0,Q⟩) us.length (fJ 1)]:=hv;rw[aP]at hv;subst hv;exact oF _ _ _ λx h=>by cases h;rfl
  have r2:∀{a b:R},mY ⟨2,0,0,0,hM H4 H5,H6⟩ ⟨4,rU,n+1,1,a,b⟩=f:=h5.rd h6 (λv hv=>by
   rw[dY (by rw[aQ];omega),jg,kC,iL N,aP]at hv;subst hv;exact AY gR _<|bB _) (by rw[aQ];omega)
  simp only[c5,d_,fK];generalize n+1=k at r2|-;rcases c6 with e|e<;>rw[e]<;>apply JE (A:=hM H4 H5) (vn:=H6) (a:=rU) (b:=rs) n2 (by rfl) jr jr hK<;>repeat' apply ik
  all_goals first|exact trivial|(intro h;cases h;done)|exactλ_=>⟨rfl,rfl⟩|exactλ_=>r1|exactλ_=>r2
 have m5:=m4.rows h4 G.ext;have G:=(F.drop (A:=[_])<|h4.over G).cast (L':=_::_::(gS++(gP++([(rU,22,us.set (n+1) (I va vl vc)++eB)]++(A'++(gQ++vn)))))) (by rw[lW _ _ N];rfl)
 have e1:(x.sk.set n (r,a,(tZ x.sk<|n+1).2.2++[rg])).map (λe=>(e.1,e.2.1))=x.sk.map λe=>(e.1,e.2.1):=by
  rw[fZ,show(r,a)=(x.sk.map λe=>(e.1,e.2.1))[n]'(mg hn) by rw[mJ,y,ha],qz]
 refine Lu.rr<|k2 hp _ ⟨_,_,_,_,_,_,_,_,G,gs,by dsimp only;rw[e1];exact gp,.inl<|.inr ⟨rU,us.length,eB,O,by rw[bJ];omega,rfl⟩,?_,m5,ne,lo⟩;have:=hput (I va vl vc) _ gQ Zf;dsimp only;rw[fZ,show fF ((tZ x.sk<|n+1).2.2++[rg])=fF (tZ x.sk<|n+1).2.2++[B rg]from dA,<-jy];exact this
def amI(h:WS S H0 H rr rs ms me mn ml mo x)(hu:rg<=x.sk.length)(hk:x.sk.length<=1000000)(hub:∀n,(tZ x.sk n).2.2.length<=8000000):aO Pg X 92 [pr rs,B r,B a,B rg] H λv T=>∃b,v=.tuple ⟨[B (put x.sk r a rg).2.1,.bool b,.bool (put x.sk r a rg).2.2,vi 0]⟩/\WS S H0 T rr rs ms me mn ml mo {x with sk:=(put x.sk r a rg).1}:=by
 refine jS [0,1,2,3,8,9,10,11,12,13,14,15,17] ?_;refine aO.mono (ak2 h) ?_;rintro _ H ⟨rfl,rfl⟩;refine bG ?_;refine aT (λhc=>N) λ_=>?_;refine aT (λhc=>N) λ_=>?_;refine aT (λhc=>N) λ_=>?_;refine aO.mono (ain h hu) ?_;rintro _ H ⟨rfl,rfl⟩;refine bG ?_;refine tl ?_;refine gF (λhb=>by cases hb) λ_=>?_;refine tl ?_;have⟨sv,pv,uv,us,gS,gP,gU,az,h,gs,gp,gu,gR,m,ne,lo⟩:=h;obtain⟨pa,pn,pc,rfl,hpn⟩:=gp.UK;simp only[cK,wL,aK]at hpn;obtain rfl:pn=x.sk.length+1:=N;have G:=h.base;refine PU.of (v:=.agg ⟨[B r,B a]⟩) O<|G.ns O O O λH1 rb G _=>?_;have G:F _ H H1 ((rb,161,[B r,B a])::(rr,156,[sv,.bool x.ok,I Q 0 0,vi 0,.map<|D ms,.map<|D me,B mo])::(rs,128,[I pa (x.sk.length+1) pc,uv,.map<|D mn,.map<|D ml])::(gS++(gP++(gU++az)))):=G;have n1:rb≠rs:=G.neT;refine eU ?_;have m1:=m.rows h G.ext;refine Cx.IU (e:=pE) (k:=(r,a)) (H:=hN H1) m1.n UR aim agL<|eU ?_;cases hf:R_ x.sk r a with
 |some k=>
  refine gF (λhb=>by cases hb) λ_=>?_;have⟨hk1,hk2,hk3,_⟩:=Sa hf;rw[Hy hk1]at hk2 hk3;have e:∀b,put x.sk r a rg=b<->(if rg∈(tZ x.sk<|k+1).2.2 then(x.sk,k+1,aC)else(x.sk.set k (r,a,(tZ x.sk<|k+1).2.2++[rg]),k+1,f))=b:=λb=>by unfold put;rw[hf]
  refine agN (n:=k) (fd:=f) ⟨_,_,_,_,_,_,_,_,F.drop (A:=[_])<|h.over G,gs,gp,gu,gR,m1,ne,lo⟩ hk1 hk2 hk3 _ (hub _) (λhm T hw=>?_) λhm T hw=>?_
  .rw[(e _).2 (if_pos hm)];exact⟨_,O,hw⟩
  .rw[(e _).2 (if_neg hm)];exact⟨_,O,hw⟩
 |none=>
  refine gF (λ_=>?_) (λhb=>by cases hb);refine eU ?_
  with_reducible refine aT (λhc=>N) λ_=>?_
  refine eU ?_;have G:=h.over G;refine G.ae4 (e:=pE) (k:=(r,a)) (lo _ kg) m1.n UR agL λH3 m3 G hx3 c3=>?_;refine splitK (λK hK=>?_) ?_
  .simp only[d_,c3];apply lQ (a:=rb) (b:=rs) n1 xN jr jr hK
  have nn:∀{m},m∈[ms,me,ml]->m∉[mn]:=λ{m} hm h=>by
   rw[aP.1 h]at hm;have:=(jm.1 (jm.1 (jm.1 ne).2).2).1;simp only[jm,bP,dX,iF,not_or]at ne hm this;rcases hm with h|h|h
   .exact ne.1.2.1 h.symm
   .exact ne.2.1.1 h.symm
   .exact this h
  have m4:M4 (hM H1 H3) ms me mn ml {x with sk:=x.sk++[(r,a,[])]}:=⟨m1.s.ex hx3<|nn kg,m1.e.ex hx3<|nn kg,by
   have:(λp:Sp=>(R_ (x.sk++[(r,a,[])]) p.1 p.2).map λk=>B<|k+1)=λj=>if j=(r,a)then D (B<|x.sk.length+1)else(R_ x.sk j.1 j.2).map λk=>B (k+1):=funext λj=>by
    rw[acU hf];split<;>rfl
   dsimp only;rw[this];exact m3,by
   have:=m1.l.ex hx3<|nn kg;dsimp only;simp only[acV];exact this⟩
  generalize hM H1 H3=H4 at G m4|-;have h4:=G;have G:=G.base;refine eU ?_;refine gp.LC G O O O (by simp only[cK,wL,aK];omega) λq H5 v' H6 gP' gp' G c5 c6 _=>?_;obtain⟨qa,qn,qc,rfl⟩:=gp'.sl;refine G.mh λHn G=>?_;refine splitK (λK hK=>?_) ?_
  .simp only[d_,fK,c5];rcases c6 with e|e<;>rw[e]<;>apply lQ (a:=rb) (b:=rs) n1 xN jr jr hK
  apply G.pz;have hul:us.length=x.sk.length+1:=by rw[<-gR.len];simp
  refine gu.I4 G O O O N λq H9 v' gU' gu' G=>?_;obtain⟨ya,yn,yc,rfl⟩:=gu'.sl;refine G.jH λHn G=>?_;have m5:=m4.rows h4 G.ext;have G:=F.drop (A:=[_])<|h4.over G;have hn:x.sk.length<(x.sk++[(r,a,[])]).length:=by simp
  have e:∀b,put x.sk r a rg=b<->(x.sk++[(r,a,[rg])],x.sk.length+1,f)=b:=λb=>by unfold put;rw[hf]
  have e0:(tZ (x.sk++[(r,a,[])])<|x.sk.length+1).2.2=[]:=by rw[Hy hn];simp
  refine agN (x:={x with sk:=x.sk++[(r,a,[])]}) (n:=x.sk.length) (fd:=aC) (a:=a) (r:=r) ⟨_,_,_,_,_,_,_,_,G,gs,by dsimp only;rw[acW];exact .inl gp',.inl gu',?_,m5,ne,lo⟩ hn kg kg _ (by dsimp only;rw[e0];exact bA _) (λhm=>?_) λhm T hw=>?_
  .have:=gR.snoc (GB.nil 3 1);dsimp only;rw[bq]at this;rw[dA];exact this
  .dsimp only at hm;rw[e0]at hm;cases hm
  .dsimp only at hw;rw[(e _).2 O];rw[e0,qy _ _<|ax _,jc]at hw;exact⟨_,O,hw⟩
end
section
variable{S:C Nat}{rr:Nat}{SH:Nat->Prop}{A:At}{q:AV}{ev sv:Z}{sb:C Bool}
def Bh.stay(h:Bh SH H rw' A q ev sv sb)(E:oN S H T)(G:∀r∈S,¬SH r):Bh SH T rw' A q ev sv sb:=
 ⟨⟨h.k.1,aR h.k.2 E.next⟩,h.b.jb<|E.obj _ h.k.2 λy=>G _ y h.k.1,h.a.stay E G,let⟨sa,sc,e,hf⟩:=h.s;⟨sa,sc,e,hf.stay E λr y=>.inl<|G r y⟩,h.l,h.on⟩
def acX(h:Bh SH H rw' A q ev sv sb)(hn:n<A.ns):aO Pg X 60 [pr rw',B n] H (Q0 (λv=>v=.bool f) H):=by
 obtain⟨sa,sc,rfl,hf⟩:=h.s;refine Fh [0,1,4] ?_;refine aT (λ_=>?_) λhc=>absurd (jw n) hc;refine ME.ld (h.b.cell (o:=7) O) ?_;refine bG ?_;refine Lu.rr ?_;exact⟨by rw[bL N],rfl⟩
def LH(h:Bh SH H rw' A q ev sv sb)(ho:A.Ok):aO Pg X 59 [pr rw'] H (Q0 (λv=>v=.bool aC) H):=by
 obtain⟨sa,sc,rfl,hf⟩:=h.s;have h0:=(ho.s 0 ho.pos).1;refine jS [0,2] ?_;refine PU.of (v:=.bool aC) jr ?_;refine bG ?_;refine ME.ld (h.b.cell (o:=7) O) ?_;refine bG ?_;refine Lu.rr ?_;exact⟨by rw[dB N],rfl⟩
def Ext.hN(H:R):Ext H (hN H):=⟨ax _,λ_ _ _=>rfl,λ_ _ h _=>h,λ_=>ax _⟩
def _root_.Go.Ae.oN.trans'{H'':R}(h:oN S H T)(E:Ext T H''):oN S H H'':=h.later E nofun
def WS.ext(h:WS S H0 H rr rs ms me mn ml mo x):oN S H0 H:=let⟨_,_,_,_,_,_,_,_,h,_⟩:=h;h.ext
def WS.wf(h:WS S H0 H rr rs ms me mn ml mo x):Wf H:=let⟨_,_,_,_,_,_,_,_,h,_⟩:=h;h.wf
def WS.call(h:WS S H0 H rr rs ms me mn ml mo x)(E:Ext H T):WS S H0 T rr rs ms me mn ml mo x:=
 let⟨sv,pv,uv,us,gS,gP,gU,az,h,gs,gp,gu,gR,m,ne,lo⟩:=h
 ⟨sv,pv,uv,us,gS,gP,gU,az,h.call E,gs,gp,gu,gR,m.ex E<|nofun,ne,lo⟩
def WS.own(h:WS S H0 H rr rs ms me mn ml mo x):∃H',(∀r∈H',r<H.next/\(r∈S\/H0.next<=r))/\∀T,Ext H T->WS H' T T rr rs ms me mn ml mo x:=by
 have⟨sv,pv,uv,us,gS,gP,gU,az,h,gs,gp,gu,gR,m,ne,lo⟩:=h;refine⟨[ms,me,mn,ml]++_,λr y=>?_,λT E=>⟨sv,pv,uv,us,gS,gP,gU,az,⟨oN.refl _ _,λe he=>(h.bk e he).jb<|E.obj _ (h.lo e he).2 nofun,λe he=>⟨.inl<|cZ _<|bQ.2 ⟨e,he,rfl⟩,aR (h.lo e he).2 E.next⟩,h.ne,E.wf h.wf⟩,gs,gp,gu,gR,m.ex E<|nofun,ne,λm hm=>.inl<|dn _ hm⟩⟩;rcases bZ.1 y with y|y
 .refine⟨?_,lo r y⟩;simp only[bP,dX,iF]at y;rcases y with rfl|rfl|rfl|rfl
  .have⟨_,h,_⟩:=m.s;exact h
  .have⟨_,h,_⟩:=m.e;exact h
  .have⟨_,h,_⟩:=m.n;exact h
  .have⟨_,h,_⟩:=m.l;exact h
 .obtain⟨e,he,rfl⟩:=bQ.1 y;exact⟨(h.lo e he).2,(h.lo e he).1⟩
def _root_.Go.Ae.F.aio{vn:R}(G:F H' vn H L)(hl:∀e∈L,vn.next<=e.1)(hT:∀r∈H',r<vn.next)(E:oN H' H T):F H' vn T L:=
 ⟨G.ext.trans E,λe he=>(G.bk e he).jb (E.obj _ (G.lo e he).2 λh=>by have:=hT _ h;have:=hl e he;omega),λe he=>⟨(G.lo e he).1,aR (G.lo e he).2 E.next⟩,G.ne,E.wf G.wf⟩
def WS.up{H2:R}(E:oN S H0 H1)(hT:∀r∈H',r∈S\/H0.next<=r)(h:WS H' H1 H2 rr rs ms me mn ml mo hr):WS S H0 H2 rr rs ms me mn ml mo hr:=by
 have⟨sv,pv,uv,us,gS,gP,gU,az,h,gs,gp,gu,gR,m,ne,lo⟩:=h;have up:∀r,r∈H'\/H1.next<=r->r∈S\/H0.next<=r:=λr y=>y.elim (hT r) λh=>.inr<|a_ E.next h
 exact⟨sv,pv,uv,us,gS,gP,gU,az,⟨E.later h.ext hT,h.bk,λe he=>⟨up _ (h.lo e he).1,(h.lo e he).2⟩,h.ne,h.wf⟩,gs,gp,gu,gR,m,ne,λm hm=>up m<|lo m hm⟩
def WS.m(hw:Wf H)(h:WS H' (hN H) H1 rr rs ms me mn ml mo hr):WS H' H (hM H H1) rr rs ms me mn ml mo hr:=by
 have⟨sv,pv,uv,us,gS,gP,gU,az,h,gs,gp,gu,gR,m,ne,lo⟩:=h;have E:=h.ext.draw;exact⟨sv,pv,uv,us,gS,gP,gU,az,⟨E,λe he=>(h.bk e he).jb O,h.lo,h.ne,E.wf hw⟩,gs,gp,gu,gR,⟨m.s,m.e,m.n,m.l⟩,ne,lo⟩
structure Lim(A:At)(a mo:Nat):Prop where
 m:bnd A a<=mo
 b:bnd A a<=8000000
 s:A.ns*(a+1)<=1000000
variable{p:Sp}
abbrev fm(r:Nat)(l:C Nat)(hr:Rn):Rn:=l.foldl (λhr rg=>hr.meet (r,rg)) hr
def Pw(h:WS S H0 H rr rs ms me mn ml mo x)(hL:Lim A a mo)(hW:(x.meet p).h1 A a):aO Pg X 87 [pr rr,pE p] H λv T=>v=.bool f/\WS S H0 T rr rs ms me mn ml mo (x.meet p):=ak1 h (a_ hW.le hL.m)<|a_ hW.le hL.b
theorem ak3(hk:Bh SH H0 rw' A q ev sv sb)(hF:∀r∈S,¬SH r)(h:WS S H0 H rr rs ms me mn ml mo x)(hL:Lim A a mo)(hW:x.h1 A a)(hp:p∈x.sp):aO Pg X 88 [pr rw',pr rr,pr rs,pE p] H λv T=>v=.bool f/\WS S H0 T rr rs ms me mn ml mo (x.back p):=by
 have hpb:=hW.b p hp;have⟨sv',pv,uv,us,gS,gP,gU,az,h,gs,gp,gu,gR,m,ne,lo⟩:=h;refine jS [0,1,2,3,7,8,10,11,13,50,51,52] ?_;have G:=h.base;refine G.box O λH1 rb G=>?_;have G:F _ H H1 ((rb,86,[B p.1,B p.2])::(rr,156,[sv',.bool x.ok,I Q 0 0,vi 0,.map<|D ms,.map<|D me,B mo])::(rs,128,[pv,uv,.map<|D mn,.map<|D ml])::(gS++(gP++(gU++az)))):=G;have n1:rb≠rr:=G.neT;refine eU ?_;unfold Rn.back;refine aT (λhc=>?_) λhc=>?_
 .refine G.jH λHn G=>?_;rw[if_pos N];have m1:=m.rows h G.ext;refine Lu.rr ?_;exact⟨O,_,_,_,_,_,_,_,_,F.drop (A:=[_])<|h.over G,gs,gp,gu,gR,⟨m1.s,m1.e,m1.n,m1.l⟩,ne,lo⟩
 rw[if_neg N];refine eU ?_;have m1:=m.rows h G.ext;refine Cx.has (e:=vnE) (k:=p.2) (H:=hN H1) m1.e LG DW eq3<|G.kL ?_;have hlt:=G.lt;refine G.WH λH2 rz G hx2 c1 hrz=>?_;have m2:=m1.ex hx2 nofun;refine G.kL ?_;refine splitK (λK hK=>?_) ?_
 .have n2:rz≠rb:=λe=>by have:=hlt rb kg;omega
  have n3:rz≠rr:=λe=>by have:=hlt rr kg;omega
  simp only[c1,d_,fK,fP<|Ext.refl<|hN _];apply xG (a:=rz) (b:=rb) (c:=rr) n2 n3 n1 xN jr jr hK
 have G:=h.over G;refine aT (λhe=>?_) λhe=>?_
 .rw[if_pos he];refine Lu.rr ?_;exact⟨O,_,_,_,_,_,_,_,_,F.drop (A:=[_]) G,gs,gp,gu,gR,m2,ne,lo⟩
 rw[if_neg he];refine eU ?_;refine PU.of (v:=u0) O<|G.ae4 (e:=vnE) (k:=p.2) (lo _ kg) m2.e LG eq3 λH3 m3 G hx3 c3=>?_;refine splitK (λK hK=>?_) ?_
 .simp only[d_,c3];apply lQ (a:=rb) (b:=rr) n1 xN jr jr hK
 have nn:∀{m},m∈[ms,mn,ml]->m∉[me]:=λ{m} hm h=>by
  rw[aP.1 h]at hm;simp only[jm,bP,dX,iF,not_or]at ne hm;rcases hm with h|h|h
  .exact ne.1.1 h.symm
  .exact ne.2.1.1 h
  .exact ne.2.1.2 h
 have m4:M4 (hM (hM H1 H2) H3) ms me mn ml {x with en:=p.2::x.en}:=⟨m2.s.ex hx3<|nn kg,m3.plus λj=>by simp[or_comm],m2.n.ex hx3<|nn kg,m2.l.ex hx3<|nn kg⟩;generalize hM (hM H1 H2) H3=H4 at G m4|-;apply G.pz;have hw:WS S H0 H4 rr rs ms me mn ml mo {x with en:=p.2::x.en}:=⟨_,_,_,_,_,_,_,_,F.drop (A:=[_]) G,gs,gp,gu,gR,m4,ne,lo⟩;have hp2:p.2<=x.sk.length:=hpb.2
 have hnd:tZ x.sk p.2∈x.sk:=by
  obtain⟨k,hk⟩:∃k,p.2=k+1:=⟨p.2-1,N⟩;rw[hk,Hy N];exact bB _
 have Lm:=hW.sk.few p.2;have hle:=hW.sk.le;have hls:=hL.s;have hnb:=hW.sk.b _ hnd;have hWm:∀j,(fm (tZ x.sk p.2).1 ((tZ x.sk p.2).2.2.take j) {x with en:=p.2::x.en}).h1 A a:=λj=>Rn.h1.meets (ay:=λrg=>((tZ x.sk p.2).1,rg)) _ _ ⟨hW.sk,hW.nd,hW.b⟩ λrg hu=>⟨hnb.1.1,hnb.2 rg<|eX hu⟩;refine aO.mono (amG hw N hp2) ?_;rintro _ H4 ⟨rfl,rfl⟩;refine aO.mono (acX (hk.stay hw.ext hF) hnb.1.1) ?_;rintro _ H4 ⟨rfl,rfl⟩;refine G.kL ?_;refine gF (λhb=>by cases hb) λ_=>?_;apply G.pz;have⟨H',hT,hwT⟩:=hw.own;refine aO.mono (amH hw N hp2 (by dsimp only;omega)) ?_;rintro _ H6 ⟨⟨ua,uc,rfl,hf⟩,E⟩;refine bG ?_;have hw6:=hwT H6 E;have hx6:=hw.ext.trans' E;refine FY 8 13 52 (ai:=λm x8 jI TV T=>∃j:Nat,TV=B j/\j+m=(tZ x.sk p.2).2.2.length/\WS H' H6 T rr rs ms me mn ml mo (fm (tZ x.sk p.2).1 ((tZ x.sk p.2).2.2.take j) {x with en:=p.2::x.en})) ?_ (tZ x.sk p.2).2.2.length ⟨0,O,aY _,hw6⟩;rintro m' x8 jI TV u H7 ⟨j,rfl,hj,hwj⟩;refine kX (λhc=>?_) λhc=>?_
 .rw[cO N]at hwj;refine tl<|Lu.rr ?_;exact⟨O,hwj.up hx6 λr y=>(hT r y).2⟩
 have hjl:j<(tZ x.sk p.2).2.2.length:=N;refine(hf.stay hwj.ext λr y=>.inl<|eO (hT r y).1).ix hjl (Ao hjl) λ_=>?_;rw[getD_in (h:=hjl)];refine PU.of (v:=pE ((tZ x.sk p.2).1,(tZ x.sk p.2).2.2[j])) O ?_;have e:fm (tZ x.sk p.2).1 ((tZ x.sk p.2).2.2.take<|j+1) {x with en:=p.2::x.en}=(fm (tZ x.sk p.2).1 ((tZ x.sk p.2).2.2.take j) {x with en:=p.2::x.en}).meet ((tZ x.sk p.2).1,(tZ x.sk p.2).2.2[j]):=by unfold fm;rw[eH,av hjl,iO];rfl
 have hWj:=hWm<|j+1;rw[e]at hWj;refine aO.mono (Pw hwj hL hWj) ?_;rintro _ H8 ⟨rfl,hw8⟩;refine bG ?_;refine gF (λhb=>by cases hb) λ_=>?_;refine dQ ?_;exact⟨(tZ x.sk p.2).2.2.length-(j+1),N,_,_,_,_,_,O,j+1,og,N,by rw[e];exact hw8⟩
end
end Go.Proofs.Lv
namespace Go.Ae
variable{a j:Nat}{t:aH}{ox oy:bT}{b:Int}{k:fB}
def Y2{P:aU}{a:Int}{j:fB}(h:0<=b):lY P .shl t ox oy (.int k a) (.int j b)=D (.int k<|OO k a b):=by
 show j3 (Op.shift .shl k a j b)=_;unfold Op.shift;rw[if_neg N];rfl
def Y3{P:aU}{a:Int}{j:fB}(h:0<=b):lY P .shr t ox oy (.int k a) (.int j b)=D (.int k<|EI k a b):=by
 show j3 (Op.shift .shr k a j b)=_;unfold Op.shift;rw[if_neg N];rfl
def wrap64(h:a<2^64):IntKind.wrap .u64 (a:Int)=(a:Int):=by
 simp[IntKind.wrap,IntKind.bits,IntKind.signed];omega
def ofInt64(h:a<2^64):(lq 64 (a:Int)).toNat=a:=by
 rw[BitVec.toNat_ofInt];have:((a:Int) %((2^64:Nat):Int))=(a:Int):=Int.emod_eq_of_lt N (by exact_mod_cast h);rw[this];rfl
def amJ{b:Nat}(ha:a<2^64)(hb:b<2^64):bOr .u64 (a:Int) (b:Int)=((a|||b:Nat):Int):=by
 unfold bOr;rw[show(IntKind.u64).bits=64 from O,BitVec.toNat_or,ofInt64 ha,ofInt64 hb];exact wrap64<|Nat.or_lt_two_pow ha hb
def ak4(hj:j<64):OO .u64 1 (j:Int)=((2^j:Nat):Int):=by
 unfold OO;rw[lU,show min j (IntKind.u64).bits=j from iV (by show j<=64;omega),Int.one_mul,show(2:Int)^j=((2^j:Nat):Int) by push_cast;rfl];exact wrap64<|qY mO hj
def ak5(ha:a<2^64)(hj:j<64):decide (aej .u64 (EI .u64 (a:Int) (j:Int)) 1=1)=a.testBit j:=by
 have e:EI .u64 (a:Int) (j:Int)=((a/2^j:Nat):Int):=by
  unfold EI;rw[lU,show min j (IntKind.u64).bits=j from iV (by show j<=64;omega),rD _<|Int.le_of_lt<|Int.pow_pos mO]
  push_cast;rfl
 have hl:a/2^j<2^64:=Nat.lt_of_le_of_lt (Nat.div_le_self _ _) ha;unfold aej;rw[e,show(1:Int)=((1:Nat):Int)from O,show(IntKind.u64).bits=64 from O,BitVec.toNat_and,ofInt64 hl,ofInt64 mO,Nat.and_one_is_mod,wrap64 N];rw[oP];exact decide_eq_decide.2 N
end Go.Ae
namespace Go.Proofs.Lv
open Go.Proofs.Lu Go.Proofs.Lu.Wk
open Go.Ae Go.Ae.cs
variable{F':Nat->Prop}{sb:C Bool}{l o:C Sp}{aa a c fc me ml mn mo n r rs rw' st:Nat}{fa:aB Addr}{L cs gb:C dL}{p:Sp}{A:At}{q:AV}{H T H0:R}{H' ms ts:C Nat}{sv v:Z}{ok:Bool}{t:Int}{e:Ed}{s:Sk}
section
variable{S:C Nat}{SH:Nat->Prop}
abbrev LJ(n:Nat):Z:=.int .u64 (n:Int)
def wd1(h1:C Nat)(t:Nat):C Nat:=h1.set (t/64)<|h1.getD (t/64) 0|||2^(t %64)
def top'(ts:C Nat):Int:=ts.foldl (λ(m:Int)(t:Nat)=>max m (t:Int)) (-1)
def wds(ts:C Nat):C Nat:=ts.foldl wd1<|aX ((top' ts+64)/64).toNat 0
def hasB(h1:C Nat)(t:Nat):Bool:=(h1.getD (t/64) 0).testBit<|t %64
def UT:∀(ts:C Nat)(m:Int),m<=ts.foldl (λ(m:Int)(t:Nat)=>max m (t:Int)) m/\∀t∈ts,(t:Int)<=ts.foldl (λ(m:Int)(t:Nat)=>max m (t:Int)) m
 |[],m=>⟨j4 _,nofun⟩
 |rg::ts,m=>by
  have⟨W,J⟩:=UT ts<|max m rg;refine⟨vv N W,λt ht=>?_⟩;rcases bP.1 ht with rfl|ht
  .exact vv N W
  .exact J t ht
def acY{n:Int}:∀(ts:C Nat)(m:Int),m<n->(∀t∈ts,(t:Int)<n)->ts.foldl (λ(m:Int)(t:Nat)=>max m (t:Int)) m<n
 |[],m,h,_=>h
 |rg::ts,m,h,hb=>acY ts _ (by have:=hb rg kg;show max m (rg:Int)<n;omega) λt ht=>hb t (by simp[ht])
def WR(h1:C Nat)(t:Nat):(wd1 h1 t).length=h1.length:=bJ
theorem aip{h1:C Nat}(h:∀w∈h1,w<2^64)(t:Nat):∀w∈wd1 h1 t,w<2^64:=λw hw=>by
 rcases ig hw with g|rfl
 .exact h w g
 .refine Nat.or_lt_two_pow ?_ (qY mO<|qA _ mO);rw[bD];cases e:h1[t/64]? with
  |none=>exact Nat.two_pow_pos 64
  |some x=>exact h x<|aS e
def acZ{h1:C Nat}{t:Nat}(ht:t/64<h1.length)(rg:Nat):hasB (wd1 h1 t) rg=(hasB h1 rg||decide (rg=t)):=by
 unfold hasB wd1;rw[bD,dG]
 by_cases h:t/64=rg/64
 .rw[if_pos h,if_pos ht,oq,Nat.testBit_or,h,Nat.testBit_two_pow];congr 1;exact decide_eq_decide.2 N
 .rw[if_neg h,dB N,ny,bD]
theorem ac0(ts:C Nat):∀(h1:C Nat),(∀t∈ts,t/64<h1.length)->∀rg,hasB (ts.foldl wd1 h1) rg=(hasB h1 rg||decide (rg∈ts)):=by
 induction ts with
 |nil=>intro h1 _ rg;simp
 |cons t ts ih=>
  intro h1 h rg;rw[nA,ih _ (λs hs=>by rw[WR];exact h s<|by simp[hs]),acZ<|h t kg,Bool.or_assoc];congr 1
  by_cases e:rg=t<;>simp[e]
def ae7(ts:C Nat)(rg:Nat):hasB (wds ts) rg=decide (rg∈ts):=by
 unfold wds
 rw[ac0 ts _ (λt ht=>by
  rw[jl];have:=(UT ts (-1)).2 t ht;unfold top';omega)]
 have:hasB (aX ((top' ts+64)/64).toNat 0) rg=aC:=by
  unfold hasB;rw[bD,kH];split<;>simp
 rw[this,qR]
def Px(SH:Nat->Prop)(H:R)(v:Z)(h1:C Nat):Prop:=∃r,v=I (D ⟨r,0,Q⟩) h1.length h1.length/\SH r/\r<H.next/\Bk H r 105 (h1.map LJ)/\h1.length<=1024/\∀w∈h1,w<2^64
def Px.stay{h1:C Nat}(h:Px SH H v h1)(E:oN S H T)(G:∀r∈S,¬SH r):Px SH T v h1:=let⟨r,W,J,h3,h4,h5⟩:=h;⟨r,W,J,aR h3 E.next,h4.jb<|E.obj r h3 λy=>G r y J,h5⟩
def Gi(z:Int):aO Pg X 67 [vi z] H (Q0 (λv=>v=.bool (decide<|0<=z/\z<65536)) H):=by
 refine ce [0,2] ?_;refine q_ (λh=>?_) λh=>?_
 .refine rr ?_;exact⟨by simp[h],rfl⟩
 .refine rr ?_;exact⟨by simp[h],rfl⟩
def ak6(z:Int):aO Pg X 50 [I Q 0 0,vi z] H (Q0 (λv=>v=.bool aC) H):=by
 refine jS [0,1,4] ?_;refine aO.mono (Gi z) ?_;rintro _ _ ⟨rfl,rfl⟩;refine rV (λh=>?_) λh=>?_
 .refine PU.of (FT N N N) ?_;refine bG ?_;refine aT (λh=>N) λ_=>?_;refine rr ?_;exact⟨O,O⟩
 .refine rr ?_;exact⟨O,O⟩
def Y4{h1:C Nat}(hv:Px SH H v h1)(z:Int):aO Pg X 50 [v,vi z] H (Q0 (λv=>v=.bool (decide (0<=z/\z<65536)&&hasB h1 z.toNat)) H):=by
 obtain⟨r,rfl,_,y,hb,hl,hw⟩:=hv;refine jS [0,1,4] ?_;refine aO.mono (Gi z) ?_;rintro _ _ ⟨rfl,rfl⟩;refine Mo (λh=>?_) λh=>?_
 .refine rr ?_;exact⟨by simp only[dB h];rfl,rfl⟩
 obtain⟨t,rfl⟩:∃t:Nat,z=t:=⟨z.toNat,N⟩;refine PU.of (Pq 64 O mO N) ?_;refine rV (λJ=>?_) λJ=>?_
 .refine PU.of (Pq 64 O mO N)<|PU.of (tX N)<|ME.ld (v:=LJ h1[t/64]) (hb.cell (by rw[aY,dz];exact jR _<|av N)) ?_;refine PU.of (qF 64 O mO N) ?_;refine PU.of (Y3<|jw _) ?_;refine bG ?_;refine rr ?_;refine⟨?_,O⟩;rw[ak5 (hw _<|bB _) (qA _ mO),bL h,qT];unfold hasB;rw[lU,bD,av (show t/64<h1.length by omega)];rfl
 .refine rr ?_;refine⟨?_,O⟩;unfold hasB;rw[lU,bD,fE N];simp
def ac1(hw:Wf H){a:aB Addr}(hf:je SH 3 H a ts.length 1<|fF ts)(ht:∀t∈ts,t<65536)(hn:ts.length<=16777216):aO Pg X 37 [I a ts.length c] H (Q1 (λv T=>Px (H.next<=·) T v<|wds ts) H):=by
 refine Fh [0,2,3,5,6,8,9,10,11,25,26,27] ?_;have hlt:=acY (n:=65536) ts (-1) N λt h=>by have:=ht t h;omega
 have hge:=UT ts (-1);refine FY 3 5 11 (ai:=λm x3 x5 iJ T=>∃j:Nat,iJ=B j/\j+m=ts.length/\T=H/\x3=vi ((ts.take j).foldl (λ(m:Int)(t:Nat)=>max m (t:Int)) (-1))) ?_ ts.length ⟨0,rfl,aY _,rfl,rfl⟩;rintro m x3 x5 iJ u H1 ⟨j,rfl,hj,rfl,rfl⟩;refine q_ (λhc=>?_) λhc=>?_
 .have hjl:j<ts.length:=N;refine hf.ix hjl (Ao hjl) λ_=>?_;rw[getD_in (h:=hjl)];refine aO.mono (Gi _) ?_;rintro _ _ ⟨rfl,rfl⟩;have:=ht _<|bB hjl;rw[bL ⟨jw _,N⟩];refine bG ?_;refine dQ ?_;exact⟨ts.length-(j+1),N,_,_,_,_,_,O,j+1,og,N,O,by rw[eH,av hjl,iO];rfl⟩
 rw[cO N];obtain⟨n,hn⟩:∃n:Nat,(top' ts+64)/64=n:=⟨((top' ts+64)/64).toNat,by unfold top';omega⟩;have G:=F.refl hw;have htop:top' ts=ts.foldl (λ(m:Int)(t:Nat)=>max m (t:Int)) (-1):=rfl;refine tl ?_;refine dQ ?_;refine PU.of (FT N N N) ?_;rw[<-htop,hn];refine G.mkS (ax _) N λH2 r G=>?_;rw[mZ]at G;refine bG ?_;refine lp2 8 27 (ai:=λm x8 x27 T=>∃(j:Nat)(h1:C Nat),x27=B j/\j+m=ts.length/\h1=(ts.take j).foldl wd1 (aX n 0)/\h1.length=n/\(∀w∈h1,w<2^64)/\F [] H1 T [(r,105,h1.map LJ)]) ?_ ts.length ⟨0,aX n 0,rfl,aY _,rfl,jl ..,λw h=>by rw[oJ h];exact Nat.two_pow_pos 64,by rw[show(aX n 0).map LJ=aX n (.int .u64 0)from ku];exact G⟩;clear G;rintro m x8 x27 rg2 H3 ⟨i,h1,rfl,hi,hW,hl,hw,G⟩;refine kX (λhc=>?_) λhc=>?_
 .rw[cO N]at hW;have e:wds ts=h1:=by unfold wds;rw[hn,hW];rfl
  refine tl ?_;refine rr ?_;exact⟨⟨r,by rw[e,hl],G.wQ<|aN ..,(G.lo _<|aN ..).2,by rw[e];exact G.get 0 O,by rw[e,hl];omega,by rw[e];exact hw⟩,G.ext⟩
 have hil:i<ts.length:=N;refine(hf.ex G.ext).ix hil (Ao hil) λ_=>?_;rw[getD_in (h:=hil)];refine aO.mono (Gi _) ?_;rintro _ H3 ⟨rfl,rfl⟩;have h65:=ht _<|bB hil;have htt:=hge.2 _<|bB hil;have e1:(ts.take<|i+1).foldl wd1 (aX n 0)=wd1 h1 ts[i]:=by rw[eH,av hil,iO,<-hW];rfl
 have hlt:=aip hw ts[i];generalize ts[i]=t at h65 htt e1 hlt|-;have h64:t/64<n:=N;have ev:h1[t/64]?=D (h1.getD (t/64) 0):=by rw[bD,av N];rfl
 rw[bL ⟨jw _,N⟩];refine bG ?_;refine PU.of (Pq 64 O mO N)<|G.Uw (k:=t/64) h64 (jR _ ev)<|PU.of (qF 64 O mO N)<|PU.of (Y2<|jw _) ?_;rw[ak4 (qA _ mO)];have hgl:h1.getD (t/64) 0<2^64:=hw _<|aS ev;refine G.kL ?_;rw[amJ hgl (qY mO<|qA _ mO)];refine G.RO (k:=t/64) h64 (by rw[aK];omega) (kk:=λH4 G=>?_);refine splitK (λK hK=>?_) ?_
 .simp only[d_,fK];generalize t/64=k;apply EL (a:=r) xN jr jr hK
 refine dQ ?_;exact⟨ts.length-(i+1),N,_,_,_,_,O,i+1,wd1 h1 t,og,N,e1.symm,by rw[WR];exact hl,hlt,by rw[show(wd1 h1 t).map LJ=(h1.map LJ).set (t/64) (LJ<|h1.getD (t/64) 0|||2^(t %64))from fZ];exact G⟩
def trm(h1:C Nat):Nat->Nat
 |0=>0
 |m+1=>if h1.getD m 0=0 then trm h1 m else m+1
def ac2(h1:C Nat):∀m,trm h1 m<=m
 |0=>ax _
 |m+1=>by
  unfold trm;split
  .exact lX<|ac2 h1 m
  .exact ax _
def ae8{m:Nat}(h:m<=n)(hn:n<=1000000):XY 1 (I (D ⟨r,0,Q⟩) n n) Q (D<|B m) Q=D (I (D ⟨r,0,Q⟩) m n):=by
 show bV (gH n) (gd (aD 0 m&&aD m n&&aD n n&&f)<|D<|I (D ⟨r,uB n 0 0 1,Q⟩) (dJ m 0)<|dJ n 0) _=_;have ho:uB n 0 0 1=0:=by unfold uB;cases aA n 0<;>rfl
 rw[show gH n=f from aI N,oz,aI<|bA _,aI h,aI<|ax _,ho];rfl
def NZ{h1:C Nat}(y:r<H.next)(hb:Bk H r 105<|h1.map LJ)(hl:h1.length<=1024):aO Pg X 49 [I (D ⟨r,0,Q⟩) h1.length h1.length] H (Q0 (λv=>v=I (D ⟨r,0,Q⟩) (trm h1 h1.length) h1.length) H):=by
 refine Fh [0,2,3] ?_;rw[show min (h1.length:Int) 1024=(h1.length:Int) by omega];refine Yb 3 (ai:=λm x3 T=>x3=B m/\T=H/\trm h1 m=trm h1 h1.length/\m<=h1.length) ?_ h1.length ⟨rfl,rfl,rfl,ax _⟩;rintro m x3 u H1 ⟨rfl,rfl,ht,hm⟩
 have fin:∀k,k<=h1.length->k=trm h1 h1.length->∀{u},gK Pg X (sub Jd [1,1,1]) (G5 (I (D ⟨r,0,Q⟩) h1.length h1.length) (I Q 0 0) (B k) u H1) (jL Pg [.tmp 2]<|Q0 (λv=>v=I (D ⟨r,0,Q⟩) (trm h1 h1.length) h1.length) H1):=λk hk e u=>by
  refine tl ?_;refine PU.of (ae8 hk N) ?_;refine rr ?_;exact⟨by rw[e],rfl⟩
 refine kX (λhc=>?_) λhc=>?_
 .obtain rfl:m=0:=N;exact fin 0 (bA _) ht
 obtain⟨k,rfl⟩:∃k,m=k+1:=⟨m-1,N⟩;refine qL ?_;rw[show(((k+1:Nat):Int)-1)=(k:Int) by omega];refine PU.of (tX N) ?_;have ev:h1[k]?=D (h1.getD k 0):=by rw[bD,av N];rfl
 refine ME.ld (v:=LJ<|h1.getD k 0) (hb.cell (by rw[aY,dz];exact jR _ ev)) ?_;refine rV (λh0=>?_) λh0=>?_
 .refine qL ?_;rw[show(((k+1:Nat):Int)-1)=(k:Int) by omega];exact⟨k,N,_,_,_,O,O,O,by rw[<-ht];exact(if_pos N).symm,N⟩
 .exact fin (k+1) hm (by rw[<-ht];exact(if_neg N).symm)
def UU{v':Z}{h1:C Nat}(h:Px SH H v h1)(h':Px F' H v' h1):aO Pg X 15 [v,v'] H (Q0 (λv=>v=.bool f) H):=by
 obtain⟨r,rfl,_,y,hb,hl,hw⟩:=h;obtain⟨r',rfl,_,hr',hb',_⟩:=h';have ht:=ac2 h1 h1.length;refine jS [0,1,4,5,6,7,8,18,19,20] ?_;refine aO.mono (NZ y hb hl) ?_;rintro _ _ ⟨rfl,rfl⟩;refine aO.mono (NZ hr' hb' hl) ?_;rintro _ H ⟨rfl,rfl⟩;refine bG ?_;refine dN (λh=>absurd trivial h) λ_=>?_;refine NG 4 7 8 20 (ai:=λm x4 x7 x8 x20 T=>∃j:Nat,x20=B j/\j+m=trm h1 h1.length/\T=H) ?_ (trm h1 h1.length) ⟨0,rfl,aY _,rfl⟩;rintro m x4 x7 x8 x20 u H1 ⟨j,rfl,hj,rfl⟩;refine kX (λhc=>?_) λhc=>?_
 .refine tl ?_;refine rr ?_;exact⟨O,O⟩
 have ev:h1[j]?=D (h1.getD j 0):=by rw[bD,av N];rfl
 refine PU.of (tX N) ?_;refine ME.ld (v:=LJ<|h1.getD j 0) (hb.cell (by rw[aY,dz];exact jR _ ev)) ?_;refine PU.of (tX N) ?_;refine ME.ld (v:=LJ<|h1.getD j 0) (hb'.cell (by rw[aY,dz];exact jR _ ev)) ?_;refine bG ?_;refine dN (λh=>absurd trivial h) λ_=>?_;refine dQ ?_;exact⟨trm h1 h1.length-(j+1),N,_,_,_,_,_,_,O,j+1,og,N,O⟩
end
section
open Go.Proofs.Lu Go.Proofs.Lu.Wk
open Go.Ae Go.Ae.cs
variable{S:C Nat}{x:Rn}{rr ms:Nat}{SH:Nat->Prop}{ev:Z}
theorem aiq(ho:A.Ok)(hk:Bh SH H0 rw' A q ev sv sb)(hF:∀r,SH r->r<H0.next/\r∉S)(h:WS S H0 H rr rs ms me mn ml mo x)(hL:Lim A a mo)(hW:x.h1 A a)(hp:p.1<A.ns/\p.2<=x.sk.length)(he:e∈A.hx p.1):
 aO Pg X 89 [pr rw',pr rr,pr rs,pE p,.agg ⟨[B e.1,B e.2.1,B e.2.2]⟩,B a,I Q 0 0] H λv T=>v=vi 0/\WS S H0 T rr rs ms me mn ml mo (x.along A a p e):=by
 have⟨hw2,hk2⟩:=hW.along ho hp he;have hoe:=ho.e _ hp.1 e he;have⟨H',hT,hwT⟩:=h.own;have hFT:∀r∈H',¬SH r:=λr y h=>((hT r y).2.elim (hF r h).2 λg=>absurd (hF r h).1<|eP g);have hkn:=hk.stay h.ext λr y h=>(hF r h).2 y;refine jS [0,1,2,3,4,5,6,10,11,14,15,16,18,19,21] ?_;have G:=F.refl h.wf;refine G.box O λH1 rb G=>?_;refine G.box O λH2 re G=>?_;have G:F [] H H2 [(re,121,[B e.1,B e.2.1,B e.2.2]),(rb,86,[B p.1,B p.2])]:=G;refine eU ?_;refine G.ns O O O λH3 rz G hx3=>?_;have G:F [] H H3 [(rz,86,[B e.2.2,B p.2]),(re,121,[B e.1,B e.2.1,B e.2.2]),(rb,86,[B p.1,B p.2])]:=G;have hw3:=hwT H3 G.ext;have hx3:=G.ext;have hk3:=hkn.stay G.ext nofun;have up:∀{T hr},WS H' H3 T rr rs ms me mn ml mo hr->WS S H0 T rr rs ms me mn ml mo hr:=λhw=>hw.up (h.ext.trans' hx3) λr y=>(hT r y).2;have bx:∀{T},oN H' H3 T->F H' H T [(rz,86,[B e.2.2,B p.2]),(re,121,[B e.1,B e.2.1,B e.2.2]),(rb,86,[B p.1,B p.2])]:=λE=>(G.weaken nofun).aio (λe he=>G.wQ he) (λr y=>(hT r y).1) E
 have last:∀{hr:Rn}{T}{pG wN uC xJ u},WS H' H3 T rr rs ms me mn ml mo hr->(hr.meet (e.2.2,p.2)).h1 A a->hr.meet (e.2.2,p.2)=x.along A a p e->gK Pg X (sub Da [1,1,1,1]) (Cu (pr rw') (pr rr) (pr rs) (pE p) (.agg ⟨[B e.1,B e.2.1,B e.2.2]⟩) (B a) (I Q 0 0) (pr rb) (pr re) (vi 0) (pr rz) pG wN uC xJ u T) (jL Pg [.tmp 14] λv T=>v=vi 0/\WS S H0 T rr rs ms me mn ml mo (x.along A a p e)):=λ{hr T}{pG wN uC xJ u} hw hy ey=>by
  have G:=bx hw.ext;refine tl ?_;apply G.iI;refine aO.mono (Pw (p:=(e.2.2,p.2)) hw hL hy) ?_;rintro _ H4 ⟨rfl,hw⟩;refine bG ?_;refine gF (λh=>by cases h) λ_=>?_;refine Lu.rr ?_;exact⟨O,ey▸up hw⟩
 refine wS (λW=>?_) λW=>?_
 .have e1:x.along A a p e=x:=if_pos N;rw[e1];refine Lu.rr ?_;exact⟨O,up hw3⟩
 refine X7 (λJ=>?_) λJ=>?_
 .have e1:x.along A a p e=x.meet (e.2.2,p.2):=by unfold Rn.along;rw[if_neg N,if_neg N]
  refine tm ?_;refine aT (λh=>absurd h J) λ_=>?_;exact last hw3 (hW.meet hoe.1 hp.2) e1.symm
 have hca:e.2.1<A.nr:=ho.call he N;have hst:=(ho.s _ hca).1;have⟨w1,w2,w3⟩:=agJ hW.sk (r:=e.2.2) hoe.1 hp.2;have e1:x.along A a p e=({x with sk:=(put x.sk e.2.2 a p.2).1}.meet (A.S e.2.1,(put x.sk e.2.2 a p.2).2.1):Rn).hop (put x.sk e.2.2 a p.2).2 (e.2.2,p.2):=by unfold Rn.along;rw[if_neg N,if_pos N]
 have hy:({x with sk:=(put x.sk e.2.2 a p.2).1}.meet (A.S e.2.1,(put x.sk e.2.2 a p.2).2.1):Rn).h1 A a:=Rn.h1.meet ⟨w1,hW.nd,λq hq=>⟨(hW.b q hq).1,a_ (hW.b q hq).2 w3⟩⟩ hst w2;have hye:({x with sk:=(put x.sk e.2.2 a p.2).1}.meet (A.S e.2.1,(put x.sk e.2.2 a p.2).2.1):Rn).en=x.en:=by unfold Rn.meet;split<;>rfl
 have hyk:({x with sk:=(put x.sk e.2.2 a p.2).1}.meet (A.S e.2.1,(put x.sk e.2.2 a p.2).2.1):Rn).sk=(put x.sk e.2.2 a p.2).1:=Rn.Cb;have hle:=hW.sk.le;have hls:=hL.s;refine G.pz<|aO.mono (ak6 _) ?_;rintro _ H4 ⟨rfl,rfl⟩;refine tm ?_;refine aT (λ_=>?_) λh=>absurd J h;refine eU ?_;refine aO.mono (amI hw3 hp.2 N λn=>by have:=hW.sk.few n;omega) ?_;rintro _ H4 ⟨bn,rfl,hw4⟩;generalize hpt:put x.sk e.2.2 a p.2=pt' at*;have⟨s',n,fr⟩:=pt';dsimp only at*;have G:=bx hw4.ext;refine bG ?_;refine dN (λh=>absurd trivial h) λ_=>?_;have hk4:=hk3.stay hw4.ext hFT;refine ME.ld (H:=hN H4) (hk4.b.cell (o:=1) O) ?_;refine eU ?_;refine hk4.a.aeJ ho hca λr o=>?_;refine eU ?_;have⟨T2,hT2,ae9⟩:=hw4.own;refine aO.mono (Pw (p:=(A.S e.2.1,n)) (ae9 _<|Ext.hN H4) hL hy) ?_;rintro _ H5 ⟨rfl,hw5⟩;replace hw5:=(hw5.m hw4.wf).up hw4.ext λr y=>(hT2 r y).2;refine bG ?_;refine splitK (λK hK=>?_) ?_
 .simp only[d_];rcases vQ H4 H5 with e|e<;>rw[e]<;>exact UW jr jr hK
 generalize({x with sk:=s'}.meet (A.S e.2.1,n):Rn)=hr at*;generalize hM H4 H5=H6 at hw5|-;have⟨_,_,_,_,_,_,_,_,G,_,_,_,_,m,_⟩:=id hw5;refine gF (λh=>by cases h) λ_=>?_;refine G.pz<|Cx.has (e:=vnE) (k:=n) m.e LG DW eq3<|G.kL ?_;refine G.ns O O O λH7 ru G hx7=>?_;have hw7:=hw5.call hx7;have hpp:p.2<=hr.sk.length:=by rw[hyk];omega
 refine dN (λhn=>?_) λhn=>?_
 .rw[e1];have e2:hr.hop (n,fr) (e.2.2,p.2)=hr:=if_neg λh=>hn h.1;rw[e2];refine Lu.rr ?_;exact⟨O,up hw7⟩
 cases fr with
 |false=>
  refine gF (λ_=>?_) (λh=>by cases h);rw[e1];have e2:hr.hop (n,aC) (e.2.2,p.2)=hr:=if_neg λh=>by cases h.2
  rw[e2];refine Lu.rr ?_;exact⟨O,up hw7⟩
 |true=>
  refine gF (λh=>by cases h) λ_=>?_;exact last hw7 (hy.meet hoe.1 hpp) (by rw[e1];exact(if_pos ⟨hn,O⟩).symm)
end
section
open Go.Proofs.Lu Go.Proofs.Lu.Wk
open Go.Ae Go.Ae.cs
variable{S:C Nat}{x:Rn}{rr ms:Nat}{SH:Nat->Prop}{ev:Z}
def UX(H':C Nat)(H:R)(rs:Nat)(s:Sk):Prop:=∃mn ml pv uv us gP gU az,F H' H H ((rs,128,[pv,uv,.map<|D mn,.map<|D ml])::(gP++(gU++az)))/\
 GJ 161 2 pv (vi (-1)::B 0::Hw (s.map λe=>(e.1,e.2.1))) gP/\GJ 22 1 uv us gU/\IB 3 1 ([]::s.map λe=>fF e.2.2) us az/\
 Cx pE H mn (λp=>(R_ s p.1 p.2).map λk=>B<|k+1)/\Cx pE H ml (λp=>if 0<p.1/\p.2∈(tZ s p.1).2.2 then D u0 else Q)/\mn≠ml/\mn∈H'/\ml∈H'
def UX.stay(h:UX H' H rs s)(E:oN S H T)(G:∀r∈S,r∉H'):UX H' T rs s:=by
 have⟨mn,ml,pv,uv,us,gP,gU,az,h,gp,gu,gR,m,l,ne,hm,hl⟩:=h;have hlo:∀e∈(rs,128,[pv,uv,.map<|D mn,.map<|D ml])::(gP++(gU++az)),e.1∈H':=λe he=>(h.lo e he).1.resolve_right<|eO (h.lo e he).2;exact⟨mn,ml,pv,uv,us,gP,gU,az,⟨oN.refl _ _,λe he=>(h.bk e he).jb<|E.obj _ (h.lo e he).2 λy=>G _ y<|hlo e he,λe he=>⟨.inl<|hlo e he,aR (h.lo e he).2 E.next⟩,h.ne,E.wf h.wf⟩,gp,gu,gR,m.ex E λy=>G _ y hm,l.ex E λy=>G _ y hl,ne,hm,hl⟩
def WS.done(h:WS S H0 H rr rs ms me mn ml mo x):∃H' sa sc,UX H' H rs x.sk/\(∀r∈H',r<H.next/\(r∈S\/H0.next<=r))/\Bk H rr 156 [I sa x.sp.length sc,.bool x.ok,I Q 0 0,vi 0,.map<|D ms,.map<|D me,B mo]/\rr∉H'/\je (·∉H') 86 H sa x.sp.length 2 (Hw x.sp):=by
 have⟨sv,pv,uv,us,gS,gP,gU,az,h,gs,gp,gu,gR,m,ne,lo⟩:=h;obtain⟨sa,sn,sc,rfl,hsn⟩:=gs.UK;rw[wL]at hsn;obtain rfl:sn=x.sp.length:=N;have hp:=h.perm (L':=gS++((rr,156,[I sa x.sp.length sc,.bool x.ok,I Q 0 0,vi 0,.map<|D ms,.map<|D me,B mo])::(rs,128,[pv,uv,.map<|D mn,.map<|D ml])::(gP++(gU++az))))<|iG [_,_] gS _;have y:=F.drop hp;have hq:=F.drop (A:=[_]) y
 have hlm:∀{m},m∈[mn,ml]->m<H.next/\(m∈S\/H0.next<=m)/\∀{S':C Nat}{vn L},F S' vn H L->m∉L.map (·.1):=λ{m'} hm=>by
  simp only[bP,dX,iF]at hm;rcases hm with rfl|rfl
  .have⟨_,hl,_⟩:=id m.n;exact⟨hl,lo _ kg,λG=>G.Dv m.n⟩
  .have⟨_,hl,_⟩:=id m.l;exact⟨hl,lo _ kg,λG=>G.Dv m.l⟩
 refine⟨[mn,ml]++((rs,128,[pv,uv,.map<|D mn,.map<|D ml])::(gP++(gU++az)):C dL).map (·.1),sa,sc,⟨mn,ml,pv,uv,us,gP,gU,az,⟨oN.refl _ _,hq.bk,λe he=>⟨.inl<|cZ _<|bQ.2 ⟨e,he,rfl⟩,(hq.lo e he).2⟩,hq.ne,hq.wf⟩,gp,gu,gR,m.n,m.l,λe=>?_,by simp,by simp⟩,λr hr'=>?_,h.get 0 O,λhm=>?_,?_⟩
 .have:=(jm.1 (jm.1 (jm.1 ne).2).2).1;exact this (by simp[e])
 .rcases bZ.1 hr' with hm|hm
  .exact⟨(hlm hm).1,(hlm hm).2.1⟩
  .obtain⟨e,he,rfl⟩:=bQ.1 hm;exact⟨(hq.lo e he).2,(hq.lo e he).1⟩
 .rcases bZ.1 hm with hm|hm
  .exact(hlm hm).2.2 h<|aN ..
  .have⟨e,he,e2⟩:=bQ.1 hm;exact(List.pairwise_cons.1 y.ne).1 e he e2.symm
 .have⟨a,n,c,e,hn,hf⟩:=gs.IA (SH:=(·∉[mn,ml]++((rs,128,[pv,uv,.map<|D mn,.map<|D ml])::(gP++(gU++az)):C dL).map (·.1))) hp λe he hm=>by
   rcases bZ.1 hm with hm|hm
   .exact(hlm hm).2.2 hp<|bQ.2 ⟨e,dn _ he,O⟩
   .have⟨e',he',e2⟩:=bQ.1 hm;exact F.apart hp he (bH _ he') e2.symm
  cases e;exact hf
def WS.ak7(h:WS S H0 H rr rs ms me mn ml mo x):∃sa sc,H.cell rr 0=D (I sa x.sp.length sc)/\je (λ_=>True) 86 H sa x.sp.length 2 (Hw x.sp):=let⟨_,sa,sc,_,_,y,_,hf⟩:=h.done;⟨sa,sc,y.cell (o:=0) O,hf.wk λ_ _=>trivial⟩
def _root_.Go.Ae.F.plus{A:C dL}(hA:F [] H T A)(hB:F H' H H L):F H' H T (A++L):=by
 refine⟨hA.ext.weaken (λr h=>by cases h),λe he=>?_,λe he=>?_,lV.2 ⟨hA.ne,hB.ne,λx E hr hy e=>?_⟩,hA.wf⟩
 .rcases bZ.1 he with h|h
  .exact hA.bk e h
  .exact(hB.bk e h).jb<|hA.ext.obj _ (hB.lo e h).2 nofun
 .rcases bZ.1 he with h|h
  .exact⟨.inr<|hA.wQ h,(hA.lo e h).2⟩
  .exact⟨(hB.lo e h).1,aR (hB.lo e h).2 hA.ext.next⟩
 .have:=hA.wQ E;have:=(hB.lo hr hy).2;omega
def _root_.Go.Ae.F.reb{vn:R}(hq:F H' H H L)(E:Ext H vn):F H' vn vn L:=⟨oN.refl _ _,λe he=>(hq.bk e he).jb<|E.obj _ (hq.lo e he).2 nofun,λe he=>⟨.inl<|(hq.lo e he).1.resolve_right<|eO (hq.lo e he).2,aR (hq.lo e he).2 E.next⟩,hq.ne,E.wf hq.wf⟩
theorem ac5(ho:A.Ok)(hk:Bh SH H rw' A q ev sv sb)(hF:∀r,SH r->r<H.next/\r∉H')(hs:UX H' H rs s)(hT:∀r∈H',r<H.next)(hf:je F' 86 H fa l.length 2<|Hw l)(hF':∀r∈H',¬F' r)(hl:∀p∈l,p.1<A.ns/\p.2<=s.length)(hsW:Sk.h1 A a s)(hL:Lim A a mo)(hll:l.length<=8000000):
 aO Pg X 57 [pr rw',pr rs,I fa l.length fc,B a,I Q 0 0,B mo] H λv T=>∃sa sc T',v=.tuple ⟨[.agg ⟨[.slice sa (close A a s l).sp.length sc,.bool (close A a s l).ok,I Q 0 0,B (close A a s l).sp.length]⟩,vi 0]⟩/\
  UX T' T rs (close A a s l).sk/\(∀r∈T',r<T.next/\(r∈H'\/H.next<=r))/\oN H' H T/\je (·∉T') 86 T sa (close A a s l).sp.length 2 (Hw (close A a s l).sp):=by
 have⟨mn,ml,pv,uv,us,gP,gU,az,hq,gp,gu,gR,mN,mL,hne,hmn,hml⟩:=hs;obtain⟨pa,pn,pc,rfl,hpn⟩:=gp.UK;simp only[cK,wL,aK]at hpn;obtain rfl:pn=s.length+1:=N;have hcell:∀{T},Ext H T->T.cell rs 0=D (I pa (s.length+1) pc):=λE=>(kr (E.obj _ (hq.lo _<|aN ..).2 nofun) 0).trans<|(hq.get 0 O).cell O;have hFS:∀r∈H',¬SH r:=λr y h=>(hF r h).2 y;refine jS [0,1,2,3,4,5,12,13,15,16,18,19,20,21,23,32,33,34,65,66,67,119,120,121] ?_;have G:=F.refl hq.wf;refine G.iX λH1 rc G=>?_;have hrc:=G.wQ<|aN ..
 refine gK.vg λK hK=>?_;refine gK.scope (az:=λ_ _ _=>False) (λ_ _ _ _ h=>h.elim) 0 ?_;refine gK.vg λK2 hK2=>?_;refine tl ?_;have hk1:∀{T},Ext H T->Bh SH T rw' A q ev sv sb:=λE=>hk.stay E nofun;refine aO.mono (LH (hk1 G.ext) ho) ?_;rintro _ H1 ⟨rfl,rfl⟩;refine bG ?_;refine aO.mono (HV<|hcell G.ext) ?_;rintro _ H1 ⟨rfl,rfl⟩;refine bG ?_;refine aT (λhc=>N) λ_=>?_;refine tp ?_;refine FY 13 15 34 (ai:=λm jI lH x34 T=>∃i:Nat,x34=B i/\i+m=l.length/\F [] H T [(rc,68,[I Q 0 0,.bool aC,I Q 0 0,vi 0])]) ?_ l.length ⟨0,rfl,aY _,G⟩;clear G;rintro m jI lH x34 u H1 ⟨i0,rfl,him,G⟩;refine q_ (λhc=>?_) λhc=>?_
 .have hil:i0<l.length:=N;have hpl:=hl _<|bB hil;refine(hf.ex G.ext).TM N hil (Cc<|av hil) λ_=>?_;generalize l[i0]=p at hpl|-;refine G.ns O O O λH2 rf G _=>?_;have G:F [] H H2 [(rf,86,[B p.1,B p.2]),(rc,68,[I Q 0 0,.bool aC,I Q 0 0,vi 0])]:=G;refine eU ?_;refine aO.mono (acX ((hk1 G.ext).stay (Ext.hN H2) nofun) hpl.1) ?_;rintro _ _ ⟨rfl,rfl⟩;refine bG ?_;refine gF (λh=>by cases h) λ_=>?_;refine eU ?_;refine aT (λh=>N) λ_=>?_;refine eU ?_;refine aO.mono (HV<|hcell<|G.ext.trans'<|Ext.hN H2) ?_;rintro _ _ ⟨rfl,rfl⟩;refine eU ?_;refine aT (λh=>N) λ_=>?_;refine dQ ?_;exact⟨l.length-(i0+1),N,_,_,_,_,_,O,i0+1,og,N,F.drop (A:=[_]) G⟩
 refine tp ?_;refine aT (λh=>N) λ_=>?_;have hrs:=(G.weaken nofun:F H' H H1 _);have bx:∀{T},oN H' H1 T->F H' H T [(rc,68,[I Q 0 0,.bool aC,I Q 0 0,vi 0])]:=λE=>hrs.aio (λe he=>G.wQ he) hT E;have hx1:=G.ext;have hkB:=hk1 hx1;have hqB:=hq.reb hx1;have hfB:=hf.ex hx1;have G:=F.refl G.wf;refine G.mkMap (e:=pE) Dw λH2 ms hms hx2 hgs G=>?_;refine G.mkMap (e:=vnE) LG λH3 me hme hx3 hge G=>?_;refine PU.of (v:=.agg ⟨[I Q 0 0,.bool aC,I Q 0 0,vi 0,.map<|D ms,.map<|D me,B mo]⟩) O ?_;have⟨_,l1,_⟩:=id hms;have hms:=hms.ex hx3 nofun;have sG:=G;have G:=G.base;refine G.box O λH4 rr G=>?_;have ak8:=hms.ex G.ext nofun;have ak9:=hme.ex G.ext nofun;have vJ:=sG.over G;have hx4:=vJ.ext
 have hw4:WS H' H1 H4 rr rs ms me mn ml mo ⟨s,[],[],aC⟩:=by
  have⟨_,l2,_⟩:=id mN;have⟨_,l3,_⟩:=id mL;have g0:=hx1.next
  refine⟨_,_,_,_,[],gP,gU,az,F.plus vJ hqB,GB.nil _ _,gp,gu,gR,⟨mg ak8,mg ak9,mN.ex (hx1.trans hx4) (λh=>by cases h),mL.ex (hx1.trans hx4) λh=>by cases h⟩,?_,?_⟩
  .simp only[jm,bP,dX,iF,not_or,mD,xS,qj];omega
  .intro m hm;simp only[bP,dX,iF]at hm;rcases hm with rfl|rfl|rfl|rfl
   .exact .inr hgs
   .exact .inr<|a_ hx2.next hge
   .exact .inl hmn
   .exact .inl hml
 clear ak8 ak9 vJ hx4 G sG hms hme hgs hge hx2 hx3 l1 hqB mN mL gp gu gR hq;have hW0:Rn.h1 A a ⟨s,[],[],aC⟩:=⟨hsW,mD,nofun⟩;have hWl:∀j,((l.take j).foldl Rn.meet ⟨s,[],[],aC⟩).h1 A a:=λj=>WK _ _ hW0 λp hp=>hl p<|eX hp;have hFb:∀r,SH r->r<H1.next/\r∉H':=λr y=>⟨aR (hF r y).1 hx1.next,(hF r y).2⟩
 refine FY 13 18 67 (ai:=λm jI wN JF T=>∃j:Nat,JF=B j/\j+m=l.length/\WS H' H1 T rr rs ms me mn ml mo ((l.take j).foldl Rn.meet ⟨s,[],[],aC⟩)) ?_ l.length ⟨0,rfl,aY _,hw4⟩;clear hw4;rintro m jI wN JF rg2 H5 ⟨j,rfl,hj,hw⟩;refine q_ (λhc=>?_) λhc=>?_
 .have hjl:j<l.length:=N;refine(hfB.stay hw.ext λr y=>.inl<|hF' r y).TM N hjl (Cc<|av hjl) λ_=>?_;refine(F.refl hw.wf).ns O O O λH6 rf G hx6=>?_;have G:F [] H5 H6 [(rf,86,[B l[j].1,B l[j].2])]:=G;apply G.iI;have e:(l.take<|j+1).foldl Rn.meet ⟨s,[],[],aC⟩=((l.take j).foldl Rn.meet ⟨s,[],[],aC⟩).meet l[j]:=by rw[eH,av hjl,iO];rfl
  have hWj:=hWl<|j+1;rw[e]at hWj;refine aO.mono (Pw (hw.call hx6) hL hWj) ?_;rintro _ H7 ⟨rfl,hw⟩;refine bG ?_;refine gF (λh=>by cases h) λ_=>?_;refine dQ ?_;exact⟨l.length-(j+1),N,_,_,_,_,_,O,j+1,og,N,by rw[e];exact hw⟩
 have hW1:=hWl j;rw[cO N]at hw hW1;refine tl ?_;generalize hy0:l.foldl Rn.meet ⟨s,[],[],aC⟩=y0 at hw hW1;have hz:close A a s l=go A a (bnd A a+1) 0 y0:=by rw[<-hy0];rfl
 rw[hz]at hK;refine lp7 19 20 21 23 119 120 121 (ai:=λn uC x20 xJ yx Yd Ye OV T=>∃(i:Nat)(hr:Rn),uC=vi 0/\x20=B i/\i+n=bnd A a+1/\go A a n i hr=go A a (bnd A a+1) 0 y0/\hr.h1 A a/\WS H' H1 T rr rs ms me mn ml mo hr) ?_ (bnd A a+1) ⟨0,y0,rfl,rfl,aY _,rfl,hW1,hw⟩;clear hw hW1 hWl hW0;rintro n uC x20 xJ yx Yd Ye OV rg3 H6 ⟨i,hr,rfl,rfl,hin,hgo,hW,hw⟩;have anG:=hW.le;have hbb:=hL.b;have hkw:=hkB.stay hw.ext hFS;have⟨sa,sc,hsp,amK⟩:=hw.ak7;refine gK.vg λK3 hK3=>?_;refine tl ?_;refine PU.of O ?_;refine bG ?_;refine ME.ld hsp ?_;refine Mo (λhc=>?_) λhc=>?_
 .rw[hK3];refine bG ?_
  have ey:hr=go A a (bnd A a+1) 0 y0:=by
   rw[<-hgo];cases n with
   |zero=>rfl
   |succ n=>
    show hr=match hr.sp[i]? with|none=>hr|some p=>go A a n (i+1)<|hr.one A a p
    rw[fE N]
  rw[<-ey]at hK;have⟨T',ta,tc,amL,hT',hrd,hrn,hft⟩:=hw.done;have⟨_,_,_,_,_,_,_,_,wM,_⟩:=id hw;have hlo:=wM.lo _<|aN ..
  refine tp ?_;refine dN (λh=>absurd trivial h) λ_=>?_;have wM:F [rr] H6 H6 [(rr,156,[I ta hr.sp.length tc,.bool hr.ok,I Q 0 0,vi 0,.map<|D ms,.map<|D me,B mo])]:=⟨oN.refl _ _,λe he=>by rw[aP.1 he];exact hrd,λe he=>⟨.inl (by rw[aP.1 he];simp),by rw[aP.1 he];exact hlo.2⟩,iR _ _,hw.wf⟩;apply wM.pz;refine bG ?_;refine wM.jH λH7 He=>?_;apply He.iI;have hx7:oN H' H1 H7:=hw.ext.later He.ext λr y=>by rw[aP.1 y];exact hlo.1
  have hb:=bx hx7;refine hb.base.jH λH8 Yo=>?_;rw[hK2];simp only[JD];rw[hK];have Wl:=hb.over Yo;refine Lu.rr ?_;apply Wl.iI
  have hr0:∀e∈[rc,rr],e∉T':=λe he hm=>by
   simp only[bP,dX,iF]at he;rcases he with rfl|rfl
   .exact(hT' _ hm).2.elim (λh=>absurd (hT _ h)<|eP hrc) λh=>absurd (hrs.lo _<|aN ..).2<|eP h
   .exact hrn hm
  have Jw:oN [rc,rr] H6 H8:=(He.ext.weaken λr h=>by simp[aP.1 h]).trans<|Yo.ext.weaken λr h=>by simp[aP.1 h]
  refine⟨ta,tc,T',O,?_,λr y=>⟨aR (hT' r y).1 Jw.next,(hT' r y).2.imp_right<|a_ hx1.next⟩,Wl.ext,hft.stay Jw λr y=>.inr ?_⟩
  .exact amL.stay Jw hr0
  simp only[bP,dX,iF]at y;rcases y with rfl|rfl
  .exactλht=>absurd (ht.one ((bx hw.ext).get 0 O).Jc) mO
  .exactλht=>absurd (ht.one hrd.Jc) mO
 have hil:i<hr.sp.length:=N;obtain⟨n,rfl⟩:∃k,n=k+1:=⟨n-1,N⟩;have hpm:=bB hil
 have ala:go A a n (i+1) (hr.one A a hr.sp[i])=go A a (bnd A a+1) 0 y0:=by
  rw[<-hgo];show _=match hr.sp[i]? with|none=>hr|some p=>go A a n (i+1)<|hr.one A a p
  rw[av hil]
 refine ME.ld hsp<|amK.TM N hil (Cc<|av hil) λ_=>?_;generalize hr.sp[i]=p at hpm ala|-;have hpb:=hW.b p hpm;refine(F.refl hw.wf).ns O O O λH7 rf G hx7=>?_;have G:F [] H6 H7 [(rf,86,[B p.1,B p.2])]:=G;have hrf:=G.wQ<|aN ..
 have⟨T2,hT2,ae9⟩:=hw.own;have hk7:=hkw.stay hx7 nofun;have hF2:∀r,SH r->r<H7.next/\r∉T2:=λr h=>⟨aR (hFb r h).1<|a_ hw.ext.next hx7.next,λhm=>(hT2 r hm).2.elim (hFb r h).2 λg=>absurd (hFb r h).1<|eP g⟩
 have hF3:∀r∈T2,¬SH r:=λr y h=>(hF2 r h).2 y;have bf:∀{T},oN T2 H7 T->F T2 H6 T [(rf,86,[B p.1,B p.2])]:=λE=>(G.weaken nofun:F T2 _ _ _).aio (λe he=>G.wQ he) (λr y=>(hT2 r y).1) E
 have mid:∀{H8 yx Yd Ye OV u},WS T2 H7 H8 rr rs ms me mn ml mo (if p.1∈A.sp then hr.back p else hr)->gK Pg X (sub yl [1,0,1,1,1,1,1,1,1,0,1,0,0,1,0,0,1,1]) (Cs (pr rw') (pr rs) (I fa l.length fc) (B a) (I Q 0 0) (B mo) (pr rc) jI lH (pr rr) wN (vi 0) (B i) (pr rf) yx (I fa l.length fc) (B l.length) (B i0) (I fa l.length fc) (B l.length) (B j) Yd Ye OV u H8) (sw 5<|t_ Pg X (sub yl [1,0,1,1,1,1,1,1,1,0,1,0,0,1,1]) K3):=by
  intro H8 yx Yd Ye OV u hw8;have hk8:=hk7.stay hw8.ext hF3;have G:=bf hw8.ext;refine tp ?_;refine ME.ld (H:=hN H8) (hk8.b.cell (o:=4) O) ?_;refine eU ?_;have⟨evs,he1,he2⟩:=hk7.a.e;have⟨ea,ec,he3,hfe⟩:=he2 _ hpb.1;refine(he1.stay hw8.ext λr y=>.inl<|hF3 r y).Uw hpb.1 he3 λr o=>?_;refine eU ?_;have hone:hr.one A a p=(A.hx p.1).foldl (Rn.along A a p) (if p.1∈A.sp then hr.back p else hr):=rfl
  have hW8:Rn.h1 A a (if p.1∈A.sp then hr.back p else hr)/\p.2<=(if p.1∈A.sp then hr.back p else hr).sk.length:=by
   split
   .exact⟨hW.back hpm,by rw[Rn.WJ];exact hpb.2⟩
   .exact⟨hW,hpb.2⟩
  generalize(if p.1∈A.sp then hr.back p else hr)=y8 at hw8 hone hW8;have hWe:∀k,Rn.h1 A a (((A.hx p.1).take k).foldl (Rn.along A a p) y8)/\y8.sk.length<=(((A.hx p.1).take k).foldl (Rn.along A a p) y8).sk.length:=λk=>Rn.h1.UQ ho hpb.1 _ _ (λe he=>eX he) hW8.1 hW8.2
  have agO:(A.hx p.1).length<=100000:=by
   have:=At.zH ho<|p.1+1;have:=At.wK ho hpb.1;omega
  refine FY 19 23 121 (ai:=λm uC yx OV T=>∃k:Nat,uC=vi 0/\OV=B k/\k+m=(A.hx p.1).length/\WS T2 H7 T rr rs ms me mn ml mo (((A.hx p.1).take k).foldl (Rn.along A a p) y8)) ?_ (A.hx p.1).length ⟨0,rfl,rfl,aY _,hw8⟩;clear hw8 G hk8;rintro m' uC yx OV rg4 H9 ⟨k,rfl,rfl,hkm,hw9⟩;refine kX (λhc=>?_) λhc=>?_
  .refine tl ?_;refine dQ ?_;rw[cO N,<-hone]at hw9;rw[hK3];exact⟨n,dM n,_,_,_,_,_,_,_,_,_,O,i+1,_,O,og,N,ala,hW.one ho hpm,hw9.up (hw.ext.trans' hx7) λr y=>(hT2 r y).2⟩
  have hke:k<(A.hx p.1).length:=N;refine Jl (hfe.stay hw9.ext λr y=>.inl<|hF3 r y) hke λpe=>(F.refl hw9.wf).ns O O O λDq re G Ap=>?_;have G:F [] H9 Dq [(re,121,[B (A.hx p.1)[k].1,B (A.hx p.1)[k].2.1,B (A.hx p.1)[k].2.2])]:=G;refine(bf<|hw9.ext.trans' Ap).iI<|G.iI ?_;have e:((A.hx p.1).take<|k+1).foldl (Rn.along A a p) y8=(((A.hx p.1).take k).foldl (Rn.along A a p) y8).along A a p (A.hx p.1)[k]:=by rw[eH,av hke,iO];rfl
  refine aO.mono (aiq ho hk7 hF2 (hw9.call Ap) hL (hWe k).1 ⟨hpb.1,a_ hW8.2 (hWe k).2⟩<|bB hke) ?_;rintro _ Sn ⟨rfl,hw⟩;refine bG ?_;refine dN (λh=>absurd trivial h) λ_=>?_;refine dQ ?_;exact⟨(A.hx p.1).length-(k+1),N,_,_,_,_,_,O,k+1,O,og,N,by rw[e];exact hw⟩
 refine G.kL ?_;refine ME.ld (H:=hN H7) (hk7.b.cell (o:=7) O) ?_;refine eU ?_;have⟨ta,tc,hsv,hsf⟩:=hkw.s;rw[hsv];refine(hsf.ex hx7).Uw (v:=.bool<|decide<|p.1∈A.sp) hpb.1 (by rw[bF,hkw.on _ hpb.1];rfl) λr o=>?_;refine gF (λh=>?_) λh=>?_
 .refine eU ?_;refine aO.mono (ak3 (hkw.stay (hx7.trans'<|Ext.hN H7) nofun) hF3 (ae9 _<|hx7.trans'<|Ext.hN H7) hL hW hpm) ?_;rintro _ H8 ⟨rfl,hw8⟩;have hw8:=hw8.m G.wf;refine bG ?_;refine splitK (λK hK=>?_) ?_
  .simp only[d_];rcases vQ H7 H8 with e|e<;>rw[e]<;>exact UW jr jr hK
  refine gF (λh=>by cases h) λ_=>?_;exact mid (by rw[if_pos (fM h)];exact hw8)
 .refine eU ?_;exact mid (by rw[if_neg (mX h)];exact ae9 _ hx7)
end
section
open Go.Proofs.Lu Go.Proofs.Lu.Wk
open Go.Ae Go.Ae.cs
variable{S:C Nat}{SH:Nat->Prop}{ev:Z}
def Y5(h:n<=16777216):XY 2 (I (D ⟨r,0,Q⟩) n<|fJ 2) Q (D<|B n) (D<|B n)=D (I (D ⟨r,0,Q⟩) n n):=by
 show bV (gH<|fJ 2) (aL (D n) λm=>gd (aD 0 n&&aD n m&&aD m (fJ 2)&&(!(eZ<|D<|B n)||eZ (D<|B n)))<|D<|I (D ⟨r,uB m 0 0 2,Q⟩) (dJ n 0)<|dJ m 0) (gd (aA (fJ 2)<|fJ 2)<|gd (aD 0 n&&aD n n&&aD n n&&f&&gH n)<|D<|I (D ⟨r,uB n 0 0 2,Q⟩) (dJ n 0)<|dJ n 0)=_;have hk:gH n=f:=aI N;have ho:uB n 0 0 2=0:=by unfold uB;cases aA n 0<;>rfl
 rw[y_,jW,dD,aI<|bA _,aI<|ax _,hk,ho];rfl
def alb(hg:GB 86 2 v (Hw o) gb)(hl:o.length<=16777216):aO Pg X 86 [v] H (Q0 (λv'=>∃a c c',v=I a o.length c/\v'=I a o.length c') H):=by
 rcases hg with⟨rfl,he,rfl⟩|⟨r,n,eB,rfl,hn,rfl⟩
 .cases o with
  |cons p o=>cases he
  |nil=>
   refine Fh [0,2] ?_;refine PU.of (v:=I Q 0 0) O<|Lu.rr ?_;exact⟨⟨_,_,_,O,O⟩,O⟩
 .rw[wL]at hn;obtain rfl:o.length=n:=N;refine Fh [0,2] ?_;refine PU.of (Y5 hl)<|Lu.rr ?_;exact⟨⟨_,_,_,O,O⟩,O⟩
def PN(t:Int)(p:Sp)(o:C Sp)(e:Ed):C Sp:=if(e.2.2,p.2)∈o then o else if e.1=1 then if((e.2.1:Nat):Int)=t then o++[(e.2.2,p.2)]else o else o
abbrev Py(A:At)(t:Int)(o:C Sp)(p:Sp):C Sp:=(A.hx p.1).foldl (PN t p) o
def ac6(l:C Sp):zf A l t=l.foldl (Py A t) []:=by
 unfold zf;rw[List.foldl_flatMap];congr 1;funext o p;rw[List.foldl_map,List.foldl_filter];congr 1;funext o e;unfold PN
 by_cases W:e.1=1<;>by_cases J:((e.2.1:Nat):Int)=t<;>simp[W,J]
def Pz(A:At)(aa:Nat)(o:C Sp):Prop:=o.Nodup/\∀p∈o,p.1<A.ns/\p.2<=aa
def Pz.le(h:Pz A aa o):o.length<=A.ns*(aa+1):=LF h.1 λp hp=>⟨(h.2 p hp).1,Nat.lt_succ_of_le (h.2 p hp).2⟩
theorem Pz.PN(h:Pz A aa o)(W:e.2.2<A.ns)(J:p.2<=aa):Pz A aa (PN t p o e):=by
 unfold Lv.PN;split
 .exact h
 .next hn=>
  split
  .split
   .refine⟨nO.2 ⟨h.1,by simp,λq hq r y e=>?_⟩,λq hq=>?_⟩
    .rw[aP]at y;exact hn<|y▸e▸hq
    .rcases bZ.1 hq with hq|hq
     .exact h.2 q hq
     .rw[aP]at hq;subst hq;exact⟨W,J⟩
   .exact h
  .exact h
def Pz.air(J:p.2<=aa):∀(l:C Ed){o:C Sp},(∀e∈l,e.2.2<A.ns)->Pz A aa o->Pz A aa (l.foldl (Lv.PN t p) o)
 |[],o,_,h=>h
 |e::l,o,hl,h=>Pz.air J l (λd hd=>hl d<|by simp[hd])<|h.PN (hl e kg) J
def Pz.fold(ho:A.Ok):∀(l:C Sp){o:C Sp},(∀p∈l,p.1<A.ns/\p.2<=aa)->Pz A aa o->Pz A aa (l.foldl (Py A t) o)
 |[],o,_,h=>h
 |p::l,o,hl,h=>Pz.fold ho l (λd hd=>hl d<|by simp[hd])<|Pz.air (hl p kg).2 _ (λe he=>(ho.e _ (hl p kg).1 e he).1) h
theorem alc(ho:A.Ok)(hw:Wf H)(hk:Bh SH H rw' A q ev sv sb)(hf:je F' 86 H fa l.length 2<|Hw l)(hl:∀p∈l,p.1<A.ns/\p.2<=aa)(hb:A.ns*(aa+1)<=8000000)(hll:l.length<=8000000):
 aO Pg X 56 [pr rw',.agg ⟨[I fa l.length fc,.bool ok,I Q 0 0,B st]⟩,vi t] H (Q1 (λv T=>∃a c,v=.slice a (zf A l t).length c/\je (H.next<=·) 86 T a (zf A l t).length 2 (Hw<|zf A l t)) H):=by
 refine jS [0,1,2,4,6,7,8,10,12,13,15,20,21,22,39,40,41] ?_;have G:=F.refl hw;refine G.box O λH1 rc G=>?_;have G:F [] H H1 [(rc,68,[I fa l.length fc,.bool ok,I Q 0 0,B st])]:=G;have hk1:∀{T},Ext H T->Bh SH T rw' A q ev sv sb:=λE=>hk.stay E nofun;refine aO.mono (LH (hk1 G.ext) ho) ?_;rintro _ H1 ⟨rfl,rfl⟩;refine bG ?_;have h10:=G.ext.next
 refine G.mkMap (e:=pE) Dw λH2 mp hmp hx2 hge G=>?_;apply G.pz;refine bG ?_;have hm2:Cx pE H2 mp λk=>if k∈([]:C Sp)then D u0 else Q:=mg hmp
 have hsp:∀i,Pz A aa ((l.take i).foldl (Py A t) []):=λi=>Pz.fold ho _ (λp hp=>hl p<|eX hp) ⟨mD,nofun⟩;have amM:H.next<=mp:=a_ h10 hge
 refine lp9 8 10 12 13 15 22 39 40 41 (ai:=λm x8 jo kW jI lH DV x39 x40 x41 T=>∃(i:Nat)(gb:C dL),DV=B i/\i+m=l.length/\GB 86 2 x8 (Hw<|(l.take i).foldl (Py A t) []) gb/\(Cx pE T mp λk=>if k∈(l.take i).foldl (Py A t) []then D u0 else Q)/\F [] H T ((rc,68,[I fa l.length fc,.bool ok,I Q 0 0,B st])::gb)) ?_ l.length ⟨0,[],rfl,aY _,GB.nil _ _,hm2,G⟩;rintro m x8 jo kW jI lH DV x39 x40 x41 u H3 ⟨i,gb,rfl,him,hg,hm,G⟩;refine kX (λhc=>?_) λhc=>?_
 .refine tl ?_;refine aO.mono (alb hg (by have:=(hsp i).le;omega)) ?_;rintro _ H4 ⟨⟨a,c,c',rfl,rfl⟩,rfl⟩;rw[cO N,<-ac6]at hg|-;refine Lu.rr ?_;refine⟨⟨a,c',O,?_⟩,G.ext⟩;have⟨a',n',c2,e,_,hf⟩:=hg.IA (SH:=(H.next<=·)) (G.perm (L':=gb++[(rc,68,[I fa l.length fc,.bool ok,I Q 0 0,B st])])<|aG (l₁:=[_])) λe he=>G.wQ<|bH _ he;cases e;exact hf
 have hil:i<l.length:=N;have hpl:=hl _<|bB hil;have e1:(l.take<|i+1).foldl (Py A t) []=Py A t ((l.take i).foldl (Py A t) []) l[i]:=by rw[eH,av hil,iO];rfl
 have amN:=hsp i;refine(hf.ex G.ext).TM N hil (Cc<|av hil) λ_=>?_;generalize(l.take i).foldl (Py A t) []=os at*;generalize l[i]=p at*;refine G.ns O O O λH4 rp G hx4=>?_;have G:F [] H H4 ((rp,86,[B p.1,B p.2])::(rc,68,[I fa l.length fc,.bool ok,I Q 0 0,B st])::gb):=G;have hm:=hm.ex hx4 nofun;refine eU ?_;refine aO.mono (acX (hk1 G.ext) hpl.1) ?_;rintro _ H5 ⟨rfl,rfl⟩;refine bG ?_;refine gF (λh=>by cases h) λ_=>?_;refine ME.ld (H:=hN H5) ((hk1 G.ext).b.cell (o:=4) O) ?_;refine eU ?_;have⟨evs,he1,he2⟩:=hk.a.e;have⟨ea,ec,he3,hfe⟩:=he2 _ hpl.1;refine(he1.ex G.ext).Uw hpl.1 he3 λr o=>?_;refine eU ?_
 have agO:(A.hx p.1).length<=100000:=by
  have:=At.zH ho<|p.1+1;have:=At.wK ho hpl.1;omega
 have ald:∀k,Pz A aa (((A.hx p.1).take k).foldl (PN t p) os):=λk=>Pz.air hpl.2 _ (λe he=>(ho.e _ hpl.1 e<|eX he).1) amN;refine V' 8 12 13 15 41 (ai:=λm x8 kW jI lH x41 T=>∃(k:Nat)(gb:C dL),x41=B k/\k+m=(A.hx p.1).length/\GB 86 2 x8 (Hw<|((A.hx p.1).take k).foldl (PN t p) os) gb/\(Cx pE T mp λj=>if j∈((A.hx p.1).take k).foldl (PN t p) os then D u0 else Q)/\F [] H T ((rp,86,[B p.1,B p.2])::(rc,68,[I fa l.length fc,.bool ok,I Q 0 0,B st])::gb)) ?_ (A.hx p.1).length ⟨0,gb,rfl,aY _,hg,hm,G⟩;clear hg hm G;rintro m' x8 kW jI lH x41 rg4 H6 ⟨k,gb,rfl,hkm,hg,hm,G⟩;refine kX (λhc=>?_) λhc=>?_
 .refine tl ?_;refine dQ ?_;rw[cO N]at hg hm;exact⟨l.length-(i+1),N,_,_,_,_,_,_,_,_,_,_,_,O,i+1,gb,og,N,by rw[e1];exact hg,by rw[e1];exact hm,F.drop (A:=[_]) G⟩
 have hke:k<(A.hx p.1).length:=N;refine Jl (hfe.ex G.ext) hke λpe=>?_;have e2:((A.hx p.1).take<|k+1).foldl (PN t p) os=PN t p (((A.hx p.1).take k).foldl (PN t p) os) (A.hx p.1)[k]:=by rw[eH,av hke,iO];rfl
 have anH:=ald k;have agP:=(ald<|k+1).le;rw[e2]at agP;generalize((A.hx p.1).take k).foldl (PN t p) os=o2 at*;generalize(A.hx p.1)[k]=e at*;refine G.ns O O O λH7 re G hx7=>?_;have G:F [] H H7 ((re,121,[B e.1,B e.2.1,B e.2.2])::(rp,86,[B p.1,B p.2])::(rc,68,[I fa l.length fc,.bool ok,I Q 0 0,B st])::gb):=G;have hm:=hm.ex hx7 nofun;refine eU ?_;refine G.ns O O O λH8 rz G Bg=>?_;have G:F [] H H8 ((rz,86,[B e.2.2,B p.2])::(re,121,[B e.1,B e.2.1,B e.2.2])::(rp,86,[B p.1,B p.2])::(rc,68,[I fa l.length fc,.bool ok,I Q 0 0,B st])::gb):=G;have hm:=hm.ex Bg nofun;apply G.iI;refine Cx.has (e:=pE) (k:=(e.2.2,p.2)) hm Dw DW acT ?_;refine G.kL ?_;refine G.ns O O O λH9 ru G NN=>?_;have hm:=hm.ex NN nofun;refine aT (λhc=>?_) λhc=>?_
 .have e3:PN t p o2 e=o2:=if_pos hc;refine dQ ?_;exact⟨(A.hx p.1).length-(k+1),N,_,_,_,_,_,_,_,O,k+1,gb,og,N,by rw[e2,e3];exact hg,by rw[e2,e3];exact hm,F.drop (A:=[_,_,_]) G⟩
 refine Mq (λW=>?_) λW=>?_
 .have e3:PN t p o2 e=o2:=(if_neg hc).trans (if_neg λh=>W N);refine dQ ?_;exact⟨(A.hx p.1).length-(k+1),N,_,_,_,_,_,_,_,O,k+1,gb,og,N,by rw[e2,e3];exact hg,by rw[e2,e3];exact hm,F.drop (A:=[_,_,_]) G⟩
 refine Mq (λJ=>?_) λJ=>?_
 .have e3:PN t p o2 e=o2:=(if_neg hc).trans ((if_pos N).trans<|if_neg J);refine dQ ?_;exact⟨(A.hx p.1).length-(k+1),N,_,_,_,_,_,_,_,O,k+1,gb,og,N,by rw[e2,e3];exact hg,by rw[e2,e3];exact hm,F.drop (A:=[_,_,_]) G⟩
 have e3:PN t p o2 e=o2++[(e.2.2,p.2)]:=(if_neg hc).trans<|(if_pos N).trans<|if_pos J;rw[e3,aQ]at agP;refine tm ?_;refine PU.of (v:=u0) O<|G.amF (e:=pE) (k:=(e.2.2,p.2)) (.inr amM) hm Dw acT λDq hm G Ap=>G.iI ?_;have h10:=G;have G:=G.base;refine hg.I4 G O O O (by rw[wL];omega) λq' v' Sn gQ hg G=>?_;have hm:=hm.ex G.ext<|h10.Dv hm;have G:=h10.over G;refine tl ?_;refine dQ ?_;exact⟨(A.hx p.1).length-(k+1),N,_,_,_,_,_,_,_,O,k+1,gQ,og,N,by rw[e2,e3,JM];exact hg,by rw[e2,e3];exact hm.plus λj=>by simp,F.drop (A:=[_,_,_]) G⟩
end
section
open Go.Proofs.Lu Go.Proofs.Lu.Wk
open Go.Ae Go.Ae.cs
variable{S:C Nat}{SH:Nat->Prop}{ev:Z}
def exC{α:Type}{p:α->Prop}{a:α}{l:C α}:(∃x∈a::l,p x)<->p a\/∃x∈l,p x:=by simp
def UY(ts:C Nat)(e:Ed):C Nat:=if e.1=1 then ts++[e.2.1]else ts
def Ss(A:At)(x:C Nat×C Nat)(p:Sp):C Nat×C Nat:=if p.1∈x.1 then x else(p.1::x.1,(A.hx p.1).foldl UY x.2)
def Sc(A:At)(l:C Sp):C Nat:=(l.foldl (Ss A) ([],[])).2
def WT(rg:Nat):∀(l:C Ed)(ts:C Nat),rg∈l.foldl UY ts<->rg∈ts\/∃e∈l,e.1=1/\e.2.1=rg
 |[],ts=>by simp
 |e::l,ts=>by
  rw[nA,WT rg l];unfold UY;split
  .next h=>simp[h,or_assoc,eq_comm]
  .next h=>simp[h]
def JN:∀(l:C Ed)(ts:C Nat),(l.foldl UY ts).length<=ts.length+l.length
 |[],ts=>ax _
 |e::l,ts=>by
  have:=JN l<|UY ts e;rw[nA,cK]
  have:(UY ts e).length<=ts.length+1:=by
   unfold UY;split<;>simp
  omega
def cnt(A:At)(ms:C Nat):Nat->Nat
 |0=>0
 |n+1=>cnt A ms n+if n∈ms then(A.hx n).length else 0
def ac7(ho:A.Ok)(ms:C Nat):∀n,n<=A.ns->cnt A ms n<=A.pre n
 |0,_=>bA _
 |n+1,h=>by
  have:=ac7 ho ms n N;rw[At.wK ho N];unfold cnt;split<;>omega
def Sd{s:Nat}(hs:s∉ms):∀n,cnt A (s::ms) n=cnt A ms n+if s<n then(A.hx s).length else 0
 |0=>rfl
 |n+1=>by
  unfold cnt;rw[Sd hs n]
  by_cases h:n=s
  .subst h;simp[hs]
  .by_cases J:s<n
   .rw[if_pos J,if_pos (by omega:s<n+1)];simp only[bP,h,false_or];omega
   .rw[if_neg J,if_neg (by omega:¬s<n+1)];simp only[bP,h,false_or];omega
def UZ(A:At)(x:C Nat×C Nat):Prop:=(∀rg,rg∈x.2<->∃s∈x.1,∃e∈A.hx s,e.1=1/\e.2.1=rg)/\x.2.length<=cnt A x.1 A.ns
def UZ.step{x:C Nat×C Nat}(h:UZ A x)(hp:p.1<A.ns):UZ A (Ss A x p):=by
 unfold Ss;split
 .exact h
 .next hn=>
  refine⟨λrg=>?_,?_⟩
  .rw[WT,h.1];simp only[exC];exact or_comm
  .have:=JN (A.hx p.1) x.2;have:=h.2;show _<=cnt A (p.1::x.1) A.ns;rw[Sd hn,if_pos hp];dsimp only;omega
def UZ.fold:∀(l:C Sp){x:C Nat×C Nat},UZ A x->(∀p∈l,p.1<A.ns)->UZ A (l.foldl (Ss A) x)
 |[],x,h,_=>h
 |p::l,x,h,hl=>UZ.fold l (h.step<|hl p kg) λq hq=>hl q (by simp[hq])
def JO(s:Nat):∀(l:C Sp)(x:C Nat×C Nat),s∈(l.foldl (Ss A) x).1<->s∈x.1\/∃p∈l,p.1=s
 |[],x=>by simp
 |p::l,x=>by
  rw[nA,JO s l];unfold Ss;split
  .next h=>
   simp only[exC];exact⟨λg=>g.elim .inl λg=>.inr<|.inr g,λg=>g.elim .inl λg=>g.elim (λg=>.inl<|g▸h) .inr⟩
  .rw[exC,bP];constructor
   .rintro((rfl|g)|g)
    .exact .inr<|.inl O
    .exact .inl g
    .exact .inr<|.inr g
   .rintro(g|rfl|g)
    .exact .inl<|.inr g
    .exact .inl<|.inl O
    .exact .inr g
def UZ.nil:UZ A ([],[]):=⟨by simp,bA _⟩
def LK(hl:∀p∈l,p.1<A.ns)(rg:Nat):rg∈Sc A l<->off A l rg:=by
 unfold Sc;rw[(UZ.fold l UZ.nil hl).1];constructor
 .rintro⟨s,hs,e,he,W,J⟩;rw[JO]at hs;rcases hs with hs|⟨p,hp,rfl⟩
  .cases hs
  .exact⟨p,hp,e,he,W,by rw[J]⟩
 .rintro⟨p,hp,e,he,W,J⟩;exact⟨p.1,(JO _ _ _).2<|.inr ⟨p,hp,O⟩,e,he,W,N⟩
def ac8(ho:A.Ok)(ht:A.ty<=65536)(hl:∀p∈l,p.1<A.ns)(t:Int):(decide (0<=t/\t<65536)&&hasB (wds<|Sc A l) t.toNat)=decide (off A l t):=by
 rw[ae7]
 by_cases h:off A l t
 .have⟨p,hp,e,he,W,J⟩:=id h
  have hty:e.2.1<A.ty:=by
   have hoe:=(ho.e _ (hl p hp) e he).2.2;unfold At.aeG at hoe;rcases hoe with hoe|hoe|hoe<;>omega
  rw[bL h,bL N,bL];rfl;exact(LK hl _).2 (by rwa [show((t.toNat:Nat):Int)=t by omega])
 .rw[dB h]
  by_cases h0:0<=t/\t<65536
  .rw[bL h0,dB];rfl;intro hm;have:=(LK hl _).1 hm;rw[show((t.toNat:Nat):Int)=t by omega]at this;exact h this
  .rw[dB h0];rfl
theorem afa(ho:A.Ok)(ht:A.ty<=65536)(hw:Wf H)(hk:Bh SH H rw' A q ev sv sb)(hf:je F' 86 H fa l.length 2<|Hw l)(hl:∀p∈l,p.1<A.ns)(hll:l.length<=8000000):
 aO Pg X 26 [pr rw',.agg ⟨[I fa l.length fc,.bool ok,I Q 0 0,B st]⟩] H (Q1 (λv T=>Px (H.next<=·) T v<|wds<|Sc A l) H):=by
 have hbig:=ho.big;refine jS [0,1,3,4,5,6,8,10,20,21,22,50,51,52] ?_;have G:=F.refl hw;refine G.box O λH1 rc G=>?_;have G:F [] H H1 [(rc,68,[I fa l.length fc,.bool ok,I Q 0 0,B st])]:=G;have hk1:∀{T},Ext H T->Bh SH T rw' A q ev sv sb:=λE=>hk.stay E nofun;refine aO.mono (LH (hk1 G.ext) ho) ?_;rintro _ H1 ⟨rfl,rfl⟩;refine bG ?_;refine ME.ld ((hk1 G.ext).b.cell (o:=7) O) ?_;have⟨ta,tc,hsv,hsf⟩:=hk.s;rw[hsv];refine bG ?_;refine G.mkS (ax _) N λH2 rm G=>?_;rw[mZ]at G;apply G.pz;refine bG ?_;have hm:∀i,∀s,s∈((l.take i).foldl (Ss A) ([],[])).1<->∃p∈l.take i,p.1=s:=λi s=>by rw[JO];simp
 have hof:∀i,UZ A ((l.take i).foldl (Ss A) ([],[])):=λi=>UZ.fold _ UZ.nil λp hp=>hl p<|eX hp;have ais:∀x:C Nat×C Nat,UZ A x->x.2.length<=100000:=λx E=>a_ E.2<|a_ (ac7 ho _ _<|ax _)<|At.zH ho _;refine lp7 6 8 10 22 50 51 52 (ai:=λm x6 x8 jo DV G6 D5 TV T=>∃(i:Nat)(sm:C Bool)(gb:C dL),DV=B i/\i+m=l.length/\sm.length=A.ns/\(∀s,s<A.ns->sm[s]?=D (decide<|s∈((l.take i).foldl (Ss A) ([],[])).1))/\GB 3 1 x6 (fF ((l.take i).foldl (Ss A) ([],[])).2) gb/\F [] H T ((rm,4,bools sm)::(rc,68,[I fa l.length fc,.bool ok,I Q 0 0,B st])::gb)) ?_ l.length ⟨0,aX A.ns aC,[],rfl,aY _,by simp,λs hs=>by rw[kH,if_pos hs];simp,GB.nil _ _,by rw[show bools (aX A.ns aC)=aX A.ns (.bool aC)from ku];exact G⟩;clear G;rintro m x6 x8 jo DV G6 D5 TV u H3 ⟨i,sm,gb,rfl,him,hsl,hsm,hg,G⟩;refine kX (λhc=>?_) λhc=>?_
 .refine tl ?_;rw[cO N]at hg;obtain⟨a,n,c,rfl,hn,hf3⟩:=hg.IA (SH:=λ_=>True) (L:=[(rm,4,bools sm),(rc,68,[I fa l.length fc,.bool ok,I Q 0 0,B st])]) (G.perm<|aG (l₁:=[_,_])) λ_ _=>trivial;have hfl:=ais _<|hof l.length;rw[cO (ax _)]at hfl
  obtain rfl:n=(Sc A l).length:=by
   unfold Sc;simp only[aK]at hn;omega
  refine aO.mono (ac1 G.wf hf3 (λrg hu=>?_) (by unfold Sc;omega)) ?_
  .have⟨p,hp,e,he,W,J⟩:=(LK hl _).1 hu;have hoe:=(ho.e _ (hl p hp) e he).2.2;unfold At.aeG at hoe;rcases hoe with hoe|hoe|hoe<;>omega
  rintro v H4 ⟨hb,E⟩;refine Lu.rr ?_;have⟨r,W,J,h3⟩:=hb;exact⟨⟨r,W,a_ G.ext.next J,h3⟩,G.ext.trans' E⟩
 have hil:i<l.length:=N;have hpl:=hl _<|bB hil;have e1:(l.take<|i+1).foldl (Ss A) ([],[])=Ss A ((l.take i).foldl (Ss A) ([],[])) l[i]:=by rw[eH,av hil,iO];rfl
 have amO:=hof i;have ale:=ais _<|hof<|i+1;rw[e1]at ale;refine(hf.ex G.ext).TM N hil (Cc<|av hil) λ_=>?_;generalize(l.take i).foldl (Ss A) ([],[])=x at*;generalize l[i]=p at*;refine G.ns O O O λH4 rp G hx4=>?_;have G:F [] H H4 ((rp,86,[B p.1,B p.2])::(rm,4,bools sm)::(rc,68,[I fa l.length fc,.bool ok,I Q 0 0,B st])::gb):=G;refine eU ?_;refine aO.mono (acX (hk1 G.ext) hpl) ?_;rintro _ H5 ⟨rfl,rfl⟩;refine bG ?_;refine gF (λh=>by cases h) λ_=>?_;refine G.pz<|G.ix (v:=.bool<|decide<|p.1∈x.1) hpl (by rw[bF,hsm _ hpl];rfl) λ_=>?_;refine aT (λhc=>?_) λhc=>?_
 .have e2:Ss A x p=x:=if_pos hc;refine dQ ?_;exact⟨l.length-(i+1),N,_,_,_,_,_,_,_,_,_,O,i+1,sm,gb,og,N,hsl,by rw[e1,e2];exact hsm,by rw[e1,e2];exact hg,F.drop (A:=[_]) G⟩
 have e2:Ss A x p=(p.1::x.1,(A.hx p.1).foldl UY x.2):=if_neg hc;rw[e2]at e1 ale;refine tm ?_;refine G.Zg hpl (by rw[aK];omega) (kk:=λ_ H6 G=>?_)
 have G:F [] H H6 ((rp,86,[B p.1,B p.2])::(rm,4,bools<|sm.set p.1 f)::(rc,68,[I fa l.length fc,.bool ok,I Q 0 0,B st])::gb):=by
  rw[show bools (sm.set p.1 f)=(bools sm).set p.1 (.bool f)from fZ];exact G
 have amP:∀s,s<A.ns->(sm.set p.1 f)[s]?=D (decide<|s∈p.1::x.1):=λs hs=>by
  rw[dG]
  by_cases h:p.1=s
  .subst h;rw[if_pos O,if_pos N];simp
  .rw[if_neg h,hsm s hs];simp[oW h]
 have UJ:(sm.set p.1 f).length=A.ns:=by rw[bJ];exact hsl
 generalize sm.set p.1 f=sm at*;refine ME.ld (H:=hN H6) ((hk1 G.ext).b.cell (o:=4) O) ?_;refine eU ?_;have⟨evs,he1,he2⟩:=hk.a.e;have⟨ea,ec,he3,hfe⟩:=he2 _ hpl;refine(he1.ex G.ext).Uw hpl he3 λr o=>?_;refine eU ?_
 have agO:(A.hx p.1).length<=100000:=by
  have:=At.zH ho<|p.1+1;have:=At.wK ho hpl;omega
 have hts:=JN ((A.hx p.1)) x.2;have hx2:=ais _ amO;refine FY 6 10 52 (ai:=λm x6 jo TV T=>∃(k:Nat)(gb:C dL),TV=B k/\k+m=(A.hx p.1).length/\GB 3 1 x6 (fF<|((A.hx p.1).take k).foldl UY x.2) gb/\F [] H T ((rp,86,[B p.1,B p.2])::(rm,4,bools sm)::(rc,68,[I fa l.length fc,.bool ok,I Q 0 0,B st])::gb)) ?_ (A.hx p.1).length ⟨0,gb,rfl,aY _,hg,G⟩;clear hg G;rintro m' x6 jo TV rg4 H7 ⟨k,gb,rfl,hkm,hg,G⟩;refine kX (λhc=>?_) λhc=>?_
 .refine tl ?_;refine dQ ?_;rw[cO N]at hg;exact⟨l.length-(i+1),N,_,_,_,_,_,_,_,_,_,O,i+1,sm,gb,og,N,UJ,by rw[e1];exact amP,by rw[e1];exact hg,F.drop (A:=[_]) G⟩
 have hke:k<(A.hx p.1).length:=N;refine Jl (hfe.ex G.ext) hke λpe=>?_;have e3:((A.hx p.1).take<|k+1).foldl UY x.2=UY (((A.hx p.1).take k).foldl UY x.2) (A.hx p.1)[k]:=by rw[eH,av hke,iO];rfl
 have htk:=JN ((A.hx p.1).take k) x.2;rw[dF]at htk;generalize((A.hx p.1).take k).foldl UY x.2=ts at*;generalize(A.hx p.1)[k]=e at*;refine G.ns O O O λH8 re G hx7=>?_;have G:F [] H H8 ((re,121,[B e.1,B e.2.1,B e.2.2])::(rp,86,[B p.1,B p.2])::(rm,4,bools sm)::(rc,68,[I fa l.length fc,.bool ok,I Q 0 0,B st])::gb):=G;refine wS (λW=>?_) λW=>?_
 .have e4:UY ts e=ts++[e.2.1]:=if_pos N;refine G.pz<|hg.I4 G O O O (by rw[aK];omega) λq' v' Sn gQ hg G=>?_;refine dQ ?_;exact⟨(A.hx p.1).length-(k+1),N,_,_,_,_,_,O,k+1,gQ,og,N,by rw[e3,e4,show fF (ts++[e.2.1])=fF ts++[B e.2.1]from dA];exact hg,F.drop (A:=[_]) G⟩
 .have e4:UY ts e=ts:=if_neg N;refine dQ ?_;exact⟨(A.hx p.1).length-(k+1),N,_,_,_,_,_,O,k+1,gb,og,N,by rw[e3,e4];exact hg,F.drop (A:=[_]) G⟩
end
end Go.Proofs.Lv
namespace Go.Proofs.Lu
namespace Wk
variable{b:Bool}{o:Nat}
def rY(b:Bool):Nat->C Bool->C Nat
 |_,[]=>[]
 |k,c::l=>if c=b then k::rY b (k+1) l else rY b (k+1) l
variable{A:At}
def I5:∀(l:C Bool)(k:Nat),∀i∈rY b k l,k<=i/\i<k+l.length
 |[],_=>nofun
 |c::l,k=>λi h=>by
  have h:i∈(if c=b then k::rY b (k+1) l else rY b (k+1) l):=h;have e:(c::l).length=l.length+1:=rfl;split at h
  .rcases bP.1 h with rfl|h
   .omega
   .have:=I5 l (k+1) i h;omega
  .have:=I5 l (k+1) i h;omega
def WU{b:Bool}:∀(l:C Bool)(k n:Nat),rY b (k+n) l=(rY b k l).map (·+n)
 |[],_,_=>rfl
 |c::l,k,n=>by
  have:=WU (b:=b) l (k+1) n;rw[Nat.add_right_comm]at this;show(if c=b then(k+n)::rY b (k+n+1) l else rY b (k+n+1) l)=(if c=b then k::rY b (k+1) l else rY b (k+1) l).map _;rw[this];split<;>rfl
def WV:∀(l m:C Bool)(k:Nat),rY b k (l++m)=rY b k l++rY b (k+l.length) m
 |[],_,_=>rfl
 |c::l,m,k=>by
  show(if c=b then k::rY b (k+1) (l++m)else rY b (k+1) (l++m))=(if c=b then k::rY b (k+1) l else rY b (k+1) l)++rY b (k+(l.length+1)) m;rw[WV l m (k+1),show k+1+l.length=k+(l.length+1) by omega];split<;>rfl
def WW:∀(l:C Bool)(k:Nat),(∀b∈l,b=f)->rY f k l=List.range' k l.length/\rY aC k l=[]
 |[],_,_=>⟨rfl,rfl⟩
 |c::l,k,h=>by
  have⟨W,J⟩:=WW l (k+1) λb hb=>h b (by simp[hb]);have:=h c kg;subst this;exact⟨dW (k::·) W,J⟩
def Sf:∀(l:C Bool)(k:Nat),rY aC k l=[]->∀b∈l,b=f
 |[],_,_=>nofun
 |true::l,k,h=>λb hb=>by
  rcases bP.1 hb with rfl|hb
  .rfl
  .exact Sf l (k+1) h b hb
 |false::l,k,h=>nomatch h
def LP:∀(l:C Int)(bs:C Bool),bs.length=l.length->(rY f 0 bs).map (λi=>l[i]?.getD 0)=pick l bs
 |[],[],_=>rfl
 |t::l,b::bs,h=>by
  have ih:=LP l bs<|mg h
  have e:(rY f (0+1) bs).map (λi=>(t::l)[i]?.getD 0)=pick l bs:=by
   rw[WU,vw,<-ih];rfl
  show(if b=f then 0::rY f (0+1) bs else rY f (0+1) bs).map _=if b=f then t::pick l bs else pick l bs
  split
  .exact dW (t::·) e
  .exact e
def pick_len:∀(l:C Int)(bs:C Bool)(k:Nat),bs.length=l.length->(pick l bs).length=(rY f k bs).length
 |[],[],_,_=>rfl
 |t::l,b::bs,k,h=>by
  have ih:=pick_len l bs (k+1)<|mg h;show(if b=f then t::pick l bs else pick l bs).length=(if b=f then k::rY f (k+1) bs else rY f (k+1) bs).length;split
  .exact dW (·+1) ih
  .exact ih
def ae.kept_app:∀(l m:C Int)(z:ae),z.kept A (l++m)=z.kept A l++(z.all A l).kept A m
 |[],_,_=>rfl
 |t::l,m,z=>dW (_::·)<|ae.kept_app l m<|z.feed A t
def ae.all_app(l m:C Int)(z:ae):z.all A (l++m)=(z.all A l).all A m:=iO ..
def ae.N7:∀(l:C Int)(n:Nat)(z:ae),z.kept A (l.take n)=(z.kept A l).take n
 |[],n,z=>by cases n<;>rfl
 |t::l,0,z=>rfl
 |t::l,n+1,z=>dW (_::·)<|ae.N7 l n<|z.feed A t
def ae.WX:∀(l:C Int)(n:Nat)(h:n<l.length)(z:ae),(z.kept A l)[n]?=D (decide<|off A (z.all A<|l.take n).sp l[n])
 |t::l,0,h,z=>rfl
 |t::l,n+1,h,z=>ae.WX l n (uA h)<|z.feed A t
def ada:∀(l:C Bool)(k i:Nat),i∈rY b k l->l[i-k]?=D b
 |c::l,k,i,h=>by
  have h':i∈(if c=b then k::rY b (k+1) l else rY b (k+1) l):=h
  have key:i∈rY b (k+1) l->(c::l)[i-k]?=D b:=λh=>by
   have:=(I5 _ _ _ h).1;have e:=ada l (k+1) i h;rw[show i-k=(i-(k+1))+1 by omega];exact e
  split at h'
  .next hc=>
   rcases bP.1 h' with rfl|h
   .rw[jc,hc];rfl
   .exact key h
  .exact key h'
def ae.not(l:C Int)(z:ae)(h:o∈rY aC 0 (z.kept A l)):∃ho:o<l.length,
 rY aC 0 (z.kept A<|pick (l.take o) ((z.kept A l).take o)++[l[o]])≠[]:=by
 have W:=ada _ _ _ h;have J:=(I5 _ _ _ h).2;rw[ae.sF,aY]at J;rw[jG,ae.WX _ _ J]at W;refine⟨J,λe=>?_⟩;have:=Sf _ _ e;rw[<-ae.N7,ae.Ht,(ae.again (l.take o) z).1]at this;have:=this _<|cZ _<|aP.2 O;rw[dK W]at this;exact Bool.noConfusion this
def ae.grows(l m:C Int)(z:ae):
 rY f 0 (z.kept A<|l++m)=rY f 0 (z.kept A l)++(rY f 0<|(z.all A l).kept A m).map (·+l.length)/\
 rY f 0 (z.kept A<|pick l (z.kept A l)++m)=f_ (rY f 0<|z.kept A l).length++(rY f 0<|(z.all A l).kept A m).map (·+(rY f 0<|z.kept A l).length)/\
 z.all A (pick l (z.kept A l)++m)=z.all A (l++m):=by
 have⟨W,J⟩:=ae.again l z (A:=A);have hl:=pick_len l (z.kept A l) 0<|ae.sF l z;refine⟨?_,?_,by rw[ae.all_app,ae.all_app,W]⟩
 .rw[ae.kept_app,WV,ae.sF,WU]
 .rw[ae.kept_app,WV,W,ae.sF,WU,hl,(WW _ 0 J).1,ae.sF,hl,alList_range_eq_range_Q]
def ae.lng:∀(l:C Int)(z:ae)(k:Nat),(z.all A l).long=z.long+(rY f k<|z.kept A l).length
 |[],_,_=>rfl
 |t::l,z,k=>by
  show((z.feed A t).all A l).long=z.long+(if decide (off A z.sp t)=f then k::rY f (k+1) _ else rY f (k+1) _).length;rw[ae.lng l _ (k+1)];unfold ae.feed
  by_cases h:off A z.sp t
  .rw[if_pos h,if_pos<|bL h,cK];show z.long+1+_=_;omega
  .rw[if_neg h,if_neg<|mg h]
def ae.adb(l:C Int)(z:ae):(z.all A l).long<=z.long+l.length:=by
 have:∀(bs:C Bool)(k:Nat),(rY f k bs).length<=bs.length:=by
  intro bs
  induction bs with
  |nil=>exactλ_=>ax _
  |cons b bs ih=>
   intro k;show(if b=f then k::rY f (k+1) bs else rY f (k+1) bs).length<=_;split
   .exact mK<|ih _
   .exact lX<|ih _
 have:=this (z.kept A l) 0;rw[ae.sF]at this;rw[ae.lng l z 0];omega
def ae.ade(ho:A.Ok):∀(l:C Int)(z:ae),ae.h1 A z->ae.h1 A (z.all A l)
 |[],_,h=>h
 |t::l,z,h=>ae.ade ho l _<|h.feed ho t
def aiw{s n k:Nat}(hk:k<=n):(k+1)*(s*(s*(k+1)+1))<=(2*s+2)*((2*s+2)*(n+2)+1)*(n+2):=by
 rw[vB (k+1)];refine gY (gY N<|mK<|gY N N) N
end Wk
end Go.Proofs.Lu
