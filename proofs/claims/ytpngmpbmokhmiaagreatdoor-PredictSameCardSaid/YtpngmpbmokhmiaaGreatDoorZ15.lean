/-
  Part 15 of the proof. No condition.
-/
import Derived.Test.YtpngmpbmokhmiaaGreatDoorZ14
set_option linter.unusedVariables false
set_option linter.unusedSimpArgs false
set_option maxRecDepth 100000
set_option maxHeartbeats 4000000
set_option linter.defProp false
open Go.Ae(N)
open Option renaming some->Z,none->W
open Bool renaming true->f,false->aA
open Go renaming Value->D,TypeId->aG,Program->aS,Operand->bO,IntKind->fu
open Go.Value renaming slice->T
open Nat renaming beq->ay,ble->aB,sub->dA
open List renaming replicate->aU,range->fZ
open BitVec renaming ofInt->g_
open And renaming intro->iq
open Go.IntKind renaming wrap->mh
noncomputable section
namespace Go.Proofs.Lv
open Go.Proofs.Lu
open Go.Ae Go.Ae.SH
section
variable{H0 H:F}{L SH:List dJ}{S:List Nat}{ax:Nat->Prop}{A:At}{q:AV}
def w9(hw:Wf H)(h:rX ax H A q)(ho:A.Ok):aJ Pg X 54 [q.v A] H (Q1 (λv C=>∃q':AV,v=q'.v A/\rX (H.next<=·) C A q') H):=by
 refine aJ.mono (Nb hw h ho) ?_;rintro _ C ⟨E,SH,rfl,⟨_,_,hB⟩,G⟩;obtain⟨q',rfl,h'⟩:=(hB 0).atC (G.cast (a_ SH).symm) ho;exact⟨⟨q',O,h'⟩,G.ext⟩
def rX.both(h:rX ax H A q):rX (λr=>ax r/\r<H.next) H A q:=by
 have fl:∀{ty n es a E},i_ ax ty H a n es E->i_ (λr=>ax r/\r<H.next) ty H a n es E:=λh=>⟨h.1,λr o e hn=>let⟨Q,I,h3⟩:=h.2 r o e hn;⟨⟨Q,I⟩,I,h3⟩⟩;exact⟨fl h.n,fl h.s,fl h.p,fl h.o,let⟨evs,Q,I⟩:=h.e;⟨evs,fl Q,λi hi=>let⟨a,c,h3,h4⟩:=I i hi;⟨a,c,h3,fl h4⟩⟩⟩
def rX.m'(h:rX ax H A q):rX ax (hM H0 H) A q:=⟨h.n,h.s,h.p,h.o,h.e⟩
structure zU(ax:Nat->Prop)(H:F)(rw:Nat)(A:At)(q:AV)(ev sv:D)(sb:List Bool):Prop where
 k:ax rw/\rw<H.next
 b:Bk H rw 114 (q.cells A++[ev,sv])
 a:rX ax H A q
 s:∃sa sc,sv=T sa A.ns sc/\i_ ax 4 H sa A.ns 1 (bools sb)
 l:sb.length=A.ns
 on:∀s,s<A.ns->sb[s]?=Z (decide<|s∈A.sp)
def ab9(hw:Wf H)(h:rX ax H A q)(ho:A.Ok)(ht:A.trim=A):aJ Pg X 21 [q.v A] H (Q1 (λv C=>∃(w:D)(code:Int),v=.tuple ⟨[w,vi code]⟩/\(code=0->∃rw q' ev sv sb,w=pr rw/\zU (H.next<=·) C rw A q' ev sv sb)) H):=by
 have G:=M.refl hw;have hbig:=ho.big;have KL:=ho.few;refine ce [0,1,2,3,4,6,8,33,34,35] ?_;refine tl ?_;refine G.box O λH1 u G=>?_;rw[jV]at G;refine G.rF 0 O (by show 0+6<=6;omega) ?_;refine aJ.mono (Ub G.wf (h.ex G.ext) ho) ?_;rintro v H2 ⟨⟨code,z,rfl⟩,J⟩;have G:=G.call J;refine aY ?_;refine bT (λy=>?_) λy=>?_
 .refine iB O<|rr ?_;exact⟨⟨_,_,O,λh=>absurd h<|by decide⟩,G.ext⟩
 subst y;refine G.J8 0 O (by show 0+6<=6;omega) ?_;simp only[gZ G.wf];refine aJ.mono (Nc (nG H2) (h.ex G.ext).n' ho) ?_;rintro v H3 ⟨⟨q1,rfl,Q⟩,J⟩;have G:=G.mV J;refine G.J8 0 O (by show 0+6<=6;omega) ?_;simp only[gZ G.wf];rw[ht]at Q|-;have Q:rX (H2.next<=·) (hM H2 H3) A q1:=Q.m';refine aJ.mono (Yh (nG _) Q.n' (h.ex G.ext).n' ho) ?_;rintro v H4 ⟨rfl,hx4⟩;have G:=G.mV hx4;refine aY ?_;refine iB (by simp only[eG,fK J,fK hx4];rfl) ?_;refine dL (λhb=>by cases hb) λ_=>?_;refine tl ?_;generalize hM (hM H2 H3) H4=H5 at G;refine G.J8 0 O (by show 0+6<=6;omega) ?_;simp only[gZ G.wf];refine aJ.mono (w9 (nG _) (h.ex G.ext).n' ho) ?_;rintro _ H6 ⟨⟨q2,rfl,I⟩,hx6⟩;have hge:=G.ext.next
 have I:rX (H5.next<=·) (hM H5 H6) A q2:=I.m';have amK:=(G.lo _<|aL ..).2;have G:=G.mV hx6;refine G.J8 0 O (by show 0+6<=6;omega) ?_;simp only[gZ G.wf];refine aJ.mono (EJ (nG _) (h.ex G.ext).n' ho) ?_;rintro _ H7 ⟨⟨l,⟨ea,ec,rfl,_⟩,_⟩,hx7⟩;have I:=I.ex hx7.draw;have G:=G.mV hx7;refine G.J8 0 O (by show 0+6<=6;omega) ?_;simp only[gZ G.wf];refine aJ.mono (qP (nG _) q A) ?_;rintro _ H8 ⟨rfl,Bw⟩;have I:=I.ex Bw.draw;have G:=G.mV Bw;generalize hH:hM (hM (hM H5 H6) H7) H8=H9 at G I|-;have I:=I.both;have hrg:=(G.lo _<|aL ..).2;refine G.alO (az _) N λDm rs G c1 BD hrs=>?_;rw[mK]at G;have I:=I.ex BD;refine PU.of (v:=.agg ⟨q2.cells A++[T ea A.nr ec,T (Z ⟨rs,0,W⟩) A.ns A.ns]⟩) O ?_;refine G.aka O λOW rw G c2 ahF hrw=>?_;have I:=I.ex ahF;have G:M [] H (hM (hM H9 Dm) OW) [(rw,114,q2.cells A++[T ea A.nr ec,T (Z ⟨rs,0,W⟩) A.ns A.ns]),(rs,4,aU A.ns<|.bool aA),(u,27,q.cells A)]:=G;refine iB (by simp only[eG,fK hx6,fK hx7,fK Bw,hH,c1,c2];rfl) ?_;generalize hM (hM H9 Dm) OW=H12 at G I|-;refine d_ ?_;have hpl:=ho.XX;have hSb:=G;have G:=G.base;refine lp2 8 35 (h2:=λm x8 DN C=>∃(i:Nat)(sb:List Bool),DN=B i/\i+m=A.nr/\sb.length=A.ns/\(∀s,s<A.ns->sb[s]?=Z (decide<|s∈A.sp.take i))/\M [rw,rs,u] H12 C [(rw,114,q2.cells A++[T ea A.nr ec,T (Z ⟨rs,0,W⟩) A.ns A.ns]),(rs,4,bools sb),(u,27,q.cells A)]) ?_ A.nr ⟨0,aU A.ns aA,rfl,N,by simp,λs hs=>by rw[ku,if_pos hs];simp,by rw[show bools (aU A.ns aA)=aU A.ns (.bool aA)from jY];exact G⟩;clear G;rintro m x8 DN mO H13 ⟨i,sb,rfl,him,hsl,hsb,G⟩
 have h3:=I.stay G.ext λr R=>by
  have h9:=BD.next
  simp only[bM,dW,iD]at R;rcases R with rfl|rfl|rfl<;>omega
 refine tp ?_;refine aC (λy=>?_) λy=>?_;rotate_left
 .refine tl ?_;have G:=hSb.over G;have hm:((rs,4,bools sb):dJ)∈[(rw,114,q2.cells A++[T ea A.nr ec,T (Z ⟨rs,0,W⟩) A.ns A.ns]),(rs,4,bools sb),(u,27,q.cells A)]:=by simp
  refine rr ?_;refine⟨⟨_,_,O,λ_=>⟨rw,q2,_,_,sb,rfl,⟨G.wB<|aL ..,(G.lo _<|aL ..).2⟩,G.get 0 O,h3.wk λr R=>aX hge R.1,⟨_,_,rfl,i_.one G hm (by rw[aM];omega)<|G.wB hm⟩,hsl,λs hs=>?_⟩⟩,G.ext⟩;rw[hsb s hs,cK N]
 have hi:i<A.nr:=by omega
 have hpi:=(ho.p i hi).1;refine(h.p.ex (hSb.over G).ext).ix (v:=B<|A.P i) hi (y_ N) λp=>G.oF ?_;refine G.YD hpi (by rw[aM];omega) (kk:=λp H14 G=>?_);refine dU ?_;refine⟨A.nr-(i+1),N,_,_,_,_,O,i+1,sb.set (A.P i) f,nX,N,by rw[bF];exact hsl,λs hs=>?_,by rw[show bools (sb.set (A.P i) f)=(bools sb).set (A.P i) (.bool f)from fV];exact G⟩;have e:A.sp[i]?=Z (A.P i):=by unfold At.P;rw[au N];rfl
 rw[dB,eO,e];simp only[Option.toList,bX,aO]
 by_cases hp:A.P i=s
 .subst hp;rw[if_pos O,if_pos N,bG<|.inr O]
 .rw[if_neg hp,hsb s hs];have:s∈A.sp.take i\/s=A.P i<->s∈A.sp.take i:=⟨λh=>h.resolve_right λh=>hp h.symm,.inl⟩;simp only[this]
end
end Go.Proofs.Lv
namespace Go.Proofs.Lu
def KY{m n:Nat}{l:List (Nat×Nat)}(h:l.Nodup)(hb:∀p∈l,p.1<m/\p.2<n):l.length<=m*n:=by
 have I:(l.map λp=>p.1*n+p.2).Nodup:=by
  refine List.pairwise_map.2<|List.Pairwise.imp_of_mem (λ{a b} ha hb' h3 e=>?_) h;have Q:=hb _ ha;have I:=hb _ hb';refine h3<|Prod.ext ?_ ?_
  .have e1:=dV (·/n) e;have hn:0<n:=by omega
   simp only[uK _ n,Nat.mul_add_div hn,t_ Q.2,t_ I.2]at e1;omega
  .have e1:=dV (·%n) e;simp only[uK _ n,Nat.mul_add_mod,ug Q.2,ug I.2]at e1;exact e1
 have h3:=I.length_le_of_subset (l₂:=fZ<|m*n) λx J=>by
  obtain⟨p,hp,rfl⟩:=bQ.1 J;have:=hb p hp;rw[lZ]
  calc p.1*n+p.2<p.1*n+n:=by omega
   _=(p.1+1)*n:=by rw[kJ]
   _<=m*n:=eU _ N
 simpa using h3
namespace Wk
variable{a i r:Nat}
abbrev Sp:=Nat×Nat
variable{av:Nat->Sp}
abbrev Sk:=List<|Nat×Nat×List Nat
def sV(s:Sk)(k:Nat):Nat×Nat×List Nat:=s[k-1]?.getD (0,0,[])
def Rj(s:Sk)(r a:Nat):Option Nat:=s.findIdx? λe=>e.1==r&&e.2.1==a
def put(s:Sk)(r a rg:Nat):Sk×Nat×Bool:=
 match Rj s r a with
 |some i=>if rg∈(sV s<|i+1).2.2 then(s,i+1,aA)else(s.set i (r,a,(sV s<|i+1).2.2++[rg]),i+1,f)
 |none=>(s++[(r,a,[rg])],s.length+1,f)
structure Rn where
 sk:Sk
 sp:List Sp
 en:List Nat
 ok:Bool
def Rn.meet(x:Rn)(p:Sp):Rn:=if p∈x.sp then x else{x with sp:=x.sp++[p]}
def Rn.back(x:Rn)(p:Sp):Rn:=
 if p.2=0 then{x with ok:=f}else if p.2∈x.en then x
 else(sV x.sk p.2).2.2.foldl (λhc rg=>hc.meet ((sV x.sk p.2).1,rg)) {x with en:=p.2::x.en}
def Rn.hop(x:Rn)(q:Nat×Bool)(p:Sp):Rn:=if q.1∈x.en/\q.2=f then x.meet p else x
variable(A:At)(a:Nat)
def Rn.along(p:Sp)(x:Rn)(e:Ed):Rn:=
 if e.1=1 then x
 else if e.1=2 then
  ({x with sk:=(put x.sk e.2.2 a p.2).1}.meet (A.S e.2.1,(put x.sk e.2.2 a p.2).2.1)).hop (put x.sk e.2.2 a p.2).2 (e.2.2,p.2)
 else x.meet (e.2.2,p.2)
def Rn.one(x:Rn)(p:Sp):Rn:=(A.cs p.1).foldl (Rn.along A a p) (if p.1∈A.sp then x.back p else x)
def go:Nat->Nat->Rn->Rn
 |0,_,x=>x
 |n+1,i,x=>match x.sp[i]? with
  |none=>x
  |some p=>go n (i+1)<|x.one A a p
def bnd:Nat:=A.ns*(A.ns*(a+1)+1)
def close(s:Sk)(l:List Sp):Rn:=go A a (bnd A a+1) 0<|l.foldl Rn.meet ⟨s,[],[],aA⟩
structure Sk.ak(s:Sk):Prop where
 nd:(s.map λe=>(e.1,e.2.1)).Nodup
 b:∀e∈s,(e.1<A.ns/\e.2.1<=a)/\∀rg∈e.2.2,rg<=s.length
 rg:∀e∈s,e.2.2.Nodup
structure Rn.ak(x:Rn):Prop where
 sk:Sk.ak A a x.sk
 nd:x.sp.Nodup
 b:∀p∈x.sp,p.1<A.ns/\p.2<=x.sk.length
variable{A:At}{a:Nat}{x:Rn}{s:Sk}{p:Sp}
def Sk.ak.le(h:Sk.ak A a s):s.length<=A.ns*(a+1):=by
 have:=KY h.nd (m:=A.ns) (n:=a+1) λp hp=>by
  obtain⟨e,he,rfl⟩:=bQ.1 hp;have:=(h.b e he).1;exact⟨this.1,N⟩
 simpa using this
def Sk.ak.few(h:Sk.ak A a s)(n:Nat):(sV s n).2.2.length<=s.length+1:=by
 unfold sV;cases e:s[n-1]? with
 |none=>exact bg _
 |some x=>
  have J:=aR e;have:=(h.rg x J).length_le_of_subset (l₂:=fZ<|s.length+1) λrg hu=>by have:=(h.b x J).2 rg hu;rw[lZ];omega
  simpa using this
def Rn.ak.le(h:x.ak A a):x.sp.length<=bnd A a:=by
 have Q:=KY h.nd (m:=A.ns) (n:=x.sk.length+1) λp hp=>⟨(h.b p hp).1,by have:=(h.b p hp).2;omega⟩;exact aX Q<|fP _ (by have:=h.sk.le;omega)
def Rn.ak.meet(h:x.ak A a)(Q:p.1<A.ns)(I:p.2<=x.sk.length):(x.meet p).ak A a:=by
 unfold Rn.meet;split
 .exact h
 .next hp=>
  refine⟨h.sk,?_,λq hq=>?_⟩
  .refine ny.2 ⟨h.nd,by simp,λq hq r R e=>?_⟩;rw[aO]at R;exact hp<|R▸e▸hq
  .rcases bX.1 hq with hq|hq
   .exact h.b q hq
   .rw[aO]at hq;subst hq;exact⟨Q,I⟩
def Rn.BF:(x.meet p).sk=x.sk:=by unfold Rn.meet;split<;>rfl
def Rn.ak.meets(l:List Nat):∀hc:Rn,hc.ak A a->(∀rg∈l,(av rg).1<A.ns/\(av rg).2<=hc.sk.length)->(l.foldl (λhc rg=>hc.meet<|av rg) hc).ak A a:=by
 induction l with
 |nil=>exactλhc h _=>h
 |cons rg l ih=>exactλhc h hb=>ih _ (h.meet (hb rg<|by simp).1 (hb rg<|by simp).2) λv hv=>by rw[Rn.BF];exact hb v (by simp[hv])
def Rk(h:Rj s r a=Z i):i<s.length/\(sV s<|i+1).1=r/\(sV s<|i+1).2.1=a/\sV s (i+1)∈s:=by
 unfold Rj at h;rw[List.findIdx?_eq_some_iff_getElem]at h;obtain⟨Q,I,_⟩:=h;have e:sV s (i+1)=s[i]:=by unfold sV;rw[kW,au Q];rfl
 rw[e];simp at I;exact⟨Q,I.1,I.2,bB Q⟩
def afZ(h:Sk.ak A a s){rg:Nat}(R:r<A.ns)(hu:rg<=s.length):Sk.ak A a (put s r a rg).1/\(put s r a rg).2.1<=(put s r a rg).1.length/\s.length<=(put s r a rg).1.length:=by
 unfold put;split
 .next i hi=>
  obtain⟨Q,I,h3,h4⟩:=Rk hi;split
  .exact⟨h,Q,az _⟩
  .next hnu=>
   refine⟨⟨?_,λe he=>?_,λe he=>?_⟩,by rw[bF];exact Q,by rw[bF];exact az _⟩
   .have:(s.set i (r,a,(sV s<|i+1).2.2++[rg])).map (λe=>(e.1,e.2.1))=s.map λe=>(e.1,e.2.1):=by
     rw[fV];refine gX λj=>?_;rw[dB];split
     .next hj=>
      subst hj;have e:sV s (i+1)=s[i]:=by unfold sV;rw[kW,au Q];rfl
      rw[e]at I h3;simp[Q,I,h3]
     .rfl
    rw[this];exact h.nd
   .rw[bF];rcases gY he with he|rfl
    .exact h.b e he
    .refine⟨⟨R,az _⟩,λv hv=>?_⟩;rcases bX.1 hv with hv|hv
     .exact(h.b _ h4).2 v hv
     .rw[aO]at hv;omega
   .rcases gY he with he|rfl
    .exact h.rg e he
    .exact ny.2 ⟨h.rg _ h4,by simp,λv hv w hw e=>hnu (by rw[aO]at hw;subst hw;subst e;exact hv)⟩
 .next hi=>
  refine⟨⟨?_,λe he=>?_,λe he=>?_⟩,by simp,by simp⟩
  .rw[dG];refine ny.2 ⟨h.nd,by simp,λq hq v hv e=>?_⟩;obtain⟨z,hz,rfl⟩:=bQ.1 hq;simp only[iA,jy,aO]at hv;subst hv;unfold Rj at hi;rw[List.findIdx?_eq_none_iff]at hi;have:=hi z hz;simp at this e;exact this e.1 e.2
  .rw[aQ];rcases bX.1 he with he|he
   .exact⟨(h.b e he).1,λv hv=>by have:=(h.b e he).2 v hv;simp;omega⟩
   .rw[aO]at he;subst he;exact⟨⟨R,az _⟩,λv hv=>by rw[aO]at hv;simp;omega⟩
  .rcases bX.1 he with he|he
   .exact h.rg e he
   .rw[aO]at he;subst he;simp
theorem Rn.ak.back(h:x.ak A a)(hp:p∈x.sp):(x.back p).ak A a:=by
 unfold Rn.back;split
 .exact⟨h.sk,h.nd,h.b⟩
 split
 .exact h
 .next h0 _=>
  have hb:=(h.b p hp).2
  have e:sV x.sk p.2∈x.sk:=by
   unfold sV;rw[au (show p.2-1<x.sk.length by omega)];exact bB _
  exact Rn.ak.meets (av:=λrg=>((sV x.sk p.2).1,rg)) _ _ ⟨h.sk,h.nd,h.b⟩ λrg hu=>⟨(h.sk.b _ e).1.1,(h.sk.b _ e).2 rg hu⟩
def Rn.ak.along(ho:A.Ok)(h:x.ak A a)(hp:p.1<A.ns/\p.2<=x.sk.length){e:Ed}(he:e∈A.cs p.1):(x.along A a p e).ak A a/\x.sk.length<=(x.along A a p e).sk.length:=by
 have he:=ho.e _ hp.1 e he;unfold Rn.along;split
 .exact⟨h,az _⟩
 split
 .next Q I=>
  have R:e.2.1<A.nr:=by rcases he.2.2 with h|h|h<;>omega
  obtain⟨w1,w2,w3⟩:=afZ h.sk he.1 hp.2;have hy:Rn.ak A a ({x with sk:=(put x.sk e.2.2 a p.2).1}.meet (A.S e.2.1,(put x.sk e.2.2 a p.2).2.1)):=Rn.ak.meet ⟨w1,h.nd,λq hq=>⟨(h.b q hq).1,aX (h.b q hq).2 w3⟩⟩ (ho.s _ R).1 w2;have hk:({x with sk:=(put x.sk e.2.2 a p.2).1}.meet (A.S e.2.1,(put x.sk e.2.2 a p.2).2.1):Rn).sk=(put x.sk e.2.2 a p.2).1:=Rn.BF;unfold Rn.hop;split
  .exact⟨hy.meet he.1 (by rw[hk];omega),by rw[Rn.BF,hk];exact w3⟩
  .exact⟨hy,by rw[hk];exact w3⟩
 .exact⟨h.meet he.1 hp.2,by rw[Rn.BF];exact az _⟩
def Rn.acd(l:List Nat):∀hc:Rn,(l.foldl (λhc rg=>hc.meet<|av rg) hc).sk=hc.sk:=by
 induction l with
 |nil=>exactλ_=>rfl
 |cons rg l ih=>exactλhc=>(ih _).trans Rn.BF
def Rn.VX:(x.back p).sk=x.sk:=by
 unfold Rn.back;split
 .rfl
 split
 .rfl
 .exact Rn.acd _ _
def Rn.ak.Uc(ho:A.Ok)(hp:p.1<A.ns)(l:List Ed):∀hc:Rn,(∀e∈l,e∈A.cs p.1)->hc.ak A a->p.2<=hc.sk.length->(l.foldl (Rn.along A a p) hc).ak A a/\hc.sk.length<=(l.foldl (Rn.along A a p) hc).sk.length:=by
 induction l with
 |nil=>exactλ_ _ h _=>⟨h,az _⟩
 |cons e l ih=>
  intro hc hl h I;obtain⟨w1,w2⟩:=h.along ho ⟨hp,I⟩<|hl e (by simp);obtain⟨w3,w4⟩:=ih _ (λd hd=>hl d<|by simp[hd]) w1<|aX I w2;exact⟨w3,aX w2 w4⟩
def Rn.ak.one(ho:A.Ok)(h:x.ak A a)(hp:p∈x.sp):(x.one A a p).ak A a:=by
 have hb:=h.b p hp;unfold Rn.one;split
 .exact(Rn.ak.Uc ho hb.1 _ _ (λ_ h=>h) (h.back hp) (by rw[Rn.VX];exact hb.2)).1
 .exact(Rn.ak.Uc ho hb.1 _ _ (λ_ h=>h) h hb.2).1
def aki(ho:A.Ok):∀n i x,Rn.ak A a x->(go A a n i x).ak A a
 |0,_,x,h=>h
 |n+1,i,x,h=>by
  show Rn.ak A a (match x.sp[i]? with|none=>x|some p=>go A a n (i+1)<|x.one A a p);cases hp:x.sp[i]? with
  |none=>exact h
  |some p=>exact aki ho n (i+1) _<|h.one ho<|aR hp
end Wk
namespace Wk
variable{l:List Sp}{a b k:Nat}{s:Sk}
variable(A:At)
def w_(l:List Sp)(t:Int):List Sp:=(l.flatMap λp=>((A.cs p.1).filter λe=>e.1==1&&((e.2.1:Nat):Int)==t).map λe=>(e.2.2,p.2)).foldl (λo p=>if p∈o then o else o++[p]) []
def off(l:List Sp)(t:Int):Prop:=∃p∈l,∃e∈A.cs p.1,e.1=1/\((e.2.1:Nat):Int)=t
instance(l:List Sp)(t:Int):Decidable (off A l t):=by unfold off;exact inferInstance
structure ag where
 sk:Sk
 sp:List Sp
 ok:Bool
 long:Nat
 st:Nat
def ag.of(x:Rn)(n k:Nat):ag:=⟨x.sk,x.sp,x.ok,n,k+x.sp.length⟩
def ag.new:ag:=.of (close A 0 [] [(A.S 0,0)]) 0 0
def ag.on(z:ag)(t:Int):ag:=.of (close A (z.long+1) z.sk<|w_ A z.sp t) (z.long+1) z.st
def ag.feed(z:ag)(t:Int):ag:=if off A z.sp t then z.on A t else z
def ag.all(z:ag)(l:List Int):ag:=l.foldl (ag.feed A) z
def ag.kept:ag->List Int->List Bool
 |_,[]=>[]
 |z,t::l=>decide (off A z.sp t)::ag.kept (z.feed A t) l
def pick:List Int->List Bool->List Int
 |t::l,b::bs=>if b=f then t::pick l bs else pick l bs
 |_,_=>[]
variable{A:At}
def ag.C5:∀(l:List Int)(z:ag),(z.kept A l).length=l.length
 |[],_=>rfl
 |t::l,z=>dV (·+1)<|ag.C5 l _
def ag.again:∀(l:List Int)(z:ag),z.all A (pick l<|z.kept A l)=z.all A l/\∀b∈z.kept A (pick l<|z.kept A l),b=f
 |[],z=>⟨rfl,λb h=>nomatch h⟩
 |t::l,z=>by
  show ag.all A z (if decide (off A z.sp t)=f then t::pick l _ else pick l _)=ag.all A (z.feed A t) l/\∀b∈z.kept A (if decide (off A z.sp t)=f then t::pick l _ else pick l _),b=f
  by_cases h:off A z.sp t
  .rw[if_pos (bG h)];obtain⟨Q,I⟩:=ag.again l<|z.feed A t;refine⟨Q,λb hb=>?_⟩;rcases bM.1 hb with rfl|hb
   .exact bG h
   .exact I b hb
  .rw[if_neg (by simpa using h)];have e:z.feed A t=z:=if_neg h;rw[e];exact ag.again l z
def ag.ace(l:List Int)(t:Int)(z:ag):z.all A (l++[t])=(z.all A l).feed A t:=by unfold ag.all;rw[iN];rfl
def ag.GI:∀(l:List Int)(t:Int)(z:ag),z.kept A (l++[t])=z.kept A l++[decide (off A (z.all A l).sp t)]
 |[],t,z=>rfl
 |rg::l,t,z=>dV (_::·)<|ag.GI l t<|z.feed A rg
structure ag.ak(A:At)(z:ag):Prop where
 sk:Sk.ak A z.long z.sk
 b:∀p∈z.sp,p.1<A.ns/\p.2<=z.sk.length
 le:z.sp.length<=bnd A z.long
 st:z.st<=(z.long+1)*bnd A z.long
variable{z:ag}
def Sk.ak.up(h:Sk.ak A a s)(hb:a<=b):Sk.ak A b s:=⟨h.nd,λe he=>⟨⟨(h.b e he).1.1,aX (h.b e he).1.2 hb⟩,(h.b e he).2⟩,h.rg⟩
def GL(h:a<=b):bnd A a<=bnd A b:=fP _<|my<|fP _ N
def VY:∀(l:List Sp)(x:Rn),x.ak A a->(∀p∈l,p.1<A.ns/\p.2<=x.sk.length)->(l.foldl Rn.meet x).ak A a:=by
 intro l
 induction l with
 |nil=>exactλx h _=>h
 |cons p l ih=>exactλx h hb=>ih _ (h.meet (hb p<|by simp).1 (hb p<|by simp).2) λq hq=>by rw[Rn.BF];exact hb q (by simp[hq])
def VZ(ho:A.Ok)(hs:Sk.ak A a s)(hl:∀p∈l,p.1<A.ns/\p.2<=s.length):(close A a s l).ak A a:=
 aki ho _ _ _ (VY l ⟨s,[],[],aA⟩ ⟨hs,jZ,λp h=>nomatch h⟩ hl)
def V2{t:Int}{q:Sp}(h:q∈w_ A l t):∃p∈l,∃e∈A.cs p.1,e.1=1/\((e.2.1:Nat):Int)=t/\q=(e.2.2,p.2):=by
 have key:∀(m o:List Sp),q∈m.foldl (λo p=>if p∈o then o else o++[p]) o->q∈m\/q∈o:=by
  intro m
  induction m with
  |nil=>exactλo h=>.inr h
  |cons p m ih=>
   intro o h;rcases ih _ h with h|h
   .exact .inl (by simp[h])
   .have h:q∈(if p∈o then o else o++[p]):=h;split at h
    .exact .inr h
    .rcases bX.1 h with h|h
     .exact .inr h
     .rw[aO]at h;exact .inl (by simp[h])
 rcases key _ _ h with h|h
 .obtain⟨p,hp,h⟩:=qB.1 h;obtain⟨e,he,rfl⟩:=bQ.1 h;have he:=uU.1 he;simp at he;exact⟨p,hp,e,he.1,he.2.1,he.2.2,O⟩
 .cases h
def ag.akj(ho:A.Ok)(hs:Sk.ak A a s)(hl:∀p∈l,p.1<A.ns/\p.2<=s.length)(hk:k<=a*bnd A a):ag.ak A (.of (close A a s l) a k):=
 have h:=VZ ho hs hl
 ⟨h.sk,h.b,h.le,by
   have:=h.le;show k+_<=(a+1)*bnd A a;rw[kJ];omega⟩
def ag.af0(ho:A.Ok):ag.ak A (ag.new A):=ag.akj ho ⟨jZ,(λe h=>by cases h),λe h=>by cases h⟩ (λp h=>by
 rw[aO]at h;subst h;exact⟨(ho.s 0 ho.pos).1,bg _⟩) (bg _)
def ag.ak.nx(ho:A.Ok)(h:ag.ak A z)(t:Int):∀p∈w_ A z.sp t,p.1<A.ns/\p.2<=z.sk.length:=λq hq=>by
 obtain⟨p,hp,e,he,_,_,rfl⟩:=V2 hq;exact⟨(ho.e _ (h.b p hp).1 e he).1,(h.b p hp).2⟩
def ag.ak.on(ho:A.Ok)(h:ag.ak A z)(t:Int):ag.ak A (z.on A t):=
 ag.akj ho (h.sk.up<|iG _) (h.nx ho t) (aX h.st<|fP _<|GL<|iG _)
def ag.ak.feed(ho:A.Ok)(h:ag.ak A z)(t:Int):ag.ak A (z.feed A t):=by
 unfold ag.feed;split
 .exact h.on ho t
 .exact h
end Wk
end Go.Proofs.Lu
namespace Go.Proofs.Lv
open Go.Proofs.Lu Go.Proofs.Lu.Wk
open Go.Ae Go.Ae.SH
variable{C:F}
section
variable{H0 H:F}{L SH:List dJ}{S:List Nat}
abbrev pE(p:Sp):D:=.agg ⟨[B p.1,B p.2]⟩
abbrev u0:D:=.agg ⟨[]⟩
abbrev vnE(n:Nat):D:=B n
def acg(a b:Sp):bR (IZ (a.1:Int) b.1) (bR (IZ (a.2:Int) b.2) (Z f)<|Z aA) (Z aA)=Z (decide<|a=b):=by
 obtain⟨a1,a2⟩:=a;obtain⟨b1,b2⟩:=b;rw[Bc,Bc]
 by_cases Q:a1=b1<;>by_cases I:a2=b2<;>simp[Q,I]<;>first|rfl|(rw[dn N];rfl)
def aen(a b:Sp):kY Pg 86 (pE a) (pE b)=Z (decide<|a=b):=Eq.trans (by kernel_rfl)<|acg a b
def af1(a b:Sp):kY Pg 161 (pE a) (pE b)=Z (decide<|a=b):=Eq.trans (by kernel_rfl)<|acg a b
def af2(a b:Sp):kY Pg 163 (pE a) (pE b)=Z (decide<|a=b):=Eq.trans (by kernel_rfl)<|acg a b
def eq3(a b:Nat):kY Pg 3 (vnE a) (vnE b)=Z (decide<|a=b):=by
 have:kY Pg 3 (vnE a) (vnE b)=Z (IZ (a:Int) b):=by kernel_rfl
 rw[this,Bc]
 by_cases h:a=b
 .rw[bG h,bG N]
 .rw[dn h,dn N]
def GM:uz Pg 151=Z (86,133):=by kernel_rfl
def OK:uz Pg 154=Z (3,133):=by kernel_rfl
def Ud:uz Pg 125=Z (161,3):=by kernel_rfl
def Ue:uz Pg 126=Z (163,133):=by kernel_rfl
def FQ:xz Pg 133=Z u0:=by kernel_rfl
def ahG:xz Pg 3=Z (vi 0):=by kernel_rfl
def GN:List Sp->List D
 |[]=>[]
 |p::l=>B p.1::B p.2::GN l
def vY:∀l,(GN l).length=l.length*2
 |[]=>rfl
 |p::l=>by have:=vY l;simp only[GN,cr];omega
def Jk:∀l m,GN (l++m)=GN l++GN m
 |[],m=>rfl
 |p::l,m=>by simp only[bE,GN,Jk l m]
def EM:∀{l:List Sp}{i:Nat}{p:Sp},l[i]?=Z p->El (GN l) 2 i=[B p.1,B p.2]
 |[],i,p,h=>by simp at h
 |x::l,0,p,h=>by simp at h;subst h;simp[El,GN]
 |x::l,i+1,p,h=>by
  have:=EM (l:=l) (i:=i) (by simpa using h);rw[<-this];unfold El;rw[show(i+1)*2=i*2+2 by omega];rfl
structure M4(H:F)(ms me mn ml:Nat)(x:Rn):Prop where
 s:Dn pE H ms λp=>if p∈x.sp then Z u0 else W
 e:Dn vnE H me λn=>if n∈x.en then Z u0 else W
 n:Dn pE H mn λp=>(Rj x.sk p.1 p.2).map λk=>B<|k+1
 l:Dn pE H ml λp=>if 0<p.1/\p.2∈(sV x.sk p.1).2.2 then Z u0 else W
variable{x:Rn}{rr rs ms me mn ml mo:Nat}
def M4.ex(h:M4 H ms me mn ml x)(J:oz S H C)(hn:∀m∈[ms,me,mn,ml],m∉S):M4 C ms me mn ml x:=⟨h.s.ex J<|hn _<|by simp,h.e.ex J<|hn _<|by simp,h.n.ex J<|hn _<|by simp,h.l.ex J<|hn _<|by simp⟩
def M4.rows(h:M4 H ms me mn ml x)(G:M S H0 H L)(J:oz (L.map (·.1)) H C):M4 C ms me mn ml x:=h.ex J λm hm=>by
 simp only[bM,dW,iD]at hm;rcases hm with rfl|rfl|rfl|rfl
 .exact G.C6 h.s
 .exact G.C6 h.e
 .exact G.C6 h.n
 .exact G.C6 h.l
def WS(S:List Nat)(H0 H:F)(rr rs ms me mn ml mo:Nat)(x:Rn):Prop:=∃sv pv uv us gS gP gU hr,
 M S H0 H ((rr,156,[sv,.bool x.ok,T W 0 0,vi 0,.map<|Z ms,.map<|Z me,B mo])::(rs,128,[pv,uv,.map<|Z mn,.map<|Z ml])::(gS++(gP++(gU++hr))))/\
 GB 86 2 sv (GN x.sp) gS/\GJ 161 2 pv (vi (-1)::B 0::GN (x.sk.map λe=>(e.1,e.2.1))) gP/\GJ 22 1 uv us gU/\H_ 3 1 ([]::x.sk.map λe=>fG e.2.2) us hr/\
 M4 H ms me mn ml x/\[ms,me,mn,ml].Nodup/\∀m∈[ms,me,mn,ml],m∈S\/H0.next<=m
def akl{p:Sp}(h:WS S H0 H rr rs ms me mn ml mo x)(hl:(x.meet p).sp.length<=mo)(hb:(x.meet p).sp.length<=8000000):aJ Pg X 87 [pr rr,pE p] H λv C=>v=.bool f/\WS S H0 C rr rs ms me mn ml mo (x.meet p):=by
 obtain⟨sv,pv,uv,us,gS,gP,gU,hr,h,gs,gp,gu,gR,m,ne,lo⟩:=h;obtain⟨sa,sn,sc,rfl,hsn⟩:=gs.T8;rw[vY]at hsn;refine ce [0,1,3,4,6] ?_;refine tl ?_;have G:=h.base;refine G.box O λH1 rb G=>?_;have G:M _ H H1 ((rb,86,[B p.1,B p.2])::(rr,156,[T sa sn sc,.bool x.ok,T W 0 0,vi 0,.map<|Z ms,.map<|Z me,B mo])::(rs,128,[pv,uv,.map<|Z mn,.map<|Z ml])::(gS++(gP++(gU++hr)))):=G;have n1:=G.nq 0 1 O O N;refine d_ ?_;have m1:=m.rows h G.ext;refine Dn.has (e:=pE) (k:=p) (H:=hN H1) m1.s GM FQ aen ?_;refine G.kK ?_;have hlt:=G.lt;refine G.ab5 λH2 rz G hx2 c1 hrz=>?_;have m2:=m1.ex hx2 λ_ _ h=>nomatch h;refine G.kK ?_;refine splitK (λK hK=>?_) ?_
 .have n2:rz≠rb:=λe=>by have:=hlt rb (by simp);omega
  have n3:rz≠rr:=λe=>by have:=hlt rr (by simp);omega
  simp only[c1,eG,fT,fK<|Ext.refl<|hN _];apply xS (a:=rz) (b:=rb) (c:=rr) n2 n3 n1 (by intros;rfl) (by kernel_rfl) (by kernel_rfl) hK
 have G:=h.over G;refine aC (λhp=>?_) λhp=>?_
 .have e:x.meet p=x:=if_pos hp;rw[e];refine Lu.rr ?_;exact⟨O,_,_,_,_,_,_,_,_,M.drop (A:=[_]) G,gs,gp,gu,gR,m2,ne,lo⟩
 have e:x.meet p={x with sp:=x.sp++[p]}:=if_neg hp;rw[e]at hl hb|-;dsimp only at hl hb;rw[aQ]at hl hb;simp only[cr,uT]at hl hb;refine d_ ?_;refine aC (λy=>absurd y N) λ_=>?_;refine d_ ?_;refine PU.of (v:=u0) O<|G.aem (e:=pE) (k:=p) (lo _<|by simp) m2.s GM aen λH3 m3 G hx3 c3=>?_;have e3:Dq H3 (hN H3)=cl 1:=fK<|Ext.refl _;refine splitK (λK hK=>?_) ?_
 .simp only[eG,c3];apply lX (a:=rb) (b:=rr) n1 (by intros;rfl) (by kernel_rfl) (by kernel_rfl) hK
 have nn:∀{m},m∈[me,mn,ml]->m∉[ms]:=λ{m} hm h=>(jk.1 ne).1 (by rw[aO.1 h]at hm;exact hm);have m4:M4 (hM (hM H1 H2) H3) ms me mn ml {x with sp:=x.sp++[p]}:=⟨m3.plus λj=>by simp,m2.e.ex hx3<|nn<|by simp,m2.n.ex hx3<|nn<|by simp,m2.l.ex hx3<|nn<|by simp⟩;generalize hM (hM H1 H2) H3=H4 at G m4|-;have h4:=G;have G:=G.base;refine d_ ?_;refine gs.KV G O O O (by rw[vY];omega) λq H5 v' H6 gT gs' G c5 c6 _=>?_;obtain⟨sa',sn',sc',rfl⟩:=gs'.sl;refine G.lW λHn G=>?_;refine splitK (λK hK=>?_) ?_
 .simp only[eG,fT,c5];rcases c6 with e|e<;>rw[e]<;>apply lX (a:=rb) (b:=rr) n1 (by intros;rfl) (by kernel_rfl) (by kernel_rfl) hK
 have m5:=m4.rows h4 G.ext;have G:=M.drop (A:=[_])<|h4.over G;refine Lu.rr ?_;exact⟨O,_,_,_,_,_,_,_,_,G,by rw[Jk];exact gs',gp,gu,gR,m5,ne,lo⟩
end
end Go.Proofs.Lv
namespace Go.Proofs.Lu.Wk
section
variable{s:Sk}{r a r' a' i n:Nat}{l:List Nat}
def ach(h:Rj s r a=W):Rj (s++[(r,a,l)]) r' a'=if(r',a')=(r,a)then Z s.length else Rj s r' a':=by
 unfold Rj at h|-;rw[List.findIdx?_append]
 by_cases e:(r',a')=(r,a)
 .cases e;rw[h,if_pos O];simp
 .rw[if_neg e]
  have:(r==r'&&a==a')=aA:=by
   rw[<-bY];simp only[aZ,kX];exactλg=>e (by rw[g.1,g.2])
  simp[this]
def aci:(sV (s++[(r,a,[])]) n).2.2=(sV s n).2.2:=by
 unfold sV;rw[qH];split
 .rfl
 .next h=>
  rw[fC (qD h)];cases n-1-s.length with
  |zero=>rfl
  |succ k=>rfl
def GQ(h:i<s.length):sV s (i+1)=s[i]:=by unfold sV;rw[kW,au h];rfl
def aeo(h:i<s.length)(Q:s[i].1=r)(I:s[i].2.1=a):Rj (s.set i (r,a,l)) r' a'=Rj s r' a':=by
 have e:∀t:Sk,Rj t r' a'=(t.map λe=>(e.1,e.2.1)).findIdx? λe=>e.1==r'&&e.2==a':=λt=>by rw[List.findIdx?_map];rfl
 rw[e,e,fV,show(r,a)=(s.map λe=>(e.1,e.2.1))[i]'(by simpa using h) by rw[mq,Q,I],p_]
def aep(h:i<s.length)(hn:0<n):(sV (s.set i (r,a,l)) n).2.2=if n=i+1 then l else(sV s n).2.2:=by
 unfold sV;rw[dB]
 by_cases e:n=i+1
 .subst e;rw[if_pos O,if_pos N,if_pos N];rfl
 .rw[if_neg e,if_neg N]
end
end Go.Proofs.Lu.Wk
namespace Go.Proofs.Lv
open Go.Proofs.Lu Go.Proofs.Lu.Wk
open Go.Ae Go.Ae.SH
variable{ai:List Nat}{c me ml mn mo ms n r rs rw' rg:Nat}{L SH:List dJ}{H C H0 H1:F}{x hc:Rn}
section
variable{S:List Nat}{rr:Nat}
def WS.stk(h:WS S H0 H rr rs ms me mn ml mo x):∃L pv uv,M S H0 H ((rs,128,[pv,uv,.map<|Z mn,.map<|Z ml])::L)/\(∃a c,pv=T a (x.sk.length+1) c/\Fl H a (x.sk.length+1) 2 (vi (-1)::B 0::GN (x.sk.map λe=>(e.1,e.2.1))))/\∃us hr a c L',uv=T a (x.sk.length+1) c/\Fl H a (x.sk.length+1) 1 us/\H_ 3 1 ([]::x.sk.map λe=>fG e.2.2) us hr/\M S H0 H (hr++L'):=by
 obtain⟨sv,pv,uv,us,gS,gP,gU,hr,h,gs,gp,gu,gR,m,ne,lo⟩:=h;have Q:=M.drop (A:=[_,_]) h;have I:=M.drop Q;have h3:=M.drop I;obtain⟨pa,n,pc,rfl,hn,hf⟩:=gp.fl I;obtain⟨ua,k,uc,rfl,hk,hg⟩:=gu.fl h3;have e1:n=x.sk.length+1:=by simp only[cr,vY,aM]at hn;omega
 have e2:k=x.sk.length+1:=by have:=gR.len;simp only[cr,aM]at this;omega
 subst e1 e2;exact⟨_,_,_,M.drop (A:=[_]) h,⟨_,_,O,hf⟩,us,hr,_,_,[],O,hg,gR,(M.drop h3).cast (a_ _).symm⟩
def OL{a:Option Addr}(hb:H.cell rs 0=Z (T a n c)):aJ Pg X 29 [pr rs] H (Q0 (λv=>v=B n) H):=by
 refine ce [0,2] ?_;refine tl ?_;refine PU.of (v:=.bool aA) (by kernel_rfl) ?_;refine aY ?_;refine ME.ld hb ?_;refine aY ?_;refine Lu.rr ?_;exact⟨O,O⟩
def akm(h:WS S H0 H rr rs ms me mn ml mo x):aJ Pg X 29 [pr rs] H (Q0 (λv=>v=B (x.sk.length+1)) H):=by
 obtain⟨L,pv,uv,G,⟨a,c,rfl,_⟩,_⟩:=h.stk;exact OL<|(G.get 0 O).cell O
def ahH(h:WS S H0 H rr rs ms me mn ml mo x)(hn:n<=x.sk.length):aJ Pg X 116 [pr rs,B n] H (Q0 (λv=>v=.bool f) H):=by
 obtain⟨L,pv,uv,G,⟨a,c,rfl,_⟩,_⟩:=h.stk;refine ce [0,1,4] ?_;refine tl ?_;refine PU.of (v:=.bool f) (by kernel_rfl) ?_;refine G.kK ?_;refine aC (λ_=>?_) λy=>absurd (jX n) y;refine d_ ?_;refine Lu.rr ?_;exact⟨by rw[bG N],rfl⟩
def alX(h:WS S H0 H rr rs ms me mn ml mo x)(h0:0<n)(hn:n<=x.sk.length):aJ Pg X 113 [pr rs,B n] H (Q0 (λv=>v=B (sV x.sk n).1) H):=by
 refine ce [0,1,4] ?_;refine tl ?_;refine aJ.mono (ahH h hn) ?_;rintro _ _ ⟨rfl,rfl⟩;obtain⟨L,pv,uv,G,⟨a,c,rfl,hf⟩,_⟩:=h.stk;refine G.kK ?_;refine dL (λhb=>by cases hb) λ_=>?_;refine G.oF ?_;obtain⟨r,o,e1,R,hcl,_⟩:=hf.idx (c:=c) N (show n<x.sk.length+1 by omega);refine PU.of e1<|G.kK ?_;obtain⟨k,rfl⟩:∃k,n=k+1:=⟨n-1,N⟩;refine ME.ld (hcl 0 (B (sV x.sk<|k+1).1) N ?_) ?_
 .have:=EM (l:=x.sk.map λe=>(e.1,e.2.1)) (i:=k) (p:=((sV x.sk<|k+1).1,(sV x.sk<|k+1).2.1)) (by rw[bD,au hn,GQ hn];rfl);have:=dV (λl=>l[0]?) this;rw[show(k+1)*2+0=k*2+2 by omega];simp only[mG]at this;simpa using this
 refine Lu.rr ?_;exact⟨O,O⟩
def alY(h:WS S H0 H rr rs ms me mn ml mo x)(h0:0<n)(hn:n<=x.sk.length)(hb:(sV x.sk n).2.2.length<=8000000):aJ Pg X 114 [pr rs,B n] H (Q1 (λv C=>∃a c,v=.slice a (sV x.sk n).2.2.length c/\i_ (H.next<=·) 3 C a (sV x.sk n).2.2.length 1 (fG (sV x.sk n).2.2)) H):=by
 refine ce [0,1,4] ?_;refine tl ?_;refine aJ.mono (ahH h hn) ?_;rintro _ _ ⟨rfl,rfl⟩;obtain⟨L,pv,uv,G,_,us,hr,a,c,L',rfl,hf,hR,hS2⟩:=h.stk;refine G.kK ?_;refine dL (λhb=>by cases hb) λ_=>?_;refine G.oF ?_;have hl:=hR.len;simp only[cr,aM]at hl;obtain⟨b,m,c2,e,hm,hg⟩:=hR.all hS2 n N;obtain⟨r,o,e1,R,hcl,_⟩:=hf.idx (c:=c) N (show n<x.sk.length+1 by omega);refine PU.of e1<|ME.ld (hcl 0 us[n] N (by rw[dz,dD];exact au N)) ?_;rw[e];obtain⟨k,rfl⟩:∃k,n=k+1:=⟨n-1,N⟩;have ek:([]::x.sk.map λe=>fG e.2.2)[k+1]?.getD []=fG (sV x.sk<|k+1).2.2:=by rw[dX,bD,au hn,GQ hn];rfl
 rw[ek]at hm hg;rw[aM]at hm;obtain rfl:m=(sV x.sk<|k+1).2.2.length:=by omega
 refine(M.refl G.wf).apG N hg.1 N λv' H1 gb hgb rQ J=>?_;obtain⟨va,vn',vc,rfl,hvn,hvf⟩:=hgb.Rw rQ;rw[aM]at hvn;obtain rfl:vn'=(sV x.sk<|k+1).2.2.length:=by omega
 refine Lu.rr ?_;exact⟨⟨_,_,O,hvf⟩,J⟩
end
section
variable{S:List Nat}{rr:Nat}
def acj(s:Sk)(r a:Nat)(l:List Nat):GN ((s++[(r,a,l)]).map λe=>(e.1,e.2.1))=GN (s.map λe=>(e.1,e.2.1))++[B r,B a]:=by rw[dG,Jk];rfl
theorem af3(h:WS S H0 H rr rs ms me mn ml mo x){a:Nat}(hn:n<x.sk.length)(R:x.sk[n].1=r)(ha:x.sk[n].2.1=a){fd:Bool}{x8 x9 jh iL kQ lH zF:D}(u:Rs)(hub:(sV x.sk<|n+1).2.2.length<=8000000){Kp:D->F->Prop}(k1:rg∈(sV x.sk<|n+1).2.2->∀C,WS S H0 C rr rs ms me mn ml mo x->Kp (.tuple ⟨[B (n+1),.bool<|!fd,.bool aA,vi 0]⟩) C)(k2:rg∉(sV x.sk<|n+1).2.2->∀C,WS S H0 C rr rs ms me mn ml mo {x with sk:=x.sk.set n (r,a,(sV x.sk<|n+1).2.2++[rg])}->Kp (.tuple ⟨[B (n+1),.bool<|!fd,.bool f,vi 0]⟩) C):
 gJ Pg X (sub Fy [1,1,1,1,1,1]) (Ep (pr rs) (B r) (B a) (B rg) x8 x9 jh iL kQ (B<|n+1) (.bool fd) lH zF u H) (jR Pg [.tmp 8,.tmp 9,.tmp 10,.tmp 11] Kp):=by
 obtain⟨sv,pv,uv,us,gS,gP,gU,hr,h,gs,gp,gu,gR,m,ne,lo⟩:=h;refine tl ?_;have G:=h.base;refine PU.of (v:=.agg ⟨[B (n+1),B rg]⟩) O<|G.ns O O O λH1 rb G _=>?_;have G:M _ H H1 ((rb,163,[B (n+1),B rg])::(rr,156,[sv,.bool x.ok,T W 0 0,vi 0,.map<|Z ms,.map<|Z me,B mo])::(rs,128,[pv,uv,.map<|Z mn,.map<|Z ml])::(gS++(gP++(gU++hr)))):=G;have n1:=G.nq 0 2 O O N;refine d_ ?_;have m1:=m.rows h G.ext;refine Dn.has (e:=pE) (k:=(n+1,rg)) (H:=hN H1) m1.l Ue FQ af2<|G.kK ?_;have hlt:=G.lt;refine G.ab5 λH2 rz G hx2 c1 hrz=>?_;have m2:=m1.ex hx2 λ_ _ h=>nomatch h;refine G.kK ?_;refine splitK (λK hK=>?_) ?_
 .have n2:rz≠rb:=λe=>by have:=hlt rb (by simp);omega
  have n3:rz≠rs:=λe=>by have:=hlt rs (by simp);omega
  simp only[c1,eG,fT,fK<|Ext.refl<|hN _];apply xS (a:=rz) (b:=rb) (c:=rs) n2 n3 n1 (by intros;rfl) (by kernel_rfl) (by kernel_rfl) hK
 have G:=h.over G;refine aC (λhp=>?_) λhp=>?_
 .exact Lu.rr<|k1 hp.2 _ ⟨_,_,_,_,_,_,_,_,M.drop (A:=[_]) G,gs,gp,gu,gR,m2,ne,lo⟩
 have hp:rg∉(sV x.sk<|n+1).2.2:=λh=>hp ⟨xO n,h⟩;refine d_ ?_;refine PU.of (v:=u0) O<|G.aem (e:=pE) (k:=(n+1,rg)) (lo _<|by simp) m2.l Ue af2 λH3 m3 G hx3 c3=>?_;refine splitK (λK hK=>?_) ?_
 .simp only[eG,c3];apply lX (a:=rb) (b:=rs) n1 (by intros;rfl) (by kernel_rfl) (by kernel_rfl) hK
 have nn:∀{m},m∈[ms,me,mn]->m∉[ml]:=λ{m} hm h=>(ny.1 (show([ms,me,mn]++[ml]).Nodup from ne)).2.2 m hm m h O
 have m4:M4 (hM (hM H1 H2) H3) ms me mn ml {x with sk:=x.sk.set n (r,a,(sV x.sk<|n+1).2.2++[rg])}:=⟨m2.s.ex hx3<|nn<|by simp,m2.e.ex hx3<|nn<|by simp,by
  have:=m2.n.ex hx3<|nn (by simp)
  simp only[aeo hn R ha];exact this,m3.plus λj=>by
   by_cases h0:0<j.1
   .rw[aep hn h0]
    by_cases hj:j.1=n+1
    .rw[if_pos hj,hj];simp[xP,hj]
    .rw[if_neg hj];simp[xP,hj]
   .simp[xP,h0];omega⟩
 generalize hM (hM H1 H2) H3=H4 at G m4|-;have hul:us.length=x.sk.length+1:=by rw[<-gR.len];simp
 rcases id gu with(⟨_,e,_⟩|⟨rU,k,dY,rfl,hk,rfl⟩)|⟨_,_,Q,_⟩
 rotate_right
 .omega
 .rw[e]at hul;simp at hul
 obtain rfl:k=us.length:=by omega
 obtain⟨A',gb,vn,rfl,hgb,hput⟩:=gR.at (n+1) N;have hks:([]::x.sk.map λe=>fG e.2.2)[n+1]?.getD []=fG (sV x.sk<|n+1).2.2:=by rw[dX,bD,au hn,GQ hn];rfl
 rw[hks]at hgb;have G:=G.cast (L':=(rb,163,[B (n+1),B rg])::(rr,156,[sv,.bool x.ok,T W 0 0,vi 0,.map<|Z ms,.map<|Z me,B mo])::(rs,128,[pv,T (Z ⟨rU,0,W⟩) us.length<|fI 1,.map<|Z mn,.map<|Z ml])::(gS++(gP++((rU,22,us++dY)::(A'++(gb++vn)))))) O;have hv0:(us++dY)[n+1]?=Z us[n+1]:=by rw[bJ N];exact au N
 have h4:=G;have G:=G.base;refine d_ ?_;refine G.TP (k:=n+1) N hv0<|G.kK ?_;refine hgb.KV G O O O (by rw[aM];omega) λq H5 v' H6 gT YC G c5 c6 h5=>?_;obtain⟨va,vl,vc,rfl⟩:=YC.sl;have h6:=G;refine G.Q3 (k:=n+1) N (by rw[aQ];omega) (kk:=λH7 G=>?_);have n2:rU≠rs:=h5.neT;refine splitK (λK hK=>?_) ?_
 .have r1:∀{a b:F},mY ⟨2,0,0,0,hM H4 H5,H6⟩ ⟨4,rs,1,1,a,b⟩=f:=h5.rd h6 λv hv=>by
   have hv:v∈[T (Z ⟨rU,0,W⟩) us.length (fI 1)]:=hv;rw[aO]at hv;subst hv;exact oQ _ _ _ λx h=>by cases h;rfl
  have r2:∀{a b:F},mY ⟨2,0,0,0,hM H4 H5,H6⟩ ⟨4,rU,n+1,1,a,b⟩=f:=h5.rd h6 (λv hv=>by
   rw[dN (by rw[aQ];omega),jO,j3,iI N,aO]at hv;subst hv;exact Ap gR _<|bB _) (by rw[aQ];omega)
  simp only[c5,eG,fT];generalize n+1=k at r2|-;rcases c6 with e|e<;>rw[e]<;>apply Jd (A:=hM H4 H5) (vn:=H6) (a:=rU) (b:=rs) n2 (by rfl) (by kernel_rfl) (by kernel_rfl) hK<;>repeat' apply iq
  all_goals first|exact trivial|(intro h;cases h;done)|exactλ_=>⟨rfl,rfl⟩|exactλ_=>r1|exactλ_=>r2
 have m5:=m4.rows h4 G.ext;have G:=(M.drop (A:=[_])<|h4.over G).cast (L':=_::_::(gS++(gP++([(rU,22,us.set (n+1) (T va vl vc)++dY)]++(A'++(gT++vn)))))) (by rw[lM _ _ N];rfl)
 have e1:(x.sk.set n (r,a,(sV x.sk<|n+1).2.2++[rg])).map (λe=>(e.1,e.2.1))=x.sk.map λe=>(e.1,e.2.1):=by
  rw[fV,show(r,a)=(x.sk.map λe=>(e.1,e.2.1))[n]'(by simpa using hn) by rw[mq,R,ha],p_]
 refine Lu.rr<|k2 hp _ ⟨_,_,_,_,_,_,_,_,G,gs,by dsimp only;rw[e1];exact gp,.inl<|.inr ⟨rU,us.length,dY,O,by rw[bF];omega,rfl⟩,?_,m5,ne,lo⟩;have:=hput (T va vl vc) _ gT YC;dsimp only;rw[fV,show fG ((sV x.sk<|n+1).2.2++[rg])=fG (sV x.sk<|n+1).2.2++[B rg]from dG,<-jo];exact this
def alZ(h:WS S H0 H rr rs ms me mn ml mo x){a:Nat}(hu:rg<=x.sk.length)(hk:x.sk.length<=1000000)(hub:∀n,(sV x.sk n).2.2.length<=8000000):aJ Pg X 92 [pr rs,B r,B a,B rg] H λv C=>∃b,v=.tuple ⟨[B (put x.sk r a rg).2.1,.bool b,.bool (put x.sk r a rg).2.2,vi 0]⟩/\WS S H0 C rr rs ms me mn ml mo {x with sk:=(put x.sk r a rg).1}:=by
 refine ce [0,1,2,3,8,9,10,11,12,13,14,15,17] ?_;refine tl ?_;refine aJ.mono (akm h) ?_;rintro _ H ⟨rfl,rfl⟩;refine aY ?_;refine aC (λy=>absurd y N) λ_=>?_;refine aC (λy=>absurd y N) λ_=>?_;refine aC (λy=>absurd y N) λ_=>?_;refine aJ.mono (ahH h hu) ?_;rintro _ H ⟨rfl,rfl⟩;refine aY ?_;refine tl ?_;refine dL (λhb=>by cases hb) λ_=>?_;refine tl ?_;obtain⟨sv,pv,uv,us,gS,gP,gU,hr,h,gs,gp,gu,gR,m,ne,lo⟩:=h;obtain⟨pa,pn,pc,rfl,hpn⟩:=gp.T8;simp only[cr,vY,aM]at hpn;obtain rfl:pn=x.sk.length+1:=by omega
 have G:=h.base;refine PU.of (v:=.agg ⟨[B r,B a]⟩) O<|G.ns O O O λH1 rb G _=>?_;have G:M _ H H1 ((rb,161,[B r,B a])::(rr,156,[sv,.bool x.ok,T W 0 0,vi 0,.map<|Z ms,.map<|Z me,B mo])::(rs,128,[T pa (x.sk.length+1) pc,uv,.map<|Z mn,.map<|Z ml])::(gS++(gP++(gU++hr)))):=G;have n1:rb≠rs:=G.neT;refine d_ ?_;have m1:=m.rows h G.ext;refine Dn.Ip (e:=pE) (k:=(r,a)) (H:=hN H1) m1.n Ud ahG af1<|d_ ?_;cases hf:Rj x.sk r a with
 |some k=>
  refine dL (λhb=>by cases hb) λ_=>?_;obtain⟨hk1,hk2,hk3,_⟩:=Rk hf;rw[GQ hk1]at hk2 hk3;have e:∀b,put x.sk r a rg=b<->(if rg∈(sV x.sk<|k+1).2.2 then(x.sk,k+1,aA)else(x.sk.set k (r,a,(sV x.sk<|k+1).2.2++[rg]),k+1,f))=b:=λb=>by unfold put;rw[hf]
  refine af3 (n:=k) (fd:=f) ⟨_,_,_,_,_,_,_,_,M.drop (A:=[_])<|h.over G,gs,gp,gu,gR,m1,ne,lo⟩ hk1 hk2 hk3 _ (hub _) (λhm C hw=>?_) λhm C hw=>?_
  .rw[(e _).2 (if_pos hm)];exact⟨_,O,hw⟩
  .rw[(e _).2 (if_neg hm)];exact⟨_,O,hw⟩
 |none=>
  refine dL (λ_=>?_) (λhb=>by cases hb);refine d_ ?_
  with_reducible refine aC (λy=>absurd y N) λ_=>?_
  refine d_ ?_;have G:=h.over G;refine G.aem (e:=pE) (k:=(r,a)) (lo _<|by simp) m1.n Ud af1 λH3 m3 G hx3 c3=>?_;refine splitK (λK hK=>?_) ?_
  .simp only[eG,c3];apply lX (a:=rb) (b:=rs) n1 (by intros;rfl) (by kernel_rfl) (by kernel_rfl) hK
  have nn:∀{m},m∈[ms,me,ml]->m∉[mn]:=λ{m} hm h=>by
   rw[aO.1 h]at hm;have:=(jk.1 (jk.1 (jk.1 ne).2).2).1;simp only[jk,bM,dW,iD,not_or]at ne hm this;rcases hm with h|h|h
   .exact ne.1.2.1 h.symm
   .exact ne.2.1.1 h.symm
   .exact this h
  have m4:M4 (hM H1 H3) ms me mn ml {x with sk:=x.sk++[(r,a,[])]}:=⟨m1.s.ex hx3<|nn<|by simp,m1.e.ex hx3<|nn<|by simp,by
   have:(λp:Sp=>(Rj (x.sk++[(r,a,[])]) p.1 p.2).map λk=>B<|k+1)=λj=>if j=(r,a)then Z (B<|x.sk.length+1)else(Rj x.sk j.1 j.2).map λk=>B (k+1):=funext λj=>by
    rw[ach hf];split<;>rfl
   dsimp only;rw[this];exact m3,by
   have:=m1.l.ex hx3<|nn (by simp);dsimp only;simp only[aci];exact this⟩
  generalize hM H1 H3=H4 at G m4|-;have h4:=G;have G:=G.base;refine d_ ?_;refine gp.KV G O O O (by simp only[cr,vY,aM];omega) λq H5 v' H6 gP' gp' G c5 c6 _=>?_;obtain⟨qa,qn,qc,rfl⟩:=gp'.sl;refine G.lW λHn G=>?_;refine splitK (λK hK=>?_) ?_
  .simp only[eG,fT,c5];rcases c6 with e|e<;>rw[e]<;>apply lX (a:=rb) (b:=rs) n1 (by intros;rfl) (by kernel_rfl) (by kernel_rfl) hK
  refine G.oF ?_;have hul:us.length=x.sk.length+1:=by rw[<-gR.len];simp
  refine gu.KU G O O O N λq H9 v' gU' gu' G=>?_;obtain⟨ya,yn,yc,rfl⟩:=gu'.sl;refine G.jE λHn G=>?_;have m5:=m4.rows h4 G.ext;have G:=M.drop (A:=[_])<|h4.over G;have hn:x.sk.length<(x.sk++[(r,a,[])]).length:=by simp
  have e:∀b,put x.sk r a rg=b<->(x.sk++[(r,a,[rg])],x.sk.length+1,f)=b:=λb=>by unfold put;rw[hf]
  have e0:(sV (x.sk++[(r,a,[])])<|x.sk.length+1).2.2=[]:=by rw[GQ hn];simp
  refine af3 (x:={x with sk:=x.sk++[(r,a,[])]}) (n:=x.sk.length) (fd:=aA) (a:=a) (r:=r) ⟨_,_,_,_,_,_,_,_,G,gs,by dsimp only;rw[acj];exact .inl gp',.inl gu',?_,m5,ne,lo⟩ hn (by simp) (by simp) _ (by dsimp only;rw[e0];exact bg _) (λhm=>?_) λhm C hw=>?_
  .have:=gR.snoc (GB.nil 3 1);dsimp only;rw[a_]at this;rw[dG];exact this
  .dsimp only at hm;rw[e0]at hm;cases hm
  .dsimp only at hw;rw[(e _).2 O];rw[e0,p9 _ _<|az _,ja]at hw;exact⟨_,O,hw⟩
end
section
variable{S:List Nat}{rr:Nat}{ax:Nat->Prop}{A:At}{q:AV}{ev sv:D}{sb:List Bool}
def zU.stay(h:zU ax H rw' A q ev sv sb)(J:oz S H C)(G:∀r∈S,¬ax r):zU ax C rw' A q ev sv sb:=
 ⟨⟨h.k.1,aP h.k.2 J.next⟩,h.b.jf<|J.obj _ h.k.2 λR=>G _ R h.k.1,h.a.stay J G,let⟨sa,sc,e,hf⟩:=h.s;⟨sa,sc,e,hf.stay J λr R=>.inl<|G r R⟩,h.l,h.on⟩
def aes(h:zU ax H rw' A q ev sv sb)(hn:n<A.ns):aJ Pg X 60 [pr rw',B n] H (Q0 (λv=>v=.bool f) H):=by
 obtain⟨sa,sc,rfl,hf⟩:=h.s;refine ce [0,1,4] ?_;refine tp ?_;refine aC (λ_=>?_) λy=>absurd (jX n) y;refine ME.ld (h.b.cell (o:=7) O) ?_;refine aY ?_;refine Lu.rr ?_;exact⟨by rw[bG N],rfl⟩
def OM(h:zU ax H rw' A q ev sv sb)(ho:A.Ok):aJ Pg X 59 [pr rw'] H (Q0 (λv=>v=.bool aA) H):=by
 obtain⟨sa,sc,rfl,hf⟩:=h.s;have h0:=(ho.s 0 ho.pos).1;refine ce [0,2] ?_;refine tl ?_;refine PU.of (v:=.bool aA) (by kernel_rfl) ?_;refine aY ?_;refine ME.ld (h.b.cell (o:=7) O) ?_;refine aY ?_;refine Lu.rr ?_;exact⟨by rw[dn N],rfl⟩
def Ext.hN(H:F):Ext H (hN H):=⟨az _,λ_ _ _=>rfl,λ_ _ h _=>h,λ_=>az _⟩
def _root_.Go.Ae.oz.trans'{H'':F}(h:oz S H C)(J:Ext C H''):oz S H H'':=h.later J λr h=>nomatch h
def WS.ext(h:WS S H0 H rr rs ms me mn ml mo x):oz S H0 H:=let⟨_,_,_,_,_,_,_,_,h,_⟩:=h;h.ext
def WS.wf(h:WS S H0 H rr rs ms me mn ml mo x):Wf H:=let⟨_,_,_,_,_,_,_,_,h,_⟩:=h;h.wf
def WS.call(h:WS S H0 H rr rs ms me mn ml mo x)(J:Ext H C):WS S H0 C rr rs ms me mn ml mo x:=
 let⟨sv,pv,uv,us,gS,gP,gU,hr,h,gs,gp,gu,gR,m,ne,lo⟩:=h
 ⟨sv,pv,uv,us,gS,gP,gU,hr,h.call J,gs,gp,gu,gR,m.ex J (λ_ _ h=>nomatch h),ne,lo⟩
def WS.own(h:WS S H0 H rr rs ms me mn ml mo x):∃ai,(∀r∈ai,r<H.next/\(r∈S\/H0.next<=r))/\∀C,Ext H C->WS ai C C rr rs ms me mn ml mo x:=by
 obtain⟨sv,pv,uv,us,gS,gP,gU,hr,h,gs,gp,gu,gR,m,ne,lo⟩:=h;refine⟨[ms,me,mn,ml]++_,λr R=>?_,λC J=>⟨sv,pv,uv,us,gS,gP,gU,hr,⟨oz.refl _ _,λe he=>(h.bk e he).jf (J.obj _ (h.lo e he).2 λh=>nomatch h),λe he=>⟨.inl<|cO _<|bQ.2 ⟨e,he,rfl⟩,aP (h.lo e he).2 J.next⟩,h.ne,J.wf h.wf⟩,gs,gp,gu,gR,m.ex J (λ_ _ h=>nomatch h),ne,λm hm=>.inl<|cZ _ hm⟩⟩;rcases bX.1 R with R|R
 .refine⟨?_,lo r R⟩;simp only[bM,dW,iD]at R;rcases R with rfl|rfl|rfl|rfl
  .obtain⟨_,h,_⟩:=m.s;exact h
  .obtain⟨_,h,_⟩:=m.e;exact h
  .obtain⟨_,h,_⟩:=m.n;exact h
  .obtain⟨_,h,_⟩:=m.l;exact h
 .obtain⟨e,he,rfl⟩:=bQ.1 R;exact⟨(h.lo e he).2,(h.lo e he).1⟩
def _root_.Go.Ae.M.ahI{vn:F}(G:M ai vn H L)(hl:∀e∈L,vn.next<=e.1)(hT:∀r∈ai,r<vn.next)(J:oz ai H C):M ai vn C L:=
 ⟨G.ext.trans J,λe he=>(G.bk e he).jf (J.obj _ (G.lo e he).2 λh=>by have:=hT _ h;have:=hl e he;omega),λe he=>⟨(G.lo e he).1,aP (G.lo e he).2 J.next⟩,G.ne,J.wf G.wf⟩
def WS.up{H2:F}(J:oz S H0 H1)(hT:∀r∈ai,r∈S\/H0.next<=r)(h:WS ai H1 H2 rr rs ms me mn ml mo hc):WS S H0 H2 rr rs ms me mn ml mo hc:=by
 obtain⟨sv,pv,uv,us,gS,gP,gU,hr,h,gs,gp,gu,gR,m,ne,lo⟩:=h;have up:∀r,r∈ai\/H1.next<=r->r∈S\/H0.next<=r:=λr R=>R.elim (hT r) λh=>.inr<|aX J.next h
 exact⟨sv,pv,uv,us,gS,gP,gU,hr,⟨J.later h.ext hT,h.bk,λe he=>⟨up _ (h.lo e he).1,(h.lo e he).2⟩,h.ne,h.wf⟩,gs,gp,gu,gR,m,ne,λm hm=>up m<|lo m hm⟩
def WS.m(hw:Wf H)(h:WS ai (hN H) H1 rr rs ms me mn ml mo hc):WS ai H (hM H H1) rr rs ms me mn ml mo hc:=by
 obtain⟨sv,pv,uv,us,gS,gP,gU,hr,h,gs,gp,gu,gR,m,ne,lo⟩:=h;have J:=h.ext.draw;exact⟨sv,pv,uv,us,gS,gP,gU,hr,⟨J,λe he=>(h.bk e he).jf O,h.lo,h.ne,J.wf hw⟩,gs,gp,gu,gR,⟨m.s,m.e,m.n,m.l⟩,ne,lo⟩
structure Lim(A:At)(a mo:Nat):Prop where
 m:bnd A a<=mo
 b:bnd A a<=8000000
 s:A.ns*(a+1)<=1000000
variable{a:Nat}{p:Sp}
abbrev fm(r:Nat)(l:List Nat)(hc:Rn):Rn:=l.foldl (λhc rg=>hc.meet (r,rg)) hc
def OO(h:WS S H0 H rr rs ms me mn ml mo x)(hL:Lim A a mo)(hW:(x.meet p).ak A a):aJ Pg X 87 [pr rr,pE p] H λv C=>v=.bool f/\WS S H0 C rr rs ms me mn ml mo (x.meet p):=akl h (aX hW.le hL.m)<|aX hW.le hL.b
theorem akn(hk:zU ax H0 rw' A q ev sv sb)(hF:∀r∈S,¬ax r)(h:WS S H0 H rr rs ms me mn ml mo x)(hL:Lim A a mo)(hW:x.ak A a)(hp:p∈x.sp):aJ Pg X 88 [pr rw',pr rr,pr rs,pE p] H λv C=>v=.bool f/\WS S H0 C rr rs ms me mn ml mo (x.back p):=by
 have hpb:=hW.b p hp;obtain⟨sv',pv,uv,us,gS,gP,gU,hr,h,gs,gp,gu,gR,m,ne,lo⟩:=h;refine ce [0,1,2,3,7,8,10,11,13,50,51,52] ?_;refine tl ?_;have G:=h.base;refine G.box O λH1 rb G=>?_;have G:M _ H H1 ((rb,86,[B p.1,B p.2])::(rr,156,[sv',.bool x.ok,T W 0 0,vi 0,.map<|Z ms,.map<|Z me,B mo])::(rs,128,[pv,uv,.map<|Z mn,.map<|Z ml])::(gS++(gP++(gU++hr)))):=G;have n1:rb≠rr:=G.neT;refine d_ ?_;unfold Rn.back;refine aC (λy=>?_) λy=>?_
 .refine G.jE λHn G=>?_;rw[if_pos N];have m1:=m.rows h G.ext;refine Lu.rr ?_;exact⟨O,_,_,_,_,_,_,_,_,M.drop (A:=[_])<|h.over G,gs,gp,gu,gR,⟨m1.s,m1.e,m1.n,m1.l⟩,ne,lo⟩
 rw[if_neg N];refine d_ ?_;have m1:=m.rows h G.ext;refine Dn.has (e:=vnE) (k:=p.2) (H:=hN H1) m1.e OK FQ eq3<|G.kK ?_;have hlt:=G.lt;refine G.ab5 λH2 rz G hx2 c1 hrz=>?_;have m2:=m1.ex hx2 λ_ _ h=>nomatch h;refine G.kK ?_;refine splitK (λK hK=>?_) ?_
 .have n2:rz≠rb:=λe=>by have:=hlt rb (by simp);omega
  have n3:rz≠rr:=λe=>by have:=hlt rr (by simp);omega
  simp only[c1,eG,fT,fK<|Ext.refl<|hN _];apply xS (a:=rz) (b:=rb) (c:=rr) n2 n3 n1 (by intros;rfl) (by kernel_rfl) (by kernel_rfl) hK
 have G:=h.over G;refine aC (λhe=>?_) λhe=>?_
 .rw[if_pos he];refine Lu.rr ?_;exact⟨O,_,_,_,_,_,_,_,_,M.drop (A:=[_]) G,gs,gp,gu,gR,m2,ne,lo⟩
 rw[if_neg he];refine d_ ?_;refine PU.of (v:=u0) O<|G.aem (e:=vnE) (k:=p.2) (lo _<|by simp) m2.e OK eq3 λH3 m3 G hx3 c3=>?_;refine splitK (λK hK=>?_) ?_
 .simp only[eG,c3];apply lX (a:=rb) (b:=rr) n1 (by intros;rfl) (by kernel_rfl) (by kernel_rfl) hK
 have nn:∀{m},m∈[ms,mn,ml]->m∉[me]:=λ{m} hm h=>by
  rw[aO.1 h]at hm;simp only[jk,bM,dW,iD,not_or]at ne hm;rcases hm with h|h|h
  .exact ne.1.1 h.symm
  .exact ne.2.1.1 h
  .exact ne.2.1.2 h
 have m4:M4 (hM (hM H1 H2) H3) ms me mn ml {x with en:=p.2::x.en}:=⟨m2.s.ex hx3<|nn<|by simp,m3.plus λj=>by simp[or_comm],m2.n.ex hx3<|nn<|by simp,m2.l.ex hx3<|nn<|by simp⟩;generalize hM (hM H1 H2) H3=H4 at G m4|-;refine G.oF ?_;have hw:WS S H0 H4 rr rs ms me mn ml mo {x with en:=p.2::x.en}:=⟨_,_,_,_,_,_,_,_,M.drop (A:=[_]) G,gs,gp,gu,gR,m4,ne,lo⟩;have hp2:p.2<=x.sk.length:=hpb.2
 have hnd:sV x.sk p.2∈x.sk:=by
  obtain⟨k,hk⟩:∃k,p.2=k+1:=⟨p.2-1,N⟩;rw[hk,GQ N];exact bB _
 have KL:=hW.sk.few p.2;have hle:=hW.sk.le;have hls:=hL.s;have hnb:=hW.sk.b _ hnd;have hWm:∀j,(fm (sV x.sk p.2).1 ((sV x.sk p.2).2.2.take j) {x with en:=p.2::x.en}).ak A a:=λj=>Rn.ak.meets (av:=λrg=>((sV x.sk p.2).1,rg)) _ _ ⟨hW.sk,hW.nd,hW.b⟩ λrg hu=>⟨hnb.1.1,hnb.2 rg<|eP hu⟩;refine aJ.mono (alX hw N hp2) ?_;rintro _ H4 ⟨rfl,rfl⟩;refine aJ.mono (aes (hk.stay hw.ext hF) hnb.1.1) ?_;rintro _ H4 ⟨rfl,rfl⟩;refine G.kK ?_;refine dL (λhb=>by cases hb) λ_=>?_;refine G.oF ?_;obtain⟨ai,hT,hwT⟩:=hw.own;refine aJ.mono (alY hw N hp2 (by dsimp only;omega)) ?_;rintro _ H6 ⟨⟨ua,uc,rfl,hf⟩,J⟩;refine aY ?_;have hw6:=hwT H6 J;have hx6:=hw.ext.trans' J;refine Ig 8 13 52 (h2:=λm x8 jF S8 C=>∃j:Nat,S8=B j/\j+m=(sV x.sk p.2).2.2.length/\WS ai H6 C rr rs ms me mn ml mo (fm (sV x.sk p.2).1 ((sV x.sk p.2).2.2.take j) {x with en:=p.2::x.en})) ?_ (sV x.sk p.2).2.2.length ⟨0,O,aW _,hw6⟩;rintro m' x8 jF S8 u H7 ⟨j,rfl,hj,hwj⟩;refine tp ?_;refine aC (λy=>?_) λy=>?_;rotate_left
 .rw[cK N]at hwj;refine tl<|Lu.rr ?_;exact⟨O,hwj.up hx6 λr R=>(hT r R).2⟩
 have hjl:j<(sV x.sk p.2).2.2.length:=by omega
 refine(hf.stay hwj.ext λr R=>.inl<|dP (hT r R).1).ix hjl (y_ hjl) λ_=>?_;rw[getD_in (h:=hjl)];refine PU.of (v:=pE ((sV x.sk p.2).1,(sV x.sk p.2).2.2[j])) O ?_;have e:fm (sV x.sk p.2).1 ((sV x.sk p.2).2.2.take<|j+1) {x with en:=p.2::x.en}=(fm (sV x.sk p.2).1 ((sV x.sk p.2).2.2.take j) {x with en:=p.2::x.en}).meet ((sV x.sk p.2).1,(sV x.sk p.2).2.2[j]):=by unfold fm;rw[eO,au hjl,iN];rfl
 have hWj:=hWm<|j+1;rw[e]at hWj;refine aJ.mono (OO hwj hL hWj) ?_;rintro _ H8 ⟨rfl,hw8⟩;refine aY ?_;refine dL (λhb=>by cases hb) λ_=>?_;refine dU ?_;exact⟨(sV x.sk p.2).2.2.length-(j+1),N,_,_,_,_,_,O,j+1,nX,N,by rw[e];exact hw8⟩
end
end Go.Proofs.Lv
namespace Go.Ae
variable{a j:Nat}{t:aG}{ox oy:bO}{b:Int}{k:fu}
def Ym{P:aS}{a:Int}{j:fu}(h:0<=b):lN P .shl t ox oy (.int k a) (.int j b)=Z (.int k<|N7 k a b):=by
 show jQ (Op.shift .shl k a j b)=_;unfold Op.shift;rw[if_neg N];rfl
def Yn{P:aS}{a:Int}{j:fu}(h:0<=b):lN P .shr t ox oy (.int k a) (.int j b)=Z (.int k<|Ee k a b):=by
 show jQ (Op.shift .shr k a j b)=_;unfold Op.shift;rw[if_neg N];rfl
def wrap64(h:a<2^64):mh .u64 (a:Int)=(a:Int):=by
 simp[mh,IntKind.bits,IntKind.signed];omega
def ofInt64(h:a<2^64):(g_ 64 (a:Int)).toNat=a:=by
 rw[BitVec.toNat_ofInt];have:((a:Int) %((2^64:Nat):Int))=(a:Int):=Int.emod_eq_of_lt N (by exact_mod_cast h);rw[this];rfl
def al0{b:Nat}(ha:a<2^64)(hb:b<2^64):bOr .u64 (a:Int) (b:Int)=((a|||b:Nat):Int):=by
 unfold bOr;rw[show(IntKind.u64).bits=64 from O,BitVec.toNat_or,ofInt64 ha,ofInt64 hb];exact wrap64<|Nat.or_lt_two_pow ha hb
def ako(hj:j<64):N7 .u64 1 (j:Int)=((2^j:Nat):Int):=by
 unfold N7;rw[lJ,show min j (IntKind.u64).bits=j from iT (by show j<=64;omega),Int.one_mul,show(2:Int)^j=((2^j:Nat):Int) by push_cast;rfl];exact wrap64<|qL (by decide) hj
def akp(ha:a<2^64)(hj:j<64):decide (NZ .u64 (Ee .u64 (a:Int) (j:Int)) 1=1)=a.testBit j:=by
 have e:Ee .u64 (a:Int) (j:Int)=((a/2^j:Nat):Int):=by
  unfold Ee;rw[lJ,show min j (IntKind.u64).bits=j from iT (by show j<=64;omega),qT _<|Int.le_of_lt<|Int.pow_pos<|by decide]
  push_cast;rfl
 have hl:a/2^j<2^64:=Nat.lt_of_le_of_lt (Nat.div_le_self _ _) ha;unfold NZ;rw[e,show(1:Int)=((1:Nat):Int)from O,show(IntKind.u64).bits=64 from O,BitVec.toNat_and,ofInt64 hl,ofInt64<|by decide,Nat.and_one_is_mod,wrap64 N];rw[oD];exact decide_eq_decide.2 N
end Go.Ae
namespace Go.Proofs.Lv
open Go.Proofs.Lu Go.Proofs.Lu.Wk
open Go.Ae Go.Ae.SH
variable{sb:List Bool}{l o:List Sp}{a fa:Option Addr}{L SH gb:List dJ}{aa c fc me ml mn mo r rs rw' st:Nat}{F':Nat->Prop}{p:Sp}{A:At}{q:AV}{ai ms ts:List Nat}{H C H0:F}{sv v:D}{ok:Bool}{n t:Int}{e:Ed}{s:Sk}
section
variable{S:List Nat}{ax:Nat->Prop}
abbrev Uf(n:Nat):D:=.int .u64 (n:Int)
def wd1(ak:List Nat)(t:Nat):List Nat:=ak.set (t/64)<|ak.getD (t/64) 0|||2^(t %64)
def top'(ts:List Nat):Int:=ts.foldl (λ(m:Int)(t:Nat)=>max m (t:Int)) (-1)
def wds(ts:List Nat):List Nat:=ts.foldl wd1<|aU ((top' ts+64)/64).toNat 0
def hasB(ak:List Nat)(t:Nat):Bool:=(ak.getD (t/64) 0).testBit<|t %64
def Ug:∀(ts:List Nat)(m:Int),m<=ts.foldl (λ(m:Int)(t:Nat)=>max m (t:Int)) m/\∀t∈ts,(t:Int)<=ts.foldl (λ(m:Int)(t:Nat)=>max m (t:Int)) m
 |[],m=>⟨kr _,λt h=>nomatch h⟩
 |rg::ts,m=>by
  obtain⟨Q,I⟩:=Ug ts<|max m rg;refine⟨uJ N Q,λt ht=>?_⟩;rcases bM.1 ht with rfl|ht
  .exact uJ N Q
  .exact I t ht
def ack:∀(ts:List Nat)(m:Int),m<n->(∀t∈ts,(t:Int)<n)->ts.foldl (λ(m:Int)(t:Nat)=>max m (t:Int)) m<n
 |[],m,h,_=>h
 |rg::ts,m,h,hb=>ack ts _ (by have:=hb rg (by simp);show max m (rg:Int)<n;omega) λt ht=>hb t (by simp[ht])
def V5(ak:List Nat)(t:Nat):(wd1 ak t).length=ak.length:=bF
theorem ahJ{ak:List Nat}(h:∀w∈ak,w<2^64)(t:Nat):∀w∈wd1 ak t,w<2^64:=λw hw=>by
 rcases gY hw with g|rfl
 .exact h w g
 .refine Nat.or_lt_two_pow ?_ (qL (by decide)<|oC _<|by decide);rw[bC];cases e:ak[t/64]? with
  |none=>exact Nat.two_pow_pos 64
  |some x=>exact h x<|aR e
def acm{ak:List Nat}{t:Nat}(ht:t/64<ak.length)(rg:Nat):hasB (wd1 ak t) rg=(hasB ak rg||decide (rg=t)):=by
 unfold hasB wd1;rw[bC,dB]
 by_cases h:t/64=rg/64
 .rw[if_pos h,if_pos ht,nS,Nat.testBit_or,h,Nat.testBit_two_pow];congr 1;exact decide_eq_decide.2 N
 .rw[if_neg h,dn N,mP,bC]
theorem acn(ts:List Nat):∀(ak:List Nat),(∀t∈ts,t/64<ak.length)->∀rg,hasB (ts.foldl wd1 ak) rg=(hasB ak rg||decide (rg∈ts)):=by
 induction ts with
 |nil=>intro ak _ rg;simp
 |cons t ts ih=>
  intro ak h rg;rw[mQ,ih _ (λs hs=>by rw[V5];exact h s<|by simp[hs]),acm<|h t<|by simp,Bool.or_assoc];congr 1
  by_cases e:rg=t<;>simp[e]
def aet(ts:List Nat)(rg:Nat):hasB (wds ts) rg=decide (rg∈ts):=by
 unfold wds
 rw[acn ts _ (λt ht=>by
  rw[ji];have:=(Ug ts (-1)).2 t ht;unfold top';omega)]
 have:hasB (aU ((top' ts+64)/64).toNat 0) rg=aA:=by
  unfold hasB;rw[bC,ku];split<;>simp
 rw[this,qF]
def Uh(ax:Nat->Prop)(H:F)(v:D)(ak:List Nat):Prop:=∃r,v=T (Z ⟨r,0,W⟩) ak.length ak.length/\ax r/\r<H.next/\Bk H r 105 (ak.map Uf)/\ak.length<=1024/\∀w∈ak,w<2^64
def Uh.stay{ak:List Nat}(h:Uh ax H v ak)(J:oz S H C)(G:∀r∈S,¬ax r):Uh ax C v ak:=let⟨r,Q,I,h3,h4,h5⟩:=h;⟨r,Q,I,aP h3 J.next,h4.jf<|J.obj r h3 λR=>G r R I,h5⟩
def FT(z:Int):aJ Pg X 67 [vi z] H (Q0 (λv=>v=.bool (decide<|0<=z/\z<65536)) H):=by
 refine ce [0,2] ?_;refine tp ?_;refine aC (λh=>?_) λh=>?_
 .refine rr ?_;exact⟨by simp[h],rfl⟩
 .refine rr ?_;exact⟨by simp[h],rfl⟩
def akq(z:Int):aJ Pg X 50 [T W 0 0,vi z] H (Q0 (λv=>v=.bool aA) H):=by
 refine ce [0,1,4] ?_;refine tl ?_;refine aJ.mono (FT z) ?_;rintro _ _ ⟨rfl,rfl⟩;refine aY ?_;refine aC (λh=>?_) λh=>?_
 .refine PU.of (Fs N N N) ?_;refine aY ?_;refine aC (λh=>absurd h N) λ_=>?_;refine rr ?_;exact⟨O,O⟩
 .refine rr ?_;exact⟨O,O⟩
def Yo{ak:List Nat}(hv:Uh ax H v ak)(z:Int):aJ Pg X 50 [v,vi z] H (Q0 (λv=>v=.bool (decide (0<=z/\z<65536)&&hasB ak z.toNat)) H):=by
 obtain⟨r,rfl,_,R,hb,hl,hw⟩:=hv;refine ce [0,1,4] ?_;refine tl ?_;refine aJ.mono (FT z) ?_;rintro _ _ ⟨rfl,rfl⟩;refine aY ?_;refine aC (λh=>?_) λh=>?_;rotate_left
 .refine rr ?_;exact⟨by simp only[dn h];rfl,rfl⟩
 obtain⟨t,rfl⟩:∃t:Nat,z=t:=⟨z.toNat,N⟩;refine PU.of (OH 64 O (by decide) N) ?_;refine aY ?_;refine aC (λI=>?_) λI=>?_
 .refine PU.of (OH 64 O (by decide) N)<|PU.of (vO N)<|ME.ld (v:=Uf ak[t/64]) (hb.cell (by rw[aW,dz];exact kU _<|au N)) ?_;refine PU.of (qj 64 O (by decide) N) ?_;refine PU.of (Yn<|jX _) ?_;refine aY ?_;refine rr ?_;refine⟨?_,O⟩;rw[akp (hw _<|bB _) (oC _<|by decide),bG h,qG];unfold hasB;rw[lJ,bC,au (show t/64<ak.length by omega)];rfl
 .refine rr ?_;refine⟨?_,O⟩;unfold hasB;rw[lJ,bC,fC N];simp
def aco(hw:Wf H)(hf:i_ ax 3 H a ts.length 1<|fG ts)(ht:∀t∈ts,t<65536)(hn:ts.length<=16777216):aJ Pg X 37 [T a ts.length c] H (Q1 (λv C=>Uh (H.next<=·) C v<|wds ts) H):=by
 refine ce [0,2,3,5,6,8,9,10,11,25,26,27] ?_;refine tp ?_;have hlt:=ack (n:=65536) ts (-1) N λt h=>by have:=ht t h;omega
 have hge:=Ug ts (-1);refine Ig 3 5 11 (h2:=λm x3 x5 iL C=>∃j:Nat,iL=B j/\j+m=ts.length/\C=H/\x3=vi ((ts.take j).foldl (λ(m:Int)(t:Nat)=>max m (t:Int)) (-1))) ?_ ts.length ⟨0,rfl,aW _,rfl,rfl⟩;rintro m x3 x5 iL u H1 ⟨j,rfl,hj,rfl,rfl⟩;refine tp ?_;refine aC (λy=>?_) λy=>?_
 .have hjl:j<ts.length:=by omega
  refine hf.ix hjl (y_ hjl) λ_=>?_;rw[getD_in (h:=hjl)];refine aJ.mono (FT _) ?_;rintro _ _ ⟨rfl,rfl⟩;have:=ht _<|bB hjl;rw[bG ⟨jX _,N⟩];refine aY ?_;refine dU ?_;exact⟨ts.length-(j+1),N,_,_,_,_,_,O,j+1,nX,N,O,by rw[eO,au hjl,iN];rfl⟩
 rw[cK N];obtain⟨n,hn⟩:∃n:Nat,(top' ts+64)/64=n:=⟨((top' ts+64)/64).toNat,by unfold top';omega⟩;have G:=M.refl hw;have htop:top' ts=ts.foldl (λ(m:Int)(t:Nat)=>max m (t:Int)) (-1):=rfl;refine tl ?_;refine dU ?_;refine PU.of (Fs N N N) ?_;rw[<-htop,hn];refine G.mkS (az _) N λH2 r G=>?_;rw[mK]at G;refine aY ?_;refine lp2 8 27 (h2:=λm x8 x27 C=>∃(j:Nat)(ak:List Nat),x27=B j/\j+m=ts.length/\ak=(ts.take j).foldl wd1 (aU n 0)/\ak.length=n/\(∀w∈ak,w<2^64)/\M [] H1 C [(r,105,ak.map Uf)]) ?_ ts.length ⟨0,aU n 0,rfl,aW _,rfl,ji ..,λw h=>by rw[oh h];exact Nat.two_pow_pos 64,by rw[show(aU n 0).map Uf=aU n (.int .u64 0)from jY];exact G⟩;clear G;rintro m x8 x27 rg2 H3 ⟨i,ak,rfl,hi,hW,hl,hw,G⟩;refine tp ?_;refine aC (λy=>?_) λy=>?_;rotate_left
 .rw[cK N]at hW;have e:wds ts=ak:=by unfold wds;rw[hn,hW];rfl
  refine tl ?_;refine rr ?_;exact⟨⟨r,by rw[e,hl],G.wB<|aL ..,(G.lo _<|aL ..).2,by rw[e];exact G.get 0 O,by rw[e,hl];omega,by rw[e];exact hw⟩,G.ext⟩
 have hil:i<ts.length:=by omega
 refine(hf.ex G.ext).ix hil (y_ hil) λ_=>?_;rw[getD_in (h:=hil)];refine aJ.mono (FT _) ?_;rintro _ H3 ⟨rfl,rfl⟩;have h65:=ht _<|bB hil;have htt:=hge.2 _<|bB hil;have e1:(ts.take<|i+1).foldl wd1 (aU n 0)=wd1 ak ts[i]:=by rw[eO,au hil,iN,<-hW];rfl
 have hlt:=ahJ hw ts[i];generalize ts[i]=t at h65 htt e1 hlt|-;have h64:t/64<n:=by omega
 have ev:ak[t/64]?=Z (ak.getD (t/64) 0):=by rw[bC,au N];rfl
 rw[bG ⟨jX _,N⟩];refine aY ?_;refine PU.of (OH 64 O (by decide) N)<|G.TP (k:=t/64) h64 (kU _ ev)<|PU.of (qj 64 O (by decide) N)<|PU.of (Ym<|jX _) ?_;rw[ako (oC _<|by decide)];have hgl:ak.getD (t/64) 0<2^64:=hw _<|aR ev;refine G.kK ?_;rw[al0 hgl (qL (by decide)<|oC _<|by decide)];refine G.Q3 (k:=t/64) h64 (by rw[aM];omega) (kk:=λH4 G=>?_);refine splitK (λK hK=>?_) ?_
 .simp only[eG,fT];generalize t/64=k;apply Eh (a:=r) (by intros;rfl) (by kernel_rfl) (by kernel_rfl) hK
 refine dU ?_;exact⟨ts.length-(i+1),N,_,_,_,_,O,i+1,wd1 ak t,nX,N,e1.symm,by rw[V5];exact hl,hlt,by rw[show(wd1 ak t).map Uf=(ak.map Uf).set (t/64) (Uf<|ak.getD (t/64) 0|||2^(t %64))from fV];exact G⟩
end
section
open Go.Proofs.Lu Go.Proofs.Lu.Wk
open Go.Ae Go.Ae.SH
variable{S:List Nat}{x:Rn}{rr ms:Nat}{ax:Nat->Prop}{ev:D}{a:Nat}
theorem ahK(ho:A.Ok)(hk:zU ax H0 rw' A q ev sv sb)(hF:∀r,ax r->r<H0.next/\r∉S)(h:WS S H0 H rr rs ms me mn ml mo x)(hL:Lim A a mo)(hW:x.ak A a)(hp:p.1<A.ns/\p.2<=x.sk.length)(he:e∈A.cs p.1):
 aJ Pg X 89 [pr rw',pr rr,pr rs,pE p,.agg ⟨[B e.1,B e.2.1,B e.2.2]⟩,B a,T W 0 0] H λv C=>v=vi 0/\WS S H0 C rr rs ms me mn ml mo (x.along A a p e):=by
 obtain⟨hw2,hk2⟩:=hW.along ho hp he;have hoe:=ho.e _ hp.1 e he;obtain⟨ai,hT,hwT⟩:=h.own;have hFT:∀r∈ai,¬ax r:=λr R h=>((hT r R).2.elim (hF r h).2 λg=>absurd (hF r h).1<|eF g);have hkn:=hk.stay h.ext λr R h=>(hF r h).2 R;refine ce [0,1,2,3,4,5,6,10,11,14,15,16,18,19,21] ?_;refine tl ?_;have G:=M.refl h.wf;refine G.box O λH1 rb G=>?_;refine G.box O λH2 re G=>?_;have G:M [] H H2 [(re,121,[B e.1,B e.2.1,B e.2.2]),(rb,86,[B p.1,B p.2])]:=G;refine d_ ?_;refine G.ns O O O λH3 rz G hx3=>?_;have G:M [] H H3 [(rz,86,[B e.2.2,B p.2]),(re,121,[B e.1,B e.2.1,B e.2.2]),(rb,86,[B p.1,B p.2])]:=G;have hw3:=hwT H3 G.ext;have hx3:=G.ext;have hk3:=hkn.stay G.ext λr h=>nomatch h;have up:∀{C hc},WS ai H3 C rr rs ms me mn ml mo hc->WS S H0 C rr rs ms me mn ml mo hc:=λhw=>hw.up (h.ext.trans' hx3) λr R=>(hT r R).2;have bx:∀{C},oz ai H3 C->M ai H C [(rz,86,[B e.2.2,B p.2]),(re,121,[B e.1,B e.2.1,B e.2.2]),(rb,86,[B p.1,B p.2])]:=λJ=>(G.weaken λr h=>nomatch h).ahI (λe he=>G.wB he) (λr R=>(hT r R).1) J
 have last:∀{hc:Rn}{C}{pz zf uZ v_ u},WS ai H3 C rr rs ms me mn ml mo hc->(hc.meet (e.2.2,p.2)).ak A a->hc.meet (e.2.2,p.2)=x.along A a p e->gJ Pg X (sub CB [1,1,1,1]) (BX (pr rw') (pr rr) (pr rs) (pE p) (.agg ⟨[B e.1,B e.2.1,B e.2.2]⟩) (B a) (T W 0 0) (pr rb) (pr re) (vi 0) (pr rz) pz zf uZ v_ u C) (jR Pg [.tmp 14] λv C=>v=vi 0/\WS S H0 C rr rs ms me mn ml mo (x.along A a p e)):=λ{hc C}{pz zf uZ v_ u} hw hy ey=>by
  have G:=bx hw.ext;refine tl ?_;refine G.iK ?_;refine aJ.mono (OO (p:=(e.2.2,p.2)) hw hL hy) ?_;rintro _ H4 ⟨rfl,hw⟩;refine aY ?_;refine dL (λh=>by cases h) λ_=>?_;refine Lu.rr ?_;exact⟨O,ey▸up hw⟩
 refine d_ ?_;refine aC (λQ=>?_) λQ=>?_
 .have e1:x.along A a p e=x:=if_pos N;rw[e1];refine Lu.rr ?_;exact⟨O,up hw3⟩
 refine d_ ?_;refine aC (λI=>?_) λI=>?_;rotate_left
 .have e1:x.along A a p e=x.meet (e.2.2,p.2):=by unfold Rn.along;rw[if_neg N,if_neg N]
  refine tm ?_;refine aC (λh=>absurd h I) λ_=>?_;exact last hw3 (hW.meet hoe.1 hp.2) e1.symm
 have hca:e.2.1<A.nr:=ho.call he N;have hst:=(ho.s _ hca).1;obtain⟨w1,w2,w3⟩:=afZ hW.sk (r:=e.2.2) hoe.1 hp.2;have e1:x.along A a p e=({x with sk:=(put x.sk e.2.2 a p.2).1}.meet (A.S e.2.1,(put x.sk e.2.2 a p.2).2.1):Rn).hop (put x.sk e.2.2 a p.2).2 (e.2.2,p.2):=by unfold Rn.along;rw[if_neg N,if_pos N]
 have hy:({x with sk:=(put x.sk e.2.2 a p.2).1}.meet (A.S e.2.1,(put x.sk e.2.2 a p.2).2.1):Rn).ak A a:=Rn.ak.meet ⟨w1,hW.nd,λq hq=>⟨(hW.b q hq).1,aX (hW.b q hq).2 w3⟩⟩ hst w2;have hye:({x with sk:=(put x.sk e.2.2 a p.2).1}.meet (A.S e.2.1,(put x.sk e.2.2 a p.2).2.1):Rn).en=x.en:=by unfold Rn.meet;split<;>rfl
 have hyk:({x with sk:=(put x.sk e.2.2 a p.2).1}.meet (A.S e.2.1,(put x.sk e.2.2 a p.2).2.1):Rn).sk=(put x.sk e.2.2 a p.2).1:=Rn.BF;have hle:=hW.sk.le;have hls:=hL.s;refine G.oF<|aJ.mono (akq _) ?_;rintro _ H4 ⟨rfl,rfl⟩;refine tm ?_;refine aC (λ_=>?_) λh=>absurd I h;refine d_ ?_;refine aJ.mono (alZ hw3 hp.2 N λn=>by have:=hW.sk.few n;omega) ?_;rintro _ H4 ⟨bn,rfl,hw4⟩;generalize hpt:put x.sk e.2.2 a p.2=pt' at*;obtain⟨s',n,fr⟩:=pt';dsimp only at*;have G:=bx hw4.ext;refine aY ?_;refine bT (λh=>absurd trivial h) λ_=>?_;have hk4:=hk3.stay hw4.ext hFT;refine ME.ld (H:=hN H4) (hk4.b.cell (o:=1) O) ?_;refine d_ ?_;refine hk4.a.ahe ho hca λr o=>?_;refine d_ ?_;obtain⟨T2,hT2,aeu⟩:=hw4.own;refine aJ.mono (OO (p:=(A.S e.2.1,n)) (aeu _<|Ext.hN H4) hL hy) ?_;rintro _ H5 ⟨rfl,hw5⟩;replace hw5:=(hw5.m hw4.wf).up hw4.ext λr R=>(hT2 r R).2;refine aY ?_;refine splitK (λK hK=>?_) ?_
 .simp only[eG];rcases vP H4 H5 with e|e<;>rw[e]<;>exact acs (by kernel_rfl) (by kernel_rfl) hK
 generalize({x with sk:=s'}.meet (A.S e.2.1,n):Rn)=hc at*;generalize hM H4 H5=H6 at hw5|-;obtain⟨_,_,_,_,_,_,_,_,G,_,_,_,_,m,_⟩:=id hw5;refine dL (λh=>by cases h) λ_=>?_;refine G.oF<|Dn.has (e:=vnE) (k:=n) m.e OK FQ eq3<|G.kK ?_;refine G.ns O O O λH7 ru G hx7=>?_;have hw7:=hw5.call hx7;have hpp:p.2<=hc.sk.length:=by rw[hyk];omega
 refine bT (λhn=>?_) λhn=>?_
 .rw[e1];have e2:hc.hop (n,fr) (e.2.2,p.2)=hc:=if_neg λh=>hn h.1;rw[e2];refine Lu.rr ?_;exact⟨O,up hw7⟩
 cases fr with
 |false=>
  refine dL (λ_=>?_) (λh=>by cases h);rw[e1];have e2:hc.hop (n,aA) (e.2.2,p.2)=hc:=if_neg λh=>by cases h.2
  rw[e2];refine Lu.rr ?_;exact⟨O,up hw7⟩
 |true=>
  refine dL (λh=>by cases h) λ_=>?_;exact last hw7 (hy.meet hoe.1 hpp) (by rw[e1];exact(if_pos ⟨hn,O⟩).symm)
end
section
open Go.Proofs.Lu Go.Proofs.Lu.Wk
open Go.Ae Go.Ae.SH
variable{S:List Nat}{x:Rn}{rr ms:Nat}{ax:Nat->Prop}{ev:D}{a:Nat}
def V6(ai:List Nat)(H:F)(rs:Nat)(s:Sk):Prop:=∃mn ml pv uv us gP gU hr,M ai H H ((rs,128,[pv,uv,.map<|Z mn,.map<|Z ml])::(gP++(gU++hr)))/\
 GJ 161 2 pv (vi (-1)::B 0::GN (s.map λe=>(e.1,e.2.1))) gP/\GJ 22 1 uv us gU/\H_ 3 1 ([]::s.map λe=>fG e.2.2) us hr/\
 Dn pE H mn (λp=>(Rj s p.1 p.2).map λk=>B<|k+1)/\Dn pE H ml (λp=>if 0<p.1/\p.2∈(sV s p.1).2.2 then Z u0 else W)/\mn≠ml/\mn∈ai/\ml∈ai
def V6.stay(h:V6 ai H rs s)(J:oz S H C)(G:∀r∈S,r∉ai):V6 ai C rs s:=by
 obtain⟨mn,ml,pv,uv,us,gP,gU,hr,h,gp,gu,gR,m,l,ne,hm,hl⟩:=h;have hlo:∀e∈(rs,128,[pv,uv,.map<|Z mn,.map<|Z ml])::(gP++(gU++hr)),e.1∈ai:=λe he=>(h.lo e he).1.resolve_right<|dP (h.lo e he).2;exact⟨mn,ml,pv,uv,us,gP,gU,hr,⟨oz.refl _ _,λe he=>(h.bk e he).jf<|J.obj _ (h.lo e he).2 λR=>G _ R<|hlo e he,λe he=>⟨.inl<|hlo e he,aP (h.lo e he).2 J.next⟩,h.ne,J.wf h.wf⟩,gp,gu,gR,m.ex J λR=>G _ R hm,l.ex J λR=>G _ R hl,ne,hm,hl⟩
def WS.done(h:WS S H0 H rr rs ms me mn ml mo x):∃ai sa sc,V6 ai H rs x.sk/\(∀r∈ai,r<H.next/\(r∈S\/H0.next<=r))/\Bk H rr 156 [T sa x.sp.length sc,.bool x.ok,T W 0 0,vi 0,.map<|Z ms,.map<|Z me,B mo]/\rr∉ai/\i_ (·∉ai) 86 H sa x.sp.length 2 (GN x.sp):=by
 obtain⟨sv,pv,uv,us,gS,gP,gU,hr,h,gs,gp,gu,gR,m,ne,lo⟩:=h;obtain⟨sa,sn,sc,rfl,hsn⟩:=gs.T8;rw[vY]at hsn;obtain rfl:sn=x.sp.length:=by omega
 have hp:=h.perm (L':=gS++((rr,156,[T sa x.sp.length sc,.bool x.ok,T W 0 0,vi 0,.map<|Z ms,.map<|Z me,B mo])::(rs,128,[pv,uv,.map<|Z mn,.map<|Z ml])::(gP++(gU++hr))))<|iE [_,_] gS _;have R:=M.drop hp;have hq:=M.drop (A:=[_]) R
 have hlm:∀{m},m∈[mn,ml]->m<H.next/\(m∈S\/H0.next<=m)/\∀{S':List Nat}{vn L},M S' vn H L->m∉L.map (·.1):=λ{m'} hm=>by
  simp only[bM,dW,iD]at hm;rcases hm with rfl|rfl
  .obtain⟨_,hl,_⟩:=id m.n;exact⟨hl,lo _<|by simp,λG=>G.C6 m.n⟩
  .obtain⟨_,hl,_⟩:=id m.l;exact⟨hl,lo _<|by simp,λG=>G.C6 m.l⟩
 refine⟨[mn,ml]++((rs,128,[pv,uv,.map<|Z mn,.map<|Z ml])::(gP++(gU++hr)):List dJ).map (·.1),sa,sc,⟨mn,ml,pv,uv,us,gP,gU,hr,⟨oz.refl _ _,hq.bk,λe he=>⟨.inl<|cO _<|bQ.2 ⟨e,he,rfl⟩,(hq.lo e he).2⟩,hq.ne,hq.wf⟩,gp,gu,gR,m.n,m.l,λe=>?_,by simp,by simp⟩,λr hr'=>?_,h.get 0 O,λhm=>?_,?_⟩
 .have:=(jk.1 (jk.1 (jk.1 ne).2).2).1;exact this (by simp[e])
 .rcases bX.1 hr' with hm|hm
  .exact⟨(hlm hm).1,(hlm hm).2.1⟩
  .obtain⟨e,he,rfl⟩:=bQ.1 hm;exact⟨(hq.lo e he).2,(hq.lo e he).1⟩
 .rcases bX.1 hm with hm|hm
  .exact(hlm hm).2.2 h<|aL ..
  .obtain⟨e,he,e2⟩:=bQ.1 hm;exact(List.pairwise_cons.1 R.ne).1 e he e2.symm
 .obtain⟨a,n,c,e,hn,hf⟩:=gs.Jc (ax:=(·∉[mn,ml]++((rs,128,[pv,uv,.map<|Z mn,.map<|Z ml])::(gP++(gU++hr)):List dJ).map (·.1))) hp λe he hm=>by
   rcases bX.1 hm with hm|hm
   .exact(hlm hm).2.2 hp<|bQ.2 ⟨e,cZ _ he,O⟩
   .obtain⟨e',he',e2⟩:=bQ.1 hm;exact M.apart hp he (bH _ he') e2.symm
  cases e;exact hf
def WS.akr(h:WS S H0 H rr rs ms me mn ml mo x):∃sa sc,H.cell rr 0=Z (T sa x.sp.length sc)/\i_ (λ_=>True) 86 H sa x.sp.length 2 (GN x.sp):=let⟨_,sa,sc,_,_,R,_,hf⟩:=h.done;⟨sa,sc,R.cell (o:=0) O,hf.wk λ_ _=>trivial⟩
def _root_.Go.Ae.M.plus{A:List dJ}(hA:M [] H C A)(hB:M ai H H L):M ai H C (A++L):=by
 refine⟨hA.ext.weaken (λr h=>by cases h),λe he=>?_,λe he=>?_,lK.2 ⟨hA.ne,hB.ne,λx J hc hy e=>?_⟩,hA.wf⟩
 .rcases bX.1 he with h|h
  .exact hA.bk e h
  .exact(hB.bk e h).jf<|hA.ext.obj _ (hB.lo e h).2 λh=>nomatch h
 .rcases bX.1 he with h|h
  .exact⟨.inr<|hA.wB h,(hA.lo e h).2⟩
  .exact⟨(hB.lo e h).1,aP (hB.lo e h).2 hA.ext.next⟩
 .have:=hA.wB J;have:=(hB.lo hc hy).2;omega
def _root_.Go.Ae.M.reb{vn:F}(hq:M ai H H L)(J:Ext H vn):M ai vn vn L:=⟨oz.refl _ _,λe he=>(hq.bk e he).jf (J.obj _ (hq.lo e he).2 λh=>nomatch h),λe he=>⟨.inl<|(hq.lo e he).1.resolve_right<|dP (hq.lo e he).2,aP (hq.lo e he).2 J.next⟩,hq.ne,J.wf hq.wf⟩
theorem OP(ho:A.Ok)(hk:zU ax H rw' A q ev sv sb)(hF:∀r,ax r->r<H.next/\r∉ai)(hs:V6 ai H rs s)(hT:∀r∈ai,r<H.next)(hf:i_ F' 86 H fa l.length 2<|GN l)(hF':∀r∈ai,¬F' r)(hl:∀p∈l,p.1<A.ns/\p.2<=s.length)(hsW:Sk.ak A a s)(hL:Lim A a mo)(hll:l.length<=8000000):
 aJ Pg X 57 [pr rw',pr rs,T fa l.length fc,B a,T W 0 0,B mo] H λv C=>∃sa sc T',v=.tuple ⟨[.agg ⟨[.slice sa (close A a s l).sp.length sc,.bool (close A a s l).ok,T W 0 0,B (close A a s l).sp.length]⟩,vi 0]⟩/\
  V6 T' C rs (close A a s l).sk/\(∀r∈T',r<C.next/\(r∈ai\/H.next<=r))/\oz ai H C/\i_ (·∉T') 86 C sa (close A a s l).sp.length 2 (GN (close A a s l).sp):=by
 obtain⟨mn,ml,pv,uv,us,gP,gU,hr,hq,gp,gu,gR,mN,mL,hne,hmn,hml⟩:=hs;obtain⟨pa,pn,pc,rfl,hpn⟩:=gp.T8;simp only[cr,vY,aM]at hpn;obtain rfl:pn=s.length+1:=by omega
 have hcell:∀{C},Ext H C->C.cell rs 0=Z (T pa (s.length+1) pc):=λJ=>(lQ (J.obj _ (hq.lo _<|aL ..).2 λh=>nomatch h) 0).trans<|(hq.get 0 O).cell O;have hFS:∀r∈ai,¬ax r:=λr R h=>(hF r h).2 R;refine ce [0,1,2,3,4,5,12,13,15,16,18,19,20,21,23,32,33,34,65,66,67,119,120,121] ?_;refine tl ?_;have G:=M.refl hq.wf;refine G.iZ λH1 rc G=>?_;have hrc:=G.wB<|aL ..
 refine gJ.wC λK hK=>?_;refine gJ.scope (hr:=λ_ _ _=>False) (λ_ _ _ _ h=>h.elim) 0 ?_;refine gJ.wC λK2 hK2=>?_;refine tl ?_;have hk1:∀{C},Ext H C->zU ax C rw' A q ev sv sb:=λJ=>hk.stay J λr h=>nomatch h;refine aJ.mono (OM (hk1 G.ext) ho) ?_;rintro _ H1 ⟨rfl,rfl⟩;refine aY ?_;refine aJ.mono (OL<|hcell G.ext) ?_;rintro _ H1 ⟨rfl,rfl⟩;refine aY ?_;refine aC (λy=>absurd y N) λ_=>?_;refine tp ?_;refine Ig 13 15 34 (h2:=λm jF lH x34 C=>∃i:Nat,x34=B i/\i+m=l.length/\M [] H C [(rc,68,[T W 0 0,.bool aA,T W 0 0,vi 0])]) ?_ l.length ⟨0,rfl,aW _,G⟩;clear G;rintro m jF lH x34 u H1 ⟨i0,rfl,him,G⟩;refine tp ?_;refine aC (λy=>?_) λy=>?_
 .have hil:i0<l.length:=by omega
  have hpl:=hl _<|bB hil;refine(hf.ex G.ext).Xw N hil (EM<|au hil) λ_=>?_;generalize l[i0]=p at hpl|-;refine G.ns O O O λH2 rf G _=>?_;have G:M [] H H2 [(rf,86,[B p.1,B p.2]),(rc,68,[T W 0 0,.bool aA,T W 0 0,vi 0])]:=G;refine d_ ?_;refine aJ.mono (aes ((hk1 G.ext).stay (Ext.hN H2) λr h=>nomatch h) hpl.1) ?_;rintro _ _ ⟨rfl,rfl⟩;refine aY ?_;refine dL (λh=>by cases h) λ_=>?_;refine d_ ?_;refine aC (λh=>absurd h N) λ_=>?_;refine d_ ?_;refine aJ.mono (OL<|hcell<|G.ext.trans'<|Ext.hN H2) ?_;rintro _ _ ⟨rfl,rfl⟩;refine d_ ?_;refine aC (λh=>absurd h N) λ_=>?_;refine dU ?_;exact⟨l.length-(i0+1),N,_,_,_,_,_,O,i0+1,nX,N,M.drop (A:=[_]) G⟩
 refine tp ?_;refine aC (λh=>absurd h N) λ_=>?_;have hrs:=(G.weaken λr h=>nomatch h:M ai H H1 _);have bx:∀{C},oz ai H1 C->M ai H C [(rc,68,[T W 0 0,.bool aA,T W 0 0,vi 0])]:=λJ=>hrs.ahI (λe he=>G.wB he) hT J;have hx1:=G.ext;have hkB:=hk1 hx1;have hqB:=hq.reb hx1;have hfB:=hf.ex hx1;have G:=M.refl G.wf;refine G.mkMap (e:=pE) GM λH2 ms hms hx2 hgs G=>?_;refine G.mkMap (e:=vnE) OK λH3 me hme hx3 hge G=>?_;refine PU.of (v:=.agg ⟨[T W 0 0,.bool aA,T W 0 0,vi 0,.map<|Z ms,.map<|Z me,B mo]⟩) O ?_;obtain⟨_,l1,_⟩:=id hms;have hms:=hms.ex hx3 λh=>nomatch h;have rQ:=G;have G:=G.base;refine G.box O λH4 rr G=>?_;have aks:=hms.ex G.ext λh=>nomatch h;have akt:=hme.ex G.ext λh=>nomatch h;have uR:=rQ.over G;have hx4:=uR.ext
 have hw4:WS ai H1 H4 rr rs ms me mn ml mo ⟨s,[],[],aA⟩:=by
  obtain⟨_,l2,_⟩:=id mN;obtain⟨_,l3,_⟩:=id mL;have g0:=hx1.next
  refine⟨_,_,_,_,[],gP,gU,hr,M.plus uR hqB,GB.nil _ _,gp,gu,gR,⟨by simpa using aks,by simpa using akt,mN.ex (hx1.trans hx4) (λh=>by cases h),mL.ex (hx1.trans hx4) λh=>by cases h⟩,?_,?_⟩
  .simp only[jk,bM,dW,iD,not_or,jZ,xw,pW];omega
  .intro m hm;simp only[bM,dW,iD]at hm;rcases hm with rfl|rfl|rfl|rfl
   .exact .inr hgs
   .exact .inr<|aX hx2.next hge
   .exact .inl hmn
   .exact .inl hml
 clear aks akt uR hx4 G rQ hms hme hgs hge hx2 hx3 l1 hqB mN mL gp gu gR hq;have hW0:Rn.ak A a ⟨s,[],[],aA⟩:=⟨hsW,jZ,λp h=>nomatch h⟩;have hWl:∀j,((l.take j).foldl Rn.meet ⟨s,[],[],aA⟩).ak A a:=λj=>VY _ _ hW0 λp hp=>hl p<|eP hp;have hFb:∀r,ax r->r<H1.next/\r∉ai:=λr R=>⟨aP (hF r R).1 hx1.next,(hF r R).2⟩
 refine Ig 13 18 67 (h2:=λm jF zf LD C=>∃j:Nat,LD=B j/\j+m=l.length/\WS ai H1 C rr rs ms me mn ml mo ((l.take j).foldl Rn.meet ⟨s,[],[],aA⟩)) ?_ l.length ⟨0,rfl,aW _,hw4⟩;clear hw4;rintro m jF zf LD rg2 H5 ⟨j,rfl,hj,hw⟩;refine tp ?_;refine aC (λy=>?_) λy=>?_
 .have hjl:j<l.length:=by omega
  refine(hfB.stay hw.ext λr R=>.inl<|hF' r R).Xw N hjl (EM<|au hjl) λ_=>?_;refine(M.refl hw.wf).ns O O O λH6 rf G hx6=>?_;have G:M [] H5 H6 [(rf,86,[B l[j].1,B l[j].2])]:=G;refine G.iK ?_;have e:(l.take<|j+1).foldl Rn.meet ⟨s,[],[],aA⟩=((l.take j).foldl Rn.meet ⟨s,[],[],aA⟩).meet l[j]:=by rw[eO,au hjl,iN];rfl
  have hWj:=hWl<|j+1;rw[e]at hWj;refine aJ.mono (OO (hw.call hx6) hL hWj) ?_;rintro _ H7 ⟨rfl,hw⟩;refine aY ?_;refine dL (λh=>by cases h) λ_=>?_;refine dU ?_;exact⟨l.length-(j+1),N,_,_,_,_,_,O,j+1,nX,N,by rw[e];exact hw⟩
 have hW1:=hWl j;rw[cK N]at hw hW1;refine tl ?_;generalize hy0:l.foldl Rn.meet ⟨s,[],[],aA⟩=y0 at hw hW1;have hz:close A a s l=go A a (bnd A a+1) 0 y0:=by rw[<-hy0];rfl
 rw[hz]at hK;refine lp7 19 20 21 23 119 120 121 (h2:=λn uZ x20 v_ xM XB XC Oc C=>∃(i:Nat)(hc:Rn),uZ=vi 0/\x20=B i/\i+n=bnd A a+1/\go A a n i hc=go A a (bnd A a+1) 0 y0/\hc.ak A a/\WS ai H1 C rr rs ms me mn ml mo hc) ?_ (bnd A a+1) ⟨0,y0,rfl,rfl,aW _,rfl,hW1,hw⟩;clear hw hW1 hWl hW0;rintro n uZ x20 v_ xM XB XC Oc rg3 H6 ⟨i,hc,rfl,rfl,hin,hgo,hW,hw⟩;have amL:=hW.le;have hbb:=hL.b;have hkw:=hkB.stay hw.ext hFS;obtain⟨sa,sc,hsp,al1⟩:=hw.akr;refine gJ.wC λK3 hK3=>?_;refine tl ?_;refine PU.of O ?_;refine aY ?_;refine ME.ld hsp ?_;refine aY ?_;refine aC (λy=>?_) λy=>?_;rotate_left
 .rw[hK3];refine aY ?_
  have ey:hc=go A a (bnd A a+1) 0 y0:=by
   rw[<-hgo];cases n with
   |zero=>rfl
   |succ n=>
    show hc=match hc.sp[i]? with|none=>hc|some p=>go A a n (i+1)<|hc.one A a p
    rw[fC N]
  rw[<-ey]at hK;obtain⟨T',ta,tc,al2,hT',hrd,hrn,hft⟩:=hw.done;obtain⟨_,_,_,_,_,_,_,_,vZ,_⟩:=id hw;have hlo:=vZ.lo _<|aL ..
  refine tp ?_;refine bT (λh=>absurd trivial h) λ_=>?_;have vZ:M [rr] H6 H6 [(rr,156,[T ta hc.sp.length tc,.bool hc.ok,T W 0 0,vi 0,.map<|Z ms,.map<|Z me,B mo])]:=⟨oz.refl _ _,λe he=>by rw[aO.1 he];exact hrd,λe he=>⟨.inl (by rw[aO.1 he];simp),by rw[aO.1 he];exact hlo.2⟩,iQ _ _,hw.wf⟩;refine vZ.oF ?_;refine aY ?_;refine vZ.jE λH7 FY=>?_;refine FY.iK ?_;have hx7:oz ai H1 H7:=hw.ext.later FY.ext λr R=>by rw[aO.1 R];exact hlo.1
  have hb:=bx hx7;refine hb.base.jE λH8 XL=>?_;rw[hK2];simp only[N8];rw[hK];have VE:=hb.over XL;refine Lu.rr ?_;refine VE.iK ?_
  have hr0:∀e∈[rc,rr],e∉T':=λe he hm=>by
   simp only[bM,dW,iD]at he;rcases he with rfl|rfl
   .exact(hT' _ hm).2.elim (λh=>absurd (hT _ h)<|eF hrc) λh=>absurd (hrs.lo _<|aL ..).2<|eF h
   .exact hrn hm
  have Le:oz [rc,rr] H6 H8:=(FY.ext.weaken λr h=>by simp[aO.1 h]).trans<|XL.ext.weaken λr h=>by simp[aO.1 h]
  refine⟨ta,tc,T',O,?_,λr R=>⟨aP (hT' r R).1 Le.next,(hT' r R).2.imp_right<|aX hx1.next⟩,VE.ext,hft.stay Le λr R=>.inr ?_⟩
  .exact al2.stay Le hr0
  simp only[bM,dW,iD]at R;rcases R with rfl|rfl
  .exactλht=>absurd (ht.one ((bx hw.ext).get 0 O).HZ) (by decide)
  .exactλht=>absurd (ht.one hrd.HZ) (by decide)
 have hil:i<hc.sp.length:=by omega
 obtain⟨n,rfl⟩:∃k,n=k+1:=⟨n-1,N⟩;have hpm:=bB hil
 have aku:go A a n (i+1) (hc.one A a hc.sp[i])=go A a (bnd A a+1) 0 y0:=by
  rw[<-hgo];show _=match hc.sp[i]? with|none=>hc|some p=>go A a n (i+1)<|hc.one A a p
  rw[au hil]
 refine ME.ld hsp<|al1.Xw N hil (EM<|au hil) λ_=>?_;generalize hc.sp[i]=p at hpm aku|-;have hpb:=hW.b p hpm;refine(M.refl hw.wf).ns O O O λH7 rf G hx7=>?_;have G:M [] H6 H7 [(rf,86,[B p.1,B p.2])]:=G;have hrf:=G.wB<|aL ..
 obtain⟨T2,hT2,aeu⟩:=hw.own;have hk7:=hkw.stay hx7 λr h=>nomatch h;have hF2:∀r,ax r->r<H7.next/\r∉T2:=λr h=>⟨aP (hFb r h).1<|aX hw.ext.next hx7.next,λhm=>(hT2 r hm).2.elim (hFb r h).2 λg=>absurd (hFb r h).1<|eF g⟩
 have hF3:∀r∈T2,¬ax r:=λr R h=>(hF2 r h).2 R;have bf:∀{C},oz T2 H7 C->M T2 H6 C [(rf,86,[B p.1,B p.2])]:=λJ=>(G.weaken λr h=>nomatch h:M T2 _ _ _).ahI (λe he=>G.wB he) (λr R=>(hT2 r R).1) J
 have mid:∀{H8 xM XB XC Oc u},WS T2 H7 H8 rr rs ms me mn ml mo (if p.1∈A.sp then hc.back p else hc)->gJ Pg X (sub xI [1,0,1,1,1,1,1,1,1,0,1,0,0,1,0,0,1,1]) (BV (pr rw') (pr rs) (T fa l.length fc) (B a) (T W 0 0) (B mo) (pr rc) jF lH (pr rr) zf (vi 0) (B i) (pr rf) xM (T fa l.length fc) (B l.length) (B i0) (T fa l.length fc) (B l.length) (B j) XB XC Oc u H8) (rO 5<|sW Pg X (sub xI [1,0,1,1,1,1,1,1,1,0,1,0,0,1,1]) K3):=by
  intro H8 xM XB XC Oc u hw8;have hk8:=hk7.stay hw8.ext hF3;have G:=bf hw8.ext;refine tp ?_;refine ME.ld (H:=hN H8) (hk8.b.cell (o:=4) O) ?_;refine d_ ?_;obtain⟨evs,he1,he2⟩:=hk7.a.e;obtain⟨ea,ec,he3,hfe⟩:=he2 _ hpb.1;refine(he1.stay hw8.ext λr R=>.inl<|hF3 r R).TP hpb.1 he3 λr o=>?_;refine d_ ?_;have hone:hc.one A a p=(A.cs p.1).foldl (Rn.along A a p) (if p.1∈A.sp then hc.back p else hc):=rfl
  have hW8:Rn.ak A a (if p.1∈A.sp then hc.back p else hc)/\p.2<=(if p.1∈A.sp then hc.back p else hc).sk.length:=by
   split
   .exact⟨hW.back hpm,by rw[Rn.VX];exact hpb.2⟩
   .exact⟨hW,hpb.2⟩
  generalize(if p.1∈A.sp then hc.back p else hc)=y8 at hw8 hone hW8;have hWe:∀k,Rn.ak A a (((A.cs p.1).take k).foldl (Rn.along A a p) y8)/\y8.sk.length<=(((A.cs p.1).take k).foldl (Rn.along A a p) y8).sk.length:=λk=>Rn.ak.Uc ho hpb.1 _ _ (λe he=>eP he) hW8.1 hW8.2
  have af4:(A.cs p.1).length<=100000:=by
   have:=At.yZ ho<|p.1+1;have:=At.vX ho hpb.1;omega
  refine Ig 19 23 121 (h2:=λm uZ xM Oc C=>∃k:Nat,uZ=vi 0/\Oc=B k/\k+m=(A.cs p.1).length/\WS T2 H7 C rr rs ms me mn ml mo (((A.cs p.1).take k).foldl (Rn.along A a p) y8)) ?_ (A.cs p.1).length ⟨0,rfl,rfl,aW _,hw8⟩;clear hw8 G hk8;rintro m' uZ xM Oc rg4 H9 ⟨k,rfl,rfl,hkm,hw9⟩;refine tp ?_;refine aC (λy=>?_) λy=>?_;rotate_left
  .refine tl ?_;refine dU ?_;rw[cK N,<-hone]at hw9;rw[hK3];exact⟨n,dI n,_,_,_,_,_,_,_,_,_,O,i+1,_,O,nX,N,aku,hW.one ho hpm,hw9.up (hw.ext.trans' hx7) λr R=>(hT2 r R).2⟩
  have hke:k<(A.cs p.1).length:=by omega
  refine IU (hfe.stay hw9.ext λr R=>.inl<|hF3 r R) hke λpe=>(M.refl hw9.wf).ns O O O λDm re G BD=>?_;have G:M [] H9 Dm [(re,121,[B (A.cs p.1)[k].1,B (A.cs p.1)[k].2.1,B (A.cs p.1)[k].2.2])]:=G;refine(bf<|hw9.ext.trans' BD).iK<|G.iK ?_;have e:((A.cs p.1).take<|k+1).foldl (Rn.along A a p) y8=(((A.cs p.1).take k).foldl (Rn.along A a p) y8).along A a p (A.cs p.1)[k]:=by rw[eO,au hke,iN];rfl
  refine aJ.mono (ahK ho hk7 hF2 (hw9.call BD) hL (hWe k).1 ⟨hpb.1,aX hW8.2 (hWe k).2⟩<|bB hke) ?_;rintro _ OW ⟨rfl,hw⟩;refine aY ?_;refine bT (λh=>absurd trivial h) λ_=>?_;refine dU ?_;exact⟨(A.cs p.1).length-(k+1),N,_,_,_,_,_,O,k+1,O,nX,N,by rw[e];exact hw⟩
 refine G.kK ?_;refine ME.ld (H:=hN H7) (hk7.b.cell (o:=7) O) ?_;refine d_ ?_;obtain⟨ta,tc,hsv,hsf⟩:=hkw.s;rw[hsv];refine(hsf.ex hx7).TP (v:=.bool<|decide<|p.1∈A.sp) hpb.1 (by rw[bD,hkw.on _ hpb.1];rfl) λr o=>?_;refine dL (λh=>?_) λh=>?_
 .refine d_ ?_;refine aJ.mono (akn (hkw.stay (hx7.trans'<|Ext.hN H7) λr h=>nomatch h) hF3 (aeu _<|hx7.trans'<|Ext.hN H7) hL hW hpm) ?_;rintro _ H8 ⟨rfl,hw8⟩;have hw8:=hw8.m G.wf;refine aY ?_;refine splitK (λK hK=>?_) ?_
  .simp only[eG];rcases vP H7 H8 with e|e<;>rw[e]<;>exact acs (by kernel_rfl) (by kernel_rfl) hK
  refine dL (λh=>by cases h) λ_=>?_;exact mid (by rw[if_pos (fE h)];exact hw8)
 .refine d_ ?_;exact mid (by rw[if_neg (mJ h)];exact aeu _ hx7)
end
section
open Go.Proofs.Lu Go.Proofs.Lu.Wk
open Go.Ae Go.Ae.SH
variable{S:List Nat}{ax:Nat->Prop}{ev:D}
def Yp{n:Nat}(h:n<=16777216):U4 2 (T (Z ⟨r,0,W⟩) n<|fI 2) W (Z<|B n) (Z<|B n)=Z (T (Z ⟨r,0,W⟩) n n):=by
 show bR (gD<|fI 2) (aK (Z n) λm=>gd (aB 0 n&&aB n m&&aB m (fI 2)&&(!(eX<|Z<|B n)||eX (Z<|B n)))<|Z<|T (Z ⟨r,sN m 0 0 2,W⟩) (dA n 0)<|dA m 0) (gd (ay (fI 2)<|fI 2)<|gd (aB 0 n&&aB n n&&aB n n&&f&&gD n)<|Z<|T (Z ⟨r,sN n 0 0 2,W⟩) (dA n 0)<|dA n 0)=_;have hk:gD n=f:=aH N;have ho:sN n 0 0 2=0:=by unfold sN;cases ay n 0<;>rfl
 rw[yE,jL,dw,aH<|bg _,aH<|az _,hk,ho];rfl
def akv(hg:GB 86 2 v (GN o) gb)(hl:o.length<=16777216):aJ Pg X 86 [v] H (Q0 (λv'=>∃a c c',v=T a o.length c/\v'=T a o.length c') H):=by
 rcases hg with⟨rfl,he,rfl⟩|⟨r,n,dY,rfl,hn,rfl⟩
 .cases o with
  |cons p o=>cases he
  |nil=>
   refine ce [0,2] ?_;refine tp ?_;refine PU.of (v:=T W 0 0) O<|Lu.rr ?_;exact⟨⟨_,_,_,O,O⟩,O⟩
 .rw[vY]at hn;obtain rfl:o.length=n:=by omega
  refine ce [0,2] ?_;refine tp ?_;refine PU.of (Yp hl)<|Lu.rr ?_;exact⟨⟨_,_,_,O,O⟩,O⟩
def OZ(t:Int)(p:Sp)(o:List Sp)(e:Ed):List Sp:=if(e.2.2,p.2)∈o then o else if e.1=1 then if((e.2.1:Nat):Int)=t then o++[(e.2.2,p.2)]else o else o
abbrev OQ(A:At)(t:Int)(o:List Sp)(p:Sp):List Sp:=(A.cs p.1).foldl (OZ t p) o
def Ui(l:List Sp):w_ A l t=l.foldl (OQ A t) []:=by
 unfold w_;rw[List.foldl_flatMap];congr 1;funext o p;rw[List.foldl_map,List.foldl_filter];congr 1;funext o e;unfold OZ
 by_cases Q:e.1=1<;>by_cases I:((e.2.1:Nat):Int)=t<;>simp[Q,I]
def Nh(A:At)(aa:Nat)(o:List Sp):Prop:=o.Nodup/\∀p∈o,p.1<A.ns/\p.2<=aa
def Nh.le(h:Nh A aa o):o.length<=A.ns*(aa+1):=KY h.1 λp hp=>⟨(h.2 p hp).1,Nat.lt_succ_of_le (h.2 p hp).2⟩
theorem Nh.OZ(h:Nh A aa o)(Q:e.2.2<A.ns)(I:p.2<=aa):Nh A aa (OZ t p o e):=by
 unfold Lv.OZ;split
 .exact h
 .next hn=>
  split
  .split
   .refine⟨ny.2 ⟨h.1,by simp,λq hq r R e=>?_⟩,λq hq=>?_⟩
    .rw[aO]at R;exact hn<|R▸e▸hq
    .rcases bX.1 hq with hq|hq
     .exact h.2 q hq
     .rw[aO]at hq;subst hq;exact⟨Q,I⟩
   .exact h
  .exact h
def Nh.ahL(I:p.2<=aa):∀(l:List Ed){o:List Sp},(∀e∈l,e.2.2<A.ns)->Nh A aa o->Nh A aa (l.foldl (Lv.OZ t p) o)
 |[],o,_,h=>h
 |e::l,o,hl,h=>Nh.ahL I l (λd hd=>hl d<|by simp[hd])<|h.OZ (hl e<|by simp) I
def Nh.fold(ho:A.Ok):∀(l:List Sp){o:List Sp},(∀p∈l,p.1<A.ns/\p.2<=aa)->Nh A aa o->Nh A aa (l.foldl (OQ A t) o)
 |[],o,_,h=>h
 |p::l,o,hl,h=>Nh.fold ho l (λd hd=>hl d<|by simp[hd])<|Nh.ahL (hl p<|by simp).2 _ (λe he=>(ho.e _ (hl p<|by simp).1 e he).1) h
theorem af5(ho:A.Ok)(hw:Wf H)(hk:zU ax H rw' A q ev sv sb)(hf:i_ F' 86 H fa l.length 2<|GN l)(hl:∀p∈l,p.1<A.ns/\p.2<=aa)(hb:A.ns*(aa+1)<=8000000)(hll:l.length<=8000000):
 aJ Pg X 56 [pr rw',.agg ⟨[T fa l.length fc,.bool ok,T W 0 0,B st]⟩,vi t] H (Q1 (λv C=>∃a c,v=.slice a (w_ A l t).length c/\i_ (H.next<=·) 86 C a (w_ A l t).length 2 (GN<|w_ A l t)) H):=by
 refine ce [0,1,2,4,6,7,8,10,12,13,15,20,21,22,39,40,41] ?_;refine tl ?_;have G:=M.refl hw;refine G.box O λH1 rc G=>?_;have G:M [] H H1 [(rc,68,[T fa l.length fc,.bool ok,T W 0 0,B st])]:=G;have hk1:∀{C},Ext H C->zU ax C rw' A q ev sv sb:=λJ=>hk.stay J λr h=>nomatch h;refine aJ.mono (OM (hk1 G.ext) ho) ?_;rintro _ H1 ⟨rfl,rfl⟩;refine aY ?_;have h10:=G.ext.next
 refine G.mkMap (e:=pE) GM λH2 mp hmp hx2 hge G=>?_;refine G.oF ?_;refine aY ?_;have hm2:Dn pE H2 mp λk=>if k∈([]:List Sp)then Z u0 else W:=by simpa using hmp
 have hsp:∀i,Nh A aa ((l.take i).foldl (OQ A t) []):=λi=>Nh.fold ho _ (λp hp=>hl p<|eP hp) ⟨jZ,λp h=>nomatch h⟩;have al3:H.next<=mp:=aX h10 hge
 refine lp9 8 10 12 13 15 22 39 40 41 (h2:=λm x8 jh kQ jF lH DR x39 x40 x41 C=>∃(i:Nat)(gb:List dJ),DR=B i/\i+m=l.length/\GB 86 2 x8 (GN<|(l.take i).foldl (OQ A t) []) gb/\(Dn pE C mp λk=>if k∈(l.take i).foldl (OQ A t) []then Z u0 else W)/\M [] H C ((rc,68,[T fa l.length fc,.bool ok,T W 0 0,B st])::gb)) ?_ l.length ⟨0,[],rfl,aW _,GB.nil _ _,hm2,G⟩;rintro m x8 jh kQ jF lH DR x39 x40 x41 u H3 ⟨i,gb,rfl,him,hg,hm,G⟩;refine tp ?_;refine aC (λy=>?_) λy=>?_;rotate_left
 .refine tl ?_;refine aJ.mono (akv hg (by have:=(hsp i).le;omega)) ?_;rintro _ H4 ⟨⟨a,c,c',rfl,rfl⟩,rfl⟩;rw[cK N,<-Ui]at hg|-;refine Lu.rr ?_;refine⟨⟨a,c',O,?_⟩,G.ext⟩;obtain⟨a',n',c2,e,_,hf⟩:=hg.Jc (ax:=(H.next<=·)) (G.perm (L':=gb++[(rc,68,[T fa l.length fc,.bool ok,T W 0 0,B st])])<|aF (l₁:=[_])) λe he=>G.wB<|bH _ he;cases e;exact hf
 have hil:i<l.length:=by omega
 have hpl:=hl _<|bB hil;have e1:(l.take<|i+1).foldl (OQ A t) []=OQ A t ((l.take i).foldl (OQ A t) []) l[i]:=by rw[eO,au hil,iN];rfl
 have al4:=hsp i;refine(hf.ex G.ext).Xw N hil (EM<|au hil) λ_=>?_;generalize(l.take i).foldl (OQ A t) []=os at*;generalize l[i]=p at*;refine G.ns O O O λH4 rp G hx4=>?_;have G:M [] H H4 ((rp,86,[B p.1,B p.2])::(rc,68,[T fa l.length fc,.bool ok,T W 0 0,B st])::gb):=G;have hm:=hm.ex hx4 λh=>nomatch h;refine d_ ?_;refine aJ.mono (aes (hk1 G.ext) hpl.1) ?_;rintro _ H5 ⟨rfl,rfl⟩;refine aY ?_;refine dL (λh=>by cases h) λ_=>?_;refine ME.ld (H:=hN H5) ((hk1 G.ext).b.cell (o:=4) O) ?_;refine d_ ?_;obtain⟨evs,he1,he2⟩:=hk.a.e;obtain⟨ea,ec,he3,hfe⟩:=he2 _ hpl.1;refine(he1.ex G.ext).TP hpl.1 he3 λr o=>?_;refine d_ ?_
 have af4:(A.cs p.1).length<=100000:=by
  have:=At.yZ ho<|p.1+1;have:=At.vX ho hpl.1;omega
 have akw:∀k,Nh A aa (((A.cs p.1).take k).foldl (OZ t p) os):=λk=>Nh.ahL hpl.2 _ (λe he=>(ho.e _ hpl.1 e<|eP he).1) al4;refine Vx 8 12 13 15 41 (h2:=λm x8 kQ jF lH x41 C=>∃(k:Nat)(gb:List dJ),x41=B k/\k+m=(A.cs p.1).length/\GB 86 2 x8 (GN<|((A.cs p.1).take k).foldl (OZ t p) os) gb/\(Dn pE C mp λj=>if j∈((A.cs p.1).take k).foldl (OZ t p) os then Z u0 else W)/\M [] H C ((rp,86,[B p.1,B p.2])::(rc,68,[T fa l.length fc,.bool ok,T W 0 0,B st])::gb)) ?_ (A.cs p.1).length ⟨0,gb,rfl,aW _,hg,hm,G⟩;clear hg hm G;rintro m' x8 kQ jF lH x41 rg4 H6 ⟨k,gb,rfl,hkm,hg,hm,G⟩;refine tp ?_;refine aC (λy=>?_) λy=>?_;rotate_left
 .refine tl ?_;refine dU ?_;rw[cK N]at hg hm;exact⟨l.length-(i+1),N,_,_,_,_,_,_,_,_,_,_,_,O,i+1,gb,nX,N,by rw[e1];exact hg,by rw[e1];exact hm,M.drop (A:=[_]) G⟩
 have hke:k<(A.cs p.1).length:=by omega
 refine IU (hfe.ex G.ext) hke λpe=>?_;have e2:((A.cs p.1).take<|k+1).foldl (OZ t p) os=OZ t p (((A.cs p.1).take k).foldl (OZ t p) os) (A.cs p.1)[k]:=by rw[eO,au hke,iN];rfl
 have amM:=akw k;have af6:=(akw<|k+1).le;rw[e2]at af6;generalize((A.cs p.1).take k).foldl (OZ t p) os=o2 at*;generalize(A.cs p.1)[k]=e at*;refine G.ns O O O λH7 re G hx7=>?_;have G:M [] H H7 ((re,121,[B e.1,B e.2.1,B e.2.2])::(rp,86,[B p.1,B p.2])::(rc,68,[T fa l.length fc,.bool ok,T W 0 0,B st])::gb):=G;have hm:=hm.ex hx7 λh=>nomatch h;refine d_ ?_;refine G.ns O O O λH8 rz G Bw=>?_;have G:M [] H H8 ((rz,86,[B e.2.2,B p.2])::(re,121,[B e.1,B e.2.1,B e.2.2])::(rp,86,[B p.1,B p.2])::(rc,68,[T fa l.length fc,.bool ok,T W 0 0,B st])::gb):=G;have hm:=hm.ex Bw λh=>nomatch h;refine G.iK ?_;refine Dn.has (e:=pE) (k:=(e.2.2,p.2)) hm GM FQ aen ?_;refine G.kK ?_;refine G.ns O O O λH9 ru G LW=>?_;have hm:=hm.ex LW λh=>nomatch h;refine aC (λy=>?_) λy=>?_
 .have e3:OZ t p o2 e=o2:=if_pos y;refine dU ?_;exact⟨(A.cs p.1).length-(k+1),N,_,_,_,_,_,_,_,O,k+1,gb,nX,N,by rw[e2,e3];exact hg,by rw[e2,e3];exact hm,M.drop (A:=[_,_,_]) G⟩
 refine d_ ?_;refine bT (λQ=>?_) λQ=>?_
 .have e3:OZ t p o2 e=o2:=(if_neg y).trans (if_neg λh=>Q N);refine dU ?_;exact⟨(A.cs p.1).length-(k+1),N,_,_,_,_,_,_,_,O,k+1,gb,nX,N,by rw[e2,e3];exact hg,by rw[e2,e3];exact hm,M.drop (A:=[_,_,_]) G⟩
 refine d_ ?_;refine bT (λI=>?_) λI=>?_
 .have e3:OZ t p o2 e=o2:=(if_neg y).trans ((if_pos N).trans<|if_neg I);refine dU ?_;exact⟨(A.cs p.1).length-(k+1),N,_,_,_,_,_,_,_,O,k+1,gb,nX,N,by rw[e2,e3];exact hg,by rw[e2,e3];exact hm,M.drop (A:=[_,_,_]) G⟩
 have e3:OZ t p o2 e=o2++[(e.2.2,p.2)]:=(if_neg y).trans<|(if_pos N).trans<|if_pos I;rw[e3,aQ]at af6;refine tm ?_;refine PU.of (v:=u0) O<|G.alW (e:=pE) (k:=(e.2.2,p.2)) (.inr al3) hm GM aen λDm hm G BD=>G.iK ?_;have h10:=G;have G:=G.base;refine hg.KU G O O O (by rw[vY];omega) λq' v' OW gT hg G=>?_;have hm:=hm.ex G.ext<|h10.C6 hm;have G:=h10.over G;refine tl ?_;refine dU ?_;exact⟨(A.cs p.1).length-(k+1),N,_,_,_,_,_,_,_,O,k+1,gT,nX,N,by rw[e2,e3,Jk];exact hg,by rw[e2,e3];exact hm.plus λj=>by simp,M.drop (A:=[_,_,_]) G⟩
end
section
open Go.Proofs.Lu Go.Proofs.Lu.Wk
open Go.Ae Go.Ae.SH
variable{S:List Nat}{ax:Nat->Prop}{ev:D}
def exC{α:Type}{p:α->Prop}{a:α}{l:List α}:(∃x∈a::l,p x)<->p a\/∃x∈l,p x:=by simp
def Uj(ts:List Nat)(e:Ed):List Nat:=if e.1=1 then ts++[e.2.1]else ts
def Rz(A:At)(x:List Nat×List Nat)(p:Sp):List Nat×List Nat:=if p.1∈x.1 then x else(p.1::x.1,(A.cs p.1).foldl Uj x.2)
def Rp(A:At)(l:List Sp):List Nat:=(l.foldl (Rz A) ([],[])).2
def V7(rg:Nat):∀(l:List Ed)(ts:List Nat),rg∈l.foldl Uj ts<->rg∈ts\/∃e∈l,e.1=1/\e.2.1=rg
 |[],ts=>by simp
 |e::l,ts=>by
  rw[mQ,V7 rg l];unfold Uj;split
  .next h=>simp[h,or_assoc,eq_comm]
  .next h=>simp[h]
def Jl:∀(l:List Ed)(ts:List Nat),(l.foldl Uj ts).length<=ts.length+l.length
 |[],ts=>az _
 |e::l,ts=>by
  have:=Jl l<|Uj ts e;rw[mQ,cr]
  have:(Uj ts e).length<=ts.length+1:=by
   unfold Uj;split<;>simp
  omega
def cnt(A:At)(ms:List Nat):Nat->Nat
 |0=>0
 |n+1=>cnt A ms n+if n∈ms then(A.cs n).length else 0
def acu(ho:A.Ok)(ms:List Nat):∀n,n<=A.ns->cnt A ms n<=A.pre n
 |0,_=>bg _
 |n+1,h=>by
  have:=acu ho ms n N;rw[At.vX ho N];unfold cnt;split<;>omega
def Rq{s:Nat}(hs:s∉ms):∀n,cnt A (s::ms) n=cnt A ms n+if s<n then(A.cs s).length else 0
 |0=>rfl
 |n+1=>by
  unfold cnt;rw[Rq hs n]
  by_cases h:n=s
  .subst h;simp[hs]
  .by_cases I:s<n
   .rw[if_pos I,if_pos (by omega:s<n+1)];simp only[bM,h,false_or];omega
   .rw[if_neg I,if_neg (by omega:¬s<n+1)];simp only[bM,h,false_or];omega
def Uk(A:At)(x:List Nat×List Nat):Prop:=(∀rg,rg∈x.2<->∃s∈x.1,∃e∈A.cs s,e.1=1/\e.2.1=rg)/\x.2.length<=cnt A x.1 A.ns
def Uk.step{x:List Nat×List Nat}(h:Uk A x)(hp:p.1<A.ns):Uk A (Rz A x p):=by
 unfold Rz;split
 .exact h
 .next hn=>
  refine⟨λrg=>?_,?_⟩
  .rw[V7,h.1];simp only[exC];exact or_comm
  .have:=Jl (A.cs p.1) x.2;have:=h.2;show _<=cnt A (p.1::x.1) A.ns;rw[Rq hn,if_pos hp];dsimp only;omega
def Uk.fold:∀(l:List Sp){x:List Nat×List Nat},Uk A x->(∀p∈l,p.1<A.ns)->Uk A (l.foldl (Rz A) x)
 |[],x,h,_=>h
 |p::l,x,h,hl=>Uk.fold l (h.step<|hl p<|by simp) λq hq=>hl q (by simp[hq])
def Jm(s:Nat):∀(l:List Sp)(x:List Nat×List Nat),s∈(l.foldl (Rz A) x).1<->s∈x.1\/∃p∈l,p.1=s
 |[],x=>by simp
 |p::l,x=>by
  rw[mQ,Jm s l];unfold Rz;split
  .next h=>
   simp only[exC];exact⟨λg=>g.elim .inl λg=>.inr<|.inr g,λg=>g.elim .inl λg=>g.elim (λg=>.inl<|g▸h) .inr⟩
  .rw[exC,bM];constructor
   .rintro((rfl|g)|g)
    .exact .inr<|.inl O
    .exact .inl g
    .exact .inr<|.inr g
   .rintro(g|rfl|g)
    .exact .inl<|.inr g
    .exact .inl<|.inl O
    .exact .inr g
def Uk.nil:Uk A ([],[]):=⟨by simp,bg _⟩
def KZ(hl:∀p∈l,p.1<A.ns)(rg:Nat):rg∈Rp A l<->off A l rg:=by
 unfold Rp;rw[(Uk.fold l Uk.nil hl).1];constructor
 .rintro⟨s,hs,e,he,Q,I⟩;rw[Jm]at hs;rcases hs with hs|⟨p,hp,rfl⟩
  .cases hs
  .exact⟨p,hp,e,he,Q,by rw[I]⟩
 .rintro⟨p,hp,e,he,Q,I⟩;exact⟨p.1,(Jm _ _ _).2<|.inr ⟨p,hp,O⟩,e,he,Q,N⟩
def acv(ho:A.Ok)(ht:A.ty<=65536)(hl:∀p∈l,p.1<A.ns)(t:Int):(decide (0<=t/\t<65536)&&hasB (wds<|Rp A l) t.toNat)=decide (off A l t):=by
 rw[aet]
 by_cases h:off A l t
 .obtain⟨p,hp,e,he,Q,I⟩:=id h
  have hty:e.2.1<A.ty:=by
   have hoe:=(ho.e _ (hl p hp) e he).2.2;unfold At.ad2 at hoe;rcases hoe with hoe|hoe|hoe<;>omega
  rw[bG h,bG N,bG];rfl;exact(KZ hl _).2 (by rwa [show((t.toNat:Nat):Int)=t by omega])
 .rw[dn h]
  by_cases h0:0<=t/\t<65536
  .rw[bG h0,dn];rfl;intro hm;have:=(KZ hl _).1 hm;rw[show((t.toNat:Nat):Int)=t by omega]at this;exact h this
  .rw[dn h0];rfl
theorem aev(ho:A.Ok)(ht:A.ty<=65536)(hw:Wf H)(hk:zU ax H rw' A q ev sv sb)(hf:i_ F' 86 H fa l.length 2<|GN l)(hl:∀p∈l,p.1<A.ns)(hll:l.length<=8000000):
 aJ Pg X 26 [pr rw',.agg ⟨[T fa l.length fc,.bool ok,T W 0 0,B st]⟩] H (Q1 (λv C=>Uh (H.next<=·) C v<|wds<|Rp A l) H):=by
 have hbig:=ho.big;refine ce [0,1,3,4,5,6,8,10,20,21,22,50,51,52] ?_;refine tl ?_;have G:=M.refl hw;refine G.box O λH1 rc G=>?_;have G:M [] H H1 [(rc,68,[T fa l.length fc,.bool ok,T W 0 0,B st])]:=G;have hk1:∀{C},Ext H C->zU ax C rw' A q ev sv sb:=λJ=>hk.stay J λr h=>nomatch h;refine aJ.mono (OM (hk1 G.ext) ho) ?_;rintro _ H1 ⟨rfl,rfl⟩;refine aY ?_;refine ME.ld ((hk1 G.ext).b.cell (o:=7) O) ?_;obtain⟨ta,tc,hsv,hsf⟩:=hk.s;rw[hsv];refine aY ?_;refine G.mkS (az _) N λH2 rm G=>?_;rw[mK]at G;refine G.oF ?_;refine aY ?_;have hm:∀i,∀s,s∈((l.take i).foldl (Rz A) ([],[])).1<->∃p∈l.take i,p.1=s:=λi s=>by rw[Jm];simp
 have hof:∀i,Uk A ((l.take i).foldl (Rz A) ([],[])):=λi=>Uk.fold _ Uk.nil λp hp=>hl p<|eP hp;have ahM:∀x:List Nat×List Nat,Uk A x->x.2.length<=100000:=λx J=>aX J.2<|aX (acu ho _ _<|az _)<|At.yZ ho _;refine lp7 6 8 10 22 50 51 52 (h2:=λm x6 x8 jh DR Gu Dv S8 C=>∃(i:Nat)(sm:List Bool)(gb:List dJ),DR=B i/\i+m=l.length/\sm.length=A.ns/\(∀s,s<A.ns->sm[s]?=Z (decide<|s∈((l.take i).foldl (Rz A) ([],[])).1))/\GB 3 1 x6 (fG ((l.take i).foldl (Rz A) ([],[])).2) gb/\M [] H C ((rm,4,bools sm)::(rc,68,[T fa l.length fc,.bool ok,T W 0 0,B st])::gb)) ?_ l.length ⟨0,aU A.ns aA,[],rfl,aW _,by simp,λs hs=>by rw[ku,if_pos hs];simp,GB.nil _ _,by rw[show bools (aU A.ns aA)=aU A.ns (.bool aA)from jY];exact G⟩;clear G;rintro m x6 x8 jh DR Gu Dv S8 u H3 ⟨i,sm,gb,rfl,him,hsl,hsm,hg,G⟩;refine tp ?_;refine aC (λy=>?_) λy=>?_;rotate_left
 .refine tl ?_;rw[cK N]at hg;obtain⟨a,n,c,rfl,hn,hf3⟩:=hg.Jc (ax:=λ_=>True) (L:=[(rm,4,bools sm),(rc,68,[T fa l.length fc,.bool ok,T W 0 0,B st])]) (G.perm<|aF (l₁:=[_,_])) λ_ _=>trivial;have hfl:=ahM _<|hof l.length;rw[cK (az _)]at hfl
  obtain rfl:n=(Rp A l).length:=by
   unfold Rp;simp only[aM]at hn;omega
  refine aJ.mono (aco G.wf hf3 (λrg hu=>?_) (by unfold Rp;omega)) ?_
  .obtain⟨p,hp,e,he,Q,I⟩:=(KZ hl _).1 hu;have hoe:=(ho.e _ (hl p hp) e he).2.2;unfold At.ad2 at hoe;rcases hoe with hoe|hoe|hoe<;>omega
  rintro v H4 ⟨hb,J⟩;refine Lu.rr ?_;obtain⟨r,Q,I,h3⟩:=hb;exact⟨⟨r,Q,aX G.ext.next I,h3⟩,G.ext.trans' J⟩
 have hil:i<l.length:=by omega
 have hpl:=hl _<|bB hil;have e1:(l.take<|i+1).foldl (Rz A) ([],[])=Rz A ((l.take i).foldl (Rz A) ([],[])) l[i]:=by rw[eO,au hil,iN];rfl
 have al5:=hof i;have akx:=ahM _<|hof<|i+1;rw[e1]at akx;refine(hf.ex G.ext).Xw N hil (EM<|au hil) λ_=>?_;generalize(l.take i).foldl (Rz A) ([],[])=x at*;generalize l[i]=p at*;refine G.ns O O O λH4 rp G hx4=>?_;have G:M [] H H4 ((rp,86,[B p.1,B p.2])::(rm,4,bools sm)::(rc,68,[T fa l.length fc,.bool ok,T W 0 0,B st])::gb):=G;refine d_ ?_;refine aJ.mono (aes (hk1 G.ext) hpl) ?_;rintro _ H5 ⟨rfl,rfl⟩;refine aY ?_;refine dL (λh=>by cases h) λ_=>?_;refine G.oF<|G.ix (v:=.bool<|decide<|p.1∈x.1) hpl (by rw[bD,hsm _ hpl];rfl) λ_=>?_;refine aC (λy=>?_) λy=>?_
 .have e2:Rz A x p=x:=if_pos y;refine dU ?_;exact⟨l.length-(i+1),N,_,_,_,_,_,_,_,_,_,O,i+1,sm,gb,nX,N,hsl,by rw[e1,e2];exact hsm,by rw[e1,e2];exact hg,M.drop (A:=[_]) G⟩
 have e2:Rz A x p=(p.1::x.1,(A.cs p.1).foldl Uj x.2):=if_neg y;rw[e2]at e1 akx;refine tm ?_;refine G.YD hpl (by rw[aM];omega) (kk:=λ_ H6 G=>?_)
 have G:M [] H H6 ((rp,86,[B p.1,B p.2])::(rm,4,bools<|sm.set p.1 f)::(rc,68,[T fa l.length fc,.bool ok,T W 0 0,B st])::gb):=by
  rw[show bools (sm.set p.1 f)=(bools sm).set p.1 (.bool f)from fV];exact G
 have al6:∀s,s<A.ns->(sm.set p.1 f)[s]?=Z (decide<|s∈p.1::x.1):=λs hs=>by
  rw[dB]
  by_cases h:p.1=s
  .subst h;rw[if_pos O,if_pos N];simp
  .rw[if_neg h,hsm s hs];simp[oJ h]
 have T7:(sm.set p.1 f).length=A.ns:=by rw[bF];exact hsl
 generalize sm.set p.1 f=sm at*;refine ME.ld (H:=hN H6) ((hk1 G.ext).b.cell (o:=4) O) ?_;refine d_ ?_;obtain⟨evs,he1,he2⟩:=hk.a.e;obtain⟨ea,ec,he3,hfe⟩:=he2 _ hpl;refine(he1.ex G.ext).TP hpl he3 λr o=>?_;refine d_ ?_
 have af4:(A.cs p.1).length<=100000:=by
  have:=At.yZ ho<|p.1+1;have:=At.vX ho hpl;omega
 have hts:=Jl ((A.cs p.1)) x.2;have hx2:=ahM _ al5;refine Ig 6 10 52 (h2:=λm x6 jh S8 C=>∃(k:Nat)(gb:List dJ),S8=B k/\k+m=(A.cs p.1).length/\GB 3 1 x6 (fG<|((A.cs p.1).take k).foldl Uj x.2) gb/\M [] H C ((rp,86,[B p.1,B p.2])::(rm,4,bools sm)::(rc,68,[T fa l.length fc,.bool ok,T W 0 0,B st])::gb)) ?_ (A.cs p.1).length ⟨0,gb,rfl,aW _,hg,G⟩;clear hg G;rintro m' x6 jh S8 rg4 H7 ⟨k,gb,rfl,hkm,hg,G⟩;refine tp ?_;refine aC (λy=>?_) λy=>?_;rotate_left
 .refine tl ?_;refine dU ?_;rw[cK N]at hg;exact⟨l.length-(i+1),N,_,_,_,_,_,_,_,_,_,O,i+1,sm,gb,nX,N,T7,by rw[e1];exact al6,by rw[e1];exact hg,M.drop (A:=[_]) G⟩
 have hke:k<(A.cs p.1).length:=by omega
 refine IU (hfe.ex G.ext) hke λpe=>?_;have e3:((A.cs p.1).take<|k+1).foldl Uj x.2=Uj (((A.cs p.1).take k).foldl Uj x.2) (A.cs p.1)[k]:=by rw[eO,au hke,iN];rfl
 have htk:=Jl ((A.cs p.1).take k) x.2;rw[eH]at htk;generalize((A.cs p.1).take k).foldl Uj x.2=ts at*;generalize(A.cs p.1)[k]=e at*;refine G.ns O O O λH8 re G hx7=>?_;have G:M [] H H8 ((re,121,[B e.1,B e.2.1,B e.2.2])::(rp,86,[B p.1,B p.2])::(rm,4,bools sm)::(rc,68,[T fa l.length fc,.bool ok,T W 0 0,B st])::gb):=G;refine d_ ?_;refine aC (λQ=>?_) λQ=>?_
 .have e4:Uj ts e=ts++[e.2.1]:=if_pos N;refine G.oF<|hg.KU G O O O (by rw[aM];omega) λq' v' OW gT hg G=>?_;refine dU ?_;exact⟨(A.cs p.1).length-(k+1),N,_,_,_,_,_,O,k+1,gT,nX,N,by rw[e3,e4,show fG (ts++[e.2.1])=fG ts++[B e.2.1]from dG];exact hg,M.drop (A:=[_]) G⟩
 .have e4:Uj ts e=ts:=if_neg N;refine dU ?_;exact⟨(A.cs p.1).length-(k+1),N,_,_,_,_,_,O,k+1,gb,nX,N,by rw[e3,e4];exact hg,M.drop (A:=[_]) G⟩
end
end Go.Proofs.Lv
namespace Go.Proofs.Lu
namespace Wk
variable{b:Bool}{o:Nat}
def vo(b:Bool):Nat->List Bool->List Nat
 |_,[]=>[]
 |k,c::l=>if c=b then k::vo b (k+1) l else vo b (k+1) l
variable{A:At}
def V8:∀(l:List Bool)(k:Nat),∀i∈vo b k l,k<=i/\i<k+l.length
 |[],_=>λi h=>nomatch h
 |c::l,k=>λi h=>by
  have h:i∈(if c=b then k::vo b (k+1) l else vo b (k+1) l):=h;have e:(c::l).length=l.length+1:=rfl;split at h
  .rcases bM.1 h with rfl|h
   .omega
   .have:=V8 l (k+1) i h;omega
  .have:=V8 l (k+1) i h;omega
def V9:∀(l:List Bool)(k n:Nat),vo b (k+n) l=(vo b k l).map (·+n)
 |[],_,_=>rfl
 |c::l,k,n=>by
  have:=V9 l (k+1) n;rw[Nat.add_right_comm]at this;show(if c=b then(k+n)::vo b (k+n+1) l else vo b (k+n+1) l)=(if c=b then k::vo b (k+1) l else vo b (k+1) l).map _;rw[this];split<;>rfl
def V':∀(l m:List Bool)(k:Nat),vo b k (l++m)=vo b k l++vo b (k+l.length) m
 |[],_,_=>rfl
 |c::l,m,k=>by
  show(if c=b then k::vo b (k+1) (l++m)else vo b (k+1) (l++m))=(if c=b then k::vo b (k+1) l else vo b (k+1) l)++vo b (k+(l.length+1)) m;rw[V' l m (k+1),show k+1+l.length=k+(l.length+1) by omega];split<;>rfl
def V_:∀(l:List Bool)(k:Nat),(∀b∈l,b=f)->vo f k l=List.range' k l.length/\vo aA k l=[]
 |[],_,_=>⟨rfl,rfl⟩
 |c::l,k,h=>by
  obtain⟨Q,I⟩:=V_ l (k+1) λb hb=>h b (by simp[hb]);have:=h c (by simp);subst this;exact⟨dV (k::·) Q,I⟩
def K4:∀(l:List Bool)(k:Nat),vo aA k l=[]->∀b∈l,b=f
 |[],_,_=>λb h=>nomatch h
 |true::l,k,h=>λb hb=>by
  rcases bM.1 hb with rfl|hb
  .rfl
  .exact K4 l (k+1) h b hb
 |false::l,k,h=>nomatch h
def ag.GU:∀(l:List Int)(n:Nat)(z:ag),z.kept A (l.take n)=(z.kept A l).take n
 |[],n,z=>by cases n<;>rfl
 |t::l,0,z=>rfl
 |t::l,n+1,z=>dV (_::·)<|ag.GU l n<|z.feed A t
def ag.Wd:∀(l:List Int)(n:Nat)(h:n<l.length)(z:ag),(z.kept A l)[n]?=Z (decide<|off A (z.all A<|l.take n).sp l[n])
 |t::l,0,h,z=>rfl
 |t::l,n+1,h,z=>ag.Wd l n (tT h)<|z.feed A t
def acy:∀(l:List Bool)(k i:Nat),i∈vo b k l->l[i-k]?=Z b
 |c::l,k,i,h=>by
  have h':i∈(if c=b then k::vo b (k+1) l else vo b (k+1) l):=h
  have key:i∈vo b (k+1) l->(c::l)[i-k]?=Z b:=λh=>by
   have:=(V8 _ _ _ h).1;have e:=acy l (k+1) i h;rw[show i-k=(i-(k+1))+1 by omega];exact e
  split at h'
  .next y=>
   rcases bM.1 h' with rfl|h
   .rw[ja,y];rfl
   .exact key h
  .exact key h'
def ag.not(l:List Int)(z:ag)(h:o∈vo aA 0 (z.kept A l)):∃ho:o<l.length,
 vo aA 0 (z.kept A<|pick (l.take o) ((z.kept A l).take o)++[l[o]])≠[]:=by
 have Q:=acy _ _ _ h;have I:=(V8 _ _ _ h).2;rw[ag.C5,aW]at I;rw[jT,ag.Wd _ _ I]at Q;refine⟨I,λe=>?_⟩;have:=K4 _ _ e;rw[<-ag.GU,ag.GI,(ag.again (l.take o) z).1]at this;have:=this _<|cO _<|aO.2 O;rw[dH Q]at this;exact Bool.noConfusion this
def ag.lng:∀(l:List Int)(z:ag)(k:Nat),(z.all A l).long=z.long+(vo f k<|z.kept A l).length
 |[],_,_=>rfl
 |t::l,z,k=>by
  show((z.feed A t).all A l).long=z.long+(if decide (off A z.sp t)=f then k::vo f (k+1) _ else vo f (k+1) _).length;rw[ag.lng l _ (k+1)];unfold ag.feed
  by_cases h:off A z.sp t
  .rw[if_pos h,if_pos<|bG h,cr];show z.long+1+_=_;omega
  .rw[if_neg h,if_neg<|by simpa using h]
def ag.ahS(l:List Int)(z:ag):(z.all A l).long<=z.long+l.length:=by
 have:∀(bs:List Bool)(k:Nat),(vo f k bs).length<=bs.length:=by
  intro bs
  induction bs with
  |nil=>exactλ_=>az _
  |cons b bs ih=>
   intro k;show(if b=f then k::vo f (k+1) bs else vo f (k+1) bs).length<=_;split
   .exact my<|ih _
   .exact pV<|ih _
 have:=this (z.kept A l) 0;rw[ag.C5]at this;rw[ag.lng l z 0];omega
def ag.af7(ho:A.Ok):∀(l:List Int)(z:ag),ag.ak A z->ag.ak A (z.all A l)
 |[],_,h=>h
 |t::l,z,h=>ag.af7 ho l _<|h.feed ho t
def ahz(A:At):ag->List Int->Option ag
 |z,[]=>Z z
 |z,t::l=>if w_ A z.sp t=[]then W else ahz A (z.on A t) l
def We{l:List Sp}{t:Int}:w_ A l t=[]<->¬off A l t:=by
 constructor
 .intro h ⟨p,hp,e,he,Q,I⟩
  have key:∀(m o:List Sp),m.foldl (λo p=>if p∈o then o else o++[p]) o=[]->m=[]/\o=[]:=by
   intro m
   induction m with
   |nil=>exactλo h=>⟨rfl,h⟩
   |cons p m ih=>
    intro o h;have h:=(ih _ h).2;have h:(if p∈o then o else o++[p])=[]:=h;split at h
    .next hp=>rw[h]at hp;cases hp
    .cases tO.1 h with|intro _ h=>cases h
  have h:=(key _ _ h).1
  have:(e.2.2,p.2)∈(l.flatMap λp=>((A.cs p.1).filter λe=>e.1==1&&((e.2.1:Nat):Int)==t).map λe=>(e.2.2,p.2)):=
   qB.2 ⟨p,hp,bQ.2 ⟨e,uU.2 ⟨he,by simp[Q,I]⟩,rfl⟩⟩
  rw[h]at this;cases this
 .intro h;refine List.eq_nil_iff_forall_not_mem.2 λq hq=>?_;obtain⟨p,hp,e,he,Q,I,_⟩:=V2 hq;exact h ⟨p,hp,e,he,Q,I⟩
def acz:∀(l:List Int)(z:ag),ahz A z l=if vo aA 0 (z.kept A l)=[]then Z (z.all A l)else W
 |[],_=>rfl
 |t::l,z=>by
  show(if w_ A z.sp t=[]then W else ahz A (z.on A t) l)=if(if decide (off A z.sp t)=aA then 0::vo aA (0+1) _ else vo aA (0+1) _)=[]then Z ((z.feed A t).all A l)else W
  by_cases h:off A z.sp t
  .have e:z.feed A t=z.on A t:=if_pos h;rw[if_neg (λe=>We.1 e h),if_neg (show¬decide (off A z.sp t)=aA by simp[h]),acz l,V9,e]
   by_cases I:vo aA 0 ((z.on A t).kept A l)=[]
   .rw[if_pos I,if_pos (by rw[I];rfl)]
   .rw[if_neg I,if_neg<|by simpa using I]
  .rw[if_pos (We.2 h),if_pos (show decide (off A z.sp t)=aA by simpa using h),if_neg<|by simp]
def acA{bs:List Bool}(h:vo aA 0 bs=[])(n:Nat):vo aA 0 (bs.take n)=[]:=
 (V_ _ 0 λb hb=>K4 _ _ h b<|eP hb).2
def ahT{s n k:Nat}(hk:k<=n):(k+1)*(s*(s*(k+1)+1))<=(2*s+2)*((2*s+2)*(n+2)+1)*(n+2):=by
 rw[uK (k+1)];refine gN (gN N<|my<|gN N N) N
end Wk
end Go.Proofs.Lu
