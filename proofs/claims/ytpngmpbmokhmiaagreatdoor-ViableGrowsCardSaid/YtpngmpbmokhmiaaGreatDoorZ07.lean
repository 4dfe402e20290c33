/-
  Part 07 of the proof. No condition.
-/
import Derived.Test.YtpngmpbmokhmiaaGreatDoorZ06
set_option linter.unusedVariables false
set_option linter.unusedSimpArgs false
set_option maxRecDepth 100000
set_option maxHeartbeats 4000000
set_option linter.defProp false
open Option renaming some->D,none->Q
open Bool renaming true->f,false->aC
open Go renaming Value->Z,TypeId->aH
open Go.Value renaming slice->I
open ByteArray renaming mk->dh
open List.Perm renaming cons->dS
open List renaming length->gB
noncomputable section
namespace Go.Proofs.Lu
open Go.Ae Go.Ae.cs
variable{b b' c es i k k0 kb m o:Nat}{K:Z->Z->R->Prop}{L Lx cs M' Mb gb:C dL}{H T H0 Hb Hc:R}{v x:Z}{a:aB Addr}{M ks l z:C Z}{F':Nat->Prop}{ay rg w:Bool}{nm t:aV}{ch kd root:Int}
abbrev isRead(b:Nat)(s:aV)(v:Z)(T:R):Prop:=∃(rs:Z)(cd:Int)(at':Nat),v=.tuple ⟨[rs,.agg ⟨[vi cd,B at']⟩]⟩/\at'<=s.size+1/\iH b s.size T rs
def Tok.st{S:C Nat}{lo hi:Nat}(h:Tok b H lo hi v)(E:oN S H T)(G:∀q∈S,q<b\/¬yS H q 331)(hb:b'<=b):Tok b' T lo hi v:=by
 have⟨kd,a,e,t,rs,W,J,h3,h4,h5,h6⟩:=h;exact⟨kd,a,e,t,rs,W,J,h3,h4,h5,(h6.stay E G).le (ax _) hb⟩
def Yl(hw:Wf H)(hT:BV H)(s:aV)(hs:s.size<=20000):aO Pg X 203 [.string s] H (Q1 (isRead H.next s) H):=by
 have G:=F.refl hw;refine jS [0,2,3,4,5,6,7,8,9,10] ?_;refine G.iX λHn rs G=>?_;refine rV (λhc=>?_) λhc=>?_
 .refine eU ?_;refine G.jH λHn G=>rr ?_;exact G.iI<|⟨⟨_,_,0,O,N,iH.nil _ _ _⟩,G.ext⟩
 refine lp8 2 4 5 6 7 8 9 10 (ai:=λm x2 x4 x5 x6 x7 x8 x9 jo T=>∃(k:Nat)(ds:C Z)(gb:C dL),x2=I Q 0 0/\x5=B k/\k+m=s.size/\GB 331 2 x4 ds gb/\ds.length<=2*k/\MB ds/\F [] H T ((rs,173,[vi 0,vi 0])::(gb++[]))) ?_ s.size ⟨0,[],[],rfl,rfl,N,GB.nil _ _,by simp,(nofun),G⟩;clear G;rintro m x2 x4 x5 x6 x7 x8 x9 jo u T ⟨k,ds,gb,rfl,rfl,hk,hg,hdl,hds,G⟩;refine gK.vg λK hK=>?_
 have lay:∀(lo hi:Int)(q:Nat) x7 x8 u H2,k<q->q<=s.size->F [] H H2 ((rs,173,[vi 0,vi 0])::(gb++[]))->
  gK Pg X (sub BP [1,1,1,0,1,0,0,1,0,1,1,1,1]) (Ei (.string s) (I Q 0 0) (.pointer<|D ⟨rs,0,Q⟩) x4 (B k) (.int .i32 lo) x7 x8 (.int .i32 hi) (B q) u H2) (sw 1 K):=by
  intro lo hi q x7 x8 u H2 W J G;subst hK;refine tl<|PU.of (v:=.agg ⟨[_,_]⟩) O ?_;refine G.bS O O O N λH3 rx G=>?_;have G:F [] H H3 ((rx,331,[.int .i32 lo,.int .i32 hi])::(gb++[(rs,173,[vi 0,vi 0])])):=G.perm<|dS _<|Ny _ _;refine hg.add G N O O N λv' H3 gQ hg' hS' E=>?_;refine bG ?_;exact⟨s.size-q,N,_,_,_,_,_,_,_,_,_,_,O,q,_,gQ,O,O,N,hg',by simp;omega,hds.app _ _,hS'.perm (Ny _ _).symm⟩
 have mid:∀(lo:Int)(sz q:Nat)(b:Bool) x8 u H2,Bc u 44=.bool b->k<q->q<=s.size->(b=f->q+1<s.size)->F [] H H2 ((rs,173,[vi 0,vi 0])::(gb++[]))->
  gK Pg X (sub BP [1,1,1,0,1,0,0,1,0,1,1,1,0,1]) (Ei (.string s) (I Q 0 0) (.pointer<|D ⟨rs,0,Q⟩) x4 (B k) (.int .i32 lo) (B sz) x8 (.int .i32 lo) (B q) u H2) (t_ Pg X (sub BP [1,1,1,0,1,0,0,1,0,1,1,1,1])<|sw 1 K):=by
  intro lo sz q b x8 u H2 hb W J h3 G;refine tl ?_;rw[hb];refine qx (λhb=>?_) λhb=>?_
  .have:=h3 hb;rw[fD N N];refine bG ?_;rw[NH (show(q:Int)+1=((q+1:Nat):Int) by omega)];refine G.cm (NJ G.wf (hT.ex G.ext) s (q+1) N N) ?_;rintro v H3 ⟨r,n,e,rfl,h4,h5⟩ E G;refine G.kL ?_;refine dN (λhe=>?_) λhe=>?_
   .rw[fD N N];refine eU ?_;refine G.jH λHn G=>?_;subst hK;refine rr ?_;exact G.iI<|⟨⟨_,_,q+1,O,N,iH.nil _ _ _⟩,G.ext⟩
   refine aT (λhc=>?_) λhc=>?_
   .refine eU ?_;refine G.jH λHn G=>?_;subst hK;refine rr ?_;exact G.iI<|⟨⟨_,_,k,O,N,iH.nil _ _ _⟩,G.ext⟩
   rw[fD N N];refine G.kL ?_;rw[fD N N];refine G.kL ?_;rw[NH (show(q:Int)+(1+(n:Int))=((q+1+n:Nat):Int) by omega)];exact lay _ _ _ _ _ _ _ N N G
  .exact lay _ _ _ _ _ _ _ W J G
 refine q_ (λhc=>?_) λhc=>?_
 .refine G.cm (NJ G.wf (hT.ex G.ext) s k N N) ?_;rintro v H3 ⟨r,n,e,rfl,h4,h5⟩ E G;refine G.kL ?_;refine dN (λhe=>?_) λhe=>?_
  .refine eU ?_;refine G.jH λHn G=>?_;subst hK;refine rr ?_;exact G.iI<|⟨⟨_,_,k,O,N,iH.nil _ _ _⟩,G.ext⟩
  have h6:=h5 N;rw[fD N N];refine G.kL ?_;rw[pg N N];refine G.kL ?_;rw[NH (show(k:Int)+(n:Int)=((k+n:Nat):Int) by omega)];refine aT (λhc=>?_) λhc=>?_
  .rw[sZ N];refine G.kL ?_;exact mid _ _ _ _ _ _ _ (by simp only[xF];rfl) N N (λ_=>N) G
  .exact mid _ _ _ aC _ _ _ (by simp only[xF]) N N (λh=>by cases h) G
 .subst hK;refine bG ?_;refine tl ?_;have hS2:F [] H T (gb++[(rs,173,[vi 0,vi 0])]):=G.perm<|Ny _ _;obtain⟨a,n,c,rfl,hn,hf⟩:=hg.fl hS2;have hge:=G.ext.next
  refine aO.mono (EU (KM:=s.size) G.wf N ⟨a,n,c,ds,O,hf,N,hds⟩) ?_;rintro v H3 ⟨hv,E⟩;have hlt:=G.lt;have hS0:=G.call E;have G:=hS0.base;refine PU.b2 O<|G.jH λHn G=>rr ?_;exact G.iI<|⟨⟨_,0,0,O,N,(hv.stay G.ext λq hq=>.inl<|hlt q hq).le (ax _) hge⟩,(hS0.over G).ext⟩
theorem T7(hw:Wf H)(hT:BV H)(s:aV)(k:Nat)(hk:k<s.size)(hs:s.size<=20000):aO Pg X 172 [.string s,B k] H (Q1 (F8 H.next s k) H):=by
 have G:=F.refl hw;refine jS [0,1,4,5,6,7,8,19] ?_;refine G.iX λHn rt G=>?_;refine G.iX λHn rs G=>?_;rw[fD N N];refine bG ?_;refine NG 6 7 8 19 (ai:=λm x6 x7 x8 uC T=>∃p:Nat,x6=B p/\p+m=s.size+1/\k+1<=p/\F [] H T [(rs,173,[vi 0,vi 0]),(rt,221,[vi 0,vi 0,vi 0,.string<|dh #[],I Q 0 0])]) ?_ (s.size-k) ⟨k+1,rfl,N,N,G⟩;clear G;rintro m x6 x7 x8 uC u T ⟨p,rfl,W,J,G⟩;refine kX (λhc=>?_) λhc=>?_
 .refine tm ?_;refine G.jH λHn G=>?_;refine G.jH λHn G=>?_;refine rr ?_;refine eU ?_;exact⟨⟨_,_,k,O,⟨_,0,0,_,_,O,_,_,_,O⟩,λh=>by cases h⟩,G.ext⟩
 rw[sZ N];refine rV (λhd=>?_) λhd=>?_
 .rw[fD N N];refine bG ?_;rw[fD N N];refine bG ?_;exact⟨m-2,N,_,_,_,_,_,_,O,p+2,O,N,N,G⟩
 refine aT (λhe=>?_) λhe=>?_
 .rw[fD N N];refine bG ?_;rw[show slT (.string s) (D<|vi<|(k:Int)+1) (D<|B p) Q=_ from CZ (lo:=k+1) N N];refine bG ?_;have hp:=p8 s (lo:=k+1) (hi:=p) N N;refine aO.mono (Yl G.wf (hT.ex G.ext) _ N) ?_;rintro v H3 ⟨⟨rsv,cd,e,rfl,h3,h4⟩,E⟩;have hge:=G.ext.next
  have hlt:=G.lt;have hS0:=G.call E;have G:=hS0.base;refine G.kL ?_;refine G.iX λHn rq G=>?_;refine G.kL ?_;refine G.jH λHn G=>?_;refine Mq (λhz=>?_) λhz=>?_
  .refine eU ?_;rw[fD N N];refine eU ?_;rw[fD N N];refine eU ?_;refine G.mh λHn G=>?_;refine G.mh λHn G=>?_;simp only[d_,fK];apply xG (a:=rq) (b:=rs) (c:=rt) (G.nq 0 1 O O N) (G.nq 0 2 O O N) (G.nq 1 2 O O N) xN jr jr;refine rr ?_;refine eU ?_;exact⟨⟨_,cd,k+1+e,O,⟨_,0,0,_,_,O,_,_,_,O⟩,λh=>absurd h hz⟩,(hS0.over G).ext⟩
  .obtain⟨xa,xn,xc,xcs,rfl,h5,h6,h7⟩:=id h4;rw[fD N N];refine eU ?_;refine G.jH λHn G=>?_;refine G.jH λHn G=>?_;refine rr ?_;refine eU ?_;refine⟨⟨_,0,0,O,⟨_,_,_,_,_,O,_,_,_,O⟩,λ_=>⟨4,k,p+1,_,_,rfl,N,N,N,bA _,?_⟩⟩,(hS0.over G).ext⟩;exact(h4.stay G.ext λq hq=>.inl<|hlt q hq).le N hge
 .rw[fD N N];refine bG ?_;exact⟨m-1,N,_,_,_,_,_,_,O,p+1,O,N,N,G⟩
def abP(hw:Wf H)(hT:BV H)(s:aV)(k:Nat)(hk:k<s.size)(hs:s.size<=20000):aO Pg X 141 [.string s,B k] H (Q1 (F8 H.next s k) H):=by
 have G:=F.refl hw;refine jS [0,1,4,5,6,7,8] ?_;refine G.iX λHn rt G=>?_;refine G.iX λHn rs G=>?_;rw[sZ N];refine bG ?_;refine aO.mono (IK _) ?_;rintro v T ⟨⟨b,rfl⟩,rfl⟩;refine bG ?_;have hge:=G.ext.next
 have hlt:=G.lt;refine gF (λhb=>?_) λhb=>?_
 .refine G.cm (Yk G.wf s k hk N) ?_;rintro v H3 ⟨tok,cd,e,rfl,⟨kd,a,e',t,rsv,rfl,xa,xn,xc,rfl⟩,hto⟩ E hS0;have G:=hS0.base;refine G.kL ?_;refine G.jH λHn G=>?_;refine G.jH λHn G=>?_;refine rr ?_;refine eU ?_;exact⟨⟨_,cd,e,O,⟨_,_,_,_,_,O,_,_,_,O⟩,λh=>(hto h).st G.ext (λq hq=>.inl<|hlt q hq) hge⟩,(hS0.over G).ext⟩
 refine aT (λhc=>?_) λhc=>?_
 .refine G.cm (O0 G.wf (hT.ex G.ext) s k hk N) ?_;rintro v H3 ⟨tok,cd,e,rfl,⟨kd,a,e',t,rsv,rfl,xa,xn,xc,rfl⟩,hto⟩ E hS0;have G:=hS0.base;refine G.kL ?_;refine G.jH λHn G=>?_;refine G.jH λHn G=>?_;refine rr ?_;refine eU ?_;exact⟨⟨_,cd,e,O,⟨_,_,_,_,_,O,_,_,_,O⟩,λh=>(hto h).st G.ext (λq hq=>.inl<|hlt q hq) hge⟩,(hS0.over G).ext⟩
 refine aT (λhc=>?_) λhc=>?_
 .refine G.cm (T7 G.wf (hT.ex G.ext) s k hk N) ?_;rintro v H3 ⟨tok,cd,e,rfl,⟨kd,a,e',t,rsv,rfl,xa,xn,xc,rfl⟩,hto⟩ E hS0;have G:=hS0.base;refine G.kL ?_;refine G.jH λHn G=>?_;refine G.jH λHn G=>?_;refine rr ?_;refine eU ?_;exact⟨⟨_,cd,e,O,⟨_,_,_,_,_,O,_,_,_,O⟩,λh=>(hto h).st G.ext (λq hq=>.inl<|hlt q hq) hge⟩,(hS0.over G).ext⟩
 rw[AL N];refine bG ?_;have hp:=p8 s (lo:=k) (hi:=s.size) N N;refine aO.mono (Dk _ _) ?_;rintro v T ⟨⟨b,rfl,hb2⟩,rfl⟩;refine qx (λhb=>?_) λhb=>?_
 .have hl:2<=(Go.Ae.part s k s.size).size:=by
   have⟨r,y⟩:=hb2 hb;have h:=dW gB y;have e1:(Go.Ae.part s k s.size).data.toList.length=(Go.Ae.part s k s.size).size:=rfl;rw[e1,aQ]at h;have e2:(dh #[45,62]).data.toList.length=2:=rfl;omega
  rw[fD N N];refine eU ?_;refine G.jH λHn G=>?_;refine G.jH λHn G=>?_;refine rr ?_;refine eU ?_;exact⟨⟨_,0,0,O,⟨_,_,_,_,_,O,_,_,_,O⟩,λ_=>⟨15,k,k+2,_,_,rfl,N,N,N,bA _,iH.nil _ _ _⟩⟩,G.ext⟩
 refine aO.mono (G8 _) ?_;rintro v T ⟨⟨kd,b,rfl⟩,rfl⟩;refine G.kL ?_;cases b with
 |false=>
  refine(show∀{A vn:Prop},A->xD (D !aC) A vn fromλh=>h)<|eU ?_;refine G.jH λHn G=>?_;refine G.jH λHn G=>?_;refine rr ?_;refine eU ?_;exact⟨⟨_,_,k,O,⟨_,0,0,_,_,O,_,_,_,O⟩,λh=>by cases h⟩,G.ext⟩
 |true=>
  refine(show∀{A vn:Prop},vn->xD (D !f) A vn fromλh=>h) ?_;rw[fD N N];refine eU ?_;refine G.jH λHn G=>?_;refine G.jH λHn G=>?_;refine rr ?_;refine eU ?_;exact⟨⟨_,0,0,O,⟨_,_,_,_,_,O,_,_,_,O⟩,λ_=>⟨kd,k,k+1,_,_,rfl,N,N,N,bA _,iH.nil _ _ _⟩⟩,G.ext⟩
def Tk(b:Nat)(H:R)(l:C Z):Prop:=∃(kd:Int)(a e:Nat)(t:aV)(rs:Z),l=[vi kd,B a,B e,.string t,rs]/\a<=20000/\t.size<=1000000/\iH b 20000 H rs
def Tk.st{S:C Nat}(h:Tk b H l)(E:oN S H T)(G:∀q∈S,q<b\/¬yS H q 331)(hb:b'<=b):Tk b' T l:=by
 have⟨kd,a,e,t,rs,W,J,h3,h4⟩:=h;exact⟨kd,a,e,t,rs,W,J,h3,(h4.stay E G).le (ax _) hb⟩
def T8(b:Nat)(H:R)(a:aB Addr)(n:Nat)(M:C Z):Prop:=je (b<=·) 221 H a n 5 M/\1<=n/\n<=20001/\(∀i,i<n->Tk b H (El M 5 i))/\M[(n-1)*5]?=D (vi 0)
def T8.st{S:C Nat}{n:Nat}(h:T8 b H a n M)(E:oN S H T)(G:∀q∈S,q<b\/¬yS H q 331/\¬yS H q 221)(hb:b'<=b):T8 b' T a n M:=
 ⟨(h.1.stay E λq hq=>(G q hq).imp eO (·.2)).le hb,h.2.1,h.2.2.1,λi hi=>(h.2.2.2.1 i hi).st E (λq hq=>(G q hq).imp_right (·.1)) hb,h.2.2.2.2⟩
abbrev ahE(b:Nat)(v:Z)(T:R):Prop:=∃(ts:Z)(cd e:Int),v=.tuple ⟨[ts,.agg ⟨[vi cd,vi e]⟩]⟩/\(ts=I Q 0 0\/∃a n c,ts=I (D a) n c)/\(cd=0->∃a n c M,ts=I a n c/\T8 b T a n M)
def BX{xs:C Z}{n:Nat}(hl:M.length=n*es)(E:xs.length=es):(∀i,i<n->El (M++xs) es i=El M es i)/\El (M++xs) es n=xs:=by
 constructor
 .intro i hi;have W:(i+1)*es<=n*es:=eY es hi;rw[gX]at W;apply h_;intro j;rw[mR,mR];split
  .rw[bM N]
  .rfl
 .unfold El;rw[<-hl,List.drop_left,cO N]
theorem Rh(hw:Wf H)(hT:BV H)(s:aV):aO Pg X 117 [.string s] H (Q1 (ahE H.next) H):=by
 have G:=F.refl hw;refine jS [0,2,3,4,5,6,7] ?_;refine G.iX λHn rs G=>?_;refine rV (λhc=>?_) λhc=>?_
 .refine eU ?_;refine G.jH λHn G=>rr ?_;exact G.iI<|⟨⟨_,3,0,O,.inl O,λh=>by cases h⟩,G.ext⟩
 have hs:s.size<=20000:=N;refine aO.mono (AU s 0 N N) ?_;rintro v T ⟨⟨k,rfl,hk0,hk1⟩,rfl⟩;refine V' 2 4 5 6 7 (ai:=λm x2 x4 x5 x6 x7 T=>∃(k n:Nat)(M:C Z)(gb:C dL),x2=I Q 0 0/\x5=B k/\k+m=s.size/\GB 221 5 x4 M gb/\M.length=n*5/\n<=k/\(∀i,i<n->Tk H.next T (El M 5 i))/\F [] H T ((rs,173,[vi 0,vi 0])::(gb++[]))) ?_ (s.size-k) ⟨k,0,[],[],rfl,rfl,N,GB.nil _ _,rfl,N,(λi h=>N),G⟩;clear G;rintro m x2 x4 x5 x6 x7 u T ⟨k,n,M,gb,rfl,rfl,hk,hg,hcl,hnk,htk,G⟩;refine tp ?_;have hge:=G.ext.next
 refine mF (λhc=>?_) λhc=>?_
 .refine tp ?_;refine PU.b5 O ?_;have htn:=G.GX (ty:=331) (by simp[hg.all]);have hS0:=G;have G:=hS0.base;refine G.bS O O O N λH1 rx G=>?_;have G:F _ T H1 ((rx,221,[vi 0,B s.size,B s.size,.string<|dh #[],I Q 0 0])::(gb++[(rs,173,[vi 0,vi 0])])):=G.perm<|dS _<|Ny _ _;refine hg.add G N O O N λv' H3 gQ hg' hS' E=>?_;have hE:=BX (es:=5) (n:=n) hcl (xs:=[vi 0,B s.size,B s.size,.string<|dh #[],I Q 0 0]) O;have G:=hS'.perm<|aG (l₂:=[_]);simp only[bI,bN]at G;refine eU ?_;refine G.jH λHn G=>?_;have hS2:=(hS0.over G).perm<|sU<|aG (l₂:=[_]);obtain⟨a,n',c,rfl,hn',hf⟩:=hg'.Sj hS2;have hn1:n'=n+1:=by rw[aQ,hcl]at hn';simp at hn';omega
  subst hn1;refine rr ?_;refine G.iI<|⟨⟨_,0,0,O,?_,λ_=>⟨a,n+1,c,_,rfl,hf,N,N,?_,?_⟩⟩,hS2.ext⟩
  .cases a with
   |none=>
    have⟨_,_,h,_⟩:=hf.1.2 0 _<|av (by rw[hf.1.1];omega);cases h
   |some a=>exact .inr ⟨a,_,_,O⟩
  .intro i hi;rcases cr i n with h|h
   .rw[hE.1 i h];exact(htk i h).st G.ext (λq hq=>.inr<|htn q hq)<|ax _
   .have:i=n:=N;subst this;rw[hE.2];exact⟨0,s.size,s.size,_,_,O,hs,bA _,iH.nil _ _ _⟩
  .rw[mW,<-hcl,dV<|ax _,jc];rfl
 refine aO.mono (abP G.wf (hT.ex G.ext) s k N hs) ?_;rintro v H3 ⟨⟨tok,cd,e,rfl,⟨kd,a,e',t,rsv,rfl,xa,xn,xc,rfl⟩,hto⟩,E⟩;have htn:=G.GX (ty:=331) (by simp[hg.all]);have hlt:=G.lt;have hS0:=G.call E;have G:=hS0.base;refine G.kL ?_;refine G.iX λHn r8 G=>G.iX λHn r10 G=>?_;refine G.kL ?_;refine G.jH λHn G=>?_;refine G.jH λHn G=>?_;refine Mq (λhz=>?_) λhz=>?_
 .refine eU ?_;refine G.mh λHn G=>?_;simp only[d_,fK];apply lQ (a:=r10) (b:=rs) (G.nq 0 2 O O N) xN jr jr;refine rr ?_;exact G.iI<|⟨⟨_,cd,e,O,.inl O,λh=>absurd h hz⟩,(hS0.over G).ext⟩
 have⟨kd',a',e2,t',rs',he,h3,h4,h5,h6,h7⟩:=hto hz;simp only[Value.agg.injEq,Array.mk.injEq,List.cons.injEq,xS]at he;have⟨e_1,e_2,e_3,e_4,e_5⟩:=he;have:e'=e2:=by injection e_3 with _ h;omega
 subst this;have:a=a':=by injection e_2 with _ h;omega
 subst this;have:t=t':=by injection e_4
 subst this;subst e_5;refine G.iI<|G.bS O O O N λH4 rx G=>?_;have G:=G.to (cs':=[vi kd,B a,B e',.string t,I xa xn xc]) O;have G:=G.perm (L':=(rx,221,[vi kd,B a,B e',.string t,I xa xn xc])::(gb++[_,_,_]))<|dS _<|aja _ _ _ _;refine hg.add G N O O N λv' H5 gQ hg' hS' hx'=>?_;have hE:=BX (es:=5) (n:=n) hcl (xs:=[vi kd,B a,B e',.string t,I xa xn xc]) O;have G:=hS'.perm<|aG (l₂:=[_,_,_]);simp only[bI,bN]at G;refine G.pz<|aO.mono (AU s e' N N) ?_;rintro v T ⟨⟨k2,rfl,hk2,hk3⟩,rfl⟩;have hS2:=(hS0.over G);refine⟨s.size-k2,N,_,_,_,_,_,_,_,O,k2,n+1,_,gQ,O,O,N,hg',by rw[aQ,hcl];simp;omega,N,?_,?_⟩
 .intro i hi;rcases cr i n with h|h
  .rw[hE.1 i h];exact((htk i h).st E (nofun)<|ax _).st G.ext (λq hq=>.inr λht=>htn q hq<|ht.jb (E.obj q (hlt q hq) kg).symm)<|ax _
  .have:i=n:=N;subst this;rw[hE.2];exact⟨kd,a,e',t,_,O,N,h6,(h7.stay G.ext λq hq=>.inl<|hlt q hq).le (ax _) hge⟩
 .exact F.drop (A:=[_,_])<|mg hS2
section
variable{S:C Nat}{SH:Nat->Prop}
abbrev pr(r:Nat):Z:=.pointer<|D ⟨r,0,Q⟩
structure RC where
 (rt ra rp rr:Nat)(a:aB Addr)(n c:Nat)(M:C Z)(nu:Nat)
abbrev pJ(rt ra:Nat):Z:=.func (.func 118) ⟨[]⟩ ⟨[pr rt,pr ra]⟩
abbrev yI(rp ra rt:Nat):Z:=.func (.func 119) ⟨[]⟩ ⟨[pr rp,pr ra,pr rt]⟩
def RuC(l:C Z):Prop:=∃(nm:aV)(rg ay w:Bool)(ch root at':Int),l=[.string nm,.bool rg,.bool ay,.bool w,vi ch,vi root,vi at']/\nm.size<=1000000
def NoC(SH:Nat->Prop)(H:R)(l:C Z):Prop:=∃(kd:Int)(a:aB Addr)(n c:Nat)(ks:C Z)(t:aV)(rs:Z)(at':Int),l=[vi kd,I a n c,.string t,rs,vi at']/\je SH 3 H a n 1 ks/\n<=20001/\(∀x∈ks,∃z:Int,x=vi z)/\t.size<=1000000/\iH 0 20001 H rs
def NoC.st(h:NoC SH H l)(E:oN S H T)(G:∀q∈S,(¬SH q\/¬yS H q 3)/\¬yS H q 331):NoC SH T l:=by
 have⟨kd,a,n,c,ks,t,rs,at',W,J,h3,h4,h5,h6⟩:=h;exact⟨kd,a,n,c,ks,t,rs,at',W,J.stay E λq hq=>(G q hq).1,h3,h4,h5,h6.stay E λq hq=>.inr (G q hq).2⟩
def Rd(SH:Nat->Prop)(q:RC)(k:Nat)(H:R)(cs:C dL):Prop:=∃rv rcs gr nv iK gn sc sa nr nn,
 cs=(q.rt,215,[I q.a q.n q.c])::(q.ra,3,[B k])::(q.rp,222,[pJ q.rt q.ra])::(q.rr,226,[pJ q.rt q.ra,yI q.rp q.ra q.rt,rv,nv,vi sc,vi sa])::(gr++gn)/\
 k<q.n/\T8 0 H q.a q.n q.M/\GB 234 7 rv rcs gr/\rcs.length=nr*7/\nr=q.nu/\(∀i,i<nr->RuC (El rcs 7 i))/\GB 238 5 nv iK gn/\iK.length=nn*5/\nn<=4000/\(∀i,i<nn->NoC SH H (El iK 5 i))/\¬SH q.ra
def Rd.le{q:RC}(h:Rd SH q k H cs):k<q.n/\q.n<=20001:=by
 have⟨rv,rcs,gr,nv,iK,gn,sc,sa,nr,nn,_,W,J,_⟩:=h;exact⟨W,J.2.2.1⟩
def NoC.wk(h:NoC SH H l)(hF:∀r,r<H.next->SH r->F' r):NoC F' H l:=by
 have⟨kd,a,n,c,ks,t,rs,at',W,J,h3⟩:=h;exact⟨kd,a,n,c,ks,t,rs,at',W,⟨J.1,λr o e hn=>by have⟨g1,g2,g3⟩:=J.2 r o e hn;exact⟨hF r g2 g1,g2,g3⟩⟩,h3⟩
def Rd.wk{q:RC}(h:Rd SH q k H cs)(hF:∀r,r<H.next->SH r->F' r)(ha:¬F' q.ra):Rd F' q k H cs:=by
 have⟨rv,rcs,gr,nv,iK,gn,sc,sa,nr,nn,h0,W,J,h3,h4,h5,h6,h7,h8,h9,h10,Cw⟩:=h;exact⟨rv,rcs,gr,nv,iK,gn,sc,sa,nr,nn,h0,W,J,h3,h4,h5,h6,h7,h8,h9,λi hi=>(h10 i hi).wk hF,ha⟩
def Rd.ex{q:RC}(h:Rd SH q k H cs)(E:Ext H T):Rd SH q k T cs:=by
 have⟨rv,rcs,gr,nv,iK,gn,sc,sa,nr,nn,h0,W,J,h3,h4,h5,h6,h7,h8,h9,h10,Cw⟩:=h;exact⟨rv,rcs,gr,nv,iK,gn,sc,sa,nr,nn,h0,W,J.st E (nofun)<|ax _,h3,h4,h5,h6,h7,h8,h9,λi hi=>(h10 i hi).st E<|nofun,Cw⟩
def Rd.ty{q:RC}(h:Rd SH q k H cs)(G:F S H0 H<|cs++L):∀r∈cs.map (·.1),(r=q.ra\/¬yS H r 3)/\¬yS H r 331/\¬yS H r 221:=by
 obtain⟨rv,rcs,gr,nv,iK,gn,sc,sa,nr,nn,rfl,W,J,h3,h4,h5,h6,h7,h8,h9,h10,Cw⟩:=h;intro r y;obtain⟨e,he,rfl⟩:=bQ.1 y;have hb:=(G.bk e<|dn _ he).Jc
 have key:e.1=q.ra\/(e.2.1≠3/\e.2.1≠331/\e.2.1≠221)\/e.2.1=3/\e.1=q.ra:=by
  simp only[bP,bZ]at he;rcases he with rfl|rfl|rfl|rfl|he|he
  .exact .inr<|.inl ⟨(show(215:Nat)≠3 by decide),(show(215:Nat)≠331 by decide),(show(215:Nat)≠221 by decide)⟩
  .exact .inl O
  .exact .inr<|.inl ⟨(show(222:Nat)≠3 by decide),(show(222:Nat)≠331 by decide),(show(222:Nat)≠221 by decide)⟩
  .exact .inr<|.inl ⟨(show(226:Nat)≠3 by decide),(show(226:Nat)≠331 by decide),(show(226:Nat)≠221 by decide)⟩
  .refine .inr (.inl ?_);rcases h3 with⟨_,_,rfl⟩|⟨_,_,_,_,_,rfl⟩
   .cases he
   .rw[aP]at he;subst he;exact⟨(show(234:Nat)≠3 by decide),(show(234:Nat)≠331 by decide),(show(234:Nat)≠221 by decide)⟩
  .refine .inr (.inl ?_);rcases h7 with⟨_,_,rfl⟩|⟨_,_,_,_,_,rfl⟩
   .cases he
   .rw[aP]at he;subst he;exact⟨(show(238:Nat)≠3 by decide),(show(238:Nat)≠331 by decide),(show(238:Nat)≠221 by decide)⟩
 have ra3:e.1=q.ra->e.2.1=3:=by
  intro e1;have hra:yS H q.ra 3:=(G.bk (q.ra,3,[B k])<|dn _ kg).Jc;rw[e1]at hb;exact hb.one hra
 have far:e.1=q.ra->¬yS H e.1 331/\¬yS H e.1 221:=λh=>by
  rw[ra3 h]at hb;exact⟨λht=>(by have:=hb.one ht;cases this),λht=>(by have:=hb.one ht;cases this)⟩
 rcases key with h|⟨h,h',h''⟩|⟨_,h⟩
 .exact⟨.inl h,far h⟩
 .exact⟨.inr λht=>h<|hb.one ht,λht=>h'<|hb.one ht,λht=>h''<|hb.one ht⟩
 .exact⟨.inl h,far h⟩
def Rd.on{q:RC}(h:Rd SH q k H cs)(G:F S H0 H<|cs++L)(E:oN (cs.map (·.1)) H T):Rd SH q k T cs:=by
 have hty:=h.ty G;have⟨rv,rcs,gr,nv,iK,gn,sc,sa,nr,nn,h0,W,J,h3,h4,h5,h6,h7,h8,h9,h10,Cw⟩:=h;exact⟨rv,rcs,gr,nv,iK,gn,sc,sa,nr,nn,h0,W,J.st E (λr y=>.inr (hty r y).2)<|ax _,h3,h4,h5,h6,h7,h8,h9,λi hi=>(h10 i hi).st E λr y=>⟨(hty r y).1.imp_left (λe=>by rw[e];exact Cw),(hty r y).2.1⟩,Cw⟩
def T8.get{n:Nat}(h:T8 b H a n M)(hi:i<n):∃(kd:Int)(at' e:Nat)(t:aV)(xa:aB Addr)(xn xc:Nat),El M 5 i=[vi kd,B at',B e,.string t,I xa xn xc]/\at'<=20000/\t.size<=1000000/\iH b 20000 H (I xa xn xc)/\(i=n-1->kd=0):=by
 have⟨kd,at',e,t,rs,W,J,h3,h4⟩:=h.2.2.2.1 i hi;obtain⟨xa,xn,xc,xcs,rfl,h5⟩:=id h4;refine⟨kd,at',e,t,xa,xn,xc,W,J,h3,h4,λe'=>?_⟩;subst e';have h6:=h.2.2.2.2;have h7:=mR M 5 (n-1) 0;rw[if_pos N,W,dH,h6]at h7;simpa using dK h7
theorem abQ{q:RC}(hR:Rd SH q k H cs)(G:F S H0 H<|cs++L)(j:Nat)(hj:j<=1000):aO Pg X 118 [B j,pr q.rt,pr q.ra] H (Q1 (λv _=>v=.agg ⟨El q.M 5<|min (k+j)<|q.n-1⟩) H):=by
 have hkn:=hR.le;obtain⟨rv,rcs,gr,nv,iK,gn,sc,sa,nr,nn,rfl,W,J,_⟩:=hR;have bt:=G.get 0 O;have ba:=G.get 1 O;have lt:=(G.lo _<|aS (i:=0) O).2;have la:=(G.lo _<|aS (i:=1) O).2;have G:=F.refl G.wf;refine jS [0,1,2,4] ?_;refine G.iX λHn rb G=>?_;refine G.Be (bt.cell (o:=0) O) lt ?_;refine G.Be (ba.cell (o:=0) O) la ?_;refine dQ ?_;refine G.Be (bt.cell (o:=0) O) lt ?_;refine bG ?_;refine qL ?_;refine bG ?_;rw[show min ((k:Int)+(j:Int)) ((q.n:Int)-1)=((min (k+j) (q.n-1):Nat):Int) by omega];have⟨r,o,e,y,hrd,hel,o0,_⟩:=J.1.1.read N (show min (k+j) (q.n-1)<q.n by omega) q.c;rw[e];refine bG ?_;have⟨kd,at',e',t,xa,xn,xc,he,_⟩:=J.get (i:=min (k+j)<|q.n-1) N;rw[he]at hrd;rw[he];refine G.Aj hrd y<|G.jH λHn G=>rr ?_;exact G.iI<|⟨O,G.ext⟩
def Rd.O4{q:RC}(hR:Rd SH q k H cs)(G:F S H0 H<|cs++L)(j:Nat)(hj:j<=1000)(h:∀T,Rd SH q k T cs->F S H0 T (cs++L)->Ext H T->K (pJ q.rt q.ra) (.agg ⟨El q.M 5<|min (k+j)<|q.n-1⟩) T):ME (vH Q (.pointer<|D ⟨q.rr,0,Q⟩) H) λv H1=>nU Pg X (Mj v) [B j] H1 (K v):=by
 have hR0:=hR;obtain⟨rv,rcs,gr,nv,iK,gn,sc,sa,nr,nn,rfl,_⟩:=hR;refine G.ld 3 O O ?_;show aO Pg X 118 [B j,pr q.rt,pr q.ra] H<|K _;refine aO.mono (abQ hR0 G j hj) ?_;rintro v T ⟨rfl,E⟩;exact h T (hR0.ex E) (G.call E) E
def akb{q:RC}(hR:Rd SH q k H cs)(G:F S H0 H<|cs++L):aO Pg X 119 [pr q.rp,pr q.ra,pr q.rt] H λv T=>v=.agg ⟨El q.M 5 k⟩/\∃M',Rd SH q (min (k+1)<|q.n-1) T M'/\F (cs.map (·.1)) H T M':=by
 have hkn:=hR.le;have hR0:=hR;have hS0:=G;have G:=G.own;obtain⟨rv,rcs,gr,nv,iK,gn,sc,sa,nr,nn,rfl,W,J,h3,h4,h5,h6,h7,h8,h9,h10,Cw⟩:=hR;have⟨kd,at',e',t,xa,xn,xc,he,_⟩:=J.get (i:=k) W;refine jS [0,1,2,3,4] ?_;refine G.iX λH1 rb G=>?_;apply G.pz;show aO Pg X 118 [B 0,pr q.rt,pr q.ra] H1 _;have hS':=G.perm<|aG (l₁:=[_]);refine aO.mono (abQ (hR0.on hS0 G.ext) hS' 0 N) ?_;rintro v H2 ⟨rfl,E⟩;rw[show min (k+0) (q.n-1)=k by omega,he];have G:=G.call E;refine G.iX λH1 r8 G=>?_;refine G.jH λHn G=>?_;apply G.pz;rw[fD N N];refine eU ?_;rw[pg N N];refine G.kL ?_;refine G.jH λHn G=>?_;apply G.iI;refine G.jH λHn G=>?_;rw[show min ((k:Int)+1) ((q.n:Int)-1)=((min (k+1) (q.n-1):Nat):Int) by omega]at G;refine rr ?_;refine eU ?_;refine⟨O,(q.rt,215,[I q.a q.n q.c])::(q.ra,3,[B (min (k+1)<|q.n-1)])::(q.rp,222,[pJ q.rt q.ra])::(q.rr,226,[pJ q.rt q.ra,yI q.rp q.ra q.rt,rv,nv,vi sc,vi sa])::(gr++gn),?_,F.drop (A:=[_,_]) G⟩;have Ab:=hR0.on hS0 G.ext;have⟨rv',akc,gr',nv',akd,gn',sc',sa',nr',nn',e0,g1,g2,_⟩:=Ab;refine⟨rv,rcs,gr,nv,iK,gn,sc,sa,nr,nn,O,N,g2,h3,h4,h5,h6,h7,h8,h9,λi hi=>(h10 i hi).st G.ext λr y=>?_,Cw⟩;have:=hR0.ty hS0 r y;exact⟨this.1.imp_left (λe=>by rw[e];exact Cw),this.2.1⟩
def Rd.next{q:RC}(hR:Rd SH q k H cs)(G:F S H0 H<|cs++L)(h:∀T M',Rd SH q (min (k+1)<|q.n-1) T M'->F S H0 T (M'++L)->F (cs.map (·.1)) H T M'->K (yI q.rp q.ra q.rt) (.agg ⟨El q.M 5 k⟩) T):ME (vH Q (.pointer<|D ⟨q.rr,1,Q⟩) H) λv H1=>nU Pg X (Mj v) [] H1 (K v):=by
 have hR0:=hR;obtain⟨rv,rcs,gr,nv,iK,gn,sc,sa,nr,nn,rfl,_⟩:=hR;refine G.ld 3 O O ?_;show aO Pg X 119 [pr q.rp,pr q.ra,pr q.rt] H<|K _;refine aO.mono (akb hR0 G) ?_;rintro v T ⟨rfl,M',hR',hS'⟩;exact h T M' hR' (G.frame hS') hS'
def AX{q:RC}(hR:Rd SH q k H cs)(G:F S H0 H<|cs++L)(cd at':Int):aO Pg X 144 [pr q.rr,vi cd,vi at'] H λv T=>v=.bool aC/\∃M',Rd SH q k T M'/\F (cs.map (·.1)) H T M':=by
 have hR0:=hR;have hS0:=G;have G:=G.own;obtain⟨rv,rcs,gr,nv,iK,gn,sc,sa,nr,nn,rfl,W,J,h3,h4,h5,h6,h7,h8,h9,h10,Cw⟩:=hR;refine cem [0,1,2,6] ?_;refine G.jH λHn G=>rr ?_;refine⟨O,(q.rt,215,[I q.a q.n q.c])::(q.ra,3,[B k])::(q.rp,222,[pJ q.rt q.ra])::(q.rr,226,[pJ q.rt q.ra,yI q.rp q.ra q.rt,rv,nv,vi cd,vi at'])::(gr++gn),?_,G⟩;have Ab:=hR0.on hS0 G.ext;have⟨rv',akc,gr',nv',akd,gn',sc',sa',nr',nn',e0,g1,g2,_⟩:=Ab;refine⟨rv,rcs,gr,nv,iK,gn,cd,at',nr,nn,O,W,g2,h3,h4,h5,h6,h7,h8,h9,λi hi=>(h10 i hi).st G.ext λr y=>?_,Cw⟩;have:=hR0.ty hS0 r y;exact⟨this.1.imp_left (λe=>by rw[e];exact Cw),this.2.1⟩
def Lc{q:RC}(hR:Rd SH q k H cs)(G:F S H0 H<|cs++L):aO Pg X 143 [pr q.rr] H λv T=>v=.bool aC/\∃M',Rd SH q k T M'/\F (cs.map (·.1)) H T M':=by
 have hkn:=hR.le;have hS0:=G;have G:=G.own;refine Fh [0,2,3] ?_;have hS1:F (cs.map (·.1)) H H (cs++[]):=by rw[bq];exact G
 refine hR.O4 hS1 0 N λH1 Ab hS1 hx1=>?_
 obtain⟨kd,at',e',t,xa,xn,xc,he,_⟩:∃(kd:Int)(at' e:Nat)(t:aV)(xa:aB Addr)(xn xc:Nat),El q.M 5 (min (k+0)<|q.n-1)=[vi kd,B at',B e,.string t,I xa xn xc]/\True:=by
  have⟨_,_,_,_,_,_,_,_,_,_,_,_,J,_⟩:=hR;have⟨kd,at',e',t,xa,xn,xc,he,_⟩:=J.get (i:=min (k+0)<|q.n-1) N;exact⟨kd,at',e',t,xa,xn,xc,he,trivial⟩
 rw[he];have G:=hS1.perm aG;simp only[bN]at G;refine G.iX λH2 rb G=>?_;refine G.kL ?_;refine G.jH λHn G=>?_;refine eU ?_;have hx2:=G.ext;have hS2:=G.perm<|aG (l₁:=[_]);have hR2:=hR.on hS0 hx2;refine aT (λhc=>?_) λhc=>?_
 .apply G.pz;refine aO.mono (AX hR2 hS2 _ _) ?_;rintro v H3 ⟨rfl,M',EW,sG⟩;refine rr ?_;refine⟨O,M',EW,?_⟩;exact F.drop (A:=[_])<|(hS2.frame sG).perm aG
 .apply G.pz;refine aO.mono (AX hR2 hS2 _ _) ?_;rintro v H3 ⟨rfl,M',EW,sG⟩;refine rr ?_;refine⟨O,M',EW,?_⟩;exact F.drop (A:=[_])<|(hS2.frame sG).perm aG
end
variable{q:RC}
section
variable{S:C Nat}{SH:Nat->Prop}
def Rd.tok(hR:Rd SH q k H cs)(hi:i<q.n):∃(kd:Int)(at' e:Nat)(t:aV)(xa:aB Addr)(xn xc:Nat),El q.M 5 i=[vi kd,B at',B e,.string t,I xa xn xc]/\at'<=20000/\t.size<=1000000/\iH 0 20000 H (I xa xn xc)/\(i=q.n-1->kd=0):=by
 have⟨_,_,_,_,_,_,_,_,_,_,_,_,J,_⟩:=hR;exact J.get hi
def EX(x:Z)(l:C Z):aho Q 0 (.agg ⟨x::l⟩)=D x:=rfl
def T9(x hr:Z)(l:C Z):aho Q 1 (.agg ⟨x::hr::l⟩)=D hr:=rfl
def G_(hR:Rd SH q k H cs)(G:F S H0 H<|cs++L)(kd:Int)(hkd:kd≠0):aO Pg X 145 [pr q.rr,vi kd] H λv T=>∃(b:Bool)(k':Nat)(M':C dL),v=.bool b/\Rd SH q k' T M'/\F (cs.map (·.1)) H T M'/\k<=k'/\(b=f->k'=k+1):=by
 have hkn:=hR.le;have hS0:=G;have G:=G.own;refine Fh [0,1,4] ?_;have hS1:F (cs.map (·.1)) H H (cs++[]):=by rw[bq];exact G
 refine hR.O4 hS1 0 N λH1 Ab hS1 hx1=>?_;rw[show min (k+0) (q.n-1)=k by omega];have⟨kd',at',e',t,xa,xn,xc,he,_,_,_,hz⟩:=Ab.tok hkn.1;rw[he,EX];refine wR (λhc=>?_) λhc=>?_
 .refine aO.mono (Lc Ab hS1) ?_;rintro v H3 ⟨rfl,M',EW,sG⟩;refine rr ?_;refine⟨aC,k,M',O,EW,?_,ax _,λh=>by cases h⟩;have:=hS1.frame sG
  rwa [bq]at this
 .refine Ab.next hS1 λH2 M' hR2 hS2 hx2=>?_
  refine rr ?_;refine⟨f,_,M',O,hR2,?_,N,λ_=>?_⟩
  .rwa [bq]at hS2
  .have:k≠q.n-1:=λh=>hkd (by rw[<-hc];exact hz h);omega
def EY(hw:Wf H)(kd:Int)(a e:Z)(t x:Z)(h:pZ (.agg ⟨[vi kd,a,e,t,x]⟩)=f):aO Pg X 142 [.agg ⟨[vi kd,a,e,t,x]⟩] H (Q1 (λv _=>v=.bool (decide (kd=1)||decide (kd=2))) H):=by
 have G:=F.refl hw;refine jS [0,1,2] ?_;refine G.box h λH1 r G=>?_;refine wS (λhc=>?_) λhc=>?_
 .refine rr ?_;refine⟨?_,G.ext⟩;rw[bL hc];rfl
 .refine eU ?_;refine rr ?_;refine⟨?_,G.ext⟩;rw[dB hc];rfl
def Ri(hw:Wf H)(kd:Int)(a e:Z)(t x:Z)(h:pZ (.agg ⟨[vi kd,a,e,t,x]⟩)=f):aO Pg X 204 [.agg ⟨[vi kd,a,e,t,x]⟩] H (Q1 (λv _=>∃b:Bool,v=.bool b/\(b=f->kd≠0)) H):=by
 have G:=F.refl hw;refine jS [0,1,2,4] ?_;refine G.box h λH1 r G=>?_;refine wS (λhc=>?_) λhc=>?_
 .rw[bL hc];refine G.kL ?_;refine rr ?_;exact⟨⟨f,O,λ_=>N⟩,G.ext⟩
 refine aT (λhc=>?_) λhc=>?_
 .rw[bL hc];refine G.kL ?_;refine rr ?_;exact⟨⟨f,O,λ_=>N⟩,G.ext⟩
 refine aT (λhc=>?_) λhc=>?_
 .rw[bL hc];refine G.kL ?_;refine rr ?_;exact⟨⟨f,O,λ_=>N⟩,G.ext⟩
 refine aT (λhc=>?_) λhc=>?_
 .rw[bL hc];refine G.kL ?_;refine rr ?_;exact⟨⟨f,O,λ_=>N⟩,G.ext⟩
 refine aT (λhc=>?_) λhc=>?_
 .rw[bL hc];refine G.kL ?_;refine rr ?_;exact⟨⟨f,O,λ_=>N⟩,G.ext⟩
 refine aT (λhc=>?_) λhc=>?_
 .rw[bL hc];refine G.kL ?_;refine rr ?_;exact⟨⟨f,O,λ_=>N⟩,G.ext⟩
 refine aT (λhc=>?_) λhc=>?_
 .refine rr ?_;exact⟨⟨f,O,λ_=>N⟩,G.ext⟩
 .refine rr ?_;exact⟨⟨aC,O,λh=>by cases h⟩,G.ext⟩
def NoV(SH:Nat->Prop)(H:R)(v:Z):Prop:=∃l,v=.agg ⟨l⟩/\NoC SH H l
def GB.two{ty:aH}(hg:GB ty es v M gb):fC v=f/\bK v=[v]:=by
 rcases hg with⟨rfl,_,_⟩|⟨r,n,eB,rfl,_,_⟩<;>exact⟨O,O⟩
def Dn(hR:Rd SH q k H cs)(G:F S H0 H<|cs++L)(hv:NoV SH H v)(at':Int):aO Pg X 175 [pr q.rr,v,vi at'] H λw T=>∃(i:Nat)(b:Bool)(M':C dL),w=.tuple ⟨[B i,.bool b]⟩/\i<4000/\Rd SH q k T M'/\F (cs.map (·.1)) H T M':=by
 have hR0:=hR;have hS0:=G;have G:=G.own;have hty:=hR.ty hS0;obtain⟨rv,rcs,gr,nv,iK,gn,sc,sa,nr,nn,rfl,W,J,h3,h4,h5,h6,h7,h8,h9,h10,Cw⟩:=hR;obtain⟨l,rfl,hno⟩:=hv;obtain⟨kd,ka,kn,kc,ks,t,rs,na,rfl,hk1,hk2,hk3,hk4,hk5⟩:=id hno;obtain⟨xa,xn,xc,xcs,rfl,T_⟩:=id hk5
 obtain⟨na',nc,cc,rfl,hnl,hnf⟩:∃a n c,nv=I a n c/\iK.length=n*5/\True:=by
  rcases h7 with⟨rfl,rfl,_⟩|⟨r,n,eB,rfl,hn,_⟩
  .exact⟨_,_,_,O,by simp,trivial⟩
  .exact⟨_,_,_,O,hn,trivial⟩
 have hnn:nc=nn:=N;subst hnn;refine jS [0,1,2,4,6,7] ?_;refine G.box O λH1 rb G=>?_;refine wS (λhc=>?_) λhc=>?_
 .have hS2:=G.perm (aG (l₁:=[_]));refine aO.mono (AX (hR0.on hS0 G.ext) hS2 _ _) ?_;rintro v H3 ⟨rfl,M',EW,sG⟩;refine rr ?_;refine⟨0,aC,M',O,N,EW,?_⟩;exact F.drop (A:=[_])<|(hS2.frame sG).perm aG
 .have hlt:nc<4000:=N;refine eU ?_;refine G.PL O O O N λH2 rx G tq=>?_;have G:=G.to (cs':=[vi kd,I ka kn kc,.string t,I xa xn xc,vi na]) O;have G:=G.perm (L':=(rx,238,[vi kd,I ka kn kc,.string t,I xa xn xc,vi na])::(gn++((rb,238,[vi kd,I ka kn kc,.string t,I xa xn xc,vi na])::(q.rt,215,[I q.a q.n q.c])::(q.ra,3,[B k])::(q.rp,222,[pJ q.rt q.ra])::(q.rr,226,[pJ q.rt q.ra,yI q.rp q.ra q.rt,rv,I na' nc cc,vi sc,vi sa])::gr)))<|dS _<|aG (l₁:=_::_::_::_::_::gr);refine h7.FM G N O O N λv' H3 gn' hg' G hx' Nj vT=>?_;have G:=G.perm<|aG (l₂:=_::_::_::_::_::gr);simp only[bI]at G
  obtain⟨va,vn',vc,rfl,hvl,_⟩:∃a n c,v'=I a n c/\(iK++[vi kd,I ka kn kc,.string t,I xa xn xc,vi na]).length=n*5/\True:=by
   rcases hg' with⟨_,h,_⟩|⟨r,n,eB,rfl,hn,_⟩
   .exact absurd h kg
   .exact⟨_,_,_,O,hn,trivial⟩
  have hvn:vn'=nc+1:=by rw[aQ,hnl]at hvl;simp at hvl;omega
  subst hvn;refine G.mh λHn G=>?_;have hne:q.rr≠rb:=(G.nq 0 4 O O N).symm
  have hgo:∀K:Prop,K->jT (opsOf<|sub F3 [1,1,0]) [clS (.pointer<|D ⟨q.rr,2+1,Q⟩) (I va (nc+1) vc) (hM (hM H1 H2) H3) Hn,cl 0,cl 0,cl 0,DY (hM H1 H2) H3,Ml H1 H2,clL 5 (.pointer<|D ⟨rb,0,Q⟩) H1<|hN H1,clL 1 (.pointer<|D ⟨q.rr,2+1,Q⟩) H1<|hN H1,cl 0,cl 0,cl 0,cl 0,cl 0]=f/\K:=by
   intro K hK;simp only[tq,d_,fK];generalize q.rr=rr at hne;rcases vT with e|e<;>rw[e]<;>apply lQ (a:=rr) (b:=rb) hne xN jr jr hK
  refine hgo _ ?_;refine eU ?_;rw[pg N N];refine G.kL ?_;have E:=G.ext;refine rr ?_;refine⟨nc,f,(q.rt,215,[I q.a q.n q.c])::(q.ra,3,[B k])::(q.rp,222,[pJ q.rt q.ra])::(q.rr,226,[pJ q.rt q.ra,yI q.rp q.ra q.rt,rv,I va (nc+1) vc,vi sc,vi sa])::(gr++gn'),?_,hlt,?_,F.drop (A:=[_]) G⟩
  .rw[show((nc+1:Nat):Int)-1=((nc:Nat):Int) by omega]
  .have Ab:=hR0.on hS0 E;have⟨rv',akc,gr',nv',akd,anl,sc',sa',nr',nn',e0,g1,g2,_⟩:=Ab;have hE:=BX (es:=5) (n:=nc) hnl (xs:=[vi kd,I ka kn kc,.string t,I xa xn xc,vi na]) O;refine⟨rv,rcs,gr,_,_,gn',sc,sa,nr,nc+1,O,W,g2,h3,h4,h5,h6,hg',hvl,N,λi hi=>?_,Cw⟩;have hst:∀r∈((q.rt,215,[I q.a q.n q.c])::(q.ra,3,[B k])::(q.rp,222,[pJ q.rt q.ra])::(q.rr,226,[pJ q.rt q.ra,yI q.rp q.ra q.rt,rv,I na' nc cc,vi sc,vi sa])::(gr++gn)).map (λe:dL=>e.1),(¬SH r\/¬yS H r 3)/\¬yS H r 331:=λr y=>⟨(hty r y).1.imp_left (λe=>by rw[e];exact Cw),(hty r y).2.1⟩;rcases cr i nc with h|h
   .rw[hE.1 i h];exact(h10 i h).st E hst
   .obtain rfl:i=nc:=N;rw[hE.2];exact hno.st E hst
end
section
variable{S:C Nat}
def abR(hw:Wf H)(hm:m<=900000)(hv:Aa m H v):aO Pg X 246 [v] H (Q1 (λv T=>iH H.next (m+1) T v) H):=by
 refine jS [0,2,3,4,6,8,9,10] ?_;refine aO.mono (EU hw N hv) ?_;rintro v H2 ⟨hv2,E⟩;obtain⟨a,n,c,M,rfl,hf,hn,hi⟩:=hv2;have hw2:=E.wf hw;have G:=F.refl hw2;have hnx:H.next<=H2.next:=E.next
 refine bG ?_;refine NG 3 4 6 10 (ai:=λm x3 x4 x6 jo T=>∃(k:Nat)(ds:C Z)(gb:C dL)(z:Int),x4=.int .i32 z/\jo=B k/\k+m=n/\GB 331 2 x3 ds gb/\ds.length<=2*k/\MB ds/\F [] H2 T (gb++[])) ?_ n ⟨0,[],[],0,rfl,rfl,N,GB.nil _ _,by simp,(nofun),G⟩;clear G;rintro m' x3 x4 x6 jo u T ⟨k,ds,gb,z,rfl,rfl,hk,hg,hdl,hds,G⟩;refine gK.vg λK hK=>?_;refine q_ (λhc=>?_) λhc=>?_
 .have⟨r,o,e,y,hrd,hel,_⟩:=hf.1.read N (show k<n by omega) c;rw[e];refine bG ?_;have⟨z1,z2,ez⟩:=Rf hi (k:=k) (by rw[hf.1.1];omega);rw[ez]at hrd;refine G.Aj hrd y<|G.iX λH1 r1 G=>?_;refine G.kL ?_;refine G.jH λHn G=>?_;refine eU ?_
  have nx:∀x3 ds gb u H4,GB 331 2 x3 ds gb->ds.length<=2*(k+1)->MB ds->F [] H2 H4 ((r1,331,[.int .i32 z1,.int .i32 z2])::(gb++[]))->
   gK Pg X (sub Cf [1,1,1,0,1,0,0,1,1,0,0,1,1]) (G7 v (I Q 0 0) x3 (.int .i32 z) (.pointer<|D ⟨r1,0,Q⟩) (I a n c) (B n) (B k) u H4) (sw 1<|t_ Pg X (sub Cf [1,1,1,0,1,0,0,1,1,1]) K):=by
   intro x3 ds gb u H4 hg hdl hds G;subst hK;refine tm ?_;refine tl ?_;refine dQ ?_;refine bG ?_;exact⟨m'-1,N,_,_,_,_,_,_,O,k+1,ds,gb,_,O,O,N,hg,N,hds,F.drop (A:=[_]) G⟩
  refine aT (λhd=>?_) λhd=>?_
  .refine eU ?_;refine G.bS O O O N λH3 rx G=>?_;have G:=G.perm (L':=(rx,331,bK<|.agg ⟨[.int .i32 z,.int .i32<|oC .i32<|z1-1]⟩)::(gb++[(r1,331,[.int .i32 z1,.int .i32 z2])]))<|dS _<|Ny _ _;refine hg.add G N O O N λv' H4 gQ hg' G hx'=>?_;exact nx _ _ _ _ _ hg' (by rw[aQ];show ds.length+2<=_;omega) (hds.app _ _)<|G.perm (Ny _ _).symm
  .exact nx _ _ _ _ _ hg N hds G
 .have fin:∀v' ds gb H4,GB 331 2 v' ds gb->ds.length<=2*(n+1)->MB ds->F [] H2 H4 (gb++[])->∀K:Z->R->Prop,(∀w H5,iH H.next (m+1) H5 w->Ext H H5->K w H5)->aO Pg X 226 [v'] H4 K:=by
   intro v' ds gb H4 hg hdl hds G K hk;obtain⟨a',n',c',rfl,hn',hf'⟩:=hg.fl G;refine aO.mono (EU (KM:=m+1) G.wf N ⟨a',n',c',ds,O,hf',N,hds⟩) ?_;rintro w H5 ⟨hw5,hx5⟩;have:=G.ext.next
   exact hk w H5 (hw5.le (ax _) N)<|(E.trans G.ext).trans hx5
  obtain rfl:k=n:=N;subst hK;refine bG ?_;refine q_ (λhd=>?_) λhd=>?_
  .refine eU ?_;refine G.bS O O O N λH3 rx G=>?_;have⟨v',H4,gQ,e,hg',G,_⟩:=hg.app (m:=0) (cx:=1) G N O O N N;refine ME.of e ?_;refine fin _ _ _ _ hg' (by rw[aQ];show ds.length+2<=_;omega) (hds.app _ _) G _ λw H5 W J=>?_;refine rr ?_;exact⟨W,J⟩
  .refine fin _ _ _ _ hg N hds G _ λw H5 W J=>?_;refine rr ?_;exact⟨W,J⟩
end
section
variable{S:C Nat}{SH:Nat->Prop}
def Rj(SH:Nat->Prop)(q:RC)(cs:C dL)(H:R)(k:Nat)(strict:Bool)(w:Z)(T:R):Prop:=∃(i:Int)(b:Bool)(k':Nat)(M':C dL),w=.tuple ⟨[vi i,.bool b]⟩/\Rd SH q k' T M'/\F (cs.map (·.1)) H T M'/\k<=k'/\(b=f->strict=f->k<k')
def aey(q:RC)(k:Nat):Prop:=∀(SH:Nat->Prop) H cs d,(∀r,H.next<=r->SH r)->Rd SH q k H cs->F (cs.map (·.1)) H H cs->d<=40->aO Pg X 146 [pr q.rr,B d] H (Rj SH q cs H k aC)
def aez(q:RC)(k:Nat):Prop:=∀(SH:Nat->Prop) H cs d,(∀r,H.next<=r->SH r)->Rd SH q k H cs->F (cs.map (·.1)) H H cs->d<=40->aO Pg X 174 [pr q.rr,B d] H (Rj SH q cs H k aC)
def aeA(q:RC)(k:Nat):Prop:=∃(kd:Int)(l:C Z),El q.M 5 k=vi kd::l/\kd≠0
def aeB(q:RC)(k:Nat):Prop:=∀(SH:Nat->Prop) H cs d,(∀r,H.next<=r->SH r)->Rd SH q k H cs->F (cs.map (·.1)) H H cs->d<=40->aeA q k->aO Pg X 205 [pr q.rr,B d] H (Rj SH q cs H k f)
def ake(q:RC)(k:Nat):Prop:=∀(SH:Nat->Prop) H cs d,(∀r,H.next<=r->SH r)->Rd SH q k H cs->F (cs.map (·.1)) H H cs->d<=40->aeA q k->aO Pg X 227 [pr q.rr,B d] H (Rj SH q cs H k f)
def aeA.lt(h:aeA q k)(hR:Rd SH q k H cs):k+1<q.n:=by
 have⟨kd,l,W,J⟩:=h;have hk:=hR.le;have⟨kd',at',e,t,xa,xn,xc,h3,_,_,_,hz⟩:=hR.tok hk.1;rw[W]at h3
 have:kd=kd':=by
  have:=(jJ h3).1;injection this
 have:k≠q.n-1:=λe=>J (by rw[this];exact hz e);omega
def F9{rs:Z}{at':Int}(ht:t.size<=1000000)(y:iH 0 20001 H rs):NoV SH H (.agg ⟨[vi kd,I Q 0 0,.string t,rs,vi at']⟩):=
 ⟨_,rfl,kd,Q,0,0,[],t,rs,at',rfl,je.nil _ _ _ _ _,N,(nofun),ht,y⟩
def Rd.n(h:Rd SH q k H cs):Rd SH q k (hN H) cs:=h
def F.nn(h:F S H H cs):F S (hN H) (hN H) cs:=h.yh
def ahF(hRb:Rd SH q kb Hb Mb)(hSb:F (cs.map (·.1)) H Hb Mb)(hk:k<kb)(G:F (Mb.map (·.1)) Hb Hc<|Lx++Mb)(hv:NoV SH Hc v)(z:Int):
 aO Pg X 175 [pr q.rr,v,vi z] Hc λw T=>∃(i:Int)(b:Bool),w=.tuple ⟨[vi i,.bool b]⟩/\Rj SH q cs H k f w T:=by
 have hS2:=G.perm<|aG (l₁:=Lx);have ahG:F (cs.map (·.1)) H Hb (Mb++[]):=by rw[bq];exact hSb
 refine aO.mono (Dn (hRb.on ahG G.ext) hS2 hv z) ?_;rintro w H4 ⟨i,b,M3,rfl,_,EW,sG⟩;refine⟨i,b,O,i,b,kb,M3,O,EW,?_,N,λ_ _=>hk⟩;exact hSb.over (by simpa using F.drop (A:=Lx) ((hS2.frame sG).perm aG))
def agu(hRb:Rd SH q kb Hb Mb)(hSb:F (cs.map (·.1)) H Hb Mb)(hk:k<kb)(G:F (Mb.map (·.1)) Hb Hc<|Lx++Mb)(hv:NoV SH Hc v)(z:Int):
 aO Pg X 175 [pr q.rr,v,vi z] (hN Hc) λw T=>∃(i:Int)(b:Bool),w=.tuple ⟨[vi i,.bool b]⟩/\Rj SH q cs H k f w (hM Hc T):=by
 have hS2:=G.perm<|aG (l₁:=Lx);have ahG:F (cs.map (·.1)) H Hb (Mb++[]):=by rw[bq];exact hSb
 refine aO.mono (Dn (hRb.on ahG G.ext).n hS2.yh (v:=v) hv z) ?_;rintro w H4 ⟨i,b,M3,rfl,_,EW,sG⟩;refine⟨i,b,O,i,b,kb,M3,O,EW,?_,N,λ_ _=>hk⟩;exact hSb.over (by simpa using F.drop (A:=Lx) ((hS2.aaR sG).perm aG))
def NoV.n(h:NoV SH H v):NoV SH (hN H) v:=h
theorem aeC(ih:∀k',k<k'->aey q k'):ake q k:=by
 intro SH H cs d hF hR G hd hkd;have hlt:=hkd.lt hR;have hkn:=hR.le;have⟨kd,at',e',t,xa,xn,xc,he,ha2,ht,hrs,hz⟩:=hR.tok hkn.1
 have anm:kd≠0:=by
  have⟨kd',l,W,J⟩:=hkd;rw[he]at W;have:=(jJ W).1;injection this with _ h3
  omega
 have hty:=hR.ty (L:=[]) (by rw[bq];exact G);have alW:F (cs.map (·.1)) H H (cs++[]):=by rw[bq];exact G
 refine Fh [0,1,4,5,6,7,8,9,16] ?_;refine hR.next alW λH1 M1 Ab hS1 hx1=>?_
 rw[show min (k+1) (q.n-1)=k+1 by omega]at Ab;rw[he];have alX:iH 0 20000 H1 (I xa xn xc):=hrs.stay hx1.ext λr y=>.inr (hty r y).2.1;have ann:=hx1;have alY:=Ab.ty (L:=[]) hS1;have G:=hS1.own;refine G.iX λH2 rb G=>G.jH λH3 G=>?_;have G:F (M1.map (·.1)) H1 H3 ((rb,221,[vi kd,B at',B e',.string t,I xa xn xc])::M1):=G;have drs:∀H3,oN (M1.map (·.1)) H1 H3->iH 0 20000 H3 (I xa xn xc):=λH3 E=>alX.stay E λr y=>.inr (alY r y).2.1;refine eU ?_
 have K8:∀(b:Bool) u,Bc u 17=.bool b->gK Pg X (sub zA [1,1,0,1,0,1]) (D6 (pr q.rr) (B d) (.int .i64 0) (.bool aC) (.pointer<|D ⟨rb,0,Q⟩) top top top (vi kd) u H3) (sw 0<|t_ Pg X (sub zA [1,1,1])<|jL Pg [.tmp 4,.tmp 5]<|Rj SH q cs H k f):=by
  intro b u hb;refine tl ?_;rw[hb];refine qx (λhb=>?_) λhb=>?_
  .refine eU ?_;refine aO.mono (ahF (Lx:=[_]) Ab hx1 (dM k) G (F9 ht<|iH.nil _ _ _) _) ?_;rintro w H4 ⟨i,b,rfl,hw⟩;refine bG ?_;exact rr<|hw
  refine aT (λhc=>?_) λhc=>?_
  .refine eU ?_;refine aO.mono (ahF (Lx:=[_]) Ab hx1 (dM k) G (F9 ht<|iH.nil _ _ _) _) ?_;rintro w H4 ⟨i,b,rfl,hw⟩;refine bG ?_;exact rr<|hw
  refine aT (λhc=>?_) λhc=>?_
  .refine eU ?_;refine aO.mono (ahF (Lx:=[_]) Ab hx1 (dM k) G (F9 (t:=⟨#[]⟩) (bA _)<|(drs _ G.ext).le N<|ax _) _) ?_;rintro w H4 ⟨i,b,rfl,hw⟩;refine bG ?_;exact rr<|hw
  refine aT (λhc=>?_) λhc=>?_
  .refine aO.mono (abO<|nS _) ?_;rintro v H4 ⟨hv,hx4⟩;obtain⟨ya,yn,yc,ycs,rfl,hv2⟩:=id hv;have G:=G.nH hx4;refine eU ?_;refine aO.mono (agu (Lx:=[_]) Ab hx1 (dM k) G (F9 (t:=⟨#[]⟩) (bA _)<|hv.le N<|bA _) _) ?_;rintro w H5 ⟨i,b,rfl,hw⟩;refine G.kL ?_;simp only[fP hx4,d_];rcases vQ (hM H3 H4) H5 with e|e<;>rw[e]<;>apply EL (a:=rb) xN jr jr<;>(refine rr ?_;exact hw)
  refine aT (λhc=>?_) λhc=>?_
  .have vJ:=G.perm (aG (l₁:=[_]));refine(Ab.on hS1 G.ext).O4 vJ 0 N λH4 Gp vJ hx4=>?_;rw[show min (k+1+0) (q.n-1)=k+1 by omega];have⟨kd2,at2,e2,t2,ya,yn,yc,he2,_,_,_,_⟩:=Gp.tok (i:=k+1) N;rw[he2];have G:=vJ;refine G.iX λH5 rc G=>G.jH λH6 G=>?_;have G:F (M1.map (·.1)) H1 H6 ((rc,221,[vi kd2,B at2,B e2,.string t2,I ya yn yc])::(M1++[(rb,221,[vi kd,B at',B e',.string t,I xa xn xc])])):=G
   have wM:F (M1.map (·.1)) H1 H6 (M1++[(rb,221,[vi kd,B at',B e',.string t,I xa xn xc]),(rc,221,[vi kd2,B at2,B e2,.string t2,I ya yn yc])]):=by
    have:=G.perm<|aG (l₁:=[_]);have e:=bU M1 [((rb,221,[vi kd,B at',B e',.string t,I xa xn xc]):dL)] [((rc,221,[vi kd2,B at2,B e2,.string t2,I ya yn yc]):dL)];exact this.cast e
   refine aO.mono (G_ (Ab.on hS1 G.ext) wM 4 mO) ?_;rintro v H7 ⟨b,k2,M2,rfl,Wh,He,hk2,hb2⟩;have Ym:=wM.frame He;have hSo:=Ym.own;have hSb:F (cs.map (·.1)) H H7 M2:=hx1.over<|F.drop (A:=[_,_])<|Ym.perm aG;cases b with
   |false=>
    refine bG ?_;refine(show∀{A vn:Prop},A->xD (D !aC) A vn fromλh=>h)<|rr ?_;exact⟨0,aC,k2,M2,O,Wh,hSb,N,λh=>by cases h⟩
   |true=>
    have hk3:k2=k+1+1:=hb2 O;refine bG ?_;refine(show∀{A vn:Prop},vn->xD (D !f) A vn fromλh=>h) ?_;have bc:=Ym.bk (rc,221,[vi kd2,B at2,B e2,.string t2,I ya yn yc]) kg;have bb:=Ym.bk (rb,221,[vi kd,B at',B e',.string t,I xa xn xc]) kg;have lc:=(Ym.lo (rc,221,[vi kd2,B at2,B e2,.string t2,I ya yn yc]) kg).2;have lb:=(Ym.lo (rb,221,[vi kd,B at',B e',.string t,I xa xn xc]) kg).2
    have hbc:rb≠rc:=by
     have:=G.apart (A:=[_]) (x:=(rc,221,[vi kd2,B at2,B e2,.string t2,I ya yn yc])) (hr:=(rb,221,[vi kd,B at',B e',.string t,I xa xn xc])) (aN ..) kg;exact this.symm
    have⟨_,_,_,_,_,_,_,he3,_,_,akf,_⟩:=Wh.tok (i:=k+1) N;rw[he2]at he3;have he4:=(jJ (jJ (jJ (jJ (jJ he3).2).2).2).2).1;rw[<-he4]at akf;have G:=F.refl hSo.wf;refine G.GU (bc.cell (o:=4) O) lc ?_;refine G.kL ?_;refine aO.mono (abR (nS _) (m:=20000) N akf.i) ?_;rintro v H8 ⟨hv,Bg⟩;obtain⟨za,zn,zc,zcs,rfl,hv2⟩:=id hv;have G:=G.nH Bg;refine G.GU (bb.cell (o:=1) O) lb ?_;refine eU ?_;refine G.GU (bc.cell (o:=1) O) lc ?_;refine G.kL ?_;refine aO.mono (agu (Lx:=[]) Wh hSb (show k<k2 by omega) (hSo.nH Bg) (F9 (t:=⟨#[]⟩) (bA _)<|hv.le N<|bA _) _) ?_;rintro w H9 ⟨i,b,rfl,hw⟩;refine G.kL ?_;simp only[fP Bg,d_];rcases vQ (hM H7 H8) H9 with e|e<;>rw[e]<;>apply lQ (a:=rb) (b:=rc) hbc xN jr jr<;>(refine rr ?_;exact hw)
  .refine tl ?_;have vJ:=G.perm<|aG (l₁:=[_]);refine G.kL ?_;refine aT (λhd2=>?_) λhd2=>?_
   .refine G.pz<|aO.mono (AX (Ab.on hS1 G.ext) vJ _ _) ?_;rintro w H5 ⟨rfl,M2,MC,hS5⟩;refine rr ?_;exact⟨0,aC,k+1,M2,O,MC,hx1.over<|F.drop (A:=[_])<|(vJ.frame hS5).perm aG,N,λh=>by cases h⟩
   .rw[fD N N];refine bG ?_;refine aO.mono (ih (k+1) N SH H3 M1 (d+1) (λr y=>hF r (by have:=hx1.ext.next;have:=G.ext.next;omega)) (Ab.on hS1 G.ext) vJ.own N) ?_;rintro w H5 ⟨i,b,k2,M2,rfl,MC,hS5,hk2,_⟩;have ahH:=vJ.frame hS5;refine bG ?_;cases b with
    |false=>
     refine(show∀{A vn:Prop},vn->xD (D aC) A vn fromλh=>h)<|rr ?_;exact⟨i,aC,k2,M2,O,MC,hx1.over<|F.drop (A:=[_])<|ahH.perm aG,N,λh=>by cases h⟩
    |true=>
     refine(show∀{A vn:Prop},A->xD (D f) A vn fromλh=>h)<|aO.mono (G_ MC ahH 9 mO) ?_;rintro w H6 ⟨b,k3,M3,rfl,Dp,wM,hk3,_⟩;refine rr ?_;exact⟨i,b,k3,M3,O,Dp,hx1.over<|F.drop (A:=[_])<|(ahH.frame wM).perm aG,N,λ_ _=>N⟩
 refine aT (λhc=>?_) λhc=>?_
 .exact K8 _ _ (by simp only[xF];rfl)
 .exact K8 _ _ (by simp only[xF];rfl)
end
section
variable{S:C Nat}{SH:Nat->Prop}
def Rd.mem(h:Rd SH q k H cs):(q.ra,3,[B k])∈cs:=by
 obtain⟨rv,rcs,gr,nv,iK,gn,sc,sa,nr,nn,rfl,_⟩:=h;simp
def O5{n:Nat}{at':Int}(hf:je SH 3 H a n 1 ks)(hn:n<=20001)(hk:∀x∈ks,∃z:Int,x=vi z):NoV SH H (.agg ⟨[vi kd,I a n c,.string ⟨#[]⟩,I Q 0 0,vi at']⟩):=
 ⟨_,rfl,kd,a,n,c,ks,⟨#[]⟩,_,at',rfl,hf,hn,hk,bA _,iH.nil _ _ _⟩
def Ua(ha:ake q k):aeB q k:=by
 intro SH H cs d hF hR G hd hkd;have hlt:=hkd.lt hR;refine jS [0,1,4,5,6,7,8,22] ?_;refine aO.mono (ha SH H cs d hF hR G hd hkd) ?_;rintro w H1 ⟨i,b,k1,M1,rfl,Ab,hS1,hk1,hb1⟩;refine bG ?_;cases b with
 |false=>
  refine(show∀{A vn:Prop},A->xD (D !aC) A vn fromλh=>h) ?_;refine rr ?_;exact⟨0,aC,k1,M1,O,Ab,hS1,hk1,λh=>by cases h⟩
 |true=>
  have hk2:=hb1 O O;refine(show∀{A vn:Prop},vn->xD (D !f) A vn fromλh=>h) ?_;have alZ:F (cs.map (·.1)) H H1 (M1++[]):=by rw[bq];exact hS1
  refine Ab.O4 alZ 0 N λH2 hR2 hS2 hx2=>?_;have hkn:=hR2.le;rw[show min (k1+0) (q.n-1)=k1 by omega];have⟨kd,at',e',t,xa,xn,xc,he,_⟩:=hR2.tok hkn.1;rw[he,EX]
  have fin:∀(z:Int) u,gK Pg X (sub Cr [1,1,1,1,1]) (BS (pr q.rr) (B d) (.int .i64 0) (.bool aC) (vi i) (.bool f) (vi z) (vi kd) u H2) (jL Pg [.tmp 4,.tmp 5]<|Rj SH q cs H k f):=by
   intro z u;have aeD:F (cs.map (·.1)) H H2 M1:=by rw[<-bq M1];exact hS2
   have G:=hS2.own;refine tl ?_;refine G.bS O O O N λH3 rk G=>?_;have G:F (M1.map (·.1)) H2 H3 ((rk,3,[vi i])::M1):=G
   have hge:H.next<=rk:=by
    rcases(G.lo (rk,3,[vi i])<|aN ..).1 with h|h
    .exfalso;have⟨e,he,e1⟩:=bQ.1 h;exact G.apart (A:=[_]) (aN ..) he e1.symm
    .have:=aeD.ext.next
     omega
   refine bG ?_;refine PU.b5 O<|bG ?_;have sG:=G.perm<|aG (l₁:=[_]);have EW:=hR2.on hS2 G.ext;refine EW.next sG λH4 M4 Gp vJ hx4=>?_
   rw[he,T9];refine bG ?_;have hrk:SH rk:=hF rk hge;have hfl:je SH 3 H4 (D ⟨rk,0,Q⟩) 1 1 [vi i]:=je.one vJ (cZ _<|aP.2 O) O hrk;refine aO.mono (Dn Gp vJ (O5 hfl N λx E=>⟨i,mg E⟩) _) ?_;rintro w H5 ⟨j,b,M5,rfl,_,MC,hS5⟩;refine bG ?_;refine rr ?_;refine⟨j,b,_,M5,O,MC,?_,N,λ_ _=>N⟩;exact aeD.over<|F.drop (A:=[_])<|(vJ.frame hS5).perm aG
  refine rV (λhc=>?_) λhc=>?_
  .exact fin _ _
  refine aT (λhc=>?_) λhc=>?_
  .exact fin _ _
  refine aT (λhc=>?_) λhc=>?_
  .exact fin _ _
  refine rr ?_;refine⟨i,f,k1,M1,O,hR2,?_,hk1,λ_ _=>hk2⟩
  rwa [bq]at hS2
def Rd.stay{S':C Nat}(h:Rd SH q k H cs)(E:oN S' H T)(hk:∀r∈S',(¬SH r\/¬yS H r 3)/\¬yS H r 331/\¬yS H r 221):Rd SH q k T cs:=by
 have⟨rv,rcs,gr,nv,iK,gn,sc,sa,nr,nn,h0,W,J,h3,h4,h5,h6,h7,h8,h9,h10,Cw⟩:=h;exact⟨rv,rcs,gr,nv,iK,gn,sc,sa,nr,nn,h0,W,J.st E (λr y=>.inr (hk r y).2)<|ax _,h3,h4,h5,h6,h7,h8,h9,λi hi=>(h10 i hi).st E λr y=>⟨(hk r y).1,(hk r y).2.1⟩,Cw⟩
abbrev Fo(SH:Nat->Prop)(gb:C dL):Nat->Prop:=λr=>SH r/\r∉gb.map (·.1)
def abS(Cw:¬SH q.ra)(hg:GB 3 1 x ks gb)(G:F S H0 H<|cs++gb)(hR:Rd (Fo SH gb) q k H cs)(hl:ks.length<=1000000)(z:Int)(kk:∀w v' H6 gQ,GB 3 1 v' (ks++[vi z]) gQ->F S H0 H6 (cs++gQ)->Rd (Fo SH gQ) q k H6 cs->(∀e∈gQ,e.1∈gb.map (·.1)\/H.next<=e.1)->K w v' H6):
 ME (bS 3 [.int .i64 0] 1 1 [(0,vi z)] H) λw H5=>ME (zY 3 1 x w H5) (K w):=by
 have hP:=G.perm<|aG (l₁:=cs);have hO:F (gb.map (·.1)) H H (gb++[]):=by rw[bq];exact hP.own
 have hne:∀ty:aH,((3:Nat)==ty)=aC->∀r∈gb.map (·.1),¬yS H r ty:=λty ht=>hP.own.GX<|hg.all ht;refine hO.bS O O O N λH5 rx hS5=>?_;have⟨v',H6,gQ,e1,hg',wM,_⟩:=hg.app (m:=0) (cx:=1) hS5 N O O N N;refine ME.of e1 ?_;rw[bq]at wM;have Ab:Rd (λr=>Fo SH gb r/\r<H.next) q k H cs:=hR.wk (λr y h=>⟨h,y⟩) λh=>Cw h.1.1;have hR2:=Ab.stay wM.ext λr y=>⟨.inl λh=>h.1.2 y,hne 331 O r y,hne 221 O r y⟩;refine kk _ v' H6 gQ hg' ((hP.frame wM).perm aG) (hR2.wk (λr _ h=>⟨h.1.1,λhm=>?_⟩) λh=>Cw h.1) λe he=>(wM.lo e he).1;have⟨e,he,e1⟩:=bQ.1 hm;rcases(wM.lo e he).1 with h3|h3
 .exact h.1.2 (by rw[<-e1];exact h3)
 .have:=h.2;omega
def row_of(he:∀k',k<=k'->aeB q k'):aez q k:=by
 intro SH H cs d hF hR G hd;have hkn:=hR.le
 have Cw:¬SH q.ra:=by
  have⟨_,_,_,_,_,_,_,_,_,_,_,_,_,_,_,_,_,_,_,_,_,h⟩:=hR;exact h
 refine jS [0,1,4,5,6,7,8] ?_;refine V' 4 5 6 7 8 (ai:=λm x4 x5 x6 x7 x8 T=>∃(k':Nat)(M':C dL)(ks:C Z)(gb:C dL),x4=vi 0/\x5=.bool aC/\k'+m=q.n/\k<=k'/\Rd (Fo SH gb) q k' T M'/\F (cs.map (·.1)) H T (M'++gb)/\GB 3 1 x6 ks gb/\ks.length<=k'-k/\(∀x∈ks,∃z:Int,x=vi z)/\∀e∈gb,H.next<=e.1) ?_ (q.n-k) ⟨k,cs,[],[],rfl,rfl,N,ax _,hR.wk (λr _ h=>⟨h,by simp⟩) λh=>Cw h.1,by rw[bq];exact G,GB.nil _ _,bA _,(nofun),nofun⟩;clear hR G;rintro m x4 x5 x6 x7 x8 u T ⟨k1,M1,ks,gb,rfl,rfl,hkm,hk1,Ab,hS1,hg,hkl,hks,hgb⟩;have akg:=Ab.le;refine tp ?_;refine Ab.O4 hS1 0 N λH2 hR2 hS2 hx2=>?_;rw[show min (k1+0) (q.n-1)=k1 by omega];have⟨kd,at',e',t,xa,xn,xc,hel,_⟩:=hR2.tok akg.1;rw[hel];refine aO.mono (Ri hS2.wf kd _ _ _ _ O) ?_;rintro w H3 ⟨⟨b,rfl,hb⟩,hx3⟩;have EW:=hR2.ex hx3;have sG:=hS2.call hx3;refine qx (λhbt=>?_) λhbt=>?_
 .have hF3:∀r,H3.next<=r->Fo SH gb r:=λr y=>⟨hF r (by have:=sG.ext.next;omega),λhm=>by
   have⟨e,he,e1⟩:=bQ.1 hm;have:=(sG.lo e<|cZ _ he).2;omega⟩
  refine aO.mono (he k1 hk1 _ H3 M1 d hF3 EW sG.own hd ⟨kd,_,hel,hb hbt⟩) ?_;rintro w H4 ⟨i,b,k2,M2,rfl,Gp,vJ,hk2,hb2⟩;have Ub:=sG.frame vJ;refine bG ?_;cases b with
  |false=>
   refine(show∀{A vn:Prop},A->xD (D !aC) A vn fromλh=>h) ?_;refine rr ?_;exact⟨0,aC,k2,M2,O,Gp.wk (λr _ h=>h.1) Cw,F.drop (A:=gb)<|Ub.perm aG,N,λh=>by cases h⟩
  |true=>
   have hk3:=hb2 O O;have hkn2:=Gp.le;refine(show∀{A vn:Prop},vn->xD (D !f) A vn fromλh=>h)<|abS Cw hg Ub Gp N i λw v' H6 gQ hg' wM Dp hgn=>⟨q.n-k2,N,_,_,_,_,_,_,_,rfl,k2,M2,ks++[vi i],gQ,rfl,rfl,N,N,Dp,wM,hg',by rw[aQ];show ks.length+1<=_;omega,λx E=>?_,λe he'=>?_⟩
   .rcases bZ.1 E with h|h
    .exact hks x h
    .exact⟨i,mg h⟩
   .rcases hgn e he' with h|h
    .have⟨e2,J,h3⟩:=bQ.1 h;rw[<-h3];exact hgb e2 J
    .have:=Ub.ext.next;omega
 .refine tl ?_;obtain⟨a,n,c,rfl,hn,hfl⟩:=hg.IA (SH:=SH) (sG.perm<|aG (l₁:=M1)) λe he'=>hF _<|hgb e he';refine PU.b5 O<|bG ?_;refine EW.O4 sG 0 N λH4 Gp vJ hx4=>?_;rw[show min (k1+0) (q.n-1)=k1 by omega,hel,T9];refine bG ?_;have MC:Rd SH q k1 H4 M1:=Gp.wk (λr _ h=>h.1) Cw;refine aO.mono (Dn MC vJ (O5 (hfl.ex hx4) N hks) _) ?_;rintro w H5 ⟨j,b,M5,rfl,_,Dp,wM⟩;refine bG ?_;refine rr ?_;exact⟨j,b,k1,M5,O,Dp,F.drop (A:=gb)<|(vJ.frame wM).perm aG,N,λ_ h=>by cases h⟩
def Uc(he:∀k',k<=k'->aez q k'):aey q k:=by
 intro SH H cs d hF hR G hd;have hkn:=hR.le
 have Cw:¬SH q.ra:=by
  have⟨_,_,_,_,_,_,_,_,_,_,_,_,_,_,_,_,_,_,_,_,_,h⟩:=hR;exact h
 refine jS [0,1,4,5,6,7,8] ?_;refine V' 4 5 6 7 8 (ai:=λm x4 x5 x6 x7 x8 T=>∃(k':Nat)(M':C dL)(ks:C Z)(gb:C dL),x4=vi 0/\x5=.bool aC/\k'+m=q.n/\k<=k'/\Rd (Fo SH gb) q k' T M'/\F (cs.map (·.1)) H T (M'++gb)/\GB 3 1 x6 ks gb/\ks.length<=k'-k/\(∀x∈ks,∃z:Int,x=vi z)/\∀e∈gb,H.next<=e.1) ?_ (q.n-k) ⟨k,cs,[],[],rfl,rfl,N,ax _,hR.wk (λr _ h=>⟨h,by simp⟩) λh=>Cw h.1,by rw[bq];exact G,GB.nil _ _,bA _,(nofun),nofun⟩;clear hR G;rintro m x4 x5 x6 x7 x8 u T ⟨k1,M1,ks,gb,rfl,rfl,hkm,hk1,Ab,hS1,hg,hkl,hks,hgb⟩;have akg:=Ab.le
 have hF3:∀r,T.next<=r->Fo SH gb r:=λr y=>⟨hF r (by have:=hS1.ext.next;omega),λhm=>by
  have⟨e,he,e1⟩:=bQ.1 hm;have:=(hS1.lo e<|cZ _ he).2;omega⟩
 refine tl ?_;refine aO.mono (he k1 hk1 _ T M1 d hF3 Ab hS1.own hd) ?_;rintro w H4 ⟨i,b,k2,M2,rfl,Gp,vJ,hk2,hb2⟩;have Ub:=hS1.frame vJ;have hkn2:=Gp.le;refine bG ?_;cases b with
 |false=>
  refine(show∀{A vn:Prop},A->xD (D !aC) A vn fromλh=>h) ?_;refine rr ?_;exact⟨0,aC,k2,M2,O,Gp.wk (λr _ h=>h.1) Cw,F.drop (A:=gb)<|Ub.perm aG,N,λh=>by cases h⟩
 |true=>
  refine(show∀{A vn:Prop},vn->xD (D !f) A vn fromλh=>h)<|abS Cw hg Ub Gp N i λw v' H6 gQ hg' wM Dp hgn=>?_
  have hgb':∀e∈gQ,H.next<=e.1:=λe he'=>by
   rcases hgn e he' with h|h
   .have⟨e2,J,h3⟩:=bQ.1 h;rw[<-h3];exact hgb e2 J
   .have:=Ub.ext.next;omega
  have Yn:∀x∈ks++[vi i],∃z:Int,x=vi z:=λx E=>by
   rcases bZ.1 E with h|h
   .exact hks x h
   .exact⟨i,mg h⟩
  have hkl':(ks++[vi i]).length=ks.length+1:=by simp
  refine Dp.O4 wM 0 N λH7 Wh He hx7=>?_;rw[show min (k2+0) (q.n-1)=k2 by omega];have⟨kd,at',e',t,xa,xn,xc,hel,_,_,_,hz⟩:=Wh.tok hkn2.1;rw[hel,EX];refine wR (λhc=>?_) λhc=>?_
  .refine tl ?_;obtain⟨a,n,c,rfl,hn,hfl⟩:=hg'.IA (SH:=SH) (He.perm<|aG (l₁:=M2)) λe he'=>hF _<|hgb' e he';refine rV (λW=>?_) λW=>?_
   .have W:n=1:=N;subst W;have⟨r,o,e,y,hrd,_⟩:=hfl.1.idx (c:=c) N (show 0<1 by omega);have⟨z,hz'⟩:=Yn (ks++[vi i])[0]<|bB _;have e:zN 1 (I a 1 c) (.int .i64 0)=_:=e;rw[e];refine bG ?_;refine ME.ld (hrd 0 (vi z) N<|by rw[av N,<-hz']) ?_;refine rr ?_;exact⟨z,f,k2,M2,O,Wh.wk (λr _ h=>h.1) Cw,F.drop (A:=gQ)<|He.perm aG,N,λ_ h=>by cases h⟩
   .refine PU.b5 O<|bG ?_;refine Wh.O4 He 0 N λH8 hR8 Yo Bg=>?_;rw[show min (k2+0) (q.n-1)=k2 by omega,hel,T9];refine bG ?_;have hR9:Rd SH q k2 H8 M2:=hR8.wk (λr _ h=>h.1) Cw;refine aO.mono (Dn hR9 Yo (O5 (hfl.ex Bg) N Yn) _) ?_;rintro w H9 ⟨j,b,M5,rfl,_,al0,ahI⟩;refine bG ?_;refine rr ?_;exact⟨j,b,k2,M5,O,al0,F.drop (A:=gQ)<|(Yo.frame ahI).perm aG,N,λ_ h=>by cases h⟩
  .have hk3:k2≠q.n-1:=λe=>by have:=hz e;omega
   refine Wh.next He λH8 M8 hR8 Yo Bg=>?_
   rw[show min (k2+1) (q.n-1)=k2+1 by omega]at hR8;refine⟨q.n-(k2+1),N,_,_,_,_,_,_,_,O,k2+1,M8,ks++[vi i],gQ,O,O,N,N,hR8,Yo,hg',by rw[hkl'];omega,Yn,hgb'⟩
def ahJ:∀(n k:Nat),q.n<=k+n->aey q k/\aez q k/\aeB q k:=by
 intro n
 induction n with
 |zero=>
  intro k hk;have hno:∀k',k<=k'->∀(SH:Nat->Prop) H cs,¬Rd SH q k' H cs:=λk' h SH H cs hR=>by have:=hR.le;omega
  exact⟨λSH H cs d _ hR=>absurd hR<|hno k (ax _) _ _ _,λSH H cs d _ hR=>absurd hR<|hno k (ax _) _ _ _,λSH H cs d _ hR=>absurd hR<|hno k (ax _) _ _ _⟩
 |succ n ih=>
  intro k hk;have hel:aeB q k:=Ua<|aeC λk' h=>(ih k' N).1
  have hro:aez q k:=row_of λk' h=>by
   rcases Nat.eq_or_lt_of_le h with rfl|h
   .exact hel
   .exact(ih k' N).2.2
  refine⟨Uc λk' h=>?_,hro,hel⟩;rcases Nat.eq_or_lt_of_le h with rfl|h
  .exact hro
  .exact(ih k' N).2.1
def Ud(q:RC)(k:Nat):aey q k:=(ahJ (q.n) k N).1
end
section
variable{S:C Nat}{SH:Nat->Prop}
theorem _root_.Go.Ae.F.nI{ty:aH}{n:Nat}(G:F S H0 H L)(hl:(bK v).length=n)(hz:z.length=n)(hk:all' fC (bK v)=f)(k:∀H2 r,F S H0 H2 ((r,ty,bK v)::L)->Ext H H2->K (.pointer<|D ⟨r,0,Q⟩) undef H2):ME (Go.Ae.iX ty z H) λp H1=>ME (Go.Ae.CW n p v H1) λrg H2=>K p rg H2:=by
 have hO:=F.refl G.wf;refine hO.iX λH1 r hO=>hO.st 0 O hl N hk λH2 hO=>?_;have hO:F [] H H2 [(r,ty,splice z 0<|bK v)]:=hO;rw[nL _ _ N]at hO;exact k H2 r (F.frame (cs:=[]) (L:=L) G hO) hO.ext
def Rd.st(hR:Rd SH q k H cs){ty:aH}(G:F S H0 H<|(b,ty,M)::(cs++L))(h3:(ty==3)=aC)(al1:(ty==331)=aC)(h128:(ty==221)=aC){n:Nat}(hl:(bK v).length=n)(hn:o+n<=M.length)(hk:all' fC (bK v)=f){K:Z->R->Prop}(kk:∀H1,Rd SH q k H1 cs->F S H0 H1 ((b,ty,splice M o<|bK v)::(cs++L))->H.next<=H1.next->K undef H1):ME (CW n (.pointer<|D ⟨b,o,Q⟩) v H) K:=by
 have hO:F [b] H H [(b,ty,M)]:=F.own (cs:=[(b,ty,M)]) G;have hty:yS H b ty:=(hO.bk (b,ty,M)<|aP.2 O).Jc;have hne:∀t:aH,(ty==t)=aC->¬yS H b t:=λt ht h=>by rw[hty.one h]at ht;simp at ht
 refine hO.st 0 O hl hn hk λH1 hO=>?_;have hO:F [b] H H1 [(b,ty,splice M o<|bK v)]:=hO;refine kk H1 (hR.stay hO.ext λr y=>?_) (F.frame (cs:=[(b,ty,M)]) G hO) hO.ext.next
 rw[aP]at y;subst y;exact⟨.inr<|hne 3 h3,hne 331 al1,hne 221 h128⟩
def Rd.rules(hR:Rd SH q k H cs)(G:F S H0 H<|cs++L):(∃a c,H.cell q.rr 2=D (I a q.nu c))/\q.rr<H.next:=by
 obtain⟨rv,rcs,gr,nv,iK,gn,sc,sa,nr,nn,rfl,W,J,h3,h4,h5,h6,h7,h8,h9,h10,Cw⟩:=hR;have hb:=G.get 3 O;refine⟨?_,(G.lo _<|aS (i:=3) O).2⟩;subst h5;rcases h3 with⟨rfl,rfl,_⟩|⟨r,n,eB,rfl,hn,_⟩
 .have:q.nu=0:=by simp at h4;omega
  rw[this];exact⟨Q,0,hb.cell O⟩
 .have:n=q.nu:=N;subst this;exact⟨_,_,hb.cell O⟩
def _root_.Go.Ae.F.inP{P:C dL}(G:F S H0 H<|P++(cs++L)):F S H0 H (cs++(P++L)):=G.perm (by
 rw[<-bU,<-bU];exact pX _ aG)
def _root_.Go.Ae.F.O6{P:C dL}(G:F S H0 H<|P++(cs++L))(h:F (cs.map (·.1)) H T M'):F S H0 T (P++(M'++L)):=(G.inP.frame h).inP
def Rd.Rk{P:C dL}(hR:Rd SH q k H cs)(G:F S H0 H<|P++(cs++L))(j:Nat)(hj:j<=1000)(h:∀T,Rd SH q k T cs->F S H0 T (P++(cs++L))->Ext H T->K (pJ q.rt q.ra) (.agg ⟨El q.M 5<|min (k+j)<|q.n-1⟩) T):ME (vH Q (.pointer<|D ⟨q.rr,0,Q⟩) H) λv H1=>nU Pg X (Mj v) [B j] H1 (K v):=
 hR.O4 G.inP j hj λT hR' hS' E=>h T hR' hS'.inP E
def Rd.Wi{P:C dL}(hR:Rd SH q k H cs)(G:F S H0 H<|P++(cs++L))(h:∀T M',Rd SH q (min (k+1)<|q.n-1) T M'->F S H0 T (P++(M'++L))->H.next<=T.next->K (yI q.rp q.ra q.rt) (.agg ⟨El q.M 5 k⟩) T):ME (vH Q (.pointer<|D ⟨q.rr,1,Q⟩) H) λv H1=>nU Pg X (Mj v) [] H1 (K v):=
 hR.next G.inP λT M' hR' hS' E=>h T M' hR' hS'.inP E.ext.next
def abT{P:C dL}(hR:Rd SH q k H cs)(G:F S H0 H<|P++(cs++L))(cd at':Int):aO Pg X 144 [pr q.rr,vi cd,vi at'] H λv T=>v=.bool aC/\∃M',Rd SH q k T M'/\F S H0 T (P++(M'++L)):=
 aO.mono (AX hR G.inP cd at') λv T ⟨e,M',hR',hS'⟩=>⟨e,M',hR',G.O6 hS'⟩
def abU{P:C dL}(hR:Rd SH q k H cs)(G:F S H0 H<|P++(cs++L)):aO Pg X 143 [pr q.rr] H λv T=>v=.bool aC/\∃M',Rd SH q k T M'/\F S H0 T (P++(M'++L)):=
 aO.mono (Lc hR G.inP) λv T ⟨e,M',hR',hS'⟩=>⟨e,M',hR',G.O6 hS'⟩
def agv{P:C dL}(hR:Rd SH q k H cs)(G:F S H0 H<|P++(cs++L))(kd:Int)(hkd:kd≠0):aO Pg X 145 [pr q.rr,vi kd] H λv T=>∃(b:Bool)(k':Nat)(M':C dL),v=.bool b/\Rd SH q k' T M'/\F S H0 T (P++(M'++L))/\k<=k'/\(b=f->k'=k+1)/\H.next<=T.next:=
 aO.mono (G_ hR G.inP kd hkd) λv T ⟨b,k',M',e,hR',hS',W,J⟩=>⟨b,k',M',e,hR',G.O6 hS',W,J,hS'.ext.next⟩
abbrev wO(nm:aV)(rg ay w:Bool)(ch root at':Int):C Z:=[.string nm,.bool rg,.bool ay,.bool w,vi ch,vi root,vi at']
def Ue{ru:Nat}{at':Int}(hR:Rd SH q k H cs)(G:F S H0 H<|(ru,234,wO nm rg ay w ch root at')::(cs++L)):
 aO Pg X 147 [pr q.rr,pr ru] H λv T=>∃(b w':Bool)(ch':Int)(k':Nat)(M':C dL),v=.bool b/\Rd SH q k' T M'/\k<=k'/\F S H0 T ((ru,234,wO nm rg ay w' ch' root at')::(M'++L)):=by
 have hkn:=hR.le;refine Fh [0,1,4,5,40] ?_;refine hR.Rk (P:=[_]) G 0 N λH1 Ab hS1 hx1=>?_;rw[show min (k+0) (q.n-1)=k by omega];have⟨kd,O7,e1,t1,xa,xn,xc,he,_,_,_,hz⟩:=Ab.tok hkn.1;rw[he,EX];refine wR (λhc=>?_) λhc=>?_
 .refine rr ?_;exact⟨f,w,ch,k,cs,O,Ab,ax _,hS1⟩
 refine Ab.Wi (P:=[_]) hS1 λH2 M2 hR2 hS2 _=>?_;have hk2:=hR2.le;refine hR2.Rk (P:=[_]) hS2 0 N λH3 EW sG hx3=>?_;have⟨kd2,at2,e2,t2,ya,yn,yc,he2,_,ht2,_,_⟩:=EW.tok (i:=min (min (k+1) (q.n-1)+0)<|q.n-1) N;rw[he2];refine sG.nI O O O λH4 rt vJ hx4=>?_;have Gp:=EW.ex hx4;have G:F S H0 H4 ((rt,221,[vi kd2,B at2,B e2,.string t2,I ya yn yc])::(ru,234,wO nm rg ay w ch root at')::(M2++L)):=vJ;refine eU ?_;refine aO.mono (EY G.wf _ _ _ _ _ O) ?_;rintro v H5 ⟨rfl,hx5⟩;have MC:=Gp.ex hx5;have G:=G.call hx5;refine G.kL ?_;refine gF (λhb=>?_) λhb=>?_
 .refine aO.mono (abU (P:=[_,_]) MC G) ?_;rintro v H6 ⟨rfl,M6,Dp,wM⟩;refine rr ?_;exact⟨aC,w,ch,_,M6,O,Dp,N,F.drop (A:=[_]) wM⟩
 have agw:∀cd p:Int,aO Pg X 144 [pr q.rr,vi cd,vi p] H5 λv T=>v=.bool aC/\∃M',Rd SH q (min (k+1)<|q.n-1) T M'/\F S H0 T ((ru,234,wO nm rg ay w ch root at')::(M'++L)):=λcd p=>by
  refine aO.mono (abT (P:=[_,_]) MC G cd p) ?_;rintro v H6 ⟨rfl,M6,Dp,wM⟩;exact⟨O,M6,Dp,F.drop (A:=[_]) wM⟩
 have last:∀(H6:R)(w':Bool)(ch':Int) hr,Rd SH q (min (k+1)<|q.n-1) H6 M2->F S H0 H6 ((ru,234,wO nm rg ay w' ch' root at')::(M2++L))->gK Pg X (sub D4 [1,1,1,1,1,1,1]) (Dh (pr q.rr) (pr ru) (.bool aC) (pr rt) (.string t2) hr H6) (jL Pg [.tmp 4] λv T=>∃(b w':Bool)(ch':Int)(k':Nat)(M':C dL),v=.bool b/\Rd SH q k' T M'/\k<=k'/\F S H0 T ((ru,234,wO nm rg ay w' ch' root at')::(M'++L))):=by
  intro H6 w' ch' hr Dp wM;refine tp ?_;refine Dp.Wi (P:=[_]) wM λH7 M7 Wh He _=>rr ?_;exact⟨f,w',ch',_,M7,O,Wh,N,He⟩
 refine OP (λhb2=>?_) λhb2=>?_
 .refine G.pz<|aO.mono (agw _ _) ?_;rintro v H6 ⟨rfl,M6,Dp,wM⟩;refine rr ?_;exact⟨aC,w,ch,_,M6,O,Dp,N,wM⟩
 refine OP (λhb3=>?_) λhb3=>?_
 .exact MC.st (F.drop (A:=[_]) G) O O O O (aF O) O λH6 Dp wM _=>last _ _ _ _ Dp wM
 refine gF (λhb4=>?_) λhb4=>?_
 .exact MC.st (F.drop (A:=[_]) G) O O O O (aF O) O λH6 Dp wM _=>last _ _ _ _ Dp wM
 refine gF (λhb5=>?_) λhb5=>?_
 .exact MC.st (F.drop (A:=[_]) G) O O O O (aF O) O λH6 Dp wM _=>last _ _ _ _ Dp wM
 refine G.pz<|aO.mono (agw _ _) ?_;rintro v H6 ⟨rfl,M6,Dp,wM⟩;refine rr ?_;exact⟨aC,w,ch,_,M6,O,Dp,N,wM⟩
end
section
variable{S:C Nat}{SH:Nat->Prop}
def _root_.Go.Ae.F.aeE{ty:aH}{K:Z->R->Prop}(G:F S H0 H L)(k:∀H2 r,F S H0 H2 ((r,ty,z)::L)->Ext H H2->K (.pointer<|D ⟨r,0,Q⟩) H2):ME (Go.Ae.iX ty z H) K:=by
 have hO:=F.refl G.wf;exact hO.iX λH1 r hO=>k H1 r (F.frame (cs:=[]) (L:=L) G hO) hO.ext
def Ci(P cs L:C dL):(P++(cs++L)).Perm (cs++(P++L)):=by
 rw[<-bU,<-bU];exact pX _ aG
abbrev RC.up(q:RC)(b:Bool):RC:={q with nu:=if b then q.nu+1 else q.nu}
def IQ(SH:Nat->Prop)(q:RC)(k:Nat)(S:C Nat)(H0:R)(L:C dL)(v:Z)(T:R):Prop:=∃(b:Bool)(k':Nat)(M':C dL),v=.bool b/\Rd SH (q.up b) k' T M'/\F S H0 T (M'++L)/\k<=k'/\(b=f->k<k'/\q.nu<120)
def IQ.no{k':Nat}{ru:Nat}(hk:k<=k')(hR:Rd SH q k' H M')(G:F S H0 H<|(ru,234,l)::(M'++L)):IQ SH q k S H0 L (.bool aC) H:=
 ⟨aC,k',M',rfl,hR,F.drop (A:=[_]) G,hk,λh=>by cases h⟩
theorem abV{ru:Nat}{at':Int}(hnm:nm.size<=1000000)(hk:k0<k)(hnu:q.nu<120)(hR:Rd SH q k H cs)(G:F S H0 H<|(ru,234,wO nm rg ay w ch root at')::(cs++L))(x4 x5 x6 x7:Z)(u):
 gK Pg X (sub lS [1,1,1,1,1,1,1,1,1,1,1,1,1,1]) (oG (pr q.rr) (.bool aC) (pr ru) x4 x5 x6 x7 u H) (jL Pg [.tmp 2]<|IQ SH q k0 S H0 L):=by
 have hty:=hR.ty<|F.drop (A:=[_]) G
 have Rl:¬yS H ru 3/\¬yS H ru 331/\¬yS H ru 221:=by
  have h:=(G.bk _<|aN ..).Jc;exact⟨λht=>(by have:=h.one ht;cases this),λht=>(by have:=h.one ht;cases this),λht=>(by have:=h.one ht;cases this)⟩
 have hR0:=hR;have hS0:=G;obtain⟨rv,rcs,gr,nv,iK,gn,sc,sa,nr,nn,rfl,W,J,h3,h4,h5,h6,h7,h8,h9,h10,Cw⟩:=hR
 obtain⟨na',nc,cc,rfl,hnl,_⟩:∃a n c,rv=I a n c/\rcs.length=n*7/\True:=by
  rcases h3 with⟨rfl,rfl,_⟩|⟨r,n,eB,rfl,hn,_⟩
  .exact⟨_,_,_,O,by simp,trivial⟩
  .exact⟨_,_,_,O,hn,trivial⟩
 have hnn:nc=nr:=N;subst hnn;subst h5;have G:=F.own (cs:=(ru,234,wO nm rg ay w ch root at')::(q.rt,215,[I q.a q.n q.c])::(q.ra,3,[B k])::(q.rp,222,[pJ q.rt q.ra])::(q.rr,226,[pJ q.rt q.ra,yI q.rp q.ra q.rt,I na' q.nu cc,nv,vi sc,vi sa])::(gr++gn)) (L:=L) hS0;refine tm ?_;refine G.PL O O O N λH2 rx G tq=>?_;have G:=G.to (cs':=wO nm rg ay w ch root at') O;have G:=G.perm (L':=(rx,234,wO nm rg ay w ch root at')::(gr++((ru,234,wO nm rg ay w ch root at')::(q.rt,215,[I q.a q.n q.c])::(q.ra,3,[B k])::(q.rp,222,[pJ q.rt q.ra])::(q.rr,226,[pJ q.rt q.ra,yI q.rp q.ra q.rt,I na' q.nu cc,nv,vi sc,vi sa])::gn)))<|dS _<|Ci [_,_,_,_,_] gr gn;refine h3.FM G N O O N λv' H3 gr' hg' G hx' Nj vT=>?_;have G:=G.perm<|Ci gr' [_,_,_,_,_] gn;simp only[bI,bN]at G
 obtain⟨va,vn',vc,rfl,hvl,_⟩:∃a n c,v'=I a n c/\(rcs++wO nm rg ay w ch root at').length=n*7/\True:=by
  rcases hg' with⟨_,h,_⟩|⟨r,n,eB,rfl,hn,_⟩
  .exact absurd h kg
  .exact⟨_,_,_,O,hn,trivial⟩
 have hvn:vn'=q.nu+1:=by rw[aQ,h4]at hvl;simp at hvl;omega
 subst hvn;refine G.mh λHn G=>?_;have hne:q.rr≠ru:=(G.nq 0 4 O O N).symm;refine splitK (λK hK=>?_) ?_
 .simp only[tq,d_,fK];generalize q.rr=rr at hne;rcases vT with e|e<;>rw[e]<;>apply lQ (a:=rr) (b:=ru) hne xN jr jr hK
 have E:=G.ext;have hE:=BX (es:=7) (n:=q.nu) h4 (xs:=wO nm rg ay w ch root at') O;refine rr ?_;refine⟨f,k,(q.rt,215,[I q.a q.n q.c])::(q.ra,3,[B k])::(q.rp,222,[pJ q.rt q.ra])::(q.rr,226,[pJ q.rt q.ra,yI q.rp q.ra q.rt,I va (q.nu+1) vc,nv,vi sc,vi sa])::(gr'++gn),O,?_,?_,N,λ_=>⟨hk,hnu⟩⟩
 .refine⟨I va (q.nu+1) vc,rcs++wO nm rg ay w ch root at',gr',nv,iK,gn,sc,sa,q.nu+1,nn,O,W,?_,hg',hvl,O,λi hi=>?_,h7,h8,h9,λi hi=>?_,Cw⟩
  .refine J.st E (λr y=>.inr ?_) (ax _);rcases bP.1 y with rfl|y
   .exact Rl.2
   .exact(hty r y).2
  .rcases cr i q.nu with h|h
   .rw[hE.1 i h];exact h6 i h
   .obtain rfl:i=q.nu:=N;rw[hE.2];exact⟨nm,rg,ay,w,ch,root,at',O,hnm⟩
  .have hst:∀r∈((ru,234,wO nm rg ay w ch root at')::(q.rt,215,[I q.a q.n q.c])::(q.ra,3,[B k])::(q.rp,222,[pJ q.rt q.ra])::(q.rr,226,[pJ q.rt q.ra,yI q.rp q.ra q.rt,I na' q.nu cc,nv,vi sc,vi sa])::(gr++gn)).map (λe:dL=>e.1),(¬SH r\/¬yS H r 3)/\¬yS H r 331:=λr y=>by
    rcases bP.1 y with rfl|y
    .exact⟨.inr Rl.1,Rl.2.1⟩
    .exact⟨(hty r y).1.imp_left (λe=>by rw[e];exact Cw),(hty r y).2.1⟩
   exact(h10 i hi).st E hst
 .have hF:=F.frame (cs:=(ru,234,wO nm rg ay w ch root at')::(q.rt,215,[I q.a q.n q.c])::(q.ra,3,[B k])::(q.rp,222,[pJ q.rt q.ra])::(q.rr,226,[pJ q.rt q.ra,yI q.rp q.ra q.rt,I na' q.nu cc,nv,vi sc,vi sa])::(gr++gn)) hS0 G;exact F.drop (A:=[_]) hF
def ahK{ru:Nat}{at':Int}(hF:∀r,H.next<=r->SH r)(hnm:nm.size<=1000000)(hk:k0<=k)(hnu:q.nu<120)(hR:Rd SH q k H cs)(G:F S H0 H<|(ru,234,wO nm rg ay w ch root at')::(cs++L))(x4 x5 x6 x7:Z)(u):
 gK Pg X (sub lS [1,1,1,1,1,1,1,1]) (oG (pr q.rr) (.bool aC) (pr ru) x4 x5 x6 x7 u H) (jL Pg [.tmp 2]<|IQ SH q k0 S H0 L):=by
 have hkn:=hR.le;refine tp ?_;refine hR.Wi (P:=[_]) G λH1 M1 Ab hS1 hn1=>aO.mono (agv (P:=[_]) Ab hS1 5 mO) ?_;rintro v H2 ⟨b,k2,M2,rfl,hR2,hS2,hk2,hb2,hn1'⟩;refine qx (λhb=>?_) λhb=>?_
 .refine rr ?_;exact(.no N hR2 hS2)
 have hb':b=f:=by cases b with
  |true=>rfl
  |false=>cases hb
 have ano:=hb2 hb';have hkn2:=hR2.le;have hn2:H.next<=H2.next:=N
 refine aO.mono (Ud q k2 SH H2 M2 0 (λr y=>hF r N) hR2 hS2.inP.own N) ?_;rintro v H3 ⟨i,b3,k3,M3,rfl,EW,al2,hk3,_⟩;have sG:=hS2.O6 al2;refine qx (λhb=>?_) λhb=>?_
 .refine rr ?_;exact(.no N EW sG)
 refine EW.st sG O O O O (aF O) O λH4 Gp vJ _=>?_;have vJ:F S H0 H4 ((ru,234,wO nm rg ay w ch i at')::(M3++L)):=vJ;refine aO.mono (Ue Gp vJ) ?_;rintro v H5 ⟨b5,w5,ch5,k5,M5,rfl,MC,hk5,hS5⟩;refine qx (λhb=>?_) λhb=>?_
 .refine rr ?_;exact(.no N MC hS5)
 refine aO.mono (agv (P:=[_]) MC hS5 7 mO) ?_;rintro v H6 ⟨b6,k6,M6,rfl,Dp,wM,T_,hb6,_⟩;refine qx (λhb=>?_) λhb=>?_
 .refine rr ?_;exact(.no N Dp wM)
 exact abV hnm N hnu Dp wM _ _ _ _ _
theorem abW{ru:Nat}(hF:∀r,H.next<=r->SH r)(hnu:q.nu<=120)(hk0:k0<=k)(hR:Rd SH q k H cs)(G:F S H0 H<|(ru,234,wO ⟨#[]⟩ aC ay aC 0 0 0)::(cs++L))(x4 x5 x6 x7:Z)(u):
 gK Pg X (sub lS [1,1,1]) (oG (pr q.rr) (.bool aC) (pr ru) x4 x5 x6 x7 u H) (jL Pg [.tmp 2]<|IQ SH q k0 S H0 L):=by
 have hkn:=hR.le;refine tp ?_;refine hR.Rk (P:=[_]) G 0 N λH1 Ab hS1 hx1=>?_;rw[show min (k+0) (q.n-1)=k by omega];have⟨kd,O7,e1,t1,xa,xn,xc,he,_,ht1,_,hz⟩:=Ab.tok hkn.1;rw[he]
 have Rl:¬yS H1 ru 3/\¬yS H1 ru 331/\¬yS H1 ru 221:=by
  have h:=(hS1.bk _<|aN ..).Jc;exact⟨λht=>(by have:=h.one ht;cases this),λht=>(by have:=h.one ht;cases this),λht=>(by have:=h.one ht;cases this)⟩
 have hS1:F S H0 H1 ([(ru,234,wO ⟨#[]⟩ aC ay aC 0 0 0)]++(cs++L)):=hS1;refine hS1.own.nI O O O λH4 rt vJ hx4=>?_;have G:F [ru] H1 H4 [(rt,221,[vi kd,B O7,B e1,.string t1,I xa xn xc]),(ru,234,wO ⟨#[]⟩ aC ay aC 0 0 0)]:=vJ;refine eU ?_;refine G.cm (EY G.wf _ _ _ _ _ O) ?_;rintro v H5 rfl hx5 G;refine G.kL ?_;refine gF (λhb=>?_) λhb=>?_
 .have hf:=hS1.frame (cs:=[_]) G
  have MC:=Ab.stay G.ext λr y=>by
   rw[aP]at y;subst y;exact⟨.inr Rl.1,Rl.2⟩
  refine aO.mono (abU (P:=[_,_]) MC hf) ?_;rintro v H6 ⟨rfl,M6,Dp,wM⟩;refine rr ?_;exact(.no hk0 Dp<|F.drop (A:=[_]) wM)
 refine eU ?_;refine G.mh λHn G=>?_;refine G.mh λHn G=>?_;refine G.mh λHn G=>?_;have hne:rt≠ru:=G.nq 0 1 O O N;refine splitK (λK hK=>?_) ?_
 .simp only[d_,fK];apply lQ (a:=rt) (b:=ru) hne xN jr jr hK
 have E:=G.ext;generalize hM (hM (hM H5 _) _) Hn=H6 at*;have Rp:=hS1.frame (cs:=[_]) G;have Rp:F S H0 H6 ((ru,234,wO t1 (decide<|kd=1) ay aC 0 0 O7)::(cs++L)):=F.drop (A:=[_]) Rp;have hn6:H.next<=H6.next:=by have:=E.next;have:=hx1.next;omega
 have Dp:Rd SH q k H6 cs:=Ab.stay E λr y=>by
  have y:r∈[ru]:=y;rw[aP]at y;subst y;exact⟨.inr Rl.1,Rl.2⟩
 clear G;have⟨⟨ra,rc,hrc⟩,hrl⟩:=Dp.rules (L:=[_]++L)<|F.inP (P:=[_]) Rp;have G:=Rp;refine ME.ld hrc ?_;refine rV (λhc=>?_) λhc=>?_
 .refine G.pz<|aO.mono (abT (P:=[_]) Dp G 3 _) ?_;rintro v H7 ⟨rfl,M7,Wh,He⟩;refine rr ?_;exact(.no hk0 Wh He)
 refine eU ?_
 have K8:∀(b:Bool) u,Bc u 72=.bool b->gK Pg X (sub lS [1,1,1,1,1,1,1,0,1]) (oG (pr q.rr) (.bool aC) (pr ru) x4 (pr rt) x6 x7 u H6) (t_ Pg X (sub lS [1,1,1,1,1,1,1,1])<|jL Pg [.tmp 2]<|IQ SH q k0 S H0 L):=by
  intro b u hb;refine tl ?_;rw[hb];refine qx (λhb=>?_) λhb=>?_
  .refine G.pz<|aO.mono (abT (P:=[_]) Dp G 18 _) ?_;rintro v H7 ⟨rfl,M7,Wh,He⟩;refine rr ?_;exact(.no hk0 Wh He)
  .exact ahK (λr y=>hF r N) ht1 hk0 N Dp G _ _ _ _ _
 refine gF (λhb=>?_) λhb=>?_
 .refine eU ?_;exact K8 _ _ O
 .exact K8 _ _ O
def Yp(hF:∀r,H.next<=r->SH r)(hnu:q.nu<=120)(hR:Rd SH q k H cs)(G:F S H0 H<|cs++L):aO Pg X 120 [pr q.rr] H (IQ SH q k S H0 L):=by
 have hkn:=hR.le;refine jS [0,2,3,4,5,6,7] ?_;refine G.aeE λH1 ru hS1 hx1=>?_;have Ab:=hR.ex hx1;have hS1:F S H0 H1 ((ru,234,wO ⟨#[]⟩ aC aC aC 0 0 0)::(cs++L)):=hS1;refine bG ?_;refine Ab.Rk (P:=[_]) hS1 0 N λH2 hR2 hS2 hx2=>?_;rw[show min (k+0) (q.n-1)=k by omega];have⟨kd,O7,e1,t1,xa,xn,xc,he,_⟩:=hR2.tok hkn.1;rw[he];refine hS2.nI O O O λH3 rt sG hx3=>?_;have EW:=hR2.ex hx3;have G:F S H0 H3 ((rt,221,[vi kd,B O7,B e1,.string t1,I xa xn xc])::(ru,234,wO ⟨#[]⟩ aC aC aC 0 0 0)::(cs++L)):=sG;have hn3:H.next<=H3.next:=by have:=hx1.next;have:=hx2.next;have:=hx3.next;omega
 have mid:∀(b:Bool) x5 x6 x7 u H4,Bc u 28=.bool b->Rd SH q k H4 cs->H3.next<=H4.next->F S H0 H4 ((ru,234,wO ⟨#[]⟩ aC aC aC 0 0 0)::(cs++L))->gK Pg X (sub lS [1,1,0,1,1]) (oG (pr q.rr) (.bool aC) (pr ru) (pr rt) x5 x6 x7 u H4) (t_ Pg X (sub lS [1,1,1])<|jL Pg [.tmp 2]<|IQ SH q k S H0 L):=by
  intro b x5 x6 x7 u H4 hb Gp hn4 vJ;refine tl ?_;rw[hb];refine qx (λhb=>?_) λhb=>?_
  .exact Gp.Wi (P:=[_]) vJ λH5 M5 MC hS5 hn5=>MC.st hS5 O O O O (aF O) O λH6 Dp wM hn6=>abW (λr y=>hF r N) hnu N Dp wM _ _ _ _ _
  .exact abW (λr y=>hF r N) hnu (ax _) Gp vJ _ _ _ _ _
 refine wS (λhc=>?_) λhc=>?_
 .refine OP (λhb=>?_) λhb=>?_
  .refine EW.Rk (P:=[_,_]) G 1 N λH4 Gp vJ hx4=>?_;have⟨kd,O7,e1,t1,xa,xn,xc,he,_⟩:=Gp.tok (i:=min (k+1)<|q.n-1) N;rw[he];refine aO.mono (EY vJ.wf _ _ _ _ _ O) ?_;rintro v H5 ⟨rfl,hx5⟩;exact mid _ _ _ _ _ _ O (Gp.ex hx5) (by have:=hx4.next;have:=hx5.next;omega)<|F.drop (A:=[_])<|vJ.call hx5
  .exact mid _ _ _ _ _ _ O EW (ax _)<|F.drop (A:=[_]) G
 .exact mid _ _ _ _ _ _ O EW (ax _)<|F.drop (A:=[_]) G
end
section
variable{S:C Nat}{SH:Nat->Prop}
def Gr(b:Nat)(H:R)(ra:aB Addr)(rn:Nat)(rcs:C Z)(na:aB Addr)(nn:Nat)(iK:C Z):Prop:=
 je (b<=·) 234 H ra rn 7 rcs/\rn<=120/\(∀i,i<rn->RuC (El rcs 7 i))/\je (b<=·) 238 H na nn 5 iK/\nn<=4000/\∀i,i<nn->NoC (b<=·) H (El iK 5 i)
def abX(b:Nat)(v:Z)(H:R):Prop:=∃ra rn rc rcs na nn nc iK,∃(cd e:Int),v=.tuple ⟨[.agg ⟨[I ra rn rc,I na nn nc]⟩,.agg ⟨[vi cd,vi e]⟩]⟩/\Gr b H ra rn rcs na nn iK/\(na=Q\/nc=fJ 5)
def Gr.nil(b:Nat)(H:R):Gr b H Q 0 [] Q 0 []:=
 ⟨je.nil _ _ _ _ _,N,λi h=>N,je.nil _ _ _ _ _,N,λi h=>N⟩
def Rd.akh(hR:Rd SH q k H cs)(G:F S H0 H<|cs++L)(j:Nat)(hj:j<=1000)(h:∀T,Rd SH q k T cs->F S H0 T (cs++L)->Ext H T->K (pJ q.rt q.ra) (.agg ⟨El q.M 5<|min (k+j)<|q.n-1⟩) T):ME (vH Q (.pointer<|D ⟨q.rp,0,Q⟩) H) λv H1=>nU Pg X (Mj v) [B j] H1 (K v):=by
 have hR0:=hR;obtain⟨rv,rcs,gr,nv,iK,gn,sc,sa,nr,nn,rfl,_⟩:=hR;refine G.ld 2 O O ?_;show aO Pg X 118 [B j,pr q.rt,pr q.ra] H<|K _;refine aO.mono (abQ hR0 G j hj) ?_;rintro v T ⟨rfl,E⟩;exact h T (hR0.ex E) (G.call E) E
def sD{α:Type}{x:α}(A vn:C α){ak:C α}(h:(A++vn).Perm ak):(A++x::vn).Perm (x::ak):=i_.trans<|h.cons x
theorem Yq(hw:Wf H)(x0:Z)(q0:RC)(rs u re rf:Nat)(f8:Z)(H1:R)(hge:H.next<=q0.ra/\q0.ra<H1.next)(hR:Rd (λr=>H.next<=r/\r≠q0.ra) {q0 with nu:=0} 0 H1 cs)(xe:C Z)(G:F [] H H1<|cs++[(re,173,xe),(rs,173,[vi 0,vi 0]),(u,171,[I Q 0 0,I Q 0 0])])(x4 x6:Z)(ni):
 gK Pg X (.loop<|sub II [1,1,1,1,1,1,1,0,1,0,0]) (OW x0 (pr u) (pr rs) x4 (pr re) x6 (pr q0.rp) f8 (pr q0.rr) (.bool f) ni H1) (sw 0<|t_ Pg X (sub II [1,1,1,1,1,1,1,1])<|jL Pg [.cell 2 171,.cell 3 173]<|Q1 (abX H.next) H):=by
 refine Yb 10 (ai:=λm jo T=>∃(b:Bool)(j k:Nat)(cs:C dL),jo=.bool b/\Rd (λr=>H.next<=r/\r≠q0.ra) {q0 with nu:=j} k T cs/\k+m=q0.n/\j<=120/\q0.ra<T.next/\F [] H T (cs++[(re,173,xe),(rs,173,[vi 0,vi 0]),(u,171,[I Q 0 0,I Q 0 0])])) ?_ q0.n ⟨f,0,0,cs,O,hR,N,N,hge.2,G⟩;clear hR G;rintro m jo ni H2 ⟨b,j,k,M2,rfl,hR,hkm,hj,hra,G⟩;refine alS (λhb=>?_) λhb=>?_;rotate_left
 .refine tl ?_;obtain⟨rv,rcs,gr,nv,iK,gn,sc,sa,nr,nn,rfl,W,J,h3,h4,h5,h6,h7,h8,h9,h10,Cw⟩:=hR;have h5:nr=j:=h5;subst h5;have G:=G.perm<|Ci _ [_,_,_] [];simp only[bI,bN,bq]at G;obtain⟨va,vn',vc,rfl⟩:∃a n c,rv=I a n c:=by rcases h3 with⟨rfl,_⟩|⟨r,n,eB,rfl,_⟩<;>exact⟨_,_,_,O⟩
  obtain⟨wa,wn,wc,rfl⟩:∃a n c,nv=I a n c:=by rcases h7 with⟨rfl,_⟩|⟨r,n,eB,rfl,_⟩<;>exact⟨_,_,_,O⟩
  refine bG ?_;apply G.iI;have hS0:=G;have G:=F.own (cs:=[(re,173,xe),(rs,173,[vi 0,vi 0]),(u,171,[I Q 0 0,I Q 0 0])]) hS0;refine PU.b2 O ?_;refine G.jH λHn G=>?_;refine G.jH λHn G=>?_;refine rr ?_;refine eU ?_;have E:=G.ext;have G:=hS0.frame (cs:=[_,_,_]) G;have hxH:Ext H Hn:=G.ext;have hf:∀e:dL,e∈gr++gn->H.next<=e.1:=λe he=>G.wQ<|cZ [_,_,_,_,_,_,_] he
  have⟨a1,n1,c1,e1,hl1,hf1⟩:=h3.IA (SH:=(H.next<=·)) (G.perm<|Ci [_,_,_,_,_,_,_] gr gn) λe he=>hf e<|dn _ he;have⟨a2,n2,c2,e2,hl2,hf2⟩:=h7.IA (SH:=(H.next<=·)) (G.perm<|(gD [_,_,_,_,_,_,_] aG).trans<|Ci [_,_,_,_,_,_,_] gn gr) λe he=>hf e<|cZ _ he;cases e1;cases e2;obtain rfl:vn'=nr:=N;obtain rfl:wn=nn:=N;have hO:=F.own (cs:=[(re,173,xe),(rs,173,[vi 0,vi 0]),(u,171,[I Q 0 0,I Q 0 0])]) hS0;have hty:=hO.GX (ty:=3) O;have Uf:=hO.GX (ty:=331) O
  have hcap:wa=Q\/wc=fJ 5:=by
   rcases h7 with⟨e,_,_⟩|⟨r,n,eB,e,_,_⟩<;>cases e
   .exact .inl O
   .exact .inr O
  refine⟨⟨va,vn',vc,rcs,wa,wn,wc,iK,0,0,O,⟨hf1,hj,h6,hf2,h9,λi hi=>?_⟩,hcap⟩,hxH⟩;refine((h10 i hi).wk λr _ h=>h.1).st E λr y=>⟨.inr<|hty r y,Uf r y⟩
 refine aO.mono (Yp (SH:=λr=>H.next<=r/\r≠q0.ra) (q:={q0 with nu:=j}) (λr y=>⟨?_,?_⟩) hj hR G) ?_
 .have:=G.ext.next;omega
 .omega
 rintro v H3 ⟨b,k3,M3,rfl,EW,sG,hk3,hb3⟩;refine qx (λhb=>?_) λhb=>?_
 .have hb':b=aC:=by cases b with
   |false=>rfl
   |true=>cases hb
  subst hb';obtain⟨rv,rcs,gr,nv,iK,gn,sc,sa,nr,nn,rfl,W,J,h3,h4,h5,h6,h7,h8,h9,h10,Cw⟩:=EW;have G:=sG.perm<|Ci _ [_,_,_] [];simp only[bI,bN,bq]at G;refine eU ?_;refine G.mh λHn G=>?_;refine G.mh λHn G=>?_;refine splitK (λK hK=>?_) ?_
  .simp only[d_,fK];have n1:=G.nq 1 2 O O N;have n2:=G.nq 1 6 O O N;have n3:=G.nq 2 6 O O N;generalize q0.rr=rr at n2 n3|-;apply xG (a:=rs) (b:=u) (c:=rr) n1 n2 n3 xN jr jr hK
  refine rr ?_;refine eU ?_;exact⟨⟨Q,0,0,[],Q,0,0,[],sc,sa,O,Gr.nil _ _,.inl O⟩,G.ext⟩
 have hb':b=f:=by cases b with
  |true=>rfl
  |false=>cases hb
 subst hb';have hk4:=hb3 O;have EW:Rd (λr=>H.next<=r/\r≠q0.ra) {q0 with nu:=j+1} k3 H3 M3:=EW;refine EW.akh sG 0 N λH4 Gp vJ hx4=>?_;have hkn:=Gp.le;rw[show min (k3+0) (q0.n-1)=k3 by have:k3<q0.n:=hkn.1;omega];have⟨kd,O7,e1,t1,xa,xn,xc,he,_⟩:=Gp.tok hkn.1;have he:El q0.M 5 k3=_:=he;rw[he,EX];refine bG ?_;refine⟨q0.n-k3,by have:k3<q0.n:=hkn.1;omega,_,_,_,rfl,_,j+1,k3,M3,rfl,Gp,by have:k3<q0.n:=hkn.1;omega,by have J:j<120:=hk4.2;omega,(vJ.lo _<|dn _ Gp.mem).2,vJ⟩
theorem MF(hw:Wf H)(hT:BV H)(s:aV):aO Pg X 93 [.string s] H (Q1 (abX H.next) H):=by
 have G:=F.refl hw;refine jS [0,2,3,4,5,6,7,8,9,10] ?_;refine G.iX λHn u G=>?_;refine G.iX λHn rs G=>?_;refine aO.mono (Rh G.wf (hT.ex G.ext) s) ?_;rintro v H1 ⟨⟨ts,cd,e,rfl,hts,hT1⟩,E⟩;have hlt:=G.lt;have hS1:=G.call E;have G:=hS1.base;refine bG ?_;refine G.iX λHn rt G=>G.iX λHn re G=>?_;have key:bK ts=[ts]/\fC ts=f:=by rcases hts with rfl|⟨a,n,c,rfl⟩<;>exact⟨O,O⟩
 refine G.st 1 O (by rw[key.1];rfl) (ax 1) (by rw[key.1];show bV (fC ts) _ _=_;rw[key.2];rfl) λHn G=>?_;rw[key.1]at G;have G:F [rs,u] H1 Hn [(re,173,[vi 0,vi 0]),(rt,215,[ts]),(rs,173,[vi 0,vi 0]),(u,171,[I Q 0 0,I Q 0 0])]:=G;refine G.kL ?_;refine G.jH λHn G=>?_;refine Mq (λhc=>?_) λhc=>?_
 .refine eU ?_;refine G.mh λHn G=>?_;refine G.mh λHn G=>?_;refine splitK (λK hK=>?_) ?_
  .simp only[d_,fK];apply xG (a:=rs) (b:=u) (c:=re) (G.nq 2 3 O O N) (G.nq 0 2 O O N).symm (G.nq 0 3 O O N).symm xN jr jr hK
  refine rr ?_;refine eU ?_;exact⟨⟨Q,0,0,[],Q,0,0,[],cd,e,O,Gr.nil _ _,.inl O⟩,(hS1.over G).ext⟩
 refine G.iX λHn ra G=>G.jH λHn G=>G.iX λHn rp G=>G.jH λHn G=>?_;refine eU ?_;obtain⟨ta,tn,tc,tcs,rfl,hTk⟩:=hT1 hc;refine G.box O λH2 rr G=>?_;have G:F [rs,u] H1 H2 [(rr,226,[pJ rt ra,yI rp ra rt,I Q 0 0,I Q 0 0,vi 0,vi 0]),(rp,222,[pJ rt ra]),(ra,3,[B 0]),(re,173,[vi cd,vi e]),(rt,215,[I ta tn tc]),(rs,173,[vi 0,vi 0]),(u,171,[I Q 0 0,I Q 0 0])]:=G;have G:=G.perm (L':=[(rt,215,[I ta tn tc]),(ra,3,[B 0]),(rp,222,[pJ rt ra]),(rr,226,[pJ rt ra,yI rp ra rt,I Q 0 0,I Q 0 0,vi 0,vi 0]),(re,173,[vi cd,vi e]),(rs,173,[vi 0,vi 0]),(u,171,[I Q 0 0,I Q 0 0])])<|sD [_,_,_,_] [_,_]<|sD [_,_] [_,_,_]<|sD [_] [_,_,_]<|p9 _;have hx2:=G.ext;have G:=hS1.over G;have hra:=G.lo _<|aS (i:=1) O;refine Yq hw (.string s) ⟨rt,ra,rp,rr,ta,tn,tc,tcs,0⟩ rs u re rp _ H2 (cs:=[(rt,215,[I ta tn tc]),(ra,3,[B 0]),(rp,222,[pJ rt ra]),(rr,226,[pJ rt ra,yI rp ra rt,I Q 0 0,I Q 0 0,vi 0,vi 0])]) ⟨G.wQ<|aS (i:=1) O,hra.2⟩ ?_ [vi cd,vi e] G _ _ _;refine⟨I Q 0 0,[],[],I Q 0 0,[],[],0,0,0,0,O,?_,?_,GB.nil _ _,O,O,λi h=>N,GB.nil _ _,rfl,N,λi h=>N,λh=>h.2 O⟩
 .have:=hTk.2.1;show 0<tn;omega
 .exact hTk.st hx2 (λr y=>.inl<|hlt r y)<|bA _
end
end Go.Proofs.Lu
