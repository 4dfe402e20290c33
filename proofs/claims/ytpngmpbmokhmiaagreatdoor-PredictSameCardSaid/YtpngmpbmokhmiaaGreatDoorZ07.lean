/-
  Part 07 of the proof. No condition.
-/
import Derived.Test.YtpngmpbmokhmiaaGreatDoorZ06
set_option linter.unusedVariables false
set_option linter.unusedSimpArgs false
set_option maxRecDepth 100000
set_option maxHeartbeats 4000000
set_option linter.defProp false
open Option renaming some->Z,none->W
open Bool renaming true->f,false->aA
open Go renaming Value->D,TypeId->aG
open Go.Value renaming slice->T
open ByteArray renaming mk->cz
open List.Perm renaming cons->dQ
open List renaming length->gz
noncomputable section
namespace Go.Proofs.Lu
open Go.Ae Go.Ae.SH
variable{b b' c es i k k0 kb m o:Nat}{K:D->D->F->Prop}{L Lx SH M' Mb gb:List dJ}{H C H0 Hb Hc:F}{E ks l z:List D}{v x:D}{a:Option Addr}{nm t:ByteArray}{F':Nat->Prop}{av rg w:Bool}{ch kd root:Int}
abbrev isRead(b:Nat)(s:ByteArray)(v:D)(C:F):Prop:=∃(rs:D)(cd:Int)(at':Nat),v=.tuple ⟨[rs,.agg ⟨[vi cd,B at']⟩]⟩/\at'<=s.size+1/\iF b s.size C rs
def Tok.st{S:List Nat}{lo hi:Nat}(h:Tok b H lo hi v)(J:oz S H C)(G:∀q∈S,q<b\/¬yw H q 331)(hb:b'<=b):Tok b' C lo hi v:=by
 obtain⟨kd,a,e,t,rs,Q,I,h3,h4,h5,h6⟩:=h;exact⟨kd,a,e,t,rs,Q,I,h3,h4,h5,(h6.stay J G).le (az _) hb⟩
def XI(hw:Wf H)(hT:Bt H)(s:ByteArray)(hs:s.size<=20000):aJ Pg X 203 [.string s] H (Q1 (isRead H.next s) H):=by
 have G:=M.refl hw;refine ce [0,2,3,4,5,6,7,8,9,10] ?_;refine tl ?_;refine G.iZ λHn rs G=>?_;refine aY ?_;refine aC (λy=>?_) λy=>?_
 .refine d_ ?_;refine G.jE λHn G=>rr ?_;exact G.iK<|⟨⟨_,_,0,O,N,iF.nil _ _ _⟩,G.ext⟩
 refine lp8 2 4 5 6 7 8 9 10 (h2:=λm x2 x4 x5 x6 x7 x8 x9 jh C=>∃(k:Nat)(ds:List D)(gb:List dJ),x2=T W 0 0/\x5=B k/\k+m=s.size/\GB 331 2 x4 ds gb/\ds.length<=2*k/\LK ds/\M [] H C ((rs,173,[vi 0,vi 0])::(gb++[]))) ?_ s.size ⟨0,[],[],rfl,rfl,N,GB.nil _ _,by simp,(λx h=>nomatch h),G⟩;clear G;rintro m x2 x4 x5 x6 x7 x8 x9 jh u C ⟨k,ds,gb,rfl,rfl,hk,hg,hdl,hds,G⟩;refine gJ.wC λK hK=>?_
 have lay:∀(lo hi:Int)(q:Nat) x7 x8 u H2,k<q->q<=s.size->M [] H H2 ((rs,173,[vi 0,vi 0])::(gb++[]))->
  gJ Pg X (sub Bl [1,1,1,0,1,0,0,1,0,1,1,1,1]) (DT (.string s) (T W 0 0) (.pointer<|Z ⟨rs,0,W⟩) x4 (B k) (.int .i32 lo) x7 x8 (.int .i32 hi) (B q) u H2) (rO 1 K):=by
  intro lo hi q x7 x8 u H2 Q I G;subst hK;refine tl<|PU.of (v:=.agg ⟨[_,_]⟩) O ?_;refine G.bS O O O N λH3 rx G=>?_;have G:M [] H H3 ((rx,331,[.int .i32 lo,.int .i32 hi])::(gb++[(rs,173,[vi 0,vi 0])])):=G.perm<|dQ _<|ML _ _;refine hg.add G N O O N λv' H3 gT hg' hS' J=>?_;refine aY ?_;exact⟨s.size-q,N,_,_,_,_,_,_,_,_,_,_,O,q,_,gT,O,O,N,hg',by simp;omega,hds.app _ _,hS'.perm (ML _ _).symm⟩
 have mid:∀(lo:Int)(sz q:Nat)(b:Bool) x8 u H2,Aw u 44=.bool b->k<q->q<=s.size->(b=f->q+1<s.size)->M [] H H2 ((rs,173,[vi 0,vi 0])::(gb++[]))->
  gJ Pg X (sub Bl [1,1,1,0,1,0,0,1,0,1,1,1,0,1]) (DT (.string s) (T W 0 0) (.pointer<|Z ⟨rs,0,W⟩) x4 (B k) (.int .i32 lo) (B sz) x8 (.int .i32 lo) (B q) u H2) (sW Pg X (sub Bl [1,1,1,0,1,0,0,1,0,1,1,1,1])<|rO 1 K):=by
  intro lo sz q b x8 u H2 hb Q I h3 G;refine tl ?_;rw[hb];refine aY ?_;refine dL (λhb=>?_) λhb=>?_
  .have:=h3 hb;rw[fA N N];refine aY ?_;rw[MS (show(q:Int)+1=((q+1:Nat):Int) by omega)];refine aJ.mono (MV G.wf (hT.ex G.ext) s (q+1) N N) ?_;rintro v H3 ⟨⟨r,n,e,rfl,h4,h5⟩,J⟩;have G:=G.call J;refine G.kK ?_;refine bT (λhe=>?_) λhe=>?_
   .rw[fA N N];refine d_ ?_;refine G.jE λHn G=>?_;subst hK;refine rr ?_;exact G.iK<|⟨⟨_,_,q+1,O,N,iF.nil _ _ _⟩,G.ext⟩
   refine aC (λy=>?_) λy=>?_
   .refine d_ ?_;refine G.jE λHn G=>?_;subst hK;refine rr ?_;exact G.iK<|⟨⟨_,_,k,O,N,iF.nil _ _ _⟩,G.ext⟩
   rw[fA N N];refine G.kK ?_;rw[fA N N];refine G.kK ?_;rw[MS (show(q:Int)+(1+(n:Int))=((q+1+n:Nat):Int) by omega)];exact lay _ _ _ _ _ _ _ N N G
  .exact lay _ _ _ _ _ _ _ Q I G
 refine tp ?_;refine aC (λy=>?_) λy=>?_
 .refine aJ.mono (MV G.wf (hT.ex G.ext) s k N N) ?_;rintro v H3 ⟨⟨r,n,e,rfl,h4,h5⟩,J⟩;have G:=G.call J;refine G.kK ?_;refine bT (λhe=>?_) λhe=>?_
  .refine d_ ?_;refine G.jE λHn G=>?_;subst hK;refine rr ?_;exact G.iK<|⟨⟨_,_,k,O,N,iF.nil _ _ _⟩,G.ext⟩
  have h6:=h5 N;rw[fA N N];refine G.kK ?_;rw[nW N N];refine G.kK ?_;rw[MS (show(k:Int)+(n:Int)=((k+n:Nat):Int) by omega)];refine aC (λy=>?_) λy=>?_
  .rw[su N];refine G.kK ?_;exact mid _ _ _ _ _ _ _ (by simp only[wX];rfl) N N (λ_=>by omega) G
  .exact mid _ _ _ aA _ _ _ (by simp only[wX]) N N (λh=>by cases h) G
 .subst hK;refine aY ?_;refine tl ?_;have hS2:M [] H C (gb++[(rs,173,[vi 0,vi 0])]):=G.perm<|ML _ _;obtain⟨a,n,c,rfl,hn,hf⟩:=hg.fl hS2;have hge:=G.ext.next
  refine aJ.mono (Eu (KM:=s.size) G.wf N ⟨a,n,c,ds,O,hf,N,hds⟩) ?_;rintro v H3 ⟨hv,J⟩;have hlt:=G.lt;have hS0:=G.call J;have G:=hS0.base;refine PU.b2 O<|G.jE λHn G=>rr ?_;exact G.iK<|⟨⟨_,0,0,O,N,(hv.stay G.ext λq hq=>.inl<|hlt q hq).le (az _) hge⟩,(hS0.over G).ext⟩
theorem Tg(hw:Wf H)(hT:Bt H)(s:ByteArray)(k:Nat)(hk:k<s.size)(hs:s.size<=20000):aJ Pg X 172 [.string s,B k] H (Q1 (FF H.next s k) H):=by
 have G:=M.refl hw;refine ce [0,1,4,5,6,7,8,19] ?_;refine tl ?_;refine G.iZ λHn rt G=>?_;refine G.iZ λHn rs G=>?_;rw[fA N N];refine aY ?_;refine Oa 6 7 8 19 (h2:=λm x6 x7 x8 uZ C=>∃p:Nat,x6=B p/\p+m=s.size+1/\k+1<=p/\M [] H C [(rs,173,[vi 0,vi 0]),(rt,221,[vi 0,vi 0,vi 0,.string<|cz #[],T W 0 0])]) ?_ (s.size-k) ⟨k+1,rfl,N,N,G⟩;clear G;rintro m x6 x7 x8 uZ u C ⟨p,rfl,Q,I,G⟩;refine tp ?_;refine aC (λy=>?_) λy=>?_;rotate_left
 .refine tm ?_;refine G.jE λHn G=>?_;refine G.jE λHn G=>?_;refine rr ?_;refine d_ ?_;exact⟨⟨_,_,k,O,⟨_,0,0,_,_,O,_,_,_,O⟩,λh=>by cases h⟩,G.ext⟩
 rw[su N];refine aY ?_;refine aC (λhd=>?_) λhd=>?_
 .rw[fA N N];refine aY ?_;rw[fA N N];refine aY ?_;exact⟨m-2,N,_,_,_,_,_,_,O,p+2,O,N,N,G⟩
 refine aC (λhe=>?_) λhe=>?_
 .rw[fA N N];refine aY ?_;rw[show slT (.string s) (Z<|vi<|(k:Int)+1) (Z<|B p) W=_ from Cs (lo:=k+1) N N];refine aY ?_;have hp:=pM s (lo:=k+1) (hi:=p) N N;refine aJ.mono (XI G.wf (hT.ex G.ext) _ N) ?_;rintro v H3 ⟨⟨rsv,cd,e,rfl,h3,h4⟩,J⟩;have hge:=G.ext.next
  have hlt:=G.lt;have hS0:=G.call J;have G:=hS0.base;refine G.kK ?_;refine G.iZ λHn rq G=>?_;refine G.kK ?_;refine G.jE λHn G=>?_;refine d_ ?_;refine bT (λhz=>?_) λhz=>?_
  .refine d_ ?_;rw[fA N N];refine d_ ?_;rw[fA N N];refine d_ ?_;refine G.lW λHn G=>?_;refine G.lW λHn G=>?_;simp only[eG,fT];apply xS (a:=rq) (b:=rs) (c:=rt) (G.nq 0 1 O O N) (G.nq 0 2 O O N) (G.nq 1 2 O O N) (by intros;rfl) (by kernel_rfl) (by kernel_rfl);refine rr ?_;refine d_ ?_;exact⟨⟨_,cd,k+1+e,O,⟨_,0,0,_,_,O,_,_,_,O⟩,λh=>absurd h hz⟩,(hS0.over G).ext⟩
  .obtain⟨xa,xn,xc,xcs,rfl,h5,h6,h7⟩:=id h4;rw[fA N N];refine d_ ?_;refine G.jE λHn G=>?_;refine G.jE λHn G=>?_;refine rr ?_;refine d_ ?_;refine⟨⟨_,0,0,O,⟨_,_,_,_,_,O,_,_,_,O⟩,λ_=>⟨4,k,p+1,_,_,rfl,N,N,N,bg _,?_⟩⟩,(hS0.over G).ext⟩;exact(h4.stay G.ext λq hq=>.inl<|hlt q hq).le N hge
 .rw[fA N N];refine aY ?_;exact⟨m-1,N,_,_,_,_,_,_,O,p+1,O,N,N,G⟩
def abf(hw:Wf H)(hT:Bt H)(s:ByteArray)(k:Nat)(hk:k<s.size)(hs:s.size<=20000):aJ Pg X 141 [.string s,B k] H (Q1 (FF H.next s k) H):=by
 have G:=M.refl hw;refine ce [0,1,4,5,6,7,8] ?_;refine tl ?_;refine G.iZ λHn rt G=>?_;refine G.iZ λHn rs G=>?_;rw[su N];refine aY ?_;refine aJ.mono (Ij _) ?_;rintro v C ⟨⟨b,rfl⟩,rfl⟩;refine aY ?_;have hge:=G.ext.next
 have hlt:=G.lt;refine dL (λhb=>?_) λhb=>?_
 .refine aJ.mono (XH G.wf s k hk N) ?_;rintro v H3 ⟨⟨tok,cd,e,rfl,⟨kd,a,e',t,rsv,rfl,xa,xn,xc,rfl⟩,hto⟩,J⟩;have hS0:=G.call J;have G:=hS0.base;refine G.kK ?_;refine G.jE λHn G=>?_;refine G.jE λHn G=>?_;refine rr ?_;refine d_ ?_;exact⟨⟨_,cd,e,O,⟨_,_,_,_,_,O,_,_,_,O⟩,λh=>(hto h).st G.ext (λq hq=>.inl<|hlt q hq) hge⟩,(hS0.over G).ext⟩
 refine aC (λy=>?_) λy=>?_
 .refine aJ.mono (Oh G.wf (hT.ex G.ext) s k hk N) ?_;rintro v H3 ⟨⟨tok,cd,e,rfl,⟨kd,a,e',t,rsv,rfl,xa,xn,xc,rfl⟩,hto⟩,J⟩;have hS0:=G.call J;have G:=hS0.base;refine G.kK ?_;refine G.jE λHn G=>?_;refine G.jE λHn G=>?_;refine rr ?_;refine d_ ?_;exact⟨⟨_,cd,e,O,⟨_,_,_,_,_,O,_,_,_,O⟩,λh=>(hto h).st G.ext (λq hq=>.inl<|hlt q hq) hge⟩,(hS0.over G).ext⟩
 refine aC (λy=>?_) λy=>?_
 .refine aJ.mono (Tg G.wf (hT.ex G.ext) s k hk N) ?_;rintro v H3 ⟨⟨tok,cd,e,rfl,⟨kd,a,e',t,rsv,rfl,xa,xn,xc,rfl⟩,hto⟩,J⟩;have hS0:=G.call J;have G:=hS0.base;refine G.kK ?_;refine G.jE λHn G=>?_;refine G.jE λHn G=>?_;refine rr ?_;refine d_ ?_;exact⟨⟨_,cd,e,O,⟨_,_,_,_,_,O,_,_,_,O⟩,λh=>(hto h).st G.ext (λq hq=>.inl<|hlt q hq) hge⟩,(hS0.over G).ext⟩
 rw[Ag N];refine aY ?_;have hp:=pM s (lo:=k) (hi:=s.size) N N;refine aJ.mono (CQ _ _) ?_;rintro v C ⟨⟨b,rfl,hb2⟩,rfl⟩;refine aY ?_;refine dL (λhb=>?_) λhb=>?_
 .have hl:2<=(Go.Ae.part s k s.size).size:=by
   obtain⟨r,R⟩:=hb2 hb;have h:=dV gz R;have e1:(Go.Ae.part s k s.size).data.toList.length=(Go.Ae.part s k s.size).size:=rfl;rw[e1,aQ]at h;have e2:(cz #[45,62]).data.toList.length=2:=rfl;omega
  rw[fA N N];refine d_ ?_;refine G.jE λHn G=>?_;refine G.jE λHn G=>?_;refine rr ?_;refine d_ ?_;exact⟨⟨_,0,0,O,⟨_,_,_,_,_,O,_,_,_,O⟩,λ_=>⟨15,k,k+2,_,_,rfl,N,N,N,bg _,iF.nil _ _ _⟩⟩,G.ext⟩
 refine aJ.mono (Gx _) ?_;rintro v C ⟨⟨kd,b,rfl⟩,rfl⟩;refine G.kK ?_;cases b with
 |false=>
  refine(show∀{A vn:Prop},A->BI (Z !aA) A vn fromλh=>h)<|d_ ?_;refine G.jE λHn G=>?_;refine G.jE λHn G=>?_;refine rr ?_;refine d_ ?_;exact⟨⟨_,_,k,O,⟨_,0,0,_,_,O,_,_,_,O⟩,λh=>by cases h⟩,G.ext⟩
 |true=>
  refine(show∀{A vn:Prop},vn->BI (Z !f) A vn fromλh=>h) ?_;rw[fA N N];refine d_ ?_;refine G.jE λHn G=>?_;refine G.jE λHn G=>?_;refine rr ?_;refine d_ ?_;exact⟨⟨_,0,0,O,⟨_,_,_,_,_,O,_,_,_,O⟩,λ_=>⟨kd,k,k+1,_,_,rfl,N,N,N,bg _,iF.nil _ _ _⟩⟩,G.ext⟩
def Tk(b:Nat)(H:F)(l:List D):Prop:=∃(kd:Int)(a e:Nat)(t:ByteArray)(rs:D),l=[vi kd,B a,B e,.string t,rs]/\a<=20000/\t.size<=1000000/\iF b 20000 H rs
def Tk.st{S:List Nat}(h:Tk b H l)(J:oz S H C)(G:∀q∈S,q<b\/¬yw H q 331)(hb:b'<=b):Tk b' C l:=by
 obtain⟨kd,a,e,t,rs,Q,I,h3,h4⟩:=h;exact⟨kd,a,e,t,rs,Q,I,h3,(h4.stay J G).le (az _) hb⟩
def Ti(b:Nat)(H:F)(a:Option Addr)(n:Nat)(E:List D):Prop:=i_ (b<=·) 221 H a n 5 E/\1<=n/\n<=20001/\(∀i,i<n->Tk b H (El E 5 i))/\E[(n-1)*5]?=Z (vi 0)
def Ti.st{S:List Nat}{n:Nat}(h:Ti b H a n E)(J:oz S H C)(G:∀q∈S,q<b\/¬yw H q 331/\¬yw H q 221)(hb:b'<=b):Ti b' C a n E:=
 ⟨(h.1.stay J λq hq=>(G q hq).imp dP (·.2)).le hb,h.2.1,h.2.2.1,λi hi=>(h.2.2.2.1 i hi).st J (λq hq=>(G q hq).imp_right (·.1)) hb,h.2.2.2.2⟩
abbrev agV(b:Nat)(v:D)(C:F):Prop:=∃(ts:D)(cd e:Int),v=.tuple ⟨[ts,.agg ⟨[vi cd,vi e]⟩]⟩/\(ts=T W 0 0\/∃a n c,ts=T (Z a) n c)/\(cd=0->∃a n c E,ts=T a n c/\Ti b C a n E)
def Bv{xs:List D}{n:Nat}(hl:E.length=n*es)(J:xs.length=es):(∀i,i<n->El (E++xs) es i=El E es i)/\El (E++xs) es n=xs:=by
 constructor
 .intro i hi;have Q:(i+1)*es<=n*es:=eU es hi;rw[gM]at Q;apply gX;intro j;rw[mG,mG];split
  .rw[bJ N]
  .rfl
 .unfold El;rw[<-hl,List.drop_left,cK N]
theorem QB(hw:Wf H)(hT:Bt H)(s:ByteArray):aJ Pg X 117 [.string s] H (Q1 (agV H.next) H):=by
 have G:=M.refl hw;refine ce [0,2,3,4,5,6,7] ?_;refine tl ?_;refine G.iZ λHn rs G=>?_;refine aY ?_;refine aC (λy=>?_) λy=>?_
 .refine d_ ?_;refine G.jE λHn G=>rr ?_;exact G.iK<|⟨⟨_,3,0,O,.inl O,λh=>by cases h⟩,G.ext⟩
 have hs:s.size<=20000:=by omega
 refine aJ.mono (Am s 0 N N) ?_;rintro v C ⟨⟨k,rfl,hk0,hk1⟩,rfl⟩;refine Vx 2 4 5 6 7 (h2:=λm x2 x4 x5 x6 x7 C=>∃(k n:Nat)(E:List D)(gb:List dJ),x2=T W 0 0/\x5=B k/\k+m=s.size/\GB 221 5 x4 E gb/\E.length=n*5/\n<=k/\(∀i,i<n->Tk H.next C (El E 5 i))/\M [] H C ((rs,173,[vi 0,vi 0])::(gb++[]))) ?_ (s.size-k) ⟨k,0,[],[],rfl,rfl,N,GB.nil _ _,rfl,N,(λi h=>absurd h N),G⟩;clear G;rintro m x2 x4 x5 x6 x7 u C ⟨k,n,E,gb,rfl,rfl,hk,hg,hcl,hnk,htk,G⟩;refine tp ?_;have hge:=G.ext.next
 refine aC (λy=>?_) λy=>?_;rotate_left
 .refine tp ?_;refine PU.b5 O ?_;have htn:=G.IG (ty:=331) (by simp[hg.all]);have hS0:=G;have G:=hS0.base;refine G.bS O O O N λH1 rx G=>?_;have G:M _ C H1 ((rx,221,[vi 0,B s.size,B s.size,.string<|cz #[],T W 0 0])::(gb++[(rs,173,[vi 0,vi 0])])):=G.perm<|dQ _<|ML _ _;refine hg.add G N O O N λv' H3 gT hg' hS' J=>?_;have hE:=Bv (es:=5) (n:=n) hcl (xs:=[vi 0,B s.size,B s.size,.string<|cz #[],T W 0 0]) O;have G:=hS'.perm<|aF (l₂:=[_]);simp only[bE,bK]at G;refine d_ ?_;refine G.jE λHn G=>?_;have hS2:=(hS0.over G).perm<|rZ<|aF (l₂:=[_]);obtain⟨a,n',c,rfl,hn',hf⟩:=hg'.Rw hS2;have hn1:n'=n+1:=by rw[aQ,hcl]at hn';simp at hn';omega
  subst hn1;refine rr ?_;refine G.iK<|⟨⟨_,0,0,O,?_,λ_=>⟨a,n+1,c,_,rfl,hf,N,N,?_,?_⟩⟩,hS2.ext⟩
  .cases a with
   |none=>
    obtain⟨_,_,h,_⟩:=hf.1.2 0 _<|au (by rw[hf.1.1];omega);cases h
   |some a=>exact .inr ⟨a,_,_,O⟩
  .intro i hi;rcases bZ i n with h|h
   .rw[hE.1 i h];exact(htk i h).st G.ext (λq hq=>.inr<|htn q hq)<|az _
   .have:i=n:=by omega
    subst this;rw[hE.2];exact⟨0,s.size,s.size,_,_,O,hs,bg _,iF.nil _ _ _⟩
  .rw[kW,<-hcl,dS<|az _,ja];rfl
 refine aJ.mono (abf G.wf (hT.ex G.ext) s k N hs) ?_;rintro v H3 ⟨⟨tok,cd,e,rfl,⟨kd,a,e',t,rsv,rfl,xa,xn,xc,rfl⟩,hto⟩,J⟩;have htn:=G.IG (ty:=331) (by simp[hg.all]);have hlt:=G.lt;have hS0:=G.call J;have G:=hS0.base;refine G.kK ?_;refine G.iZ λHn r8 G=>G.iZ λHn r10 G=>?_;refine G.kK ?_;refine G.jE λHn G=>?_;refine G.jE λHn G=>?_;refine d_ ?_;refine bT (λhz=>?_) λhz=>?_
 .refine d_ ?_;refine G.lW λHn G=>?_;simp only[eG,fT];apply lX (a:=r10) (b:=rs) (G.nq 0 2 O O N) (by intros;rfl) (by kernel_rfl) (by kernel_rfl);refine rr ?_;exact G.iK<|⟨⟨_,cd,e,O,.inl O,λh=>absurd h hz⟩,(hS0.over G).ext⟩
 obtain⟨kd',a',e2,t',rs',he,h3,h4,h5,h6,h7⟩:=hto hz;simp only[Value.agg.injEq,Array.mk.injEq,List.cons.injEq,xw]at he;obtain⟨e_1,e_2,e_3,e_4,e_5⟩:=he;have:e'=e2:=by injection e_3 with _ h;omega
 subst this;have:a=a':=by injection e_2 with _ h;omega
 subst this;have:t=t':=by injection e_4
 subst this;subst e_5;refine G.iK<|G.bS O O O N λH4 rx G=>?_;have G:=G.to (cs':=[vi kd,B a,B e',.string t,T xa xn xc]) O;have G:=G.perm (L':=(rx,221,[vi kd,B a,B e',.string t,T xa xn xc])::(gb++[_,_,_]))<|dQ _<|aiw _ _ _ _;refine hg.add G N O O N λv' H5 gT hg' hS' hx'=>?_;have hE:=Bv (es:=5) (n:=n) hcl (xs:=[vi kd,B a,B e',.string t,T xa xn xc]) O;have G:=hS'.perm<|aF (l₂:=[_,_,_]);simp only[bE,bK]at G;refine G.oF<|aJ.mono (Am s e' N N) ?_;rintro v C ⟨⟨k2,rfl,hk2,hk3⟩,rfl⟩;have hS2:=(hS0.over G);refine⟨s.size-k2,N,_,_,_,_,_,_,_,O,k2,n+1,_,gT,O,O,N,hg',by rw[aQ,hcl];simp;omega,N,?_,?_⟩
 .intro i hi;rcases bZ i n with h|h
  .rw[hE.1 i h];exact((htk i h).st J (λq h=>nomatch h)<|az _).st G.ext (λq hq=>.inr λht=>htn q hq<|ht.jf (J.obj q (hlt q hq)<|by simp).symm)<|az _
  .have:i=n:=by omega
   subst this;rw[hE.2];exact⟨kd,a,e',t,_,O,N,h6,(h7.stay G.ext λq hq=>.inl<|hlt q hq).le (az _) hge⟩
 .exact M.drop (A:=[_,_]) (by simpa using hS2)
section
variable{S:List Nat}{ax:Nat->Prop}
abbrev pr(r:Nat):D:=.pointer<|Z ⟨r,0,W⟩
structure RC where
 (rt ra rp rr:Nat)(a:Option Addr)(n c:Nat)(E:List D)(nu:Nat)
abbrev oW(rt ra:Nat):D:=.func (.func 118) ⟨[]⟩ ⟨[pr rt,pr ra]⟩
abbrev x_(rp ra rt:Nat):D:=.func (.func 119) ⟨[]⟩ ⟨[pr rp,pr ra,pr rt]⟩
def RuC(l:List D):Prop:=∃(nm:ByteArray)(rg av w:Bool)(ch root at':Int),l=[.string nm,.bool rg,.bool av,.bool w,vi ch,vi root,vi at']/\nm.size<=1000000
def NoC(ax:Nat->Prop)(H:F)(l:List D):Prop:=∃(kd:Int)(a:Option Addr)(n c:Nat)(ks:List D)(t:ByteArray)(rs:D)(at':Int),l=[vi kd,T a n c,.string t,rs,vi at']/\i_ ax 3 H a n 1 ks/\n<=20001/\(∀x∈ks,∃z:Int,x=vi z)/\t.size<=1000000/\iF 0 20001 H rs
def NoC.st(h:NoC ax H l)(J:oz S H C)(G:∀q∈S,(¬ax q\/¬yw H q 3)/\¬yw H q 331):NoC ax C l:=by
 obtain⟨kd,a,n,c,ks,t,rs,at',Q,I,h3,h4,h5,h6⟩:=h;exact⟨kd,a,n,c,ks,t,rs,at',Q,I.stay J λq hq=>(G q hq).1,h3,h4,h5,h6.stay J λq hq=>.inr (G q hq).2⟩
def Rd(ax:Nat->Prop)(q:RC)(k:Nat)(H:F)(SH:List dJ):Prop:=∃rv rcs gr nv iH gn sc sa nr nn,
 SH=(q.rt,215,[T q.a q.n q.c])::(q.ra,3,[B k])::(q.rp,222,[oW q.rt q.ra])::(q.rr,226,[oW q.rt q.ra,x_ q.rp q.ra q.rt,rv,nv,vi sc,vi sa])::(gr++gn)/\
 k<q.n/\Ti 0 H q.a q.n q.E/\GB 234 7 rv rcs gr/\rcs.length=nr*7/\nr=q.nu/\(∀i,i<nr->RuC (El rcs 7 i))/\GB 238 5 nv iH gn/\iH.length=nn*5/\nn<=4000/\(∀i,i<nn->NoC ax H (El iH 5 i))/\¬ax q.ra
def Rd.le{q:RC}(h:Rd ax q k H SH):k<q.n/\q.n<=20001:=by
 obtain⟨rv,rcs,gr,nv,iH,gn,sc,sa,nr,nn,_,Q,I,_⟩:=h;exact⟨Q,I.2.2.1⟩
def NoC.wk(h:NoC ax H l)(hF:∀r,r<H.next->ax r->F' r):NoC F' H l:=by
 obtain⟨kd,a,n,c,ks,t,rs,at',Q,I,h3⟩:=h;exact⟨kd,a,n,c,ks,t,rs,at',Q,⟨I.1,λr o e hn=>by obtain⟨g1,g2,g3⟩:=I.2 r o e hn;exact⟨hF r g2 g1,g2,g3⟩⟩,h3⟩
def Rd.wk{q:RC}(h:Rd ax q k H SH)(hF:∀r,r<H.next->ax r->F' r)(ha:¬F' q.ra):Rd F' q k H SH:=by
 obtain⟨rv,rcs,gr,nv,iH,gn,sc,sa,nr,nn,h0,Q,I,h3,h4,h5,h6,h7,h8,h9,h10,B5⟩:=h;exact⟨rv,rcs,gr,nv,iH,gn,sc,sa,nr,nn,h0,Q,I,h3,h4,h5,h6,h7,h8,h9,λi hi=>(h10 i hi).wk hF,ha⟩
def Rd.ex{q:RC}(h:Rd ax q k H SH)(J:Ext H C):Rd ax q k C SH:=by
 obtain⟨rv,rcs,gr,nv,iH,gn,sc,sa,nr,nn,h0,Q,I,h3,h4,h5,h6,h7,h8,h9,h10,B5⟩:=h;exact⟨rv,rcs,gr,nv,iH,gn,sc,sa,nr,nn,h0,Q,I.st J (λ_ h=>nomatch h)<|az _,h3,h4,h5,h6,h7,h8,h9,λi hi=>(h10 i hi).st J (λ_ h=>nomatch h),B5⟩
def Rd.ty{q:RC}(h:Rd ax q k H SH)(G:M S H0 H<|SH++L):∀r∈SH.map (·.1),(r=q.ra\/¬yw H r 3)/\¬yw H r 331/\¬yw H r 221:=by
 obtain⟨rv,rcs,gr,nv,iH,gn,sc,sa,nr,nn,rfl,Q,I,h3,h4,h5,h6,h7,h8,h9,h10,B5⟩:=h;intro r R;obtain⟨e,he,rfl⟩:=bQ.1 R;have hb:=(G.bk e<|cZ _ he).HZ
 have key:e.1=q.ra\/(e.2.1≠3/\e.2.1≠331/\e.2.1≠221)\/e.2.1=3/\e.1=q.ra:=by
  simp only[bM,bX]at he;rcases he with rfl|rfl|rfl|rfl|he|he
  .exact .inr<|.inl ⟨(show(215:Nat)≠3 by decide),(show(215:Nat)≠331 by decide),(show(215:Nat)≠221 by decide)⟩
  .exact .inl O
  .exact .inr<|.inl ⟨(show(222:Nat)≠3 by decide),(show(222:Nat)≠331 by decide),(show(222:Nat)≠221 by decide)⟩
  .exact .inr<|.inl ⟨(show(226:Nat)≠3 by decide),(show(226:Nat)≠331 by decide),(show(226:Nat)≠221 by decide)⟩
  .refine .inr (.inl ?_);rcases h3 with⟨_,_,rfl⟩|⟨_,_,_,_,_,rfl⟩
   .cases he
   .rw[aO]at he;subst he;exact⟨(show(234:Nat)≠3 by decide),(show(234:Nat)≠331 by decide),(show(234:Nat)≠221 by decide)⟩
  .refine .inr (.inl ?_);rcases h7 with⟨_,_,rfl⟩|⟨_,_,_,_,_,rfl⟩
   .cases he
   .rw[aO]at he;subst he;exact⟨(show(238:Nat)≠3 by decide),(show(238:Nat)≠331 by decide),(show(238:Nat)≠221 by decide)⟩
 have ra3:e.1=q.ra->e.2.1=3:=by
  intro e1;have hra:yw H q.ra 3:=(G.bk (q.ra,3,[B k])<|cZ _<|by simp).HZ;rw[e1]at hb;exact hb.one hra
 have far:e.1=q.ra->¬yw H e.1 331/\¬yw H e.1 221:=λh=>by
  rw[ra3 h]at hb;exact⟨λht=>(by have:=hb.one ht;cases this),λht=>(by have:=hb.one ht;cases this)⟩
 rcases key with h|⟨h,h',h''⟩|⟨_,h⟩
 .exact⟨.inl h,far h⟩
 .exact⟨.inr λht=>h<|hb.one ht,λht=>h'<|hb.one ht,λht=>h''<|hb.one ht⟩
 .exact⟨.inl h,far h⟩
def Rd.on{q:RC}(h:Rd ax q k H SH)(G:M S H0 H<|SH++L)(J:oz (SH.map (·.1)) H C):Rd ax q k C SH:=by
 have hty:=h.ty G;obtain⟨rv,rcs,gr,nv,iH,gn,sc,sa,nr,nn,h0,Q,I,h3,h4,h5,h6,h7,h8,h9,h10,B5⟩:=h;exact⟨rv,rcs,gr,nv,iH,gn,sc,sa,nr,nn,h0,Q,I.st J (λr R=>.inr (hty r R).2)<|az _,h3,h4,h5,h6,h7,h8,h9,λi hi=>(h10 i hi).st J λr R=>⟨(hty r R).1.imp_left (λe=>by rw[e];exact B5),(hty r R).2.1⟩,B5⟩
def Ti.get{n:Nat}(h:Ti b H a n E)(hi:i<n):∃(kd:Int)(at' e:Nat)(t:ByteArray)(xa:Option Addr)(xn xc:Nat),El E 5 i=[vi kd,B at',B e,.string t,T xa xn xc]/\at'<=20000/\t.size<=1000000/\iF b 20000 H (T xa xn xc)/\(i=n-1->kd=0):=by
 obtain⟨kd,at',e,t,rs,Q,I,h3,h4⟩:=h.2.2.2.1 i hi;obtain⟨xa,xn,xc,xcs,rfl,h5⟩:=id h4;refine⟨kd,at',e,t,xa,xn,xc,Q,I,h3,h4,λe'=>?_⟩;subst e';have h6:=h.2.2.2.2;have h7:=mG E 5 (n-1) 0;rw[if_pos N,Q,dD,h6]at h7;simpa using dH h7
theorem abg{q:RC}(hR:Rd ax q k H SH)(G:M S H0 H<|SH++L)(j:Nat)(hj:j<=1000):aJ Pg X 118 [B j,pr q.rt,pr q.ra] H (Q1 (λv _=>v=.agg ⟨El q.E 5<|min (k+j)<|q.n-1⟩) H):=by
 have hkn:=hR.le;obtain⟨rv,rcs,gr,nv,iH,gn,sc,sa,nr,nn,rfl,Q,I,_⟩:=hR;have bt:=G.get 0 O;have ba:=G.get 1 O;have lt:=(G.lo _<|aR (i:=0) O).2;have la:=(G.lo _<|aR (i:=1) O).2;have G:=M.refl G.wf;refine ce [0,1,2,4] ?_;refine tl ?_;refine G.iZ λHn rb G=>?_;refine G.Ay (bt.cell (o:=0) O) lt ?_;refine G.Ay (ba.cell (o:=0) O) la ?_;refine dU ?_;refine G.Ay (bt.cell (o:=0) O) lt ?_;refine aY ?_;refine qX ?_;refine aY ?_;rw[show min ((k:Int)+(j:Int)) ((q.n:Int)-1)=((min (k+j) (q.n-1):Nat):Int) by omega];obtain⟨r,o,e,R,hrd,hel,o0,_⟩:=I.1.1.read N (show min (k+j) (q.n-1)<q.n by omega) q.c;rw[e];refine aY ?_;obtain⟨kd,at',e',t,xa,xn,xc,he,_⟩:=I.get (i:=min (k+j)<|q.n-1) N;rw[he]at hrd;rw[he];refine G.zP hrd R<|G.jE λHn G=>rr ?_;exact G.iK<|⟨O,G.ext⟩
def Rd.Ol{q:RC}(hR:Rd ax q k H SH)(G:M S H0 H<|SH++L)(j:Nat)(hj:j<=1000)(h:∀C,Rd ax q k C SH->M S H0 C (SH++L)->Ext H C->K (oW q.rt q.ra) (.agg ⟨El q.E 5<|min (k+j)<|q.n-1⟩) C):ME (uP W (.pointer<|Z ⟨q.rr,0,W⟩) H) λv H1=>nJ Pg X (Ls v) [B j] H1 (K v):=by
 have hR0:=hR;obtain⟨rv,rcs,gr,nv,iH,gn,sc,sa,nr,nn,rfl,_⟩:=hR;refine G.ld 3 O O ?_;show aJ Pg X 118 [B j,pr q.rt,pr q.ra] H<|K _;refine aJ.mono (abg hR0 G j hj) ?_;rintro v C ⟨rfl,J⟩;exact h C (hR0.ex J) (G.call J) J
def aju{q:RC}(hR:Rd ax q k H SH)(G:M S H0 H<|SH++L):aJ Pg X 119 [pr q.rp,pr q.ra,pr q.rt] H λv C=>v=.agg ⟨El q.E 5 k⟩/\∃M',Rd ax q (min (k+1)<|q.n-1) C M'/\M (SH.map (·.1)) H C M':=by
 have hkn:=hR.le;have hR0:=hR;have hS0:=G;have G:=G.own;obtain⟨rv,rcs,gr,nv,iH,gn,sc,sa,nr,nn,rfl,Q,I,h3,h4,h5,h6,h7,h8,h9,h10,B5⟩:=hR;obtain⟨kd,at',e',t,xa,xn,xc,he,_⟩:=I.get (i:=k) Q;refine ce [0,1,2,3,4] ?_;refine tl ?_;refine G.iZ λH1 rb G=>?_;refine G.oF ?_;show aJ Pg X 118 [B 0,pr q.rt,pr q.ra] H1 _;have hS':=G.perm<|aF (l₁:=[_]);refine aJ.mono (abg (hR0.on hS0 G.ext) hS' 0 N) ?_;rintro v H2 ⟨rfl,J⟩;rw[show min (k+0) (q.n-1)=k by omega,he];have G:=G.call J;refine G.iZ λH1 r8 G=>?_;refine G.jE λHn G=>?_;refine G.oF ?_;rw[fA N N];refine d_ ?_;rw[nW N N];refine G.kK ?_;refine G.jE λHn G=>?_;refine G.iK ?_;refine G.jE λHn G=>?_;rw[show min ((k:Int)+1) ((q.n:Int)-1)=((min (k+1) (q.n-1):Nat):Int) by omega]at G;refine rr ?_;refine d_ ?_;refine⟨O,(q.rt,215,[T q.a q.n q.c])::(q.ra,3,[B (min (k+1)<|q.n-1)])::(q.rp,222,[oW q.rt q.ra])::(q.rr,226,[oW q.rt q.ra,x_ q.rp q.ra q.rt,rv,nv,vi sc,vi sa])::(gr++gn),?_,M.drop (A:=[_,_]) G⟩;have zI:=hR0.on hS0 G.ext;obtain⟨rv',ajv,gr',nv',ajw,gn',sc',sa',nr',nn',e0,g1,g2,_⟩:=zI;refine⟨rv,rcs,gr,nv,iH,gn,sc,sa,nr,nn,O,N,g2,h3,h4,h5,h6,h7,h8,h9,λi hi=>(h10 i hi).st G.ext λr R=>?_,B5⟩;have:=hR0.ty hS0 r R;exact⟨this.1.imp_left (λe=>by rw[e];exact B5),this.2.1⟩
def Rd.next{q:RC}(hR:Rd ax q k H SH)(G:M S H0 H<|SH++L)(h:∀C M',Rd ax q (min (k+1)<|q.n-1) C M'->M S H0 C (M'++L)->M (SH.map (·.1)) H C M'->K (x_ q.rp q.ra q.rt) (.agg ⟨El q.E 5 k⟩) C):ME (uP W (.pointer<|Z ⟨q.rr,1,W⟩) H) λv H1=>nJ Pg X (Ls v) [] H1 (K v):=by
 have hR0:=hR;obtain⟨rv,rcs,gr,nv,iH,gn,sc,sa,nr,nn,rfl,_⟩:=hR;refine G.ld 3 O O ?_;show aJ Pg X 119 [pr q.rp,pr q.ra,pr q.rt] H<|K _;refine aJ.mono (aju hR0 G) ?_;rintro v C ⟨rfl,M',hR',hS'⟩;exact h C M' hR' (G.frame hS') hS'
def Ao{q:RC}(hR:Rd ax q k H SH)(G:M S H0 H<|SH++L)(cd at':Int):aJ Pg X 144 [pr q.rr,vi cd,vi at'] H λv C=>v=.bool aA/\∃M',Rd ax q k C M'/\M (SH.map (·.1)) H C M':=by
 have hR0:=hR;have hS0:=G;have G:=G.own;obtain⟨rv,rcs,gr,nv,iH,gn,sc,sa,nr,nn,rfl,Q,I,h3,h4,h5,h6,h7,h8,h9,h10,B5⟩:=hR;refine ce [0,1,2,6] ?_;refine tm ?_;refine G.jE λHn G=>rr ?_;refine⟨O,(q.rt,215,[T q.a q.n q.c])::(q.ra,3,[B k])::(q.rp,222,[oW q.rt q.ra])::(q.rr,226,[oW q.rt q.ra,x_ q.rp q.ra q.rt,rv,nv,vi cd,vi at'])::(gr++gn),?_,G⟩;have zI:=hR0.on hS0 G.ext;obtain⟨rv',ajv,gr',nv',ajw,gn',sc',sa',nr',nn',e0,g1,g2,_⟩:=zI;refine⟨rv,rcs,gr,nv,iH,gn,cd,at',nr,nn,O,Q,g2,h3,h4,h5,h6,h7,h8,h9,λi hi=>(h10 i hi).st G.ext λr R=>?_,B5⟩;have:=hR0.ty hS0 r R;exact⟨this.1.imp_left (λe=>by rw[e];exact B5),this.2.1⟩
def Ky{q:RC}(hR:Rd ax q k H SH)(G:M S H0 H<|SH++L):aJ Pg X 143 [pr q.rr] H λv C=>v=.bool aA/\∃M',Rd ax q k C M'/\M (SH.map (·.1)) H C M':=by
 have hkn:=hR.le;have hS0:=G;have G:=G.own;refine ce [0,2,3] ?_;refine tp ?_;have hS1:M (SH.map (·.1)) H H (SH++[]):=by rw[a_];exact G
 refine hR.Ol hS1 0 N λH1 zI hS1 hx1=>?_
 obtain⟨kd,at',e',t,xa,xn,xc,he,_⟩:∃(kd:Int)(at' e:Nat)(t:ByteArray)(xa:Option Addr)(xn xc:Nat),El q.E 5 (min (k+0)<|q.n-1)=[vi kd,B at',B e,.string t,T xa xn xc]/\True:=by
  obtain⟨_,_,_,_,_,_,_,_,_,_,_,_,I,_⟩:=hR;obtain⟨kd,at',e',t,xa,xn,xc,he,_⟩:=I.get (i:=min (k+0)<|q.n-1) N;exact⟨kd,at',e',t,xa,xn,xc,he,trivial⟩
 rw[he];have G:=hS1.perm aF;simp only[bK]at G;refine G.iZ λH2 rb G=>?_;refine G.kK ?_;refine G.jE λHn G=>?_;refine d_ ?_;have hx2:=G.ext;have hS2:=G.perm<|aF (l₁:=[_]);have hR2:=hR.on hS0 hx2;refine aC (λy=>?_) λy=>?_
 .refine G.oF ?_;refine aJ.mono (Ao hR2 hS2 _ _) ?_;rintro v H3 ⟨rfl,M',Ew,rQ⟩;refine rr ?_;refine⟨O,M',Ew,?_⟩;exact M.drop (A:=[_])<|(hS2.frame rQ).perm aF
 .refine G.oF ?_;refine aJ.mono (Ao hR2 hS2 _ _) ?_;rintro v H3 ⟨rfl,M',Ew,rQ⟩;refine rr ?_;refine⟨O,M',Ew,?_⟩;exact M.drop (A:=[_])<|(hS2.frame rQ).perm aF
end
variable{q:RC}
section
variable{S:List Nat}{ax:Nat->Prop}
def Rd.tok(hR:Rd ax q k H SH)(hi:i<q.n):∃(kd:Int)(at' e:Nat)(t:ByteArray)(xa:Option Addr)(xn xc:Nat),El q.E 5 i=[vi kd,B at',B e,.string t,T xa xn xc]/\at'<=20000/\t.size<=1000000/\iF 0 20000 H (T xa xn xc)/\(i=q.n-1->kd=0):=by
 obtain⟨_,_,_,_,_,_,_,_,_,_,_,_,I,_⟩:=hR;exact I.get hi
def Ey(x:D)(l:List D):agF W 0 (.agg ⟨x::l⟩)=Z x:=rfl
def Tj(x hc:D)(l:List D):agF W 1 (.agg ⟨x::hc::l⟩)=Z hc:=rfl
def Gz(hR:Rd ax q k H SH)(G:M S H0 H<|SH++L)(kd:Int)(hkd:kd≠0):aJ Pg X 145 [pr q.rr,vi kd] H λv C=>∃(b:Bool)(k':Nat)(M':List dJ),v=.bool b/\Rd ax q k' C M'/\M (SH.map (·.1)) H C M'/\k<=k'/\(b=f->k'=k+1):=by
 have hkn:=hR.le;have hS0:=G;have G:=G.own;refine ce [0,1,4] ?_;refine tp ?_;have hS1:M (SH.map (·.1)) H H (SH++[]):=by rw[a_];exact G
 refine hR.Ol hS1 0 N λH1 zI hS1 hx1=>?_;rw[show min (k+0) (q.n-1)=k by omega];obtain⟨kd',at',e',t,xa,xn,xc,he,_,_,_,hz⟩:=zI.tok hkn.1;rw[he,Ey];refine aY ?_;refine bT (λy=>?_) λy=>?_
 .refine aJ.mono (Ky zI hS1) ?_;rintro v H3 ⟨rfl,M',Ew,rQ⟩;refine rr ?_;refine⟨aA,k,M',O,Ew,?_,az _,λh=>by cases h⟩;have:=hS1.frame rQ
  rwa [a_]at this
 .refine zI.next hS1 λH2 M' hR2 hS2 hx2=>?_
  refine rr ?_;refine⟨f,_,M',O,hR2,?_,N,λ_=>?_⟩
  .rwa [a_]at hS2
  .have:k≠q.n-1:=λh=>hkd (by rw[<-y];exact hz h);omega
def Ez(hw:Wf H)(kd:Int)(a e:D)(t x:D)(h:pK (.agg ⟨[vi kd,a,e,t,x]⟩)=f):aJ Pg X 142 [.agg ⟨[vi kd,a,e,t,x]⟩] H (Q1 (λv _=>v=.bool (decide (kd=1)||decide (kd=2))) H):=by
 have G:=M.refl hw;refine ce [0,1,2] ?_;refine tl ?_;refine G.box h λH1 r G=>?_;refine d_ ?_;refine aC (λy=>?_) λy=>?_
 .refine rr ?_;refine⟨?_,G.ext⟩;rw[bG y];rfl
 .refine d_ ?_;refine rr ?_;refine⟨?_,G.ext⟩;rw[dn y];rfl
def QC(hw:Wf H)(kd:Int)(a e:D)(t x:D)(h:pK (.agg ⟨[vi kd,a,e,t,x]⟩)=f):aJ Pg X 204 [.agg ⟨[vi kd,a,e,t,x]⟩] H (Q1 (λv _=>∃b:Bool,v=.bool b/\(b=f->kd≠0)) H):=by
 have G:=M.refl hw;refine ce [0,1,2,4] ?_;refine tl ?_;refine G.box h λH1 r G=>?_;refine d_ ?_;refine aC (λy=>?_) λy=>?_
 .rw[bG y];refine G.kK ?_;refine rr ?_;exact⟨⟨f,O,λ_=>by omega⟩,G.ext⟩
 refine aC (λy=>?_) λy=>?_
 .rw[bG y];refine G.kK ?_;refine rr ?_;exact⟨⟨f,O,λ_=>by omega⟩,G.ext⟩
 refine aC (λy=>?_) λy=>?_
 .rw[bG y];refine G.kK ?_;refine rr ?_;exact⟨⟨f,O,λ_=>by omega⟩,G.ext⟩
 refine aC (λy=>?_) λy=>?_
 .rw[bG y];refine G.kK ?_;refine rr ?_;exact⟨⟨f,O,λ_=>by omega⟩,G.ext⟩
 refine aC (λy=>?_) λy=>?_
 .rw[bG y];refine G.kK ?_;refine rr ?_;exact⟨⟨f,O,λ_=>by omega⟩,G.ext⟩
 refine aC (λy=>?_) λy=>?_
 .rw[bG y];refine G.kK ?_;refine rr ?_;exact⟨⟨f,O,λ_=>by omega⟩,G.ext⟩
 refine aC (λy=>?_) λy=>?_
 .refine rr ?_;exact⟨⟨f,O,λ_=>by omega⟩,G.ext⟩
 .refine rr ?_;exact⟨⟨aA,O,λh=>by cases h⟩,G.ext⟩
def NoV(ax:Nat->Prop)(H:F)(v:D):Prop:=∃l,v=.agg ⟨l⟩/\NoC ax H l
def GB.two{ty:aG}(hg:GB ty es v E gb):fB v=f/\bI v=[v]:=by
 rcases hg with⟨rfl,_,_⟩|⟨r,n,dY,rfl,_,_⟩<;>exact⟨O,O⟩
def CU(hR:Rd ax q k H SH)(G:M S H0 H<|SH++L)(hv:NoV ax H v)(at':Int):aJ Pg X 175 [pr q.rr,v,vi at'] H λw C=>∃(i:Nat)(b:Bool)(M':List dJ),w=.tuple ⟨[B i,.bool b]⟩/\i<4000/\Rd ax q k C M'/\M (SH.map (·.1)) H C M':=by
 have hR0:=hR;have hS0:=G;have G:=G.own;have hty:=hR.ty hS0;obtain⟨rv,rcs,gr,nv,iH,gn,sc,sa,nr,nn,rfl,Q,I,h3,h4,h5,h6,h7,h8,h9,h10,B5⟩:=hR;obtain⟨l,rfl,hno⟩:=hv;obtain⟨kd,ka,kn,kc,ks,t,rs,na,rfl,hk1,hk2,hk3,hk4,hk5⟩:=id hno;obtain⟨xa,xn,xc,xcs,rfl,Tm⟩:=id hk5
 obtain⟨na',nc,cc,rfl,hnl,hnf⟩:∃a n c,nv=T a n c/\iH.length=n*5/\True:=by
  rcases h7 with⟨rfl,rfl,_⟩|⟨r,n,dY,rfl,hn,_⟩
  .exact⟨_,_,_,O,by simp,trivial⟩
  .exact⟨_,_,_,O,hn,trivial⟩
 have hnn:nc=nn:=by omega
 subst hnn;refine ce [0,1,2,4,6,7] ?_;refine tl ?_;refine G.box O λH1 rb G=>?_;refine d_ ?_;refine aC (λy=>?_) λy=>?_
 .have hS2:=G.perm (aF (l₁:=[_]));refine aJ.mono (Ao (hR0.on hS0 G.ext) hS2 _ _) ?_;rintro v H3 ⟨rfl,M',Ew,rQ⟩;refine rr ?_;refine⟨0,aA,M',O,N,Ew,?_⟩;exact M.drop (A:=[_])<|(hS2.frame rQ).perm aF
 .have hlt:nc<4000:=by omega
  refine d_ ?_;refine G.Qa O O O N λH2 rx G sw=>?_;have G:=G.to (cs':=[vi kd,T ka kn kc,.string t,T xa xn xc,vi na]) O;have G:=G.perm (L':=(rx,238,[vi kd,T ka kn kc,.string t,T xa xn xc,vi na])::(gn++((rb,238,[vi kd,T ka kn kc,.string t,T xa xn xc,vi na])::(q.rt,215,[T q.a q.n q.c])::(q.ra,3,[B k])::(q.rp,222,[oW q.rt q.ra])::(q.rr,226,[oW q.rt q.ra,x_ q.rp q.ra q.rt,rv,T na' nc cc,vi sc,vi sa])::gr)))<|dQ _<|aF (l₁:=_::_::_::_::_::gr);refine h7.Gj G N O O N λv' H3 gn' hg' G hx' PD vk=>?_;have G:=G.perm<|aF (l₂:=_::_::_::_::_::gr);simp only[bE]at G
  obtain⟨va,vn',vc,rfl,hvl,_⟩:∃a n c,v'=T a n c/\(iH++[vi kd,T ka kn kc,.string t,T xa xn xc,vi na]).length=n*5/\True:=by
   rcases hg' with⟨_,h,_⟩|⟨r,n,dY,rfl,hn,_⟩
   .exact absurd h (by simp)
   .exact⟨_,_,_,O,hn,trivial⟩
  have hvn:vn'=nc+1:=by rw[aQ,hnl]at hvl;simp at hvl;omega
  subst hvn;refine G.lW λHn G=>?_;have hne:q.rr≠rb:=(G.nq 0 4 O O N).symm
  have hgo:∀K:Prop,K->jI (opsOf<|sub Fz [1,1,0]) [clS (.pointer<|Z ⟨q.rr,2+1,W⟩) (T va (nc+1) vc) (hM (hM H1 H2) H3) Hn,cl 0,cl 0,cl 0,Dq (hM H1 H2) H3,Lt H1 H2,clL 5 (.pointer<|Z ⟨rb,0,W⟩) H1<|hN H1,clL 1 (.pointer<|Z ⟨q.rr,2+1,W⟩) H1<|hN H1,cl 0,cl 0,cl 0,cl 0,cl 0]=f/\K:=by
   intro K hK;simp only[sw,eG,fT];generalize q.rr=rr at hne;rcases vk with e|e<;>rw[e]<;>apply lX (a:=rr) (b:=rb) hne (by intros;rfl) (by kernel_rfl) (by kernel_rfl) hK
  refine hgo _ ?_;refine d_ ?_;rw[nW N N];refine G.kK ?_;have J:=G.ext;refine rr ?_;refine⟨nc,f,(q.rt,215,[T q.a q.n q.c])::(q.ra,3,[B k])::(q.rp,222,[oW q.rt q.ra])::(q.rr,226,[oW q.rt q.ra,x_ q.rp q.ra q.rt,rv,T va (nc+1) vc,vi sc,vi sa])::(gr++gn'),?_,hlt,?_,M.drop (A:=[_]) G⟩
  .rw[show((nc+1:Nat):Int)-1=((nc:Nat):Int) by omega]
  .have zI:=hR0.on hS0 J;obtain⟨rv',ajv,gr',nv',ajw,ams,sc',sa',nr',nn',e0,g1,g2,_⟩:=zI;have hE:=Bv (es:=5) (n:=nc) hnl (xs:=[vi kd,T ka kn kc,.string t,T xa xn xc,vi na]) O;refine⟨rv,rcs,gr,_,_,gn',sc,sa,nr,nc+1,O,Q,g2,h3,h4,h5,h6,hg',hvl,N,λi hi=>?_,B5⟩;have hst:∀r∈((q.rt,215,[T q.a q.n q.c])::(q.ra,3,[B k])::(q.rp,222,[oW q.rt q.ra])::(q.rr,226,[oW q.rt q.ra,x_ q.rp q.ra q.rt,rv,T na' nc cc,vi sc,vi sa])::(gr++gn)).map (λe:dJ=>e.1),(¬ax r\/¬yw H r 3)/\¬yw H r 331:=λr R=>⟨(hty r R).1.imp_left (λe=>by rw[e];exact B5),(hty r R).2.1⟩;rcases bZ i nc with h|h
   .rw[hE.1 i h];exact(h10 i h).st J hst
   .obtain rfl:i=nc:=by omega
    rw[hE.2];exact hno.st J hst
end
section
variable{S:List Nat}
def abh(hw:Wf H)(hm:m<=900000)(hv:zH m H v):aJ Pg X 246 [v] H (Q1 (λv C=>iF H.next (m+1) C v) H):=by
 refine ce [0,2,3,4,6,8,9,10] ?_;refine tl ?_;refine aJ.mono (Eu hw N hv) ?_;rintro v H2 ⟨hv2,J⟩;obtain⟨a,n,c,E,rfl,hf,hn,hi⟩:=hv2;have hw2:=J.wf hw;have G:=M.refl hw2;have hnx:H.next<=H2.next:=J.next
 refine aY ?_;refine Oa 3 4 6 10 (h2:=λm x3 x4 x6 jh C=>∃(k:Nat)(ds:List D)(gb:List dJ)(z:Int),x4=.int .i32 z/\jh=B k/\k+m=n/\GB 331 2 x3 ds gb/\ds.length<=2*k/\LK ds/\M [] H2 C (gb++[])) ?_ n ⟨0,[],[],0,rfl,rfl,N,GB.nil _ _,by simp,(λx h=>nomatch h),G⟩;clear G;rintro m' x3 x4 x6 jh u C ⟨k,ds,gb,z,rfl,rfl,hk,hg,hdl,hds,G⟩;refine gJ.wC λK hK=>?_;refine tp ?_;refine aC (λy=>?_) λy=>?_
 .obtain⟨r,o,e,R,hrd,hel,_⟩:=hf.1.read N (show k<n by omega) c;rw[e];refine aY ?_;obtain⟨z1,z2,ez⟩:=QA hi (k:=k) (by rw[hf.1.1];omega);rw[ez]at hrd;refine G.zP hrd R<|G.iZ λH1 r1 G=>?_;refine G.kK ?_;refine G.jE λHn G=>?_;refine d_ ?_
  have nx:∀x3 ds gb u H4,GB 331 2 x3 ds gb->ds.length<=2*(k+1)->LK ds->M [] H2 H4 ((r1,331,[.int .i32 z1,.int .i32 z2])::(gb++[]))->
   gJ Pg X (sub BJ [1,1,1,0,1,0,0,1,1,0,0,1,1]) (Gv v (T W 0 0) x3 (.int .i32 z) (.pointer<|Z ⟨r1,0,W⟩) (T a n c) (B n) (B k) u H4) (rO 1<|sW Pg X (sub BJ [1,1,1,0,1,0,0,1,1,1]) K):=by
   intro x3 ds gb u H4 hg hdl hds G;subst hK;refine tm ?_;refine tl ?_;refine dU ?_;refine aY ?_;exact⟨m'-1,N,_,_,_,_,_,_,O,k+1,ds,gb,_,O,O,N,hg,N,hds,M.drop (A:=[_]) G⟩
  refine aC (λhd=>?_) λhd=>?_
  .refine d_ ?_;refine G.bS O O O N λH3 rx G=>?_;have G:=G.perm (L':=(rx,331,bI<|.agg ⟨[.int .i32 z,.int .i32<|nU .i32<|z1-1]⟩)::(gb++[(r1,331,[.int .i32 z1,.int .i32 z2])]))<|dQ _<|ML _ _;refine hg.add G N O O N λv' H4 gT hg' G hx'=>?_;exact nx _ _ _ _ _ hg' (by rw[aQ];show ds.length+2<=_;omega) (hds.app _ _)<|G.perm (ML _ _).symm
  .exact nx _ _ _ _ _ hg N hds G
 .have fin:∀v' ds gb H4,GB 331 2 v' ds gb->ds.length<=2*(n+1)->LK ds->M [] H2 H4 (gb++[])->∀K:D->F->Prop,(∀w H5,iF H.next (m+1) H5 w->Ext H H5->K w H5)->aJ Pg X 226 [v'] H4 K:=by
   intro v' ds gb H4 hg hdl hds G K hk;obtain⟨a',n',c',rfl,hn',hf'⟩:=hg.fl G;refine aJ.mono (Eu (KM:=m+1) G.wf N ⟨a',n',c',ds,O,hf',N,hds⟩) ?_;rintro w H5 ⟨hw5,hx5⟩;have:=G.ext.next
   exact hk w H5 (hw5.le (az _) N)<|(J.trans G.ext).trans hx5
  obtain rfl:k=n:=by omega
  subst hK;refine aY ?_;refine tp ?_;refine aC (λhd=>?_) λhd=>?_
  .refine d_ ?_;refine G.bS O O O N λH3 rx G=>?_;obtain⟨v',H4,gT,e,hg',G,_⟩:=hg.app (m:=0) (cx:=1) G N O O N N;refine ME.of e ?_;refine fin _ _ _ _ hg' (by rw[aQ];show ds.length+2<=_;omega) (hds.app _ _) G _ λw H5 Q I=>?_;refine rr ?_;exact ⟨Q,I⟩
  .refine fin _ _ _ _ hg N hds G _ λw H5 Q I=>?_;refine rr ?_;exact ⟨Q,I⟩
end
section
variable{S:List Nat}{ax:Nat->Prop}
def QD(ax:Nat->Prop)(q:RC)(SH:List dJ)(H:F)(k:Nat)(strict:Bool)(w:D)(C:F):Prop:=∃(i:Int)(b:Bool)(k':Nat)(M':List dJ),w=.tuple ⟨[vi i,.bool b]⟩/\Rd ax q k' C M'/\M (SH.map (·.1)) H C M'/\k<=k'/\(b=f->strict=f->k<k')
def adT(q:RC)(k:Nat):Prop:=∀(ax:Nat->Prop) H SH d,(∀r,H.next<=r->ax r)->Rd ax q k H SH->M (SH.map (·.1)) H H SH->d<=40->aJ Pg X 146 [pr q.rr,B d] H (QD ax q SH H k aA)
def adU(q:RC)(k:Nat):Prop:=∀(ax:Nat->Prop) H SH d,(∀r,H.next<=r->ax r)->Rd ax q k H SH->M (SH.map (·.1)) H H SH->d<=40->aJ Pg X 174 [pr q.rr,B d] H (QD ax q SH H k aA)
def adV(q:RC)(k:Nat):Prop:=∃(kd:Int)(l:List D),El q.E 5 k=vi kd::l/\kd≠0
def adW(q:RC)(k:Nat):Prop:=∀(ax:Nat->Prop) H SH d,(∀r,H.next<=r->ax r)->Rd ax q k H SH->M (SH.map (·.1)) H H SH->d<=40->adV q k->aJ Pg X 205 [pr q.rr,B d] H (QD ax q SH H k f)
def ajx(q:RC)(k:Nat):Prop:=∀(ax:Nat->Prop) H SH d,(∀r,H.next<=r->ax r)->Rd ax q k H SH->M (SH.map (·.1)) H H SH->d<=40->adV q k->aJ Pg X 227 [pr q.rr,B d] H (QD ax q SH H k f)
def adV.lt(h:adV q k)(hR:Rd ax q k H SH):k+1<q.n:=by
 obtain⟨kd,l,Q,I⟩:=h;have hk:=hR.le;obtain⟨kd',at',e,t,xa,xn,xc,h3,_,_,_,hz⟩:=hR.tok hk.1;rw[Q]at h3
 have:kd=kd':=by
  have:=(jA h3).1;injection this
 have:k≠q.n-1:=λe=>I (by rw[this];exact hz e);omega
def FH{rs:D}{at':Int}(ht:t.size<=1000000)(R:iF 0 20001 H rs):NoV ax H (.agg ⟨[vi kd,T W 0 0,.string t,rs,vi at']⟩):=
 ⟨_,rfl,kd,W,0,0,[],t,rs,at',rfl,i_.nil _ _ _ _ _,N,(λx h=>nomatch h),ht,R⟩
def Rd.n(h:Rd ax q k H SH):Rd ax q k (hN H) SH:=h
def M.nn(h:M S H H SH):M S (hN H) (hN H) SH:=h.xG
def agW(hRb:Rd ax q kb Hb Mb)(hSb:M (SH.map (·.1)) H Hb Mb)(hk:k<kb)(G:M (Mb.map (·.1)) Hb Hc<|Lx++Mb)(hv:NoV ax Hc v)(z:Int):
 aJ Pg X 175 [pr q.rr,v,vi z] Hc λw C=>∃(i:Int)(b:Bool),w=.tuple ⟨[vi i,.bool b]⟩/\QD ax q SH H k f w C:=by
 have hS2:=G.perm<|aF (l₁:=Lx);have agX:M (SH.map (·.1)) H Hb (Mb++[]):=by rw[a_];exact hSb
 refine aJ.mono (CU (hRb.on agX G.ext) hS2 hv z) ?_;rintro w H4 ⟨i,b,M3,rfl,_,Ew,rQ⟩;refine⟨i,b,O,i,b,kb,M3,O,Ew,?_,N,λ_ _=>hk⟩;exact hSb.over (by simpa using M.drop (A:=Lx) ((hS2.frame rQ).perm aF))
def afK(hRb:Rd ax q kb Hb Mb)(hSb:M (SH.map (·.1)) H Hb Mb)(hk:k<kb)(G:M (Mb.map (·.1)) Hb Hc<|Lx++Mb)(hv:NoV ax Hc v)(z:Int):
 aJ Pg X 175 [pr q.rr,v,vi z] (hN Hc) λw C=>∃(i:Int)(b:Bool),w=.tuple ⟨[vi i,.bool b]⟩/\QD ax q SH H k f w (hM Hc C):=by
 have hS2:=G.perm<|aF (l₁:=Lx);have agX:M (SH.map (·.1)) H Hb (Mb++[]):=by rw[a_];exact hSb
 refine aJ.mono (CU (hRb.on agX G.ext).n hS2.xG (v:=v) hv z) ?_;rintro w H4 ⟨i,b,M3,rfl,_,Ew,rQ⟩;refine⟨i,b,O,i,b,kb,M3,O,Ew,?_,N,λ_ _=>hk⟩;exact hSb.over (by simpa using M.drop (A:=Lx) ((hS2.aaj rQ).perm aF))
def NoV.n(h:NoV ax H v):NoV ax (hN H) v:=h
theorem adX(ih:∀k',k<k'->adT q k'):ajx q k:=by
 intro ax H SH d hF hR G hd hkd;have hlt:=hkd.lt hR;have hkn:=hR.le;obtain⟨kd,at',e',t,xa,xn,xc,he,ha2,ht,hrs,hz⟩:=hR.tok hkn.1
 have amt:kd≠0:=by
  obtain⟨kd',l,Q,I⟩:=hkd;rw[he]at Q;have:=(jA Q).1;injection this with _ h3
  omega
 have hty:=hR.ty (L:=[]) (by rw[a_];exact G);have ala:M (SH.map (·.1)) H H (SH++[]):=by rw[a_];exact G
 refine ce [0,1,4,5,6,7,8,9,16] ?_;refine tp ?_;refine hR.next ala λH1 M1 zI hS1 hx1=>?_
 rw[show min (k+1) (q.n-1)=k+1 by omega]at zI;rw[he];have alb:iF 0 20000 H1 (T xa xn xc):=hrs.stay hx1.ext λr R=>.inr (hty r R).2.1;have amu:=hx1;have alc:=zI.ty (L:=[]) hS1;have G:=hS1.own;refine G.iZ λH2 rb G=>G.jE λH3 G=>?_;have G:M (M1.map (·.1)) H1 H3 ((rb,221,[vi kd,B at',B e',.string t,T xa xn xc])::M1):=G;have drs:∀H3,oz (M1.map (·.1)) H1 H3->iF 0 20000 H3 (T xa xn xc):=λH3 J=>alb.stay J λr R=>.inr (alc r R).2.1;refine d_ ?_
 have Kt:∀(b:Bool) u,Aw u 17=.bool b->gJ Pg X (sub yS [1,1,0,1,0,1]) (Dw (pr q.rr) (B d) (.int .i64 0) (.bool aA) (.pointer<|Z ⟨rb,0,W⟩) top top top (vi kd) u H3) (rO 0<|sW Pg X (sub yS [1,1,1])<|jR Pg [.tmp 4,.tmp 5]<|QD ax q SH H k f):=by
  intro b u hb;refine tl ?_;rw[hb];refine aY ?_;refine dL (λhb=>?_) λhb=>?_
  .refine d_ ?_;refine aJ.mono (agW (Lx:=[_]) zI hx1 (dI k) G (FH ht<|iF.nil _ _ _) _) ?_;rintro w H4 ⟨i,b,rfl,hw⟩;refine aY ?_;exact rr<|hw
  refine aC (λy=>?_) λy=>?_
  .refine d_ ?_;refine aJ.mono (agW (Lx:=[_]) zI hx1 (dI k) G (FH ht<|iF.nil _ _ _) _) ?_;rintro w H4 ⟨i,b,rfl,hw⟩;refine aY ?_;exact rr<|hw
  refine aC (λy=>?_) λy=>?_
  .refine d_ ?_;refine aJ.mono (agW (Lx:=[_]) zI hx1 (dI k) G (FH (t:=⟨#[]⟩) (bg _)<|(drs _ G.ext).le N<|az _) _) ?_;rintro w H4 ⟨i,b,rfl,hw⟩;refine aY ?_;exact rr<|hw
  refine aC (λy=>?_) λy=>?_
  .refine aJ.mono (abe<|nG _) ?_;rintro v H4 ⟨hv,hx4⟩;obtain⟨ya,yn,yc,ycs,rfl,hv2⟩:=id hv;have G:=G.mV hx4;refine d_ ?_;refine aJ.mono (afK (Lx:=[_]) zI hx1 (dI k) G (FH (t:=⟨#[]⟩) (bg _)<|hv.le N<|bg _) _) ?_;rintro w H5 ⟨i,b,rfl,hw⟩;refine G.kK ?_;simp only[fK hx4,eG];rcases vP (hM H3 H4) H5 with e|e<;>rw[e]<;>apply Eh (a:=rb) (by intros;rfl) (by kernel_rfl) (by kernel_rfl)<;>(refine rr ?_;exact hw)
  refine aC (λy=>?_) λy=>?_
  .have uR:=G.perm (aF (l₁:=[_]));refine(zI.on hS1 G.ext).Ol uR 0 N λH4 FX uR hx4=>?_;rw[show min (k+1+0) (q.n-1)=k+1 by omega];obtain⟨kd2,at2,e2,t2,ya,yn,yc,he2,_,_,_,_⟩:=FX.tok (i:=k+1) N;rw[he2];have G:=uR;refine G.iZ λH5 rc G=>G.jE λH6 G=>?_;have G:M (M1.map (·.1)) H1 H6 ((rc,221,[vi kd2,B at2,B e2,.string t2,T ya yn yc])::(M1++[(rb,221,[vi kd,B at',B e',.string t,T xa xn xc])])):=G
   have vZ:M (M1.map (·.1)) H1 H6 (M1++[(rb,221,[vi kd,B at',B e',.string t,T xa xn xc]),(rc,221,[vi kd2,B at2,B e2,.string t2,T ya yn yc])]):=by
    have:=G.perm<|aF (l₁:=[_]);have e:=bP M1 [((rb,221,[vi kd,B at',B e',.string t,T xa xn xc]):dJ)] [((rc,221,[vi kd2,B at2,B e2,.string t2,T ya yn yc]):dJ)];exact this.cast e
   refine aJ.mono (Gz (zI.on hS1 G.ext) vZ 4<|by decide) ?_;rintro v H7 ⟨b,k2,M2,rfl,VB,FY,hk2,hb2⟩;have XJ:=vZ.frame FY;have hSo:=XJ.own;have hSb:M (SH.map (·.1)) H H7 M2:=hx1.over<|M.drop (A:=[_,_])<|XJ.perm aF;cases b with
   |false=>
    refine aY ?_;refine(show∀{A vn:Prop},A->BI (Z !aA) A vn fromλh=>h)<|rr ?_;exact⟨0,aA,k2,M2,O,VB,hSb,N,λh=>by cases h⟩
   |true=>
    have hk3:k2=k+1+1:=hb2 O;refine aY ?_;refine(show∀{A vn:Prop},vn->BI (Z !f) A vn fromλh=>h) ?_;have bc:=XJ.bk (rc,221,[vi kd2,B at2,B e2,.string t2,T ya yn yc]) (by simp);have bb:=XJ.bk (rb,221,[vi kd,B at',B e',.string t,T xa xn xc]) (by simp);have lc:=(XJ.lo (rc,221,[vi kd2,B at2,B e2,.string t2,T ya yn yc])<|by simp).2;have lb:=(XJ.lo (rb,221,[vi kd,B at',B e',.string t,T xa xn xc])<|by simp).2
    have hbc:rb≠rc:=by
     have:=G.apart (A:=[_]) (x:=(rc,221,[vi kd2,B at2,B e2,.string t2,T ya yn yc])) (hc:=(rb,221,[vi kd,B at',B e',.string t,T xa xn xc])) (aL ..) (by simp);exact this.symm
    obtain⟨_,_,_,_,_,_,_,he3,_,_,ajy,_⟩:=VB.tok (i:=k+1) N;rw[he2]at he3;have he4:=(jA (jA (jA (jA (jA he3).2).2).2).2).1;rw[<-he4]at ajy;have G:=M.refl hSo.wf;refine G.Gn (bc.cell (o:=4) O) lc ?_;refine G.kK ?_;refine aJ.mono (abh (nG _) (m:=20000) N ajy.i) ?_;rintro v H8 ⟨hv,Bw⟩;obtain⟨za,zn,zc,zcs,rfl,hv2⟩:=id hv;have G:=G.mV Bw;refine G.Gn (bb.cell (o:=1) O) lb ?_;refine d_ ?_;refine G.Gn (bc.cell (o:=1) O) lc ?_;refine G.kK ?_;refine aJ.mono (afK (Lx:=[]) VB hSb (show k<k2 by omega) (hSo.mV Bw) (FH (t:=⟨#[]⟩) (bg _)<|hv.le N<|bg _) _) ?_;rintro w H9 ⟨i,b,rfl,hw⟩;refine G.kK ?_;simp only[fK Bw,eG];rcases vP (hM H7 H8) H9 with e|e<;>rw[e]<;>apply lX (a:=rb) (b:=rc) hbc (by intros;rfl) (by kernel_rfl) (by kernel_rfl)<;>(refine rr ?_;exact hw)
  .refine tl ?_;have uR:=G.perm<|aF (l₁:=[_]);refine G.kK ?_;refine aC (λhd2=>?_) λhd2=>?_
   .refine G.oF<|aJ.mono (Ao (zI.on hS1 G.ext) uR _ _) ?_;rintro w H5 ⟨rfl,M2,LM,hS5⟩;refine rr ?_;exact⟨0,aA,k+1,M2,O,LM,hx1.over<|M.drop (A:=[_])<|(uR.frame hS5).perm aF,N,λh=>by cases h⟩
   .rw[fA N N];refine aY ?_;refine aJ.mono (ih (k+1) N ax H3 M1 (d+1) (λr R=>hF r (by have:=hx1.ext.next;have:=G.ext.next;omega)) (zI.on hS1 G.ext) uR.own N) ?_;rintro w H5 ⟨i,b,k2,M2,rfl,LM,hS5,hk2,_⟩;have agY:=uR.frame hS5;refine aY ?_;cases b with
    |false=>
     refine(show∀{A vn:Prop},vn->BI (Z aA) A vn fromλh=>h)<|rr ?_;exact⟨i,aA,k2,M2,O,LM,hx1.over<|M.drop (A:=[_])<|agY.perm aF,N,λh=>by cases h⟩
    |true=>
     refine(show∀{A vn:Prop},A->BI (Z f) A vn fromλh=>h)<|aJ.mono (Gz LM agY 9<|by decide) ?_;rintro w H6 ⟨b,k3,M3,rfl,CW,vZ,hk3,_⟩;refine rr ?_;exact⟨i,b,k3,M3,O,CW,hx1.over<|M.drop (A:=[_])<|(agY.frame vZ).perm aF,N,λ_ _=>by omega⟩
 refine aC (λy=>?_) λy=>?_
 .exact Kt _ _ (by simp only[wX];rfl)
 .exact Kt _ _ (by simp only[wX];rfl)
end
section
variable{S:List Nat}{ax:Nat->Prop}
def Rd.mem(h:Rd ax q k H SH):(q.ra,3,[B k])∈SH:=by
 obtain⟨rv,rcs,gr,nv,iH,gn,sc,sa,nr,nn,rfl,_⟩:=h;simp
def Om{n:Nat}{at':Int}(hf:i_ ax 3 H a n 1 ks)(hn:n<=20001)(hk:∀x∈ks,∃z:Int,x=vi z):NoV ax H (.agg ⟨[vi kd,T a n c,.string ⟨#[]⟩,T W 0 0,vi at']⟩):=
 ⟨_,rfl,kd,a,n,c,ks,⟨#[]⟩,_,at',rfl,hf,hn,hk,bg _,iF.nil _ _ _⟩
def Tn(ha:ajx q k):adW q k:=by
 intro ax H SH d hF hR G hd hkd;have hlt:=hkd.lt hR;refine ce [0,1,4,5,6,7,8,22] ?_;refine tl ?_;refine aJ.mono (ha ax H SH d hF hR G hd hkd) ?_;rintro w H1 ⟨i,b,k1,M1,rfl,zI,hS1,hk1,hb1⟩;refine aY ?_;cases b with
 |false=>
  refine(show∀{A vn:Prop},A->BI (Z !aA) A vn fromλh=>h) ?_;refine rr ?_;exact⟨0,aA,k1,M1,O,zI,hS1,hk1,λh=>by cases h⟩
 |true=>
  have hk2:=hb1 O O;refine(show∀{A vn:Prop},vn->BI (Z !f) A vn fromλh=>h) ?_;have ald:M (SH.map (·.1)) H H1 (M1++[]):=by rw[a_];exact hS1
  refine zI.Ol ald 0 N λH2 hR2 hS2 hx2=>?_;have hkn:=hR2.le;rw[show min (k1+0) (q.n-1)=k1 by omega];obtain⟨kd,at',e',t,xa,xn,xc,he,_⟩:=hR2.tok hkn.1;rw[he,Ey]
  have fin:∀(z:Int) u,gJ Pg X (sub BU [1,1,1,1,1]) (Bq (pr q.rr) (B d) (.int .i64 0) (.bool aA) (vi i) (.bool f) (vi z) (vi kd) u H2) (jR Pg [.tmp 4,.tmp 5]<|QD ax q SH H k f):=by
   intro z u;have adY:M (SH.map (·.1)) H H2 M1:=by rw[<-a_ M1];exact hS2
   have G:=hS2.own;refine tl ?_;refine G.bS O O O N λH3 rk G=>?_;have G:M (M1.map (·.1)) H2 H3 ((rk,3,[vi i])::M1):=G
   have hge:H.next<=rk:=by
    rcases(G.lo (rk,3,[vi i])<|aL ..).1 with h|h
    .exfalso;obtain⟨e,he,e1⟩:=bQ.1 h;exact G.apart (A:=[_]) (aL ..) he e1.symm
    .have:=adY.ext.next
     omega
   refine aY ?_;refine PU.b5 O<|aY ?_;have rQ:=G.perm<|aF (l₁:=[_]);have Ew:=hR2.on hS2 G.ext;refine Ew.next rQ λH4 M4 FX uR hx4=>?_
   rw[he,Tj];refine aY ?_;have hrk:ax rk:=hF rk hge;have hfl:i_ ax 3 H4 (Z ⟨rk,0,W⟩) 1 1 [vi i]:=i_.one uR (cO _<|aO.2 O) O hrk;refine aJ.mono (CU FX uR (Om hfl N λx J=>⟨i,by simpa using J⟩) _) ?_;rintro w H5 ⟨j,b,M5,rfl,_,LM,hS5⟩;refine aY ?_;refine rr ?_;refine⟨j,b,_,M5,O,LM,?_,N,λ_ _=>by omega⟩;exact adY.over<|M.drop (A:=[_])<|(uR.frame hS5).perm aF
  refine aY ?_;refine aC (λy=>?_) λy=>?_
  .exact fin _ _
  refine aC (λy=>?_) λy=>?_
  .exact fin _ _
  refine aC (λy=>?_) λy=>?_
  .exact fin _ _
  refine rr ?_;refine⟨i,f,k1,M1,O,hR2,?_,hk1,λ_ _=>hk2⟩
  rwa [a_]at hS2
def Rd.stay{S':List Nat}(h:Rd ax q k H SH)(J:oz S' H C)(hk:∀r∈S',(¬ax r\/¬yw H r 3)/\¬yw H r 331/\¬yw H r 221):Rd ax q k C SH:=by
 obtain⟨rv,rcs,gr,nv,iH,gn,sc,sa,nr,nn,h0,Q,I,h3,h4,h5,h6,h7,h8,h9,h10,B5⟩:=h;exact⟨rv,rcs,gr,nv,iH,gn,sc,sa,nr,nn,h0,Q,I.st J (λr R=>.inr (hk r R).2)<|az _,h3,h4,h5,h6,h7,h8,h9,λi hi=>(h10 i hi).st J λr R=>⟨(hk r R).1,(hk r R).2.1⟩,B5⟩
abbrev Fo(ax:Nat->Prop)(gb:List dJ):Nat->Prop:=λr=>ax r/\r∉gb.map (·.1)
def abj(B5:¬ax q.ra)(hg:GB 3 1 x ks gb)(G:M S H0 H<|SH++gb)(hR:Rd (Fo ax gb) q k H SH)(hl:ks.length<=1000000)(z:Int)(kk:∀w v' H6 gT,GB 3 1 v' (ks++[vi z]) gT->M S H0 H6 (SH++gT)->Rd (Fo ax gT) q k H6 SH->(∀e∈gT,e.1∈gb.map (·.1)\/H.next<=e.1)->K w v' H6):
 ME (bS 3 [.int .i64 0] 1 1 [(0,vi z)] H) λw H5=>ME (zB 3 1 x w H5) (K w):=by
 have hP:=G.perm<|aF (l₁:=SH);have hO:M (gb.map (·.1)) H H (gb++[]):=by rw[a_];exact hP.own
 have hne:∀ty:aG,((3:Nat)==ty)=aA->∀r∈gb.map (·.1),¬yw H r ty:=λty ht=>hP.own.IG<|hg.all ht;refine hO.bS O O O N λH5 rx hS5=>?_;obtain⟨v',H6,gT,e1,hg',vZ,_⟩:=hg.app (m:=0) (cx:=1) hS5 N O O N N;refine ME.of e1 ?_;rw[a_]at vZ;have zI:Rd (λr=>Fo ax gb r/\r<H.next) q k H SH:=hR.wk (λr R h=>⟨h,R⟩) λh=>B5 h.1.1;have hR2:=zI.stay vZ.ext λr R=>⟨.inl λh=>h.1.2 R,hne 331 O r R,hne 221 O r R⟩;refine kk _ v' H6 gT hg' ((hP.frame vZ).perm aF) (hR2.wk (λr _ h=>⟨h.1.1,λhm=>?_⟩) λh=>B5 h.1) λe he=>(vZ.lo e he).1;obtain⟨e,he,e1⟩:=bQ.1 hm;rcases(vZ.lo e he).1 with h3|h3
 .exact h.1.2 (by rw[<-e1];exact h3)
 .have:=h.2;omega
def row_of(he:∀k',k<=k'->adW q k'):adU q k:=by
 intro ax H SH d hF hR G hd;have hkn:=hR.le
 have B5:¬ax q.ra:=by
  obtain⟨_,_,_,_,_,_,_,_,_,_,_,_,_,_,_,_,_,_,_,_,_,h⟩:=hR;exact h
 refine ce [0,1,4,5,6,7,8] ?_;refine tl ?_;refine Vx 4 5 6 7 8 (h2:=λm x4 x5 x6 x7 x8 C=>∃(k':Nat)(M':List dJ)(ks:List D)(gb:List dJ),x4=vi 0/\x5=.bool aA/\k'+m=q.n/\k<=k'/\Rd (Fo ax gb) q k' C M'/\M (SH.map (·.1)) H C (M'++gb)/\GB 3 1 x6 ks gb/\ks.length<=k'-k/\(∀x∈ks,∃z:Int,x=vi z)/\∀e∈gb,H.next<=e.1) ?_ (q.n-k) ⟨k,SH,[],[],rfl,rfl,N,az _,hR.wk (λr _ h=>⟨h,by simp⟩) λh=>B5 h.1,by rw[a_];exact G,GB.nil _ _,bg _,(λx h=>nomatch h),λe h=>nomatch h⟩;clear hR G;rintro m x4 x5 x6 x7 x8 u C ⟨k1,M1,ks,gb,rfl,rfl,hkm,hk1,zI,hS1,hg,hkl,hks,hgb⟩;have ajz:=zI.le;refine tp ?_;refine zI.Ol hS1 0 N λH2 hR2 hS2 hx2=>?_;rw[show min (k1+0) (q.n-1)=k1 by omega];obtain⟨kd,at',e',t,xa,xn,xc,hel,_⟩:=hR2.tok ajz.1;rw[hel];refine aJ.mono (QC hS2.wf kd _ _ _ _ O) ?_;rintro w H3 ⟨⟨b,rfl,hb⟩,hx3⟩;have Ew:=hR2.ex hx3;have rQ:=hS2.call hx3;refine aY ?_;refine dL (λhbt=>?_) λhbt=>?_
 .have hF3:∀r,H3.next<=r->Fo ax gb r:=λr R=>⟨hF r (by have:=rQ.ext.next;omega),λhm=>by
   obtain⟨e,he,e1⟩:=bQ.1 hm;have:=(rQ.lo e<|cO _ he).2;omega⟩
  refine aJ.mono (he k1 hk1 _ H3 M1 d hF3 Ew rQ.own hd ⟨kd,_,hel,hb hbt⟩) ?_;rintro w H4 ⟨i,b,k2,M2,rfl,FX,uR,hk2,hb2⟩;have Tp:=rQ.frame uR;refine aY ?_;cases b with
  |false=>
   refine(show∀{A vn:Prop},A->BI (Z !aA) A vn fromλh=>h) ?_;refine rr ?_;exact⟨0,aA,k2,M2,O,FX.wk (λr _ h=>h.1) B5,M.drop (A:=gb)<|Tp.perm aF,N,λh=>by cases h⟩
  |true=>
   have hk3:=hb2 O O;have hkn2:=FX.le;refine(show∀{A vn:Prop},vn->BI (Z !f) A vn fromλh=>h)<|abj B5 hg Tp FX N i λw v' H6 gT hg' vZ CW hgn=>⟨q.n-k2,N,_,_,_,_,_,_,_,rfl,k2,M2,ks++[vi i],gT,rfl,rfl,N,N,CW,vZ,hg',by rw[aQ];show ks.length+1<=_;omega,λx J=>?_,λe he'=>?_⟩
   .rcases bX.1 J with h|h
    .exact hks x h
    .exact⟨i,by simpa using h⟩
   .rcases hgn e he' with h|h
    .obtain⟨e2,I,h3⟩:=bQ.1 h;rw[<-h3];exact hgb e2 I
    .have:=Tp.ext.next;omega
 .refine tl ?_;obtain⟨a,n,c,rfl,hn,hfl⟩:=hg.Jc (ax:=ax) (rQ.perm<|aF (l₁:=M1)) λe he'=>hF _<|hgb e he';refine PU.b5 O<|aY ?_;refine Ew.Ol rQ 0 N λH4 FX uR hx4=>?_;rw[show min (k1+0) (q.n-1)=k1 by omega,hel,Tj];refine aY ?_;have LM:Rd ax q k1 H4 M1:=FX.wk (λr _ h=>h.1) B5;refine aJ.mono (CU LM uR (Om (hfl.ex hx4) N hks) _) ?_;rintro w H5 ⟨j,b,M5,rfl,_,CW,vZ⟩;refine aY ?_;refine rr ?_;exact⟨j,b,k1,M5,O,CW,M.drop (A:=gb)<|(uR.frame vZ).perm aF,N,λ_ h=>by cases h⟩
def Tq(he:∀k',k<=k'->adU q k'):adT q k:=by
 intro ax H SH d hF hR G hd;have hkn:=hR.le
 have B5:¬ax q.ra:=by
  obtain⟨_,_,_,_,_,_,_,_,_,_,_,_,_,_,_,_,_,_,_,_,_,h⟩:=hR;exact h
 refine ce [0,1,4,5,6,7,8] ?_;refine tl ?_;refine Vx 4 5 6 7 8 (h2:=λm x4 x5 x6 x7 x8 C=>∃(k':Nat)(M':List dJ)(ks:List D)(gb:List dJ),x4=vi 0/\x5=.bool aA/\k'+m=q.n/\k<=k'/\Rd (Fo ax gb) q k' C M'/\M (SH.map (·.1)) H C (M'++gb)/\GB 3 1 x6 ks gb/\ks.length<=k'-k/\(∀x∈ks,∃z:Int,x=vi z)/\∀e∈gb,H.next<=e.1) ?_ (q.n-k) ⟨k,SH,[],[],rfl,rfl,N,az _,hR.wk (λr _ h=>⟨h,by simp⟩) λh=>B5 h.1,by rw[a_];exact G,GB.nil _ _,bg _,(λx h=>nomatch h),λe h=>nomatch h⟩;clear hR G;rintro m x4 x5 x6 x7 x8 u C ⟨k1,M1,ks,gb,rfl,rfl,hkm,hk1,zI,hS1,hg,hkl,hks,hgb⟩;have ajz:=zI.le
 have hF3:∀r,C.next<=r->Fo ax gb r:=λr R=>⟨hF r (by have:=hS1.ext.next;omega),λhm=>by
  obtain⟨e,he,e1⟩:=bQ.1 hm;have:=(hS1.lo e<|cO _ he).2;omega⟩
 refine tl ?_;refine aJ.mono (he k1 hk1 _ C M1 d hF3 zI hS1.own hd) ?_;rintro w H4 ⟨i,b,k2,M2,rfl,FX,uR,hk2,hb2⟩;have Tp:=hS1.frame uR;have hkn2:=FX.le;refine aY ?_;cases b with
 |false=>
  refine(show∀{A vn:Prop},A->BI (Z !aA) A vn fromλh=>h) ?_;refine rr ?_;exact⟨0,aA,k2,M2,O,FX.wk (λr _ h=>h.1) B5,M.drop (A:=gb)<|Tp.perm aF,N,λh=>by cases h⟩
 |true=>
  refine(show∀{A vn:Prop},vn->BI (Z !f) A vn fromλh=>h)<|abj B5 hg Tp FX N i λw v' H6 gT hg' vZ CW hgn=>?_
  have hgb':∀e∈gT,H.next<=e.1:=λe he'=>by
   rcases hgn e he' with h|h
   .obtain⟨e2,I,h3⟩:=bQ.1 h;rw[<-h3];exact hgb e2 I
   .have:=Tp.ext.next;omega
  have XK:∀x∈ks++[vi i],∃z:Int,x=vi z:=λx J=>by
   rcases bX.1 J with h|h
   .exact hks x h
   .exact⟨i,by simpa using h⟩
  have hkl':(ks++[vi i]).length=ks.length+1:=by simp
  refine CW.Ol vZ 0 N λH7 VB FY hx7=>?_;rw[show min (k2+0) (q.n-1)=k2 by omega];obtain⟨kd,at',e',t,xa,xn,xc,hel,_,_,_,hz⟩:=VB.tok hkn2.1;rw[hel,Ey];refine aY ?_;refine bT (λy=>?_) λy=>?_
  .refine tl ?_;obtain⟨a,n,c,rfl,hn,hfl⟩:=hg'.Jc (ax:=ax) (FY.perm<|aF (l₁:=M2)) λe he'=>hF _<|hgb' e he';refine aY ?_;refine aC (λQ=>?_) λQ=>?_
   .have Q:n=1:=by omega
    subst Q;obtain⟨r,o,e,R,hrd,_⟩:=hfl.1.idx (c:=c) N (show 0<1 by omega);obtain⟨z,hz'⟩:=XK (ks++[vi i])[0]<|bB _;have e:Ac 1 (T a 1 c) (.int .i64 0)=_:=e;rw[e];refine aY ?_;refine ME.ld (hrd 0 (vi z) N<|by rw[au N,<-hz']) ?_;refine rr ?_;exact⟨z,f,k2,M2,O,VB.wk (λr _ h=>h.1) B5,M.drop (A:=gT)<|FY.perm aF,N,λ_ h=>by cases h⟩
   .refine PU.b5 O<|aY ?_;refine VB.Ol FY 0 N λH8 hR8 XL Bw=>?_;rw[show min (k2+0) (q.n-1)=k2 by omega,hel,Tj];refine aY ?_;have hR9:Rd ax q k2 H8 M2:=hR8.wk (λr _ h=>h.1) B5;refine aJ.mono (CU hR9 XL (Om (hfl.ex Bw) N XK) _) ?_;rintro w H9 ⟨j,b,M5,rfl,_,ale,agZ⟩;refine aY ?_;refine rr ?_;exact⟨j,b,k2,M5,O,ale,M.drop (A:=gT)<|(XL.frame agZ).perm aF,N,λ_ h=>by cases h⟩
  .have hk3:k2≠q.n-1:=λe=>by have:=hz e;omega
   refine VB.next FY λH8 M8 hR8 XL Bw=>?_
   rw[show min (k2+1) (q.n-1)=k2+1 by omega]at hR8;refine⟨q.n-(k2+1),N,_,_,_,_,_,_,_,O,k2+1,M8,ks++[vi i],gT,O,O,N,N,hR8,XL,hg',by rw[hkl'];omega,XK,hgb'⟩
def ag0:∀(n k:Nat),q.n<=k+n->adT q k/\adU q k/\adW q k:=by
 intro n
 induction n with
 |zero=>
  intro k hk;have hno:∀k',k<=k'->∀(ax:Nat->Prop) H SH,¬Rd ax q k' H SH:=λk' h ax H SH hR=>by have:=hR.le;omega
  exact⟨λax H SH d _ hR=>absurd hR<|hno k (az _) _ _ _,λax H SH d _ hR=>absurd hR<|hno k (az _) _ _ _,λax H SH d _ hR=>absurd hR<|hno k (az _) _ _ _⟩
 |succ n ih=>
  intro k hk;have hel:adW q k:=Tn<|adX λk' h=>(ih k' N).1
  have hro:adU q k:=row_of λk' h=>by
   rcases Nat.eq_or_lt_of_le h with rfl|h
   .exact hel
   .exact(ih k' N).2.2
  refine⟨Tq λk' h=>?_,hro,hel⟩;rcases Nat.eq_or_lt_of_le h with rfl|h
  .exact hro
  .exact(ih k' N).2.1
def Tt(q:RC)(k:Nat):adT q k:=(ag0 (q.n) k N).1
end
section
variable{S:List Nat}{ax:Nat->Prop}
theorem _root_.Go.Ae.M.nZ{ty:aG}{n:Nat}(G:M S H0 H L)(hl:(bI v).length=n)(hz:z.length=n)(hk:all' fB (bI v)=f)(k:∀H2 r,M S H0 H2 ((r,ty,bI v)::L)->Ext H H2->K (.pointer<|Z ⟨r,0,W⟩) undef H2):ME (Go.Ae.iZ ty z H) λp H1=>ME (Go.Ae.Cq n p v H1) λrg H2=>K p rg H2:=by
 have hO:=M.refl G.wf;refine hO.iZ λH1 r hO=>hO.st 0 O hl N hk λH2 hO=>?_;have hO:M [] H H2 [(r,ty,splice z 0<|bI v)]:=hO;rw[mZ _ _ N]at hO;exact k H2 r (M.frame (SH:=[]) (L:=L) G hO) hO.ext
def Rd.st(hR:Rd ax q k H SH){ty:aG}(G:M S H0 H<|(b,ty,E)::(SH++L))(h3:(ty==3)=aA)(alf:(ty==331)=aA)(h128:(ty==221)=aA){n:Nat}(hl:(bI v).length=n)(hn:o+n<=E.length)(hk:all' fB (bI v)=f){K:D->F->Prop}(kk:∀H1,Rd ax q k H1 SH->M S H0 H1 ((b,ty,splice E o<|bI v)::(SH++L))->H.next<=H1.next->K undef H1):ME (Cq n (.pointer<|Z ⟨b,o,W⟩) v H) K:=by
 have hO:M [b] H H [(b,ty,E)]:=M.own (SH:=[(b,ty,E)]) G;have hty:yw H b ty:=(hO.bk (b,ty,E)<|aO.2 O).HZ;have hne:∀t:aG,(ty==t)=aA->¬yw H b t:=λt ht h=>by rw[hty.one h]at ht;simp at ht
 refine hO.st 0 O hl hn hk λH1 hO=>?_;have hO:M [b] H H1 [(b,ty,splice E o<|bI v)]:=hO;refine kk H1 (hR.stay hO.ext λr R=>?_) (M.frame (SH:=[(b,ty,E)]) G hO) hO.ext.next
 rw[aO]at R;subst R;exact⟨.inr<|hne 3 h3,hne 331 alf,hne 221 h128⟩
def Rd.rules(hR:Rd ax q k H SH)(G:M S H0 H<|SH++L):(∃a c,H.cell q.rr 2=Z (T a q.nu c))/\q.rr<H.next:=by
 obtain⟨rv,rcs,gr,nv,iH,gn,sc,sa,nr,nn,rfl,Q,I,h3,h4,h5,h6,h7,h8,h9,h10,B5⟩:=hR;have hb:=G.get 3 O;refine⟨?_,(G.lo _<|aR (i:=3) O).2⟩;subst h5;rcases h3 with⟨rfl,rfl,_⟩|⟨r,n,dY,rfl,hn,_⟩
 .have:q.nu=0:=by simp at h4;omega
  rw[this];exact⟨W,0,hb.cell O⟩
 .have:n=q.nu:=by omega
  subst this;exact⟨_,_,hb.cell O⟩
def _root_.Go.Ae.M.inP{P:List dJ}(G:M S H0 H<|P++(SH++L)):M S H0 H (SH++(P++L)):=G.perm (by
 rw[<-bP,<-bP];exact pI _ aF)
def _root_.Go.Ae.M.On{P:List dJ}(G:M S H0 H<|P++(SH++L))(h:M (SH.map (·.1)) H C M'):M S H0 C (P++(M'++L)):=(G.inP.frame h).inP
def Rd.QE{P:List dJ}(hR:Rd ax q k H SH)(G:M S H0 H<|P++(SH++L))(j:Nat)(hj:j<=1000)(h:∀C,Rd ax q k C SH->M S H0 C (P++(SH++L))->Ext H C->K (oW q.rt q.ra) (.agg ⟨El q.E 5<|min (k+j)<|q.n-1⟩) C):ME (uP W (.pointer<|Z ⟨q.rr,0,W⟩) H) λv H1=>nJ Pg X (Ls v) [B j] H1 (K v):=
 hR.Ol G.inP j hj λC hR' hS' J=>h C hR' hS'.inP J
def Rd.VC{P:List dJ}(hR:Rd ax q k H SH)(G:M S H0 H<|P++(SH++L))(h:∀C M',Rd ax q (min (k+1)<|q.n-1) C M'->M S H0 C (P++(M'++L))->H.next<=C.next->K (x_ q.rp q.ra q.rt) (.agg ⟨El q.E 5 k⟩) C):ME (uP W (.pointer<|Z ⟨q.rr,1,W⟩) H) λv H1=>nJ Pg X (Ls v) [] H1 (K v):=
 hR.next G.inP λC M' hR' hS' J=>h C M' hR' hS'.inP J.ext.next
def abk{P:List dJ}(hR:Rd ax q k H SH)(G:M S H0 H<|P++(SH++L))(cd at':Int):aJ Pg X 144 [pr q.rr,vi cd,vi at'] H λv C=>v=.bool aA/\∃M',Rd ax q k C M'/\M S H0 C (P++(M'++L)):=
 aJ.mono (Ao hR G.inP cd at') λv C ⟨e,M',hR',hS'⟩=>⟨e,M',hR',G.On hS'⟩
def abl{P:List dJ}(hR:Rd ax q k H SH)(G:M S H0 H<|P++(SH++L)):aJ Pg X 143 [pr q.rr] H λv C=>v=.bool aA/\∃M',Rd ax q k C M'/\M S H0 C (P++(M'++L)):=
 aJ.mono (Ky hR G.inP) λv C ⟨e,M',hR',hS'⟩=>⟨e,M',hR',G.On hS'⟩
def afL{P:List dJ}(hR:Rd ax q k H SH)(G:M S H0 H<|P++(SH++L))(kd:Int)(hkd:kd≠0):aJ Pg X 145 [pr q.rr,vi kd] H λv C=>∃(b:Bool)(k':Nat)(M':List dJ),v=.bool b/\Rd ax q k' C M'/\M S H0 C (P++(M'++L))/\k<=k'/\(b=f->k'=k+1)/\H.next<=C.next:=
 aJ.mono (Gz hR G.inP kd hkd) λv C ⟨b,k',M',e,hR',hS',Q,I⟩=>⟨b,k',M',e,hR',G.On hS',Q,I,hS'.ext.next⟩
abbrev wh(nm:ByteArray)(rg av w:Bool)(ch root at':Int):List D:=[.string nm,.bool rg,.bool av,.bool w,vi ch,vi root,vi at']
def Tu{ru:Nat}{at':Int}(hR:Rd ax q k H SH)(G:M S H0 H<|(ru,234,wh nm rg av w ch root at')::(SH++L)):
 aJ Pg X 147 [pr q.rr,pr ru] H λv C=>∃(b w':Bool)(ch':Int)(k':Nat)(M':List dJ),v=.bool b/\Rd ax q k' C M'/\k<=k'/\M S H0 C ((ru,234,wh nm rg av w' ch' root at')::(M'++L)):=by
 have hkn:=hR.le;refine ce [0,1,4,5,40] ?_;refine tp ?_;refine hR.QE (P:=[_]) G 0 N λH1 zI hS1 hx1=>?_;rw[show min (k+0) (q.n-1)=k by omega];obtain⟨kd,Oo,e1,t1,xa,xn,xc,he,_,_,_,hz⟩:=zI.tok hkn.1;rw[he,Ey];refine aY ?_;refine bT (λy=>?_) λy=>?_
 .refine rr ?_;exact⟨f,w,ch,k,SH,O,zI,az _,hS1⟩
 refine zI.VC (P:=[_]) hS1 λH2 M2 hR2 hS2 _=>?_;have hk2:=hR2.le;refine hR2.QE (P:=[_]) hS2 0 N λH3 Ew rQ hx3=>?_;obtain⟨kd2,at2,e2,t2,ya,yn,yc,he2,_,ht2,_,_⟩:=Ew.tok (i:=min (min (k+1) (q.n-1)+0)<|q.n-1) N;rw[he2];refine rQ.nZ O O O λH4 rt uR hx4=>?_;have FX:=Ew.ex hx4;have G:M S H0 H4 ((rt,221,[vi kd2,B at2,B e2,.string t2,T ya yn yc])::(ru,234,wh nm rg av w ch root at')::(M2++L)):=uR;refine d_ ?_;refine aJ.mono (Ez G.wf _ _ _ _ _ O) ?_;rintro v H5 ⟨rfl,hx5⟩;have LM:=FX.ex hx5;have G:=G.call hx5;refine G.kK ?_;refine dL (λhb=>?_) λhb=>?_
 .refine aJ.mono (abl (P:=[_,_]) LM G) ?_;rintro v H6 ⟨rfl,M6,CW,vZ⟩;refine rr ?_;exact⟨aA,w,ch,_,M6,O,CW,N,M.drop (A:=[_]) vZ⟩
 have afM:∀cd p:Int,aJ Pg X 144 [pr q.rr,vi cd,vi p] H5 λv C=>v=.bool aA/\∃M',Rd ax q (min (k+1)<|q.n-1) C M'/\M S H0 C ((ru,234,wh nm rg av w ch root at')::(M'++L)):=λcd p=>by
  refine aJ.mono (abk (P:=[_,_]) LM G cd p) ?_;rintro v H6 ⟨rfl,M6,CW,vZ⟩;exact⟨O,M6,CW,M.drop (A:=[_]) vZ⟩
 have last:∀(H6:F)(w':Bool)(ch':Int) hc,Rd ax q (min (k+1)<|q.n-1) H6 M2->M S H0 H6 ((ru,234,wh nm rg av w' ch' root at')::(M2++L))->gJ Pg X (sub Du [1,1,1,1,1,1,1]) (CL (pr q.rr) (pr ru) (.bool aA) (pr rt) (.string t2) hc H6) (jR Pg [.tmp 4] λv C=>∃(b w':Bool)(ch':Int)(k':Nat)(M':List dJ),v=.bool b/\Rd ax q k' C M'/\k<=k'/\M S H0 C ((ru,234,wh nm rg av w' ch' root at')::(M'++L))):=by
  intro H6 w' ch' hc CW vZ;refine tp ?_;refine CW.VC (P:=[_]) vZ λH7 M7 VB FY _=>rr ?_;exact⟨f,w',ch',_,M7,O,VB,N,FY⟩
 refine d_ ?_;refine dL (λhb2=>?_) λhb2=>?_
 .refine G.oF<|aJ.mono (afM _ _) ?_;rintro v H6 ⟨rfl,M6,CW,vZ⟩;refine rr ?_;exact⟨aA,w,ch,_,M6,O,CW,N,vZ⟩
 refine d_ ?_;refine dL (λhb3=>?_) λhb3=>?_
 .exact LM.st (M.drop (A:=[_]) G) O O O O (aD O) O λH6 CW vZ _=>last _ _ _ _ CW vZ
 refine dL (λhb4=>?_) λhb4=>?_
 .exact LM.st (M.drop (A:=[_]) G) O O O O (aD O) O λH6 CW vZ _=>last _ _ _ _ CW vZ
 refine dL (λhb5=>?_) λhb5=>?_
 .exact LM.st (M.drop (A:=[_]) G) O O O O (aD O) O λH6 CW vZ _=>last _ _ _ _ CW vZ
 refine G.oF<|aJ.mono (afM _ _) ?_;rintro v H6 ⟨rfl,M6,CW,vZ⟩;refine rr ?_;exact⟨aA,w,ch,_,M6,O,CW,N,vZ⟩
end
section
variable{S:List Nat}{ax:Nat->Prop}
def _root_.Go.Ae.M.adZ{ty:aG}{K:D->F->Prop}(G:M S H0 H L)(k:∀H2 r,M S H0 H2 ((r,ty,z)::L)->Ext H H2->K (.pointer<|Z ⟨r,0,W⟩) H2):ME (Go.Ae.iZ ty z H) K:=by
 have hO:=M.refl G.wf;exact hO.iZ λH1 r hO=>k H1 r (M.frame (SH:=[]) (L:=L) G hO) hO.ext
def BM(P SH L:List dJ):(P++(SH++L)).Perm (SH++(P++L)):=by
 rw[<-bP,<-bP];exact pI _ aF
abbrev RC.up(q:RC)(b:Bool):RC:={q with nu:=if b then q.nu+1 else q.nu}
def Io(ax:Nat->Prop)(q:RC)(k:Nat)(S:List Nat)(H0:F)(L:List dJ)(v:D)(C:F):Prop:=∃(b:Bool)(k':Nat)(M':List dJ),v=.bool b/\Rd ax (q.up b) k' C M'/\M S H0 C (M'++L)/\k<=k'/\(b=f->k<k'/\q.nu<120)
def Io.no{k':Nat}{ru:Nat}(hk:k<=k')(hR:Rd ax q k' H M')(G:M S H0 H<|(ru,234,l)::(M'++L)):Io ax q k S H0 L (.bool aA) H:=
 ⟨aA,k',M',rfl,hR,M.drop (A:=[_]) G,hk,λh=>by cases h⟩
theorem abm{ru:Nat}{at':Int}(hnm:nm.size<=1000000)(hk:k0<k)(hnu:q.nu<120)(hR:Rd ax q k H SH)(G:M S H0 H<|(ru,234,wh nm rg av w ch root at')::(SH++L))(x4 x5 x6 x7:D)(u):
 gJ Pg X (sub lG [1,1,1,1,1,1,1,1,1,1,1,1,1,1]) (nY (pr q.rr) (.bool aA) (pr ru) x4 x5 x6 x7 u H) (jR Pg [.tmp 2]<|Io ax q k0 S H0 L):=by
 have hty:=hR.ty<|M.drop (A:=[_]) G
 have QF:¬yw H ru 3/\¬yw H ru 331/\¬yw H ru 221:=by
  have h:=(G.bk _<|aL ..).HZ;exact⟨λht=>(by have:=h.one ht;cases this),λht=>(by have:=h.one ht;cases this),λht=>(by have:=h.one ht;cases this)⟩
 have hR0:=hR;have hS0:=G;obtain⟨rv,rcs,gr,nv,iH,gn,sc,sa,nr,nn,rfl,Q,I,h3,h4,h5,h6,h7,h8,h9,h10,B5⟩:=hR
 obtain⟨na',nc,cc,rfl,hnl,_⟩:∃a n c,rv=T a n c/\rcs.length=n*7/\True:=by
  rcases h3 with⟨rfl,rfl,_⟩|⟨r,n,dY,rfl,hn,_⟩
  .exact⟨_,_,_,O,by simp,trivial⟩
  .exact⟨_,_,_,O,hn,trivial⟩
 have hnn:nc=nr:=by omega
 subst hnn;subst h5;have G:=M.own (SH:=(ru,234,wh nm rg av w ch root at')::(q.rt,215,[T q.a q.n q.c])::(q.ra,3,[B k])::(q.rp,222,[oW q.rt q.ra])::(q.rr,226,[oW q.rt q.ra,x_ q.rp q.ra q.rt,T na' q.nu cc,nv,vi sc,vi sa])::(gr++gn)) (L:=L) hS0;refine tm ?_;refine G.Qa O O O N λH2 rx G sw=>?_;have G:=G.to (cs':=wh nm rg av w ch root at') O;have G:=G.perm (L':=(rx,234,wh nm rg av w ch root at')::(gr++((ru,234,wh nm rg av w ch root at')::(q.rt,215,[T q.a q.n q.c])::(q.ra,3,[B k])::(q.rp,222,[oW q.rt q.ra])::(q.rr,226,[oW q.rt q.ra,x_ q.rp q.ra q.rt,T na' q.nu cc,nv,vi sc,vi sa])::gn)))<|dQ _<|BM [_,_,_,_,_] gr gn;refine h3.Gj G N O O N λv' H3 gr' hg' G hx' PD vk=>?_;have G:=G.perm<|BM gr' [_,_,_,_,_] gn;simp only[bE,bK]at G
 obtain⟨va,vn',vc,rfl,hvl,_⟩:∃a n c,v'=T a n c/\(rcs++wh nm rg av w ch root at').length=n*7/\True:=by
  rcases hg' with⟨_,h,_⟩|⟨r,n,dY,rfl,hn,_⟩
  .exact absurd h (by simp)
  .exact⟨_,_,_,O,hn,trivial⟩
 have hvn:vn'=q.nu+1:=by rw[aQ,h4]at hvl;simp at hvl;omega
 subst hvn;refine G.lW λHn G=>?_;have hne:q.rr≠ru:=(G.nq 0 4 O O N).symm;refine splitK (λK hK=>?_) ?_
 .simp only[sw,eG,fT];generalize q.rr=rr at hne;rcases vk with e|e<;>rw[e]<;>apply lX (a:=rr) (b:=ru) hne (by intros;rfl) (by kernel_rfl) (by kernel_rfl) hK
 have J:=G.ext;have hE:=Bv (es:=7) (n:=q.nu) h4 (xs:=wh nm rg av w ch root at') O;refine rr ?_;refine⟨f,k,(q.rt,215,[T q.a q.n q.c])::(q.ra,3,[B k])::(q.rp,222,[oW q.rt q.ra])::(q.rr,226,[oW q.rt q.ra,x_ q.rp q.ra q.rt,T va (q.nu+1) vc,nv,vi sc,vi sa])::(gr'++gn),O,?_,?_,N,λ_=>⟨hk,hnu⟩⟩
 .refine⟨T va (q.nu+1) vc,rcs++wh nm rg av w ch root at',gr',nv,iH,gn,sc,sa,q.nu+1,nn,O,Q,?_,hg',hvl,O,λi hi=>?_,h7,h8,h9,λi hi=>?_,B5⟩
  .refine I.st J (λr R=>.inr ?_) (az _);rcases bM.1 R with rfl|R
   .exact QF.2
   .exact(hty r R).2
  .rcases bZ i q.nu with h|h
   .rw[hE.1 i h];exact h6 i h
   .obtain rfl:i=q.nu:=by omega
    rw[hE.2];exact⟨nm,rg,av,w,ch,root,at',O,hnm⟩
  .have hst:∀r∈((ru,234,wh nm rg av w ch root at')::(q.rt,215,[T q.a q.n q.c])::(q.ra,3,[B k])::(q.rp,222,[oW q.rt q.ra])::(q.rr,226,[oW q.rt q.ra,x_ q.rp q.ra q.rt,T na' q.nu cc,nv,vi sc,vi sa])::(gr++gn)).map (λe:dJ=>e.1),(¬ax r\/¬yw H r 3)/\¬yw H r 331:=λr R=>by
    rcases bM.1 R with rfl|R
    .exact⟨.inr QF.1,QF.2.1⟩
    .exact⟨(hty r R).1.imp_left (λe=>by rw[e];exact B5),(hty r R).2.1⟩
   exact(h10 i hi).st J hst
 .have hF:=M.frame (SH:=(ru,234,wh nm rg av w ch root at')::(q.rt,215,[T q.a q.n q.c])::(q.ra,3,[B k])::(q.rp,222,[oW q.rt q.ra])::(q.rr,226,[oW q.rt q.ra,x_ q.rp q.ra q.rt,T na' q.nu cc,nv,vi sc,vi sa])::(gr++gn)) hS0 G;exact M.drop (A:=[_]) hF
def ag1{ru:Nat}{at':Int}(hF:∀r,H.next<=r->ax r)(hnm:nm.size<=1000000)(hk:k0<=k)(hnu:q.nu<120)(hR:Rd ax q k H SH)(G:M S H0 H<|(ru,234,wh nm rg av w ch root at')::(SH++L))(x4 x5 x6 x7:D)(u):
 gJ Pg X (sub lG [1,1,1,1,1,1,1,1]) (nY (pr q.rr) (.bool aA) (pr ru) x4 x5 x6 x7 u H) (jR Pg [.tmp 2]<|Io ax q k0 S H0 L):=by
 have hkn:=hR.le;refine tp ?_;refine hR.VC (P:=[_]) G λH1 M1 zI hS1 hn1=>aJ.mono (afL (P:=[_]) zI hS1 5<|by decide) ?_;rintro v H2 ⟨b,k2,M2,rfl,hR2,hS2,hk2,hb2,hn1'⟩;refine aY ?_;refine dL (λhb=>?_) λhb=>?_
 .refine rr ?_;exact(.no N hR2 hS2)
 have hb':b=f:=by cases b with
  |true=>rfl
  |false=>cases hb
 have amv:=hb2 hb';have hkn2:=hR2.le;have hn2:H.next<=H2.next:=by omega
 refine aJ.mono (Tt q k2 ax H2 M2 0 (λr R=>hF r N) hR2 hS2.inP.own N) ?_;rintro v H3 ⟨i,b3,k3,M3,rfl,Ew,alg,hk3,_⟩;have rQ:=hS2.On alg;refine aY ?_;refine dL (λhb=>?_) λhb=>?_
 .refine rr ?_;exact(.no N Ew rQ)
 refine Ew.st rQ O O O O (aD O) O λH4 FX uR _=>?_;have uR:M S H0 H4 ((ru,234,wh nm rg av w ch i at')::(M3++L)):=uR;refine aJ.mono (Tu FX uR) ?_;rintro v H5 ⟨b5,w5,ch5,k5,M5,rfl,LM,hk5,hS5⟩;refine aY ?_;refine dL (λhb=>?_) λhb=>?_
 .refine rr ?_;exact(.no N LM hS5)
 refine aJ.mono (afL (P:=[_]) LM hS5 7<|by decide) ?_;rintro v H6 ⟨b6,k6,M6,rfl,CW,vZ,Tm,hb6,_⟩;refine aY ?_;refine dL (λhb=>?_) λhb=>?_
 .refine rr ?_;exact(.no N CW vZ)
 exact abm hnm N hnu CW vZ _ _ _ _ _
theorem abn{ru:Nat}(hF:∀r,H.next<=r->ax r)(hnu:q.nu<=120)(hk0:k0<=k)(hR:Rd ax q k H SH)(G:M S H0 H<|(ru,234,wh ⟨#[]⟩ aA av aA 0 0 0)::(SH++L))(x4 x5 x6 x7:D)(u):
 gJ Pg X (sub lG [1,1,1]) (nY (pr q.rr) (.bool aA) (pr ru) x4 x5 x6 x7 u H) (jR Pg [.tmp 2]<|Io ax q k0 S H0 L):=by
 have hkn:=hR.le;refine tp ?_;refine hR.QE (P:=[_]) G 0 N λH1 zI hS1 hx1=>?_;rw[show min (k+0) (q.n-1)=k by omega];obtain⟨kd,Oo,e1,t1,xa,xn,xc,he,_,ht1,_,hz⟩:=zI.tok hkn.1;rw[he]
 have QF:¬yw H1 ru 3/\¬yw H1 ru 331/\¬yw H1 ru 221:=by
  have h:=(hS1.bk _<|aL ..).HZ;exact⟨λht=>(by have:=h.one ht;cases this),λht=>(by have:=h.one ht;cases this),λht=>(by have:=h.one ht;cases this)⟩
 have hS1:M S H0 H1 ([(ru,234,wh ⟨#[]⟩ aA av aA 0 0 0)]++(SH++L)):=hS1;refine hS1.own.nZ O O O λH4 rt uR hx4=>?_;have G:M [ru] H1 H4 [(rt,221,[vi kd,B Oo,B e1,.string t1,T xa xn xc]),(ru,234,wh ⟨#[]⟩ aA av aA 0 0 0)]:=uR;refine d_ ?_;refine aJ.mono (Ez G.wf _ _ _ _ _ O) ?_;rintro v H5 ⟨rfl,hx5⟩;have G:=G.call hx5;refine G.kK ?_;refine dL (λhb=>?_) λhb=>?_
 .have hf:=hS1.frame (SH:=[_]) G
  have LM:=zI.stay G.ext λr R=>by
   rw[aO]at R;subst R;exact⟨.inr QF.1,QF.2⟩
  refine aJ.mono (abl (P:=[_,_]) LM hf) ?_;rintro v H6 ⟨rfl,M6,CW,vZ⟩;refine rr ?_;exact(.no hk0 CW<|M.drop (A:=[_]) vZ)
 refine d_ ?_;refine G.lW λHn G=>?_;refine G.lW λHn G=>?_;refine G.lW λHn G=>?_;have hne:rt≠ru:=G.nq 0 1 O O N;refine splitK (λK hK=>?_) ?_
 .simp only[eG,fT];apply lX (a:=rt) (b:=ru) hne (by intros;rfl) (by kernel_rfl) (by kernel_rfl) hK
 have J:=G.ext;generalize hM (hM (hM H5 _) _) Hn=H6 at*;have QG:=hS1.frame (SH:=[_]) G;have QG:M S H0 H6 ((ru,234,wh t1 (decide<|kd=1) av aA 0 0 Oo)::(SH++L)):=M.drop (A:=[_]) QG;have hn6:H.next<=H6.next:=by have:=J.next;have:=hx1.next;omega
 have CW:Rd ax q k H6 SH:=zI.stay J λr R=>by
  have R:r∈[ru]:=R;rw[aO]at R;subst R;exact⟨.inr QF.1,QF.2⟩
 clear G;obtain⟨⟨ra,rc,hrc⟩,hrl⟩:=CW.rules (L:=[_]++L)<|M.inP (P:=[_]) QG;have G:=QG;refine ME.ld hrc ?_;refine aY ?_;refine aC (λy=>?_) λy=>?_
 .refine G.oF<|aJ.mono (abk (P:=[_]) CW G 3 _) ?_;rintro v H7 ⟨rfl,M7,VB,FY⟩;refine rr ?_;exact(.no hk0 VB FY)
 refine d_ ?_
 have Kt:∀(b:Bool) u,Aw u 72=.bool b->gJ Pg X (sub lG [1,1,1,1,1,1,1,0,1]) (nY (pr q.rr) (.bool aA) (pr ru) x4 (pr rt) x6 x7 u H6) (sW Pg X (sub lG [1,1,1,1,1,1,1,1])<|jR Pg [.tmp 2]<|Io ax q k0 S H0 L):=by
  intro b u hb;refine tl ?_;rw[hb];refine aY ?_;refine dL (λhb=>?_) λhb=>?_
  .refine G.oF<|aJ.mono (abk (P:=[_]) CW G 18 _) ?_;rintro v H7 ⟨rfl,M7,VB,FY⟩;refine rr ?_;exact(.no hk0 VB FY)
  .exact ag1 (λr R=>hF r N) ht1 hk0 N CW G _ _ _ _ _
 refine dL (λhb=>?_) λhb=>?_
 .refine d_ ?_;exact Kt _ _ O
 .exact Kt _ _ O
def XM(hF:∀r,H.next<=r->ax r)(hnu:q.nu<=120)(hR:Rd ax q k H SH)(G:M S H0 H<|SH++L):aJ Pg X 120 [pr q.rr] H (Io ax q k S H0 L):=by
 have hkn:=hR.le;refine ce [0,2,3,4,5,6,7] ?_;refine tl ?_;refine G.adZ λH1 ru hS1 hx1=>?_;have zI:=hR.ex hx1;have hS1:M S H0 H1 ((ru,234,wh ⟨#[]⟩ aA aA aA 0 0 0)::(SH++L)):=hS1;refine aY ?_;refine zI.QE (P:=[_]) hS1 0 N λH2 hR2 hS2 hx2=>?_;rw[show min (k+0) (q.n-1)=k by omega];obtain⟨kd,Oo,e1,t1,xa,xn,xc,he,_⟩:=hR2.tok hkn.1;rw[he];refine hS2.nZ O O O λH3 rt rQ hx3=>?_;have Ew:=hR2.ex hx3;have G:M S H0 H3 ((rt,221,[vi kd,B Oo,B e1,.string t1,T xa xn xc])::(ru,234,wh ⟨#[]⟩ aA aA aA 0 0 0)::(SH++L)):=rQ;have hn3:H.next<=H3.next:=by have:=hx1.next;have:=hx2.next;have:=hx3.next;omega
 have mid:∀(b:Bool) x5 x6 x7 u H4,Aw u 28=.bool b->Rd ax q k H4 SH->H3.next<=H4.next->M S H0 H4 ((ru,234,wh ⟨#[]⟩ aA aA aA 0 0 0)::(SH++L))->gJ Pg X (sub lG [1,1,0,1,1]) (nY (pr q.rr) (.bool aA) (pr ru) (pr rt) x5 x6 x7 u H4) (sW Pg X (sub lG [1,1,1])<|jR Pg [.tmp 2]<|Io ax q k S H0 L):=by
  intro b x5 x6 x7 u H4 hb FX hn4 uR;refine tl ?_;rw[hb];refine aY ?_;refine dL (λhb=>?_) λhb=>?_
  .exact FX.VC (P:=[_]) uR λH5 M5 LM hS5 hn5=>LM.st hS5 O O O O (aD O) O λH6 CW vZ hn6=>abn (λr R=>hF r N) hnu N CW vZ _ _ _ _ _
  .exact abn (λr R=>hF r N) hnu (az _) FX uR _ _ _ _ _
 refine d_ ?_;refine aC (λy=>?_) λy=>?_
 .refine d_ ?_;refine dL (λhb=>?_) λhb=>?_
  .refine Ew.QE (P:=[_,_]) G 1 N λH4 FX uR hx4=>?_;obtain⟨kd,Oo,e1,t1,xa,xn,xc,he,_⟩:=FX.tok (i:=min (k+1)<|q.n-1) N;rw[he];refine aJ.mono (Ez uR.wf _ _ _ _ _ O) ?_;rintro v H5 ⟨rfl,hx5⟩;exact mid _ _ _ _ _ _ O (FX.ex hx5) (by have:=hx4.next;have:=hx5.next;omega)<|M.drop (A:=[_])<|uR.call hx5
  .exact mid _ _ _ _ _ _ O Ew (az _)<|M.drop (A:=[_]) G
 .exact mid _ _ _ _ _ _ O Ew (az _)<|M.drop (A:=[_]) G
end
section
variable{S:List Nat}{ax:Nat->Prop}
def Gr(b:Nat)(H:F)(ra:Option Addr)(rn:Nat)(rcs:List D)(na:Option Addr)(nn:Nat)(iH:List D):Prop:=
 i_ (b<=·) 234 H ra rn 7 rcs/\rn<=120/\(∀i,i<rn->RuC (El rcs 7 i))/\i_ (b<=·) 238 H na nn 5 iH/\nn<=4000/\∀i,i<nn->NoC (b<=·) H (El iH 5 i)
def abo(b:Nat)(v:D)(H:F):Prop:=∃ra rn rc rcs na nn nc iH,∃(cd e:Int),v=.tuple ⟨[.agg ⟨[T ra rn rc,T na nn nc]⟩,.agg ⟨[vi cd,vi e]⟩]⟩/\Gr b H ra rn rcs na nn iH/\(na=W\/nc=fI 5)
def Gr.nil(b:Nat)(H:F):Gr b H W 0 [] W 0 []:=
 ⟨i_.nil _ _ _ _ _,N,λi h=>absurd h N,i_.nil _ _ _ _ _,N,λi h=>absurd h N⟩
def Rd.ajA(hR:Rd ax q k H SH)(G:M S H0 H<|SH++L)(j:Nat)(hj:j<=1000)(h:∀C,Rd ax q k C SH->M S H0 C (SH++L)->Ext H C->K (oW q.rt q.ra) (.agg ⟨El q.E 5<|min (k+j)<|q.n-1⟩) C):ME (uP W (.pointer<|Z ⟨q.rp,0,W⟩) H) λv H1=>nJ Pg X (Ls v) [B j] H1 (K v):=by
 have hR0:=hR;obtain⟨rv,rcs,gr,nv,iH,gn,sc,sa,nr,nn,rfl,_⟩:=hR;refine G.ld 2 O O ?_;show aJ Pg X 118 [B j,pr q.rt,pr q.ra] H<|K _;refine aJ.mono (abg hR0 G j hj) ?_;rintro v C ⟨rfl,J⟩;exact h C (hR0.ex J) (G.call J) J
def rP{α:Type}{x:α}(A vn:List α){H':List α}(h:(A++vn).Perm H'):(A++x::vn).Perm (x::H'):=iX.trans<|h.cons x
theorem XN(hw:Wf H)(x0:D)(q0:RC)(rs u re rf:Nat)(f8:D)(H1:F)(hge:H.next<=q0.ra/\q0.ra<H1.next)(hR:Rd (λr=>H.next<=r/\r≠q0.ra) {q0 with nu:=0} 0 H1 SH)(xe:List D)(G:M [] H H1<|SH++[(re,173,xe),(rs,173,[vi 0,vi 0]),(u,171,[T W 0 0,T W 0 0])])(x4 x6:D)(mO):
 gJ Pg X (.loop<|sub Ih [1,1,1,1,1,1,1,0,1,0,0]) (Od x0 (pr u) (pr rs) x4 (pr re) x6 (pr q0.rp) f8 (pr q0.rr) (.bool f) mO H1) (rO 0<|sW Pg X (sub Ih [1,1,1,1,1,1,1,1])<|jR Pg [.cell 2 171,.cell 3 173]<|Q1 (abo H.next) H):=by
 refine YE 10 (h2:=λm jh C=>∃(b:Bool)(j k:Nat)(SH:List dJ),jh=.bool b/\Rd (λr=>H.next<=r/\r≠q0.ra) {q0 with nu:=j} k C SH/\k+m=q0.n/\j<=120/\q0.ra<C.next/\M [] H C (SH++[(re,173,xe),(rs,173,[vi 0,vi 0]),(u,171,[T W 0 0,T W 0 0])])) ?_ q0.n ⟨f,0,0,SH,O,hR,N,N,hge.2,G⟩;clear hR G;rintro m jh mO H2 ⟨b,j,k,M2,rfl,hR,hkm,hj,hra,G⟩;refine tp ?_;refine dL (λhb=>?_) λhb=>?_;rotate_left
 .refine tl ?_;obtain⟨rv,rcs,gr,nv,iH,gn,sc,sa,nr,nn,rfl,Q,I,h3,h4,h5,h6,h7,h8,h9,h10,B5⟩:=hR;have h5:nr=j:=h5;subst h5;have G:=G.perm<|BM _ [_,_,_] [];simp only[bE,bK,a_]at G;obtain⟨va,vn',vc,rfl⟩:∃a n c,rv=T a n c:=by rcases h3 with⟨rfl,_⟩|⟨r,n,dY,rfl,_⟩<;>exact⟨_,_,_,O⟩
  obtain⟨wa,wn,wc,rfl⟩:∃a n c,nv=T a n c:=by rcases h7 with⟨rfl,_⟩|⟨r,n,dY,rfl,_⟩<;>exact⟨_,_,_,O⟩
  refine aY ?_;refine G.iK ?_;have hS0:=G;have G:=M.own (SH:=[(re,173,xe),(rs,173,[vi 0,vi 0]),(u,171,[T W 0 0,T W 0 0])]) hS0;refine PU.b2 O ?_;refine G.jE λHn G=>?_;refine G.jE λHn G=>?_;refine rr ?_;refine d_ ?_;have J:=G.ext;have G:=hS0.frame (SH:=[_,_,_]) G;have hxH:Ext H Hn:=G.ext;have hf:∀e:dJ,e∈gr++gn->H.next<=e.1:=λe he=>G.wB<|cO [_,_,_,_,_,_,_] he
  obtain⟨a1,n1,c1,e1,hl1,hf1⟩:=h3.Jc (ax:=(H.next<=·)) (G.perm<|BM [_,_,_,_,_,_,_] gr gn) λe he=>hf e<|cZ _ he;obtain⟨a2,n2,c2,e2,hl2,hf2⟩:=h7.Jc (ax:=(H.next<=·)) (G.perm<|(gB [_,_,_,_,_,_,_] aF).trans<|BM [_,_,_,_,_,_,_] gn gr) λe he=>hf e<|cO _ he;cases e1;cases e2;obtain rfl:vn'=nr:=by omega
  obtain rfl:wn=nn:=by omega
  have hO:=M.own (SH:=[(re,173,xe),(rs,173,[vi 0,vi 0]),(u,171,[T W 0 0,T W 0 0])]) hS0;have hty:=hO.IG (ty:=3) O;have Tv:=hO.IG (ty:=331) O
  have hcap:wa=W\/wc=fI 5:=by
   rcases h7 with⟨e,_,_⟩|⟨r,n,dY,e,_,_⟩<;>cases e
   .exact .inl O
   .exact .inr O
  refine⟨⟨va,vn',vc,rcs,wa,wn,wc,iH,0,0,O,⟨hf1,hj,h6,hf2,h9,λi hi=>?_⟩,hcap⟩,hxH⟩;refine((h10 i hi).wk λr _ h=>h.1).st J λr R=>⟨.inr<|hty r R,Tv r R⟩
 refine aJ.mono (XM (ax:=λr=>H.next<=r/\r≠q0.ra) (q:={q0 with nu:=j}) (λr R=>⟨?_,?_⟩) hj hR G) ?_
 .have:=G.ext.next;omega
 .omega
 rintro v H3 ⟨b,k3,M3,rfl,Ew,rQ,hk3,hb3⟩;refine aY ?_;refine dL (λhb=>?_) λhb=>?_
 .have hb':b=aA:=by cases b with
   |false=>rfl
   |true=>cases hb
  subst hb';obtain⟨rv,rcs,gr,nv,iH,gn,sc,sa,nr,nn,rfl,Q,I,h3,h4,h5,h6,h7,h8,h9,h10,B5⟩:=Ew;have G:=rQ.perm<|BM _ [_,_,_] [];simp only[bE,bK,a_]at G;refine d_ ?_;refine G.lW λHn G=>?_;refine G.lW λHn G=>?_;refine splitK (λK hK=>?_) ?_
  .simp only[eG,fT];have n1:=G.nq 1 2 O O N;have n2:=G.nq 1 6 O O N;have n3:=G.nq 2 6 O O N;generalize q0.rr=rr at n2 n3|-;apply xS (a:=rs) (b:=u) (c:=rr) n1 n2 n3 (by intros;rfl) (by kernel_rfl) (by kernel_rfl) hK
  refine rr ?_;refine d_ ?_;exact⟨⟨W,0,0,[],W,0,0,[],sc,sa,O,Gr.nil _ _,.inl O⟩,G.ext⟩
 have hb':b=f:=by cases b with
  |true=>rfl
  |false=>cases hb
 subst hb';have hk4:=hb3 O;have Ew:Rd (λr=>H.next<=r/\r≠q0.ra) {q0 with nu:=j+1} k3 H3 M3:=Ew;refine Ew.ajA rQ 0 N λH4 FX uR hx4=>?_;have hkn:=FX.le;rw[show min (k3+0) (q0.n-1)=k3 by have:k3<q0.n:=hkn.1;omega];obtain⟨kd,Oo,e1,t1,xa,xn,xc,he,_⟩:=FX.tok hkn.1;have he:El q0.E 5 k3=_:=he;rw[he,Ey];refine aY ?_;refine⟨q0.n-k3,by have:k3<q0.n:=hkn.1;omega,_,_,_,rfl,_,j+1,k3,M3,rfl,FX,by have:k3<q0.n:=hkn.1;omega,by have I:j<120:=hk4.2;omega,(uR.lo _<|cZ _ FX.mem).2,uR⟩
theorem LP(hw:Wf H)(hT:Bt H)(s:ByteArray):aJ Pg X 93 [.string s] H (Q1 (abo H.next) H):=by
 have G:=M.refl hw;refine ce [0,2,3,4,5,6,7,8,9,10] ?_;refine tl ?_;refine G.iZ λHn u G=>?_;refine G.iZ λHn rs G=>?_;refine aJ.mono (QB G.wf (hT.ex G.ext) s) ?_;rintro v H1 ⟨⟨ts,cd,e,rfl,hts,hT1⟩,J⟩;have hlt:=G.lt;have hS1:=G.call J;have G:=hS1.base;refine aY ?_;refine G.iZ λHn rt G=>G.iZ λHn re G=>?_;have key:bI ts=[ts]/\fB ts=f:=by rcases hts with rfl|⟨a,n,c,rfl⟩<;>exact⟨O,O⟩
 refine G.st 1 O (by rw[key.1];rfl) (az 1) (by rw[key.1];show bR (fB ts) _ _=_;rw[key.2];rfl) λHn G=>?_;rw[key.1]at G;have G:M [rs,u] H1 Hn [(re,173,[vi 0,vi 0]),(rt,215,[ts]),(rs,173,[vi 0,vi 0]),(u,171,[T W 0 0,T W 0 0])]:=G;refine G.kK ?_;refine G.jE λHn G=>?_;refine d_ ?_;refine bT (λy=>?_) λy=>?_
 .refine d_ ?_;refine G.lW λHn G=>?_;refine G.lW λHn G=>?_;refine splitK (λK hK=>?_) ?_
  .simp only[eG,fT];apply xS (a:=rs) (b:=u) (c:=re) (G.nq 2 3 O O N) (G.nq 0 2 O O N).symm (G.nq 0 3 O O N).symm (by intros;rfl) (by kernel_rfl) (by kernel_rfl) hK
  refine rr ?_;refine d_ ?_;exact⟨⟨W,0,0,[],W,0,0,[],cd,e,O,Gr.nil _ _,.inl O⟩,(hS1.over G).ext⟩
 refine G.iZ λHn ra G=>G.jE λHn G=>G.iZ λHn rp G=>G.jE λHn G=>?_;refine d_ ?_;obtain⟨ta,tn,tc,tcs,rfl,hTk⟩:=hT1 y;refine G.box O λH2 rr G=>?_;have G:M [rs,u] H1 H2 [(rr,226,[oW rt ra,x_ rp ra rt,T W 0 0,T W 0 0,vi 0,vi 0]),(rp,222,[oW rt ra]),(ra,3,[B 0]),(re,173,[vi cd,vi e]),(rt,215,[T ta tn tc]),(rs,173,[vi 0,vi 0]),(u,171,[T W 0 0,T W 0 0])]:=G;have G:=G.perm (L':=[(rt,215,[T ta tn tc]),(ra,3,[B 0]),(rp,222,[oW rt ra]),(rr,226,[oW rt ra,x_ rp ra rt,T W 0 0,T W 0 0,vi 0,vi 0]),(re,173,[vi cd,vi e]),(rs,173,[vi 0,vi 0]),(u,171,[T W 0 0,T W 0 0])])<|rP [_,_,_,_] [_,_]<|rP [_,_] [_,_,_]<|rP [_] [_,_,_]<|pN _;have hx2:=G.ext;have G:=hS1.over G;have hra:=G.lo _<|aR (i:=1) O;refine XN hw (.string s) ⟨rt,ra,rp,rr,ta,tn,tc,tcs,0⟩ rs u re rp _ H2 (SH:=[(rt,215,[T ta tn tc]),(ra,3,[B 0]),(rp,222,[oW rt ra]),(rr,226,[oW rt ra,x_ rp ra rt,T W 0 0,T W 0 0,vi 0,vi 0])]) ⟨G.wB<|aR (i:=1) O,hra.2⟩ ?_ [vi cd,vi e] G _ _ _;refine⟨T W 0 0,[],[],T W 0 0,[],[],0,0,0,0,O,?_,?_,GB.nil _ _,O,O,λi h=>absurd h N,GB.nil _ _,rfl,N,λi h=>absurd h N,λh=>h.2 O⟩
 .have:=hTk.2.1;show 0<tn;omega
 .exact hTk.st hx2 (λr R=>.inl<|hlt r R)<|bg _
end
end Go.Proofs.Lu
