/-
  Part 08 of the proof. No condition.
-/
import Derived.Test.YtpngmpbmokhmiaaGreatDoorZ07
set_option linter.unusedVariables false
set_option linter.unusedSimpArgs false
set_option maxRecDepth 100000
set_option maxHeartbeats 4000000
set_option linter.defProp false
open Option renaming some->Z,none->T,rec->aQ
open Bool renaming true->f,false->aA
open Go renaming Value->C,TypeId->aI
open Go.Value renaming int->a_,slice->J,bool->aO,string->aJ,pointer->bG,agg->dN
open List renaming length->u,replicate->aY,range->d_
open And renaming intro->iZ
open Go.IntKind renaming i64->bC
open List.Perm renaming cons->fA
noncomputable section
namespace Go.Proofs.Lv
open Go.Proofs.Lu
open Go.Ae Go.Ae.hx
variable{ak:Nat->Ed->Prop}{H':Nat->Prop}{l mk mk':D Bool}{nx':D Nat}{A:At}{q:AV}{K K':C->R->Prop}{L L' hx:D eF}{H H0:R}{b c es r re s:Nat}{v:C}{vs z:D C}
section
variable{S:D Nat}{cs:Nat->Prop}{n:Nat}{P:Nat->Prop}{nx:D Nat}
def WI{rs:D ResultVar}(h:∀v H,K v H->K' v H):∀o,jO Pg rs K o->jO Pg rs K' o:=by
 have p:∀s:St,(s.df=[]/\@aQ (D C) (λ_=>Prop) False (λvs=>K (uI vs) s.H) (ny Pg s rs))->(s.df=[]/\@aQ (D C) (λ_=>Prop) False (λvs=>K' (uI vs) s.H) (ny Pg s rs)):=by
  rintro s ⟨I,B⟩;refine⟨I,?_⟩;cases ha:ny Pg s rs with
  |none=>rw[ha]at B;exact B
  |some vs=>rw[ha]at B;exact h _ _ B
 intro o m;cases o with
 |norm s=>exact p s m
 |ret s=>exact p s m
 |fail=>exact m
 |exit i s=>exact m
 |goto l s=>exact m
def Lp.bk{ok:Ed->Prop}{key:Ed->Nat}{az:D eF}(h:Lp ok key A ak c n vs az)(U:c<=1000000)(G:SH S H0 H<|az++L)(y:Bk H r 207 vs)(hl:r<H.bV):
 BkM (λt l=>(∀p∈l,p.2∈A.rg p.1/\key p.2=t/\ok p.2)/\∀s e,ak s e->ok e->key e=t->(s,e)∈l) H n (Z ⟨r,0,T⟩):=by
 have⟨b,I,B,h3⟩:=h;have O:u vs=n:=by rw[<-h3.len,aM,B]
 refine⟨vs,⟨y.fl hl N,λW o e _=>by cases e;exact⟨trivial,hl,y.Gb⟩⟩,λt V=>?_⟩;have⟨a,m,c',e1,x,hf⟩:=h3.all G t N;obtain⟨l,hl⟩:∃l,b[t]?=Z l:=⟨_,av N⟩;rw[bL,hl]at x hf;have x:u (UU l)=m*4:=x;rw[Ri]at x;obtain rfl:m=u l:=N;have:=I.len l<|aT hl;exact⟨a,c',l,by rw[av N,e1],hf.wk λ_ _=>trivial,⟨I.snd t l hl,λs e E M w=>I.cpl s e l E M (by rw[w];exact hl)⟩,N⟩
abbrev KZ:Ed->Nat:=λe=>e.2.2
abbrev Ny:Ed->Nat:=λe=>e.2.1
abbrev okC:Ed->Prop:=λe=>e.1=2
theorem agz{tok:Bool}{e:Ed}{dc di E ic cc:Nat}{OK V:D C}{RI RC:D eF}{H1:R}(hc:c<=1000000)(ho:A.Ok)(he:e∈A.rg s)(aw:At.YQ tok e)(hI:Lp (At.YQ tok) KZ A ak c A.ns OK RI)(hC:Lp okC Ny A ak c A.nr V RC)(G:SH [] H H1<|(re,121,[W e.1,W e.2.1,W e.2.2])::(dc,207,V)::(di,207,OK)::(E,27,q.cells A)::(RI++RC)){K:Out->Prop}{x0 x1 x2 x4 x8 jh mQ jY mO rT zX wB yS al am x32 BU x38 an ao ap aq y Gh Cr I M U:C}{oW:D (Nat×C)}(kk:∀Nz NA WJ w Bw Q,Lp (At.YQ tok) KZ A (λs' e'=>ak s' e'\/(s'=s/\e'=e)) (c+1) A.ns Nz WJ->Lp okC Ny A (λs' e'=>ak s' e'\/(s'=s/\e'=e)) (c+1) A.nr NA w->SH [] H Q ((re,121,[W e.1,W e.2.1,W e.2.2])::(dc,207,NA)::(di,207,Nz)::(E,27,q.cells A)::(WJ++w))->
  K (.norm<|nJ x0 x1 x2 x4 (J (Z ⟨di,0,T⟩) A.ns ic) (J (Z ⟨dc,0,T⟩) A.nr cc) (W s) x8 (pt re) jh mQ jY mO rT zX wB yS al am x32 BU x38 an ao ap aq y Gh Cr I M U Bw Q)):
 iC Pg X (sub qT [1,1,1,0,1,0,0,1,1,0,0,1,1,0,0,1,1,0,0,1,1]) (nJ x0 x1 x2 x4 (J (Z ⟨di,0,T⟩) A.ns ic) (J (Z ⟨dc,0,T⟩) A.nr cc) (W s) x8 (pt re) jh mQ jY mO rT zX wB yS al am x32 BU x38 an ao ap aq y Gh Cr I M U oW H1) K:=by
 have hs:=ho.lt he;have ab:KZ e<A.ns:=(ho.e s hs e he).1;have a0:u OK=A.ns:=let⟨b,_,B,h3⟩:=hI;by rw[<-h3.len,aM,B]
 have aE:u V=A.nr:=let⟨b,_,B,h3⟩:=hC;by rw[<-h3.len,aM,B]
 refine tm ?_;obtain⟨v,x,_⟩:∃v,OK[KZ e]?=Z v/\True:=⟨_,av N,trivial⟩;refine G.R8 (k:=KZ e) ab x<|fF ?_;refine G.R4 O O O N λH2 rx G uR=>?_;have G:SH [] H (hM H1 H2) ((rx,209,[W s,W e.1,W e.2.1,W e.2.2])::([(re,121,[W e.1,W e.2.1,W e.2.2]),(dc,207,V),(di,207,OK),(E,27,q.cells A)]++(RI++RC))):=G;have m:=G;refine hI.put hc he aw ab x G λva vl vc H3 WJ ac G xz=>?_;simp only[bQ,bX]at G;have p:=G;refine G.Rj (k:=KZ e) ab N (kk:=λH4 G=>?_);have n1:re≠di:=G.nq 0 2 O O N;refine splitK (λK hK=>?_) ?_
 .have r1:∀{o n:Nat}{a b:R},o+n<=3->oV ⟨2,0,0,0,hM H1 H2,H3⟩ ⟨4,re,o,n,a,b⟩=f:=λh=>sF (m.get 1 O) ((p.get 0 O).iB O) h (Iz ⟨_,_,_,rfl⟩);have r2:∀{n:Nat}{a b:R},n=1->oV ⟨2,0,0,0,hM H1 H2,H3⟩ ⟨4,di,KZ e,n,a,b⟩=f:=λh=>sF (m.get 3 O) ((p.get 2 O).iB O) N λv x=>hI.same v<|lV<|fG x;simp only[uR,eZ,gN];generalize hke:KZ e=ke at r2|-;rcases xz with e|e<;>rw[e]<;>apply Ie (A:=hM H1 H2) (h2:=H3) (a:=re) (b:=di) n1 (by rfl) fQ fQ hK<;>repeat' apply iZ
  all_goals first|exact trivial|(intro h;cases h;done)|exactλ_=>⟨rfl,rfl⟩|exactλ_=>r1 N|exactλ_=>r2 O
 refine acC (λhk=>?_) λhk=>?_
 .exact kk _ V WJ RC _ _ ac (hC.skip (s:=s) (e:=e) λh=>hk (by have:e.1=2:=h;omega)) G
 have ad:okC e:=by show e.1=2;omega
 have Y:Ny e<A.nr:=ho.call he ad;clear m p uR xz n1;generalize hM _ H4=Hz at G|-;refine fF ?_;obtain⟨v,x,_⟩:∃v,V[Ny e]?=Z v/\True:=⟨_,av N,trivial⟩;refine G.R8 (k:=Ny e) Y x<|fF ?_;refine G.R4 O O O N λH5 ry G uR=>?_;have m:=G;have G:=(G.to (cs':=[W s,W e.1,W e.2.1,W e.2.2]) O).cast (L':=(ry,209,[W s,W e.1,W e.2.1,W e.2.2])::(([(re,121,[W e.1,W e.2.1,W e.2.2]),(dc,207,V),(di,207,OK.set (KZ e)<|J va vl vc),(E,27,q.cells A)]++WJ)++(RC++[]))) gB;refine hC.put hc he ad Y x G λvb vm vd H6 w ar G xz=>?_;simp only[bQ,bX,bF]at G;have p:=G;refine G.Rj (k:=Ny e) Y N (kk:=λH7 G=>?_);have n1:re≠dc:=G.nq 0 1 O O N;refine splitK (λK hK=>?_) ?_
 .have r1:∀{o n:Nat}{a b:R},o+n<=3->oV ⟨2,0,0,0,hM Hz H5,H6⟩ ⟨4,re,o,n,a,b⟩=f:=λh=>sF (m.get 1 O) ((p.get 0 O).iB O) h (Iz ⟨_,_,_,rfl⟩);have r2:∀{n:Nat}{a b:R},n=1->oV ⟨2,0,0,0,hM Hz H5,H6⟩ ⟨4,dc,Ny e,n,a,b⟩=f:=λh=>sF (m.get 2 O) ((p.get 1 O).iB O) N λv x=>hC.same v<|lV<|fG x;simp only[uR,eZ,gN];generalize hke:Ny e=ke at r2|-;rcases xz with e|e<;>rw[e]<;>apply Ie (A:=hM Hz H5) (h2:=H6) (a:=re) (b:=dc) n1 (by rfl) fQ fQ hK<;>repeat' apply iZ
  all_goals first|exact trivial|(intro h;cases h;done)|exactλ_=>⟨rfl,rfl⟩|exactλ_=>r1 N|exactλ_=>r2 O
 exact kk _ _ WJ w _ _ ac ar G
end
section
variable{S:D Nat}{cs:Nat->Prop}{n:Nat}{P:Nat->Prop}{nx:D Nat}
def GG(hw:Wf H)(h:vF cs H A q)(ho:A.Ok)(tok:Bool):bM Pg X 77 [q.v A,aO tok] H (Qe (λv Q=>∃mk,Bs H.bV Q A.ns v mk/\∀s,on mk s<->A.Mk tok s) H):=by
 have G:=gM hw;have aw:=ho.big;have Jz:=ho.few;refine lF [0,1,2,4,5,6,7,8,10,11,12,13,15,16,18,19,21,30,31,32,37,38,39,88,89,90,115,116,117,157,158,159] ?_;refine G.box O λH1 E G=>?_;rw[lM]at G;refine G.uE 0 O (by show 0+6<=6;omega) ?_;refine dn (vR G.wf q A) ?_;rintro v H2 ⟨rfl,M⟩;have G:=G.call M;refine G.mkS (ax _) N λH3 U G=>?_;rw[nC]at G;refine bN ?_;refine G.ld 1 (o:=0) O O ?_;refine bN ?_;refine G.mkS (ax _) N λH4 I G=>?_;rw[nC]at G;refine G.ld 2 (o:=4) O O ?_;refine bN ?_;have G:SH [] H H4 ((I,207,aY A.nr<|J T 0 0)::(U,207,aY A.ns<|J T 0 0)::(E,27,q.cells A)::([]++[])):=G;have am:∀(ok:Ed->Prop) ar n,Lp ok ar A (Seen A 0 0) (A.pre 0) n (aY n<|J T 0 0) []:=λok ar n=>⟨aY n [],(KD.nil n).wk (λs e h=>by rcases h with⟨h,_⟩|⟨_,j,h,_⟩<;>omega)<|bD _,gB,by rw[ko];exact Jm.aaa n⟩;refine lp7 7 8 10 32 37 38 39 (h1:=λm x7 x8 jW x32 BU x38 an Q=>∃i y x B RC,x32=W i/\i+m=A.ns/\Lp (At.YQ tok) KZ A (Seen A i 0) (A.pre i) A.ns y B/\Lp okC Ny A (Seen A i 0) (A.pre i) A.nr x RC/\SH [] H Q ((I,207,x)::(U,207,y)::(E,27,q.cells A)::(B++RC))) ?_ A.ns ⟨0,_,_,[],[],rfl,N,am _ _ _,am _ _ _,G⟩;clear G M am;rintro m x7 x8 jW x32 BU x38 an oW H5 ⟨i,y,x,B,RC,rfl,a1,hI,hC,G⟩;refine mG (λhc=>?_) λhc=>?_
 .obtain rfl:i=A.ns:=N;have al:=At.AP ho A.ns;have ao:∀s e,e∈A.rg s->Seen A A.ns 0 s e:=λs e he=>.inl ⟨ho.lt he,he⟩;have ap:SH [] H H5 ((B++RC)++[(I,207,x),(U,207,y),(E,27,q.cells A)]):=G.perm<|aG (l₁:=[_,_,_]);have b1:=hI.bk (L:=RC++[(I,207,x),(U,207,y),(E,27,q.cells A)]) N (ap.cast gB) (G.get 1 O) (G.lo _<|aT (i:=1) O).2;have b2:=hC.bk (L:=[(I,207,x),(U,207,y),(E,27,q.cells A)]) N (fV (A:=B)<|ap.cast gB) (G.get 0 O) (G.lo _<|aT (i:=0) O).2
  have c1:BkM (amr A tok) H5 A.ns (Z ⟨U,0,T⟩):=by
   have⟨vs,V,Y⟩:=b1;refine⟨vs,V,λt ht=>?_⟩;have⟨b,c,l,g3,g4,⟨g5,g6⟩,g7⟩:=Y t ht;exact⟨b,c,l,g3,g4,⟨g5,λs e he hk ab=>g6 s e (ao s e he) hk ab⟩,g7⟩
  have c2:BkM (ams A) H5 A.nr (Z ⟨I,0,T⟩):=by
   have⟨vs,V,Y⟩:=b2;refine⟨vs,V,λt ht=>?_⟩;have⟨b,c,l,g3,g4,⟨g5,g6⟩,g7⟩:=Y t ht;exact⟨b,c,l,g3,g4,⟨λp hp=>⟨(g5 p hp).1,(g5 p hp).2.2,(g5 p hp).2.1⟩,λs e he hk ab=>g6 s e (ao s e he) hk ab⟩,g7⟩
  have M:=G.ext;refine iC.mono (agy G.wf (h.ex M) ho (G.get 2 O) (G.lo _<|aT (i:=2) O).2 c1 c2)<|WI ?_;rintro v H6 ⟨⟨mk,V,Y⟩,g3⟩;exact⟨⟨mk,V.le M.bV,Y⟩,M.trans g3⟩
 have hi:i<A.ns:=N;refine h.ldE G.ext hi λp ea ec hE=>?_;refine bN ?_;have al:=At.yg ho hi;have a3:=At.AP ho<|i+1;refine lp2 10 39 (h1:=λm jW an Q=>∃k y x B RC,an=W k/\k+m=u (A.rg i)/\Lp (At.YQ tok) KZ A (Seen A i k) (A.pre i+k) A.ns y B/\Lp okC Ny A (Seen A i k) (A.pre i+k) A.nr x RC/\SH [] H Q ((I,207,x)::(U,207,y)::(E,27,q.cells A)::(B++RC))) ?_ (u<|A.rg i) ⟨0,y,x,B,RC,rfl,N,hI,hC,G⟩;clear G hI hC hc;rintro m' a4 a5 OH H6 ⟨k,y,x,B,RC,rfl,a2,hI,hC,G⟩;refine mG (λhc=>?_) λhc=>?_
 .obtain rfl:k=u (A.rg i):=N;refine tl ?_;refine eD ?_;exact⟨A.ns-(i+1),N,_,_,_,_,_,_,_,_,_,O,i+1,y,x,B,RC,pq,N,hI.wk (λs e h=>h.all) N,hC.wk (λs e h=>h.all) N,G⟩
 have hk:k<u (A.rg i):=N;refine KX (hE.ex G.ext) hk λp=>?_;have ad:=bH hk;have YK:=ho.len i;have ac:(A.rg i)[k]?=Z (A.rg i)[k]:=av hk;generalize hee:(A.rg i)[k]=e at ac ad|-;refine G.ns O O O λH8 re G z8=>?_;have G:SH [] H H8 ((re,121,[W e.1,W e.2.1,W e.2.2])::(I,207,x)::(U,207,y)::(E,27,q.cells A)::(B++RC)):=G
 have cm:At.YQ tok e->∀oW(K:Out->Prop),(∀Nz NA WJ w Bw Q,Lp (At.YQ tok) KZ A (Seen A i<|k+1) (A.pre i+(k+1)) A.ns Nz WJ->Lp okC Ny A (Seen A i<|k+1) (A.pre i+(k+1)) A.nr NA w->SH [] H Q ((I,207,NA)::(U,207,Nz)::(E,27,q.cells A)::(WJ++w))->
  K (.norm<|nJ (q.v A) (aO tok) (pt E) (J T 0 0) (J (Z ⟨U,0,T⟩) A.ns A.ns) (J (Z ⟨I,0,T⟩) A.nr A.nr) (W i) (J ea (u<|A.rg i) ec) (pt re) top top top top top top top top (J q.ea A.ns q.ec) (W A.ns) (W i) (J ea (u<|A.rg i) ec) (W<|u<|A.rg i) (W k) top top top top top top top top top Bw Q))->
  iC Pg X (sub qT [1,1,1,0,1,0,0,1,1,0,0,1,1,0,0,1,1,0,0,1,1]) (nJ (q.v A) (aO tok) (pt E) (J T 0 0) (J (Z ⟨U,0,T⟩) A.ns A.ns) (J (Z ⟨I,0,T⟩) A.nr A.nr) (W i) (J ea (u<|A.rg i) ec) (pt re) top top top top top top top top (J q.ea A.ns q.ec) (W A.ns) (W i) (J ea (u<|A.rg i) ec) (W<|u<|A.rg i) (W k) top top top top top top top top top oW H8) K:=by
  intro a0 oW K kk;exact agz N ho ad a0 hI hC G λNz NA WJ w Bw Q V Y g3=>kk Nz NA WJ w Bw Q (V.wk (λs e h=>h.bV ac)<|ax _) (Y.wk (λs e h=>h.bV ac)<|ax _)<|fV (A:=[_]) g3
 refine ym (λaq=>?_) λaq=>?_
 .refine ig (λhb=>?_) (λhb=>?_)
  .have aE:¬At.YQ tok e:=λh=>by
    have:=h N;subst this;cases hb
   refine eD ?_;exact⟨u (A.rg i)-(k+1),N,_,_,_,_,O,k+1,y,x,B,RC,pq,N,(hI.skip aE).wk (λs e h=>h.bV ac)<|ax _,(hC.skip λh:e.1=2=>N).wk (λs e h=>h.bV ac)<|ax _,fV (A:=[_]) G⟩
  .refine cm (λ_=>by cases tok<;>simp_all) _ _ λNz NA WJ w Bw Q V Y g3=>?_;refine bN ?_;refine tl ?_;refine eD ?_;exact⟨u (A.rg i)-(k+1),N,_,_,_,_,O,k+1,Nz,NA,WJ,w,pq,N,V,Y,g3⟩
 .refine cm (λh=>absurd N aq) _ _ λNz NA WJ w Bw Q V Y g3=>?_;refine bN ?_;refine tl ?_;refine eD ?_;exact⟨u (A.rg i)-(k+1),N,_,_,_,_,O,k+1,Nz,NA,WJ,w,pq,N,V,Y,g3⟩
end
section
variable{S:D Nat}{cs:Nat->Prop}{n:Nat}{P:Nat->Prop}{nx:D Nat}
def vF.n'(h:vF cs H A q):vF cs (hN H) A q:=⟨h.n,h.s,h.p,h.o,h.e⟩
def Bs.at{k:Nat}{a:aC Addr}{K:C->C->R->Prop}(h:Bs b H n (J a n c) mk)(hk:k<n)(kk:∀p t,(t=f<->on mk k)->K p (aO t) H):PU (BS 1 (J a n c)<|W k) λp=>ME (yh T p H) (K p):=by
 have⟨a',c',e,hl,hf⟩:=h;cases e;obtain⟨t,m⟩:∃t,mk[k]?=Z t:=⟨_,av N⟩;refine hf.ix hk (jV _ m) λp=>kk p t ?_;unfold on;rw[m];simp
def Kq(hw:Wf H)(h:vF cs H A q)(ho:A.Ok)(B:Bs b H A.ns v mk):bM Pg X 85 [q.v A,v] H (Qe (λv Q=>∃l,Bs H.bV Q A.nr v l/\∀r,r<A.nr->(on l r<->on mk (A.S r))) H):=by
 have G:=gM hw;have Jz:=ho.few;obtain⟨ma,mc,rfl,_⟩:=id B;refine lF [0,1,2,4,5,6,7,13,14,15] ?_;refine G.box O λH1 E G=>?_;rw[lM]at G;refine bN ?_;refine G.ld 0 (o:=0) O O ?_;refine bN ?_;refine G.mkS (ax _) N λU M G=>?_;rw[nC]at G;refine G.ld 1 (o:=1) O O ?_;refine bN ?_;have G:SH [] H U [(M,4,bools<|aY A.nr aA),(E,27,q.cells A)]:=G.to gB;refine Gg 6 7 15 (h1:=λm x6 x7 mO Q=>∃i l,mO=W i/\i+m=A.nr/\u l=A.nr/\SH [] H Q [(M,4,bools l),(E,27,q.cells A)]/\∀r,r<i->(on l r<->on mk (A.S r))) ?_ A.nr ⟨0,_,rfl,N,gB,G,λr hr=>N⟩;clear G;rintro m x6 x7 mO oW H3 ⟨i,l,rfl,Y,x,G,y⟩;refine mG (λV=>?_) λV=>?_
 .refine tl ?_;obtain rfl:i=A.nr:=N;refine rr ?_;exact⟨⟨l,⟨_,_,O,x,jC.one G (aK ..) (om x)<|G.yu<|aK ..⟩,y⟩,G.ext⟩
 have w:i<A.nr:=N;refine(h.ex G.ext).ldS ho w λp=>(B.ex G.ext).at (ho.s i w).1 λp t I=>G.Yi w (by simpa using(by omega:i<u l)) (kk:=λp H4 G=>?_);refine eD ?_;refine⟨A.nr-(i+1),N,_,_,_,_,_,O,i+1,l.set i t,pq,N,by rw[bU];exact x,?_,λr hr=>?_⟩
 .have:bools (l.set i t)=(bools l).set i (aO t):=gW;rw[this];exact G
 .unfold on;rw[dX]
  by_cases e:i=r
  .subst e;rw[jj O,jj N];unfold on at I;rw[<-I];simp
  .rw[jx e];exact y r N
def GH(hw:Wf H)(h:vF cs H A q)(ho:A.Ok):bM Pg X 55 [q.v A] H (Qe (λv Q=>∃l,Bs H.bV Q A.nr v l/\∀r,r<A.nr->(on l r<->A.Mk aA (A.S r))) H):=by
 have G:=gM hw;refine lF [0,1,2] ?_;refine G.box O λH1 E G=>?_;rw[lM]at G;refine G.uE 0 O (by show 0+6<=6;omega) ?_;refine dn (vG G.wf (h.ex G.ext) ho) ?_;rintro v m ⟨rfl,M⟩;have G:=G.call M;refine bN ?_;refine ig (λW=>by cases W) λ_=>?_;refine G.MK 0 O (ax 6) ?_
 try simp only[iU G.wf]
 refine G.MK 0 O (ax 6) ?_
 try simp only[iU G.wf]
 refine dn (GG (oC m) (h.ex G.ext).n' ho aA) ?_;rintro v H3 ⟨⟨mk,hm,Y⟩,p⟩;have U:=G.oD p;have N:Bs m.bV (hN<|hM m H3) A.ns v mk:=hm;refine dn (Kq (oC<|hM m H3) (h.ex U.ext).n' ho N) ?_;rintro w V ⟨⟨l,hl,I⟩,x⟩;have xG:=U.oD x;refine iY (by simp only[eZ,fP p,fP x];rfl) ?_;have y:H.bV<=(hM m H3).bV:=U.ext.bV;have B:Bs (hM m H3).bV (hM (hM m H3) V) A.nr w l:=hl;refine rr ?_;exact⟨⟨l,B.le y,λr hr=>(I r hr).trans<|Y _⟩,xG.ext⟩
def aay(hw:Wf H)(h:vF cs H A q)(ho:A.Ok):bM Pg X 96 [q.v A] H (Qe (λv Q=>∃l,Bs H.bV Q A.nr v l/\∀r,r<A.nr->(on l r<->A.Mk f (A.S r))) H):=by
 have G:=gM hw;refine lF [0,1,2] ?_;refine G.box O λH1 E G=>?_;rw[lM]at G;refine G.uE 0 O (by show 0+6<=6;omega) ?_;refine dn (vG G.wf (h.ex G.ext) ho) ?_;rintro v m ⟨rfl,M⟩;have G:=G.call M;refine bN ?_;refine ig (λW=>by cases W) λ_=>?_;refine G.MK 0 O (ax 6) ?_
 try simp only[iU G.wf]
 refine G.MK 0 O (ax 6) ?_
 try simp only[iU G.wf]
 refine dn (GG (oC m) (h.ex G.ext).n' ho f) ?_;rintro v H3 ⟨⟨mk,hm,Y⟩,p⟩;have U:=G.oD p;have N:Bs m.bV (hN<|hM m H3) A.ns v mk:=hm;refine dn (Kq (oC<|hM m H3) (h.ex U.ext).n' ho N) ?_;rintro w V ⟨⟨l,hl,I⟩,x⟩;have xG:=U.oD x;refine iY (by simp only[eZ,fP p,fP x];rfl) ?_;have y:H.bV<=(hM m H3).bV:=U.ext.bV;have B:Bs (hM m H3).bV (hM (hM m H3) V) A.nr w l:=hl;refine rr ?_;exact⟨⟨l,B.le y,λr hr=>(I r hr).trans<|Y _⟩,xG.ext⟩
end
section
variable{S:D Nat}{cs:Nat->Prop}{n:Nat}{P:Nat->Prop}{nx:D Nat}
def _root_.Go.Ae.SH.bSx(G:SH S H0 H L){e:aI}(y:u z=es)(x:rP v=f)(p:u (cr v)=es)(w:es<=16777216)(k:∀H1 r,SH S H0 H1 ((r,e,cr v)::L)->Ext H H1->K (J (Z ⟨r,0,T⟩) 1 1) H1):ME (Go.Ae.bS e z es 1 [(0,v)] H) K:=
 (gM G.wf).bS y x p w λH1 r m=>k H1 r (SH.frame (hx:=[]) (L:=L) G m) m.ext
def aaz(h:H.cell re 0=Z v)(y:re<H.bV)(hl:Bs b H A.nr v l)(ho:A.Ok)(x:∀r,r<A.nr->(on l r<->A.Mk aA (A.S r))):Wnt A A.isF H (.func (.func 189) ⟨[]⟩ ⟨[pt re]⟩):=by
 intro Q s e M U I;have hl:=hl.ex M;have h:Q.cell re 0=Z v:=(l8 (M.obj re y gB) 0).trans h;have y:=aP y M.bV;show bM Pg X 189 [_,pt re] Q _;have G:=gM U;refine lF [0,1,2,3] ?_;refine G.box O λH1 rb G=>?_;have G:SH [] Q H1 [(rb,121,[W e.1,W e.2.1,W e.2.2])]:=G;refine ym (λB=>?_) λB=>?_
 .refine rr ?_;exact⟨⟨f,O,λ_=>.inl N,λ_=>rfl⟩,G.ext⟩
 refine ym (λw=>?_) λw=>?_
 .have m:=ho.call I N;refine G.CJ h y<|G.qE ?_;obtain⟨V,Y,rfl,_⟩:=id hl;refine(hl.ex G.ext).at m λp t E=>?_;refine rr ?_;refine⟨⟨t,O,λh=>.inr ⟨N,(x _ m).1<|E.1 h⟩,λh=>?_⟩,G.ext⟩;rcases h with h|h
  .exact absurd N B
  .exact E.2<|(x _ m).2 h.2
 .refine rr ?_;refine⟨⟨aA,O,λh=>(by cases h),λh=>?_⟩,G.ext⟩;rcases h with h|h
  .exact absurd N B
  .exact absurd (by have:=h.1;omega) w
def aop(b:Nat)(H:R)(v:C)(p:Nat->Prop):Prop:=∃a c l,v=J a (u l) c/\jC (b<=·) 3 H a (u l) 1 (gq l)/\l.Pairwise (·<·)/\∀t,t∈l<->p t
def onL(mk:D Bool)(i:Nat):D Nat:=(d_ i).filter λt=>mk[t]?==Z f
def Um(mk:D Bool)(i:Nat):onL mk (i+1)=onL mk i++(if mk[i]?==Z f then[i]else[]):=by
 unfold onL;rw[wZ,uG];congr 1;simp[pX]
def agA(mk:D Bool)(i:Nat):u (onL mk i)<=i:=by
 unfold onL;have:=m_ (λt=>mk[t]?==Z f)<|d_ i
 rwa [l6]at this
def free_spec(hw:Wf H)(h:vF cs H A q)(ho:A.Ok)(hs:s<A.ns):bM Pg X 159 [q.v A,W s] H (Qe (λv Q=>aop H.bV Q v<|A.fre s) H):=by
 have G:=gM hw;have ab:=ho.big;refine lF [0,1,2,4,5,6,7,8,9,30,31,32] ?_;refine G.box O λH1 E G=>?_;rw[lM]at G;refine G.uE 0 O (by show 0+6<=6;omega) ?_;refine dn (vG G.wf (h.ex G.ext) ho) ?_;rintro v H2 ⟨rfl,M⟩;have G:=G.call M;refine bN ?_;refine ig (λy=>by cases y) λ_=>?_;refine aV (λU=>N) λ_=>?_;refine G.uE 0 O (by show 0+6<=6;omega) ?_;refine dn (vR G.wf q A) ?_;rintro v H3 ⟨rfl,M⟩;have G:=G.call M;refine bN ?_;refine aV (λU=>N) λ_=>?_;refine tl ?_;refine G.uE 0 O (by show 0+6<=6;omega) ?_;refine dn (GH G.wf (h.ex G.ext) ho) ?_;rintro v H4 ⟨⟨l,hl,an⟩,M⟩;have G:=G.call M;obtain⟨ea,ec,rfl,_⟩:=id hl;refine G.ns O O O λH5 re G ao=>?_;have G:SH [] H H5 [(re,34,[J ea A.nr ec]),(E,27,q.cells A)]:=G;have al:=hl.ex ao;refine G.uE 1 O (by show 0+6<=6;omega) ?_;refine G.bSx O O O N λH6 rx G ap=>?_;have G:SH [] H H6 [(rx,3,gq [s]),(re,34,[J ea A.nr ec]),(E,27,q.cells A)]:=G;have ad:=G.ext.bV;refine dn (PV (cs:=λ_=>True) (fl:=[s]) (w:=A.isF) G.wf ((h.ex G.ext).wk λ_ _=>trivial) ho (jC.one G (aK ..) O trivial) (by simpa using hs) (gB)<|aaz ((G.get 1 O).cell O) (G.lo _<|aT (i:=1) O).2 (al.ex ap) ho an) ?_;rintro v H7 ⟨⟨mk,hm,hk⟩,M⟩;have G:=G.call M;have am:u mk=A.ns:=let⟨_,_,_,h,_⟩:=hm;h
 have V:∀t,on mk t<->A.fre s t:=λt=>by
  rw[hk];have:(·∈[s])=(·=s):=by funext x;simp
  rw[this];rfl
 obtain⟨ma,mc,rfl,_⟩:=id hm;refine bN ?_;have B:=G;refine Ov 7 8 9 32 (h1:=λm x7 x8 x9 x32 Q=>∃i gb,x32=W i/\i+m=A.ns/\GB 3 1 x7 (gq<|onL mk i) gb/\SH [] H7 Q (gb++[])) ?_ A.ns ⟨0,[],rfl,N,GB.nil _ _,gM G.wf⟩;clear G;rintro m x7 x8 x9 x32 oW H8 ⟨i,gb,rfl,aq,Y,G⟩;refine mG (λU=>?_) λU=>?_
 .refine tl ?_;obtain rfl:i=A.ns:=N;obtain⟨a,n,c,rfl,hn,hf⟩:=Y.UT G;have hn:u (onL mk A.ns)=n:=om hn;subst hn;refine rr ?_;refine⟨⟨a,c,onL mk A.ns,O,hf.le<|aR ad M.bV,?_,λt=>?_⟩,B.ext.trans G.ext⟩
  .exact List.Pairwise.filter _ List.pairwise_lt_range
  .rw[<-V];unfold onL on;rw[List.mem_filter,jR];constructor
   .intro h;simpa using h.2
   .intro h;exact⟨by have:=(bK.1 h).1;omega,om h⟩
 have hi:i<A.ns:=N;have ar:=agA mk i;refine(hm.ex G.ext).at hi λp t ht=>?_;refine sD (λy=>?_) λy=>?_
 .subst y;refine Y.push G N O O O O O N (by simpa using(by omega:u (onL mk i)<=16777216)) λw v' H9 iX ac G=>?_;refine eD ?_;refine⟨A.ns-(i+1),N,_,_,_,_,_,_,O,i+1,iX,pq,N,?_,G⟩;have I:=ht.1 O;unfold on at I;rw[Um,I];have:gq (onL mk i++if(Z f==Z f)=f then[i]else[])=gq (onL mk i)++cr (W i):=by simp;rfl
  rw[this];exact ac
 .subst y;refine eD ?_;refine⟨A.ns-(i+1),N,_,_,_,_,_,_,O,i+1,gb,pq,N,?_,G⟩;have I:¬on mk i:=λh=>by cases ht.2 h
  unfold on at I;rw[Um,jx<|om I,bF];exact Y
end
end Go.Proofs.Lv
namespace Go.Proofs.Lu
open Go.Ae
namespace At
variable{e:Ed}{a b s:Nat}{A2:At}
variable{A A':At}{lw k k2 c c2:Nat}
def fr(A:At):At:={A with ow:=A.ow++[A.nr-1],eg:=A.eg++[[]]}
def pu(A:At)(s:Nat)(e:Ed):At:={A with eg:=A.eg.set s (A.rg s++[e])}
def tot(A:At):Nat:=(A.eg.map u).sum
def EdL(lw ty:Nat)(e:Ed):Prop:=e.1=0\/(e.1=1/\e.2.1<ty)\/(e.1=2/\e.2.1<lw)
structure Bu(lw:Nat)(A:At):Prop where
 AX:u A.eg=A.ns
 o:∀s,s<A.ns->A.aj s<A.nr
 e:∀s,s<A.ns->∀e∈A.rg s,e.2.2<A.ns/\A.aj e.2.2=A.aj s/\EdL lw A.ty e
structure Gw(A A':At)(k c:Nat):Prop where
 nm:A'.nm=A.nm
 st:A'.st=A.st
 sp:A'.sp=A.sp
 ty:A'.ty=A.ty
 ow:A'.ow=A.ow++aY k (A.nr-1)
 tt:A'.tot=A.tot+c
def Gw.refl(A:At):Gw A A 0 0:=⟨O,O,O,O,gB,O⟩
def Gw.nr(h:Gw A A' k c):A'.nr=A.nr:=eY u h.nm
def Gw.ns(h:Gw A A' k c):A'.ns=A.ns+k:=by
 unfold At.ns;rw[h.ow];simp
def Gw.trans(h:Gw A A' k c)(B:Gw A' A2 k2 c2):Gw A A2 (k+k2) (c+c2):=
 ⟨B.nm.trans h.nm,B.st.trans h.st,B.sp.trans h.sp,B.ty.trans h.ty,by rw[B.ow,h.ow,h.nr,cK,List.replicate_append_replicate],by rw[B.tt,h.tt,Nat.add_assoc]⟩
def Gw.cast(h:Gw A A' k c)(hk:k=k2)(m:c=c2):Gw A A' k2 c2:=by subst hk;subst m;exact h
def Gw.aj(h:Gw A A' k c)(hs:s<A.ns):A'.aj s=A.aj s:=by
 unfold At.aj;rw[h.ow,bZ hs]
def cur(A:At)(s:Nat):Prop:=s<A.ns/\A.aj s=A.nr-1
def cur.gw(h:A.cur s)(g:Gw A A' k c):A'.cur s:=⟨by rw[g.ns];have:=h.1;omega,by rw[g.aj h.1,g.nr];exact h.2⟩
def Gw.fr(A:At):Gw A A.fr 1 0:=⟨O,O,O,O,O,by unfold At.tot At.fr;simp⟩
def adW(A:At):A.fr.cur A.ns:=by
 refine⟨by rw[(Gw.fr A).ns];omega,?_⟩;show(A.ow++[A.nr-1])[u A.ow]?.getD 0=_;rw[eB (ax _),kJ];rfl
def aoq(hl:u A.eg=A.ns)(s:Nat):A.fr.rg s=A.rg s:=by
 show(A.eg++[[]])[s]?.getD []=_;unfold rg;rcases dH s (u A.eg)with h|h
 .rw[bZ h]
 .rw[eB h,dB (by omega:u A.eg<=s)];cases s-u A.eg<;>rfl
def Bu.fr(h:Bu lw A)(w:1<=A.nr):Bu lw A.fr:=by
 have g:=Gw.fr A;have p:=g.ns;refine⟨?_,λs hs=>?_,λs hs e m=>?_⟩
 .show u (A.eg++[[]])=_;rw[aU,p,h.AX];rfl
 .rcases dH s A.ns with I|I
  .rw[g.aj I,g.nr];exact h.o s I
  .obtain rfl:s=A.ns:=N;rw[(adW A).2,g.nr];omega
 .rw[aoq h.AX]at m;rcases dH s A.ns with I|I
  .have⟨a,b,c⟩:=h.e s I e m;exact⟨N,by rw[g.aj a,g.aj I];exact b,c⟩
  .rw[Uj h.AX N]at m;cases m
def agB{l:D (D Ed)}{x:D Ed}(hs:s<u l)(M:x=l[s]++[e]):((l.set s x).map u).sum=(l.map u).sum+1:=by
 induction l generalizing s with
 |nil=>simp at hs
 |cons y l m=>
  cases s with
  |zero=>
   subst M;simp;omega
  |succ s=>
   have:=m (s:=s) (om hs)<|om M;simp only[kC,i_,qB,this];omega
def Gw.pu(hl:u A.eg=A.ns)(hs:s<A.ns)(e:Ed):Gw A (A.pu s e) 0 1:=
 ⟨rfl,rfl,rfl,rfl,by simp[At.pu],by
  have m:s<u A.eg:=N;refine agB (e:=e) m ?_;unfold rg;rw[av m];rfl⟩
def ajJ(hl:u A.eg=A.ns)(hs:s<A.ns)(t:Nat):(A.pu s e).rg t=if t=s then A.rg s++[e]else A.rg t:=by
 show(A.eg.set s<|A.rg s++[e])[t]?.getD []=_;rw[dX]
 by_cases h:s=t
 .subst h;rw[jj O,jj N,jj O];rfl
 .rw[jx h,jx λe=>h e.symm];rfl
def Bu.pu(h:Bu lw A)(hs:s<A.ns)(I:e.2.2<A.ns)(B:A.aj e.2.2=A.aj s)(w:EdL lw A.ty e):Bu lw (A.pu s e):=by
 refine⟨?_,h.o,λt x p he=>?_⟩
 .show u (A.eg.set s _)=_;rw[bU];exact h.AX
 .rw[ajJ h.AX hs]at he;split at he
  .next m=>
   subst m;rcases cB.1 he with he|he
   .exact h.e t hs p he
   .rw[aS]at he;subst he;exact⟨I,B,w⟩
  .exact h.e t x p he
def Bu.puC(h:Bu lw A)(hs:A.cur s)(I:A.cur e.2.2)(m:EdL lw A.ty e):Bu lw (A.pu s e):=h.pu hs.1 I.1 (I.2.trans hs.2.symm) m
def ru(A:At)(nm:aZ):At:={A with nm:=A.nm++[nm]}
def se(A:At)(a b:Nat):At:={A with st:=A.st++[a],sp:=A.sp++[b]}
structure Bs'(lw:Nat)(A:At):Prop where
 bu:Bu lw A
 YN:u A.st=A.nr
 YO:u A.sp=A.nr
 s:∀r,r<A.nr->A.S r<A.ns/\A.aj (A.S r)=r
 p:∀r,r<A.nr->A.P r<A.ns/\A.aj (A.P r)=r
def Bu.ru(h:Bu lw A)(nm:aZ):Bu lw (A.ru nm):=
 ⟨h.AX,λs hs=>by
   have:=h.o s hs;show A.aj s<u (A.nm++[nm]);rw[aU];exact Nat.lt_succ_of_lt this,h.e⟩
def Bs'.bV(h:Bs' lw A){nm:aZ}{A1:At}(g:Gw (A.ru nm) A1 k c)(M:A1.cur a)(O:A1.cur b)(m:Gw (A1.se a b) A2 k2 c2)(W:Bu lw A2):Bs' lw A2:=by
 have y:A2.nr=A.nr+1:=by rw[m.nr];show A1.nr=_;rw[g.nr];show u (A.nm++[nm])=_;rw[aU];rfl
 have B:A2.st=A.st++[a]:=by rw[m.st];show A1.st++[a]=_;rw[g.st];rfl
 have E:A2.sp=A.sp++[b]:=by rw[m.sp];show A1.sp++[b]=_;rw[g.sp];rfl
 have Y:A1.ns=A.ns+k:=g.ns;have n2:A2.ns=A1.ns+k2:=m.ns;have x:A1.nr=A.nr+1:=by rw[g.nr];show u (A.nm++[nm])=_;rw[aU];rfl
 have V:∀t,t<A.ns->A2.aj t=A.aj t:=λt w=>by
  rw[m.aj (show t<A1.ns by omega)];exact g.aj w
 have U:∀t,A1.cur t->A2.aj t=A.nr:=λt w=>by
  rw[m.aj w.1];show A1.aj t=_;rw[w.2,x];omega
 refine⟨W,by rw[B,aU,h.YN,y];rfl,by rw[E,aU,h.YO,y];rfl,λr X=>?_,λr X=>?_⟩
 .unfold S;rw[B];rcases dH r A.nr with I|I
  .rw[bZ (by rw[h.YN];exact I)];have:=h.s r I;exact⟨aP this.1 N,(V _ this.1).trans this.2⟩
  .obtain rfl:r=A.nr:=N;rw[eB (by rw[h.YN];exact ax _),h.YN,kJ];exact⟨by show a<_;have:=M.1;omega,U a M⟩
 .unfold P;rw[E];rcases dH r A.nr with I|I
  .rw[bZ (by rw[h.YO];exact I)];have:=h.p r I;exact⟨aP this.1 N,(V _ this.1).trans this.2⟩
  .obtain rfl:r=A.nr:=N;rw[eB (by rw[h.YO];exact ax _),h.YO,kJ];exact⟨by show b<_;have:=O.1;omega,U b O⟩
theorem Bs'.ok(h:Bs' lw A)(hl:A.nr=lw)(y:1<=A.nr)(x:A.nr<=1000)(m:A.ns<=4000)(ht:A.tot<=100000):A.Ok where
 pos:=y
 YN:=h.YN
 YO:=h.YO
 AX:=h.bu.AX
 big:=m
 few:=x
 s:=h.s
 p:=h.p
 o:=h.bu.o
 e:=λs hs e w=>by
  have⟨a,b,c⟩:=h.bu.e s hs e w;refine⟨a,b,?_⟩;unfold EdL at c;unfold agv;rw[hl];exact c
 tot:=ht
end At
variable{F' K:Nat->Prop}{oW:D (Nat×C)}{L L' hx M' M1 gb:D eF}{A A' A1:At}{H':C->R->Prop}{zs:Nat->D Nat}{H Q H0 H1 H3:R}{kd:Nat->Int}{b c c1 es g i j k kc nc nn o r ra rb rc tn vc xc xn z:Nat}{F jw rcs:D C}{ty:aI}{a ka na va xa:aC Addr}{e:Ed}{nm t:aZ}{v mQ jY mO rT BV wB x20 yS FQ zK x24 x25 x32 KI BU x38 R7 x65 x66:C}{l ws:D Nat}
section
open Go.Ae Go.Ae.hx Go.Proofs.Lv
variable{S:D Nat}{cs:Nat->Prop}
def Bd(ra:Nat)(A:At)(hx:D eF):Prop:=∃y I E B ev m p x w go ge az,hx=(ra,27,[y,I,E,B,ev,W A.ty])::(p++(x++(w++(go++(ge++az)))))/\GB 9 1 y (A.nm.map aJ) p/\GB 3 1 I (gq A.st) x/\GB 3 1 E (gq A.sp) w/\GB 3 1 B (gq A.ow) go/\GB 119 1 ev m ge/\Jm 121 3 (A.eg.map Bf) m az
def _root_.Go.Ae.GB.Ve(h:GB ty 1 v F gb):∃a c,v=J a (u F) c:=by
 rcases h with⟨rfl,rfl,_⟩|⟨r,n,m,rfl,p,_⟩
 .exact⟨T,0,O⟩
 .obtain rfl:n=u F:=N;exact⟨_,_,O⟩
theorem WK(hB:Bd ra A hx)(G:SH S H0 H<|hx++L)(hp:1<=A.nr)(hn:A.nr<=1000)(hs:A.ns<=100000)(hl:u A.eg=A.ns):bM Pg X 152 [pr ra] H λv Q=>v=W A.ns/\∃M',Bd ra A.fr M'/\SH S H0 Q (M'++L):=by
 obtain⟨nv,I,E,ov,ev,M,x,B,y,go,ge,az,rfl,ab,al,Un,ad,ac,hR⟩:=hB;have G:=G.cast (L':=(ra,27,[nv,I,E,ov,ev,W A.ty])::(x++(B++(y++(go++(ge++(az++L))))))) gB;have am:u M=A.ns:=by rw[<-hR.len,aM,hl]
 refine GV [0,1] ?_;refine G.ld 0 (o:=3) O O ?_;refine G.ld 0 (o:=0) O O ?_;obtain⟨na,nc,rfl⟩:=ab.Ve;refine bN ?_;rw[aM];refine dA (qP (by have:A.nr=u A.nm:=rfl;omega) (by have:A.nr=u A.nm:=rfl;omega)) ?_;rw[show((u A.nm:Int)-1)=((A.nr-1:Nat):Int) by have:A.nr=u A.nm:=rfl;omega]
 have G:=G.perm (L':=go++((ra,27,[J na (u<|A.nm.map aJ) nc,I,E,ov,ev,W A.ty])::(x++(B++(y++(ge++(az++L))))))) (by
  have:=jB ((ra,27,[J na (u<|A.nm.map aJ) nc,I,E,ov,ev,W A.ty])::(x++(B++y))) go<|ge++(az++L);simpa using this)
 refine ad.push G N O O O O O N (by simpa using(by unfold At.ns at hs;omega:u A.ow<=16777216)) λw v1 H1 m V G=>?_;have G:=G.perm (L':=(ra,27,[J na (u<|A.nm.map aJ) nc,I,E,ov,ev,W A.ty])::(m++(x++(B++(y++(ge++(az++L))))))) jK;obtain⟨Y,oc,rfl⟩:=V.Ve;refine G.st 0 O O (by show 3+1<=6;omega) rfl λH2 G=>?_;have G:=G.to (cs':=[J na (u<|A.nm.map aJ) nc,I,E,J Y (u<|gq A.ow++cr (W<|A.nr-1)) oc,ev,W A.ty]) O;refine G.ld 0 (o:=4) O O ?_
 have G:=G.perm (L':=ge++((ra,27,[J na (u<|A.nm.map aJ) nc,I,E,J Y (u<|gq A.ow++cr (W<|A.nr-1)) oc,ev,W A.ty])::(m++(x++(B++(y++(az++L))))))) (by
  have:=jB ((ra,27,[J na (u<|A.nm.map aJ) nc,I,E,J Y (u<|gq A.ow++cr (W<|A.nr-1)) oc,ev,W A.ty])::(m++(x++(B++y)))) ge<|az++L;simpa using this)
 refine ac.push G N O O O O O N N λw v2 H3 p U G=>?_;have G:=G.perm (L':=(ra,27,[J na (u<|A.nm.map aJ) nc,I,E,J Y (u<|gq A.ow++cr (W<|A.nr-1)) oc,ev,W A.ty])::(p++(m++(x++(B++(y++(az++L))))))) jK;obtain⟨ea,ec,rfl⟩:=U.Ve;refine G.st 0 O O (by show 4+1<=6;omega) rfl λH4 G=>?_;have G:=G.to (cs':=[J na (u<|A.nm.map aJ) nc,I,E,J Y (u<|gq A.ow++cr (W<|A.nr-1)) oc,J ea (u<|M++cr (J T 0 0)) ec,W A.ty]) O;refine G.ld 0 (o:=3) O O ?_;refine bN ?_;have ol:u (gq A.ow++cr (W<|A.nr-1))=A.ns+1:=by rw[aU,aM];rfl
 rw[ol]at G|-;refine rA ?_;rw[show(((A.ns+1:Nat):Int)-1)=(A.ns:Int) by omega];refine rr ?_;refine⟨O,(ra,27,[J na (u<|A.nm.map aJ) nc,I,E,J Y (A.ns+1) oc,J ea (u<|M++cr (J T 0 0)) ec,W A.ty])::(x++(B++(y++(m++(p++az))))),⟨_,_,_,_,_,M++[J T 0 0],x,B,y,m,p,az,O,ab,al,Un,?_,U,?_⟩,?_⟩
 .have:gq (A.fr).ow=gq A.ow++cr (W<|A.nr-1):=by show gq (A.ow++[A.nr-1])=_;simp;rfl
  rw[this,<-ol];exact V
 .have:(A.fr).eg.map Bf=A.eg.map Bf++[[]]:=by show(A.eg++[[]]).map Bf=_;simp;rfl
  rw[this];have:=hR.snoc<|GB.nil 121 3
  rwa [bF]at this
 .apply G.perm;have p1:=jB p m<|(x++(B++y))++(az++L);have p2:=jB (m++p) (x++(B++y))<|az++L;simp only[cK]at p1 p2;have p3:=p1.trans p2;simp only[bQ,cK];rw[ol]at*;exact p3.cons _
end
section
open Go.Ae Go.Ae.hx Go.Proofs.Lv
variable{S:D Nat}{cs:Nat->Prop}
def adX:∀{l:D Nat}{x:Nat},x∈l->x<=l.sum
 |y::l,x,h=>by
  rw[qB];rcases bW.1 h with rfl|h
  .omega
  .have:=adX h;omega
theorem aaA{fr:Nat}(hB:Bd ra A hx)(G:SH S H0 H<|hx++L)(hf:fr<A.ns)(hl:u A.eg=A.ns)(ht:A.tot<=1000000):bM Pg X 153 [W fr,dN ⟨[W e.1,W e.2.1,W e.2.2]⟩,pr ra] H λv Q=>∃M',Bd ra (A.pu fr e) M'/\SH S H0 Q (M'++L):=by
 obtain⟨nv,sv,pv,ov,ev,m,B,M,E,go,ge,az,rfl,am,ao,Un,an,al,hR⟩:=hB;have ac:u m=A.ns:=by rw[<-hR.len,aM,hl]
 rcases al with⟨_,h0,_⟩|⟨p,n,y,rfl,hn,rfl⟩
 .rw[h0]at ac;simp at ac;omega
 obtain rfl:n=A.ns:=N;obtain⟨A',gb,w,rfl,ad,ab⟩:=hR.at fr N
 have hE:(A.eg.map Bf)[fr]?.getD []=Bf (A.rg fr):=by
  unfold At.rg;rw[bL,av (show fr<u A.eg by omega)];rfl
 rw[hE]at ad
 have aq:u (A.rg fr)<=1000000:=by
  have:u (A.rg fr)<=A.tot:=by
   unfold At.rg At.tot;rw[av (show fr<u A.eg by omega)];exact adX<|bT.2 ⟨_,bH _,O⟩
  omega
 have ap:(m++y)[fr]?=Z m[fr]:=by rw[bZ N];exact av N
 have G:=G.perm (L':=(ra,27,[nv,sv,pv,ov,J (Z ⟨p,0,T⟩) A.ns<|gK 1,W A.ty])::(p,119,m++y)::(gb++((B++(M++(E++go)))++(A'++(w++L))))) (by
  have p1:=jB (B++(M++(E++go))) [(p,119,m++y)]<|A'++(gb++(w++L));have p2:=jB ((B++(M++(E++go)))++A') gb<|w++L;simp only[cK,bQ,bX]at p1 p2|-;exact(p1.trans<|p2.cons _).cons _)
 refine lF [0,1,2,4] ?_;refine G.box O λH1 re G=>?_;have G:SH S H0 H1 ((re,121,[W e.1,W e.2.1,W e.2.2])::(ra,27,[nv,sv,pv,ov,J (Z ⟨p,0,T⟩) A.ns<|gK 1,W A.ty])::(p,119,m++y)::(gb++((B++(M++(E++go)))++(A'++(w++L))))):=G;refine fF ?_;refine G.R8 hf ap ?_;refine fF ?_;refine G.R4 O O O N λH2 rx G uR=>?_;have V:=G;have G:=(G.to (cs':=[W e.1,W e.2.1,W e.2.2]) O).perm (L':=(rx,121,[W e.1,W e.2.1,W e.2.2])::(gb++([(re,121,[W e.1,W e.2.1,W e.2.2]),(ra,27,[nv,sv,pv,ov,J (Z ⟨p,0,T⟩) A.ns<|gK 1,W A.ty]),(p,119,m++y)]++((B++(M++(E++go)))++(A'++(w++L))))))<|(jB [_,_,_] gb _).cons _;refine ad.KB G N O O (by rw[Lm];omega) λv' H3 iX U G _ _ xz=>?_;have G:=G.perm<|jB iX [_,_,_] _;simp only[bQ,bX]at G;have Y:=G;obtain⟨va,vl,vc,rfl⟩:=U.sl;refine G.Rj hf (by rw[aU];omega) (kk:=λH4 G=>?_);have n1:re≠ra:=G.nq 0 1 O O N;have n2:re≠p:=G.nq 0 2 O O N;have n3:ra≠p:=G.nq 1 2 O O N;refine splitK (λK hK=>?_) ?_
 .have r1:∀{o n:Nat}{a b:R},o+n<=3->oV ⟨2,0,0,0,hM H1 H2,H3⟩ ⟨4,re,o,n,a,b⟩=f:=λh=>sF (V.get 1 O) ((Y.get 0 O).iB O) h (Iz ⟨_,_,_,rfl⟩)
  have r2:∀{a b:R},oV ⟨2,0,0,0,hM H1 H2,H3⟩ ⟨4,ra,4,1,a,b⟩=f:=λ{a b}=>sF (V.get 2 O) ((Y.get 1 O).iB O) (by show 4+1<=6;omega) (by
   intro v hv;have hv:v∈[J (Z ⟨p,0,T⟩) A.ns (gK 1)]:=hv;rw[aS]at hv;subst hv;exact qR _ _ _ λx h=>by cases h;rfl)
  have r3:∀{a b:R},oV ⟨2,0,0,0,hM H1 H2,H3⟩ ⟨4,p,fr,1,a,b⟩=f:=λ{a b}=>sF (V.get 3 O) ((Y.get 2 O).iB O) (by rw[aU];omega) (by
   intro v hv
   have:v=m[fr]:=by
    have I:((m++y).drop fr).take 1=[m[fr]]:=by
     rw[eH (by rw[aU];omega),jS,kR,jy N]
    rw[I,aS]at hv;exact hv
   subst this;exact Cx hR _<|bH _)
  simp only[uR,eZ,gN];rcases xz with e|e<;>rw[e]<;>apply QO (A:=hM H1 H2) (h2:=H3) (a:=re) (b:=ra) (c:=p) n1 n2 n3 (by rfl) fQ fQ hK<;>repeat' apply iZ
  all_goals first|exact trivial|(intro h;cases h;done)|exactλ_=>⟨rfl,rfl⟩|exactλ_=>r1 N|exactλ_=>r2|exactλ_=>r3
 refine rn ?_;refine⟨(ra,27,[nv,sv,pv,ov,J (Z ⟨p,0,T⟩) A.ns<|gK 1,W A.ty])::(B++(M++(E++(go++([(p,119,m.set fr (J va vl vc)++y)]++(A'++(iX++w))))))),⟨nv,sv,pv,ov,_,m.set fr<|J va vl vc,B,M,E,go,_,A'++(iX++w),O,am,ao,Un,an,.inr ⟨p,A.ns,y,O,by rw[bU];omega,rfl⟩,?_⟩,?_⟩
 .have:=ab (J va vl vc) (Bf<|A.rg fr++[e]) iX (by rw[Re];exact U);have e2:(A.pu fr e).eg.map Bf=(A.eg.map Bf).set fr (Bf<|A.rg fr++[e]):=gW;rw[e2];exact this
 .have G:=fV (A:=[_]) G;rw[nV _ _ N]at G;refine G.perm<|uL ?_;have p1:=jB (B++(M++(E++go))) [(p,119,m.set fr (J va vl vc)++y)]<|A'++(iX++(w++L));have p2:=jB ((B++(M++(E++go)))++A') iX<|w++L;simp only[cK,bQ,bX]at p1 p2|-;exact(p1.trans<|p2.cons _).cons _
def aaB(m:Bd ra A hx)(G:SH S H0 H<|hx++L)(w:1<=A.nr)(p:A.nr<=1000)(hs:A.ns<=100000)(hl:u A.eg=A.ns):bM Pg X 152 [pr ra] H λv Q=>v=W A.ns/\∃M',Bd ra A.fr M'/\SH (hx.map (·.1)) H Q M':=by
 refine dn (WK (L:=[]) m ((SH.own G).cast (bF hx).symm) w p hs hl) ?_;rintro v Q ⟨rfl,M',I,B⟩;rw[bF]at B;exact⟨O,M',I,B⟩
def Rk{fr:Nat}(m:Bd ra A hx)(G:SH S H0 H<|hx++L)(p:fr<A.ns)(hl:u A.eg=A.ns)(ht:A.tot<=1000000):bM Pg X 153 [W fr,dN ⟨[W e.1,W e.2.1,W e.2.2]⟩,pr ra] H λv Q=>∃M',Bd ra (A.pu fr e) M'/\SH (hx.map (·.1)) H Q M':=by
 refine dn (aaA (L:=[]) m ((SH.own G).cast (bF hx).symm) p hl ht) ?_;rintro v Q ⟨M',I,B⟩;rw[bF]at B;exact⟨M',I,B⟩
end
section
open Go.Ae Go.Ae.hx Go.Proofs.Lv
variable{S:D Nat}
structure WD where
 g:Nat
 s:Nat
 w:Nat
 ay:Nat
 fe:Nat
 lo:Nat
 p:Nat
 l:Nat
 ra:Nat
 na:aC Addr
 nc:Nat
 nn:Nat
 rs:Nat
 rl:Nat
 jw:D C
 lcs:D C
 ws:D Nat
 kd:Nat->Int
 zs:Nat->D Nat
 tn:Nat
 lw:Nat
abbrev WD.ps(d:WD):D C:=[pr d.g,pr d.s,pr d.w,pr d.ay,pr d.fe,pr d.lo,pr d.p,pr d.l]
abbrev WD.wv(d:WD):C:=.func (.func 186) ⟨[]⟩ ⟨d.ps⟩
abbrev WD.fev(d:WD):C:=.func (.func 184) ⟨[]⟩ ⟨[pr d.p]⟩
abbrev WD.lov(d:WD):C:=.func (.func 185) ⟨[]⟩ ⟨[pr d.ay,pr d.fe,pr d.w]⟩
abbrev WD.fv(d:WD):C:=.func (.func 152) ⟨[]⟩ ⟨[pr d.ra]⟩
abbrev WD.pv(d:WD):C:=.func (.func 153) ⟨[]⟩ ⟨[pr d.ra]⟩
structure WE(K:Nat->Prop)(d:WD)(H:R):Prop where
 hK:∀r,K r->r<H.bV
 g:K d.g/\H.cell d.g 1=Z (J d.na d.nn d.nc)
 s:K d.s/\H.cell d.s 0=Z (J (Z ⟨d.rs,0,T⟩) d.nn d.nn)
 w:K d.w/\H.cell d.w 0=Z d.wv
 ay:K d.ay/\H.cell d.ay 0=Z d.fv
 fe:K d.fe/\H.cell d.fe 0=Z d.fev
 lo:K d.lo/\H.cell d.lo 0=Z d.lov
 p:K d.p/\H.cell d.p 0=Z d.pv
 l:K d.l/\H.cell d.l 0=Z (J (Z ⟨d.rl,0,T⟩) d.nn d.nn)
 nd:jC K 238 H d.na d.nn 5 d.jw
 kid:YL K H d.nn d.jw d.kd d.zs
 st:jC K 3 H (Z ⟨d.rs,0,T⟩) d.nn 1 (gq d.ws)
 lf:jC K 121 H (Z ⟨d.rl,0,T⟩) d.nn 3 d.lcs
variable{d:WD}
def WE.stay(h:WE K d H)(M:pN S H Q)(G:∀r∈S,¬K r):WE K d Q:=by
 have c:∀{r o v},K r/\H.cell r o=Z v->K r/\Q.cell r o=Z v:=λ{r o v}⟨I,B⟩=>⟨I,(l8 (M.obj r (h.hK r I) λx=>G r x I) o).trans B⟩;exact⟨λr x=>aP (h.hK r x) M.bV,c h.g,c h.s,c h.w,c h.ay,c h.fe,c h.lo,c h.p,c h.l,h.nd.stay M λq m=>.inl<|G q m,λi y=>let⟨a,c,t,xa,xn,xc,at',I,B,h3⟩:=h.kid i y;⟨a,c,t,xa,xn,xc,at',I,B.stay M λq m=>.inl<|G q m,h3⟩,h.st.stay M λq m=>.inl<|G q m,h.lf.stay M λq m=>.inl<|G q m⟩
def WE.n(h:WE K d H):WE K d (hN H):=⟨h.hK,h.g,h.s,h.w,h.ay,h.fe,h.lo,h.p,h.l,h.nd,h.kid,h.st,h.lf⟩
structure RY(K:Nat->Prop)(d:WD)(S:D Nat)(H0 H:R)(hx L:D eF)(A:At):Prop where
 we:WE K d H
 nk:∀r∈hx.map (·.1),¬K r
 bd:Bd d.ra A hx
 sh:SH S H0 H (hx++L)
 bu:At.Bu d.lw A
 ty:A.ty=d.tn
 pos:1<=A.nr
 few:A.nr<=1000
def RY.step(h:RY K d S H0 H hx L A)(p:Bd d.ra A' M')(G:SH (hx.map (·.1)) H Q M')(g:At.Gw A A' k c)(y:At.Bu d.lw A'):RY K d S H0 Q M' L A':=
 ⟨h.we.stay G.ext h.nk,λr x m=>by
   obtain⟨e,w,rfl⟩:=bT.1 x;rcases(G.lo e w).1 with I|I
   .exact h.nk _ I m
   .have:=h.we.hK _ m;omega,p,SH.frame h.sh G,y,g.ty.trans h.ty,by rw[g.nr];exact h.pos,by rw[g.nr];exact h.few⟩
def RY.adY(h:RY K d S H0 H hx L A)(p:Bd d.ra A' M')(G:SH (hx.map (·.1)) (hN H) Q M')(g:At.Gw A A' k c)(y:At.Bu d.lw A'):RY K d S H0 (hM H Q) M' L A':=
 ⟨h.we.stay G.ext.draw h.nk,λr x m=>by
   obtain⟨e,w,rfl⟩:=bT.1 x;rcases(G.lo e w).1 with I|I
   .exact h.nk _ I m
   .have B:=h.we.hK _ m;have I:H.bV<=e.1:=I;omega,p,SH.acE h.sh G,y,g.ty.trans h.ty,by rw[g.nr];exact h.pos,by rw[g.nr];exact h.few⟩
section steps
variable{Kp:C->R->Prop}{a:Nat}
def RY.fresh(h:RY K d S H0 H hx L A)(hs:A.ns<=100000)(kk:∀Q M' A',RY K d S H0 Q M' L A'->At.Gw A A' 1 0->A'.cur A.ns->Kp (W A.ns) Q):qh Pg X (Oo d.fv) [] H Kp:=by
 show bM Pg X 152 [pr d.ra] H Kp;refine dn (aaB h.bd h.sh h.pos h.few hs h.bu.AX) ?_;rintro v Q ⟨rfl,M',I,B⟩;exact kk Q M' _ (h.step I B (At.Gw.fr A)<|h.bu.fr h.pos) (At.Gw.fr A)<|At.adW A
theorem NB(w:WE K d H)(m:Bd d.ra A hx)(G:SH S H0 H<|hx++L)(x:a<A.ns)(hl:u A.eg=A.ns)(ht:A.tot<=1000000):bM Pg X 184 [W a,W b,pr d.p] H λv Q=>∃M',Bd d.ra (A.pu a (0,0,b)) M'/\SH (hx.map (·.1)) H Q M':=by
 refine lF [0,1,2] ?_;refine iV w.p.2 ?_;refine PU.b3 O ?_;show bM Pg X 153 [W a,_,pr d.ra] H _;refine dn (Rk (e:=(0,0,b)) m G x hl ht) ?_;rintro v Q h;exact rn<|h
def ajK(lw ty b:Nat):At.EdL lw ty (0,0,b):=.inl O
def RY.free(h:RY K d S H0 H hx L A)(m:A.cur a)(w:A.cur b)(ht:A.tot<=1000000)(kk:∀v Q M' A',RY K d S H0 Q M' L A'->At.Gw A A' 0 1->Kp v Q):qh Pg X (Oo d.fev) [W a,W b] H Kp:=by
 show bM Pg X 184 [W a,W b,pr d.p] H Kp;refine dn (NB h.we h.bd h.sh m.1 h.bu.AX ht) ?_;rintro v Q ⟨M',I,B⟩;exact kk v Q M' _ (h.step I B (At.Gw.pu h.bu.AX m.1 _)<|h.bu.puC (e:=(0,0,b)) m w<|ajK ..)<|At.Gw.pu h.bu.AX m.1 _
def RY.aio(h:RY K d S H0 H hx L A)(m:A.cur a)(w:A.cur b)(ht:A.tot<=1000000)(kk:∀v H1 M' A',RY K d S H0 (hM H H1) M' L A'->At.Gw A A' 0 1->pN (hx.map (·.1)) (hN H) H1->Kp v H1):qh Pg X (Oo d.fev) [W a,W b] (hN H) Kp:=by
 show bM Pg X 184 [W a,W b,pr d.p] (hN H) Kp;refine dn (NB h.we.n h.bd h.sh.Bt m.1 h.bu.AX ht) ?_;rintro v Q ⟨M',I,B⟩;exact kk v Q M' _ (h.adY I B (At.Gw.pu h.bu.AX m.1 _)<|h.bu.puC (e:=(0,0,b)) m w<|ajK ..) (At.Gw.pu h.bu.AX m.1 _) B.ext
def RY.aor(h:RY K d S H0 H hx L A)(m:A.cur a)(p:A.cur e.2.2)(w:At.EdL d.lw A.ty e)(ht:A.tot<=1000000)(kk:∀v H1 M' A',RY K d S H0 (hM H H1) M' L A'->At.Gw A A' 0 1->pN (hx.map (·.1)) (hN H) H1->Kp v H1):qh Pg X (Oo d.pv) [W a,dN ⟨[W e.1,W e.2.1,W e.2.2]⟩] (hN H) Kp:=by
 show bM Pg X 153 [W a,_,pr d.ra] (hN H) Kp;refine dn (Rk (e:=e) h.bd h.sh.Bt m.1 h.bu.AX ht) ?_;rintro v Q ⟨M',I,B⟩;exact kk v Q M' _ (h.adY I B (At.Gw.pu h.bu.AX m.1 _)<|h.bu.puC m p w) (At.Gw.pu h.bu.AX m.1 _) B.ext
def ajL(d:WD)(i:Nat)(A:At)(hx:D eF)(H:R)(v:C)(Q:R):Prop:=∃A' M' m c,v=W m/\Bd d.ra A' M'/\SH (hx.map (·.1)) H Q M'/\At.Gw A A' (vn d.ws i) c/\c<=2*vn d.ws i/\At.Bu d.lw A'/\A'.cur m
def Kr(K:Nat->Prop)(d:WD)(i:Nat):Prop:=∀{S:D Nat}{H0 H:R}{hx L:D eF}{A:At}{fr:Nat},RY K d S H0 H hx L A->A.ns+vn d.ws i<=4000->A.tot+2*vn d.ws i<=20000->A.cur fr->bM Pg X 186 (W i::W fr::d.ps) H (ajL d i A hx H)
def RY.way{fr:Nat}(E:Kr K d i)(h:RY K d S H0 H hx L A)(I:A.ns+vn d.ws i<=4000)(B:A.tot+2*vn d.ws i<=20000)(y:A.cur fr)(kk:∀to Q M' A' c,RY K d S H0 Q M' L A'->At.Gw A A' (vn d.ws i) c->c<=2*vn d.ws i->A'.cur to->Kp (W to) Q):qh Pg X (Oo d.wv) [W i,W fr] H Kp:=by
 show bM Pg X 186 (W i::W fr::d.ps) H Kp;refine dn (E h I B y) ?_;rintro v Q ⟨A',M',to,c,rfl,m,p,g3,w,g5,x⟩;exact kk to Q M' A' c (h.step m p g3 g5) g3 w x
def RY.n(h:RY K d S H0 H hx L A):RY K d S (hN H0) (hN H) hx L A:=⟨h.we.n,h.nk,h.bd,h.sh.Bt,h.bu,h.ty,h.pos,h.few⟩
def RY.ajM{fr:Nat}(E:Kr K d i)(h:RY K d S H0 H hx L A)(I:A.ns+vn d.ws i<=4000)(B:A.tot+2*vn d.ws i<=20000)(y:A.cur fr)(kk:∀to H1 M' A' c,RY K d S H0 (hM H H1) M' L A'->At.Gw A A' (vn d.ws i) c->c<=2*vn d.ws i->A'.cur to->pN (hx.map (·.1)) (hN H) H1->Kp (W to) H1):qh Pg X (Oo d.wv) [W i,W fr] (hN H) Kp:=by
 show bM Pg X 186 (W i::W fr::d.ps) (hN H) Kp;refine dn (E h.n I B y) ?_;rintro v Q ⟨A',M',to,c,rfl,p,m,g3,w,g5,x⟩;exact kk to Q M' A' c (h.adY p m g3 g5) g3 w x m.ext
end steps
end
variable{d:WD}
section
open Go.Ae Go.Ae.hx Go.Proofs.Lv
variable{S:D Nat}
def RY.ext{H1:R}{L':D eF}(h:RY K d S H0 H hx L A)(M:Ext H H1)(G:SH S H0 H1<|hx++L'):RY K d S H0 H1 hx L' A:=⟨h.we.stay M<|nofun,h.nk,h.bd,G,h.bu,h.ty,h.pos,h.few⟩
def RY.own(h:RY K d S H0 H hx L A):RY K d (hx.map (·.1)) H H hx [] A:=⟨h.we,h.nk,h.bd,(SH.own h.sh).cast (bF hx).symm,h.bu,h.ty,h.pos,h.few⟩
def RY.fin(h:RY K d S H0 H hx L A):SH S H0 H hx:=h.sh.sub<|fB hx L
theorem RY.amu(h:RY K d S H0 H hx [] A)(m:SH [] H H1 [(r,ty,F)]):RY K d S H0 H1 hx [(r,ty,F)] A:=
 h.ext m.ext ((SH.frame (hx:=[]) (L:=hx) h.fin m).perm<|aG (l₁:=[_]))
def RY.not(h:RY K d S H0 H hx L A)(m:K r\/∃e∈L,e.1=r):r<H.bV/\r∉hx.map (·.1):=by
 rcases m with m|⟨e,w,rfl⟩
 .exact⟨h.we.hK r m,λp=>h.nk r p m⟩
 .refine⟨(h.sh.lo e<|dL _ w).2,λp=>?_⟩;have⟨x,M,e2⟩:=bT.1 p;exact h.sh.apart M w e2
def RY.rd{w:Cl}(h:RY K d S H0 H hx L A)(M:pN (hx.map (·.1)) (hN H) H3)(m:K r\/∃e∈L,e.1=r)(x:H.cell r o=Z v)(hs:qL v v=f)(y:w.a=H/\w.b=H3):oV w ⟨4,r,o,1,hh0,hh0⟩=f:=
 agc y M (h.not m).1 (h.not m).2 (acL x) (λv p=>by rw[aS]at p;subst p;exact hs)
theorem RY.keep(h:RY K d S H0 H hx L A)(M:pN (hx.map (·.1)) (hN H) H3)(m:K r\/∃e∈L,e.1=r)(p:H.cell r o=Z v):(hM H H3).cell r o=Z v:=
 (l8 (Q:=hM H H3) (M.obj r (h.not m).1 (h.not m).2) o).trans p
def Rl:qL (.func (.func g) ⟨[]⟩ ⟨l.map pr⟩) (.func (.func g) ⟨[]⟩ ⟨l.map pr⟩)=f:=acM g λv m=>by
 obtain⟨r,_,rfl⟩:=bT.1 m;exact⟨r,O⟩
theorem Rp(d:WD):qL d.wv d.wv=f:=Rl (l:=[d.g,d.s,d.w,d.ay,d.fe,d.lo,d.p,d.l])
theorem Uo(d:WD):qL d.fev d.fev=f:=Rl (l:=[d.p])
theorem agC(d:WD):qL d.pv d.pv=f:=Rl (l:=[d.ra])
def aos{cs:Nat->Prop}{n:Nat}{zs:D Nat}(h:jC cs 3 H a n 1<|gq zs)(x:zs[k]?=Z z)(hk:k<n):∃r o,a=Z ⟨r,o,T⟩/\cs r/\H.cell r (o+k)=Z (W z)/\BS 1 (J a n c) (W k)=Z (bG<|Z ⟨r,o+k,T⟩):=by
 obtain⟨r,o,I,B,w,p,rfl,rfl⟩:=h.1.idx (c:=c) (dI 0) hk;have m:=w 0 (W z) (dI 0) (by rw[dY,dZ];exact jV _ x);rw[dY,dZ]at m;rw[dY]at I;exact⟨r,p,O,(h.2 r p O N).1,m,I⟩
def PW{n:Nat}{kd at':Int}(p:WE K d H)(hi:i<d.nn)(w:El d.jw 5 i=[vi kd,J ka n kc,aJ t,J xa xn xc,vi at'])(m:(d.zs i)[j]?=Z z):∃r o,ka=Z ⟨r,o,T⟩/\K r/\H.cell r (o+j)=Z (W z)/\BS 1 (J ka n kc) (W j)=Z (bG<|Z ⟨r,o+j,T⟩)/\n=u (d.zs i):=by
 have⟨a,c,t',xa',xn',xc',at2,he2,hf,_⟩:=p.kid i hi;rw[w]at he2;cases he2;have⟨r,o,I,B,h3,h4⟩:=aos (c:=kc) hf m (bK.1 m).1;exact⟨r,o,I,B,h3,h4,O⟩
theorem JB{fr:Nat}{kd at':Int}(ad:Kr K d z)(h:RY K d S H0 H hx L A)(hi:i<d.nn)(he:El d.jw 5 i=[vi kd,J ka 1 kc,aJ t,J xa xn xc,vi at'])(hz:(d.zs i)[0]?=Z z)(hn:A.ns+(3+vn d.ws z)<=4000)(ht:A.tot+2*(3+vn d.ws z)<=20000)(hf:A.cur fr):
 bM Pg X 185 [dN ⟨[vi kd,J ka 1 kc,aJ t,J xa xn xc,vi at']⟩,W fr,pr d.ay,pr d.fe,pr d.w] H λv Q=>∃A' M' to c,v=W to/\Bd d.ra A' M'/\SH (hx.map (·.1)) H Q M'/\At.Gw A A' (3+vn d.ws z) c/\c<=2*(3+vn d.ws z)/\At.Bu d.lw A'/\A'.cur to:=by
 have h:=h.own;obtain⟨rk,Y,rfl,_⟩:=PW h.we hi he hz;refine lF [0,1,2,3,4,5,7,8,9,10,11] ?_;refine(gM h.sh.wf).box O λH1 rb E=>?_;have al:=E.ext;have h:RY K d (hx.map (·.1)) H H1 hx [(rb,238,[vi kd,J (Z ⟨rk,Y,T⟩) 1 kc,aJ t,J xa xn xc,vi at'])] A:=h.amu E
 have hm:∀{Q M' A'},RY K d (hx.map (·.1)) H Q M' [(rb,238,[vi kd,J (Z ⟨rk,Y,T⟩) 1 kc,aJ t,J xa xn xc,vi at'])] A'->Q.cell rb 0=Z (vi kd)/\Q.cell rb 1=Z (J (Z ⟨rk,Y,T⟩) 1 kc):=λh=>by
  have hb:=h.sh.bk _<|dL _<|aK ..
  exact⟨hb.cell O,hb.cell O⟩
 refine iV h.we.ay.2 ?_;refine h.fresh N λH2 M2 A1 h M c1=>?_;have hf:=hf.gw M;have n1:=M.ns;have t1:=M.tt;refine iV h.we.fe.2<|h.free hf c1 N λ_ H3 M3 A2 h U=>?_;have g:=M.trans U;have n2:=U.ns;have t2:=U.tt;refine iV h.we.ay.2<|h.fresh N λH4 M4 A3 h g3 c3=>?_;have g:=g.trans g3;have n3:=g3.ns;have t3:=g3.tt;refine iV h.we.ay.2<|h.fresh N λH5 M5 A4 h B c4=>?_;have g:=g.trans B;have n4:=B.ns;have t4:=B.tt;have cd:=((c1.gw U).gw g3).gw B;have ce:=c3.gw B;refine iV h.we.fe.2<|h.free cd c4 N λ_ m M6 A5 h g5=>?_;have g:=g.trans g5;have n5:=g5.ns;have t5:=g5.tt;have cd:=cd.gw g5;have ce:=ce.gw g5;have cb:=c4.gw g5;refine bN ?_;refine iV (hm h).1 ?_;refine bN ?_
 have tl:∀bk,A5.cur bk->∀{x0 x1 oW},iC Pg X (sub QS [1,1,1,1,1,1,1,1]) (Oz x0 x1 (pr d.ay) (pr d.fe) (pr d.w) (pr rb) (vi 0) (W A.ns) (W A2.ns) (W A3.ns) (W bk) oW m) (jO Pg [.tmp 7] λv Q=>∃A' M' to c,v=W to/\Bd d.ra A' M'/\SH (hx.map (·.1)) H Q M'/\At.Gw A A' (3+vn d.ws z) c/\c<=2*(3+vn d.ws z)/\At.Bu d.lw A'/\A'.cur to):=by
  intro bk ab x0 x1 oW;refine tl<|iV (H:=hN m) h.we.fe.2 ?_;simp only[iU h.sh.wf];refine iV (H:=hN m) h.we.w.2 ?_;simp only[iU h.sh.wf,PP];refine iV (H:=hN m) (hm h).2 ?_;simp only[iU h.sh.wf];have⟨rk',ok',e1,hKr,hkc,hid,_⟩:=PW h.we hi he hz;cases e1;refine dA hid<|iV (H:=hN m) hkc ?_;simp only[iU h.sh.wf];have p:=h;refine h.ajM ad N N cb λto y M7 A7 c7 h g7 b7 ac I=>?_;have n7:=g7.ns;have t7:=g7.tt;have g:=g.trans g7;refine h.aio ac (ab.gw g7) N λv8 H8 M8 A8 h8 g8 z8=>?_;have n8:=g8.ns;have t8:=g8.tt;have g:=g.trans g8;refine(show∀K:Prop,K->_/\K fromλKz hK=>?_) _ ?_
  .have rd:∀{r o v},(K r\/∃e∈[((rb,238,[vi kd,J (Z ⟨rk,Y,T⟩) 1 kc,aJ t,J xa xn xc,vi at']):eF)],e.1=r)->m.cell r o=Z v->qL v v=f->∀w:Cl,((w.a=m/\w.b=y)\/(w.a=hM m y/\w.b=H8))->oV w ⟨4,r,o,1,hh0,hh0⟩=f:=by
    intro r o v hr V hs w hw;rcases hw with hw|hw
    .exact p.rd I hr V hs hw
    .exact h.rd z8 hr (p.keep I hr V) hs hw
   have r1:=rd (.inl p.we.fe.1) p.we.fe.2<|Uo d;have r2:=rd (.inl p.we.w.1) p.we.w.2<|Rp d;have r3:=rd (.inr ⟨_,aK ..,O⟩) (hm p).2 (qR _ _ _ λx h=>by cases h;rfl);have r4:=rd (.inl hKr) hkc<|yQ _ _;simp only[eZ];rcases xu m y with e|e<;>rw[e]<;>rcases xu (hM m y) H8 with e|e<;>rw[e]<;>apply Gd (au:=λw=>(w.a=m/\w.b=y)\/(w.a=hM m y/\w.b=H8)) fQ fQ hK<;>repeat' apply iZ
   all_goals first|exact trivial|(intro h;cases h;done)|exactλ_=>.inl ⟨rfl,rfl⟩|exactλ_=>.inr ⟨rfl,rfl⟩|exactλ_=>r1|exactλ_=>r2|exactλ_=>r3|exactλ_=>r4
  refine iV h8.we.fe.2<|h8.free ((cd.gw g7).gw g8) ((ce.gw g7).gw g8) N λ_ H9 M9 A9 h9 g9=>?_;have g:=g.trans g9;have n9:=g9.ns;have t9:=g9.tt;refine rr ?_;exact⟨A9,M9,A2.ns,_,O,h9.bd,(h9.sh.sub<|fB M9 _),g.cast N O,N,h9.bu,((ce.gw g7).gw g8).gw g9⟩
 refine aV (λV=>?_) λV=>?_
 .exact tl _ cd
 .exact tl _ ce
end
section
open Go.Ae Go.Ae.hx Go.Proofs.Lv
variable{S:D Nat}
def PX{kd:Int}(m:l[k]?=Z z):sP ws kd (l.take<|k+1)=sP ws kd (l.take k)+(vn ws z+KV kd):=by
 unfold sP;rw[dU,m];show(List.map _<|_++[_]).sum=_;rw[dK,nL];rfl
def YW(ws:D Nat)(kd:Int)(l:D Nat)(k:Nat):sP ws kd (l.take k)<=sP ws kd l:=by
 have:sP ws kd l=sP ws kd (l.take k)+sP ws kd (l.drop k):=by
  unfold sP;rw[<-nL,<-dK,jb]
 omega
structure WQ(d:WD):Prop where
 nn:d.nn<=4000
 sz:∀j,j<d.nn->Iy d.kd d.zs d.ws j
 lf:∀j,j<d.nn->yf d.tn d.lw (El d.lcs 3 j)
def WE.yh{Kp:C->C->R->Prop}(m:WE K d H)(w:z<d.nn)(kk:∀p,Kp p (W<|vn d.ws z) H):PU (BS 1 (J (Z ⟨d.rs,0,T⟩) d.nn d.nn)<|W z) λp=>ME (Go.Ae.yh T p H) (Kp p):=by
 have x:u d.ws=d.nn:=by have:=m.st.1.1;simpa using this
 refine m.st.ix w ?_ kk;rw[bL,av (show z<u d.ws by omega)];show _=Z (W<|d.ws[z]?.getD 0);rw[av (show z<u d.ws by omega)];rfl
theorem adZ{fr:Nat}(hQ:WQ d)(h:RY K d (hx.map (·.1)) H0 H hx [(rb,238,F)] A)(hi:i<d.nn)(hn:A.ns+1<=4000)(ht:A.tot+2<=20000)(hf:A.cur fr)(kk:∀A' M' to c Q,Bd d.ra A' M'->SH (hx.map (·.1)) H0 Q M'->At.Gw A A' 1 c->c<=2->At.Bu d.lw A'->A'.cur to->H' (W to) Q):
 iC Pg X (sub oI [1,1,1]) (wP (W i) (W fr) (pr d.g) (pr d.s) (pr d.w) (pr d.ay) (pr d.fe) (pr d.lo) (pr d.p) (pr d.l) mQ jY mO rT BV wB x20 yS FQ zK x24 x25 x32 KI BU x38 R7 x65 x66 oW H) (jO Pg [.tmp 12] H'):=by
 refine tl<|iV h.we.ay.2<|h.fresh N λH1 M1 A1 h U c1=>?_;have n1:=U.ns;have t1:=U.tt;refine iV (H:=hN H1) h.we.p.2 ?_;simp only[iU h.sh.wf];refine iV (H:=hN H1) h.we.l.2 ?_;simp only[iU h.sh.wf];have⟨r,o,e1,e2,e3,o0,e4,_⟩:=h.we.lf.1.idx (c:=d.nn) N hi;cases e4;have⟨k1,a1,hle,m⟩:=hQ.lf i hi
 have cell:∀y x,y<3->[W k1,W a1,W 0][y]?=Z x->H1.cell d.rl (o+y)=Z x:=λy x E M=>by
  refine e3 y x E ?_;have:=eY (λl=>l[y]?) hle;simp only[oN,jj E]at this;rw[this];exact M
 have B:K d.rl:=(h.we.lf.2 d.rl 0 O N).1;refine dA e1<|bN ?_;refine iV (H:=hN H1) (by have:=cell 0 _ N O;rwa [dZ]at this) ?_;simp only[iU h.sh.wf];refine iV (H:=hN H1) h.we.l.2 ?_;simp only[iU h.sh.wf];refine dA e1<|bN ?_;refine iV (H:=hN H1) (cell 1 _ N O) ?_;simp only[iU h.sh.wf];refine PU.b3 O ?_;have I:=h
 refine h.aor (e:=(k1,a1,A.ns)) (hf.gw U) c1 (by
  unfold At.EdL;rw[h.ty];rcases m with m|⟨p1,p2⟩|⟨p1,p2⟩
  .exact .inl m
  .exact .inr<|.inl ⟨p1,p2⟩
  .exact .inr<|.inr ⟨p1,p2⟩) N λv H2 M2 A2 h V ab=>?_
 have n2:=V.ns;have t2:=V.tt;refine(show∀K:Prop,K->_/\K fromλKz hK=>?_) _ ?_
 .have Y:∀{r o v},K r->H1.cell r o=Z v->qL v v=f->∀w:Cl,(w.a=H1/\w.b=H2)->oV w ⟨4,r,o,1,hh0,hh0⟩=f:=λhr hc hs w hw=>I.rd ab (.inl hr) hc hs hw;have r1:=Y I.we.p.1 I.we.p.2<|agC d;have r2:=Y I.we.l.1 I.we.l.2 (qR _ _ _ λx h=>by cases h;rfl);have r3:=Y B (by have:=cell 0 _ N O;rwa [dZ]at this)<|yQ _ _;have r4:=Y B (cell 1 _ N O)<|yQ _ _;simp only[eZ];rcases xu H1 H2 with e|e<;>rw[e]<;>apply Gd (au:=λw=>w.a=H1/\w.b=H2) fQ fQ hK<;>repeat' apply iZ
  all_goals first|exact trivial|(intro h;cases h;done)|exactλ_=>⟨rfl,rfl⟩|exactλ_=>r1|exactλ_=>r2|exactλ_=>r3|exactλ_=>r4
 exact rr<|(kk A2 M2 A.ns _ _ h.bd (h.sh.sub<|fB M2 _) (U.trans V) N h.bu<|c1.gw V)
end
section
open Go.Ae Go.Ae.hx Go.Proofs.Lv
variable{S:D Nat}
def YL.row{cs:Nat->Prop}(h:YL cs H nn jw kd zs)(hi:i<nn):∃(a:aC Addr)(c:Nat)(t:aZ)(xa:aC Addr)(xn xc:Nat)(at':Int),El jw 5 i=[vi (kd i),J a (u<|zs i) c,aJ t,J xa xn xc,vi at']/\Nl (kd i) (u<|zs i)/\(∀z∈zs i,z<i)/\u (zs i)<=20001:=let⟨a,c,t,xa,xn,xc,at',I,_,h3,h4,_,h6⟩:=h i hi;⟨a,c,t,xa,xn,xc,at',I,h3,h4,h6⟩
section
variable{fr:Nat}{at':Int}
def agD(hQ:WQ d)(ih:∀z,z<i->Kr K d z)(h:RY K d (hx.map (·.1)) H0 H hx [(rb,238,[vi (d.kd i),J ka (u<|d.zs i) kc,aJ t,J xa xn xc,vi at'])] A)(hi:i<d.nn)(I:d.kd i=1)(he:El d.jw 5 i=[vi (d.kd i),J ka (u<|d.zs i) kc,aJ t,J xa xn xc,vi at'])(hz:∀z∈d.zs i,z<i)(ap:u (d.zs i)<=20001)(hn:A.ns+sP d.ws (d.kd i) (d.zs i)<=4000)(ht:A.tot+2*sP d.ws (d.kd i) (d.zs i)<=20000)(y:A.cur fr)(kk:∀A' M' to c Q,Bd d.ra A' M'->SH (hx.map (·.1)) H0 Q M'->At.Gw A A' (sP d.ws (d.kd i)<|d.zs i) c->c<=2*sP d.ws (d.kd i) (d.zs i)->At.Bu d.lw A'->A'.cur to->H' (W to) Q):
 iC Pg X (.loop<|sub oI [1,1,0,1,0,1,0,0,1,0,0]) (wP (W i) (W fr) (pr d.g) (pr d.s) (pr d.w) (pr d.ay) (pr d.fe) (pr d.lo) (pr d.p) (pr d.l) mQ (pr rb) mO rT BV wB x20 yS FQ zK x24 x25 x32 (J ka (u<|d.zs i) kc) (W<|u<|d.zs i) (W 0) R7 x65 x66 oW H) (uk 1<|uQ Pg X (sub oI [1,1,0,1,0,1,0,1])<|uk 0<|uQ Pg X (sub oI [1,1,1])<|jO Pg [.tmp 12] H'):=by
 have al:KV (d.kd i)=0:=by unfold KV;rw[jx N]
 refine Gg 1 15 38 (h1:=λm x1 mO x38 Q=>∃k B A' M' c,x38=W k/\k+m=u (d.zs i)/\x1=W B/\RY K d (hx.map (·.1)) H0 Q M' [(rb,238,[vi (d.kd i),J ka (u<|d.zs i) kc,aJ t,J xa xn xc,vi at'])] A'/\At.Gw A A' (sP d.ws (d.kd i)<|(d.zs i).take k) c/\c<=2*sP d.ws (d.kd i) ((d.zs i).take k)/\A'.cur B) ?_ (u<|d.zs i) ⟨0,fr,A,hx,0,rfl,N,rfl,h,(At.Gw.refl A).cast (by simp[sP]) O,bD _,y⟩;clear h y;rintro m x1 mO x38 oW H1 ⟨k,B,A1,M1,c,rfl,an,rfl,h,g,hc,y⟩;refine mG (λU=>?_) λU=>?_
 .obtain rfl:k=u (d.zs i):=N;rw[jL]at g hc;refine tp ?_;exact rr<|(kk A1 M1 B c H1 h.bd (h.sh.sub<|fB M1 _) g hc h.bu y)
 have hk:k<u (d.zs i):=N;have M:(d.zs i)[k]?=Z (d.zs i)[k]:=av hk;have E:=hz _<|bH hk;generalize(d.zs i)[k]=z at M E;have ao:=PX (ws:=d.ws) (kd:=d.kd i) M;have am:=YW d.ws (d.kd i) (d.zs i)<|k+1;have n1:=g.ns;have t1:=g.tt;obtain⟨r,o,rfl,ad,x,Y,_⟩:=PW h.we hi he M;refine dA Y<|iV x<|iV h.we.s.2<|h.we.yh N λp=>?_;refine tJ (λV=>?_) λV=>?_
 .refine iV h.we.w.2<|h.way (ih z E) N N y λto H2 M2 A2 c2 h g2 ab ac=>?_;refine eD ?_;exact⟨u (d.zs i)-(k+1),N,_,_,_,_,_,O,k+1,to,A2,M2,c+c2,pq,N,O,h,(g.trans g2).cast N O,N,ac⟩
 .refine eD ?_;exact⟨u (d.zs i)-(k+1),N,_,_,_,_,_,O,k+1,B,A1,M1,c,pq,N,O,h,g.cast N O,N,y⟩
theorem agE{d0 e0:Nat}(hQ:WQ d)(ih:∀z,z<i->Kr K d z)(h:RY K d (hx.map (·.1)) H0 H M1 [(rb,238,[vi (d.kd i),J ka (u<|d.zs i) kc,aJ t,J xa xn xc,vi at'])] A1)(g1:At.Gw A A1 2 c1)(ac:c1<=1)(hd0:A1.cur d0)(x:A1.cur e0)(hi:i<d.nn)(I:d.kd i=0)(he:El d.jw 5 i=[vi (d.kd i),J ka (u<|d.zs i) kc,aJ t,J xa xn xc,vi at'])(hz:∀z∈d.zs i,z<i)(aw:u (d.zs i)<=20001)(hn:A.ns+(2+sP d.ws (d.kd i) (d.zs i))<=4000)(ht:A.tot+2*(2+sP d.ws (d.kd i) (d.zs i))<=20000){x1:C}(kk:∀A' M' to c Q,Bd d.ra A' M'->SH (hx.map (·.1)) H0 Q M'->At.Gw A A' (2+sP d.ws (d.kd i) (d.zs i)) c->c<=2*(2+sP d.ws (d.kd i) (d.zs i))->At.Bu d.lw A'->A'.cur to->H' (W to) Q):
 iC Pg X (.loop<|sub oI [1,1,0,1,0,1,1,1,0,1,1,1,0,1,0,0]) (wP (W i) x1 (pr d.g) (pr d.s) (pr d.w) (pr d.ay) (pr d.fe) (pr d.lo) (pr d.p) (pr d.l) mQ jY mO (W d0) (W e0) wB x20 yS FQ zK x24 x25 x32 KI BU x38 (J ka (u<|d.zs i) kc) (W<|u<|d.zs i) (W 0) oW H) (uk 3<|uQ Pg X (sub oI [1,1,0,1,0,1,1,1,0,1,1,1,1])<|uk 0<|uQ Pg X (sub oI [1,1,1])<|jO Pg [.tmp 12] H'):=by
 have ao:KV (d.kd i)=1:=by unfold KV;rw[jj I]
 refine Gg 19 20 66 (h1:=λm wB x20 x66 Q=>∃k A' M' c,x66=W k/\k+m=u (d.zs i)/\RY K d (hx.map (·.1)) H0 Q M' [(rb,238,[vi (d.kd i),J ka (u<|d.zs i) kc,aJ t,J xa xn xc,vi at'])] A'/\At.Gw A A' (2+sP d.ws (d.kd i) ((d.zs i).take k)) c/\c+3<=2*(2+sP d.ws (d.kd i) ((d.zs i).take k))/\A'.cur d0/\A'.cur e0) ?_ (u<|d.zs i) ⟨0,A1,M1,c1,rfl,N,h,g1.cast (by simp[sP]) O,N,hd0,x⟩;clear h hd0 x g1 ac;rintro m wB x20 x66 oW H1 ⟨k,A2,M2,c,rfl,aq,h,g,hc,hd0,x⟩;refine mG (λad=>?_) λad=>?_
 .obtain rfl:k=u (d.zs i):=N;rw[jL]at g hc;refine tp ?_;exact rr<|(kk A2 M2 e0 c H1 h.bd (h.sh.sub<|fB M2 _) g N h.bu x)
 have hk:k<u (d.zs i):=N;have US:(d.zs i)[k]?=Z (d.zs i)[k]:=av hk;have Y:=hz _<|bH hk;generalize(d.zs i)[k]=z at US Y;have ar:=PX (ws:=d.ws) (kd:=d.kd i) US;have ap:=YW d.ws (d.kd i) (d.zs i)<|k+1;have n1:=g.ns;have t1:=g.tt;obtain⟨r,o,rfl,an,y,al,_⟩:=PW h.we hi he US;refine dA al<|iV y<|iV h.we.ay.2<|h.fresh N λH2 M2 A3 h g3 cb=>?_;have n3:=g3.ns;have t3:=g3.tt;have g:=g.trans g3;have hd0:=hd0.gw g3;have x:=x.gw g3;refine iV h.we.fe.2<|h.free hd0 cb N λ_ H3 M3 A4 h E=>?_;have n4:=E.ns;have t4:=E.tt;have g:=g.trans E;have hd0:=hd0.gw E;have x:=x.gw E;have cb:=cb.gw E;refine iV (H:=hN H3) h.we.fe.2 ?_;simp only[iU h.sh.wf];refine iV (H:=hN H3) h.we.w.2 ?_;simp only[iU h.sh.wf];have M:=h;refine h.ajM (ih z Y) N N cb λto B M4 A5 c5 h g5 b5 ab V=>?_;have n5:=g5.ns;have t5:=g5.tt;have g:=g.trans g5;have hd0:=hd0.gw g5;have x:=x.gw g5;refine h.aio ab x N λv5 H5 M5 A6 h8 U am=>?_;have n6:=U.ns;have t6:=U.tt;have g:=g.trans U;refine(show∀K:Prop,K->_/\K fromλKz hK=>?_) _ ?_
 .have rd:∀{r o v},K r->H3.cell r o=Z v->qL v v=f->∀w:Cl,((w.a=H3/\w.b=B)\/(w.a=hM H3 B/\w.b=H5))->oV w ⟨4,r,o,1,hh0,hh0⟩=f:=by
   intro r o v hr hc hs w hw;rcases hw with hw|hw
   .exact M.rd V (.inl hr) hc hs hw
   .exact h.rd am (.inl hr) (M.keep V (.inl hr) hc) hs hw
  have r1:=rd M.we.fe.1 M.we.fe.2<|Uo d;have r2:=rd M.we.w.1 M.we.w.2<|Rp d;simp only[eZ];rcases xu H3 B with e|e<;>rw[e]<;>rcases xu (hM H3 B) H5 with e|e<;>rw[e]<;>apply Gd (au:=λw=>(w.a=H3/\w.b=B)\/(w.a=hM H3 B/\w.b=H5)) fQ fQ hK<;>repeat' apply iZ
  all_goals first|exact trivial|(intro h;cases h;done)|exactλ_=>.inl ⟨rfl,rfl⟩|exactλ_=>.inr ⟨rfl,rfl⟩|exactλ_=>r1|exactλ_=>r2
 refine eD ?_;exact⟨u (d.zs i)-(k+1),N,_,_,_,_,_,O,k+1,A6,M5,_,pq,N,h8,g.cast N O,N,hd0.gw U,x.gw U⟩
end
end
section
open Go.Ae Go.Ae.hx Go.Proofs.Lv
variable{S:D Nat}
theorem ad1{fr:Nat}{at':Int}(ab:Kr K d z)(h:RY K d (hx.map (·.1)) H0 H hx [(rb,238,[vi (d.kd i),J ka 1 kc,aJ t,J xa xn xc,vi at'])] A)(hi:i<d.nn)(h4:d.kd i=4)(he:El d.jw 5 i=[vi (d.kd i),J ka 1 kc,aJ t,J xa xn xc,vi at'])(hz:(d.zs i)[0]?=Z z)(hn:A.ns+(3+vn d.ws z)<=4000)(ht:A.tot+2*(3+vn d.ws z)<=20000)(hf:A.cur fr)(V:Ci oW 85=aO aA)(kk:∀A' M' to c Q,Bd d.ra A' M'->SH (hx.map (·.1)) H0 Q M'->At.Gw A A' (3+vn d.ws z) c->c<=2*(3+vn d.ws z)->At.Bu d.lw A'->A'.cur to->H' (W to) Q):
 iC Pg X (sub oI [1,1,0,1,0,1,1,1,1,1]) (wP (W i) (W fr) (pr d.g) (pr d.s) (pr d.w) (pr d.ay) (pr d.fe) (pr d.lo) (pr d.p) (pr d.l) mQ (pr rb) mO rT BV wB x20 yS FQ zK x24 x25 (vi<|d.kd i) KI BU x38 R7 x65 x66 oW H) (uk 0<|uQ Pg X (sub oI [1,1,1])<|jO Pg [.tmp 12] H'):=by
 obtain⟨rk,ok,rfl,_⟩:=PW h.we hi he hz
 have hm:∀{Q M' A'},RY K d (hx.map (·.1)) H0 Q M' [(rb,238,[vi (d.kd i),J (Z ⟨rk,ok,T⟩) 1 kc,aJ t,J xa xn xc,vi at'])] A'->Q.cell rb 1=Z (J (Z ⟨rk,ok,T⟩) 1 kc):=λh=>by
  have hb:=h.sh.bk _<|dL _<|aK ..
  exact hb.cell O
 refine tl ?_;rw[V];refine bN ?_;refine aV (λ_=>?_) λU=>absurd h4 U;refine iV h.we.ay.2<|h.fresh N λH1 M1 A1 h B cb=>?_;have n1:=B.ns;have t1:=B.tt;refine iV h.we.fe.2<|h.free (hf.gw B) cb N λ_ m M2 A2 h E=>?_;have n2:=E.ns;have t2:=E.tt;have g:=B.trans E;have cb:=cb.gw E;refine iV (H:=hN m) h.we.w.2 ?_;simp only[iU h.sh.wf,PP];have Y:=hm h;refine iV (H:=hN m) Y ?_;simp only[iU h.sh.wf];have⟨rk',ok',e1,hKr,hkc,hid,_⟩:=PW h.we hi he hz;cases e1;refine dA hid<|iV (H:=hN m) hkc ?_;simp only[iU h.sh.wf];have M:=h;refine h.ajM ab N N cb λla H3 M3 A3 c3 h g3 b3 cl ac=>?_;have n3:=g3.ns;have t3:=g3.tt;have g:=g.trans g3;have cb:=cb.gw g3;refine(show∀K:Prop,K->_/\K fromλKz hK=>?_) _ ?_
 .have rd:∀{r o v},(K r\/∃e∈[((rb,238,[vi (d.kd i),J (Z ⟨rk,ok,T⟩) 1 kc,aJ t,J xa xn xc,vi at']):eF)],e.1=r)->m.cell r o=Z v->qL v v=f->∀w:Cl,(w.a=m/\w.b=H3)->oV w ⟨4,r,o,1,hh0,hh0⟩=f:=λhr U hs w hw=>M.rd ac hr U hs hw;have r2:=rd (.inl M.we.w.1) M.we.w.2<|Rp d;have r3:=rd (.inr ⟨_,aK ..,O⟩) (hm M) (qR _ _ _ λx h=>by cases h;rfl);have r4:=rd (.inl hKr) hkc<|yQ _ _;simp only[eZ];rcases xu m H3 with e|e<;>rw[e]<;>apply Gd (au:=λw=>w.a=m/\w.b=H3) fQ fQ hK<;>repeat' apply iZ
  all_goals first|exact trivial|(intro h;cases h;done)|exactλ_=>⟨rfl,rfl⟩|exactλ_=>r2|exactλ_=>r3|exactλ_=>r4
 refine iV h.we.ay.2<|h.fresh N λH4 M4 A4 h y cd=>?_;have n4:=y.ns;have t4:=y.tt;have g:=g.trans y;have cl:=cl.gw y;have cb:=cb.gw y;refine iV h.we.fe.2<|h.free cl cd N λ_ H5 M5 A5 h g5=>?_;have n5:=g5.ns;have t5:=g5.tt;have g:=g.trans g5;have cd:=cd.gw g5;have cb:=cb.gw g5;refine iV h.we.fe.2<|h.free cd cb N λ_ H6 M6 A6 h I=>?_;have n6:=I.ns;have t6:=I.tt;have g:=g.trans I;have cd:=cd.gw I;refine iV h.we.ay.2<|h.fresh N λH7 M7 A7 h g7 ce=>?_;have n7:=g7.ns;have t7:=g7.tt;have g:=g.trans g7;have cd:=cd.gw g7;refine iV h.we.fe.2<|h.free cd ce N λ_ H8 M8 A8 h g8=>?_;have n8:=g8.ns;have t8:=g8.tt;have g:=g.trans g8;exact rr<|(kk A8 M8 A6.ns _ _ h.bd (h.sh.sub<|fB M8 _) (g.cast N O) N h.bu<|ce.gw g8)
theorem ajN(hQ:WQ d):∀i,i<d.nn->Kr K d i:=by
 intro i
 induction i using Nat.strongRecOn with
 |ind i ih=>
  intro M S H0 H hx L A fr h Y ht hf;have h:=h.own;have⟨ka,kc,t,xa,xn,xc,at',he,E,hz,hzl⟩:=h.we.kid.row M;have ih:∀z,z<i->Kr K d z:=λz hz=>ih z hz N;have ad:=hQ.sz i M;unfold Iy at ad;have hW:vn d.ws i=GZ (d.kd i)+sP d.ws (d.kd i) (d.zs i):=N;refine GV [0,1,2,3,4,5,6,7,8,9,12,13,15,16,17,19,20,21,22,23,24,25,32,36,37,38,64,65,66] ?_;refine iV h.we.g.2 ?_;refine h.we.nd.VS N M he λp=>(gM h.sh.wf).ns O O O λH1 rb ab _=>?_;have h:RY K d (hx.map (·.1)) H H1 hx [(rb,238,[vi (d.kd i),J ka (u<|d.zs i) kc,aJ t,J xa xn xc,vi at'])] A:=h.amu ab;have hm:∀{Q M' A'},RY K d (hx.map (·.1)) H Q M' [(rb,238,[vi (d.kd i),J ka (u<|d.zs i) kc,aJ t,J xa xn xc,vi at'])] A'->Bk Q rb 238 [vi (d.kd i),J ka (u<|d.zs i) kc,aJ t,J xa xn xc,vi at']:=λh=>h.sh.bk _<|dL _<|aK ..
  refine bN ?_;refine iV ((hm h).cell (o:=0) O) ?_;refine bN ?_;have m:∀A' M' to c Q,Bd d.ra A' M'->SH (hx.map (·.1)) H Q M'->At.Gw A A' (vn d.ws i) c->c<=2*vn d.ws i->At.Bu d.lw A'->A'.cur to->ajL d i A hx H (W to) Q:=λA' M' to c Q a1 a2 a3 a4 a5 a6=>⟨A',M',to,c,rfl,a1,a2,a3,a4,a5,a6⟩;refine aV (λI=>?_) λI=>?_
  .refine iV ((hm h).cell (o:=1) O) ?_;refine bN ?_;have hb:GZ (d.kd i)=0:=by unfold GZ;rw[jx N,jj I]
   have e:vn d.ws i=sP d.ws (d.kd i) (d.zs i):=N;rw[e]at m;exact agD hQ ih h M I he hz hzl N N hf m
  refine aV (λh0=>?_) λh0=>?_
  .have hb:GZ (d.kd i)=2:=by unfold GZ;rw[jj h0]
   have e:vn d.ws i=2+sP d.ws (d.kd i) (d.zs i):=N;rw[e]at m;refine iV h.we.ay.2<|h.fresh N λH2 M2 A2 h g2 cd=>?_;have n2:=g2.ns;have t2:=g2.tt;refine iV h.we.fe.2<|h.free (hf.gw g2) cd N λ_ H3 M3 A3 h g3=>?_;have n3:=g3.ns;have t3:=g3.tt;have g:=g2.trans g3;refine iV h.we.ay.2<|h.fresh N λH4 M4 A4 h g4 ce=>?_;have n4:=g4.ns;have t4:=g4.tt;have g:=g.trans g4;refine iV ((hm h).cell (o:=1) O) ?_;refine bN ?_;exact agE hQ ih h g N ((cd.gw g3).gw g4) ce M h0 he hz hzl N N m
  have y:(d.kd i=2\/d.kd i=3\/d.kd i=4)->∃z,d.zs i=[z]/\z<i/\vn d.ws i=3+vn d.ws z:=λhk=>by
   have V:u (d.zs i)=1:=by rcases E with h|h|h|h<;>omega
   have⟨z,hz1⟩:=List.length_eq_one_iff.1 V;refine⟨z,hz1,hz z (by rw[hz1];simp),?_⟩;rw[hW,hz1];have hb:GZ (d.kd i)=3:=by unfold GZ;rw[jx N,jx N,jj hk]
   have ha:KV (d.kd i)=0:=by unfold KV;rw[jx N]
   unfold sP;simp[hb,ha]
  have one:¬(d.kd i=2\/d.kd i=3\/d.kd i=4)->vn d.ws i=1:=λhk=>by
   have V:u (d.zs i)=0:=by rcases E with h|h|h|h<;>omega
   have x:=eP.1 V;rw[hW,x];have hb:GZ (d.kd i)=1:=by unfold GZ;rw[jx N,jx N,jx hk]
   rw[hb];rfl
  have U:∀{mQ mO rT BV wB x20 yS FQ zK x24 x25 KI BU x38 R7 x65 x66:C}{oW:D (Nat×C)},(d.kd i=2\/d.kd i=3)->Ci oW 85=aO f->iC Pg X (sub oI [1,1,0,1,0,1,1,1,1,1]) (wP (W i) (W fr) (pr d.g) (pr d.s) (pr d.w) (pr d.ay) (pr d.fe) (pr d.lo) (pr d.p) (pr d.l) mQ (pr rb) mO rT BV wB x20 yS FQ zK x24 x25 (vi<|d.kd i) KI BU x38 R7 x65 x66 oW H1) (uk 0<|uQ Pg X (sub oI [1,1,1])<|jO Pg [.tmp 12]<|ajL d i A hx H):=by
   intro mQ mO rT BV wB x20 yS FQ zK x24 x25 KI BU x38 R7 x65 x66 oW hk ac;have⟨z,hz1,hzi,e⟩:=y N;rw[e]at m Y ht;have x:(d.zs i)[0]?=Z z:=by rw[hz1];rfl
   have V:u (d.zs i)=1:=by rw[hz1];rfl
   refine tl ?_;rw[ac];refine bN ?_;refine iV h.we.lo.2<|ME.uE ((hm h).read (o:=0) (n:=5)<|ax 5) ?_;show bM Pg X 185 [dN ⟨[vi (d.kd i),J ka (u<|d.zs i) kc,aJ t,J xa xn xc,vi at']⟩,W fr,pr d.ay,pr d.fe,pr d.w] H1 _;rw[V]at he|-;refine dn (JB (ih z hzi) h M he x Y ht hf) ?_;rintro v H2 ⟨A',M',to,c,rfl,b1,b2,b3,b4,b5,b6⟩;refine rr<|(m A' M' to c H2 b1 ?_ b3 b4 b5 b6);exact(SH.frame h.sh b2).sub<|fB M' _
  refine aV (λB=>?_) λB=>?_
  .exact U (.inl B) (by show aO (decide<|d.kd i=2)=_;rw[bY B])
  by_cases h3:d.kd i=3
  .exact U (.inr h3) (by show aO (decide<|d.kd i=3)=_;rw[bY h3])
  by_cases h4:d.kd i=4
  .have⟨z,hz1,hzi,e⟩:=y N;rw[e]at m Y ht;have x:(d.zs i)[0]?=Z z:=by rw[hz1];rfl
   have V:u (d.zs i)=1:=by rw[hz1];rfl
   rw[V]at he h;exact ad1 (ih z hzi) h M h4 he x Y ht hf (by show aO (decide<|d.kd i=3)=_;rw[dQ h3]) m
  .have e:=one N;rw[e]at m Y ht;refine tp ?_;refine aV (λhc=>absurd hc h3) λ_=>?_;refine aV (λhc=>absurd hc h4) λ_=>?_;exact adZ hQ h M Y ht hf m
end
section
open Go.Ae Go.Ae.hx Go.Proofs.Lv
variable{S:D Nat}
def aaC(E:Wf H){ra:aC Addr}{rn:Nat}{lv x:C}(hl:∃a n c,lv=J a n c)(hs:∃a n c,x=J a n c):bM Pg X 154 [gV ra rn rc na nn nc,lv,x,.func (.func 152) ⟨[]⟩ ⟨[pr rb]⟩,.func (.func 153) ⟨[]⟩ ⟨[pr rb]⟩] H λv Q=>∃g s w ay m lo p l,v=.func (.func 186) ⟨[]⟩ ⟨[pr g,pr s,pr w,pr ay,pr m,pr lo,pr p,pr l]⟩/\Ext H Q/\(∀r∈[g,s,w,ay,m,lo,p,l],H.bV<=r/\r<Q.bV)/\Q.cell g 1=Z (J na nn nc)/\Q.cell s 0=Z x/\Q.cell w 0=Z v/\Q.cell ay 0=Z (.func (.func 152) ⟨[]⟩ ⟨[pr rb]⟩)/\Q.cell m 0=Z (.func (.func 184) ⟨[]⟩ ⟨[pr p]⟩)/\Q.cell lo 0=Z (.func (.func 185) ⟨[]⟩ ⟨[pr ay,pr m,pr w]⟩)/\Q.cell p 0=Z (.func (.func 153) ⟨[]⟩ ⟨[pr rb]⟩)/\Q.cell l 0=Z lv:=by
 obtain⟨Y,ln,lc,rfl⟩:=hl;obtain⟨sa,sn,sc,rfl⟩:=hs;have G:=gM E;refine lF [0,1,2,3,4,5,6,7,8,9,10,11,12,13] ?_;refine G.box O λH1 g G=>?_;refine G.box O λI l G=>?_;refine G.box O λH3 s G=>G.box O λM ay G=>G.box O λN p G=>G.jM λU m G=>?_;refine G.j_ λy G=>G.jM λV w G=>?_;refine G.jM λW lo G=>?_;refine G.j_ λy G=>?_;refine G.j_ λy G=>?_;apply G.qE;refine rr ?_;refine⟨g,s,w,ay,m,lo,p,l,O,G.ext,?_,(G.get 7 O).cell O,(G.get 5 O).cell O,(G.get 1 O).cell O,(G.get 4 O).cell O,(G.get 2 O).cell O,(G.get 0 O).cell O,(G.get 3 O).cell O,(G.get 6 O).cell O⟩;intro r B;simp only[bW,fq,je]at B;rcases B with rfl|rfl|rfl|rfl|rfl|rfl|rfl|rfl
 .exact⟨G.yu<|aT (i:=7) O,(G.lo _<|aT (i:=7) O).2⟩
 .exact⟨G.yu<|aT (i:=5) O,(G.lo _<|aT (i:=5) O).2⟩
 .exact⟨G.yu<|aT (i:=1) O,(G.lo _<|aT (i:=1) O).2⟩
 .exact⟨G.yu<|aT (i:=4) O,(G.lo _<|aT (i:=4) O).2⟩
 .exact⟨G.yu<|aT (i:=2) O,(G.lo _<|aT (i:=2) O).2⟩
 .exact⟨G.yu<|aT (i:=0) O,(G.lo _<|aT (i:=0) O).2⟩
 .exact⟨G.yu<|aT (i:=3) O,(G.lo _<|aT (i:=3) O).2⟩
 .exact⟨G.yu<|aT (i:=6) O,(G.lo _<|aT (i:=6) O).2⟩
def Bd.name(hB:Bd ra A hx)(G:SH S H0 H<|hx++L)(hn:A.nr<=1000):∃v,H.cell ra 0=Z v/\∀{Kp:C->C->C->R->Prop},(∀w v' aa Q M',Bd ra (A.ru nm) M'->SH (hx.map (·.1)) H Q M'->Kp w v' aa Q)->
 ME (bS 9 [aJ ⟨#[]⟩] 1 1 [(0,aJ nm)] H) λw H1=>ME (Ch 9 1 v w H1) λY H2=>ME (GU 1 (pr ra) Y H2) λaa H3=>Kp w Y aa H3:=by
 have G:=SH.own G;obtain⟨M,X,V,U,ev,x,gn,gs,gp,go,ge,az,rfl,B,I,Un,E,y,hR⟩:=hB;refine⟨M,(G.get 0 O).cell O,λ{Kp} kk=>?_⟩;refine B.push (G.perm<|jB [_] gn _) N O O O O O N (by rw[aM];unfold At.nr at hn;omega) λw v' H1 p m G=>?_;have G:=G.perm<|jB p [(ra,27,[M,X,V,U,ev,W A.ty])] _;obtain⟨ab,ac,rfl⟩:=m.Ve;refine G.st 0 O O (by show 0+1<=6;omega) rfl λH2 G=>?_;refine kk _ _ _ H2 _ ⟨_,X,V,U,ev,x,p,gs,gp,go,ge,az,O,?_,I,Un,E,y,hR⟩ G;have:(A.ru nm).nm.map aJ=A.nm.map aJ++cr (aJ nm):=by show(A.nm++[nm]).map aJ=_;simp;rfl
 rw[this];exact m
end
section
open Go.Ae Go.Ae.hx Go.Proofs.Lv
variable{S:D Nat}
def _root_.Go.Ae.GB.same(h:GB ty es v F gb):qL v v=f:=by
 rcases h with⟨rfl,_⟩|⟨r,n,m,rfl,_⟩
 .exact qR _ _ _ λx h=>by cases h
 .exact qR _ _ _ λx h=>by cases h;rfl
def RY.put{a:Nat}{Kp:C->R->Prop}(h:RY K d S H0 H hx L A)(m:A.cur a)(p:A.cur e.2.2)(w:At.EdL d.lw A.ty e)(ht:A.tot<=1000000)(kk:∀v Q M' A',RY K d S H0 Q M' L A'->At.Gw A A' 0 1->Kp v Q):qh Pg X (Oo d.pv) [W a,dN ⟨[W e.1,W e.2.1,W e.2.2]⟩] H Kp:=by
 show bM Pg X 153 [W a,_,pr d.ra] H Kp;refine dn (Rk (e:=e) h.bd h.sh m.1 h.bu.AX ht) ?_;rintro v Q ⟨M',I,B⟩;exact kk v Q M' _ (h.step I B (At.Gw.pu h.bu.AX m.1 _)<|h.bu.puC m p w)<|At.Gw.pu h.bu.AX m.1 _
structure RZ(K:Nat->Prop)(d:WD)(S:D Nat)(H0 H:R)(hx L:D eF)(A:At):Prop where
 we:WE K d H
 nk:∀r∈hx.map (·.1),¬K r
 bd:Bd d.ra A hx
 sh:SH S H0 H (hx++L)
 bs:At.Bs' d.lw A
 ty:A.ty=d.tn
 few:A.nr<=120
 tt:A.tot<=2*A.ns
def RZ.ext{H1:R}{L':D eF}(h:RZ K d S H0 H hx L A)(M:Ext H H1)(G:SH S H0 H1<|hx++L'):RZ K d S H0 H1 hx L' A:=⟨h.we.stay M<|nofun,h.nk,h.bd,G,h.bs,h.ty,h.few,h.tt⟩
def RZ.nks(h:RZ K d S H0 H hx L A)(G:SH (hx.map (·.1)) H Q M'):∀r∈M'.map (·.1),¬K r:=λr w m=>by
 obtain⟨e,p,rfl⟩:=bT.1 w;rcases(G.lo e p).1 with I|I
 .exact h.nk _ I m
 .have:=h.we.hK _ m;omega
theorem RY.ends{a:Nat}(h:RY K d S H0 H hx L A)(hl:u A.st<=1000)(be:u A.sp<=1000){aj:Array Oper}{Kp:C->R->C->R->C->R->C->R->C->R->C->R->C->R->C->R->Prop}(hO:aj=opsOf (sub Eu [1,1,1,1,1,0,1,0,0,1,1,0,0,1,1,1,1,0]))(kk:∀v1 B v2 E v3 U v4 m v5 p v6 y v7 M v8 H48 M',RY K d S H0 (hM (hM (hM (hM (hM (hM (hM (hM H B) E) U) m) p) y) M) H48) M' L (A.se a b)->Kp v1 B v2 E v3 U v4 m v5 p v6 y v7 M v8 H48):
 ME (yh T (bG<|Z ⟨d.ra,1,T⟩)<|hN H) λao B=>
 ME (bS 3 [a_ bC 0] 1 1 [(0,W a)]<|hN<|hM H B) λap E=>
 ME (Ch 3 1 ao ap<|hN<|hM (hM H B) E) λad U=>
 ME (yh T (bG<|Z ⟨d.ra,2,T⟩)<|hN<|hM (hM (hM H B) E) U) λaq m=>
 ME (bS 3 [a_ bC 0] 1 1 [(0,W b)]<|hN<|hM (hM (hM (hM H B) E) U) m) λar p=>
 ME (Ch 3 1 aq ar<|hN<|hM (hM (hM (hM (hM H B) E) U) m) p) λal y=>
 ME (GU 1 (bG<|Z ⟨d.ra,1,T⟩) ad<|hN<|hM (hM (hM (hM (hM (hM H B) E) U) m) p) y) λbb M=>
 ME (GU 1 (bG<|Z ⟨d.ra,2,T⟩) al<|hN<|hM (hM (hM (hM (hM (hM (hM H B) E) U) m) p) y) M) λbc H48=>
 kY aj [clS (bG<|Z ⟨d.ra,2,T⟩) al (hM (hM (hM (hM (hM (hM (hM H B) E) U) m) p) y) M) H48,cl 0,clS (bG<|Z ⟨d.ra,1,T⟩) ad (hM (hM (hM (hM (hM (hM H B) E) U) m) p) y) M,cl 0,CG (hM (hM (hM (hM (hM H B) E) U) m) p) y,N9 (hM (hM (hM (hM H B) E) U) m) p,cl 0,clL 1 (bG<|Z ⟨d.ra,2,T⟩) (hM (hM (hM H B) E) U) m,cl 0,CG (hM (hM H B) E) U,N9 (hM H B) E,cl 0,clL 1 (bG<|Z ⟨d.ra,1,T⟩) H B,cl 0]=f/\Kp ao B ap E ad U aq m ar p al y bb M bc H48:=by
 subst hO;have aE:=SH.own h.sh;obtain⟨Y,sv,pv,ov,ev,aw,X,gs,gp,go,ge,az,rfl,a7,an,Un,a8,a6,hR⟩:=id h.bd
 have G:=aE.perm (L':=(d.ra,27,[Y,sv,pv,ov,ev,W A.ty])::(gs++(gp++(X++(go++(ge++az)))))) (by
  have p1:=jB X gs<|gp++(go++(ge++az));have p2:=jB X gp<|go++(ge++az);exact(p1.trans<|gT gs p2).cons _)
 apply G.VM;simp only[iU G.wf];refine G.R4 O O O N λH1 rx G uR=>?_;have a0:=G.get 1 O;have G:=(G.to (cs':=[W a]) O).perm<|(jB [_] gs _).cons _;refine an.KB G N O O (by rw[aM];omega) λv' H2 x ab G _ _ a4=>?_;have G:=G.perm<|jB x [_] _;simp only[bQ,bX]at G;have a2:=(G.get 0 O).iB (Q:=H2) O;generalize hz1:hM (hM H H1) H2=Z1 at G|-;have ba:=G.wf;apply G.VM;simp only[iU G.wf];refine G.R4 O O O N λH3 ry G xz=>?_;have a1:=G.get 1 O
 have G:=(G.to (cs':=[W b]) O).perm (L':=(ry,3,[W b])::(gp++((d.ra,27,[Y,sv,pv,ov,ev,W A.ty])::(x++(X++(go++(ge++az))))))) (by
  have:=jB ((d.ra,27,[Y,sv,pv,ov,ev,W A.ty])::x) gp<|X++(go++(ge++az));exact this.cons _)
 refine Un.KB G N O O (by rw[aM];omega) λw' H4 V am G _ _ a5=>?_;have G:=G.perm<|jK;have a3:=(G.get 0 O).iB (Q:=H4) O;obtain⟨va,vc,rfl⟩:=ab.Ve;obtain⟨wa,wc,rfl⟩:=am.Ve;refine G.oq λH5 G=>?_;have G:=G.to (cs':=[Y,J va (u<|gq A.st++[W a]) vc,pv,ov,ev,W A.ty]) O;refine G.oq λH6 G=>?_;have G:=G.to (cs':=[Y,J va (u<|gq A.st++[W a]) vc,J wa (u<|gq A.sp++[W b]) wc,ov,ev,W A.ty]) O;refine(show∀K:Prop,K->_/\K fromλKz hK=>?_) _ ?_
 .have sm:∀{o},(o=1\/o=2)->∀v∈(([Y,sv,pv,ov,ev,W A.ty]:D C).drop o).take 1,qL v v=f:=λho v hv=>by
   rcases ho with rfl|rfl
   .have hv:v∈[sv]:=hv;rw[aS]at hv;subst hv;exact an.same
   .have hv:v∈[pv]:=hv;rw[aS]at hv;subst hv;exact Un.same
  have rd:∀{o},(o=1\/o=2)->∀w:Cl,((w.a=hM H H1/\w.b=H2)\/(w.a=hM Z1 H3/\w.b=H4))->oV w ⟨4,d.ra,o,1,hh0,hh0⟩=f:=λ{o} ho w hw=>by
   have ac:o+1<=6:=N;unfold oV;rcases hw with hw|hw
   .rw[hw.1,hw.2];exact Ck (a0.read ac) (a2.read ac)<|Ag<|sm ho
   .rw[hw.1,hw.2];exact Ck (a1.read ac) (a3.read ac)<|Ag<|sm ho
  have r1:=rd<|.inl O;have r2:=rd<|.inr O;simp only[uR,xz,eZ,gN];generalize d.ra=ra at r1 r2|-;rcases a4 with e|e<;>rw[e]<;>rcases a5 with e|e<;>rw[e]<;>apply agb (a:=ra) (au:=λw=>(w.a=hM H H1/\w.b=H2)\/(w.a=hM Z1 H3/\w.b=H4)) (by rfl) fQ fQ hK<;>repeat' apply iZ
  all_goals first|exact trivial|(intro h;cases h;done)|exactλ_=>.inl ⟨rfl,rfl⟩|exactλ_=>.inr ⟨rfl,rfl⟩|exactλ_=>r1|exactλ_=>r2
 have G:=G.perm (L':=(d.ra,27,[Y,J va (u<|gq A.st++[W a]) vc,J wa (u<|gq A.sp++[W b]) wc,ov,ev,W A.ty])::(X++(x++(V++(go++(ge++az)))))) (by
  refine fA _ ?_;have p1:=jB (V++x) X<|go++(ge++az);have p2:=jB V x<|go++(ge++az);simp only[cK]at p1;exact p1.trans<|gT X p2)
 have hB:Bd d.ra (A.se a b) ((d.ra,27,[Y,J va (u<|gq A.st++[W a]) vc,J wa (u<|gq A.sp++[W b]) wc,ov,ev,W A.ty])::(X++(x++(V++(go++(ge++az)))))):=⟨Y,_,_,ov,ev,aw,X,x,V,go,ge,az,O,a7,by
  have:gq (A.se a b).st=gq A.st++cr (W a):=by show gq (A.st++[a])=_;simp;rfl
  rw[this];exact ab,by
  have:gq (A.se a b).sp=gq A.sp++cr (W b):=by show gq (A.sp++[b])=_;simp;rfl
  rw[this];exact am,a8,a6,hR⟩
 have a9:∀{M':D eF}{Q:R},SH ((((d.ra,27,[Y,sv,pv,ov,ev,W A.ty])::(X++(gs++(gp++(go++(ge++az))))):D eF).map (·.1))) H Q M'->∀r∈M'.map (·.1),¬K r:=λG r hr hk=>by
  obtain⟨e,he,rfl⟩:=bT.1 hr;rcases(G.lo e he).1 with I|I
  .exact h.nk _ I hk
  .have:=h.we.hK _ hk;omega
 have hY:RY K d S H0 _ ((d.ra,27,[Y,J va (u<|gq A.st++[W a]) vc,J wa (u<|gq A.sp++[W b]) wc,ov,ev,W A.ty])::(X++(x++(V++(go++(ge++az)))))) L (A.se a b):=⟨h.we.stay G.ext h.nk,a9 G,hB,SH.frame h.sh G,⟨h.bu.AX,h.bu.o,h.bu.e⟩,h.ty,h.pos,h.few⟩;refine kk _ _ _ _ _ _ _ _ _ _ _ _ _ _ _ _ ((d.ra,27,[Y,J va (u<|gq A.st++[W a]) vc,J wa (u<|gq A.sp++[W b]) wc,ov,ev,W A.ty])::(X++(x++(V++(go++(ge++az)))))) ?_;rw[iU h.sh.wf,hz1,iU ba];exact hY
end
section
open Go.Ae Go.Ae.hx Go.Proofs.Lv
variable{S:D Nat}
def _root_.Go.Ae.jC.within{cs:Nat->Prop}{n:Nat}(h:jC cs ty H a n es F)(m:∀r,r<H.bV->F' r):jC F' ty H a n es F:=⟨h.1,λr o e p=>let⟨_,B,h3⟩:=h.2 r o e p;⟨m r B,B,h3⟩⟩
def YL.within{cs:Nat->Prop}(h:YL cs H nn jw kd zs)(m:∀r,r<H.bV->F' r):YL F' H nn jw kd zs:=λi p=>let⟨a,c,t,xa,xn,xc,at',I,B,h3⟩:=h i p;⟨a,c,t,xa,xn,xc,at',I,B.within m,h3⟩
def YL.ex{cs:Nat->Prop}(h:YL cs H nn jw kd zs)(M:Ext H Q):YL cs Q nn jw kd zs:=λi m=>let⟨a,c,t,xa,xn,xc,at',I,B,h3⟩:=h i m;⟨a,c,t,xa,xn,xc,at',I,B.ex M,h3⟩
def _root_.Go.Ae.Bk.UT{cs:Nat->Prop}{n:Nat}(h:Bk H r ty F)(m:r<H.bV)(w:u F=n*es)(p:cs r):jC cs ty H (Z ⟨r,0,T⟩) n es F:=⟨h.fl m w,λx o e _=>by cases e;exact⟨p,m,h.Gb⟩⟩
def GI(rcs:D C)(ws:D Nat):Nat->Nat
 |0=>0
 |i+1=>GI rcs ws i+(if Iv rcs i=f then 0 else 2+vn ws (rootOf rcs i).toNat)
def aaD(rcs:D C)(ws:D Nat)(h:i<=j):GI rcs ws i<=GI rcs ws j:=by
 induction j with
 |zero=>obtain rfl:i=0:=N
        exact ax _
 |succ j m=>
  rcases dH i (j+1)with I|I
  .have:=m N;show _<=GI rcs ws j+_;omega
  .obtain rfl:i=j+1:=N;exact ax _
def Bd.atC(hB:Bd ra A<|(ra,27,F)::hx)(G:SH [] H Q<|hx++L)(ho:A.Ok):∃q:AV,F=q.cells A/\vF (H.bV<=·) Q A q:=by
 have⟨nv,sv,pv,ov,ev,evs,gn,gs,gp,go,ge,az,e,hgn,hgs,Un,hgo,hge,hR⟩:=hB;obtain⟨E,rfl⟩:=kK e;cases E;have ab:u evs=A.ns:=by rw[<-hR.len,aM,ho.AX]
 have B:=G.cast (L':=gn++(gs++(gp++(go++(ge++(az++L)))))) gB;have m:=fV B;have p:=fV m;have w:=fV p;have x:=fV w;have y:=fV x;obtain⟨na,n1,nc,rfl,l1,U⟩:=hgn.UT B;obtain⟨sa,n2,sc,rfl,l2,V⟩:=hgs.UT m;obtain⟨pa,n3,pc,rfl,l3,W⟩:=Un.UT p;obtain⟨oa,n4,oc,rfl,l4,X⟩:=hgo.UT w;obtain⟨I,n5,M,rfl,l5,Y⟩:=hge.UT x;obtain rfl:n1=A.nr:=by rw[aM]at l1;unfold At.nr;omega
 obtain rfl:n2=A.nr:=by rw[aM,ho.YN]at l2;omega
 obtain rfl:n3=A.nr:=by rw[aM,ho.YO]at l3;omega
 obtain rfl:n4=A.ns:=by rw[aM]at l4;unfold At.ns;omega
 obtain rfl:n5=A.ns:=N;refine⟨⟨na,sa,pa,oa,I,nc,sc,pc,oc,M⟩,O,U,V,W,X,evs,Y,λi hi=>?_⟩;have⟨a,n,c,g1,g2,g3⟩:=hR.all y i N
 have hE:(A.eg.map Bf)[i]?.getD []=Bf (A.rg i):=by
  unfold At.rg;rw[bL,av (show i<u A.eg by rw[ho.AX];exact hi)];rfl
 rw[hE]at g2 g3;rw[Lm]at g2;obtain rfl:n=u (A.rg i):=N;refine⟨a,c,by rw[av (show i<u evs by omega),g1],g3.wk λr hr=>?_⟩;obtain⟨e,he,rfl⟩:=bT.1 hr;exact y.yu<|dM _ he
theorem Bd.atM(m:Bd ra A hx)(G:SH [] H Q<|hx++L)(ho:A.Ok):∃q:AV,Q.read ra 0 6=Z (q.cells A)/\vF (H.bV<=·) Q A q:=by
 obtain⟨E,U,N,M,ev,p,w,y,x,go,ge,az,rfl,g⟩:=id m;have⟨q,I,B⟩:=m.atC (fV (A:=[_]) G) ho;exact⟨q,by rw[<-I];exact(G.get 0 O).read (o:=0) (n:=6)<|ax 6,B⟩
end
section
open Go.Ae Go.Ae.hx Go.Proofs.Lv
variable{S:D Nat}
abbrev ad2(tn:Nat)(H:R)(v:C)(Q:R):Prop:=∃(A:At)(q:AV),v=q.v A/\vF (H.bV<=·) Q A q/\A.Ok/\A.ty=tn/\A.tot<=2*A.ns
theorem agF{rz y E:Nat}{ra:aC Addr}{rn:Nat}{x2 x3 vE:C}(hG:Gr b H ra rn rcs na nn jw)(hR:∀i,i<rn->0<=rootOf rcs i/\rootOf rcs i<nn)(a5:Iv rcs 0=aA)(aE:1<=rn)(hQ:WQ d)(hd:d.nn=nn/\d.tn=tn/\d.lw=AO rcs rn)(a4:GI rcs d.ws rn<=4000)(p:RZ K d [] H H1 hx [(rz,27,[J T 0 0,J T 0 0,J T 0 0,J T 0 0,J T 0 0,vi 0]),(y,180,[J va tn vc]),(E,171,[J ra rn rc,J na nn nc])] A)(hA:A.nr=0/\A.ns=0):
 iC Pg X (.loop<|sub Eu [1,1,1,1,1,0,1,0,0]) (QV (gV ra rn rc na nn nc) (vV va tn vc) x2 x3 (pr E) (pr y) (pr rz) (pr d.ra) d.fv d.pv d.wv vE mO rT (J ra rn rc) (W rn) (W 0) oW H1) (uk 0<|uQ Pg X (sub Eu [1,1,1,1,1,1])<|jO Pg [.cell 8 27]<|Q1 (ad2 tn H) H):=by
 have I:=hG.2.1;refine Ov 14 15 16 31 (h1:=λm vE mO rT al Q=>∃i A hx,al=W i/\i+m=rn/\RZ K d [] H Q hx [(rz,27,[J T 0 0,J T 0 0,J T 0 0,J T 0 0,J T 0 0,vi 0]),(y,180,[J va tn vc]),(E,171,[J ra rn rc,J na nn nc])] A/\A.nr=AO rcs i/\A.ns=GI rcs d.ws i) ?_ rn ⟨0,A,hx,rfl,N,p,hA.1,hA.2⟩;clear p hA;rintro m vE mO rT al oW H2 ⟨i,A,hx,rfl,bg,p,ar,bj⟩;refine mG (λhc=>?_) λhc=>?_
 .obtain rfl:i=rn:=N;have bh:=Jy rcs aE;have ac:AO rcs 1=1:=by show 0+(if Iv rcs 0=f then 0 else 1)=1;rw[a5];rfl
  have tt:=p.tt;have ok:A.Ok:=p.bs.ok (by rw[ar,hd.2.2]) N (by have:=p.few;omega) N N;refine tl ?_;have⟨q0,hr0,_⟩:=p.bd.atM p.sh ok;refine ME.uE hr0 ?_;have G:=p.sh.perm<|aG (l₁:=hx);refine G.st 0 O O (ax 6) O λH3 G=>?_;have G:SH [] H H3 ((rz,27,q0.cells A)::(y,180,[J va tn vc])::(E,171,[J ra i rc,J na nn nc])::hx):=G;have ab:=G.perm (L':=hx++[(rz,27,q0.cells A),(y,180,[J va tn vc]),(E,171,[J ra i rc,J na nn nc])])<|aG (l₁:=[_,_,_]);have⟨q1,hr1,hat⟩:=p.bd.atM ab ok
  have eq:q1.cells A=q0.cells A:=by
   obtain⟨F,hm,h6⟩:∃F,((d.ra,27,F):eF)∈hx/\u F=6:=by
    obtain⟨nv,sv,pv,ov,ev,bc,gn,gs,gp,go,ge,az,rfl,_⟩:=p.bd;exact⟨_,aK ..,O⟩
   have a0:=(p.sh.bk _<|dM _ hm).read (o:=0) (n:=6) (by show 0+6<=u F;omega);have M:=(ab.bk _<|dM _ hm).read (o:=0) (n:=6) (by show 0+6<=u F;omega);have b0:=a0.symm.trans hr0;have b1:=M.symm.trans hr1;exact eO<|b1.symm.trans b0
  refine rr ?_;refine G.uE 0 O (ax 6) ?_;rw[<-eq];exact⟨⟨A,q1,O,hat,ok,p.ty.trans hd.2.1,tt⟩,G.ext⟩
 have hi:i<rn:=N;have⟨r1,o1,zN,u1,f1,w1,c1,M,e1,ac,Be,uR,hsz,hel⟩:=hG.ru hi rc;have ad:=hR i hi;rw[e1];refine bN ?_;refine p.sh.BN Be ac<|(gM p.sh.wf).og O O O λH3 ru U a6=>?_;have U:SH [] H2 H3 [(ru,234,yj zN u1 f1 w1 c1 (rootOf rcs i) M)]:=U
 have wu:=(SH.frame (hx:=[]) p.sh U).perm (L':=hx++([(rz,27,[J T 0 0,J T 0 0,J T 0 0,J T 0 0,J T 0 0,vi 0]),(y,180,[J va tn vc]),(E,171,[J ra rn rc,J na nn nc])]++[(ru,234,yj zN u1 f1 w1 c1 (rootOf rcs i) M)])) (by
  rw[<-cK];exact aG (l₁:=[_]))
 have p:=p.ext a6 wu;have x:AO rcs (i+1)=AO rcs i+(if Iv rcs i=f then 0 else 1):=rfl;have UW:GI rcs d.ws (i+1)=GI rcs d.ws i+(if Iv rcs i=f then 0 else 2+vn d.ws (rootOf rcs i).toNat):=rfl;rw[Lj hel]at x UW;have bi:=aaD rcs d.ws (show i+1<=rn by omega);have a8:=Jy rcs (show i+1<=rn by omega);have a7:=Q_ rcs rn;have V:∀{Q M'}(_:SH [] H Q<|M'++([(rz,27,[J T 0 0,J T 0 0,J T 0 0,J T 0 0,J T 0 0,vi 0]),(y,180,[J va tn vc]),(E,171,[J ra rn rc,J na nn nc])]++[(ru,234,yj zN u1 f1 w1 c1 (rootOf rcs i) M)])),Bk Q ru 234 (yj zN u1 f1 w1 c1 (rootOf rcs i) M):=λ{Q M'} G=>G.bk _<|dL _<|dL _<|aK ..
 have B:∀{Q M'}(_:SH [] H Q<|M'++([(rz,27,[J T 0 0,J T 0 0,J T 0 0,J T 0 0,J T 0 0,vi 0]),(y,180,[J va tn vc]),(E,171,[J ra rn rc,J na nn nc])]++[(ru,234,yj zN u1 f1 w1 c1 (rootOf rcs i) M)])),SH [] H Q (M'++[(rz,27,[J T 0 0,J T 0 0,J T 0 0,J T 0 0,J T 0 0,vi 0]),(y,180,[J va tn vc]),(E,171,[J ra rn rc,J na nn nc])]):=λ{Q M'} G=>G.sub<|List.Sublist.append_left (fB _ _) M';refine bN ?_;refine iV ((V p.sh).cell (o:=1) O) ?_;refine sD (λhb=>?_) λhb=>?_
 .rw[jj hb]at x UW;refine eD ?_;exact⟨rn-(i+1),N,_,_,_,_,_,_,O,i+1,A,hx,pq,N,p.ext (Ext.refl _)<|B p.sh,N,N⟩
 rw[jx (by rw[hb];simp)]at x UW;have Jz:=p.few;have a9:=p.tt;have⟨v0,hv0,hname⟩:=p.bd.name (nm:=zN) p.sh N;refine iV hv0<|iV ((V p.sh).cell (o:=0) O)<|hname λw v' aa H4 M4 ap xG=>?_;have am:(A.ru zN).nr=A.nr+1:=by show u (A.nm++[zN])=_;rw[aU];rfl
 have hY:RY K d [] H H4 M4 _ (A.ru zN):=⟨p.we.stay xG.ext p.nk,p.nks xG,ap,SH.frame p.sh xG,p.bs.bu.ru zN,p.ty,N,N⟩;have aw:(A.ru zN).ns=A.ns:=rfl;have bb:(A.ru zN).tot=A.tot:=rfl;refine hY.fresh N λH5 M5 A1 hY Y F=>?_;have n1:=Y.ns;have t1:=Y.tt;refine hY.fresh N λH6 M6 A2 hY I cp=>?_;have n2:=I.ns;have t2:=I.tt;have F:=F.gw I;have a3:A2.st=A.st:=by rw[I.st,Y.st];rfl
 have a2:A2.sp=A.sp:=by rw[I.sp,Y.sp];rfl
 refine hY.ends (by rw[a3,p.bs.YN];omega) (by rw[a2,p.bs.YO];omega) rfl λu1 e1 u2 e2 u3 e3 u4 e4 u5 e5 u6 e6 u7 e7 u8 e8 M7 hY=>?_;generalize hM (hM (hM (hM (hM (hM (hM (hM H6 e1) e2) e3) e4) e5) e6) e7) e8=H7 at hY|-;have n3:(A2.se (A.ru zN).ns A1.ns).ns=A2.ns:=rfl;have t3:(A2.se (A.ru zN).ns A1.ns).tot=A2.tot:=rfl;obtain⟨k,hk⟩:∃k:Nat,rootOf rcs i=k:=⟨(rootOf rcs i).toNat,N⟩;have aq:k<d.nn:=N;have be:vn d.ws (rootOf rcs i).toNat=vn d.ws k:=by rw[hk];rfl
 refine iV ((V hY.sh).cell (o:=5) O) ?_;rw[hk];refine hY.way (ajN hQ k aq) N N (show(A2.se (A.ru zN).ns A1.ns).cur _ from F) λto H8 M8 A4 c hY g4 bf ao=>?_;have n4:=g4.ns;have t4:=g4.tt;refine PU.b3 O ?_;have an:A4.cur A1.ns:=At.cur.gw (A:=A2.se (A.ru zN).ns A1.ns) cp g4;refine hY.put (e:=(0,0,A1.ns)) ao an (ajK ..) N λv9 H9 M9 A5 hY g5=>?_;have n5:=g5.ns;have t5:=g5.tt;refine eD ?_;have ba:A5.nr=A.nr+1:=by rw[g5.nr,g4.nr];show A2.nr=_;rw[I.nr,Y.nr,am]
 exact⟨rn-(i+1),N,_,_,_,_,_,_,O,i+1,A5,M9,pq,N,⟨hY.we,hY.nk,hY.bd,B hY.sh,p.bs.bV (Y.trans I) F cp (g4.trans g5) hY.bu,hY.ty,N,N⟩,N,N⟩
end
section
open Go.Ae Go.Ae.hx Go.Proofs.Lv
variable{cs:Nat->Prop}{S:D Nat}
def Bd.nil(ra tn:Nat):Bd ra ⟨[],[],[],[],[],tn⟩ [(ra,27,[J T 0 0,J T 0 0,J T 0 0,J T 0 0,J T 0 0,W tn])]:=
 ⟨_,_,_,_,_,[],[],[],[],[],[],[],rfl,.inl ⟨rfl,rfl,rfl⟩,.inl ⟨rfl,rfl,rfl⟩,.inl ⟨rfl,rfl,rfl⟩,.inl ⟨rfl,rfl,rfl⟩,.inl ⟨rfl,rfl,rfl⟩,rfl⟩
theorem WN(hw:Wf H){rl rs:Nat}{ra:aC Addr}{rn:Nat}{m:D C}(hG:Gr b H ra rn rcs na nn jw)(ab:YL cs H nn jw kd zs)(hR:∀i,i<rn->0<=rootOf rcs i/\rootOf rcs i<nn)(an:Iv rcs 0=aA)(al:1<=rn)(hl:Bk H rl 121 m/\rl<H.bV/\u m=nn*3)(ac:∀i,i<nn->yf tn (AO rcs rn) (El m 3 i))(hs:Bk H rs 3 (gq ws)/\rs<H.bV/\u ws=nn)(am:∀j,j<nn->Iy kd zs ws j)(I:GI rcs ws rn<=4000):
 bM Pg X 125 [gV ra rn rc na nn nc,vV va tn vc,J (Z ⟨rl,0,T⟩) nn nn,J (Z ⟨rs,0,T⟩) nn nn] H (Q1 (ad2 tn H) H):=by
 have G:=gM hw;refine lF [0,1,2,3,4,5,8,9,10,11,12,14,15,16,29,30,31] ?_;refine G.box O λH1 E G=>?_;refine G.box O λH2 rv G=>?_;refine G.jM λH3 rz G=>?_;refine fF ?_;refine G.cm (Wv G.wf) ?_;rintro v H4 rfl M G;refine fF ?_;refine G.jM λH5 rb G=>G.j_ λHn G=>?_;apply G.jl;have hb:=iZ (G.yu<|aT (i:=0) O) (G.lo _<|aT (i:=0) O).2;refine dn (aaC G.wf ⟨_,_,_,O⟩ ⟨_,_,_,O⟩) ?_;rintro v B ⟨g,s,w,U,V,lo,p,l,rfl,ao,ad,c1,c2,c3,c4,c5,c6,c7,c8⟩;have G:=G.call ao;have M:=G.ext
 have x:∀r∈[g,s,w,U,V,lo,p,l],r<B.bV/\r≠rb:=λr y=>by
  have:=ad r y;exact⟨this.2,N⟩
 have Y:∀r,r<H.bV->r<B.bV/\r≠rb:=λr y=>⟨by have:=M.bV;omega,N⟩
 have hW:WE (λr=>r<B.bV/\r≠rb) ⟨g,s,w,U,V,lo,p,l,rb,na,nc,nn,rs,rl,jw,m,ws,kd,zs,tn,AO rcs rn⟩ B:=
  ⟨λr y=>y.1,⟨x g gB,c1⟩,⟨x s gB,c2⟩,⟨x w gB,c3⟩,⟨x U gB,c4⟩,⟨x V gB,c5⟩,⟨x lo gB,c6⟩,⟨x p gB,c7⟩,⟨x l gB,c8⟩,
   (hG.2.2.2.1.within Y).ex M,(ab.within Y).ex M,((hs.1.UT hs.2.1 (by rw[dY,aM];exact hs.2.2)<|Y _ hs.2.1)).ex M,(hl.1.UT hl.2.1 hl.2.2<|Y _ hl.2.1).ex M⟩
 refine fF ?_;refine agF (d:=⟨g,s,w,U,V,lo,p,l,rb,na,nc,nn,rs,rl,jw,m,ws,kd,zs,tn,AO rcs rn⟩) (K:=λr=>r<B.bV/\r≠rb) (A:=⟨[],[],[],[],[],tn⟩) (hx:=[(rb,27,[J T 0 0,J T 0 0,J T 0 0,J T 0 0,J T 0 0,W tn])]) hG hR an al ⟨hG.2.2.2.2.1,am,ac⟩ ⟨O,O,O⟩ I ⟨hW,λr y hk=>?_,Bd.nil rb tn,G,?_,rfl,bD _,bD _⟩ ⟨rfl,rfl⟩
 .obtain rfl:r=rb:=aS.1 y;exact hk.2 O
 .exact⟨⟨O,λs h=>absurd h<|iN _,λs h=>absurd h<|iN _⟩,rfl,rfl,λs h=>absurd h<|iN _,λs h=>absurd h<|iN _⟩
end
end Go.Proofs.Lu
