/-
  Part 08 of the proof. No condition.
-/
import Derived.Test.YtpngmpbmokhmiaaGreatDoorZ07
set_option linter.unusedVariables false
set_option linter.unusedSimpArgs false
set_option maxRecDepth 100000
set_option maxHeartbeats 4000000
set_option linter.defProp false
open Option renaming some->Z,none->T,rec->aP
open Bool renaming true->F,false->aA
open Go renaming Value->D,TypeId->aH
open Go.Value renaming int->bq,slice->u,bool->aR,string->aJ,pointer->bG,agg->dP
open List renaming length->J,replicate->aY,range->dZ
open And renaming intro->iZ
open Go.IntKind renaming i64->bC
open List.Perm renaming cons->eX
noncomputable section
namespace Go.Proofs.Lv
open Go.Proofs.Lu
open Go.Ae Go.Ae.hx
variable{ag:Nat->Ed->Prop}{H':Nat->Prop}{l mk mk':C Bool}{nx':C Nat}{A:At}{q:AV}{K K':D->R->Prop}{L L' hx:C eB}{H H0:R}{b c es r re s:Nat}{v:D}{vs z:C D}
section
variable{S:C Nat}{ay:Nat->Prop}{n:Nat}{P:Nat->Prop}{nx:C Nat}
def Wy{rs:C ResultVar}(h:∀v H,K v H->K' v H):∀o,jZ Pg rs K o->jZ Pg rs K' o:=by
 have p:∀s:St,(s.df=[]/\@aP (C D) (λ_=>Prop) False (λvs=>K (uO vs) s.H) (ny Pg s rs))->(s.df=[]/\@aP (C D) (λ_=>Prop) False (λvs=>K' (uO vs) s.H) (ny Pg s rs)):=by
  rintro s ⟨I,W⟩;refine⟨I,?_⟩;cases ha:ny Pg s rs with
  |none=>rw[ha]at W;exact W
  |some vs=>rw[ha]at W;exact h _ _ W
 intro o m;cases o with
 |norm s=>exact p s m
 |ret s=>exact p s m
 |fail=>exact m
 |exit i s=>exact m
 |goto l s=>exact m
def Ll.bk{ok:Ed->Prop}{key:Ed->Nat}{az:C eB}(h:Ll ok key A ag c n vs az)(O:c<=1000000)(G:SH S H0 H<|az++L)(y:Bk H r 207 vs)(hl:r<H.bU):
 BkM (λt l=>(∀p∈l,p.2∈A.rg p.1/\key p.2=t/\ok p.2)/\∀s e,ag s e->ok e->key e=t->(s,e)∈l) H n (Z ⟨r,0,T⟩):=by
 have⟨b,I,W,h3⟩:=h;have M:J vs=n:=by rw[<-h3.len,aK,W]
 refine⟨vs,⟨y.fl hl N,λV o e _=>by cases e;exact⟨trivial,hl,y.Gb⟩⟩,λt U=>?_⟩;have⟨a,m,c',e1,x,hf⟩:=h3.all G t N;obtain⟨l,hl⟩:∃l,b[t]?=Z l:=⟨_,av N⟩;rw[bK,hl]at x hf;have x:J (UQ l)=m*4:=x;rw[Rt]at x;obtain rfl:m=J l:=N;have:=I.len l<|aV hl;exact⟨a,c',l,by rw[av N,e1],hf.wk λ_ _=>trivial,⟨I.snd t l hl,λs e B E w=>I.cpl s e l B E (by rw[w];exact hl)⟩,N⟩
abbrev KY:Ed->Nat:=λe=>e.2.2
abbrev Ny:Ed->Nat:=λe=>e.2.1
abbrev okC:Ed->Prop:=λe=>e.1=2
theorem agz{tok:Bool}{e:Ed}{dc di E ic cc:Nat}{OO V:C D}{RI RC:C eB}{H1:R}(hc:c<=1000000)(ho:A.Ok)(he:e∈A.rg s)(aE:At.YJ tok e)(hI:Ll (At.YJ tok) KY A ag c A.ns OO RI)(hC:Ll okC Ny A ag c A.nr V RC)(G:SH [] H H1<|(re,121,[B e.1,B e.2.1,B e.2.2])::(dc,207,V)::(di,207,OO)::(E,27,q.cells A)::(RI++RC)){K:Out->Prop}{x0 x1 x2 x4 x8 je mP ko mM rP Bc xC yu al am x32 Cb x38 an ao ap aq y Gh Cx I M U:D}{oW:C (Nat×D)}(kk:∀Nz NA Wz w BH Q,Ll (At.YJ tok) KY A (λs' e'=>ag s' e'\/(s'=s/\e'=e)) (c+1) A.ns Nz Wz->Ll okC Ny A (λs' e'=>ag s' e'\/(s'=s/\e'=e)) (c+1) A.nr NA w->SH [] H Q ((re,121,[B e.1,B e.2.1,B e.2.2])::(dc,207,NA)::(di,207,Nz)::(E,27,q.cells A)::(Wz++w))->
  K (.norm<|nG x0 x1 x2 x4 (u (Z ⟨di,0,T⟩) A.ns ic) (u (Z ⟨dc,0,T⟩) A.nr cc) (B s) x8 (pt re) je mP ko mM rP Bc xC yu al am x32 Cb x38 an ao ap aq y Gh Cx I M U BH Q)):
 iG Pg X (sub qR [1,1,1,0,1,0,0,1,1,0,0,1,1,0,0,1,1,0,0,1,1]) (nG x0 x1 x2 x4 (u (Z ⟨di,0,T⟩) A.ns ic) (u (Z ⟨dc,0,T⟩) A.nr cc) (B s) x8 (pt re) je mP ko mM rP Bc xC yu al am x32 Cb x38 an ao ap aq y Gh Cx I M U oW H1) K:=by
 have hs:=ho.lt he;have ab:KY e<A.ns:=(ho.e s hs e he).1;have a1:J OO=A.ns:=let⟨b,_,W,h3⟩:=hI;by rw[<-h3.len,aK,W]
 have a0:J V=A.nr:=let⟨b,_,W,h3⟩:=hC;by rw[<-h3.len,aK,W]
 refine tm ?_;obtain⟨v,x,_⟩:∃v,OO[KY e]?=Z v/\True:=⟨_,av N,trivial⟩;refine G.R8 (k:=KY e) ab x<|fJ ?_;refine G.Tq O O O N λH2 rx G uX=>?_;have G:SH [] H (hM H1 H2) ((rx,209,[B s,B e.1,B e.2.1,B e.2.2])::([(re,121,[B e.1,B e.2.1,B e.2.2]),(dc,207,V),(di,207,OO),(E,27,q.cells A)]++(RI++RC))):=G;have m:=G;refine hI.put hc he aE ab x G λva vl vc H3 Wz ac G xF=>?_;simp only[bV,bZ]at G;have p:=G;refine G.OM (k:=KY e) ab N (kk:=λH4 G=>?_);have n1:re≠di:=G.nq 0 2 O O N;refine splitK (λK hK=>?_) ?_
 .have r1:∀{o n:Nat}{a b:R},o+n<=3->oQ ⟨2,0,0,0,hM H1 H2,H3⟩ ⟨4,re,o,n,a,b⟩=F:=λh=>sF (m.get 1 O) ((p.get 0 O).iE O) h (ID ⟨_,_,_,rfl⟩);have r2:∀{n:Nat}{a b:R},n=1->oQ ⟨2,0,0,0,hM H1 H2,H3⟩ ⟨4,di,KY e,n,a,b⟩=F:=λh=>sF (m.get 3 O) ((p.get 2 O).iE O) N λv x=>hI.same v<|lV<|fG x;simp only[uX,fu,gT];generalize hke:KY e=ke at r2|-;rcases xF with e|e<;>rw[e]<;>apply Ii (A:=hM H1 H2) (vn:=H3) (a:=re) (b:=di) n1 (by rfl) fT fT hK<;>repeat' apply iZ
  all_goals first|exact trivial|(intro h;cases h;done)|exactλ_=>⟨rfl,rfl⟩|exactλ_=>r1 N|exactλ_=>r2 O
 refine acu (λhk=>?_) λhk=>?_
 .exact kk _ V Wz RC _ _ ac (hC.skip (s:=s) (e:=e) λh=>hk (by have:e.1=2:=h;omega)) G
 have ad:okC e:=by show e.1=2;omega
 have Y:Ny e<A.nr:=ho.call he ad;clear m p uX xF n1;generalize hM _ H4=Hz at G|-;refine fJ ?_;obtain⟨v,x,_⟩:∃v,V[Ny e]?=Z v/\True:=⟨_,av N,trivial⟩;refine G.R8 (k:=Ny e) Y x<|fJ ?_;refine G.Tq O O O N λH5 ry G uX=>?_;have m:=G;have G:=(G.to (cs':=[B s,B e.1,B e.2.1,B e.2.2]) O).cast (L':=(ry,209,[B s,B e.1,B e.2.1,B e.2.2])::(([(re,121,[B e.1,B e.2.1,B e.2.2]),(dc,207,V),(di,207,OO.set (KY e)<|u va vl vc),(E,27,q.cells A)]++Wz)++(RC++[]))) gD;refine hC.put hc he ad Y x G λvb vm vd H6 w ar G xF=>?_;simp only[bV,bZ,bF]at G;have p:=G;refine G.OM (k:=Ny e) Y N (kk:=λH7 G=>?_);have n1:re≠dc:=G.nq 0 1 O O N;refine splitK (λK hK=>?_) ?_
 .have r1:∀{o n:Nat}{a b:R},o+n<=3->oQ ⟨2,0,0,0,hM Hz H5,H6⟩ ⟨4,re,o,n,a,b⟩=F:=λh=>sF (m.get 1 O) ((p.get 0 O).iE O) h (ID ⟨_,_,_,rfl⟩);have r2:∀{n:Nat}{a b:R},n=1->oQ ⟨2,0,0,0,hM Hz H5,H6⟩ ⟨4,dc,Ny e,n,a,b⟩=F:=λh=>sF (m.get 2 O) ((p.get 1 O).iE O) N λv x=>hC.same v<|lV<|fG x;simp only[uX,fu,gT];generalize hke:Ny e=ke at r2|-;rcases xF with e|e<;>rw[e]<;>apply Ii (A:=hM Hz H5) (vn:=H6) (a:=re) (b:=dc) n1 (by rfl) fT fT hK<;>repeat' apply iZ
  all_goals first|exact trivial|(intro h;cases h;done)|exactλ_=>⟨rfl,rfl⟩|exactλ_=>r1 N|exactλ_=>r2 O
 exact kk _ _ Wz w _ _ ac ar G
end
section
variable{S:C Nat}{ay:Nat->Prop}{n:Nat}{P:Nat->Prop}{nx:C Nat}
def GG(hw:Wf H)(h:vI ay H A q)(ho:A.Ok)(tok:Bool):bQ Pg X 77 [q.v A,aR tok] H (Qe (λv Q=>∃mk,Bs H.bU Q A.ns v mk/\∀s,on mk s<->A.Mk tok s) H):=by
 have G:=h_ hw;have aE:=ho.big;have JF:=ho.few;refine lq [0,1,2,4,5,6,7,8,10,11,12,13,15,16,18,19,21,30,31,32,37,38,39,88,89,90,115,116,117,157,158,159] ?_;refine G.box O λH1 E G=>?_;rw[lN]at G;refine G.uL 0 O (by show 0+6<=6;omega) ?_;refine dD (vU G.wf q A) ?_;rintro v H2 ⟨rfl,M⟩;have G:=G.call M;refine G.mkS (ax _) N λH3 V G=>?_;rw[mK]at G;refine bM ?_;refine G.ld 1 (o:=0) O O ?_;refine bM ?_;refine G.mkS (ax _) N λH4 U G=>?_;rw[mK]at G;refine G.ld 2 (o:=4) O O ?_;refine bM ?_;have G:SH [] H H4 ((U,207,aY A.nr<|u T 0 0)::(V,207,aY A.ns<|u T 0 0)::(E,27,q.cells A)::([]++[])):=G;have am:∀(ok:Ed->Prop) ar n,Ll ok ar A (Seen A 0 0) (A.pre 0) n (aY n<|u T 0 0) []:=λok ar n=>⟨aY n [],(KD.nil n).wk (λs e h=>by rcases h with⟨h,_⟩|⟨_,j,h,_⟩<;>omega)<|bD _,gD,by rw[jL];exact IX.Z5 n⟩;refine lp7 7 8 10 32 37 38 39 (h1:=λm x7 x8 j_ x32 Cb x38 an Q=>∃i x y I RC,x32=B i/\i+m=A.ns/\Ll (At.YJ tok) KY A (Seen A i 0) (A.pre i) A.ns x I/\Ll okC Ny A (Seen A i 0) (A.pre i) A.nr y RC/\SH [] H Q ((U,207,y)::(V,207,x)::(E,27,q.cells A)::(I++RC))) ?_ A.ns ⟨0,_,_,[],[],rfl,N,am _ _ _,am _ _ _,G⟩;clear G M am;rintro m x7 x8 j_ x32 Cb x38 an oW H5 ⟨i,x,y,I,RC,rfl,a2,hI,hC,G⟩;refine lX (λhc=>?_) λhc=>?_
 .obtain rfl:i=A.ns:=N;have al:=At.AZ ho A.ns;have ao:∀s e,e∈A.rg s->Seen A A.ns 0 s e:=λs e he=>.inl ⟨ho.lt he,he⟩;have ap:SH [] H H5 ((I++RC)++[(U,207,y),(V,207,x),(E,27,q.cells A)]):=G.perm<|aI (l₁:=[_,_,_]);have b1:=hI.bk (L:=RC++[(U,207,y),(V,207,x),(E,27,q.cells A)]) N (ap.cast gD) (G.get 1 O) (G.lo _<|aV (i:=1) O).2;have b2:=hC.bk (L:=[(U,207,y),(V,207,x),(E,27,q.cells A)]) N (fU (A:=I)<|ap.cast gD) (G.get 0 O) (G.lo _<|aV (i:=0) O).2
  have c1:BkM (amr A tok) H5 A.ns (Z ⟨V,0,T⟩):=by
   have⟨vs,W,Y⟩:=b1;refine⟨vs,W,λt ht=>?_⟩;have⟨b,c,l,g3,g4,⟨g5,g6⟩,g7⟩:=Y t ht;exact⟨b,c,l,g3,g4,⟨g5,λs e he hk ab=>g6 s e (ao s e he) hk ab⟩,g7⟩
  have c2:BkM (ams A) H5 A.nr (Z ⟨U,0,T⟩):=by
   have⟨vs,W,Y⟩:=b2;refine⟨vs,W,λt ht=>?_⟩;have⟨b,c,l,g3,g4,⟨g5,g6⟩,g7⟩:=Y t ht;exact⟨b,c,l,g3,g4,⟨λp hp=>⟨(g5 p hp).1,(g5 p hp).2.2,(g5 p hp).2.1⟩,λs e he hk ab=>g6 s e (ao s e he) hk ab⟩,g7⟩
  have M:=G.ext;refine iG.mono (agy G.wf (h.ex M) ho (G.get 2 O) (G.lo _<|aV (i:=2) O).2 c1 c2)<|Wy ?_;rintro v H6 ⟨⟨mk,W,Y⟩,g3⟩;exact⟨⟨mk,W.le M.bU,Y⟩,M.trans g3⟩
 have hi:i<A.ns:=N;refine h.ldE G.ext hi λp ea ec hE=>?_;refine bM ?_;have al:=At.yt ho hi;have a4:=At.AZ ho<|i+1;refine lp2 10 39 (h1:=λm j_ an Q=>∃k x y I RC,an=B k/\k+m=J (A.rg i)/\Ll (At.YJ tok) KY A (Seen A i k) (A.pre i+k) A.ns x I/\Ll okC Ny A (Seen A i k) (A.pre i+k) A.nr y RC/\SH [] H Q ((U,207,y)::(V,207,x)::(E,27,q.cells A)::(I++RC))) ?_ (J<|A.rg i) ⟨0,x,y,I,RC,rfl,N,hI,hC,G⟩;clear G hI hC hc;rintro m' a5 a6 OJ H6 ⟨k,x,y,I,RC,rfl,a3,hI,hC,G⟩;refine lX (λhc=>?_) λhc=>?_
 .obtain rfl:k=J (A.rg i):=N;refine tl ?_;refine eG ?_;exact⟨A.ns-(i+1),N,_,_,_,_,_,_,_,_,_,O,i+1,x,y,I,RC,pJ,N,hI.wk (λs e h=>h.all) N,hC.wk (λs e h=>h.all) N,G⟩
 have hk:k<J (A.rg i):=N;refine KV (hE.ex G.ext) hk λp=>?_;have ad:=bH hk;have YC:=ho.len i;have ac:(A.rg i)[k]?=Z (A.rg i)[k]:=av hk;generalize hee:(A.rg i)[k]=e at ac ad|-;refine G.ns O O O λH8 re G BK=>?_;have G:SH [] H H8 ((re,121,[B e.1,B e.2.1,B e.2.2])::(U,207,y)::(V,207,x)::(E,27,q.cells A)::(I++RC)):=G
 have cm:At.YJ tok e->∀oW(K:Out->Prop),(∀Nz NA Wz w BH Q,Ll (At.YJ tok) KY A (Seen A i<|k+1) (A.pre i+(k+1)) A.ns Nz Wz->Ll okC Ny A (Seen A i<|k+1) (A.pre i+(k+1)) A.nr NA w->SH [] H Q ((U,207,NA)::(V,207,Nz)::(E,27,q.cells A)::(Wz++w))->
  K (.norm<|nG (q.v A) (aR tok) (pt E) (u T 0 0) (u (Z ⟨V,0,T⟩) A.ns A.ns) (u (Z ⟨U,0,T⟩) A.nr A.nr) (B i) (u ea (J<|A.rg i) ec) (pt re) top top top top top top top top (u q.ea A.ns q.ec) (B A.ns) (B i) (u ea (J<|A.rg i) ec) (B<|J<|A.rg i) (B k) top top top top top top top top top BH Q))->
  iG Pg X (sub qR [1,1,1,0,1,0,0,1,1,0,0,1,1,0,0,1,1,0,0,1,1]) (nG (q.v A) (aR tok) (pt E) (u T 0 0) (u (Z ⟨V,0,T⟩) A.ns A.ns) (u (Z ⟨U,0,T⟩) A.nr A.nr) (B i) (u ea (J<|A.rg i) ec) (pt re) top top top top top top top top (u q.ea A.ns q.ec) (B A.ns) (B i) (u ea (J<|A.rg i) ec) (B<|J<|A.rg i) (B k) top top top top top top top top top oW H8) K:=by
  intro a1 oW K kk;exact agz N ho ad a1 hI hC G λNz NA Wz w BH Q W Y g3=>kk Nz NA Wz w BH Q (W.wk (λs e h=>h.bU ac)<|ax _) (Y.wk (λs e h=>h.bU ac)<|ax _)<|fU (A:=[_]) g3
 refine yz (λaq=>?_) λaq=>?_
 .refine iI (λhb=>?_) (λhb=>?_)
  .have a0:¬At.YJ tok e:=λh=>by
    have:=h N;subst this;cases hb
   refine eG ?_;exact⟨J (A.rg i)-(k+1),N,_,_,_,_,O,k+1,x,y,I,RC,pJ,N,(hI.skip a0).wk (λs e h=>h.bU ac)<|ax _,(hC.skip λh:e.1=2=>N).wk (λs e h=>h.bU ac)<|ax _,fU (A:=[_]) G⟩
  .refine cm (λ_=>by cases tok<;>simp_all) _ _ λNz NA Wz w BH Q W Y g3=>?_;refine bM ?_;refine tl ?_;refine eG ?_;exact⟨J (A.rg i)-(k+1),N,_,_,_,_,O,k+1,Nz,NA,Wz,w,pJ,N,W,Y,g3⟩
 .refine cm (λh=>absurd N aq) _ _ λNz NA Wz w BH Q W Y g3=>?_;refine bM ?_;refine tl ?_;refine eG ?_;exact⟨J (A.rg i)-(k+1),N,_,_,_,_,O,k+1,Nz,NA,Wz,w,pJ,N,W,Y,g3⟩
end
section
variable{S:C Nat}{ay:Nat->Prop}{n:Nat}{P:Nat->Prop}{nx:C Nat}
def vI.n'(h:vI ay H A q):vI ay (hN H) A q:=⟨h.n,h.s,h.p,h.o,h.e⟩
def Bs.at{k:Nat}{a:aC Addr}{K:D->D->R->Prop}(h:Bs b H n (u a n c) mk)(hk:k<n)(kk:∀p t,(t=F<->on mk k)->K p (aR t) H):PU (B_ 1 (u a n c)<|B k) λp=>ME (wR T p H) (K p):=by
 have⟨a',c',e,hl,hf⟩:=h;cases e;obtain⟨t,m⟩:∃t,mk[k]?=Z t:=⟨_,av N⟩;refine hf.ix hk (jX _ m) λp=>kk p t ?_;unfold on;rw[m];simp
def Ku(hw:Wf H)(h:vI ay H A q)(ho:A.Ok)(I:Bs b H A.ns v mk):bQ Pg X 85 [q.v A,v] H (Qe (λv Q=>∃l,Bs H.bU Q A.nr v l/\∀r,r<A.nr->(on l r<->on mk (A.S r))) H):=by
 have G:=h_ hw;have JF:=ho.few;obtain⟨ma,mc,rfl,_⟩:=id I;refine lq [0,1,2,4,5,6,7,13,14,15] ?_;refine G.box O λH1 E G=>?_;rw[lN]at G;refine bM ?_;refine G.ld 0 (o:=0) O O ?_;refine bM ?_;refine G.mkS (ax _) N λV U G=>?_;rw[mK]at G;refine G.ld 1 (o:=1) O O ?_;refine bM ?_;have G:SH [] H V [(U,4,bools<|aY A.nr aA),(E,27,q.cells A)]:=G.to gD;refine Ik 6 7 15 (h1:=λm x6 x7 mM Q=>∃i l,mM=B i/\i+m=A.nr/\J l=A.nr/\SH [] H Q [(U,4,bools l),(E,27,q.cells A)]/\∀r,r<i->(on l r<->on mk (A.S r))) ?_ A.nr ⟨0,_,rfl,N,gD,G,λr hr=>N⟩;clear G;rintro m x6 x7 mM oW H3 ⟨i,l,rfl,Y,x,G,y⟩;refine lX (λW=>?_) λW=>?_
 .refine tl ?_;obtain rfl:i=A.nr:=N;refine rr ?_;exact⟨⟨l,⟨_,_,O,x,jJ.one G (aL ..) (nZ x)<|G.yV<|aL ..⟩,y⟩,G.ext⟩
 have w:i<A.nr:=N;refine(h.ex G.ext).ldS ho w λp=>(I.ex G.ext).at (ho.s i w).1 λp t M=>G.Ya w (by simpa using(by omega:i<J l)) (kk:=λp H4 G=>?_);refine eG ?_;refine⟨A.nr-(i+1),N,_,_,_,_,_,O,i+1,l.set i t,pJ,N,by rw[bR];exact x,?_,λr hr=>?_⟩
 .have:bools (l.set i t)=(bools l).set i (aR t):=gz;rw[this];exact G
 .unfold on;rw[dU]
  by_cases e:i=r
  .subst e;rw[if_pos O,if_pos N];unfold on at M;rw[<-M];simp
  .rw[if_neg e];exact y r N
def GH(hw:Wf H)(h:vI ay H A q)(ho:A.Ok):bQ Pg X 55 [q.v A] H (Qe (λv Q=>∃l,Bs H.bU Q A.nr v l/\∀r,r<A.nr->(on l r<->A.Mk aA (A.S r))) H):=by
 have G:=h_ hw;refine lq [0,1,2] ?_;refine G.box O λH1 E G=>?_;rw[lN]at G;refine G.uL 0 O (by show 0+6<=6;omega) ?_;refine dD (vJ G.wf (h.ex G.ext) ho) ?_;rintro v m ⟨rfl,M⟩;have G:=G.call M;refine bM ?_;refine iI (λW=>by cases W) λ_=>?_;refine G.MI 0 O (ax 6) ?_
 try simp only[iT G.wf]
 refine G.MI 0 O (ax 6) ?_
 try simp only[iT G.wf]
 refine dD (GG (oU m) (h.ex G.ext).n' ho aA) ?_;rintro v H3 ⟨⟨mk,hm,Y⟩,p⟩;have U:=G.oI p;have N:Bs m.bU (hN<|hM m H3) A.ns v mk:=hm;refine dD (Ku (oU<|hM m H3) (h.ex U.ext).n' ho N) ?_;rintro w V ⟨⟨l,hl,I⟩,x⟩;have xM:=U.oI x;refine ji (by simp only[fu,gJ p,gJ x];rfl) ?_;have y:H.bU<=(hM m H3).bU:=U.ext.bU;have B:Bs (hM m H3).bU (hM (hM m H3) V) A.nr w l:=hl;refine rr ?_;exact⟨⟨l,B.le y,λr hr=>(I r hr).trans<|Y _⟩,xM.ext⟩
def aar(hw:Wf H)(h:vI ay H A q)(ho:A.Ok):bQ Pg X 96 [q.v A] H (Qe (λv Q=>∃l,Bs H.bU Q A.nr v l/\∀r,r<A.nr->(on l r<->A.Mk F (A.S r))) H):=by
 have G:=h_ hw;refine lq [0,1,2] ?_;refine G.box O λH1 E G=>?_;rw[lN]at G;refine G.uL 0 O (by show 0+6<=6;omega) ?_;refine dD (vJ G.wf (h.ex G.ext) ho) ?_;rintro v m ⟨rfl,M⟩;have G:=G.call M;refine bM ?_;refine iI (λW=>by cases W) λ_=>?_;refine G.MI 0 O (ax 6) ?_
 try simp only[iT G.wf]
 refine G.MI 0 O (ax 6) ?_
 try simp only[iT G.wf]
 refine dD (GG (oU m) (h.ex G.ext).n' ho F) ?_;rintro v H3 ⟨⟨mk,hm,Y⟩,p⟩;have U:=G.oI p;have N:Bs m.bU (hN<|hM m H3) A.ns v mk:=hm;refine dD (Ku (oU<|hM m H3) (h.ex U.ext).n' ho N) ?_;rintro w V ⟨⟨l,hl,I⟩,x⟩;have xM:=U.oI x;refine ji (by simp only[fu,gJ p,gJ x];rfl) ?_;have y:H.bU<=(hM m H3).bU:=U.ext.bU;have B:Bs (hM m H3).bU (hM (hM m H3) V) A.nr w l:=hl;refine rr ?_;exact⟨⟨l,B.le y,λr hr=>(I r hr).trans<|Y _⟩,xM.ext⟩
end
section
variable{S:C Nat}{ay:Nat->Prop}{n:Nat}{P:Nat->Prop}{nx:C Nat}
def _root_.Go.Ae.SH.bSx(G:SH S H0 H L){e:aH}(y:J z=es)(x:rJ v=F)(p:J (bY v)=es)(w:es<=16777216)(k:∀H1 r,SH S H0 H1 ((r,e,bY v)::L)->Ext H H1->K (u (Z ⟨r,0,T⟩) 1 1) H1):ME (Go.Ae.bS e z es 1 [(0,v)] H) K:=
 (h_ G.wf).bS y x p w λH1 r m=>k H1 r (SH.frame (hx:=[]) (L:=L) G m) m.ext
def aas(h:H.cell re 0=Z v)(y:re<H.bU)(hl:Bs b H A.nr v l)(ho:A.Ok)(x:∀r,r<A.nr->(on l r<->A.Mk aA (A.S r))):Wnt A A.isF H (.func (.func 189) ⟨[]⟩ ⟨[pt re]⟩):=by
 intro Q s e M V U;have hl:=hl.ex M;have h:Q.cell re 0=Z v:=(nU (M.obj re y gD) 0).trans h;have y:=aO y M.bU;show bQ Pg X 189 [_,pt re] Q _;have G:=h_ V;refine lq [0,1,2,3] ?_;refine G.box O λH1 rb G=>?_;have G:SH [] Q H1 [(rb,121,[B e.1,B e.2.1,B e.2.2])]:=G;refine yz (λE=>?_) λE=>?_
 .refine rr ?_;exact⟨⟨F,O,λ_=>.inl N,λ_=>rfl⟩,G.ext⟩
 refine yz (λw=>?_) λw=>?_
 .have m:=ho.call U N;refine G.CO h y<|G.qF ?_;obtain⟨W,Y,rfl,_⟩:=id hl;refine(hl.ex G.ext).at m λp t I=>?_;refine rr ?_;refine⟨⟨t,O,λh=>.inr ⟨N,(x _ m).1<|I.1 h⟩,λh=>?_⟩,G.ext⟩;rcases h with h|h
  .exact absurd N E
  .exact I.2<|(x _ m).2 h.2
 .refine rr ?_;refine⟨⟨aA,O,λh=>(by cases h),λh=>?_⟩,G.ext⟩;rcases h with h|h
  .exact absurd N E
  .exact absurd (by have:=h.1;omega) w
def aoo(b:Nat)(H:R)(v:D)(p:Nat->Prop):Prop:=∃a c l,v=u a (J l) c/\jJ (b<=·) 3 H a (J l) 1 (gq l)/\l.Pairwise (·<·)/\∀t,t∈l<->p t
def onL(mk:C Bool)(i:Nat):C Nat:=(dZ i).filter λt=>mk[t]?==Z F
def Um(mk:C Bool)(i:Nat):onL mk (i+1)=onL mk i++(if mk[i]?==Z F then[i]else[]):=by
 unfold onL;rw[xq,uN];congr 1;simp[pY]
def agA(mk:C Bool)(i:Nat):J (onL mk i)<=i:=by
 unfold onL;have:=m_ (λt=>mk[t]?==Z F)<|dZ i
 rwa [l7]at this
def free_spec(hw:Wf H)(h:vI ay H A q)(ho:A.Ok)(hs:s<A.ns):bQ Pg X 159 [q.v A,B s] H (Qe (λv Q=>aoo H.bU Q v<|A.fre s) H):=by
 have G:=h_ hw;have ab:=ho.big;refine lq [0,1,2,4,5,6,7,8,9,30,31,32] ?_;refine G.box O λH1 E G=>?_;rw[lN]at G;refine G.uL 0 O (by show 0+6<=6;omega) ?_;refine dD (vJ G.wf (h.ex G.ext) ho) ?_;rintro v H2 ⟨rfl,M⟩;have G:=G.call M;refine bM ?_;refine iI (λy=>by cases y) λ_=>?_;refine aW (λV=>N) λ_=>?_;refine G.uL 0 O (by show 0+6<=6;omega) ?_;refine dD (vU G.wf q A) ?_;rintro v H3 ⟨rfl,M⟩;have G:=G.call M;refine bM ?_;refine aW (λV=>N) λ_=>?_;refine tl ?_;refine G.uL 0 O (by show 0+6<=6;omega) ?_;refine dD (GH G.wf (h.ex G.ext) ho) ?_;rintro v H4 ⟨⟨l,hl,an⟩,M⟩;have G:=G.call M;obtain⟨ea,ec,rfl,_⟩:=id hl;refine G.ns O O O λH5 re G ao=>?_;have G:SH [] H H5 [(re,34,[u ea A.nr ec]),(E,27,q.cells A)]:=G;have al:=hl.ex ao;refine G.uL 1 O (by show 0+6<=6;omega) ?_;refine G.bSx O O O N λH6 rx G ap=>?_;have G:SH [] H H6 [(rx,3,gq [s]),(re,34,[u ea A.nr ec]),(E,27,q.cells A)]:=G;have ad:=G.ext.bU;refine dD (PZ (ay:=λ_=>True) (fl:=[s]) (w:=A.isF) G.wf ((h.ex G.ext).wk λ_ _=>trivial) ho (jJ.one G (aL ..) O trivial) (by simpa using hs) (gD)<|aas ((G.get 1 O).cell O) (G.lo _<|aV (i:=1) O).2 (al.ex ap) ho an) ?_;rintro v H7 ⟨⟨mk,hm,hk⟩,M⟩;have G:=G.call M;have am:J mk=A.ns:=let⟨_,_,_,h,_⟩:=hm;h
 have W:∀t,on mk t<->A.fre s t:=λt=>by
  rw[hk];have:(·∈[s])=(·=s):=by funext x;simp
  rw[this];rfl
 obtain⟨ma,mc,rfl,_⟩:=id hm;refine bM ?_;have U:=G;refine PO 7 8 9 32 (h1:=λm x7 x8 x9 x32 Q=>∃i gb,x32=B i/\i+m=A.ns/\GB 3 1 x7 (gq<|onL mk i) gb/\SH [] H7 Q (gb++[])) ?_ A.ns ⟨0,[],rfl,N,GB.nil _ _,h_ G.wf⟩;clear G;rintro m x7 x8 x9 x32 oW H8 ⟨i,gb,rfl,aq,Y,G⟩;refine lX (λV=>?_) λV=>?_
 .refine tl ?_;obtain rfl:i=A.ns:=N;obtain⟨a,n,c,rfl,hn,hf⟩:=Y.UO G;have hn:J (onL mk A.ns)=n:=nZ hn;subst hn;refine rr ?_;refine⟨⟨a,c,onL mk A.ns,O,hf.le<|aQ ad M.bU,?_,λt=>?_⟩,U.ext.trans G.ext⟩
  .exact List.Pairwise.filter _ List.pairwise_lt_range
  .rw[<-W];unfold onL on;rw[List.mem_filter,jT];constructor
   .intro h;simpa using h.2
   .intro h;exact⟨by have:=(bI.1 h).1;omega,nZ h⟩
 have hi:i<A.ns:=N;have ar:=agA mk i;refine(hm.ex G.ext).at hi λp t ht=>?_;refine sD (λy=>?_) λy=>?_
 .subst y;refine Y.push G N O O O O O N (by simpa using(by omega:J (onL mk i)<=16777216)) λw v' H9 iN ac G=>?_;refine eG ?_;refine⟨A.ns-(i+1),N,_,_,_,_,_,_,O,i+1,iN,pJ,N,?_,G⟩;have I:=ht.1 O;unfold on at I;rw[Um,I];have:gq (onL mk i++if(Z F==Z F)=F then[i]else[])=gq (onL mk i)++bY (B i):=by simp;rfl
  rw[this];exact ac
 .subst y;refine eG ?_;refine⟨A.ns-(i+1),N,_,_,_,_,_,_,O,i+1,gb,pJ,N,?_,G⟩;have I:¬on mk i:=λh=>by cases ht.2 h
  unfold on at I;rw[Um,if_neg<|nZ I,bF];exact Y
end
end Go.Proofs.Lv
namespace Go.Proofs.Lu
open Go.Ae
namespace At
variable{e:Ed}{a b s:Nat}{A2:At}
variable{A A':At}{lw k k2 c c2:Nat}
def fr(A:At):At:={A with ow:=A.ow++[A.nr-1],eg:=A.eg++[[]]}
def pu(A:At)(s:Nat)(e:Ed):At:={A with eg:=A.eg.set s (A.rg s++[e])}
def tot(A:At):Nat:=(A.eg.map J).sum
def EdL(lw ty:Nat)(e:Ed):Prop:=e.1=0\/(e.1=1/\e.2.1<ty)\/(e.1=2/\e.2.1<lw)
structure Bu(lw:Nat)(A:At):Prop where
 Be:J A.eg=A.ns
 o:∀s,s<A.ns->A.aj s<A.nr
 e:∀s,s<A.ns->∀e∈A.rg s,e.2.2<A.ns/\A.aj e.2.2=A.aj s/\EdL lw A.ty e
structure Gw(A A':At)(k c:Nat):Prop where
 nm:A'.nm=A.nm
 st:A'.st=A.st
 sp:A'.sp=A.sp
 ty:A'.ty=A.ty
 ow:A'.ow=A.ow++aY k (A.nr-1)
 tt:A'.tot=A.tot+c
def Gw.refl(A:At):Gw A A 0 0:=⟨O,O,O,O,gD,O⟩
def Gw.nr(h:Gw A A' k c):A'.nr=A.nr:=fq J h.nm
def Gw.ns(h:Gw A A' k c):A'.ns=A.ns+k:=by
 unfold At.ns;rw[h.ow];simp
def Gw.trans(h:Gw A A' k c)(W:Gw A' A2 k2 c2):Gw A A2 (k+k2) (c+c2):=
 ⟨W.nm.trans h.nm,W.st.trans h.st,W.sp.trans h.sp,W.ty.trans h.ty,by rw[W.ow,h.ow,h.nr,cz,List.replicate_append_replicate],by rw[W.tt,h.tt,Nat.add_assoc]⟩
def Gw.cast(h:Gw A A' k c)(hk:k=k2)(m:c=c2):Gw A A' k2 c2:=by subst hk;subst m;exact h
def Gw.aj(h:Gw A A' k c)(hs:s<A.ns):A'.aj s=A.aj s:=by
 unfold At.aj;rw[h.ow,bX hs]
def cur(A:At)(s:Nat):Prop:=s<A.ns/\A.aj s=A.nr-1
def cur.gw(h:A.cur s)(g:Gw A A' k c):A'.cur s:=⟨by rw[g.ns];have:=h.1;omega,by rw[g.aj h.1,g.nr];exact h.2⟩
def Gw.fr(A:At):Gw A A.fr 1 0:=⟨O,O,O,O,O,by unfold At.tot At.fr;simp⟩
def adR(A:At):A.fr.cur A.ns:=by
 refine⟨by rw[(Gw.fr A).ns];omega,?_⟩;show(A.ow++[A.nr-1])[J A.ow]?.getD 0=_;rw[eD (ax _),kN];rfl
def aop(hl:J A.eg=A.ns)(s:Nat):A.fr.rg s=A.rg s:=by
 show(A.eg++[[]])[s]?.getD []=_;unfold rg;rcases dH s (J A.eg)with h|h
 .rw[bX h]
 .rw[eD h,dw (by omega:J A.eg<=s)];cases s-J A.eg<;>rfl
def Bu.fr(h:Bu lw A)(w:1<=A.nr):Bu lw A.fr:=by
 have g:=Gw.fr A;have p:=g.ns;refine⟨?_,λs hs=>?_,λs hs e m=>?_⟩
 .show J (A.eg++[[]])=_;rw[aS,p,h.Be];rfl
 .rcases dH s A.ns with I|I
  .rw[g.aj I,g.nr];exact h.o s I
  .obtain rfl:s=A.ns:=N;rw[(adR A).2,g.nr];omega
 .rw[aop h.Be]at m;rcases dH s A.ns with I|I
  .have⟨a,b,c⟩:=h.e s I e m;exact⟨N,by rw[g.aj a,g.aj I];exact b,c⟩
  .rw[Uj h.Be N]at m;cases m
def agB{l:C (C Ed)}{x:C Ed}(hs:s<J l)(M:x=l[s]++[e]):((l.set s x).map J).sum=(l.map J).sum+1:=by
 induction l generalizing s with
 |nil=>simp at hs
 |cons y l m=>
  cases s with
  |zero=>
   subst M;simp;omega
  |succ s=>
   have:=m (s:=s) (nZ hs)<|nZ M;simp only[kG,i_,qC,this];omega
def Gw.pu(hl:J A.eg=A.ns)(hs:s<A.ns)(e:Ed):Gw A (A.pu s e) 0 1:=
 ⟨rfl,rfl,rfl,rfl,by simp[At.pu],by
  have m:s<J A.eg:=N;refine agB (e:=e) m ?_;unfold rg;rw[av m];rfl⟩
def ajJ(hl:J A.eg=A.ns)(hs:s<A.ns)(t:Nat):(A.pu s e).rg t=if t=s then A.rg s++[e]else A.rg t:=by
 show(A.eg.set s<|A.rg s++[e])[t]?.getD []=_;rw[dU]
 by_cases h:s=t
 .subst h;rw[if_pos O,if_pos N,if_pos O];rfl
 .rw[if_neg h,if_neg λe=>h e.symm];rfl
def Bu.pu(h:Bu lw A)(hs:s<A.ns)(I:e.2.2<A.ns)(W:A.aj e.2.2=A.aj s)(w:EdL lw A.ty e):Bu lw (A.pu s e):=by
 refine⟨?_,h.o,λt x p he=>?_⟩
 .show J (A.eg.set s _)=_;rw[bR];exact h.Be
 .rw[ajJ h.Be hs]at he;split at he
  .next m=>
   subst m;rcases cK.1 he with he|he
   .exact h.e t hs p he
   .rw[aT]at he;subst he;exact⟨I,W,w⟩
  .exact h.e t x p he
def Bu.puC(h:Bu lw A)(hs:A.cur s)(I:A.cur e.2.2)(m:EdL lw A.ty e):Bu lw (A.pu s e):=h.pu hs.1 I.1 (I.2.trans hs.2.symm) m
def ru(A:At)(nm:aZ):At:={A with nm:=A.nm++[nm]}
def se(A:At)(a b:Nat):At:={A with st:=A.st++[a],sp:=A.sp++[b]}
structure Bs'(lw:Nat)(A:At):Prop where
 bu:Bu lw A
 YF:J A.st=A.nr
 YH:J A.sp=A.nr
 s:∀r,r<A.nr->A.S r<A.ns/\A.aj (A.S r)=r
 p:∀r,r<A.nr->A.P r<A.ns/\A.aj (A.P r)=r
def Bu.ru(h:Bu lw A)(nm:aZ):Bu lw (A.ru nm):=
 ⟨h.Be,λs hs=>by
   have:=h.o s hs;show A.aj s<J (A.nm++[nm]);rw[aS];exact Nat.lt_succ_of_lt this,h.e⟩
def Bs'.bU(h:Bs' lw A){nm:aZ}{A1:At}(g:Gw (A.ru nm) A1 k c)(M:A1.cur a)(O:A1.cur b)(m:Gw (A1.se a b) A2 k2 c2)(W:Bu lw A2):Bs' lw A2:=by
 have y:A2.nr=A.nr+1:=by rw[m.nr];show A1.nr=_;rw[g.nr];show J (A.nm++[nm])=_;rw[aS];rfl
 have B:A2.st=A.st++[a]:=by rw[m.st];show A1.st++[a]=_;rw[g.st];rfl
 have E:A2.sp=A.sp++[b]:=by rw[m.sp];show A1.sp++[b]=_;rw[g.sp];rfl
 have Y:A1.ns=A.ns+k:=g.ns;have n2:A2.ns=A1.ns+k2:=m.ns;have x:A1.nr=A.nr+1:=by rw[g.nr];show J (A.nm++[nm])=_;rw[aS];rfl
 have V:∀t,t<A.ns->A2.aj t=A.aj t:=λt w=>by
  rw[m.aj (show t<A1.ns by omega)];exact g.aj w
 have U:∀t,A1.cur t->A2.aj t=A.nr:=λt w=>by
  rw[m.aj w.1];show A1.aj t=_;rw[w.2,x];omega
 refine⟨W,by rw[B,aS,h.YF,y];rfl,by rw[E,aS,h.YH,y];rfl,λr X=>?_,λr X=>?_⟩
 .unfold S;rw[B];rcases dH r A.nr with I|I
  .rw[bX (by rw[h.YF];exact I)];have:=h.s r I;exact⟨aO this.1 N,(V _ this.1).trans this.2⟩
  .obtain rfl:r=A.nr:=N;rw[eD (by rw[h.YF];exact ax _),h.YF,kN];exact⟨by show a<_;have:=M.1;omega,U a M⟩
 .unfold P;rw[E];rcases dH r A.nr with I|I
  .rw[bX (by rw[h.YH];exact I)];have:=h.p r I;exact⟨aO this.1 N,(V _ this.1).trans this.2⟩
  .obtain rfl:r=A.nr:=N;rw[eD (by rw[h.YH];exact ax _),h.YH,kN];exact⟨by show b<_;have:=O.1;omega,U b O⟩
theorem Bs'.ok(h:Bs' lw A)(hl:A.nr=lw)(y:1<=A.nr)(x:A.nr<=1000)(m:A.ns<=4000)(ht:A.tot<=100000):A.Ok where
 pos:=y
 YF:=h.YF
 YH:=h.YH
 Be:=h.bu.Be
 big:=m
 few:=x
 s:=h.s
 p:=h.p
 o:=h.bu.o
 e:=λs hs e w=>by
  have⟨a,b,c⟩:=h.bu.e s hs e w;refine⟨a,b,?_⟩;unfold EdL at c;unfold agv;rw[hl];exact c
 tot:=ht
end At
variable{F' K:Nat->Prop}{oW:C (Nat×D)}{L L' hx M' M1 gb:C eB}{A A' A1:At}{H':D->R->Prop}{zs:Nat->C Nat}{H Q H0 H1 H3:R}{kd:Nat->Int}{b c c1 es g i j k kc nc nn o r ra rb rc tn vc xc xn z:Nat}{f jA rcs:C D}{ty:aH}{a ka na va xa:aC Addr}{e:Ed}{nm t:aZ}{v mP ko mM rP Cc xC x20 yu FP zV x24 x25 x32 KI Cb x38 R6 x65 x66:D}{l ws:C Nat}
section
open Go.Ae Go.Ae.hx Go.Proofs.Lv
variable{S:C Nat}{ay:Nat->Prop}
def Bd(ra:Nat)(A:At)(hx:C eB):Prop:=∃y M I E ev m p x w go ge az,hx=(ra,27,[y,M,I,E,ev,B A.ty])::(p++(x++(w++(go++(ge++az)))))/\GB 9 1 y (A.nm.map aJ) p/\GB 3 1 M (gq A.st) x/\GB 3 1 I (gq A.sp) w/\GB 3 1 E (gq A.ow) go/\GB 119 1 ev m ge/\IX 121 3 (A.eg.map Bt) m az
def _root_.Go.Ae.GB.Va(h:GB ty 1 v f gb):∃a c,v=u a (J f) c:=by
 rcases h with⟨rfl,rfl,_⟩|⟨r,n,m,rfl,p,_⟩
 .exact⟨T,0,O⟩
 .obtain rfl:n=J f:=N;exact⟨_,_,O⟩
theorem WA(hB:Bd ra A hx)(G:SH S H0 H<|hx++L)(hp:1<=A.nr)(hn:A.nr<=1000)(hs:A.ns<=100000)(hl:J A.eg=A.ns):bQ Pg X 152 [pr ra] H λv Q=>v=B A.ns/\∃M',Bd ra A.fr M'/\SH S H0 Q (M'++L):=by
 obtain⟨nv,M,I,ov,ev,U,x,E,y,go,ge,az,rfl,ab,al,Un,ad,ac,hR⟩:=hB;have G:=G.cast (L':=(ra,27,[nv,M,I,ov,ev,B A.ty])::(x++(E++(y++(go++(ge++(az++L))))))) gD;have am:J U=A.ns:=by rw[<-hR.len,aK,hl]
 refine GY [0,1] ?_;refine G.ld 0 (o:=3) O O ?_;refine G.ld 0 (o:=0) O O ?_;obtain⟨na,nc,rfl⟩:=ab.Va;refine bM ?_;rw[aK];refine dA (qO (by have:A.nr=J A.nm:=rfl;omega) (by have:A.nr=J A.nm:=rfl;omega)) ?_;rw[show((J A.nm:Int)-1)=((A.nr-1:Nat):Int) by have:A.nr=J A.nm:=rfl;omega]
 have G:=G.perm (L':=go++((ra,27,[u na (J<|A.nm.map aJ) nc,M,I,ov,ev,B A.ty])::(x++(E++(y++(ge++(az++L))))))) (by
  have:=jw ((ra,27,[u na (J<|A.nm.map aJ) nc,M,I,ov,ev,B A.ty])::(x++(E++y))) go<|ge++(az++L);simpa using this)
 refine ad.push G N O O O O O N (by simpa using(by unfold At.ns at hs;omega:J A.ow<=16777216)) λw v1 H1 m W G=>?_;have G:=G.perm (L':=(ra,27,[u na (J<|A.nm.map aJ) nc,M,I,ov,ev,B A.ty])::(m++(x++(E++(y++(ge++(az++L))))))) jO;obtain⟨Y,oc,rfl⟩:=W.Va;refine G.st 0 O O (by show 3+1<=6;omega) rfl λH2 G=>?_;have G:=G.to (cs':=[u na (J<|A.nm.map aJ) nc,M,I,u Y (J<|gq A.ow++bY (B<|A.nr-1)) oc,ev,B A.ty]) O;refine G.ld 0 (o:=4) O O ?_
 have G:=G.perm (L':=ge++((ra,27,[u na (J<|A.nm.map aJ) nc,M,I,u Y (J<|gq A.ow++bY (B<|A.nr-1)) oc,ev,B A.ty])::(m++(x++(E++(y++(az++L))))))) (by
  have:=jw ((ra,27,[u na (J<|A.nm.map aJ) nc,M,I,u Y (J<|gq A.ow++bY (B<|A.nr-1)) oc,ev,B A.ty])::(m++(x++(E++y)))) ge<|az++L;simpa using this)
 refine ac.push G N O O O O O N N λw v2 H3 p V G=>?_;have G:=G.perm (L':=(ra,27,[u na (J<|A.nm.map aJ) nc,M,I,u Y (J<|gq A.ow++bY (B<|A.nr-1)) oc,ev,B A.ty])::(p++(m++(x++(E++(y++(az++L))))))) jO;obtain⟨ea,ec,rfl⟩:=V.Va;refine G.st 0 O O (by show 4+1<=6;omega) rfl λH4 G=>?_;have G:=G.to (cs':=[u na (J<|A.nm.map aJ) nc,M,I,u Y (J<|gq A.ow++bY (B<|A.nr-1)) oc,u ea (J<|U++bY (u T 0 0)) ec,B A.ty]) O;refine G.ld 0 (o:=3) O O ?_;refine bM ?_;have ol:J (gq A.ow++bY (B<|A.nr-1))=A.ns+1:=by rw[aS,aK];rfl
 rw[ol]at G|-;refine q_ ?_;rw[show(((A.ns+1:Nat):Int)-1)=(A.ns:Int) by omega];refine rr ?_;refine⟨O,(ra,27,[u na (J<|A.nm.map aJ) nc,M,I,u Y (A.ns+1) oc,u ea (J<|U++bY (u T 0 0)) ec,B A.ty])::(x++(E++(y++(m++(p++az))))),⟨_,_,_,_,_,U++[u T 0 0],x,E,y,m,p,az,O,ab,al,Un,?_,V,?_⟩,?_⟩
 .have:gq (A.fr).ow=gq A.ow++bY (B<|A.nr-1):=by show gq (A.ow++[A.nr-1])=_;simp;rfl
  rw[this,<-ol];exact W
 .have:(A.fr).eg.map Bt=A.eg.map Bt++[[]]:=by show(A.eg++[[]]).map Bt=_;simp;rfl
  rw[this];have:=hR.snoc<|GB.nil 121 3
  rwa [bF]at this
 .apply G.perm;have p1:=jw p m<|(x++(E++y))++(az++L);have p2:=jw (m++p) (x++(E++y))<|az++L;simp only[cz]at p1 p2;have p3:=p1.trans p2;simp only[bV,cz];rw[ol]at*;exact p3.cons _
end
section
open Go.Ae Go.Ae.hx Go.Proofs.Lv
variable{S:C Nat}{ay:Nat->Prop}
def adS:∀{l:C Nat}{x:Nat},x∈l->x<=l.sum
 |y::l,x,h=>by
  rw[qC];rcases bW.1 h with rfl|h
  .omega
  .have:=adS h;omega
theorem aat{fr:Nat}(hB:Bd ra A hx)(G:SH S H0 H<|hx++L)(hf:fr<A.ns)(hl:J A.eg=A.ns)(ht:A.tot<=1000000):bQ Pg X 153 [B fr,dP ⟨[B e.1,B e.2.1,B e.2.2]⟩,pr ra] H λv Q=>∃M',Bd ra (A.pu fr e) M'/\SH S H0 Q (M'++L):=by
 obtain⟨nv,sv,pv,ov,ev,m,y,M,E,go,ge,az,rfl,am,ao,Un,an,al,hR⟩:=hB;have ac:J m=A.ns:=by rw[<-hR.len,aK,hl]
 rcases al with⟨_,h0,_⟩|⟨p,n,w,rfl,hn,rfl⟩
 .rw[h0]at ac;simp at ac;omega
 obtain rfl:n=A.ns:=N;obtain⟨A',gb,vn,rfl,ad,ab⟩:=hR.at fr N
 have hE:(A.eg.map Bt)[fr]?.getD []=Bt (A.rg fr):=by
  unfold At.rg;rw[bK,av (show fr<J A.eg by omega)];rfl
 rw[hE]at ad
 have aq:J (A.rg fr)<=1000000:=by
  have:J (A.rg fr)<=A.tot:=by
   unfold At.rg At.tot;rw[av (show fr<J A.eg by omega)];exact adS<|bP.2 ⟨_,bH _,O⟩
  omega
 have ap:(m++w)[fr]?=Z m[fr]:=by rw[bX N];exact av N
 have G:=G.perm (L':=(ra,27,[nv,sv,pv,ov,u (Z ⟨p,0,T⟩) A.ns<|gQ 1,B A.ty])::(p,119,m++w)::(gb++((y++(M++(E++go)))++(A'++(vn++L))))) (by
  have p1:=jw (y++(M++(E++go))) [(p,119,m++w)]<|A'++(gb++(vn++L));have p2:=jw ((y++(M++(E++go)))++A') gb<|vn++L;simp only[cz,bV,bZ]at p1 p2|-;exact(p1.trans<|p2.cons _).cons _)
 refine lq [0,1,2,4] ?_;refine G.box O λH1 re G=>?_;have G:SH S H0 H1 ((re,121,[B e.1,B e.2.1,B e.2.2])::(ra,27,[nv,sv,pv,ov,u (Z ⟨p,0,T⟩) A.ns<|gQ 1,B A.ty])::(p,119,m++w)::(gb++((y++(M++(E++go)))++(A'++(vn++L))))):=G;refine fJ ?_;refine G.R8 hf ap ?_;refine fJ ?_;refine G.Tq O O O N λH2 rx G uX=>?_;have V:=G;have G:=(G.to (cs':=[B e.1,B e.2.1,B e.2.2]) O).perm (L':=(rx,121,[B e.1,B e.2.1,B e.2.2])::(gb++([(re,121,[B e.1,B e.2.1,B e.2.2]),(ra,27,[nv,sv,pv,ov,u (Z ⟨p,0,T⟩) A.ns<|gQ 1,B A.ty]),(p,119,m++w)]++((y++(M++(E++go)))++(A'++(vn++L))))))<|(jw [_,_,_] gb _).cons _;refine ad.Jp G N O O (by rw[Lj];omega) λv' H3 iN U G _ _ xF=>?_;have G:=G.perm<|jw iN [_,_,_] _;simp only[bV,bZ]at G;have W:=G;obtain⟨va,vl,vc,rfl⟩:=U.sl;refine G.OM hf (by rw[aS];omega) (kk:=λH4 G=>?_);have n1:re≠ra:=G.nq 0 1 O O N;have n2:re≠p:=G.nq 0 2 O O N;have n3:ra≠p:=G.nq 1 2 O O N;refine splitK (λK hK=>?_) ?_
 .have r1:∀{o n:Nat}{a b:R},o+n<=3->oQ ⟨2,0,0,0,hM H1 H2,H3⟩ ⟨4,re,o,n,a,b⟩=F:=λh=>sF (V.get 1 O) ((W.get 0 O).iE O) h (ID ⟨_,_,_,rfl⟩)
  have r2:∀{a b:R},oQ ⟨2,0,0,0,hM H1 H2,H3⟩ ⟨4,ra,4,1,a,b⟩=F:=λ{a b}=>sF (V.get 2 O) ((W.get 1 O).iE O) (by show 4+1<=6;omega) (by
   intro v Y;have Y:v∈[u (Z ⟨p,0,T⟩) A.ns (gQ 1)]:=Y;rw[aT]at Y;subst Y;exact qQ _ _ _ λx h=>by cases h;rfl)
  have r3:∀{a b:R},oQ ⟨2,0,0,0,hM H1 H2,H3⟩ ⟨4,p,fr,1,a,b⟩=F:=λ{a b}=>sF (V.get 3 O) ((W.get 2 O).iE O) (by rw[aS];omega) (by
   intro v Y
   have:v=m[fr]:=by
    have I:((m++w).drop fr).take 1=[m[fr]]:=by
     rw[eO (by rw[aS];omega),jU,kT,jB N]
    rw[I,aT]at Y;exact Y
   subst this;exact Ba hR _<|bH _)
  simp only[uX,fu,gT];rcases xF with e|e<;>rw[e]<;>apply QY (A:=hM H1 H2) (vn:=H3) (a:=re) (b:=ra) (c:=p) n1 n2 n3 (by rfl) fT fT hK<;>repeat' apply iZ
  all_goals first|exact trivial|(intro h;cases h;done)|exactλ_=>⟨rfl,rfl⟩|exactλ_=>r1 N|exactλ_=>r2|exactλ_=>r3
 refine rn ?_;refine⟨(ra,27,[nv,sv,pv,ov,u (Z ⟨p,0,T⟩) A.ns<|gQ 1,B A.ty])::(y++(M++(E++(go++([(p,119,m.set fr (u va vl vc)++w)]++(A'++(iN++vn))))))),⟨nv,sv,pv,ov,_,m.set fr<|u va vl vc,y,M,E,go,_,A'++(iN++vn),O,am,ao,Un,an,.inr ⟨p,A.ns,w,O,by rw[bR];omega,rfl⟩,?_⟩,?_⟩
 .have:=ab (u va vl vc) (Bt<|A.rg fr++[e]) iN (by rw[Rl];exact U);have e2:(A.pu fr e).eg.map Bt=(A.eg.map Bt).set fr (Bt<|A.rg fr++[e]):=gz;rw[e2];exact this
 .have G:=fU (A:=[_]) G;rw[nR _ _ N]at G;refine G.perm<|uS ?_;have p1:=jw (y++(M++(E++go))) [(p,119,m.set fr (u va vl vc)++w)]<|A'++(iN++(vn++L));have p2:=jw ((y++(M++(E++go)))++A') iN<|vn++L;simp only[cz,bV,bZ]at p1 p2|-;exact(p1.trans<|p2.cons _).cons _
def aau(m:Bd ra A hx)(G:SH S H0 H<|hx++L)(w:1<=A.nr)(p:A.nr<=1000)(hs:A.ns<=100000)(hl:J A.eg=A.ns):bQ Pg X 152 [pr ra] H λv Q=>v=B A.ns/\∃M',Bd ra A.fr M'/\SH (hx.map (·.1)) H Q M':=by
 refine dD (WA (L:=[]) m ((SH.own G).cast (bF hx).symm) w p hs hl) ?_;rintro v Q ⟨rfl,M',I,W⟩;rw[bF]at W;exact⟨O,M',I,W⟩
def Ru{fr:Nat}(m:Bd ra A hx)(G:SH S H0 H<|hx++L)(p:fr<A.ns)(hl:J A.eg=A.ns)(ht:A.tot<=1000000):bQ Pg X 153 [B fr,dP ⟨[B e.1,B e.2.1,B e.2.2]⟩,pr ra] H λv Q=>∃M',Bd ra (A.pu fr e) M'/\SH (hx.map (·.1)) H Q M':=by
 refine dD (aat (L:=[]) m ((SH.own G).cast (bF hx).symm) p hl ht) ?_;rintro v Q ⟨M',I,W⟩;rw[bF]at W;exact⟨M',I,W⟩
end
section
open Go.Ae Go.Ae.hx Go.Proofs.Lv
variable{S:C Nat}
structure WD where
 g:Nat
 s:Nat
 w:Nat
 cs:Nat
 fe:Nat
 lo:Nat
 p:Nat
 l:Nat
 ra:Nat
 na:aC Addr
 nc:Nat
 nn:Nat
 rs:Nat
 rl:Nat
 jA:C D
 lcs:C D
 ws:C Nat
 kd:Nat->Int
 zs:Nat->C Nat
 tn:Nat
 lw:Nat
abbrev WD.ps(d:WD):C D:=[pr d.g,pr d.s,pr d.w,pr d.cs,pr d.fe,pr d.lo,pr d.p,pr d.l]
abbrev WD.wv(d:WD):D:=.func (.func 186) ⟨[]⟩ ⟨d.ps⟩
abbrev WD.fev(d:WD):D:=.func (.func 184) ⟨[]⟩ ⟨[pr d.p]⟩
abbrev WD.lov(d:WD):D:=.func (.func 185) ⟨[]⟩ ⟨[pr d.cs,pr d.fe,pr d.w]⟩
abbrev WD.fv(d:WD):D:=.func (.func 152) ⟨[]⟩ ⟨[pr d.ra]⟩
abbrev WD.pv(d:WD):D:=.func (.func 153) ⟨[]⟩ ⟨[pr d.ra]⟩
structure WE(K:Nat->Prop)(d:WD)(H:R):Prop where
 hK:∀r,K r->r<H.bU
 g:K d.g/\H.cell d.g 1=Z (u d.na d.nn d.nc)
 s:K d.s/\H.cell d.s 0=Z (u (Z ⟨d.rs,0,T⟩) d.nn d.nn)
 w:K d.w/\H.cell d.w 0=Z d.wv
 cs:K d.cs/\H.cell d.cs 0=Z d.fv
 fe:K d.fe/\H.cell d.fe 0=Z d.fev
 lo:K d.lo/\H.cell d.lo 0=Z d.lov
 p:K d.p/\H.cell d.p 0=Z d.pv
 l:K d.l/\H.cell d.l 0=Z (u (Z ⟨d.rl,0,T⟩) d.nn d.nn)
 nd:jJ K 238 H d.na d.nn 5 d.jA
 kid:YD K H d.nn d.jA d.kd d.zs
 st:jJ K 3 H (Z ⟨d.rs,0,T⟩) d.nn 1 (gq d.ws)
 lf:jJ K 121 H (Z ⟨d.rl,0,T⟩) d.nn 3 d.lcs
variable{d:WD}
def WE.stay(h:WE K d H)(M:pI S H Q)(G:∀r∈S,¬K r):WE K d Q:=by
 have c:∀{r o v},K r/\H.cell r o=Z v->K r/\Q.cell r o=Z v:=λ{r o v}⟨I,W⟩=>⟨I,(nU (M.obj r (h.hK r I) λx=>G r x I) o).trans W⟩;exact⟨λr x=>aO (h.hK r x) M.bU,c h.g,c h.s,c h.w,c h.cs,c h.fe,c h.lo,c h.p,c h.l,h.nd.stay M λq m=>.inl<|G q m,λi y=>let⟨a,c,t,xa,xn,xc,at',I,W,h3⟩:=h.kid i y;⟨a,c,t,xa,xn,xc,at',I,W.stay M λq m=>.inl<|G q m,h3⟩,h.st.stay M λq m=>.inl<|G q m,h.lf.stay M λq m=>.inl<|G q m⟩
def WE.n(h:WE K d H):WE K d (hN H):=⟨h.hK,h.g,h.s,h.w,h.cs,h.fe,h.lo,h.p,h.l,h.nd,h.kid,h.st,h.lf⟩
structure RY(K:Nat->Prop)(d:WD)(S:C Nat)(H0 H:R)(hx L:C eB)(A:At):Prop where
 we:WE K d H
 nk:∀r∈hx.map (·.1),¬K r
 bd:Bd d.ra A hx
 sh:SH S H0 H (hx++L)
 bu:At.Bu d.lw A
 ty:A.ty=d.tn
 pos:1<=A.nr
 few:A.nr<=1000
def RY.step(h:RY K d S H0 H hx L A)(p:Bd d.ra A' M')(G:SH (hx.map (·.1)) H Q M')(g:At.Gw A A' k c)(y:At.Bu d.lw A'):RY K d S H0 Q M' L A':=
 ⟨h.we.stay G.ext h.nk,λr x m=>by
   obtain⟨e,w,rfl⟩:=bP.1 x;rcases(G.lo e w).1 with I|I
   .exact h.nk _ I m
   .have:=h.we.hK _ m;omega,p,SH.frame h.sh G,y,g.ty.trans h.ty,by rw[g.nr];exact h.pos,by rw[g.nr];exact h.few⟩
def RY.adT(h:RY K d S H0 H hx L A)(p:Bd d.ra A' M')(G:SH (hx.map (·.1)) (hN H) Q M')(g:At.Gw A A' k c)(y:At.Bu d.lw A'):RY K d S H0 (hM H Q) M' L A':=
 ⟨h.we.stay G.ext.draw h.nk,λr x m=>by
   obtain⟨e,w,rfl⟩:=bP.1 x;rcases(G.lo e w).1 with I|I
   .exact h.nk _ I m
   .have W:=h.we.hK _ m;have I:H.bU<=e.1:=I;omega,p,SH.acw h.sh G,y,g.ty.trans h.ty,by rw[g.nr];exact h.pos,by rw[g.nr];exact h.few⟩
section steps
variable{Kp:D->R->Prop}{a:Nat}
def RY.fresh(h:RY K d S H0 H hx L A)(hs:A.ns<=100000)(kk:∀Q M' A',RY K d S H0 Q M' L A'->At.Gw A A' 1 0->A'.cur A.ns->Kp (B A.ns) Q):qh Pg X (Ou d.fv) [] H Kp:=by
 show bQ Pg X 152 [pr d.ra] H Kp;refine dD (aau h.bd h.sh h.pos h.few hs h.bu.Be) ?_;rintro v Q ⟨rfl,M',I,W⟩;exact kk Q M' _ (h.step I W (At.Gw.fr A)<|h.bu.fr h.pos) (At.Gw.fr A)<|At.adR A
theorem NB(w:WE K d H)(m:Bd d.ra A hx)(G:SH S H0 H<|hx++L)(x:a<A.ns)(hl:J A.eg=A.ns)(ht:A.tot<=1000000):bQ Pg X 184 [B a,B b,pr d.p] H λv Q=>∃M',Bd d.ra (A.pu a (0,0,b)) M'/\SH (hx.map (·.1)) H Q M':=by
 refine lq [0,1,2] ?_;refine iY w.p.2 ?_;refine PU.b3 O ?_;show bQ Pg X 153 [B a,_,pr d.ra] H _;refine dD (Ru (e:=(0,0,b)) m G x hl ht) ?_;rintro v Q h;exact rn<|h
def ajK(lw ty b:Nat):At.EdL lw ty (0,0,b):=.inl O
def RY.free(h:RY K d S H0 H hx L A)(m:A.cur a)(w:A.cur b)(ht:A.tot<=1000000)(kk:∀v Q M' A',RY K d S H0 Q M' L A'->At.Gw A A' 0 1->Kp v Q):qh Pg X (Ou d.fev) [B a,B b] H Kp:=by
 show bQ Pg X 184 [B a,B b,pr d.p] H Kp;refine dD (NB h.we h.bd h.sh m.1 h.bu.Be ht) ?_;rintro v Q ⟨M',I,W⟩;exact kk v Q M' _ (h.step I W (At.Gw.pu h.bu.Be m.1 _)<|h.bu.puC (e:=(0,0,b)) m w<|ajK ..)<|At.Gw.pu h.bu.Be m.1 _
def RY.aio(h:RY K d S H0 H hx L A)(m:A.cur a)(w:A.cur b)(ht:A.tot<=1000000)(kk:∀v H1 M' A',RY K d S H0 (hM H H1) M' L A'->At.Gw A A' 0 1->pI (hx.map (·.1)) (hN H) H1->Kp v H1):qh Pg X (Ou d.fev) [B a,B b] (hN H) Kp:=by
 show bQ Pg X 184 [B a,B b,pr d.p] (hN H) Kp;refine dD (NB h.we.n h.bd h.sh.zD m.1 h.bu.Be ht) ?_;rintro v Q ⟨M',I,W⟩;exact kk v Q M' _ (h.adT I W (At.Gw.pu h.bu.Be m.1 _)<|h.bu.puC (e:=(0,0,b)) m w<|ajK ..) (At.Gw.pu h.bu.Be m.1 _) W.ext
def RY.aoq(h:RY K d S H0 H hx L A)(m:A.cur a)(p:A.cur e.2.2)(w:At.EdL d.lw A.ty e)(ht:A.tot<=1000000)(kk:∀v H1 M' A',RY K d S H0 (hM H H1) M' L A'->At.Gw A A' 0 1->pI (hx.map (·.1)) (hN H) H1->Kp v H1):qh Pg X (Ou d.pv) [B a,dP ⟨[B e.1,B e.2.1,B e.2.2]⟩] (hN H) Kp:=by
 show bQ Pg X 153 [B a,_,pr d.ra] (hN H) Kp;refine dD (Ru (e:=e) h.bd h.sh.zD m.1 h.bu.Be ht) ?_;rintro v Q ⟨M',I,W⟩;exact kk v Q M' _ (h.adT I W (At.Gw.pu h.bu.Be m.1 _)<|h.bu.puC m p w) (At.Gw.pu h.bu.Be m.1 _) W.ext
def ajL(d:WD)(i:Nat)(A:At)(hx:C eB)(H:R)(v:D)(Q:R):Prop:=∃A' M' m c,v=B m/\Bd d.ra A' M'/\SH (hx.map (·.1)) H Q M'/\At.Gw A A' (h2 d.ws i) c/\c<=2*h2 d.ws i/\At.Bu d.lw A'/\A'.cur m
def Kv(K:Nat->Prop)(d:WD)(i:Nat):Prop:=∀{S:C Nat}{H0 H:R}{hx L:C eB}{A:At}{fr:Nat},RY K d S H0 H hx L A->A.ns+h2 d.ws i<=4000->A.tot+2*h2 d.ws i<=20000->A.cur fr->bQ Pg X 186 (B i::B fr::d.ps) H (ajL d i A hx H)
def RY.way{fr:Nat}(E:Kv K d i)(h:RY K d S H0 H hx L A)(I:A.ns+h2 d.ws i<=4000)(W:A.tot+2*h2 d.ws i<=20000)(y:A.cur fr)(kk:∀to Q M' A' c,RY K d S H0 Q M' L A'->At.Gw A A' (h2 d.ws i) c->c<=2*h2 d.ws i->A'.cur to->Kp (B to) Q):qh Pg X (Ou d.wv) [B i,B fr] H Kp:=by
 show bQ Pg X 186 (B i::B fr::d.ps) H Kp;refine dD (E h I W y) ?_;rintro v Q ⟨A',M',to,c,rfl,m,p,g3,w,g5,x⟩;exact kk to Q M' A' c (h.step m p g3 g5) g3 w x
def RY.n(h:RY K d S H0 H hx L A):RY K d S (hN H0) (hN H) hx L A:=⟨h.we.n,h.nk,h.bd,h.sh.zD,h.bu,h.ty,h.pos,h.few⟩
def RY.ajM{fr:Nat}(E:Kv K d i)(h:RY K d S H0 H hx L A)(I:A.ns+h2 d.ws i<=4000)(W:A.tot+2*h2 d.ws i<=20000)(y:A.cur fr)(kk:∀to H1 M' A' c,RY K d S H0 (hM H H1) M' L A'->At.Gw A A' (h2 d.ws i) c->c<=2*h2 d.ws i->A'.cur to->pI (hx.map (·.1)) (hN H) H1->Kp (B to) H1):qh Pg X (Ou d.wv) [B i,B fr] (hN H) Kp:=by
 show bQ Pg X 186 (B i::B fr::d.ps) (hN H) Kp;refine dD (E h.n I W y) ?_;rintro v Q ⟨A',M',to,c,rfl,p,m,g3,w,g5,x⟩;exact kk to Q M' A' c (h.adT p m g3 g5) g3 w x m.ext
end steps
end
variable{d:WD}
section
open Go.Ae Go.Ae.hx Go.Proofs.Lv
variable{S:C Nat}
def RY.ext{H1:R}{L':C eB}(h:RY K d S H0 H hx L A)(M:Ext H H1)(G:SH S H0 H1<|hx++L'):RY K d S H0 H1 hx L' A:=⟨h.we.stay M<|nofun,h.nk,h.bd,G,h.bu,h.ty,h.pos,h.few⟩
def RY.own(h:RY K d S H0 H hx L A):RY K d (hx.map (·.1)) H H hx [] A:=⟨h.we,h.nk,h.bd,(SH.own h.sh).cast (bF hx).symm,h.bu,h.ty,h.pos,h.few⟩
def RY.fin(h:RY K d S H0 H hx L A):SH S H0 H hx:=h.sh.sub<|fC hx L
theorem RY.amu(h:RY K d S H0 H hx [] A)(m:SH [] H H1 [(r,ty,f)]):RY K d S H0 H1 hx [(r,ty,f)] A:=
 h.ext m.ext ((SH.frame (hx:=[]) (L:=hx) h.fin m).perm<|aI (l₁:=[_]))
def RY.not(h:RY K d S H0 H hx L A)(m:K r\/∃e∈L,e.1=r):r<H.bU/\r∉hx.map (·.1):=by
 rcases m with m|⟨e,w,rfl⟩
 .exact⟨h.we.hK r m,λp=>h.nk r p m⟩
 .refine⟨(h.sh.lo e<|dL _ w).2,λp=>?_⟩;have⟨x,M,e2⟩:=bP.1 p;exact h.sh.apart M w e2
def RY.rd{w:Cl}(h:RY K d S H0 H hx L A)(M:pI (hx.map (·.1)) (hN H) H3)(m:K r\/∃e∈L,e.1=r)(x:H.cell r o=Z v)(hs:qA v v=F)(y:w.a=H/\w.b=H3):oQ w ⟨4,r,o,1,hh0,hh0⟩=F:=
 agc y M (h.not m).1 (h.not m).2 (acE x) (λv p=>by rw[aT]at p;subst p;exact hs)
theorem RY.keep(h:RY K d S H0 H hx L A)(M:pI (hx.map (·.1)) (hN H) H3)(m:K r\/∃e∈L,e.1=r)(p:H.cell r o=Z v):(hM H H3).cell r o=Z v:=
 (nU (Q:=hM H H3) (M.obj r (h.not m).1 (h.not m).2) o).trans p
def Rv:qA (.func (.func g) ⟨[]⟩ ⟨l.map pr⟩) (.func (.func g) ⟨[]⟩ ⟨l.map pr⟩)=F:=acF g λv m=>by
 obtain⟨r,_,rfl⟩:=bP.1 m;exact⟨r,O⟩
theorem Rw(d:WD):qA d.wv d.wv=F:=Rv (l:=[d.g,d.s,d.w,d.cs,d.fe,d.lo,d.p,d.l])
theorem Uo(d:WD):qA d.fev d.fev=F:=Rv (l:=[d.p])
theorem agC(d:WD):qA d.pv d.pv=F:=Rv (l:=[d.ra])
def aor{ay:Nat->Prop}{n:Nat}{zs:C Nat}(h:jJ ay 3 H a n 1<|gq zs)(x:zs[k]?=Z z)(hk:k<n):∃r o,a=Z ⟨r,o,T⟩/\ay r/\H.cell r (o+k)=Z (B z)/\B_ 1 (u a n c) (B k)=Z (bG<|Z ⟨r,o+k,T⟩):=by
 obtain⟨r,o,I,W,w,p,rfl,rfl⟩:=h.1.idx (c:=c) (dI 0) hk;have m:=w 0 (B z) (dI 0) (by rw[dN,d_];exact jX _ x);rw[dN,d_]at m;rw[dN]at I;exact⟨r,p,O,(h.2 r p O N).1,m,I⟩
def P4{n:Nat}{kd at':Int}(p:WE K d H)(hi:i<d.nn)(w:El d.jA 5 i=[vi kd,u ka n kc,aJ t,u xa xn xc,vi at'])(m:(d.zs i)[j]?=Z z):∃r o,ka=Z ⟨r,o,T⟩/\K r/\H.cell r (o+j)=Z (B z)/\B_ 1 (u ka n kc) (B j)=Z (bG<|Z ⟨r,o+j,T⟩)/\n=J (d.zs i):=by
 have⟨a,c,t',xa',xn',xc',at2,he2,hf,_⟩:=p.kid i hi;rw[w]at he2;cases he2;have⟨r,o,I,W,h3,h4⟩:=aor (c:=kc) hf m (bI.1 m).1;exact⟨r,o,I,W,h3,h4,O⟩
theorem JH{fr:Nat}{kd at':Int}(ad:Kv K d z)(h:RY K d S H0 H hx L A)(hi:i<d.nn)(he:El d.jA 5 i=[vi kd,u ka 1 kc,aJ t,u xa xn xc,vi at'])(hz:(d.zs i)[0]?=Z z)(hn:A.ns+(3+h2 d.ws z)<=4000)(ht:A.tot+2*(3+h2 d.ws z)<=20000)(hf:A.cur fr):
 bQ Pg X 185 [dP ⟨[vi kd,u ka 1 kc,aJ t,u xa xn xc,vi at']⟩,B fr,pr d.cs,pr d.fe,pr d.w] H λv Q=>∃A' M' to c,v=B to/\Bd d.ra A' M'/\SH (hx.map (·.1)) H Q M'/\At.Gw A A' (3+h2 d.ws z) c/\c<=2*(3+h2 d.ws z)/\At.Bu d.lw A'/\A'.cur to:=by
 have h:=h.own;obtain⟨rk,Y,rfl,_⟩:=P4 h.we hi he hz;refine lq [0,1,2,3,4,5,7,8,9,10,11] ?_;refine(h_ h.sh.wf).box O λH1 rb I=>?_;have al:=I.ext;have h:RY K d (hx.map (·.1)) H H1 hx [(rb,238,[vi kd,u (Z ⟨rk,Y,T⟩) 1 kc,aJ t,u xa xn xc,vi at'])] A:=h.amu I
 have hm:∀{Q M' A'},RY K d (hx.map (·.1)) H Q M' [(rb,238,[vi kd,u (Z ⟨rk,Y,T⟩) 1 kc,aJ t,u xa xn xc,vi at'])] A'->Q.cell rb 0=Z (vi kd)/\Q.cell rb 1=Z (u (Z ⟨rk,Y,T⟩) 1 kc):=λh=>by
  have hb:=h.sh.bk _<|dL _<|aL ..
  exact⟨hb.cell O,hb.cell O⟩
 refine iY h.we.cs.2 ?_;refine h.fresh N λH2 M2 A1 h U c1=>?_;have hf:=hf.gw U;have n1:=U.ns;have t1:=U.tt;refine iY h.we.fe.2<|h.free hf c1 N λ_ H3 M3 A2 h V=>?_;have g:=U.trans V;have n2:=V.ns;have t2:=V.tt;refine iY h.we.cs.2<|h.fresh N λH4 M4 A3 h g3 c3=>?_;have g:=g.trans g3;have n3:=g3.ns;have t3:=g3.tt;refine iY h.we.cs.2<|h.fresh N λH5 M5 A4 h E c4=>?_;have g:=g.trans E;have n4:=E.ns;have t4:=E.tt;have cd:=((c1.gw V).gw g3).gw E;have ce:=c3.gw E;refine iY h.we.fe.2<|h.free cd c4 N λ_ m M6 A5 h g5=>?_;have g:=g.trans g5;have n5:=g5.ns;have t5:=g5.tt;have cd:=cd.gw g5;have ce:=ce.gw g5;have cb:=c4.gw g5;refine bM ?_;refine iY (hm h).1 ?_;refine bM ?_
 have tl:∀bk,A5.cur bk->∀{x0 x1 oW},iG Pg X (sub QZ [1,1,1,1,1,1,1,1]) (OB x0 x1 (pr d.cs) (pr d.fe) (pr d.w) (pr rb) (vi 0) (B A.ns) (B A2.ns) (B A3.ns) (B bk) oW m) (jZ Pg [.tmp 7] λv Q=>∃A' M' to c,v=B to/\Bd d.ra A' M'/\SH (hx.map (·.1)) H Q M'/\At.Gw A A' (3+h2 d.ws z) c/\c<=2*(3+h2 d.ws z)/\At.Bu d.lw A'/\A'.cur to):=by
  intro bk ab x0 x1 oW;refine tl<|iY (H:=hN m) h.we.fe.2 ?_;simp only[iT h.sh.wf];refine iY (H:=hN m) h.we.w.2 ?_;simp only[iT h.sh.wf,PP];refine iY (H:=hN m) (hm h).2 ?_;simp only[iT h.sh.wf];have⟨rk',ok',e1,hKr,hkc,hid,_⟩:=P4 h.we hi he hz;cases e1;refine dA hid<|iY (H:=hN m) hkc ?_;simp only[iT h.sh.wf];have p:=h;refine h.ajM ad N N cb λto y M7 A7 c7 h g7 b7 ac M=>?_;have n7:=g7.ns;have t7:=g7.tt;have g:=g.trans g7;refine h.aio ac (ab.gw g7) N λv8 H8 M8 A8 h8 g8 BK=>?_;have n8:=g8.ns;have t8:=g8.tt;have g:=g.trans g8;refine(show∀K:Prop,K->_/\K fromλKz hK=>?_) _ ?_
  .have rd:∀{r o v},(K r\/∃e∈[((rb,238,[vi kd,u (Z ⟨rk,Y,T⟩) 1 kc,aJ t,u xa xn xc,vi at']):eB)],e.1=r)->m.cell r o=Z v->qA v v=F->∀w:Cl,((w.a=m/\w.b=y)\/(w.a=hM m y/\w.b=H8))->oQ w ⟨4,r,o,1,hh0,hh0⟩=F:=by
    intro r o v hr W hs w hw;rcases hw with hw|hw
    .exact p.rd M hr W hs hw
    .exact h.rd BK hr (p.keep M hr W) hs hw
   have r1:=rd (.inl p.we.fe.1) p.we.fe.2<|Uo d;have r2:=rd (.inl p.we.w.1) p.we.w.2<|Rw d;have r3:=rd (.inr ⟨_,aL ..,O⟩) (hm p).2 (qQ _ _ _ λx h=>by cases h;rfl);have r4:=rd (.inl hKr) hkc<|yZ _ _;simp only[fu];rcases xB m y with e|e<;>rw[e]<;>rcases xB (hM m y) H8 with e|e<;>rw[e]<;>apply Gf (au:=λw=>(w.a=m/\w.b=y)\/(w.a=hM m y/\w.b=H8)) fT fT hK<;>repeat' apply iZ
   all_goals first|exact trivial|(intro h;cases h;done)|exactλ_=>.inl ⟨rfl,rfl⟩|exactλ_=>.inr ⟨rfl,rfl⟩|exactλ_=>r1|exactλ_=>r2|exactλ_=>r3|exactλ_=>r4
  refine iY h8.we.fe.2<|h8.free ((cd.gw g7).gw g8) ((ce.gw g7).gw g8) N λ_ H9 M9 A9 h9 g9=>?_;have g:=g.trans g9;have n9:=g9.ns;have t9:=g9.tt;refine rr ?_;exact⟨A9,M9,A2.ns,_,O,h9.bd,(h9.sh.sub<|fC M9 _),g.cast N O,N,h9.bu,((ce.gw g7).gw g8).gw g9⟩
 refine aW (λW=>?_) λW=>?_
 .exact tl _ cd
 .exact tl _ ce
end
section
open Go.Ae Go.Ae.hx Go.Proofs.Lv
variable{S:C Nat}
def P5{kd:Int}(m:l[k]?=Z z):sP ws kd (l.take<|k+1)=sP ws kd (l.take k)+(h2 ws z+KU kd):=by
 unfold sP;rw[dY,m];show(List.map _<|_++[_]).sum=_;rw[dM,nK];rfl
def YN(ws:C Nat)(kd:Int)(l:C Nat)(k:Nat):sP ws kd (l.take k)<=sP ws kd l:=by
 have:sP ws kd l=sP ws kd (l.take k)+sP ws kd (l.drop k):=by
  unfold sP;rw[<-nK,<-dM,iM]
 omega
structure WQ(d:WD):Prop where
 nn:d.nn<=4000
 sz:∀j,j<d.nn->IC d.kd d.zs d.ws j
 lf:∀j,j<d.nn->yo d.tn d.lw (El d.lcs 3 j)
def WE.wR{Kp:D->D->R->Prop}(m:WE K d H)(w:z<d.nn)(kk:∀p,Kp p (B<|h2 d.ws z) H):PU (B_ 1 (u (Z ⟨d.rs,0,T⟩) d.nn d.nn)<|B z) λp=>ME (Go.Ae.wR T p H) (Kp p):=by
 have x:J d.ws=d.nn:=by have:=m.st.1.1;simpa using this
 refine m.st.ix w ?_ kk;rw[bK,av (show z<J d.ws by omega)];show _=Z (B<|d.ws[z]?.getD 0);rw[av (show z<J d.ws by omega)];rfl
theorem adU{fr:Nat}(hQ:WQ d)(h:RY K d (hx.map (·.1)) H0 H hx [(rb,238,f)] A)(hi:i<d.nn)(hn:A.ns+1<=4000)(ht:A.tot+2<=20000)(hf:A.cur fr)(kk:∀A' M' to c Q,Bd d.ra A' M'->SH (hx.map (·.1)) H0 Q M'->At.Gw A A' 1 c->c<=2->At.Bu d.lw A'->A'.cur to->H' (B to) Q):
 iG Pg X (sub oF [1,1,1]) (wV (B i) (B fr) (pr d.g) (pr d.s) (pr d.w) (pr d.cs) (pr d.fe) (pr d.lo) (pr d.p) (pr d.l) mP ko mM rP Cc xC x20 yu FP zV x24 x25 x32 KI Cb x38 R6 x65 x66 oW H) (jZ Pg [.tmp 12] H'):=by
 refine tl<|iY h.we.cs.2<|h.fresh N λH1 M1 A1 h V c1=>?_;have n1:=V.ns;have t1:=V.tt;refine iY (H:=hN H1) h.we.p.2 ?_;simp only[iT h.sh.wf];refine iY (H:=hN H1) h.we.l.2 ?_;simp only[iT h.sh.wf];have⟨r,o,e1,e2,e3,o0,e4,_⟩:=h.we.lf.1.idx (c:=d.nn) N hi;cases e4;have⟨k1,a1,hle,m⟩:=hQ.lf i hi
 have cell:∀y x,y<3->[B k1,B a1,B 0][y]?=Z x->H1.cell d.rl (o+y)=Z x:=λy x U M=>by
  refine e3 y x U ?_;have:=fq (λl=>l[y]?) hle;simp only[oL,if_pos U]at this;rw[this];exact M
 have E:K d.rl:=(h.we.lf.2 d.rl 0 O N).1;refine dA e1<|bM ?_;refine iY (H:=hN H1) (by have:=cell 0 _ N O;rwa [d_]at this) ?_;simp only[iT h.sh.wf];refine iY (H:=hN H1) h.we.l.2 ?_;simp only[iT h.sh.wf];refine dA e1<|bM ?_;refine iY (H:=hN H1) (cell 1 _ N O) ?_;simp only[iT h.sh.wf];refine PU.b3 O ?_;have I:=h
 refine h.aoq (e:=(k1,a1,A.ns)) (hf.gw V) c1 (by
  unfold At.EdL;rw[h.ty];rcases m with m|⟨p1,p2⟩|⟨p1,p2⟩
  .exact .inl m
  .exact .inr<|.inl ⟨p1,p2⟩
  .exact .inr<|.inr ⟨p1,p2⟩) N λv H2 M2 A2 h W ab=>?_
 have n2:=W.ns;have t2:=W.tt;refine(show∀K:Prop,K->_/\K fromλKz hK=>?_) _ ?_
 .have Y:∀{r o v},K r->H1.cell r o=Z v->qA v v=F->∀w:Cl,(w.a=H1/\w.b=H2)->oQ w ⟨4,r,o,1,hh0,hh0⟩=F:=λhr hc hs w hw=>I.rd ab (.inl hr) hc hs hw;have r1:=Y I.we.p.1 I.we.p.2<|agC d;have r2:=Y I.we.l.1 I.we.l.2 (qQ _ _ _ λx h=>by cases h;rfl);have r3:=Y E (by have:=cell 0 _ N O;rwa [d_]at this)<|yZ _ _;have r4:=Y E (cell 1 _ N O)<|yZ _ _;simp only[fu];rcases xB H1 H2 with e|e<;>rw[e]<;>apply Gf (au:=λw=>w.a=H1/\w.b=H2) fT fT hK<;>repeat' apply iZ
  all_goals first|exact trivial|(intro h;cases h;done)|exactλ_=>⟨rfl,rfl⟩|exactλ_=>r1|exactλ_=>r2|exactλ_=>r3|exactλ_=>r4
 exact rr<|(kk A2 M2 A.ns _ _ h.bd (h.sh.sub<|fC M2 _) (V.trans W) N h.bu<|c1.gw W)
end
section
open Go.Ae Go.Ae.hx Go.Proofs.Lv
variable{S:C Nat}
def YD.row{ay:Nat->Prop}(h:YD ay H nn jA kd zs)(hi:i<nn):∃(a:aC Addr)(c:Nat)(t:aZ)(xa:aC Addr)(xn xc:Nat)(at':Int),El jA 5 i=[vi (kd i),u a (J<|zs i) c,aJ t,u xa xn xc,vi at']/\Nk (kd i) (J<|zs i)/\(∀z∈zs i,z<i)/\J (zs i)<=20001:=let⟨a,c,t,xa,xn,xc,at',I,_,h3,h4,_,h6⟩:=h i hi;⟨a,c,t,xa,xn,xc,at',I,h3,h4,h6⟩
section
variable{fr:Nat}{at':Int}
def agD(hQ:WQ d)(ih:∀z,z<i->Kv K d z)(h:RY K d (hx.map (·.1)) H0 H hx [(rb,238,[vi (d.kd i),u ka (J<|d.zs i) kc,aJ t,u xa xn xc,vi at'])] A)(hi:i<d.nn)(I:d.kd i=1)(he:El d.jA 5 i=[vi (d.kd i),u ka (J<|d.zs i) kc,aJ t,u xa xn xc,vi at'])(hz:∀z∈d.zs i,z<i)(ap:J (d.zs i)<=20001)(hn:A.ns+sP d.ws (d.kd i) (d.zs i)<=4000)(ht:A.tot+2*sP d.ws (d.kd i) (d.zs i)<=20000)(y:A.cur fr)(kk:∀A' M' to c Q,Bd d.ra A' M'->SH (hx.map (·.1)) H0 Q M'->At.Gw A A' (sP d.ws (d.kd i)<|d.zs i) c->c<=2*sP d.ws (d.kd i) (d.zs i)->At.Bu d.lw A'->A'.cur to->H' (B to) Q):
 iG Pg X (.loop<|sub oF [1,1,0,1,0,1,0,0,1,0,0]) (wV (B i) (B fr) (pr d.g) (pr d.s) (pr d.w) (pr d.cs) (pr d.fe) (pr d.lo) (pr d.p) (pr d.l) mP (pr rb) mM rP Cc xC x20 yu FP zV x24 x25 x32 (u ka (J<|d.zs i) kc) (B<|J<|d.zs i) (B 0) R6 x65 x66 oW H) (uB 1<|uW Pg X (sub oF [1,1,0,1,0,1,0,1])<|uB 0<|uW Pg X (sub oF [1,1,1])<|jZ Pg [.tmp 12] H'):=by
 have al:KU (d.kd i)=0:=by unfold KU;rw[if_neg N]
 refine Ik 1 15 38 (h1:=λm x1 mM x38 Q=>∃k E A' M' c,x38=B k/\k+m=J (d.zs i)/\x1=B E/\RY K d (hx.map (·.1)) H0 Q M' [(rb,238,[vi (d.kd i),u ka (J<|d.zs i) kc,aJ t,u xa xn xc,vi at'])] A'/\At.Gw A A' (sP d.ws (d.kd i)<|(d.zs i).take k) c/\c<=2*sP d.ws (d.kd i) ((d.zs i).take k)/\A'.cur E) ?_ (J<|d.zs i) ⟨0,fr,A,hx,0,rfl,N,rfl,h,(At.Gw.refl A).cast (by simp[sP]) O,bD _,y⟩;clear h y;rintro m x1 mM x38 oW H1 ⟨k,E,A1,M1,c,rfl,an,rfl,h,g,hc,y⟩;refine lX (λV=>?_) λV=>?_
 .obtain rfl:k=J (d.zs i):=N;rw[kI]at g hc;refine tp ?_;exact rr<|(kk A1 M1 E c H1 h.bd (h.sh.sub<|fC M1 _) g hc h.bu y)
 have hk:k<J (d.zs i):=N;have U:(d.zs i)[k]?=Z (d.zs i)[k]:=av hk;have M:=hz _<|bH hk;generalize(d.zs i)[k]=z at U M;have ao:=P5 (ws:=d.ws) (kd:=d.kd i) U;have am:=YN d.ws (d.kd i) (d.zs i)<|k+1;have n1:=g.ns;have t1:=g.tt;obtain⟨r,o,rfl,ad,x,Y,_⟩:=P4 h.we hi he U;refine dA Y<|iY x<|iY h.we.s.2<|h.we.wR N λp=>?_;refine tO (λW=>?_) λW=>?_
 .refine iY h.we.w.2<|h.way (ih z M) N N y λto H2 M2 A2 c2 h g2 ab ac=>?_;refine eG ?_;exact⟨J (d.zs i)-(k+1),N,_,_,_,_,_,O,k+1,to,A2,M2,c+c2,pJ,N,O,h,(g.trans g2).cast N O,N,ac⟩
 .refine eG ?_;exact⟨J (d.zs i)-(k+1),N,_,_,_,_,_,O,k+1,E,A1,M1,c,pJ,N,O,h,g.cast N O,N,y⟩
theorem agE{d0 e0:Nat}(hQ:WQ d)(ih:∀z,z<i->Kv K d z)(h:RY K d (hx.map (·.1)) H0 H M1 [(rb,238,[vi (d.kd i),u ka (J<|d.zs i) kc,aJ t,u xa xn xc,vi at'])] A1)(g1:At.Gw A A1 2 c1)(ac:c1<=1)(hd0:A1.cur d0)(x:A1.cur e0)(hi:i<d.nn)(I:d.kd i=0)(he:El d.jA 5 i=[vi (d.kd i),u ka (J<|d.zs i) kc,aJ t,u xa xn xc,vi at'])(hz:∀z∈d.zs i,z<i)(aE:J (d.zs i)<=20001)(hn:A.ns+(2+sP d.ws (d.kd i) (d.zs i))<=4000)(ht:A.tot+2*(2+sP d.ws (d.kd i) (d.zs i))<=20000){x1:D}(kk:∀A' M' to c Q,Bd d.ra A' M'->SH (hx.map (·.1)) H0 Q M'->At.Gw A A' (2+sP d.ws (d.kd i) (d.zs i)) c->c<=2*(2+sP d.ws (d.kd i) (d.zs i))->At.Bu d.lw A'->A'.cur to->H' (B to) Q):
 iG Pg X (.loop<|sub oF [1,1,0,1,0,1,1,1,0,1,1,1,0,1,0,0]) (wV (B i) x1 (pr d.g) (pr d.s) (pr d.w) (pr d.cs) (pr d.fe) (pr d.lo) (pr d.p) (pr d.l) mP ko mM (B d0) (B e0) xC x20 yu FP zV x24 x25 x32 KI Cb x38 (u ka (J<|d.zs i) kc) (B<|J<|d.zs i) (B 0) oW H) (uB 3<|uW Pg X (sub oF [1,1,0,1,0,1,1,1,0,1,1,1,1])<|uB 0<|uW Pg X (sub oF [1,1,1])<|jZ Pg [.tmp 12] H'):=by
 have ao:KU (d.kd i)=1:=by unfold KU;rw[if_pos I]
 refine Ik 19 20 66 (h1:=λm xC x20 x66 Q=>∃k A' M' c,x66=B k/\k+m=J (d.zs i)/\RY K d (hx.map (·.1)) H0 Q M' [(rb,238,[vi (d.kd i),u ka (J<|d.zs i) kc,aJ t,u xa xn xc,vi at'])] A'/\At.Gw A A' (2+sP d.ws (d.kd i) ((d.zs i).take k)) c/\c+3<=2*(2+sP d.ws (d.kd i) ((d.zs i).take k))/\A'.cur d0/\A'.cur e0) ?_ (J<|d.zs i) ⟨0,A1,M1,c1,rfl,N,h,g1.cast (by simp[sP]) O,N,hd0,x⟩;clear h hd0 x g1 ac;rintro m xC x20 x66 oW H1 ⟨k,A2,M2,c,rfl,aq,h,g,hc,hd0,x⟩;refine lX (λad=>?_) λad=>?_
 .obtain rfl:k=J (d.zs i):=N;rw[kI]at g hc;refine tp ?_;exact rr<|(kk A2 M2 e0 c H1 h.bd (h.sh.sub<|fC M2 _) g N h.bu x)
 have hk:k<J (d.zs i):=N;have UN:(d.zs i)[k]?=Z (d.zs i)[k]:=av hk;have Y:=hz _<|bH hk;generalize(d.zs i)[k]=z at UN Y;have ar:=P5 (ws:=d.ws) (kd:=d.kd i) UN;have ap:=YN d.ws (d.kd i) (d.zs i)<|k+1;have n1:=g.ns;have t1:=g.tt;obtain⟨r,o,rfl,an,y,al,_⟩:=P4 h.we hi he UN;refine dA al<|iY y<|iY h.we.cs.2<|h.fresh N λH2 M2 A3 h g3 cb=>?_;have n3:=g3.ns;have t3:=g3.tt;have g:=g.trans g3;have hd0:=hd0.gw g3;have x:=x.gw g3;refine iY h.we.fe.2<|h.free hd0 cb N λ_ H3 M3 A4 h M=>?_;have n4:=M.ns;have t4:=M.tt;have g:=g.trans M;have hd0:=hd0.gw M;have x:=x.gw M;have cb:=cb.gw M;refine iY (H:=hN H3) h.we.fe.2 ?_;simp only[iT h.sh.wf];refine iY (H:=hN H3) h.we.w.2 ?_;simp only[iT h.sh.wf];have U:=h;refine h.ajM (ih z Y) N N cb λto E M4 A5 c5 h g5 b5 ab W=>?_;have n5:=g5.ns;have t5:=g5.tt;have g:=g.trans g5;have hd0:=hd0.gw g5;have x:=x.gw g5;refine h.aio ab x N λv5 H5 M5 A6 h8 V am=>?_;have n6:=V.ns;have t6:=V.tt;have g:=g.trans V;refine(show∀K:Prop,K->_/\K fromλKz hK=>?_) _ ?_
 .have rd:∀{r o v},K r->H3.cell r o=Z v->qA v v=F->∀w:Cl,((w.a=H3/\w.b=E)\/(w.a=hM H3 E/\w.b=H5))->oQ w ⟨4,r,o,1,hh0,hh0⟩=F:=by
   intro r o v hr hc hs w hw;rcases hw with hw|hw
   .exact U.rd W (.inl hr) hc hs hw
   .exact h.rd am (.inl hr) (U.keep W (.inl hr) hc) hs hw
  have r1:=rd U.we.fe.1 U.we.fe.2<|Uo d;have r2:=rd U.we.w.1 U.we.w.2<|Rw d;simp only[fu];rcases xB H3 E with e|e<;>rw[e]<;>rcases xB (hM H3 E) H5 with e|e<;>rw[e]<;>apply Gf (au:=λw=>(w.a=H3/\w.b=E)\/(w.a=hM H3 E/\w.b=H5)) fT fT hK<;>repeat' apply iZ
  all_goals first|exact trivial|(intro h;cases h;done)|exactλ_=>.inl ⟨rfl,rfl⟩|exactλ_=>.inr ⟨rfl,rfl⟩|exactλ_=>r1|exactλ_=>r2
 refine eG ?_;exact⟨J (d.zs i)-(k+1),N,_,_,_,_,_,O,k+1,A6,M5,_,pJ,N,h8,g.cast N O,N,hd0.gw V,x.gw V⟩
end
end
section
open Go.Ae Go.Ae.hx Go.Proofs.Lv
variable{S:C Nat}
theorem adV{fr:Nat}{at':Int}(ab:Kv K d z)(h:RY K d (hx.map (·.1)) H0 H hx [(rb,238,[vi (d.kd i),u ka 1 kc,aJ t,u xa xn xc,vi at'])] A)(hi:i<d.nn)(h4:d.kd i=4)(he:El d.jA 5 i=[vi (d.kd i),u ka 1 kc,aJ t,u xa xn xc,vi at'])(hz:(d.zs i)[0]?=Z z)(hn:A.ns+(3+h2 d.ws z)<=4000)(ht:A.tot+2*(3+h2 d.ws z)<=20000)(hf:A.cur fr)(W:Co oW 85=aR aA)(kk:∀A' M' to c Q,Bd d.ra A' M'->SH (hx.map (·.1)) H0 Q M'->At.Gw A A' (3+h2 d.ws z) c->c<=2*(3+h2 d.ws z)->At.Bu d.lw A'->A'.cur to->H' (B to) Q):
 iG Pg X (sub oF [1,1,0,1,0,1,1,1,1,1]) (wV (B i) (B fr) (pr d.g) (pr d.s) (pr d.w) (pr d.cs) (pr d.fe) (pr d.lo) (pr d.p) (pr d.l) mP (pr rb) mM rP Cc xC x20 yu FP zV x24 x25 (vi<|d.kd i) KI Cb x38 R6 x65 x66 oW H) (uB 0<|uW Pg X (sub oF [1,1,1])<|jZ Pg [.tmp 12] H'):=by
 obtain⟨rk,ok,rfl,_⟩:=P4 h.we hi he hz
 have hm:∀{Q M' A'},RY K d (hx.map (·.1)) H0 Q M' [(rb,238,[vi (d.kd i),u (Z ⟨rk,ok,T⟩) 1 kc,aJ t,u xa xn xc,vi at'])] A'->Q.cell rb 1=Z (u (Z ⟨rk,ok,T⟩) 1 kc):=λh=>by
  have hb:=h.sh.bk _<|dL _<|aL ..
  exact hb.cell O
 refine tl ?_;rw[W];refine bM ?_;refine aW (λ_=>?_) λV=>absurd h4 V;refine iY h.we.cs.2<|h.fresh N λH1 M1 A1 h E cb=>?_;have n1:=E.ns;have t1:=E.tt;refine iY h.we.fe.2<|h.free (hf.gw E) cb N λ_ m M2 A2 h I=>?_;have n2:=I.ns;have t2:=I.tt;have g:=E.trans I;have cb:=cb.gw I;refine iY (H:=hN m) h.we.w.2 ?_;simp only[iT h.sh.wf,PP];have Y:=hm h;refine iY (H:=hN m) Y ?_;simp only[iT h.sh.wf];have⟨rk',ok',e1,hKr,hkc,hid,_⟩:=P4 h.we hi he hz;cases e1;refine dA hid<|iY (H:=hN m) hkc ?_;simp only[iT h.sh.wf];have U:=h;refine h.ajM ab N N cb λla H3 M3 A3 c3 h g3 b3 cl ac=>?_;have n3:=g3.ns;have t3:=g3.tt;have g:=g.trans g3;have cb:=cb.gw g3;refine(show∀K:Prop,K->_/\K fromλKz hK=>?_) _ ?_
 .have rd:∀{r o v},(K r\/∃e∈[((rb,238,[vi (d.kd i),u (Z ⟨rk,ok,T⟩) 1 kc,aJ t,u xa xn xc,vi at']):eB)],e.1=r)->m.cell r o=Z v->qA v v=F->∀w:Cl,(w.a=m/\w.b=H3)->oQ w ⟨4,r,o,1,hh0,hh0⟩=F:=λhr V hs w hw=>U.rd ac hr V hs hw;have r2:=rd (.inl U.we.w.1) U.we.w.2<|Rw d;have r3:=rd (.inr ⟨_,aL ..,O⟩) (hm U) (qQ _ _ _ λx h=>by cases h;rfl);have r4:=rd (.inl hKr) hkc<|yZ _ _;simp only[fu];rcases xB m H3 with e|e<;>rw[e]<;>apply Gf (au:=λw=>w.a=m/\w.b=H3) fT fT hK<;>repeat' apply iZ
  all_goals first|exact trivial|(intro h;cases h;done)|exactλ_=>⟨rfl,rfl⟩|exactλ_=>r2|exactλ_=>r3|exactλ_=>r4
 refine iY h.we.cs.2<|h.fresh N λH4 M4 A4 h y cd=>?_;have n4:=y.ns;have t4:=y.tt;have g:=g.trans y;have cl:=cl.gw y;have cb:=cb.gw y;refine iY h.we.fe.2<|h.free cl cd N λ_ H5 M5 A5 h g5=>?_;have n5:=g5.ns;have t5:=g5.tt;have g:=g.trans g5;have cd:=cd.gw g5;have cb:=cb.gw g5;refine iY h.we.fe.2<|h.free cd cb N λ_ H6 M6 A6 h M=>?_;have n6:=M.ns;have t6:=M.tt;have g:=g.trans M;have cd:=cd.gw M;refine iY h.we.cs.2<|h.fresh N λH7 M7 A7 h g7 ce=>?_;have n7:=g7.ns;have t7:=g7.tt;have g:=g.trans g7;have cd:=cd.gw g7;refine iY h.we.fe.2<|h.free cd ce N λ_ H8 M8 A8 h g8=>?_;have n8:=g8.ns;have t8:=g8.tt;have g:=g.trans g8;exact rr<|(kk A8 M8 A6.ns _ _ h.bd (h.sh.sub<|fC M8 _) (g.cast N O) N h.bu<|ce.gw g8)
theorem ajN(hQ:WQ d):∀i,i<d.nn->Kv K d i:=by
 intro i
 induction i using Nat.strongRecOn with
 |ind i ih=>
  intro M S H0 H hx L A fr h Y ht hf;have h:=h.own;have⟨ka,kc,t,xa,xn,xc,at',he,E,hz,hzl⟩:=h.we.kid.row M;have ih:∀z,z<i->Kv K d z:=λz hz=>ih z hz N;have ad:=hQ.sz i M;unfold IC at ad;have hW:h2 d.ws i=G4 (d.kd i)+sP d.ws (d.kd i) (d.zs i):=N;refine GY [0,1,2,3,4,5,6,7,8,9,12,13,15,16,17,19,20,21,22,23,24,25,32,36,37,38,64,65,66] ?_;refine iY h.we.g.2 ?_;refine h.we.nd.Yb N M he λp=>(h_ h.sh.wf).ns O O O λH1 rb ab _=>?_;have h:RY K d (hx.map (·.1)) H H1 hx [(rb,238,[vi (d.kd i),u ka (J<|d.zs i) kc,aJ t,u xa xn xc,vi at'])] A:=h.amu ab;have hm:∀{Q M' A'},RY K d (hx.map (·.1)) H Q M' [(rb,238,[vi (d.kd i),u ka (J<|d.zs i) kc,aJ t,u xa xn xc,vi at'])] A'->Bk Q rb 238 [vi (d.kd i),u ka (J<|d.zs i) kc,aJ t,u xa xn xc,vi at']:=λh=>h.sh.bk _<|dL _<|aL ..
  refine bM ?_;refine iY ((hm h).cell (o:=0) O) ?_;refine bM ?_;have m:∀A' M' to c Q,Bd d.ra A' M'->SH (hx.map (·.1)) H Q M'->At.Gw A A' (h2 d.ws i) c->c<=2*h2 d.ws i->At.Bu d.lw A'->A'.cur to->ajL d i A hx H (B to) Q:=λA' M' to c Q a1 a2 a3 a4 a5 a6=>⟨A',M',to,c,rfl,a1,a2,a3,a4,a5,a6⟩;refine aW (λI=>?_) λI=>?_
  .refine iY ((hm h).cell (o:=1) O) ?_;refine bM ?_;have hb:G4 (d.kd i)=0:=by unfold G4;rw[if_neg N,if_pos I]
   have e:h2 d.ws i=sP d.ws (d.kd i) (d.zs i):=N;rw[e]at m;exact agD hQ ih h M I he hz hzl N N hf m
  refine aW (λh0=>?_) λh0=>?_
  .have hb:G4 (d.kd i)=2:=by unfold G4;rw[if_pos h0]
   have e:h2 d.ws i=2+sP d.ws (d.kd i) (d.zs i):=N;rw[e]at m;refine iY h.we.cs.2<|h.fresh N λH2 M2 A2 h g2 cd=>?_;have n2:=g2.ns;have t2:=g2.tt;refine iY h.we.fe.2<|h.free (hf.gw g2) cd N λ_ H3 M3 A3 h g3=>?_;have n3:=g3.ns;have t3:=g3.tt;have g:=g2.trans g3;refine iY h.we.cs.2<|h.fresh N λH4 M4 A4 h g4 ce=>?_;have n4:=g4.ns;have t4:=g4.tt;have g:=g.trans g4;refine iY ((hm h).cell (o:=1) O) ?_;refine bM ?_;exact agE hQ ih h g N ((cd.gw g3).gw g4) ce M h0 he hz hzl N N m
  have y:(d.kd i=2\/d.kd i=3\/d.kd i=4)->∃z,d.zs i=[z]/\z<i/\h2 d.ws i=3+h2 d.ws z:=λhk=>by
   have V:J (d.zs i)=1:=by rcases E with h|h|h|h<;>omega
   have⟨z,hz1⟩:=List.length_eq_one_iff.1 V;refine⟨z,hz1,hz z (by rw[hz1];simp),?_⟩;rw[hW,hz1];have hb:G4 (d.kd i)=3:=by unfold G4;rw[if_neg N,if_neg N,if_pos hk]
   have ha:KU (d.kd i)=0:=by unfold KU;rw[if_neg N]
   unfold sP;simp[hb,ha]
  have one:¬(d.kd i=2\/d.kd i=3\/d.kd i=4)->h2 d.ws i=1:=λhk=>by
   have V:J (d.zs i)=0:=by rcases E with h|h|h|h<;>omega
   have x:=eU.1 V;rw[hW,x];have hb:G4 (d.kd i)=1:=by unfold G4;rw[if_neg N,if_neg N,if_neg hk]
   rw[hb];rfl
  have U:∀{mP mM rP Cc xC x20 yu FP zV x24 x25 KI Cb x38 R6 x65 x66:D}{oW:C (Nat×D)},(d.kd i=2\/d.kd i=3)->Co oW 85=aR F->iG Pg X (sub oF [1,1,0,1,0,1,1,1,1,1]) (wV (B i) (B fr) (pr d.g) (pr d.s) (pr d.w) (pr d.cs) (pr d.fe) (pr d.lo) (pr d.p) (pr d.l) mP (pr rb) mM rP Cc xC x20 yu FP zV x24 x25 (vi<|d.kd i) KI Cb x38 R6 x65 x66 oW H1) (uB 0<|uW Pg X (sub oF [1,1,1])<|jZ Pg [.tmp 12]<|ajL d i A hx H):=by
   intro mP mM rP Cc xC x20 yu FP zV x24 x25 KI Cb x38 R6 x65 x66 oW hk ac;have⟨z,hz1,hzi,e⟩:=y N;rw[e]at m Y ht;have x:(d.zs i)[0]?=Z z:=by rw[hz1];rfl
   have V:J (d.zs i)=1:=by rw[hz1];rfl
   refine tl ?_;rw[ac];refine bM ?_;refine iY h.we.lo.2<|ME.uL ((hm h).read (o:=0) (n:=5)<|ax 5) ?_;show bQ Pg X 185 [dP ⟨[vi (d.kd i),u ka (J<|d.zs i) kc,aJ t,u xa xn xc,vi at']⟩,B fr,pr d.cs,pr d.fe,pr d.w] H1 _;rw[V]at he|-;refine dD (JH (ih z hzi) h M he x Y ht hf) ?_;rintro v H2 ⟨A',M',to,c,rfl,b1,b2,b3,b4,b5,b6⟩;refine rr<|(m A' M' to c H2 b1 ?_ b3 b4 b5 b6);exact(SH.frame h.sh b2).sub<|fC M' _
  refine aW (λW=>?_) λW=>?_
  .exact U (.inl W) (by show aR (decide<|d.kd i=2)=_;rw[b_ W])
  by_cases h3:d.kd i=3
  .exact U (.inr h3) (by show aR (decide<|d.kd i=3)=_;rw[b_ h3])
  by_cases h4:d.kd i=4
  .have⟨z,hz1,hzi,e⟩:=y N;rw[e]at m Y ht;have x:(d.zs i)[0]?=Z z:=by rw[hz1];rfl
   have V:J (d.zs i)=1:=by rw[hz1];rfl
   rw[V]at he h;exact adV (ih z hzi) h M h4 he x Y ht hf (by show aR (decide<|d.kd i=3)=_;rw[dR h3]) m
  .have e:=one N;rw[e]at m Y ht;refine tp ?_;refine aW (λhc=>absurd hc h3) λ_=>?_;refine aW (λhc=>absurd hc h4) λ_=>?_;exact adU hQ h M Y ht hf m
end
section
open Go.Ae Go.Ae.hx Go.Proofs.Lv
variable{S:C Nat}
def aav(E:Wf H){ra:aC Addr}{rn:Nat}{lv x:D}(hl:∃a n c,lv=u a n c)(hs:∃a n c,x=u a n c):bQ Pg X 154 [gV ra rn rc na nn nc,lv,x,.func (.func 152) ⟨[]⟩ ⟨[pr rb]⟩,.func (.func 153) ⟨[]⟩ ⟨[pr rb]⟩] H λv Q=>∃g s w cs m lo p l,v=.func (.func 186) ⟨[]⟩ ⟨[pr g,pr s,pr w,pr cs,pr m,pr lo,pr p,pr l]⟩/\Ext H Q/\(∀r∈[g,s,w,cs,m,lo,p,l],H.bU<=r/\r<Q.bU)/\Q.cell g 1=Z (u na nn nc)/\Q.cell s 0=Z x/\Q.cell w 0=Z v/\Q.cell cs 0=Z (.func (.func 152) ⟨[]⟩ ⟨[pr rb]⟩)/\Q.cell m 0=Z (.func (.func 184) ⟨[]⟩ ⟨[pr p]⟩)/\Q.cell lo 0=Z (.func (.func 185) ⟨[]⟩ ⟨[pr cs,pr m,pr w]⟩)/\Q.cell p 0=Z (.func (.func 153) ⟨[]⟩ ⟨[pr rb]⟩)/\Q.cell l 0=Z lv:=by
 obtain⟨Y,ln,lc,rfl⟩:=hl;obtain⟨sa,sn,sc,rfl⟩:=hs;have G:=h_ E;refine lq [0,1,2,3,4,5,6,7,8,9,10,11,12,13] ?_;refine G.box O λH1 g G=>?_;refine G.box O λI l G=>?_;refine G.box O λH3 s G=>G.box O λM cs G=>G.box O λN p G=>G.jP λU m G=>?_;refine G.kE λy G=>G.jP λV w G=>?_;refine G.jP λW lo G=>?_;refine G.kE λy G=>?_;refine G.kE λy G=>?_;apply G.qF;refine rr ?_;refine⟨g,s,w,cs,m,lo,p,l,O,G.ext,?_,(G.get 7 O).cell O,(G.get 5 O).cell O,(G.get 1 O).cell O,(G.get 4 O).cell O,(G.get 2 O).cell O,(G.get 0 O).cell O,(G.get 3 O).cell O,(G.get 6 O).cell O⟩;intro r B;simp only[bW,fF,jo]at B;rcases B with rfl|rfl|rfl|rfl|rfl|rfl|rfl|rfl
 .exact⟨G.yV<|aV (i:=7) O,(G.lo _<|aV (i:=7) O).2⟩
 .exact⟨G.yV<|aV (i:=5) O,(G.lo _<|aV (i:=5) O).2⟩
 .exact⟨G.yV<|aV (i:=1) O,(G.lo _<|aV (i:=1) O).2⟩
 .exact⟨G.yV<|aV (i:=4) O,(G.lo _<|aV (i:=4) O).2⟩
 .exact⟨G.yV<|aV (i:=2) O,(G.lo _<|aV (i:=2) O).2⟩
 .exact⟨G.yV<|aV (i:=0) O,(G.lo _<|aV (i:=0) O).2⟩
 .exact⟨G.yV<|aV (i:=3) O,(G.lo _<|aV (i:=3) O).2⟩
 .exact⟨G.yV<|aV (i:=6) O,(G.lo _<|aV (i:=6) O).2⟩
def Bd.name(hB:Bd ra A hx)(G:SH S H0 H<|hx++L)(hn:A.nr<=1000):∃v,H.cell ra 0=Z v/\∀{Kp:D->D->D->R->Prop},(∀w v' ai Q M',Bd ra (A.ru nm) M'->SH (hx.map (·.1)) H Q M'->Kp w v' ai Q)->
 ME (bS 9 [aJ ⟨#[]⟩] 1 1 [(0,aJ nm)] H) λw H1=>ME (Bo 9 1 v w H1) λY H2=>ME (Es 1 (pr ra) Y H2) λai H3=>Kp w Y ai H3:=by
 have G:=SH.own G;obtain⟨U,X,W,V,ev,x,gn,gs,gp,go,ge,az,rfl,E,M,Un,I,y,hR⟩:=hB;refine⟨U,(G.get 0 O).cell O,λ{Kp} kk=>?_⟩;refine E.push (G.perm<|jw [_] gn _) N O O O O O N (by rw[aK];unfold At.nr at hn;omega) λw v' H1 p m G=>?_;have G:=G.perm<|jw p [(ra,27,[U,X,W,V,ev,B A.ty])] _;obtain⟨ab,ac,rfl⟩:=m.Va;refine G.st 0 O O (by show 0+1<=6;omega) rfl λH2 G=>?_;refine kk _ _ _ H2 _ ⟨_,X,W,V,ev,x,p,gs,gp,go,ge,az,O,?_,M,Un,I,y,hR⟩ G;have:(A.ru nm).nm.map aJ=A.nm.map aJ++bY (aJ nm):=by show(A.nm++[nm]).map aJ=_;simp;rfl
 rw[this];exact m
end
section
open Go.Ae Go.Ae.hx Go.Proofs.Lv
variable{S:C Nat}
def _root_.Go.Ae.GB.same(h:GB ty es v f gb):qA v v=F:=by
 rcases h with⟨rfl,_⟩|⟨r,n,m,rfl,_⟩
 .exact qQ _ _ _ λx h=>by cases h
 .exact qQ _ _ _ λx h=>by cases h;rfl
def RY.put{a:Nat}{Kp:D->R->Prop}(h:RY K d S H0 H hx L A)(m:A.cur a)(p:A.cur e.2.2)(w:At.EdL d.lw A.ty e)(ht:A.tot<=1000000)(kk:∀v Q M' A',RY K d S H0 Q M' L A'->At.Gw A A' 0 1->Kp v Q):qh Pg X (Ou d.pv) [B a,dP ⟨[B e.1,B e.2.1,B e.2.2]⟩] H Kp:=by
 show bQ Pg X 153 [B a,_,pr d.ra] H Kp;refine dD (Ru (e:=e) h.bd h.sh m.1 h.bu.Be ht) ?_;rintro v Q ⟨M',I,W⟩;exact kk v Q M' _ (h.step I W (At.Gw.pu h.bu.Be m.1 _)<|h.bu.puC m p w)<|At.Gw.pu h.bu.Be m.1 _
structure RZ(K:Nat->Prop)(d:WD)(S:C Nat)(H0 H:R)(hx L:C eB)(A:At):Prop where
 we:WE K d H
 nk:∀r∈hx.map (·.1),¬K r
 bd:Bd d.ra A hx
 sh:SH S H0 H (hx++L)
 bs:At.Bs' d.lw A
 ty:A.ty=d.tn
 few:A.nr<=120
 tt:A.tot<=2*A.ns
def RZ.ext{H1:R}{L':C eB}(h:RZ K d S H0 H hx L A)(M:Ext H H1)(G:SH S H0 H1<|hx++L'):RZ K d S H0 H1 hx L' A:=⟨h.we.stay M<|nofun,h.nk,h.bd,G,h.bs,h.ty,h.few,h.tt⟩
def RZ.nks(h:RZ K d S H0 H hx L A)(G:SH (hx.map (·.1)) H Q M'):∀r∈M'.map (·.1),¬K r:=λr w m=>by
 obtain⟨e,p,rfl⟩:=bP.1 w;rcases(G.lo e p).1 with I|I
 .exact h.nk _ I m
 .have:=h.we.hK _ m;omega
theorem RY.ends{a:Nat}(h:RY K d S H0 H hx L A)(hl:J A.st<=1000)(bf:J A.sp<=1000){aj:Array Oper}{Kp:D->R->D->R->D->R->D->R->D->R->D->R->D->R->D->R->Prop}(hO:aj=opsOf (sub EC [1,1,1,1,1,0,1,0,0,1,1,0,0,1,1,1,1,0]))(kk:∀v1 E v2 M v3 V v4 m v5 p v6 y v7 U v8 H48 M',RY K d S H0 (hM (hM (hM (hM (hM (hM (hM (hM H E) M) V) m) p) y) U) H48) M' L (A.se a b)->Kp v1 E v2 M v3 V v4 m v5 p v6 y v7 U v8 H48):
 ME (wR T (bG<|Z ⟨d.ra,1,T⟩)<|hN H) λao E=>
 ME (bS 3 [bq bC 0] 1 1 [(0,B a)]<|hN<|hM H E) λap M=>
 ME (Bo 3 1 ao ap<|hN<|hM (hM H E) M) λad V=>
 ME (wR T (bG<|Z ⟨d.ra,2,T⟩)<|hN<|hM (hM (hM H E) M) V) λaq m=>
 ME (bS 3 [bq bC 0] 1 1 [(0,B b)]<|hN<|hM (hM (hM (hM H E) M) V) m) λar p=>
 ME (Bo 3 1 aq ar<|hN<|hM (hM (hM (hM (hM H E) M) V) m) p) λal y=>
 ME (Es 1 (bG<|Z ⟨d.ra,1,T⟩) ad<|hN<|hM (hM (hM (hM (hM (hM H E) M) V) m) p) y) λbc U=>
 ME (Es 1 (bG<|Z ⟨d.ra,2,T⟩) al<|hN<|hM (hM (hM (hM (hM (hM (hM H E) M) V) m) p) y) U) λbe H48=>
 kZ aj [clS (bG<|Z ⟨d.ra,2,T⟩) al (hM (hM (hM (hM (hM (hM (hM H E) M) V) m) p) y) U) H48,cl 0,clS (bG<|Z ⟨d.ra,1,T⟩) ad (hM (hM (hM (hM (hM (hM H E) M) V) m) p) y) U,cl 0,Df (hM (hM (hM (hM (hM H E) M) V) m) p) y,N_ (hM (hM (hM (hM H E) M) V) m) p,cl 0,clL 1 (bG<|Z ⟨d.ra,2,T⟩) (hM (hM (hM H E) M) V) m,cl 0,Df (hM (hM H E) M) V,N_ (hM H E) M,cl 0,clL 1 (bG<|Z ⟨d.ra,1,T⟩) H E,cl 0]=F/\Kp ao E ap M ad V aq m ar p al y bc U be H48:=by
 subst hO;have a0:=SH.own h.sh;obtain⟨Y,sv,pv,ov,ev,aE,X,gs,gp,go,ge,az,rfl,a8,an,Un,a9,a7,hR⟩:=id h.bd
 have G:=a0.perm (L':=(d.ra,27,[Y,sv,pv,ov,ev,B A.ty])::(gs++(gp++(X++(go++(ge++az)))))) (by
  have p1:=jw X gs<|gp++(go++(ge++az));have p2:=jw X gp<|go++(ge++az);exact(p1.trans<|gZ gs p2).cons _)
 apply G.VI;simp only[iT G.wf];refine G.Tq O O O N λH1 rx G uX=>?_;have a1:=G.get 1 O;have G:=(G.to (cs':=[B a]) O).perm<|(jw [_] gs _).cons _;refine an.Jp G N O O (by rw[aK];omega) λv' H2 x ab G _ _ a5=>?_;have G:=G.perm<|jw x [_] _;simp only[bV,bZ]at G;have a3:=(G.get 0 O).iE (Q:=H2) O;generalize hz1:hM (hM H H1) H2=Z1 at G|-;have bb:=G.wf;apply G.VI;simp only[iT G.wf];refine G.Tq O O O N λH3 ry G xF=>?_;have a2:=G.get 1 O
 have G:=(G.to (cs':=[B b]) O).perm (L':=(ry,3,[B b])::(gp++((d.ra,27,[Y,sv,pv,ov,ev,B A.ty])::(x++(X++(go++(ge++az))))))) (by
  have:=jw ((d.ra,27,[Y,sv,pv,ov,ev,B A.ty])::x) gp<|X++(go++(ge++az));exact this.cons _)
 refine Un.Jp G N O O (by rw[aK];omega) λw' H4 W am G _ _ a6=>?_;have G:=G.perm<|jO;have a4:=(G.get 0 O).iE (Q:=H4) O;obtain⟨va,vc,rfl⟩:=ab.Va;obtain⟨wa,wc,rfl⟩:=am.Va;refine G.n_ λH5 G=>?_;have G:=G.to (cs':=[Y,u va (J<|gq A.st++[B a]) vc,pv,ov,ev,B A.ty]) O;refine G.n_ λH6 G=>?_;have G:=G.to (cs':=[Y,u va (J<|gq A.st++[B a]) vc,u wa (J<|gq A.sp++[B b]) wc,ov,ev,B A.ty]) O;refine(show∀K:Prop,K->_/\K fromλKz hK=>?_) _ ?_
 .have sm:∀{o},(o=1\/o=2)->∀v∈(([Y,sv,pv,ov,ev,B A.ty]:C D).drop o).take 1,qA v v=F:=λho v hv=>by
   rcases ho with rfl|rfl
   .have hv:v∈[sv]:=hv;rw[aT]at hv;subst hv;exact an.same
   .have hv:v∈[pv]:=hv;rw[aT]at hv;subst hv;exact Un.same
  have rd:∀{o},(o=1\/o=2)->∀w:Cl,((w.a=hM H H1/\w.b=H2)\/(w.a=hM Z1 H3/\w.b=H4))->oQ w ⟨4,d.ra,o,1,hh0,hh0⟩=F:=λ{o} ho w hw=>by
   have ac:o+1<=6:=N;unfold oQ;rcases hw with hw|hw
   .rw[hw.1,hw.2];exact Cr (a1.read ac) (a3.read ac)<|Ar<|sm ho
   .rw[hw.1,hw.2];exact Cr (a2.read ac) (a4.read ac)<|Ar<|sm ho
  have r1:=rd<|.inl O;have r2:=rd<|.inr O;simp only[uX,xF,fu,gT];generalize d.ra=ra at r1 r2|-;rcases a5 with e|e<;>rw[e]<;>rcases a6 with e|e<;>rw[e]<;>apply agb (a:=ra) (au:=λw=>(w.a=hM H H1/\w.b=H2)\/(w.a=hM Z1 H3/\w.b=H4)) (by rfl) fT fT hK<;>repeat' apply iZ
  all_goals first|exact trivial|(intro h;cases h;done)|exactλ_=>.inl ⟨rfl,rfl⟩|exactλ_=>.inr ⟨rfl,rfl⟩|exactλ_=>r1|exactλ_=>r2
 have G:=G.perm (L':=(d.ra,27,[Y,u va (J<|gq A.st++[B a]) vc,u wa (J<|gq A.sp++[B b]) wc,ov,ev,B A.ty])::(X++(x++(W++(go++(ge++az)))))) (by
  refine eX _ ?_;have p1:=jw (W++x) X<|go++(ge++az);have p2:=jw W x<|go++(ge++az);simp only[cz]at p1;exact p1.trans<|gZ X p2)
 have hB:Bd d.ra (A.se a b) ((d.ra,27,[Y,u va (J<|gq A.st++[B a]) vc,u wa (J<|gq A.sp++[B b]) wc,ov,ev,B A.ty])::(X++(x++(W++(go++(ge++az)))))):=⟨Y,_,_,ov,ev,aE,X,x,W,go,ge,az,O,a8,by
  have:gq (A.se a b).st=gq A.st++bY (B a):=by show gq (A.st++[a])=_;simp;rfl
  rw[this];exact ab,by
  have:gq (A.se a b).sp=gq A.sp++bY (B b):=by show gq (A.sp++[b])=_;simp;rfl
  rw[this];exact am,a9,a7,hR⟩
 have ba:∀{M':C eB}{Q:R},SH ((((d.ra,27,[Y,sv,pv,ov,ev,B A.ty])::(X++(gs++(gp++(go++(ge++az))))):C eB).map (·.1))) H Q M'->∀r∈M'.map (·.1),¬K r:=λG r hr hk=>by
  obtain⟨e,he,rfl⟩:=bP.1 hr;rcases(G.lo e he).1 with I|I
  .exact h.nk _ I hk
  .have:=h.we.hK _ hk;omega
 have hY:RY K d S H0 _ ((d.ra,27,[Y,u va (J<|gq A.st++[B a]) vc,u wa (J<|gq A.sp++[B b]) wc,ov,ev,B A.ty])::(X++(x++(W++(go++(ge++az)))))) L (A.se a b):=⟨h.we.stay G.ext h.nk,ba G,hB,SH.frame h.sh G,⟨h.bu.Be,h.bu.o,h.bu.e⟩,h.ty,h.pos,h.few⟩;refine kk _ _ _ _ _ _ _ _ _ _ _ _ _ _ _ _ ((d.ra,27,[Y,u va (J<|gq A.st++[B a]) vc,u wa (J<|gq A.sp++[B b]) wc,ov,ev,B A.ty])::(X++(x++(W++(go++(ge++az)))))) ?_;rw[iT h.sh.wf,hz1,iT bb];exact hY
end
section
open Go.Ae Go.Ae.hx Go.Proofs.Lv
variable{S:C Nat}
def _root_.Go.Ae.jJ.within{ay:Nat->Prop}{n:Nat}(h:jJ ay ty H a n es f)(m:∀r,r<H.bU->F' r):jJ F' ty H a n es f:=⟨h.1,λr o e p=>let⟨_,W,h3⟩:=h.2 r o e p;⟨m r W,W,h3⟩⟩
def YD.within{ay:Nat->Prop}(h:YD ay H nn jA kd zs)(m:∀r,r<H.bU->F' r):YD F' H nn jA kd zs:=λi p=>let⟨a,c,t,xa,xn,xc,at',I,W,h3⟩:=h i p;⟨a,c,t,xa,xn,xc,at',I,W.within m,h3⟩
def YD.ex{ay:Nat->Prop}(h:YD ay H nn jA kd zs)(M:Ext H Q):YD ay Q nn jA kd zs:=λi m=>let⟨a,c,t,xa,xn,xc,at',I,W,h3⟩:=h i m;⟨a,c,t,xa,xn,xc,at',I,W.ex M,h3⟩
def _root_.Go.Ae.Bk.UO{ay:Nat->Prop}{n:Nat}(h:Bk H r ty f)(m:r<H.bU)(w:J f=n*es)(p:ay r):jJ ay ty H (Z ⟨r,0,T⟩) n es f:=⟨h.fl m w,λx o e _=>by cases e;exact⟨p,m,h.Gb⟩⟩
def GI(rcs:C D)(ws:C Nat):Nat->Nat
 |0=>0
 |i+1=>GI rcs ws i+(if IA rcs i=F then 0 else 2+h2 ws (rootOf rcs i).toNat)
def aaw(rcs:C D)(ws:C Nat)(h:i<=j):GI rcs ws i<=GI rcs ws j:=by
 induction j with
 |zero=>obtain rfl:i=0:=N
        exact ax _
 |succ j m=>
  rcases dH i (j+1)with I|I
  .have:=m N;show _<=GI rcs ws j+_;omega
  .obtain rfl:i=j+1:=N;exact ax _
def Bd.atC(hB:Bd ra A<|(ra,27,f)::hx)(G:SH [] H Q<|hx++L)(ho:A.Ok):∃q:AV,f=q.cells A/\vI (H.bU<=·) Q A q:=by
 have⟨nv,sv,pv,ov,ev,evs,gn,gs,gp,go,ge,az,e,hgn,hgs,Un,hgo,hge,hR⟩:=hB;obtain⟨E,rfl⟩:=kP e;cases E;have ab:J evs=A.ns:=by rw[<-hR.len,aK,ho.Be]
 have B:=G.cast (L':=gn++(gs++(gp++(go++(ge++(az++L)))))) gD;have m:=fU B;have p:=fU m;have w:=fU p;have x:=fU w;have y:=fU x;obtain⟨na,n1,nc,rfl,l1,U⟩:=hgn.UO B;obtain⟨sa,n2,sc,rfl,l2,V⟩:=hgs.UO m;obtain⟨pa,n3,pc,rfl,l3,W⟩:=Un.UO p;obtain⟨oa,n4,oc,rfl,l4,X⟩:=hgo.UO w;obtain⟨I,n5,M,rfl,l5,Y⟩:=hge.UO x;obtain rfl:n1=A.nr:=by rw[aK]at l1;unfold At.nr;omega
 obtain rfl:n2=A.nr:=by rw[aK,ho.YF]at l2;omega
 obtain rfl:n3=A.nr:=by rw[aK,ho.YH]at l3;omega
 obtain rfl:n4=A.ns:=by rw[aK]at l4;unfold At.ns;omega
 obtain rfl:n5=A.ns:=N;refine⟨⟨na,sa,pa,oa,I,nc,sc,pc,oc,M⟩,O,U,V,W,X,evs,Y,λi hi=>?_⟩;have⟨a,n,c,g1,g2,g3⟩:=hR.all y i N
 have hE:(A.eg.map Bt)[i]?.getD []=Bt (A.rg i):=by
  unfold At.rg;rw[bK,av (show i<J A.eg by rw[ho.Be];exact hi)];rfl
 rw[hE]at g2 g3;rw[Lj]at g2;obtain rfl:n=J (A.rg i):=N;refine⟨a,c,by rw[av (show i<J evs by omega),g1],g3.wk λr hr=>?_⟩;obtain⟨e,he,rfl⟩:=bP.1 hr;exact y.yV<|dK _ he
theorem Bd.atM(m:Bd ra A hx)(G:SH [] H Q<|hx++L)(ho:A.Ok):∃q:AV,Q.read ra 0 6=Z (q.cells A)/\vI (H.bU<=·) Q A q:=by
 obtain⟨B,N,M,E,ev,p,w,y,x,go,ge,az,rfl,g⟩:=id m;have⟨q,I,W⟩:=m.atC (fU (A:=[_]) G) ho;exact⟨q,by rw[<-I];exact(G.get 0 O).read (o:=0) (n:=6)<|ax 6,W⟩
end
section
open Go.Ae Go.Ae.hx Go.Proofs.Lv
variable{S:C Nat}
abbrev adW(tn:Nat)(H:R)(v:D)(Q:R):Prop:=∃(A:At)(q:AV),v=q.v A/\vI (H.bU<=·) Q A q/\A.Ok/\A.ty=tn/\A.tot<=2*A.ns
theorem agF{rz y E:Nat}{ra:aC Addr}{rn:Nat}{x2 x3 vH:D}(hG:Gr b H ra rn rcs na nn jA)(hR:∀i,i<rn->0<=rootOf rcs i/\rootOf rcs i<nn)(a6:IA rcs 0=aA)(a2:1<=rn)(hQ:WQ d)(hd:d.nn=nn/\d.tn=tn/\d.lw=AY rcs rn)(a5:GI rcs d.ws rn<=4000)(p:RZ K d [] H H1 hx [(rz,27,[u T 0 0,u T 0 0,u T 0 0,u T 0 0,u T 0 0,vi 0]),(y,180,[u va tn vc]),(E,171,[u ra rn rc,u na nn nc])] A)(hA:A.nr=0/\A.ns=0):
 iG Pg X (.loop<|sub EC [1,1,1,1,1,0,1,0,0]) (Q5 (gV ra rn rc na nn nc) (vV va tn vc) x2 x3 (pr E) (pr y) (pr rz) (pr d.ra) d.fv d.pv d.wv vH mM rP (u ra rn rc) (B rn) (B 0) oW H1) (uB 0<|uW Pg X (sub EC [1,1,1,1,1,1])<|jZ Pg [.cell 8 27]<|Q1 (adW tn H) H):=by
 have M:=hG.2.1;refine PO 14 15 16 31 (h1:=λm vH mM rP al Q=>∃i A hx,al=B i/\i+m=rn/\RZ K d [] H Q hx [(rz,27,[u T 0 0,u T 0 0,u T 0 0,u T 0 0,u T 0 0,vi 0]),(y,180,[u va tn vc]),(E,171,[u ra rn rc,u na nn nc])] A/\A.nr=AY rcs i/\A.ns=GI rcs d.ws i) ?_ rn ⟨0,A,hx,rfl,N,p,hA.1,hA.2⟩;clear p hA;rintro m vH mM rP al oW H2 ⟨i,A,hx,rfl,bh,p,ar,bl⟩;refine lX (λhc=>?_) λhc=>?_
 .obtain rfl:i=rn:=N;have bi:=JE rcs a2;have ac:AY rcs 1=1:=by show 0+(if IA rcs 0=F then 0 else 1)=1;rw[a6];rfl
  have tt:=p.tt;have ok:A.Ok:=p.bs.ok (by rw[ar,hd.2.2]) N (by have:=p.few;omega) N N;refine tl ?_;have⟨q0,hr0,_⟩:=p.bd.atM p.sh ok;refine ME.uL hr0 ?_;have G:=p.sh.perm<|aI (l₁:=hx);refine G.st 0 O O (ax 6) O λH3 G=>?_;have G:SH [] H H3 ((rz,27,q0.cells A)::(y,180,[u va tn vc])::(E,171,[u ra i rc,u na nn nc])::hx):=G;have ab:=G.perm (L':=hx++[(rz,27,q0.cells A),(y,180,[u va tn vc]),(E,171,[u ra i rc,u na nn nc])])<|aI (l₁:=[_,_,_]);have⟨q1,hr1,hat⟩:=p.bd.atM ab ok
  have eq:q1.cells A=q0.cells A:=by
   obtain⟨f,hm,h6⟩:∃f,((d.ra,27,f):eB)∈hx/\J f=6:=by
    obtain⟨nv,sv,pv,ov,ev,be,gn,gs,gp,go,ge,az,rfl,_⟩:=p.bd;exact⟨_,aL ..,O⟩
   have a0:=(p.sh.bk _<|dK _ hm).read (o:=0) (n:=6) (by show 0+6<=J f;omega);have U:=(ab.bk _<|dK _ hm).read (o:=0) (n:=6) (by show 0+6<=J f;omega);have b0:=a0.symm.trans hr0;have b1:=U.symm.trans hr1;exact eF<|b1.symm.trans b0
  refine rr ?_;refine G.uL 0 O (ax 6) ?_;rw[<-eq];exact⟨⟨A,q1,O,hat,ok,p.ty.trans hd.2.1,tt⟩,G.ext⟩
 have hi:i<rn:=N;have⟨r1,o1,zY,u1,f1,w1,c1,U,e1,ac,Br,uX,hsz,hel⟩:=hG.ru hi rc;have ad:=hR i hi;rw[e1];refine bM ?_;refine p.sh.BU Br ac<|(h_ p.sh.wf).oV O O O λH3 ru V a7=>?_;have V:SH [] H2 H3 [(ru,234,yw zY u1 f1 w1 c1 (rootOf rcs i) U)]:=V
 have wD:=(SH.frame (hx:=[]) p.sh V).perm (L':=hx++([(rz,27,[u T 0 0,u T 0 0,u T 0 0,u T 0 0,u T 0 0,vi 0]),(y,180,[u va tn vc]),(E,171,[u ra rn rc,u na nn nc])]++[(ru,234,yw zY u1 f1 w1 c1 (rootOf rcs i) U)])) (by
  rw[<-cz];exact aI (l₁:=[_]))
 have p:=p.ext a7 wD;have x:AY rcs (i+1)=AY rcs i+(if IA rcs i=F then 0 else 1):=rfl;have UR:GI rcs d.ws (i+1)=GI rcs d.ws i+(if IA rcs i=F then 0 else 2+h2 d.ws (rootOf rcs i).toNat):=rfl;rw[Lh hel]at x UR;have bj:=aaw rcs d.ws (show i+1<=rn by omega);have a9:=JE rcs (show i+1<=rn by omega);have a8:=Ri rcs rn;have W:∀{Q M'}(_:SH [] H Q<|M'++([(rz,27,[u T 0 0,u T 0 0,u T 0 0,u T 0 0,u T 0 0,vi 0]),(y,180,[u va tn vc]),(E,171,[u ra rn rc,u na nn nc])]++[(ru,234,yw zY u1 f1 w1 c1 (rootOf rcs i) U)])),Bk Q ru 234 (yw zY u1 f1 w1 c1 (rootOf rcs i) U):=λ{Q M'} G=>G.bk _<|dL _<|dL _<|aL ..
 have I:∀{Q M'}(_:SH [] H Q<|M'++([(rz,27,[u T 0 0,u T 0 0,u T 0 0,u T 0 0,u T 0 0,vi 0]),(y,180,[u va tn vc]),(E,171,[u ra rn rc,u na nn nc])]++[(ru,234,yw zY u1 f1 w1 c1 (rootOf rcs i) U)])),SH [] H Q (M'++[(rz,27,[u T 0 0,u T 0 0,u T 0 0,u T 0 0,u T 0 0,vi 0]),(y,180,[u va tn vc]),(E,171,[u ra rn rc,u na nn nc])]):=λ{Q M'} G=>G.sub<|List.Sublist.append_left (fC _ _) M';refine bM ?_;refine iY ((W p.sh).cell (o:=1) O) ?_;refine sD (λhb=>?_) λhb=>?_
 .rw[if_pos hb]at x UR;refine eG ?_;exact⟨rn-(i+1),N,_,_,_,_,_,_,O,i+1,A,hx,pJ,N,p.ext (Ext.refl _)<|I p.sh,N,N⟩
 rw[if_neg (by rw[hb];simp)]at x UR;have JF:=p.few;have ba:=p.tt;have⟨v0,hv0,hname⟩:=p.bd.name (nm:=zY) p.sh N;refine iY hv0<|iY ((W p.sh).cell (o:=0) O)<|hname λw v' ai H4 M4 ap xM=>?_;have am:(A.ru zY).nr=A.nr+1:=by show J (A.nm++[zY])=_;rw[aS];rfl
 have hY:RY K d [] H H4 M4 _ (A.ru zY):=⟨p.we.stay xM.ext p.nk,p.nks xM,ap,SH.frame p.sh xM,p.bs.bu.ru zY,p.ty,N,N⟩;have aE:(A.ru zY).ns=A.ns:=rfl;have bc:(A.ru zY).tot=A.tot:=rfl;refine hY.fresh N λH5 M5 A1 hY Y f=>?_;have n1:=Y.ns;have t1:=Y.tt;refine hY.fresh N λH6 M6 A2 hY M cp=>?_;have n2:=M.ns;have t2:=M.tt;have f:=f.gw M;have a4:A2.st=A.st:=by rw[M.st,Y.st];rfl
 have a3:A2.sp=A.sp:=by rw[M.sp,Y.sp];rfl
 refine hY.ends (by rw[a4,p.bs.YF];omega) (by rw[a3,p.bs.YH];omega) rfl λu1 e1 u2 e2 u3 e3 u4 e4 u5 e5 u6 e6 u7 e7 u8 e8 M7 hY=>?_;generalize hM (hM (hM (hM (hM (hM (hM (hM H6 e1) e2) e3) e4) e5) e6) e7) e8=H7 at hY|-;have n3:(A2.se (A.ru zY).ns A1.ns).ns=A2.ns:=rfl;have t3:(A2.se (A.ru zY).ns A1.ns).tot=A2.tot:=rfl;obtain⟨k,hk⟩:∃k:Nat,rootOf rcs i=k:=⟨(rootOf rcs i).toNat,N⟩;have aq:k<d.nn:=N;have bf:h2 d.ws (rootOf rcs i).toNat=h2 d.ws k:=by rw[hk];rfl
 refine iY ((W hY.sh).cell (o:=5) O) ?_;rw[hk];refine hY.way (ajN hQ k aq) N N (show(A2.se (A.ru zY).ns A1.ns).cur _ from f) λto H8 M8 A4 c hY g4 bg ao=>?_;have n4:=g4.ns;have t4:=g4.tt;refine PU.b3 O ?_;have an:A4.cur A1.ns:=At.cur.gw (A:=A2.se (A.ru zY).ns A1.ns) cp g4;refine hY.put (e:=(0,0,A1.ns)) ao an (ajK ..) N λv9 H9 M9 A5 hY g5=>?_;have n5:=g5.ns;have t5:=g5.tt;refine eG ?_;have bb:A5.nr=A.nr+1:=by rw[g5.nr,g4.nr];show A2.nr=_;rw[M.nr,Y.nr,am]
 exact⟨rn-(i+1),N,_,_,_,_,_,_,O,i+1,A5,M9,pJ,N,⟨hY.we,hY.nk,hY.bd,I hY.sh,p.bs.bU (Y.trans M) f cp (g4.trans g5) hY.bu,hY.ty,N,N⟩,N,N⟩
end
section
open Go.Ae Go.Ae.hx Go.Proofs.Lv
variable{ay:Nat->Prop}{S:C Nat}
def Bd.nil(ra tn:Nat):Bd ra ⟨[],[],[],[],[],tn⟩ [(ra,27,[u T 0 0,u T 0 0,u T 0 0,u T 0 0,u T 0 0,B tn])]:=
 ⟨_,_,_,_,_,[],[],[],[],[],[],[],rfl,.inl ⟨rfl,rfl,rfl⟩,.inl ⟨rfl,rfl,rfl⟩,.inl ⟨rfl,rfl,rfl⟩,.inl ⟨rfl,rfl,rfl⟩,.inl ⟨rfl,rfl,rfl⟩,rfl⟩
theorem WC(hw:Wf H){rl rs:Nat}{ra:aC Addr}{rn:Nat}{m:C D}(hG:Gr b H ra rn rcs na nn jA)(ab:YD ay H nn jA kd zs)(hR:∀i,i<rn->0<=rootOf rcs i/\rootOf rcs i<nn)(an:IA rcs 0=aA)(al:1<=rn)(hl:Bk H rl 121 m/\rl<H.bU/\J m=nn*3)(ac:∀i,i<nn->yo tn (AY rcs rn) (El m 3 i))(hs:Bk H rs 3 (gq ws)/\rs<H.bU/\J ws=nn)(am:∀j,j<nn->IC kd zs ws j)(U:GI rcs ws rn<=4000):
 bQ Pg X 125 [gV ra rn rc na nn nc,vV va tn vc,u (Z ⟨rl,0,T⟩) nn nn,u (Z ⟨rs,0,T⟩) nn nn] H (Q1 (adW tn H) H):=by
 have G:=h_ hw;refine lq [0,1,2,3,4,5,8,9,10,11,12,14,15,16,29,30,31] ?_;refine G.box O λH1 E G=>?_;refine G.box O λH2 rv G=>?_;refine G.jP λH3 rz G=>?_;refine fJ ?_;refine G.cm (Wm G.wf) ?_;rintro v H4 rfl M G;refine fJ ?_;refine G.jP λH5 rb G=>G.kE λHn G=>?_;apply G.jC;have hb:=iZ (G.yV<|aV (i:=0) O) (G.lo _<|aV (i:=0) O).2;refine dD (aav G.wf ⟨_,_,_,O⟩ ⟨_,_,_,O⟩) ?_;rintro v I ⟨g,s,w,V,W,lo,p,l,rfl,ao,ad,c1,c2,c3,c4,c5,c6,c7,c8⟩;have G:=G.call ao;have M:=G.ext
 have x:∀r∈[g,s,w,V,W,lo,p,l],r<I.bU/\r≠rb:=λr y=>by
  have:=ad r y;exact⟨this.2,N⟩
 have Y:∀r,r<H.bU->r<I.bU/\r≠rb:=λr y=>⟨by have:=M.bU;omega,N⟩
 have hW:WE (λr=>r<I.bU/\r≠rb) ⟨g,s,w,V,W,lo,p,l,rb,na,nc,nn,rs,rl,jA,m,ws,kd,zs,tn,AY rcs rn⟩ I:=
  ⟨λr y=>y.1,⟨x g gD,c1⟩,⟨x s gD,c2⟩,⟨x w gD,c3⟩,⟨x V gD,c4⟩,⟨x W gD,c5⟩,⟨x lo gD,c6⟩,⟨x p gD,c7⟩,⟨x l gD,c8⟩,
   (hG.2.2.2.1.within Y).ex M,(ab.within Y).ex M,((hs.1.UO hs.2.1 (by rw[dN,aK];exact hs.2.2)<|Y _ hs.2.1)).ex M,(hl.1.UO hl.2.1 hl.2.2<|Y _ hl.2.1).ex M⟩
 refine fJ ?_;refine agF (d:=⟨g,s,w,V,W,lo,p,l,rb,na,nc,nn,rs,rl,jA,m,ws,kd,zs,tn,AY rcs rn⟩) (K:=λr=>r<I.bU/\r≠rb) (A:=⟨[],[],[],[],[],tn⟩) (hx:=[(rb,27,[u T 0 0,u T 0 0,u T 0 0,u T 0 0,u T 0 0,B tn])]) hG hR an al ⟨hG.2.2.2.2.1,am,ac⟩ ⟨O,O,O⟩ U ⟨hW,λr y hk=>?_,Bd.nil rb tn,G,?_,rfl,bD _,bD _⟩ ⟨rfl,rfl⟩
 .obtain rfl:r=rb:=aT.1 y;exact hk.2 O
 .exact⟨⟨O,λs h=>absurd h<|iP _,λs h=>absurd h<|iP _⟩,rfl,rfl,λs h=>absurd h<|iP _,λs h=>absurd h<|iP _⟩
end
end Go.Proofs.Lu
