/-
  Part 10 of the proof. No condition.
-/
import Derived.Test.YtpngmpbmokhmiaaGreatDoorZ09
set_option linter.unusedVariables false
set_option linter.unusedSimpArgs false
set_option maxRecDepth 100000
set_option maxHeartbeats 4000000
set_option linter.defProp false
open Option renaming some->D,none->Q,rec->aM
open Bool renaming true->f,false->aC
open Go renaming Value->Z,TypeId->aH
open Go.Value renaming int->bX,slice->I,bool->gI,string->fT
open List renaming replicate->aX,range->f_,length->gB
open And renaming intro->ik
open List.Perm renaming cons->dS
noncomputable section
namespace Go.Proofs.Lv
open Go.Proofs.Lu
open Go.Ae Go.Ae.cs
variable{ag:Nat->Ed->Prop}{au:Nat->Prop}{l mk mk':C Bool}{nx':C Nat}{A:At}{q:AV}{K K':Z->R->Prop}{L L' cs:C dL}{H H0:R}{b c es r re s:Nat}{v:Z}{vs z:C Z}
section
variable{S:C Nat}{SH:Nat->Prop}{n:Nat}{P:Nat->Prop}{nx:C Nat}
def Ux{rs:C ResultVar}(h:∀v H,K v H->K' v H):∀o,jL Pg rs K o->jL Pg rs K' o:=by
 have key:∀s:St,(s.df=[]/\@aM (C Z) (λ_=>Prop) False (λvs=>K (sN vs) s.H) (lD Pg s rs))->(s.df=[]/\@aM (C Z) (λ_=>Prop) False (λvs=>K' (sN vs) s.H) (lD Pg s rs)):=by
  rintro s ⟨W,J⟩;refine⟨W,?_⟩;cases ha:lD Pg s rs with
  |none=>rw[ha]at J;exact J
  |some vs=>rw[ha]at J;exact h _ _ J
 intro o ho;cases o with
 |norm s=>exact key s ho
 |ret s=>exact key s ho
 |fail=>exact ho
 |exit i s=>exact ho
 |goto l s=>exact ho
def JL.bk{ok:Ed->Prop}{key:Ed->Nat}{az:C dL}(h:JL ok key A ag c n vs az)(hc:c<=1000000)(G:F S H0 H<|az++L)(y:Bk H r 207 vs)(hl:r<H.next):
 BkM (λt l=>(∀p∈l,p.2∈A.hx p.1/\key p.2=t/\ok p.2)/\∀s e,ag s e->ok e->key e=t->(s,e)∈l) H n (D ⟨r,0,Q⟩):=by
 have⟨b,W,J,h3⟩:=h;have hvl:vs.length=n:=by rw[<-h3.len,aK,J]
 refine⟨vs,⟨y.fl hl N,λr' o e _=>by cases e;exact⟨trivial,hl,y.Jc⟩⟩,λt ht=>?_⟩;have⟨a,m,c',e1,e2,hf⟩:=h3.all G t N;obtain⟨l,hl⟩:∃l,b[t]?=D l:=⟨_,av N⟩;rw[bF,hl]at e2 hf;have e2:(Sl l).length=m*4:=e2;rw[Pj]at e2;obtain rfl:m=l.length:=N;have:=W.len l<|aS hl;exact⟨a,c',l,by rw[av N,e1],hf.wk λ_ _=>trivial,⟨W.snd t l hl,λs e hd hk hkey=>W.cpl s e l hd hk (by rw[hkey];exact hl)⟩,N⟩
abbrev Jn:Ed->Nat:=λe=>e.2.2
abbrev Lp:Ed->Nat:=λe=>e.2.1
abbrev okC:Ed->Prop:=λe=>e.1=2
theorem aeL{tok:Bool}{e:Ed}{dc di u ic cc:Nat}{MK L5:C Z}{RI RC:C dL}{H1:R}(hc:c<=1000000)(ho:A.Ok)(he:e∈A.hx s)(hok:At.Wu tok e)(hI:JL (At.Wu tok) Jn A ag c A.ns MK RI)(hC:JL okC Lp A ag c A.nr L5 RC)(G:F [] H H1<|(re,121,[B e.1,B e.2.1,B e.2.2])::(dc,207,L5)::(di,207,MK)::(u,27,q.cells A)::(RI++RC)){K:Out->Prop}{x0 x1 x2 x4 x8 iJ kW jI lH pG wN uC xJ x30 x31 x32 Aq x38 x39 x88 x89 x90 x115 EO AQ x157 x158 x159:Z}{ni:C (Nat×Z)}(kk:∀Ls Lt Uy YD z_ T,JL (At.Wu tok) Jn A (λs' e'=>ag s' e'\/(s'=s/\e'=e)) (c+1) A.ns Ls Uy->JL okC Lp A (λs' e'=>ag s' e'\/(s'=s/\e'=e)) (c+1) A.nr Lt YD->F [] H T ((re,121,[B e.1,B e.2.1,B e.2.2])::(dc,207,Lt)::(di,207,Ls)::(u,27,q.cells A)::(Uy++YD))->
  K (.norm<|lK x0 x1 x2 x4 (I (D ⟨di,0,Q⟩) A.ns ic) (I (D ⟨dc,0,Q⟩) A.nr cc) (B s) x8 (pt re) iJ kW jI lH pG wN uC xJ x30 x31 x32 Aq x38 x39 x88 x89 x90 x115 EO AQ x157 x158 x159 z_ T)):
 gK Pg X (sub pF [1,1,1,0,1,0,0,1,1,0,0,1,1,0,0,1,1,0,0,1,1]) (lK x0 x1 x2 x4 (I (D ⟨di,0,Q⟩) A.ns ic) (I (D ⟨dc,0,Q⟩) A.nr cc) (B s) x8 (pt re) iJ kW jI lH pG wN uC xJ x30 x31 x32 Aq x38 x39 x88 x89 x90 x115 EO AQ x157 x158 x159 ni H1) K:=by
 have hs:=ho.lt he;have hto:Jn e<A.ns:=(ho.e s hs e he).1;have hvI:MK.length=A.ns:=let⟨b,_,J,h3⟩:=hI;by rw[<-h3.len,aK,J]
 have hvC:L5.length=A.nr:=let⟨b,_,J,h3⟩:=hC;by rw[<-h3.len,aK,J]
 refine tm ?_;obtain⟨v,hv,_⟩:∃v,MK[Jn e]?=D v/\True:=⟨_,av N,trivial⟩;refine G.Uw (k:=Jn e) hto hv<|eU ?_;refine G.PL O O O N λH2 rx G tq=>?_;have G:F [] H (hM H1 H2) ((rx,209,[B s,B e.1,B e.2.1,B e.2.2])::([(re,121,[B e.1,B e.2.1,B e.2.2]),(dc,207,L5),(di,207,MK),(u,27,q.cells A)]++(RI++RC))):=G;have hS0:=G;refine hI.put hc he hok hto hv G λva vl vc H3 Uy hI' G vT=>?_;simp only[bI,bN]at G;have hS1:=G;refine G.RO (k:=Jn e) hto N (kk:=λH4 G=>?_);have n1:re≠di:=G.nq 0 2 O O N;refine splitK (λK hK=>?_) ?_
 .have r1:∀{o n:Nat}{a b:R},o+n<=3->mY ⟨2,0,0,0,hM H1 H2,H3⟩ ⟨4,re,o,n,a,b⟩=f:=λh=>pP (hS0.get 1 O) ((hS1.get 0 O).jb O) h (Gf ⟨_,_,_,rfl⟩);have r2:∀{n:Nat}{a b:R},n=1->mY ⟨2,0,0,0,hM H1 H2,H3⟩ ⟨4,di,Jn e,n,a,b⟩=f:=λh=>pP (hS0.get 3 O) ((hS1.get 2 O).jb O) N λv hv=>hI.same v<|jK<|eX hv;simp only[tq,d_,fK];generalize hke:Jn e=ke at r2|-;rcases vT with e|e<;>rw[e]<;>apply JE (A:=hM H1 H2) (vn:=H3) (a:=re) (b:=di) n1 (by rfl) jr jr hK<;>repeat' apply ik
  all_goals first|exact trivial|(intro h;cases h;done)|exactλ_=>⟨rfl,rfl⟩|exactλ_=>r1 N|exactλ_=>r2 O
 refine X7 (λhk=>?_) λhk=>?_
 .exact kk _ L5 Uy RC _ _ hI' (hC.skip (s:=s) (e:=e) λh=>hk (by have:e.1=2:=h;omega)) G
 have hk2:okC e:=by show e.1=2;omega
 have hca:Lp e<A.nr:=ho.call he hk2;clear hS0 hS1 tq vT n1;generalize hM _ H4=Hz at G|-;refine eU ?_;obtain⟨v,hv,_⟩:∃v,L5[Lp e]?=D v/\True:=⟨_,av N,trivial⟩;refine G.Uw (k:=Lp e) hca hv<|eU ?_;refine G.PL O O O N λH5 ry G tq=>?_;have hS0:=G;have G:=(G.to (cs':=[B s,B e.1,B e.2.1,B e.2.2]) O).cast (L':=(ry,209,[B s,B e.1,B e.2.1,B e.2.2])::(([(re,121,[B e.1,B e.2.1,B e.2.2]),(dc,207,L5),(di,207,MK.set (Jn e)<|I va vl vc),(u,27,q.cells A)]++Uy)++(RC++[]))) kg;refine hC.put hc he hk2 hca hv G λvb vm vd H6 YD hC' G vT=>?_;simp only[bI,bN,bq]at G;have hS1:=G;refine G.RO (k:=Lp e) hca N (kk:=λH7 G=>?_);have n1:re≠dc:=G.nq 0 1 O O N;refine splitK (λK hK=>?_) ?_
 .have r1:∀{o n:Nat}{a b:R},o+n<=3->mY ⟨2,0,0,0,hM Hz H5,H6⟩ ⟨4,re,o,n,a,b⟩=f:=λh=>pP (hS0.get 1 O) ((hS1.get 0 O).jb O) h (Gf ⟨_,_,_,rfl⟩);have r2:∀{n:Nat}{a b:R},n=1->mY ⟨2,0,0,0,hM Hz H5,H6⟩ ⟨4,dc,Lp e,n,a,b⟩=f:=λh=>pP (hS0.get 2 O) ((hS1.get 1 O).jb O) N λv hv=>hC.same v<|jK<|eX hv;simp only[tq,d_,fK];generalize hke:Lp e=ke at r2|-;rcases vT with e|e<;>rw[e]<;>apply JE (A:=hM Hz H5) (vn:=H6) (a:=re) (b:=dc) n1 (by rfl) jr jr hK<;>repeat' apply ik
  all_goals first|exact trivial|(intro h;cases h;done)|exactλ_=>⟨rfl,rfl⟩|exactλ_=>r1 N|exactλ_=>r2 O
 exact kk _ _ Uy YD _ _ hI' hC' G
end
section
variable{S:C Nat}{SH:Nat->Prop}{n:Nat}{P:Nat->Prop}{nx:C Nat}
def Fb(hw:Wf H)(h:sQ SH H A q)(ho:A.Ok)(tok:Bool):aO Pg X 77 [q.v A,.bool tok] H (Qe (λv T=>∃mk,Bs H.next T A.ns v mk/\∀s,on mk s<->A.Mk tok s) H):=by
 have G:=F.refl hw;have hbig:=ho.big;have Lm:=ho.few;refine jS [0,1,2,4,5,6,7,8,10,11,12,13,15,16,18,19,21,30,31,32,37,38,39,88,89,90,115,116,117,157,158,159] ?_;refine G.box O λH1 u G=>?_;rw[jM]at G;refine G.rZ 0 O (by show 0+6<=6;omega) ?_;refine aO.mono (sI G.wf q A) ?_;rintro v H2 ⟨rfl,E⟩;have G:=G.call E;refine G.mkS (ax _) N λH3 di G=>?_;rw[mZ]at G;refine bG ?_;refine G.ld 1 (o:=0) O O ?_;refine bG ?_;refine G.mkS (ax _) N λH4 dc G=>?_;rw[mZ]at G;refine G.ld 2 (o:=4) O O ?_;refine bG ?_;have G:F [] H H4 ((dc,207,aX A.nr<|I Q 0 0)::(di,207,aX A.ns<|I Q 0 0)::(u,27,q.cells A)::([]++[])):=G;have ini:∀(ok:Ed->Prop) key n,JL ok key A (Seen A 0 0) (A.pre 0) n (aX n<|I Q 0 0) []:=λok key n=>⟨aX n [],(KD.nil n).wk (λs e h=>by rcases h with⟨h,_⟩|⟨_,j,h,_⟩<;>omega)<|bA _,by simp,by rw[ku];exact IB.aaS n⟩;refine lp7 7 8 10 32 37 38 39 (ai:=λm x7 x8 jo x32 Aq x38 x39 T=>∃i MK L5 RI RC,x32=B i/\i+m=A.ns/\JL (At.Wu tok) Jn A (Seen A i 0) (A.pre i) A.ns MK RI/\JL okC Lp A (Seen A i 0) (A.pre i) A.nr L5 RC/\F [] H T ((dc,207,L5)::(di,207,MK)::(u,27,q.cells A)::(RI++RC))) ?_ A.ns ⟨0,_,_,[],[],rfl,N,ini _ _ _,ini _ _ _,G⟩;clear G E ini;rintro m x7 x8 jo x32 Aq x38 x39 ni H5 ⟨i,MK,L5,RI,RC,rfl,him,hI,hC,G⟩;refine kX (λhc=>?_) λhc=>?_
 .obtain rfl:i=A.ns:=N;have hpre:=At.zH ho A.ns;have all:∀s e,e∈A.hx s->Seen A A.ns 0 s e:=λs e he=>.inl ⟨ho.lt he,he⟩;have hS2:F [] H H5 ((RI++RC)++[(dc,207,L5),(di,207,MK),(u,27,q.cells A)]):=G.perm<|aG (l₁:=[_,_,_]);have b1:=hI.bk (L:=RC++[(dc,207,L5),(di,207,MK),(u,27,q.cells A)]) N (hS2.cast kg) (G.get 1 O) (G.lo _<|aS (i:=1) O).2;have b2:=hC.bk (L:=[(dc,207,L5),(di,207,MK),(u,27,q.cells A)]) N (F.drop (A:=RI)<|hS2.cast kg) (G.get 0 O) (G.lo _<|aS (i:=0) O).2
  have c1:BkM (akq A tok) H5 A.ns (D ⟨di,0,Q⟩):=by
   have⟨vs,g1,g2⟩:=b1;refine⟨vs,g1,λt ht=>?_⟩;have⟨b,c,l,g3,g4,⟨g5,g6⟩,g7⟩:=g2 t ht;exact⟨b,c,l,g3,g4,⟨g5,λs e he hk hkey=>g6 s e (all s e he) hk hkey⟩,g7⟩
  have c2:BkM (akr A) H5 A.nr (D ⟨dc,0,Q⟩):=by
   have⟨vs,g1,g2⟩:=b2;refine⟨vs,g1,λt ht=>?_⟩;have⟨b,c,l,g3,g4,⟨g5,g6⟩,g7⟩:=g2 t ht;exact⟨b,c,l,g3,g4,⟨λp hp=>⟨(g5 p hp).1,(g5 p hp).2.2,(g5 p hp).2.1⟩,λs e he hk hkey=>g6 s e (all s e he) hk hkey⟩,g7⟩
  have E:=G.ext;refine gK.mono (aeK G.wf (h.ex E) ho (G.get 2 O) (G.lo _<|aS (i:=2) O).2 c1 c2)<|Ux ?_;rintro v H6 ⟨⟨mk,g1,g2⟩,g3⟩;exact⟨⟨mk,g1.le E.next,g2⟩,E.trans g3⟩
 have hi:i<A.ns:=N;refine h.ldE G.ext hi λp ea ec hE=>?_;refine bG ?_;have hpre:=At.wK ho hi;have hpl:=At.zH ho<|i+1;refine lp2 10 39 (ai:=λm jo x39 T=>∃k MK L5 RI RC,x39=B k/\k+m=(A.hx i).length/\JL (At.Wu tok) Jn A (Seen A i k) (A.pre i+k) A.ns MK RI/\JL okC Lp A (Seen A i k) (A.pre i+k) A.nr L5 RC/\F [] H T ((dc,207,L5)::(di,207,MK)::(u,27,q.cells A)::(RI++RC))) ?_ (A.hx i).length ⟨0,MK,L5,RI,RC,rfl,N,hI,hC,G⟩;clear G hI hC hc;rintro m' y10 y39 MH H6 ⟨k,MK,L5,RI,RC,rfl,hkm,hI,hC,G⟩;refine kX (λhc=>?_) λhc=>?_
 .obtain rfl:k=(A.hx i).length:=N;refine tl ?_;refine dQ ?_;exact⟨A.ns-(i+1),N,_,_,_,_,_,_,_,_,_,O,i+1,MK,L5,RI,RC,og,N,hI.wk (λs e h=>h.all) N,hC.wk (λs e h=>h.all) N,G⟩
 have hk:k<(A.hx i).length:=N;refine Jl (hE.ex G.ext) hk λp=>?_;have hmem:=bB hk;have Wo:=ho.len i;have hke:(A.hx i)[k]?=D (A.hx i)[k]:=av hk;generalize hee:(A.hx i)[k]=e at hke hmem|-;refine G.ns O O O λH8 re G Bg=>?_;have G:F [] H H8 ((re,121,[B e.1,B e.2.1,B e.2.2])::(dc,207,L5)::(di,207,MK)::(u,27,q.cells A)::(RI++RC)):=G
 have cm:At.Wu tok e->∀ni(K:Out->Prop),(∀Ls Lt Uy YD z_ T,JL (At.Wu tok) Jn A (Seen A i<|k+1) (A.pre i+(k+1)) A.ns Ls Uy->JL okC Lp A (Seen A i<|k+1) (A.pre i+(k+1)) A.nr Lt YD->F [] H T ((dc,207,Lt)::(di,207,Ls)::(u,27,q.cells A)::(Uy++YD))->
  K (.norm<|lK (q.v A) (.bool tok) (pt u) (I Q 0 0) (I (D ⟨di,0,Q⟩) A.ns A.ns) (I (D ⟨dc,0,Q⟩) A.nr A.nr) (B i) (.slice ea (A.hx i).length ec) (pt re) top top top top top top top top (I q.ea A.ns q.ec) (B A.ns) (B i) (.slice ea (A.hx i).length ec) (B (A.hx i).length) (B k) top top top top top top top top top z_ T))->
  gK Pg X (sub pF [1,1,1,0,1,0,0,1,1,0,0,1,1,0,0,1,1,0,0,1,1]) (lK (q.v A) (.bool tok) (pt u) (I Q 0 0) (I (D ⟨di,0,Q⟩) A.ns A.ns) (I (D ⟨dc,0,Q⟩) A.nr A.nr) (B i) (.slice ea (A.hx i).length ec) (pt re) top top top top top top top top (I q.ea A.ns q.ec) (B A.ns) (B i) (.slice ea (A.hx i).length ec) (B (A.hx i).length) (B k) top top top top top top top top top ni H8) K:=by
  intro hok ni K kk;exact aeL N ho hmem hok hI hC G λLs Lt Uy YD z_ T g1 g2 g3=>kk Ls Lt Uy YD z_ T (g1.wk (λs e h=>h.next hke)<|ax _) (g2.wk (λs e h=>h.next hke)<|ax _)<|F.drop (A:=[_]) g3
 refine wS (λhc1=>?_) λhc1=>?_
 .refine gF (λhb=>?_) (λhb=>?_)
  .have hno:¬At.Wu tok e:=λh=>by
    have:=h N;subst this;cases hb
   refine dQ ?_;exact⟨(A.hx i).length-(k+1),N,_,_,_,_,O,k+1,MK,L5,RI,RC,og,N,(hI.skip hno).wk (λs e h=>h.next hke)<|ax _,(hC.skip λh:e.1=2=>N).wk (λs e h=>h.next hke)<|ax _,F.drop (A:=[_]) G⟩
  .refine cm (λ_=>by cases tok<;>simp_all) _ _ λLs Lt Uy YD z_ T g1 g2 g3=>?_;refine bG ?_;refine tl ?_;refine dQ ?_;exact⟨(A.hx i).length-(k+1),N,_,_,_,_,O,k+1,Ls,Lt,Uy,YD,og,N,g1,g2,g3⟩
 .refine cm (λh=>absurd N hc1) _ _ λLs Lt Uy YD z_ T g1 g2 g3=>?_;refine bG ?_;refine tl ?_;refine dQ ?_;exact⟨(A.hx i).length-(k+1),N,_,_,_,_,O,k+1,Ls,Lt,Uy,YD,og,N,g1,g2,g3⟩
end
section
variable{S:C Nat}{SH:Nat->Prop}{n:Nat}{P:Nat->Prop}{nx:C Nat}
def sQ.n'(h:sQ SH H A q):sQ SH (hN H) A q:=⟨h.n,h.s,h.p,h.o,h.e⟩
def Bs.at{k:Nat}{a:aB Addr}{K:Z->Z->R->Prop}(h:Bs b H n (I a n c) mk)(hk:k<n)(kk:∀p t,(t=f<->on mk k)->K p (.bool t) H):PU (zN 1 (I a n c)<|B k) λp=>ME (vH Q p H) (K p):=by
 have⟨a',c',e,hl,hf⟩:=h;cases e;obtain⟨t,ht⟩:∃t,mk[k]?=D t:=⟨_,av N⟩;refine hf.ix hk (jR _ ht) λp=>kk p t ?_;unfold on;rw[ht];simp
def IZ(hw:Wf H)(h:sQ SH H A q)(ho:A.Ok)(hm:Bs b H A.ns v mk):aO Pg X 85 [q.v A,v] H (Qe (λv T=>∃l,Bs H.next T A.nr v l/\∀r,r<A.nr->(on l r<->on mk (A.S r))) H):=by
 have G:=F.refl hw;have Lm:=ho.few;obtain⟨ma,mc,rfl,_⟩:=id hm;refine jS [0,1,2,4,5,6,7,13,14,15] ?_;refine G.box O λH1 u G=>?_;rw[jM]at G;refine bG ?_;refine G.ld 0 (o:=0) O O ?_;refine bG ?_;refine G.mkS (ax _) N λH2 rl G=>?_;rw[mZ]at G;refine G.ld 1 (o:=1) O O ?_;refine bG ?_;have G:F [] H H2 [(rl,4,bools<|aX A.nr aC),(u,27,q.cells A)]:=G.to kg;refine FY 6 7 15 (ai:=λm x6 x7 lH T=>∃i l,lH=B i/\i+m=A.nr/\l.length=A.nr/\F [] H T [(rl,4,bools l),(u,27,q.cells A)]/\∀r,r<i->(on l r<->on mk (A.S r))) ?_ A.nr ⟨0,_,rfl,N,by simp,G,λr y=>N⟩;clear G;rintro m x6 x7 lH ni H3 ⟨i,l,rfl,him,hl,G,hb⟩;refine kX (λhc=>?_) λhc=>?_
 .refine tl ?_;obtain rfl:i=A.nr:=N;refine rr ?_;exact⟨⟨l,⟨_,_,O,hl,je.one G (aN ..) (mg hl)<|G.wQ<|aN ..⟩,hb⟩,G.ext⟩
 have hi:i<A.nr:=N;refine(h.ex G.ext).ldS ho hi λp=>(hm.ex G.ext).at (ho.s i hi).1 λp t ht=>G.Zg hi (by simpa using(by omega:i<l.length)) (kk:=λp H4 G=>?_);refine dQ ?_;refine⟨A.nr-(i+1),N,_,_,_,_,_,O,i+1,l.set i t,og,N,by rw[bJ];exact hl,?_,λr y=>?_⟩
 .have:bools (l.set i t)=(bools l).set i (.bool t):=fZ;rw[this];exact G
 .unfold on;rw[dG]
  by_cases e:i=r
  .subst e;rw[if_pos O,if_pos N];unfold on at ht;rw[<-ht];simp
  .rw[if_neg e];exact hb r N
def Fe(hw:Wf H)(h:sQ SH H A q)(ho:A.Ok):aO Pg X 55 [q.v A] H (Qe (λv T=>∃l,Bs H.next T A.nr v l/\∀r,r<A.nr->(on l r<->A.Mk aC (A.S r))) H):=by
 have G:=F.refl hw;refine jS [0,1,2] ?_;refine G.box O λH1 u G=>?_;rw[jM]at G;refine G.rZ 0 O (by show 0+6<=6;omega) ?_;refine aO.mono (tY G.wf (h.ex G.ext) ho) ?_;rintro v H2 ⟨rfl,E⟩;have G:=G.call E;refine bG ?_;refine gF (λhb=>by cases hb) λ_=>?_;refine G.KH 0 O (ax 6) ?_
 try simp only[gN G.wf]
 refine G.KH 0 O (ax 6) ?_
 try simp only[gN G.wf]
 refine aO.mono (Fb (nS H2) (h.ex G.ext).n' ho aC) ?_;rintro v H3 ⟨⟨mk,hm,hk⟩,hx3⟩;have sG:=G.nH hx3;have hm':Bs H2.next (hN<|hM H2 H3) A.ns v mk:=hm
 refine aO.mono (IZ (nS<|hM H2 H3) (h.ex sG.ext).n' ho hm') ?_;rintro w H4 ⟨⟨l,hl,hlr⟩,hx4⟩;have vJ:=sG.nH hx4;refine iD (by simp only[d_,fP hx3,fP hx4];rfl) ?_;have hge:H.next<=(hM H2 H3).next:=sG.ext.next
 have hl':Bs (hM H2 H3).next (hM (hM H2 H3) H4) A.nr w l:=hl
 refine rr ?_;exact⟨⟨l,hl'.le hge,λr y=>(hlr r y).trans<|hk _⟩,vJ.ext⟩
def YE(hw:Wf H)(h:sQ SH H A q)(ho:A.Ok):aO Pg X 96 [q.v A] H (Qe (λv T=>∃l,Bs H.next T A.nr v l/\∀r,r<A.nr->(on l r<->A.Mk f (A.S r))) H):=by
 have G:=F.refl hw;refine jS [0,1,2] ?_;refine G.box O λH1 u G=>?_;rw[jM]at G;refine G.rZ 0 O (by show 0+6<=6;omega) ?_;refine aO.mono (tY G.wf (h.ex G.ext) ho) ?_;rintro v H2 ⟨rfl,E⟩;have G:=G.call E;refine bG ?_;refine gF (λhb=>by cases hb) λ_=>?_;refine G.KH 0 O (ax 6) ?_
 try simp only[gN G.wf]
 refine G.KH 0 O (ax 6) ?_
 try simp only[gN G.wf]
 refine aO.mono (Fb (nS H2) (h.ex G.ext).n' ho f) ?_;rintro v H3 ⟨⟨mk,hm,hk⟩,hx3⟩;have sG:=G.nH hx3;have hm':Bs H2.next (hN<|hM H2 H3) A.ns v mk:=hm
 refine aO.mono (IZ (nS<|hM H2 H3) (h.ex sG.ext).n' ho hm') ?_;rintro w H4 ⟨⟨l,hl,hlr⟩,hx4⟩;have vJ:=sG.nH hx4;refine iD (by simp only[d_,fP hx3,fP hx4];rfl) ?_;have hge:H.next<=(hM H2 H3).next:=sG.ext.next
 have hl':Bs (hM H2 H3).next (hM (hM H2 H3) H4) A.nr w l:=hl
 refine rr ?_;exact⟨⟨l,hl'.le hge,λr y=>(hlr r y).trans<|hk _⟩,vJ.ext⟩
end
section
variable{S:C Nat}{SH:Nat->Prop}{n:Nat}{P:Nat->Prop}{nx:C Nat}
def _root_.Go.Ae.F.bSx(G:F S H0 H L){e:aH}(hz:z.length=es)(hv:pZ v=f)(hc:(bK v).length=es)(he:es<=16777216)(k:∀H1 r,F S H0 H1 ((r,e,bK v)::L)->Ext H H1->K (I (D ⟨r,0,Q⟩) 1 1) H1):ME (Go.Ae.bS e z es 1 [(0,v)] H) K:=
 (F.refl G.wf).bS hz hv hc he λH1 r hO=>k H1 r (F.frame (cs:=[]) (L:=L) G hO) hO.ext
def YF(h:H.cell re 0=D v)(y:re<H.next)(hl:Bs b H A.nr v l)(ho:A.Ok)(hlr:∀r,r<A.nr->(on l r<->A.Mk aC (A.S r))):Wnt A A.isF H (.func (.func 189) ⟨[]⟩ ⟨[pt re]⟩):=by
 intro T s e E hw he;have hl:=hl.ex E;have h:T.cell re 0=D v:=(kr (E.obj re y kg) 0).trans h;have y:=aR y E.next
 show aO Pg X 189 [_,pt re] T _;have G:=F.refl hw;refine jS [0,1,2,3] ?_;refine G.box O λH1 rb G=>?_;have G:F [] T H1 [(rb,121,[B e.1,B e.2.1,B e.2.2])]:=G;refine wS (λhc=>?_) λhc=>?_
 .refine rr ?_;exact⟨⟨f,O,λ_=>.inl N,λ_=>rfl⟩,G.ext⟩
 refine wS (λhc2=>?_) λhc2=>?_
 .have hca:=ho.call he N;refine G.Be h y<|G.pz ?_;obtain⟨ea,ec,rfl,_⟩:=id hl;refine(hl.ex G.ext).at hca λp t ht=>?_;refine rr ?_;refine⟨⟨t,O,λh=>.inr ⟨N,(hlr _ hca).1<|ht.1 h⟩,λh=>?_⟩,G.ext⟩;rcases h with h|h
  .exact absurd N hc
  .exact ht.2<|(hlr _ hca).2 h.2
 .refine rr ?_;refine⟨⟨aC,O,λh=>(by cases h),λh=>?_⟩,G.ext⟩;rcases h with h|h
  .exact absurd N hc
  .exact absurd (by have:=h.1;omega) hc2
def amf(b:Nat)(H:R)(v:Z)(p:Nat->Prop):Prop:=∃a c l,v=I a l.length c/\je (b<=·) 3 H a l.length 1 (fF l)/\l.Pairwise (·<·)/\∀t,t∈l<->p t
def Zk(mk:C Bool)(i:Nat):C Nat:=(f_ i).filter λt=>mk[t]?==D f
def RP(mk:C Bool)(i:Nat):Zk mk (i+1)=Zk mk i++(if mk[i]?==D f then[i]else[]):=by
 unfold Zk;rw[List.range_succ,sK];congr 1;simp[oh]
def aeM(mk:C Bool)(i:Nat):(Zk mk i).length<=i:=by
 unfold Zk;have:=nK (λt=>mk[t]?==D f)<|f_ i
 rwa [qg]at this
def free_spec(hw:Wf H)(h:sQ SH H A q)(ho:A.Ok)(hs:s<A.ns):aO Pg X 159 [q.v A,B s] H (Qe (λv T=>amf H.next T v<|A.fre s) H):=by
 have G:=F.refl hw;have hbig:=ho.big;refine jS [0,1,2,4,5,6,7,8,9,30,31,32] ?_;refine G.box O λH1 u G=>?_;rw[jM]at G;refine G.rZ 0 O (by show 0+6<=6;omega) ?_;refine aO.mono (tY G.wf (h.ex G.ext) ho) ?_;rintro v H2 ⟨rfl,E⟩;have G:=G.call E;refine bG ?_;refine gF (λhb=>by cases hb) λ_=>?_;refine aT (λhc=>N) λ_=>?_;refine G.rZ 0 O (by show 0+6<=6;omega) ?_;refine aO.mono (sI G.wf q A) ?_;rintro v H3 ⟨rfl,E⟩;have G:=G.call E;refine bG ?_;refine aT (λhc=>N) λ_=>?_;refine tl ?_;refine G.rZ 0 O (by show 0+6<=6;omega) ?_;refine aO.mono (Fe G.wf (h.ex G.ext) ho) ?_;rintro v H4 ⟨⟨l,hl,hlr⟩,E⟩;have G:=G.call E;obtain⟨ea,ec,rfl,_⟩:=id hl;refine G.ns O O O λH5 re G hx5=>?_;have G:F [] H H5 [(re,34,[I ea A.nr ec]),(u,27,q.cells A)]:=G;have hl5:=hl.ex hx5;refine G.rZ 1 O (by show 0+6<=6;omega) ?_;refine G.bSx O O O N λH6 rx G hx6=>?_;have G:F [] H H6 [(rx,3,fF [s]),(re,34,[I ea A.nr ec]),(u,27,q.cells A)]:=G;have hge:=G.ext.next
 refine aO.mono (NR (SH:=λ_=>True) (fl:=[s]) (w:=A.isF) G.wf ((h.ex G.ext).wk λ_ _=>trivial) ho (je.one G (aN ..) O trivial) (by simpa using hs) (by simp)<|YF ((G.get 1 O).cell O) (G.lo _<|aS (i:=1) O).2 (hl5.ex hx6) ho hlr) ?_;rintro v H7 ⟨⟨mk,hm,hk⟩,E⟩;have G:=G.call E;have hlen:mk.length=A.ns:=let⟨_,_,_,h,_⟩:=hm;h
 have hfr:∀t,on mk t<->A.fre s t:=λt=>by
  rw[hk];have:(·∈[s])=(·=s):=by funext x;simp
  rw[this];rfl
 obtain⟨ma,mc,rfl,_⟩:=id hm;refine bG ?_;have hS0:=G;refine NG 7 8 9 32 (ai:=λm x7 x8 x9 x32 T=>∃i gb,x32=B i/\i+m=A.ns/\GB 3 1 x7 (fF<|Zk mk i) gb/\F [] H7 T (gb++[])) ?_ A.ns ⟨0,[],rfl,N,GB.nil _ _,F.refl G.wf⟩;clear G;rintro m x7 x8 x9 x32 ni H8 ⟨i,gb,rfl,him,hg,G⟩;refine kX (λhc=>?_) λhc=>?_
 .refine tl ?_;obtain rfl:i=A.ns:=N;obtain⟨a,n,c,rfl,hn,hf⟩:=hg.Sj G;have hn:(Zk mk A.ns).length=n:=mg hn;subst hn;refine rr ?_;refine⟨⟨a,c,Zk mk A.ns,O,hf.le<|a_ hge E.next,?_,λt=>?_⟩,hS0.ext.trans G.ext⟩
  .exact List.Pairwise.filter _ List.pairwise_lt_range
  .rw[<-hfr];unfold Zk on;rw[List.mem_filter,my];constructor
   .intro h;simpa using h.2
   .intro h;exact⟨by have:=(bE.1 h).1;omega,mg h⟩
 have hi:i<A.ns:=N;have hol:=aeM mk i;refine(hm.ex G.ext).at hi λp t ht=>?_;refine qx (λhb=>?_) λhb=>?_
 .subst hb;refine hg.push G N O O O O O N (by simpa using(by omega:(Zk mk i).length<=16777216)) λw v' H9 gQ hg' G=>?_;refine dQ ?_;refine⟨A.ns-(i+1),N,_,_,_,_,_,_,O,i+1,gQ,og,N,?_,G⟩;have W:=ht.1 O;unfold on at W;rw[RP,W];have:fF (Zk mk i++if(D f==D f)=f then[i]else[])=fF (Zk mk i)++bK (B i):=by simp;rfl
  rw[this];exact hg'
 .subst hb;refine dQ ?_;refine⟨A.ns-(i+1),N,_,_,_,_,_,_,O,i+1,gb,og,N,?_,G⟩;have W:¬on mk i:=λh=>by cases ht.2 h
  unfold on at W;rw[RP,if_neg<|mg W,bq];exact hg
end
end Go.Proofs.Lv
namespace Go.Proofs.Lu
open Go.Ae
namespace At
variable{e:Ed}{a b s:Nat}{A2:At}
variable{A A':At}{lw k k2 c c2:Nat}
def fr(A:At):At:={A with ow:=A.ow++[A.nr-1],eg:=A.eg++[[]]}
def pu(A:At)(s:Nat)(e:Ed):At:={A with eg:=A.eg.set s (A.hx s++[e])}
def tot(A:At):Nat:=(A.eg.map gB).sum
def EdL(lw ty:Nat)(e:Ed):Prop:=e.1=0\/(e.1=1/\e.2.1<ty)\/(e.1=2/\e.2.1<lw)
structure Bu(lw:Nat)(A:At):Prop where
 Ac:A.eg.length=A.ns
 o:∀s,s<A.ns->A.aj s<A.nr
 e:∀s,s<A.ns->∀e∈A.hx s,e.2.2<A.ns/\A.aj e.2.2=A.aj s/\EdL lw A.ty e
structure Gw(A A':At)(k c:Nat):Prop where
 nm:A'.nm=A.nm
 st:A'.st=A.st
 sp:A'.sp=A.sp
 ty:A'.ty=A.ty
 ow:A'.ow=A.ow++aX k (A.nr-1)
 tt:A'.tot=A.tot+c
def Gw.refl(A:At):Gw A A 0 0:=⟨O,O,O,O,by simp,rfl⟩
def Gw.nr(h:Gw A A' k c):A'.nr=A.nr:=dW gB h.nm
def Gw.ns(h:Gw A A' k c):A'.ns=A.ns+k:=by
 unfold At.ns;rw[h.ow];simp
def Gw.trans(h:Gw A A' k c)(J:Gw A' A2 k2 c2):Gw A A2 (k+k2) (c+c2):=
 ⟨J.nm.trans h.nm,J.st.trans h.st,J.sp.trans h.sp,J.ty.trans h.ty,by rw[J.ow,h.ow,h.nr,bU,List.replicate_append_replicate],by rw[J.tt,h.tt,Nat.add_assoc]⟩
def Gw.cast(h:Gw A A' k c)(hk:k=k2)(hc:c=c2):Gw A A' k2 c2:=by subst hk;subst hc;exact h
def Gw.aj(h:Gw A A' k c)(hs:s<A.ns):A'.aj s=A.aj s:=by
 unfold At.aj;rw[h.ow,bM hs]
def cur(A:At)(s:Nat):Prop:=s<A.ns/\A.aj s=A.nr-1
def cur.gw(h:A.cur s)(g:Gw A A' k c):A'.cur s:=⟨by rw[g.ns];have:=h.1;omega,by rw[g.aj h.1,g.nr];exact h.2⟩
def Gw.fr(A:At):Gw A A.fr 1 0:=⟨O,O,O,O,O,by unfold At.tot At.fr;simp⟩
def ace(A:At):A.fr.cur A.ns:=by
 refine⟨by rw[(Gw.fr A).ns];omega,?_⟩;show(A.ow++[A.nr-1])[A.ow.length]?.getD 0=_;rw[dV (ax _),jc];rfl
def amg(hl:A.eg.length=A.ns)(s:Nat):A.fr.hx s=A.hx s:=by
 show(A.eg++[[]])[s]?.getD []=_;unfold hx;rcases cr s A.eg.length with h|h
 .rw[bM h]
 .rw[dV h,fE (by omega:A.eg.length<=s)];cases s-A.eg.length<;>rfl
theorem Bu.fr(h:Bu lw A)(hp:1<=A.nr):Bu lw A.fr:=by
 have g:=Gw.fr A;have hns:=g.ns;refine⟨?_,λs hs=>?_,λs hs e he=>?_⟩
 .show(A.eg++[[]]).length=_;rw[aQ,hns,h.Ac];rfl
 .rcases cr s A.ns with W|W
  .rw[g.aj W,g.nr];exact h.o s W
  .obtain rfl:s=A.ns:=N;rw[(ace A).2,g.nr];omega
 .rw[amg h.Ac]at he;rcases cr s A.ns with W|W
  .have⟨a,b,c⟩:=h.e s W e he;exact⟨N,by rw[g.aj a,g.aj W];exact b,c⟩
  .rw[RJ h.Ac N]at he;cases he
def aeN{l:C (C Ed)}{x:C Ed}(hs:s<l.length)(E:x=l[s]++[e]):((l.set s x).map gB).sum=(l.map gB).sum+1:=by
 induction l generalizing s with
 |nil=>simp at hs
 |cons hr l ih=>
  cases s with
  |zero=>
   subst E;simp;omega
  |succ s=>
   have:=ih (s:=s) (mg hs)<|mg E;simp only[jy,iC,ug,this];omega
def Gw.pu(hl:A.eg.length=A.ns)(hs:s<A.ns)(e:Ed):Gw A (A.pu s e) 0 1:=
 ⟨rfl,rfl,rfl,rfl,by simp[At.pu],by
  have hs':s<A.eg.length:=N;refine aeN (e:=e) hs' ?_;unfold hx;rw[av hs'];rfl⟩
def ahW(hl:A.eg.length=A.ns)(hs:s<A.ns)(t:Nat):(A.pu s e).hx t=if t=s then A.hx s++[e]else A.hx t:=by
 show(A.eg.set s<|A.hx s++[e])[t]?.getD []=_;rw[dG]
 by_cases h:s=t
 .subst h;rw[if_pos O,if_pos N,if_pos O];rfl
 .rw[if_neg h,if_neg λe=>h e.symm];rfl
def Bu.pu(h:Bu lw A)(hs:s<A.ns)(W:e.2.2<A.ns)(J:A.aj e.2.2=A.aj s)(h3:EdL lw A.ty e):Bu lw (A.pu s e):=by
 refine⟨?_,h.o,λt ht e' he=>?_⟩
 .show(A.eg.set s _).length=_;rw[bJ];exact h.Ac
 .rw[ahW h.Ac hs]at he;split at he
  .next ht2=>
   subst ht2;rcases bZ.1 he with he|he
   .exact h.e t hs e' he
   .rw[aP]at he;subst he;exact⟨W,J,h3⟩
  .exact h.e t ht e' he
def Bu.puC(h:Bu lw A)(hs:A.cur s)(W:A.cur e.2.2)(h3:EdL lw A.ty e):Bu lw (A.pu s e):=h.pu hs.1 W.1 (W.2.trans hs.2.symm) h3
def ru(A:At)(nm:aV):At:={A with nm:=A.nm++[nm]}
def se(A:At)(a b:Nat):At:={A with st:=A.st++[a],sp:=A.sp++[b]}
structure Bs'(lw:Nat)(A:At):Prop where
 bu:Bu lw A
 Ws:A.st.length=A.nr
 YA:A.sp.length=A.nr
 s:∀r,r<A.nr->A.S r<A.ns/\A.aj (A.S r)=r
 p:∀r,r<A.nr->A.P r<A.ns/\A.aj (A.P r)=r
def Bu.ru(h:Bu lw A)(nm:aV):Bu lw (A.ru nm):=
 ⟨h.Ac,λs hs=>by
   have:=h.o s hs;show A.aj s<(A.nm++[nm]).length;rw[aQ];exact Nat.lt_succ_of_lt this,h.e⟩
def Bs'.next(h:Bs' lw A){nm:aV}{A1:At}(g:Gw (A.ru nm) A1 k c)(ha:A1.cur a)(hb:A1.cur b)(g2:Gw (A1.se a b) A2 k2 c2)(hB:Bu lw A2):Bs' lw A2:=by
 have e1:A2.nr=A.nr+1:=by rw[g2.nr];show A1.nr=_;rw[g.nr];show(A.nm++[nm]).length=_;rw[aQ];rfl
 have e2:A2.st=A.st++[a]:=by rw[g2.st];show A1.st++[a]=_;rw[g.st];rfl
 have e3:A2.sp=A.sp++[b]:=by rw[g2.sp];show A1.sp++[b]=_;rw[g.sp];rfl
 have n1:A1.ns=A.ns+k:=g.ns;have n2:A2.ns=A1.ns+k2:=g2.ns;have nr1:A1.nr=A.nr+1:=by rw[g.nr];show(A.nm++[nm]).length=_;rw[aQ];rfl
 have oo:∀t,t<A.ns->A2.aj t=A.aj t:=λt ht=>by
  rw[g2.aj (show t<A1.ns by omega)];exact g.aj ht
 have oc:∀t,A1.cur t->A2.aj t=A.nr:=λt ht=>by
  rw[g2.aj ht.1];show A1.aj t=_;rw[ht.2,nr1];omega
 refine⟨hB,by rw[e2,aQ,h.Ws,e1];rfl,by rw[e3,aQ,h.YA,e1];rfl,λr y=>?_,λr y=>?_⟩
 .unfold S;rw[e2];rcases cr r A.nr with W|W
  .rw[bM (by rw[h.Ws];exact W)];have:=h.s r W;exact⟨aR this.1 N,(oo _ this.1).trans this.2⟩
  .obtain rfl:r=A.nr:=N;rw[dV (by rw[h.Ws];exact ax _),h.Ws,jc];exact⟨by show a<_;have:=ha.1;omega,oc a ha⟩
 .unfold P;rw[e3];rcases cr r A.nr with W|W
  .rw[bM (by rw[h.YA];exact W)];have:=h.p r W;exact⟨aR this.1 N,(oo _ this.1).trans this.2⟩
  .obtain rfl:r=A.nr:=N;rw[dV (by rw[h.YA];exact ax _),h.YA,jc];exact⟨by show b<_;have:=hb.1;omega,oc b hb⟩
theorem Bs'.ok(h:Bs' lw A)(hl:A.nr=lw)(hp:1<=A.nr)(hf:A.nr<=1000)(hb:A.ns<=4000)(ht:A.tot<=100000):A.Ok where
 pos:=hp
 Ws:=h.Ws
 YA:=h.YA
 Ac:=h.bu.Ac
 big:=hb
 few:=hf
 s:=h.s
 p:=h.p
 o:=h.bu.o
 e:=λs hs e he=>by
  have⟨a,b,c⟩:=h.bu.e s hs e he;refine⟨a,b,?_⟩;unfold EdL at c;unfold aeG;rw[hl];exact c
 tot:=ht
end At
variable{F' K:Nat->Prop}{ni:C (Nat×Z)}{L L' cs M' M1 gb:C dL}{A A' A1:At}{au:Z->R->Prop}{zs:Nat->C Nat}{H T H0 H1 H3:R}{kd:Nat->Int}{b c c1 es g i j k kc nc nn o r ra rb rc tn vc xc xn z:Nat}{M iK rcs:C Z}{ty:aH}{a ka na va xa:aB Addr}{e:Ed}{nm t:aV}{v kW jI lH pG yo uC x20 xJ DV yx x24 x25 x32 LW Aq x38 x64 Zh x66:Z}{l ws:C Nat}
section
open Go.Ae Go.Ae.cs Go.Proofs.Lv
variable{S:C Nat}{SH:Nat->Prop}
def Bd(ra:Nat)(A:At)(cs:C dL):Prop:=∃nv sv pv ov ev evs gn gs gp go ge az,cs=(ra,27,[nv,sv,pv,ov,ev,B A.ty])::(gn++(gs++(gp++(go++(ge++az)))))/\GB 9 1 nv (A.nm.map .string) gn/\GB 3 1 sv (fF A.st) gs/\GB 3 1 pv (fF A.sp) gp/\GB 3 1 ov (fF A.ow) go/\GB 119 1 ev evs ge/\IB 121 3 (A.eg.map zQ) evs az
def _root_.Go.Ae.GB.SN(h:GB ty 1 v M gb):∃a c,v=I a M.length c:=by
 rcases h with⟨rfl,rfl,_⟩|⟨r,n,eB,rfl,hn,_⟩
 .exact⟨Q,0,O⟩
 .obtain rfl:n=M.length:=N;exact⟨_,_,O⟩
theorem Uz(hB:Bd ra A cs)(G:F S H0 H<|cs++L)(hp:1<=A.nr)(hn:A.nr<=1000)(hs:A.ns<=100000)(hl:A.eg.length=A.ns):aO Pg X 152 [pr ra] H λv T=>v=B A.ns/\∃M',Bd ra A.fr M'/\F S H0 T (M'++L):=by
 obtain⟨nv,sv,pv,ov,ev,evs,gn,gs,gp,go,ge,az,rfl,hgn,hgs,RQ,hgo,hge,hR⟩:=hB;have G:=G.cast (L':=(ra,27,[nv,sv,pv,ov,ev,B A.ty])::(gn++(gs++(gp++(go++(ge++(az++L))))))) kg;have hev:evs.length=A.ns:=by rw[<-hR.len,aK,hl]
 refine Fh [0,1] ?_;refine G.ld 0 (o:=3) O O ?_;refine G.ld 0 (o:=0) O O ?_;obtain⟨na,nc,rfl⟩:=hgn.SN;refine bG ?_;rw[aK];refine PU.of (pg (by have:A.nr=A.nm.length:=rfl;omega) (by have:A.nr=A.nm.length:=rfl;omega)) ?_;rw[show((A.nm.length:Int)-1)=((A.nr-1:Nat):Int) by have:A.nr=A.nm.length:=rfl;omega]
 have G:=G.perm (L':=go++((ra,27,[.slice na (A.nm.map fT).length nc,sv,pv,ov,ev,B A.ty])::(gn++(gs++(gp++(ge++(az++L))))))) (by
  have:=iG ((ra,27,[.slice na (A.nm.map fT).length nc,sv,pv,ov,ev,B A.ty])::(gn++(gs++gp))) go<|ge++(az++L);simpa using this)
 refine hgo.push G N O O O O O N (by simpa using(by unfold At.ns at hs;omega:A.ow.length<=16777216)) λw v1 H1 go' hgo' G=>?_;have G:=G.perm (L':=(ra,27,[.slice na (A.nm.map fT).length nc,sv,pv,ov,ev,B A.ty])::(go'++(gn++(gs++(gp++(ge++(az++L))))))) i_;obtain⟨oa,oc,rfl⟩:=hgo'.SN;refine G.st 0 O O (by show 3+1<=6;omega) rfl λH2 G=>?_;have G:=G.to (cs':=[.slice na (A.nm.map fT).length nc,sv,pv,.slice oa (fF A.ow++bK (B<|A.nr-1)).length oc,ev,B A.ty]) O;refine G.ld 0 (o:=4) O O ?_
 have G:=G.perm (L':=ge++((ra,27,[.slice na (A.nm.map fT).length nc,sv,pv,.slice oa (fF A.ow++bK (B<|A.nr-1)).length oc,ev,B A.ty])::(go'++(gn++(gs++(gp++(az++L))))))) (by
  have:=iG ((ra,27,[.slice na (A.nm.map fT).length nc,sv,pv,.slice oa (fF A.ow++bK (B<|A.nr-1)).length oc,ev,B A.ty])::(go'++(gn++(gs++gp)))) ge<|az++L;simpa using this)
 refine hge.push G N O O O O O N N λw v2 H3 ge' hge' G=>?_;have G:=G.perm (L':=(ra,27,[.slice na (A.nm.map fT).length nc,sv,pv,.slice oa (fF A.ow++bK (B<|A.nr-1)).length oc,ev,B A.ty])::(ge'++(go'++(gn++(gs++(gp++(az++L))))))) i_;obtain⟨ea,ec,rfl⟩:=hge'.SN;refine G.st 0 O O (by show 4+1<=6;omega) rfl λH4 G=>?_;have G:=G.to (cs':=[.slice na (A.nm.map fT).length nc,sv,pv,.slice oa (fF A.ow++bK (B<|A.nr-1)).length oc,.slice ea (evs++bK (I Q 0 0)).length ec,B A.ty]) O;refine G.ld 0 (o:=3) O O ?_;refine bG ?_;have ol:(fF A.ow++bK (B<|A.nr-1)).length=A.ns+1:=by rw[aQ,aK];rfl
 rw[ol]at G|-;refine qL ?_;rw[show(((A.ns+1:Nat):Int)-1)=(A.ns:Int) by omega];refine rr ?_;refine⟨O,(ra,27,[.slice na (A.nm.map fT).length nc,sv,pv,I oa (A.ns+1) oc,.slice ea (evs++bK (I Q 0 0)).length ec,B A.ty])::(gn++(gs++(gp++(go'++(ge'++az))))),⟨_,_,_,_,_,evs++[I Q 0 0],gn,gs,gp,go',ge',az,O,hgn,hgs,RQ,?_,hge',?_⟩,?_⟩
 .have:fF (A.fr).ow=fF A.ow++bK (B<|A.nr-1):=by show fF (A.ow++[A.nr-1])=_;simp;rfl
  rw[this,<-ol];exact hgo'
 .have:(A.fr).eg.map zQ=A.eg.map zQ++[[]]:=by show(A.eg++[[]]).map zQ=_;simp;rfl
  rw[this];have:=hR.snoc<|GB.nil 121 3
  rwa [bq]at this
 .apply G.perm;have p1:=iG ge' go'<|(gn++(gs++gp))++(az++L);have p2:=iG (go'++ge') (gn++(gs++gp))<|az++L;simp only[bU]at p1 p2;have p3:=p1.trans p2;simp only[bI,bU];rw[ol]at*;exact p3.cons _
end
section
open Go.Ae Go.Ae.cs Go.Proofs.Lv
variable{S:C Nat}{SH:Nat->Prop}
def acf:∀{l:C Nat}{x:Nat},x∈l->x<=l.sum
 |hr::l,x,h=>by
  rw[ug];rcases bP.1 h with rfl|h
  .omega
  .have:=acf h;omega
theorem YH{fr:Nat}(hB:Bd ra A cs)(G:F S H0 H<|cs++L)(hf:fr<A.ns)(hl:A.eg.length=A.ns)(ht:A.tot<=1000000):aO Pg X 153 [B fr,.agg ⟨[B e.1,B e.2.1,B e.2.2]⟩,pr ra] H λv T=>∃M',Bd ra (A.pu fr e) M'/\F S H0 T (M'++L):=by
 obtain⟨nv,sv,pv,ov,ev,evs,gn,gs,gp,go,ge,az,rfl,hgn,hgs,RQ,hgo,hge,hR⟩:=hB;have hev:evs.length=A.ns:=by rw[<-hR.len,aK,hl]
 rcases hge with⟨_,h0,_⟩|⟨rE,n,eB,rfl,hn,rfl⟩
 .rw[h0]at hev;simp at hev;omega
 obtain rfl:n=A.ns:=N;obtain⟨A',gb,vn,rfl,hgb,hput⟩:=hR.at fr N
 have hE:(A.eg.map zQ)[fr]?.getD []=zQ (A.hx fr):=by
  unfold At.hx;rw[bF,av (show fr<A.eg.length by omega)];rfl
 rw[hE]at hgb
 have hEl:(A.hx fr).length<=1000000:=by
  have:(A.hx fr).length<=A.tot:=by
   unfold At.hx At.tot;rw[av (show fr<A.eg.length by omega)];exact acf<|bQ.2 ⟨_,bB _,O⟩
  omega
 have hv0:(evs++eB)[fr]?=D evs[fr]:=by rw[bM N];exact av N
 have G:=G.perm (L':=(ra,27,[nv,sv,pv,ov,I (D ⟨rE,0,Q⟩) A.ns<|fJ 1,B A.ty])::(rE,119,evs++eB)::(gb++((gn++(gs++(gp++go)))++(A'++(vn++L))))) (by
  have p1:=iG (gn++(gs++(gp++go))) [(rE,119,evs++eB)]<|A'++(gb++(vn++L));have p2:=iG ((gn++(gs++(gp++go)))++A') gb<|vn++L;simp only[bU,bI,bN]at p1 p2|-;exact(p1.trans<|p2.cons _).cons _)
 refine jS [0,1,2,4] ?_;refine G.box O λH1 re G=>?_;have G:F S H0 H1 ((re,121,[B e.1,B e.2.1,B e.2.2])::(ra,27,[nv,sv,pv,ov,I (D ⟨rE,0,Q⟩) A.ns<|fJ 1,B A.ty])::(rE,119,evs++eB)::(gb++((gn++(gs++(gp++go)))++(A'++(vn++L))))):=G;refine eU ?_;refine G.Uw hf hv0 ?_;refine eU ?_;refine G.PL O O O N λH2 rx G tq=>?_;have hS0:=G;have G:=(G.to (cs':=[B e.1,B e.2.1,B e.2.2]) O).perm (L':=(rx,121,[B e.1,B e.2.1,B e.2.2])::(gb++([(re,121,[B e.1,B e.2.1,B e.2.2]),(ra,27,[nv,sv,pv,ov,I (D ⟨rE,0,Q⟩) A.ns<|fJ 1,B A.ty]),(rE,119,evs++eB)]++((gn++(gs++(gp++go)))++(A'++(vn++L))))))<|(iG [_,_,_] gb _).cons _;refine hgb.FM G N O O (by rw[JK];omega) λv' H3 gQ hgb' G _ _ vT=>?_;have G:=G.perm<|iG gQ [_,_,_] _;simp only[bI,bN]at G;have hS1:=G;obtain⟨va,vl,vc,rfl⟩:=hgb'.sl;refine G.RO hf (by rw[aQ];omega) (kk:=λH4 G=>?_);have n1:re≠ra:=G.nq 0 1 O O N;have n2:re≠rE:=G.nq 0 2 O O N;have n3:ra≠rE:=G.nq 1 2 O O N;refine splitK (λK hK=>?_) ?_
 .have r1:∀{o n:Nat}{a b:R},o+n<=3->mY ⟨2,0,0,0,hM H1 H2,H3⟩ ⟨4,re,o,n,a,b⟩=f:=λh=>pP (hS0.get 1 O) ((hS1.get 0 O).jb O) h (Gf ⟨_,_,_,rfl⟩)
  have r2:∀{a b:R},mY ⟨2,0,0,0,hM H1 H2,H3⟩ ⟨4,ra,4,1,a,b⟩=f:=λ{a b}=>pP (hS0.get 2 O) ((hS1.get 1 O).jb O) (by show 4+1<=6;omega) (by
   intro v hv;have hv:v∈[I (D ⟨rE,0,Q⟩) A.ns (fJ 1)]:=hv;rw[aP]at hv;subst hv;exact oF _ _ _ λx h=>by cases h;rfl)
  have r3:∀{a b:R},mY ⟨2,0,0,0,hM H1 H2,H3⟩ ⟨4,rE,fr,1,a,b⟩=f:=λ{a b}=>pP (hS0.get 3 O) ((hS1.get 2 O).jb O) (by rw[aQ];omega) (by
   intro v hv
   have:v=evs[fr]:=by
    have W:((evs++eB).drop fr).take 1=[evs[fr]]:=by
     rw[dY (by rw[aQ];omega),jg,kC,iL N]
    rw[W,aP]at hv;exact hv
   subst this;exact AY hR _<|bB _)
  simp only[tq,d_,fK];rcases vT with e|e<;>rw[e]<;>apply OQ (A:=hM H1 H2) (vn:=H3) (a:=re) (b:=ra) (c:=rE) n1 n2 n3 (by rfl) jr jr hK<;>repeat' apply ik
  all_goals first|exact trivial|(intro h;cases h;done)|exactλ_=>⟨rfl,rfl⟩|exactλ_=>r1 N|exactλ_=>r2|exactλ_=>r3
 refine rn ?_;refine⟨(ra,27,[nv,sv,pv,ov,I (D ⟨rE,0,Q⟩) A.ns<|fJ 1,B A.ty])::(gn++(gs++(gp++(go++([(rE,119,evs.set fr (I va vl vc)++eB)]++(A'++(gQ++vn))))))),⟨nv,sv,pv,ov,_,evs.set fr<|I va vl vc,gn,gs,gp,go,_,A'++(gQ++vn),O,hgn,hgs,RQ,hgo,.inr ⟨rE,A.ns,eB,O,by rw[bJ];omega,rfl⟩,?_⟩,?_⟩
 .have:=hput (I va vl vc) (zQ<|A.hx fr++[e]) gQ (by rw[Pd];exact hgb');have e2:(A.pu fr e).eg.map zQ=(A.eg.map zQ).set fr (zQ<|A.hx fr++[e]):=fZ;rw[e2];exact this
 .have G:=F.drop (A:=[_]) G;rw[lW _ _ N]at G;refine G.perm<|sU ?_;have p1:=iG (gn++(gs++(gp++go))) [(rE,119,evs.set fr (I va vl vc)++eB)]<|A'++(gQ++(vn++L));have p2:=iG ((gn++(gs++(gp++go)))++A') gQ<|vn++L;simp only[bU,bI,bN]at p1 p2|-;exact(p1.trans<|p2.cons _).cons _
def YI(hB:Bd ra A cs)(G:F S H0 H<|cs++L)(hp:1<=A.nr)(hn:A.nr<=1000)(hs:A.ns<=100000)(hl:A.eg.length=A.ns):aO Pg X 152 [pr ra] H λv T=>v=B A.ns/\∃M',Bd ra A.fr M'/\F (cs.map (·.1)) H T M':=by
 refine aO.mono (Uz (L:=[]) hB ((F.own G).cast (bq cs).symm) hp hn hs hl) ?_;rintro v T ⟨rfl,M',W,J⟩;rw[bq]at J;exact⟨O,M',W,J⟩
def Pk{fr:Nat}(hB:Bd ra A cs)(G:F S H0 H<|cs++L)(hf:fr<A.ns)(hl:A.eg.length=A.ns)(ht:A.tot<=1000000):aO Pg X 153 [B fr,.agg ⟨[B e.1,B e.2.1,B e.2.2]⟩,pr ra] H λv T=>∃M',Bd ra (A.pu fr e) M'/\F (cs.map (·.1)) H T M':=by
 refine aO.mono (YH (L:=[]) hB ((F.own G).cast (bq cs).symm) hf hl ht) ?_;rintro v T ⟨M',W,J⟩;rw[bq]at J;exact⟨M',W,J⟩
end
section
open Go.Ae Go.Ae.cs Go.Proofs.Lv
variable{S:C Nat}
structure WD where
 g:Nat
 s:Nat
 w:Nat
 ay:Nat
 fe:Nat
 lo:Nat
 p:Nat
 l:Nat
 ra:Nat
 na:aB Addr
 nc:Nat
 nn:Nat
 rs:Nat
 rl:Nat
 iK:C Z
 lcs:C Z
 ws:C Nat
 kd:Nat->Int
 zs:Nat->C Nat
 tn:Nat
 lw:Nat
abbrev WD.ps(d:WD):C Z:=[pr d.g,pr d.s,pr d.w,pr d.ay,pr d.fe,pr d.lo,pr d.p,pr d.l]
abbrev WD.wv(d:WD):Z:=.func (.func 186) ⟨[]⟩ ⟨d.ps⟩
abbrev WD.fev(d:WD):Z:=.func (.func 184) ⟨[]⟩ ⟨[pr d.p]⟩
abbrev WD.lov(d:WD):Z:=.func (.func 185) ⟨[]⟩ ⟨[pr d.ay,pr d.fe,pr d.w]⟩
abbrev WD.fv(d:WD):Z:=.func (.func 152) ⟨[]⟩ ⟨[pr d.ra]⟩
abbrev WD.pv(d:WD):Z:=.func (.func 153) ⟨[]⟩ ⟨[pr d.ra]⟩
structure WE(K:Nat->Prop)(d:WD)(H:R):Prop where
 hK:∀r,K r->r<H.next
 g:K d.g/\H.cell d.g 1=D (I d.na d.nn d.nc)
 s:K d.s/\H.cell d.s 0=D (I (D ⟨d.rs,0,Q⟩) d.nn d.nn)
 w:K d.w/\H.cell d.w 0=D d.wv
 ay:K d.ay/\H.cell d.ay 0=D d.fv
 fe:K d.fe/\H.cell d.fe 0=D d.fev
 lo:K d.lo/\H.cell d.lo 0=D d.lov
 p:K d.p/\H.cell d.p 0=D d.pv
 l:K d.l/\H.cell d.l 0=D (I (D ⟨d.rl,0,Q⟩) d.nn d.nn)
 nd:je K 238 H d.na d.nn 5 d.iK
 kid:Wp K H d.nn d.iK d.kd d.zs
 st:je K 3 H (D ⟨d.rs,0,Q⟩) d.nn 1 (fF d.ws)
 lf:je K 121 H (D ⟨d.rl,0,Q⟩) d.nn 3 d.lcs
variable{d:WD}
def WE.stay(h:WE K d H)(E:oN S H T)(G:∀r∈S,¬K r):WE K d T:=by
 have c:∀{r o v},K r/\H.cell r o=D v->K r/\T.cell r o=D v:=λ{r o v}⟨W,J⟩=>⟨W,(kr (E.obj r (h.hK r W) λy=>G r y W) o).trans J⟩;exact⟨λr y=>aR (h.hK r y) E.next,c h.g,c h.s,c h.w,c h.ay,c h.fe,c h.lo,c h.p,c h.l,h.nd.stay E λq hq=>.inl<|G q hq,λi hi=>let⟨a,c,t,xa,xn,xc,at',W,J,h3⟩:=h.kid i hi;⟨a,c,t,xa,xn,xc,at',W,J.stay E λq hq=>.inl<|G q hq,h3⟩,h.st.stay E λq hq=>.inl<|G q hq,h.lf.stay E λq hq=>.inl<|G q hq⟩
def WE.n(h:WE K d H):WE K d (hN H):=⟨h.hK,h.g,h.s,h.w,h.ay,h.fe,h.lo,h.p,h.l,h.nd,h.kid,h.st,h.lf⟩
structure RY(K:Nat->Prop)(d:WD)(S:C Nat)(H0 H:R)(cs L:C dL)(A:At):Prop where
 we:WE K d H
 nk:∀r∈cs.map (·.1),¬K r
 bd:Bd d.ra A cs
 sh:F S H0 H (cs++L)
 bu:At.Bu d.lw A
 ty:A.ty=d.tn
 pos:1<=A.nr
 few:A.nr<=1000
def RY.step(h:RY K d S H0 H cs L A)(hB:Bd d.ra A' M')(G:F (cs.map (·.1)) H T M')(g:At.Gw A A' k c)(hu:At.Bu d.lw A'):RY K d S H0 T M' L A':=
 ⟨h.we.stay G.ext h.nk,λr y hk=>by
   obtain⟨e,he,rfl⟩:=bQ.1 y;rcases(G.lo e he).1 with W|W
   .exact h.nk _ W hk
   .have:=h.we.hK _ hk;omega,hB,F.frame h.sh G,hu,g.ty.trans h.ty,by rw[g.nr];exact h.pos,by rw[g.nr];exact h.few⟩
def RY.acg(h:RY K d S H0 H cs L A)(hB:Bd d.ra A' M')(G:F (cs.map (·.1)) (hN H) T M')(g:At.Gw A A' k c)(hu:At.Bu d.lw A'):RY K d S H0 (hM H T) M' L A':=
 ⟨h.we.stay G.ext.draw h.nk,λr y hk=>by
   obtain⟨e,he,rfl⟩:=bQ.1 y;rcases(G.lo e he).1 with W|W
   .exact h.nk _ W hk
   .have J:=h.we.hK _ hk;have W:H.next<=e.1:=W
    omega,hB,F.aaR h.sh G,hu,g.ty.trans h.ty,by rw[g.nr];exact h.pos,by rw[g.nr];exact h.few⟩
section steps
variable{Kp:Z->R->Prop}{a:Nat}
def RY.fresh(h:RY K d S H0 H cs L A)(hs:A.ns<=100000)(kk:∀T M' A',RY K d S H0 T M' L A'->At.Gw A A' 1 0->A'.cur A.ns->Kp (B A.ns) T):nU Pg X (Mj d.fv) [] H Kp:=by
 show aO Pg X 152 [pr d.ra] H Kp;refine aO.mono (YI h.bd h.sh h.pos h.few hs h.bu.Ac) ?_;rintro v T ⟨rfl,M',W,J⟩;exact kk T M' _ (h.step W J (At.Gw.fr A)<|h.bu.fr h.pos) (At.Gw.fr A)<|At.ace A
theorem LA(hW:WE K d H)(hB:Bd d.ra A cs)(G:F S H0 H<|cs++L)(ha:a<A.ns)(hl:A.eg.length=A.ns)(ht:A.tot<=1000000):aO Pg X 184 [B a,B b,pr d.p] H λv T=>∃M',Bd d.ra (A.pu a (0,0,b)) M'/\F (cs.map (·.1)) H T M':=by
 refine jS [0,1,2] ?_;refine ME.ld hW.p.2 ?_;refine PU.b3 O ?_;show aO Pg X 153 [B a,_,pr d.ra] H _;refine aO.mono (Pk (e:=(0,0,b)) hB G ha hl ht) ?_;rintro v T h;exact rn<|h
def ahX(lw ty b:Nat):At.EdL lw ty (0,0,b):=.inl O
def RY.free(h:RY K d S H0 H cs L A)(ha:A.cur a)(hb:A.cur b)(ht:A.tot<=1000000)(kk:∀v T M' A',RY K d S H0 T M' L A'->At.Gw A A' 0 1->Kp v T):nU Pg X (Mj d.fev) [B a,B b] H Kp:=by
 show aO Pg X 184 [B a,B b,pr d.p] H Kp;refine aO.mono (LA h.we h.bd h.sh ha.1 h.bu.Ac ht) ?_;rintro v T ⟨M',W,J⟩;exact kk v T M' _ (h.step W J (At.Gw.pu h.bu.Ac ha.1 _)<|h.bu.puC (e:=(0,0,b)) ha hb<|ahX ..)<|At.Gw.pu h.bu.Ac ha.1 _
def RY.agD(h:RY K d S H0 H cs L A)(ha:A.cur a)(hb:A.cur b)(ht:A.tot<=1000000)(kk:∀v H1 M' A',RY K d S H0 (hM H H1) M' L A'->At.Gw A A' 0 1->oN (cs.map (·.1)) (hN H) H1->Kp v H1):nU Pg X (Mj d.fev) [B a,B b] (hN H) Kp:=by
 show aO Pg X 184 [B a,B b,pr d.p] (hN H) Kp;refine aO.mono (LA h.we.n h.bd h.sh.yh ha.1 h.bu.Ac ht) ?_;rintro v T ⟨M',W,J⟩;exact kk v T M' _ (h.acg W J (At.Gw.pu h.bu.Ac ha.1 _)<|h.bu.puC (e:=(0,0,b)) ha hb<|ahX ..) (At.Gw.pu h.bu.Ac ha.1 _) J.ext
def RY.amh(h:RY K d S H0 H cs L A)(ha:A.cur a)(hb:A.cur e.2.2)(he:At.EdL d.lw A.ty e)(ht:A.tot<=1000000)(kk:∀v H1 M' A',RY K d S H0 (hM H H1) M' L A'->At.Gw A A' 0 1->oN (cs.map (·.1)) (hN H) H1->Kp v H1):nU Pg X (Mj d.pv) [B a,.agg ⟨[B e.1,B e.2.1,B e.2.2]⟩] (hN H) Kp:=by
 show aO Pg X 153 [B a,_,pr d.ra] (hN H) Kp;refine aO.mono (Pk (e:=e) h.bd h.sh.yh ha.1 h.bu.Ac ht) ?_;rintro v T ⟨M',W,J⟩;exact kk v T M' _ (h.acg W J (At.Gw.pu h.bu.Ac ha.1 _)<|h.bu.puC ha hb he) (At.Gw.pu h.bu.Ac ha.1 _) J.ext
def ahY(d:WD)(i:Nat)(A:At)(cs:C dL)(H:R)(v:Z)(T:R):Prop:=∃A' M' to c,v=B to/\Bd d.ra A' M'/\F (cs.map (·.1)) H T M'/\At.Gw A A' (h1 d.ws i) c/\c<=2*h1 d.ws i/\At.Bu d.lw A'/\A'.cur to
def I1(K:Nat->Prop)(d:WD)(i:Nat):Prop:=∀{S:C Nat}{H0 H:R}{cs L:C dL}{A:At}{fr:Nat},RY K d S H0 H cs L A->A.ns+h1 d.ws i<=4000->A.tot+2*h1 d.ws i<=20000->A.cur fr->aO Pg X 186 (B i::B fr::d.ps) H (ahY d i A cs H)
def RY.way{fr:Nat}(hw:I1 K d i)(h:RY K d S H0 H cs L A)(W:A.ns+h1 d.ws i<=4000)(J:A.tot+2*h1 d.ws i<=20000)(hf:A.cur fr)(kk:∀to T M' A' c,RY K d S H0 T M' L A'->At.Gw A A' (h1 d.ws i) c->c<=2*h1 d.ws i->A'.cur to->Kp (B to) T):nU Pg X (Mj d.wv) [B i,B fr] H Kp:=by
 show aO Pg X 186 (B i::B fr::d.ps) H Kp;refine aO.mono (hw h W J hf) ?_;rintro v T ⟨A',M',to,c,rfl,g1,g2,g3,g4,g5,g6⟩;exact kk to T M' A' c (h.step g1 g2 g3 g5) g3 g4 g6
def RY.n(h:RY K d S H0 H cs L A):RY K d S (hN H0) (hN H) cs L A:=⟨h.we.n,h.nk,h.bd,h.sh.yh,h.bu,h.ty,h.pos,h.few⟩
def RY.ahZ{fr:Nat}(hw:I1 K d i)(h:RY K d S H0 H cs L A)(W:A.ns+h1 d.ws i<=4000)(J:A.tot+2*h1 d.ws i<=20000)(hf:A.cur fr)(kk:∀to H1 M' A' c,RY K d S H0 (hM H H1) M' L A'->At.Gw A A' (h1 d.ws i) c->c<=2*h1 d.ws i->A'.cur to->oN (cs.map (·.1)) (hN H) H1->Kp (B to) H1):nU Pg X (Mj d.wv) [B i,B fr] (hN H) Kp:=by
 show aO Pg X 186 (B i::B fr::d.ps) (hN H) Kp;refine aO.mono (hw h.n W J hf) ?_;rintro v T ⟨A',M',to,c,rfl,g1,g2,g3,g4,g5,g6⟩;exact kk to T M' A' c (h.acg g1 g2 g3 g5) g3 g4 g6 g2.ext
end steps
end
variable{d:WD}
section
open Go.Ae Go.Ae.cs Go.Proofs.Lv
variable{S:C Nat}
def RY.ext{H1:R}{L':C dL}(h:RY K d S H0 H cs L A)(E:Ext H H1)(G:F S H0 H1<|cs++L'):RY K d S H0 H1 cs L' A:=⟨h.we.stay E<|nofun,h.nk,h.bd,G,h.bu,h.ty,h.pos,h.few⟩
def RY.own(h:RY K d S H0 H cs L A):RY K d (cs.map (·.1)) H H cs [] A:=⟨h.we,h.nk,h.bd,(F.own h.sh).cast (bq cs).symm,h.bu,h.ty,h.pos,h.few⟩
def RY.fin(h:RY K d S H0 H cs L A):F S H0 H cs:=h.sh.sub<|eD cs L
theorem RY.akt(h:RY K d S H0 H cs [] A)(hS1:F [] H H1 [(r,ty,M)]):RY K d S H0 H1 cs [(r,ty,M)] A:=
 h.ext hS1.ext ((F.frame (cs:=[]) (L:=cs) h.fin hS1).perm<|aG (l₁:=[_]))
def RY.not(h:RY K d S H0 H cs L A)(y:K r\/∃e∈L,e.1=r):r<H.next/\r∉cs.map (·.1):=by
 rcases y with y|⟨e,he,rfl⟩
 .exact⟨h.we.hK r y,λhm=>h.nk r hm y⟩
 .refine⟨(h.sh.lo e<|cZ _ he).2,λhm=>?_⟩;have⟨x,E,e2⟩:=bQ.1 hm;exact h.sh.apart E he e2
def RY.rd{w:Cl}(h:RY K d S H0 H cs L A)(E:oN (cs.map (·.1)) (hN H) H3)(y:K r\/∃e∈L,e.1=r)(hc:H.cell r o=D v)(hs:nG v v=f)(hw:w.a=H/\w.b=H3):mY w ⟨4,r,o,1,hh0,hh0⟩=f:=
 aep hw E (h.not y).1 (h.not y).2 (QO hc) (λv hv=>by rw[aP]at hv;subst hv;exact hs)
theorem RY.keep(h:RY K d S H0 H cs L A)(E:oN (cs.map (·.1)) (hN H) H3)(y:K r\/∃e∈L,e.1=r)(hc:H.cell r o=D v):(hM H H3).cell r o=D v:=
 (kr (T:=hM H H3) (E.obj r (h.not y).1 (h.not y).2) o).trans hc
def Pm:nG (.func (.func g) ⟨[]⟩ ⟨l.map pr⟩) (.func (.func g) ⟨[]⟩ ⟨l.map pr⟩)=f:=aaZ g λv hv=>by
 obtain⟨r,_,rfl⟩:=bQ.1 hv;exact⟨r,O⟩
theorem Po(d:WD):nG d.wv d.wv=f:=Pm (l:=[d.g,d.s,d.w,d.ay,d.fe,d.lo,d.p,d.l])
theorem RS(d:WD):nG d.fev d.fev=f:=Pm (l:=[d.p])
theorem aeO(d:WD):nG d.pv d.pv=f:=Pm (l:=[d.ra])
def ami{SH:Nat->Prop}{n:Nat}{zs:C Nat}(h:je SH 3 H a n 1<|fF zs)(hz:zs[k]?=D z)(hk:k<n):∃r o,a=D ⟨r,o,Q⟩/\SH r/\H.cell r (o+k)=D (B z)/\zN 1 (I a n c) (B k)=D (.pointer<|D ⟨r,o+k,Q⟩):=by
 obtain⟨r,o,W,J,h3,o0,rfl,rfl⟩:=h.1.idx (c:=c) (dM 0) hk;have hc:=h3 0 (B z) (dM 0) (by rw[dz,dH];exact jR _ hz);rw[dz,dH]at hc;rw[dz]at W;exact⟨r,o0,O,(h.2 r o0 O N).1,hc,W⟩
def NS{n:Nat}{kd at':Int}(hW:WE K d H)(hi:i<d.nn)(he:El d.iK 5 i=[vi kd,I ka n kc,.string t,I xa xn xc,vi at'])(hj:(d.zs i)[j]?=D z):∃r o,ka=D ⟨r,o,Q⟩/\K r/\H.cell r (o+j)=D (B z)/\zN 1 (I ka n kc) (B j)=D (.pointer<|D ⟨r,o+j,Q⟩)/\n=(d.zs i).length:=by
 have⟨a,c,t',xa',xn',xc',at2,he2,hf,_⟩:=hW.kid i hi;rw[he]at he2;cases he2;have⟨r,o,W,J,h3,h4⟩:=ami (c:=kc) hf hj (bE.1 hj).1;exact⟨r,o,W,J,h3,h4,O⟩
theorem Ho{fr:Nat}{kd at':Int}(hwz:I1 K d z)(h:RY K d S H0 H cs L A)(hi:i<d.nn)(he:El d.iK 5 i=[vi kd,I ka 1 kc,.string t,I xa xn xc,vi at'])(hz:(d.zs i)[0]?=D z)(hn:A.ns+(3+h1 d.ws z)<=4000)(ht:A.tot+2*(3+h1 d.ws z)<=20000)(hf:A.cur fr):
 aO Pg X 185 [.agg ⟨[vi kd,I ka 1 kc,.string t,I xa xn xc,vi at']⟩,B fr,pr d.ay,pr d.fe,pr d.w] H λv T=>∃A' M' to c,v=B to/\Bd d.ra A' M'/\F (cs.map (·.1)) H T M'/\At.Gw A A' (3+h1 d.ws z) c/\c<=2*(3+h1 d.ws z)/\At.Bu d.lw A'/\A'.cur to:=by
 have h:=h.own;obtain⟨rk,ok,rfl,_⟩:=NS h.we hi he hz;refine jS [0,1,2,3,4,5,7,8,9,10,11] ?_;refine(F.refl h.sh.wf).box O λH1 rb hS1=>?_;have hx1:=hS1.ext;have h:RY K d (cs.map (·.1)) H H1 cs [(rb,238,[vi kd,I (D ⟨rk,ok,Q⟩) 1 kc,.string t,I xa xn xc,vi at'])] A:=h.akt hS1
 have hm:∀{T M' A'},RY K d (cs.map (·.1)) H T M' [(rb,238,[vi kd,I (D ⟨rk,ok,Q⟩) 1 kc,.string t,I xa xn xc,vi at'])] A'->T.cell rb 0=D (vi kd)/\T.cell rb 1=D (I (D ⟨rk,ok,Q⟩) 1 kc):=λh=>by
  have hb:=h.sh.bk _<|cZ _<|aN ..
  exact⟨hb.cell O,hb.cell O⟩
 refine ME.ld h.we.ay.2 ?_;refine h.fresh N λH2 M2 A1 h g1 c1=>?_;have hf:=hf.gw g1;have n1:=g1.ns;have t1:=g1.tt;refine ME.ld h.we.fe.2<|h.free hf c1 N λ_ H3 M3 A2 h g2=>?_;have g:=g1.trans g2;have n2:=g2.ns;have t2:=g2.tt;refine ME.ld h.we.ay.2<|h.fresh N λH4 M4 A3 h g3 c3=>?_;have g:=g.trans g3;have n3:=g3.ns;have t3:=g3.tt;refine ME.ld h.we.ay.2<|h.fresh N λH5 M5 A4 h g4 c4=>?_;have g:=g.trans g4;have n4:=g4.ns;have t4:=g4.tt;have cd:=((c1.gw g2).gw g3).gw g4;have ce:=c3.gw g4;refine ME.ld h.we.fe.2<|h.free cd c4 N λ_ H6 M6 A5 h g5=>?_;have g:=g.trans g5;have n5:=g5.ns;have t5:=g5.tt;have cd:=cd.gw g5;have ce:=ce.gw g5;have cb:=c4.gw g5;refine bG ?_;refine ME.ld (hm h).1 ?_;refine bG ?_
 have tl:∀bk,A5.cur bk->∀{x0 x1 ni},gK Pg X (sub OU [1,1,1,1,1,1,1,1]) (Mw x0 x1 (pr d.ay) (pr d.fe) (pr d.w) (pr rb) (vi 0) (B A.ns) (B A2.ns) (B A3.ns) (B bk) ni H6) (jL Pg [.tmp 7] λv T=>∃A' M' to c,v=B to/\Bd d.ra A' M'/\F (cs.map (·.1)) H T M'/\At.Gw A A' (3+h1 d.ws z) c/\c<=2*(3+h1 d.ws z)/\At.Bu d.lw A'/\A'.cur to):=by
  intro bk cbk x0 x1 ni;refine tl<|ME.ld (H:=hN H6) h.we.fe.2 ?_;simp only[gN h.sh.wf];refine ME.ld (H:=hN H6) h.we.w.2 ?_;simp only[gN h.sh.wf,PP];refine ME.ld (H:=hN H6) (hm h).2 ?_;simp only[gN h.sh.wf];have⟨rk',ok',e1,hKr,hkc,hid,_⟩:=NS h.we hi he hz;cases e1;refine PU.of hid<|ME.ld (H:=hN H6) hkc ?_;simp only[gN h.sh.wf];have h6:=h;refine h.ahZ hwz N N cb λto H7 M7 A7 c7 h g7 b7 cto hx7=>?_;have n7:=g7.ns;have t7:=g7.tt;have g:=g.trans g7;refine h.agD cto (cbk.gw g7) N λv8 H8 M8 A8 h8 g8 Bg=>?_;have n8:=g8.ns;have t8:=g8.tt;have g:=g.trans g8;refine(show∀K:Prop,K->_/\K fromλKz hK=>?_) _ ?_
  .have rd:∀{r o v},(K r\/∃e∈[((rb,238,[vi kd,I (D ⟨rk,ok,Q⟩) 1 kc,.string t,I xa xn xc,vi at']):dL)],e.1=r)->H6.cell r o=D v->nG v v=f->∀w:Cl,((w.a=H6/\w.b=H7)\/(w.a=hM H6 H7/\w.b=H8))->mY w ⟨4,r,o,1,hh0,hh0⟩=f:=by
    intro r o v y hc hs w hw;rcases hw with hw|hw
    .exact h6.rd hx7 y hc hs hw
    .exact h.rd Bg y (h6.keep hx7 y hc) hs hw
   have r1:=rd (.inl h6.we.fe.1) h6.we.fe.2<|RS d;have r2:=rd (.inl h6.we.w.1) h6.we.w.2<|Po d;have r3:=rd (.inr ⟨_,aN ..,O⟩) (hm h6).2 (oF _ _ _ λx h=>by cases h;rfl);have r4:=rd (.inl hKr) hkc<|sH _ _;simp only[d_];rcases vQ H6 H7 with e|e<;>rw[e]<;>rcases vQ (hM H6 H7) H8 with e|e<;>rw[e]<;>apply C_ (H':=λw=>(w.a=H6/\w.b=H7)\/(w.a=hM H6 H7/\w.b=H8)) jr jr hK<;>repeat' apply ik
   all_goals first|exact trivial|(intro h;cases h;done)|exactλ_=>.inl ⟨rfl,rfl⟩|exactλ_=>.inr ⟨rfl,rfl⟩|exactλ_=>r1|exactλ_=>r2|exactλ_=>r3|exactλ_=>r4
  refine ME.ld h8.we.fe.2<|h8.free ((cd.gw g7).gw g8) ((ce.gw g7).gw g8) N λ_ H9 M9 A9 h9 g9=>?_;have g:=g.trans g9;have n9:=g9.ns;have t9:=g9.tt;refine rr ?_;exact⟨A9,M9,A2.ns,_,O,h9.bd,(h9.sh.sub<|eD M9 _),g.cast N O,N,h9.bu,((ce.gw g7).gw g8).gw g9⟩
 refine aT (λhc=>?_) λhc=>?_
 .exact tl _ cd
 .exact tl _ ce
end
section
open Go.Ae Go.Ae.cs Go.Proofs.Lv
variable{S:C Nat}
def NT{kd:Int}(hz:l[k]?=D z):qI ws kd (l.take<|k+1)=qI ws kd (l.take k)+(h1 ws z+Jk kd):=by
 unfold qI;rw[eH,hz];show(List.map _<|_++[_]).sum=_;rw[dA,lN];rfl
def Wy(ws:C Nat)(kd:Int)(l:C Nat)(k:Nat):qI ws kd (l.take k)<=qI ws kd l:=by
 have:qI ws kd l=qI ws kd (l.take k)+qI ws kd (l.drop k):=by
  unfold qI;rw[<-lN,<-dA,iP]
 omega
structure WQ(d:WD):Prop where
 nn:d.nn<=4000
 sz:∀j,j<d.nn->Gd d.kd d.zs d.ws j
 lf:∀j,j<d.nn->wJ d.tn d.lw (El d.lcs 3 j)
def WE.vH{Kp:Z->Z->R->Prop}(hW:WE K d H)(hz:z<d.nn)(kk:∀p,Kp p (B<|h1 d.ws z) H):PU (zN 1 (I (D ⟨d.rs,0,Q⟩) d.nn d.nn)<|B z) λp=>ME (Go.Ae.vH Q p H) (Kp p):=by
 have hl:d.ws.length=d.nn:=by have:=hW.st.1.1;simpa using this
 refine hW.st.ix hz ?_ kk;rw[bF,av (show z<d.ws.length by omega)];show _=D (B<|d.ws[z]?.getD 0);rw[av (show z<d.ws.length by omega)];rfl
theorem ach{fr:Nat}(hQ:WQ d)(h:RY K d (cs.map (·.1)) H0 H cs [(rb,238,M)] A)(hi:i<d.nn)(hn:A.ns+1<=4000)(ht:A.tot+2<=20000)(hf:A.cur fr)(kk:∀A' M' to c T,Bd d.ra A' M'->F (cs.map (·.1)) H0 T M'->At.Gw A A' 1 c->c<=2->At.Bu d.lw A'->A'.cur to->au (B to) T):
 gK Pg X (sub mI [1,1,1]) (vo (B i) (B fr) (pr d.g) (pr d.s) (pr d.w) (pr d.ay) (pr d.fe) (pr d.lo) (pr d.p) (pr d.l) kW jI lH pG yo uC x20 xJ DV yx x24 x25 x32 LW Aq x38 x64 Zh x66 ni H) (jL Pg [.tmp 12] au):=by
 refine tl<|ME.ld h.we.ay.2<|h.fresh N λH1 M1 A1 h g1 c1=>?_;have n1:=g1.ns;have t1:=g1.tt;refine ME.ld (H:=hN H1) h.we.p.2 ?_;simp only[gN h.sh.wf];refine ME.ld (H:=hN H1) h.we.l.2 ?_;simp only[gN h.sh.wf];have⟨r,o,e1,e2,e3,o0,e4,_⟩:=h.we.lf.1.idx (c:=d.nn) N hi;cases e4;have⟨k1,a1,hle,hlp⟩:=hQ.lf i hi
 have cell:∀ay x,ay<3->[B k1,B a1,B 0][ay]?=D x->H1.cell d.rl (o+ay)=D x:=λay x hf3 E=>by
  refine e3 ay x hf3 ?_;have:=dW (λl=>l[ay]?) hle;simp only[mR,if_pos hf3]at this;rw[this];exact E
 have hKl:K d.rl:=(h.we.lf.2 d.rl 0 O N).1;refine PU.of e1<|bG ?_;refine ME.ld (H:=hN H1) (by have:=cell 0 _ N O;rwa [dH]at this) ?_;simp only[gN h.sh.wf];refine ME.ld (H:=hN H1) h.we.l.2 ?_;simp only[gN h.sh.wf];refine PU.of e1<|bG ?_;refine ME.ld (H:=hN H1) (cell 1 _ N O) ?_;simp only[gN h.sh.wf];refine PU.b3 O ?_;have W:=h
 refine h.amh (e:=(k1,a1,A.ns)) (hf.gw g1) c1 (by
  unfold At.EdL;rw[h.ty];rcases hlp with hlp|⟨p1,p2⟩|⟨p1,p2⟩
  .exact .inl hlp
  .exact .inr<|.inl ⟨p1,p2⟩
  .exact .inr<|.inr ⟨p1,p2⟩) N λv H2 M2 A2 h g2 hx2=>?_
 have n2:=g2.ns;have t2:=g2.tt;refine(show∀K:Prop,K->_/\K fromλKz hK=>?_) _ ?_
 .have rd:∀{r o v},K r->H1.cell r o=D v->nG v v=f->∀w:Cl,(w.a=H1/\w.b=H2)->mY w ⟨4,r,o,1,hh0,hh0⟩=f:=λy hc hs w hw=>W.rd hx2 (.inl y) hc hs hw;have r1:=rd W.we.p.1 W.we.p.2<|aeO d;have r2:=rd W.we.l.1 W.we.l.2 (oF _ _ _ λx h=>by cases h;rfl);have r3:=rd hKl (by have:=cell 0 _ N O;rwa [dH]at this)<|sH _ _;have r4:=rd hKl (cell 1 _ N O)<|sH _ _;simp only[d_];rcases vQ H1 H2 with e|e<;>rw[e]<;>apply C_ (H':=λw=>w.a=H1/\w.b=H2) jr jr hK<;>repeat' apply ik
  all_goals first|exact trivial|(intro h;cases h;done)|exactλ_=>⟨rfl,rfl⟩|exactλ_=>r1|exactλ_=>r2|exactλ_=>r3|exactλ_=>r4
 exact rr<|(kk A2 M2 A.ns _ _ h.bd (h.sh.sub<|eD M2 _) (g1.trans g2) N h.bu<|c1.gw g2)
end
section
open Go.Ae Go.Ae.cs Go.Proofs.Lv
variable{S:C Nat}
def Wp.row{SH:Nat->Prop}(h:Wp SH H nn iK kd zs)(hi:i<nn):∃(a:aB Addr)(c:Nat)(t:aV)(xa:aB Addr)(xn xc:Nat)(at':Int),El iK 5 i=[vi (kd i),.slice a (zs i).length c,.string t,I xa xn xc,vi at']/\Ld (kd i) (zs i).length/\(∀z∈zs i,z<i)/\(zs i).length<=20001:=let⟨a,c,t,xa,xn,xc,at',W,_,h3,h4,_,h6⟩:=h i hi;⟨a,c,t,xa,xn,xc,at',W,h3,h4,h6⟩
section
variable{fr:Nat}{at':Int}
def aeP(hQ:WQ d)(ih:∀z,z<i->I1 K d z)(h:RY K d (cs.map (·.1)) H0 H cs [(rb,238,[vi (d.kd i),.slice ka (d.zs i).length kc,.string t,I xa xn xc,vi at'])] A)(hi:i<d.nn)(W:d.kd i=1)(he:El d.iK 5 i=[vi (d.kd i),.slice ka (d.zs i).length kc,.string t,I xa xn xc,vi at'])(hz:∀z∈d.zs i,z<i)(hzl:(d.zs i).length<=20001)(hn:A.ns+qI d.ws (d.kd i) (d.zs i)<=4000)(ht:A.tot+2*qI d.ws (d.kd i) (d.zs i)<=20000)(hf:A.cur fr)(kk:∀A' M' to c T,Bd d.ra A' M'->F (cs.map (·.1)) H0 T M'->At.Gw A A' (qI d.ws (d.kd i)<|d.zs i) c->c<=2*qI d.ws (d.kd i) (d.zs i)->At.Bu d.lw A'->A'.cur to->au (B to) T):
 gK Pg X (.loop<|sub mI [1,1,0,1,0,1,0,0,1,0,0]) (vo (B i) (B fr) (pr d.g) (pr d.s) (pr d.w) (pr d.ay) (pr d.fe) (pr d.lo) (pr d.p) (pr d.l) kW (pr rb) lH pG yo uC x20 xJ DV yx x24 x25 x32 (.slice ka (d.zs i).length kc) (B (d.zs i).length) (B 0) x64 Zh x66 ni H) (sw 1<|t_ Pg X (sub mI [1,1,0,1,0,1,0,1])<|sw 0<|t_ Pg X (sub mI [1,1,1])<|jL Pg [.tmp 12] au):=by
 have hal:Jk (d.kd i)=0:=by unfold Jk;rw[if_neg N]
 refine FY 1 15 38 (ai:=λm x1 lH x38 T=>∃k fk A' M' c,x38=B k/\k+m=(d.zs i).length/\x1=B fk/\RY K d (cs.map (·.1)) H0 T M' [(rb,238,[vi (d.kd i),.slice ka (d.zs i).length kc,.string t,I xa xn xc,vi at'])] A'/\At.Gw A A' (qI d.ws (d.kd i)<|(d.zs i).take k) c/\c<=2*qI d.ws (d.kd i) ((d.zs i).take k)/\A'.cur fk) ?_ (d.zs i).length ⟨0,fr,A,cs,0,rfl,N,rfl,h,(At.Gw.refl A).cast (by simp[qI]) O,bA _,hf⟩;clear h hf;rintro m x1 lH x38 ni H1 ⟨k,fk,A1,M1,c,rfl,hkm,rfl,h,g,hc,hf⟩;refine kX (λhc2=>?_) λhc2=>?_
 .obtain rfl:k=(d.zs i).length:=N;rw[qO]at g hc;refine tp ?_;exact rr<|(kk A1 M1 fk c H1 h.bd (h.sh.sub<|eD M1 _) g hc h.bu hf)
 have hk:k<(d.zs i).length:=N;have Si:(d.zs i)[k]?=D (d.zs i)[k]:=av hk;have hzi:=hz _<|bB hk;generalize(d.zs i)[k]=z at Si hzi;have hks:=NT (ws:=d.ws) (kd:=d.kd i) Si;have hkl:=Wy d.ws (d.kd i) (d.zs i)<|k+1;have n1:=g.ns;have t1:=g.tt;obtain⟨r,o,rfl,hKr,hcell,hid,_⟩:=NS h.we hi he Si;refine PU.of hid<|ME.ld hcell<|ME.ld h.we.s.2<|h.we.vH N λp=>?_;refine rV (λhc3=>?_) λhc3=>?_
 .refine ME.ld h.we.w.2<|h.way (ih z hzi) N N hf λto H2 M2 A2 c2 h g2 hc2' hto=>?_;refine dQ ?_;exact⟨(d.zs i).length-(k+1),N,_,_,_,_,_,O,k+1,to,A2,M2,c+c2,og,N,O,h,(g.trans g2).cast N O,N,hto⟩
 .refine dQ ?_;exact⟨(d.zs i).length-(k+1),N,_,_,_,_,_,O,k+1,fk,A1,M1,c,og,N,O,h,g.cast N O,N,hf⟩
theorem aeQ{d0 e0:Nat}(hQ:WQ d)(ih:∀z,z<i->I1 K d z)(h:RY K d (cs.map (·.1)) H0 H M1 [(rb,238,[vi (d.kd i),.slice ka (d.zs i).length kc,.string t,I xa xn xc,vi at'])] A1)(g1:At.Gw A A1 2 c1)(hc1:c1<=1)(hd0:A1.cur d0)(he0:A1.cur e0)(hi:i<d.nn)(W:d.kd i=0)(he:El d.iK 5 i=[vi (d.kd i),.slice ka (d.zs i).length kc,.string t,I xa xn xc,vi at'])(hz:∀z∈d.zs i,z<i)(hzl:(d.zs i).length<=20001)(hn:A.ns+(2+qI d.ws (d.kd i) (d.zs i))<=4000)(ht:A.tot+2*(2+qI d.ws (d.kd i) (d.zs i))<=20000){x1:Z}(kk:∀A' M' to c T,Bd d.ra A' M'->F (cs.map (·.1)) H0 T M'->At.Gw A A' (2+qI d.ws (d.kd i) (d.zs i)) c->c<=2*(2+qI d.ws (d.kd i) (d.zs i))->At.Bu d.lw A'->A'.cur to->au (B to) T):
 gK Pg X (.loop<|sub mI [1,1,0,1,0,1,1,1,0,1,1,1,0,1,0,0]) (vo (B i) x1 (pr d.g) (pr d.s) (pr d.w) (pr d.ay) (pr d.fe) (pr d.lo) (pr d.p) (pr d.l) kW jI lH (B d0) (B e0) uC x20 xJ DV yx x24 x25 x32 LW Aq x38 (.slice ka (d.zs i).length kc) (B (d.zs i).length) (B 0) ni H) (sw 3<|t_ Pg X (sub mI [1,1,0,1,0,1,1,1,0,1,1,1,1])<|sw 0<|t_ Pg X (sub mI [1,1,1])<|jL Pg [.tmp 12] au):=by
 have hal:Jk (d.kd i)=1:=by unfold Jk;rw[if_pos W]
 refine FY 19 20 66 (ai:=λm uC x20 x66 T=>∃k A' M' c,x66=B k/\k+m=(d.zs i).length/\RY K d (cs.map (·.1)) H0 T M' [(rb,238,[vi (d.kd i),.slice ka (d.zs i).length kc,.string t,I xa xn xc,vi at'])] A'/\At.Gw A A' (2+qI d.ws (d.kd i) ((d.zs i).take k)) c/\c+3<=2*(2+qI d.ws (d.kd i) ((d.zs i).take k))/\A'.cur d0/\A'.cur e0) ?_ (d.zs i).length ⟨0,A1,M1,c1,rfl,N,h,g1.cast (by simp[qI]) O,N,hd0,he0⟩;clear h hd0 he0 g1 hc1;rintro m uC x20 x66 ni H1 ⟨k,A2,M2,c,rfl,hkm,h,g,hc,hd0,he0⟩;refine kX (λhc2=>?_) λhc2=>?_
 .obtain rfl:k=(d.zs i).length:=N;rw[qO]at g hc;refine tp ?_;exact rr<|(kk A2 M2 e0 c H1 h.bd (h.sh.sub<|eD M2 _) g N h.bu he0)
 have hk:k<(d.zs i).length:=N;have Si:(d.zs i)[k]?=D (d.zs i)[k]:=av hk;have hzi:=hz _<|bB hk;generalize(d.zs i)[k]=z at Si hzi;have hks:=NT (ws:=d.ws) (kd:=d.kd i) Si;have hkl:=Wy d.ws (d.kd i) (d.zs i)<|k+1;have n1:=g.ns;have t1:=g.tt;obtain⟨r,o,rfl,hKr,hcell,hid,_⟩:=NS h.we hi he Si;refine PU.of hid<|ME.ld hcell<|ME.ld h.we.ay.2<|h.fresh N λH2 M2 A3 h g3 cb=>?_;have n3:=g3.ns;have t3:=g3.tt;have g:=g.trans g3;have hd0:=hd0.gw g3;have he0:=he0.gw g3;refine ME.ld h.we.fe.2<|h.free hd0 cb N λ_ H3 M3 A4 h g4=>?_;have n4:=g4.ns;have t4:=g4.tt;have g:=g.trans g4;have hd0:=hd0.gw g4;have he0:=he0.gw g4;have cb:=cb.gw g4;refine ME.ld (H:=hN H3) h.we.fe.2 ?_;simp only[gN h.sh.wf];refine ME.ld (H:=hN H3) h.we.w.2 ?_;simp only[gN h.sh.wf];have h6:=h;refine h.ahZ (ih z hzi) N N cb λto H4 M4 A5 c5 h g5 b5 cto hx4=>?_;have n5:=g5.ns;have t5:=g5.tt;have g:=g.trans g5;have hd0:=hd0.gw g5;have he0:=he0.gw g5;refine h.agD cto he0 N λv5 H5 M5 A6 h8 g6 hx5=>?_;have n6:=g6.ns;have t6:=g6.tt;have g:=g.trans g6;refine(show∀K:Prop,K->_/\K fromλKz hK=>?_) _ ?_
 .have rd:∀{r o v},K r->H3.cell r o=D v->nG v v=f->∀w:Cl,((w.a=H3/\w.b=H4)\/(w.a=hM H3 H4/\w.b=H5))->mY w ⟨4,r,o,1,hh0,hh0⟩=f:=by
   intro r o v y hc hs w hw;rcases hw with hw|hw
   .exact h6.rd hx4 (.inl y) hc hs hw
   .exact h.rd hx5 (.inl y) (h6.keep hx4 (.inl y) hc) hs hw
  have r1:=rd h6.we.fe.1 h6.we.fe.2<|RS d;have r2:=rd h6.we.w.1 h6.we.w.2<|Po d;simp only[d_];rcases vQ H3 H4 with e|e<;>rw[e]<;>rcases vQ (hM H3 H4) H5 with e|e<;>rw[e]<;>apply C_ (H':=λw=>(w.a=H3/\w.b=H4)\/(w.a=hM H3 H4/\w.b=H5)) jr jr hK<;>repeat' apply ik
  all_goals first|exact trivial|(intro h;cases h;done)|exactλ_=>.inl ⟨rfl,rfl⟩|exactλ_=>.inr ⟨rfl,rfl⟩|exactλ_=>r1|exactλ_=>r2
 refine dQ ?_;exact⟨(d.zs i).length-(k+1),N,_,_,_,_,_,O,k+1,A6,M5,_,og,N,h8,g.cast N O,N,hd0.gw g6,he0.gw g6⟩
end
end
section
open Go.Ae Go.Ae.cs Go.Proofs.Lv
variable{S:C Nat}
theorem aci{fr:Nat}{at':Int}(hwz:I1 K d z)(h:RY K d (cs.map (·.1)) H0 H cs [(rb,238,[vi (d.kd i),I ka 1 kc,.string t,I xa xn xc,vi at'])] A)(hi:i<d.nn)(h4:d.kd i=4)(he:El d.iK 5 i=[vi (d.kd i),I ka 1 kc,.string t,I xa xn xc,vi at'])(hz:(d.zs i)[0]?=D z)(hn:A.ns+(3+h1 d.ws z)<=4000)(ht:A.tot+2*(3+h1 d.ws z)<=20000)(hf:A.cur fr)(hlk:Bc ni 85=.bool aC)(kk:∀A' M' to c T,Bd d.ra A' M'->F (cs.map (·.1)) H0 T M'->At.Gw A A' (3+h1 d.ws z) c->c<=2*(3+h1 d.ws z)->At.Bu d.lw A'->A'.cur to->au (B to) T):
 gK Pg X (sub mI [1,1,0,1,0,1,1,1,1,1]) (vo (B i) (B fr) (pr d.g) (pr d.s) (pr d.w) (pr d.ay) (pr d.fe) (pr d.lo) (pr d.p) (pr d.l) kW (pr rb) lH pG yo uC x20 xJ DV yx x24 x25 (vi<|d.kd i) LW Aq x38 x64 Zh x66 ni H) (sw 0<|t_ Pg X (sub mI [1,1,1])<|jL Pg [.tmp 12] au):=by
 obtain⟨rk,ok,rfl,_⟩:=NS h.we hi he hz
 have hm:∀{T M' A'},RY K d (cs.map (·.1)) H0 T M' [(rb,238,[vi (d.kd i),I (D ⟨rk,ok,Q⟩) 1 kc,.string t,I xa xn xc,vi at'])] A'->T.cell rb 1=D (I (D ⟨rk,ok,Q⟩) 1 kc):=λh=>by
  have hb:=h.sh.bk _<|cZ _<|aN ..
  exact hb.cell O
 refine tl ?_;rw[hlk];refine bG ?_;refine aT (λ_=>?_) λhc=>absurd h4 hc;refine ME.ld h.we.ay.2<|h.fresh N λH1 M1 A1 h g1 cb=>?_;have n1:=g1.ns;have t1:=g1.tt;refine ME.ld h.we.fe.2<|h.free (hf.gw g1) cb N λ_ H2 M2 A2 h g2=>?_;have n2:=g2.ns;have t2:=g2.tt;have g:=g1.trans g2;have cb:=cb.gw g2;refine ME.ld (H:=hN H2) h.we.w.2 ?_;simp only[gN h.sh.wf,PP];have hmc:=hm h;refine ME.ld (H:=hN H2) hmc ?_;simp only[gN h.sh.wf];have⟨rk',ok',e1,hKr,hkc,hid,_⟩:=NS h.we hi he hz;cases e1;refine PU.of hid<|ME.ld (H:=hN H2) hkc ?_;simp only[gN h.sh.wf];have h6:=h;refine h.ahZ hwz N N cb λla H3 M3 A3 c3 h g3 b3 cl hx3=>?_;have n3:=g3.ns;have t3:=g3.tt;have g:=g.trans g3;have cb:=cb.gw g3;refine(show∀K:Prop,K->_/\K fromλKz hK=>?_) _ ?_
 .have rd:∀{r o v},(K r\/∃e∈[((rb,238,[vi (d.kd i),I (D ⟨rk,ok,Q⟩) 1 kc,.string t,I xa xn xc,vi at']):dL)],e.1=r)->H2.cell r o=D v->nG v v=f->∀w:Cl,(w.a=H2/\w.b=H3)->mY w ⟨4,r,o,1,hh0,hh0⟩=f:=λy hc hs w hw=>h6.rd hx3 y hc hs hw;have r2:=rd (.inl h6.we.w.1) h6.we.w.2<|Po d;have r3:=rd (.inr ⟨_,aN ..,O⟩) (hm h6) (oF _ _ _ λx h=>by cases h;rfl);have r4:=rd (.inl hKr) hkc<|sH _ _;simp only[d_];rcases vQ H2 H3 with e|e<;>rw[e]<;>apply C_ (H':=λw=>w.a=H2/\w.b=H3) jr jr hK<;>repeat' apply ik
  all_goals first|exact trivial|(intro h;cases h;done)|exactλ_=>⟨rfl,rfl⟩|exactλ_=>r2|exactλ_=>r3|exactλ_=>r4
 refine ME.ld h.we.ay.2<|h.fresh N λH4 M4 A4 h g4 cd=>?_;have n4:=g4.ns;have t4:=g4.tt;have g:=g.trans g4;have cl:=cl.gw g4;have cb:=cb.gw g4;refine ME.ld h.we.fe.2<|h.free cl cd N λ_ H5 M5 A5 h g5=>?_;have n5:=g5.ns;have t5:=g5.tt;have g:=g.trans g5;have cd:=cd.gw g5;have cb:=cb.gw g5;refine ME.ld h.we.fe.2<|h.free cd cb N λ_ H6 M6 A6 h g6=>?_;have n6:=g6.ns;have t6:=g6.tt;have g:=g.trans g6;have cd:=cd.gw g6;refine ME.ld h.we.ay.2<|h.fresh N λH7 M7 A7 h g7 ce=>?_;have n7:=g7.ns;have t7:=g7.tt;have g:=g.trans g7;have cd:=cd.gw g7;refine ME.ld h.we.fe.2<|h.free cd ce N λ_ H8 M8 A8 h g8=>?_;have n8:=g8.ns;have t8:=g8.tt;have g:=g.trans g8;exact rr<|(kk A8 M8 A6.ns _ _ h.bd (h.sh.sub<|eD M8 _) (g.cast N O) N h.bu<|ce.gw g8)
theorem ah0(hQ:WQ d):∀i,i<d.nn->I1 K d i:=by
 intro i
 induction i using Nat.strongRecOn with
 |ind i ih=>
  intro hi S H0 H cs L A fr h hn ht hf;have h:=h.own;have⟨ka,kc,t,xa,xn,xc,at',he,hfit,hz,hzl⟩:=h.we.kid.row hi;have ih:∀z,z<i->I1 K d z:=λz hz=>ih z hz N;have hsz:=hQ.sz i hi;unfold Gd at hsz;have hW:h1 d.ws i=Fp (d.kd i)+qI d.ws (d.kd i) (d.zs i):=N;refine Fh [0,1,2,3,4,5,6,7,8,9,12,13,15,16,17,19,20,21,22,23,24,25,32,36,37,38,64,65,66] ?_;refine ME.ld h.we.g.2 ?_;refine h.we.nd.TM N hi he λp=>(F.refl h.sh.wf).ns O O O λH1 rb hS1 _=>?_;have h:RY K d (cs.map (·.1)) H H1 cs [(rb,238,[vi (d.kd i),.slice ka (d.zs i).length kc,.string t,I xa xn xc,vi at'])] A:=h.akt hS1;have hm:∀{T M' A'},RY K d (cs.map (·.1)) H T M' [(rb,238,[vi (d.kd i),.slice ka (d.zs i).length kc,.string t,I xa xn xc,vi at'])] A'->Bk T rb 238 [vi (d.kd i),.slice ka (d.zs i).length kc,.string t,I xa xn xc,vi at']:=λh=>h.sh.bk _<|cZ _<|aN ..
  refine bG ?_;refine ME.ld ((hm h).cell (o:=0) O) ?_;refine bG ?_;have fin:∀A' M' to c T,Bd d.ra A' M'->F (cs.map (·.1)) H T M'->At.Gw A A' (h1 d.ws i) c->c<=2*h1 d.ws i->At.Bu d.lw A'->A'.cur to->ahY d i A cs H (B to) T:=λA' M' to c T a1 a2 a3 a4 a5 a6=>⟨A',M',to,c,rfl,a1,a2,a3,a4,a5,a6⟩;refine aT (λW=>?_) λW=>?_
  .refine ME.ld ((hm h).cell (o:=1) O) ?_;refine bG ?_;have hb:Fp (d.kd i)=0:=by unfold Fp;rw[if_neg N,if_pos W]
   have e:h1 d.ws i=qI d.ws (d.kd i) (d.zs i):=N;rw[e]at fin;exact aeP hQ ih h hi W he hz hzl N N hf fin
  refine aT (λh0=>?_) λh0=>?_
  .have hb:Fp (d.kd i)=2:=by unfold Fp;rw[if_pos h0]
   have e:h1 d.ws i=2+qI d.ws (d.kd i) (d.zs i):=N;rw[e]at fin;refine ME.ld h.we.ay.2<|h.fresh N λH2 M2 A2 h g2 cd=>?_;have n2:=g2.ns;have t2:=g2.tt;refine ME.ld h.we.fe.2<|h.free (hf.gw g2) cd N λ_ H3 M3 A3 h g3=>?_;have n3:=g3.ns;have t3:=g3.tt;have g:=g2.trans g3;refine ME.ld h.we.ay.2<|h.fresh N λH4 M4 A4 h g4 ce=>?_;have n4:=g4.ns;have t4:=g4.tt;have g:=g.trans g4;refine ME.ld ((hm h).cell (o:=1) O) ?_;refine bG ?_;exact aeQ hQ ih h g N ((cd.gw g3).gw g4) ce hi h0 he hz hzl N N fin
  have three:(d.kd i=2\/d.kd i=3\/d.kd i=4)->∃z,d.zs i=[z]/\z<i/\h1 d.ws i=3+h1 d.ws z:=λhk=>by
   have hl:(d.zs i).length=1:=by rcases hfit with h|h|h|h<;>omega
   have⟨z,hz1⟩:=List.length_eq_one_iff.1 hl;refine⟨z,hz1,hz z (by rw[hz1];simp),?_⟩;rw[hW,hz1];have hb:Fp (d.kd i)=3:=by unfold Fp;rw[if_neg N,if_neg N,if_pos hk]
   have ha:Jk (d.kd i)=0:=by unfold Jk;rw[if_neg N]
   unfold qI;simp[hb,ha]
  have one:¬(d.kd i=2\/d.kd i=3\/d.kd i=4)->h1 d.ws i=1:=λhk=>by
   have hl:(d.zs i).length=0:=by rcases hfit with h|h|h|h<;>omega
   have hz0:=dR.1 hl;rw[hW,hz0];have hb:Fp (d.kd i)=1:=by unfold Fp;rw[if_neg N,if_neg N,if_neg hk]
   rw[hb];rfl
  have loop:∀{kW lH pG yo uC x20 xJ DV yx x24 x25 LW Aq x38 x64 Zh x66:Z}{ni:C (Nat×Z)},(d.kd i=2\/d.kd i=3)->Bc ni 85=.bool f->gK Pg X (sub mI [1,1,0,1,0,1,1,1,1,1]) (vo (B i) (B fr) (pr d.g) (pr d.s) (pr d.w) (pr d.ay) (pr d.fe) (pr d.lo) (pr d.p) (pr d.l) kW (pr rb) lH pG yo uC x20 xJ DV yx x24 x25 (vi<|d.kd i) LW Aq x38 x64 Zh x66 ni H1) (sw 0<|t_ Pg X (sub mI [1,1,1])<|jL Pg [.tmp 12]<|ahY d i A cs H):=by
   intro kW lH pG yo uC x20 xJ DV yx x24 x25 LW Aq x38 x64 Zh x66 ni hk hlk;have⟨z,hz1,hzi,e⟩:=three N;rw[e]at fin hn ht;have hz0:(d.zs i)[0]?=D z:=by rw[hz1];rfl
   have hl:(d.zs i).length=1:=by rw[hz1];rfl
   refine tl ?_;rw[hlk];refine bG ?_;refine ME.ld h.we.lo.2<|ME.rZ ((hm h).read (o:=0) (n:=5)<|ax 5) ?_;show aO Pg X 185 [.agg ⟨[vi (d.kd i),.slice ka (d.zs i).length kc,.string t,I xa xn xc,vi at']⟩,B fr,pr d.ay,pr d.fe,pr d.w] H1 _;rw[hl]at he|-;refine aO.mono (Ho (ih z hzi) h hi he hz0 hn ht hf) ?_;rintro v H2 ⟨A',M',to,c,rfl,b1,b2,b3,b4,b5,b6⟩;refine rr<|(fin A' M' to c H2 b1 ?_ b3 b4 b5 b6);exact(F.frame h.sh b2).sub<|eD M' _
  refine aT (λJ=>?_) λJ=>?_
  .exact loop (.inl J) (by show gI (decide<|d.kd i=2)=_;rw[bL J])
  by_cases h3:d.kd i=3
  .exact loop (.inr h3) (by show gI (decide<|d.kd i=3)=_;rw[bL h3])
  by_cases h4:d.kd i=4
  .have⟨z,hz1,hzi,e⟩:=three N;rw[e]at fin hn ht;have hz0:(d.zs i)[0]?=D z:=by rw[hz1];rfl
   have hl:(d.zs i).length=1:=by rw[hz1];rfl
   rw[hl]at he h;exact aci (ih z hzi) h hi h4 he hz0 hn ht hf (by show gI (decide<|d.kd i=3)=_;rw[dB h3]) fin
  .have e:=one N;rw[e]at fin hn ht;refine tp ?_;refine aT (λhc=>absurd hc h3) λ_=>?_;refine aT (λhc=>absurd hc h4) λ_=>?_;exact ach hQ h hi hn ht hf fin
end
section
open Go.Ae Go.Ae.cs Go.Proofs.Lv
variable{S:C Nat}
def YJ(hw:Wf H){ra:aB Addr}{rn:Nat}{lv sv:Z}(hl:∃a n c,lv=I a n c)(hs:∃a n c,sv=I a n c):aO Pg X 154 [gV ra rn rc na nn nc,lv,sv,.func (.func 152) ⟨[]⟩ ⟨[pr rb]⟩,.func (.func 153) ⟨[]⟩ ⟨[pr rb]⟩] H λv T=>∃g s w ay fe lo p l,v=.func (.func 186) ⟨[]⟩ ⟨[pr g,pr s,pr w,pr ay,pr fe,pr lo,pr p,pr l]⟩/\Ext H T/\(∀r∈[g,s,w,ay,fe,lo,p,l],H.next<=r/\r<T.next)/\T.cell g 1=D (I na nn nc)/\T.cell s 0=D sv/\T.cell w 0=D v/\T.cell ay 0=D (.func (.func 152) ⟨[]⟩ ⟨[pr rb]⟩)/\T.cell fe 0=D (.func (.func 184) ⟨[]⟩ ⟨[pr p]⟩)/\T.cell lo 0=D (.func (.func 185) ⟨[]⟩ ⟨[pr ay,pr fe,pr w]⟩)/\T.cell p 0=D (.func (.func 153) ⟨[]⟩ ⟨[pr rb]⟩)/\T.cell l 0=D lv:=by
 obtain⟨la,ln,lc,rfl⟩:=hl;obtain⟨sa,sn,sc,rfl⟩:=hs;have G:=F.refl hw;refine jS [0,1,2,3,4,5,6,7,8,9,10,11,12,13] ?_;refine G.box O λH1 g G=>?_;refine G.box O λH2 l G=>?_;refine G.box O λH3 s G=>G.box O λH4 ay G=>G.box O λH5 p G=>G.iX λH6 fe G=>?_;refine G.jH λHn G=>G.iX λH7 w G=>?_;refine G.iX λH8 lo G=>?_;refine G.jH λHn G=>?_;refine G.jH λHn G=>?_;apply G.pz;refine rr ?_;refine⟨g,s,w,ay,fe,lo,p,l,O,G.ext,?_,(G.get 7 O).cell O,(G.get 5 O).cell O,(G.get 1 O).cell O,(G.get 4 O).cell O,(G.get 2 O).cell O,(G.get 0 O).cell O,(G.get 3 O).cell O,(G.get 6 O).cell O⟩;intro r y;simp only[bP,dX,iF]at y;rcases y with rfl|rfl|rfl|rfl|rfl|rfl|rfl|rfl
 .exact⟨G.wQ<|aS (i:=7) O,(G.lo _<|aS (i:=7) O).2⟩
 .exact⟨G.wQ<|aS (i:=5) O,(G.lo _<|aS (i:=5) O).2⟩
 .exact⟨G.wQ<|aS (i:=1) O,(G.lo _<|aS (i:=1) O).2⟩
 .exact⟨G.wQ<|aS (i:=4) O,(G.lo _<|aS (i:=4) O).2⟩
 .exact⟨G.wQ<|aS (i:=2) O,(G.lo _<|aS (i:=2) O).2⟩
 .exact⟨G.wQ<|aS (i:=0) O,(G.lo _<|aS (i:=0) O).2⟩
 .exact⟨G.wQ<|aS (i:=3) O,(G.lo _<|aS (i:=3) O).2⟩
 .exact⟨G.wQ<|aS (i:=6) O,(G.lo _<|aS (i:=6) O).2⟩
def Bd.name(hB:Bd ra A cs)(G:F S H0 H<|cs++L)(hn:A.nr<=1000):∃v,H.cell ra 0=D v/\∀{Kp:Z->Z->Z->R->Prop},(∀w v' rg T M',Bd ra (A.ru nm) M'->F (cs.map (·.1)) H T M'->Kp w v' rg T)->
 ME (bS 9 [.string ⟨#[]⟩] 1 1 [(0,.string nm)] H) λw H1=>ME (zY 9 1 v w H1) λv2 H2=>ME (CW 1 (pr ra) v2 H2) λrg H3=>Kp w v2 rg H3:=by
 have G:=F.own G;obtain⟨nv,sv,pv,ov,ev,evs,gn,gs,gp,go,ge,az,rfl,hgn,hgs,RQ,hgo,hge,hR⟩:=hB;refine⟨nv,(G.get 0 O).cell O,λ{Kp} kk=>?_⟩;refine hgn.push (G.perm<|iG [_] gn _) N O O O O O N (by rw[aK];unfold At.nr at hn;omega) λw v' H1 gn' aku G=>?_;have G:=G.perm<|iG gn' [(ra,27,[nv,sv,pv,ov,ev,B A.ty])] _;obtain⟨na',nc',rfl⟩:=aku.SN;refine G.st 0 O O (by show 0+1<=6;omega) rfl λH2 G=>?_;refine kk _ _ _ H2 _ ⟨_,sv,pv,ov,ev,evs,gn',gs,gp,go,ge,az,O,?_,hgs,RQ,hgo,hge,hR⟩ G;have:(A.ru nm).nm.map fT=A.nm.map fT++bK (.string nm):=by show(A.nm++[nm]).map fT=_;simp;rfl
 rw[this];exact aku
end
section
open Go.Ae Go.Ae.cs Go.Proofs.Lv
variable{S:C Nat}
def _root_.Go.Ae.GB.same(h:GB ty es v M gb):nG v v=f:=by
 rcases h with⟨rfl,_⟩|⟨r,n,eB,rfl,_⟩
 .exact oF _ _ _ λx h=>by cases h
 .exact oF _ _ _ λx h=>by cases h;rfl
def RY.put{a:Nat}{Kp:Z->R->Prop}(h:RY K d S H0 H cs L A)(ha:A.cur a)(hb:A.cur e.2.2)(he:At.EdL d.lw A.ty e)(ht:A.tot<=1000000)(kk:∀v T M' A',RY K d S H0 T M' L A'->At.Gw A A' 0 1->Kp v T):nU Pg X (Mj d.pv) [B a,.agg ⟨[B e.1,B e.2.1,B e.2.2]⟩] H Kp:=by
 show aO Pg X 153 [B a,_,pr d.ra] H Kp;refine aO.mono (Pk (e:=e) h.bd h.sh ha.1 h.bu.Ac ht) ?_;rintro v T ⟨M',W,J⟩;exact kk v T M' _ (h.step W J (At.Gw.pu h.bu.Ac ha.1 _)<|h.bu.puC ha hb he)<|At.Gw.pu h.bu.Ac ha.1 _
structure RZ(K:Nat->Prop)(d:WD)(S:C Nat)(H0 H:R)(cs L:C dL)(A:At):Prop where
 we:WE K d H
 nk:∀r∈cs.map (·.1),¬K r
 bd:Bd d.ra A cs
 sh:F S H0 H (cs++L)
 bs:At.Bs' d.lw A
 ty:A.ty=d.tn
 few:A.nr<=120
 tt:A.tot<=2*A.ns
def RZ.ext{H1:R}{L':C dL}(h:RZ K d S H0 H cs L A)(E:Ext H H1)(G:F S H0 H1<|cs++L'):RZ K d S H0 H1 cs L' A:=⟨h.we.stay E<|nofun,h.nk,h.bd,G,h.bs,h.ty,h.few,h.tt⟩
def RZ.nks(h:RZ K d S H0 H cs L A)(G:F (cs.map (·.1)) H T M'):∀r∈M'.map (·.1),¬K r:=λr y hk=>by
 obtain⟨e,he,rfl⟩:=bQ.1 y;rcases(G.lo e he).1 with W|W
 .exact h.nk _ W hk
 .have:=h.we.hK _ hk;omega
theorem RY.ends{a:Nat}(h:RY K d S H0 H cs L A)(hl:A.st.length<=1000)(hl2:A.sp.length<=1000){aj:Array Oper}{Kp:Z->R->Z->R->Z->R->Z->R->Z->R->Z->R->Z->R->Z->R->Prop}(hO:aj=opsOf (sub Db [1,1,1,1,1,0,1,0,0,1,1,0,0,1,1,1,1,0]))(kk:∀v1 Pp v2 RU v3 UA v4 YK v5 H40 v6 H42 v7 H45 v8 H48 M',RY K d S H0 (hM (hM (hM (hM (hM (hM (hM (hM H Pp) RU) UA) YK) H40) H42) H45) H48) M' L (A.se a b)->Kp v1 Pp v2 RU v3 UA v4 YK v5 H40 v6 H42 v7 H45 v8 H48):
 ME (vH Q (.pointer<|D ⟨d.ra,1,Q⟩)<|hN H) λv32 Pp=>
 ME (bS 3 [(bX .i64 0)] 1 1 [(0,B a)]<|hN<|hM H Pp) λv34 RU=>
 ME (zY 3 1 v32 v34<|hN<|hM (hM H Pp) RU) λv36 UA=>
 ME (vH Q (.pointer<|D ⟨d.ra,2,Q⟩)<|hN<|hM (hM (hM H Pp) RU) UA) λv39 YK=>
 ME (bS 3 [(bX .i64 0)] 1 1 [(0,B b)]<|hN<|hM (hM (hM (hM H Pp) RU) UA) YK) λv41 H40=>
 ME (zY 3 1 v39 v41<|hN<|hM (hM (hM (hM (hM H Pp) RU) UA) YK) H40) λv43 H42=>
 ME (CW 1 (.pointer<|D ⟨d.ra,1,Q⟩) v36<|hN<|hM (hM (hM (hM (hM (hM H Pp) RU) UA) YK) H40) H42) λu46 H45=>
 ME (CW 1 (.pointer<|D ⟨d.ra,2,Q⟩) v43<|hN<|hM (hM (hM (hM (hM (hM (hM H Pp) RU) UA) YK) H40) H42) H45) λu49 H48=>
 jT aj [(clS (.pointer<|D ⟨d.ra,2,Q⟩) v43 (hM (hM (hM (hM (hM (hM (hM H Pp) RU) UA) YK) H40) H42) H45) H48),(cl 0),(clS (.pointer<|D ⟨d.ra,1,Q⟩) v36 (hM (hM (hM (hM (hM (hM H Pp) RU) UA) YK) H40) H42) H45),(cl 0),(DY (hM (hM (hM (hM (hM H Pp) RU) UA) YK) H40) H42),(Ml (hM (hM (hM (hM H Pp) RU) UA) YK) H40),(cl 0),(clL 1 (.pointer<|D ⟨d.ra,2,Q⟩) (hM (hM (hM H Pp) RU) UA) YK),(cl 0),(DY (hM (hM H Pp) RU) UA),(Ml (hM H Pp) RU),(cl 0),(clL 1 (.pointer<|D ⟨d.ra,1,Q⟩) H Pp),(cl 0)]=f/\Kp v32 Pp v34 RU v36 UA v39 YK v41 H40 v43 H42 u46 H45 u49 H48:=by
 subst hO;have hS0:=F.own h.sh;obtain⟨nv,sv,pv,ov,ev,evs,gn,gs,gp,go,ge,az,rfl,hgn,hgs,RQ,hgo,hge,hR⟩:=id h.bd
 have G:=hS0.perm (L':=(d.ra,27,[nv,sv,pv,ov,ev,B A.ty])::(gs++(gp++(gn++(go++(ge++az)))))) (by
  have p1:=iG gn gs<|gp++(go++(ge++az));have p2:=iG gn gp<|go++(ge++az);exact(p1.trans<|gD gs p2).cons _)
 apply G.QN;simp only[gN G.wf];refine G.PL O O O N λH1 rx G tq=>?_;have hX1:=G.get 1 O;have G:=(G.to (cs':=[B a]) O).perm<|(iG [_] gs _).cons _;refine hgs.FM G N O O (by rw[aK];omega) λv' H2 gs' hgs' G _ _ hc1=>?_;have G:=G.perm<|iG gs' [_] _;simp only[bI,bN]at G;have hY1:=(G.get 0 O).jb (T:=H2) O;generalize hz1:hM (hM H H1) H2=Z1 at G|-;have hwZ:=G.wf;apply G.QN;simp only[gN G.wf];refine G.PL O O O N λH3 ry G vT=>?_;have hX2:=G.get 1 O
 have G:=(G.to (cs':=[B b]) O).perm (L':=(ry,3,[B b])::(gp++((d.ra,27,[nv,sv,pv,ov,ev,B A.ty])::(gs'++(gn++(go++(ge++az))))))) (by
  have:=iG ((d.ra,27,[nv,sv,pv,ov,ev,B A.ty])::gs') gp<|gn++(go++(ge++az));exact this.cons _)
 refine RQ.FM G N O O (by rw[aK];omega) λw' H4 gp' akv G _ _ hc2=>?_;have G:=G.perm<|i_;have hY2:=(G.get 0 O).jb (T:=H4) O;obtain⟨va,vc,rfl⟩:=hgs'.SN;obtain⟨wa,wc,rfl⟩:=akv.SN;refine G.mh λH5 G=>?_;have G:=G.to (cs':=[nv,.slice va (fF A.st++[B a]).length vc,pv,ov,ev,B A.ty]) O;refine G.mh λH6 G=>?_;have G:=G.to (cs':=[nv,.slice va (fF A.st++[B a]).length vc,.slice wa (fF A.sp++[B b]).length wc,ov,ev,B A.ty]) O;refine(show∀K:Prop,K->_/\K fromλKz hK=>?_) _ ?_
 .have sm:∀{o},(o=1\/o=2)->∀v∈(([nv,sv,pv,ov,ev,B A.ty]:C Z).drop o).take 1,nG v v=f:=λho v hv=>by
   rcases ho with rfl|rfl
   .have hv:v∈[sv]:=hv;rw[aP]at hv;subst hv;exact hgs.same
   .have hv:v∈[pv]:=hv;rw[aP]at hv;subst hv;exact RQ.same
  have rd:∀{o},(o=1\/o=2)->∀w:Cl,((w.a=hM H H1/\w.b=H2)\/(w.a=hM Z1 H3/\w.b=H4))->mY w ⟨4,d.ra,o,1,hh0,hh0⟩=f:=λ{o} ho w hw=>by
   have hle:o+1<=6:=N;unfold mY;rcases hw with hw|hw
   .rw[hw.1,hw.2];exact ze (hX1.read hle) (hY1.read hle)<|xH<|sm ho
   .rw[hw.1,hw.2];exact ze (hX2.read hle) (hY2.read hle)<|xH<|sm ho
  have r1:=rd<|.inl O;have r2:=rd<|.inr O;simp only[tq,vT,d_,fK];generalize d.ra=ra at r1 r2|-;rcases hc1 with e|e<;>rw[e]<;>rcases hc2 with e|e<;>rw[e]<;>apply aeo (a:=ra) (H':=λw=>(w.a=hM H H1/\w.b=H2)\/(w.a=hM Z1 H3/\w.b=H4)) (by rfl) jr jr hK<;>repeat' apply ik
  all_goals first|exact trivial|(intro h;cases h;done)|exactλ_=>.inl ⟨rfl,rfl⟩|exactλ_=>.inr ⟨rfl,rfl⟩|exactλ_=>r1|exactλ_=>r2
 have G:=G.perm (L':=(d.ra,27,[nv,.slice va (fF A.st++[B a]).length vc,.slice wa (fF A.sp++[B b]).length wc,ov,ev,B A.ty])::(gn++(gs'++(gp'++(go++(ge++az)))))) (by
  refine dS _ ?_;have p1:=iG (gp'++gs') gn<|go++(ge++az);have p2:=iG gp' gs'<|go++(ge++az);simp only[bU]at p1;exact p1.trans<|gD gn p2)
 have hB:Bd d.ra (A.se a b) ((d.ra,27,[nv,.slice va (fF A.st++[B a]).length vc,.slice wa (fF A.sp++[B b]).length wc,ov,ev,B A.ty])::(gn++(gs'++(gp'++(go++(ge++az)))))):=⟨nv,_,_,ov,ev,evs,gn,gs',gp',go,ge,az,O,hgn,by
  have:fF (A.se a b).st=fF A.st++bK (B a):=by show fF (A.st++[a])=_;simp;rfl
  rw[this];exact hgs',by
  have:fF (A.se a b).sp=fF A.sp++bK (B b):=by show fF (A.sp++[b])=_;simp;rfl
  rw[this];exact akv,hgo,hge,hR⟩
 have hnk:∀{M':C dL}{T:R},F ((((d.ra,27,[nv,sv,pv,ov,ev,B A.ty])::(gn++(gs++(gp++(go++(ge++az))))):C dL).map (·.1))) H T M'->∀r∈M'.map (·.1),¬K r:=λG r y hk=>by
  obtain⟨e,he,rfl⟩:=bQ.1 y;rcases(G.lo e he).1 with W|W
  .exact h.nk _ W hk
  .have:=h.we.hK _ hk;omega
 have hY:RY K d S H0 _ ((d.ra,27,[nv,.slice va (fF A.st++[B a]).length vc,.slice wa (fF A.sp++[B b]).length wc,ov,ev,B A.ty])::(gn++(gs'++(gp'++(go++(ge++az)))))) L (A.se a b):=⟨h.we.stay G.ext h.nk,hnk G,hB,F.frame h.sh G,⟨h.bu.Ac,h.bu.o,h.bu.e⟩,h.ty,h.pos,h.few⟩;refine kk _ _ _ _ _ _ _ _ _ _ _ _ _ _ _ _ ((d.ra,27,[nv,.slice va (fF A.st++[B a]).length vc,.slice wa (fF A.sp++[B b]).length wc,ov,ev,B A.ty])::(gn++(gs'++(gp'++(go++(ge++az)))))) ?_;rw[gN h.sh.wf,hz1,gN hwZ];exact hY
end
section
open Go.Ae Go.Ae.cs Go.Proofs.Lv
variable{S:C Nat}
def _root_.Go.Ae.je.within{SH:Nat->Prop}{n:Nat}(h:je SH ty H a n es M)(hF:∀r,r<H.next->F' r):je F' ty H a n es M:=⟨h.1,λr o e hn=>let⟨_,J,h3⟩:=h.2 r o e hn;⟨hF r J,J,h3⟩⟩
def Wp.within{SH:Nat->Prop}(h:Wp SH H nn iK kd zs)(hF:∀r,r<H.next->F' r):Wp F' H nn iK kd zs:=λi hi=>let⟨a,c,t,xa,xn,xc,at',W,J,h3⟩:=h i hi;⟨a,c,t,xa,xn,xc,at',W,J.within hF,h3⟩
def Wp.ex{SH:Nat->Prop}(h:Wp SH H nn iK kd zs)(E:Ext H T):Wp SH T nn iK kd zs:=λi hi=>let⟨a,c,t,xa,xn,xc,at',W,J,h3⟩:=h i hi;⟨a,c,t,xa,xn,xc,at',W,J.ex E,h3⟩
def _root_.Go.Ae.Bk.Sj{SH:Nat->Prop}{n:Nat}(h:Bk H r ty M)(y:r<H.next)(hn:M.length=n*es)(hF:SH r):je SH ty H (D ⟨r,0,Q⟩) n es M:=⟨h.fl y hn,λr' o e _=>by cases e;exact⟨hF,y,h.Jc⟩⟩
def Ff(rcs:C Z)(ws:C Nat):Nat->Nat
 |0=>0
 |i+1=>Ff rcs ws i+(if Gb rcs i=f then 0 else 2+h1 ws (rootOf rcs i).toNat)
def YL(rcs:C Z)(ws:C Nat)(h:i<=j):Ff rcs ws i<=Ff rcs ws j:=by
 induction j with
 |zero=>obtain rfl:i=0:=N
        exact ax _
 |succ j ih=>
  rcases cr i (j+1)with W|W
  .have:=ih N;show _<=Ff rcs ws j+_;omega
  .obtain rfl:i=j+1:=N;exact ax _
def Bd.atC(hB:Bd ra A<|(ra,27,M)::cs)(G:F [] H T<|cs++L)(ho:A.Ok):∃q:AV,M=q.cells A/\sQ (H.next<=·) T A q:=by
 have⟨nv,sv,pv,ov,ev,evs,gn,gs,gp,go,ge,az,e,hgn,hgs,RQ,hgo,hge,hR⟩:=hB;obtain⟨e1,rfl⟩:=jJ e;cases e1;have hev:evs.length=A.ns:=by rw[<-hR.len,aK,ho.Ac]
 have hT:=G.cast (L':=gn++(gs++(gp++(go++(ge++(az++L)))))) kg;have hT2:=F.drop hT;have hT3:=F.drop hT2;have hT4:=F.drop hT3;have hT5:=F.drop hT4;have hT6:=F.drop hT5;obtain⟨na,n1,nc,rfl,l1,f1⟩:=hgn.Sj hT;obtain⟨sa,n2,sc,rfl,l2,f2⟩:=hgs.Sj hT2;obtain⟨pa,n3,pc,rfl,l3,f3⟩:=RQ.Sj hT3;obtain⟨oa,n4,oc,rfl,l4,f4⟩:=hgo.Sj hT4;obtain⟨ea,n5,ec,rfl,l5,f5⟩:=hge.Sj hT5;obtain rfl:n1=A.nr:=by rw[aK]at l1;unfold At.nr;omega
 obtain rfl:n2=A.nr:=by rw[aK,ho.Ws]at l2;omega
 obtain rfl:n3=A.nr:=by rw[aK,ho.YA]at l3;omega
 obtain rfl:n4=A.ns:=by rw[aK]at l4;unfold At.ns;omega
 obtain rfl:n5=A.ns:=N;refine⟨⟨na,sa,pa,oa,ea,nc,sc,pc,oc,ec⟩,O,f1,f2,f3,f4,evs,f5,λi hi=>?_⟩;have⟨a,n,c,g1,g2,g3⟩:=hR.all hT6 i N
 have hE:(A.eg.map zQ)[i]?.getD []=zQ (A.hx i):=by
  unfold At.hx;rw[bF,av (show i<A.eg.length by rw[ho.Ac];exact hi)];rfl
 rw[hE]at g2 g3;rw[JK]at g2;obtain rfl:n=(A.hx i).length:=N;refine⟨a,c,by rw[av (show i<evs.length by omega),g1],g3.wk λr y=>?_⟩;obtain⟨e,he,rfl⟩:=bQ.1 y;exact hT6.wQ<|dn _ he
theorem Bd.atM(hB:Bd ra A cs)(G:F [] H T<|cs++L)(ho:A.Ok):∃q:AV,T.read ra 0 6=D (q.cells A)/\sQ (H.next<=·) T A q:=by
 obtain⟨nv,sv,pv,ov,ev,evs,gn,gs,gp,go,ge,az,rfl,g⟩:=id hB;have⟨q,W,J⟩:=hB.atC (F.drop (A:=[_]) G) ho;exact⟨q,by rw[<-W];exact(G.get 0 O).read (o:=0) (n:=6)<|ax 6,J⟩
end
section
open Go.Ae Go.Ae.cs Go.Proofs.Lv
variable{S:C Nat}
abbrev acj(tn:Nat)(H:R)(v:Z)(T:R):Prop:=∃(A:At)(q:AV),v=q.v A/\sQ (H.next<=·) T A q/\A.Ok/\A.ty=tn
theorem aeR{rz rv u:Nat}{ra:aB Addr}{rn:Nat}{x2 x3 sP:Z}(hG:Gr b H ra rn rcs na nn iK)(hR:∀i,i<rn->0<=rootOf rcs i/\rootOf rcs i<nn)(hup:Gb rcs 0=aC)(hrn:1<=rn)(hQ:WQ d)(hd:d.nn=nn/\d.tn=tn/\d.lw=zG rcs rn)(htot:Ff rcs d.ws rn<=4000)(hZ:RZ K d [] H H1 cs [(rz,27,[I Q 0 0,I Q 0 0,I Q 0 0,I Q 0 0,I Q 0 0,vi 0]),(rv,180,[I va tn vc]),(u,171,[I ra rn rc,I na nn nc])] A)(hA:A.nr=0/\A.ns=0):
 gK Pg X (.loop<|sub Db [1,1,1,1,1,0,1,0,0]) (OX (gV ra rn rc na nn nc) (vV va tn vc) x2 x3 (pr u) (pr rv) (pr rz) (pr d.ra) d.fv d.pv d.wv sP lH pG (I ra rn rc) (B rn) (B 0) ni H1) (sw 0<|t_ Pg X (sub Db [1,1,1,1,1,1])<|jL Pg [.cell 8 27]<|Q1 (acj tn H) H):=by
 have g2:=hG.2.1;refine NG 14 15 16 31 (ai:=λm sP lH pG x31 T=>∃i A cs,x31=B i/\i+m=rn/\RZ K d [] H T cs [(rz,27,[I Q 0 0,I Q 0 0,I Q 0 0,I Q 0 0,I Q 0 0,vi 0]),(rv,180,[I va tn vc]),(u,171,[I ra rn rc,I na nn nc])] A/\A.nr=zG rcs i/\A.ns=Ff rcs d.ws i) ?_ rn ⟨0,A,cs,rfl,N,hZ,hA.1,hA.2⟩;clear hZ hA;rintro m sP lH pG x31 ni H2 ⟨i,A,cs,rfl,him,hZ,hnr,hns⟩;refine kX (λhc=>?_) λhc=>?_
 .obtain rfl:i=rn:=N;have hlo:=Hg rcs hrn;have hl1:zG rcs 1=1:=by show 0+(if Gb rcs 0=f then 0 else 1)=1;rw[hup];rfl
  have tt:=hZ.tt;have ok:A.Ok:=hZ.bs.ok (by rw[hnr,hd.2.2]) N (by have:=hZ.few;omega) N N;refine tl ?_;have⟨q0,hr0,_⟩:=hZ.bd.atM hZ.sh ok;refine ME.rZ hr0 ?_;have G:=hZ.sh.perm<|aG (l₁:=cs);refine G.st 0 O O (ax 6) O λH3 G=>?_;have G:F [] H H3 ((rz,27,q0.cells A)::(rv,180,[I va tn vc])::(u,171,[I ra i rc,I na nn nc])::cs):=G;have hS2:=G.perm (L':=cs++[(rz,27,q0.cells A),(rv,180,[I va tn vc]),(u,171,[I ra i rc,I na nn nc])])<|aG (l₁:=[_,_,_]);have⟨q1,hr1,hat⟩:=hZ.bd.atM hS2 ok
  have eq:q1.cells A=q0.cells A:=by
   obtain⟨M,hm,h6⟩:∃M,((d.ra,27,M):dL)∈cs/\M.length=6:=by
    obtain⟨nv,sv,pv,ov,ev,evs,gn,gs,gp,go,ge,az,rfl,_⟩:=hZ.bd;exact⟨_,aN ..,O⟩
   have a0:=(hZ.sh.bk _<|dn _ hm).read (o:=0) (n:=6) (by show 0+6<=M.length;omega);have a1:=(hS2.bk _<|dn _ hm).read (o:=0) (n:=6) (by show 0+6<=M.length;omega);have b0:=a0.symm.trans hr0;have b1:=a1.symm.trans hr1;exact dK<|b1.symm.trans b0
  refine rr ?_;refine G.rZ 0 O (ax 6) ?_;rw[<-eq];exact⟨⟨A,q1,O,hat,ok,hZ.ty.trans hd.2.1⟩,G.ext⟩
 have hi:i<rn:=N;have⟨r1,o1,yJ,u1,f1,w1,c1,a1,e1,hl1,zP,tq,hsz,hel⟩:=hG.ru hi rc;have hroot:=hR i hi;rw[e1];refine bG ?_;refine hZ.sh.Aj zP hl1<|(F.refl hZ.sh.wf).nI O O O λH3 ru hS1 hx3=>?_;have hS1:F [] H2 H3 [(ru,234,wO yJ u1 f1 w1 c1 (rootOf rcs i) a1)]:=hS1
 have sG:=(F.frame (cs:=[]) hZ.sh hS1).perm (L':=cs++([(rz,27,[I Q 0 0,I Q 0 0,I Q 0 0,I Q 0 0,I Q 0 0,vi 0]),(rv,180,[I va tn vc]),(u,171,[I ra rn rc,I na nn nc])]++[(ru,234,wO yJ u1 f1 w1 c1 (rootOf rcs i) a1)])) (by
  rw[<-bU];exact aG (l₁:=[_]))
 have hZ:=hZ.ext hx3 sG;have hlow:zG rcs (i+1)=zG rcs i+(if Gb rcs i=f then 0 else 1):=rfl;have htt:Ff rcs d.ws (i+1)=Ff rcs d.ws i+(if Gb rcs i=f then 0 else 2+h1 d.ws (rootOf rcs i).toNat):=rfl;rw[JI hel]at hlow htt;have hmo:=YL rcs d.ws (show i+1<=rn by omega);have anw:=Hg rcs (show i+1<=rn by omega);have amb:=O' rcs rn;have hru:∀{T M'}(_:F [] H T<|M'++([(rz,27,[I Q 0 0,I Q 0 0,I Q 0 0,I Q 0 0,I Q 0 0,vi 0]),(rv,180,[I va tn vc]),(u,171,[I ra rn rc,I na nn nc])]++[(ru,234,wO yJ u1 f1 w1 c1 (rootOf rcs i) a1)])),Bk T ru 234 (wO yJ u1 f1 w1 c1 (rootOf rcs i) a1):=λ{T M'} G=>G.bk _<|cZ _<|cZ _<|aN ..
 have back:∀{T M'}(_:F [] H T<|M'++([(rz,27,[I Q 0 0,I Q 0 0,I Q 0 0,I Q 0 0,I Q 0 0,vi 0]),(rv,180,[I va tn vc]),(u,171,[I ra rn rc,I na nn nc])]++[(ru,234,wO yJ u1 f1 w1 c1 (rootOf rcs i) a1)])),F [] H T (M'++[(rz,27,[I Q 0 0,I Q 0 0,I Q 0 0,I Q 0 0,I Q 0 0,vi 0]),(rv,180,[I va tn vc]),(u,171,[I ra rn rc,I na nn nc])]):=λ{T M'} G=>G.sub<|List.Sublist.append_left (eD _ _) M';refine bG ?_;refine ME.ld ((hru hZ.sh).cell (o:=1) O) ?_;refine qx (λhb=>?_) λhb=>?_
 .rw[if_pos hb]at hlow htt;refine dQ ?_;exact⟨rn-(i+1),N,_,_,_,_,_,_,O,i+1,A,cs,og,N,hZ.ext (Ext.refl _)<|back hZ.sh,N,N⟩
 rw[if_neg (by rw[hb];simp)]at hlow htt;have Lm:=hZ.few;have anx:=hZ.tt;have⟨v0,hv0,hname⟩:=hZ.bd.name (nm:=yJ) hZ.sh N;refine ME.ld hv0<|ME.ld ((hru hZ.sh).cell (o:=0) O)<|hname λw v' rg H4 M4 hB4 vJ=>?_;have amj:(A.ru yJ).nr=A.nr+1:=by show(A.nm++[yJ]).length=_;rw[aQ];rfl
 have hY:RY K d [] H H4 M4 _ (A.ru yJ):=⟨hZ.we.stay vJ.ext hZ.nk,hZ.nks vJ,hB4,F.frame hZ.sh vJ,hZ.bs.bu.ru yJ,hZ.ty,N,N⟩;have hns0:(A.ru yJ).ns=A.ns:=rfl;have ang:(A.ru yJ).tot=A.tot:=rfl;refine hY.fresh N λH5 M5 A1 hY g1 M=>?_;have n1:=g1.ns;have t1:=g1.tt;refine hY.fresh N λH6 M6 A2 hY g2 cp=>?_;have n2:=g2.ns;have t2:=g2.tt;have M:=M.gw g2;have hst:A2.st=A.st:=by rw[g2.st,g1.st];rfl
 have hsp:A2.sp=A.sp:=by rw[g2.sp,g1.sp];rfl
 refine hY.ends (by rw[hst,hZ.bs.Ws];omega) (by rw[hsp,hZ.bs.YA];omega) rfl λu1 e1 u2 e2 u3 e3 u4 e4 u5 e5 u6 e6 u7 e7 u8 e8 M7 hY=>?_;generalize hM (hM (hM (hM (hM (hM (hM (hM H6 e1) e2) e3) e4) e5) e6) e7) e8=H7 at hY|-;have n3:(A2.se (A.ru yJ).ns A1.ns).ns=A2.ns:=rfl;have t3:(A2.se (A.ru yJ).ns A1.ns).tot=A2.tot:=rfl;obtain⟨k,hk⟩:∃k:Nat,rootOf rcs i=k:=⟨(rootOf rcs i).toNat,N⟩;have hkn:k<d.nn:=N;have hWk:h1 d.ws (rootOf rcs i).toNat=h1 d.ws k:=by rw[hk];rfl
 refine ME.ld ((hru hY.sh).cell (o:=5) O) ?_;rw[hk];refine hY.way (ah0 hQ k hkn) N N (show(A2.se (A.ru yJ).ns A1.ns).cur _ from M) λto H8 M8 A4 c hY g4 hc4 cto=>?_;have n4:=g4.ns;have t4:=g4.tt;refine PU.b3 O ?_;have cp4:A4.cur A1.ns:=At.cur.gw (A:=A2.se (A.ru yJ).ns A1.ns) cp g4;refine hY.put (e:=(0,0,A1.ns)) cto cp4 (ahX ..) N λv9 H9 M9 A5 hY g5=>?_;have n5:=g5.ns;have t5:=g5.tt;refine dQ ?_;have anz:A5.nr=A.nr+1:=by rw[g5.nr,g4.nr];show A2.nr=_;rw[g2.nr,g1.nr,amj]
 exact⟨rn-(i+1),N,_,_,_,_,_,_,O,i+1,A5,M9,og,N,⟨hY.we,hY.nk,hY.bd,back hY.sh,hZ.bs.next (g1.trans g2) M cp (g4.trans g5) hY.bu,hY.ty,N,N⟩,N,N⟩
end
section
open Go.Ae Go.Ae.cs Go.Proofs.Lv
variable{SH:Nat->Prop}{S:C Nat}
def Bd.nil(ra tn:Nat):Bd ra ⟨[],[],[],[],[],tn⟩ [(ra,27,[I Q 0 0,I Q 0 0,I Q 0 0,I Q 0 0,I Q 0 0,B tn])]:=
 ⟨_,_,_,_,_,[],[],[],[],[],[],[],rfl,.inl ⟨rfl,rfl,rfl⟩,.inl ⟨rfl,rfl,rfl⟩,.inl ⟨rfl,rfl,rfl⟩,.inl ⟨rfl,rfl,rfl⟩,.inl ⟨rfl,rfl,rfl⟩,rfl⟩
theorem UB(hw:Wf H){rl rs:Nat}{ra:aB Addr}{rn:Nat}{lcs:C Z}(hG:Gr b H ra rn rcs na nn iK)(hNd:Wp SH H nn iK kd zs)(hR:∀i,i<rn->0<=rootOf rcs i/\rootOf rcs i<nn)(hup:Gb rcs 0=aC)(hrn:1<=rn)(hl:Bk H rl 121 lcs/\rl<H.next/\lcs.length=nn*3)(hlp:∀i,i<nn->wJ tn (zG rcs rn) (El lcs 3 i))(hs:Bk H rs 3 (fF ws)/\rs<H.next/\ws.length=nn)(hsz:∀j,j<nn->Gd kd zs ws j)(htot:Ff rcs ws rn<=4000):
 aO Pg X 125 [gV ra rn rc na nn nc,vV va tn vc,I (D ⟨rl,0,Q⟩) nn nn,I (D ⟨rs,0,Q⟩) nn nn] H (Q1 (acj tn H) H):=by
 have G:=F.refl hw;refine jS [0,1,2,3,4,5,8,9,10,11,12,14,15,16,29,30,31] ?_;refine G.box O λH1 u G=>?_;refine G.box O λH2 rv G=>?_;refine G.iX λH3 rz G=>?_;refine eU ?_;refine G.cm (Um G.wf) ?_;rintro v H4 rfl E G;refine eU ?_;refine G.iX λH5 rb G=>G.jH λHn G=>?_;apply G.iI;have hb:=ik (G.wQ<|aS (i:=0) O) (G.lo _<|aS (i:=0) O).2;refine aO.mono (YJ G.wf ⟨_,_,_,O⟩ ⟨_,_,_,O⟩) ?_;rintro v H7 ⟨g,s,w,ay,fe,lo,p,l,rfl,hx7,hn7,c1,c2,c3,c4,c5,c6,c7,c8⟩;have G:=G.call hx7;have E:=G.ext
 have hK:∀r∈[g,s,w,ay,fe,lo,p,l],r<H7.next/\r≠rb:=λr y=>by
  have:=hn7 r y;exact⟨this.2,N⟩
 have hF:∀r,r<H.next->r<H7.next/\r≠rb:=λr y=>⟨by have:=E.next;omega,N⟩
 have hW:WE (λr=>r<H7.next/\r≠rb) ⟨g,s,w,ay,fe,lo,p,l,rb,na,nc,nn,rs,rl,iK,lcs,ws,kd,zs,tn,zG rcs rn⟩ H7:=
  ⟨λr y=>y.1,⟨hK g kg,c1⟩,⟨hK s kg,c2⟩,⟨hK w kg,c3⟩,⟨hK ay kg,c4⟩,⟨hK fe kg,c5⟩,⟨hK lo kg,c6⟩,⟨hK p kg,c7⟩,⟨hK l kg,c8⟩,
   (hG.2.2.2.1.within hF).ex E,(hNd.within hF).ex E,((hs.1.Sj hs.2.1 (by rw[dz,aK];exact hs.2.2)<|hF _ hs.2.1)).ex E,(hl.1.Sj hl.2.1 hl.2.2<|hF _ hl.2.1).ex E⟩
 refine eU ?_;refine aeR (d:=⟨g,s,w,ay,fe,lo,p,l,rb,na,nc,nn,rs,rl,iK,lcs,ws,kd,zs,tn,zG rcs rn⟩) (K:=λr=>r<H7.next/\r≠rb) (A:=⟨[],[],[],[],[],tn⟩) (cs:=[(rb,27,[I Q 0 0,I Q 0 0,I Q 0 0,I Q 0 0,I Q 0 0,B tn])]) hG hR hup hrn ⟨hG.2.2.2.2.1,hsz,hlp⟩ ⟨O,O,O⟩ htot ⟨hW,λr y hk=>?_,Bd.nil rb tn,G,?_,rfl,bA _,bA _⟩ ⟨rfl,rfl⟩
 .obtain rfl:r=rb:=aP.1 y;exact hk.2 O
 .exact⟨⟨O,λs h=>absurd h<|jZ _,λs h=>absurd h<|jZ _⟩,rfl,rfl,λs h=>absurd h<|jZ _,λs h=>absurd h<|jZ _⟩
end
end Go.Proofs.Lu
