/-
  Part 10 of the proof. No condition.
-/
import Derived.Test.YtpngmpbmokhmiaaGreatDoorZ09
set_option linter.unusedVariables false
set_option linter.unusedSimpArgs false
set_option maxRecDepth 100000
set_option maxHeartbeats 4000000
set_option linter.defProp false
open Option renaming some->Z,none->W,rec->aN
open Bool renaming true->f,false->aA
open Go renaming Value->D,TypeId->aG
open Go.Value renaming int->bV,slice->T,bool->gF,string->fO
open List renaming replicate->aU,range->fZ,length->gz
open And renaming intro->iq
open List.Perm renaming cons->dQ
noncomputable section
namespace Go.Proofs.Lv
open Go.Proofs.Lu
open Go.Ae Go.Ae.SH
variable{l mk mk':List Bool}{nx':List Nat}{ae:Nat->Ed->Prop}{h1:Nat->Prop}{L L' SH RI:List dJ}{A:At}{q:AV}{K K':D->F->Prop}{H H0:F}{b c es r re s:Nat}{v:D}{vs K_ LX z:List D}
section
variable{S:List Nat}{ax:Nat->Prop}{n:Nat}{P:Nat->Prop}{nx:List Nat}
def TQ{rs:List ResultVar}(h:∀v H,K v H->K' v H):∀o,jR Pg rs K o->jR Pg rs K' o:=by
 have key:∀s:St,(s.df=[]/\@aN (List D) (λ_=>Prop) False (λvs=>K (rV vs) s.H) (kZ Pg s rs))->(s.df=[]/\@aN (List D) (λ_=>Prop) False (λvs=>K' (rV vs) s.H) (kZ Pg s rs)):=by
  rintro s ⟨Q,I⟩;refine⟨Q,?_⟩;cases ha:kZ Pg s rs with
  |none=>rw[ha]at I;exact I
  |some vs=>rw[ha]at I;exact h _ _ I
 intro o ho;cases o with
 |norm s=>exact key s ho
 |ret s=>exact key s ho
 |fail=>exact ho
 |exit i s=>exact ho
 |goto l s=>exact ho
def Jj.bk{ok:Ed->Prop}{key:Ed->Nat}{hr:List dJ}(h:Jj ok key A ae c n vs hr)(y:c<=1000000)(G:M S H0 H<|hr++L)(R:Bk H r 207 vs)(hl:r<H.next):
 BkM (λt l=>(∀p∈l,p.2∈A.cs p.1/\key p.2=t/\ok p.2)/\∀s e,ae s e->ok e->key e=t->(s,e)∈l) H n (Z ⟨r,0,W⟩):=by
 obtain⟨b,Q,I,h3⟩:=h;have hvl:vs.length=n:=by rw[<-h3.len,aM,I]
 refine⟨vs,⟨R.fl hl N,λr' o e _=>by cases e;exact⟨trivial,hl,R.HZ⟩⟩,λt ht=>?_⟩;obtain⟨a,m,c',e1,e2,hf⟩:=h3.all G t N;obtain⟨l,hl⟩:∃l,b[t]?=Z l:=⟨_,au N⟩;rw[bD,hl]at e2 hf;have e2:(Rx l).length=m*4:=e2;rw[OB]at e2;obtain rfl:m=l.length:=by omega
 have:=Q.len l<|aR hl;exact⟨a,c',l,by rw[au N,e1],hf.wk λ_ _=>trivial,⟨Q.snd t l hl,λs e hd hk hkey=>Q.cpl s e l hd hk (by rw[hkey];exact hl)⟩,N⟩
abbrev IW:Ed->Nat:=λe=>e.2.2
abbrev KN:Ed->Nat:=λe=>e.2.1
abbrev okC:Ed->Prop:=λe=>e.1=2
theorem ad6{tok:Bool}{e:Ed}{dc di u ic cc:Nat}{RC:List dJ}{H1:F}(y:c<=1000000)(ho:A.Ok)(he:e∈A.cs s)(hok:At.VL tok e)(hI:Jj (At.VL tok) IW A ae c A.ns LX RI)(hC:Jj okC KN A ae c A.nr K_ RC)(G:M [] H H1<|(re,121,[B e.1,B e.2.1,B e.2.2])::(dc,207,K_)::(di,207,LX)::(u,27,q.cells A)::(RI++RC)){K:Out->Prop}{x0 x1 x2 x4 x8 iL kQ jF lH pz zf uZ v_ x30 x31 x32 zT x38 x39 x88 x89 x90 x115 Eo Ak x157 x158 x159:D}{mO:List (Nat×D)}(kk:∀KP KQ TR X3 zG C,Jj (At.VL tok) IW A (λs' e'=>ae s' e'\/(s'=s/\e'=e)) (c+1) A.ns KP TR->Jj okC KN A (λs' e'=>ae s' e'\/(s'=s/\e'=e)) (c+1) A.nr KQ X3->M [] H C ((re,121,[B e.1,B e.2.1,B e.2.2])::(dc,207,KQ)::(di,207,KP)::(u,27,q.cells A)::(TR++X3))->
  K (.norm<|lC x0 x1 x2 x4 (T (Z ⟨di,0,W⟩) A.ns ic) (T (Z ⟨dc,0,W⟩) A.nr cc) (B s) x8 (pt re) iL kQ jF lH pz zf uZ v_ x30 x31 x32 zT x38 x39 x88 x89 x90 x115 Eo Ak x157 x158 x159 zG C)):
 gJ Pg X (sub oU [1,1,1,0,1,0,0,1,1,0,0,1,1,0,0,1,1,0,0,1,1]) (lC x0 x1 x2 x4 (T (Z ⟨di,0,W⟩) A.ns ic) (T (Z ⟨dc,0,W⟩) A.nr cc) (B s) x8 (pt re) iL kQ jF lH pz zf uZ v_ x30 x31 x32 zT x38 x39 x88 x89 x90 x115 Eo Ak x157 x158 x159 mO H1) K:=by
 have hs:=ho.lt he;have hto:IW e<A.ns:=(ho.e s hs e he).1;have hvI:LX.length=A.ns:=let⟨b,_,I,h3⟩:=hI;by rw[<-h3.len,aM,I]
 have hvC:K_.length=A.nr:=let⟨b,_,I,h3⟩:=hC;by rw[<-h3.len,aM,I]
 refine tm ?_;obtain⟨v,hv,_⟩:∃v,LX[IW e]?=Z v/\True:=⟨_,au N,trivial⟩;refine G.TP (k:=IW e) hto hv<|d_ ?_;refine G.Qa O O O N λH2 rx G sw=>?_;have G:M [] H (hM H1 H2) ((rx,209,[B s,B e.1,B e.2.1,B e.2.2])::([(re,121,[B e.1,B e.2.1,B e.2.2]),(dc,207,K_),(di,207,LX),(u,27,q.cells A)]++(RI++RC))):=G;have hS0:=G;refine hI.put y he hok hto hv G λva vl vc H3 TR hI' G vk=>?_;simp only[bE,bK]at G;have hS1:=G;refine G.Q3 (k:=IW e) hto N (kk:=λH4 G=>?_);have n1:re≠di:=G.nq 0 2 O O N;refine splitK (λK hK=>?_) ?_
 .have r1:∀{o n:Nat}{a b:F},o+n<=3->mY ⟨2,0,0,0,hM H1 H2,H3⟩ ⟨4,re,o,n,a,b⟩=f:=λh=>p8 (hS0.get 1 O) ((hS1.get 0 O).jf O) h (FN ⟨_,_,_,rfl⟩);have r2:∀{n:Nat}{a b:F},n=1->mY ⟨2,0,0,0,hM H1 H2,H3⟩ ⟨4,di,IW e,n,a,b⟩=f:=λh=>p8 (hS0.get 3 O) ((hS1.get 2 O).jf O) N λv hv=>hI.same v<|ko<|eP hv;simp only[sw,eG,fT];generalize hke:IW e=ke at r2|-;rcases vk with e|e<;>rw[e]<;>apply Jd (A:=hM H1 H2) (vn:=H3) (a:=re) (b:=di) n1 (by rfl) (by kernel_rfl) (by kernel_rfl) hK<;>repeat' apply iq
  all_goals first|exact trivial|(intro h;cases h;done)|exactλ_=>⟨rfl,rfl⟩|exactλ_=>r1 N|exactλ_=>r2 O
 refine d_ ?_;refine aC (λhk=>?_) λhk=>?_;rotate_left
 .exact kk _ K_ TR RC _ _ hI' (hC.skip (s:=s) (e:=e) λh=>hk (by have:e.1=2:=h;omega)) G
 have hk2:okC e:=by show e.1=2;omega
 have hca:KN e<A.nr:=ho.call he hk2;clear hS0 hS1 sw vk n1;generalize hM _ H4=Hz at G|-;refine d_ ?_;obtain⟨v,hv,_⟩:∃v,K_[KN e]?=Z v/\True:=⟨_,au N,trivial⟩;refine G.TP (k:=KN e) hca hv<|d_ ?_;refine G.Qa O O O N λH5 ry G sw=>?_;have hS0:=G;have G:=(G.to (cs':=[B s,B e.1,B e.2.1,B e.2.2]) O).cast (L':=(ry,209,[B s,B e.1,B e.2.1,B e.2.2])::(([(re,121,[B e.1,B e.2.1,B e.2.2]),(dc,207,K_),(di,207,LX.set (IW e)<|T va vl vc),(u,27,q.cells A)]++TR)++(RC++[]))) (by simp);refine hC.put y he hk2 hca hv G λvb vm vd H6 X3 hC' G vk=>?_;simp only[bE,bK,a_]at G;have hS1:=G;refine G.Q3 (k:=KN e) hca N (kk:=λH7 G=>?_);have n1:re≠dc:=G.nq 0 1 O O N;refine splitK (λK hK=>?_) ?_
 .have r1:∀{o n:Nat}{a b:F},o+n<=3->mY ⟨2,0,0,0,hM Hz H5,H6⟩ ⟨4,re,o,n,a,b⟩=f:=λh=>p8 (hS0.get 1 O) ((hS1.get 0 O).jf O) h (FN ⟨_,_,_,rfl⟩);have r2:∀{n:Nat}{a b:F},n=1->mY ⟨2,0,0,0,hM Hz H5,H6⟩ ⟨4,dc,KN e,n,a,b⟩=f:=λh=>p8 (hS0.get 2 O) ((hS1.get 1 O).jf O) N λv hv=>hC.same v<|ko<|eP hv;simp only[sw,eG,fT];generalize hke:KN e=ke at r2|-;rcases vk with e|e<;>rw[e]<;>apply Jd (A:=hM Hz H5) (vn:=H6) (a:=re) (b:=dc) n1 (by rfl) (by kernel_rfl) (by kernel_rfl) hK<;>repeat' apply iq
  all_goals first|exact trivial|(intro h;cases h;done)|exactλ_=>⟨rfl,rfl⟩|exactλ_=>r1 N|exactλ_=>r2 O
 exact kk _ _ TR X3 _ _ hI' hC' G
end
section
variable{S:List Nat}{ax:Nat->Prop}{n:Nat}{P:Nat->Prop}{nx:List Nat}
def EI(hw:Wf H)(h:rX ax H A q)(ho:A.Ok)(tok:Bool):aJ Pg X 77 [q.v A,.bool tok] H (Qe (λv C=>∃mk,Bs H.next C A.ns v mk/\∀s,on mk s<->A.Mk tok s) H):=by
 have G:=M.refl hw;have hbig:=ho.big;have KL:=ho.few;refine ce [0,1,2,4,5,6,7,8,10,11,12,13,15,16,18,19,21,30,31,32,37,38,39,88,89,90,115,116,117,157,158,159] ?_;refine tl ?_;refine G.box O λH1 u G=>?_;rw[jV]at G;refine G.rF 0 O (by show 0+6<=6;omega) ?_;refine aJ.mono (qP G.wf q A) ?_;rintro v H2 ⟨rfl,J⟩;have G:=G.call J;refine G.mkS (az _) N λH3 di G=>?_;rw[mK]at G;refine aY ?_;refine G.ld 1 (o:=0) O O ?_;refine aY ?_;refine G.mkS (az _) N λH4 dc G=>?_;rw[mK]at G;refine G.ld 2 (o:=4) O O ?_;refine aY ?_;have G:M [] H H4 ((dc,207,aU A.nr<|T W 0 0)::(di,207,aU A.ns<|T W 0 0)::(u,27,q.cells A)::([]++[])):=G;have ini:∀(ok:Ed->Prop) key n,Jj ok key A (Seen A 0 0) (A.pre 0) n (aU n<|T W 0 0) []:=λok key n=>⟨aU n [],(KD.nil n).wk (λs e h=>by rcases h with⟨h,_⟩|⟨_,j,h,_⟩<;>omega)<|bg _,by simp,by rw[jY];exact H_.aak n⟩;refine lp7 7 8 10 32 37 38 39 (h2:=λm x7 x8 jh x32 zT x38 x39 C=>∃i LX K_ RI RC,x32=B i/\i+m=A.ns/\Jj (At.VL tok) IW A (Seen A i 0) (A.pre i) A.ns LX RI/\Jj okC KN A (Seen A i 0) (A.pre i) A.nr K_ RC/\M [] H C ((dc,207,K_)::(di,207,LX)::(u,27,q.cells A)::(RI++RC))) ?_ A.ns ⟨0,_,_,[],[],rfl,N,ini _ _ _,ini _ _ _,G⟩;clear G J ini;rintro m x7 x8 jh x32 zT x38 x39 mO H5 ⟨i,LX,K_,RI,RC,rfl,him,hI,hC,G⟩;refine tp ?_;refine aC (λy=>?_) λy=>?_;rotate_left
 .obtain rfl:i=A.ns:=by omega
  have hpre:=At.yZ ho A.ns;have all:∀s e,e∈A.cs s->Seen A A.ns 0 s e:=λs e he=>.inl ⟨ho.lt he,he⟩;have hS2:M [] H H5 ((RI++RC)++[(dc,207,K_),(di,207,LX),(u,27,q.cells A)]):=G.perm<|aF (l₁:=[_,_,_]);have b1:=hI.bk (L:=RC++[(dc,207,K_),(di,207,LX),(u,27,q.cells A)]) N (hS2.cast<|by simp) (G.get 1 O) (G.lo _<|aR (i:=1) O).2;have b2:=hC.bk (L:=[(dc,207,K_),(di,207,LX),(u,27,q.cells A)]) N (M.drop (A:=RI)<|hS2.cast<|by simp) (G.get 0 O) (G.lo _<|aR (i:=0) O).2
  have c1:BkM (ajJ A tok) H5 A.ns (Z ⟨di,0,W⟩):=by
   obtain⟨vs,g1,g2⟩:=b1;refine⟨vs,g1,λt ht=>?_⟩;obtain⟨b,c,l,g3,g4,⟨g5,g6⟩,g7⟩:=g2 t ht;exact⟨b,c,l,g3,g4,⟨g5,λs e he hk hkey=>g6 s e (all s e he) hk hkey⟩,g7⟩
  have c2:BkM (ajK A) H5 A.nr (Z ⟨dc,0,W⟩):=by
   obtain⟨vs,g1,g2⟩:=b2;refine⟨vs,g1,λt ht=>?_⟩;obtain⟨b,c,l,g3,g4,⟨g5,g6⟩,g7⟩:=g2 t ht;exact⟨b,c,l,g3,g4,⟨λp hp=>⟨(g5 p hp).1,(g5 p hp).2.2,(g5 p hp).2.1⟩,λs e he hk hkey=>g6 s e (all s e he) hk hkey⟩,g7⟩
  have J:=G.ext;refine gJ.mono (ad5 G.wf (h.ex J) ho (G.get 2 O) (G.lo _<|aR (i:=2) O).2 c1 c2)<|TQ ?_;rintro v H6 ⟨⟨mk,g1,g2⟩,g3⟩;exact⟨⟨mk,g1.le J.next,g2⟩,J.trans g3⟩
 have hi:i<A.ns:=by omega
 refine h.ldE G.ext hi λp ea ec hE=>?_;refine aY ?_;have hpre:=At.vX ho hi;have hpl:=At.yZ ho<|i+1;refine lp2 10 39 (h2:=λm jh x39 C=>∃k LX K_ RI RC,x39=B k/\k+m=(A.cs i).length/\Jj (At.VL tok) IW A (Seen A i k) (A.pre i+k) A.ns LX RI/\Jj okC KN A (Seen A i k) (A.pre i+k) A.nr K_ RC/\M [] H C ((dc,207,K_)::(di,207,LX)::(u,27,q.cells A)::(RI++RC))) ?_ (A.cs i).length ⟨0,LX,K_,RI,RC,rfl,N,hI,hC,G⟩;clear G hI hC y;rintro m' y10 y39 LU H6 ⟨k,LX,K_,RI,RC,rfl,hkm,hI,hC,G⟩;refine tp ?_;refine aC (λy=>?_) λy=>?_;rotate_left
 .obtain rfl:k=(A.cs i).length:=by omega
  refine tl ?_;refine dU ?_;exact⟨A.ns-(i+1),N,_,_,_,_,_,_,_,_,_,O,i+1,LX,K_,RI,RC,nX,N,hI.wk (λs e h=>h.all) N,hC.wk (λs e h=>h.all) N,G⟩
 have hk:k<(A.cs i).length:=by omega
 refine IU (hE.ex G.ext) hk λp=>?_;have hmem:=bB hk;have VG:=ho.len i;have hke:(A.cs i)[k]?=Z (A.cs i)[k]:=au hk;generalize hee:(A.cs i)[k]=e at hke hmem|-;refine G.ns O O O λH8 re G Bw=>?_;have G:M [] H H8 ((re,121,[B e.1,B e.2.1,B e.2.2])::(dc,207,K_)::(di,207,LX)::(u,27,q.cells A)::(RI++RC)):=G
 have cm:At.VL tok e->∀mO(K:Out->Prop),(∀KP KQ TR X3 zG C,Jj (At.VL tok) IW A (Seen A i<|k+1) (A.pre i+(k+1)) A.ns KP TR->Jj okC KN A (Seen A i<|k+1) (A.pre i+(k+1)) A.nr KQ X3->M [] H C ((dc,207,KQ)::(di,207,KP)::(u,27,q.cells A)::(TR++X3))->
  K (.norm<|lC (q.v A) (.bool tok) (pt u) (T W 0 0) (T (Z ⟨di,0,W⟩) A.ns A.ns) (T (Z ⟨dc,0,W⟩) A.nr A.nr) (B i) (.slice ea (A.cs i).length ec) (pt re) top top top top top top top top (T q.ea A.ns q.ec) (B A.ns) (B i) (.slice ea (A.cs i).length ec) (B (A.cs i).length) (B k) top top top top top top top top top zG C))->
  gJ Pg X (sub oU [1,1,1,0,1,0,0,1,1,0,0,1,1,0,0,1,1,0,0,1,1]) (lC (q.v A) (.bool tok) (pt u) (T W 0 0) (T (Z ⟨di,0,W⟩) A.ns A.ns) (T (Z ⟨dc,0,W⟩) A.nr A.nr) (B i) (.slice ea (A.cs i).length ec) (pt re) top top top top top top top top (T q.ea A.ns q.ec) (B A.ns) (B i) (.slice ea (A.cs i).length ec) (B (A.cs i).length) (B k) top top top top top top top top top mO H8) K:=by
  intro hok mO K kk;exact ad6 N ho hmem hok hI hC G λKP KQ TR X3 zG C g1 g2 g3=>kk KP KQ TR X3 zG C (g1.wk (λs e h=>h.next hke)<|az _) (g2.wk (λs e h=>h.next hke)<|az _)<|M.drop (A:=[_]) g3
 refine d_ ?_;refine aC (λhc1=>?_) λhc1=>?_
 .refine dL (λhb=>?_) (λhb=>?_)
  .have hno:¬At.VL tok e:=λh=>by
    have:=h N;subst this;cases hb
   refine dU ?_;exact⟨(A.cs i).length-(k+1),N,_,_,_,_,O,k+1,LX,K_,RI,RC,nX,N,(hI.skip hno).wk (λs e h=>h.next hke)<|az _,(hC.skip λh:e.1=2=>by omega).wk (λs e h=>h.next hke)<|az _,M.drop (A:=[_]) G⟩
  .refine cm (λ_=>by cases tok<;>simp_all) _ _ λKP KQ TR X3 zG C g1 g2 g3=>?_;refine aY ?_;refine tl ?_;refine dU ?_;exact⟨(A.cs i).length-(k+1),N,_,_,_,_,O,k+1,KP,KQ,TR,X3,nX,N,g1,g2,g3⟩
 .refine cm (λh=>absurd N hc1) _ _ λKP KQ TR X3 zG C g1 g2 g3=>?_;refine aY ?_;refine tl ?_;refine dU ?_;exact⟨(A.cs i).length-(k+1),N,_,_,_,_,O,k+1,KP,KQ,TR,X3,nX,N,g1,g2,g3⟩
end
section
variable{S:List Nat}{ax:Nat->Prop}{n:Nat}{P:Nat->Prop}{nx:List Nat}
def rX.n'(h:rX ax H A q):rX ax (hN H) A q:=⟨h.n,h.s,h.p,h.o,h.e⟩
def Bs.at{k:Nat}{a:Option Addr}{K:D->D->F->Prop}(h:Bs b H n (T a n c) mk)(hk:k<n)(kk:∀p t,(t=f<->on mk k)->K p (.bool t) H):PU (Ac 1 (T a n c)<|B k) λp=>ME (uP W p H) (K p):=by
 obtain⟨a',c',e,hl,hf⟩:=h;cases e;obtain⟨t,ht⟩:∃t,mk[k]?=Z t:=⟨_,au N⟩;refine hf.ix hk (kU _ ht) λp=>kk p t ?_;unfold on;rw[ht];simp
def Iw(hw:Wf H)(h:rX ax H A q)(ho:A.Ok)(hm:Bs b H A.ns v mk):aJ Pg X 85 [q.v A,v] H (Qe (λv C=>∃l,Bs H.next C A.nr v l/\∀r,r<A.nr->(on l r<->on mk (A.S r))) H):=by
 have G:=M.refl hw;have KL:=ho.few;obtain⟨ma,mc,rfl,_⟩:=id hm;refine ce [0,1,2,4,5,6,7,13,14,15] ?_;refine tl ?_;refine G.box O λH1 u G=>?_;rw[jV]at G;refine aY ?_;refine G.ld 0 (o:=0) O O ?_;refine aY ?_;refine G.mkS (az _) N λH2 rl G=>?_;rw[mK]at G;refine G.ld 1 (o:=1) O O ?_;refine aY ?_;have G:M [] H H2 [(rl,4,bools<|aU A.nr aA),(u,27,q.cells A)]:=G.to (by simp);refine Ig 6 7 15 (h2:=λm x6 x7 lH C=>∃i l,lH=B i/\i+m=A.nr/\l.length=A.nr/\M [] H C [(rl,4,bools l),(u,27,q.cells A)]/\∀r,r<i->(on l r<->on mk (A.S r))) ?_ A.nr ⟨0,_,rfl,N,by simp,G,λr R=>absurd R N⟩;clear G;rintro m x6 x7 lH mO H3 ⟨i,l,rfl,him,hl,G,hb⟩;refine tp ?_;refine aC (λy=>?_) λy=>?_;rotate_left
 .refine tl ?_;obtain rfl:i=A.nr:=by omega
  refine rr ?_;exact⟨⟨l,⟨_,_,O,hl,i_.one G (aL ..) (by simpa using hl)<|G.wB<|aL ..⟩,hb⟩,G.ext⟩
 have hi:i<A.nr:=by omega
 refine(h.ex G.ext).ldS ho hi λp=>(hm.ex G.ext).at (ho.s i hi).1 λp t ht=>G.YD hi (by simpa using(by omega:i<l.length)) (kk:=λp H4 G=>?_);refine dU ?_;refine⟨A.nr-(i+1),N,_,_,_,_,_,O,i+1,l.set i t,nX,N,by rw[bF];exact hl,?_,λr R=>?_⟩
 .have:bools (l.set i t)=(bools l).set i (.bool t):=fV;rw[this];exact G
 .unfold on;rw[dB]
  by_cases e:i=r
  .subst e;rw[if_pos O,if_pos N];unfold on at ht;rw[<-ht];simp
  .rw[if_neg e];exact hb r N
def EJ(hw:Wf H)(h:rX ax H A q)(ho:A.Ok):aJ Pg X 55 [q.v A] H (Qe (λv C=>∃l,Bs H.next C A.nr v l/\∀r,r<A.nr->(on l r<->A.Mk aA (A.S r))) H):=by
 have G:=M.refl hw;refine ce [0,1,2] ?_;refine tl ?_;refine G.box O λH1 u G=>?_;rw[jV]at G;refine G.rF 0 O (by show 0+6<=6;omega) ?_;refine aJ.mono (sU G.wf (h.ex G.ext) ho) ?_;rintro v H2 ⟨rfl,J⟩;have G:=G.call J;refine aY ?_;refine dL (λhb=>by cases hb) λ_=>?_;refine G.J8 0 O (by show 0+6<=6;omega) ?_
 try simp only[gZ G.wf]
 refine G.J8 0 O (by show 0+6<=6;omega) ?_
 try simp only[gZ G.wf]
 refine aJ.mono (EI (nG H2) (h.ex G.ext).n' ho aA) ?_;rintro v H3 ⟨⟨mk,hm,hk⟩,hx3⟩;have rQ:=G.mV hx3;have hm':Bs H2.next (hN<|hM H2 H3) A.ns v mk:=hm
 refine aJ.mono (Iw (nG<|hM H2 H3) (h.ex rQ.ext).n' ho hm') ?_;rintro w H4 ⟨⟨l,hl,hlr⟩,hx4⟩;have uR:=rQ.mV hx4;refine iB (by simp only[eG,fK hx3,fK hx4];rfl) ?_;have hge:H.next<=(hM H2 H3).next:=rQ.ext.next
 have hl':Bs (hM H2 H3).next (hM (hM H2 H3) H4) A.nr w l:=hl
 refine rr ?_;exact⟨⟨l,hl'.le hge,λr R=>(hlr r R).trans<|hk _⟩,uR.ext⟩
def X4(hw:Wf H)(h:rX ax H A q)(ho:A.Ok):aJ Pg X 96 [q.v A] H (Qe (λv C=>∃l,Bs H.next C A.nr v l/\∀r,r<A.nr->(on l r<->A.Mk f (A.S r))) H):=by
 have G:=M.refl hw;refine ce [0,1,2] ?_;refine tl ?_;refine G.box O λH1 u G=>?_;rw[jV]at G;refine G.rF 0 O (by show 0+6<=6;omega) ?_;refine aJ.mono (sU G.wf (h.ex G.ext) ho) ?_;rintro v H2 ⟨rfl,J⟩;have G:=G.call J;refine aY ?_;refine dL (λhb=>by cases hb) λ_=>?_;refine G.J8 0 O (by show 0+6<=6;omega) ?_
 try simp only[gZ G.wf]
 refine G.J8 0 O (by show 0+6<=6;omega) ?_
 try simp only[gZ G.wf]
 refine aJ.mono (EI (nG H2) (h.ex G.ext).n' ho f) ?_;rintro v H3 ⟨⟨mk,hm,hk⟩,hx3⟩;have rQ:=G.mV hx3;have hm':Bs H2.next (hN<|hM H2 H3) A.ns v mk:=hm
 refine aJ.mono (Iw (nG<|hM H2 H3) (h.ex rQ.ext).n' ho hm') ?_;rintro w H4 ⟨⟨l,hl,hlr⟩,hx4⟩;have uR:=rQ.mV hx4;refine iB (by simp only[eG,fK hx3,fK hx4];rfl) ?_;have hge:H.next<=(hM H2 H3).next:=rQ.ext.next
 have hl':Bs (hM H2 H3).next (hM (hM H2 H3) H4) A.nr w l:=hl
 refine rr ?_;exact⟨⟨l,hl'.le hge,λr R=>(hlr r R).trans<|hk _⟩,uR.ext⟩
end
section
variable{S:List Nat}{ax:Nat->Prop}{n:Nat}{P:Nat->Prop}{nx:List Nat}
def _root_.Go.Ae.M.bSx(G:M S H0 H L){e:aG}(hz:z.length=es)(hv:pK v=f)(y:(bI v).length=es)(he:es<=16777216)(k:∀H1 r,M S H0 H1 ((r,e,bI v)::L)->Ext H H1->K (T (Z ⟨r,0,W⟩) 1 1) H1):ME (Go.Ae.bS e z es 1 [(0,v)] H) K:=
 (M.refl G.wf).bS hz hv y he λH1 r hO=>k H1 r (M.frame (SH:=[]) (L:=L) G hO) hO.ext
def X5(h:H.cell re 0=Z v)(R:re<H.next)(hl:Bs b H A.nr v l)(ho:A.Ok)(hlr:∀r,r<A.nr->(on l r<->A.Mk aA (A.S r))):Wnt A A.isF H (.func (.func 189) ⟨[]⟩ ⟨[pt re]⟩):=by
 intro C s e J hw he;have hl:=hl.ex J;have h:C.cell re 0=Z v:=(lQ (J.obj re R<|by simp) 0).trans h;have R:=aP R J.next
 show aJ Pg X 189 [_,pt re] C _;have G:=M.refl hw;refine ce [0,1,2,3] ?_;refine tl ?_;refine G.box O λH1 rb G=>?_;have G:M [] C H1 [(rb,121,[B e.1,B e.2.1,B e.2.2])]:=G;refine d_ ?_;refine aC (λy=>?_) λy=>?_
 .refine rr ?_;exact⟨⟨f,O,λ_=>.inl N,λ_=>rfl⟩,G.ext⟩
 refine d_ ?_;refine aC (λhc2=>?_) λhc2=>?_
 .have hca:=ho.call he N;refine G.Ay h R<|G.oF ?_;obtain⟨ea,ec,rfl,_⟩:=id hl;refine(hl.ex G.ext).at hca λp t ht=>?_;refine rr ?_;refine⟨⟨t,O,λh=>.inr ⟨N,(hlr _ hca).1<|ht.1 h⟩,λh=>?_⟩,G.ext⟩;rcases h with h|h
  .exact absurd N y
  .exact ht.2<|(hlr _ hca).2 h.2
 .refine rr ?_;refine⟨⟨aA,O,λh=>(by cases h),λh=>?_⟩,G.ext⟩;rcases h with h|h
  .exact absurd N y
  .exact absurd (by have:=h.1;omega) hc2
def alv(b:Nat)(H:F)(v:D)(p:Nat->Prop):Prop:=∃a c l,v=T a l.length c/\i_ (b<=·) 3 H a l.length 1 (fG l)/\l.Pairwise (·<·)/\∀t,t∈l<->p t
def YJ(mk:List Bool)(i:Nat):List Nat:=(fZ i).filter λt=>mk[t]?==Z f
def Q4(mk:List Bool)(i:Nat):YJ mk (i+1)=YJ mk i++(if mk[i]?==Z f then[i]else[]):=by
 unfold YJ;rw[List.range_succ,rT];congr 1;simp[nQ]
def ad7(mk:List Bool)(i:Nat):(YJ mk i).length<=i:=by
 unfold YJ;have:=mX (λt=>mk[t]?==Z f)<|fZ i
 rwa [pQ]at this
def free_spec(hw:Wf H)(h:rX ax H A q)(ho:A.Ok)(hs:s<A.ns):aJ Pg X 159 [q.v A,B s] H (Qe (λv C=>alv H.next C v<|A.fre s) H):=by
 have G:=M.refl hw;have hbig:=ho.big;refine ce [0,1,2,4,5,6,7,8,9,30,31,32] ?_;refine tl ?_;refine G.box O λH1 u G=>?_;rw[jV]at G;refine G.rF 0 O (by show 0+6<=6;omega) ?_;refine aJ.mono (sU G.wf (h.ex G.ext) ho) ?_;rintro v H2 ⟨rfl,J⟩;have G:=G.call J;refine aY ?_;refine dL (λhb=>by cases hb) λ_=>?_;refine aC (λy=>absurd y N) λ_=>?_;refine G.rF 0 O (by show 0+6<=6;omega) ?_;refine aJ.mono (qP G.wf q A) ?_;rintro v H3 ⟨rfl,J⟩;have G:=G.call J;refine aY ?_;refine aC (λy=>absurd y N) λ_=>?_;refine tl ?_;refine G.rF 0 O (by show 0+6<=6;omega) ?_;refine aJ.mono (EJ G.wf (h.ex G.ext) ho) ?_;rintro v H4 ⟨⟨l,hl,hlr⟩,J⟩;have G:=G.call J;obtain⟨ea,ec,rfl,_⟩:=id hl;refine G.ns O O O λH5 re G hx5=>?_;have G:M [] H H5 [(re,34,[T ea A.nr ec]),(u,27,q.cells A)]:=G;have hl5:=hl.ex hx5;refine G.rF 1 O (by show 0+6<=6;omega) ?_;refine G.bSx O O O N λH6 rx G hx6=>?_;have G:M [] H H6 [(rx,3,fG [s]),(re,34,[T ea A.nr ec]),(u,27,q.cells A)]:=G;have hge:=G.ext.next
 refine aJ.mono (M0 (ax:=λ_=>True) (fl:=[s]) (w:=A.isF) G.wf ((h.ex G.ext).wk λ_ _=>trivial) ho (i_.one G (aL ..) O trivial) (by simpa using hs) (by simp)<|X5 ((G.get 1 O).cell O) (G.lo _<|aR (i:=1) O).2 (hl5.ex hx6) ho hlr) ?_;rintro v H7 ⟨⟨mk,hm,hk⟩,J⟩;have G:=G.call J;have hlen:mk.length=A.ns:=let⟨_,_,_,h,_⟩:=hm;h
 have hfr:∀t,on mk t<->A.fre s t:=λt=>by
  rw[hk];have:(·∈[s])=(·=s):=by funext x;simp
  rw[this];rfl
 obtain⟨ma,mc,rfl,_⟩:=id hm;refine aY ?_;have hS0:=G;refine Oa 7 8 9 32 (h2:=λm x7 x8 x9 x32 C=>∃i gb,x32=B i/\i+m=A.ns/\GB 3 1 x7 (fG<|YJ mk i) gb/\M [] H7 C (gb++[])) ?_ A.ns ⟨0,[],rfl,N,GB.nil _ _,M.refl G.wf⟩;clear G;rintro m x7 x8 x9 x32 mO H8 ⟨i,gb,rfl,him,hg,G⟩;refine tp ?_;refine aC (λy=>?_) λy=>?_;rotate_left
 .refine tl ?_;obtain rfl:i=A.ns:=by omega
  obtain⟨a,n,c,rfl,hn,hf⟩:=hg.Rw G;have hn:(YJ mk A.ns).length=n:=by simpa using hn
  subst hn;refine rr ?_;refine⟨⟨a,c,YJ mk A.ns,O,hf.le<|aX hge J.next,?_,λt=>?_⟩,hS0.ext.trans G.ext⟩
  .exact List.Pairwise.filter _ List.pairwise_lt_range
  .rw[<-hfr];unfold YJ on;rw[uU,lZ];constructor
   .intro h;simpa using h.2
   .intro h;exact⟨by have:=(bA.1 h).1;omega,by simpa using h⟩
 have hi:i<A.ns:=by omega
 have hol:=ad7 mk i;refine(hm.ex G.ext).at hi λp t ht=>?_;refine aY ?_;refine dL (λhb=>?_) λhb=>?_
 .subst hb;refine hg.push G N O O O O O N (by simpa using(by omega:(YJ mk i).length<=16777216)) λw v' H9 gT hg' G=>?_;refine dU ?_;refine⟨A.ns-(i+1),N,_,_,_,_,_,_,O,i+1,gT,nX,N,?_,G⟩;have Q:=ht.1 O;unfold on at Q;rw[Q4,Q];have:fG (YJ mk i++if(Z f==Z f)=f then[i]else[])=fG (YJ mk i)++bI (B i):=by simp;rfl
  rw[this];exact hg'
 .subst hb;refine dU ?_;refine⟨A.ns-(i+1),N,_,_,_,_,_,_,O,i+1,gb,nX,N,?_,G⟩;have Q:¬on mk i:=λh=>by cases ht.2 h
  unfold on at Q;rw[Q4,if_neg<|by simpa using Q,a_];exact hg
end
end Go.Proofs.Lv
namespace Go.Proofs.Lu
open Go.Ae
namespace At
variable{e:Ed}{a b s:Nat}{A2:At}
variable{A A':At}{lw k k2 c c2:Nat}
def fr(A:At):At:={A with ow:=A.ow++[A.nr-1],eg:=A.eg++[[]]}
def pu(A:At)(s:Nat)(e:Ed):At:={A with eg:=A.eg.set s (A.cs s++[e])}
def tot(A:At):Nat:=(A.eg.map gz).sum
def EdL(lw ty:Nat)(e:Ed):Prop:=e.1=0\/(e.1=1/\e.2.1<ty)\/(e.1=2/\e.2.1<lw)
structure Bu(lw:Nat)(A:At):Prop where
 zJ:A.eg.length=A.ns
 o:∀s,s<A.ns->A.aj s<A.nr
 e:∀s,s<A.ns->∀e∈A.cs s,e.2.2<A.ns/\A.aj e.2.2=A.aj s/\EdL lw A.ty e
structure Gw(A A':At)(k c:Nat):Prop where
 nm:A'.nm=A.nm
 st:A'.st=A.st
 sp:A'.sp=A.sp
 ty:A'.ty=A.ty
 ow:A'.ow=A.ow++aU k (A.nr-1)
 tt:A'.tot=A.tot+c
def Gw.refl(A:At):Gw A A 0 0:=⟨O,O,O,O,by simp,rfl⟩
def Gw.nr(h:Gw A A' k c):A'.nr=A.nr:=dV gz h.nm
def Gw.ns(h:Gw A A' k c):A'.ns=A.ns+k:=by
 unfold At.ns;rw[h.ow];simp
def Gw.trans(h:Gw A A' k c)(I:Gw A' A2 k2 c2):Gw A A2 (k+k2) (c+c2):=
 ⟨I.nm.trans h.nm,I.st.trans h.st,I.sp.trans h.sp,I.ty.trans h.ty,by rw[I.ow,h.ow,h.nr,bP,List.replicate_append_replicate],by rw[I.tt,h.tt,Nat.add_assoc]⟩
def Gw.cast(h:Gw A A' k c)(hk:k=k2)(y:c=c2):Gw A A' k2 c2:=by subst hk;subst y;exact h
def Gw.aj(h:Gw A A' k c)(hs:s<A.ns):A'.aj s=A.aj s:=by
 unfold At.aj;rw[h.ow,bJ hs]
def cur(A:At)(s:Nat):Prop:=s<A.ns/\A.aj s=A.nr-1
def cur.gw(h:A.cur s)(g:Gw A A' k c):A'.cur s:=⟨by rw[g.ns];have:=h.1;omega,by rw[g.aj h.1,g.nr];exact h.2⟩
def Gw.fr(A:At):Gw A A.fr 1 0:=⟨O,O,O,O,O,by unfold At.tot At.fr;simp⟩
def abD(A:At):A.fr.cur A.ns:=by
 refine⟨by rw[(Gw.fr A).ns];omega,?_⟩;show(A.ow++[A.nr-1])[A.ow.length]?.getD 0=_;rw[dS (az _),ja];rfl
def alx(hl:A.eg.length=A.ns)(s:Nat):A.fr.cs s=A.cs s:=by
 show(A.eg++[[]])[s]?.getD []=_;unfold cs;rcases bZ s A.eg.length with h|h
 .rw[bJ h]
 .rw[dS h,fC (by omega:A.eg.length<=s)];cases s-A.eg.length<;>rfl
theorem Bu.fr(h:Bu lw A)(hp:1<=A.nr):Bu lw A.fr:=by
 have g:=Gw.fr A;have hns:=g.ns;refine⟨?_,λs hs=>?_,λs hs e he=>?_⟩
 .show(A.eg++[[]]).length=_;rw[aQ,hns,h.zJ];rfl
 .rcases bZ s A.ns with Q|Q
  .rw[g.aj Q,g.nr];exact h.o s Q
  .obtain rfl:s=A.ns:=by omega
   rw[(abD A).2,g.nr];omega
 .rw[alx h.zJ]at he;rcases bZ s A.ns with Q|Q
  .obtain⟨a,b,c⟩:=h.e s Q e he;exact⟨N,by rw[g.aj a,g.aj Q];exact b,c⟩
  .rw[QX h.zJ N]at he;cases he
def ad8{l:List (List Ed)}{x:List Ed}(hs:s<l.length)(J:x=l[s]++[e]):((l.set s x).map gz).sum=(l.map gz).sum+1:=by
 induction l generalizing s with
 |nil=>simp at hs
 |cons hc l ih=>
  cases s with
  |zero=>
   subst J;simp;omega
  |succ s=>
   have:=ih (s:=s) (by simpa using hs) (by simpa using J);simp only[jo,iA,tq,this];omega
def Gw.pu(hl:A.eg.length=A.ns)(hs:s<A.ns)(e:Ed):Gw A (A.pu s e) 0 1:=
 ⟨rfl,rfl,rfl,rfl,by simp[At.pu],by
  have hs':s<A.eg.length:=by omega
  refine ad8 (e:=e) hs' ?_;unfold cs;rw[au hs'];rfl⟩
def ahf(hl:A.eg.length=A.ns)(hs:s<A.ns)(t:Nat):(A.pu s e).cs t=if t=s then A.cs s++[e]else A.cs t:=by
 show(A.eg.set s<|A.cs s++[e])[t]?.getD []=_;rw[dB]
 by_cases h:s=t
 .subst h;rw[if_pos O,if_pos N,if_pos O];rfl
 .rw[if_neg h,if_neg λe=>h e.symm];rfl
def Bu.pu(h:Bu lw A)(hs:s<A.ns)(Q:e.2.2<A.ns)(I:A.aj e.2.2=A.aj s)(h3:EdL lw A.ty e):Bu lw (A.pu s e):=by
 refine⟨?_,h.o,λt ht e' he=>?_⟩
 .show(A.eg.set s _).length=_;rw[bF];exact h.zJ
 .rw[ahf h.zJ hs]at he;split at he
  .next ht2=>
   subst ht2;rcases bX.1 he with he|he
   .exact h.e t hs e' he
   .rw[aO]at he;subst he;exact⟨Q,I,h3⟩
  .exact h.e t ht e' he
def Bu.puC(h:Bu lw A)(hs:A.cur s)(Q:A.cur e.2.2)(h3:EdL lw A.ty e):Bu lw (A.pu s e):=h.pu hs.1 Q.1 (Q.2.trans hs.2.symm) h3
def ru(A:At)(nm:ByteArray):At:={A with nm:=A.nm++[nm]}
def se(A:At)(a b:Nat):At:={A with st:=A.st++[a],sp:=A.sp++[b]}
structure Bs'(lw:Nat)(A:At):Prop where
 bu:Bu lw A
 VJ:A.st.length=A.nr
 XX:A.sp.length=A.nr
 s:∀r,r<A.nr->A.S r<A.ns/\A.aj (A.S r)=r
 p:∀r,r<A.nr->A.P r<A.ns/\A.aj (A.P r)=r
def Bu.ru(h:Bu lw A)(nm:ByteArray):Bu lw (A.ru nm):=
 ⟨h.zJ,λs hs=>by
   have:=h.o s hs;show A.aj s<(A.nm++[nm]).length;rw[aQ];exact Nat.lt_succ_of_lt this,h.e⟩
def Bs'.next(h:Bs' lw A){nm:ByteArray}{A1:At}(g:Gw (A.ru nm) A1 k c)(ha:A1.cur a)(hb:A1.cur b)(g2:Gw (A1.se a b) A2 k2 c2)(hB:Bu lw A2):Bs' lw A2:=by
 have e1:A2.nr=A.nr+1:=by rw[g2.nr];show A1.nr=_;rw[g.nr];show(A.nm++[nm]).length=_;rw[aQ];rfl
 have e2:A2.st=A.st++[a]:=by rw[g2.st];show A1.st++[a]=_;rw[g.st];rfl
 have e3:A2.sp=A.sp++[b]:=by rw[g2.sp];show A1.sp++[b]=_;rw[g.sp];rfl
 have n1:A1.ns=A.ns+k:=g.ns;have n2:A2.ns=A1.ns+k2:=g2.ns;have nr1:A1.nr=A.nr+1:=by rw[g.nr];show(A.nm++[nm]).length=_;rw[aQ];rfl
 have oo:∀t,t<A.ns->A2.aj t=A.aj t:=λt ht=>by
  rw[g2.aj (show t<A1.ns by omega)];exact g.aj ht
 have oc:∀t,A1.cur t->A2.aj t=A.nr:=λt ht=>by
  rw[g2.aj ht.1];show A1.aj t=_;rw[ht.2,nr1];omega
 refine⟨hB,by rw[e2,aQ,h.VJ,e1];rfl,by rw[e3,aQ,h.XX,e1];rfl,λr R=>?_,λr R=>?_⟩
 .unfold S;rw[e2];rcases bZ r A.nr with Q|Q
  .rw[bJ (by rw[h.VJ];exact Q)];have:=h.s r Q;exact⟨aP this.1 N,(oo _ this.1).trans this.2⟩
  .obtain rfl:r=A.nr:=by omega
   rw[dS (by rw[h.VJ];exact az _),h.VJ,ja];exact⟨by show a<_;have:=ha.1;omega,oc a ha⟩
 .unfold P;rw[e3];rcases bZ r A.nr with Q|Q
  .rw[bJ (by rw[h.XX];exact Q)];have:=h.p r Q;exact⟨aP this.1 N,(oo _ this.1).trans this.2⟩
  .obtain rfl:r=A.nr:=by omega
   rw[dS (by rw[h.XX];exact az _),h.XX,ja];exact⟨by show b<_;have:=hb.1;omega,oc b hb⟩
theorem Bs'.ok(h:Bs' lw A)(hl:A.nr=lw)(hp:1<=A.nr)(hf:A.nr<=1000)(hb:A.ns<=4000)(ht:A.tot<=100000):A.Ok where
 pos:=hp
 VJ:=h.VJ
 XX:=h.XX
 zJ:=h.bu.zJ
 big:=hb
 few:=hf
 s:=h.s
 p:=h.p
 o:=h.bu.o
 e:=λs hs e he=>by
  obtain⟨a,b,c⟩:=h.bu.e s hs e he;refine⟨a,b,?_⟩;unfold EdL at c;unfold ad2;rw[hl];exact c
 tot:=ht
end At
variable{F' K:Nat->Prop}{L L' SH M' M1 gb:List dJ}{mO:List (Nat×D)}{A A' A1:At}{zs:Nat->List Nat}{E iH rcs:List D}{h1:D->F->Prop}{H C H0 H1 H3:F}{nm t:ByteArray}{kd:Nat->Int}{b c c1 es g i j k kc nc nn o r ra rb rc tn vc xc xn z:Nat}{a ka na va xa:Option Addr}{ty:aG}{l ws:List Nat}{e:Ed}{v kQ jF lH pz zF uZ x20 v_ DR xM x24 x25 x32 K6 zT x38 x64 YF x66:D}
section
open Go.Ae Go.Ae.SH Go.Proofs.Lv
variable{S:List Nat}{ax:Nat->Prop}
def Bd(ra:Nat)(A:At)(SH:List dJ):Prop:=∃nv sv pv ov ev evs gn gs gp go ge hr,SH=(ra,27,[nv,sv,pv,ov,ev,B A.ty])::(gn++(gs++(gp++(go++(ge++hr)))))/\GB 9 1 nv (A.nm.map .string) gn/\GB 3 1 sv (fG A.st) gs/\GB 3 1 pv (fG A.sp) gp/\GB 3 1 ov (fG A.ow) go/\GB 119 1 ev evs ge/\H_ 121 3 (A.eg.map zq) evs hr
def _root_.Go.Ae.GB.RU(h:GB ty 1 v E gb):∃a c,v=T a E.length c:=by
 rcases h with⟨rfl,rfl,_⟩|⟨r,n,dY,rfl,hn,_⟩
 .exact⟨W,0,O⟩
 .obtain rfl:n=E.length:=by omega
  exact⟨_,_,O⟩
theorem TS(hB:Bd ra A SH)(G:M S H0 H<|SH++L)(hp:1<=A.nr)(hn:A.nr<=1000)(hs:A.ns<=100000)(hl:A.eg.length=A.ns):aJ Pg X 152 [pr ra] H λv C=>v=B A.ns/\∃M',Bd ra A.fr M'/\M S H0 C (M'++L):=by
 obtain⟨nv,sv,pv,ov,ev,evs,gn,gs,gp,go,ge,hr,rfl,hgn,hgs,Q5,hgo,hge,hR⟩:=hB;have G:=G.cast (L':=(ra,27,[nv,sv,pv,ov,ev,B A.ty])::(gn++(gs++(gp++(go++(ge++(hr++L))))))) (by simp);have hev:evs.length=A.ns:=by rw[<-hR.len,aM,hl]
 refine ce [0,1] ?_;refine tp ?_;refine G.ld 0 (o:=3) O O ?_;refine G.ld 0 (o:=0) O O ?_;obtain⟨na,nc,rfl⟩:=hgn.RU;refine aY ?_;rw[aM];refine PU.of (nW (by have:A.nr=A.nm.length:=rfl;omega) (by have:A.nr=A.nm.length:=rfl;omega)) ?_;rw[show((A.nm.length:Int)-1)=((A.nr-1:Nat):Int) by have:A.nr=A.nm.length:=rfl;omega]
 have G:=G.perm (L':=go++((ra,27,[.slice na (A.nm.map fO).length nc,sv,pv,ov,ev,B A.ty])::(gn++(gs++(gp++(ge++(hr++L))))))) (by
  have:=iE ((ra,27,[.slice na (A.nm.map fO).length nc,sv,pv,ov,ev,B A.ty])::(gn++(gs++gp))) go<|ge++(hr++L);simpa using this)
 refine hgo.push G N O O O O O N (by simpa using(by unfold At.ns at hs;omega:A.ow.length<=16777216)) λw v1 H1 go' hgo' G=>?_;have G:=G.perm (L':=(ra,27,[.slice na (A.nm.map fO).length nc,sv,pv,ov,ev,B A.ty])::(go'++(gn++(gs++(gp++(ge++(hr++L))))))) iX;obtain⟨oa,oc,rfl⟩:=hgo'.RU;refine G.st 0 O O (by show 3+1<=6;omega) rfl λH2 G=>?_;have G:=G.to (cs':=[.slice na (A.nm.map fO).length nc,sv,pv,.slice oa (fG A.ow++bI (B<|A.nr-1)).length oc,ev,B A.ty]) O;refine G.ld 0 (o:=4) O O ?_
 have G:=G.perm (L':=ge++((ra,27,[.slice na (A.nm.map fO).length nc,sv,pv,.slice oa (fG A.ow++bI (B<|A.nr-1)).length oc,ev,B A.ty])::(go'++(gn++(gs++(gp++(hr++L))))))) (by
  have:=iE ((ra,27,[.slice na (A.nm.map fO).length nc,sv,pv,.slice oa (fG A.ow++bI (B<|A.nr-1)).length oc,ev,B A.ty])::(go'++(gn++(gs++gp)))) ge<|hr++L;simpa using this)
 refine hge.push G N O O O O O N N λw v2 H3 ge' hge' G=>?_;have G:=G.perm (L':=(ra,27,[.slice na (A.nm.map fO).length nc,sv,pv,.slice oa (fG A.ow++bI (B<|A.nr-1)).length oc,ev,B A.ty])::(ge'++(go'++(gn++(gs++(gp++(hr++L))))))) iX;obtain⟨ea,ec,rfl⟩:=hge'.RU;refine G.st 0 O O (by show 4+1<=6;omega) rfl λH4 G=>?_;have G:=G.to (cs':=[.slice na (A.nm.map fO).length nc,sv,pv,.slice oa (fG A.ow++bI (B<|A.nr-1)).length oc,.slice ea (evs++bI (T W 0 0)).length ec,B A.ty]) O;refine G.ld 0 (o:=3) O O ?_;refine aY ?_;have ol:(fG A.ow++bI (B<|A.nr-1)).length=A.ns+1:=by rw[aQ,aM];rfl
 rw[ol]at G|-;refine qX ?_;rw[show(((A.ns+1:Nat):Int)-1)=(A.ns:Int) by omega];refine rr ?_;refine⟨O,(ra,27,[.slice na (A.nm.map fO).length nc,sv,pv,T oa (A.ns+1) oc,.slice ea (evs++bI (T W 0 0)).length ec,B A.ty])::(gn++(gs++(gp++(go'++(ge'++hr))))),⟨_,_,_,_,_,evs++[T W 0 0],gn,gs,gp,go',ge',hr,O,hgn,hgs,Q5,?_,hge',?_⟩,?_⟩
 .have:fG (A.fr).ow=fG A.ow++bI (B<|A.nr-1):=by show fG (A.ow++[A.nr-1])=_;simp;rfl
  rw[this,<-ol];exact hgo'
 .have:(A.fr).eg.map zq=A.eg.map zq++[[]]:=by show(A.eg++[[]]).map zq=_;simp;rfl
  rw[this];have:=hR.snoc<|GB.nil 121 3
  rwa [a_]at this
 .refine G.perm ?_;have p1:=iE ge' go'<|(gn++(gs++gp))++(hr++L);have p2:=iE (go'++ge') (gn++(gs++gp))<|hr++L;simp only[bP]at p1 p2;have p3:=p1.trans p2;simp only[bE,bP];rw[ol]at*;exact p3.cons _
end
section
open Go.Ae Go.Ae.SH Go.Proofs.Lv
variable{S:List Nat}{ax:Nat->Prop}
def abE:∀{l:List Nat}{x:Nat},x∈l->x<=l.sum
 |hc::l,x,h=>by
  rw[tq];rcases bM.1 h with rfl|h
  .omega
  .have:=abE h;omega
theorem X6{fr:Nat}(hB:Bd ra A SH)(G:M S H0 H<|SH++L)(hf:fr<A.ns)(hl:A.eg.length=A.ns)(ht:A.tot<=1000000):aJ Pg X 153 [B fr,.agg ⟨[B e.1,B e.2.1,B e.2.2]⟩,pr ra] H λv C=>∃M',Bd ra (A.pu fr e) M'/\M S H0 C (M'++L):=by
 obtain⟨nv,sv,pv,ov,ev,evs,gn,gs,gp,go,ge,hr,rfl,hgn,hgs,Q5,hgo,hge,hR⟩:=hB;have hev:evs.length=A.ns:=by rw[<-hR.len,aM,hl]
 rcases hge with⟨_,h0,_⟩|⟨rE,n,dY,rfl,hn,rfl⟩
 .rw[h0]at hev;simp at hev;omega
 obtain rfl:n=A.ns:=by omega
 obtain⟨A',gb,vn,rfl,hgb,hput⟩:=hR.at fr N
 have hE:(A.eg.map zq)[fr]?.getD []=zq (A.cs fr):=by
  unfold At.cs;rw[bD,au (show fr<A.eg.length by omega)];rfl
 rw[hE]at hgb
 have hEl:(A.cs fr).length<=1000000:=by
  have:(A.cs fr).length<=A.tot:=by
   unfold At.cs At.tot;rw[au (show fr<A.eg.length by omega)];exact abE<|bQ.2 ⟨_,bB _,O⟩
  omega
 have hv0:(evs++dY)[fr]?=Z evs[fr]:=by rw[bJ N];exact au N
 have G:=G.perm (L':=(ra,27,[nv,sv,pv,ov,T (Z ⟨rE,0,W⟩) A.ns<|fI 1,B A.ty])::(rE,119,evs++dY)::(gb++((gn++(gs++(gp++go)))++(A'++(vn++L))))) (by
  have p1:=iE (gn++(gs++(gp++go))) [(rE,119,evs++dY)]<|A'++(gb++(vn++L));have p2:=iE ((gn++(gs++(gp++go)))++A') gb<|vn++L;simp only[bP,bE,bK]at p1 p2|-;exact(p1.trans<|p2.cons _).cons _)
 refine ce [0,1,2,4] ?_;refine tl ?_;refine G.box O λH1 re G=>?_;have G:M S H0 H1 ((re,121,[B e.1,B e.2.1,B e.2.2])::(ra,27,[nv,sv,pv,ov,T (Z ⟨rE,0,W⟩) A.ns<|fI 1,B A.ty])::(rE,119,evs++dY)::(gb++((gn++(gs++(gp++go)))++(A'++(vn++L))))):=G;refine d_ ?_;refine G.TP hf hv0 ?_;refine d_ ?_;refine G.Qa O O O N λH2 rx G sw=>?_;have hS0:=G;have G:=(G.to (cs':=[B e.1,B e.2.1,B e.2.2]) O).perm (L':=(rx,121,[B e.1,B e.2.1,B e.2.2])::(gb++([(re,121,[B e.1,B e.2.1,B e.2.2]),(ra,27,[nv,sv,pv,ov,T (Z ⟨rE,0,W⟩) A.ns<|fI 1,B A.ty]),(rE,119,evs++dY)]++((gn++(gs++(gp++go)))++(A'++(vn++L))))))<|(iE [_,_,_] gb _).cons _;refine hgb.Gj G N O O (by rw[Ji];omega) λv' H3 gT hgb' G _ _ vk=>?_;have G:=G.perm<|iE gT [_,_,_] _;simp only[bE,bK]at G;have hS1:=G;obtain⟨va,vl,vc,rfl⟩:=hgb'.sl;refine G.Q3 hf (by rw[aQ];omega) (kk:=λH4 G=>?_);have n1:re≠ra:=G.nq 0 1 O O N;have n2:re≠rE:=G.nq 0 2 O O N;have n3:ra≠rE:=G.nq 1 2 O O N;refine splitK (λK hK=>?_) ?_
 .have r1:∀{o n:Nat}{a b:F},o+n<=3->mY ⟨2,0,0,0,hM H1 H2,H3⟩ ⟨4,re,o,n,a,b⟩=f:=λh=>p8 (hS0.get 1 O) ((hS1.get 0 O).jf O) h (FN ⟨_,_,_,rfl⟩)
  have r2:∀{a b:F},mY ⟨2,0,0,0,hM H1 H2,H3⟩ ⟨4,ra,4,1,a,b⟩=f:=λ{a b}=>p8 (hS0.get 2 O) ((hS1.get 1 O).jf O) (by show 4+1<=6;omega) (by
   intro v hv;have hv:v∈[T (Z ⟨rE,0,W⟩) A.ns (fI 1)]:=hv;rw[aO]at hv;subst hv;exact oQ _ _ _ λx h=>by cases h;rfl)
  have r3:∀{a b:F},mY ⟨2,0,0,0,hM H1 H2,H3⟩ ⟨4,rE,fr,1,a,b⟩=f:=λ{a b}=>p8 (hS0.get 3 O) ((hS1.get 2 O).jf O) (by rw[aQ];omega) (by
   intro v hv
   have:v=evs[fr]:=by
    have Q:((evs++dY).drop fr).take 1=[evs[fr]]:=by
     rw[dN (by rw[aQ];omega),jO,j3,iI N]
    rw[Q,aO]at hv;exact hv
   subst this;exact Ap hR _<|bB _)
  simp only[sw,eG,fT];rcases vk with e|e<;>rw[e]<;>apply N9 (A:=hM H1 H2) (vn:=H3) (a:=re) (b:=ra) (c:=rE) n1 n2 n3 (by rfl) (by kernel_rfl) (by kernel_rfl) hK<;>repeat' apply iq
  all_goals first|exact trivial|(intro h;cases h;done)|exactλ_=>⟨rfl,rfl⟩|exactλ_=>r1 N|exactλ_=>r2|exactλ_=>r3
 refine rn ?_;refine⟨(ra,27,[nv,sv,pv,ov,T (Z ⟨rE,0,W⟩) A.ns<|fI 1,B A.ty])::(gn++(gs++(gp++(go++([(rE,119,evs.set fr (T va vl vc)++dY)]++(A'++(gT++vn))))))),⟨nv,sv,pv,ov,_,evs.set fr<|T va vl vc,gn,gs,gp,go,_,A'++(gT++vn),O,hgn,hgs,Q5,hgo,.inr ⟨rE,A.ns,dY,O,by rw[bF];omega,rfl⟩,?_⟩,?_⟩
 .have:=hput (T va vl vc) (zq<|A.cs fr++[e]) gT (by rw[Oy];exact hgb');have e2:(A.pu fr e).eg.map zq=(A.eg.map zq).set fr (zq<|A.cs fr++[e]):=fV;rw[e2];exact this
 .have G:=M.drop (A:=[_]) G;rw[lM _ _ N]at G;refine G.perm<|rZ ?_;have p1:=iE (gn++(gs++(gp++go))) [(rE,119,evs.set fr (T va vl vc)++dY)]<|A'++(gT++(vn++L));have p2:=iE ((gn++(gs++(gp++go)))++A') gT<|vn++L;simp only[bP,bE,bK]at p1 p2|-;exact(p1.trans<|p2.cons _).cons _
def X7(hB:Bd ra A SH)(G:M S H0 H<|SH++L)(hp:1<=A.nr)(hn:A.nr<=1000)(hs:A.ns<=100000)(hl:A.eg.length=A.ns):aJ Pg X 152 [pr ra] H λv C=>v=B A.ns/\∃M',Bd ra A.fr M'/\M (SH.map (·.1)) H C M':=by
 refine aJ.mono (TS (L:=[]) hB ((M.own G).cast (a_ SH).symm) hp hn hs hl) ?_;rintro v C ⟨rfl,M',Q,I⟩;rw[a_]at I;exact⟨O,M',Q,I⟩
def OC{fr:Nat}(hB:Bd ra A SH)(G:M S H0 H<|SH++L)(hf:fr<A.ns)(hl:A.eg.length=A.ns)(ht:A.tot<=1000000):aJ Pg X 153 [B fr,.agg ⟨[B e.1,B e.2.1,B e.2.2]⟩,pr ra] H λv C=>∃M',Bd ra (A.pu fr e) M'/\M (SH.map (·.1)) H C M':=by
 refine aJ.mono (X6 (L:=[]) hB ((M.own G).cast (a_ SH).symm) hf hl ht) ?_;rintro v C ⟨M',Q,I⟩;rw[a_]at I;exact⟨M',Q,I⟩
end
section
open Go.Ae Go.Ae.SH Go.Proofs.Lv
variable{S:List Nat}
structure WD where
 g:Nat
 s:Nat
 w:Nat
 av:Nat
 fe:Nat
 lo:Nat
 p:Nat
 l:Nat
 ra:Nat
 na:Option Addr
 nc:Nat
 nn:Nat
 rs:Nat
 rl:Nat
 iH:List D
 lcs:List D
 ws:List Nat
 kd:Nat->Int
 zs:Nat->List Nat
 tn:Nat
 lw:Nat
abbrev WD.ps(d:WD):List D:=[pr d.g,pr d.s,pr d.w,pr d.av,pr d.fe,pr d.lo,pr d.p,pr d.l]
abbrev WD.wv(d:WD):D:=.func (.func 186) ⟨[]⟩ ⟨d.ps⟩
abbrev WD.fev(d:WD):D:=.func (.func 184) ⟨[]⟩ ⟨[pr d.p]⟩
abbrev WD.lov(d:WD):D:=.func (.func 185) ⟨[]⟩ ⟨[pr d.av,pr d.fe,pr d.w]⟩
abbrev WD.fv(d:WD):D:=.func (.func 152) ⟨[]⟩ ⟨[pr d.ra]⟩
abbrev WD.pv(d:WD):D:=.func (.func 153) ⟨[]⟩ ⟨[pr d.ra]⟩
structure WE(K:Nat->Prop)(d:WD)(H:F):Prop where
 hK:∀r,K r->r<H.next
 g:K d.g/\H.cell d.g 1=Z (T d.na d.nn d.nc)
 s:K d.s/\H.cell d.s 0=Z (T (Z ⟨d.rs,0,W⟩) d.nn d.nn)
 w:K d.w/\H.cell d.w 0=Z d.wv
 av:K d.av/\H.cell d.av 0=Z d.fv
 fe:K d.fe/\H.cell d.fe 0=Z d.fev
 lo:K d.lo/\H.cell d.lo 0=Z d.lov
 p:K d.p/\H.cell d.p 0=Z d.pv
 l:K d.l/\H.cell d.l 0=Z (T (Z ⟨d.rl,0,W⟩) d.nn d.nn)
 nd:i_ K 238 H d.na d.nn 5 d.iH
 kid:VH K H d.nn d.iH d.kd d.zs
 st:i_ K 3 H (Z ⟨d.rs,0,W⟩) d.nn 1 (fG d.ws)
 lf:i_ K 121 H (Z ⟨d.rl,0,W⟩) d.nn 3 d.lcs
variable{d:WD}
def WE.stay(h:WE K d H)(J:oz S H C)(G:∀r∈S,¬K r):WE K d C:=by
 have c:∀{r o v},K r/\H.cell r o=Z v->K r/\C.cell r o=Z v:=λ{r o v}⟨Q,I⟩=>⟨Q,(lQ (J.obj r (h.hK r Q) λR=>G r R Q) o).trans I⟩;exact⟨λr R=>aP (h.hK r R) J.next,c h.g,c h.s,c h.w,c h.av,c h.fe,c h.lo,c h.p,c h.l,h.nd.stay J λq hq=>.inl<|G q hq,λi hi=>let⟨a,c,t,xa,xn,xc,at',Q,I,h3⟩:=h.kid i hi;⟨a,c,t,xa,xn,xc,at',Q,I.stay J λq hq=>.inl<|G q hq,h3⟩,h.st.stay J λq hq=>.inl<|G q hq,h.lf.stay J λq hq=>.inl<|G q hq⟩
def WE.n(h:WE K d H):WE K d (hN H):=⟨h.hK,h.g,h.s,h.w,h.av,h.fe,h.lo,h.p,h.l,h.nd,h.kid,h.st,h.lf⟩
structure RY(K:Nat->Prop)(d:WD)(S:List Nat)(H0 H:F)(SH L:List dJ)(A:At):Prop where
 we:WE K d H
 nk:∀r∈SH.map (·.1),¬K r
 bd:Bd d.ra A SH
 sh:M S H0 H (SH++L)
 bu:At.Bu d.lw A
 ty:A.ty=d.tn
 pos:1<=A.nr
 few:A.nr<=1000
def RY.step(h:RY K d S H0 H SH L A)(hB:Bd d.ra A' M')(G:M (SH.map (·.1)) H C M')(g:At.Gw A A' k c)(hu:At.Bu d.lw A'):RY K d S H0 C M' L A':=
 ⟨h.we.stay G.ext h.nk,λr R hk=>by
   obtain⟨e,he,rfl⟩:=bQ.1 R;rcases(G.lo e he).1 with Q|Q
   .exact h.nk _ Q hk
   .have:=h.we.hK _ hk;omega,hB,M.frame h.sh G,hu,g.ty.trans h.ty,by rw[g.nr];exact h.pos,by rw[g.nr];exact h.few⟩
def RY.abF(h:RY K d S H0 H SH L A)(hB:Bd d.ra A' M')(G:M (SH.map (·.1)) (hN H) C M')(g:At.Gw A A' k c)(hu:At.Bu d.lw A'):RY K d S H0 (hM H C) M' L A':=
 ⟨h.we.stay G.ext.draw h.nk,λr R hk=>by
   obtain⟨e,he,rfl⟩:=bQ.1 R;rcases(G.lo e he).1 with Q|Q
   .exact h.nk _ Q hk
   .have I:=h.we.hK _ hk;have Q:H.next<=e.1:=Q
    omega,hB,M.aaj h.sh G,hu,g.ty.trans h.ty,by rw[g.nr];exact h.pos,by rw[g.nr];exact h.few⟩
section steps
variable{Kp:D->F->Prop}{a:Nat}
def RY.fresh(h:RY K d S H0 H SH L A)(hs:A.ns<=100000)(kk:∀C M' A',RY K d S H0 C M' L A'->At.Gw A A' 1 0->A'.cur A.ns->Kp (B A.ns) C):nJ Pg X (Ls d.fv) [] H Kp:=by
 show aJ Pg X 152 [pr d.ra] H Kp;refine aJ.mono (X7 h.bd h.sh h.pos h.few hs h.bu.zJ) ?_;rintro v C ⟨rfl,M',Q,I⟩;exact kk C M' _ (h.step Q I (At.Gw.fr A)<|h.bu.fr h.pos) (At.Gw.fr A)<|At.abD A
theorem KS(hW:WE K d H)(hB:Bd d.ra A SH)(G:M S H0 H<|SH++L)(ha:a<A.ns)(hl:A.eg.length=A.ns)(ht:A.tot<=1000000):aJ Pg X 184 [B a,B b,pr d.p] H λv C=>∃M',Bd d.ra (A.pu a (0,0,b)) M'/\M (SH.map (·.1)) H C M':=by
 refine ce [0,1,2] ?_;refine tl ?_;refine ME.ld hW.p.2 ?_;refine PU.b3 O ?_;show aJ Pg X 153 [B a,_,pr d.ra] H _;refine aJ.mono (OC (e:=(0,0,b)) hB G ha hl ht) ?_;rintro v C h;exact rn<|h
def ahg(lw ty b:Nat):At.EdL lw ty (0,0,b):=.inl O
def RY.free(h:RY K d S H0 H SH L A)(ha:A.cur a)(hb:A.cur b)(ht:A.tot<=1000000)(kk:∀v C M' A',RY K d S H0 C M' L A'->At.Gw A A' 0 1->Kp v C):nJ Pg X (Ls d.fev) [B a,B b] H Kp:=by
 show aJ Pg X 184 [B a,B b,pr d.p] H Kp;refine aJ.mono (KS h.we h.bd h.sh ha.1 h.bu.zJ ht) ?_;rintro v C ⟨M',Q,I⟩;exact kk v C M' _ (h.step Q I (At.Gw.pu h.bu.zJ ha.1 _)<|h.bu.puC (e:=(0,0,b)) ha hb<|ahg ..)<|At.Gw.pu h.bu.zJ ha.1 _
def RY.afT(h:RY K d S H0 H SH L A)(ha:A.cur a)(hb:A.cur b)(ht:A.tot<=1000000)(kk:∀v H1 M' A',RY K d S H0 (hM H H1) M' L A'->At.Gw A A' 0 1->oz (SH.map (·.1)) (hN H) H1->Kp v H1):nJ Pg X (Ls d.fev) [B a,B b] (hN H) Kp:=by
 show aJ Pg X 184 [B a,B b,pr d.p] (hN H) Kp;refine aJ.mono (KS h.we.n h.bd h.sh.xG ha.1 h.bu.zJ ht) ?_;rintro v C ⟨M',Q,I⟩;exact kk v C M' _ (h.abF Q I (At.Gw.pu h.bu.zJ ha.1 _)<|h.bu.puC (e:=(0,0,b)) ha hb<|ahg ..) (At.Gw.pu h.bu.zJ ha.1 _) I.ext
def RY.aly(h:RY K d S H0 H SH L A)(ha:A.cur a)(hb:A.cur e.2.2)(he:At.EdL d.lw A.ty e)(ht:A.tot<=1000000)(kk:∀v H1 M' A',RY K d S H0 (hM H H1) M' L A'->At.Gw A A' 0 1->oz (SH.map (·.1)) (hN H) H1->Kp v H1):nJ Pg X (Ls d.pv) [B a,.agg ⟨[B e.1,B e.2.1,B e.2.2]⟩] (hN H) Kp:=by
 show aJ Pg X 153 [B a,_,pr d.ra] (hN H) Kp;refine aJ.mono (OC (e:=e) h.bd h.sh.xG ha.1 h.bu.zJ ht) ?_;rintro v C ⟨M',Q,I⟩;exact kk v C M' _ (h.abF Q I (At.Gw.pu h.bu.zJ ha.1 _)<|h.bu.puC ha hb he) (At.Gw.pu h.bu.zJ ha.1 _) I.ext
def ahh(d:WD)(i:Nat)(A:At)(SH:List dJ)(H:F)(v:D)(C:F):Prop:=∃A' M' to c,v=B to/\Bd d.ra A' M'/\M (SH.map (·.1)) H C M'/\At.Gw A A' (ak d.ws i) c/\c<=2*ak d.ws i/\At.Bu d.lw A'/\A'.cur to
def Iy(K:Nat->Prop)(d:WD)(i:Nat):Prop:=∀{S:List Nat}{H0 H:F}{SH L:List dJ}{A:At}{fr:Nat},RY K d S H0 H SH L A->A.ns+ak d.ws i<=4000->A.tot+2*ak d.ws i<=20000->A.cur fr->aJ Pg X 186 (B i::B fr::d.ps) H (ahh d i A SH H)
def RY.way{fr:Nat}(hw:Iy K d i)(h:RY K d S H0 H SH L A)(Q:A.ns+ak d.ws i<=4000)(I:A.tot+2*ak d.ws i<=20000)(hf:A.cur fr)(kk:∀to C M' A' c,RY K d S H0 C M' L A'->At.Gw A A' (ak d.ws i) c->c<=2*ak d.ws i->A'.cur to->Kp (B to) C):nJ Pg X (Ls d.wv) [B i,B fr] H Kp:=by
 show aJ Pg X 186 (B i::B fr::d.ps) H Kp;refine aJ.mono (hw h Q I hf) ?_;rintro v C ⟨A',M',to,c,rfl,g1,g2,g3,g4,g5,g6⟩;exact kk to C M' A' c (h.step g1 g2 g3 g5) g3 g4 g6
def RY.n(h:RY K d S H0 H SH L A):RY K d S (hN H0) (hN H) SH L A:=⟨h.we.n,h.nk,h.bd,h.sh.xG,h.bu,h.ty,h.pos,h.few⟩
def RY.ahi{fr:Nat}(hw:Iy K d i)(h:RY K d S H0 H SH L A)(Q:A.ns+ak d.ws i<=4000)(I:A.tot+2*ak d.ws i<=20000)(hf:A.cur fr)(kk:∀to H1 M' A' c,RY K d S H0 (hM H H1) M' L A'->At.Gw A A' (ak d.ws i) c->c<=2*ak d.ws i->A'.cur to->oz (SH.map (·.1)) (hN H) H1->Kp (B to) H1):nJ Pg X (Ls d.wv) [B i,B fr] (hN H) Kp:=by
 show aJ Pg X 186 (B i::B fr::d.ps) (hN H) Kp;refine aJ.mono (hw h.n Q I hf) ?_;rintro v C ⟨A',M',to,c,rfl,g1,g2,g3,g4,g5,g6⟩;exact kk to C M' A' c (h.abF g1 g2 g3 g5) g3 g4 g6 g2.ext
end steps
end
variable{d:WD}
section
open Go.Ae Go.Ae.SH Go.Proofs.Lv
variable{S:List Nat}
def RY.ext{H1:F}{L':List dJ}(h:RY K d S H0 H SH L A)(J:Ext H H1)(G:M S H0 H1<|SH++L'):RY K d S H0 H1 SH L' A:=⟨h.we.stay J (λr R=>nomatch R),h.nk,h.bd,G,h.bu,h.ty,h.pos,h.few⟩
def RY.own(h:RY K d S H0 H SH L A):RY K d (SH.map (·.1)) H H SH [] A:=⟨h.we,h.nk,h.bd,(M.own h.sh).cast (a_ SH).symm,h.bu,h.ty,h.pos,h.few⟩
def RY.fin(h:RY K d S H0 H SH L A):M S H0 H SH:=h.sh.sub<|dZ SH L
theorem RY.ajM(h:RY K d S H0 H SH [] A)(hS1:M [] H H1 [(r,ty,E)]):RY K d S H0 H1 SH [(r,ty,E)] A:=
 h.ext hS1.ext ((M.frame (SH:=[]) (L:=SH) h.fin hS1).perm<|aF (l₁:=[_]))
def RY.not(h:RY K d S H0 H SH L A)(R:K r\/∃e∈L,e.1=r):r<H.next/\r∉SH.map (·.1):=by
 rcases R with R|⟨e,he,rfl⟩
 .exact⟨h.we.hK r R,λhm=>h.nk r hm R⟩
 .refine⟨(h.sh.lo e<|cO _ he).2,λhm=>?_⟩;obtain⟨x,J,e2⟩:=bQ.1 hm;exact h.sh.apart J he e2
def RY.rd{w:Cl}(h:RY K d S H0 H SH L A)(J:oz (SH.map (·.1)) (hN H) H3)(R:K r\/∃e∈L,e.1=r)(y:H.cell r o=Z v)(hs:nI v v=f)(hw:w.a=H/\w.b=H3):mY w ⟨4,r,o,1,hh0,hh0⟩=f:=
 adL hw J (h.not R).1 (h.not R).2 (aar y) (λv hv=>by rw[aO]at hv;subst hv;exact hs)
theorem RY.keep(h:RY K d S H0 H SH L A)(J:oz (SH.map (·.1)) (hN H) H3)(R:K r\/∃e∈L,e.1=r)(y:H.cell r o=Z v):(hM H H3).cell r o=Z v:=
 (lQ (C:=hM H H3) (J.obj r (h.not R).1 (h.not R).2) o).trans y
def OD:nI (.func (.func g) ⟨[]⟩ ⟨l.map pr⟩) (.func (.func g) ⟨[]⟩ ⟨l.map pr⟩)=f:=aas g λv hv=>by
 obtain⟨r,_,rfl⟩:=bQ.1 hv;exact⟨r,O⟩
theorem OE(d:WD):nI d.wv d.wv=f:=OD (l:=[d.g,d.s,d.w,d.av,d.fe,d.lo,d.p,d.l])
theorem Q6(d:WD):nI d.fev d.fev=f:=OD (l:=[d.p])
theorem ad9(d:WD):nI d.pv d.pv=f:=OD (l:=[d.ra])
def alz{ax:Nat->Prop}{n:Nat}{zs:List Nat}(h:i_ ax 3 H a n 1<|fG zs)(hz:zs[k]?=Z z)(hk:k<n):∃r o,a=Z ⟨r,o,W⟩/\ax r/\H.cell r (o+k)=Z (B z)/\Ac 1 (T a n c) (B k)=Z (.pointer<|Z ⟨r,o+k,W⟩):=by
 obtain⟨r,o,Q,I,h3,o0,rfl,rfl⟩:=h.1.idx (c:=c) (dI 0) hk;have y:=h3 0 (B z) (dI 0) (by rw[dz,dD];exact kU _ hz);rw[dz,dD]at y;rw[dz]at Q;exact⟨r,o0,O,(h.2 r o0 O N).1,y,Q⟩
def M_{n:Nat}{kd at':Int}(hW:WE K d H)(hi:i<d.nn)(he:El d.iH 5 i=[vi kd,T ka n kc,.string t,T xa xn xc,vi at'])(hj:(d.zs i)[j]?=Z z):∃r o,ka=Z ⟨r,o,W⟩/\K r/\H.cell r (o+j)=Z (B z)/\Ac 1 (T ka n kc) (B j)=Z (.pointer<|Z ⟨r,o+j,W⟩)/\n=(d.zs i).length:=by
 obtain⟨a,c,t',xa',xn',xc',at2,he2,hf,_⟩:=hW.kid i hi;rw[he]at he2;cases he2;obtain⟨r,o,Q,I,h3,h4⟩:=alz (c:=kc) hf hj (bA.1 hj).1;exact⟨r,o,Q,I,h3,h4,O⟩
theorem GH{fr:Nat}{kd at':Int}(hwz:Iy K d z)(h:RY K d S H0 H SH L A)(hi:i<d.nn)(he:El d.iH 5 i=[vi kd,T ka 1 kc,.string t,T xa xn xc,vi at'])(hz:(d.zs i)[0]?=Z z)(hn:A.ns+(3+ak d.ws z)<=4000)(ht:A.tot+2*(3+ak d.ws z)<=20000)(hf:A.cur fr):
 aJ Pg X 185 [.agg ⟨[vi kd,T ka 1 kc,.string t,T xa xn xc,vi at']⟩,B fr,pr d.av,pr d.fe,pr d.w] H λv C=>∃A' M' to c,v=B to/\Bd d.ra A' M'/\M (SH.map (·.1)) H C M'/\At.Gw A A' (3+ak d.ws z) c/\c<=2*(3+ak d.ws z)/\At.Bu d.lw A'/\A'.cur to:=by
 have h:=h.own;obtain⟨rk,ok,rfl,_⟩:=M_ h.we hi he hz;refine ce [0,1,2,3,4,5,7,8,9,10,11] ?_;refine tl ?_;refine(M.refl h.sh.wf).box O λH1 rb hS1=>?_;have hx1:=hS1.ext;have h:RY K d (SH.map (·.1)) H H1 SH [(rb,238,[vi kd,T (Z ⟨rk,ok,W⟩) 1 kc,.string t,T xa xn xc,vi at'])] A:=h.ajM hS1
 have hm:∀{C M' A'},RY K d (SH.map (·.1)) H C M' [(rb,238,[vi kd,T (Z ⟨rk,ok,W⟩) 1 kc,.string t,T xa xn xc,vi at'])] A'->C.cell rb 0=Z (vi kd)/\C.cell rb 1=Z (T (Z ⟨rk,ok,W⟩) 1 kc):=λh=>by
  have hb:=h.sh.bk _<|cO _<|aL ..
  exact⟨hb.cell O,hb.cell O⟩
 refine ME.ld h.we.av.2 ?_;refine h.fresh N λH2 M2 A1 h g1 c1=>?_;have hf:=hf.gw g1;have n1:=g1.ns;have t1:=g1.tt;refine ME.ld h.we.fe.2<|h.free hf c1 N λ_ H3 M3 A2 h g2=>?_;have g:=g1.trans g2;have n2:=g2.ns;have t2:=g2.tt;refine ME.ld h.we.av.2<|h.fresh N λH4 M4 A3 h g3 c3=>?_;have g:=g.trans g3;have n3:=g3.ns;have t3:=g3.tt;refine ME.ld h.we.av.2<|h.fresh N λH5 M5 A4 h g4 c4=>?_;have g:=g.trans g4;have n4:=g4.ns;have t4:=g4.tt;have cd:=((c1.gw g2).gw g3).gw g4;have ce:=c3.gw g4;refine ME.ld h.we.fe.2<|h.free cd c4 N λ_ H6 M6 A5 h g5=>?_;have g:=g.trans g5;have n5:=g5.ns;have t5:=g5.tt;have cd:=cd.gw g5;have ce:=ce.gw g5;have cb:=c4.gw g5;refine aY ?_;refine ME.ld (hm h).1 ?_;refine aY ?_
 have tl:∀bk,A5.cur bk->∀{x0 x1 mO},gJ Pg X (sub Ob [1,1,1,1,1,1,1,1]) (LG x0 x1 (pr d.av) (pr d.fe) (pr d.w) (pr rb) (vi 0) (B A.ns) (B A2.ns) (B A3.ns) (B bk) mO H6) (jR Pg [.tmp 7] λv C=>∃A' M' to c,v=B to/\Bd d.ra A' M'/\M (SH.map (·.1)) H C M'/\At.Gw A A' (3+ak d.ws z) c/\c<=2*(3+ak d.ws z)/\At.Bu d.lw A'/\A'.cur to):=by
  intro bk cbk x0 x1 mO;refine tl<|ME.ld (H:=hN H6) h.we.fe.2 ?_;simp only[gZ h.sh.wf];refine ME.ld (H:=hN H6) h.we.w.2 ?_;simp only[gZ h.sh.wf,PP];refine ME.ld (H:=hN H6) (hm h).2 ?_;simp only[gZ h.sh.wf];obtain⟨rk',ok',e1,hKr,hkc,hid,_⟩:=M_ h.we hi he hz;cases e1;refine PU.of hid<|ME.ld (H:=hN H6) hkc ?_;simp only[gZ h.sh.wf];have h6:=h;refine h.ahi hwz N N cb λto H7 M7 A7 c7 h g7 b7 cto hx7=>?_;have n7:=g7.ns;have t7:=g7.tt;have g:=g.trans g7;refine h.afT cto (cbk.gw g7) N λv8 H8 M8 A8 h8 g8 Bw=>?_;have n8:=g8.ns;have t8:=g8.tt;have g:=g.trans g8;refine(show∀K:Prop,K->_/\K fromλKz hK=>?_) _ ?_
  .have rd:∀{r o v},(K r\/∃e∈[((rb,238,[vi kd,T (Z ⟨rk,ok,W⟩) 1 kc,.string t,T xa xn xc,vi at']):dJ)],e.1=r)->H6.cell r o=Z v->nI v v=f->∀w:Cl,((w.a=H6/\w.b=H7)\/(w.a=hM H6 H7/\w.b=H8))->mY w ⟨4,r,o,1,hh0,hh0⟩=f:=by
    intro r o v R y hs w hw;rcases hw with hw|hw
    .exact h6.rd hx7 R y hs hw
    .exact h.rd Bw R (h6.keep hx7 R y) hs hw
   have r1:=rd (.inl h6.we.fe.1) h6.we.fe.2<|Q6 d;have r2:=rd (.inl h6.we.w.1) h6.we.w.2<|OE d;have r3:=rd (.inr ⟨_,aL ..,O⟩) (hm h6).2 (oQ _ _ _ λx h=>by cases h;rfl);have r4:=rd (.inl hKr) hkc<|vC _ _;simp only[eG];rcases vP H6 H7 with e|e<;>rw[e]<;>rcases vP (hM H6 H7) H8 with e|e<;>rw[e]<;>apply Ej (ai:=λw=>(w.a=H6/\w.b=H7)\/(w.a=hM H6 H7/\w.b=H8)) (by kernel_rfl) (by kernel_rfl) hK<;>repeat' apply iq
   all_goals first|exact trivial|(intro h;cases h;done)|exactλ_=>.inl ⟨rfl,rfl⟩|exactλ_=>.inr ⟨rfl,rfl⟩|exactλ_=>r1|exactλ_=>r2|exactλ_=>r3|exactλ_=>r4
  refine ME.ld h8.we.fe.2<|h8.free ((cd.gw g7).gw g8) ((ce.gw g7).gw g8) N λ_ H9 M9 A9 h9 g9=>?_;have g:=g.trans g9;have n9:=g9.ns;have t9:=g9.tt;refine rr ?_;exact⟨A9,M9,A2.ns,_,O,h9.bd,(h9.sh.sub<|dZ M9 _),g.cast N O,N,h9.bu,((ce.gw g7).gw g8).gw g9⟩
 refine aC (λy=>?_) λy=>?_
 .exact tl _ cd
 .exact tl _ ce
end
section
open Go.Ae Go.Ae.SH Go.Proofs.Lv
variable{S:List Nat}
def Na{kd:Int}(hz:l[k]?=Z z):qw ws kd (l.take<|k+1)=qw ws kd (l.take k)+(ak ws z+IQ kd):=by
 unfold qw;rw[eO,hz];show(List.map _<|_++[_]).sum=_;rw[dG,lF];rfl
def VP(ws:List Nat)(kd:Int)(l:List Nat)(k:Nat):qw ws kd (l.take k)<=qw ws kd l:=by
 have:qw ws kd l=qw ws kd (l.take k)+qw ws kd (l.drop k):=by
  unfold qw;rw[<-lF,<-dG,iO]
 omega
structure WQ(d:WD):Prop where
 nn:d.nn<=4000
 sz:∀j,j<d.nn->FM d.kd d.zs d.ws j
 lf:∀j,j<d.nn->vW d.tn d.lw (El d.lcs 3 j)
def WE.uP{Kp:D->D->F->Prop}(hW:WE K d H)(hz:z<d.nn)(kk:∀p,Kp p (B<|ak d.ws z) H):PU (Ac 1 (T (Z ⟨d.rs,0,W⟩) d.nn d.nn)<|B z) λp=>ME (Go.Ae.uP W p H) (Kp p):=by
 have hl:d.ws.length=d.nn:=by have:=hW.st.1.1;simpa using this
 refine hW.st.ix hz ?_ kk;rw[bD,au (show z<d.ws.length by omega)];show _=Z (B<|d.ws[z]?.getD 0);rw[au (show z<d.ws.length by omega)];rfl
theorem abG{fr:Nat}(hQ:WQ d)(h:RY K d (SH.map (·.1)) H0 H SH [(rb,238,E)] A)(hi:i<d.nn)(hn:A.ns+1<=4000)(ht:A.tot+2<=20000)(hf:A.cur fr)(kk:∀A' M' to c C,Bd d.ra A' M'->M (SH.map (·.1)) H0 C M'->At.Gw A A' 1 c->c<=2->At.Bu d.lw A'->A'.cur to->h1 (B to) C):
 gJ Pg X (sub mg [1,1,1]) (uI (B i) (B fr) (pr d.g) (pr d.s) (pr d.w) (pr d.av) (pr d.fe) (pr d.lo) (pr d.p) (pr d.l) kQ jF lH pz zF uZ x20 v_ DR xM x24 x25 x32 K6 zT x38 x64 YF x66 mO H) (jR Pg [.tmp 12] h1):=by
 refine tl<|ME.ld h.we.av.2<|h.fresh N λH1 M1 A1 h g1 c1=>?_;have n1:=g1.ns;have t1:=g1.tt;refine ME.ld (H:=hN H1) h.we.p.2 ?_;simp only[gZ h.sh.wf];refine ME.ld (H:=hN H1) h.we.l.2 ?_;simp only[gZ h.sh.wf];obtain⟨r,o,e1,e2,e3,o0,e4,_⟩:=h.we.lf.1.idx (c:=d.nn) N hi;cases e4;obtain⟨k1,a1,hle,hlp⟩:=hQ.lf i hi
 have cell:∀av x,av<3->[B k1,B a1,B 0][av]?=Z x->H1.cell d.rl (o+av)=Z x:=λav x hf3 J=>by
  refine e3 av x hf3 ?_;have:=dV (λl=>l[av]?) hle;simp only[mG,if_pos hf3]at this;rw[this];exact J
 have hKl:K d.rl:=(h.we.lf.2 d.rl 0 O N).1;refine PU.of e1<|aY ?_;refine ME.ld (H:=hN H1) (by have:=cell 0 _ N O;rwa [dD]at this) ?_;simp only[gZ h.sh.wf];refine ME.ld (H:=hN H1) h.we.l.2 ?_;simp only[gZ h.sh.wf];refine PU.of e1<|aY ?_;refine ME.ld (H:=hN H1) (cell 1 _ N O) ?_;simp only[gZ h.sh.wf];refine PU.b3 O ?_;have Q:=h
 refine h.aly (e:=(k1,a1,A.ns)) (hf.gw g1) c1 (by
  unfold At.EdL;rw[h.ty];rcases hlp with hlp|⟨p1,p2⟩|⟨p1,p2⟩
  .exact .inl hlp
  .exact .inr<|.inl ⟨p1,p2⟩
  .exact .inr<|.inr ⟨p1,p2⟩) N λv H2 M2 A2 h g2 hx2=>?_
 have n2:=g2.ns;have t2:=g2.tt;refine(show∀K:Prop,K->_/\K fromλKz hK=>?_) _ ?_
 .have rd:∀{r o v},K r->H1.cell r o=Z v->nI v v=f->∀w:Cl,(w.a=H1/\w.b=H2)->mY w ⟨4,r,o,1,hh0,hh0⟩=f:=λR y hs w hw=>Q.rd hx2 (.inl R) y hs hw;have r1:=rd Q.we.p.1 Q.we.p.2<|ad9 d;have r2:=rd Q.we.l.1 Q.we.l.2 (oQ _ _ _ λx h=>by cases h;rfl);have r3:=rd hKl (by have:=cell 0 _ N O;rwa [dD]at this)<|vC _ _;have r4:=rd hKl (cell 1 _ N O)<|vC _ _;simp only[eG];rcases vP H1 H2 with e|e<;>rw[e]<;>apply Ej (ai:=λw=>w.a=H1/\w.b=H2) (by kernel_rfl) (by kernel_rfl) hK<;>repeat' apply iq
  all_goals first|exact trivial|(intro h;cases h;done)|exactλ_=>⟨rfl,rfl⟩|exactλ_=>r1|exactλ_=>r2|exactλ_=>r3|exactλ_=>r4
 exact rr<|(kk A2 M2 A.ns _ _ h.bd (h.sh.sub<|dZ M2 _) (g1.trans g2) N h.bu<|c1.gw g2)
end
section
open Go.Ae Go.Ae.SH Go.Proofs.Lv
variable{S:List Nat}
def VH.row{ax:Nat->Prop}(h:VH ax H nn iH kd zs)(hi:i<nn):∃(a:Option Addr)(c:Nat)(t:ByteArray)(xa:Option Addr)(xn xc:Nat)(at':Int),El iH 5 i=[vi (kd i),.slice a (zs i).length c,.string t,T xa xn xc,vi at']/\KA (kd i) (zs i).length/\(∀z∈zs i,z<i)/\(zs i).length<=20001:=let⟨a,c,t,xa,xn,xc,at',Q,_,h3,h4,_,h6⟩:=h i hi;⟨a,c,t,xa,xn,xc,at',Q,h3,h4,h6⟩
section
variable{fr:Nat}{at':Int}
def aea(hQ:WQ d)(ih:∀z,z<i->Iy K d z)(h:RY K d (SH.map (·.1)) H0 H SH [(rb,238,[vi (d.kd i),.slice ka (d.zs i).length kc,.string t,T xa xn xc,vi at'])] A)(hi:i<d.nn)(Q:d.kd i=1)(he:El d.iH 5 i=[vi (d.kd i),.slice ka (d.zs i).length kc,.string t,T xa xn xc,vi at'])(hz:∀z∈d.zs i,z<i)(hzl:(d.zs i).length<=20001)(hn:A.ns+qw d.ws (d.kd i) (d.zs i)<=4000)(ht:A.tot+2*qw d.ws (d.kd i) (d.zs i)<=20000)(hf:A.cur fr)(kk:∀A' M' to c C,Bd d.ra A' M'->M (SH.map (·.1)) H0 C M'->At.Gw A A' (qw d.ws (d.kd i)<|d.zs i) c->c<=2*qw d.ws (d.kd i) (d.zs i)->At.Bu d.lw A'->A'.cur to->h1 (B to) C):
 gJ Pg X (.loop<|sub mg [1,1,0,1,0,1,0,0,1,0,0]) (uI (B i) (B fr) (pr d.g) (pr d.s) (pr d.w) (pr d.av) (pr d.fe) (pr d.lo) (pr d.p) (pr d.l) kQ (pr rb) lH pz zF uZ x20 v_ DR xM x24 x25 x32 (.slice ka (d.zs i).length kc) (B (d.zs i).length) (B 0) x64 YF x66 mO H) (rO 1<|sW Pg X (sub mg [1,1,0,1,0,1,0,1])<|rO 0<|sW Pg X (sub mg [1,1,1])<|jR Pg [.tmp 12] h1):=by
 have hal:IQ (d.kd i)=0:=by unfold IQ;rw[if_neg N]
 refine Ig 1 15 38 (h2:=λm x1 lH x38 C=>∃k fk A' M' c,x38=B k/\k+m=(d.zs i).length/\x1=B fk/\RY K d (SH.map (·.1)) H0 C M' [(rb,238,[vi (d.kd i),.slice ka (d.zs i).length kc,.string t,T xa xn xc,vi at'])] A'/\At.Gw A A' (qw d.ws (d.kd i)<|(d.zs i).take k) c/\c<=2*qw d.ws (d.kd i) ((d.zs i).take k)/\A'.cur fk) ?_ (d.zs i).length ⟨0,fr,A,SH,0,rfl,N,rfl,h,(At.Gw.refl A).cast (by simp[qw]) O,bg _,hf⟩;clear h hf;rintro m x1 lH x38 mO H1 ⟨k,fk,A1,M1,c,rfl,hkm,rfl,h,g,y,hf⟩;refine tp ?_;refine aC (λhc2=>?_) λhc2=>?_;rotate_left
 .obtain rfl:k=(d.zs i).length:=by omega
  rw[qC]at g y;refine tp ?_;exact rr<|(kk A1 M1 fk c H1 h.bd (h.sh.sub<|dZ M1 _) g y h.bu hf)
 have hk:k<(d.zs i).length:=by omega
 have Rv:(d.zs i)[k]?=Z (d.zs i)[k]:=au hk;have hzi:=hz _<|bB hk;generalize(d.zs i)[k]=z at Rv hzi;have hks:=Na (ws:=d.ws) (kd:=d.kd i) Rv;have hkl:=VP d.ws (d.kd i) (d.zs i)<|k+1;have n1:=g.ns;have t1:=g.tt;obtain⟨r,o,rfl,hKr,hcell,hid,_⟩:=M_ h.we hi he Rv;refine PU.of hid<|ME.ld hcell<|ME.ld h.we.s.2<|h.we.uP N λp=>?_;refine aY ?_;refine aC (λhc3=>?_) λhc3=>?_
 .refine ME.ld h.we.w.2<|h.way (ih z hzi) N N hf λto H2 M2 A2 c2 h g2 hc2' hto=>?_;refine dU ?_;exact⟨(d.zs i).length-(k+1),N,_,_,_,_,_,O,k+1,to,A2,M2,c+c2,nX,N,O,h,(g.trans g2).cast N O,N,hto⟩
 .refine dU ?_;exact⟨(d.zs i).length-(k+1),N,_,_,_,_,_,O,k+1,fk,A1,M1,c,nX,N,O,h,g.cast N O,N,hf⟩
theorem aeb{d0 e0:Nat}(hQ:WQ d)(ih:∀z,z<i->Iy K d z)(h:RY K d (SH.map (·.1)) H0 H M1 [(rb,238,[vi (d.kd i),.slice ka (d.zs i).length kc,.string t,T xa xn xc,vi at'])] A1)(g1:At.Gw A A1 2 c1)(hc1:c1<=1)(hd0:A1.cur d0)(he0:A1.cur e0)(hi:i<d.nn)(Q:d.kd i=0)(he:El d.iH 5 i=[vi (d.kd i),.slice ka (d.zs i).length kc,.string t,T xa xn xc,vi at'])(hz:∀z∈d.zs i,z<i)(hzl:(d.zs i).length<=20001)(hn:A.ns+(2+qw d.ws (d.kd i) (d.zs i))<=4000)(ht:A.tot+2*(2+qw d.ws (d.kd i) (d.zs i))<=20000){x1:D}(kk:∀A' M' to c C,Bd d.ra A' M'->M (SH.map (·.1)) H0 C M'->At.Gw A A' (2+qw d.ws (d.kd i) (d.zs i)) c->c<=2*(2+qw d.ws (d.kd i) (d.zs i))->At.Bu d.lw A'->A'.cur to->h1 (B to) C):
 gJ Pg X (.loop<|sub mg [1,1,0,1,0,1,1,1,0,1,1,1,0,1,0,0]) (uI (B i) x1 (pr d.g) (pr d.s) (pr d.w) (pr d.av) (pr d.fe) (pr d.lo) (pr d.p) (pr d.l) kQ jF lH (B d0) (B e0) uZ x20 v_ DR xM x24 x25 x32 K6 zT x38 (.slice ka (d.zs i).length kc) (B (d.zs i).length) (B 0) mO H) (rO 3<|sW Pg X (sub mg [1,1,0,1,0,1,1,1,0,1,1,1,1])<|rO 0<|sW Pg X (sub mg [1,1,1])<|jR Pg [.tmp 12] h1):=by
 have hal:IQ (d.kd i)=1:=by unfold IQ;rw[if_pos Q]
 refine Ig 19 20 66 (h2:=λm uZ x20 x66 C=>∃k A' M' c,x66=B k/\k+m=(d.zs i).length/\RY K d (SH.map (·.1)) H0 C M' [(rb,238,[vi (d.kd i),.slice ka (d.zs i).length kc,.string t,T xa xn xc,vi at'])] A'/\At.Gw A A' (2+qw d.ws (d.kd i) ((d.zs i).take k)) c/\c+3<=2*(2+qw d.ws (d.kd i) ((d.zs i).take k))/\A'.cur d0/\A'.cur e0) ?_ (d.zs i).length ⟨0,A1,M1,c1,rfl,N,h,g1.cast (by simp[qw]) O,N,hd0,he0⟩;clear h hd0 he0 g1 hc1;rintro m uZ x20 x66 mO H1 ⟨k,A2,M2,c,rfl,hkm,h,g,y,hd0,he0⟩;refine tp ?_;refine aC (λhc2=>?_) λhc2=>?_;rotate_left
 .obtain rfl:k=(d.zs i).length:=by omega
  rw[qC]at g y;refine tp ?_;exact rr<|(kk A2 M2 e0 c H1 h.bd (h.sh.sub<|dZ M2 _) g N h.bu he0)
 have hk:k<(d.zs i).length:=by omega
 have Rv:(d.zs i)[k]?=Z (d.zs i)[k]:=au hk;have hzi:=hz _<|bB hk;generalize(d.zs i)[k]=z at Rv hzi;have hks:=Na (ws:=d.ws) (kd:=d.kd i) Rv;have hkl:=VP d.ws (d.kd i) (d.zs i)<|k+1;have n1:=g.ns;have t1:=g.tt;obtain⟨r,o,rfl,hKr,hcell,hid,_⟩:=M_ h.we hi he Rv;refine PU.of hid<|ME.ld hcell<|ME.ld h.we.av.2<|h.fresh N λH2 M2 A3 h g3 cb=>?_;have n3:=g3.ns;have t3:=g3.tt;have g:=g.trans g3;have hd0:=hd0.gw g3;have he0:=he0.gw g3;refine ME.ld h.we.fe.2<|h.free hd0 cb N λ_ H3 M3 A4 h g4=>?_;have n4:=g4.ns;have t4:=g4.tt;have g:=g.trans g4;have hd0:=hd0.gw g4;have he0:=he0.gw g4;have cb:=cb.gw g4;refine ME.ld (H:=hN H3) h.we.fe.2 ?_;simp only[gZ h.sh.wf];refine ME.ld (H:=hN H3) h.we.w.2 ?_;simp only[gZ h.sh.wf];have h6:=h;refine h.ahi (ih z hzi) N N cb λto H4 M4 A5 c5 h g5 b5 cto hx4=>?_;have n5:=g5.ns;have t5:=g5.tt;have g:=g.trans g5;have hd0:=hd0.gw g5;have he0:=he0.gw g5;refine h.afT cto he0 N λv5 H5 M5 A6 h8 g6 hx5=>?_;have n6:=g6.ns;have t6:=g6.tt;have g:=g.trans g6;refine(show∀K:Prop,K->_/\K fromλKz hK=>?_) _ ?_
 .have rd:∀{r o v},K r->H3.cell r o=Z v->nI v v=f->∀w:Cl,((w.a=H3/\w.b=H4)\/(w.a=hM H3 H4/\w.b=H5))->mY w ⟨4,r,o,1,hh0,hh0⟩=f:=by
   intro r o v R y hs w hw;rcases hw with hw|hw
   .exact h6.rd hx4 (.inl R) y hs hw
   .exact h.rd hx5 (.inl R) (h6.keep hx4 (.inl R) y) hs hw
  have r1:=rd h6.we.fe.1 h6.we.fe.2<|Q6 d;have r2:=rd h6.we.w.1 h6.we.w.2<|OE d;simp only[eG];rcases vP H3 H4 with e|e<;>rw[e]<;>rcases vP (hM H3 H4) H5 with e|e<;>rw[e]<;>apply Ej (ai:=λw=>(w.a=H3/\w.b=H4)\/(w.a=hM H3 H4/\w.b=H5)) (by kernel_rfl) (by kernel_rfl) hK<;>repeat' apply iq
  all_goals first|exact trivial|(intro h;cases h;done)|exactλ_=>.inl ⟨rfl,rfl⟩|exactλ_=>.inr ⟨rfl,rfl⟩|exactλ_=>r1|exactλ_=>r2
 refine dU ?_;exact⟨(d.zs i).length-(k+1),N,_,_,_,_,_,O,k+1,A6,M5,_,nX,N,h8,g.cast N O,N,hd0.gw g6,he0.gw g6⟩
end
end
section
open Go.Ae Go.Ae.SH Go.Proofs.Lv
variable{S:List Nat}
theorem abH{fr:Nat}{at':Int}(hwz:Iy K d z)(h:RY K d (SH.map (·.1)) H0 H SH [(rb,238,[vi (d.kd i),T ka 1 kc,.string t,T xa xn xc,vi at'])] A)(hi:i<d.nn)(h4:d.kd i=4)(he:El d.iH 5 i=[vi (d.kd i),T ka 1 kc,.string t,T xa xn xc,vi at'])(hz:(d.zs i)[0]?=Z z)(hn:A.ns+(3+ak d.ws z)<=4000)(ht:A.tot+2*(3+ak d.ws z)<=20000)(hf:A.cur fr)(hlk:Aw mO 85=.bool aA)(kk:∀A' M' to c C,Bd d.ra A' M'->M (SH.map (·.1)) H0 C M'->At.Gw A A' (3+ak d.ws z) c->c<=2*(3+ak d.ws z)->At.Bu d.lw A'->A'.cur to->h1 (B to) C):
 gJ Pg X (sub mg [1,1,0,1,0,1,1,1,1,1]) (uI (B i) (B fr) (pr d.g) (pr d.s) (pr d.w) (pr d.av) (pr d.fe) (pr d.lo) (pr d.p) (pr d.l) kQ (pr rb) lH pz zF uZ x20 v_ DR xM x24 x25 (vi<|d.kd i) K6 zT x38 x64 YF x66 mO H) (rO 0<|sW Pg X (sub mg [1,1,1])<|jR Pg [.tmp 12] h1):=by
 obtain⟨rk,ok,rfl,_⟩:=M_ h.we hi he hz
 have hm:∀{C M' A'},RY K d (SH.map (·.1)) H0 C M' [(rb,238,[vi (d.kd i),T (Z ⟨rk,ok,W⟩) 1 kc,.string t,T xa xn xc,vi at'])] A'->C.cell rb 1=Z (T (Z ⟨rk,ok,W⟩) 1 kc):=λh=>by
  have hb:=h.sh.bk _<|cO _<|aL ..
  exact hb.cell O
 refine tl ?_;rw[hlk];refine aY ?_;refine aC (λ_=>?_) λy=>absurd h4 y;refine ME.ld h.we.av.2<|h.fresh N λH1 M1 A1 h g1 cb=>?_;have n1:=g1.ns;have t1:=g1.tt;refine ME.ld h.we.fe.2<|h.free (hf.gw g1) cb N λ_ H2 M2 A2 h g2=>?_;have n2:=g2.ns;have t2:=g2.tt;have g:=g1.trans g2;have cb:=cb.gw g2;refine ME.ld (H:=hN H2) h.we.w.2 ?_;simp only[gZ h.sh.wf,PP];have hmc:=hm h;refine ME.ld (H:=hN H2) hmc ?_;simp only[gZ h.sh.wf];obtain⟨rk',ok',e1,hKr,hkc,hid,_⟩:=M_ h.we hi he hz;cases e1;refine PU.of hid<|ME.ld (H:=hN H2) hkc ?_;simp only[gZ h.sh.wf];have h6:=h;refine h.ahi hwz N N cb λla H3 M3 A3 c3 h g3 b3 cl hx3=>?_;have n3:=g3.ns;have t3:=g3.tt;have g:=g.trans g3;have cb:=cb.gw g3;refine(show∀K:Prop,K->_/\K fromλKz hK=>?_) _ ?_
 .have rd:∀{r o v},(K r\/∃e∈[((rb,238,[vi (d.kd i),T (Z ⟨rk,ok,W⟩) 1 kc,.string t,T xa xn xc,vi at']):dJ)],e.1=r)->H2.cell r o=Z v->nI v v=f->∀w:Cl,(w.a=H2/\w.b=H3)->mY w ⟨4,r,o,1,hh0,hh0⟩=f:=λR y hs w hw=>h6.rd hx3 R y hs hw;have r2:=rd (.inl h6.we.w.1) h6.we.w.2<|OE d;have r3:=rd (.inr ⟨_,aL ..,O⟩) (hm h6) (oQ _ _ _ λx h=>by cases h;rfl);have r4:=rd (.inl hKr) hkc<|vC _ _;simp only[eG];rcases vP H2 H3 with e|e<;>rw[e]<;>apply Ej (ai:=λw=>w.a=H2/\w.b=H3) (by kernel_rfl) (by kernel_rfl) hK<;>repeat' apply iq
  all_goals first|exact trivial|(intro h;cases h;done)|exactλ_=>⟨rfl,rfl⟩|exactλ_=>r2|exactλ_=>r3|exactλ_=>r4
 refine ME.ld h.we.av.2<|h.fresh N λH4 M4 A4 h g4 cd=>?_;have n4:=g4.ns;have t4:=g4.tt;have g:=g.trans g4;have cl:=cl.gw g4;have cb:=cb.gw g4;refine ME.ld h.we.fe.2<|h.free cl cd N λ_ H5 M5 A5 h g5=>?_;have n5:=g5.ns;have t5:=g5.tt;have g:=g.trans g5;have cd:=cd.gw g5;have cb:=cb.gw g5;refine ME.ld h.we.fe.2<|h.free cd cb N λ_ H6 M6 A6 h g6=>?_;have n6:=g6.ns;have t6:=g6.tt;have g:=g.trans g6;have cd:=cd.gw g6;refine ME.ld h.we.av.2<|h.fresh N λH7 M7 A7 h g7 ce=>?_;have n7:=g7.ns;have t7:=g7.tt;have g:=g.trans g7;have cd:=cd.gw g7;refine ME.ld h.we.fe.2<|h.free cd ce N λ_ H8 M8 A8 h g8=>?_;have n8:=g8.ns;have t8:=g8.tt;have g:=g.trans g8;exact rr<|(kk A8 M8 A6.ns _ _ h.bd (h.sh.sub<|dZ M8 _) (g.cast N O) N h.bu<|ce.gw g8)
theorem ahj(hQ:WQ d):∀i,i<d.nn->Iy K d i:=by
 intro i
 induction i using Nat.strongRecOn with
 |ind i ih=>
  intro hi S H0 H SH L A fr h hn ht hf;have h:=h.own;obtain⟨ka,kc,t,xa,xn,xc,at',he,hfit,hz,hzl⟩:=h.we.kid.row hi;have ih:∀z,z<i->Iy K d z:=λz hz=>ih z hz N;have hsz:=hQ.sz i hi;unfold FM at hsz;have hW:ak d.ws i=EO (d.kd i)+qw d.ws (d.kd i) (d.zs i):=by omega
  refine ce [0,1,2,3,4,5,6,7,8,9,12,13,15,16,17,19,20,21,22,23,24,25,32,36,37,38,64,65,66] ?_;refine tp ?_;refine ME.ld h.we.g.2 ?_;refine h.we.nd.Xw N hi he λp=>(M.refl h.sh.wf).ns O O O λH1 rb hS1 _=>?_;have h:RY K d (SH.map (·.1)) H H1 SH [(rb,238,[vi (d.kd i),.slice ka (d.zs i).length kc,.string t,T xa xn xc,vi at'])] A:=h.ajM hS1;have hm:∀{C M' A'},RY K d (SH.map (·.1)) H C M' [(rb,238,[vi (d.kd i),.slice ka (d.zs i).length kc,.string t,T xa xn xc,vi at'])] A'->Bk C rb 238 [vi (d.kd i),.slice ka (d.zs i).length kc,.string t,T xa xn xc,vi at']:=λh=>h.sh.bk _<|cO _<|aL ..
  refine aY ?_;refine ME.ld ((hm h).cell (o:=0) O) ?_;refine aY ?_;have fin:∀A' M' to c C,Bd d.ra A' M'->M (SH.map (·.1)) H C M'->At.Gw A A' (ak d.ws i) c->c<=2*ak d.ws i->At.Bu d.lw A'->A'.cur to->ahh d i A SH H (B to) C:=λA' M' to c C a1 a2 a3 a4 a5 a6=>⟨A',M',to,c,rfl,a1,a2,a3,a4,a5,a6⟩;refine aC (λQ=>?_) λQ=>?_
  .refine ME.ld ((hm h).cell (o:=1) O) ?_;refine aY ?_;have hb:EO (d.kd i)=0:=by unfold EO;rw[if_neg N,if_pos Q]
   have e:ak d.ws i=qw d.ws (d.kd i) (d.zs i):=by omega
   rw[e]at fin;exact aea hQ ih h hi Q he hz hzl N N hf fin
  refine aC (λh0=>?_) λh0=>?_
  .have hb:EO (d.kd i)=2:=by unfold EO;rw[if_pos h0]
   have e:ak d.ws i=2+qw d.ws (d.kd i) (d.zs i):=by omega
   rw[e]at fin;refine ME.ld h.we.av.2<|h.fresh N λH2 M2 A2 h g2 cd=>?_;have n2:=g2.ns;have t2:=g2.tt;refine ME.ld h.we.fe.2<|h.free (hf.gw g2) cd N λ_ H3 M3 A3 h g3=>?_;have n3:=g3.ns;have t3:=g3.tt;have g:=g2.trans g3;refine ME.ld h.we.av.2<|h.fresh N λH4 M4 A4 h g4 ce=>?_;have n4:=g4.ns;have t4:=g4.tt;have g:=g.trans g4;refine ME.ld ((hm h).cell (o:=1) O) ?_;refine aY ?_;exact aeb hQ ih h g N ((cd.gw g3).gw g4) ce hi h0 he hz hzl N N fin
  have three:(d.kd i=2\/d.kd i=3\/d.kd i=4)->∃z,d.zs i=[z]/\z<i/\ak d.ws i=3+ak d.ws z:=λhk=>by
   have hl:(d.zs i).length=1:=by rcases hfit with h|h|h|h<;>omega
   obtain⟨z,hz1⟩:=List.length_eq_one_iff.1 hl;refine⟨z,hz1,hz z (by rw[hz1];simp),?_⟩;rw[hW,hz1];have hb:EO (d.kd i)=3:=by unfold EO;rw[if_neg N,if_neg N,if_pos hk]
   have ha:IQ (d.kd i)=0:=by unfold IQ;rw[if_neg N]
   unfold qw;simp[hb,ha]
  have one:¬(d.kd i=2\/d.kd i=3\/d.kd i=4)->ak d.ws i=1:=λhk=>by
   have hl:(d.zs i).length=0:=by rcases hfit with h|h|h|h<;>omega
   have hz0:=dK.1 hl;rw[hW,hz0];have hb:EO (d.kd i)=1:=by unfold EO;rw[if_neg N,if_neg N,if_neg hk]
   rw[hb];rfl
  have loop:∀{kQ lH pz zF uZ x20 v_ DR xM x24 x25 K6 zT x38 x64 YF x66:D}{mO:List (Nat×D)},(d.kd i=2\/d.kd i=3)->Aw mO 85=.bool f->gJ Pg X (sub mg [1,1,0,1,0,1,1,1,1,1]) (uI (B i) (B fr) (pr d.g) (pr d.s) (pr d.w) (pr d.av) (pr d.fe) (pr d.lo) (pr d.p) (pr d.l) kQ (pr rb) lH pz zF uZ x20 v_ DR xM x24 x25 (vi<|d.kd i) K6 zT x38 x64 YF x66 mO H1) (rO 0<|sW Pg X (sub mg [1,1,1])<|jR Pg [.tmp 12]<|ahh d i A SH H):=by
   intro kQ lH pz zF uZ x20 v_ DR xM x24 x25 K6 zT x38 x64 YF x66 mO hk hlk;obtain⟨z,hz1,hzi,e⟩:=three N;rw[e]at fin hn ht;have hz0:(d.zs i)[0]?=Z z:=by rw[hz1];rfl
   have hl:(d.zs i).length=1:=by rw[hz1];rfl
   refine tl ?_;rw[hlk];refine aY ?_;refine ME.ld h.we.lo.2<|ME.rF ((hm h).read (o:=0) (n:=5) (by show 0+5<=5;omega)) ?_;show aJ Pg X 185 [.agg ⟨[vi (d.kd i),.slice ka (d.zs i).length kc,.string t,T xa xn xc,vi at']⟩,B fr,pr d.av,pr d.fe,pr d.w] H1 _;rw[hl]at he|-;refine aJ.mono (GH (ih z hzi) h hi he hz0 hn ht hf) ?_;rintro v H2 ⟨A',M',to,c,rfl,b1,b2,b3,b4,b5,b6⟩;refine rr<|(fin A' M' to c H2 b1 ?_ b3 b4 b5 b6);exact(M.frame h.sh b2).sub<|dZ M' _
  refine aC (λI=>?_) λI=>?_
  .exact loop (.inl I) (by show gF (decide<|d.kd i=2)=_;rw[bG I])
  by_cases h3:d.kd i=3
  .exact loop (.inr h3) (by show gF (decide<|d.kd i=3)=_;rw[bG h3])
  by_cases h4:d.kd i=4
  .obtain⟨z,hz1,hzi,e⟩:=three N;rw[e]at fin hn ht;have hz0:(d.zs i)[0]?=Z z:=by rw[hz1];rfl
   have hl:(d.zs i).length=1:=by rw[hz1];rfl
   rw[hl]at he h;exact abH (ih z hzi) h hi h4 he hz0 hn ht hf (by show gF (decide<|d.kd i=3)=_;rw[dn h3]) fin
  .have e:=one N;rw[e]at fin hn ht;refine tp ?_;refine aC (λy=>absurd y h3) λ_=>?_;refine aC (λy=>absurd y h4) λ_=>?_;exact abG hQ h hi hn ht hf fin
end
section
open Go.Ae Go.Ae.SH Go.Proofs.Lv
variable{S:List Nat}
def X8(hw:Wf H){ra:Option Addr}{rn:Nat}{lv sv:D}(hl:∃a n c,lv=T a n c)(hs:∃a n c,sv=T a n c):aJ Pg X 154 [gV ra rn rc na nn nc,lv,sv,.func (.func 152) ⟨[]⟩ ⟨[pr rb]⟩,.func (.func 153) ⟨[]⟩ ⟨[pr rb]⟩] H λv C=>∃g s w av fe lo p l,v=.func (.func 186) ⟨[]⟩ ⟨[pr g,pr s,pr w,pr av,pr fe,pr lo,pr p,pr l]⟩/\Ext H C/\(∀r∈[g,s,w,av,fe,lo,p,l],H.next<=r/\r<C.next)/\C.cell g 1=Z (T na nn nc)/\C.cell s 0=Z sv/\C.cell w 0=Z v/\C.cell av 0=Z (.func (.func 152) ⟨[]⟩ ⟨[pr rb]⟩)/\C.cell fe 0=Z (.func (.func 184) ⟨[]⟩ ⟨[pr p]⟩)/\C.cell lo 0=Z (.func (.func 185) ⟨[]⟩ ⟨[pr av,pr fe,pr w]⟩)/\C.cell p 0=Z (.func (.func 153) ⟨[]⟩ ⟨[pr rb]⟩)/\C.cell l 0=Z lv:=by
 obtain⟨la,ln,lc,rfl⟩:=hl;obtain⟨sa,sn,sc,rfl⟩:=hs;have G:=M.refl hw;refine ce [0,1,2,3,4,5,6,7,8,9,10,11,12,13] ?_;refine tl ?_;refine G.box O λH1 g G=>?_;refine G.box O λH2 l G=>?_;refine G.box O λH3 s G=>G.box O λH4 av G=>G.box O λH5 p G=>G.iZ λH6 fe G=>?_;refine G.jE λHn G=>G.iZ λH7 w G=>?_;refine G.iZ λH8 lo G=>?_;refine G.jE λHn G=>?_;refine G.jE λHn G=>?_;refine G.oF ?_;refine rr ?_;refine⟨g,s,w,av,fe,lo,p,l,O,G.ext,?_,(G.get 7 O).cell O,(G.get 5 O).cell O,(G.get 1 O).cell O,(G.get 4 O).cell O,(G.get 2 O).cell O,(G.get 0 O).cell O,(G.get 3 O).cell O,(G.get 6 O).cell O⟩;intro r R;simp only[bM,dW,iD]at R;rcases R with rfl|rfl|rfl|rfl|rfl|rfl|rfl|rfl
 .exact⟨G.wB<|aR (i:=7) O,(G.lo _<|aR (i:=7) O).2⟩
 .exact⟨G.wB<|aR (i:=5) O,(G.lo _<|aR (i:=5) O).2⟩
 .exact⟨G.wB<|aR (i:=1) O,(G.lo _<|aR (i:=1) O).2⟩
 .exact⟨G.wB<|aR (i:=4) O,(G.lo _<|aR (i:=4) O).2⟩
 .exact⟨G.wB<|aR (i:=2) O,(G.lo _<|aR (i:=2) O).2⟩
 .exact⟨G.wB<|aR (i:=0) O,(G.lo _<|aR (i:=0) O).2⟩
 .exact⟨G.wB<|aR (i:=3) O,(G.lo _<|aR (i:=3) O).2⟩
 .exact⟨G.wB<|aR (i:=6) O,(G.lo _<|aR (i:=6) O).2⟩
def Bd.name(hB:Bd ra A SH)(G:M S H0 H<|SH++L)(hn:A.nr<=1000):∃v,H.cell ra 0=Z v/\∀{Kp:D->D->D->F->Prop},(∀w v' rg C M',Bd ra (A.ru nm) M'->M (SH.map (·.1)) H C M'->Kp w v' rg C)->
 ME (bS 9 [.string ⟨#[]⟩] 1 1 [(0,.string nm)] H) λw H1=>ME (zB 9 1 v w H1) λv2 H2=>ME (Cq 1 (pr ra) v2 H2) λrg H3=>Kp w v2 rg H3:=by
 have G:=M.own G;obtain⟨nv,sv,pv,ov,ev,evs,gn,gs,gp,go,ge,hr,rfl,hgn,hgs,Q5,hgo,hge,hR⟩:=hB;refine⟨nv,(G.get 0 O).cell O,λ{Kp} kk=>?_⟩;refine hgn.push (G.perm<|iE [_] gn _) N O O O O O N (by rw[aM];unfold At.nr at hn;omega) λw v' H1 gn' ajN G=>?_;have G:=G.perm<|iE gn' [(ra,27,[nv,sv,pv,ov,ev,B A.ty])] _;obtain⟨na',nc',rfl⟩:=ajN.RU;refine G.st 0 O O (by show 0+1<=6;omega) rfl λH2 G=>?_;refine kk _ _ _ H2 _ ⟨_,sv,pv,ov,ev,evs,gn',gs,gp,go,ge,hr,O,?_,hgs,Q5,hgo,hge,hR⟩ G;have:(A.ru nm).nm.map fO=A.nm.map fO++bI (.string nm):=by show(A.nm++[nm]).map fO=_;simp;rfl
 rw[this];exact ajN
end
section
open Go.Ae Go.Ae.SH Go.Proofs.Lv
variable{S:List Nat}
def _root_.Go.Ae.GB.same(h:GB ty es v E gb):nI v v=f:=by
 rcases h with⟨rfl,_⟩|⟨r,n,dY,rfl,_⟩
 .exact oQ _ _ _ λx h=>by cases h
 .exact oQ _ _ _ λx h=>by cases h;rfl
def RY.put{a:Nat}{Kp:D->F->Prop}(h:RY K d S H0 H SH L A)(ha:A.cur a)(hb:A.cur e.2.2)(he:At.EdL d.lw A.ty e)(ht:A.tot<=1000000)(kk:∀v C M' A',RY K d S H0 C M' L A'->At.Gw A A' 0 1->Kp v C):nJ Pg X (Ls d.pv) [B a,.agg ⟨[B e.1,B e.2.1,B e.2.2]⟩] H Kp:=by
 show aJ Pg X 153 [B a,_,pr d.ra] H Kp;refine aJ.mono (OC (e:=e) h.bd h.sh ha.1 h.bu.zJ ht) ?_;rintro v C ⟨M',Q,I⟩;exact kk v C M' _ (h.step Q I (At.Gw.pu h.bu.zJ ha.1 _)<|h.bu.puC ha hb he)<|At.Gw.pu h.bu.zJ ha.1 _
structure RZ(K:Nat->Prop)(d:WD)(S:List Nat)(H0 H:F)(SH L:List dJ)(A:At):Prop where
 we:WE K d H
 nk:∀r∈SH.map (·.1),¬K r
 bd:Bd d.ra A SH
 sh:M S H0 H (SH++L)
 bs:At.Bs' d.lw A
 ty:A.ty=d.tn
 few:A.nr<=120
 tt:A.tot<=2*A.ns
def RZ.ext{H1:F}{L':List dJ}(h:RZ K d S H0 H SH L A)(J:Ext H H1)(G:M S H0 H1<|SH++L'):RZ K d S H0 H1 SH L' A:=⟨h.we.stay J (λr R=>nomatch R),h.nk,h.bd,G,h.bs,h.ty,h.few,h.tt⟩
def RZ.nks(h:RZ K d S H0 H SH L A)(G:M (SH.map (·.1)) H C M'):∀r∈M'.map (·.1),¬K r:=λr R hk=>by
 obtain⟨e,he,rfl⟩:=bQ.1 R;rcases(G.lo e he).1 with Q|Q
 .exact h.nk _ Q hk
 .have:=h.we.hK _ hk;omega
theorem RY.ends{a:Nat}(h:RY K d S H0 H SH L A)(hl:A.st.length<=1000)(hl2:A.sp.length<=1000){aj:Array Oper}{Kp:D->F->D->F->D->F->D->F->D->F->D->F->D->F->D->F->Prop}(hO:aj=opsOf (sub CE [1,1,1,1,1,0,1,0,0,1,1,0,0,1,1,1,1,0]))(kk:∀v1 OG v2 Q7 v3 TU v4 X9 v5 H40 v6 H42 v7 H45 v8 H48 M',RY K d S H0 (hM (hM (hM (hM (hM (hM (hM (hM H OG) Q7) TU) X9) H40) H42) H45) H48) M' L (A.se a b)->Kp v1 OG v2 Q7 v3 TU v4 X9 v5 H40 v6 H42 v7 H45 v8 H48):
 ME (uP W (.pointer<|Z ⟨d.ra,1,W⟩)<|hN H) λv32 OG=>
 ME (bS 3 [(bV .i64 0)] 1 1 [(0,B a)]<|hN<|hM H OG) λv34 Q7=>
 ME (zB 3 1 v32 v34<|hN<|hM (hM H OG) Q7) λv36 TU=>
 ME (uP W (.pointer<|Z ⟨d.ra,2,W⟩)<|hN<|hM (hM (hM H OG) Q7) TU) λv39 X9=>
 ME (bS 3 [(bV .i64 0)] 1 1 [(0,B b)]<|hN<|hM (hM (hM (hM H OG) Q7) TU) X9) λv41 H40=>
 ME (zB 3 1 v39 v41<|hN<|hM (hM (hM (hM (hM H OG) Q7) TU) X9) H40) λv43 H42=>
 ME (Cq 1 (.pointer<|Z ⟨d.ra,1,W⟩) v36<|hN<|hM (hM (hM (hM (hM (hM H OG) Q7) TU) X9) H40) H42) λu46 H45=>
 ME (Cq 1 (.pointer<|Z ⟨d.ra,2,W⟩) v43<|hN<|hM (hM (hM (hM (hM (hM (hM H OG) Q7) TU) X9) H40) H42) H45) λu49 H48=>
 jI aj [(clS (.pointer<|Z ⟨d.ra,2,W⟩) v43 (hM (hM (hM (hM (hM (hM (hM H OG) Q7) TU) X9) H40) H42) H45) H48),(cl 0),(clS (.pointer<|Z ⟨d.ra,1,W⟩) v36 (hM (hM (hM (hM (hM (hM H OG) Q7) TU) X9) H40) H42) H45),(cl 0),(Dq (hM (hM (hM (hM (hM H OG) Q7) TU) X9) H40) H42),(Lt (hM (hM (hM (hM H OG) Q7) TU) X9) H40),(cl 0),(clL 1 (.pointer<|Z ⟨d.ra,2,W⟩) (hM (hM (hM H OG) Q7) TU) X9),(cl 0),(Dq (hM (hM H OG) Q7) TU),(Lt (hM H OG) Q7),(cl 0),(clL 1 (.pointer<|Z ⟨d.ra,1,W⟩) H OG),(cl 0)]=f/\Kp v32 OG v34 Q7 v36 TU v39 X9 v41 H40 v43 H42 u46 H45 u49 H48:=by
 subst hO;have hS0:=M.own h.sh;obtain⟨nv,sv,pv,ov,ev,evs,gn,gs,gp,go,ge,hr,rfl,hgn,hgs,Q5,hgo,hge,hR⟩:=id h.bd
 have G:=hS0.perm (L':=(d.ra,27,[nv,sv,pv,ov,ev,B A.ty])::(gs++(gp++(gn++(go++(ge++hr)))))) (by
  have p1:=iE gn gs<|gp++(go++(ge++hr));have p2:=iE gn gp<|go++(ge++hr);exact(p1.trans<|gB gs p2).cons _)
 refine G.Qg ?_;simp only[gZ G.wf];refine G.Qa O O O N λH1 rx G sw=>?_;have hX1:=G.get 1 O;have G:=(G.to (cs':=[B a]) O).perm<|(iE [_] gs _).cons _;refine hgs.Gj G N O O (by rw[aM];omega) λv' H2 gs' hgs' G _ _ hc1=>?_;have G:=G.perm<|iE gs' [_] _;simp only[bE,bK]at G;have hY1:=(G.get 0 O).jf (C:=H2) O;generalize hz1:hM (hM H H1) H2=Z1 at G|-;have hwZ:=G.wf;refine G.Qg ?_;simp only[gZ G.wf];refine G.Qa O O O N λH3 ry G vk=>?_;have hX2:=G.get 1 O
 have G:=(G.to (cs':=[B b]) O).perm (L':=(ry,3,[B b])::(gp++((d.ra,27,[nv,sv,pv,ov,ev,B A.ty])::(gs'++(gn++(go++(ge++hr))))))) (by
  have:=iE ((d.ra,27,[nv,sv,pv,ov,ev,B A.ty])::gs') gp<|gn++(go++(ge++hr));exact this.cons _)
 refine Q5.Gj G N O O (by rw[aM];omega) λw' H4 gp' ajO G _ _ hc2=>?_;have G:=G.perm<|iX;have hY2:=(G.get 0 O).jf (C:=H4) O;obtain⟨va,vc,rfl⟩:=hgs'.RU;obtain⟨wa,wc,rfl⟩:=ajO.RU;refine G.lW λH5 G=>?_;have G:=G.to (cs':=[nv,.slice va (fG A.st++[B a]).length vc,pv,ov,ev,B A.ty]) O;refine G.lW λH6 G=>?_;have G:=G.to (cs':=[nv,.slice va (fG A.st++[B a]).length vc,.slice wa (fG A.sp++[B b]).length wc,ov,ev,B A.ty]) O;refine(show∀K:Prop,K->_/\K fromλKz hK=>?_) _ ?_
 .have sm:∀{o},(o=1\/o=2)->∀v∈(([nv,sv,pv,ov,ev,B A.ty]:List D).drop o).take 1,nI v v=f:=λho v hv=>by
   rcases ho with rfl|rfl
   .have hv:v∈[sv]:=hv;rw[aO]at hv;subst hv;exact hgs.same
   .have hv:v∈[pv]:=hv;rw[aO]at hv;subst hv;exact Q5.same
  have rd:∀{o},(o=1\/o=2)->∀w:Cl,((w.a=hM H H1/\w.b=H2)\/(w.a=hM Z1 H3/\w.b=H4))->mY w ⟨4,d.ra,o,1,hh0,hh0⟩=f:=λ{o} ho w hw=>by
   have hle:o+1<=6:=by omega
   unfold mY;rcases hw with hw|hw
   .rw[hw.1,hw.2];exact Af (hX1.read hle) (hY1.read hle)<|yF<|sm ho
   .rw[hw.1,hw.2];exact Af (hX2.read hle) (hY2.read hle)<|yF<|sm ho
  have r1:=rd<|.inl O;have r2:=rd<|.inr O;simp only[sw,vk,eG,fT];generalize d.ra=ra at r1 r2|-;rcases hc1 with e|e<;>rw[e]<;>rcases hc2 with e|e<;>rw[e]<;>apply adK (a:=ra) (ai:=λw=>(w.a=hM H H1/\w.b=H2)\/(w.a=hM Z1 H3/\w.b=H4)) (by rfl) (by kernel_rfl) (by kernel_rfl) hK<;>repeat' apply iq
  all_goals first|exact trivial|(intro h;cases h;done)|exactλ_=>.inl ⟨rfl,rfl⟩|exactλ_=>.inr ⟨rfl,rfl⟩|exactλ_=>r1|exactλ_=>r2
 have G:=G.perm (L':=(d.ra,27,[nv,.slice va (fG A.st++[B a]).length vc,.slice wa (fG A.sp++[B b]).length wc,ov,ev,B A.ty])::(gn++(gs'++(gp'++(go++(ge++hr)))))) (by
  refine dQ _ ?_;have p1:=iE (gp'++gs') gn<|go++(ge++hr);have p2:=iE gp' gs'<|go++(ge++hr);simp only[bP]at p1;exact p1.trans<|gB gn p2)
 have hB:Bd d.ra (A.se a b) ((d.ra,27,[nv,.slice va (fG A.st++[B a]).length vc,.slice wa (fG A.sp++[B b]).length wc,ov,ev,B A.ty])::(gn++(gs'++(gp'++(go++(ge++hr)))))):=⟨nv,_,_,ov,ev,evs,gn,gs',gp',go,ge,hr,O,hgn,by
  have:fG (A.se a b).st=fG A.st++bI (B a):=by show fG (A.st++[a])=_;simp;rfl
  rw[this];exact hgs',by
  have:fG (A.se a b).sp=fG A.sp++bI (B b):=by show fG (A.sp++[b])=_;simp;rfl
  rw[this];exact ajO,hgo,hge,hR⟩
 have hnk:∀{M':List dJ}{C:F},M ((((d.ra,27,[nv,sv,pv,ov,ev,B A.ty])::(gn++(gs++(gp++(go++(ge++hr))))):List dJ).map (·.1))) H C M'->∀r∈M'.map (·.1),¬K r:=λG r R hk=>by
  obtain⟨e,he,rfl⟩:=bQ.1 R;rcases(G.lo e he).1 with Q|Q
  .exact h.nk _ Q hk
  .have:=h.we.hK _ hk;omega
 have hY:RY K d S H0 _ ((d.ra,27,[nv,.slice va (fG A.st++[B a]).length vc,.slice wa (fG A.sp++[B b]).length wc,ov,ev,B A.ty])::(gn++(gs'++(gp'++(go++(ge++hr)))))) L (A.se a b):=⟨h.we.stay G.ext h.nk,hnk G,hB,M.frame h.sh G,⟨h.bu.zJ,h.bu.o,h.bu.e⟩,h.ty,h.pos,h.few⟩;refine kk _ _ _ _ _ _ _ _ _ _ _ _ _ _ _ _ ((d.ra,27,[nv,.slice va (fG A.st++[B a]).length vc,.slice wa (fG A.sp++[B b]).length wc,ov,ev,B A.ty])::(gn++(gs'++(gp'++(go++(ge++hr)))))) ?_;rw[gZ h.sh.wf,hz1,gZ hwZ];exact hY
end
section
open Go.Ae Go.Ae.SH Go.Proofs.Lv
variable{S:List Nat}
def _root_.Go.Ae.i_.within{ax:Nat->Prop}{n:Nat}(h:i_ ax ty H a n es E)(hF:∀r,r<H.next->F' r):i_ F' ty H a n es E:=⟨h.1,λr o e hn=>let⟨_,I,h3⟩:=h.2 r o e hn;⟨hF r I,I,h3⟩⟩
def VH.within{ax:Nat->Prop}(h:VH ax H nn iH kd zs)(hF:∀r,r<H.next->F' r):VH F' H nn iH kd zs:=λi hi=>let⟨a,c,t,xa,xn,xc,at',Q,I,h3⟩:=h i hi;⟨a,c,t,xa,xn,xc,at',Q,I.within hF,h3⟩
def VH.ex{ax:Nat->Prop}(h:VH ax H nn iH kd zs)(J:Ext H C):VH ax C nn iH kd zs:=λi hi=>let⟨a,c,t,xa,xn,xc,at',Q,I,h3⟩:=h i hi;⟨a,c,t,xa,xn,xc,at',Q,I.ex J,h3⟩
def _root_.Go.Ae.Bk.Rw{ax:Nat->Prop}{n:Nat}(h:Bk H r ty E)(R:r<H.next)(hn:E.length=n*es)(hF:ax r):i_ ax ty H (Z ⟨r,0,W⟩) n es E:=⟨h.fl R hn,λr' o e _=>by cases e;exact⟨hF,R,h.HZ⟩⟩
def EK(rcs:List D)(ws:List Nat):Nat->Nat
 |0=>0
 |i+1=>EK rcs ws i+(if FK rcs i=f then 0 else 2+ak ws (rootOf rcs i).toNat)
def X_(rcs:List D)(ws:List Nat)(h:i<=j):EK rcs ws i<=EK rcs ws j:=by
 induction j with
 |zero=>obtain rfl:i=0:=by omega
        exact az _
 |succ j ih=>
  rcases bZ i (j+1)with Q|Q
  .have:=ih N;show _<=EK rcs ws j+_;omega
  .obtain rfl:i=j+1:=by omega
   exact az _
def Bd.atC(hB:Bd ra A<|(ra,27,E)::SH)(G:M [] H C<|SH++L)(ho:A.Ok):∃q:AV,E=q.cells A/\rX (H.next<=·) C A q:=by
 obtain⟨nv,sv,pv,ov,ev,evs,gn,gs,gp,go,ge,hr,e,hgn,hgs,Q5,hgo,hge,hR⟩:=hB;obtain⟨e1,rfl⟩:=jA e;cases e1;have hev:evs.length=A.ns:=by rw[<-hR.len,aM,ho.zJ]
 have hT:=G.cast (L':=gn++(gs++(gp++(go++(ge++(hr++L)))))) (by simp);have hT2:=M.drop hT;have hT3:=M.drop hT2;have hT4:=M.drop hT3;have hT5:=M.drop hT4;have hT6:=M.drop hT5;obtain⟨na,n1,nc,rfl,l1,f1⟩:=hgn.Rw hT;obtain⟨sa,n2,sc,rfl,l2,f2⟩:=hgs.Rw hT2;obtain⟨pa,n3,pc,rfl,l3,f3⟩:=Q5.Rw hT3;obtain⟨oa,n4,oc,rfl,l4,f4⟩:=hgo.Rw hT4;obtain⟨ea,n5,ec,rfl,l5,f5⟩:=hge.Rw hT5;obtain rfl:n1=A.nr:=by rw[aM]at l1;unfold At.nr;omega
 obtain rfl:n2=A.nr:=by rw[aM,ho.VJ]at l2;omega
 obtain rfl:n3=A.nr:=by rw[aM,ho.XX]at l3;omega
 obtain rfl:n4=A.ns:=by rw[aM]at l4;unfold At.ns;omega
 obtain rfl:n5=A.ns:=by omega
 refine⟨⟨na,sa,pa,oa,ea,nc,sc,pc,oc,ec⟩,O,f1,f2,f3,f4,evs,f5,λi hi=>?_⟩;obtain⟨a,n,c,g1,g2,g3⟩:=hR.all hT6 i N
 have hE:(A.eg.map zq)[i]?.getD []=zq (A.cs i):=by
  unfold At.cs;rw[bD,au (show i<A.eg.length by rw[ho.zJ];exact hi)];rfl
 rw[hE]at g2 g3;rw[Ji]at g2;obtain rfl:n=(A.cs i).length:=by omega
 refine⟨a,c,by rw[au (show i<evs.length by omega),g1],g3.wk λr R=>?_⟩;obtain⟨e,he,rfl⟩:=bQ.1 R;exact hT6.wB<|cZ _ he
theorem Bd.atM(hB:Bd ra A SH)(G:M [] H C<|SH++L)(ho:A.Ok):∃q:AV,C.read ra 0 6=Z (q.cells A)/\rX (H.next<=·) C A q:=by
 obtain⟨nv,sv,pv,ov,ev,evs,gn,gs,gp,go,ge,hr,rfl,g⟩:=id hB;obtain⟨q,Q,I⟩:=hB.atC (M.drop (A:=[_]) G) ho;exact⟨q,by rw[<-Q];exact(G.get 0 O).read (o:=0) (n:=6) (by show 0+6<=6;omega),I⟩
end
section
open Go.Ae Go.Ae.SH Go.Proofs.Lv
variable{S:List Nat}
abbrev abI(tn:Nat)(H:F)(v:D)(C:F):Prop:=∃(A:At)(q:AV),v=q.v A/\rX (H.next<=·) C A q/\A.Ok/\A.ty=tn
theorem aec{rz rv u:Nat}{ra:Option Addr}{rn:Nat}{x2 x3 rA:D}(hG:Gr b H ra rn rcs na nn iH)(hR:∀i,i<rn->0<=rootOf rcs i/\rootOf rcs i<nn)(hup:FK rcs 0=aA)(hrn:1<=rn)(hQ:WQ d)(hd:d.nn=nn/\d.tn=tn/\d.lw=yY rcs rn)(htot:EK rcs d.ws rn<=4000)(hZ:RZ K d [] H H1 SH [(rz,27,[T W 0 0,T W 0 0,T W 0 0,T W 0 0,T W 0 0,vi 0]),(rv,180,[T va tn vc]),(u,171,[T ra rn rc,T na nn nc])] A)(hA:A.nr=0/\A.ns=0):
 gJ Pg X (.loop<|sub CE [1,1,1,1,1,0,1,0,0]) (Oe (gV ra rn rc na nn nc) (vV va tn vc) x2 x3 (pr u) (pr rv) (pr rz) (pr d.ra) d.fv d.pv d.wv rA lH pz (T ra rn rc) (B rn) (B 0) mO H1) (rO 0<|sW Pg X (sub CE [1,1,1,1,1,1])<|jR Pg [.cell 8 27]<|Q1 (abI tn H) H):=by
 have g2:=hG.2.1;refine Oa 14 15 16 31 (h2:=λm rA lH pz x31 C=>∃i A SH,x31=B i/\i+m=rn/\RZ K d [] H C SH [(rz,27,[T W 0 0,T W 0 0,T W 0 0,T W 0 0,T W 0 0,vi 0]),(rv,180,[T va tn vc]),(u,171,[T ra rn rc,T na nn nc])] A/\A.nr=yY rcs i/\A.ns=EK rcs d.ws i) ?_ rn ⟨0,A,SH,rfl,N,hZ,hA.1,hA.2⟩;clear hZ hA;rintro m rA lH pz x31 mO H2 ⟨i,A,SH,rfl,him,hZ,hnr,hns⟩;refine tp ?_;refine aC (λy=>?_) λy=>?_;rotate_left
 .obtain rfl:i=rn:=by omega
  have hlo:=GD rcs hrn;have hl1:yY rcs 1=1:=by show 0+(if FK rcs 0=f then 0 else 1)=1;rw[hup];rfl
  have tt:=hZ.tt;have ok:A.Ok:=hZ.bs.ok (by rw[hnr,hd.2.2]) N (by have:=hZ.few;omega) N N;refine tl ?_;obtain⟨q0,hr0,_⟩:=hZ.bd.atM hZ.sh ok;refine ME.rF hr0 ?_;have G:=hZ.sh.perm<|aF (l₁:=SH);refine G.st 0 O O (az 6) O λH3 G=>?_;have G:M [] H H3 ((rz,27,q0.cells A)::(rv,180,[T va tn vc])::(u,171,[T ra i rc,T na nn nc])::SH):=G;have hS2:=G.perm (L':=SH++[(rz,27,q0.cells A),(rv,180,[T va tn vc]),(u,171,[T ra i rc,T na nn nc])])<|aF (l₁:=[_,_,_]);obtain⟨q1,hr1,hat⟩:=hZ.bd.atM hS2 ok
  have eq:q1.cells A=q0.cells A:=by
   obtain⟨E,hm,h6⟩:∃E,((d.ra,27,E):dJ)∈SH/\E.length=6:=by
    obtain⟨nv,sv,pv,ov,ev,evs,gn,gs,gp,go,ge,hr,rfl,_⟩:=hZ.bd;exact⟨_,aL ..,O⟩
   have a0:=(hZ.sh.bk _<|cZ _ hm).read (o:=0) (n:=6) (by show 0+6<=E.length;omega);have a1:=(hS2.bk _<|cZ _ hm).read (o:=0) (n:=6) (by show 0+6<=E.length;omega);have b0:=a0.symm.trans hr0;have b1:=a1.symm.trans hr1;exact dH<|b1.symm.trans b0
  refine rr ?_;refine G.rF 0 O (az 6) ?_;rw[<-eq];exact⟨⟨A,q1,O,hat,ok,hZ.ty.trans hd.2.1⟩,G.ext⟩
 have hi:i<rn:=by omega
 obtain⟨r1,o1,yf,u1,f1,w1,c1,a1,e1,hl1,zo,sw,hsz,hel⟩:=hG.ru hi rc;have hroot:=hR i hi;rw[e1];refine aY ?_;refine hZ.sh.zP zo hl1<|(M.refl hZ.sh.wf).nZ O O O λH3 ru hS1 hx3=>?_;have hS1:M [] H2 H3 [(ru,234,wh yf u1 f1 w1 c1 (rootOf rcs i) a1)]:=hS1
 have rQ:=(M.frame (SH:=[]) hZ.sh hS1).perm (L':=SH++([(rz,27,[T W 0 0,T W 0 0,T W 0 0,T W 0 0,T W 0 0,vi 0]),(rv,180,[T va tn vc]),(u,171,[T ra rn rc,T na nn nc])]++[(ru,234,wh yf u1 f1 w1 c1 (rootOf rcs i) a1)])) (by
  rw[<-bP];exact aF (l₁:=[_]))
 have hZ:=hZ.ext hx3 rQ;have hlow:yY rcs (i+1)=yY rcs i+(if FK rcs i=f then 0 else 1):=rfl;have htt:EK rcs d.ws (i+1)=EK rcs d.ws i+(if FK rcs i=f then 0 else 2+ak d.ws (rootOf rcs i).toNat):=rfl;rw[Jg hel]at hlow htt;have hmo:=X_ rcs d.ws (show i+1<=rn by omega);have amC:=GD rcs (show i+1<=rn by omega);have alq:=Ov rcs rn;have hru:∀{C M'}(_:M [] H C<|M'++([(rz,27,[T W 0 0,T W 0 0,T W 0 0,T W 0 0,T W 0 0,vi 0]),(rv,180,[T va tn vc]),(u,171,[T ra rn rc,T na nn nc])]++[(ru,234,wh yf u1 f1 w1 c1 (rootOf rcs i) a1)])),Bk C ru 234 (wh yf u1 f1 w1 c1 (rootOf rcs i) a1):=λ{C M'} G=>G.bk _<|cO _<|cO _<|aL ..
 have back:∀{C M'}(_:M [] H C<|M'++([(rz,27,[T W 0 0,T W 0 0,T W 0 0,T W 0 0,T W 0 0,vi 0]),(rv,180,[T va tn vc]),(u,171,[T ra rn rc,T na nn nc])]++[(ru,234,wh yf u1 f1 w1 c1 (rootOf rcs i) a1)])),M [] H C (M'++[(rz,27,[T W 0 0,T W 0 0,T W 0 0,T W 0 0,T W 0 0,vi 0]),(rv,180,[T va tn vc]),(u,171,[T ra rn rc,T na nn nc])]):=λ{C M'} G=>G.sub<|List.Sublist.append_left (dZ _ _) M';refine aY ?_;refine ME.ld ((hru hZ.sh).cell (o:=1) O) ?_;refine aY ?_;refine dL (λhb=>?_) λhb=>?_
 .rw[if_pos hb]at hlow htt;refine dU ?_;exact⟨rn-(i+1),N,_,_,_,_,_,_,O,i+1,A,SH,nX,N,hZ.ext (Ext.refl _)<|back hZ.sh,N,N⟩
 rw[if_neg (by rw[hb];simp)]at hlow htt;have KL:=hZ.few;have amD:=hZ.tt;obtain⟨v0,hv0,hname⟩:=hZ.bd.name (nm:=yf) hZ.sh N;refine ME.ld hv0<|ME.ld ((hru hZ.sh).cell (o:=0) O)<|hname λw v' rg H4 M4 hB4 uR=>?_;have alA:(A.ru yf).nr=A.nr+1:=by show(A.nm++[yf]).length=_;rw[aQ];rfl
 have hY:RY K d [] H H4 M4 _ (A.ru yf):=⟨hZ.we.stay uR.ext hZ.nk,hZ.nks uR,hB4,M.frame hZ.sh uR,hZ.bs.bu.ru yf,hZ.ty,N,N⟩;have hns0:(A.ru yf).ns=A.ns:=rfl;have aml:(A.ru yf).tot=A.tot:=rfl;refine hY.fresh N λH5 M5 A1 hY g1 E=>?_;have n1:=g1.ns;have t1:=g1.tt;refine hY.fresh N λH6 M6 A2 hY g2 cp=>?_;have n2:=g2.ns;have t2:=g2.tt;have E:=E.gw g2;have hst:A2.st=A.st:=by rw[g2.st,g1.st];rfl
 have hsp:A2.sp=A.sp:=by rw[g2.sp,g1.sp];rfl
 refine hY.ends (by rw[hst,hZ.bs.VJ];omega) (by rw[hsp,hZ.bs.XX];omega) rfl λu1 e1 u2 e2 u3 e3 u4 e4 u5 e5 u6 e6 u7 e7 u8 e8 M7 hY=>?_;generalize hM (hM (hM (hM (hM (hM (hM (hM H6 e1) e2) e3) e4) e5) e6) e7) e8=H7 at hY|-;have n3:(A2.se (A.ru yf).ns A1.ns).ns=A2.ns:=rfl;have t3:(A2.se (A.ru yf).ns A1.ns).tot=A2.tot:=rfl;obtain⟨k,hk⟩:∃k:Nat,rootOf rcs i=k:=⟨(rootOf rcs i).toNat,N⟩;have hkn:k<d.nn:=by omega
 have hWk:ak d.ws (rootOf rcs i).toNat=ak d.ws k:=by rw[hk];rfl
 refine ME.ld ((hru hY.sh).cell (o:=5) O) ?_;rw[hk];refine hY.way (ahj hQ k hkn) N N (show(A2.se (A.ru yf).ns A1.ns).cur _ from E) λto H8 M8 A4 c hY g4 hc4 cto=>?_;have n4:=g4.ns;have t4:=g4.tt;refine PU.b3 O ?_;have cp4:A4.cur A1.ns:=At.cur.gw (A:=A2.se (A.ru yf).ns A1.ns) cp g4;refine hY.put (e:=(0,0,A1.ns)) cto cp4 (ahg ..) N λv9 H9 M9 A5 hY g5=>?_;have n5:=g5.ns;have t5:=g5.tt;refine dU ?_;have amE:A5.nr=A.nr+1:=by rw[g5.nr,g4.nr];show A2.nr=_;rw[g2.nr,g1.nr,alA]
 exact⟨rn-(i+1),N,_,_,_,_,_,_,O,i+1,A5,M9,nX,N,⟨hY.we,hY.nk,hY.bd,back hY.sh,hZ.bs.next (g1.trans g2) E cp (g4.trans g5) hY.bu,hY.ty,N,N⟩,N,N⟩
end
section
open Go.Ae Go.Ae.SH Go.Proofs.Lv
variable{ax:Nat->Prop}{S:List Nat}
def Bd.nil(ra tn:Nat):Bd ra ⟨[],[],[],[],[],tn⟩ [(ra,27,[T W 0 0,T W 0 0,T W 0 0,T W 0 0,T W 0 0,B tn])]:=
 ⟨_,_,_,_,_,[],[],[],[],[],[],[],rfl,.inl ⟨rfl,rfl,rfl⟩,.inl ⟨rfl,rfl,rfl⟩,.inl ⟨rfl,rfl,rfl⟩,.inl ⟨rfl,rfl,rfl⟩,.inl ⟨rfl,rfl,rfl⟩,rfl⟩
theorem TV(hw:Wf H){rl rs:Nat}{ra:Option Addr}{rn:Nat}{lcs:List D}(hG:Gr b H ra rn rcs na nn iH)(hNd:VH ax H nn iH kd zs)(hR:∀i,i<rn->0<=rootOf rcs i/\rootOf rcs i<nn)(hup:FK rcs 0=aA)(hrn:1<=rn)(hl:Bk H rl 121 lcs/\rl<H.next/\lcs.length=nn*3)(hlp:∀i,i<nn->vW tn (yY rcs rn) (El lcs 3 i))(hs:Bk H rs 3 (fG ws)/\rs<H.next/\ws.length=nn)(hsz:∀j,j<nn->FM kd zs ws j)(htot:EK rcs ws rn<=4000):
 aJ Pg X 125 [gV ra rn rc na nn nc,vV va tn vc,T (Z ⟨rl,0,W⟩) nn nn,T (Z ⟨rs,0,W⟩) nn nn] H (Q1 (abI tn H) H):=by
 have G:=M.refl hw;refine ce [0,1,2,3,4,5,8,9,10,11,12,14,15,16,29,30,31] ?_;refine tl ?_;refine G.box O λH1 u G=>?_;refine G.box O λH2 rv G=>?_;refine G.iZ λH3 rz G=>?_;refine d_ ?_;refine aJ.mono (TC G.wf) ?_;rintro v H4 ⟨rfl,J⟩;have G:=G.call J;refine d_ ?_;refine G.iZ λH5 rb G=>G.jE λHn G=>?_;refine G.iK ?_;have hb:=iq (G.wB<|aR (i:=0) O) (G.lo _<|aR (i:=0) O).2;refine aJ.mono (X8 G.wf ⟨_,_,_,O⟩ ⟨_,_,_,O⟩) ?_;rintro v H7 ⟨g,s,w,av,fe,lo,p,l,rfl,hx7,hn7,c1,c2,c3,c4,c5,c6,c7,c8⟩;have G:=G.call hx7;have J:=G.ext
 have hK:∀r∈[g,s,w,av,fe,lo,p,l],r<H7.next/\r≠rb:=λr R=>by
  have:=hn7 r R;exact⟨this.2,N⟩
 have hF:∀r,r<H.next->r<H7.next/\r≠rb:=λr R=>⟨by have:=J.next;omega,N⟩
 have hW:WE (λr=>r<H7.next/\r≠rb) ⟨g,s,w,av,fe,lo,p,l,rb,na,nc,nn,rs,rl,iH,lcs,ws,kd,zs,tn,yY rcs rn⟩ H7:=
  ⟨λr R=>R.1,⟨hK g<|by simp,c1⟩,⟨hK s<|by simp,c2⟩,⟨hK w<|by simp,c3⟩,⟨hK av<|by simp,c4⟩,⟨hK fe<|by simp,c5⟩,⟨hK lo<|by simp,c6⟩,⟨hK p<|by simp,c7⟩,⟨hK l<|by simp,c8⟩,
   (hG.2.2.2.1.within hF).ex J,(hNd.within hF).ex J,((hs.1.Rw hs.2.1 (by rw[dz,aM];exact hs.2.2)<|hF _ hs.2.1)).ex J,(hl.1.Rw hl.2.1 hl.2.2<|hF _ hl.2.1).ex J⟩
 refine d_ ?_;refine aec (d:=⟨g,s,w,av,fe,lo,p,l,rb,na,nc,nn,rs,rl,iH,lcs,ws,kd,zs,tn,yY rcs rn⟩) (K:=λr=>r<H7.next/\r≠rb) (A:=⟨[],[],[],[],[],tn⟩) (SH:=[(rb,27,[T W 0 0,T W 0 0,T W 0 0,T W 0 0,T W 0 0,B tn])]) hG hR hup hrn ⟨hG.2.2.2.2.1,hsz,hlp⟩ ⟨O,O,O⟩ htot ⟨hW,λr R hk=>?_,Bd.nil rb tn,G,?_,rfl,bg _,bg _⟩ ⟨rfl,rfl⟩
 .obtain rfl:r=rb:=aO.1 R;exact hk.2 O
 .exact⟨⟨O,λs h=>absurd h<|jP _,λs h=>absurd h<|jP _⟩,rfl,rfl,λs h=>absurd h<|jP _,λs h=>absurd h<|jP _⟩
end
end Go.Proofs.Lu
