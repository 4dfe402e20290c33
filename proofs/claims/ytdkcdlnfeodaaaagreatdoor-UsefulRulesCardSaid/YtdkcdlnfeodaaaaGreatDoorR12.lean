/-
  Part 12 of the proof. No condition.
-/
import Derived.Test.YtdkcdlnfeodaaaaGreatDoorR11
set_option linter.unusedVariables false
set_option linter.unusedSimpArgs false
set_option maxRecDepth 100000
set_option maxHeartbeats 4000000
noncomputable section
namespace Go.Proofs.Lv
open Go.Proofs.Lu
open Go.Ae Go.Ae.M
variable{mk mk':List Bool}{nx':List Nat}{D:Nat->Ed->Prop}{Q:Nat->Prop}{L L' M RI:List cz}{A:At}{q:AV}{H H0 H1:ag}{b c r s:Nat}{J8 JG vs:List Value}{v:Value}
section
variable{S:List Nat}{F:Nat->Prop}{n:Nat}{P:Nat->Prop}{nx:List Nat}
theorem RS{rs:List ResultVar}{K K':Value->ag->Prop}(h:∀v H,K v H->K' v H):∀o,f_ Pg rs K o->f_ Pg rs K' o:=by
 have key:∀s:St,(s.df=[]/\@Option.rec (List Value) (λ_=>Prop) False (λvs=>K (oN vs) s.H) (iX Pg s rs))->(s.df=[]/\@Option.rec (List Value) (λ_=>Prop) False (λvs=>K' (oN vs) s.H) (iX Pg s rs)):=by
  rintro s ⟨h1,h2⟩;refine⟨h1,?_⟩;cases ha:iX Pg s rs with
  |none=>rw[ha]at h2;exact h2
  |some vs=>rw[ha]at h2;exact h _ _ h2
 intro o ho;cases o with
 |norm s=>exact key s ho
 |ret s=>exact key s ho
 |fail=>exact ho
 |exit i s=>exact ho
 |goto l s=>exact ho
theorem Hf.bk{ok:Ed->Prop}{key:Ed->Nat}{R:List cz}(h:Hf ok key A D c n vs R)(hc:c<=1000000)(hS:SH S H0 H<|R++L)(hr:Bk H r 164 vs)(hl:r<H.next):
 BkM (λt l=>(∀p∈l,p.2∈A.E p.1/\key p.2=t/\ok p.2)/\∀s e,D s e->ok e->key e=t->(s,e)∈l) H n (some ⟨r,0,none⟩):=by
 obtain⟨b,h1,h2,h3⟩:=h;have hvl:vs.length=n:=by rw[<-h3.len,aC,h2]
 refine⟨vs,⟨hr.fl hl aa,λr' o e _=>by cases e;exact⟨trivial,hl,hr.Tn⟩⟩,λt ht=>?_⟩;obtain⟨a,m,c',e1,e2,hf⟩:=h3.all hS t aa;obtain⟨l,hl⟩:∃l,b[t]?=some l:=⟨_,ae aa⟩;rw[aR,hl]at e2 hf;have e2:(PX l).length=m*4:=e2;rw[MZ]at e2;obtain rfl:m=l.length:=by omega
 have:=h1.len l<|aA hl;exact⟨a,c',l,by rw[ae aa,e1],hf.wk λ_ _=>trivial,⟨h1.snd t l hl,λs e hd hk hkey=>h1.cpl s e l hd hk (by rw[hkey];exact hl)⟩,aa⟩
abbrev GJ:Ed->Nat:=λe=>e.2.2
abbrev Jt:Ed->Nat:=λe=>e.2.1
abbrev okC:Ed->Prop:=λe=>e.1=2
theorem abO{tok:Bool}{e:Ed}{re dc di rg ic cc:Nat}{RC:List cz}(hc:c<=1000000)(ho:A.Ok)(he:e∈A.E s)(hok:At.T9 tok e)(hI:Hf (At.T9 tok) GJ A D c A.ns J8 RI)(hC:Hf okC Jt A D c A.nr JG RC)(hS:SH [] H H1<|(re,47,[vn e.1,vn e.2.1,vn e.2.2])::(dc,164,JG)::(di,164,J8)::(rg,26,q.cells A)::(RI++RC)){K:Out->Prop}{x0 x1 x2 x4 x8 fC gK gq iL jU qf vv xK x30 x31 x32 Az x38 x39 x88 x89 x90 x115 C6 yl x157 x158 x159:Value}{l7:List (Nat×Value)}(kk:∀Ju Jv RU VE xD H',Hf (At.T9 tok) GJ A (λs' e'=>D s' e'\/(s'=s/\e'=e)) (c+1) A.ns Ju RU->Hf okC Jt A (λs' e'=>D s' e'\/(s'=s/\e'=e)) (c+1) A.nr Jv VE->SH [] H H' ((re,47,[vn e.1,vn e.2.1,vn e.2.2])::(dc,164,Jv)::(di,164,Ju)::(rg,26,q.cells A)::(RU++VE))->
  K (.norm<|jc x0 x1 x2 x4 (.slice (some ⟨di,0,none⟩) A.ns ic) (.slice (some ⟨dc,0,none⟩) A.nr cc) (vn s) x8 (pt re) fC gK gq iL jU qf vv xK x30 x31 x32 Az x38 x39 x88 x89 x90 x115 C6 yl x157 x158 x159 xD H')):
 dJ Pg X (sub lQ [1,1,1,0,1,0,0,1,1,0,0,1,1,0,0,1,1,0,0,1,1]) (jc x0 x1 x2 x4 (.slice (some ⟨di,0,none⟩) A.ns ic) (.slice (some ⟨dc,0,none⟩) A.nr cc) (vn s) x8 (pt re) fC gK gq iL jU qf vv xK x30 x31 x32 Az x38 x39 x88 x89 x90 x115 C6 yl x157 x158 x159 l7 H1) K:=by
 have hs:=ho.lt he;have hto:GJ e<A.ns:=(ho.e s hs e he).1;have hvI:J8.length=A.ns:=let⟨b,_,h2,h3⟩:=hI;by rw[<-h3.len,aC,h2]
 have hvC:JG.length=A.nr:=let⟨b,_,h2,h3⟩:=hC;by rw[<-h3.len,aC,h2]
 refine tl ?_
 repeat(first|(refine hS.aY ?_)|(refine hS.kI ?_))
 obtain⟨v,hv,_⟩:∃v,J8[GJ e]?=some v/\True:=⟨_,ae aa,trivial⟩;refine hS.ixQ (k:=GJ e) hto hv ?_
 repeat(first|(refine hS.aY ?_)|(refine PU.b4 rfl ?_)|(refine hS.nN ?_))
 refine hS.U8 rfl rfl rfl aa λH2 rx hS qP=>?_;have hS:SH [] H (hM H1 H2) ((rx,166,[vn s,vn e.1,vn e.2.1,vn e.2.2])::([(re,47,[vn e.1,vn e.2.1,vn e.2.2]),(dc,164,JG),(di,164,J8),(rg,26,q.cells A)]++(RI++RC))):=hS;have hS0:=hS;refine hI.put hc he hok hto hv hS λva vl vc H3 RU hI' hS uI=>?_;simp only[a_,bB]at hS;have hS1:=hS;refine hS.aeK (k:=GJ e) hto aa (kk:=λH4 hS=>?_);have n1:re≠di:=hS.nq 0 2 rfl rfl aa;refine splitK (λK hK=>?_) ?_
 .have r1:∀{o n:Nat}{a b:ag},o+n<=3->ng ⟨2,0,0,0,hM H1 H2,H3⟩ ⟨4,re,o,n,a,b⟩=true:=λh=>xB (hS0.get 1 rfl) ((hS1.get 0 rfl).mR rfl) h (M0 ⟨_,_,_,rfl⟩);have r2:∀{n:Nat}{a b:ag},n=1->ng ⟨2,0,0,0,hM H1 H2,H3⟩ ⟨4,di,GJ e,n,a,b⟩=true:=λh=>xB (hS0.get 3 rfl) ((hS1.get 2 rfl).mR rfl) aa λv hv=>hI.same v<|kg<|iD hv;simp only[qP,cB,dn];generalize hke:GJ e=ke at r2|-;rcases uI with e|e<;>rw[e]<;>apply Tu (A:=hM H1 H2) (B:=H3) (a:=re) (b:=di) n1 (by rfl) (by kernel_rfl) (by kernel_rfl) hK<;>repeat' apply And.intro
  all_goals first|exact trivial|(intro h;cases h;done)|exactλ_=>⟨rfl,rfl⟩|exactλ_=>r1 aa|exactλ_=>r2 rfl
 refine hS.dQ ?_;refine hS.aY ?_;refine ah (λhk=>?_) λhk=>?_;rotate_left
 .exact kk _ JG RU RC _ _ hI' (hC.skip (s:=s) (e:=e) λh=>hk (by have:e.1=2:=h;omega)) hS
 have hk2:okC e:=by show e.1=2;omega
 have hca:Jt e<A.nr:=ho.call he hk2;clear hS0 hS1 qP uI n1;generalize hM _ H4=Hz at hS|-
 repeat(first|(refine hS.aY ?_)|(refine hS.kI ?_))
 obtain⟨v,hv,_⟩:∃v,JG[Jt e]?=some v/\True:=⟨_,ae aa,trivial⟩;refine hS.ixQ (k:=Jt e) hca hv ?_
 repeat(first|(refine hS.aY ?_)|(refine PU.b4 rfl ?_)|(refine hS.nN ?_))
 refine hS.U8 rfl rfl rfl aa λH5 ry hS qP=>?_;have hS0:=hS;have hS:=(hS.to (cs':=[vn s,vn e.1,vn e.2.1,vn e.2.2]) rfl).cast (L':=(ry,166,[vn s,vn e.1,vn e.2.1,vn e.2.2])::(([(re,47,[vn e.1,vn e.2.1,vn e.2.2]),(dc,164,JG),(di,164,J8.set (GJ e)<|.slice va vl vc),(rg,26,q.cells A)]++RU)++(RC++[]))) (by simp);refine hC.put hc he hk2 hca hv hS λvb vm vd H6 VE hC' hS uI=>?_;simp only[a_,bB,aQ]at hS;have hS1:=hS;refine hS.aeK (k:=Jt e) hca aa (kk:=λH7 hS=>?_);have n1:re≠dc:=hS.nq 0 1 rfl rfl aa;refine splitK (λK hK=>?_) ?_
 .have r1:∀{o n:Nat}{a b:ag},o+n<=3->ng ⟨2,0,0,0,hM Hz H5,H6⟩ ⟨4,re,o,n,a,b⟩=true:=λh=>xB (hS0.get 1 rfl) ((hS1.get 0 rfl).mR rfl) h (M0 ⟨_,_,_,rfl⟩);have r2:∀{n:Nat}{a b:ag},n=1->ng ⟨2,0,0,0,hM Hz H5,H6⟩ ⟨4,dc,Jt e,n,a,b⟩=true:=λh=>xB (hS0.get 2 rfl) ((hS1.get 1 rfl).mR rfl) aa λv hv=>hC.same v<|kg<|iD hv;simp only[qP,cB,dn];generalize hke:Jt e=ke at r2|-;rcases uI with e|e<;>rw[e]<;>apply Tu (A:=hM Hz H5) (B:=H6) (a:=re) (b:=dc) n1 (by rfl) (by kernel_rfl) (by kernel_rfl) hK<;>repeat' apply And.intro
  all_goals first|exact trivial|(intro h;cases h;done)|exactλ_=>⟨rfl,rfl⟩|exactλ_=>r1 aa|exactλ_=>r2 rfl
 exact kk _ _ RU VE _ _ hI' hC' hS
end
section
variable{S:List Nat}{F:Nat->Prop}{n:Nat}{P:Nat->Prop}{nx:List Nat}
theorem Jw(hw:Wf H)(h:BO F H A q)(ho:A.Ok)(tok:Bool):az Pg X 38 [q.v A,.bool tok] H (Qe (λv H'=>∃mk,Bs H.next H' A.ns v mk/\∀s,on mk s<->A.Mk tok s) H):=by
 have hS:=SH.refl hw;have hbig:=ho.big;have ZM:=ho.few;refine ce [0,1,2,4,5,6,7,8,10,11,12,13,15,16,18,19,21,30,31,32,37,38,39,88,89,90,115,116,117,157,158,159] ?_;refine tl ?_;refine hS.box rfl λH1 rg hS=>?_;rw[wD]at hS;refine hS.CU 0 rfl (by show 0+6<=6;omega) ?_;refine az.mono (K7 hS.wf q A) ?_;rintro v H2 ⟨rfl,hx⟩;have hS:=hS.call hx;refine hS.mkS (aj _) aa λH3 di hS=>?_;rw[pN]at hS;refine aF ?_;refine hS.ld 1 (o:=0) rfl rfl ?_;refine aF ?_;refine hS.mkS (aj _) aa λH4 dc hS=>?_;rw[pN]at hS;refine hS.ld 2 (o:=4) rfl rfl ?_;refine aF ?_;have hS:SH [] H H4 ((dc,164,List.replicate A.nr<|.slice none 0 0)::(di,164,List.replicate A.ns<|.slice none 0 0)::(rg,26,q.cells A)::([]++[])):=hS;have ini:∀(ok:Ed->Prop) key n,Hf ok key A (Seen A 0 0) (A.pre 0) n (List.replicate n<|.slice none 0 0) []:=λok key n=>⟨List.replicate n [],(KD.nil n).wk (λs e h=>by rcases h with⟨h,_⟩|⟨_,j,h,_⟩<;>omega)<|aM _,by simp,by rw[oM];exact KN.Ye n⟩;refine lp7 7 8 10 32 37 38 39 (I:=λm x7 x8 dR x32 Az x38 x39 H'=>∃i J8 JG RI RC,x32=vn i/\i+m=A.ns/\Hf (At.T9 tok) GJ A (Seen A i 0) (A.pre i) A.ns J8 RI/\Hf okC Jt A (Seen A i 0) (A.pre i) A.nr JG RC/\SH [] H H' ((dc,164,JG)::(di,164,J8)::(rg,26,q.cells A)::(RI++RC))) ?_ A.ns ⟨0,_,_,[],[],rfl,aa,ini _ _ _,ini _ _ _,hS⟩;clear hS hx ini;rintro m x7 x8 dR x32 Az x38 x39 l7 H5 ⟨i,J8,JG,RI,RC,rfl,him,hI,hC,hS⟩;refine tl ?_;refine aF ?_;refine ah (λhc=>?_) λhc=>?_;rotate_left
 .obtain rfl:i=A.ns:=by omega
  have hpre:=At.Rk ho A.ns;have all:∀s e,e∈A.E s->Seen A A.ns 0 s e:=λs e he=>.inl ⟨ho.lt he,he⟩;have hS2:SH [] H H5 ((RI++RC)++[(dc,164,JG),(di,164,J8),(rg,26,q.cells A)]):=hS.perm<|au (l₁:=[_,_,_]);have b1:=hI.bk (L:=RC++[(dc,164,JG),(di,164,J8),(rg,26,q.cells A)]) aa (hS2.cast<|by simp) (hS.get 1 rfl) (hS.lo _<|aA (i:=1) rfl).2;have b2:=hC.bk (L:=[(dc,164,JG),(di,164,J8),(rg,26,q.cells A)]) aa (SH.drop (A:=RI)<|hS2.cast<|by simp) (hS.get 0 rfl) (hS.lo _<|aA (i:=0) rfl).2
  have c1:BkM (ag0 A tok) H5 A.ns (some ⟨di,0,none⟩):=by
   obtain⟨vs,g1,g2⟩:=b1;refine⟨vs,g1,λt ht=>?_⟩;obtain⟨b,c,l,g3,g4,⟨g5,g6⟩,g7⟩:=g2 t ht;exact⟨b,c,l,g3,g4,⟨g5,λs e he hk hkey=>g6 s e (all s e he) hk hkey⟩,g7⟩
  have c2:BkM (ag1 A) H5 A.nr (some ⟨dc,0,none⟩):=by
   obtain⟨vs,g1,g2⟩:=b2;refine⟨vs,g1,λt ht=>?_⟩;obtain⟨b,c,l,g3,g4,⟨g5,g6⟩,g7⟩:=g2 t ht;exact⟨b,c,l,g3,g4,⟨λp hp=>⟨(g5 p hp).1,(g5 p hp).2.2,(g5 p hp).2.1⟩,λs e he hk hkey=>g6 s e (all s e he) hk hkey⟩,g7⟩
  have hx:=hS.ext;refine dJ.mono (abM hS.wf (h.ex hx) ho (hS.get 2 rfl) (hS.lo _<|aA (i:=2) rfl).2 c1 c2)<|RS ?_;rintro v H6 ⟨⟨mk,g1,g2⟩,g3⟩;exact⟨⟨mk,g1.le hx.next,g2⟩,hx.trans g3⟩
 have hi:i<A.ns:=by omega
 refine h.ldE hS.ext hi λp ea ec hE=>?_;refine aF ?_;have hpre:=At.O8 ho hi;have hpl:=At.Rk ho<|i+1;refine lp2 10 39 (I:=λm dR x39 H'=>∃k J8 JG RI RC,x39=vn k/\k+m=(A.E i).length/\Hf (At.T9 tok) GJ A (Seen A i k) (A.pre i+k) A.ns J8 RI/\Hf okC Jt A (Seen A i k) (A.pre i+k) A.nr JG RC/\SH [] H H' ((dc,164,JG)::(di,164,J8)::(rg,26,q.cells A)::(RI++RC))) ?_ (A.E i).length ⟨0,J8,JG,RI,RC,rfl,aa,hI,hC,hS⟩;clear hS hI hC hc;rintro m' y10 y39 RE H6 ⟨k,J8,JG,RI,RC,rfl,hkm,hI,hC,hS⟩;refine tl ?_;refine aF ?_;refine ah (λhc=>?_) λhc=>?_;rotate_left
 .obtain rfl:k=(A.E i).length:=by omega
  refine tl ?_;refine bE ?_;exact⟨A.ns-(i+1),aa,_,_,_,_,_,_,_,_,_,rfl,i+1,J8,JG,RI,RC,uN,aa,hI.wk (λs e h=>h.all) aa,hC.wk (λs e h=>h.all) aa,hS⟩
 have hk:k<(A.E i).length:=by omega
 refine agY (hE.ex hS.ext) hk λp=>?_;have hmem:=bF hk;have agN:=ho.len i;have hke:(A.E i)[k]?=some (A.E i)[k]:=ae hk;generalize hee:(A.E i)[k]=e at hke hmem|-;refine hS.ns rfl rfl rfl λH8 re hS KY=>?_;have hS:SH [] H H8 ((re,47,[vn e.1,vn e.2.1,vn e.2.2])::(dc,164,JG)::(di,164,J8)::(rg,26,q.cells A)::(RI++RC)):=hS
 have cm:At.T9 tok e->∀l7(K:Out->Prop),(∀Ju Jv RU VE xD H',Hf (At.T9 tok) GJ A (Seen A i<|k+1) (A.pre i+(k+1)) A.ns Ju RU->Hf okC Jt A (Seen A i<|k+1) (A.pre i+(k+1)) A.nr Jv VE->SH [] H H' ((dc,164,Jv)::(di,164,Ju)::(rg,26,q.cells A)::(RU++VE))->
  K (.norm<|jc (q.v A) (.bool tok) (pt rg) (.slice none 0 0) (.slice (some ⟨di,0,none⟩) A.ns A.ns) (.slice (some ⟨dc,0,none⟩) A.nr A.nr) (vn i) (.slice ea (A.E i).length ec) (pt re) top top top top top top top top (.slice q.ea A.ns q.ec) (vn A.ns) (vn i) (.slice ea (A.E i).length ec) (vn (A.E i).length) (vn k) top top top top top top top top top xD H'))->
  dJ Pg X (sub lQ [1,1,1,0,1,0,0,1,1,0,0,1,1,0,0,1,1,0,0,1,1]) (jc (q.v A) (.bool tok) (pt rg) (.slice none 0 0) (.slice (some ⟨di,0,none⟩) A.ns A.ns) (.slice (some ⟨dc,0,none⟩) A.nr A.nr) (vn i) (.slice ea (A.E i).length ec) (pt re) top top top top top top top top (.slice q.ea A.ns q.ec) (vn A.ns) (vn i) (.slice ea (A.E i).length ec) (vn (A.E i).length) (vn k) top top top top top top top top top l7 H8) K:=by
  intro hok l7 K kk;refine abO aa ho hmem hok hI hC hS λJu Jv RU VE xD H' g1 g2 g3=>?_;exact kk Ju Jv RU VE xD H' (g1.wk (λs e h=>h.next hke)<|aj _) (g2.wk (λs e h=>h.next hke)<|aj _)<|SH.drop (A:=[_]) g3
 repeat(first|(refine hS.aY ?_)|(refine hS.dQ ?_))
 refine ah (λhc1=>?_) λhc1=>?_
 .refine bO (λhb=>?_) (λhb=>?_)
  .have hno:¬At.T9 tok e:=λh=>by
    have:=h aa;subst this;cases hb
   refine bE ?_;exact⟨(A.E i).length-(k+1),aa,_,_,_,_,rfl,k+1,J8,JG,RI,RC,uN,aa,(hI.skip hno).wk (λs e h=>h.next hke)<|aj _,(hC.skip λh:e.1=2=>by omega).wk (λs e h=>h.next hke)<|aj _,SH.drop (A:=[_]) hS⟩
  .refine cm (λ_=>by cases tok<;>simp_all) _ _ λJu Jv RU VE xD H' g1 g2 g3=>?_;refine aF ?_;refine tl ?_;refine bE ?_;exact⟨(A.E i).length-(k+1),aa,_,_,_,_,rfl,k+1,Ju,Jv,RU,VE,uN,aa,g1,g2,g3⟩
 .refine cm (λh=>absurd aa hc1) _ _ λJu Jv RU VE xD H' g1 g2 g3=>?_;refine aF ?_;refine tl ?_;refine bE ?_;exact⟨(A.E i).length-(k+1),aa,_,_,_,_,rfl,k+1,Ju,Jv,RU,VE,uN,aa,g1,g2,g3⟩
end
section
variable{S:List Nat}{F:Nat->Prop}{n:Nat}{P:Nat->Prop}{nx:List Nat}
theorem BO.n'(h:BO F H A q):BO F (hN H) A q:=⟨h.n,h.s,h.p,h.o,h.e⟩
theorem Bs.at{k:Nat}{a:Option Addr}{K:Value->Value->ag->Prop}(h:Bs b H n (.slice a n c) mk)(hk:k<n)(kk:∀p t,(t=true<->on mk k)->K p (.bool t) H):PU (zH 1 (.slice a n c)<|vn k) λp=>ME (rQ none p H) (K p):=by
 obtain⟨a',c',e,hl,hf⟩:=h;cases e;obtain⟨t,ht⟩:∃t,mk[k]?=some t:=⟨_,ae aa⟩;refine hf.ix hk (oz _ ht) λp=>kk p t ?_;unfold on;rw[ht];simp
theorem Gi(hw:Wf H)(h:BO F H A q)(ho:A.Ok)(hm:Bs b H A.ns v mk):az Pg X 37 [q.v A,v] H (Qe (λv H'=>∃l,Bs H.next H' A.nr v l/\∀r,r<A.nr->(on l r<->on mk (A.S r))) H):=by
 have hS:=SH.refl hw;have ZM:=ho.few;obtain⟨ma,mc,rfl,_⟩:=id hm;refine ce [0,1,2,4,5,6,7,13,14,15] ?_;refine tl ?_;refine hS.box rfl λH1 rg hS=>?_;rw[wD]at hS;refine aF ?_;refine hS.ld 0 (o:=0) rfl rfl ?_;refine aF ?_;refine hS.mkS (aj _) aa λH2 rl hS=>?_;rw[pN]at hS;refine hS.ld 1 (o:=1) rfl rfl ?_;refine aF ?_;have hS:SH [] H H2 [(rl,4,bools<|List.replicate A.nr false),(rg,26,q.cells A)]:=hS.to (by simp);refine Vg 6 7 15 (I:=λm x6 x7 iL H'=>∃i l,iL=vn i/\i+m=A.nr/\l.length=A.nr/\SH [] H H' [(rl,4,bools l),(rg,26,q.cells A)]/\∀r,r<i->(on l r<->on mk (A.S r))) ?_ A.nr ⟨0,_,rfl,aa,by simp,hS,λr hr=>absurd hr aa⟩;clear hS;rintro m x6 x7 iL l7 H3 ⟨i,l,rfl,him,hl,hS,hb⟩;refine tl ?_;refine aF ?_;refine ah (λhc=>?_) λhc=>?_;rotate_left
 .refine tl ?_;obtain rfl:i=A.nr:=by omega
  refine rr ?_;exact⟨⟨l,⟨_,_,rfl,hl,jT.one hS (aD ..) (by simpa using hl)<|hS.zN<|aD ..⟩,hb⟩,hS.ext⟩
 have hi:i<A.nr:=by omega
 refine(h.ex hS.ext).ldS ho hi λp=>?_;refine(hm.ex hS.ext).at (ho.s i hi).1 λp t ht=>?_;refine hS.ixS hi (by simpa using(by omega:i<l.length)) (kk:=λp H4 hS=>?_);refine bE ?_;refine⟨A.nr-(i+1),aa,_,_,_,_,_,rfl,i+1,l.set i t,uN,aa,by rw[bJ];exact hl,?_,λr hr=>?_⟩
 .have:bools (l.set i t)=(bools l).set i (.bool t):=jH;rw[this];exact hS
 .unfold on;rw[bV]
  by_cases e:i=r
  .subst e;rw[if_pos rfl,if_pos aa];unfold on at ht;rw[<-ht];simp
  .rw[if_neg e];exact hb r aa
theorem RV(hw:Wf H)(h:BO F H A q)(ho:A.Ok):az Pg X 12 [q.v A] H (Qe (λv H'=>∃l,Bs H.next H' A.nr v l/\∀r,r<A.nr->(on l r<->A.Mk false (A.S r))) H):=by
 have hS:=SH.refl hw;refine ce [0,1,2] ?_;refine tl ?_;refine hS.box rfl λH1 rg hS=>?_;rw[wD]at hS;refine hS.CU 0 rfl (by show 0+6<=6;omega) ?_;refine az.mono (Jq hS.wf (h.ex hS.ext) ho) ?_;rintro v H2 ⟨rfl,hx⟩;have hS:=hS.call hx;refine aF ?_;refine bO (λhb=>by cases hb) λ_=>?_;refine hS.X4 0 rfl (by show 0+6<=6;omega) ?_
 try simp only[eF hS.wf]
 refine hS.X4 0 rfl (by show 0+6<=6;omega) ?_
 try simp only[eF hS.wf]
 refine az.mono (Jw (qH H2) (h.ex hS.ext).n' ho false) ?_;rintro v H3 ⟨⟨mk,hm,hk⟩,hx3⟩;have tu:=hS.oV hx3;have hm':Bs H2.next (hN<|hM H2 H3) A.ns v mk:=hm
 refine az.mono (Gi (qH<|hM H2 H3) (h.ex tu.ext).n' ho hm') ?_;rintro w H4 ⟨⟨l,hl,hlr⟩,hx4⟩;have vY:=tu.oV hx4;refine lN (by simp only[cB,dL hx3,dL hx4];rfl) ?_;have hge:H.next<=(hM H2 H3).next:=tu.ext.next
 have hl':Bs (hM H2 H3).next (hM (hM H2 H3) H4) A.nr w l:=hl
 refine rr ?_;exact⟨⟨l,hl'.le hge,λr hr=>(hlr r hr).trans<|hk _⟩,vY.ext⟩
theorem VF(hw:Wf H)(h:BO F H A q)(ho:A.Ok):az Pg X 13 [q.v A] H (Qe (λv H'=>∃l,Bs H.next H' A.nr v l/\∀r,r<A.nr->(on l r<->A.Mk true (A.S r))) H):=by
 have hS:=SH.refl hw;refine ce [0,1,2] ?_;refine tl ?_;refine hS.box rfl λH1 rg hS=>?_;rw[wD]at hS;refine hS.CU 0 rfl (by show 0+6<=6;omega) ?_;refine az.mono (Jq hS.wf (h.ex hS.ext) ho) ?_;rintro v H2 ⟨rfl,hx⟩;have hS:=hS.call hx;refine aF ?_;refine bO (λhb=>by cases hb) λ_=>?_;refine hS.X4 0 rfl (by show 0+6<=6;omega) ?_
 try simp only[eF hS.wf]
 refine hS.X4 0 rfl (by show 0+6<=6;omega) ?_
 try simp only[eF hS.wf]
 refine az.mono (Jw (qH H2) (h.ex hS.ext).n' ho true) ?_;rintro v H3 ⟨⟨mk,hm,hk⟩,hx3⟩;have tu:=hS.oV hx3;have hm':Bs H2.next (hN<|hM H2 H3) A.ns v mk:=hm
 refine az.mono (Gi (qH<|hM H2 H3) (h.ex tu.ext).n' ho hm') ?_;rintro w H4 ⟨⟨l,hl,hlr⟩,hx4⟩;have vY:=tu.oV hx4;refine lN (by simp only[cB,dL hx3,dL hx4];rfl) ?_;have hge:H.next<=(hM H2 H3).next:=tu.ext.next
 have hl':Bs (hM H2 H3).next (hM (hM H2 H3) H4) A.nr w l:=hl
 refine rr ?_;exact⟨⟨l,hl'.le hge,λr hr=>(hlr r hr).trans<|hk _⟩,vY.ext⟩
end
section
variable{S:List Nat}{F:Nat->Prop}{n:Nat}{P:Nat->Prop}{nx:List Nat}
end
end Go.Proofs.Lv
namespace Go.Proofs.Lu
open Go.Ae
namespace At
variable{e:Ed}{a b s:Nat}{A2:At}
variable{A A':At}{lw k k2 c c2:Nat}
def fr(A:At):At:={A with ow:=A.ow++[A.nr-1],eg:=A.eg++[[]]}
def pu(A:At)(s:Nat)(e:Ed):At:={A with eg:=A.eg.set s (A.E s++[e])}
def tot(A:At):Nat:=(A.eg.map List.length).sum
def EdL(lw ty:Nat)(e:Ed):Prop:=e.1=0\/(e.1=1/\e.2.1<ty)\/(e.1=2/\e.2.1<lw)
structure Bu(lw:Nat)(A:At):Prop where
 BJ:A.eg.length=A.ns
 o:∀s,s<A.ns->A.O s<A.nr
 e:∀s,s<A.ns->∀e∈A.E s,e.2.2<A.ns/\A.O e.2.2=A.O s/\EdL lw A.ty e
structure Gw(A A':At)(k c:Nat):Prop where
 nm:A'.nm=A.nm
 st:A'.st=A.st
 sp:A'.sp=A.sp
 ty:A'.ty=A.ty
 ow:A'.ow=A.ow++List.replicate k (A.nr-1)
 tt:A'.tot=A.tot+c
theorem Gw.refl(A:At):Gw A A 0 0:=⟨rfl,rfl,rfl,rfl,by simp,rfl⟩
theorem Gw.nr(h:Gw A A' k c):A'.nr=A.nr:=bW List.length h.nm
theorem Gw.ns(h:Gw A A' k c):A'.ns=A.ns+k:=by
 unfold At.ns;rw[h.ow];simp
theorem Gw.trans(h:Gw A A' k c)(h2:Gw A' A2 k2 c2):Gw A A2 (k+k2) (c+c2):=
 ⟨h2.nm.trans h.nm,h2.st.trans h.st,h2.sp.trans h.sp,h2.ty.trans h.ty,by rw[h2.ow,h.ow,h.nr,bg,List.replicate_append_replicate],by rw[h2.tt,h.tt,Nat.add_assoc]⟩
theorem Gw.cast(h:Gw A A' k c)(hk:k=k2)(hc:c=c2):Gw A A' k2 c2:=by subst hk;subst hc;exact h
theorem Gw.O(h:Gw A A' k c)(hs:s<A.ns):A'.O s=A.O s:=by
 unfold At.O;rw[h.ow,aP hs]
def cur(A:At)(s:Nat):Prop:=s<A.ns/\A.O s=A.nr-1
theorem cur.gw(h:A.cur s)(g:Gw A A' k c):A'.cur s:=⟨by rw[g.ns];have:=h.1;omega,by rw[g.O h.1,g.nr];exact h.2⟩
theorem Gw.fr(A:At):Gw A A.fr 1 0:=⟨rfl,rfl,rfl,rfl,rfl,by unfold At.tot At.fr;simp⟩
theorem ZQ(A:At):A.fr.cur A.ns:=by
 refine⟨by rw[(Gw.fr A).ns];omega,?_⟩;show(A.ow++[A.nr-1])[A.ow.length]?.getD 0=_;rw[bf (aj _),dY];rfl
theorem ag3(hl:A.eg.length=A.ns)(s:Nat):A.fr.E s=A.E s:=by
 show(A.eg++[[]])[s]?.getD []=_;unfold E;rcases aN s A.eg.length with h|h
 .rw[aP h]
 .rw[bf h,dS (by omega:A.eg.length<=s)];cases s-A.eg.length<;>rfl
theorem Bu.fr(h:Bu lw A)(hp:1<=A.nr):Bu lw A.fr:=by
 have g:=Gw.fr A;have hns:=g.ns;refine⟨?_,λs hs=>?_,λs hs e he=>?_⟩
 .show(A.eg++[[]]).length=_;rw[ay,hns,h.BJ];rfl
 .rcases aN s A.ns with h1|h1
  .rw[g.O h1,g.nr];exact h.o s h1
  .obtain rfl:s=A.ns:=by omega
   rw[(ZQ A).2,g.nr];omega
 .rw[ag3 h.BJ]at he;rcases aN s A.ns with h1|h1
  .obtain⟨a,b,c⟩:=h.e s h1 e he;exact⟨aa,by rw[g.O a,g.O h1];exact b,c⟩
  .rw[O7 h.BJ aa]at he;cases he
theorem abP{l:List (List Ed)}{x:List Ed}(hs:s<l.length)(hx:x=l[s]++[e]):((l.set s x).map List.length).sum=(l.map List.length).sum+1:=by
 induction l generalizing s with
 |nil=>simp at hs
 |cons y l ih=>
  cases s with
  |zero=>
   subst hx;simp;omega
  |succ s=>
   have:=ih (s:=s) (by simpa using hs) (by simpa using hx);simp only[ik,jR,tZ,this];omega
theorem Gw.pu(hl:A.eg.length=A.ns)(hs:s<A.ns)(e:Ed):Gw A (A.pu s e) 0 1:=
 ⟨rfl,rfl,rfl,rfl,by simp[At.pu],by
  have hs':s<A.eg.length:=by omega
  refine abP (e:=e) hs' ?_;unfold E;rw[ae hs'];rfl⟩
theorem aeL(hl:A.eg.length=A.ns)(hs:s<A.ns)(t:Nat):(A.pu s e).E t=if t=s then A.E s++[e]else A.E t:=by
 show(A.eg.set s<|A.E s++[e])[t]?.getD []=_;rw[bV]
 by_cases h:s=t
 .subst h;rw[if_pos rfl,if_pos aa,if_pos rfl];rfl
 .rw[if_neg h,if_neg λe=>h e.symm];rfl
theorem Bu.pu(h:Bu lw A)(hs:s<A.ns)(h1:e.2.2<A.ns)(h2:A.O e.2.2=A.O s)(h3:EdL lw A.ty e):Bu lw (A.pu s e):=by
 refine⟨?_,h.o,λt ht e' he=>?_⟩
 .show(A.eg.set s _).length=_;rw[bJ];exact h.BJ
 .rw[aeL h.BJ hs]at he;split at he
  .next ht2=>
   subst ht2;rcases bX.1 he with he|he
   .exact h.e t hs e' he
   .rw[aO]at he;subst he;exact⟨h1,h2,h3⟩
  .exact h.e t ht e' he
theorem Bu.puC(h:Bu lw A)(hs:A.cur s)(h1:A.cur e.2.2)(h3:EdL lw A.ty e):Bu lw (A.pu s e):=h.pu hs.1 h1.1 (h1.2.trans hs.2.symm) h3
def ru(A:At)(nm:ByteArray):At:={A with nm:=A.nm++[nm]}
def se(A:At)(a b:Nat):At:={A with st:=A.st++[a],sp:=A.sp++[b]}
structure Bs'(lw:Nat)(A:At):Prop where
 bu:Bu lw A
 V_:A.st.length=A.nr
 Zl:A.sp.length=A.nr
 s:∀r,r<A.nr->A.S r<A.ns/\A.O (A.S r)=r
 p:∀r,r<A.nr->A.P r<A.ns/\A.O (A.P r)=r
theorem Bu.ru(h:Bu lw A)(nm:ByteArray):Bu lw (A.ru nm):=
 ⟨h.BJ,λs hs=>by
   have:=h.o s hs;show A.O s<(A.nm++[nm]).length;rw[ay];exact Nat.lt_succ_of_lt this,h.e⟩
theorem Bs'.next(h:Bs' lw A){nm:ByteArray}{A1:At}(g:Gw (A.ru nm) A1 k c)(ha:A1.cur a)(hb:A1.cur b)(g2:Gw (A1.se a b) A2 k2 c2)(hB:Bu lw A2):Bs' lw A2:=by
 have e1:A2.nr=A.nr+1:=by rw[g2.nr];show A1.nr=_;rw[g.nr];show(A.nm++[nm]).length=_;rw[ay];rfl
 have e2:A2.st=A.st++[a]:=by rw[g2.st];show A1.st++[a]=_;rw[g.st];rfl
 have e3:A2.sp=A.sp++[b]:=by rw[g2.sp];show A1.sp++[b]=_;rw[g.sp];rfl
 have n1:A1.ns=A.ns+k:=g.ns;have n2:A2.ns=A1.ns+k2:=g2.ns;have nr1:A1.nr=A.nr+1:=by rw[g.nr];show(A.nm++[nm]).length=_;rw[ay];rfl
 have oo:∀t,t<A.ns->A2.O t=A.O t:=λt ht=>by
  rw[g2.O (show t<A1.ns by omega)];exact g.O ht
 have oc:∀t,A1.cur t->A2.O t=A.nr:=λt ht=>by
  rw[g2.O ht.1];show A1.O t=_;rw[ht.2,nr1];omega
 refine⟨hB,by rw[e2,ay,h.V_,e1];rfl,by rw[e3,ay,h.Zl,e1];rfl,λr hr=>?_,λr hr=>?_⟩
 .unfold S;rw[e2];rcases aN r A.nr with h1|h1
  .rw[aP (by rw[h.V_];exact h1)];have:=h.s r h1;exact⟨aH this.1 aa,(oo _ this.1).trans this.2⟩
  .obtain rfl:r=A.nr:=by omega
   rw[bf (by rw[h.V_];exact aj _),h.V_,dY];exact⟨by show a<_;have:=ha.1;omega,oc a ha⟩
 .unfold P;rw[e3];rcases aN r A.nr with h1|h1
  .rw[aP (by rw[h.Zl];exact h1)];have:=h.p r h1;exact⟨aH this.1 aa,(oo _ this.1).trans this.2⟩
  .obtain rfl:r=A.nr:=by omega
   rw[bf (by rw[h.Zl];exact aj _),h.Zl,dY];exact⟨by show b<_;have:=hb.1;omega,oc b hb⟩
theorem Bs'.ok(h:Bs' lw A)(hl:A.nr=lw)(hp:1<=A.nr)(hf:A.nr<=1000)(hb:A.ns<=4000)(ht:A.tot<=100000):A.Ok where
 pos:=hp
 V_:=h.V_
 Zl:=h.Zl
 BJ:=h.bu.BJ
 big:=hb
 few:=hf
 s:=h.s
 p:=h.p
 o:=h.bu.o
 e:=λs hs e he=>by
  obtain⟨a,b,c⟩:=h.bu.e s hs e he;refine⟨a,b,?_⟩;unfold EdL at c;unfold agD;rw[hl];exact c
 tot:=ht
end At
variable{F' K:Nat->Prop}{l7:List (Nat×Value)}{cs eG rcs:List Value}{L L' M M' M1 gb:List cz}{Q:Value->ag->Prop}{A A' A1:At}{zs:Nat->List Nat}{nm s t:ByteArray}{H H' H0 H1 H3:ag}{ty:TypeId}{kd:Nat->Int}{b c c1 es g i j k kc nc nn o p r ra rb rc tn vc x xc xn z:Nat}{a ka na va xa:Option Addr}{Az F6 Ml gK gq iL jU qV sv v vv x20 x24 x25 x32 x38 x64 x65 x66 xK yj:Value}{T:Nat->ByteArray}{e:Ed}{l:List Nat}
section
open Go.Ae Go.Ae.M Go.Proofs.Lv
variable{S:List Nat}{F:Nat->Prop}
def Bd(ra:Nat)(A:At)(M:List cz):Prop:=∃nv sv pv ov ev evs gn gs gp go ge R,M=(ra,26,[nv,sv,pv,ov,ev,vn A.ty])::(gn++(gs++(gp++(go++(ge++R)))))/\GB 9 1 nv (A.nm.map .string) gn/\GB 3 1 sv (fG A.st) gs/\GB 3 1 pv (fG A.sp) gp/\GB 3 1 ov (fG A.ow) go/\GB 45 1 ev evs ge/\KN 47 3 (A.eg.map He) evs R
theorem _root_.Go.Ae.GB.Qj(h:GB ty 1 v cs gb):∃a c,v=.slice a cs.length c:=by
 rcases h with⟨rfl,rfl,_⟩|⟨r,n,dH,rfl,hn,_⟩
 .exact⟨none,0,rfl⟩
 .obtain rfl:n=cs.length:=by omega
  exact⟨_,_,rfl⟩
theorem RX(hB:Bd ra A M)(hS:SH S H0 H<|M++L)(hp:1<=A.nr)(hn:A.nr<=1000)(hs:A.ns<=100000)(hl:A.eg.length=A.ns):az Pg X 118 [pr ra] H λv H'=>v=vn A.ns/\∃M',Bd ra A.fr M'/\SH S H0 H' (M'++L):=by
 obtain⟨nv,sv,pv,ov,ev,evs,gn,gs,gp,go,ge,R,rfl,hgn,hgs,Vu,hgo,hge,hR⟩:=hB;have hS:=hS.cast (L':=(ra,26,[nv,sv,pv,ov,ev,vn A.ty])::(gn++(gs++(gp++(go++(ge++(R++L))))))) (by simp);have hev:evs.length=A.ns:=by rw[<-hR.len,aC,hl]
 refine ce [0,1] ?_;refine tl ?_;refine aF ?_;refine hS.ld 0 (o:=3) rfl rfl ?_;refine hS.ld 0 (o:=0) rfl rfl ?_;obtain⟨na,nc,rfl⟩:=hgn.Qj;refine aF ?_;rw[aC];refine PU.of (nM (by have:A.nr=A.nm.length:=rfl;omega) (by have:A.nr=A.nm.length:=rfl;omega)) ?_;rw[show((A.nm.length:Int)-1)=((A.nr-1:Nat):Int) by have:A.nr=A.nm.length:=rfl;omega]
 have hS:=hS.perm (L':=go++((ra,26,[.slice na (A.nm.map Value.string).length nc,sv,pv,ov,ev,vn A.ty])::(gn++(gs++(gp++(ge++(R++L))))))) (by
  have:=mI ((ra,26,[.slice na (A.nm.map Value.string).length nc,sv,pv,ov,ev,vn A.ty])::(gn++(gs++gp))) go<|ge++(R++L);simpa using this)
 refine hgo.push hS aa rfl rfl rfl rfl rfl aa (by simpa using(by unfold At.ns at hs;omega:A.ow.length<=16777216)) λw v1 H1 go' hgo' hS=>?_;have hS:=hS.perm (L':=(ra,26,[.slice na (A.nm.map Value.string).length nc,sv,pv,ov,ev,vn A.ty])::(go'++(gn++(gs++(gp++(ge++(R++L))))))) jE;obtain⟨oa,oc,rfl⟩:=hgo'.Qj;refine hS.st 0 rfl rfl (by show 3+1<=6;omega) rfl λH2 hS=>?_;have hS:=hS.to (cs':=[.slice na (A.nm.map Value.string).length nc,sv,pv,.slice oa (fG A.ow++aX (vn<|A.nr-1)).length oc,ev,vn A.ty]) rfl;refine hS.ld 0 (o:=4) rfl rfl ?_
 have hS:=hS.perm (L':=ge++((ra,26,[.slice na (A.nm.map Value.string).length nc,sv,pv,.slice oa (fG A.ow++aX (vn<|A.nr-1)).length oc,ev,vn A.ty])::(go'++(gn++(gs++(gp++(R++L))))))) (by
  have:=mI ((ra,26,[.slice na (A.nm.map Value.string).length nc,sv,pv,.slice oa (fG A.ow++aX (vn<|A.nr-1)).length oc,ev,vn A.ty])::(go'++(gn++(gs++gp)))) ge<|R++L;simpa using this)
 refine hge.push hS aa rfl rfl rfl rfl rfl aa aa λw v2 H3 ge' hge' hS=>?_;have hS:=hS.perm (L':=(ra,26,[.slice na (A.nm.map Value.string).length nc,sv,pv,.slice oa (fG A.ow++aX (vn<|A.nr-1)).length oc,ev,vn A.ty])::(ge'++(go'++(gn++(gs++(gp++(R++L))))))) jE;obtain⟨ea,ec,rfl⟩:=hge'.Qj;refine hS.st 0 rfl rfl (by show 4+1<=6;omega) rfl λH4 hS=>?_;have hS:=hS.to (cs':=[.slice na (A.nm.map Value.string).length nc,sv,pv,.slice oa (fG A.ow++aX (vn<|A.nr-1)).length oc,.slice ea (evs++aX (.slice none 0 0)).length ec,vn A.ty]) rfl;refine hS.ld 0 (o:=3) rfl rfl ?_;refine aF ?_;have ol:(fG A.ow++aX (vn<|A.nr-1)).length=A.ns+1:=by rw[ay,aC];rfl
 rw[ol]at hS|-;refine dD ?_;rw[show(((A.ns+1:Nat):Int)-1)=(A.ns:Int) by omega];refine rr ?_;refine⟨rfl,(ra,26,[.slice na (A.nm.map Value.string).length nc,sv,pv,.slice oa (A.ns+1) oc,.slice ea (evs++aX (.slice none 0 0)).length ec,vn A.ty])::(gn++(gs++(gp++(go'++(ge'++R))))),⟨_,_,_,_,_,evs++[.slice none 0 0],gn,gs,gp,go',ge',R,rfl,hgn,hgs,Vu,?_,hge',?_⟩,?_⟩
 .have:fG (A.fr).ow=fG A.ow++aX (vn<|A.nr-1):=by show fG (A.ow++[A.nr-1])=_;simp;rfl
  rw[this,<-ol];exact hgo'
 .have:(A.fr).eg.map He=A.eg.map He++[[]]:=by show(A.eg++[[]]).map He=_;simp;rfl
  rw[this];have:=hR.snoc<|GB.nil 47 3
  rwa [aQ]at this
 .refine hS.perm ?_;have p1:=mI ge' go'<|(gn++(gs++gp))++(R++L);have p2:=mI (go'++ge') (gn++(gs++gp))<|R++L;simp only[bg]at p1 p2;have p3:=p1.trans p2;simp only[a_,bg];rw[ol]at*;exact p3.cons _
end
section
open Go.Ae Go.Ae.M Go.Proofs.Lv
variable{S:List Nat}{F:Nat->Prop}
theorem R4:∀{l:List Nat}{x:Nat},x∈l->x<=l.sum
 |y::l,x,h=>by
  rw[tZ];rcases bP.1 h with rfl|h
  .omega
  .have:=R4 h;omega
theorem VG{fr:Nat}(hB:Bd ra A M)(hS:SH S H0 H<|M++L)(hf:fr<A.ns)(hl:A.eg.length=A.ns)(ht:A.tot<=1000000):az Pg X 119 [vn fr,.agg ⟨[vn e.1,vn e.2.1,vn e.2.2]⟩,pr ra] H λv H'=>∃M',Bd ra (A.pu fr e) M'/\SH S H0 H' (M'++L):=by
 obtain⟨nv,sv,pv,ov,ev,evs,gn,gs,gp,go,ge,R,rfl,hgn,hgs,Vu,hgo,hge,hR⟩:=hB;have hev:evs.length=A.ns:=by rw[<-hR.len,aC,hl]
 rcases hge with⟨_,h0,_⟩|⟨rE,n,dH,rfl,hn,rfl⟩
 .rw[h0]at hev;simp at hev;omega
 obtain rfl:n=A.ns:=by omega
 obtain⟨A',gb,B,rfl,hgb,hput⟩:=hR.at fr aa
 have hE:(A.eg.map He)[fr]?.getD []=He (A.E fr):=by
  unfold At.E;rw[aR,ae (show fr<A.eg.length by omega)];rfl
 rw[hE]at hgb
 have hEl:(A.E fr).length<=1000000:=by
  have:(A.E fr).length<=A.tot:=by
   unfold At.E At.tot;rw[ae (show fr<A.eg.length by omega)];exact R4<|aZ.2 ⟨_,bF _,rfl⟩
  omega
 have hv0:(evs++dH)[fr]?=some evs[fr]:=by rw[aP aa];exact ae aa
 have hS:=hS.perm (L':=(ra,26,[nv,sv,pv,ov,.slice (some ⟨rE,0,none⟩) A.ns<|dV 1,vn A.ty])::(rE,45,evs++dH)::(gb++((gn++(gs++(gp++go)))++(A'++(B++L))))) (by
  have p1:=mI (gn++(gs++(gp++go))) [(rE,45,evs++dH)]<|A'++(gb++(B++L));have p2:=mI ((gn++(gs++(gp++go)))++A') gb<|B++L;simp only[bg,a_,bB]at p1 p2|-;exact(p1.trans<|p2.cons _).cons _)
 refine ce [0,1,2,4] ?_;refine tl ?_;refine hS.box rfl λH1 re hS=>?_;have hS:SH S H0 H1 ((re,47,[vn e.1,vn e.2.1,vn e.2.2])::(ra,26,[nv,sv,pv,ov,.slice (some ⟨rE,0,none⟩) A.ns<|dV 1,vn A.ty])::(rE,45,evs++dH)::(gb++((gn++(gs++(gp++go)))++(A'++(B++L))))):=hS
 repeat(first|(refine hS.aY ?_)|(refine hS.kI ?_))
 refine hS.ixQ hf hv0 ?_
 repeat(first|(refine hS.aY ?_)|(refine hS.nN ?_))
 refine hS.U8 rfl rfl rfl aa λH2 rx hS qP=>?_;have hS0:=hS;have hS:=(hS.to (cs':=[vn e.1,vn e.2.1,vn e.2.2]) rfl).perm (L':=(rx,47,[vn e.1,vn e.2.1,vn e.2.2])::(gb++([(re,47,[vn e.1,vn e.2.1,vn e.2.2]),(ra,26,[nv,sv,pv,ov,.slice (some ⟨rE,0,none⟩) A.ns<|dV 1,vn A.ty]),(rE,45,evs++dH)]++((gn++(gs++(gp++go)))++(A'++(B++L))))))<|(mI [_,_,_] gb _).cons _;refine hgb.Ou hS aa rfl rfl (by rw[MW];omega) λv' H3 gY hgb' hS _ _ uI=>?_;have hS:=hS.perm<|mI gY [_,_,_] _;simp only[a_,bB]at hS;have hS1:=hS;obtain⟨va,vl,vc,rfl⟩:=hgb'.sl;refine hS.aeK hf (by rw[ay];omega) (kk:=λH4 hS=>?_);have n1:re≠ra:=hS.nq 0 1 rfl rfl aa;have n2:re≠rE:=hS.nq 0 2 rfl rfl aa;have n3:ra≠rE:=hS.nq 1 2 rfl rfl aa;refine splitK (λK hK=>?_) ?_
 .have r1:∀{o n:Nat}{a b:ag},o+n<=3->ng ⟨2,0,0,0,hM H1 H2,H3⟩ ⟨4,re,o,n,a,b⟩=true:=λh=>xB (hS0.get 1 rfl) ((hS1.get 0 rfl).mR rfl) h (M0 ⟨_,_,_,rfl⟩)
  have r2:∀{a b:ag},ng ⟨2,0,0,0,hM H1 H2,H3⟩ ⟨4,ra,4,1,a,b⟩=true:=λ{a b}=>xB (hS0.get 2 rfl) ((hS1.get 1 rfl).mR rfl) (by show 4+1<=6;omega) (by
   intro v hv;have hv:v∈[Value.slice (some ⟨rE,0,none⟩) A.ns (dV 1)]:=hv;rw[aO]at hv;subst hv;exact qK _ _ _ λx h=>by cases h;rfl)
  have r3:∀{a b:ag},ng ⟨2,0,0,0,hM H1 H2,H3⟩ ⟨4,rE,fr,1,a,b⟩=true:=λ{a b}=>xB (hS0.get 3 rfl) ((hS1.get 2 rfl).mR rfl) (by rw[ay];omega) (by
   intro v hv
   have:v=evs[fr]:=by
    have h1:((evs++dH).drop fr).take 1=[evs[fr]]:=by
     rw[fA (by rw[ay];omega),nW,rW,jo aa]
    rw[h1,aO]at hv;exact hv
   subst this;exact Js hR _<|bF _)
  simp only[qP,cB,dn];rcases uI with e|e<;>rw[e]<;>apply abt (A:=hM H1 H2) (B:=H3) (a:=re) (b:=ra) (c:=rE) n1 n2 n3 (by rfl) (by kernel_rfl) (by kernel_rfl) hK<;>repeat' apply And.intro
  all_goals first|exact trivial|(intro h;cases h;done)|exactλ_=>⟨rfl,rfl⟩|exactλ_=>r1 aa|exactλ_=>r2|exactλ_=>r3
 refine rn ?_;refine⟨(ra,26,[nv,sv,pv,ov,.slice (some ⟨rE,0,none⟩) A.ns<|dV 1,vn A.ty])::(gn++(gs++(gp++(go++([(rE,45,evs.set fr (.slice va vl vc)++dH)]++(A'++(gY++B))))))),⟨nv,sv,pv,ov,_,evs.set fr<|.slice va vl vc,gn,gs,gp,go,_,A'++(gY++B),rfl,hgn,hgs,Vu,hgo,.inr ⟨rE,A.ns,dH,rfl,by rw[bJ];omega,rfl⟩,?_⟩,?_⟩
 .have:=hput (.slice va vl vc) (He<|A.E fr++[e]) gY (by rw[T_];exact hgb');have e2:(A.pu fr e).eg.map He=(A.eg.map He).set fr (He<|A.E fr++[e]):=jH;rw[e2];exact this
 .have hS:=SH.drop (A:=[_]) hS;rw[List.set_append_left _ _ aa]at hS;refine hS.perm<|List.Perm.symm ?_;have p1:=mI (gn++(gs++(gp++go))) [(rE,45,evs.set fr (.slice va vl vc)++dH)]<|A'++(gY++(B++L));have p2:=mI ((gn++(gs++(gp++go)))++A') gY<|B++L;simp only[bg,a_,bB]at p1 p2|-;exact(p1.trans<|p2.cons _).cons _
theorem VH(hB:Bd ra A M)(hS:SH S H0 H<|M++L)(hp:1<=A.nr)(hn:A.nr<=1000)(hs:A.ns<=100000)(hl:A.eg.length=A.ns):az Pg X 118 [pr ra] H λv H'=>v=vn A.ns/\∃M',Bd ra A.fr M'/\SH (M.map (·.1)) H H' M':=by
 refine az.mono (RX (L:=[]) hB ((SH.own hS).cast (aQ M).symm) hp hn hs hl) ?_;rintro v H' ⟨rfl,M',h1,h2⟩;rw[aQ]at h2;exact⟨rfl,M',h1,h2⟩
theorem M_{fr:Nat}(hB:Bd ra A M)(hS:SH S H0 H<|M++L)(hf:fr<A.ns)(hl:A.eg.length=A.ns)(ht:A.tot<=1000000):az Pg X 119 [vn fr,.agg ⟨[vn e.1,vn e.2.1,vn e.2.2]⟩,pr ra] H λv H'=>∃M',Bd ra (A.pu fr e) M'/\SH (M.map (·.1)) H H' M':=by
 refine az.mono (VG (L:=[]) hB ((SH.own hS).cast (aQ M).symm) hf hl ht) ?_;rintro v H' ⟨M',h1,h2⟩;rw[aQ]at h2;exact⟨M',h1,h2⟩
end
namespace Gm
variable{a e i s:Nat}
variable{A B C A1 A2 A3 A4 A5 A6 A7 A8:At}{f t m k z b c d:Nat}{P Q:(Nat->List Ed)->Prop}{g:Gm}
structure Fr(A B:At):Prop where
 n:B.ns=A.ns+1
 e:∀s,B.E s=A.E s
 o:A.E A.ns=[]
structure Pu(A B:At)(s:Nat)(x:Ed):Prop where
 n:B.ns=A.ns
 ad:B.E s=A.E s++[x]
 e:∀u,u≠s->B.E u=A.E u
theorem Fr.of(hl:A.eg.length=A.ns):Fr A A.fr:=⟨(At.Gw.fr A).ns,At.ag3 hl,At.O7 hl aa⟩
theorem Pu.of(hl:A.eg.length=A.ns)(hs:s<A.ns)(x:Ed):Pu A (A.pu s x) s x:=
 ⟨(At.Gw.pu hl hs x).ns,by rw[At.aeL hl hs,if_pos rfl],λu hu=>by rw[At.aeL hl hs,if_neg hu]⟩
structure Rg(A B:At)(f t:Nat)(P:(Nat->List Ed)->Prop):Prop where
 e:B.E t=[]
 lt:t<B.ns
 nw:t=f\/A.ns<=t
 up:A.ns<=B.ns
 ot:∀s,s<A.ns->s≠f->B.E s=A.E s
 ok:∀E,(∀s,(s=f\/A.ns<=s/\s<B.ns)->s≠t->E s=B.E s)->P E
theorem Rg.nil(hf:f<A.ns)(he:A.E f=[])(hp:∀E,P E):Rg A A f f P:=⟨he,hf,.inl rfl,aj _,λ_ _ _=>rfl,λE _=>hp E⟩
theorem Rg.wk(h:Rg A B f t P)(hp:∀E,P E->Q E):Rg A B f t Q:={h with ok:=λE hE=>hp E (h.ok E hE)}
theorem Rg.seq(hf:f<A.ns)(h:Rg A B f m P)(h':Rg B C m t Q):Rg A C f t λE=>P E/\Q E:=by
 have h1:=h.up;have h2:=h'.up;have h3:=h.lt;refine⟨h'.e,h'.lt,?_,aa,λs hs hn=>?_,λE hE=>⟨h.ok E λs hs hn=>?_,h'.ok E λs hs hn=>hE s ?_ hn⟩⟩
 .have:=h.nw;have:=h'.nw;omega
 .rw[h'.ot s aa (by have:=h.nw;omega)];exact h.ot s hs hn
 .rw[hE s aa (by have:=h'.nw;omega)];exact h'.ot s aa hn
 .have:=h.nw;omega
theorem Rg.leaf(hf:f<A.ns)(he:A.E f=[])(h1:Fr A A1)(h2:Pu A1 A2 f (i,a,A.ns)):Rg A A2 f A.ns λE=>E f=[(i,a,A.ns)]:=by
 have n1:=h1.n;have n2:=h2.n;have e:A2.E f=[(i,a,A.ns)]:=by rw[h2.ad,h1.e,he];rfl
 exact⟨by rw[h2.e _ aa,h1.e,h1.o],aa,.inr<|aj _,aa,λs _ hn=>by rw[h2.e _ hn,h1.e],λE hE=>by rw[hE f (.inl rfl) aa,e]⟩
theorem Rg.plus(hf:f<A.ns)(he:A.E f=[])(h1:Fr A A1)(h2:Pu A1 A2 f (0,0,A.ns))(h3:Rg A2 A3 A.ns c P)(h4:Fr A3 A4)(h5:Pu A4 A5 c (0,0,A3.ns))(h6:Pu A5 A6 A3.ns (0,0,A.ns))(h7:Fr A6 A7)(h8:Pu A7 A8 A3.ns (0,0,A6.ns)):
 Rg A A8 f A6.ns λE=>∃d b,E f=[(0,0,b)]/\E d=[(0,0,b),(0,0,A6.ns)]/\P E/\E c=[(0,0,d)]/\b=A.ns:=by
 have n1:=h1.n;have n2:=h2.n;have n3:=h3.up;have n4:=h4.n;have n5:=h5.n;have n6:=h6.n;have n7:=h7.n;have n8:=h8.n;have c1:=h3.lt;have c2:=h3.nw;have old:∀s,s<A3.ns->s≠c->A8.E s=A3.E s:=λs hs hc=>by rw[h8.e _ aa,h7.e,h6.e _ aa,h5.e _ hc,h4.e]
 have ef:A8.E f=[(0,0,A.ns)]:=by rw[old f aa aa,h3.ot f aa aa,h2.ad,h1.e,he];rfl
 have ec:A8.E c=[(0,0,A3.ns)]:=by rw[h8.e _ aa,h7.e,h6.e _ aa,h5.ad,h4.e,h3.e];rfl
 have ed:A8.E A3.ns=[(0,0,A.ns),(0,0,A6.ns)]:=by rw[h8.ad,h7.e,h6.ad,h5.e _ aa,h4.e,h4.o];rfl
 refine⟨by rw[h8.e _ aa,h7.e,h7.o],aa,.inr aa,aa,λs hs hn=>?_,λE hE=>⟨A3.ns,A.ns,?_,?_,h3.ok E λs hs hn=>?_,?_,rfl⟩⟩
 .rw[old s aa aa,h3.ot s aa aa,h2.e _ hn,h1.e]
 .rw[hE f (.inl rfl) aa,ef]
 .rw[hE _ (.inr aa) aa,ed]
 .rw[hE s (.inr aa) aa,old s aa hn]
 .rw[hE c aa aa,ec]
theorem Rg.loop{bk:Nat}(hf:f<A.ns)(he:A.E f=[])(h1:Fr A A1)(h2:Pu A1 A2 f (0,0,A.ns))(h3:Fr A2 A3)(h4:Fr A3 A4)(h5:Pu A4 A5 A.ns (0,0,A3.ns))(h6:Rg A5 A6 A3.ns c P)(h7:Pu A6 A7 c (0,0,bk))(h8:Pu A7 A8 A.ns (0,0,A2.ns))(hb:bk=A2.ns\/bk=A.ns):
 Rg A A8 f A2.ns λE=>∃d b,E f=[(0,0,d)]/\E d=[(0,0,b),(0,0,A2.ns)]/\P E/\(E c=[(0,0,A2.ns)]\/E c=[(0,0,d)])/\b=A3.ns:=by
 have n1:=h1.n;have n2:=h2.n;have n3:=h3.n;have n4:=h4.n;have n5:=h5.n;have n6:=h6.up;have n7:=h7.n;have n8:=h8.n;have c1:=h6.lt;have c2:=h6.nw;have old:∀s,s<A6.ns->s≠c->s≠A.ns->A8.E s=A6.E s:=λs hs hc hd=>by rw[h8.e _ hd,h7.e _ hc]
 have ot:∀s,s<A2.ns->s≠A.ns->A8.E s=A2.E s:=λs hs hd=>by rw[old s aa aa hd,h6.ot s aa aa,h5.e _ hd,h4.e,h3.e]
 have ef:A8.E f=[(0,0,A.ns)]:=by rw[ot f aa aa,h2.ad,h1.e,he];rfl
 have ec:A8.E c=[(0,0,bk)]:=by rw[h8.e _ aa,h7.ad,h6.e];rfl
 have ed:A8.E A.ns=[(0,0,A3.ns),(0,0,A2.ns)]:=by rw[h8.ad,h7.e _ aa,h6.ot _ aa aa,h5.ad,h4.e,h3.e,h2.e _ aa,h1.e,h1.o];rfl
 refine⟨?_,aa,.inr aa,aa,λs hs hn=>?_,λE hE=>⟨A.ns,A3.ns,?_,?_,h6.ok E λs hs hn=>?_,?_,rfl⟩⟩
 .rw[old _ aa aa aa,h6.ot _ aa aa,h5.e _ aa,h4.e,h3.e,h3.o]
 .rw[ot s aa aa,h2.e _ hn,h1.e]
 .rw[hE f (.inl rfl) aa,ef]
 .rw[hE _ (.inr aa) aa,ed]
 .rw[hE s (.inr aa) aa,old s aa hn aa]
 .rw[hE c aa aa,ec];rcases hb with rfl|rfl
  .exact .inl rfl
  .exact .inr rfl
structure Fan(A B:At)(f d e:Nat)(l:List Nat)(R:(Nat->List Ed)->Nat->Nat->Nat->Prop)(bs:List Nat):Prop where
 hd:A.ns<=d/\d<B.ns
 he:A.ns<=e/\e<B.ns/\d≠e
 up:f<A.ns/\A.ns<=B.ns
 ee:B.E e=[]
 ef:B.E f=[(0,0,d)]
 ed:B.E d=bs.map λb=>(0,0,b)
 ot:∀s,s<A.ns->s≠f->B.E s=A.E s
 len:bs.length=l.length
 ok:∀E,(∀s,A.ns<=s/\s<B.ns->s≠d->s≠e->E s=B.E s)->∀(i z b:Nat),l[i]?=some z->bs[i]?=some b->∃c,R E z b c/\E c=[(0,0,e)]
variable{R:(Nat->List Ed)->Nat->Nat->Nat->Prop}{l bs:List Nat}
theorem Fan.nil(hf:f<A.ns)(he:A.E f=[])(h1:Fr A A1)(h2:Pu A1 A2 f (0,0,A.ns))(h3:Fr A2 A3):Fan A A3 f A.ns A2.ns [] R []:=by
 have n1:=h1.n;have n2:=h2.n;have n3:=h3.n;exact⟨⟨aa,aa⟩,⟨aa,aa,aa⟩,⟨hf,aa⟩,by rw[h3.e,h3.o],by rw[h3.e,h2.ad,h1.e,he];rfl,by rw[h3.e,h2.e _ aa,h1.e,h1.o];rfl,λs hs hn=>by rw[h3.e,h2.e _ hn,h1.e],rfl,λE _ i z b h=>by simp at h⟩
theorem Fan.add(h:Fan A B f d e l R bs)(h1:Fr B A1)(h2:Pu A1 A2 d (0,0,B.ns))(h3:Rg A2 A3 B.ns c λE=>R E z B.ns c)(h4:Pu A3 A4 c (0,0,e)):Fan A A4 f d e (l++[z]) R (bs++[B.ns]):=by
 have n1:=h1.n;have n2:=h2.n;have n3:=h3.up;have n4:=h4.n;have c1:=h3.lt;have c2:=h3.nw;have d1:=h.hd;have e1:=h.he;have u1:=h.up;have ot:∀s,s<B.ns->s≠d->A4.E s=B.E s:=λs hs hn=>by rw[h4.e _ aa,h3.ot s aa aa,h2.e _ hn,h1.e]
 refine⟨⟨d1.1,aa⟩,⟨e1.1,aa,e1.2.2⟩,⟨u1.1,aa⟩,by rw[ot e aa aa,h.ee],by rw[ot f aa aa,h.ef],?_,λs hs hn=>by rw[ot s aa aa,h.ot s hs hn],by rw[ay,ay,h.len];rfl,λE hE i z' b' hz hb=>?_⟩
 .rw[h4.e _ aa,h3.ot d aa aa,h2.ad,h1.e,h.ed,dw];rfl
 .have hl:=h.len;rcases aN i l.length with hi|hi
  .rw[aP hi]at hz;rw[aP aa]at hb;exact h.ok E (λs hs hd he=>by rw[hE s aa hd he,ot s aa hd]) i z' b' hz hb
  .have hi2:=(aL.1 hz).1;rw[ay]at hi2;obtain rfl:i=l.length:=by simp at hi2;omega
   rw[bf (aj _),dY]at hz;rw[bf aa,hl,dY]at hb;cases hz;cases hb;refine⟨c,h3.ok E λs hs hn=>?_,?_⟩
   .rw[hE s aa aa aa,h4.e _ hn]
   .rw[hE c aa aa aa,h4.ad,h3.e];rfl
theorem Fan.end(h:Fan A B f d e l R bs)(hl:l≠[]):Rg A B f e λE=>∃d bs,E f=[(0,0,d)]/\E d=bs.map (λb=>(0,0,b))/\bs≠[]/\bs.length=l.length/\∀(i z b:Nat),l[i]?=some z->bs[i]?=some b->∃c,R E z b c/\E c=[(0,0,e)]:=by
 have d1:=h.hd;have e1:=h.he;have u1:=h.up;refine⟨h.ee,e1.2.1,.inr e1.1,u1.2,h.ot,λE hE=>⟨d,bs,?_,?_,?_,h.len,h.ok E λs hs _ he=>hE s (.inr hs) he⟩⟩
 .rw[hE f (.inl rfl) aa,h.ef]
 .rw[hE d (.inr d1) aa,h.ed]
 .intro hb;have:=h.len;rw[hb]at this;exact hl<|bK.1 this.symm
def Inv(g:Gm)(A:At):Prop:=∀r,r<A.nr->∀E,(∀s,s<A.ns->E s=A.E s)->E (A.P r)=[]/\∃n t,Way g E n (g.rt r) (A.S r) t/\E t=[(0,0,A.P r)]
theorem Inv.add{n:Nat}(h:Inv g A)(hn:B.nr=A.nr+1)(ho:∀r,r<A.nr->B.S r=A.S r/\B.P r=A.P r)(hl:B.S A.nr=A.ns/\B.P A.nr=A1.ns)(h1:Fr A A1)(h2:Fr A1 A2)(h3:Rg A2 A3 A.ns t λE=>Way g E n (g.rt A.nr) A.ns t)(h4:Pu A3 B t (0,0,A1.ns)):Inv g B:=by
 intro r hr E hE;have n1:=h1.n;have n2:=h2.n;have n3:=h3.up;have n4:=h4.n;have c1:=h3.lt;have c2:=h3.nw;have old:∀s,s<A2.ns->s≠A.ns->E s=A.E s:=λs hs hn=>by rw[hE s aa,h4.e _ aa,h3.ot s hs hn,h2.e,h1.e]
 rcases aN r A.nr with h5|h5
 .rw[(ho r h5).1,(ho r h5).2];exact h r h5 E λs hs=>old s aa aa
 .obtain rfl:r=A.nr:=by omega
  rw[hl.1,hl.2];refine⟨by rw[hE _ aa,h4.e _ aa,h3.ot _ aa aa,h2.e,h2.o],n,t,h3.ok E λs hs hn=>?_,?_⟩
  .rw[hE s aa,h4.e _ hn]
  .rw[hE t aa,h4.ad,h3.e];rfl
theorem Inv.is(h:Inv g A)(hc:∀k l,g.G9 k=some l->l<A.nr):Is g A:=⟨λr hr=>(h r hr A.E λ_ _=>rfl).1,λr hr=>(h r hr A.E λ_ _=>rfl).2,hc⟩
theorem Way.nil{E:Nat->List Ed}{W:Nat->Nat}(hk:∀k,W k=0->g.kd k=1/\∀z∈g.zs k,W z=0/\z<k):∀n k,k<n->W k=0->∀f,Way g E n k f f:=by
 intro n
 induction n with
 |zero=>intro k h;omega
 |succ n ih=>
  intro k hn h0 f;obtain⟨h1,h2⟩:=hk k h0;refine .inl ⟨h1,?_⟩;generalize g.zs k=l at h2
  induction l with
  |nil=>rfl
  |cons z l ihl=>exact⟨f,ih z (by have:=(h2 z<|by simp).2;omega) (h2 z<|by simp).1 f,ihl λz hz=>h2 z<|by simp[hz]⟩
theorem zx.mp{R R':Nat->Nat->Nat->Prop}:∀{l:List Nat}{f t:Nat},(∀z∈l,∀f t,R z f t->R' z f t)->zx R l f t->zx R' l f t
 |[],f,t,_,h=>h
 |y::l,f,t,hr,⟨m,h1,h2⟩=>⟨m,hr y (aD ..) _ _ h1,zx.mp (λz hz=>hr z<|aT _ hz) h2⟩
theorem zx.app{R:Nat->Nat->Nat->Prop}:∀{l:List Nat}{f m t z:Nat},zx R l f m->R z m t->zx R (l++[z]) f t
 |[],f,m,t,z,h,h'=>⟨t,(show m=f from h)▸h',rfl⟩
 |y::l,f,m,t,z,⟨m',h1,h2⟩,h'=>⟨m',h1,zx.app h2 h'⟩
end Gm
section
open Go.Ae Go.Ae.M Go.Proofs.Lv
variable{S:List Nat}
structure WD where
 g:Nat
 s:Nat
 w:Nat
 f:Nat
 fe:Nat
 lo:Nat
 p:Nat
 l:Nat
 ra:Nat
 na:Option Addr
 nc:Nat
 nn:Nat
 rs:Nat
 rl:Nat
 eG:List Value
 lcs:List Value
 ws:List Nat
 kd:Nat->Int
 zs:Nat->List Nat
 tn:Nat
 lw:Nat
 G9:Nat->Option Nat
 rt:Nat->Nat
 bs:List Bool
abbrev WD.ps(d:WD):List Value:=[pr d.g,pr d.s,pr d.w,pr d.f,pr d.fe,pr d.lo,pr d.p,pr d.l]
abbrev WD.wv(d:WD):Value:=.func (.func 160) ⟨[]⟩ ⟨d.ps⟩
abbrev WD.fev(d:WD):Value:=.func (.func 158) ⟨[]⟩ ⟨[pr d.p]⟩
abbrev WD.lov(d:WD):Value:=.func (.func 159) ⟨[]⟩ ⟨[pr d.f,pr d.fe,pr d.w]⟩
abbrev WD.fv(d:WD):Value:=.func (.func 118) ⟨[]⟩ ⟨[pr d.ra]⟩
abbrev WD.pv(d:WD):Value:=.func (.func 119) ⟨[]⟩ ⟨[pr d.ra]⟩
structure WE(K:Nat->Prop)(d:WD)(H:ag):Prop where
 hK:∀r,K r->r<H.next
 g:K d.g/\H.cell d.g 1=some (.slice d.na d.nn d.nc)
 s:K d.s/\H.cell d.s 0=some (.slice (some ⟨d.rs,0,none⟩) d.nn d.nn)
 w:K d.w/\H.cell d.w 0=some d.wv
 f:K d.f/\H.cell d.f 0=some d.fv
 fe:K d.fe/\H.cell d.fe 0=some d.fev
 lo:K d.lo/\H.cell d.lo 0=some d.lov
 p:K d.p/\H.cell d.p 0=some d.pv
 l:K d.l/\H.cell d.l 0=some (.slice (some ⟨d.rl,0,none⟩) d.nn d.nn)
 nd:jT K 145 H d.na d.nn 5 d.eG
 kid:RP K H d.nn d.eG d.kd d.zs
 st:jT K 3 H (some ⟨d.rs,0,none⟩) d.nn 1 (fG d.ws)
 lf:jT K 47 H (some ⟨d.rl,0,none⟩) d.nn 3 d.lcs
variable{d:WD}
theorem WE.stay(h:WE K d H)(hx:qU S H H')(hS:∀r∈S,¬K r):WE K d H':=by
 have c:∀{r o v},K r/\H.cell r o=some v->K r/\H'.cell r o=some v:=λ{r o v}⟨h1,h2⟩=>⟨h1,(rG (hx.obj r (h.hK r h1) λhr=>hS r hr h1) o).trans h2⟩;exact⟨λr hr=>aH (h.hK r hr) hx.next,c h.g,c h.s,c h.w,c h.f,c h.fe,c h.lo,c h.p,c h.l,h.nd.stay hx λq hq=>.inl<|hS q hq,λi hi=>let⟨a,c,t,xa,xn,xc,at',h1,h2,h3⟩:=h.kid i hi;⟨a,c,t,xa,xn,xc,at',h1,h2.stay hx λq hq=>.inl<|hS q hq,h3⟩,h.st.stay hx λq hq=>.inl<|hS q hq,h.lf.stay hx λq hq=>.inl<|hS q hq⟩
theorem WE.n(h:WE K d H):WE K d (hN H):=⟨h.hK,h.g,h.s,h.w,h.f,h.fe,h.lo,h.p,h.l,h.nd,h.kid,h.st,h.lf⟩
structure RY(K:Nat->Prop)(d:WD)(S:List Nat)(H0 H:ag)(M L:List cz)(A:At):Prop where
 we:WE K d H
 nk:∀r∈M.map (·.1),¬K r
 bd:Bd d.ra A M
 sh:SH S H0 H (M++L)
 bu:At.Bu d.lw A
 ty:A.ty=d.tn
 pos:1<=A.nr
 few:A.nr<=1000
theorem RY.step(h:RY K d S H0 H M L A)(hB:Bd d.ra A' M')(hS:SH (M.map (·.1)) H H' M')(g:At.Gw A A' k c)(hu:At.Bu d.lw A'):RY K d S H0 H' M' L A':=
 ⟨h.we.stay hS.ext h.nk,λr hr hk=>by
   obtain⟨e,he,rfl⟩:=aZ.1 hr;rcases(hS.lo e he).1 with h1|h1
   .exact h.nk _ h1 hk
   .have:=h.we.hK _ hk;omega,hB,SH.frame h.sh hS,hu,g.ty.trans h.ty,by rw[g.nr];exact h.pos,by rw[g.nr];exact h.few⟩
theorem RY.ZR(h:RY K d S H0 H M L A)(hB:Bd d.ra A' M')(hS:SH (M.map (·.1)) (hN H) H' M')(g:At.Gw A A' k c)(hu:At.Bu d.lw A'):RY K d S H0 (hM H H') M' L A':=
 ⟨h.we.stay hS.ext.draw h.nk,λr hr hk=>by
   obtain⟨e,he,rfl⟩:=aZ.1 hr;rcases(hS.lo e he).1 with h1|h1
   .exact h.nk _ h1 hk
   .have h2:=h.we.hK _ hk;have h1:H.next<=e.1:=h1
    omega,hB,SH.Yd h.sh hS,hu,g.ty.trans h.ty,by rw[g.nr];exact h.pos,by rw[g.nr];exact h.few⟩
section steps
variable{Kp:Value->ag->Prop}{a:Nat}
theorem RY.fresh(h:RY K d S H0 H M L A)(hs:A.ns<=100000)(kk:∀H' M' A',RY K d S H0 H' M' L A'->At.Gw A A' 1 0->A'.cur A.ns->Gm.Fr A A'->Kp (vn A.ns) H'):lK Pg X (KA d.fv) [] H Kp:=by
 show az Pg X 118 [pr d.ra] H Kp;refine az.mono (VH h.bd h.sh h.pos h.few hs h.bu.BJ) ?_;rintro v H' ⟨rfl,M',h1,h2⟩;exact kk H' M' _ (h.step h1 h2 (At.Gw.fr A)<|h.bu.fr h.pos) (At.Gw.fr A) (At.ZQ A)<|Gm.Fr.of h.bu.BJ
theorem Jy(hW:WE K d H)(hB:Bd d.ra A M)(hS:SH S H0 H<|M++L)(ha:a<A.ns)(hl:A.eg.length=A.ns)(ht:A.tot<=1000000):az Pg X 158 [vn a,vn b,pr d.p] H λv H'=>∃M',Bd d.ra (A.pu a (0,0,b)) M'/\SH (M.map (·.1)) H H' M':=by
 refine ce [0,1,2] ?_;refine tl ?_;refine ME.ld hW.p.2 ?_;refine PU.b3 rfl ?_;show az Pg X 119 [vn a,_,pr d.ra] H _;refine az.mono (M_ (e:=(0,0,b)) hB hS ha hl ht) ?_;rintro v H' h;refine rn ?_;exact h
theorem aeM(lw ty b:Nat):At.EdL lw ty (0,0,b):=.inl rfl
theorem RY.free(h:RY K d S H0 H M L A)(ha:A.cur a)(hb:A.cur b)(ht:A.tot<=1000000)(kk:∀v H' M' A',RY K d S H0 H' M' L A'->At.Gw A A' 0 1->Gm.Pu A A' a (0,0,b)->Kp v H'):lK Pg X (KA d.fev) [vn a,vn b] H Kp:=by
 show az Pg X 158 [vn a,vn b,pr d.p] H Kp;refine az.mono (Jy h.we h.bd h.sh ha.1 h.bu.BJ ht) ?_;rintro v H' ⟨M',h1,h2⟩;exact kk v H' M' _ (h.step h1 h2 (At.Gw.pu h.bu.BJ ha.1 _)<|h.bu.puC (e:=(0,0,b)) ha hb<|aeM ..) (At.Gw.pu h.bu.BJ ha.1 _)<|Gm.Pu.of h.bu.BJ ha.1 _
theorem RY.ado(h:RY K d S H0 H M L A)(ha:A.cur a)(hb:A.cur b)(ht:A.tot<=1000000)(kk:∀v H1 M' A',RY K d S H0 (hM H H1) M' L A'->At.Gw A A' 0 1->Gm.Pu A A' a (0,0,b)->qU (M.map (·.1)) (hN H) H1->Kp v H1):lK Pg X (KA d.fev) [vn a,vn b] (hN H) Kp:=by
 show az Pg X 158 [vn a,vn b,pr d.p] (hN H) Kp;refine az.mono (Jy h.we.n h.bd h.sh.uY ha.1 h.bu.BJ ht) ?_;rintro v H' ⟨M',h1,h2⟩;exact kk v H' M' _ (h.ZR h1 h2 (At.Gw.pu h.bu.BJ ha.1 _)<|h.bu.puC (e:=(0,0,b)) ha hb<|aeM ..) (At.Gw.pu h.bu.BJ ha.1 _) (Gm.Pu.of h.bu.BJ ha.1 _) h2.ext
theorem RY.air(h:RY K d S H0 H M L A)(ha:A.cur a)(hb:A.cur e.2.2)(he:At.EdL d.lw A.ty e)(ht:A.tot<=1000000)(kk:∀v H1 M' A',RY K d S H0 (hM H H1) M' L A'->At.Gw A A' 0 1->Gm.Pu A A' a e->qU (M.map (·.1)) (hN H) H1->Kp v H1):lK Pg X (KA d.pv) [vn a,.agg ⟨[vn e.1,vn e.2.1,vn e.2.2]⟩] (hN H) Kp:=by
 show az Pg X 119 [vn a,_,pr d.ra] (hN H) Kp;refine az.mono (M_ (e:=e) h.bd h.sh.uY ha.1 h.bu.BJ ht) ?_;rintro v H' ⟨M',h1,h2⟩;exact kk v H' M' _ (h.ZR h1 h2 (At.Gw.pu h.bu.BJ ha.1 _)<|h.bu.puC ha hb he) (At.Gw.pu h.bu.BJ ha.1 _) (Gm.Pu.of h.bu.BJ ha.1 _) h2.ext
abbrev WD.gm(d:WD):Gm:=⟨d.kd,d.zs,d.G9,d.rt⟩
abbrev WD.wy(d:WD)(i f t:Nat)(E:Nat->List Ed):Prop:=∀n,i<n->Gm.Way d.gm E n i f t
def aeN(d:WD)(i fr:Nat)(A:At)(M:List cz)(H:ag)(v:Value)(H':ag):Prop:=∃A' M' to c,v=vn to/\Bd d.ra A' M'/\SH (M.map (·.1)) H H' M'/\At.Gw A A' (W d.ws i) c/\c<=2*W d.ws i/\At.Bu d.lw A'/\A'.cur to/\Gm.Rg A A' fr to (d.wy i fr to)
def Gj(K:Nat->Prop)(d:WD)(i:Nat):Prop:=∀{S:List Nat}{H0 H:ag}{M L:List cz}{A:At}{fr:Nat},RY K d S H0 H M L A->A.ns+W d.ws i<=4000->A.tot+2*W d.ws i<=20000->A.cur fr->A.E fr=[]->B d.bs i=true->az Pg X 160 (vn i::vn fr::d.ps) H (aeN d i fr A M H)
theorem RY.way{fr:Nat}(hw:Gj K d i)(h:RY K d S H0 H M L A)(h1:A.ns+W d.ws i<=4000)(h2:A.tot+2*W d.ws i<=20000)(hf:A.cur fr)(hfe:A.E fr=[])(hb:B d.bs i=true)(kk:∀to H' M' A' c,RY K d S H0 H' M' L A'->At.Gw A A' (W d.ws i) c->c<=2*W d.ws i->A'.cur to->Gm.Rg A A' fr to (d.wy i fr to)->Kp (vn to) H'):lK Pg X (KA d.wv) [vn i,vn fr] H Kp:=by
 show az Pg X 160 (vn i::vn fr::d.ps) H Kp;refine az.mono (hw h h1 h2 hf hfe hb) ?_;rintro v H' ⟨A',M',to,c,rfl,g1,g2,g3,g4,g5,g6,g7⟩;exact kk to H' M' A' c (h.step g1 g2 g3 g5) g3 g4 g6 g7
theorem RY.n(h:RY K d S H0 H M L A):RY K d S (hN H0) (hN H) M L A:=⟨h.we.n,h.nk,h.bd,h.sh.uY,h.bu,h.ty,h.pos,h.few⟩
theorem RY.aeO{fr:Nat}(hw:Gj K d i)(h:RY K d S H0 H M L A)(h1:A.ns+W d.ws i<=4000)(h2:A.tot+2*W d.ws i<=20000)(hf:A.cur fr)(hfe:A.E fr=[])(hb:B d.bs i=true)(kk:∀to H1 M' A' c,RY K d S H0 (hM H H1) M' L A'->At.Gw A A' (W d.ws i) c->c<=2*W d.ws i->A'.cur to->Gm.Rg A A' fr to (d.wy i fr to)->qU (M.map (·.1)) (hN H) H1->Kp (vn to) H1):lK Pg X (KA d.wv) [vn i,vn fr] (hN H) Kp:=by
 show az Pg X 160 (vn i::vn fr::d.ps) (hN H) Kp;refine az.mono (hw h.n h1 h2 hf hfe hb) ?_;rintro v H' ⟨A',M',to,c,rfl,g1,g2,g3,g4,g5,g6,g7⟩;exact kk to H' M' A' c (h.ZR g1 g2 g3 g5) g3 g4 g6 g7 g2.ext
end steps
end
variable{d:WD}
section
open Go.Ae Go.Ae.M Go.Proofs.Lv
variable{S:List Nat}
theorem RY.ext{H1:ag}{L':List cz}(h:RY K d S H0 H M L A)(hx:Ext H H1)(hS:SH S H0 H1<|M++L'):RY K d S H0 H1 M L' A:=⟨h.we.stay hx (λr hr=>nomatch hr),h.nk,h.bd,hS,h.bu,h.ty,h.pos,h.few⟩
theorem RY.own(h:RY K d S H0 H M L A):RY K d (M.map (·.1)) H H M [] A:=⟨h.we,h.nk,h.bd,(SH.own h.sh).cast (aQ M).symm,h.bu,h.ty,h.pos,h.few⟩
theorem RY.fin(h:RY K d S H0 H M L A):SH S H0 H M:=h.sh.sub<|bR M L
theorem RY.ag4(h:RY K d S H0 H M [] A)(hS1:SH [] H H1 [(r,ty,cs)]):RY K d S H0 H1 M [(r,ty,cs)] A:=
 h.ext hS1.ext ((SH.frame (M:=[]) (L:=M) h.fin hS1).perm<|au (l₁:=[_]))
theorem RY.not(h:RY K d S H0 H M L A)(hr:K r\/∃e∈L,e.1=r):r<H.next/\r∉M.map (·.1):=by
 rcases hr with hr|⟨e,he,rfl⟩
 .exact⟨h.we.hK r hr,λhm=>h.nk r hm hr⟩
 .refine⟨(h.sh.lo e<|bD _ he).2,λhm=>?_⟩;obtain⟨x,hx,e2⟩:=aZ.1 hm;exact h.sh.apart hx he e2
theorem RY.rd{w:Cl}(h:RY K d S H0 H M L A)(hx:qU (M.map (·.1)) (hN H) H3)(hr:K r\/∃e∈L,e.1=r)(hc:H.cell r o=some v)(hs:lX v v=true)(hw:w.a=H/\w.b=H3):ng w ⟨4,r,o,1,hh0,hh0⟩=true:=
 abv hw hx (h.not hr).1 (h.not hr).2 (Yl hc) (λv hv=>by rw[aO]at hv;subst hv;exact hs)
theorem RY.keep(h:RY K d S H0 H M L A)(hx:qU (M.map (·.1)) (hN H) H3)(hr:K r\/∃e∈L,e.1=r)(hc:H.cell r o=some v):(hM H H3).cell r o=some v:=
 (rG (H':=hM H H3) (hx.obj r (h.not hr).1 (h.not hr).2) o).trans hc
theorem Na:lX (.func (.func g) ⟨[]⟩ ⟨l.map pr⟩) (.func (.func g) ⟨[]⟩ ⟨l.map pr⟩)=true:=Ym g λv hv=>by
 obtain⟨r,_,rfl⟩:=aZ.1 hv;exact⟨r,rfl⟩
theorem Nb(d:WD):lX d.wv d.wv=true:=Na (l:=[d.g,d.s,d.w,d.f,d.fe,d.lo,d.p,d.l])
theorem PG(d:WD):lX d.fev d.fev=true:=Na (l:=[d.p])
theorem abQ(d:WD):lX d.pv d.pv=true:=Na (l:=[d.ra])
theorem ais{F:Nat->Prop}{n:Nat}{zs:List Nat}(h:jT F 3 H a n 1<|fG zs)(hz:zs[k]?=some z)(hk:k<n):∃r o,a=some ⟨r,o,none⟩/\F r/\H.cell r (o+k)=some (vn z)/\zH 1 (.slice a n c) (vn k)=some (.pointer<|some ⟨r,o+k,none⟩):=by
 obtain⟨r,o,h1,h2,h3,o0,rfl,rfl⟩:=h.1.idx (c:=c) (bL 0) hk;have hc:=h3 0 (vn z) (bL 0) (by rw[bG,bn];exact oz _ hz);rw[bG,bn]at hc;rw[bG]at h1;exact⟨r,o0,rfl,(h.2 r o0 rfl aa).1,hc,h1⟩
theorem K8{n:Nat}{kd at':Int}(hW:WE K d H)(hi:i<d.nn)(he:El d.eG 5 i=[vi kd,.slice ka n kc,.string t,.slice xa xn xc,vi at'])(hj:(d.zs i)[j]?=some z):∃r o,ka=some ⟨r,o,none⟩/\K r/\H.cell r (o+j)=some (vn z)/\zH 1 (.slice ka n kc) (vn j)=some (.pointer<|some ⟨r,o+j,none⟩)/\n=(d.zs i).length:=by
 obtain⟨a,c,t',xa',xn',xc',at2,he2,hf,_⟩:=hW.kid i hi;rw[he]at he2;cases he2;obtain⟨r,o,h1,h2,h3,h4⟩:=ais (c:=kc) hf hj (aL.1 hj).1;exact⟨r,o,h1,h2,h3,h4,rfl⟩
theorem VI{fr:Nat}{kd at':Int}(hwz:Gj K d z)(h:RY K d S H0 H M L A)(hi:i<d.nn)(he:El d.eG 5 i=[vi kd,.slice ka 1 kc,.string t,.slice xa xn xc,vi at'])(hz:(d.zs i)[0]?=some z)(hn:A.ns+(3+W d.ws z)<=4000)(ht:A.tot+2*(3+W d.ws z)<=20000)(hf:A.cur fr)(hfe:A.E fr=[])(hbz:B d.bs z=true):
 az Pg X 159 [.agg ⟨[vi kd,.slice ka 1 kc,.string t,.slice xa xn xc,vi at']⟩,vn fr,pr d.f,pr d.fe,pr d.w] H λv H'=>∃A' M' to c,v=vn to/\Bd d.ra A' M'/\SH (M.map (·.1)) H H' M'/\At.Gw A A' (3+W d.ws z) c/\c<=2*(3+W d.ws z)/\At.Bu d.lw A'/\A'.cur to/\Gm.Rg A A' fr to λE=>∃d1 b c,E fr=[(0,0,d1)]/\E d1=[(0,0,b),(0,0,to)]/\d.wy z b c E/\(E c=[(0,0,to)]\/E c=[(0,0,d1)]):=by
 have h:=h.own;obtain⟨rk,ok,rfl,_⟩:=K8 h.we hi he hz;refine ce [0,1,2,3,4,5,7,8,9,10,11] ?_;refine tl ?_;refine(SH.refl h.sh.wf).box rfl λH1 rb hS1=>?_;have hx1:=hS1.ext;have h:RY K d (M.map (·.1)) H H1 M [(rb,145,[vi kd,.slice (some ⟨rk,ok,none⟩) 1 kc,.string t,.slice xa xn xc,vi at'])] A:=h.ag4 hS1
 have hm:∀{H' M' A'},RY K d (M.map (·.1)) H H' M' [(rb,145,[vi kd,.slice (some ⟨rk,ok,none⟩) 1 kc,.string t,.slice xa xn xc,vi at'])] A'->H'.cell rb 0=some (vi kd)/\H'.cell rb 1=some (.slice (some ⟨rk,ok,none⟩) 1 kc):=λh=>by
  have hb:=h.sh.bk _<|bD _<|aD ..
  exact⟨hb.cell rfl,hb.cell rfl⟩
 refine ME.ld h.we.f.2 ?_;refine h.fresh aa λH2 M2 A1 h g1 c1 f1=>?_;have hf0:=hf;have hf:=hf.gw g1;have n1:=g1.ns;have t1:=g1.tt;refine ME.ld h.we.fe.2 ?_;refine h.free hf c1 aa λ_ H3 M3 A2 h g2 f2=>?_;have g:=g1.trans g2;have n2:=g2.ns;have t2:=g2.tt;refine ME.ld h.we.f.2 ?_;refine h.fresh aa λH4 M4 A3 h g3 c3 f3=>?_;have g:=g.trans g3;have n3:=g3.ns;have t3:=g3.tt;refine ME.ld h.we.f.2 ?_;refine h.fresh aa λH5 M5 A4 h g4 c4 f4=>?_;have g:=g.trans g4;have n4:=g4.ns;have t4:=g4.tt;have cd:=((c1.gw g2).gw g3).gw g4;have ce:=c3.gw g4;refine ME.ld h.we.fe.2 ?_;refine h.free cd c4 aa λ_ H6 M6 A5 h g5 f5=>?_;have g:=g.trans g5;have n5:=g5.ns;have t5:=g5.tt;have cd:=cd.gw g5;have ce:=ce.gw g5;have cb:=c4.gw g5;refine aF ?_;refine ME.ld (hm h).1 ?_;refine aF ?_;have e5:A5.E A3.ns=[]:=by rw[f5.e _ aa,f4.e,f4.o]
 have tl:∀bk,A5.cur bk->(bk=A2.ns\/bk=A.ns)->∀{x0 x1 l7},dJ Pg X (sub Mi [1,1,1,1,1,1,1,1]) (JU x0 x1 (pr d.f) (pr d.fe) (pr d.w) (pr rb) (vi 0) (vn A.ns) (vn A2.ns) (vn A3.ns) (vn bk) l7 H6) (f_ Pg [.tmp 7] λv H'=>∃A' M' to c,v=vn to/\Bd d.ra A' M'/\SH (M.map (·.1)) H H' M'/\At.Gw A A' (3+W d.ws z) c/\c<=2*(3+W d.ws z)/\At.Bu d.lw A'/\A'.cur to/\Gm.Rg A A' fr to λE=>∃d1 b c,E fr=[(0,0,d1)]/\E d1=[(0,0,b),(0,0,to)]/\d.wy z b c E/\(E c=[(0,0,to)]\/E c=[(0,0,d1)])):=by
  intro bk cbk hbk x0 x1 l7;refine tl ?_;refine ME.ld (H:=hN H6) h.we.fe.2 ?_;simp only[eF h.sh.wf];refine ME.ld (H:=hN H6) h.we.w.2 ?_;simp only[eF h.sh.wf,PP];refine ME.ld (H:=hN H6) (hm h).2 ?_;simp only[eF h.sh.wf];obtain⟨rk',ok',e1,hKr,hkc,hid,_⟩:=K8 h.we hi he hz;cases e1;refine PU.of hid ?_;refine ME.ld (H:=hN H6) hkc ?_;simp only[eF h.sh.wf];have h6:=h;refine h.aeO hwz aa aa cb e5 hbz λto H7 M7 A7 c7 h g7 b7 cto f7 hx7=>?_;have n7:=g7.ns;have t7:=g7.tt;have g:=g.trans g7;refine h.ado cto (cbk.gw g7) aa λv8 H8 M8 A8 h8 g8 f8 KY=>?_;have n8:=g8.ns;have t8:=g8.tt;have g:=g.trans g8;refine(show∀K:Prop,K->_/\K fromλKz hK=>?_) _ ?_
  .have rd:∀{r o v},(K r\/∃e∈[((rb,145,[vi kd,.slice (some ⟨rk,ok,none⟩) 1 kc,.string t,.slice xa xn xc,vi at']):cz)],e.1=r)->H6.cell r o=some v->lX v v=true->∀w:Cl,((w.a=H6/\w.b=H7)\/(w.a=hM H6 H7/\w.b=H8))->ng w ⟨4,r,o,1,hh0,hh0⟩=true:=by
    intro r o v hr hc hs w hw;rcases hw with hw|hw
    .exact h6.rd hx7 hr hc hs hw
    .exact h.rd KY hr (h6.keep hx7 hr hc) hs hw
   have r1:=rd (.inl h6.we.fe.1) h6.we.fe.2<|PG d;have r2:=rd (.inl h6.we.w.1) h6.we.w.2<|Nb d;have r3:=rd (.inr ⟨_,aD ..,rfl⟩) (hm h6).2 (qK _ _ _ λx h=>by cases h;rfl);have r4:=rd (.inl hKr) hkc<|uD _ _;simp only[cB];rcases yR H6 H7 with e|e<;>rw[e]<;>rcases yR (hM H6 H7) H8 with e|e<;>rw[e]<;>apply C5 (T:=λw=>(w.a=H6/\w.b=H7)\/(w.a=hM H6 H7/\w.b=H8)) (by kernel_rfl) (by kernel_rfl) hK<;>repeat' apply And.intro
   all_goals first|exact trivial|(intro h;cases h;done)|exactλ_=>.inl ⟨rfl,rfl⟩|exactλ_=>.inr ⟨rfl,rfl⟩|exactλ_=>r1|exactλ_=>r2|exactλ_=>r3|exactλ_=>r4
  refine ME.ld h8.we.fe.2 ?_;refine h8.free ((cd.gw g7).gw g8) ((ce.gw g7).gw g8) aa λ_ H9 M9 A9 h9 g9 f9=>?_;have g:=g.trans g9;have n9:=g9.ns;have t9:=g9.tt;refine rr ?_;exact⟨A9,M9,A2.ns,_,rfl,h9.bd,(h9.sh.sub<|bR M9 _),g.cast aa rfl,aa,h9.bu,((ce.gw g7).gw g8).gw g9,(Gm.Rg.loop hf0.1 hfe f1 f2 f3 f4 f5 f7 f8 f9 hbk).wk λE ⟨d1,b,e1,e2,e3,e4,e5⟩=>⟨d1,b,to,e1,e2,e5▸e3,e4⟩⟩
 refine ah (λhc=>?_) λhc=>?_
 .exact tl _ cd<|.inr rfl
 .exact tl _ ce<|.inl rfl
end
section
open Go.Ae Go.Ae.M Go.Proofs.Lv
variable{S:List Nat}
theorem K9{ws:List Nat}{kd:Int}(hz:l[k]?=some z):mh ws kd (l.take<|k+1)=mh ws kd (l.take k)+(W ws z+Ez kd):=by
 unfold mh;rw[ji,hz];show(List.map _<|_++[_]).sum=_;rw[dw,lC];rfl
theorem Ub(ws:List Nat)(kd:Int)(l:List Nat)(k:Nat):mh ws kd (l.take k)<=mh ws kd l:=by
 have:mh ws kd l=mh ws kd (l.take k)+mh ws kd (l.drop k):=by
  unfold mh;rw[<-lC,<-dw,fV]
 omega
structure WQ(d:WD):Prop where
 nn:d.nn<=4000
 sz:∀j,j<d.nn->Dt d.kd d.zs d.ws j
 lf:∀j,j<d.nn->vo d.tn d.lw (d.G9 j) (El d.lcs 3 j)
 rt:∀j,j<d.nn->Jp d.lcs d.kd d.zs d.bs j
theorem WE.rQ{Kp:Value->Value->ag->Prop}(hW:WE K d H)(hz:z<d.nn)(kk:∀p,Kp p (vn<|W d.ws z) H):PU (zH 1 (.slice (some ⟨d.rs,0,none⟩) d.nn d.nn)<|vn z) λp=>ME (Go.Ae.rQ none p H) (Kp p):=by
 have hl:d.ws.length=d.nn:=by have:=hW.st.1.1;simpa using this
 refine hW.st.ix hz ?_ kk;rw[aR,ae (show z<d.ws.length by omega)];show _=some (vn<|d.ws[z]?.getD 0);rw[ae (show z<d.ws.length by omega)];rfl
theorem ZS{fr:Nat}(hQ:WQ d)(h:RY K d (M.map (·.1)) H0 H M [(rb,145,cs)] A)(hi:i<d.nn)(hn:A.ns+1<=4000)(ht:A.tot+2<=20000)(hf:A.cur fr)(hfe:A.E fr=[])(hk:5<=d.kd i)(hb:B d.bs i=true)(kk:∀A' M' to c H',Bd d.ra A' M'->SH (M.map (·.1)) H0 H' M'->At.Gw A A' 1 c->c<=2->At.Bu d.lw A'->A'.cur to->Gm.Rg A A' fr to (d.wy i fr to)->Q (vn to) H'):
 dJ Pg X (sub jB [1,1,1]) (qN (vn i) (vn fr) (pr d.g) (pr d.s) (pr d.w) (pr d.f) (pr d.fe) (pr d.lo) (pr d.p) (pr d.l) gK gq iL jU qV vv x20 xK F6 yj x24 x25 x32 Ml Az x38 x64 x65 x66 l7 H) (f_ Pg [.tmp 12] Q):=by
 refine tl ?_;refine ME.ld h.we.f.2 ?_;refine h.fresh aa λH1 M1 A1 h g1 c1 f1=>?_;have n1:=g1.ns;have t1:=g1.tt;refine ME.ld (H:=hN H1) h.we.p.2 ?_;simp only[eF h.sh.wf];refine ME.ld (H:=hN H1) h.we.l.2 ?_;simp only[eF h.sh.wf];obtain⟨r,o,e1,e2,e3,o0,e4,_⟩:=h.we.lf.1.idx (c:=d.nn) aa hi;cases e4;obtain⟨k1,a1,hle,hlp⟩:=hQ.lf i hi
 have cell:∀f x,f<3->[vn k1,vn a1,vn 0][f]?=some x->H1.cell d.rl (o+f)=some x:=λf x hf3 hx=>by
  refine e3 f x hf3 ?_;have:=bW (λl=>l[f]?) hle;simp only[j4,if_pos hf3]at this;rw[this];exact hx
 have hKl:K d.rl:=(h.we.lf.2 d.rl 0 rfl aa).1;refine PU.of e1 ?_;refine aF ?_;refine ME.ld (H:=hN H1) (by have:=cell 0 _ aa rfl;rwa [bn]at this) ?_;simp only[eF h.sh.wf];refine ME.ld (H:=hN H1) h.we.l.2 ?_;simp only[eF h.sh.wf];refine PU.of e1 ?_;refine aF ?_;refine ME.ld (H:=hN H1) (cell 1 _ aa rfl) ?_;simp only[eF h.sh.wf];refine PU.b3 rfl ?_;have h1:=h
 refine h.air (e:=(k1,a1,A.ns)) (hf.gw g1) c1 (by
  unfold At.EdL;rw[h.ty];rcases hlp with⟨hlp,_⟩|⟨⟨p1,p2⟩,_⟩|⟨⟨p1,p2⟩,_⟩
  .exact .inl hlp
  .exact .inr<|.inl ⟨p1,p2⟩
  .exact .inr<|.inr ⟨p1,p2⟩) aa λv H2 M2 A2 h g2 f2 hx2=>?_
 have n2:=g2.ns;have t2:=g2.tt;refine(show∀K:Prop,K->_/\K fromλKz hK=>?_) _ ?_
 .have rd:∀{r o v},K r->H1.cell r o=some v->lX v v=true->∀w:Cl,(w.a=H1/\w.b=H2)->ng w ⟨4,r,o,1,hh0,hh0⟩=true:=λhr hc hs w hw=>h1.rd hx2 (.inl hr) hc hs hw;have r1:=rd h1.we.p.1 h1.we.p.2<|abQ d;have r2:=rd h1.we.l.1 h1.we.l.2 (qK _ _ _ λx h=>by cases h;rfl);have r3:=rd hKl (by have:=cell 0 _ aa rfl;rwa [bn]at this)<|uD _ _;have r4:=rd hKl (cell 1 _ aa rfl)<|uD _ _;simp only[cB];rcases yR H1 H2 with e|e<;>rw[e]<;>apply C5 (T:=λw=>w.a=H1/\w.b=H2) (by kernel_rfl) (by kernel_rfl) hK<;>repeat' apply And.intro
  all_goals first|exact trivial|(intro h;cases h;done)|exactλ_=>⟨rfl,rfl⟩|exactλ_=>r1|exactλ_=>r2|exactλ_=>r3|exactλ_=>r4
 refine rr ?_;refine(kk A2 M2 A.ns _ _ h.bd (h.sh.sub<|bR M2 _) (g1.trans g2) aa h.bu (c1.gw g2)<|(Gm.Rg.leaf hf.1 hfe f1 f2).wk λE he n hn=>?_);obtain⟨n,rfl⟩:∃m,n=m+1:=⟨n-1,aa⟩;refine .inr<|.inr<|.inr<|.inr ⟨hk,k1,a1,he,λl hl=>?_,λhl=>?_⟩
 .have hl:d.G9 i=some l:=hl;rw[hl]at hlp;rcases hlp with⟨_,h⟩|⟨_,h⟩|⟨p1,h⟩
  .cases h
  .cases h
  .cases h;exact⟨p1.1,rfl⟩
 .have hl:d.G9 i=none:=hl;rw[hl]at hlp;rcases hlp with⟨h,_⟩|⟨p1,_⟩|⟨_,h⟩
  .obtain⟨k,h2,h3⟩:=((hQ.rt i hi) hb).1 (by unfold Bb;rw[if_neg aa,if_neg aa,if_neg aa]);rw[hle]at h3;have h3:some (vn k1)=some (vn k):=h3;cases h3;exact absurd h h2
  .exact p1.1
  .cases h
end
section
open Go.Ae Go.Ae.M Go.Proofs.Lv
variable{S:List Nat}
theorem WQ.nil(hQ:WQ d)(hzz:∀i,i<d.nn->∀z∈d.zs i,z<i){n:Nat}(hz:z<d.nn)(h0:W d.ws z=0)(hn:z<n)(f:Nat){E:Nat->List Ed}:Gm.Way d.gm E n z f f:=by
 refine Gm.Way.nil (W:=λk=>if k<d.nn then W d.ws k else 1) (λk hk=>?_) n z hn (by rw[if_pos hz,h0]) f;split at hk
 .next hkn=>
  have h:=hQ.sz k hkn;unfold Dt at h;have hb:Bb (d.kd k)=0:=by omega
  have h1:d.kd k=1:=by unfold Bb at hb;split at hb<;>(try split at hb)<;>(try split at hb)<;>omega
  refine⟨h1,λy hy=>?_⟩;have hy2:=hzz k hkn y hy;rw[if_pos aa];have hs:mh d.ws (d.kd k) (d.zs k)=0:=by omega
  unfold mh at hs;have:=R4 (aZ.2 ⟨y,hy,rfl⟩:W d.ws y+Ez (d.kd k)∈(d.zs k).map λz=>W d.ws z+Ez (d.kd k));exact⟨aa,hy2⟩
 .cases hk
theorem RP.row{F:Nat->Prop}(h:RP F H nn eG kd zs)(hi:i<nn):∃(a:Option Addr)(c:Nat)(t:ByteArray)(xa:Option Addr)(xn xc:Nat)(at':Int),El eG 5 i=[vi (kd i),.slice a (zs i).length c,.string t,.slice xa xn xc,vi at']/\KZ (kd i) (zs i).length/\(∀z∈zs i,z<i)/\(zs i).length<=20001:=let⟨a,c,t,xa,xn,xc,at',h1,_,h3,h4,_,h6⟩:=h i hi;⟨a,c,t,xa,xn,xc,at',h1,h3,h4,h6⟩
section
variable{fr:Nat}{at':Int}
theorem abR(hQ:WQ d)(ih:∀z,z<i->Gj K d z)(h:RY K d (M.map (·.1)) H0 H M [(rb,145,[vi (d.kd i),.slice ka (d.zs i).length kc,.string t,.slice xa xn xc,vi at'])] A)(hi:i<d.nn)(h1:d.kd i=1)(he:El d.eG 5 i=[vi (d.kd i),.slice ka (d.zs i).length kc,.string t,.slice xa xn xc,vi at'])(hz:∀z∈d.zs i,z<i)(hzl:(d.zs i).length<=20001)(hn:A.ns+mh d.ws (d.kd i) (d.zs i)<=4000)(ht:A.tot+2*mh d.ws (d.kd i) (d.zs i)<=20000)(hf:A.cur fr)(hfe:A.E fr=[])(hb:B d.bs i=true)(kk:∀A' M' to c H',Bd d.ra A' M'->SH (M.map (·.1)) H0 H' M'->At.Gw A A' (mh d.ws (d.kd i)<|d.zs i) c->c<=2*mh d.ws (d.kd i) (d.zs i)->At.Bu d.lw A'->A'.cur to->Gm.Rg A A' fr to (d.wy i fr to)->Q (vn to) H'):
 dJ Pg X (.loop<|sub jB [1,1,0,1,0,1,0,0,1,0,0]) (qN (vn i) (vn fr) (pr d.g) (pr d.s) (pr d.w) (pr d.f) (pr d.fe) (pr d.lo) (pr d.p) (pr d.l) gK (pr rb) iL jU qV vv x20 xK F6 yj x24 x25 x32 (.slice ka (d.zs i).length kc) (vn (d.zs i).length) (vn 0) x64 x65 x66 l7 H) (j3 1<|nR Pg X (sub jB [1,1,0,1,0,1,0,1])<|j3 0<|nR Pg X (sub jB [1,1,1])<|f_ Pg [.tmp 12] Q):=by
 have hal:Ez (d.kd i)=0:=by unfold Ez;rw[if_neg aa]
 refine Vg 1 15 38 (I:=λm x1 iL x38 H'=>∃k fk A' M' c,x38=vn k/\k+m=(d.zs i).length/\x1=vn fk/\RY K d (M.map (·.1)) H0 H' M' [(rb,145,[vi (d.kd i),.slice ka (d.zs i).length kc,.string t,.slice xa xn xc,vi at'])] A'/\At.Gw A A' (mh d.ws (d.kd i)<|(d.zs i).take k) c/\c<=2*mh d.ws (d.kd i) ((d.zs i).take k)/\A'.cur fk/\Gm.Rg A A' fr fk λE=>Gm.zx (λz f t=>d.wy z f t E) ((d.zs i).take k) fr fk) ?_ (d.zs i).length ⟨0,fr,A,M,0,rfl,aa,rfl,h,(At.Gw.refl A).cast (by simp[mh]) rfl,aM _,hf,Gm.Rg.nil hf.1 hfe λE=>rfl⟩;have hf0:=hf;clear h hf;rintro m x1 iL x38 l7 H1 ⟨k,fk,A1,M1,c,rfl,hkm,rfl,h,g,hc,hf,hrg⟩;refine tl ?_;refine aF ?_;refine ah (λhc2=>?_) λhc2=>?_;rotate_left
 .obtain rfl:k=(d.zs i).length:=by omega
  rw[kL]at g hc hrg;refine tl ?_;refine aF ?_;refine rr ?_;refine(kk A1 M1 fk c H1 h.bd (h.sh.sub<|bR M1 _) g hc h.bu hf<|hrg.wk λE hE n hn=>?_);obtain⟨n,rfl⟩:∃m,n=m+1:=⟨n-1,aa⟩;exact .inl ⟨h1,hE.mp λz hz2 f t hw=>hw n (by have:=hz z hz2;omega)⟩
 have hk:k<(d.zs i).length:=by omega
 have LK:(d.zs i)[k]?=some (d.zs i)[k]:=ae hk;have hzi:=hz _<|bF hk;generalize(d.zs i)[k]=z at LK hzi;have hks:=K9 (ws:=d.ws) (kd:=d.kd i) LK;have hkl:=Ub d.ws (d.kd i) (d.zs i)<|k+1;have n1:=g.ns;have t1:=g.tt;have hbz:B d.bs z=true:=((hQ.rt i hi) hb).2 z<|aA LK;have htk:(d.zs i).take (k+1)=(d.zs i).take k++[z]:=by rw[ji,LK];rfl
 obtain⟨r,o,rfl,hKr,hcell,hid,_⟩:=K8 h.we hi he LK;refine PU.of hid ?_;refine ME.ld hcell ?_;refine ME.ld h.we.s.2 ?_;refine h.we.rQ aa λp=>?_;refine aF ?_;refine ah (λhc3=>?_) λhc3=>?_
 .refine ME.ld h.we.w.2 ?_;refine h.way (ih z hzi) aa aa hf hrg.e hbz λto H2 M2 A2 c2 h g2 hc2' hto hr2=>?_;refine bE ?_;exact⟨(d.zs i).length-(k+1),aa,_,_,_,_,_,rfl,k+1,to,A2,M2,c+c2,uN,aa,rfl,h,(g.trans g2).cast aa rfl,aa,hto,(hrg.seq hf0.1 hr2).wk λE ⟨h1,h2⟩=>by rw[htk];exact h1.app h2⟩
 .refine bE ?_;exact⟨(d.zs i).length-(k+1),aa,_,_,_,_,_,rfl,k+1,fk,A1,M1,c,uN,aa,rfl,h,g.cast aa rfl,aa,hf,hrg.wk λE h1=>by rw[htk];exact h1.app λn hn=>hQ.nil (λi hi=>(h.we.kid.row hi).elim λ_ h=>by obtain⟨_,_,_,_,_,_,_,_,h,_⟩:=h;exact h) aa aa hn fk⟩
theorem abS{d0 e0:Nat}(hQ:WQ d)(ih:∀z,z<i->Gj K d z)(h:RY K d (M.map (·.1)) H0 H M1 [(rb,145,[vi (d.kd i),.slice ka (d.zs i).length kc,.string t,.slice xa xn xc,vi at'])] A1)(g1:At.Gw A A1 2 c1)(hc1:c1<=1)(hd0:A1.cur d0)(he0:A1.cur e0)(hi:i<d.nn)(h1:d.kd i=0)(he:El d.eG 5 i=[vi (d.kd i),.slice ka (d.zs i).length kc,.string t,.slice xa xn xc,vi at'])(hz:∀z∈d.zs i,z<i)(hzl:(d.zs i).length<=20001)(hn:A.ns+(2+mh d.ws (d.kd i) (d.zs i))<=4000)(ht:A.tot+2*(2+mh d.ws (d.kd i) (d.zs i))<=20000)(hb:B d.bs i=true)(hne:d.zs i≠[])(R5:∀R,Gm.Fan A A1 fr d0 e0 [] R []){x1:Value}(kk:∀A' M' to c H',Bd d.ra A' M'->SH (M.map (·.1)) H0 H' M'->At.Gw A A' (2+mh d.ws (d.kd i) (d.zs i)) c->c<=2*(2+mh d.ws (d.kd i) (d.zs i))->At.Bu d.lw A'->A'.cur to->Gm.Rg A A' fr to (d.wy i fr to)->Q (vn to) H'):
 dJ Pg X (.loop<|sub jB [1,1,0,1,0,1,1,1,0,1,1,1,0,1,0,0]) (qN (vn i) x1 (pr d.g) (pr d.s) (pr d.w) (pr d.f) (pr d.fe) (pr d.lo) (pr d.p) (pr d.l) gK gq iL (vn d0) (vn e0) vv x20 xK F6 yj x24 x25 x32 Ml Az x38 (.slice ka (d.zs i).length kc) (vn (d.zs i).length) (vn 0) l7 H) (j3 3<|nR Pg X (sub jB [1,1,0,1,0,1,1,1,0,1,1,1,1])<|j3 0<|nR Pg X (sub jB [1,1,1])<|f_ Pg [.tmp 12] Q):=by
 have hal:Ez (d.kd i)=1:=by unfold Ez;rw[if_pos h1]
 refine Vg 19 20 66 (I:=λm vv x20 x66 H'=>∃k A' M' c,x66=vn k/\k+m=(d.zs i).length/\RY K d (M.map (·.1)) H0 H' M' [(rb,145,[vi (d.kd i),.slice ka (d.zs i).length kc,.string t,.slice xa xn xc,vi at'])] A'/\At.Gw A A' (2+mh d.ws (d.kd i) ((d.zs i).take k)) c/\c+3<=2*(2+mh d.ws (d.kd i) ((d.zs i).take k))/\A'.cur d0/\A'.cur e0/\∃bs,Gm.Fan A A' fr d0 e0 ((d.zs i).take k) (λE z f t=>d.wy z f t E) bs) ?_ (d.zs i).length ⟨0,A1,M1,c1,rfl,aa,h,g1.cast (by simp[mh]) rfl,aa,hd0,he0,[],R5 _⟩;clear h hd0 he0 g1 hc1 R5;rintro m vv x20 x66 l7 H1 ⟨k,A2,M2,c,rfl,hkm,h,g,hc,hd0,he0,bs,R5⟩;refine tl ?_;refine aF ?_;refine ah (λhc2=>?_) λhc2=>?_;rotate_left
 .obtain rfl:k=(d.zs i).length:=by omega
  rw[kL]at g hc R5;refine tl ?_;refine aF ?_;refine rr ?_;refine(kk A2 M2 e0 c H1 h.bd (h.sh.sub<|bR M2 _) g aa h.bu he0<|(R5.end hne).wk λE ⟨d1,bs,h2,h3,h4,h5,h6⟩ n hn=>?_);obtain⟨n,rfl⟩:∃m,n=m+1:=⟨n-1,aa⟩;exact .inr<|.inl ⟨h1,d1,bs,h2,h3,h4,h5,λi' z b hz1 hb1=>let⟨c,h7,h8⟩:=h6 i' z b hz1 hb1;⟨c,h7 n (by have:=hz z<|aA hz1;omega),h8⟩⟩
 have hk:k<(d.zs i).length:=by omega
 have LK:(d.zs i)[k]?=some (d.zs i)[k]:=ae hk;have hzi:=hz _<|bF hk;generalize(d.zs i)[k]=z at LK hzi;have hks:=K9 (ws:=d.ws) (kd:=d.kd i) LK;have hkl:=Ub d.ws (d.kd i) (d.zs i)<|k+1;have n1:=g.ns;have t1:=g.tt;have hbz:B d.bs z=true:=((hQ.rt i hi) hb).2 z<|aA LK;have htk:(d.zs i).take (k+1)=(d.zs i).take k++[z]:=by rw[ji,LK];rfl
 obtain⟨r,o,rfl,hKr,hcell,hid,_⟩:=K8 h.we hi he LK;refine PU.of hid ?_;refine ME.ld hcell ?_;refine ME.ld h.we.f.2 ?_;refine h.fresh aa λH2 M2 A3 h g3 cb f3=>?_;have n3:=g3.ns;have t3:=g3.tt;have g:=g.trans g3;have hd0:=hd0.gw g3;have he0:=he0.gw g3;refine ME.ld h.we.fe.2 ?_;refine h.free hd0 cb aa λ_ H3 M3 A4 h g4 f4=>?_;have n4:=g4.ns;have t4:=g4.tt;have g:=g.trans g4;have hd0:=hd0.gw g4;have he0:=he0.gw g4;have cb:=cb.gw g4;refine ME.ld (H:=hN H3) h.we.fe.2 ?_;simp only[eF h.sh.wf];refine ME.ld (H:=hN H3) h.we.w.2 ?_;simp only[eF h.sh.wf];have hbe:A4.E A2.ns=[]:=by rw[f4.e _ (by have:=R5.hd;omega),f3.e,f3.o]
 have h6:=h;refine h.aeO (ih z hzi) aa aa cb hbe hbz λto H4 M4 A5 c5 h g5 b5 cto f5 hx4=>?_;have n5:=g5.ns;have t5:=g5.tt;have g:=g.trans g5;have hd0:=hd0.gw g5;have he0:=he0.gw g5;refine h.ado cto he0 aa λv5 H5 M5 A6 h8 g6 f6 hx5=>?_;have n6:=g6.ns;have t6:=g6.tt;have g:=g.trans g6;refine(show∀K:Prop,K->_/\K fromλKz hK=>?_) _ ?_
 .have rd:∀{r o v},K r->H3.cell r o=some v->lX v v=true->∀w:Cl,((w.a=H3/\w.b=H4)\/(w.a=hM H3 H4/\w.b=H5))->ng w ⟨4,r,o,1,hh0,hh0⟩=true:=by
   intro r o v hr hc hs w hw;rcases hw with hw|hw
   .exact h6.rd hx4 (.inl hr) hc hs hw
   .exact h.rd hx5 (.inl hr) (h6.keep hx4 (.inl hr) hc) hs hw
  have r1:=rd h6.we.fe.1 h6.we.fe.2<|PG d;have r2:=rd h6.we.w.1 h6.we.w.2<|Nb d;simp only[cB];rcases yR H3 H4 with e|e<;>rw[e]<;>rcases yR (hM H3 H4) H5 with e|e<;>rw[e]<;>apply C5 (T:=λw=>(w.a=H3/\w.b=H4)\/(w.a=hM H3 H4/\w.b=H5)) (by kernel_rfl) (by kernel_rfl) hK<;>repeat' apply And.intro
  all_goals first|exact trivial|(intro h;cases h;done)|exactλ_=>.inl ⟨rfl,rfl⟩|exactλ_=>.inr ⟨rfl,rfl⟩|exactλ_=>r1|exactλ_=>r2
 refine bE ?_;exact⟨(d.zs i).length-(k+1),aa,_,_,_,_,_,rfl,k+1,A6,M5,_,uN,aa,h8,g.cast aa rfl,aa,hd0.gw g6,he0.gw g6,bs++[A2.ns],by rw[htk];exact R5.add f3 f4 f5 f6⟩
end
end
section
open Go.Ae Go.Ae.M Go.Proofs.Lv
variable{S:List Nat}
theorem ZT{fr:Nat}{at':Int}(hwz:Gj K d z)(h:RY K d (M.map (·.1)) H0 H M [(rb,145,[vi (d.kd i),.slice ka 1 kc,.string t,.slice xa xn xc,vi at'])] A)(hi:i<d.nn)(h4:d.kd i=4)(he:El d.eG 5 i=[vi (d.kd i),.slice ka 1 kc,.string t,.slice xa xn xc,vi at'])(hz:(d.zs i)[0]?=some z)(hn:A.ns+(3+W d.ws z)<=4000)(ht:A.tot+2*(3+W d.ws z)<=20000)(hf:A.cur fr)(hfe:A.E fr=[])(hbz:B d.bs z=true)(hz1:d.zs i=[z])(hzi:z<i)(hlk:BA l7 85=.bool false)(kk:∀A' M' to c H',Bd d.ra A' M'->SH (M.map (·.1)) H0 H' M'->At.Gw A A' (3+W d.ws z) c->c<=2*(3+W d.ws z)->At.Bu d.lw A'->A'.cur to->Gm.Rg A A' fr to (d.wy i fr to)->Q (vn to) H'):
 dJ Pg X (sub jB [1,1,0,1,0,1,1,1,1,1]) (qN (vn i) (vn fr) (pr d.g) (pr d.s) (pr d.w) (pr d.f) (pr d.fe) (pr d.lo) (pr d.p) (pr d.l) gK (pr rb) iL jU qV vv x20 xK F6 yj x24 x25 (vi<|d.kd i) Ml Az x38 x64 x65 x66 l7 H) (j3 0<|nR Pg X (sub jB [1,1,1])<|f_ Pg [.tmp 12] Q):=by
 obtain⟨rk,ok,rfl,_⟩:=K8 h.we hi he hz
 have hm:∀{H' M' A'},RY K d (M.map (·.1)) H0 H' M' [(rb,145,[vi (d.kd i),.slice (some ⟨rk,ok,none⟩) 1 kc,.string t,.slice xa xn xc,vi at'])] A'->H'.cell rb 1=some (.slice (some ⟨rk,ok,none⟩) 1 kc):=λh=>by
  have hb:=h.sh.bk _<|bD _<|aD ..
  exact hb.cell rfl
 refine tl ?_;rw[hlk];refine aF ?_;refine ah (λ_=>?_) λhc=>absurd h4 hc;refine ME.ld h.we.f.2 ?_;refine h.fresh aa λH1 M1 A1 h g1 cb f1=>?_;have n1:=g1.ns;have t1:=g1.tt;refine ME.ld h.we.fe.2 ?_;refine h.free (hf.gw g1) cb aa λ_ H2 M2 A2 h g2 f2=>?_;have n2:=g2.ns;have t2:=g2.tt;have g:=g1.trans g2;have cb:=cb.gw g2;refine ME.ld (H:=hN H2) h.we.w.2 ?_;simp only[eF h.sh.wf,PP];have hmc:=hm h;refine ME.ld (H:=hN H2) hmc ?_;simp only[eF h.sh.wf];obtain⟨rk',ok',e1,hKr,hkc,hid,_⟩:=K8 h.we hi he hz;cases e1;refine PU.of hid ?_;refine ME.ld (H:=hN H2) hkc ?_;simp only[eF h.sh.wf];have hbe:A2.E A.ns=[]:=by rw[f2.e _ (by have:=hf.1;omega),f1.e,f1.o]
 have h6:=h;refine h.aeO hwz aa aa cb hbe hbz λla H3 M3 A3 c3 h g3 b3 cl f3 hx3=>?_;have n3:=g3.ns;have t3:=g3.tt;have g:=g.trans g3;have cb:=cb.gw g3;refine(show∀K:Prop,K->_/\K fromλKz hK=>?_) _ ?_
 .have rd:∀{r o v},(K r\/∃e∈[((rb,145,[vi (d.kd i),.slice (some ⟨rk,ok,none⟩) 1 kc,.string t,.slice xa xn xc,vi at']):cz)],e.1=r)->H2.cell r o=some v->lX v v=true->∀w:Cl,(w.a=H2/\w.b=H3)->ng w ⟨4,r,o,1,hh0,hh0⟩=true:=λhr hc hs w hw=>h6.rd hx3 hr hc hs hw;have r2:=rd (.inl h6.we.w.1) h6.we.w.2<|Nb d;have r3:=rd (.inr ⟨_,aD ..,rfl⟩) (hm h6) (qK _ _ _ λx h=>by cases h;rfl);have r4:=rd (.inl hKr) hkc<|uD _ _;simp only[cB];rcases yR H2 H3 with e|e<;>rw[e]<;>apply C5 (T:=λw=>w.a=H2/\w.b=H3) (by kernel_rfl) (by kernel_rfl) hK<;>repeat' apply And.intro
  all_goals first|exact trivial|(intro h;cases h;done)|exactλ_=>⟨rfl,rfl⟩|exactλ_=>r2|exactλ_=>r3|exactλ_=>r4
 refine ME.ld h.we.f.2 ?_;refine h.fresh aa λH4 M4 A4 h g4 cd f4=>?_;have n4:=g4.ns;have t4:=g4.tt;have g:=g.trans g4;have cl:=cl.gw g4;have cb:=cb.gw g4;refine ME.ld h.we.fe.2 ?_;refine h.free cl cd aa λ_ H5 M5 A5 h g5 f5=>?_;have n5:=g5.ns;have t5:=g5.tt;have g:=g.trans g5;have cd:=cd.gw g5;have cb:=cb.gw g5;refine ME.ld h.we.fe.2 ?_;refine h.free cd cb aa λ_ H6 M6 A6 h g6 f6=>?_;have n6:=g6.ns;have t6:=g6.tt;have g:=g.trans g6;have cd:=cd.gw g6;refine ME.ld h.we.f.2 ?_;refine h.fresh aa λH7 M7 A7 h g7 ce f7=>?_;have n7:=g7.ns;have t7:=g7.tt;have g:=g.trans g7;have cd:=cd.gw g7;refine ME.ld h.we.fe.2 ?_;refine h.free cd ce aa λ_ H8 M8 A8 h g8 f8=>?_;have n8:=g8.ns;have t8:=g8.tt;have g:=g.trans g8;refine rr ?_;refine(kk A8 M8 A6.ns _ _ h.bd (h.sh.sub<|bR M8 _) (g.cast aa rfl) aa h.bu (ce.gw g8)<|(Gm.Rg.plus hf.1 hfe f1 f2 f3 f4 f5 f6 f7 f8).wk λE ⟨d1,b,e1,e2,e3,e4,e5⟩ n hn=>?_);obtain⟨n,rfl⟩:∃m,n=m+1:=⟨n-1,aa⟩;exact .inr<|.inr<|.inr<|.inl ⟨h4,z,d1,b,la,hz1,e1,e2,(e5▸e3) n aa,e4⟩
theorem aeP(hQ:WQ d):∀i,i<d.nn->Gj K d i:=by
 intro i
 induction i using Nat.strongRecOn with
 |ind i ih=>
  intro hi S H0 H M L A fr h hn ht hf hfe hb;have h:=h.own;obtain⟨ka,kc,t,xa,xn,xc,at',he,hfit,hz,hzl⟩:=h.we.kid.row hi;have ih:∀z,z<i->Gj K d z:=λz hz=>ih z hz aa;have hbk:=((hQ.rt i hi) hb).2;have hsz:=hQ.sz i hi;unfold Dt at hsz;have hW:W d.ws i=Bb (d.kd i)+mh d.ws (d.kd i) (d.zs i):=by omega
  refine ce [0,1,2,3,4,5,6,7,8,9,12,13,15,16,17,19,20,21,22,23,24,25,32,36,37,38,64,65,66] ?_;refine tl ?_;refine aF ?_;refine ME.ld h.we.g.2 ?_;refine h.we.nd.ixN aa hi he λp=>?_;refine(SH.refl h.sh.wf).ns rfl rfl rfl λH1 rb hS1 _=>?_;have h:RY K d (M.map (·.1)) H H1 M [(rb,145,[vi (d.kd i),.slice ka (d.zs i).length kc,.string t,.slice xa xn xc,vi at'])] A:=h.ag4 hS1;have hm:∀{H' M' A'},RY K d (M.map (·.1)) H H' M' [(rb,145,[vi (d.kd i),.slice ka (d.zs i).length kc,.string t,.slice xa xn xc,vi at'])] A'->Bk H' rb 145 [vi (d.kd i),.slice ka (d.zs i).length kc,.string t,.slice xa xn xc,vi at']:=λh=>h.sh.bk _<|bD _<|aD ..
  refine aF ?_;refine ME.ld ((hm h).cell (o:=0) rfl) ?_;refine aF ?_;have fin:∀A' M' to c H',Bd d.ra A' M'->SH (M.map (·.1)) H H' M'->At.Gw A A' (W d.ws i) c->c<=2*W d.ws i->At.Bu d.lw A'->A'.cur to->Gm.Rg A A' fr to (d.wy i fr to)->aeN d i fr A M H (vn to) H':=λA' M' to c H' a1 a2 a3 a4 a5 a6 a7=>⟨A',M',to,c,rfl,a1,a2,a3,a4,a5,a6,a7⟩;refine ah (λh1=>?_) λh1=>?_
  .refine ME.ld ((hm h).cell (o:=1) rfl) ?_;refine aF ?_;have hbs:Bb (d.kd i)=0:=by unfold Bb;rw[if_neg aa,if_pos h1]
   have e:W d.ws i=mh d.ws (d.kd i) (d.zs i):=by omega
   rw[e]at fin;exact abR hQ ih h hi h1 he hz hzl aa aa hf hfe hb fin
  refine ah (λh0=>?_) λh0=>?_
  .have hbs:Bb (d.kd i)=2:=by unfold Bb;rw[if_pos h0]
   have e:W d.ws i=2+mh d.ws (d.kd i) (d.zs i):=by omega
   rw[e]at fin;refine ME.ld h.we.f.2 ?_;refine h.fresh aa λH2 M2 A2 h g2 cd f2=>?_;have n2:=g2.ns;have t2:=g2.tt
   have hne:d.zs i≠[]:=λe=>by
    have hl:(d.zs i).length=0:=by rw[e];rfl
    rcases hfit with h|h|h|h<;>omega
   refine ME.ld h.we.fe.2 ?_;refine h.free (hf.gw g2) cd aa λ_ H3 M3 A3 h g3 f3=>?_;have n3:=g3.ns;have t3:=g3.tt;have g:=g2.trans g3;refine ME.ld h.we.f.2 ?_;refine h.fresh aa λH4 M4 A4 h g4 ce f4=>?_;have n4:=g4.ns;have t4:=g4.tt;have g:=g.trans g4;refine ME.ld ((hm h).cell (o:=1) rfl) ?_;refine aF ?_;exact abS hQ ih h g aa ((cd.gw g3).gw g4) ce hi h0 he hz hzl aa aa hb hne (λR=>Gm.Fan.nil hf.1 hfe f2 f3 f4) fin
  have three:(d.kd i=2\/d.kd i=3\/d.kd i=4)->∃z,d.zs i=[z]/\z<i/\W d.ws i=3+W d.ws z:=λhk=>by
   have hl:(d.zs i).length=1:=by rcases hfit with h|h|h|h<;>omega
   obtain⟨z,hz1⟩:=p9.1 hl;refine⟨z,hz1,hz z (by rw[hz1];simp),?_⟩;rw[hW,hz1];have hbs:Bb (d.kd i)=3:=by unfold Bb;rw[if_neg aa,if_neg aa,if_pos hk]
   have ha:Ez (d.kd i)=0:=by unfold Ez;rw[if_neg aa]
   unfold mh;simp[hbs,ha]
  have one:¬(d.kd i=2\/d.kd i=3\/d.kd i=4)->W d.ws i=1:=λhk=>by
   have hl:(d.zs i).length=0:=by rcases hfit with h|h|h|h<;>omega
   have hz0:=bK.1 hl;rw[hW,hz0];have hbs:Bb (d.kd i)=1:=by unfold Bb;rw[if_neg aa,if_neg aa,if_neg hk]
   rw[hbs];rfl
  have loop:∀{gK iL jU qV vv x20 xK F6 yj x24 x25 Ml Az x38 x64 x65 x66:Value}{l7:List (Nat×Value)},(d.kd i=2\/d.kd i=3)->BA l7 85=.bool true->dJ Pg X (sub jB [1,1,0,1,0,1,1,1,1,1]) (qN (vn i) (vn fr) (pr d.g) (pr d.s) (pr d.w) (pr d.f) (pr d.fe) (pr d.lo) (pr d.p) (pr d.l) gK (pr rb) iL jU qV vv x20 xK F6 yj x24 x25 (vi<|d.kd i) Ml Az x38 x64 x65 x66 l7 H1) (j3 0<|nR Pg X (sub jB [1,1,1])<|f_ Pg [.tmp 12]<|aeN d i fr A M H):=by
   intro gK iL jU qV vv x20 xK F6 yj x24 x25 Ml Az x38 x64 x65 x66 l7 hk hlk;obtain⟨z,hz1,hzi,e⟩:=three aa;rw[e]at fin hn ht;have hz0:(d.zs i)[0]?=some z:=by rw[hz1];rfl
   have hl:(d.zs i).length=1:=by rw[hz1];rfl
   refine tl ?_;rw[hlk];refine aF ?_;refine ME.ld h.we.lo.2 ?_;refine ME.CU ((hm h).read (o:=0) (n:=5) (by show 0+5<=5;omega)) ?_;show az Pg X 159 [.agg ⟨[vi (d.kd i),.slice ka (d.zs i).length kc,.string t,.slice xa xn xc,vi at']⟩,vn fr,pr d.f,pr d.fe,pr d.w] H1 _;rw[hl]at he|-;refine az.mono (VI (ih z hzi) h hi he hz0 hn ht hf hfe<|hbk z (by rw[hz1];simp)) ?_;rintro v H2 ⟨A',M',to,c,rfl,b1,b2,b3,b4,b5,b6,b7⟩;refine rr ?_;refine(fin A' M' to c H2 b1 ((SH.frame h.sh b2).sub<|bR M' _) b3 b4 b5 b6<|b7.wk λE ⟨d1,b,c,e1,e2,e3,e4⟩ n hn=>?_);obtain⟨n,rfl⟩:∃m,n=m+1:=⟨n-1,aa⟩;exact .inr<|.inr<|.inl ⟨hk,z,d1,b,c,hz1,e1,e2,e3 n aa,e4⟩
  refine ah (λh2=>?_) λh2=>?_
  .exact loop (.inl h2) (by show Value.bool (decide<|d.kd i=2)=_;rw[aS h2])
  by_cases h3:d.kd i=3
  .exact loop (.inr h3) (by show Value.bool (decide<|d.kd i=3)=_;rw[aS h3])
  by_cases h4:d.kd i=4
  .obtain⟨z,hz1,hzi,e⟩:=three aa;rw[e]at fin hn ht;have hz0:(d.zs i)[0]?=some z:=by rw[hz1];rfl
   have hl:(d.zs i).length=1:=by rw[hz1];rfl
   rw[hl]at he h;exact ZT (ih z hzi) h hi h4 he hz0 hn ht hf hfe (hbk z (by rw[hz1];simp)) hz1 hzi (by show Value.bool (decide<|d.kd i=3)=_;rw[bM h3]) fin
  .have e:=one aa;rw[e]at fin hn ht;refine tl ?_;refine aF ?_;refine ah (λhc=>absurd hc h3) λ_=>?_;refine ah (λhc=>absurd hc h4) λ_=>?_;exact ZS hQ h hi hn ht hf hfe (by rcases hfit with h|h|h|h<;>omega) hb fin
end
section
open Go.Ae Go.Ae.M Go.Proofs.Lv
variable{S:List Nat}
theorem VJ(hw:Wf H){ra:Option Addr}{rn:Nat}{lv:Value}(hl:∃a n c,lv=.slice a n c)(hs:∃a n c,sv=.slice a n c):az Pg X 120 [gV ra rn rc na nn nc,lv,sv,.func (.func 118) ⟨[]⟩ ⟨[pr rb]⟩,.func (.func 119) ⟨[]⟩ ⟨[pr rb]⟩] H λv H'=>∃g s w f fe lo p l,v=.func (.func 160) ⟨[]⟩ ⟨[pr g,pr s,pr w,pr f,pr fe,pr lo,pr p,pr l]⟩/\Ext H H'/\(∀r∈[g,s,w,f,fe,lo,p,l],H.next<=r/\r<H'.next)/\H'.cell g 1=some (.slice na nn nc)/\H'.cell s 0=some sv/\H'.cell w 0=some v/\H'.cell f 0=some (.func (.func 118) ⟨[]⟩ ⟨[pr rb]⟩)/\H'.cell fe 0=some (.func (.func 158) ⟨[]⟩ ⟨[pr p]⟩)/\H'.cell lo 0=some (.func (.func 159) ⟨[]⟩ ⟨[pr f,pr fe,pr w]⟩)/\H'.cell p 0=some (.func (.func 119) ⟨[]⟩ ⟨[pr rb]⟩)/\H'.cell l 0=some lv:=by
 obtain⟨la,ln,lc,rfl⟩:=hl;obtain⟨sa,sn,sc,rfl⟩:=hs;have hS:=SH.refl hw;refine ce [0,1,2,3,4,5,6,7,8,9,10,11,12,13] ?_;refine tl ?_;refine hS.box rfl λH1 g hS=>?_;refine hS.box rfl λH2 l hS=>?_;refine hS.box rfl λH3 s hS=>?_;refine hS.box rfl λH4 f hS=>?_;refine hS.box rfl λH5 p hS=>?_;refine hS.iI λH6 fe hS=>?_;refine hS.kJ λHn hS=>?_;refine hS.iI λH7 w hS=>?_;refine hS.iI λH8 lo hS=>?_
 repeat(first|(refine hS.dQ ?_)|(refine hS.kJ λHn hS=>?_))
 refine rr ?_;refine⟨g,s,w,f,fe,lo,p,l,rfl,hS.ext,?_,(hS.get 7 rfl).cell rfl,(hS.get 5 rfl).cell rfl,(hS.get 1 rfl).cell rfl,(hS.get 4 rfl).cell rfl,(hS.get 2 rfl).cell rfl,(hS.get 0 rfl).cell rfl,(hS.get 3 rfl).cell rfl,(hS.get 6 rfl).cell rfl⟩;intro r hr;simp only[bP,kK,uP]at hr;rcases hr with rfl|rfl|rfl|rfl|rfl|rfl|rfl|rfl
 .exact⟨hS.zN<|aA (i:=7) rfl,(hS.lo _<|aA (i:=7) rfl).2⟩
 .exact⟨hS.zN<|aA (i:=5) rfl,(hS.lo _<|aA (i:=5) rfl).2⟩
 .exact⟨hS.zN<|aA (i:=1) rfl,(hS.lo _<|aA (i:=1) rfl).2⟩
 .exact⟨hS.zN<|aA (i:=4) rfl,(hS.lo _<|aA (i:=4) rfl).2⟩
 .exact⟨hS.zN<|aA (i:=2) rfl,(hS.lo _<|aA (i:=2) rfl).2⟩
 .exact⟨hS.zN<|aA (i:=0) rfl,(hS.lo _<|aA (i:=0) rfl).2⟩
 .exact⟨hS.zN<|aA (i:=3) rfl,(hS.lo _<|aA (i:=3) rfl).2⟩
 .exact⟨hS.zN<|aA (i:=6) rfl,(hS.lo _<|aA (i:=6) rfl).2⟩
theorem Bd.name(hB:Bd ra A M)(hS:SH S H0 H<|M++L)(hn:A.nr<=1000):∃v,H.cell ra 0=some v/\∀{Kp:Value->Value->Value->ag->Prop},(∀w v' u H' M',Bd ra (A.ru nm) M'->SH (M.map (·.1)) H H' M'->Kp w v' u H')->
 ME (bS 9 [.string ⟨#[]⟩] 1 1 [(0,.string nm)] H) λw H1=>ME (Bz 9 1 v w H1) λv2 H2=>ME (CS 1 (pr ra) v2 H2) λu H3=>Kp w v2 u H3:=by
 have hS:=SH.own hS;obtain⟨nv,sv,pv,ov,ev,evs,gn,gs,gp,go,ge,R,rfl,hgn,hgs,Vu,hgo,hge,hR⟩:=hB;refine⟨nv,(hS.get 0 rfl).cell rfl,λ{Kp} kk=>?_⟩;refine hgn.push (hS.perm<|mI [_] gn _) aa rfl rfl rfl rfl rfl aa (by rw[aC];unfold At.nr at hn;omega) λw v' H1 gn' ag5 hS=>?_;have hS:=hS.perm<|mI gn' [(ra,26,[nv,sv,pv,ov,ev,vn A.ty])] _;obtain⟨na',nc',rfl⟩:=ag5.Qj;refine hS.st 0 rfl rfl (by show 0+1<=6;omega) rfl λH2 hS=>?_;refine kk _ _ _ H2 _ ⟨_,sv,pv,ov,ev,evs,gn',gs,gp,go,ge,R,rfl,?_,hgs,Vu,hgo,hge,hR⟩ hS;have:(A.ru nm).nm.map Value.string=A.nm.map Value.string++aX (.string nm):=by show(A.nm++[nm]).map Value.string=_;simp;rfl
 rw[this];exact ag5
end
section
open Go.Ae Go.Ae.M Go.Proofs.Lv
variable{S:List Nat}
theorem _root_.Go.Ae.GB.same(h:GB ty es v cs gb):lX v v=true:=by
 rcases h with⟨rfl,_⟩|⟨r,n,dH,rfl,_⟩
 .exact qK _ _ _ λx h=>by cases h
 .exact qK _ _ _ λx h=>by cases h;rfl
theorem RY.put{a:Nat}{Kp:Value->ag->Prop}(h:RY K d S H0 H M L A)(ha:A.cur a)(hb:A.cur e.2.2)(he:At.EdL d.lw A.ty e)(ht:A.tot<=1000000)(kk:∀v H' M' A',RY K d S H0 H' M' L A'->At.Gw A A' 0 1->Gm.Pu A A' a e->Kp v H'):lK Pg X (KA d.pv) [vn a,.agg ⟨[vn e.1,vn e.2.1,vn e.2.2]⟩] H Kp:=by
 show az Pg X 119 [vn a,_,pr d.ra] H Kp;refine az.mono (M_ (e:=e) h.bd h.sh ha.1 h.bu.BJ ht) ?_;rintro v H' ⟨M',h1,h2⟩;exact kk v H' M' _ (h.step h1 h2 (At.Gw.pu h.bu.BJ ha.1 _)<|h.bu.puC ha hb he) (At.Gw.pu h.bu.BJ ha.1 _)<|Gm.Pu.of h.bu.BJ ha.1 _
structure RZ(K:Nat->Prop)(d:WD)(S:List Nat)(H0 H:ag)(M L:List cz)(A:At):Prop where
 we:WE K d H
 nk:∀r∈M.map (·.1),¬K r
 bd:Bd d.ra A M
 sh:SH S H0 H (M++L)
 bs:At.Bs' d.lw A
 ty:A.ty=d.tn
 few:A.nr<=120
 tt:A.tot<=2*A.ns
theorem RZ.ext{H1:ag}{L':List cz}(h:RZ K d S H0 H M L A)(hx:Ext H H1)(hS:SH S H0 H1<|M++L'):RZ K d S H0 H1 M L' A:=⟨h.we.stay hx (λr hr=>nomatch hr),h.nk,h.bd,hS,h.bs,h.ty,h.few,h.tt⟩
theorem RZ.nks(h:RZ K d S H0 H M L A)(hS:SH (M.map (·.1)) H H' M'):∀r∈M'.map (·.1),¬K r:=λr hr hk=>by
 obtain⟨e,he,rfl⟩:=aZ.1 hr;rcases(hS.lo e he).1 with h1|h1
 .exact h.nk _ h1 hk
 .have:=h.we.hK _ hk;omega
theorem RY.ends{a:Nat}(h:RY K d S H0 H M L A)(hl:A.st.length<=1000)(hl2:A.sp.length<=1000){O:Array Oper}{Kp:Value->ag->Value->ag->Value->ag->Value->ag->Value->ag->Value->ag->Value->ag->Value->ag->Prop}(hO:O=opsOf (sub Au [1,1,1,1,1,0,1,0,0,1,1,0,0,1,1,1,1,0]))(kk:∀v1 Nc v2 PI v3 R6 v4 VK v5 ZU v6 H42 v7 H45 v8 H48 M',RY K d S H0 (hM (hM (hM (hM (hM (hM (hM (hM H Nc) PI) R6) VK) ZU) H42) H45) H48) M' L (A.se a b)->Kp v1 Nc v2 PI v3 R6 v4 VK v5 ZU v6 H42 v7 H45 v8 H48):
 ME (rQ none (.pointer<|some ⟨d.ra,1,none⟩)<|hN H) λv32 Nc=>
 ME (bS 3 [(Value.int .i64 0)] 1 1 [(0,vn a)]<|hN<|hM H Nc) λv34 PI=>
 ME (Bz 3 1 v32 v34<|hN<|hM (hM H Nc) PI) λv36 R6=>
 ME (rQ none (.pointer<|some ⟨d.ra,2,none⟩)<|hN<|hM (hM (hM H Nc) PI) R6) λv39 VK=>
 ME (bS 3 [(Value.int .i64 0)] 1 1 [(0,vn b)]<|hN<|hM (hM (hM (hM H Nc) PI) R6) VK) λv41 ZU=>
 ME (Bz 3 1 v39 v41<|hN<|hM (hM (hM (hM (hM H Nc) PI) R6) VK) ZU) λv43 H42=>
 ME (CS 1 (.pointer<|some ⟨d.ra,1,none⟩) v36<|hN<|hM (hM (hM (hM (hM (hM H Nc) PI) R6) VK) ZU) H42) λu46 H45=>
 ME (CS 1 (.pointer<|some ⟨d.ra,2,none⟩) v43<|hN<|hM (hM (hM (hM (hM (hM (hM H Nc) PI) R6) VK) ZU) H42) H45) λu49 H48=>
 gQ O [(clS (.pointer<|some ⟨d.ra,2,none⟩) v43 (hM (hM (hM (hM (hM (hM (hM H Nc) PI) R6) VK) ZU) H42) H45) H48),(cl 0),(clS (.pointer<|some ⟨d.ra,1,none⟩) v36 (hM (hM (hM (hM (hM (hM H Nc) PI) R6) VK) ZU) H42) H45),(cl 0),(E7 (hM (hM (hM (hM (hM H Nc) PI) R6) VK) ZU) H42),(S8 (hM (hM (hM (hM H Nc) PI) R6) VK) ZU),(cl 0),(clL 1 (.pointer<|some ⟨d.ra,2,none⟩) (hM (hM (hM H Nc) PI) R6) VK),(cl 0),(E7 (hM (hM H Nc) PI) R6),(S8 (hM H Nc) PI),(cl 0),(clL 1 (.pointer<|some ⟨d.ra,1,none⟩) H Nc),(cl 0)]=true/\Kp v32 Nc v34 PI v36 R6 v39 VK v41 ZU v43 H42 u46 H45 u49 H48:=by
 subst hO;have hS0:=SH.own h.sh;obtain⟨nv,sv,pv,ov,ev,evs,gn,gs,gp,go,ge,R,rfl,hgn,hgs,Vu,hgo,hge,hR⟩:=id h.bd
 have hS:=hS0.perm (L':=(d.ra,26,[nv,sv,pv,ov,ev,vn A.ty])::(gs++(gp++(gn++(go++(ge++R)))))) (by
  have p1:=mI gn gs<|gp++(go++(ge++R));have p2:=mI gn gp<|go++(ge++R);exact(p1.trans<|iV gs p2).cons _)
 refine hS.kI ?_;simp only[eF hS.wf];refine hS.U8 rfl rfl rfl aa λH1 rx hS qP=>?_;have hX1:=hS.get 1 rfl;have hS:=(hS.to (cs':=[vn a]) rfl).perm<|(mI [_] gs _).cons _;refine hgs.Ou hS aa rfl rfl (by rw[aC];omega) λv' H2 gs' hgs' hS _ _ hc1=>?_;have hS:=hS.perm<|mI gs' [_] _;simp only[a_,bB]at hS;have hY1:=(hS.get 0 rfl).mR (H':=H2) rfl;generalize hz1:hM (hM H H1) H2=Z1 at hS|-;have hwZ:=hS.wf;refine hS.kI ?_;simp only[eF hS.wf];refine hS.U8 rfl rfl rfl aa λH3 ry hS uI=>?_;have hX2:=hS.get 1 rfl
 have hS:=(hS.to (cs':=[vn b]) rfl).perm (L':=(ry,3,[vn b])::(gp++((d.ra,26,[nv,sv,pv,ov,ev,vn A.ty])::(gs'++(gn++(go++(ge++R))))))) (by
  have:=mI ((d.ra,26,[nv,sv,pv,ov,ev,vn A.ty])::gs') gp<|gn++(go++(ge++R));exact this.cons _)
 refine Vu.Ou hS aa rfl rfl (by rw[aC];omega) λw' H4 gp' ag6 hS _ _ hc2=>?_;have hS:=hS.perm<|jE;have hY2:=(hS.get 0 rfl).mR (H':=H4) rfl;obtain⟨va,vc,rfl⟩:=hgs'.Qj;obtain⟨wa,wc,rfl⟩:=ag6.Qj;refine hS.qJ λH5 hS=>?_;have hS:=hS.to (cs':=[nv,.slice va (fG A.st++[vn a]).length vc,pv,ov,ev,vn A.ty]) rfl;refine hS.qJ λH6 hS=>?_;have hS:=hS.to (cs':=[nv,.slice va (fG A.st++[vn a]).length vc,.slice wa (fG A.sp++[vn b]).length wc,ov,ev,vn A.ty]) rfl;refine(show∀K:Prop,K->_/\K fromλKz hK=>?_) _ ?_
 .have sm:∀{o},(o=1\/o=2)->∀v∈(([nv,sv,pv,ov,ev,vn A.ty]:List Value).drop o).take 1,lX v v=true:=λho v hv=>by
   rcases ho with rfl|rfl
   .have hv:v∈[sv]:=hv;rw[aO]at hv;subst hv;exact hgs.same
   .have hv:v∈[pv]:=hv;rw[aO]at hv;subst hv;exact Vu.same
  have rd:∀{o},(o=1\/o=2)->∀w:Cl,((w.a=hM H H1/\w.b=H2)\/(w.a=hM Z1 H3/\w.b=H4))->ng w ⟨4,d.ra,o,1,hh0,hh0⟩=true:=λ{o} ho w hw=>by
   have hle:o+1<=6:=by omega
   unfold ng;rcases hw with hw|hw
   .rw[hw.1,hw.2];exact x_ (hX1.read hle) (hY1.read hle)<|wC<|sm ho
   .rw[hw.1,hw.2];exact x_ (hX2.read hle) (hY2.read hle)<|wC<|sm ho
  have r1:=rd<|.inl rfl;have r2:=rd<|.inr rfl;simp only[qP,uI,cB,dn];generalize d.ra=ra at r1 r2|-;rcases hc1 with e|e<;>rw[e]<;>rcases hc2 with e|e<;>rw[e]<;>apply abu (a:=ra) (T:=λw=>(w.a=hM H H1/\w.b=H2)\/(w.a=hM Z1 H3/\w.b=H4)) (by rfl) (by kernel_rfl) (by kernel_rfl) hK<;>repeat' apply And.intro
  all_goals first|exact trivial|(intro h;cases h;done)|exactλ_=>.inl ⟨rfl,rfl⟩|exactλ_=>.inr ⟨rfl,rfl⟩|exactλ_=>r1|exactλ_=>r2
 have hS:=hS.perm (L':=(d.ra,26,[nv,.slice va (fG A.st++[vn a]).length vc,.slice wa (fG A.sp++[vn b]).length wc,ov,ev,vn A.ty])::(gn++(gs'++(gp'++(go++(ge++R)))))) (by
  refine List.Perm.cons _ ?_;have p1:=mI (gp'++gs') gn<|go++(ge++R);have p2:=mI gp' gs'<|go++(ge++R);simp only[bg]at p1;exact p1.trans<|iV gn p2)
 have hB:Bd d.ra (A.se a b) ((d.ra,26,[nv,.slice va (fG A.st++[vn a]).length vc,.slice wa (fG A.sp++[vn b]).length wc,ov,ev,vn A.ty])::(gn++(gs'++(gp'++(go++(ge++R)))))):=⟨nv,_,_,ov,ev,evs,gn,gs',gp',go,ge,R,rfl,hgn,by
  have:fG (A.se a b).st=fG A.st++aX (vn a):=by show fG (A.st++[a])=_;simp;rfl
  rw[this];exact hgs',by
  have:fG (A.se a b).sp=fG A.sp++aX (vn b):=by show fG (A.sp++[b])=_;simp;rfl
  rw[this];exact ag6,hgo,hge,hR⟩
 have hnk:∀{M':List cz}{H':ag},SH ((((d.ra,26,[nv,sv,pv,ov,ev,vn A.ty])::(gn++(gs++(gp++(go++(ge++R))))):List cz).map (·.1))) H H' M'->∀r∈M'.map (·.1),¬K r:=λhS r hr hk=>by
  obtain⟨e,he,rfl⟩:=aZ.1 hr;rcases(hS.lo e he).1 with h1|h1
  .exact h.nk _ h1 hk
  .have:=h.we.hK _ hk;omega
 have hY:RY K d S H0 _ ((d.ra,26,[nv,.slice va (fG A.st++[vn a]).length vc,.slice wa (fG A.sp++[vn b]).length wc,ov,ev,vn A.ty])::(gn++(gs'++(gp'++(go++(ge++R)))))) L (A.se a b):=⟨h.we.stay hS.ext h.nk,hnk hS,hB,SH.frame h.sh hS,⟨h.bu.BJ,h.bu.o,h.bu.e⟩,h.ty,h.pos,h.few⟩;refine kk _ _ _ _ _ _ _ _ _ _ _ _ _ _ _ _ ((d.ra,26,[nv,.slice va (fG A.st++[vn a]).length vc,.slice wa (fG A.sp++[vn b]).length wc,ov,ev,vn A.ty])::(gn++(gs'++(gp'++(go++(ge++R)))))) ?_;rw[eF h.sh.wf,hz1,eF hwZ];exact hY
end
section
open Go.Ae Go.Ae.M Go.Proofs.Lv
variable{S:List Nat}
theorem _root_.Go.Ae.jT.within{F:Nat->Prop}{n:Nat}(h:jT F ty H a n es cs)(hF:∀r,r<H.next->F' r):jT F' ty H a n es cs:=⟨h.1,λr o e hn=>let⟨_,h2,h3⟩:=h.2 r o e hn;⟨hF r h2,h2,h3⟩⟩
theorem RP.within{F:Nat->Prop}(h:RP F H nn eG kd zs)(hF:∀r,r<H.next->F' r):RP F' H nn eG kd zs:=λi hi=>let⟨a,c,t,xa,xn,xc,at',h1,h2,h3⟩:=h i hi;⟨a,c,t,xa,xn,xc,at',h1,h2.within hF,h3⟩
theorem RP.ex{F:Nat->Prop}(h:RP F H nn eG kd zs)(hx:Ext H H'):RP F H' nn eG kd zs:=λi hi=>let⟨a,c,t,xa,xn,xc,at',h1,h2,h3⟩:=h i hi;⟨a,c,t,xa,xn,xc,at',h1,h2.ex hx,h3⟩
theorem _root_.Go.Ae.Bk.PT{F:Nat->Prop}{n:Nat}(h:Bk H r ty cs)(hr:r<H.next)(hn:cs.length=n*es)(hF:F r):jT F ty H (some ⟨r,0,none⟩) n es cs:=⟨h.fl hr hn,λr' o e _=>by cases e;exact⟨hF,hr,h.Tn⟩⟩
def Dv(rcs:List Value)(ws:List Nat):Nat->Nat
 |0=>0
 |i+1=>Dv rcs ws i+(if vI rcs i=true then 0 else 2+W ws (rootOf rcs i).toNat)
theorem VL(rcs:List Value)(ws:List Nat)(h:i<=j):Dv rcs ws i<=Dv rcs ws j:=by
 induction j with
 |zero=>obtain rfl:i=0:=by omega
        exact aj _
 |succ j ih=>
  rcases aN i (j+1)with h1|h1
  .have:=ih aa;show _<=Dv rcs ws j+_;omega
  .obtain rfl:i=j+1:=by omega
   exact aj _
theorem Bd.atM(hB:Bd ra A M)(hS:SH [] H H'<|M++L)(ho:A.Ok):∃q:AV,H'.read ra 0 6=some (q.cells A)/\BO (H.next<=·) H' A q:=by
 obtain⟨nv,sv,pv,ov,ev,evs,gn,gs,gp,go,ge,R,rfl,hgn,hgs,Vu,hgo,hge,hR⟩:=hB;have hev:evs.length=A.ns:=by rw[<-hR.len,aC,ho.BJ]
 have hS:=hS.cast (L':=(ra,26,[nv,sv,pv,ov,ev,vn A.ty])::(gn++(gs++(gp++(go++(ge++(R++L))))))) (by simp);have hf:∀{e:cz},e∈(ra,26,[nv,sv,pv,ov,ev,vn A.ty])::(gn++(gs++(gp++(go++(ge++(R++L))))))->H.next<=e.1:=λhe=>hS.zN he
 have hread:=(hS.get 0 rfl).read (o:=0) (n:=6) (by show 0+6<=6;omega);have hT:=SH.drop (A:=[_]) hS;have hT2:=SH.drop hT;have hT3:=SH.drop hT2;have hT4:=SH.drop hT3;have hT5:=SH.drop hT4;have hT6:=SH.drop hT5;obtain⟨na,n1,nc,rfl,l1,f1⟩:=hgn.PT hT;obtain⟨sa,n2,sc,rfl,l2,f2⟩:=hgs.PT hT2;obtain⟨pa,n3,pc,rfl,l3,f3⟩:=Vu.PT hT3;obtain⟨oa,n4,oc,rfl,l4,f4⟩:=hgo.PT hT4;obtain⟨ea,n5,ec,rfl,l5,f5⟩:=hge.PT hT5;have e1:n1=A.nr:=by rw[aC]at l1;unfold At.nr;omega
 have e2:n2=A.nr:=by rw[aC,ho.V_]at l2;omega
 have e3:n3=A.nr:=by rw[aC,ho.Zl]at l3;omega
 have e4:n4=A.ns:=by rw[aC]at l4;unfold At.ns;omega
 have e5:n5=A.ns:=by omega
 subst e1;rw[e2]at hread f2;rw[e3]at hread f3;rw[e4]at hread f4;rw[e5]at hread f5;refine⟨⟨na,sa,pa,oa,ea,nc,sc,pc,oc,ec⟩,hread,f1,f2,f3,f4,evs,f5,λi hi=>?_⟩;obtain⟨a,n,c,g1,g2,g3⟩:=hR.all hT6 i aa
 have hE:(A.eg.map He)[i]?.getD []=He (A.E i):=by
  unfold At.E;rw[aR,ae (show i<A.eg.length by rw[ho.BJ];exact hi)];rfl
 rw[hE]at g2 g3;rw[MW]at g2;obtain rfl:n=(A.E i).length:=by omega
 refine⟨a,c,by rw[ae (show i<evs.length by omega),g1],g3.wk λr hr=>?_⟩;obtain⟨e,he,rfl⟩:=aZ.1 hr;exact hT6.zN<|bI _ he
end
section
open Go.Ae Go.Ae.M Go.Proofs.Lv
variable{S:List Nat}
abbrev ZV(tn:Nat)(P:At->Prop)(H:ag)(v:Value)(H':ag):Prop:=∃(A:At)(q:AV),v=q.v A/\BO (H.next<=·) H' A q/\A.Ok/\A.ty=tn/\P A
theorem abT{l:List Value}{n:Nat}(h:Dr rcs n l=some x):x<vk rcs n:=by
 unfold Dr at h;split at h
 .split at h
  .exact T4 h
  .cases h
 .cases h
theorem abU{rz rv rg:Nat}{ra:Option Addr}{rn:Nat}{x2 x3 lu:Value}(hG:Gr b H ra rn rcs na nn eG)(hR:∀i,i<rn->0<=rootOf rcs i/\rootOf rcs i<nn)(hup:vI rcs 0=false)(hrn:1<=rn)(hQ:WQ d)(hd:d.nn=nn/\d.tn=tn/\d.lw=vk rcs rn)(htot:Dv rcs d.ws rn<=4000)(hrt:∀i,i<rn->vI rcs i=false->d.rt (vk rcs i)=(rootOf rcs i).toNat/\B d.bs (rootOf rcs i).toNat=true)(Nf:∀k l,d.G9 k=some l->l<vk rcs rn)(hZ:RZ K d [] H H1 M [(rz,26,[.slice none 0 0,.slice none 0 0,.slice none 0 0,.slice none 0 0,.slice none 0 0,vi 0]),(rv,79,[.slice va tn vc]),(rg,69,[.slice ra rn rc,.slice na nn nc])] A)(hA:A.nr=0/\A.ns=0):
 dJ Pg X (.loop<|sub Au [1,1,1,1,1,0,1,0,0]) (Mo (gV ra rn rc na nn nc) (vV va tn vc) x2 x3 (pr rg) (pr rv) (pr rz) (pr d.ra) d.fv d.pv d.wv lu iL jU (.slice ra rn rc) (vn rn) (vn 0) l7 H1) (j3 0<|nR Pg X (sub Au [1,1,1,1,1,1])<|f_ Pg [.cell 8 26]<|Q1 (ZV tn (λA=>A.nr=vk rcs rn/\Gm.Is d.gm A) H) H):=by
 have g2:=hG.2.1;refine PV 14 15 16 31 (I:=λm lu iL jU x31 H'=>∃i A M,x31=vn i/\i+m=rn/\RZ K d [] H H' M [(rz,26,[.slice none 0 0,.slice none 0 0,.slice none 0 0,.slice none 0 0,.slice none 0 0,vi 0]),(rv,79,[.slice va tn vc]),(rg,69,[.slice ra rn rc,.slice na nn nc])] A/\A.nr=vk rcs i/\A.ns=Dv rcs d.ws i/\Gm.Inv d.gm A) ?_ rn ⟨0,A,M,rfl,aa,hZ,hA.1,hA.2,λr hr=>by have:=hA.1;omega⟩;clear hZ hA;rintro m lu iL jU x31 l7 H2 ⟨i,A,M,rfl,him,hZ,hnr,hns,hI⟩;refine tl ?_;refine aF ?_;refine ah (λhc=>?_) λhc=>?_;rotate_left
 .obtain rfl:i=rn:=by omega
  have hlo:=Fu rcs hrn;have hl1:vk rcs 1=1:=by show 0+(if vI rcs 0=true then 0 else 1)=1;rw[hup];rfl
  have tt:=hZ.tt;have ok:A.Ok:=hZ.bs.ok (by rw[hnr,hd.2.2]) aa (by have:=hZ.few;omega) aa aa;refine tl ?_;obtain⟨q0,hr0,_⟩:=hZ.bd.atM hZ.sh ok;refine ME.CU hr0 ?_;have hS:=hZ.sh.perm<|au (l₁:=M);refine hS.st 0 rfl rfl (aj 6) rfl λH3 hS=>?_;have hS:SH [] H H3 ((rz,26,q0.cells A)::(rv,79,[.slice va tn vc])::(rg,69,[.slice ra i rc,.slice na nn nc])::M):=hS;have hS2:=hS.perm (L':=M++[(rz,26,q0.cells A),(rv,79,[.slice va tn vc]),(rg,69,[.slice ra i rc,.slice na nn nc])])<|au (l₁:=[_,_,_]);obtain⟨q1,hr1,hat⟩:=hZ.bd.atM hS2 ok
  have eq:q1.cells A=q0.cells A:=by
   obtain⟨cs,hm,h6⟩:∃cs,((d.ra,26,cs):cz)∈M/\cs.length=6:=by
    obtain⟨nv,sv,pv,ov,ev,evs,gn,gs,gp,go,ge,R,rfl,_⟩:=hZ.bd;exact⟨_,aD ..,rfl⟩
   have a0:=(hZ.sh.bk _<|bI _ hm).read (o:=0) (n:=6) (by show 0+6<=cs.length;omega);have a1:=(hS2.bk _<|bI _ hm).read (o:=0) (n:=6) (by show 0+6<=cs.length;omega);have b0:=a0.symm.trans hr0;have b1:=a1.symm.trans hr1;exact bN<|b1.symm.trans b0
  refine rr ?_;refine hS.CU 0 rfl (aj 6) ?_;rw[<-eq];exact⟨⟨A,q1,rfl,hat,ok,hZ.ty.trans hd.2.1,hnr,hI.is λk l h=>by rw[hnr];exact Nf k l h⟩,hS.ext⟩
 have hi:i<rn:=by omega
 obtain⟨r1,o1,tQ,u1,f1,w1,c1,a1,e1,hl1,xw,qP,hsz,hel⟩:=hG.ru hi rc;have hroot:=hR i hi;rw[e1];refine aF ?_;refine hZ.sh.xZ xw hl1 ?_;refine(SH.refl hZ.sh.wf).mO rfl rfl rfl λH3 ru hS1 hx3=>?_;have hS1:SH [] H2 H3 [(ru,141,sZ tQ u1 f1 w1 c1 (rootOf rcs i) a1)]:=hS1
 have tu:=(SH.frame (M:=[]) hZ.sh hS1).perm (L':=M++([(rz,26,[.slice none 0 0,.slice none 0 0,.slice none 0 0,.slice none 0 0,.slice none 0 0,vi 0]),(rv,79,[.slice va tn vc]),(rg,69,[.slice ra rn rc,.slice na nn nc])]++[(ru,141,sZ tQ u1 f1 w1 c1 (rootOf rcs i) a1)])) (by
  rw[<-bg];exact au (l₁:=[_]))
 have hZ:=hZ.ext hx3 tu;have hlow:vk rcs (i+1)=vk rcs i+(if vI rcs i=true then 0 else 1):=rfl;have htt:Dv rcs d.ws (i+1)=Dv rcs d.ws i+(if vI rcs i=true then 0 else 2+W d.ws (rootOf rcs i).toNat):=rfl;rw[BK hel]at hlow htt;have hmo:=VL rcs d.ws (show i+1<=rn by omega);have aiX:=Fu rcs (show i+1<=rn by omega);have ail:=T6 rcs rn;have hru:∀{H' M'}(_:SH [] H H'<|M'++([(rz,26,[.slice none 0 0,.slice none 0 0,.slice none 0 0,.slice none 0 0,.slice none 0 0,vi 0]),(rv,79,[.slice va tn vc]),(rg,69,[.slice ra rn rc,.slice na nn nc])]++[(ru,141,sZ tQ u1 f1 w1 c1 (rootOf rcs i) a1)])),Bk H' ru 141 (sZ tQ u1 f1 w1 c1 (rootOf rcs i) a1):=λ{H' M'} hS=>hS.bk _<|bD _<|bD _<|aD ..
 have back:∀{H' M'}(_:SH [] H H'<|M'++([(rz,26,[.slice none 0 0,.slice none 0 0,.slice none 0 0,.slice none 0 0,.slice none 0 0,vi 0]),(rv,79,[.slice va tn vc]),(rg,69,[.slice ra rn rc,.slice na nn nc])]++[(ru,141,sZ tQ u1 f1 w1 c1 (rootOf rcs i) a1)])),SH [] H H' (M'++[(rz,26,[.slice none 0 0,.slice none 0 0,.slice none 0 0,.slice none 0 0,.slice none 0 0,vi 0]),(rv,79,[.slice va tn vc]),(rg,69,[.slice ra rn rc,.slice na nn nc])]):=λ{H' M'} hS=>hS.sub<|List.Sublist.append_left (bR _ _) M';refine aF ?_;refine ME.ld ((hru hZ.sh).cell (o:=1) rfl) ?_;refine aF ?_;refine bO (λhb=>?_) λhb=>?_
 .rw[if_pos hb]at hlow htt;refine bE ?_;exact⟨rn-(i+1),aa,_,_,_,_,_,_,rfl,i+1,A,M,uN,aa,hZ.ext (Ext.refl _)<|back hZ.sh,aa,aa,hI⟩
 rw[if_neg (by rw[hb];simp)]at hlow htt;have ZM:=hZ.few;have aiY:=hZ.tt;obtain⟨v0,hv0,hname⟩:=hZ.bd.name (nm:=tQ) hZ.sh aa;refine ME.ld hv0 ?_;refine ME.ld ((hru hZ.sh).cell (o:=0) rfl) ?_;refine hname λw v' u H4 M4 hB4 vY=>?_;have ait:(A.ru tQ).nr=A.nr+1:=by show(A.nm++[tQ]).length=_;rw[ay];rfl
 have hY:RY K d [] H H4 M4 _ (A.ru tQ):=⟨hZ.we.stay vY.ext hZ.nk,hZ.nks vY,hB4,SH.frame hZ.sh vY,hZ.bs.bu.ru tQ,hZ.ty,aa,aa⟩;have hns0:(A.ru tQ).ns=A.ns:=rfl;have aiF:(A.ru tQ).tot=A.tot:=rfl;refine hY.fresh aa λH5 M5 A1 hY g1 cs f1=>?_;have n1:=g1.ns;have t1:=g1.tt;refine hY.fresh aa λH6 M6 A2 hY g2 cp f2=>?_;have n2:=g2.ns;have t2:=g2.tt;have cs:=cs.gw g2;have hst:A2.st=A.st:=by rw[g2.st,g1.st];rfl
 have hsp:A2.sp=A.sp:=by rw[g2.sp,g1.sp];rfl
 refine hY.ends (by rw[hst,hZ.bs.V_];omega) (by rw[hsp,hZ.bs.Zl];omega) rfl λu1 e1 u2 e2 u3 e3 u4 e4 u5 e5 u6 e6 u7 e7 u8 e8 M7 hY=>?_;generalize hM (hM (hM (hM (hM (hM (hM (hM H6 e1) e2) e3) e4) e5) e6) e7) e8=H7 at hY|-;have n3:(A2.se (A.ru tQ).ns A1.ns).ns=A2.ns:=rfl;have t3:(A2.se (A.ru tQ).ns A1.ns).tot=A2.tot:=rfl;obtain⟨k,hk⟩:∃k:Nat,rootOf rcs i=k:=⟨(rootOf rcs i).toNat,aa⟩;have hkn:k<d.nn:=by omega
 have hu0:vI rcs i=false:=(BK hel).trans hb;have hbk:B d.bs k=true:=by have:=(hrt i hi hu0).2;rw[hk]at this;exact this
 have hrk:d.rt A.nr=k:=by rw[hnr,(hrt i hi hu0).1,hk];rfl
 have hWk:W d.ws (rootOf rcs i).toNat=W d.ws k:=by rw[hk];rfl
 refine ME.ld ((hru hY.sh).cell (o:=5) rfl) ?_;rw[hk];refine hY.way (aeP hQ k hkn) aa aa (show(A2.se (A.ru tQ).ns A1.ns).cur _ from cs) (by show A2.E (A.ru tQ).ns=[];rw[f2.e,f1.e];exact f1.o) hbk λto H8 M8 A4 c hY g4 hc4 cto f4=>?_;have n4:=g4.ns;have t4:=g4.tt;refine PU.b3 rfl ?_;have cp4:A4.cur A1.ns:=At.cur.gw (A:=A2.se (A.ru tQ).ns A1.ns) cp g4;refine hY.put (e:=(0,0,A1.ns)) cto cp4 (aeM ..) aa λv9 H9 M9 A5 hY g5 f5=>?_;have n5:=g5.ns;have t5:=g5.tt;refine bE ?_;have aiu:A5.nr=A.nr+1:=by rw[g5.nr,g4.nr];show A2.nr=_;rw[g2.nr,g1.nr,ait]
 refine⟨rn-(i+1),aa,_,_,_,_,_,_,rfl,i+1,A5,M9,uN,aa,⟨hY.we,hY.nk,hY.bd,back hY.sh,hZ.bs.next (g1.trans g2) cs cp (g4.trans g5) hY.bu,hY.ty,aa,aa⟩,aa,aa,?_⟩;have e1:A5.st=A.st++[A.ns]:=by rw[g5.st,g4.st];show A2.st++_=_;rw[hst];rfl
 have e2:A5.sp=A.sp++[A1.ns]:=by rw[g5.sp,g4.sp];show A2.sp++_=_;rw[hsp]
 have l1:=hZ.bs.V_;have l2:=hZ.bs.Zl;refine Gm.Inv.add (A:=A) (A1:=A1) (A2:=A2.se (A.ru tQ).ns A1.ns) (A3:=A4) hI aiu (λr hr=>?_) ?_ ⟨f1.n,f1.e,f1.o⟩ ⟨f2.n,f2.e,f2.o⟩ (f4.wk λE h=>by rw[show d.gm.rt A.nr=k from hrk];exact h (k+1)<|bL k) f5
 .unfold At.S At.P;rw[e1,e2,aP aa,aP aa];exact⟨rfl,rfl⟩
 .unfold At.S At.P;rw[e1,e2,<-l1,bf<|aj _,dY,l1,<-l2,bf<|aj _,dY];exact⟨rfl,rfl⟩
end
section
open Go.Ae Go.Ae.M Go.Proofs.Lv
variable{F:Nat->Prop}{S:List Nat}
theorem Bd.nil(ra tn:Nat):Bd ra ⟨[],[],[],[],[],tn⟩ [(ra,26,[.slice none 0 0,.slice none 0 0,.slice none 0 0,.slice none 0 0,.slice none 0 0,vn tn])]:=
 ⟨_,_,_,_,_,[],[],[],[],[],[],[],rfl,.inl ⟨rfl,rfl,rfl⟩,.inl ⟨rfl,rfl,rfl⟩,.inl ⟨rfl,rfl,rfl⟩,.inl ⟨rfl,rfl,rfl⟩,.inl ⟨rfl,rfl,rfl⟩,rfl⟩
theorem R7(hw:Wf H){rl rs:Nat}{ra:Option Addr}{rn:Nat}{lcs:List Value}{ws:List Nat}{bs:List Bool}(hG:Gr b H ra rn rcs na nn eG)(hNd:RP F H nn eG kd zs)(hR:∀i,i<rn->0<=rootOf rcs i/\rootOf rcs i<nn)(hup:vI rcs 0=false)(hrn:1<=rn)(hl:Bk H rl 47 lcs/\rl<H.next/\lcs.length=nn*3)(hlp:∀i,i<nn->vo tn (vk rcs rn) (Dr rcs rn<|El eG 5 i) (El lcs 3 i))(hs:Bk H rs 3 (fG ws)/\rs<H.next/\ws.length=nn)(hsz:∀j,j<nn->Dt kd zs ws j/\Jp lcs kd zs bs j)(hbs:∀i,i<rn->vI rcs i=false->B bs (rootOf rcs i).toNat=true)(htot:Dv rcs ws rn<=4000):
 az Pg X 78 [gV ra rn rc na nn nc,vV va tn vc,.slice (some ⟨rl,0,none⟩) nn nn,.slice (some ⟨rs,0,none⟩) nn nn] H (Q1 (ZV tn (λA=>A.nr=vk rcs rn/\Gm.Is ⟨kd,zs,λi=>Dr rcs rn<|El eG 5 i,Wi (Gh rcs) rn⟩ A) H) H):=by
 have hS:=SH.refl hw;refine ce [0,1,2,3,4,5,8,9,10,11,12,14,15,16,29,30,31] ?_;refine tl ?_;refine hS.box rfl λH1 rg hS=>?_;refine hS.box rfl λH2 rv hS=>?_;refine hS.iI λH3 rz hS=>?_;refine hS.aY ?_;refine hS.eU ?_;refine az.mono (RJ hS.wf) ?_;rintro v H4 ⟨rfl,hx⟩;have hS:=hS.call hx;refine PU.b6 rfl ?_;refine hS.aY ?_;refine hS.iI λH5 rb hS=>?_;refine hS.kJ λHn hS=>?_;refine hS.eU ?_;have hb:=And.intro (hS.zN<|aA (i:=0) rfl) (hS.lo _<|aA (i:=0) rfl).2;refine az.mono (VJ hS.wf ⟨_,_,_,rfl⟩ ⟨_,_,_,rfl⟩) ?_;rintro v H7 ⟨g,s,w,f,fe,lo,p,l,rfl,hx7,hn7,c1,c2,c3,c4,c5,c6,c7,c8⟩;have hS:=hS.call hx7;have hx:=hS.ext
 have hK:∀r∈[g,s,w,f,fe,lo,p,l],r<H7.next/\r≠rb:=λr hr=>by
  have:=hn7 r hr;exact⟨this.2,aa⟩
 have hF:∀r,r<H.next->r<H7.next/\r≠rb:=λr hr=>⟨by have:=hx.next;omega,aa⟩
 have hW:WE (λr=>r<H7.next/\r≠rb) ⟨g,s,w,f,fe,lo,p,l,rb,na,nc,nn,rs,rl,eG,lcs,ws,kd,zs,tn,vk rcs rn,λi=>Dr rcs rn<|El eG 5 i,Wi (Gh rcs) rn,bs⟩ H7:=
  ⟨λr hr=>hr.1,⟨hK g<|by simp,c1⟩,⟨hK s<|by simp,c2⟩,⟨hK w<|by simp,c3⟩,⟨hK f<|by simp,c4⟩,⟨hK fe<|by simp,c5⟩,⟨hK lo<|by simp,c6⟩,⟨hK p<|by simp,c7⟩,⟨hK l<|by simp,c8⟩,
   (hG.2.2.2.1.within hF).ex hx,(hNd.within hF).ex hx,((hs.1.PT hs.2.1 (by rw[bG,aC];exact hs.2.2)<|hF _ hs.2.1)).ex hx,(hl.1.PT hl.2.1 hl.2.2<|hF _ hl.2.1).ex hx⟩
 refine hS.dQ ?_;refine hS.aY ?_;refine abU (d:=⟨g,s,w,f,fe,lo,p,l,rb,na,nc,nn,rs,rl,eG,lcs,ws,kd,zs,tn,vk rcs rn,λi=>Dr rcs rn<|El eG 5 i,Wi (Gh rcs) rn,bs⟩) (K:=λr=>r<H7.next/\r≠rb) (A:=⟨[],[],[],[],[],tn⟩) (M:=[(rb,26,[.slice none 0 0,.slice none 0 0,.slice none 0 0,.slice none 0 0,.slice none 0 0,vn tn])]) hG hR hup hrn ⟨hG.2.2.2.2.1,λj hj=>(hsz j hj).1,hlp,λj hj=>(hsz j hj).2⟩ ⟨rfl,rfl,rfl⟩ htot (λi hi hu=>⟨Jo hu rn hi,hbs i hi hu⟩) (λk l h=>abT h) ⟨hW,λr hr hk=>?_,Bd.nil rb tn,hS,?_,rfl,aM _,aM _⟩ ⟨rfl,rfl⟩
 .obtain rfl:r=rb:=aO.1 hr;exact hk.2 rfl
 .exact⟨⟨rfl,λs h=>absurd h<|fI _,λs h=>absurd h<|fI _⟩,rfl,rfl,λs h=>absurd h<|fI _,λs h=>absurd h<|fI _⟩
end
section
open Go.Ae Go.Ae.M
def PY(t:ByteArray):Bool:=decide<|65<=at' (tx t) 0/\at' (tx t) 0<=90
theorem One.up{e:Nat}{k:Int}(h:One s b k t e)(hk:k=1\/k=2):decide (k=1)=PY t:=by
 cases h with
 |nm e h1 h2 h3 h4 h5 h6=>
  have:at' (tx<|Ae.part s b e) 0=at' (tx s) b:=by
   rw[Mx];simp only[at',aK,eB,ig];rw[if_pos aa,bn]
  unfold PY;rw[this];split<;>simp_all
 |li=>omega
 |cl=>omega
 |ar=>omega
 |mk k t h=>
  unfold mk1 at h
  repeat' split at h
  all_goals cases h<;>omega
theorem Lx.up{K:Nat->Int}{n:Nat}(h:Lx s K T n i k):∀j,i<=j->j<n->K j=1\/K j=2->decide (K j=1)=PY (T j):=by
 induction h with
 |fin i k h1 h2 h3=>intro j h4 h5 h6;obtain rfl:j=i:=by omega
                    omega
 |go i k b e t h1 h2 h3 h4 h5 ih=>
  intro j h6 h7 h8;rcases lV h6 with rfl|h9
  .rw[h4 h8];exact h3.up h8
  .exact ih j h9 h7 h8
theorem O9.up{K:Nat->Int}{n:Nat}(hL:Lx s K T n 0 0)(hK:∀i,n<=i->K i=0){N N':List PN}{R R':List PR}(h:O9 K T p N R N' R')(hR:∀y∈R,y.2.1=PY y.1):∀y∈R',y.2.1=PY y.1:=by
 have one:∀{p p':Nat}{N N':List PN}{R R':List PR},RuP K T p N R p' N' R'->(∀y∈R,y.2.1=PY y.1)->∀y∈R',y.2.1=PY y.1:=by
  rintro p p' N N' R R' ⟨f,q,_,_,_,_,_,hq,_,_,_,_,_,_,_,rfl⟩ hR y hy;rcases bX.1 hy with hy|hy
  .exact hR y hy
  .obtain rfl:=aO.1 hy
   have hqn:q<n:=by
    rcases aN q n with h|h
    .exact h
    .have:=hK q h;omega
   exact hL.up q (aM _) hqn hq
 induction h with
 |one p N R p' N' R' h _=>exact one h hR
 |more p N R p' N1 R1 N' R' h _ _ ih=>exact ih<|one h hR
end
end Go.Proofs.Lu
