/-
  Part 10 of the proof. No condition.
-/
import Derived.Test.YtpngmpbmokhmiaaGreatDoorZ09
set_option linter.unusedVariables false
set_option linter.unusedSimpArgs false
set_option maxRecDepth 100000
set_option maxHeartbeats 4000000
set_option linter.defProp false
open Option renaming some->Z,none->T
open Bool renaming true->F,false->aA
open Go renaming Value->D,TypeId->aH,Program->aX,Operand->cB
open Go.Value renaming int->bq,slice->u,bool->aR,string->aJ,pointer->bG,tuple->fO,agg->dP
open List renaming length->J,replicate->aY
open Nat renaming ble->aD,add->a_,mul->bO
open UInt8 renaming ofNat->jS
open And renaming intro->iZ
open Go.IntKind renaming u8->dz,i64->bC,wrap->oG
noncomputable section
namespace Go.Proofs.Lu
open Go.Ae Go.Ae.hx
variable{L gb:C eB}{F' R':Nat->Prop}{H Q H0 H1:R}{hx ae b d ec en es i k k0 m m0 n p p0 q r r3 rb rl rz:Nat}{Kp:D->D->R->Prop}{c ch e:Int}{ai:Nat->Bool}{g v w x x0 x4 x5 x6:D}{a ea:aC Addr}{ar f gl l:C D}{s t:aZ}{be bs:C Bool}{ty:aH}{E:Rs}{A z:Prop}{K Km:D->R->Prop}
abbrev u8v(n:Nat):D:=bq dz (n:Int)
def Xa:∀(l:C Nat),(∀x∈l,x<256)->uz (l.map u8v)=Z (l.map jS):=by
 intro l
 induction l with
 |nil=>intro _;rfl
 |cons x l o=>
  intro h;have M:=h x<|aL ..
  show(aN (LH<|.ofNat x) λn=>gd (KA dz&&aD n 255)<|aN (uz<|l.map u8v) λbs=>Z<|jS n::bs)=_;rw[o λy j=>h y<|bL _ j];show gd (aD x 255) (Z<|jS x::l.map jS)=_;rw[aG N,Bv];rfl
theorem strOf{l:C Nat}(hl:∀n∈l,n<256)(M:0<J l)(G:SH [] H0 H L){Kp:D->Prop}(k:∀t:aZ,t.size=J l->SH [] H0 (H.new<|rowOf 5<|l.map u8v) L->Km (aJ t) (H.new<|rowOf 5<|l.map u8v)):
 CV (D7 Pg 271 9<|u (Z ⟨H.bU,0,T⟩) (J l)<|J l) (wC Pg 271 9 (u (Z ⟨H.bU,0,T⟩) (J l)<|J l)<|H.new<|rowOf 5<|l.map u8v) Kp Km:=by
 have j:=G.grow 5<|l.map u8v;have y:Bk (H.new<|rowOf 5<|l.map u8v) H.bU 5 (l.map u8v):=j.get 0 O;have I:=y.read (o:=0) (n:=J l) gD;have B:wC Pg 271 9 (u (Z ⟨H.bU,0,T⟩) (J l)<|J l) (H.new<|rowOf 5<|l.map u8v)=aN ((H.new<|rowOf 5<|l.map u8v).read H.bU 0<|J l) λz=>aN (uz z) λbs=>Z (aJ ⟨⟨bs⟩⟩,H.new<|rowOf 5<|l.map u8v):=fT;refine CV.me fT (v:=aJ ⟨⟨l.map jS⟩⟩) (H1:=H.new<|rowOf 5<|l.map u8v) ?_<|k _ (by show J (l.map jS)=_;simp)<|fU (A:=[_]) j;rw[B,I,jE,dV gD];show(aN (uz<|l.map u8v) λbs=>Z (aJ ⟨⟨bs⟩⟩,_))=_;rw[Xa l hl];rfl
def aeO{a b:Int}{vn:Prop}(I:a<b->A)(W:¬a<b->vn):yU (Z<|decide<|a<b) A vn:=aW I W
def FV(h:n<256):qd dz (n:Int)=(n:Int):=by
 show oG dz (n:Int)=(n:Int);simp[oG,IntKind.bits,IntKind.signed];omega
theorem aeP(Y:Wf H)(r:Nat)(hr:r<2147483648):bQ Pg X 135 [B r] H (Q1 (λv _=>∃t,v=aJ t/\t.size<=4) H):=by
 have G:=h_ Y;refine ce [0,2] ?_;refine tQ (λI=>?_) λI=>?_
 .exact N
 refine aW (λW=>?_) λW=>?_
 .refine rr ?_;refine⟨⟨_,O,?_⟩,G.ext⟩;exact bD _
 have j:∀E,iG Pg X (sub Cw [1,1]) (B5 (B r) (aJ ⟨#[]⟩) E H) (jZ Pg [.tmp 2]<|Q1 (λv _=>∃t,v=aJ t/\t.size<=4) H):=by
  intro E;have V:r<1114112:=N;refine tQ (λM=>?_) λM=>?_
  .rw[FV N];refine ME.of aib ?_;refine strOf (l:=[r]) (by intro n o;simp at o;omega) gD G λt y G=>?_;refine rr ?_;refine⟨⟨t,O,?_⟩,G.ext⟩;rw[y];exact aF O
  refine aW (λP=>?_) λP=>?_
  .refine dA (NR 64 N jq N)<|dA (addN 192 N N)<|bM ?_;refine dA (sw 64 N jq N)<|dA (addN 128 N N)<|bM ?_;rw[FV N,FV N];refine ME.of aic<|strOf (l:=[192+r/64,128+r %64]) (by intro n o;simp at o;omega) gD G λt y G=>?_;refine rr ?_;refine⟨⟨t,O,?_⟩,G.ext⟩;rw[y];exact aF O
  with_reducible refine aeO (λg3=>?_) λg3=>?_
  .refine dA (NR 4096 N jq N)<|dA (addN 224 N N)<|bM ?_;refine dA (NR 64 N jq N)<|dA (sw 64 N jq N)<|dA (addN 128 N N)<|bM ?_;refine dA (sw 64 N jq N)<|dA (addN 128 N N)<|bM ?_;rw[FV N,FV N,FV N];refine ME.of adn ?_;refine strOf (l:=[224+r/4096,128+r/64 %64,128+r %64]) (by intro n o;simp at o;omega) gD G λt y G=>?_;refine rr ?_;refine⟨⟨t,O,?_⟩,G.ext⟩;rw[y];exact aF O
  .refine dA (NR 262144 N jq N)<|dA (addN 240 N N)<|bM ?_;refine dA (NR 4096 N jq N)<|dA (sw 64 N jq N)<|dA (addN 128 N N)<|bM ?_;refine dA (NR 64 N jq N)<|dA (sw 64 N jq N)<|dA (addN 128 N N)<|bM ?_;refine dA (sw 64 N jq N)<|dA (addN 128 N N) ?_;refine bM ?_;rw[FV N,FV N,FV N,FV N];refine ME.of aid ?_;refine strOf (l:=[240+r/262144,128+r/4096 %64,128+r/64 %64,128+r %64]) (by intro n o;simp at o;omega) gD G λt y G=>?_;refine rr ?_;refine⟨⟨t,O,?_⟩,G.ext⟩;rw[y];exact aF O
 refine aW (λT=>?_) λT=>?_
 .refine aW (λU=>?_) (λU=>?_)
  .refine rr ?_;refine⟨⟨_,O,?_⟩,G.ext⟩;exact bD _
  .exact j _
 .exact j _
def wrapN(h:n<=9223372036854775807):qd bC (n:Int)=(n:Int):=yX N N
def SgV(m:Nat)(v:D):Prop:=∃(r:Int)(n:Nat),v=fO ⟨[vi r,B n]⟩/\(r=-1/\n=1\/0<=r/\r<134217728/\1<=n/\n<=m)
theorem aeQ(hw:Wf H)(s:aZ)(k:Nat)(hk:k<s.size)(hs:s.size<=1000000000):bQ Pg X 133 [aJ s,B k] H (Q1 (λv _=>SgV (s.size-k) v) H):=by
 refine lq [0,1,4,5,6,7,8,9] ?_;refine lp6 4 5 6 7 8 9 (h1:=λn x4 x5 x6 x7 o y Q=>SH [] H Q []/\∃j:Nat,x6=B j/\1<=j/\n+j=5) ?_ 4 ⟨h_ hw,1,rfl,N,N⟩;rintro n x4 x5 x6 x7 o y E H1 ⟨G,j,rfl,I,ad⟩;refine lX (λT=>?_) λT=>?_
 .refine tl ?_;refine rr ?_;exact⟨⟨_,_,O,.inl ⟨O,O⟩⟩,G.ext⟩
 rw[qO N N];refine MO (λV=>?_) λV=>?_
 .refine tl ?_;refine rr ?_;exact⟨⟨_,_,O,.inl ⟨O,O⟩⟩,G.ext⟩
 refine tl ?_;refine dA (lu j O N) ?_;rw[Eu N N];refine bM ?_;have hp:=rO s (lo:=k) (hi:=k+j) N N;have⟨c,e0⟩:=Ir (s:=Go.Ae.part s k<|k+j) (z:=0) 0 O N;have Y:=c.toNat_lt;generalize c.toNat=c0 at e0 Y;simp only[e0];refine bM ?_;rw[wrapN N];have U:j<=4:=N
 repeat' (first
  |(refine bM ?_)
  |(with_reducible refine aW (λe=>?_) λe=>?_)
  |(refine dA (sw 32 O jq N) ?_)
  |(refine dA (sw 16 O jq N) ?_)
  |(refine dA (sw 8 O jq N) ?_)
  |(refine tl ?_))
 all_goals first|(exfalso;omega)|skip
 all_goals
  refine lp2 8 9 (h1:=λm o y Q=>Q=H1/\∃i z:Nat,i+1+m=j/\o=B z/\z<256*64^i/\y=B (i+1)) ?_ (j-1) ⟨rfl,0,_,N,rfl,N,rfl⟩;rintro m o y E P ⟨rfl,i,z,ac,rfl,hz,rfl⟩;refine tl ?_
  try simp only[PP,Nat.reduceBEq]
  have ag:z<134217728:=by
   have W:64^i<=64^3:=pO jq N;omega
  refine aW (λe=>?_) λe=>?_
  .refine dA (mulN 64 O N) ?_;have⟨d,e1⟩:=Ir (s:=Go.Ae.part s k<|k+j) (z:=((i+1:Nat):Int)) (i+1) O N;have hd:=d.toNat_lt;generalize d.toNat=d0 at e1 hd;simp only[e1]
   try simp only[PP,Nat.reduceBEq]
   rw[wrapN N];refine dA (sw 64 O jq N) ?_;refine dA (lu _ O N) ?_;refine dA (lu 1 O N) ?_;exact⟨m-1,N,_,_,_,_,O,O,i+1,_,N,O,by rw[Nat.pow_succ];omega,rfl⟩
  .have ab:i=j-1:=N;refine tl ?_;refine G.cm (aeP G.wf _ N) ?_;rintro v P ⟨t,rfl,ht⟩ M G
   try simp only[PP,Nat.reduceBEq]
   refine aW (λg=>?_) λg=>?_
   .refine rr ?_;exact⟨⟨_,_,O,.inr ⟨N,N,I,N⟩⟩,G.ext⟩
   .refine tl ?_;refine dA (lu 1 O N) ?_
    try simp only[PP,Nat.reduceBEq]
    exact⟨n-1,N,_,_,_,_,_,_,_,_,O,G,j+1,O,N,N⟩
def w8{z:Int}(h:0<=z/\z<256):qd dz z=z:=Ew (by simp[oG,IntKind.bits,IntKind.signed];omega)
def Y8(c:Int):bQ Pg X 100 [bq dz c] H (Q0 isB H):=by
 refine lq [0,2] ?_
 repeat' (first|(refine bM ?_)|(refine aW (λj=>?_) λj=>?_)|(refine rr ?_))
 all_goals exact⟨⟨_,O⟩,O⟩
theorem ane(c:Int):bQ Pg X 101 [bq dz c] H (Q0 isB H):=by
 refine lq [0,2] ?_
 repeat' (first|(refine bM ?_)|((refine dD (Y8 _) ?_;rintro v Q ⟨⟨b,rfl⟩,rfl⟩))|(refine iI (λj=>?_) λj=>?_)|(refine rr ?_))
 all_goals exact⟨⟨_,O⟩,O⟩
def dgv(c:Nat):Int:=if 48<=c/\c<=57 then(c:Int)-48 else if 97<=c/\c<=102 then(c:Int)-97+10 else if 65<=c/\c<=70 then(c:Int)-65+10 else -1
def anf(c:Nat):-1<=dgv c/\dgv c<16:=by unfold dgv;split<;>(try split)<;>(try split)<;>omega
def aeR(c:Nat)(j:c<256):bQ Pg X 163 [bq dz (c:Int)] H (Q0 (λv=>v=vi (dgv c)) H):=by
 refine lq [0,2] ?_
 repeat' (first|(refine bM ?_)|(refine aW (λj=>?_) λj=>?_)|(refine tl ?_)|(refine rr ?_))
 all_goals first|(exfalso;omega)|skip
 all_goals try rw[w8 N,yX N N]
 all_goals try
  rw[gB N N];simp only[PP];refine rr ?_
 all_goals
  refine⟨?_,O⟩;unfold dgv
  first
   |(rw[if_pos N];done)
   |(rw[if_neg N,if_pos N];done)
   |(rw[if_neg N,if_neg N,if_pos N];done)
   |(rw[if_neg N,if_neg N,if_neg N];done)
def ang(c:Int):bQ Pg X 104 [bq dz c] H (Q0 (λv=>∃k:Nat,v=B k/\k<=14) H):=by
 refine lq [0,2,3,4] ?_;refine VQ 4 (h1:=λm x4 Q=>Q=H/\∃i,x4=B i/\i+m=10) ?_ 10 ⟨rfl,0,rfl,rfl⟩;rintro m x4 E Q ⟨rfl,i,rfl,y⟩;refine tQ (λj=>?_) λj=>?_
 .have o:i<10:=by have:((i:Nat):Int)<10:=j;omega
  have⟨d,e⟩:=xh (s:=⟨#[58,124,59,40,41,63,42,43,46,126]⟩) (k:=i) o;rw[e];refine tO (λe=>?_) λe=>?_
  .refine dA (addN 5 O N) ?_;refine rr ?_;exact⟨⟨_,O,N⟩,O⟩
  .exact dA (lu 1 O N)<|⟨m-1,N,_,_,_,O,O,i+1,O,N⟩
 .refine tl<|rr ?_;exact⟨⟨0,O,N⟩,O⟩
def aeS(s:aZ)(hs:s.size<=1000000)(h:k0<=s.size):bQ Pg X 99 [aJ s,B k0] H (Q0 (λv=>∃b:Nat,v=B b/\k0<=b/\b<=s.size) H):=by
 refine lq [0,1,4] ?_;refine lp2 1 4 (h1:=λm o x4 Q=>Q=H/\∃k,o=B k/\k0<=k/\k+m=s.size) ?_ (s.size-k0) ⟨rfl,k0,rfl,ax _,N⟩;rintro m o x4 E Q ⟨rfl,k,rfl,y,hm⟩;refine lX (λV=>?_) λV=>?_
 .refine tl ?_;refine rr ?_;exact⟨⟨_,O,y,N⟩,O⟩
 have I:k<s.size:=N;have⟨c,e⟩:=xh I;rw[e];refine tO (λ_=>?_) λ_=>?_
 .refine dA (lu 1 O N) ?_;exact⟨m-1,N,_,_,_,_,O,O,k+1,O,N,N⟩
 refine aW (λ_=>?_) λ_=>?_
 .refine dA (lu 1 O N) ?_;exact⟨m-1,N,_,_,_,_,O,O,k+1,O,N,N⟩
 refine aW (λ_=>?_) λ_=>?_
 .refine dA (lu 1 O N) ?_;exact⟨m-1,N,_,_,_,_,O,O,k+1,O,N,N⟩
 refine aW (λ_=>?_) λ_=>?_
 .refine dA (lu 1 O N) ?_;exact⟨m-1,N,_,_,_,_,O,O,k+1,O,N,N⟩
 refine tl ?_;rw[e];refine yx (λ_=>?_) λU=>?_
 .refine rr ?_;exact⟨⟨_,O,y,N⟩,O⟩
 refine dA (lu 1 O N) ?_;refine tO (λ_=>?_) λW=>?_
 .refine rr ?_;exact⟨⟨_,O,y,N⟩,O⟩
 refine dA (lu 1 O N) ?_;have⟨d,e2⟩:=xh (s:=s) (k:=k+1) N;rw[e2];refine yx (λ_=>?_) λ_=>?_
 .refine rr ?_;exact⟨⟨_,O,y,N⟩,O⟩
 refine tl ?_;refine VQ 1 (h1:=λn o M=>M=Q/\∃j,o=B j/\j+n=s.size/\k<=j) ?_ m ⟨rfl,k,rfl,N,ax _⟩;rintro n o E M ⟨rfl,j,rfl,Y,ab⟩;refine tQ (λP=>?_) λP=>?_
 .have⟨c2,e3⟩:=xh (s:=s) (k:=j) N;rw[e3];refine yx (λT=>?_) λT=>?_
  .exact dA (lu 1 O N)<|⟨n-1,N,_,_,_,O,O,j+1,O,N,N⟩
  .have ac:j≠k:=λh=>by
    subst h;rw[e]at e3;injection e3 with e3
    injection e3 with _ e3
    omega
   exact⟨s.size-j,N,_,_,_,_,O,O,j,O,N,N⟩
 .exact⟨s.size-j,N,_,_,_,_,O,O,j,O,N,N⟩
def EsV(m:Nat)(v:D):Prop:=∃(r:Int)(n:Nat),v=fO ⟨[vi r,B n]⟩/\(r=-1/\n=0\/0<=r/\r<134217728/\1<=n/\n<=m)
theorem Y9(hw:Wf H)(s:aZ)(hs:s.size<=1000000):bQ Pg X 134 [aJ s] H (Q1 (λv _=>EsV s.size v) H):=by
 have G:=h_ hw;refine ce [0,2,3,4,5,9] ?_;refine tQ (λe=>?_) λW=>?_
 .refine rr ?_;exact⟨⟨_,_,O,.inl ⟨O,O⟩⟩,G.ext⟩
 have y:0<s.size:=by
  rcases gK s.size with h|h
  .exact absurd (by
    have⟨⟨l⟩⟩:=s;have:l=[]:=eU.1 h;subst this;rfl) W
  .exact h
 have⟨c,e0⟩:=Ir (s:=s) (z:=0) 0 O y;have I:=c.toNat_lt;generalize c.toNat=P at e0 I;rw[e0];refine tO (λ_=>?_) λ_=>?_
 .refine rr ?_;exact⟨⟨_,_,O,.inr ⟨jq,jq,jq,y⟩⟩,G.ext⟩
 refine aW (λ_=>?_) λ_=>?_
 .refine rr ?_;exact⟨⟨_,_,O,.inr ⟨jq,jq,jq,y⟩⟩,G.ext⟩
 refine aW (λ_=>?_) λ_=>?_
 .refine rr ?_;exact⟨⟨_,_,O,.inr ⟨jq,jq,jq,y⟩⟩,G.ext⟩
 have no:∀{x4 x5 E},iG Pg X (sub nW [1,1,1]) (sO (aJ s) (vi 0) (vi 0) x4 x5 (bq dz (P:Int)) E H) (jZ Pg [.tmp 2,.tmp 3]<|Q1 (λv _=>EsV s.size v) H):=by
  intro x4 x5 E;refine tl<|rr ?_;exact⟨⟨_,_,O,.inl ⟨O,O⟩⟩,G.ext⟩
 have two:∀(b:Bool) E,Co E 16=aR b->iG Pg X (sub nW [1,1,0,1,0,1,1,1,1,1,1,1]) (sO (aJ s) (vi 0) (vi 0) top top (bq dz (P:Int)) E H) (uB 0<|uW Pg X (sub nW [1,1,1])<|jZ Pg [.tmp 2,.tmp 3]<|Q1 (λv _=>EsV s.size v) H):=by
  intro b E V;refine tl ?_;rw[V];refine sD (λ_=>?_) λ_=>?_
  .rw[e0];refine bM ?_;rw[yX N N];refine rr ?_;exact⟨⟨_,_,O,.inr ⟨N,N,jq,y⟩⟩,G.ext⟩
  refine aW (λ_=>?_) λ_=>no;refine lp2 4 5 (h1:=λm x4 x5 Q=>Q=H/\∃v i:Nat,x4=B v/\x5=B (i+2)/\i+m=6/\v<16^i) ?_ 6 ⟨rfl,0,0,rfl,rfl,rfl,jq⟩;rintro m x4 x5 al Q ⟨rfl,v,i,rfl,rfl,ag,hv⟩;have ac:16^i<=16^6:=pO jq N;have ab:(16:Nat)^6=16777216:=jq
  have o:∀E,iG Pg X (sub nW [1,1,0,1,0,1,1,1,1,1,1,1,1,1,0,1,1]) (sO (aJ s) (vi 0) (vi 0) (B v) (B<|i+2) (bq dz (P:Int)) E Q) (uB 0<|uW Pg X (sub nW [1,1,1])<|jZ Pg [.tmp 2,.tmp 3]<|Q1 (λv _=>EsV s.size v) Q):=by
   intro E;refine tp ?_;have j:EsV s.size (fO ⟨[vi (-1),B 0]⟩):=⟨_,_,O,.inl ⟨O,O⟩⟩;refine aW (λ_=>?_) λg1=>?_
   .refine rr ?_;exact⟨j,G.ext⟩
   have⟨d,e1⟩:=Ir (s:=s) (z:=1) 1 O N;rw[e1];refine yx (λ_=>?_) λ_=>?_
   .refine rr ?_;exact⟨j,G.ext⟩
   refine aW (λ_=>?_) λ_=>?_
   .refine rr ?_;exact⟨j,G.ext⟩
   refine aW (λ_=>?_) λg2=>?_
   .refine rr ?_;exact⟨j,G.ext⟩
   have⟨d',e2⟩:=xh (s:=s) (k:=i+2) N;rw[e2];refine yx (λ_=>?_) λ_=>?_
   .refine rr ?_;exact⟨j,G.ext⟩
   refine dD (aeP G.wf v N) ?_;rintro _ H1 ⟨⟨t,rfl,_⟩,M⟩;refine tO (λ_=>?_) λ_=>?_
   .refine rr ?_;exact⟨j,M⟩
   refine tl ?_;refine dA (lu 1 O N)<|bM ?_;refine rr ?_;exact⟨⟨_,_,O,.inr ⟨N,N,N,N⟩⟩,M⟩
  refine tp ?_;refine aW (λI=>?_) λI=>o _;refine aW (λhd=>?_) λI=>o _;have⟨d,eb⟩:=xh (s:=s) (k:=i+2) N;have U:=d.toNat_lt;generalize d.toNat=T at eb U;have ad:=anf T;rw[eb];refine bM ?_;refine dD (aeR _ N) ?_;rintro w Q ⟨rfl,rfl⟩;refine bM ?_;refine aW (λhz=>?_) λ_=>o _;obtain⟨g,hg⟩:∃g:Nat,dgv T=g:=⟨(dgv T).toNat,N⟩;have hp:16^(i+1)=16^i*16:=Nat.pow_succ ..
  refine tl ?_;refine dA (mulN 16 O N) ?_;rw[eb];refine bM ?_;refine dD (aeR _ N) ?_;rintro w Q ⟨rfl,rfl⟩;rw[hg];exact dA (addN (16*v) O N)<|dA (lu 1 O N)<|⟨m-1,N,_,_,_,_,O,O,16*v+g,i+1,O,by rw[show i+2+1=i+1+2 by omega],N,N⟩
 refine aW (λY=>two F _ (by rw[b_ Y];rfl)) λY=>?_;refine aW (λd2=>two F _ (by rw[b_ d2];rfl)) λd2=>?_;refine aW (λd3=>two F _ (by rw[b_ d3];rfl)) λd3=>?_;refine aW (λd4=>two F _ (by rw[b_ d4];rfl)) λd4=>?_;exact two _ _ O
def Qd(h:k<=s.size):slT (aJ s) (Z<|B k) T T=Z (aJ<|Go.Ae.part s k s.size):=Cs h
def anh(j:Wf H)(s:aZ)(hs:s.size<=1000000)(hk:k<s.size):bQ Pg X 164 [aJ s,B k] H (Q1 (λv _=>∃r n e:Int,v=fO ⟨[vi r,vi n,vi e]⟩/\(e=0->0<=r/\r<134217728/\1<=n/\k+n<=s.size)) H):=by
 have G:=h_ j;refine lq [0,1,4,5,6,7,8] ?_;refine G.cm (aeQ j s k hk N) ?_;rintro _ H1 ⟨r,n,rfl,y⟩ M G;refine tO (λ_=>?_) λV=>?_
 .refine rr ?_;exact⟨⟨_,_,_,O,λh=>absurd h jq⟩,G.ext⟩
 have⟨I,W,h3,h4⟩:=y.resolve_left N;refine fP (λ_=>?_) λ_=>?_
 .refine rr ?_;exact⟨⟨_,_,_,O,λ_=>⟨I,W,N,N⟩⟩,G.ext⟩
 refine dA (lu 1 O N) ?_;rw[Qd N];refine bM ?_;have Y:=rO s (lo:=k+1) (hi:=s.size) N N;refine G.cm (Y9 G.wf _ N) ?_;rintro _ T ⟨q,m,rfl,o⟩ P G;refine tO (λ_=>?_) λU=>?_
 .refine rr ?_;exact⟨⟨_,_,_,O,λh=>absurd h jq⟩,G.ext⟩
 have⟨g1,g2,g3,g4⟩:=o.resolve_left N;refine dA (lu 1 O N)<|rr ?_;exact⟨⟨_,_,_,O,λ_=>⟨g1,g2,N,N⟩⟩,G.ext⟩
abbrev TT:Nat->Prop:=λ_=>True
def vW(ay:Nat->Prop)(H:R)(v:D):Prop:=∃(a:aC Addr)(n c:Nat)(j:C Nat),v=u a n c/\jJ ay 275 H a n 2 (gq j)/\n<=1000000/\(∀z∈j,z<134217728)/\∀y,a=Z y->y.spot=T
def _root_.Go.Ae.GB.sp{c:Nat}(h:GB ty es (u a n c) f gb):∀y,a=Z y->y.spot=T:=λy e=>by
 subst e;rcases h with⟨h,_⟩|⟨r,n,j,h,_⟩<;>cases h;rfl
def vW.nil(ay:Nat->Prop)(H:R):vW ay H (u T 0 0):=⟨T,0,0,[],O,jJ.nil _ _ _ _ _,N,(λz h=>by cases h),λy h=>by cases h⟩
def ani(hw:Wf H)(s:aZ)(hs:s.size<=1000000):bQ Pg X 136 [aJ s] H (Q1 (λv Q=>∃(x:D)(e w:Int),v=fO ⟨[x,vi e,vi w]⟩/\vW TT Q x/\0<=w/\w<=2000000) H):=by
 refine ce [0,2,3,4,5,6,7,8,9,10,11,12,13,14] ?_;refine tQ (λe=>?_) λ_=>?_
 .refine rr ?_;exact⟨⟨_,_,_,O,vW.nil _ _,N,N⟩,(h_ hw).ext⟩
 refine ajl 5 6 7 8 9 10 11 12 13 14 (h1:=λm x5 x6 x7 x8 x9 j_ Y mP ko vH Q=>∃k o gb,x6=B k/\k+m=s.size/\GB 275 2 x5 (gq o) gb/\SH [] H Q gb/\(∀z∈o,z<134217728)/\J o<=2*k) ?_ s.size ⟨0,[],[],rfl,N,GB.nil _ _,h_ hw,λz h=>(nomatch h),ax _⟩;rintro m x5 x6 x7 x8 x9 j_ Y mP ko vH E H1 ⟨k,o,gb,rfl,ad,hg,G,hz,ag⟩;refine iG.yD λK U=>?_;refine lX (λhc=>?_) λhc=>?_
 .rw[U];refine tl<|rr ?_;obtain⟨a,n,c,rfl,hn,hf⟩:=hg.KF (ay:=TT) (G.cast (bF gb).symm) λ_ _=>trivial;exact⟨⟨_,_,_,O,⟨a,n,c,o,O,hf,by rw[aK]at hn;omega,hz,hg.sp⟩,N,N⟩,G.ext⟩
 refine G.cm (anh G.wf s hs N) ?_;rintro v H2 ⟨r,n,e,rfl,hr⟩ M G;refine yx (λc=>?_) λc=>?_
 .rw[U];refine bM ?_;refine rr ?_;exact⟨⟨_,_,_,O,vW.nil _ _,N,N⟩,G.ext⟩
 have⟨g1,g2,g3,g4⟩:=hr c;obtain⟨r,rfl⟩:∃r':Nat,r=r':=⟨r.toNat,N⟩;obtain⟨n,rfl⟩:∃n':Nat,n=n':=⟨n.toNat,N⟩;refine dA (addN k O N)<|dA (lu 1 O N)<|bM ?_
 have j:∀(y P:Nat),k<P->P<=s.size->y<134217728->∀{V}(G:SH [] H V gb){x8 x9 Y mP ko vH:D}{E},iG Pg X (sub DU [1,1,1,0,1,0,0,1,0,1,1,1,1,1]) (Dn (aJ s) (u T 0 0) (vi 0) (vi 0) x5 (B P) (B r) x8 x9 (B y) Y mP ko vH E V) (uB 1 K):=by
  intro y P I W h4 V G x8 x9 Y mP ko vH E;refine tl<|PU.b2 O<|hg.push (G.cast (bF gb).symm) N O O O O O N (by rw[aK];omega) λw v' H4 iN ab G=>?_;refine bM ?_;rw[U];refine⟨s.size-P,N,_,_,_,_,_,_,_,_,_,_,_,_,O,P,o++[r,y],iN,O,N,by rw[show gq (o++[r,y])=gq o++[B r,B y]from dM];exact ab,G.cast<|bF iN,λz ac=>?_,by simp;omega⟩;rcases cK.1 ac with h|h
  .exact hz z h
  .simp at h;omega
 refine nN (λc1=>?_) λc1=>?_
 .refine tp ?_;exact j r (k+n) N N N G
 have⟨d,ed⟩:=xh (s:=s) (k:=k+n) N;rw[ed];refine bM ?_;refine tl<|aW (λ_=>?_) λ_=>?_;rotate_left
 .refine bM ?_;exact j r (k+n) N N N G
 refine dA (lu 1 O N)<|dD (anh G.wf s hs N) ?_;rintro v V ⟨⟨q,m',e,rfl,hr⟩,M⟩;have G:=G.call M;refine yx (λc=>?_) λc=>?_
 .refine dA (lu 1 O N) ?_;rw[U];refine bM ?_;refine rr ?_;exact⟨⟨_,_,_,O,vW.nil _ _,N,N⟩,G.ext⟩
 have⟨f1,f2,f3,f4⟩:=hr c;obtain⟨q,rfl⟩:∃r':Nat,q=r':=⟨q.toNat,N⟩;obtain⟨m',rfl⟩:∃n':Nat,m'=n':=⟨m'.toNat,N⟩;refine aW (λ_=>?_) λ_=>?_
 .rw[U];refine bM ?_;refine rr ?_;exact⟨⟨_,_,_,O,vW.nil _ _,N,N⟩,G.ext⟩
 exact dA (lu 1 O N)<|dA (addN (k+n+1) O N)<|j q (k+n+1+m') N N N G
abbrev cat'(a b:aZ):aZ:=⟨⟨app a.data.toList b.data.toList⟩⟩
def aeT(a b:aZ):(cat' a b).size=a.size+b.size:=by
 show J (app a.data.toList b.data.toList)=_;rw[uq,aS];rfl
def aaJ{P:aX}{t:aH}{ox oy:cB}{a b:aZ}(h:a.size+b.size<=4611686018427387904):mW P .add t ox oy (aJ a) (aJ b)=Z (aJ<|cat' a b):=by
 show gd (aD (a_ (len a.data.toList)<|len b.data.toList) 4611686018427387904) (Z<|aJ ⟨⟨app a.data.toList b.data.toList⟩⟩)=_;rw[ig,ig,aG (show a_ (J a.data.toList) (J b.data.toList)<=_ from h)];rfl
def aeU(hw:Wf H)(s:aZ)(hs:s.size<=1000000)(hb:b<s.size):bQ Pg X 102 [aJ s,B b] H (Q1 (λv _=>∃(t:aZ)(n e w:Int),v=fO ⟨[aJ t,vi n,vi e,vi w]⟩/\t.size<=4000000/\(e=0->b<n/\n<=s.size)) H):=by
 refine lq [0,1,4,5,6,7,8,9,10,11,12,13] ?_;refine dA (lu 1 O N) ?_;refine lp6 8 9 10 11 12 13 (h1:=λm x8 x9 j_ je U T Q=>∃k t,x8=aJ t/\x9=B k/\k+m=s.size/\b<k/\t.size<=4*k/\SH [] H Q []) ?_ (s.size-(b+1)) ⟨b+1,_,rfl,rfl,N,N,bD _,h_ hw⟩;rintro m x8 x9 j_ je U T E H1 ⟨k,t,rfl,rfl,ad,ac,ht,G⟩;refine iG.yD λK o=>?_;have y:∀{n e w:Int},e≠0->∃(t:aZ)(Y e' w':Int),(fO ⟨[aJ ⟨#[]⟩,vi n,vi e,vi w]⟩)=fO ⟨[aJ t,vi Y,vi e',vi w']⟩/\t.size<=4000000/\(e'=0->b<Y/\Y<=s.size):=λh=>⟨_,_,_,_,rfl,bD _,λh'=>absurd h' h⟩
 have P:∀E,iG Pg X (sub wU [1,1,1,1]) (vY (aJ s) (B b) (aJ ⟨#[]⟩) (vi 0) (vi 0) (vi 0) (aJ t) (B k) j_ je U T E H1) (jZ Pg [.tmp 4,.tmp 5,.tmp 6,.tmp 7]<|Q1 (λv _=>∃(t:aZ)(n e w:Int),v=fO ⟨[aJ t,vi n,vi e,vi w]⟩/\t.size<=4000000/\(e=0->b<n/\n<=s.size)) H):=by
  intro E;refine tQ (λ_=>?_) λ_=>?_
  .refine rr ?_;exact⟨y jq,G.ext⟩
  refine aW (λ_=>?_) λ_=>?_
  .refine rr ?_;exact⟨y jq,G.ext⟩
  refine dA (lu 1 O N)<|rr ?_;exact⟨⟨t,_,_,_,O,N,λ_=>⟨N,N⟩⟩,G.ext⟩
 refine lX (λhc=>?_) λhc=>?_
 .rw[o];refine bM ?_;exact P _
 have⟨c,ec⟩:=xh (s:=s) (k:=k) N;rw[ec];refine yx (λ_=>?_) λ_=>?_;rotate_left
 .rw[o];refine bM ?_;exact P _
 refine tl<|dD (aeQ G.wf s k N N) ?_;rintro _ H2 ⟨⟨r,n,rfl,hr⟩,M⟩;have G:=G.call M;refine tO (λ_=>?_) λh0=>?_
 .refine tp ?_;rw[o];refine bM ?_;refine rr ?_;exact⟨y jq,G.ext⟩
 have⟨g1,g2,g3,g4⟩:=hr.resolve_left N;obtain⟨r,rfl⟩:∃r':Nat,r=r':=⟨r.toNat,N⟩;refine tl<|aW (λ_=>?_) λ_=>?_
 .rw[o];refine bM ?_;refine rr ?_;exact⟨y jq,G.ext⟩
 refine tl ?_
 have j:∀{r n:Nat}(I:r<134217728)(W:1<=n)(h3:k+n<=s.size){V}(G:SH [] H V []){U T E},iG Pg X (sub wU [1,1,1,0,0,0,1,0,1,1,1]) (vY (aJ s) (B b) (aJ ⟨#[]⟩) (vi 0) (vi 0) (vi 0) (aJ t) (B k) (B r) (B n) U T E V) (uB 1 K):=by
  intro r n I W h3 V G U T E;refine tl<|dD (aeP G.wf r N) ?_;rintro v H4 ⟨⟨t2,rfl,ag⟩,M⟩;have G:=G.call M;refine dA (aaJ N)<|dA (addN k O N) ?_;have ab:=aeT t t2;refine bM ?_;rw[o];exact⟨s.size-(k+n),N,_,_,_,_,_,_,_,_,O,k+n,_,O,O,N,N,N,G⟩
 refine bM ?_;refine aW (λ_=>?_) λ_=>j N g3 N G;refine dA (lu 1 O N) ?_;rw[Qd N];refine bM ?_;have hp:=rO s (lo:=k+1) (hi:=s.size) N N;refine G.cm (Y9 G.wf _ N) ?_;rintro _ V ⟨q,Y,rfl,hq⟩ al G;refine tO (λ_=>?_) λ_=>?_
 .rw[o];refine bM ?_;refine rr ?_;exact⟨y jq,G.ext⟩
 have⟨f1,f2,f3,f4⟩:=hq.resolve_left N;obtain⟨q,rfl⟩:∃r':Nat,q=r':=⟨q.toNat,N⟩;exact dA (lu 1 O N)<|j N N N G
def vW.m'{ay:Nat->Prop}(h:vW ay H v):vW ay (hM H0 H) v:=h
def akg(U:Wf H)(s:aZ)(hs:s.size<=1000000)(hb:b<s.size):bQ Pg X 103 [aJ s,B b] H (Q1 (λv Q=>∃(x:D)(n e w:Int),v=fO ⟨[x,vi n,vi e,vi w]⟩/\vW TT Q x/\(e=0->b<n/\n<=s.size)) H):=by
 refine lq [0,1,4,5,6,7,8,9,10,11] ?_;refine dA (lu 1 O N) ?_;refine VQ 8 (h1:=λm Y Q=>Q=H/\∃k,Y=B k/\k+m=s.size+1/\b<k) ?_ (s.size+1-(b+1)) ⟨rfl,b+1,rfl,N,N⟩;rintro m Y E H1 ⟨rfl,k,rfl,ac,ab⟩;refine iG.yD λK o=>?_;refine tp ?_;have P:∀{n e w:Int},e≠0->∀Q,∃(x:D)(y I w':Int),(fO ⟨[u T 0 0,vi n,vi e,vi w]⟩)=fO ⟨[x,vi y,vi I,vi w']⟩/\vW TT Q x/\(I=0->b<y/\y<=s.size):=λh Q=>⟨_,_,_,_,rfl,vW.nil _ _,λh'=>absurd h' h⟩
 have j:∀{x9 V W} E,iG Pg X (sub Dl [1,1,1]) (Cz (aJ s) (B b) (u T 0 0) (vi 0) (vi 0) (vi 0) (B k) x9 V W E H1) (jZ Pg [.tmp 4,.tmp 5,.tmp 6,.tmp 7]<|Q1 (λv Q=>∃(x:D)(n e w:Int),v=fO ⟨[x,vi n,vi e,vi w]⟩/\vW TT Q x/\(e=0->b<n/\n<=s.size)) H1):=by
  intro x9 V W E;refine tQ (λ_=>?_) λ_=>?_
  .refine rr ?_;exact⟨P jq _,(h_ U).ext⟩
  refine dA (lu 1 O N) ?_;rw[Eu N N];refine bM ?_;have hp:=rO s (lo:=b+1) (hi:=k) N N;refine dD (ani U _ N) ?_;rintro _ H2 ⟨⟨x,e,w,rfl,hY,w0,w1⟩,M⟩;refine yx (λc=>?_) λc=>?_
  .refine dA (lu 1 O N) ?_;refine eG ?_;refine rr ?_;exact⟨P c _,M⟩
  refine dA (lu 1 O N)<|rr ?_;exact⟨⟨_,_,_,_,O,hY,λ_=>⟨N,N⟩⟩,M⟩
 refine nN (λhc=>?_) λhc=>?_
 .rw[o];refine bM ?_;exact j _
 have⟨c,ec⟩:=xh (s:=s) (k:=k) N;rw[ec];refine yx (λ_=>?_) λ_=>?_;rotate_left
 .rw[o];refine bM ?_;exact j _
 refine tl ?_;rw[ec];refine bM ?_;rw[o];refine aW (λ_=>?_) λ_=>?_
 .exact dA (lu 1 O N)<|dA (lu 1 O N)<|⟨s.size+1-(k+1+1),N,_,_,_,O,O,k+1+1,O,N,N⟩
 .exact dA (lu 1 O N)<|⟨s.size+1-(k+1),N,_,_,_,O,O,k+1,O,N,N⟩
def Y_(ay:Nat->Prop)(H:R)(l:C D)(z:Prop):Prop:=∃(k a e:Int)(t:aZ)(x:D),l=[vi k,vi a,vi e,aJ t,x]/\t.size<=4000000/\vW ay H x/\0<=k/\k<=15/\(z->k=0)
def BO(ay:Nat->Prop)(H:R)(v:D)(n:Nat):Prop:=∃(a:aC Addr)(c:Nat)(f:C D),v=u a n c/\jJ ay 186 H a n 5 f/\n<=20001/\∀i,i<n->Y_ ay H (El f 5 i) (i+1=n)
def vW.st{ay:Nat->Prop}{S:C Nat}(h:vW ay H v)(M:pI S H Q)(G:∀q∈S,¬ay q\/¬Ah H q 275):vW ay Q v:=let⟨a,n,c,zs,I,W,h3⟩:=h;⟨a,n,c,zs,I,W.stay M G,h3⟩
def Y_.st{ay:Nat->Prop}{S:C Nat}(h:Y_ ay H l z)(M:pI S H Q)(G:∀q∈S,¬ay q\/¬Ah H q 275):Y_ ay Q l z:=let⟨k,a,e,t',x,I,W,h3,h4⟩:=h;⟨k,a,e,t',x,I,W,h3.st M G,h4⟩
def aiE{S:C Nat}(Y:GB 186 5 x f gb)(M:J f=i*5)(hi:i<=20001)(G:SH S H0 H<|gb++L)(V:(gb++L).all (λe=>!(e.2.1==275))=F)(o:∀j,j<i->Y_ TT H (El f 5 j) False)(ht:Y_ TT H l z)(hw:bY w=l)(I:rJ w=F)(W:all' fZ l=F)(kk:∀q v' H3 iN cs',GB 186 5 v' cs' iN->J cs'=(i+1)*5->SH S H0 H3 (iN++L)->(∀j,j<i+1->Y_ TT H3 (El cs' 5 j) (j=i/\z))->Kp q v' H3):ME (bS 186 [vi 0,vi 0,vi 0,aJ ⟨#[]⟩,u T 0 0] 5 1 [(0,w)] H) λq H1=>ME (Bo 186 5 x q H1) (Kp q):=by
 have X:J l=5:=by obtain⟨_,_,_,_,_,rfl,_⟩:=ht;rfl
 have y:=G.AO V;refine Y.push G.base N O hw X I W N N λq v' H3 iN P B=>?_;have hE:=Dt (es:=5) (n:=i) M X;refine kk q v' H3 iN (f++l) P (by rw[aS];omega) (G.over B) λj hj=>?_;rcases dH j i with h|h
 .rw[hE.1 j h];have⟨k,a,e,t,x,g1,g2,g3,g4,g5,g6⟩:=(o j h).st B.ext λq U=>.inr<|y q U;exact⟨k,a,e,t,x,g1,g2,g3,g4,g5,λh=>N⟩
 .obtain rfl:j=i:=N;rw[hE.2];have⟨k,a,e,t,x,g1,g2,g3,g4,g5,g6⟩:=ht.st B.ext λq U=>.inr<|y q U;exact⟨k,a,e,t,x,g1,g2,g3,g4,g5,λh=>g6 h.2⟩
theorem ao1(hw:Wf H)(s:aZ):bQ Pg X 70 [aJ s] H (Q1 (λv Q=>∃(x:D)(e w:Int),v=fO ⟨[x,vi e,vi w]⟩/\(e=0->∃n,BO TT Q x<|n+1)) H):=by
 refine ce [0,2,3,4,5,6,7,8,9,10] ?_;refine tQ (λc=>?_) λhc=>?_
 .refine rr ?_;exact⟨⟨_,_,_,O,λh=>absurd h jq⟩,(h_ hw).ext⟩
 have hs:s.size<=20000:=N;refine dD (aeS s N (k0:=0)<|bD _) ?_;rintro _ H ⟨⟨b,rfl,_,hb⟩,rfl⟩;refine lp6 5 6 7 8 9 10 (h1:=λm x5 x6 x7 x8 x9 j_ Q=>∃(b n:Nat)(f:C D)(gb:C eB),x6=B b/\b+m=s.size/\n<=b/\GB 186 5 x5 f gb/\J f=n*5/\SH [] H Q gb/\∀j,j<n->Y_ TT Q (El f 5 j) False) ?_ (s.size-b) ⟨b,0,[],[],rfl,N,bD _,GB.nil _ _,rfl,h_ hw,λj h=>absurd h<|iP _⟩;rintro m x5 x6 x7 x8 x9 j_ E H1 ⟨b,n,f,gb,rfl,a6,a9,hg,ao,G,y⟩;refine iG.yD λK hK=>?_;have er:∀{e w:Int}{Q:R},e≠0->∃(x:D)(e' w':Int),(fO ⟨[u T 0 0,vi e,vi w]⟩)=fO ⟨[x,vi e',vi w']⟩/\(e'=0->∃n,BO TT Q x<|n+1):=λh=>⟨_,_,_,rfl,λh'=>absurd h' h⟩;refine lX (λhc=>?_) λhc=>?_
 .rw[hK];refine tp ?_;refine PU.b5 O<|aiE (z:=True) hg ao N (G.cast (bF gb).symm) (by simp[hg.all]) y ⟨_,_,_,_,_,rfl,bD _,vW.nil _ _,N,N,λ_=>rfl⟩ O O O λw v' H3 iN an al am G y=>?_;refine bM ?_;obtain⟨a,n',c,rfl,a8,hf⟩:=al.KF (ay:=TT) G λ_ _=>trivial;obtain rfl:n'=n+1:=N
  refine rr ?_;exact⟨⟨_,_,_,O,λ_=>⟨n,a,c,_,rfl,hf,N,λj hj=>by
   have⟨k,a,e,t,x,g1,g2,g3,g4,g5,g6⟩:=y j hj;exact⟨k,a,e,t,x,g1,g2,g3,g4,g5,λh=>g6 ⟨N,trivial⟩⟩⟩⟩,G.ext⟩
 refine dA (lu 1 O N)<|PU.b5 O ?_;have ac:=G;refine G.oV O O O λH3 rt G a2=>?_;have G:SH [] H H3 ((rt,186,[vi 0,B b,B<|b+1,aJ ⟨#[]⟩,u T 0 0])::gb):=G;have y:∀j,j<n->Y_ TT H3 (El f 5 j) False:=λj hj=>(y j hj).st a2 nofun;have⟨ch,ec⟩:=xh (s:=s) (k:=b) N;rw[ec];refine dD (Y8 _) ?_;rintro v H4 ⟨⟨bl,rfl⟩,rfl⟩
 have Y:∀{U:R}{k e:Int}{t':aZ}{x:D}{ev wv:Int},SH [] H U ((rt,186,[vi k,B b,vi e,aJ t',x])::gb)->(∀j,j<n->Y_ TT U (El f 5 j) False)->vW TT U x->0<=k->k<=15->t'.size<=4000000->(ev=0->b<e/\e<=s.size)->∀{x8 E},iG Pg X (sub jd [1,1,1,0,1,0,0,1,0,0,1,1,1,1]) (q8 (aJ s) (u T 0 0) (vi 0) (vi 0) x5 (B b) (pr rt) x8 (vi ev) (vi wv) E U) (uB 1<|uW Pg X (sub jd [1,1,1,0,1,0,0,1,1]) K):=by
  intro U k e t' x ev wv G y M aq hk ht hE x8 E;obtain⟨xa,xn,xc,zs,rfl,ad⟩:=id M;refine al3 (λc=>?_) λc=>?_
  .rw[hK];refine bM ?_;refine rr ?_;exact⟨er c,G.ext⟩
  have⟨I,W⟩:=hE c;obtain⟨e,rfl⟩:∃e':Nat,e=e':=⟨e.toNat,N⟩;refine G.uL 0 O (ax 5)<|aiE (z:=False) hg ao N (G.perm<|aI (l₁:=[_])) (by simp[hg.all]) y ⟨_,_,_,_,_,rfl,ht,M,aq,hk,λh=>h.elim⟩ O O O λw v' H6 iN an al am G y=>?_;have G:=G.perm<|aI (l₂:=[_]);refine G.ld 0 (o:=2) O O<|tl<|dD (aeS s N (k0:=e) N) ?_;rintro _ H7 ⟨⟨b',rfl,a3,a4⟩,rfl⟩;rw[hK]
  exact⟨s.size-b',N,_,_,_,_,_,_,_,_,O,b',n+1,an,iN,O,N,N,al,am,fU (A:=[_]) G,λj hj=>by
   have⟨k,a,e,t,x,g1,g2,g3,g4,g5,g6⟩:=y j hj;exact⟨k,a,e,t,x,g1,g2,g3,g4,g5,λh=>h.elim⟩⟩
 have P:∀{U H6:R}{l:C D}{L':C eB},SH [] H U ((rt,186,l)::gb)->SH ((((rt,186,l)::gb):C eB).map (·.1)) U H6 L'->(∀j,j<n->Y_ TT U (El f 5 j) False)->∀j,j<n->Y_ TT H6 (El f 5 j) False:=λI W h3 j hj=>(h3 j hj).st W.ext λq hq=>.inr<|I.AO (by simp[hg.all]) q hq;refine sD (λ_=>?_) λ_=>?_
 .have ag:∀{U:R}{e:Nat},b<e->e<=s.size->SH [] H U ((rt,186,[vi 0,B b,B e,aJ ⟨#[]⟩,u T 0 0])::gb)->(∀j,j<n->Y_ TT U (El f 5 j) False)->∀{E},iG Pg X (sub jd [1,1,1,0,1,0,0,1,0,0,1,1,1,0,0,1,0,1]) (q8 (aJ s) (u T 0 0) (vi 0) (vi 0) x5 (B b) (pr rt) (bq dz ch.toNat) (vi 0) (vi 0) E U) (uB 2<|uW Pg X (sub jd [1,1,1,0,1,0,0,1,0,0,1,1,1,1])<|uB 1<|uW Pg X (sub jd [1,1,1,0,1,0,0,1,1]) K):=by
   intro U e I W G y E;have ac:=G;have G:=G.base;refine tm ?_;rw[Eu N W];refine G.lJ ?_;refine G.n_ λHn G=>?_;refine G.n_ λHn G=>?_;refine splitK (λK hK=>?_) ?_
   .simp only[fu,gT];apply Gc (a:=rt) yB fT fT hK
   have hp:=rO s (lo:=b) (hi:=e) N W
   have ab:∀{z:Int}{H6:R},0<=z->z<=15->SH ((((rt,186,[vi 0,B b,B e,aJ ⟨#[]⟩,u T 0 0])::gb):C eB).map (·.1)) U H6 ((rt,186,[vi z,B b,B e,aJ<|Ae.part s b e,u T 0 0])::gb)->∀{E},iG Pg X (sub jd [1,1,1,0,1,0,0,1,0,0,1,1,1,0,0,1,0,1,1,1]) (q8 (aJ s) (u T 0 0) (vi 0) (vi 0) x5 (B b) (pr rt) (bq dz ch.toNat) (vi 0) (vi 0) E H6) (uB 2<|uW Pg X (sub jd [1,1,1,0,1,0,0,1,0,0,1,1,1,1])<|uB 1<|uW Pg X (sub jd [1,1,1,0,1,0,0,1,1]) K):=by
    intro z H6 z0 z1 hO E;have y:=P ac hO y;have G:=ac.over hO;refine tp ?_;refine G.ld 0 (o:=2) O O ?_;rw[qO N N];refine tO (λc=>?_) λ_=>?_
    .rw[hK];refine bM ?_;refine rr ?_;exact⟨er jq,G.ext⟩
    exact Y G y (vW.nil _ _) z0 z1 N λ_=>N
   refine aW (λc=>?_) λc=>?_
   .exact G.kE λHn G=>ab N N G
   .exact ab N N G
  refine VQ 9 (h1:=λm x9 Q=>x9=vi 0/\∃k,k+m=s.size/\b+1<=k/\SH [] H Q ((rt,186,[vi 0,B b,B k,aJ ⟨#[]⟩,u T 0 0])::gb)/\∀j,j<n->Y_ TT Q (El f 5 j) False) ?_ (s.size-(b+1)) ⟨rfl,b+1,N,ax _,G,y⟩;clear G y;rintro q x9 E U ⟨rfl,k,a7,a5,G,y⟩;refine tp ?_;refine G.ld 0 (o:=2) O O ?_;refine bM ?_;refine aW (λc=>?_) λc=>ag N N G y;refine G.ld 0 (o:=2) O O ?_;have⟨c1,ec1⟩:=xh (s:=s) (k:=k) N;rw[ec1];refine bM ?_;refine dD (ane _) ?_;rintro v H6 ⟨⟨bp,rfl⟩,rfl⟩;refine bM ?_;refine iI (λc2=>?_) λc2=>ag N N G y;have ac:=G;have G:=G.base;refine tp ?_;exact G.ld 0 (o:=2) O O<|dA (lu 1 O N)<|G.kE λHn G=>⟨q-1,N,_,_,_,rfl,rfl,k+1,N,N,ac.over G,P ac G y⟩
 have V:=G;have G:=G.base;refine aW (λ_=>?_) λ_=>?_
 .refine G.kE λHn G=>dD (aeU G.wf s N (b:=b) N) ?_;rintro v U ⟨⟨t',e,ev,wv,rfl,a0,hE⟩,M⟩;have G:=G.call M;refine G.lJ ?_;refine G.kE λHn G=>?_;refine G.kE λHn G=>?_;exact Y (V.over G) (P V G y) (vW.nil _ _) N N a0 hE
 refine aW (λ_=>?_) λ_=>?_
 .refine G.kE λHn G=>dD (akg G.wf s N (b:=b) N) ?_;rintro v U ⟨⟨x,e,ev,wv,rfl,ad,hE⟩,M⟩;have G:=G.call M;have a1:=G.AO (ty:=275) (by simp[hg.all]);have ap:=G;have G:=G.base;obtain⟨xa,xn,xc,zs,rfl,ba⟩:=id ad;refine G.lJ ?_;refine G.kE λHn G=>?_;refine G.kE λHn G=>?_;have ad:=ad.st G.ext λq hq=>.inr<|a1 q hq;have G:=ap.over G;exact Y (V.over G) (P V G y) ad N N (bD _) hE
 have ab:∀{b1:Bool}{E},Co E 100=aR b1->(b1=F->b+1<s.size)->iG Pg X (sub jd [1,1,1,0,1,0,0,1,0,0,1,1,1,0,0,1,1,1,1,1,1,1]) (q8 (aJ s) (u T 0 0) (vi 0) (vi 0) x5 (B b) (pr rt) (bq dz ch.toNat) (vi 0) (vi 0) E H4) (uB 2<|uW Pg X (sub jd [1,1,1,0,1,0,0,1,0,0,1,1,1,1])<|uB 1<|uW Pg X (sub jd [1,1,1,0,1,0,0,1,1]) K):=by
  intro b1 E aE W;refine tl ?_;rw[aE];cases b1
  .refine bM ?_;refine dD (ang _) ?_;rintro v U ⟨⟨k,rfl,hk⟩,rfl⟩;refine G.kE λHn G=>?_;refine yz (λ_=>?_) λ_=>?_
   .rw[hK];refine bM ?_;refine rr ?_;exact⟨er jq,(V.over G).ext⟩
   exact Y (V.over G) (P V G y) (vW.nil _ _) N N (bD _) λ_=>N
  .refine bM ?_;refine dA (lu 2 O N)<|G.kE λHn G=>?_;refine G.kE λHn G=>?_;have:=W O;exact Y (V.over G) (P V G y) (vW.nil _ _) N N (bD _) λ_=>N
 refine aW (λ_=>?_) λ_=>ab O<|nofun;refine dA (lu 1 O N)<|bM ?_;refine aW (λ_=>?_) λ_=>ab O<|nofun;refine dA (lu 1 O N) ?_;have⟨c1,ec1⟩:=xh (s:=s) (k:=b+1) N;rw[ec1];refine bM ?_;exact ab O λ_=>N
section
variable{S:C Nat}{xs:C D}
def GE(ty:aH)(es:Nat)(v:D)(f:C D)(gb:C eB):Prop:=GB ty es v f gb\/∃a,v=u (Z a) 0 0/\f=[]/\gb=[]
def GE.sl(h:GE ty es v f gb):∃a n c,v=u a n c:=by
 rcases h with(⟨rfl,_⟩|⟨r,n,j,rfl,_⟩)|⟨a,rfl,_⟩<;>exact⟨_,_,_,O⟩
def GE.KF{ay:Nat->Prop}(h:GE ty es v f gb)(G:SH S H0 H<|gb++L)(j:∀e∈gb,ay e.1):∃a n c,v=u a n c/\J f=n*es/\jJ ay ty H a n es f:=by
 rcases h with h|⟨a,rfl,rfl,rfl⟩
 .exact h.KF G j
 .exact⟨Z a,0,0,O,gD,⟨gD,λi x h=>by simp at h⟩,λr o e h=>absurd h<|mG 0⟩
theorem _root_.Go.Ae.SH.akh(G:SH S H0 H L){z:C D}(k:∀H1 a,SH S H0 (hM H H1) L->N_ H H1=cl 5->K (u (Z a) 0 0) H1):ME (bS ty z es 0 []<|hN H) K:=by
 refine ME.of (v:=u (Z ⟨H.bU,0,T⟩) 0 0) (H:=(hN H).new<|rowOf ty []) ?_<|k _ _ (fU (A:=[_])<|G.zC ty [])<|yg<|Ext.new _ _;unfold bS;rw[show bO 0 es=0 from jm es];rfl
def _root_.Go.Ae.SH.aki(G:SH S H0 H L)(y:appended (hN H) es x=Z (n,xs))(M:J xs=n*es)(B:n<=16777216){j:Addr}(k:∀v' H1 iN,GE ty es v' xs iN->SH S H0 (hM H H1) (iN++L)->Df H H1=cl 1->K v' H1):ME (Bo ty es (u (Z j) 0 0) x<|hN H) K:=by
 rw[Cv (.inr ⟨_,rfl⟩) y B];split
 .next o=>
  subst o;obtain rfl:xs=[]:=eU.1 N;refine k _ (hN H) [] (.inr ⟨j,O,O,O⟩) ?_<|gJ<|Ext.refl _;rw[iT G.wf];exact G
 .exact k _ _ [(H.bU,ty,xs)] (.inl<|.inr ⟨H.bU,n,[],O,M,gD⟩) (G.zC ty xs)<|gJ<|Ext.new _ _
theorem GE.apX(y:GE ty es v f gb)(G:SH S H0 H<|gb++L)(Y:0<es)(B:appended (hN H) es x=Z (n,xs))(M:J xs=n*es)(V:all' fZ xs=F)(hn:n<=16777216)(hc:J f<=16777216)(k:∀v' H1 iN,GE ty es v' (f++xs) iN->SH S H0 (hM H H1) (iN++L)->(Df H H1=cl 1\/Df H H1=⟨2,0,0,0,H,H1⟩)->K v' H1):ME (Bo ty es v x<|hN H) K:=by
 have j:∀{w},(w=u T 0 0\/∃a,w=u (Z a) 0 0)->GE ty es w [] []->SH S H0 H L->(∀v' H1 iN,GE ty es v' xs iN->SH S H0 (hM H H1) (iN++L)->(Df H H1=cl 1\/Df H H1=⟨2,0,0,0,H,H1⟩)->K v' H1)->ME (Bo ty es w x<|hN H) K:=λhw P G k=>by
  rw[Cv hw B hn];split
  .next h0=>
   subst h0;obtain rfl:xs=[]:=eU.1 N;refine k _ (hN H) [] P ?_<|.inl<|gJ<|Ext.refl _;rw[iT G.wf];exact G
  .exact k _ _ [(H.bU,ty,xs)] (.inl<|.inr ⟨H.bU,n,[],O,M,gD⟩) (G.zC ty xs)<|.inl<|gJ<|Ext.new _ _
 rcases id y with(⟨rfl,rfl,rfl⟩|⟨r,m,X,rfl,hm,rfl⟩)|⟨a,rfl,rfl,rfl⟩
 .exact j (.inl O) y G k
 .cases n with
  |zero=>
   obtain rfl:xs=[]:=eU.1 N;refine ME.of (v:=u (Z ⟨r,0,T⟩) m<|gQ es) (H:=hN H) ?_<|k _ (hN H) _ (by rw[bF];exact y) (by rw[iT G.wf];exact G)<|.inl<|gJ<|Ext.refl _;unfold Bo;show(aN (appended (hN H) es x) λq=>gd (aD q.1 16777216)<|Sg (ty,es) _ (Z ⟨r,0,T⟩,m,gQ es) q.1 q.2<|hN H)=_;rw[B];rfl
  |succ n=>
   have hb:Bk (hN H) r ty (f++X):=G.get 0 O;have hr:=(G.lo _<|aL ..).2
   have U:m<=16777216:=by
    have:m*1<=m*es:=gM m Y;omega
   have⟨r',H1,FM,I,W,h3,h4,h5,h6⟩:=QS Y hb hr hm B N V N U;refine ME.of I<|k _ H1 [(r',ty,f++xs++FM)] (.inl<|.inr ⟨r',m+(n+1),FM,O,?_,O⟩) ?_<|xB _ _
   .rw[aS,hm,M,<-iC]
   .refine SH.turn (A:=[(r,ty,f++X)]) G h5.draw (λe o=>?_) (jG _ _);rw[aT]at o;subst o;refine⟨W,?_,h4⟩;rcases h3 with h3|h3
    .exact .inl (by simp[h3])
    .exact .inr (by show H.bU<=r';rw[h3];exact ax _)
 .exact j (.inr ⟨a,O⟩) y G k
theorem GE.aeV(I:GE ty es v f gb){o cx:Nat}(G:SH S H0 H<|(o,ty,xs)::(gb++L))(B:0<es)(M:J xs=es)(j:all' fZ xs=F)(y:J f<=16777216)(k:∀v' H1 iN,GE ty es v' (f++xs) iN->SH S H0 (hM H H1) (iN++L)->(Df H H1=cl 1\/Df H H1=⟨2,0,0,0,H,H1⟩)->K v' H1):ME (Bo ty es v (u (Z ⟨o,0,T⟩) 1 cx)<|hN H) K:=
 I.apX (fU (A:=[_]) G) B (xJ (H:=hN H) (k:=1) (G.get 0 O) N) N j N y k
end
def DK(H:R)(v:D)(k:Nat):Prop:=∃(r n c:Nat)(xs:C Nat)(j:C D),v=u (Z ⟨r,0,T⟩) n c/\(c=gQ 1\/n=1/\c=1)/\Bk H r 3 (gq xs++j)/\r<H.bU/\J xs=n/\n<=k/\∀x∈xs,x<=134217728
def DK.ex(h:DK H v k)(M:Ext H Q):DK Q v k:=let⟨r,n,c,xs,eY,I,W,h3,h4,h5⟩:=h;⟨r,n,c,xs,eY,I,W,h3.ex h4 M,aO h4 M.bU,h5⟩
def anj{c:Nat}(j:c=gQ 1\/n=1/\c=1)(h:k<=n):∃c',R4 1 (u (Z ⟨r,0,T⟩) n c) T (Z<|B k) T=Z (u (Z ⟨r,0,T⟩) k c'):=by
 rcases j with rfl|⟨rfl,rfl⟩
 .exact⟨_,BV h⟩
 .obtain rfl|rfl:k=0\/k=1:=N
  .exact⟨_,O⟩
  .exact⟨_,O⟩
theorem ag1{c:Nat}(j:c=gQ 1\/n=1/\c=1)(h:k<=n):∃o c',R4 1 (u (Z ⟨r,0,T⟩) n c) (Z<|B k) T T=Z (u (Z ⟨r,o,T⟩) (n-k) c')/\o+(n-k)<=n:=by
 rcases j with rfl|⟨rfl,rfl⟩
 .exact⟨_,_,Tv h,N⟩
 .obtain rfl|rfl:k=0\/k=1:=N
  .exact⟨_,_,O,ax 1⟩
  .first|exact⟨_,_,O,ax 1⟩|exact⟨_,_,O,bD 1⟩
def aeW{o c:Nat}{xs eY:C D}(h:Bk H r ty<|xs++eY)(hl:o+k<=J xs):appended (hN H) 1 (u (Z ⟨r,o,T⟩) k c)=Z (k,(xs.drop o).take k):=by
 have h:Bk (hN H) r ty (xs++eY):=h;show(aN ((hN H).read r o<|bO k 1) λl=>Z (k,l))=_;rw[show bO k 1=k from dN k,h.read (by rw[aS];omega),rR N,lS (by rw[v_];omega)];rfl
def aeX:∀xs:C Nat,all' fZ (gq xs)=F
 |[]=>rfl
 |x::xs=>by show cr F (all' fZ<|gq xs) aA=F;exact aeX xs
theorem aiF(hw:Wf H){z:Nat}(hl:DK H v k)(hk:k<=3000000)(hz:z<=134217728):bQ Pg X 219 [v,B z] H (Q1 (λw Q=>DK Q w<|k+1) H):=by
 obtain⟨r,n,c,xs,eY,rfl,hc,Y,hr,hn,a0,V⟩:=id hl;have G:=h_ hw;have P:DK H (u (Z ⟨r,0,T⟩) n c) (k+1):=⟨r,n,c,xs,eY,O,hc,Y,hr,hn,N,V⟩;refine GY [0,1,4,5] ?_;refine aW (λc=>N) λ_=>?_;refine aW (λc=>?_) λ_=>?_
 .refine rr ?_;exact⟨P,G.ext⟩
 refine tl ?_
 have ix:∀{i}{K:D->D->R->Prop},i<n->(∀p x,K p (B x) H)->PU (B_ 1 (u (Z ⟨r,0,T⟩) n c)<|B i) λp=>ME (wR T p H) (K p):=λ{i K} hi hk=>by
  have hf:jJ (λ_=>True) 3 H (Z ⟨r,0,T⟩) n 1 (gq xs):=⟨⟨by rw[aK];omega,λj x hj=>⟨r,0,rfl,hr,by rw[bB];apply Y.cell;rw[bX (bI.1 hj).1];exact hj⟩⟩,λr' o e _=>by cases e;exact⟨trivial,hr,Y.Gb⟩⟩;exact hf.ix hi (jX _<|av N) λp=>hk p _
 refine VQ 5 (h1:=λm x5 Q=>Q=H/\∃i,x5=B i/\i+m=n) ?_ n ⟨rfl,0,rfl,bB n⟩;rintro m x5 E Q ⟨rfl,i,rfl,aE⟩
 have W:∀{x4 E},iG Pg X (sub yE [1,1,1,1,1]) (ym (u (Z ⟨r,0,T⟩) n c) (B z) x4 (B i) E Q) (jZ Pg [.tmp 4]<|Q1 (λw Q=>DK Q w<|k+1) Q):=by
  intro x4 E;refine tl<|G.akh λH1 a G ac=>?_;have⟨c1,e1⟩:=anj (r:=r) (k:=i) hc N;refine dA e1 ?_;have I:J (gq xs)=n:=by rw[aK];exact hn
  refine G.aki (aeW (Y.ex hr G.ext) N) (by rw[dX,jE,I];omega) N λv2 H2 g2 an G ad=>?_;refine G.Tq O O O N λH3 rx G ag=>an.aeV G N O O (by rw[dX,jE,I];omega) λv4 H4 g4 ao G al=>?_;have⟨o,c5,e5,ho⟩:=ag1 (r:=r) (k:=i) hc N;refine dA e5 ?_;have e2:((gq xs).drop o).take (n-i)=gq ((xs.drop o).take<|n-i):=by show _=List.map _ _;rw[qB,List.map_drop]
  refine ao.apX G N (aeW (Y.ex hr G.ext) N) (by rw[dX,v_,I];omega) ?_ N (by rw[aS,dX,jE,I];show min i n+1<=_;omega) λv6 H6 g6 U G am=>?_
  .rw[e2];exact aeX _
  refine splitK (λK hK=>?_) ?_
  .simp only[ac,ad,ag];rcases al with e|e<;>rw[e]<;>rcases am with e|e<;>rw[e]<;>apply Gf (au:=λ_=>True) fT fT hK<;>repeat' apply iZ
   all_goals first|exact trivial|(intro h;cases h;done)|exactλ_=>trivial
  rw[e2,jE,<-qB,show bY (B z)=gq [z]from O,<-dM,<-dM]at U;generalize hys:xs.take i++[z]++(xs.drop o).take (n-i)=ys at U;have ab:J ys=n+1:=by rw[<-hys];simp;omega
  have aq:∀y∈ys,y<=134217728:=λy hy=>by
   rw[<-hys]at hy;simp only[cK,aT]at hy;rcases hy with(hy|hy)|hy
   .exact V y<|fG hy
   .omega
   .exact V y<|lV<|fG hy
  rcases U with(⟨_,h,_⟩|⟨r6,n6,j6,rfl,ap,rfl⟩)|⟨_,_,h,_⟩
  .have:=fq J h;rw[aK,ab]at this;cases this
  .rw[aK]at ap;refine rr ?_;exact⟨⟨r6,n6,_,ys,j6,O,.inl O,G.get 0 O,(G.lo _<|aL ..).2,N,N,aq⟩,G.ext⟩
  .have:=fq J h;rw[aK,ab]at this;cases this
 have M:∀{x4 E},iG Pg X (sub yE [1,1,1,1]) (ym (u (Z ⟨r,0,T⟩) n c) (B z) x4 (B i) E Q) (jZ Pg [.tmp 4]<|Q1 (λw Q=>DK Q w<|k+1) Q):=by
  intro x4 E;refine tp ?_;refine aW (λc=>?_) λ_=>W;refine ix N λp x=>?_;refine bM ?_;refine aW (λc=>?_) λ_=>W;refine rr ?_;exact⟨P,G.ext⟩
 refine tp ?_;refine aW (λc=>?_) λ_=>M;refine ix N λp x=>?_;refine bM ?_;refine aW (λc=>?_) λ_=>M;exact dA (lu 1 O N)<|⟨m-1,N,_,_,_,O,O,i+1,O,N⟩
def vW.rd{ay:Nat->Prop}{c cs:Nat}{zs:C Nat}(h:jJ ay 275 H a n 2<|gq zs)(hi:i<n)(y:cs<2)(I:∀z∈zs,z<134217728):∃r o,B_ 2 (u a n c) (B i)=Z (bG<|Z ⟨r,o,T⟩)/\r<H.bU/\∃x:Nat,x<134217728/\H.cell r (o+cs)=Z (B x):=by
 have⟨r,o,e,hr,hcl,_⟩:=h.1.idx (c:=c) N hi;have j:i*2+cs<J zs:=by have:=h.1.1;rw[aK]at this;omega
 refine⟨r,o,e,hr,zs[i*2+cs],I _<|bH j,hcl cs _ y ?_⟩;exact jX _<|av j
def ank(x:Nat):UZ F [B x,vi 0]=Z (B x):=by rw[max2,show max (x:Int) 0=x by omega]
def ao2{ay:Nat->Prop}{z:Nat}(hs:vW ay H v):bQ Pg X 193 [v,B z] H (Q0 (λw=>∃b,w=aR b) H):=by
 obtain⟨a,n,c,zs,rfl,P,hn,T,_⟩:=hs;refine lq [0,1,4,5] ?_;refine VQ 5 (h1:=λm x5 Q=>Q=H/\∃i,x5=B i/\i+m=n) ?_ n ⟨rfl,0,rfl,bB n⟩;rintro m x5 E Q ⟨rfl,i,rfl,Y⟩;refine lX (λV=>?_) λV=>?_
 .refine tl ?_;refine rr ?_;exact⟨⟨_,O⟩,O⟩
 have⟨r,o,e1,_,x,_,I⟩:=vW.rd (c:=c) (cs:=0) P (show i<n by omega) N T;have⟨r',o',e1',_,y,_,W⟩:=vW.rd (c:=c) (cs:=1) P (show i<n by omega) N T;rw[e1]at e1';cases e1';rw[d_]at I
 have zZ:∀{E:D->Rs},PU (mW Pg .add 3 (.tmp 10) (.const<|vi 1) (B i)<|vi 1) λv=>∃M,M<m/\∃x5 U j,yF (u a n c) (B z) (aR aA) v (E v) Q=yF (u a n c) (B z) (aR aA) x5 U j/\j=Q/\∃i,x5=B i/\i+M=n:=λ{E}=>by
  refine dA (lu 1 O N) ?_;exact⟨m-1,N,_,_,_,O,O,i+1,O,N⟩
 refine aW (λ_=>?_) λ_=>zZ;refine aW (λ_=>?_) λ_=>zZ;refine dA e1 ?_;refine bM ?_;refine iY I ?_;refine bM ?_;refine aW (λ_=>?_) λ_=>zZ;refine dA e1 ?_;refine bM ?_;refine iY W ?_;refine bM ?_;refine aW (λ_=>?_) λ_=>zZ;refine rr ?_;exact⟨⟨_,O⟩,O⟩
def akj{ay:Nat->Prop}(hw:Wf H)(hs:vW ay H v):bQ Pg X 192 [v] H (Q1 (λw Q=>DK Q w 3000000) H):=by
 obtain⟨a,n,c,zs,rfl,hf,hn,hz,_⟩:=hs;have G:=h_ hw;refine lq [0,2,3,4] ?_;refine G.bS O O O N λH1 rx G=>?_;have Y:=G.get 0 O;refine lp2 3 4 (h1:=λm x3 x4 Q=>∃i,x4=B i/\i+m=n/\DK Q x3 (1+2*i)/\SH [] H Q []) ?_ n ⟨0,rfl,bB n,⟨rx,1,1,[0],[],rfl,.inr ⟨rfl,rfl⟩,Y,(G.lo _<|aL ..).2,rfl,ax _,gD⟩,fU (A:=[_]) G⟩;clear G Y;rintro m x3 x4 E H2 ⟨i,rfl,ab,P,G⟩;refine lX (λhc=>?_) λhc=>?_
 .refine tl ?_;have⟨r,k,c,xs,j,I,W,h3,h4,h5,h6,h7⟩:=P;refine rr ?_;exact⟨⟨r,k,c,xs,j,I,W,h3,h4,h5,N,h7⟩,G.ext⟩
 have⟨r,o,e1,hr,x,M,I⟩:=vW.rd (c:=c) (cs:=0) hf (show i<n by omega) N hz;have⟨r',o',e1',_,y,hy,W⟩:=vW.rd (c:=c) (cs:=1) hf (show i<n by omega) N hz;rw[e1]at e1';cases e1';rw[d_]at I;have cl:∀{T:R}{o:Nat}{x:D},SH [] H T []->H.cell r o=Z x->T.cell r o=Z x:=λG h=>(nU (G.ext.obj r hr nofun) _).trans h;refine dA e1<|bM ?_;refine iY (cl G I)<|dA (ank x)<|dD (aiF G.wf P N N) ?_;rintro w T ⟨P,U⟩;have G:=G.call U;refine dA e1<|bM ?_;refine iY (cl G W) ?_;refine bM ?_
 with_reducible refine aeO (λ_=>?_) λ_=>?_
 .refine dA e1<|bM ?_;refine iY (cl G W)<|dA (lu 1 O N)<|dA (ank<|y+1)<|dD (aiF G.wf P N N) ?_;rintro w H4 ⟨P,V⟩;have G:=G.call V;exact dA (lu 1 O N)<|⟨m-1,N,_,_,_,_,O,i+1,O,N,by rw[show 1+2*(i+1)=1+2*i+1+1 by omega];exact P,G⟩
 .refine dA (lu 1 O N) ?_;have⟨r,k,c,xs,j,I,W,h3,h4,h5,h6,h7⟩:=P;exact⟨m-1,N,_,_,_,_,O,i+1,O,N,⟨r,k,c,xs,j,I,W,h3,h4,h5,N,h7⟩,G⟩
def DK.fl(h:DK H v k):∃(a:aC Addr)(n c:Nat)(xs:C Nat),v=u a n c/\jJ (λ_=>True) 3 H a n 1 (gq xs)/\n<=k/\J xs=n/\∀x∈xs,x<=134217728:=by
 obtain⟨r,n,c,xs,T,rfl,U,I,N,P,y,B⟩:=h;exact⟨_,n,c,xs,O,⟨⟨by rw[aK];omega,λj x M=>⟨r,0,rfl,N,by rw[bB];apply I.cell;rw[bX (bI.1 M).1];exact M⟩⟩,λV o e _=>by cases e;exact⟨trivial,N,I.Gb⟩⟩,y,P,B⟩
theorem akk(hw:Wf H){xs:C Nat}{c:Nat}(hf:jJ (λ_=>True) 3 H ea en 1<|gq xs)(aq:en<=3000000)(a0:J xs=en)(an:∀x∈xs,x<=134217728)(hb:jJ (λ_=>True) 4 H a n 1<|bools bs):bQ Pg X 194 [u ea en ec,u a n c] H (Q1 (λw _=>∃a n c,w=u a n c) H):=by
 have ap:J bs=n:=by have:=hb.1.1;rw[aK]at this;omega
 refine ce [0,1,4,5,6,7]<|tl ?_;refine Ik 5 6 7 (h1:=λm x5 x6 Y Q=>∃i I gb,x6=B i/\i+m=en/\GB 275 2 x5 (I.map vi) gb/\J I<=2*i/\(∀z∈I,-1<=z/\z<=134217728)/\SH [] H Q gb) ?_ en ⟨0,[],[],rfl,bB en,GB.nil _ _,ax _,nofun,h_ hw⟩;rintro m x5 x6 Y E H1 ⟨i,I,gb,rfl,aE,V,a1,W,G⟩
 have ac:∀{Y E},iG Pg X (sub mH [1,1,1]) (pQ (u ea en ec) (u a n c) (u T 0 0) x5 (B i) Y E H1) (jZ Pg [.tmp 4]<|Q1 (λw _=>∃a n c,w=u a n c) H):=by
  intro Y E;refine tl ?_;obtain⟨ga,gn,gc,rfl⟩:=V.sl;refine rr ?_;exact⟨⟨_,_,_,O⟩,G.ext⟩
 refine tp ?_;refine aW (λc1=>?_) λ_=>ac;refine aW (λc2=>?_) λ_=>ac;have M:∀{j},j<en->∃x:Nat,x<=134217728/\(gq xs)[j]?=Z (B x):=λ{j} hj=>⟨xs[j],an _<|bH _,jX _<|av N⟩
 have ab:∀(az:Out->Prop)(z:Int),-1<=z/\z<=134217728->(∀{ad:D}{P:C Int}{iN:C eB}{Q:R}{Y:D}{E:Rs},GB 275 2 ad (P.map vi) iN->J P<=2*(i+1)->(∀z∈P,-1<=z/\z<=134217728)->SH [] H Q iN->iG Pg X (sub mH [1,1,0,1,0,0,1,1]) (pQ (u ea en ec) (u a n c) (u T 0 0) ad (B i) Y E Q) az)->∀E,iG Pg X (sub mH [1,1,0,1,0,0,1,0,0,1,1]) (pQ (u ea en ec) (u a n c) (u T 0 0) x5 (B i) (vi z) E H1) (uB 1<|uW Pg X (sub mH [1,1,0,1,0,0,1,1]) az):=by
  intro az z ao kk E;obtain⟨b,ag⟩:∃b,bs[i]?=Z b:=⟨_,av N⟩;have⟨x,hxb,hxi⟩:=M (j:=i) N;refine tl<|(hb.ex G.ext).ix N (jX _ ag) λp=>?_;refine bM ?_
  have app:∀{E},Co E 53=aR aA->iG Pg X (sub mH [1,1,0,1,0,0,1,0,0,1,1,1,1]) (pQ (u ea en ec) (u a n c) (u T 0 0) x5 (B i) (vi z) E H1) (uB 1<|uW Pg X (sub mH [1,1,0,1,0,0,1,1]) az):=by
   intro E am;refine tl ?_;rw[am];refine bM ?_;refine(hf.ex G.ext).ix N hxi λp=>PU.b2 O<|V.push (G.cast (bF gb).symm) N O O O O O N (by rw[aK];omega) λw v' H4 iN al G=>?_;refine bM ?_;refine kk (P:=I++[(x:Int),z]) (by rw[show(I++[(x:Int),z]).map vi=I.map vi++[B x,vi z]from dM];exact al) K4 (λy hy=>?_)<|G.cast<|bF iN;rcases cK.1 hy with h|h
   .exact W y h
   .simp at h;omega
  refine iI (λ_=>?_) λ_=>?_
  .exact kk V N W G
  rcases id V with⟨rfl,h0,rfl⟩|⟨r,k,eY,rfl,hk,rfl⟩
  .refine bM ?_;exact ji O<|app O
  rw[aK]at hk;refine MO (λc3=>?_) λc3=>?_
  .exact ji O<|app O
  have U:(k-1)*2+1<J I:=N
  have hv:((I.map vi)++eY)[(k-1)*2+1]?=Z (vi I[(k-1)*2+1]):=by
   rw[bX (by rw[aK];exact U),bK,av U];rfl
  have UN:=W _<|bH U;rw[qO N N];refine bM ?_;rw[show((k:Int)-1)=((k-1:Nat):Int) by omega];refine dA (uQ N) ?_;rw[bB];refine bM ?_;refine G.Ov 0 O hv ?_;simp only[iT G.wf];rw[gB N N];refine bM ?_;have⟨r2,o2,e2,_,hcl,_⟩:=(hf.ex G.ext).1.idx (c:=ec) N (show i<en by omega);refine dA e2<|iY (H:=hN H1) (o:=o2) (hcl 0 _ N (by rw[dN,d_];exact hxi)) ?_;refine bM ?_;simp only[iT G.wf];refine splitK (λK hK=>?_) ?_
  .simp only[fu];apply Gf (au:=λ_=>False) fT fT hK<;>repeat' apply iZ
   all_goals first|exact trivial|(intro h;cases h;done)|exactλ_ _ h=>h.elim
  by_cases hq:I[(k-1)*2+1]+1=(x:Int)
  .rw[b_ hq];refine tp ?_;rw[qO N N];refine bM ?_;rw[show((k:Int)-1)=((k-1:Nat):Int) by omega];refine dA (uQ N) ?_;rw[bB];refine bM ?_;refine G.st 0 O O (by rw[aS,aK];omega) rfl λH2 G=>?_;have G:SH [] H H2 [(r,275,(I.set ((k-1)*2+1) z).map vi++eY)]:=G.to<|PI U z;refine kk (P:=I.set ((k-1)*2+1) z) (.inr ⟨r,k,eY,O,by rw[aK,bR];exact hk,O⟩) (by rw[bR];omega) (λy hy=>?_) G;rcases iX hy with h|h
   .exact W y h
   .rw[h];exact ao
  .rw[dR hq];exact app O
 refine tl ?_;refine dA (lu 1 O N)<|bM ?_;refine aW (λc3=>?_) λc3=>?_
 .refine dA (lu 1 O N) ?_;have⟨x,hxb,hxi⟩:=M (j:=i+1) N;refine(hf.ex G.ext).ix N hxi λp=>?_;refine q_ ?_;refine ab _ _ N (λV hl W G=>?_) _;refine tl ?_;refine dA (lu 1 O N) ?_;exact⟨m-1,N,_,_,_,_,_,O,i+1,_,_,O,N,V,hl,W,G⟩
 .refine ab _ _ N (λV hl W G=>?_) _;refine tl ?_;refine dA (lu 1 O N) ?_;exact⟨m-1,N,_,_,_,_,_,O,i+1,_,_,O,N,V,hl,W,G⟩
section
def _root_.Go.Ae.jJ.by{ay:Nat->Prop}(h:jJ ay ty H a n es f)(j:∀r,r<H.bU->ay r->F' r):jJ F' ty H a n es f:=⟨h.1,λr o e y=>let⟨I,W,h3⟩:=h.2 r o e y;⟨j r W I,W,h3⟩⟩
def Za(ay:Nat->Prop)(H:R)(l:C D)(i:Nat):Prop:=∃(z:Int)(a:aC Addr)(o:C Nat)(c:Nat)(t:aZ)(y:aC Addr)(B sc:Nat)(at':Int),l=[vi z,u a (J o) c,aJ t,u y B sc,vi at']/\jJ ay 3 H a (J o) 1 (gq o)/\(∀j∈o,j<i)/\(z=4->o≠[])/\J o<=20003
def Za.st{ay:Nat->Prop}{S:C Nat}(h:Za ay H l i)(M:pI S H Q)(G:∀q∈S,¬ay q):Za ay Q l i:=let⟨z,a,ks,c,t,sa,sn,sc,at',I,W,h3⟩:=h;⟨z,a,ks,c,t,sa,sn,sc,at',I,W.stay M λq j=>.inl<|G q j,h3⟩
def Za.by{ay:Nat->Prop}(h:Za ay H l i)(j:∀r,r<H.bU->ay r->F' r):Za F' H l i:=let⟨z,a,ks,c,t,sa,sn,sc,at',I,W,h3⟩:=h;⟨z,a,ks,c,t,sa,sn,sc,at',I,W.by j,h3⟩
def RuY(l:C D)(m:Nat):Prop:=∃(t:aZ)(ai cs w:Bool)(ch at':Int)(r:Nat),l=[aJ t,aR ai,aR cs,aR w,vi ch,B r,vi at']/\r<m
def YG(n:Nat)(ay:Nat->Prop)(H:R)(g:D)(p m rl:Nat)(e:Int):Prop:=∃(o:aC Addr)(N:Nat)(rcs:C D)(j:aC Addr)(M:Nat)(jA:C D)(y:aC Addr)(I:Nat)(at':Int),g=dP ⟨[u o rl N,u j m M,u y n I,B p,vi e,vi at']⟩/\
 jJ ay 194 H o rl 7 rcs/\(e=0->∀i,i<rl->RuY (El rcs 7 i) m)/\rl<=120/\jJ ay 200 H j m 5 jA/\(∀i,i<m->Za ay H (El jA 5 i) i)/\m<=4000/\BO ay H (u y n I) n/\p<=20002/\(e=0->p<n)
variable{ay:Nat->Prop}
def BO.st{S:C Nat}(h:BO ay H v n)(M:pI S H Q)(G:∀q∈S,¬ay q):BO ay Q v n:=let⟨a,c,f,I,W,h3,h4⟩:=h;⟨a,c,f,I,W.stay M λq j=>.inl<|G q j,h3,λi o=>(h4 i o).st M λq j=>.inl<|G q j⟩
def vW.by(h:vW ay H v)(j:∀r,r<H.bU->ay r->F' r):vW F' H v:=let⟨a,n,c,zs,I,W,h3⟩:=h;⟨a,n,c,zs,I,W.by j,h3⟩
def BO.by(h:BO ay H v n)(j:∀r,r<H.bU->ay r->F' r):BO F' H v n:=let⟨a,c,f,I,W,h3,h4⟩:=h;⟨a,c,f,I,W.by j,h3,λi o=>let⟨k,a,e,t',x,g1,g2,g3,g4⟩:=h4 i o;⟨k,a,e,t',x,g1,g2,g3.by j,g4⟩⟩
def YG.st{S:C Nat}(h:YG n ay H g p m rl e)(M:pI S H Q)(G:∀q∈S,¬ay q):YG n ay Q g p m rl e:=by
 have⟨ra,rc,rcs,na,nc,jA,ta,tc,at',I,W,h3,h4,h5,h6,h7,h8,h9⟩:=h;exact⟨ra,rc,rcs,na,nc,jA,ta,tc,at',I,W.stay M λq j=>.inl<|G q j,h3,h4,h5.stay M λq j=>.inl<|G q j,λi o=>(h6 i o).st M G,h7,h8.st M G,h9⟩
def YG.ex(h:YG n ay H g p m rl e)(M:Ext H Q):YG n ay Q g p m rl e:=h.st M nofun
def YG.by(h:YG n ay H g p m rl e)(j:∀r,r<H.bU->ay r->F' r):YG n F' H g p m rl e:=by
 have⟨ra,rc,rcs,na,nc,jA,ta,tc,at',I,W,h3,h4,h5,h6,h7,h8,h9⟩:=h;exact⟨ra,rc,rcs,na,nc,jA,ta,tc,at',I,W.by j,h3,h4,h5.by j,λi o=>(h6 i o).by j,h7,h8.by j,h9⟩
def YG.bd(h:YG n ay H g p m rl e):p<=20002/\(e=0->p<n)/\n<=20001/\m<=4000/\rl<=120:=by
 have⟨ra,rc,rcs,na,nc,jA,ta,tc,at',I,W,h3,h4,h5,h6,h7,⟨_,_,_,_,_,h8,_⟩,h9⟩:=h;exact⟨h9.1,h9.2,h8,h7,h4⟩
def YG.to(h:YG n ay H g p m rl e)(o:q<=20002/\(e=0->q<n))(j:g=dP ⟨l⟩):YG n ay H (dP ⟨l.set 3<|B q⟩) q m rl e:=by
 have⟨ra,rc,rcs,na,nc,jA,ta,tc,at',I,W,h3,h4,h5,h6,h7,h8,h9⟩:=h;rw[j]at I;cases I;exact⟨ra,rc,rcs,na,nc,jA,ta,tc,at',O,W,h3,h4,h5,h6,h7,h8,o⟩
abbrev Nw(ay:Nat->Prop)(b:Nat):Nat->Prop:=λr=>ay r\/b<=r
def CJ(U:Wf H)(T:YG n ay H g p m rl e)(y:p<n):bQ Pg X 71 [g] H (Q1 (λv _=>∃k:Int,v=vi k/\0<=k/\k<=15/\(p+1=n->k=0)) H):=by
 obtain⟨ra,rc,rcs,na,nc,jA,ta,V,at',rfl,W,Y,h4,h5,h6,h7,⟨a,c,f,B,M,P,j⟩,h9⟩:=T;cases B;have G:=h_ U;refine lq [0,1,2] ?_;refine G.box O λH1 rb G=>?_;refine fJ ?_;have⟨r,o,e1,hr,hcl,_⟩:=M.1.idx (c:=V) N y;have⟨k,_,e,t,x,hk,_,_,k1,k2,k3⟩:=j p y;refine dA e1 ?_;refine bM ?_
 have I:f[p*5+0]?=Z (vi k):=by
  have:=fq (λl=>l[0]?) hk;simp only[oL]at this;simpa using this
 refine G.CO (hcl 0 _ N I) hr<|rr ?_;exact⟨⟨k,O,k1,k2,k3⟩,G.ext⟩
abbrev Ot(ay:Nat->Prop)(b:Nat)(L:C eB):Nat->Prop:=λr=>Nw ay b r/\r∉L.map (·.1)
theorem YG.own(o:YG n ay H0 g p m rl e)(G:SH [] H0 H L):YG n (Ot ay H0.bU L) H g p m rl e:=
 (o.by (F':=Ot ay H0.bU L) λr I W=>⟨.inl W,λy=>by
  obtain⟨e,j,rfl⟩:=bP.1 y;exact fI (G.yV j) I⟩).ex G.ext
theorem Za.own(o:Za ay H0 l i)(G:SH [] H0 H L):Za (Ot ay H0.bU L) H l i:=
 (o.by (F':=Ot ay H0.bU L) λr I W=>⟨.inl W,λy=>by
  obtain⟨e,j,rfl⟩:=bP.1 y;exact fI (G.yV j) I⟩).st G.ext nofun
theorem YG.turn{H2:R}{L2:C eB}(y:YG n (Ot ay b L) H g p m rl e)(j:SH (L.map (·.1)) H H2 L2):YG n (Ot ay b L2) H2 g p m rl e:=
 ((y.by (F':=λr=>Ot ay b L r/\r∉L2.map (·.1)) λr I W=>⟨W,λB=>by
   obtain⟨e,o,rfl⟩:=bP.1 B;rcases(j.lo e o).1 with h|h
   .exact W.2 h
   .omega⟩).st j.ext λq M h=>h.1.2 M).by λr _ h=>⟨h.1.1,h.2⟩
theorem akl(hw:Wf H)(hg:YG n ay H g p m rl 0)(hc:c≠0):bQ Pg X 105 [g,vi c] H (Q1 (λv Q=>∃e:Int,e≠0/\YG n ay Q v p m rl e) H):=by
 have hb:=hg.bd;obtain⟨ra,rc,rcs,na,nc,jA,Y,I,at',rfl,W,h3,h4,h5,h6,h7,⟨a,cc,f,e,h8,ab,V⟩,h9⟩:=id hg;cases e;have G:=h_ hw;refine lq [0,1,2,4] ?_;refine G.box O λH1 rb G=>?_;refine G.jP λH2 rz G=>?_;refine fJ ?_;refine aW (λ_=>?_) λc=>absurd trivial c;have⟨r,o,e1,hr,hcl,o0,e0,_⟩:=(h8.ex G.ext).1.idx (c:=I) N<|hb.2.1 O;have⟨k,at2,e,t,x,hk,_,_,k1,k2,k3⟩:=V p<|hb.2.1 O;have ad:r<H.bU:=h8.2 r o0 e0 (by have:=hb.2.1 O;omega)|>.2.1;have hn:rb≠r:=λe=>fI (G.yV<|aV (i:=1) O)<|e▸ad
 have ac:f[p*5+1]?=Z (vi at2):=by
  have:=fq (λl=>l[1]?) hk;simp only[oL]at this;simpa using this
 refine fJ ?_;refine dA e1<|bM ?_;refine iY (H:=hN H2) (hcl 1 _ N ac) ?_;refine G.lJ ?_;refine G.n_ λHn G=>?_;refine G.n_ λHn G=>?_;refine splitK (λK hK=>?_) ?_
 .simp only[fu,gT];apply mO (a:=rb) (b:=r) hn yB fT fT hK
 have hT:BO ay H (u Y n I) n:=⟨_,_,f,O,h8,ab,V⟩
 have P:∀{y:R}{e:Int},e≠0->Ext H y->YG n ay y (dP ⟨[u ra rl rc,u na m nc,u Y n I,B p,vi e,vi at2]⟩) p m rl e:=λ{y e} U M=>
  ⟨ra,rc,rcs,na,nc,jA,Y,I,at2,rfl,W.ex M,λh=>absurd h U,h4,h5.ex M,λi hi=>(h6 i hi).st M<|nofun,h7,hT.st M<|nofun,h9.1,λh=>absurd h U⟩
 have j:∀{y:R}{e:Int},e≠0->SH [] H y [(rz,32,[u T 0 0,u T 0 0,u T 0 0,vi 0,vi 0,vi 0]),(rb,32,[u ra rl rc,u na m nc,u Y n I,B p,vi e,vi at2])]->∀{E:D->Rs},ME (wR (Z 6) (pr rb) y) λv Q=>ME (Es 6 (pr rz) v Q) λ_ Q=>jZ Pg [.cell 4 32] (Q1 (λv Q=>∃e:Int,e≠0/\YG n ay Q v p m rl e) H) (.ret<|yA (dP ⟨[u ra rl rc,u na m nc,u Y n I,B p,vi 0,vi at']⟩) (vi c) (pr rb) (pr rz) (E v) Q):=by
  intro y e U G E;refine G.jC<|G.kE λHn G=>?_;refine rr ?_;refine G.uL 0 O (ax 6) ?_;exact⟨⟨e,U,P U G.ext⟩,G.ext⟩
 refine aW (λ_=>?_) λ_=>j hc G;refine G.jC<|dD (CJ G.wf (P hc G.ext)<|hb.2.1 O) ?_;rintro v y ⟨⟨k,rfl,_⟩,M⟩;have G:=G.call M;refine bM ?_;refine aW (λ_=>?_) λ_=>j hc G;exact G.kE λHn G=>j jq G
end
section
variable{ay:Nat->Prop}
def YT(n:Nat)(az ay:Nat->Prop)(m rl:Nat)(v:D)(Q:R):Prop:=∃(o:D)(k y j:Nat)(e:Int),v=fO ⟨[o,B k]⟩/\YG n ay Q o y j rl e/\m<=j/\(e=0->k<j/\az y)
abbrev YR(n:Nat)(az ay:Nat->Prop)(H:R)(m rl:Nat):D->R->Prop:=Q1 (YT n az (Nw ay H.bU) m rl) H
def YG.call{az:Nat->Prop}{Kp:D->R->Prop}(T:YG n (Ot ay b L) H g p m rl e)(G:SH [] H0 H L)(N:b<=H.bU)(O:∀F',(∀r,r<H.bU->Ot ay b L r->F' r)->YG n F' H g p m rl e->bQ Pg X ae (g::ar) H (YR n az F' H m rl))(kk:∀j H2 k o m' e',YG n (Ot ay b L) H2 j o m' rl e'->m<=m'->(e'=0->k<m'/\az o)->SH [] H0 H2 L->Ext H H2->Kp (fO ⟨[j,B k]⟩) H2):bQ Pg X ae (g::ar) H Kp:=by
 refine dD (O (λr=>Ot ay b L r/\r<H.bU) (λr I W=>⟨W,I⟩)<|T.by λr I W=>⟨W,I⟩) ?_;rintro v H2 ⟨⟨j,k,o,m',e',rfl,y,I,W⟩,M⟩;refine kk j H2 k o m' e' (y.by λr _ h=>?_) I W (G.call M) M;rcases h with h|h
 .exact h.1
 .refine⟨.inr<|aQ N h,λU=>?_⟩;obtain⟨e,P,rfl⟩:=bP.1 U;exact fI h (G.lo e P).2
def YG.anl{az:Nat->Prop}{Kp:D->R->Prop}(P:YG n (Ot ay b L) H g p m rl e)(G:SH [] H0 H L)(N:b<=H.bU)(O:∀F',(∀r,r<H.bU->Ot ay b L r->F' r)->YG n F' (hN H) g p m rl e->bQ Pg X ae (g::ar) (hN H) (YR n az F' (hN H) m rl))(kk:∀j H2 k o m' e',YG n (Ot ay b L) (hM H H2) j o m' rl e'->m<=m'->(e'=0->k<m'/\az o)->SH [] H0 (hM H H2) L->Df H H2=cl 1->Kp (fO ⟨[j,B k]⟩) H2):bQ Pg X ae (g::ar) (hN H) Kp:=
 YG.call (H:=hN H) (H0:=hN H0) (show YG n (Ot ay b L) (hN H) g p m rl e from P) G.zD N O λj H2 k o m' e' I W y _ M=>kk j H2 k o m' e' I W y (G.oI M)<|gJ M
def YT.up{az:Nat->Prop}(h:YT n az ay m rl v H)(I:∀q,az q->R' q)(W:m0<=m)(o:∀r,r<H.bU->ay r->F' r):YT n R' F' m0 rl v H:=let⟨g',k,p',m',e,h3,h4,h5,h6⟩:=h;⟨g',k,p',m',e,h3,h4.by o,N,λj=>⟨(h6 j).1,I _ (h6 j).2⟩⟩
def YG.ret{az:Nat->Prop}{Kp:D->D->D->D->R->Prop}(y:YG n (Ot ay H0.bU L) H g p m rl e)(G:SH [] H0 H L)(hi:L[i]?=Z (rz,32,f))(hl:J f=6)(I:∀q,az q->R' q)(W:m0<=m)(hc:∀F',(∀r,r<H.bU->Ot ay H0.bU L r->F' r)->YG n F' H g p m rl e->bQ Pg X ae (g::ar) H (YR n az F' H m rl))(kk:∀v M c ai H3,YR n R' ay H0 m0 rl (fO ⟨[M,c]⟩) H3->(∀{H':D->R->Prop},H' M H3->ME (wR (Z 6) (bG<|Z ⟨rz,0,T⟩) H3) H')->Kp v M c ai H3):bQ Pg X ae (g::ar) H λv H1=>PU (wN v 0) λa=>PU (wN v 1) λc=>ME (Es 6 (bG<|Z ⟨rz,0,T⟩) a H1) λai H2=>Kp v a c ai H2:=by
 refine y.call G G.ext.bU hc λM H2 k p' Y P y h3 U G _=>?_;obtain⟨ra,rc,rcs,na,nc,jA,ta,tc,at',rfl,_⟩:=id y;refine bM ?_;have j:=G.base;refine j.st i hi O N O λH3 j=>?_;rw[oz _ _ (by exact hl)]at j;have y:=y.st j.ext λq hq h=>h.2 hq;refine kk _ _ _ _ _ ⟨⟨_,k,p',Y,P,O,y.by λr _ h=>h.1,N,λV=>⟨(U V).1,I _ (U V).2⟩⟩,(G.over j).ext⟩ λ{H'} hQ=>?_;exact j.uL i (o:=0) (n:=6) (f:=bY<|dP ⟨[u ra rl rc,u na Y nc,u ta n tc,B p',vi P,vi at']⟩) (by rw[dU,if_pos O,if_pos (bI.1 hi).1]) (ax 6) hQ
def YG.aeY(y:YG n (Ot ay H0.bU L) H g p m rl 0)(G:SH [] H0 H L)(hi:L[i]?=Z (rz,32,f))(hl:J f=6)(W:m0<=m)(Y:c≠0)(kk:∀I ai H3,(∀{az},YR n az ay H0 m0 rl (fO ⟨[I,vi 0]⟩) H3)->(∀{H':D->R->Prop},H' I H3->ME (wR (Z 6) (bG<|Z ⟨rz,0,T⟩) H3) H')->Kp I ai H3):bQ Pg X 105 [g,vi c] H λv H1=>ME (Es 6 (bG<|Z ⟨rz,0,T⟩) v H1) λai H2=>Kp v ai H2:=by
 refine G.cm (akl G.wf y Y) ?_;rintro v H2 ⟨U,P,y⟩ M G;obtain⟨ra,rc,rcs,na,nc,jA,ta,tc,at',rfl,_⟩:=id y;have j:=G.base;refine j.st i hi O N O λH3 j=>?_;rw[oz _ _ (by exact hl)]at j;have y:=y.st j.ext λq hq h=>h.2 hq;refine kk _ _ _ ⟨⟨_,0,p,m,U,O,y.by λr _ h=>h.1,W,λhe=>absurd he P⟩,(G.over j).ext⟩ λ{H'} V=>?_;exact j.uL i (o:=0) (n:=6) (f:=bY<|dP ⟨[u ra rl rc,u na m nc,u ta n tc,B p,vi U,vi at']⟩) (by rw[dU,if_pos O,if_pos (bI.1 hi).1]) (ax 6) V
theorem aeZ(hw:Wf H)(hg:YG n ay H g p m rl 0)(hl:Za ay H l m):bQ Pg X 138 [g,dP ⟨l⟩] H (YR n (·=p) ay H m rl):=by
 have ag:=hg.bd;obtain⟨ra,rc,rcs,na,nc,jA,ta,tc,pg,rfl,W,h3,h4,o,h6,h7,h8,h9⟩:=id hg;obtain⟨z,ka,ks,kc,t,sa,sn,sc,at',rfl,k2,k3⟩:=id hl;have G:=h_ hw;refine lq [0,1,2,3,4,5] ?_;refine G.box O λH1 rb G=>?_;refine G.box O λH2 rx G=>?_;refine G.jP λH3 rz G=>?_;refine yz (λc=>?_) λ_=>?_
 .refine G.jC<|YG.aeY (i:=0) (hg.own G) G O O (ax _) jq λg' ai I hY hr=>?_;refine rr ?_;exact hr hY
 refine G.akh λI a G U=>?_;refine fJ ?_;refine G.aki (n:=m) (xs:=jA) (uf (show Fl (hN<|hM H3 I) na m 5 jA from((o.ex G.ext).1:Fl (hM H3 I) na m 5 jA)) N) o.1.1 N λv2 H5 g2 ac G V=>?_;have G:=G.perm<|aI (l₂:=[_,_,_]);simp only[bV,bZ]at G;refine fJ ?_;refine G.Tq O O O N λH6 ry G Y=>?_;have G:=G.perm (L':=(ry,200,[vi z,u ka (J ks) kc,aJ t,u sa sn sc,vi at'])::(g2++[(rz,32,[u T 0 0,u T 0 0,u T 0 0,vi 0,vi 0,vi 0]),(rx,200,[vi z,u ka (J ks) kc,aJ t,u sa sn sc,vi at']),(rb,32,[u ra rl rc,u na m nc,u ta n tc,B p,vi 0,vi pg])]))<|(aI (l₁:=[_,_,_]) (l₂:=g2)).cons _;refine ac.aeV G N O O (by rw[o.1.1];omega) λv3 H7 g3 j G ab=>?_;have G:=G.perm<|aI (l₂:=[_,_,_]);simp only[bV,bZ]at G;obtain⟨va,vl,vc,rfl⟩:=j.sl
 have ad:vl=m+1:=by
  have⟨_,_,_,e,h,_⟩:=j.KF (ay:=TT) (G.perm<|aI (l₁:=[_,_,_])) λ_ _=>trivial;cases e;rw[aS,o.1.1]at h;simp at h;omega
 subst ad;have n1:=G.nq 1 2 O O N;have n2:=G.nq 0 2 O O N;refine G.n_ λHn G=>?_;refine splitK (λK P=>?_) ?_
 .simp only[U,V,Y,fu,gT];rcases ab with e|e<;>rw[e]<;>apply mO (a:=rx) (b:=rb) n1 yB fT fT P
 refine fJ ?_;rw[qO N N];refine bM ?_;rw[show((m+1:Nat):Int)-1=((m:Nat):Int) by omega];refine G.n_ λHn G=>?_;refine splitK (λK P=>?_) ?_
 .simp only[fu,gT];apply mO (a:=rz) (b:=rb) n2 yB fT fT P
 have G:=G.to (cs':=[u ra rl rc,u va (m+1) vc,u ta n tc,B p,vi 0,vi pg]) O;have M:=G.ext;have⟨_,_,_,e,_,hf⟩:=j.KF (ay:=Nw ay H.bU) (G.perm<|aI (l₁:=[_,_,_])) λe he=>.inr<|G.yV<|dL [_,_,_] he;cases e;have hE:=Dt (es:=5) (n:=m) o.1.1 (xs:=[vi z,u ka (J ks) kc,aJ t,u sa sn sc,vi at']) O;have y:∀{Q:R} r,r<Q.bU->ay r->Nw ay H.bU r:=λr _ h=>.inl h;refine rr ?_;refine G.uL 0 O (ax 6)<|⟨⟨_,m,p,m+1,0,O,⟨ra,rc,rcs,va,vc,_,ta,tc,pg,O,(W.ex M).by y,λhe i hi=>?_,h4,hf,λi hi=>?_,N,(h8.st M nofun).by y,h9⟩,N,λ_=>⟨N,rfl⟩⟩,M⟩
 .have⟨t,ai,cs,w,ch,at',r,f1,f2⟩:=h3 he i hi;exact⟨t,ai,cs,w,ch,at',r,f1,N⟩
 rcases dH i m with h|h
 .rw[show El (jA++_) 5 i=_ from hE.1 i h];exact((h6 i h).st M nofun).by y
 .obtain rfl:i=m:=N;rw[show El (jA++_) 5 i=_ from hE.2];exact(hl.st M nofun).by y
def aaK(hw:Wf H)(j:YG n ay H g p m rl 0)(hl:Za ay H l m)(hp:p+1<n):bQ Pg X 166 [g,dP ⟨l⟩] H (YR n (·=p+1) ay H m rl):=by
 obtain⟨z,ka,ks,kc,t,sa,sn,sc,at',rfl,_⟩:=id hl;obtain⟨ra,rc,rcs,na,nc,jA,ta,tc,pg,rfl,_⟩:=id j;have G:=h_ hw;refine lq [0,1,2,3,4,5,6] ?_;refine G.box O λH1 rb G=>?_;refine G.box O λH2 rx G=>?_;refine G.jP λH3 rz G=>?_;refine fJ ?_;refine(j.own G).call G G.ext.bU (λF' V B=>aeZ G.wf B<|(hl.own G).by V) λg' H4 k M U P j T Y G _=>?_;obtain⟨ra,rc,rcs,na,nc,jA,ta,tc,pg,rfl,_⟩:=id j;have W:=j.bd;have o:=G;have G:=G.base;refine G.lJ ?_;refine G.kE λy G=>?_;refine yz (λc=>?_) λc=>?_
 .obtain⟨I,rfl⟩:=Y c;apply G.qF;refine dA (lu 1 O N)<|G.kE λy G=>tl ?_;apply G.jC;refine G.kE λy G=>?_;have j:=(j.turn G).to (q:=M+1) ⟨N,λ_=>hp⟩ O;have G:=o.over G;refine rr ?_;exact G.uL 0 O (ax 6)<|⟨⟨_,k,M+1,U,P,O,j.by λr _ h=>h.1,T,λ_=>⟨I,rfl⟩⟩,G.ext⟩
 .refine tl ?_;apply G.jC;refine G.kE λy G=>?_;have j:=j.turn G;have G:=o.over G;refine rr ?_;exact G.uL 0 O (ax 6)<|⟨⟨_,k,M,U,P,O,j.by λr _ h=>h.1,T,λh=>absurd h c⟩,G.ext⟩
end
section
variable{ay:Nat->Prop}
def Yop(ae:FuncId)(n d s:Nat):Prop:=∀{ay:Nat->Prop}{H:R}{g:D}{p m rl:Nat},Wf H->YG n ay H g p m rl 0->bQ Pg X ae [g,B d] H (YR n (p+s<=·) ay H m rl)
def IU{j sc:Nat}{at':Int}(h:c≠4):Za ay H [vi c,u T 0 0,aJ t,u a j sc,vi at'] m:=⟨c,T,[],0,t,a,j,sc,at',O,jJ.nil _ _ _ _ _,nofun,λe=>absurd e h,bD _⟩
abbrev La(rt rz rb:Nat)(tl gl:C D)(gb:C eB):C eB:=(rt,186,tl)::(rz,32,[u T 0 0,u T 0 0,u T 0 0,vi 0,vi 0,vi 0])::(rb,32,gl)::gb
abbrev lg(ra:aC Addr)(rl rc:Nat)(j:aC Addr)(m nc:Nat)(o:aC Addr)(n y p:Nat)(e at':Int):C D:=[u ra rl rc,u j m nc,u o n y,B p,vi e,vi at']
theorem yno{rt:Nat}{ra U M:aC Addr}{rc nc I:Nat}{xs:C Nat}{Y at' V:Int}{ve sv j_ je xC:D}(j:YG n (Ot ay H.bU<|La rt rz rb [vi Y,vi at',ve,aJ t,sv] (lg ra rl rc U hx nc M n I (p+1) 0 V) []) H1 (dP ⟨lg ra rl rc U hx nc M n I (p+1) 0 V⟩) (p+1) hx rl 0)(G:SH [] H H1<|La rt rz rb [vi Y,vi at',ve,aJ t,sv] (lg ra rl rc U hx nc M n I (p+1) 0 V) [])(an:p+1<n)(a9:p+2<n)(hf:jJ (λ_=>True) 3 H1 ea en 1<|gq xs)(a4:en<=3000000)(ba:J xs=en)(bb:∀x∈xs,x<=134217728):
 iG Pg X (.loop<|sub iL [1,1,0,1,0,1,1,1,1,1,1,1,1,1,0,1,1,1,1,0,1,0,0]) (mI x0 (B d) (pr rb) (pr rz) (vi 0) (pr rt) (u ea en ec) (u T 0 0) (vi 0) j_ je xC E H1) (uB 1<|uW Pg X (sub iL [1,1,0,1,0,1,1,1,1,1,1,1,1,1,0,1,1,1,1,1])<|uB 0<|uW Pg X (sub iL [1,1,1])<|jZ Pg [.cell 4 32,.tmp 5]<|YR n (p+1<=·) ay H hx rl):=by
 refine lp2 8 9 (h1:=λm x8 x9 Q=>∃i bs gb,x9=B i/\GB 4 1 x8 (bools bs) gb/\J bs=i/\i+m=en/\SH [] H Q (La rt rz rb [vi Y,vi at',ve,aJ t,sv] (lg ra rl rc U hx nc M n I (p+1) 0 V) gb)/\YG n (Ot ay H.bU<|La rt rz rb [vi Y,vi at',ve,aJ t,sv] (lg ra rl rc U hx nc M n I (p+1) 0 V) gb) Q (dP ⟨lg ra rl rc U hx nc M n I (p+1) 0 V⟩) (p+1) hx rl 0/\jJ (λ_=>True) 3 Q ea en 1 (gq xs)) ?_ en ⟨0,[],[],rfl,GB.nil _ _,rfl,bB en,G,j,hf⟩;clear j G hf;rintro m x8 x9 E P ⟨i,bs,gb,rfl,ac,bg,bi,G,j,hf⟩;have bf:=j.bd;refine lX (λhc=>?_) λhc=>?_
 .refine tl ?_;obtain⟨ga,gn,gc,rfl,a7,a6⟩:=ac.KF (ay:=λ_=>True) (G.perm<|aI (l₁:=[_,_,_])) λ_ _=>trivial;obtain rfl:gn=J bs:=by rw[aK]at a7;omega
  have G:SH [] H P (La rt rz rb [vi Y,vi at',ve,aJ t,sv] (lg ra rl rc U hx nc M n I (p+1) 0 V) []):=G.sub<|fC [_,_,_] gb;have j:=j.by (F':=Ot ay H.bU<|La rt rz rb [vi Y,vi at',ve,aJ t,sv] (lg ra rl rc U hx nc M n I (p+1) 0 V) []) λr _ h=>⟨h.1,λhm=>h.2 (by simp only[i_,bW,kM,fF,jo]at hm|-;rcases hm with h|h|h<;>simp[h])⟩
  have n1:=G.nq 0 2 O O N;have n2:=G.nq 0 1 O O N;have n3:=G.nq 1 2 O O N;refine fJ ?_;refine dD (akk (oU P) (show jJ (λ_=>True) 3 (hN P) ea en 1 (gq xs)from hf) a4 ba bb (show jJ (λ_=>True) 4 (hN P) ga (J bs) 1 (bools bs)from a6)) ?_;rintro v H3 ⟨⟨ca,cn,cc,rfl⟩,ag⟩;have j:=j.ex (Q:=hM P H3) ag.draw;have G:=G.oI ag;refine fJ ?_;refine j.anl G G.ext.bU (λF' hF a5=>aaK (oU _) a5 (IU jq) a9) λg' H5 k p' m' e' j hm hk G a3=>?_;obtain⟨_,_,_,_,_,_,_,_,_,rfl,_⟩:=id j;have a0:=G;have G:=G.base;refine G.lJ ?_;refine G.n_ λHn G=>(show∀K:Prop,K->_/\K fromλKz hK=>?_) _ ?_
  .simp only[fu,gT,gJ ag,a3];apply zP (a:=rt) (b:=rz) (c:=rb) n2 n1 n3 yB fT fT hK
  have j:=j.turn G;have G:=a0.over G;refine rr ?_;exact G.uL 1 O (ax 6)<|⟨⟨_,k,p',m',e',O,j.by λr _ h=>h.1,hm,λh=>⟨(hk h).1,by have:=(hk h).2;omega⟩⟩,G.ext⟩
 have⟨_,_,_,_,_,_,_,_,_,e,_,_,_,_,_,_,⟨_,_,cs5,e5,hf5,_,ae0⟩,_⟩:=id j;cases e;cases e5;have⟨r,o,ei,hr,hcl,o0,e6,ho⟩:=hf5.1.idx (c:=I) N an;have⟨_,UU,e5',t5,x5,hk5,_,Zb,_⟩:=ae0 (p+1) an
 have am:cs5[(p+1)*5+4]?=Z x5:=by
  have:=fq (λl=>l[4]?) hk5;simp only[oL]at this;simpa using this
 have⟨r2,o2,e2,hr2,xF,o3,e7,ho2⟩:=hf.1.idx (c:=ec) N (show i<en by omega);have ap:(gq xs)[i]?=Z (B xs[i]):=jX _<|av N;have al:=G;have G:=G.base;refine fJ ?_;refine dA ei<|bM ?_;refine iY (H:=hN P) (hcl 4 _ N am) ?_;simp only[iT G.wf];refine dA e2<|iY (H:=hN P) (xF 0 _ N (by rw[dN,d_];exact ap)) ?_;simp only[iT G.wf];refine dD (ao2 (ay:=Ot ay H.bU<|La rt rz rb [vi Y,vi at',ve,aJ t,sv] (lg ra rl rc U hx nc M n I (p+1) 0 V) gb) (H:=hN P) Zb) ?_;rintro v H3 ⟨⟨bh,rfl⟩,rfl⟩;simp only[iT G.wf,PP];refine G.Tq O O O N λH4 ry G a1=>?_;have ab:=G;refine ac.Jp (G.perm<|(aI (l₁:=[_,_,_])).cons _) N O O (by rw[aK];omega) λv' H5 iN ad G bj SI a2=>?_;have G:=G.perm<|aI (l₂:=[_,_,_]);simp only[bV,bZ]at G;have ao:=al.AO (ty:=3) (by simp[ac.all])
 have a8:r∉((La rt rz rb [vi Y,vi at',ve,aJ t,sv] (lg ra rl rc U hx nc M n I (p+1) 0 V) gb:C eB).map (·.1)):=by
  have:=hf5.2 r o0 e6 N;exact this.1.2
 have aE:r2∉((La rt rz rb [vi Y,vi at',ve,aJ t,sv] (lg ra rl rc U hx nc M n I (p+1) 0 V) gb:C eB).map (·.1)):=λh=>ao r2 h (hf.2 r2 o3 e7 N).2.2
 have rd:∀{r o v},r<P.bU->r∉((La rt rz rb [vi Y,vi at',ve,aJ t,sv] (lg ra rl rc U hx nc M n I (p+1) 0 V) gb:C eB).map (·.1))->P.cell r o=Z v->qA v v=F->∀w:Cl,w=⟨2,0,0,0,hM P H4,H5⟩->oQ w ⟨4,r,o,1,hh0,hh0⟩=F:=λ{r o v} hr hn hc hs w hw=>by
  subst hw;have e1:=ab.ext.obj r hr hn;have e2:=SI r (aO hr ab.ext.bU) λh=>hn (by simp only[i_,bW];exact .inr<|.inr<|.inr h);exact Cr ((xI e1 o 1).trans<|acE hc) ((xI (e2.trans e1) o 1).trans<|acE hc) (Ar λy W=>by rw[aT]at W;subst W;exact hs)
 have r1:=rd hr2 aE (xF 0 _ N (by rw[dN,d_];exact ap))<|yZ _ _;have⟨xa,xn,xc,zs,ex5,_,_,_,hsp⟩:=id Zb;have bc:=rd hr a8 (hcl 4 _ N am) (by rw[ex5];exact qQ _ _ _ hsp)
 have aq:∀{o v},(o=2/\v=u M n I\/o=3/\v=B (p+1))->∀w:Cl,w=⟨2,0,0,0,hM P H4,H5⟩->oQ w ⟨4,rb,o,1,hh0,hh0⟩=F:=λ{o v} ho w hw=>by
  subst hw;have b2:Bk H5 rb 32 _:=(G.get 2 O).iE O;refine sF (ab.get 3 O) b2 (by show o+1<=6;omega) λy W=>?_;rcases ho with⟨rfl,rfl⟩|⟨rfl,rfl⟩
  .have W:y∈[u M n I]:=W;rw[aT]at W;subst W;exact qQ _ _ _ λz hz=>by rw[e6]at hz;cases hz;rfl
  .have W:y∈[B (p+1)]:=W;rw[aT]at W;subst W;exact yZ _ _
 refine(show∀K:Prop,K->_/\K fromλKz hK=>?_) _ ?_
 .simp only[a1,fu,gJ<|Ext.refl<|hN _];rcases a2 with e|e<;>rw[e]<;>apply Gf (au:=λw=>w=⟨2,0,0,0,hM P H4,H5⟩) fT fT hK<;>repeat' apply iZ
  all_goals first|exact trivial|(intro h;cases h;done)|exactλ_=>rfl|exactλ_=>r1|exactλ_=>bc|exactλ_=>aq (.inl ⟨rfl,rfl⟩)|exactλ_=>aq<|.inr ⟨rfl,rfl⟩
 have hf:=hf.stay G.ext λq hq=>.inr<|ao q hq;have j:=j.turn G;have G:=al.over G;exact dA (lu 1 O N)<|⟨m-1,N,_,_,_,_,O,i+1,bs++[!bh],iN,O,by rw[show bools (bs++[!bh])=bools bs++[aR !bh]from dM];exact ad,by simp;omega,N,G,j,hf⟩
end
section
variable{ay:Nat->Prop}
theorem anm(hd:d<=40)(ih:d<40->Yop 106 n (d+1) 0):Yop 165 n d 1:=by
 intro ay H g p m rl hw hg;have a8:=hg.bd;have a3:=a8.2.1 O;obtain⟨ra,rc,rcs,na,nc,jA,ta,tc,pg,rfl,_⟩:=id hg;have G:=h_ hw;refine ce [0,1,2,4,5,6,7,8,9,10,11,19]<|iG.yD λK hK=>?_;refine tl ?_;refine G.box O λH1 rb G=>?_;refine G.jP λH2 rz G=>?_;refine fJ ?_;have⟨_,_,_,_,_,_,_,_,_,e,_,_,_,_,_,_,⟨_,_,f,e2,hf,hn,hrow⟩,_⟩:=hg.ex G.ext;cases e;cases e2;have⟨k,at',e',t,x,hk,_,hset,k1,k2,k3⟩:=hrow p a3;obtain⟨sa,sn,sc,zs,rfl,_⟩:=id hset;refine hf.Yb N a3 hk λq=>G.oV O O O λH3 rt G bh=>?_;have G:SH [] H H3 (La rt rz rb [vi k,vi at',vi e',aJ t,u sa sn sc] (lg ra rl rc na m nc ta n tc p 0 pg) []):=G;have hb:=G.ext.bU;have j:=hg.own G;refine fJ ?_
 have T:k≠0->p+1<n:=λh=>by
  have:p+1≠n:=λe=>h<|k3 e;omega
 have go:∀{b:Bool}{E},Co E 20=aR b->(b=F->k=1\/k=2)->iG Pg X (sub iL [1,1,0,1,0,1]) (mI (dP ⟨lg ra rl rc na m nc ta n tc p 0 pg⟩) (B d) (pr rb) (pr rz) (vi 0) (pr rt) top top top top top (vi k) E H3) (uB 0<|uW Pg X (sub iL [1,1,1]) K):=by
  intro b E ac hb;refine tl ?_;rw[ac,hK];cases b;rotate_left
  .refine fJ ?_;refine YG.ret j G (i:=1) O O (az:=(·=p+1)) (R':=(p+1<=·)) (λq h=>N) (ax _) (λF' hF y=>aaK G.wf y (IU jq)<|T (by have:=hb O;omega)) λv g' c ai V hY P=>?_;refine rr ?_;exact P hY
  refine tO (λc=>?_) λ_=>?_
  .refine fJ ?_;refine YG.ret j G (i:=1) O O (az:=(·=p+1)) (R':=(p+1<=·)) (λq h=>N) (ax _) (λF' hF y=>aaK G.wf y (IU jq)<|T N) λv g' c ai V hY P=>rr ?_;exact P hY
  refine aW (λc=>?_) λ_=>?_
  .refine fJ ?_;refine YG.ret j G (i:=1) O O (az:=(·=p+1)) (R':=(p+1<=·)) (λq h=>N) (ax _) (λF' hF y=>aaK G.wf y (IU jq)<|T N) λv g' c ai V hY P=>rr ?_;exact P hY
  refine aW (λc=>?_) λ_=>?_
  .refine fJ ?_;refine(h_ G.wf).bS O O O N λV ry xM=>?_;have j:=j.ex xM.ext;have G:=G.call xM.ext;refine fJ ?_;refine YG.ret j G (i:=1) O O (az:=(·=p+1)) (R':=(p+1<=·)) (λq h=>N) (ax _) (λF' hF y=>aaK G.wf y (IU jq)<|T N) λv g' c ai V hY P=>rr ?_;exact P hY
  refine aW (λc=>?_) λ_=>?_
  .have hp:=T N;have I:=G;have G:=G.base;apply G.qF;refine dA (lu 1 O N)<|G.kE λHn G=>?_;apply G.jC;have j:=(j.turn G).to (q:=p+1) ⟨N,λ_=>hp⟩ O;have G:=I.over G;refine dD (CJ G.wf j hp) ?_;rintro v H5 ⟨⟨k5,rfl,_,_,k6⟩,M⟩;have j:=j.ex M;have G:=G.call M;refine yx (λc=>?_) λc=>?_
   .refine G.jC<|YG.aeY (i:=1) j G O O (ax _) jq λg' ai V hY P=>?_;refine rr ?_;exact P hY
   refine fJ ?_;have⟨_,_,_,_,_,_,_,_,_,e,_,_,_,_,_,_,⟨_,_,cs5,e5,hf5,_,ae0⟩,_⟩:=id j;cases e;cases e5;have⟨r,o,ei,P,hcl,_⟩:=hf5.1.idx (c:=tc) N hp;have⟨_,UU,e5',t5,x5,hk5,_,Zb,_⟩:=ae0 (p+1) hp
   have a9:cs5[(p+1)*5+4]?=Z x5:=by
    have:=fq (λl=>l[4]?) hk5;simp only[oL]at this;simpa using this
   refine dA ei<|bM ?_;refine iY (hcl 4 _ N a9)<|dD (akj G.wf Zb) ?_;rintro v H6 ⟨ab,M⟩;have j:=j.ex M;have G:=G.call M;obtain⟨ea,en,ec,xs,rfl,bb,ba,bc,bf⟩:=ab.fl
   exact yno j G hp (by
    have:p+1+1≠n:=λe=>by rw[k6 e]at c;exact absurd c jq
    omega) bb ba bc bf
  have a0:∀{c:Int}{x9 j_ je:D}{E:D->D->Rs},c≠0->ME (wR (Z 6) (pr rb) H3) λv Q=>bQ Pg X 105 [v,vi c] Q λa4 Q=>ME (Es 6 (pr rz) a4 Q) λ_ Q=>jZ Pg [.cell 4 32,.tmp 5] (YR n (p+1<=·) ay H m rl) (.ret<|mI (dP ⟨lg ra rl rc na m nc ta n tc p 0 pg⟩) (B d) (pr rb) (pr rz) (vi 0) (pr rt) top top x9 j_ je (vi k) (E a4 v) Q):=by
   intro c x9 j_ je E hc;refine G.jC<|YG.aeY (i:=1) j G O O (ax _) hc λg' ai V hY P=>?_;refine rr ?_;exact P hY
  refine nN (λ_=>?_) λc=>?_
  .refine tl ?_;exact a0 jq
  refine aW (λ_=>a0 jq) λbg=>?_;have hp:=T N;have I:=G;have G:=G.base;apply G.qF;refine dA (lu 1 O N)<|G.kE λHn G=>?_;apply G.jC;refine dA (lu 1 O N) ?_;have j:=(j.turn G).to (q:=p+1) ⟨N,λ_=>hp⟩ O;have G:=I.over G;refine j.call G G.ext.bU (λF' hF y=>ih N G.wf y) λg' V k4 U m4 W j ad a2 G bi=>?_;obtain⟨ao,ap,_,al,am,_,aq,aE,Y,rfl,_⟩:=id j;have a7:=j.bd;refine bM ?_;have I:=G;have G:=G.base;refine G.agt λH5 an G bj=>?_
  have a1:∀{b:Bool}{H6:R}{E:Rs},Co E 140=aR b->(b=F->W=0)->(b=aA->W=0->U+1<n)->SH [] H H6 ((an,32,lg ao rl ap al m4 am aq n aE U W Y)::La rt rz rb [vi k,vi at',vi e',aJ t,u sa sn sc] (lg ra rl rc na m nc ta n tc (p+1) 0 pg) [])->YG n (Ot ay H.bU<|(an,32,lg ao rl ap al m4 am aq n aE U W Y)::La rt rz rb [vi k,vi at',vi e',aJ t,u sa sn sc] (lg ra rl rc na m nc ta n tc (p+1) 0 pg) []) H6 (dP ⟨lg ao rl ap al m4 am aq n aE U W Y⟩) U m4 rl W->iG Pg X (sub iL [1,1,0,1,0,1,1,1,1,1,1,1,1,1,1,1,0,1,1,1,0,1]) (mI (dP ⟨lg ra rl rc na m nc ta n tc p 0 pg⟩) (B d) (pr rb) (pr rz) (vi 0) (pr rt) top top top (pr an) (B k4) (vi k) E H6) (uW Pg X (sub iL [1,1,0,1,0,1,1,1,1,1,1,1,1,1,1,1,0,1,1,1,1])<|uB 0<|uW Pg X (sub iL [1,1,1])<|jZ Pg [.cell 4 32,.tmp 5]<|YR n (p+1<=·) ay H m rl):=by
   intro b H6 E ac a5 a6 G j;refine tl ?_;rw[ac];cases b;rotate_left
   .obtain rfl:=a5 O;refine fJ ?_;refine YG.aeY (i:=2) j G O O ad jq λg' ai V hY P=>?_;refine rr ?_;exact P hY
   refine bM ?_;refine tl ?_;have I:=G;have G:=G.base;refine yz (λc4=>?_) λc4=>?_
   .have ag:=a6 O c4;apply G.qF;refine dA (lu 1 O N)<|G.kE λHn G=>?_;refine tm ?_;refine G.kE λHn G=>?_;have j:=(j.turn G).to (q:=U+1) ⟨N,λ_=>ag⟩ O;have G:=I.over G;refine rr ?_;exact G.uL 2 O (ax 6)<|⟨⟨_,k4,U+1,m4,W,O,j.by λr _ h=>h.1,ad,λh=>⟨(a2 h).1,by have:=(a2 h).2;omega⟩⟩,G.ext⟩
   .refine tm ?_;refine G.kE λHn G=>?_;have j:=j.turn G;have G:=I.over G;refine rr ?_;exact G.uL 2 O (ax 6)<|⟨⟨_,k4,U,m4,W,O,j.by λr _ h=>h.1,ad,λh=>absurd h c4⟩,G.ext⟩
  refine G.lJ ?_;refine G.kE λHn G=>?_;refine fJ ?_;have j:=j.turn G;have G:=I.over G;refine aW (λc4=>?_) λc4=>a1 O (nofun) (λ_ h=>absurd h c4) G j;subst c4;have ag:=a7.2.1 O;refine fJ ?_;refine dD (CJ G.wf j ag) ?_;rintro v H6 ⟨⟨k6,rfl,_,_,k7⟩,M⟩;have j:=j.ex M;have G:=G.call M;refine bM ?_
  exact a1 O (λ_=>rfl) (λh _=>by
   have h:k6=9:=nZ h;have:U+1≠n:=λe=>by have:=k7 e;omega
   omega) G j
 exact aW (λc=>go (by rw[b_ c];rfl) λ_=>.inl c) λc=>go (by rfl) λh=>.inr<|gG h
end
section
variable{ay:Nat->Prop}
abbrev Lz(rz rb:Nat)(gl:C D)(gb:C eB):C eB:=(rz,32,[u T 0 0,u T 0 0,u T 0 0,vi 0,vi 0,vi 0])::(rb,32,gl)::gb
def aiG{ks:C D}(o:GB 3 1 v ks gb)(G:SH [] H H1<|Lz rz rb gl gb):∃a m c,v=u a m c/\J ks=m/\jJ (Ot ay H.bU<|Lz rz rb gl []) 3 H1 a m 1 ks:=by
 have B:=G.perm<|aI (l₁:=[_,_])
 have⟨a,m,c,e,hn,hf⟩:=o.KF (ay:=Ot ay H.bU<|Lz rz rb gl []) B λe j=>⟨.inr<|B.yV<|dK _ j,λy=>by
  rcases o with⟨_,_,rfl⟩|⟨r,n,I,_,_,rfl⟩
  .cases j
  .rw[aT]at j;subst j;simp only[i_,kM,bW,fF,jo]at y;rcases y with h|h
   .exact absurd h (G.nq 0 2 O O jq).symm
   .exact absurd h (G.nq 1 2 O O jq).symm⟩
 exact⟨a,m,c,e,N,hf⟩
def YG.less(o:YG n (Ot ay H.bU<|Lz rz rb gl gb) H1 g p m rl e):YG n (Ot ay H.bU<|Lz rz rb gl []) H1 g p m rl e:=
 o.by λr _ h=>⟨h.1,λj=>h.2 (by simp only[i_,bW,kM,fF,jo]at j|-;rcases j with h|h<;>simp[h])⟩
theorem ao4(ih:Yop 165 n d 1):Yop 137 n d 0:=by
 intro ay H g p m rl hw o;have a3:=o.bd;have bi:=a3.2.1 O;obtain⟨ad,ag,_,ab,ac,_,al,am,pg,rfl,_⟩:=id o;have G:=h_ hw;refine lq [0,1,2,4,5,6,7,8,9] ?_;refine G.box O λH1 rb G=>?_;refine G.jP λH2 rz G=>?_;refine PO 6 7 8 9 (h1:=λz x6 x7 P x9 Q=>∃q ae e ks gb gl,GB 3 1 x6 (gq ks) gb/\J ks<=20002/\m<=ae/\(e=0->n<=q+z/\p<=q/\J ks<=q-p/\∀k∈ks,k<ae)/\SH [] H Q (Lz rz rb gl gb)/\YG n (Ot ay H.bU<|Lz rz rb gl gb) Q (dP ⟨gl⟩) q ae rl e) ?_ (n-p) ⟨p,m,0,[],[],_,GB.nil _ _,bD _,ax _,λ_=>⟨N,ax _,bD _,nofun⟩,G,o.own G⟩;clear o G;rintro z x6 x7 P x9 E H3 ⟨q,ae,e,ks,gb,gl,aq,bh,aE,he,G,o⟩;have a8:=o.bd;have⟨ra,rc,rcs,na,nc,jA,ta,tc,Re,e1,_⟩:=id o;cases e1;refine iG.yD λK hK=>?_
 have a0:∀{H4:R}{x7 P x9:D}{E:Rs},SH [] H H4 (Lz rz rb (lg ra rl rc na ae nc ta n tc q e Re) gb)->YG n (Ot ay H.bU<|Lz rz rb (lg ra rl rc na ae nc ta n tc q e Re) gb) H4 (dP ⟨lg ra rl rc na ae nc ta n tc q e Re⟩) q ae rl e->iG Pg X (sub lK [1,1,1]) (k_ (dP ⟨lg ad rl ag ab m ac al n am p 0 pg⟩) (B d) (pr rb) (pr rz) (vi 0) x6 x7 P x9 E H4) (jZ Pg [.cell 4 32,.tmp 5]<|YR n (p+0<=·) ay H m rl):=by
  intro H4 x7 P x9 E G o;obtain⟨a,j,c,rfl,hj,hf⟩:=aiG aq G;rw[aK]at hj;subst hj;have o:=o.less;have G:SH [] H H4 (Lz rz rb _ []):=G.sub<|fC [_,_] gb;refine al4 (λc=>?_) λc=>?_
  .have y:=G;have G:=G.base;refine G.jC<|G.kE λHn G=>?_;have o:=o.turn G;have G:=y.over G;refine rr ?_;exact G.uL 0 O (ax 6)<|⟨⟨_,0,q,ae,e,O,o.by λr _ h=>h.1,aE,λh=>absurd h c⟩,G.ext⟩
  subst c;refine fJ ?_;refine YG.ret o G (i:=0) O O (az:=(·=q)) (R':=(p+0<=·)) (λq' h=>by have:=(he O).2.1;omega) aE (λF' hF Y=>aeZ G.wf Y ⟨1,a,ks,_,_,T,0,0,0,rfl,hf.by hF,(he O).2.2.2,λh=>absurd h jq,N⟩) λv g' c ai H5 hY hr=>?_;refine rr ?_;exact hr hY
 refine agk (λc=>?_) λc=>?_
 .rw[hK];exact a0 G o
 subst c;have a9:=a8.2.1 O;refine G.jC<|dD (CJ G.wf o a9) ?_;rintro v H4 ⟨⟨k,rfl,k0,k1,k2⟩,M⟩;have o:=o.ex M;have G:=G.call M;refine bM ?_
 have U:k≠0->∀{P x9:D}{E:Rs},iG Pg X (sub lK [1,1,0,0,0,1,0,1,1]) (k_ (dP ⟨lg ad rl ag ab m ac al n am p 0 pg⟩) (B d) (pr rb) (pr rz) (vi 0) x6 (vi k) P x9 E H4) (uB 1 K):=by
  intro hk P x9 E;refine tm ?_;refine o.call G G.ext.bU (λF' hF Y=>ih G.wf Y) λg' H5 k5 V W e5 o bg an G _=>?_;have a1:=o.bd;obtain⟨ra,rc,rcs,na,nc,jA,ta,tc,UU,rfl,_⟩:=id o;refine bM ?_;have y:=G;have G:=G.base;refine G.agt λH6 r8 G bj=>G.kE λHn G=>?_;apply G.jC;refine G.kE λHn G=>?_;refine fJ ?_;have o:=o.turn G;have G:=y.over G;have G:SH [] H Hn (Lz rz rb (lg ra rl rc na W nc ta n tc V e5 UU) gb):=fU (A:=[_]) G;have o:YG n (Ot ay H.bU<|Lz rz rb (lg ra rl rc na W nc ta n tc V e5 UU) gb) Hn _ V W rl e5:=o.by λr _ h=>⟨h.1,λhm=>h.2<|bL _ hm⟩
  have app:∀{H6:R}{gl:C D}{q1 N1 c:Nat}{e1:Int}{P:D}{E:Rs},W<=N1->(e1=0->q<q1/\c<N1)->SH [] H H6 (Lz rz rb gl gb)->YG n (Ot ay H.bU<|Lz rz rb gl gb) H6 (dP ⟨gl⟩) q1 N1 rl e1->iG Pg X (sub lK [1,1,0,0,0,1,0,1,1,1,1,1]) (k_ (dP ⟨lg ad rl ag ab m ac al n am p 0 pg⟩) (B d) (pr rb) (pr rz) (vi 0) x6 (vi k) P (B c) E H6) (uB 1 K):=by
   intro H6 gl q1 N1 c e1 P E bf I G o;have⟨f1,f2,f3,f4⟩:=he O;have hb:=o.bd;have y:=G;have G:=G.base;refine tl<|aq.push (G.perm<|aI (l₁:=[_,_])) N O O O O O N (by rw[aK];omega) λw v' H7 iN ao G=>?_;have G:=G.perm<|aI (l₂:=[_,_]);refine bM ?_;rw[hK];refine⟨z-1,N,_,_,_,_,_,_,O,q1,N1,e1,ks++[c],iN,_,by rw[show gq (ks++[c])=gq ks++[B c]from dM];exact ao,?_,N,λh=>?_,y.over G,o.turn G⟩
   .rw[aS];show J ks+1<=_;omega
   have⟨g1,g2⟩:=I h;refine⟨N,N,by rw[aS];show J ks+1<=_;omega,λj hj=>?_⟩;rcases cK.1 hj with h|h
   .have:=f4 j h;omega
   .rw[aT.1 h];exact g2
  have no:∀{H6:R}{P:D}{E:Rs},Co E 52=aR aA->SH [] H H6 (Lz rz rb (lg ra rl rc na W nc ta n tc V e5 UU) gb)->YG n (Ot ay H.bU<|Lz rz rb (lg ra rl rc na W nc ta n tc V e5 UU) gb) H6 (dP ⟨lg ra rl rc na W nc ta n tc V e5 UU⟩) V W rl e5->iG Pg X (sub lK [1,1,0,0,0,1,0,1,1,1,1,0,1]) (k_ (dP ⟨lg ad rl ag ab m ac al n am p 0 pg⟩) (B d) (pr rb) (pr rz) (vi 0) x6 (vi k) P (B k5) E H6) (uW Pg X (sub lK [1,1,0,0,0,1,0,1,1,1,1,1])<|uB 1 K):=by
   intro H6 P E a6 G o;refine tl ?_;rw[a6];refine bM ?_;exact app (ax _) (λh=>⟨(an h).2,(an h).1⟩) G o
  refine aW (λc5=>?_) λ_=>no O G o;subst c5;have ap:=a1.2.1 O;refine G.jC<|dD (CJ G.wf o ap) ?_;rintro v H7 ⟨⟨k6,rfl,_,_,k7⟩,M⟩;have o:=o.ex M;have G:=G.call M;refine bM ?_;refine aW (λc1=>?_) λ_=>no O G o;refine G.jC<|dD (CJ G.wf o ap) ?_;rintro v H8 ⟨⟨k8,rfl,_⟩,M⟩;have o:=o.ex M;have G:=G.call M;refine bM ?_
  by_cases c2:k8<=12
  rotate_left
  .exact no (by rw[dR c2];rfl) G o
  rw[b_ c2]
  have a7:V+1<n:=by
   have:V+1≠n:=λe=>by have:=k7 e;omega
   omega
  refine tm ?_;refine dD (CJ (oU H8) (show YG n _ (hN H8) _ V W rl 0 from o) ap) ?_;rintro v H9 ⟨⟨k9,rfl,bl,bm,_⟩,Kt⟩;have o:=o.ex (Q:=hM H8 H9) Kt.draw;have G:=G.oI Kt;rw[qO N N];refine bM ?_;have y:=G;have G:=G.base;refine G.Tq O O O N λCF ry G a4=>?_;have o:=o.turn G;have o:YG n (Ot ay H.bU<|Lz rz rb (lg ra rl rc na W nc ta n tc V 0 UU) gb) _ _ V W rl 0:=o.by λr _ h=>⟨h.1,λhm=>h.2<|bL _ hm⟩
  have y:=y.over G
  have ba:Ot ay H.bU (Lz rz rb (lg ra rl rc na W nc ta n tc V 0 UU) gb) ry:=⟨.inr<|y.yV<|aL ..,λhm=>by
   have⟨e,he,e2⟩:=bP.1 hm;exact SH.apart (A:=[(ry,3,bY<|B k5)]) y (aT.2 O) he e2.symm⟩
  have hk:=(y.get 0 O).UO (n:=1) (es:=1) (y.lo _<|aL ..).2 O ba;have G:=fU (A:=[_]) y;refine o.anl G G.ext.bU (λF' hF Y=>aaK (oU _) Y ⟨k9-8,Z ⟨ry,0,T⟩,[k5],1,⟨#[]⟩,T,0,0,0,rfl,(show jJ _ 3 (hN<|hM (hM H8 H9) CF) _ 1 1 (gq [k5])from hk).by hF,λj hj=>by rw[aT.1 hj];exact(an O).1,nofun,(show 1<=20003 by decide)⟩ a7) λg' Ry bn bo bb bc o a2 VD G a5=>?_;obtain⟨_,_,_,_,_,_,_,_,_,rfl,_⟩:=id o;have y:=G;have G:=G.base;refine G.lJ ?_;refine G.n_ λHn G=>(show∀K:Prop,K->_/\K fromλKz hK=>?_) _ ?_
  .simp only[fu,gT,gJ Kt,a4,a5];apply Gc (a:=rb) yB fT fT hK
  exact app a2 (λh=>⟨by have:=(VD h).2;have:=(an O).2;omega,(VD h).1⟩) (y.over G)<|o.turn G
 have exit:∀{P x9 E},K (.exit 0<|k_ (dP ⟨lg ad rl ag ab m ac al n am p 0 pg⟩) (B d) (pr rb) (pr rz) (vi 0) x6 (vi k) P x9 E H4):=by
  intro P x9 E;rw[hK];exact a0 G o
 refine aW (λc1=>exit) λc1=>?_;refine aW (λc2=>?_) λc2=>U N;refine fP (λc3=>?_) λc3=>U N;refine fP (λc4=>?_) λc4=>U N;exact fP (λc5=>exit) λc5=>U N
end
section
variable{ay:Nat->Prop}
theorem ae1(ih:Yop 137 n d 0):Yop 106 n d 0:=by
 intro ay H g p m rl hw y;have a2:=y.bd;have bb:=a2.2.1 O;obtain⟨ap,aq,_,am,an,_,aE,a0,pg,rfl,_⟩:=id y;have G:=h_ hw;refine lq [0,1,2,4,5,6,7,8] ?_;refine G.box O λH1 rb G=>?_;refine G.jP λH2 rz G=>?_
 have ao:∀{H4:R}{q ae:Nat}{e:Int}{P:C Nat}{gb:C eB}{gl:C D}{x6 x7 x8:D}{E:Rs},GB 3 1 x6 (gq P) gb->0<J P/\J P<=20003->m<=ae->(e=0->p<=q/\∀k∈P,k<ae)->SH [] H H4 (Lz rz rb gl gb)->YG n (Ot ay H.bU<|Lz rz rb gl gb) H4 (dP ⟨gl⟩) q ae rl e->iG Pg X (sub oC [1,1,1]) (rC (dP ⟨lg ap rl aq am m an aE n a0 p 0 pg⟩) (B d) (pr rb) (pr rz) (vi 0) x6 x7 x8 E H4) (jZ Pg [.cell 4 32,.tmp 5]<|YR n (p+0<=·) ay H m rl):=by
  intro H4 q ae e P gb gl x6 x7 x8 E ac W ad he G y;obtain⟨a,j,c,rfl,hj,hf⟩:=aiG ac G;rw[aK]at hj;subst hj;have y:=y.less;have G:SH [] H H4 (Lz rz rb _ []):=G.sub<|fC [_,_] gb;have⟨ra,rc,_,na,nc,_,ta,tc,Re,e1,_⟩:=id y;cases e1
  have one:∀{b:Bool}{E:Rs},Co E 42=aR b->(b=aA->e=0)->iG Pg X (sub oC [1,1,1,0,1]) (rC (dP ⟨lg ap rl aq am m an aE n a0 p 0 pg⟩) (B d) (pr rb) (pr rz) (vi 0) (u a (J P) c) x7 x8 E H4) (uW Pg X (sub oC [1,1,1,1])<|jZ Pg [.cell 4 32,.tmp 5]<|YR n (p+0<=·) ay H m rl):=by
   intro b E a5 hb;refine tl ?_;rw[a5];cases b
   .have hb:=hb O;subst hb;refine bM ?_;refine tm ?_;refine YG.ret y G (i:=0) O O (az:=(·=q)) (R':=(p+0<=·)) (λq' h=>by have:=(he O).1;omega) ad (λF' hF ab=>aeZ G.wf ab ⟨0,a,P,c,_,T,0,0,0,rfl,hf.by hF,(he O).2,λh=>absurd h jq,W.2⟩) λv g' c ai H5 hY hr=>?_;refine rr ?_;exact hr hY
   have⟨r,o,e1,hr,hcl,o0,e6,ho⟩:=hf.1.idx (c:=c) N W.1;have hk:=W.1;have hF:=hf.2 r o0 e6 W.1;have n1:rz≠r:=λe=>hF.1.2<|e▸aL ..
   have n2:r≠rb:=λe=>hF.1.2<|e▸bL _ (aL ..);have n3:=G.nq 0 1 O O N;have V:=G;have G:=G.base;refine fJ ?_;refine dA e1<|iY (H:=hN H4) (hcl 0 _ N<|jX _<|av W.1) ?_;refine G.lJ ?_;refine G.n_ λHn G=>?_;refine(show∀K:Prop,K->_/\K fromλKz hK=>?_) _ ?_
   .simp only[fu,gT];apply zP (a:=rz) (b:=r) (c:=rb) n1 n3 n2 yB fT fT hK
   have y:=y.turn G;have G:=V.over G;refine rr ?_;refine G.uL 0 O (ax 6) ?_;exact⟨⟨_,P[0],q,ae,e,O,y.by λr _ h=>h.1,ad,λh=>⟨(he h).2 _<|bH _,(he h).1⟩⟩,G.ext⟩
  refine tm ?_;exact fP (λ_=>one O nofun) λh=>one O λ_=>h
 refine Ik 6 7 8 (h1:=λz x6 x7 x8 Q=>∃q ae P gb gl,GB 3 1 x6 (gq P) gb/\m<=ae/\n<=q+z/\p<=q/\J P<=q-p/\(∀k∈P,k<ae)/\SH [] H Q (Lz rz rb gl gb)/\YG n (Ot ay H.bU<|Lz rz rb gl gb) Q (dP ⟨gl⟩) q ae rl 0) ?_ (n-p) ⟨p,m,[],[],_,GB.nil _ _,ax _,N,ax _,bD _,nofun,G,y.own G⟩;clear y G;rintro z x6 x7 x8 E H3 ⟨q,ae,P,gb,gl,ac,ad,bh,bc,ba,a4,G,y⟩;have a8:=y.bd;have bg:=a8.2.1 O;have⟨ra,rc,rcs,na,nc,jA,ta,tc,Re,e1,_⟩:=id y;cases e1;refine tm ?_;refine aW (λ_=>?_) λc=>absurd trivial c;apply G.jC;refine y.call G G.ext.bU (λF' hF ab=>ih G.wf ab) λg' H5 k5 Y N5 e5 y a9 al G _=>?_;have a1:=y.bd;obtain⟨ra,rc,rcs,na,nc,jA,ta,tc,UU,rfl,_⟩:=id y;refine bM ?_;have V:=G;have G:=G.base;refine G.agt λH6 r8 G bi=>G.kE λHn G=>?_;apply G.jC;refine G.kE λHn G=>?_;have y:=y.turn G;have G:=V.over G;have G:SH [] H Hn (Lz rz rb (lg ra rl rc na N5 nc ta n tc Y e5 UU) gb):=fU (A:=[_]) G;have y:YG n (Ot ay H.bU<|Lz rz rb (lg ra rl rc na N5 nc ta n tc Y e5 UU) gb) Hn _ Y N5 rl e5:=y.by λr _ h=>⟨h.1,λhm=>h.2<|bL _ hm⟩
 have V:=G;have G:=G.base;refine ac.push (G.perm<|aI (l₁:=[_,_])) N O O O O O N (by rw[aK];omega) λw v' H7 iN U G=>?_;have G:=G.perm<|aI (l₂:=[_,_]);have U:GB 3 1 v' (gq<|P++[k5]) iN:=by rw[show gq (P++[k5])=gq P++[B k5]from dM];exact U
 have y:=y.turn G;have G:SH [] H H7 (Lz rz rb (lg ra rl rc na N5 nc ta n tc Y e5 UU) iN):=V.over G;have a3:J (P++[k5])=J P+1:=by rw[aS];rfl
 have ag:e5=0->∀k∈P++[k5],k<N5:=λh j hj=>by
  rcases cK.1 hj with I|I
  .have:=a4 j I;omega
  .rw[aT.1 I];exact(al h).1
 refine fJ ?_;refine fP (λc=>ao U N N (λh=>absurd h c) G y) λc5=>?_;subst c5;have bf:=(al O).2;have a6:=a1.2.1 O;refine G.jC<|dD (CJ G.wf y a6) ?_;rintro v H8 ⟨⟨k,rfl,_,_,k7⟩,M⟩;have y:=y.ex M;have G:=G.call M;refine bM ?_;refine fP (λ_=>ao U N N (λ_=>⟨N,ag O⟩) G y) λc6=>?_
 have a7:Y+1<n:=by
  have:Y+1≠n:=λe=>by have:=k7 e;omega
  omega
 refine tl ?_;have V:=G;have G:=G.base;refine fJ ?_;refine dA (lu 1 O N) ?_;refine G.kE λHn G=>?_;have y:=(y.turn G).to (q:=Y+1) ⟨N,λ_=>a7⟩ O;have G:=V.over G;exact⟨z-1,N,_,_,_,_,_,O,Y+1,N5,P++[k5],iN,_,U,N,N,N,N,ag O,G,y⟩
def ao6:∀z d,41<=d+z->d<=41->(d<=40->Yop 106 n d 0):=by
 intro z
 induction z with
 |zero=>intro d I W j;omega
 |succ z o=>exactλd I W j=>ae1<|ao4<|anm j λy=>o (d+1) N N N
end
section
variable{ay:Nat->Prop}{ai cs w:Bool}{at':Int}
abbrev Lr(rz r3 rb:Nat)(l gl:C D):C eB:=[(rz,32,[u T 0 0,u T 0 0,u T 0 0,vi 0,vi 0,vi 0]),(r3,194,l),(rb,32,gl)]
abbrev lr(t:aZ)(ai cs w:Bool)(ch:Int)(k:Nat)(at':Int):C D:=[aJ t,aR ai,aR cs,aR w,vi ch,B k,vi at']
def RT(n:Nat)(ay:Nat->Prop)(p:Nat)(v:D)(Q:R):Prop:=∃(B:aC Addr)(rl I:Nat)(o:aC Addr)(m y:Nat)(M:aC Addr)(N j:Nat)(e at':Int),v=dP ⟨lg B rl I o m y M n N j e at'⟩/\(e=0->p<j/\YG n ay Q v j m rl e)
abbrev RK(n:Nat)(ay:Nat->Prop)(H:R)(p:Nat):=jZ Pg [.cell 2 32]<|Q1 (RT n (Nw ay H.bU) p) H
theorem ann(G:SH [] H H1<|Lr rz r3 rb (lr t ai cs w ch k at') gl)(y:YG n (Ot ay H.bU<|Lr rz r3 rb (lr t ai cs w ch k at') gl) H1 (dP ⟨gl⟩) p m rl e)(hp:e=0->p0<=p/\p+1<n/\k<m)(hl:rl<120):iG Pg X (sub f_ [1,1,1,1,1,1,1,1,1,1,1,1,1,1]) (gF x0 (pr rb) (pr rz) (pr r3) x4 x5 x6 E H1) (RK n ay H p0):=by
 have ag:=y.bd;have⟨ra,rc,rcs,na,nc,jA,ta,tc,pg,e1,W,h3,h4,h5,h6,h7,h8,h9⟩:=id y;cases e1;refine tl ?_;have j:=G;have G:=G.base;refine fJ ?_;refine dA (lu 1 O N)<|G.kE λI G=>?_;have y:=y.turn G;have G:=j.over G;have⟨ra,rc,rcs,na,nc,jA,ta,tc,pg,e1,W,h3,h4,h5,h6,h7,h8,h9⟩:=id y;cases e1;have j:=G;have G:=G.base;refine G.akh λH4 a G U=>?_;refine fJ ?_;refine G.aki (n:=rl) (xs:=rcs) (uf (show Fl (hN<|hM I H4) ra rl 7 rcs from((W.stay G.ext λq B=>.inl λh=>h.2 B).1:Fl (hN<|hM I H4) ra rl 7 rcs)) N) W.1.1 N λv2 H5 g2 ac G V=>?_;have G:=G.perm<|aI (l₂:=[_,_,_]);simp only[bV,bZ]at G;refine fJ ?_;refine G.Tq O O O N λH6 ry G Y=>?_;have G:=G.perm (L':=(ry,194,lr t ai cs w ch k at')::(g2++Lr rz r3 rb (lr t ai cs w ch k at') (lg ra rl rc na m nc ta n tc (p+1) e pg)))<|(aI (l₁:=[_,_,_]) (l₂:=g2)).cons _;refine ac.aeV G N O O (by rw[W.1.1];omega) λv3 H7 g3 o G ab=>?_;have G:=G.perm<|aI (l₂:=[_,_,_]);simp only[bV,bZ]at G;obtain⟨va,vl,vc,rfl⟩:=o.sl
 have ad:vl=rl+1:=by
  have⟨_,_,_,e,h,_⟩:=o.KF (ay:=TT) (G.perm<|aI (l₁:=[_,_,_])) λ_ _=>trivial;cases e;rw[aS,W.1.1]at h;simp at h;omega
 subst ad;have n1:=G.nq 1 2 O O N;refine G.n_ λI G=>?_;refine splitK (λK hK=>?_) ?_
 .simp only[U,V,Y,fu,gT];rcases ab with e|e<;>rw[e]<;>apply mO (a:=r3) (b:=rb) n1 yB fT fT hK
 refine G.jC<|G.kE λI G=>?_;have M:=G.ext;have P:=j.over G;have⟨_,_,_,e1,_,hf⟩:=o.KF (ay:=Nw ay H.bU) (P.perm<|aI (l₁:=[_,_,_])) λe T=>.inr<|P.yV<|dL [_,_,_] T;cases e1;have hE:=Dt (es:=7) (n:=rl) W.1.1 (xs:=lr t ai cs w ch k at') O;have nw:∀{Q:R} r,r<Q.bU->Ot ay H.bU (Lr rz r3 rb (lr t ai cs w ch k at')<|lg ra rl rc na m nc ta n tc (p+1) e pg) r->Nw ay H.bU r:=λr _ h=>h.1;have no:∀q∈(Lr rz r3 rb (lr t ai cs w ch k at')<|lg ra rl rc na m nc ta n tc (p+1) e pg).map (·.1),¬Ot ay H.bU (Lr rz r3 rb (lr t ai cs w ch k at')<|lg ra rl rc na m nc ta n tc (p+1) e pg) q:=λq B h=>h.2 B;refine rr ?_;refine P.uL 0 O (ax 6)<|⟨⟨va,rl+1,vc,na,m,nc,ta,tc,p+1,e,pg,O,λT=>?_⟩,P.ext⟩;have⟨p1,p2,p3⟩:=hp T;refine⟨N,va,vc,_,na,nc,jA,ta,tc,pg,O,hf,λ_ i hi=>?_,N,(h5.stay M λq B=>.inl<|no q B).by nw,λi hi=>((h6 i hi).st M no).by nw,h7,(h8.st M no).by nw,N,λ_=>p2⟩;rcases dH i rl with h|h
 .rw[show El (rcs++_) 7 i=_ from hE.1 i h];exact h3 T i h
 .obtain rfl:i=rl:=N;rw[show El (rcs++_) 7 i=_ from hE.2];exact⟨t,ai,cs,w,ch,at',k,O,p3⟩
def RT.bad(N:YG n (Ot ay H0.bU L) H g p m rl 0)(G:SH [] H0 H L)(hi:L[i]?=Z (rz,32,f))(hl:J f=6)(B:c≠0)(kk:∀j ai H3,(∀{p0},Q1 (RT n (Nw ay H0.bU) p0) H0 j H3)->(∀{H':D->R->Prop},H' j H3->ME (wR (Z 6) (bG<|Z ⟨rz,0,T⟩) H3) H')->Kp j ai H3):bQ Pg X 105 [g,vi c] H λv H1=>ME (Es 6 (bG<|Z ⟨rz,0,T⟩) v H1) λai H2=>Kp v ai H2:=by
 refine YG.aeY N G hi hl (ax m) B λj ai H3 hY O=>kk j ai H3 ?_ O;obtain⟨⟨g2,k,Y,P,e,I,W,h3,y⟩,M⟩:=hY (az:=λ_=>False);cases I;obtain⟨ra,rc,rcs,U,V,jA,ta,tc,pg,o,_⟩:=id W;exact⟨⟨ra,rl,rc,U,P,V,ta,tc,Y,e,pg,o,λh=>(y h).2.elim⟩,M⟩
def ano(G:SH [] H H1<|Lr rz r3 rb (lr t ai cs w ch k at') gl)(j:YG n (Ot ay H.bU<|Lr rz r3 rb (lr t ai cs w ch k at') gl) H1 (dP ⟨gl⟩) p m rl e)(y:e=0->p0<=p/\k<m)(hl:rl<120):iG Pg X (sub f_ [1,1,1,1,1,1,1,1,1,1,1,1,1]) (gF x0 (pr rb) (pr rz) (pr r3) x4 x5 x6 E H1) (RK n ay H p0):=by
 have o:=j.bd;have⟨ra,rc,rcs,na,nc,jA,ta,tc,pg,e1,_⟩:=id j;cases e1;refine tm ?_;refine aW (λc=>?_) λc=>ann G j (λh=>absurd h c) hl;subst c;refine fJ ?_;refine dD (CJ G.wf j<|o.2.1 O) ?_;rintro v N ⟨⟨U,rfl,_,_,I⟩,M⟩;have j:=j.ex M;have G:=G.call M;refine yx (λ_=>?_) λc=>?_
 .refine G.jC<|RT.bad j G (i:=0) O O jq λT ai P hY B=>?_;refine rr ?_;exact B hY
 .exact ann G j (λh=>⟨(y h).1,by
   have:p+1≠n:=λe=>by have:=I e;omega
   have:=o.2.1 O;omega,(y h).2⟩) hl
theorem anp{b:Bool}(G:SH [] H H1<|Lr rz r3 rb (lr t ai cs w ch k at') gl)(o:YG n (Ot ay H.bU<|Lr rz r3 rb (lr t ai cs w ch k at') gl) H1 (dP ⟨gl⟩) p m rl e)(Y:e=0->p0<=p/\k<m)(hb:b=F->e=0/\p+1<n)(hl:rl<120)(hk:Co E 123=aR b):
 iG Pg X (sub f_ [1,1,1,1,1,1,1,1,1,1,1,1,0,1]) (gF x0 (pr rb) (pr rz) (pr r3) x4 x5 x6 E H1) (uW Pg X (sub f_ [1,1,1,1,1,1,1,1,1,1,1,1,1])<|RK n ay H p0):=by
 have ac:=o.bd;have⟨ra,rc,rcs,na,nc,jA,ta,tc,pg,e1,_⟩:=id o;cases e1;refine iG.yD λK B=>tl ?_;rw[hk];cases b
 .refine bM ?_;rw[B];refine bM ?_;exact ano G o Y hl
 obtain⟨rfl,I⟩:=hb O;have j:=G;have G:=G.base;refine fJ ?_;refine dA (lu 1 O N)<|G.kE λy G=>?_;refine fJ ?_;have o:=(o.turn G).to (q:=p+1) ⟨N,λ_=>I⟩ O;have G:=j.over G;have⟨_,_,_,_,_,_,_,_,_,e1,_,_,_,_,_,_,⟨_,_,f,e2,hf,hn,hrow⟩,_⟩:=id o;cases e1;cases e2;have⟨k5,UU,e5,t',x,hk5,_,hset,_,_,k6⟩:=hrow (p+1) I;obtain⟨sa,sn,sc,zs,rfl,_⟩:=id hset;refine hf.Yb N I hk5 λq=>?_;have j:=G;have G:=G.base;refine G.oV O O O λH3 V G ad=>?_;refine fJ ?_;have M:SH [] H H3 ((V,186,[vi k5,vi UU,vi e5,aJ t',u sa sn sc])::Lr rz r3 rb (lr t ai cs w ch k at') (lg ra rl rc na m nc ta n tc (p+1) 0 pg)):=j.over G;have P:=o.turn G
 have go:∀{E:Rs},(k5=1\/k5=2)->iG Pg X (sub f_ [1,1,1,1,1,1,1,1,1,1,1,1,0,1,0,1,1,1]) (gF x0 (pr rb) (pr rz) (pr r3) x4 (pr V) x6 E H3) K:=by
  intro E h5
  have ab:p+2<n:=by
   have:p+1+1≠n:=λe=>by have:=k6 e;omega
   omega
  refine al5 (λ_=>?_) λ_=>?_
  .have n1:=G.nq 2 3 O O N;refine fJ ?_;refine G.n_ λy G=>?_;refine G.n_ λy G=>?_;refine splitK (λK B=>?_) ?_
   .simp only[fu,gT];apply mO (a:=r3) (b:=rb) n1 yB fT fT B
   have G:=j.over G;refine G.jC<|G.kE λy G=>?_;rw[B];refine rr ?_;exact G.uL 1 O (ax 6)<|⟨⟨_,_,_,_,_,_,_,_,_,18,_,O,λh=>absurd h jq⟩,G.ext⟩
  have on:∀{W:R}{x6:D}{E:Rs}{w:Bool}{ch:Int},SH ((Lr rz r3 rb (lr t ai cs w ch k at')<|lg ra rl rc na m nc ta n tc (p+1) 0 pg).map (·.1)) y W ((V,186,[vi k5,vi UU,vi e5,aJ t',u sa sn sc])::Lr rz r3 rb (lr t ai cs w ch k at') (lg ra rl rc na m nc ta n tc (p+1) 0 pg))->iG Pg X (sub f_ [1,1,1,1,1,1,1,1,1,1,1,1,0,1,0,1,1,1,1,1]) (gF x0 (pr rb) (pr rz) (pr r3) x4 (pr V) x6 E W) K:=by
   intro W x6 E w ch G;refine tm ?_;refine dA (lu 1 O N)<|G.kE λy G=>?_;have o:=(o.turn G).to (q:=p+2) ⟨N,λ_=>ab⟩ O;have G:SH [] H y (Lr rz r3 rb (lr t ai cs w ch k at')<|lg ra rl rc na m nc ta n tc (p+1+1) 0 pg):=fU (A:=[_])<|j.over G;rw[B];exact ano G (o.by λr _ h=>⟨h.1,λhm=>h.2<|bL _ hm⟩) (λh=>⟨by have:=(Y h).1;omega,(Y h).2⟩) hl
  refine yz (λT=>?_) λT=>?_
  .exact G.kE λy G=>on (w:=w) (ch:=2) G
  refine aW (λU=>?_) λU=>?_
  .exact G.kE λy G=>on (w:=w) (ch:=1) G
  refine aW (λc3=>?_) λc3=>?_
  .exact G.kE λy G=>on (w:=F) (ch:=ch) G
  have G:=M;refine G.jC<|RT.bad P G (i:=1) O O jq λg' ai H5 hY hr=>?_;rw[B];refine rr ?_;exact hr hY
 refine fP (λT=>?_) λT=>go<|.inl T;refine fJ ?_;refine fP (λU=>?_) λU=>go<|.inr U;have G:=M;refine G.jC<|RT.bad P G (i:=1) O O jq λg' ai H5 hY hr=>?_;rw[B];refine rr ?_;exact hr hY
end
section
variable{ay:Nat->Prop}{ai cs w:Bool}{at':Int}
theorem ao7(G:SH [] H H1<|Lr rz r3 rb (lr t ai cs w ch 0 at') gl)(j:YG n (Ot ay H.bU<|Lr rz r3 rb (lr t ai cs w ch 0 at') gl) H1 (dP ⟨gl⟩) p m rl 0)(W:p0<=p/\p+1<n)(hl:rl<120):
 iG Pg X (sub f_ [1,1,1,1,1,1,1,1]) (gF x0 (pr rb) (pr rz) (pr r3) x4 x5 x6 E H1) (RK n ay H p0):=by
 have ac:=j.bd;have⟨ra,rc,rcs,Y,nc,jA,ta,tc,pg,e1,_⟩:=id j;cases e1;refine tl ?_;have o:=G;have G:=G.base;refine fJ ?_;refine dA (lu 1 O N)<|G.kE λB G=>?_;apply G.jC;have j:=(j.turn G).to (q:=p+1) ⟨N,λ_=>W.2⟩ O;have G:=o.over G;refine dD (CJ G.wf j W.2) ?_;rintro v H4 ⟨⟨k4,rfl,_,_,k5⟩,M⟩;have j:=j.ex M;have G:=G.call M;refine yx (λc=>?_) λc=>?_
 .refine G.jC<|RT.bad j G (i:=0) O O jq λg' ai H5 hY hr=>?_;refine rr ?_;exact hr hY
 have U:p+2<n:=by
  have:p+1+1≠n:=λe=>by have:=k5 e;omega
  omega
 have o:=G;have G:=G.base;apply G.qF;refine dA (lu 1 O N)<|G.kE λB G=>?_;apply G.jC;have j:=(j.turn G).to (q:=p+2) ⟨N,λ_=>U⟩ O;have G:=o.over G;refine j.call G G.ext.bU (λF' hF T=>ao6 41 0 N N N G.wf T) λg' H5 k6 q6 N6 e6 j ab V G _=>?_;have y:=j.bd;obtain⟨ra,rc,rcs,Y,nc,jA,ta,tc,I,rfl,_⟩:=id j;refine bM ?_;have o:=G;have G:=G.base;refine G.kE λB G=>?_;refine G.kE λB G=>?_;refine fJ ?_;have j:=j.turn G;have G:SH [] H B (Lr rz r3 rb (lr t ai cs w ch k6 at')<|lg ra rl rc Y N6 nc ta n tc q6 e6 I):=o.over G;refine aW (λP=>?_) λP=>anp (b:=aA) G j (λh=>absurd h P) (nofun) hl O;subst P;refine fJ ?_;refine dD (CJ G.wf j<|y.2.1 O) ?_;rintro v H6 ⟨⟨k7,rfl,_,_,k8⟩,M⟩;have j:=j.ex M;have G:=G.call M;refine bM ?_
 exact anp G j (λ_=>⟨by have:=(V O).2;omega,(V rfl).1⟩) (λh=>⟨rfl,by
  have h:=gG h;have:q6+1≠n:=λe=>by have:=k8 e;omega
  have:=y.2.1 O;omega⟩) hl rfl
theorem anq(G:SH [] H H1<|Lr rz r3 rb (lr ⟨#[]⟩ aA cs aA 0 0 0) gl)(j:YG n (Ot ay H.bU<|Lr rz r3 rb (lr ⟨#[]⟩ aA cs aA 0 0 0) gl) H1 (dP ⟨gl⟩) p m rl 0)(hp:p0<=p):
 iG Pg X (sub f_ [1,1,1]) (gF x0 (pr rb) (pr rz) (pr r3) x4 x5 x6 E H1) (RK n ay H p0):=by
 have Y:=j.bd;have V:=Y.2.1 O;have⟨ra,rc,_,na,nc,_,ta,tc,pg,e1,_,_,_,_,_,_,⟨_,_,f,e2,hfl,hn,hrow⟩,_⟩:=id j;cases e1;cases e2;have⟨k,T6,e',t',x,hk,_,hset,_,_,k2⟩:=hrow p V;obtain⟨sa,sn,sc,zs,rfl,_⟩:=id hset;refine tm ?_;refine hfl.Yb N V hk λq=>?_;have I:=G;have G:=G.base;refine G.oV O O O λH3 y G ad=>?_;refine fJ ?_
 have o:∀{B:R}{c:Int}{l:C D}{x5 x6:D}{E:D->D->Rs},c≠0->SH [] H B ((y,186,[vi k,vi T6,vi e',aJ t',u sa sn sc])::Lr rz r3 rb l (lg ra rl rc na m nc ta n tc p 0 pg))->YG n (Ot ay H.bU<|(y,186,[vi k,vi T6,vi e',aJ t',u sa sn sc])::Lr rz r3 rb l (lg ra rl rc na m nc ta n tc p 0 pg)) B (dP ⟨lg ra rl rc na m nc ta n tc p 0 pg⟩) p m rl 0->ME (wR (Z 6) (pr rb) B) λv Q=>bQ Pg X 105 [v,vi c] Q λW Q=>ME (Es 6 (pr rz) W Q) λ_ Q=>RK n ay H p0 (.ret<|gF x0 (pr rb) (pr rz) (pr r3) (pr y) x5 x6 (E W v) Q):=by
  intro B c l x5 x6 E hc G j;refine G.jC<|RT.bad j G (i:=1) O O hc λg' ai B hY hr=>?_;refine rr ?_;exact hr hY
 have M:=I.over G;have T:=j.turn G
 have go:∀{E:Rs},(k=1\/k=2)->iG Pg X (sub f_ [1,1,1,1,1]) (gF x0 (pr rb) (pr rz) (pr r3) (pr y) x5 x6 E H3) (RK n ay H p0):=by
  intro E ac
  have ab:p+1<n:=by
   have:p+1≠n:=λe=>by have:=k2 e;omega
   omega
  refine tm ?_;refine aW (λ_=>o jq M T) λhl=>?_;have n1:=G.nq 0 2 O O N;refine fJ ?_;refine G.n_ λHn G=>?_;refine G.n_ λHn G=>?_;refine G.n_ λHn G=>?_;refine splitK (λK hK=>?_) ?_
  .simp only[fu,gT];apply mO (a:=y) (b:=r3) n1 yB fT fT hK
  refine fJ ?_;have P:=I.over G;have U:=j.turn G;have j:=U;have G:SH [] H _ (Lr rz r3 rb (lr t' (decide<|k=1) cs aA 0 0 T6)<|lg ra rl rc na m nc ta n tc p 0 pg):=fU (A:=[_]) P;have j:YG n (Ot ay H.bU<|Lr rz r3 rb (lr t' (decide<|k=1) cs aA 0 0 T6)<|lg ra rl rc na m nc ta n tc p 0 pg) _ _ p m rl 0:=j.by λr _ h=>⟨h.1,λhm=>h.2<|bL _ hm⟩
  have go:=λ{E:Rs}=>ao7 (x0:=x0) (x4:=pr y) (x5:=x5) (x6:=x6) (E:=E) G j ⟨hp,ab⟩ N;cases cs
  .exact go
  .refine fJ ?_;exact fP (λ_=>o jq P U) λ_=>go
 refine fP (λc1=>?_) λc1=>go<|.inl c1;refine fJ ?_;refine fP (λc2=>?_) λc2=>go<|.inr c2;exact o jq M T
theorem anr(hw:Wf H)(y:YG n ay H g p m rl 0):bQ Pg X 72 [g] H (Q1 (RT n (Nw ay H.bU) p) H):=by
 have W:=y.bd;have B:=W.2.1 O;obtain⟨ra,rc,_,na,nc,_,ta,T,pg,rfl,_,_,_,_,_,_,⟨_,_,f,e2,P,hn,j⟩,_⟩:=id y;cases e2;have G:=h_ hw;refine lq [0,1,2,3,4,5,153] ?_;refine G.box O λH1 rb G=>?_;refine G.jP λH2 rz G=>?_;refine fJ ?_;refine G.oV O O O λH3 r3 G ab=>?_;have G:SH [] H H3 (Lr rz r3 rb (lr ⟨#[]⟩ aA aA aA 0 0 0)<|lg ra rl rc na m nc ta n T p 0 pg):=G.perm<|.swap _ _ _
 have fr:∀{U:R}{E:Rs}{b:Bool},Co E 50=aR b->(b=F->p+1<n)->SH [] H U (Lr rz r3 rb (lr ⟨#[]⟩ aA aA aA 0 0 0)<|lg ra rl rc na m nc ta n T p 0 pg)->iG Pg X (sub f_ [1,1,0,1]) (gF (dP ⟨lg ra rl rc na m nc ta n T p 0 pg⟩) (pr rb) (pr rz) (pr r3) top top top E U) (uW Pg X (sub f_ [1,1,1])<|RK n ay H p):=by
  intro U E b Y hb G;have y:=y.own G;refine tl ?_;rw[Y];cases b
  .refine G.lJ ?_;exact anq G y<|ax _
  .have V:=G;have G:=G.base;have I:=hb O;refine G.lJ ?_;refine G.kE λHn G=>?_;apply G.qF;exact dA (lu 1 O N)<|G.kE λHn G=>anq (V.over G) ((y.turn G).to (q:=p+1) ⟨N,λ_=>I⟩ O)<|jv _
 have⟨r,o,e1,hr,hcl,_⟩:=P.1.idx (c:=T) N B;have⟨k,T6,e',t',x,Y,_,hset,_,_,k2⟩:=j p B
 have h3:f[p*5+3]?=Z (aJ t'):=by
  have:=fq (λl=>l[3]?) Y;simp only[oL]at this;simpa using this
 refine fJ ?_;refine dA e1<|bM ?_;refine G.CO (hcl 3 _ N h3) hr ?_;refine G.lJ ?_;refine aW (λc1=>?_) λc1=>fr O (nofun) G;refine G.jC<|dD (CJ G.wf (y.own G) B) ?_;rintro v U ⟨⟨k4,rfl,_,_,k5⟩,M⟩;have G:=G.call M;refine bM ?_;refine aW (λc2=>?_) λc2=>fr O (nofun) G
 have I:p+1<n:=by
  have:p+1≠n:=λe=>by have:=k5 e;omega
  omega
 apply G.qF;refine dA (lu 1 O N)<|fJ ?_;refine aW (λ_=>?_) λc=>absurd (show((p+1:Nat):Int)<(n:Int) by omega) c;have⟨r5,o5,e5,hr5,aaL,_⟩:=P.1.idx (c:=T) N I;have⟨k6,_,_,_,_,hk5,_⟩:=j (p+1) I
 have h0:f[(p+1)*5+0]?=Z (vi k6):=by
  have:=fq (λl=>l[0]?) hk5;simp only[oL]at this;simpa using this
 refine fJ ?_;refine dA (lu 1 O N)<|dA e5<|bM ?_;refine G.CO (aaL 0 _ N h0) hr5 ?_;refine G.lJ ?_;refine aW (λc3=>fr O (λ_=>I) G) λc3=>?_;refine fJ ?_;refine dA (lu 1 O N)<|dA e5<|bM ?_;refine G.CO (aaL 0 _ N h0) hr5 ?_;refine G.lJ ?_;exact fr O (λ_=>I) G
end
section
variable{ay:Nat->Prop}
def BO.ow(h:BO ay H v n)(y:∀r,r<H.bU->(Ah H r 186\/Ah H r 275)->ay r->F' r):BO F' H v n:=
 let⟨a,c,f,I,W,h3,h4⟩:=h
 ⟨a,c,f,I,⟨W.1,λr o e j=>let⟨g1,g2,g3⟩:=W.2 r o e j;⟨y r g2 (.inl g3) g1,g2,g3⟩⟩,h3,λi B=>let⟨k,a,e,t',x,g1,g2,⟨b,m,c,zs,f1,f2,f3⟩,g4⟩:=h4 i B;⟨k,a,e,t',x,g1,g2,⟨b,m,c,zs,f1,⟨f2.1,λr o e j=>let⟨g1,g2,g3⟩:=f2.2 r o e j;⟨y r g2 (.inr g3) g1,g2,g3⟩⟩,f3⟩,g4⟩⟩
abbrev L2(rb rz:Nat)(gl:C D):C eB:=[(rb,32,gl),(rz,32,[u T 0 0,u T 0 0,u T 0 0,vi 0,vi 0,vi 0])]
def Red(v:D)(Q:R):Prop:=∃(y:aC Addr)(rl B:Nat)(j:aC Addr)(m o:Nat)(I:aC Addr)(n M p:Nat)(e at':Int),v=dP ⟨lg y rl B j m o I n M p e at'⟩/\(e=0->YG n TT Q v p m rl 0)
def ant(hw:Wf H)(s:aZ):bQ Pg X 43 [aJ s] H (Q1 Red H):=by
 have G:=h_ hw;refine lq [0,2,3,4,5,6,7] ?_;refine G.jP λH1 rz G=>?_;refine G.cm (ao1 G.wf s) ?_;rintro v H2 ⟨x,e,w,rfl,hT⟩ M G;refine yx (λc=>?_) λc=>?_
 .refine PU.b6 O<|G.lJ ?_;refine G.kE λHn G=>?_;refine rr ?_;exact G.uL 0 O (ax 6)<|⟨⟨T,0,0,T,0,0,T,0,0,0,e,w,O,λh=>absurd h c⟩,G.ext⟩
 subst c;have⟨n,hT⟩:=hT O;obtain⟨o,y,f,rfl,al⟩:=id hT;refine fJ ?_;refine G.oV O O O λH3 rb G an=>?_;have G:SH [] H H3 (L2 rb rz<|lg T 0 0 T 0 0 o (n+1) y 0 0 0):=G;have hT:BO (Ot TT H.bU<|L2 rb rz<|lg T 0 0 T 0 0 o (n+1) y 0 0 0) H3 (u o (n+1) y) (n+1):=(hT.st an nofun).ow λr _ h _=>⟨.inl trivial,λhm=>h.elim (G.AO O r hm)<|G.AO O r hm⟩;have j:YG (n+1) (Ot TT H.bU<|L2 rb rz<|lg T 0 0 T 0 0 o (n+1) y 0 0 0) H3 (dP ⟨lg T 0 0 T 0 0 o (n+1) y 0 0 0⟩) 0 0 0 0:=⟨T,0,[],T,0,[],o,y,0,O,jJ.nil _ _ _ _ _,(λ_ i h=>absurd h<|iP i),N,jJ.nil _ _ _ _ _,(λi h=>absurd h<|iP i),N,hT,N,λ_=>N⟩;refine VQ 7 (h1:=λz x7 Q=>∃(ra:aC Addr)(rl rc:Nat)(Y:aC Addr)(m nc:Nat)(o:aC Addr)(y p:Nat)(e at':Int)(b:Bool),x7=aR b/\SH [] H Q (L2 rb rz<|lg ra rl rc Y m nc o (n+1) y p e at')/\(e=0->n+1<=p+z/\YG (n+1) (Ot TT H.bU<|L2 rb rz<|lg ra rl rc Y m nc o (n+1) y p e at') Q (dP ⟨lg ra rl rc Y m nc o (n+1) y p e at'⟩) p m rl 0)) ?_ (n+1) ⟨T,0,0,T,0,0,o,y,0,0,0,F,rfl,G,λ_=>⟨N,j⟩⟩;clear G j hT al;rintro z x7 E H4 ⟨ra,rl,rc,Y,m,nc,P,U,p,e,at',b,rfl,G,he⟩;refine iG.yD λK hK=>?_
 have V:e=0->∀{B:R}{x7:D}{E:Rs},SH [] H B (L2 rb rz<|lg ra rl rc Y m nc P (n+1) U p e at')->Ext H4 B->iG Pg X (sub DT [1,1,1,1,0,1,0,0,1]) (yj (aJ s) (pr rz) (u o (n+1) y) (vi 0) (vi w) (pr rb) x7 E B) K:=by
  intro e0 B x7 E G ac;subst e0;have⟨hz,j⟩:=he O;have j:=j.ex ac;have hp:=j.bd.2.1 O;refine tl ?_;refine G.jC<|dD (anr G.wf<|j.by (F':=λr=>Ot TT H.bU (L2 rb rz<|lg ra rl rc Y m nc P (n+1) U p 0 at') r/\r<B.bU) λr I W=>⟨W,I⟩) ?_;rintro v H6 ⟨⟨aq,a0,aE,ao,m6,ap,a1,a2,p6,e6,ag,rfl,am⟩,M⟩;have hw:=G;have G:=G.call M;have ab:=G;have G:=G.base;refine G.kE λHn G=>?_;rw[hK];refine⟨z-1,N,_,_,_,O,aq,a0,aE,ao,m6,ap,a1,a2,p6,e6,ag,aA,O,ab.over G,λh=>?_⟩;have⟨g1,g2⟩:=am h;subst h;refine⟨N,YG.turn (L:=L2 rb rz<|lg ra rl rc Y m nc P (n+1) U p 0 at') (g2.by λr _ h=>?_) G⟩;rcases h with h|h
  .exact h.1
  .refine⟨.inl trivial,λhm=>?_⟩;obtain⟨e,he,rfl⟩:=bP.1 hm;exact fI h (hw.lo e he).2
 have ad:∀{B:R}{x7:D}{E:Rs},SH [] H B (L2 rb rz<|lg ra rl rc Y m nc P (n+1) U p e at')->Ext H4 B->K (.exit 0<|yj (aJ s) (pr rz) (u o (n+1) y) (vi 0) (vi w) (pr rb) x7 E B):=by
  intro B x7 E G ac;rw[hK];refine al4 (λc=>?_) λc=>?_
  .refine fJ ?_;refine G.kE λHn G=>?_;refine rr ?_;exact G.uL 1 O (ax 6)<|⟨⟨T,0,0,T,0,0,T,0,0,0,e,at',O,λh=>absurd h c⟩,G.ext⟩
  subst c;have j:=(he O).2.ex ac;have ab:=G;have G:=G.base;refine G.jC<|G.kE λHn G=>?_;have j:=j.turn G;have G:=ab.over G;refine rr ?_;exact G.uL 1 O (ax 6)<|⟨⟨_,_,_,_,_,_,_,_,_,_,_,_,O,λ_=>j.by λ_ _ _=>trivial⟩,G.ext⟩
 refine tm ?_;refine aW (λc=>?_) λ_=>ad G<|Ext.refl _;cases b;rotate_left
 .exact V c G<|Ext.refl _
 have j:=he c;subst c;refine fJ ?_;refine G.cm (CJ G.wf j.2<|j.2.bd.2.1 O) ?_;rintro v B ⟨k,rfl,_⟩ M G;refine bM ?_;exact fP (λ_=>V O G M) λ_=>ad G M
end
section
variable{ay:Nat->Prop}{rcs jA:C D}
def low(ai:Nat->Bool):Nat->Nat
 |0=>0
 |n+1=>low ai n+if ai n=F then 0 else 1
def Xb:∀n,low ai n<=n
 |0=>ax _
 |n+1=>by have:=Xb n;unfold low;split<;>omega
def Xc(h:ai i=aA):∀{n},i<n->low ai i<low ai n
 |n+1,hn=>by
  rcases dH i n with h'|h'
  .have:=Xc h h';show _<low ai n+_;omega
  .obtain rfl:i=n:=N;show _<low ai i+(if ai i=F then 0 else 1);rw[h];exact dI _
def RuE(f:C D)(ai:Nat->Bool)(m i:Nat):Prop:=∃(t:aZ)(r:Nat),f[i*7+0]?=Z (aJ t)/\f[i*7+1]?=Z (aR<|ai i)/\f[i*7+5]?=Z (B r)/\r<m/\∃cs w ch at',El f 7 i=[aJ t,aR<|ai i,aR cs,aR w,vi ch,B r,vi at']
def GR(ai:Nat->Bool)(ay:Nat->Prop)(H:R)(g:D)(m rl:Nat):Prop:=∃(o:aC Addr)(B:Nat)(rcs:C D)(j:aC Addr)(y:Nat)(jA:C D)(I:aC Addr)(n M p:Nat)(at':Int),g=dP ⟨lg o rl B j m y I n M p 0 at'⟩/\
 jJ ay 194 H o rl 7 rcs/\(∀i,i<rl->RuE rcs ai m i)/\rl<=120/\jJ ay 200 H j m 5 jA/\(∀i,i<m->Za ay H (El jA 5 i) i)/\m<=4000
def GR.ex(h:GR ai ay H g m rl)(M:Ext H Q):GR ai ay Q g m rl:=by
 have⟨ra,rc,rcs,na,nc,jA,ta,n,tc,p,at',I,W,h3,h4,h5,h6,h7⟩:=h;exact⟨ra,rc,rcs,na,nc,jA,ta,n,tc,p,at',I,W.ex M,h3,h4,h5.ex M,λi j=>(h6 i j).st M<|nofun,h7⟩
def YG.gr(h:YG n ay H g p m rl 0):∃ai,GR ai ay H g m rl:=by
 have⟨ra,rc,rcs,na,nc,jA,ta,tc,at',I,W,h3,h4,h5,h6,h7,_⟩:=h;refine⟨λi=>match rcs[i*7+1]? with|some (aR b)=>b|_=>aA,ra,rc,rcs,na,nc,jA,ta,n,tc,p,at',I,W,λi y=>?_,h4,h5,h6,h7⟩;have⟨t,ai,cs,w,ch,at',r,hk,hr⟩:=h3 O i y
 have g:∀j,j<7->rcs[i*7+j]?=([aJ t,aR ai,aR cs,aR w,vi ch,B r,vi at']:C D)[j]?:=λj M=>by
  have:=fq (λl=>l[j]?) hk;simp only[oL]at this;simpa [M]using this
 have o:rcs[i*7+1]?=Z (aR ai):=g 1 N;have e:(match rcs[i*7+1]? with|some (aR b)=>b|_=>aA)=ai:=by rw[o]
 exact⟨t,r,g 0 N,by show _=Z (aR (match rcs[i*7+1]? with|some (aR b)=>b|_=>aA));rw[e];exact o,g 5 N,hr,cs,w,ch,at',by show _=[_,aR (match rcs[i*7+1]? with|some (aR b)=>b|_=>aA),_,_,_,_,_];rw[e];exact hk⟩
def Xd(U:Wf H)(T:GR ai ay H g m rl)(hi:i<=rl):bQ Pg X 108 [g,B i] H (Q1 (λv _=>v=B (low ai i)) H):=by
 obtain⟨ra,M,rcs,V,Y,jA,ta,n,tc,p,pg,rfl,W,P,h4,_⟩:=T;have G:=h_ U;refine lq [0,1,2,4,5,6]<|G.box O λH1 rb G=>?_;refine lp2 5 6 (h1:=λz x5 x6 Q=>∃j,x5=B (low ai j)/\x6=B j/\j+z=i/\SH [] H Q [(rb,32,lg ra rl M V m Y ta n tc p 0 pg)]) ?_ i ⟨0,rfl,rfl,N,G⟩;clear G;rintro z x5 x6 E H2 ⟨j,rfl,rfl,hj,G⟩;refine aab (λc=>?_) λc=>?_
 .have y:j<rl:=N;have⟨_,_,_,g1,_⟩:=P j y;have⟨r,o,e1,hr,hcl,_⟩:=W.1.idx (c:=M) N y;have:=Xb (ai:=ai) j;refine G.qF<|dA e1<|bM ?_;refine G.CO (hcl 1 _ N g1) hr ?_;refine G.lJ ?_;have I:low ai (j+1)=low ai j+(if ai j=F then 0 else 1):=rfl;refine iI (λc=>?_) λc=>?_
  .rw[if_neg (nZ c)]at I;exact dA (lu 1 O N)<|dA (lu 1 O N)<|⟨z-1,N,_,_,_,_,O,j+1,by rw[I],rfl,N,G⟩
  .rw[if_pos (nZ c)]at I;exact dA (lu 1 O N)<|⟨z-1,N,_,_,_,_,O,j+1,by rw[I];rfl,rfl,N,G⟩
 .obtain rfl:j=i:=N;refine tl<|rr ?_;exact⟨O,G.ext⟩
def anu(T:Wf H)(P:GR ai ay H g m rl):bQ Pg X 139 [g,aJ t] H (Q1 (λv _=>(∃j,v=B j/\j<rl)\/v=vi (-1)) H):=by
 obtain⟨ra,I,rcs,U,V,jA,ta,n,tc,p,Y,rfl,W,M,h4,_⟩:=P;have G:=h_ T;refine lq [0,1,2,4,5] ?_;refine G.box O λH1 rb G=>?_;refine VQ 5 (h1:=λz x5 Q=>∃j,x5=B j/\j+z=rl/\SH [] H Q [(rb,32,lg ra rl I U m V ta n tc p 0 Y)]) ?_ rl ⟨0,rfl,N,G⟩;clear G;rintro z x5 E H2 ⟨j,rfl,hj,G⟩;refine aab (λc=>?_) λc=>?_
 .have y:j<rl:=N;have⟨_,_,g1,_⟩:=M j y;have⟨r,o,e1,hr,hcl,_⟩:=W.1.idx (c:=I) N y;apply G.qF;refine dA e1 ?_;refine bM ?_;refine G.CO (hcl 0 _ N g1) hr ?_;refine G.lJ ?_;refine aW (λe=>?_) λe=>?_
  .refine rr ?_;exact⟨.inl ⟨j,O,y⟩,G.ext⟩
  .exact dA (lu 1 O N)<|⟨z-1,N,_,_,_,O,j+1,O,N,G⟩
 .refine tl<|rr ?_;exact⟨.inr O,G.ext⟩
end
section
variable{ay:Nat->Prop}
def KW(ay:Nat->Prop)(H:R)(w:D)(hx:Nat):Prop:=∃(ea:aC Addr)(ec:Nat)(j:aC Addr)(sc:Nat)(be bs:C Bool),w=dP ⟨[u ea hx ec,u j hx sc]⟩/\jJ ay 4 H ea hx 1 (bools be)/\jJ ay 4 H j hx 1 (bools bs)
def KW.ex(h:KW ay H w hx)(M:Ext H Q):KW ay Q w hx:=let⟨ea,ec,sa,sc,be,bs,I,W,h3⟩:=h;⟨ea,ec,sa,sc,be,bs,I,W.ex M,h3.ex M⟩
def UK{c:Nat}(h:jJ ay 4 H a hx 1<|bools bs)(hi:i<hx):∃r o,B_ 1 (u a hx c) (B i)=Z (bG<|Z ⟨r,o,T⟩)/\∃b:Bool,H.cell r o=Z (aR b):=by
 have⟨r,o,e1,hr,hcl,_⟩:=h.1.idx (c:=c) N hi;have j:i<J bs:=by have:=h.1.1;rw[aK]at this;omega
 exact⟨r,o,e1,bs[i],hcl 0 _ N (by rw[dN,d_];exact jX _<|av j)⟩
abbrev two(v:D):Prop:=∃x y:Bool,v=fO ⟨[aR x,aR y]⟩
def Xe(ai:Nat->Bool)(m rl k:Nat):Prop:=∀{ay F':Nat->Prop}{H:R}{g w:D},Wf H->GR ai ay H g m rl->KW F' H w (low ai rl)->bQ Pg X 109 [g,w,B k] H (Q1 (λv _=>two v) H)
def anv(hk:k<m)(ih:∀z,z<k->Xe ai m rl z):Xe ai m rl k:=by
 intro ay F' H g w hw hg ad;obtain⟨ra,rc,rcs,na,nc,jA,ta,n,tc,p,pg,rfl,W,h3,h4,h5,h6,h7⟩:=id hg;obtain⟨ea,ec,sa,sc,be,bs,rfl,hE,hB⟩:=id ad;have G:=h_ hw;refine lq [0,1,2,3,4,6,7,8,9,10,11,12,13,14,15,16,17,18,25] ?_;refine G.box O λH1 rb G=>?_;refine G.box O λH2 rw G=>?_;have⟨kd,a,V,c,t,ua,un,uc,at',hkx,hkf,hkl,hk4,hkn⟩:=h6 k hk;refine fJ ?_;refine(h5.ex G.ext).Yb N hk hkx λq=>G.oV O O O λH3 r8 G am=>?_;obtain⟨LL,ac⟩:∃LL:C eB,LL=[(r8,200,[vi kd,u a (J V) c,aJ t,u ua un uc,vi at']),(rw,36,[u ea (low ai rl) ec,u sa (low ai rl) sc]),(rb,32,lg ra rl rc na m nc ta n tc p 0 pg)]:=⟨_,O⟩
 have U:∀{I:R}{i:Nat}{Kp:D->R->Prop},SH [] H I LL->(hi:i<J V)->(∀Y x y,SH [] H (hM I Y) LL->Ext (hN I) Y->Kp (fO ⟨[aR x,aR y]⟩) Y)->bQ Pg X 109 [dP ⟨lg ra rl rc na m nc ta n tc p 0 pg⟩,dP ⟨[u ea (low ai rl) ec,u sa (low ai rl) sc]⟩,B V[i]] (hN I) Kp:=by
  intro I i Kp G hi kk;refine dD (ih _ (hkl _<|bH hi) (ay:=ay) (F':=F') (oU I) (show GR ai ay (hN I) _ m rl from(hg.ex G.ext:GR ai ay I _ m rl)) (show KW F' (hN I) _ _ from(ad.ex G.ext:KW F' I _ _))) ?_;rintro v Y ⟨⟨x,y,rfl⟩,M⟩;exact kk Y x y (G.oI M) M
 have ld:∀{I:R}{i:Nat},SH [] H I LL->(hi:i<J V)->∃r o,B_ 1 (u a (J V) c) (B i)=Z (bG<|Z ⟨r,o,T⟩)/\I.cell r o=Z (B V[i]):=by
  intro I i G hi;have⟨r,o,e1,hr,hcl,_⟩:=(hkf.ex G.ext).1.idx (c:=c) N hi;exact⟨r,o,e1,hcl 0 _ N (by rw[dN,d_];exact jX _<|av hi)⟩
 have P:SH [] H H3 LL:=by rw[ac];exact G
 refine yz (λc0=>?_) λc0=>?_
 .refine Yt 9 10 11 12 13 (h1:=λz x9 j_ je mP ko Q=>∃(x y:Bool)(j:Nat),x9=aR x/\j_=aR y/\je=B j/\j+z=J V/\SH [] H Q LL) ?_ (J V) ⟨_,_,0,rfl,rfl,rfl,N,P⟩;clear G P;rintro z x9 j_ je mP ko E I ⟨x,y,j,rfl,rfl,rfl,hj,P⟩;have G:=P;rw[ac]at G;refine aab (λc1=>?_) λc1=>?_
  .have ab:j<J V:=N;have⟨r,o,e1,hr⟩:=ld P ab;refine fJ ?_;refine dA e1<|iY (H:=hN I) hr ?_;refine G.lJ ?_;refine U P ab λY x' y' P M=>ji (by simp only[fu,gJ M];rfl) ?_;cases x<;>cases y
   all_goals
    try simp only[PP,Nat.reduceBEq]
    exact dA (lu 1 O N)<|⟨z-1,N,_,_,_,_,_,_,_,O,_,_,j+1,O,O,O,N,P⟩
  .refine tl<|rr ?_;exact⟨⟨_,_,O⟩,G.ext⟩
 refine aW (λc2=>?_) λc2=>?_
 .refine Yt 9 10 14 15 16 (h1:=λz x9 j_ je mP ko Q=>∃(x y:Bool)(j:Nat),x9=aR x/\j_=aR y/\je=B j/\j+z=J V/\SH [] H Q LL) ?_ (J V) ⟨_,_,0,rfl,rfl,rfl,N,P⟩;clear G P;rintro z x9 j_ je mP ko E I ⟨x,y,j,rfl,rfl,rfl,hj,P⟩;have G:=P;rw[ac]at G;refine aab (λc1=>?_) λc1=>?_
  .have ab:j<J V:=N;have⟨r,o,e1,hr⟩:=ld P ab;refine fJ ?_;refine dA e1<|iY (H:=hN I) hr ?_;refine G.lJ ?_;refine U P ab λY x' y' P M=>ji (by simp only[fu,gJ M];rfl) ?_;cases x<;>cases y
   all_goals
    try simp only[PP,Nat.reduceBEq]
    exact dA (lu 1 O N)<|⟨z-1,N,_,_,_,_,_,_,_,O,_,_,j+1,O,O,O,N,P⟩
  .refine tl<|rr ?_;exact⟨⟨_,_,O⟩,G.ext⟩
 have go:∀{E:Rs}{b:Bool},Co E 82=aR b->iG Pg X (sub qZ [1,1,1,0,1,0,1,1,1,1,1]) (yl (dP ⟨lg ra rl rc na m nc ta n tc p 0 pg⟩) (dP ⟨[u ea (low ai rl) ec,u sa (low ai rl) sc]⟩) (B k) (pr rb) (pr rw) (aR aA) (aR aA) (pr r8) (aR aA) (aR F) top top top top top top top top (vi kd) E H3) (uB 0<|uW Pg X (sub qZ [1,1,1,1])<|jZ Pg [.tmp 6,.tmp 7]<|Q1 (λv _=>two v) H):=by
  intro E b hb;refine tl ?_;rw[hb];cases b;rotate_left
  .refine G.lJ ?_;refine rr ?_;exact⟨⟨_,_,O⟩,G.ext⟩
  refine G.lJ ?_;refine aW (λc4=>?_) λc4=>?_
  .have al:0<J V:=List.length_pos_iff.2 (hk4 c4);have⟨r,o,e1,hr⟩:=ld P al;refine fJ ?_;refine dA e1<|iY (H:=hN H3) hr ?_;refine G.lJ ?_;refine U P al λY x' y' P M=>?_;refine bM ?_;refine ji (by simp only[fu,gJ M];rfl) ?_;refine rr ?_;exact⟨⟨_,_,O⟩,P.ext⟩
  refine nN (λc5=>?_) λc5=>?_
  .refine tl<|rr ?_;exact⟨⟨_,_,O⟩,G.ext⟩
  refine fJ ?_;refine G.cm (anu G.wf<|hg.ex G.ext) ?_;rintro v I hv M G
  have no:∀{E:Rs}{Cc:D},Co E 112=aR aA->iG Pg X (sub qZ [1,1,1,0,1,0,1,1,1,1,1,1,1,1,1,0,1,1]) (yl (dP ⟨lg ra rl rc na m nc ta n tc p 0 pg⟩) (dP ⟨[u ea (low ai rl) ec,u sa (low ai rl) sc]⟩) (B k) (pr rb) (pr rw) (aR aA) (aR aA) (pr r8) (aR aA) (aR F) top top top top top top Cc top (vi kd) E I) (uB 0<|uW Pg X (sub qZ [1,1,1,1])<|jZ Pg [.tmp 6,.tmp 7]<|Q1 (λv _=>two v) H):=by
   intro E Cc hk;refine tl ?_;rw[hk];refine bM ?_;refine tl<|rr ?_;exact⟨⟨_,_,O⟩,G.ext⟩
  rcases hv with⟨j,rfl,hj⟩|rfl;rotate_left
  .refine G.lJ ?_;exact no O
  refine G.lJ ?_;refine aW (λ_=>?_) λc=>absurd (show(0:Int)<=(j:Int) by omega) c;have⟨_,_,_,g1,_⟩:=h3 j hj;have⟨r,o,e1,hr,hcl,_⟩:=W.1.idx (c:=rc) N hj;refine G.qF<|dA e1<|bM ?_;refine G.CO (hcl 1 _ N g1) hr ?_;refine G.lJ ?_;cases hup:ai j;rotate_left
  .exact no O
  have ag:=Xc hup hj;refine tm ?_;refine(show∀{a b:Prop},a->yU (Z !aA) a b fromλh=>h)<|G.jC<|dD (Xd G.wf (hg.ex G.ext) (i:=j) N) ?_;rintro v Y ⟨rfl,M⟩;have G:=G.call M;have⟨r1,o1,e1,x1,hr1⟩:=UK (c:=ec) (hE.ex G.ext) ag;have⟨r2,o2,e2,x2,hr2⟩:=UK (c:=sc) (hB.ex G.ext) ag;refine fJ ?_;refine dA e1<|iY (H:=hN Y) hr1 ?_;refine fJ ?_;refine dA e2<|iY (H:=hN Y) hr2 ?_;refine fJ ?_;refine rr ?_;exact⟨⟨_,_,O⟩,G.ext⟩
 refine aW (λc3=>go O) λc3=>?_;exact go O
def akn:∀ae k,k<ae->k<m->Xe ai m rl k:=by
 intro ae
 induction ae with
 |zero=>intro k h;omega
 |succ ae j=>exactλk _ h=>anv h λz o=>j z N N
end
section
variable{ay:Nat->Prop}
abbrev wA(bs:C Bool)(l:Nat):Bool:=bs[l]?.getD aA
def cf:C Bool->Nat
 |[]=>0
 |b::l=>cf l+(if b=F then 0 else 1)
def ae2:∀(l:C Bool)(i:Nat)(x:Bool),cf (l.set i<|(l[i]?.getD aA)||x)+(if i<J l/\l[i]?.getD aA=aA/\x=F then 1 else 0)=cf l
 |[],i,x=>by simp[cf]
 |b::l,0,x=>by cases b<;>cases x<;>simp[cf]
 |b::l,i+1,x=>by
  have:=ae2 l i x;simp only[kG,eP,cO,cf,Nat.add_lt_add_iff_right];omega
def ako(m:Nat):cf (aY m aA)=m:=by
 induction m with
 |zero=>rfl
 |succ m j=>show cf (aY m aA)+1=_;rw[j]
abbrev Lk(rb rz j o rw m:Nat)(be bs:C Bool)(gl:C D):C eB:=[(rw,36,[u (Z ⟨j,0,T⟩) m m,u (Z ⟨o,0,T⟩) m m]),(o,4,bools bs),(j,4,bools be),(rz,36,[u T 0 0,u T 0 0]),(rb,32,gl)]
def aaM(l:C Bool)(i:Nat)(x:Bool):(bools l).set i (aR x)=bools (l.set i x):=by
 unfold bools;rw[gz]
def N8{l:C Bool}:l.set i (wA l i)=l:=by
 refine iV λj=>?_;rw[dU];split
 .next h=>
  subst h;split
  .next h=>show Z (l[i]?.getD aA)=_;rw[av h];rfl
  .next h=>rw[dw N]
 .rfl
def RS{l:C Bool}(h:i<J l):(bools l)[i]?=Z (aR<|wA l i):=by
 show(l.map aR)[i]?=Z (aR<|l[i]?.getD aA);rw[bK,av h];rfl
def ae3{l:C Bool}{e:Bool}(h:i<J l):cf (l.set i<|wA l i||e)<=cf l/\(e=F/\wA l i=aA->cf (l.set i<|wA l i||e)<cf l)/\(¬(e=F/\wA l i=aA)->l.set i (wA l i||e)=l):=by
 have c:cf (l.set i<|wA l i||e)+(if i<J l/\wA l i=aA/\e=F then 1 else 0)=cf l:=ae2 l i e;refine⟨N,λI=>?_,λI=>?_⟩
 .rw[if_pos ⟨h,I.2,I.1⟩]at c;omega
 .rw[show(wA l i||e)=wA l i by cases e<;>cases h:wA l i<;>simp_all,N8]
theorem anw{M P j l:Nat}{x3:D}(G:SH [] H H1<|Lk rb rz M P j m be bs gl)(hl:l<m)(V:J be=m)(Y:J bs=m)(rg S b c:Bool)(hk:Co E 68=aR c)(hc:c=F<->(rg=F/\wA be l=aA)\/(S=F/\wA bs l=aA))(Kc:Out->Prop)(kk:∀{H2:R}{E:Rs},SH [] H H2 (Lk rb rz M P j m (be.set l<|wA be l||rg) (bs.set l<|wA bs l||S) gl)->Kc (.norm<|tK x0 (pr rb) (pr rz) x3 (pr j) (aR<|b||c) x6 (B l) (aR rg) (aR S) E H2)):iG Pg X (sub yh [1,1,1,0,1,0,0,1,0,1,1,0,0,1,0,0,1,1,1,1]) (tK x0 (pr rb) (pr rz) x3 (pr j) (aR b) x6 (B l) (aR rg) (aR S) E H1) Kc:=by
 refine tl ?_;rw[hk];cases c
 .refine bM ?_;have I:(wA be l||rg)=wA be l:=by cases rg<;>cases h:wA be l<;>simp_all
  have W:(wA bs l||S)=wA bs l:=by cases S<;>cases h:wA bs l<;>simp_all
  rw[I,W,N8,N8,nP]at kk;exact kk G
 .refine fJ ?_;have c1:=RS (show l<J be by omega);have c2:=RS (show l<J bs by omega);refine dA (Ih hl) ?_;simp only[bB];refine iY (H:=hN H1) ((G.get 2 O).cell c1) ?_;have n1:=G.nq 0 1 O O N;have n2:=G.nq 0 2 O O N;have n3:=G.nq 1 2 O O N;rw[Bool.or_true]at kk;have e1:∀{l':C Bool}{z:Bool},J l'=m->splice (bools l') l (bY<|aR z)=bools (l'.set l z):=λh=>(Gy (by simp only[aK];omega)).trans<|aaM ..
  have o:∀{H2:R}{x y:Bool},SH [] H H2 [(j,36,[u (Z ⟨M,0,T⟩) m m,u (Z ⟨P,0,T⟩) m m]),(P,4,splice (bools bs) l<|bY<|aR y),(M,4,splice (bools be) l<|bY<|aR x),(rz,36,[u T 0 0,u T 0 0]),(rb,32,gl)]->SH [] H H2 (Lk rb rz M P j m (be.set l x) (bs.set l y) gl):=by
   intro H2 x y G;rw[e1 V,e1 Y]at G;exact G
  cases I:wA be l<;>rw[I]at kk
  .refine fJ ?_;refine dA (Ih hl) ?_;simp only[bB];refine iY (H:=hN H1) ((G.get 1 O).cell c2) ?_;cases W:wA bs l<;>rw[W]at kk
   all_goals
    refine fJ ?_;refine dA (Ih hl) ?_;simp only[bB];refine G.n_ (λH3 G=>?_) O (by simp only[aK];show l+1<=_;omega) rfl;refine dA (Ih hl) ?_;simp only[bB];refine G.n_ (λH4 G=>?_) O (by simp only[aK];show l+1<=_;omega) rfl;refine(show∀K:Prop,K->_/\K fromλKz U=>?_) _ ?_
    .simp only[fu,gT];apply zP (a:=j) (b:=P) (c:=M) n1 n2 n3 yB fT fT U
    exact kk<|o G
  .refine fJ ?_;refine dA (Ih hl) ?_;simp only[bB];refine iY (H:=hN H1) ((G.get 1 O).cell c2) ?_;cases W:wA bs l<;>rw[W]at kk
   all_goals
    refine fJ ?_;refine dA (Ih hl) ?_;simp only[bB];refine G.n_ (λH3 G=>?_) O (by simp only[aK];show l+1<=_;omega) rfl;refine dA (Ih hl) ?_;simp only[bB];refine G.n_ (λH4 G=>?_) O (by simp only[aK];show l+1<=_;omega) rfl;refine(show∀K:Prop,K->_/\K fromλKz U=>?_) _ ?_
    .simp only[fu,gT];apply zP (a:=j) (b:=P) (c:=M) n1 n2 n3 yB fT fT U
    exact kk<|o G
theorem akp(hw:Wf H)(hg:GR ai ay H g m rl):bQ Pg X 74 [g] H (Q1 (λv Q=>∃b,KW (λ_=>True) Q v b) H):=by
 obtain⟨ra,rc,rcs,na,nc,jA,ta,n,tc,p,pg,rfl,W,h3,h4,h5,h6,h7⟩:=id hg;have G:=h_ hw;refine lq [0,1,2,3,4,5,6,7,8,9] ?_;refine G.box O λH1 rb G=>?_;refine G.jP λH2 rz G=>?_;refine fJ ?_;refine G.cm (Xd G.wf (hg.ex G.ext)<|ax _) ?_;rintro v H3 rfl M G;have aE:=Xb (ai:=ai) rl;refine G.mkD N λH4 UL G am=>G.mkD N λH5 UM G an=>?_;refine fJ ?_;refine G.aao λH6 U G ao=>G.n_ λHn G=>(show∀K:Prop,K->_/\K fromλKz hK=>?_) _ ?_
 .simp only[am,an,ao,gT];apply Gc (a:=U) yB fT fT hK
 rw[show pV [aR aA] (low ai rl)=bools (aY (low ai rl) aA) by rw[mK];simp]at G;have G:SH [] H _ (Lk rb rz UL UM U (low ai rl) (aY (low ai rl) aA) (aY (low ai rl) aA)<|lg ra rl rc na m nc ta n tc p 0 pg):=G;refine Yt 5 6 7 8 9 (h1:=λz x5 x6 x7 x8 x9 Q=>∃b be bs,x5=aR b/\J be=low ai rl/\J bs=low ai rl/\cf be+cf bs+(if b=F then 1 else 0)<=z/\SH [] H Q (Lk rb rz UL UM U (low ai rl) be bs<|lg ra rl rc na m nc ta n tc p 0 pg)) ?_ (2*low ai rl+1) ⟨F,_,_,rfl,kg,kg,by rw[ako];simp;omega,G⟩;clear G;rintro z x5 x6 x7 x8 x9 E H7 ⟨b,be,bs,rfl,ab,ag,hm,G⟩
 have al:∀{be bs:C Bool}{Q:R}{x y z:eB},J be=low ai rl->J bs=low ai rl->SH [] H Q [x,(UM,4,bools bs),(UL,4,bools be),y,z]->KW (λ_=>True) Q (dP ⟨[u (Z ⟨UL,0,T⟩) (low ai rl) (low ai rl),u (Z ⟨UM,0,T⟩) (low ai rl)<|low ai rl]⟩) (low ai rl):=λ{be bs Q x y z} ab ag G=>
  ⟨_,_,_,_,be,bs,rfl,(G.get 2 rfl).UO (n:=low ai rl) (es:=1) (G.lo _<|aV (i:=2) O).2 (by simp[ab]) trivial,(G.get 1 O).UO (n:=low ai rl) (es:=1) (G.lo _<|aV (i:=1) O).2 (by simp[ag]) trivial⟩
 refine tm ?_;cases b
 .refine bM ?_;refine tl ?_;apply G.jC;refine G.kE λHn G=>?_;refine rr ?_;refine G.uL 3 O (ax 2) ?_;exact⟨⟨_,al ab ag G⟩,G.ext⟩
 .refine bM ?_;have aq:cf be+cf bs<z:=by simp at hm;omega
  refine Yt 5 6 7 8 9 (h1:=λk x5 x6 x7 x8 x9 Q=>∃i b j P,x5=aR b/\x6=B i/\i+k=rl/\J j=low ai rl/\J P=low ai rl/\cf j+cf P+(if b=F then 1 else 0)<=cf be+cf bs/\SH [] H Q (Lk rb rz UL UM U (low ai rl) j P<|lg ra rl rc na m nc ta n tc p 0 pg)) ?_ rl ⟨0,aA,be,bs,rfl,rfl,N,ab,ag,ax _,G⟩;clear G;rintro k x5 x6 x7 x8 x9 E H8 ⟨i,b,j,P,rfl,rfl,ap,V,WW,hf,G⟩;refine aab (λc=>?_) λc=>?_
  .have ac:i<rl:=N;have⟨_,rt,_,g1,g5,hrt,_⟩:=h3 i ac;have⟨r,o,e1,hr,hcl,_⟩:=W.1.idx (c:=rc) N ac;refine G.qF<|dA e1<|bM ?_;refine G.CO (hcl 1 _ N g1) hr ?_;refine G.lJ ?_;cases hup:ai i;rotate_left
   .refine bM ?_;exact dA (lu 1 O N)<|⟨k-1,N,_,_,_,_,_,_,_,O,i+1,b,j,P,O,O,N,V,WW,hf,G⟩
   refine fJ ?_;refine G.cm (Xd G.wf (hg.ex G.ext) (i:=i) N) ?_;rintro v H9 rfl M G;have⟨r',o',e1',hr',ag0,_⟩:=(W.ex G.ext).1.idx (c:=rc) N ac;refine fJ ?_;refine dA e1'<|bM ?_;refine iY (H:=hN H9) (ag0 5 _ N g5) ?_;refine G.lJ ?_;refine dD (akn m _ hrt hrt (ay:=ay) (F':=λ_=>True) (oU H9) (show GR ai ay (hN H9) _ m rl from(hg.ex G.ext:GR ai ay H9 _ m rl)) (show KW _ (hN H9) _ _ from(al V WW G:KW _ H9 _ _))) ?_;rintro v CF ⟨⟨rg,vn,rfl⟩,uR⟩;have G:=G.oI uR;refine bM ?_;refine ji (by simp only[fu,gJ uR];rfl) ?_;generalize hKc:uB 3 _=Kc;have ad:=Xc hup ac
   have Y:∀{c:Bool}{E:Rs}{H2:R},Co E 68=aR c->(c=F<->(rg=F/\wA j (low ai i)=aA)\/(vn=F/\wA P (low ai i)=aA))->SH [] H H2 (Lk rb rz UL UM U (low ai rl) j P<|lg ra rl rc na m nc ta n tc p 0 pg)->iG Pg X (sub yh [1,1,1,0,1,0,0,1,0,1,1,0,0,1,0,0,1,1,1,1]) (tK (dP ⟨lg ra rl rc na m nc ta n tc p 0 pg⟩) (pr rb) (pr rz) (B<|low ai rl) (pr U) (aR b) (B i) (B<|low ai i) (aR rg) (aR vn) E H2) Kc:=by
    intro c E H2 hk hc G;refine anw G ad V WW rg vn b c hk hc Kc λ{H3 E} G=>?_;subst hKc;refine tm ?_;refine dA (lu 1 O N)<|⟨k-1,N,_,_,_,_,_,_,_,O,i+1,b||c,_,_,O,O,N,(bR ..).trans V,(bR ..).trans WW,?_,G⟩;have⟨d1,d3,_⟩:=ae3 (e:=rg) (show low ai i<J j by omega);have⟨d2,d4,_⟩:=ae3 (e:=vn) (show low ai i<J P by omega);cases c
    .rw[nP];omega
    .rw[Bool.or_true,if_pos O];have:(if b=F then 1 else 0)<=1:=by split<;>omega
     rcases hc.1 rfl with h|h
     .have:=d3 h;omega
     .have:=d4 h;omega
   have w1:=RS (show low ai i<J j by omega);have w2:=RS (show low ai i<J P by omega);cases rg
   .cases vn
    .refine bM ?_;exact Y O gD G
    refine fJ ?_;refine dA (Ih ad) ?_;simp only[bB];refine iY ((G.get 1 O).cell w2) ?_;refine bM ?_;exact Y O gD G
   refine fJ ?_;refine dA (Ih ad) ?_;simp only[bB];refine iY ((G.get 2 O).cell w1) ?_;cases I:wA j (low ai i)
   .refine G.lJ ?_;exact Y O (by simp[I]) G
   refine bM ?_;refine(show∀{a b:Prop},b->yU (Z !F) a b fromλh=>h) ?_;cases vn
   .refine G.lJ ?_;exact Y O (by simp[I]) G
   refine fJ ?_;refine dA (Ih ad) ?_;simp only[bB];refine iY ((G.get 1 O).cell w2) ?_;refine bM ?_;exact Y O (by simp[I]) G
  .exact⟨cf j+cf P+(if b=F then 1 else 0),N,_,_,_,_,_,_,_,O,b,j,P,O,V,WW,ax _,G⟩
end
section
variable{ay:Nat->Prop}
def akq(M:Wf H)(I:GR ai ay H g m rl)(hi:i<rl):bQ Pg X 107 [g,B i] H (Q1 (λv _=>∃k:Nat,v=B k/\k<=4000) H):=by
 obtain⟨ra,P,rcs,na,nc,jA,ta,n,tc,p,pg,rfl,W,y,T,U,V,Y⟩:=I;have G:=h_ M;refine lq [0,1,2,4] ?_;refine G.box O λH1 rb G=>?_;refine G.lJ ?_;refine aW (λc=>?_) λc=>?_
 .refine rr ?_;exact⟨⟨0,O,bD _⟩,G.ext⟩
 obtain⟨j,rfl⟩:∃j,i=j+1:=⟨i-1,N⟩;have⟨_,r,_,_,g5,hr5,_⟩:=y j N;have⟨r',o,e1,hr,hcl,_⟩:=W.1.idx (c:=P) N (show j<rl by omega);apply G.qF;rw[qO N N];refine bM ?_;rw[show((j+1:Nat):Int)-1=(j:Nat) by omega];refine dA e1<|bM ?_;refine G.CO (hcl 5 _ N g5) hr<|dA (lu 1 O N)<|rr ?_;exact⟨⟨r+1,O,N⟩,G.ext⟩
def OY(x:D)(ae:Nat)(gb:C eB):Prop:=∃f,GB 202 4 x f gb/\J f=ae*4/\∀j,j<ae->∃t,f[j*4+0]?=Z (aJ t)
def OY.push(h:OY x ae gb){r:Int}{b:Bool}(hN:ae<=1000000)(G:SH [] H0 H<|gb++L)(kk:∀q v' H3 iN,OY v' (ae+1) iN->SH [] H0 H3 (iN++L)->Kp q v' H3):ME (bS 202 [aJ ⟨#[]⟩,vi 0,vi 0,aR aA] 4 1 [(0,dP ⟨[aJ t,vi r,vi c,aR b]⟩)] H) λq H1=>ME (Bo 202 4 x q H1) (Kp q):=by
 have⟨f,hg,hl,hr⟩:=h;refine hg.push G N O O O O O N N λq v' H3 iN o G=>kk q v' H3 iN ⟨_,o,by rw[aS];show _+4=_;omega,λj y=>?_⟩ G;rcases dH j ae with h|h
 .have⟨t,ht⟩:=hr j h;exact⟨t,by rw[bX N];exact ht⟩
 .obtain rfl:j=ae:=N;exact⟨t,by rw[eD N,show j*4+0-J f=0 by omega];rfl⟩
def akr(hw:Wf H)(hg:GR ai ay H g m rl):bQ Pg X 73 [g] H (Q1 (λv _=>∃a n c,v=u a n c) H):=by
 obtain⟨ra,Y,rcs,na,V,jA,ta,n,tc,p,pg,rfl,W,h3,h4,h5,h6,h7⟩:=id hg;have G:=h_ hw;refine lq [0,1,2,3,4,5,6,7,8,9]<|G.box O λH1 rb G=>?_;refine Yt 3 4 5 6 7 (h1:=λz P x4 x5 x6 x7 Q=>∃i ae gb,x4=B i/\i+z=rl/\OY P ae gb/\ae<=4001*i/\SH [] H Q (gb++[(rb,32,lg ra rl Y na m V ta n tc p 0 pg)])) ?_ rl ⟨0,0,[],rfl,N,⟨[],GB.nil _ _,rfl,λj h=>absurd h<|iP _⟩,bD _,G⟩;clear G;rintro z P x4 x5 x6 x7 E H2 ⟨i,ae,gb,rfl,an,y,U,G⟩;refine agk (λc=>?_) λc=>?_
 .refine tl ?_;refine Ik 3 8 9 (h1:=λz P x8 x9 Q=>∃i ae gb,x8=B i/\i+z=rl/\OY P ae gb/\ae<=500000+i/\SH [] H Q (gb++[(rb,32,lg ra rl Y na m V ta n tc p 0 pg)])) ?_ rl ⟨0,ae,gb,rfl,N,y,N,G⟩;clear G y U;rintro z3 P x8 x9 E H3 ⟨i2,ae,gb,rfl,an,y,U,G⟩;refine agk (λc=>?_) λc=>?_
  .refine tl ?_;have⟨f,hg,_⟩:=y;obtain⟨a,n,c,rfl⟩:=hg.sl;refine rr ?_;exact⟨⟨_,_,_,O⟩,G.ext⟩
  have I:i2<rl:=N;have⟨tt,rt,_,_,_,_,cs,w,ch,at',hk⟩:=h3 i2 I;refine G.qF<|(W.ex G.ext).Yb N I hk λq=>G.oV O O O λH4 r9 G a0=>?_
  have ab:∀{b:Bool}{H5:R}{E:Rs},Co E 94=aR b->SH [] H H5 ((r9,194,[aJ tt,aR<|ai i2,aR cs,aR w,vi ch,B rt,vi at'])::(gb++[(rb,32,lg ra rl Y na m V ta n tc p 0 pg)]))->∀{az:Out->Prop},(∀{P:D}{N':Nat}{iN:C eB}{H6:R}{E:Rs},OY P N' iN->N'<=ae+1->SH [] H H6 (iN++[(rb,32,lg ra rl Y na m V ta n tc p 0 pg)])->az (.norm<|zG (dP ⟨lg ra rl Y na m V ta n tc p 0 pg⟩) (pr rb) (u T 0 0) P (B i) x5 x6 x7 (B i2) (pr r9) E H6))->iG Pg X (sub Fv [1,1,1,0,1,0,0,1,0,0,1,1]) (zG (dP ⟨lg ra rl Y na m V ta n tc p 0 pg⟩) (pr rb) (u T 0 0) P (B i) x5 x6 x7 (B i2) (pr r9) E H5) az:=by
   intro b H5 E ao G az kk;refine tl ?_;rw[ao];cases b
   .refine bM ?_;exact kk y N<|fU (A:=[_]) G
   refine fJ ?_;exact y.push N (G.perm (L':=gb++((r9,194,_)::[(rb,32,lg ra rl Y na m V ta n tc p 0 pg)])) jO.symm) λq v' H6 iN y G=>kk y (ax _)<|fU (A:=[_])<|G.perm jO
  refine QX (λ_=>?_) λ_=>?_
  .refine fJ ?_;refine ab O G λy hn G=>?_;refine bM ?_;refine tl ?_;refine dA (lu 1 O N) ?_;exact⟨z3-1,N,_,_,_,_,_,O,i2+1,_,_,O,N,y,N,G⟩
  .refine ab O G λy hn G=>?_;refine bM ?_;refine tl ?_;refine dA (lu 1 O N) ?_;exact⟨z3-1,N,_,_,_,_,_,O,i2+1,_,_,O,N,y,N,G⟩
 have I:i<rl:=N;have⟨_,rt,_,g1,g5,hrt,_⟩:=h3 i I;have⟨r,o,e1,hr,hcl,_⟩:=W.1.idx (c:=Y) N I;refine G.qF<|dA e1<|bM ?_;refine G.CO (hcl 1 _ N g1) hr<|iI (λ_=>?_) λ_=>?_
 .exact dA (lu 1 O N)<|⟨z-1,N,_,_,_,_,_,_,_,O,i+1,ae,gb,O,N,y,N,G⟩
 apply G.jC;refine G.cm (akq G.wf (hg.ex G.ext) I) ?_;rintro v H3 ⟨k,rfl,hk⟩ M G;refine PO 3 5 6 7 (h1:=λz P x5 x6 x7 Q=>∃k ae gb,x5=B k/\k+z=4001/\OY P ae gb/\ae<=4001*i+k/\SH [] H Q (gb++[(rb,32,lg ra rl Y na m V ta n tc p 0 pg)])) ?_ (4001-k) ⟨k,ae,gb,rfl,N,y,N,G⟩;clear G y U hk;rintro z2 P x5 x6 x7 E H4 ⟨k,ae,gb,rfl,aE,y,U,G⟩;refine tm ?_;refine dA e1<|bM ?_;refine G.CO (hcl 5 _ N g5) hr ?_;refine G.lJ ?_;refine nN (λc=>?_) λc=>?_
 .refine tl ?_;refine dA (lu 1 O N) ?_;exact⟨z-1,N,_,_,_,_,_,_,_,O,i+1,ae,gb,O,N,y,N,G⟩
 have ag:k<m:=N;have⟨kd,a,ks,kc,t,sa,sn,sc,at',hkx,_⟩:=h6 k ag;have⟨r5,o5,e5,hr5,aaL,_⟩:=h5.1.idx (c:=V) N ag
 have al:jA[k*5+0]?=Z (vi kd):=by
  have:=fq (λl=>l[0]?) hkx;simp only[oL]at this;simpa using this
 have ac:jA[k*5+2]?=Z (aJ t):=by
  have:=fq (λl=>l[2]?) hkx;simp only[oL]at this;simpa using this
 refine G.qF<|dA e5<|bM ?_;refine G.CO (aaL 0 _ N al) hr5 ?_;refine bM ?_;refine lp2 6 7 (h1:=λz x6 x7 Q=>∃b j,x6=aR b/\x7=B j/\j+z=ae/\Q=H4) ?_ ae ⟨_,0,rfl,rfl,N,rfl⟩;rintro z4 x6 x7 E H5 ⟨b,j,rfl,rfl,aq,rfl⟩;have⟨f,hg3,hl3,hr3⟩:=id y;obtain⟨ga,gn,gc,rfl,ap,am⟩:=hg3.KF (ay:=TT) G λ_ _=>trivial;obtain rfl:gn=ae:=N;refine tQ (λc4=>?_) λc4=>?_
 .cases b;rotate_left
  .refine bM ?_;exact ji O<|dA (lu 1 O N)<|⟨z4-1,N,_,_,_,_,O,_,j+1,O,O,N,O⟩
  have ad:j<gn:=N;have⟨r6,o6,e6,hr6,ao8,_⟩:=am.1.idx (c:=gc) N ad;have⟨t6,ht6⟩:=hr3 j ad;refine bM ?_;refine dA e6<|bM ?_;refine iY (ao8 0 _ N ht6) ?_;simp only[iT G.wf];refine fJ ?_;refine dA e5<|bM ?_;refine iY (H:=hN H5) ((nU (G.ext.obj r5 hr5 nofun) _).trans<|aaL 2 _ N ac) ?_;simp only[iT G.wf,PP];refine ji (by simp only[fu];rfl) ?_;exact dA (lu 1 O N)<|⟨z4-1,N,_,_,_,_,O,_,j+1,O,O,N,O⟩
 refine tl ?_;cases b;rotate_left
 .refine bM ?_;refine tl ?_;refine dA (lu 1 O N) ?_;exact⟨z2-1,N,_,_,_,_,_,_,O,k+1,gn,gb,O,N,y,N,G⟩
 refine bM ?_;refine(show∀{a b:Prop},a->yU (Z !aA) a b fromλh=>h)<|G.qF<|dA e5<|bM ?_;refine iY ((nU (G.ext.obj r5 hr5 nofun) _).trans<|aaL 2 _ N ac)<|PU.b4 O<|y.push N G λq v' H6 iN y G=>?_;refine bM ?_;refine tl ?_;refine dA (lu 1 O N) ?_;exact⟨z2-1,N,_,_,_,_,_,_,O,k+1,gn+1,iN,O,N,y,N,G⟩
end
section
variable{ay:Nat->Prop}
abbrev LgV(v:D):Prop:=rJ v=F/\∃l,v=dP ⟨l⟩/\bY v=l/\J l=9/\all' fZ l=F
theorem yOf(P:Wf H)(I:GR ai ay H g m rl):bQ Pg X 44 [g] H (Q1 (λv _=>LgV v) H):=by
 obtain⟨ra,rc,rcs,na,nc,jA,ta,n,tc,p,pg,rfl,W,h3,h4,h5,h6,h7⟩:=id I;have G:=h_ P;refine lq [0,1,2] ?_;refine G.box O λH1 rb G=>?_;refine G.jP λj rz G=>?_;refine fJ ?_;refine dD (akr (oU j) (show GR ai ay (hN j) _ m rl from(I.ex G.ext:GR ai ay j _ m rl))) ?_;rintro v B ⟨⟨ya,yn,yc,rfl⟩,o⟩;have G:=G.oI o;refine fJ ?_;refine dD (akp (oU<|hM j B) (show GR ai ay (hN<|hM j B) _ m rl from(I.ex G.ext:GR ai ay (hM j B) _ m rl))) ?_;rintro v U ⟨⟨hx,ea,ec,sa,sc,be,bs,rfl,_⟩,y⟩;have G:=G.oI y;refine fJ ?_;refine G.n_ λV G=>?_;have T:=G.nq 0 1 O O N;refine(show∀K:Prop,K->_/\K fromλY M=>?_) _ ?_
 .simp only[fu,gT,gJ o,gJ y];apply mO (a:=rz) (b:=rb) T yB fT fT M
 refine rr ?_;exact G.uL 0 O (ax 9)<|⟨⟨O,_,O,O,O,O⟩,G.ext⟩
end
end Go.Proofs.Lu
