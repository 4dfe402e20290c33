/-
  Part 10 of the proof. No condition.
-/
import Derived.Test.YtpngmpbmokhmiaaGreatDoorZ09
set_option linter.unusedVariables false
set_option linter.unusedSimpArgs false
set_option maxRecDepth 100000
set_option maxHeartbeats 4000000
set_option linter.defProp false
open Option renaming some->Z,none->T
open Bool renaming true->f,false->aA
open Go renaming Value->C,TypeId->aI,Program->aX,Operand->cz
open Go.Value renaming int->a_,slice->J,bool->aO,string->aJ,pointer->bG,tuple->fJ,agg->dN
open List renaming length->u,replicate->aY
open Nat renaming ble->aD,add->bq,mul->bP
open UInt8 renaming ofNat->jP
open And renaming intro->iZ
open Go.IntKind renaming u8->dz,i64->bC,wrap->oJ
noncomputable section
namespace Go.Proofs.Lu
open Go.Ae Go.Ae.hx
variable{L gb:D eF}{F' R':Nat->Prop}{H Q H0 H1:R}{hx ae b d ec en es i k k0 m m0 n p p0 q r r3 rb rl rz:Nat}{Kp:C->C->R->Prop}{c ch e:Int}{aa:Nat->Bool}{a ea:aC Addr}{g v w x x0 x4 x5 x6:C}{ar F gl l:D C}{s t:aZ}{be bs:D Bool}{ty:aI}{E:Rs}{A z:Prop}{K Km:C->R->Prop}
abbrev u8v(n:Nat):C:=a_ dz (n:Int)
def Xg:∀(l:D Nat),(∀x∈l,x<256)->uh (l.map u8v)=Z (l.map jP):=by
 intro l
 induction l with
 |nil=>intro _;rfl
 |cons x l o=>
  intro h;have M:=h x<|aK ..
  show(aN (LJ<|.ofNat x) λn=>gd (Kv dz&&aD n 255)<|aN (uh<|l.map u8v) λbs=>Z<|jP n::bs)=_;rw[o λy j=>h y<|bJ _ j];show gd (aD x 255) (Z<|jP x::l.map jP)=_;rw[aH N,Bh];rfl
theorem strOf{l:D Nat}(hl:∀n∈l,n<256)(M:0<u l)(G:SH [] H0 H L){Kp:C->Prop}(k:∀t:aZ,t.size=u l->SH [] H0 (H.new<|rowOf 5<|l.map u8v) L->Km (aJ t) (H.new<|rowOf 5<|l.map u8v)):
 CV (DY Pg 271 9<|J (Z ⟨H.bV,0,T⟩) (u l)<|u l) (wo Pg 271 9 (J (Z ⟨H.bV,0,T⟩) (u l)<|u l)<|H.new<|rowOf 5<|l.map u8v) Kp Km:=by
 have j:=G.grow 5<|l.map u8v;have y:Bk (H.new<|rowOf 5<|l.map u8v) H.bV 5 (l.map u8v):=j.get 0 O;have I:=y.read (o:=0) (n:=u l) gB;have B:wo Pg 271 9 (J (Z ⟨H.bV,0,T⟩) (u l)<|u l) (H.new<|rowOf 5<|l.map u8v)=aN ((H.new<|rowOf 5<|l.map u8v).read H.bV 0<|u l) λz=>aN (uh z) λbs=>Z (aJ ⟨⟨bs⟩⟩,H.new<|rowOf 5<|l.map u8v):=fQ;refine CV.me fQ (v:=aJ ⟨⟨l.map jP⟩⟩) (H1:=H.new<|rowOf 5<|l.map u8v) ?_<|k _ (by show u (l.map jP)=_;simp)<|fV (A:=[_]) j;rw[B,I,jQ,dV gB];show(aN (uh<|l.map u8v) λbs=>Z (aJ ⟨⟨bs⟩⟩,_))=_;rw[Xg l hl];rfl
def aeO{a b:Int}{h2:Prop}(I:a<b->A)(B:¬a<b->h2):yN (Z<|decide<|a<b) A h2:=aV I B
def FW(h:n<256):p_ dz (n:Int)=(n:Int):=by
 show oJ dz (n:Int)=(n:Int);simp[oJ,IntKind.bits,IntKind.signed];omega
theorem aeP(Y:Wf H)(r:Nat)(hr:r<2147483648):bM Pg X 135 [W r] H (Q1 (λv _=>∃t,v=aJ t/\t.size<=4) H):=by
 have G:=gM Y;refine ce [0,2] ?_;refine tK (λI=>?_) λI=>?_
 .exact N
 refine aV (λB=>?_) λB=>?_
 .refine rr ?_;refine⟨⟨_,O,?_⟩,G.ext⟩;exact bD _
 have j:∀E,iC Pg X (sub Cq [1,1]) (BQ (W r) (aJ ⟨#[]⟩) E H) (jO Pg [.tmp 2]<|Q1 (λv _=>∃t,v=aJ t/\t.size<=4) H):=by
  intro E;have V:r<1114112:=N;refine tK (λM=>?_) λM=>?_
  .rw[FW N];refine ME.of aib ?_;refine strOf (l:=[r]) (by intro n o;simp at o;omega) gB G λt y G=>?_;refine rr ?_;refine⟨⟨t,O,?_⟩,G.ext⟩;rw[y];exact aF O
  refine aV (λP=>?_) λP=>?_
  .refine dA (NR 64 N jg N)<|dA (addN 192 N N)<|bN ?_;refine dA (sw 64 N jg N)<|dA (addN 128 N N)<|bN ?_;rw[FW N,FW N];refine ME.of aic<|strOf (l:=[192+r/64,128+r %64]) (by intro n o;simp at o;omega) gB G λt y G=>?_;refine rr ?_;refine⟨⟨t,O,?_⟩,G.ext⟩;rw[y];exact aF O
  with_reducible refine aeO (λg3=>?_) λg3=>?_
  .refine dA (NR 4096 N jg N)<|dA (addN 224 N N)<|bN ?_;refine dA (NR 64 N jg N)<|dA (sw 64 N jg N)<|dA (addN 128 N N)<|bN ?_;refine dA (sw 64 N jg N)<|dA (addN 128 N N)<|bN ?_;rw[FW N,FW N,FW N];refine ME.of adt ?_;refine strOf (l:=[224+r/4096,128+r/64 %64,128+r %64]) (by intro n o;simp at o;omega) gB G λt y G=>?_;refine rr ?_;refine⟨⟨t,O,?_⟩,G.ext⟩;rw[y];exact aF O
  .refine dA (NR 262144 N jg N)<|dA (addN 240 N N)<|bN ?_;refine dA (NR 4096 N jg N)<|dA (sw 64 N jg N)<|dA (addN 128 N N)<|bN ?_;refine dA (NR 64 N jg N)<|dA (sw 64 N jg N)<|dA (addN 128 N N)<|bN ?_;refine dA (sw 64 N jg N)<|dA (addN 128 N N) ?_;refine bN ?_;rw[FW N,FW N,FW N,FW N];refine ME.of aid ?_;refine strOf (l:=[240+r/262144,128+r/4096 %64,128+r/64 %64,128+r %64]) (by intro n o;simp at o;omega) gB G λt y G=>?_;refine rr ?_;refine⟨⟨t,O,?_⟩,G.ext⟩;rw[y];exact aF O
 refine aV (λT=>?_) λT=>?_
 .refine aV (λU=>?_) (λU=>?_)
  .refine rr ?_;refine⟨⟨_,O,?_⟩,G.ext⟩;exact bD _
  .exact j _
 .exact j _
def wrapN(h:n<=9223372036854775807):p_ bC (n:Int)=(n:Int):=yO N N
def SgV(m:Nat)(v:C):Prop:=∃(r:Int)(n:Nat),v=fJ ⟨[vi r,W n]⟩/\(r=-1/\n=1\/0<=r/\r<134217728/\1<=n/\n<=m)
theorem aeQ(hw:Wf H)(s:aZ)(k:Nat)(hk:k<s.size)(hs:s.size<=1000000000):bM Pg X 133 [aJ s,W k] H (Q1 (λv _=>SgV (s.size-k) v) H):=by
 refine lF [0,1,4,5,6,7,8,9] ?_;refine lp6 4 5 6 7 8 9 (h1:=λn x4 x5 x6 x7 o y Q=>SH [] H Q []/\∃j:Nat,x6=W j/\1<=j/\n+j=5) ?_ 4 ⟨gM hw,1,rfl,N,N⟩;rintro n x4 x5 x6 x7 o y E H1 ⟨G,j,rfl,I,ad⟩;refine mG (λT=>?_) λT=>?_
 .refine tl ?_;refine rr ?_;exact⟨⟨_,_,O,.inl ⟨O,O⟩⟩,G.ext⟩
 rw[qP N N];refine MQ (λV=>?_) λV=>?_
 .refine tl ?_;refine rr ?_;exact⟨⟨_,_,O,.inl ⟨O,O⟩⟩,G.ext⟩
 refine tl ?_;refine dA (k_ j O N) ?_;rw[Ej N N];refine bN ?_;have hp:=rR s (lo:=k) (hi:=k+j) N N;have⟨c,e0⟩:=Im (s:=Go.Ae.part s k<|k+j) (z:=0) 0 O N;have Y:=c.toNat_lt;generalize c.toNat=c0 at e0 Y;simp only[e0];refine bN ?_;rw[wrapN N];have U:j<=4:=N
 repeat' (first
  |(refine bN ?_)
  |(with_reducible refine aV (λe=>?_) λe=>?_)
  |(refine dA (sw 32 O jg N) ?_)
  |(refine dA (sw 16 O jg N) ?_)
  |(refine dA (sw 8 O jg N) ?_)
  |(refine tl ?_))
 all_goals first|(exfalso;omega)|skip
 all_goals
  refine lp2 8 9 (h1:=λm o y Q=>Q=H1/\∃i z:Nat,i+1+m=j/\o=W z/\z<256*64^i/\y=W (i+1)) ?_ (j-1) ⟨rfl,0,_,N,rfl,N,rfl⟩;rintro m o y E P ⟨rfl,i,z,ac,rfl,hz,rfl⟩;refine tl ?_
  try simp only[PP,Nat.reduceBEq]
  have al:z<134217728:=by
   have B:64^i<=64^3:=lW jg N;omega
  refine aV (λe=>?_) λe=>?_
  .refine dA (mulN 64 O N) ?_;have⟨d,e1⟩:=Im (s:=Go.Ae.part s k<|k+j) (z:=((i+1:Nat):Int)) (i+1) O N;have hd:=d.toNat_lt;generalize d.toNat=d0 at e1 hd;simp only[e1]
   try simp only[PP,Nat.reduceBEq]
   rw[wrapN N];refine dA (sw 64 O jg N) ?_;refine dA (k_ _ O N) ?_;refine dA (k_ 1 O N) ?_;exact⟨m-1,N,_,_,_,_,O,O,i+1,_,N,O,by rw[Nat.pow_succ];omega,rfl⟩
  .have ab:i=j-1:=N;refine tl ?_;refine G.cm (aeP G.wf _ N) ?_;rintro v P ⟨t,rfl,ht⟩ M G
   try simp only[PP,Nat.reduceBEq]
   refine aV (λg=>?_) λg=>?_
   .refine rr ?_;exact⟨⟨_,_,O,.inr ⟨N,N,I,N⟩⟩,G.ext⟩
   .refine tl ?_;refine dA (k_ 1 O N) ?_
    try simp only[PP,Nat.reduceBEq]
    exact⟨n-1,N,_,_,_,_,_,_,_,_,O,G,j+1,O,N,N⟩
def w8{z:Int}(h:0<=z/\z<256):p_ dz z=z:=Eo (by simp[oJ,IntKind.bits,IntKind.signed];omega)
def Zd(c:Int):bM Pg X 100 [a_ dz c] H (Q0 isB H):=by
 refine lF [0,2] ?_
 repeat' (first|(refine bN ?_)|(refine aV (λj=>?_) λj=>?_)|(refine rr ?_))
 all_goals exact⟨⟨_,O⟩,O⟩
theorem anb(c:Int):bM Pg X 101 [a_ dz c] H (Q0 isB H):=by
 refine lF [0,2] ?_
 repeat' (first|(refine bN ?_)|((refine dn (Zd _) ?_;rintro v Q ⟨⟨b,rfl⟩,rfl⟩))|(refine ig (λj=>?_) λj=>?_)|(refine rr ?_))
 all_goals exact⟨⟨_,O⟩,O⟩
def dgv(c:Nat):Int:=if 48<=c/\c<=57 then(c:Int)-48 else if 97<=c/\c<=102 then(c:Int)-97+10 else if 65<=c/\c<=70 then(c:Int)-65+10 else -1
def anc(c:Nat):-1<=dgv c/\dgv c<16:=by unfold dgv;split<;>(try split)<;>(try split)<;>omega
def aeR(c:Nat)(j:c<256):bM Pg X 163 [a_ dz (c:Int)] H (Q0 (λv=>v=vi (dgv c)) H):=by
 refine lF [0,2] ?_
 repeat' (first|(refine bN ?_)|(refine aV (λj=>?_) λj=>?_)|(refine tl ?_)|(refine rr ?_))
 all_goals first|(exfalso;omega)|skip
 all_goals try rw[w8 N,yO N N]
 all_goals try
  rw[gm N N];simp only[PP];refine rr ?_
 all_goals
  refine⟨?_,O⟩;unfold dgv
  first
   |(rw[jj N];done)
   |(rw[jx N,jj N];done)
   |(rw[jx N,jx N,jj N];done)
   |(rw[jx N,jx N,jx N];done)
def ane(c:Int):bM Pg X 104 [a_ dz c] H (Q0 (λv=>∃k:Nat,v=W k/\k<=14) H):=by
 refine lF [0,2,3,4] ?_;refine VX 4 (h1:=λm x4 Q=>Q=H/\∃i,x4=W i/\i+m=10) ?_ 10 ⟨rfl,0,rfl,rfl⟩;rintro m x4 E Q ⟨rfl,i,rfl,y⟩;refine tK (λj=>?_) λj=>?_
 .have o:i<10:=by have:((i:Nat):Int)<10:=j;omega
  have⟨d,e⟩:=wX (s:=⟨#[58,124,59,40,41,63,42,43,46,126]⟩) (k:=i) o;rw[e];refine tJ (λe=>?_) λe=>?_
  .refine dA (addN 5 O N) ?_;refine rr ?_;exact⟨⟨_,O,N⟩,O⟩
  .exact dA (k_ 1 O N)<|⟨m-1,N,_,_,_,O,O,i+1,O,N⟩
 .refine tl<|rr ?_;exact⟨⟨0,O,N⟩,O⟩
def aeS(s:aZ)(hs:s.size<=1000000)(h:k0<=s.size):bM Pg X 99 [aJ s,W k0] H (Q0 (λv=>∃b:Nat,v=W b/\k0<=b/\b<=s.size) H):=by
 refine lF [0,1,4] ?_;refine lp2 1 4 (h1:=λm o x4 Q=>Q=H/\∃k,o=W k/\k0<=k/\k+m=s.size) ?_ (s.size-k0) ⟨rfl,k0,rfl,ax _,N⟩;rintro m o x4 E Q ⟨rfl,k,rfl,y,hm⟩;refine mG (λV=>?_) λV=>?_
 .refine tl ?_;refine rr ?_;exact⟨⟨_,O,y,N⟩,O⟩
 have I:k<s.size:=N;have⟨c,e⟩:=wX I;rw[e];refine tJ (λ_=>?_) λ_=>?_
 .refine dA (k_ 1 O N) ?_;exact⟨m-1,N,_,_,_,_,O,O,k+1,O,N,N⟩
 refine aV (λ_=>?_) λ_=>?_
 .refine dA (k_ 1 O N) ?_;exact⟨m-1,N,_,_,_,_,O,O,k+1,O,N,N⟩
 refine aV (λ_=>?_) λ_=>?_
 .refine dA (k_ 1 O N) ?_;exact⟨m-1,N,_,_,_,_,O,O,k+1,O,N,N⟩
 refine aV (λ_=>?_) λ_=>?_
 .refine dA (k_ 1 O N) ?_;exact⟨m-1,N,_,_,_,_,O,O,k+1,O,N,N⟩
 refine tl ?_;rw[e];refine yl (λ_=>?_) λU=>?_
 .refine rr ?_;exact⟨⟨_,O,y,N⟩,O⟩
 refine dA (k_ 1 O N) ?_;refine tJ (λ_=>?_) λB=>?_
 .refine rr ?_;exact⟨⟨_,O,y,N⟩,O⟩
 refine dA (k_ 1 O N) ?_;have⟨d,e2⟩:=wX (s:=s) (k:=k+1) N;rw[e2];refine yl (λ_=>?_) λ_=>?_
 .refine rr ?_;exact⟨⟨_,O,y,N⟩,O⟩
 refine tl ?_;refine VX 1 (h1:=λn o M=>M=Q/\∃j,o=W j/\j+n=s.size/\k<=j) ?_ m ⟨rfl,k,rfl,N,ax _⟩;rintro n o E M ⟨rfl,j,rfl,Y,ab⟩;refine tK (λP=>?_) λP=>?_
 .have⟨c2,e3⟩:=wX (s:=s) (k:=j) N;rw[e3];refine yl (λT=>?_) λT=>?_
  .exact dA (k_ 1 O N)<|⟨n-1,N,_,_,_,O,O,j+1,O,N,N⟩
  .have ac:j≠k:=λh=>by
    subst h;rw[e]at e3;injection e3 with e3
    injection e3 with _ e3
    omega
   exact⟨s.size-j,N,_,_,_,_,O,O,j,O,N,N⟩
 .exact⟨s.size-j,N,_,_,_,_,O,O,j,O,N,N⟩
def EsV(m:Nat)(v:C):Prop:=∃(r:Int)(n:Nat),v=fJ ⟨[vi r,W n]⟩/\(r=-1/\n=0\/0<=r/\r<134217728/\1<=n/\n<=m)
theorem Ze(hw:Wf H)(s:aZ)(hs:s.size<=1000000):bM Pg X 134 [aJ s] H (Q1 (λv _=>EsV s.size v) H):=by
 have G:=gM hw;refine ce [0,2,3,4,5,9] ?_;refine tK (λe=>?_) λV=>?_
 .refine rr ?_;exact⟨⟨_,_,O,.inl ⟨O,O⟩⟩,G.ext⟩
 have y:0<s.size:=by
  rcases gX s.size with h|h
  .exact absurd (by
    have⟨⟨l⟩⟩:=s;have:l=[]:=eP.1 h;subst this;rfl) V
  .exact h
 have⟨c,e0⟩:=Im (s:=s) (z:=0) 0 O y;have B:=c.toNat_lt;generalize c.toNat=I at e0 B;rw[e0];refine tJ (λ_=>?_) λ_=>?_
 .refine rr ?_;exact⟨⟨_,_,O,.inr ⟨jg,jg,jg,y⟩⟩,G.ext⟩
 refine aV (λ_=>?_) λ_=>?_
 .refine rr ?_;exact⟨⟨_,_,O,.inr ⟨jg,jg,jg,y⟩⟩,G.ext⟩
 refine aV (λ_=>?_) λ_=>?_
 .refine rr ?_;exact⟨⟨_,_,O,.inr ⟨jg,jg,jg,y⟩⟩,G.ext⟩
 have no:∀{x4 x5 E},iC Pg X (sub nZ [1,1,1]) (sO (aJ s) (vi 0) (vi 0) x4 x5 (a_ dz (I:Int)) E H) (jO Pg [.tmp 2,.tmp 3]<|Q1 (λv _=>EsV s.size v) H):=by
  intro x4 x5 E;refine tl<|rr ?_;exact⟨⟨_,_,O,.inl ⟨O,O⟩⟩,G.ext⟩
 have two:∀(b:Bool) E,Ci E 16=aO b->iC Pg X (sub nZ [1,1,0,1,0,1,1,1,1,1,1,1]) (sO (aJ s) (vi 0) (vi 0) top top (a_ dz (I:Int)) E H) (uk 0<|uQ Pg X (sub nZ [1,1,1])<|jO Pg [.tmp 2,.tmp 3]<|Q1 (λv _=>EsV s.size v) H):=by
  intro b E U;refine tl ?_;rw[U];refine sD (λ_=>?_) λ_=>?_
  .rw[e0];refine bN ?_;rw[yO N N];refine rr ?_;exact⟨⟨_,_,O,.inr ⟨N,N,jg,y⟩⟩,G.ext⟩
  refine aV (λ_=>?_) λ_=>no;refine lp2 4 5 (h1:=λm x4 x5 Q=>Q=H/\∃v i:Nat,x4=W v/\x5=W (i+2)/\i+m=6/\v<16^i) ?_ 6 ⟨rfl,0,0,rfl,rfl,rfl,jg⟩;rintro m x4 x5 am Q ⟨rfl,v,i,rfl,rfl,al,hv⟩;have ac:16^i<=16^6:=lW jg N;have ab:(16:Nat)^6=16777216:=jg
  have o:∀E,iC Pg X (sub nZ [1,1,0,1,0,1,1,1,1,1,1,1,1,1,0,1,1]) (sO (aJ s) (vi 0) (vi 0) (W v) (W<|i+2) (a_ dz (I:Int)) E Q) (uk 0<|uQ Pg X (sub nZ [1,1,1])<|jO Pg [.tmp 2,.tmp 3]<|Q1 (λv _=>EsV s.size v) Q):=by
   intro E;refine tp ?_;have j:EsV s.size (fJ ⟨[vi (-1),W 0]⟩):=⟨_,_,O,.inl ⟨O,O⟩⟩;refine aV (λ_=>?_) λg1=>?_
   .refine rr ?_;exact⟨j,G.ext⟩
   have⟨d,e1⟩:=Im (s:=s) (z:=1) 1 O N;rw[e1];refine yl (λ_=>?_) λ_=>?_
   .refine rr ?_;exact⟨j,G.ext⟩
   refine aV (λ_=>?_) λ_=>?_
   .refine rr ?_;exact⟨j,G.ext⟩
   refine aV (λ_=>?_) λg2=>?_
   .refine rr ?_;exact⟨j,G.ext⟩
   have⟨d',e2⟩:=wX (s:=s) (k:=i+2) N;rw[e2];refine yl (λ_=>?_) λ_=>?_
   .refine rr ?_;exact⟨j,G.ext⟩
   refine dn (aeP G.wf v N) ?_;rintro _ H1 ⟨⟨t,rfl,_⟩,M⟩;refine tJ (λ_=>?_) λ_=>?_
   .refine rr ?_;exact⟨j,M⟩
   refine tl ?_;refine dA (k_ 1 O N)<|bN ?_;refine rr ?_;exact⟨⟨_,_,O,.inr ⟨N,N,N,N⟩⟩,M⟩
  refine tp ?_;refine aV (λB=>?_) λB=>o _;refine aV (λhd=>?_) λB=>o _;have⟨d,eb⟩:=wX (s:=s) (k:=i+2) N;have T:=d.toNat_lt;generalize d.toNat=P at eb T;have ad:=anc P;rw[eb];refine bN ?_;refine dn (aeR _ N) ?_;rintro w Q ⟨rfl,rfl⟩;refine bN ?_;refine aV (λhz=>?_) λ_=>o _;obtain⟨g,hg⟩:∃g:Nat,dgv P=g:=⟨(dgv P).toNat,N⟩;have hp:16^(i+1)=16^i*16:=Nat.pow_succ ..
  refine tl ?_;refine dA (mulN 16 O N) ?_;rw[eb];refine bN ?_;refine dn (aeR _ N) ?_;rintro w Q ⟨rfl,rfl⟩;rw[hg];exact dA (addN (16*v) O N)<|dA (k_ 1 O N)<|⟨m-1,N,_,_,_,_,O,O,16*v+g,i+1,O,by rw[show i+2+1=i+1+2 by omega],N,N⟩
 refine aV (λY=>two f _ (by rw[bY Y];rfl)) λY=>?_;refine aV (λd2=>two f _ (by rw[bY d2];rfl)) λd2=>?_;refine aV (λd3=>two f _ (by rw[bY d3];rfl)) λd3=>?_;refine aV (λd4=>two f _ (by rw[bY d4];rfl)) λd4=>?_;exact two _ _ O
def P8(h:k<=s.size):slT (aJ s) (Z<|W k) T T=Z (aJ<|Go.Ae.part s k s.size):=Cm h
def anf(j:Wf H)(s:aZ)(hs:s.size<=1000000)(hk:k<s.size):bM Pg X 164 [aJ s,W k] H (Q1 (λv _=>∃r n e:Int,v=fJ ⟨[vi r,vi n,vi e]⟩/\(e=0->0<=r/\r<134217728/\1<=n/\k+n<=s.size)) H):=by
 have G:=gM j;refine lF [0,1,4,5,6,7,8] ?_;refine G.cm (aeQ j s k hk N) ?_;rintro _ H1 ⟨r,n,rfl,y⟩ M G;refine tJ (λ_=>?_) λV=>?_
 .refine rr ?_;exact⟨⟨_,_,_,O,λh=>absurd h jg⟩,G.ext⟩
 have⟨I,B,h3,h4⟩:=y.resolve_left N;refine eU (λ_=>?_) λ_=>?_
 .refine rr ?_;exact⟨⟨_,_,_,O,λ_=>⟨I,B,N,N⟩⟩,G.ext⟩
 refine dA (k_ 1 O N) ?_;rw[P8 N];refine bN ?_;have Y:=rR s (lo:=k+1) (hi:=s.size) N N;refine G.cm (Ze G.wf _ N) ?_;rintro _ T ⟨q,m,rfl,o⟩ P G;refine tJ (λ_=>?_) λU=>?_
 .refine rr ?_;exact⟨⟨_,_,_,O,λh=>absurd h jg⟩,G.ext⟩
 have⟨g1,g2,g3,g4⟩:=o.resolve_left N;refine dA (k_ 1 O N)<|rr ?_;exact⟨⟨_,_,_,O,λ_=>⟨g1,g2,N,N⟩⟩,G.ext⟩
abbrev TT:Nat->Prop:=λ_=>True
def xA(cs:Nat->Prop)(H:R)(v:C):Prop:=∃(a:aC Addr)(n c:Nat)(j:D Nat),v=J a n c/\jC cs 275 H a n 2 (gq j)/\n<=1000000/\(∀z∈j,z<134217728)/\∀y,a=Z y->y.spot=T
def _root_.Go.Ae.GB.sp{c:Nat}(h:GB ty es (J a n c) F gb):∀y,a=Z y->y.spot=T:=λy e=>by
 subst e;rcases h with⟨h,_⟩|⟨r,n,j,h,_⟩<;>cases h;rfl
def xA.nil(cs:Nat->Prop)(H:R):xA cs H (J T 0 0):=⟨T,0,0,[],O,jC.nil _ _ _ _ _,N,(λz h=>by cases h),λy h=>by cases h⟩
def ang(hw:Wf H)(s:aZ)(hs:s.size<=1000000):bM Pg X 136 [aJ s] H (Q1 (λv Q=>∃(x:C)(e w:Int),v=fJ ⟨[x,vi e,vi w]⟩/\xA TT Q x/\0<=w/\w<=2000000) H):=by
 refine ce [0,2,3,4,5,6,7,8,9,10,11,12,13,14] ?_;refine tK (λe=>?_) λ_=>?_
 .refine rr ?_;exact⟨⟨_,_,_,O,xA.nil _ _,N,N⟩,(gM hw).ext⟩
 refine ajl 5 6 7 8 9 10 11 12 13 14 (h1:=λm x5 x6 x7 x8 x9 jW jh mQ Y vE Q=>∃k o gb,x6=W k/\k+m=s.size/\GB 275 2 x5 (gq o) gb/\SH [] H Q gb/\(∀z∈o,z<134217728)/\u o<=2*k) ?_ s.size ⟨0,[],[],rfl,N,GB.nil _ _,gM hw,λz h=>(nomatch h),ax _⟩;rintro m x5 x6 x7 x8 x9 jW jh mQ Y vE E H1 ⟨k,o,gb,rfl,ad,hg,G,hz,al⟩;refine iC.yw λK U=>?_;refine mG (λhc=>?_) λhc=>?_
 .rw[U];refine tl<|rr ?_;obtain⟨a,n,c,rfl,hn,hf⟩:=hg.KE (cs:=TT) (G.cast (bF gb).symm) λ_ _=>trivial;exact⟨⟨_,_,_,O,⟨a,n,c,o,O,hf,by rw[aM]at hn;omega,hz,hg.sp⟩,N,N⟩,G.ext⟩
 refine G.cm (anf G.wf s hs N) ?_;rintro v H2 ⟨r,n,e,rfl,hr⟩ M G;refine yl (λc=>?_) λc=>?_
 .rw[U];refine bN ?_;refine rr ?_;exact⟨⟨_,_,_,O,xA.nil _ _,N,N⟩,G.ext⟩
 have⟨g1,g2,g3,g4⟩:=hr c;obtain⟨r,rfl⟩:∃r':Nat,r=r':=⟨r.toNat,N⟩;obtain⟨n,rfl⟩:∃n':Nat,n=n':=⟨n.toNat,N⟩;refine dA (addN k O N)<|dA (k_ 1 O N)<|bN ?_
 have j:∀(y P:Nat),k<P->P<=s.size->y<134217728->∀{V}(G:SH [] H V gb){x8 x9 jh mQ Y vE:C}{E},iC Pg X (sub DJ [1,1,1,0,1,0,0,1,0,1,1,1,1,1]) (Di (aJ s) (J T 0 0) (vi 0) (vi 0) x5 (W P) (W r) x8 x9 (W y) jh mQ Y vE E V) (uk 1 K):=by
  intro y P I B h4 V G x8 x9 jh mQ Y vE E;refine tl<|PU.b2 O<|hg.push (G.cast (bF gb).symm) N O O O O O N (by rw[aM];omega) λw v' H4 iX ab G=>?_;refine bN ?_;rw[U];refine⟨s.size-P,N,_,_,_,_,_,_,_,_,_,_,_,_,O,P,o++[r,y],iX,O,N,by rw[show gq (o++[r,y])=gq o++[W r,W y]from dK];exact ab,G.cast<|bF iX,λz ac=>?_,by simp;omega⟩;rcases cB.1 ac with h|h
  .exact hz z h
  .simp at h;omega
 refine nO (λc1=>?_) λc1=>?_
 .refine tp ?_;exact j r (k+n) N N N G
 have⟨d,ed⟩:=wX (s:=s) (k:=k+n) N;rw[ed];refine bN ?_;refine tl<|aV (λ_=>?_) λ_=>?_;rotate_left
 .refine bN ?_;exact j r (k+n) N N N G
 refine dA (k_ 1 O N)<|dn (anf G.wf s hs N) ?_;rintro v V ⟨⟨q,m',e,rfl,hr⟩,M⟩;have G:=G.call M;refine yl (λc=>?_) λc=>?_
 .refine dA (k_ 1 O N) ?_;rw[U];refine bN ?_;refine rr ?_;exact⟨⟨_,_,_,O,xA.nil _ _,N,N⟩,G.ext⟩
 have⟨f1,f2,f3,f4⟩:=hr c;obtain⟨q,rfl⟩:∃r':Nat,q=r':=⟨q.toNat,N⟩;obtain⟨m',rfl⟩:∃n':Nat,m'=n':=⟨m'.toNat,N⟩;refine aV (λ_=>?_) λ_=>?_
 .rw[U];refine bN ?_;refine rr ?_;exact⟨⟨_,_,_,O,xA.nil _ _,N,N⟩,G.ext⟩
 exact dA (k_ 1 O N)<|dA (addN (k+n+1) O N)<|j q (k+n+1+m') N N N G
abbrev cat'(a b:aZ):aZ:=⟨⟨app a.data.toList b.data.toList⟩⟩
def aeT(a b:aZ):(cat' a b).size=a.size+b.size:=by
 show u (app a.data.toList b.data.toList)=_;rw[uH,aU];rfl
def aaQ{P:aX}{t:aI}{ox oy:cz}{a b:aZ}(h:a.size+b.size<=4611686018427387904):mW P .add t ox oy (aJ a) (aJ b)=Z (aJ<|cat' a b):=by
 show gd (aD (bq (len a.data.toList)<|len b.data.toList) 4611686018427387904) (Z<|aJ ⟨⟨app a.data.toList b.data.toList⟩⟩)=_;rw[h_,h_,aH (show bq (u a.data.toList) (u b.data.toList)<=_ from h)];rfl
def aeU(hw:Wf H)(s:aZ)(hs:s.size<=1000000)(hb:b<s.size):bM Pg X 102 [aJ s,W b] H (Q1 (λv _=>∃(t:aZ)(n e w:Int),v=fJ ⟨[aJ t,vi n,vi e,vi w]⟩/\t.size<=4000000/\(e=0->b<n/\n<=s.size)) H):=by
 refine lF [0,1,4,5,6,7,8,9,10,11,12,13] ?_;refine dA (k_ 1 O N) ?_;refine lp6 8 9 10 11 12 13 (h1:=λm x8 x9 jW jh U T Q=>∃k t,x8=aJ t/\x9=W k/\k+m=s.size/\b<k/\t.size<=4*k/\SH [] H Q []) ?_ (s.size-(b+1)) ⟨b+1,_,rfl,rfl,N,N,bD _,gM hw⟩;rintro m x8 x9 jW jh U T E H1 ⟨k,t,rfl,rfl,ad,ac,ht,G⟩;refine iC.yw λK o=>?_;have y:∀{n e w:Int},e≠0->∃(t:aZ)(Y e' w':Int),(fJ ⟨[aJ ⟨#[]⟩,vi n,vi e,vi w]⟩)=fJ ⟨[aJ t,vi Y,vi e',vi w']⟩/\t.size<=4000000/\(e'=0->b<Y/\Y<=s.size):=λh=>⟨_,_,_,_,rfl,bD _,λh'=>absurd h' h⟩
 have P:∀E,iC Pg X (sub wO [1,1,1,1]) (vS (aJ s) (W b) (aJ ⟨#[]⟩) (vi 0) (vi 0) (vi 0) (aJ t) (W k) jW jh U T E H1) (jO Pg [.tmp 4,.tmp 5,.tmp 6,.tmp 7]<|Q1 (λv _=>∃(t:aZ)(n e w:Int),v=fJ ⟨[aJ t,vi n,vi e,vi w]⟩/\t.size<=4000000/\(e=0->b<n/\n<=s.size)) H):=by
  intro E;refine tK (λ_=>?_) λ_=>?_
  .refine rr ?_;exact⟨y jg,G.ext⟩
  refine aV (λ_=>?_) λ_=>?_
  .refine rr ?_;exact⟨y jg,G.ext⟩
  refine dA (k_ 1 O N)<|rr ?_;exact⟨⟨t,_,_,_,O,N,λ_=>⟨N,N⟩⟩,G.ext⟩
 refine mG (λhc=>?_) λhc=>?_
 .rw[o];refine bN ?_;exact P _
 have⟨c,ec⟩:=wX (s:=s) (k:=k) N;rw[ec];refine yl (λ_=>?_) λ_=>?_;rotate_left
 .rw[o];refine bN ?_;exact P _
 refine tl<|dn (aeQ G.wf s k N N) ?_;rintro _ H2 ⟨⟨r,n,rfl,hr⟩,M⟩;have G:=G.call M;refine tJ (λ_=>?_) λh0=>?_
 .refine tp ?_;rw[o];refine bN ?_;refine rr ?_;exact⟨y jg,G.ext⟩
 have⟨g1,g2,g3,g4⟩:=hr.resolve_left N;obtain⟨r,rfl⟩:∃r':Nat,r=r':=⟨r.toNat,N⟩;refine tl<|aV (λ_=>?_) λ_=>?_
 .rw[o];refine bN ?_;refine rr ?_;exact⟨y jg,G.ext⟩
 refine tl ?_
 have j:∀{r n:Nat}(I:r<134217728)(B:1<=n)(h3:k+n<=s.size){V}(G:SH [] H V []){U T E},iC Pg X (sub wO [1,1,1,0,0,0,1,0,1,1,1]) (vS (aJ s) (W b) (aJ ⟨#[]⟩) (vi 0) (vi 0) (vi 0) (aJ t) (W k) (W r) (W n) U T E V) (uk 1 K):=by
  intro r n I B h3 V G U T E;refine tl<|dn (aeP G.wf r N) ?_;rintro v H4 ⟨⟨t2,rfl,al⟩,M⟩;have G:=G.call M;refine dA (aaQ N)<|dA (addN k O N) ?_;have ab:=aeT t t2;refine bN ?_;rw[o];exact⟨s.size-(k+n),N,_,_,_,_,_,_,_,_,O,k+n,_,O,O,N,N,N,G⟩
 refine bN ?_;refine aV (λ_=>?_) λ_=>j N g3 N G;refine dA (k_ 1 O N) ?_;rw[P8 N];refine bN ?_;have hp:=rR s (lo:=k+1) (hi:=s.size) N N;refine G.cm (Ze G.wf _ N) ?_;rintro _ V ⟨q,Y,rfl,hq⟩ am G;refine tJ (λ_=>?_) λ_=>?_
 .rw[o];refine bN ?_;refine rr ?_;exact⟨y jg,G.ext⟩
 have⟨f1,f2,f3,f4⟩:=hq.resolve_left N;obtain⟨q,rfl⟩:∃r':Nat,q=r':=⟨q.toNat,N⟩;exact dA (k_ 1 O N)<|j N N N G
def akd(P:Wf H)(s:aZ)(hs:s.size<=1000000)(hb:b<s.size):bM Pg X 103 [aJ s,W b] H (Q1 (λv Q=>∃(x:C)(n e w:Int),v=fJ ⟨[x,vi n,vi e,vi w]⟩/\xA TT Q x/\(e=0->b<n/\n<=s.size)) H):=by
 refine lF [0,1,4,5,6,7,8,9,10,11] ?_;refine dA (k_ 1 O N) ?_;refine VX 8 (h1:=λm Y Q=>Q=H/\∃k,Y=W k/\k+m=s.size+1/\b<k) ?_ (s.size+1-(b+1)) ⟨rfl,b+1,rfl,N,N⟩;rintro m Y E H1 ⟨rfl,k,rfl,ac,ab⟩;refine iC.yw λK o=>?_;refine tp ?_;have I:∀{n e w:Int},e≠0->∀Q,∃(x:C)(y B w':Int),(fJ ⟨[J T 0 0,vi n,vi e,vi w]⟩)=fJ ⟨[x,vi y,vi B,vi w']⟩/\xA TT Q x/\(B=0->b<y/\y<=s.size):=λh Q=>⟨_,_,_,_,rfl,xA.nil _ _,λh'=>absurd h' h⟩
 have j:∀{x9 U V} E,iC Pg X (sub Dg [1,1,1]) (Cs (aJ s) (W b) (J T 0 0) (vi 0) (vi 0) (vi 0) (W k) x9 U V E H1) (jO Pg [.tmp 4,.tmp 5,.tmp 6,.tmp 7]<|Q1 (λv Q=>∃(x:C)(n e w:Int),v=fJ ⟨[x,vi n,vi e,vi w]⟩/\xA TT Q x/\(e=0->b<n/\n<=s.size)) H1):=by
  intro x9 U V E;refine tK (λ_=>?_) λ_=>?_
  .refine rr ?_;exact⟨I jg _,(gM P).ext⟩
  refine dA (k_ 1 O N) ?_;rw[Ej N N];refine bN ?_;have hp:=rR s (lo:=b+1) (hi:=k) N N;refine dn (ang P _ N) ?_;rintro _ H2 ⟨⟨x,e,w,rfl,hY,w0,w1⟩,M⟩;refine yl (λc=>?_) λc=>?_
  .refine dA (k_ 1 O N) ?_;refine eD ?_;refine rr ?_;exact⟨I c _,M⟩
  refine dA (k_ 1 O N)<|rr ?_;exact⟨⟨_,_,_,_,O,hY,λ_=>⟨N,N⟩⟩,M⟩
 refine nO (λhc=>?_) λhc=>?_
 .rw[o];refine bN ?_;exact j _
 have⟨c,ec⟩:=wX (s:=s) (k:=k) N;rw[ec];refine yl (λ_=>?_) λ_=>?_;rotate_left
 .rw[o];refine bN ?_;exact j _
 refine tl ?_;rw[ec];refine bN ?_;rw[o];refine aV (λ_=>?_) λ_=>?_
 .exact dA (k_ 1 O N)<|dA (k_ 1 O N)<|⟨s.size+1-(k+1+1),N,_,_,_,O,O,k+1+1,O,N,N⟩
 .exact dA (k_ 1 O N)<|⟨s.size+1-(k+1),N,_,_,_,O,O,k+1,O,N,N⟩
def Zf(cs:Nat->Prop)(H:R)(l:D C)(z:Prop):Prop:=∃(k a e:Int)(t:aZ)(x:C),l=[vi k,vi a,vi e,aJ t,x]/\t.size<=4000000/\xA cs H x/\0<=k/\k<=15/\(z->k=0)
def BF(cs:Nat->Prop)(H:R)(v:C)(n:Nat):Prop:=∃(a:aC Addr)(c:Nat)(F:D C),v=J a n c/\jC cs 186 H a n 5 F/\n<=20001/\∀i,i<n->Zf cs H (El F 5 i) (i+1=n)
def xA.st{cs:Nat->Prop}{S:D Nat}(h:xA cs H v)(M:pN S H Q)(G:∀q∈S,¬cs q\/¬zW H q 275):xA cs Q v:=let⟨a,n,c,zs,I,B,h3⟩:=h;⟨a,n,c,zs,I,B.stay M G,h3⟩
def Zf.st{cs:Nat->Prop}{S:D Nat}(h:Zf cs H l z)(M:pN S H Q)(G:∀q∈S,¬cs q\/¬zW H q 275):Zf cs Q l z:=let⟨k,a,e,t',x,I,B,h3,h4⟩:=h;⟨k,a,e,t',x,I,B,h3.st M G,h4⟩
def aiE{S:D Nat}(Y:GB 186 5 x F gb)(P:u F=i*5)(hi:i<=20001)(G:SH S H0 H<|gb++L)(W:(gb++L).all (λe=>!(e.2.1==275))=f)(o:∀j,j<i->Zf TT H (El F 5 j) False)(ht:Zf TT H l z)(hw:cr w=l)(I:rP w=f)(B:all' gI l=f)(kk:∀q v' H3 iX cs',GB 186 5 v' cs' iX->u cs'=(i+1)*5->SH S H0 H3 (iX++L)->(∀j,j<i+1->Zf TT H3 (El cs' 5 j) (j=i/\z))->Kp q v' H3):ME (bS 186 [vi 0,vi 0,vi 0,aJ ⟨#[]⟩,J T 0 0] 5 1 [(0,w)] H) λq H1=>ME (Ch 186 5 x q H1) (Kp q):=by
 have X:u l=5:=by obtain⟨_,_,_,_,_,rfl,_⟩:=ht;rfl
 have y:=G.Az W;refine Y.push G.base N O hw X I B N N λq v' H3 iX U M=>?_;have hE:=Dm (es:=5) (n:=i) P X;refine kk q v' H3 iX (F++l) U (by rw[aU];omega) (G.over M) λj hj=>?_;rcases dH j i with h|h
 .rw[hE.1 j h];have⟨k,a,e,t,x,g1,g2,g3,g4,g5,g6⟩:=(o j h).st M.ext λq V=>.inr<|y q V;exact⟨k,a,e,t,x,g1,g2,g3,g4,g5,λh=>N⟩
 .obtain rfl:j=i:=N;rw[hE.2];have⟨k,a,e,t,x,g1,g2,g3,g4,g5,g6⟩:=ht.st M.ext λq V=>.inr<|y q V;exact⟨k,a,e,t,x,g1,g2,g3,g4,g5,λh=>g6 h.2⟩
theorem ao1(hw:Wf H)(s:aZ):bM Pg X 70 [aJ s] H (Q1 (λv Q=>∃(x:C)(e w:Int),v=fJ ⟨[x,vi e,vi w]⟩/\(e=0->∃n,BF TT Q x<|n+1)) H):=by
 refine ce [0,2,3,4,5,6,7,8,9,10] ?_;refine tK (λc=>?_) λhc=>?_
 .refine rr ?_;exact⟨⟨_,_,_,O,λh=>absurd h jg⟩,(gM hw).ext⟩
 have hs:s.size<=20000:=N;refine dn (aeS s N (k0:=0)<|bD _) ?_;rintro _ H ⟨⟨b,rfl,_,hb⟩,rfl⟩;refine lp6 5 6 7 8 9 10 (h1:=λm x5 x6 x7 x8 x9 jW Q=>∃(b n:Nat)(F:D C)(gb:D eF),x6=W b/\b+m=s.size/\n<=b/\GB 186 5 x5 F gb/\u F=n*5/\SH [] H Q gb/\∀j,j<n->Zf TT Q (El F 5 j) False) ?_ (s.size-b) ⟨b,0,[],[],rfl,N,bD _,GB.nil _ _,rfl,gM hw,λj h=>absurd h<|iN _⟩;rintro m x5 x6 x7 x8 x9 jW E H1 ⟨b,n,F,gb,rfl,a6,a9,hg,ap,G,y⟩;refine iC.yw λK hK=>?_;have er:∀{e w:Int}{Q:R},e≠0->∃(x:C)(e' w':Int),(fJ ⟨[J T 0 0,vi e,vi w]⟩)=fJ ⟨[x,vi e',vi w']⟩/\(e'=0->∃n,BF TT Q x<|n+1):=λh=>⟨_,_,_,rfl,λh'=>absurd h' h⟩;refine mG (λhc=>?_) λhc=>?_
 .rw[hK];refine tp ?_;refine PU.b5 O<|aiE (z:=True) hg ap N (G.cast (bF gb).symm) (by simp[hg.all]) y ⟨_,_,_,_,_,rfl,bD _,xA.nil _ _,N,N,λ_=>rfl⟩ O O O λw v' H3 iX ao am an G y=>?_;refine bN ?_;obtain⟨a,n',c,rfl,a8,hf⟩:=am.KE (cs:=TT) G λ_ _=>trivial;obtain rfl:n'=n+1:=N
  refine rr ?_;exact⟨⟨_,_,_,O,λ_=>⟨n,a,c,_,rfl,hf,N,λj hj=>by
   have⟨k,a,e,t,x,g1,g2,g3,g4,g5,g6⟩:=y j hj;exact⟨k,a,e,t,x,g1,g2,g3,g4,g5,λh=>g6 ⟨N,trivial⟩⟩⟩⟩,G.ext⟩
 refine dA (k_ 1 O N)<|PU.b5 O ?_;have ac:=G;refine G.og O O O λH3 rt G a2=>?_;have G:SH [] H H3 ((rt,186,[vi 0,W b,W<|b+1,aJ ⟨#[]⟩,J T 0 0])::gb):=G;have y:∀j,j<n->Zf TT H3 (El F 5 j) False:=λj hj=>(y j hj).st a2 nofun;have⟨ch,ec⟩:=wX (s:=s) (k:=b) N;rw[ec];refine dn (Zd _) ?_;rintro v H4 ⟨⟨bl,rfl⟩,rfl⟩
 have Y:∀{U:R}{k e:Int}{t':aZ}{x:C}{ev wv:Int},SH [] H U ((rt,186,[vi k,W b,vi e,aJ t',x])::gb)->(∀j,j<n->Zf TT U (El F 5 j) False)->xA TT U x->0<=k->k<=15->t'.size<=4000000->(ev=0->b<e/\e<=s.size)->∀{x8 E},iC Pg X (sub jf [1,1,1,0,1,0,0,1,0,0,1,1,1,1]) (q9 (aJ s) (J T 0 0) (vi 0) (vi 0) x5 (W b) (pr rt) x8 (vi ev) (vi wv) E U) (uk 1<|uQ Pg X (sub jf [1,1,1,0,1,0,0,1,1]) K):=by
  intro U k e t' x ev wv G y M aw hk ht hE x8 E;obtain⟨xa,xn,xc,zs,rfl,ad⟩:=id M;refine al3 (λc=>?_) λc=>?_
  .rw[hK];refine bN ?_;refine rr ?_;exact⟨er c,G.ext⟩
  have⟨I,B⟩:=hE c;obtain⟨e,rfl⟩:∃e':Nat,e=e':=⟨e.toNat,N⟩;refine G.uE 0 O (ax 5)<|aiE (z:=False) hg ap N (G.perm<|aG (l₁:=[_])) (by simp[hg.all]) y ⟨_,_,_,_,_,rfl,ht,M,aw,hk,λh=>h.elim⟩ O O O λw v' H6 iX ao am an G y=>?_;have G:=G.perm<|aG (l₂:=[_]);refine G.ld 0 (o:=2) O O<|tl<|dn (aeS s N (k0:=e) N) ?_;rintro _ H7 ⟨⟨b',rfl,a3,a4⟩,rfl⟩;rw[hK]
  exact⟨s.size-b',N,_,_,_,_,_,_,_,_,O,b',n+1,ao,iX,O,N,N,am,an,fV (A:=[_]) G,λj hj=>by
   have⟨k,a,e,t,x,g1,g2,g3,g4,g5,g6⟩:=y j hj;exact⟨k,a,e,t,x,g1,g2,g3,g4,g5,λh=>h.elim⟩⟩
 have P:∀{U H6:R}{l:D C}{L':D eF},SH [] H U ((rt,186,l)::gb)->SH ((((rt,186,l)::gb):D eF).map (·.1)) U H6 L'->(∀j,j<n->Zf TT U (El F 5 j) False)->∀j,j<n->Zf TT H6 (El F 5 j) False:=λI B h3 j hj=>(h3 j hj).st B.ext λq hq=>.inr<|I.Az (by simp[hg.all]) q hq;refine sD (λ_=>?_) λ_=>?_
 .have al:∀{U:R}{e:Nat},b<e->e<=s.size->SH [] H U ((rt,186,[vi 0,W b,W e,aJ ⟨#[]⟩,J T 0 0])::gb)->(∀j,j<n->Zf TT U (El F 5 j) False)->∀{E},iC Pg X (sub jf [1,1,1,0,1,0,0,1,0,0,1,1,1,0,0,1,0,1]) (q9 (aJ s) (J T 0 0) (vi 0) (vi 0) x5 (W b) (pr rt) (a_ dz ch.toNat) (vi 0) (vi 0) E U) (uk 2<|uQ Pg X (sub jf [1,1,1,0,1,0,0,1,0,0,1,1,1,1])<|uk 1<|uQ Pg X (sub jf [1,1,1,0,1,0,0,1,1]) K):=by
   intro U e I B G y E;have ac:=G;have G:=G.base;refine tm ?_;rw[Ej N B];refine G.kN ?_;refine G.oq λHn G=>?_;refine G.oq λHn G=>?_;refine splitK (λK hK=>?_) ?_
   .simp only[eZ,gN];apply Gc (a:=rt) yX fQ fQ hK
   have hp:=rR s (lo:=b) (hi:=e) N B
   have ab:∀{z:Int}{H6:R},0<=z->z<=15->SH ((((rt,186,[vi 0,W b,W e,aJ ⟨#[]⟩,J T 0 0])::gb):D eF).map (·.1)) U H6 ((rt,186,[vi z,W b,W e,aJ<|Ae.part s b e,J T 0 0])::gb)->∀{E},iC Pg X (sub jf [1,1,1,0,1,0,0,1,0,0,1,1,1,0,0,1,0,1,1,1]) (q9 (aJ s) (J T 0 0) (vi 0) (vi 0) x5 (W b) (pr rt) (a_ dz ch.toNat) (vi 0) (vi 0) E H6) (uk 2<|uQ Pg X (sub jf [1,1,1,0,1,0,0,1,0,0,1,1,1,1])<|uk 1<|uQ Pg X (sub jf [1,1,1,0,1,0,0,1,1]) K):=by
    intro z H6 z0 z1 hO E;have y:=P ac hO y;have G:=ac.over hO;refine tp ?_;refine G.ld 0 (o:=2) O O ?_;rw[qP N N];refine tJ (λc=>?_) λ_=>?_
    .rw[hK];refine bN ?_;refine rr ?_;exact⟨er jg,G.ext⟩
    exact Y G y (xA.nil _ _) z0 z1 N λ_=>N
   refine aV (λc=>?_) λc=>?_
   .exact G.j_ λHn G=>ab N N G
   .exact ab N N G
  refine VX 9 (h1:=λm x9 Q=>x9=vi 0/\∃k,k+m=s.size/\b+1<=k/\SH [] H Q ((rt,186,[vi 0,W b,W k,aJ ⟨#[]⟩,J T 0 0])::gb)/\∀j,j<n->Zf TT Q (El F 5 j) False) ?_ (s.size-(b+1)) ⟨rfl,b+1,N,ax _,G,y⟩;clear G y;rintro q x9 E U ⟨rfl,k,a7,a5,G,y⟩;refine tp ?_;refine G.ld 0 (o:=2) O O ?_;refine bN ?_;refine aV (λc=>?_) λc=>al N N G y;refine G.ld 0 (o:=2) O O ?_;have⟨c1,ec1⟩:=wX (s:=s) (k:=k) N;rw[ec1];refine bN ?_;refine dn (anb _) ?_;rintro v H6 ⟨⟨bp,rfl⟩,rfl⟩;refine bN ?_;refine ig (λc2=>?_) λc2=>al N N G y;have ac:=G;have G:=G.base;refine tp ?_;exact G.ld 0 (o:=2) O O<|dA (k_ 1 O N)<|G.j_ λHn G=>⟨q-1,N,_,_,_,rfl,rfl,k+1,N,N,ac.over G,P ac G y⟩
 have V:=G;have G:=G.base;refine aV (λ_=>?_) λ_=>?_
 .refine G.j_ λHn G=>dn (aeU G.wf s N (b:=b) N) ?_;rintro v U ⟨⟨t',e,ev,wv,rfl,a0,hE⟩,M⟩;have G:=G.call M;refine G.kN ?_;refine G.j_ λHn G=>?_;refine G.j_ λHn G=>?_;exact Y (V.over G) (P V G y) (xA.nil _ _) N N a0 hE
 refine aV (λ_=>?_) λ_=>?_
 .refine G.j_ λHn G=>dn (akd G.wf s N (b:=b) N) ?_;rintro v U ⟨⟨x,e,ev,wv,rfl,ad,hE⟩,M⟩;have G:=G.call M;have a1:=G.Az (ty:=275) (by simp[hg.all]);have aq:=G;have G:=G.base;obtain⟨xa,xn,xc,zs,rfl,ba⟩:=id ad;refine G.kN ?_;refine G.j_ λHn G=>?_;refine G.j_ λHn G=>?_;have ad:=ad.st G.ext λq hq=>.inr<|a1 q hq;have G:=aq.over G;exact Y (V.over G) (P V G y) ad N N (bD _) hE
 have ab:∀{b1:Bool}{E},Ci E 100=aO b1->(b1=f->b+1<s.size)->iC Pg X (sub jf [1,1,1,0,1,0,0,1,0,0,1,1,1,0,0,1,1,1,1,1,1,1]) (q9 (aJ s) (J T 0 0) (vi 0) (vi 0) x5 (W b) (pr rt) (a_ dz ch.toNat) (vi 0) (vi 0) E H4) (uk 2<|uQ Pg X (sub jf [1,1,1,0,1,0,0,1,0,0,1,1,1,1])<|uk 1<|uQ Pg X (sub jf [1,1,1,0,1,0,0,1,1]) K):=by
  intro b1 E aE B;refine tl ?_;rw[aE];cases b1
  .refine bN ?_;refine dn (ane _) ?_;rintro v U ⟨⟨k,rfl,hk⟩,rfl⟩;refine G.j_ λHn G=>?_;refine ym (λ_=>?_) λ_=>?_
   .rw[hK];refine bN ?_;refine rr ?_;exact⟨er jg,(V.over G).ext⟩
   exact Y (V.over G) (P V G y) (xA.nil _ _) N N (bD _) λ_=>N
  .refine bN ?_;refine dA (k_ 2 O N)<|G.j_ λHn G=>?_;refine G.j_ λHn G=>?_;have:=B O;exact Y (V.over G) (P V G y) (xA.nil _ _) N N (bD _) λ_=>N
 refine aV (λ_=>?_) λ_=>ab O<|nofun;refine dA (k_ 1 O N)<|bN ?_;refine aV (λ_=>?_) λ_=>ab O<|nofun;refine dA (k_ 1 O N) ?_;have⟨c1,ec1⟩:=wX (s:=s) (k:=b+1) N;rw[ec1];refine bN ?_;exact ab O λ_=>N
section
variable{S:D Nat}{xs:D C}
def GE(ty:aI)(es:Nat)(v:C)(F:D C)(gb:D eF):Prop:=GB ty es v F gb\/∃a,v=J (Z a) 0 0/\F=[]/\gb=[]
def GE.sl(h:GE ty es v F gb):∃a n c,v=J a n c:=by
 rcases h with(⟨rfl,_⟩|⟨r,n,j,rfl,_⟩)|⟨a,rfl,_⟩<;>exact⟨_,_,_,O⟩
def GE.KE{cs:Nat->Prop}(h:GE ty es v F gb)(G:SH S H0 H<|gb++L)(j:∀e∈gb,cs e.1):∃a n c,v=J a n c/\u F=n*es/\jC cs ty H a n es F:=by
 rcases h with h|⟨a,rfl,rfl,rfl⟩
 .exact h.KE G j
 .exact⟨Z a,0,0,O,gB,⟨gB,λi x h=>by simp at h⟩,λr o e h=>absurd h<|mI 0⟩
theorem _root_.Go.Ae.SH.ake(G:SH S H0 H L){z:D C}(k:∀H1 a,SH S H0 (hM H H1) L->N9 H H1=cl 5->K (J (Z a) 0 0) H1):ME (bS ty z es 0 []<|hN H) K:=by
 refine ME.of (v:=J (Z ⟨H.bV,0,T⟩) 0 0) (H:=(hN H).new<|rowOf ty []) ?_<|k _ _ (fV (A:=[_])<|G.zq ty [])<|xW<|Ext.new _ _;unfold bS;rw[show bP 0 es=0 from jq es];rfl
def _root_.Go.Ae.SH.akf(G:SH S H0 H L)(y:appended (hN H) es x=Z (n,xs))(M:u xs=n*es)(B:n<=16777216){j:Addr}(k:∀v' H1 iX,GE ty es v' xs iX->SH S H0 (hM H H1) (iX++L)->CG H H1=cl 1->K v' H1):ME (Ch ty es (J (Z j) 0 0) x<|hN H) K:=by
 rw[Co (.inr ⟨_,rfl⟩) y B];split
 .next o=>
  subst o;obtain rfl:xs=[]:=eP.1 N;refine k _ (hN H) [] (.inr ⟨j,O,O,O⟩) ?_<|fP<|Ext.refl _;rw[iU G.wf];exact G
 .exact k _ _ [(H.bV,ty,xs)] (.inl<|.inr ⟨H.bV,n,[],O,M,gB⟩) (G.zq ty xs)<|fP<|Ext.new _ _
theorem GE.apX(y:GE ty es v F gb)(G:SH S H0 H<|gb++L)(Y:0<es)(P:appended (hN H) es x=Z (n,xs))(M:u xs=n*es)(W:all' gI xs=f)(hn:n<=16777216)(hc:u F<=16777216)(k:∀v' H1 iX,GE ty es v' (F++xs) iX->SH S H0 (hM H H1) (iX++L)->(CG H H1=cl 1\/CG H H1=⟨2,0,0,0,H,H1⟩)->K v' H1):ME (Ch ty es v x<|hN H) K:=by
 have j:∀{w},(w=J T 0 0\/∃a,w=J (Z a) 0 0)->GE ty es w [] []->SH S H0 H L->(∀v' H1 iX,GE ty es v' xs iX->SH S H0 (hM H H1) (iX++L)->(CG H H1=cl 1\/CG H H1=⟨2,0,0,0,H,H1⟩)->K v' H1)->ME (Ch ty es w x<|hN H) K:=λhw U G k=>by
  rw[Co hw P hn];split
  .next h0=>
   subst h0;obtain rfl:xs=[]:=eP.1 N;refine k _ (hN H) [] U ?_<|.inl<|fP<|Ext.refl _;rw[iU G.wf];exact G
  .exact k _ _ [(H.bV,ty,xs)] (.inl<|.inr ⟨H.bV,n,[],O,M,gB⟩) (G.zq ty xs)<|.inl<|fP<|Ext.new _ _
 rcases id y with(⟨rfl,rfl,rfl⟩|⟨r,m,X,rfl,hm,rfl⟩)|⟨a,rfl,rfl,rfl⟩
 .exact j (.inl O) y G k
 .cases n with
  |zero=>
   obtain rfl:xs=[]:=eP.1 N;refine ME.of (v:=J (Z ⟨r,0,T⟩) m<|gK es) (H:=hN H) ?_<|k _ (hN H) _ (by rw[bF];exact y) (by rw[iU G.wf];exact G)<|.inl<|fP<|Ext.refl _;unfold Ch;show(aN (appended (hN H) es x) λq=>gd (aD q.1 16777216)<|Si (ty,es) _ (Z ⟨r,0,T⟩,m,gK es) q.1 q.2<|hN H)=_;rw[P];rfl
  |succ n=>
   have hb:Bk (hN H) r ty (F++X):=G.get 0 O;have hr:=(G.lo _<|aK ..).2
   have V:m<=16777216:=by
    have:m*1<=m*es:=g_ m Y;omega
   have⟨r',H1,FN,I,B,h3,h4,h5,h6⟩:=QJ Y hb hr hm P N W N V;refine ME.of I<|k _ H1 [(r',ty,F++xs++FN)] (.inl<|.inr ⟨r',m+(n+1),FN,O,?_,O⟩) ?_<|xu _ _
   .rw[aU,hm,M,<-iH]
   .refine SH.turn (A:=[(r,ty,F++X)]) G h5.draw (λe o=>?_) (jE _ _);rw[aS]at o;subst o;refine⟨B,?_,h4⟩;rcases h3 with h3|h3
    .exact .inl (by simp[h3])
    .exact .inr (by show H.bV<=r';rw[h3];exact ax _)
 .exact j (.inr ⟨a,O⟩) y G k
theorem GE.aeV(I:GE ty es v F gb){o cx:Nat}(G:SH S H0 H<|(o,ty,xs)::(gb++L))(B:0<es)(M:u xs=es)(j:all' gI xs=f)(y:u F<=16777216)(k:∀v' H1 iX,GE ty es v' (F++xs) iX->SH S H0 (hM H H1) (iX++L)->(CG H H1=cl 1\/CG H H1=⟨2,0,0,0,H,H1⟩)->K v' H1):ME (Ch ty es v (J (Z ⟨o,0,T⟩) 1 cx)<|hN H) K:=
 I.apX (fV (A:=[_]) G) B (zo (H:=hN H) (k:=1) (G.get 0 O) N) N j N y k
end
def IL(H:R)(v:C)(k:Nat):Prop:=∃(r n c:Nat)(xs:D Nat)(j:D C),v=J (Z ⟨r,0,T⟩) n c/\(c=gK 1\/n=1/\c=1)/\Bk H r 3 (gq xs++j)/\r<H.bV/\u xs=n/\n<=k/\∀x∈xs,x<=134217728
def anh{c:Nat}(j:c=gK 1\/n=1/\c=1)(h:k<=n):∃c',Tc 1 (J (Z ⟨r,0,T⟩) n c) T (Z<|W k) T=Z (J (Z ⟨r,0,T⟩) k c'):=by
 rcases j with rfl|⟨rfl,rfl⟩
 .exact⟨_,De h⟩
 .obtain rfl|rfl:k=0\/k=1:=N
  .exact⟨_,O⟩
  .exact⟨_,O⟩
theorem agZ{c:Nat}(j:c=gK 1\/n=1/\c=1)(h:k<=n):∃o c',Tc 1 (J (Z ⟨r,0,T⟩) n c) (Z<|W k) T T=Z (J (Z ⟨r,o,T⟩) (n-k) c')/\o+(n-k)<=n:=by
 rcases j with rfl|⟨rfl,rfl⟩
 .exact⟨_,_,Tv h,N⟩
 .obtain rfl|rfl:k=0\/k=1:=N
  .exact⟨_,_,O,ax 1⟩
  .first|exact⟨_,_,O,ax 1⟩|exact⟨_,_,O,bD 1⟩
def aeW{o c:Nat}{xs fE:D C}(h:Bk H r ty<|xs++fE)(hl:o+k<=u xs):appended (hN H) 1 (J (Z ⟨r,o,T⟩) k c)=Z (k,(xs.drop o).take k):=by
 have h:Bk (hN H) r ty (xs++fE):=h;show(aN ((hN H).read r o<|bP k 1) λl=>Z (k,l))=_;rw[show bP k 1=k from dY k,h.read (by rw[aU];omega),rX N,lS (by rw[vW];omega)];rfl
def aeX:∀xs:D Nat,all' gI (gq xs)=f
 |[]=>rfl
 |x::xs=>by show b_ f (all' gI<|gq xs) aA=f;exact aeX xs
theorem aiF(hw:Wf H){z:Nat}(hl:IL H v k)(hk:k<=3000000)(hz:z<=134217728):bM Pg X 219 [v,W z] H (Q1 (λw Q=>IL Q w<|k+1) H):=by
 obtain⟨r,n,c,xs,fE,rfl,hc,Y,hr,hn,a0,U⟩:=id hl;have G:=gM hw;have M:IL H (J (Z ⟨r,0,T⟩) n c) (k+1):=⟨r,n,c,xs,fE,O,hc,Y,hr,hn,N,U⟩;refine GV [0,1,4,5] ?_;refine aV (λc=>N) λ_=>?_;refine aV (λc=>?_) λ_=>?_
 .refine rr ?_;exact⟨M,G.ext⟩
 refine tl ?_
 have ix:∀{i}{K:C->C->R->Prop},i<n->(∀p x,K p (W x) H)->PU (BS 1 (J (Z ⟨r,0,T⟩) n c)<|W i) λp=>ME (yh T p H) (K p):=λ{i K} hi hk=>by
  have hf:jC (λ_=>True) 3 H (Z ⟨r,0,T⟩) n 1 (gq xs):=⟨⟨by rw[aM];omega,λj x hj=>⟨r,0,rfl,hr,by rw[bB];apply Y.cell;rw[bZ (bK.1 hj).1];exact hj⟩⟩,λr' o e _=>by cases e;exact⟨trivial,hr,Y.Gb⟩⟩;exact hf.ix hi (jV _<|av N) λp=>hk p _
 refine VX 5 (h1:=λm x5 Q=>Q=H/\∃i,x5=W i/\i+m=n) ?_ n ⟨rfl,0,rfl,bB n⟩;rintro m x5 E Q ⟨rfl,i,rfl,aE⟩
 have V:∀{x4 E},iC Pg X (sub yx [1,1,1,1,1]) (x_ (J (Z ⟨r,0,T⟩) n c) (W z) x4 (W i) E Q) (jO Pg [.tmp 4]<|Q1 (λw Q=>IL Q w<|k+1) Q):=by
  intro x4 E;refine tl<|G.ake λH1 a G ac=>?_;have⟨c1,e1⟩:=anh (r:=r) (k:=i) hc N;refine dA e1 ?_;have B:u (gq xs)=n:=by rw[aM];exact hn
  refine G.akf (aeW (Y.ex hr G.ext) N) (by rw[dS,jQ,B];omega) N λv2 H2 g2 ao G ad=>?_;refine G.R4 O O O N λH3 rx G al=>ao.aeV G N O O (by rw[dS,jQ,B];omega) λv4 H4 g4 ap G am=>?_;have⟨o,c5,e5,ho⟩:=agZ (r:=r) (k:=i) hc N;refine dA e5 ?_;have e2:((gq xs).drop o).take (n-i)=gq ((xs.drop o).take<|n-i):=by show _=List.map _ _;rw[qA,List.map_drop]
  refine ap.apX G N (aeW (Y.ex hr G.ext) N) (by rw[dS,vW,B];omega) ?_ N (by rw[aU,dS,jQ,B];show min i n+1<=_;omega) λv6 H6 g6 P G an=>?_
  .rw[e2];exact aeX _
  refine splitK (λK hK=>?_) ?_
  .simp only[ac,ad,al];rcases am with e|e<;>rw[e]<;>rcases an with e|e<;>rw[e]<;>apply Gd (au:=λ_=>True) fQ fQ hK<;>repeat' apply iZ
   all_goals first|exact trivial|(intro h;cases h;done)|exactλ_=>trivial
  rw[e2,jQ,<-qA,show cr (W z)=gq [z]from O,<-dK,<-dK]at P;generalize hys:xs.take i++[z]++(xs.drop o).take (n-i)=ys at P;have ab:u ys=n+1:=by rw[<-hys];simp;omega
  have aw:∀y∈ys,y<=134217728:=λy hy=>by
   rw[<-hys]at hy;simp only[cB,aS]at hy;rcases hy with(hy|hy)|hy
   .exact U y<|fG hy
   .omega
   .exact U y<|lV<|fG hy
  rcases P with(⟨_,h,_⟩|⟨r6,n6,j6,rfl,aq,rfl⟩)|⟨_,_,h,_⟩
  .have:=eY u h;rw[aM,ab]at this;cases this
  .rw[aM]at aq;refine rr ?_;exact⟨⟨r6,n6,_,ys,j6,O,.inl O,G.get 0 O,(G.lo _<|aK ..).2,N,N,aw⟩,G.ext⟩
  .have:=eY u h;rw[aM,ab]at this;cases this
 have I:∀{x4 E},iC Pg X (sub yx [1,1,1,1]) (x_ (J (Z ⟨r,0,T⟩) n c) (W z) x4 (W i) E Q) (jO Pg [.tmp 4]<|Q1 (λw Q=>IL Q w<|k+1) Q):=by
  intro x4 E;refine tp ?_;refine aV (λc=>?_) λ_=>V;refine ix N λp x=>?_;refine bN ?_;refine aV (λc=>?_) λ_=>V;refine rr ?_;exact⟨M,G.ext⟩
 refine tp ?_;refine aV (λc=>?_) λ_=>I;refine ix N λp x=>?_;refine bN ?_;refine aV (λc=>?_) λ_=>I;exact dA (k_ 1 O N)<|⟨m-1,N,_,_,_,O,O,i+1,O,N⟩
def xA.rd{cs:Nat->Prop}{c ay:Nat}{zs:D Nat}(h:jC cs 275 H a n 2<|gq zs)(hi:i<n)(y:ay<2)(B:∀z∈zs,z<134217728):∃r o,BS 2 (J a n c) (W i)=Z (bG<|Z ⟨r,o,T⟩)/\r<H.bV/\∃x:Nat,x<134217728/\H.cell r (o+ay)=Z (W x):=by
 have⟨r,o,e,hr,hcl,_⟩:=h.1.idx (c:=c) N hi;have j:i*2+ay<u zs:=by have:=h.1.1;rw[aM]at this;omega
 refine⟨r,o,e,hr,zs[i*2+ay],B _<|bH j,hcl ay _ y ?_⟩;exact jV _<|av j
def ani(x:Nat):U5 f [W x,vi 0]=Z (W x):=by rw[max2,show max (x:Int) 0=x by omega]
def ao2{cs:Nat->Prop}{z:Nat}(hs:xA cs H v):bM Pg X 193 [v,W z] H (Q0 (λw=>∃b,w=aO b) H):=by
 obtain⟨a,n,c,zs,rfl,P,hn,T,_⟩:=hs;refine lF [0,1,4,5] ?_;refine VX 5 (h1:=λm x5 Q=>Q=H/\∃i,x5=W i/\i+m=n) ?_ n ⟨rfl,0,rfl,bB n⟩;rintro m x5 E Q ⟨rfl,i,rfl,Y⟩;refine mG (λV=>?_) λV=>?_
 .refine tl ?_;refine rr ?_;exact⟨⟨_,O⟩,O⟩
 have⟨r,o,e1,_,x,_,I⟩:=xA.rd (c:=c) (ay:=0) P (show i<n by omega) N T;have⟨r',o',e1',_,y,_,B⟩:=xA.rd (c:=c) (ay:=1) P (show i<n by omega) N T;rw[e1]at e1';cases e1';rw[dZ]at I
 have zO:∀{E:C->Rs},PU (mW Pg .add 3 (.tmp 10) (.const<|vi 1) (W i)<|vi 1) λv=>∃M,M<m/\∃x5 U j,yz (J a n c) (W z) (aO aA) v (E v) Q=yz (J a n c) (W z) (aO aA) x5 U j/\j=Q/\∃i,x5=W i/\i+M=n:=λ{E}=>by
  refine dA (k_ 1 O N) ?_;exact⟨m-1,N,_,_,_,O,O,i+1,O,N⟩
 refine aV (λ_=>?_) λ_=>zO;refine aV (λ_=>?_) λ_=>zO;refine dA e1 ?_;refine bN ?_;refine iV I ?_;refine bN ?_;refine aV (λ_=>?_) λ_=>zO;refine dA e1 ?_;refine bN ?_;refine iV B ?_;refine bN ?_;refine aV (λ_=>?_) λ_=>zO;refine rr ?_;exact⟨⟨_,O⟩,O⟩
def akg{cs:Nat->Prop}(hw:Wf H)(hs:xA cs H v):bM Pg X 192 [v] H (Q1 (λw Q=>IL Q w 3000000) H):=by
 obtain⟨a,n,c,zs,rfl,hf,hn,hz,_⟩:=hs;have G:=gM hw;refine lF [0,2,3,4] ?_;refine G.bS O O O N λH1 rx G=>?_;have Y:=G.get 0 O;refine lp2 3 4 (h1:=λm x3 x4 Q=>∃i,x4=W i/\i+m=n/\IL Q x3 (1+2*i)/\SH [] H Q []) ?_ n ⟨0,rfl,bB n,⟨rx,1,1,[0],[],rfl,.inr ⟨rfl,rfl⟩,Y,(G.lo _<|aK ..).2,rfl,ax _,gB⟩,fV (A:=[_]) G⟩;clear G Y;rintro m x3 x4 E H2 ⟨i,rfl,ab,P,G⟩;refine mG (λhc=>?_) λhc=>?_
 .refine tl ?_;have⟨r,k,c,xs,j,I,B,h3,h4,h5,h6,h7⟩:=P;refine rr ?_;exact⟨⟨r,k,c,xs,j,I,B,h3,h4,h5,N,h7⟩,G.ext⟩
 have⟨r,o,e1,hr,x,M,I⟩:=xA.rd (c:=c) (ay:=0) hf (show i<n by omega) N hz;have⟨r',o',e1',_,y,hy,B⟩:=xA.rd (c:=c) (ay:=1) hf (show i<n by omega) N hz;rw[e1]at e1';cases e1';rw[dZ]at I;have cl:∀{T:R}{o:Nat}{x:C},SH [] H T []->H.cell r o=Z x->T.cell r o=Z x:=λG h=>(l8 (G.ext.obj r hr nofun) _).trans h;refine dA e1<|bN ?_;refine iV (cl G I)<|dA (ani x)<|dn (aiF G.wf P N N) ?_;rintro w T ⟨P,U⟩;have G:=G.call U;refine dA e1<|bN ?_;refine iV (cl G B) ?_;refine bN ?_
 with_reducible refine aeO (λ_=>?_) λ_=>?_
 .refine dA e1<|bN ?_;refine iV (cl G B)<|dA (k_ 1 O N)<|dA (ani<|y+1)<|dn (aiF G.wf P N N) ?_;rintro w H4 ⟨P,V⟩;have G:=G.call V;exact dA (k_ 1 O N)<|⟨m-1,N,_,_,_,_,O,i+1,O,N,by rw[show 1+2*(i+1)=1+2*i+1+1 by omega];exact P,G⟩
 .refine dA (k_ 1 O N) ?_;have⟨r,k,c,xs,j,I,B,h3,h4,h5,h6,h7⟩:=P;exact⟨m-1,N,_,_,_,_,O,i+1,O,N,⟨r,k,c,xs,j,I,B,h3,h4,h5,N,h7⟩,G⟩
def IL.fl(h:IL H v k):∃(a:aC Addr)(n c:Nat)(xs:D Nat),v=J a n c/\jC (λ_=>True) 3 H a n 1 (gq xs)/\n<=k/\u xs=n/\∀x∈xs,x<=134217728:=by
 obtain⟨r,n,c,xs,T,rfl,U,I,N,P,y,B⟩:=h;exact⟨_,n,c,xs,O,⟨⟨by rw[aM];omega,λj x M=>⟨r,0,rfl,N,by rw[bB];apply I.cell;rw[bZ (bK.1 M).1];exact M⟩⟩,λV o e _=>by cases e;exact⟨trivial,N,I.Gb⟩⟩,y,P,B⟩
theorem akh(hw:Wf H){xs:D Nat}{c:Nat}(hf:jC (λ_=>True) 3 H ea en 1<|gq xs)(aq:en<=3000000)(aE:u xs=en)(an:∀x∈xs,x<=134217728)(hb:jC (λ_=>True) 4 H a n 1<|bools bs):bM Pg X 194 [J ea en ec,J a n c] H (Q1 (λw _=>∃a n c,w=J a n c) H):=by
 have ap:u bs=n:=by have:=hb.1.1;rw[aM]at this;omega
 refine ce [0,1,4,5,6,7]<|tl ?_;refine Gg 5 6 7 (h1:=λm x5 x6 V Q=>∃i B gb,x6=W i/\i+m=en/\GB 275 2 x5 (B.map vi) gb/\u B<=2*i/\(∀z∈B,-1<=z/\z<=134217728)/\SH [] H Q gb) ?_ en ⟨0,[],[],rfl,bB en,GB.nil _ _,ax _,nofun,gM hw⟩;rintro m x5 x6 V E H1 ⟨i,B,gb,rfl,aw,P,a0,U,G⟩
 have ab:∀{V E},iC Pg X (sub mJ [1,1,1]) (pP (J ea en ec) (J a n c) (J T 0 0) x5 (W i) V E H1) (jO Pg [.tmp 4]<|Q1 (λw _=>∃a n c,w=J a n c) H):=by
  intro V E;refine tl ?_;obtain⟨ga,gn,gc,rfl⟩:=P.sl;refine rr ?_;exact⟨⟨_,_,_,O⟩,G.ext⟩
 refine tp ?_;refine aV (λc1=>?_) λ_=>ab;refine aV (λc2=>?_) λ_=>ab;have M:∀{j},j<en->∃x:Nat,x<=134217728/\(gq xs)[j]?=Z (W x):=λ{j} hj=>⟨xs[j],an _<|bH _,jV _<|av N⟩
 have Y:∀(az:Out->Prop)(z:Int),-1<=z/\z<=134217728->(∀{ac:C}{zs':D Int}{iX:D eF}{Q:R}{V:C}{E:Rs},GB 275 2 ac (zs'.map vi) iX->u zs'<=2*(i+1)->(∀z∈zs',-1<=z/\z<=134217728)->SH [] H Q iX->iC Pg X (sub mJ [1,1,0,1,0,0,1,1]) (pP (J ea en ec) (J a n c) (J T 0 0) ac (W i) V E Q) az)->∀E,iC Pg X (sub mJ [1,1,0,1,0,0,1,0,0,1,1]) (pP (J ea en ec) (J a n c) (J T 0 0) x5 (W i) (vi z) E H1) (uk 1<|uQ Pg X (sub mJ [1,1,0,1,0,0,1,1]) az):=by
  intro az z ao kk E;obtain⟨b,ad⟩:∃b,bs[i]?=Z b:=⟨_,av N⟩;have⟨x,hxb,hxi⟩:=M (j:=i) N;refine tl<|(hb.ex G.ext).ix N (jV _ ad) λp=>?_;refine bN ?_
  have app:∀{E},Ci E 53=aO aA->iC Pg X (sub mJ [1,1,0,1,0,0,1,0,0,1,1,1,1]) (pP (J ea en ec) (J a n c) (J T 0 0) x5 (W i) (vi z) E H1) (uk 1<|uQ Pg X (sub mJ [1,1,0,1,0,0,1,1]) az):=by
   intro E am;refine tl ?_;rw[am];refine bN ?_;refine(hf.ex G.ext).ix N hxi λp=>PU.b2 O<|P.push (G.cast (bF gb).symm) N O O O O O N (by rw[aM];omega) λw v' H4 iX al G=>?_;refine bN ?_;refine kk (zs':=B++[(x:Int),z]) (by rw[show(B++[(x:Int),z]).map vi=B.map vi++[W x,vi z]from dK];exact al) N7 (λy hy=>?_)<|G.cast<|bF iX;rcases cB.1 hy with h|h
   .exact U y h
   .simp at h;omega
  refine ig (λ_=>?_) λ_=>?_
  .exact kk P N U G
  rcases id P with⟨rfl,h0,rfl⟩|⟨r,k,fE,rfl,hk,rfl⟩
  .refine bN ?_;exact iY O<|app O
  rw[aM]at hk;refine MQ (λc3=>?_) λc3=>?_
  .exact iY O<|app O
  have I:(k-1)*2+1<u B:=N
  have hv:((B.map vi)++fE)[(k-1)*2+1]?=Z (vi B[(k-1)*2+1]):=by
   rw[bZ (by rw[aM];exact I),bL,av I];rfl
  have US:=U _<|bH I;rw[qP N N];refine bN ?_;rw[show((k:Int)-1)=((k-1:Nat):Int) by omega];refine dA (uK N) ?_;rw[bB];refine bN ?_;refine G.R5 0 O hv ?_;simp only[iU G.wf];rw[gm N N];refine bN ?_;have⟨r2,o2,e2,_,hcl,_⟩:=(hf.ex G.ext).1.idx (c:=ec) N (show i<en by omega);refine dA e2<|iV (H:=hN H1) (o:=o2) (hcl 0 _ N (by rw[dY,dZ];exact hxi)) ?_;refine bN ?_;simp only[iU G.wf];refine splitK (λK hK=>?_) ?_
  .simp only[eZ];apply Gd (au:=λ_=>False) fQ fQ hK<;>repeat' apply iZ
   all_goals first|exact trivial|(intro h;cases h;done)|exactλ_ _ h=>h.elim
  by_cases hq:B[(k-1)*2+1]+1=(x:Int)
  .rw[bY hq];refine tp ?_;rw[qP N N];refine bN ?_;rw[show((k:Int)-1)=((k-1:Nat):Int) by omega];refine dA (uK N) ?_;rw[bB];refine bN ?_;refine G.st 0 O O (by rw[aU,aM];omega) rfl λH2 G=>?_;have G:SH [] H H2 [(r,275,(B.set ((k-1)*2+1) z).map vi++fE)]:=G.to<|Z' I z;refine kk (zs':=B.set ((k-1)*2+1) z) (.inr ⟨r,k,fE,O,by rw[aM,bU];exact hk,O⟩) (by rw[bU];omega) (λy hy=>?_) G;rcases iT hy with h|h
   .exact U y h
   .rw[h];exact ao
  .rw[dQ hq];exact app O
 refine tl ?_;refine dA (k_ 1 O N)<|bN ?_;refine aV (λc3=>?_) λc3=>?_
 .refine dA (k_ 1 O N) ?_;have⟨x,hxb,hxi⟩:=M (j:=i+1) N;refine(hf.ex G.ext).ix N hxi λp=>?_;refine rA ?_;refine Y _ _ N (λP hl U G=>?_) _;refine tl ?_;refine dA (k_ 1 O N) ?_;exact⟨m-1,N,_,_,_,_,_,O,i+1,_,_,O,N,P,hl,U,G⟩
 .refine Y _ _ N (λP hl U G=>?_) _;refine tl ?_;refine dA (k_ 1 O N) ?_;exact⟨m-1,N,_,_,_,_,_,O,i+1,_,_,O,N,P,hl,U,G⟩
section
def _root_.Go.Ae.jC.by{cs:Nat->Prop}(h:jC cs ty H a n es F)(j:∀r,r<H.bV->cs r->F' r):jC F' ty H a n es F:=⟨h.1,λr o e y=>let⟨I,B,h3⟩:=h.2 r o e y;⟨j r B I,B,h3⟩⟩
def Zg(cs:Nat->Prop)(H:R)(l:D C)(i:Nat):Prop:=∃(z:Int)(a:aC Addr)(o:D Nat)(c:Nat)(t:aZ)(y:aC Addr)(B sc:Nat)(at':Int),l=[vi z,J a (u o) c,aJ t,J y B sc,vi at']/\jC cs 3 H a (u o) 1 (gq o)/\(∀j∈o,j<i)/\(z=4->o≠[])/\u o<=20003
def Zg.st{cs:Nat->Prop}{S:D Nat}(h:Zg cs H l i)(M:pN S H Q)(G:∀q∈S,¬cs q):Zg cs Q l i:=let⟨z,a,ks,c,t,sa,sn,sc,at',I,B,h3⟩:=h;⟨z,a,ks,c,t,sa,sn,sc,at',I,B.stay M λq j=>.inl<|G q j,h3⟩
def Zg.by{cs:Nat->Prop}(h:Zg cs H l i)(j:∀r,r<H.bV->cs r->F' r):Zg F' H l i:=let⟨z,a,ks,c,t,sa,sn,sc,at',I,B,h3⟩:=h;⟨z,a,ks,c,t,sa,sn,sc,at',I,B.by j,h3⟩
def RuY(l:D C)(m:Nat):Prop:=∃(t:aZ)(aa ay w:Bool)(ch at':Int)(r:Nat),l=[aJ t,aO aa,aO ay,aO w,vi ch,W r,vi at']/\r<m
def YG(n:Nat)(cs:Nat->Prop)(H:R)(g:C)(p m rl:Nat)(e:Int):Prop:=∃(o:aC Addr)(M:Nat)(rcs:D C)(j:aC Addr)(I:Nat)(jw:D C)(y:aC Addr)(B:Nat)(at':Int),g=dN ⟨[J o rl M,J j m I,J y n B,W p,vi e,vi at']⟩/\
 jC cs 194 H o rl 7 rcs/\(e=0->∀i,i<rl->RuY (El rcs 7 i) m)/\rl<=120/\jC cs 200 H j m 5 jw/\(∀i,i<m->Zg cs H (El jw 5 i) i)/\m<=4000/\BF cs H (J y n B) n/\p<=20002/\(e=0->p<n)
variable{cs:Nat->Prop}
def BF.st{S:D Nat}(h:BF cs H v n)(M:pN S H Q)(G:∀q∈S,¬cs q):BF cs Q v n:=let⟨a,c,F,I,B,h3,h4⟩:=h;⟨a,c,F,I,B.stay M λq j=>.inl<|G q j,h3,λi o=>(h4 i o).st M λq j=>.inl<|G q j⟩
def xA.by(h:xA cs H v)(j:∀r,r<H.bV->cs r->F' r):xA F' H v:=let⟨a,n,c,zs,I,B,h3⟩:=h;⟨a,n,c,zs,I,B.by j,h3⟩
def BF.by(h:BF cs H v n)(j:∀r,r<H.bV->cs r->F' r):BF F' H v n:=let⟨a,c,F,I,B,h3,h4⟩:=h;⟨a,c,F,I,B.by j,h3,λi o=>let⟨k,a,e,t',x,g1,g2,g3,g4⟩:=h4 i o;⟨k,a,e,t',x,g1,g2,g3.by j,g4⟩⟩
def YG.st{S:D Nat}(h:YG n cs H g p m rl e)(M:pN S H Q)(G:∀q∈S,¬cs q):YG n cs Q g p m rl e:=by
 have⟨ra,rc,rcs,na,nc,jw,ta,tc,at',I,B,h3,h4,h5,h6,h7,h8,h9⟩:=h;exact⟨ra,rc,rcs,na,nc,jw,ta,tc,at',I,B.stay M λq j=>.inl<|G q j,h3,h4,h5.stay M λq j=>.inl<|G q j,λi o=>(h6 i o).st M G,h7,h8.st M G,h9⟩
def YG.ex(h:YG n cs H g p m rl e)(M:Ext H Q):YG n cs Q g p m rl e:=h.st M nofun
def YG.by(h:YG n cs H g p m rl e)(j:∀r,r<H.bV->cs r->F' r):YG n F' H g p m rl e:=by
 have⟨ra,rc,rcs,na,nc,jw,ta,tc,at',I,B,h3,h4,h5,h6,h7,h8,h9⟩:=h;exact⟨ra,rc,rcs,na,nc,jw,ta,tc,at',I,B.by j,h3,h4,h5.by j,λi o=>(h6 i o).by j,h7,h8.by j,h9⟩
def YG.bd(h:YG n cs H g p m rl e):p<=20002/\(e=0->p<n)/\n<=20001/\m<=4000/\rl<=120:=by
 have⟨ra,rc,rcs,na,nc,jw,ta,tc,at',I,B,h3,h4,h5,h6,h7,⟨_,_,_,_,_,h8,_⟩,h9⟩:=h;exact⟨h9.1,h9.2,h8,h7,h4⟩
def YG.to(h:YG n cs H g p m rl e)(o:q<=20002/\(e=0->q<n))(j:g=dN ⟨l⟩):YG n cs H (dN ⟨l.set 3<|W q⟩) q m rl e:=by
 have⟨ra,rc,rcs,na,nc,jw,ta,tc,at',I,B,h3,h4,h5,h6,h7,h8,h9⟩:=h;rw[j]at I;cases I;exact⟨ra,rc,rcs,na,nc,jw,ta,tc,at',O,B,h3,h4,h5,h6,h7,h8,o⟩
abbrev Nw(cs:Nat->Prop)(b:Nat):Nat->Prop:=λr=>cs r\/b<=r
def CB(V:Wf H)(U:YG n cs H g p m rl e)(y:p<n):bM Pg X 71 [g] H (Q1 (λv _=>∃k:Int,v=vi k/\0<=k/\k<=15/\(p+1=n->k=0)) H):=by
 obtain⟨ra,rc,rcs,na,nc,jw,ta,W,at',rfl,B,Y,h4,h5,h6,h7,⟨a,c,F,I,P,T,j⟩,h9⟩:=U;cases I;have G:=gM V;refine lF [0,1,2] ?_;refine G.box O λH1 rb G=>?_;refine fF ?_;have⟨r,o,e1,hr,hcl,_⟩:=P.1.idx (c:=W) N y;have⟨k,_,e,t,x,hk,_,_,k1,k2,k3⟩:=j p y;refine dA e1 ?_;refine bN ?_
 have M:F[p*5+0]?=Z (vi k):=by
  have:=eY (λl=>l[0]?) hk;simp only[oN]at this;simpa using this
 refine G.CJ (hcl 0 _ N M) hr<|rr ?_;exact⟨⟨k,O,k1,k2,k3⟩,G.ext⟩
abbrev Ot(cs:Nat->Prop)(b:Nat)(L:D eF):Nat->Prop:=λr=>Nw cs b r/\r∉L.map (·.1)
theorem YG.own(o:YG n cs H0 g p m rl e)(G:SH [] H0 H L):YG n (Ot cs H0.bV L) H g p m rl e:=
 (o.by (F':=Ot cs H0.bV L) λr I B=>⟨.inl B,λy=>by
  obtain⟨e,j,rfl⟩:=bT.1 y;exact fu (G.yu j) I⟩).ex G.ext
theorem Zg.own(o:Zg cs H0 l i)(G:SH [] H0 H L):Zg (Ot cs H0.bV L) H l i:=
 (o.by (F':=Ot cs H0.bV L) λr I B=>⟨.inl B,λy=>by
  obtain⟨e,j,rfl⟩:=bT.1 y;exact fu (G.yu j) I⟩).st G.ext nofun
theorem YG.turn{H2:R}{L2:D eF}(y:YG n (Ot cs b L) H g p m rl e)(j:SH (L.map (·.1)) H H2 L2):YG n (Ot cs b L2) H2 g p m rl e:=
 ((y.by (F':=λr=>Ot cs b L r/\r∉L2.map (·.1)) λr I B=>⟨B,λM=>by
   obtain⟨e,o,rfl⟩:=bT.1 M;rcases(j.lo e o).1 with h|h
   .exact B.2 h
   .omega⟩).st j.ext λq N h=>h.1.2 N).by λr _ h=>⟨h.1.1,h.2⟩
theorem aki(hw:Wf H)(hg:YG n cs H g p m rl 0)(hc:c≠0):bM Pg X 105 [g,vi c] H (Q1 (λv Q=>∃e:Int,e≠0/\YG n cs Q v p m rl e) H):=by
 have hb:=hg.bd;obtain⟨ra,rc,rcs,na,nc,jw,Y,I,at',rfl,B,h3,h4,h5,h6,h7,⟨a,cc,F,e,h8,ab,V⟩,h9⟩:=id hg;cases e;have G:=gM hw;refine lF [0,1,2,4] ?_;refine G.box O λH1 rb G=>?_;refine G.jM λH2 rz G=>?_;refine fF ?_;refine aV (λ_=>?_) λc=>absurd trivial c;have⟨r,o,e1,hr,hcl,o0,e0,_⟩:=(h8.ex G.ext).1.idx (c:=I) N<|hb.2.1 O;have⟨k,at2,e,t,x,hk,_,_,k1,k2,k3⟩:=V p<|hb.2.1 O;have ad:r<H.bV:=h8.2 r o0 e0 (by have:=hb.2.1 O;omega)|>.2.1;have hn:rb≠r:=λe=>fu (G.yu<|aT (i:=1) O)<|e▸ad
 have ac:F[p*5+1]?=Z (vi at2):=by
  have:=eY (λl=>l[1]?) hk;simp only[oN]at this;simpa using this
 refine fF ?_;refine dA e1<|bN ?_;refine iV (H:=hN H2) (hcl 1 _ N ac) ?_;refine G.kN ?_;refine G.oq λHn G=>?_;refine G.oq λHn G=>?_;refine splitK (λK hK=>?_) ?_
 .simp only[eZ,gN];apply nE (a:=rb) (b:=r) hn yX fQ fQ hK
 have hT:BF cs H (J Y n I) n:=⟨_,_,F,O,h8,ab,V⟩
 have P:∀{y:R}{e:Int},e≠0->Ext H y->YG n cs y (dN ⟨[J ra rl rc,J na m nc,J Y n I,W p,vi e,vi at2]⟩) p m rl e:=λ{y e} U M=>
  ⟨ra,rc,rcs,na,nc,jw,Y,I,at2,rfl,B.ex M,λh=>absurd h U,h4,h5.ex M,λi hi=>(h6 i hi).st M<|nofun,h7,hT.st M<|nofun,h9.1,λh=>absurd h U⟩
 have j:∀{y:R}{e:Int},e≠0->SH [] H y [(rz,32,[J T 0 0,J T 0 0,J T 0 0,vi 0,vi 0,vi 0]),(rb,32,[J ra rl rc,J na m nc,J Y n I,W p,vi e,vi at2])]->∀{E:C->Rs},ME (yh (Z 6) (pr rb) y) λv Q=>ME (GU 6 (pr rz) v Q) λ_ Q=>jO Pg [.cell 4 32] (Q1 (λv Q=>∃e:Int,e≠0/\YG n cs Q v p m rl e) H) (.ret<|yo (dN ⟨[J ra rl rc,J na m nc,J Y n I,W p,vi 0,vi at']⟩) (vi c) (pr rb) (pr rz) (E v) Q):=by
  intro y e U G E;refine G.jl<|G.j_ λHn G=>?_;refine rr ?_;refine G.uE 0 O (ax 6) ?_;exact⟨⟨e,U,P U G.ext⟩,G.ext⟩
 refine aV (λ_=>?_) λ_=>j hc G;refine G.jl<|dn (CB G.wf (P hc G.ext)<|hb.2.1 O) ?_;rintro v y ⟨⟨k,rfl,_⟩,M⟩;have G:=G.call M;refine bN ?_;refine aV (λ_=>?_) λ_=>j hc G;exact G.j_ λHn G=>j jg G
end
section
variable{cs:Nat->Prop}
def YT(n:Nat)(az cs:Nat->Prop)(m rl:Nat)(v:C)(Q:R):Prop:=∃(o:C)(k y j:Nat)(e:Int),v=fJ ⟨[o,W k]⟩/\YG n cs Q o y j rl e/\m<=j/\(e=0->k<j/\az y)
abbrev YR(n:Nat)(az cs:Nat->Prop)(H:R)(m rl:Nat):C->R->Prop:=Q1 (YT n az (Nw cs H.bV) m rl) H
def YG.call{az:Nat->Prop}{Kp:C->R->Prop}(T:YG n (Ot cs b L) H g p m rl e)(G:SH [] H0 H L)(N:b<=H.bV)(O:∀F',(∀r,r<H.bV->Ot cs b L r->F' r)->YG n F' H g p m rl e->bM Pg X ae (g::ar) H (YR n az F' H m rl))(kk:∀j H2 k o m' e',YG n (Ot cs b L) H2 j o m' rl e'->m<=m'->(e'=0->k<m'/\az o)->SH [] H0 H2 L->Ext H H2->Kp (fJ ⟨[j,W k]⟩) H2):bM Pg X ae (g::ar) H Kp:=by
 refine dn (O (λr=>Ot cs b L r/\r<H.bV) (λr I B=>⟨B,I⟩)<|T.by λr I B=>⟨B,I⟩) ?_;rintro v H2 ⟨⟨j,k,o,m',e',rfl,y,I,B⟩,M⟩;refine kk j H2 k o m' e' (y.by λr _ h=>?_) I B (G.call M) M;rcases h with h|h
 .exact h.1
 .refine⟨.inr<|aR N h,λU=>?_⟩;obtain⟨e,P,rfl⟩:=bT.1 U;exact fu h (G.lo e P).2
def YG.anj{az:Nat->Prop}{Kp:C->R->Prop}(P:YG n (Ot cs b L) H g p m rl e)(G:SH [] H0 H L)(N:b<=H.bV)(O:∀F',(∀r,r<H.bV->Ot cs b L r->F' r)->YG n F' (hN H) g p m rl e->bM Pg X ae (g::ar) (hN H) (YR n az F' (hN H) m rl))(kk:∀j H2 k o m' e',YG n (Ot cs b L) (hM H H2) j o m' rl e'->m<=m'->(e'=0->k<m'/\az o)->SH [] H0 (hM H H2) L->CG H H2=cl 1->Kp (fJ ⟨[j,W k]⟩) H2):bM Pg X ae (g::ar) (hN H) Kp:=
 YG.call (H:=hN H) (H0:=hN H0) (show YG n (Ot cs b L) (hN H) g p m rl e from P) G.Bt N O λj H2 k o m' e' I B y _ M=>kk j H2 k o m' e' I B y (G.oD M)<|fP M
def YG.ret{az:Nat->Prop}{Kp:C->C->C->C->R->Prop}(y:YG n (Ot cs H0.bV L) H g p m rl e)(G:SH [] H0 H L)(hi:L[i]?=Z (rz,32,F))(hl:u F=6)(I:∀q,az q->R' q)(B:m0<=m)(hc:∀F',(∀r,r<H.bV->Ot cs H0.bV L r->F' r)->YG n F' H g p m rl e->bM Pg X ae (g::ar) H (YR n az F' H m rl))(kk:∀v M c aa H3,YR n R' cs H0 m0 rl (fJ ⟨[M,c]⟩) H3->(∀{H':C->R->Prop},H' M H3->ME (yh (Z 6) (bG<|Z ⟨rz,0,T⟩) H3) H')->Kp v M c aa H3):bM Pg X ae (g::ar) H λv H1=>PU (wI v 0) λa=>PU (wI v 1) λc=>ME (GU 6 (bG<|Z ⟨rz,0,T⟩) a H1) λaa H2=>Kp v a c aa H2:=by
 refine y.call G G.ext.bV hc λM H2 k p' Y P y h3 U G _=>?_;obtain⟨ra,rc,rcs,na,nc,jw,ta,tc,at',rfl,_⟩:=id y;refine bN ?_;have j:=G.base;refine j.st i hi O N O λH3 j=>?_;rw[oF _ _ (by exact hl)]at j;have y:=y.st j.ext λq hq h=>h.2 hq;refine kk _ _ _ _ _ ⟨⟨_,k,p',Y,P,O,y.by λr _ h=>h.1,N,λV=>⟨(U V).1,I _ (U V).2⟩⟩,(G.over j).ext⟩ λ{H'} hQ=>?_;exact j.uE i (o:=0) (n:=6) (F:=cr<|dN ⟨[J ra rl rc,J na Y nc,J ta n tc,W p',vi P,vi at']⟩) (by rw[dX,jj O,jj (bK.1 hi).1]) (ax 6) hQ
def YG.aeY(y:YG n (Ot cs H0.bV L) H g p m rl 0)(G:SH [] H0 H L)(hi:L[i]?=Z (rz,32,F))(hl:u F=6)(B:m0<=m)(Y:c≠0)(kk:∀I aa H3,(∀{az},YR n az cs H0 m0 rl (fJ ⟨[I,vi 0]⟩) H3)->(∀{H':C->R->Prop},H' I H3->ME (yh (Z 6) (bG<|Z ⟨rz,0,T⟩) H3) H')->Kp I aa H3):bM Pg X 105 [g,vi c] H λv H1=>ME (GU 6 (bG<|Z ⟨rz,0,T⟩) v H1) λaa H2=>Kp v aa H2:=by
 refine G.cm (aki G.wf y Y) ?_;rintro v H2 ⟨U,P,y⟩ M G;obtain⟨ra,rc,rcs,na,nc,jw,ta,tc,at',rfl,_⟩:=id y;have j:=G.base;refine j.st i hi O N O λH3 j=>?_;rw[oF _ _ (by exact hl)]at j;have y:=y.st j.ext λq hq h=>h.2 hq;refine kk _ _ _ ⟨⟨_,0,p,m,U,O,y.by λr _ h=>h.1,B,λhe=>absurd he P⟩,(G.over j).ext⟩ λ{H'} V=>?_;exact j.uE i (o:=0) (n:=6) (F:=cr<|dN ⟨[J ra rl rc,J na m nc,J ta n tc,W p,vi U,vi at']⟩) (by rw[dX,jj O,jj (bK.1 hi).1]) (ax 6) V
theorem aeZ(hw:Wf H)(hg:YG n cs H g p m rl 0)(hl:Zg cs H l m):bM Pg X 138 [g,dN ⟨l⟩] H (YR n (·=p) cs H m rl):=by
 have al:=hg.bd;obtain⟨ra,rc,rcs,na,nc,jw,ta,tc,pg,rfl,B,h3,h4,o,h6,h7,h8,h9⟩:=id hg;obtain⟨z,ka,ks,kc,t,sa,sn,sc,at',rfl,k2,k3⟩:=id hl;have G:=gM hw;refine lF [0,1,2,3,4,5] ?_;refine G.box O λH1 rb G=>?_;refine G.box O λH2 rx G=>?_;refine G.jM λH3 rz G=>?_;refine ym (λc=>?_) λ_=>?_
 .refine G.jl<|YG.aeY (i:=0) (hg.own G) G O O (ax _) jg λg' aa I hY hr=>?_;refine rr ?_;exact hr hY
 refine G.ake λI a G U=>?_;refine fF ?_;refine G.akf (n:=m) (xs:=jw) (tT (show Fl (hN<|hM H3 I) na m 5 jw from((o.ex G.ext).1:Fl (hM H3 I) na m 5 jw)) N) o.1.1 N λv2 H5 g2 ac G V=>?_;have G:=G.perm<|aG (l₂:=[_,_,_]);simp only[bQ,bX]at G;refine fF ?_;refine G.R4 O O O N λH6 ry G Y=>?_;have G:=G.perm (L':=(ry,200,[vi z,J ka (u ks) kc,aJ t,J sa sn sc,vi at'])::(g2++[(rz,32,[J T 0 0,J T 0 0,J T 0 0,vi 0,vi 0,vi 0]),(rx,200,[vi z,J ka (u ks) kc,aJ t,J sa sn sc,vi at']),(rb,32,[J ra rl rc,J na m nc,J ta n tc,W p,vi 0,vi pg])]))<|(aG (l₁:=[_,_,_]) (l₂:=g2)).cons _;refine ac.aeV G N O O (by rw[o.1.1];omega) λv3 H7 g3 j G ab=>?_;have G:=G.perm<|aG (l₂:=[_,_,_]);simp only[bQ,bX]at G;obtain⟨va,vl,vc,rfl⟩:=j.sl
 have ad:vl=m+1:=by
  have⟨_,_,_,e,h,_⟩:=j.KE (cs:=TT) (G.perm<|aG (l₁:=[_,_,_])) λ_ _=>trivial;cases e;rw[aU,o.1.1]at h;simp at h;omega
 subst ad;have n1:=G.nq 1 2 O O N;have n2:=G.nq 0 2 O O N;refine G.oq λHn G=>?_;refine splitK (λK P=>?_) ?_
 .simp only[U,V,Y,eZ,gN];rcases ab with e|e<;>rw[e]<;>apply nE (a:=rx) (b:=rb) n1 yX fQ fQ P
 refine fF ?_;rw[qP N N];refine bN ?_;rw[show((m+1:Nat):Int)-1=((m:Nat):Int) by omega];refine G.oq λHn G=>?_;refine splitK (λK P=>?_) ?_
 .simp only[eZ,gN];apply nE (a:=rz) (b:=rb) n2 yX fQ fQ P
 have G:=G.to (cs':=[J ra rl rc,J va (m+1) vc,J ta n tc,W p,vi 0,vi pg]) O;have M:=G.ext;have⟨_,_,_,e,_,hf⟩:=j.KE (cs:=Nw cs H.bV) (G.perm<|aG (l₁:=[_,_,_])) λe he=>.inr<|G.yu<|dL [_,_,_] he;cases e;have hE:=Dm (es:=5) (n:=m) o.1.1 (xs:=[vi z,J ka (u ks) kc,aJ t,J sa sn sc,vi at']) O;have y:∀{Q:R} r,r<Q.bV->cs r->Nw cs H.bV r:=λr _ h=>.inl h;refine rr ?_;refine G.uE 0 O (ax 6)<|⟨⟨_,m,p,m+1,0,O,⟨ra,rc,rcs,va,vc,_,ta,tc,pg,O,(B.ex M).by y,λhe i hi=>?_,h4,hf,λi hi=>?_,N,(h8.st M nofun).by y,h9⟩,N,λ_=>⟨N,rfl⟩⟩,M⟩
 .have⟨t,aa,ay,w,ch,at',r,f1,f2⟩:=h3 he i hi;exact⟨t,aa,ay,w,ch,at',r,f1,N⟩
 rcases dH i m with h|h
 .rw[show El (jw++_) 5 i=_ from hE.1 i h];exact((h6 i h).st M nofun).by y
 .obtain rfl:i=m:=N;rw[show El (jw++_) 5 i=_ from hE.2];exact(hl.st M nofun).by y
def aaR(hw:Wf H)(j:YG n cs H g p m rl 0)(hl:Zg cs H l m)(hp:p+1<n):bM Pg X 166 [g,dN ⟨l⟩] H (YR n (·=p+1) cs H m rl):=by
 obtain⟨z,ka,ks,kc,t,sa,sn,sc,at',rfl,_⟩:=id hl;obtain⟨ra,rc,rcs,na,nc,jw,ta,tc,pg,rfl,_⟩:=id j;have G:=gM hw;refine lF [0,1,2,3,4,5,6] ?_;refine G.box O λH1 rb G=>?_;refine G.box O λH2 rx G=>?_;refine G.jM λH3 rz G=>?_;refine fF ?_;refine(j.own G).call G G.ext.bV (λF' V B=>aeZ G.wf B<|(hl.own G).by V) λg' H4 k M U P j T Y G _=>?_;obtain⟨ra,rc,rcs,na,nc,jw,ta,tc,pg,rfl,_⟩:=id j;have W:=j.bd;have o:=G;have G:=G.base;refine G.kN ?_;refine G.j_ λy G=>?_;refine ym (λc=>?_) λc=>?_
 .obtain⟨I,rfl⟩:=Y c;apply G.qE;refine dA (k_ 1 O N)<|G.j_ λy G=>tl ?_;apply G.jl;refine G.j_ λy G=>?_;have j:=(j.turn G).to (q:=M+1) ⟨N,λ_=>hp⟩ O;have G:=o.over G;refine rr ?_;exact G.uE 0 O (ax 6)<|⟨⟨_,k,M+1,U,P,O,j.by λr _ h=>h.1,T,λ_=>⟨I,rfl⟩⟩,G.ext⟩
 .refine tl ?_;apply G.jl;refine G.j_ λy G=>?_;have j:=j.turn G;have G:=o.over G;refine rr ?_;exact G.uE 0 O (ax 6)<|⟨⟨_,k,M,U,P,O,j.by λr _ h=>h.1,T,λh=>absurd h c⟩,G.ext⟩
end
section
variable{cs:Nat->Prop}
def Yop(ae:FuncId)(n d s:Nat):Prop:=∀{cs:Nat->Prop}{H:R}{g:C}{p m rl:Nat},Wf H->YG n cs H g p m rl 0->bM Pg X ae [g,W d] H (YR n (p+s<=·) cs H m rl)
def IM{j sc:Nat}{at':Int}(h:c≠4):Zg cs H [vi c,J T 0 0,aJ t,J a j sc,vi at'] m:=⟨c,T,[],0,t,a,j,sc,at',O,jC.nil _ _ _ _ _,nofun,λe=>absurd e h,bD _⟩
abbrev La(rt rz rb:Nat)(tl gl:D C)(gb:D eF):D eF:=(rt,186,tl)::(rz,32,[J T 0 0,J T 0 0,J T 0 0,vi 0,vi 0,vi 0])::(rb,32,gl)::gb
abbrev lg(ra:aC Addr)(rl rc:Nat)(j:aC Addr)(m nc:Nat)(o:aC Addr)(n y p:Nat)(e at':Int):D C:=[J ra rl rc,J j m nc,J o n y,W p,vi e,vi at']
theorem yno{rt:Nat}{ra P I:aC Addr}{rc nc B:Nat}{xs:D Nat}{Y at' U:Int}{ve sv jW jh wB:C}(j:YG n (Ot cs H.bV<|La rt rz rb [vi Y,vi at',ve,aJ t,sv] (lg ra rl rc P hx nc I n B (p+1) 0 U) []) H1 (dN ⟨lg ra rl rc P hx nc I n B (p+1) 0 U⟩) (p+1) hx rl 0)(G:SH [] H H1<|La rt rz rb [vi Y,vi at',ve,aJ t,sv] (lg ra rl rc P hx nc I n B (p+1) 0 U) [])(ao:p+1<n)(a9:p+2<n)(hf:jC (λ_=>True) 3 H1 ea en 1<|gq xs)(a4:en<=3000000)(ba:u xs=en)(bb:∀x∈xs,x<=134217728):
 iC Pg X (.loop<|sub iK [1,1,0,1,0,1,1,1,1,1,1,1,1,1,0,1,1,1,1,0,1,0,0]) (mK x0 (W d) (pr rb) (pr rz) (vi 0) (pr rt) (J ea en ec) (J T 0 0) (vi 0) jW jh wB E H1) (uk 1<|uQ Pg X (sub iK [1,1,0,1,0,1,1,1,1,1,1,1,1,1,0,1,1,1,1,1])<|uk 0<|uQ Pg X (sub iK [1,1,1])<|jO Pg [.cell 4 32,.tmp 5]<|YR n (p+1<=·) cs H hx rl):=by
 refine lp2 8 9 (h1:=λm x8 x9 Q=>∃i bs gb,x9=W i/\GB 4 1 x8 (bools bs) gb/\u bs=i/\i+m=en/\SH [] H Q (La rt rz rb [vi Y,vi at',ve,aJ t,sv] (lg ra rl rc P hx nc I n B (p+1) 0 U) gb)/\YG n (Ot cs H.bV<|La rt rz rb [vi Y,vi at',ve,aJ t,sv] (lg ra rl rc P hx nc I n B (p+1) 0 U) gb) Q (dN ⟨lg ra rl rc P hx nc I n B (p+1) 0 U⟩) (p+1) hx rl 0/\jC (λ_=>True) 3 Q ea en 1 (gq xs)) ?_ en ⟨0,[],[],rfl,GB.nil _ _,rfl,bB en,G,j,hf⟩;clear j G hf;rintro m x8 x9 E M ⟨i,bs,gb,rfl,ac,bg,bi,G,j,hf⟩;have bf:=j.bd;refine mG (λhc=>?_) λhc=>?_
 .refine tl ?_;obtain⟨ga,gn,gc,rfl,a7,a6⟩:=ac.KE (cs:=λ_=>True) (G.perm<|aG (l₁:=[_,_,_])) λ_ _=>trivial;obtain rfl:gn=u bs:=by rw[aM]at a7;omega
  have G:SH [] H M (La rt rz rb [vi Y,vi at',ve,aJ t,sv] (lg ra rl rc P hx nc I n B (p+1) 0 U) []):=G.sub<|fB [_,_,_] gb;have j:=j.by (F':=Ot cs H.bV<|La rt rz rb [vi Y,vi at',ve,aJ t,sv] (lg ra rl rc P hx nc I n B (p+1) 0 U) []) λr _ h=>⟨h.1,λhm=>h.2 (by simp only[i_,bW,kI,fq,je]at hm|-;rcases hm with h|h|h<;>simp[h])⟩
  have n1:=G.nq 0 2 O O N;have n2:=G.nq 0 1 O O N;have n3:=G.nq 1 2 O O N;refine fF ?_;refine dn (akh (oC M) (show jC (λ_=>True) 3 (hN M) ea en 1 (gq xs)from hf) a4 ba bb (show jC (λ_=>True) 4 (hN M) ga (u bs) 1 (bools bs)from a6)) ?_;rintro v H3 ⟨⟨ca,cn,cc,rfl⟩,al⟩;have j:=j.ex (Q:=hM M H3) al.draw;have G:=G.oD al;refine fF ?_;refine j.anj G G.ext.bV (λF' hF a5=>aaR (oC _) a5 (IM jg) a9) λg' H5 k p' m' e' j hm hk G a3=>?_;obtain⟨_,_,_,_,_,_,_,_,_,rfl,_⟩:=id j;have a0:=G;have G:=G.base;refine G.kN ?_;refine G.oq λHn G=>(show∀K:Prop,K->_/\K fromλKz hK=>?_) _ ?_
  .simp only[eZ,gN,fP al,a3];apply AA (a:=rt) (b:=rz) (c:=rb) n2 n1 n3 yX fQ fQ hK
  have j:=j.turn G;have G:=a0.over G;refine rr ?_;exact G.uE 1 O (ax 6)<|⟨⟨_,k,p',m',e',O,j.by λr _ h=>h.1,hm,λh=>⟨(hk h).1,by have:=(hk h).2;omega⟩⟩,G.ext⟩
 have⟨_,_,_,_,_,_,_,_,_,e,_,_,_,_,_,_,⟨_,_,cs5,e5,hf5,_,ae0⟩,_⟩:=id j;cases e;cases e5;have⟨r,o,ei,hr,hcl,o0,e6,ho⟩:=hf5.1.idx (c:=B) N ao;have⟨_,UY,e5',t5,x5,hk5,_,Zh,_⟩:=ae0 (p+1) ao
 have an:cs5[(p+1)*5+4]?=Z x5:=by
  have:=eY (λl=>l[4]?) hk5;simp only[oN]at this;simpa using this
 have⟨r2,o2,e2,hr2,xz,o3,e7,ho2⟩:=hf.1.idx (c:=ec) N (show i<en by omega);have aq:(gq xs)[i]?=Z (W xs[i]):=jV _<|av N;have am:=G;have G:=G.base;refine fF ?_;refine dA ei<|bN ?_;refine iV (H:=hN M) (hcl 4 _ N an) ?_;simp only[iU G.wf];refine dA e2<|iV (H:=hN M) (xz 0 _ N (by rw[dY,dZ];exact aq)) ?_;simp only[iU G.wf];refine dn (ao2 (cs:=Ot cs H.bV<|La rt rz rb [vi Y,vi at',ve,aJ t,sv] (lg ra rl rc P hx nc I n B (p+1) 0 U) gb) (H:=hN M) Zh) ?_;rintro v H3 ⟨⟨bh,rfl⟩,rfl⟩;simp only[iU G.wf,PP];refine G.R4 O O O N λH4 ry G a1=>?_;have ab:=G;refine ac.KB (G.perm<|(aG (l₁:=[_,_,_])).cons _) N O O (by rw[aM];omega) λv' H5 iX ad G bj VC a2=>?_;have G:=G.perm<|aG (l₂:=[_,_,_]);simp only[bQ,bX]at G;have ap:=am.Az (ty:=3) (by simp[ac.all])
 have a8:r∉((La rt rz rb [vi Y,vi at',ve,aJ t,sv] (lg ra rl rc P hx nc I n B (p+1) 0 U) gb:D eF).map (·.1)):=by
  have:=hf5.2 r o0 e6 N;exact this.1.2
 have aE:r2∉((La rt rz rb [vi Y,vi at',ve,aJ t,sv] (lg ra rl rc P hx nc I n B (p+1) 0 U) gb:D eF).map (·.1)):=λh=>ap r2 h (hf.2 r2 o3 e7 N).2.2
 have rd:∀{r o v},r<M.bV->r∉((La rt rz rb [vi Y,vi at',ve,aJ t,sv] (lg ra rl rc P hx nc I n B (p+1) 0 U) gb:D eF).map (·.1))->M.cell r o=Z v->qL v v=f->∀w:Cl,w=⟨2,0,0,0,hM M H4,H5⟩->oV w ⟨4,r,o,1,hh0,hh0⟩=f:=λ{r o v} hr hn hc hs w hw=>by
  subst hw;have e1:=ab.ext.obj r hr hn;have e2:=VC r (aP hr ab.ext.bV) λh=>hn (by simp only[i_,bW];exact .inr<|.inr<|.inr h);exact Ck ((xD e1 o 1).trans<|acL hc) ((xD (e2.trans e1) o 1).trans<|acL hc) (Ag λy V=>by rw[aS]at V;subst V;exact hs)
 have r1:=rd hr2 aE (xz 0 _ N (by rw[dY,dZ];exact aq))<|yQ _ _;have⟨xa,xn,xc,zs,ex5,_,_,_,hsp⟩:=id Zh;have bc:=rd hr a8 (hcl 4 _ N an) (by rw[ex5];exact qR _ _ _ hsp)
 have aw:∀{o v},(o=2/\v=J I n B\/o=3/\v=W (p+1))->∀w:Cl,w=⟨2,0,0,0,hM M H4,H5⟩->oV w ⟨4,rb,o,1,hh0,hh0⟩=f:=λ{o v} ho w hw=>by
  subst hw;have b2:Bk H5 rb 32 _:=(G.get 2 O).iB O;refine sF (ab.get 3 O) b2 (by show o+1<=6;omega) λy V=>?_;rcases ho with⟨rfl,rfl⟩|⟨rfl,rfl⟩
  .have V:y∈[J I n B]:=V;rw[aS]at V;subst V;exact qR _ _ _ λz hz=>by rw[e6]at hz;cases hz;rfl
  .have V:y∈[W (p+1)]:=V;rw[aS]at V;subst V;exact yQ _ _
 refine(show∀K:Prop,K->_/\K fromλKz hK=>?_) _ ?_
 .simp only[a1,eZ,fP<|Ext.refl<|hN _];rcases a2 with e|e<;>rw[e]<;>apply Gd (au:=λw=>w=⟨2,0,0,0,hM M H4,H5⟩) fQ fQ hK<;>repeat' apply iZ
  all_goals first|exact trivial|(intro h;cases h;done)|exactλ_=>rfl|exactλ_=>r1|exactλ_=>bc|exactλ_=>aw (.inl ⟨rfl,rfl⟩)|exactλ_=>aw<|.inr ⟨rfl,rfl⟩
 have hf:=hf.stay G.ext λq hq=>.inr<|ap q hq;have j:=j.turn G;have G:=am.over G;exact dA (k_ 1 O N)<|⟨m-1,N,_,_,_,_,O,i+1,bs++[!bh],iX,O,by rw[show bools (bs++[!bh])=bools bs++[aO !bh]from dK];exact ad,by simp;omega,N,G,j,hf⟩
end
section
variable{cs:Nat->Prop}
theorem ank(hd:d<=40)(ih:d<40->Yop 106 n (d+1) 0):Yop 165 n d 1:=by
 intro cs H g p m rl hw hg;have a8:=hg.bd;have a3:=a8.2.1 O;obtain⟨ra,rc,rcs,na,nc,jw,ta,tc,pg,rfl,_⟩:=id hg;have G:=gM hw;refine ce [0,1,2,4,5,6,7,8,9,10,11,19]<|iC.yw λK hK=>?_;refine tl ?_;refine G.box O λH1 rb G=>?_;refine G.jM λH2 rz G=>?_;refine fF ?_;have⟨_,_,_,_,_,_,_,_,_,e,_,_,_,_,_,_,⟨_,_,F,e2,hf,hn,hrow⟩,_⟩:=hg.ex G.ext;cases e;cases e2;have⟨k,at',e',t,x,hk,_,hset,k1,k2,k3⟩:=hrow p a3;obtain⟨sa,sn,sc,zs,rfl,_⟩:=id hset;refine hf.VS N a3 hk λq=>G.og O O O λH3 rt G bh=>?_;have G:SH [] H H3 (La rt rz rb [vi k,vi at',vi e',aJ t,J sa sn sc] (lg ra rl rc na m nc ta n tc p 0 pg) []):=G;have hb:=G.ext.bV;have j:=hg.own G;refine fF ?_
 have P:k≠0->p+1<n:=λh=>by
  have:p+1≠n:=λe=>h<|k3 e;omega
 have go:∀{b:Bool}{E},Ci E 20=aO b->(b=f->k=1\/k=2)->iC Pg X (sub iK [1,1,0,1,0,1]) (mK (dN ⟨lg ra rl rc na m nc ta n tc p 0 pg⟩) (W d) (pr rb) (pr rz) (vi 0) (pr rt) top top top top top (vi k) E H3) (uk 0<|uQ Pg X (sub iK [1,1,1]) K):=by
  intro b E ac hb;refine tl ?_;rw[ac,hK];cases b;rotate_left
  .refine fF ?_;refine YG.ret j G (i:=1) O O (az:=(·=p+1)) (R':=(p+1<=·)) (λq h=>N) (ax _) (λF' hF y=>aaR G.wf y (IM jg)<|P (by have:=hb O;omega)) λv g' c aa U hY I=>?_;refine rr ?_;exact I hY
  refine tJ (λc=>?_) λ_=>?_
  .refine fF ?_;refine YG.ret j G (i:=1) O O (az:=(·=p+1)) (R':=(p+1<=·)) (λq h=>N) (ax _) (λF' hF y=>aaR G.wf y (IM jg)<|P N) λv g' c aa U hY I=>rr ?_;exact I hY
  refine aV (λc=>?_) λ_=>?_
  .refine fF ?_;refine YG.ret j G (i:=1) O O (az:=(·=p+1)) (R':=(p+1<=·)) (λq h=>N) (ax _) (λF' hF y=>aaR G.wf y (IM jg)<|P N) λv g' c aa U hY I=>rr ?_;exact I hY
  refine aV (λc=>?_) λ_=>?_
  .refine fF ?_;refine(gM G.wf).bS O O O N λU ry xG=>?_;have j:=j.ex xG.ext;have G:=G.call xG.ext;refine fF ?_;refine YG.ret j G (i:=1) O O (az:=(·=p+1)) (R':=(p+1<=·)) (λq h=>N) (ax _) (λF' hF y=>aaR G.wf y (IM jg)<|P N) λv g' c aa U hY I=>rr ?_;exact I hY
  refine aV (λc=>?_) λ_=>?_
  .have hp:=P N;have B:=G;have G:=G.base;apply G.qE;refine dA (k_ 1 O N)<|G.j_ λHn G=>?_;apply G.jl;have j:=(j.turn G).to (q:=p+1) ⟨N,λ_=>hp⟩ O;have G:=B.over G;refine dn (CB G.wf j hp) ?_;rintro v H5 ⟨⟨k5,rfl,_,_,k6⟩,M⟩;have j:=j.ex M;have G:=G.call M;refine yl (λc=>?_) λc=>?_
   .refine G.jl<|YG.aeY (i:=1) j G O O (ax _) jg λg' aa U hY I=>?_;refine rr ?_;exact I hY
   refine fF ?_;have⟨_,_,_,_,_,_,_,_,_,e,_,_,_,_,_,_,⟨_,_,cs5,e5,hf5,_,ae0⟩,_⟩:=id j;cases e;cases e5;have⟨r,o,ei,I,hcl,_⟩:=hf5.1.idx (c:=tc) N hp;have⟨_,UY,e5',t5,x5,hk5,_,Zh,_⟩:=ae0 (p+1) hp
   have a9:cs5[(p+1)*5+4]?=Z x5:=by
    have:=eY (λl=>l[4]?) hk5;simp only[oN]at this;simpa using this
   refine dA ei<|bN ?_;refine iV (hcl 4 _ N a9)<|dn (akg G.wf Zh) ?_;rintro v H6 ⟨ab,M⟩;have j:=j.ex M;have G:=G.call M;obtain⟨ea,en,ec,xs,rfl,bb,ba,bc,bf⟩:=ab.fl
   exact yno j G hp (by
    have:p+1+1≠n:=λe=>by rw[k6 e]at c;exact absurd c jg
    omega) bb ba bc bf
  have a0:∀{c:Int}{x9 jW jh:C}{E:C->C->Rs},c≠0->ME (yh (Z 6) (pr rb) H3) λv Q=>bM Pg X 105 [v,vi c] Q λa4 Q=>ME (GU 6 (pr rz) a4 Q) λ_ Q=>jO Pg [.cell 4 32,.tmp 5] (YR n (p+1<=·) cs H m rl) (.ret<|mK (dN ⟨lg ra rl rc na m nc ta n tc p 0 pg⟩) (W d) (pr rb) (pr rz) (vi 0) (pr rt) top top x9 jW jh (vi k) (E a4 v) Q):=by
   intro c x9 jW jh E hc;refine G.jl<|YG.aeY (i:=1) j G O O (ax _) hc λg' aa U hY I=>?_;refine rr ?_;exact I hY
  refine nO (λ_=>?_) λc=>?_
  .refine tl ?_;exact a0 jg
  refine aV (λ_=>a0 jg) λbg=>?_;have hp:=P N;have B:=G;have G:=G.base;apply G.qE;refine dA (k_ 1 O N)<|G.j_ λHn G=>?_;apply G.jl;refine dA (k_ 1 O N) ?_;have j:=(j.turn G).to (q:=p+1) ⟨N,λ_=>hp⟩ O;have G:=B.over G;refine j.call G G.ext.bV (λF' hF y=>ih N G.wf y) λg' U k4 T m4 V j ad a2 G bi=>?_;obtain⟨ap,aq,_,am,an,_,aw,aE,Y,rfl,_⟩:=id j;have a7:=j.bd;refine bN ?_;have B:=G;have G:=G.base;refine G.agt λH5 ao G bj=>?_
  have a1:∀{b:Bool}{H6:R}{E:Rs},Ci E 140=aO b->(b=f->V=0)->(b=aA->V=0->T+1<n)->SH [] H H6 ((ao,32,lg ap rl aq am m4 an aw n aE T V Y)::La rt rz rb [vi k,vi at',vi e',aJ t,J sa sn sc] (lg ra rl rc na m nc ta n tc (p+1) 0 pg) [])->YG n (Ot cs H.bV<|(ao,32,lg ap rl aq am m4 an aw n aE T V Y)::La rt rz rb [vi k,vi at',vi e',aJ t,J sa sn sc] (lg ra rl rc na m nc ta n tc (p+1) 0 pg) []) H6 (dN ⟨lg ap rl aq am m4 an aw n aE T V Y⟩) T m4 rl V->iC Pg X (sub iK [1,1,0,1,0,1,1,1,1,1,1,1,1,1,1,1,0,1,1,1,0,1]) (mK (dN ⟨lg ra rl rc na m nc ta n tc p 0 pg⟩) (W d) (pr rb) (pr rz) (vi 0) (pr rt) top top top (pr ao) (W k4) (vi k) E H6) (uQ Pg X (sub iK [1,1,0,1,0,1,1,1,1,1,1,1,1,1,1,1,0,1,1,1,1])<|uk 0<|uQ Pg X (sub iK [1,1,1])<|jO Pg [.cell 4 32,.tmp 5]<|YR n (p+1<=·) cs H m rl):=by
   intro b H6 E ac a5 a6 G j;refine tl ?_;rw[ac];cases b;rotate_left
   .obtain rfl:=a5 O;refine fF ?_;refine YG.aeY (i:=2) j G O O ad jg λg' aa U hY I=>?_;refine rr ?_;exact I hY
   refine bN ?_;refine tl ?_;have B:=G;have G:=G.base;refine ym (λc4=>?_) λc4=>?_
   .have al:=a6 O c4;apply G.qE;refine dA (k_ 1 O N)<|G.j_ λHn G=>?_;refine tm ?_;refine G.j_ λHn G=>?_;have j:=(j.turn G).to (q:=T+1) ⟨N,λ_=>al⟩ O;have G:=B.over G;refine rr ?_;exact G.uE 2 O (ax 6)<|⟨⟨_,k4,T+1,m4,V,O,j.by λr _ h=>h.1,ad,λh=>⟨(a2 h).1,by have:=(a2 h).2;omega⟩⟩,G.ext⟩
   .refine tm ?_;refine G.j_ λHn G=>?_;have j:=j.turn G;have G:=B.over G;refine rr ?_;exact G.uE 2 O (ax 6)<|⟨⟨_,k4,T,m4,V,O,j.by λr _ h=>h.1,ad,λh=>absurd h c4⟩,G.ext⟩
  refine G.kN ?_;refine G.j_ λHn G=>?_;refine fF ?_;have j:=j.turn G;have G:=B.over G;refine aV (λc4=>?_) λc4=>a1 O (nofun) (λ_ h=>absurd h c4) G j;subst c4;have al:=a7.2.1 O;refine fF ?_;refine dn (CB G.wf j al) ?_;rintro v H6 ⟨⟨k6,rfl,_,_,k7⟩,M⟩;have j:=j.ex M;have G:=G.call M;refine bN ?_
  exact a1 O (λ_=>rfl) (λh _=>by
   have h:k6=9:=om h;have:T+1≠n:=λe=>by have:=k7 e;omega
   omega) G j
 exact aV (λc=>go (by rw[bY c];rfl) λ_=>.inl c) λc=>go (by rfl) λh=>.inr<|gF h
end
section
variable{cs:Nat->Prop}
abbrev Lz(rz rb:Nat)(gl:D C)(gb:D eF):D eF:=(rz,32,[J T 0 0,J T 0 0,J T 0 0,vi 0,vi 0,vi 0])::(rb,32,gl)::gb
def aiG{ks:D C}(o:GB 3 1 v ks gb)(G:SH [] H H1<|Lz rz rb gl gb):∃a m c,v=J a m c/\u ks=m/\jC (Ot cs H.bV<|Lz rz rb gl []) 3 H1 a m 1 ks:=by
 have B:=G.perm<|aG (l₁:=[_,_])
 have⟨a,m,c,e,hn,hf⟩:=o.KE (cs:=Ot cs H.bV<|Lz rz rb gl []) B λe j=>⟨.inr<|B.yu<|dM _ j,λy=>by
  rcases o with⟨_,_,rfl⟩|⟨r,n,I,_,_,rfl⟩
  .cases j
  .rw[aS]at j;subst j;simp only[i_,kI,bW,fq,je]at y;rcases y with h|h
   .exact absurd h (G.nq 0 2 O O jg).symm
   .exact absurd h (G.nq 1 2 O O jg).symm⟩
 exact⟨a,m,c,e,N,hf⟩
def YG.less(o:YG n (Ot cs H.bV<|Lz rz rb gl gb) H1 g p m rl e):YG n (Ot cs H.bV<|Lz rz rb gl []) H1 g p m rl e:=
 o.by λr _ h=>⟨h.1,λj=>h.2 (by simp only[i_,bW,kI,fq,je]at j|-;rcases j with h|h<;>simp[h])⟩
theorem ao4(ih:Yop 165 n d 1):Yop 137 n d 0:=by
 intro cs H g p m rl hw o;have a3:=o.bd;have bi:=a3.2.1 O;obtain⟨ad,al,_,ab,ac,_,am,an,pg,rfl,_⟩:=id o;have G:=gM hw;refine lF [0,1,2,4,5,6,7,8,9] ?_;refine G.box O λH1 rb G=>?_;refine G.jM λH2 rz G=>?_;refine Ov 6 7 8 9 (h1:=λz x6 x7 B x9 Q=>∃q ae e ks gb gl,GB 3 1 x6 (gq ks) gb/\u ks<=20002/\m<=ae/\(e=0->n<=q+z/\p<=q/\u ks<=q-p/\∀k∈ks,k<ae)/\SH [] H Q (Lz rz rb gl gb)/\YG n (Ot cs H.bV<|Lz rz rb gl gb) Q (dN ⟨gl⟩) q ae rl e) ?_ (n-p) ⟨p,m,0,[],[],_,GB.nil _ _,bD _,ax _,λ_=>⟨N,ax _,bD _,nofun⟩,G,o.own G⟩;clear o G;rintro z x6 x7 B x9 E H3 ⟨q,ae,e,ks,gb,gl,aw,bh,aE,he,G,o⟩;have a8:=o.bd;have⟨ra,rc,rcs,na,nc,jw,ta,tc,Q7,e1,_⟩:=id o;cases e1;refine iC.yw λK hK=>?_
 have a0:∀{H4:R}{x7 B x9:C}{E:Rs},SH [] H H4 (Lz rz rb (lg ra rl rc na ae nc ta n tc q e Q7) gb)->YG n (Ot cs H.bV<|Lz rz rb (lg ra rl rc na ae nc ta n tc q e Q7) gb) H4 (dN ⟨lg ra rl rc na ae nc ta n tc q e Q7⟩) q ae rl e->iC Pg X (sub lJ [1,1,1]) (kZ (dN ⟨lg ad rl al ab m ac am n an p 0 pg⟩) (W d) (pr rb) (pr rz) (vi 0) x6 x7 B x9 E H4) (jO Pg [.cell 4 32,.tmp 5]<|YR n (p+0<=·) cs H m rl):=by
  intro H4 x7 B x9 E G o;obtain⟨a,j,c,rfl,hj,hf⟩:=aiG aw G;rw[aM]at hj;subst hj;have o:=o.less;have G:SH [] H H4 (Lz rz rb _ []):=G.sub<|fB [_,_] gb;refine al4 (λc=>?_) λc=>?_
  .have y:=G;have G:=G.base;refine G.jl<|G.j_ λHn G=>?_;have o:=o.turn G;have G:=y.over G;refine rr ?_;exact G.uE 0 O (ax 6)<|⟨⟨_,0,q,ae,e,O,o.by λr _ h=>h.1,aE,λh=>absurd h c⟩,G.ext⟩
  subst c;refine fF ?_;refine YG.ret o G (i:=0) O O (az:=(·=q)) (R':=(p+0<=·)) (λq' h=>by have:=(he O).2.1;omega) aE (λF' hF Y=>aeZ G.wf Y ⟨1,a,ks,_,_,T,0,0,0,rfl,hf.by hF,(he O).2.2.2,λh=>absurd h jg,N⟩) λv g' c aa H5 hY hr=>?_;refine rr ?_;exact hr hY
 refine agk (λc=>?_) λc=>?_
 .rw[hK];exact a0 G o
 subst c;have a9:=a8.2.1 O;refine G.jl<|dn (CB G.wf o a9) ?_;rintro v H4 ⟨⟨k,rfl,k0,k1,k2⟩,M⟩;have o:=o.ex M;have G:=G.call M;refine bN ?_
 have P:k≠0->∀{B x9:C}{E:Rs},iC Pg X (sub lJ [1,1,0,0,0,1,0,1,1]) (kZ (dN ⟨lg ad rl al ab m ac am n an p 0 pg⟩) (W d) (pr rb) (pr rz) (vi 0) x6 (vi k) B x9 E H4) (uk 1 K):=by
  intro hk B x9 E;refine tm ?_;refine o.call G G.ext.bV (λF' hF Y=>ih G.wf Y) λg' H5 k5 U V e5 o bg ao G _=>?_;have a1:=o.bd;obtain⟨ra,rc,rcs,na,nc,jw,ta,tc,UY,rfl,_⟩:=id o;refine bN ?_;have y:=G;have G:=G.base;refine G.agt λH6 r8 G bj=>G.j_ λHn G=>?_;apply G.jl;refine G.j_ λHn G=>?_;refine fF ?_;have o:=o.turn G;have G:=y.over G;have G:SH [] H Hn (Lz rz rb (lg ra rl rc na V nc ta n tc U e5 UY) gb):=fV (A:=[_]) G;have o:YG n (Ot cs H.bV<|Lz rz rb (lg ra rl rc na V nc ta n tc U e5 UY) gb) Hn _ U V rl e5:=o.by λr _ h=>⟨h.1,λhm=>h.2<|bJ _ hm⟩
  have app:∀{H6:R}{gl:D C}{q1 N1 c:Nat}{e1:Int}{B:C}{E:Rs},V<=N1->(e1=0->q<q1/\c<N1)->SH [] H H6 (Lz rz rb gl gb)->YG n (Ot cs H.bV<|Lz rz rb gl gb) H6 (dN ⟨gl⟩) q1 N1 rl e1->iC Pg X (sub lJ [1,1,0,0,0,1,0,1,1,1,1,1]) (kZ (dN ⟨lg ad rl al ab m ac am n an p 0 pg⟩) (W d) (pr rb) (pr rz) (vi 0) x6 (vi k) B (W c) E H6) (uk 1 K):=by
   intro H6 gl q1 N1 c e1 B E bf I G o;have⟨f1,f2,f3,f4⟩:=he O;have hb:=o.bd;have y:=G;have G:=G.base;refine tl<|aw.push (G.perm<|aG (l₁:=[_,_])) N O O O O O N (by rw[aM];omega) λw v' H7 iX ap G=>?_;have G:=G.perm<|aG (l₂:=[_,_]);refine bN ?_;rw[hK];refine⟨z-1,N,_,_,_,_,_,_,O,q1,N1,e1,ks++[c],iX,_,by rw[show gq (ks++[c])=gq ks++[W c]from dK];exact ap,?_,N,λh=>?_,y.over G,o.turn G⟩
   .rw[aU];show u ks+1<=_;omega
   have⟨g1,g2⟩:=I h;refine⟨N,N,by rw[aU];show u ks+1<=_;omega,λj hj=>?_⟩;rcases cB.1 hj with h|h
   .have:=f4 j h;omega
   .rw[aS.1 h];exact g2
  have no:∀{H6:R}{B:C}{E:Rs},Ci E 52=aO aA->SH [] H H6 (Lz rz rb (lg ra rl rc na V nc ta n tc U e5 UY) gb)->YG n (Ot cs H.bV<|Lz rz rb (lg ra rl rc na V nc ta n tc U e5 UY) gb) H6 (dN ⟨lg ra rl rc na V nc ta n tc U e5 UY⟩) U V rl e5->iC Pg X (sub lJ [1,1,0,0,0,1,0,1,1,1,1,0,1]) (kZ (dN ⟨lg ad rl al ab m ac am n an p 0 pg⟩) (W d) (pr rb) (pr rz) (vi 0) x6 (vi k) B (W k5) E H6) (uQ Pg X (sub lJ [1,1,0,0,0,1,0,1,1,1,1,1])<|uk 1 K):=by
   intro H6 B E a6 G o;refine tl ?_;rw[a6];refine bN ?_;exact app (ax _) (λh=>⟨(ao h).2,(ao h).1⟩) G o
  refine aV (λc5=>?_) λ_=>no O G o;subst c5;have aq:=a1.2.1 O;refine G.jl<|dn (CB G.wf o aq) ?_;rintro v H7 ⟨⟨k6,rfl,_,_,k7⟩,M⟩;have o:=o.ex M;have G:=G.call M;refine bN ?_;refine aV (λc1=>?_) λ_=>no O G o;refine G.jl<|dn (CB G.wf o aq) ?_;rintro v H8 ⟨⟨k8,rfl,_⟩,M⟩;have o:=o.ex M;have G:=G.call M;refine bN ?_
  by_cases c2:k8<=12
  rotate_left
  .exact no (by rw[dQ c2];rfl) G o
  rw[bY c2]
  have a7:U+1<n:=by
   have:U+1≠n:=λe=>by have:=k7 e;omega
   omega
  refine tm ?_;refine dn (CB (oC H8) (show YG n _ (hN H8) _ U V rl 0 from o) aq) ?_;rintro v H9 ⟨⟨k9,rfl,bl,bm,_⟩,GY⟩;have o:=o.ex (Q:=hM H8 H9) GY.draw;have G:=G.oD GY;rw[qP N N];refine bN ?_;have y:=G;have G:=G.base;refine G.R4 O O O N λCw ry G a4=>?_;have o:=o.turn G;have o:YG n (Ot cs H.bV<|Lz rz rb (lg ra rl rc na V nc ta n tc U 0 UY) gb) _ _ U V rl 0:=o.by λr _ h=>⟨h.1,λhm=>h.2<|bJ _ hm⟩
  have y:=y.over G
  have ba:Ot cs H.bV (Lz rz rb (lg ra rl rc na V nc ta n tc U 0 UY) gb) ry:=⟨.inr<|y.yu<|aK ..,λhm=>by
   have⟨e,he,e2⟩:=bT.1 hm;exact SH.apart (A:=[(ry,3,cr<|W k5)]) y (aS.2 O) he e2.symm⟩
  have hk:=(y.get 0 O).UT (n:=1) (es:=1) (y.lo _<|aK ..).2 O ba;have G:=fV (A:=[_]) y;refine o.anj G G.ext.bV (λF' hF Y=>aaR (oC _) Y ⟨k9-8,Z ⟨ry,0,T⟩,[k5],1,⟨#[]⟩,T,0,0,0,rfl,(show jC _ 3 (hN<|hM (hM H8 H9) Cw) _ 1 1 (gq [k5])from hk).by hF,λj hj=>by rw[aS.1 hj];exact(ao O).1,nofun,(show 1<=20003 by decide)⟩ a7) λg' Rt bn bo bb bc o a2 VH G a5=>?_;obtain⟨_,_,_,_,_,_,_,_,_,rfl,_⟩:=id o;have y:=G;have G:=G.base;refine G.kN ?_;refine G.oq λHn G=>(show∀K:Prop,K->_/\K fromλKz hK=>?_) _ ?_
  .simp only[eZ,gN,fP GY,a4,a5];apply Gc (a:=rb) yX fQ fQ hK
  exact app a2 (λh=>⟨by have:=(VH h).2;have:=(ao O).2;omega,(VH h).1⟩) (y.over G)<|o.turn G
 have exit:∀{B x9 E},K (.exit 0<|kZ (dN ⟨lg ad rl al ab m ac am n an p 0 pg⟩) (W d) (pr rb) (pr rz) (vi 0) x6 (vi k) B x9 E H4):=by
  intro B x9 E;rw[hK];exact a0 G o
 refine aV (λc1=>exit) λc1=>?_;refine aV (λc2=>?_) λc2=>P N;refine eU (λc3=>?_) λc3=>P N;refine eU (λc4=>?_) λc4=>P N;exact eU (λc5=>exit) λc5=>P N
end
section
variable{cs:Nat->Prop}
theorem ae1(ih:Yop 137 n d 0):Yop 106 n d 0:=by
 intro cs H g p m rl hw y;have a2:=y.bd;have bb:=a2.2.1 O;obtain⟨aq,aw,_,an,ao,_,aE,a0,pg,rfl,_⟩:=id y;have G:=gM hw;refine lF [0,1,2,4,5,6,7,8] ?_;refine G.box O λH1 rb G=>?_;refine G.jM λH2 rz G=>?_
 have ap:∀{H4:R}{q ae:Nat}{e:Int}{B:D Nat}{gb:D eF}{gl:D C}{x6 x7 x8:C}{E:Rs},GB 3 1 x6 (gq B) gb->0<u B/\u B<=20003->m<=ae->(e=0->p<=q/\∀k∈B,k<ae)->SH [] H H4 (Lz rz rb gl gb)->YG n (Ot cs H.bV<|Lz rz rb gl gb) H4 (dN ⟨gl⟩) q ae rl e->iC Pg X (sub oG [1,1,1]) (rD (dN ⟨lg aq rl aw an m ao aE n a0 p 0 pg⟩) (W d) (pr rb) (pr rz) (vi 0) x6 x7 x8 E H4) (jO Pg [.cell 4 32,.tmp 5]<|YR n (p+0<=·) cs H m rl):=by
  intro H4 q ae e B gb gl x6 x7 x8 E ac V ad he G y;obtain⟨a,j,c,rfl,hj,hf⟩:=aiG ac G;rw[aM]at hj;subst hj;have y:=y.less;have G:SH [] H H4 (Lz rz rb _ []):=G.sub<|fB [_,_] gb;have⟨ra,rc,_,na,nc,_,ta,tc,Q7,e1,_⟩:=id y;cases e1
  have one:∀{b:Bool}{E:Rs},Ci E 42=aO b->(b=aA->e=0)->iC Pg X (sub oG [1,1,1,0,1]) (rD (dN ⟨lg aq rl aw an m ao aE n a0 p 0 pg⟩) (W d) (pr rb) (pr rz) (vi 0) (J a (u B) c) x7 x8 E H4) (uQ Pg X (sub oG [1,1,1,1])<|jO Pg [.cell 4 32,.tmp 5]<|YR n (p+0<=·) cs H m rl):=by
   intro b E a5 hb;refine tl ?_;rw[a5];cases b
   .have hb:=hb O;subst hb;refine bN ?_;refine tm ?_;refine YG.ret y G (i:=0) O O (az:=(·=q)) (R':=(p+0<=·)) (λq' h=>by have:=(he O).1;omega) ad (λF' hF ab=>aeZ G.wf ab ⟨0,a,B,c,_,T,0,0,0,rfl,hf.by hF,(he O).2,λh=>absurd h jg,V.2⟩) λv g' c aa H5 hY hr=>?_;refine rr ?_;exact hr hY
   have⟨r,o,e1,hr,hcl,o0,e6,ho⟩:=hf.1.idx (c:=c) N V.1;have hk:=V.1;have hF:=hf.2 r o0 e6 V.1;have n1:rz≠r:=λe=>hF.1.2<|e▸aK ..
   have n2:r≠rb:=λe=>hF.1.2<|e▸bJ _ (aK ..);have n3:=G.nq 0 1 O O N;have U:=G;have G:=G.base;refine fF ?_;refine dA e1<|iV (H:=hN H4) (hcl 0 _ N<|jV _<|av V.1) ?_;refine G.kN ?_;refine G.oq λHn G=>?_;refine(show∀K:Prop,K->_/\K fromλKz hK=>?_) _ ?_
   .simp only[eZ,gN];apply AA (a:=rz) (b:=r) (c:=rb) n1 n3 n2 yX fQ fQ hK
   have y:=y.turn G;have G:=U.over G;refine rr ?_;refine G.uE 0 O (ax 6) ?_;exact⟨⟨_,B[0],q,ae,e,O,y.by λr _ h=>h.1,ad,λh=>⟨(he h).2 _<|bH _,(he h).1⟩⟩,G.ext⟩
  refine tm ?_;exact eU (λ_=>one O nofun) λh=>one O λ_=>h
 refine Gg 6 7 8 (h1:=λz x6 x7 x8 Q=>∃q ae B gb gl,GB 3 1 x6 (gq B) gb/\m<=ae/\n<=q+z/\p<=q/\u B<=q-p/\(∀k∈B,k<ae)/\SH [] H Q (Lz rz rb gl gb)/\YG n (Ot cs H.bV<|Lz rz rb gl gb) Q (dN ⟨gl⟩) q ae rl 0) ?_ (n-p) ⟨p,m,[],[],_,GB.nil _ _,ax _,N,ax _,bD _,nofun,G,y.own G⟩;clear y G;rintro z x6 x7 x8 E H3 ⟨q,ae,B,gb,gl,ac,ad,bh,bc,ba,a4,G,y⟩;have a8:=y.bd;have bg:=a8.2.1 O;have⟨ra,rc,rcs,na,nc,jw,ta,tc,Q7,e1,_⟩:=id y;cases e1;refine tm ?_;refine aV (λ_=>?_) λc=>absurd trivial c;apply G.jl;refine y.call G G.ext.bV (λF' hF ab=>ih G.wf ab) λg' H5 k5 Y N5 e5 y a9 am G _=>?_;have a1:=y.bd;obtain⟨ra,rc,rcs,na,nc,jw,ta,tc,UY,rfl,_⟩:=id y;refine bN ?_;have U:=G;have G:=G.base;refine G.agt λH6 r8 G bi=>G.j_ λHn G=>?_;apply G.jl;refine G.j_ λHn G=>?_;have y:=y.turn G;have G:=U.over G;have G:SH [] H Hn (Lz rz rb (lg ra rl rc na N5 nc ta n tc Y e5 UY) gb):=fV (A:=[_]) G;have y:YG n (Ot cs H.bV<|Lz rz rb (lg ra rl rc na N5 nc ta n tc Y e5 UY) gb) Hn _ Y N5 rl e5:=y.by λr _ h=>⟨h.1,λhm=>h.2<|bJ _ hm⟩
 have U:=G;have G:=G.base;refine ac.push (G.perm<|aG (l₁:=[_,_])) N O O O O O N (by rw[aM];omega) λw v' H7 iX P G=>?_;have G:=G.perm<|aG (l₂:=[_,_]);have P:GB 3 1 v' (gq<|B++[k5]) iX:=by rw[show gq (B++[k5])=gq B++[W k5]from dK];exact P
 have y:=y.turn G;have G:SH [] H H7 (Lz rz rb (lg ra rl rc na N5 nc ta n tc Y e5 UY) iX):=U.over G;have a3:u (B++[k5])=u B+1:=by rw[aU];rfl
 have al:e5=0->∀k∈B++[k5],k<N5:=λh j hj=>by
  rcases cB.1 hj with I|I
  .have:=a4 j I;omega
  .rw[aS.1 I];exact(am h).1
 refine fF ?_;refine eU (λc=>ap P N N (λh=>absurd h c) G y) λc5=>?_;subst c5;have bf:=(am O).2;have a6:=a1.2.1 O;refine G.jl<|dn (CB G.wf y a6) ?_;rintro v H8 ⟨⟨k,rfl,_,_,k7⟩,M⟩;have y:=y.ex M;have G:=G.call M;refine bN ?_;refine eU (λ_=>ap P N N (λ_=>⟨N,al O⟩) G y) λc6=>?_
 have a7:Y+1<n:=by
  have:Y+1≠n:=λe=>by have:=k7 e;omega
  omega
 refine tl ?_;have U:=G;have G:=G.base;refine fF ?_;refine dA (k_ 1 O N) ?_;refine G.j_ λHn G=>?_;have y:=(y.turn G).to (q:=Y+1) ⟨N,λ_=>a7⟩ O;have G:=U.over G;exact⟨z-1,N,_,_,_,_,_,O,Y+1,N5,B++[k5],iX,_,P,N,N,N,N,al O,G,y⟩
def ao6:∀z d,41<=d+z->d<=41->(d<=40->Yop 106 n d 0):=by
 intro z
 induction z with
 |zero=>intro d I B j;omega
 |succ z o=>exactλd I B j=>ae1<|ao4<|ank j λy=>o (d+1) N N N
end
section
variable{cs:Nat->Prop}{aa ay w:Bool}{at':Int}
abbrev Lr(rz r3 rb:Nat)(l gl:D C):D eF:=[(rz,32,[J T 0 0,J T 0 0,J T 0 0,vi 0,vi 0,vi 0]),(r3,194,l),(rb,32,gl)]
abbrev lr(t:aZ)(aa ay w:Bool)(ch:Int)(k:Nat)(at':Int):D C:=[aJ t,aO aa,aO ay,aO w,vi ch,W k,vi at']
def RT(n:Nat)(cs:Nat->Prop)(p:Nat)(v:C)(Q:R):Prop:=∃(B:aC Addr)(rl I:Nat)(o:aC Addr)(m y:Nat)(M:aC Addr)(N j:Nat)(e at':Int),v=dN ⟨lg B rl I o m y M n N j e at'⟩/\(e=0->p<j/\YG n cs Q v j m rl e)
abbrev RK(n:Nat)(cs:Nat->Prop)(H:R)(p:Nat):=jO Pg [.cell 2 32]<|Q1 (RT n (Nw cs H.bV) p) H
theorem anl(G:SH [] H H1<|Lr rz r3 rb (lr t aa ay w ch k at') gl)(y:YG n (Ot cs H.bV<|Lr rz r3 rb (lr t aa ay w ch k at') gl) H1 (dN ⟨gl⟩) p m rl e)(hp:e=0->p0<=p/\p+1<n/\k<m)(hl:rl<120):iC Pg X (sub fZ [1,1,1,1,1,1,1,1,1,1,1,1,1,1]) (gD x0 (pr rb) (pr rz) (pr r3) x4 x5 x6 E H1) (RK n cs H p0):=by
 have al:=y.bd;have⟨ra,rc,rcs,na,nc,jw,ta,tc,pg,e1,B,h3,h4,h5,h6,h7,h8,h9⟩:=id y;cases e1;refine tl ?_;have j:=G;have G:=G.base;refine fF ?_;refine dA (k_ 1 O N)<|G.j_ λP G=>?_;have y:=y.turn G;have G:=j.over G;have⟨ra,rc,rcs,na,nc,jw,ta,tc,pg,e1,B,h3,h4,h5,h6,h7,h8,h9⟩:=id y;cases e1;have j:=G;have G:=G.base;refine G.ake λH4 a G V=>?_;refine fF ?_;refine G.akf (n:=rl) (xs:=rcs) (tT (show Fl (hN<|hM P H4) ra rl 7 rcs from((B.stay G.ext λq I=>.inl λh=>h.2 I).1:Fl (hN<|hM P H4) ra rl 7 rcs)) N) B.1.1 N λv2 H5 g2 ac G W=>?_;have G:=G.perm<|aG (l₂:=[_,_,_]);simp only[bQ,bX]at G;refine fF ?_;refine G.R4 O O O N λH6 ry G Y=>?_;have G:=G.perm (L':=(ry,194,lr t aa ay w ch k at')::(g2++Lr rz r3 rb (lr t aa ay w ch k at') (lg ra rl rc na m nc ta n tc (p+1) e pg)))<|(aG (l₁:=[_,_,_]) (l₂:=g2)).cons _;refine ac.aeV G N O O (by rw[B.1.1];omega) λv3 H7 g3 o G ab=>?_;have G:=G.perm<|aG (l₂:=[_,_,_]);simp only[bQ,bX]at G;obtain⟨va,vl,vc,rfl⟩:=o.sl
 have ad:vl=rl+1:=by
  have⟨_,_,_,e,h,_⟩:=o.KE (cs:=TT) (G.perm<|aG (l₁:=[_,_,_])) λ_ _=>trivial;cases e;rw[aU,B.1.1]at h;simp at h;omega
 subst ad;have n1:=G.nq 1 2 O O N;refine G.oq λP G=>?_;refine splitK (λK hK=>?_) ?_
 .simp only[V,W,Y,eZ,gN];rcases ab with e|e<;>rw[e]<;>apply nE (a:=r3) (b:=rb) n1 yX fQ fQ hK
 refine G.jl<|G.j_ λP G=>?_;have M:=G.ext;have T:=j.over G;have⟨_,_,_,e1,_,hf⟩:=o.KE (cs:=Nw cs H.bV) (T.perm<|aG (l₁:=[_,_,_])) λe U=>.inr<|T.yu<|dL [_,_,_] U;cases e1;have hE:=Dm (es:=7) (n:=rl) B.1.1 (xs:=lr t aa ay w ch k at') O;have nw:∀{Q:R} r,r<Q.bV->Ot cs H.bV (Lr rz r3 rb (lr t aa ay w ch k at')<|lg ra rl rc na m nc ta n tc (p+1) e pg) r->Nw cs H.bV r:=λr _ h=>h.1;have no:∀q∈(Lr rz r3 rb (lr t aa ay w ch k at')<|lg ra rl rc na m nc ta n tc (p+1) e pg).map (·.1),¬Ot cs H.bV (Lr rz r3 rb (lr t aa ay w ch k at')<|lg ra rl rc na m nc ta n tc (p+1) e pg) q:=λq I h=>h.2 I;refine rr ?_;refine T.uE 0 O (ax 6)<|⟨⟨va,rl+1,vc,na,m,nc,ta,tc,p+1,e,pg,O,λU=>?_⟩,T.ext⟩;have⟨p1,p2,p3⟩:=hp U;refine⟨N,va,vc,_,na,nc,jw,ta,tc,pg,O,hf,λ_ i hi=>?_,N,(h5.stay M λq I=>.inl<|no q I).by nw,λi hi=>((h6 i hi).st M no).by nw,h7,(h8.st M no).by nw,N,λ_=>p2⟩;rcases dH i rl with h|h
 .rw[show El (rcs++_) 7 i=_ from hE.1 i h];exact h3 U i h
 .obtain rfl:i=rl:=N;rw[show El (rcs++_) 7 i=_ from hE.2];exact⟨t,aa,ay,w,ch,at',k,O,p3⟩
def RT.bad(O:YG n (Ot cs H0.bV L) H g p m rl 0)(G:SH [] H0 H L)(hi:L[i]?=Z (rz,32,F))(hl:u F=6)(N:c≠0)(kk:∀j aa H3,(∀{p0},Q1 (RT n (Nw cs H0.bV) p0) H0 j H3)->(∀{H':C->R->Prop},H' j H3->ME (yh (Z 6) (bG<|Z ⟨rz,0,T⟩) H3) H')->Kp j aa H3):bM Pg X 105 [g,vi c] H λv H1=>ME (GU 6 (bG<|Z ⟨rz,0,T⟩) v H1) λaa H2=>Kp v aa H2:=by
 refine YG.aeY O G hi hl (ax m) N λj aa H3 hY P=>kk j aa H3 ?_ P;obtain⟨⟨g2,k,Y,U,e,I,B,h3,y⟩,M⟩:=hY (az:=λ_=>False);cases I;obtain⟨ra,rc,rcs,V,W,jw,ta,tc,pg,o,_⟩:=id B;exact⟨⟨ra,rl,rc,V,U,W,ta,tc,Y,e,pg,o,λh=>(y h).2.elim⟩,M⟩
def anm(G:SH [] H H1<|Lr rz r3 rb (lr t aa ay w ch k at') gl)(j:YG n (Ot cs H.bV<|Lr rz r3 rb (lr t aa ay w ch k at') gl) H1 (dN ⟨gl⟩) p m rl e)(y:e=0->p0<=p/\k<m)(hl:rl<120):iC Pg X (sub fZ [1,1,1,1,1,1,1,1,1,1,1,1,1]) (gD x0 (pr rb) (pr rz) (pr r3) x4 x5 x6 E H1) (RK n cs H p0):=by
 have o:=j.bd;have⟨ra,rc,rcs,na,nc,jw,ta,tc,pg,e1,_⟩:=id j;cases e1;refine tm ?_;refine aV (λc=>?_) λc=>anl G j (λh=>absurd h c) hl;subst c;refine fF ?_;refine dn (CB G.wf j<|o.2.1 O) ?_;rintro v N ⟨⟨U,rfl,_,_,I⟩,M⟩;have j:=j.ex M;have G:=G.call M;refine yl (λ_=>?_) λc=>?_
 .refine G.jl<|RT.bad j G (i:=0) O O jg λT aa P hY B=>?_;refine rr ?_;exact B hY
 .exact anl G j (λh=>⟨(y h).1,by
   have:p+1≠n:=λe=>by have:=I e;omega
   have:=o.2.1 O;omega,(y h).2⟩) hl
theorem ann{b:Bool}(G:SH [] H H1<|Lr rz r3 rb (lr t aa ay w ch k at') gl)(o:YG n (Ot cs H.bV<|Lr rz r3 rb (lr t aa ay w ch k at') gl) H1 (dN ⟨gl⟩) p m rl e)(Y:e=0->p0<=p/\k<m)(hb:b=f->e=0/\p+1<n)(hl:rl<120)(hk:Ci E 123=aO b):
 iC Pg X (sub fZ [1,1,1,1,1,1,1,1,1,1,1,1,0,1]) (gD x0 (pr rb) (pr rz) (pr r3) x4 x5 x6 E H1) (uQ Pg X (sub fZ [1,1,1,1,1,1,1,1,1,1,1,1,1])<|RK n cs H p0):=by
 have ac:=o.bd;have⟨ra,rc,rcs,na,nc,jw,ta,tc,pg,e1,_⟩:=id o;cases e1;refine iC.yw λK B=>tl ?_;rw[hk];cases b
 .refine bN ?_;rw[B];refine bN ?_;exact anm G o Y hl
 obtain⟨rfl,I⟩:=hb O;have j:=G;have G:=G.base;refine fF ?_;refine dA (k_ 1 O N)<|G.j_ λy G=>?_;refine fF ?_;have o:=(o.turn G).to (q:=p+1) ⟨N,λ_=>I⟩ O;have G:=j.over G;have⟨_,_,_,_,_,_,_,_,_,e1,_,_,_,_,_,_,⟨_,_,F,e2,hf,hn,hrow⟩,_⟩:=id o;cases e1;cases e2;have⟨k5,UY,e5,t',x,hk5,_,hset,_,_,k6⟩:=hrow (p+1) I;obtain⟨sa,sn,sc,zs,rfl,_⟩:=id hset;refine hf.VS N I hk5 λq=>?_;have j:=G;have G:=G.base;refine G.og O O O λH3 V G ad=>?_;refine fF ?_;have M:SH [] H H3 ((V,186,[vi k5,vi UY,vi e5,aJ t',J sa sn sc])::Lr rz r3 rb (lr t aa ay w ch k at') (lg ra rl rc na m nc ta n tc (p+1) 0 pg)):=j.over G;have P:=o.turn G
 have go:∀{E:Rs},(k5=1\/k5=2)->iC Pg X (sub fZ [1,1,1,1,1,1,1,1,1,1,1,1,0,1,0,1,1,1]) (gD x0 (pr rb) (pr rz) (pr r3) x4 (pr V) x6 E H3) K:=by
  intro E h5
  have ab:p+2<n:=by
   have:p+1+1≠n:=λe=>by have:=k6 e;omega
   omega
  refine al5 (λ_=>?_) λ_=>?_
  .have n1:=G.nq 2 3 O O N;refine fF ?_;refine G.oq λy G=>?_;refine G.oq λy G=>?_;refine splitK (λK B=>?_) ?_
   .simp only[eZ,gN];apply nE (a:=r3) (b:=rb) n1 yX fQ fQ B
   have G:=j.over G;refine G.jl<|G.j_ λy G=>?_;rw[B];refine rr ?_;exact G.uE 1 O (ax 6)<|⟨⟨_,_,_,_,_,_,_,_,_,18,_,O,λh=>absurd h jg⟩,G.ext⟩
  have on:∀{W:R}{x6:C}{E:Rs}{w:Bool}{ch:Int},SH ((Lr rz r3 rb (lr t aa ay w ch k at')<|lg ra rl rc na m nc ta n tc (p+1) 0 pg).map (·.1)) y W ((V,186,[vi k5,vi UY,vi e5,aJ t',J sa sn sc])::Lr rz r3 rb (lr t aa ay w ch k at') (lg ra rl rc na m nc ta n tc (p+1) 0 pg))->iC Pg X (sub fZ [1,1,1,1,1,1,1,1,1,1,1,1,0,1,0,1,1,1,1,1]) (gD x0 (pr rb) (pr rz) (pr r3) x4 (pr V) x6 E W) K:=by
   intro W x6 E w ch G;refine tm ?_;refine dA (k_ 1 O N)<|G.j_ λy G=>?_;have o:=(o.turn G).to (q:=p+2) ⟨N,λ_=>ab⟩ O;have G:SH [] H y (Lr rz r3 rb (lr t aa ay w ch k at')<|lg ra rl rc na m nc ta n tc (p+1+1) 0 pg):=fV (A:=[_])<|j.over G;rw[B];exact anm G (o.by λr _ h=>⟨h.1,λhm=>h.2<|bJ _ hm⟩) (λh=>⟨by have:=(Y h).1;omega,(Y h).2⟩) hl
  refine ym (λT=>?_) λT=>?_
  .exact G.j_ λy G=>on (w:=w) (ch:=2) G
  refine aV (λU=>?_) λU=>?_
  .exact G.j_ λy G=>on (w:=w) (ch:=1) G
  refine aV (λc3=>?_) λc3=>?_
  .exact G.j_ λy G=>on (w:=f) (ch:=ch) G
  have G:=M;refine G.jl<|RT.bad P G (i:=1) O O jg λg' aa H5 hY hr=>?_;rw[B];refine rr ?_;exact hr hY
 refine eU (λT=>?_) λT=>go<|.inl T;refine fF ?_;refine eU (λU=>?_) λU=>go<|.inr U;have G:=M;refine G.jl<|RT.bad P G (i:=1) O O jg λg' aa H5 hY hr=>?_;rw[B];refine rr ?_;exact hr hY
end
section
variable{cs:Nat->Prop}{aa ay w:Bool}{at':Int}
theorem ao7(G:SH [] H H1<|Lr rz r3 rb (lr t aa ay w ch 0 at') gl)(j:YG n (Ot cs H.bV<|Lr rz r3 rb (lr t aa ay w ch 0 at') gl) H1 (dN ⟨gl⟩) p m rl 0)(W:p0<=p/\p+1<n)(hl:rl<120):
 iC Pg X (sub fZ [1,1,1,1,1,1,1,1]) (gD x0 (pr rb) (pr rz) (pr r3) x4 x5 x6 E H1) (RK n cs H p0):=by
 have ac:=j.bd;have⟨ra,rc,rcs,Y,nc,jw,ta,tc,pg,e1,_⟩:=id j;cases e1;refine tl ?_;have o:=G;have G:=G.base;refine fF ?_;refine dA (k_ 1 O N)<|G.j_ λB G=>?_;apply G.jl;have j:=(j.turn G).to (q:=p+1) ⟨N,λ_=>W.2⟩ O;have G:=o.over G;refine dn (CB G.wf j W.2) ?_;rintro v H4 ⟨⟨k4,rfl,_,_,k5⟩,M⟩;have j:=j.ex M;have G:=G.call M;refine yl (λc=>?_) λc=>?_
 .refine G.jl<|RT.bad j G (i:=0) O O jg λg' aa H5 hY hr=>?_;refine rr ?_;exact hr hY
 have U:p+2<n:=by
  have:p+1+1≠n:=λe=>by have:=k5 e;omega
  omega
 have o:=G;have G:=G.base;apply G.qE;refine dA (k_ 1 O N)<|G.j_ λB G=>?_;apply G.jl;have j:=(j.turn G).to (q:=p+2) ⟨N,λ_=>U⟩ O;have G:=o.over G;refine j.call G G.ext.bV (λF' hF T=>ao6 41 0 N N N G.wf T) λg' H5 k6 q6 N6 e6 j ab V G _=>?_;have y:=j.bd;obtain⟨ra,rc,rcs,Y,nc,jw,ta,tc,I,rfl,_⟩:=id j;refine bN ?_;have o:=G;have G:=G.base;refine G.j_ λB G=>?_;refine G.j_ λB G=>?_;refine fF ?_;have j:=j.turn G;have G:SH [] H B (Lr rz r3 rb (lr t aa ay w ch k6 at')<|lg ra rl rc Y N6 nc ta n tc q6 e6 I):=o.over G;refine aV (λP=>?_) λP=>ann (b:=aA) G j (λh=>absurd h P) (nofun) hl O;subst P;refine fF ?_;refine dn (CB G.wf j<|y.2.1 O) ?_;rintro v H6 ⟨⟨k7,rfl,_,_,k8⟩,M⟩;have j:=j.ex M;have G:=G.call M;refine bN ?_
 exact ann G j (λ_=>⟨by have:=(V O).2;omega,(V rfl).1⟩) (λh=>⟨rfl,by
  have h:=gF h;have:q6+1≠n:=λe=>by have:=k8 e;omega
  have:=y.2.1 O;omega⟩) hl rfl
theorem ano(G:SH [] H H1<|Lr rz r3 rb (lr ⟨#[]⟩ aA ay aA 0 0 0) gl)(j:YG n (Ot cs H.bV<|Lr rz r3 rb (lr ⟨#[]⟩ aA ay aA 0 0 0) gl) H1 (dN ⟨gl⟩) p m rl 0)(hp:p0<=p):
 iC Pg X (sub fZ [1,1,1]) (gD x0 (pr rb) (pr rz) (pr r3) x4 x5 x6 E H1) (RK n cs H p0):=by
 have Y:=j.bd;have V:=Y.2.1 O;have⟨ra,rc,_,na,nc,_,ta,tc,pg,e1,_,_,_,_,_,_,⟨_,_,F,e2,hfl,hn,hrow⟩,_⟩:=id j;cases e1;cases e2;have⟨k,T6,e',t',x,hk,_,hset,_,_,k2⟩:=hrow p V;obtain⟨sa,sn,sc,zs,rfl,_⟩:=id hset;refine tm ?_;refine hfl.VS N V hk λq=>?_;have I:=G;have G:=G.base;refine G.og O O O λH3 y G ad=>?_;refine fF ?_
 have o:∀{B:R}{c:Int}{l:D C}{x5 x6:C}{E:C->C->Rs},c≠0->SH [] H B ((y,186,[vi k,vi T6,vi e',aJ t',J sa sn sc])::Lr rz r3 rb l (lg ra rl rc na m nc ta n tc p 0 pg))->YG n (Ot cs H.bV<|(y,186,[vi k,vi T6,vi e',aJ t',J sa sn sc])::Lr rz r3 rb l (lg ra rl rc na m nc ta n tc p 0 pg)) B (dN ⟨lg ra rl rc na m nc ta n tc p 0 pg⟩) p m rl 0->ME (yh (Z 6) (pr rb) B) λv Q=>bM Pg X 105 [v,vi c] Q λW Q=>ME (GU 6 (pr rz) W Q) λ_ Q=>RK n cs H p0 (.ret<|gD x0 (pr rb) (pr rz) (pr r3) (pr y) x5 x6 (E W v) Q):=by
  intro B c l x5 x6 E hc G j;refine G.jl<|RT.bad j G (i:=1) O O hc λg' aa B hY hr=>?_;refine rr ?_;exact hr hY
 have M:=I.over G;have T:=j.turn G
 have go:∀{E:Rs},(k=1\/k=2)->iC Pg X (sub fZ [1,1,1,1,1]) (gD x0 (pr rb) (pr rz) (pr r3) (pr y) x5 x6 E H3) (RK n cs H p0):=by
  intro E ac
  have ab:p+1<n:=by
   have:p+1≠n:=λe=>by have:=k2 e;omega
   omega
  refine tm ?_;refine aV (λ_=>o jg M T) λhl=>?_;have n1:=G.nq 0 2 O O N;refine fF ?_;refine G.oq λHn G=>?_;refine G.oq λHn G=>?_;refine G.oq λHn G=>?_;refine splitK (λK hK=>?_) ?_
  .simp only[eZ,gN];apply nE (a:=y) (b:=r3) n1 yX fQ fQ hK
  refine fF ?_;have P:=I.over G;have U:=j.turn G;have j:=U;have G:SH [] H _ (Lr rz r3 rb (lr t' (decide<|k=1) ay aA 0 0 T6)<|lg ra rl rc na m nc ta n tc p 0 pg):=fV (A:=[_]) P;have j:YG n (Ot cs H.bV<|Lr rz r3 rb (lr t' (decide<|k=1) ay aA 0 0 T6)<|lg ra rl rc na m nc ta n tc p 0 pg) _ _ p m rl 0:=j.by λr _ h=>⟨h.1,λhm=>h.2<|bJ _ hm⟩
  have go:=λ{E:Rs}=>ao7 (x0:=x0) (x4:=pr y) (x5:=x5) (x6:=x6) (E:=E) G j ⟨hp,ab⟩ N;cases ay
  .exact go
  .refine fF ?_;exact eU (λ_=>o jg P U) λ_=>go
 refine eU (λc1=>?_) λc1=>go<|.inl c1;refine fF ?_;refine eU (λc2=>?_) λc2=>go<|.inr c2;exact o jg M T
theorem anp(hw:Wf H)(y:YG n cs H g p m rl 0):bM Pg X 72 [g] H (Q1 (RT n (Nw cs H.bV) p) H):=by
 have W:=y.bd;have B:=W.2.1 O;obtain⟨ra,rc,_,na,nc,_,ta,T,pg,rfl,_,_,_,_,_,_,⟨_,_,F,e2,P,hn,j⟩,_⟩:=id y;cases e2;have G:=gM hw;refine lF [0,1,2,3,4,5,153] ?_;refine G.box O λH1 rb G=>?_;refine G.jM λH2 rz G=>?_;refine fF ?_;refine G.og O O O λH3 r3 G ab=>?_;have G:SH [] H H3 (Lr rz r3 rb (lr ⟨#[]⟩ aA aA aA 0 0 0)<|lg ra rl rc na m nc ta n T p 0 pg):=G.perm<|.swap _ _ _
 have fr:∀{U:R}{E:Rs}{b:Bool},Ci E 50=aO b->(b=f->p+1<n)->SH [] H U (Lr rz r3 rb (lr ⟨#[]⟩ aA aA aA 0 0 0)<|lg ra rl rc na m nc ta n T p 0 pg)->iC Pg X (sub fZ [1,1,0,1]) (gD (dN ⟨lg ra rl rc na m nc ta n T p 0 pg⟩) (pr rb) (pr rz) (pr r3) top top top E U) (uQ Pg X (sub fZ [1,1,1])<|RK n cs H p):=by
  intro U E b Y hb G;have y:=y.own G;refine tl ?_;rw[Y];cases b
  .refine G.kN ?_;exact ano G y<|ax _
  .have V:=G;have G:=G.base;have I:=hb O;refine G.kN ?_;refine G.j_ λHn G=>?_;apply G.qE;exact dA (k_ 1 O N)<|G.j_ λHn G=>ano (V.over G) ((y.turn G).to (q:=p+1) ⟨N,λ_=>I⟩ O)<|jr _
 have⟨r,o,e1,hr,hcl,_⟩:=P.1.idx (c:=T) N B;have⟨k,T6,e',t',x,Y,_,hset,_,_,k2⟩:=j p B
 have h3:F[p*5+3]?=Z (aJ t'):=by
  have:=eY (λl=>l[3]?) Y;simp only[oN]at this;simpa using this
 refine fF ?_;refine dA e1<|bN ?_;refine G.CJ (hcl 3 _ N h3) hr ?_;refine G.kN ?_;refine aV (λc1=>?_) λc1=>fr O (nofun) G;refine G.jl<|dn (CB G.wf (y.own G) B) ?_;rintro v U ⟨⟨k4,rfl,_,_,k5⟩,M⟩;have G:=G.call M;refine bN ?_;refine aV (λc2=>?_) λc2=>fr O (nofun) G
 have I:p+1<n:=by
  have:p+1≠n:=λe=>by have:=k5 e;omega
  omega
 apply G.qE;refine dA (k_ 1 O N)<|fF ?_;refine aV (λ_=>?_) λc=>absurd (show((p+1:Nat):Int)<(n:Int) by omega) c;have⟨r5,o5,e5,hr5,aaS,_⟩:=P.1.idx (c:=T) N I;have⟨k6,_,_,_,_,hk5,_⟩:=j (p+1) I
 have h0:F[(p+1)*5+0]?=Z (vi k6):=by
  have:=eY (λl=>l[0]?) hk5;simp only[oN]at this;simpa using this
 refine fF ?_;refine dA (k_ 1 O N)<|dA e5<|bN ?_;refine G.CJ (aaS 0 _ N h0) hr5 ?_;refine G.kN ?_;refine aV (λc3=>fr O (λ_=>I) G) λc3=>?_;refine fF ?_;refine dA (k_ 1 O N)<|dA e5<|bN ?_;refine G.CJ (aaS 0 _ N h0) hr5 ?_;refine G.kN ?_;exact fr O (λ_=>I) G
end
section
variable{cs:Nat->Prop}
def BF.ow(h:BF cs H v n)(y:∀r,r<H.bV->(zW H r 186\/zW H r 275)->cs r->F' r):BF F' H v n:=
 let⟨a,c,F,I,B,h3,h4⟩:=h
 ⟨a,c,F,I,⟨B.1,λr o e j=>let⟨g1,g2,g3⟩:=B.2 r o e j;⟨y r g2 (.inl g3) g1,g2,g3⟩⟩,h3,λi M=>let⟨k,a,e,t',x,g1,g2,⟨b,m,c,zs,f1,f2,f3⟩,g4⟩:=h4 i M;⟨k,a,e,t',x,g1,g2,⟨b,m,c,zs,f1,⟨f2.1,λr o e j=>let⟨g1,g2,g3⟩:=f2.2 r o e j;⟨y r g2 (.inr g3) g1,g2,g3⟩⟩,f3⟩,g4⟩⟩
abbrev L2(rb rz:Nat)(gl:D C):D eF:=[(rb,32,gl),(rz,32,[J T 0 0,J T 0 0,J T 0 0,vi 0,vi 0,vi 0])]
def Red(v:C)(Q:R):Prop:=∃(y:aC Addr)(rl B:Nat)(j:aC Addr)(m o:Nat)(I:aC Addr)(n M p:Nat)(e at':Int),v=dN ⟨lg y rl B j m o I n M p e at'⟩/\(e=0->YG n TT Q v p m rl 0)
def anq(hw:Wf H)(s:aZ):bM Pg X 43 [aJ s] H (Q1 Red H):=by
 have G:=gM hw;refine lF [0,2,3,4,5,6,7] ?_;refine G.jM λH1 rz G=>?_;refine G.cm (ao1 G.wf s) ?_;rintro v H2 ⟨x,e,w,rfl,hT⟩ M G;refine yl (λc=>?_) λc=>?_
 .refine PU.b6 O<|G.kN ?_;refine G.j_ λHn G=>?_;refine rr ?_;exact G.uE 0 O (ax 6)<|⟨⟨T,0,0,T,0,0,T,0,0,0,e,w,O,λh=>absurd h c⟩,G.ext⟩
 subst c;have⟨n,hT⟩:=hT O;obtain⟨o,y,F,rfl,am⟩:=id hT;refine fF ?_;refine G.og O O O λH3 rb G ao=>?_;have G:SH [] H H3 (L2 rb rz<|lg T 0 0 T 0 0 o (n+1) y 0 0 0):=G;have hT:BF (Ot TT H.bV<|L2 rb rz<|lg T 0 0 T 0 0 o (n+1) y 0 0 0) H3 (J o (n+1) y) (n+1):=(hT.st ao nofun).ow λr _ h _=>⟨.inl trivial,λhm=>h.elim (G.Az O r hm)<|G.Az O r hm⟩;have j:YG (n+1) (Ot TT H.bV<|L2 rb rz<|lg T 0 0 T 0 0 o (n+1) y 0 0 0) H3 (dN ⟨lg T 0 0 T 0 0 o (n+1) y 0 0 0⟩) 0 0 0 0:=⟨T,0,[],T,0,[],o,y,0,O,jC.nil _ _ _ _ _,(λ_ i h=>absurd h<|iN i),N,jC.nil _ _ _ _ _,(λi h=>absurd h<|iN i),N,hT,N,λ_=>N⟩;refine VX 7 (h1:=λz x7 Q=>∃(ra:aC Addr)(rl rc:Nat)(Y:aC Addr)(m nc:Nat)(o:aC Addr)(y p:Nat)(e at':Int)(b:Bool),x7=aO b/\SH [] H Q (L2 rb rz<|lg ra rl rc Y m nc o (n+1) y p e at')/\(e=0->n+1<=p+z/\YG (n+1) (Ot TT H.bV<|L2 rb rz<|lg ra rl rc Y m nc o (n+1) y p e at') Q (dN ⟨lg ra rl rc Y m nc o (n+1) y p e at'⟩) p m rl 0)) ?_ (n+1) ⟨T,0,0,T,0,0,o,y,0,0,0,f,rfl,G,λ_=>⟨N,j⟩⟩;clear G j hT am;rintro z x7 E H4 ⟨ra,rl,rc,Y,m,nc,U,V,p,e,at',b,rfl,G,he⟩;refine iC.yw λK hK=>?_
 have W:e=0->∀{P:R}{x7:C}{E:Rs},SH [] H P (L2 rb rz<|lg ra rl rc Y m nc U (n+1) V p e at')->Ext H4 P->iC Pg X (sub DI [1,1,1,1,0,1,0,0,1]) (xY (aJ s) (pr rz) (J o (n+1) y) (vi 0) (vi w) (pr rb) x7 E P) K:=by
  intro e0 P x7 E G ac;subst e0;have⟨hz,j⟩:=he O;have j:=j.ex ac;have hp:=j.bd.2.1 O;refine tl ?_;refine G.jl<|dn (anp G.wf<|j.by (F':=λr=>Ot TT H.bV (L2 rb rz<|lg ra rl rc Y m nc U (n+1) V p 0 at') r/\r<P.bV) λr I B=>⟨B,I⟩) ?_;rintro v H6 ⟨⟨aw,a0,aE,ap,m6,aq,a1,a2,p6,e6,al,rfl,an⟩,M⟩;have hw:=G;have G:=G.call M;have ab:=G;have G:=G.base;refine G.j_ λHn G=>?_;rw[hK];refine⟨z-1,N,_,_,_,O,aw,a0,aE,ap,m6,aq,a1,a2,p6,e6,al,aA,O,ab.over G,λh=>?_⟩;have⟨g1,g2⟩:=an h;subst h;refine⟨N,YG.turn (L:=L2 rb rz<|lg ra rl rc Y m nc U (n+1) V p 0 at') (g2.by λr _ h=>?_) G⟩;rcases h with h|h
  .exact h.1
  .refine⟨.inl trivial,λhm=>?_⟩;obtain⟨e,he,rfl⟩:=bT.1 hm;exact fu h (hw.lo e he).2
 have ad:∀{P:R}{x7:C}{E:Rs},SH [] H P (L2 rb rz<|lg ra rl rc Y m nc U (n+1) V p e at')->Ext H4 P->K (.exit 0<|xY (aJ s) (pr rz) (J o (n+1) y) (vi 0) (vi w) (pr rb) x7 E P):=by
  intro P x7 E G ac;rw[hK];refine al4 (λc=>?_) λc=>?_
  .refine fF ?_;refine G.j_ λHn G=>?_;refine rr ?_;exact G.uE 1 O (ax 6)<|⟨⟨T,0,0,T,0,0,T,0,0,0,e,at',O,λh=>absurd h c⟩,G.ext⟩
  subst c;have j:=(he O).2.ex ac;have ab:=G;have G:=G.base;refine G.jl<|G.j_ λHn G=>?_;have j:=j.turn G;have G:=ab.over G;refine rr ?_;exact G.uE 1 O (ax 6)<|⟨⟨_,_,_,_,_,_,_,_,_,_,_,_,O,λ_=>j.by λ_ _ _=>trivial⟩,G.ext⟩
 refine tm ?_;refine aV (λc=>?_) λ_=>ad G<|Ext.refl _;cases b;rotate_left
 .exact W c G<|Ext.refl _
 have j:=he c;subst c;refine fF ?_;refine G.cm (CB G.wf j.2<|j.2.bd.2.1 O) ?_;rintro v P ⟨k,rfl,_⟩ M G;refine bN ?_;exact eU (λ_=>W O G M) λ_=>ad G M
end
section
variable{cs:Nat->Prop}{rcs jw:D C}
def low(aa:Nat->Bool):Nat->Nat
 |0=>0
 |n+1=>low aa n+if aa n=f then 0 else 1
def Xh:∀n,low aa n<=n
 |0=>ax _
 |n+1=>by have:=Xh n;unfold low;split<;>omega
def Xi(h:aa i=aA):∀{n},i<n->low aa i<low aa n
 |n+1,hn=>by
  rcases dH i n with h'|h'
  .have:=Xi h h';show _<low aa n+_;omega
  .obtain rfl:i=n:=N;show _<low aa i+(if aa i=f then 0 else 1);rw[h];exact dI _
def RuE(F:D C)(aa:Nat->Bool)(m i:Nat):Prop:=∃(t:aZ)(r:Nat),F[i*7+0]?=Z (aJ t)/\F[i*7+1]?=Z (aO<|aa i)/\F[i*7+5]?=Z (W r)/\r<m/\∃ay w ch at',El F 7 i=[aJ t,aO<|aa i,aO ay,aO w,vi ch,W r,vi at']
def GR(aa:Nat->Bool)(cs:Nat->Prop)(H:R)(g:C)(m rl:Nat):Prop:=∃(o:aC Addr)(B:Nat)(rcs:D C)(j:aC Addr)(y:Nat)(jw:D C)(I:aC Addr)(n M p:Nat)(at':Int),g=dN ⟨lg o rl B j m y I n M p 0 at'⟩/\
 jC cs 194 H o rl 7 rcs/\(∀i,i<rl->RuE rcs aa m i)/\rl<=120/\jC cs 200 H j m 5 jw/\(∀i,i<m->Zg cs H (El jw 5 i) i)/\m<=4000
def GR.ex(h:GR aa cs H g m rl)(M:Ext H Q):GR aa cs Q g m rl:=by
 have⟨ra,rc,rcs,na,nc,jw,ta,n,tc,p,at',I,B,h3,h4,h5,h6,h7⟩:=h;exact⟨ra,rc,rcs,na,nc,jw,ta,n,tc,p,at',I,B.ex M,h3,h4,h5.ex M,λi j=>(h6 i j).st M<|nofun,h7⟩
def YG.gr(h:YG n cs H g p m rl 0):∃aa,GR aa cs H g m rl:=by
 have⟨ra,rc,rcs,na,nc,jw,ta,tc,at',I,B,h3,h4,h5,h6,h7,_⟩:=h;refine⟨λi=>match rcs[i*7+1]? with|some (aO b)=>b|_=>aA,ra,rc,rcs,na,nc,jw,ta,n,tc,p,at',I,B,λi y=>?_,h4,h5,h6,h7⟩;have⟨t,aa,ay,w,ch,at',r,hk,hr⟩:=h3 O i y
 have g:∀j,j<7->rcs[i*7+j]?=([aJ t,aO aa,aO ay,aO w,vi ch,W r,vi at']:D C)[j]?:=λj M=>by
  have:=eY (λl=>l[j]?) hk;simp only[oN]at this;simpa [M]using this
 have o:rcs[i*7+1]?=Z (aO aa):=g 1 N;have e:(match rcs[i*7+1]? with|some (aO b)=>b|_=>aA)=aa:=by rw[o]
 exact⟨t,r,g 0 N,by show _=Z (aO (match rcs[i*7+1]? with|some (aO b)=>b|_=>aA));rw[e];exact o,g 5 N,hr,ay,w,ch,at',by show _=[_,aO (match rcs[i*7+1]? with|some (aO b)=>b|_=>aA),_,_,_,_,_];rw[e];exact hk⟩
def Xj(U:Wf H)(T:GR aa cs H g m rl)(hi:i<=rl):bM Pg X 108 [g,W i] H (Q1 (λv _=>v=W (low aa i)) H):=by
 obtain⟨ra,M,rcs,V,Y,jw,ta,n,tc,p,pg,rfl,B,P,h4,_⟩:=T;have G:=gM U;refine lF [0,1,2,4,5,6]<|G.box O λH1 rb G=>?_;refine lp2 5 6 (h1:=λz x5 x6 Q=>∃j,x5=W (low aa j)/\x6=W j/\j+z=i/\SH [] H Q [(rb,32,lg ra rl M V m Y ta n tc p 0 pg)]) ?_ i ⟨0,rfl,rfl,N,G⟩;clear G;rintro z x5 x6 E H2 ⟨j,rfl,rfl,hj,G⟩;refine aai (λc=>?_) λc=>?_
 .have y:j<rl:=N;have⟨_,_,_,g1,_⟩:=P j y;have⟨r,o,e1,hr,hcl,_⟩:=B.1.idx (c:=M) N y;have:=Xh (aa:=aa) j;refine G.qE<|dA e1<|bN ?_;refine G.CJ (hcl 1 _ N g1) hr ?_;refine G.kN ?_;have I:low aa (j+1)=low aa j+(if aa j=f then 0 else 1):=rfl;refine ig (λc=>?_) λc=>?_
  .rw[jx (om c)]at I;exact dA (k_ 1 O N)<|dA (k_ 1 O N)<|⟨z-1,N,_,_,_,_,O,j+1,by rw[I],rfl,N,G⟩
  .rw[jj (om c)]at I;exact dA (k_ 1 O N)<|⟨z-1,N,_,_,_,_,O,j+1,by rw[I];rfl,rfl,N,G⟩
 .obtain rfl:j=i:=N;refine tl<|rr ?_;exact⟨O,G.ext⟩
def anr(T:Wf H)(P:GR aa cs H g m rl):bM Pg X 139 [g,aJ t] H (Q1 (λv _=>(∃j,v=W j/\j<rl)\/v=vi (-1)) H):=by
 obtain⟨ra,I,rcs,U,V,jw,ta,n,tc,p,Y,rfl,B,M,h4,_⟩:=P;have G:=gM T;refine lF [0,1,2,4,5] ?_;refine G.box O λH1 rb G=>?_;refine VX 5 (h1:=λz x5 Q=>∃j,x5=W j/\j+z=rl/\SH [] H Q [(rb,32,lg ra rl I U m V ta n tc p 0 Y)]) ?_ rl ⟨0,rfl,N,G⟩;clear G;rintro z x5 E H2 ⟨j,rfl,hj,G⟩;refine aai (λc=>?_) λc=>?_
 .have y:j<rl:=N;have⟨_,_,g1,_⟩:=M j y;have⟨r,o,e1,hr,hcl,_⟩:=B.1.idx (c:=I) N y;apply G.qE;refine dA e1 ?_;refine bN ?_;refine G.CJ (hcl 0 _ N g1) hr ?_;refine G.kN ?_;refine aV (λe=>?_) λe=>?_
  .refine rr ?_;exact⟨.inl ⟨j,O,y⟩,G.ext⟩
  .exact dA (k_ 1 O N)<|⟨z-1,N,_,_,_,O,j+1,O,N,G⟩
 .refine tl<|rr ?_;exact⟨.inr O,G.ext⟩
end
section
variable{cs:Nat->Prop}
def KW(cs:Nat->Prop)(H:R)(w:C)(hx:Nat):Prop:=∃(ea:aC Addr)(ec:Nat)(j:aC Addr)(sc:Nat)(be bs:D Bool),w=dN ⟨[J ea hx ec,J j hx sc]⟩/\jC cs 4 H ea hx 1 (bools be)/\jC cs 4 H j hx 1 (bools bs)
def KW.ex(h:KW cs H w hx)(M:Ext H Q):KW cs Q w hx:=let⟨ea,ec,sa,sc,be,bs,I,B,h3⟩:=h;⟨ea,ec,sa,sc,be,bs,I,B.ex M,h3.ex M⟩
def UL{c:Nat}(h:jC cs 4 H a hx 1<|bools bs)(hi:i<hx):∃r o,BS 1 (J a hx c) (W i)=Z (bG<|Z ⟨r,o,T⟩)/\∃b:Bool,H.cell r o=Z (aO b):=by
 have⟨r,o,e1,hr,hcl,_⟩:=h.1.idx (c:=c) N hi;have j:i<u bs:=by have:=h.1.1;rw[aM]at this;omega
 exact⟨r,o,e1,bs[i],hcl 0 _ N (by rw[dY,dZ];exact jV _<|av j)⟩
abbrev two(v:C):Prop:=∃x y:Bool,v=fJ ⟨[aO x,aO y]⟩
def Xk(aa:Nat->Bool)(m rl k:Nat):Prop:=∀{cs F':Nat->Prop}{H:R}{g w:C},Wf H->GR aa cs H g m rl->KW F' H w (low aa rl)->bM Pg X 109 [g,w,W k] H (Q1 (λv _=>two v) H)
def ant(hk:k<m)(ih:∀z,z<k->Xk aa m rl z):Xk aa m rl k:=by
 intro cs F' H g w hw hg ad;obtain⟨ra,rc,rcs,na,nc,jw,ta,n,tc,p,pg,rfl,B,h3,h4,h5,h6,h7⟩:=id hg;obtain⟨ea,ec,sa,sc,be,bs,rfl,hE,hB⟩:=id ad;have G:=gM hw;refine lF [0,1,2,3,4,6,7,8,9,10,11,12,13,14,15,16,17,18,25] ?_;refine G.box O λH1 rb G=>?_;refine G.box O λH2 rw G=>?_;have⟨kd,a,V,c,t,ua,un,uc,at',hkx,hkf,hkl,hk4,hkn⟩:=h6 k hk;refine fF ?_;refine(h5.ex G.ext).VS N hk hkx λq=>G.og O O O λH3 r8 G an=>?_;obtain⟨LL,ac⟩:∃LL:D eF,LL=[(r8,200,[vi kd,J a (u V) c,aJ t,J ua un uc,vi at']),(rw,36,[J ea (low aa rl) ec,J sa (low aa rl) sc]),(rb,32,lg ra rl rc na m nc ta n tc p 0 pg)]:=⟨_,O⟩
 have U:∀{I:R}{i:Nat}{Kp:C->R->Prop},SH [] H I LL->(hi:i<u V)->(∀Y x y,SH [] H (hM I Y) LL->Ext (hN I) Y->Kp (fJ ⟨[aO x,aO y]⟩) Y)->bM Pg X 109 [dN ⟨lg ra rl rc na m nc ta n tc p 0 pg⟩,dN ⟨[J ea (low aa rl) ec,J sa (low aa rl) sc]⟩,W V[i]] (hN I) Kp:=by
  intro I i Kp G hi kk;refine dn (ih _ (hkl _<|bH hi) (cs:=cs) (F':=F') (oC I) (show GR aa cs (hN I) _ m rl from(hg.ex G.ext:GR aa cs I _ m rl)) (show KW F' (hN I) _ _ from(ad.ex G.ext:KW F' I _ _))) ?_;rintro v Y ⟨⟨x,y,rfl⟩,M⟩;exact kk Y x y (G.oD M) M
 have ld:∀{I:R}{i:Nat},SH [] H I LL->(hi:i<u V)->∃r o,BS 1 (J a (u V) c) (W i)=Z (bG<|Z ⟨r,o,T⟩)/\I.cell r o=Z (W V[i]):=by
  intro I i G hi;have⟨r,o,e1,hr,hcl,_⟩:=(hkf.ex G.ext).1.idx (c:=c) N hi;exact⟨r,o,e1,hcl 0 _ N (by rw[dY,dZ];exact jV _<|av hi)⟩
 have P:SH [] H H3 LL:=by rw[ac];exact G
 refine ym (λc0=>?_) λc0=>?_
 .refine YA 9 10 11 12 13 (h1:=λz x9 jW jh mQ jY Q=>∃(x y:Bool)(j:Nat),x9=aO x/\jW=aO y/\jh=W j/\j+z=u V/\SH [] H Q LL) ?_ (u V) ⟨_,_,0,rfl,rfl,rfl,N,P⟩;clear G P;rintro z x9 jW jh mQ jY E I ⟨x,y,j,rfl,rfl,rfl,hj,P⟩;have G:=P;rw[ac]at G;refine aai (λc1=>?_) λc1=>?_
  .have ab:j<u V:=N;have⟨r,o,e1,hr⟩:=ld P ab;refine fF ?_;refine dA e1<|iV (H:=hN I) hr ?_;refine G.kN ?_;refine U P ab λY x' y' P M=>iY (by simp only[eZ,fP M];rfl) ?_;cases x<;>cases y
   all_goals
    try simp only[PP,Nat.reduceBEq]
    exact dA (k_ 1 O N)<|⟨z-1,N,_,_,_,_,_,_,_,O,_,_,j+1,O,O,O,N,P⟩
  .refine tl<|rr ?_;exact⟨⟨_,_,O⟩,G.ext⟩
 refine aV (λc2=>?_) λc2=>?_
 .refine YA 9 10 14 15 16 (h1:=λz x9 jW jh mQ jY Q=>∃(x y:Bool)(j:Nat),x9=aO x/\jW=aO y/\jh=W j/\j+z=u V/\SH [] H Q LL) ?_ (u V) ⟨_,_,0,rfl,rfl,rfl,N,P⟩;clear G P;rintro z x9 jW jh mQ jY E I ⟨x,y,j,rfl,rfl,rfl,hj,P⟩;have G:=P;rw[ac]at G;refine aai (λc1=>?_) λc1=>?_
  .have ab:j<u V:=N;have⟨r,o,e1,hr⟩:=ld P ab;refine fF ?_;refine dA e1<|iV (H:=hN I) hr ?_;refine G.kN ?_;refine U P ab λY x' y' P M=>iY (by simp only[eZ,fP M];rfl) ?_;cases x<;>cases y
   all_goals
    try simp only[PP,Nat.reduceBEq]
    exact dA (k_ 1 O N)<|⟨z-1,N,_,_,_,_,_,_,_,O,_,_,j+1,O,O,O,N,P⟩
  .refine tl<|rr ?_;exact⟨⟨_,_,O⟩,G.ext⟩
 have go:∀{E:Rs}{b:Bool},Ci E 82=aO b->iC Pg X (sub q8 [1,1,1,0,1,0,1,1,1,1,1]) (xZ (dN ⟨lg ra rl rc na m nc ta n tc p 0 pg⟩) (dN ⟨[J ea (low aa rl) ec,J sa (low aa rl) sc]⟩) (W k) (pr rb) (pr rw) (aO aA) (aO aA) (pr r8) (aO aA) (aO f) top top top top top top top top (vi kd) E H3) (uk 0<|uQ Pg X (sub q8 [1,1,1,1])<|jO Pg [.tmp 6,.tmp 7]<|Q1 (λv _=>two v) H):=by
  intro E b hb;refine tl ?_;rw[hb];cases b;rotate_left
  .refine G.kN ?_;refine rr ?_;exact⟨⟨_,_,O⟩,G.ext⟩
  refine G.kN ?_;refine aV (λc4=>?_) λc4=>?_
  .have am:0<u V:=List.length_pos_iff.2 (hk4 c4);have⟨r,o,e1,hr⟩:=ld P am;refine fF ?_;refine dA e1<|iV (H:=hN H3) hr ?_;refine G.kN ?_;refine U P am λY x' y' P M=>?_;refine bN ?_;refine iY (by simp only[eZ,fP M];rfl) ?_;refine rr ?_;exact⟨⟨_,_,O⟩,P.ext⟩
  refine nO (λc5=>?_) λc5=>?_
  .refine tl<|rr ?_;exact⟨⟨_,_,O⟩,G.ext⟩
  refine fF ?_;refine G.cm (anr G.wf<|hg.ex G.ext) ?_;rintro v I hv M G
  have no:∀{E:Rs}{BV:C},Ci E 112=aO aA->iC Pg X (sub q8 [1,1,1,0,1,0,1,1,1,1,1,1,1,1,1,0,1,1]) (xZ (dN ⟨lg ra rl rc na m nc ta n tc p 0 pg⟩) (dN ⟨[J ea (low aa rl) ec,J sa (low aa rl) sc]⟩) (W k) (pr rb) (pr rw) (aO aA) (aO aA) (pr r8) (aO aA) (aO f) top top top top top top BV top (vi kd) E I) (uk 0<|uQ Pg X (sub q8 [1,1,1,1])<|jO Pg [.tmp 6,.tmp 7]<|Q1 (λv _=>two v) H):=by
   intro E BV hk;refine tl ?_;rw[hk];refine bN ?_;refine tl<|rr ?_;exact⟨⟨_,_,O⟩,G.ext⟩
  rcases hv with⟨j,rfl,hj⟩|rfl;rotate_left
  .refine G.kN ?_;exact no O
  refine G.kN ?_;refine aV (λ_=>?_) λc=>absurd (show(0:Int)<=(j:Int) by omega) c;have⟨_,_,_,g1,_⟩:=h3 j hj;have⟨r,o,e1,hr,hcl,_⟩:=B.1.idx (c:=rc) N hj;refine G.qE<|dA e1<|bN ?_;refine G.CJ (hcl 1 _ N g1) hr ?_;refine G.kN ?_;cases hup:aa j;rotate_left
  .exact no O
  have al:=Xi hup hj;refine tm ?_;refine(show∀{a b:Prop},a->yN (Z !aA) a b fromλh=>h)<|G.jl<|dn (Xj G.wf (hg.ex G.ext) (i:=j) N) ?_;rintro v Y ⟨rfl,M⟩;have G:=G.call M;have⟨r1,o1,e1,x1,hr1⟩:=UL (c:=ec) (hE.ex G.ext) al;have⟨r2,o2,e2,x2,hr2⟩:=UL (c:=sc) (hB.ex G.ext) al;refine fF ?_;refine dA e1<|iV (H:=hN Y) hr1 ?_;refine fF ?_;refine dA e2<|iV (H:=hN Y) hr2 ?_;refine fF ?_;refine rr ?_;exact⟨⟨_,_,O⟩,G.ext⟩
 refine aV (λc3=>go O) λc3=>?_;exact go O
def akk:∀ae k,k<ae->k<m->Xk aa m rl k:=by
 intro ae
 induction ae with
 |zero=>intro k h;omega
 |succ ae j=>exactλk _ h=>ant h λz o=>j z N N
end
section
variable{cs:Nat->Prop}
abbrev wA(bs:D Bool)(l:Nat):Bool:=bs[l]?.getD aA
def cf:D Bool->Nat
 |[]=>0
 |b::l=>cf l+(if b=f then 0 else 1)
def ae2:∀(l:D Bool)(i:Nat)(x:Bool),cf (l.set i<|(l[i]?.getD aA)||x)+(if i<u l/\l[i]?.getD aA=aA/\x=f then 1 else 0)=cf l
 |[],i,x=>by simp[cf]
 |b::l,0,x=>by cases b<;>cases x<;>simp[cf]
 |b::l,i+1,x=>by
  have:=ae2 l i x;simp only[kC,iA,cO,cf,Nat.add_lt_add_iff_right];omega
def akl(m:Nat):cf (aY m aA)=m:=by
 induction m with
 |zero=>rfl
 |succ m j=>show cf (aY m aA)+1=_;rw[j]
abbrev Lk(rb rz j o rw m:Nat)(be bs:D Bool)(gl:D C):D eF:=[(rw,36,[J (Z ⟨j,0,T⟩) m m,J (Z ⟨o,0,T⟩) m m]),(o,4,bools bs),(j,4,bools be),(rz,36,[J T 0 0,J T 0 0]),(rb,32,gl)]
def aaT(l:D Bool)(i:Nat)(x:Bool):(bools l).set i (aO x)=bools (l.set i x):=by
 unfold bools;rw[gW]
def NW{l:D Bool}:l.set i (wA l i)=l:=by
 refine iQ λj=>?_;rw[dX];split
 .next h=>
  subst h;split
  .next h=>show Z (l[i]?.getD aA)=_;rw[av h];rfl
  .next h=>rw[dB N]
 .rfl
def RP{l:D Bool}(h:i<u l):(bools l)[i]?=Z (aO<|wA l i):=by
 show(l.map aO)[i]?=Z (aO<|l[i]?.getD aA);rw[bL,av h];rfl
def ae3{l:D Bool}{e:Bool}(h:i<u l):cf (l.set i<|wA l i||e)<=cf l/\(e=f/\wA l i=aA->cf (l.set i<|wA l i||e)<cf l)/\(¬(e=f/\wA l i=aA)->l.set i (wA l i||e)=l):=by
 have c:cf (l.set i<|wA l i||e)+(if i<u l/\wA l i=aA/\e=f then 1 else 0)=cf l:=ae2 l i e;refine⟨N,λI=>?_,λI=>?_⟩
 .rw[jj ⟨h,I.2,I.1⟩]at c;omega
 .rw[show(wA l i||e)=wA l i by cases e<;>cases h:wA l i<;>simp_all,NW]
theorem anu{M P j l:Nat}{x3:C}(G:SH [] H H1<|Lk rb rz M P j m be bs gl)(hl:l<m)(V:u be=m)(Y:u bs=m)(rg S b c:Bool)(hk:Ci E 68=aO c)(hc:c=f<->(rg=f/\wA be l=aA)\/(S=f/\wA bs l=aA))(Kc:Out->Prop)(kk:∀{H2:R}{E:Rs},SH [] H H2 (Lk rb rz M P j m (be.set l<|wA be l||rg) (bs.set l<|wA bs l||S) gl)->Kc (.norm<|tC x0 (pr rb) (pr rz) x3 (pr j) (aO<|b||c) x6 (W l) (aO rg) (aO S) E H2)):iC Pg X (sub xX [1,1,1,0,1,0,0,1,0,1,1,0,0,1,0,0,1,1,1,1]) (tC x0 (pr rb) (pr rz) x3 (pr j) (aO b) x6 (W l) (aO rg) (aO S) E H1) Kc:=by
 refine tl ?_;rw[hk];cases c
 .refine bN ?_;have I:(wA be l||rg)=wA be l:=by cases rg<;>cases h:wA be l<;>simp_all
  have B:(wA bs l||S)=wA bs l:=by cases S<;>cases h:wA bs l<;>simp_all
  rw[I,B,NW,NW,nR]at kk;exact kk G
 .refine fF ?_;have c1:=RP (show l<u be by omega);have c2:=RP (show l<u bs by omega);refine dA (Ic hl) ?_;simp only[bB];refine iV (H:=hN H1) ((G.get 2 O).cell c1) ?_;have n1:=G.nq 0 1 O O N;have n2:=G.nq 0 2 O O N;have n3:=G.nq 1 2 O O N;rw[Bool.or_true]at kk;have e1:∀{l':D Bool}{z:Bool},u l'=m->splice (bools l') l (cr<|aO z)=bools (l'.set l z):=λh=>(Gy (by simp only[aM];omega)).trans<|aaT ..
  have o:∀{H2:R}{x y:Bool},SH [] H H2 [(j,36,[J (Z ⟨M,0,T⟩) m m,J (Z ⟨P,0,T⟩) m m]),(P,4,splice (bools bs) l<|cr<|aO y),(M,4,splice (bools be) l<|cr<|aO x),(rz,36,[J T 0 0,J T 0 0]),(rb,32,gl)]->SH [] H H2 (Lk rb rz M P j m (be.set l x) (bs.set l y) gl):=by
   intro H2 x y G;rw[e1 V,e1 Y]at G;exact G
  cases I:wA be l<;>rw[I]at kk
  .refine fF ?_;refine dA (Ic hl) ?_;simp only[bB];refine iV (H:=hN H1) ((G.get 1 O).cell c2) ?_;cases B:wA bs l<;>rw[B]at kk
   all_goals
    refine fF ?_;refine dA (Ic hl) ?_;simp only[bB];refine G.oq (λH3 G=>?_) O (by simp only[aM];show l+1<=_;omega) rfl;refine dA (Ic hl) ?_;simp only[bB];refine G.oq (λH4 G=>?_) O (by simp only[aM];show l+1<=_;omega) rfl;refine(show∀K:Prop,K->_/\K fromλKz U=>?_) _ ?_
    .simp only[eZ,gN];apply AA (a:=j) (b:=P) (c:=M) n1 n2 n3 yX fQ fQ U
    exact kk<|o G
  .refine fF ?_;refine dA (Ic hl) ?_;simp only[bB];refine iV (H:=hN H1) ((G.get 1 O).cell c2) ?_;cases B:wA bs l<;>rw[B]at kk
   all_goals
    refine fF ?_;refine dA (Ic hl) ?_;simp only[bB];refine G.oq (λH3 G=>?_) O (by simp only[aM];show l+1<=_;omega) rfl;refine dA (Ic hl) ?_;simp only[bB];refine G.oq (λH4 G=>?_) O (by simp only[aM];show l+1<=_;omega) rfl;refine(show∀K:Prop,K->_/\K fromλKz U=>?_) _ ?_
    .simp only[eZ,gN];apply AA (a:=j) (b:=P) (c:=M) n1 n2 n3 yX fQ fQ U
    exact kk<|o G
theorem akm(hw:Wf H)(hg:GR aa cs H g m rl):bM Pg X 74 [g] H (Q1 (λv Q=>∃b,KW (λ_=>True) Q v b) H):=by
 obtain⟨ra,rc,rcs,na,nc,jw,ta,n,tc,p,pg,rfl,B,h3,h4,h5,h6,h7⟩:=id hg;have G:=gM hw;refine lF [0,1,2,3,4,5,6,7,8,9] ?_;refine G.box O λH1 rb G=>?_;refine G.jM λH2 rz G=>?_;refine fF ?_;refine G.cm (Xj G.wf (hg.ex G.ext)<|ax _) ?_;rintro v H3 rfl M G;have aE:=Xh (aa:=aa) rl;refine G.mkD N λH4 UM G an=>G.mkD N λH5 UN G ao=>?_;refine fF ?_;refine G.aav λH6 U G ap=>G.oq λHn G=>(show∀K:Prop,K->_/\K fromλKz hK=>?_) _ ?_
 .simp only[an,ao,ap,gN];apply Gc (a:=U) yX fQ fQ hK
 rw[show qd [aO aA] (low aa rl)=bools (aY (low aa rl) aA) by rw[nC];simp]at G;have G:SH [] H _ (Lk rb rz UM UN U (low aa rl) (aY (low aa rl) aA) (aY (low aa rl) aA)<|lg ra rl rc na m nc ta n tc p 0 pg):=G;refine YA 5 6 7 8 9 (h1:=λz x5 x6 x7 x8 x9 Q=>∃b be bs,x5=aO b/\u be=low aa rl/\u bs=low aa rl/\cf be+cf bs+(if b=f then 1 else 0)<=z/\SH [] H Q (Lk rb rz UM UN U (low aa rl) be bs<|lg ra rl rc na m nc ta n tc p 0 pg)) ?_ (2*low aa rl+1) ⟨f,_,_,rfl,jX,jX,by rw[akl];simp;omega,G⟩;clear G;rintro z x5 x6 x7 x8 x9 E H7 ⟨b,be,bs,rfl,ab,al,hm,G⟩
 have am:∀{be bs:D Bool}{Q:R}{x y z:eF},u be=low aa rl->u bs=low aa rl->SH [] H Q [x,(UN,4,bools bs),(UM,4,bools be),y,z]->KW (λ_=>True) Q (dN ⟨[J (Z ⟨UM,0,T⟩) (low aa rl) (low aa rl),J (Z ⟨UN,0,T⟩) (low aa rl)<|low aa rl]⟩) (low aa rl):=λ{be bs Q x y z} ab al G=>
  ⟨_,_,_,_,be,bs,rfl,(G.get 2 rfl).UT (n:=low aa rl) (es:=1) (G.lo _<|aT (i:=2) O).2 (by simp[ab]) trivial,(G.get 1 O).UT (n:=low aa rl) (es:=1) (G.lo _<|aT (i:=1) O).2 (by simp[al]) trivial⟩
 refine tm ?_;cases b
 .refine bN ?_;refine tl ?_;apply G.jl;refine G.j_ λHn G=>?_;refine rr ?_;refine G.uE 3 O (ax 2) ?_;exact⟨⟨_,am ab al G⟩,G.ext⟩
 .refine bN ?_;have aw:cf be+cf bs<z:=by simp at hm;omega
  refine YA 5 6 7 8 9 (h1:=λk x5 x6 x7 x8 x9 Q=>∃i b j P,x5=aO b/\x6=W i/\i+k=rl/\u j=low aa rl/\u P=low aa rl/\cf j+cf P+(if b=f then 1 else 0)<=cf be+cf bs/\SH [] H Q (Lk rb rz UM UN U (low aa rl) j P<|lg ra rl rc na m nc ta n tc p 0 pg)) ?_ rl ⟨0,aA,be,bs,rfl,rfl,N,ab,al,ax _,G⟩;clear G;rintro k x5 x6 x7 x8 x9 E H8 ⟨i,b,j,P,rfl,rfl,aq,V,W_,hf,G⟩;refine aai (λc=>?_) λc=>?_
  .have ac:i<rl:=N;have⟨_,rt,_,g1,g5,hrt,_⟩:=h3 i ac;have⟨r,o,e1,hr,hcl,_⟩:=B.1.idx (c:=rc) N ac;refine G.qE<|dA e1<|bN ?_;refine G.CJ (hcl 1 _ N g1) hr ?_;refine G.kN ?_;cases hup:aa i;rotate_left
   .refine bN ?_;exact dA (k_ 1 O N)<|⟨k-1,N,_,_,_,_,_,_,_,O,i+1,b,j,P,O,O,N,V,W_,hf,G⟩
   refine fF ?_;refine G.cm (Xj G.wf (hg.ex G.ext) (i:=i) N) ?_;rintro v H9 rfl M G;have⟨r',o',e1',hr',agY,_⟩:=(B.ex G.ext).1.idx (c:=rc) N ac;refine fF ?_;refine dA e1'<|bN ?_;refine iV (H:=hN H9) (agY 5 _ N g5) ?_;refine G.kN ?_;refine dn (akk m _ hrt hrt (cs:=cs) (F':=λ_=>True) (oC H9) (show GR aa cs (hN H9) _ m rl from(hg.ex G.ext:GR aa cs H9 _ m rl)) (show KW _ (hN H9) _ _ from(am V W_ G:KW _ H9 _ _))) ?_;rintro v Cw ⟨⟨rg,h2,rfl⟩,uD⟩;have G:=G.oD uD;refine bN ?_;refine iY (by simp only[eZ,fP uD];rfl) ?_;generalize hKc:uk 3 _=Kc;have ad:=Xi hup ac
   have Y:∀{c:Bool}{E:Rs}{H2:R},Ci E 68=aO c->(c=f<->(rg=f/\wA j (low aa i)=aA)\/(h2=f/\wA P (low aa i)=aA))->SH [] H H2 (Lk rb rz UM UN U (low aa rl) j P<|lg ra rl rc na m nc ta n tc p 0 pg)->iC Pg X (sub xX [1,1,1,0,1,0,0,1,0,1,1,0,0,1,0,0,1,1,1,1]) (tC (dN ⟨lg ra rl rc na m nc ta n tc p 0 pg⟩) (pr rb) (pr rz) (W<|low aa rl) (pr U) (aO b) (W i) (W<|low aa i) (aO rg) (aO h2) E H2) Kc:=by
    intro c E H2 hk hc G;refine anu G ad V W_ rg h2 b c hk hc Kc λ{H3 E} G=>?_;subst hKc;refine tm ?_;refine dA (k_ 1 O N)<|⟨k-1,N,_,_,_,_,_,_,_,O,i+1,b||c,_,_,O,O,N,(bU ..).trans V,(bU ..).trans W_,?_,G⟩;have⟨d1,d3,_⟩:=ae3 (e:=rg) (show low aa i<u j by omega);have⟨d2,d4,_⟩:=ae3 (e:=h2) (show low aa i<u P by omega);cases c
    .rw[nR];omega
    .rw[Bool.or_true,jj O];have:(if b=f then 1 else 0)<=1:=by split<;>omega
     rcases hc.1 rfl with h|h
     .have:=d3 h;omega
     .have:=d4 h;omega
   have w1:=RP (show low aa i<u j by omega);have w2:=RP (show low aa i<u P by omega);cases rg
   .cases h2
    .refine bN ?_;exact Y O gB G
    refine fF ?_;refine dA (Ic ad) ?_;simp only[bB];refine iV ((G.get 1 O).cell w2) ?_;refine bN ?_;exact Y O gB G
   refine fF ?_;refine dA (Ic ad) ?_;simp only[bB];refine iV ((G.get 2 O).cell w1) ?_;cases I:wA j (low aa i)
   .refine G.kN ?_;exact Y O (by simp[I]) G
   refine bN ?_;refine(show∀{a b:Prop},b->yN (Z !f) a b fromλh=>h) ?_;cases h2
   .refine G.kN ?_;exact Y O (by simp[I]) G
   refine fF ?_;refine dA (Ic ad) ?_;simp only[bB];refine iV ((G.get 1 O).cell w2) ?_;refine bN ?_;exact Y O (by simp[I]) G
  .exact⟨cf j+cf P+(if b=f then 1 else 0),N,_,_,_,_,_,_,_,O,b,j,P,O,V,W_,ax _,G⟩
end
section
variable{cs:Nat->Prop}
def akn(M:Wf H)(I:GR aa cs H g m rl)(hi:i<rl):bM Pg X 107 [g,W i] H (Q1 (λv _=>∃k:Nat,v=W k/\k<=4000) H):=by
 obtain⟨ra,P,rcs,na,nc,jw,ta,n,tc,p,pg,rfl,B,y,T,U,V,Y⟩:=I;have G:=gM M;refine lF [0,1,2,4] ?_;refine G.box O λH1 rb G=>?_;refine G.kN ?_;refine aV (λc=>?_) λc=>?_
 .refine rr ?_;exact⟨⟨0,O,bD _⟩,G.ext⟩
 obtain⟨j,rfl⟩:∃j,i=j+1:=⟨i-1,N⟩;have⟨_,r,_,_,g5,hr5,_⟩:=y j N;have⟨r',o,e1,hr,hcl,_⟩:=B.1.idx (c:=P) N (show j<rl by omega);apply G.qE;rw[qP N N];refine bN ?_;rw[show((j+1:Nat):Int)-1=(j:Nat) by omega];refine dA e1<|bN ?_;refine G.CJ (hcl 5 _ N g5) hr<|dA (k_ 1 O N)<|rr ?_;exact⟨⟨r+1,O,N⟩,G.ext⟩
def OY(x:C)(ae:Nat)(gb:D eF):Prop:=∃F,GB 202 4 x F gb/\u F=ae*4/\∀j,j<ae->∃t,F[j*4+0]?=Z (aJ t)
def OY.push(h:OY x ae gb){r:Int}{b:Bool}(hN:ae<=1000000)(G:SH [] H0 H<|gb++L)(kk:∀q v' H3 iX,OY v' (ae+1) iX->SH [] H0 H3 (iX++L)->Kp q v' H3):ME (bS 202 [aJ ⟨#[]⟩,vi 0,vi 0,aO aA] 4 1 [(0,dN ⟨[aJ t,vi r,vi c,aO b]⟩)] H) λq H1=>ME (Ch 202 4 x q H1) (Kp q):=by
 have⟨F,hg,hl,hr⟩:=h;refine hg.push G N O O O O O N N λq v' H3 iX o G=>kk q v' H3 iX ⟨_,o,by rw[aU];show _+4=_;omega,λj y=>?_⟩ G;rcases dH j ae with h|h
 .have⟨t,ht⟩:=hr j h;exact⟨t,by rw[bZ N];exact ht⟩
 .obtain rfl:j=ae:=N;exact⟨t,by rw[eB N,show j*4+0-u F=0 by omega];rfl⟩
def ako(hw:Wf H)(hg:GR aa cs H g m rl):bM Pg X 73 [g] H (Q1 (λv _=>∃a n c,v=J a n c) H):=by
 obtain⟨ra,Y,rcs,na,V,jw,ta,n,tc,p,pg,rfl,B,h3,h4,h5,h6,h7⟩:=id hg;have G:=gM hw;refine lF [0,1,2,3,4,5,6,7,8,9]<|G.box O λH1 rb G=>?_;refine YA 3 4 5 6 7 (h1:=λz P x4 x5 x6 x7 Q=>∃i ae gb,x4=W i/\i+z=rl/\OY P ae gb/\ae<=4001*i/\SH [] H Q (gb++[(rb,32,lg ra rl Y na m V ta n tc p 0 pg)])) ?_ rl ⟨0,0,[],rfl,N,⟨[],GB.nil _ _,rfl,λj h=>absurd h<|iN _⟩,bD _,G⟩;clear G;rintro z P x4 x5 x6 x7 E H2 ⟨i,ae,gb,rfl,ao,y,U,G⟩;refine agk (λc=>?_) λc=>?_
 .refine tl ?_;refine Gg 3 8 9 (h1:=λz P x8 x9 Q=>∃i ae gb,x8=W i/\i+z=rl/\OY P ae gb/\ae<=500000+i/\SH [] H Q (gb++[(rb,32,lg ra rl Y na m V ta n tc p 0 pg)])) ?_ rl ⟨0,ae,gb,rfl,N,y,N,G⟩;clear G y U;rintro z3 P x8 x9 E H3 ⟨i2,ae,gb,rfl,ao,y,U,G⟩;refine agk (λc=>?_) λc=>?_
  .refine tl ?_;have⟨F,hg,_⟩:=y;obtain⟨a,n,c,rfl⟩:=hg.sl;refine rr ?_;exact⟨⟨_,_,_,O⟩,G.ext⟩
  have I:i2<rl:=N;have⟨tt,rt,_,_,_,_,ay,w,ch,at',hk⟩:=h3 i2 I;refine G.qE<|(B.ex G.ext).VS N I hk λq=>G.og O O O λH4 r9 G a0=>?_
  have ab:∀{b:Bool}{H5:R}{E:Rs},Ci E 94=aO b->SH [] H H5 ((r9,194,[aJ tt,aO<|aa i2,aO ay,aO w,vi ch,W rt,vi at'])::(gb++[(rb,32,lg ra rl Y na m V ta n tc p 0 pg)]))->∀{az:Out->Prop},(∀{P:C}{N':Nat}{iX:D eF}{H6:R}{E:Rs},OY P N' iX->N'<=ae+1->SH [] H H6 (iX++[(rb,32,lg ra rl Y na m V ta n tc p 0 pg)])->az (.norm<|zw (dN ⟨lg ra rl Y na m V ta n tc p 0 pg⟩) (pr rb) (J T 0 0) P (W i) x5 x6 x7 (W i2) (pr r9) E H6))->iC Pg X (sub Fv [1,1,1,0,1,0,0,1,0,0,1,1]) (zw (dN ⟨lg ra rl Y na m V ta n tc p 0 pg⟩) (pr rb) (J T 0 0) P (W i) x5 x6 x7 (W i2) (pr r9) E H5) az:=by
   intro b H5 E ap G az kk;refine tl ?_;rw[ap];cases b
   .refine bN ?_;exact kk y N<|fV (A:=[_]) G
   refine fF ?_;exact y.push N (G.perm (L':=gb++((r9,194,_)::[(rb,32,lg ra rl Y na m V ta n tc p 0 pg)])) jK.symm) λq v' H6 iX y G=>kk y (ax _)<|fV (A:=[_])<|G.perm jK
  refine QN (λ_=>?_) λ_=>?_
  .refine fF ?_;refine ab O G λy hn G=>?_;refine bN ?_;refine tl ?_;refine dA (k_ 1 O N) ?_;exact⟨z3-1,N,_,_,_,_,_,O,i2+1,_,_,O,N,y,N,G⟩
  .refine ab O G λy hn G=>?_;refine bN ?_;refine tl ?_;refine dA (k_ 1 O N) ?_;exact⟨z3-1,N,_,_,_,_,_,O,i2+1,_,_,O,N,y,N,G⟩
 have I:i<rl:=N;have⟨_,rt,_,g1,g5,hrt,_⟩:=h3 i I;have⟨r,o,e1,hr,hcl,_⟩:=B.1.idx (c:=Y) N I;refine G.qE<|dA e1<|bN ?_;refine G.CJ (hcl 1 _ N g1) hr<|ig (λ_=>?_) λ_=>?_
 .exact dA (k_ 1 O N)<|⟨z-1,N,_,_,_,_,_,_,_,O,i+1,ae,gb,O,N,y,N,G⟩
 apply G.jl;refine G.cm (akn G.wf (hg.ex G.ext) I) ?_;rintro v H3 ⟨k,rfl,hk⟩ M G;refine Ov 3 5 6 7 (h1:=λz P x5 x6 x7 Q=>∃k ae gb,x5=W k/\k+z=4001/\OY P ae gb/\ae<=4001*i+k/\SH [] H Q (gb++[(rb,32,lg ra rl Y na m V ta n tc p 0 pg)])) ?_ (4001-k) ⟨k,ae,gb,rfl,N,y,N,G⟩;clear G y U hk;rintro z2 P x5 x6 x7 E H4 ⟨k,ae,gb,rfl,aE,y,U,G⟩;refine tm ?_;refine dA e1<|bN ?_;refine G.CJ (hcl 5 _ N g5) hr ?_;refine G.kN ?_;refine nO (λc=>?_) λc=>?_
 .refine tl ?_;refine dA (k_ 1 O N) ?_;exact⟨z-1,N,_,_,_,_,_,_,_,O,i+1,ae,gb,O,N,y,N,G⟩
 have al:k<m:=N;have⟨kd,a,ks,kc,t,sa,sn,sc,at',hkx,_⟩:=h6 k al;have⟨r5,o5,e5,hr5,aaS,_⟩:=h5.1.idx (c:=V) N al
 have am:jw[k*5+0]?=Z (vi kd):=by
  have:=eY (λl=>l[0]?) hkx;simp only[oN]at this;simpa using this
 have ac:jw[k*5+2]?=Z (aJ t):=by
  have:=eY (λl=>l[2]?) hkx;simp only[oN]at this;simpa using this
 refine G.qE<|dA e5<|bN ?_;refine G.CJ (aaS 0 _ N am) hr5 ?_;refine bN ?_;refine lp2 6 7 (h1:=λz x6 x7 Q=>∃b j,x6=aO b/\x7=W j/\j+z=ae/\Q=H4) ?_ ae ⟨_,0,rfl,rfl,N,rfl⟩;rintro z4 x6 x7 E H5 ⟨b,j,rfl,rfl,aw,rfl⟩;have⟨F,hg3,hl3,hr3⟩:=id y;obtain⟨ga,gn,gc,rfl,aq,an⟩:=hg3.KE (cs:=TT) G λ_ _=>trivial;obtain rfl:gn=ae:=N;refine tK (λc4=>?_) λc4=>?_
 .cases b;rotate_left
  .refine bN ?_;exact iY O<|dA (k_ 1 O N)<|⟨z4-1,N,_,_,_,_,O,_,j+1,O,O,N,O⟩
  have ad:j<gn:=N;have⟨r6,o6,e6,hr6,ao8,_⟩:=an.1.idx (c:=gc) N ad;have⟨t6,ht6⟩:=hr3 j ad;refine bN ?_;refine dA e6<|bN ?_;refine iV (ao8 0 _ N ht6) ?_;simp only[iU G.wf];refine fF ?_;refine dA e5<|bN ?_;refine iV (H:=hN H5) ((l8 (G.ext.obj r5 hr5 nofun) _).trans<|aaS 2 _ N ac) ?_;simp only[iU G.wf,PP];refine iY (by simp only[eZ];rfl) ?_;exact dA (k_ 1 O N)<|⟨z4-1,N,_,_,_,_,O,_,j+1,O,O,N,O⟩
 refine tl ?_;cases b;rotate_left
 .refine bN ?_;refine tl ?_;refine dA (k_ 1 O N) ?_;exact⟨z2-1,N,_,_,_,_,_,_,O,k+1,gn,gb,O,N,y,N,G⟩
 refine bN ?_;refine(show∀{a b:Prop},a->yN (Z !aA) a b fromλh=>h)<|G.qE<|dA e5<|bN ?_;refine iV ((l8 (G.ext.obj r5 hr5 nofun) _).trans<|aaS 2 _ N ac)<|PU.b4 O<|y.push N G λq v' H6 iX y G=>?_;refine bN ?_;refine tl ?_;refine dA (k_ 1 O N) ?_;exact⟨z2-1,N,_,_,_,_,_,_,O,k+1,gn+1,iX,O,N,y,N,G⟩
end
section
variable{cs:Nat->Prop}
abbrev LgV(v:C):Prop:=rP v=f/\∃l,v=dN ⟨l⟩/\cr v=l/\u l=9/\all' gI l=f
theorem yOf(T:Wf H)(M:GR aa cs H g m rl):bM Pg X 44 [g] H (Q1 (λv _=>LgV v) H):=by
 obtain⟨ra,rc,rcs,na,nc,jw,ta,n,tc,p,pg,rfl,B,h3,h4,h5,h6,h7⟩:=id M;have G:=gM T;refine lF [0,1,2] ?_;refine G.box O λH1 rb G=>?_;refine G.jM λj rz G=>?_;refine fF ?_;refine dn (ako (oC j) (show GR aa cs (hN j) _ m rl from(M.ex G.ext:GR aa cs j _ m rl))) ?_;rintro v I ⟨⟨ya,yn,yc,rfl⟩,o⟩;have G:=G.oD o;refine fF ?_;refine dn (akm (oC<|hM j I) (show GR aa cs (hN<|hM j I) _ m rl from(M.ex G.ext:GR aa cs (hM j I) _ m rl))) ?_;rintro v V ⟨⟨hx,ea,ec,sa,sc,be,bs,rfl,_⟩,y⟩;have G:=G.oD y;refine fF ?_;refine G.oq λW G=>?_;have U:=G.nq 0 1 O O N;refine(show∀K:Prop,K->_/\K fromλY P=>?_) _ ?_
 .simp only[eZ,gN,fP o,fP y];apply nE (a:=rz) (b:=rb) U yX fQ fQ P
 refine rr ?_;exact G.uE 0 O (ax 9)<|⟨⟨O,_,O,O,O,O⟩,G.ext⟩
end
end Go.Proofs.Lu
