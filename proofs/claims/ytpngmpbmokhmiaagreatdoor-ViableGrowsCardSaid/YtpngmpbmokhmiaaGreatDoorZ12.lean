/-
  Part 12 of the proof. No condition.
-/
import Derived.Test.YtpngmpbmokhmiaaGreatDoorZ11
set_option linter.unusedVariables false
set_option linter.unusedSimpArgs false
set_option maxRecDepth 100000
set_option maxHeartbeats 4000000
set_option linter.defProp false
open Option renaming some->D,none->Q
open Bool renaming true->f,false->aC
open Go renaming Value->Z,TypeId->aH,Program->aU,Operand->bT
open Go.Value renaming slice->I,string->fT,tuple->JQ
open Nat renaming ble->aD,add->aZ,mul->bO
open UInt8 renaming ofNat->jd
open And renaming intro->ik
open List renaming length->gB
noncomputable section
namespace Go.Proofs.Lu
open Go.Ae Go.Ae.cs
variable{L gb:C dL}{H T H0:R}{b c es i k k0 n r:Nat}{v x:Z}{a ea:aB Addr}{t ty:aH}{M l:C Z}{A z:Prop}{K Km:Z->R->Prop}
abbrev YO(n:Nat):Z:=.int .u8 (n:Int)
def UE:∀(l:C Nat),(∀x∈l,x<256)->rT (l.map YO)=D (l.map jd):=by
 intro l
 induction l with
 |nil=>intro _;rfl
 |cons x l ih=>
  intro h;have E:=h x<|aN ..
  show(aL (JU<|.ofNat x) λn=>gd (I8 .u8&&aD n 255)<|aL (rT<|l.map YO) λbs=>D<|jd n::bs)=_;rw[ih λhr hy=>h hr<|bH _ hy];show gd (aD x 255) (D<|jd x::l.map jd)=_;rw[aI N,zR];rfl
theorem strOf{l:C Nat}(hl:∀n∈l,n<256)(hn:0<l.length)(G:F [] H0 H L){Kp:Z->Prop}(k:∀t:aV,t.size=l.length->F [] H0 (H.new<|rowOf 5<|l.map YO) L->Km (.string t) (H.new<|rowOf 5<|l.map YO)):
 CV (CE Pg 271 9<|I (D ⟨H.next,0,Q⟩) l.length l.length) (uL Pg 271 9 (I (D ⟨H.next,0,Q⟩) l.length l.length)<|H.new<|rowOf 5<|l.map YO) Kp Km:=by
 have hS2:=G.grow 5<|l.map YO;have hb:Bk (H.new<|rowOf 5<|l.map YO) H.next 5 (l.map YO):=hS2.get 0 O
 have y:=hb.read (o:=0) (n:=l.length) kg;have hq:uL Pg 271 9 (I (D ⟨H.next,0,Q⟩) l.length l.length) (H.new<|rowOf 5<|l.map YO)=aL ((H.new<|rowOf 5<|l.map YO).read H.next 0 l.length) λz=>aL (rT z) λbs=>D (.string ⟨⟨bs⟩⟩,H.new<|rowOf 5<|l.map YO):=by kernel_rfl
 refine CV.me jr (v:=.string ⟨⟨l.map jd⟩⟩) (H1:=H.new<|rowOf 5<|l.map YO) ?_<|k _ (by show(l.map jd).length=_;simp)<|F.drop (A:=[_]) hS2;rw[hq,y,jf,cO kg];show(aL (rT<|l.map YO) λbs=>D (fT ⟨⟨bs⟩⟩,_))=_;rw[UE l hl];rfl
def acs{a b:Int}{vn:Prop}(W:a<b->A)(J:¬a<b->vn):xD (D<|decide<|a<b) A vn:=aT W J
def Eo(h:n<256):oC .u8 (n:Int)=(n:Int):=by
 show IntKind.wrap .u8 (n:Int)=(n:Int);simp[IntKind.wrap,IntKind.bits,IntKind.signed];omega
theorem acu(hw:Wf H)(r:Nat)(y:r<2147483648):aO Pg X 135 [B r] H (Q1 (λv _=>∃t,v=.string t/\t.size<=4) H):=by
 have G:=F.refl hw;refine ce [0,2] ?_;refine q_ (λW=>?_) λW=>?_
 .exact N
 refine aT (λJ=>?_) λJ=>?_
 .refine rr ?_;refine⟨⟨_,O,?_⟩,G.ext⟩;exact bA _
 have rest:∀u,gK Pg X (sub AO [1,1]) (Am (B r) (.string ⟨#[]⟩) u H) (jL Pg [.tmp 2]<|Q1 (λv _=>∃t,v=.string t/\t.size<=4) H):=by
  intro u;have hr2:r<1114112:=N;refine q_ (λg1=>?_) λg1=>?_
  .rw[Eo N];refine ME.of agr ?_;refine strOf (l:=[r]) (by intro n hn;simp at hn;omega) kg G λt ht G=>?_;refine rr ?_;refine⟨⟨t,O,?_⟩,G.ext⟩;rw[ht];exact aF O
  refine aT (λg2=>?_) λg2=>?_
  .refine PU.of (Pq 64 N mO N)<|PU.of (addN 192 N N)<|bG ?_;refine PU.of (qF 64 N mO N)<|PU.of (addN 128 N N)<|bG ?_;rw[Eo N,Eo N];refine ME.of ags<|strOf (l:=[192+r/64,128+r %64]) (by intro n hn;simp at hn;omega) kg G λt ht G=>?_;refine rr ?_;refine⟨⟨t,O,?_⟩,G.ext⟩;rw[ht];exact aF O
  with_reducible refine acs (λg3=>?_) λg3=>?_
  .refine PU.of (Pq 4096 N mO N)<|PU.of (addN 224 N N)<|bG ?_;refine PU.of (Pq 64 N mO N)<|PU.of (qF 64 N mO N)<|PU.of (addN 128 N N)<|bG ?_;refine PU.of (qF 64 N mO N)<|PU.of (addN 128 N N)<|bG ?_;rw[Eo N,Eo N,Eo N];refine ME.of abJ ?_;refine strOf (l:=[224+r/4096,128+r/64 %64,128+r %64]) (by intro n hn;simp at hn;omega) kg G λt ht G=>?_;refine rr ?_;refine⟨⟨t,O,?_⟩,G.ext⟩;rw[ht];exact aF O
  .refine PU.of (Pq 262144 N mO N)<|PU.of (addN 240 N N)<|bG ?_;refine PU.of (Pq 4096 N mO N)<|PU.of (qF 64 N mO N)<|PU.of (addN 128 N N)<|bG ?_;refine PU.of (Pq 64 N mO N)<|PU.of (qF 64 N mO N)<|PU.of (addN 128 N N)<|bG ?_;refine PU.of (qF 64 N mO N)<|PU.of (addN 128 N N) ?_;refine bG ?_;rw[Eo N,Eo N,Eo N,Eo N];refine ME.of agt ?_;refine strOf (l:=[240+r/262144,128+r/4096 %64,128+r/64 %64,128+r %64]) (by intro n hn;simp at hn;omega) kg G λt ht G=>?_;refine rr ?_;refine⟨⟨t,O,?_⟩,G.ext⟩;rw[ht];exact aF O
 refine aT (λh3=>?_) λh3=>?_
 .refine aT (λh4=>?_) (λh4=>?_)
  .refine rr ?_;refine⟨⟨_,O,?_⟩,G.ext⟩;exact bA _
  .exact rest _
 .exact rest _
def wrapN(h:n<=9223372036854775807):oC .i64 (n:Int)=(n:Int):=xE N N
def SgV(m:Nat)(v:Z):Prop:=∃(r:Int)(n:Nat),v=.tuple ⟨[vi r,B n]⟩/\(r=-1/\n=1\/0<=r/\r<134217728/\1<=n/\n<=m)
theorem acv(hw:Wf H)(s:aV)(k:Nat)(hk:k<s.size)(hs:s.size<=1000000000):aO Pg X 133 [.string s,B k] H (Q1 (λv _=>SgV (s.size-k) v) H):=by
 refine jS [0,1,4,5,6,7,8,9] ?_;refine lp6 4 5 6 7 8 9 (ai:=λn x4 x5 x6 x7 x8 x9 T=>F [] H T []/\∃j:Nat,x6=B j/\1<=j/\n+j=5) ?_ 4 ⟨F.refl hw,1,rfl,N,N⟩;rintro n x4 x5 x6 x7 x8 x9 u H1 ⟨G,j,rfl,hj1,hjn⟩;refine kX (λh4=>?_) λh4=>?_
 .refine tl ?_;refine rr ?_;exact⟨⟨_,_,O,.inl ⟨O,O⟩⟩,G.ext⟩
 rw[pg N N];refine Mo (λh5=>?_) λh5=>?_
 .refine tl ?_;refine rr ?_;exact⟨⟨_,_,O,.inl ⟨O,O⟩⟩,G.ext⟩
 refine tl ?_;refine PU.of (jC j O N) ?_;rw[CZ N N];refine bG ?_;have hp:=p8 s (lo:=k) (hi:=k+j) N N;have⟨c,e0⟩:=F6 (s:=Go.Ae.part s k<|k+j) (z:=0) 0 O N;have hc:=c.toNat_lt;generalize c.toNat=c0 at e0 hc;simp only[e0];refine bG ?_;rw[wrapN N];have h4':j<=4:=N
 repeat' (first
  |(refine bG ?_)
  |(with_reducible refine aT (λe=>?_) λe=>?_)
  |(refine PU.of (qF 32 O mO N) ?_)
  |(refine PU.of (qF 16 O mO N) ?_)
  |(refine PU.of (qF 8 O mO N) ?_)
  |(refine tl ?_))
 all_goals first|(exfalso;omega)|skip
 all_goals
  refine lp2 8 9 (ai:=λm x8 x9 T=>T=H1/\∃i z:Nat,i+1+m=j/\x8=B z/\z<256*64^i/\x9=B (i+1)) ?_ (j-1) ⟨rfl,0,_,N,rfl,N,rfl⟩;rintro m x8 x9 u H2 ⟨rfl,i,z,him,rfl,hz,rfl⟩;refine tl ?_
  try simp only[PP,Nat.reduceBEq]
  have hz2:z<134217728:=by
   have J:64^i<=64^3:=qX mO N;omega
  refine aT (λe=>?_) λe=>?_
  .refine PU.of (mulN 64 O N) ?_;have⟨d,e1⟩:=F6 (s:=Go.Ae.part s k<|k+j) (z:=((i+1:Nat):Int)) (i+1) O N;have hd:=d.toNat_lt;generalize d.toNat=d0 at e1 hd;simp only[e1]
   try simp only[PP,Nat.reduceBEq]
   rw[wrapN N];refine PU.of (qF 64 O mO N) ?_;refine PU.of (jC _ O N) ?_;refine PU.of (jC 1 O N) ?_;exact⟨m-1,N,_,_,_,_,O,O,i+1,_,N,O,by rw[Nat.pow_succ];omega,rfl⟩
  .have hij:i=j-1:=N;refine tl ?_;refine G.cm (acu G.wf _ N) ?_;rintro v H2 ⟨t,rfl,ht⟩ E G
   try simp only[PP,Nat.reduceBEq]
   refine aT (λg=>?_) λg=>?_
   .refine rr ?_;exact⟨⟨_,_,O,.inr ⟨N,N,hj1,N⟩⟩,G.ext⟩
   .refine tl ?_;refine PU.of (jC 1 O N) ?_
    try simp only[PP,Nat.reduceBEq]
    exact⟨n-1,N,_,_,_,_,_,_,_,_,O,G,j+1,O,N,N⟩
def w8{z:Int}(h:0<=z/\z<256):oC .u8 z=z:=C4 (by simp[IntKind.wrap,IntKind.bits,IntKind.signed];omega)
def Wz(c:Int):aO Pg X 100 [.int .u8 c] H (Q0 isB H):=by
 refine jS [0,2] ?_
 repeat' (first|(refine bG ?_)|(refine aT (λhc=>?_) λhc=>?_)|(refine rr ?_))
 all_goals exact⟨⟨_,O⟩,O⟩
theorem akz(c:Int):aO Pg X 101 [.int .u8 c] H (Q0 isB H):=by
 refine jS [0,2] ?_
 repeat' (first|(refine bG ?_)|((refine aO.mono (Wz _) ?_;rintro v T ⟨⟨b,rfl⟩,rfl⟩))|(refine gF (λhb=>?_) λhb=>?_)|(refine rr ?_))
 all_goals exact⟨⟨_,O⟩,O⟩
def dgv(c:Nat):Int:=if 48<=c/\c<=57 then(c:Int)-48 else if 97<=c/\c<=102 then(c:Int)-97+10 else if 65<=c/\c<=70 then(c:Int)-65+10 else -1
def akA(c:Nat):-1<=dgv c/\dgv c<16:=by unfold dgv;split<;>(try split)<;>(try split)<;>omega
def acw(c:Nat)(hc:c<256):aO Pg X 163 [.int .u8 (c:Int)] H (Q0 (λv=>v=vi (dgv c)) H):=by
 refine jS [0,2] ?_
 repeat' (first|(refine bG ?_)|(refine aT (λhc=>?_) λhc=>?_)|(refine tl ?_)|(refine rr ?_))
 all_goals first|(exfalso;omega)|skip
 all_goals try rw[w8 N,xE N N]
 all_goals try
  rw[fD N N];simp only[PP];refine rr ?_
 all_goals
  refine⟨?_,O⟩;unfold dgv
  first
   |(rw[if_pos N];done)
   |(rw[if_neg N,if_pos N];done)
   |(rw[if_neg N,if_neg N,if_pos N];done)
   |(rw[if_neg N,if_neg N,if_neg N];done)
def akB(c:Int):aO Pg X 104 [.int .u8 c] H (Q0 (λv=>∃k:Nat,v=B k/\k<=14) H):=by
 refine jS [0,2,3,4] ?_;refine Yb 4 (ai:=λm x4 T=>T=H/\∃i,x4=B i/\i+m=10) ?_ 10 ⟨rfl,0,rfl,rfl⟩;rintro m x4 u T ⟨rfl,i,rfl,him⟩;refine q_ (λhc=>?_) λhc=>?_
 .have hi:i<10:=by have:((i:Nat):Int)<10:=hc;omega
  have⟨d,e⟩:=vI (s:=⟨#[58,124,59,40,41,63,42,43,46,126]⟩) (k:=i) hi;rw[e];refine rV (λe=>?_) λe=>?_
  .refine PU.of (addN 5 O N) ?_;refine rr ?_;exact⟨⟨_,O,N⟩,O⟩
  .exact PU.of (jC 1 O N)<|⟨m-1,N,_,_,_,O,O,i+1,O,N⟩
 .refine tl<|rr ?_;exact⟨⟨0,O,N⟩,O⟩
def acy(s:aV)(hs:s.size<=1000000)(h:k0<=s.size):aO Pg X 99 [.string s,B k0] H (Q0 (λv=>∃b:Nat,v=B b/\k0<=b/\b<=s.size) H):=by
 refine jS [0,1,4] ?_;refine lp2 1 4 (ai:=λm x1 x4 T=>T=H/\∃k,x1=B k/\k0<=k/\k+m=s.size) ?_ (s.size-k0) ⟨rfl,k0,rfl,ax _,N⟩;rintro m x1 x4 u T ⟨rfl,k,rfl,hk,hm⟩;refine kX (λhc=>?_) λhc=>?_
 .refine tl ?_;refine rr ?_;exact⟨⟨_,O,hk,N⟩,O⟩
 have hkl:k<s.size:=N;have⟨c,e⟩:=vI hkl;rw[e];refine rV (λ_=>?_) λ_=>?_
 .refine PU.of (jC 1 O N) ?_;exact⟨m-1,N,_,_,_,_,O,O,k+1,O,N,N⟩
 refine aT (λ_=>?_) λ_=>?_
 .refine PU.of (jC 1 O N) ?_;exact⟨m-1,N,_,_,_,_,O,O,k+1,O,N,N⟩
 refine aT (λ_=>?_) λ_=>?_
 .refine PU.of (jC 1 O N) ?_;exact⟨m-1,N,_,_,_,_,O,O,k+1,O,N,N⟩
 refine aT (λ_=>?_) λ_=>?_
 .refine PU.of (jC 1 O N) ?_;exact⟨m-1,N,_,_,_,_,O,O,k+1,O,N,N⟩
 refine tl ?_;rw[e];refine wR (λ_=>?_) λh47=>?_
 .refine rr ?_;exact⟨⟨_,O,hk,N⟩,O⟩
 refine PU.of (jC 1 O N) ?_;refine rV (λ_=>?_) λJ=>?_
 .refine rr ?_;exact⟨⟨_,O,hk,N⟩,O⟩
 refine PU.of (jC 1 O N) ?_;have⟨d,e2⟩:=vI (s:=s) (k:=k+1) N;rw[e2];refine wR (λ_=>?_) λ_=>?_
 .refine rr ?_;exact⟨⟨_,O,hk,N⟩,O⟩
 refine tl ?_;refine Yb 1 (ai:=λn x1 H2=>H2=T/\∃j,x1=B j/\j+n=s.size/\k<=j) ?_ m ⟨rfl,k,rfl,N,ax _⟩;rintro n x1 u H2 ⟨rfl,j,rfl,hjn,hkj⟩;refine q_ (λd1=>?_) λd1=>?_
 .have⟨c2,e3⟩:=vI (s:=s) (k:=j) N;rw[e3];refine wR (λd2=>?_) λd2=>?_
  .exact PU.of (jC 1 O N)<|⟨n-1,N,_,_,_,O,O,j+1,O,N,N⟩
  .have hne:j≠k:=λh=>by
    subst h;rw[e]at e3;injection e3 with e3
    injection e3 with _ e3
    omega
   exact⟨s.size-j,N,_,_,_,_,O,O,j,O,N,N⟩
 .exact⟨s.size-j,N,_,_,_,_,O,O,j,O,N,N⟩
def EsV(m:Nat)(v:Z):Prop:=∃(r:Int)(n:Nat),v=.tuple ⟨[vi r,B n]⟩/\(r=-1/\n=0\/0<=r/\r<134217728/\1<=n/\n<=m)
def WA(hw:Wf H)(s:aV)(hs:s.size<=1000000):aO Pg X 134 [.string s] H (Q1 (λv _=>EsV s.size v) H):=by
 have G:=F.refl hw;refine ce [0,2,3,4,5,9] ?_;refine q_ (λe=>?_) λhne=>?_
 .refine rr ?_;exact⟨⟨_,_,O,.inl ⟨O,O⟩⟩,G.ext⟩
 have h0:0<s.size:=by
  rcases gM s.size with h|h
  .exact absurd (by
    have⟨⟨l⟩⟩:=s;have:l=[]:=dR.1 h;subst this;rfl) hne
  .exact h
 have⟨c,e0⟩:=F6 (s:=s) (z:=0) 0 O h0;have hc:=c.toNat_lt;generalize c.toNat=c0 at e0 hc;rw[e0];refine rV (λ_=>?_) λ_=>?_
 .refine rr ?_;exact⟨⟨_,_,O,.inr ⟨by decide,by decide,by decide,h0⟩⟩,G.ext⟩
 refine aT (λ_=>?_) λ_=>?_
 .refine rr ?_;exact⟨⟨_,_,O,.inr ⟨by decide,by decide,by decide,h0⟩⟩,G.ext⟩
 refine aT (λ_=>?_) λ_=>?_
 .refine rr ?_;exact⟨⟨_,_,O,.inr ⟨by decide,by decide,by decide,h0⟩⟩,G.ext⟩
 have no:∀{x4 x5 u},gK Pg X (sub l7 [1,1,1]) (qH (.string s) (vi 0) (vi 0) x4 x5 (.int .u8 (c0:Int)) u H) (jL Pg [.tmp 2,.tmp 3]<|Q1 (λv _=>EsV s.size v) H):=by
  intro x4 x5 u;refine tl<|rr ?_;exact⟨⟨_,_,O,.inl ⟨O,O⟩⟩,G.ext⟩
 have two:∀(b:Bool) u,Bc u 16=.bool b->gK Pg X (sub l7 [1,1,0,1,0,1,1,1,1,1,1,1]) (qH (.string s) (vi 0) (vi 0) top top (.int .u8 (c0:Int)) u H) (sw 0<|t_ Pg X (sub l7 [1,1,1])<|jL Pg [.tmp 2,.tmp 3]<|Q1 (λv _=>EsV s.size v) H):=by
  intro b u hlk;refine tl ?_;rw[hlk];refine qx (λ_=>?_) λ_=>?_
  .rw[e0];refine bG ?_;rw[xE N N];refine rr ?_;exact⟨⟨_,_,O,.inr ⟨N,N,by decide,h0⟩⟩,G.ext⟩
  refine aT (λ_=>?_) λ_=>no;refine lp2 4 5 (ai:=λm x4 x5 T=>T=H/\∃v i:Nat,x4=B v/\x5=B (i+2)/\i+m=6/\v<16^i) ?_ 6 ⟨rfl,0,0,rfl,rfl,rfl,by decide⟩;rintro m x4 x5 rg2 T ⟨rfl,v,i,rfl,rfl,him,hv⟩;have h16:16^i<=16^6:=qX mO N;have anA:(16:Nat)^6=16777216:=by decide
  have fin:∀u,gK Pg X (sub l7 [1,1,0,1,0,1,1,1,1,1,1,1,1,1,0,1,1]) (qH (.string s) (vi 0) (vi 0) (B v) (B<|i+2) (.int .u8 (c0:Int)) u T) (sw 0<|t_ Pg X (sub l7 [1,1,1])<|jL Pg [.tmp 2,.tmp 3]<|Q1 (λv _=>EsV s.size v) T):=by
   intro u;refine tp ?_;have nul:EsV s.size (.tuple ⟨[vi (-1),B 0]⟩):=⟨_,_,O,.inl ⟨O,O⟩⟩;refine aT (λ_=>?_) λg1=>?_
   .refine rr ?_;exact⟨nul,G.ext⟩
   have⟨d,e1⟩:=F6 (s:=s) (z:=1) 1 O N;rw[e1];refine wR (λ_=>?_) λ_=>?_
   .refine rr ?_;exact⟨nul,G.ext⟩
   refine aT (λ_=>?_) λ_=>?_
   .refine rr ?_;exact⟨nul,G.ext⟩
   refine aT (λ_=>?_) λg2=>?_
   .refine rr ?_;exact⟨nul,G.ext⟩
   have⟨d',e2⟩:=vI (s:=s) (k:=i+2) N;rw[e2];refine wR (λ_=>?_) λ_=>?_
   .refine rr ?_;exact⟨nul,G.ext⟩
   refine aO.mono (acu G.wf v N) ?_;rintro _ H1 ⟨⟨t,rfl,_⟩,E⟩;refine rV (λ_=>?_) λ_=>?_
   .refine rr ?_;exact⟨nul,E⟩
   refine tl ?_;refine PU.of (jC 1 O N)<|bG ?_;refine rr ?_;exact⟨⟨_,_,O,.inr ⟨N,N,N,N⟩⟩,E⟩
  refine tp ?_;refine aT (λhc=>?_) λhc=>fin _;refine aT (λhd=>?_) λhc=>fin _;have⟨d,eb⟩:=vI (s:=s) (k:=i+2) N;have hd2:=d.toNat_lt;generalize d.toNat=d0 at eb hd2;have hdg:=akA d0;rw[eb];refine bG ?_;refine aO.mono (acw _ N) ?_;rintro w T ⟨rfl,rfl⟩;refine bG ?_;refine aT (λhz=>?_) λ_=>fin _;obtain⟨g,hg⟩:∃g:Nat,dgv d0=g:=⟨(dgv d0).toNat,N⟩;have hp:16^(i+1)=16^i*16:=Nat.pow_succ ..
  refine tl ?_;refine PU.of (mulN 16 O N) ?_;rw[eb];refine bG ?_;refine aO.mono (acw _ N) ?_;rintro w T ⟨rfl,rfl⟩;rw[hg];exact PU.of (addN (16*v) O N)<|PU.of (jC 1 O N)<|⟨m-1,N,_,_,_,_,O,O,16*v+g,i+1,O,by rw[show i+2+1=i+1+2 by omega],N,N⟩
 refine aT (λd1=>two f _ (by rw[bL d1];rfl)) λd1=>?_;refine aT (λd2=>two f _ (by rw[bL d2];rfl)) λd2=>?_;refine aT (λd3=>two f _ (by rw[bL d3];rfl)) λd3=>?_;refine aT (λd4=>two f _ (by rw[bL d4];rfl)) λd4=>?_;exact two _ _ O
def NW{s:aV}(h:k<=s.size):slT (.string s) (D<|B k) Q Q=D (.string<|Go.Ae.part s k s.size):=AL h
def akC(hw:Wf H)(s:aV)(hs:s.size<=1000000)(hk:k<s.size):aO Pg X 164 [.string s,B k] H (Q1 (λv _=>∃r n e:Int,v=.tuple ⟨[vi r,vi n,vi e]⟩/\(e=0->0<=r/\r<134217728/\1<=n/\k+n<=s.size)) H):=by
 have G:=F.refl hw;refine jS [0,1,4,5,6,7,8] ?_;refine G.cm (acv hw s k hk N) ?_;rintro _ H1 ⟨r,n,rfl,y⟩ E G;refine rV (λ_=>?_) λh0=>?_
 .refine rr ?_;exact⟨⟨_,_,_,O,λh=>absurd h mO⟩,G.ext⟩
 have⟨W,J,h3,h4⟩:=y.resolve_left N;refine dN (λ_=>?_) λ_=>?_
 .refine rr ?_;exact⟨⟨_,_,_,O,λ_=>⟨W,J,N,N⟩⟩,G.ext⟩
 refine PU.of (jC 1 O N) ?_;rw[NW N];refine bG ?_;have hp:=p8 s (lo:=k+1) (hi:=s.size) N N;refine G.cm (WA G.wf _ N) ?_;rintro _ H2 ⟨q,m,rfl,hq⟩ hx2 G;refine rV (λ_=>?_) λg0=>?_
 .refine rr ?_;exact⟨⟨_,_,_,O,λh=>absurd h mO⟩,G.ext⟩
 have⟨g1,g2,g3,g4⟩:=hq.resolve_left N;refine PU.of (jC 1 O N)<|rr ?_;exact⟨⟨_,_,_,O,λ_=>⟨g1,g2,N,N⟩⟩,G.ext⟩
abbrev TT:Nat->Prop:=λ_=>True
def uw(SH:Nat->Prop)(H:R)(v:Z):Prop:=∃(a:aB Addr)(n c:Nat)(zs:C Nat),v=I a n c/\je SH 275 H a n 2 (fF zs)/\n<=1000000/\(∀z∈zs,z<134217728)/\∀hr,a=D hr->hr.spot=Q
def _root_.Go.Ae.GB.sp(h:GB ty es (I a n c) M gb):∀hr,a=D hr->hr.spot=Q:=λhr e=>by
 subst e;rcases h with⟨h,_⟩|⟨r,n,eB,h,_⟩<;>cases h;rfl
def uw.nil(SH:Nat->Prop)(H:R):uw SH H (I Q 0 0):=⟨Q,0,0,[],O,je.nil _ _ _ _ _,N,(λz h=>by cases h),λhr h=>by cases h⟩
def akD(hw:Wf H)(s:aV)(hs:s.size<=1000000):aO Pg X 136 [.string s] H (Q1 (λv T=>∃(x:Z)(e w:Int),v=.tuple ⟨[x,vi e,vi w]⟩/\uw TT T x/\0<=w/\w<=2000000) H):=by
 refine ce [0,2,3,4,5,6,7,8,9,10,11,12,13,14] ?_;refine q_ (λe=>?_) λ_=>?_
 .refine rr ?_;exact⟨⟨_,_,_,O,uw.nil _ _,N,N⟩,(F.refl hw).ext⟩
 refine ahy 5 6 7 8 9 10 11 12 13 14 (ai:=λm x5 x6 x7 x8 x9 jo iJ kW jI sP T=>∃k zs gb,x6=B k/\k+m=s.size/\GB 275 2 x5 (fF zs) gb/\F [] H T gb/\(∀z∈zs,z<134217728)/\zs.length<=2*k) ?_ s.size ⟨0,[],[],rfl,N,GB.nil _ _,F.refl hw,λz h=>(nomatch h),ax _⟩;rintro m x5 x6 x7 x8 x9 jo iJ kW jI sP u H1 ⟨k,zs,gb,rfl,hkm,hg,G,hz,hzl⟩;refine gK.vg λK hK=>?_;refine kX (λhc=>?_) λhc=>?_
 .rw[hK];refine tl<|rr ?_;obtain⟨a,n,c,rfl,hn,hf⟩:=hg.IA (SH:=TT) (G.cast (bq gb).symm) λ_ _=>trivial;exact⟨⟨_,_,_,O,⟨a,n,c,zs,O,hf,by rw[aK]at hn;omega,hz,hg.sp⟩,N,N⟩,G.ext⟩
 refine G.cm (akC G.wf s hs N) ?_;rintro v H2 ⟨r,n,e,rfl,y⟩ E G;refine wR (λc=>?_) λc=>?_
 .rw[hK];refine bG ?_;refine rr ?_;exact⟨⟨_,_,_,O,uw.nil _ _,N,N⟩,G.ext⟩
 have⟨g1,g2,g3,g4⟩:=y c;obtain⟨r,rfl⟩:∃r':Nat,r=r':=⟨r.toNat,N⟩;obtain⟨n,rfl⟩:∃n':Nat,n=n':=⟨n.toNat,N⟩;refine PU.of (addN k O N)<|PU.of (jC 1 O N)<|bG ?_
 have last:∀(hi k':Nat),k<k'->k'<=s.size->hi<134217728->∀{H3}(G:F [] H H3 gb){x8 x9 iJ kW jI sP:Z}{u},gK Pg X (sub Cq [1,1,1,0,1,0,0,1,0,1,1,1,1,1]) (BQ (.string s) (I Q 0 0) (vi 0) (vi 0) x5 (B k') (B r) x8 x9 (B hi) iJ kW jI sP u H3) (sw 1 K):=by
  intro hi k' W J h4 H3 G x8 x9 iJ kW jI sP u;refine tl<|PU.b2 O<|hg.push (G.cast (bq gb).symm) N O O O O O N (by rw[aK];omega) λw v' H4 gQ hg' G=>?_;refine bG ?_;rw[hK];refine⟨s.size-k',N,_,_,_,_,_,_,_,_,_,_,_,_,O,k',zs++[r,hi],gQ,O,N,by rw[show fF (zs++[r,hi])=fF zs++[B r,B hi]from dA];exact hg',G.cast<|bq gQ,λz hz'=>?_,by simp;omega⟩;rcases bZ.1 hz' with h|h
  .exact hz z h
  .simp at h;omega
 refine mF (λc1=>?_) λc1=>?_
 .refine tp ?_;exact last r (k+n) N N N G
 have⟨d,ed⟩:=vI (s:=s) (k:=k+n) N;rw[ed];refine bG ?_;refine tl<|aT (λ_=>?_) λ_=>?_;rotate_left
 .refine bG ?_;exact last r (k+n) N N N G
 refine PU.of (jC 1 O N)<|aO.mono (akC G.wf s hs N) ?_;rintro v H3 ⟨⟨q,m',e,rfl,y⟩,E⟩;have G:=G.call E;refine wR (λc=>?_) λc=>?_
 .refine PU.of (jC 1 O N) ?_;rw[hK];refine bG ?_;refine rr ?_;exact⟨⟨_,_,_,O,uw.nil _ _,N,N⟩,G.ext⟩
 have⟨f1,f2,f3,f4⟩:=y c;obtain⟨q,rfl⟩:∃r':Nat,q=r':=⟨q.toNat,N⟩;obtain⟨m',rfl⟩:∃n':Nat,m'=n':=⟨m'.toNat,N⟩;refine aT (λ_=>?_) λ_=>?_
 .rw[hK];refine bG ?_;refine rr ?_;exact⟨⟨_,_,_,O,uw.nil _ _,N,N⟩,G.ext⟩
 exact PU.of (jC 1 O N)<|PU.of (addN (k+n+1) O N)<|last q (k+n+1+m') N N N G
abbrev cat'(a b:aV):aV:=⟨⟨app a.data.toList b.data.toList⟩⟩
def acz(a b:aV):(cat' a b).size=a.size+b.size:=by
 show(app a.data.toList b.data.toList).length=_;rw[qB,aQ];rfl
def YP{P:aU}{ox oy:bT}{a b:aV}(h:a.size+b.size<=4611686018427387904):lY P .add t ox oy (.string a) (.string b)=D (.string<|cat' a b):=by
 show gd (aD (aZ (len a.data.toList)<|len b.data.toList) 4611686018427387904) (D<|fT ⟨⟨app a.data.toList b.data.toList⟩⟩)=_;rw[fU,fU,aI (show aZ a.data.toList.length b.data.toList.length<=_ from h)];rfl
def acA(hw:Wf H)(s:aV)(hs:s.size<=1000000)(hb:b<s.size):aO Pg X 102 [.string s,B b] H (Q1 (λv _=>∃(t:aV)(n e w:Int),v=.tuple ⟨[.string t,vi n,vi e,vi w]⟩/\t.size<=4000000/\(e=0->b<n/\n<=s.size)) H):=by
 refine jS [0,1,4,5,6,7,8,9,10,11,12,13] ?_;refine PU.of (jC 1 O N) ?_;refine lp6 8 9 10 11 12 13 (ai:=λm x8 x9 jo iJ kW jI T=>∃k t,x8=.string t/\x9=B k/\k+m=s.size/\b<k/\t.size<=4*k/\F [] H T []) ?_ (s.size-(b+1)) ⟨b+1,_,rfl,rfl,N,N,bA _,F.refl hw⟩;rintro m x8 x9 jo iJ kW jI u H1 ⟨k,t,rfl,rfl,hkm,hbk,ht,G⟩;refine gK.vg λK hK=>?_;have er:∀{n e w:Int},e≠0->∃(t:aV)(n' e' w':Int),(JQ ⟨[.string ⟨#[]⟩,vi n,vi e,vi w]⟩)=.tuple ⟨[.string t,vi n',vi e',vi w']⟩/\t.size<=4000000/\(e'=0->b<n'/\n'<=s.size):=λh=>⟨_,_,_,_,rfl,bA _,λh'=>absurd h' h⟩
 have fin:∀u,gK Pg X (sub vk [1,1,1,1]) (uD (.string s) (B b) (.string ⟨#[]⟩) (vi 0) (vi 0) (vi 0) (.string t) (B k) jo iJ kW jI u H1) (jL Pg [.tmp 4,.tmp 5,.tmp 6,.tmp 7]<|Q1 (λv _=>∃(t:aV)(n e w:Int),v=.tuple ⟨[.string t,vi n,vi e,vi w]⟩/\t.size<=4000000/\(e=0->b<n/\n<=s.size)) H):=by
  intro u;refine q_ (λ_=>?_) λ_=>?_
  .refine rr ?_;exact⟨er mO,G.ext⟩
  refine aT (λ_=>?_) λ_=>?_
  .refine rr ?_;exact⟨er mO,G.ext⟩
  refine PU.of (jC 1 O N)<|rr ?_;exact⟨⟨t,_,_,_,O,N,λ_=>⟨N,N⟩⟩,G.ext⟩
 refine kX (λhc=>?_) λhc=>?_
 .rw[hK];refine bG ?_;exact fin _
 have⟨c,ec⟩:=vI (s:=s) (k:=k) N;rw[ec];refine wR (λ_=>?_) λ_=>?_;rotate_left
 .rw[hK];refine bG ?_;exact fin _
 refine tl<|aO.mono (acv G.wf s k N N) ?_;rintro _ H2 ⟨⟨r,n,rfl,y⟩,E⟩;have G:=G.call E;refine rV (λ_=>?_) λh0=>?_
 .refine tp ?_;rw[hK];refine bG ?_;refine rr ?_;exact⟨er mO,G.ext⟩
 have⟨g1,g2,g3,g4⟩:=y.resolve_left N;obtain⟨r,rfl⟩:∃r':Nat,r=r':=⟨r.toNat,N⟩;refine tl<|aT (λ_=>?_) λ_=>?_
 .rw[hK];refine bG ?_;refine rr ?_;exact⟨er mO,G.ext⟩
 refine tl ?_
 have last:∀{r n:Nat}(W:r<134217728)(J:1<=n)(h3:k+n<=s.size){H3}(G:F [] H H3 []){kW jI u},gK Pg X (sub vk [1,1,1,0,0,0,1,0,1,1,1]) (uD (.string s) (B b) (.string ⟨#[]⟩) (vi 0) (vi 0) (vi 0) (.string t) (B k) (B r) (B n) kW jI u H3) (sw 1 K):=by
  intro r n W J h3 H3 G kW jI u;refine tl<|aO.mono (acu G.wf r N) ?_;rintro v H4 ⟨⟨t2,rfl,ht2⟩,E⟩;have G:=G.call E;refine PU.of (YP N)<|PU.of (addN k O N) ?_;have ecs:=acz t t2;refine bG ?_;rw[hK];exact⟨s.size-(k+n),N,_,_,_,_,_,_,_,_,O,k+n,_,O,O,N,N,N,G⟩
 refine bG ?_;refine aT (λ_=>?_) λ_=>last N g3 N G;refine PU.of (jC 1 O N) ?_;rw[NW N];refine bG ?_;have hp:=p8 s (lo:=k+1) (hi:=s.size) N N;refine G.cm (WA G.wf _ N) ?_;rintro _ H3 ⟨q,n',rfl,hq⟩ hx2 G;refine rV (λ_=>?_) λ_=>?_
 .rw[hK];refine bG ?_;refine rr ?_;exact⟨er mO,G.ext⟩
 have⟨f1,f2,f3,f4⟩:=hq.resolve_left N;obtain⟨q,rfl⟩:∃r':Nat,q=r':=⟨q.toNat,N⟩;exact PU.of (jC 1 O N)<|last N N N G
def uw.m'{SH:Nat->Prop}(h:uw SH H v):uw SH (hM H0 H) v:=h
def ah2(hw:Wf H)(s:aV)(hs:s.size<=1000000)(hb:b<s.size):aO Pg X 103 [.string s,B b] H (Q1 (λv T=>∃(x:Z)(n e w:Int),v=.tuple ⟨[x,vi n,vi e,vi w]⟩/\uw TT T x/\(e=0->b<n/\n<=s.size)) H):=by
 refine jS [0,1,4,5,6,7,8,9,10,11] ?_;refine PU.of (jC 1 O N) ?_;refine Yb 8 (ai:=λm x8 T=>T=H/\∃k,x8=B k/\k+m=s.size+1/\b<k) ?_ (s.size+1-(b+1)) ⟨rfl,b+1,rfl,N,N⟩;rintro m x8 u H1 ⟨rfl,k,rfl,hkm,hbk⟩;refine gK.vg λK hK=>?_;refine tp ?_;have er:∀{n e w:Int},e≠0->∀T,∃(x:Z)(n' e' w':Int),(JQ ⟨[I Q 0 0,vi n,vi e,vi w]⟩)=.tuple ⟨[x,vi n',vi e',vi w']⟩/\uw TT T x/\(e'=0->b<n'/\n'<=s.size):=λh T=>⟨_,_,_,_,rfl,uw.nil _ _,λh'=>absurd h' h⟩
 have fin:∀{x9 jo iJ} u,gK Pg X (sub BO [1,1,1]) (AR (.string s) (B b) (I Q 0 0) (vi 0) (vi 0) (vi 0) (B k) x9 jo iJ u H1) (jL Pg [.tmp 4,.tmp 5,.tmp 6,.tmp 7]<|Q1 (λv T=>∃(x:Z)(n e w:Int),v=.tuple ⟨[x,vi n,vi e,vi w]⟩/\uw TT T x/\(e=0->b<n/\n<=s.size)) H1):=by
  intro x9 jo iJ u;refine q_ (λ_=>?_) λ_=>?_
  .refine rr ?_;exact⟨er mO _,(F.refl hw).ext⟩
  refine PU.of (jC 1 O N) ?_;rw[CZ N N];refine bG ?_;have hp:=p8 s (lo:=b+1) (hi:=k) N N;refine aO.mono (akD hw _ N) ?_;rintro _ H2 ⟨⟨x,e,w,rfl,hY,w0,w1⟩,E⟩;refine wR (λc=>?_) λc=>?_
  .refine PU.of (jC 1 O N) ?_;refine dQ ?_;refine rr ?_;exact⟨er c _,E⟩
  refine PU.of (jC 1 O N)<|rr ?_;exact⟨⟨_,_,_,_,O,hY,λ_=>⟨N,N⟩⟩,E⟩
 refine mF (λhc=>?_) λhc=>?_
 .rw[hK];refine bG ?_;exact fin _
 have⟨c,ec⟩:=vI (s:=s) (k:=k) N;rw[ec];refine wR (λ_=>?_) λ_=>?_;rotate_left
 .rw[hK];refine bG ?_;exact fin _
 refine tl ?_;rw[ec];refine bG ?_;rw[hK];refine aT (λ_=>?_) λ_=>?_
 .exact PU.of (jC 1 O N)<|PU.of (jC 1 O N)<|⟨s.size+1-(k+1+1),N,_,_,_,O,O,k+1+1,O,N,N⟩
 .exact PU.of (jC 1 O N)<|⟨s.size+1-(k+1),N,_,_,_,O,O,k+1,O,N,N⟩
def WB(SH:Nat->Prop)(H:R)(l:C Z)(z:Prop):Prop:=∃(k a e:Int)(t:aV)(x:Z),l=[vi k,vi a,vi e,.string t,x]/\t.size<=4000000/\uw SH H x/\0<=k/\k<=15/\(z->k=0)
def Ad(SH:Nat->Prop)(H:R)(v:Z)(n:Nat):Prop:=∃(a:aB Addr)(c:Nat)(M:C Z),v=I a n c/\je SH 186 H a n 5 M/\n<=20001/\∀i,i<n->WB SH H (El M 5 i) (i+1=n)
def uw.st{SH:Nat->Prop}{S:C Nat}(h:uw SH H v)(E:oN S H T)(G:∀q∈S,¬SH q\/¬yS H q 275):uw SH T v:=let⟨a,n,c,zs,W,J,h3⟩:=h;⟨a,n,c,zs,W,J.stay E G,h3⟩
def WB.st{SH:Nat->Prop}{S:C Nat}(h:WB SH H l z)(E:oN S H T)(G:∀q∈S,¬SH q\/¬yS H q 275):WB SH T l z:=let⟨k,a,e,t',x,W,J,h3,h4⟩:=h;⟨k,a,e,t',x,W,J,h3.st E G,h4⟩
def agF{S:C Nat}{w:Z}(hg:GB 186 5 x M gb)(hcl:M.length=i*5)(hi:i<=20001)(G:F S H0 H<|gb++L)(hty:(gb++L).all (λe=>!(e.2.1==275))=f)(hrow:∀j,j<i->WB TT H (El M 5 j) False)(ht:WB TT H l z)(hw:bK w=l)(W:pZ w=f)(J:all' fC l=f){Kp:Z->Z->R->Prop}(kk:∀q v' H3 gQ cs',GB 186 5 v' cs' gQ->cs'.length=(i+1)*5->F S H0 H3 (gQ++L)->(∀j,j<i+1->WB TT H3 (El cs' 5 j) (j=i/\z))->Kp q v' H3):ME (bS 186 [vi 0,vi 0,vi 0,.string ⟨#[]⟩,I Q 0 0] 5 1 [(0,w)] H) λq H1=>ME (zY 186 5 x q H1) (Kp q):=by
 have hl:l.length=5:=by obtain⟨_,_,_,_,_,rfl,_⟩:=ht;rfl
 have htn:=G.GX hty;refine hg.push G.base N O hw hl W J N N λq v' H3 gQ hg' hO=>?_;have hE:=BX (es:=5) (n:=i) hcl hl;refine kk q v' H3 gQ (M++l) hg' (by rw[aQ];omega) (G.over hO) λj hj=>?_;rcases cr j i with h|h
 .rw[hE.1 j h];have⟨k,a,e,t,x,g1,g2,g3,g4,g5,g6⟩:=(hrow j h).st hO.ext λq hq=>.inr<|htn q hq;exact⟨k,a,e,t,x,g1,g2,g3,g4,g5,λh=>N⟩
 .obtain rfl:j=i:=N;rw[hE.2];have⟨k,a,e,t,x,g1,g2,g3,g4,g5,g6⟩:=ht.st hO.ext λq hq=>.inr<|htn q hq;exact⟨k,a,e,t,x,g1,g2,g3,g4,g5,λh=>g6 h.2⟩
theorem amr(hw:Wf H)(s:aV):aO Pg X 70 [.string s] H (Q1 (λv T=>∃(x:Z)(e w:Int),v=.tuple ⟨[x,vi e,vi w]⟩/\(e=0->∃n,Ad TT T x<|n+1)) H):=by
 refine ce [0,2,3,4,5,6,7,8,9,10] ?_;refine q_ (λc=>?_) λhc=>?_
 .refine rr ?_;exact⟨⟨_,_,_,O,λh=>absurd h mO⟩,(F.refl hw).ext⟩
 have hs:s.size<=20000:=N;refine aO.mono (acy s N (k0:=0)<|bA _) ?_;rintro _ H ⟨⟨b,rfl,_,hb⟩,rfl⟩;refine lp6 5 6 7 8 9 10 (ai:=λm x5 x6 x7 x8 x9 jo T=>∃(b n:Nat)(M:C Z)(gb:C dL),x6=B b/\b+m=s.size/\n<=b/\GB 186 5 x5 M gb/\M.length=n*5/\F [] H T gb/\∀j,j<n->WB TT T (El M 5 j) False) ?_ (s.size-b) ⟨b,0,[],[],rfl,N,bA _,GB.nil _ _,rfl,F.refl hw,λj h=>absurd h<|jZ _⟩;rintro m x5 x6 x7 x8 x9 jo u H1 ⟨b,n,M,gb,rfl,hbm,hnb,hg,hcl,G,hrow⟩;refine gK.vg λK hK=>?_;have er:∀{e w:Int}{T:R},e≠0->∃(x:Z)(e' w':Int),(JQ ⟨[I Q 0 0,vi e,vi w]⟩)=.tuple ⟨[x,vi e',vi w']⟩/\(e'=0->∃n,Ad TT T x<|n+1):=λh=>⟨_,_,_,rfl,λh'=>absurd h' h⟩;refine kX (λhc=>?_) λhc=>?_
 .rw[hK];refine tp ?_;refine PU.b5 O<|agF (z:=True) hg hcl N (G.cast (bq gb).symm) (by simp[hg.all]) hrow ⟨_,_,_,_,_,rfl,bA _,uw.nil _ _,N,N,λ_=>rfl⟩ O O O λw v' H3 gQ cs' hg' aeX G hrow=>?_;refine bG ?_;obtain⟨a,n',c,rfl,hn',hf⟩:=hg'.IA (SH:=TT) G λ_ _=>trivial;obtain rfl:n'=n+1:=N
  refine rr ?_;exact⟨⟨_,_,_,O,λ_=>⟨n,a,c,_,rfl,hf,N,λj hj=>by
   have⟨k,a,e,t,x,g1,g2,g3,g4,g5,g6⟩:=hrow j hj;exact⟨k,a,e,t,x,g1,g2,g3,g4,g5,λh=>g6 ⟨N,trivial⟩⟩⟩⟩,G.ext⟩
 refine PU.of (jC 1 O N)<|PU.b5 O ?_;have hS0:=G;refine G.nI O O O λH3 rt G hx3=>?_;have G:F [] H H3 ((rt,186,[vi 0,B b,B<|b+1,.string ⟨#[]⟩,I Q 0 0])::gb):=G;have hrow:∀j,j<n->WB TT H3 (El M 5 j) False:=λj hj=>(hrow j hj).st hx3 nofun;have⟨ch,ec⟩:=vI (s:=s) (k:=b) N;rw[ec];refine aO.mono (Wz _) ?_;rintro v H4 ⟨⟨bl,rfl⟩,rfl⟩
 have tail:∀{H5:R}{k e:Int}{t':aV}{x:Z}{ev wv:Int},F [] H H5 ((rt,186,[vi k,B b,vi e,.string t',x])::gb)->(∀j,j<n->WB TT H5 (El M 5 j) False)->uw TT H5 x->0<=k->k<=15->t'.size<=4000000->(ev=0->b<e/\e<=s.size)->∀{x8 u},gK Pg X (sub iB [1,1,1,0,1,0,0,1,0,0,1,1,1,1]) (pR (.string s) (I Q 0 0) (vi 0) (vi 0) x5 (B b) (pr rt) x8 (vi ev) (vi wv) u H5) (sw 1<|t_ Pg X (sub iB [1,1,1,0,1,0,0,1,1]) K):=by
  intro H5 k e t' x ev wv G hrow E hk0 hk ht hE x8 u;obtain⟨xa,xn,xc,zs,rfl,hx'⟩:=id E;refine aj4 (λc=>?_) λc=>?_
  .rw[hK];refine bG ?_;refine rr ?_;exact⟨er c,G.ext⟩
  have⟨W,J⟩:=hE c;obtain⟨e,rfl⟩:∃e':Nat,e=e':=⟨e.toNat,N⟩;refine G.rZ 0 O (ax 5)<|agF (z:=False) hg hcl N (G.perm<|aG (l₁:=[_])) (by simp[hg.all]) hrow ⟨_,_,_,_,_,rfl,ht,E,hk0,hk,λh=>h.elim⟩ O O O λw v' H6 gQ cs' hg' aeX G hrow=>?_;have G:=G.perm<|aG (l₂:=[_]);refine G.ld 0 (o:=2) O O<|tl<|aO.mono (acy s N (k0:=e) N) ?_;rintro _ H7 ⟨⟨b',rfl,hb1,hb2⟩,rfl⟩;rw[hK]
  exact⟨s.size-b',N,_,_,_,_,_,_,_,_,O,b',n+1,cs',gQ,O,N,N,hg',aeX,F.drop (A:=[_]) G,λj hj=>by
   have⟨k,a,e,t,x,g1,g2,g3,g4,g5,g6⟩:=hrow j hj;exact⟨k,a,e,t,x,g1,g2,g3,g4,g5,λh=>h.elim⟩⟩
 have rows:∀{H5 H6:R}{l:C Z}{L':C dL},F [] H H5 ((rt,186,l)::gb)->F ((((rt,186,l)::gb):C dL).map (·.1)) H5 H6 L'->(∀j,j<n->WB TT H5 (El M 5 j) False)->∀j,j<n->WB TT H6 (El M 5 j) False:=λW J h3 j hj=>(h3 j hj).st J.ext λq hq=>.inr<|W.GX (by simp[hg.all]) q hq;refine qx (λ_=>?_) λ_=>?_
 .have post:∀{H5:R}{e:Nat},b<e->e<=s.size->F [] H H5 ((rt,186,[vi 0,B b,B e,.string ⟨#[]⟩,I Q 0 0])::gb)->(∀j,j<n->WB TT H5 (El M 5 j) False)->∀{u},gK Pg X (sub iB [1,1,1,0,1,0,0,1,0,0,1,1,1,0,0,1,0,1]) (pR (.string s) (I Q 0 0) (vi 0) (vi 0) x5 (B b) (pr rt) (.int .u8 ch.toNat) (vi 0) (vi 0) u H5) (sw 2<|t_ Pg X (sub iB [1,1,1,0,1,0,0,1,0,0,1,1,1,1])<|sw 1<|t_ Pg X (sub iB [1,1,1,0,1,0,0,1,1]) K):=by
   intro H5 e W J G hrow u;have hS0:=G;have G:=G.base;refine tm ?_;rw[CZ N J];refine G.kL ?_;refine G.mh λHn G=>?_;refine G.mh λHn G=>?_;refine splitK (λK hK=>?_) ?_
   .simp only[d_,fK];apply EL (a:=rt) xN jr jr hK
   have hp:=p8 s (lo:=b) (hi:=e) N J
   have fin:∀{z:Int}{H6:R},0<=z->z<=15->F ((((rt,186,[vi 0,B b,B e,.string ⟨#[]⟩,I Q 0 0])::gb):C dL).map (·.1)) H5 H6 ((rt,186,[vi z,B b,B e,.string<|Ae.part s b e,I Q 0 0])::gb)->∀{u},gK Pg X (sub iB [1,1,1,0,1,0,0,1,0,0,1,1,1,0,0,1,0,1,1,1]) (pR (.string s) (I Q 0 0) (vi 0) (vi 0) x5 (B b) (pr rt) (.int .u8 ch.toNat) (vi 0) (vi 0) u H6) (sw 2<|t_ Pg X (sub iB [1,1,1,0,1,0,0,1,0,0,1,1,1,1])<|sw 1<|t_ Pg X (sub iB [1,1,1,0,1,0,0,1,1]) K):=by
    intro z H6 z0 z1 hO u;have hrow:=rows hS0 hO hrow;have G:=hS0.over hO;refine tp ?_;refine G.ld 0 (o:=2) O O ?_;rw[pg N N];refine rV (λc=>?_) λ_=>?_
    .rw[hK];refine bG ?_;refine rr ?_;exact⟨er mO,G.ext⟩
    exact tail G hrow (uw.nil _ _) z0 z1 N λ_=>N
   refine aT (λc=>?_) λc=>?_
   .exact G.jH λHn G=>fin N N G
   .exact fin N N G
  refine Yb 9 (ai:=λm x9 T=>x9=vi 0/\∃k,k+m=s.size/\b+1<=k/\F [] H T ((rt,186,[vi 0,B b,B k,.string ⟨#[]⟩,I Q 0 0])::gb)/\∀j,j<n->WB TT T (El M 5 j) False) ?_ (s.size-(b+1)) ⟨rfl,b+1,N,ax _,G,hrow⟩;clear G hrow;rintro q x9 u H5 ⟨rfl,k,hkq,hbk,G,hrow⟩;refine tp ?_;refine G.ld 0 (o:=2) O O ?_;refine bG ?_;refine aT (λc=>?_) λc=>post N N G hrow;refine G.ld 0 (o:=2) O O ?_;have⟨c1,ec1⟩:=vI (s:=s) (k:=k) N;rw[ec1];refine bG ?_;refine aO.mono (akz _) ?_;rintro v H6 ⟨⟨bp,rfl⟩,rfl⟩;refine bG ?_;refine gF (λc2=>?_) λc2=>post N N G hrow;have hS0:=G;have G:=G.base;refine tp ?_;exact G.ld 0 (o:=2) O O<|PU.of (jC 1 O N)<|G.jH λHn G=>⟨q-1,N,_,_,_,rfl,rfl,k+1,N,N,hS0.over G,rows hS0 G hrow⟩
 have hS1:=G;have G:=G.base;refine aT (λ_=>?_) λ_=>?_
 .refine G.jH λHn G=>aO.mono (acA G.wf s N (b:=b) N) ?_;rintro v H5 ⟨⟨t',e,ev,wv,rfl,ht',hE⟩,E⟩;have G:=G.call E;refine G.kL ?_;refine G.jH λHn G=>?_;refine G.jH λHn G=>?_;exact tail (hS1.over G) (rows hS1 G hrow) (uw.nil _ _) N N ht' hE
 refine aT (λ_=>?_) λ_=>?_
 .refine G.jH λHn G=>aO.mono (ah2 G.wf s N (b:=b) N) ?_;rintro v H5 ⟨⟨x,e,ev,wv,rfl,hx',hE⟩,E⟩;have G:=G.call E;have htn:=G.GX (ty:=275) (by simp[hg.all]);have hS2:=G;have G:=G.base;obtain⟨xa,xn,xc,zs,rfl,hx4⟩:=id hx';refine G.kL ?_;refine G.jH λHn G=>?_;refine G.jH λHn G=>?_;have hx':=hx'.st G.ext λq hq=>.inr<|htn q hq;have G:=hS2.over G;exact tail (hS1.over G) (rows hS1 G hrow) hx' N N (bA _) hE
 have fin:∀{b1:Bool}{u},Bc u 100=.bool b1->(b1=f->b+1<s.size)->gK Pg X (sub iB [1,1,1,0,1,0,0,1,0,0,1,1,1,0,0,1,1,1,1,1,1,1]) (pR (.string s) (I Q 0 0) (vi 0) (vi 0) x5 (B b) (pr rt) (.int .u8 ch.toNat) (vi 0) (vi 0) u H4) (sw 2<|t_ Pg X (sub iB [1,1,1,0,1,0,0,1,0,0,1,1,1,1])<|sw 1<|t_ Pg X (sub iB [1,1,1,0,1,0,0,1,1]) K):=by
  intro b1 u hlk J;refine tl ?_;rw[hlk];cases b1
  .refine bG ?_;refine aO.mono (akB _) ?_;rintro v H5 ⟨⟨k,rfl,hk⟩,rfl⟩;refine G.jH λHn G=>?_;refine wS (λ_=>?_) λ_=>?_
   .rw[hK];refine bG ?_;refine rr ?_;exact⟨er mO,(hS1.over G).ext⟩
   exact tail (hS1.over G) (rows hS1 G hrow) (uw.nil _ _) N N (bA _) λ_=>N
  .refine bG ?_;refine PU.of (jC 2 O N)<|G.jH λHn G=>?_;refine G.jH λHn G=>?_;have:=J O;exact tail (hS1.over G) (rows hS1 G hrow) (uw.nil _ _) N N (bA _) λ_=>N
 refine aT (λ_=>?_) λ_=>fin O<|nofun;refine PU.of (jC 1 O N)<|bG ?_;refine aT (λ_=>?_) λ_=>fin O<|nofun;refine PU.of (jC 1 O N) ?_;have⟨c1,ec1⟩:=vI (s:=s) (k:=b+1) N;rw[ec1];refine bG ?_;exact fin O λ_=>N
section
variable{S:C Nat}{xs:C Z}
def GE(ty:aH)(es:Nat)(v:Z)(M:C Z)(gb:C dL):Prop:=GB ty es v M gb\/∃a,v=I (D a) 0 0/\M=[]/\gb=[]
def GE.sl(h:GE ty es v M gb):∃a n c,v=I a n c:=by
 rcases h with(⟨rfl,_⟩|⟨r,n,eB,rfl,_⟩)|⟨a,rfl,_⟩<;>exact⟨_,_,_,O⟩
def GE.IA{SH:Nat->Prop}(h:GE ty es v M gb)(G:F S H0 H<|gb++L)(hF:∀e∈gb,SH e.1):∃a n c,v=I a n c/\M.length=n*es/\je SH ty H a n es M:=by
 rcases h with h|⟨a,rfl,rfl,rfl⟩
 .exact h.IA G hF
 .exact⟨D a,0,0,O,by simp,⟨by simp,λi x h=>by simp at h⟩,λr o e h=>absurd h<|qV 0⟩
theorem _root_.Go.Ae.F.ah3(G:F S H0 H L){z:C Z}(k:∀H1 a,F S H0 (hM H H1) L->Ml H H1=cl 5->K (I (D a) 0 0) H1):ME (bS ty z es 0 []<|hN H) K:=by
 refine ME.of (v:=I (D ⟨H.next,0,Q⟩) 0 0) (H:=(hN H).new<|rowOf ty []) ?_<|k _ _ (F.drop (A:=[_])<|G.yG ty [])<|xQ<|Ext.new _ _;unfold bS;rw[show bO 0 es=0 from iQ es];rfl
def _root_.Go.Ae.F.ah4(G:F S H0 H L)(ha:appended (hN H) es x=D (n,xs))(E:xs.length=n*es)(hn:n<=16777216){a0:Addr}(k:∀v' H1 gQ,GE ty es v' xs gQ->F S H0 (hM H H1) (gQ++L)->DY H H1=cl 1->K v' H1):ME (zY ty es (I (D a0) 0 0) x<|hN H) K:=by
 rw[C5 (.inr ⟨_,rfl⟩) ha hn];split
 .next h0=>
  subst h0;obtain rfl:xs=[]:=dR.1 N;refine k _ (hN H) [] (.inr ⟨a0,O,O,O⟩) ?_<|fP<|Ext.refl _;rw[gN G.wf];exact G
 .exact k _ _ [(H.next,ty,xs)] (.inl<|.inr ⟨H.next,n,[],O,E,by simp⟩) (G.yG ty xs)<|fP<|Ext.new _ _
theorem GE.apX(hg:GE ty es v M gb)(G:F S H0 H<|gb++L)(he:0<es)(ha:appended (hN H) es x=D (n,xs))(E:xs.length=n*es)(hok:all' fC xs=f)(hn:n<=16777216)(hc:M.length<=16777216)(k:∀v' H1 gQ,GE ty es v' (M++xs) gQ->F S H0 (hM H H1) (gQ++L)->(DY H H1=cl 1\/DY H H1=⟨2,0,0,0,H,H1⟩)->K v' H1):ME (zY ty es v x<|hN H) K:=by
 have hnew:∀{w},(w=I Q 0 0\/∃a,w=I (D a) 0 0)->GE ty es w [] []->F S H0 H L->(∀v' H1 gQ,GE ty es v' xs gQ->F S H0 (hM H H1) (gQ++L)->(DY H H1=cl 1\/DY H H1=⟨2,0,0,0,H,H1⟩)->K v' H1)->ME (zY ty es w x<|hN H) K:=λhw hgw G k=>by
  rw[C5 hw ha hn];split
  .next h0=>
   subst h0;obtain rfl:xs=[]:=dR.1 N;refine k _ (hN H) [] hgw ?_<|.inl<|fP<|Ext.refl _;rw[gN G.wf];exact G
  .exact k _ _ [(H.next,ty,xs)] (.inl<|.inr ⟨H.next,n,[],O,E,by simp⟩) (G.yG ty xs)<|.inl<|fP<|Ext.new _ _
 rcases id hg with(⟨rfl,rfl,rfl⟩|⟨r,m,eB,rfl,hm,rfl⟩)|⟨a,rfl,rfl,rfl⟩
 .exact hnew (.inl O) hg G k
 .cases n with
  |zero=>
   obtain rfl:xs=[]:=dR.1 N;refine ME.of (v:=I (D ⟨r,0,Q⟩) m<|fJ es) (H:=hN H) ?_<|k _ (hN H) _ (by rw[bq];exact hg) (by rw[gN G.wf];exact G)<|.inl<|fP<|Ext.refl _;unfold zY;show(aL (appended (hN H) es x) λq=>gd (aD q.1 16777216)<|PW (ty,es) _ (D ⟨r,0,Q⟩,m,fJ es) q.1 q.2<|hN H)=_;rw[ha];rfl
  |succ n=>
   have hb:Bk (hN H) r ty (M++eB):=G.get 0 O;have y:=(G.lo _<|aN ..).2
   have hnn:m<=16777216:=by
    have:m*1<=m*es:=gG m he;omega
   have⟨r',H1,Ef,W,J,h3,h4,h5,h6⟩:=OM he hb y hm ha N hok N hnn;refine ME.of W<|k _ H1 [(r',ty,M++xs++Ef)] (.inl<|.inr ⟨r',m+(n+1),Ef,O,?_,O⟩) ?_<|vQ _ _
   .rw[aQ,hm,E,<-gX]
   .refine F.turn (A:=[(r,ty,M++eB)]) G h5.draw (λe he'=>?_) (iR _ _);rw[aP]at he';subst he';refine⟨J,?_,h4⟩;rcases h3 with h3|h3
    .exact .inl (by simp[h3])
    .exact .inr (by show H.next<=r';rw[h3];exact ax _)
 .exact hnew (.inr ⟨a,O⟩) hg G k
theorem GE.acB(hg:GE ty es v M gb){rx cx:Nat}(G:F S H0 H<|(rx,ty,xs)::(gb++L))(he:0<es)(E:xs.length=es)(hok:all' fC xs=f)(hc:M.length<=16777216)(k:∀v' H1 gQ,GE ty es v' (M++xs) gQ->F S H0 (hM H H1) (gQ++L)->(DY H H1=cl 1\/DY H H1=⟨2,0,0,0,H,H1⟩)->K v' H1):ME (zY ty es v (I (D ⟨rx,0,Q⟩) 1 cx)<|hN H) K:=
 hg.apX (F.drop (A:=[_]) G) he (vW (H:=hN H) (k:=1) (G.get 0 O) N) N hok N hc k
end
def Cj(H:R)(v:Z)(k:Nat):Prop:=∃(r n c:Nat)(xs:C Nat)(eB:C Z),v=I (D ⟨r,0,Q⟩) n c/\(c=fJ 1\/n=1/\c=1)/\Bk H r 3 (fF xs++eB)/\r<H.next/\xs.length=n/\n<=k/\∀x∈xs,x<=134217728
def Cj.ex(h:Cj H v k)(E:Ext H T):Cj T v k:=let⟨r,n,c,xs,eB,W,J,h3,h4,h5⟩:=h;⟨r,n,c,xs,eB,W,J,h3.ex h4 E,aR h4 E.next,h5⟩
def akE(hc:c=fJ 1\/n=1/\c=1)(h:k<=n):∃c',XY 1 (I (D ⟨r,0,Q⟩) n c) Q (D<|B k) Q=D (I (D ⟨r,0,Q⟩) k c'):=by
 rcases hc with rfl|⟨rfl,rfl⟩
 .exact⟨_,BM h⟩
 .obtain rfl|rfl:k=0\/k=1:=N
  .exact⟨_,O⟩
  .exact⟨_,O⟩
def aeY(hc:c=fJ 1\/n=1/\c=1)(h:k<=n):∃o c',XY 1 (I (D ⟨r,0,Q⟩) n c) (D<|B k) Q Q=D (I (D ⟨r,o,Q⟩) (n-k) c')/\o+(n-k)<=n:=by
 rcases hc with rfl|⟨rfl,rfl⟩
 .exact⟨_,_,QM h,N⟩
 .obtain rfl|rfl:k=0\/k=1:=N
  .exact⟨_,_,O,ax 1⟩
  .first|exact⟨_,_,O,ax 1⟩|exact⟨_,_,O,bA 1⟩
def acC{o:Nat}{xs eB:C Z}(h:Bk H r ty<|xs++eB)(hl:o+k<=xs.length):appended (hN H) 1 (I (D ⟨r,o,Q⟩) k c)=D (k,(xs.drop o).take k):=by
 have h:Bk (hN H) r ty (xs++eB):=h;show(aL ((hN H).read r o<|bO k 1) λl=>D (k,l))=_;rw[show bO k 1=k from dz k,h.read (by rw[aQ];omega),p_ N,qh (by rw[uF];omega)];rfl
def acD:∀xs:C Nat,all' fC (fF xs)=f
 |[]=>rfl
 |x::xs=>by show bV f (all' fC<|fF xs) aC=f;exact acD xs
theorem agG(hw:Wf H){z:Nat}(hl:Cj H v k)(hk:k<=3000000)(hz:z<=134217728):aO Pg X 219 [v,B z] H (Q1 (λw T=>Cj T w<|k+1) H):=by
 obtain⟨r,n,c,xs,eB,rfl,hc,hb,y,hn,hnk,hxs⟩:=id hl;have G:=F.refl hw;have same:Cj H (I (D ⟨r,0,Q⟩) n c) (k+1):=⟨r,n,c,xs,eB,O,hc,hb,y,hn,N,hxs⟩;refine Fh [0,1,4,5] ?_;refine aT (λc=>N) λ_=>?_;refine aT (λc=>?_) λ_=>?_
 .refine rr ?_;exact⟨same,G.ext⟩
 refine tl ?_
 have ix:∀{i}{K:Z->Z->R->Prop},i<n->(∀p x,K p (B x) H)->PU (zN 1 (I (D ⟨r,0,Q⟩) n c)<|B i) λp=>ME (vH Q p H) (K p):=λ{i K} hi hk=>by
  have hf:je (λ_=>True) 3 H (D ⟨r,0,Q⟩) n 1 (fF xs):=⟨⟨by rw[aK];omega,λj x hj=>⟨r,0,rfl,y,by rw[aY];apply hb.cell;rw[bM (bE.1 hj).1];exact hj⟩⟩,λr' o e _=>by cases e;exact⟨trivial,y,hb.Jc⟩⟩;exact hf.ix hi (jR _<|av N) λp=>hk p _
 refine Yb 5 (ai:=λm x5 T=>T=H/\∃i,x5=B i/\i+m=n) ?_ n ⟨rfl,0,rfl,aY n⟩;rintro m x5 u T ⟨rfl,i,rfl,him⟩
 have fin:∀{x4 u},gK Pg X (sub wW [1,1,1,1,1]) (wI (I (D ⟨r,0,Q⟩) n c) (B z) x4 (B i) u T) (jL Pg [.tmp 4]<|Q1 (λw T=>Cj T w<|k+1) T):=by
  intro x4 u;refine tl<|G.ah3 λH1 a G hc1=>?_;have⟨c1,e1⟩:=akE (r:=r) (k:=i) hc N;refine PU.of e1 ?_;have hlx:(fF xs).length=n:=by rw[aK];exact hn
  refine G.ah4 (acC (hb.ex y G.ext) N) (by rw[dF,jf,hlx];omega) N λv2 H2 g2 hg2 G hc2=>?_;refine G.PL O O O N λH3 rx G hc3=>hg2.acB G N O O (by rw[dF,jf,hlx];omega) λv4 H4 g4 hg4 G hc4=>?_;have⟨o,c5,e5,ho⟩:=aeY (r:=r) (k:=i) hc N;refine PU.of e5 ?_;have e2:((fF xs).drop o).take (n-i)=fF ((xs.drop o).take<|n-i):=by show _=List.map _ _;rw[List.map_take,List.map_drop]
  refine hg4.apX G N (acC (hb.ex y G.ext) N) (by rw[dF,uF,hlx];omega) ?_ N (by rw[aQ,dF,jf,hlx];show min i n+1<=_;omega) λv6 H6 g6 hg6 G hc6=>?_
  .rw[e2];exact acD _
  refine splitK (λK hK=>?_) ?_
  .simp only[hc1,hc2,hc3];rcases hc4 with e|e<;>rw[e]<;>rcases hc6 with e|e<;>rw[e]<;>apply C_ (H':=λ_=>True) jr jr hK<;>repeat' apply ik
   all_goals first|exact trivial|(intro h;cases h;done)|exactλ_=>trivial
  rw[e2,jf,<-List.map_take,show bK (B z)=fF [z]from O,<-dA,<-dA]at hg6;generalize hys:xs.take i++[z]++(xs.drop o).take (n-i)=ys at hg6;have hyl:ys.length=n+1:=by rw[<-hys];simp;omega
  have hyb:∀hr∈ys,hr<=134217728:=λhr hy=>by
   rw[<-hys]at hy;simp only[bZ,aP]at hy;rcases hy with(hy|hy)|hy
   .exact hxs hr<|eX hy
   .omega
   .exact hxs hr<|jK<|eX hy
  rcases hg6 with(⟨_,h,_⟩|⟨r6,n6,j6,rfl,hn6,rfl⟩)|⟨_,_,h,_⟩
  .have:=dW gB h;rw[aK,hyl]at this;cases this
  .rw[aK]at hn6;refine rr ?_;exact⟨⟨r6,n6,_,ys,j6,O,.inl O,G.get 0 O,(G.lo _<|aN ..).2,N,N,hyb⟩,G.ext⟩
  .have:=dW gB h;rw[aK,hyl]at this;cases this
 have post:∀{x4 u},gK Pg X (sub wW [1,1,1,1]) (wI (I (D ⟨r,0,Q⟩) n c) (B z) x4 (B i) u T) (jL Pg [.tmp 4]<|Q1 (λw T=>Cj T w<|k+1) T):=by
  intro x4 u;refine tp ?_;refine aT (λc=>?_) λ_=>fin;refine ix N λp x=>?_;refine bG ?_;refine aT (λc=>?_) λ_=>fin;refine rr ?_;exact⟨same,G.ext⟩
 refine tp ?_;refine aT (λc=>?_) λ_=>post;refine ix N λp x=>?_;refine bG ?_;refine aT (λc=>?_) λ_=>post;exact PU.of (jC 1 O N)<|⟨m-1,N,_,_,_,O,O,i+1,O,N⟩
def uw.rd{SH:Nat->Prop}{ay:Nat}{zs:C Nat}(h:je SH 275 H a n 2<|fF zs)(hi:i<n)(hf:ay<2)(hz:∀z∈zs,z<134217728):∃r o,zN 2 (I a n c) (B i)=D (.pointer<|D ⟨r,o,Q⟩)/\r<H.next/\∃x:Nat,x<134217728/\H.cell r (o+ay)=D (B x):=by
 have⟨r,o,e,y,hcl,_⟩:=h.1.idx (c:=c) N hi;have hl:i*2+ay<zs.length:=by have:=h.1.1;rw[aK]at this;omega
 refine⟨r,o,e,y,zs[i*2+ay],hz _<|bB hl,hcl ay _ hf ?_⟩;exact jR _<|av hl
def akF(x:Nat):Sz f [B x,vi 0]=D (B x):=by rw[max2,show max (x:Int) 0=x by omega]
def ams{SH:Nat->Prop}{z:Nat}(hs:uw SH H v):aO Pg X 193 [v,B z] H (Q0 (λw=>∃b,w=.bool b) H):=by
 obtain⟨a,n,c,zs,rfl,hf,hn,hz,_⟩:=hs;refine jS [0,1,4,5] ?_;refine Yb 5 (ai:=λm x5 T=>T=H/\∃i,x5=B i/\i+m=n) ?_ n ⟨rfl,0,rfl,aY n⟩;rintro m x5 u T ⟨rfl,i,rfl,him⟩;refine kX (λhc=>?_) λhc=>?_
 .refine tl ?_;refine rr ?_;exact⟨⟨_,O⟩,O⟩
 have⟨r,o,e1,_,x,_,W⟩:=uw.rd (c:=c) (ay:=0) hf (show i<n by omega) N hz;have⟨r',o',e1',_,hr,_,J⟩:=uw.rd (c:=c) (ay:=1) hf (show i<n by omega) N hz;rw[e1]at e1';cases e1';rw[dH]at W
 have zf:∀{u:Z->Rs},PU (lY Pg .add 3 (.tmp 10) (.const<|vi 1) (B i)<|vi 1) λv=>∃m_1,m_1<m/\∃x5 z_ H'',wX (I a n c) (B z) (.bool aC) v (u v) T=wX (I a n c) (B z) (.bool aC) x5 z_ H''/\H''=T/\∃i,x5=B i/\i+m_1=n:=λ{u}=>by
  refine PU.of (jC 1 O N) ?_;exact⟨m-1,N,_,_,_,O,O,i+1,O,N⟩
 refine aT (λ_=>?_) λ_=>zf;refine aT (λ_=>?_) λ_=>zf;refine PU.of e1 ?_;refine bG ?_;refine ME.ld W ?_;refine bG ?_;refine aT (λ_=>?_) λ_=>zf;refine PU.of e1 ?_;refine bG ?_;refine ME.ld J ?_;refine bG ?_;refine aT (λ_=>?_) λ_=>zf;refine rr ?_;exact⟨⟨_,O⟩,O⟩
def ah5{SH:Nat->Prop}(hw:Wf H)(hs:uw SH H v):aO Pg X 192 [v] H (Q1 (λw T=>Cj T w 3000000) H):=by
 obtain⟨a,n,c,zs,rfl,hf,hn,hz,_⟩:=hs;have G:=F.refl hw;refine jS [0,2,3,4] ?_;refine G.bS O O O N λH1 rx G=>?_;have hb:=G.get 0 O;refine lp2 3 4 (ai:=λm x3 x4 T=>∃i,x4=B i/\i+m=n/\Cj T x3 (1+2*i)/\F [] H T []) ?_ n ⟨0,rfl,aY n,⟨rx,1,1,[0],[],rfl,.inr ⟨rfl,rfl⟩,hb,(G.lo _<|aN ..).2,rfl,ax _,by simp⟩,F.drop (A:=[_]) G⟩;clear G hb;rintro m x3 x4 u H2 ⟨i,rfl,him,hl,G⟩;refine kX (λhc=>?_) λhc=>?_
 .refine tl ?_;have⟨r,k,c,xs,j,W,J,h3,h4,h5,h6,h7⟩:=hl;refine rr ?_;exact⟨⟨r,k,c,xs,j,W,J,h3,h4,h5,N,h7⟩,G.ext⟩
 have⟨r,o,e1,y,x,E,W⟩:=uw.rd (c:=c) (ay:=0) hf (show i<n by omega) N hz;have⟨r',o',e1',_,hr,hy,J⟩:=uw.rd (c:=c) (ay:=1) hf (show i<n by omega) N hz;rw[e1]at e1';cases e1';rw[dH]at W;have cl:∀{H3:R}{o:Nat}{x:Z},F [] H H3 []->H.cell r o=D x->H3.cell r o=D x:=λG h=>(kr (G.ext.obj r y nofun) _).trans h;refine PU.of e1<|bG ?_;refine ME.ld (cl G W)<|PU.of (akF x)<|aO.mono (agG G.wf hl N N) ?_;rintro w H3 ⟨hl,hx3⟩;have G:=G.call hx3;refine PU.of e1<|bG ?_;refine ME.ld (cl G J) ?_;refine bG ?_
 with_reducible refine acs (λ_=>?_) λ_=>?_
 .refine PU.of e1<|bG ?_;refine ME.ld (cl G J)<|PU.of (jC 1 O N)<|PU.of (akF<|hr+1)<|aO.mono (agG G.wf hl N N) ?_;rintro w H4 ⟨hl,hx4⟩;have G:=G.call hx4;exact PU.of (jC 1 O N)<|⟨m-1,N,_,_,_,_,O,i+1,O,N,by rw[show 1+2*(i+1)=1+2*i+1+1 by omega];exact hl,G⟩
 .refine PU.of (jC 1 O N) ?_;have⟨r,k,c,xs,j,W,J,h3,h4,h5,h6,h7⟩:=hl;exact⟨m-1,N,_,_,_,_,O,i+1,O,N,⟨r,k,c,xs,j,W,J,h3,h4,h5,N,h7⟩,G⟩
def Cj.fl(h:Cj H v k):∃(a:aB Addr)(n c:Nat)(xs:C Nat),v=I a n c/\je (λ_=>True) 3 H a n 1 (fF xs)/\n<=k/\xs.length=n/\∀x∈xs,x<=134217728:=by
 obtain⟨r,n,c,xs,eB,rfl,hc,hb,y,hn,hnk,hxs⟩:=h;exact⟨_,n,c,xs,O,⟨⟨by rw[aK];omega,λj x hj=>⟨r,0,rfl,y,by rw[aY];apply hb.cell;rw[bM (bE.1 hj).1];exact hj⟩⟩,λr' o e _=>by cases e;exact⟨trivial,y,hb.Jc⟩⟩,hnk,hn,hxs⟩
theorem ah6(hw:Wf H){en ec:Nat}{xs:C Nat}{bs:C Bool}(hf:je (λ_=>True) 3 H ea en 1<|fF xs)(hen:en<=3000000)(hxl:xs.length=en)(hxs:∀x∈xs,x<=134217728)(hb:je (λ_=>True) 4 H a n 1<|bools bs):aO Pg X 194 [I ea en ec,I a n c] H (Q1 (λw _=>∃a n c,w=I a n c) H):=by
 have hbl:bs.length=n:=by have:=hb.1.1;rw[aK]at this;omega
 refine ce [0,1,4,5,6,7]<|tl ?_;refine FY 5 6 7 (ai:=λm x5 x6 x7 T=>∃i zs gb,x6=B i/\i+m=en/\GB 275 2 x5 (zs.map vi) gb/\zs.length<=2*i/\(∀z∈zs,-1<=z/\z<=134217728)/\F [] H T gb) ?_ en ⟨0,[],[],rfl,aY en,GB.nil _ _,ax _,(nofun),F.refl hw⟩;rintro m x5 x6 x7 u H1 ⟨i,zs,gb,rfl,him,hg,hzl,hz,G⟩
 have out:∀{x7 u},gK Pg X (sub kU [1,1,1]) (nW (I ea en ec) (I a n c) (I Q 0 0) x5 (B i) x7 u H1) (jL Pg [.tmp 4]<|Q1 (λw _=>∃a n c,w=I a n c) H):=by
  intro x7 u;refine tl ?_;obtain⟨ga,gn,gc,rfl⟩:=hg.sl;refine rr ?_;exact⟨⟨_,_,_,O⟩,G.ext⟩
 refine tp ?_;refine aT (λc1=>?_) λ_=>out;refine aT (λc2=>?_) λ_=>out;have E:∀{j},j<en->∃x:Nat,x<=134217728/\(fF xs)[j]?=D (B x):=λ{j} hj=>⟨xs[j],hxs _<|bB _,jR _<|av N⟩
 have mid:∀(az:Out->Prop)(z:Int),-1<=z/\z<=134217728->(∀{x5':Z}{zs':C Int}{gQ:C dL}{T:R}{x7:Z}{u:Rs},GB 275 2 x5' (zs'.map vi) gQ->zs'.length<=2*(i+1)->(∀z∈zs',-1<=z/\z<=134217728)->F [] H T gQ->gK Pg X (sub kU [1,1,0,1,0,0,1,1]) (nW (I ea en ec) (I a n c) (I Q 0 0) x5' (B i) x7 u T) az)->∀u,gK Pg X (sub kU [1,1,0,1,0,0,1,0,0,1,1]) (nW (I ea en ec) (I a n c) (I Q 0 0) x5 (B i) (vi z) u H1) (sw 1<|t_ Pg X (sub kU [1,1,0,1,0,0,1,1]) az):=by
  intro az z hzz kk u;obtain⟨b,hbi⟩:∃b,bs[i]?=D b:=⟨_,av N⟩;have⟨x,hxb,hxi⟩:=E (j:=i) N;refine tl<|(hb.ex G.ext).ix N (jR _ hbi) λp=>?_;refine bG ?_
  have app:∀{u},Bc u 53=.bool aC->gK Pg X (sub kU [1,1,0,1,0,0,1,0,0,1,1,1,1]) (nW (I ea en ec) (I a n c) (I Q 0 0) x5 (B i) (vi z) u H1) (sw 1<|t_ Pg X (sub kU [1,1,0,1,0,0,1,1]) az):=by
   intro u hlk;refine tl ?_;rw[hlk];refine bG ?_;refine(hf.ex G.ext).ix N hxi λp=>PU.b2 O<|hg.push (G.cast (bq gb).symm) N O O O O O N (by rw[aK];omega) λw v' H4 gQ hg' G=>?_;refine bG ?_;refine kk (zs':=zs++[(x:Int),z]) (by rw[show(zs++[(x:Int),z]).map vi=zs.map vi++[B x,vi z]from dA];exact hg') I6 (λhr hy=>?_)<|G.cast<|bq gQ;rcases bZ.1 hy with h|h
   .exact hz hr h
   .simp at h;omega
  refine gF (λ_=>?_) λ_=>?_
  .exact kk hg N hz G
  rcases id hg with⟨rfl,h0,rfl⟩|⟨r,k,eB,rfl,hk,rfl⟩
  .refine bG ?_;exact iD O<|app O
  rw[aK]at hk;refine Mo (λc3=>?_) λc3=>?_
  .exact iD O<|app O
  have hk1:(k-1)*2+1<zs.length:=N
  have hv:((zs.map vi)++eB)[(k-1)*2+1]?=D (vi zs[(k-1)*2+1]):=by
   rw[bM (by rw[aK];exact hk1),bF,av hk1];rfl
  have Si:=hz _<|bB hk1;rw[pg N N];refine bG ?_;rw[show((k:Int)-1)=((k-1:Nat):Int) by omega];refine PU.of (tX N) ?_;rw[aY];refine bG ?_;refine G.Mm 0 O hv ?_;simp only[gN G.wf];rw[fD N N];refine bG ?_;have⟨r2,o2,e2,_,hcl,_⟩:=(hf.ex G.ext).1.idx (c:=ec) N (show i<en by omega);refine PU.of e2<|ME.ld (H:=hN H1) (o:=o2) (hcl 0 _ N (by rw[dz,dH];exact hxi)) ?_;refine bG ?_;simp only[gN G.wf];refine splitK (λK hK=>?_) ?_
  .simp only[d_];apply C_ (H':=λ_=>False) jr jr hK<;>repeat' apply ik
   all_goals first|exact trivial|(intro h;cases h;done)|exactλ_ _ h=>h.elim
  by_cases hq:zs[(k-1)*2+1]+1=(x:Int)
  .rw[bL hq];refine tp ?_;rw[pg N N];refine bG ?_;rw[show((k:Int)-1)=((k-1:Nat):Int) by omega];refine PU.of (tX N) ?_;rw[aY];refine bG ?_;refine G.st 0 O O (by rw[aQ,aK];omega) rfl λH2 G=>?_;have G:F [] H H2 [(r,275,(zs.set ((k-1)*2+1) z).map vi++eB)]:=G.to<|NA hk1 z;refine kk (zs':=zs.set ((k-1)*2+1) z) (.inr ⟨r,k,eB,O,by rw[aK,bJ];exact hk,O⟩) (by rw[bJ];omega) (λhr hy=>?_) G;rcases ig hy with h|h
   .exact hz hr h
   .rw[h];exact hzz
  .rw[dB hq];exact app O
 refine tl ?_;refine PU.of (jC 1 O N)<|bG ?_;refine aT (λc3=>?_) λc3=>?_
 .refine PU.of (jC 1 O N) ?_;have⟨x,hxb,hxi⟩:=E (j:=i+1) N;refine(hf.ex G.ext).ix N hxi λp=>?_;refine qL ?_;refine mid _ _ N (λhg hl hz G=>?_) _;refine tl ?_;refine PU.of (jC 1 O N) ?_;exact⟨m-1,N,_,_,_,_,_,O,i+1,_,_,O,N,hg,hl,hz,G⟩
 .refine mid _ _ N (λhg hl hz G=>?_) _;refine tl ?_;refine PU.of (jC 1 O N) ?_;exact⟨m-1,N,_,_,_,_,_,O,i+1,_,_,O,N,hg,hl,hz,G⟩
end Go.Proofs.Lu
