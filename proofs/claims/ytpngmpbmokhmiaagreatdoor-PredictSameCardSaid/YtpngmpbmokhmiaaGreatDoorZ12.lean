/-
  Part 12 of the proof. No condition.
-/
import Derived.Test.YtpngmpbmokhmiaaGreatDoorZ11
set_option linter.unusedVariables false
set_option linter.unusedSimpArgs false
set_option maxRecDepth 100000
set_option maxHeartbeats 4000000
set_option linter.defProp false
open Option renaming some->Z,none->W
open Bool renaming true->f,false->aA
open Go renaming Value->D,TypeId->aG,Program->aS,Operand->bO
open Go.Value renaming slice->T,string->fO,tuple->Jn
open Nat renaming ble->aB,add->aV,mul->bL
open UInt8 renaming ofNat->jb
open And renaming intro->iq
open Go.IntKind renaming wrap->mh
open List renaming length->gz
noncomputable section
namespace Go.Proofs.Lu
open Go.Ae Go.Ae.SH
variable{L gb:List dJ}{H C H0:F}{b c es i k k0 n r:Nat}{a ea:Option Addr}{v x:D}{E dY l:List D}{t ty:aG}{A z:Prop}{K Km:D->F->Prop}
abbrev Yb(n:Nat):D:=.int .u8 (n:Int)
def TY:∀(l:List Nat),(∀x∈l,x<256)->q_ (l.map Yb)=Z (l.map jb):=by
 intro l
 induction l with
 |nil=>intro _;rfl
 |cons x l ih=>
  intro h;have J:=h x<|aL ..
  show(aK (Jq<|.ofNat x) λn=>gd (IA .u8&&aB n 255)<|aK (q_<|l.map Yb) λbs=>Z<|jb n::bs)=_;rw[ih λhc hy=>h hc<|bH _ hy];show gd (aB x 255) (Z<|jb x::l.map jb)=_;rw[aH N,zu];rfl
theorem strOf{l:List Nat}(hl:∀n∈l,n<256)(hn:0<l.length)(G:M [] H0 H L){Kp:D->Prop}(k:∀t:ByteArray,t.size=l.length->M [] H0 (H.new<|rowOf 5<|l.map Yb) L->Km (.string t) (H.new<|rowOf 5<|l.map Yb)):
 CV (Cb Pg 271 9<|T (Z ⟨H.next,0,W⟩) l.length l.length) (uh Pg 271 9 (T (Z ⟨H.next,0,W⟩) l.length l.length)<|H.new<|rowOf 5<|l.map Yb) Kp Km:=by
 have hS2:=G.grow 5<|l.map Yb;have hb:Bk (H.new<|rowOf 5<|l.map Yb) H.next 5 (l.map Yb):=hS2.get 0 O
 have R:=hb.read (o:=0) (n:=l.length) (by simp);have hq:uh Pg 271 9 (T (Z ⟨H.next,0,W⟩) l.length l.length) (H.new<|rowOf 5<|l.map Yb)=aK ((H.new<|rowOf 5<|l.map Yb).read H.next 0 l.length) λz=>aK (q_ z) λbs=>Z (.string ⟨⟨bs⟩⟩,H.new<|rowOf 5<|l.map Yb):=by kernel_rfl
 refine CV.me (by kernel_rfl) (v:=.string ⟨⟨l.map jb⟩⟩) (H1:=H.new<|rowOf 5<|l.map Yb) ?_<|k _ (by show(l.map jb).length=_;simp)<|M.drop (A:=[_]) hS2;rw[hq,R,jc,cK<|by simp];show(aK (q_<|l.map Yb) λbs=>Z (fO ⟨⟨bs⟩⟩,_))=_;rw[TY l hl];rfl
def abO{a b:Int}{vn:Prop}(Q:a<b->A)(I:¬a<b->vn):BI (Z<|decide<|a<b) A vn:=aC Q I
def DW(h:n<256):nU .u8 (n:Int)=(n:Int):=by
 show mh .u8 (n:Int)=(n:Int);simp[mh,IntKind.bits,IntKind.signed];omega
theorem abP(hw:Wf H)(r:Nat)(R:r<2147483648):aJ Pg X 135 [B r] H (Q1 (λv _=>∃t,v=.string t/\t.size<=4) H):=by
 have G:=M.refl hw;refine ce [0,2] ?_;refine tp ?_;refine aC (λQ=>?_) λQ=>?_
 .exact absurd Q N
 refine aC (λI=>?_) λI=>?_
 .refine rr ?_;refine⟨⟨_,O,?_⟩,G.ext⟩;exact bg _
 have rest:∀u,gJ Pg X (sub Ai [1,1]) (zS (B r) (.string ⟨#[]⟩) u H) (jR Pg [.tmp 2]<|Q1 (λv _=>∃t,v=.string t/\t.size<=4) H):=by
  intro u;have hr2:r<1114112:=by omega
  refine tp ?_;refine aC (λg1=>?_) λg1=>?_
  .rw[DW N];refine ME.of afH ?_;refine strOf (l:=[r]) (by intro n hn;simp at hn;omega) (by simp) G λt ht G=>?_;refine rr ?_;refine⟨⟨t,O,?_⟩,G.ext⟩;rw[ht];exact aD O
  refine aC (λg2=>?_) λg2=>?_
  .refine PU.of (OH 64 N (by decide) N)<|PU.of (addN 192 N N)<|aY ?_;refine PU.of (qj 64 N (by decide) N)<|PU.of (addN 128 N N)<|aY ?_;rw[DW N,DW N];refine ME.of afI<|strOf (l:=[192+r/64,128+r %64]) (by intro n hn;simp at hn;omega) (by simp) G λt ht G=>?_;refine rr ?_;refine⟨⟨t,O,?_⟩,G.ext⟩;rw[ht];exact aD O
  with_reducible refine abO (λg3=>?_) λg3=>?_
  .refine PU.of (OH 4096 N (by decide) N)<|PU.of (addN 224 N N)<|aY ?_;refine PU.of (OH 64 N (by decide) N)<|PU.of (qj 64 N (by decide) N)<|PU.of (addN 128 N N)<|aY ?_;refine PU.of (qj 64 N (by decide) N)<|PU.of (addN 128 N N)<|aY ?_;rw[DW N,DW N,DW N];refine ME.of aa8 ?_;refine strOf (l:=[224+r/4096,128+r/64 %64,128+r %64]) (by intro n hn;simp at hn;omega) (by simp) G λt ht G=>?_;refine rr ?_;refine⟨⟨t,O,?_⟩,G.ext⟩;rw[ht];exact aD O
  .refine PU.of (OH 262144 N (by decide) N)<|PU.of (addN 240 N N)<|aY ?_;refine PU.of (OH 4096 N (by decide) N)<|PU.of (qj 64 N (by decide) N)<|PU.of (addN 128 N N)<|aY ?_;refine PU.of (OH 64 N (by decide) N)<|PU.of (qj 64 N (by decide) N)<|PU.of (addN 128 N N)<|aY ?_;refine PU.of (qj 64 N (by decide) N)<|PU.of (addN 128 N N) ?_;refine aY ?_;rw[DW N,DW N,DW N,DW N];refine ME.of afJ ?_;refine strOf (l:=[240+r/262144,128+r/4096 %64,128+r/64 %64,128+r %64]) (by intro n hn;simp at hn;omega) (by simp) G λt ht G=>?_;refine rr ?_;refine⟨⟨t,O,?_⟩,G.ext⟩;rw[ht];exact aD O
 refine aC (λh3=>?_) λh3=>?_
 .refine aC (λh4=>?_) (λh4=>?_)
  .refine rr ?_;refine⟨⟨_,O,?_⟩,G.ext⟩;exact bg _
  .exact rest _
 .exact rest _
def wrapN(h:n<=9223372036854775807):nU .i64 (n:Int)=(n:Int):=wW N N
def SgV(m:Nat)(v:D):Prop:=∃(r:Int)(n:Nat),v=.tuple ⟨[vi r,B n]⟩/\(r=-1/\n=1\/0<=r/\r<134217728/\1<=n/\n<=m)
theorem abQ(hw:Wf H)(s:ByteArray)(k:Nat)(hk:k<s.size)(hs:s.size<=1000000000):aJ Pg X 133 [.string s,B k] H (Q1 (λv _=>SgV (s.size-k) v) H):=by
 refine ce [0,1,4,5,6,7,8,9] ?_;refine tl ?_;refine lp6 4 5 6 7 8 9 (h2:=λn x4 x5 x6 x7 x8 x9 C=>M [] H C []/\∃j:Nat,x6=B j/\1<=j/\n+j=5) ?_ 4 ⟨M.refl hw,1,rfl,N,N⟩;rintro n x4 x5 x6 x7 x8 x9 u H1 ⟨G,j,rfl,hj1,hjn⟩;refine tp ?_;refine aC (λh4=>?_) λh4=>?_;rotate_left
 .refine tl ?_;refine rr ?_;exact⟨⟨_,_,O,.inl ⟨O,O⟩⟩,G.ext⟩
 rw[nW N N];refine aY ?_;refine aC (λh5=>?_) λh5=>?_;rotate_left
 .refine tl ?_;refine rr ?_;exact⟨⟨_,_,O,.inl ⟨O,O⟩⟩,G.ext⟩
 refine tl ?_;refine PU.of (jB j O N) ?_;rw[Cs N N];refine aY ?_;have hp:=pM s (lo:=k) (hi:=k+j) N N;obtain⟨c,e0⟩:=FD (s:=Go.Ae.part s k<|k+j) (z:=0) 0 O N;have y:=c.toNat_lt;generalize c.toNat=c0 at e0 y;simp only[e0];refine aY ?_;rw[wrapN N];have h4':j<=4:=by omega
 repeat' (first
  |(refine aY ?_)
  |(with_reducible refine aC (λe=>?_) λe=>?_)
  |(refine PU.of (qj 32 O (by decide) N) ?_)
  |(refine PU.of (qj 16 O (by decide) N) ?_)
  |(refine PU.of (qj 8 O (by decide) N) ?_)
  |(refine tl ?_))
 all_goals first|(exfalso;omega)|skip
 all_goals
  refine lp2 8 9 (h2:=λm x8 x9 C=>C=H1/\∃i z:Nat,i+1+m=j/\x8=B z/\z<256*64^i/\x9=B (i+1)) ?_ (j-1) ⟨rfl,0,_,N,rfl,N,rfl⟩;rintro m x8 x9 u H2 ⟨rfl,i,z,him,rfl,hz,rfl⟩;refine tl ?_
  try simp only[PP,Nat.reduceBEq]
  have hz2:z<134217728:=by
   have I:64^i<=64^3:=qK (by decide) N;omega
  refine aC (λe=>?_) λe=>?_
  .refine PU.of (mulN 64 O N) ?_;obtain⟨d,e1⟩:=FD (s:=Go.Ae.part s k<|k+j) (z:=((i+1:Nat):Int)) (i+1) O N;have hd:=d.toNat_lt;generalize d.toNat=d0 at e1 hd;simp only[e1]
   try simp only[PP,Nat.reduceBEq]
   rw[wrapN N];refine PU.of (qj 64 O (by decide) N) ?_;refine PU.of (jB _ O N) ?_;refine PU.of (jB 1 O N) ?_;exact⟨m-1,N,_,_,_,_,O,O,i+1,_,N,O,by rw[Nat.pow_succ];omega,rfl⟩
  .have hij:i=j-1:=by omega
   refine tl ?_;refine aJ.mono (abP G.wf _ N) ?_;rintro v H2 ⟨⟨t,rfl,ht⟩,J⟩;have G:=G.call J
   try simp only[PP,Nat.reduceBEq]
   refine aC (λg=>?_) λg=>?_
   .refine rr ?_;exact⟨⟨_,_,O,.inr ⟨N,N,hj1,N⟩⟩,G.ext⟩
   .refine tl ?_;refine PU.of (jB 1 O N) ?_
    try simp only[PP,Nat.reduceBEq]
    exact⟨n-1,N,_,_,_,_,_,_,_,_,O,G,j+1,O,N,N⟩
def w8{z:Int}(h:0<=z/\z<256):nU .u8 z=z:=Cu (by simp[mh,IntKind.bits,IntKind.signed];omega)
def VQ(c:Int):aJ Pg X 100 [.int .u8 c] H (Q0 isB H):=by
 refine ce [0,2] ?_;refine tl ?_
 repeat' (first|(refine aY ?_)|(refine aC (λy=>?_) λy=>?_)|(refine rr ?_))
 all_goals exact⟨⟨_,O⟩,O⟩
theorem ajS(c:Int):aJ Pg X 101 [.int .u8 c] H (Q0 isB H):=by
 refine ce [0,2] ?_;refine tl ?_
 repeat' (first|(refine aY ?_)|((refine aJ.mono (VQ _) ?_;rintro v C ⟨⟨b,rfl⟩,rfl⟩))|(refine dL (λhb=>?_) λhb=>?_)|(refine rr ?_))
 all_goals exact⟨⟨_,O⟩,O⟩
def dgv(c:Nat):Int:=if 48<=c/\c<=57 then(c:Int)-48 else if 97<=c/\c<=102 then(c:Int)-97+10 else if 65<=c/\c<=70 then(c:Int)-65+10 else -1
def ajT(c:Nat):-1<=dgv c/\dgv c<16:=by unfold dgv;split<;>(try split)<;>(try split)<;>omega
def abR(c:Nat)(y:c<256):aJ Pg X 163 [.int .u8 (c:Int)] H (Q0 (λv=>v=vi (dgv c)) H):=by
 refine ce [0,2] ?_;refine tl ?_
 repeat' (first|(refine aY ?_)|(refine aC (λy=>?_) λy=>?_)|(refine tl ?_)|(refine rr ?_))
 all_goals first|(exfalso;omega)|skip
 all_goals try rw[w8 N,wW N N]
 all_goals try
  rw[fA N N];simp only[PP];refine rr ?_
 all_goals
  refine⟨?_,O⟩;unfold dgv
  first
   |(rw[if_pos N];done)
   |(rw[if_neg N,if_pos N];done)
   |(rw[if_neg N,if_neg N,if_pos N];done)
   |(rw[if_neg N,if_neg N,if_neg N];done)
def ajU(c:Int):aJ Pg X 104 [.int .u8 c] H (Q0 (λv=>∃k:Nat,v=B k/\k<=14) H):=by
 refine ce [0,2,3,4] ?_;refine tl ?_;refine YE 4 (h2:=λm x4 C=>C=H/\∃i,x4=B i/\i+m=10) ?_ 10 ⟨rfl,0,rfl,rfl⟩;rintro m x4 u C ⟨rfl,i,rfl,him⟩;refine tp ?_;refine aC (λy=>?_) λy=>?_
 .have hi:i<10:=by have:((i:Nat):Int)<10:=y;omega
  obtain⟨d,e⟩:=uQ (s:=⟨#[58,124,59,40,41,63,42,43,46,126]⟩) (k:=i) hi;rw[e];refine aY ?_;refine aC (λe=>?_) λe=>?_
  .refine PU.of (addN 5 O N) ?_;refine rr ?_;exact⟨⟨_,O,N⟩,O⟩
  .exact PU.of (jB 1 O N)<|⟨m-1,N,_,_,_,O,O,i+1,O,N⟩
 .refine tl<|rr ?_;exact⟨⟨0,O,N⟩,O⟩
def abS(s:ByteArray)(hs:s.size<=1000000)(h:k0<=s.size):aJ Pg X 99 [.string s,B k0] H (Q0 (λv=>∃b:Nat,v=B b/\k0<=b/\b<=s.size) H):=by
 refine ce [0,1,4] ?_;refine tl ?_;refine lp2 1 4 (h2:=λm x1 x4 C=>C=H/\∃k,x1=B k/\k0<=k/\k+m=s.size) ?_ (s.size-k0) ⟨rfl,k0,rfl,az _,N⟩;rintro m x1 x4 u C ⟨rfl,k,rfl,hk,hm⟩;refine tp ?_;refine aC (λy=>?_) λy=>?_;rotate_left
 .refine tl ?_;refine rr ?_;exact⟨⟨_,O,hk,N⟩,O⟩
 have hkl:k<s.size:=by omega
 obtain⟨c,e⟩:=uQ hkl;rw[e];refine aY ?_;refine aC (λ_=>?_) λ_=>?_
 .refine PU.of (jB 1 O N) ?_;exact⟨m-1,N,_,_,_,_,O,O,k+1,O,N,N⟩
 refine aC (λ_=>?_) λ_=>?_
 .refine PU.of (jB 1 O N) ?_;exact⟨m-1,N,_,_,_,_,O,O,k+1,O,N,N⟩
 refine aC (λ_=>?_) λ_=>?_
 .refine PU.of (jB 1 O N) ?_;exact⟨m-1,N,_,_,_,_,O,O,k+1,O,N,N⟩
 refine aC (λ_=>?_) λ_=>?_
 .refine PU.of (jB 1 O N) ?_;exact⟨m-1,N,_,_,_,_,O,O,k+1,O,N,N⟩
 refine tl ?_;rw[e];refine aY ?_;refine bT (λ_=>?_) λh47=>?_
 .refine rr ?_;exact⟨⟨_,O,hk,N⟩,O⟩
 refine PU.of (jB 1 O N) ?_;refine aY ?_;refine aC (λ_=>?_) λI=>?_
 .refine rr ?_;exact⟨⟨_,O,hk,N⟩,O⟩
 refine PU.of (jB 1 O N) ?_;obtain⟨d,e2⟩:=uQ (s:=s) (k:=k+1) N;rw[e2];refine aY ?_;refine bT (λ_=>?_) λ_=>?_
 .refine rr ?_;exact⟨⟨_,O,hk,N⟩,O⟩
 refine tl ?_;refine YE 1 (h2:=λn x1 H2=>H2=C/\∃j,x1=B j/\j+n=s.size/\k<=j) ?_ m ⟨rfl,k,rfl,N,az _⟩;rintro n x1 u H2 ⟨rfl,j,rfl,hjn,hkj⟩;refine tp ?_;refine aC (λd1=>?_) λd1=>?_
 .obtain⟨c2,e3⟩:=uQ (s:=s) (k:=j) N;rw[e3];refine aY ?_;refine bT (λd2=>?_) λd2=>?_
  .exact PU.of (jB 1 O N)<|⟨n-1,N,_,_,_,O,O,j+1,O,N,N⟩
  .have hne:j≠k:=λh=>by
    subst h;rw[e]at e3;injection e3 with e3
    injection e3 with _ e3
    omega
   exact⟨s.size-j,N,_,_,_,_,O,O,j,O,N,N⟩
 .exact⟨s.size-j,N,_,_,_,_,O,O,j,O,N,N⟩
def EsV(m:Nat)(v:D):Prop:=∃(r:Int)(n:Nat),v=.tuple ⟨[vi r,B n]⟩/\(r=-1/\n=0\/0<=r/\r<134217728/\1<=n/\n<=m)
def VS(hw:Wf H)(s:ByteArray)(hs:s.size<=1000000):aJ Pg X 134 [.string s] H (Q1 (λv _=>EsV s.size v) H):=by
 have G:=M.refl hw;refine ce [0,2,3,4,5,9] ?_;refine tp ?_;refine aC (λe=>?_) λhne=>?_
 .refine rr ?_;exact⟨⟨_,_,O,.inl ⟨O,O⟩⟩,G.ext⟩
 have h0:0<s.size:=by
  rcases gH s.size with h|h
  .exact absurd (by
    obtain⟨⟨l⟩⟩:=s;have:l=[]:=dK.1 h;subst this;rfl) hne
  .exact h
 obtain⟨c,e0⟩:=FD (s:=s) (z:=0) 0 O h0;have y:=c.toNat_lt;generalize c.toNat=c0 at e0 y;rw[e0];refine aY ?_;refine aC (λ_=>?_) λ_=>?_
 .refine rr ?_;exact⟨⟨_,_,O,.inr ⟨by decide,by decide,by decide,h0⟩⟩,G.ext⟩
 refine aC (λ_=>?_) λ_=>?_
 .refine rr ?_;exact⟨⟨_,_,O,.inr ⟨by decide,by decide,by decide,h0⟩⟩,G.ext⟩
 refine aC (λ_=>?_) λ_=>?_
 .refine rr ?_;exact⟨⟨_,_,O,.inr ⟨by decide,by decide,by decide,h0⟩⟩,G.ext⟩
 have no:∀{x4 x5 u},gJ Pg X (sub lT [1,1,1]) (qp (.string s) (vi 0) (vi 0) x4 x5 (.int .u8 (c0:Int)) u H) (jR Pg [.tmp 2,.tmp 3]<|Q1 (λv _=>EsV s.size v) H):=by
  intro x4 x5 u;refine tl<|rr ?_;exact⟨⟨_,_,O,.inl ⟨O,O⟩⟩,G.ext⟩
 have two:∀(b:Bool) u,Aw u 16=.bool b->gJ Pg X (sub lT [1,1,0,1,0,1,1,1,1,1,1,1]) (qp (.string s) (vi 0) (vi 0) top top (.int .u8 (c0:Int)) u H) (rO 0<|sW Pg X (sub lT [1,1,1])<|jR Pg [.tmp 2,.tmp 3]<|Q1 (λv _=>EsV s.size v) H):=by
  intro b u hlk;refine tl ?_;rw[hlk];refine aY ?_;refine dL (λ_=>?_) λ_=>?_
  .rw[e0];refine aY ?_;rw[wW N N];refine rr ?_;exact⟨⟨_,_,O,.inr ⟨N,N,by decide,h0⟩⟩,G.ext⟩
  refine aC (λ_=>?_) λ_=>no;refine lp2 4 5 (h2:=λm x4 x5 C=>C=H/\∃v i:Nat,x4=B v/\x5=B (i+2)/\i+m=6/\v<16^i) ?_ 6 ⟨rfl,0,0,rfl,rfl,rfl,by decide⟩;rintro m x4 x5 rg2 C ⟨rfl,v,i,rfl,rfl,him,hv⟩;have h16:16^i<=16^6:=qK (by decide) N;have amF:(16:Nat)^6=16777216:=by decide
  have fin:∀u,gJ Pg X (sub lT [1,1,0,1,0,1,1,1,1,1,1,1,1,1,0,1,1]) (qp (.string s) (vi 0) (vi 0) (B v) (B<|i+2) (.int .u8 (c0:Int)) u C) (rO 0<|sW Pg X (sub lT [1,1,1])<|jR Pg [.tmp 2,.tmp 3]<|Q1 (λv _=>EsV s.size v) C):=by
   intro u;refine tp ?_;have nul:EsV s.size (.tuple ⟨[vi (-1),B 0]⟩):=⟨_,_,O,.inl ⟨O,O⟩⟩;refine aC (λ_=>?_) λg1=>?_
   .refine rr ?_;exact⟨nul,G.ext⟩
   obtain⟨d,e1⟩:=FD (s:=s) (z:=1) 1 O N;rw[e1];refine aY ?_;refine bT (λ_=>?_) λ_=>?_
   .refine rr ?_;exact⟨nul,G.ext⟩
   refine aC (λ_=>?_) λ_=>?_
   .refine rr ?_;exact⟨nul,G.ext⟩
   refine aC (λ_=>?_) λg2=>?_
   .refine rr ?_;exact⟨nul,G.ext⟩
   obtain⟨d',e2⟩:=uQ (s:=s) (k:=i+2) N;rw[e2];refine aY ?_;refine bT (λ_=>?_) λ_=>?_
   .refine rr ?_;exact⟨nul,G.ext⟩
   refine aJ.mono (abP G.wf v N) ?_;rintro _ H1 ⟨⟨t,rfl,_⟩,J⟩;refine aY ?_;refine aC (λ_=>?_) λ_=>?_
   .refine rr ?_;exact⟨nul,J⟩
   refine tl ?_;refine PU.of (jB 1 O N)<|aY ?_;refine rr ?_;exact⟨⟨_,_,O,.inr ⟨N,N,N,N⟩⟩,J⟩
  refine tp ?_;refine aC (λy=>?_) λy=>fin _;refine aC (λhd=>?_) λy=>fin _;obtain⟨d,eb⟩:=uQ (s:=s) (k:=i+2) N;have hd2:=d.toNat_lt;generalize d.toNat=d0 at eb hd2;have hdg:=ajT d0;rw[eb];refine aY ?_;refine aJ.mono (abR _ N) ?_;rintro w C ⟨rfl,rfl⟩;refine aY ?_;refine aC (λhz=>?_) λ_=>fin _;obtain⟨g,hg⟩:∃g:Nat,dgv d0=g:=⟨(dgv d0).toNat,N⟩;have hp:16^(i+1)=16^i*16:=Nat.pow_succ ..
  refine tl ?_;refine PU.of (mulN 16 O N) ?_;rw[eb];refine aY ?_;refine aJ.mono (abR _ N) ?_;rintro w C ⟨rfl,rfl⟩;rw[hg];exact PU.of (addN (16*v) O N)<|PU.of (jB 1 O N)<|⟨m-1,N,_,_,_,_,O,O,16*v+g,i+1,O,by rw[show i+2+1=i+1+2 by omega],N,N⟩
 refine aC (λd1=>two f _ (by rw[bG d1];rfl)) λd1=>?_;refine aC (λd2=>two f _ (by rw[bG d2];rfl)) λd2=>?_;refine aC (λd3=>two f _ (by rw[bG d3];rfl)) λd3=>?_;refine aC (λd4=>two f _ (by rw[bG d4];rfl)) λd4=>?_;exact two _ _ O
def Nf{s:ByteArray}(h:k<=s.size):slT (.string s) (Z<|B k) W W=Z (.string<|Go.Ae.part s k s.size):=Ag h
def ajV(hw:Wf H)(s:ByteArray)(hs:s.size<=1000000)(hk:k<s.size):aJ Pg X 164 [.string s,B k] H (Q1 (λv _=>∃r n e:Int,v=.tuple ⟨[vi r,vi n,vi e]⟩/\(e=0->0<=r/\r<134217728/\1<=n/\k+n<=s.size)) H):=by
 have G:=M.refl hw;refine ce [0,1,4,5,6,7,8] ?_;refine tl ?_;refine aJ.mono (abQ hw s k hk N) ?_;rintro _ H1 ⟨⟨r,n,rfl,R⟩,J⟩;have G:=G.call J;refine aY ?_;refine aC (λ_=>?_) λh0=>?_
 .refine rr ?_;exact⟨⟨_,_,_,O,λh=>absurd h<|by decide⟩,G.ext⟩
 obtain⟨Q,I,h3,h4⟩:=R.resolve_left N;refine bT (λ_=>?_) λ_=>?_
 .refine rr ?_;exact⟨⟨_,_,_,O,λ_=>⟨Q,I,N,N⟩⟩,G.ext⟩
 refine PU.of (jB 1 O N) ?_;rw[Nf N];refine aY ?_;have hp:=pM s (lo:=k+1) (hi:=s.size) N N;refine aJ.mono (VS G.wf _ N) ?_;rintro _ H2 ⟨⟨q,m,rfl,hq⟩,hx2⟩;have G:=G.call hx2;refine aY ?_;refine aC (λ_=>?_) λg0=>?_
 .refine rr ?_;exact⟨⟨_,_,_,O,λh=>absurd h<|by decide⟩,G.ext⟩
 obtain⟨g1,g2,g3,g4⟩:=hq.resolve_left N;refine PU.of (jB 1 O N)<|rr ?_;exact⟨⟨_,_,_,O,λ_=>⟨g1,g2,N,N⟩⟩,G.ext⟩
abbrev TT:Nat->Prop:=λ_=>True
def tL(ax:Nat->Prop)(H:F)(v:D):Prop:=∃(a:Option Addr)(n c:Nat)(zs:List Nat),v=T a n c/\i_ ax 275 H a n 2 (fG zs)/\n<=1000000/\(∀z∈zs,z<134217728)/\∀hc,a=Z hc->hc.spot=W
def _root_.Go.Ae.GB.sp(h:GB ty es (T a n c) E gb):∀hc,a=Z hc->hc.spot=W:=λhc e=>by
 subst e;rcases h with⟨h,_⟩|⟨r,n,dY,h,_⟩<;>cases h;rfl
def tL.nil(ax:Nat->Prop)(H:F):tL ax H (T W 0 0):=⟨W,0,0,[],O,i_.nil _ _ _ _ _,N,(λz h=>by cases h),λhc h=>by cases h⟩
def ajW(hw:Wf H)(s:ByteArray)(hs:s.size<=1000000):aJ Pg X 136 [.string s] H (Q1 (λv C=>∃(x:D)(e w:Int),v=.tuple ⟨[x,vi e,vi w]⟩/\tL TT C x/\0<=w/\w<=2000000) H):=by
 refine ce [0,2,3,4,5,6,7,8,9,10,11,12,13,14] ?_;refine tp ?_;refine aC (λe=>?_) λ_=>?_
 .refine rr ?_;exact⟨⟨_,_,_,O,tL.nil _ _,N,N⟩,(M.refl hw).ext⟩
 refine agP 5 6 7 8 9 10 11 12 13 14 (h2:=λm x5 x6 x7 x8 x9 jh iL kQ jF rA C=>∃k zs gb,x6=B k/\k+m=s.size/\GB 275 2 x5 (fG zs) gb/\M [] H C gb/\(∀z∈zs,z<134217728)/\zs.length<=2*k) ?_ s.size ⟨0,[],[],rfl,N,GB.nil _ _,M.refl hw,λz h=>(nomatch h),az _⟩;rintro m x5 x6 x7 x8 x9 jh iL kQ jF rA u H1 ⟨k,zs,gb,rfl,hkm,hg,G,hz,hzl⟩;refine gJ.wC λK hK=>?_;refine tp ?_;refine aC (λy=>?_) λy=>?_;rotate_left
 .rw[hK];refine tl<|rr ?_;obtain⟨a,n,c,rfl,hn,hf⟩:=hg.Jc (ax:=TT) (G.cast (a_ gb).symm) λ_ _=>trivial;exact⟨⟨_,_,_,O,⟨a,n,c,zs,O,hf,by rw[aM]at hn;omega,hz,hg.sp⟩,N,N⟩,G.ext⟩
 refine aJ.mono (ajV G.wf s hs N) ?_;rintro v H2 ⟨⟨r,n,e,rfl,R⟩,J⟩;have G:=G.call J;refine aY ?_;refine bT (λc=>?_) λc=>?_
 .rw[hK];refine aY ?_;refine rr ?_;exact⟨⟨_,_,_,O,tL.nil _ _,N,N⟩,G.ext⟩
 obtain⟨g1,g2,g3,g4⟩:=R c;obtain⟨r,rfl⟩:∃r':Nat,r=r':=⟨r.toNat,N⟩;obtain⟨n,rfl⟩:∃n':Nat,n=n':=⟨n.toNat,N⟩;refine PU.of (addN k O N)<|PU.of (jB 1 O N)<|aY ?_
 have last:∀(hi k':Nat),k<k'->k'<=s.size->hi<134217728->∀{H3}(G:M [] H H3 gb){x8 x9 iL kQ jF rA:D}{u},gJ Pg X (sub BS [1,1,1,0,1,0,0,1,0,1,1,1,1,1]) (Bo (.string s) (T W 0 0) (vi 0) (vi 0) x5 (B k') (B r) x8 x9 (B hi) iL kQ jF rA u H3) (rO 1 K):=by
  intro hi k' Q I h4 H3 G x8 x9 iL kQ jF rA u;refine tl<|PU.b2 O<|hg.push (G.cast (a_ gb).symm) N O O O O O N (by rw[aM];omega) λw v' H4 gT hg' G=>?_;refine aY ?_;rw[hK];refine⟨s.size-k',N,_,_,_,_,_,_,_,_,_,_,_,_,O,k',zs++[r,hi],gT,O,N,by rw[show fG (zs++[r,hi])=fG zs++[B r,B hi]from dG];exact hg',G.cast<|a_ gT,λz hz'=>?_,by simp;omega⟩;rcases bX.1 hz' with h|h
  .exact hz z h
  .simp at h;omega
 refine aC (λc1=>?_) λc1=>?_;rotate_left
 .refine tp ?_;exact last r (k+n) N N N G
 obtain⟨d,ed⟩:=uQ (s:=s) (k:=k+n) N;rw[ed];refine aY ?_;refine tl<|aC (λ_=>?_) λ_=>?_;rotate_left
 .refine aY ?_;exact last r (k+n) N N N G
 refine PU.of (jB 1 O N)<|aJ.mono (ajV G.wf s hs N) ?_;rintro v H3 ⟨⟨q,m',e,rfl,R⟩,J⟩;have G:=G.call J;refine aY ?_;refine bT (λc=>?_) λc=>?_
 .refine PU.of (jB 1 O N) ?_;rw[hK];refine aY ?_;refine rr ?_;exact⟨⟨_,_,_,O,tL.nil _ _,N,N⟩,G.ext⟩
 obtain⟨f1,f2,f3,f4⟩:=R c;obtain⟨q,rfl⟩:∃r':Nat,q=r':=⟨q.toNat,N⟩;obtain⟨m',rfl⟩:∃n':Nat,m'=n':=⟨m'.toNat,N⟩;refine aC (λ_=>?_) λ_=>?_
 .rw[hK];refine aY ?_;refine rr ?_;exact⟨⟨_,_,_,O,tL.nil _ _,N,N⟩,G.ext⟩
 exact PU.of (jB 1 O N)<|PU.of (addN (k+n+1) O N)<|last q (k+n+1+m') N N N G
abbrev cat'(a b:ByteArray):ByteArray:=⟨⟨app a.data.toList b.data.toList⟩⟩
def abT(a b:ByteArray):(cat' a b).size=a.size+b.size:=by
 show(app a.data.toList b.data.toList).length=_;rw[qd,aQ];rfl
def Yc{P:aS}{ox oy:bO}{a b:ByteArray}(h:a.size+b.size<=4611686018427387904):lN P .add t ox oy (.string a) (.string b)=Z (.string<|cat' a b):=by
 show gd (aB (aV (len a.data.toList)<|len b.data.toList) 4611686018427387904) (Z<|fO ⟨⟨app a.data.toList b.data.toList⟩⟩)=_;rw[fQ,fQ,aH (show aV a.data.toList.length b.data.toList.length<=_ from h)];rfl
def abU(hw:Wf H)(s:ByteArray)(hs:s.size<=1000000)(hb:b<s.size):aJ Pg X 102 [.string s,B b] H (Q1 (λv _=>∃(t:ByteArray)(n e w:Int),v=.tuple ⟨[.string t,vi n,vi e,vi w]⟩/\t.size<=4000000/\(e=0->b<n/\n<=s.size)) H):=by
 refine ce [0,1,4,5,6,7,8,9,10,11,12,13] ?_;refine tl ?_;refine PU.of (jB 1 O N) ?_;refine lp6 8 9 10 11 12 13 (h2:=λm x8 x9 jh iL kQ jF C=>∃k t,x8=.string t/\x9=B k/\k+m=s.size/\b<k/\t.size<=4*k/\M [] H C []) ?_ (s.size-(b+1)) ⟨b+1,_,rfl,rfl,N,N,bg _,M.refl hw⟩;rintro m x8 x9 jh iL kQ jF u H1 ⟨k,t,rfl,rfl,hkm,hbk,ht,G⟩;refine gJ.wC λK hK=>?_;have er:∀{n e w:Int},e≠0->∃(t:ByteArray)(n' e' w':Int),(Jn ⟨[.string ⟨#[]⟩,vi n,vi e,vi w]⟩)=.tuple ⟨[.string t,vi n',vi e',vi w']⟩/\t.size<=4000000/\(e'=0->b<n'/\n'<=s.size):=λh=>⟨_,_,_,_,rfl,bg _,λh'=>absurd h' h⟩
 have fin:∀u,gJ Pg X (sub uH [1,1,1,1]) (tV (.string s) (B b) (.string ⟨#[]⟩) (vi 0) (vi 0) (vi 0) (.string t) (B k) jh iL kQ jF u H1) (jR Pg [.tmp 4,.tmp 5,.tmp 6,.tmp 7]<|Q1 (λv _=>∃(t:ByteArray)(n e w:Int),v=.tuple ⟨[.string t,vi n,vi e,vi w]⟩/\t.size<=4000000/\(e=0->b<n/\n<=s.size)) H):=by
  intro u;refine tp ?_;refine aC (λ_=>?_) λ_=>?_
  .refine rr ?_;exact⟨er<|by decide,G.ext⟩
  refine aC (λ_=>?_) λ_=>?_
  .refine rr ?_;exact⟨er<|by decide,G.ext⟩
  refine PU.of (jB 1 O N)<|rr ?_;exact⟨⟨t,_,_,_,O,N,λ_=>⟨N,N⟩⟩,G.ext⟩
 refine tp ?_;refine aC (λy=>?_) λy=>?_;rotate_left
 .rw[hK];refine aY ?_;exact fin _
 obtain⟨c,ec⟩:=uQ (s:=s) (k:=k) N;rw[ec];refine aY ?_;refine bT (λ_=>?_) λ_=>?_;rotate_left
 .rw[hK];refine aY ?_;exact fin _
 refine tl<|aJ.mono (abQ G.wf s k N N) ?_;rintro _ H2 ⟨⟨r,n,rfl,R⟩,J⟩;have G:=G.call J;refine aY ?_;refine aC (λ_=>?_) λh0=>?_
 .refine tp ?_;rw[hK];refine aY ?_;refine rr ?_;exact⟨er<|by decide,G.ext⟩
 obtain⟨g1,g2,g3,g4⟩:=R.resolve_left N;obtain⟨r,rfl⟩:∃r':Nat,r=r':=⟨r.toNat,N⟩;refine tl<|aC (λ_=>?_) λ_=>?_
 .rw[hK];refine aY ?_;refine rr ?_;exact⟨er<|by decide,G.ext⟩
 refine tl ?_
 have last:∀{r n:Nat}(Q:r<134217728)(I:1<=n)(h3:k+n<=s.size){H3}(G:M [] H H3 []){kQ jF u},gJ Pg X (sub uH [1,1,1,0,0,0,1,0,1,1,1]) (tV (.string s) (B b) (.string ⟨#[]⟩) (vi 0) (vi 0) (vi 0) (.string t) (B k) (B r) (B n) kQ jF u H3) (rO 1 K):=by
  intro r n Q I h3 H3 G kQ jF u;refine tl<|aJ.mono (abP G.wf r N) ?_;rintro v H4 ⟨⟨t2,rfl,ht2⟩,J⟩;have G:=G.call J;refine PU.of (Yc N)<|PU.of (addN k O N) ?_;have ecs:=abT t t2;refine aY ?_;rw[hK];exact⟨s.size-(k+n),N,_,_,_,_,_,_,_,_,O,k+n,_,O,O,N,N,N,G⟩
 refine aY ?_;refine aC (λ_=>?_) λ_=>last N g3 N G;refine PU.of (jB 1 O N) ?_;rw[Nf N];refine aY ?_;have hp:=pM s (lo:=k+1) (hi:=s.size) N N;refine aJ.mono (VS G.wf _ N) ?_;rintro _ H3 ⟨⟨q,n',rfl,hq⟩,hx2⟩;have G:=G.call hx2;refine aY ?_;refine aC (λ_=>?_) λ_=>?_
 .rw[hK];refine aY ?_;refine rr ?_;exact⟨er<|by decide,G.ext⟩
 obtain⟨f1,f2,f3,f4⟩:=hq.resolve_left N;obtain⟨q,rfl⟩:∃r':Nat,q=r':=⟨q.toNat,N⟩;exact PU.of (jB 1 O N)<|last N N N G
def tL.m'{ax:Nat->Prop}(h:tL ax H v):tL ax (hM H0 H) v:=h
def ahm(hw:Wf H)(s:ByteArray)(hs:s.size<=1000000)(hb:b<s.size):aJ Pg X 103 [.string s,B b] H (Q1 (λv C=>∃(x:D)(n e w:Int),v=.tuple ⟨[x,vi n,vi e,vi w]⟩/\tL TT C x/\(e=0->b<n/\n<=s.size)) H):=by
 refine ce [0,1,4,5,6,7,8,9,10,11] ?_;refine tl ?_;refine PU.of (jB 1 O N) ?_;refine YE 8 (h2:=λm x8 C=>C=H/\∃k,x8=B k/\k+m=s.size+1/\b<k) ?_ (s.size+1-(b+1)) ⟨rfl,b+1,rfl,N,N⟩;rintro m x8 u H1 ⟨rfl,k,rfl,hkm,hbk⟩;refine gJ.wC λK hK=>?_;refine tp ?_;have er:∀{n e w:Int},e≠0->∀C,∃(x:D)(n' e' w':Int),(Jn ⟨[T W 0 0,vi n,vi e,vi w]⟩)=.tuple ⟨[x,vi n',vi e',vi w']⟩/\tL TT C x/\(e'=0->b<n'/\n'<=s.size):=λh C=>⟨_,_,_,_,rfl,tL.nil _ _,λh'=>absurd h' h⟩
 have fin:∀{x9 jh iL} u,gJ Pg X (sub Bj [1,1,1]) (Al (.string s) (B b) (T W 0 0) (vi 0) (vi 0) (vi 0) (B k) x9 jh iL u H1) (jR Pg [.tmp 4,.tmp 5,.tmp 6,.tmp 7]<|Q1 (λv C=>∃(x:D)(n e w:Int),v=.tuple ⟨[x,vi n,vi e,vi w]⟩/\tL TT C x/\(e=0->b<n/\n<=s.size)) H1):=by
  intro x9 jh iL u;refine tp ?_;refine aC (λ_=>?_) λ_=>?_
  .refine rr ?_;exact⟨er (by decide) _,(M.refl hw).ext⟩
  refine PU.of (jB 1 O N) ?_;rw[Cs N N];refine aY ?_;have hp:=pM s (lo:=b+1) (hi:=k) N N;refine aJ.mono (ajW hw _ N) ?_;rintro _ H2 ⟨⟨x,e,w,rfl,hY,w0,w1⟩,J⟩;refine aY ?_;refine bT (λc=>?_) λc=>?_
  .refine PU.of (jB 1 O N) ?_;refine dU ?_;refine rr ?_;exact⟨er c _,J⟩
  refine PU.of (jB 1 O N)<|rr ?_;exact⟨⟨_,_,_,_,O,hY,λ_=>⟨N,N⟩⟩,J⟩
 refine aC (λy=>?_) λy=>?_;rotate_left
 .rw[hK];refine aY ?_;exact fin _
 obtain⟨c,ec⟩:=uQ (s:=s) (k:=k) N;rw[ec];refine aY ?_;refine bT (λ_=>?_) λ_=>?_;rotate_left
 .rw[hK];refine aY ?_;exact fin _
 refine tl ?_;rw[ec];refine aY ?_;rw[hK];refine aC (λ_=>?_) λ_=>?_
 .exact PU.of (jB 1 O N)<|PU.of (jB 1 O N)<|⟨s.size+1-(k+1+1),N,_,_,_,O,O,k+1+1,O,N,N⟩
 .exact PU.of (jB 1 O N)<|⟨s.size+1-(k+1),N,_,_,_,O,O,k+1,O,N,N⟩
def VT(ax:Nat->Prop)(H:F)(l:List D)(z:Prop):Prop:=∃(k a e:Int)(t:ByteArray)(x:D),l=[vi k,vi a,vi e,.string t,x]/\t.size<=4000000/\tL ax H x/\0<=k/\k<=15/\(z->k=0)
def zK(ax:Nat->Prop)(H:F)(v:D)(n:Nat):Prop:=∃(a:Option Addr)(c:Nat)(E:List D),v=T a n c/\i_ ax 186 H a n 5 E/\n<=20001/\∀i,i<n->VT ax H (El E 5 i) (i+1=n)
def tL.st{ax:Nat->Prop}{S:List Nat}(h:tL ax H v)(J:oz S H C)(G:∀q∈S,¬ax q\/¬yw H q 275):tL ax C v:=let⟨a,n,c,zs,Q,I,h3⟩:=h;⟨a,n,c,zs,Q,I.stay J G,h3⟩
def VT.st{ax:Nat->Prop}{S:List Nat}(h:VT ax H l z)(J:oz S H C)(G:∀q∈S,¬ax q\/¬yw H q 275):VT ax C l z:=let⟨k,a,e,t',x,Q,I,h3,h4⟩:=h;⟨k,a,e,t',x,Q,I,h3.st J G,h4⟩
def afV{S:List Nat}{w:D}(hg:GB 186 5 x E gb)(hcl:E.length=i*5)(hi:i<=20001)(G:M S H0 H<|gb++L)(hty:(gb++L).all (λe=>!(e.2.1==275))=f)(hrow:∀j,j<i->VT TT H (El E 5 j) False)(ht:VT TT H l z)(hw:bI w=l)(Q:pK w=f)(I:all' fB l=f){Kp:D->D->F->Prop}(kk:∀q v' H3 gT cs',GB 186 5 v' cs' gT->cs'.length=(i+1)*5->M S H0 H3 (gT++L)->(∀j,j<i+1->VT TT H3 (El cs' 5 j) (j=i/\z))->Kp q v' H3):ME (bS 186 [vi 0,vi 0,vi 0,.string ⟨#[]⟩,T W 0 0] 5 1 [(0,w)] H) λq H1=>ME (zB 186 5 x q H1) (Kp q):=by
 have hl:l.length=5:=by obtain⟨_,_,_,_,_,rfl,_⟩:=ht;rfl
 have htn:=G.IG hty;refine hg.push G.base N O hw hl Q I N N λq v' H3 gT hg' hO=>?_;have hE:=Bv (es:=5) (n:=i) hcl hl;refine kk q v' H3 gT (E++l) hg' (by rw[aQ];omega) (G.over hO) λj hj=>?_;rcases bZ j i with h|h
 .rw[hE.1 j h];obtain⟨k,a,e,t,x,g1,g2,g3,g4,g5,g6⟩:=(hrow j h).st hO.ext λq hq=>.inr<|htn q hq;exact⟨k,a,e,t,x,g1,g2,g3,g4,g5,λh=>by omega⟩
 .obtain rfl:j=i:=by omega
  rw[hE.2];obtain⟨k,a,e,t,x,g1,g2,g3,g4,g5,g6⟩:=ht.st hO.ext λq hq=>.inr<|htn q hq;exact⟨k,a,e,t,x,g1,g2,g3,g4,g5,λh=>g6 h.2⟩
theorem alH(hw:Wf H)(s:ByteArray):aJ Pg X 70 [.string s] H (Q1 (λv C=>∃(x:D)(e w:Int),v=.tuple ⟨[x,vi e,vi w]⟩/\(e=0->∃n,zK TT C x<|n+1)) H):=by
 refine ce [0,2,3,4,5,6,7,8,9,10] ?_;refine tp ?_;refine aC (λc=>?_) λy=>?_
 .refine rr ?_;exact⟨⟨_,_,_,O,λh=>absurd h<|by decide⟩,(M.refl hw).ext⟩
 have hs:s.size<=20000:=by omega
 refine aJ.mono (abS s N (k0:=0)<|bg _) ?_;rintro _ H ⟨⟨b,rfl,_,hb⟩,rfl⟩;refine lp6 5 6 7 8 9 10 (h2:=λm x5 x6 x7 x8 x9 jh C=>∃(b n:Nat)(E:List D)(gb:List dJ),x6=B b/\b+m=s.size/\n<=b/\GB 186 5 x5 E gb/\E.length=n*5/\M [] H C gb/\∀j,j<n->VT TT C (El E 5 j) False) ?_ (s.size-b) ⟨b,0,[],[],rfl,N,bg _,GB.nil _ _,rfl,M.refl hw,λj h=>absurd h<|jP _⟩;rintro m x5 x6 x7 x8 x9 jh u H1 ⟨b,n,E,gb,rfl,hbm,hnb,hg,hcl,G,hrow⟩;refine gJ.wC λK hK=>?_;have er:∀{e w:Int}{C:F},e≠0->∃(x:D)(e' w':Int),(Jn ⟨[T W 0 0,vi e,vi w]⟩)=.tuple ⟨[x,vi e',vi w']⟩/\(e'=0->∃n,zK TT C x<|n+1):=λh=>⟨_,_,_,rfl,λh'=>absurd h' h⟩;refine tp ?_;refine aC (λy=>?_) λy=>?_;rotate_left
 .rw[hK];refine tp ?_;refine PU.b5 O<|afV (z:=True) hg hcl N (G.cast (a_ gb).symm) (by simp[hg.all]) hrow ⟨_,_,_,_,_,rfl,bg _,tL.nil _ _,N,N,λ_=>rfl⟩ O O O λw v' H3 gT cs' hg' aeh G hrow=>?_;refine aY ?_;obtain⟨a,n',c,rfl,hn',hf⟩:=hg'.Jc (ax:=TT) G λ_ _=>trivial;obtain rfl:n'=n+1:=by omega
  refine rr ?_;exact⟨⟨_,_,_,O,λ_=>⟨n,a,c,_,rfl,hf,N,λj hj=>by
   obtain⟨k,a,e,t,x,g1,g2,g3,g4,g5,g6⟩:=hrow j hj;exact⟨k,a,e,t,x,g1,g2,g3,g4,g5,λh=>g6 ⟨N,trivial⟩⟩⟩⟩,G.ext⟩
 refine PU.of (jB 1 O N)<|PU.b5 O ?_;have hS0:=G;refine G.nZ O O O λH3 rt G hx3=>?_;have G:M [] H H3 ((rt,186,[vi 0,B b,B<|b+1,.string ⟨#[]⟩,T W 0 0])::gb):=G;have hrow:∀j,j<n->VT TT H3 (El E 5 j) False:=λj hj=>(hrow j hj).st hx3 λq h=>nomatch h;obtain⟨ch,ec⟩:=uQ (s:=s) (k:=b) N;rw[ec];refine aJ.mono (VQ _) ?_;rintro v H4 ⟨⟨bl,rfl⟩,rfl⟩
 have tail:∀{H5:F}{k e:Int}{t':ByteArray}{x:D}{ev wv:Int},M [] H H5 ((rt,186,[vi k,B b,vi e,.string t',x])::gb)->(∀j,j<n->VT TT H5 (El E 5 j) False)->tL TT H5 x->0<=k->k<=15->t'.size<=4000000->(ev=0->b<e/\e<=s.size)->∀{x8 u},gJ Pg X (sub ik [1,1,1,0,1,0,0,1,0,0,1,1,1,1]) (pg (.string s) (T W 0 0) (vi 0) (vi 0) x5 (B b) (pr rt) x8 (vi ev) (vi wv) u H5) (rO 1<|sW Pg X (sub ik [1,1,1,0,1,0,0,1,1]) K):=by
  intro H5 k e t' x ev wv G hrow J hk0 hk ht hE x8 u;obtain⟨xa,xn,xc,zs,rfl,hx'⟩:=id J;refine tp ?_;refine bT (λc=>?_) λc=>?_
  .rw[hK];refine aY ?_;refine rr ?_;exact⟨er c,G.ext⟩
  obtain⟨Q,I⟩:=hE c;obtain⟨e,rfl⟩:∃e':Nat,e=e':=⟨e.toNat,N⟩;refine G.rF 0 O (az 5)<|afV (z:=False) hg hcl N (G.perm<|aF (l₁:=[_])) (by simp[hg.all]) hrow ⟨_,_,_,_,_,rfl,ht,J,hk0,hk,λh=>h.elim⟩ O O O λw v' H6 gT cs' hg' aeh G hrow=>?_;have G:=G.perm<|aF (l₂:=[_]);refine G.ld 0 (o:=2) O O<|tl<|aJ.mono (abS s N (k0:=e) N) ?_;rintro _ H7 ⟨⟨b',rfl,hb1,hb2⟩,rfl⟩;rw[hK]
  exact⟨s.size-b',N,_,_,_,_,_,_,_,_,O,b',n+1,cs',gT,O,N,N,hg',aeh,M.drop (A:=[_]) G,λj hj=>by
   obtain⟨k,a,e,t,x,g1,g2,g3,g4,g5,g6⟩:=hrow j hj;exact⟨k,a,e,t,x,g1,g2,g3,g4,g5,λh=>h.elim⟩⟩
 have rows:∀{H5 H6:F}{l:List D}{L':List dJ},M [] H H5 ((rt,186,l)::gb)->M ((((rt,186,l)::gb):List dJ).map (·.1)) H5 H6 L'->(∀j,j<n->VT TT H5 (El E 5 j) False)->∀j,j<n->VT TT H6 (El E 5 j) False:=λQ I h3 j hj=>(h3 j hj).st I.ext λq hq=>.inr<|Q.IG (by simp[hg.all]) q hq;refine aY ?_;refine dL (λ_=>?_) λ_=>?_
 .have post:∀{H5:F}{e:Nat},b<e->e<=s.size->M [] H H5 ((rt,186,[vi 0,B b,B e,.string ⟨#[]⟩,T W 0 0])::gb)->(∀j,j<n->VT TT H5 (El E 5 j) False)->∀{u},gJ Pg X (sub ik [1,1,1,0,1,0,0,1,0,0,1,1,1,0,0,1,0,1]) (pg (.string s) (T W 0 0) (vi 0) (vi 0) x5 (B b) (pr rt) (.int .u8 ch.toNat) (vi 0) (vi 0) u H5) (rO 2<|sW Pg X (sub ik [1,1,1,0,1,0,0,1,0,0,1,1,1,1])<|rO 1<|sW Pg X (sub ik [1,1,1,0,1,0,0,1,1]) K):=by
   intro H5 e Q I G hrow u;have hS0:=G;have G:=G.base;refine tm ?_;rw[Cs N I];refine G.kK ?_;refine G.lW λHn G=>?_;refine G.lW λHn G=>?_;refine splitK (λK hK=>?_) ?_
   .simp only[eG,fT];apply Eh (a:=rt) (by intros;rfl) (by kernel_rfl) (by kernel_rfl) hK
   have hp:=pM s (lo:=b) (hi:=e) N I
   have fin:∀{z:Int}{H6:F},0<=z->z<=15->M ((((rt,186,[vi 0,B b,B e,.string ⟨#[]⟩,T W 0 0])::gb):List dJ).map (·.1)) H5 H6 ((rt,186,[vi z,B b,B e,.string<|Ae.part s b e,T W 0 0])::gb)->∀{u},gJ Pg X (sub ik [1,1,1,0,1,0,0,1,0,0,1,1,1,0,0,1,0,1,1,1]) (pg (.string s) (T W 0 0) (vi 0) (vi 0) x5 (B b) (pr rt) (.int .u8 ch.toNat) (vi 0) (vi 0) u H6) (rO 2<|sW Pg X (sub ik [1,1,1,0,1,0,0,1,0,0,1,1,1,1])<|rO 1<|sW Pg X (sub ik [1,1,1,0,1,0,0,1,1]) K):=by
    intro z H6 z0 z1 hO u;have hrow:=rows hS0 hO hrow;have G:=hS0.over hO;refine tp ?_;refine G.ld 0 (o:=2) O O ?_;rw[nW N N];refine aY ?_;refine aC (λc=>?_) λ_=>?_
    .rw[hK];refine aY ?_;refine rr ?_;exact⟨er<|by decide,G.ext⟩
    exact tail G hrow (tL.nil _ _) z0 z1 N λ_=>by omega
   refine aC (λc=>?_) λc=>?_
   .exact G.jE λHn G=>fin N N G
   .exact fin N N G
  refine YE 9 (h2:=λm x9 C=>x9=vi 0/\∃k,k+m=s.size/\b+1<=k/\M [] H C ((rt,186,[vi 0,B b,B k,.string ⟨#[]⟩,T W 0 0])::gb)/\∀j,j<n->VT TT C (El E 5 j) False) ?_ (s.size-(b+1)) ⟨rfl,b+1,N,az _,G,hrow⟩;clear G hrow;rintro q x9 u H5 ⟨rfl,k,hkq,hbk,G,hrow⟩;refine tp ?_;refine G.ld 0 (o:=2) O O ?_;refine aY ?_;refine aC (λc=>?_) λc=>post N N G hrow;refine G.ld 0 (o:=2) O O ?_;obtain⟨c1,ec1⟩:=uQ (s:=s) (k:=k) N;rw[ec1];refine aY ?_;refine aJ.mono (ajS _) ?_;rintro v H6 ⟨⟨bp,rfl⟩,rfl⟩;refine aY ?_;refine dL (λc2=>?_) λc2=>post N N G hrow;have hS0:=G;have G:=G.base;refine tp ?_;exact G.ld 0 (o:=2) O O<|PU.of (jB 1 O N)<|G.jE λHn G=>⟨q-1,N,_,_,_,rfl,rfl,k+1,N,N,hS0.over G,rows hS0 G hrow⟩
 have hS1:=G;have G:=G.base;refine aC (λ_=>?_) λ_=>?_
 .refine G.jE λHn G=>aJ.mono (abU G.wf s N (b:=b) N) ?_;rintro v H5 ⟨⟨t',e,ev,wv,rfl,ht',hE⟩,J⟩;have G:=G.call J;refine G.kK ?_;refine G.jE λHn G=>?_;refine G.jE λHn G=>?_;exact tail (hS1.over G) (rows hS1 G hrow) (tL.nil _ _) N N ht' hE
 refine aC (λ_=>?_) λ_=>?_
 .refine G.jE λHn G=>aJ.mono (ahm G.wf s N (b:=b) N) ?_;rintro v H5 ⟨⟨x,e,ev,wv,rfl,hx',hE⟩,J⟩;have G:=G.call J;have htn:=G.IG (ty:=275) (by simp[hg.all]);have hS2:=G;have G:=G.base;obtain⟨xa,xn,xc,zs,rfl,hx4⟩:=id hx';refine G.kK ?_;refine G.jE λHn G=>?_;refine G.jE λHn G=>?_;have hx':=hx'.st G.ext λq hq=>.inr<|htn q hq;have G:=hS2.over G;exact tail (hS1.over G) (rows hS1 G hrow) hx' N N (bg _) hE
 have fin:∀{b1:Bool}{u},Aw u 100=.bool b1->(b1=f->b+1<s.size)->gJ Pg X (sub ik [1,1,1,0,1,0,0,1,0,0,1,1,1,0,0,1,1,1,1,1,1,1]) (pg (.string s) (T W 0 0) (vi 0) (vi 0) x5 (B b) (pr rt) (.int .u8 ch.toNat) (vi 0) (vi 0) u H4) (rO 2<|sW Pg X (sub ik [1,1,1,0,1,0,0,1,0,0,1,1,1,1])<|rO 1<|sW Pg X (sub ik [1,1,1,0,1,0,0,1,1]) K):=by
  intro b1 u hlk I;refine tl ?_;rw[hlk];cases b1
  .refine aY ?_;refine aJ.mono (ajU _) ?_;rintro v H5 ⟨⟨k,rfl,hk⟩,rfl⟩;refine G.jE λHn G=>?_;refine d_ ?_;refine aC (λ_=>?_) λ_=>?_
   .rw[hK];refine aY ?_;refine rr ?_;exact⟨er<|by decide,(hS1.over G).ext⟩
   exact tail (hS1.over G) (rows hS1 G hrow) (tL.nil _ _) N N (bg _) λ_=>by omega
  .refine aY ?_;refine PU.of (jB 2 O N)<|G.jE λHn G=>?_;refine G.jE λHn G=>?_;have:=I O;exact tail (hS1.over G) (rows hS1 G hrow) (tL.nil _ _) N N (bg _) λ_=>by omega
 refine aC (λ_=>?_) λ_=>fin O λh=>nomatch h;refine PU.of (jB 1 O N)<|aY ?_;refine aC (λ_=>?_) λ_=>fin O λh=>nomatch h;refine PU.of (jB 1 O N) ?_;obtain⟨c1,ec1⟩:=uQ (s:=s) (k:=b+1) N;rw[ec1];refine aY ?_;exact fin O (λ_=>by omega)
section
variable{S:List Nat}{xs:List D}
def GE(ty:aG)(es:Nat)(v:D)(E:List D)(gb:List dJ):Prop:=GB ty es v E gb\/∃a,v=T (Z a) 0 0/\E=[]/\gb=[]
def GE.sl(h:GE ty es v E gb):∃a n c,v=T a n c:=by
 rcases h with(⟨rfl,_⟩|⟨r,n,dY,rfl,_⟩)|⟨a,rfl,_⟩<;>exact⟨_,_,_,O⟩
def GE.Jc{ax:Nat->Prop}(h:GE ty es v E gb)(G:M S H0 H<|gb++L)(hF:∀e∈gb,ax e.1):∃a n c,v=T a n c/\E.length=n*es/\i_ ax ty H a n es E:=by
 rcases h with h|⟨a,rfl,rfl,rfl⟩
 .exact h.Jc G hF
 .exact⟨Z a,0,0,O,by simp,⟨by simp,λi x h=>by simp at h⟩,λr o e h=>absurd h<|qI 0⟩
theorem _root_.Go.Ae.M.ahn(G:M S H0 H L){z:List D}(k:∀H1 a,M S H0 (hM H H1) L->Lt H H1=cl 5->K (T (Z a) 0 0) H1):ME (bS ty z es 0 []<|hN H) K:=by
 refine ME.of (v:=T (Z ⟨H.next,0,W⟩) 0 0) (H:=(hN H).new<|rowOf ty []) ?_<|k _ _ (M.drop (A:=[_])<|G.xY ty [])<|xq<|Ext.new _ _;unfold bS;rw[show bL 0 es=0 from iP es];rfl
def _root_.Go.Ae.M.aho(G:M S H0 H L)(ha:appended (hN H) es x=Z (n,xs))(J:xs.length=n*es)(hn:n<=16777216){a0:Addr}(k:∀v' H1 gT,GE ty es v' xs gT->M S H0 (hM H H1) (gT++L)->Dq H H1=cl 1->K v' H1):ME (zB ty es (T (Z a0) 0 0) x<|hN H) K:=by
 rw[Cv (.inr ⟨_,rfl⟩) ha hn];split
 .next h0=>
  subst h0;obtain rfl:xs=[]:=dK.1 N;refine k _ (hN H) [] (.inr ⟨a0,O,O,O⟩) ?_<|fK<|Ext.refl _;rw[gZ G.wf];exact G
 .exact k _ _ [(H.next,ty,xs)] (.inl<|.inr ⟨H.next,n,[],O,J,by simp⟩) (G.xY ty xs)<|fK<|Ext.new _ _
theorem GE.apX(hg:GE ty es v E gb)(G:M S H0 H<|gb++L)(he:0<es)(ha:appended (hN H) es x=Z (n,xs))(J:xs.length=n*es)(hok:all' fB xs=f)(hn:n<=16777216)(y:E.length<=16777216)(k:∀v' H1 gT,GE ty es v' (E++xs) gT->M S H0 (hM H H1) (gT++L)->(Dq H H1=cl 1\/Dq H H1=⟨2,0,0,0,H,H1⟩)->K v' H1):ME (zB ty es v x<|hN H) K:=by
 have hnew:∀{w},(w=T W 0 0\/∃a,w=T (Z a) 0 0)->GE ty es w [] []->M S H0 H L->(∀v' H1 gT,GE ty es v' xs gT->M S H0 (hM H H1) (gT++L)->(Dq H H1=cl 1\/Dq H H1=⟨2,0,0,0,H,H1⟩)->K v' H1)->ME (zB ty es w x<|hN H) K:=λhw hgw G k=>by
  rw[Cv hw ha hn];split
  .next h0=>
   subst h0;obtain rfl:xs=[]:=dK.1 N;refine k _ (hN H) [] hgw ?_<|.inl<|fK<|Ext.refl _;rw[gZ G.wf];exact G
  .exact k _ _ [(H.next,ty,xs)] (.inl<|.inr ⟨H.next,n,[],O,J,by simp⟩) (G.xY ty xs)<|.inl<|fK<|Ext.new _ _
 rcases id hg with(⟨rfl,rfl,rfl⟩|⟨r,m,dY,rfl,hm,rfl⟩)|⟨a,rfl,rfl,rfl⟩
 .exact hnew (.inl O) hg G k
 .cases n with
  |zero=>
   obtain rfl:xs=[]:=dK.1 N;refine ME.of (v:=T (Z ⟨r,0,W⟩) m<|fI es) (H:=hN H) ?_<|k _ (hN H) _ (by rw[a_];exact hg) (by rw[gZ G.wf];exact G)<|.inl<|fK<|Ext.refl _;unfold zB;show(aK (appended (hN H) es x) λq=>gd (aB q.1 16777216)<|O7 (ty,es) _ (Z ⟨r,0,W⟩,m,fI es) q.1 q.2<|hN H)=_;rw[ha];rfl
  |succ n=>
   have hb:Bk (hN H) r ty (E++dY):=G.get 0 O;have R:=(G.lo _<|aL ..).2
   have hnn:m<=16777216:=by
    have:m*1<=m*es:=fP m he;omega
   obtain⟨r',H1,DK,Q,I,h3,h4,h5,h6⟩:=NY he hb R hm ha N hok N hnn;refine ME.of Q<|k _ H1 [(r',ty,E++xs++DK)] (.inl<|.inr ⟨r',m+(n+1),DK,O,?_,O⟩) ?_<|vP _ _
   .rw[aQ,hm,J,<-gM]
   .refine M.turn (A:=[(r,ty,E++dY)]) G h5.draw (λe he'=>?_) (iQ _ _);rw[aO]at he';subst he';refine⟨I,?_,h4⟩;rcases h3 with h3|h3
    .exact .inl (by simp[h3])
    .exact .inr (by show H.next<=r';rw[h3];exact az _)
 .exact hnew (.inr ⟨a,O⟩) hg G k
theorem GE.abV(hg:GE ty es v E gb){rx cx:Nat}(G:M S H0 H<|(rx,ty,xs)::(gb++L))(he:0<es)(J:xs.length=es)(hok:all' fB xs=f)(y:E.length<=16777216)(k:∀v' H1 gT,GE ty es v' (E++xs) gT->M S H0 (hM H H1) (gT++L)->(Dq H H1=cl 1\/Dq H H1=⟨2,0,0,0,H,H1⟩)->K v' H1):ME (zB ty es v (T (Z ⟨rx,0,W⟩) 1 cx)<|hN H) K:=
 hg.apX (M.drop (A:=[_]) G) he (vz (H:=hN H) (k:=1) (G.get 0 O) N) N hok N y k
end
def BN(H:F)(v:D)(k:Nat):Prop:=∃(r n c:Nat)(xs:List Nat)(dY:List D),v=T (Z ⟨r,0,W⟩) n c/\(c=fI 1\/n=1/\c=1)/\Bk H r 3 (fG xs++dY)/\r<H.next/\xs.length=n/\n<=k/\∀x∈xs,x<=134217728
def BN.ex(h:BN H v k)(J:Ext H C):BN C v k:=let⟨r,n,c,xs,dY,Q,I,h3,h4,h5⟩:=h;⟨r,n,c,xs,dY,Q,I,h3.ex h4 J,aP h4 J.next,h5⟩
def ajX(y:c=fI 1\/n=1/\c=1)(h:k<=n):∃c',U4 1 (T (Z ⟨r,0,W⟩) n c) W (Z<|B k) W=Z (T (Z ⟨r,0,W⟩) k c'):=by
 rcases y with rfl|⟨rfl,rfl⟩
 .exact⟨_,Bh h⟩
 .obtain rfl|rfl:k=0\/k=1:=by omega
  .exact⟨_,O⟩
  .exact⟨_,O⟩
def aei(y:c=fI 1\/n=1/\c=1)(h:k<=n):∃o c',U4 1 (T (Z ⟨r,0,W⟩) n c) (Z<|B k) W W=Z (T (Z ⟨r,o,W⟩) (n-k) c')/\o+(n-k)<=n:=by
 rcases y with rfl|⟨rfl,rfl⟩
 .exact⟨_,_,Qf h,N⟩
 .obtain rfl|rfl:k=0\/k=1:=by omega
  .exact⟨_,_,O,az 1⟩
  .first|exact⟨_,_,O,az 1⟩|exact⟨_,_,O,bg 1⟩
def abW{o:Nat}{xs:List D}(h:Bk H r ty<|xs++dY)(hl:o+k<=xs.length):appended (hN H) 1 (T (Z ⟨r,o,W⟩) k c)=Z (k,(xs.drop o).take k):=by
 have h:Bk (hN H) r ty (xs++dY):=h;show(aK ((hN H).read r o<|bL k 1) λl=>Z (k,l))=_;rw[show bL k 1=k from dz k,h.read (by rw[aQ];omega),pO N,pR (by rw[tY];omega)];rfl
def abX:∀xs:List Nat,all' fB (fG xs)=f
 |[]=>rfl
 |x::xs=>by show bR f (all' fB<|fG xs) aA=f;exact abX xs
theorem afW(hw:Wf H){z:Nat}(hl:BN H v k)(hk:k<=3000000)(hz:z<=134217728):aJ Pg X 219 [v,B z] H (Q1 (λw C=>BN C w<|k+1) H):=by
 obtain⟨r,n,c,xs,dY,rfl,y,hb,R,hn,hnk,hxs⟩:=id hl;have G:=M.refl hw;have same:BN H (T (Z ⟨r,0,W⟩) n c) (k+1):=⟨r,n,c,xs,dY,O,y,hb,R,hn,N,hxs⟩;refine ce [0,1,4,5] ?_;refine tp ?_;refine aC (λc=>absurd c N) λ_=>?_;refine aC (λc=>?_) λ_=>?_
 .refine rr ?_;exact⟨same,G.ext⟩
 refine tl ?_
 have ix:∀{i}{K:D->D->F->Prop},i<n->(∀p x,K p (B x) H)->PU (Ac 1 (T (Z ⟨r,0,W⟩) n c)<|B i) λp=>ME (uP W p H) (K p):=λ{i K} hi hk=>by
  have hf:i_ (λ_=>True) 3 H (Z ⟨r,0,W⟩) n 1 (fG xs):=⟨⟨by rw[aM];omega,λj x hj=>⟨r,0,rfl,R,by rw[aW];refine hb.cell ?_;rw[bJ (bA.1 hj).1];exact hj⟩⟩,λr' o e _=>by cases e;exact⟨trivial,R,hb.HZ⟩⟩;exact hf.ix hi (kU _<|au N) λp=>hk p _
 refine YE 5 (h2:=λm x5 C=>C=H/\∃i,x5=B i/\i+m=n) ?_ n ⟨rfl,0,rfl,aW n⟩;rintro m x5 u C ⟨rfl,i,rfl,him⟩
 have fin:∀{x4 u},gJ Pg X (sub wD [1,1,1,1,1]) (vU (T (Z ⟨r,0,W⟩) n c) (B z) x4 (B i) u C) (jR Pg [.tmp 4]<|Q1 (λw C=>BN C w<|k+1) C):=by
  intro x4 u;refine tl<|G.ahn λH1 a G hc1=>?_;obtain⟨c1,e1⟩:=ajX (r:=r) (k:=i) y N;refine PU.of e1 ?_;have hlx:(fG xs).length=n:=by rw[aM];exact hn
  refine G.aho (abW (hb.ex R G.ext) N) (by rw[eH,jc,hlx];omega) N λv2 H2 g2 hg2 G hc2=>?_;refine G.Qa O O O N λH3 rx G hc3=>hg2.abV G N O O (by rw[eH,jc,hlx];omega) λv4 H4 g4 hg4 G hc4=>?_;obtain⟨o,c5,e5,ho⟩:=aei (r:=r) (k:=i) y N;refine PU.of e5 ?_;have e2:((fG xs).drop o).take (n-i)=fG ((xs.drop o).take<|n-i):=by show _=List.map _ _;rw[wI,List.map_drop]
  refine hg4.apX G N (abW (hb.ex R G.ext) N) (by rw[eH,tY,hlx];omega) ?_ N (by rw[aQ,eH,jc,hlx];show min i n+1<=_;omega) λv6 H6 g6 hg6 G hc6=>?_
  .rw[e2];exact abX _
  refine splitK (λK hK=>?_) ?_
  .simp only[hc1,hc2,hc3];rcases hc4 with e|e<;>rw[e]<;>rcases hc6 with e|e<;>rw[e]<;>apply Ej (ai:=λ_=>True) (by kernel_rfl) (by kernel_rfl) hK<;>repeat' apply iq
   all_goals first|exact trivial|(intro h;cases h;done)|exactλ_=>trivial
  rw[e2,jc,<-wI,show bI (B z)=fG [z]from O,<-dG,<-dG]at hg6;generalize hys:xs.take i++[z]++(xs.drop o).take (n-i)=ys at hg6;have hyl:ys.length=n+1:=by rw[<-hys];simp;omega
  have hyb:∀hc∈ys,hc<=134217728:=λhc hy=>by
   rw[<-hys]at hy;simp only[bX,aO]at hy;rcases hy with(hy|hy)|hy
   .exact hxs hc<|eP hy
   .omega
   .exact hxs hc<|ko<|eP hy
  rcases hg6 with(⟨_,h,_⟩|⟨r6,n6,j6,rfl,hn6,rfl⟩)|⟨_,_,h,_⟩
  .have:=dV gz h;rw[aM,hyl]at this;cases this
  .rw[aM]at hn6;refine rr ?_;exact⟨⟨r6,n6,_,ys,j6,O,.inl O,G.get 0 O,(G.lo _<|aL ..).2,N,N,hyb⟩,G.ext⟩
  .have:=dV gz h;rw[aM,hyl]at this;cases this
 have post:∀{x4 u},gJ Pg X (sub wD [1,1,1,1]) (vU (T (Z ⟨r,0,W⟩) n c) (B z) x4 (B i) u C) (jR Pg [.tmp 4]<|Q1 (λw C=>BN C w<|k+1) C):=by
  intro x4 u;refine tp ?_;refine aC (λc=>?_) λ_=>fin;refine ix N λp x=>?_;refine aY ?_;refine aC (λc=>?_) λ_=>fin;refine rr ?_;exact⟨same,G.ext⟩
 refine tp ?_;refine aC (λc=>?_) λ_=>post;refine ix N λp x=>?_;refine aY ?_;refine aC (λc=>?_) λ_=>post;exact PU.of (jB 1 O N)<|⟨m-1,N,_,_,_,O,O,i+1,O,N⟩
def tL.rd{ax:Nat->Prop}{av:Nat}{zs:List Nat}(h:i_ ax 275 H a n 2<|fG zs)(hi:i<n)(hf:av<2)(hz:∀z∈zs,z<134217728):∃r o,Ac 2 (T a n c) (B i)=Z (.pointer<|Z ⟨r,o,W⟩)/\r<H.next/\∃x:Nat,x<134217728/\H.cell r (o+av)=Z (B x):=by
 obtain⟨r,o,e,R,hcl,_⟩:=h.1.idx (c:=c) N hi;have hl:i*2+av<zs.length:=by have:=h.1.1;rw[aM]at this;omega
 refine⟨r,o,e,R,zs[i*2+av],hz _<|bB hl,hcl av _ hf ?_⟩;exact kU _<|au hl
def ajY(x:Nat):O6 f [B x,vi 0]=Z (B x):=by rw[max2,show max (x:Int) 0=x by omega]
def alI{ax:Nat->Prop}{z:Nat}(hs:tL ax H v):aJ Pg X 193 [v,B z] H (Q0 (λw=>∃b,w=.bool b) H):=by
 obtain⟨a,n,c,zs,rfl,hf,hn,hz,_⟩:=hs;refine ce [0,1,4,5] ?_;refine tl ?_;refine YE 5 (h2:=λm x5 C=>C=H/\∃i,x5=B i/\i+m=n) ?_ n ⟨rfl,0,rfl,aW n⟩;rintro m x5 u C ⟨rfl,i,rfl,him⟩;refine tp ?_;refine aC (λy=>?_) λy=>?_;rotate_left
 .refine tl ?_;refine rr ?_;exact⟨⟨_,O⟩,O⟩
 obtain⟨r,o,e1,_,x,_,Q⟩:=tL.rd (c:=c) (av:=0) hf (show i<n by omega) N hz;obtain⟨r',o',e1',_,hc,_,I⟩:=tL.rd (c:=c) (av:=1) hf (show i<n by omega) N hz;rw[e1]at e1';cases e1';rw[dD]at Q
 have w_:∀{u:D->Rs},PU (lN Pg .add 3 (.tmp 10) (.const<|vi 1) (B i)<|vi 1) λv=>∃m_1,m_1<m/\∃x5 zG H'',wE (T a n c) (B z) (.bool aA) v (u v) C=wE (T a n c) (B z) (.bool aA) x5 zG H''/\H''=C/\∃i,x5=B i/\i+m_1=n:=λ{u}=>by
  refine PU.of (jB 1 O N) ?_;exact⟨m-1,N,_,_,_,O,O,i+1,O,N⟩
 refine aC (λ_=>?_) λ_=>w_;refine aC (λ_=>?_) λ_=>w_;refine PU.of e1 ?_;refine aY ?_;refine ME.ld Q ?_;refine aY ?_;refine aC (λ_=>?_) λ_=>w_;refine PU.of e1 ?_;refine aY ?_;refine ME.ld I ?_;refine aY ?_;refine aC (λ_=>?_) λ_=>w_;refine rr ?_;exact⟨⟨_,O⟩,O⟩
def ahp{ax:Nat->Prop}(hw:Wf H)(hs:tL ax H v):aJ Pg X 192 [v] H (Q1 (λw C=>BN C w 3000000) H):=by
 obtain⟨a,n,c,zs,rfl,hf,hn,hz,_⟩:=hs;have G:=M.refl hw;refine ce [0,2,3,4] ?_;refine tl ?_;refine G.bS O O O N λH1 rx G=>?_;have hb:=G.get 0 O;refine lp2 3 4 (h2:=λm x3 x4 C=>∃i,x4=B i/\i+m=n/\BN C x3 (1+2*i)/\M [] H C []) ?_ n ⟨0,rfl,aW n,⟨rx,1,1,[0],[],rfl,.inr ⟨rfl,rfl⟩,hb,(G.lo _<|aL ..).2,rfl,az _,by simp⟩,M.drop (A:=[_]) G⟩;clear G hb;rintro m x3 x4 u H2 ⟨i,rfl,him,hl,G⟩;refine tp ?_;refine aC (λy=>?_) λy=>?_;rotate_left
 .refine tl ?_;obtain⟨r,k,c,xs,j,Q,I,h3,h4,h5,h6,h7⟩:=hl;refine rr ?_;exact⟨⟨r,k,c,xs,j,Q,I,h3,h4,h5,N,h7⟩,G.ext⟩
 obtain⟨r,o,e1,R,x,J,Q⟩:=tL.rd (c:=c) (av:=0) hf (show i<n by omega) N hz;obtain⟨r',o',e1',_,hc,hy,I⟩:=tL.rd (c:=c) (av:=1) hf (show i<n by omega) N hz;rw[e1]at e1';cases e1';rw[dD]at Q;have cl:∀{H3:F}{o:Nat}{x:D},M [] H H3 []->H.cell r o=Z x->H3.cell r o=Z x:=λG h=>(lQ (G.ext.obj r R λh=>nomatch h) _).trans h;refine PU.of e1<|aY ?_;refine ME.ld (cl G Q)<|PU.of (ajY x)<|aJ.mono (afW G.wf hl N N) ?_;rintro w H3 ⟨hl,hx3⟩;have G:=G.call hx3;refine PU.of e1<|aY ?_;refine ME.ld (cl G I) ?_;refine aY ?_
 with_reducible refine abO (λ_=>?_) λ_=>?_
 .refine PU.of e1<|aY ?_;refine ME.ld (cl G I)<|PU.of (jB 1 O N)<|PU.of (ajY<|hc+1)<|aJ.mono (afW G.wf hl N N) ?_;rintro w H4 ⟨hl,hx4⟩;have G:=G.call hx4;exact PU.of (jB 1 O N)<|⟨m-1,N,_,_,_,_,O,i+1,O,N,by rw[show 1+2*(i+1)=1+2*i+1+1 by omega];exact hl,G⟩
 .refine PU.of (jB 1 O N) ?_;obtain⟨r,k,c,xs,j,Q,I,h3,h4,h5,h6,h7⟩:=hl;exact⟨m-1,N,_,_,_,_,O,i+1,O,N,⟨r,k,c,xs,j,Q,I,h3,h4,h5,N,h7⟩,G⟩
def BN.fl(h:BN H v k):∃(a:Option Addr)(n c:Nat)(xs:List Nat),v=T a n c/\i_ (λ_=>True) 3 H a n 1 (fG xs)/\n<=k/\xs.length=n/\∀x∈xs,x<=134217728:=by
 obtain⟨r,n,c,xs,dY,rfl,y,hb,R,hn,hnk,hxs⟩:=h;exact⟨_,n,c,xs,O,⟨⟨by rw[aM];omega,λj x hj=>⟨r,0,rfl,R,by rw[aW];refine hb.cell ?_;rw[bJ (bA.1 hj).1];exact hj⟩⟩,λr' o e _=>by cases e;exact⟨trivial,R,hb.HZ⟩⟩,hnk,hn,hxs⟩
theorem ahq(hw:Wf H){en ec:Nat}{xs:List Nat}{bs:List Bool}(hf:i_ (λ_=>True) 3 H ea en 1<|fG xs)(hen:en<=3000000)(hxl:xs.length=en)(hxs:∀x∈xs,x<=134217728)(hb:i_ (λ_=>True) 4 H a n 1<|bools bs):aJ Pg X 194 [T ea en ec,T a n c] H (Q1 (λw _=>∃a n c,w=T a n c) H):=by
 have hbl:bs.length=n:=by have:=hb.1.1;rw[aM]at this;omega
 refine ce [0,1,4,5,6,7]<|tl ?_;refine Ig 5 6 7 (h2:=λm x5 x6 x7 C=>∃i zs gb,x6=B i/\i+m=en/\GB 275 2 x5 (zs.map vi) gb/\zs.length<=2*i/\(∀z∈zs,-1<=z/\z<=134217728)/\M [] H C gb) ?_ en ⟨0,[],[],rfl,aW en,GB.nil _ _,az _,(λz h=>nomatch h),M.refl hw⟩;rintro m x5 x6 x7 u H1 ⟨i,zs,gb,rfl,him,hg,hzl,hz,G⟩
 have out:∀{x7 u},gJ Pg X (sub kN [1,1,1]) (nL (T ea en ec) (T a n c) (T W 0 0) x5 (B i) x7 u H1) (jR Pg [.tmp 4]<|Q1 (λw _=>∃a n c,w=T a n c) H):=by
  intro x7 u;refine tl ?_;obtain⟨ga,gn,gc,rfl⟩:=hg.sl;refine rr ?_;exact⟨⟨_,_,_,O⟩,G.ext⟩
 refine tp ?_;refine aC (λc1=>?_) λ_=>out;refine aC (λc2=>?_) λ_=>out;have J:∀{j},j<en->∃x:Nat,x<=134217728/\(fG xs)[j]?=Z (B x):=λ{j} hj=>⟨xs[j],hxs _<|bB _,kU _<|au N⟩
 have mid:∀(hr:Out->Prop)(z:Int),-1<=z/\z<=134217728->(∀{x5':D}{zs':List Int}{gT:List dJ}{C:F}{x7:D}{u:Rs},GB 275 2 x5' (zs'.map vi) gT->zs'.length<=2*(i+1)->(∀z∈zs',-1<=z/\z<=134217728)->M [] H C gT->gJ Pg X (sub kN [1,1,0,1,0,0,1,1]) (nL (T ea en ec) (T a n c) (T W 0 0) x5' (B i) x7 u C) hr)->∀u,gJ Pg X (sub kN [1,1,0,1,0,0,1,0,0,1,1]) (nL (T ea en ec) (T a n c) (T W 0 0) x5 (B i) (vi z) u H1) (rO 1<|sW Pg X (sub kN [1,1,0,1,0,0,1,1]) hr):=by
  intro hr z hzz kk u;obtain⟨b,hbi⟩:∃b,bs[i]?=Z b:=⟨_,au N⟩;obtain⟨x,hxb,hxi⟩:=J (j:=i) N;refine tl<|(hb.ex G.ext).ix N (kU _ hbi) λp=>?_;refine aY ?_
  have app:∀{u},Aw u 53=.bool aA->gJ Pg X (sub kN [1,1,0,1,0,0,1,0,0,1,1,1,1]) (nL (T ea en ec) (T a n c) (T W 0 0) x5 (B i) (vi z) u H1) (rO 1<|sW Pg X (sub kN [1,1,0,1,0,0,1,1]) hr):=by
   intro u hlk;refine tl ?_;rw[hlk];refine aY ?_;refine(hf.ex G.ext).ix N hxi λp=>PU.b2 O<|hg.push (G.cast (a_ gb).symm) N O O O O O N (by rw[aM];omega) λw v' H4 gT hg' G=>?_;refine aY ?_;refine kk (zs':=zs++[(x:Int),z]) (by rw[show(zs++[(x:Int),z]).map vi=zs.map vi++[B x,vi z]from dG];exact hg') (by simp;omega) (λhc hy=>?_)<|G.cast<|a_ gT;rcases bX.1 hy with h|h
   .exact hz hc h
   .simp at h;omega
  refine dL (λ_=>?_) λ_=>?_
  .exact kk hg N hz G
  rcases id hg with⟨rfl,h0,rfl⟩|⟨r,k,dY,rfl,hk,rfl⟩
  .refine aY ?_;exact iB O<|app O
  rw[aM]at hk;refine aY ?_;refine aC (λc3=>?_) λc3=>?_;rotate_left
  .exact iB O<|app O
  have hk1:(k-1)*2+1<zs.length:=by omega
  have hv:((zs.map vi)++dY)[(k-1)*2+1]?=Z (vi zs[(k-1)*2+1]):=by
   rw[bJ (by rw[aM];exact hk1),bD,au hk1];rfl
  have Rv:=hz _<|bB hk1;rw[nW N N];refine aY ?_;rw[show((k:Int)-1)=((k-1:Nat):Int) by omega];refine PU.of (vO N) ?_;rw[aW];refine aY ?_;refine G.LA 0 O hv ?_;simp only[gZ G.wf];rw[fA N N];refine aY ?_;obtain⟨r2,o2,e2,_,hcl,_⟩:=(hf.ex G.ext).1.idx (c:=ec) N (show i<en by omega);refine PU.of e2<|ME.ld (H:=hN H1) (o:=o2) (hcl 0 _ N (by rw[dz,dD];exact hxi)) ?_;refine aY ?_;simp only[gZ G.wf];refine splitK (λK hK=>?_) ?_
  .simp only[eG];apply Ej (ai:=λ_=>False) (by kernel_rfl) (by kernel_rfl) hK<;>repeat' apply iq
   all_goals first|exact trivial|(intro h;cases h;done)|exactλ_ _ h=>h.elim
  by_cases hq:zs[(k-1)*2+1]+1=(x:Int)
  .rw[bG hq];refine tp ?_;rw[nW N N];refine aY ?_;rw[show((k:Int)-1)=((k-1:Nat):Int) by omega];refine PU.of (vO N) ?_;rw[aW];refine aY ?_;refine G.st 0 O O (by rw[aQ,aM];omega) rfl λH2 G=>?_;have G:M [] H H2 [(r,275,(zs.set ((k-1)*2+1) z).map vi++dY)]:=G.to<|MN hk1 z;refine kk (zs':=zs.set ((k-1)*2+1) z) (.inr ⟨r,k,dY,O,by rw[aM,bF];exact hk,O⟩) (by rw[bF];omega) (λhc hy=>?_) G;rcases gY hy with h|h
   .exact hz hc h
   .rw[h];exact hzz
  .rw[dn hq];exact app O
 refine tl ?_;refine PU.of (jB 1 O N)<|aY ?_;refine aC (λc3=>?_) λc3=>?_
 .refine PU.of (jB 1 O N) ?_;obtain⟨x,hxb,hxi⟩:=J (j:=i+1) N;refine(hf.ex G.ext).ix N hxi λp=>?_;refine qX ?_;refine mid _ _ N (λhg hl hz G=>?_) _;refine tl ?_;refine PU.of (jB 1 O N) ?_;exact⟨m-1,N,_,_,_,_,_,O,i+1,_,_,O,N,hg,hl,hz,G⟩
 .refine mid _ _ N (λhg hl hz G=>?_) _;refine tl ?_;refine PU.of (jB 1 O N) ?_;exact⟨m-1,N,_,_,_,_,_,O,i+1,_,_,O,N,hg,hl,hz,G⟩
end Go.Proofs.Lu
