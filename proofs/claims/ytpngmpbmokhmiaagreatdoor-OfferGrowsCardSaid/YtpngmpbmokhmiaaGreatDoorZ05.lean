/-
  Part 05 of the proof. No condition.
-/
import Derived.Test.YtpngmpbmokhmiaaGreatDoorZ04
set_option linter.unusedVariables false
set_option linter.unusedSimpArgs false
set_option maxRecDepth 100000
set_option maxHeartbeats 4000000
set_option linter.defProp false
open Option renaming some->Z,none->T
open Bool renaming true->F,false->aA
open Go renaming Value->D,TypeId->aH,Program->aX,Operand->cB,IntKind->gm,BinOp->tN
open Go.Value renaming int->bq,slice->u,bool->aR,string->aJ,pointer->bG,tuple->fO,agg->dP
open Nat renaming beq->aB,succ->dh,ble->aD,add->a_,mul->bO
open List renaming length->J
open UInt8 renaming ofNat->jS
open List.Pairwise renaming nil->qy
open List.Perm renaming swap->gX,cons->eX
open ByteArray renaming mk->dJ
open BitVec renaming ofInt->kW
open Go.IntKind renaming u8->dz,i32->bN,i64->bC,wrap->oG,u64->fB
noncomputable section
namespace Go.Proofs.Lu
open Go.Ae Go.Ae.hx
variable{KM b b' c d es cs g k k0 kb m r rb sz:Nat}{A L Lx hx M' Mb gb:C eB}{H Q H0 Hb Hc:R}{K:D->D->R->Prop}{v:D}{bs f ks l:C D}{a p:aC Addr}{ch kd root x z:Int}{F':Nat->Prop}{nm s t:aZ}{ai w:Bool}
def Q0(p:D->Prop)(H:R)(v:D)(Q:R):Prop:=p v/\Q=H
def Q1(p:D->R->Prop)(H:R)(v:D)(Q:R):Prop:=p v Q/\Ext H Q
def _root_.Go.Ae.SH.cm{S:C Nat}{args:C D}{p K:D->R->Prop}(G:SH S H0 H L)(h:bQ Pg X g args H<|Q1 p H)(k:∀v Q,p v Q->Ext H Q->SH S H0 Q L->K v Q):bQ Pg X g args H K:=dD h λv Q i=>k v Q i.1 i.2<|G.call i.2
abbrev isB(v:D):Prop:=∃b,v=aR b
def M_(c:Int):bQ Pg X 197 [bq dz c] H (Q0 isB H):=by
 refine lq [0,2] ?_
 repeat' (first|(refine bM ?_)|(refine aW (λi=>?_) λi=>?_)|(refine rr ?_))
 all_goals exact⟨⟨_,O⟩,O⟩
theorem Kh(c:Int):bQ Pg X 169 [bq dz c] H (Q0 isB H):=by
 refine lq [0,2] ?_
 repeat' (first|(refine bM ?_)|((refine dD (M_ _) ?_;rintro v Q ⟨⟨b,rfl⟩,rfl⟩))|(refine aW (λi=>?_) λi=>?_)|(refine rr ?_))
 all_goals exact⟨⟨_,O⟩,O⟩
theorem TI(c:Int):bQ Pg X 198 [bq dz c] H (Q0 isB H):=by
 refine lq [0,2] ?_
 repeat' (first|(refine bM ?_)|((refine dD (Kh _) ?_;rintro v Q ⟨⟨b,rfl⟩,rfl⟩))|(refine iI (λi=>?_) λi=>?_)|(refine rr ?_))
 all_goals exact⟨⟨_,O⟩,O⟩
def Jz(c:Int):bQ Pg X 173 [bq dz c] H (Q0 (λv=>∃k b,v=fO ⟨[vi k,aR b]⟩) H):=by
 refine lq [0,2,3,4] ?_
 repeat' (first|(refine bM ?_)|(refine aW (λi=>?_) λi=>?_)|(refine rr ?_))
 all_goals exact⟨⟨_,_,O⟩,O⟩
abbrev al6(s t:aZ)(v:D):Prop:=∃b:Bool,v=aR b/\(b=F->∃r,s.data.toList=t.data.toList++r)
def KP(s t:aZ):bQ Pg X 195 [aJ s,aJ t] H (Q0 (al6 s t) H):=by
 refine ce [0,1,4] ?_;refine tQ (λi=>?_) λi=>?_
 .rw[ajc N];refine bM ?_;refine rr ?_;refine⟨⟨_,O,λh=>?_⟩,rfl⟩;have I:Go.Ae.part s 0 t.size=t:=gG h;have W:(Go.Ae.part s 0 t.size).data.toList=t.data.toList:=by rw[I]
  refine⟨s.data.toList.drop t.size,?_⟩;rw[<-W];exact(iM t.size s.data.toList).symm
 .refine rr ?_;exact⟨⟨_,O,λh=>by cases h⟩,rfl⟩
def EM(s t:aZ):bQ Pg X 167 [aJ s,aJ t] H (Q0 (al6 s t) H):=by
 refine lq [0,1,4] ?_;refine dD (KP s t) ?_;rintro v Q ⟨⟨b,rfl,i⟩,rfl⟩;refine rr ?_;exact⟨⟨_,O,i⟩,O⟩
def VW(c:Int):bQ Pg X 237 [bq dz c] H (Q0 (λv=>∃k b,v=fO ⟨[bq bN k,aR b]⟩) H):=by
 refine lq [0,2,3] ?_
 repeat' (first|(refine bM ?_)|(refine aW (λi=>?_) λi=>?_)|(refine tl ?_)|(refine rr ?_))
 all_goals exact⟨⟨_,_,O⟩,O⟩
def Na(c:Int):bQ Pg X 248 [bq bN c] H (Q0 isB H):=by
 refine lq [0,2] ?_
 repeat' (first|(refine bM ?_)|(refine aW (λi=>?_) λi=>?_)|(refine tl ?_)|(refine rr ?_))
 all_goals exact⟨⟨_,O⟩,O⟩
theorem TJ(c:Int):bQ Pg X 238 [bq bN c] H (Q0 (λv=>∃s b,v=fO ⟨[aJ s,aR b]⟩) H):=by
 refine lq [0,2,3] ?_;refine dD (Na _) ?_;rintro v Q ⟨⟨b,rfl⟩,rfl⟩
 repeat' (first|(refine bM ?_)|(refine iI (λi=>?_) λi=>?_)|(refine rr ?_))
 all_goals exact⟨⟨_,_,O⟩,O⟩
section
structure Dr(H:R):Prop where
 first:∀i:Nat,i<256->∃x:Int,(x=240\/x=241\/x=2\/x=19\/x=3\/x=35\/x=52\/x=4\/x=68)/\H.cell 1 i=Z (bq dz x)
 rng:∀i:Nat,i<16->∃a b:Int,H.read 2 (i*2) 2=Z [bq dz a,bq dz b]
 lt:3<=H.bU
theorem Dr.ex(h:Dr H)(M:Ext H Q):Dr Q:=
 ⟨λi j=>by
  have⟨x,I,W⟩:=h.first i j
  exact⟨x,I,(nU (M.obj 1 (by have:=h.lt;omega) gD) _).trans W⟩,
  λi j=>by
   have⟨a,b,W⟩:=h.rng i j;exact⟨a,b,(xI (M.obj 2 (by have:=h.lt;omega) gD) _ _).trans W⟩,
  aQ h.lt M.bU⟩
def aac(M:x=240\/x=241\/x=2\/x=19\/x=3\/x=35\/x=52\/x=4\/x=68):240<=x\/(x<240/\∃z q:Nat,2<=z/\z<=4/\q<16/\qd bC (ZX dz x 7)=(z:Int)/\F_ dz x 4=(q:Int)):=by
 rcases M with rfl|rfl|rfl|rfl|rfl|rfl|rfl|rfl|rfl
 .left;decide
 .left;decide
 .right;exact⟨jq,2,0,jq,jq,jq,jq,jq⟩
 .right;exact⟨jq,3,1,jq,jq,jq,jq,jq⟩
 .right;exact⟨jq,3,0,jq,jq,jq,jq,jq⟩
 .right;exact⟨jq,3,2,jq,jq,jq,jq,jq⟩
 .right;exact⟨jq,4,3,jq,jq,jq,jq,jq⟩
 .right;exact⟨jq,4,0,jq,jq,jq,jq,jq⟩
 .right;exact⟨jq,4,4,jq,jq,jq,jq,jq⟩
abbrev adl(s:aZ)(v:D)(Q:R):Prop:=∃(r:Int)(k:Nat),v=fO ⟨[bq bN r,B k]⟩/\k<=4/\k<=s.size/\(0<s.size->0<k)
def Ir(k:Nat)(i:z=(k:Int))(h:k<s.size):∃c:UInt8,idS (aJ s) (bq bC z)=Z (bq dz (c.toNat:Int)):=by subst i;exact⟨_,uV h⟩
set_option maxHeartbeats 1000000 in
theorem DI(hw:Wf H)(j:Dr H)(s:aZ):bQ Pg X 236 [aJ s] H (Q1 (adl s) H):=by
 have G:=h_ hw;refine ce [0,2,3,4,5,6,7,8,9,10,11,12] ?_;refine tQ (λI=>?_) λI=>?_
 .refine rr ?_;exact⟨⟨_,0,O,N,N,λh=>N⟩,G.ext⟩
 .have⟨c,e0⟩:=Ir (s:=s) (z:=0) 0 O N;have B:c.toNat<256:=c.toNat_lt;simp only[e0,Ld];rw[acj B];refine bM ?_;have⟨x,M,hcell⟩:=j.first _ B
  refine G.CO (by rw[dN];exact hcell) (by have:=j.lt;omega) ?_;refine tO (λW=>?_) λW=>?_
  .refine rr ?_;exact⟨⟨_,1,O,N,N,λh=>N⟩,G.ext⟩
  .rcases aac M with y|⟨y,z,q,ab,ac,E,U,T⟩
   .exact absurd y W
   .rw[U,T,acj E];refine bM ?_;have⟨a,b,hr⟩:=j.rng q E;refine G.BU hr (by have:=j.lt;omega) ?_;refine G.jP λH1 r1 G=>G.st 0 O O gD O λJ G=>?_;have G:SH [] H J [(r1,353,[bq dz a,bq dz b])]:=G;refine tO (λV=>?_) λV=>?_
    .refine rr ?_;exact⟨⟨_,1,O,N,N,λh=>N⟩,G.ext⟩
    .have⟨c1,e1⟩:=Ir (s:=s) (z:=1) 1 O N;simp only[e1,Ld];refine G.ld 0 O O ?_;refine tO (λo=>?_) λo=>?_
     .refine rr ?_;exact⟨⟨_,1,O,N,N,λh=>N⟩,G.ext⟩
     refine G.ld 0 O O ?_;refine tO (λo=>?_) λo=>?_
     .refine rr ?_;exact⟨⟨_,1,O,N,N,λh=>N⟩,G.ext⟩
     refine tQ (λY=>?_) λY=>?_
     .refine rr ?_;exact⟨⟨_,2,O,N,N,λh=>N⟩,G.ext⟩
     have⟨c2,e2⟩:=Ir (s:=s) (z:=2) 2 O N;simp only[e2];refine tO (λi=>?_) λi=>?_
     .refine rr ?_;exact⟨⟨_,1,O,N,N,λh=>N⟩,G.ext⟩
     refine aW (λi=>?_) λi=>?_
     .refine rr ?_;exact⟨⟨_,1,O,N,N,λh=>N⟩,G.ext⟩
     refine tQ (λh8=>?_) λh8=>?_
     .refine rr ?_;exact⟨⟨_,3,O,N,N,λh=>N⟩,G.ext⟩
     have⟨c3,e3⟩:=Ir (s:=s) (z:=3) 3 O N;simp only[e3];refine tO (λi=>?_) λi=>?_
     .refine rr ?_;exact⟨⟨_,1,O,N,N,λh=>N⟩,G.ext⟩
     refine aW (λi=>?_) λi=>?_
     .refine rr ?_;exact⟨⟨_,1,O,N,N,λh=>N⟩,G.ext⟩
     refine tp ?_;refine rr ?_;exact⟨⟨_,4,O,N,N,λh=>N⟩,G.ext⟩
def TK(o:Wf H)(j:Dr H)(s:aZ):bQ Pg X 221 [aJ s] H (Q1 (adl s) H):=by
 refine ce [0,2,3] ?_;refine al3 (λI=>?_) λI=>?_
 .have hs:0<s.size:=by
   rcases gK s.size with h|h
   .exfalso;apply I;have⟨⟨l⟩⟩:=s;have:J l=0:=h;rw[eU]at this;subst this;rfl
   .exact h
  have⟨c,e0⟩:=Ir (s:=s) (z:=0) 0 O hs;simp only[e0];refine bM ?_;refine tQ (λW=>?_) λW=>?_
  .simp only[e0];refine bM ?_;refine rr ?_;exact⟨⟨_,1,O,N,N,λh=>N⟩,Ext.refl _⟩
  .refine dD (DI o j s) ?_;rintro v Q ⟨⟨r,k,rfl,i⟩,M⟩;simp only[ajd];refine bM ?_;refine tl<|rr ?_;exact⟨⟨_,k,O,i⟩,M⟩
 .refine tp ?_;refine dD (DI o j s) ?_;rintro v Q ⟨⟨r,k,rfl,i⟩,M⟩;refine bM ?_;refine tl<|rr ?_;exact⟨⟨_,k,O,i⟩,M⟩
end
section
def isByte(v:D):Prop:=∃n:Nat,n<=255/\v=bq dz (n:Int)
def wrap_u8(n:Int):∃m:Nat,m<=255/\oG dz n=(m:Int):=by
 refine⟨(n %256).toNat,N,?_⟩;show n %(2^8:Int)=_;have:(2:Int)^8=256:=jq;rw[this];omega
def TL(n:Int):isByte (bq dz<|qd dz n):=by
 have:qd dz n=oG dz n:=by cases n<;>rfl
 rw[this];have⟨m,I,W⟩:=wrap_u8 n;exact⟨m,I,by rw[W]⟩
def JA(a b:Int):isByte (bq dz<|bOr dz a b):=by have⟨m,I,W⟩:=wrap_u8<|BitVec.toNat<|kW (dz).bits a|||kW (dz).bits b;exact⟨m,I,by unfold bOr;rw[W]⟩
def Gn(n:Nat)(h:n<=255):isByte (bq dz (n:Int)):=⟨n,h,O⟩
def adm(f:C D)(h:∀x∈f,isByte x):∃bs,uz f=Z bs/\J bs=J f:=by
 induction f with
 |nil=>exact⟨[],O,O⟩
 |cons x f o=>
  have⟨bs,I,W⟩:=o λy j=>h y<|bL _ j;obtain⟨n,i,rfl⟩:=h x<|aL ..
  refine⟨jS n::bs,?_,by simp[W]⟩;show(aN (Z (dz,(n:Int))) λp=>aN (LH p.2) λn=>gd (KA p.1&&aD n 255)<|aN (uz f) λbs=>Z<|jS n::bs)=_;rw[I];show gd (aD n 255) _=_;rw[aG i];rfl
def VX:∀{f:C D}{l:C UInt8},uz f=Z l->J l=J f:=by
 intro f
 induction f with
 |nil=>intro l h;cases h;rfl
 |cons x f i=>
  intro l h;replace h:(aN (vw x) λp=>aN (LH p.2) λn=>gd (KA p.1&&aD n 255)<|aN (uz f) λbs=>Z<|jS n::bs)=Z l:=h;have⟨p,_,h⟩:=aM h;have⟨n,_,h⟩:=aM h;have⟨_,h⟩:=gN h;have⟨bs,I,h⟩:=aM h;cases h;simp[i I]
def Yu(f:C D)(h:∀x∈f,isByte x):all' fZ f=F:=by
 rw[all_eq,fE];intro x M;obtain⟨n,_,rfl⟩:=h x M;rfl
section lit
variable{e:aH}{z:D}{k:gm}{a b c d:Int}
def aib:bS e [z] 1 1 [(0,bq k a)] H=Z (u (Z ⟨H.bU,0,T⟩) 1 1,H.new<|rowOf e [bq k a]):=rfl
def aic:bS e [z] 1 2 [(0,bq k a),(1,bq k b)] H=Z (u (Z ⟨H.bU,0,T⟩) 2 2,H.new<|rowOf e [bq k a,bq k b]):=rfl
def adn:bS e [z] 1 3 [(0,bq k a),(1,bq k b),(2,bq k c)] H=Z (u (Z ⟨H.bU,0,T⟩) 3 3,H.new<|rowOf e [bq k a,bq k b,bq k c]):=rfl
def aid:bS e [z] 1 4 [(0,bq k a),(1,bq k b),(2,bq k c),(3,bq k d)] H=Z (u (Z ⟨H.bU,0,T⟩) 4 4,H.new<|rowOf e [bq k a,bq k b,bq k c,bq k d]):=rfl
end lit
def TM(H0:R)(L:C eB)(bs:C D)(v':D)(Q:R):Prop:=∃xs i,GB 5 1 v' (bs++xs) i/\SH [] H0 Q (i++L)/\(∀x∈xs,isByte x)/\J xs<=4/\0<J xs
def EN{K:D->R->Prop}(o:GB 5 1 v bs gb)(G:SH [] H0 H<|gb++L)(hl:J bs<=10000000){xs:C D}(y:J xs=m+1)(B:m<=3)(j:∀x∈xs,isByte x)(k:∀v' Q,TM H0 L bs v' Q->K v' Q):ME (Bo 5 1 v (u (Z ⟨H.bU,0,T⟩) (m+1)<|m+1)<|H.new<|rowOf 5 xs) K:=by
 have i:=G.grow 5 xs;have⟨v',H1,iN,I,W,h3,_⟩:=o.app (m:=m) (cx:=m+1) i N N (Yu xs j) N N;rw[I];exact k v' H1 ⟨xs,iN,W,h3,j,N,N⟩
set_option maxHeartbeats 1000000 in
theorem Nb(j:GB 5 1 v bs gb)(G:SH [] H0 H<|gb++L)(hl:J bs<=10000000)(r:Int):
 bQ Pg X 240 [v,bq bN r] H (TM H0 L bs):=by
 refine ce [0,1,4,5] ?_;refine tQ (λI=>?_) λI=>?_
 .refine ME.of aic ?_;refine EN j G hl (m:=1) O N (by intro x M;simp at M;rcases M with rfl|rfl<;>exact JA _ _) λB Q h=>?_;exact rr<|h
 .have i:∀c E,Co E 25=aR c->iG Pg X (sub rA [1,1,0,1,1,1]) (qT v (bq bN r) (u T 0 0) (bq .u32<|qd .u32 r) E H) (uB 0<|jZ Pg [.tmp 4]<|TM H0 L bs):=by
   intro c E y;refine tl ?_;rw[y];refine sD (λW=>?_) λW=>?_
   .refine ME.of adn ?_;refine EN j G hl (m:=2) O N (by intro x M;simp at M;rcases M with rfl|rfl|rfl<;>exact JA _ _) λB Q h=>?_;exact rr<|h
   .have U:∀c E,Co E 50=aR c->iG Pg X (sub rA [1,1,0,1,1,1,1,1]) (qT v (bq bN r) (u T 0 0) (bq .u32<|qd .u32 r) E H) (uB 0<|jZ Pg [.tmp 4]<|TM H0 L bs):=by
     intro c E y;refine tl ?_;rw[y];refine sD (λW=>?_) λW=>?_
     .refine ME.of aid ?_;refine EN j G hl (m:=3) O N (by intro x M;simp at M;rcases M with rfl|rfl|rfl|rfl<;>exact JA _ _) λB Q h=>?_;exact rr<|h
     .refine ME.of adn ?_;refine EN j G hl (m:=2) O N (by intro x M;simp at M;rcases M with rfl|rfl|rfl<;>first|exact Gn 239 N|exact Gn 191 N|exact Gn 189 N) λB Q h=>?_;exact rr<|h
    refine aW (λo=>?_) λo=>?_
    .exact U _ _ (by simp only[yY,Di];rfl)
    .exact U _ _ (by simp only[yY,Di];rfl)
  refine aW (λW=>?_) λW=>?_
  .exact i _ _ (by simp only[yY,Di];rfl)
  .refine aW (λo=>?_) (λo=>?_)
   .exact i _ _ (by simp only[yY,Di];rfl)
   .exact i _ _ (by simp only[yY,Di];rfl)
def KQ(i:GB 5 1 v bs gb)(G:SH [] H0 H<|gb++L)(hl:J bs<=10000000)(r:Int):
 bQ Pg X 224 [v,bq bN r] H (TM H0 L bs):=by
 refine ce [0,1,4] ?_;refine tQ (λI=>?_) λI=>?_
 .refine ME.of aib<|EN i G hl (m:=0) O N (by intro x M;simp at M;rcases M with rfl;exact TL _) λj Q h=>?_;exact rr<|h
 .exact dD (Nb i G hl r) λj Q h=>rr<|h
abbrev bu(rb:Nat)(p:aC Addr)(v:D):eB:=(rb,301,[bG p,v])
def TN(t:aH)(ox:cB)(op:tN)(a:Addr)(ht:I9 Pg t=1)(i:Av op=1):mW Pg op t ox (.const<|bG T) (bG<|Z a) (bG T)=Z (aR aA):=by
 show D6 op (aeq Pg t ox (.const<|bG T) (bG<|Z a)<|bG T)=_;show D6 op (OV (I9 Pg t) (bG T)<|bG<|Z a)=_;rw[ht];show cr (aB (Av op) 1) _ _=_;rw[i];rfl
def Q6(t:aH)(ox:cB)(op:tN)(ht:I9 Pg t=1)(i:Av op=1):mW Pg op t ox (.const<|bG T) (bG T) (bG T)=Z (aR F):=by
 show D6 op (OV (I9 Pg t) (bG T)<|bG T)=_;rw[ht];show cr (aB (Av op) 1) _ _=_;rw[i];rfl
def OD(x:D):bQ Pg X 239 [x] H (Q0 (λv=>v=x) H):=by
 refine⟨x,H,⟨1,?_⟩,O,O⟩;rfl
def Ji{P:aX}{ty s e:Nat}(i:Bk H r ty f)(h:0<J f)(j:aaY P s d=Z (3,e,0))(hs:wM P e=Z sz)(I:1<=sz):
 wC P s d (bG<|Z ⟨r,0,T⟩) H=Z (bG<|Z ⟨r,0,T⟩,H):=by
 have⟨az,e1,_,e2,_⟩:=i;unfold wC;rw[j];show(aN (wM P e) λs=>aN (xN<|H.obj r) λw=>gd (aD 1 s&&aD 1 w.n)<|Z (bG<|Z ⟨r,0,T⟩,H))=_;rw[hs,e1];show gd (aD 1 sz&&aD 1 az.n) _=_;rw[e2,aG I,aG h];rfl
def Jj{P:aX}{ty s:Nat}(i:Bk H r ty f)(j:aaY P s d=Z (4,ty,0))(hs:wM P ty=Z sz)(I:1<=sz)(h:sz<=J f):
 wC P s d (bG<|Z ⟨r,0,T⟩) H=Z (bG<|Z ⟨r,0,T⟩,H):=by
 have⟨az,e1,e3,e2,_⟩:=i;unfold wC;rw[j];show(aN (wM P ty) λs=>aN (xN<|H.obj r) λw=>gd (aD 1 s&&aB w.ty ty&&aB 0 0&&aD s w.n)<|Z (bG<|Z ⟨r,0,T⟩,H))=_;rw[hs,e1];show gd (aD 1 sz&&aB az.ty ty&&aB 0 0&&aD sz az.n) _=_;rw[e2,e3,aG I,aG h,dW];rfl
def CV.me{o:aC D}{q:aC (D×R)}{H1:R}{Kp:D->Prop}{Km:D->R->Prop}(ho:o=T)(i:q=Z (v,H1))(k:Km v H1):CV o q Kp Km:=by rw[ho,i];exact k
def ado(t:aH)(i j:Nat)(r:Nat)(ht:I_ Pg t=F):mW Pg .neq t (.tmp i) (.tmp j) (bG<|Z ⟨r,0,T⟩) (bG<|Z ⟨r,0,T⟩)=Z (aR aA):=by
 show D6 .neq (cr (I_ Pg t) (Go.Ae.ptrEq (bG<|Z ⟨r,0,T⟩)<|bG<|Z ⟨r,0,T⟩) _)=_;rw[ht];show D6 .neq (gd (aB r r)<|Z<|aB 0 0)=_;rw[dW];rfl
theorem Nf(i:p=T\/p=Z ⟨rb,0,T⟩)(G:SH [] H0 H<|bu rb p v::L):
 bQ Pg X 223 [bG (Z ⟨rb,0,T⟩)] H λw Q=>SH [] H0 Q (bu rb (Z ⟨rb,0,T⟩) v::L):=by
 refine GY [0] ?_;refine G.ld 0 O O ?_;rcases i with rfl|rfl
 .rw[Q6 _ _ _ fT O];refine bM ?_;refine CV.me fT (Ji (sz:=2) (e:=301) (G.get 0 O) (wY _) fT fT N)<|dD (OD _) ?_;rintro w Q ⟨rfl,rfl⟩;refine CV.me fT (Jj (sz:=2) (G.get 0 O) fT fT N<|ax _)<|G.st 0 O O (by show 0+1<=2;omega) rfl λj G=>?_;exact rn<|G
 .rw[TN _ _ _ _ fT O];refine bM ?_;refine G.ld 0 O O ?_;rw[ado _ _ _ _ fT];refine bM ?_;exact rn<|G
def KS(rb:Nat)(bs:C D)(A:C eB):Prop:=∃p v gb,(p=T\/p=Z ⟨rb,0,T⟩)/\GB 5 1 v bs gb/\A=bu rb p v::gb/\(∀x∈bs,isByte x)/\(bs=[]->v=u T 0 0)
def EO(hb:KS rb bs A)(G:SH [] H0 H<|A++L)(hl:J bs<=1000000)(r:Int):
 bQ Pg X 202 [bG (Z ⟨rb,0,T⟩),bq bN r] H λw Q=>(∃x y,w=fO ⟨[x,y]⟩)/\∃xs A',KS rb (bs++xs) A'/\J xs<=4/\SH [] H0 Q (A'++L):=by
 obtain⟨p,v,gb,hp,Y,rfl,E,_⟩:=hb;refine lq [0,1,4,5,6] ?_;refine dD (Nf (L:=gb++L) hp G) ?_;intro w H1 G;obtain⟨a,n,c,rfl,hn,_⟩:=Y.fl<|fU (A:=[bu rb (Z ⟨rb,0,T⟩) v]) G;refine bM ?_;refine G.ld 0 O O ?_;refine bM ?_;refine G.ld 0 O O ?_;have B:SH [] H0 H1 (gb++(bu rb (Z ⟨rb,0,T⟩) (u a n c)::L)):=G.perm jO.symm;refine dD (KQ Y B N r) ?_;rintro v' H2 ⟨xs,W,j,wD,V,U,o⟩;have xM:SH [] H0 H2 (bu rb (Z ⟨rb,0,T⟩) (u a n c)::(W++L)):=wD.perm jO;refine xM.st 0 O j.fZ.2.1 (by show 1+1<=2;omega) j.fZ.1 λH3 i=>?_;have i:SH [] H0 H3 (bu rb (Z ⟨rb,0,T⟩) v'::(W++L)):=by rw[j.fZ.2.2]at i;exact i
 refine i.ld 0 O O ?_;obtain⟨a',n',c',rfl,I,_⟩:=j.fl<|fU (A:=[bu rb (Z ⟨rb,0,T⟩) _]) i;have ab:n'=n+J xs:=by rw[aS]at I;omega
 refine bM ?_;rw[qO N N];refine bM ?_;refine rr ?_;refine⟨⟨_,_,O⟩,xs,_,⟨_,_,W,.inr O,j,O,?_,λh=>?_⟩,U,i⟩;rotate_left
 .rw[List.append_eq_nil_iff]at h;rw[h.2]at o;exact absurd o gD
 intro x M;rcases cK.1 M with h|h
 .exact E x h
 .exact V x h
theorem Iu{eY:C D}{n:Nat}(j:Bk H r 5<|bs++eY)(O:r<H.bU)(i:∀x∈bs,isByte x)(y:J bs=n+1)(o:n+1<=16777216):
 ∃s Q,yL Pg [289,3] [bG (Z ⟨r,0,T⟩),B<|n+1] H=Z (aJ s,Q)/\uz bs=Z s.data.toList/\pI [r] H Q/\Q.low<=r:=by
 have⟨az,I,W,h3,h4,h5,h6⟩:=j;have⟨l,e1,e2⟩:=adm bs i
 have M:Tr.FW top az.cells 0 (n+1)=bs:=by
  rw[acf (k:=0) az.cells (bs++eY) K4 h6];simp only[jE];rw[<-y,rV]
 have E:yL Pg [289,3] [bG (Z ⟨r,0,T⟩),B<|n+1] H=Xn Pg 289 ⟨r,0,T⟩ (n+1) H:=rfl
 have N:Xn Pg 289 ⟨r,0,T⟩ (n+1) H=aN (xN<|H.obj r) λw=>gd (JJ Pg 5&&aB w.ty 5&&aB 1 1&&aD (a_ 0<|n+1) w.n&&aD (n+1) 16777216)
  (aN (uz<|Tr.FW top w.cells 0<|n+1) λbs=>Z (aJ ⟨⟨bs⟩⟩,H.put r<|.row ⟨w.ty,w.cells,w.n,w.mR,cr (aD w.fz<|a_ 0<|n+1) (a_ 0<|n+1) w.fz⟩)):=fT
 rw[E,N,I];refine⟨⟨⟨l⟩⟩,H.put r<|.row ⟨az.ty,az.cells,az.n,az.mR,cr (aD az.fz<|a_ 0<|n+1) (a_ 0<|n+1) az.fz⟩,?_,e1,pI.put _ _ _,by rw[wT];omega⟩;show gd (JJ Pg 5&&aB az.ty 5&&aB 1 1&&aD (a_ 0<|n+1) az.n&&aD (n+1) 16777216) (aN (uz<|Tr.FW top az.cells 0<|n+1) _)=_;rw[M,e1,W,h3,show JJ Pg 5=F by kernel_rfl,aG o,aG (show a_ 0 (n+1)<=J (bs++eY) by show 0+(n+1)<=_;simp;omega)];rfl
def TP(B:KS rb bs A)(G:SH [] H0 H<|A++L)(hl:J bs<=1000000):
 bQ Pg X 200 [bG (Z ⟨rb,0,T⟩)] H λw Q=>(∃s,w=aJ s/\uz bs=Z s.data.toList)/\SH [] H0 Q L:=by
 obtain⟨p,v,gb,W,I,rfl,E,j⟩:=B;refine GY [0,2] ?_;refine G.Ov 0 O O ?_;simp only[iT G.wf];rcases I with⟨rfl,rfl,rfl⟩|⟨r,n,o,rfl,U,rfl⟩
 .refine ME.of (v:=bG T) (H:=Go.Ae.hN H) O ?_;simp only[iT G.wf];refine G.Ov 0 O O ?_;simp only[iT G.wf];refine bM ?_;refine ME.of (v:=aJ ⟨⟨[]⟩⟩) (H:=Go.Ae.hN H) fT ?_;simp only[iT G.wf];refine⟨JX ?_,?_⟩
  .simp only[fu,gJ<|Ext.refl<|hN _];rfl
  .refine rr ?_;exact⟨⟨_,O,O⟩,fU (A:=[bu rb p _]) G⟩
 .obtain⟨n,rfl⟩:∃m,n=m+1:=by
   cases n with
   |succ n=>exact⟨n,O⟩
   |zero=>
    have:bs=[]:=eU.1<|nZ U;exact absurd (j this) gD
  refine ME.of (v:=bG<|Z ⟨r,0,T⟩) (H:=Go.Ae.hN H) O ?_;simp only[iT G.wf];refine G.Ov 0 O O ?_;simp only[iT G.wf];refine bM ?_;have B:Bk (Go.Ae.hN H) r 5 (bs++o):=G.get 1 O;have V:=(G.lo (r,5,bs++o) gD).2;have⟨s,H1,e1,e2,e3,e4⟩:=Iu (n:=n) B V E N N;refine ME.of e1 ?_;have i:H1.low<H.bU:=N;simp only[fu,gJ<|Ext.refl<|hN _,X4 i];refine⟨fT,?_⟩;refine rr ?_;refine⟨⟨_,O,e2⟩,?_⟩;have y:SH [] H0 H ([bu rb p (u (Z ⟨r,0,T⟩) (n+1)<|gQ 1),(r,5,bs++o)]++L):=G;exact SH.turn (A':=[]) y (e3.draw.weaken (by intro x M;simp at M;simp[M])) (nofun) qy
end
section
def Ki(l:C UInt8):∀x∈qL l,isByte x:=by
 intro x M;rw[show qL l=l.map (λb=>bq dz<|.ofNat b.toNat)from G6 _ _]at M;rw[bP]at M;obtain⟨b,_,rfl⟩:=M;exact⟨b.toNat,by have:=b.toNat_lt;omega,rfl⟩
def Ng(l:C UInt8):J (qL l)=J l:=by rw[show qL l=l.map (λb=>bq dz<|.ofNat b.toNat)from G6 _ _];simp
def SH.ajo(G:SH [] H0 H<|(r,5,f)::L){n:Nat}(y:s.size=n)(E:J f=n){K:D->R->Prop}(k:∀H1,SH [] H0 H1 ((r,5,qL s.data.toList)::L)->K (B n) H1):ME (cpA 1 (u (Z ⟨r,0,T⟩) n n) (aJ s) H) K:=by
 have i:J s.data.toList=n:=y;have j:J (qL s.data.toList)=n:=by rw[Ng];exact i
 have⟨H1,I,W,_⟩:=G.zl (vs:=qL s.data.toList) (o:=0) 0 O N<|Yu _<|Ki _;rw[oz _ _ N]at W
 have e:cpA 1 (u (Z ⟨r,0,T⟩) n n) (aJ s) H=Z (B n,H1):=by
  show(aN (H.write r 0<|tk (bO (cr (aD (len s.data.toList) n) (len s.data.toList) n) 1)<|qL s.data.toList) λQ=>Z (bq bC<|.ofNat<|cr (aD (len s.data.toList) n) (len s.data.toList) n,Q))=_;rw[ig,i,aG<|ax n,oh,FF,dV (by show _<=n*1;omega),I];rfl
 rw[e];exact k H1 W
def adp:∀(l:C UInt8),uz (qL l)=Z l:=by
 intro l
 induction l with
 |nil=>rfl
 |cons b l i=>
  show(aN (LH<|.ofNat b.toNat) λn=>gd (KA dz&&aD n 255)<|aN (uz<|qL l) λbs=>Z<|jS n::bs)=_;rw[i];show gd (aD b.toNat 255) (Z<|jS b.toNat::l)=_;rw[aG (by have:=b.toNat_lt;omega),Bv];simp
def TQ(M:Wf H)(s:aZ)(hs:s.size<=1000000):bQ Pg X 155 [aJ s] H (Q1 (λv _=>v=aJ s) H):=by
 have G:=h_ M;refine ce [0,2,3] ?_;refine tQ (λh=>?_) λh=>?_
 .refine rr ?_;refine⟨?_,Ext.refl _⟩;have j:s.data.toList=[]:=eU.1 (show s.size=0 by omega);have⟨⟨l⟩⟩:=s;have j:l=[]:=j;subst j;rfl
 .refine G.mkS (ax _) N λU r G=>?_;refine SH.ajo G O (by rw[Ps];simp) λB G=>?_;obtain⟨n,o⟩:∃n,s.size=n+1:=⟨s.size-1,N⟩;rw[show B_ 1 (u (Z ⟨r,0,T⟩) s.size s.size) (bq bC 0)=_ from uQ (k:=0) N];refine bM ?_;have I:Bk B r 5 (qL s.data.toList++[]):=by rw[bF];exact G.get 0 O
  have J:=(G.lo _<|aL ..).2;have⟨t,H3,e1,i,e3,e4⟩:=Iu (n:=n) I J (Ki _) (by rw[Ng];exact o) N;rw[o];refine ME.of e1 ?_
  have E:t=s:=by
   rw[adp]at i;have i:=eF i;have⟨⟨l⟩⟩:=s;have⟨⟨l'⟩⟩:=t;have i:l=l':=i;rw[i]
  refine rr ?_;refine⟨by rw[E],?_⟩
  exact G.ext.later e3 (λq y=>by
   simp at y;subst y;exact .inr<|G.yV<|aL ..)
def zf(i:Wf H)(s:aZ)(hs:s.size<=1000000):bQ Pg X 126 [aJ s] H (Q1 (λv _=>v=aJ s) H):=by
 refine lq [0,2] ?_;refine dD (TQ i s hs) ?_;rintro v Q ⟨rfl,M⟩;refine rr ?_;exact⟨O,M⟩
def adq(c:Nat):∀(l:C UInt8)(k:Nat),zU c l k=T\/∃j,zU c l k=Z j/\k<=j/\∃b,l[j-k]?=Z b/\b.toNat=c:=by
 intro l
 induction l with
 |nil=>intro k;exact .inl O
 |cons b l y=>
  intro k;show cr (aB b.toNat c) (Z k) (zU c l<|dh k)=T\/∃j,cr (aB b.toNat c) (Z k) (zU c l<|dh k)=Z j/\_;cases hb:aB b.toNat c with
  |true=>exact .inr ⟨k,O,ax _,b,gD,bA hb⟩
  |false=>
   rcases y (dh k)with h|⟨j,I,W,b',i,o⟩
   .exact .inl h
   .refine .inr ⟨j,I,N,b',?_,o⟩;obtain⟨d,B⟩:∃d,j=d+k+1:=⟨j-k-1,N⟩;rw[show j-dh k=d by omega]at i;rw[show j-k=d+1 by omega,eP,i]
abbrev foundAt(s:aZ)(c:Nat)(v:D):Prop:=v=vi (-1)\/∃k:Nat,v=B k/\k<s.size/\∃b,s.data.toList[k]?=Z b/\b.toNat=c
def TR(s:aZ)(c:Nat)(B:c<=255):bQ Pg X 220 [aJ s,bq dz (c:Int)] H (Q0 (foundAt s c) H):=by
 have e:lW Pg X 1 220 [aJ s,bq dz (c:Int)] H=Z (U0<|zU c s.data.toList 0,H):=by
  have o:lW Pg X 1 220 [aJ s,bq dz (c:Int)] H=aN (gd (aD c 255&&F)<|Z (s,c)) λx=>Z (U0<|zU x.2 x.1.data.toList 0,H):=fT;rw[o,aG B];rfl
 refine⟨_,H,⟨1,e⟩,?_,O⟩;rcases adq c s.data.toList 0 with h|⟨j,h,_,b,i,y⟩
 .rw[h];exact .inl O
 .rw[h];refine .inr ⟨j,O,?_,b,i,y⟩;have:=(bI.mp i).1;have E:J s.data.toList=s.size:=rfl;omega
def TS(s:aZ)(c:Nat)(i:c<=255):bQ Pg X 196 [aJ s,bq dz (c:Int)] H (Q0 (foundAt s c) H):=by
 refine lq [0,1,4] ?_;refine dD (TR s c i) ?_;rintro v Q ⟨j,rfl⟩;refine rr ?_;exact⟨j,O⟩
def index_spec(s:aZ)(c:Nat)(i:c<=255):bQ Pg X 168 [aJ s,bq dz (c:Int)] H (Q0 (foundAt s c) H):=by
 refine lq [0,1,4] ?_;refine dD (TS s c i) ?_;rintro v Q ⟨j,rfl⟩;refine rr ?_;exact⟨j,O⟩
def iG.agl{P:aX}{X:Xt}{c:Code}{s:St}{K:Out->Prop}(h:iG P X c s K):iG P X (.seq .skip c) s K:=iG.seq ⟨_,_,Ev.skip,CL.refl _,h⟩
abbrev agm(s:aZ)(at':Nat)(v:D):Prop:=∃k:Nat,v=B k/\at'<=k/\k<=s.size
def Gp:findLabel (sub oD [1,0]) 0=Z (.seq .skip<|sub oD [1,0,1]):=fT
set_option maxHeartbeats 1000000 in
def CB(s:aZ)(o:Nat)(h0:o<=s.size)(hs:s.size<=1000000):bQ Pg X 140 [aJ s,B o] H (Q0 (agm s o) H):=by
 refine lq [0,1,4,5] ?_
 let az:Nat->Nat->St->Prop:=λn l st=>l=0/\∃(k:Nat)(y:D)(E:C<|Nat×D),k+n=s.size/\o<=k/\st=uD (aJ s) (B k) (bq bC 0) y E H
 have step:∀(n k:Nat)(y:D),k+n=s.size->o<=k->k<s.size->∀T,gtW (sub oD [1,0]) az n (jZ Pg [.tmp 4]<|Q0 (agm s o) H) (.goto 0<|uD (aJ s) (vi<|(k:Int)+1) (bq bC 0) y T H):=by
  intro n k y M i ag T;rw[MK Gp];exact⟨n-1,N,O,k+1,y,T,N,N,O⟩
 have J:∀(n k:Nat)(y:D),k+n=s.size->o<=k->∀T,iG Pg X (sub oD [1,0,1,1]) (uD (aJ s) (B k) (bq bC 0) y T H) (gtW (sub oD [1,0]) az n<|jZ Pg [.tmp 4]<|Q0 (agm s o) H):=by
  intro n k y M i T;refine tl ?_;rw[Cs N];refine bM ?_;refine dD (EM _ _) ?_;rintro v Q ⟨⟨b,rfl,W⟩,rfl⟩;refine sD (λI=>?_) λI=>?_
  .refine dD (index_spec _ 10 N) ?_;rintro v Q ⟨hv,rfl⟩;rcases hv with rfl|⟨j,rfl,hj,c,V,ab⟩
   .refine bM ?_;rw[dR N];refine bM ?_;simp only[QV];refine rr ?_;exact⟨⟨s.size,O,N,N⟩,O⟩
   .refine bM ?_;rw[rO _ N (ax _)]at hj
    have ad:j≠0:=by
     rintro rfl;have⟨r,hr⟩:=W I;rw[hr]at V;cases V
     revert ab
     decide
    rw[b_ N];refine bM ?_;rw[gB N N];refine bM ?_;rw[MK Gp];exact⟨n-j,N,O,k+j,B j,_,N,N,O⟩
  .simp only[QV];refine rr ?_;exact⟨⟨k,O,N,N⟩,O⟩
 have U:∀n(k:Nat)(y:D)(E:C<|Nat×D),k+n=s.size->o<=k->iG Pg X (sub oD [1,0,1]) (uD (aJ s) (B k) (bq bC 0) y E H) (gtW (sub oD [1,0]) az n<|jZ Pg [.tmp 4]<|Q0 (agm s o) H):=by
  intro n k y E M i;refine tp ?_;refine aW (λY=>?_) λY=>J n k y M i _;rw[uV N];refine sD (λI=>?_) λI=>?_
  .rw[gB N N];refine bM ?_;exact step n k y M i N _
  refine iI (λI=>?_) λI=>?_
  .rw[gB N N];refine bM ?_;exact step n k y M i N _
  refine iI (λI=>?_) λI=>?_
  .rw[gB N N];refine bM ?_;exact step n k y M i N _
  refine iI (λI=>?_) λI=>?_
  .rw[gB N N];refine bM ?_;exact step n k y M i N _
  exact J n k y M i _
 refine iG.scope az ?_ (s.size-o) ?_
 .rintro n l st ac ⟨rfl,k,y,E,M,i,rfl⟩ hf;rw[Gp]at hf;cases hf;exact iG.agl<|U n k y E M i
 .refine tp ?_;refine aW (λY=>?_) λY=>J _ o _ N N _;rw[uV N];refine sD (λI=>?_) λI=>?_
  .rw[gB N N];refine bM ?_;exact step (s.size-o) o _ N N N _
  refine iI (λI=>?_) λI=>?_
  .rw[gB N N];refine bM ?_;exact step (s.size-o) o _ N N N _
  refine iI (λI=>?_) λI=>?_
  .rw[gB N N];refine bM ?_;exact step (s.size-o) o _ N N N _
  refine iI (λI=>?_) λI=>?_
  .rw[gB N N];refine bM ?_;exact step (s.size-o) o _ N N N _
  exact J _ o _ N N _
end
def PR{a:Int}(h:a=b):vi a=B b:=by subst h;rfl
abbrev adr(s:aZ)(k:Nat)(v:D)(Q:R):Prop:=∃(a n:Nat)(r:Int)(ok:Bool),v=dP ⟨[B a,B n,bq bN r,aR ok]⟩/\(k<s.size->0<n)/\k+n<=s.size
def Yv(J:Wf H)(y:Dr H)(s:aZ)(k:Nat)(hk:k<=s.size):bQ Pg X 199 [aJ s,B k] H (Q1 (adr s k) H):=by
 have G:=h_ J;refine lq [0,1,4,5,6] ?_;refine G.jP λo r G=>?_;refine bM ?_;rw[dR N];refine tO (λj=>?_) λj=>?_
 .refine PU.b4 O<|G.kE λo G=>rr ?_;refine G.jC<|⟨⟨0,0,0,aA,O,N,N⟩,G.ext⟩
 .refine tl ?_;rw[Cs N];refine bM ?_;refine G.cm (TK G.wf (y.ex G.ext) _) ?_;rintro v Q ⟨x,n,rfl,I,W,U⟩ M G;have V:=rO s hk<|ax _
  have i:∀E,iG Pg X (sub adk [1,1,1,1]) (aaa (aJ s) (B k) (bG<|Z ⟨r,0,T⟩) (bq bN x) (B n) E Q) (jZ Pg [.cell 4 303]<|Q1 (adr s k) H):=by
   intro E;refine tm ?_;refine G.kE λo G=>rr ?_;exact G.jC<|⟨⟨k,n,x,F,O,N,N⟩,G.ext⟩
  refine bM ?_;refine aW (λj=>?_) λj=>i _;refine aW (λj=>?_) λj=>i _;refine fJ ?_;refine G.kE λo G=>rr ?_;exact G.jC<|⟨⟨k,1,65533,aA,O,N,N⟩,G.ext⟩
abbrev PS(s:aZ)(v:D):Prop:=∃(r:Int)(n:Nat)(b:Bool),v=fO ⟨[bq bN r,B n,aR b]⟩/\n<=s.size
theorem TU(s:aZ):bQ Pg X 222 [aJ s] H (Q0 (PS s) H):=by
 refine lq [0,2,3,4,5,6,7,8,10] ?_;have i:PS s (fO ⟨[bq bN 0,bq bC 0,aR aA]⟩):=⟨0,0,aA,O,bD _⟩;refine tO (λj=>?_) λj=>?_
 .refine rr ?_;exact⟨i,O⟩
 rw[show idS (aJ s) (bq bC 1)=_ from uV (k:=1) N];refine yx (λj=>?_) λj=>?_
 .refine rr ?_;exact⟨i,O⟩
 refine tl ?_;refine PO 5 6 7 8 (h1:=λn T U y J Q=>Q=H/\∃(r:Int)(k:Nat),T=bq bN r/\U=B k/\2<=k/\k<=s.size/\k+n=8) ?_ 6 ⟨rfl,0,2,rfl,rfl,N,N,N⟩;rintro n T U y J E Q ⟨rfl,r,k,rfl,rfl,I,W,V⟩
 have o:∀y J E,iG Pg X (sub MZ [1,1,1,1]) (KL (aJ s) (bq bN 0) (bq bC 0) (aR aA) (bq bN r) (B k) y J top E Q) (jZ Pg [.tmp 2,.tmp 3,.tmp 4]<|Q0 (PS s) Q):=by
  intro y J E;refine tQ (λj=>?_) λj=>?_
  .refine rr ?_;exact⟨i,O⟩
  refine aW (λj=>?_) λj=>?_
  .refine rr ?_;exact⟨i,O⟩
  rw[uV N];refine yx (λj=>?_) λj=>?_
  .refine rr ?_;exact⟨i,O⟩
  refine tl<|dD (TJ _) ?_;rintro v Q ⟨⟨t,b,rfl⟩,rfl⟩;refine sD (λM=>?_) λM=>?_
  .refine rr ?_;exact⟨i,O⟩
  rw[gB N N];refine bM ?_;refine rr ?_;exact⟨⟨r,k+1,F,O,N⟩,O⟩
 refine tp ?_;refine aW (λj=>?_) λj=>o _ _ _;refine aW (λY=>?_) λj=>o _ _ _;refine tl ?_;rw[uV N];refine bM ?_;refine dD (VW _) ?_;rintro v Q ⟨⟨d,b,rfl⟩,rfl⟩;refine bM ?_;refine iI (λM=>o _ _ _) λM=>?_;rw[gB N N];refine bM ?_;exact⟨n-1,N,_,_,_,_,_,_,O,O,_,k+1,O,O,N,N,N⟩
theorem Kj(s:aZ):bQ Pg X 201 [aJ s] H (Q0 (PS s) H):=by
 have o:PS s (fO ⟨[bq bN 0,bq bC 0,aR aA]⟩):=⟨0,0,aA,O,bD _⟩;refine ce [0,2,3,4,8] ?_;refine tQ (λi=>?_) λi=>?_
 .refine rr ?_;exact⟨o,O⟩
 have j:0<s.size:=by
  rcases gK s.size with h|h
  .exfalso;apply i;have⟨⟨l⟩⟩:=s;cases l with
   |nil=>rfl
   |cons a l=>cases h
  .exact h
 rw[show idS (aJ s) (bq bC 0)=_ from uV (k:=0) j];refine bM ?_
 have y:∀c E b,Co E 15=aR b->iG Pg X (sub EG [1,1,0,1,0,1,1,1,1,1,1,1]) (KJ (aJ s) (bq bN 0) (bq bC 0) (aR aA) (bq dz c) E H) (uB 0<|uW Pg X (sub EG [1,1,1])<|jZ Pg [.tmp 2,.tmp 3,.tmp 4]<|Q0 (PS s) H):=by
  intro c E b B;refine tl ?_;rw[B];refine sD (λB=>?_) λB=>?_
  .rw[show idS (aJ s) (bq bC 0)=_ from uV (k:=0) j];refine bM ?_;refine rr ?_;exact⟨⟨_,1,F,O,j⟩,O⟩
  refine aW (λi=>?_) λi=>?_
  .refine dD (TU _) ?_;rintro v Q ⟨⟨r,n,b,rfl,I⟩,rfl⟩;refine bM ?_;refine rr ?_;exact⟨⟨r,n,b,O,I⟩,O⟩
  .refine tl<|rr ?_;exact⟨o,O⟩
 refine aW (λi=>?_) λi=>?_
 .refine rr ?_;exact⟨⟨10,1,F,O,j⟩,O⟩
 refine aW (λi=>?_) λi=>?_
 .refine rr ?_;exact⟨⟨9,1,F,O,j⟩,O⟩
 refine aW (λi=>?_) λi=>?_
 .refine rr ?_;exact⟨⟨13,1,F,O,j⟩,O⟩
 repeat' (first|(refine aW (λi=>?_) λi=>?_))
 all_goals exact y _ _ _ (by(try simp only[PP,Nat.reduceBEq]);rfl)
abbrev ajp(s:aZ)(k:Nat)(v:D)(Q:R):Prop:=∃(r:Int)(n:Nat)(e:Int),v=fO ⟨[bq bN r,B n,vi e]⟩/\k+n<=s.size/\(e=0->0<n)
def PT(j:Wf H)(y:Dr H)(s:aZ)(k:Nat)(hk:k<s.size)(hs:s.size<=1000000):bQ Pg X 225 [aJ s,B k] H (Q1 (ajp s k) H):=by
 have G:=h_ j;refine lq [0,1,4,5,6,7,8,9,10] ?_;refine G.cm (Yv j y s k N) ?_;rintro v Q ⟨a,n,r,ok,rfl,I,W⟩ M G;refine G.jP λo U G=>?_;refine G.lJ ?_;refine G.kE λo G=>?_;refine QX (λi=>?_) λi=>?_
 .refine rr ?_;exact⟨⟨0,0,11,O,N,λh=>by cases h⟩,G.ext⟩
 refine Ow (λi=>?_) λi=>?_
 .refine fJ ?_;refine rr ?_;exact⟨⟨r,n,0,O,W,λ_=>I hk⟩,G.ext⟩
 rw[gB N N];refine bM ?_;rw[show slT (aJ s) (Z<|vi<|(k:Int)+1) T T=_ from Cs (lo:=k+1) N];refine bM ?_;refine dD (Kj _) ?_;rintro v Q ⟨⟨x,m,b,rfl,E⟩,rfl⟩;have J:=rO s (lo:=k+1) (hi:=s.size) N<|ax _;refine sD (λi=>?_) λi=>?_
 .refine rr ?_;exact⟨⟨0,0,12,O,N,λh=>by cases h⟩,G.ext⟩
 rw[gB N N];refine bM ?_;refine rr ?_;exact⟨⟨x,m+1,0,by rw[PR (show 1+(m:Int)=((m+1:Nat):Int) by omega)],N,λ_=>N⟩,G.ext⟩
section
def BI(m:Nat)(H:R)(v:D):Prop:=∃a n c f,v=u a n c/\Fl H a n 2 f/\n<=m/\∀x∈f,∃z:Int,x=bq bN z
def jr(b m:Nat)(H:R)(v:D):Prop:=∃a n c f,v=u a n c/\jJ (b<=·) 331 H a n 2 f/\n<=m/\∀x∈f,∃z:Int,x=bq bN z
def BI.nil(m:Nat)(H:R):BI m H (u T 0 0):=⟨T,0,0,[],O,Fl.nil _ _ _,N,λx h=>by cases h⟩
def jr.nil(b m:Nat)(H:R):jr b m H (u T 0 0):=⟨T,0,0,[],O,jJ.nil _ _ _ _ _,N,λx h=>by cases h⟩
def jr.i(h:jr b m H v):BI m H v:=by
 have⟨a,n,c,f,I,W,h3⟩:=h;exact⟨a,n,c,f,I,W.1,h3⟩
def jr.stay{S:C Nat}(h:jr b m H v)(M:pI S H Q)(G:∀q∈S,q<b\/¬Ah H q 331):jr b m Q v:=by
 have⟨a,n,c,f,I,W,h3⟩:=h;exact⟨a,n,c,f,I,W.stay M λq i=>(G q i).imp_left fH,h3⟩
def jr.ex(h:jr b m H v)(M:Ext H Q):jr b m Q v:=h.stay M<|nofun
def jr.le{m':Nat}(h:jr b m H v)(j:m<=m')(i:b'<=b):jr b' m' H v:=by
 have⟨a,n,c,f,I,W,h3,h4⟩:=h;exact⟨a,n,c,f,I,W.le i,N,h4⟩
def Tok(b:Nat)(H:R)(lo hi:Nat)(v:D):Prop:=∃(kd:Int)(a e:Nat)(t:aZ)(i:D),v=dP ⟨[vi kd,B a,B e,aJ t,i]⟩/\lo<e/\e<=hi/\a<=hi/\t.size<=1000000/\jr b 20000 H i
abbrev Iv(b:Nat)(s:aZ)(k:Nat)(v:D)(Q:R):Prop:=∃(tok:D)(cd:Int)(at':Nat),v=fO ⟨[tok,dP ⟨[vi cd,B at']⟩]⟩/\(∃kd a e t i,tok=dP ⟨[vi kd,B a,B e,aJ t,i]⟩/\(∃x n c,i=u x n c))/\(cd=0->Tok b Q k s.size tok)
def aad(Y:Wf H)(s:aZ)(k:Nat)(hk:k<s.size)(hs:s.size<=1000000):bQ Pg X 170 [aJ s,B k] H (Q1 (Iv H.bU s k) H):=by
 have G:=h_ Y;refine lq [0,1,4,5,6,7] ?_;refine G.jP λj U G=>?_;refine G.jP λj J G=>?_;rw[gB N N];refine G.lJ ?_;refine VQ 6 (h1:=λn V Q=>Q=j/\∃e:Nat,V=B e/\e+n=s.size/\k<e) ?_ (s.size-(k+1)) ⟨rfl,k+1,rfl,N,N⟩;rintro n V E Q ⟨rfl,e,rfl,I,W⟩
 have i:∀E,iG Pg X (sub MY [1,1,1]) (Kg (aJ s) (B k) (bG<|Z ⟨U,0,T⟩) (bG<|Z ⟨J,0,T⟩) (B e) top E Q) (jZ Pg [.cell 4 221,.cell 5 173]<|Q1 (Iv H.bU s k) H):=by
  intro E;refine tl ?_;rw[qO N N];refine G.lJ ?_;refine aW (λy=>?_) λy=>?_
  .refine fJ ?_;refine G.kE λj G=>?_;refine G.kE λj G=>?_;refine rr ?_;refine fJ ?_;exact⟨⟨_,3,k,O,⟨_,0,0,_,_,O,_,_,_,O⟩,λh=>by cases h⟩,G.ext⟩
  rw[uV N];refine G.lJ ?_;refine dD (M_ _) ?_;rintro v Q ⟨⟨b,rfl⟩,rfl⟩;refine G.lJ ?_
  have i:∀(kd:Int) E,iG Pg X (sub MY [1,1,1,1,1,1]) (Kg (aJ s) (B k) (bG<|Z ⟨U,0,T⟩) (bG<|Z ⟨J,0,T⟩) (B e) (vi kd) E Q) (jZ Pg [.cell 4 221,.cell 5 173]<|Q1 (Iv H.bU s k) H):=by
   intro kd E;refine tl ?_;rw[Eu N N];refine G.lJ ?_;have hp:=rO s (lo:=k) (hi:=e) N N;refine G.cm (zf G.wf _ N) ?_;rintro v Q rfl M G;refine fJ ?_;refine G.kE λj G=>?_;refine G.kE λj G=>?_;refine rr ?_;refine fJ ?_;exact⟨⟨_,0,0,O,⟨_,_,_,_,_,O,_,_,_,O⟩,λ_=>⟨kd,k,e,_,_,rfl,N,N,N,N,jr.nil _ _ _⟩⟩,G.ext⟩
  refine iI (λo=>?_) λo=>?_
  .exact i 1 _
  .exact i 2 _
 refine tp ?_;refine aW (λy=>?_) λy=>i _;rw[uV N];refine bM ?_;refine dD (TI _) ?_;rintro v Q ⟨⟨b,rfl⟩,rfl⟩;refine bM ?_;refine iI (λo=>?_) λo=>i _;rw[gB N N];refine bM ?_;exact⟨n-1,N,_,_,_,O,O,e+1,O,N,N⟩
def KS.new(rb:Nat):KS rb [] [bu rb T (u T 0 0)]:=⟨T,u T 0 0,[],.inl O,GB.nil _ _,O,nofun,λ_=>rfl⟩
set_option maxHeartbeats 1000000 in
def Q7(hw:Wf H)(hT:Dr H)(s:aZ)(k:Nat)(hk:k<s.size)(hs:s.size<=20000):bQ Pg X 171 [aJ s,B k] H (Q1 (Iv H.bU s k) H):=by
 have G:=h_ hw;refine lq [0,1,4,5,6,7,8,9,10,11] ?_;refine G.jP λi rt G=>?_;refine G.jP λi Y G=>?_;refine G.jP λi rb G=>?_;rw[gB N N];refine G.lJ ?_
 refine Yt 7 8 9 10 11 (h1:=λn x7 x8 x9 j_ je Q=>∃p bs A,x7=B p/\p+n=s.size/\k+1<=p/\KS rb bs A/\J bs<=4*p/\SH [] H Q ((Y,173,[bq bC 0,bq bC 0])::(rt,221,[bq bC 0,bq bC 0,bq bC 0,aJ<|dJ #[],u T 0 0])::A)) ?_ (s.size-(k+1))
  ⟨k+1,[],_,rfl,N,N,KS.new rb,gD,G.perm<|(gX _ _ _).trans<|eX _<|gX _ _ _⟩
 rintro n x7 x8 x9 j_ je E Q ⟨p,bs,A,rfl,I,W,ao,ap,G⟩;refine lX (λhc=>?_) λhc=>?_
 .refine tm ?_;refine G.kE λi G=>?_;refine G.kE λi G=>?_;refine rr ?_;refine fJ ?_;exact⟨⟨_,10,k,O,⟨_,0,0,_,_,O,_,_,_,O⟩,λh=>by cases h⟩,G.ext⟩
 refine G.cm (Yv G.wf (hT.ex G.ext) s p N) ?_;rintro v Q ⟨a,m,r,ok,rfl,h3,h4⟩ M G;refine G.jP λi ri G=>?_;refine G.lJ ?_;refine G.kE λi G=>?_;refine fJ ?_;have ac:∀{cd:Int}{e:Nat}{an:R},cd≠0->Iv H.bU s k (fO ⟨[dP ⟨[bq bC 0,bq bC 0,bq bC 0,aJ<|dJ #[],u T 0 0]⟩,dP ⟨[vi cd,B e]⟩]⟩) an:=λh=>⟨_,_,_,rfl,⟨_,0,0,_,_,rfl,_,_,_,rfl⟩,λg=>absurd g h⟩
 have ab:∀{H2:R}{o A'}{q:Nat},KS rb (bs++o) A'->J o<=4->p+1<=q->q<=s.size->SH [] H H2 (A'++(ri,303,[B a,B m,bq bN r,aR ok])::(Y,173,[bq bC 0,bq bC 0])::[(rt,221,[bq bC 0,bq bC 0,bq bC 0,aJ<|dJ #[],u T 0 0])])->
  ∃n',n'<n/\∃bs A,q+n'=s.size/\k+1<=q/\KS rb bs A/\J bs<=4*q/\SH [] H H2 ((Y,173,[bq bC 0,bq bC 0])::(rt,221,[bq bC 0,bq bC 0,bq bC 0,aJ<|dJ #[],u T 0 0])::A):=λ{H2 o A' q} V hl hq aq G=>
  ⟨s.size-q,N,_,_,N,N,V,by rw[aS];omega,fU (A:=[_])<|G.perm aI⟩
 have Nc:∀E b,Co E 40=aR b->iG Pg X (sub zm [1,1,0,1,0,0,1,0,1,0,1,1,1]) (AR (aJ s) (B k) (bG<|Z ⟨rt,0,T⟩) (bG<|Z ⟨Y,0,T⟩) (bG<|Z ⟨rb,0,T⟩) (B p) (bG<|Z ⟨ri,0,T⟩) x9 j_ je E i)
  (uB 2<|uB 1<|IW (zI (aJ s) (B k) (bG<|Z ⟨rt,0,T⟩) (bG<|Z ⟨Y,0,T⟩) (bG<|Z ⟨rb,0,T⟩) λn x7 x8 x9 j_ je Q=>∃p bs A,x7=B p/\p+n=s.size/\k+1<=p/\KS rb bs A/\J bs<=4*p/\SH [] H Q ((Y,173,[bq bC 0,bq bC 0])::(rt,221,[bq bC 0,bq bC 0,bq bC 0,aJ<|dJ #[],u T 0 0])::A)) n<|uB 0<|uW Pg X (sub zm [1,1,1])<|jZ Pg [.cell 4 221,.cell 5 173]<|Q1 (Iv H.bU s k) H):=by
  intro E b U;have ag:KS rb bs A:=ao;have ad:SH [] H i (A++(ri,303,[B a,B m,bq bN r,aR ok])::(Y,173,[bq bC 0,bq bC 0])::[(rt,221,[bq bC 0,bq bC 0,bq bC 0,aJ<|dJ #[],u T 0 0])]):=G.perm<|aI (l₁:=[_,_,_]);refine tl ?_;rw[U];refine G.lJ ?_;refine iI (λU=>?_) λU=>?_
  .refine fJ ?_;refine G.kE λi G=>?_;refine G.kE λi G=>?_;refine rr ?_;refine fJ ?_;exact⟨ac N,G.ext⟩
  refine yz (λhc=>?_) λhc=>?_
  .rw[gB N N];refine G.lJ ?_;refine dD (TP ag ad N) ?_;rintro v Q ⟨⟨t,rfl,ht⟩,G⟩;have hts:t.size=J bs:=VX ht;refine fJ ?_;refine G.kE λi G=>?_;refine G.kE λi G=>?_;refine rr ?_;refine fJ ?_;exact⟨⟨_,0,0,O,⟨_,_,_,_,_,O,_,_,_,O⟩,λ_=>⟨3,k,p+1,t,_,rfl,N,N,N,N,jr.nil _ _ _⟩⟩,G.ext⟩
  refine yz (λhc=>?_) λhc=>?_
  .rw[gB N N];refine G.lJ ?_;rw[show slT (aJ s) (Z<|vi<|(p:Int)+1) T T=_ from Cs (lo:=p+1) N];refine G.lJ ?_;refine dD (Kj _) ?_;rintro v Q ⟨⟨x,j,b,rfl,hj⟩,rfl⟩;have hp:=rO s (lo:=p+1) (hi:=s.size) N<|ax _;refine G.lJ ?_;refine iI (λU=>?_) λU=>?_
   .refine fJ ?_;refine G.kE λi G=>?_;refine G.kE λi G=>?_;refine rr ?_;refine fJ ?_;exact⟨ac N,G.ext⟩
   refine dD (EO ag ad N _) ?_;rintro v Q ⟨⟨y,z,rfl⟩,xs,A',V,al,G⟩;rw[gB N N];refine G.lJ ?_;rw[gB N N];refine G.lJ ?_;rw[PR (show(p:Int)+(1+(j:Int))=((p+1+j:Nat):Int) by omega)];have⟨n',h5,o,A'',h6⟩:=ab V al (q:=p+1+j) N N G;exact⟨n',h5,_,_,_,_,_,_,_,O,_,o,A'',O,h6⟩
  .refine G.qF<|dD (EO ag ad N _) ?_;rintro v Q ⟨⟨y,z,rfl⟩,xs,A',V,al,G⟩;have wD:=G;have G:=G.perm<|aI (l₂:=[_,_,_]);simp only[bV,bZ]at G;apply G.qF;rw[gB N N];refine G.lJ ?_;rw[PR (show(p:Int)+(m:Int)=((p+m:Nat):Int) by omega)];have⟨n',h5,o,A'',h6⟩:=ab V al (q:=p+m) N N wD;exact⟨n',h5,_,_,_,_,_,_,_,O,_,o,A'',O,h6⟩
 have am:∀E b,Co E 28=aR b->iG Pg X (sub zm [1,1,0,1,0,0,1,0,1,0,1]) (AR (aJ s) (B k) (bG<|Z ⟨rt,0,T⟩) (bG<|Z ⟨Y,0,T⟩) (bG<|Z ⟨rb,0,T⟩) (B p) (bG<|Z ⟨ri,0,T⟩) x9 j_ je E i)
  (uB 2<|uB 1<|IW (zI (aJ s) (B k) (bG<|Z ⟨rt,0,T⟩) (bG<|Z ⟨Y,0,T⟩) (bG<|Z ⟨rb,0,T⟩) λn x7 x8 x9 j_ je Q=>∃p bs A,x7=B p/\p+n=s.size/\k+1<=p/\KS rb bs A/\J bs<=4*p/\SH [] H Q ((Y,173,[bq bC 0,bq bC 0])::(rt,221,[bq bC 0,bq bC 0,bq bC 0,aJ<|dJ #[],u T 0 0])::A)) n<|uB 0<|uW Pg X (sub zm [1,1,1])<|jZ Pg [.cell 4 221,.cell 5 173]<|Q1 (Iv H.bU s k) H):=by
  intro E b U;refine tl ?_;rw[U];refine G.lJ ?_;refine iI (λU=>?_) λU=>?_
  .refine fJ ?_;refine G.kE λi G=>?_;refine G.kE λi G=>?_;refine rr ?_;refine fJ ?_;exact⟨ac N,G.ext⟩
  refine yz (λhc=>?_) λhc=>?_
  .rw[gB N N];refine G.lJ ?_;exact Nc _ _ (by refine bM ?_;rfl)
  .exact Nc _ _ (by refine bM ?_;rfl)
 refine iI (λU=>?_) λU=>?_
 .exact am _ _ (by refine bM ?_;rfl)
 refine fJ ?_;exact am _ _ (by refine bM ?_;rfl)
end
section
variable{H':Int->Prop}{ty:aH}{n:Nat}
abbrev isLen(x:Int)(v:D):Prop:=∃l:Nat,v=B l/\l<=32/\(1<=x->((2^l:Nat):Int)<=2*x)
def VY(x:Int)(Y:0<=x)(I:x<=16777216):bQ Pg X 218 [bq fB x] H (Q0 (isLen x) H):=by
 refine lq [0,2] ?_;refine dA Cq ?_;rw[dR N];refine bM ?_;refine iG.yD λK hK=>?_
 have i:∀(y:Int)(k p:Nat) E,0<=y->y<256->k<=24->2^k=p->(1<=x->1<=y/\p*y<=x)->iG Pg X (sub Ip [1,1,1,1]) (Gm (bq fB y) (B k) E H) K:=by
  intro y k p E W h3 h4 hp h5;subst hK;refine tl ?_;rw[Lf,Ew<|u8_in N];refine dA O ?_;refine PU.aje fT W h3 λt ht J=>?_;rw[Lf,yX N N];refine dA O ?_;refine eG ?_;refine rr ?_;refine⟨⟨k+t,O,N,λM=>?_⟩,rfl⟩;have⟨h6,h7⟩:=h5 M;have h8:=J h6;have h9:((2^(k+t):Nat):Int)=(p:Int)*((2^t:Nat):Int):=by rw[Nat.pow_add,hp];simp
  rw[h9];have ab:(p:Int)*((2^t:Nat):Int)<=p*(2*y):=Int.mul_le_mul_of_nonneg_left h8 N;have ac:(p:Int)*(2*y)=2*(p*y):=by rw[Int.mul_left_comm]
  omega
 have U:∀(a:Int)(n:Nat),0<=a->0<n->a.fdiv ((n:Nat):Int)=a/n:=λa n j hn=>tX a N
 have T:∀a:Int,0<=a->F_ fB a 16=a/65536:=λa j=>by
  rw[show(16:Int)=((16:Nat):Int)from O,X7 N jq];exact U a 65536 j N
 have V:∀a:Int,0<=a->F_ fB a 8=a/256:=λa j=>by
  rw[show(8:Int)=((8:Nat):Int)from O,X7 N jq];exact U a 256 j N
 refine tl<|dA Cq<|aW (λhc=>?_) λhc=>?_
 .refine dA (xK N) ?_;rw[T _ Y];refine eG ?_;refine tl<|dA Cq<|aW (λo=>?_) λo=>?_
  .refine dA (xK N) ?_;rw[V _ N];refine eG ?_;exact i _ 24 16777216 _ N N N O λ_=>N
  .exact i _ 16 65536 _ N N N O λ_=>N
 .refine tl<|dA Cq<|aW (λo=>?_) (λo=>?_)
  .refine dA (xK N) ?_;rw[V _ N];refine eG ?_;exact i _ 8 256 _ N N N O λ_=>N
  .exact i _ 0 1 _ N N N O λ_=>N
def Nh(x:Int)(i:0<=x)(I:x<=16777216):bQ Pg X 191 [bq fB x] H (Q0 (isLen x) H):=by
 refine lq [0,2] ?_;refine dD (VY x i I) ?_;rintro _ _ ⟨⟨l,rfl,W,j⟩,rfl⟩;refine rr ?_;exact⟨⟨l,O,W,j⟩,O⟩
abbrev Nm(H':Int->Prop)(r:Nat)(ty:aH)(n:Nat):=SB (Jr H') r ty 1 n
abbrev sl(r n c:Nat):D:=u (Z ⟨r,0,T⟩) n c
abbrev Rg(r:Nat)(ty:aH)(n:Nat):=SB Tu r ty 2 n
end
section
def VZ(v cv:D):bQ Pg X 251 [v,vi 0,vi 0,cv] H λ_ Q=>Q=H:=by
 refine lq [0,1,2,3,8,9] ?_;refine eG ?_;refine lp2 8 9 (h1:=λm i j Q=>i=vi 1/\Q=H) ?_ 0 ⟨rfl,rfl⟩;rintro m i j E Q ⟨rfl,rfl⟩;refine tp ?_;rw[dR N];refine bM ?_;refine rn ?_;exact O
def al8(a:aC Addr)(c:Nat)(cv l:D):bQ Pg X 249 [u a 0 c,vi 0,vi 0,l,cv] H λ_ Q=>Q=H:=by
 refine lq [0,1,2,3,4,10,11,12,13,14,15,16,17,18,19,20] ?_;refine alZ 1 2 3 10 11 12 13 14 15 16 17 18 19 20 (h1:=λk i j W Y x9 B I T J V M U y o Q=>i=vi 0/\j=vi 0/\Q=H) ?_ 0 ⟨rfl,rfl,rfl⟩;rintro k i j W Y x9 B I T J V M U y o E Q ⟨rfl,rfl,rfl⟩;refine tl ?_;refine q_ ?_;refine bM ?_;rw[b_ N];refine bM ?_;refine dD (VZ _ _) ?_;rintro _ _ rfl;refine rr ?_;exact O
abbrev al9:D:=.func (.func 242) ⟨[]⟩ ⟨[]⟩
def V2{ty:aH}{n:Nat}(o:n<=1000000)(i:Rg r ty n H0 H L):bQ Pg X 241 [sl r n c,al9] H λv Q=>Rg r ty n H0 Q L:=by
 refine GY [0,1,4] ?_;rw[Ew (u64_in N)];refine dD (Nh _ N N) ?_;rintro v Q ⟨⟨l,rfl,I,_⟩,rfl⟩;obtain _|m:=n
 .refine dD (al8 _ _ _ _) ?_;rintro v j rfl;exact rn<|i
 have⟨j,e,i⟩:=SB.al2 (cv:=al9) (c:=c) (l:=l) N N i;exact bQ.orc (v:=fO ⟨[]⟩) (Q:=j) e<|rn<|i
def ajq(cv:D):bQ Pg X 241 [u T 0 0,cv] H λv Q=>Q=H:=by
 refine GY [0,1,4] ?_;rw[Ew (u64_in N)];refine dD (Nh _ N N) ?_;rintro v Q ⟨⟨l,rfl,I,_⟩,rfl⟩;refine dD (al8 _ _ _ _) ?_;rintro v i rfl;refine rn ?_;exact O
def V3(h:∀i,i<2->∃z:Int,f[k*2+i]?=Z (bq bN z)):Tu (El f 2 k):=by
 have⟨a,ha⟩:=h 0 N;have⟨b,hb⟩:=h 1 N;refine⟨a,b,?_⟩;apply iV;intro i;rw[oL]
 match i with
 |0=>rw[if_pos N,ha];rfl
 |1=>rw[if_pos N,hb];rfl
 |i+2=>rw[if_neg N];rfl
def Q8{i:Nat}(h:Tu<|El f 2 k)(hi:i<2):∃z:Int,f[k*2+i]?=Z (bq bN z):=by
 have⟨a,b,e⟩:=h;have I:=oL f 2 k i;rw[if_pos hi,e]at I
 match i,hi with
 |0,_=>exact⟨a,I.symm⟩
 |1,_=>exact⟨b,I.symm⟩
section fields
variable{ty:aH}{n:Nat}{K:D->R->Prop}
def SB.rf(h:SB Tu r ty 2 n H0 H L)(j:0<=z)(o:z<n)(i:cs<2)(k:∀a,K (bq bN a) H):ME (wR T (bG<|Z ⟨r,z.toNat*2+cs,T⟩) H) K:=by
 have⟨f,G,hp,hl⟩:=h.row (k:=z.toNat) N;have⟨a,ha⟩:=Q8 hp i;exact G.ld 0 O ha<|k a
def SB.rfQ(h:SB Tu r ty 2 n H0 H L)(i:0<=z)(o:z<n)(j:cs<2)(k:∀a,K (bq bN a)<|hN H):ME (wR T (bG<|Z ⟨r,z.toNat*2+cs,T⟩)<|hN H) K:=SB.rf h.zD i o j k
def SB.an4(h:SB Tu r ty 2 n H0 H L)(M:0<=z)(V:z<n)(U:cs<2){a:Int}(k:∀H1,SB Tu r ty 2 n H0 (hM H H1) L->K undef H1):ME (Es 1 (bG<|Z ⟨r,z.toNat*2+cs,T⟩) (bq bN a)<|hN H) K:=by
 have⟨f,I,W,G⟩:=h;have o:z.toNat*2+cs+1<=J f:=N;refine G.stQ 0 O O o O λH1 G=>k H1 ⟨splice f (z.toNat*2+cs) [bq bN a],?_,λj E=>?_,G⟩
 .rw[og (nZ o)];exact I
 .refine V3 λi B=>?_;rw[sN (nZ o)];split
  .next y=>
   rw[show j*2+i-(z.toNat*2+cs)=0 by simp at y;omega];exact⟨a,O⟩
  .exact Q8 (W j E) B
end fields
abbrev OE(f:C D):Prop:=∀x∈f,∃z:Int,x=bq bN z
def TV(h:OE f)(hk:k*2+2<=J f):Tu (El f 2 k):=by
 have e:El f 2 k=[f[k*2],f[k*2+1]]:=by
  unfold El;rw[eO N,eO N];rfl
 have⟨a,ha⟩:=h f[k*2]<|bH _;have⟨b,hb⟩:=h f[k*2+1]<|bH _;exact⟨a,b,by rw[e,ha,hb]⟩
def OE.app(h:OE f)(a b:Int):OE (f++[bq bN a,bq bN b]):=by
 intro x M;rcases cK.1 M with M|M
 .exact h x M
 .simp at M;rcases M with rfl|rfl
  .exact⟨_,O⟩
  .exact⟨_,O⟩
def Q9{n:Nat}(hl:J f=n*2)(h:∀k,k<n->Tu (El f 2 k)):OE f:=by
 intro x M;obtain⟨i,j,rfl⟩:=iO M;have⟨a,b,e⟩:=h (i/2) N;have I:=oL f 2 (i/2)<|i %2;rw[if_pos (o9 _ N),show i/2*2+i %2=i by omega,av j,e]at I;have:i %2=0\/i %2=1:=N;rcases this with W|W
 .rw[W]at I;exact⟨a,(eF I).symm⟩
 .rw[W]at I;exact⟨b,(eF I).symm⟩
def Kk(U:Wf H){K:Nat}(W:K<=1000000)(T:BI K H v):bQ Pg X 244 [v] H (Q1 (λv Q=>jr H.bU K Q v) H):=by
 obtain⟨a,n,c,f,rfl,I,M,J⟩:=T;have G:=h_ U;refine lq [0,2] ?_;rw[Ey fT];refine sD (λE=>?_) λE=>?_
 .refine rr ?_;exact⟨jr.nil _ _ _,Ext.refl _⟩
 .refine ME.of (ajh N) ?_;have G:=G.grow 331 [];have o:=G.ext.bU;refine G.VJ N (.inr ⟨_,O⟩) (I.ex G.ext) N λy B V L' j i=>rr ?_;exact⟨⟨y,n,B,f,O,j.le o,M,J⟩,i.ext⟩
set_option maxHeartbeats 8000000 in
theorem Gq(hw:Wf H)(ac:KM<=1000000)(hv:BI KM H v):bQ Pg X 226 [v] H (Q1 (λv Q=>jr H.bU KM Q v) H):=by
 obtain⟨a,n,c,f,rfl,hf,hn,Y⟩:=hv;have G:=h_ hw;refine GY [0,2,3,5,6,8,9,10,11,35,36,37] ?_;refine Ik 3 5 11 (h1:=λm x3 x5 je Q=>∃(k:Nat)(ds:C D)(gb:C eB),je=B k/\k+m=n/\GB 331 2 x3 ds gb/\J ds<=2*k/\OE ds/\SH [] H Q (gb++[])) ?_ n ⟨0,[],[],rfl,N,GB.nil _ _,gD,nofun,G⟩;rintro m x3 x5 je E Q ⟨k,ds,gb,rfl,hk,hg,am,V,G⟩;refine iG.yD λK hK=>?_;refine tQ (λhc=>?_) λhc=>?_
 .have⟨r,o,e,hr,hrd,hel,_⟩:=hf.read N (show k<n by omega) c;rw[e];refine bM ?_;have⟨z1,z2,ez⟩:=TV Y (k:=k) (by rw[hf.1];omega);rw[ez]at hrd;refine G.BU hrd hr<|G.jP λH1 r1 G=>?_
  repeat(first|(refine G.lJ ?_)|(refine G.qF ?_)|(refine G.kE λHn G=>?_))
  subst hK;refine aW (λhd=>?_) λhd=>?_
  .refine fJ ?_;refine G.bS O O O N λH2 rx G=>?_;have G:SH [] H H2 ((rx,331,[bq bN (max z1 0),bq bN<|min z2 1114111])::(r1,331,[bq bN (max z1 0),bq bN<|min z2 1114111])::(gb++[])):=G;have G:SH [] H H2 ((rx,331,[bq bN (max z1 0),bq bN<|min z2 1114111])::(gb++[(r1,331,[bq bN (max z1 0),bq bN<|min z2 1114111])])):=G.perm<|eX _ (by simpa using(aI (l₁:=[_]) (l₂:=gb)));refine hg.add G N O O N λv' H3 iN an al M=>?_;rw[gB N N];refine bM ?_;refine⟨m-1,N,_,_,_,_,_,O,k+1,_,iN,O,N,an,by simp;omega,V.app _ _,?_⟩;exact by simpa using fU (A:=[_]) (al.perm<|aI (l₂:=[_]))
  .rw[gB N N];refine bM ?_;refine⟨m-1,N,_,_,_,_,_,O,k+1,ds,gb,O,N,hg,N,V,?_⟩;exact fU (A:=[_]) G
 .subst hK;refine bM ?_;refine tl ?_;rcases hg with⟨rfl,rfl,rfl⟩|⟨r,y,eY,rfl,ao,rfl⟩
  .refine dD (ajq _) ?_;rintro _ H1 e;have e:=e.symm;subst e;refine bM ?_;refine Ik 6 8 37 (h1:=λm x6 x8 Cb H2=>H2=Q/\x6=vi 0/\Cb=vi 0) ?_ 0 ⟨rfl,rfl,rfl⟩;rintro m x6 x8 Cb E H2 ⟨rfl,rfl,rfl⟩;refine tp ?_;rw[dR N];refine bM ?_;refine tl<|dA (QW)<|dD (Kk G.wf ac<|BI.nil _ _) ?_;rintro v H3 ⟨hv,M⟩;refine rr ?_;exact⟨hv.le (ax _) G.ext.bU,G.ext.trans M⟩
  .have j:Rg r 331 y H Q []:=⟨ds++eY,by simp;omega,λk hk=>V3 λi Y=>?_,G⟩;rotate_left
   .rw[bX N,av N];have⟨z,hz⟩:=V ds[k*2+i]<|bH _;exact⟨z,by rw[hz]⟩
   have aE:y<=KM:=N;refine dD (V2 N j) ?_;clear j G V ao eY ds am;rintro _ H2 j;refine bM ?_;refine Ik 6 8 37 (h1:=λm x6 x8 Cb H2=>∃(w k:Nat),x6=B w/\Cb=B k/\w<=k/\k+m=y/\Rg r 331 y H H2 []) ?_ y ⟨0,0,rfl,rfl,N,N,j⟩;clear j;rintro m2 x6 x8 Cb E H3 ⟨w,k2,rfl,rfl,a0,ar,j⟩;refine iG.yD λK hK=>?_
   have nx:∀(w:Nat) x8 E H4,w<=k2+1->k2<y->Rg r 331 y H H4 []->iG Pg X (sub pP [1,1,1,1,1,0,1,0,0,1,1,1]) (xD (u a n c) (u T 0 0) (sl r y<|gQ 2) x5 (B w) x8 (u a n c) (B n) (B k) (sl r y<|gQ 2) (B y) (B k2) E H4) K:=by
    intro w x8 E H4 I W j;subst hK;refine tl ?_;rw[gB N N];refine bM ?_;exact⟨m2-1,N,_,_,_,_,_,O,w,k2+1,O,O,N,N,j⟩
   refine lX (λhc=>?_) λhc=>?_
   .subst hK;refine bM ?_;refine tl<|dA (BV (show w<=y by omega)) ?_;have⟨es,g1,g2,G⟩:=j
    have ad:Fl H3 (Z ⟨r,0,T⟩) w 2 (es.take<|w*2):=⟨by simp;omega,λi x Y=>⟨r,0,rfl,(G.lo _<|aL ..).2,by
     rw[bB];refine(G.get 0 O).cell ?_;rw[iB]at Y;split at Y
     .exact Y
     .cases Y⟩⟩
    have hR:BI KM H3 (u (Z ⟨r,0,T⟩) w<|gQ 2):=⟨_,w,_,_,O,ad,N,Q9 ad.1 λk hk=>V3 λi Y=>by
     rw[iB,if_pos N];exact Q8 (g2 k N) Y⟩
    refine dD (Kk G.wf ac hR) ?_;rintro v H4 ⟨hv,M⟩;refine rr ?_;exact⟨hv.le (ax _) G.ext.bU,G.ext.trans M⟩
   refine PK ?_;simp only[bB];refine j.r1 N N λza zb=>j.new λH4 r1 j=>j.st 0 O O (aF O) O λH5 j=>?_;have j:SB Tu r 331 2 y H H5 [(r1,331,[bq bN za,bq bN zb])]:=j
   have aq:∀E U,SB Tu r 331 2 y H U [(r1,331,[bq bN za,bq bN zb])]->iG Pg X (sub pP [1,1,1,1,1,0,1,0,0,1,1,0,0,1,1]) (xD (u a n c) (u T 0 0) (sl r y<|gQ 2) x5 (B w) (bG<|Z ⟨r1,0,T⟩) (u a n c) (B n) (B k) (sl r y<|gQ 2) (B y) (B k2) E U) (uB 3<|uW Pg X (sub pP [1,1,1,1,1,0,1,0,0,1,1,1]) K):=by
    intro E U j;refine tl<|ME.of (v:=dP ⟨[bq bN za,bq bN zb]⟩) (H:=U) ?_ ?_
    .have⟨es,g1,g2,G⟩:=j;show(aN (U.read r1 0 2) λvs=>Z (dP ⟨vs⟩,U))=_;rw[(G.get 1 O).read (o:=0) (n:=2) (ax 2)];rfl
    refine PK ?_;simp only[bB];refine j.rw' N N λH7 j=>?_;rw[gB N N];refine bM ?_;exact nx (w+1) _ _ _ N N j.drop
   have ab:∀E U(b:Bool),Co E 54=aR b->(b=F->0<w)->SB Tu r 331 2 y H U [(r1,331,[bq bN za,bq bN zb])]->iG Pg X (sub pP [1,1,1,1,1,0,1,0,0,1,1,0,0,1,0,1]) (xD (u a n c) (u T 0 0) (sl r y<|gQ 2) x5 (B w) (bG<|Z ⟨r1,0,T⟩) (u a n c) (B n) (B k) (sl r y<|gQ 2) (B y) (B k2) E U) (uW Pg X (sub pP [1,1,1,1,1,0,1,0,0,1,1,0,0,1,1])<|uB 3<|uW Pg X (sub pP [1,1,1,1,1,0,1,0,0,1,1,1]) K):=by
    intro E U b hb ap j;refine tl ?_;rw[hb];refine sD (λhb=>?_) λhb=>?_
    .have:=ap hb;refine q_ ?_;refine q_ ?_;refine PK ?_;refine bM ?_;refine SB.rfQ j N N N λzc=>?_;simp only[iT j.wf];refine j.Ov 0 O O ?_;simp only[iT j.wf];refine bM ?_;refine PK ?_;refine bM ?_;refine SB.an4 j N N N λH7 ag=>⟨by simp only[fu,gT];kernel_rfl,?_⟩;exact nx w _ _ _ N N ag.drop
    .exact aq _ _ j
   refine tO (λhd=>?_) λhd=>?_
   .refine j.Ov 0 O O ?_;simp only[iT j.wf];refine q_ ?_;refine PK ?_;refine bM ?_;refine SB.rfQ j N N N λzc=>?_;simp only[iT j.wf];refine bM ?_;refine⟨by simp only[fu];kernel_rfl,?_⟩;exact ab _ _ _ (by simp only[yY];rfl) (λ_=>N) j
   .refine⟨fT,?_⟩;exact ab _ _ aA (by simp only[yY]) (λh=>by cases h) j
def ads(y:Wf H):bQ Pg X 245 [] H (Q1 (λv Q=>jr H.bU 1 Q v) H):=by
 have G:=h_ y;refine lq [0] ?_;refine dA (v:=dP ⟨[_,_]⟩) O ?_;refine G.bS O O O N λB r G=>?_;have j:=G.get 0 O;have i:=G.lo _<|aL ..
 refine rr ?_;refine⟨⟨_,1,1,_,O,⟨j.fl i.2 O,λE o e _=>by cases e;exact⟨G.yV<|aL ..,i.2,j.Gb⟩⟩,N,λx M=>?_⟩,G.ext⟩;have M:x∈[bq bN 0,bq bN 1114111]:=M;simp at M;rcases M with rfl|rfl
 .exact⟨_,O⟩
 .exact⟨_,O⟩
end
abbrev isRead(b:Nat)(s:aZ)(v:D)(Q:R):Prop:=∃(i:D)(cd:Int)(at':Nat),v=fO ⟨[i,dP ⟨[vi cd,B at']⟩]⟩/\at'<=s.size+1/\jr b s.size Q i
def Tok.st{S:C Nat}{lo hi:Nat}(h:Tok b H lo hi v)(M:pI S H Q)(G:∀q∈S,q<b\/¬Ah H q 331)(i:b'<=b):Tok b' Q lo hi v:=by
 have⟨kd,a,e,t,rs,I,W,h3,h4,h5,h6⟩:=h;exact⟨kd,a,e,t,rs,I,W,h3,h4,h5,(h6.stay M G).le (ax _) i⟩
theorem aae(hw:Wf H)(hT:Dr H)(s:aZ)(hs:s.size<=20000):bQ Pg X 203 [aJ s] H (Q1 (isRead H.bU s) H):=by
 have G:=h_ hw;refine lq [0,2,3,4,5,6,7,8,9,10] ?_;refine G.jP λY y G=>?_;refine tO (λj=>?_) λj=>?_
 .refine fJ ?_;refine G.kE λY G=>rr ?_;exact G.jC<|⟨⟨_,_,0,O,N,jr.nil _ _ _⟩,G.ext⟩
 refine lp8 2 4 5 6 7 8 9 10 (h1:=λm x2 x4 x5 x6 x7 U x9 j_ Q=>∃(k:Nat)(ds:C D)(gb:C eB),x2=u T 0 0/\x5=B k/\k+m=s.size/\GB 331 2 x4 ds gb/\J ds<=2*k/\OE ds/\SH [] H Q ((y,173,[vi 0,vi 0])::(gb++[]))) ?_ s.size ⟨0,[],[],rfl,rfl,N,GB.nil _ _,gD,nofun,G⟩;clear G;rintro m x2 x4 x5 x6 x7 U x9 j_ E Q ⟨k,ds,gb,rfl,rfl,hk,hg,aq,ac,G⟩;refine iG.yD λK hK=>?_
 have ad:∀(o hi:Int)(q:Nat) x7 U E i,k<q->q<=s.size->SH [] H i ((y,173,[vi 0,vi 0])::(gb++[]))->
  iG Pg X (sub Dm [1,1,1,0,1,0,0,1,0,1,1,1,1]) (FQ (aJ s) (u T 0 0) (bG<|Z ⟨y,0,T⟩) x4 (B k) (bq bN o) x7 U (bq bN hi) (B q) E i) (uB 1 K):=by
  intro o hi q x7 U E i I W G;subst hK;refine tl<|dA (v:=dP ⟨[_,_]⟩) O ?_;refine G.bS O O O N λV rx G=>?_;have G:SH [] H V ((rx,331,[bq bN o,bq bN hi])::(gb++[(y,173,[vi 0,vi 0])])):=G.perm<|eX _<|PE _ _;refine hg.add G N O O N λv' V iN an al M=>?_;refine bM ?_;exact⟨s.size-q,N,_,_,_,_,_,_,_,_,_,_,O,q,_,iN,O,O,N,an,by simp;omega,ac.app _ _,al.perm (PE _ _).symm⟩
 have ag:∀(o:Int)(sz q:Nat)(b:Bool) U E i,Co E 44=aR b->k<q->q<=s.size->(b=F->q+1<s.size)->SH [] H i ((y,173,[vi 0,vi 0])::(gb++[]))->
  iG Pg X (sub Dm [1,1,1,0,1,0,0,1,0,1,1,1,0,1]) (FQ (aJ s) (u T 0 0) (bG<|Z ⟨y,0,T⟩) x4 (B k) (bq bN o) (B sz) U (bq bN o) (B q) E i) (uW Pg X (sub Dm [1,1,1,0,1,0,0,1,0,1,1,1,1])<|uB 1 K):=by
  intro o sz q b U E i hb I W h3 G;refine tl ?_;rw[hb];refine sD (λhb=>?_) λhb=>?_
  .have:=h3 hb;rw[gB N N];refine bM ?_;rw[PR (show(q:Int)+1=((q+1:Nat):Int) by omega)];refine G.cm (PT G.wf (hT.ex G.ext) s (q+1) N N) ?_;rintro v V ⟨r,n,e,rfl,h4,h5⟩ M G;refine G.lJ ?_;refine fP (λhe=>?_) λhe=>?_
   .rw[gB N N];refine fJ ?_;refine G.kE λY G=>?_;subst hK;refine rr ?_;exact G.jC<|⟨⟨_,_,q+1,O,N,jr.nil _ _ _⟩,G.ext⟩
   refine aW (λj=>?_) λj=>?_
   .refine fJ ?_;refine G.kE λY G=>?_;subst hK;refine rr ?_;exact G.jC<|⟨⟨_,_,k,O,N,jr.nil _ _ _⟩,G.ext⟩
   rw[gB N N];refine G.lJ ?_;rw[gB N N];refine G.lJ ?_;rw[PR (show(q:Int)+(1+(n:Int))=((q+1+n:Nat):Int) by omega)];exact ad _ _ _ _ _ _ _ N N G
  .exact ad _ _ _ _ _ _ _ I W G
 refine tQ (λj=>?_) λj=>?_
 .refine G.cm (PT G.wf (hT.ex G.ext) s k N N) ?_;rintro v V ⟨r,n,e,rfl,h4,h5⟩ M G;refine G.lJ ?_;refine fP (λhe=>?_) λhe=>?_
  .refine fJ ?_;refine G.kE λY G=>?_;subst hK;refine rr ?_;exact G.jC<|⟨⟨_,_,k,O,N,jr.nil _ _ _⟩,G.ext⟩
  have h6:=h5 N;rw[gB N N];refine G.lJ ?_;rw[qO N N];refine G.lJ ?_;rw[PR (show(k:Int)+(n:Int)=((k+n:Nat):Int) by omega)];refine aW (λj=>?_) λj=>?_
  .rw[uV N];refine G.lJ ?_;exact ag _ _ _ _ _ _ _ (by simp only[yY];rfl) N N (λ_=>N) G
  .exact ag _ _ _ aA _ _ _ (by simp only[yY]) N N (λh=>by cases h) G
 .subst hK;refine bM ?_;refine tl ?_;have am:SH [] H Q (gb++[(y,173,[vi 0,vi 0])]):=G.perm<|PE _ _;obtain⟨a,n,c,rfl,hn,hf⟩:=hg.fl am;have ao:=G.ext.bU;refine dD (Gq (KM:=s.size) G.wf N ⟨a,n,c,ds,O,hf,N,ac⟩) ?_;rintro v V ⟨hv,M⟩;have ap:=G.lt;have ab:=G.call M;have G:=ab.base;refine PU.b2 O<|G.kE λY G=>rr ?_;exact G.jC<|⟨⟨_,0,0,O,N,(hv.stay G.ext λq hq=>.inl<|ap q hq).le (ax _) ao⟩,(ab.over G).ext⟩
theorem V4(hw:Wf H)(hT:Dr H)(s:aZ)(k:Nat)(hk:k<s.size)(hs:s.size<=20000):bQ Pg X 172 [aJ s,B k] H (Q1 (Iv H.bU s k) H):=by
 have G:=h_ hw;refine lq [0,1,4,5,6,7,8,19] ?_;refine G.jP λi Y G=>?_;refine G.jP λi V G=>?_;rw[gB N N];refine bM ?_;refine PO 6 7 8 19 (h1:=λm x6 x7 x8 xC Q=>∃p:Nat,x6=B p/\p+m=s.size+1/\k+1<=p/\SH [] H Q [(V,173,[vi 0,vi 0]),(Y,221,[vi 0,vi 0,vi 0,aJ<|dJ #[],u T 0 0])]) ?_ (s.size-k) ⟨k+1,rfl,N,N,G⟩;clear G;rintro m x6 x7 x8 xC E Q ⟨p,rfl,I,W,G⟩;refine lX (λhc=>?_) λhc=>?_
 .refine tm ?_;refine G.kE λi G=>?_;refine G.kE λi G=>?_;refine rr ?_;refine fJ ?_;exact⟨⟨_,_,k,O,⟨_,0,0,_,_,O,_,_,_,O⟩,λh=>by cases h⟩,G.ext⟩
 rw[uV N];refine tO (λhd=>?_) λhd=>?_
 .rw[gB N N];refine bM ?_;rw[gB N N];refine bM ?_;exact⟨m-2,N,_,_,_,_,_,_,O,p+2,O,N,N,G⟩
 refine aW (λhe=>?_) λhe=>?_
 .rw[gB N N];refine bM ?_;rw[show slT (aJ s) (Z<|vi<|(k:Int)+1) (Z<|B p) T=_ from Eu (lo:=k+1) N N];refine bM ?_;have hp:=rO s (lo:=k+1) (hi:=p) N N;refine dD (aae G.wf (hT.ex G.ext) _ N) ?_;rintro v H3 ⟨⟨ab,cd,e,rfl,h3,J⟩,M⟩;have o:=G.ext.bU;have y:=G.lt;have j:=G.call M;have G:=j.base;refine G.lJ ?_;refine G.jP λi rq G=>?_;refine G.lJ ?_;refine G.kE λi G=>?_;refine Ow (λU=>?_) λU=>?_
  .refine fJ ?_;rw[gB N N];refine fJ ?_;rw[gB N N];refine fJ ?_;refine G.n_ λi G=>?_;refine G.n_ λi G=>?_;simp only[fu,gT];apply zP (a:=rq) (b:=V) (c:=Y) (G.nq 0 1 O O N) (G.nq 0 2 O O N) (G.nq 1 2 O O N) yB fT fT;refine rr ?_;refine fJ ?_;exact⟨⟨_,cd,k+1+e,O,⟨_,0,0,_,_,O,_,_,_,O⟩,λh=>absurd h U⟩,(j.over G).ext⟩
  .obtain⟨xa,xn,xc,ac,rfl,h5,h6,h7⟩:=id J;rw[gB N N];refine fJ ?_;refine G.kE λi G=>?_;refine G.kE λi G=>?_;refine rr ?_;refine fJ ?_;refine⟨⟨_,0,0,O,⟨_,_,_,_,_,O,_,_,_,O⟩,λ_=>⟨4,k,p+1,_,_,rfl,N,N,N,bD _,?_⟩⟩,(j.over G).ext⟩;exact(J.stay G.ext λq hq=>.inl<|y q hq).le N o
 .rw[gB N N];refine bM ?_;exact⟨m-1,N,_,_,_,_,_,_,O,p+1,O,N,N,G⟩
def adt(hw:Wf H)(hT:Dr H)(s:aZ)(k:Nat)(hk:k<s.size)(hs:s.size<=20000):bQ Pg X 141 [aJ s,B k] H (Q1 (Iv H.bU s k) H):=by
 have G:=h_ hw;refine lq [0,1,4,5,6,7,8] ?_;refine G.jP λj rt G=>?_;refine G.jP λj rs G=>?_;rw[uV N];refine bM ?_;refine dD (Kh _) ?_;rintro v Q ⟨⟨b,rfl⟩,rfl⟩;refine bM ?_;have y:=G.ext.bU;have E:=G.lt;refine iI (λU=>?_) λU=>?_
 .refine G.cm (aad G.wf s k hk N) ?_;rintro v Y ⟨tok,cd,e,rfl,⟨kd,a,e',t,T,rfl,xa,xn,xc,rfl⟩,o⟩ M i;have G:=i.base;refine G.lJ ?_;refine G.kE λj G=>?_;refine G.kE λj G=>?_;refine rr ?_;refine fJ ?_;exact⟨⟨_,cd,e,O,⟨_,_,_,_,_,O,_,_,_,O⟩,λh=>(o h).st G.ext (λq I=>.inl<|E q I) y⟩,(i.over G).ext⟩
 refine aW (λW=>?_) λW=>?_
 .refine G.cm (Q7 G.wf (hT.ex G.ext) s k hk N) ?_;rintro v Y ⟨tok,cd,e,rfl,⟨kd,a,e',t,T,rfl,xa,xn,xc,rfl⟩,o⟩ M i;have G:=i.base;refine G.lJ ?_;refine G.kE λj G=>?_;refine G.kE λj G=>?_;refine rr ?_;refine fJ ?_;exact⟨⟨_,cd,e,O,⟨_,_,_,_,_,O,_,_,_,O⟩,λh=>(o h).st G.ext (λq I=>.inl<|E q I) y⟩,(i.over G).ext⟩
 refine aW (λW=>?_) λW=>?_
 .refine G.cm (V4 G.wf (hT.ex G.ext) s k hk N) ?_;rintro v Y ⟨tok,cd,e,rfl,⟨kd,a,e',t,T,rfl,xa,xn,xc,rfl⟩,o⟩ M i;have G:=i.base;refine G.lJ ?_;refine G.kE λj G=>?_;refine G.kE λj G=>?_;refine rr ?_;refine fJ ?_;exact⟨⟨_,cd,e,O,⟨_,_,_,_,_,O,_,_,_,O⟩,λh=>(o h).st G.ext (λq I=>.inl<|E q I) y⟩,(i.over G).ext⟩
 rw[Cs N];refine bM ?_;have hp:=rO s (lo:=k) (hi:=s.size) N N;refine dD (EM _ _) ?_;rintro v Q ⟨⟨b,rfl,V⟩,rfl⟩;refine sD (λU=>?_) λU=>?_
 .have hl:2<=(Go.Ae.part s k s.size).size:=by
   have⟨r,hr⟩:=V U;have h:=fq J hr;have e1:(Go.Ae.part s k s.size).data.toList.length=(Go.Ae.part s k s.size).size:=rfl;rw[e1,aS]at h;have e2:(dJ #[45,62]).data.toList.length=2:=rfl;omega
  rw[gB N N];refine fJ ?_;refine G.kE λj G=>?_;refine G.kE λj G=>?_;refine rr ?_;refine fJ ?_;exact⟨⟨_,0,0,O,⟨_,_,_,_,_,O,_,_,_,O⟩,λ_=>⟨15,k,k+2,_,_,rfl,N,N,N,bD _,jr.nil _ _ _⟩⟩,G.ext⟩
 refine dD (Jz _) ?_;rintro v Q ⟨⟨kd,b,rfl⟩,rfl⟩;refine G.lJ ?_;cases b with
 |false=>
  refine(show∀{A vn:Prop},A->yU (Z !aA) A vn fromλh=>h)<|fJ ?_;refine G.kE λj G=>?_;refine G.kE λj G=>?_;refine rr ?_;refine fJ ?_;exact⟨⟨_,_,k,O,⟨_,0,0,_,_,O,_,_,_,O⟩,λh=>by cases h⟩,G.ext⟩
 |true=>
  refine(show∀{A vn:Prop},vn->yU (Z !F) A vn fromλh=>h) ?_;rw[gB N N];refine fJ ?_;refine G.kE λj G=>?_;refine G.kE λj G=>?_;refine rr ?_;refine fJ ?_;exact⟨⟨_,0,0,O,⟨_,_,_,_,_,O,_,_,_,O⟩,λ_=>⟨kd,k,k+1,_,_,rfl,N,N,N,bD _,jr.nil _ _ _⟩⟩,G.ext⟩
def Tk(b:Nat)(H:R)(l:C D):Prop:=∃(kd:Int)(a e:Nat)(t:aZ)(i:D),l=[vi kd,B a,B e,aJ t,i]/\a<=20000/\t.size<=1000000/\jr b 20000 H i
def Tk.st{S:C Nat}(h:Tk b H l)(M:pI S H Q)(G:∀q∈S,q<b\/¬Ah H q 331)(i:b'<=b):Tk b' Q l:=by
 have⟨kd,a,e,t,rs,I,W,h3,h4⟩:=h;exact⟨kd,a,e,t,rs,I,W,h3,(h4.stay M G).le (ax _) i⟩
def V5(b:Nat)(H:R)(a:aC Addr)(n:Nat)(f:C D):Prop:=jJ (b<=·) 221 H a n 5 f/\1<=n/\n<=20001/\(∀i,i<n->Tk b H (El f 5 i))/\f[(n-1)*5]?=Z (vi 0)
def V5.st{S:C Nat}{n:Nat}(h:V5 b H a n f)(M:pI S H Q)(G:∀q∈S,q<b\/¬Ah H q 331/\¬Ah H q 221)(o:b'<=b):V5 b' Q a n f:=
 ⟨(h.1.stay M λq j=>(G q j).imp fH (·.2)).le o,h.2.1,h.2.2.1,λi y=>(h.2.2.2.1 i y).st M (λq j=>(G q j).imp_right (·.1)) o,h.2.2.2.2⟩
abbrev ajr(b:Nat)(v:D)(Q:R):Prop:=∃(i:D)(cd e:Int),v=fO ⟨[i,dP ⟨[vi cd,vi e]⟩]⟩/\(i=u T 0 0\/∃a n c,i=u (Z a) n c)/\(cd=0->∃a n c f,i=u a n c/\V5 b Q a n f)
def Dt{xs:C D}{n:Nat}(hl:J f=n*es)(M:J xs=es):(∀i,i<n->El (f++xs) es i=El f es i)/\El (f++xs) es n=xs:=by
 constructor
 .intro i o;have I:(i+1)*es<=n*es:=fA es o;rw[iC]at I;apply iV;intro j;rw[oL,oL];split
  .rw[bX N]
  .rfl
 .unfold El;rw[<-hl,List.drop_left,dV N]
theorem TW(hw:Wf H)(hT:Dr H)(s:aZ):bQ Pg X 117 [aJ s] H (Q1 (ajr H.bU) H):=by
 have G:=h_ hw;refine lq [0,2,3,4,5,6,7] ?_;refine G.jP λI rs G=>?_;refine tO (λhc=>?_) λhc=>?_
 .refine fJ ?_;refine G.kE λI G=>rr ?_;exact G.jC<|⟨⟨_,3,0,O,.inl O,λh=>by cases h⟩,G.ext⟩
 have hs:s.size<=20000:=N;refine dD (CB s 0 N N) ?_;rintro v Q ⟨⟨k,rfl,ao,ap⟩,rfl⟩;refine Yt 2 4 5 6 7 (h1:=λm x2 x4 x5 x6 x7 Q=>∃(k n:Nat)(f:C D)(gb:C eB),x2=u T 0 0/\x5=B k/\k+m=s.size/\GB 221 5 x4 f gb/\J f=n*5/\n<=k/\(∀i,i<n->Tk H.bU Q (El f 5 i))/\SH [] H Q ((rs,173,[vi 0,vi 0])::(gb++[]))) ?_ (s.size-k) ⟨k,0,[],[],rfl,rfl,N,GB.nil _ _,rfl,N,(λi h=>N),G⟩;clear G;rintro m x2 x4 x5 x6 x7 E Q ⟨k,n,f,gb,rfl,rfl,hk,hg,o,aE,ad,G⟩;refine tp ?_;have ag:=G.ext.bU;refine nN (λhc=>?_) λhc=>?_
 .refine tp ?_;refine PU.b5 O ?_;have W:=G.AO (ty:=331) (by simp[hg.all]);have j:=G;have G:=j.base;refine G.bS O O O N λH1 rx G=>?_;have G:SH _ Q H1 ((rx,221,[vi 0,B s.size,B s.size,aJ<|dJ #[],u T 0 0])::(gb++[(rs,173,[vi 0,vi 0])])):=G.perm<|eX _<|PE _ _;refine hg.add G N O O N λv' H3 iN V U M=>?_;have hE:=Dt (es:=5) (n:=n) o (xs:=[vi 0,B s.size,B s.size,aJ<|dJ #[],u T 0 0]) O;have G:=U.perm<|aI (l₂:=[_]);simp only[bV,bZ]at G;refine fJ ?_;refine G.kE λI G=>?_;have y:=(j.over G).perm<|uS<|aI (l₂:=[_]);obtain⟨a,n',c,rfl,ac,hf⟩:=V.UO y;have al:n'=n+1:=by rw[aS,o]at ac;simp at ac;omega
  subst al;refine rr ?_;refine G.jC<|⟨⟨_,0,0,O,?_,λ_=>⟨a,n+1,c,_,rfl,hf,N,N,?_,?_⟩⟩,y.ext⟩
  .cases a with
   |none=>
    have⟨_,_,h,_⟩:=hf.1.2 0 _<|av (by rw[hf.1.1];omega);cases h
   |some a=>exact .inr ⟨a,_,_,O⟩
  .intro i hi;rcases dH i n with h|h
   .rw[hE.1 i h];exact(ad i h).st G.ext (λq hq=>.inr<|W q hq)<|ax _
   .have:i=n:=N;subst this;rw[hE.2];exact⟨0,s.size,s.size,_,_,O,hs,bD _,jr.nil _ _ _⟩
  .rw[jl,<-o,eD<|ax _,kN];rfl
 refine dD (adt G.wf (hT.ex G.ext) s k N hs) ?_;rintro v H3 ⟨⟨tok,cd,e,rfl,⟨kd,a,Y,t,a1,rfl,xa,xn,xc,rfl⟩,am⟩,M⟩;have W:=G.AO (ty:=331) (by simp[hg.all]);have ab:=G.lt;have j:=G.call M;have G:=j.base;refine G.lJ ?_;refine G.jP λI r8 G=>G.jP λI an G=>?_;refine G.lJ ?_;refine G.kE λI G=>?_;refine G.kE λI G=>?_;refine Ow (λhz=>?_) λhz=>?_
 .refine fJ ?_;refine G.n_ λI G=>?_;simp only[fu,gT];apply mO (a:=an) (b:=rs) (G.nq 0 2 O O N) yB fT fT;refine rr ?_;exact G.jC<|⟨⟨_,cd,e,O,.inl O,λh=>absurd h hz⟩,(j.over G).ext⟩
 have⟨kd',a',e2,t',rs',he,h3,h4,h5,h6,h7⟩:=am hz;simp only[Value.agg.injEq,Array.mk.injEq,List.cons.injEq,zq]at he;have⟨e_1,e_2,e_3,e_4,e_5⟩:=he;have:Y=e2:=by injection e_3 with _ h;omega
 subst this;have:a=a':=by injection e_2 with _ h;omega
 subst this;have:t=t':=by injection e_4
 subst this;subst e_5;refine G.jC<|G.bS O O O N λH4 rx G=>?_;have G:=G.to (cs':=[vi kd,B a,B Y,aJ t,u xa xn xc]) O;have G:=G.perm (L':=(rx,221,[vi kd,B a,B Y,aJ t,u xa xn xc])::(gb++[_,_,_]))<|eX _<|ak4 _ _ _ _;refine hg.add G N O O N λv' H5 iN V U a0=>?_;have hE:=Dt (es:=5) (n:=n) o (xs:=[vi kd,B a,B Y,aJ t,u xa xn xc]) O;have G:=U.perm<|aI (l₂:=[_,_,_]);simp only[bV,bZ]at G;refine G.qF<|dD (CB s Y N N) ?_;rintro v Q ⟨⟨k2,rfl,aq,ar⟩,rfl⟩;have y:=(j.over G);refine⟨s.size-k2,N,_,_,_,_,_,_,_,O,k2,n+1,_,iN,O,O,N,V,by rw[aS,o];simp;omega,N,?_,?_⟩
 .intro i hi;rcases dH i n with h|h
  .rw[hE.1 i h];exact((ad i h).st M (nofun)<|ax _).st G.ext (λq hq=>.inr λht=>W q hq<|ht.iE (M.obj q (ab q hq) gD).symm)<|ax _
  .have:i=n:=N;subst this;rw[hE.2];exact⟨kd,a,Y,t,_,O,N,h6,(h7.stay G.ext λq hq=>.inl<|ab q hq).le (ax _) ag⟩
 .exact fU (A:=[_,_])<|nZ y
section
variable{S:C Nat}{ay:Nat->Prop}
abbrev pr(r:Nat):D:=bG<|Z ⟨r,0,T⟩
structure RC where
 (rt ra rp rr:Nat)(a:aC Addr)(n c:Nat)(f:C D)(nu:Nat)
abbrev qU(rt ra:Nat):D:=.func (.func 118) ⟨[]⟩ ⟨[pr rt,pr ra]⟩
abbrev zX(rp ra rt:Nat):D:=.func (.func 119) ⟨[]⟩ ⟨[pr rp,pr ra,pr rt]⟩
def RuC(l:C D):Prop:=∃(nm:aZ)(ai cs w:Bool)(ch root at':Int),l=[aJ nm,aR ai,aR cs,aR w,vi ch,vi root,vi at']/\nm.size<=1000000
def NoC(ay:Nat->Prop)(H:R)(l:C D):Prop:=∃(kd:Int)(a:aC Addr)(n c:Nat)(ks:C D)(t:aZ)(i:D)(at':Int),l=[vi kd,u a n c,aJ t,i,vi at']/\jJ ay 3 H a n 1 ks/\n<=20001/\(∀x∈ks,∃z:Int,x=vi z)/\t.size<=1000000/\jr 0 20001 H i
def NoC.st(h:NoC ay H l)(M:pI S H Q)(G:∀q∈S,(¬ay q\/¬Ah H q 3)/\¬Ah H q 331):NoC ay Q l:=by
 have⟨kd,a,n,c,ks,t,rs,at',I,W,h3,h4,h5,h6⟩:=h;exact⟨kd,a,n,c,ks,t,rs,at',I,W.stay M λq i=>(G q i).1,h3,h4,h5,h6.stay M λq i=>.inr (G q i).2⟩
def Rd(ay:Nat->Prop)(q:RC)(k:Nat)(H:R)(hx:C eB):Prop:=∃M j E I o y sc N nr nn,
 hx=(q.rt,215,[u q.a q.n q.c])::(q.ra,3,[B k])::(q.rp,222,[qU q.rt q.ra])::(q.rr,226,[qU q.rt q.ra,zX q.rp q.ra q.rt,M,I,vi sc,vi N])::(E++y)/\
 k<q.n/\V5 0 H q.a q.n q.f/\GB 234 7 M j E/\J j=nr*7/\nr=q.nu/\(∀i,i<nr->RuC (El j 7 i))/\GB 238 5 I o y/\J o=nn*5/\nn<=4000/\(∀i,i<nn->NoC ay H (El o 5 i))/\¬ay q.ra
def Rd.le{q:RC}(h:Rd ay q k H hx):k<q.n/\q.n<=20001:=by
 have⟨rv,rcs,gr,nv,jA,gn,sc,sa,nr,nn,_,I,W,_⟩:=h;exact⟨I,W.2.2.1⟩
def NoC.wk(h:NoC ay H l)(i:∀r,r<H.bU->ay r->F' r):NoC F' H l:=by
 have⟨kd,a,n,c,ks,t,rs,at',I,W,h3⟩:=h;exact⟨kd,a,n,c,ks,t,rs,at',I,⟨W.1,λr o e j=>by have⟨g1,g2,g3⟩:=W.2 r o e j;exact⟨i r g2 g1,g2,g3⟩⟩,h3⟩
def Rd.wk{q:RC}(h:Rd ay q k H hx)(j:∀r,r<H.bU->ay r->F' r)(o:¬F' q.ra):Rd F' q k H hx:=by
 have⟨rv,rcs,gr,nv,jA,gn,sc,sa,nr,nn,h0,I,W,h3,h4,h5,h6,h7,h8,h9,h10,DZ⟩:=h;exact⟨rv,rcs,gr,nv,jA,gn,sc,sa,nr,nn,h0,I,W,h3,h4,h5,h6,h7,h8,h9,λi y=>(h10 i y).wk j,o⟩
def Rd.ex{q:RC}(h:Rd ay q k H hx)(M:Ext H Q):Rd ay q k Q hx:=by
 have⟨rv,rcs,gr,nv,jA,gn,sc,sa,nr,nn,h0,I,W,h3,h4,h5,h6,h7,h8,h9,h10,DZ⟩:=h;exact⟨rv,rcs,gr,nv,jA,gn,sc,sa,nr,nn,h0,I,W.st M (nofun)<|ax _,h3,h4,h5,h6,h7,h8,h9,λi j=>(h10 i j).st M<|nofun,DZ⟩
def Rd.ty{q:RC}(h:Rd ay q k H hx)(G:SH S H0 H<|hx++L):∀r∈hx.map (·.1),(r=q.ra\/¬Ah H r 3)/\¬Ah H r 331/\¬Ah H r 221:=by
 obtain⟨rv,ab,gr,nv,jA,gn,sc,sa,nr,nn,rfl,I,W,V,h4,h5,h6,X,h8,h9,U,DZ⟩:=h;intro r Y;obtain⟨e,he,rfl⟩:=bP.1 Y;have j:=(G.bk e<|dK _ he).Gb
 have J:e.1=q.ra\/(e.2.1≠3/\e.2.1≠331/\e.2.1≠221)\/e.2.1=3/\e.1=q.ra:=by
  simp only[bW,cK]at he;rcases he with rfl|rfl|rfl|rfl|he|he
  .exact .inr<|.inl ⟨(show(215:Nat)≠3 by decide),(show(215:Nat)≠331 by decide),(show(215:Nat)≠221 by decide)⟩
  .exact .inl O
  .exact .inr<|.inl ⟨(show(222:Nat)≠3 by decide),(show(222:Nat)≠331 by decide),(show(222:Nat)≠221 by decide)⟩
  .exact .inr<|.inl ⟨(show(226:Nat)≠3 by decide),(show(226:Nat)≠331 by decide),(show(226:Nat)≠221 by decide)⟩
  .refine .inr (.inl ?_);rcases V with⟨_,_,rfl⟩|⟨_,_,_,_,_,rfl⟩
   .cases he
   .rw[aT]at he;subst he;exact⟨(show(234:Nat)≠3 by decide),(show(234:Nat)≠331 by decide),(show(234:Nat)≠221 by decide)⟩
  .refine .inr (.inl ?_);rcases X with⟨_,_,rfl⟩|⟨_,_,_,_,_,rfl⟩
   .cases he
   .rw[aT]at he;subst he;exact⟨(show(238:Nat)≠3 by decide),(show(238:Nat)≠331 by decide),(show(238:Nat)≠221 by decide)⟩
 have M:e.1=q.ra->e.2.1=3:=by
  intro N;have E:Ah H q.ra 3:=(G.bk (q.ra,3,[B k])<|dK _ gD).Gb;rw[N]at j;exact j.one E
 have o:e.1=q.ra->¬Ah H e.1 331/\¬Ah H e.1 221:=λh=>by
  rw[M h]at j;exact⟨λi=>(by have:=j.one i;cases this),λi=>(by have:=j.one i;cases this)⟩
 rcases J with h|⟨h,T,y⟩|⟨_,h⟩
 .exact⟨.inl h,o h⟩
 .exact⟨.inr λi=>h<|j.one i,λi=>T<|j.one i,λi=>y<|j.one i⟩
 .exact⟨.inl h,o h⟩
def Rd.on{q:RC}(h:Rd ay q k H hx)(G:SH S H0 H<|hx++L)(M:pI (hx.map (·.1)) H Q):Rd ay q k Q hx:=by
 have j:=h.ty G;have⟨rv,rcs,gr,nv,jA,gn,sc,sa,nr,nn,h0,I,W,h3,h4,h5,h6,h7,h8,h9,h10,DZ⟩:=h;exact⟨rv,rcs,gr,nv,jA,gn,sc,sa,nr,nn,h0,I,W.st M (λr o=>.inr (j r o).2)<|ax _,h3,h4,h5,h6,h7,h8,h9,λi y=>(h10 i y).st M λr o=>⟨(j r o).1.imp_left (λe=>by rw[e];exact DZ),(j r o).2.1⟩,DZ⟩
def V5.get{n:Nat}(h:V5 b H a n f){i:Nat}(hi:i<n):∃(kd:Int)(at' e:Nat)(t:aZ)(j:aC Addr)(o xc:Nat),El f 5 i=[vi kd,B at',B e,aJ t,u j o xc]/\at'<=20000/\t.size<=1000000/\jr b 20000 H (u j o xc)/\(i=n-1->kd=0):=by
 have⟨kd,at',e,t,rs,I,W,h3,h4⟩:=h.2.2.2.1 i hi;obtain⟨j,o,xc,M,rfl,O⟩:=id h4;refine⟨kd,at',e,t,j,o,xc,I,W,h3,h4,λE=>?_⟩;subst E;have J:=h.2.2.2.2;have y:=oL f 5 (n-1) 0;rw[if_pos N,I,d_,J]at y;simpa using eF y
def adu{q:RC}(E:Rd ay q k H hx)(G:SH S H0 H<|hx++L)(j:Nat)(hj:j<=1000):bQ Pg X 118 [B j,pr q.rt,pr q.ra] H (Q1 (λv _=>v=dP ⟨El q.f 5<|min (k+j)<|q.n-1⟩) H):=by
 have U:=E.le;obtain⟨rv,Y,gr,nv,jA,gn,sc,sa,nr,nn,rfl,I,W,_⟩:=E;have y:=G.get 0 O;have T:=G.get 1 O;have J:=(G.lo _<|aV (i:=0) O).2;have V:=(G.lo _<|aV (i:=1) O).2;have G:=h_ G.wf;refine lq [0,1,2,4] ?_;refine G.jP λM rb G=>?_;refine G.CO (y.cell (o:=0) O) J ?_;refine G.CO (T.cell (o:=0) O) V ?_;refine eG ?_;refine G.CO (y.cell (o:=0) O) J ?_;refine bM ?_;refine q_ ?_;refine bM ?_;rw[show min ((k:Int)+(j:Int)) ((q.n:Int)-1)=((min (k+j) (q.n-1):Nat):Int) by omega];have⟨r,o,e,hr,hrd,hel,o0,_⟩:=W.1.1.read N (show min (k+j) (q.n-1)<q.n by omega) q.c;rw[e];refine bM ?_;have⟨kd,at',e',t,xa,xn,xc,he,_⟩:=W.get (i:=min (k+j)<|q.n-1) N;rw[he]at hrd;rw[he];refine G.BU hrd hr<|G.kE λM G=>rr ?_;exact G.jC<|⟨O,G.ext⟩
def Rd.Q_{q:RC}(o:Rd ay q k H hx)(G:SH S H0 H<|hx++L)(j:Nat)(y:j<=1000)(h:∀Q,Rd ay q k Q hx->SH S H0 Q (hx++L)->Ext H Q->K (qU q.rt q.ra) (dP ⟨El q.f 5<|min (k+j)<|q.n-1⟩) Q):ME (wR T (bG<|Z ⟨q.rr,0,T⟩) H) λv H1=>qh Pg X (Ou v) [B j] H1 (K v):=by
 have i:=o;obtain⟨V,E,J,U,N,I,sc,W,nr,nn,rfl,_⟩:=o;refine G.ld 3 O O ?_;show bQ Pg X 118 [B j,pr q.rt,pr q.ra] H<|K _;refine dD (adu i G j y) ?_;rintro v Q ⟨rfl,M⟩;exact h Q (i.ex M) (G.call M) M
def ama{q:RC}(E:Rd ay q k H hx)(G:SH S H0 H<|hx++L):bQ Pg X 119 [pr q.rp,pr q.ra,pr q.rt] H λv Q=>v=dP ⟨El q.f 5 k⟩/\∃M',Rd ay q (min (k+1)<|q.n-1) Q M'/\SH (hx.map (·.1)) H Q M':=by
 have ab:=E.le;have j:=E;have o:=G;have G:=G.own;obtain⟨rv,T,gr,nv,jA,gn,sc,sa,nr,nn,rfl,I,W,h3,h4,h5,h6,h7,h8,h9,y,U⟩:=E;have⟨kd,at',e',t,xa,xn,xc,he,_⟩:=W.get (i:=k) I;refine lq [0,1,2,3,4] ?_;refine G.jP λV rb G=>?_;apply G.qF;show bQ Pg X 118 [B 0,pr q.rt,pr q.ra] V _;have J:=G.perm<|aI (l₁:=[_]);refine dD (adu (j.on o G.ext) J 0 N) ?_;rintro v H2 ⟨rfl,M⟩;rw[show min (k+0) (q.n-1)=k by omega,he];have G:=G.call M;refine G.jP λV r8 G=>?_;refine G.kE λY G=>?_;apply G.qF;rw[gB N N];refine fJ ?_;rw[qO N N];refine G.lJ ?_;refine G.kE λY G=>?_;apply G.jC;refine G.kE λY G=>?_;rw[show min ((k:Int)+1) ((q.n:Int)-1)=((min (k+1) (q.n-1):Nat):Int) by omega]at G;refine rr ?_;refine fJ ?_;refine⟨O,(q.rt,215,[u q.a q.n q.c])::(q.ra,3,[B (min (k+1)<|q.n-1)])::(q.rp,222,[qU q.rt q.ra])::(q.rr,226,[qU q.rt q.ra,zX q.rp q.ra q.rt,rv,nv,vi sc,vi sa])::(gr++gn),?_,fU (A:=[_,_]) G⟩;have BJ:=j.on o G.ext;have⟨rv',amb,gr',nv',amc,gn',sc',sa',nr',nn',e0,g1,g2,_⟩:=BJ;refine⟨rv,T,gr,nv,jA,gn,sc,sa,nr,nn,O,N,g2,h3,h4,h5,h6,h7,h8,h9,λi hi=>(y i hi).st G.ext λr hr=>?_,U⟩;have:=j.ty o r hr;exact⟨this.1.imp_left (λe=>by rw[e];exact U),this.2.1⟩
def Rd.bU{q:RC}(y:Rd ay q k H hx)(G:SH S H0 H<|hx++L)(h:∀Q M',Rd ay q (min (k+1)<|q.n-1) Q M'->SH S H0 Q (M'++L)->SH (hx.map (·.1)) H Q M'->K (zX q.rp q.ra q.rt) (dP ⟨El q.f 5 k⟩) Q):ME (wR T (bG<|Z ⟨q.rr,1,T⟩) H) λv H1=>qh Pg X (Ou v) [] H1 (K v):=by
 have o:=y;obtain⟨N,B,I,M,J,E,sc,U,nr,nn,rfl,_⟩:=y;refine G.ld 3 O O ?_;show bQ Pg X 119 [pr q.rp,pr q.ra,pr q.rt] H<|K _;refine dD (ama o G) ?_;rintro v Q ⟨rfl,M',j,i⟩;exact h Q M' j (G.frame i) i
def CE{q:RC}(T:Rd ay q k H hx)(G:SH S H0 H<|hx++L)(cd at':Int):bQ Pg X 144 [pr q.rr,vi cd,vi at'] H λv Q=>v=aR aA/\∃M',Rd ay q k Q M'/\SH (hx.map (·.1)) H Q M':=by
 have j:=T;have o:=G;have G:=G.own;obtain⟨V,E,N,U,jA,M,sc,sa,nr,nn,rfl,I,W,h3,h4,h5,h6,h7,h8,h9,y,J⟩:=T;refine cem [0,1,2,6] ?_;refine G.kE λHn G=>rr ?_;refine⟨O,(q.rt,215,[u q.a q.n q.c])::(q.ra,3,[B k])::(q.rp,222,[qU q.rt q.ra])::(q.rr,226,[qU q.rt q.ra,zX q.rp q.ra q.rt,V,U,vi cd,vi at'])::(N++M),?_,G⟩;have Y:=j.on o G.ext;have⟨rv',amb,gr',nv',amc,gn',sc',sa',nr',nn',e0,g1,g2,_⟩:=Y;refine⟨V,E,N,U,jA,M,cd,at',nr,nn,O,I,g2,h3,h4,h5,h6,h7,h8,h9,λi hi=>(y i hi).st G.ext λr hr=>?_,J⟩;have:=j.ty o r hr;exact⟨this.1.imp_left (λe=>by rw[e];exact J),this.2.1⟩
theorem Ni{q:RC}(E:Rd ay q k H hx)(G:SH S H0 H<|hx++L):bQ Pg X 143 [pr q.rr] H λv Q=>v=aR aA/\∃M',Rd ay q k Q M'/\SH (hx.map (·.1)) H Q M':=by
 have ab:=E.le;have U:=G;have G:=G.own;refine GY [0,2,3] ?_;have o:SH (hx.map (·.1)) H H (hx++[]):=by rw[bF];exact G
 refine E.Q_ o 0 N λH1 BJ o ac=>?_
 obtain⟨kd,at',e',t,I,M,J,V,_⟩:∃(kd:Int)(at' e:Nat)(t:aZ)(I:aC Addr)(M J:Nat),El q.f 5 (min (k+0)<|q.n-1)=[vi kd,B at',B e,aJ t,u I M J]/\True:=by
  have⟨_,_,_,_,_,_,_,_,_,_,_,_,W,_⟩:=E;have⟨kd,at',e',t,I,M,J,V,_⟩:=W.get (i:=min (k+0)<|q.n-1) N;exact⟨kd,at',e',t,I,M,J,V,trivial⟩
 rw[V];have G:=o.perm aI;simp only[bZ]at G;refine G.jP λH2 rb G=>?_;refine G.lJ ?_;refine G.kE λHn G=>?_;refine fJ ?_;have Y:=G.ext;have j:=G.perm<|aI (l₁:=[_]);have y:=E.on U Y;refine aW (λhc=>?_) λhc=>?_
 .apply G.qF;refine dD (CE y j _ _) ?_;rintro v H3 ⟨rfl,M',T,wD⟩;refine rr ?_;refine⟨O,M',T,?_⟩;exact fU (A:=[_])<|(j.frame wD).perm aI
 .apply G.qF;refine dD (CE y j _ _) ?_;rintro v H3 ⟨rfl,M',T,wD⟩;refine rr ?_;refine⟨O,M',T,?_⟩;exact fU (A:=[_])<|(j.frame wD).perm aI
end
variable{q:RC}
section
variable{S:C Nat}{ay:Nat->Prop}
def Rd.tok{i:Nat}(y:Rd ay q k H hx)(hi:i<q.n):∃(kd:Int)(at' e:Nat)(t:aZ)(j:aC Addr)(o xc:Nat),El q.f 5 i=[vi kd,B at',B e,aJ t,u j o xc]/\at'<=20000/\t.size<=1000000/\jr 0 20000 H (u j o xc)/\(i=q.n-1->kd=0):=by
 have⟨_,_,_,_,_,_,_,_,_,_,_,_,W,_⟩:=y;exact W.get hi
def Gt(x:D)(l:C D):ajb T 0 (dP ⟨x::l⟩)=Z x:=rfl
def V6(x y:D)(l:C D):ajb T 1 (dP ⟨x::y::l⟩)=Z y:=rfl
def JB(I:Rd ay q k H hx)(G:SH S H0 H<|hx++L)(kd:Int)(B:kd≠0):bQ Pg X 145 [pr q.rr,vi kd] H λv Q=>∃(b:Bool)(k':Nat)(M':C eB),v=aR b/\Rd ay q k' Q M'/\SH (hx.map (·.1)) H Q M'/\k<=k'/\(b=F->k'=k+1):=by
 have E:=I.le;have T:=G;have G:=G.own;refine GY [0,1,4] ?_;have i:SH (hx.map (·.1)) H H (hx++[]):=by rw[bF];exact G
 refine I.Q_ i 0 N λY j i U=>?_;rw[show min (k+0) (q.n-1)=k by omega];have⟨kd',at',e',t,xa,xn,xc,he,_,_,_,hz⟩:=j.tok E.1;rw[he,Gt];refine yx (λJ=>?_) λJ=>?_
 .refine dD (Ni j i) ?_;rintro v H3 ⟨rfl,M',M,W⟩;refine rr ?_;refine⟨aA,k,M',O,M,?_,ax _,λh=>by cases h⟩;have:=i.frame W
  rwa [bF]at this
 .refine j.bU i λH2 M' o y V=>?_;refine rr ?_;refine⟨F,_,M',O,o,?_,N,λ_=>?_⟩
  .rwa [bF]at y
  .have:k≠q.n-1:=λh=>B (by rw[<-J];exact hz h);omega
def Gu(j:Wf H)(kd:Int)(a e:D)(t x:D)(h:rJ (dP ⟨[vi kd,a,e,t,x]⟩)=F):bQ Pg X 142 [dP ⟨[vi kd,a,e,t,x]⟩] H (Q1 (λv _=>v=aR (decide (kd=1)||decide (kd=2))) H):=by
 have G:=h_ j;refine lq [0,1,2] ?_;refine G.box h λo r G=>?_;refine yz (λi=>?_) λi=>?_
 .refine rr ?_;refine⟨?_,G.ext⟩;rw[b_ i];rfl
 .refine fJ ?_;refine rr ?_;refine⟨?_,G.ext⟩;rw[dR i];rfl
def TX(j:Wf H)(kd:Int)(a e:D)(t x:D)(h:rJ (dP ⟨[vi kd,a,e,t,x]⟩)=F):bQ Pg X 204 [dP ⟨[vi kd,a,e,t,x]⟩] H (Q1 (λv _=>∃b:Bool,v=aR b/\(b=F->kd≠0)) H):=by
 have G:=h_ j;refine lq [0,1,2,4] ?_;refine G.box h λo r G=>?_;refine yz (λi=>?_) λi=>?_
 .rw[b_ i];refine G.lJ ?_;refine rr ?_;exact⟨⟨F,O,λ_=>N⟩,G.ext⟩
 refine aW (λi=>?_) λi=>?_
 .rw[b_ i];refine G.lJ ?_;refine rr ?_;exact⟨⟨F,O,λ_=>N⟩,G.ext⟩
 refine aW (λi=>?_) λi=>?_
 .rw[b_ i];refine G.lJ ?_;refine rr ?_;exact⟨⟨F,O,λ_=>N⟩,G.ext⟩
 refine aW (λi=>?_) λi=>?_
 .rw[b_ i];refine G.lJ ?_;refine rr ?_;exact⟨⟨F,O,λ_=>N⟩,G.ext⟩
 refine aW (λi=>?_) λi=>?_
 .rw[b_ i];refine G.lJ ?_;refine rr ?_;exact⟨⟨F,O,λ_=>N⟩,G.ext⟩
 refine aW (λi=>?_) λi=>?_
 .rw[b_ i];refine G.lJ ?_;refine rr ?_;exact⟨⟨F,O,λ_=>N⟩,G.ext⟩
 refine aW (λi=>?_) λi=>?_
 .refine rr ?_;exact⟨⟨F,O,λ_=>N⟩,G.ext⟩
 .refine rr ?_;exact⟨⟨aA,O,λh=>by cases h⟩,G.ext⟩
def NoV(ay:Nat->Prop)(H:R)(v:D):Prop:=∃l,v=dP ⟨l⟩/\NoC ay H l
def GB.two{ty:aH}(i:GB ty es v f gb):fZ v=F/\bY v=[v]:=by
 rcases i with⟨rfl,_,_⟩|⟨r,n,j,rfl,_,_⟩<;>exact⟨O,O⟩
theorem EP(hR:Rd ay q k H hx)(G:SH S H0 H<|hx++L)(hv:NoV ay H v)(at':Int):bQ Pg X 175 [pr q.rr,v,vi at'] H λw Q=>∃(i:Nat)(b:Bool)(M':C eB),w=fO ⟨[B i,aR b]⟩/\i<4000/\Rd ay q k Q M'/\SH (hx.map (·.1)) H Q M':=by
 have Y:=hR;have y:=G;have G:=G.own;have an:=hR.ty y;obtain⟨rv,a2,U,nv,jA,gn,sc,sa,nr,nn,rfl,I,W,h3,h4,h5,h6,h7,h8,h9,ap,DZ⟩:=hR;obtain⟨l,rfl,al⟩:=hv;obtain⟨kd,ka,kn,kc,ks,t,rs,na,rfl,a4,a5,a6,a7,ar⟩:=id al;obtain⟨xa,xn,xc,ba,rfl,R7⟩:=id ar
 obtain⟨ao,j,cc,rfl,ag,a8⟩:∃a n c,nv=u a n c/\J jA=n*5/\True:=by
  rcases h7 with⟨rfl,rfl,_⟩|⟨r,n,eY,rfl,hn,_⟩
  .exact⟨_,_,_,O,gD,trivial⟩
  .exact⟨_,_,_,O,hn,trivial⟩
 have a0:j=nn:=N;subst a0;refine lq [0,1,2,4,6,7] ?_;refine G.box O λo rb G=>?_;refine yz (λhc=>?_) λhc=>?_
 .have ab:=G.perm (aI (l₁:=[_]));refine dD (CE (Y.on y G.ext) ab _ _) ?_;rintro v H3 ⟨rfl,M',Gs,wD⟩;refine rr ?_;refine⟨0,aA,M',O,N,Gs,?_⟩;exact fU (A:=[_])<|(ab.frame wD).perm aI
 .have aE:j<4000:=N;refine fJ ?_;refine G.Tq O O O N λH2 rx G uX=>?_;have G:=G.to (cs':=[vi kd,u ka kn kc,aJ t,u xa xn xc,vi na]) O;have G:=G.perm (L':=(rx,238,[vi kd,u ka kn kc,aJ t,u xa xn xc,vi na])::(gn++((rb,238,[vi kd,u ka kn kc,aJ t,u xa xn xc,vi na])::(q.rt,215,[u q.a q.n q.c])::(q.ra,3,[B k])::(q.rp,222,[qU q.rt q.ra])::(q.rr,226,[qU q.rt q.ra,zX q.rp q.ra q.rt,rv,u ao j cc,vi sc,vi sa])::U)))<|eX _<|aI (l₁:=_::_::_::_::_::U);refine h7.Jp G N O O N λv' H3 V ac G a9 SI xF=>?_;have G:=G.perm<|aI (l₂:=_::_::_::_::_::U);simp only[bV]at G
  obtain⟨va,a3,vc,rfl,E,_⟩:∃a n c,v'=u a n c/\J (jA++[vi kd,u ka kn kc,aJ t,u xa xn xc,vi na])=n*5/\True:=by
   rcases ac with⟨_,h,_⟩|⟨r,n,eY,rfl,hn,_⟩
   .exact absurd h gD
   .exact⟨_,_,_,O,hn,trivial⟩
  have a1:a3=j+1:=by rw[aS,ag]at E;simp at E;omega
  subst a1;refine G.n_ λHn G=>?_;have ad:q.rr≠rb:=(G.nq 0 4 O O N).symm
  have aq:∀K:Prop,K->kZ (opsOf<|sub Io [1,1,0]) [clS (bG<|Z ⟨q.rr,2+1,T⟩) (u va (j+1) vc) (hM (hM o H2) H3) Hn,cl 0,cl 0,cl 0,Df (hM o H2) H3,N_ o H2,clL 5 (bG<|Z ⟨rb,0,T⟩) o<|hN o,clL 1 (bG<|Z ⟨q.rr,2+1,T⟩) o<|hN o,cl 0,cl 0,cl 0,cl 0,cl 0]=F/\K:=by
   intro K hK;simp only[uX,fu,gT];generalize q.rr=rr at ad;rcases xF with e|e<;>rw[e]<;>apply mO (a:=rr) (b:=rb) ad yB fT fT hK
  refine aq _ ?_;refine fJ ?_;rw[qO N N];refine G.lJ ?_;have M:=G.ext;refine rr ?_;refine⟨j,F,(q.rt,215,[u q.a q.n q.c])::(q.ra,3,[B k])::(q.rp,222,[qU q.rt q.ra])::(q.rr,226,[qU q.rt q.ra,zX q.rp q.ra q.rt,rv,u va (j+1) vc,vi sc,vi sa])::(U++V),?_,aE,?_,fU (A:=[_]) G⟩
  .rw[show((j+1:Nat):Int)-1=((j:Nat):Int) by omega]
  .have BJ:=Y.on y M;have⟨rv',amb,gr',nv',amc,apr,sc',sa',nr',nn',e0,g1,g2,_⟩:=BJ;have hE:=Dt (es:=5) (n:=j) ag (xs:=[vi kd,u ka kn kc,aJ t,u xa xn xc,vi na]) O;refine⟨rv,a2,U,_,_,V,sc,sa,nr,j+1,O,I,g2,h3,h4,h5,h6,ac,E,N,λi hi=>?_,DZ⟩;have am:∀r∈((q.rt,215,[u q.a q.n q.c])::(q.ra,3,[B k])::(q.rp,222,[qU q.rt q.ra])::(q.rr,226,[qU q.rt q.ra,zX q.rp q.ra q.rt,rv,u ao j cc,vi sc,vi sa])::(U++gn)).map (λe:eB=>e.1),(¬ay r\/¬Ah H r 3)/\¬Ah H r 331:=λr hr=>⟨(an r hr).1.imp_left (λe=>by rw[e];exact DZ),(an r hr).2.1⟩;rcases dH i j with h|h
   .rw[hE.1 i h];exact(ap i h).st M am
   .obtain rfl:i=j:=N;rw[hE.2];exact al.st M am
end
section
variable{S:C Nat}
theorem adv(hw:Wf H)(hm:m<=900000)(hv:BI m H v):bQ Pg X 246 [v] H (Q1 (λv Q=>jr H.bU (m+1) Q v) H):=by
 refine lq [0,2,3,4,6,8,9,10] ?_;refine dD (Gq hw N hv) ?_;rintro v H2 ⟨ag,M⟩;obtain⟨a,n,c,f,rfl,hf,hn,hi⟩:=ag;have al:=M.wf hw;have G:=h_ al;have ao:H.bU<=H2.bU:=M.bU;refine bM ?_;refine PO 3 4 6 10 (h1:=λm x3 x4 x6 j_ Q=>∃(k:Nat)(i:C D)(gb:C eB)(z:Int),x4=bq bN z/\j_=B k/\k+m=n/\GB 331 2 x3 i gb/\J i<=2*k/\OE i/\SH [] H2 Q (gb++[])) ?_ n ⟨0,[],[],0,rfl,rfl,N,GB.nil _ _,gD,nofun,G⟩;clear G;rintro m' x3 x4 x6 j_ E Q ⟨k,i,gb,z,rfl,rfl,hk,U,ac,j,G⟩;refine iG.yD λK hK=>?_;refine tQ (λhc=>?_) λhc=>?_
 .have⟨r,o,e,hr,hrd,hel,_⟩:=hf.1.read N (show k<n by omega) c;rw[e];refine bM ?_;have⟨z1,z2,ez⟩:=TV hi (k:=k) (by rw[hf.1.1];omega);rw[ez]at hrd;refine G.BU hrd hr<|G.jP λH1 r1 G=>?_;refine G.lJ ?_;refine G.kE λHn G=>?_;refine fJ ?_
  have nx:∀x3 i gb E y,GB 331 2 x3 i gb->J i<=2*(k+1)->OE i->SH [] H2 y ((r1,331,[bq bN z1,bq bN z2])::(gb++[]))->
   iG Pg X (sub DC [1,1,1,0,1,0,0,1,1,0,0,1,1]) (Jy v (u T 0 0) x3 (bq bN z) (bG<|Z ⟨r1,0,T⟩) (u a n c) (B n) (B k) E y) (uB 1<|uW Pg X (sub DC [1,1,1,0,1,0,0,1,1,1]) K):=by
   intro x3 i gb E y U ac j G;subst hK;refine tm ?_;refine tl ?_;refine eG ?_;refine bM ?_;exact⟨m'-1,N,_,_,_,_,_,_,O,k+1,i,gb,_,O,O,N,U,N,j,fU (A:=[_]) G⟩
  refine aW (λhd=>?_) λhd=>?_
  .refine fJ ?_;refine G.bS O O O N λH3 rx G=>?_;have G:=G.perm (L':=(rx,331,bY<|dP ⟨[bq bN z,bq bN<|qd bN<|z1-1]⟩)::(gb++[(r1,331,[bq bN z1,bq bN z2])]))<|eX _<|PE _ _;refine U.add G N O O N λv' y iN Y G ap=>?_;exact nx _ _ _ _ _ Y (by rw[aS];show J i+2<=_;omega) (j.app _ _)<|G.perm (PE _ _).symm
  .exact nx _ _ _ _ _ U N j G
 .have ab:∀v' i gb y,GB 331 2 v' i gb->J i<=2*(n+1)->OE i->SH [] H2 y (gb++[])->∀K:D->R->Prop,(∀w V,jr H.bU (m+1) V w->Ext H V->K w V)->bQ Pg X 226 [v'] y K:=by
   intro v' i gb y U ac j G K hk;obtain⟨a',n',c',rfl,an,ad⟩:=U.fl G;refine dD (Gq (KM:=m+1) G.wf N ⟨a',n',c',i,O,ad,N,j⟩) ?_;rintro w V ⟨Yw,am⟩;have:=G.ext.bU;exact hk w V (Yw.le (ax _) N)<|(M.trans G.ext).trans am
  obtain rfl:k=n:=N;subst hK;refine bM ?_;refine tQ (λhd=>?_) λhd=>?_
  .refine fJ ?_;refine G.bS O O O N λH3 rx G=>?_;have⟨v',y,iN,e,Y,G,_⟩:=U.app (m:=0) (cx:=1) G N O O N N;refine ME.of e ?_;refine ab _ _ _ _ Y (by rw[aS];show J i+2<=_;omega) (j.app _ _) G _ λw V I W=>?_;refine rr ?_;exact⟨I,W⟩
  .refine ab _ _ _ _ U N j G _ λw V I W=>?_;refine rr ?_;exact⟨I,W⟩
end
section
variable{S:C Nat}{ay:Nat->Prop}
def TY(ay:Nat->Prop)(q:RC)(hx:C eB)(H:R)(k:Nat)(j:Bool)(w:D)(Q:R):Prop:=∃(i:Int)(b:Bool)(o:Nat)(M':C eB),w=fO ⟨[vi i,aR b]⟩/\Rd ay q o Q M'/\SH (hx.map (·.1)) H Q M'/\k<=o/\(b=F->j=F->k<o)
def agn(q:RC)(k:Nat):Prop:=∀(ay:Nat->Prop) H hx d,(∀r,H.bU<=r->ay r)->Rd ay q k H hx->SH (hx.map (·.1)) H H hx->d<=40->bQ Pg X 146 [pr q.rr,B d] H (TY ay q hx H k aA)
def agp(q:RC)(k:Nat):Prop:=∀(ay:Nat->Prop) H hx d,(∀r,H.bU<=r->ay r)->Rd ay q k H hx->SH (hx.map (·.1)) H H hx->d<=40->bQ Pg X 174 [pr q.rr,B d] H (TY ay q hx H k aA)
def agq(q:RC)(k:Nat):Prop:=∃(kd:Int)(l:C D),El q.f 5 k=vi kd::l/\kd≠0
def agr(q:RC)(k:Nat):Prop:=∀(ay:Nat->Prop) H hx d,(∀r,H.bU<=r->ay r)->Rd ay q k H hx->SH (hx.map (·.1)) H H hx->d<=40->agq q k->bQ Pg X 205 [pr q.rr,B d] H (TY ay q hx H k F)
def amd(q:RC)(k:Nat):Prop:=∀(ay:Nat->Prop) H hx d,(∀r,H.bU<=r->ay r)->Rd ay q k H hx->SH (hx.map (·.1)) H H hx->d<=40->agq q k->bQ Pg X 227 [pr q.rr,B d] H (TY ay q hx H k F)
def agq.lt(h:agq q k)(i:Rd ay q k H hx):k+1<q.n:=by
 have⟨kd,l,I,W⟩:=h;have j:=i.le;have⟨kd',at',e,t,xa,xn,xc,h3,_,_,_,hz⟩:=i.tok j.1;rw[I]at h3
 have:kd=kd':=by
  have:=(kP h3).1;injection this
 have:k≠q.n-1:=λe=>W (by rw[this];exact hz e);omega
def Iw{rs:D}{at':Int}(ht:t.size<=1000000)(i:jr 0 20001 H rs):NoV ay H (dP ⟨[vi kd,u T 0 0,aJ t,rs,vi at']⟩):=
 ⟨_,rfl,kd,T,0,0,[],t,rs,at',rfl,jJ.nil _ _ _ _ _,N,nofun,ht,i⟩
def Rd.n(h:Rd ay q k H hx):Rd ay q k (hN H) hx:=h
def SH.nn(h:SH S H H hx):SH S (hN H) (hN H) hx:=h.zD
theorem ajs(B:Rd ay q kb Hb Mb)(o:SH (hx.map (·.1)) H Hb Mb)(hk:k<kb)(G:SH (Mb.map (·.1)) Hb Hc<|Lx++Mb)(J:NoV ay Hc v)(z:Int):
 bQ Pg X 175 [pr q.rr,v,vi z] Hc λw Q=>∃(i:Int)(b:Bool),w=fO ⟨[vi i,aR b]⟩/\TY ay q hx H k F w Q:=by
 have j:=G.perm<|aI (l₁:=Lx);have y:SH (hx.map (·.1)) H Hb (Mb++[]):=by rw[bF];exact o
 refine dD (EP (B.on y G.ext) j J z) ?_;rintro w T ⟨i,b,I,rfl,_,E,M⟩;refine⟨i,b,O,i,b,kb,I,O,E,?_,N,λ_ _=>hk⟩;exact o.over (by simpa using fU (A:=Lx) ((j.frame M).perm aI))
theorem aie(B:Rd ay q kb Hb Mb)(o:SH (hx.map (·.1)) H Hb Mb)(hk:k<kb)(G:SH (Mb.map (·.1)) Hb Hc<|Lx++Mb)(J:NoV ay Hc v)(z:Int):
 bQ Pg X 175 [pr q.rr,v,vi z] (hN Hc) λw Q=>∃(i:Int)(b:Bool),w=fO ⟨[vi i,aR b]⟩/\TY ay q hx H k F w (hM Hc Q):=by
 have j:=G.perm<|aI (l₁:=Lx);have y:SH (hx.map (·.1)) H Hb (Mb++[]):=by rw[bF];exact o
 refine dD (EP (B.on y G.ext).n j.zD (v:=v) J z) ?_;rintro w T ⟨i,b,I,rfl,_,E,M⟩;refine⟨i,b,O,i,b,kb,I,O,E,?_,N,λ_ _=>hk⟩;exact o.over (by simpa using fU (A:=Lx) ((j.acw M).perm aI))
def NoV.n(h:NoV ay H v):NoV ay (hN H) v:=h
theorem ags(ih:∀k',k<k'->agn q k'):amd q k:=by
 intro ay H hx d hF hR G hd am;have a9:=am.lt hR;have a4:=hR.le;have⟨kd,at',e',t,xa,xn,xc,he,ha2,ht,hrs,hz⟩:=hR.tok a4.1
 have a7:kd≠0:=by
  have⟨kd',l,I,W⟩:=am;rw[he]at I;have:=(kP I).1;injection this with _ h3
  omega
 have a5:=hR.ty (L:=[]) (by rw[bF];exact G);have an:SH (hx.map (·.1)) H H (hx++[]):=by rw[bF];exact G
 refine GY [0,1,4,5,6,7,8,9,16] ?_;refine hR.bU an λH1 Y V U j=>?_;rw[show min (k+1) (q.n-1)=k+1 by omega]at V;rw[he];have ao:jr 0 20000 H1 (u xa xn xc):=hrs.stay j.ext λr hr=>.inr (a5 r hr).2.1;have a8:=j;have ap:=V.ty (L:=[]) U;have G:=U.own;refine G.jP λH2 rb G=>G.kE λH3 G=>?_;have G:SH (Y.map (·.1)) H1 H3 ((rb,221,[vi kd,B at',B e',aJ t,u xa xn xc])::Y):=G;have aq:∀H3,pI (Y.map (·.1)) H1 H3->jr 0 20000 H3 (u xa xn xc):=λH3 M=>ao.stay M λr hr=>.inr (ap r hr).2.1;refine fJ ?_
 have Nc:∀(b:Bool) E,Co E 17=aR b->iG Pg X (sub AQ [1,1,0,1,0,1]) (Fy (pr q.rr) (B d) (bq bC 0) (aR aA) (bG<|Z ⟨rb,0,T⟩) top top top (vi kd) E H3) (uB 0<|uW Pg X (sub AQ [1,1,1])<|jZ Pg [.tmp 4,.tmp 5]<|TY ay q hx H k F):=by
  intro b E hb;refine tl ?_;rw[hb];refine sD (λhb=>?_) λhb=>?_
  .refine fJ ?_;refine dD (ajs (Lx:=[_]) V j (dI k) G (Iw ht<|jr.nil _ _ _) _) ?_;rintro w H4 ⟨i,b,rfl,hw⟩;refine bM ?_;exact rr<|hw
  refine aW (λhc=>?_) λhc=>?_
  .refine fJ ?_;refine dD (ajs (Lx:=[_]) V j (dI k) G (Iw ht<|jr.nil _ _ _) _) ?_;rintro w H4 ⟨i,b,rfl,hw⟩;refine bM ?_;exact rr<|hw
  refine aW (λhc=>?_) λhc=>?_
  .refine fJ ?_;refine dD (ajs (Lx:=[_]) V j (dI k) G (Iw (t:=⟨#[]⟩) (bD _)<|(aq _ G.ext).le N<|ax _) _) ?_;rintro w H4 ⟨i,b,rfl,hw⟩;refine bM ?_;exact rr<|hw
  refine aW (λhc=>?_) λhc=>?_
  .refine dD (ads<|oU _) ?_;rintro v H4 ⟨hv,ad⟩;obtain⟨ya,yn,yc,ba,rfl,a6⟩:=id hv;have G:=G.oI ad;refine fJ ?_;refine dD (aie (Lx:=[_]) V j (dI k) G (Iw (t:=⟨#[]⟩) (bD _)<|hv.le N<|bD _) _) ?_;rintro w H5 ⟨i,b,rfl,hw⟩;refine G.lJ ?_;simp only[gJ ad,fu];rcases xB (hM H3 H4) H5 with e|e<;>rw[e]<;>apply Gc (a:=rb) yB fT fT<;>(refine rr ?_;exact hw)
  refine aW (λhc=>?_) λhc=>?_
  .have xM:=G.perm (aI (l₁:=[_]));refine(V.on U G.ext).Q_ xM 0 N λH4 I4 xM ad=>?_;rw[show min (k+1+0) (q.n-1)=k+1 by omega];have⟨kd2,at2,e2,t2,ya,yn,yc,he2,_,_,_,_⟩:=I4.tok (i:=k+1) N;rw[he2];have G:=xM;refine G.jP λH5 rc G=>G.kE λH6 G=>?_;have G:SH (Y.map (·.1)) H1 H6 ((rc,221,[vi kd2,B at2,B e2,aJ t2,u ya yn yc])::(Y++[(rb,221,[vi kd,B at',B e',aJ t,u xa xn xc])])):=G
   have xP:SH (Y.map (·.1)) H1 H6 (Y++[(rb,221,[vi kd,B at',B e',aJ t,u xa xn xc]),(rc,221,[vi kd2,B at2,B e2,aJ t2,u ya yn yc])]):=by
    have:=G.perm<|aI (l₁:=[_]);have e:=cz Y [((rb,221,[vi kd,B at',B e',aJ t,u xa xn xc]):eB)] [((rc,221,[vi kd2,B at2,B e2,aJ t2,u ya yn yc]):eB)];exact this.cast e
   refine dD (JB (V.on U G.ext) xP 4 jq) ?_;rintro v H7 ⟨b,k2,M2,rfl,Yx,JC,a2,ar⟩;have J:=xP.frame JC;have al:=J.own;have ag:SH (hx.map (·.1)) H H7 M2:=j.over<|fU (A:=[_,_])<|J.perm aI;cases b with
   |false=>
    refine bM ?_;refine(show∀{A vn:Prop},A->yU (Z !aA) A vn fromλh=>h)<|rr ?_;exact⟨0,aA,k2,M2,O,Yx,ag,N,λh=>by cases h⟩
   |true=>
    have a3:k2=k+1+1:=ar O;refine bM ?_;refine(show∀{A vn:Prop},vn->yU (Z !F) A vn fromλh=>h) ?_;have bc:=J.bk (rc,221,[vi kd2,B at2,B e2,aJ t2,u ya yn yc]) gD;have bb:=J.bk (rb,221,[vi kd,B at',B e',aJ t,u xa xn xc]) gD;have lc:=(J.lo (rc,221,[vi kd2,B at2,B e2,aJ t2,u ya yn yc]) gD).2;have lb:=(J.lo (rb,221,[vi kd,B at',B e',aJ t,u xa xn xc]) gD).2
    have aE:rb≠rc:=by
     have:=G.apart (A:=[_]) (x:=(rc,221,[vi kd2,B at2,B e2,aJ t2,u ya yn yc])) (y:=(rb,221,[vi kd,B at',B e',aJ t,u xa xn xc])) (aL ..) gD;exact this.symm
    have⟨_,_,_,_,_,_,_,he3,_,_,ame,_⟩:=Yx.tok (i:=k+1) N;rw[he2]at he3;have a1:=(kP (kP (kP (kP (kP he3).2).2).2).2).1;rw[<-a1]at ame;have G:=h_ al.wf;refine G.Jq (bc.cell (o:=4) O) lc ?_;refine G.lJ ?_;refine dD (adv (oU _) (m:=20000) N ame.i) ?_;rintro v H8 ⟨hv,BK⟩;obtain⟨za,zn,zc,bd,rfl,a6⟩:=id hv;have G:=G.oI BK;refine G.Jq (bb.cell (o:=1) O) lb ?_;refine fJ ?_;refine G.Jq (bc.cell (o:=1) O) lc ?_;refine G.lJ ?_;refine dD (aie (Lx:=[]) Yx ag (show k<k2 by omega) (al.oI BK) (Iw (t:=⟨#[]⟩) (bD _)<|hv.le N<|bD _) _) ?_;rintro w H9 ⟨i,b,rfl,hw⟩;refine G.lJ ?_;simp only[gJ BK,fu];rcases xB (hM H7 H8) H9 with e|e<;>rw[e]<;>apply mO (a:=rb) (b:=rc) aE yB fT fT<;>(refine rr ?_;exact hw)
  .refine tl ?_;have xM:=G.perm<|aI (l₁:=[_]);refine G.lJ ?_;refine aW (λa0=>?_) λa0=>?_
   .refine G.qF<|dD (CE (V.on U G.ext) xM _ _) ?_;rintro w H5 ⟨rfl,M2,OG,ac⟩;refine rr ?_;exact⟨0,aA,k+1,M2,O,OG,j.over<|fU (A:=[_])<|(xM.frame ac).perm aI,N,λh=>by cases h⟩
   .rw[gB N N];refine bM ?_;refine dD (ih (k+1) N ay H3 Y (d+1) (λr hr=>hF r (by have:=j.ext.bU;have:=G.ext.bU;omega)) (V.on U G.ext) xM.own N) ?_;rintro w H5 ⟨i,b,k2,M2,rfl,OG,ac,a2,_⟩;have ab:=xM.frame ac;refine bM ?_;cases b with
    |false=>
     refine(show∀{A vn:Prop},vn->yU (Z aA) A vn fromλh=>h)<|rr ?_;exact⟨i,aA,k2,M2,O,OG,j.over<|fU (A:=[_])<|ab.perm aI,N,λh=>by cases h⟩
    |true=>
     refine(show∀{A vn:Prop},A->yU (Z F) A vn fromλh=>h)<|dD (JB OG ab 9 jq) ?_;rintro w H6 ⟨b,k3,M3,rfl,ER,xP,a3,_⟩;refine rr ?_;exact⟨i,b,k3,M3,O,ER,j.over<|fU (A:=[_])<|(ab.frame xP).perm aI,N,λ_ _=>N⟩
 refine aW (λhc=>?_) λhc=>?_
 .exact Nc _ _ (by simp only[yY];rfl)
 .exact Nc _ _ (by simp only[yY];rfl)
end
section
variable{S:C Nat}{ay:Nat->Prop}
def Rd.mem(h:Rd ay q k H hx):(q.ra,3,[B k])∈hx:=by
 obtain⟨I,i,o,E,y,j,sc,J,nr,nn,rfl,_⟩:=h;simp
def Ra{n:Nat}{at':Int}(i:jJ ay 3 H a n 1 ks)(j:n<=20001)(hk:∀x∈ks,∃z:Int,x=vi z):NoV ay H (dP ⟨[vi kd,u a n c,aJ ⟨#[]⟩,u T 0 0,vi at']⟩):=
 ⟨_,rfl,kd,a,n,c,ks,⟨#[]⟩,_,at',rfl,i,j,hk,bD _,jr.nil _ _ _⟩
def V7(ha:amd q k):agr q k:=by
 intro ay H hx d hF hR G hd ab;have aq:=ab.lt hR;refine lq [0,1,4,5,6,7,8,22] ?_;refine dD (ha ay H hx d hF hR G hd ab) ?_;rintro w H1 ⟨i,b,k1,I,rfl,BJ,V,Y,ag⟩;refine bM ?_;cases b with
 |false=>
  refine(show∀{A vn:Prop},A->yU (Z !aA) A vn fromλh=>h) ?_;refine rr ?_;exact⟨0,aA,k1,I,O,BJ,V,Y,λh=>by cases h⟩
 |true=>
  have an:=ag O O;refine(show∀{A vn:Prop},vn->yU (Z !F) A vn fromλh=>h) ?_;have ac:SH (hx.map (·.1)) H H1 (I++[]):=by rw[bF];exact V
  refine BJ.Q_ ac 0 N λH2 o y ar=>?_;have ao:=o.le;rw[show min (k1+0) (q.n-1)=k1 by omega];have⟨kd,at',e',t,xa,xn,xc,he,_⟩:=o.tok ao.1;rw[he,Gt]
  have J:∀(z:Int) E,iG Pg X (sub DV [1,1,1,1,1]) (Dq (pr q.rr) (B d) (bq bC 0) (aR aA) (vi i) (aR F) (vi z) (vi kd) E H2) (jZ Pg [.tmp 4,.tmp 5]<|TY ay q hx H k F):=by
   intro z E;have Nj:SH (hx.map (·.1)) H H2 I:=by rw[<-bF I];exact y
   have G:=y.own;refine tl ?_;refine G.bS O O O N λH3 U G=>?_;have G:SH (I.map (·.1)) H2 H3 ((U,3,[vi i])::I):=G
   have am:H.bU<=U:=by
    rcases(G.lo (U,3,[vi i])<|aL ..).1 with h|h
    .exfalso;have⟨e,he,e1⟩:=bP.1 h;exact G.apart (A:=[_]) (aL ..) he e1.symm
    .have:=Nj.ext.bU;omega
   refine bM ?_;refine PU.b5 O<|bM ?_;have wD:=G.perm<|aI (l₁:=[_]);have Gs:=o.on y G.ext;refine Gs.bU wD λH4 M4 I4 xM aE=>?_;rw[he,V6];refine bM ?_;have ap:ay U:=hF U am;have al:jJ ay 3 H4 (Z ⟨U,0,T⟩) 1 1 [vi i]:=jJ.one xM (dL _<|aT.2 O) O ap;refine dD (EP I4 xM (Ra al N λx M=>⟨i,nZ M⟩) _) ?_;rintro w H5 ⟨j,b,M5,rfl,_,OG,ad⟩;refine bM ?_;refine rr ?_;refine⟨j,b,_,M5,O,OG,?_,N,λ_ _=>N⟩;exact Nj.over<|fU (A:=[_])<|(xM.frame ad).perm aI
  refine tO (λW=>?_) λW=>?_
  .exact J _ _
  refine aW (λW=>?_) λW=>?_
  .exact J _ _
  refine aW (λW=>?_) λW=>?_
  .exact J _ _
  refine rr ?_;refine⟨i,F,k1,I,O,o,?_,Y,λ_ _=>an⟩
  rwa [bF]at y
def Rd.stay{S':C Nat}(h:Rd ay q k H hx)(M:pI S' H Q)(hk:∀r∈S',(¬ay r\/¬Ah H r 3)/\¬Ah H r 331/\¬Ah H r 221):Rd ay q k Q hx:=by
 have⟨rv,rcs,gr,nv,jA,gn,sc,sa,nr,nn,h0,I,W,h3,h4,h5,h6,h7,h8,h9,h10,DZ⟩:=h;exact⟨rv,rcs,gr,nv,jA,gn,sc,sa,nr,nn,h0,I,W.st M (λr j=>.inr (hk r j).2)<|ax _,h3,h4,h5,h6,h7,h8,h9,λi o=>(h10 i o).st M λr j=>⟨(hk r j).1,(hk r j).2.1⟩,DZ⟩
abbrev Fo(ay:Nat->Prop)(gb:C eB):Nat->Prop:=λr=>ay r/\r∉gb.map (·.1)
def adw{x:D}(T:¬ay q.ra)(V:GB 3 1 x ks gb)(G:SH S H0 H<|hx++gb)(Y:Rd (Fo ay gb) q k H hx)(hl:J ks<=1000000)(z:Int)(kk:∀w v' i iN,GB 3 1 v' (ks++[vi z]) iN->SH S H0 i (hx++iN)->Rd (Fo ay iN) q k i hx->(∀e∈iN,e.1∈gb.map (·.1)\/H.bU<=e.1)->K w v' i):
 ME (bS 3 [bq bC 0] 1 1 [(0,vi z)] H) λw U=>ME (Bo 3 1 x w U) (K w):=by
 have B:=G.perm<|aI (l₁:=hx);have X:SH (gb.map (·.1)) H H (gb++[]):=by rw[bF];exact B.own
 have j:∀ty:aH,((3:Nat)==ty)=aA->∀r∈gb.map (·.1),¬Ah H r ty:=λty ht=>B.own.AO<|V.all ht;refine X.bS O O O N λU rx I=>?_;have⟨v',i,iN,e1,hg',y,_⟩:=V.app (m:=0) (cx:=1) I N O O N N;refine ME.of e1 ?_;rw[bF]at y;have W:Rd (λr=>Fo ay gb r/\r<H.bU) q k H hx:=Y.wk (λr o h=>⟨h,o⟩) λh=>T h.1.1;have E:=W.stay y.ext λr o=>⟨.inl λh=>h.1.2 o,j 331 O r o,j 221 O r o⟩;refine kk _ v' i iN hg' ((B.frame y).perm aI) (E.wk (λr _ h=>⟨h.1.1,λhm=>?_⟩) λh=>T h.1) λe M=>(y.lo e M).1;have⟨e,M,e1⟩:=bP.1 hm;rcases(y.lo e M).1 with h3|h3
 .exact h.1.2 (by rw[<-e1];exact h3)
 .have:=h.2;omega
theorem row_of(he:∀k',k<=k'->agr q k'):agp q k:=by
 intro ay H hx d hF hR G hd;have a3:=hR.le
 have DZ:¬ay q.ra:=by
  have⟨_,_,_,_,_,_,_,_,_,_,_,_,_,_,_,_,_,_,_,_,_,h⟩:=hR;exact h
 refine lq [0,1,4,5,6,7,8] ?_;refine Yt 4 5 6 7 8 (h1:=λm x4 x5 x6 x7 x8 Q=>∃(k':Nat)(M':C eB)(ks:C D)(gb:C eB),x4=vi 0/\x5=aR aA/\k'+m=q.n/\k<=k'/\Rd (Fo ay gb) q k' Q M'/\SH (hx.map (·.1)) H Q (M'++gb)/\GB 3 1 x6 ks gb/\J ks<=k'-k/\(∀x∈ks,∃z:Int,x=vi z)/\∀e∈gb,H.bU<=e.1) ?_ (q.n-k) ⟨k,hx,[],[],rfl,rfl,N,ax _,hR.wk (λr _ h=>⟨h,gD⟩) λh=>DZ h.1,by rw[bF];exact G,GB.nil _ _,bD _,nofun,nofun⟩;clear hR G;rintro m x4 x5 x6 x7 x8 E Q ⟨y,M1,ks,gb,rfl,rfl,a2,ap,BJ,ag,hg,a1,Y,X⟩;have ac:=BJ.le;refine tp ?_;refine BJ.Q_ ag 0 N λH2 T U a4=>?_;rw[show min (y+0) (q.n-1)=y by omega];have⟨kd,at',e',t,xa,xn,xc,hel,_⟩:=T.tok ac.1;rw[hel];refine dD (TX U.wf kd _ _ _ _ O) ?_;rintro w H3 ⟨⟨b,rfl,hb⟩,ab⟩;have Gs:=T.ex ab;have B:=U.call ab;refine sD (λV=>?_) λV=>?_
 .have ad:∀r,H3.bU<=r->Fo ay gb r:=λr hr=>⟨hF r (by have:=B.ext.bU;omega),λhm=>by
   have⟨e,he,e1⟩:=bP.1 hm;have:=(B.lo e<|dL _ he).2;omega⟩
  refine dD (he y ap _ H3 M1 d ad Gs B.own hd ⟨kd,_,hel,hb V⟩) ?_;rintro w H4 ⟨i,b,k2,M2,rfl,I,xM,aE,al⟩;have V8:=B.frame xM;refine bM ?_;cases b with
  |false=>
   refine(show∀{A vn:Prop},A->yU (Z !aA) A vn fromλh=>h) ?_;refine rr ?_;exact⟨0,aA,k2,M2,O,I.wk (λr _ h=>h.1) DZ,fU (A:=gb)<|V8.perm aI,N,λh=>by cases h⟩
  |true=>
   have a0:=al O O;have aq:=I.le;refine(show∀{A vn:Prop},vn->yU (Z !F) A vn fromλh=>h)<|adw DZ hg V8 I N i λw v' H6 iN an xP ER ao=>⟨q.n-k2,N,_,_,_,_,_,_,_,rfl,k2,M2,ks++[vi i],iN,rfl,rfl,N,N,ER,xP,an,by rw[aS];show J ks+1<=_;omega,λx M=>?_,λe o=>?_⟩
   .rcases cK.1 M with h|h
    .exact Y x h
    .exact⟨i,nZ h⟩
   .rcases ao e o with h|h
    .have⟨e2,W,h3⟩:=bP.1 h;rw[<-h3];exact X e2 W
    .have:=V8.ext.bU;omega
 .refine tl ?_;obtain⟨a,n,c,rfl,hn,am⟩:=hg.KF (ay:=ay) (B.perm<|aI (l₁:=M1)) λe o=>hF _<|X e o;refine PU.b5 O<|bM ?_;refine Gs.Q_ B 0 N λH4 I xM ar=>?_;rw[show min (y+0) (q.n-1)=y by omega,hel,V6];refine bM ?_;have OG:Rd ay q y H4 M1:=I.wk (λr _ h=>h.1) DZ;refine dD (EP OG xM (Ra (am.ex ar) N Y) _) ?_;rintro w H5 ⟨j,b,M5,rfl,_,ER,xP⟩;refine bM ?_;refine rr ?_;exact⟨j,b,y,M5,O,ER,fU (A:=gb)<|(xM.frame xP).perm aI,N,λ_ h=>by cases h⟩
theorem V9(he:∀k',k<=k'->agp q k'):agn q k:=by
 intro ay H hx d hF hR G hd;have a6:=hR.le
 have DZ:¬ay q.ra:=by
  have⟨_,_,_,_,_,_,_,_,_,_,_,_,_,_,_,_,_,_,_,_,_,h⟩:=hR;exact h
 refine lq [0,1,4,5,6,7,8] ?_;refine Yt 4 5 6 7 8 (h1:=λm x4 x5 x6 x7 x8 Q=>∃(k':Nat)(M':C eB)(ks:C D)(gb:C eB),x4=vi 0/\x5=aR aA/\k'+m=q.n/\k<=k'/\Rd (Fo ay gb) q k' Q M'/\SH (hx.map (·.1)) H Q (M'++gb)/\GB 3 1 x6 ks gb/\J ks<=k'-k/\(∀x∈ks,∃z:Int,x=vi z)/\∀e∈gb,H.bU<=e.1) ?_ (q.n-k) ⟨k,hx,[],[],rfl,rfl,N,ax _,hR.wk (λr _ h=>⟨h,gD⟩) λh=>DZ h.1,by rw[bF];exact G,GB.nil _ _,bD _,nofun,nofun⟩;clear hR G;rintro m x4 x5 x6 x7 x8 E Q ⟨k1,M1,ks,gb,rfl,rfl,a5,ar,BJ,T,hg,a4,aE,ap⟩;have a0:=BJ.le
 have an:∀r,Q.bU<=r->Fo ay gb r:=λr hr=>⟨hF r (by have:=T.ext.bU;omega),λhm=>by
  have⟨e,he,e1⟩:=bP.1 hm;have:=(T.lo e<|dL _ he).2;omega⟩
 refine tl ?_;refine dD (he k1 ar _ Q M1 d an BJ T.own hd) ?_;rintro w H4 ⟨i,b,y,M2,rfl,I4,xM,a2,a1⟩;have V8:=T.frame xM;have ac:=I4.le;refine bM ?_;cases b with
 |false=>
  refine(show∀{A vn:Prop},A->yU (Z !aA) A vn fromλh=>h) ?_;refine rr ?_;exact⟨0,aA,y,M2,O,I4.wk (λr _ h=>h.1) DZ,fU (A:=gb)<|V8.perm aI,N,λh=>by cases h⟩
 |true=>
  refine(show∀{A vn:Prop},vn->yU (Z !F) A vn fromλh=>h)<|adw DZ hg V8 I4 N i λw v' H6 iN ag xP ER aq=>?_
  have V:∀e∈iN,H.bU<=e.1:=λe Y=>by
   rcases aq e Y with h|h
   .have⟨e2,W,h3⟩:=bP.1 h;rw[<-h3];exact ap e2 W
   .have:=V8.ext.bU;omega
  have X:∀x∈ks++[vi i],∃z:Int,x=vi z:=λx M=>by
   rcases cK.1 M with h|h
   .exact aE x h
   .exact⟨i,nZ h⟩
  have ab:J (ks++[vi i])=J ks+1:=gD;refine ER.Q_ xP 0 N λH7 Yx JC a7=>?_;rw[show min (y+0) (q.n-1)=y by omega];have⟨kd,at',e',t,xa,xn,xc,hel,_,_,_,hz⟩:=Yx.tok ac.1;rw[hel,Gt];refine yx (λhc=>?_) λhc=>?_
  .refine tl ?_;obtain⟨a,n,c,rfl,hn,ad⟩:=ag.KF (ay:=ay) (JC.perm<|aI (l₁:=M2)) λe Y=>hF _<|V e Y;refine tO (λI=>?_) λI=>?_
   .have I:n=1:=N;subst I;have⟨r,o,e,hr,hrd,_⟩:=ad.1.idx (c:=c) N (show 0<1 by omega);have⟨z,hz'⟩:=X (ks++[vi i])[0]<|bH _;have e:B_ 1 (u a 1 c) (bq bC 0)=_:=e;rw[e];refine bM ?_;refine iY (hrd 0 (vi z) N<|by rw[av N,<-hz']) ?_;refine rr ?_;exact⟨z,F,y,M2,O,Yx.wk (λr _ h=>h.1) DZ,fU (A:=iN)<|JC.perm aI,N,λ_ h=>by cases h⟩
   .refine PU.b5 O<|bM ?_;refine Yx.Q_ JC 0 N λH8 B U BK=>?_;rw[show min (y+0) (q.n-1)=y by omega,hel,V6];refine bM ?_;have ao:Rd ay q y H8 M2:=B.wk (λr _ h=>h.1) DZ;refine dD (EP ao U (Ra (ad.ex BK) N X) _) ?_;rintro w H9 ⟨j,b,M5,rfl,_,am,al⟩;refine bM ?_;refine rr ?_;exact⟨j,b,y,M5,O,am,fU (A:=iN)<|(U.frame al).perm aI,N,λ_ h=>by cases h⟩
  .have a3:y≠q.n-1:=λe=>by have:=hz e;omega
   refine Yx.bU JC λH8 M8 B U BK=>?_;rw[show min (y+1) (q.n-1)=y+1 by omega]at B;refine⟨q.n-(y+1),N,_,_,_,_,_,_,_,O,y+1,M8,ks++[vi i],iN,O,O,N,N,B,U,ag,by rw[ab];omega,X,V⟩
def ajw:∀(n k:Nat),q.n<=k+n->agn q k/\agp q k/\agr q k:=by
 intro n
 induction n with
 |zero=>
  intro k I;have o:∀i,k<=i->∀(ay:Nat->Prop) H hx,¬Rd ay q i H hx:=λi h ay H hx j=>by have:=j.le;omega
  exact⟨λay H hx d _ j=>absurd j<|o k (ax _) _ _ _,λay H hx d _ j=>absurd j<|o k (ax _) _ _ _,λay H hx d _ j=>absurd j<|o k (ax _) _ _ _⟩
 |succ n E=>
  intro k I;have y:agr q k:=V7<|ags λi h=>(E i N).1
  have B:agp q k:=row_of λi h=>by
   rcases Nat.eq_or_lt_of_le h with rfl|h
   .exact y
   .exact(E i N).2.2
  refine⟨V9 λi h=>?_,B,y⟩;rcases Nat.eq_or_lt_of_le h with rfl|h
  .exact B
  .exact(E i N).2.1
def V'(q:RC)(k:Nat):agn q k:=(ajw (q.n) k N).1
end
section
variable{S:C Nat}{ay:Nat->Prop}
theorem _root_.Go.Ae.SH.oV{ty:aH}{z:C D}{n:Nat}(G:SH S H0 H L)(hl:J (bY v)=n)(j:J z=n)(hk:all' fZ (bY v)=F)(k:∀H2 r,SH S H0 H2 ((r,ty,bY v)::L)->Ext H H2->K (bG<|Z ⟨r,0,T⟩) undef H2):ME (Go.Ae.jP ty z H) λp H1=>ME (Go.Ae.Es n p v H1) λai H2=>K p ai H2:=by
 have i:=h_ G.wf;refine i.jP λH1 r i=>i.st 0 O hl N hk λH2 i=>?_;have i:SH [] H H2 [(r,ty,splice z 0<|bY v)]:=i;rw[oz _ _ N]at i;exact k H2 r (SH.frame (hx:=[]) (L:=L) G i) i.ext
def Rd.st(U:Rd ay q k H hx){ty:aH}(G:SH S H0 H<|(b,ty,f)::(hx++L))(N:(ty==3)=aA)(B:(ty==331)=aA)(y:(ty==221)=aA){o n:Nat}(hl:J (bY v)=n)(V:o+n<=J f)(hk:all' fZ (bY v)=F){K:D->R->Prop}(kk:∀H1,Rd ay q k H1 hx->SH S H0 H1 ((b,ty,splice f o<|bY v)::(hx++L))->H.bU<=H1.bU->K undef H1):ME (Es n (bG<|Z ⟨b,o,T⟩) v H) K:=by
 have i:SH [b] H H [(b,ty,f)]:=SH.own (hx:=[(b,ty,f)]) G;have E:Ah H b ty:=(i.bk (b,ty,f)<|aT.2 O).Gb;have j:∀t:aH,(ty==t)=aA->¬Ah H b t:=λt M h=>by rw[E.one h]at M;simp at M
 refine i.st 0 O hl V hk λH1 i=>?_;have i:SH [b] H H1 [(b,ty,splice f o<|bY v)]:=i;refine kk H1 (U.stay i.ext λr I=>?_) (SH.frame (hx:=[(b,ty,f)]) G i) i.ext.bU;rw[aT]at I;subst I;exact⟨.inr<|j 3 N,j 331 B,j 221 y⟩
def Rd.rules(J:Rd ay q k H hx)(G:SH S H0 H<|hx++L):(∃a c,H.cell q.rr 2=Z (u a q.nu c))/\q.rr<H.bU:=by
 obtain⟨rv,M,Y,nv,jA,X,sc,sa,nr,nn,rfl,I,W,y,B,E,h6,h7,h8,h9,o,U⟩:=J;have j:=G.get 3 O;refine⟨?_,(G.lo _<|aV (i:=3) O).2⟩;subst E;rcases y with⟨rfl,rfl,_⟩|⟨r,n,V,rfl,hn,_⟩
 .have:q.nu=0:=by simp at B;omega
  rw[this];exact⟨T,0,j.cell O⟩
 .have:n=q.nu:=N;subst this;exact⟨_,_,j.cell O⟩
def _root_.Go.Ae.SH.inP{P:C eB}(G:SH S H0 H<|P++(hx++L)):SH S H0 H (hx++(P++L)):=G.perm (by
 rw[<-cz,<-cz];exact rF _ aI)
def _root_.Go.Ae.SH.Rb{P:C eB}(G:SH S H0 H<|P++(hx++L))(h:SH (hx.map (·.1)) H Q M'):SH S H0 Q (P++(M'++L)):=(G.inP.frame h).inP
def Rd.TZ{P:C eB}(y:Rd ay q k H hx)(G:SH S H0 H<|P++(hx++L))(j:Nat)(E:j<=1000)(h:∀Q,Rd ay q k Q hx->SH S H0 Q (P++(hx++L))->Ext H Q->K (qU q.rt q.ra) (dP ⟨El q.f 5<|min (k+j)<|q.n-1⟩) Q):ME (wR T (bG<|Z ⟨q.rr,0,T⟩) H) λv H1=>qh Pg X (Ou v) [B j] H1 (K v):=
 y.Q_ G.inP j E λQ i o M=>h Q i o.inP M
def Rd.Yy{P:C eB}(o:Rd ay q k H hx)(G:SH S H0 H<|P++(hx++L))(h:∀Q M',Rd ay q (min (k+1)<|q.n-1) Q M'->SH S H0 Q (P++(M'++L))->H.bU<=Q.bU->K (zX q.rp q.ra q.rt) (dP ⟨El q.f 5 k⟩) Q):ME (wR T (bG<|Z ⟨q.rr,1,T⟩) H) λv H1=>qh Pg X (Ou v) [] H1 (K v):=
 o.bU G.inP λQ M' i j M=>h Q M' i j.inP M.ext.bU
def adx{P:C eB}(o:Rd ay q k H hx)(G:SH S H0 H<|P++(hx++L))(cd at':Int):bQ Pg X 144 [pr q.rr,vi cd,vi at'] H λv Q=>v=aR aA/\∃M',Rd ay q k Q M'/\SH S H0 Q (P++(M'++L)):=
 dD (CE o G.inP cd at') λv Q ⟨e,M',i,j⟩=>⟨e,M',i,G.Rb j⟩
def ady{P:C eB}(o:Rd ay q k H hx)(G:SH S H0 H<|P++(hx++L)):bQ Pg X 143 [pr q.rr] H λv Q=>v=aR aA/\∃M',Rd ay q k Q M'/\SH S H0 Q (P++(M'++L)):=
 dD (Ni o G.inP) λv Q ⟨e,M',i,j⟩=>⟨e,M',i,G.Rb j⟩
def aif{P:C eB}(y:Rd ay q k H hx)(G:SH S H0 H<|P++(hx++L))(kd:Int)(o:kd≠0):bQ Pg X 145 [pr q.rr,vi kd] H λv Q=>∃(b:Bool)(k':Nat)(M':C eB),v=aR b/\Rd ay q k' Q M'/\SH S H0 Q (P++(M'++L))/\k<=k'/\(b=F->k'=k+1)/\H.bU<=Q.bU:=
 dD (JB y G.inP kd o) λv Q ⟨b,k',M',e,j,i,I,W⟩=>⟨b,k',M',e,j,G.Rb i,I,W,i.ext.bU⟩
abbrev yw(nm:aZ)(ai cs w:Bool)(ch root at':Int):C D:=[aJ nm,aR ai,aR cs,aR w,vi ch,vi root,vi at']
def V_{ru:Nat}{cs:Bool}{at':Int}(hR:Rd ay q k H hx)(G:SH S H0 H<|(ru,234,yw nm ai cs w ch root at')::(hx++L)):
 bQ Pg X 147 [pr q.rr,pr ru] H λv Q=>∃(b w':Bool)(o:Int)(k':Nat)(M':C eB),v=aR b/\Rd ay q k' Q M'/\k<=k'/\SH S H0 Q ((ru,234,yw nm ai cs w' o root at')::(M'++L)):=by
 have am:=hR.le;refine GY [0,1,4,5,40] ?_;refine hR.TZ (P:=[_]) G 0 N λH1 BJ W ap=>?_;rw[show min (k+0) (q.n-1)=k by omega];have⟨kd,Re,e1,t1,xa,xn,xc,he,_,_,_,hz⟩:=BJ.tok am.1;rw[he,Gt];refine yx (λhc=>?_) λhc=>?_
 .refine rr ?_;exact⟨F,w,ch,k,hx,O,BJ,ax _,W⟩
 refine BJ.Yy (P:=[_]) W λH2 M2 V ab _=>?_;have ao:=V.le;refine V.TZ (P:=[_]) ab 0 N λH3 Gs wD aq=>?_;have⟨kd2,at2,e2,t2,ya,yn,yc,he2,_,ht2,_,_⟩:=Gs.tok (i:=min (min (k+1) (q.n-1)+0)<|q.n-1) N;rw[he2];refine wD.oV O O O λH4 rt xM an=>?_;have I4:=Gs.ex an;have G:SH S H0 H4 ((rt,221,[vi kd2,B at2,B e2,aJ t2,u ya yn yc])::(ru,234,yw nm ai cs w ch root at')::(M2++L)):=xM;refine fJ ?_;refine dD (Gu G.wf _ _ _ _ _ O) ?_;rintro v H5 ⟨rfl,Y⟩;have T:=I4.ex Y;have G:=G.call Y;refine G.lJ ?_;refine iI (λhb=>?_) λhb=>?_
 .refine dD (ady (P:=[_,_]) T G) ?_;rintro v I ⟨rfl,M,j,E⟩;refine rr ?_;exact⟨aA,w,ch,_,M,O,j,N,fU (A:=[_]) E⟩
 have U:∀cd p:Int,bQ Pg X 144 [pr q.rr,vi cd,vi p] H5 λv Q=>v=aR aA/\∃M',Rd ay q (min (k+1)<|q.n-1) Q M'/\SH S H0 Q ((ru,234,yw nm ai cs w ch root at')::(M'++L)):=λcd p=>by
  refine dD (adx (P:=[_,_]) T G cd p) ?_;rintro v I ⟨rfl,M,j,E⟩;exact⟨O,M,j,fU (A:=[_]) E⟩
 have J:∀(I:R)(w':Bool)(o:Int) y,Rd ay q (min (k+1)<|q.n-1) I M2->SH S H0 I ((ru,234,yw nm ai cs w' o root at')::(M2++L))->iG Pg X (sub Fw [1,1,1,1,1,1,1]) (EJ (pr q.rr) (pr ru) (aR aA) (pr rt) (aJ t2) y I) (jZ Pg [.tmp 4] λv Q=>∃(b w':Bool)(o:Int)(k':Nat)(M':C eB),v=aR b/\Rd ay q k' Q M'/\k<=k'/\SH S H0 Q ((ru,234,yw nm ai cs w' o root at')::(M'++L))):=by
  intro I w' o y j E;refine tp ?_;refine j.Yy (P:=[_]) E λH7 M7 Yx JC _=>rr ?_;exact⟨F,w',o,_,M7,O,Yx,N,JC⟩
 refine QX (λac=>?_) λac=>?_
 .refine G.qF<|dD (U _ _) ?_;rintro v I ⟨rfl,M,j,E⟩;refine rr ?_;exact⟨aA,w,ch,_,M,O,j,N,E⟩
 refine QX (λad=>?_) λad=>?_
 .exact T.st (fU (A:=[_]) G) O O O O (aF O) O λI j E _=>J _ _ _ _ j E
 refine iI (λag=>?_) λag=>?_
 .exact T.st (fU (A:=[_]) G) O O O O (aF O) O λI j E _=>J _ _ _ _ j E
 refine iI (λal=>?_) λal=>?_
 .exact T.st (fU (A:=[_]) G) O O O O (aF O) O λI j E _=>J _ _ _ _ j E
 refine G.qF<|dD (U _ _) ?_;rintro v I ⟨rfl,M,j,E⟩;refine rr ?_;exact⟨aA,w,ch,_,M,O,j,N,E⟩
end
section
variable{S:C Nat}{ay:Nat->Prop}
def _root_.Go.Ae.SH.agt{ty:aH}{z:C D}{K:D->R->Prop}(G:SH S H0 H L)(k:∀H2 r,SH S H0 H2 ((r,ty,z)::L)->Ext H H2->K (bG<|Z ⟨r,0,T⟩) H2):ME (Go.Ae.jP ty z H) K:=by
 have i:=h_ G.wf;exact i.jP λj r i=>k j r (SH.frame (hx:=[]) (L:=L) G i) i.ext
def DJ(P hx L:C eB):(P++(hx++L)).Perm (hx++(P++L)):=by
 rw[<-cz,<-cz];exact rF _ aI
abbrev RC.up(q:RC)(b:Bool):RC:={q with nu:=if b then q.nu+1 else q.nu}
def Kl(ay:Nat->Prop)(q:RC)(k:Nat)(S:C Nat)(H0:R)(L:C eB)(v:D)(Q:R):Prop:=∃(b:Bool)(i:Nat)(M':C eB),v=aR b/\Rd ay (q.up b) i Q M'/\SH S H0 Q (M'++L)/\k<=i/\(b=F->k<i/\q.nu<120)
def Kl.no{k':Nat}{ru:Nat}(hk:k<=k')(i:Rd ay q k' H M')(G:SH S H0 H<|(ru,234,l)::(M'++L)):Kl ay q k S H0 L (aR aA) H:=
 ⟨aA,k',M',rfl,i,fU (A:=[_]) G,hk,λh=>by cases h⟩
theorem adz{ru:Nat}{cs:Bool}{at':Int}(al:nm.size<=1000000)(hk:k0<k)(an:q.nu<120)(hR:Rd ay q k H hx)(G:SH S H0 H<|(ru,234,yw nm ai cs w ch root at')::(hx++L))(x4 x5 x6 x7:D)(E):
 iG Pg X (sub nO [1,1,1,1,1,1,1,1,1,1,1,1,1,1]) (qi (pr q.rr) (aR aA) (pr ru) x4 x5 x6 x7 E H) (jZ Pg [.tmp 2]<|Kl ay q k0 S H0 L):=by
 have T:=hR.ty<|fU (A:=[_]) G
 have T3:¬Ah H ru 3/\¬Ah H ru 331/\¬Ah H ru 221:=by
  have h:=(G.bk _<|aL ..).Gb;exact⟨λht=>(by have:=h.one ht;cases this),λht=>(by have:=h.one ht;cases this),λht=>(by have:=h.one ht;cases this)⟩
 have ar:=hR;have ab:=G;obtain⟨rv,V,gr,Y,jA,o,sc,sa,nr,nn,rfl,I,W,h3,h4,h5,h6,h7,h8,h9,ag,DZ⟩:=hR
 obtain⟨j,nc,cc,rfl,aE,_⟩:∃a n c,rv=u a n c/\J V=n*7/\True:=by
  rcases h3 with⟨rfl,rfl,_⟩|⟨r,n,eY,rfl,hn,_⟩
  .exact⟨_,_,_,O,gD,trivial⟩
  .exact⟨_,_,_,O,hn,trivial⟩
 have am:nc=nr:=N;subst am;subst h5;have G:=SH.own (hx:=(ru,234,yw nm ai cs w ch root at')::(q.rt,215,[u q.a q.n q.c])::(q.ra,3,[B k])::(q.rp,222,[qU q.rt q.ra])::(q.rr,226,[qU q.rt q.ra,zX q.rp q.ra q.rt,u j q.nu cc,Y,vi sc,vi sa])::(gr++o)) (L:=L) ab;refine tm ?_;refine G.Tq O O O N λH2 rx G uX=>?_;have G:=G.to (cs':=yw nm ai cs w ch root at') O;have G:=G.perm (L':=(rx,234,yw nm ai cs w ch root at')::(gr++((ru,234,yw nm ai cs w ch root at')::(q.rt,215,[u q.a q.n q.c])::(q.ra,3,[B k])::(q.rp,222,[qU q.rt q.ra])::(q.rr,226,[qU q.rt q.ra,zX q.rp q.ra q.rt,u j q.nu cc,Y,vi sc,vi sa])::o)))<|eX _<|DJ [_,_,_,_,_] gr o;refine h3.Jp G N O O N λv' H3 y ac G a0 SI xF=>?_;have G:=G.perm<|DJ y [_,_,_,_,_] o;simp only[bV,bZ]at G
 obtain⟨va,aq,vc,rfl,U,_⟩:∃a n c,v'=u a n c/\J (V++yw nm ai cs w ch root at')=n*7/\True:=by
  rcases ac with⟨_,h,_⟩|⟨r,n,eY,rfl,hn,_⟩
  .exact absurd h gD
  .exact⟨_,_,_,O,hn,trivial⟩
 have ap:aq=q.nu+1:=by rw[aS,h4]at U;simp at U;omega
 subst ap;refine G.n_ λHn G=>?_;have ad:q.rr≠ru:=(G.nq 0 4 O O N).symm;refine splitK (λK hK=>?_) ?_
 .simp only[uX,fu,gT];generalize q.rr=rr at ad;rcases xF with e|e<;>rw[e]<;>apply mO (a:=rr) (b:=ru) ad yB fT fT hK
 have M:=G.ext;have hE:=Dt (es:=7) (n:=q.nu) h4 (xs:=yw nm ai cs w ch root at') O;refine rr ?_;refine⟨F,k,(q.rt,215,[u q.a q.n q.c])::(q.ra,3,[B k])::(q.rp,222,[qU q.rt q.ra])::(q.rr,226,[qU q.rt q.ra,zX q.rp q.ra q.rt,u va (q.nu+1) vc,Y,vi sc,vi sa])::(y++o),O,?_,?_,N,λ_=>⟨hk,an⟩⟩
 .refine⟨u va (q.nu+1) vc,V++yw nm ai cs w ch root at',y,Y,jA,o,sc,sa,q.nu+1,nn,O,I,?_,ac,U,O,λi hi=>?_,h7,h8,h9,λi hi=>?_,DZ⟩
  .refine W.st M (λr hr=>.inr ?_) (ax _);rcases bW.1 hr with rfl|hr
   .exact T3.2
   .exact(T r hr).2
  .rcases dH i q.nu with h|h
   .rw[hE.1 i h];exact h6 i h
   .obtain rfl:i=q.nu:=N;rw[hE.2];exact⟨nm,ai,cs,w,ch,root,at',O,al⟩
  .have ao:∀r∈((ru,234,yw nm ai cs w ch root at')::(q.rt,215,[u q.a q.n q.c])::(q.ra,3,[B k])::(q.rp,222,[qU q.rt q.ra])::(q.rr,226,[qU q.rt q.ra,zX q.rp q.ra q.rt,u j q.nu cc,Y,vi sc,vi sa])::(gr++o)).map (λe:eB=>e.1),(¬ay r\/¬Ah H r 3)/\¬Ah H r 331:=λr hr=>by
    rcases bW.1 hr with rfl|hr
    .exact⟨.inr T3.1,T3.2.1⟩
    .exact⟨(T r hr).1.imp_left (λe=>by rw[e];exact DZ),(T r hr).2.1⟩
   exact(ag i hi).st M ao
 .have hF:=SH.frame (hx:=(ru,234,yw nm ai cs w ch root at')::(q.rt,215,[u q.a q.n q.c])::(q.ra,3,[B k])::(q.rp,222,[qU q.rt q.ra])::(q.rr,226,[qU q.rt q.ra,zX q.rp q.ra q.rt,u j q.nu cc,Y,vi sc,vi sa])::(gr++o)) ab G;exact fU (A:=[_]) hF
def ajx{ru:Nat}{cs:Bool}{at':Int}(hF:∀r,H.bU<=r->ay r)(U:nm.size<=1000000)(hk:k0<=k)(V:q.nu<120)(hR:Rd ay q k H hx)(G:SH S H0 H<|(ru,234,yw nm ai cs w ch root at')::(hx++L))(x4 x5 x6 x7:D)(E):
 iG Pg X (sub nO [1,1,1,1,1,1,1,1]) (qi (pr q.rr) (aR aA) (pr ru) x4 x5 x6 x7 E H) (jZ Pg [.tmp 2]<|Kl ay q k0 S H0 L):=by
 have ap:=hR.le;refine tp ?_;refine hR.Yy (P:=[_]) G λH1 M1 BJ J aq=>dD (aif (P:=[_]) BJ J 5 jq) ?_;rintro v H2 ⟨b,k2,M2,rfl,o,y,am,T,ac⟩;refine sD (λj=>?_) λj=>?_
 .refine rr ?_;exact(.no N o y)
 have M:b=F:=by cases b with
  |true=>rfl
  |false=>cases j
 have ad:=T M;have ab:=o.le;have ar:H.bU<=H2.bU:=N;refine dD (V' q k2 ay H2 M2 0 (λr hr=>hF r N) o y.inP.own N) ?_;rintro v H3 ⟨i,b3,k3,M3,rfl,Gs,I,an,_⟩;have wD:=y.Rb I;refine sD (λj=>?_) λj=>?_
 .refine rr ?_;exact(.no N Gs wD)
 refine Gs.st wD O O O O (aF O) O λH4 I4 W _=>?_;have W:SH S H0 H4 ((ru,234,yw nm ai cs w ch i at')::(M3++L)):=W;refine dD (V_ I4 W) ?_;rintro v H5 ⟨b5,w5,ag,k5,M5,rfl,OG,ao,B⟩;refine sD (λj=>?_) λj=>?_
 .refine rr ?_;exact(.no N OG B)
 refine dD (aif (P:=[_]) OG B 7 jq) ?_;rintro v H6 ⟨b6,k6,M6,rfl,Y,xP,R7,al,_⟩;refine sD (λj=>?_) λj=>?_
 .refine rr ?_;exact(.no N Y xP)
 exact adz U N V Y xP _ _ _ _ _
theorem adA{ru:Nat}{cs:Bool}(hF:∀r,H.bU<=r->ay r)(al:q.nu<=120)(j:k0<=k)(hR:Rd ay q k H hx)(G:SH S H0 H<|(ru,234,yw ⟨#[]⟩ aA cs aA 0 0 0)::(hx++L))(x4 x5 x6 x7:D)(E):
 iG Pg X (sub nO [1,1,1]) (qi (pr q.rr) (aR aA) (pr ru) x4 x5 x6 x7 E H) (jZ Pg [.tmp 2]<|Kl ay q k0 S H0 L):=by
 have ab:=hR.le;refine tp ?_;refine hR.TZ (P:=[_]) G 0 N λJ BJ i ad=>?_;rw[show min (k+0) (q.n-1)=k by omega];have⟨kd,Re,e1,t1,xa,xn,xc,he,_,ht1,_,hz⟩:=BJ.tok ab.1;rw[he]
 have V:¬Ah J ru 3/\¬Ah J ru 331/\¬Ah J ru 221:=by
  have h:=(i.bk _<|aL ..).Gb;exact⟨λU=>(by have:=h.one U;cases this),λU=>(by have:=h.one U;cases this),λU=>(by have:=h.one U;cases this)⟩
 have i:SH S H0 J ([(ru,234,yw ⟨#[]⟩ aA cs aA 0 0 0)]++(hx++L)):=i;refine i.own.oV O O O λH4 Y xM am=>?_;have G:SH [ru] J H4 [(Y,221,[vi kd,B Re,B e1,aJ t1,u xa xn xc]),(ru,234,yw ⟨#[]⟩ aA cs aA 0 0 0)]:=xM;refine fJ ?_;refine G.cm (Gu G.wf _ _ _ _ _ O) ?_;rintro v H5 rfl an G;refine G.lJ ?_;refine iI (λy=>?_) λy=>?_
 .have hf:=i.frame (hx:=[_]) G
  have OG:=BJ.stay G.ext λr o=>by
   rw[aT]at o;subst o;exact⟨.inr V.1,V.2⟩
  refine dD (ady (P:=[_,_]) OG hf) ?_;rintro v T ⟨rfl,M6,I,xP⟩;refine rr ?_;exact(.no j I<|fU (A:=[_]) xP)
 refine fJ ?_;refine G.n_ λHn G=>?_;refine G.n_ λHn G=>?_;refine G.n_ λHn G=>?_;have ac:Y≠ru:=G.nq 0 1 O O N;refine splitK (λK hK=>?_) ?_
 .simp only[fu,gT];apply mO (a:=Y) (b:=ru) ac yB fT fT hK
 have M:=G.ext;generalize hM (hM (hM H5 _) _) Hn=T at*;have W:=i.frame (hx:=[_]) G;have W:SH S H0 T ((ru,234,yw t1 (decide<|kd=1) cs aA 0 0 Re)::(hx++L)):=fU (A:=[_]) W;have ag:H.bU<=T.bU:=by have:=M.bU;have:=ad.bU;omega
 have I:Rd ay q k T hx:=BJ.stay M λr o=>by
  have o:r∈[ru]:=o;rw[aT]at o;subst o;exact⟨.inr V.1,V.2⟩
 clear G;have⟨⟨ra,rc,hrc⟩,hrl⟩:=I.rules (L:=[_]++L)<|SH.inP (P:=[_]) W;have G:=W;refine iY hrc ?_;refine tO (λhc=>?_) λhc=>?_
 .refine G.qF<|dD (adx (P:=[_]) I G 3 _) ?_;rintro v H7 ⟨rfl,M7,Yx,JC⟩;refine rr ?_;exact(.no j Yx JC)
 refine fJ ?_
 have Nc:∀(b:Bool) E,Co E 72=aR b->iG Pg X (sub nO [1,1,1,1,1,1,1,0,1]) (qi (pr q.rr) (aR aA) (pr ru) x4 (pr Y) x6 x7 E T) (uW Pg X (sub nO [1,1,1,1,1,1,1,1])<|jZ Pg [.tmp 2]<|Kl ay q k0 S H0 L):=by
  intro b E y;refine tl ?_;rw[y];refine sD (λy=>?_) λy=>?_
  .refine G.qF<|dD (adx (P:=[_]) I G 18 _) ?_;rintro v H7 ⟨rfl,M7,Yx,JC⟩;refine rr ?_;exact(.no j Yx JC)
  .exact ajx (λr o=>hF r N) ht1 j N I G _ _ _ _ _
 refine iI (λy=>?_) λy=>?_
 .refine fJ ?_;exact Nc _ _ O
 .exact Nc _ _ O
def aah(hF:∀r,H.bU<=r->ay r)(U:q.nu<=120)(hR:Rd ay q k H hx)(G:SH S H0 H<|hx++L):bQ Pg X 120 [pr q.rr] H (Kl ay q k S H0 L):=by
 have ad:=hR.le;refine lq [0,2,3,4,5,6,7] ?_;refine G.agt λH1 ru j V=>?_;have BJ:=hR.ex V;have j:SH S H0 H1 ((ru,234,yw ⟨#[]⟩ aA aA aA 0 0 0)::(hx++L)):=j;refine bM ?_;refine BJ.TZ (P:=[_]) j 0 N λH2 M ab ag=>?_;rw[show min (k+0) (q.n-1)=k by omega];have⟨kd,Re,e1,t1,xa,xn,xc,he,_⟩:=M.tok ad.1;rw[he];refine ab.oV O O O λH3 rt wD W=>?_;have Gs:=M.ex W;have G:SH S H0 H3 ((rt,221,[vi kd,B Re,B e1,aJ t1,u xa xn xc])::(ru,234,yw ⟨#[]⟩ aA aA aA 0 0 0)::(hx++L)):=wD;have am:H.bU<=H3.bU:=by have:=V.bU;have:=ag.bU;have:=W.bU;omega
 have y:∀(b:Bool) x5 x6 x7 E I,Co E 28=aR b->Rd ay q k I hx->H3.bU<=I.bU->SH S H0 I ((ru,234,yw ⟨#[]⟩ aA aA aA 0 0 0)::(hx++L))->iG Pg X (sub nO [1,1,0,1,1]) (qi (pr q.rr) (aR aA) (pr ru) (pr rt) x5 x6 x7 E I) (uW Pg X (sub nO [1,1,1])<|jZ Pg [.tmp 2]<|Kl ay q k S H0 L):=by
  intro b x5 x6 x7 E I T J an Y;refine tl ?_;rw[T];refine sD (λT=>?_) λT=>?_
  .exact J.Yy (P:=[_]) Y λH5 M5 OG ac ao=>OG.st ac O O O O (aF O) O λH6 ER xP ap=>adA (λr hr=>hF r N) U N ER xP _ _ _ _ _
  .exact adA (λr hr=>hF r N) U (ax _) J Y _ _ _ _ _
 refine yz (λhc=>?_) λhc=>?_
 .refine QX (λT=>?_) λT=>?_
  .refine Gs.TZ (P:=[_,_]) G 1 N λI J Y al=>?_;have⟨kd,Re,e1,t1,xa,xn,xc,he,_⟩:=J.tok (i:=min (k+1)<|q.n-1) N;rw[he];refine dD (Gu Y.wf _ _ _ _ _ O) ?_;rintro v H5 ⟨rfl,o⟩;exact y _ _ _ _ _ _ O (J.ex o) (by have:=al.bU;have:=o.bU;omega)<|fU (A:=[_])<|Y.call o
  .exact y _ _ _ _ _ _ O Gs (ax _)<|fU (A:=[_]) G
 .exact y _ _ _ _ _ _ O Gs (ax _)<|fU (A:=[_]) G
end
section
variable{S:C Nat}{ay:Nat->Prop}
def Gr(b:Nat)(H:R)(ra:aC Addr)(rn:Nat)(j:C D)(o:aC Addr)(nn:Nat)(jA:C D):Prop:=
 jJ (b<=·) 234 H ra rn 7 j/\rn<=120/\(∀i,i<rn->RuC (El j 7 i))/\jJ (b<=·) 238 H o nn 5 jA/\nn<=4000/\∀i,i<nn->NoC (b<=·) H (El jA 5 i)
def adB(b:Nat)(v:D)(H:R):Prop:=∃y rn E j i nn o B,∃(cd e:Int),v=fO ⟨[dP ⟨[u y rn E,u i nn o]⟩,dP ⟨[vi cd,vi e]⟩]⟩/\Gr b H y rn j i nn B/\(i=T\/o=gQ 5)
def Gr.nil(b:Nat)(H:R):Gr b H T 0 [] T 0 []:=
 ⟨jJ.nil _ _ _ _ _,N,λi h=>N,jJ.nil _ _ _ _ _,N,λi h=>N⟩
def Rd.amg(o:Rd ay q k H hx)(G:SH S H0 H<|hx++L)(j:Nat)(y:j<=1000)(h:∀Q,Rd ay q k Q hx->SH S H0 Q (hx++L)->Ext H Q->K (qU q.rt q.ra) (dP ⟨El q.f 5<|min (k+j)<|q.n-1⟩) Q):ME (wR T (bG<|Z ⟨q.rp,0,T⟩) H) λv H1=>qh Pg X (Ou v) [B j] H1 (K v):=by
 have i:=o;obtain⟨V,E,J,U,N,I,sc,W,nr,nn,rfl,_⟩:=o;refine G.ld 2 O O ?_;show bQ Pg X 118 [B j,pr q.rt,pr q.ra] H<|K _;refine dD (adu i G j y) ?_;rintro v Q ⟨rfl,M⟩;exact h Q (i.ex M) (G.call M) M
def uK{α:Type}{x:α}(A vn:C α){ak:C α}(h:(A++vn).Perm ak):(A++x::vn).Perm (x::ak):=jO.trans<|h.cons x
def aai(hw:Wf H)(x0:D)(o:RC)(rs E re rf:Nat)(f8:D)(H1:R)(am:H.bU<=o.ra/\o.ra<H1.bU)(hR:Rd (λr=>H.bU<=r/\r≠o.ra) {o with nu:=0} 0 H1 hx)(xe:C D)(G:SH [] H H1<|hx++[(re,173,xe),(rs,173,[vi 0,vi 0]),(E,171,[u T 0 0,u T 0 0])])(x4 x6:D)(oW):
 iG Pg X (.loop<|sub Kb [1,1,1,1,1,1,1,0,1,0,0]) (Q4 x0 (pr E) (pr rs) x4 (pr re) x6 (pr o.rp) f8 (pr o.rr) (aR F) oW H1) (uB 0<|uW Pg X (sub Kb [1,1,1,1,1,1,1,1])<|jZ Pg [.cell 2 171,.cell 3 173]<|Q1 (adB H.bU) H):=by
 refine VQ 10 (h1:=λm j_ Q=>∃(b:Bool)(j k:Nat)(hx:C eB),j_=aR b/\Rd (λr=>H.bU<=r/\r≠o.ra) {o with nu:=j} k Q hx/\k+m=o.n/\j<=120/\o.ra<Q.bU/\SH [] H Q (hx++[(re,173,xe),(rs,173,[vi 0,vi 0]),(E,171,[u T 0 0,u T 0 0])])) ?_ o.n ⟨F,0,0,hx,O,hR,N,N,am.2,G⟩;clear hR G;rintro m j_ oW H2 ⟨b,j,k,M2,rfl,hR,ar,hj,aE,G⟩;refine an2 (λhb=>?_) λhb=>?_;rotate_left
 .refine tl ?_;obtain⟨rv,ac,gr,nv,jA,gn,sc,sa,nr,nn,rfl,I,W,h3,h4,h5,h6,h7,h8,h9,Y,DZ⟩:=hR;have h5:nr=j:=h5;subst h5;have G:=G.perm<|DJ _ [_,_,_] [];simp only[bV,bZ,bF]at G;obtain⟨va,ad,vc,rfl⟩:∃a n c,rv=u a n c:=by rcases h3 with⟨rfl,_⟩|⟨r,n,eY,rfl,_⟩<;>exact⟨_,_,_,O⟩
  obtain⟨wa,wn,wc,rfl⟩:∃a n c,nv=u a n c:=by rcases h7 with⟨rfl,_⟩|⟨r,n,eY,rfl,_⟩<;>exact⟨_,_,_,O⟩
  refine bM ?_;apply G.jC;have U:=G;have G:=SH.own (hx:=[(re,173,xe),(rs,173,[vi 0,vi 0]),(E,171,[u T 0 0,u T 0 0])]) U;refine PU.b2 O ?_;refine G.kE λHn G=>?_;refine G.kE λHn G=>?_;refine rr ?_;refine fJ ?_;have M:=G.ext;have G:=U.frame (hx:=[_,_,_]) G;have ap:Ext H Hn:=G.ext;have hf:∀e:eB,e∈gr++gn->H.bU<=e.1:=λe y=>G.yV<|dL [_,_,_,_,_,_,_] y;have⟨a1,n1,c1,e1,hl1,hf1⟩:=h3.KF (ay:=(H.bU<=·)) (G.perm<|DJ [_,_,_,_,_,_,_] gr gn) λe y=>hf e<|dK _ y;have⟨a2,n2,c2,e2,hl2,hf2⟩:=h7.KF (ay:=(H.bU<=·)) (G.perm<|(gZ [_,_,_,_,_,_,_] aI).trans<|DJ [_,_,_,_,_,_,_] gn gr) λe y=>hf e<|dL _ y;cases e1;cases e2;obtain rfl:ad=nr:=N;obtain rfl:wn=nn:=N;have hO:=SH.own (hx:=[(re,173,xe),(rs,173,[vi 0,vi 0]),(E,171,[u T 0 0,u T 0 0])]) U;have ao:=hO.AO (ty:=3) O;have ag:=hO.AO (ty:=331) O
  have ab:wa=T\/wc=gQ 5:=by
   rcases h7 with⟨e,_,_⟩|⟨r,n,eY,e,_,_⟩<;>cases e
   .exact .inl O
   .exact .inr O
  refine⟨⟨va,ad,vc,ac,wa,wn,wc,jA,0,0,O,⟨hf1,hj,h6,hf2,h9,λi hi=>?_⟩,ab⟩,ap⟩;refine((Y i hi).wk λr _ h=>h.1).st M λr hr=>⟨.inr<|ao r hr,ag r hr⟩
 refine dD (aah (ay:=λr=>H.bU<=r/\r≠o.ra) (q:={o with nu:=j}) (λr hr=>⟨?_,?_⟩) hj hR G) ?_
 .have:=G.ext.bU;omega
 .omega
 rintro v H3 ⟨b,J,M3,rfl,Gs,wD,aq,al⟩;refine sD (λhb=>?_) λhb=>?_
 .have V:b=aA:=by cases b with
   |false=>rfl
   |true=>cases hb
  subst V;obtain⟨rv,ac,gr,nv,jA,gn,sc,sa,nr,nn,rfl,I,W,h3,h4,h5,h6,h7,h8,h9,Y,DZ⟩:=Gs;have G:=wD.perm<|DJ _ [_,_,_] [];simp only[bV,bZ,bF]at G;refine fJ ?_;refine G.n_ λHn G=>?_;refine G.n_ λHn G=>?_;refine splitK (λK hK=>?_) ?_
  .simp only[fu,gT];have n1:=G.nq 1 2 O O N;have n2:=G.nq 1 6 O O N;have n3:=G.nq 2 6 O O N;generalize o.rr=rr at n2 n3|-;apply zP (a:=rs) (b:=E) (c:=rr) n1 n2 n3 yB fT fT hK
  refine rr ?_;refine fJ ?_;exact⟨⟨T,0,0,[],T,0,0,[],sc,sa,O,Gr.nil _ _,.inl O⟩,G.ext⟩
 have V:b=F:=by cases b with
  |true=>rfl
  |false=>cases hb
 subst V;have an:=al O;have Gs:Rd (λr=>H.bU<=r/\r≠o.ra) {o with nu:=j+1} J H3 M3:=Gs;refine Gs.amg wD 0 N λH4 I4 xM a0=>?_;have B:=I4.le;rw[show min (J+0) (o.n-1)=J by have:J<o.n:=B.1;omega];have⟨kd,Re,e1,t1,xa,xn,xc,y,_⟩:=I4.tok B.1;have y:El o.f 5 J=_:=y;rw[y,Gt];refine bM ?_;refine⟨o.n-J,by have:J<o.n:=B.1;omega,_,_,_,rfl,_,j+1,J,M3,rfl,I4,by have:J<o.n:=B.1;omega,by have W:j<120:=an.2;omega,(xM.lo _<|dK _ I4.mem).2,xM⟩
theorem OH(hw:Wf H)(hT:Dr H)(s:aZ):bQ Pg X 93 [aJ s] H (Q1 (adB H.bU) H):=by
 have G:=h_ hw;refine lq [0,2,3,4,5,6,7,8,9,10] ?_;refine G.jP λy E G=>?_;refine G.jP λy U G=>?_;refine dD (TW G.wf (hT.ex G.ext) s) ?_;rintro v H1 ⟨⟨ts,cd,e,rfl,hts,ab⟩,M⟩;have ac:=G.lt;have J:=G.call M;have G:=J.base;refine bM ?_;refine G.jP λy j G=>G.jP λy W G=>?_;have I:bY ts=[ts]/\fZ ts=F:=by rcases hts with rfl|⟨a,n,c,rfl⟩<;>exact⟨O,O⟩
 refine G.st 1 O (by rw[I.1];rfl) (ax 1) (by rw[I.1];show cr (fZ ts) _ _=_;rw[I.2];rfl) λy G=>?_;rw[I.1]at G;have G:SH [U,E] H1 y [(W,173,[vi 0,vi 0]),(j,215,[ts]),(U,173,[vi 0,vi 0]),(E,171,[u T 0 0,u T 0 0])]:=G;refine G.lJ ?_;refine G.kE λy G=>?_;refine Ow (λhc=>?_) λhc=>?_
 .refine fJ ?_;refine G.n_ λy G=>?_;refine G.n_ λy G=>?_;refine splitK (λK hK=>?_) ?_
  .simp only[fu,gT];apply zP (a:=U) (b:=E) (c:=W) (G.nq 2 3 O O N) (G.nq 0 2 O O N).symm (G.nq 0 3 O O N).symm yB fT fT hK
  refine rr ?_;refine fJ ?_;exact⟨⟨T,0,0,[],T,0,0,[],cd,e,O,Gr.nil _ _,.inl O⟩,(J.over G).ext⟩
 refine G.jP λy o G=>G.kE λy G=>G.jP λy rp G=>G.kE λy G=>?_;refine fJ ?_;obtain⟨ta,Y,tc,al,rfl,V⟩:=ab hc;refine G.box O λH2 rr G=>?_;have G:SH [U,E] H1 H2 [(rr,226,[qU j o,zX rp o j,u T 0 0,u T 0 0,vi 0,vi 0]),(rp,222,[qU j o]),(o,3,[B 0]),(W,173,[vi cd,vi e]),(j,215,[u ta Y tc]),(U,173,[vi 0,vi 0]),(E,171,[u T 0 0,u T 0 0])]:=G;have G:=G.perm (L':=[(j,215,[u ta Y tc]),(o,3,[B 0]),(rp,222,[qU j o]),(rr,226,[qU j o,zX rp o j,u T 0 0,u T 0 0,vi 0,vi 0]),(W,173,[vi cd,vi e]),(U,173,[vi 0,vi 0]),(E,171,[u T 0 0,u T 0 0])])<|uK [_,_,_,_] [_,_]<|uK [_,_] [_,_,_]<|uK [_] [_,_,_]<|rQ _;have ag:=G.ext;have G:=J.over G;have ad:=G.lo _<|aV (i:=1) O;refine aai hw (aJ s) ⟨j,o,rp,rr,ta,Y,tc,al,0⟩ U E W rp _ H2 (hx:=[(j,215,[u ta Y tc]),(o,3,[B 0]),(rp,222,[qU j o]),(rr,226,[qU j o,zX rp o j,u T 0 0,u T 0 0,vi 0,vi 0])]) ⟨G.yV<|aV (i:=1) O,ad.2⟩ ?_ [vi cd,vi e] G _ _ _;refine⟨u T 0 0,[],[],u T 0 0,[],[],0,0,0,0,O,?_,?_,GB.nil _ _,O,O,λi h=>N,GB.nil _ _,rfl,N,λi h=>N,λh=>h.2 O⟩
 .have:=V.2.1;show 0<Y;omega
 .exact V.st ag (λr hr=>.inl<|ac r hr)<|bD _
end
end Go.Proofs.Lu
namespace Go.Ae
variable{K:D->R->D->R->Prop}{v x z:D}{es m r:Nat}{L L' gb:C eB}{H Q H0:R}{f:C D}{b ok:Bool}
section
class EU (L g:C eB) (ay:outParam<|C eB->C eB):Prop where
 p:∃az,L.Perm (g++az)/\∀g',(g'++az).Perm<|ay g'
instance EU.top{g:C eB}:EU g g (λg=>g):=⟨[],by rw[bF],λi=>by rw[bF]⟩
instance EU.cons{b:eB}{L g:C eB}{ay:C eB->C eB}[h:EU L g ay]:EU (b::L) g (λg=>b::ay g):=⟨let⟨az,I,W⟩:=h.p;⟨b::az,(I.cons b).trans jO.symm,λi=>jO.trans<|(W i).cons b⟩⟩
instance EU.right{A L g:C eB}{ay:C eB->C eB}[h:EU L g ay]:EU (A++L) g (λg=>A++ay g):=⟨let⟨az,I,W⟩:=h.p;⟨A++az,(I.append_left A).trans<|jw A g az,λi=>(jw i A az).trans<|(W i).append_left A⟩⟩
instance EU.left{A L g:C eB}{ay:C eB->C eB}[h:EU A g ay]:EU (A++L) g (λg=>ay g++L):=⟨let⟨az,I,W⟩:=h.p;⟨az++L,by rw[<-cz];exact I.append_right L,λi=>by rw[<-cz];exact(W i).append_right L⟩⟩
instance EU.here{L g:C eB}:EU (g++L) g (λg=>g++L):=⟨L,rQ _,λi=>rQ _⟩
instance BX.right{A L:C eB}{r:Nat}{ty:aH}{f:C D}[h:BX L r ty f]:BX (A++L) r ty f:=⟨let⟨i,hi⟩:=h.at';⟨J A+i,by rw[eD N,jH];exact hi⟩⟩
instance Ga.right{A L L':C eB}{r:Nat}{ay:C D->C D}{ty:aH}{f:C D}[h:Ga L r ay ty f L']:Ga (A++L) r ay ty f (A++L'):=⟨let⟨i,hi,e⟩:=h.at';⟨J A+i,by rw[eD N,jH];exact hi,by rw[e,sH _ _<|pZ _ _,jH]⟩⟩
instance BX.left{A L:C eB}{r:Nat}{ty:aH}{f:C D}[h:BX A r ty f]:BX (A++L) r ty f:=⟨let⟨i,hi⟩:=h.at';⟨i,by rw[bX (bI.1 hi).1];exact hi⟩⟩
instance Ga.left{A A' L:C eB}{r:Nat}{ay:C D->C D}{ty:aH}{f:C D}[h:Ga A r ay ty f A']:Ga (A++L) r ay ty f (A'++L):=⟨let⟨i,hi,e⟩:=h.at';have j:=(bI.1 hi).1;⟨i,by rw[bX j];exact hi,by rw[e,nR _ _ j]⟩⟩
variable{S:C Nat}{ay:C eB->C eB}{ty:aH}{w:D}{xs x z:C D}
def GB.ND{K:D->D->R->Prop}(N:GB ty es v xs gb)(G:SH S H0 H L)[h:EU L gb ay](M:J (bY w)=es)(ht:rJ w=F)(o:all' Go.Ae.fZ (bY w)=F)(B:J xs<=16777216)(kk:∀q v' Q iN,GB ty es v' (xs++bY w) iN->SH S H0 Q (ay iN)->K q v' Q)(E:0<es:=by decide)(T:J z=es:=by rfl)(y:es<=16777216:=by decide):ME (bS ty z es 1 [(0,w)] H) λq H1=>ME (Bo ty es v q H1) (K q):=by
 have⟨az,I,W⟩:=h.p;exact N.push (G.perm I) E T O M ht o y B λq v' Q iN j i=>kk q v' Q iN j<|i.perm<|W iN
def SH.amH{K:D->R->Prop}(G:SH S H0 H L){n:Nat}(j:n<=m)(i:m<=16777216)(k:∀H1 r,SH S H0 (hM H H1) ((r,ty,pV z m)::L)->N_ H H1=cl 5->Ext H (hM H H1)->H.bU<=r->K (u (Z ⟨r,0,T⟩) n m) H1):ME (Go.Ae.mkS ty z (B n) (B m)<|Go.Ae.hN H) K:=by
 show ME (gd (aD n m&&aD m 16777216&&F)<|Z (u (Z ⟨H.bU,0,T⟩) n m,(Go.Ae.hN H).new<|rowOf ty<|pV z m)) K;rw[aG j,aG i];exact k _ _ (G.zC ty _) (yg<|Ext.new _ _) (Ext.new _ _).draw<|ax _
def SH.ajT{K:D->R->Prop}(G:SH S H0 H L)(M:rJ w=F)(k:∀H1 r,SH S H0 (hM H H1) ((r,ty,bY w)::L)->N_ H H1=cl 5->Ext H (hM H H1)->H.bU<=r->K (.pointer<|Z ⟨r,0,T⟩) H1):ME (LQ ty w<|Go.Ae.hN H) K:=by
 unfold LQ;rw[M];exact k _ _ (G.zC ty _) (yg<|Ext.new _ _) (Ext.new _ _).draw<|ax _
def SH.ad7(G:SH S H0 H L)(k:∀H1 r,SH S H0 (hM H H1) L->Ext H (hM H H1)->N_ H H1=cl 5->H.bU<=r->K (.pointer<|Z ⟨r,0,T⟩) H1 undef (Go.Ae.hN<|hM H H1)):ME (Go.Ae.jP ty []<|Go.Ae.hN H) λv H1=>ME (Go.Ae.Es 0 v (.agg ⟨[]⟩)<|Go.Ae.hN<|hM H H1) λai H2=>K v H1 ai H2:=by
 exact ME.of (v:=.pointer<|Z ⟨H.bU,0,T⟩) (H:=(Go.Ae.hN H).new<|rowOf ty []) O<|ME.of (v:=undef) (H:=Go.Ae.hN<|hM H<|(Go.Ae.hN H).new<|rowOf ty []) O<|k _ _ (fU (A:=[_])<|G.zC ty []) (Ext.new _ _).draw (yg<|Ext.new _ _)<|ax _
def GB.GM(T:GB ty es v xs gb)(G:SH S H0 H L)[h:EU L gb ay](M:J (bY w)=es)(ht:rJ w=F)(B:all' Go.Ae.fZ (bY w)=F)(N:J xs<=16777216)(kk:∀q H1 v' H2 iN,GB ty es v' (xs++bY w) iN->SH S H0 (hM (hM H H1) H2) (ay iN)->N_ H H1=cl 5->(Df (hM H H1) H2=cl 1\/Df (hM H H1) H2=⟨2,0,0,0,hM H H1,H2⟩)->SH S H0 (hM H H1) L->K q H1 v' H2)(O:0<es:=by decide)(U:J z=es:=by rfl)(E:es<=16777216:=by decide):ME (bS ty z es 1 [(0,w)]<|Go.Ae.hN H) λq H1=>ME (Bo ty es v q<|Go.Ae.hN<|hM H H1) (K q H1):=by
 have⟨az,I,W⟩:=h.p;refine ME.of (QN (H:=Go.Ae.hN H) U ht M E) ?_;have i:=G.zC ty<|bY w;exact T.Jp (cx:=1) (i.perm<|I.cons _) O M B N λv' H2 iN y j _ _ o=>kk _ _ _ _ iN y (j.perm<|W iN) (yg<|Ext.new _ _) o<|fU (A:=[_]) i
def GB.OP(i:GB ty es v xs gb):∃a n c,v=u a n c/\J xs=n*es:=by
 rcases i with⟨rfl,rfl,_⟩|⟨r,n,o,rfl,j,_⟩
 .exact⟨T,0,0,O,gD⟩
 .exact⟨_,n,_,O,j⟩
def GJ(ty:aH)(es:Nat)(v:D)(f:C D)(gb:C eB):Prop:=GB ty es v f gb\/∃r n,v=u (Z ⟨r,0,T⟩) n n/\J f=n*es/\gb=[(r,ty,f)]
def GJ.OP(i:GJ ty es v xs gb):∃a n c,v=u a n c/\J xs=n*es:=i.elim GB.OP λ⟨r,n,I,W,_⟩=>⟨_,n,_,I,W⟩
def GJ.fl(i:GJ ty es v xs gb)(G:SH S H0 H<|gb++L):∃a n c,v=u a n c/\J xs=n*es/\Fl H a n es xs:=by
 rcases i with i|⟨r,n,rfl,j,rfl⟩
 .exact i.fl G
 .exact⟨_,n,_,O,j,(G.get 0 O).fl (G.lo _<|aL ..).2 j⟩
def Uv{n:Nat}{x:D}(o:Bk H r ty z)(hl:J z=n*es)(B:n<=16777216)(j:appended H es x=Z (1,xs)):Bo ty es (u (Z ⟨r,0,T⟩) n n) x H=Z (u (Z ⟨H.bU,0,T⟩) (n+1)<|gQ es,H.new<|rowOf ty<|z++xs):=by
 unfold Bo;rw[j]
 have e:H.read r 0 (bO n es)=Z z:=by
  rw[show bO n es=J z from hl.symm,o.read N];rw[jE,kI]
 have y:gW n=F:=aG N
 have W:aD (a_ n 1) n=aA:=by
  cases h:aD (a_ n 1) n with
  |false=>rfl
  |true=>exact absurd (aF h) (by have:a_ n 1=n+1:=rfl;omega)
 show(gd (aD n 16777216)<|cr (gW n) (xW (ty,es) ⟨r,0,T⟩ n n 1 xs H)<|gd (aB n<|gQ es)<|uA (ty,es) ⟨r,0,T⟩ n n 1 xs H)=_;rw[aG B,y];show(cr (aD (a_ n 1) n) (aN (H.write r (a_ 0<|bO n es) xs) λQ=>Z (u (Z ⟨r,0,T⟩) (a_ n 1) n,Q))<|aN (H.read r 0<|bO n es) λi=>Z<|zN ty es (a_ n 1) (app i xs) H)=_;rw[W,e];show Z (zN ty es (n+1) (app z xs) H)=_;rw[uq];rfl
def GJ.ND{K:D->D->R->Prop}(j:GJ ty es v xs gb)(G:SH S H0 H L)[h:EU L gb ay](M:J (bY w)=es)(ht:rJ w=F)(o:all' Go.Ae.fZ (bY w)=F)(B:J xs<=16777216)(kk:∀q v' Q iN,GB ty es v' (xs++bY w) iN->SH S H0 Q (ay iN)->K q v' Q)(E:0<es:=by decide)(U:J z=es:=by rfl)(y:es<=16777216:=by decide):ME (bS ty z es 1 [(0,w)] H) λq H1=>ME (Bo ty es v q H1) (K q):=by
 rcases j with j|⟨r,n,rfl,T,rfl⟩
 .exact j.ND G M ht o B kk E U y
 have V:n<=16777216:=aQ (aQ (vg n E)<|rM T.symm) B;have⟨az,I,W⟩:=h.p;refine(G.perm I).bS U ht M y λH1 X i=>ME.of (Uv (i.get 1 O) T V<|xJ (k:=1) (i.get 0 O) N)<|kk _ _ _ [(H1.bU,ty,xs++bY w)] (.inr ⟨H1.bU,n+1,[],O,by rw[aS,jR];omega,gD⟩)<|((fU (A:=[_,_]) i).grow ty _).perm<|W [(H1.bU,ty,xs++bY w)]
def GJ.GM(y:GJ ty es v xs gb)(G:SH S H0 H L)[h:EU L gb ay](M:J (bY w)=es)(ht:rJ w=F)(B:all' Go.Ae.fZ (bY w)=F)(T:J xs<=16777216)(kk:∀q H1 v' H2 iN,GB ty es v' (xs++bY w) iN->SH S H0 (hM (hM H H1) H2) (ay iN)->N_ H H1=cl 5->(Df (hM H H1) H2=cl 1\/Df (hM H H1) H2=⟨2,0,0,0,hM H H1,H2⟩)->SH S H0 (hM H H1) L->K q H1 v' H2)(U:0<es:=by decide)(X:J z=es:=by rfl)(E:es<=16777216:=by decide):ME (bS ty z es 1 [(0,w)]<|Go.Ae.hN H) λq H1=>ME (Bo ty es v q<|Go.Ae.hN<|hM H H1) (K q H1):=by
 rcases y with y|⟨r,n,rfl,V,rfl⟩
 .exact y.GM G M ht B T kk U X E
 have Y:n<=16777216:=aQ (aQ (vg n U)<|rM V.symm) T;have⟨az,I,W⟩:=h.p;refine ME.of (QN (H:=Go.Ae.hN H) X ht M E) ?_;have i:=(G.perm I).zC ty<|bY w;have j:Bk (Go.Ae.hN<|hM H<|(Go.Ae.hN H).new<|rowOf ty<|bY w) _ ty (bY w):=i.get 0 O;have o:Bk (Go.Ae.hN<|hM H<|(Go.Ae.hN H).new<|rowOf ty<|bY w) r ty xs:=i.get 1 O;refine ME.of (Uv o V Y<|xJ (k:=1) j N)<|kk _ _ _ _ [((hM H<|(Go.Ae.hN H).new<|rowOf ty<|bY w).bU,ty,xs++bY w)] (.inr ⟨_,n+1,[],O,by rw[aS,jR];omega,by simp;rfl⟩) (((fU (A:=[_,_]) i).zC ty _).perm<|W [((hM H<|(Go.Ae.hN H).new<|rowOf ty<|bY w).bU,ty,xs++bY w)]) (yg<|Ext.new _ _) (.inl<|gJ<|Ext.new _ _) ?_;exact fU (A:=[_])<|G.zC ty<|bY w
def SH.rd{S':C Nat}{y A vn:R}{o n:Nat}{a b:R}(B:SH S H0 A L)(E:SH S' y (hM A vn) L')[I:BX L r ty f][W:BX L' r ty f](hs:∀v∈(f.drop o).take n,qA v v=F)(M:o+n<=J f:=by exact aF O):oQ ⟨2,0,0,0,A,vn⟩ ⟨4,r,o,n,a,b⟩=F:=
 let⟨i,hi⟩:=I.at';let⟨j,hj⟩:=W.at';sF (B.get i hi) ((E.get j hj).iE rfl) M hs
def SH.neT{r':Nat}{ty':aH}{cs':C D}(G:SH S H0 H L)[I:BX L r ty f][W:BX L r' ty' cs'](h:ty≠ty':=by decide):r≠r':=λe=>by
 subst e;have⟨i,hi⟩:=I.at';have⟨j,hj⟩:=W.at';exact h<|(G.get i hi).Gb.one (G.get j hj).Gb
end
section
variable{P:aX}{κ:Type}[DecidableEq κ]{e:κ->D}{S:C Nat}{cs:κ->aC D}{k:κ}{t kt vt:aH}{K:D->R->Prop}
def lkm(m:C<|κ×D)(k:κ):aC D:=(m.find? λp=>decide<|p.1=k).map (·.2)
def upm(k:κ)(v:D):C (κ×D)->C (κ×D)
 |[]=>[(k,v)]
 |p::m=>if p.1=k then(k,v)::m else p::upm k v m
abbrev Uz(e:κ->D)(m:C<|κ×D):C (D×D):=m.map λp=>(e p.1,p.2)
def Ce(e:κ->D)(H:R)(r:Nat)(cs:κ->aC D):Prop:=∃m,r<H.bU/\H.obj r=.map (Uz e m)/\∀k,lkm m k=cs k
def CG(p:κ×D)(m:C<|κ×D):lkm (p::m) k=if p.1=k then Z p.2 else lkm m k:=by
 unfold lkm;rw[List.find?_cons]
 by_cases h:p.1=k
 .rw[if_pos h,b_ h];rfl
 .rw[if_neg h,dR h]
def YW(j:κ):∀m,lkm (upm k v m) j=if j=k then Z v else lkm m j
 |[]=>by
  show lkm [(k,v)] j=_;rw[CG]
  by_cases h:j=k
  .rw[if_pos h,if_pos h.symm]
  .rw[if_neg h,if_neg λg=>h g.symm]
 |p::m=>by
  unfold upm
  by_cases hp:p.1=k
  .rw[if_pos hp,CG,CG,hp]
   by_cases h:j=k
   .rw[if_pos h,if_pos h.symm]
   .rw[if_neg h,if_neg λg=>h g.symm,if_neg λg=>h g.symm]
  .rw[if_neg hp,CG,CG,YW j m]
   by_cases h:j=k
   .rw[if_pos h,if_pos h,if_neg (by rw[h];exact hp)]
   .rw[if_neg h,if_neg h]
def Ce.ex(h:Ce e H r cs)(M:pI S H Q)(i:r∉S):Ce e Q r cs:=let⟨m,I,W,h3⟩:=h;⟨m,aO I M.bU,(M.obj r I i).trans W,h3⟩
def SH.z8(G:SH S H0 H L)(h:Ce e H r cs):r∉L.map (·.1):=λi=>by
 have⟨m,_,W,_⟩:=h;obtain⟨x,M,rfl⟩:=bP.1 i;have⟨az,I,_⟩:=G.bk x M;rw[W]at I;cases I
def YX(ht:∀a b,mU P kt (e a) (e b)=Z (decide<|a=b)):∀(m:C<|κ×D)(i:Nat),∃q:aC<|Nat×D,t_ P kt (e k) (Uz e m) i=Z q/\q.map (·.2)=lkm m k/\(q=T->Uz e m++[(e k,v)]=Uz e (upm k v m))/\∀j w,q=Z (j,w)->i<=j/\(Uz e m).set (j-i) (e k,v)=Uz e (upm k v m):=by
 intro m
 induction m with
 |nil=>exactλi=>⟨T,rfl,rfl,λ_=>rfl,λj w h=>by cases h⟩
 |cons p m y=>
  intro i;have o:t_ P kt (e k) (Uz e<|p::m) i=aN (mU P kt (e k)<|e p.1) λb=>cr b (Z<|Z (i,p.2)) (t_ P kt (e k) (Uz e m)<|dh i):=rfl;rw[o,ht,CG];unfold upm
  by_cases h:k=p.1
  .rw[b_ h,if_pos h.symm,if_pos h.symm];refine⟨Z (i,p.2),O,O,(λh=>by cases h),λj w g=>?_⟩;cases g;exact⟨ax _,by rw[kN];rfl⟩
  .rw[dR h,if_neg λg=>h g.symm,if_neg λg=>h g.symm];have⟨q,I,W,h3,h4⟩:=y<|i+1;refine⟨q,I,W,λg=>fq (_::·)<|h3 g,λj w g=>?_⟩;have⟨g1,g2⟩:=h4 j w g;refine⟨N,?_⟩;rw[show j-i=(j-(i+1))+1 by omega];exact fq (_::·) g2
def Tw(ht:∀a b,mU P kt (e a) (e b)=Z (decide<|a=b)):Bw P kt (e k)=Z ():=by
 show aN (mU P kt (e k)<|e k) _=_;rw[ht,b_ O];rfl
def Ce.look(j:Ce e H r cs)(I:vz P t=Z (kt,vt))(W:zw P vt=Z z)(i:∀a b,mU P kt (e a) (e b)=Z (decide<|a=b))(kk:K (okd ok ((cs k).getD z) (cs k).isSome H).1 H):ME (uT P t (.map<|Z r) (e k) ok H) K:=by
 have⟨m,g1,g2,g3⟩:=j;have⟨q,e1,e2,_⟩:=YX (v:=z) i (k:=k) m 0
 have:uT P t (.map<|Z r) (e k) ok H=Z (okd ok ((cs k).getD z) (cs k).isSome H):=by
  show(aN (vz P t) λq=>aN (zw P q.2) λz=>aN (mapOf H<|.map<|Z r) λes=>aN (Bw P q.1<|e k) λ_=>aN (t_ P q.1 (e k) es 0) λcs=>_)=_;rw[I];show(aN (zw P vt) λz=>aN (LG<|H.obj r) λes=>aN (Bw P kt<|e k) λ_=>aN (t_ P kt (e k) es 0) λcs=>_)=_;rw[W,g2,Tw i];show aN (t_ P kt (e k) (Uz e m) 0) _=_;rw[e1,<-g3,<-e2];cases q<;>rfl
 rw[this];cases ok<;>exact ME.of O kk
def Ce.Kn(j:Ce e H r cs)(I:vz P t=Z (kt,vt))(W:zw P vt=Z z)(i:∀a b,mU P kt (e a) (e b)=Z (decide<|a=b))(kk:K (.tuple ⟨[(cs k).getD z,.bool (cs k).isSome]⟩) H):ME (uT P t (.map<|Z r) (e k) F H) K:=j.look I W i kk
def Ce.has{p:κ->Prop}[DecidablePred p](j:Ce e H r λk=>if p k then Z z else T)(I:vz P t=Z (kt,vt))(W:zw P vt=Z z)(i:∀a b,mU P kt (e a) (e b)=Z (decide<|a=b))(kk:K (.tuple ⟨[z,.bool<|decide<|p k]⟩) H):ME (uT P t (.map<|Z r) (e k) F H) K:=j.Kn I W i (by
 by_cases h:p k
 .simp only[if_pos h,b_ h]at kk|-;exact kk
 .simp only[if_neg h,dR h]at kk|-;exact kk)
def Ce.plus{p q:κ->Prop}[DecidablePred p][DecidablePred q](i:Ce e H r λj=>if j=k then Z z else if p j then Z z else T)(h:∀j,q j<->p j\/j=k):Ce e H r λj=>if q j then Z z else T:=by
 have:(λj=>if q j then Z z else T)=λj=>if j=k then Z z else if p j then Z z else T:=funext λj=>by
  by_cases I:j=k
  .rw[if_pos I,if_pos<|(h j).2<|.inr I]
  .rw[if_neg I]
   by_cases W:p j
   .rw[if_pos W,if_pos<|(h j).2<|.inl W]
   .rw[if_neg W,if_neg λg=>((h j).1 g).elim W I]
 rw[this];exact i
def aeh{m:C (κ×D)}(j:H.obj r=.map (Uz e m))(I:vz P t=Z (kt,vt))(i:∀a b,mU P kt (e a) (e b)=Z (decide<|a=b)):w_ P t (.map<|Z r) (e k) v H=Z (undef,H.put r<|.map<|Uz e<|upm k v m):=by
 have⟨q,e1,_,e2,e3⟩:=YX (v:=v) i (k:=k) m 0;show(aN (vz P t) λq=>aN (LG<|H.obj r) λes=>aN (Bw P q.1<|e k) λ_=>aN (t_ P q.1 (e k) es 0) λcs=>_)=_;rw[I];show(aN (LG<|H.obj r) λes=>aN (Bw P kt<|e k) λ_=>aN (t_ P kt (e k) es 0) λcs=>_)=_;rw[j,Tw i];show aN (t_ P kt (e k) (Uz e m) 0) _=_;rw[e1];cases q with
 |none=>
  rw[<-e2 O];show Z (undef,H.put r<|.map<|app (Uz e m) [(e k,v)])=_;rw[uq]
 |some p=>
  rw[<-(e3 _ _ O).2];show Z (undef,H.put r<|.map<|setAt (e k,v) p.1<|Uz e m)=_;rw[Cj];rfl
def SH.amL{H1:R}{m:C (κ×D)}(G:SH S H0 H L)(I:r∈S\/H0.bU<=r)(E:r∉L.map (·.1))(B:r<H.bU)(g3:∀k,lkm m k=cs k)(M:pI [r] H H1)(y:H1.obj r=.map (Uz e<|upm k v m))(e2:∀q,q≠r->H1.obj q=H.obj q)(i:H1.bU=H.bU):Ce e H1 r (λj=>if j=k then Z v else cs j)/\SH S H0 H1 L:=
 ⟨⟨_,by rw[i];exact B,y,λj=>by rw[YW,g3]⟩,G.ext.later M (λq o=>by rw[aT]at o;subst o;exact I),λx M=>(G.bk x M).iE<|e2 _ λh=>E (by rw[<-h];exact bP.2 ⟨x,M,O⟩),λx M=>by rw[i];exact G.lo x M,G.ne,M.wf G.wf⟩
def SH.ajU(G:SH S H0 H L)(N:r∈S\/H0.bU<=r)(i:Ce e H r cs)(I:vz P t=Z (kt,vt))(B:∀a b,mU P kt (e a) (e b)=Z (decide<|a=b))(kk:∀Q,Ce e Q r (λj=>if j=k then Z v else cs j)->SH S H0 Q L->pI [r] H Q->K undef Q):ME (w_ P t (.map<|Z r) (e k) v H) K:=by
 have E:=G.z8 i;obtain⟨m,o,y,g3⟩:=i;have M:=pI.put H r<|.map<|Uz e<|upm k v m;obtain⟨a,b⟩:=G.amL N E o g3 M (by rw[wS,if_pos O]) (λq J=>by rw[wS,if_neg J]) O;exact ME.of (aeh y I B)<|kk _ a b M
def SH.aei(G:SH S H0 H L)(N:r∈S\/H0.bU<=r)(i:Ce e H r cs)(I:vz P t=Z (kt,vt))(B:∀a b,mU P kt (e a) (e b)=Z (decide<|a=b))(kk:∀Q,Ce e (hM H Q) r (λj=>if j=k then Z v else cs j)->SH S H0 (hM H Q) L->pI [r] H (hM H Q)->Df H Q=⟨2,0,0,0,H,Q⟩->K undef Q):ME (w_ P t (.map<|Z r) (e k) v<|Go.Ae.hN H) K:=by
 have E:=G.z8 i;obtain⟨m,o,y,g3⟩:=i;have M:pI [r] H (hM H<|(Go.Ae.hN H).put r<|.map<|Uz e<|upm k v m):=(pI.put (Go.Ae.hN H) r _).draw;obtain⟨a,b⟩:=G.amL (v:=v) N E o g3 M (by show((Go.Ae.hN H).put r _).obj r=_;rw[wS,if_pos O]) (λq J=>by show((Go.Ae.hN H).put r _).obj q=_;rw[wS,if_neg J];rfl) rfl;exact ME.of (aeh (H:=Go.Ae.hN H) y I B)<|kk _ a b M<|X4 (by rw[wT];show min H.bU r<_;omega)
theorem SH.mkMap{q:aH×aH}(G:SH S H0 H L)(I:vz P t=Z q)(kk:∀Q r,Ce e Q r (λ_=>T)->Ext H Q->H.bU<=r->SH S H0 Q L->K (.map<|Z r) Q):ME (vD P t T H) K:=by
 refine ME.of (v:=.map<|Z H.bU) (H:=H.new<|.map []) ?_<|kk _ _ ⟨[],dI _,by rw[yf,if_pos O];rfl,λ_=>rfl⟩ (Ext.new _ _) (ax _)<|G.call<|Ext.new _ _;show aN (vz P t) _=_;rw[I];rfl
end
def aes{g:Cl->Cl}{H':Cl->Prop}(o:∀x y b,H' x->H' y->gI (g y) (g x) b=F->gI y x b=F):∀(ms:C Nat)(l:C Cl),(∀c∈l,H' c)->pairs gI ms (l.map g)=F->pairs gI ms l=F:=by
 have row:∀(x:Cl)(k:Nat)(l:C Cl),H' x->(∀c∈l,H' c)->jW gI (g x) k (l.map g)=F->jW gI x k l=F:=by
  intro x k l M
  induction l with
  |nil=>intro _ _;rfl
  |cons y l j=>
   intro h I;replace I:cr (gI (g x) (g y)<|iR k<|len<|l.map g) (jW gI (g x) k<|l.map g) aA=F:=I;have⟨W,h4⟩:=BZ I;show cr (gI x y<|iR k<|len l) (jW gI x k l) aA=F;rw[ig,aK]at W;rw[ig,o y x _ (h y<|aL ..) M W,j (λc i=>h c<|bL _ i) h4];rfl
 intro ms
 induction ms with
 |nil=>intro l _ _;rfl
 |cons k ms j=>
  intro l h I;cases l with
  |nil=>rfl
  |cons x l=>
   replace I:cr (jW gI (g x) k<|l.map g) (pairs gI ms<|l.map g) aA=F:=I;have⟨W,h4⟩:=BZ I;show cr (jW gI x k l) (pairs gI ms l) aA=F;rw[row x k l (h x<|aL ..) (λc i=>h c<|bL _ i) W,j l (λc i=>h c<|bL _ i) h4];rfl
def g9(c:Cl):Cl:=⟨c.k,0,0,1,hh0,hh0⟩
theorem aet{x y:Cl}(x3:x.k≠3)(i:y.k≠3)(h:gI (g9 y) (g9 x) b=F):gI y x b=F:=by
 have r:∀w l:Cl,oQ (g9 w) (g9 l)=aA:=λw l=>Js (a:=hh0) (b:=hh0) (l:=g9 l) O (by show(1:Nat)≠0;decide);unfold gI at h|-;rw[BF x3,BF i];rw[show aB (g9 x).k 3=aA from BF x3,show aB (g9 y).k 3=aA from BF i,r,r,nP]at h
 revert h
 show cr (aB y.k 0||aB x.k 0||aB y.k 5||aB x.k 5) F (cr aA _<|cr aA _<|cr (aB x.k 4) (cr (aB y.k 2) b F)<|cr (aB y.k 4) (cr (aB x.k 2) b F)<|cr (aB x.k 1&&aB y.k 1) F b)=F->_;cases(aB y.k 0||aB x.k 0||aB y.k 5||aB x.k 5)<;>cases aB x.k 4<;>cases aB y.k 2<;>cases aB y.k 4<;>cases aB x.k 2<;>cases b<;>intro h<;>first|rfl|exact h|(cases h;done)
def aeu{ops:Array Oper}{l:C Cl}{K:Prop}(i:all' (λc=>!(aB c.k 3)) (l.map g9)=F)(h:pairs gI (vE ops.toList [] 0) (l.map g9)=F)(k:K):kZ ops l=F/\K:=by
 refine⟨?_,k⟩;unfold kZ;rw[aes (H':=λc=>c.k≠3) (λx y b M o=>aet M o) _ l (λc j e=>?_) h]
 .cases noTwo l<;>rfl
 .rw[all_eq,fE]at i;have:=i (g9 c)<|List.mem_map_of_mem j;unfold g9 at this;rw[e]at this;cases this
end Go.Ae
