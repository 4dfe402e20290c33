/-
  Part 05 of the proof. No condition.
-/
import Derived.Test.YtpngmpbmokhmiaaGreatDoorZ04
set_option linter.unusedVariables false
set_option linter.unusedSimpArgs false
set_option maxRecDepth 100000
set_option maxHeartbeats 4000000
set_option linter.defProp false
open Option renaming some->Z,none->T
open Bool renaming true->f,false->aA
open Go renaming Value->C,TypeId->aI,Program->aX,Operand->cz,IntKind->f_,BinOp->tH
open Go.Value renaming int->a_,slice->J,bool->aO,string->aJ,pointer->bG,tuple->fJ,agg->dN
open Nat renaming beq->aB,succ->dh,ble->aD,add->bq,mul->bP
open List renaming length->u
open UInt8 renaming ofNat->jP
open List.Pairwise renaming nil->qy
open List.Perm renaming swap->iF,cons->fA
open ByteArray renaming mk->dJ
open BitVec renaming ofInt->kU
open Go.IntKind renaming u8->dz,i32->bO,i64->bC,wrap->oJ,u64->fO
noncomputable section
namespace Go.Proofs.Lu
open Go.Ae Go.Ae.hx
variable{KM b b' c d ay g k k0 kb m r rb sz:Nat}{A L Lx hx M' Mb gb:D eF}{K:C->C->R->Prop}{H Q H0 Hb Hc:R}{v:C}{bs F ks l:D C}{a p:aC Addr}{ch kd root x z:Int}{F':Nat->Prop}{nm s t:aZ}{aa w:Bool}
def Q0(p:C->Prop)(H:R)(v:C)(Q:R):Prop:=p v/\Q=H
def Q1(p:C->R->Prop)(H:R)(v:C)(Q:R):Prop:=p v Q/\Ext H Q
def _root_.Go.Ae.SH.cm{S:D Nat}{args:D C}{p K:C->R->Prop}(G:SH S H0 H L)(h:bM Pg X g args H<|Q1 p H)(k:∀v Q,p v Q->Ext H Q->SH S H0 Q L->K v Q):bM Pg X g args H K:=dn h λv Q i=>k v Q i.1 i.2<|G.call i.2
abbrev isB(v:C):Prop:=∃b,v=aO b
def Nb(c:Int):bM Pg X 197 [a_ dz c] H (Q0 isB H):=by
 refine lF [0,2] ?_
 repeat' (first|(refine bN ?_)|(refine aV (λi=>?_) λi=>?_)|(refine rr ?_))
 all_goals exact⟨⟨_,O⟩,O⟩
theorem Kb(c:Int):bM Pg X 169 [a_ dz c] H (Q0 isB H):=by
 refine lF [0,2] ?_
 repeat' (first|(refine bN ?_)|((refine dn (Nb _) ?_;rintro v Q ⟨⟨b,rfl⟩,rfl⟩))|(refine aV (λi=>?_) λi=>?_)|(refine rr ?_))
 all_goals exact⟨⟨_,O⟩,O⟩
theorem TI(c:Int):bM Pg X 198 [a_ dz c] H (Q0 isB H):=by
 refine lF [0,2] ?_
 repeat' (first|(refine bN ?_)|((refine dn (Kb _) ?_;rintro v Q ⟨⟨b,rfl⟩,rfl⟩))|(refine ig (λi=>?_) λi=>?_)|(refine rr ?_))
 all_goals exact⟨⟨_,O⟩,O⟩
def Js(c:Int):bM Pg X 173 [a_ dz c] H (Q0 (λv=>∃k b,v=fJ ⟨[vi k,aO b]⟩) H):=by
 refine lF [0,2,3,4] ?_
 repeat' (first|(refine bN ?_)|(refine aV (λi=>?_) λi=>?_)|(refine rr ?_))
 all_goals exact⟨⟨_,_,O⟩,O⟩
abbrev al6(s t:aZ)(v:C):Prop:=∃b:Bool,v=aO b/\(b=f->∃r,s.data.toList=t.data.toList++r)
def KP(s t:aZ):bM Pg X 195 [aJ s,aJ t] H (Q0 (al6 s t) H):=by
 refine ce [0,1,4] ?_;refine tK (λi=>?_) λi=>?_
 .rw[ajc N];refine bN ?_;refine rr ?_;refine⟨⟨_,O,λh=>?_⟩,rfl⟩;have I:Go.Ae.part s 0 t.size=t:=gF h;have B:(Go.Ae.part s 0 t.size).data.toList=t.data.toList:=by rw[I]
  refine⟨s.data.toList.drop t.size,?_⟩;rw[<-B];exact(jb t.size s.data.toList).symm
 .refine rr ?_;exact⟨⟨_,O,λh=>by cases h⟩,rfl⟩
def EG(s t:aZ):bM Pg X 167 [aJ s,aJ t] H (Q0 (al6 s t) H):=by
 refine lF [0,1,4] ?_;refine dn (KP s t) ?_;rintro v Q ⟨⟨b,rfl,i⟩,rfl⟩;refine rr ?_;exact⟨⟨_,O,i⟩,O⟩
def V4(c:Int):bM Pg X 237 [a_ dz c] H (Q0 (λv=>∃k b,v=fJ ⟨[a_ bO k,aO b]⟩) H):=by
 refine lF [0,2,3] ?_
 repeat' (first|(refine bN ?_)|(refine aV (λi=>?_) λi=>?_)|(refine tl ?_)|(refine rr ?_))
 all_goals exact⟨⟨_,_,O⟩,O⟩
def Nc(c:Int):bM Pg X 248 [a_ bO c] H (Q0 isB H):=by
 refine lF [0,2] ?_
 repeat' (first|(refine bN ?_)|(refine aV (λi=>?_) λi=>?_)|(refine tl ?_)|(refine rr ?_))
 all_goals exact⟨⟨_,O⟩,O⟩
theorem TJ(c:Int):bM Pg X 238 [a_ bO c] H (Q0 (λv=>∃s b,v=fJ ⟨[aJ s,aO b]⟩) H):=by
 refine lF [0,2,3] ?_;refine dn (Nc _) ?_;rintro v Q ⟨⟨b,rfl⟩,rfl⟩
 repeat' (first|(refine bN ?_)|(refine ig (λi=>?_) λi=>?_)|(refine rr ?_))
 all_goals exact⟨⟨_,_,O⟩,O⟩
section
structure Dl(H:R):Prop where
 first:∀i:Nat,i<256->∃x:Int,(x=240\/x=241\/x=2\/x=19\/x=3\/x=35\/x=52\/x=4\/x=68)/\H.cell 1 i=Z (a_ dz x)
 rng:∀i:Nat,i<16->∃a b:Int,H.read 2 (i*2) 2=Z [a_ dz a,a_ dz b]
 lt:3<=H.bV
theorem Dl.ex(h:Dl H)(M:Ext H Q):Dl Q:=
 ⟨λi j=>by
  have⟨x,I,B⟩:=h.first i j
  exact⟨x,I,(l8 (M.obj 1 (by have:=h.lt;omega) gB) _).trans B⟩,
  λi j=>by
   have⟨a,b,B⟩:=h.rng i j;exact⟨a,b,(xD (M.obj 2 (by have:=h.lt;omega) gB) _ _).trans B⟩,
  aR h.lt M.bV⟩
def aaj(M:x=240\/x=241\/x=2\/x=19\/x=3\/x=35\/x=52\/x=4\/x=68):240<=x\/(x<240/\∃z q:Nat,2<=z/\z<=4/\q<16/\p_ bC (af8 dz x 7)=(z:Int)/\F_ dz x 4=(q:Int)):=by
 rcases M with rfl|rfl|rfl|rfl|rfl|rfl|rfl|rfl|rfl
 .left;decide
 .left;decide
 .right;exact⟨jg,2,0,jg,jg,jg,jg,jg⟩
 .right;exact⟨jg,3,1,jg,jg,jg,jg,jg⟩
 .right;exact⟨jg,3,0,jg,jg,jg,jg,jg⟩
 .right;exact⟨jg,3,2,jg,jg,jg,jg,jg⟩
 .right;exact⟨jg,4,3,jg,jg,jg,jg,jg⟩
 .right;exact⟨jg,4,0,jg,jg,jg,jg,jg⟩
 .right;exact⟨jg,4,4,jg,jg,jg,jg,jg⟩
abbrev adr(s:aZ)(v:C)(Q:R):Prop:=∃(r:Int)(k:Nat),v=fJ ⟨[a_ bO r,W k]⟩/\k<=4/\k<=s.size/\(0<s.size->0<k)
def Im(k:Nat)(i:z=(k:Int))(h:k<s.size):∃c:UInt8,idS (aJ s) (a_ bC z)=Z (a_ dz (c.toNat:Int)):=by subst i;exact⟨_,uP h⟩
set_option maxHeartbeats 1000000 in
theorem Dz(hw:Wf H)(j:Dl H)(s:aZ):bM Pg X 236 [aJ s] H (Q1 (adr s) H):=by
 have G:=gM hw;refine ce [0,2,3,4,5,6,7,8,9,10,11,12] ?_;refine tK (λI=>?_) λI=>?_
 .refine rr ?_;exact⟨⟨_,0,O,N,N,λh=>N⟩,G.ext⟩
 .have⟨c,e0⟩:=Im (s:=s) (z:=0) 0 O N;have y:c.toNat<256:=c.toNat_lt;simp only[e0,Lg];rw[acu y];refine bN ?_;have⟨x,M,hcell⟩:=j.first _ y
  refine G.CJ (by rw[dY];exact hcell) (by have:=j.lt;omega) ?_;refine tJ (λB=>?_) λB=>?_
  .refine rr ?_;exact⟨⟨_,1,O,N,N,λh=>N⟩,G.ext⟩
  .rcases aaj M with u|⟨u,z,q,ab,ac,E,V,U⟩
   .exact absurd u B
   .rw[V,U,acu E];refine bN ?_;have⟨a,b,hr⟩:=j.rng q E;refine G.BN hr (by have:=j.lt;omega) ?_;refine G.jM λH1 r1 G=>G.st 0 O O gB O λT G=>?_;have G:SH [] H T [(r1,353,[a_ dz a,a_ dz b])]:=G;refine tJ (λW=>?_) λW=>?_
    .refine rr ?_;exact⟨⟨_,1,O,N,N,λh=>N⟩,G.ext⟩
    .have⟨c1,e1⟩:=Im (s:=s) (z:=1) 1 O N;simp only[e1,Lg];refine G.ld 0 O O ?_;refine tJ (λo=>?_) λo=>?_
     .refine rr ?_;exact⟨⟨_,1,O,N,N,λh=>N⟩,G.ext⟩
     refine G.ld 0 O O ?_;refine tJ (λo=>?_) λo=>?_
     .refine rr ?_;exact⟨⟨_,1,O,N,N,λh=>N⟩,G.ext⟩
     refine tK (λY=>?_) λY=>?_
     .refine rr ?_;exact⟨⟨_,2,O,N,N,λh=>N⟩,G.ext⟩
     have⟨c2,e2⟩:=Im (s:=s) (z:=2) 2 O N;simp only[e2];refine tJ (λi=>?_) λi=>?_
     .refine rr ?_;exact⟨⟨_,1,O,N,N,λh=>N⟩,G.ext⟩
     refine aV (λi=>?_) λi=>?_
     .refine rr ?_;exact⟨⟨_,1,O,N,N,λh=>N⟩,G.ext⟩
     refine tK (λh8=>?_) λh8=>?_
     .refine rr ?_;exact⟨⟨_,3,O,N,N,λh=>N⟩,G.ext⟩
     have⟨c3,e3⟩:=Im (s:=s) (z:=3) 3 O N;simp only[e3];refine tJ (λi=>?_) λi=>?_
     .refine rr ?_;exact⟨⟨_,1,O,N,N,λh=>N⟩,G.ext⟩
     refine aV (λi=>?_) λi=>?_
     .refine rr ?_;exact⟨⟨_,1,O,N,N,λh=>N⟩,G.ext⟩
     refine tp ?_;refine rr ?_;exact⟨⟨_,4,O,N,N,λh=>N⟩,G.ext⟩
def TK(o:Wf H)(j:Dl H)(s:aZ):bM Pg X 221 [aJ s] H (Q1 (adr s) H):=by
 refine ce [0,2,3] ?_;refine al3 (λI=>?_) λI=>?_
 .have hs:0<s.size:=by
   rcases gX s.size with h|h
   .exfalso;apply I;have⟨⟨l⟩⟩:=s;have:u l=0:=h;rw[eP]at this;subst this;rfl
   .exact h
  have⟨c,e0⟩:=Im (s:=s) (z:=0) 0 O hs;simp only[e0];refine bN ?_;refine tK (λB=>?_) λB=>?_
  .simp only[e0];refine bN ?_;refine rr ?_;exact⟨⟨_,1,O,N,N,λh=>N⟩,Ext.refl _⟩
  .refine dn (Dz o j s) ?_;rintro v Q ⟨⟨r,k,rfl,i⟩,M⟩;simp only[ajd];refine bN ?_;refine tl<|rr ?_;exact⟨⟨_,k,O,i⟩,M⟩
 .refine tp ?_;refine dn (Dz o j s) ?_;rintro v Q ⟨⟨r,k,rfl,i⟩,M⟩;refine bN ?_;refine tl<|rr ?_;exact⟨⟨_,k,O,i⟩,M⟩
end
section
def isByte(v:C):Prop:=∃n:Nat,n<=255/\v=a_ dz (n:Int)
def wrap_u8(n:Int):∃m:Nat,m<=255/\oJ dz n=(m:Int):=by
 refine⟨(n %256).toNat,N,?_⟩;show n %(2^8:Int)=_;have:(2:Int)^8=256:=jg;rw[this];omega
def TL(n:Int):isByte (a_ dz<|p_ dz n):=by
 have:p_ dz n=oJ dz n:=by cases n<;>rfl
 rw[this];have⟨m,I,B⟩:=wrap_u8 n;exact⟨m,I,by rw[B]⟩
def Jt(a b:Int):isByte (a_ dz<|bOr dz a b):=by have⟨m,I,B⟩:=wrap_u8<|BitVec.toNat<|kU (dz).bits a|||kU (dz).bits b;exact⟨m,I,by unfold bOr;rw[B]⟩
def Gn(n:Nat)(h:n<=255):isByte (a_ dz (n:Int)):=⟨n,h,O⟩
def ads(F:D C)(h:∀x∈F,isByte x):∃bs,uh F=Z bs/\u bs=u F:=by
 induction F with
 |nil=>exact⟨[],O,O⟩
 |cons x F o=>
  have⟨bs,I,B⟩:=o λy j=>h y<|bJ _ j;obtain⟨n,i,rfl⟩:=h x<|aK ..
  refine⟨jP n::bs,?_,by simp[B]⟩;show(aN (Z (dz,(n:Int))) λp=>aN (LJ p.2) λn=>gd (Kv p.1&&aD n 255)<|aN (uh F) λbs=>Z<|jP n::bs)=_;rw[I];show gd (aD n 255) _=_;rw[aH i];rfl
def V5:∀{F:D C}{l:D UInt8},uh F=Z l->u l=u F:=by
 intro F
 induction F with
 |nil=>intro l h;cases h;rfl
 |cons x F i=>
  intro l h;replace h:(aN (vg x) λp=>aN (LJ p.2) λn=>gd (Kv p.1&&aD n 255)<|aN (uh F) λbs=>Z<|jP n::bs)=Z l:=h;have⟨p,_,h⟩:=aL h;have⟨n,_,h⟩:=aL h;have⟨_,h⟩:=gJ h;have⟨bs,I,h⟩:=aL h;cases h;simp[i I]
def YB(F:D C)(h:∀x∈F,isByte x):all' gI F=f:=by
 rw[all_eq,fD];intro x M;obtain⟨n,_,rfl⟩:=h x M;rfl
section lit
variable{e:aI}{z:C}{k:f_}{a b c d:Int}
def aib:bS e [z] 1 1 [(0,a_ k a)] H=Z (J (Z ⟨H.bV,0,T⟩) 1 1,H.new<|rowOf e [a_ k a]):=rfl
def aic:bS e [z] 1 2 [(0,a_ k a),(1,a_ k b)] H=Z (J (Z ⟨H.bV,0,T⟩) 2 2,H.new<|rowOf e [a_ k a,a_ k b]):=rfl
def adt:bS e [z] 1 3 [(0,a_ k a),(1,a_ k b),(2,a_ k c)] H=Z (J (Z ⟨H.bV,0,T⟩) 3 3,H.new<|rowOf e [a_ k a,a_ k b,a_ k c]):=rfl
def aid:bS e [z] 1 4 [(0,a_ k a),(1,a_ k b),(2,a_ k c),(3,a_ k d)] H=Z (J (Z ⟨H.bV,0,T⟩) 4 4,H.new<|rowOf e [a_ k a,a_ k b,a_ k c,a_ k d]):=rfl
end lit
def TM(H0:R)(L:D eF)(bs:D C)(v':C)(Q:R):Prop:=∃xs i,GB 5 1 v' (bs++xs) i/\SH [] H0 Q (i++L)/\(∀x∈xs,isByte x)/\u xs<=4/\0<u xs
def EH{K:C->R->Prop}(o:GB 5 1 v bs gb)(G:SH [] H0 H<|gb++L)(hl:u bs<=10000000){xs:D C}(y:u xs=m+1)(E:m<=3)(j:∀x∈xs,isByte x)(k:∀v' Q,TM H0 L bs v' Q->K v' Q):ME (Ch 5 1 v (J (Z ⟨H.bV,0,T⟩) (m+1)<|m+1)<|H.new<|rowOf 5 xs) K:=by
 have i:=G.grow 5 xs;have⟨v',H1,iX,I,B,h3,_⟩:=o.app (m:=m) (cx:=m+1) i N N (YB xs j) N N;rw[I];exact k v' H1 ⟨xs,iX,B,h3,j,N,N⟩
set_option maxHeartbeats 1000000 in
theorem Nf(j:GB 5 1 v bs gb)(G:SH [] H0 H<|gb++L)(hl:u bs<=10000000)(r:Int):
 bM Pg X 240 [v,a_ bO r] H (TM H0 L bs):=by
 refine ce [0,1,4,5] ?_;refine tK (λI=>?_) λI=>?_
 .refine ME.of aic ?_;refine EH j G hl (m:=1) O N (by intro x M;simp at M;rcases M with rfl|rfl<;>exact Jt _ _) λU Q h=>?_;exact rr<|h
 .have i:∀c E,Ci E 25=aO c->iC Pg X (sub rC [1,1,0,1,1,1]) (qU v (a_ bO r) (J T 0 0) (a_ .u32<|p_ .u32 r) E H) (uk 0<|jO Pg [.tmp 4]<|TM H0 L bs):=by
   intro c E y;refine tl ?_;rw[y];refine sD (λB=>?_) λB=>?_
   .refine ME.of adt ?_;refine EH j G hl (m:=2) O N (by intro x M;simp at M;rcases M with rfl|rfl|rfl<;>exact Jt _ _) λU Q h=>?_;exact rr<|h
   .have V:∀c E,Ci E 50=aO c->iC Pg X (sub rC [1,1,0,1,1,1,1,1]) (qU v (a_ bO r) (J T 0 0) (a_ .u32<|p_ .u32 r) E H) (uk 0<|jO Pg [.tmp 4]<|TM H0 L bs):=by
     intro c E y;refine tl ?_;rw[y];refine sD (λB=>?_) λB=>?_
     .refine ME.of aid ?_;refine EH j G hl (m:=3) O N (by intro x M;simp at M;rcases M with rfl|rfl|rfl|rfl<;>exact Jt _ _) λU Q h=>?_;exact rr<|h
     .refine ME.of adt ?_;refine EH j G hl (m:=2) O N (by intro x M;simp at M;rcases M with rfl|rfl|rfl<;>first|exact Gn 239 N|exact Gn 191 N|exact Gn 189 N) λU Q h=>?_;exact rr<|h
    refine aV (λo=>?_) λo=>?_
    .exact V _ _ (by simp only[yP,Dc];rfl)
    .exact V _ _ (by simp only[yP,Dc];rfl)
  refine aV (λB=>?_) λB=>?_
  .exact i _ _ (by simp only[yP,Dc];rfl)
  .refine aV (λo=>?_) (λo=>?_)
   .exact i _ _ (by simp only[yP,Dc];rfl)
   .exact i _ _ (by simp only[yP,Dc];rfl)
def KQ(i:GB 5 1 v bs gb)(G:SH [] H0 H<|gb++L)(hl:u bs<=10000000)(r:Int):
 bM Pg X 224 [v,a_ bO r] H (TM H0 L bs):=by
 refine ce [0,1,4] ?_;refine tK (λI=>?_) λI=>?_
 .refine ME.of aib<|EH i G hl (m:=0) O N (by intro x M;simp at M;rcases M with rfl;exact TL _) λj Q h=>?_;exact rr<|h
 .exact dn (Nf i G hl r) λj Q h=>rr<|h
abbrev bu(rb:Nat)(p:aC Addr)(v:C):eF:=(rb,301,[bG p,v])
def TN(t:aI)(ox:cz)(op:tH)(a:Addr)(ht:I4 Pg t=1)(i:Aj op=1):mW Pg op t ox (.const<|bG T) (bG<|Z a) (bG T)=Z (aO aA):=by
 show DX op (aeq Pg t ox (.const<|bG T) (bG<|Z a)<|bG T)=_;show DX op (OT (I4 Pg t) (bG T)<|bG<|Z a)=_;rw[ht];show b_ (aB (Aj op) 1) _ _=_;rw[i];rfl
def QW(t:aI)(ox:cz)(op:tH)(ht:I4 Pg t=1)(i:Aj op=1):mW Pg op t ox (.const<|bG T) (bG T) (bG T)=Z (aO f):=by
 show DX op (OT (I4 Pg t) (bG T)<|bG T)=_;rw[ht];show b_ (aB (Aj op) 1) _ _=_;rw[i];rfl
def OB(x:C):bM Pg X 239 [x] H (Q0 (λv=>v=x) H):=by
 refine⟨x,H,⟨1,?_⟩,O,O⟩;rfl
def Jd{P:aX}{ty s e:Nat}(i:Bk H r ty F)(h:0<u F)(j:aa6 P s d=Z (3,e,0))(hs:wH P e=Z sz)(I:1<=sz):
 wo P s d (bG<|Z ⟨r,0,T⟩) H=Z (bG<|Z ⟨r,0,T⟩,H):=by
 have⟨az,e1,_,e2,_⟩:=i;unfold wo;rw[j];show(aN (wH P e) λs=>aN (xH<|H.obj r) λw=>gd (aD 1 s&&aD 1 w.n)<|Z (bG<|Z ⟨r,0,T⟩,H))=_;rw[hs,e1];show gd (aD 1 sz&&aD 1 az.n) _=_;rw[e2,aH I,aH h];rfl
def Je{P:aX}{ty s:Nat}(i:Bk H r ty F)(j:aa6 P s d=Z (4,ty,0))(hs:wH P ty=Z sz)(I:1<=sz)(h:sz<=u F):
 wo P s d (bG<|Z ⟨r,0,T⟩) H=Z (bG<|Z ⟨r,0,T⟩,H):=by
 have⟨az,e1,e3,e2,_⟩:=i;unfold wo;rw[j];show(aN (wH P ty) λs=>aN (xH<|H.obj r) λw=>gd (aD 1 s&&aB w.ty ty&&aB 0 0&&aD s w.n)<|Z (bG<|Z ⟨r,0,T⟩,H))=_;rw[hs,e1];show gd (aD 1 sz&&aB az.ty ty&&aB 0 0&&aD sz az.n) _=_;rw[e2,e3,aH I,aH h,dW];rfl
def CV.me{o:aC C}{q:aC (C×R)}{H1:R}{Kp:C->Prop}{Km:C->R->Prop}(ho:o=T)(i:q=Z (v,H1))(k:Km v H1):CV o q Kp Km:=by rw[ho,i];exact k
def adu(t:aI)(i j:Nat)(r:Nat)(ht:I5 Pg t=f):mW Pg .neq t (.tmp i) (.tmp j) (bG<|Z ⟨r,0,T⟩) (bG<|Z ⟨r,0,T⟩)=Z (aO aA):=by
 show DX .neq (b_ (I5 Pg t) (Go.Ae.ptrEq (bG<|Z ⟨r,0,T⟩)<|bG<|Z ⟨r,0,T⟩) _)=_;rw[ht];show DX .neq (gd (aB r r)<|Z<|aB 0 0)=_;rw[dW];rfl
theorem Nh(i:p=T\/p=Z ⟨rb,0,T⟩)(G:SH [] H0 H<|bu rb p v::L):
 bM Pg X 223 [bG (Z ⟨rb,0,T⟩)] H λw Q=>SH [] H0 Q (bu rb (Z ⟨rb,0,T⟩) v::L):=by
 refine GV [0] ?_;refine G.ld 0 O O ?_;rcases i with rfl|rfl
 .rw[QW _ _ _ fQ O];refine bN ?_;refine CV.me fQ (Jd (sz:=2) (e:=301) (G.get 0 O) (wS _) fQ fQ N)<|dn (OB _) ?_;rintro w Q ⟨rfl,rfl⟩;refine CV.me fQ (Je (sz:=2) (G.get 0 O) fQ fQ N<|ax _)<|G.st 0 O O (by show 0+1<=2;omega) rfl λj G=>?_;exact rn<|G
 .rw[TN _ _ _ _ fQ O];refine bN ?_;refine G.ld 0 O O ?_;rw[adu _ _ _ _ fQ];refine bN ?_;exact rn<|G
def KS(rb:Nat)(bs:D C)(A:D eF):Prop:=∃p v gb,(p=T\/p=Z ⟨rb,0,T⟩)/\GB 5 1 v bs gb/\A=bu rb p v::gb/\(∀x∈bs,isByte x)/\(bs=[]->v=J T 0 0)
def EI(hb:KS rb bs A)(G:SH [] H0 H<|A++L)(hl:u bs<=1000000)(r:Int):
 bM Pg X 202 [bG (Z ⟨rb,0,T⟩),a_ bO r] H λw Q=>(∃x y,w=fJ ⟨[x,y]⟩)/\∃xs A',KS rb (bs++xs) A'/\u xs<=4/\SH [] H0 Q (A'++L):=by
 obtain⟨p,v,gb,hp,Y,rfl,E,_⟩:=hb;refine lF [0,1,4,5,6] ?_;refine dn (Nh (L:=gb++L) hp G) ?_;intro w H1 G;obtain⟨a,n,c,rfl,hn,_⟩:=Y.fl<|fV (A:=[bu rb (Z ⟨rb,0,T⟩) v]) G;refine bN ?_;refine G.ld 0 O O ?_;refine bN ?_;refine G.ld 0 O O ?_;have B:SH [] H0 H1 (gb++(bu rb (Z ⟨rb,0,T⟩) (J a n c)::L)):=G.perm jK.symm;refine dn (KQ Y B N r) ?_;rintro v' H2 ⟨xs,W,j,wu,V,U,o⟩;have xG:SH [] H0 H2 (bu rb (Z ⟨rb,0,T⟩) (J a n c)::(W++L)):=wu.perm jK;refine xG.st 0 O j.gI.2.1 (by show 1+1<=2;omega) j.gI.1 λH3 i=>?_;have i:SH [] H0 H3 (bu rb (Z ⟨rb,0,T⟩) v'::(W++L)):=by rw[j.gI.2.2]at i;exact i
 refine i.ld 0 O O ?_;obtain⟨a',n',c',rfl,I,_⟩:=j.fl<|fV (A:=[bu rb (Z ⟨rb,0,T⟩) _]) i;have ab:n'=n+u xs:=by rw[aU]at I;omega
 refine bN ?_;rw[qP N N];refine bN ?_;refine rr ?_;refine⟨⟨_,_,O⟩,xs,_,⟨_,_,W,.inr O,j,O,?_,λh=>?_⟩,U,i⟩;rotate_left
 .rw[List.append_eq_nil_iff]at h;rw[h.2]at o;exact absurd o gB
 intro x M;rcases cB.1 M with h|h
 .exact E x h
 .exact V x h
theorem Io{fE:D C}{n:Nat}(j:Bk H r 5<|bs++fE)(O:r<H.bV)(i:∀x∈bs,isByte x)(y:u bs=n+1)(o:n+1<=16777216):
 ∃s Q,yE Pg [289,3] [bG (Z ⟨r,0,T⟩),W<|n+1] H=Z (aJ s,Q)/\uh bs=Z s.data.toList/\pN [r] H Q/\Q.low<=r:=by
 have⟨az,I,B,h3,h4,h5,h6⟩:=j;have⟨l,e1,e2⟩:=ads bs i
 have M:Tr.FX top az.cells 0 (n+1)=bs:=by
  rw[aco (k:=0) az.cells (bs++fE) N7 h6];simp only[jQ];rw[<-y,xM]
 have E:yE Pg [289,3] [bG (Z ⟨r,0,T⟩),W<|n+1] H=Xw Pg 289 ⟨r,0,T⟩ (n+1) H:=rfl
 have N:Xw Pg 289 ⟨r,0,T⟩ (n+1) H=aN (xH<|H.obj r) λw=>gd (JG Pg 5&&aB w.ty 5&&aB 1 1&&aD (bq 0<|n+1) w.n&&aD (n+1) 16777216)
  (aN (uh<|Tr.FX top w.cells 0<|n+1) λbs=>Z (aJ ⟨⟨bs⟩⟩,H.put r<|.row ⟨w.ty,w.cells,w.n,w.mR,b_ (aD w.fz<|bq 0<|n+1) (bq 0<|n+1) w.fz⟩)):=fQ
 rw[E,N,I];refine⟨⟨⟨l⟩⟩,H.put r<|.row ⟨az.ty,az.cells,az.n,az.mR,b_ (aD az.fz<|bq 0<|n+1) (bq 0<|n+1) az.fz⟩,?_,e1,pN.put _ _ _,by rw[wN];omega⟩;show gd (JG Pg 5&&aB az.ty 5&&aB 1 1&&aD (bq 0<|n+1) az.n&&aD (n+1) 16777216) (aN (uh<|Tr.FX top az.cells 0<|n+1) _)=_;rw[M,e1,B,h3,show JG Pg 5=f by kernel_rfl,aH o,aH (show bq 0 (n+1)<=u (bs++fE) by show 0+(n+1)<=_;simp;omega)];rfl
def TP(B:KS rb bs A)(G:SH [] H0 H<|A++L)(hl:u bs<=1000000):
 bM Pg X 200 [bG (Z ⟨rb,0,T⟩)] H λw Q=>(∃s,w=aJ s/\uh bs=Z s.data.toList)/\SH [] H0 Q L:=by
 obtain⟨p,v,gb,W,I,rfl,E,j⟩:=B;refine GV [0,2] ?_;refine G.R5 0 O O ?_;simp only[iU G.wf];rcases I with⟨rfl,rfl,rfl⟩|⟨r,n,o,rfl,U,rfl⟩
 .refine ME.of (v:=bG T) (H:=Go.Ae.hN H) O ?_;simp only[iU G.wf];refine G.R5 0 O O ?_;simp only[iU G.wf];refine bN ?_;refine ME.of (v:=aJ ⟨⟨[]⟩⟩) (H:=Go.Ae.hN H) fQ ?_;simp only[iU G.wf];refine⟨JU ?_,?_⟩
  .simp only[eZ,fP<|Ext.refl<|hN _];rfl
  .refine rr ?_;exact⟨⟨_,O,O⟩,fV (A:=[bu rb p _]) G⟩
 .obtain⟨n,rfl⟩:∃m,n=m+1:=by
   cases n with
   |succ n=>exact⟨n,O⟩
   |zero=>
    have:bs=[]:=eP.1<|om U;exact absurd (j this) gB
  refine ME.of (v:=bG<|Z ⟨r,0,T⟩) (H:=Go.Ae.hN H) O ?_;simp only[iU G.wf];refine G.R5 0 O O ?_;simp only[iU G.wf];refine bN ?_;have B:Bk (Go.Ae.hN H) r 5 (bs++o):=G.get 1 O;have V:=(G.lo (r,5,bs++o) gB).2;have⟨s,H1,e1,e2,e3,e4⟩:=Io (n:=n) B V E N N;refine ME.of e1 ?_;have i:H1.low<H.bV:=N;simp only[eZ,fP<|Ext.refl<|hN _,Ya i];refine⟨fQ,?_⟩;refine rr ?_;refine⟨⟨_,O,e2⟩,?_⟩;have y:SH [] H0 H ([bu rb p (J (Z ⟨r,0,T⟩) (n+1)<|gK 1),(r,5,bs++o)]++L):=G;exact SH.turn (A':=[]) y (e3.draw.weaken (by intro x M;simp at M;simp[M])) (nofun) qy
end
section
def Ke(l:D UInt8):∀x∈qK l,isByte x:=by
 intro x M;rw[show qK l=l.map (λb=>a_ dz<|.ofNat b.toNat)from G5 _ _]at M;rw[bT]at M;obtain⟨b,_,rfl⟩:=M;exact⟨b.toNat,by have:=b.toNat_lt;omega,rfl⟩
def Ni(l:D UInt8):u (qK l)=u l:=by rw[show qK l=l.map (λb=>a_ dz<|.ofNat b.toNat)from G5 _ _];simp
def SH.ajn(G:SH [] H0 H<|(r,5,F)::L){n:Nat}(y:s.size=n)(E:u F=n){K:C->R->Prop}(k:∀H1,SH [] H0 H1 ((r,5,qK s.data.toList)::L)->K (W n) H1):ME (cpA 1 (J (Z ⟨r,0,T⟩) n n) (aJ s) H) K:=by
 have i:u s.data.toList=n:=y;have j:u (qK s.data.toList)=n:=by rw[Ni];exact i
 have⟨H1,I,B,_⟩:=G.zV (vs:=qK s.data.toList) (o:=0) 0 O N<|YB _<|Ke _;rw[oF _ _ N]at B
 have e:cpA 1 (J (Z ⟨r,0,T⟩) n n) (aJ s) H=Z (W n,H1):=by
  show(aN (H.write r 0<|tk (bP (b_ (aD (len s.data.toList) n) (len s.data.toList) n) 1)<|qK s.data.toList) λQ=>Z (a_ bC<|.ofNat<|b_ (aD (len s.data.toList) n) (len s.data.toList) n,Q))=_;rw[h_,i,aH<|ax n,oU,FF,dV (by show _<=n*1;omega),I];rfl
 rw[e];exact k H1 B
def adv:∀(l:D UInt8),uh (qK l)=Z l:=by
 intro l
 induction l with
 |nil=>rfl
 |cons b l i=>
  show(aN (LJ<|.ofNat b.toNat) λn=>gd (Kv dz&&aD n 255)<|aN (uh<|qK l) λbs=>Z<|jP n::bs)=_;rw[i];show gd (aD b.toNat 255) (Z<|jP b.toNat::l)=_;rw[aH (by have:=b.toNat_lt;omega),Bh];simp
def TQ(M:Wf H)(s:aZ)(hs:s.size<=1000000):bM Pg X 155 [aJ s] H (Q1 (λv _=>v=aJ s) H):=by
 have G:=gM M;refine ce [0,2,3] ?_;refine tK (λh=>?_) λh=>?_
 .refine rr ?_;refine⟨?_,Ext.refl _⟩;have j:s.data.toList=[]:=eP.1 (show s.size=0 by omega);have⟨⟨l⟩⟩:=s;have j:l=[]:=j;subst j;rfl
 .refine G.mkS (ax _) N λU r G=>?_;refine SH.ajn G O (by rw[Pp];simp) λy G=>?_;obtain⟨n,o⟩:∃n,s.size=n+1:=⟨s.size-1,N⟩;rw[show BS 1 (J (Z ⟨r,0,T⟩) s.size s.size) (a_ bC 0)=_ from uK (k:=0) N];refine bN ?_;have E:Bk y r 5 (qK s.data.toList++[]):=by rw[bF];exact G.get 0 O
  have I:=(G.lo _<|aK ..).2;have⟨t,H3,e1,i,e3,e4⟩:=Io (n:=n) E I (Ke _) (by rw[Ni];exact o) N;rw[o];refine ME.of e1 ?_
  have B:t=s:=by
   rw[adv]at i;have i:=eO i;have⟨⟨l⟩⟩:=s;have⟨⟨l'⟩⟩:=t;have i:l=l':=i;rw[i]
  refine rr ?_;refine⟨by rw[B],?_⟩
  exact G.ext.later e3 (λq u=>by
   simp at u;subst u;exact .inr<|G.yu<|aK ..)
def yU(i:Wf H)(s:aZ)(hs:s.size<=1000000):bM Pg X 126 [aJ s] H (Q1 (λv _=>v=aJ s) H):=by
 refine lF [0,2] ?_;refine dn (TQ i s hs) ?_;rintro v Q ⟨rfl,M⟩;refine rr ?_;exact⟨O,M⟩
def adw(c:Nat):∀(l:D UInt8)(k:Nat),zJ c l k=T\/∃j,zJ c l k=Z j/\k<=j/\∃b,l[j-k]?=Z b/\b.toNat=c:=by
 intro l
 induction l with
 |nil=>intro k;exact .inl O
 |cons b l u=>
  intro k;show b_ (aB b.toNat c) (Z k) (zJ c l<|dh k)=T\/∃j,b_ (aB b.toNat c) (Z k) (zJ c l<|dh k)=Z j/\_;cases hb:aB b.toNat c with
  |true=>exact .inr ⟨k,O,ax _,b,gB,bA hb⟩
  |false=>
   rcases u (dh k)with h|⟨j,I,B,b',i,o⟩
   .exact .inl h
   .refine .inr ⟨j,I,N,b',?_,o⟩;obtain⟨d,y⟩:∃d,j=d+k+1:=⟨j-k-1,N⟩;rw[show j-dh k=d by omega]at i;rw[show j-k=d+1 by omega,iA,i]
abbrev foundAt(s:aZ)(c:Nat)(v:C):Prop:=v=vi (-1)\/∃k:Nat,v=W k/\k<s.size/\∃b,s.data.toList[k]?=Z b/\b.toNat=c
def TR(s:aZ)(c:Nat)(B:c<=255):bM Pg X 220 [aJ s,a_ dz (c:Int)] H (Q0 (foundAt s c) H):=by
 have e:nX Pg X 1 220 [aJ s,a_ dz (c:Int)] H=Z (U6<|zJ c s.data.toList 0,H):=by
  have o:nX Pg X 1 220 [aJ s,a_ dz (c:Int)] H=aN (gd (aD c 255&&f)<|Z (s,c)) λx=>Z (U6<|zJ x.2 x.1.data.toList 0,H):=fQ;rw[o,aH B];rfl
 refine⟨_,H,⟨1,e⟩,?_,O⟩;rcases adw c s.data.toList 0 with h|⟨j,h,_,b,i,y⟩
 .rw[h];exact .inl O
 .rw[h];refine .inr ⟨j,O,?_,b,i,y⟩;have:=(bK.mp i).1;have E:u s.data.toList=s.size:=rfl;omega
def TS(s:aZ)(c:Nat)(i:c<=255):bM Pg X 196 [aJ s,a_ dz (c:Int)] H (Q0 (foundAt s c) H):=by
 refine lF [0,1,4] ?_;refine dn (TR s c i) ?_;rintro v Q ⟨j,rfl⟩;refine rr ?_;exact⟨j,O⟩
def index_spec(s:aZ)(c:Nat)(i:c<=255):bM Pg X 168 [aJ s,a_ dz (c:Int)] H (Q0 (foundAt s c) H):=by
 refine lF [0,1,4] ?_;refine dn (TS s c i) ?_;rintro v Q ⟨j,rfl⟩;refine rr ?_;exact⟨j,O⟩
def iC.agl{P:aX}{X:Xt}{c:Code}{s:St}{K:Out->Prop}(h:iC P X c s K):iC P X (.seq .skip c) s K:=iC.seq ⟨_,_,Ev.skip,CF.refl _,h⟩
abbrev agm(s:aZ)(at':Nat)(v:C):Prop:=∃k:Nat,v=W k/\at'<=k/\k<=s.size
def Gp:findLabel (sub oH [1,0]) 0=Z (.seq .skip<|sub oH [1,0,1]):=fQ
set_option maxHeartbeats 1000000 in
def Cu(s:aZ)(o:Nat)(h0:o<=s.size)(hs:s.size<=1000000):bM Pg X 140 [aJ s,W o] H (Q0 (agm s o) H):=by
 refine lF [0,1,4,5] ?_
 let az:Nat->Nat->St->Prop:=λn l st=>l=0/\∃(k:Nat)(u:C)(E:D<|Nat×C),k+n=s.size/\o<=k/\st=uq (aJ s) (W k) (a_ bC 0) u E H
 have step:∀(n k:Nat)(u:C),k+n=s.size->o<=k->k<s.size->∀M,gtW (sub oH [1,0]) az n (jO Pg [.tmp 4]<|Q0 (agm s o) H) (.goto 0<|uq (aJ s) (vi<|(k:Int)+1) (a_ bC 0) u M H):=by
  intro n k u I i al M;rw[ML Gp];exact⟨n-1,N,O,k+1,u,M,N,N,O⟩
 have B:∀(n k:Nat)(u:C),k+n=s.size->o<=k->∀M,iC Pg X (sub oH [1,0,1,1]) (uq (aJ s) (W k) (a_ bC 0) u M H) (gtW (sub oH [1,0]) az n<|jO Pg [.tmp 4]<|Q0 (agm s o) H):=by
  intro n k u I i M;refine tl ?_;rw[Cm N];refine bN ?_;refine dn (EG _ _) ?_;rintro v Q ⟨⟨b,rfl,V⟩,rfl⟩;refine sD (λy=>?_) λy=>?_
  .refine dn (index_spec _ 10 N) ?_;rintro v Q ⟨hv,rfl⟩;rcases hv with rfl|⟨j,rfl,hj,c,U,ab⟩
   .refine bN ?_;rw[dQ N];refine bN ?_;simp only[QM];refine rr ?_;exact⟨⟨s.size,O,N,N⟩,O⟩
   .refine bN ?_;rw[rR _ N (ax _)]at hj
    have ad:j≠0:=by
     rintro rfl;have⟨r,hr⟩:=V y;rw[hr]at U;cases U
     revert ab
     decide
    rw[bY N];refine bN ?_;rw[gm N N];refine bN ?_;rw[ML Gp];exact⟨n-j,N,O,k+j,W j,_,N,N,O⟩
  .simp only[QM];refine rr ?_;exact⟨⟨k,O,N,N⟩,O⟩
 have T:∀n(k:Nat)(u:C)(E:D<|Nat×C),k+n=s.size->o<=k->iC Pg X (sub oH [1,0,1]) (uq (aJ s) (W k) (a_ bC 0) u E H) (gtW (sub oH [1,0]) az n<|jO Pg [.tmp 4]<|Q0 (agm s o) H):=by
  intro n k u E I i;refine tp ?_;refine aV (λY=>?_) λY=>B n k u I i _;rw[uP N];refine sD (λy=>?_) λy=>?_
  .rw[gm N N];refine bN ?_;exact step n k u I i N _
  refine ig (λy=>?_) λy=>?_
  .rw[gm N N];refine bN ?_;exact step n k u I i N _
  refine ig (λy=>?_) λy=>?_
  .rw[gm N N];refine bN ?_;exact step n k u I i N _
  refine ig (λy=>?_) λy=>?_
  .rw[gm N N];refine bN ?_;exact step n k u I i N _
  exact B n k u I i _
 refine iC.scope az ?_ (s.size-o) ?_
 .rintro n l st ac ⟨rfl,k,u,E,I,i,rfl⟩ hf;rw[Gp]at hf;cases hf;exact iC.agl<|T n k u E I i
 .refine tp ?_;refine aV (λY=>?_) λY=>B _ o _ N N _;rw[uP N];refine sD (λy=>?_) λy=>?_
  .rw[gm N N];refine bN ?_;exact step (s.size-o) o _ N N N _
  refine ig (λy=>?_) λy=>?_
  .rw[gm N N];refine bN ?_;exact step (s.size-o) o _ N N N _
  refine ig (λy=>?_) λy=>?_
  .rw[gm N N];refine bN ?_;exact step (s.size-o) o _ N N N _
  refine ig (λy=>?_) λy=>?_
  .rw[gm N N];refine bN ?_;exact step (s.size-o) o _ N N N _
  exact B _ o _ N N _
end
def PL{a:Int}(h:a=b):vi a=W b:=by subst h;rfl
abbrev adx(s:aZ)(k:Nat)(v:C)(Q:R):Prop:=∃(a n:Nat)(r:Int)(ok:Bool),v=dN ⟨[W a,W n,a_ bO r,aO ok]⟩/\(k<s.size->0<n)/\k+n<=s.size
def YC(y:Wf H)(u:Dl H)(s:aZ)(k:Nat)(hk:k<=s.size):bM Pg X 199 [aJ s,W k] H (Q1 (adx s k) H):=by
 have G:=gM y;refine lF [0,1,4,5,6] ?_;refine G.jM λo r G=>?_;refine bN ?_;rw[dQ N];refine tJ (λj=>?_) λj=>?_
 .refine PU.b4 O<|G.j_ λo G=>rr ?_;refine G.jl<|⟨⟨0,0,0,aA,O,N,N⟩,G.ext⟩
 .refine tl ?_;rw[Cm N];refine bN ?_;refine G.cm (TK G.wf (u.ex G.ext) _) ?_;rintro v Q ⟨x,n,rfl,I,B,U⟩ M G;have V:=rR s hk<|ax _
  have i:∀E,iC Pg X (sub adq [1,1,1,1]) (aah (aJ s) (W k) (bG<|Z ⟨r,0,T⟩) (a_ bO x) (W n) E Q) (jO Pg [.cell 4 303]<|Q1 (adx s k) H):=by
   intro E;refine tm ?_;refine G.j_ λo G=>rr ?_;exact G.jl<|⟨⟨k,n,x,f,O,N,N⟩,G.ext⟩
  refine bN ?_;refine aV (λj=>?_) λj=>i _;refine aV (λj=>?_) λj=>i _;refine fF ?_;refine G.j_ λo G=>rr ?_;exact G.jl<|⟨⟨k,1,65533,aA,O,N,N⟩,G.ext⟩
abbrev PM(s:aZ)(v:C):Prop:=∃(r:Int)(n:Nat)(b:Bool),v=fJ ⟨[a_ bO r,W n,aO b]⟩/\n<=s.size
theorem TU(s:aZ):bM Pg X 222 [aJ s] H (Q0 (PM s) H):=by
 refine lF [0,2,3,4,5,6,7,8,10] ?_;have i:PM s (fJ ⟨[a_ bO 0,a_ bC 0,aO aA]⟩):=⟨0,0,aA,O,bD _⟩;refine tJ (λj=>?_) λj=>?_
 .refine rr ?_;exact⟨i,O⟩
 rw[show idS (aJ s) (a_ bC 1)=_ from uP (k:=1) N];refine yl (λj=>?_) λj=>?_
 .refine rr ?_;exact⟨i,O⟩
 refine tl ?_;refine Ov 5 6 7 8 (h1:=λn T U u y Q=>Q=H/\∃(r:Int)(k:Nat),T=a_ bO r/\U=W k/\2<=k/\k<=s.size/\k+n=8) ?_ 6 ⟨rfl,0,2,rfl,rfl,N,N,N⟩;rintro n T U u y E Q ⟨rfl,r,k,rfl,rfl,I,B,V⟩
 have o:∀u y E,iC Pg X (sub M_ [1,1,1,1]) (KL (aJ s) (a_ bO 0) (a_ bC 0) (aO aA) (a_ bO r) (W k) u y top E Q) (jO Pg [.tmp 2,.tmp 3,.tmp 4]<|Q0 (PM s) Q):=by
  intro u y E;refine tK (λj=>?_) λj=>?_
  .refine rr ?_;exact⟨i,O⟩
  refine aV (λj=>?_) λj=>?_
  .refine rr ?_;exact⟨i,O⟩
  rw[uP N];refine yl (λj=>?_) λj=>?_
  .refine rr ?_;exact⟨i,O⟩
  refine tl<|dn (TJ _) ?_;rintro v Q ⟨⟨t,b,rfl⟩,rfl⟩;refine sD (λM=>?_) λM=>?_
  .refine rr ?_;exact⟨i,O⟩
  rw[gm N N];refine bN ?_;refine rr ?_;exact⟨⟨r,k+1,f,O,N⟩,O⟩
 refine tp ?_;refine aV (λj=>?_) λj=>o _ _ _;refine aV (λY=>?_) λj=>o _ _ _;refine tl ?_;rw[uP N];refine bN ?_;refine dn (V4 _) ?_;rintro v Q ⟨⟨d,b,rfl⟩,rfl⟩;refine bN ?_;refine ig (λM=>o _ _ _) λM=>?_;rw[gm N N];refine bN ?_;exact⟨n-1,N,_,_,_,_,_,_,O,O,_,k+1,O,O,N,N,N⟩
theorem Kg(s:aZ):bM Pg X 201 [aJ s] H (Q0 (PM s) H):=by
 have o:PM s (fJ ⟨[a_ bO 0,a_ bC 0,aO aA]⟩):=⟨0,0,aA,O,bD _⟩;refine ce [0,2,3,4,8] ?_;refine tK (λi=>?_) λi=>?_
 .refine rr ?_;exact⟨o,O⟩
 have j:0<s.size:=by
  rcases gX s.size with h|h
  .exfalso;apply i;have⟨⟨l⟩⟩:=s;cases l with
   |nil=>rfl
   |cons a l=>cases h
  .exact h
 rw[show idS (aJ s) (a_ bC 0)=_ from uP (k:=0) j];refine bN ?_
 have u:∀c E b,Ci E 15=aO b->iC Pg X (sub Ey [1,1,0,1,0,1,1,1,1,1,1,1]) (KJ (aJ s) (a_ bO 0) (a_ bC 0) (aO aA) (a_ dz c) E H) (uk 0<|uQ Pg X (sub Ey [1,1,1])<|jO Pg [.tmp 2,.tmp 3,.tmp 4]<|Q0 (PM s) H):=by
  intro c E b y;refine tl ?_;rw[y];refine sD (λy=>?_) λy=>?_
  .rw[show idS (aJ s) (a_ bC 0)=_ from uP (k:=0) j];refine bN ?_;refine rr ?_;exact⟨⟨_,1,f,O,j⟩,O⟩
  refine aV (λi=>?_) λi=>?_
  .refine dn (TU _) ?_;rintro v Q ⟨⟨r,n,b,rfl,B⟩,rfl⟩;refine bN ?_;refine rr ?_;exact⟨⟨r,n,b,O,B⟩,O⟩
  .refine tl<|rr ?_;exact⟨o,O⟩
 refine aV (λi=>?_) λi=>?_
 .refine rr ?_;exact⟨⟨10,1,f,O,j⟩,O⟩
 refine aV (λi=>?_) λi=>?_
 .refine rr ?_;exact⟨⟨9,1,f,O,j⟩,O⟩
 refine aV (λi=>?_) λi=>?_
 .refine rr ?_;exact⟨⟨13,1,f,O,j⟩,O⟩
 repeat' (first|(refine aV (λi=>?_) λi=>?_))
 all_goals exact u _ _ _ (by(try simp only[PP,Nat.reduceBEq]);rfl)
abbrev ajo(s:aZ)(k:Nat)(v:C)(Q:R):Prop:=∃(r:Int)(n:Nat)(e:Int),v=fJ ⟨[a_ bO r,W n,vi e]⟩/\k+n<=s.size/\(e=0->0<n)
def PN(j:Wf H)(u:Dl H)(s:aZ)(k:Nat)(hk:k<s.size)(hs:s.size<=1000000):bM Pg X 225 [aJ s,W k] H (Q1 (ajo s k) H):=by
 have G:=gM j;refine lF [0,1,4,5,6,7,8,9,10] ?_;refine G.cm (YC j u s k N) ?_;rintro v Q ⟨a,n,r,ok,rfl,I,B⟩ M G;refine G.jM λo U G=>?_;refine G.kN ?_;refine G.j_ λo G=>?_;refine QN (λi=>?_) λi=>?_
 .refine rr ?_;exact⟨⟨0,0,11,O,N,λh=>by cases h⟩,G.ext⟩
 refine Oq (λi=>?_) λi=>?_
 .refine fF ?_;refine rr ?_;exact⟨⟨r,n,0,O,B,λ_=>I hk⟩,G.ext⟩
 rw[gm N N];refine bN ?_;rw[show slT (aJ s) (Z<|vi<|(k:Int)+1) T T=_ from Cm (lo:=k+1) N];refine bN ?_;refine dn (Kg _) ?_;rintro v Q ⟨⟨x,m,b,rfl,y⟩,rfl⟩;have E:=rR s (lo:=k+1) (hi:=s.size) N<|ax _;refine sD (λi=>?_) λi=>?_
 .refine rr ?_;exact⟨⟨0,0,12,O,N,λh=>by cases h⟩,G.ext⟩
 rw[gm N N];refine bN ?_;refine rr ?_;exact⟨⟨x,m+1,0,by rw[PL (show 1+(m:Int)=((m+1:Nat):Int) by omega)],N,λ_=>N⟩,G.ext⟩
section
def Bz(m:Nat)(H:R)(v:C):Prop:=∃a n c F,v=J a n c/\Fl H a n 2 F/\n<=m/\∀x∈F,∃z:Int,x=a_ bO z
def jH(b m:Nat)(H:R)(v:C):Prop:=∃a n c F,v=J a n c/\jC (b<=·) 331 H a n 2 F/\n<=m/\∀x∈F,∃z:Int,x=a_ bO z
def Bz.nil(m:Nat)(H:R):Bz m H (J T 0 0):=⟨T,0,0,[],O,Fl.nil _ _ _,N,λx h=>by cases h⟩
def jH.nil(b m:Nat)(H:R):jH b m H (J T 0 0):=⟨T,0,0,[],O,jC.nil _ _ _ _ _,N,λx h=>by cases h⟩
def jH.i(h:jH b m H v):Bz m H v:=by
 have⟨a,n,c,F,I,B,h3⟩:=h;exact⟨a,n,c,F,I,B.1,h3⟩
def jH.stay{S:D Nat}(h:jH b m H v)(M:pN S H Q)(G:∀q∈S,q<b\/¬zW H q 331):jH b m Q v:=by
 have⟨a,n,c,F,I,B,h3⟩:=h;exact⟨a,n,c,F,I,B.stay M λq i=>(G q i).imp_left fI,h3⟩
def jH.le{m':Nat}(h:jH b m H v)(j:m<=m')(i:b'<=b):jH b' m' H v:=by
 have⟨a,n,c,F,I,B,h3,h4⟩:=h;exact⟨a,n,c,F,I,B.le i,N,h4⟩
def Tok(b:Nat)(H:R)(lo hi:Nat)(v:C):Prop:=∃(kd:Int)(a e:Nat)(t:aZ)(i:C),v=dN ⟨[vi kd,W a,W e,aJ t,i]⟩/\lo<e/\e<=hi/\a<=hi/\t.size<=1000000/\jH b 20000 H i
abbrev Ip(b:Nat)(s:aZ)(k:Nat)(v:C)(Q:R):Prop:=∃(tok:C)(cd:Int)(at':Nat),v=fJ ⟨[tok,dN ⟨[vi cd,W at']⟩]⟩/\(∃kd a e t i,tok=dN ⟨[vi kd,W a,W e,aJ t,i]⟩/\(∃x n c,i=J x n c))/\(cd=0->Tok b Q k s.size tok)
def aak(Y:Wf H)(s:aZ)(k:Nat)(hk:k<s.size)(hs:s.size<=1000000):bM Pg X 170 [aJ s,W k] H (Q1 (Ip H.bV s k) H):=by
 have G:=gM Y;refine lF [0,1,4,5,6,7] ?_;refine G.jM λj U G=>?_;refine G.jM λj y G=>?_;rw[gm N N];refine G.kN ?_;refine VX 6 (h1:=λn V Q=>Q=j/\∃e:Nat,V=W e/\e+n=s.size/\k<e) ?_ (s.size-(k+1)) ⟨rfl,k+1,rfl,N,N⟩;rintro n V E Q ⟨rfl,e,rfl,I,B⟩
 have i:∀E,iC Pg X (sub M0 [1,1,1]) (Ka (aJ s) (W k) (bG<|Z ⟨U,0,T⟩) (bG<|Z ⟨y,0,T⟩) (W e) top E Q) (jO Pg [.cell 4 221,.cell 5 173]<|Q1 (Ip H.bV s k) H):=by
  intro E;refine tl ?_;rw[qP N N];refine G.kN ?_;refine aV (λu=>?_) λu=>?_
  .refine fF ?_;refine G.j_ λj G=>?_;refine G.j_ λj G=>?_;refine rr ?_;refine fF ?_;exact⟨⟨_,3,k,O,⟨_,0,0,_,_,O,_,_,_,O⟩,λh=>by cases h⟩,G.ext⟩
  rw[uP N];refine G.kN ?_;refine dn (Nb _) ?_;rintro v Q ⟨⟨b,rfl⟩,rfl⟩;refine G.kN ?_
  have i:∀(kd:Int) E,iC Pg X (sub M0 [1,1,1,1,1,1]) (Ka (aJ s) (W k) (bG<|Z ⟨U,0,T⟩) (bG<|Z ⟨y,0,T⟩) (W e) (vi kd) E Q) (jO Pg [.cell 4 221,.cell 5 173]<|Q1 (Ip H.bV s k) H):=by
   intro kd E;refine tl ?_;rw[Ej N N];refine G.kN ?_;have hp:=rR s (lo:=k) (hi:=e) N N;refine G.cm (yU G.wf _ N) ?_;rintro v Q rfl M G;refine fF ?_;refine G.j_ λj G=>?_;refine G.j_ λj G=>?_;refine rr ?_;refine fF ?_;exact⟨⟨_,0,0,O,⟨_,_,_,_,_,O,_,_,_,O⟩,λ_=>⟨kd,k,e,_,_,rfl,N,N,N,N,jH.nil _ _ _⟩⟩,G.ext⟩
  refine ig (λo=>?_) λo=>?_
  .exact i 1 _
  .exact i 2 _
 refine tp ?_;refine aV (λu=>?_) λu=>i _;rw[uP N];refine bN ?_;refine dn (TI _) ?_;rintro v Q ⟨⟨b,rfl⟩,rfl⟩;refine bN ?_;refine ig (λo=>?_) λo=>i _;rw[gm N N];refine bN ?_;exact⟨n-1,N,_,_,_,O,O,e+1,O,N,N⟩
def KS.new(rb:Nat):KS rb [] [bu rb T (J T 0 0)]:=⟨T,J T 0 0,[],.inl O,GB.nil _ _,O,nofun,λ_=>rfl⟩
set_option maxHeartbeats 1000000 in
def QX(hw:Wf H)(hT:Dl H)(s:aZ)(k:Nat)(hk:k<s.size)(hs:s.size<=20000):bM Pg X 171 [aJ s,W k] H (Q1 (Ip H.bV s k) H):=by
 have G:=gM hw;refine lF [0,1,4,5,6,7,8,9,10,11] ?_;refine G.jM λi rt G=>?_;refine G.jM λi Y G=>?_;refine G.jM λi rb G=>?_;rw[gm N N];refine G.kN ?_
 refine YA 7 8 9 10 11 (h1:=λn x7 x8 x9 jW jh Q=>∃p bs A,x7=W p/\p+n=s.size/\k+1<=p/\KS rb bs A/\u bs<=4*p/\SH [] H Q ((Y,173,[a_ bC 0,a_ bC 0])::(rt,221,[a_ bC 0,a_ bC 0,a_ bC 0,aJ<|dJ #[],J T 0 0])::A)) ?_ (s.size-(k+1))
  ⟨k+1,[],_,rfl,N,N,KS.new rb,gB,G.perm<|(iF _ _ _).trans<|fA _<|iF _ _ _⟩
 rintro n x7 x8 x9 jW jh E Q ⟨p,bs,A,rfl,I,B,ap,aq,G⟩;refine mG (λhc=>?_) λhc=>?_
 .refine tm ?_;refine G.j_ λi G=>?_;refine G.j_ λi G=>?_;refine rr ?_;refine fF ?_;exact⟨⟨_,10,k,O,⟨_,0,0,_,_,O,_,_,_,O⟩,λh=>by cases h⟩,G.ext⟩
 refine G.cm (YC G.wf (hT.ex G.ext) s p N) ?_;rintro v Q ⟨a,m,r,ok,rfl,h3,h4⟩ M G;refine G.jM λi ri G=>?_;refine G.kN ?_;refine G.j_ λi G=>?_;refine fF ?_;have ac:∀{cd:Int}{e:Nat}{ao:R},cd≠0->Ip H.bV s k (fJ ⟨[dN ⟨[a_ bC 0,a_ bC 0,a_ bC 0,aJ<|dJ #[],J T 0 0]⟩,dN ⟨[vi cd,W e]⟩]⟩) ao:=λh=>⟨_,_,_,rfl,⟨_,0,0,_,_,rfl,_,_,_,rfl⟩,λg=>absurd g h⟩
 have ab:∀{H2:R}{o A'}{q:Nat},KS rb (bs++o) A'->u o<=4->p+1<=q->q<=s.size->SH [] H H2 (A'++(ri,303,[W a,W m,a_ bO r,aO ok])::(Y,173,[a_ bC 0,a_ bC 0])::[(rt,221,[a_ bC 0,a_ bC 0,a_ bC 0,aJ<|dJ #[],J T 0 0])])->
  ∃n',n'<n/\∃bs A,q+n'=s.size/\k+1<=q/\KS rb bs A/\u bs<=4*q/\SH [] H H2 ((Y,173,[a_ bC 0,a_ bC 0])::(rt,221,[a_ bC 0,a_ bC 0,a_ bC 0,aJ<|dJ #[],J T 0 0])::A):=λ{H2 o A' q} V hl hq ar G=>
  ⟨s.size-q,N,_,_,N,N,V,by rw[aU];omega,fV (A:=[_])<|G.perm aG⟩
 have Ng:∀E b,Ci E 40=aO b->iC Pg X (sub y_ [1,1,0,1,0,0,1,0,1,0,1,1,1]) (AJ (aJ s) (W k) (bG<|Z ⟨rt,0,T⟩) (bG<|Z ⟨Y,0,T⟩) (bG<|Z ⟨rb,0,T⟩) (W p) (bG<|Z ⟨ri,0,T⟩) x9 jW jh E i)
  (uk 2<|uk 1<|IU (zy (aJ s) (W k) (bG<|Z ⟨rt,0,T⟩) (bG<|Z ⟨Y,0,T⟩) (bG<|Z ⟨rb,0,T⟩) λn x7 x8 x9 jW jh Q=>∃p bs A,x7=W p/\p+n=s.size/\k+1<=p/\KS rb bs A/\u bs<=4*p/\SH [] H Q ((Y,173,[a_ bC 0,a_ bC 0])::(rt,221,[a_ bC 0,a_ bC 0,a_ bC 0,aJ<|dJ #[],J T 0 0])::A)) n<|uk 0<|uQ Pg X (sub y_ [1,1,1])<|jO Pg [.cell 4 221,.cell 5 173]<|Q1 (Ip H.bV s k) H):=by
  intro E b U;have al:KS rb bs A:=ap;have ad:SH [] H i (A++(ri,303,[W a,W m,a_ bO r,aO ok])::(Y,173,[a_ bC 0,a_ bC 0])::[(rt,221,[a_ bC 0,a_ bC 0,a_ bC 0,aJ<|dJ #[],J T 0 0])]):=G.perm<|aG (l₁:=[_,_,_]);refine tl ?_;rw[U];refine G.kN ?_;refine ig (λU=>?_) λU=>?_
  .refine fF ?_;refine G.j_ λi G=>?_;refine G.j_ λi G=>?_;refine rr ?_;refine fF ?_;exact⟨ac N,G.ext⟩
  refine ym (λhc=>?_) λhc=>?_
  .rw[gm N N];refine G.kN ?_;refine dn (TP al ad N) ?_;rintro v Q ⟨⟨t,rfl,ht⟩,G⟩;have hts:t.size=u bs:=V5 ht;refine fF ?_;refine G.j_ λi G=>?_;refine G.j_ λi G=>?_;refine rr ?_;refine fF ?_;exact⟨⟨_,0,0,O,⟨_,_,_,_,_,O,_,_,_,O⟩,λ_=>⟨3,k,p+1,t,_,rfl,N,N,N,N,jH.nil _ _ _⟩⟩,G.ext⟩
  refine ym (λhc=>?_) λhc=>?_
  .rw[gm N N];refine G.kN ?_;rw[show slT (aJ s) (Z<|vi<|(p:Int)+1) T T=_ from Cm (lo:=p+1) N];refine G.kN ?_;refine dn (Kg _) ?_;rintro v Q ⟨⟨x,j,b,rfl,hj⟩,rfl⟩;have hp:=rR s (lo:=p+1) (hi:=s.size) N<|ax _;refine G.kN ?_;refine ig (λU=>?_) λU=>?_
   .refine fF ?_;refine G.j_ λi G=>?_;refine G.j_ λi G=>?_;refine rr ?_;refine fF ?_;exact⟨ac N,G.ext⟩
   refine dn (EI al ad N _) ?_;rintro v Q ⟨⟨y,z,rfl⟩,xs,A',V,am,G⟩;rw[gm N N];refine G.kN ?_;rw[gm N N];refine G.kN ?_;rw[PL (show(p:Int)+(1+(j:Int))=((p+1+j:Nat):Int) by omega)];have⟨n',h5,o,A'',h6⟩:=ab V am (q:=p+1+j) N N G;exact⟨n',h5,_,_,_,_,_,_,_,O,_,o,A'',O,h6⟩
  .refine G.qE<|dn (EI al ad N _) ?_;rintro v Q ⟨⟨y,z,rfl⟩,xs,A',V,am,G⟩;have wu:=G;have G:=G.perm<|aG (l₂:=[_,_,_]);simp only[bQ,bX]at G;apply G.qE;rw[gm N N];refine G.kN ?_;rw[PL (show(p:Int)+(m:Int)=((p+m:Nat):Int) by omega)];have⟨n',h5,o,A'',h6⟩:=ab V am (q:=p+m) N N wu;exact⟨n',h5,_,_,_,_,_,_,_,O,_,o,A'',O,h6⟩
 have an:∀E b,Ci E 28=aO b->iC Pg X (sub y_ [1,1,0,1,0,0,1,0,1,0,1]) (AJ (aJ s) (W k) (bG<|Z ⟨rt,0,T⟩) (bG<|Z ⟨Y,0,T⟩) (bG<|Z ⟨rb,0,T⟩) (W p) (bG<|Z ⟨ri,0,T⟩) x9 jW jh E i)
  (uk 2<|uk 1<|IU (zy (aJ s) (W k) (bG<|Z ⟨rt,0,T⟩) (bG<|Z ⟨Y,0,T⟩) (bG<|Z ⟨rb,0,T⟩) λn x7 x8 x9 jW jh Q=>∃p bs A,x7=W p/\p+n=s.size/\k+1<=p/\KS rb bs A/\u bs<=4*p/\SH [] H Q ((Y,173,[a_ bC 0,a_ bC 0])::(rt,221,[a_ bC 0,a_ bC 0,a_ bC 0,aJ<|dJ #[],J T 0 0])::A)) n<|uk 0<|uQ Pg X (sub y_ [1,1,1])<|jO Pg [.cell 4 221,.cell 5 173]<|Q1 (Ip H.bV s k) H):=by
  intro E b U;refine tl ?_;rw[U];refine G.kN ?_;refine ig (λU=>?_) λU=>?_
  .refine fF ?_;refine G.j_ λi G=>?_;refine G.j_ λi G=>?_;refine rr ?_;refine fF ?_;exact⟨ac N,G.ext⟩
  refine ym (λhc=>?_) λhc=>?_
  .rw[gm N N];refine G.kN ?_;exact Ng _ _ (by refine bN ?_;rfl)
  .exact Ng _ _ (by refine bN ?_;rfl)
 refine ig (λU=>?_) λU=>?_
 .exact an _ _ (by refine bN ?_;rfl)
 refine fF ?_;exact an _ _ (by refine bN ?_;rfl)
end
section
variable{H':Int->Prop}{ty:aI}{n:Nat}
abbrev isLen(x:Int)(v:C):Prop:=∃l:Nat,v=W l/\l<=32/\(1<=x->((2^l:Nat):Int)<=2*x)
def V6(x:Int)(Y:0<=x)(I:x<=16777216):bM Pg X 218 [a_ fO x] H (Q0 (isLen x) H):=by
 refine lF [0,2] ?_;refine dA Cj ?_;rw[dQ N];refine bN ?_;refine iC.yw λK hK=>?_
 have i:∀(y:Int)(k p:Nat) E,0<=y->y<256->k<=24->2^k=p->(1<=x->1<=y/\p*y<=x)->iC Pg X (sub Ik [1,1,1,1]) (Gm (a_ fO y) (W k) E H) K:=by
  intro y k p E B h3 h4 hp h5;subst hK;refine tl ?_;rw[Lh,Eo<|u8_in N];refine dA O ?_;refine PU.aje fQ B h3 λt ht u=>?_;rw[Lh,yO N N];refine dA O ?_;refine eD ?_;refine rr ?_;refine⟨⟨k+t,O,N,λM=>?_⟩,rfl⟩;have⟨h6,h7⟩:=h5 M;have h8:=u h6;have h9:((2^(k+t):Nat):Int)=(p:Int)*((2^t:Nat):Int):=by rw[Nat.pow_add,hp];simp
  rw[h9];have ab:(p:Int)*((2^t:Nat):Int)<=p*(2*y):=Int.mul_le_mul_of_nonneg_left h8 N;have ac:(p:Int)*(2*y)=2*(p*y):=by rw[Int.mul_left_comm]
  omega
 have U:∀(a:Int)(n:Nat),0<=a->0<n->a.fdiv ((n:Nat):Int)=a/n:=λa n j hn=>tN a N
 have T:∀a:Int,0<=a->F_ fO a 16=a/65536:=λa j=>by
  rw[show(16:Int)=((16:Nat):Int)from O,Yd N jg];exact U a 65536 j N
 have V:∀a:Int,0<=a->F_ fO a 8=a/256:=λa j=>by
  rw[show(8:Int)=((8:Nat):Int)from O,Yd N jg];exact U a 256 j N
 refine tl<|dA Cj<|aV (λhc=>?_) λhc=>?_
 .refine dA (xE N) ?_;rw[T _ Y];refine eD ?_;refine tl<|dA Cj<|aV (λo=>?_) λo=>?_
  .refine dA (xE N) ?_;rw[V _ N];refine eD ?_;exact i _ 24 16777216 _ N N N O λ_=>N
  .exact i _ 16 65536 _ N N N O λ_=>N
 .refine tl<|dA Cj<|aV (λo=>?_) (λo=>?_)
  .refine dA (xE N) ?_;rw[V _ N];refine eD ?_;exact i _ 8 256 _ N N N O λ_=>N
  .exact i _ 0 1 _ N N N O λ_=>N
def Nj(x:Int)(i:0<=x)(I:x<=16777216):bM Pg X 191 [a_ fO x] H (Q0 (isLen x) H):=by
 refine lF [0,2] ?_;refine dn (V6 x i I) ?_;rintro _ _ ⟨⟨l,rfl,B,j⟩,rfl⟩;refine rr ?_;exact⟨⟨l,O,B,j⟩,O⟩
abbrev Nm(H':Int->Prop)(r:Nat)(ty:aI)(n:Nat):=SB (MN H') r ty 1 n
abbrev sl(r n c:Nat):C:=J (Z ⟨r,0,T⟩) n c
abbrev Rg(r:Nat)(ty:aI)(n:Nat):=SB Tu r ty 2 n
end
section
def V7(v cv:C):bM Pg X 251 [v,vi 0,vi 0,cv] H λ_ Q=>Q=H:=by
 refine lF [0,1,2,3,8,9] ?_;refine eD ?_;refine lp2 8 9 (h1:=λm i j Q=>i=vi 1/\Q=H) ?_ 0 ⟨rfl,rfl⟩;rintro m i j E Q ⟨rfl,rfl⟩;refine tp ?_;rw[dQ N];refine bN ?_;refine rn ?_;exact O
def al8(a:aC Addr)(c:Nat)(cv l:C):bM Pg X 249 [J a 0 c,vi 0,vi 0,l,cv] H λ_ Q=>Q=H:=by
 refine lF [0,1,2,3,4,10,11,12,13,14,15,16,17,18,19,20] ?_;refine alY 1 2 3 10 11 12 13 14 15 16 17 18 19 20 (h1:=λk i j V W Y u B M y U I T o zX Q=>i=vi 0/\j=vi 0/\Q=H) ?_ 0 ⟨rfl,rfl,rfl⟩;rintro k i j V W Y u B M y U I T o zX E Q ⟨rfl,rfl,rfl⟩;refine tl ?_;refine rA ?_;refine bN ?_;rw[bY N];refine bN ?_;refine dn (V7 _ _) ?_;rintro _ _ rfl;refine rr ?_;exact O
abbrev al9:C:=.func (.func 242) ⟨[]⟩ ⟨[]⟩
def V8{ty:aI}{n:Nat}(o:n<=1000000)(i:Rg r ty n H0 H L):bM Pg X 241 [sl r n c,al9] H λv Q=>Rg r ty n H0 Q L:=by
 refine GV [0,1,4] ?_;rw[Eo (u64_in N)];refine dn (Nj _ N N) ?_;rintro v Q ⟨⟨l,rfl,I,_⟩,rfl⟩;obtain _|m:=n
 .refine dn (al8 _ _ _ _) ?_;rintro v j rfl;exact rn<|i
 have⟨j,e,i⟩:=SB.al1 (cv:=al9) (c:=c) (l:=l) N N i;exact bM.orc (v:=fJ ⟨[]⟩) (Q:=j) e<|rn<|i
def ajp(cv:C):bM Pg X 241 [J T 0 0,cv] H λv Q=>Q=H:=by
 refine GV [0,1,4] ?_;rw[Eo (u64_in N)];refine dn (Nj _ N N) ?_;rintro v Q ⟨⟨l,rfl,I,_⟩,rfl⟩;refine dn (al8 _ _ _ _) ?_;rintro v i rfl;refine rn ?_;exact O
def V9(h:∀i,i<2->∃z:Int,F[k*2+i]?=Z (a_ bO z)):Tu (El F 2 k):=by
 have⟨a,ha⟩:=h 0 N;have⟨b,hb⟩:=h 1 N;refine⟨a,b,?_⟩;apply iQ;intro i;rw[oN]
 match i with
 |0=>rw[jj N,ha];rfl
 |1=>rw[jj N,hb];rfl
 |i+2=>rw[jx N];rfl
def QY{i:Nat}(h:Tu<|El F 2 k)(hi:i<2):∃z:Int,F[k*2+i]?=Z (a_ bO z):=by
 have⟨a,b,e⟩:=h;have I:=oN F 2 k i;rw[jj hi,e]at I
 match i,hi with
 |0,_=>exact⟨a,I.symm⟩
 |1,_=>exact⟨b,I.symm⟩
section fields
variable{ty:aI}{n:Nat}{K:C->R->Prop}
def SB.rf(h:SB Tu r ty 2 n H0 H L)(j:0<=z)(o:z<n)(i:ay<2)(k:∀a,K (a_ bO a) H):ME (yh T (bG<|Z ⟨r,z.toNat*2+ay,T⟩) H) K:=by
 have⟨F,G,hp,hl⟩:=h.row (k:=z.toNat) N;have⟨a,ha⟩:=QY hp i;exact G.ld 0 O ha<|k a
def SB.rfQ(h:SB Tu r ty 2 n H0 H L)(i:0<=z)(o:z<n)(j:ay<2)(k:∀a,K (a_ bO a)<|hN H):ME (yh T (bG<|Z ⟨r,z.toNat*2+ay,T⟩)<|hN H) K:=SB.rf h.Bt i o j k
def SB.an5(h:SB Tu r ty 2 n H0 H L)(U:0<=z)(W:z<n)(V:ay<2){a:Int}(k:∀H1,SB Tu r ty 2 n H0 (hM H H1) L->K undef H1):ME (GU 1 (bG<|Z ⟨r,z.toNat*2+ay,T⟩) (a_ bO a)<|hN H) K:=by
 have⟨F,I,B,G⟩:=h;have o:z.toNat*2+ay+1<=u F:=N;refine G.stQ 0 O O o O λH1 G=>k H1 ⟨splice F (z.toNat*2+ay) [a_ bO a],?_,λj M=>?_,G⟩
 .rw[o_ (om o)];exact I
 .refine V9 λi E=>?_;rw[sN (om o)];split
  .next y=>
   rw[show j*2+i-(z.toNat*2+ay)=0 by simp at y;omega];exact⟨a,O⟩
  .exact QY (B j M) E
end fields
abbrev OC(F:D C):Prop:=∀x∈F,∃z:Int,x=a_ bO z
def TV(h:OC F)(hk:k*2+2<=u F):Tu (El F 2 k):=by
 have e:El F 2 k=[F[k*2],F[k*2+1]]:=by
  unfold El;rw[eH N,eH N];rfl
 have⟨a,ha⟩:=h F[k*2]<|bH _;have⟨b,hb⟩:=h F[k*2+1]<|bH _;exact⟨a,b,by rw[e,ha,hb]⟩
def OC.app(h:OC F)(a b:Int):OC (F++[a_ bO a,a_ bO b]):=by
 intro x M;rcases cB.1 M with M|M
 .exact h x M
 .simp at M;rcases M with rfl|rfl
  .exact⟨_,O⟩
  .exact⟨_,O⟩
def QZ{n:Nat}(hl:u F=n*2)(h:∀k,k<n->Tu (El F 2 k)):OC F:=by
 intro x M;obtain⟨i,j,rfl⟩:=iM M;have⟨a,b,e⟩:=h (i/2) N;have I:=oN F 2 (i/2)<|i %2;rw[jj (o8 _ N),show i/2*2+i %2=i by omega,av j,e]at I;have:i %2=0\/i %2=1:=N;rcases this with B|B
 .rw[B]at I;exact⟨a,(eO I).symm⟩
 .rw[B]at I;exact⟨b,(eO I).symm⟩
def Kh(U:Wf H){K:Nat}(W:K<=1000000)(T:Bz K H v):bM Pg X 244 [v] H (Q1 (λv Q=>jH H.bV K Q v) H):=by
 obtain⟨a,n,c,F,rfl,E,M,I⟩:=T;have G:=gM U;refine lF [0,2] ?_;rw[Ep fQ];refine sD (λB=>?_) λB=>?_
 .refine rr ?_;exact⟨jH.nil _ _ _,Ext.refl _⟩
 .refine ME.of (ajg N) ?_;have G:=G.grow 331 [];have o:=G.ext.bV;refine G.VN N (.inr ⟨_,O⟩) (E.ex G.ext) N λu y V L' j i=>rr ?_;exact⟨⟨u,n,y,F,O,j.le o,M,I⟩,i.ext⟩
set_option maxHeartbeats 8000000 in
theorem Gq(hw:Wf H)(ac:KM<=1000000)(hv:Bz KM H v):bM Pg X 226 [v] H (Q1 (λv Q=>jH H.bV KM Q v) H):=by
 obtain⟨a,n,c,F,rfl,hf,hn,Y⟩:=hv;have G:=gM hw;refine GV [0,2,3,5,6,8,9,10,11,35,36,37] ?_;refine Gg 3 5 11 (h1:=λm x3 x5 jh Q=>∃(k:Nat)(ds:D C)(gb:D eF),jh=W k/\k+m=n/\GB 331 2 x3 ds gb/\u ds<=2*k/\OC ds/\SH [] H Q (gb++[])) ?_ n ⟨0,[],[],rfl,N,GB.nil _ _,gB,nofun,G⟩;rintro m x3 x5 jh E Q ⟨k,ds,gb,rfl,hk,hg,an,V,G⟩;refine iC.yw λK hK=>?_;refine tK (λhc=>?_) λhc=>?_
 .have⟨r,o,e,hr,hrd,hel,_⟩:=hf.read N (show k<n by omega) c;rw[e];refine bN ?_;have⟨z1,z2,ez⟩:=TV Y (k:=k) (by rw[hf.1];omega);rw[ez]at hrd;refine G.BN hrd hr<|G.jM λH1 r1 G=>?_
  repeat(first|(refine G.kN ?_)|(refine G.qE ?_)|(refine G.j_ λHn G=>?_))
  subst hK;refine aV (λhd=>?_) λhd=>?_
  .refine fF ?_;refine G.bS O O O N λH2 rx G=>?_;have G:SH [] H H2 ((rx,331,[a_ bO (max z1 0),a_ bO<|min z2 1114111])::(r1,331,[a_ bO (max z1 0),a_ bO<|min z2 1114111])::(gb++[])):=G;have G:SH [] H H2 ((rx,331,[a_ bO (max z1 0),a_ bO<|min z2 1114111])::(gb++[(r1,331,[a_ bO (max z1 0),a_ bO<|min z2 1114111])])):=G.perm<|fA _ (by simpa using(aG (l₁:=[_]) (l₂:=gb)));refine hg.add G N O O N λv' H3 iX ao am M=>?_;rw[gm N N];refine bN ?_;refine⟨m-1,N,_,_,_,_,_,O,k+1,_,iX,O,N,ao,by simp;omega,V.app _ _,?_⟩;exact by simpa using fV (A:=[_]) (am.perm<|aG (l₂:=[_]))
  .rw[gm N N];refine bN ?_;refine⟨m-1,N,_,_,_,_,_,O,k+1,ds,gb,O,N,hg,N,V,?_⟩;exact fV (A:=[_]) G
 .subst hK;refine bN ?_;refine tl ?_;rcases hg with⟨rfl,rfl,rfl⟩|⟨r,y,fE,rfl,ap,rfl⟩
  .refine dn (ajp _) ?_;rintro _ H1 e;have e:=e.symm;subst e;refine bN ?_;refine Gg 6 8 37 (h1:=λm x6 x8 BU H2=>H2=Q/\x6=vi 0/\BU=vi 0) ?_ 0 ⟨rfl,rfl,rfl⟩;rintro m x6 x8 BU E H2 ⟨rfl,rfl,rfl⟩;refine tp ?_;rw[dQ N];refine bN ?_;refine tl<|dA (Ye)<|dn (Kh G.wf ac<|Bz.nil _ _) ?_;rintro v H3 ⟨hv,M⟩;refine rr ?_;exact⟨hv.le (ax _) G.ext.bV,G.ext.trans M⟩
  .have j:Rg r 331 y H Q []:=⟨ds++fE,by simp;omega,λk hk=>V9 λi Y=>?_,G⟩;rotate_left
   .rw[bZ N,av N];have⟨z,hz⟩:=V ds[k*2+i]<|bH _;exact⟨z,by rw[hz]⟩
   have aE:y<=KM:=N;refine dn (V8 N j) ?_;clear j G V ap fE ds an;rintro _ H2 j;refine bN ?_;refine Gg 6 8 37 (h1:=λm x6 x8 BU H2=>∃(w k:Nat),x6=W w/\BU=W k/\w<=k/\k+m=y/\Rg r 331 y H H2 []) ?_ y ⟨0,0,rfl,rfl,N,N,j⟩;clear j;rintro m2 x6 x8 BU E H3 ⟨w,k2,rfl,rfl,a0,aw,j⟩;refine iC.yw λK hK=>?_
   have nx:∀(w:Nat) x8 E H4,w<=k2+1->k2<y->Rg r 331 y H H4 []->iC Pg X (sub pO [1,1,1,1,1,0,1,0,0,1,1,1]) (xw (J a n c) (J T 0 0) (sl r y<|gK 2) x5 (W w) x8 (J a n c) (W n) (W k) (sl r y<|gK 2) (W y) (W k2) E H4) K:=by
    intro w x8 E H4 I B j;subst hK;refine tl ?_;rw[gm N N];refine bN ?_;exact⟨m2-1,N,_,_,_,_,_,O,w,k2+1,O,O,N,N,j⟩
   refine mG (λhc=>?_) λhc=>?_
   .subst hK;refine bN ?_;refine tl<|dA (De (show w<=y by omega)) ?_;have⟨es,g1,g2,G⟩:=j
    have ad:Fl H3 (Z ⟨r,0,T⟩) w 2 (es.take<|w*2):=⟨by simp;omega,λi x Y=>⟨r,0,rfl,(G.lo _<|aK ..).2,by
     rw[bB];refine(G.get 0 O).cell ?_;rw[iq]at Y;split at Y
     .exact Y
     .cases Y⟩⟩
    have hR:Bz KM H3 (J (Z ⟨r,0,T⟩) w<|gK 2):=⟨_,w,_,_,O,ad,N,QZ ad.1 λk hk=>V9 λi Y=>by
     rw[iq,jj N];exact QY (g2 k N) Y⟩
    refine dn (Kh G.wf ac hR) ?_;rintro v H4 ⟨hv,M⟩;refine rr ?_;exact⟨hv.le (ax _) G.ext.bV,G.ext.trans M⟩
   refine PE ?_;simp only[bB];refine j.r1 N N λza zb=>j.new λH4 r1 j=>j.st 0 O O (aF O) O λH5 j=>?_;have j:SB Tu r 331 2 y H H5 [(r1,331,[a_ bO za,a_ bO zb])]:=j
   have ar:∀E U,SB Tu r 331 2 y H U [(r1,331,[a_ bO za,a_ bO zb])]->iC Pg X (sub pO [1,1,1,1,1,0,1,0,0,1,1,0,0,1,1]) (xw (J a n c) (J T 0 0) (sl r y<|gK 2) x5 (W w) (bG<|Z ⟨r1,0,T⟩) (J a n c) (W n) (W k) (sl r y<|gK 2) (W y) (W k2) E U) (uk 3<|uQ Pg X (sub pO [1,1,1,1,1,0,1,0,0,1,1,1]) K):=by
    intro E U j;refine tl<|ME.of (v:=dN ⟨[a_ bO za,a_ bO zb]⟩) (H:=U) ?_ ?_
    .have⟨es,g1,g2,G⟩:=j;show(aN (U.read r1 0 2) λvs=>Z (dN ⟨vs⟩,U))=_;rw[(G.get 1 O).read (o:=0) (n:=2) (ax 2)];rfl
    refine PE ?_;simp only[bB];refine j.rw' N N λH7 j=>?_;rw[gm N N];refine bN ?_;exact nx (w+1) _ _ _ N N j.drop
   have ab:∀E U(b:Bool),Ci E 54=aO b->(b=f->0<w)->SB Tu r 331 2 y H U [(r1,331,[a_ bO za,a_ bO zb])]->iC Pg X (sub pO [1,1,1,1,1,0,1,0,0,1,1,0,0,1,0,1]) (xw (J a n c) (J T 0 0) (sl r y<|gK 2) x5 (W w) (bG<|Z ⟨r1,0,T⟩) (J a n c) (W n) (W k) (sl r y<|gK 2) (W y) (W k2) E U) (uQ Pg X (sub pO [1,1,1,1,1,0,1,0,0,1,1,0,0,1,1])<|uk 3<|uQ Pg X (sub pO [1,1,1,1,1,0,1,0,0,1,1,1]) K):=by
    intro E U b hb aq j;refine tl ?_;rw[hb];refine sD (λhb=>?_) λhb=>?_
    .have:=aq hb;refine rA ?_;refine rA ?_;refine PE ?_;refine bN ?_;refine SB.rfQ j N N N λzc=>?_;simp only[iU j.wf];refine j.R5 0 O O ?_;simp only[iU j.wf];refine bN ?_;refine PE ?_;refine bN ?_;refine SB.an5 j N N N λH7 al=>⟨by simp only[eZ,gN];kernel_rfl,?_⟩;exact nx w _ _ _ N N al.drop
    .exact ar _ _ j
   refine tJ (λhd=>?_) λhd=>?_
   .refine j.R5 0 O O ?_;simp only[iU j.wf];refine rA ?_;refine PE ?_;refine bN ?_;refine SB.rfQ j N N N λzc=>?_;simp only[iU j.wf];refine bN ?_;refine⟨by simp only[eZ];kernel_rfl,?_⟩;exact ab _ _ _ (by simp only[yP];rfl) (λ_=>N) j
   .refine⟨fQ,?_⟩;exact ab _ _ aA (by simp only[yP]) (λh=>by cases h) j
def ady(u:Wf H):bM Pg X 245 [] H (Q1 (λv Q=>jH H.bV 1 Q v) H):=by
 have G:=gM u;refine lF [0] ?_;refine dA (v:=dN ⟨[_,_]⟩) O ?_;refine G.bS O O O N λy r G=>?_;have j:=G.get 0 O;have i:=G.lo _<|aK ..
 refine rr ?_;refine⟨⟨_,1,1,_,O,⟨j.fl i.2 O,λB o e _=>by cases e;exact⟨G.yu<|aK ..,i.2,j.Gb⟩⟩,N,λx M=>?_⟩,G.ext⟩;have M:x∈[a_ bO 0,a_ bO 1114111]:=M;simp at M;rcases M with rfl|rfl
 .exact⟨_,O⟩
 .exact⟨_,O⟩
end
abbrev isRead(b:Nat)(s:aZ)(v:C)(Q:R):Prop:=∃(i:C)(cd:Int)(at':Nat),v=fJ ⟨[i,dN ⟨[vi cd,W at']⟩]⟩/\at'<=s.size+1/\jH b s.size Q i
def Tok.st{S:D Nat}{lo hi:Nat}(h:Tok b H lo hi v)(M:pN S H Q)(G:∀q∈S,q<b\/¬zW H q 331)(i:b'<=b):Tok b' Q lo hi v:=by
 have⟨kd,a,e,t,rs,I,B,h3,h4,h5,h6⟩:=h;exact⟨kd,a,e,t,rs,I,B,h3,h4,h5,(h6.stay M G).le (ax _) i⟩
theorem aal(hw:Wf H)(hT:Dl H)(s:aZ)(hs:s.size<=20000):bM Pg X 203 [aJ s] H (Q1 (isRead H.bV s) H):=by
 have G:=gM hw;refine lF [0,2,3,4,5,6,7,8,9,10] ?_;refine G.jM λY y G=>?_;refine tJ (λj=>?_) λj=>?_
 .refine fF ?_;refine G.j_ λY G=>rr ?_;exact G.jl<|⟨⟨_,_,0,O,N,jH.nil _ _ _⟩,G.ext⟩
 refine lp8 2 4 5 6 7 8 9 10 (h1:=λm x2 x4 x5 x6 x7 U x9 jW Q=>∃(k:Nat)(ds:D C)(gb:D eF),x2=J T 0 0/\x5=W k/\k+m=s.size/\GB 331 2 x4 ds gb/\u ds<=2*k/\OC ds/\SH [] H Q ((y,173,[vi 0,vi 0])::(gb++[]))) ?_ s.size ⟨0,[],[],rfl,rfl,N,GB.nil _ _,gB,nofun,G⟩;clear G;rintro m x2 x4 x5 x6 x7 U x9 jW E Q ⟨k,ds,gb,rfl,rfl,hk,hg,ar,ac,G⟩;refine iC.yw λK hK=>?_
 have ad:∀(o hi:Int)(q:Nat) x7 U E i,k<q->q<=s.size->SH [] H i ((y,173,[vi 0,vi 0])::(gb++[]))->
  iC Pg X (sub Dh [1,1,1,0,1,0,0,1,0,1,1,1,1]) (FT (aJ s) (J T 0 0) (bG<|Z ⟨y,0,T⟩) x4 (W k) (a_ bO o) x7 U (a_ bO hi) (W q) E i) (uk 1 K):=by
  intro o hi q x7 U E i I B G;subst hK;refine tl<|dA (v:=dN ⟨[_,_]⟩) O ?_;refine G.bS O O O N λV rx G=>?_;have G:SH [] H V ((rx,331,[a_ bO o,a_ bO hi])::(gb++[(y,173,[vi 0,vi 0])])):=G.perm<|fA _<|Pz _ _;refine hg.add G N O O N λv' V iX ao am M=>?_;refine bN ?_;exact⟨s.size-q,N,_,_,_,_,_,_,_,_,_,_,O,q,_,iX,O,O,N,ao,by simp;omega,ac.app _ _,am.perm (Pz _ _).symm⟩
 have al:∀(o:Int)(sz q:Nat)(b:Bool) U E i,Ci E 44=aO b->k<q->q<=s.size->(b=f->q+1<s.size)->SH [] H i ((y,173,[vi 0,vi 0])::(gb++[]))->
  iC Pg X (sub Dh [1,1,1,0,1,0,0,1,0,1,1,1,0,1]) (FT (aJ s) (J T 0 0) (bG<|Z ⟨y,0,T⟩) x4 (W k) (a_ bO o) (W sz) U (a_ bO o) (W q) E i) (uQ Pg X (sub Dh [1,1,1,0,1,0,0,1,0,1,1,1,1])<|uk 1 K):=by
  intro o sz q b U E i hb I B h3 G;refine tl ?_;rw[hb];refine sD (λhb=>?_) λhb=>?_
  .have:=h3 hb;rw[gm N N];refine bN ?_;rw[PL (show(q:Int)+1=((q+1:Nat):Int) by omega)];refine G.cm (PN G.wf (hT.ex G.ext) s (q+1) N N) ?_;rintro v V ⟨r,n,e,rfl,h4,h5⟩ M G;refine G.kN ?_;refine eU (λhe=>?_) λhe=>?_
   .rw[gm N N];refine fF ?_;refine G.j_ λY G=>?_;subst hK;refine rr ?_;exact G.jl<|⟨⟨_,_,q+1,O,N,jH.nil _ _ _⟩,G.ext⟩
   refine aV (λj=>?_) λj=>?_
   .refine fF ?_;refine G.j_ λY G=>?_;subst hK;refine rr ?_;exact G.jl<|⟨⟨_,_,k,O,N,jH.nil _ _ _⟩,G.ext⟩
   rw[gm N N];refine G.kN ?_;rw[gm N N];refine G.kN ?_;rw[PL (show(q:Int)+(1+(n:Int))=((q+1+n:Nat):Int) by omega)];exact ad _ _ _ _ _ _ _ N N G
  .exact ad _ _ _ _ _ _ _ I B G
 refine tK (λj=>?_) λj=>?_
 .refine G.cm (PN G.wf (hT.ex G.ext) s k N N) ?_;rintro v V ⟨r,n,e,rfl,h4,h5⟩ M G;refine G.kN ?_;refine eU (λhe=>?_) λhe=>?_
  .refine fF ?_;refine G.j_ λY G=>?_;subst hK;refine rr ?_;exact G.jl<|⟨⟨_,_,k,O,N,jH.nil _ _ _⟩,G.ext⟩
  have h6:=h5 N;rw[gm N N];refine G.kN ?_;rw[qP N N];refine G.kN ?_;rw[PL (show(k:Int)+(n:Int)=((k+n:Nat):Int) by omega)];refine aV (λj=>?_) λj=>?_
  .rw[uP N];refine G.kN ?_;exact al _ _ _ _ _ _ _ (by simp only[yP];rfl) N N (λ_=>N) G
  .exact al _ _ _ aA _ _ _ (by simp only[yP]) N N (λh=>by cases h) G
 .subst hK;refine bN ?_;refine tl ?_;have an:SH [] H Q (gb++[(y,173,[vi 0,vi 0])]):=G.perm<|Pz _ _;obtain⟨a,n,c,rfl,hn,hf⟩:=hg.fl an;have ap:=G.ext.bV;refine dn (Gq (KM:=s.size) G.wf N ⟨a,n,c,ds,O,hf,N,ac⟩) ?_;rintro v V ⟨hv,M⟩;have aq:=G.lt;have ab:=G.call M;have G:=ab.base;refine PU.b2 O<|G.j_ λY G=>rr ?_;exact G.jl<|⟨⟨_,0,0,O,N,(hv.stay G.ext λq hq=>.inl<|aq q hq).le (ax _) ap⟩,(ab.over G).ext⟩
theorem V'(hw:Wf H)(hT:Dl H)(s:aZ)(k:Nat)(hk:k<s.size)(hs:s.size<=20000):bM Pg X 172 [aJ s,W k] H (Q1 (Ip H.bV s k) H):=by
 have G:=gM hw;refine lF [0,1,4,5,6,7,8,19] ?_;refine G.jM λi Y G=>?_;refine G.jM λi V G=>?_;rw[gm N N];refine bN ?_;refine Ov 6 7 8 19 (h1:=λm x6 x7 x8 wB Q=>∃p:Nat,x6=W p/\p+m=s.size+1/\k+1<=p/\SH [] H Q [(V,173,[vi 0,vi 0]),(Y,221,[vi 0,vi 0,vi 0,aJ<|dJ #[],J T 0 0])]) ?_ (s.size-k) ⟨k+1,rfl,N,N,G⟩;clear G;rintro m x6 x7 x8 wB E Q ⟨p,rfl,I,B,G⟩;refine mG (λhc=>?_) λhc=>?_
 .refine tm ?_;refine G.j_ λi G=>?_;refine G.j_ λi G=>?_;refine rr ?_;refine fF ?_;exact⟨⟨_,_,k,O,⟨_,0,0,_,_,O,_,_,_,O⟩,λh=>by cases h⟩,G.ext⟩
 rw[uP N];refine tJ (λhd=>?_) λhd=>?_
 .rw[gm N N];refine bN ?_;rw[gm N N];refine bN ?_;exact⟨m-2,N,_,_,_,_,_,_,O,p+2,O,N,N,G⟩
 refine aV (λhe=>?_) λhe=>?_
 .rw[gm N N];refine bN ?_;rw[show slT (aJ s) (Z<|vi<|(k:Int)+1) (Z<|W p) T=_ from Ej (lo:=k+1) N N];refine bN ?_;have hp:=rR s (lo:=k+1) (hi:=p) N N;refine dn (aal G.wf (hT.ex G.ext) _ N) ?_;rintro v H3 ⟨⟨ab,cd,e,rfl,h3,y⟩,M⟩;have o:=G.ext.bV;have u:=G.lt;have j:=G.call M;have G:=j.base;refine G.kN ?_;refine G.jM λi rq G=>?_;refine G.kN ?_;refine G.j_ λi G=>?_;refine Oq (λU=>?_) λU=>?_
  .refine fF ?_;rw[gm N N];refine fF ?_;rw[gm N N];refine fF ?_;refine G.oq λi G=>?_;refine G.oq λi G=>?_;simp only[eZ,gN];apply AA (a:=rq) (b:=V) (c:=Y) (G.nq 0 1 O O N) (G.nq 0 2 O O N) (G.nq 1 2 O O N) yX fQ fQ;refine rr ?_;refine fF ?_;exact⟨⟨_,cd,k+1+e,O,⟨_,0,0,_,_,O,_,_,_,O⟩,λh=>absurd h U⟩,(j.over G).ext⟩
  .obtain⟨xa,xn,xc,ac,rfl,h5,h6,h7⟩:=id y;rw[gm N N];refine fF ?_;refine G.j_ λi G=>?_;refine G.j_ λi G=>?_;refine rr ?_;refine fF ?_;refine⟨⟨_,0,0,O,⟨_,_,_,_,_,O,_,_,_,O⟩,λ_=>⟨4,k,p+1,_,_,rfl,N,N,N,bD _,?_⟩⟩,(j.over G).ext⟩;exact(y.stay G.ext λq hq=>.inl<|u q hq).le N o
 .rw[gm N N];refine bN ?_;exact⟨m-1,N,_,_,_,_,_,_,O,p+1,O,N,N,G⟩
def adz(hw:Wf H)(hT:Dl H)(s:aZ)(k:Nat)(hk:k<s.size)(hs:s.size<=20000):bM Pg X 141 [aJ s,W k] H (Q1 (Ip H.bV s k) H):=by
 have G:=gM hw;refine lF [0,1,4,5,6,7,8] ?_;refine G.jM λj rt G=>?_;refine G.jM λj rs G=>?_;rw[uP N];refine bN ?_;refine dn (Kb _) ?_;rintro v Q ⟨⟨b,rfl⟩,rfl⟩;refine bN ?_;have y:=G.ext.bV;have B:=G.lt;refine ig (λU=>?_) λU=>?_
 .refine G.cm (aak G.wf s k hk N) ?_;rintro v H3 ⟨tok,cd,e,rfl,⟨kd,a,e',t,I,rfl,xa,xn,xc,rfl⟩,o⟩ M i;have G:=i.base;refine G.kN ?_;refine G.j_ λj G=>?_;refine G.j_ λj G=>?_;refine rr ?_;refine fF ?_;exact⟨⟨_,cd,e,O,⟨_,_,_,_,_,O,_,_,_,O⟩,λh=>(o h).st G.ext (λq E=>.inl<|B q E) y⟩,(i.over G).ext⟩
 refine aV (λY=>?_) λY=>?_
 .refine G.cm (QX G.wf (hT.ex G.ext) s k hk N) ?_;rintro v H3 ⟨tok,cd,e,rfl,⟨kd,a,e',t,I,rfl,xa,xn,xc,rfl⟩,o⟩ M i;have G:=i.base;refine G.kN ?_;refine G.j_ λj G=>?_;refine G.j_ λj G=>?_;refine rr ?_;refine fF ?_;exact⟨⟨_,cd,e,O,⟨_,_,_,_,_,O,_,_,_,O⟩,λh=>(o h).st G.ext (λq E=>.inl<|B q E) y⟩,(i.over G).ext⟩
 refine aV (λY=>?_) λY=>?_
 .refine G.cm (V' G.wf (hT.ex G.ext) s k hk N) ?_;rintro v H3 ⟨tok,cd,e,rfl,⟨kd,a,e',t,I,rfl,xa,xn,xc,rfl⟩,o⟩ M i;have G:=i.base;refine G.kN ?_;refine G.j_ λj G=>?_;refine G.j_ λj G=>?_;refine rr ?_;refine fF ?_;exact⟨⟨_,cd,e,O,⟨_,_,_,_,_,O,_,_,_,O⟩,λh=>(o h).st G.ext (λq E=>.inl<|B q E) y⟩,(i.over G).ext⟩
 rw[Cm N];refine bN ?_;have hp:=rR s (lo:=k) (hi:=s.size) N N;refine dn (EG _ _) ?_;rintro v Q ⟨⟨b,rfl,V⟩,rfl⟩;refine sD (λU=>?_) λU=>?_
 .have hl:2<=(Go.Ae.part s k s.size).size:=by
   have⟨r,hr⟩:=V U;have h:=eY u hr;have e1:(Go.Ae.part s k s.size).data.toList.length=(Go.Ae.part s k s.size).size:=rfl;rw[e1,aU]at h;have e2:(dJ #[45,62]).data.toList.length=2:=rfl;omega
  rw[gm N N];refine fF ?_;refine G.j_ λj G=>?_;refine G.j_ λj G=>?_;refine rr ?_;refine fF ?_;exact⟨⟨_,0,0,O,⟨_,_,_,_,_,O,_,_,_,O⟩,λ_=>⟨15,k,k+2,_,_,rfl,N,N,N,bD _,jH.nil _ _ _⟩⟩,G.ext⟩
 refine dn (Js _) ?_;rintro v Q ⟨⟨kd,b,rfl⟩,rfl⟩;refine G.kN ?_;cases b with
 |false=>
  refine(show∀{A T:Prop},A->yN (Z !aA) A T fromλh=>h)<|fF ?_;refine G.j_ λj G=>?_;refine G.j_ λj G=>?_;refine rr ?_;refine fF ?_;exact⟨⟨_,_,k,O,⟨_,0,0,_,_,O,_,_,_,O⟩,λh=>by cases h⟩,G.ext⟩
 |true=>
  refine(show∀{A T:Prop},T->yN (Z !f) A T fromλh=>h) ?_;rw[gm N N];refine fF ?_;refine G.j_ λj G=>?_;refine G.j_ λj G=>?_;refine rr ?_;refine fF ?_;exact⟨⟨_,0,0,O,⟨_,_,_,_,_,O,_,_,_,O⟩,λ_=>⟨kd,k,k+1,_,_,rfl,N,N,N,bD _,jH.nil _ _ _⟩⟩,G.ext⟩
def Tk(b:Nat)(H:R)(l:D C):Prop:=∃(kd:Int)(a e:Nat)(t:aZ)(i:C),l=[vi kd,W a,W e,aJ t,i]/\a<=20000/\t.size<=1000000/\jH b 20000 H i
def Tk.st{S:D Nat}(h:Tk b H l)(M:pN S H Q)(G:∀q∈S,q<b\/¬zW H q 331)(i:b'<=b):Tk b' Q l:=by
 have⟨kd,a,e,t,rs,I,B,h3,h4⟩:=h;exact⟨kd,a,e,t,rs,I,B,h3,(h4.stay M G).le (ax _) i⟩
def V_(b:Nat)(H:R)(a:aC Addr)(n:Nat)(F:D C):Prop:=jC (b<=·) 221 H a n 5 F/\1<=n/\n<=20001/\(∀i,i<n->Tk b H (El F 5 i))/\F[(n-1)*5]?=Z (vi 0)
def V_.st{S:D Nat}{n:Nat}(h:V_ b H a n F)(M:pN S H Q)(G:∀q∈S,q<b\/¬zW H q 331/\¬zW H q 221)(o:b'<=b):V_ b' Q a n F:=
 ⟨(h.1.stay M λq j=>(G q j).imp fI (·.2)).le o,h.2.1,h.2.2.1,λi u=>(h.2.2.2.1 i u).st M (λq j=>(G q j).imp_right (·.1)) o,h.2.2.2.2⟩
abbrev ajq(b:Nat)(v:C)(Q:R):Prop:=∃(i:C)(cd e:Int),v=fJ ⟨[i,dN ⟨[vi cd,vi e]⟩]⟩/\(i=J T 0 0\/∃a n c,i=J (Z a) n c)/\(cd=0->∃a n c F,i=J a n c/\V_ b Q a n F)
def Dm{xs:D C}{es n:Nat}(hl:u F=n*es)(M:u xs=es):(∀i,i<n->El (F++xs) es i=El F es i)/\El (F++xs) es n=xs:=by
 constructor
 .intro i o;have I:(i+1)*es<=n*es:=fH es o;rw[iH]at I;apply iQ;intro j;rw[oN,oN];split
  .rw[bZ N]
  .rfl
 .unfold El;rw[<-hl,List.drop_left,dV N]
theorem TW(hw:Wf H)(hT:Dl H)(s:aZ):bM Pg X 117 [aJ s] H (Q1 (ajq H.bV) H):=by
 have G:=gM hw;refine lF [0,2,3,4,5,6,7] ?_;refine G.jM λB rs G=>?_;refine tJ (λhc=>?_) λhc=>?_
 .refine fF ?_;refine G.j_ λB G=>rr ?_;exact G.jl<|⟨⟨_,3,0,O,.inl O,λh=>by cases h⟩,G.ext⟩
 have hs:s.size<=20000:=N;refine dn (Cu s 0 N N) ?_;rintro v Q ⟨⟨k,rfl,ap,aq⟩,rfl⟩;refine YA 2 4 5 6 7 (h1:=λm x2 x4 x5 x6 x7 Q=>∃(k n:Nat)(F:D C)(gb:D eF),x2=J T 0 0/\x5=W k/\k+m=s.size/\GB 221 5 x4 F gb/\u F=n*5/\n<=k/\(∀i,i<n->Tk H.bV Q (El F 5 i))/\SH [] H Q ((rs,173,[vi 0,vi 0])::(gb++[]))) ?_ (s.size-k) ⟨k,0,[],[],rfl,rfl,N,GB.nil _ _,rfl,N,(λi h=>N),G⟩;clear G;rintro m x2 x4 x5 x6 x7 E Q ⟨k,n,F,gb,rfl,rfl,hk,hg,o,aE,ad,G⟩;refine tp ?_;have al:=G.ext.bV;refine nO (λhc=>?_) λhc=>?_
 .refine tp ?_;refine PU.b5 O ?_;have V:=G.Az (ty:=331) (by simp[hg.all]);have j:=G;have G:=j.base;refine G.bS O O O N λH1 rx G=>?_;have G:SH _ Q H1 ((rx,221,[vi 0,W s.size,W s.size,aJ<|dJ #[],J T 0 0])::(gb++[(rs,173,[vi 0,vi 0])])):=G.perm<|fA _<|Pz _ _;refine hg.add G N O O N λv' H3 iX U I M=>?_;have hE:=Dm (es:=5) (n:=n) o (xs:=[vi 0,W s.size,W s.size,aJ<|dJ #[],J T 0 0]) O;have G:=I.perm<|aG (l₂:=[_]);simp only[bQ,bX]at G;refine fF ?_;refine G.j_ λB G=>?_;have y:=(j.over G).perm<|uL<|aG (l₂:=[_]);obtain⟨a,n',c,rfl,ac,hf⟩:=U.UT y;have am:n'=n+1:=by rw[aU,o]at ac;simp at ac;omega
  subst am;refine rr ?_;refine G.jl<|⟨⟨_,0,0,O,?_,λ_=>⟨a,n+1,c,_,rfl,hf,N,N,?_,?_⟩⟩,y.ext⟩
  .cases a with
   |none=>
    have⟨_,_,h,_⟩:=hf.1.2 0 _<|av (by rw[hf.1.1];omega);cases h
   |some a=>exact .inr ⟨a,_,_,O⟩
  .intro i hi;rcases dH i n with h|h
   .rw[hE.1 i h];exact(ad i h).st G.ext (λq hq=>.inr<|V q hq)<|ax _
   .have:i=n:=N;subst this;rw[hE.2];exact⟨0,s.size,s.size,_,_,O,hs,bD _,jH.nil _ _ _⟩
  .rw[jo,<-o,eB<|ax _,kJ];rfl
 refine dn (adz G.wf (hT.ex G.ext) s k N hs) ?_;rintro v H3 ⟨⟨tok,cd,e,rfl,⟨kd,a,Y,t,a1,rfl,xa,xn,xc,rfl⟩,an⟩,M⟩;have V:=G.Az (ty:=331) (by simp[hg.all]);have ab:=G.lt;have j:=G.call M;have G:=j.base;refine G.kN ?_;refine G.jM λB r8 G=>G.jM λB ao G=>?_;refine G.kN ?_;refine G.j_ λB G=>?_;refine G.j_ λB G=>?_;refine Oq (λhz=>?_) λhz=>?_
 .refine fF ?_;refine G.oq λB G=>?_;simp only[eZ,gN];apply nE (a:=ao) (b:=rs) (G.nq 0 2 O O N) yX fQ fQ;refine rr ?_;exact G.jl<|⟨⟨_,cd,e,O,.inl O,λh=>absurd h hz⟩,(j.over G).ext⟩
 have⟨kd',a',e2,t',rs',he,h3,h4,h5,h6,h7⟩:=an hz;simp only[Value.agg.injEq,Array.mk.injEq,List.cons.injEq,zf]at he;have⟨e_1,e_2,e_3,e_4,e_5⟩:=he;have:Y=e2:=by injection e_3 with _ h;omega
 subst this;have:a=a':=by injection e_2 with _ h;omega
 subst this;have:t=t':=by injection e_4
 subst this;subst e_5;refine G.jl<|G.bS O O O N λH4 rx G=>?_;have G:=G.to (cs':=[vi kd,W a,W Y,aJ t,J xa xn xc]) O;have G:=G.perm (L':=(rx,221,[vi kd,W a,W Y,aJ t,J xa xn xc])::(gb++[_,_,_]))<|fA _<|ak4 _ _ _ _;refine hg.add G N O O N λv' H5 iX U I a0=>?_;have hE:=Dm (es:=5) (n:=n) o (xs:=[vi kd,W a,W Y,aJ t,J xa xn xc]) O;have G:=I.perm<|aG (l₂:=[_,_,_]);simp only[bQ,bX]at G;refine G.qE<|dn (Cu s Y N N) ?_;rintro v Q ⟨⟨k2,rfl,ar,aw⟩,rfl⟩;have y:=(j.over G);refine⟨s.size-k2,N,_,_,_,_,_,_,_,O,k2,n+1,_,iX,O,O,N,U,by rw[aU,o];simp;omega,N,?_,?_⟩
 .intro i hi;rcases dH i n with h|h
  .rw[hE.1 i h];exact((ad i h).st M (nofun)<|ax _).st G.ext (λq hq=>.inr λht=>V q hq<|ht.iB (M.obj q (ab q hq) gB).symm)<|ax _
  .have:i=n:=N;subst this;rw[hE.2];exact⟨kd,a,Y,t,_,O,N,h6,(h7.stay G.ext λq hq=>.inl<|ab q hq).le (ax _) al⟩
 .exact fV (A:=[_,_])<|om y
section
variable{S:D Nat}{cs:Nat->Prop}
abbrev pr(r:Nat):C:=bG<|Z ⟨r,0,T⟩
structure RC where
 (rt ra rp rr:Nat)(a:aC Addr)(n c:Nat)(F:D C)(nu:Nat)
abbrev qV(rt ra:Nat):C:=.func (.func 118) ⟨[]⟩ ⟨[pr rt,pr ra]⟩
abbrev zM(rp ra rt:Nat):C:=.func (.func 119) ⟨[]⟩ ⟨[pr rp,pr ra,pr rt]⟩
def RuC(l:D C):Prop:=∃(nm:aZ)(aa ay w:Bool)(ch root at':Int),l=[aJ nm,aO aa,aO ay,aO w,vi ch,vi root,vi at']/\nm.size<=1000000
def NoC(cs:Nat->Prop)(H:R)(l:D C):Prop:=∃(kd:Int)(a:aC Addr)(n c:Nat)(ks:D C)(t:aZ)(i:C)(at':Int),l=[vi kd,J a n c,aJ t,i,vi at']/\jC cs 3 H a n 1 ks/\n<=20001/\(∀x∈ks,∃z:Int,x=vi z)/\t.size<=1000000/\jH 0 20001 H i
def NoC.st(h:NoC cs H l)(M:pN S H Q)(G:∀q∈S,(¬cs q\/¬zW H q 3)/\¬zW H q 331):NoC cs Q l:=by
 have⟨kd,a,n,c,ks,t,rs,at',I,B,h3,h4,h5,h6⟩:=h;exact⟨kd,a,n,c,ks,t,rs,at',I,B.stay M λq i=>(G q i).1,h3,h4,h5,h6.stay M λq i=>.inr (G q i).2⟩
def Rd(cs:Nat->Prop)(q:RC)(k:Nat)(H:R)(hx:D eF):Prop:=∃I j B E o y sc M nr nn,
 hx=(q.rt,215,[J q.a q.n q.c])::(q.ra,3,[W k])::(q.rp,222,[qV q.rt q.ra])::(q.rr,226,[qV q.rt q.ra,zM q.rp q.ra q.rt,I,E,vi sc,vi M])::(B++y)/\
 k<q.n/\V_ 0 H q.a q.n q.F/\GB 234 7 I j B/\u j=nr*7/\nr=q.nu/\(∀i,i<nr->RuC (El j 7 i))/\GB 238 5 E o y/\u o=nn*5/\nn<=4000/\(∀i,i<nn->NoC cs H (El o 5 i))/\¬cs q.ra
def Rd.le{q:RC}(h:Rd cs q k H hx):k<q.n/\q.n<=20001:=by
 have⟨rv,rcs,gr,nv,jw,gn,sc,sa,nr,nn,_,I,B,_⟩:=h;exact⟨I,B.2.2.1⟩
def NoC.wk(h:NoC cs H l)(i:∀r,r<H.bV->cs r->F' r):NoC F' H l:=by
 have⟨kd,a,n,c,ks,t,rs,at',I,B,h3⟩:=h;exact⟨kd,a,n,c,ks,t,rs,at',I,⟨B.1,λr o e j=>by have⟨g1,g2,g3⟩:=B.2 r o e j;exact⟨i r g2 g1,g2,g3⟩⟩,h3⟩
def Rd.wk{q:RC}(h:Rd cs q k H hx)(j:∀r,r<H.bV->cs r->F' r)(o:¬F' q.ra):Rd F' q k H hx:=by
 have⟨rv,rcs,gr,nv,jw,gn,sc,sa,nr,nn,h0,I,B,h3,h4,h5,h6,h7,h8,h9,h10,DT⟩:=h;exact⟨rv,rcs,gr,nv,jw,gn,sc,sa,nr,nn,h0,I,B,h3,h4,h5,h6,h7,h8,h9,λi u=>(h10 i u).wk j,o⟩
def Rd.ex{q:RC}(h:Rd cs q k H hx)(M:Ext H Q):Rd cs q k Q hx:=by
 have⟨rv,rcs,gr,nv,jw,gn,sc,sa,nr,nn,h0,I,B,h3,h4,h5,h6,h7,h8,h9,h10,DT⟩:=h;exact⟨rv,rcs,gr,nv,jw,gn,sc,sa,nr,nn,h0,I,B.st M (nofun)<|ax _,h3,h4,h5,h6,h7,h8,h9,λi j=>(h10 i j).st M<|nofun,DT⟩
def Rd.ty{q:RC}(h:Rd cs q k H hx)(G:SH S H0 H<|hx++L):∀r∈hx.map (·.1),(r=q.ra\/¬zW H r 3)/\¬zW H r 331/\¬zW H r 221:=by
 obtain⟨rv,ab,gr,nv,jw,gn,sc,sa,nr,nn,rfl,I,B,V,h4,h5,h6,X,h8,h9,U,DT⟩:=h;intro r Y;obtain⟨e,he,rfl⟩:=bT.1 Y;have j:=(G.bk e<|dM _ he).Gb
 have E:e.1=q.ra\/(e.2.1≠3/\e.2.1≠331/\e.2.1≠221)\/e.2.1=3/\e.1=q.ra:=by
  simp only[bW,cB]at he;rcases he with rfl|rfl|rfl|rfl|he|he
  .exact .inr<|.inl ⟨(show(215:Nat)≠3 by decide),(show(215:Nat)≠331 by decide),(show(215:Nat)≠221 by decide)⟩
  .exact .inl O
  .exact .inr<|.inl ⟨(show(222:Nat)≠3 by decide),(show(222:Nat)≠331 by decide),(show(222:Nat)≠221 by decide)⟩
  .exact .inr<|.inl ⟨(show(226:Nat)≠3 by decide),(show(226:Nat)≠331 by decide),(show(226:Nat)≠221 by decide)⟩
  .refine .inr (.inl ?_);rcases V with⟨_,_,rfl⟩|⟨_,_,_,_,_,rfl⟩
   .cases he
   .rw[aS]at he;subst he;exact⟨(show(234:Nat)≠3 by decide),(show(234:Nat)≠331 by decide),(show(234:Nat)≠221 by decide)⟩
  .refine .inr (.inl ?_);rcases X with⟨_,_,rfl⟩|⟨_,_,_,_,_,rfl⟩
   .cases he
   .rw[aS]at he;subst he;exact⟨(show(238:Nat)≠3 by decide),(show(238:Nat)≠331 by decide),(show(238:Nat)≠221 by decide)⟩
 have M:e.1=q.ra->e.2.1=3:=by
  intro N;have y:zW H q.ra 3:=(G.bk (q.ra,3,[W k])<|dM _ gB).Gb;rw[N]at j;exact j.one y
 have o:e.1=q.ra->¬zW H e.1 331/\¬zW H e.1 221:=λh=>by
  rw[M h]at j;exact⟨λi=>(by have:=j.one i;cases this),λi=>(by have:=j.one i;cases this)⟩
 rcases E with h|⟨h,T,u⟩|⟨_,h⟩
 .exact⟨.inl h,o h⟩
 .exact⟨.inr λi=>h<|j.one i,λi=>T<|j.one i,λi=>u<|j.one i⟩
 .exact⟨.inl h,o h⟩
def Rd.on{q:RC}(h:Rd cs q k H hx)(G:SH S H0 H<|hx++L)(M:pN (hx.map (·.1)) H Q):Rd cs q k Q hx:=by
 have j:=h.ty G;have⟨rv,rcs,gr,nv,jw,gn,sc,sa,nr,nn,h0,I,B,h3,h4,h5,h6,h7,h8,h9,h10,DT⟩:=h;exact⟨rv,rcs,gr,nv,jw,gn,sc,sa,nr,nn,h0,I,B.st M (λr o=>.inr (j r o).2)<|ax _,h3,h4,h5,h6,h7,h8,h9,λi u=>(h10 i u).st M λr o=>⟨(j r o).1.imp_left (λe=>by rw[e];exact DT),(j r o).2.1⟩,DT⟩
def V_.get{n:Nat}(h:V_ b H a n F){i:Nat}(hi:i<n):∃(kd:Int)(at' e:Nat)(t:aZ)(j:aC Addr)(o xc:Nat),El F 5 i=[vi kd,W at',W e,aJ t,J j o xc]/\at'<=20000/\t.size<=1000000/\jH b 20000 H (J j o xc)/\(i=n-1->kd=0):=by
 have⟨kd,at',e,t,rs,I,B,h3,h4⟩:=h.2.2.2.1 i hi;obtain⟨j,o,xc,M,rfl,O⟩:=id h4;refine⟨kd,at',e,t,j,o,xc,I,B,h3,h4,λy=>?_⟩;subst y;have E:=h.2.2.2.2;have u:=oN F 5 (n-1) 0;rw[jj N,I,dZ,E]at u;simpa using eO u
def adA{q:RC}(y:Rd cs q k H hx)(G:SH S H0 H<|hx++L)(j:Nat)(hj:j<=1000):bM Pg X 118 [W j,pr q.rt,pr q.ra] H (Q1 (λv _=>v=dN ⟨El q.F 5<|min (k+j)<|q.n-1⟩) H):=by
 have U:=y.le;obtain⟨rv,Y,gr,nv,jw,gn,sc,sa,nr,nn,rfl,I,B,_⟩:=y;have u:=G.get 0 O;have T:=G.get 1 O;have E:=(G.lo _<|aT (i:=0) O).2;have V:=(G.lo _<|aT (i:=1) O).2;have G:=gM G.wf;refine lF [0,1,2,4] ?_;refine G.jM λM rb G=>?_;refine G.CJ (u.cell (o:=0) O) E ?_;refine G.CJ (T.cell (o:=0) O) V ?_;refine eD ?_;refine G.CJ (u.cell (o:=0) O) E ?_;refine bN ?_;refine rA ?_;refine bN ?_;rw[show min ((k:Int)+(j:Int)) ((q.n:Int)-1)=((min (k+j) (q.n-1):Nat):Int) by omega];have⟨r,o,e,hr,hrd,hel,o0,_⟩:=B.1.1.read N (show min (k+j) (q.n-1)<q.n by omega) q.c;rw[e];refine bN ?_;have⟨kd,at',e',t,xa,xn,xc,he,_⟩:=B.get (i:=min (k+j)<|q.n-1) N;rw[he]at hrd;rw[he];refine G.BN hrd hr<|G.j_ λM G=>rr ?_;exact G.jl<|⟨O,G.ext⟩
def Rd.Q3{q:RC}(o:Rd cs q k H hx)(G:SH S H0 H<|hx++L)(j:Nat)(u:j<=1000)(h:∀Q,Rd cs q k Q hx->SH S H0 Q (hx++L)->Ext H Q->K (qV q.rt q.ra) (dN ⟨El q.F 5<|min (k+j)<|q.n-1⟩) Q):ME (yh T (bG<|Z ⟨q.rr,0,T⟩) H) λv H1=>qh Pg X (Oo v) [W j] H1 (K v):=by
 have i:=o;obtain⟨U,y,E,N,I,B,sc,V,nr,nn,rfl,_⟩:=o;refine G.ld 3 O O ?_;show bM Pg X 118 [W j,pr q.rt,pr q.ra] H<|K _;refine dn (adA i G j u) ?_;rintro v Q ⟨rfl,M⟩;exact h Q (i.ex M) (G.call M) M
def ama{q:RC}(y:Rd cs q k H hx)(G:SH S H0 H<|hx++L):bM Pg X 119 [pr q.rp,pr q.ra,pr q.rt] H λv Q=>v=dN ⟨El q.F 5 k⟩/\∃M',Rd cs q (min (k+1)<|q.n-1) Q M'/\SH (hx.map (·.1)) H Q M':=by
 have ab:=y.le;have j:=y;have o:=G;have G:=G.own;obtain⟨rv,T,gr,nv,jw,gn,sc,sa,nr,nn,rfl,I,B,h3,h4,h5,h6,h7,h8,h9,u,U⟩:=y;have⟨kd,at',e',t,xa,xn,xc,he,_⟩:=B.get (i:=k) I;refine lF [0,1,2,3,4] ?_;refine G.jM λV rb G=>?_;apply G.qE;show bM Pg X 118 [W 0,pr q.rt,pr q.ra] V _;have E:=G.perm<|aG (l₁:=[_]);refine dn (adA (j.on o G.ext) E 0 N) ?_;rintro v H2 ⟨rfl,M⟩;rw[show min (k+0) (q.n-1)=k by omega,he];have G:=G.call M;refine G.jM λV r8 G=>?_;refine G.j_ λY G=>?_;apply G.qE;rw[gm N N];refine fF ?_;rw[qP N N];refine G.kN ?_;refine G.j_ λY G=>?_;apply G.jl;refine G.j_ λY G=>?_;rw[show min ((k:Int)+1) ((q.n:Int)-1)=((min (k+1) (q.n-1):Nat):Int) by omega]at G;refine rr ?_;refine fF ?_;refine⟨O,(q.rt,215,[J q.a q.n q.c])::(q.ra,3,[W (min (k+1)<|q.n-1)])::(q.rp,222,[qV q.rt q.ra])::(q.rr,226,[qV q.rt q.ra,zM q.rp q.ra q.rt,rv,nv,vi sc,vi sa])::(gr++gn),?_,fV (A:=[_,_]) G⟩;have BA:=j.on o G.ext;have⟨rv',amb,gr',nv',amc,gn',sc',sa',nr',nn',e0,g1,g2,_⟩:=BA;refine⟨rv,T,gr,nv,jw,gn,sc,sa,nr,nn,O,N,g2,h3,h4,h5,h6,h7,h8,h9,λi hi=>(u i hi).st G.ext λr hr=>?_,U⟩;have:=j.ty o r hr;exact⟨this.1.imp_left (λe=>by rw[e];exact U),this.2.1⟩
def Rd.bV{q:RC}(u:Rd cs q k H hx)(G:SH S H0 H<|hx++L)(h:∀Q M',Rd cs q (min (k+1)<|q.n-1) Q M'->SH S H0 Q (M'++L)->SH (hx.map (·.1)) H Q M'->K (zM q.rp q.ra q.rt) (dN ⟨El q.F 5 k⟩) Q):ME (yh T (bG<|Z ⟨q.rr,1,T⟩) H) λv H1=>qh Pg X (Oo v) [] H1 (K v):=by
 have o:=u;obtain⟨N,y,E,M,I,B,sc,U,nr,nn,rfl,_⟩:=u;refine G.ld 3 O O ?_;show bM Pg X 119 [pr q.rp,pr q.ra,pr q.rt] H<|K _;refine dn (ama o G) ?_;rintro v Q ⟨rfl,M',j,i⟩;exact h Q M' j (G.frame i) i
def Cv{q:RC}(T:Rd cs q k H hx)(G:SH S H0 H<|hx++L)(cd at':Int):bM Pg X 144 [pr q.rr,vi cd,vi at'] H λv Q=>v=aO aA/\∃M',Rd cs q k Q M'/\SH (hx.map (·.1)) H Q M':=by
 have j:=T;have o:=G;have G:=G.own;obtain⟨V,y,N,U,jw,M,sc,sa,nr,nn,rfl,I,B,h3,h4,h5,h6,h7,h8,h9,u,E⟩:=T;refine cem [0,1,2,6] ?_;refine G.j_ λHn G=>rr ?_;refine⟨O,(q.rt,215,[J q.a q.n q.c])::(q.ra,3,[W k])::(q.rp,222,[qV q.rt q.ra])::(q.rr,226,[qV q.rt q.ra,zM q.rp q.ra q.rt,V,U,vi cd,vi at'])::(N++M),?_,G⟩;have Y:=j.on o G.ext;have⟨rv',amb,gr',nv',amc,gn',sc',sa',nr',nn',e0,g1,g2,_⟩:=Y;refine⟨V,y,N,U,jw,M,cd,at',nr,nn,O,I,g2,h3,h4,h5,h6,h7,h8,h9,λi hi=>(u i hi).st G.ext λr hr=>?_,E⟩;have:=j.ty o r hr;exact⟨this.1.imp_left (λe=>by rw[e];exact E),this.2.1⟩
theorem Nk{q:RC}(y:Rd cs q k H hx)(G:SH S H0 H<|hx++L):bM Pg X 143 [pr q.rr] H λv Q=>v=aO aA/\∃M',Rd cs q k Q M'/\SH (hx.map (·.1)) H Q M':=by
 have ab:=y.le;have U:=G;have G:=G.own;refine GV [0,2,3] ?_;have o:SH (hx.map (·.1)) H H (hx++[]):=by rw[bF];exact G
 refine y.Q3 o 0 N λH1 BA o ac=>?_
 obtain⟨kd,at',e',t,E,M,I,V,_⟩:∃(kd:Int)(at' e:Nat)(t:aZ)(E:aC Addr)(M I:Nat),El q.F 5 (min (k+0)<|q.n-1)=[vi kd,W at',W e,aJ t,J E M I]/\True:=by
  have⟨_,_,_,_,_,_,_,_,_,_,_,_,B,_⟩:=y;have⟨kd,at',e',t,E,M,I,V,_⟩:=B.get (i:=min (k+0)<|q.n-1) N;exact⟨kd,at',e',t,E,M,I,V,trivial⟩
 rw[V];have G:=o.perm aG;simp only[bX]at G;refine G.jM λH2 rb G=>?_;refine G.kN ?_;refine G.j_ λHn G=>?_;refine fF ?_;have Y:=G.ext;have j:=G.perm<|aG (l₁:=[_]);have u:=y.on U Y;refine aV (λhc=>?_) λhc=>?_
 .apply G.qE;refine dn (Cv u j _ _) ?_;rintro v H3 ⟨rfl,M',T,wu⟩;refine rr ?_;refine⟨O,M',T,?_⟩;exact fV (A:=[_])<|(j.frame wu).perm aG
 .apply G.qE;refine dn (Cv u j _ _) ?_;rintro v H3 ⟨rfl,M',T,wu⟩;refine rr ?_;refine⟨O,M',T,?_⟩;exact fV (A:=[_])<|(j.frame wu).perm aG
end
variable{q:RC}
section
variable{S:D Nat}{cs:Nat->Prop}
def Rd.tok{i:Nat}(u:Rd cs q k H hx)(hi:i<q.n):∃(kd:Int)(at' e:Nat)(t:aZ)(j:aC Addr)(o xc:Nat),El q.F 5 i=[vi kd,W at',W e,aJ t,J j o xc]/\at'<=20000/\t.size<=1000000/\jH 0 20000 H (J j o xc)/\(i=q.n-1->kd=0):=by
 have⟨_,_,_,_,_,_,_,_,_,_,_,_,B,_⟩:=u;exact B.get hi
def Gt(x:C)(l:D C):ajb T 0 (dN ⟨x::l⟩)=Z x:=rfl
def Wd(x y:C)(l:D C):ajb T 1 (dN ⟨x::y::l⟩)=Z y:=rfl
def Ju(E:Rd cs q k H hx)(G:SH S H0 H<|hx++L)(kd:Int)(y:kd≠0):bM Pg X 145 [pr q.rr,vi kd] H λv Q=>∃(b:Bool)(k':Nat)(M':D eF),v=aO b/\Rd cs q k' Q M'/\SH (hx.map (·.1)) H Q M'/\k<=k'/\(b=f->k'=k+1):=by
 have B:=E.le;have T:=G;have G:=G.own;refine GV [0,1,4] ?_;have i:SH (hx.map (·.1)) H H (hx++[]):=by rw[bF];exact G
 refine E.Q3 i 0 N λY j i U=>?_;rw[show min (k+0) (q.n-1)=k by omega];have⟨kd',at',e',t,xa,xn,xc,he,_,_,_,hz⟩:=j.tok B.1;rw[he,Gt];refine yl (λI=>?_) λI=>?_
 .refine dn (Nk j i) ?_;rintro v H3 ⟨rfl,M',M,W⟩;refine rr ?_;refine⟨aA,k,M',O,M,?_,ax _,λh=>by cases h⟩;have:=i.frame W
  rwa [bF]at this
 .refine j.bV i λH2 M' o u V=>?_;refine rr ?_;refine⟨f,_,M',O,o,?_,N,λ_=>?_⟩
  .rwa [bF]at u
  .have:k≠q.n-1:=λh=>y (by rw[<-I];exact hz h);omega
def Gu(j:Wf H)(kd:Int)(a e:C)(t x:C)(h:rP (dN ⟨[vi kd,a,e,t,x]⟩)=f):bM Pg X 142 [dN ⟨[vi kd,a,e,t,x]⟩] H (Q1 (λv _=>v=aO (decide (kd=1)||decide (kd=2))) H):=by
 have G:=gM j;refine lF [0,1,2] ?_;refine G.box h λo r G=>?_;refine ym (λi=>?_) λi=>?_
 .refine rr ?_;refine⟨?_,G.ext⟩;rw[bY i];rfl
 .refine fF ?_;refine rr ?_;refine⟨?_,G.ext⟩;rw[dQ i];rfl
def TX(j:Wf H)(kd:Int)(a e:C)(t x:C)(h:rP (dN ⟨[vi kd,a,e,t,x]⟩)=f):bM Pg X 204 [dN ⟨[vi kd,a,e,t,x]⟩] H (Q1 (λv _=>∃b:Bool,v=aO b/\(b=f->kd≠0)) H):=by
 have G:=gM j;refine lF [0,1,2,4] ?_;refine G.box h λo r G=>?_;refine ym (λi=>?_) λi=>?_
 .rw[bY i];refine G.kN ?_;refine rr ?_;exact⟨⟨f,O,λ_=>N⟩,G.ext⟩
 refine aV (λi=>?_) λi=>?_
 .rw[bY i];refine G.kN ?_;refine rr ?_;exact⟨⟨f,O,λ_=>N⟩,G.ext⟩
 refine aV (λi=>?_) λi=>?_
 .rw[bY i];refine G.kN ?_;refine rr ?_;exact⟨⟨f,O,λ_=>N⟩,G.ext⟩
 refine aV (λi=>?_) λi=>?_
 .rw[bY i];refine G.kN ?_;refine rr ?_;exact⟨⟨f,O,λ_=>N⟩,G.ext⟩
 refine aV (λi=>?_) λi=>?_
 .rw[bY i];refine G.kN ?_;refine rr ?_;exact⟨⟨f,O,λ_=>N⟩,G.ext⟩
 refine aV (λi=>?_) λi=>?_
 .rw[bY i];refine G.kN ?_;refine rr ?_;exact⟨⟨f,O,λ_=>N⟩,G.ext⟩
 refine aV (λi=>?_) λi=>?_
 .refine rr ?_;exact⟨⟨f,O,λ_=>N⟩,G.ext⟩
 .refine rr ?_;exact⟨⟨aA,O,λh=>by cases h⟩,G.ext⟩
def NoV(cs:Nat->Prop)(H:R)(v:C):Prop:=∃l,v=dN ⟨l⟩/\NoC cs H l
theorem EJ(hR:Rd cs q k H hx)(G:SH S H0 H<|hx++L)(hv:NoV cs H v)(at':Int):bM Pg X 175 [pr q.rr,v,vi at'] H λw Q=>∃(i:Nat)(b:Bool)(M':D eF),w=fJ ⟨[W i,aO b]⟩/\i<4000/\Rd cs q k Q M'/\SH (hx.map (·.1)) H Q M':=by
 have Y:=hR;have y:=G;have G:=G.own;have ao:=hR.ty y;obtain⟨rv,a2,U,nv,jw,gn,sc,sa,nr,nn,rfl,I,B,h3,h4,h5,h6,h7,h8,h9,aq,DT⟩:=hR;obtain⟨l,rfl,am⟩:=hv;obtain⟨kd,ka,kn,kc,ks,t,rs,na,rfl,a4,a5,a6,a7,aw⟩:=id am;obtain⟨xa,xn,xc,ba,rfl,Q4⟩:=id aw
 obtain⟨ap,j,cc,rfl,al,a8⟩:∃a n c,nv=J a n c/\u jw=n*5/\True:=by
  rcases h7 with⟨rfl,rfl,_⟩|⟨r,n,fE,rfl,hn,_⟩
  .exact⟨_,_,_,O,gB,trivial⟩
  .exact⟨_,_,_,O,hn,trivial⟩
 have a0:j=nn:=N;subst a0;refine lF [0,1,2,4,6,7] ?_;refine G.box O λo rb G=>?_;refine ym (λhc=>?_) λhc=>?_
 .have ab:=G.perm (aG (l₁:=[_]));refine dn (Cv (Y.on y G.ext) ab _ _) ?_;rintro v H3 ⟨rfl,M',Gs,wu⟩;refine rr ?_;refine⟨0,aA,M',O,N,Gs,?_⟩;exact fV (A:=[_])<|(ab.frame wu).perm aG
 .have aE:j<4000:=N;refine fF ?_;refine G.R4 O O O N λH2 rx G uR=>?_;have G:=G.to (cs':=[vi kd,J ka kn kc,aJ t,J xa xn xc,vi na]) O;have G:=G.perm (L':=(rx,238,[vi kd,J ka kn kc,aJ t,J xa xn xc,vi na])::(gn++((rb,238,[vi kd,J ka kn kc,aJ t,J xa xn xc,vi na])::(q.rt,215,[J q.a q.n q.c])::(q.ra,3,[W k])::(q.rp,222,[qV q.rt q.ra])::(q.rr,226,[qV q.rt q.ra,zM q.rp q.ra q.rt,rv,J ap j cc,vi sc,vi sa])::U)))<|fA _<|aG (l₁:=_::_::_::_::_::U);refine h7.KB G N O O N λv' H3 V ac G a9 VC xz=>?_;have G:=G.perm<|aG (l₂:=_::_::_::_::_::U);simp only[bQ]at G
  obtain⟨va,a3,vc,rfl,E,_⟩:∃a n c,v'=J a n c/\u (jw++[vi kd,J ka kn kc,aJ t,J xa xn xc,vi na])=n*5/\True:=by
   rcases ac with⟨_,h,_⟩|⟨r,n,fE,rfl,hn,_⟩
   .exact absurd h gB
   .exact⟨_,_,_,O,hn,trivial⟩
  have a1:a3=j+1:=by rw[aU,al]at E;simp at E;omega
  subst a1;refine G.oq λHn G=>?_;have ad:q.rr≠rb:=(G.nq 0 4 O O N).symm
  have ar:∀K:Prop,K->kY (opsOf<|sub Ij [1,1,0]) [clS (bG<|Z ⟨q.rr,2+1,T⟩) (J va (j+1) vc) (hM (hM o H2) H3) Hn,cl 0,cl 0,cl 0,CG (hM o H2) H3,N9 o H2,clL 5 (bG<|Z ⟨rb,0,T⟩) o<|hN o,clL 1 (bG<|Z ⟨q.rr,2+1,T⟩) o<|hN o,cl 0,cl 0,cl 0,cl 0,cl 0]=f/\K:=by
   intro K hK;simp only[uR,eZ,gN];generalize q.rr=rr at ad;rcases xz with e|e<;>rw[e]<;>apply nE (a:=rr) (b:=rb) ad yX fQ fQ hK
  refine ar _ ?_;refine fF ?_;rw[qP N N];refine G.kN ?_;have M:=G.ext;refine rr ?_;refine⟨j,f,(q.rt,215,[J q.a q.n q.c])::(q.ra,3,[W k])::(q.rp,222,[qV q.rt q.ra])::(q.rr,226,[qV q.rt q.ra,zM q.rp q.ra q.rt,rv,J va (j+1) vc,vi sc,vi sa])::(U++V),?_,aE,?_,fV (A:=[_]) G⟩
  .rw[show((j+1:Nat):Int)-1=((j:Nat):Int) by omega]
  .have BA:=Y.on y M;have⟨rv',amb,gr',nv',amc,apt,sc',sa',nr',nn',e0,g1,g2,_⟩:=BA;have hE:=Dm (es:=5) (n:=j) al (xs:=[vi kd,J ka kn kc,aJ t,J xa xn xc,vi na]) O;refine⟨rv,a2,U,_,_,V,sc,sa,nr,j+1,O,I,g2,h3,h4,h5,h6,ac,E,N,λi hi=>?_,DT⟩;have an:∀r∈((q.rt,215,[J q.a q.n q.c])::(q.ra,3,[W k])::(q.rp,222,[qV q.rt q.ra])::(q.rr,226,[qV q.rt q.ra,zM q.rp q.ra q.rt,rv,J ap j cc,vi sc,vi sa])::(U++gn)).map (λe:eF=>e.1),(¬cs r\/¬zW H r 3)/\¬zW H r 331:=λr hr=>⟨(ao r hr).1.imp_left (λe=>by rw[e];exact DT),(ao r hr).2.1⟩;rcases dH i j with h|h
   .rw[hE.1 i h];exact(aq i h).st M an
   .obtain rfl:i=j:=N;rw[hE.2];exact am.st M an
end
section
variable{S:D Nat}
theorem adB(hw:Wf H)(hm:m<=900000)(hv:Bz m H v):bM Pg X 246 [v] H (Q1 (λv Q=>jH H.bV (m+1) Q v) H):=by
 refine lF [0,2,3,4,6,8,9,10] ?_;refine dn (Gq hw N hv) ?_;rintro v H2 ⟨al,M⟩;obtain⟨a,n,c,F,rfl,hf,hn,hi⟩:=al;have am:=M.wf hw;have G:=gM am;have ap:H.bV<=H2.bV:=M.bV;refine bN ?_;refine Ov 3 4 6 10 (h1:=λm x3 x4 x6 jW Q=>∃(k:Nat)(i:D C)(gb:D eF)(z:Int),x4=a_ bO z/\jW=W k/\k+m=n/\GB 331 2 x3 i gb/\u i<=2*k/\OC i/\SH [] H2 Q (gb++[])) ?_ n ⟨0,[],[],0,rfl,rfl,N,GB.nil _ _,gB,nofun,G⟩;clear G;rintro m' x3 x4 x6 jW E Q ⟨k,i,gb,z,rfl,rfl,hk,U,ac,j,G⟩;refine iC.yw λK hK=>?_;refine tK (λhc=>?_) λhc=>?_
 .have⟨r,o,e,hr,hrd,hel,_⟩:=hf.1.read N (show k<n by omega) c;rw[e];refine bN ?_;have⟨z1,z2,ez⟩:=TV hi (k:=k) (by rw[hf.1.1];omega);rw[ez]at hrd;refine G.BN hrd hr<|G.jM λH1 r1 G=>?_;refine G.kN ?_;refine G.j_ λHn G=>?_;refine fF ?_
  have nx:∀x3 i gb E y,GB 331 2 x3 i gb->u i<=2*(k+1)->OC i->SH [] H2 y ((r1,331,[a_ bO z1,a_ bO z2])::(gb++[]))->
   iC Pg X (sub Dw [1,1,1,0,1,0,0,1,1,0,0,1,1]) (Jr v (J T 0 0) x3 (a_ bO z) (bG<|Z ⟨r1,0,T⟩) (J a n c) (W n) (W k) E y) (uk 1<|uQ Pg X (sub Dw [1,1,1,0,1,0,0,1,1,1]) K):=by
   intro x3 i gb E y U ac j G;subst hK;refine tm ?_;refine tl ?_;refine eD ?_;refine bN ?_;exact⟨m'-1,N,_,_,_,_,_,_,O,k+1,i,gb,_,O,O,N,U,N,j,fV (A:=[_]) G⟩
  refine aV (λhd=>?_) λhd=>?_
  .refine fF ?_;refine G.bS O O O N λH3 rx G=>?_;have G:=G.perm (L':=(rx,331,cr<|dN ⟨[a_ bO z,a_ bO<|p_ bO<|z1-1]⟩)::(gb++[(r1,331,[a_ bO z1,a_ bO z2])]))<|fA _<|Pz _ _;refine U.add G N O O N λv' y iX Y G aq=>?_;exact nx _ _ _ _ _ Y (by rw[aU];show u i+2<=_;omega) (j.app _ _)<|G.perm (Pz _ _).symm
  .exact nx _ _ _ _ _ U N j G
 .have ab:∀v' i gb y,GB 331 2 v' i gb->u i<=2*(n+1)->OC i->SH [] H2 y (gb++[])->∀K:C->R->Prop,(∀w V,jH H.bV (m+1) V w->Ext H V->K w V)->bM Pg X 226 [v'] y K:=by
   intro v' i gb y U ac j G K hk;obtain⟨a',n',c',rfl,ao,ad⟩:=U.fl G;refine dn (Gq (KM:=m+1) G.wf N ⟨a',n',c',i,O,ad,N,j⟩) ?_;rintro w V ⟨YD,an⟩;have:=G.ext.bV;exact hk w V (YD.le (ax _) N)<|(M.trans G.ext).trans an
  obtain rfl:k=n:=N;subst hK;refine bN ?_;refine tK (λhd=>?_) λhd=>?_
  .refine fF ?_;refine G.bS O O O N λH3 rx G=>?_;have⟨v',y,iX,e,Y,G,_⟩:=U.app (m:=0) (cx:=1) G N O O N N;refine ME.of e ?_;refine ab _ _ _ _ Y (by rw[aU];show u i+2<=_;omega) (j.app _ _) G _ λw V I B=>?_;refine rr ?_;exact⟨I,B⟩
  .refine ab _ _ _ _ U N j G _ λw V I B=>?_;refine rr ?_;exact⟨I,B⟩
end
section
variable{S:D Nat}{cs:Nat->Prop}
def TY(cs:Nat->Prop)(q:RC)(hx:D eF)(H:R)(k:Nat)(j:Bool)(w:C)(Q:R):Prop:=∃(i:Int)(b:Bool)(o:Nat)(M':D eF),w=fJ ⟨[vi i,aO b]⟩/\Rd cs q o Q M'/\SH (hx.map (·.1)) H Q M'/\k<=o/\(b=f->j=f->k<o)
def agn(q:RC)(k:Nat):Prop:=∀(cs:Nat->Prop) H hx d,(∀r,H.bV<=r->cs r)->Rd cs q k H hx->SH (hx.map (·.1)) H H hx->d<=40->bM Pg X 146 [pr q.rr,W d] H (TY cs q hx H k aA)
def agp(q:RC)(k:Nat):Prop:=∀(cs:Nat->Prop) H hx d,(∀r,H.bV<=r->cs r)->Rd cs q k H hx->SH (hx.map (·.1)) H H hx->d<=40->bM Pg X 174 [pr q.rr,W d] H (TY cs q hx H k aA)
def agq(q:RC)(k:Nat):Prop:=∃(kd:Int)(l:D C),El q.F 5 k=vi kd::l/\kd≠0
def agr(q:RC)(k:Nat):Prop:=∀(cs:Nat->Prop) H hx d,(∀r,H.bV<=r->cs r)->Rd cs q k H hx->SH (hx.map (·.1)) H H hx->d<=40->agq q k->bM Pg X 205 [pr q.rr,W d] H (TY cs q hx H k f)
def amd(q:RC)(k:Nat):Prop:=∀(cs:Nat->Prop) H hx d,(∀r,H.bV<=r->cs r)->Rd cs q k H hx->SH (hx.map (·.1)) H H hx->d<=40->agq q k->bM Pg X 227 [pr q.rr,W d] H (TY cs q hx H k f)
def agq.lt(h:agq q k)(i:Rd cs q k H hx):k+1<q.n:=by
 have⟨kd,l,I,B⟩:=h;have j:=i.le;have⟨kd',at',e,t,xa,xn,xc,h3,_,_,_,hz⟩:=i.tok j.1;rw[I]at h3
 have:kd=kd':=by
  have:=(kK h3).1;injection this
 have:k≠q.n-1:=λe=>B (by rw[this];exact hz e);omega
def Iq{rs:C}{at':Int}(ht:t.size<=1000000)(i:jH 0 20001 H rs):NoV cs H (dN ⟨[vi kd,J T 0 0,aJ t,rs,vi at']⟩):=
 ⟨_,rfl,kd,T,0,0,[],t,rs,at',rfl,jC.nil _ _ _ _ _,N,nofun,ht,i⟩
def Rd.n(h:Rd cs q k H hx):Rd cs q k (hN H) hx:=h
theorem ajr(y:Rd cs q kb Hb Mb)(o:SH (hx.map (·.1)) H Hb Mb)(hk:k<kb)(G:SH (Mb.map (·.1)) Hb Hc<|Lx++Mb)(I:NoV cs Hc v)(z:Int):
 bM Pg X 175 [pr q.rr,v,vi z] Hc λw Q=>∃(i:Int)(b:Bool),w=fJ ⟨[vi i,aO b]⟩/\TY cs q hx H k f w Q:=by
 have j:=G.perm<|aG (l₁:=Lx);have u:SH (hx.map (·.1)) H Hb (Mb++[]):=by rw[bF];exact o
 refine dn (EJ (y.on u G.ext) j I z) ?_;rintro w T ⟨i,b,E,rfl,_,B,M⟩;refine⟨i,b,O,i,b,kb,E,O,B,?_,N,λ_ _=>hk⟩;exact o.over (by simpa using fV (A:=Lx) ((j.frame M).perm aG))
theorem aie(y:Rd cs q kb Hb Mb)(o:SH (hx.map (·.1)) H Hb Mb)(hk:k<kb)(G:SH (Mb.map (·.1)) Hb Hc<|Lx++Mb)(I:NoV cs Hc v)(z:Int):
 bM Pg X 175 [pr q.rr,v,vi z] (hN Hc) λw Q=>∃(i:Int)(b:Bool),w=fJ ⟨[vi i,aO b]⟩/\TY cs q hx H k f w (hM Hc Q):=by
 have j:=G.perm<|aG (l₁:=Lx);have u:SH (hx.map (·.1)) H Hb (Mb++[]):=by rw[bF];exact o
 refine dn (EJ (y.on u G.ext).n j.Bt (v:=v) I z) ?_;rintro w T ⟨i,b,E,rfl,_,B,M⟩;refine⟨i,b,O,i,b,kb,E,O,B,?_,N,λ_ _=>hk⟩;exact o.over (by simpa using fV (A:=Lx) ((j.acE M).perm aG))
theorem ags(ih:∀k',k<k'->agn q k'):amd q k:=by
 intro cs H hx d hF hR G hd an;have a9:=an.lt hR;have a4:=hR.le;have⟨kd,at',e',t,xa,xn,xc,he,ha2,ht,hrs,hz⟩:=hR.tok a4.1
 have a7:kd≠0:=by
  have⟨kd',l,I,B⟩:=an;rw[he]at I;have:=(kK I).1;injection this with _ h3
  omega
 have a5:=hR.ty (L:=[]) (by rw[bF];exact G);have ao:SH (hx.map (·.1)) H H (hx++[]):=by rw[bF];exact G
 refine GV [0,1,4,5,6,7,8,9,16] ?_;refine hR.bV ao λH1 Y V U j=>?_;rw[show min (k+1) (q.n-1)=k+1 by omega]at V;rw[he];have ap:jH 0 20000 H1 (J xa xn xc):=hrs.stay j.ext λr hr=>.inr (a5 r hr).2.1;have a8:=j;have aq:=V.ty (L:=[]) U;have G:=U.own;refine G.jM λH2 rb G=>G.j_ λH3 G=>?_;have G:SH (Y.map (·.1)) H1 H3 ((rb,221,[vi kd,W at',W e',aJ t,J xa xn xc])::Y):=G;have ar:∀H3,pN (Y.map (·.1)) H1 H3->jH 0 20000 H3 (J xa xn xc):=λH3 M=>ap.stay M λr hr=>.inr (aq r hr).2.1;refine fF ?_
 have Ng:∀(b:Bool) E,Ci E 17=aO b->iC Pg X (sub AF [1,1,0,1,0,1]) (Fy (pr q.rr) (W d) (a_ bC 0) (aO aA) (bG<|Z ⟨rb,0,T⟩) top top top (vi kd) E H3) (uk 0<|uQ Pg X (sub AF [1,1,1])<|jO Pg [.tmp 4,.tmp 5]<|TY cs q hx H k f):=by
  intro b E hb;refine tl ?_;rw[hb];refine sD (λhb=>?_) λhb=>?_
  .refine fF ?_;refine dn (ajr (Lx:=[_]) V j (dI k) G (Iq ht<|jH.nil _ _ _) _) ?_;rintro w H4 ⟨i,b,rfl,hw⟩;refine bN ?_;exact rr<|hw
  refine aV (λhc=>?_) λhc=>?_
  .refine fF ?_;refine dn (ajr (Lx:=[_]) V j (dI k) G (Iq ht<|jH.nil _ _ _) _) ?_;rintro w H4 ⟨i,b,rfl,hw⟩;refine bN ?_;exact rr<|hw
  refine aV (λhc=>?_) λhc=>?_
  .refine fF ?_;refine dn (ajr (Lx:=[_]) V j (dI k) G (Iq (t:=⟨#[]⟩) (bD _)<|(ar _ G.ext).le N<|ax _) _) ?_;rintro w H4 ⟨i,b,rfl,hw⟩;refine bN ?_;exact rr<|hw
  refine aV (λhc=>?_) λhc=>?_
  .refine dn (ady<|oC _) ?_;rintro v H4 ⟨hv,ad⟩;obtain⟨ya,yn,yc,ba,rfl,a6⟩:=id hv;have G:=G.oD ad;refine fF ?_;refine dn (aie (Lx:=[_]) V j (dI k) G (Iq (t:=⟨#[]⟩) (bD _)<|hv.le N<|bD _) _) ?_;rintro w H5 ⟨i,b,rfl,hw⟩;refine G.kN ?_;simp only[fP ad,eZ];rcases xu (hM H3 H4) H5 with e|e<;>rw[e]<;>apply Gc (a:=rb) yX fQ fQ<;>(refine rr ?_;exact hw)
  refine aV (λhc=>?_) λhc=>?_
  .have xG:=G.perm (aG (l₁:=[_]));refine(V.on U G.ext).Q3 xG 0 N λH4 IX xG ad=>?_;rw[show min (k+1+0) (q.n-1)=k+1 by omega];have⟨kd2,at2,e2,t2,ya,yn,yc,he2,_,_,_,_⟩:=IX.tok (i:=k+1) N;rw[he2];have G:=xG;refine G.jM λH5 rc G=>G.j_ λH6 G=>?_;have G:SH (Y.map (·.1)) H1 H6 ((rc,221,[vi kd2,W at2,W e2,aJ t2,J ya yn yc])::(Y++[(rb,221,[vi kd,W at',W e',aJ t,J xa xn xc])])):=G
   have xJ:SH (Y.map (·.1)) H1 H6 (Y++[(rb,221,[vi kd,W at',W e',aJ t,J xa xn xc]),(rc,221,[vi kd2,W at2,W e2,aJ t2,J ya yn yc])]):=by
    have:=G.perm<|aG (l₁:=[_]);have e:=cK Y [((rb,221,[vi kd,W at',W e',aJ t,J xa xn xc]):eF)] [((rc,221,[vi kd2,W at2,W e2,aJ t2,J ya yn yc]):eF)];exact this.cast e
   refine dn (Ju (V.on U G.ext) xJ 4 jg) ?_;rintro v H7 ⟨b,k2,M2,rfl,YE,Jv,a2,aw⟩;have u:=xJ.frame Jv;have am:=u.own;have al:SH (hx.map (·.1)) H H7 M2:=j.over<|fV (A:=[_,_])<|u.perm aG;cases b with
   |false=>
    refine bN ?_;refine(show∀{A h2:Prop},A->yN (Z !aA) A h2 fromλh=>h)<|rr ?_;exact⟨0,aA,k2,M2,O,YE,al,N,λh=>by cases h⟩
   |true=>
    have a3:k2=k+1+1:=aw O;refine bN ?_;refine(show∀{A h2:Prop},h2->yN (Z !f) A h2 fromλh=>h) ?_;have bc:=u.bk (rc,221,[vi kd2,W at2,W e2,aJ t2,J ya yn yc]) gB;have bb:=u.bk (rb,221,[vi kd,W at',W e',aJ t,J xa xn xc]) gB;have lc:=(u.lo (rc,221,[vi kd2,W at2,W e2,aJ t2,J ya yn yc]) gB).2;have lb:=(u.lo (rb,221,[vi kd,W at',W e',aJ t,J xa xn xc]) gB).2
    have aE:rb≠rc:=by
     have:=G.apart (A:=[_]) (x:=(rc,221,[vi kd2,W at2,W e2,aJ t2,J ya yn yc])) (y:=(rb,221,[vi kd,W at',W e',aJ t,J xa xn xc])) (aK ..) gB;exact this.symm
    have⟨_,_,_,_,_,_,_,he3,_,_,ame,_⟩:=YE.tok (i:=k+1) N;rw[he2]at he3;have a1:=(kK (kK (kK (kK (kK he3).2).2).2).2).1;rw[<-a1]at ame;have G:=gM am.wf;refine G.Jk (bc.cell (o:=4) O) lc ?_;refine G.kN ?_;refine dn (adB (oC _) (m:=20000) N ame.i) ?_;rintro v H8 ⟨hv,z8⟩;obtain⟨za,zn,zc,bd,rfl,a6⟩:=id hv;have G:=G.oD z8;refine G.Jk (bb.cell (o:=1) O) lb ?_;refine fF ?_;refine G.Jk (bc.cell (o:=1) O) lc ?_;refine G.kN ?_;refine dn (aie (Lx:=[]) YE al (show k<k2 by omega) (am.oD z8) (Iq (t:=⟨#[]⟩) (bD _)<|hv.le N<|bD _) _) ?_;rintro w H9 ⟨i,b,rfl,hw⟩;refine G.kN ?_;simp only[fP z8,eZ];rcases xu (hM H7 H8) H9 with e|e<;>rw[e]<;>apply nE (a:=rb) (b:=rc) aE yX fQ fQ<;>(refine rr ?_;exact hw)
  .refine tl ?_;have xG:=G.perm<|aG (l₁:=[_]);refine G.kN ?_;refine aV (λa0=>?_) λa0=>?_
   .refine G.qE<|dn (Cv (V.on U G.ext) xG _ _) ?_;rintro w H5 ⟨rfl,M2,OD,ac⟩;refine rr ?_;exact⟨0,aA,k+1,M2,O,OD,j.over<|fV (A:=[_])<|(xG.frame ac).perm aG,N,λh=>by cases h⟩
   .rw[gm N N];refine bN ?_;refine dn (ih (k+1) N cs H3 Y (d+1) (λr hr=>hF r (by have:=j.ext.bV;have:=G.ext.bV;omega)) (V.on U G.ext) xG.own N) ?_;rintro w H5 ⟨i,b,k2,M2,rfl,OD,ac,a2,_⟩;have ab:=xG.frame ac;refine bN ?_;cases b with
    |false=>
     refine(show∀{A h2:Prop},h2->yN (Z aA) A h2 fromλh=>h)<|rr ?_;exact⟨i,aA,k2,M2,O,OD,j.over<|fV (A:=[_])<|ab.perm aG,N,λh=>by cases h⟩
    |true=>
     refine(show∀{A h2:Prop},A->yN (Z f) A h2 fromλh=>h)<|dn (Ju OD ab 9 jg) ?_;rintro w H6 ⟨b,k3,M3,rfl,EK,xJ,a3,_⟩;refine rr ?_;exact⟨i,b,k3,M3,O,EK,j.over<|fV (A:=[_])<|(ab.frame xJ).perm aG,N,λ_ _=>N⟩
 refine aV (λhc=>?_) λhc=>?_
 .exact Ng _ _ (by simp only[yP];rfl)
 .exact Ng _ _ (by simp only[yP];rfl)
end
section
variable{S:D Nat}{cs:Nat->Prop}
def Rd.mem(h:Rd cs q k H hx):(q.ra,3,[W k])∈hx:=by
 obtain⟨B,i,o,y,u,j,sc,E,nr,nn,rfl,_⟩:=h;simp
def Q5{n:Nat}{at':Int}(i:jC cs 3 H a n 1 ks)(j:n<=20001)(hk:∀x∈ks,∃z:Int,x=vi z):NoV cs H (dN ⟨[vi kd,J a n c,aJ ⟨#[]⟩,J T 0 0,vi at']⟩):=
 ⟨_,rfl,kd,a,n,c,ks,⟨#[]⟩,_,at',rfl,i,j,hk,bD _,jH.nil _ _ _⟩
def We(ha:amd q k):agr q k:=by
 intro cs H hx d hF hR G hd ab;have ar:=ab.lt hR;refine lF [0,1,4,5,6,7,8,22] ?_;refine dn (ha cs H hx d hF hR G hd ab) ?_;rintro w H1 ⟨i,b,k1,y,rfl,BA,U,Y,al⟩;refine bN ?_;cases b with
 |false=>
  refine(show∀{A h2:Prop},A->yN (Z !aA) A h2 fromλh=>h) ?_;refine rr ?_;exact⟨0,aA,k1,y,O,BA,U,Y,λh=>by cases h⟩
 |true=>
  have ao:=al O O;refine(show∀{A h2:Prop},h2->yN (Z !f) A h2 fromλh=>h) ?_;have ac:SH (hx.map (·.1)) H H1 (y++[]):=by rw[bF];exact U
  refine BA.Q3 ac 0 N λH2 o u aw=>?_;have ap:=o.le;rw[show min (k1+0) (q.n-1)=k1 by omega];have⟨kd,at',e',t,xa,xn,xc,he,_⟩:=o.tok ap.1;rw[he,Gt]
  have B:∀(z:Int) E,iC Pg X (sub DK [1,1,1,1,1]) (Dk (pr q.rr) (W d) (a_ bC 0) (aO aA) (vi i) (aO f) (vi z) (vi kd) E H2) (jO Pg [.tmp 4,.tmp 5]<|TY cs q hx H k f):=by
   intro z E;have KT:SH (hx.map (·.1)) H H2 y:=by rw[<-bF y];exact u
   have G:=u.own;refine tl ?_;refine G.bS O O O N λH3 I G=>?_;have G:SH (y.map (·.1)) H2 H3 ((I,3,[vi i])::y):=G
   have an:H.bV<=I:=by
    rcases(G.lo (I,3,[vi i])<|aK ..).1 with h|h
    .exfalso;have⟨e,he,e1⟩:=bT.1 h;exact G.apart (A:=[_]) (aK ..) he e1.symm
    .have:=KT.ext.bV;omega
   refine bN ?_;refine PU.b5 O<|bN ?_;have wu:=G.perm<|aG (l₁:=[_]);have Gs:=o.on u G.ext;refine Gs.bV wu λH4 M4 IX xG aE=>?_;rw[he,Wd];refine bN ?_;have aq:cs I:=hF I an;have am:jC cs 3 H4 (Z ⟨I,0,T⟩) 1 1 [vi i]:=jC.one xG (dL _<|aS.2 O) O aq;refine dn (EJ IX xG (Q5 am N λx M=>⟨i,om M⟩) _) ?_;rintro w H5 ⟨j,b,M5,rfl,_,OD,ad⟩;refine bN ?_;refine rr ?_;refine⟨j,b,_,M5,O,OD,?_,N,λ_ _=>N⟩;exact KT.over<|fV (A:=[_])<|(xG.frame ad).perm aG
  refine tJ (λV=>?_) λV=>?_
  .exact B _ _
  refine aV (λV=>?_) λV=>?_
  .exact B _ _
  refine aV (λV=>?_) λV=>?_
  .exact B _ _
  refine rr ?_;refine⟨i,f,k1,y,O,o,?_,Y,λ_ _=>ao⟩
  rwa [bF]at u
def Rd.stay{S':D Nat}(h:Rd cs q k H hx)(M:pN S' H Q)(hk:∀r∈S',(¬cs r\/¬zW H r 3)/\¬zW H r 331/\¬zW H r 221):Rd cs q k Q hx:=by
 have⟨rv,rcs,gr,nv,jw,gn,sc,sa,nr,nn,h0,I,B,h3,h4,h5,h6,h7,h8,h9,h10,DT⟩:=h;exact⟨rv,rcs,gr,nv,jw,gn,sc,sa,nr,nn,h0,I,B.st M (λr j=>.inr (hk r j).2)<|ax _,h3,h4,h5,h6,h7,h8,h9,λi o=>(h10 i o).st M λr j=>⟨(hk r j).1,(hk r j).2.1⟩,DT⟩
abbrev Fo(cs:Nat->Prop)(gb:D eF):Nat->Prop:=λr=>cs r/\r∉gb.map (·.1)
def adC{x:C}(T:¬cs q.ra)(V:GB 3 1 x ks gb)(G:SH S H0 H<|hx++gb)(Y:Rd (Fo cs gb) q k H hx)(hl:u ks<=1000000)(z:Int)(kk:∀w v' i iX,GB 3 1 v' (ks++[vi z]) iX->SH S H0 i (hx++iX)->Rd (Fo cs iX) q k i hx->(∀e∈iX,e.1∈gb.map (·.1)\/H.bV<=e.1)->K w v' i):
 ME (bS 3 [a_ bC 0] 1 1 [(0,vi z)] H) λw U=>ME (Ch 3 1 x w U) (K w):=by
 have B:=G.perm<|aG (l₁:=hx);have X:SH (gb.map (·.1)) H H (gb++[]):=by rw[bF];exact B.own
 have j:∀ty:aI,((3:Nat)==ty)=aA->∀r∈gb.map (·.1),¬zW H r ty:=λty ht=>B.own.Az<|V.all ht;refine X.bS O O O N λU rx I=>?_;have⟨v',i,iX,e1,hg',y,_⟩:=V.app (m:=0) (cx:=1) I N O O N N;refine ME.of e1 ?_;rw[bF]at y;have W:Rd (λr=>Fo cs gb r/\r<H.bV) q k H hx:=Y.wk (λr o h=>⟨h,o⟩) λh=>T h.1.1;have E:=W.stay y.ext λr o=>⟨.inl λh=>h.1.2 o,j 331 O r o,j 221 O r o⟩;refine kk _ v' i iX hg' ((B.frame y).perm aG) (E.wk (λr _ h=>⟨h.1.1,λhm=>?_⟩) λh=>T h.1) λe M=>(y.lo e M).1;have⟨e,M,e1⟩:=bT.1 hm;rcases(y.lo e M).1 with h3|h3
 .exact h.1.2 (by rw[<-e1];exact h3)
 .have:=h.2;omega
theorem row_of(he:∀k',k<=k'->agr q k'):agp q k:=by
 intro cs H hx d hF hR G hd;have a3:=hR.le
 have DT:¬cs q.ra:=by
  have⟨_,_,_,_,_,_,_,_,_,_,_,_,_,_,_,_,_,_,_,_,_,h⟩:=hR;exact h
 refine lF [0,1,4,5,6,7,8] ?_;refine YA 4 5 6 7 8 (h1:=λm x4 x5 x6 x7 x8 Q=>∃(k':Nat)(M':D eF)(ks:D C)(gb:D eF),x4=vi 0/\x5=aO aA/\k'+m=q.n/\k<=k'/\Rd (Fo cs gb) q k' Q M'/\SH (hx.map (·.1)) H Q (M'++gb)/\GB 3 1 x6 ks gb/\u ks<=k'-k/\(∀x∈ks,∃z:Int,x=vi z)/\∀e∈gb,H.bV<=e.1) ?_ (q.n-k) ⟨k,hx,[],[],rfl,rfl,N,ax _,hR.wk (λr _ h=>⟨h,gB⟩) λh=>DT h.1,by rw[bF];exact G,GB.nil _ _,bD _,nofun,nofun⟩;clear hR G;rintro m x4 x5 x6 x7 x8 E Q ⟨y,M1,ks,gb,rfl,rfl,a2,aq,BA,al,hg,a1,Y,X⟩;have ac:=BA.le;refine tp ?_;refine BA.Q3 al 0 N λH2 U V a4=>?_;rw[show min (y+0) (q.n-1)=y by omega];have⟨kd,at',e',t,xa,xn,xc,hel,_⟩:=U.tok ac.1;rw[hel];refine dn (TX V.wf kd _ _ _ _ O) ?_;rintro w H3 ⟨⟨b,rfl,hb⟩,ab⟩;have Gs:=U.ex ab;have I:=V.call ab;refine sD (λW=>?_) λW=>?_
 .have ad:∀r,H3.bV<=r->Fo cs gb r:=λr hr=>⟨hF r (by have:=I.ext.bV;omega),λhm=>by
   have⟨e,he,e1⟩:=bT.1 hm;have:=(I.lo e<|dL _ he).2;omega⟩
  refine dn (he y aq _ H3 M1 d ad Gs I.own hd ⟨kd,_,hel,hb W⟩) ?_;rintro w H4 ⟨i,b,k2,M2,rfl,T,xG,aE,am⟩;have Wh:=I.frame xG;refine bN ?_;cases b with
  |false=>
   refine(show∀{A h2:Prop},A->yN (Z !aA) A h2 fromλh=>h) ?_;refine rr ?_;exact⟨0,aA,k2,M2,O,T.wk (λr _ h=>h.1) DT,fV (A:=gb)<|Wh.perm aG,N,λh=>by cases h⟩
  |true=>
   have a0:=am O O;have ar:=T.le;refine(show∀{A h2:Prop},h2->yN (Z !f) A h2 fromλh=>h)<|adC DT hg Wh T N i λw v' H6 iX ao xJ EK ap=>⟨q.n-k2,N,_,_,_,_,_,_,_,rfl,k2,M2,ks++[vi i],iX,rfl,rfl,N,N,EK,xJ,ao,by rw[aU];show u ks+1<=_;omega,λx M=>?_,λe o=>?_⟩
   .rcases cB.1 M with h|h
    .exact Y x h
    .exact⟨i,om h⟩
   .rcases ap e o with h|h
    .have⟨e2,B,h3⟩:=bT.1 h;rw[<-h3];exact X e2 B
    .have:=Wh.ext.bV;omega
 .refine tl ?_;obtain⟨a,n,c,rfl,hn,an⟩:=hg.KE (cs:=cs) (I.perm<|aG (l₁:=M1)) λe o=>hF _<|X e o;refine PU.b5 O<|bN ?_;refine Gs.Q3 I 0 N λH4 T xG aw=>?_;rw[show min (y+0) (q.n-1)=y by omega,hel,Wd];refine bN ?_;have OD:Rd cs q y H4 M1:=T.wk (λr _ h=>h.1) DT;refine dn (EJ OD xG (Q5 (an.ex aw) N Y) _) ?_;rintro w H5 ⟨j,b,M5,rfl,_,EK,xJ⟩;refine bN ?_;refine rr ?_;exact⟨j,b,y,M5,O,EK,fV (A:=gb)<|(xG.frame xJ).perm aG,N,λ_ h=>by cases h⟩
theorem Wi(he:∀k',k<=k'->agp q k'):agn q k:=by
 intro cs H hx d hF hR G hd;have a6:=hR.le
 have DT:¬cs q.ra:=by
  have⟨_,_,_,_,_,_,_,_,_,_,_,_,_,_,_,_,_,_,_,_,_,h⟩:=hR;exact h
 refine lF [0,1,4,5,6,7,8] ?_;refine YA 4 5 6 7 8 (h1:=λm x4 x5 x6 x7 x8 Q=>∃(k':Nat)(M':D eF)(ks:D C)(gb:D eF),x4=vi 0/\x5=aO aA/\k'+m=q.n/\k<=k'/\Rd (Fo cs gb) q k' Q M'/\SH (hx.map (·.1)) H Q (M'++gb)/\GB 3 1 x6 ks gb/\u ks<=k'-k/\(∀x∈ks,∃z:Int,x=vi z)/\∀e∈gb,H.bV<=e.1) ?_ (q.n-k) ⟨k,hx,[],[],rfl,rfl,N,ax _,hR.wk (λr _ h=>⟨h,gB⟩) λh=>DT h.1,by rw[bF];exact G,GB.nil _ _,bD _,nofun,nofun⟩;clear hR G;rintro m x4 x5 x6 x7 x8 E Q ⟨k1,M1,ks,gb,rfl,rfl,a5,aw,BA,U,hg,a4,aE,aq⟩;have a0:=BA.le
 have ao:∀r,Q.bV<=r->Fo cs gb r:=λr hr=>⟨hF r (by have:=U.ext.bV;omega),λhm=>by
  have⟨e,he,e1⟩:=bT.1 hm;have:=(U.lo e<|dL _ he).2;omega⟩
 refine tl ?_;refine dn (he k1 aw _ Q M1 d ao BA U.own hd) ?_;rintro w H4 ⟨i,b,y,M2,rfl,IX,xG,a2,a1⟩;have Wh:=U.frame xG;have ac:=IX.le;refine bN ?_;cases b with
 |false=>
  refine(show∀{A h2:Prop},A->yN (Z !aA) A h2 fromλh=>h) ?_;refine rr ?_;exact⟨0,aA,y,M2,O,IX.wk (λr _ h=>h.1) DT,fV (A:=gb)<|Wh.perm aG,N,λh=>by cases h⟩
 |true=>
  refine(show∀{A h2:Prop},h2->yN (Z !f) A h2 fromλh=>h)<|adC DT hg Wh IX N i λw v' H6 iX al xJ EK ar=>?_
  have W:∀e∈iX,H.bV<=e.1:=λe Y=>by
   rcases ar e Y with h|h
   .have⟨e2,B,h3⟩:=bT.1 h;rw[<-h3];exact aq e2 B
   .have:=Wh.ext.bV;omega
  have X:∀x∈ks++[vi i],∃z:Int,x=vi z:=λx M=>by
   rcases cB.1 M with h|h
   .exact aE x h
   .exact⟨i,om h⟩
  have ab:u (ks++[vi i])=u ks+1:=gB;refine EK.Q3 xJ 0 N λH7 YE Jv a7=>?_;rw[show min (y+0) (q.n-1)=y by omega];have⟨kd,at',e',t,xa,xn,xc,hel,_,_,_,hz⟩:=YE.tok ac.1;rw[hel,Gt];refine yl (λhc=>?_) λhc=>?_
  .refine tl ?_;obtain⟨a,n,c,rfl,hn,ad⟩:=al.KE (cs:=cs) (Jv.perm<|aG (l₁:=M2)) λe Y=>hF _<|W e Y;refine tJ (λI=>?_) λI=>?_
   .have I:n=1:=N;subst I;have⟨r,o,e,hr,hrd,_⟩:=ad.1.idx (c:=c) N (show 0<1 by omega);have⟨z,hz'⟩:=X (ks++[vi i])[0]<|bH _;have e:BS 1 (J a 1 c) (a_ bC 0)=_:=e;rw[e];refine bN ?_;refine iV (hrd 0 (vi z) N<|by rw[av N,<-hz']) ?_;refine rr ?_;exact⟨z,f,y,M2,O,YE.wk (λr _ h=>h.1) DT,fV (A:=iX)<|Jv.perm aG,N,λ_ h=>by cases h⟩
   .refine PU.b5 O<|bN ?_;refine YE.Q3 Jv 0 N λH8 T V z8=>?_;rw[show min (y+0) (q.n-1)=y by omega,hel,Wd];refine bN ?_;have ap:Rd cs q y H8 M2:=T.wk (λr _ h=>h.1) DT;refine dn (EJ ap V (Q5 (ad.ex z8) N X) _) ?_;rintro w H9 ⟨j,b,M5,rfl,_,an,am⟩;refine bN ?_;refine rr ?_;exact⟨j,b,y,M5,O,an,fV (A:=iX)<|(V.frame am).perm aG,N,λ_ h=>by cases h⟩
  .have a3:y≠q.n-1:=λe=>by have:=hz e;omega
   refine YE.bV Jv λH8 M8 T V z8=>?_;rw[show min (y+1) (q.n-1)=y+1 by omega]at T;refine⟨q.n-(y+1),N,_,_,_,_,_,_,_,O,y+1,M8,ks++[vi i],iX,O,O,N,N,T,V,al,by rw[ab];omega,X,W⟩
def ajv:∀(n k:Nat),q.n<=k+n->agn q k/\agp q k/\agr q k:=by
 intro n
 induction n with
 |zero=>
  intro k E;have o:∀i,k<=i->∀(cs:Nat->Prop) H hx,¬Rd cs q i H hx:=λi h cs H hx j=>by have:=j.le;omega
  exact⟨λcs H hx d _ j=>absurd j<|o k (ax _) _ _ _,λcs H hx d _ j=>absurd j<|o k (ax _) _ _ _,λcs H hx d _ j=>absurd j<|o k (ax _) _ _ _⟩
 |succ n B=>
  intro k E;have u:agr q k:=We<|ags λi h=>(B i N).1
  have y:agp q k:=row_of λi h=>by
   rcases Nat.eq_or_lt_of_le h with rfl|h
   .exact u
   .exact(B i N).2.2
  refine⟨Wi λi h=>?_,y,u⟩;rcases Nat.eq_or_lt_of_le h with rfl|h
  .exact y
  .exact(B i N).2.1
def Wj(q:RC)(k:Nat):agn q k:=(ajv (q.n) k N).1
end
section
variable{S:D Nat}{cs:Nat->Prop}
theorem _root_.Go.Ae.SH.og{ty:aI}{z:D C}{n:Nat}(G:SH S H0 H L)(hl:u (cr v)=n)(j:u z=n)(hk:all' gI (cr v)=f)(k:∀H2 r,SH S H0 H2 ((r,ty,cr v)::L)->Ext H H2->K (bG<|Z ⟨r,0,T⟩) undef H2):ME (Go.Ae.jM ty z H) λp H1=>ME (Go.Ae.GU n p v H1) λaa H2=>K p aa H2:=by
 have i:=gM G.wf;refine i.jM λH1 r i=>i.st 0 O hl N hk λH2 i=>?_;have i:SH [] H H2 [(r,ty,splice z 0<|cr v)]:=i;rw[oF _ _ N]at i;exact k H2 r (SH.frame (hx:=[]) (L:=L) G i) i.ext
def Rd.st(U:Rd cs q k H hx){ty:aI}(G:SH S H0 H<|(b,ty,F)::(hx++L))(N:(ty==3)=aA)(B:(ty==331)=aA)(y:(ty==221)=aA){o n:Nat}(hl:u (cr v)=n)(V:o+n<=u F)(hk:all' gI (cr v)=f){K:C->R->Prop}(kk:∀H1,Rd cs q k H1 hx->SH S H0 H1 ((b,ty,splice F o<|cr v)::(hx++L))->H.bV<=H1.bV->K undef H1):ME (GU n (bG<|Z ⟨b,o,T⟩) v H) K:=by
 have i:SH [b] H H [(b,ty,F)]:=SH.own (hx:=[(b,ty,F)]) G;have E:zW H b ty:=(i.bk (b,ty,F)<|aS.2 O).Gb;have j:∀t:aI,(ty==t)=aA->¬zW H b t:=λt M h=>by rw[E.one h]at M;simp at M
 refine i.st 0 O hl V hk λH1 i=>?_;have i:SH [b] H H1 [(b,ty,splice F o<|cr v)]:=i;refine kk H1 (U.stay i.ext λr I=>?_) (SH.frame (hx:=[(b,ty,F)]) G i) i.ext.bV;rw[aS]at I;subst I;exact⟨.inr<|j 3 N,j 331 B,j 221 y⟩
def Rd.rules(M:Rd cs q k H hx)(G:SH S H0 H<|hx++L):(∃a c,H.cell q.rr 2=Z (J a q.nu c))/\q.rr<H.bV:=by
 obtain⟨rv,U,Y,nv,jw,X,sc,sa,nr,nn,rfl,I,B,u,y,E,h6,h7,h8,h9,o,V⟩:=M;have j:=G.get 3 O;refine⟨?_,(G.lo _<|aT (i:=3) O).2⟩;subst E;rcases u with⟨rfl,rfl,_⟩|⟨r,n,W,rfl,hn,_⟩
 .have:q.nu=0:=by simp at y;omega
  rw[this];exact⟨T,0,j.cell O⟩
 .have:n=q.nu:=N;subst this;exact⟨_,_,j.cell O⟩
def _root_.Go.Ae.SH.inP{P:D eF}(G:SH S H0 H<|P++(hx++L)):SH S H0 H (hx++(P++L)):=G.perm (by
 rw[<-cK,<-cK];exact rG _ aG)
def _root_.Go.Ae.SH.Q6{P:D eF}(G:SH S H0 H<|P++(hx++L))(h:SH (hx.map (·.1)) H Q M'):SH S H0 Q (P++(M'++L)):=(G.inP.frame h).inP
def Rd.TZ{P:D eF}(u:Rd cs q k H hx)(G:SH S H0 H<|P++(hx++L))(j:Nat)(y:j<=1000)(h:∀Q,Rd cs q k Q hx->SH S H0 Q (P++(hx++L))->Ext H Q->K (qV q.rt q.ra) (dN ⟨El q.F 5<|min (k+j)<|q.n-1⟩) Q):ME (yh T (bG<|Z ⟨q.rr,0,T⟩) H) λv H1=>qh Pg X (Oo v) [W j] H1 (K v):=
 u.Q3 G.inP j y λQ i o M=>h Q i o.inP M
def Rd.YF{P:D eF}(o:Rd cs q k H hx)(G:SH S H0 H<|P++(hx++L))(h:∀Q M',Rd cs q (min (k+1)<|q.n-1) Q M'->SH S H0 Q (P++(M'++L))->H.bV<=Q.bV->K (zM q.rp q.ra q.rt) (dN ⟨El q.F 5 k⟩) Q):ME (yh T (bG<|Z ⟨q.rr,1,T⟩) H) λv H1=>qh Pg X (Oo v) [] H1 (K v):=
 o.bV G.inP λQ M' i j M=>h Q M' i j.inP M.ext.bV
def adD{P:D eF}(o:Rd cs q k H hx)(G:SH S H0 H<|P++(hx++L))(cd at':Int):bM Pg X 144 [pr q.rr,vi cd,vi at'] H λv Q=>v=aO aA/\∃M',Rd cs q k Q M'/\SH S H0 Q (P++(M'++L)):=
 dn (Cv o G.inP cd at') λv Q ⟨e,M',i,j⟩=>⟨e,M',i,G.Q6 j⟩
def adE{P:D eF}(o:Rd cs q k H hx)(G:SH S H0 H<|P++(hx++L)):bM Pg X 143 [pr q.rr] H λv Q=>v=aO aA/\∃M',Rd cs q k Q M'/\SH S H0 Q (P++(M'++L)):=
 dn (Nk o G.inP) λv Q ⟨e,M',i,j⟩=>⟨e,M',i,G.Q6 j⟩
def aif{P:D eF}(u:Rd cs q k H hx)(G:SH S H0 H<|P++(hx++L))(kd:Int)(o:kd≠0):bM Pg X 145 [pr q.rr,vi kd] H λv Q=>∃(b:Bool)(k':Nat)(M':D eF),v=aO b/\Rd cs q k' Q M'/\SH S H0 Q (P++(M'++L))/\k<=k'/\(b=f->k'=k+1)/\H.bV<=Q.bV:=
 dn (Ju u G.inP kd o) λv Q ⟨b,k',M',e,j,i,I,B⟩=>⟨b,k',M',e,j,G.Q6 i,I,B,i.ext.bV⟩
abbrev yj(nm:aZ)(aa ay w:Bool)(ch root at':Int):D C:=[aJ nm,aO aa,aO ay,aO w,vi ch,vi root,vi at']
def Wl{ru:Nat}{ay:Bool}{at':Int}(hR:Rd cs q k H hx)(G:SH S H0 H<|(ru,234,yj nm aa ay w ch root at')::(hx++L)):
 bM Pg X 147 [pr q.rr,pr ru] H λv Q=>∃(b w':Bool)(o:Int)(k':Nat)(M':D eF),v=aO b/\Rd cs q k' Q M'/\k<=k'/\SH S H0 Q ((ru,234,yj nm aa ay w' o root at')::(M'++L)):=by
 have an:=hR.le;refine GV [0,1,4,5,40] ?_;refine hR.TZ (P:=[_]) G 0 N λH1 BA V aq=>?_;rw[show min (k+0) (q.n-1)=k by omega];have⟨kd,Q7,e1,t1,xa,xn,xc,he,_,_,_,hz⟩:=BA.tok an.1;rw[he,Gt];refine yl (λhc=>?_) λhc=>?_
 .refine rr ?_;exact⟨f,w,ch,k,hx,O,BA,ax _,V⟩
 refine BA.YF (P:=[_]) V λH2 M2 U ab _=>?_;have ap:=U.le;refine U.TZ (P:=[_]) ab 0 N λH3 Gs wu ar=>?_;have⟨kd2,at2,e2,t2,ya,yn,yc,he2,_,ht2,_,_⟩:=Gs.tok (i:=min (min (k+1) (q.n-1)+0)<|q.n-1) N;rw[he2];refine wu.og O O O λH4 rt xG ao=>?_;have IX:=Gs.ex ao;have G:SH S H0 H4 ((rt,221,[vi kd2,W at2,W e2,aJ t2,J ya yn yc])::(ru,234,yj nm aa ay w ch root at')::(M2++L)):=xG;refine fF ?_;refine dn (Gu G.wf _ _ _ _ _ O) ?_;rintro v H5 ⟨rfl,Y⟩;have M:=IX.ex Y;have G:=G.call Y;refine G.kN ?_;refine ig (λhb=>?_) λhb=>?_
 .refine dn (adE (P:=[_,_]) M G) ?_;rintro v B ⟨rfl,I,j,u⟩;refine rr ?_;exact⟨aA,w,ch,_,I,O,j,N,fV (A:=[_]) u⟩
 have T:∀cd p:Int,bM Pg X 144 [pr q.rr,vi cd,vi p] H5 λv Q=>v=aO aA/\∃M',Rd cs q (min (k+1)<|q.n-1) Q M'/\SH S H0 Q ((ru,234,yj nm aa ay w ch root at')::(M'++L)):=λcd p=>by
  refine dn (adD (P:=[_,_]) M G cd p) ?_;rintro v B ⟨rfl,I,j,u⟩;exact⟨O,I,j,fV (A:=[_]) u⟩
 have E:∀(B:R)(w':Bool)(o:Int) y,Rd cs q (min (k+1)<|q.n-1) B M2->SH S H0 B ((ru,234,yj nm aa ay w' o root at')::(M2++L))->iC Pg X (sub Fw [1,1,1,1,1,1,1]) (EB (pr q.rr) (pr ru) (aO aA) (pr rt) (aJ t2) y B) (jO Pg [.tmp 4] λv Q=>∃(b w':Bool)(o:Int)(k':Nat)(M':D eF),v=aO b/\Rd cs q k' Q M'/\k<=k'/\SH S H0 Q ((ru,234,yj nm aa ay w' o root at')::(M'++L))):=by
  intro B w' o y j u;refine tp ?_;refine j.YF (P:=[_]) u λH7 M7 YE Jv _=>rr ?_;exact⟨f,w',o,_,M7,O,YE,N,Jv⟩
 refine QN (λac=>?_) λac=>?_
 .refine G.qE<|dn (T _ _) ?_;rintro v B ⟨rfl,I,j,u⟩;refine rr ?_;exact⟨aA,w,ch,_,I,O,j,N,u⟩
 refine QN (λad=>?_) λad=>?_
 .exact M.st (fV (A:=[_]) G) O O O O (aF O) O λB j u _=>E _ _ _ _ j u
 refine ig (λal=>?_) λal=>?_
 .exact M.st (fV (A:=[_]) G) O O O O (aF O) O λB j u _=>E _ _ _ _ j u
 refine ig (λam=>?_) λam=>?_
 .exact M.st (fV (A:=[_]) G) O O O O (aF O) O λB j u _=>E _ _ _ _ j u
 refine G.qE<|dn (T _ _) ?_;rintro v B ⟨rfl,I,j,u⟩;refine rr ?_;exact⟨aA,w,ch,_,I,O,j,N,u⟩
end
section
variable{S:D Nat}{cs:Nat->Prop}
def _root_.Go.Ae.SH.agt{ty:aI}{z:D C}{K:C->R->Prop}(G:SH S H0 H L)(k:∀H2 r,SH S H0 H2 ((r,ty,z)::L)->Ext H H2->K (bG<|Z ⟨r,0,T⟩) H2):ME (Go.Ae.jM ty z H) K:=by
 have i:=gM G.wf;exact i.jM λj r i=>k j r (SH.frame (hx:=[]) (L:=L) G i) i.ext
def DC(P hx L:D eF):(P++(hx++L)).Perm (hx++(P++L)):=by
 rw[<-cK,<-cK];exact rG _ aG
abbrev RC.up(q:RC)(b:Bool):RC:={q with nu:=if b then q.nu+1 else q.nu}
def Ki(cs:Nat->Prop)(q:RC)(k:Nat)(S:D Nat)(H0:R)(L:D eF)(v:C)(Q:R):Prop:=∃(b:Bool)(i:Nat)(M':D eF),v=aO b/\Rd cs (q.up b) i Q M'/\SH S H0 Q (M'++L)/\k<=i/\(b=f->k<i/\q.nu<120)
def Ki.no{k':Nat}{ru:Nat}(hk:k<=k')(i:Rd cs q k' H M')(G:SH S H0 H<|(ru,234,l)::(M'++L)):Ki cs q k S H0 L (aO aA) H:=
 ⟨aA,k',M',rfl,i,fV (A:=[_]) G,hk,λh=>by cases h⟩
theorem adF{ru:Nat}{ay:Bool}{at':Int}(am:nm.size<=1000000)(hk:k0<k)(ao:q.nu<120)(hR:Rd cs q k H hx)(G:SH S H0 H<|(ru,234,yj nm aa ay w ch root at')::(hx++L))(x4 x5 x6 x7:C)(E):
 iC Pg X (sub nP [1,1,1,1,1,1,1,1,1,1,1,1,1,1]) (qi (pr q.rr) (aO aA) (pr ru) x4 x5 x6 x7 E H) (jO Pg [.tmp 2]<|Ki cs q k0 S H0 L):=by
 have T:=hR.ty<|fV (A:=[_]) G
 have T3:¬zW H ru 3/\¬zW H ru 331/\¬zW H ru 221:=by
  have h:=(G.bk _<|aK ..).Gb;exact⟨λht=>(by have:=h.one ht;cases this),λht=>(by have:=h.one ht;cases this),λht=>(by have:=h.one ht;cases this)⟩
 have aw:=hR;have ab:=G;obtain⟨rv,V,gr,Y,jw,o,sc,sa,nr,nn,rfl,I,B,h3,h4,h5,h6,h7,h8,h9,al,DT⟩:=hR
 obtain⟨j,nc,cc,rfl,aE,_⟩:∃a n c,rv=J a n c/\u V=n*7/\True:=by
  rcases h3 with⟨rfl,rfl,_⟩|⟨r,n,fE,rfl,hn,_⟩
  .exact⟨_,_,_,O,gB,trivial⟩
  .exact⟨_,_,_,O,hn,trivial⟩
 have an:nc=nr:=N;subst an;subst h5;have G:=SH.own (hx:=(ru,234,yj nm aa ay w ch root at')::(q.rt,215,[J q.a q.n q.c])::(q.ra,3,[W k])::(q.rp,222,[qV q.rt q.ra])::(q.rr,226,[qV q.rt q.ra,zM q.rp q.ra q.rt,J j q.nu cc,Y,vi sc,vi sa])::(gr++o)) (L:=L) ab;refine tm ?_;refine G.R4 O O O N λH2 rx G uR=>?_;have G:=G.to (cs':=yj nm aa ay w ch root at') O;have G:=G.perm (L':=(rx,234,yj nm aa ay w ch root at')::(gr++((ru,234,yj nm aa ay w ch root at')::(q.rt,215,[J q.a q.n q.c])::(q.ra,3,[W k])::(q.rp,222,[qV q.rt q.ra])::(q.rr,226,[qV q.rt q.ra,zM q.rp q.ra q.rt,J j q.nu cc,Y,vi sc,vi sa])::o)))<|fA _<|DC [_,_,_,_,_] gr o;refine h3.KB G N O O N λv' H3 y ac G a0 VC xz=>?_;have G:=G.perm<|DC y [_,_,_,_,_] o;simp only[bQ,bX]at G
 obtain⟨va,ar,vc,rfl,U,_⟩:∃a n c,v'=J a n c/\u (V++yj nm aa ay w ch root at')=n*7/\True:=by
  rcases ac with⟨_,h,_⟩|⟨r,n,fE,rfl,hn,_⟩
  .exact absurd h gB
  .exact⟨_,_,_,O,hn,trivial⟩
 have aq:ar=q.nu+1:=by rw[aU,h4]at U;simp at U;omega
 subst aq;refine G.oq λHn G=>?_;have ad:q.rr≠ru:=(G.nq 0 4 O O N).symm;refine splitK (λK hK=>?_) ?_
 .simp only[uR,eZ,gN];generalize q.rr=rr at ad;rcases xz with e|e<;>rw[e]<;>apply nE (a:=rr) (b:=ru) ad yX fQ fQ hK
 have M:=G.ext;have hE:=Dm (es:=7) (n:=q.nu) h4 (xs:=yj nm aa ay w ch root at') O;refine rr ?_;refine⟨f,k,(q.rt,215,[J q.a q.n q.c])::(q.ra,3,[W k])::(q.rp,222,[qV q.rt q.ra])::(q.rr,226,[qV q.rt q.ra,zM q.rp q.ra q.rt,J va (q.nu+1) vc,Y,vi sc,vi sa])::(y++o),O,?_,?_,N,λ_=>⟨hk,ao⟩⟩
 .refine⟨J va (q.nu+1) vc,V++yj nm aa ay w ch root at',y,Y,jw,o,sc,sa,q.nu+1,nn,O,I,?_,ac,U,O,λi hi=>?_,h7,h8,h9,λi hi=>?_,DT⟩
  .refine B.st M (λr hr=>.inr ?_) (ax _);rcases bW.1 hr with rfl|hr
   .exact T3.2
   .exact(T r hr).2
  .rcases dH i q.nu with h|h
   .rw[hE.1 i h];exact h6 i h
   .obtain rfl:i=q.nu:=N;rw[hE.2];exact⟨nm,aa,ay,w,ch,root,at',O,am⟩
  .have ap:∀r∈((ru,234,yj nm aa ay w ch root at')::(q.rt,215,[J q.a q.n q.c])::(q.ra,3,[W k])::(q.rp,222,[qV q.rt q.ra])::(q.rr,226,[qV q.rt q.ra,zM q.rp q.ra q.rt,J j q.nu cc,Y,vi sc,vi sa])::(gr++o)).map (λe:eF=>e.1),(¬cs r\/¬zW H r 3)/\¬zW H r 331:=λr hr=>by
    rcases bW.1 hr with rfl|hr
    .exact⟨.inr T3.1,T3.2.1⟩
    .exact⟨(T r hr).1.imp_left (λe=>by rw[e];exact DT),(T r hr).2.1⟩
   exact(al i hi).st M ap
 .have hF:=SH.frame (hx:=(ru,234,yj nm aa ay w ch root at')::(q.rt,215,[J q.a q.n q.c])::(q.ra,3,[W k])::(q.rp,222,[qV q.rt q.ra])::(q.rr,226,[qV q.rt q.ra,zM q.rp q.ra q.rt,J j q.nu cc,Y,vi sc,vi sa])::(gr++o)) ab G;exact fV (A:=[_]) hF
def ajw{ru:Nat}{ay:Bool}{at':Int}(hF:∀r,H.bV<=r->cs r)(U:nm.size<=1000000)(hk:k0<=k)(V:q.nu<120)(hR:Rd cs q k H hx)(G:SH S H0 H<|(ru,234,yj nm aa ay w ch root at')::(hx++L))(x4 x5 x6 x7:C)(E):
 iC Pg X (sub nP [1,1,1,1,1,1,1,1]) (qi (pr q.rr) (aO aA) (pr ru) x4 x5 x6 x7 E H) (jO Pg [.tmp 2]<|Ki cs q k0 S H0 L):=by
 have aq:=hR.le;refine tp ?_;refine hR.YF (P:=[_]) G λH1 M1 BA I ar=>dn (aif (P:=[_]) BA I 5 jg) ?_;rintro v H2 ⟨b,k2,M2,rfl,o,u,an,T,ac⟩;refine sD (λj=>?_) λj=>?_
 .refine rr ?_;exact(.no N o u)
 have M:b=f:=by cases b with
  |true=>rfl
  |false=>cases j
 have ad:=T M;have ab:=o.le;have aw:H.bV<=H2.bV:=N;refine dn (Wj q k2 cs H2 M2 0 (λr hr=>hF r N) o u.inP.own N) ?_;rintro v H3 ⟨i,b3,k3,M3,rfl,Gs,B,ao,_⟩;have wu:=u.Q6 B;refine sD (λj=>?_) λj=>?_
 .refine rr ?_;exact(.no N Gs wu)
 refine Gs.st wu O O O O (aF O) O λH4 IX W _=>?_;have W:SH S H0 H4 ((ru,234,yj nm aa ay w ch i at')::(M3++L)):=W;refine dn (Wl IX W) ?_;rintro v H5 ⟨b5,w5,al,k5,M5,rfl,OD,ap,y⟩;refine sD (λj=>?_) λj=>?_
 .refine rr ?_;exact(.no N OD y)
 refine dn (aif (P:=[_]) OD y 7 jg) ?_;rintro v H6 ⟨b6,k6,M6,rfl,Y,xJ,Q4,am,_⟩;refine sD (λj=>?_) λj=>?_
 .refine rr ?_;exact(.no N Y xJ)
 exact adF U N V Y xJ _ _ _ _ _
theorem adG{ru:Nat}{ay:Bool}(hF:∀r,H.bV<=r->cs r)(am:q.nu<=120)(j:k0<=k)(hR:Rd cs q k H hx)(G:SH S H0 H<|(ru,234,yj ⟨#[]⟩ aA ay aA 0 0 0)::(hx++L))(x4 x5 x6 x7:C)(E):
 iC Pg X (sub nP [1,1,1]) (qi (pr q.rr) (aO aA) (pr ru) x4 x5 x6 x7 E H) (jO Pg [.tmp 2]<|Ki cs q k0 S H0 L):=by
 have ab:=hR.le;refine tp ?_;refine hR.TZ (P:=[_]) G 0 N λB BA i ad=>?_;rw[show min (k+0) (q.n-1)=k by omega];have⟨kd,Q7,e1,t1,xa,xn,xc,he,_,ht1,_,hz⟩:=BA.tok ab.1;rw[he]
 have U:¬zW B ru 3/\¬zW B ru 331/\¬zW B ru 221:=by
  have h:=(i.bk _<|aK ..).Gb;exact⟨λT=>(by have:=h.one T;cases this),λT=>(by have:=h.one T;cases this),λT=>(by have:=h.one T;cases this)⟩
 have i:SH S H0 B ([(ru,234,yj ⟨#[]⟩ aA ay aA 0 0 0)]++(hx++L)):=i;refine i.own.og O O O λH4 Y xG an=>?_;have G:SH [ru] B H4 [(Y,221,[vi kd,W Q7,W e1,aJ t1,J xa xn xc]),(ru,234,yj ⟨#[]⟩ aA ay aA 0 0 0)]:=xG;refine fF ?_;refine G.cm (Gu G.wf _ _ _ _ _ O) ?_;rintro v H5 rfl ao G;refine G.kN ?_;refine ig (λu=>?_) λu=>?_
 .have hf:=i.frame (hx:=[_]) G
  have OD:=BA.stay G.ext λr o=>by
   rw[aS]at o;subst o;exact⟨.inr U.1,U.2⟩
  refine dn (adE (P:=[_,_]) OD hf) ?_;rintro v I ⟨rfl,M6,y,xJ⟩;refine rr ?_;exact(.no j y<|fV (A:=[_]) xJ)
 refine fF ?_;refine G.oq λHn G=>?_;refine G.oq λHn G=>?_;refine G.oq λHn G=>?_;have ac:Y≠ru:=G.nq 0 1 O O N;refine splitK (λK hK=>?_) ?_
 .simp only[eZ,gN];apply nE (a:=Y) (b:=ru) ac yX fQ fQ hK
 have M:=G.ext;generalize hM (hM (hM H5 _) _) Hn=I at*;have V:=i.frame (hx:=[_]) G;have V:SH S H0 I ((ru,234,yj t1 (decide<|kd=1) ay aA 0 0 Q7)::(hx++L)):=fV (A:=[_]) V;have al:H.bV<=I.bV:=by have:=M.bV;have:=ad.bV;omega
 have y:Rd cs q k I hx:=BA.stay M λr o=>by
  have o:r∈[ru]:=o;rw[aS]at o;subst o;exact⟨.inr U.1,U.2⟩
 clear G;have⟨⟨ra,rc,hrc⟩,hrl⟩:=y.rules (L:=[_]++L)<|SH.inP (P:=[_]) V;have G:=V;refine iV hrc ?_;refine tJ (λhc=>?_) λhc=>?_
 .refine G.qE<|dn (adD (P:=[_]) y G 3 _) ?_;rintro v H7 ⟨rfl,M7,YE,Jv⟩;refine rr ?_;exact(.no j YE Jv)
 refine fF ?_
 have Ng:∀(b:Bool) E,Ci E 72=aO b->iC Pg X (sub nP [1,1,1,1,1,1,1,0,1]) (qi (pr q.rr) (aO aA) (pr ru) x4 (pr Y) x6 x7 E I) (uQ Pg X (sub nP [1,1,1,1,1,1,1,1])<|jO Pg [.tmp 2]<|Ki cs q k0 S H0 L):=by
  intro b E u;refine tl ?_;rw[u];refine sD (λu=>?_) λu=>?_
  .refine G.qE<|dn (adD (P:=[_]) y G 18 _) ?_;rintro v H7 ⟨rfl,M7,YE,Jv⟩;refine rr ?_;exact(.no j YE Jv)
  .exact ajw (λr o=>hF r N) ht1 j N y G _ _ _ _ _
 refine ig (λu=>?_) λu=>?_
 .refine fF ?_;exact Ng _ _ O
 .exact Ng _ _ O
def aao(hF:∀r,H.bV<=r->cs r)(T:q.nu<=120)(hR:Rd cs q k H hx)(G:SH S H0 H<|hx++L):bM Pg X 120 [pr q.rr] H (Ki cs q k S H0 L):=by
 have ad:=hR.le;refine lF [0,2,3,4,5,6,7] ?_;refine G.agt λH1 ru j U=>?_;have BA:=hR.ex U;have j:SH S H0 H1 ((ru,234,yj ⟨#[]⟩ aA aA aA 0 0 0)::(hx++L)):=j;refine bN ?_;refine BA.TZ (P:=[_]) j 0 N λH2 I ab al=>?_;rw[show min (k+0) (q.n-1)=k by omega];have⟨kd,Q7,e1,t1,xa,xn,xc,he,_⟩:=I.tok ad.1;rw[he];refine ab.og O O O λH3 rt wu V=>?_;have Gs:=I.ex V;have G:SH S H0 H3 ((rt,221,[vi kd,W Q7,W e1,aJ t1,J xa xn xc])::(ru,234,yj ⟨#[]⟩ aA aA aA 0 0 0)::(hx++L)):=wu;have an:H.bV<=H3.bV:=by have:=U.bV;have:=al.bV;have:=V.bV;omega
 have u:∀(b:Bool) x5 x6 x7 E y,Ci E 28=aO b->Rd cs q k y hx->H3.bV<=y.bV->SH S H0 y ((ru,234,yj ⟨#[]⟩ aA aA aA 0 0 0)::(hx++L))->iC Pg X (sub nP [1,1,0,1,1]) (qi (pr q.rr) (aO aA) (pr ru) (pr rt) x5 x6 x7 E y) (uQ Pg X (sub nP [1,1,1])<|jO Pg [.tmp 2]<|Ki cs q k S H0 L):=by
  intro b x5 x6 x7 E y M B ao Y;refine tl ?_;rw[M];refine sD (λM=>?_) λM=>?_
  .exact B.YF (P:=[_]) Y λH5 M5 OD ac ap=>OD.st ac O O O O (aF O) O λH6 EK xJ aq=>adG (λr hr=>hF r N) T N EK xJ _ _ _ _ _
  .exact adG (λr hr=>hF r N) T (ax _) B Y _ _ _ _ _
 refine ym (λhc=>?_) λhc=>?_
 .refine QN (λM=>?_) λM=>?_
  .refine Gs.TZ (P:=[_,_]) G 1 N λy B Y am=>?_;have⟨kd,Q7,e1,t1,xa,xn,xc,he,_⟩:=B.tok (i:=min (k+1)<|q.n-1) N;rw[he];refine dn (Gu Y.wf _ _ _ _ _ O) ?_;rintro v H5 ⟨rfl,o⟩;exact u _ _ _ _ _ _ O (B.ex o) (by have:=am.bV;have:=o.bV;omega)<|fV (A:=[_])<|Y.call o
  .exact u _ _ _ _ _ _ O Gs (ax _)<|fV (A:=[_]) G
 .exact u _ _ _ _ _ _ O Gs (ax _)<|fV (A:=[_]) G
end
section
variable{S:D Nat}{cs:Nat->Prop}
def Gr(b:Nat)(H:R)(ra:aC Addr)(rn:Nat)(j:D C)(o:aC Addr)(nn:Nat)(jw:D C):Prop:=
 jC (b<=·) 234 H ra rn 7 j/\rn<=120/\(∀i,i<rn->RuC (El j 7 i))/\jC (b<=·) 238 H o nn 5 jw/\nn<=4000/\∀i,i<nn->NoC (b<=·) H (El jw 5 i)
def adH(b:Nat)(v:C)(H:R):Prop:=∃u rn B j i nn o y,∃(cd e:Int),v=fJ ⟨[dN ⟨[J u rn B,J i nn o]⟩,dN ⟨[vi cd,vi e]⟩]⟩/\Gr b H u rn j i nn y/\(i=T\/o=gK 5)
def Gr.nil(b:Nat)(H:R):Gr b H T 0 [] T 0 []:=
 ⟨jC.nil _ _ _ _ _,N,λi h=>N,jC.nil _ _ _ _ _,N,λi h=>N⟩
def Rd.amg(o:Rd cs q k H hx)(G:SH S H0 H<|hx++L)(j:Nat)(u:j<=1000)(h:∀Q,Rd cs q k Q hx->SH S H0 Q (hx++L)->Ext H Q->K (qV q.rt q.ra) (dN ⟨El q.F 5<|min (k+j)<|q.n-1⟩) Q):ME (yh T (bG<|Z ⟨q.rp,0,T⟩) H) λv H1=>qh Pg X (Oo v) [W j] H1 (K v):=by
 have i:=o;obtain⟨U,y,E,N,I,B,sc,V,nr,nn,rfl,_⟩:=o;refine G.ld 2 O O ?_;show bM Pg X 118 [W j,pr q.rt,pr q.ra] H<|K _;refine dn (adA i G j u) ?_;rintro v Q ⟨rfl,M⟩;exact h Q (i.ex M) (G.call M) M
def uC{α:Type}{x:α}(A h2:D α){ag:D α}(h:(A++h2).Perm ag):(A++x::h2).Perm (x::ag):=jK.trans<|h.cons x
def aap(hw:Wf H)(x0:C)(o:RC)(rs E re rf:Nat)(f8:C)(H1:R)(am:H.bV<=o.ra/\o.ra<H1.bV)(hR:Rd (λr=>H.bV<=r/\r≠o.ra) {o with nu:=0} 0 H1 hx)(xe:D C)(G:SH [] H H1<|hx++[(re,173,xe),(rs,173,[vi 0,vi 0]),(E,171,[J T 0 0,J T 0 0])])(x4 x6:C)(oW):
 iC Pg X (.loop<|sub J' [1,1,1,1,1,1,1,0,1,0,0]) (QU x0 (pr E) (pr rs) x4 (pr re) x6 (pr o.rp) f8 (pr o.rr) (aO f) oW H1) (uk 0<|uQ Pg X (sub J' [1,1,1,1,1,1,1,1])<|jO Pg [.cell 2 171,.cell 3 173]<|Q1 (adH H.bV) H):=by
 refine VX 10 (h1:=λm jW Q=>∃(b:Bool)(j k:Nat)(hx:D eF),jW=aO b/\Rd (λr=>H.bV<=r/\r≠o.ra) {o with nu:=j} k Q hx/\k+m=o.n/\j<=120/\o.ra<Q.bV/\SH [] H Q (hx++[(re,173,xe),(rs,173,[vi 0,vi 0]),(E,171,[J T 0 0,J T 0 0])])) ?_ o.n ⟨f,0,0,hx,O,hR,N,N,am.2,G⟩;clear hR G;rintro m jW oW H2 ⟨b,j,k,M2,rfl,hR,ar,hj,aw,G⟩;refine an3 (λhb=>?_) λhb=>?_;rotate_left
 .refine tl ?_;obtain⟨rv,ac,gr,nv,jw,gn,sc,sa,nr,nn,rfl,I,B,h3,h4,h5,h6,h7,h8,h9,Y,DT⟩:=hR;have h5:nr=j:=h5;subst h5;have G:=G.perm<|DC _ [_,_,_] [];simp only[bQ,bX,bF]at G;obtain⟨va,ad,vc,rfl⟩:∃a n c,rv=J a n c:=by rcases h3 with⟨rfl,_⟩|⟨r,n,fE,rfl,_⟩<;>exact⟨_,_,_,O⟩
  obtain⟨wa,wn,wc,rfl⟩:∃a n c,nv=J a n c:=by rcases h7 with⟨rfl,_⟩|⟨r,n,fE,rfl,_⟩<;>exact⟨_,_,_,O⟩
  refine bN ?_;apply G.jl;have V:=G;have G:=SH.own (hx:=[(re,173,xe),(rs,173,[vi 0,vi 0]),(E,171,[J T 0 0,J T 0 0])]) V;refine PU.b2 O ?_;refine G.j_ λHn G=>?_;refine G.j_ λHn G=>?_;refine rr ?_;refine fF ?_;have M:=G.ext;have G:=V.frame (hx:=[_,_,_]) G;have ap:Ext H Hn:=G.ext;have hf:∀e:eF,e∈gr++gn->H.bV<=e.1:=λe u=>G.yu<|dL [_,_,_,_,_,_,_] u;have⟨a1,n1,c1,e1,hl1,hf1⟩:=h3.KE (cs:=(H.bV<=·)) (G.perm<|DC [_,_,_,_,_,_,_] gr gn) λe u=>hf e<|dM _ u;have⟨a2,n2,c2,e2,hl2,hf2⟩:=h7.KE (cs:=(H.bV<=·)) (G.perm<|(gT [_,_,_,_,_,_,_] aG).trans<|DC [_,_,_,_,_,_,_] gn gr) λe u=>hf e<|dL _ u;cases e1;cases e2;obtain rfl:ad=nr:=N;obtain rfl:wn=nn:=N;have hO:=SH.own (hx:=[(re,173,xe),(rs,173,[vi 0,vi 0]),(E,171,[J T 0 0,J T 0 0])]) V;have ao:=hO.Az (ty:=3) O;have Wm:=hO.Az (ty:=331) O
  have ab:wa=T\/wc=gK 5:=by
   rcases h7 with⟨e,_,_⟩|⟨r,n,fE,e,_,_⟩<;>cases e
   .exact .inl O
   .exact .inr O
  refine⟨⟨va,ad,vc,ac,wa,wn,wc,jw,0,0,O,⟨hf1,hj,h6,hf2,h9,λi hi=>?_⟩,ab⟩,ap⟩;refine((Y i hi).wk λr _ h=>h.1).st M λr hr=>⟨.inr<|ao r hr,Wm r hr⟩
 refine dn (aao (cs:=λr=>H.bV<=r/\r≠o.ra) (q:={o with nu:=j}) (λr hr=>⟨?_,?_⟩) hj hR G) ?_
 .have:=G.ext.bV;omega
 .omega
 rintro v H3 ⟨b,U,M3,rfl,Gs,wu,aq,al⟩;refine sD (λhb=>?_) λhb=>?_
 .have W:b=aA:=by cases b with
   |false=>rfl
   |true=>cases hb
  subst W;obtain⟨rv,ac,gr,nv,jw,gn,sc,sa,nr,nn,rfl,I,B,h3,h4,h5,h6,h7,h8,h9,Y,DT⟩:=Gs;have G:=wu.perm<|DC _ [_,_,_] [];simp only[bQ,bX,bF]at G;refine fF ?_;refine G.oq λHn G=>?_;refine G.oq λHn G=>?_;refine splitK (λK hK=>?_) ?_
  .simp only[eZ,gN];have n1:=G.nq 1 2 O O N;have n2:=G.nq 1 6 O O N;have n3:=G.nq 2 6 O O N;generalize o.rr=rr at n2 n3|-;apply AA (a:=rs) (b:=E) (c:=rr) n1 n2 n3 yX fQ fQ hK
  refine rr ?_;refine fF ?_;exact⟨⟨T,0,0,[],T,0,0,[],sc,sa,O,Gr.nil _ _,.inl O⟩,G.ext⟩
 have W:b=f:=by cases b with
  |true=>rfl
  |false=>cases hb
 subst W;have an:=al O;have Gs:Rd (λr=>H.bV<=r/\r≠o.ra) {o with nu:=j+1} U H3 M3:=Gs;refine Gs.amg wu 0 N λH4 IX xG aE=>?_;have y:=IX.le;rw[show min (U+0) (o.n-1)=U by have:U<o.n:=y.1;omega];have⟨kd,Q7,e1,t1,xa,xn,xc,u,_⟩:=IX.tok y.1;have u:El o.F 5 U=_:=u;rw[u,Gt];refine bN ?_;refine⟨o.n-U,by have:U<o.n:=y.1;omega,_,_,_,rfl,_,j+1,U,M3,rfl,IX,by have:U<o.n:=y.1;omega,by have B:j<120:=an.2;omega,(xG.lo _<|dM _ IX.mem).2,xG⟩
theorem OE(hw:Wf H)(hT:Dl H)(s:aZ):bM Pg X 93 [aJ s] H (Q1 (adH H.bV) H):=by
 have G:=gM hw;refine lF [0,2,3,4,5,6,7,8,9,10] ?_;refine G.jM λu E G=>?_;refine G.jM λu I G=>?_;refine dn (TW G.wf (hT.ex G.ext) s) ?_;rintro v H1 ⟨⟨ts,cd,e,rfl,hts,ab⟩,M⟩;have ac:=G.lt;have B:=G.call M;have G:=B.base;refine bN ?_;refine G.jM λu j G=>G.jM λu V G=>?_;have y:cr ts=[ts]/\gI ts=f:=by rcases hts with rfl|⟨a,n,c,rfl⟩<;>exact⟨O,O⟩
 refine G.st 1 O (by rw[y.1];rfl) (ax 1) (by rw[y.1];show b_ (gI ts) _ _=_;rw[y.2];rfl) λu G=>?_;rw[y.1]at G;have G:SH [I,E] H1 u [(V,173,[vi 0,vi 0]),(j,215,[ts]),(I,173,[vi 0,vi 0]),(E,171,[J T 0 0,J T 0 0])]:=G;refine G.kN ?_;refine G.j_ λu G=>?_;refine Oq (λhc=>?_) λhc=>?_
 .refine fF ?_;refine G.oq λu G=>?_;refine G.oq λu G=>?_;refine splitK (λK hK=>?_) ?_
  .simp only[eZ,gN];apply AA (a:=I) (b:=E) (c:=V) (G.nq 2 3 O O N) (G.nq 0 2 O O N).symm (G.nq 0 3 O O N).symm yX fQ fQ hK
  refine rr ?_;refine fF ?_;exact⟨⟨T,0,0,[],T,0,0,[],cd,e,O,Gr.nil _ _,.inl O⟩,(B.over G).ext⟩
 refine G.jM λu o G=>G.j_ λu G=>G.jM λu rp G=>G.j_ λu G=>?_;refine fF ?_;obtain⟨ta,Y,tc,am,rfl,U⟩:=ab hc;refine G.box O λH2 rr G=>?_;have G:SH [I,E] H1 H2 [(rr,226,[qV j o,zM rp o j,J T 0 0,J T 0 0,vi 0,vi 0]),(rp,222,[qV j o]),(o,3,[W 0]),(V,173,[vi cd,vi e]),(j,215,[J ta Y tc]),(I,173,[vi 0,vi 0]),(E,171,[J T 0 0,J T 0 0])]:=G;have G:=G.perm (L':=[(j,215,[J ta Y tc]),(o,3,[W 0]),(rp,222,[qV j o]),(rr,226,[qV j o,zM rp o j,J T 0 0,J T 0 0,vi 0,vi 0]),(V,173,[vi cd,vi e]),(I,173,[vi 0,vi 0]),(E,171,[J T 0 0,J T 0 0])])<|uC [_,_,_,_] [_,_]<|uC [_,_] [_,_,_]<|uC [_] [_,_,_]<|rW _;have al:=G.ext;have G:=B.over G;have ad:=G.lo _<|aT (i:=1) O;refine aap hw (aJ s) ⟨j,o,rp,rr,ta,Y,tc,am,0⟩ I E V rp _ H2 (hx:=[(j,215,[J ta Y tc]),(o,3,[W 0]),(rp,222,[qV j o]),(rr,226,[qV j o,zM rp o j,J T 0 0,J T 0 0,vi 0,vi 0])]) ⟨G.yu<|aT (i:=1) O,ad.2⟩ ?_ [vi cd,vi e] G _ _ _;refine⟨J T 0 0,[],[],J T 0 0,[],[],0,0,0,0,O,?_,?_,GB.nil _ _,O,O,λi h=>N,GB.nil _ _,rfl,N,λi h=>N,λh=>h.2 O⟩
 .have:=U.2.1;show 0<Y;omega
 .exact U.st al (λr hr=>.inl<|ac r hr)<|bD _
end
end Go.Proofs.Lu
namespace Go.Ae
variable{K:C->R->C->R->Prop}{v x z:C}{es m r:Nat}{L L' gb:D eF}{H Q H0:R}{F:D C}{b ok:Bool}
section
class EN (L g:D eF) (cs:outParam<|D eF->D eF):Prop where
 p:∃az,L.Perm (g++az)/\∀g',(g'++az).Perm<|cs g'
instance EN.top{g:D eF}:EN g g (λg=>g):=⟨[],by rw[bF],λi=>by rw[bF]⟩
instance EN.cons{b:eF}{L g:D eF}{cs:D eF->D eF}[h:EN L g cs]:EN (b::L) g (λg=>b::cs g):=⟨let⟨az,I,B⟩:=h.p;⟨b::az,(I.cons b).trans jK.symm,λi=>jK.trans<|(B i).cons b⟩⟩
instance EN.right{A L g:D eF}{cs:D eF->D eF}[h:EN L g cs]:EN (A++L) g (λg=>A++cs g):=⟨let⟨az,I,B⟩:=h.p;⟨A++az,(I.append_left A).trans<|jB A g az,λi=>(jB i A az).trans<|(B i).append_left A⟩⟩
instance EN.left{A L g:D eF}{cs:D eF->D eF}[h:EN A g cs]:EN (A++L) g (λg=>cs g++L):=⟨let⟨az,I,B⟩:=h.p;⟨az++L,by rw[<-cK];exact I.append_right L,λi=>by rw[<-cK];exact(B i).append_right L⟩⟩
instance EN.here{L g:D eF}:EN (g++L) g (λg=>g++L):=⟨L,rW _,λi=>rW _⟩
instance BO.right{A L:D eF}{r:Nat}{ty:aI}{F:D C}[h:BO L r ty F]:BO (A++L) r ty F:=⟨let⟨i,hi⟩:=h.at';⟨u A+i,by rw[eB N,kM];exact hi⟩⟩
instance Ga.right{A L L':D eF}{r:Nat}{cs:D C->D C}{ty:aI}{F:D C}[h:Ga L r cs ty F L']:Ga (A++L) r cs ty F (A++L'):=⟨let⟨i,hi,e⟩:=h.at';⟨u A+i,by rw[eB N,kM];exact hi,by rw[e,sH _ _<|pY _ _,kM]⟩⟩
instance BO.left{A L:D eF}{r:Nat}{ty:aI}{F:D C}[h:BO A r ty F]:BO (A++L) r ty F:=⟨let⟨i,hi⟩:=h.at';⟨i,by rw[bZ (bK.1 hi).1];exact hi⟩⟩
instance Ga.left{A A' L:D eF}{r:Nat}{cs:D C->D C}{ty:aI}{F:D C}[h:Ga A r cs ty F A']:Ga (A++L) r cs ty F (A'++L):=⟨let⟨i,hi,e⟩:=h.at';have j:=(bK.1 hi).1;⟨i,by rw[bZ j];exact hi,by rw[e,nV _ _ j]⟩⟩
variable{S:D Nat}{cs:D eF->D eF}{ty:aI}{w:C}{xs x z:D C}
def GB.NG{K:C->C->R->Prop}(T:GB ty es v xs gb)(G:SH S H0 H L)[h:EN L gb cs](M:u (cr w)=es)(ht:rP w=f)(o:all' Go.Ae.gI (cr w)=f)(E:u xs<=16777216)(kk:∀q v' Q iX,GB ty es v' (xs++cr w) iX->SH S H0 Q (cs iX)->K q v' Q)(N:0<es:=by decide)(U:u z=es:=by rfl)(y:es<=16777216:=by decide):ME (bS ty z es 1 [(0,w)] H) λq H1=>ME (Ch ty es v q H1) (K q):=by
 have⟨az,I,B⟩:=h.p;exact T.push (G.perm I) N U O M ht o y E λq v' Q iX j i=>kk q v' Q iX j<|i.perm<|B iX
def SH.amH{K:C->R->Prop}(G:SH S H0 H L){n:Nat}(j:n<=m)(i:m<=16777216)(k:∀H1 r,SH S H0 (hM H H1) ((r,ty,qd z m)::L)->N9 H H1=cl 5->Ext H (hM H H1)->H.bV<=r->K (J (Z ⟨r,0,T⟩) n m) H1):ME (Go.Ae.mkS ty z (W n) (W m)<|Go.Ae.hN H) K:=by
 show ME (gd (aD n m&&aD m 16777216&&f)<|Z (J (Z ⟨H.bV,0,T⟩) n m,(Go.Ae.hN H).new<|rowOf ty<|qd z m)) K;rw[aH j,aH i];exact k _ _ (G.zq ty _) (xW<|Ext.new _ _) (Ext.new _ _).draw<|ax _
def SH.ajT{K:C->R->Prop}(G:SH S H0 H L)(M:rP w=f)(k:∀H1 r,SH S H0 (hM H H1) ((r,ty,cr w)::L)->N9 H H1=cl 5->Ext H (hM H H1)->H.bV<=r->K (.pointer<|Z ⟨r,0,T⟩) H1):ME (LU ty w<|Go.Ae.hN H) K:=by
 unfold LU;rw[M];exact k _ _ (G.zq ty _) (xW<|Ext.new _ _) (Ext.new _ _).draw<|ax _
def SH.aec(G:SH S H0 H L)(k:∀H1 r,SH S H0 (hM H H1) L->Ext H (hM H H1)->N9 H H1=cl 5->H.bV<=r->K (.pointer<|Z ⟨r,0,T⟩) H1 undef (Go.Ae.hN<|hM H H1)):ME (Go.Ae.jM ty []<|Go.Ae.hN H) λv H1=>ME (Go.Ae.GU 0 v (.agg ⟨[]⟩)<|Go.Ae.hN<|hM H H1) λaa H2=>K v H1 aa H2:=by
 exact ME.of (v:=.pointer<|Z ⟨H.bV,0,T⟩) (H:=(Go.Ae.hN H).new<|rowOf ty []) O<|ME.of (v:=undef) (H:=Go.Ae.hN<|hM H<|(Go.Ae.hN H).new<|rowOf ty []) O<|k _ _ (fV (A:=[_])<|G.zq ty []) (Ext.new _ _).draw (xW<|Ext.new _ _)<|ax _
def GB.GL(U:GB ty es v xs gb)(G:SH S H0 H L)[h:EN L gb cs](M:u (cr w)=es)(ht:rP w=f)(E:all' Go.Ae.gI (cr w)=f)(O:u xs<=16777216)(kk:∀q H1 v' H2 iX,GB ty es v' (xs++cr w) iX->SH S H0 (hM (hM H H1) H2) (cs iX)->N9 H H1=cl 5->(CG (hM H H1) H2=cl 1\/CG (hM H H1) H2=⟨2,0,0,0,hM H H1,H2⟩)->SH S H0 (hM H H1) L->K q H1 v' H2)(T:0<es:=by decide)(V:u z=es:=by rfl)(N:es<=16777216:=by decide):ME (bS ty z es 1 [(0,w)]<|Go.Ae.hN H) λq H1=>ME (Ch ty es v q<|Go.Ae.hN<|hM H H1) (K q H1):=by
 have⟨az,I,B⟩:=h.p;refine ME.of (QH (H:=Go.Ae.hN H) V ht M N) ?_;have i:=G.zq ty<|cr w;exact U.KB (cx:=1) (i.perm<|I.cons _) T M E O λv' H2 iX y j _ _ o=>kk _ _ _ _ iX y (j.perm<|B iX) (xW<|Ext.new _ _) o<|fV (A:=[_]) i
def GB.OL(i:GB ty es v xs gb):∃a n c,v=J a n c/\u xs=n*es:=by
 rcases i with⟨rfl,rfl,_⟩|⟨r,n,o,rfl,j,_⟩
 .exact⟨T,0,0,O,gB⟩
 .exact⟨_,n,_,O,j⟩
def GJ(ty:aI)(es:Nat)(v:C)(F:D C)(gb:D eF):Prop:=GB ty es v F gb\/∃r n,v=J (Z ⟨r,0,T⟩) n n/\u F=n*es/\gb=[(r,ty,F)]
def GJ.OL(i:GJ ty es v xs gb):∃a n c,v=J a n c/\u xs=n*es:=i.elim GB.OL λ⟨r,n,I,B,_⟩=>⟨_,n,_,I,B⟩
def GJ.fl(i:GJ ty es v xs gb)(G:SH S H0 H<|gb++L):∃a n c,v=J a n c/\u xs=n*es/\Fl H a n es xs:=by
 rcases i with i|⟨r,n,rfl,j,rfl⟩
 .exact i.fl G
 .exact⟨_,n,_,O,j,(G.get 0 O).fl (G.lo _<|aK ..).2 j⟩
def Uu{n:Nat}{x:C}(o:Bk H r ty z)(hl:u z=n*es)(E:n<=16777216)(j:appended H es x=Z (1,xs)):Ch ty es (J (Z ⟨r,0,T⟩) n n) x H=Z (J (Z ⟨H.bV,0,T⟩) (n+1)<|gK es,H.new<|rowOf ty<|z++xs):=by
 unfold Ch;rw[j]
 have e:H.read r 0 (bP n es)=Z z:=by
  rw[show bP n es=u z from hl.symm,o.read N];rw[jQ,jL]
 have y:gZ n=f:=aH N
 have B:aD (bq n 1) n=aA:=by
  cases h:aD (bq n 1) n with
  |false=>rfl
  |true=>exact absurd (aF h) (by have:bq n 1=n+1:=rfl;omega)
 show(gd (aD n 16777216)<|b_ (gZ n) (BZ (ty,es) ⟨r,0,T⟩ n n 1 xs H)<|gd (aB n<|gK es)<|uj (ty,es) ⟨r,0,T⟩ n n 1 xs H)=_;rw[aH E,y];show(b_ (aD (bq n 1) n) (aN (H.write r (bq 0<|bP n es) xs) λQ=>Z (J (Z ⟨r,0,T⟩) (bq n 1) n,Q))<|aN (H.read r 0<|bP n es) λi=>Z<|BJ ty es (bq n 1) (app i xs) H)=_;rw[B,e];show Z (BJ ty es (n+1) (app z xs) H)=_;rw[uH];rfl
def GJ.NG{K:C->C->R->Prop}(j:GJ ty es v xs gb)(G:SH S H0 H L)[h:EN L gb cs](M:u (cr w)=es)(ht:rP w=f)(o:all' Go.Ae.gI (cr w)=f)(E:u xs<=16777216)(kk:∀q v' Q iX,GB ty es v' (xs++cr w) iX->SH S H0 Q (cs iX)->K q v' Q)(T:0<es:=by decide)(V:u z=es:=by rfl)(y:es<=16777216:=by decide):ME (bS ty z es 1 [(0,w)] H) λq H1=>ME (Ch ty es v q H1) (K q):=by
 rcases j with j|⟨r,n,rfl,U,rfl⟩
 .exact j.NG G M ht o E kk T V y
 have W:n<=16777216:=aR (aR (uV n T)<|rQ U.symm) E;have⟨az,I,B⟩:=h.p;refine(G.perm I).bS V ht M y λH1 X i=>ME.of (Uu (i.get 1 O) U W<|zo (k:=1) (i.get 0 O) N)<|kk _ _ _ [(H1.bV,ty,xs++cr w)] (.inr ⟨H1.bV,n+1,[],O,by rw[aU,jN];omega,gB⟩)<|((fV (A:=[_,_]) i).grow ty _).perm<|B [(H1.bV,ty,xs++cr w)]
def GJ.GL(y:GJ ty es v xs gb)(G:SH S H0 H L)[h:EN L gb cs](M:u (cr w)=es)(ht:rP w=f)(E:all' Go.Ae.gI (cr w)=f)(U:u xs<=16777216)(kk:∀q H1 v' H2 iX,GB ty es v' (xs++cr w) iX->SH S H0 (hM (hM H H1) H2) (cs iX)->N9 H H1=cl 5->(CG (hM H H1) H2=cl 1\/CG (hM H H1) H2=⟨2,0,0,0,hM H H1,H2⟩)->SH S H0 (hM H H1) L->K q H1 v' H2)(V:0<es:=by decide)(X:u z=es:=by rfl)(T:es<=16777216:=by decide):ME (bS ty z es 1 [(0,w)]<|Go.Ae.hN H) λq H1=>ME (Ch ty es v q<|Go.Ae.hN<|hM H H1) (K q H1):=by
 rcases y with y|⟨r,n,rfl,W,rfl⟩
 .exact y.GL G M ht E U kk V X T
 have Y:n<=16777216:=aR (aR (uV n V)<|rQ W.symm) U;have⟨az,I,B⟩:=h.p;refine ME.of (QH (H:=Go.Ae.hN H) X ht M T) ?_;have i:=(G.perm I).zq ty<|cr w;have j:Bk (Go.Ae.hN<|hM H<|(Go.Ae.hN H).new<|rowOf ty<|cr w) _ ty (cr w):=i.get 0 O;have o:Bk (Go.Ae.hN<|hM H<|(Go.Ae.hN H).new<|rowOf ty<|cr w) r ty xs:=i.get 1 O;refine ME.of (Uu o W Y<|zo (k:=1) j N)<|kk _ _ _ _ [((hM H<|(Go.Ae.hN H).new<|rowOf ty<|cr w).bV,ty,xs++cr w)] (.inr ⟨_,n+1,[],O,by rw[aU,jN];omega,by simp;rfl⟩) (((fV (A:=[_,_]) i).zq ty _).perm<|B [((hM H<|(Go.Ae.hN H).new<|rowOf ty<|cr w).bV,ty,xs++cr w)]) (xW<|Ext.new _ _) (.inl<|fP<|Ext.new _ _) ?_;exact fV (A:=[_])<|G.zq ty<|cr w
def SH.rd{S':D Nat}{y A h2:R}{o n:Nat}{a b:R}(E:SH S H0 A L)(M:SH S' y (hM A h2) L')[I:BO L r ty F][B:BO L' r ty F](hs:∀v∈(F.drop o).take n,qL v v=f)(N:o+n<=u F:=by exact aF O):oV ⟨2,0,0,0,A,h2⟩ ⟨4,r,o,n,a,b⟩=f:=
 let⟨i,hi⟩:=I.at';let⟨j,hj⟩:=B.at';sF (E.get i hi) ((M.get j hj).iB rfl) N hs
def SH.neT{r':Nat}{ty':aI}{cs':D C}(G:SH S H0 H L)[I:BO L r ty F][B:BO L r' ty' cs'](h:ty≠ty':=by decide):r≠r':=λe=>by
 subst e;have⟨i,hi⟩:=I.at';have⟨j,hj⟩:=B.at';exact h<|(G.get i hi).Gb.one (G.get j hj).Gb
end
section
variable{P:aX}{κ:Type}[DecidableEq κ]{e:κ->C}{S:D Nat}{ay:κ->aC C}{k:κ}{t kt vt:aI}{K:C->R->Prop}
def lkm(m:D<|κ×C)(k:κ):aC C:=(m.find? λp=>decide<|p.1=k).map (·.2)
def upm(k:κ)(v:C):D (κ×C)->D (κ×C)
 |[]=>[(k,v)]
 |p::m=>if p.1=k then(k,v)::m else p::upm k v m
abbrev Uy(e:κ->C)(m:D<|κ×C):D (C×C):=m.map λp=>(e p.1,p.2)
def BX(e:κ->C)(H:R)(r:Nat)(ay:κ->aC C):Prop:=∃m,r<H.bV/\H.obj r=.map (Uy e m)/\∀k,lkm m k=ay k
def Cz(p:κ×C)(m:D<|κ×C):lkm (p::m) k=if p.1=k then Z p.2 else lkm m k:=by
 unfold lkm;rw[List.find?_cons]
 by_cases h:p.1=k
 .rw[jj h,bY h];rfl
 .rw[jx h,dQ h]
def Y4(j:κ):∀m,lkm (upm k v m) j=if j=k then Z v else lkm m j
 |[]=>by
  show lkm [(k,v)] j=_;rw[Cz]
  by_cases h:j=k
  .rw[jj h,jj h.symm]
  .rw[jx h,jx λg=>h g.symm]
 |p::m=>by
  unfold upm
  by_cases hp:p.1=k
  .rw[jj hp,Cz,Cz,hp]
   by_cases h:j=k
   .rw[jj h,jj h.symm]
   .rw[jx h,jx λg=>h g.symm,jx λg=>h g.symm]
  .rw[jx hp,Cz,Cz,Y4 j m]
   by_cases h:j=k
   .rw[jj h,jj h,jx (by rw[h];exact hp)]
   .rw[jx h,jx h]
def BX.ex(h:BX e H r ay)(M:pN S H Q)(i:r∉S):BX e Q r ay:=let⟨m,I,B,h3⟩:=h;⟨m,aP I M.bV,(M.obj r I i).trans B,h3⟩
def SH.zP(G:SH S H0 H L)(h:BX e H r ay):r∉L.map (·.1):=λi=>by
 have⟨m,_,B,_⟩:=h;obtain⟨x,M,rfl⟩:=bT.1 i;have⟨az,I,_⟩:=G.bk x M;rw[B]at I;cases I
def Y5(ht:∀a b,mU P kt (e a) (e b)=Z (decide<|a=b)):∀(m:D<|κ×C)(i:Nat),∃q:aC<|Nat×C,tQ P kt (e k) (Uy e m) i=Z q/\q.map (·.2)=lkm m k/\(q=T->Uy e m++[(e k,v)]=Uy e (upm k v m))/\∀j w,q=Z (j,w)->i<=j/\(Uy e m).set (j-i) (e k,v)=Uy e (upm k v m):=by
 intro m
 induction m with
 |nil=>exactλi=>⟨T,rfl,rfl,λ_=>rfl,λj w h=>by cases h⟩
 |cons p m u=>
  intro i;have o:tQ P kt (e k) (Uy e<|p::m) i=aN (mU P kt (e k)<|e p.1) λb=>b_ b (Z<|Z (i,p.2)) (tQ P kt (e k) (Uy e m)<|dh i):=rfl;rw[o,ht,Cz];unfold upm
  by_cases h:k=p.1
  .rw[bY h,jj h.symm,jj h.symm];refine⟨Z (i,p.2),O,O,(λh=>by cases h),λj w g=>?_⟩;cases g;exact⟨ax _,by rw[kJ];rfl⟩
  .rw[dQ h,jx λg=>h g.symm,jx λg=>h g.symm];have⟨q,I,B,h3,h4⟩:=u<|i+1;refine⟨q,I,B,λg=>eY (_::·)<|h3 g,λj w g=>?_⟩;have⟨g1,g2⟩:=h4 j w g;refine⟨N,?_⟩;rw[show j-i=(j-(i+1))+1 by omega];exact eY (_::·) g2
def Tw(ht:∀a b,mU P kt (e a) (e b)=Z (decide<|a=b)):Bi P kt (e k)=Z ():=by
 show aN (mU P kt (e k)<|e k) _=_;rw[ht,bY O];rfl
def BX.look(j:BX e H r ay)(I:vk P t=Z (kt,vt))(B:zh P vt=Z z)(i:∀a b,mU P kt (e a) (e b)=Z (decide<|a=b))(kk:K (okd ok ((ay k).getD z) (ay k).isSome H).1 H):ME (uM P t (.map<|Z r) (e k) ok H) K:=by
 have⟨m,g1,g2,g3⟩:=j;have⟨q,e1,e2,_⟩:=Y5 (v:=z) i (k:=k) m 0
 have:uM P t (.map<|Z r) (e k) ok H=Z (okd ok ((ay k).getD z) (ay k).isSome H):=by
  show(aN (vk P t) λq=>aN (zh P q.2) λz=>aN (mapOf H<|.map<|Z r) λes=>aN (Bi P q.1<|e k) λ_=>aN (tQ P q.1 (e k) es 0) λay=>_)=_;rw[I];show(aN (zh P vt) λz=>aN (LH<|H.obj r) λes=>aN (Bi P kt<|e k) λ_=>aN (tQ P kt (e k) es 0) λay=>_)=_;rw[B,g2,Tw i];show aN (tQ P kt (e k) (Uy e m) 0) _=_;rw[e1,<-g3,<-e2];cases q<;>rfl
 rw[this];cases ok<;>exact ME.of O kk
def BX.Kj(j:BX e H r ay)(I:vk P t=Z (kt,vt))(B:zh P vt=Z z)(i:∀a b,mU P kt (e a) (e b)=Z (decide<|a=b))(kk:K (.tuple ⟨[(ay k).getD z,.bool (ay k).isSome]⟩) H):ME (uM P t (.map<|Z r) (e k) f H) K:=j.look I B i kk
def BX.has{p:κ->Prop}[DecidablePred p](j:BX e H r λk=>if p k then Z z else T)(I:vk P t=Z (kt,vt))(B:zh P vt=Z z)(i:∀a b,mU P kt (e a) (e b)=Z (decide<|a=b))(kk:K (.tuple ⟨[z,.bool<|decide<|p k]⟩) H):ME (uM P t (.map<|Z r) (e k) f H) K:=j.Kj I B i (by
 by_cases h:p k
 .simp only[jj h,bY h]at kk|-;exact kk
 .simp only[jx h,dQ h]at kk|-;exact kk)
def BX.plus{p q:κ->Prop}[DecidablePred p][DecidablePred q](i:BX e H r λj=>if j=k then Z z else if p j then Z z else T)(h:∀j,q j<->p j\/j=k):BX e H r λj=>if q j then Z z else T:=by
 have:(λj=>if q j then Z z else T)=λj=>if j=k then Z z else if p j then Z z else T:=funext λj=>by
  by_cases I:j=k
  .rw[jj I,jj<|(h j).2<|.inr I]
  .rw[jx I]
   by_cases B:p j
   .rw[jj B,jj<|(h j).2<|.inl B]
   .rw[jx B,jx λg=>((h j).1 g).elim B I]
 rw[this];exact i
def ael{m:D (κ×C)}(j:H.obj r=.map (Uy e m))(I:vk P t=Z (kt,vt))(i:∀a b,mU P kt (e a) (e b)=Z (decide<|a=b)):wV P t (.map<|Z r) (e k) v H=Z (undef,H.put r<|.map<|Uy e<|upm k v m):=by
 have⟨q,e1,_,e2,e3⟩:=Y5 (v:=v) i (k:=k) m 0;show(aN (vk P t) λq=>aN (LH<|H.obj r) λes=>aN (Bi P q.1<|e k) λ_=>aN (tQ P q.1 (e k) es 0) λay=>_)=_;rw[I];show(aN (LH<|H.obj r) λes=>aN (Bi P kt<|e k) λ_=>aN (tQ P kt (e k) es 0) λay=>_)=_;rw[j,Tw i];show aN (tQ P kt (e k) (Uy e m) 0) _=_;rw[e1];cases q with
 |none=>
  rw[<-e2 O];show Z (undef,H.put r<|.map<|app (Uy e m) [(e k,v)])=_;rw[uH]
 |some p=>
  rw[<-(e3 _ _ O).2];show Z (undef,H.put r<|.map<|setAt (e k,v) p.1<|Uy e m)=_;rw[Cc];rfl
def SH.amL{H1:R}{m:D (κ×C)}(G:SH S H0 H L)(E:r∈S\/H0.bV<=r)(B:r∉L.map (·.1))(y:r<H.bV)(g3:∀k,lkm m k=ay k)(M:pN [r] H H1)(u:H1.obj r=.map (Uy e<|upm k v m))(e2:∀q,q≠r->H1.obj q=H.obj q)(i:H1.bV=H.bV):BX e H1 r (λj=>if j=k then Z v else ay j)/\SH S H0 H1 L:=
 ⟨⟨_,by rw[i];exact y,u,λj=>by rw[Y4,g3]⟩,G.ext.later M (λq o=>by rw[aS]at o;subst o;exact E),λx M=>(G.bk x M).iB<|e2 _ λh=>B (by rw[<-h];exact bT.2 ⟨x,M,O⟩),λx M=>by rw[i];exact G.lo x M,G.ne,M.wf G.wf⟩
def SH.ajU(G:SH S H0 H L)(N:r∈S\/H0.bV<=r)(i:BX e H r ay)(I:vk P t=Z (kt,vt))(y:∀a b,mU P kt (e a) (e b)=Z (decide<|a=b))(kk:∀Q,BX e Q r (λj=>if j=k then Z v else ay j)->SH S H0 Q L->pN [r] H Q->K undef Q):ME (wV P t (.map<|Z r) (e k) v H) K:=by
 have B:=G.zP i;obtain⟨m,o,u,g3⟩:=i;have M:=pN.put H r<|.map<|Uy e<|upm k v m;obtain⟨a,b⟩:=G.amL N B o g3 M (by rw[wM,jj O]) (λq E=>by rw[wM,jx E]) O;exact ME.of (ael u I y)<|kk _ a b M
def SH.aem(G:SH S H0 H L)(N:r∈S\/H0.bV<=r)(i:BX e H r ay)(I:vk P t=Z (kt,vt))(y:∀a b,mU P kt (e a) (e b)=Z (decide<|a=b))(kk:∀Q,BX e (hM H Q) r (λj=>if j=k then Z v else ay j)->SH S H0 (hM H Q) L->pN [r] H (hM H Q)->CG H Q=⟨2,0,0,0,H,Q⟩->K undef Q):ME (wV P t (.map<|Z r) (e k) v<|Go.Ae.hN H) K:=by
 have B:=G.zP i;obtain⟨m,o,u,g3⟩:=i;have M:pN [r] H (hM H<|(Go.Ae.hN H).put r<|.map<|Uy e<|upm k v m):=(pN.put (Go.Ae.hN H) r _).draw;obtain⟨a,b⟩:=G.amL (v:=v) N B o g3 M (by show((Go.Ae.hN H).put r _).obj r=_;rw[wM,jj O]) (λq E=>by show((Go.Ae.hN H).put r _).obj q=_;rw[wM,jx E];rfl) rfl;exact ME.of (ael (H:=Go.Ae.hN H) u I y)<|kk _ a b M<|Ya (by rw[wN];show min H.bV r<_;omega)
theorem SH.mkMap{q:aI×aI}(G:SH S H0 H L)(I:vk P t=Z q)(kk:∀Q r,BX e Q r (λ_=>T)->Ext H Q->H.bV<=r->SH S H0 Q L->K (.map<|Z r) Q):ME (vw P t T H) K:=by
 refine ME.of (v:=.map<|Z H.bV) (H:=H.new<|.map []) ?_<|kk _ _ ⟨[],dI _,by rw[xV,jj O];rfl,λ_=>rfl⟩ (Ext.new _ _) (ax _)<|G.call<|Ext.new _ _;show aN (vk P t) _=_;rw[I];rfl
end
def aew{g:Cl->Cl}{H':Cl->Prop}(o:∀x y b,H' x->H' y->gG (g y) (g x) b=f->gG y x b=f):∀(ms:D Nat)(l:D Cl),(∀c∈l,H' c)->pairs gG ms (l.map g)=f->pairs gG ms l=f:=by
 have row:∀(x:Cl)(k:Nat)(l:D Cl),H' x->(∀c∈l,H' c)->jU gG (g x) k (l.map g)=f->jU gG x k l=f:=by
  intro x k l M
  induction l with
  |nil=>intro _ _;rfl
  |cons y l j=>
   intro h I;replace I:b_ (gG (g x) (g y)<|iP k<|len<|l.map g) (jU gG (g x) k<|l.map g) aA=f:=I;have⟨B,h4⟩:=BP I;show b_ (gG x y<|iP k<|len l) (jU gG x k l) aA=f;rw[h_,aM]at B;rw[h_,o y x _ (h y<|aK ..) M B,j (λc i=>h c<|bJ _ i) h4];rfl
 intro ms
 induction ms with
 |nil=>intro l _ _;rfl
 |cons k ms j=>
  intro l h I;cases l with
  |nil=>rfl
  |cons x l=>
   replace I:b_ (jU gG (g x) k<|l.map g) (pairs gG ms<|l.map g) aA=f:=I;have⟨B,h4⟩:=BP I;show b_ (jU gG x k l) (pairs gG ms l) aA=f;rw[row x k l (h x<|aK ..) (λc i=>h c<|bJ _ i) B,j l (λc i=>h c<|bJ _ i) h4];rfl
def g9(c:Cl):Cl:=⟨c.k,0,0,1,hh0,hh0⟩
theorem aex{x y:Cl}(x3:x.k≠3)(i:y.k≠3)(h:gG (g9 y) (g9 x) b=f):gG y x b=f:=by
 have r:∀w l:Cl,oV (g9 w) (g9 l)=aA:=λw l=>Jl (a:=hh0) (b:=hh0) (l:=g9 l) O (by show(1:Nat)≠0;decide);unfold gG at h|-;rw[Bv x3,Bv i];rw[show aB (g9 x).k 3=aA from Bv x3,show aB (g9 y).k 3=aA from Bv i,r,r,nR]at h
 revert h
 show b_ (aB y.k 0||aB x.k 0||aB y.k 5||aB x.k 5) f (b_ aA _<|b_ aA _<|b_ (aB x.k 4) (b_ (aB y.k 2) b f)<|b_ (aB y.k 4) (b_ (aB x.k 2) b f)<|b_ (aB x.k 1&&aB y.k 1) f b)=f->_;cases(aB y.k 0||aB x.k 0||aB y.k 5||aB x.k 5)<;>cases aB x.k 4<;>cases aB y.k 2<;>cases aB y.k 4<;>cases aB x.k 2<;>cases b<;>intro h<;>first|rfl|exact h|(cases h;done)
def aey{ops:Array Oper}{l:D Cl}{K:Prop}(i:all' (λc=>!(aB c.k 3)) (l.map g9)=f)(h:pairs gG (vB ops.toList [] 0) (l.map g9)=f)(k:K):kY ops l=f/\K:=by
 refine⟨?_,k⟩;unfold kY;rw[aew (H':=λc=>c.k≠3) (λx y b M o=>aex M o) _ l (λc j e=>?_) h]
 .cases noTwo l<;>rfl
 .rw[all_eq,fD]at i;have:=i (g9 c)<|List.mem_map_of_mem j;unfold g9 at this;rw[e]at this;cases this
end Go.Ae
