/-
  Part 06 of the proof. No condition.
-/
import Derived.Test.YtpngmpbmokhmiaaGreatDoorZ05
set_option linter.unusedVariables false
set_option linter.unusedSimpArgs false
set_option maxRecDepth 100000
set_option maxHeartbeats 4000000
set_option linter.defProp false
open Option renaming some->D,none->Q
open Bool renaming true->f,false->aC
open Go renaming Value->Z,TypeId->aH,Program->aU,Operand->bT,IntKind->fB,BinOp->rA
open Go.Value renaming int->bX,slice->I,pointer->uy,agg->Sg
open Nat renaming beq->aA,succ->bW,ble->aD,add->aZ,mul->bO
open UInt8 renaming ofNat->jd
open List.Perm renaming swap->gq,cons->dS
open ByteArray renaming mk->dh
open BitVec renaming ofInt->lq
noncomputable section
namespace Go.Proofs.Lu
open Go.Ae Go.Ae.cs
variable{A L gb:C dL}{bs M:C Z}{H T H0:R}{v:Z}{K Km:Z->R->Prop}{KM b c d ay g k m n r rb sz:Nat}{a x z:Int}{e ty:aH}{s:aV}
def Q0(p:Z->Prop)(H:R)(v:Z)(T:R):Prop:=p v/\T=H
def Q1(p:Z->R->Prop)(H:R)(v:Z)(T:R):Prop:=p v T/\Ext H T
def _root_.Go.Ae.F.cm{S:C Nat}{args:C Z}{p:Z->R->Prop}(G:F S H0 H L)(h:aO Pg X g args H<|Q1 p H)(k:∀v T,p v T->Ext H T->F S H0 T L->K v T):aO Pg X g args H K:=aO.mono h λv T hh=>k v T hh.1 hh.2<|G.call hh.2
abbrev isB(v:Z):Prop:=∃b,v=.bool b
def K5(c:Int):aO Pg X 197 [.int .u8 c] H (Q0 isB H):=by
 refine jS [0,2] ?_
 repeat' (first|(refine bG ?_)|(refine aT (λhc=>?_) λhc=>?_)|(refine rr ?_))
 all_goals exact⟨⟨_,O⟩,O⟩
theorem IK(c:Int):aO Pg X 169 [.int .u8 c] H (Q0 isB H):=by
 refine jS [0,2] ?_
 repeat' (first|(refine bG ?_)|((refine aO.mono (K5 _) ?_;rintro v T ⟨⟨b,rfl⟩,rfl⟩))|(refine aT (λhc=>?_) λhc=>?_)|(refine rr ?_))
 all_goals exact⟨⟨_,O⟩,O⟩
theorem Q3(c:Int):aO Pg X 198 [.int .u8 c] H (Q0 isB H):=by
 refine jS [0,2] ?_
 repeat' (first|(refine bG ?_)|((refine aO.mono (IK _) ?_;rintro v T ⟨⟨b,rfl⟩,rfl⟩))|(refine gF (λhb=>?_) λhb=>?_)|(refine rr ?_))
 all_goals exact⟨⟨_,O⟩,O⟩
def G8(c:Int):aO Pg X 173 [.int .u8 c] H (Q0 (λv=>∃k b,v=.tuple ⟨[vi k,.bool b]⟩) H):=by
 refine jS [0,2,3,4] ?_
 repeat' (first|(refine bG ?_)|(refine aT (λhc=>?_) λhc=>?_)|(refine rr ?_))
 all_goals exact⟨⟨_,_,O⟩,O⟩
abbrev aj7(s t:aV)(v:Z):Prop:=∃b:Bool,v=.bool b/\(b=f->∃r,s.data.toList=t.data.toList++r)
def Jg(s t:aV):aO Pg X 195 [.string s,.string t] H (Q0 (aj7 s t) H):=by
 refine ce [0,1,4] ?_;refine q_ (λhc=>?_) λhc=>?_
 .rw[ahp N];refine bG ?_;refine rr ?_;refine⟨⟨_,O,λh=>?_⟩,rfl⟩;have W:Go.Ae.part s 0 t.size=t:=fM h;have J:(Go.Ae.part s 0 t.size).data.toList=t.data.toList:=by rw[W]
  refine⟨s.data.toList.drop t.size,?_⟩;rw[<-J];exact(iP t.size s.data.toList).symm
 .refine rr ?_;exact⟨⟨_,O,λh=>by cases h⟩,rfl⟩
def Dk(s t:aV):aO Pg X 167 [.string s,.string t] H (Q0 (aj7 s t) H):=by
 refine jS [0,1,4] ?_;refine aO.mono (Jg s t) ?_;rintro v T ⟨⟨b,rfl,hb⟩,rfl⟩;refine rr ?_;exact⟨⟨_,O,hb⟩,O⟩
def TX(c:Int):aO Pg X 237 [.int .u8 c] H (Q0 (λv=>∃k b,v=.tuple ⟨[.int .i32 k,.bool b]⟩) H):=by
 refine jS [0,2,3] ?_
 repeat' (first|(refine bG ?_)|(refine aT (λhc=>?_) λhc=>?_)|(refine tl ?_)|(refine rr ?_))
 all_goals exact⟨⟨_,_,O⟩,O⟩
def K6(c:Int):aO Pg X 248 [.int .i32 c] H (Q0 isB H):=by
 refine jS [0,2] ?_
 repeat' (first|(refine bG ?_)|(refine aT (λhc=>?_) λhc=>?_)|(refine tl ?_)|(refine rr ?_))
 all_goals exact⟨⟨_,O⟩,O⟩
theorem Q4(c:Int):aO Pg X 238 [.int .i32 c] H (Q0 (λv=>∃s b,v=.tuple ⟨[.string s,.bool b]⟩) H):=by
 refine jS [0,2,3] ?_;refine aO.mono (K6 _) ?_;rintro v T ⟨⟨b,rfl⟩,rfl⟩
 repeat' (first|(refine bG ?_)|(refine gF (λhb=>?_) λhb=>?_)|(refine rr ?_))
 all_goals exact⟨⟨_,_,O⟩,O⟩
section
structure BV(H:R):Prop where
 first:∀i:Nat,i<256->∃x:Int,(x=240\/x=241\/x=2\/x=19\/x=3\/x=35\/x=52\/x=4\/x=68)/\H.cell 1 i=D (.int .u8 x)
 rng:∀i:Nat,i<16->∃a b:Int,H.read 2 (i*2) 2=D [.int .u8 a,.int .u8 b]
 lt:3<=H.next
theorem BV.ex(h:BV H)(E:Ext H T):BV T:=
 ⟨λi hi=>by
  have⟨x,W,J⟩:=h.first i hi
  exact⟨x,W,(kr (E.obj 1 (by have:=h.lt;omega) kg) _).trans J⟩,
  λi hi=>by
   have⟨a,b,J⟩:=h.rng i hi;exact⟨a,b,(rJ (E.obj 2 (by have:=h.lt;omega) kg) _ _).trans J⟩,
  a_ h.lt E.next⟩
def Yj(E:x=240\/x=241\/x=2\/x=19\/x=3\/x=35\/x=52\/x=4\/x=68):240<=x\/(x<240/\∃z q:Nat,2<=z/\z<=4/\q<16/\oC .i64 (aej .u8 x 7)=(z:Int)/\EI .u8 x 4=(q:Int)):=by
 rcases E with rfl|rfl|rfl|rfl|rfl|rfl|rfl|rfl|rfl
 .left;decide
 .left;decide
 .right;exact⟨by decide,2,0,by decide,by decide,by decide,by decide,by decide⟩
 .right;exact⟨by decide,3,1,by decide,by decide,by decide,by decide,by decide⟩
 .right;exact⟨by decide,3,0,by decide,by decide,by decide,by decide,by decide⟩
 .right;exact⟨by decide,3,2,by decide,by decide,by decide,by decide,by decide⟩
 .right;exact⟨by decide,4,3,by decide,by decide,by decide,by decide,by decide⟩
 .right;exact⟨by decide,4,0,by decide,by decide,by decide,by decide,by decide⟩
 .right;exact⟨by decide,4,4,by decide,by decide,by decide,by decide,by decide⟩
abbrev abH(s:aV)(v:Z)(T:R):Prop:=∃(r:Int)(k:Nat),v=.tuple ⟨[.int .i32 r,B k]⟩/\k<=4/\k<=s.size/\(0<s.size->0<k)
def F6(k:Nat)(hz:z=(k:Int))(h:k<s.size):∃c:UInt8,idS (.string s) (.int .i64 z)=D (.int .u8 (c.toNat:Int)):=by subst hz;exact⟨_,sZ h⟩
set_option maxHeartbeats 1000000 in
theorem Ch(hw:Wf H)(hT:BV H)(s:aV):aO Pg X 236 [.string s] H (Q1 (abH s) H):=by
 have G:=F.refl hw;refine ce [0,2,3,4,5,6,7,8,9,10,11,12] ?_;refine q_ (λW=>?_) λW=>?_
 .refine rr ?_;exact⟨⟨_,0,O,N,N,λh=>N⟩,G.ext⟩
 .have⟨c,e0⟩:=F6 (s:=s) (z:=0) 0 O N;have hc:c.toNat<256:=c.toNat_lt;simp only[e0,JB];rw[aaH hc];refine bG ?_;have⟨x,E,hcell⟩:=hT.first _ hc
  refine G.Be (by rw[dz];exact hcell) (by have:=hT.lt;omega) ?_;refine rV (λJ=>?_) λJ=>?_
  .refine rr ?_;exact⟨⟨_,1,O,N,N,λh=>N⟩,G.ext⟩
  .rcases Yj E with h3|⟨h3,z,q,hz1,hz2,hq,ez,eq⟩
   .exact absurd h3 J
   .rw[ez,eq,aaH hq];refine bG ?_;have⟨a,b,y⟩:=hT.rng q hq;refine G.Aj y (by have:=hT.lt;omega) ?_;refine G.iX λH1 r1 G=>G.st 0 O O kg O λH2 G=>?_;have G:F [] H H2 [(r1,353,[.int .u8 a,.int .u8 b])]:=G;refine rV (λh4=>?_) λh4=>?_
    .refine rr ?_;exact⟨⟨_,1,O,N,N,λh=>N⟩,G.ext⟩
    .have⟨c1,e1⟩:=F6 (s:=s) (z:=1) 1 O N;simp only[e1,JB];refine G.ld 0 O O ?_;refine rV (λh5=>?_) λh5=>?_
     .refine rr ?_;exact⟨⟨_,1,O,N,N,λh=>N⟩,G.ext⟩
     refine G.ld 0 O O ?_;refine rV (λh5=>?_) λh5=>?_
     .refine rr ?_;exact⟨⟨_,1,O,N,N,λh=>N⟩,G.ext⟩
     refine q_ (λh6=>?_) λh6=>?_
     .refine rr ?_;exact⟨⟨_,2,O,N,N,λh=>N⟩,G.ext⟩
     have⟨c2,e2⟩:=F6 (s:=s) (z:=2) 2 O N;simp only[e2];refine rV (λh7=>?_) λh7=>?_
     .refine rr ?_;exact⟨⟨_,1,O,N,N,λh=>N⟩,G.ext⟩
     refine aT (λh7=>?_) λh7=>?_
     .refine rr ?_;exact⟨⟨_,1,O,N,N,λh=>N⟩,G.ext⟩
     refine q_ (λh8=>?_) λh8=>?_
     .refine rr ?_;exact⟨⟨_,3,O,N,N,λh=>N⟩,G.ext⟩
     have⟨c3,e3⟩:=F6 (s:=s) (z:=3) 3 O N;simp only[e3];refine rV (λh7=>?_) λh7=>?_
     .refine rr ?_;exact⟨⟨_,1,O,N,N,λh=>N⟩,G.ext⟩
     refine aT (λh7=>?_) λh7=>?_
     .refine rr ?_;exact⟨⟨_,1,O,N,N,λh=>N⟩,G.ext⟩
     refine tp ?_;refine rr ?_;exact⟨⟨_,4,O,N,N,λh=>N⟩,G.ext⟩
def Q5(hw:Wf H)(hT:BV H)(s:aV):aO Pg X 221 [.string s] H (Q1 (abH s) H):=by
 refine ce [0,2,3] ?_;refine aj4 (λW=>?_) λW=>?_
 .have hs:0<s.size:=by
   rcases gM s.size with h|h
   .exfalso;apply W;have⟨⟨l⟩⟩:=s;have:l.length=0:=h;rw[dR]at this;subst this;rfl
   .exact h
  have⟨c,e0⟩:=F6 (s:=s) (z:=0) 0 O hs;simp only[e0];refine bG ?_;refine q_ (λJ=>?_) λJ=>?_
  .simp only[e0];refine bG ?_;refine rr ?_;exact⟨⟨_,1,O,N,N,λh=>N⟩,Ext.refl _⟩
  .refine aO.mono (Ch hw hT s) ?_;rintro v T ⟨⟨r,k,rfl,hk⟩,E⟩;simp only[ahq];refine bG ?_;refine tl<|rr ?_;exact⟨⟨_,k,O,hk⟩,E⟩
 .refine tp ?_;refine aO.mono (Ch hw hT s) ?_;rintro v T ⟨⟨r,k,rfl,hk⟩,E⟩;refine bG ?_;refine tl<|rr ?_;exact⟨⟨_,k,O,hk⟩,E⟩
end
section
def isByte(v:Z):Prop:=∃n:Nat,n<=255/\v=.int .u8 (n:Int)
def wrap_u8(n:Int):∃m:Nat,m<=255/\IntKind.wrap .u8 n=(m:Int):=by
 refine⟨(n %256).toNat,N,?_⟩;show n %(2^8:Int)=_;have:(2:Int)^8=256:=by decide
 rw[this];omega
def Q6(n:Int):isByte (.int .u8<|oC .u8 n):=by
 have:oC .u8 n=IntKind.wrap .u8 n:=by cases n<;>rfl
 rw[this];have⟨m,W,J⟩:=wrap_u8 n;exact⟨m,W,by rw[J]⟩
def G9(a b:Int):isByte (.int .u8<|bOr .u8 a b):=by have⟨m,W,J⟩:=wrap_u8<|BitVec.toNat<|lq (IntKind.u8).bits a|||lq (IntKind.u8).bits b;exact⟨m,W,by unfold bOr;rw[J]⟩
def ES(n:Nat)(h:n<=255):isByte (.int .u8 (n:Int)):=⟨n,h,O⟩
def abI(M:C Z)(h:∀x∈M,isByte x):∃bs,rT M=D bs/\bs.length=M.length:=by
 induction M with
 |nil=>exact⟨[],O,O⟩
 |cons x M ih=>
  have⟨bs,W,J⟩:=ih λhr hy=>h hr<|bH _ hy;obtain⟨n,hn,rfl⟩:=h x<|aN ..
  refine⟨jd n::bs,?_,by simp[J]⟩;show(aL (D (IntKind.u8,(n:Int))) λp=>aL (JU p.2) λn=>gd (I8 p.1&&aD n 255)<|aL (rT M) λbs=>D<|jd n::bs)=_;rw[W];show gd (aD n 255) _=_;rw[aI hn];rfl
def TY:∀{M:C Z}{l:C UInt8},rT M=D l->l.length=M.length:=by
 intro M
 induction M with
 |nil=>intro l h;cases h;rfl
 |cons x M ih=>
  intro l h;replace h:(aL (tL x) λp=>aL (JU p.2) λn=>gd (I8 p.1&&aD n 255)<|aL (rT M) λbs=>D<|jd n::bs)=D l:=h;have⟨p,_,h⟩:=aJ h;have⟨n,_,h⟩:=aJ h;have⟨_,h⟩:=fI h;have⟨bs,W,h⟩:=aJ h;cases h;simp[ih W]
def Wd(M:C Z)(h:∀x∈M,isByte x):all' fC M=f:=by
 rw[all_eq,eG];intro x E;obtain⟨n,_,rfl⟩:=h x E;rfl
section lit
variable{z:Z}{k:fB}{b c d:Int}
def agr:bS e [z] 1 1 [(0,.int k a)] H=D (I (D ⟨H.next,0,Q⟩) 1 1,H.new<|rowOf e [.int k a]):=rfl
def ags:bS e [z] 1 2 [(0,.int k a),(1,.int k b)] H=D (I (D ⟨H.next,0,Q⟩) 2 2,H.new<|rowOf e [.int k a,.int k b]):=rfl
def abJ:bS e [z] 1 3 [(0,.int k a),(1,.int k b),(2,.int k c)] H=D (I (D ⟨H.next,0,Q⟩) 3 3,H.new<|rowOf e [.int k a,.int k b,.int k c]):=rfl
def agt:bS e [z] 1 4 [(0,.int k a),(1,.int k b),(2,.int k c),(3,.int k d)] H=D (I (D ⟨H.next,0,Q⟩) 4 4,H.new<|rowOf e [.int k a,.int k b,.int k c,.int k d]):=rfl
end lit
def Q7(H0:R)(L:C dL)(bs:C Z)(v':Z)(T:R):Prop:=∃xs gQ,GB 5 1 v' (bs++xs) gQ/\F [] H0 T (gQ++L)/\(∀x∈xs,isByte x)/\xs.length<=4/\0<xs.length
def Dl(hg:GB 5 1 v bs gb)(G:F [] H0 H<|gb++L)(hl:bs.length<=10000000){xs:C Z}(hxs:xs.length=m+1)(hm:m<=3)(hb:∀x∈xs,isByte x)(k:∀v' T,Q7 H0 L bs v' T->K v' T):ME (zY 5 1 v (I (D ⟨H.next,0,Q⟩) (m+1)<|m+1)<|H.new<|rowOf 5 xs) K:=by
 have hS2:=G.grow 5 xs;have⟨v',H1,gQ,W,J,h3,_⟩:=hg.app (m:=m) (cx:=m+1) hS2 N N (Wd xs hb) N N;rw[W];exact k v' H1 ⟨xs,gQ,J,h3,hb,N,N⟩
set_option maxHeartbeats 1000000 in
theorem K7(hg:GB 5 1 v bs gb)(G:F [] H0 H<|gb++L)(hl:bs.length<=10000000)(r:Int):
 aO Pg X 240 [v,.int .i32 r] H (Q7 H0 L bs):=by
 refine ce [0,1,4,5] ?_;refine q_ (λW=>?_) λW=>?_
 .refine ME.of ags ?_;refine Dl hg G hl (m:=1) O N (by intro x E;simp at E;rcases E with rfl|rfl<;>exact G9 _ _) λv' T h=>?_;exact rr<|h
 .have fin:∀c u,Bc u 25=.bool c->gK Pg X (sub pU [1,1,0,1,1,1]) (pI v (.int .i32 r) (I Q 0 0) (.int .u32<|oC .u32 r) u H) (sw 0<|jL Pg [.tmp 4]<|Q7 H0 L bs):=by
   intro c u hc;refine tl ?_;rw[hc];refine qx (λJ=>?_) λJ=>?_
   .refine ME.of abJ ?_;refine Dl hg G hl (m:=2) O N (by intro x E;simp at E;rcases E with rfl|rfl|rfl<;>exact G9 _ _) λv' T h=>?_;exact rr<|h
   .have K8:∀c u,Bc u 50=.bool c->gK Pg X (sub pU [1,1,0,1,1,1,1,1]) (pI v (.int .i32 r) (I Q 0 0) (.int .u32<|oC .u32 r) u H) (sw 0<|jL Pg [.tmp 4]<|Q7 H0 L bs):=by
     intro c u hc;refine tl ?_;rw[hc];refine qx (λJ=>?_) λJ=>?_
     .refine ME.of agt ?_;refine Dl hg G hl (m:=3) O N (by intro x E;simp at E;rcases E with rfl|rfl|rfl|rfl<;>exact G9 _ _) λv' T h=>?_;exact rr<|h
     .refine ME.of abJ ?_;refine Dl hg G hl (m:=2) O N (by intro x E;simp at E;rcases E with rfl|rfl|rfl<;>first|exact ES 239 N|exact ES 191 N|exact ES 189 N) λv' T h=>?_;exact rr<|h
    refine aT (λh3=>?_) λh3=>?_
    .exact K8 _ _ (by simp only[xF,BK];rfl)
    .exact K8 _ _ (by simp only[xF,BK];rfl)
  refine aT (λJ=>?_) λJ=>?_
  .exact fin _ _ (by simp only[xF,BK];rfl)
  .refine aT (λh3=>?_) (λh3=>?_)
   .exact fin _ _ (by simp only[xF,BK];rfl)
   .exact fin _ _ (by simp only[xF,BK];rfl)
def Jh(hg:GB 5 1 v bs gb)(G:F [] H0 H<|gb++L)(hl:bs.length<=10000000)(r:Int):
 aO Pg X 224 [v,.int .i32 r] H (Q7 H0 L bs):=by
 refine ce [0,1,4] ?_;refine q_ (λW=>?_) λW=>?_
 .refine ME.of agr<|Dl hg G hl (m:=0) O N (by intro x E;simp at E;rcases E with rfl;exact Q6 _) λv' T h=>?_;exact rr<|h
 .exact aO.mono (K7 hg G hl r) λv' T h=>rr<|h
abbrev bu(rb:Nat)(p:aB Addr)(v:Z):dL:=(rb,301,[.pointer p,v])
def Q8(t:aH)(ox:bT)(op:rA)(a:Addr)(ht:Gu Pg t=1)(hop:zh op=1):lY Pg op t ox (.const<|.pointer Q) (.pointer<|D a) (.pointer Q)=D (.bool aC):=by
 show CB op (Zb Pg t ox (.const<|.pointer Q) (.pointer<|D a)<|.pointer Q)=_;show CB op (MN (Gu Pg t) (.pointer Q)<|.pointer<|D a)=_;rw[ht];show bV (aA (zh op) 1) _ _=_;rw[hop];rfl
def OZ(t:aH)(ox:bT)(op:rA)(ht:Gu Pg t=1)(hop:zh op=1):lY Pg op t ox (.const<|.pointer Q) (.pointer Q) (.pointer Q)=D (.bool f):=by
 show CB op (MN (Gu Pg t) (.pointer Q)<|.pointer Q)=_;rw[ht];show bV (aA (zh op) 1) _ _=_;rw[hop];rfl
def My(x:Z):aO Pg X 239 [x] H (Q0 (λv=>v=x) H):=by
 refine⟨x,H,⟨1,?_⟩,O,O⟩;rfl
def GH{P:aU}{ty s e:Nat}(hb:Bk H r ty M)(h:0<M.length)(hq:Zu P s d=D (3,e,0))(hs:wo P e=D sz)(W:1<=sz):
 uL P s d (.pointer<|D ⟨r,0,Q⟩) H=D (.pointer<|D ⟨r,0,Q⟩,H):=by
 have⟨az,e1,_,e2,_⟩:=hb;unfold uL;rw[hq];show(aL (wo P e) λs=>aL (vZ<|H.obj r) λw=>gd (aD 1 s&&aD 1 w.n)<|D (uy<|D ⟨r,0,Q⟩,H))=_;rw[hs,e1];show gd (aD 1 sz&&aD 1 az.n) _=_;rw[e2,aI W,aI h];rfl
def GI{P:aU}{ty s:Nat}(hb:Bk H r ty M)(hq:Zu P s d=D (4,ty,0))(hs:wo P ty=D sz)(W:1<=sz)(h:sz<=M.length):
 uL P s d (.pointer<|D ⟨r,0,Q⟩) H=D (.pointer<|D ⟨r,0,Q⟩,H):=by
 have⟨az,e1,e3,e2,_⟩:=hb;unfold uL;rw[hq];show(aL (wo P ty) λs=>aL (vZ<|H.obj r) λw=>gd (aD 1 s&&aA w.ty ty&&aA 0 0&&aD s w.n)<|D (uy<|D ⟨r,0,Q⟩,H))=_;rw[hs,e1];show gd (aD 1 sz&&aA az.ty ty&&aA 0 0&&aD sz az.n) _=_;rw[e2,e3,aI W,aI h,dD];rfl
def CV.me{o:aB Z}{q:aB (Z×R)}{H1:R}{Kp:Z->Prop}(ho:o=Q)(hq:q=D (v,H1))(k:Km v H1):CV o q Kp Km:=by rw[ho,hq];exact k
def abK(t:aH)(i j:Nat)(r:Nat)(ht:Gv Pg t=f):lY Pg .neq t (.tmp i) (.tmp j) (.pointer<|D ⟨r,0,Q⟩) (.pointer<|D ⟨r,0,Q⟩)=D (.bool aC):=by
 show CB .neq (bV (Gv Pg t) (Go.Ae.ptrEq (.pointer<|D ⟨r,0,Q⟩)<|.pointer<|D ⟨r,0,Q⟩) _)=_;rw[ht];show CB .neq (gd (aA r r)<|D<|aA 0 0)=_;rw[dD];rfl
theorem K9{p:aB Addr}(hp:p=Q\/p=D ⟨rb,0,Q⟩)(G:F [] H0 H<|bu rb p v::L):
 aO Pg X 223 [.pointer (D ⟨rb,0,Q⟩)] H λw T=>F [] H0 T (bu rb (D ⟨rb,0,Q⟩) v::L):=by
 refine Fh [0] ?_;refine G.ld 0 O O ?_;rcases hp with rfl|rfl
 .rw[OZ _ _ _ jr O];refine bG ?_;refine CV.me jr (GH (sz:=2) (e:=301) (G.get 0 O) (vC _) jr jr N)<|aO.mono (My _) ?_;rintro w T ⟨rfl,rfl⟩;refine CV.me jr (GI (sz:=2) (G.get 0 O) jr jr N<|ax _)<|G.st 0 O O (by show 0+1<=2;omega) rfl λH1 G=>?_;exact rn<|G
 .rw[Q8 _ _ _ _ jr O];refine bG ?_;refine G.ld 0 O O ?_;rw[abK _ _ _ _ jr];refine bG ?_;exact rn<|G
def Ji(rb:Nat)(bs:C Z)(A:C dL):Prop:=∃p v gb,(p=Q\/p=D ⟨rb,0,Q⟩)/\GB 5 1 v bs gb/\A=bu rb p v::gb/\(∀x∈bs,isByte x)/\(bs=[]->v=I Q 0 0)
def Dm(hb:Ji rb bs A)(G:F [] H0 H<|A++L)(hl:bs.length<=1000000)(r:Int):
 aO Pg X 202 [.pointer (D ⟨rb,0,Q⟩),.int .i32 r] H λw T=>(∃x hr,w=.tuple ⟨[x,hr]⟩)/\∃xs A',Ji rb (bs++xs) A'/\xs.length<=4/\F [] H0 T (A'++L):=by
 obtain⟨p,v,gb,hp,hg,rfl,hby,_⟩:=hb;refine jS [0,1,4,5,6] ?_;refine aO.mono (K9 (L:=gb++L) hp G) ?_;intro w H1 G;obtain⟨a,n,c,rfl,hn,_⟩:=hg.fl<|F.drop (A:=[bu rb (D ⟨rb,0,Q⟩) v]) G;refine bG ?_;refine G.ld 0 O O ?_;refine bG ?_;refine G.ld 0 O O ?_;have hS2:F [] H0 H1 (gb++(bu rb (D ⟨rb,0,Q⟩) (I a n c)::L)):=G.perm i_.symm;refine aO.mono (Jh hg hS2 N r) ?_;rintro v' H2 ⟨xs,gQ,hg',sG,hxs,hxl,hx0⟩;have vJ:F [] H0 H2 (bu rb (D ⟨rb,0,Q⟩) (I a n c)::(gQ++L)):=sG.perm i_;refine vJ.st 0 O hg'.fC.2.1 (by show 1+1<=2;omega) hg'.fC.1 λH3 hS5=>?_;have hS5:F [] H0 H3 (bu rb (D ⟨rb,0,Q⟩) v'::(gQ++L)):=by rw[hg'.fC.2.2]at hS5;exact hS5
 refine hS5.ld 0 O O ?_;obtain⟨a',n',c',rfl,hn',_⟩:=hg'.fl<|F.drop (A:=[bu rb (D ⟨rb,0,Q⟩) _]) hS5;have hnl:n'=n+xs.length:=by rw[aQ]at hn';omega
 refine bG ?_;rw[pg N N];refine bG ?_;refine rr ?_;refine⟨⟨_,_,O⟩,xs,_,⟨_,_,gQ,.inr O,hg',O,?_,λh=>?_⟩,hxl,hS5⟩;rotate_left
 .rw[List.append_eq_nil_iff]at h;rw[h.2]at hx0;exact absurd hx0 kg
 intro x E;rcases bZ.1 E with h|h
 .exact hby x h
 .exact hxs x h
theorem F7{eB:C Z}(hb:Bk H r 5<|bs++eB)(y:r<H.next)(hby:∀x∈bs,isByte x)(hn:bs.length=n+1)(hm:n+1<=16777216):
 ∃s T,xh Pg [289,3] [.pointer (D ⟨r,0,Q⟩),B<|n+1] H=D (.string s,T)/\rT bs=D s.data.toList/\oN [r] H T/\T.low<=r:=by
 have⟨az,W,J,h3,h4,h5,h6⟩:=hb;have⟨l,e1,e2⟩:=abI bs hby
 have ht:Tr.Ep top az.cells 0 (n+1)=bs:=by
  rw[aaD (k:=0) az.cells (bs++eB) I6 h6];simp only[jf];rw[<-hn,qi]
 have hq:xh Pg [289,3] [.pointer (D ⟨r,0,Q⟩),B<|n+1] H=U7 Pg 289 ⟨r,0,Q⟩ (n+1) H:=rfl
 have hu:U7 Pg 289 ⟨r,0,Q⟩ (n+1) H=aL (vZ<|H.obj r) λw=>gd (HZ Pg 5&&aA w.ty 5&&aA 1 1&&aD (aZ 0<|n+1) w.n&&aD (n+1) 16777216)
  (aL (rT<|Tr.Ep top w.cells 0<|n+1) λbs=>D (.string ⟨⟨bs⟩⟩,H.put r<|.row ⟨w.ty,w.cells,w.n,w.kY,bV (aD w.fz<|aZ 0<|n+1) (aZ 0<|n+1) w.fz⟩)):=by kernel_rfl
 rw[hq,hu,W];refine⟨⟨⟨l⟩⟩,H.put r<|.row ⟨az.ty,az.cells,az.n,az.kY,bV (aD az.fz<|aZ 0<|n+1) (aZ 0<|n+1) az.fz⟩,?_,e1,oN.put _ _ _,by rw[u_];omega⟩;show gd (HZ Pg 5&&aA az.ty 5&&aA 1 1&&aD (aZ 0<|n+1) az.n&&aD (n+1) 16777216) (aL (rT<|Tr.Ep top az.cells 0<|n+1) _)=_;rw[ht,e1,J,h3,show HZ Pg 5=f by kernel_rfl,aI hm,aI (show aZ 0 (n+1)<=(bs++eB).length by show 0+(n+1)<=_;simp;omega)];rfl
def Q9(hb:Ji rb bs A)(G:F [] H0 H<|A++L)(hl:bs.length<=1000000):
 aO Pg X 200 [.pointer (D ⟨rb,0,Q⟩)] H λw T=>(∃s,w=.string s/\rT bs=D s.data.toList)/\F [] H0 T L:=by
 obtain⟨p,v,gb,hp,hg,rfl,hby,hnil⟩:=hb;refine Fh [0,2] ?_;refine G.Mm 0 O O ?_;simp only[gN G.wf];rcases hg with⟨rfl,rfl,rfl⟩|⟨r,n,eB,rfl,hn,rfl⟩
 .refine ME.of (v:=.pointer Q) (H:=Go.Ae.hN H) O ?_;simp only[gN G.wf];refine G.Mm 0 O O ?_;simp only[gN G.wf];refine bG ?_;refine ME.of (v:=.string ⟨⟨[]⟩⟩) (H:=Go.Ae.hN H) jr ?_;simp only[gN G.wf];refine⟨Im ?_,?_⟩
  .simp only[d_,fP<|Ext.refl<|hN _];rfl
  .refine rr ?_;exact⟨⟨_,O,O⟩,F.drop (A:=[bu rb p _]) G⟩
 .obtain⟨n,rfl⟩:∃m,n=m+1:=by
   cases n with
   |succ n=>exact⟨n,O⟩
   |zero=>
    have:bs=[]:=dR.1<|mg hn;exact absurd (hnil this) kg
  refine ME.of (v:=.pointer<|D ⟨r,0,Q⟩) (H:=Go.Ae.hN H) O ?_;simp only[gN G.wf];refine G.Mm 0 O O ?_;simp only[gN G.wf];refine bG ?_;have hb:Bk (Go.Ae.hN H) r 5 (bs++eB):=G.get 1 O;have y:=(G.lo (r,5,bs++eB) kg).2;have⟨s,H1,e1,e2,e3,e4⟩:=F7 (n:=n) hb y hby N N;refine ME.of e1 ?_;have hlow:H1.low<H.next:=N
  simp only[d_,fP<|Ext.refl<|hN _,VJ hlow];refine⟨by kernel_rfl,?_⟩;refine rr ?_;refine⟨⟨_,O,e2⟩,?_⟩;have hS2:F [] H0 H ([bu rb p (I (D ⟨r,0,Q⟩) (n+1)<|fJ 1),(r,5,bs++eB)]++L):=G;exact F.turn (A':=[]) hS2 (e3.draw.weaken (by intro x E;simp at E;simp[E])) (nofun) List.Pairwise.nil
end
section
def IL(l:C UInt8):∀x∈o8 l,isByte x:=by
 intro x E;rw[show o8 l=l.map (λb=>bX .u8<|.ofNat b.toNat)from Fs _ _]at E;rw[bQ]at E;obtain⟨b,_,rfl⟩:=E;exact⟨b.toNat,by have:=b.toNat_lt;omega,rfl⟩
def K_(l:C UInt8):(o8 l).length=l.length:=by rw[show o8 l=l.map (λb=>bX .u8<|.ofNat b.toNat)from Fs _ _];simp
def F.ahB(G:F [] H0 H<|(r,5,M)::L)(hn:s.size=n)(hc:M.length=n)(k:∀H1,F [] H0 H1 ((r,5,o8 s.data.toList)::L)->K (B n) H1):ME (cpA 1 (I (D ⟨r,0,Q⟩) n n) (.string s) H) K:=by
 have hl:s.data.toList.length=n:=hn;have hbl:(o8 s.data.toList).length=n:=by rw[K_];exact hl
 have⟨H1,W,J,_⟩:=G.zZ (vs:=o8 s.data.toList) (o:=0) 0 O N<|Wd _<|IL _;rw[nL _ _ N]at J
 have e:cpA 1 (I (D ⟨r,0,Q⟩) n n) (.string s) H=D (B n,H1):=by
  show(aL (H.write r 0<|tk (bO (bV (aD (len s.data.toList) n) (len s.data.toList) n) 1)<|o8 s.data.toList) λT=>D (bX .i64<|.ofNat<|bV (aD (len s.data.toList) n) (len s.data.toList) n,T))=_;rw[fU,hl,aI<|ax n,oz,HY,cO (by show _<=n*1;omega),W];rfl
 rw[e];exact k H1 J
def abL:∀(l:C UInt8),rT (o8 l)=D l:=by
 intro l
 induction l with
 |nil=>rfl
 |cons b l ih=>
  show(aL (JU<|.ofNat b.toNat) λn=>gd (I8 .u8&&aD n 255)<|aL (rT<|o8 l) λbs=>D<|jd n::bs)=_;rw[ih];show gd (aD b.toNat 255) (D<|jd b.toNat::l)=_;rw[aI (by have:=b.toNat_lt;omega),zR];simp
def Q_(hw:Wf H)(s:aV)(hs:s.size<=1000000):aO Pg X 155 [.string s] H (Q1 (λv _=>v=.string s) H):=by
 have G:=F.refl hw;refine ce [0,2,3] ?_;refine q_ (λh=>?_) λh=>?_
 .refine rr ?_;refine⟨?_,Ext.refl _⟩;have h0:s.data.toList=[]:=dR.1 (show s.size=0 by omega);have⟨⟨l⟩⟩:=s;have h0:l=[]:=h0;subst h0;rfl
 .refine G.mkS (ax _) N λH1 r G=>?_;refine F.ahB G O (by rw[Nq];simp) λH2 G=>?_;obtain⟨n,hn⟩:∃n,s.size=n+1:=⟨s.size-1,N⟩;rw[show zN 1 (I (D ⟨r,0,Q⟩) s.size s.size) (.int .i64 0)=_ from tX (k:=0) N];refine bG ?_;have hb:Bk H2 r 5 (o8 s.data.toList++[]):=by rw[bq];exact G.get 0 O
  have y:=(G.lo _<|aN ..).2;have⟨t,H3,e1,e2,e3,e4⟩:=F7 (n:=n) hb y (IL _) (by rw[K_];exact hn) N;rw[hn];refine ME.of e1 ?_
  have et:t=s:=by
   rw[abL]at e2;have e2:=dK e2;have⟨⟨l⟩⟩:=s;have⟨⟨l'⟩⟩:=t;have e2:l=l':=e2;rw[e2]
  refine rr ?_;refine⟨by rw[et],?_⟩
  exact G.ext.later e3 (λq hq=>by
   simp at hq;subst hq;exact .inr<|G.wQ<|aN ..)
def xL(hw:Wf H)(s:aV)(hs:s.size<=1000000):aO Pg X 126 [.string s] H (Q1 (λv _=>v=.string s) H):=by
 refine jS [0,2] ?_;refine aO.mono (Q_ hw s hs) ?_;rintro v T ⟨rfl,E⟩;refine rr ?_;exact⟨O,E⟩
def abM(c:Nat):∀(l:C UInt8)(k:Nat),yF c l k=Q\/∃j,yF c l k=D j/\k<=j/\∃b,l[j-k]?=D b/\b.toNat=c:=by
 intro l
 induction l with
 |nil=>intro k;exact .inl O
 |cons b l ih=>
  intro k;show bV (aA b.toNat c) (D k) (yF c l<|bW k)=Q\/∃j,bV (aA b.toNat c) (D k) (yF c l<|bW k)=D j/\_;cases hb:aA b.toNat c with
  |true=>exact .inr ⟨k,O,ax _,b,by simp,aW hb⟩
  |false=>
   rcases ih (bW k)with h|⟨j,W,J,b',h3,h4⟩
   .exact .inl h
   .refine .inr ⟨j,W,N,b',?_,h4⟩;obtain⟨d,hd⟩:∃d,j=d+k+1:=⟨j-k-1,N⟩;rw[show j-bW k=d by omega]at h3;rw[show j-k=d+1 by omega,dZ,h3]
abbrev foundAt(s:aV)(c:Nat)(v:Z):Prop:=v=vi (-1)\/∃k:Nat,v=B k/\k<s.size/\∃b,s.data.toList[k]?=D b/\b.toNat=c
def Ra(s:aV)(c:Nat)(hc:c<=255):aO Pg X 220 [.string s,.int .u8 (c:Int)] H (Q0 (foundAt s c) H):=by
 have e:kE Pg X 1 220 [.string s,.int .u8 (c:Int)] H=D (SA<|yF c s.data.toList 0,H):=by
  have e0:kE Pg X 1 220 [.string s,.int .u8 (c:Int)] H=aL (gd (aD c 255&&f)<|D (s,c)) λx=>D (SA<|yF x.2 x.1.data.toList 0,H):=by kernel_rfl
  rw[e0,aI hc];rfl
 refine⟨_,H,⟨1,e⟩,?_,O⟩;rcases abM c s.data.toList 0 with h|⟨j,h,_,b,h3,h4⟩
 .rw[h];exact .inl O
 .rw[h];refine .inr ⟨j,O,?_,b,h3,h4⟩;have:=(bE.mp h3).1;have h5:s.data.toList.length=s.size:=rfl;omega
def Rb(s:aV)(c:Nat)(hc:c<=255):aO Pg X 196 [.string s,.int .u8 (c:Int)] H (Q0 (foundAt s c) H):=by
 refine jS [0,1,4] ?_;refine aO.mono (Ra s c hc) ?_;rintro v T ⟨hv,rfl⟩;refine rr ?_;exact⟨hv,O⟩
def index_spec(s:aV)(c:Nat)(hc:c<=255):aO Pg X 168 [.string s,.int .u8 (c:Int)] H (Q0 (foundAt s c) H):=by
 refine jS [0,1,4] ?_;refine aO.mono (Rb s c hc) ?_;rintro v T ⟨hv,rfl⟩;refine rr ?_;exact⟨hv,O⟩
def gK.aew{P:aU}{X:Xt}{c:Code}{s:St}{K:Out->Prop}(h:gK P X c s K):gK P X (.seq .skip c) s K:=gK.seq ⟨_,_,Ev.skip,Bb.refl _,h⟩
abbrev aex(s:aV)(at':Nat)(v:Z):Prop:=∃k:Nat,v=B k/\at'<=k/\k<=s.size
def ET:findLabel (sub mH [1,0]) 0=D (.seq .skip<|sub mH [1,0,1]):=by kernel_rfl
set_option maxHeartbeats 1000000 in
def AU(s:aV)(nM:Nat)(h0:nM<=s.size)(hs:s.size<=1000000):aO Pg X 140 [.string s,B nM] H (Q0 (aex s nM) H):=by
 refine jS [0,1,4,5] ?_
 let az:Nat->Nat->St->Prop:=λn l st=>l=0/\∃(k:Nat)(x5:Z)(u:C<|Nat×Z),k+n=s.size/\nM<=k/\st=rX (.string s) (B k) (.int .i64 0) x5 u H
 have step:∀(n k:Nat)(x5:Z),k+n=s.size->nM<=k->k<s.size->∀z_,gtW (sub mH [1,0]) az n (jL Pg [.tmp 4]<|Q0 (aex s nM) H) (.goto 0<|rX (.string s) (vi<|(k:Int)+1) (.int .i64 0) x5 z_ H):=by
  intro n k x5 hk hat hlt z_;rw[KI ET];exact⟨n-1,N,O,k+1,x5,z_,N,N,O⟩
 have tail:∀(n k:Nat)(x5:Z),k+n=s.size->nM<=k->∀z_,gK Pg X (sub mH [1,0,1,1]) (rX (.string s) (B k) (.int .i64 0) x5 z_ H) (gtW (sub mH [1,0]) az n<|jL Pg [.tmp 4]<|Q0 (aex s nM) H):=by
  intro n k x5 hk hat z_;refine tl ?_;rw[AL N];refine bG ?_;refine aO.mono (Dk _ _) ?_;rintro v T ⟨⟨b,rfl,alU⟩,rfl⟩;refine qx (λhb=>?_) λhb=>?_
  .refine aO.mono (index_spec _ 10 N) ?_;rintro v T ⟨hv,rfl⟩;rcases hv with rfl|⟨j,rfl,hj,c,hc1,hc2⟩
   .refine bG ?_;rw[dB N];refine bG ?_;simp only[JD];refine rr ?_;exact⟨⟨s.size,O,N,N⟩,O⟩
   .refine bG ?_;rw[p8 _ N (ax _)]at hj
    have hj0:j≠0:=by
     rintro rfl;have⟨r,y⟩:=alU hb;rw[y]at hc1;cases hc1
     revert hc2
     decide
    rw[bL N];refine bG ?_;rw[fD N N];refine bG ?_;rw[KI ET];exact⟨n-j,N,O,k+j,B j,_,N,N,O⟩
  .simp only[JD];refine rr ?_;exact⟨⟨k,O,N,N⟩,O⟩
 have goal:∀n(k:Nat)(x5:Z)(u:C<|Nat×Z),k+n=s.size->nM<=k->gK Pg X (sub mH [1,0,1]) (rX (.string s) (B k) (.int .i64 0) x5 u H) (gtW (sub mH [1,0]) az n<|jL Pg [.tmp 4]<|Q0 (aex s nM) H):=by
  intro n k x5 u hk hat;refine tp ?_;refine aT (λhc=>?_) λhc=>tail n k x5 hk hat _;rw[sZ N];refine qx (λhb=>?_) λhb=>?_
  .rw[fD N N];refine bG ?_;exact step n k x5 hk hat N _
  refine gF (λhb=>?_) λhb=>?_
  .rw[fD N N];refine bG ?_;exact step n k x5 hk hat N _
  refine gF (λhb=>?_) λhb=>?_
  .rw[fD N N];refine bG ?_;exact step n k x5 hk hat N _
  refine gF (λhb=>?_) λhb=>?_
  .rw[fD N N];refine bG ?_;exact step n k x5 hk hat N _
  exact tail n k x5 hk hat _
 refine gK.scope az ?_ (s.size-nM) ?_
 .rintro n l st rest ⟨rfl,k,x5,u,hk,hat,rfl⟩ hf;rw[ET]at hf;cases hf;exact gK.aew<|goal n k x5 u hk hat
 .refine tp ?_;refine aT (λhc=>?_) λhc=>tail _ nM _ N N _;rw[sZ N];refine qx (λhb=>?_) λhb=>?_
  .rw[fD N N];refine bG ?_;exact step (s.size-nM) nM _ N N N _
  refine gF (λhb=>?_) λhb=>?_
  .rw[fD N N];refine bG ?_;exact step (s.size-nM) nM _ N N N _
  refine gF (λhb=>?_) λhb=>?_
  .rw[fD N N];refine bG ?_;exact step (s.size-nM) nM _ N N N _
  refine gF (λhb=>?_) λhb=>?_
  .rw[fD N N];refine bG ?_;exact step (s.size-nM) nM _ N N N _
  exact tail _ nM _ N N _
end
def NH(h:a=b):vi a=B b:=by subst h;rfl
abbrev abN(s:aV)(k:Nat)(v:Z)(T:R):Prop:=∃(a n:Nat)(r:Int)(ok:Bool),v=.agg ⟨[B a,B n,.int .i32 r,.bool ok]⟩/\(k<s.size->0<n)/\k+n<=s.size
def We(hw:Wf H)(hT:BV H)(s:aV)(k:Nat)(hk:k<=s.size):aO Pg X 199 [.string s,B k] H (Q1 (abN s k) H):=by
 have G:=F.refl hw;refine jS [0,1,4,5,6] ?_;refine G.iX λHn r G=>?_;refine bG ?_;rw[dB N];refine rV (λhc=>?_) λhc=>?_
 .refine PU.b4 O<|G.jH λHn G=>rr ?_;refine G.iI<|⟨⟨0,0,0,aC,O,N,N⟩,G.ext⟩
 .refine tl ?_;rw[AL N];refine bG ?_;refine G.cm (Q5 G.wf (hT.ex G.ext) _) ?_;rintro v T ⟨x,n,rfl,W,J,h3⟩ E G;have hp:=p8 s hk<|ax _
  have fin:∀u,gK Pg X (sub abF [1,1,1,1]) (Yg (.string s) (B k) (.pointer<|D ⟨r,0,Q⟩) (.int .i32 x) (B n) u T) (jL Pg [.cell 4 303]<|Q1 (abN s k) H):=by
   intro u;refine tm ?_;refine G.jH λHn G=>rr ?_;exact G.iI<|⟨⟨k,n,x,f,O,N,N⟩,G.ext⟩
  refine bG ?_;refine aT (λhc=>?_) λhc=>fin _;refine aT (λhc=>?_) λhc=>fin _;refine eU ?_;refine G.jH λHn G=>rr ?_;exact G.iI<|⟨⟨k,1,65533,aC,O,N,N⟩,G.ext⟩
abbrev NI(s:aV)(v:Z):Prop:=∃(r:Int)(n:Nat)(b:Bool),v=.tuple ⟨[.int .i32 r,B n,.bool b]⟩/\n<=s.size
theorem Re(s:aV):aO Pg X 222 [.string s] H (Q0 (NI s) H):=by
 refine jS [0,2,3,4,5,6,7,8,10] ?_;have bad:NI s (.tuple ⟨[.int .i32 0,.int .i64 0,.bool aC]⟩):=⟨0,0,aC,O,bA _⟩;refine rV (λhc=>?_) λhc=>?_
 .refine rr ?_;exact⟨bad,O⟩
 rw[show idS (.string s) (.int .i64 1)=_ from sZ (k:=1) N];refine wR (λhc=>?_) λhc=>?_
 .refine rr ?_;exact⟨bad,O⟩
 refine tl ?_;refine NG 5 6 7 8 (ai:=λn x5 x6 x7 x8 T=>T=H/\∃(r:Int)(k:Nat),x5=.int .i32 r/\x6=B k/\2<=k/\k<=s.size/\k+n=8) ?_ 6 ⟨rfl,0,2,rfl,rfl,N,N,N⟩;rintro n x5 x6 x7 x8 u T ⟨rfl,r,k,rfl,rfl,W,J,h3⟩
 have fin:∀x7 x8 u,gK Pg X (sub K4 [1,1,1,1]) (Jf (.string s) (.int .i32 0) (.int .i64 0) (.bool aC) (.int .i32 r) (B k) x7 x8 top u T) (jL Pg [.tmp 2,.tmp 3,.tmp 4]<|Q0 (NI s) T):=by
  intro x7 x8 u;refine q_ (λhc=>?_) λhc=>?_
  .refine rr ?_;exact⟨bad,O⟩
  refine aT (λhc=>?_) λhc=>?_
  .refine rr ?_;exact⟨bad,O⟩
  rw[sZ N];refine wR (λhc=>?_) λhc=>?_
  .refine rr ?_;exact⟨bad,O⟩
  refine tl<|aO.mono (Q4 _) ?_;rintro v T ⟨⟨t,b,rfl⟩,rfl⟩;refine qx (λhb=>?_) λhb=>?_
  .refine rr ?_;exact⟨bad,O⟩
  rw[fD N N];refine bG ?_;refine rr ?_;exact⟨⟨r,k+1,f,O,N⟩,O⟩
 refine tp ?_;refine aT (λhc=>?_) λhc=>fin _ _ _;refine aT (λhd=>?_) λhc=>fin _ _ _;refine tl ?_;rw[sZ N];refine bG ?_;refine aO.mono (TX _) ?_;rintro v T ⟨⟨d,b,rfl⟩,rfl⟩;refine bG ?_;refine gF (λhb=>fin _ _ _) λhb=>?_;rw[fD N N];refine bG ?_;exact⟨n-1,N,_,_,_,_,_,_,O,O,_,k+1,O,O,N,N,N⟩
theorem IM(s:aV):aO Pg X 201 [.string s] H (Q0 (NI s) H):=by
 have bad:NI s (.tuple ⟨[.int .i32 0,.int .i64 0,.bool aC]⟩):=⟨0,0,aC,O,bA _⟩;refine ce [0,2,3,4,8] ?_;refine q_ (λhc=>?_) λhc=>?_
 .refine rr ?_;exact⟨bad,O⟩
 have h0:0<s.size:=by
  rcases gM s.size with h|h
  .exfalso;apply hc;have⟨⟨l⟩⟩:=s;cases l with
   |nil=>rfl
   |cons a l=>cases h
  .exact h
 rw[show idS (.string s) (.int .i64 0)=_ from sZ (k:=0) h0];refine bG ?_
 have fin:∀c u b,Bc u 15=.bool b->gK Pg X (sub De [1,1,0,1,0,1,1,1,1,1,1,1]) (Je (.string s) (.int .i32 0) (.int .i64 0) (.bool aC) (.int .u8 c) u H) (sw 0<|t_ Pg X (sub De [1,1,1])<|jL Pg [.tmp 2,.tmp 3,.tmp 4]<|Q0 (NI s) H):=by
  intro c u b hb;refine tl ?_;rw[hb];refine qx (λhb=>?_) λhb=>?_
  .rw[show idS (.string s) (.int .i64 0)=_ from sZ (k:=0) h0];refine bG ?_;refine rr ?_;exact⟨⟨_,1,f,O,h0⟩,O⟩
  refine aT (λhc=>?_) λhc=>?_
  .refine aO.mono (Re _) ?_;rintro v T ⟨⟨r,n,b,rfl,hn⟩,rfl⟩;refine bG ?_;refine rr ?_;exact⟨⟨r,n,b,O,hn⟩,O⟩
  .refine tl<|rr ?_;exact⟨bad,O⟩
 refine aT (λhc=>?_) λhc=>?_
 .refine rr ?_;exact⟨⟨10,1,f,O,h0⟩,O⟩
 refine aT (λhc=>?_) λhc=>?_
 .refine rr ?_;exact⟨⟨9,1,f,O,h0⟩,O⟩
 refine aT (λhc=>?_) λhc=>?_
 .refine rr ?_;exact⟨⟨13,1,f,O,h0⟩,O⟩
 repeat' (first|(refine aT (λhc=>?_) λhc=>?_))
 all_goals exact fin _ _ _ (by(try simp only[PP,Nat.reduceBEq]);rfl)
abbrev ahC(s:aV)(k:Nat)(v:Z)(T:R):Prop:=∃(r:Int)(n:Nat)(e:Int),v=.tuple ⟨[.int .i32 r,B n,vi e]⟩/\k+n<=s.size/\(e=0->0<n)
def NJ(hw:Wf H)(hT:BV H)(s:aV)(k:Nat)(hk:k<s.size)(hs:s.size<=1000000):aO Pg X 225 [.string s,B k] H (Q1 (ahC s k) H):=by
 have G:=F.refl hw;refine jS [0,1,4,5,6,7,8,9,10] ?_;refine G.cm (We hw hT s k N) ?_;rintro v T ⟨a,n,r,ok,rfl,W,J⟩ E G;refine G.iX λHn ri G=>?_;refine G.kL ?_;refine G.jH λHn G=>?_;refine OP (λhb=>?_) λhb=>?_
 .refine rr ?_;exact⟨⟨0,0,11,O,N,λh=>by cases h⟩,G.ext⟩
 refine Mq (λhb=>?_) λhb=>?_
 .refine eU ?_;refine rr ?_;exact⟨⟨r,n,0,O,J,λ_=>W hk⟩,G.ext⟩
 rw[fD N N];refine bG ?_;rw[show slT (.string s) (D<|vi<|(k:Int)+1) Q Q=_ from AL (lo:=k+1) N];refine bG ?_;refine aO.mono (IM _) ?_;rintro v T ⟨⟨x,m,b,rfl,hm⟩,rfl⟩;have hp:=p8 s (lo:=k+1) (hi:=s.size) N<|ax _;refine qx (λhb=>?_) λhb=>?_
 .refine rr ?_;exact⟨⟨0,0,12,O,N,λh=>by cases h⟩,G.ext⟩
 rw[fD N N];refine bG ?_;refine rr ?_;exact⟨⟨x,m+1,0,by rw[NH (show 1+(m:Int)=((m+1:Nat):Int) by omega)],N,λ_=>N⟩,G.ext⟩
section
def Aa(m:Nat)(H:R)(v:Z):Prop:=∃a n c M,v=I a n c/\Fl H a n 2 M/\n<=m/\∀x∈M,∃z:Int,x=.int .i32 z
def iH(b m:Nat)(H:R)(v:Z):Prop:=∃a n c M,v=I a n c/\je (b<=·) 331 H a n 2 M/\n<=m/\∀x∈M,∃z:Int,x=.int .i32 z
def Aa.nil(m:Nat)(H:R):Aa m H (I Q 0 0):=⟨Q,0,0,[],O,Fl.nil _ _ _,N,λx h=>by cases h⟩
def iH.nil(b m:Nat)(H:R):iH b m H (I Q 0 0):=⟨Q,0,0,[],O,je.nil _ _ _ _ _,N,λx h=>by cases h⟩
def iH.i(h:iH b m H v):Aa m H v:=by
 have⟨a,n,c,M,W,J,h3⟩:=h;exact⟨a,n,c,M,W,J.1,h3⟩
def iH.stay{S:C Nat}(h:iH b m H v)(E:oN S H T)(G:∀q∈S,q<b\/¬yS H q 331):iH b m T v:=by
 have⟨a,n,c,M,W,J,h3⟩:=h;exact⟨a,n,c,M,W,J.stay E λq hq=>(G q hq).imp_left eO,h3⟩
def iH.ex(h:iH b m H v)(E:Ext H T):iH b m T v:=h.stay E<|nofun
def iH.le{b' m':Nat}(h:iH b m H v)(hm:m<=m')(hb:b'<=b):iH b' m' H v:=by
 have⟨a,n,c,M,W,J,h3,h4⟩:=h;exact⟨a,n,c,M,W,J.le hb,N,h4⟩
def Tok(b:Nat)(H:R)(lo hi:Nat)(v:Z):Prop:=∃(kd:Int)(a e:Nat)(t:aV)(rs:Z),v=.agg ⟨[vi kd,B a,B e,.string t,rs]⟩/\lo<e/\e<=hi/\a<=hi/\t.size<=1000000/\iH b 20000 H rs
abbrev F8(b:Nat)(s:aV)(k:Nat)(v:Z)(T:R):Prop:=∃(tok:Z)(cd:Int)(at':Nat),v=.tuple ⟨[tok,.agg ⟨[vi cd,B at']⟩]⟩/\(∃kd a e t rs,tok=.agg ⟨[vi kd,B a,B e,.string t,rs]⟩/\(∃x n c,rs=I x n c))/\(cd=0->Tok b T k s.size tok)
def Yk(hw:Wf H)(s:aV)(k:Nat)(hk:k<s.size)(hs:s.size<=1000000):aO Pg X 170 [.string s,B k] H (Q1 (F8 H.next s k) H):=by
 have G:=F.refl hw;refine jS [0,1,4,5,6,7] ?_;refine G.iX λHn rt G=>?_;refine G.iX λHn rs G=>?_;rw[fD N N];refine G.kL ?_;refine Yb 6 (ai:=λn x6 T=>T=Hn/\∃e:Nat,x6=B e/\e+n=s.size/\k<e) ?_ (s.size-(k+1)) ⟨rfl,k+1,rfl,N,N⟩;rintro n x6 u T ⟨rfl,e,rfl,W,J⟩
 have fin:∀u,gK Pg X (sub KZ [1,1,1]) (IJ (.string s) (B k) (.pointer<|D ⟨rt,0,Q⟩) (.pointer<|D ⟨rs,0,Q⟩) (B e) top u T) (jL Pg [.cell 4 221,.cell 5 173]<|Q1 (F8 H.next s k) H):=by
  intro u;refine tl ?_;rw[pg N N];refine G.kL ?_;refine aT (λhc=>?_) λhc=>?_
  .refine eU ?_;refine G.jH λHn G=>?_;refine G.jH λHn G=>?_;refine rr ?_;refine eU ?_;exact⟨⟨_,3,k,O,⟨_,0,0,_,_,O,_,_,_,O⟩,λh=>by cases h⟩,G.ext⟩
  rw[sZ N];refine G.kL ?_;refine aO.mono (K5 _) ?_;rintro v T ⟨⟨b,rfl⟩,rfl⟩;refine G.kL ?_
  have fin:∀(kd:Int) u,gK Pg X (sub KZ [1,1,1,1,1,1]) (IJ (.string s) (B k) (.pointer<|D ⟨rt,0,Q⟩) (.pointer<|D ⟨rs,0,Q⟩) (B e) (vi kd) u T) (jL Pg [.cell 4 221,.cell 5 173]<|Q1 (F8 H.next s k) H):=by
   intro kd u;refine tl ?_;rw[CZ N N];refine G.kL ?_;have hp:=p8 s (lo:=k) (hi:=e) N N;refine G.cm (xL G.wf _ N) ?_;rintro v T rfl E G;refine eU ?_;refine G.jH λHn G=>?_;refine G.jH λHn G=>?_;refine rr ?_;refine eU ?_;exact⟨⟨_,0,0,O,⟨_,_,_,_,_,O,_,_,_,O⟩,λ_=>⟨kd,k,e,_,_,rfl,N,N,N,N,iH.nil _ _ _⟩⟩,G.ext⟩
  refine gF (λhb=>?_) λhb=>?_
  .exact fin 1 _
  .exact fin 2 _
 refine tp ?_;refine aT (λhc=>?_) λhc=>fin _;rw[sZ N];refine bG ?_;refine aO.mono (Q3 _) ?_;rintro v T ⟨⟨b,rfl⟩,rfl⟩;refine bG ?_;refine gF (λhb=>?_) λhb=>fin _;rw[fD N N];refine bG ?_;exact⟨n-1,N,_,_,_,O,O,e+1,O,N,N⟩
def Ji.new(rb:Nat):Ji rb [] [bu rb Q (I Q 0 0)]:=⟨Q,I Q 0 0,[],.inl O,GB.nil _ _,O,(nofun),λ_=>rfl⟩
set_option maxHeartbeats 1000000 in
def O0(hw:Wf H)(hT:BV H)(s:aV)(k:Nat)(hk:k<s.size)(hs:s.size<=20000):aO Pg X 171 [.string s,B k] H (Q1 (F8 H.next s k) H):=by
 have G:=F.refl hw;refine jS [0,1,4,5,6,7,8,9,10,11] ?_;refine G.iX λHn rt G=>?_;refine G.iX λHn rs G=>?_;refine G.iX λHn rb G=>?_;rw[fD N N];refine G.kL ?_
 refine V' 7 8 9 10 11 (ai:=λn x7 x8 x9 jo iJ T=>∃p bs A,x7=B p/\p+n=s.size/\k+1<=p/\Ji rb bs A/\bs.length<=4*p/\F [] H T ((rs,173,[.int .i64 0,.int .i64 0])::(rt,221,[.int .i64 0,.int .i64 0,.int .i64 0,.string<|dh #[],I Q 0 0])::A)) ?_ (s.size-(k+1))
  ⟨k+1,[],_,rfl,N,N,Ji.new rb,by simp,G.perm<|(gq _ _ _).trans<|dS _<|gq _ _ _⟩
 rintro n x7 x8 x9 jo iJ u T ⟨p,bs,A,rfl,W,J,hbu,hbl,G⟩;refine kX (λhc=>?_) λhc=>?_
 .refine tm ?_;refine G.jH λHn G=>?_;refine G.jH λHn G=>?_;refine rr ?_;refine eU ?_;exact⟨⟨_,10,k,O,⟨_,0,0,_,_,O,_,_,_,O⟩,λh=>by cases h⟩,G.ext⟩
 refine G.cm (We G.wf (hT.ex G.ext) s p N) ?_;rintro v T ⟨a,m,r,ok,rfl,h3,h4⟩ E G;refine G.iX λHn ri G=>?_;refine G.kL ?_;refine G.jH λHn G=>?_;refine eU ?_;have err:∀{cd:Int}{e:Nat}{H'':R},cd≠0->F8 H.next s k (.tuple ⟨[.agg ⟨[.int .i64 0,.int .i64 0,.int .i64 0,.string<|dh #[],I Q 0 0]⟩,.agg ⟨[vi cd,B e]⟩]⟩) H'':=λh=>⟨_,_,_,rfl,⟨_,0,0,_,_,rfl,_,_,_,rfl⟩,λg=>absurd g h⟩
 have back:∀{H2:R}{bs' A'}{q:Nat},Ji rb (bs++bs') A'->bs'.length<=4->p+1<=q->q<=s.size->F [] H H2 (A'++(ri,303,[B a,B m,.int .i32 r,.bool ok])::(rs,173,[.int .i64 0,.int .i64 0])::[(rt,221,[.int .i64 0,.int .i64 0,.int .i64 0,.string<|dh #[],I Q 0 0])])->
  ∃n',n'<n/\∃bs A,q+n'=s.size/\k+1<=q/\Ji rb bs A/\bs.length<=4*q/\F [] H H2 ((rs,173,[.int .i64 0,.int .i64 0])::(rt,221,[.int .i64 0,.int .i64 0,.int .i64 0,.string<|dh #[],I Q 0 0])::A):=λ{H2 bs' A' q} hb' hl hq hq2 G=>
  ⟨s.size-q,N,_,_,N,N,hb',by rw[aQ];omega,F.drop (A:=[_])<|G.perm aG⟩
 have K8:∀u b,Bc u 40=.bool b->gK Pg X (sub xR [1,1,0,1,0,0,1,0,1,0,1,1,1]) (zB (.string s) (B k) (.pointer<|D ⟨rt,0,Q⟩) (.pointer<|D ⟨rs,0,Q⟩) (.pointer<|D ⟨rb,0,Q⟩) (B p) (.pointer<|D ⟨ri,0,Q⟩) x9 jo iJ u Hn)
  (sw 2<|sw 1<|Gm (yw (.string s) (B k) (.pointer<|D ⟨rt,0,Q⟩) (.pointer<|D ⟨rs,0,Q⟩) (.pointer<|D ⟨rb,0,Q⟩) λn x7 x8 x9 jo iJ T=>∃p bs A,x7=B p/\p+n=s.size/\k+1<=p/\Ji rb bs A/\bs.length<=4*p/\F [] H T ((rs,173,[.int .i64 0,.int .i64 0])::(rt,221,[.int .i64 0,.int .i64 0,.int .i64 0,.string<|dh #[],I Q 0 0])::A)) n<|sw 0<|t_ Pg X (sub xR [1,1,1])<|jL Pg [.cell 4 221,.cell 5 173]<|Q1 (F8 H.next s k) H):=by
  intro u b hb;have hb0:Ji rb bs A:=hbu;have hS2:F [] H Hn (A++(ri,303,[B a,B m,.int .i32 r,.bool ok])::(rs,173,[.int .i64 0,.int .i64 0])::[(rt,221,[.int .i64 0,.int .i64 0,.int .i64 0,.string<|dh #[],I Q 0 0])]):=G.perm<|aG (l₁:=[_,_,_]);refine tl ?_;rw[hb];refine G.kL ?_;refine gF (λhb=>?_) λhb=>?_
  .refine eU ?_;refine G.jH λHn G=>?_;refine G.jH λHn G=>?_;refine rr ?_;refine eU ?_;exact⟨err N,G.ext⟩
  refine wS (λhc=>?_) λhc=>?_
  .rw[fD N N];refine G.kL ?_;refine aO.mono (Q9 hb0 hS2 N) ?_;rintro v T ⟨⟨t,rfl,ht⟩,G⟩;have hts:t.size=bs.length:=TY ht;refine eU ?_;refine G.jH λHn G=>?_;refine G.jH λHn G=>?_;refine rr ?_;refine eU ?_;exact⟨⟨_,0,0,O,⟨_,_,_,_,_,O,_,_,_,O⟩,λ_=>⟨3,k,p+1,t,_,rfl,N,N,N,N,iH.nil _ _ _⟩⟩,G.ext⟩
  refine wS (λhc=>?_) λhc=>?_
  .rw[fD N N];refine G.kL ?_;rw[show slT (.string s) (D<|vi<|(p:Int)+1) Q Q=_ from AL (lo:=p+1) N];refine G.kL ?_;refine aO.mono (IM _) ?_;rintro v T ⟨⟨x,j,b,rfl,hj⟩,rfl⟩;have hp:=p8 s (lo:=p+1) (hi:=s.size) N<|ax _;refine G.kL ?_;refine gF (λhb=>?_) λhb=>?_
   .refine eU ?_;refine G.jH λHn G=>?_;refine G.jH λHn G=>?_;refine rr ?_;refine eU ?_;exact⟨err N,G.ext⟩
   refine aO.mono (Dm hb0 hS2 N _) ?_;rintro v T ⟨⟨hr,z,rfl⟩,xs,A',hb',hxl,G⟩;rw[fD N N];refine G.kL ?_;rw[fD N N];refine G.kL ?_;rw[NH (show(p:Int)+(1+(j:Int))=((p+1+j:Nat):Int) by omega)];have⟨n',h5,bs',A'',h6⟩:=back hb' hxl (q:=p+1+j) N N G;exact⟨n',h5,_,_,_,_,_,_,_,O,_,bs',A'',O,h6⟩
  .refine G.pz<|aO.mono (Dm hb0 hS2 N _) ?_;rintro v T ⟨⟨hr,z,rfl⟩,xs,A',hb',hxl,G⟩;have sG:=G;have G:=G.perm<|aG (l₂:=[_,_,_]);simp only[bI,bN]at G;apply G.pz;rw[fD N N];refine G.kL ?_;rw[NH (show(p:Int)+(m:Int)=((p+m:Nat):Int) by omega)];have⟨n',h5,bs',A'',h6⟩:=back hb' hxl (q:=p+m) N N sG;exact⟨n',h5,_,_,_,_,_,_,_,O,_,bs',A'',O,h6⟩
 have aj8:∀u b,Bc u 28=.bool b->gK Pg X (sub xR [1,1,0,1,0,0,1,0,1,0,1]) (zB (.string s) (B k) (.pointer<|D ⟨rt,0,Q⟩) (.pointer<|D ⟨rs,0,Q⟩) (.pointer<|D ⟨rb,0,Q⟩) (B p) (.pointer<|D ⟨ri,0,Q⟩) x9 jo iJ u Hn)
  (sw 2<|sw 1<|Gm (yw (.string s) (B k) (.pointer<|D ⟨rt,0,Q⟩) (.pointer<|D ⟨rs,0,Q⟩) (.pointer<|D ⟨rb,0,Q⟩) λn x7 x8 x9 jo iJ T=>∃p bs A,x7=B p/\p+n=s.size/\k+1<=p/\Ji rb bs A/\bs.length<=4*p/\F [] H T ((rs,173,[.int .i64 0,.int .i64 0])::(rt,221,[.int .i64 0,.int .i64 0,.int .i64 0,.string<|dh #[],I Q 0 0])::A)) n<|sw 0<|t_ Pg X (sub xR [1,1,1])<|jL Pg [.cell 4 221,.cell 5 173]<|Q1 (F8 H.next s k) H):=by
  intro u b hb;refine tl ?_;rw[hb];refine G.kL ?_;refine gF (λhb=>?_) λhb=>?_
  .refine eU ?_;refine G.jH λHn G=>?_;refine G.jH λHn G=>?_;refine rr ?_;refine eU ?_;exact⟨err N,G.ext⟩
  refine wS (λhc=>?_) λhc=>?_
  .rw[fD N N];refine G.kL ?_;exact K8 _ _ (by refine bG ?_;rfl)
  .exact K8 _ _ (by refine bG ?_;rfl)
 refine gF (λhb=>?_) λhb=>?_
 .exact aj8 _ _ (by refine bG ?_;rfl)
 refine eU ?_;exact aj8 _ _ (by refine bG ?_;rfl)
end
section
variable{au:Int->Prop}
abbrev isLen(x:Int)(v:Z):Prop:=∃l:Nat,v=B l/\l<=32/\(1<=x->((2^l:Nat):Int)<=2*x)
def TZ(x:Int)(h0:0<=x)(W:x<=16777216):aO Pg X 218 [.int .u64 x] H (Q0 (isLen x) H):=by
 refine jS [0,2] ?_;refine PU.of AJ ?_;rw[dB N];refine bG ?_;refine gK.vg λK hK=>?_
 have fin:∀(hr:Int)(k p:Nat) u,0<=hr->hr<256->k<=24->2^k=p->(1<=x->1<=hr/\p*hr<=x)->gK Pg X (sub F4 [1,1,1,1]) (ER (.int .u64 hr) (B k) u H) K:=by
  intro hr k p u J h3 h4 hp h5;subst hK;refine tl ?_;rw[JC,C4<|u8_in N];refine PU.of O ?_;refine PU.ahr jr J h3 λt ht ht2=>?_;rw[JC,xE N N];refine PU.of O ?_;refine dQ ?_;refine rr ?_;refine⟨⟨k+t,O,N,λE=>?_⟩,rfl⟩;have⟨h6,h7⟩:=h5 E;have h8:=ht2 h6;have h9:((2^(k+t):Nat):Int)=(p:Int)*((2^t:Nat):Int):=by rw[Nat.pow_add,hp];simp
  rw[h9];have h10:(p:Int)*((2^t:Nat):Int)<=p*(2*hr):=Int.mul_le_mul_of_nonneg_left h8 N;have h11:(p:Int)*(2*hr)=2*(p*hr):=by rw[Int.mul_left_comm]
  omega
 have fd:∀(a:Int)(n:Nat),0<=a->0<n->a.fdiv ((n:Nat):Int)=a/n:=λa n ha hn=>rD a N
 have s16:∀a:Int,0<=a->EI .u64 a 16=a/65536:=λa ha=>by
  rw[show(16:Int)=((16:Nat):Int)from O,VM N mO];exact fd a 65536 ha N
 have s8:∀a:Int,0<=a->EI .u64 a 8=a/256:=λa ha=>by
  rw[show(8:Int)=((8:Nat):Int)from O,VM N mO];exact fd a 256 ha N
 refine tl<|PU.of AJ<|aT (λhc=>?_) λhc=>?_
 .refine PU.of (vX N) ?_;rw[s16 _ h0];refine dQ ?_;refine tl<|PU.of AJ<|aT (λhd=>?_) λhd=>?_
  .refine PU.of (vX N) ?_;rw[s8 _ N];refine dQ ?_;exact fin _ 24 16777216 _ N N N O λ_=>N
  .exact fin _ 16 65536 _ N N N O λ_=>N
 .refine tl<|PU.of AJ<|aT (λhd=>?_) (λhd=>?_)
  .refine PU.of (vX N) ?_;rw[s8 _ N];refine dQ ?_;exact fin _ 8 256 _ N N N O λ_=>N
  .exact fin _ 0 1 _ N N N O λ_=>N
def Lb(x:Int)(h0:0<=x)(W:x<=16777216):aO Pg X 191 [.int .u64 x] H (Q0 (isLen x) H):=by
 refine jS [0,2] ?_;refine aO.mono (TZ x h0 W) ?_;rintro _ _ ⟨⟨l,rfl,J,h3⟩,rfl⟩;refine rr ?_;exact⟨⟨l,O,J,h3⟩,O⟩
abbrev Nm(au:Int->Prop)(r:Nat)(ty:aH)(n:Nat):=SB (GV au) r ty 1 n
abbrev sl(r n c:Nat):Z:=I (D ⟨r,0,Q⟩) n c
abbrev Rg(r:Nat)(ty:aH)(n:Nat):=SB QL r ty 2 n
end
section
def T3(v cv:Z):aO Pg X 251 [v,vi 0,vi 0,cv] H λ_ T=>T=H:=by
 refine jS [0,1,2,3,8,9] ?_;refine dQ ?_;refine lp2 8 9 (ai:=λm x8 x9 T=>x8=vi 1/\T=H) ?_ 0 ⟨rfl,rfl⟩;rintro m x8 x9 u T ⟨rfl,rfl⟩;refine tp ?_;rw[dB N];refine bG ?_;refine rn ?_;exact O
def aj9(a:aB Addr)(c:Nat)(cv l:Z):aO Pg X 249 [I a 0 c,vi 0,vi 0,l,cv] H λ_ T=>T=H:=by
 refine jS [0,1,2,3,4,10,11,12,13,14,15,16,17,18,19,20] ?_;refine aj0 1 2 3 10 11 12 13 14 15 16 17 18 19 20 (ai:=λk x1 x2 x3 x8 x9 jo iJ kW jI sP lH pG yo wN T=>x1=vi 0/\x2=vi 0/\T=H) ?_ 0 ⟨rfl,rfl,rfl⟩;rintro k x1 x2 x3 x8 x9 jo iJ kW jI sP lH pG yo wN u T ⟨rfl,rfl,rfl⟩;refine tl ?_;refine qL ?_;refine bG ?_;rw[bL N];refine bG ?_;refine aO.mono (T3 _ _) ?_;rintro _ _ rfl;refine rr ?_;exact O
abbrev aka:Z:=.func (.func 242) ⟨[]⟩ ⟨[]⟩
def T4(hn:n<=1000000)(hB:Rg r ty n H0 H L):aO Pg X 241 [sl r n c,aka] H λv T=>Rg r ty n H0 T L:=by
 refine Fh [0,1,4] ?_;rw[C4 (u64_in N)];refine aO.mono (Lb _ N N) ?_;rintro v T ⟨⟨l,rfl,W,_⟩,rfl⟩;obtain _|m:=n
 .refine aO.mono (aj9 _ _ _ _) ?_;rintro v H1 rfl;exact rn<|hB
 have⟨H1,e,hB⟩:=SB.aj3 (cv:=aka) (c:=c) (l:=l) N N hB;exact aO.orc (v:=.tuple ⟨[]⟩) (T:=H1) e<|rn<|hB
def ahD(cv:Z):aO Pg X 241 [I Q 0 0,cv] H λv T=>T=H:=by
 refine Fh [0,1,4] ?_;rw[C4 (u64_in N)];refine aO.mono (Lb _ N N) ?_;rintro v T ⟨⟨l,rfl,W,_⟩,rfl⟩;refine aO.mono (aj9 _ _ _ _) ?_;rintro v H1 rfl;refine rn ?_;exact O
def T6(h:∀i,i<2->∃z:Int,M[k*2+i]?=D (.int .i32 z)):QL (El M 2 k):=by
 have⟨a,ha⟩:=h 0 N;have⟨b,hb⟩:=h 1 N;refine⟨a,b,?_⟩;apply h_;intro i;rw[mR]
 match i with
 |0=>rw[if_pos N,ha];rfl
 |1=>rw[if_pos N,hb];rfl
 |i+2=>rw[if_neg N];rfl
def O1{i:Nat}(h:QL<|El M 2 k)(hi:i<2):∃z:Int,M[k*2+i]?=D (.int .i32 z):=by
 have⟨a,b,e⟩:=h;have W:=mR M 2 k i;rw[if_pos hi,e]at W
 match i,hi with
 |0,_=>exact⟨a,W.symm⟩
 |1,_=>exact⟨b,W.symm⟩
section fields
def SB.rf(h:SB QL r ty 2 n H0 H L)(h0:0<=z)(hz:z<n)(hf:ay<2)(k:∀a,K (.int .i32 a) H):ME (vH Q (.pointer<|D ⟨r,z.toNat*2+ay,Q⟩) H) K:=by
 have⟨M,G,hp,hl⟩:=h.row (k:=z.toNat) N;have⟨a,ha⟩:=O1 hp hf;exact G.ld 0 O ha<|k a
def SB.rfQ(h:SB QL r ty 2 n H0 H L)(h0:0<=z)(hz:z<n)(hf:ay<2)(k:∀a,K (.int .i32 a)<|hN H):ME (vH Q (.pointer<|D ⟨r,z.toNat*2+ay,Q⟩)<|hN H) K:=SB.rf h.yh h0 hz hf k
def SB.alV(h:SB QL r ty 2 n H0 H L)(h0:0<=z)(hz:z<n)(hf:ay<2)(k:∀H1,SB QL r ty 2 n H0 (hM H H1) L->K undef H1):ME (CW 1 (.pointer<|D ⟨r,z.toNat*2+ay,Q⟩) (.int .i32 a)<|hN H) K:=by
 have⟨M,W,J,G⟩:=h;have hle:z.toNat*2+ay+1<=M.length:=N;refine G.stQ 0 O O hle O λH1 G=>k H1 ⟨splice M (z.toNat*2+ay) [.int .i32 a],?_,λj hj=>?_,G⟩
 .rw[mq (mg hle)];exact W
 .refine T6 λi hi=>?_;rw[qG (mg hle)];split
  .next hc=>
   rw[show j*2+i-(z.toNat*2+ay)=0 by simp at hc;omega];exact⟨a,O⟩
  .exact O1 (J j hj) hi
end fields
abbrev MB(M:C Z):Prop:=∀x∈M,∃z:Int,x=.int .i32 z
def Rf(h:MB M)(hk:k*2+2<=M.length):QL (El M 2 k):=by
 have e:El M 2 k=[M[k*2],M[k*2+1]]:=by
  unfold El;rw[dY N,dY N];rfl
 have⟨a,ha⟩:=h M[k*2]<|bB _;have⟨b,hb⟩:=h M[k*2+1]<|bB _;exact⟨a,b,by rw[e,ha,hb]⟩
def MB.app(h:MB M)(a b:Int):MB (M++[.int .i32 a,.int .i32 b]):=by
 intro x E;rcases bZ.1 E with E|E
 .exact h x E
 .simp at E;rcases E with rfl|rfl
  .exact⟨_,O⟩
  .exact⟨_,O⟩
def O3(hl:M.length=n*2)(h:∀k,k<n->QL (El M 2 k)):MB M:=by
 intro x E;obtain⟨i,hi,rfl⟩:=iM E;have⟨a,b,e⟩:=h (i/2) N;have W:=mR M 2 (i/2)<|i %2;rw[if_pos (qA _ N),show i/2*2+i %2=i by omega,av hi,e]at W;have:i %2=0\/i %2=1:=N;rcases this with J|J
 .rw[J]at W;exact⟨a,(dK W).symm⟩
 .rw[J]at W;exact⟨b,(dK W).symm⟩
def IP(hw:Wf H){K:Nat}(hK:K<=1000000)(hv:Aa K H v):aO Pg X 244 [v] H (Q1 (λv T=>iH H.next K T v) H):=by
 obtain⟨a,n,c,M,rfl,hf,hn,hi⟩:=hv;have G:=F.refl hw;refine jS [0,2] ?_;rw[C6 jr];refine qx (λhb=>?_) λhb=>?_
 .refine rr ?_;exact⟨iH.nil _ _ _,Ext.refl _⟩
 .refine ME.of (ahu N) ?_;have G:=G.grow 331 [];have hge:=G.ext.next
  refine G.TL N (.inr ⟨_,O⟩) (hf.ex G.ext) N λa' c' H1 L' hf' hS'=>rr ?_;exact⟨⟨a',n,c',M,O,hf'.le hge,hn,hi⟩,hS'.ext⟩
set_option maxHeartbeats 8000000 in
theorem EU(hw:Wf H)(hKM:KM<=1000000)(hv:Aa KM H v):aO Pg X 226 [v] H (Q1 (λv T=>iH H.next KM T v) H):=by
 obtain⟨a,n,c,M,rfl,hf,hn,hi⟩:=hv;have G:=F.refl hw;refine Fh [0,2,3,5,6,8,9,10,11,35,36,37] ?_;refine FY 3 5 11 (ai:=λm x3 x5 iJ T=>∃(k:Nat)(ds:C Z)(gb:C dL),iJ=B k/\k+m=n/\GB 331 2 x3 ds gb/\ds.length<=2*k/\MB ds/\F [] H T (gb++[])) ?_ n ⟨0,[],[],rfl,N,GB.nil _ _,by simp,(nofun),G⟩;rintro m x3 x5 iJ u T ⟨k,ds,gb,rfl,hk,hg,hdl,hds,G⟩;refine gK.vg λK hK=>?_;refine q_ (λhc=>?_) λhc=>?_
 .have⟨r,o,e,y,hrd,hel,_⟩:=hf.read N (show k<n by omega) c;rw[e];refine bG ?_;have⟨z1,z2,ez⟩:=Rf hi (k:=k) (by rw[hf.1];omega);rw[ez]at hrd;refine G.Aj hrd y<|G.iX λH1 r1 G=>?_
  repeat(first|(refine G.kL ?_)|(refine G.pz ?_)|(refine G.jH λHn G=>?_))
  subst hK;refine aT (λhd=>?_) λhd=>?_
  .refine eU ?_;refine G.bS O O O N λH2 rx G=>?_;have G:F [] H H2 ((rx,331,[.int .i32 (max z1 0),.int .i32<|min z2 1114111])::(r1,331,[.int .i32 (max z1 0),.int .i32<|min z2 1114111])::(gb++[])):=G;have G:F [] H H2 ((rx,331,[.int .i32 (max z1 0),.int .i32<|min z2 1114111])::(gb++[(r1,331,[.int .i32 (max z1 0),.int .i32<|min z2 1114111])])):=G.perm<|dS _ (by simpa using(aG (l₁:=[_]) (l₂:=gb)));refine hg.add G N O O N λv' H3 gQ hg' hS' E=>?_;rw[fD N N];refine bG ?_;refine⟨m-1,N,_,_,_,_,_,O,k+1,_,gQ,O,N,hg',by simp;omega,hds.app _ _,?_⟩;exact by simpa using F.drop (A:=[_]) (hS'.perm<|aG (l₂:=[_]))
  .rw[fD N N];refine bG ?_;refine⟨m-1,N,_,_,_,_,_,O,k+1,ds,gb,O,N,hg,N,hds,?_⟩;exact F.drop (A:=[_]) G
 .subst hK;refine bG ?_;refine tl ?_;rcases hg with⟨rfl,rfl,rfl⟩|⟨r,n1,eB,rfl,hn1,rfl⟩
  .refine aO.mono (ahD _) ?_;rintro _ H1 e;have e:=e.symm;subst e;refine bG ?_;refine FY 6 8 37 (ai:=λm x6 x8 Aq H2=>H2=T/\x6=vi 0/\Aq=vi 0) ?_ 0 ⟨rfl,rfl,rfl⟩;rintro m x6 x8 Aq u H2 ⟨rfl,rfl,rfl⟩;refine tp ?_;rw[dB N];refine bG ?_;refine tl<|PU.of (VN)<|aO.mono (IP G.wf hKM<|Aa.nil _ _) ?_;rintro v H3 ⟨hv,E⟩;refine rr ?_;exact⟨hv.le (ax _) G.ext.next,G.ext.trans E⟩
  .have hB:Rg r 331 n1 H T []:=⟨ds++eB,by simp;omega,λk hk=>T6 λi hi=>?_,G⟩;rotate_left
   .rw[bM N,av N];have⟨z,hz⟩:=hds ds[k*2+i]<|bB _;exact⟨z,by rw[hz]⟩
   have hn2:n1<=KM:=N;refine aO.mono (T4 N hB) ?_;clear hB G hds hn1 eB ds hdl;rintro _ H2 hB;refine bG ?_;refine FY 6 8 37 (ai:=λm x6 x8 Aq H2=>∃(w k:Nat),x6=B w/\Aq=B k/\w<=k/\k+m=n1/\Rg r 331 n1 H H2 []) ?_ n1 ⟨0,0,rfl,rfl,N,N,hB⟩;clear hB;rintro m2 x6 x8 Aq u H3 ⟨w,k2,rfl,rfl,hw2,hk2,hB⟩;refine gK.vg λK hK=>?_
   have nx:∀(w:Nat) x8 u H4,w<=k2+1->k2<n1->Rg r 331 n1 H H4 []->gK Pg X (sub nV [1,1,1,1,1,0,1,0,0,1,1,1]) (vR (I a n c) (I Q 0 0) (sl r n1<|fJ 2) x5 (B w) x8 (I a n c) (B n) (B k) (sl r n1<|fJ 2) (B n1) (B k2) u H4) K:=by
    intro w x8 u H4 W J hB;subst hK;refine tl ?_;rw[fD N N];refine bG ?_;exact⟨m2-1,N,_,_,_,_,_,O,w,k2+1,O,O,N,N,hB⟩
   refine kX (λhc=>?_) λhc=>?_
   .subst hK;refine bG ?_;refine tl<|PU.of (BM (show w<=n1 by omega)) ?_;have⟨es,g1,g2,G⟩:=hB
    have hfw:Fl H3 (D ⟨r,0,Q⟩) w 2 (es.take<|w*2):=⟨by simp;omega,λi x hi=>⟨r,0,rfl,(G.lo _<|aN ..).2,by
     rw[aY];refine(G.get 0 O).cell ?_;rw[iW]at hi;split at hi
     .exact hi
     .cases hi⟩⟩
    have hR:Aa KM H3 (I (D ⟨r,0,Q⟩) w<|fJ 2):=⟨_,w,_,_,O,hfw,N,O3 hfw.1 λk hk=>T6 λi hi=>by
     rw[iW,if_pos N];exact O1 (g2 k N) hi⟩
    refine aO.mono (IP G.wf hKM hR) ?_;rintro v H4 ⟨hv,E⟩;refine rr ?_;exact⟨hv.le (ax _) G.ext.next,G.ext.trans E⟩
   refine NB ?_;simp only[aY];refine hB.r1 N N λza zb=>hB.new λH4 r1 hB=>hB.st 0 O O (aF O) O λH5 hB=>?_;have hB:SB QL r 331 2 n1 H H5 [(r1,331,[.int .i32 za,.int .i32 zb])]:=hB
   have lay:∀u H6,SB QL r 331 2 n1 H H6 [(r1,331,[.int .i32 za,.int .i32 zb])]->gK Pg X (sub nV [1,1,1,1,1,0,1,0,0,1,1,0,0,1,1]) (vR (I a n c) (I Q 0 0) (sl r n1<|fJ 2) x5 (B w) (.pointer<|D ⟨r1,0,Q⟩) (I a n c) (B n) (B k) (sl r n1<|fJ 2) (B n1) (B k2) u H6) (sw 3<|t_ Pg X (sub nV [1,1,1,1,1,0,1,0,0,1,1,1]) K):=by
    intro u H6 hB;refine tl<|ME.of (v:=.agg ⟨[.int .i32 za,.int .i32 zb]⟩) (H:=H6) ?_ ?_
    .have⟨es,g1,g2,G⟩:=hB;show(aL (H6.read r1 0 2) λvs=>D (Sg ⟨vs⟩,H6))=_;rw[(G.get 1 O).read (o:=0) (n:=2) (ax 2)];rfl
    refine NB ?_;simp only[aY];refine hB.rw' N N λH7 hB=>?_;rw[fD N N];refine bG ?_;exact nx (w+1) _ _ _ N N hB.drop
   have fin:∀u H6(b:Bool),Bc u 54=.bool b->(b=f->0<w)->SB QL r 331 2 n1 H H6 [(r1,331,[.int .i32 za,.int .i32 zb])]->gK Pg X (sub nV [1,1,1,1,1,0,1,0,0,1,1,0,0,1,0,1]) (vR (I a n c) (I Q 0 0) (sl r n1<|fJ 2) x5 (B w) (.pointer<|D ⟨r1,0,Q⟩) (I a n c) (B n) (B k) (sl r n1<|fJ 2) (B n1) (B k2) u H6) (t_ Pg X (sub nV [1,1,1,1,1,0,1,0,0,1,1,0,0,1,1])<|sw 3<|t_ Pg X (sub nV [1,1,1,1,1,0,1,0,0,1,1,1]) K):=by
    intro u H6 b hb hw0 hB;refine tl ?_;rw[hb];refine qx (λhb=>?_) λhb=>?_
    .have:=hw0 hb;refine qL ?_;refine qL ?_;refine NB ?_;refine bG ?_;refine SB.rfQ hB N N N λzc=>?_;simp only[gN hB.wf];refine hB.Mm 0 O O ?_;simp only[gN hB.wf];refine bG ?_;refine NB ?_;refine bG ?_;refine SB.alV hB N N N λH7 hB2=>⟨by simp only[d_,fK];kernel_rfl,?_⟩;exact nx w _ _ _ N N hB2.drop
    .exact lay _ _ hB
   refine rV (λhd=>?_) λhd=>?_
   .refine hB.Mm 0 O O ?_;simp only[gN hB.wf];refine qL ?_;refine NB ?_;refine bG ?_;refine SB.rfQ hB N N N λzc=>?_;simp only[gN hB.wf];refine bG ?_;refine⟨by simp only[d_];kernel_rfl,?_⟩;exact fin _ _ _ (by simp only[xF];rfl) (λ_=>N) hB
   .refine⟨by kernel_rfl,?_⟩;exact fin _ _ aC (by simp only[xF]) (λh=>by cases h) hB
def abO(hw:Wf H):aO Pg X 245 [] H (Q1 (λv T=>iH H.next 1 T v) H):=by
 have G:=F.refl hw;refine jS [0] ?_;refine PU.of (v:=.agg ⟨[_,_]⟩) O ?_;refine G.bS O O O N λH1 r G=>?_;have hb:=G.get 0 O;have hlo:=G.lo _<|aN ..
 refine rr ?_;refine⟨⟨_,1,1,_,O,⟨hb.fl hlo.2 O,λr' o e _=>by cases e;exact⟨G.wQ<|aN ..,hlo.2,hb.Jc⟩⟩,N,λx E=>?_⟩,G.ext⟩;have E:x∈[bX .i32 0,bX .i32 1114111]:=E;simp at E;rcases E with rfl|rfl
 .exact⟨_,O⟩
 .exact⟨_,O⟩
end
end Go.Proofs.Lu
namespace Go.Ae
variable{K:Z->R->Z->R->Prop}{es m n r:Nat}{v x z:Z}{L L' gb:C dL}{H T H0:R}{M:C Z}{b ok:Bool}{ty:aH}
section
class Du (L g:C dL) (SH:outParam<|C dL->C dL):Prop where
 p:∃az,L.Perm (g++az)/\∀g',(g'++az).Perm<|SH g'
instance Du.top{g:C dL}:Du g g (λg=>g):=⟨[],by rw[bq],λg'=>by rw[bq]⟩
instance Du.cons{b:dL}{L g:C dL}{SH:C dL->C dL}[h:Du L g SH]:Du (b::L) g (λg=>b::SH g):=⟨let⟨az,W,J⟩:=h.p;⟨b::az,(W.cons b).trans i_.symm,λg'=>i_.trans<|(J g').cons b⟩⟩
instance Du.right{A L g:C dL}{SH:C dL->C dL}[h:Du L g SH]:Du (A++L) g (λg=>A++SH g):=⟨let⟨az,W,J⟩:=h.p;⟨A++az,(W.append_left A).trans<|iG A g az,λg'=>(iG g' A az).trans<|(J g').append_left A⟩⟩
instance Du.left{A L g:C dL}{SH:C dL->C dL}[h:Du A g SH]:Du (A++L) g (λg=>SH g++L):=⟨let⟨az,W,J⟩:=h.p;⟨az++L,by rw[<-bU];exact W.append_right L,λg'=>by rw[<-bU];exact(J g').append_right L⟩⟩
instance Du.here{L g:C dL}:Du (g++L) g (λg=>g++L):=⟨L,p9 _,λg'=>p9 _⟩
instance Ak.right{A L:C dL}{r:Nat}{ty:aH}{M:C Z}[h:Ak L r ty M]:Ak (A++L) r ty M:=⟨let⟨i,hi⟩:=h.at';⟨A.length+i,by rw[dV N,iT];exact hi⟩⟩
instance EK.right{A L L':C dL}{r:Nat}{SH:C Z->C Z}{ty:aH}{M:C Z}[h:EK L r SH ty M L']:EK (A++L) r SH ty M (A++L'):=⟨let⟨i,hi,e⟩:=h.at';⟨A.length+i,by rw[dV N,iT];exact hi,by rw[e,qy _ _<|om _ _,iT]⟩⟩
instance Ak.left{A L:C dL}{r:Nat}{ty:aH}{M:C Z}[h:Ak A r ty M]:Ak (A++L) r ty M:=⟨let⟨i,hi⟩:=h.at';⟨i,by rw[bM (bE.1 hi).1];exact hi⟩⟩
instance EK.left{A A' L:C dL}{r:Nat}{SH:C Z->C Z}{ty:aH}{M:C Z}[h:EK A r SH ty M A']:EK (A++L) r SH ty M (A'++L):=⟨let⟨i,hi,e⟩:=h.at';have hl:=(bE.1 hi).1;⟨i,by rw[bM hl];exact hi,by rw[e,lW _ _ hl]⟩⟩
variable{S:C Nat}{SH:C dL->C dL}{w:Z}{xs x z:C Z}
def GB.I4{K:Z->Z->R->Prop}(hg:GB ty es v xs gb)(G:F S H0 H L)[h:Du L gb SH](E:(bK w).length=es)(ht:pZ w=f)(hok:all' Go.Ae.fC (bK w)=f)(hc:xs.length<=16777216)(kk:∀q v' T gQ,GB ty es v' (xs++bK w) gQ->F S H0 T (SH gQ)->K q v' T)(he:0<es:=by decide)(hz:z.length=es:=by rfl)(hb:es<=16777216:=by decide):ME (bS ty z es 1 [(0,w)] H) λq H1=>ME (zY ty es v q H1) (K q):=by
 have⟨az,W,J⟩:=h.p;exact hg.push (G.perm W) he hz O E ht hok hb hc λq v' T gQ hg' hS'=>kk q v' T gQ hg'<|hS'.perm<|J gQ
def F.amy{K:Z->R->Prop}(G:F S H0 H L)(hn:n<=m)(hm:m<=16777216)(k:∀H1 r,F S H0 (hM H H1) ((r,ty,o7 z m)::L)->Ml H H1=cl 5->Ext H (hM H H1)->H.next<=r->K (I (D ⟨r,0,Q⟩) n m) H1):ME (Go.Ae.mkS ty z (B n) (B m)<|Go.Ae.hN H) K:=by
 show ME (gd (aD n m&&aD m 16777216&&f)<|D (I (D ⟨H.next,0,Q⟩) n m,(Go.Ae.hN H).new<|rowOf ty<|o7 z m)) K;rw[aI hn,aI hm];exact k _ _ (G.yG ty _) (xQ<|Ext.new _ _) (Ext.new _ _).draw<|ax _
def F.aic{K:Z->R->Prop}(G:F S H0 H L)(E:pZ w=f)(k:∀H1 r,F S H0 (hM H H1) ((r,ty,bK w)::L)->Ml H H1=cl 5->Ext H (hM H H1)->H.next<=r->K (.pointer<|D ⟨r,0,Q⟩) H1):ME (JZ ty w<|Go.Ae.hN H) K:=by
 unfold JZ;rw[E];exact k _ _ (G.yG ty _) (xQ<|Ext.new _ _) (Ext.new _ _).draw<|ax _
def F.WH(G:F S H0 H L)(k:∀H1 r,F S H0 (hM H H1) L->Ext H (hM H H1)->Ml H H1=cl 5->H.next<=r->K (.pointer<|D ⟨r,0,Q⟩) H1 undef (Go.Ae.hN<|hM H H1)):ME (Go.Ae.iX ty []<|Go.Ae.hN H) λv H1=>ME (Go.Ae.CW 0 v (.agg ⟨[]⟩)<|Go.Ae.hN<|hM H H1) λrg H2=>K v H1 rg H2:=by
 exact ME.of (v:=.pointer<|D ⟨H.next,0,Q⟩) (H:=(Go.Ae.hN H).new<|rowOf ty []) O<|ME.of (v:=undef) (H:=Go.Ae.hN<|hM H<|(Go.Ae.hN H).new<|rowOf ty []) O<|k _ _ (F.drop (A:=[_])<|G.yG ty []) (Ext.new _ _).draw (xQ<|Ext.new _ _)<|ax _
def GB.LC(hg:GB ty es v xs gb)(G:F S H0 H L)[h:Du L gb SH](E:(bK w).length=es)(ht:pZ w=f)(hok:all' Go.Ae.fC (bK w)=f)(hc:xs.length<=16777216)(kk:∀q H1 v' H2 gQ,GB ty es v' (xs++bK w) gQ->F S H0 (hM (hM H H1) H2) (SH gQ)->Ml H H1=cl 5->(DY (hM H H1) H2=cl 1\/DY (hM H H1) H2=⟨2,0,0,0,hM H H1,H2⟩)->F S H0 (hM H H1) L->K q H1 v' H2)(he:0<es:=by decide)(hz:z.length=es:=by rfl)(hb:es<=16777216:=by decide):ME (bS ty z es 1 [(0,w)]<|Go.Ae.hN H) λq H1=>ME (zY ty es v q<|Go.Ae.hN<|hM H H1) (K q H1):=by
 have⟨az,W,J⟩:=h.p;refine ME.of (OK (H:=Go.Ae.hN H) hz ht E hb) ?_;have hS1:=G.yG ty<|bK w;exact hg.FM (cx:=1) (hS1.perm<|W.cons _) he E hok hc λv' H2 gQ hg' hS2 _ _ hcl=>kk _ _ _ _ gQ hg' (hS2.perm<|J gQ) (xQ<|Ext.new _ _) hcl<|F.drop (A:=[_]) hS1
def GB.UK(hg:GB ty es v xs gb):∃a n c,v=I a n c/\xs.length=n*es:=by
 rcases hg with⟨rfl,rfl,_⟩|⟨r,n,eB,rfl,hn,_⟩
 .exact⟨Q,0,0,O,by simp⟩
 .exact⟨_,n,_,O,hn⟩
def GJ(ty:aH)(es:Nat)(v:Z)(M:C Z)(gb:C dL):Prop:=GB ty es v M gb\/∃r,v=I (D ⟨r,0,Q⟩) 1 1/\M.length=es/\gb=[(r,ty,M)]
def GJ.UK(hg:GJ ty es v xs gb):∃a n c,v=I a n c/\xs.length=n*es:=hg.elim GB.UK λ⟨r,W,J,_⟩=>⟨_,1,_,W,N⟩
def GJ.fl(hg:GJ ty es v xs gb)(G:F S H0 H<|gb++L):∃a n c,v=I a n c/\xs.length=n*es/\Fl H a n es xs:=by
 rcases hg with hg|⟨r,rfl,hl,rfl⟩
 .exact hg.fl G
 .exact⟨_,1,_,O,N,(G.get 0 O).fl (G.lo _<|aN ..).2 N⟩
def R6{x:Z}(hb:Bk H r ty z)(hl:z.length=es)(ha:appended H es x=D (1,xs)):zY ty es (I (D ⟨r,0,Q⟩) 1 1) x H=D (I (D ⟨H.next,0,Q⟩) 2<|fJ es,H.new<|rowOf ty<|z++xs):=by
 unfold zY;rw[ha]
 have e:H.read r 0 (bO 1 es)=D z:=by
  rw[show bO 1 es=es from Nat.one_mul es,hb.read N];rw[jf,cO N]
 show(aL (H.read r 0<|bO 1 es) λold=>D<|yA ty es 2 (app old xs) H)=_;rw[e];show D (yA ty es 2 (app z xs) H)=_;rw[qB];rfl
def GJ.I4{K:Z->Z->R->Prop}(hg:GJ ty es v xs gb)(G:F S H0 H L)[h:Du L gb SH](E:(bK w).length=es)(ht:pZ w=f)(hok:all' Go.Ae.fC (bK w)=f)(hc:xs.length<=16777216)(kk:∀q v' T gQ,GB ty es v' (xs++bK w) gQ->F S H0 T (SH gQ)->K q v' T)(he:0<es:=by decide)(hz:z.length=es:=by rfl)(hb:es<=16777216:=by decide):ME (bS ty z es 1 [(0,w)] H) λq H1=>ME (zY ty es v q H1) (K q):=by
 rcases hg with hg|⟨r,rfl,hl,rfl⟩
 .exact hg.I4 G E ht hok hc kk he hz hb
 have⟨az,W,J⟩:=h.p;refine(G.perm W).bS hz ht E hb λH1 rx hS1=>ME.of (R6 (hS1.get 1 O) hl<|vW (k:=1) (hS1.get 0 O) N)<|kk _ _ _ [(H1.next,ty,xs++bK w)] (.inr ⟨H1.next,2,[],O,by rw[aQ];omega,by simp⟩)<|((F.drop (A:=[_,_]) hS1).grow ty _).perm<|J [(H1.next,ty,xs++bK w)]
def GJ.LC(hg:GJ ty es v xs gb)(G:F S H0 H L)[h:Du L gb SH](E:(bK w).length=es)(ht:pZ w=f)(hok:all' Go.Ae.fC (bK w)=f)(hc:xs.length<=16777216)(kk:∀q H1 v' H2 gQ,GB ty es v' (xs++bK w) gQ->F S H0 (hM (hM H H1) H2) (SH gQ)->Ml H H1=cl 5->(DY (hM H H1) H2=cl 1\/DY (hM H H1) H2=⟨2,0,0,0,hM H H1,H2⟩)->F S H0 (hM H H1) L->K q H1 v' H2)(he:0<es:=by decide)(hz:z.length=es:=by rfl)(hb:es<=16777216:=by decide):ME (bS ty z es 1 [(0,w)]<|Go.Ae.hN H) λq H1=>ME (zY ty es v q<|Go.Ae.hN<|hM H H1) (K q H1):=by
 rcases hg with hg|⟨r,rfl,hl,rfl⟩
 .exact hg.LC G E ht hok hc kk he hz hb
 have⟨az,W,J⟩:=h.p;refine ME.of (OK (H:=Go.Ae.hN H) hz ht E hb) ?_;have hS1:=(G.perm W).yG ty<|bK w;have hb0:Bk (Go.Ae.hN<|hM H<|(Go.Ae.hN H).new<|rowOf ty<|bK w) _ ty (bK w):=hS1.get 0 O;have hb1:Bk (Go.Ae.hN<|hM H<|(Go.Ae.hN H).new<|rowOf ty<|bK w) r ty xs:=hS1.get 1 O;refine ME.of (R6 hb1 hl<|vW (k:=1) hb0 N)<|kk _ _ _ _ [((hM H<|(Go.Ae.hN H).new<|rowOf ty<|bK w).next,ty,xs++bK w)] (.inr ⟨_,2,[],O,by rw[aQ];omega,by simp;rfl⟩) (((F.drop (A:=[_,_]) hS1).yG ty _).perm<|J [((hM H<|(Go.Ae.hN H).new<|rowOf ty<|bK w).next,ty,xs++bK w)]) (xQ<|Ext.new _ _) (.inl<|fP<|Ext.new _ _) ?_;exact F.drop (A:=[_])<|G.yG ty<|bK w
def F.rd{S':C Nat}{H0' A vn:R}{o:Nat}{a b:R}(hA:F S H0 A L)(hB:F S' H0' (hM A vn) L')[W:Ak L r ty M][J:Ak L' r ty M](hs:∀v∈(M.drop o).take n,nG v v=f)(hn:o+n<=M.length:=by exact aF O):mY ⟨2,0,0,0,A,vn⟩ ⟨4,r,o,n,a,b⟩=f:=
 let⟨i,hi⟩:=W.at';let⟨j,hj⟩:=J.at';pP (hA.get i hi) ((hB.get j hj).jb rfl) hn hs
def F.neT{r':Nat}{ty':aH}{cs':C Z}(G:F S H0 H L)[W:Ak L r ty M][J:Ak L r' ty' cs'](h:ty≠ty':=by decide):r≠r':=λe=>by
 subst e;have⟨i,hi⟩:=W.at';have⟨j,hj⟩:=J.at';exact h<|(G.get i hi).Jc.one (G.get j hj).Jc
end
section
variable{P:aU}{κ:Type}[DecidableEq κ]{e:κ->Z}{S:C Nat}{ay:κ->aB Z}{k:κ}{t kt vt:aH}{K:Z->R->Prop}
def lkm(m:C<|κ×Z)(k:κ):aB Z:=(m.find? λp=>decide<|p.1=k).map (·.2)
def upm(k:κ)(v:Z):C (κ×Z)->C (κ×Z)
 |[]=>[(k,v)]
 |p::m=>if p.1=k then(k,v)::m else p::upm k v m
abbrev Sb(e:κ->Z)(m:C<|κ×Z):C (Z×Z):=m.map λp=>(e p.1,p.2)
def Cx(e:κ->Z)(H:R)(r:Nat)(ay:κ->aB Z):Prop:=∃m,r<H.next/\H.obj r=.map (Sb e m)/\∀k,lkm m k=ay k
def A_(p:κ×Z)(m:C<|κ×Z):lkm (p::m) k=if p.1=k then D p.2 else lkm m k:=by
 unfold lkm;rw[List.find?_cons]
 by_cases h:p.1=k
 .rw[if_pos h,bL h];rfl
 .rw[if_neg h,dB h]
def WN(j:κ):∀m,lkm (upm k v m) j=if j=k then D v else lkm m j
 |[]=>by
  show lkm [(k,v)] j=_;rw[A_]
  by_cases h:j=k
  .rw[if_pos h,if_pos h.symm]
  .rw[if_neg h,if_neg λg=>h g.symm]
 |p::m=>by
  unfold upm
  by_cases hp:p.1=k
  .rw[if_pos hp,A_,A_,hp]
   by_cases h:j=k
   .rw[if_pos h,if_pos h.symm]
   .rw[if_neg h,if_neg λg=>h g.symm,if_neg λg=>h g.symm]
  .rw[if_neg hp,A_,A_,WN j m]
   by_cases h:j=k
   .rw[if_pos h,if_pos h,if_neg (by rw[h];exact hp)]
   .rw[if_neg h,if_neg h]
def Cx.ex(h:Cx e H r ay)(E:oN S H T)(y:r∉S):Cx e T r ay:=let⟨m,W,J,h3⟩:=h;⟨m,aR W E.next,(E.obj r W y).trans J,h3⟩
def F.Dv(G:F S H0 H L)(h:Cx e H r ay):r∉L.map (·.1):=λy=>by
 have⟨m,_,J,_⟩:=h;obtain⟨x,E,rfl⟩:=bQ.1 y;have⟨az,W,_⟩:=G.bk x E;rw[J]at W;cases W
def WO(ht:∀a b,lC P kt (e a) (e b)=D (decide<|a=b)):∀(m:C<|κ×Z)(i:Nat),∃q:aB<|Nat×Z,rH P kt (e k) (Sb e m) i=D q/\q.map (·.2)=lkm m k/\(q=Q->Sb e m++[(e k,v)]=Sb e (upm k v m))/\∀j w,q=D (j,w)->i<=j/\(Sb e m).set (j-i) (e k,v)=Sb e (upm k v m):=by
 intro m
 induction m with
 |nil=>exactλi=>⟨Q,rfl,rfl,λ_=>rfl,λj w h=>by cases h⟩
 |cons p m ih=>
  intro i;have h0:rH P kt (e k) (Sb e<|p::m) i=aL (lC P kt (e k)<|e p.1) λb=>bV b (D<|D (i,p.2)) (rH P kt (e k) (Sb e m)<|bW i):=rfl;rw[h0,ht,A_];unfold upm
  by_cases h:k=p.1
  .rw[bL h,if_pos h.symm,if_pos h.symm];refine⟨D (i,p.2),O,O,(λh=>by cases h),λj w g=>?_⟩;cases g;exact⟨ax _,by rw[jc];rfl⟩
  .rw[dB h,if_neg λg=>h g.symm,if_neg λg=>h g.symm];have⟨q,W,J,h3,h4⟩:=ih<|i+1;refine⟨q,W,J,λg=>dW (_::·)<|h3 g,λj w g=>?_⟩;have⟨g1,g2⟩:=h4 j w g;refine⟨N,?_⟩;rw[show j-i=(j-(i+1))+1 by omega];exact dW (_::·) g2
def QS(ht:∀a b,lC P kt (e a) (e b)=D (decide<|a=b)):zS P kt (e k)=D ():=by
 show aL (lC P kt (e k)<|e k) _=_;rw[ht,bL O];rfl
def Cx.look(hm:Cx e H r ay)(W:uT P t=D (kt,vt))(J:xW P vt=D z)(h3:∀a b,lC P kt (e a) (e b)=D (decide<|a=b))(kk:K (okd ok ((ay k).getD z) (ay k).isSome H).1 H):ME (sV P t (.map<|D r) (e k) ok H) K:=by
 have⟨m,g1,g2,g3⟩:=hm;have⟨q,e1,e2,_⟩:=WO (v:=z) h3 (k:=k) m 0
 have:sV P t (.map<|D r) (e k) ok H=D (okd ok ((ay k).getD z) (ay k).isSome H):=by
  show(aL (uT P t) λq=>aL (xW P q.2) λz=>aL (mapOf H<|.map<|D r) λes=>aL (zS P q.1<|e k) λ_=>aL (rH P q.1 (e k) es 0) λay=>_)=_;rw[W];show(aL (xW P vt) λz=>aL (JS<|H.obj r) λes=>aL (zS P kt<|e k) λ_=>aL (rH P kt (e k) es 0) λay=>_)=_;rw[J,g2,QS h3];show aL (rH P kt (e k) (Sb e m) 0) _=_;rw[e1,<-g3,<-e2];cases q<;>rfl
 rw[this];cases ok<;>exact ME.of O kk
def Cx.IU(hm:Cx e H r ay)(W:uT P t=D (kt,vt))(J:xW P vt=D z)(h3:∀a b,lC P kt (e a) (e b)=D (decide<|a=b))(kk:K (.tuple ⟨[(ay k).getD z,.bool (ay k).isSome]⟩) H):ME (sV P t (.map<|D r) (e k) f H) K:=hm.look W J h3 kk
def Cx.has{p:κ->Prop}[DecidablePred p](hm:Cx e H r λk=>if p k then D z else Q)(W:uT P t=D (kt,vt))(J:xW P vt=D z)(h3:∀a b,lC P kt (e a) (e b)=D (decide<|a=b))(kk:K (.tuple ⟨[z,.bool<|decide<|p k]⟩) H):ME (sV P t (.map<|D r) (e k) f H) K:=hm.IU W J h3 (by
 by_cases h:p k
 .simp only[if_pos h,bL h]at kk|-;exact kk
 .simp only[if_neg h,dB h]at kk|-;exact kk)
def Cx.plus{p q:κ->Prop}[DecidablePred p][DecidablePred q](hm:Cx e H r λj=>if j=k then D z else if p j then D z else Q)(h:∀j,q j<->p j\/j=k):Cx e H r λj=>if q j then D z else Q:=by
 have:(λj=>if q j then D z else Q)=λj=>if j=k then D z else if p j then D z else Q:=funext λj=>by
  by_cases W:j=k
  .rw[if_pos W,if_pos<|(h j).2<|.inr W]
  .rw[if_neg W]
   by_cases J:p j
   .rw[if_pos J,if_pos<|(h j).2<|.inl J]
   .rw[if_neg J,if_neg λg=>((h j).1 g).elim J W]
 rw[this];exact hm
def acR{m:C (κ×Z)}(g1:H.obj r=.map (Sb e m))(W:uT P t=D (kt,vt))(h3:∀a b,lC P kt (e a) (e b)=D (decide<|a=b)):vF P t (.map<|D r) (e k) v H=D (undef,H.put r<|.map<|Sb e<|upm k v m):=by
 have⟨q,e1,_,e2,e3⟩:=WO (v:=v) h3 (k:=k) m 0;show(aL (uT P t) λq=>aL (JS<|H.obj r) λes=>aL (zS P q.1<|e k) λ_=>aL (rH P q.1 (e k) es 0) λay=>_)=_;rw[W];show(aL (JS<|H.obj r) λes=>aL (zS P kt<|e k) λ_=>aL (rH P kt (e k) es 0) λay=>_)=_;rw[g1,QS h3];show aL (rH P kt (e k) (Sb e m) 0) _=_;rw[e1];cases q with
 |none=>
  rw[<-e2 O];show D (undef,H.put r<|.map<|app (Sb e m) [(e k,v)])=_;rw[qB]
 |some p=>
  rw[<-(e3 _ _ O).2];show D (undef,H.put r<|.map<|setAt (e k,v) p.1<|Sb e m)=_;rw[Az];rfl
def F.ak0{H1:R}{m:C (κ×Z)}(G:F S H0 H L)(y:r∈S\/H0.next<=r)(hn:r∉L.map (·.1))(g1:r<H.next)(g3:∀k,lkm m k=ay k)(E:oN [r] H H1)(e1:H1.obj r=.map (Sb e<|upm k v m))(e2:∀q,q≠r->H1.obj q=H.obj q)(e3:H1.next=H.next):Cx e H1 r (λj=>if j=k then D v else ay j)/\F S H0 H1 L:=
 ⟨⟨_,by rw[e3];exact g1,e1,λj=>by rw[WN,g3]⟩,G.ext.later E (λq hq=>by rw[aP]at hq;subst hq;exact y),λx E=>(G.bk x E).jb<|e2 _ λh=>hn (by rw[<-h];exact bQ.2 ⟨x,E,O⟩),λx E=>by rw[e3];exact G.lo x E,G.ne,E.wf G.wf⟩
def F.amF(G:F S H0 H L)(y:r∈S\/H0.next<=r)(hm:Cx e H r ay)(W:uT P t=D (kt,vt))(h3:∀a b,lC P kt (e a) (e b)=D (decide<|a=b))(kk:∀T,Cx e T r (λj=>if j=k then D v else ay j)->F S H0 T L->oN [r] H T->K undef T):ME (vF P t (.map<|D r) (e k) v H) K:=by
 have hn:=G.Dv hm;obtain⟨m,g1,g2,g3⟩:=hm;have E:=oN.put H r<|.map<|Sb e<|upm k v m;obtain⟨a,b⟩:=G.ak0 y hn g1 g3 E (by rw[uZ,if_pos O]) (λq hq=>by rw[uZ,if_neg hq]) O;exact ME.of (acR g2 W h3)<|kk _ a b E
def F.ae4(G:F S H0 H L)(y:r∈S\/H0.next<=r)(hm:Cx e H r ay)(W:uT P t=D (kt,vt))(h3:∀a b,lC P kt (e a) (e b)=D (decide<|a=b))(kk:∀T,Cx e (hM H T) r (λj=>if j=k then D v else ay j)->F S H0 (hM H T) L->oN [r] H (hM H T)->DY H T=⟨2,0,0,0,H,T⟩->K undef T):ME (vF P t (.map<|D r) (e k) v<|Go.Ae.hN H) K:=by
 have hn:=G.Dv hm;obtain⟨m,g1,g2,g3⟩:=hm;have E:oN [r] H (hM H<|(Go.Ae.hN H).put r<|.map<|Sb e<|upm k v m):=(oN.put (Go.Ae.hN H) r _).draw;obtain⟨a,b⟩:=G.ak0 (v:=v) y hn g1 g3 E (by show((Go.Ae.hN H).put r _).obj r=_;rw[uZ,if_pos O]) (λq hq=>by show((Go.Ae.hN H).put r _).obj q=_;rw[uZ,if_neg hq];rfl) rfl;exact ME.of (acR (H:=Go.Ae.hN H) g2 W h3)<|kk _ a b E<|VJ (by rw[u_];show min H.next r<_;omega)
theorem F.mkMap{q:aH×aH}(G:F S H0 H L)(W:uT P t=D q)(kk:∀T r,Cx e T r (λ_=>Q)->Ext H T->H.next<=r->F S H0 T L->K (.map<|D r) T):ME (uV P t Q H) K:=by
 refine ME.of (v:=.map<|D H.next) (H:=H.new<|.map []) ?_<|kk _ _ ⟨[],dM _,by rw[yg,if_pos O];rfl,λ_=>rfl⟩ (Ext.new _ _) (ax _)<|G.call<|Ext.new _ _;show aL (uT P t) _=_;rw[W];rfl
end
def ac3{g:Cl->Cl}{au:Cl->Prop}(hg:∀x hr b,au x->au hr->fH (g hr) (g x) b=f->fH hr x b=f):∀(ms:C Nat)(l:C Cl),(∀c∈l,au c)->pairs fH ms (l.map g)=f->pairs fH ms l=f:=by
 have row:∀(x:Cl)(k:Nat)(l:C Cl),au x->(∀c∈l,au c)->ji fH (g x) k (l.map g)=f->ji fH x k l=f:=by
  intro x k l E
  induction l with
  |nil=>intro _ _;rfl
  |cons hr l ih=>
   intro h W;replace W:bV (fH (g x) (g hr)<|gZ k<|len<|l.map g) (ji fH (g x) k<|l.map g) aC=f:=W;have⟨J,h4⟩:=Al W;show bV (fH x hr<|gZ k<|len l) (ji fH x k l) aC=f;rw[fU,aK]at J;rw[fU,hg hr x _ (h hr<|aN ..) E J,ih (λc hc=>h c<|bH _ hc) h4];rfl
 intro ms
 induction ms with
 |nil=>intro l _ _;rfl
 |cons k ms ih=>
  intro l h W;cases l with
  |nil=>rfl
  |cons x l=>
   replace W:bV (ji fH (g x) k<|l.map g) (pairs fH ms<|l.map g) aC=f:=W;have⟨J,h4⟩:=Al W;show bV (ji fH x k l) (pairs fH ms l) aC=f;rw[row x k l (h x<|aN ..) (λc hc=>h c<|bH _ hc) J,ih l (λc hc=>h c<|bH _ hc) h4];rfl
def g9(c:Cl):Cl:=⟨c.k,0,0,1,hh0,hh0⟩
theorem ac4{x hr:Cl}(x3:x.k≠3)(y3:hr.k≠3)(h:fH (g9 hr) (g9 x) b=f):fH hr x b=f:=by
 have r:∀w l:Cl,mY (g9 w) (g9 l)=aC:=λw l=>GY (a:=hh0) (b:=hh0) (l:=g9 l) O (by show(1:Nat)≠0;decide);unfold fH at h|-;rw[z8 x3,z8 y3];rw[show aA (g9 x).k 3=aC from z8 x3,show aA (g9 hr).k 3=aC from z8 y3,r,r,ny]at h
 revert h
 show bV (aA hr.k 0||aA x.k 0||aA hr.k 5||aA x.k 5) f (bV aC _<|bV aC _<|bV (aA x.k 4) (bV (aA hr.k 2) b f)<|bV (aA hr.k 4) (bV (aA x.k 2) b f)<|bV (aA x.k 1&&aA hr.k 1) f b)=f->_;cases(aA hr.k 0||aA x.k 0||aA hr.k 5||aA x.k 5)<;>cases aA x.k 4<;>cases aA hr.k 2<;>cases aA hr.k 4<;>cases aA x.k 2<;>cases b<;>intro h<;>first|rfl|exact h|(cases h;done)
def UW{ops:Array Oper}{l:C Cl}{K:Prop}(h3:all' (λc=>!(aA c.k 3)) (l.map g9)=f)(h:pairs fH (tT ops.toList [] 0) (l.map g9)=f)(k:K):jT ops l=f/\K:=by
 refine⟨?_,k⟩;unfold jT;rw[ac3 (au:=λc=>c.k≠3) (λx hr b E hy=>ac4 E hy) _ l (λc hc e=>?_) h]
 .cases noTwo l<;>rfl
 .rw[all_eq,eG]at h3;have:=h3 (g9 c)<|List.mem_map_of_mem hc;unfold g9 at this;rw[e]at this;cases this
end Go.Ae
