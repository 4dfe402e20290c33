/-
  Part 06 of the proof. No condition.
-/
import Derived.Test.YtpngmpbmokhmiaaGreatDoorZ05
set_option linter.unusedVariables false
set_option linter.unusedSimpArgs false
set_option maxRecDepth 100000
set_option maxHeartbeats 4000000
set_option linter.defProp false
open Option renaming some->Z,none->W
open Bool renaming true->f,false->aA
open Go renaming Value->D,TypeId->aG,Program->aS,Operand->bO,IntKind->fu,BinOp->qQ
open Go.Value renaming int->bV,slice->T,pointer->tN,agg->Ru
open Nat renaming beq->ay,succ->bU,ble->aB,add->aV,mul->bL
open UInt8 renaming ofNat->jb
open List.Perm renaming swap->gm,cons->dQ
open ByteArray renaming mk->cz
open BitVec renaming ofInt->g_
open Go.IntKind renaming wrap->mh
noncomputable section
namespace Go.Proofs.Lu
open Go.Ae Go.Ae.SH
variable{bs E dY:List D}{A L gb:List dJ}{v:D}{H C H0:F}{KM b c d av k m n r rb sz:Nat}{K Km:D->F->Prop}{a x z:Int}{s:ByteArray}{e ty:aG}
def Q0(p:D->Prop)(H:F)(v:D)(C:F):Prop:=p v/\C=H
def Q1(p:D->F->Prop)(H:F)(v:D)(C:F):Prop:=p v C/\Ext H C
abbrev isB(v:D):Prop:=∃b,v=.bool b
def Kq(c:Int):aJ Pg X 197 [.int .u8 c] H (Q0 isB H):=by
 refine ce [0,2] ?_;refine tl ?_
 repeat' (first|(refine aY ?_)|(refine aC (λy=>?_) λy=>?_)|(refine rr ?_))
 all_goals exact⟨⟨_,O⟩,O⟩
theorem Ij(c:Int):aJ Pg X 169 [.int .u8 c] H (Q0 isB H):=by
 refine ce [0,2] ?_;refine tl ?_
 repeat' (first|(refine aY ?_)|((refine aJ.mono (Kq _) ?_;rintro v C ⟨⟨b,rfl⟩,rfl⟩))|(refine aC (λy=>?_) λy=>?_)|(refine rr ?_))
 all_goals exact⟨⟨_,O⟩,O⟩
theorem Qp(c:Int):aJ Pg X 198 [.int .u8 c] H (Q0 isB H):=by
 refine ce [0,2] ?_;refine tl ?_
 repeat' (first|(refine aY ?_)|((refine aJ.mono (Ij _) ?_;rintro v C ⟨⟨b,rfl⟩,rfl⟩))|(refine dL (λhb=>?_) λhb=>?_)|(refine rr ?_))
 all_goals exact⟨⟨_,O⟩,O⟩
def Gx(c:Int):aJ Pg X 173 [.int .u8 c] H (Q0 (λv=>∃k b,v=.tuple ⟨[vi k,.bool b]⟩) H):=by
 refine ce [0,2,3,4] ?_;refine tl ?_
 repeat' (first|(refine aY ?_)|(refine aC (λy=>?_) λy=>?_)|(refine rr ?_))
 all_goals exact⟨⟨_,_,O⟩,O⟩
abbrev ajq(s t:ByteArray)(v:D):Prop:=∃b:Bool,v=.bool b/\(b=f->∃r,s.data.toList=t.data.toList++r)
def IK(s t:ByteArray):aJ Pg X 195 [.string s,.string t] H (Q0 (ajq s t) H):=by
 refine ce [0,1,4] ?_;refine tp ?_;refine aC (λy=>?_) λy=>?_
 .rw[agG N];refine aY ?_;refine rr ?_;refine⟨⟨_,O,λh=>?_⟩,rfl⟩;have Q:Go.Ae.part s 0 t.size=t:=fE h;have I:(Go.Ae.part s 0 t.size).data.toList=t.data.toList:=by rw[Q]
  refine⟨s.data.toList.drop t.size,?_⟩;rw[<-I];exact(iO t.size s.data.toList).symm
 .refine rr ?_;exact⟨⟨_,O,λh=>by cases h⟩,rfl⟩
def CQ(s t:ByteArray):aJ Pg X 167 [.string s,.string t] H (Q0 (ajq s t) H):=by
 refine ce [0,1,4] ?_;refine tl ?_;refine aJ.mono (IK s t) ?_;rintro v C ⟨⟨b,rfl,hb⟩,rfl⟩;refine rr ?_;exact⟨⟨_,O,hb⟩,O⟩
def S_(c:Int):aJ Pg X 237 [.int .u8 c] H (Q0 (λv=>∃k b,v=.tuple ⟨[.int .i32 k,.bool b]⟩) H):=by
 refine ce [0,2,3] ?_;refine tl ?_
 repeat' (first|(refine aY ?_)|(refine aC (λy=>?_) λy=>?_)|(refine tl ?_)|(refine rr ?_))
 all_goals exact⟨⟨_,_,O⟩,O⟩
def Kr(c:Int):aJ Pg X 248 [.int .i32 c] H (Q0 isB H):=by
 refine ce [0,2] ?_;refine tl ?_
 repeat' (first|(refine aY ?_)|(refine aC (λy=>?_) λy=>?_)|(refine tl ?_)|(refine rr ?_))
 all_goals exact⟨⟨_,O⟩,O⟩
theorem Qq(c:Int):aJ Pg X 238 [.int .i32 c] H (Q0 (λv=>∃s b,v=.tuple ⟨[.string s,.bool b]⟩) H):=by
 refine ce [0,2,3] ?_;refine tl ?_;refine aJ.mono (Kr _) ?_;rintro v C ⟨⟨b,rfl⟩,rfl⟩
 repeat' (first|(refine aY ?_)|(refine dL (λhb=>?_) λhb=>?_)|(refine rr ?_))
 all_goals exact⟨⟨_,_,O⟩,O⟩
section
structure Bt(H:F):Prop where
 first:∀i:Nat,i<256->∃x:Int,(x=240\/x=241\/x=2\/x=19\/x=3\/x=35\/x=52\/x=4\/x=68)/\H.cell 1 i=Z (.int .u8 x)
 rng:∀i:Nat,i<16->∃a b:Int,H.read 2 (i*2) 2=Z [.int .u8 a,.int .u8 b]
 lt:3<=H.next
theorem Bt.ex(h:Bt H)(J:Ext H C):Bt C:=
 ⟨λi hi=>by
  obtain⟨x,Q,I⟩:=h.first i hi
  exact⟨x,Q,(lQ (J.obj 1 (by have:=h.lt;omega)<|by simp) _).trans I⟩,
  λi hi=>by
   obtain⟨a,b,I⟩:=h.rng i hi;exact⟨a,b,(vw (J.obj 2 (by have:=h.lt;omega)<|by simp) _ _).trans I⟩,
  aX h.lt J.next⟩
def XG(J:x=240\/x=241\/x=2\/x=19\/x=3\/x=35\/x=52\/x=4\/x=68):240<=x\/(x<240/\∃z q:Nat,2<=z/\z<=4/\q<16/\nU .i64 (NZ .u8 x 7)=(z:Int)/\Ee .u8 x 4=(q:Int)):=by
 rcases J with rfl|rfl|rfl|rfl|rfl|rfl|rfl|rfl|rfl
 .left;decide
 .left;decide
 .right;exact⟨by decide,2,0,by decide,by decide,by decide,by decide,by decide⟩
 .right;exact⟨by decide,3,1,by decide,by decide,by decide,by decide,by decide⟩
 .right;exact⟨by decide,3,0,by decide,by decide,by decide,by decide,by decide⟩
 .right;exact⟨by decide,3,2,by decide,by decide,by decide,by decide,by decide⟩
 .right;exact⟨by decide,4,3,by decide,by decide,by decide,by decide,by decide⟩
 .right;exact⟨by decide,4,0,by decide,by decide,by decide,by decide,by decide⟩
 .right;exact⟨by decide,4,4,by decide,by decide,by decide,by decide,by decide⟩
abbrev aa6(s:ByteArray)(v:D)(C:F):Prop:=∃(r:Int)(k:Nat),v=.tuple ⟨[.int .i32 r,B k]⟩/\k<=4/\k<=s.size/\(0<s.size->0<k)
def FD(k:Nat)(hz:z=(k:Int))(h:k<s.size):∃c:UInt8,idS (.string s) (.int .i64 z)=Z (.int .u8 (c.toNat:Int)):=by subst hz;exact⟨_,su h⟩
set_option maxHeartbeats 1000000 in
theorem BL(hw:Wf H)(hT:Bt H)(s:ByteArray):aJ Pg X 236 [.string s] H (Q1 (aa6 s) H):=by
 have G:=M.refl hw;refine ce [0,2,3,4,5,6,7,8,9,10,11,12] ?_;refine tp ?_;refine aC (λQ=>?_) λQ=>?_
 .refine rr ?_;exact⟨⟨_,0,O,N,N,λh=>by omega⟩,G.ext⟩
 .obtain⟨c,e0⟩:=FD (s:=s) (z:=0) 0 O N;have y:c.toNat<256:=c.toNat_lt;simp only[e0,Ja];rw[Z' y];refine aY ?_;obtain⟨x,J,hcell⟩:=hT.first _ y
  refine G.Ay (by rw[dz];exact hcell) (by have:=hT.lt;omega) ?_;refine aY ?_;refine aC (λI=>?_) λI=>?_
  .refine rr ?_;exact⟨⟨_,1,O,N,N,λh=>by omega⟩,G.ext⟩
  .rcases XG J with h3|⟨h3,z,q,hz1,hz2,hq,ez,eq⟩
   .exact absurd h3 I
   .rw[ez,eq,Z' hq];refine aY ?_;obtain⟨a,b,R⟩:=hT.rng q hq;refine G.zP R (by have:=hT.lt;omega) ?_;refine G.iZ λH1 r1 G=>G.st 0 O O (by simp) O λH2 G=>?_;have G:M [] H H2 [(r1,353,[.int .u8 a,.int .u8 b])]:=G;refine aY ?_;refine aC (λh4=>?_) λh4=>?_
    .refine rr ?_;exact⟨⟨_,1,O,N,N,λh=>by omega⟩,G.ext⟩
    .obtain⟨c1,e1⟩:=FD (s:=s) (z:=1) 1 O N;simp only[e1,Ja];refine G.ld 0 O O ?_;refine aY ?_;refine aC (λh5=>?_) λh5=>?_
     .refine rr ?_;exact⟨⟨_,1,O,N,N,λh=>by omega⟩,G.ext⟩
     refine G.ld 0 O O ?_;refine aY ?_;refine aC (λh5=>?_) λh5=>?_
     .refine rr ?_;exact⟨⟨_,1,O,N,N,λh=>by omega⟩,G.ext⟩
     refine tp ?_;refine aC (λh6=>?_) λh6=>?_
     .refine rr ?_;exact⟨⟨_,2,O,N,N,λh=>by omega⟩,G.ext⟩
     obtain⟨c2,e2⟩:=FD (s:=s) (z:=2) 2 O N;simp only[e2];refine aY ?_;refine aC (λh7=>?_) λh7=>?_
     .refine rr ?_;exact⟨⟨_,1,O,N,N,λh=>by omega⟩,G.ext⟩
     refine aC (λh7=>?_) λh7=>?_
     .refine rr ?_;exact⟨⟨_,1,O,N,N,λh=>by omega⟩,G.ext⟩
     refine tp ?_;refine aC (λh8=>?_) λh8=>?_
     .refine rr ?_;exact⟨⟨_,3,O,N,N,λh=>by omega⟩,G.ext⟩
     obtain⟨c3,e3⟩:=FD (s:=s) (z:=3) 3 O N;simp only[e3];refine aY ?_;refine aC (λh7=>?_) λh7=>?_
     .refine rr ?_;exact⟨⟨_,1,O,N,N,λh=>by omega⟩,G.ext⟩
     refine aC (λh7=>?_) λh7=>?_
     .refine rr ?_;exact⟨⟨_,1,O,N,N,λh=>by omega⟩,G.ext⟩
     refine tp ?_;refine rr ?_;exact⟨⟨_,4,O,N,N,λh=>by omega⟩,G.ext⟩
def Qr(hw:Wf H)(hT:Bt H)(s:ByteArray):aJ Pg X 221 [.string s] H (Q1 (aa6 s) H):=by
 refine ce [0,2,3] ?_;refine tp ?_;refine bT (λQ=>?_) λQ=>?_
 .have hs:0<s.size:=by
   rcases gH s.size with h|h
   .exfalso;apply Q;obtain⟨⟨l⟩⟩:=s;have:l.length=0:=h;rw[dK]at this;subst this;rfl
   .exact h
  obtain⟨c,e0⟩:=FD (s:=s) (z:=0) 0 O hs;simp only[e0];refine aY ?_;refine tp ?_;refine aC (λI=>?_) λI=>?_
  .simp only[e0];refine aY ?_;refine rr ?_;exact⟨⟨_,1,O,N,N,λh=>by omega⟩,Ext.refl _⟩
  .refine aJ.mono (BL hw hT s) ?_;rintro v C ⟨⟨r,k,rfl,hk⟩,J⟩;simp only[agH];refine aY ?_;refine tl<|rr ?_;exact⟨⟨_,k,O,hk⟩,J⟩
 .refine tp ?_;refine aJ.mono (BL hw hT s) ?_;rintro v C ⟨⟨r,k,rfl,hk⟩,J⟩;refine aY ?_;refine tl<|rr ?_;exact⟨⟨_,k,O,hk⟩,J⟩
end
section
def isByte(v:D):Prop:=∃n:Nat,n<=255/\v=.int .u8 (n:Int)
def wrap_u8(n:Int):∃m:Nat,m<=255/\mh .u8 n=(m:Int):=by
 refine⟨(n %256).toNat,N,?_⟩;show n %(2^8:Int)=_;have:(2:Int)^8=256:=by decide
 rw[this];omega
def Qs(n:Int):isByte (.int .u8<|nU .u8 n):=by
 have:nU .u8 n=mh .u8 n:=by cases n<;>rfl
 rw[this];obtain⟨m,Q,I⟩:=wrap_u8 n;exact⟨m,Q,by rw[I]⟩
def Gy(a b:Int):isByte (.int .u8<|bOr .u8 a b):=by obtain⟨m,Q,I⟩:=wrap_u8<|BitVec.toNat<|g_ (IntKind.u8).bits a|||g_ (IntKind.u8).bits b;exact⟨m,Q,by unfold bOr;rw[I]⟩
def Es(n:Nat)(h:n<=255):isByte (.int .u8 (n:Int)):=⟨n,h,O⟩
def aa7(E:List D)(h:∀x∈E,isByte x):∃bs,q_ E=Z bs/\bs.length=E.length:=by
 induction E with
 |nil=>exact⟨[],O,O⟩
 |cons x E ih=>
  obtain⟨bs,Q,I⟩:=ih λhc hy=>h hc<|bH _ hy;obtain⟨n,hn,rfl⟩:=h x<|aL ..
  refine⟨jb n::bs,?_,by simp[I]⟩;show(aK (Z (IntKind.u8,(n:Int))) λp=>aK (Jq p.2) λn=>gd (IA p.1&&aB n 255)<|aK (q_ E) λbs=>Z<|jb n::bs)=_;rw[Q];show gd (aB n 255) _=_;rw[aH hn];rfl
def Ta:∀{E:List D}{l:List UInt8},q_ E=Z l->l.length=E.length:=by
 intro E
 induction E with
 |nil=>intro l h;cases h;rfl
 |cons x E ih=>
  intro l h;replace h:(aK (sK x) λp=>aK (Jq p.2) λn=>gd (IA p.1&&aB n 255)<|aK (q_ E) λbs=>Z<|jb n::bs)=Z l:=h;obtain⟨p,_,h⟩:=aI h;obtain⟨n,_,h⟩:=aI h;obtain⟨_,h⟩:=fH h;obtain⟨bs,Q,h⟩:=aI h;cases h;simp[ih Q]
def Vz(E:List D)(h:∀x∈E,isByte x):all' fB E=f:=by
 rw[all_eq,eD];intro x J;obtain⟨n,_,rfl⟩:=h x J;rfl
section lit
variable{z:D}{k:fu}{b c d:Int}
def afH:bS e [z] 1 1 [(0,.int k a)] H=Z (T (Z ⟨H.next,0,W⟩) 1 1,H.new<|rowOf e [.int k a]):=rfl
def afI:bS e [z] 1 2 [(0,.int k a),(1,.int k b)] H=Z (T (Z ⟨H.next,0,W⟩) 2 2,H.new<|rowOf e [.int k a,.int k b]):=rfl
def aa8:bS e [z] 1 3 [(0,.int k a),(1,.int k b),(2,.int k c)] H=Z (T (Z ⟨H.next,0,W⟩) 3 3,H.new<|rowOf e [.int k a,.int k b,.int k c]):=rfl
def afJ:bS e [z] 1 4 [(0,.int k a),(1,.int k b),(2,.int k c),(3,.int k d)] H=Z (T (Z ⟨H.next,0,W⟩) 4 4,H.new<|rowOf e [.int k a,.int k b,.int k c,.int k d]):=rfl
end lit
def Qt(H0:F)(L:List dJ)(bs:List D)(v':D)(C:F):Prop:=∃xs gT,GB 5 1 v' (bs++xs) gT/\M [] H0 C (gT++L)/\(∀x∈xs,isByte x)/\xs.length<=4/\0<xs.length
def CR(hg:GB 5 1 v bs gb)(G:M [] H0 H<|gb++L)(hl:bs.length<=10000000){xs:List D}(hxs:xs.length=m+1)(hm:m<=3)(hb:∀x∈xs,isByte x)(k:∀v' C,Qt H0 L bs v' C->K v' C):ME (zB 5 1 v (T (Z ⟨H.next,0,W⟩) (m+1)<|m+1)<|H.new<|rowOf 5 xs) K:=by
 have hS2:=G.grow 5 xs;obtain⟨v',H1,gT,Q,I,h3,_⟩:=hg.app (m:=m) (cx:=m+1) hS2 N N (Vz xs hb) N N;rw[Q];exact k v' H1 ⟨xs,gT,I,h3,hb,N,N⟩
set_option maxHeartbeats 1000000 in
theorem Ks(hg:GB 5 1 v bs gb)(G:M [] H0 H<|gb++L)(hl:bs.length<=10000000)(r:Int):
 aJ Pg X 240 [v,.int .i32 r] H (Qt H0 L bs):=by
 refine ce [0,1,4,5] ?_;refine tp ?_;refine aC (λQ=>?_) λQ=>?_
 .refine ME.of afI ?_;refine CR hg G hl (m:=1) O N (by intro x J;simp at J;rcases J with rfl|rfl<;>exact Gy _ _) λv' C h=>?_;exact rr<|h
 .have fin:∀c u,Aw u 25=.bool c->gJ Pg X (sub pq [1,1,0,1,1,1]) (oV v (.int .i32 r) (T W 0 0) (.int .u32<|nU .u32 r) u H) (rO 0<|jR Pg [.tmp 4]<|Qt H0 L bs):=by
   intro c u y;refine tl ?_;rw[y];refine aY ?_;refine dL (λI=>?_) λI=>?_
   .refine ME.of aa8 ?_;refine CR hg G hl (m:=2) O N (by intro x J;simp at J;rcases J with rfl|rfl|rfl<;>exact Gy _ _) λv' C h=>?_;exact rr<|h
   .have Kt:∀c u,Aw u 50=.bool c->gJ Pg X (sub pq [1,1,0,1,1,1,1,1]) (oV v (.int .i32 r) (T W 0 0) (.int .u32<|nU .u32 r) u H) (rO 0<|jR Pg [.tmp 4]<|Qt H0 L bs):=by
     intro c u y;refine tl ?_;rw[y];refine aY ?_;refine dL (λI=>?_) λI=>?_
     .refine ME.of afJ ?_;refine CR hg G hl (m:=3) O N (by intro x J;simp at J;rcases J with rfl|rfl|rfl|rfl<;>exact Gy _ _) λv' C h=>?_;exact rr<|h
     .refine ME.of aa8 ?_;refine CR hg G hl (m:=2) O N (by intro x J;simp at J;rcases J with rfl|rfl|rfl<;>first|exact Es 239 N|exact Es 191 N|exact Es 189 N) λv' C h=>?_;exact rr<|h
    refine aC (λh3=>?_) λh3=>?_
    .exact Kt _ _ (by simp only[wX,Bf];rfl)
    .exact Kt _ _ (by simp only[wX,Bf];rfl)
  refine aC (λI=>?_) λI=>?_
  .exact fin _ _ (by simp only[wX,Bf];rfl)
  .refine aC (λh3=>?_) (λh3=>?_)
   .exact fin _ _ (by simp only[wX,Bf];rfl)
   .exact fin _ _ (by simp only[wX,Bf];rfl)
def IL(hg:GB 5 1 v bs gb)(G:M [] H0 H<|gb++L)(hl:bs.length<=10000000)(r:Int):
 aJ Pg X 224 [v,.int .i32 r] H (Qt H0 L bs):=by
 refine ce [0,1,4] ?_;refine tp ?_;refine aC (λQ=>?_) λQ=>?_
 .refine ME.of afH<|CR hg G hl (m:=0) O N (by intro x J;simp at J;rcases J with rfl;exact Qs _) λv' C h=>?_;exact rr<|h
 .exact aJ.mono (Ks hg G hl r) λv' C h=>rr<|h
abbrev bu(rb:Nat)(p:Option Addr)(v:D):dJ:=(rb,301,[.pointer p,v])
def Qu(t:aG)(ox:bO)(op:qQ)(a:Addr)(ht:F5 Pg t=1)(hop:yH op=1):lN Pg op t ox (.const<|.pointer W) (.pointer<|Z a) (.pointer W)=Z (.bool aA):=by
 show B_ op (Yx Pg t ox (.const<|.pointer W) (.pointer<|Z a)<|.pointer W)=_;show B_ op (L6 (F5 Pg t) (.pointer W)<|.pointer<|Z a)=_;rw[ht];show bR (ay (yH op) 1) _ _=_;rw[hop];rfl
def Og(t:aG)(ox:bO)(op:qQ)(ht:F5 Pg t=1)(hop:yH op=1):lN Pg op t ox (.const<|.pointer W) (.pointer W) (.pointer W)=Z (.bool f):=by
 show B_ op (L6 (F5 Pg t) (.pointer W)<|.pointer W)=_;rw[ht];show bR (ay (yH op) 1) _ _=_;rw[hop];rfl
def LJ(x:D):aJ Pg X 239 [x] H (Q0 (λv=>v=x) H):=by
 refine⟨x,H,⟨1,?_⟩,O,O⟩;rfl
def Gc{P:aS}{ty s e:Nat}(hb:Bk H r ty E)(h:0<E.length)(hq:YV P s d=Z (3,e,0))(hs:vI P e=Z sz)(Q:1<=sz):
 uh P s d (.pointer<|Z ⟨r,0,W⟩) H=Z (.pointer<|Z ⟨r,0,W⟩,H):=by
 obtain⟨hr,e1,_,e2,_⟩:=hb;unfold uh;rw[hq];show(aK (vI P e) λs=>aK (vE<|H.obj r) λw=>gd (aB 1 s&&aB 1 w.n)<|Z (tN<|Z ⟨r,0,W⟩,H))=_;rw[hs,e1];show gd (aB 1 sz&&aB 1 hr.n) _=_;rw[e2,aH Q,aH h];rfl
def Gd{P:aS}{ty s:Nat}(hb:Bk H r ty E)(hq:YV P s d=Z (4,ty,0))(hs:vI P ty=Z sz)(Q:1<=sz)(h:sz<=E.length):
 uh P s d (.pointer<|Z ⟨r,0,W⟩) H=Z (.pointer<|Z ⟨r,0,W⟩,H):=by
 obtain⟨hr,e1,e3,e2,_⟩:=hb;unfold uh;rw[hq];show(aK (vI P ty) λs=>aK (vE<|H.obj r) λw=>gd (aB 1 s&&ay w.ty ty&&ay 0 0&&aB s w.n)<|Z (tN<|Z ⟨r,0,W⟩,H))=_;rw[hs,e1];show gd (aB 1 sz&&ay hr.ty ty&&ay 0 0&&aB sz hr.n) _=_;rw[e2,e3,aH Q,aH h,dw];rfl
def CV.me{o:Option D}{q:Option (D×F)}{H1:F}{Kp:D->Prop}(ho:o=W)(hq:q=Z (v,H1))(k:Km v H1):CV o q Kp Km:=by rw[ho,hq];exact k
def aa9(t:aG)(i j:Nat)(r:Nat)(ht:F6 Pg t=f):lN Pg .neq t (.tmp i) (.tmp j) (.pointer<|Z ⟨r,0,W⟩) (.pointer<|Z ⟨r,0,W⟩)=Z (.bool aA):=by
 show B_ .neq (bR (F6 Pg t) (Go.Ae.ptrEq (.pointer<|Z ⟨r,0,W⟩)<|.pointer<|Z ⟨r,0,W⟩) _)=_;rw[ht];show B_ .neq (gd (ay r r)<|Z<|ay 0 0)=_;rw[dw];rfl
theorem Ku{p:Option Addr}(hp:p=W\/p=Z ⟨rb,0,W⟩)(G:M [] H0 H<|bu rb p v::L):
 aJ Pg X 223 [.pointer (Z ⟨rb,0,W⟩)] H λw C=>M [] H0 C (bu rb (Z ⟨rb,0,W⟩) v::L):=by
 refine ce [0] ?_;refine tp ?_;refine G.ld 0 O O ?_;rcases hp with rfl|rfl
 .rw[Og _ _ _ (by kernel_rfl) O];refine aY ?_;refine CV.me (by kernel_rfl) (Gc (sz:=2) (e:=301) (G.get 0 O) (xO _) (by kernel_rfl) (by kernel_rfl) N)<|aJ.mono (LJ _) ?_;rintro w C ⟨rfl,rfl⟩;refine CV.me (by kernel_rfl) (Gd (sz:=2) (G.get 0 O) (by kernel_rfl) (by kernel_rfl) N<|az _)<|G.st 0 O O (by show 0+1<=2;omega) rfl λH1 G=>?_;exact rn<|G
 .rw[Qu _ _ _ _ (by kernel_rfl) O];refine aY ?_;refine G.ld 0 O O ?_;rw[aa9 _ _ _ _ (by kernel_rfl)];refine aY ?_;exact rn<|G
def IM(rb:Nat)(bs:List D)(A:List dJ):Prop:=∃p v gb,(p=W\/p=Z ⟨rb,0,W⟩)/\GB 5 1 v bs gb/\A=bu rb p v::gb/\(∀x∈bs,isByte x)/\(bs=[]->v=T W 0 0)
def CS(hb:IM rb bs A)(G:M [] H0 H<|A++L)(hl:bs.length<=1000000)(r:Int):
 aJ Pg X 202 [.pointer (Z ⟨rb,0,W⟩),.int .i32 r] H λw C=>(∃x hc,w=.tuple ⟨[x,hc]⟩)/\∃xs A',IM rb (bs++xs) A'/\xs.length<=4/\M [] H0 C (A'++L):=by
 obtain⟨p,v,gb,hp,hg,rfl,hby,_⟩:=hb;refine ce [0,1,4,5,6] ?_;refine tl ?_;refine aJ.mono (Ku (L:=gb++L) hp G) ?_;intro w H1 G;obtain⟨a,n,c,rfl,hn,_⟩:=hg.fl<|M.drop (A:=[bu rb (Z ⟨rb,0,W⟩) v]) G;refine aY ?_;refine G.ld 0 O O ?_;refine aY ?_;refine G.ld 0 O O ?_;have hS2:M [] H0 H1 (gb++(bu rb (Z ⟨rb,0,W⟩) (T a n c)::L)):=G.perm iX.symm;refine aJ.mono (IL hg hS2 N r) ?_;rintro v' H2 ⟨xs,gT,hg',rQ,hxs,hxl,hx0⟩;have uR:M [] H0 H2 (bu rb (Z ⟨rb,0,W⟩) (T a n c)::(gT++L)):=rQ.perm iX;refine uR.st 0 O hg'.fB.2.1 (by show 1+1<=2;omega) hg'.fB.1 λH3 hS5=>?_;have hS5:M [] H0 H3 (bu rb (Z ⟨rb,0,W⟩) v'::(gT++L)):=by rw[hg'.fB.2.2]at hS5;exact hS5
 refine hS5.ld 0 O O ?_;obtain⟨a',n',c',rfl,hn',_⟩:=hg'.fl<|M.drop (A:=[bu rb (Z ⟨rb,0,W⟩) _]) hS5;have hnl:n'=n+xs.length:=by rw[aQ]at hn';omega
 refine aY ?_;rw[nW N N];refine aY ?_;refine rr ?_;refine⟨⟨_,_,O⟩,xs,_,⟨_,_,gT,.inr O,hg',O,?_,λh=>?_⟩,hxl,hS5⟩;rotate_left
 .rw[tO]at h;rw[h.2]at hx0;exact absurd hx0 (by simp)
 intro x J;rcases bX.1 J with h|h
 .exact hby x h
 .exact hxs x h
theorem FE(hb:Bk H r 5<|bs++dY)(R:r<H.next)(hby:∀x∈bs,isByte x)(hn:bs.length=n+1)(hm:n+1<=16777216):
 ∃s C,wL Pg [289,3] [.pointer (Z ⟨r,0,W⟩),B<|n+1] H=Z (.string s,C)/\q_ bs=Z s.data.toList/\oz [r] H C/\C.low<=r:=by
 obtain⟨hr,Q,I,h3,h4,h5,h6⟩:=hb;obtain⟨l,e1,e2⟩:=aa7 bs hby
 have ht:Tr.DX top hr.cells 0 (n+1)=bs:=by
  rw[Z6 (k:=0) hr.cells (bs++dY) (by simp;omega) h6];simp only[jc];rw[<-hn,pU]
 have hq:wL Pg [289,3] [.pointer (Z ⟨r,0,W⟩),B<|n+1] H=Uv Pg 289 ⟨r,0,W⟩ (n+1) H:=rfl
 have hu:Uv Pg 289 ⟨r,0,W⟩ (n+1) H=aK (vE<|H.obj r) λw=>gd (GX Pg 5&&ay w.ty 5&&ay 1 1&&aB (aV 0<|n+1) w.n&&aB (n+1) 16777216)
  (aK (q_<|Tr.DX top w.cells 0<|n+1) λbs=>Z (.string ⟨⟨bs⟩⟩,H.put r<|.row ⟨w.ty,w.cells,w.n,w.kR,bR (aB w.fz<|aV 0<|n+1) (aV 0<|n+1) w.fz⟩)):=by kernel_rfl
 rw[hq,hu,Q];refine⟨⟨⟨l⟩⟩,H.put r<|.row ⟨hr.ty,hr.cells,hr.n,hr.kR,bR (aB hr.fz<|aV 0<|n+1) (aV 0<|n+1) hr.fz⟩,?_,e1,oz.put _ _ _,by rw[uG];omega⟩;show gd (GX Pg 5&&ay hr.ty 5&&ay 1 1&&aB (aV 0<|n+1) hr.n&&aB (n+1) 16777216) (aK (q_<|Tr.DX top hr.cells 0<|n+1) _)=_;rw[ht,e1,I,h3,show GX Pg 5=f by kernel_rfl,aH hm,aH (show aV 0 (n+1)<=(bs++dY).length by show 0+(n+1)<=_;simp;omega)];rfl
def Qv(hb:IM rb bs A)(G:M [] H0 H<|A++L)(hl:bs.length<=1000000):
 aJ Pg X 200 [.pointer (Z ⟨rb,0,W⟩)] H λw C=>(∃s,w=.string s/\q_ bs=Z s.data.toList)/\M [] H0 C L:=by
 obtain⟨p,v,gb,hp,hg,rfl,hby,hnil⟩:=hb;refine ce [0,2] ?_;refine tp ?_;refine G.LA 0 O O ?_;simp only[gZ G.wf];rcases hg with⟨rfl,rfl,rfl⟩|⟨r,n,dY,rfl,hn,rfl⟩
 .refine ME.of (v:=.pointer W) (H:=Go.Ae.hN H) O ?_;simp only[gZ G.wf];refine G.LA 0 O O ?_;simp only[gZ G.wf];refine aY ?_;refine ME.of (v:=.string ⟨⟨[]⟩⟩) (H:=Go.Ae.hN H) (by kernel_rfl) ?_;simp only[gZ G.wf];refine⟨Hg ?_,?_⟩
  .simp only[eG,fK<|Ext.refl<|hN _];rfl
  .refine rr ?_;exact⟨⟨_,O,O⟩,M.drop (A:=[bu rb p _]) G⟩
 .obtain⟨n,rfl⟩:∃m,n=m+1:=by
   cases n with
   |succ n=>exact⟨n,O⟩
   |zero=>
    have:bs=[]:=dK.1 (by simpa using hn);exact absurd (hnil this) (by simp)
  refine ME.of (v:=.pointer<|Z ⟨r,0,W⟩) (H:=Go.Ae.hN H) O ?_;simp only[gZ G.wf];refine G.LA 0 O O ?_;simp only[gZ G.wf];refine aY ?_;have hb:Bk (Go.Ae.hN H) r 5 (bs++dY):=G.get 1 O;have R:=(G.lo (r,5,bs++dY)<|by simp).2;obtain⟨s,H1,e1,e2,e3,e4⟩:=FE (n:=n) hb R hby N N;refine ME.of e1 ?_;have hlow:H1.low<H.next:=by omega
  simp only[eG,fK<|Ext.refl<|hN _,U9 hlow];refine⟨by kernel_rfl,?_⟩;refine rr ?_;refine⟨⟨_,O,e2⟩,?_⟩;have hS2:M [] H0 H ([bu rb p (T (Z ⟨r,0,W⟩) (n+1)<|fI 1),(r,5,bs++dY)]++L):=G;exact M.turn (A':=[]) hS2 (e3.draw.weaken (by intro x J;simp at J;simp[J])) (λe h=>nomatch h) List.Pairwise.nil
end
section
def Ik(l:List UInt8):∀x∈oM l,isByte x:=by
 intro x J;rw[show oM l=l.map (λb=>bV .u8<|.ofNat b.toNat)from ER _ _]at J;rw[bQ]at J;obtain⟨b,_,rfl⟩:=J;exact⟨b.toNat,by have:=b.toNat_lt;omega,rfl⟩
def Kv(l:List UInt8):(oM l).length=l.length:=by rw[show oM l=l.map (λb=>bV .u8<|.ofNat b.toNat)from ER _ _];simp
def M.agS(G:M [] H0 H<|(r,5,E)::L)(hn:s.size=n)(y:E.length=n)(k:∀H1,M [] H0 H1 ((r,5,oM s.data.toList)::L)->K (B n) H1):ME (cpA 1 (T (Z ⟨r,0,W⟩) n n) (.string s) H) K:=by
 have hl:s.data.toList.length=n:=hn;have hbl:(oM s.data.toList).length=n:=by rw[Kv];exact hl
 obtain⟨H1,Q,I,_⟩:=G.zC (vs:=oM s.data.toList) (o:=0) 0 O N<|Vz _<|Ik _;rw[mZ _ _ N]at I
 have e:cpA 1 (T (Z ⟨r,0,W⟩) n n) (.string s) H=Z (B n,H1):=by
  show(aK (H.write r 0<|tk (bL (bR (aB (len s.data.toList) n) (len s.data.toList) n) 1)<|oM s.data.toList) λC=>Z (bV .i64<|.ofNat<|bR (aB (len s.data.toList) n) (len s.data.toList) n,C))=_;rw[fQ,hl,aH<|az n,nT,GV,cK (by show _<=n*1;omega),Q];rfl
 rw[e];exact k H1 I
def aba:∀(l:List UInt8),q_ (oM l)=Z l:=by
 intro l
 induction l with
 |nil=>rfl
 |cons b l ih=>
  show(aK (Jq<|.ofNat b.toNat) λn=>gd (IA .u8&&aB n 255)<|aK (q_<|oM l) λbs=>Z<|jb n::bs)=_;rw[ih];show gd (aB b.toNat 255) (Z<|jb b.toNat::l)=_;rw[aH (by have:=b.toNat_lt;omega),zu];simp
def Qw(hw:Wf H)(s:ByteArray)(hs:s.size<=1000000):aJ Pg X 155 [.string s] H (Q1 (λv _=>v=.string s) H):=by
 have G:=M.refl hw;refine ce [0,2,3] ?_;refine tp ?_;refine aC (λh=>?_) λh=>?_
 .refine rr ?_;refine⟨?_,Ext.refl _⟩;have h0:s.data.toList=[]:=dK.1 (show s.size=0 by omega);obtain⟨⟨l⟩⟩:=s;have h0:l=[]:=h0;subst h0;rfl
 .refine G.mkS (az _) N λH1 r G=>?_;refine M.agS G O (by rw[MF];simp) λH2 G=>?_;obtain⟨n,hn⟩:∃n,s.size=n+1:=⟨s.size-1,N⟩;rw[show Ac 1 (T (Z ⟨r,0,W⟩) s.size s.size) (.int .i64 0)=_ from vO (k:=0) N];refine aY ?_;have hb:Bk H2 r 5 (oM s.data.toList++[]):=by rw[a_];exact G.get 0 O
  have R:=(G.lo _<|aL ..).2;obtain⟨t,H3,e1,e2,e3,e4⟩:=FE (n:=n) hb R (Ik _) (by rw[Kv];exact hn) N;rw[hn];refine ME.of e1 ?_
  have et:t=s:=by
   rw[aba]at e2;have e2:=dH e2;obtain⟨⟨l⟩⟩:=s;obtain⟨⟨l'⟩⟩:=t;have e2:l=l':=e2;rw[e2]
  refine rr ?_;refine⟨by rw[et],?_⟩
  exact G.ext.later e3 (λq hq=>by
   simp at hq;subst hq;exact .inr<|G.wB<|aL ..)
def w9(hw:Wf H)(s:ByteArray)(hs:s.size<=1000000):aJ Pg X 126 [.string s] H (Q1 (λv _=>v=.string s) H):=by
 refine ce [0,2] ?_;refine tl ?_;refine aJ.mono (Qw hw s hs) ?_;rintro v C ⟨rfl,J⟩;refine rr ?_;exact⟨O,J⟩
def abb(c:Nat):∀(l:List UInt8)(k:Nat),xX c l k=W\/∃j,xX c l k=Z j/\k<=j/\∃b,l[j-k]?=Z b/\b.toNat=c:=by
 intro l
 induction l with
 |nil=>intro k;exact .inl O
 |cons b l ih=>
  intro k;show bR (ay b.toNat c) (Z k) (xX c l<|bU k)=W\/∃j,bR (ay b.toNat c) (Z k) (xX c l<|bU k)=Z j/\_;cases hb:ay b.toNat c with
  |true=>exact .inr ⟨k,O,az _,b,by simp,aT hb⟩
  |false=>
   rcases ih (bU k)with h|⟨j,Q,I,b',h3,h4⟩
   .exact .inl h
   .refine .inr ⟨j,Q,N,b',?_,h4⟩;obtain⟨d,hd⟩:∃d,j=d+k+1:=⟨j-k-1,N⟩;rw[show j-bU k=d by omega]at h3;rw[show j-k=d+1 by omega,dX,h3]
abbrev foundAt(s:ByteArray)(c:Nat)(v:D):Prop:=v=vi (-1)\/∃k:Nat,v=B k/\k<s.size/\∃b,s.data.toList[k]?=Z b/\b.toNat=c
def Qx(s:ByteArray)(c:Nat)(y:c<=255):aJ Pg X 220 [.string s,.int .u8 (c:Int)] H (Q0 (foundAt s c) H):=by
 have e:j5 Pg X 1 220 [.string s,.int .u8 (c:Int)] H=Z (RG<|xX c s.data.toList 0,H):=by
  have e0:j5 Pg X 1 220 [.string s,.int .u8 (c:Int)] H=aK (gd (aB c 255&&f)<|Z (s,c)) λx=>Z (RG<|xX x.2 x.1.data.toList 0,H):=by kernel_rfl
  rw[e0,aH y];rfl
 refine⟨_,H,⟨1,e⟩,?_,O⟩;rcases abb c s.data.toList 0 with h|⟨j,h,_,b,h3,h4⟩
 .rw[h];exact .inl O
 .rw[h];refine .inr ⟨j,O,?_,b,h3,h4⟩;have:=(bA.mp h3).1;have h5:s.data.toList.length=s.size:=rfl;omega
def Qy(s:ByteArray)(c:Nat)(y:c<=255):aJ Pg X 196 [.string s,.int .u8 (c:Int)] H (Q0 (foundAt s c) H):=by
 refine ce [0,1,4] ?_;refine tl ?_;refine aJ.mono (Qx s c y) ?_;rintro v C ⟨hv,rfl⟩;refine rr ?_;exact⟨hv,O⟩
def index_spec(s:ByteArray)(c:Nat)(y:c<=255):aJ Pg X 168 [.string s,.int .u8 (c:Int)] H (Q0 (foundAt s c) H):=by
 refine ce [0,1,4] ?_;refine tl ?_;refine aJ.mono (Qy s c y) ?_;rintro v C ⟨hv,rfl⟩;refine rr ?_;exact⟨hv,O⟩
def gJ.adR{P:aS}{X:Xt}{c:Code}{s:St}{K:Out->Prop}(h:gJ P X c s K):gJ P X (.seq .skip c) s K:=gJ.seq ⟨_,_,Ev.skip,Av.refl _,h⟩
abbrev adS(s:ByteArray)(at':Nat)(v:D):Prop:=∃k:Nat,v=B k/\at'<=k/\k<=s.size
def Et:findLabel (sub l_ [1,0]) 0=Z (.seq .skip<|sub l_ [1,0,1]):=by kernel_rfl
set_option maxHeartbeats 1000000 in
def Am(s:ByteArray)(m_:Nat)(h0:m_<=s.size)(hs:s.size<=1000000):aJ Pg X 140 [.string s,B m_] H (Q0 (adS s m_) H):=by
 refine ce [0,1,4,5] ?_;refine tl ?_
 let hr:Nat->Nat->St->Prop:=λn l st=>l=0/\∃(k:Nat)(x5:D)(u:List<|Nat×D),k+n=s.size/\m_<=k/\st=rD (.string s) (B k) (.int .i64 0) x5 u H
 have step:∀(n k:Nat)(x5:D),k+n=s.size->m_<=k->k<s.size->∀zG,Z_ (sub l_ [1,0]) hr n (jR Pg [.tmp 4]<|Q0 (adS s m_) H) (.goto 0<|rD (.string s) (vi<|(k:Int)+1) (.int .i64 0) x5 zG H):=by
  intro n k x5 hk hat hlt zG;rw[J9 Et];exact⟨n-1,N,O,k+1,x5,zG,N,N,O⟩
 have tail:∀(n k:Nat)(x5:D),k+n=s.size->m_<=k->∀zG,gJ Pg X (sub l_ [1,0,1,1]) (rD (.string s) (B k) (.int .i64 0) x5 zG H) (Z_ (sub l_ [1,0]) hr n<|jR Pg [.tmp 4]<|Q0 (adS s m_) H):=by
  intro n k x5 hk hat zG;refine tl ?_;rw[Ag N];refine aY ?_;refine aJ.mono (CQ _ _) ?_;rintro v C ⟨⟨b,rfl,ak8⟩,rfl⟩;refine aY ?_;refine dL (λhb=>?_) λhb=>?_
  .refine aJ.mono (index_spec _ 10 N) ?_;rintro v C ⟨hv,rfl⟩;rcases hv with rfl|⟨j,rfl,hj,c,hc1,hc2⟩
   .refine aY ?_;rw[dn N];refine aY ?_;simp only[N8];refine rr ?_;exact⟨⟨s.size,O,N,N⟩,O⟩
   .refine aY ?_;rw[pM _ N (az _)]at hj
    have hj0:j≠0:=by
     rintro rfl;obtain⟨r,R⟩:=ak8 hb;rw[R]at hc1;cases hc1
     revert hc2
     decide
    rw[bG N];refine aY ?_;rw[fA N N];refine aY ?_;rw[J9 Et];exact⟨n-j,N,O,k+j,B j,_,N,N,O⟩
  .simp only[N8];refine rr ?_;exact⟨⟨k,O,N,N⟩,O⟩
 have goal:∀n(k:Nat)(x5:D)(u:List<|Nat×D),k+n=s.size->m_<=k->gJ Pg X (sub l_ [1,0,1]) (rD (.string s) (B k) (.int .i64 0) x5 u H) (Z_ (sub l_ [1,0]) hr n<|jR Pg [.tmp 4]<|Q0 (adS s m_) H):=by
  intro n k x5 u hk hat;refine tp ?_;refine aC (λy=>?_) λy=>tail n k x5 hk hat _;rw[su N];refine aY ?_;refine dL (λhb=>?_) λhb=>?_
  .rw[fA N N];refine aY ?_;exact step n k x5 hk hat N _
  refine dL (λhb=>?_) λhb=>?_
  .rw[fA N N];refine aY ?_;exact step n k x5 hk hat N _
  refine dL (λhb=>?_) λhb=>?_
  .rw[fA N N];refine aY ?_;exact step n k x5 hk hat N _
  refine dL (λhb=>?_) λhb=>?_
  .rw[fA N N];refine aY ?_;exact step n k x5 hk hat N _
  exact tail n k x5 hk hat _
 refine gJ.scope hr ?_ (s.size-m_) ?_
 .rintro n l st rest ⟨rfl,k,x5,u,hk,hat,rfl⟩ hf;rw[Et]at hf;cases hf;exact gJ.adR<|goal n k x5 u hk hat
 .refine tp ?_;refine aC (λy=>?_) λy=>tail _ m_ _ N N _;rw[su N];refine aY ?_;refine dL (λhb=>?_) λhb=>?_
  .rw[fA N N];refine aY ?_;exact step (s.size-m_) m_ _ N N N _
  refine dL (λhb=>?_) λhb=>?_
  .rw[fA N N];refine aY ?_;exact step (s.size-m_) m_ _ N N N _
  refine dL (λhb=>?_) λhb=>?_
  .rw[fA N N];refine aY ?_;exact step (s.size-m_) m_ _ N N N _
  refine dL (λhb=>?_) λhb=>?_
  .rw[fA N N];refine aY ?_;exact step (s.size-m_) m_ _ N N N _
  exact tail _ m_ _ N N _
end
def MS(h:a=b):vi a=B b:=by subst h;rfl
abbrev abd(s:ByteArray)(k:Nat)(v:D)(C:F):Prop:=∃(a n:Nat)(r:Int)(ok:Bool),v=.agg ⟨[B a,B n,.int .i32 r,.bool ok]⟩/\(k<s.size->0<n)/\k+n<=s.size
def VA(hw:Wf H)(hT:Bt H)(s:ByteArray)(k:Nat)(hk:k<=s.size):aJ Pg X 199 [.string s,B k] H (Q1 (abd s k) H):=by
 have G:=M.refl hw;refine ce [0,1,4,5,6] ?_;refine tl ?_;refine G.iZ λHn r G=>?_;refine aY ?_;rw[dn N];refine aY ?_;refine aC (λy=>?_) λy=>?_
 .refine PU.b4 O<|G.jE λHn G=>rr ?_;refine G.iK<|⟨⟨0,0,0,aA,O,N,N⟩,G.ext⟩
 .refine tl ?_;rw[Ag N];refine aY ?_;refine aJ.mono (Qr G.wf (hT.ex G.ext) _) ?_;rintro v C ⟨⟨x,n,rfl,Q,I,h3⟩,J⟩;have G:=G.call J;have hp:=pM s hk<|az _
  have fin:∀u,gJ Pg X (sub aa5 [1,1,1,1]) (XE (.string s) (B k) (.pointer<|Z ⟨r,0,W⟩) (.int .i32 x) (B n) u C) (jR Pg [.cell 4 303]<|Q1 (abd s k) H):=by
   intro u;refine tm ?_;refine G.jE λHn G=>rr ?_;exact G.iK<|⟨⟨k,n,x,f,O,N,N⟩,G.ext⟩
  refine aY ?_;refine aC (λy=>?_) λy=>fin _;refine aC (λy=>?_) λy=>fin _;refine d_ ?_;refine G.jE λHn G=>rr ?_;exact G.iK<|⟨⟨k,1,65533,aA,O,N,N⟩,G.ext⟩
abbrev MU(s:ByteArray)(v:D):Prop:=∃(r:Int)(n:Nat)(b:Bool),v=.tuple ⟨[.int .i32 r,B n,.bool b]⟩/\n<=s.size
theorem Qz(s:ByteArray):aJ Pg X 222 [.string s] H (Q0 (MU s) H):=by
 refine ce [0,2,3,4,5,6,7,8,10] ?_;refine tl ?_;have bad:MU s (.tuple ⟨[.int .i32 0,.int .i64 0,.bool aA]⟩):=⟨0,0,aA,O,bg _⟩;refine aY ?_;refine aC (λy=>?_) λy=>?_
 .refine rr ?_;exact⟨bad,O⟩
 rw[show idS (.string s) (.int .i64 1)=_ from su (k:=1) N];refine aY ?_;refine bT (λy=>?_) λy=>?_
 .refine rr ?_;exact⟨bad,O⟩
 refine tl ?_;refine Oa 5 6 7 8 (h2:=λn x5 x6 x7 x8 C=>C=H/\∃(r:Int)(k:Nat),x5=.int .i32 r/\x6=B k/\2<=k/\k<=s.size/\k+n=8) ?_ 6 ⟨rfl,0,2,rfl,rfl,N,N,N⟩;rintro n x5 x6 x7 x8 u C ⟨rfl,r,k,rfl,rfl,Q,I,h3⟩
 have fin:∀x7 x8 u,gJ Pg X (sub Ko [1,1,1,1]) (IJ (.string s) (.int .i32 0) (.int .i64 0) (.bool aA) (.int .i32 r) (B k) x7 x8 top u C) (jR Pg [.tmp 2,.tmp 3,.tmp 4]<|Q0 (MU s) C):=by
  intro x7 x8 u;refine tp ?_;refine aC (λy=>?_) λy=>?_
  .refine rr ?_;exact⟨bad,O⟩
  refine aC (λy=>?_) λy=>?_
  .refine rr ?_;exact⟨bad,O⟩
  rw[su N];refine aY ?_;refine bT (λy=>?_) λy=>?_
  .refine rr ?_;exact⟨bad,O⟩
  refine tl<|aJ.mono (Qq _) ?_;rintro v C ⟨⟨t,b,rfl⟩,rfl⟩;refine aY ?_;refine dL (λhb=>?_) λhb=>?_
  .refine rr ?_;exact⟨bad,O⟩
  rw[fA N N];refine aY ?_;refine rr ?_;exact⟨⟨r,k+1,f,O,N⟩,O⟩
 refine tp ?_;refine aC (λy=>?_) λy=>fin _ _ _;refine aC (λhd=>?_) λy=>fin _ _ _;refine tl ?_;rw[su N];refine aY ?_;refine aJ.mono (S_ _) ?_;rintro v C ⟨⟨d,b,rfl⟩,rfl⟩;refine aY ?_;refine dL (λhb=>fin _ _ _) λhb=>?_;rw[fA N N];refine aY ?_;exact⟨n-1,N,_,_,_,_,_,_,O,O,_,k+1,O,O,N,N,N⟩
theorem Il(s:ByteArray):aJ Pg X 201 [.string s] H (Q0 (MU s) H):=by
 have bad:MU s (.tuple ⟨[.int .i32 0,.int .i64 0,.bool aA]⟩):=⟨0,0,aA,O,bg _⟩;refine ce [0,2,3,4,8] ?_;refine tp ?_;refine aC (λy=>?_) λy=>?_
 .refine rr ?_;exact⟨bad,O⟩
 have h0:0<s.size:=by
  rcases gH s.size with h|h
  .exfalso;apply y;obtain⟨⟨l⟩⟩:=s;cases l with
   |nil=>rfl
   |cons a l=>cases h
  .exact h
 rw[show idS (.string s) (.int .i64 0)=_ from su (k:=0) h0];refine aY ?_
 have fin:∀c u b,Aw u 15=.bool b->gJ Pg X (sub CG [1,1,0,1,0,1,1,1,1,1,1,1]) (II (.string s) (.int .i32 0) (.int .i64 0) (.bool aA) (.int .u8 c) u H) (rO 0<|sW Pg X (sub CG [1,1,1])<|jR Pg [.tmp 2,.tmp 3,.tmp 4]<|Q0 (MU s) H):=by
  intro c u b hb;refine tl ?_;rw[hb];refine aY ?_;refine dL (λhb=>?_) λhb=>?_
  .rw[show idS (.string s) (.int .i64 0)=_ from su (k:=0) h0];refine aY ?_;refine rr ?_;exact⟨⟨_,1,f,O,h0⟩,O⟩
  refine aC (λy=>?_) λy=>?_
  .refine aJ.mono (Qz _) ?_;rintro v C ⟨⟨r,n,b,rfl,hn⟩,rfl⟩;refine aY ?_;refine rr ?_;exact⟨⟨r,n,b,O,hn⟩,O⟩
  .refine tl<|rr ?_;exact⟨bad,O⟩
 refine aC (λy=>?_) λy=>?_
 .refine rr ?_;exact⟨⟨10,1,f,O,h0⟩,O⟩
 refine aC (λy=>?_) λy=>?_
 .refine rr ?_;exact⟨⟨9,1,f,O,h0⟩,O⟩
 refine aC (λy=>?_) λy=>?_
 .refine rr ?_;exact⟨⟨13,1,f,O,h0⟩,O⟩
 repeat' (first|(refine aC (λy=>?_) λy=>?_))
 all_goals exact fin _ _ _ (by(try simp only[PP,Nat.reduceBEq]);rfl)
abbrev agT(s:ByteArray)(k:Nat)(v:D)(C:F):Prop:=∃(r:Int)(n:Nat)(e:Int),v=.tuple ⟨[.int .i32 r,B n,vi e]⟩/\k+n<=s.size/\(e=0->0<n)
def MV(hw:Wf H)(hT:Bt H)(s:ByteArray)(k:Nat)(hk:k<s.size)(hs:s.size<=1000000):aJ Pg X 225 [.string s,B k] H (Q1 (agT s k) H):=by
 have G:=M.refl hw;refine ce [0,1,4,5,6,7,8,9,10] ?_;refine tl ?_;refine aJ.mono (VA hw hT s k N) ?_;rintro v C ⟨⟨a,n,r,ok,rfl,Q,I⟩,J⟩;have G:=G.call J;refine G.iZ λHn ri G=>?_;refine G.kK ?_;refine G.jE λHn G=>?_;refine d_ ?_;refine dL (λhb=>?_) λhb=>?_
 .refine rr ?_;exact⟨⟨0,0,11,O,N,λh=>by cases h⟩,G.ext⟩
 refine d_ ?_;refine bT (λhb=>?_) λhb=>?_
 .refine d_ ?_;refine rr ?_;exact⟨⟨r,n,0,O,I,λ_=>Q hk⟩,G.ext⟩
 rw[fA N N];refine aY ?_;rw[show slT (.string s) (Z<|vi<|(k:Int)+1) W W=_ from Ag (lo:=k+1) N];refine aY ?_;refine aJ.mono (Il _) ?_;rintro v C ⟨⟨x,m,b,rfl,hm⟩,rfl⟩;have hp:=pM s (lo:=k+1) (hi:=s.size) N<|az _;refine aY ?_;refine dL (λhb=>?_) λhb=>?_
 .refine rr ?_;exact⟨⟨0,0,12,O,N,λh=>by cases h⟩,G.ext⟩
 rw[fA N N];refine aY ?_;refine rr ?_;exact⟨⟨x,m+1,0,by rw[MS (show 1+(m:Int)=((m+1:Nat):Int) by omega)],N,λ_=>by omega⟩,G.ext⟩
section
def zH(m:Nat)(H:F)(v:D):Prop:=∃a n c E,v=T a n c/\Fl H a n 2 E/\n<=m/\∀x∈E,∃z:Int,x=.int .i32 z
def iF(b m:Nat)(H:F)(v:D):Prop:=∃a n c E,v=T a n c/\i_ (b<=·) 331 H a n 2 E/\n<=m/\∀x∈E,∃z:Int,x=.int .i32 z
def zH.nil(m:Nat)(H:F):zH m H (T W 0 0):=⟨W,0,0,[],O,Fl.nil _ _ _,N,λx h=>by cases h⟩
def iF.nil(b m:Nat)(H:F):iF b m H (T W 0 0):=⟨W,0,0,[],O,i_.nil _ _ _ _ _,N,λx h=>by cases h⟩
def iF.i(h:iF b m H v):zH m H v:=by
 obtain⟨a,n,c,E,Q,I,h3⟩:=h;exact⟨a,n,c,E,Q,I.1,h3⟩
def iF.stay{S:List Nat}(h:iF b m H v)(J:oz S H C)(G:∀q∈S,q<b\/¬yw H q 331):iF b m C v:=by
 obtain⟨a,n,c,E,Q,I,h3⟩:=h;exact⟨a,n,c,E,Q,I.stay J λq hq=>(G q hq).imp_left dP,h3⟩
def iF.ex(h:iF b m H v)(J:Ext H C):iF b m C v:=h.stay J λr h=>nomatch h
def iF.le{b' m':Nat}(h:iF b m H v)(hm:m<=m')(hb:b'<=b):iF b' m' H v:=by
 obtain⟨a,n,c,E,Q,I,h3,h4⟩:=h;exact⟨a,n,c,E,Q,I.le hb,N,h4⟩
def Tok(b:Nat)(H:F)(lo hi:Nat)(v:D):Prop:=∃(kd:Int)(a e:Nat)(t:ByteArray)(rs:D),v=.agg ⟨[vi kd,B a,B e,.string t,rs]⟩/\lo<e/\e<=hi/\a<=hi/\t.size<=1000000/\iF b 20000 H rs
abbrev FF(b:Nat)(s:ByteArray)(k:Nat)(v:D)(C:F):Prop:=∃(tok:D)(cd:Int)(at':Nat),v=.tuple ⟨[tok,.agg ⟨[vi cd,B at']⟩]⟩/\(∃kd a e t rs,tok=.agg ⟨[vi kd,B a,B e,.string t,rs]⟩/\(∃x n c,rs=T x n c))/\(cd=0->Tok b C k s.size tok)
def XH(hw:Wf H)(s:ByteArray)(k:Nat)(hk:k<s.size)(hs:s.size<=1000000):aJ Pg X 170 [.string s,B k] H (Q1 (FF H.next s k) H):=by
 have G:=M.refl hw;refine ce [0,1,4,5,6,7] ?_;refine tl ?_;refine G.iZ λHn rt G=>?_;refine G.iZ λHn rs G=>?_;rw[fA N N];refine G.kK ?_;refine YE 6 (h2:=λn x6 C=>C=Hn/\∃e:Nat,x6=B e/\e+n=s.size/\k<e) ?_ (s.size-(k+1)) ⟨rfl,k+1,rfl,N,N⟩;rintro n x6 u C ⟨rfl,e,rfl,Q,I⟩
 have fin:∀u,gJ Pg X (sub Kn [1,1,1]) (Ii (.string s) (B k) (.pointer<|Z ⟨rt,0,W⟩) (.pointer<|Z ⟨rs,0,W⟩) (B e) top u C) (jR Pg [.cell 4 221,.cell 5 173]<|Q1 (FF H.next s k) H):=by
  intro u;refine tl ?_;rw[nW N N];refine G.kK ?_;refine aC (λy=>?_) λy=>?_
  .refine d_ ?_;refine G.jE λHn G=>?_;refine G.jE λHn G=>?_;refine rr ?_;refine d_ ?_;exact⟨⟨_,3,k,O,⟨_,0,0,_,_,O,_,_,_,O⟩,λh=>by cases h⟩,G.ext⟩
  rw[su N];refine G.kK ?_;refine aJ.mono (Kq _) ?_;rintro v C ⟨⟨b,rfl⟩,rfl⟩;refine G.kK ?_
  have fin:∀(kd:Int) u,gJ Pg X (sub Kn [1,1,1,1,1,1]) (Ii (.string s) (B k) (.pointer<|Z ⟨rt,0,W⟩) (.pointer<|Z ⟨rs,0,W⟩) (B e) (vi kd) u C) (jR Pg [.cell 4 221,.cell 5 173]<|Q1 (FF H.next s k) H):=by
   intro kd u;refine tl ?_;rw[Cs N N];refine G.kK ?_;have hp:=pM s (lo:=k) (hi:=e) N N;refine aJ.mono (w9 G.wf _ N) ?_;rintro v C ⟨rfl,J⟩;have G:=G.call J;refine d_ ?_;refine G.jE λHn G=>?_;refine G.jE λHn G=>?_;refine rr ?_;refine d_ ?_;exact⟨⟨_,0,0,O,⟨_,_,_,_,_,O,_,_,_,O⟩,λ_=>⟨kd,k,e,_,_,rfl,N,N,N,N,iF.nil _ _ _⟩⟩,G.ext⟩
  refine dL (λhb=>?_) λhb=>?_
  .exact fin 1 _
  .exact fin 2 _
 refine tp ?_;refine aC (λy=>?_) λy=>fin _;rw[su N];refine aY ?_;refine aJ.mono (Qp _) ?_;rintro v C ⟨⟨b,rfl⟩,rfl⟩;refine aY ?_;refine dL (λhb=>?_) λhb=>fin _;rw[fA N N];refine aY ?_;exact⟨n-1,N,_,_,_,O,O,e+1,O,N,N⟩
def IM.new(rb:Nat):IM rb [] [bu rb W (T W 0 0)]:=⟨W,T W 0 0,[],.inl O,GB.nil _ _,O,(λx h=>nomatch h),λ_=>rfl⟩
set_option maxHeartbeats 1000000 in
def Oh(hw:Wf H)(hT:Bt H)(s:ByteArray)(k:Nat)(hk:k<s.size)(hs:s.size<=20000):aJ Pg X 171 [.string s,B k] H (Q1 (FF H.next s k) H):=by
 have G:=M.refl hw;refine ce [0,1,4,5,6,7,8,9,10,11] ?_;refine tl ?_;refine G.iZ λHn rt G=>?_;refine G.iZ λHn rs G=>?_;refine G.iZ λHn rb G=>?_;rw[fA N N];refine G.kK ?_
 refine Vx 7 8 9 10 11 (h2:=λn x7 x8 x9 jh iL C=>∃p bs A,x7=B p/\p+n=s.size/\k+1<=p/\IM rb bs A/\bs.length<=4*p/\M [] H C ((rs,173,[.int .i64 0,.int .i64 0])::(rt,221,[.int .i64 0,.int .i64 0,.int .i64 0,.string<|cz #[],T W 0 0])::A)) ?_ (s.size-(k+1))
  ⟨k+1,[],_,rfl,N,N,IM.new rb,by simp,G.perm<|(gm _ _ _).trans<|dQ _<|gm _ _ _⟩
 rintro n x7 x8 x9 jh iL u C ⟨p,bs,A,rfl,Q,I,hbu,hbl,G⟩;refine tp ?_;refine aC (λy=>?_) λy=>?_;rotate_left
 .refine tm ?_;refine G.jE λHn G=>?_;refine G.jE λHn G=>?_;refine rr ?_;refine d_ ?_;exact⟨⟨_,10,k,O,⟨_,0,0,_,_,O,_,_,_,O⟩,λh=>by cases h⟩,G.ext⟩
 refine aJ.mono (VA G.wf (hT.ex G.ext) s p N) ?_;rintro v C ⟨⟨a,m,r,ok,rfl,h3,h4⟩,J⟩;have G:=G.call J;refine G.iZ λHn ri G=>?_;refine G.kK ?_;refine G.jE λHn G=>?_;refine d_ ?_;have err:∀{cd:Int}{e:Nat}{H'':F},cd≠0->FF H.next s k (.tuple ⟨[.agg ⟨[.int .i64 0,.int .i64 0,.int .i64 0,.string<|cz #[],T W 0 0]⟩,.agg ⟨[vi cd,B e]⟩]⟩) H'':=λh=>⟨_,_,_,rfl,⟨_,0,0,_,_,rfl,_,_,_,rfl⟩,λg=>absurd g h⟩
 have back:∀{H2:F}{bs' A'}{q:Nat},IM rb (bs++bs') A'->bs'.length<=4->p+1<=q->q<=s.size->M [] H H2 (A'++(ri,303,[B a,B m,.int .i32 r,.bool ok])::(rs,173,[.int .i64 0,.int .i64 0])::[(rt,221,[.int .i64 0,.int .i64 0,.int .i64 0,.string<|cz #[],T W 0 0])])->
  ∃n',n'<n/\∃bs A,q+n'=s.size/\k+1<=q/\IM rb bs A/\bs.length<=4*q/\M [] H H2 ((rs,173,[.int .i64 0,.int .i64 0])::(rt,221,[.int .i64 0,.int .i64 0,.int .i64 0,.string<|cz #[],T W 0 0])::A):=λ{H2 bs' A' q} hb' hl hq hq2 G=>
  ⟨s.size-q,N,_,_,N,N,hb',by rw[aQ];omega,M.drop (A:=[_])<|G.perm aF⟩
 have Kt:∀u b,Aw u 40=.bool b->gJ Pg X (sub xu [1,1,0,1,0,0,1,0,1,0,1,1,1]) (yT (.string s) (B k) (.pointer<|Z ⟨rt,0,W⟩) (.pointer<|Z ⟨rs,0,W⟩) (.pointer<|Z ⟨rb,0,W⟩) (B p) (.pointer<|Z ⟨ri,0,W⟩) x9 jh iL u Hn)
  (rO 2<|rO 1<|FV (xL (.string s) (B k) (.pointer<|Z ⟨rt,0,W⟩) (.pointer<|Z ⟨rs,0,W⟩) (.pointer<|Z ⟨rb,0,W⟩) λn x7 x8 x9 jh iL C=>∃p bs A,x7=B p/\p+n=s.size/\k+1<=p/\IM rb bs A/\bs.length<=4*p/\M [] H C ((rs,173,[.int .i64 0,.int .i64 0])::(rt,221,[.int .i64 0,.int .i64 0,.int .i64 0,.string<|cz #[],T W 0 0])::A)) n<|rO 0<|sW Pg X (sub xu [1,1,1])<|jR Pg [.cell 4 221,.cell 5 173]<|Q1 (FF H.next s k) H):=by
  intro u b hb;have hb0:IM rb bs A:=hbu;have hS2:M [] H Hn (A++(ri,303,[B a,B m,.int .i32 r,.bool ok])::(rs,173,[.int .i64 0,.int .i64 0])::[(rt,221,[.int .i64 0,.int .i64 0,.int .i64 0,.string<|cz #[],T W 0 0])]):=G.perm<|aF (l₁:=[_,_,_]);refine tl ?_;rw[hb];refine G.kK ?_;refine dL (λhb=>?_) λhb=>?_
  .refine d_ ?_;refine G.jE λHn G=>?_;refine G.jE λHn G=>?_;refine rr ?_;refine d_ ?_;exact⟨err N,G.ext⟩
  refine d_ ?_;refine aC (λy=>?_) λy=>?_
  .rw[fA N N];refine G.kK ?_;refine aJ.mono (Qv hb0 hS2 N) ?_;rintro v C ⟨⟨t,rfl,ht⟩,G⟩;have hts:t.size=bs.length:=Ta ht;refine d_ ?_;refine G.jE λHn G=>?_;refine G.jE λHn G=>?_;refine rr ?_;refine d_ ?_;exact⟨⟨_,0,0,O,⟨_,_,_,_,_,O,_,_,_,O⟩,λ_=>⟨3,k,p+1,t,_,rfl,N,N,N,N,iF.nil _ _ _⟩⟩,G.ext⟩
  refine d_ ?_;refine aC (λy=>?_) λy=>?_
  .rw[fA N N];refine G.kK ?_;rw[show slT (.string s) (Z<|vi<|(p:Int)+1) W W=_ from Ag (lo:=p+1) N];refine G.kK ?_;refine aJ.mono (Il _) ?_;rintro v C ⟨⟨x,j,b,rfl,hj⟩,rfl⟩;have hp:=pM s (lo:=p+1) (hi:=s.size) N<|az _;refine G.kK ?_;refine dL (λhb=>?_) λhb=>?_
   .refine d_ ?_;refine G.jE λHn G=>?_;refine G.jE λHn G=>?_;refine rr ?_;refine d_ ?_;exact⟨err N,G.ext⟩
   refine aJ.mono (CS hb0 hS2 N _) ?_;rintro v C ⟨⟨hc,z,rfl⟩,xs,A',hb',hxl,G⟩;rw[fA N N];refine G.kK ?_;rw[fA N N];refine G.kK ?_;rw[MS (show(p:Int)+(1+(j:Int))=((p+1+j:Nat):Int) by omega)];obtain⟨n',h5,bs',A'',h6⟩:=back hb' hxl (q:=p+1+j) N N G;exact⟨n',h5,_,_,_,_,_,_,_,O,_,bs',A'',O,h6⟩
  .refine G.oF<|aJ.mono (CS hb0 hS2 N _) ?_;rintro v C ⟨⟨hc,z,rfl⟩,xs,A',hb',hxl,G⟩;have rQ:=G;have G:=G.perm<|aF (l₂:=[_,_,_]);simp only[bE,bK]at G;refine G.oF ?_;rw[fA N N];refine G.kK ?_;rw[MS (show(p:Int)+(m:Int)=((p+m:Nat):Int) by omega)];obtain⟨n',h5,bs',A'',h6⟩:=back hb' hxl (q:=p+m) N N rQ;exact⟨n',h5,_,_,_,_,_,_,_,O,_,bs',A'',O,h6⟩
 have ajr:∀u b,Aw u 28=.bool b->gJ Pg X (sub xu [1,1,0,1,0,0,1,0,1,0,1]) (yT (.string s) (B k) (.pointer<|Z ⟨rt,0,W⟩) (.pointer<|Z ⟨rs,0,W⟩) (.pointer<|Z ⟨rb,0,W⟩) (B p) (.pointer<|Z ⟨ri,0,W⟩) x9 jh iL u Hn)
  (rO 2<|rO 1<|FV (xL (.string s) (B k) (.pointer<|Z ⟨rt,0,W⟩) (.pointer<|Z ⟨rs,0,W⟩) (.pointer<|Z ⟨rb,0,W⟩) λn x7 x8 x9 jh iL C=>∃p bs A,x7=B p/\p+n=s.size/\k+1<=p/\IM rb bs A/\bs.length<=4*p/\M [] H C ((rs,173,[.int .i64 0,.int .i64 0])::(rt,221,[.int .i64 0,.int .i64 0,.int .i64 0,.string<|cz #[],T W 0 0])::A)) n<|rO 0<|sW Pg X (sub xu [1,1,1])<|jR Pg [.cell 4 221,.cell 5 173]<|Q1 (FF H.next s k) H):=by
  intro u b hb;refine tl ?_;rw[hb];refine G.kK ?_;refine dL (λhb=>?_) λhb=>?_
  .refine d_ ?_;refine G.jE λHn G=>?_;refine G.jE λHn G=>?_;refine rr ?_;refine d_ ?_;exact⟨err N,G.ext⟩
  refine d_ ?_;refine aC (λy=>?_) λy=>?_
  .rw[fA N N];refine G.kK ?_;exact Kt _ _ (by refine aY ?_;rfl)
  .exact Kt _ _ (by refine aY ?_;rfl)
 refine dL (λhb=>?_) λhb=>?_
 .exact ajr _ _ (by refine aY ?_;rfl)
 refine d_ ?_;exact ajr _ _ (by refine aY ?_;rfl)
end
section
variable{h1:Int->Prop}
abbrev isLen(x:Int)(v:D):Prop:=∃l:Nat,v=B l/\l<=32/\(1<=x->((2^l:Nat):Int)<=2*x)
def Tc(x:Int)(h0:0<=x)(Q:x<=16777216):aJ Pg X 218 [.int .u64 x] H (Q0 (isLen x) H):=by
 refine ce [0,2] ?_;refine tl ?_;refine PU.of Ad ?_;rw[dn N];refine aY ?_;refine gJ.wC λK hK=>?_
 have fin:∀(hc:Int)(k p:Nat) u,0<=hc->hc<256->k<=24->2^k=p->(1<=x->1<=hc/\p*hc<=x)->gJ Pg X (sub FB [1,1,1,1]) (Er (.int .u64 hc) (B k) u H) K:=by
  intro hc k p u I h3 h4 hp h5;subst hK;refine tl ?_;rw[Jb,Cu<|u8_in N];refine PU.of O ?_;refine PU.agI (by kernel_rfl) I h3 λt ht ht2=>?_;rw[Jb,wW N N];refine PU.of O ?_;refine dU ?_;refine rr ?_;refine⟨⟨k+t,O,N,λJ=>?_⟩,rfl⟩;obtain⟨h6,h7⟩:=h5 J;have h8:=ht2 h6;have h9:((2^(k+t):Nat):Int)=(p:Int)*((2^t:Nat):Int):=by rw[Nat.pow_add,hp];simp
  rw[h9];have h10:(p:Int)*((2^t:Nat):Int)<=p*(2*hc):=Int.mul_le_mul_of_nonneg_left h8 N;have h11:(p:Int)*(2*hc)=2*(p*hc):=by rw[Int.mul_left_comm]
  omega
 have fd:∀(a:Int)(n:Nat),0<=a->0<n->a.fdiv ((n:Nat):Int)=a/n:=λa n ha hn=>qT a N
 have s16:∀a:Int,0<=a->Ee .u64 a 16=a/65536:=λa ha=>by
  rw[show(16:Int)=((16:Nat):Int)from O,Va N<|by decide];exact fd a 65536 ha N
 have s8:∀a:Int,0<=a->Ee .u64 a 8=a/256:=λa ha=>by
  rw[show(8:Int)=((8:Nat):Int)from O,Va N<|by decide];exact fd a 256 ha N
 refine tl<|PU.of Ad<|aC (λy=>?_) λy=>?_
 .refine PU.of (vB N) ?_;rw[s16 _ h0];refine dU ?_;refine tl<|PU.of Ad<|aC (λhd=>?_) λhd=>?_
  .refine PU.of (vB N) ?_;rw[s8 _ N];refine dU ?_;exact fin _ 24 16777216 _ N N N O (λ_=>by omega)
  .exact fin _ 16 65536 _ N N N O (λ_=>by omega)
 .refine tl<|PU.of Ad<|aC (λhd=>?_) (λhd=>?_)
  .refine PU.of (vB N) ?_;rw[s8 _ N];refine dU ?_;exact fin _ 8 256 _ N N N O (λ_=>by omega)
  .exact fin _ 0 1 _ N N N O (λ_=>by omega)
def Kw(x:Int)(h0:0<=x)(Q:x<=16777216):aJ Pg X 191 [.int .u64 x] H (Q0 (isLen x) H):=by
 refine ce [0,2] ?_;refine tl ?_;refine aJ.mono (Tc x h0 Q) ?_;rintro _ _ ⟨⟨l,rfl,I,h3⟩,rfl⟩;refine rr ?_;exact⟨⟨l,O,I,h3⟩,O⟩
abbrev Nm(h1:Int->Prop)(r:Nat)(ty:aG)(n:Nat):=SB (Gp h1) r ty 1 n
abbrev sl(r n c:Nat):D:=T (Z ⟨r,0,W⟩) n c
abbrev Rg(r:Nat)(ty:aG)(n:Nat):=SB Qd r ty 2 n
end
section
def Td(v cv:D):aJ Pg X 251 [v,vi 0,vi 0,cv] H λ_ C=>C=H:=by
 refine ce [0,1,2,3,8,9] ?_;refine tl ?_;refine dU ?_;refine lp2 8 9 (h2:=λm x8 x9 C=>x8=vi 1/\C=H) ?_ 0 ⟨rfl,rfl⟩;rintro m x8 x9 u C ⟨rfl,rfl⟩;refine tp ?_;rw[dn N];refine aY ?_;refine rn ?_;exact O
def ajs(a:Option Addr)(c:Nat)(cv l:D):aJ Pg X 249 [T a 0 c,vi 0,vi 0,l,cv] H λ_ C=>C=H:=by
 refine ce [0,1,2,3,4,10,11,12,13,14,15,16,17,18,19,20] ?_;refine tl ?_;refine ajm 1 2 3 10 11 12 13 14 15 16 17 18 19 20 (h2:=λk x1 x2 x3 x8 x9 jh iL kQ jF rA lH pz zF zf C=>x1=vi 0/\x2=vi 0/\C=H) ?_ 0 ⟨rfl,rfl,rfl⟩;rintro k x1 x2 x3 x8 x9 jh iL kQ jF rA lH pz zF zf u C ⟨rfl,rfl,rfl⟩;refine tl ?_;refine qX ?_;refine aY ?_;rw[bG N];refine aY ?_;refine aJ.mono (Td _ _) ?_;rintro _ _ rfl;refine rr ?_;exact O
abbrev ajt:D:=.func (.func 242) ⟨[]⟩ ⟨[]⟩
def Te(hn:n<=1000000)(hB:Rg r ty n H0 H L):aJ Pg X 241 [sl r n c,ajt] H λv C=>Rg r ty n H0 C L:=by
 refine ce [0,1,4] ?_;refine tp ?_;rw[Cu (u64_in N)];refine aJ.mono (Kw _ N N) ?_;rintro v C ⟨⟨l,rfl,Q,_⟩,rfl⟩;obtain _|m:=n
 .refine aJ.mono (ajs _ _ _ _) ?_;rintro v H1 rfl;exact rn<|hB
 obtain⟨H1,e,hB⟩:=SB.ajp (cv:=ajt) (c:=c) (l:=l) N N hB;exact aJ.orc (v:=.tuple ⟨[]⟩) (C:=H1) e<|rn<|hB
def agU(cv:D):aJ Pg X 241 [T W 0 0,cv] H λv C=>C=H:=by
 refine ce [0,1,4] ?_;refine tp ?_;rw[Cu (u64_in N)];refine aJ.mono (Kw _ N N) ?_;rintro v C ⟨⟨l,rfl,Q,_⟩,rfl⟩;refine aJ.mono (ajs _ _ _ _) ?_;rintro v H1 rfl;refine rn ?_;exact O
def Tf(h:∀i,i<2->∃z:Int,E[k*2+i]?=Z (.int .i32 z)):Qd (El E 2 k):=by
 obtain⟨a,ha⟩:=h 0 N;obtain⟨b,hb⟩:=h 1 N;refine⟨a,b,?_⟩;apply gX;intro i;rw[mG]
 match i with
 |0=>rw[if_pos N,ha];rfl
 |1=>rw[if_pos N,hb];rfl
 |i+2=>rw[if_neg N];rfl
def Oi{i:Nat}(h:Qd<|El E 2 k)(hi:i<2):∃z:Int,E[k*2+i]?=Z (.int .i32 z):=by
 obtain⟨a,b,e⟩:=h;have Q:=mG E 2 k i;rw[if_pos hi,e]at Q
 match i,hi with
 |0,_=>exact⟨a,Q.symm⟩
 |1,_=>exact⟨b,Q.symm⟩
section fields
def SB.rf(h:SB Qd r ty 2 n H0 H L)(h0:0<=z)(hz:z<n)(hf:av<2)(k:∀a,K (.int .i32 a) H):ME (uP W (.pointer<|Z ⟨r,z.toNat*2+av,W⟩) H) K:=by
 obtain⟨E,G,hp,hl⟩:=h.row (k:=z.toNat) N;obtain⟨a,ha⟩:=Oi hp hf;exact G.ld 0 O ha<|k a
def SB.rfQ(h:SB Qd r ty 2 n H0 H L)(h0:0<=z)(hz:z<n)(hf:av<2)(k:∀a,K (.int .i32 a)<|hN H):ME (uP W (.pointer<|Z ⟨r,z.toNat*2+av,W⟩)<|hN H) K:=SB.rf h.xG h0 hz hf k
def SB.ak9(h:SB Qd r ty 2 n H0 H L)(h0:0<=z)(hz:z<n)(hf:av<2)(k:∀H1,SB Qd r ty 2 n H0 (hM H H1) L->K undef H1):ME (Cq 1 (.pointer<|Z ⟨r,z.toNat*2+av,W⟩) (.int .i32 a)<|hN H) K:=by
 obtain⟨E,Q,I,G⟩:=h;have hle:z.toNat*2+av+1<=E.length:=by omega
 refine G.stQ 0 O O hle O λH1 G=>k H1 ⟨splice E (z.toNat*2+av) [.int .i32 a],?_,λj hj=>?_,G⟩
 .rw[lY (by simpa using hle)];exact Q
 .refine Tf λi hi=>?_;rw[qo (by simpa using hle)];split
  .next y=>
   rw[show j*2+i-(z.toNat*2+av)=0 by simp at y;omega];exact⟨a,O⟩
  .exact Oi (I j hj) hi
end fields
abbrev LK(E:List D):Prop:=∀x∈E,∃z:Int,x=.int .i32 z
def QA(h:LK E)(hk:k*2+2<=E.length):Qd (El E 2 k):=by
 have e:El E 2 k=[E[k*2],E[k*2+1]]:=by
  unfold El;rw[dN N,dN N];rfl
 obtain⟨a,ha⟩:=h E[k*2]<|bB _;obtain⟨b,hb⟩:=h E[k*2+1]<|bB _;exact⟨a,b,by rw[e,ha,hb]⟩
def LK.app(h:LK E)(a b:Int):LK (E++[.int .i32 a,.int .i32 b]):=by
 intro x J;rcases bX.1 J with J|J
 .exact h x J
 .simp at J;rcases J with rfl|rfl
  .exact⟨_,O⟩
  .exact⟨_,O⟩
def Oj(hl:E.length=n*2)(h:∀k,k<n->Qd (El E 2 k)):LK E:=by
 intro x J;obtain⟨i,hi,rfl⟩:=iJ J;obtain⟨a,b,e⟩:=h (i/2) N;have Q:=mG E 2 (i/2)<|i %2;rw[if_pos (oC _ N),show i/2*2+i %2=i by omega,au hi,e]at Q;have:i %2=0\/i %2=1:=by omega
 rcases this with I|I
 .rw[I]at Q;exact⟨a,(dH Q).symm⟩
 .rw[I]at Q;exact⟨b,(dH Q).symm⟩
def Im(hw:Wf H){K:Nat}(hK:K<=1000000)(hv:zH K H v):aJ Pg X 244 [v] H (Q1 (λv C=>iF H.next K C v) H):=by
 obtain⟨a,n,c,E,rfl,hf,hn,hi⟩:=hv;have G:=M.refl hw;refine ce [0,2] ?_;refine tl ?_;rw[Cw (by kernel_rfl)];refine aY ?_;refine dL (λhb=>?_) λhb=>?_
 .refine rr ?_;exact⟨iF.nil _ _ _,Ext.refl _⟩
 .refine ME.of (agL N) ?_;have G:=G.grow 331 [];have hge:=G.ext.next
  refine G.SN N (.inr ⟨_,O⟩) (hf.ex G.ext) N λa' c' H1 L' hf' hS'=>rr ?_;exact⟨⟨a',n,c',E,O,hf'.le hge,hn,hi⟩,hS'.ext⟩
set_option maxHeartbeats 8000000 in
theorem Eu(hw:Wf H)(hKM:KM<=1000000)(hv:zH KM H v):aJ Pg X 226 [v] H (Q1 (λv C=>iF H.next KM C v) H):=by
 obtain⟨a,n,c,E,rfl,hf,hn,hi⟩:=hv;have G:=M.refl hw;refine ce [0,2,3,5,6,8,9,10,11,35,36,37] ?_;refine tp ?_;refine Ig 3 5 11 (h2:=λm x3 x5 iL C=>∃(k:Nat)(ds:List D)(gb:List dJ),iL=B k/\k+m=n/\GB 331 2 x3 ds gb/\ds.length<=2*k/\LK ds/\M [] H C (gb++[])) ?_ n ⟨0,[],[],rfl,N,GB.nil _ _,by simp,(λx h=>nomatch h),G⟩;rintro m x3 x5 iL u C ⟨k,ds,gb,rfl,hk,hg,hdl,hds,G⟩;refine gJ.wC λK hK=>?_;refine tp ?_;refine aC (λy=>?_) λy=>?_
 .obtain⟨r,o,e,R,hrd,hel,_⟩:=hf.read N (show k<n by omega) c;rw[e];refine aY ?_;obtain⟨z1,z2,ez⟩:=QA hi (k:=k) (by rw[hf.1];omega);rw[ez]at hrd;refine G.zP hrd R<|G.iZ λH1 r1 G=>?_
  repeat(first|(refine G.kK ?_)|(refine G.oF ?_)|(refine G.jE λHn G=>?_))
  subst hK;refine aC (λhd=>?_) λhd=>?_
  .refine d_ ?_;refine G.bS O O O N λH2 rx G=>?_;have G:M [] H H2 ((rx,331,[.int .i32 (max z1 0),.int .i32<|min z2 1114111])::(r1,331,[.int .i32 (max z1 0),.int .i32<|min z2 1114111])::(gb++[])):=G;have G:M [] H H2 ((rx,331,[.int .i32 (max z1 0),.int .i32<|min z2 1114111])::(gb++[(r1,331,[.int .i32 (max z1 0),.int .i32<|min z2 1114111])])):=G.perm<|dQ _ (by simpa using(aF (l₁:=[_]) (l₂:=gb)));refine hg.add G N O O N λv' H3 gT hg' hS' J=>?_;rw[fA N N];refine aY ?_;refine⟨m-1,N,_,_,_,_,_,O,k+1,_,gT,O,N,hg',by simp;omega,hds.app _ _,?_⟩;exact by simpa using M.drop (A:=[_]) (hS'.perm<|aF (l₂:=[_]))
  .rw[fA N N];refine aY ?_;refine⟨m-1,N,_,_,_,_,_,O,k+1,ds,gb,O,N,hg,N,hds,?_⟩;exact M.drop (A:=[_]) G
 .subst hK;refine aY ?_;refine tl ?_;rcases hg with⟨rfl,rfl,rfl⟩|⟨r,n1,dY,rfl,hn1,rfl⟩
  .refine aJ.mono (agU _) ?_;rintro _ H1 e;have e:=e.symm;subst e;refine aY ?_;refine Ig 6 8 37 (h2:=λm x6 x8 zT H2=>H2=C/\x6=vi 0/\zT=vi 0) ?_ 0 ⟨rfl,rfl,rfl⟩;rintro m x6 x8 zT u H2 ⟨rfl,rfl,rfl⟩;refine tp ?_;rw[dn N];refine aY ?_;refine tl<|PU.of (Vb)<|aJ.mono (Im G.wf hKM<|zH.nil _ _) ?_;rintro v H3 ⟨hv,J⟩;refine rr ?_;exact⟨hv.le (az _) G.ext.next,G.ext.trans J⟩
  .have hB:Rg r 331 n1 H C []:=⟨ds++dY,by simp;omega,λk hk=>Tf λi hi=>?_,G⟩;rotate_left
   .rw[bJ N,au N];obtain⟨z,hz⟩:=hds ds[k*2+i]<|bB _;exact⟨z,by rw[hz]⟩
   have hn2:n1<=KM:=by omega
   refine aJ.mono (Te N hB) ?_;clear hB G hds hn1 dY ds hdl;rintro _ H2 hB;refine aY ?_;refine Ig 6 8 37 (h2:=λm x6 x8 zT H2=>∃(w k:Nat),x6=B w/\zT=B k/\w<=k/\k+m=n1/\Rg r 331 n1 H H2 []) ?_ n1 ⟨0,0,rfl,rfl,N,N,hB⟩;clear hB;rintro m2 x6 x8 zT u H3 ⟨w,k2,rfl,rfl,hw2,hk2,hB⟩;refine gJ.wC λK hK=>?_
   have nx:∀(w:Nat) x8 u H4,w<=k2+1->k2<n1->Rg r 331 n1 H H4 []->gJ Pg X (sub nK [1,1,1,1,1,0,1,0,0,1,1,1]) (u_ (T a n c) (T W 0 0) (sl r n1<|fI 2) x5 (B w) x8 (T a n c) (B n) (B k) (sl r n1<|fI 2) (B n1) (B k2) u H4) K:=by
    intro w x8 u H4 Q I hB;subst hK;refine tl ?_;rw[fA N N];refine aY ?_;exact⟨m2-1,N,_,_,_,_,_,O,w,k2+1,O,O,N,N,hB⟩
   refine tp ?_;refine aC (λy=>?_) λy=>?_;rotate_left
   .subst hK;refine aY ?_;refine tl<|PU.of (Bh (show w<=n1 by omega)) ?_;obtain⟨es,g1,g2,G⟩:=hB
    have hfw:Fl H3 (Z ⟨r,0,W⟩) w 2 (es.take<|w*2):=⟨by simp;omega,λi x hi=>⟨r,0,rfl,(G.lo _<|aL ..).2,by
     rw[aW];refine(G.get 0 O).cell ?_;rw[iU]at hi;split at hi
     .exact hi
     .cases hi⟩⟩
    have hR:zH KM H3 (T (Z ⟨r,0,W⟩) w<|fI 2):=⟨_,w,_,_,O,hfw,N,Oj hfw.1 λk hk=>Tf λi hi=>by
     rw[iU,if_pos N];exact Oi (g2 k N) hi⟩
    refine aJ.mono (Im G.wf hKM hR) ?_;rintro v H4 ⟨hv,J⟩;refine rr ?_;exact⟨hv.le (az _) G.ext.next,G.ext.trans J⟩
   refine MO ?_;simp only[aW];refine hB.r1 N N λza zb=>hB.new λH4 r1 hB=>hB.st 0 O O (aD O) O λH5 hB=>?_;have hB:SB Qd r 331 2 n1 H H5 [(r1,331,[.int .i32 za,.int .i32 zb])]:=hB
   have lay:∀u H6,SB Qd r 331 2 n1 H H6 [(r1,331,[.int .i32 za,.int .i32 zb])]->gJ Pg X (sub nK [1,1,1,1,1,0,1,0,0,1,1,0,0,1,1]) (u_ (T a n c) (T W 0 0) (sl r n1<|fI 2) x5 (B w) (.pointer<|Z ⟨r1,0,W⟩) (T a n c) (B n) (B k) (sl r n1<|fI 2) (B n1) (B k2) u H6) (rO 3<|sW Pg X (sub nK [1,1,1,1,1,0,1,0,0,1,1,1]) K):=by
    intro u H6 hB;refine tl<|ME.of (v:=.agg ⟨[.int .i32 za,.int .i32 zb]⟩) (H:=H6) ?_ ?_
    .obtain⟨es,g1,g2,G⟩:=hB;show(aK (H6.read r1 0 2) λvs=>Z (Ru ⟨vs⟩,H6))=_;rw[(G.get 1 O).read (o:=0) (n:=2) (az 2)];rfl
    refine MO ?_;simp only[aW];refine hB.rw' N N λH7 hB=>?_;rw[fA N N];refine aY ?_;exact nx (w+1) _ _ _ N N hB.drop
   have fin:∀u H6(b:Bool),Aw u 54=.bool b->(b=f->0<w)->SB Qd r 331 2 n1 H H6 [(r1,331,[.int .i32 za,.int .i32 zb])]->gJ Pg X (sub nK [1,1,1,1,1,0,1,0,0,1,1,0,0,1,0,1]) (u_ (T a n c) (T W 0 0) (sl r n1<|fI 2) x5 (B w) (.pointer<|Z ⟨r1,0,W⟩) (T a n c) (B n) (B k) (sl r n1<|fI 2) (B n1) (B k2) u H6) (sW Pg X (sub nK [1,1,1,1,1,0,1,0,0,1,1,0,0,1,1])<|rO 3<|sW Pg X (sub nK [1,1,1,1,1,0,1,0,0,1,1,1]) K):=by
    intro u H6 b hb hw0 hB;refine tl ?_;rw[hb];refine aY ?_;refine dL (λhb=>?_) λhb=>?_
    .have:=hw0 hb;refine qX ?_;refine qX ?_;refine MO ?_;refine aY ?_;refine SB.rfQ hB N N N λzc=>?_;simp only[gZ hB.wf];refine hB.LA 0 O O ?_;simp only[gZ hB.wf];refine aY ?_;refine MO ?_;refine aY ?_;refine SB.ak9 hB N N N λH7 hB2=>⟨by simp only[eG,fT];kernel_rfl,?_⟩;exact nx w _ _ _ N N hB2.drop
    .exact lay _ _ hB
   refine aY ?_;refine aC (λhd=>?_) λhd=>?_
   .refine hB.LA 0 O O ?_;simp only[gZ hB.wf];refine qX ?_;refine MO ?_;refine aY ?_;refine SB.rfQ hB N N N λzc=>?_;simp only[gZ hB.wf];refine aY ?_;refine⟨by simp only[eG];kernel_rfl,?_⟩;exact fin _ _ _ (by simp only[wX];rfl) (λ_=>by omega) hB
   .refine⟨by kernel_rfl,?_⟩;exact fin _ _ aA (by simp only[wX]) (λh=>by cases h) hB
def abe(hw:Wf H):aJ Pg X 245 [] H (Q1 (λv C=>iF H.next 1 C v) H):=by
 have G:=M.refl hw;refine ce [0] ?_;refine tl ?_;refine PU.of (v:=.agg ⟨[_,_]⟩) O ?_;refine G.bS O O O N λH1 r G=>?_;have hb:=G.get 0 O;have hlo:=G.lo _<|aL ..
 refine rr ?_;refine⟨⟨_,1,1,_,O,⟨hb.fl hlo.2 O,λr' o e _=>by cases e;exact⟨G.wB<|aL ..,hlo.2,hb.HZ⟩⟩,N,λx J=>?_⟩,G.ext⟩;have J:x∈[bV .i32 0,bV .i32 1114111]:=J;simp at J;rcases J with rfl|rfl
 .exact⟨_,O⟩
 .exact⟨_,O⟩
end
end Go.Proofs.Lu
namespace Go.Ae
variable{K:D->F->D->F->Prop}{es m n r:Nat}{L L' gb:List dJ}{v x z:D}{E:List D}{H C H0:F}{b ok:Bool}{ty:aG}
section
class C4 (L g:List dJ) (ax:outParam<|List dJ->List dJ):Prop where
 p:∃hr,L.Perm (g++hr)/\∀g',(g'++hr).Perm<|ax g'
instance C4.top{g:List dJ}:C4 g g (λg=>g):=⟨[],by rw[a_],λg'=>by rw[a_]⟩
instance C4.cons{b:dJ}{L g:List dJ}{ax:List dJ->List dJ}[h:C4 L g ax]:C4 (b::L) g (λg=>b::ax g):=⟨let⟨hr,Q,I⟩:=h.p;⟨b::hr,(Q.cons b).trans iX.symm,λg'=>iX.trans<|(I g').cons b⟩⟩
instance C4.right{A L g:List dJ}{ax:List dJ->List dJ}[h:C4 L g ax]:C4 (A++L) g (λg=>A++ax g):=⟨let⟨hr,Q,I⟩:=h.p;⟨A++hr,(Q.append_left A).trans<|iE A g hr,λg'=>(iE g' A hr).trans<|(I g').append_left A⟩⟩
instance C4.left{A L g:List dJ}{ax:List dJ->List dJ}[h:C4 A g ax]:C4 (A++L) g (λg=>ax g++L):=⟨let⟨hr,Q,I⟩:=h.p;⟨hr++L,by rw[<-bP];exact Q.append_right L,λg'=>by rw[<-bP];exact(I g').append_right L⟩⟩
instance C4.here{L g:List dJ}:C4 (g++L) g (λg=>g++L):=⟨L,pN _,λg'=>pN _⟩
instance zQ.right{A L:List dJ}{r:Nat}{ty:aG}{E:List D}[h:zQ L r ty E]:zQ (A++L) r ty E:=⟨let⟨i,hi⟩:=h.at';⟨A.length+i,by rw[dS N,iR];exact hi⟩⟩
instance Eg.right{A L L':List dJ}{r:Nat}{ax:List D->List D}{ty:aG}{E:List D}[h:Eg L r ax ty E L']:Eg (A++L) r ax ty E (A++L'):=⟨let⟨i,hi,e⟩:=h.at';⟨A.length+i,by rw[dS N,iR];exact hi,by rw[e,p9 _ _<|nR _ _,iR]⟩⟩
instance zQ.left{A L:List dJ}{r:Nat}{ty:aG}{E:List D}[h:zQ A r ty E]:zQ (A++L) r ty E:=⟨let⟨i,hi⟩:=h.at';⟨i,by rw[bJ (bA.1 hi).1];exact hi⟩⟩
instance Eg.left{A A' L:List dJ}{r:Nat}{ax:List D->List D}{ty:aG}{E:List D}[h:Eg A r ax ty E A']:Eg (A++L) r ax ty E (A'++L):=⟨let⟨i,hi,e⟩:=h.at';have hl:=(bA.1 hi).1;⟨i,by rw[bJ hl];exact hi,by rw[e,lM _ _ hl]⟩⟩
variable{S:List Nat}{ax:List dJ->List dJ}{w:D}{xs x z:List D}
def GB.KU{K:D->D->F->Prop}(hg:GB ty es v xs gb)(G:M S H0 H L)[h:C4 L gb ax](J:(bI w).length=es)(ht:pK w=f)(hok:all' Go.Ae.fB (bI w)=f)(y:xs.length<=16777216)(kk:∀q v' C gT,GB ty es v' (xs++bI w) gT->M S H0 C (ax gT)->K q v' C)(he:0<es:=by decide)(hz:z.length=es:=by rfl)(hb:es<=16777216:=by decide):ME (bS ty z es 1 [(0,w)] H) λq H1=>ME (zB ty es v q H1) (K q):=by
 obtain⟨hr,Q,I⟩:=h.p;exact hg.push (G.perm Q) he hz O J ht hok hb y λq v' C gT hg' hS'=>kk q v' C gT hg'<|hS'.perm<|I gT
def M.alO{K:D->F->Prop}(G:M S H0 H L)(hn:n<=m)(hm:m<=16777216)(k:∀H1 r,M S H0 (hM H H1) ((r,ty,oL z m)::L)->Lt H H1=cl 5->Ext H (hM H H1)->H.next<=r->K (T (Z ⟨r,0,W⟩) n m) H1):ME (Go.Ae.mkS ty z (B n) (B m)<|Go.Ae.hN H) K:=by
 show ME (gd (aB n m&&aB m 16777216&&f)<|Z (T (Z ⟨H.next,0,W⟩) n m,(Go.Ae.hN H).new<|rowOf ty<|oL z m)) K;rw[aH hn,aH hm];exact k _ _ (G.xY ty _) (xq<|Ext.new _ _) (Ext.new _ _).draw<|az _
def M.aka{K:D->F->Prop}(G:M S H0 H L)(J:pK w=f)(k:∀H1 r,M S H0 (hM H H1) ((r,ty,bI w)::L)->Lt H H1=cl 5->Ext H (hM H H1)->H.next<=r->K (.pointer<|Z ⟨r,0,W⟩) H1):ME (Jv ty w<|Go.Ae.hN H) K:=by
 unfold Jv;rw[J];exact k _ _ (G.xY ty _) (xq<|Ext.new _ _) (Ext.new _ _).draw<|az _
def M.ab5(G:M S H0 H L)(k:∀H1 r,M S H0 (hM H H1) L->Ext H (hM H H1)->Lt H H1=cl 5->H.next<=r->K (.pointer<|Z ⟨r,0,W⟩) H1 undef (Go.Ae.hN<|hM H H1)):ME (Go.Ae.iZ ty []<|Go.Ae.hN H) λv H1=>ME (Go.Ae.Cq 0 v (.agg ⟨[]⟩)<|Go.Ae.hN<|hM H H1) λrg H2=>K v H1 rg H2:=by
 exact ME.of (v:=.pointer<|Z ⟨H.next,0,W⟩) (H:=(Go.Ae.hN H).new<|rowOf ty []) O<|ME.of (v:=undef) (H:=Go.Ae.hN<|hM H<|(Go.Ae.hN H).new<|rowOf ty []) O<|k _ _ (M.drop (A:=[_])<|G.xY ty []) (Ext.new _ _).draw (xq<|Ext.new _ _)<|az _
def GB.KV(hg:GB ty es v xs gb)(G:M S H0 H L)[h:C4 L gb ax](J:(bI w).length=es)(ht:pK w=f)(hok:all' Go.Ae.fB (bI w)=f)(y:xs.length<=16777216)(kk:∀q H1 v' H2 gT,GB ty es v' (xs++bI w) gT->M S H0 (hM (hM H H1) H2) (ax gT)->Lt H H1=cl 5->(Dq (hM H H1) H2=cl 1\/Dq (hM H H1) H2=⟨2,0,0,0,hM H H1,H2⟩)->M S H0 (hM H H1) L->K q H1 v' H2)(he:0<es:=by decide)(hz:z.length=es:=by rfl)(hb:es<=16777216:=by decide):ME (bS ty z es 1 [(0,w)]<|Go.Ae.hN H) λq H1=>ME (zB ty es v q<|Go.Ae.hN<|hM H H1) (K q H1):=by
 obtain⟨hr,Q,I⟩:=h.p;refine ME.of (NV (H:=Go.Ae.hN H) hz ht J hb) ?_;have hS1:=G.xY ty<|bI w;exact hg.Gj (cx:=1) (hS1.perm<|Q.cons _) he J hok y λv' H2 gT hg' hS2 _ _ hcl=>kk _ _ _ _ gT hg' (hS2.perm<|I gT) (xq<|Ext.new _ _) hcl<|M.drop (A:=[_]) hS1
def GB.T8(hg:GB ty es v xs gb):∃a n c,v=T a n c/\xs.length=n*es:=by
 rcases hg with⟨rfl,rfl,_⟩|⟨r,n,dY,rfl,hn,_⟩
 .exact⟨W,0,0,O,by simp⟩
 .exact⟨_,n,_,O,hn⟩
def GJ(ty:aG)(es:Nat)(v:D)(E:List D)(gb:List dJ):Prop:=GB ty es v E gb\/∃r,v=T (Z ⟨r,0,W⟩) 1 1/\E.length=es/\gb=[(r,ty,E)]
def GJ.T8(hg:GJ ty es v xs gb):∃a n c,v=T a n c/\xs.length=n*es:=hg.elim GB.T8 λ⟨r,Q,I,_⟩=>⟨_,1,_,Q,N⟩
def GJ.fl(hg:GJ ty es v xs gb)(G:M S H0 H<|gb++L):∃a n c,v=T a n c/\xs.length=n*es/\Fl H a n es xs:=by
 rcases hg with hg|⟨r,rfl,hl,rfl⟩
 .exact hg.fl G
 .exact⟨_,1,_,O,N,(G.get 0 O).fl (G.lo _<|aL ..).2 N⟩
def Re{x:D}(hb:Bk H r ty z)(hl:z.length=es)(ha:appended H es x=Z (1,xs)):zB ty es (T (Z ⟨r,0,W⟩) 1 1) x H=Z (T (Z ⟨H.next,0,W⟩) 2<|fI es,H.new<|rowOf ty<|z++xs):=by
 unfold zB;rw[ha]
 have e:H.read r 0 (bL 1 es)=Z z:=by
  rw[show bL 1 es=es from Nat.one_mul es,hb.read N];rw[jc,cK N]
 show(aK (H.read r 0<|bL 1 es) λold=>Z<|xQ ty es 2 (app old xs) H)=_;rw[e];show Z (xQ ty es 2 (app z xs) H)=_;rw[qd];rfl
def GJ.KU{K:D->D->F->Prop}(hg:GJ ty es v xs gb)(G:M S H0 H L)[h:C4 L gb ax](J:(bI w).length=es)(ht:pK w=f)(hok:all' Go.Ae.fB (bI w)=f)(y:xs.length<=16777216)(kk:∀q v' C gT,GB ty es v' (xs++bI w) gT->M S H0 C (ax gT)->K q v' C)(he:0<es:=by decide)(hz:z.length=es:=by rfl)(hb:es<=16777216:=by decide):ME (bS ty z es 1 [(0,w)] H) λq H1=>ME (zB ty es v q H1) (K q):=by
 rcases hg with hg|⟨r,rfl,hl,rfl⟩
 .exact hg.KU G J ht hok y kk he hz hb
 obtain⟨hr,Q,I⟩:=h.p;refine(G.perm Q).bS hz ht J hb λH1 rx hS1=>ME.of (Re (hS1.get 1 O) hl<|vz (k:=1) (hS1.get 0 O) N)<|kk _ _ _ [(H1.next,ty,xs++bI w)] (.inr ⟨H1.next,2,[],O,by rw[aQ];omega,by simp⟩)<|((M.drop (A:=[_,_]) hS1).grow ty _).perm<|I [(H1.next,ty,xs++bI w)]
def GJ.KV(hg:GJ ty es v xs gb)(G:M S H0 H L)[h:C4 L gb ax](J:(bI w).length=es)(ht:pK w=f)(hok:all' Go.Ae.fB (bI w)=f)(y:xs.length<=16777216)(kk:∀q H1 v' H2 gT,GB ty es v' (xs++bI w) gT->M S H0 (hM (hM H H1) H2) (ax gT)->Lt H H1=cl 5->(Dq (hM H H1) H2=cl 1\/Dq (hM H H1) H2=⟨2,0,0,0,hM H H1,H2⟩)->M S H0 (hM H H1) L->K q H1 v' H2)(he:0<es:=by decide)(hz:z.length=es:=by rfl)(hb:es<=16777216:=by decide):ME (bS ty z es 1 [(0,w)]<|Go.Ae.hN H) λq H1=>ME (zB ty es v q<|Go.Ae.hN<|hM H H1) (K q H1):=by
 rcases hg with hg|⟨r,rfl,hl,rfl⟩
 .exact hg.KV G J ht hok y kk he hz hb
 obtain⟨hr,Q,I⟩:=h.p;refine ME.of (NV (H:=Go.Ae.hN H) hz ht J hb) ?_;have hS1:=(G.perm Q).xY ty<|bI w;have hb0:Bk (Go.Ae.hN<|hM H<|(Go.Ae.hN H).new<|rowOf ty<|bI w) _ ty (bI w):=hS1.get 0 O;have hb1:Bk (Go.Ae.hN<|hM H<|(Go.Ae.hN H).new<|rowOf ty<|bI w) r ty xs:=hS1.get 1 O;refine ME.of (Re hb1 hl<|vz (k:=1) hb0 N)<|kk _ _ _ _ [((hM H<|(Go.Ae.hN H).new<|rowOf ty<|bI w).next,ty,xs++bI w)] (.inr ⟨_,2,[],O,by rw[aQ];omega,by simp;rfl⟩) (((M.drop (A:=[_,_]) hS1).xY ty _).perm<|I [((hM H<|(Go.Ae.hN H).new<|rowOf ty<|bI w).next,ty,xs++bI w)]) (xq<|Ext.new _ _) (.inl<|fK<|Ext.new _ _) ?_;exact M.drop (A:=[_])<|G.xY ty<|bI w
def M.rd{S':List Nat}{H0' A vn:F}{o:Nat}{a b:F}(hA:M S H0 A L)(hB:M S' H0' (hM A vn) L')[Q:zQ L r ty E][I:zQ L' r ty E](hs:∀v∈(E.drop o).take n,nI v v=f)(hn:o+n<=E.length:=by exact aD O):mY ⟨2,0,0,0,A,vn⟩ ⟨4,r,o,n,a,b⟩=f:=
 let⟨i,hi⟩:=Q.at';let⟨j,hj⟩:=I.at';p8 (hA.get i hi) ((hB.get j hj).jf rfl) hn hs
def M.neT{r':Nat}{ty':aG}{cs':List D}(G:M S H0 H L)[Q:zQ L r ty E][I:zQ L r' ty' cs'](h:ty≠ty':=by decide):r≠r':=λe=>by
 subst e;obtain⟨i,hi⟩:=Q.at';obtain⟨j,hj⟩:=I.at';exact h<|(G.get i hi).HZ.one (G.get j hj).HZ
end
section
variable{P:aS}{κ:Type}[DecidableEq κ]{e:κ->D}{S:List Nat}{av:κ->Option D}{k:κ}{t kt vt:aG}{K:D->F->Prop}
def lkm(m:List<|κ×D)(k:κ):Option D:=(m.find? λp=>decide<|p.1=k).map (·.2)
def upm(k:κ)(v:D):List (κ×D)->List (κ×D)
 |[]=>[(k,v)]
 |p::m=>if p.1=k then(k,v)::m else p::upm k v m
abbrev Rl(e:κ->D)(m:List<|κ×D):List (D×D):=m.map λp=>(e p.1,p.2)
def Dn(e:κ->D)(H:F)(r:Nat)(av:κ->Option D):Prop:=∃m,r<H.next/\H.obj r=.map (Rl e m)/\∀k,lkm m k=av k
def Ar(p:κ×D)(m:List<|κ×D):lkm (p::m) k=if p.1=k then Z p.2 else lkm m k:=by
 unfold lkm;rw[List.find?_cons]
 by_cases h:p.1=k
 .rw[if_pos h,bG h];rfl
 .rw[if_neg h,dn h]
def V3(j:κ):∀m,lkm (upm k v m) j=if j=k then Z v else lkm m j
 |[]=>by
  show lkm [(k,v)] j=_;rw[Ar]
  by_cases h:j=k
  .rw[if_pos h,if_pos h.symm]
  .rw[if_neg h,if_neg λg=>h g.symm]
 |p::m=>by
  unfold upm
  by_cases hp:p.1=k
  .rw[if_pos hp,Ar,Ar,hp]
   by_cases h:j=k
   .rw[if_pos h,if_pos h.symm]
   .rw[if_neg h,if_neg λg=>h g.symm,if_neg λg=>h g.symm]
  .rw[if_neg hp,Ar,Ar,V3 j m]
   by_cases h:j=k
   .rw[if_pos h,if_pos h,if_neg (by rw[h];exact hp)]
   .rw[if_neg h,if_neg h]
def Dn.ex(h:Dn e H r av)(J:oz S H C)(R:r∉S):Dn e C r av:=let⟨m,Q,I,h3⟩:=h;⟨m,aP Q J.next,(J.obj r Q R).trans I,h3⟩
def M.C6(G:M S H0 H L)(h:Dn e H r av):r∉L.map (·.1):=λR=>by
 obtain⟨m,_,I,_⟩:=h;obtain⟨x,J,rfl⟩:=bQ.1 R;obtain⟨hr,Q,_⟩:=G.bk x J;rw[I]at Q;cases Q
def V4(ht:∀a b,kY P kt (e a) (e b)=Z (decide<|a=b)):∀(m:List<|κ×D)(i:Nat),∃q:Option<|Nat×D,qW P kt (e k) (Rl e m) i=Z q/\q.map (·.2)=lkm m k/\(q=W->Rl e m++[(e k,v)]=Rl e (upm k v m))/\∀j w,q=Z (j,w)->i<=j/\(Rl e m).set (j-i) (e k,v)=Rl e (upm k v m):=by
 intro m
 induction m with
 |nil=>exactλi=>⟨W,rfl,rfl,λ_=>rfl,λj w h=>by cases h⟩
 |cons p m ih=>
  intro i;have h0:qW P kt (e k) (Rl e<|p::m) i=aK (kY P kt (e k)<|e p.1) λb=>bR b (Z<|Z (i,p.2)) (qW P kt (e k) (Rl e m)<|bU i):=rfl;rw[h0,ht,Ar];unfold upm
  by_cases h:k=p.1
  .rw[bG h,if_pos h.symm,if_pos h.symm];refine⟨Z (i,p.2),O,O,(λh=>by cases h),λj w g=>?_⟩;cases g;exact⟨az _,by rw[ja];rfl⟩
  .rw[dn h,if_neg λg=>h g.symm,if_neg λg=>h g.symm];obtain⟨q,Q,I,h3,h4⟩:=ih<|i+1;refine⟨q,Q,I,λg=>dV (_::·)<|h3 g,λj w g=>?_⟩;obtain⟨g1,g2⟩:=h4 j w g;refine⟨N,?_⟩;rw[show j-i=(j-(i+1))+1 by omega];exact dV (_::·) g2
def Qh(ht:∀a b,kY P kt (e a) (e b)=Z (decide<|a=b)):zw P kt (e k)=Z ():=by
 show aK (kY P kt (e k)<|e k) _=_;rw[ht,bG O];rfl
def Dn.look(hm:Dn e H r av)(Q:uz P t=Z (kt,vt))(I:xz P vt=Z z)(h3:∀a b,kY P kt (e a) (e b)=Z (decide<|a=b))(kk:K (okd ok ((av k).getD z) (av k).isSome H).1 H):ME (r_ P t (.map<|Z r) (e k) ok H) K:=by
 obtain⟨m,g1,g2,g3⟩:=hm;obtain⟨q,e1,e2,_⟩:=V4 (v:=z) h3 (k:=k) m 0
 have:r_ P t (.map<|Z r) (e k) ok H=Z (okd ok ((av k).getD z) (av k).isSome H):=by
  show(aK (uz P t) λq=>aK (xz P q.2) λz=>aK (mapOf H<|.map<|Z r) λes=>aK (zw P q.1<|e k) λ_=>aK (qW P q.1 (e k) es 0) λav=>_)=_;rw[Q];show(aK (xz P vt) λz=>aK (Jp<|H.obj r) λes=>aK (zw P kt<|e k) λ_=>aK (qW P kt (e k) es 0) λav=>_)=_;rw[I,g2,Qh h3];show aK (qW P kt (e k) (Rl e m) 0) _=_;rw[e1,<-g3,<-e2];cases q<;>rfl
 rw[this];cases ok<;>exact ME.of O kk
def Dn.Ip(hm:Dn e H r av)(Q:uz P t=Z (kt,vt))(I:xz P vt=Z z)(h3:∀a b,kY P kt (e a) (e b)=Z (decide<|a=b))(kk:K (.tuple ⟨[(av k).getD z,.bool (av k).isSome]⟩) H):ME (r_ P t (.map<|Z r) (e k) f H) K:=hm.look Q I h3 kk
def Dn.has{p:κ->Prop}[DecidablePred p](hm:Dn e H r λk=>if p k then Z z else W)(Q:uz P t=Z (kt,vt))(I:xz P vt=Z z)(h3:∀a b,kY P kt (e a) (e b)=Z (decide<|a=b))(kk:K (.tuple ⟨[z,.bool<|decide<|p k]⟩) H):ME (r_ P t (.map<|Z r) (e k) f H) K:=hm.Ip Q I h3 (by
 by_cases h:p k
 .simp only[if_pos h,bG h]at kk|-;exact kk
 .simp only[if_neg h,dn h]at kk|-;exact kk)
def Dn.plus{p q:κ->Prop}[DecidablePred p][DecidablePred q](hm:Dn e H r λj=>if j=k then Z z else if p j then Z z else W)(h:∀j,q j<->p j\/j=k):Dn e H r λj=>if q j then Z z else W:=by
 have:(λj=>if q j then Z z else W)=λj=>if j=k then Z z else if p j then Z z else W:=funext λj=>by
  by_cases Q:j=k
  .rw[if_pos Q,if_pos<|(h j).2<|.inr Q]
  .rw[if_neg Q]
   by_cases I:p j
   .rw[if_pos I,if_pos<|(h j).2<|.inl I]
   .rw[if_neg I,if_neg λg=>((h j).1 g).elim I Q]
 rw[this];exact hm
def acf{m:List (κ×D)}(g1:H.obj r=.map (Rl e m))(Q:uz P t=Z (kt,vt))(h3:∀a b,kY P kt (e a) (e b)=Z (decide<|a=b)):uN P t (.map<|Z r) (e k) v H=Z (undef,H.put r<|.map<|Rl e<|upm k v m):=by
 obtain⟨q,e1,_,e2,e3⟩:=V4 (v:=v) h3 (k:=k) m 0;show(aK (uz P t) λq=>aK (Jp<|H.obj r) λes=>aK (zw P q.1<|e k) λ_=>aK (qW P q.1 (e k) es 0) λav=>_)=_;rw[Q];show(aK (Jp<|H.obj r) λes=>aK (zw P kt<|e k) λ_=>aK (qW P kt (e k) es 0) λav=>_)=_;rw[g1,Qh h3];show aK (qW P kt (e k) (Rl e m) 0) _=_;rw[e1];cases q with
 |none=>
  rw[<-e2 O];show Z (undef,H.put r<|.map<|app (Rl e m) [(e k,v)])=_;rw[qd]
 |some p=>
  rw[<-(e3 _ _ O).2];show Z (undef,H.put r<|.map<|setAt (e k,v) p.1<|Rl e m)=_;rw[z8];rfl
def M.akk{H1:F}{m:List (κ×D)}(G:M S H0 H L)(R:r∈S\/H0.next<=r)(hn:r∉L.map (·.1))(g1:r<H.next)(g3:∀k,lkm m k=av k)(J:oz [r] H H1)(e1:H1.obj r=.map (Rl e<|upm k v m))(e2:∀q,q≠r->H1.obj q=H.obj q)(e3:H1.next=H.next):Dn e H1 r (λj=>if j=k then Z v else av j)/\M S H0 H1 L:=
 ⟨⟨_,by rw[e3];exact g1,e1,λj=>by rw[V3,g3]⟩,G.ext.later J (λq hq=>by rw[aO]at hq;subst hq;exact R),λx J=>(G.bk x J).jf<|e2 _ λh=>hn (by rw[<-h];exact bQ.2 ⟨x,J,O⟩),λx J=>by rw[e3];exact G.lo x J,G.ne,J.wf G.wf⟩
def M.alW(G:M S H0 H L)(R:r∈S\/H0.next<=r)(hm:Dn e H r av)(Q:uz P t=Z (kt,vt))(h3:∀a b,kY P kt (e a) (e b)=Z (decide<|a=b))(kk:∀C,Dn e C r (λj=>if j=k then Z v else av j)->M S H0 C L->oz [r] H C->K undef C):ME (uN P t (.map<|Z r) (e k) v H) K:=by
 have hn:=G.C6 hm;obtain⟨m,g1,g2,g3⟩:=hm;have J:=oz.put H r<|.map<|Rl e<|upm k v m;obtain⟨a,b⟩:=G.akk R hn g1 g3 J (by rw[uF,if_pos O]) (λq hq=>by rw[uF,if_neg hq]) O;exact ME.of (acf g2 Q h3)<|kk _ a b J
def M.aem(G:M S H0 H L)(R:r∈S\/H0.next<=r)(hm:Dn e H r av)(Q:uz P t=Z (kt,vt))(h3:∀a b,kY P kt (e a) (e b)=Z (decide<|a=b))(kk:∀C,Dn e (hM H C) r (λj=>if j=k then Z v else av j)->M S H0 (hM H C) L->oz [r] H (hM H C)->Dq H C=⟨2,0,0,0,H,C⟩->K undef C):ME (uN P t (.map<|Z r) (e k) v<|Go.Ae.hN H) K:=by
 have hn:=G.C6 hm;obtain⟨m,g1,g2,g3⟩:=hm;have J:oz [r] H (hM H<|(Go.Ae.hN H).put r<|.map<|Rl e<|upm k v m):=(oz.put (Go.Ae.hN H) r _).draw;obtain⟨a,b⟩:=G.akk (v:=v) R hn g1 g3 J (by show((Go.Ae.hN H).put r _).obj r=_;rw[uF,if_pos O]) (λq hq=>by show((Go.Ae.hN H).put r _).obj q=_;rw[uF,if_neg hq];rfl) rfl;exact ME.of (acf (H:=Go.Ae.hN H) g2 Q h3)<|kk _ a b J<|U9 (by rw[uG];show min H.next r<_;omega)
theorem M.mkMap{q:aG×aG}(G:M S H0 H L)(Q:uz P t=Z q)(kk:∀C r,Dn e C r (λ_=>W)->Ext H C->H.next<=r->M S H0 C L->K (.map<|Z r) C):ME (uB P t W H) K:=by
 refine ME.of (v:=.map<|Z H.next) (H:=H.new<|.map []) ?_<|kk _ _ ⟨[],dI _,by rw[xF,if_pos O];rfl,λ_=>rfl⟩ (Ext.new _ _) (az _)<|G.call<|Ext.new _ _;show aK (uz P t) _=_;rw[Q];rfl
end
def acp{g:Cl->Cl}{h1:Cl->Prop}(hg:∀x hc b,h1 x->h1 hc->fF (g hc) (g x) b=f->fF hc x b=f):∀(ms:List Nat)(l:List Cl),(∀c∈l,h1 c)->pairs fF ms (l.map g)=f->pairs fF ms l=f:=by
 have row:∀(x:Cl)(k:Nat)(l:List Cl),h1 x->(∀c∈l,h1 c)->je fF (g x) k (l.map g)=f->je fF x k l=f:=by
  intro x k l J
  induction l with
  |nil=>intro _ _;rfl
  |cons hc l ih=>
   intro h Q;replace Q:bR (fF (g x) (g hc)<|gQ k<|len<|l.map g) (je fF (g x) k<|l.map g) aA=f:=Q;obtain⟨I,h4⟩:=zR Q;show bR (fF x hc<|gQ k<|len l) (je fF x k l) aA=f;rw[fQ,aM]at I;rw[fQ,hg hc x _ (h hc<|aL ..) J I,ih (λc y=>h c<|bH _ y) h4];rfl
 intro ms
 induction ms with
 |nil=>intro l _ _;rfl
 |cons k ms ih=>
  intro l h Q;cases l with
  |nil=>rfl
  |cons x l=>
   replace Q:bR (je fF (g x) k<|l.map g) (pairs fF ms<|l.map g) aA=f:=Q;obtain⟨I,h4⟩:=zR Q;show bR (je fF x k l) (pairs fF ms l) aA=f;rw[row x k l (h x<|aL ..) (λc y=>h c<|bH _ y) I,ih l (λc y=>h c<|bH _ y) h4];rfl
def g9(c:Cl):Cl:=⟨c.k,0,0,1,hh0,hh0⟩
theorem acr{x hc:Cl}(x3:x.k≠3)(y3:hc.k≠3)(h:fF (g9 hc) (g9 x) b=f):fF hc x b=f:=by
 have r:∀w l:Cl,mY (g9 w) (g9 l)=aA:=λw l=>Gq (a:=hh0) (b:=hh0) (l:=g9 l) O (by show(1:Nat)≠0;decide);unfold fF at h|-;rw[zD x3,zD y3];rw[show ay (g9 x).k 3=aA from zD x3,show ay (g9 hc).k 3=aA from zD y3,r,r,mP]at h
 revert h
 show bR (ay hc.k 0||ay x.k 0||ay hc.k 5||ay x.k 5) f (bR aA _<|bR aA _<|bR (ay x.k 4) (bR (ay hc.k 2) b f)<|bR (ay hc.k 4) (bR (ay x.k 2) b f)<|bR (ay x.k 1&&ay hc.k 1) f b)=f->_;cases(ay hc.k 0||ay x.k 0||ay hc.k 5||ay x.k 5)<;>cases ay x.k 4<;>cases ay hc.k 2<;>cases ay hc.k 4<;>cases ay x.k 2<;>cases b<;>intro h<;>first|rfl|exact h|(cases h;done)
def acs{ops:Array Oper}{l:List Cl}{K:Prop}(h3:all' (λc=>!(ay c.k 3)) (l.map g9)=f)(h:pairs fF (sQ ops.toList [] 0) (l.map g9)=f)(k:K):jI ops l=f/\K:=by
 refine⟨?_,k⟩;unfold jI;rw[acp (h1:=λc=>c.k≠3) (λx hc b J hy=>acr J hy) _ l (λc y e=>?_) h]
 .cases noTwo l<;>rfl
 .rw[all_eq,eD]at h3;have:=h3 (g9 c)<|List.mem_map_of_mem y;unfold g9 at this;rw[e]at this;cases this
end Go.Ae
