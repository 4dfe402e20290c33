/-
  Part 09 of the proof. No condition.
-/
import Derived.Test.YtdkcdlnfeodaaaaGreatDoorR08
set_option linter.unusedVariables false
set_option linter.unusedSimpArgs false
set_option maxRecDepth 100000
set_option maxHeartbeats 4000000
noncomputable section
namespace Go.Proofs.Lu
open Go.Ae Go.Ae.M Go.Ae.AM
variable{b b' es i k k0 kb m:Nat}{cs ks l z:List Value}{L M M' Mb gb:List cz}{H H' H0 Hb Hc:ag}{d rs v:Value}{a:Option Addr}{nm s t t':ByteArray}{F':Nat->Prop}{ch kd root:Int}{f u w:Bool}{S' zs:List Nat}
abbrev isRead(b:Nat)(s:ByteArray)(v:Value)(H':ag):Prop:=∃(rs:Value)(cd:Int)(pl:Nat),v=.tuple ⟨[rs,.agg ⟨[vi cd,vn pl]⟩]⟩/\pl<=s.size+1/\eZ b s.size H' rs/\(cd=0->0<s.size/\Cr (tx s) 0)
theorem Tok.st{S:List Nat}(h:Tok b H s k v)(hx:qU S H H')(hS:∀q∈S,q<b\/¬wR H q 269)(hb:b'<=b):Tok b' H' s k v:=by
 obtain⟨kd,a,e,t,rs,h1,h2,h3,h4,h5,h6,h7⟩:=h;exact⟨kd,a,e,t,rs,h1,h2,h3,h4,h5,(h6.stay hx hS).le (aj _) hb,h7⟩
theorem size_pos(h:¬s=⟨#[]⟩):0<s.size:=by
 rcases fq s.size with g|g
 .obtain⟨⟨l⟩⟩:=s;have:l=[]:=bK.1 g;subst this;exact absurd rfl h
 .exact g
theorem Vq(hw:Wf H)(hT:AP H)(s:ByteArray)(hs:s.size<=20000):az Pg X 180 [.string s] H (Q1 (isRead H.next s) H):=by
 have hS:=SH.refl hw;refine ce [0,2,3,4,5,6,7,8,9,10] ?_;refine tl ?_;refine hS.iI λHn rs hS=>?_;refine aF ?_;refine ah (λhc=>?_) λhc0=>?_
 .refine PU.b2 rfl ?_;refine hS.aY ?_;refine hS.kJ λHn hS=>?_;refine rr ?_;refine hS.eU ?_;exact⟨⟨_,_,0,rfl,aa,eZ.nil _ _ _,λh=>by cases h⟩,hS.ext⟩
 refine lp8 2 4 5 6 7 8 9 10 (I:=λm x2 x4 x5 x6 x7 x8 x9 dR H'=>∃(k:Nat)(ds:List Value)(gb:List cz),x2=.slice none 0 0/\x5=vn k/\k+m=s.size/\(Cr (tx s) k->Cr (tx s) 0)/\GB 269 2 x4 ds gb/\ds.length<=2*k/\J4 ds/\SH [] H H' ((rs,72,[vi 0,vi 0])::(gb++[]))) ?_ s.size ⟨0,[],[],rfl,rfl,aa,id,GB.nil _ _,by simp,(λx h=>nomatch h),hS⟩;clear hS;rintro m x2 x4 x5 x6 x7 x8 x9 dR rg H' ⟨k,ds,gb,rfl,rfl,hk,hcr,hg,hdl,hds,hS⟩;refine dJ.sH λK hK=>?_
 have lay:∀(lo hi:Int)(q:Nat) x7 x8 rg H2,k<q->q<=s.size->(Cr (tx s) q->Cr (tx s) k)->SH [] H H2 ((rs,72,[vi 0,vi 0])::(gb++[]))->
  dJ Pg X (sub yT [1,1,1,0,1,0,0,1,0,1,1,1,1]) (Cm (.string s) (.slice none 0 0) (.pointer<|some ⟨rs,0,none⟩) x4 (vn k) (.int .i32 lo) x7 x8 (.int .i32 hi) (vn q) rg H2) (j3 1 K):=by
  intro lo hi q x7 x8 rg H2 h1 h2 hq hS;subst hK;refine tl ?_;refine PU.of (v:=.agg ⟨[_,_]⟩) rfl ?_;refine hS.bS rfl rfl rfl aa λH3 rx hS=>?_;have hS:SH [] H H3 ((rx,269,[.int .i32 lo,.int .i32 hi])::(gb++[(rs,72,[vi 0,vi 0])])):=hS.perm<|List.Perm.cons _<|KI _ _;refine hg.add hS aa rfl rfl aa λv' H3 gY hg' hS' hx=>?_;refine aF ?_;exact⟨s.size-q,aa,_,_,_,_,_,_,_,_,_,_,rfl,q,_,gY,rfl,rfl,aa,λh=>hcr<|hq h,hg',by simp;omega,hds.app _ _,hS'.perm (KI _ _).symm⟩
 have mid:∀(lo:Int)(sz q:Nat)(b:Bool) x8 rg H2,BA rg 44=.bool b->k<q->q<=s.size->(b=true<->q+1<s.size/\at' (tx s) q=45)->(∃r:Nat,lo=r/\De (tx s) k=some (r,sz)/\q=k+sz)->SH [] H H2 ((rs,72,[vi 0,vi 0])::(gb++[]))->
  dJ Pg X (sub yT [1,1,1,0,1,0,0,1,0,1,1,1,0,1]) (Cm (.string s) (.slice none 0 0) (.pointer<|some ⟨rs,0,none⟩) x4 (vn k) (.int .i32 lo) (vn sz) x8 (.int .i32 lo) (vn q) rg H2) (nR Pg X (sub yT [1,1,1,0,1,0,0,1,0,1,1,1,1])<|j3 1 K):=by
  intro lo sz q b x8 rg H2 hb h1 h2 h3 ⟨r0,hlo,hsg,hqk⟩ hS;have hkl:k<(tx s).length:=by rw[j_];omega
  refine tl ?_;rw[hb];refine aF ?_;refine bO (λhb=>?_) λhb=>?_
  .have:=h3.1 hb;rw[dI aa aa];refine aF ?_;rw[KS (show(q:Int)+1=((q+1:Nat):Int) by omega)];refine az.mono (KU hS.wf (hT.ex hS.ext) s (q+1) aa aa) ?_;rintro v H3 ⟨⟨r,n,e,rfl,h4,h5⟩,hx⟩;have hS:=hS.call hx;refine hS.aY ?_;refine bq (λhe=>?_) λhe=>?_
   .rw[dI aa aa]
    repeat(first|(refine hS.aY ?_)|(refine PU.b2 rfl ?_)|(refine hS.kJ λHn hS=>?_))
    subst hK;refine rr ?_;refine hS.eU ?_;exact⟨⟨_,_,q+1,rfl,aa,eZ.nil _ _ _,λh=>absurd h he⟩,hS.ext⟩
   obtain⟨hn0,r1,hr1,hs1⟩:=h5 aa;refine ah (λhc=>?_) λhc=>?_
   .refine PU.b2 rfl ?_;refine hS.aY ?_;refine hS.kJ λHn hS=>?_;subst hK;refine rr ?_;refine hS.eU ?_;exact⟨⟨_,_,k,rfl,aa,eZ.nil _ _ _,λh=>by cases h⟩,hS.ext⟩
   rw[dI aa aa];refine hS.aY ?_;rw[dI aa aa];refine hS.aY ?_;rw[KS (show(q:Int)+(1+(n:Int))=((q+1+n:Nat):Int) by omega)];exact lay _ _ _ _ _ _ _ aa aa (λh=>.two k r0 sz r1 n hkl hsg (by rw[j_,<-hqk];omega) (by rw[<-hqk];exact this.2) (by rw[<-hqk];exact hs1) aa (by rw[<-hqk];exact h)) hS
  .exact lay _ _ _ _ _ _ _ h1 h2 (λh=>.one k r0 sz hkl hsg (by rw[j_,<-hqk,<-h3,hb];simp) (by rw[<-hqk];exact h)) hS
 refine tl ?_;refine aF ?_;refine ah (λhc=>?_) λhc=>?_
 .refine az.mono (KU hS.wf (hT.ex hS.ext) s k aa aa) ?_;rintro v H3 ⟨⟨r,n,e,rfl,h4,h5⟩,hx⟩;have hS:=hS.call hx;refine hS.aY ?_;refine bq (λhe=>?_) λhe=>?_
  .refine PU.b2 rfl ?_;refine hS.aY ?_;refine hS.kJ λHn hS=>?_;subst hK;refine rr ?_;refine hS.eU ?_;exact⟨⟨_,_,k,rfl,aa,eZ.nil _ _ _,λh=>absurd h he⟩,hS.ext⟩
  obtain⟨h6,r0,hr0,hsg⟩:=h5 aa;rw[dI aa aa];refine hS.aY ?_;rw[nM aa aa];refine hS.aY ?_;rw[KS (show(k:Int)+(n:Int)=((k+n:Nat):Int) by omega)];refine ah (λhc=>?_) λhc=>?_
  .rw[jL aa];refine hS.aY ?_;exact mid _ _ _ _ _ _ _ (by simp only[uC];rfl) aa aa (by rw[pq];omega) ⟨r0,hr0,hsg,rfl⟩ hS
  .exact mid _ _ _ false _ _ _ (by simp only[uC]) aa aa ⟨λh=>(by cases h),λh=>by omega⟩ ⟨r0,hr0,hsg,rfl⟩ hS
 .subst hK;refine aF ?_;refine tl ?_;have hS2:SH [] H H' (gb++[(rs,72,[vi 0,vi 0])]):=hS.perm<|KI _ _;obtain⟨a,n,c,rfl,hn,hf⟩:=hg.fl hS2;have hge:=hS.ext.next
  refine az.mono (Di (KM:=s.size) hS.wf aa ⟨a,n,c,ds,rfl,hf,aa,hds⟩) ?_;rintro v H3 ⟨hv,hx⟩;have hlt:=hS.lt;have hS0:=hS.call hx;have hS:=hS0.base;refine PU.b2 rfl ?_;refine hS.kJ λHn hS=>?_;refine rr ?_;refine hS.eU ?_;exact⟨⟨_,0,0,rfl,aa,(hv.stay hS.ext λq hq=>.inl<|hlt q hq).le (aj _) hge,λ_=>⟨size_pos hc0,hcr<|.fin k (by rw[j_];omega)⟩⟩,(hS0.over hS).ext⟩
theorem Rj(hw:Wf H)(hT:AP H)(s:ByteArray)(k:Nat)(hk:k<s.size)(hs:s.size<=20000)(h91:at' (tx s) k=91):az Pg X 145 [.string s,vn k] H (Q1 (Eo H.next s k) H):=by
 have hS:=SH.refl hw;refine ce [0,1,4,5,6,7,8,19] ?_;refine tl ?_;refine hS.iI λHn rt hS=>?_;refine hS.iI λHn rs hS=>?_;rw[dI aa aa];refine aF ?_;refine PV 6 7 8 19 (I:=λm x6 x7 x8 vv H'=>∃p:Nat,x6=vn p/\p+m=s.size+1/\k+1<=p/\(∀e,Ce (tx s) p e->Ce (tx s) (k+1) e)/\SH [] H H' [(rs,72,[vi 0,vi 0]),(rt,128,[vi 0,vi 0,vi 0,.string<|ByteArray.mk #[],.slice none 0 0])]) ?_ (s.size-k) ⟨k+1,rfl,aa,aa,λ_ h=>h,hS⟩;clear hS;rintro m x6 x7 x8 vv rg H' ⟨p,rfl,h1,h2,hce,hS⟩;refine tl ?_;refine aF ?_;refine ah (λhc=>?_) λhc=>?_;rotate_left
 .refine tl ?_
  repeat(first|(refine hS.aY ?_)|(refine PU.b2 rfl ?_)|(refine PU.b5 rfl ?_)|(refine hS.kJ λHn hS=>?_))
  refine rr ?_
  repeat(refine hS.eU ?_)
  exact⟨⟨_,_,k,rfl,⟨_,0,0,_,_,rfl,_,_,_,rfl⟩,λh=>by cases h⟩,hS.ext⟩
 rw[jL aa];refine aF ?_;have hpl:p<(tx s).length:=by rw[j_];omega
 refine ah (λhd=>?_) λhd=>?_
 .rw[dI aa aa];refine aF ?_;rw[dI aa aa];refine aF ?_;exact⟨m-2,aa,_,_,_,_,_,_,rfl,p+2,rfl,aa,aa,λe h=>hce e<|.bs p e hpl aa h,hS⟩
 refine ah (λhe=>?_) λhe=>?_
 .rw[dI aa aa];refine aF ?_;rw[show slT (.string s) (some<|vi<|(k:Int)+1) (some<|vn p) none=_ from Aj (lo:=k+1) aa aa];refine aF ?_;have hp:=mq s (lo:=k+1) (hi:=p) aa aa;refine az.mono (Vq hS.wf (hT.ex hS.ext) _ aa) ?_;rintro v H3 ⟨⟨rsv,cd,e,rfl,h3,h4,hcr⟩,hx⟩;have hge:=hS.ext.next
  have hlt:=hS.lt;have hS0:=hS.call hx;have hS:=hS0.base;refine hS.aY ?_;refine hS.iI λHn rq hS=>?_
  repeat(first|(refine hS.aY ?_)|(refine hS.dQ ?_)|(refine hS.kJ λHn hS=>?_))
  refine bq (λhz=>?_) λhz=>?_
  .refine PU.b5 rfl ?_;refine hS.kI ?_;refine hS.aY ?_;rw[dI aa aa]
   repeat(first|(refine hS.aY ?_)|(refine hS.kI ?_))
   rw[dI aa aa]
   repeat(first|(refine hS.aY ?_)|(refine PU.b2 rfl ?_)|(refine hS.qJ λHn hS=>?_))
   simp only[cB,dn];apply Ar (a:=rq) (b:=rs) (c:=rt) (hS.nq 0 1 rfl rfl aa) (hS.nq 0 2 rfl rfl aa) (hS.nq 1 2 rfl rfl aa) (by intros;rfl) (by kernel_rfl) (by kernel_rfl);refine rr ?_
   repeat(refine hS.eU ?_)
   exact⟨⟨_,cd,k+1+e,rfl,⟨_,0,0,_,_,rfl,_,_,_,rfl⟩,λh=>absurd h hz⟩,(hS0.over hS).ext⟩
  .obtain⟨xa,xn,xc,xcs,rfl,h5,h6,h7⟩:=id h4;rw[dI aa aa]
   repeat(first|(refine hS.aY ?_)|(refine PU.b2 rfl ?_)|(refine PU.b5 rfl ?_)|(refine hS.kJ λHn hS=>?_))
   refine rr ?_
   repeat(refine hS.eU ?_)
   refine⟨⟨_,0,0,rfl,⟨_,_,_,_,_,rfl,_,_,_,rfl⟩,λ_=>⟨4,k,p+1,_,_,rfl,aa,aa,aa,aM _,(h4.stay hS.ext λq hq=>.inl<|hlt q hq).le aa hge,?_⟩⟩,(hS0.over hS).ext⟩;have hcr:=hcr aa;exact .cl p _ h91 (hce p<|.fin p hpl aa) aa hcr.2
 .rw[dI aa aa];refine aF ?_;exact⟨m-1,aa,_,_,_,_,_,_,rfl,p+1,rfl,aa,aa,λe h=>hce e<|.go p e hpl aa aa h,hS⟩
theorem Zk(hw:Wf H)(hT:AP H)(s:ByteArray)(k:Nat)(hk:k<s.size)(hs:s.size<=20000):az Pg X 107 [.string s,vn k] H (Q1 (Eo H.next s k) H):=by
 have hS:=SH.refl hw;refine ce [0,1,4,5,6,7,8] ?_;refine tl ?_;refine hS.iI λHn rt hS=>?_;refine hS.iI λHn rs hS=>?_;rw[jL aa];refine aF ?_;refine az.mono (F8 _) ?_;rintro v H' ⟨⟨b,rfl,hlet⟩,rfl⟩;refine aF ?_;have hge:=hS.ext.next
 have hlt:=hS.lt;refine bO (λhb=>?_) λhb=>?_
 .refine az.mono (Vl hS.wf s k hk aa (by have:=hlet.1 hb;unfold Db;omega)) ?_;rintro v H3 ⟨⟨tok,cd,e,rfl,⟨kd,a,e',t,rsv,rfl,xa,xn,xc,rfl⟩,hto⟩,hx⟩;have hS0:=hS.call hx;have hS:=hS0.base
  repeat(first|(refine hS.aY ?_)|(refine hS.kJ λHn hS=>?_))
  refine rr ?_
  repeat(refine hS.eU ?_)
  exact⟨⟨_,cd,e,rfl,⟨_,_,_,_,_,rfl,_,_,_,rfl⟩,λh=>(hto h).st hS.ext (λq hq=>.inl<|hlt q hq) hge⟩,(hS0.over hS).ext⟩
 refine ah (λhc=>?_) λhc=>?_
 .refine az.mono (MB hS.wf (hT.ex hS.ext) s k hk aa aa) ?_;rintro v H3 ⟨⟨tok,cd,e,rfl,⟨kd,a,e',t,rsv,rfl,xa,xn,xc,rfl⟩,hto⟩,hx⟩;have hS0:=hS.call hx;have hS:=hS0.base
  repeat(first|(refine hS.aY ?_)|(refine hS.kJ λHn hS=>?_))
  refine rr ?_
  repeat(refine hS.eU ?_)
  exact⟨⟨_,cd,e,rfl,⟨_,_,_,_,_,rfl,_,_,_,rfl⟩,λh=>(hto h).st hS.ext (λq hq=>.inl<|hlt q hq) hge⟩,(hS0.over hS).ext⟩
 refine ah (λhc=>?_) λhc=>?_
 .refine az.mono (Rj hS.wf (hT.ex hS.ext) s k hk aa aa) ?_;rintro v H3 ⟨⟨tok,cd,e,rfl,⟨kd,a,e',t,rsv,rfl,xa,xn,xc,rfl⟩,hto⟩,hx⟩;have hS0:=hS.call hx;have hS:=hS0.base
  repeat(first|(refine hS.aY ?_)|(refine hS.kJ λHn hS=>?_))
  refine rr ?_
  repeat(refine hS.eU ?_)
  exact⟨⟨_,cd,e,rfl,⟨_,_,_,_,_,rfl,_,_,_,rfl⟩,λh=>(hto h).st hS.ext (λq hq=>.inl<|hlt q hq) hge⟩,(hS0.over hS).ext⟩
 rw[wP aa];refine aF ?_;have hp:=mq s (lo:=k) (hi:=s.size) aa aa;refine az.mono (AL _ _) ?_;rintro v H' ⟨⟨b,rfl,hb2⟩,rfl⟩;rw[Ze (by decide)]at hb2;refine aF ?_;refine bO (λhb=>?_) λhb=>?_
 .obtain⟨g1,g2,g3⟩:=hb2.1 hb;rw[dI aa aa]
  repeat(first|(refine hS.aY ?_)|(refine PU.b2 rfl ?_)|(refine PU.b5 rfl ?_)|(refine hS.kJ λHn hS=>?_))
  refine rr ?_
  repeat(refine hS.eU ?_)
  exact⟨⟨_,0,0,rfl,⟨_,_,_,_,_,rfl,_,_,_,rfl⟩,λ_=>⟨15,k,k+2,_,_,rfl,aa,aa,aa,aM _,eZ.nil _ _ _,.ar _ g2 g3 g1⟩⟩,hS.ext⟩
 refine az.mono (Fg _) ?_;rintro v H' ⟨⟨kd,b,rfl,hmk⟩,rfl⟩;refine hS.aY ?_;cases b with
 |false=>
  refine(show∀{A B:Prop},A->zk (some !false) A B fromλh=>h) ?_
  repeat(first|(refine hS.aY ?_)|(refine PU.b2 rfl ?_)|(refine PU.b5 rfl ?_)|(refine hS.kJ λHn hS=>?_))
  refine rr ?_
  repeat(refine hS.eU ?_)
  exact⟨⟨_,_,k,rfl,⟨_,0,0,_,_,rfl,_,_,_,rfl⟩,λh=>by cases h⟩,hS.ext⟩
 |true=>
  refine(show∀{A B:Prop},B->zk (some !true) A B fromλh=>h) ?_;rw[dI aa aa]
  repeat(first|(refine hS.aY ?_)|(refine PU.b2 rfl ?_)|(refine PU.b5 rfl ?_)|(refine hS.kJ λHn hS=>?_))
  refine rr ?_
  repeat(refine hS.eU ?_)
  refine⟨⟨_,0,0,rfl,⟨_,_,_,_,_,rfl,_,_,_,rfl⟩,λ_=>⟨kd,k,k+1,_,_,rfl,aa,aa,aa,aM _,eZ.nil _ _ _,?_⟩⟩,hS.ext⟩
  obtain⟨j,rfl,hj⟩:∃j:Nat,kd=j/\mk1 (at' (tx s) k)=some j:=by
   have hmk:=hmk rfl;generalize at' (tx s) k=c at hmk;rcases hmk with⟨h,rfl⟩|⟨h,rfl⟩|⟨h,rfl⟩|⟨h,rfl⟩|⟨h,rfl⟩|⟨h,rfl⟩|⟨h,rfl⟩|⟨h,rfl⟩|⟨h,rfl⟩|⟨h,rfl⟩<;>(have h:=bW Int.toNat h;simp at h;subst h;exact⟨_,rfl,rfl⟩)
  exact .mk j _ hj
def Tk(b:Nat)(H:ag)(l:List Value):Prop:=∃(kd:Int)(a e:Nat)(t:ByteArray)(rs:Value),l=[vi kd,vn a,vn e,.string t,rs]/\a<=20000/\t.size<=1000000/\eZ b 20000 H rs
theorem Tk.st{S:List Nat}(h:Tk b H l)(hx:qU S H H')(hS:∀q∈S,q<b\/¬wR H q 269)(hb:b'<=b):Tk b' H' l:=by
 obtain⟨kd,a,e,t,rs,h1,h2,h3,h4⟩:=h;exact⟨kd,a,e,t,rs,h1,h2,h3,(h4.stay hx hS).le (aj _) hb⟩
def O5(b:Nat)(H:ag)(a:Option Addr)(n:Nat)(cs:List Value):Prop:=jT (b<=·) 128 H a n 5 cs/\1<=n/\n<=20001/\(∀i,i<n->Tk b H (El cs 5 i))/\cs[(n-1)*5]?=some (vi 0)
theorem O5.st{S:List Nat}{n:Nat}(h:O5 b H a n cs)(hx:qU S H H')(hS:∀q∈S,q<b\/¬wR H q 269/\¬wR H q 128)(hb:b'<=b):O5 b' H' a n cs:=
 ⟨(h.1.stay hx λq hq=>(hS q hq).imp nA (·.2)).le hb,h.2.1,h.2.2.1,λi hi=>(h.2.2.2.1 i hi).st hx (λq hq=>(hS q hq).imp_right (·.1)) hb,h.2.2.2.2⟩
def BV(cs:List Value)(i:Nat):Int:=match(El cs 5 i)[0]? with|some (Value.int _ z)=>z|_=>0
def GG(cs:List Value)(i:Nat):ByteArray:=match(El cs 5 i)[3]? with|some (Value.string t)=>t|_=>⟨#[]⟩
theorem kZ{a b c:Value}(h:El cs 5 i=[vi kd,a,b,c,d]):BV cs i=kd:=by unfold BV;rw[h];rfl
theorem y_{a b c:Value}(h:El cs 5 i=[a,b,c,.string t,d]):GG cs i=t:=by unfold GG;rw[h];rfl
abbrev aep(s:ByteArray)(b:Nat)(v:Value)(H':ag):Prop:=∃(ts:Value)(cd e:Int),v=.tuple ⟨[ts,.agg ⟨[vi cd,vi e]⟩]⟩/\(ts=.slice none 0 0\/∃a n c,ts=.slice (some a) n c)/\(cd=0->∃a n c cs,ts=.slice a n c/\O5 b H' a n cs/\Lx s (BV cs) (GG cs) n 0 0)
theorem ze{xs:List Value}{n:Nat}(hl:cs.length=n*es)(hx:xs.length=es):(∀i,i<n->El (cs++xs) es i=El cs es i)/\El (cs++xs) es n=xs:=by
 constructor
 .intro i hi;have h1:(i+1)*es<=n*es:=b_ es hi;rw[dN]at h1;apply eP;intro j;rw[j4,j4];split
  .rw[aP aa]
  .rfl
 .unfold El;rw[<-hl,List.drop_left,fO aa]
def LxI(s:ByteArray)(cs:List Value)(n k:Nat):Prop:=∀K T N,(∀i,i<n->K i=BV cs i/\(K i=1\/K i=2->T i=GG cs i))->∃p,Bl (tx s) p k/\(Lx s K T N n p->Lx s K T N 0 0)
theorem O6(hw:Wf H)(hT:AP H)(s:ByteArray):az Pg X 70 [.string s] H (Q1 (aep s H.next) H):=by
 have hS:=SH.refl hw;refine ce [0,2,3,4,5,6,7] ?_;refine tl ?_;refine hS.iI λHn rs hS=>?_;refine aF ?_;refine ah (λhc=>?_) λhc=>?_
 .refine PU.b2 rfl ?_;refine hS.aY ?_;refine hS.kJ λHn hS=>?_;refine rr ?_;refine hS.eU ?_;exact⟨⟨_,3,0,rfl,.inl rfl,λh=>by cases h⟩,hS.ext⟩
 have hs:s.size<=20000:=by omega
 refine az.mono (ym s 0 aa aa) ?_;rintro v H' ⟨⟨k,rfl,hk0,hk1,hbl⟩,rfl⟩;refine V' 2 4 5 6 7 (I:=λm x2 x4 x5 x6 x7 H'=>∃(k n:Nat)(cs:List Value)(gb:List cz),x2=.slice none 0 0/\x5=vn k/\k+m=s.size/\GB 128 5 x4 cs gb/\cs.length=n*5/\n<=k/\LxI s cs n k/\(∀i,i<n->Tk H.next H' (El cs 5 i))/\SH [] H H' ((rs,72,[vi 0,vi 0])::(gb++[]))) ?_ (s.size-k) ⟨k,0,[],[],rfl,rfl,aa,GB.nil _ _,rfl,aa,(λK T N _=>⟨0,hbl,id⟩),(λi h=>absurd h aa),hS⟩;clear hS;rintro m x2 x4 x5 x6 x7 rg H' ⟨k,n,cs,gb,rfl,rfl,hk,hg,hcl,hnk,hlx,htk,hS⟩;refine tl ?_;refine aF ?_;have hge:=hS.ext.next
 refine ah (λhc=>?_) λhc=>?_;rotate_left
 .refine tl ?_;refine aF ?_;refine PU.b5 rfl ?_;have htn:=hS.Gt (ty:=269) (by simp[hg.all]);have hS0:=hS;have hS:=hS0.base;refine hS.bS rfl rfl rfl aa λH1 rx hS=>?_;have hS:SH _ H' H1 ((rx,128,[vi 0,vn s.size,vn s.size,.string<|ByteArray.mk #[],.slice none 0 0])::(gb++[(rs,72,[vi 0,vi 0])])):=hS.perm<|List.Perm.cons _<|KI _ _;refine hg.add hS aa rfl rfl aa λv' H3 gY hg' hS' hx=>?_;have hE:=ze (es:=5) (n:=n) hcl (xs:=[vi 0,vn s.size,vn s.size,.string<|ByteArray.mk #[],.slice none 0 0]) rfl;have hS:=hS'.perm<|au (l₂:=[_]);simp only[a_,bB]at hS;refine hS.aY ?_;refine PU.b2 rfl ?_;refine hS.kJ λHn hS=>?_;have hS2:=(hS0.over hS).perm<|List.Perm.symm<|au (l₂:=[_]);obtain⟨a,n',c,rfl,hn',hf⟩:=hg'.PT hS2;have hn1:n'=n+1:=by rw[ay,hcl]at hn';simp at hn';omega
  subst hn1;refine rr ?_;refine hS.eU ?_;refine⟨⟨_,0,0,rfl,?_,λ_=>⟨a,n+1,c,_,rfl,⟨hf,aa,aa,?_,?_⟩,?_⟩⟩,hS2.ext⟩
  .cases a with
   |none=>
    obtain⟨_,_,h,_⟩:=hf.1.2 0 _<|ae (by rw[hf.1.1];omega);cases h
   |some a=>exact .inr ⟨a,_,_,rfl⟩
  .intro i hi;rcases aN i n with h|h
   .rw[hE.1 i h];exact(htk i h).st hS.ext (λq hq=>.inr<|htn q hq)<|aj _
   .have:i=n:=by omega
    subst this;rw[hE.2];exact⟨0,s.size,s.size,_,_,rfl,hs,aM _,eZ.nil _ _ _⟩
  .rw[Nat.add_sub_cancel,<-hcl,bf<|aj _,dY];rfl
  .have eK:∀i,i<n->BV (cs++[vi 0,vn s.size,vn s.size,.string<|ByteArray.mk #[],.slice none 0 0]) i=BV cs i/\GG (cs++[vi 0,vn s.size,vn s.size,.string<|ByteArray.mk #[],.slice none 0 0]) i=GG cs i:=λi hi=>by unfold BV GG;rw[hE.1 i hi];exact⟨rfl,rfl⟩
   obtain⟨p,h1,h2⟩:=hlx _ (GG _) (n+1) λi hi=>⟨(eK i hi).1,λ_=>(eK i hi).2⟩;obtain rfl:k=s.size:=by omega
   exact h2<|.fin n p h1 rfl<|kZ hE.2
 refine az.mono (Zk hS.wf (hT.ex hS.ext) s k aa hs) ?_;rintro v H3 ⟨⟨tok,cd,e,rfl,⟨kd,a,e',t,rsv,rfl,xa,xn,xc,rfl⟩,hto⟩,hx⟩;have htn:=hS.Gt (ty:=269) (by simp[hg.all]);have hlt:=hS.lt;have hS0:=hS.call hx;have hS:=hS0.base;refine hS.aY ?_;refine hS.iI λHn r8 hS=>?_;refine hS.iI λHn r10 hS=>?_
 repeat(first|(refine hS.aY ?_)|(refine hS.dQ ?_)|(refine hS.kJ λHn hS=>?_))
 refine bq (λhz=>?_) λhz=>?_
 .refine hS.nN ?_;refine hS.aY ?_;refine hS.qJ λHn hS=>?_;simp only[cB,dn];apply q_ (a:=r10) (b:=rs) (hS.nq 0 2 rfl rfl aa) (by intros;rfl) (by kernel_rfl) (by kernel_rfl);refine rr ?_;refine hS.eU ?_;exact⟨⟨_,cd,e,rfl,.inl rfl,λh=>absurd h hz⟩,(hS0.over hS).ext⟩
 obtain⟨kd',a',e2,t',rs',he,h3,h4,h5,h6,h7,hone⟩:=hto hz;simp only[Value.agg.injEq,Array.mk.injEq,List.cons.injEq,pg]at he;obtain⟨e_1,e_2,e_3,e_4,e_5⟩:=he;have:kd=kd':=by injection e_1
 subst this;have:e'=e2:=by injection e_3 with _ h;omega
 subst this;have:a=a':=by injection e_2 with _ h;omega
 subst this;have:t=t':=by injection e_4
 subst this;subst e_5;refine hS.eU ?_;refine hS.bS rfl rfl rfl aa λH4 rx hS=>?_;have hS:=hS.to (cs':=[vi kd,vn a,vn e',.string t,.slice xa xn xc]) rfl;have hS:=hS.perm (L':=(rx,128,[vi kd,vn a,vn e',.string t,.slice xa xn xc])::(gb++[_,_,_]))<|List.Perm.cons _<|afC _ _ _ _;refine hg.add hS aa rfl rfl aa λv' H5 gY hg' hS' hx'=>?_;have hE:=ze (es:=5) (n:=n) hcl (xs:=[vi kd,vn a,vn e',.string t,.slice xa xn xc]) rfl;have hS:=hS'.perm<|au (l₂:=[_,_,_]);simp only[a_,bB]at hS;refine hS.dQ ?_;refine az.mono (ym s e' aa aa) ?_;rintro v H' ⟨⟨k2,rfl,hk2,hk3,ah1⟩,rfl⟩;have hS2:=(hS0.over hS);refine⟨s.size-k2,aa,_,_,_,_,_,_,_,rfl,k2,n+1,_,gY,rfl,rfl,aa,hg',by rw[ay,hcl];simp;omega,aa,?_,?_,?_⟩
 .intro K T N hKT;have eK:∀i,i<n->BV (cs++[vi kd,vn a,vn e',.string t,.slice xa xn xc]) i=BV cs i/\GG (cs++[vi kd,vn a,vn e',.string t,.slice xa xn xc]) i=GG cs i:=λi hi=>by unfold BV GG;rw[hE.1 i hi];exact⟨rfl,rfl⟩
  obtain⟨p,h1,h2⟩:=hlx K T N λi hi=>by
   have:=hKT i aa;rw[(eK i hi).1,(eK i hi).2]at this;exact this
  obtain⟨g1,g2⟩:=hKT n aa;rw[kZ hE.2]at g1;rw[y_ hE.2]at g2;exact⟨e',ah1,λh=>h2<|.go n p k e' t h1 aa (g1▸hone) g2 h⟩
 .intro i hi;rcases aN i n with h|h
  .rw[hE.1 i h];exact((htk i h).st hx (λq h=>nomatch h)<|aj _).st hS.ext (λq hq=>.inr λht=>htn q hq<|ht.mR (hx.obj q (hlt q hq)<|by simp).symm)<|aj _
  .have:i=n:=by omega
   subst this;rw[hE.2];exact⟨kd,a,e',t,_,rfl,aa,h6,(h7.stay hS.ext λq hq=>.inl<|hlt q hq).le (aj _) hge⟩
 .exact SH.drop (A:=[_,_]) (by simpa using hS2)
section
open Go.Ae
abbrev Ed:=Nat×Nat×Nat
structure At where
 nm:List ByteArray
 st:List Nat
 sp:List Nat
 ow:List Nat
 eg:List (List Ed)
 ty:Nat
namespace At
variable{i k s:Nat}{A:At}{e:Ed}
def nr(A:At):Nat:=A.nm.length
def ns(A:At):Nat:=A.ow.length
def S(A:At)(r:Nat):Nat:=A.st[r]?.getD 0
def P(A:At)(r:Nat):Nat:=A.sp[r]?.getD 0
def O(A:At)(s:Nat):Nat:=A.ow[s]?.getD 0
def E(A:At)(s:Nat):List Ed:=A.eg[s]?.getD []
def agD(A:At)(e:Ed):Prop:=e.1=0\/(e.1=1/\e.2.1<A.ty)\/(e.1=2/\e.2.1<A.nr)
structure Ok(A:At):Prop where
 pos:0<A.nr
 V_:A.st.length=A.nr
 Zl:A.sp.length=A.nr
 BJ:A.eg.length=A.ns
 big:A.ns<=4000
 few:A.nr<=1000
 s:∀r,r<A.nr->A.S r<A.ns/\A.O (A.S r)=r
 p:∀r,r<A.nr->A.P r<A.ns/\A.O (A.P r)=r
 o:∀s,s<A.ns->A.O s<A.nr
 e:∀s,s<A.ns->∀e∈A.E s,e.2.2<A.ns/\A.O e.2.2=A.O s/\A.agD e
 tot:(A.eg.map List.length).sum<=100000
theorem O7(h:A.eg.length=A.ns)(hs:¬s<A.ns):A.E s=[]:=by
 unfold E;rw[dS aa];rfl
inductive Mk(A:At)(tok:Bool):Nat->Prop
 |stop (r:Nat):r<A.nr->Mk A tok (A.P r)
 |edge (s:Nat) (e:Ed):e∈A.E s->(e.1=1->tok=true)->(e.1=2->Mk A tok (A.S e.2.1))->Mk A tok e.2.2->Mk A tok s
inductive Rc(A:At)(f:Nat->Prop)(w:Ed->Prop):Nat->Prop
 |base (s:Nat):f s->Rc A f w s
 |step (s:Nat) (e:Ed):Rc A f w s->e∈A.E s->w e->Rc A f w e.2.2
def isS(A:At)(s:Nat):Prop:=∃r,r<A.nr/\s=A.S r
open Classical in
def pre(A:At)(i:Nat):Nat:=((A.eg.take i).map List.length).sum
theorem Rk(h:A.Ok)(i:Nat):A.pre i<=100000:=by
 have:(A.eg.map List.length).sum=A.pre i+((A.eg.drop i).map List.length).sum:=by
  unfold pre;rw[<-lC,<-dw,fV]
 have:=h.tot;omega
theorem O8(h:A.Ok)(hi:i<A.ns):A.pre (i+1)=A.pre i+(A.E i).length:=by
 unfold pre E;have:i<A.eg.length:=by rw[h.BJ];exact hi
 rw[ji,ae this];simp only[dw,lC,jR,oG,tZ,List.sum_nil,Option.toList,kM];omega
theorem Ok.len(h:A.Ok)(s:Nat):(A.E s).length<=100000:=by
 by_cases hs:s<A.ns
 .have:=O8 h hs;have:=Rk h<|s+1;omega
 .rw[O7 h.BJ hs];simp
theorem Mk.mono{tok:Bool}(h:A.Mk tok s):A.Mk true s:=by
 induction h with
 |stop r hr=>exact .stop r hr
 |edge s e he _ _ _ ih1 ih2=>exact .edge s e he (λ_=>rfl) ih1 ih2
theorem Ok.call(h:A.Ok)(he:e∈A.E s)(hk:e.1=2):e.2.1<A.nr:=by
 have hs:s<A.ns:=by
  apply oF;intro hs;rw[O7 h.BJ hs]at he;cases he
 obtain⟨_,_,h3⟩:=h.e s hs e he;rcases h3 with h3|h3|h3<;>omega
theorem Ok.lt(h:A.Ok)(he:e∈A.E s):s<A.ns:=by
 apply oF;intro hs;rw[O7 h.BJ hs]at he;cases he
theorem Rc.own(h:A.Ok){f:Nat->Prop}{w:Ed->Prop}(hf:∀s,f s->s<A.ns/\A.O s=k)(hs:A.Rc f w s):s<A.ns/\A.O s=k:=by
 induction hs with
 |base s hs=>exact hf s hs
 |step s e _ he _ ih=>
  obtain⟨h1,h2,_⟩:=h.e s ih.1 e he;exact⟨h1,h2.trans ih.2⟩
theorem Mk.own(h:A.Ok){tok:Bool}(hm:A.Mk tok s):s<A.ns:=by
 cases hm with
 |stop r hr=>exact(h.p r hr).1
 |edge _ e he _ _ _=>exact h.lt he
end At
end
section
abbrev PN:=Int×List Nat×ByteArray
abbrev PR:=ByteArray×Bool×Nat
inductive Op
 |at(d:Nat)
 |el(d:Nat)
 |ro(d:Nat)(ks:List Nat)
 |ch(d:Nat)(ks:List Nat)
abbrev e0:ByteArray:=⟨#[]⟩
def JE(k:Int):Prop:=k=1\/k=2\/k=3\/k=4\/k=13\/k=14\/k=8
section
variable(K:Nat->Int)(T:Nat->ByteArray)
inductive Ps:Op->Nat->List PN->Nat->List PN->Nat->Prop
 |nm (d p N):K p=1\/K p=2->N.length<4000->Ps (.at d) p N (p+1) (N++[(5,[],T p)]) N.length
 |lf (d p N c):(c=6/\K p=3)\/(c=7/\(K p=4\/K p=13))->N.length<4000->Ps (.at d) p N (p+1) (N++[(c,[],e0)]) N.length
 |no (d p N):K p=14->K (p+1)=4->N.length<4000->Ps (.at d) p N (p+2) (N++[(7,[],e0)]) N.length
 |br (d p N p' N' k):K p=8->d<40->Ps (.ch (d+1) []) (p+1) N p' N' k->K p'=9->Ps (.at d) p N (p'+1) N' k
 |el0 (d p N p' N' k):Ps (.at d) p N p' N' k->¬(10<=K p'/\K p'<=12)->Ps (.el d) p N p' N' k
 |el1 (d p N p' N' k):Ps (.at d) p N p' N' k->10<=K p'/\K p'<=12->N'.length<4000->Ps (.el d) p N (p'+1) (N'++[(K p'-8,[k],e0)]) N'.length
 |ro0 (d p N ks):¬JE (K p)->N.length<4000->Ps (.ro d ks) p N p (N++[(1,ks,e0)]) N.length
 |ro1 (d p N p1 N1 c p' N' k ks):JE (K p)->Ps (.el d) p N p1 N1 c->Ps (.ro d<|ks++[c]) p1 N1 p' N' k->Ps (.ro d ks) p N p' N' k
 |ch1 (d p N p1 N1 c p' N' k ks):Ps (.ro d []) p N p1 N1 c->K p1=6->Ps (.ch d<|ks++[c]) (p1+1) N1 p' N' k->Ps (.ch d ks) p N p' N' k
 |ch0 (d p N p1 N1 c):Ps (.ro d []) p N p1 N1 c->K p1≠6->Ps (.ch d []) p N p1 N1 c
 |chA (d p N p1 N1 c ks):Ps (.ro d []) p N p1 N1 c->K p1≠6->ks≠[]->N1.length<4000->Ps (.ch d ks) p N p1 (N1++[(0,ks++[c],e0)]) N1.length
def RuP(p:Nat)(N:List PN)(R:List PR)(p':Nat)(N':List PN)(R':List PR):Prop:=
 ∃(f:Bool)(q p1 p2 k:Nat),(f=true<->K p=2/\T p=⟨#[102,114,97,103,109,101,110,116]⟩/\(K (p+1)=1\/K (p+1)=2))/\q=(if f=true then p+1 else p)/\(K q=1\/K q=2)/\R.length<120/\¬(f=true/\K q=2)/\K (q+1)=5/\Ps K T (.ch 0 []) (q+2) N p1 N' k/\
  (K p1≠15/\p2=p1\/K p1=15/\p2=p1+2/\K q=1/\(K (p1+1)=1\/K (p1+1)=2)/\(T (p1+1)=⟨#[115,107,105,112]⟩\/T (p1+1)=⟨#[104,105,100,100,101,110]⟩\/T (p1+1)=⟨#[119,111,114,100]⟩))/\K p2=7/\p'=p2+1/\R'=R++[(T q,decide<|K q=1,k)]
inductive O9:Nat->List PN->List PR->List PN->List PR->Prop
 |one (p N R p' N' R'):RuP K T p N R p' N' R'->K p'=0->O9 p N R N' R'
 |more (p N R p' N1 R1 N' R'):RuP K T p N R p' N1 R1->K p'≠0->O9 p' N1 R1 N' R'->O9 p N R N' R'
end
variable{K:Nat->Int}{T:Nat->ByteArray}
theorem Ps.adv{o:Op}{p p':Nat}{N N':List PN}(h:Ps K T o p N p' N' k):p<=p'/\(match o with|.at _=>p<p'|.el _=>p<p'|_=>True)/\N.length<=N'.length/\k<N'.length:=by
 induction h with
 |nm|lf|no|ro0=>simp
 |br d p N p' N' k _ _ _ _ ih=>exact⟨aa,by show p<p'+1;omega,ih.2.2⟩
 |el0 d p N p' N' k _ _ ih=>exact ih
 |el1 d p N p' N' k _ _ _ ih=>have:=ih.1;exact⟨aa,by show p<p'+1;omega,by simp;omega,by simp⟩
 |ro1 d p N p1 N1 c p' N' k ks _ _ _ i1 i2=>have:=i1.1;have:=i2.1;exact⟨aa,trivial,aa,i2.2.2.2⟩
 |ch1 d p N p1 N1 c p' N' k ks _ _ _ i1 i2=>have:=i1.1;have:=i2.1;exact⟨aa,trivial,aa,i2.2.2.2⟩
 |ch0 d p N p1 N1 c _ _ ih=>exact⟨ih.1,trivial,ih.2.2⟩
 |chA d p N p1 N1 c ks _ _ _ _ ih=>exact⟨ih.1,trivial,by have:=ih.2.2.1;simp;omega,by simp⟩
end
variable{x:PN}{N:List PN}{o:Op}
section
open Go.Ae Go.Ae.M
variable{S:List Nat}{F:Nat->Prop}
abbrev pr(r:Nat):Value:=.pointer<|some ⟨r,0,none⟩
structure RC where
 (rt ra rp rr:Nat)(a:Option Addr)(n c:Nat)(cs:List Value)(nd:List PN)(rl:List PR)
abbrev RC.nu(q:RC):Nat:=q.rl.length
abbrev RC.K(q:RC):Nat->Int:=BV q.cs
abbrev RC.T(q:RC):Nat->ByteArray:=GG q.cs
abbrev lT(rt ra:Nat):Value:=.func (.func 71) ⟨[]⟩ ⟨[pr rt,pr ra]⟩
abbrev vL(rp ra rt:Nat):Value:=.func (.func 72) ⟨[]⟩ ⟨[pr rp,pr ra,pr rt]⟩
def RuC(l:List Value):Prop:=∃(nm:ByteArray)(u f w:Bool)(ch root at':Int),l=[.string nm,.bool u,.bool f,.bool w,vi ch,vi root,vi at']/\nm.size<=1000000
def RuX(l:List Value)(y:PR):Prop:=∃(f w:Bool)(ch at':Int),l=[.string y.1,.bool y.2.1,.bool f,.bool w,vi ch,vn y.2.2,vi at']/\y.1.size<=1000000
theorem RuX.c{y:PR}(h:RuX l y):RuC l:=let⟨f,w,ch,at',h1,h2⟩:=h;⟨_,_,f,w,ch,_,at',h1,h2⟩
def NoC(F:Nat->Prop)(H:ag)(l:List Value):Prop:=∃(kd:Int)(a:Option Addr)(n c:Nat)(ks:List Value)(t:ByteArray)(rs:Value)(at':Int),l=[vi kd,.slice a n c,.string t,rs,vi at']/\jT F 3 H a n 1 ks/\n<=20001/\(∀x∈ks,∃z:Int,x=vi z)/\t.size<=1000000/\eZ 0 20001 H rs
theorem NoC.st(h:NoC F H l)(hx:qU S H H')(hS:∀q∈S,(¬F q\/¬wR H q 3)/\¬wR H q 269):NoC F H' l:=by
 obtain⟨kd,a,n,c,ks,t,rs,at',h1,h2,h3,h4,h5,h6⟩:=h;exact⟨kd,a,n,c,ks,t,rs,at',h1,h2.stay hx λq hq=>(hS q hq).1,h3,h4,h5,h6.stay hx λq hq=>.inr (hS q hq).2⟩
def TW(F:Nat->Prop)(H:ag)(l:List Value)(x:PN):Prop:=∃(a:Option Addr)(c:Nat)(t:ByteArray)(rs:Value)(at':Int),l=[vi x.1,.slice a x.2.1.length c,.string t,rs,vi at']/\jT F 3 H a x.2.1.length 1 (fG x.2.1)/\x.2.1.length<=20001/\(x.1=5->t=x.2.2)/\t.size<=1000000/\eZ 0 20001 H rs
theorem TW.c(h:TW F H l x):NoC F H l:=by
 obtain⟨a,c,t,rs,at',h1,h2,h3,h4,h5,h6⟩:=h
 exact⟨_,a,_,c,_,t,rs,at',h1,h2,h3,λy hy=>by
  obtain⟨z,_,rfl⟩:=aZ.1 hy;exact⟨z,rfl⟩,h5,h6⟩
theorem TW.st(h:TW F H l x)(hx:qU S H H')(hS:∀q∈S,(¬F q\/¬wR H q 3)/\¬wR H q 269):TW F H' l x:=by
 obtain⟨a,c,t,rs,at',h1,h2,h3,h4,h5,h6⟩:=h;exact⟨a,c,t,rs,at',h1,h2.stay hx λq hq=>(hS q hq).1,h3,h4,h5,h6.stay hx λq hq=>.inr (hS q hq).2⟩
def Rd(F:Nat->Prop)(q:RC)(k:Nat)(H:ag)(M:List cz):Prop:=∃rv rcs gr nv eG gn sc sa nr nn,
 M=(q.rt,122,[.slice q.a q.n q.c])::(q.ra,3,[vn k])::(q.rp,129,[lT q.rt q.ra])::(q.rr,133,[lT q.rt q.ra,vL q.rp q.ra q.rt,rv,nv,vi sc,vi sa])::(gr++gn)/\
 k<q.n/\O5 0 H q.a q.n q.cs/\GB 141 7 rv rcs gr/\rcs.length=nr*7/\nr=q.nu/\(∀i y,q.rl[i]?=some y->RuX (El rcs 7 i) y)/\GB 145 5 nv eG gn/\eG.length=nn*5/\(nn<=4000/\nn=q.nd.length)/\(∀i x,q.nd[i]?=some x->TW F H (El eG 5 i) x)/\¬F q.ra
theorem Rd.le{q:RC}(h:Rd F q k H M):k<q.n/\q.n<=20001:=by
 obtain⟨rv,rcs,gr,nv,eG,gn,sc,sa,nr,nn,_,h1,h2,_⟩:=h;exact⟨h1,h2.2.2.1⟩
theorem TW.wk(h:TW F H l x)(hF:∀r,r<H.next->F r->F' r):TW F' H l x:=by
 obtain⟨a,c,t,rs,at',h1,h2,h3⟩:=h;exact⟨a,c,t,rs,at',h1,⟨h2.1,λr o e hn=>by obtain⟨g1,g2,g3⟩:=h2.2 r o e hn;exact⟨hF r g2 g1,g2,g3⟩⟩,h3⟩
theorem Rd.wk{q:RC}(h:Rd F q k H M)(hF:∀r,r<H.next->F r->F' r)(ha:¬F' q.ra):Rd F' q k H M:=by
 obtain⟨rv,rcs,gr,nv,eG,gn,sc,sa,nr,nn,h0,h1,h2,h3,h4,h5,h6,h7,h8,h9,h10,zL⟩:=h;exact⟨rv,rcs,gr,nv,eG,gn,sc,sa,nr,nn,h0,h1,h2,h3,h4,h5,h6,h7,h8,h9,λi x hi=>(h10 i x hi).wk hF,ha⟩
theorem Rd.ex{q:RC}(h:Rd F q k H M)(hx:Ext H H'):Rd F q k H' M:=by
 obtain⟨rv,rcs,gr,nv,eG,gn,sc,sa,nr,nn,h0,h1,h2,h3,h4,h5,h6,h7,h8,h9,h10,zL⟩:=h;exact⟨rv,rcs,gr,nv,eG,gn,sc,sa,nr,nn,h0,h1,h2.st hx (λ_ h=>nomatch h)<|aj _,h3,h4,h5,h6,h7,h8,h9,λi x hi=>(h10 i x hi).st hx (λ_ h=>nomatch h),zL⟩
theorem Rd.ty{q:RC}(h:Rd F q k H M)(hS:SH S H0 H<|M++L):∀r∈M.map (·.1),(r=q.ra\/¬wR H r 3)/\¬wR H r 269/\¬wR H r 128:=by
 obtain⟨rv,rcs,gr,nv,eG,gn,sc,sa,nr,nn,rfl,h1,h2,h3,h4,h5,h6,h7,h8,h9,h10,zL⟩:=h;intro r hr;obtain⟨e,he,rfl⟩:=aZ.1 hr;have hb:=(hS.bk e<|bI _ he).Tn
 have key:e.1=q.ra\/(e.2.1≠3/\e.2.1≠269/\e.2.1≠128)\/e.2.1=3/\e.1=q.ra:=by
  simp only[bP,bX]at he;rcases he with rfl|rfl|rfl|rfl|he|he
  .exact .inr<|.inl ⟨(show(122:Nat)≠3 by decide),(show(122:Nat)≠269 by decide),(show(122:Nat)≠128 by decide)⟩
  .exact .inl rfl
  .exact .inr<|.inl ⟨(show(129:Nat)≠3 by decide),(show(129:Nat)≠269 by decide),(show(129:Nat)≠128 by decide)⟩
  .exact .inr<|.inl ⟨(show(133:Nat)≠3 by decide),(show(133:Nat)≠269 by decide),(show(133:Nat)≠128 by decide)⟩
  .refine .inr (.inl ?_);rcases h3 with⟨_,_,rfl⟩|⟨_,_,_,_,_,rfl⟩
   .cases he
   .rw[aO]at he;subst he;exact⟨(show(141:Nat)≠3 by decide),(show(141:Nat)≠269 by decide),(show(141:Nat)≠128 by decide)⟩
  .refine .inr (.inl ?_);rcases h7 with⟨_,_,rfl⟩|⟨_,_,_,_,_,rfl⟩
   .cases he
   .rw[aO]at he;subst he;exact⟨(show(145:Nat)≠3 by decide),(show(145:Nat)≠269 by decide),(show(145:Nat)≠128 by decide)⟩
 have ra3:e.1=q.ra->e.2.1=3:=by
  intro e1;have hra:wR H q.ra 3:=(hS.bk (q.ra,3,[vn k])<|bI _<|by simp).Tn;rw[e1]at hb;exact hb.one hra
 have far:e.1=q.ra->¬wR H e.1 269/\¬wR H e.1 128:=λh=>by
  rw[ra3 h]at hb;exact⟨λht=>(by have:=hb.one ht;cases this),λht=>(by have:=hb.one ht;cases this)⟩
 rcases key with h|⟨h,h',h''⟩|⟨_,h⟩
 .exact⟨.inl h,far h⟩
 .exact⟨.inr λht=>h<|hb.one ht,λht=>h'<|hb.one ht,λht=>h''<|hb.one ht⟩
 .exact⟨.inl h,far h⟩
theorem Rd.on{q:RC}(h:Rd F q k H M)(hS:SH S H0 H<|M++L)(hx:qU (M.map (·.1)) H H'):Rd F q k H' M:=by
 have hty:=h.ty hS;obtain⟨rv,rcs,gr,nv,eG,gn,sc,sa,nr,nn,h0,h1,h2,h3,h4,h5,h6,h7,h8,h9,h10,zL⟩:=h;exact⟨rv,rcs,gr,nv,eG,gn,sc,sa,nr,nn,h0,h1,h2.st hx (λr hr=>.inr (hty r hr).2)<|aj _,h3,h4,h5,h6,h7,h8,h9,λi x hi=>(h10 i x hi).st hx λr hr=>⟨(hty r hr).1.imp_left (λe=>by rw[e];exact zL),(hty r hr).2.1⟩,zL⟩
theorem O5.get{n:Nat}(h:O5 b H a n cs)(hi:i<n):∃(kd:Int)(at' e:Nat)(t:ByteArray)(xa:Option Addr)(xn xc:Nat),El cs 5 i=[vi kd,vn at',vn e,.string t,.slice xa xn xc]/\at'<=20000/\t.size<=1000000/\eZ b 20000 H (.slice xa xn xc)/\(i=n-1->kd=0):=by
 obtain⟨kd,at',e,t,rs,h1,h2,h3,h4⟩:=h.2.2.2.1 i hi;obtain⟨xa,xn,xc,xcs,rfl,h5⟩:=id h4;refine⟨kd,at',e,t,xa,xn,xc,h1,h2,h3,h4,λe'=>?_⟩;subst e';have h6:=h.2.2.2.2;have h7:=j4 cs 5 (n-1) 0;rw[if_pos aa,h1,bn,h6]at h7;simpa using bN h7
theorem Zm{q:RC}(hR:Rd F q k H M)(hS:SH S H0 H<|M++L)(j:Nat)(hj:j<=1000):az Pg X 71 [vn j,pr q.rt,pr q.ra] H (Q1 (λv _=>v=.agg ⟨El q.cs 5<|min (k+j)<|q.n-1⟩) H):=by
 have hkn:=hR.le;obtain⟨rv,rcs,gr,nv,eG,gn,sc,sa,nr,nn,rfl,h1,h2,_⟩:=hR;have bt:=hS.get 0 rfl;have ba:=hS.get 1 rfl;have lt:=(hS.lo _<|aA (i:=0) rfl).2;have la:=(hS.lo _<|aA (i:=1) rfl).2;have hS:=SH.refl hS.wf;refine ce [0,1,2,4] ?_;refine tl ?_;refine hS.iI λHn rb hS=>?_;refine hS.E8 (bt.cell (o:=0) rfl) lt ?_;refine hS.E8 (ba.cell (o:=0) rfl) la ?_;refine bE ?_;refine hS.E8 (bt.cell (o:=0) rfl) lt ?_;refine aF ?_;refine dD ?_;refine aF ?_;rw[show min ((k:Int)+(j:Int)) ((q.n:Int)-1)=((min (k+j) (q.n-1):Nat):Int) by omega];obtain⟨r,o,e,hr,hrd,hel,o0,_⟩:=h2.1.1.read aa (show min (k+j) (q.n-1)<q.n by omega) q.c;rw[e];refine aF ?_;obtain⟨kd,at',e',t,xa,xn,xc,he,_⟩:=h2.get (i:=min (k+j)<|q.n-1) aa;rw[he]at hrd;rw[he];refine hS.xZ hrd hr ?_;refine hS.kJ λHn hS=>?_;refine rr ?_;refine hS.eU ?_;exact⟨rfl,hS.ext⟩
theorem Rd.MN{q:RC}(hR:Rd F q k H M)(hS:SH S H0 H<|M++L)(j:Nat)(hj:j<=1000){K:Value->Value->ag->Prop}(h:∀H',Rd F q k H' M->SH S H0 H' (M++L)->Ext H H'->K (lT q.rt q.ra) (.agg ⟨El q.cs 5<|min (k+j)<|q.n-1⟩) H'):ME (rQ none (.pointer<|some ⟨q.rr,0,none⟩) H) λv H1=>lK Pg X (KA v) [vn j] H1 (K v):=by
 have hR0:=hR;obtain⟨rv,rcs,gr,nv,eG,gn,sc,sa,nr,nn,rfl,_⟩:=hR;refine hS.ld 3 rfl rfl ?_;show az Pg X 71 [vn j,pr q.rt,pr q.ra] H<|K _;refine az.mono (Zm hR0 hS j hj) ?_;rintro v H' ⟨rfl,hx⟩;exact h H' (hR0.ex hx) (hS.call hx) hx
theorem agE{q:RC}(hR:Rd F q k H M)(hS:SH S H0 H<|M++L):az Pg X 72 [pr q.rp,pr q.ra,pr q.rt] H λv H'=>v=.agg ⟨El q.cs 5 k⟩/\∃M',Rd F q (min (k+1)<|q.n-1) H' M'/\SH (M.map (·.1)) H H' M':=by
 have hkn:=hR.le;have hR0:=hR;have hS0:=hS;have hS:=hS.own;obtain⟨rv,rcs,gr,nv,eG,gn,sc,sa,nr,nn,rfl,h1,h2,h3,h4,h5,h6,h7,h8,h9,h10,zL⟩:=hR;obtain⟨kd,at',e',t,xa,xn,xc,he,_⟩:=h2.get (i:=k) h1;refine ce [0,1,2,3,4] ?_;refine tl ?_;refine hS.iI λH1 rb hS=>?_;refine hS.dQ ?_;show az Pg X 71 [vn 0,pr q.rt,pr q.ra] H1 _;have hS':=hS.perm<|au (l₁:=[_]);refine az.mono (Zm (hR0.on hS0 hS.ext) hS' 0 aa) ?_;rintro v H2 ⟨rfl,hx⟩;rw[show min (k+0) (q.n-1)=k by omega,he];have hS:=hS.call hx;refine hS.iI λH1 r8 hS=>?_;refine hS.kJ λHn hS=>?_;refine hS.dQ ?_;rw[dI aa aa]
 repeat(first|(refine hS.aY ?_)|(refine hS.dQ ?_))
 rw[nM aa aa]
 repeat(first|(refine hS.aY ?_)|(refine hS.eU ?_)|(refine hS.kJ λHn hS=>?_))
 rw[show min ((k:Int)+1) ((q.n:Int)-1)=((min (k+1) (q.n-1):Nat):Int) by omega]at hS;refine rr ?_;refine hS.aY ?_;refine hS.eU ?_;refine⟨rfl,(q.rt,122,[.slice q.a q.n q.c])::(q.ra,3,[vn (min (k+1)<|q.n-1)])::(q.rp,129,[lT q.rt q.ra])::(q.rr,133,[lT q.rt q.ra,vL q.rp q.ra q.rt,rv,nv,vi sc,vi sa])::(gr++gn),?_,SH.drop (A:=[_,_]) hS⟩;have xu:=hR0.on hS0 hS.ext;obtain⟨rv',agF,gr',nv',agG,gn',sc',sa',nr',nn',e0,g1,g2,_⟩:=xu;refine⟨rv,rcs,gr,nv,eG,gn,sc,sa,nr,nn,rfl,aa,g2,h3,h4,h5,h6,h7,h8,h9,λi x hi=>(h10 i x hi).st hS.ext λr hr=>?_,zL⟩;have:=hR0.ty hS0 r hr;exact⟨this.1.imp_left (λe=>by rw[e];exact zL),this.2.1⟩
theorem Rd.next{q:RC}(hR:Rd F q k H M)(hS:SH S H0 H<|M++L){K:Value->Value->ag->Prop}(h:∀H' M',Rd F q (min (k+1)<|q.n-1) H' M'->SH S H0 H' (M'++L)->SH (M.map (·.1)) H H' M'->K (vL q.rp q.ra q.rt) (.agg ⟨El q.cs 5 k⟩) H'):ME (rQ none (.pointer<|some ⟨q.rr,1,none⟩) H) λv H1=>lK Pg X (KA v) [] H1 (K v):=by
 have hR0:=hR;obtain⟨rv,rcs,gr,nv,eG,gn,sc,sa,nr,nn,rfl,_⟩:=hR;refine hS.ld 3 rfl rfl ?_;show az Pg X 72 [pr q.rp,pr q.ra,pr q.rt] H<|K _;refine az.mono (agE hR0 hS) ?_;rintro v H' ⟨rfl,M',hR',hS'⟩;exact h H' M' hR' (hS.frame hS') hS'
theorem yt{q:RC}(hR:Rd F q k H M)(hS:SH S H0 H<|M++L)(cd at':Int):az Pg X 110 [pr q.rr,vi cd,vi at'] H λv H'=>v=.bool false/\∃M',Rd F q k H' M'/\SH (M.map (·.1)) H H' M':=by
 have hR0:=hR;have hS0:=hS;have hS:=hS.own;obtain⟨rv,rcs,gr,nv,eG,gn,sc,sa,nr,nn,rfl,h1,h2,h3,h4,h5,h6,h7,h8,h9,h10,zL⟩:=hR;refine ce [0,1,2,6] ?_;refine tl ?_
 repeat(first|(refine hS.aY ?_)|(refine PU.b2 rfl ?_)|(refine hS.kJ λHn hS=>?_))
 refine rr ?_;refine⟨rfl,(q.rt,122,[.slice q.a q.n q.c])::(q.ra,3,[vn k])::(q.rp,129,[lT q.rt q.ra])::(q.rr,133,[lT q.rt q.ra,vL q.rp q.ra q.rt,rv,nv,vi cd,vi at'])::(gr++gn),?_,hS⟩;have xu:=hR0.on hS0 hS.ext;obtain⟨rv',agF,gr',nv',agG,gn',sc',sa',nr',nn',e0,g1,g2,_⟩:=xu;refine⟨rv,rcs,gr,nv,eG,gn,cd,at',nr,nn,rfl,h1,g2,h3,h4,h5,h6,h7,h8,h9,λi x hi=>(h10 i x hi).st hS.ext λr hr=>?_,zL⟩;have:=hR0.ty hS0 r hr;exact⟨this.1.imp_left (λe=>by rw[e];exact zL),this.2.1⟩
theorem Jh{q:RC}(hR:Rd F q k H M)(hS:SH S H0 H<|M++L):az Pg X 109 [pr q.rr] H λv H'=>v=.bool false/\∃M',Rd F q k H' M'/\SH (M.map (·.1)) H H' M':=by
 have hkn:=hR.le;have hS0:=hS;have hS:=hS.own;refine ce [0,2,3] ?_;refine tl ?_;refine aF ?_;have hS1:SH (M.map (·.1)) H H (M++[]):=by rw[aQ];exact hS
 refine hR.MN hS1 0 aa λH1 xu hS1 hx1=>?_
 obtain⟨kd,at',e',t,xa,xn,xc,he,_⟩:∃(kd:Int)(at' e:Nat)(t:ByteArray)(xa:Option Addr)(xn xc:Nat),El q.cs 5 (min (k+0)<|q.n-1)=[vi kd,vn at',vn e,.string t,.slice xa xn xc]/\True:=by
  obtain⟨_,_,_,_,_,_,_,_,_,_,_,_,h2,_⟩:=hR;obtain⟨kd,at',e',t,xa,xn,xc,he,_⟩:=h2.get (i:=min (k+0)<|q.n-1) aa;exact⟨kd,at',e',t,xa,xn,xc,he,trivial⟩
 rw[he];have hS:=hS1.perm au;simp only[bB]at hS;refine hS.iI λH2 rb hS=>?_
 repeat(first|(refine hS.aY ?_)|(refine hS.dQ ?_)|(refine hS.kJ λHn hS=>?_))
 have hx2:=hS.ext;have hS2:=hS.perm<|au (l₁:=[_]);have hR2:=hR.on hS0 hx2;refine ah (λhc=>?_) λhc=>?_
 .refine hS.dQ ?_;refine az.mono (yt hR2 hS2 _ _) ?_;rintro v H3 ⟨rfl,M',Dj,tu⟩;refine rr ?_;refine⟨rfl,M',Dj,?_⟩;exact SH.drop (A:=[_])<|(hS2.frame tu).perm au
 .refine hS.dQ ?_;refine az.mono (yt hR2 hS2 _ _) ?_;rintro v H3 ⟨rfl,M',Dj,tu⟩;refine rr ?_;refine⟨rfl,M',Dj,?_⟩;exact SH.drop (A:=[_])<|(hS2.frame tu).perm au
end
variable{q:RC}
section
open Go.Ae Go.Ae.M
variable{S:List Nat}{F:Nat->Prop}
theorem Rd.tok(hR:Rd F q k H M)(hi:i<q.n):∃(kd:Int)(at' e:Nat)(t:ByteArray)(xa:Option Addr)(xn xc:Nat),El q.cs 5 i=[vi kd,vn at',vn e,.string t,.slice xa xn xc]/\at'<=20000/\t.size<=1000000/\eZ 0 20000 H (.slice xa xn xc)/\(i=q.n-1->kd=0):=by
 obtain⟨_,_,_,_,_,_,_,_,_,_,_,_,h2,_⟩:=hR;exact h2.get hi
theorem Dk(x:Value)(l:List Value):adZ none 0 (.agg ⟨x::l⟩)=some x:=rfl
theorem Rl(x y:Value)(l:List Value):adZ none 1 (.agg ⟨x::y::l⟩)=some y:=rfl
theorem Fq(hR:Rd F q k H M)(hS:SH S H0 H<|M++L)(kd:Int)(hkd:kd≠0):az Pg X 111 [pr q.rr,vi kd] H λv H'=>∃(b:Bool)(k':Nat)(M':List cz),v=.bool b/\Rd F q k' H' M'/\SH (M.map (·.1)) H H' M'/\k<=k'/\(b=true->k'=k+1/\q.K k=kd):=by
 have hkn:=hR.le;have hS0:=hS;have hS:=hS.own;refine ce [0,1,4] ?_;refine tl ?_;refine aF ?_;have hS1:SH (M.map (·.1)) H H (M++[]):=by rw[aQ];exact hS
 refine hR.MN hS1 0 aa λH1 xu hS1 hx1=>?_;rw[show min (k+0) (q.n-1)=k by omega];obtain⟨kd',at',e',t,xa,xn,xc,he,_,_,_,hz⟩:=xu.tok hkn.1;rw[he,Dk];refine aF ?_;refine bq (λhc=>?_) λhc=>?_
 .refine az.mono (Jh xu hS1) ?_;rintro v H3 ⟨rfl,M',Dj,tu⟩;refine rr ?_;refine⟨false,k,M',rfl,Dj,?_,aj _,λh=>by cases h⟩;have:=hS1.frame tu
  rwa [aQ]at this
 .refine xu.next hS1 λH2 M' hR2 hS2 hx2=>?_
  refine rr ?_;refine⟨true,_,M',rfl,hR2,?_,aa,λ_=>⟨?_,(kZ he).trans hc⟩⟩
  .rwa [aQ]at hS2
  .have:k≠q.n-1:=λh=>hkd (by rw[<-hc];exact hz h);omega
theorem Dl(hw:Wf H)(kd:Int)(a e:Value)(t x:Value)(h:rY (.agg ⟨[vi kd,a,e,t,x]⟩)=true):az Pg X 108 [.agg ⟨[vi kd,a,e,t,x]⟩] H (Q1 (λv _=>v=.bool (decide (kd=1)||decide (kd=2))) H):=by
 have hS:=SH.refl hw;refine ce [0,1,2] ?_;refine tl ?_;refine hS.box h λH1 r hS=>?_
 repeat(first|(refine hS.aY ?_)|(refine hS.dQ ?_))
 refine ah (λhc=>?_) λhc=>?_
 .refine rr ?_;refine⟨?_,hS.ext⟩;rw[aS hc];rfl
 .refine hS.dQ ?_;refine hS.aY ?_;refine rr ?_;refine⟨?_,hS.ext⟩;rw[bM hc];rfl
theorem O'(hw:Wf H)(kd:Int)(a e:Value)(t x:Value)(h:rY (.agg ⟨[vi kd,a,e,t,x]⟩)=true):az Pg X 181 [.agg ⟨[vi kd,a,e,t,x]⟩] H (Q1 (λv _=>∃b:Bool,v=.bool b/\(b=true<->JE kd)) H):=by
 have hS:=SH.refl hw;refine ce [0,1,2,4] ?_;refine tl ?_;refine hS.box h λH1 r hS=>?_
 repeat(first|(refine hS.aY ?_)|(refine hS.dQ ?_))
 refine ah (λhc=>?_) λhc=>?_
 .rw[aS hc];refine hS.aY ?_;refine rr ?_;exact⟨⟨true,rfl,λ_=>(by unfold JE;omega),λ_=>rfl⟩,hS.ext⟩
 refine ah (λhc=>?_) λhc=>?_
 .rw[aS hc];refine hS.aY ?_;refine rr ?_;exact⟨⟨true,rfl,λ_=>(by unfold JE;omega),λ_=>rfl⟩,hS.ext⟩
 refine ah (λhc=>?_) λhc=>?_
 .rw[aS hc];refine hS.aY ?_;refine rr ?_;exact⟨⟨true,rfl,λ_=>(by unfold JE;omega),λ_=>rfl⟩,hS.ext⟩
 refine ah (λhc=>?_) λhc=>?_
 .rw[aS hc];refine hS.aY ?_;refine rr ?_;exact⟨⟨true,rfl,λ_=>(by unfold JE;omega),λ_=>rfl⟩,hS.ext⟩
 refine ah (λhc=>?_) λhc=>?_
 .rw[aS hc];refine hS.aY ?_;refine rr ?_;exact⟨⟨true,rfl,λ_=>(by unfold JE;omega),λ_=>rfl⟩,hS.ext⟩
 refine ah (λhc=>?_) λhc=>?_
 .rw[aS hc];refine hS.aY ?_;refine rr ?_;exact⟨⟨true,rfl,λ_=>(by unfold JE;omega),λ_=>rfl⟩,hS.ext⟩
 refine ah (λhc=>?_) λhc=>?_
 .refine rr ?_;exact⟨⟨true,rfl,λ_=>(by unfold JE;omega),λ_=>rfl⟩,hS.ext⟩
 .refine rr ?_;exact⟨⟨false,rfl,λh=>(by cases h),λh=>by unfold JE at h;omega⟩,hS.ext⟩
def NoV(F:Nat->Prop)(H:ag)(v:Value)(x:PN):Prop:=∃l,v=.agg ⟨l⟩/\TW F H l x
abbrev RC.ad(q:RC)(b:Bool)(x:PN):RC:={q with nd:=if b=true then q.nd++[x]else q.nd}
theorem GB.two{ty:TypeId}(hg:GB ty es v cs gb):dK v=true/\aX v=[v]:=by
 rcases hg with⟨rfl,_,_⟩|⟨r,n,dH,rfl,_,_⟩<;>exact⟨rfl,rfl⟩
theorem AZ(hR:Rd F q k H M)(hS:SH S H0 H<|M++L)(hv:NoV F H v x)(at':Int):az Pg X 148 [pr q.rr,v,vi at'] H λw H'=>∃(i:Nat)(b:Bool)(M':List cz),w=.tuple ⟨[vn i,.bool b]⟩/\Rd F (q.ad b x) k H' M'/\SH (M.map (·.1)) H H' M'/\(b=true->i=q.nd.length/\i<4000):=by
 have hR0:=hR;have hS0:=hS;have hS:=hS.own;have hty:=hR.ty hS0;obtain⟨rv,rcs,gr,nv,eG,gn,sc,sa,nr,nn,rfl,h1,h2,h3,h4,h5,h6,h7,h8,⟨h9,h9'⟩,h10,zL⟩:=hR;obtain⟨l,rfl,hno⟩:=hv;obtain⟨ka,kc,t,rs,na,rfl,hk1,hk2,hk3,hk4,hk5⟩:=id hno;generalize hkd:x.1=kd at hno hk3 hk1;generalize hkn:x.2.1.length=kn at hno hk1 hk2;obtain⟨xa,xn,xc,xcs,rfl,hk6⟩:=id hk5
 obtain⟨na',nc,cc,rfl,hnl,hnf⟩:∃a n c,nv=.slice a n c/\eG.length=n*5/\True:=by
  rcases h7 with⟨rfl,rfl,_⟩|⟨r,n,dH,rfl,hn,_⟩
  .exact⟨_,_,_,rfl,by simp,trivial⟩
  .exact⟨_,_,_,rfl,hn,trivial⟩
 have hnn:nc=nn:=by omega
 subst hnn;refine ce [0,1,2,4,6,7] ?_;refine tl ?_;refine hS.box rfl λH1 rb hS=>?_
 repeat(first|(refine hS.aY ?_)|(refine hS.dQ ?_))
 refine ah (λhc=>?_) λhc=>?_
 .have hS2:=hS.perm (au (l₁:=[_]));refine az.mono (yt (hR0.on hS0 hS.ext) hS2 _ _) ?_;rintro v H3 ⟨rfl,M',Dj,tu⟩;refine rr ?_;refine⟨0,false,M',rfl,Dj,?_,λh=>by cases h⟩;exact SH.drop (A:=[_])<|(hS2.frame tu).perm au
 .have hlt:nc<4000:=by omega
  repeat(first|(refine hS.aY ?_)|(refine hS.kI ?_)|(refine hS.nN ?_))
  refine hS.U8 rfl rfl rfl aa λH2 rx hS qP=>?_;have hS:=hS.to (cs':=[vi kd,.slice ka kn kc,.string t,.slice xa xn xc,vi na]) rfl;have hS:=hS.perm (L':=(rx,145,[vi kd,.slice ka kn kc,.string t,.slice xa xn xc,vi na])::(gn++((rb,145,[vi kd,.slice ka kn kc,.string t,.slice xa xn xc,vi na])::(q.rt,122,[.slice q.a q.n q.c])::(q.ra,3,[vn k])::(q.rp,129,[lT q.rt q.ra])::(q.rr,133,[lT q.rt q.ra,vL q.rp q.ra q.rt,rv,.slice na' nc cc,vi sc,vi sa])::gr)))<|List.Perm.cons _<|au (l₁:=_::_::_::_::_::gr);refine h7.Ou hS aa rfl rfl aa λv' H3 gn' hg' hS hx' QI uI=>?_;have hS:=hS.perm<|au (l₂:=_::_::_::_::_::gr);simp only[a_]at hS
  obtain⟨va,vn',vc,rfl,hvl,_⟩:∃a n c,v'=.slice a n c/\(eG++[vi kd,.slice ka kn kc,.string t,.slice xa xn xc,vi na]).length=n*5/\True:=by
   rcases hg' with⟨_,h,_⟩|⟨r,n,dH,rfl,hn,_⟩
   .exact absurd h (by simp)
   .exact⟨_,_,_,rfl,hn,trivial⟩
  have hvn:vn'=nc+1:=by rw[ay,hnl]at hvl;simp at hvl;omega
  subst hvn;refine hS.qJ λHn hS=>?_;have hne:q.rr≠rb:=(hS.nq 0 4 rfl rfl aa).symm
  have hgo:∀K:Prop,K->gQ (opsOf<|sub Eh [1,1,0]) [clS (.pointer<|some ⟨q.rr,2+1,none⟩) (.slice va (nc+1) vc) (hM (hM H1 H2) H3) Hn,cl 0,cl 0,cl 0,E7 (hM H1 H2) H3,S8 H1 H2,clL 5 (.pointer<|some ⟨rb,0,none⟩) H1<|hN H1,clL 1 (.pointer<|some ⟨q.rr,2+1,none⟩) H1<|hN H1,cl 0,cl 0,cl 0,cl 0,cl 0]=true/\K:=by
   intro K hK;simp only[qP,cB,dn];generalize q.rr=rr at hne;rcases uI with e|e<;>rw[e]<;>apply q_ (a:=rr) (b:=rb) hne (by intros;rfl) (by kernel_rfl) (by kernel_rfl) hK
  refine hgo _ ?_;refine hS.dQ ?_;refine hS.aY ?_;rw[nM aa aa];refine hS.aY ?_;have hx:=hS.ext;refine rr ?_;refine⟨nc,true,(q.rt,122,[.slice q.a q.n q.c])::(q.ra,3,[vn k])::(q.rp,129,[lT q.rt q.ra])::(q.rr,133,[lT q.rt q.ra,vL q.rp q.ra q.rt,rv,.slice va (nc+1) vc,vi sc,vi sa])::(gr++gn'),?_,?_,SH.drop (A:=[_]) hS,λ_=>⟨h9',hlt⟩⟩
  .rw[show((nc+1:Nat):Int)-1=((nc:Nat):Int) by omega]
  .have xu:=hR0.on hS0 hx;obtain⟨rv',agF,gr',nv',agG,aiN,sc',sa',nr',nn',e0,g1,g2,_⟩:=xu;have hE:=ze (es:=5) (n:=nc) hnl (xs:=[vi kd,.slice ka kn kc,.string t,.slice xa xn xc,vi na]) rfl;refine⟨rv,rcs,gr,_,_,gn',sc,sa,nr,nc+1,rfl,h1,g2,h3,h4,h5,h6,hg',hvl,⟨aa,by show nc+1=(q.nd++[x]).length;rw[ay,<-h9'];rfl⟩,λi y hi=>?_,zL⟩;have hi:(q.nd++[x])[i]?=some y:=hi;have hst:∀r∈((q.rt,122,[.slice q.a q.n q.c])::(q.ra,3,[vn k])::(q.rp,129,[lT q.rt q.ra])::(q.rr,133,[lT q.rt q.ra,vL q.rp q.ra q.rt,rv,.slice na' nc cc,vi sc,vi sa])::(gr++gn)).map (λe:cz=>e.1),(¬F r\/¬wR H r 3)/\¬wR H r 269:=λr hr=>⟨(hty r hr).1.imp_left (λe=>by rw[e];exact zL),(hty r hr).2.1⟩;rcases aN i nc with h|h
   .rw[hE.1 i h];rw[aP aa]at hi;exact(h10 i y hi).st hx hst
   .have hi2:=(aL.1 hi).1;rw[ay]at hi2;obtain rfl:i=nc:=by simp at hi2;omega
    rw[bf aa,<-h9',dY]at hi;cases hi;rw[hE.2];exact hno.st hx hst
end
section
open Go.Ae Go.Ae.M
variable{S:List Nat}
theorem Zn(hw:Wf H)(hm:m<=900000)(hv:xE m H v):az Pg X 212 [v] H (Q1 (λv H'=>eZ H.next (m+1) H' v) H):=by
 refine ce [0,2,3,4,6,8,9,10] ?_;refine tl ?_;refine az.mono (Di hw aa hv) ?_;rintro v H2 ⟨hv2,hx⟩;obtain⟨a,n,c,cs,rfl,hf,hn,hi⟩:=hv2;have hw2:=hx.wf hw;have hS:=SH.refl hw2;have hnx:H.next<=H2.next:=hx.next
 refine aF ?_;refine PV 3 4 6 10 (I:=λm x3 x4 x6 dR H'=>∃(k:Nat)(ds:List Value)(gb:List cz)(z:Int),x4=.int .i32 z/\dR=vn k/\k+m=n/\GB 269 2 x3 ds gb/\ds.length<=2*k/\J4 ds/\SH [] H2 H' (gb++[])) ?_ n ⟨0,[],[],0,rfl,rfl,aa,GB.nil _ _,by simp,(λx h=>nomatch h),hS⟩;clear hS;rintro m' x3 x4 x6 dR rg H' ⟨k,ds,gb,z,rfl,rfl,hk,hg,hdl,hds,hS⟩;refine dJ.sH λK hK=>?_;refine tl ?_;refine aF ?_;refine ah (λhc=>?_) λhc=>?_
 .obtain⟨r,o,e,hr,hrd,hel,_⟩:=hf.1.read aa (show k<n by omega) c;rw[e];refine aF ?_;obtain⟨z1,z2,ez⟩:=O4 hi (k:=k) (by rw[hf.1.1];omega);rw[ez]at hrd;refine hS.xZ hrd hr ?_;refine hS.iI λH1 r1 hS=>?_
  repeat(first|(refine hS.aY ?_)|(refine hS.dQ ?_)|(refine hS.kJ λHn hS=>?_))
  have nx:∀x3 ds gb rg H4,GB 269 2 x3 ds gb->ds.length<=2*(k+1)->J4 ds->SH [] H2 H4 ((r1,269,[.int .i32 z1,.int .i32 z2])::(gb++[]))->
   dJ Pg X (sub zo [1,1,1,0,1,0,0,1,1,0,0,1,1]) (Ff v (.slice none 0 0) x3 (.int .i32 z) (.pointer<|some ⟨r1,0,none⟩) (.slice a n c) (vn n) (vn k) rg H4) (j3 1<|nR Pg X (sub zo [1,1,1,0,1,0,0,1,1,1]) K):=by
   intro x3 ds gb rg H4 hg hdl hds hS;subst hK;refine tl ?_
   repeat(first|(refine hS.aY ?_)|(refine hS.dQ ?_))
   refine tl ?_;refine bE ?_;refine aF ?_;exact⟨m'-1,aa,_,_,_,_,_,_,rfl,k+1,ds,gb,_,rfl,rfl,aa,hg,aa,hds,SH.drop (A:=[_]) hS⟩
  refine ah (λhd=>?_) λhd=>?_
  .repeat(first|(refine hS.aY ?_)|(refine PU.b2 rfl ?_)|(refine hS.dQ ?_))
   refine hS.bS rfl rfl rfl aa λH3 rx hS=>?_;have hS:=hS.perm (L':=(rx,269,aX<|.agg ⟨[.int .i32 z,.int .i32<|fZ .i32<|z1-1]⟩)::(gb++[(r1,269,[.int .i32 z1,.int .i32 z2])]))<|List.Perm.cons _<|KI _ _;refine hg.add hS aa rfl rfl aa λv' H4 gY hg' hS hx'=>?_;exact nx _ _ _ _ _ hg' (by rw[ay];show ds.length+2<=_;omega) (hds.app _ _)<|hS.perm (KI _ _).symm
  .exact nx _ _ _ _ _ hg aa hds hS
 .have fin:∀v' ds gb H4,GB 269 2 v' ds gb->ds.length<=2*(n+1)->J4 ds->SH [] H2 H4 (gb++[])->∀K:Value->ag->Prop,(∀w H5,eZ H.next (m+1) H5 w->Ext H H5->K w H5)->az Pg X 197 [v'] H4 K:=by
   intro v' ds gb H4 hg hdl hds hS K hk;obtain⟨a',n',c',rfl,hn',hf'⟩:=hg.fl hS;refine az.mono (Di (KM:=m+1) hS.wf aa ⟨a',n',c',ds,rfl,hf',aa,hds⟩) ?_;rintro w H5 ⟨hw5,hx5⟩;have:=hS.ext.next
   exact hk w H5 (hw5.le (aj _) aa)<|(hx.trans hS.ext).trans hx5
  obtain rfl:k=n:=by omega
  subst hK;refine aF ?_;refine tl ?_;refine aF ?_;refine ah (λhd=>?_) λhd=>?_
  .refine PU.b2 rfl ?_;refine hS.aY ?_;refine hS.bS rfl rfl rfl aa λH3 rx hS=>?_;obtain⟨v',H4,gY,e,hg',hS,_⟩:=hg.app (m:=0) (cx:=1) hS aa rfl rfl aa aa;refine ME.of e ?_;refine fin _ _ _ _ hg' (by rw[ay];show ds.length+2<=_;omega) (hds.app _ _) hS _ λw H5 h1 h2=>?_;refine rr ?_;exact⟨h1,h2⟩
  .refine fin _ _ _ _ hg aa hds hS _ λw H5 h1 h2=>?_;refine rr ?_;exact⟨h1,h2⟩
end
section
open Go.Ae Go.Ae.M
variable{S:List Nat}{F:Nat->Prop}
abbrev RC.wn(q:RC)(N:List PN):RC:={q with nd:=N}
def O_(F:Nat->Prop)(q:RC)(M:List cz)(H:ag)(k:Nat)(o:Op)(w:Value)(H':ag):Prop:=∃(i:Nat)(b:Bool)(k':Nat)(M':List cz)(N':List PN),w=.tuple ⟨[vn i,.bool b]⟩/\Rd F (q.wn N') k' H' M'/\SH (M.map (·.1)) H H' M'/\k<=k'/\(b=true->Ps q.K q.T o k q.nd k' N' i)
def abF(q:RC)(k:Nat):Prop:=JE<|q.K k
def Zo(q:RC)(k:Nat):Prop:=∀(F:Nat->Prop) H M d,(∀r,H.next<=r->F r)->Rd F q k H M->SH (M.map (·.1)) H H M->d<=40->az Pg X 112 [pr q.rr,vn d] H (O_ F q M H k<|.ch d [])
def Zp(q:RC)(k:Nat):Prop:=∀(F:Nat->Prop) H M d,(∀r,H.next<=r->F r)->Rd F q k H M->SH (M.map (·.1)) H H M->d<=40->az Pg X 147 [pr q.rr,vn d] H (O_ F q M H k<|.ro d [])
def Zq(q:RC)(k:Nat):Prop:=∀(F:Nat->Prop) H M d,(∀r,H.next<=r->F r)->Rd F q k H M->SH (M.map (·.1)) H H M->d<=40->abF q k->az Pg X 182 [pr q.rr,vn d] H (O_ F q M H k<|.el d)
def agH(q:RC)(k:Nat):Prop:=∀(F:Nat->Prop) H M d,(∀r,H.next<=r->F r)->Rd F q k H M->SH (M.map (·.1)) H H M->d<=40->abF q k->az Pg X 198 [pr q.rr,vn d] H (O_ F q M H k (.at d))
theorem abF.lt(h:abF q k)(hR:Rd F q k H M):k+1<q.n:=by
 have hk:=hR.le;obtain⟨kd',at',e,t,xa,xn,xc,h3,_,_,_,hz⟩:=hR.tok hk.1;have h:JE (BV q.cs k):=h;rw[kZ h3]at h;have:k≠q.n-1:=λe=>by rw[hz e]at h;unfold JE at h;omega
 omega
theorem Es{at':Int}(he:kd=5->t=t')(ht:t.size<=1000000)(hr:eZ 0 20001 H rs):NoV F H (.agg ⟨[vi kd,.slice none 0 0,.string t,rs,vi at']⟩) (kd,[],t'):=
 ⟨_,rfl,none,0,t,rs,at',rfl,jT.nil _ _ _ _ _,aM _,he,ht,hr⟩
theorem Rd.n(h:Rd F q k H M):Rd F q k (hN H) M:=h
theorem SH.nn(h:SH S H H M):SH S (hN H) (hN H) M:=h.uY
theorem aer{Lx:List cz}(hRb:Rd F q kb Hb Mb)(hSb:SH (M.map (·.1)) H Hb Mb)(hk:k<kb)(hS:SH (Mb.map (·.1)) Hb Hc<|Lx++Mb)(hv:NoV F Hc v x)(z:Int)(hp:q.nd.length<4000->Ps q.K q.T o k q.nd kb (q.nd++[x]) q.nd.length):
 az Pg X 148 [pr q.rr,v,vi z] Hc λw H'=>∃(i:Nat)(b:Bool),w=.tuple ⟨[vn i,.bool b]⟩/\O_ F q M H k o w H':=by
 have hS2:=hS.perm<|au (l₁:=Lx);have aes:SH (M.map (·.1)) H Hb (Mb++[]):=by rw[aQ];exact hSb
 refine az.mono (AZ (hRb.on aes hS.ext) hS2 hv z) ?_;rintro w H4 ⟨i,b,M3,rfl,Dj,tu,hi⟩;refine⟨i,b,rfl,i,b,kb,M3,_,rfl,Dj,?_,aa,λh=>by subst h;obtain⟨rfl,h2⟩:=hi rfl;exact hp h2⟩;exact hSb.over (by simpa using SH.drop (A:=Lx) ((hS2.frame tu).perm au))
theorem adg{Lx:List cz}(hRb:Rd F q kb Hb Mb)(hSb:SH (M.map (·.1)) H Hb Mb)(hk:k<kb)(hS:SH (Mb.map (·.1)) Hb Hc<|Lx++Mb)(hv:NoV F Hc v x)(z:Int)(hp:q.nd.length<4000->Ps q.K q.T o k q.nd kb (q.nd++[x]) q.nd.length):
 az Pg X 148 [pr q.rr,v,vi z] (hN Hc) λw H'=>∃(i:Nat)(b:Bool),w=.tuple ⟨[vn i,.bool b]⟩/\O_ F q M H k o w (hM Hc H'):=by
 have hS2:=hS.perm<|au (l₁:=Lx);have aes:SH (M.map (·.1)) H Hb (Mb++[]):=by rw[aQ];exact hSb
 refine az.mono (AZ (hRb.on aes hS.ext).n hS2.uY (v:=v) (x:=x) hv z) ?_;rintro w H4 ⟨i,b,M3,rfl,Dj,tu,hi⟩;refine⟨i,b,rfl,i,b,kb,M3,_,rfl,Dj,?_,aa,λh=>by subst h;obtain⟨rfl,h2⟩:=hi rfl;exact hp h2⟩;exact hSb.over (by simpa using SH.drop (A:=Lx) ((hS2.Yd tu).perm au))
theorem NoV.n(h:NoV F H v x):NoV F (hN H) v x:=h
theorem abG(ih:∀k',k<k'->Zo q k'):agH q k:=by
 intro F H M d hF hR hS hd hkd;have hlt:=hkd.lt hR;have hkn:=hR.le;obtain⟨kd,at',e',t,xa,xn,xc,he,ha2,ht,hrs,hz⟩:=hR.tok hkn.1;have hK:q.K k=kd:=kZ he;have hT:q.T k=t:=y_ he;have ah2:JE kd:=hK▸hkd;have hty:=hR.ty (L:=[]) (by rw[aQ];exact hS);have ah3:SH (M.map (·.1)) H H (M++[]):=by rw[aQ];exact hS
 refine ce [0,1,4,5,6,7,8,9,16] ?_;refine tl ?_;refine aF ?_;refine hR.next ah3 λH1 M1 xu hS1 hx1=>?_
 rw[show min (k+1) (q.n-1)=k+1 by omega]at xu;rw[he];have ah4:eZ 0 20000 H1 (.slice xa xn xc):=hrs.stay hx1.ext λr hr=>.inr (hty r hr).2.1;have aiO:=hx1;have ah5:=xu.ty (L:=[]) hS1;have hS:=hS1.own;refine hS.iI λH2 rb hS=>?_;refine hS.kJ λH3 hS=>?_;have hS:SH (M1.map (·.1)) H1 H3 ((rb,128,[vi kd,vn at',vn e',.string t,.slice xa xn xc])::M1):=hS;have drs:∀H3,qU (M1.map (·.1)) H1 H3->eZ 0 20000 H3 (.slice xa xn xc):=λH3 hx=>ah4.stay hx λr hr=>.inr (ah5 r hr).2.1
 repeat(first|(refine hS.aY ?_)|(refine hS.dQ ?_))
 have sU:∀(b:Bool) rg,BA rg 17=.bool b->(b=true<->kd=1\/kd=2)->dJ Pg X (sub wU [1,1,0,1,0,1]) (BS (pr q.rr) (vn d) (.int .i64 0) (.bool false) (.pointer<|some ⟨rb,0,none⟩) top top top (vi kd) rg H3) (j3 0<|nR Pg X (sub wU [1,1,1])<|f_ Pg [.tmp 4,.tmp 5]<|O_ F q M H k (.at d)):=by
  intro b rg hb hbk;refine tl ?_;rw[hb];refine aF ?_;refine bO (λhb=>?_) λhb=>?_
  .repeat(first|(refine hS.aY ?_)|(refine PU.b5 rfl ?_)|(refine hS.dQ ?_))
   refine az.mono (aer (Lx:=[_]) xu hx1 (bL k) hS (Es (λ_=>rfl) ht<|eZ.nil _ _ _) _ (λh=>by rw[<-hT];exact .nm d k q.nd (by rw[hK];exact hbk.1 hb) h)) ?_;rintro w H4 ⟨i,b,rfl,hw⟩;refine aF ?_;refine rr ?_;exact hw
  have aiP:¬(kd=1\/kd=2):=λh=>by rw[hbk.2 h]at hb;cases hb
  refine ah (λhc=>?_) λh3=>?_
  .repeat(first|(refine hS.aY ?_)|(refine PU.b5 rfl ?_)|(refine hS.dQ ?_))
   refine az.mono (aer (Lx:=[_]) xu hx1 (bL k) hS (Es (t':=e0) (λh=>by omega) ht<|eZ.nil _ _ _) _ λh=>.lf d k q.nd 6 (.inl ⟨rfl,by rw[hK];omega⟩) h) ?_;rintro w H4 ⟨i,b,rfl,hw⟩;refine aF ?_;refine rr ?_;exact hw
  refine ah (λhc=>?_) λh4=>?_
  .repeat(first|(refine hS.aY ?_)|(refine PU.b5 rfl ?_)|(refine hS.dQ ?_))
   refine az.mono (aer (Lx:=[_]) xu hx1 (bL k) hS (Es (t:=⟨#[]⟩) (t':=e0) (λ_=>rfl) (aM _)<|(drs _ hS.ext).le aa<|aj _) _ λh=>.lf d k q.nd 7 (.inr ⟨rfl,by rw[hK];omega⟩) h) ?_;rintro w H4 ⟨i,b,rfl,hw⟩;refine aF ?_;refine rr ?_;exact hw
  refine ah (λhc=>?_) λh13=>?_
  .refine az.mono (Zj<|qH _) ?_;rintro v H4 ⟨hv,hx4⟩;obtain⟨ya,yn,yc,ycs,rfl,hv2⟩:=id hv;have hS:=hS.oV hx4
   repeat(first|(refine hS.aY ?_)|(refine PU.b5 rfl ?_)|(refine hS.kI ?_))
   refine az.mono (adg (Lx:=[_]) xu hx1 (bL k) hS (Es (t:=⟨#[]⟩) (t':=e0) (λ_=>rfl) (aM _)<|hv.le aa<|aM _) _ λh=>.lf d k q.nd 7 (.inr ⟨rfl,by rw[hK];omega⟩) h) ?_;rintro w H5 ⟨i,b,rfl,hw⟩;refine hS.aY ?_;simp only[dL hx4,cB];rcases yR (hM H3 H4) H5 with e|e<;>rw[e]<;>apply IW (a:=rb) (by intros;rfl) (by kernel_rfl) (by kernel_rfl)<;>(refine rr ?_;exact hw)
  refine ah (λhc=>?_) λh14=>?_
  .have vY:=hS.perm (au (l₁:=[_]));refine(xu.on hS1 hS.ext).MN vY 0 aa λH4 Et vY hx4=>?_;rw[show min (k+1+0) (q.n-1)=k+1 by omega];obtain⟨Rm,at2,e2,t2,ya,yn,yc,he2,_,_,_,_⟩:=Et.tok (i:=k+1) aa;rw[he2];have hS:=vY;refine hS.iI λH5 rc hS=>?_;refine hS.kJ λH6 hS=>?_;have hS:SH (M1.map (·.1)) H1 H6 ((rc,128,[vi Rm,vn at2,vn e2,.string t2,.slice ya yn yc])::(M1++[(rb,128,[vi kd,vn at',vn e',.string t,.slice xa xn xc])])):=hS
   have wB:SH (M1.map (·.1)) H1 H6 (M1++[(rb,128,[vi kd,vn at',vn e',.string t,.slice xa xn xc]),(rc,128,[vi Rm,vn at2,vn e2,.string t2,.slice ya yn yc])]):=by
    have:=hS.perm<|au (l₁:=[_]);have e:=bg M1 [((rb,128,[vi kd,vn at',vn e',.string t,.slice xa xn xc]):cz)] [((rc,128,[vi Rm,vn at2,vn e2,.string t2,.slice ya yn yc]):cz)];exact this.cast e
   refine az.mono (Fq (xu.on hS1 hS.ext) wB 4<|by decide) ?_;rintro v H7 ⟨b,k2,M2,rfl,Rp,KX,hk2,hb2⟩;have Vr:=wB.frame KX;have hSo:=Vr.own;have hSb:SH (M.map (·.1)) H H7 M2:=hx1.over<|SH.drop (A:=[_,_])<|Vr.perm au;cases b with
   |false=>
    refine aF ?_;refine(show∀{A B:Prop},A->zk (some !false) A B fromλh=>h) ?_;refine rr ?_;exact⟨0,false,k2,M2,_,rfl,Rp,hSb,aa,λh=>by cases h⟩
   |true=>
    obtain⟨hk3,hK2⟩:=hb2 rfl;refine aF ?_;refine(show∀{A B:Prop},B->zk (some !true) A B fromλh=>h) ?_;have bc:=Vr.bk (rc,128,[vi Rm,vn at2,vn e2,.string t2,.slice ya yn yc]) (by simp);have bb:=Vr.bk (rb,128,[vi kd,vn at',vn e',.string t,.slice xa xn xc]) (by simp);have lc:=(Vr.lo (rc,128,[vi Rm,vn at2,vn e2,.string t2,.slice ya yn yc])<|by simp).2;have lb:=(Vr.lo (rb,128,[vi kd,vn at',vn e',.string t,.slice xa xn xc])<|by simp).2
    have hbc:rb≠rc:=by
     have:=hS.apart (A:=[_]) (x:=(rc,128,[vi Rm,vn at2,vn e2,.string t2,.slice ya yn yc])) (y:=(rb,128,[vi kd,vn at',vn e',.string t,.slice xa xn xc])) (aD ..) (by simp);exact this.symm
    obtain⟨_,_,_,_,_,_,_,he3,_,_,agI,_⟩:=Rp.tok (i:=k+1) aa;rw[he2]at he3;have he4:=(jh (jh (jh (jh (jh he3).2).2).2).2).1;rw[<-he4]at agI;have hS:=SH.refl hSo.wf;refine hS.JR (bc.cell (o:=4) rfl) lc ?_;refine hS.aY ?_;refine az.mono (Zn (qH _) (m:=20000) aa agI.i) ?_;rintro v H8 ⟨hv,KY⟩;obtain⟨za,zn,zc,zcs,rfl,hv2⟩:=id hv;have hS:=hS.oV KY;refine hS.JR (bb.cell (o:=1) rfl) lb ?_
    repeat(first|(refine hS.aY ?_)|(refine PU.b5 rfl ?_))
    refine hS.JR (bc.cell (o:=1) rfl) lc ?_;refine hS.aY ?_;refine az.mono (adg (Lx:=[]) Rp hSb (show k<k2 by omega) (hSo.oV KY) (Es (t:=⟨#[]⟩) (t':=e0) (λ_=>rfl) (aM _)<|hv.le aa<|aM _) _ (λh=>by rw[hk3];exact .no d k q.nd (by rw[hK];omega) hK2 h)) ?_;rintro w H9 ⟨i,b,rfl,hw⟩;refine hS.aY ?_;simp only[dL KY,cB];rcases yR (hM H7 H8) H9 with e|e<;>rw[e]<;>apply q_ (a:=rb) (b:=rc) hbc (by intros;rfl) (by kernel_rfl) (by kernel_rfl)<;>(refine rr ?_;exact hw)
  .refine tl ?_;have vY:=hS.perm<|au (l₁:=[_]);refine hS.aY ?_;refine ah (λhd2=>?_) λhd2=>?_
   .refine hS.dQ ?_;refine az.mono (yt (xu.on hS1 hS.ext) vY _ _) ?_;rintro w H5 ⟨rfl,M2,JF,hS5⟩;refine rr ?_;exact⟨0,false,k+1,M2,_,rfl,JF,hx1.over<|SH.drop (A:=[_])<|(vY.frame hS5).perm au,aa,λh=>by cases h⟩
   .rw[dI aa aa];refine aF ?_;refine az.mono (ih (k+1) aa F H3 M1 (d+1) (λr hr=>hF r (by have:=hx1.ext.next;have:=hS.ext.next;omega)) (xu.on hS1 hS.ext) vY.own aa) ?_;rintro w H5 ⟨i,b,k2,M2,N2,rfl,JF,hS5,hk2,hp2⟩;have aet:=vY.frame hS5;refine aF ?_;cases b with
    |false=>
     refine(show∀{A B:Prop},B->zk (some false) A B fromλh=>h) ?_;refine rr ?_;exact⟨i,false,k2,M2,N2,rfl,JF,hx1.over<|SH.drop (A:=[_])<|aet.perm au,aa,λh=>by cases h⟩
    |true=>
     refine(show∀{A B:Prop},A->zk (some true) A B fromλh=>h) ?_;refine az.mono (Fq JF aet 9<|by decide) ?_;rintro w H6 ⟨b,k3,M3,rfl,zM,wB,hk3,hb3⟩;refine rr ?_;exact⟨i,b,k3,M3,N2,rfl,zM,hx1.over<|SH.drop (A:=[_])<|(aet.frame wB).perm au,aa,λh=>by obtain⟨rfl,h9⟩:=hb3 h;exact .br d k q.nd k2 N2 i (by rw[hK];unfold JE at ah2;omega) aa (hp2 rfl) h9⟩
 refine ah (λhc=>?_) λhc=>?_
 .exact sU _ _ (by simp only[uC];rfl) (by simp<;>omega)
 .exact sU _ _ (by simp only[uC];rfl) (by simp<;>omega)
end
section
open Go.Ae Go.Ae.M
variable{S:List Nat}{F:Nat->Prop}
theorem Rd.mem(h:Rd F q k H M):(q.ra,3,[vn k])∈M:=by
 obtain⟨rv,rcs,gr,nv,eG,gn,sc,sa,nr,nn,rfl,_⟩:=h;simp
theorem MO{n c:Nat}{at':Int}(hf:jT F 3 H a n 1<|fG zs)(hn:n<=20001):NoV F H (.agg ⟨[vi kd,.slice a n c,.string ⟨#[]⟩,.slice none 0 0,vi at']⟩) (kd,zs,e0):=by
 have hl:zs.length=n:=by have:=hf.1.1;simpa using this
 subst hl;exact⟨_,rfl,a,c,_,_,at',rfl,hf,hn,λ_=>rfl,aM _,eZ.nil _ _ _⟩
theorem A_(zs:List Nat)(i:Nat):fG (zs++[i])=fG zs++[vn i]:=by simp
theorem Rq(ha:agH q k):Zq q k:=by
 intro F H M d hF hR hS hd hkd;have hlt:=hkd.lt hR;refine ce [0,1,4,5,6,7,8,22] ?_;refine tl ?_;refine az.mono (ha F H M d hF hR hS hd hkd) ?_;rintro w H1 ⟨i,b,k1,M1,N1,rfl,xu,hS1,hk1,hb1⟩;refine aF ?_;cases b with
 |false=>
  refine(show∀{A B:Prop},A->zk (some !false) A B fromλh=>h) ?_;refine rr ?_;exact⟨0,false,k1,M1,N1,rfl,xu,hS1,hk1,λh=>by cases h⟩
 |true=>
  have hp1:=hb1 rfl;have hk2:k<k1:=hp1.adv.2.1;refine(show∀{A B:Prop},B->zk (some !true) A B fromλh=>h) ?_;have ah6:SH (M.map (·.1)) H H1 (M1++[]):=by rw[aQ];exact hS1
  refine xu.MN ah6 0 aa λH2 hR2 hS2 hx2=>?_;have hkn:=hR2.le;have hkn:k1<q.n/\q.n<=20001:=hkn;rw[show min (k1+0) (q.n-1)=k1 by omega];obtain⟨kd,at',e',t,xa,xn,xc,he,_,_,_,hz0⟩:=hR2.tok hkn.1;rw[he,Dk];have hK:q.K k1=kd:=kZ he
  have fin:∀(z:Int) rg,z=kd-8->10<=kd/\kd<=12->dJ Pg X (sub zJ [1,1,1,1,1]) (yV (pr q.rr) (vn d) (.int .i64 0) (.bool false) (vn i) (.bool true) (vi z) (vi kd) rg H2) (f_ Pg [.tmp 4,.tmp 5]<|O_ F q M H k<|.el d):=by
   intro z rg hz hkd;subst hz
   have aiQ:k1+1<q.n:=by
    have:k1≠q.n-1:=λe=>by have:=hz0 e;omega
    have:=hkn.1;have:k1<q.n:=this;omega
   have abH:SH (M.map (·.1)) H H2 M1:=by rw[<-aQ M1];exact hS2
   have hS:=hS2.own;refine tl ?_;refine hS.bS rfl rfl rfl aa λH3 rk hS=>?_;have hS:SH (M1.map (·.1)) H2 H3 ((rk,3,[vn i])::M1):=hS
   have hge:H.next<=rk:=by
    rcases(hS.lo (rk,3,[vn i])<|aD ..).1 with h|h
    .exfalso;obtain⟨e,he,e1⟩:=aZ.1 h;exact hS.apart (A:=[_]) (aD ..) he e1.symm
    .have:=abH.ext.next
     omega
   refine aF ?_;refine PU.b5 rfl ?_;refine aF ?_;have tu:=hS.perm<|au (l₁:=[_]);have Dj:=hR2.on hS2 hS.ext;refine Dj.next tu λH4 M4 Et vY hx4=>?_
   rw[show min (k1+1) ((q.wn N1).n-1)=k1+1 by show min (k1+1) (q.n-1)=_;omega]at Et;rw[he,Rl];refine aF ?_;have hrk:F rk:=hF rk hge;have hfl:jT F 3 H4 (some ⟨rk,0,none⟩) 1 1 (fG [i]):=jT.one vY (bD _<|aO.2 rfl) rfl hrk;refine az.mono (AZ Et vY (MO hfl aa) _) ?_;rintro w H5 ⟨j,b,M5,rfl,JF,hS5,hj⟩;refine aF ?_;refine rr ?_;refine⟨j,b,_,M5,_,rfl,JF,?_,aa,λh=>?_⟩;rotate_left
   .subst h;obtain⟨rfl,h2⟩:=hj rfl;exact hK▸.el1 d k q.nd k1 N1 i hp1 (by rw[hK];exact hkd) h2
   exact abH.over<|SH.drop (A:=[_])<|(vY.frame hS5).perm au
  refine aF ?_;refine ah (λhc=>?_) λhc=>?_
  .exact fin _ _ aa aa
  refine ah (λhc2=>?_) λhc2=>?_
  .exact fin _ _ aa aa
  refine ah (λhc3=>?_) λhc3=>?_
  .exact fin _ _ aa aa
  refine rr ?_;refine⟨i,true,k1,M1,N1,rfl,hR2,?_,hk1,λ_=>.el0 d k q.nd k1 N1 i hp1 (by rw[hK];omega)⟩
  rwa [aQ]at hS2
theorem Rd.stay(h:Rd F q k H M)(hx:qU S' H H')(hk:∀r∈S',(¬F r\/¬wR H r 3)/\¬wR H r 269/\¬wR H r 128):Rd F q k H' M:=by
 obtain⟨rv,rcs,gr,nv,eG,gn,sc,sa,nr,nn,h0,h1,h2,h3,h4,h5,h6,h7,h8,h9,h10,zL⟩:=h;exact⟨rv,rcs,gr,nv,eG,gn,sc,sa,nr,nn,h0,h1,h2.st hx (λr hr=>.inr (hk r hr).2)<|aj _,h3,h4,h5,h6,h7,h8,h9,λi x hi=>(h10 i x hi).st hx λr hr=>⟨(hk r hr).1,(hk r hr).2.1⟩,zL⟩
abbrev Fo(F:Nat->Prop)(gb:List cz):Nat->Prop:=λr=>F r/\r∉gb.map (·.1)
theorem Zr{x:Value}(zL:¬F q.ra)(hg:GB 3 1 x ks gb)(hS:SH S H0 H<|M++gb)(hR:Rd (Fo F gb) q k H M)(hl:ks.length<=1000000)(z:Int){K:Value->Value->ag->Prop}(kk:∀w v' H6 gY,GB 3 1 v' (ks++[vi z]) gY->SH S H0 H6 (M++gY)->Rd (Fo F gY) q k H6 M->(∀e∈gY,e.1∈gb.map (·.1)\/H.next<=e.1)->K w v' H6):
 ME (bS 3 [.int .i64 0] 1 1 [(0,vi z)] H) λw H5=>ME (Bz 3 1 x w H5) (K w):=by
 have hP:=hS.perm<|au (l₁:=M);have hO:SH (gb.map (·.1)) H H (gb++[]):=by rw[aQ];exact hP.own
 have hne:∀ty:TypeId,((3:Nat)==ty)=false->∀r∈gb.map (·.1),¬wR H r ty:=λty ht=>hP.own.Gt<|hg.all ht;refine hO.bS rfl rfl rfl aa λH5 rx hS5=>?_;obtain⟨v',H6,gY,e1,hg',wB,_⟩:=hg.app (m:=0) (cx:=1) hS5 aa rfl rfl aa aa;refine ME.of e1 ?_;rw[aQ]at wB;have xu:Rd (λr=>Fo F gb r/\r<H.next) q k H M:=hR.wk (λr hr h=>⟨h,hr⟩) λh=>zL h.1.1;have hR2:=xu.stay wB.ext λr hr=>⟨.inl λh=>h.1.2 hr,hne 269 rfl r hr,hne 128 rfl r hr⟩;refine kk _ v' H6 gY hg' ((hP.frame wB).perm au) (hR2.wk (λr _ h=>⟨h.1.1,λhm=>?_⟩) λh=>zL h.1) λe he=>(wB.lo e he).1;obtain⟨e,he,e1⟩:=aZ.1 hm;rcases(wB.lo e he).1 with h3|h3
 .exact h.1.2 (by rw[<-e1];exact h3)
 .have:=h.2;omega
theorem row_of(he:∀N k',k<=k'->Zq (q.wn N) k'):Zp q k:=by
 intro F H M d hF hR hS hd;have hkn:=hR.le
 have zL:¬F q.ra:=by
  obtain⟨_,_,_,_,_,_,_,_,_,_,_,_,_,_,_,_,_,_,_,_,_,h⟩:=hR;exact h
 refine ce [0,1,4,5,6,7,8] ?_;refine tl ?_;refine V' 4 5 6 7 8 (I:=λm x4 x5 x6 x7 x8 H'=>∃(k':Nat)(M':List cz)(zs:List Nat)(gb:List cz)(N:List PN),x4=vi 0/\x5=.bool false/\k'+m=q.n/\k<=k'/\Rd (Fo F gb) (q.wn N) k' H' M'/\SH (M.map (·.1)) H H' (M'++gb)/\GB 3 1 x6 (fG zs) gb/\zs.length<=k'-k/\(∀p' N' j,Ps q.K q.T (.ro d zs) k' N p' N' j->Ps q.K q.T (.ro d []) k q.nd p' N' j)/\∀e∈gb,H.next<=e.1) ?_ (q.n-k) ⟨k,M,[],[],q.nd,rfl,rfl,aa,aj _,hR.wk (λr _ h=>⟨h,by simp⟩) λh=>zL h.1,by rw[aQ];exact hS,GB.nil _ _,aM _,(λ_ _ _ h=>h),λe h=>nomatch h⟩;clear hR hS;rintro m x4 x5 x6 x7 x8 rg H' ⟨k1,M1,zs,gb,N1,rfl,rfl,hkm,hk1,xu,hS1,hg,hkl,hps,hgb⟩;have agJ:k1<q.n/\q.n<=20001:=xu.le;have hnl:(fG zs).length=zs.length:=aC ..
 refine tl ?_;refine aF ?_;refine xu.MN hS1 0 aa λH2 hR2 hS2 hx2=>?_;rw[show min (k1+0) (q.n-1)=k1 by omega];obtain⟨kd,at',e',t,xa,xn,xc,hel,_⟩:=hR2.tok agJ.1;rw[hel];have hK:q.K k1=kd:=kZ hel;refine az.mono (O' hS2.wf kd _ _ _ _ rfl) ?_;rintro w H3 ⟨⟨b,rfl,hb⟩,hx3⟩;have Dj:=hR2.ex hx3;have tu:=hS2.call hx3;refine aF ?_;refine bO (λhbt=>?_) λhbt=>?_
 .have hF3:∀r,H3.next<=r->Fo F gb r:=λr hr=>⟨hF r (by have:=tu.ext.next;omega),λhm=>by
   obtain⟨e,he,e1⟩:=aZ.1 hm;have:=(tu.lo e<|bD _ he).2;omega⟩
  refine az.mono (he N1 k1 hk1 _ H3 M1 d hF3 Dj tu.own hd (show JE (q.K k1) by rw[hK];exact hb.1 hbt)) ?_;rintro w H4 ⟨i,b,k2,M2,N2,rfl,Et,vY,hk2,hb2⟩;have Ru:=tu.frame vY;refine aF ?_;cases b with
  |false=>
   refine(show∀{A B:Prop},A->zk (some !false) A B fromλh=>h) ?_;refine rr ?_;exact⟨0,false,k2,M2,N2,rfl,Et.wk (λr _ h=>h.1) zL,SH.drop (A:=gb)<|Ru.perm au,aa,λh=>by cases h⟩
  |true=>
   have hp2:=hb2 rfl;have hk3:k1<k2:=hp2.adv.2.1;have hkn2:k2<q.n/\q.n<=20001:=Et.le;refine(show∀{A B:Prop},B->zk (some !true) A B fromλh=>h) ?_;refine Zr (q:=q.wn N2) zL hg Ru Et aa i λw v' H6 gY hg' wB zM hgn=>?_;refine⟨q.n-k2,aa,_,_,_,_,_,_,_,rfl,k2,M2,zs++[i],gY,N2,rfl,rfl,aa,aa,zM,wB,by rw[A_];exact hg',by rw[ay];show zs.length+1<=_;omega,λp' N' j h=>hps p' N' j<|.ro1 d k1 N1 k2 N2 i p' N' j zs (by rw[hK];exact hb.1 hbt) hp2 h,λe he'=>?_⟩
   .rcases hgn e he' with h|h
    .obtain⟨e2,h2,h3⟩:=aZ.1 h;rw[<-h3];exact hgb e2 h2
    .have:=Ru.ext.next;omega
 .refine tl ?_;obtain⟨a,n,c,rfl,hn,hfl⟩:=hg.Nn (F:=F) (tu.perm<|au (l₁:=M1)) λe he'=>hF _<|hgb e he';refine PU.b5 rfl ?_;refine aF ?_;refine Dj.MN tu 0 aa λH4 Et vY hx4=>?_;rw[show min (k1+0) (q.n-1)=k1 by omega,hel,Rl];refine aF ?_;have JF:Rd F (q.wn N1) k1 H4 M1:=Et.wk (λr _ h=>h.1) zL;refine az.mono (AZ JF vY (MO (hfl.ex hx4) aa) _) ?_;rintro w H5 ⟨j,b',M5,rfl,zM,wB,hj⟩;refine aF ?_
  refine rr ?_;exact⟨j,b',k1,M5,_,rfl,zM,SH.drop (A:=gb)<|(vY.frame wB).perm au,aa,λh=>by
   subst h;obtain⟨rfl,h2⟩:=hj rfl;exact hps _ _ _<|.ro0 d k1 N1 zs (by rw[hK,<-hb,hbt];simp) h2⟩
theorem Rv(he:∀N k',k<=k'->Zp (q.wn N) k'):Zo q k:=by
 intro F H M d hF hR hS hd;have hkn:=hR.le
 have zL:¬F q.ra:=by
  obtain⟨_,_,_,_,_,_,_,_,_,_,_,_,_,_,_,_,_,_,_,_,_,h⟩:=hR;exact h
 refine ce [0,1,4,5,6,7,8] ?_;refine tl ?_;refine V' 4 5 6 7 8 (I:=λm x4 x5 x6 x7 x8 H'=>∃(k':Nat)(M':List cz)(zs:List Nat)(gb:List cz)(N:List PN),x4=vi 0/\x5=.bool false/\k'+m=q.n/\k<=k'/\Rd (Fo F gb) (q.wn N) k' H' M'/\SH (M.map (·.1)) H H' (M'++gb)/\GB 3 1 x6 (fG zs) gb/\zs.length<=k'-k/\(∀p' N' j,Ps q.K q.T (.ch d zs) k' N p' N' j->Ps q.K q.T (.ch d []) k q.nd p' N' j)/\∀e∈gb,H.next<=e.1) ?_ (q.n-k) ⟨k,M,[],[],q.nd,rfl,rfl,aa,aj _,hR.wk (λr _ h=>⟨h,by simp⟩) λh=>zL h.1,by rw[aQ];exact hS,GB.nil _ _,aM _,(λ_ _ _ h=>h),λe h=>nomatch h⟩;clear hR hS;rintro m x4 x5 x6 x7 x8 rg H' ⟨k1,M1,zs,gb,N1,rfl,rfl,hkm,hk1,xu,hS1,hg,hkl,hps,hgb⟩;have agJ:k1<q.n/\q.n<=20001:=xu.le;have hnl:(fG zs).length=zs.length:=aC ..
 have hF3:∀r,H'.next<=r->Fo F gb r:=λr hr=>⟨hF r (by have:=hS1.ext.next;omega),λhm=>by
  obtain⟨e,he,e1⟩:=aZ.1 hm;have:=(hS1.lo e<|bD _ he).2;omega⟩
 refine tl ?_;refine az.mono (he N1 k1 hk1 _ H' M1 d hF3 xu hS1.own hd) ?_;rintro w H4 ⟨i,b,k2,M2,N2,rfl,Et,vY,hk2,hb2⟩;have Ru:=hS1.frame vY;have hkn2:k2<q.n/\q.n<=20001:=Et.le;refine aF ?_;cases b with
 |false=>
  refine(show∀{A B:Prop},A->zk (some !false) A B fromλh=>h) ?_;refine rr ?_;exact⟨0,false,k2,M2,N2,rfl,Et.wk (λr _ h=>h.1) zL,SH.drop (A:=gb)<|Ru.perm au,aa,λh=>by cases h⟩
 |true=>
  refine(show∀{A B:Prop},B->zk (some !true) A B fromλh=>h) ?_;refine Zr (q:=q.wn N2) zL hg Ru Et aa i λw v' H6 gY hg' wB zM hgn=>?_
  have hgb':∀e∈gY,H.next<=e.1:=λe he'=>by
   rcases hgn e he' with h|h
   .obtain⟨e2,h2,h3⟩:=aZ.1 h;rw[<-h3];exact hgb e2 h2
   .have:=Ru.ext.next;omega
  have hp2:=hb2 rfl;have hkl':(zs++[i]).length=zs.length+1:=by simp
  refine zM.MN wB 0 aa λH7 Rp KX hx7=>?_;rw[show min (k2+0) (q.n-1)=k2 by omega];obtain⟨kd,at',e',t,xa,xn,xc,hel,_,_,_,hz⟩:=Rp.tok hkn2.1;rw[hel,Dk];have hK2:q.K k2=kd:=kZ hel;refine aF ?_;refine bq (λhc=>?_) λhc=>?_
  .refine tl ?_;obtain⟨a,n,c,rfl,hn,hfl⟩:=hg'.Nn (F:=F) (KX.perm<|au (l₁:=M2)) λe he'=>hF _<|hgb' e he';refine aF ?_;refine ah (λh1=>?_) λh1=>?_
   .have h1:n=1:=by omega
    subst h1
    obtain rfl:zs=[]:=by
     rw[ay,hnl]at hn;exact bK.1 (by rw[List.length_singleton]at hn;omega)
    obtain⟨r,o,e,hr,hrd,_⟩:=hfl.1.idx (c:=c) aa (show 0<1 by omega);have e:zH 1 (.slice a 1 c) (.int .i64 0)=_:=e;rw[e];refine aF ?_;refine ME.ld (hrd 0 (vn i) aa rfl) ?_;refine rr ?_;exact⟨i,true,k2,M2,N2,rfl,Rp.wk (λr _ h=>h.1) zL,SH.drop (A:=gY)<|KX.perm au,aa,λ_=>hps _ _ _<|.ch0 d k1 N1 k2 N2 i hp2 (by rw[hK2];exact hc)⟩
   .refine PU.b5 rfl ?_;refine aF ?_;refine Rp.MN KX 0 aa λH8 hR8 hS8 KY=>?_;rw[show min (k2+0) (q.n-1)=k2 by omega,hel,Rl];refine aF ?_;have hR9:Rd F (q.wn N2) k2 H8 M2:=hR8.wk (λr _ h=>h.1) zL;rw[<-A_]at hfl hn;have ah7:(fG<|zs++[i]).length=(zs++[i]).length:=aC ..
    refine az.mono (AZ hR9 hS8 (MO (hfl.ex KY) aa) _) ?_;rintro w H9 ⟨j,b,M5,rfl,ah8,aeu,hj⟩;refine aF ?_
    refine rr ?_;exact⟨j,b,k2,M5,_,rfl,ah8,SH.drop (A:=gY)<|(hS8.frame aeu).perm au,aa,λh=>by
     subst h;obtain⟨rfl,h2⟩:=hj rfl;exact hps _ _ _<|.chA d k1 N1 k2 N2 i zs hp2 (by rw[hK2];exact hc) (λe=>by subst e;simp at hn ah7;omega) h2⟩
  .have hk3:k2≠q.n-1:=λe=>absurd ((hz e).symm.trans hc) (by decide);refine Rp.next KX λH8 M8 hR8 hS8 KY=>?_
   rw[show min (k2+1) (q.n-1)=k2+1 by omega]at hR8;refine aF ?_;refine⟨q.n-(k2+1),aa,_,_,_,_,_,_,_,rfl,k2+1,M8,zs++[i],gY,N2,rfl,rfl,aa,aa,hR8,hS8,by rw[A_];exact hg',by rw[hkl'];omega,λp' N' j h=>hps p' N' j<|.ch1 d k1 N1 k2 N2 i p' N' j zs hp2 (hK2.trans hc) h,hgb'⟩
theorem aev:∀(n k:Nat)(q:RC),q.n<=k+n->Zo q k/\Zp q k/\Zq q k:=by
 intro n
 induction n with
 |zero=>
  intro k q hk;have hno:∀(F:Nat->Prop) H M,¬Rd F q k H M:=λF H M hR=>by have:=hR.le;omega
  exact⟨λF H M d _ hR=>absurd hR<|hno _ _ _,λF H M d _ hR=>absurd hR<|hno _ _ _,λF H M d _ hR=>absurd hR<|hno _ _ _⟩
 |succ n ih=>
  intro k q hk;have ih:∀N k',k<k'->Zo (q.wn N) k'/\Zp (q.wn N) k'/\Zq (q.wn N) k':=λN k' h=>ih k' (q.wn N) (by show q.n<=_;omega);have hel:∀N,Zq (q.wn N) k:=λN=>Rq<|abG λk' h=>(ih N k' h).1
  have hro:∀N,Zp (q.wn N) k:=λN=>row_of λN' k' h=>by
   rcases lV h with rfl|h
   .exact hel N'
   .exact(ih N' k' h).2.2
  refine⟨Rv λN k' h=>?_,hro q.nd,hel q.nd⟩;rcases lV h with rfl|h
  .exact hro N
  .exact(ih N k' h).2.1
theorem Rw(q:RC)(k:Nat):Zo q k:=(aev (q.n) k q aa).1
end
section
open Go.Ae Go.Ae.M
variable{S:List Nat}{F:Nat->Prop}
theorem _root_.Go.Ae.SH.mO{ty:TypeId}{n:Nat}{K:Value->Value->ag->Prop}(hS:SH S H0 H L)(hl:(aX v).length=n)(hz:z.length=n)(hk:all' dK (aX v)=true)(k:∀H2 r,SH S H0 H2 ((r,ty,aX v)::L)->Ext H H2->K (.pointer<|some ⟨r,0,none⟩) undef H2):ME (Go.Ae.iI ty z H) λp H1=>ME (Go.Ae.CS n p v H1) λu H2=>K p u H2:=by
 have hO:=SH.refl hS.wf;refine hO.iI λH1 r hO=>?_;refine hO.st 0 rfl hl aa hk λH2 hO=>?_;have hO:SH [] H H2 [(r,ty,splice z 0<|aX v)]:=hO;rw[sF _ _ aa]at hO;exact k H2 r (SH.frame (M:=[]) (L:=L) hS hO) hO.ext
theorem Rd.st(hR:Rd F q k H M){ty:TypeId}(hS:SH S H0 H<|(b,ty,cs)::(M++L))(h3:(ty==3)=false)(ah9:(ty==269)=false)(h128:(ty==128)=false){o n:Nat}(hl:(aX v).length=n)(hn:o+n<=cs.length)(hk:all' dK (aX v)=true){K:Value->ag->Prop}(kk:∀H1,Rd F q k H1 M->SH S H0 H1 ((b,ty,splice cs o<|aX v)::(M++L))->H.next<=H1.next->K undef H1):ME (CS n (.pointer<|some ⟨b,o,none⟩) v H) K:=by
 have hO:SH [b] H H [(b,ty,cs)]:=SH.own (M:=[(b,ty,cs)]) hS;have hty:wR H b ty:=(hO.bk (b,ty,cs)<|aO.2 rfl).Tn;have hne:∀t:TypeId,(ty==t)=false->¬wR H b t:=λt ht h=>by rw[hty.one h]at ht;simp at ht
 refine hO.st 0 rfl hl hn hk λH1 hO=>?_;have hO:SH [b] H H1 [(b,ty,splice cs o<|aX v)]:=hO;refine kk H1 (hR.stay hO.ext λr hr=>?_) (SH.frame (M:=[(b,ty,cs)]) hS hO) hO.ext.next
 rw[aO]at hr;subst hr;exact⟨.inr<|hne 3 h3,hne 269 ah9,hne 128 h128⟩
theorem Rd.rules(hR:Rd F q k H M)(hS:SH S H0 H<|M++L):(∃a c,H.cell q.rr 2=some (.slice a q.nu c))/\q.rr<H.next:=by
 obtain⟨rv,rcs,gr,nv,eG,gn,sc,sa,nr,nn,rfl,h1,h2,h3,h4,h5,h6,h7,h8,h9,h10,zL⟩:=hR;have hb:=hS.get 3 rfl;refine⟨?_,(hS.lo _<|aA (i:=3) rfl).2⟩;subst h5;rcases h3 with⟨rfl,rfl,_⟩|⟨r,n,dH,rfl,hn,_⟩
 .have:q.nu=0:=by simp at h4;omega
  rw[this];exact⟨none,0,hb.cell rfl⟩
 .have:n=q.nu:=by omega
  subst this;exact⟨_,_,hb.cell rfl⟩
theorem _root_.Go.Ae.SH.Zs{P:List cz}(hS:SH S H0 H<|P++(M++L)):SH S H0 H (M++(P++L)):=hS.perm (by
 rw[<-bg,<-bg];exact l_ _ au)
theorem _root_.Go.Ae.SH.MP{P:List cz}(hS:SH S H0 H<|P++(M++L))(h:SH (M.map (·.1)) H H' M'):SH S H0 H' (P++(M'++L)):=(hS.Zs.frame h).Zs
theorem Rd.Pb{P:List cz}(hR:Rd F q k H M)(hS:SH S H0 H<|P++(M++L))(j:Nat)(hj:j<=1000){K:Value->Value->ag->Prop}(h:∀H',Rd F q k H' M->SH S H0 H' (P++(M++L))->Ext H H'->K (lT q.rt q.ra) (.agg ⟨El q.cs 5<|min (k+j)<|q.n-1⟩) H'):ME (rQ none (.pointer<|some ⟨q.rr,0,none⟩) H) λv H1=>lK Pg X (KA v) [vn j] H1 (K v):=
 hR.MN hS.Zs j hj λH' hR' hS' hx=>h H' hR' hS'.Zs hx
theorem Rd.TX{P:List cz}(hR:Rd F q k H M)(hS:SH S H0 H<|P++(M++L)){K:Value->Value->ag->Prop}(h:∀H' M',Rd F q (min (k+1)<|q.n-1) H' M'->SH S H0 H' (P++(M'++L))->H.next<=H'.next->K (vL q.rp q.ra q.rt) (.agg ⟨El q.cs 5 k⟩) H'):ME (rQ none (.pointer<|some ⟨q.rr,1,none⟩) H) λv H1=>lK Pg X (KA v) [] H1 (K v):=
 hR.next hS.Zs λH' M' hR' hS' hx=>h H' M' hR' hS'.Zs hx.ext.next
theorem Zt{P:List cz}(hR:Rd F q k H M)(hS:SH S H0 H<|P++(M++L))(cd at':Int):az Pg X 110 [pr q.rr,vi cd,vi at'] H λv H'=>v=.bool false/\∃M',Rd F q k H' M'/\SH S H0 H' (P++(M'++L)):=
 az.mono (yt hR hS.Zs cd at') λv H' ⟨e,M',hR',hS'⟩=>⟨e,M',hR',hS.MP hS'⟩
theorem Zu{P:List cz}(hR:Rd F q k H M)(hS:SH S H0 H<|P++(M++L)):az Pg X 109 [pr q.rr] H λv H'=>v=.bool false/\∃M',Rd F q k H' M'/\SH S H0 H' (P++(M'++L)):=
 az.mono (Jh hR hS.Zs) λv H' ⟨e,M',hR',hS'⟩=>⟨e,M',hR',hS.MP hS'⟩
theorem adh{P:List cz}(hR:Rd F q k H M)(hS:SH S H0 H<|P++(M++L))(kd:Int)(hkd:kd≠0):az Pg X 111 [pr q.rr,vi kd] H λv H'=>∃(b:Bool)(k':Nat)(M':List cz),v=.bool b/\Rd F q k' H' M'/\SH S H0 H' (P++(M'++L))/\k<=k'/\(b=true->k'=k+1/\q.K k=kd)/\H.next<=H'.next:=
 az.mono (Fq hR hS.Zs kd hkd) λv H' ⟨b,k',M',e,hR',hS',h1,h2⟩=>⟨b,k',M',e,hR',hS.MP hS',h1,h2,hS'.ext.next⟩
abbrev sZ(nm:ByteArray)(u f w:Bool)(ch root at':Int):List Value:=[.string nm,.bool u,.bool f,.bool w,vi ch,vi root,vi at']
def ArP(q:RC)(u:Bool)(k k':Nat):Prop:=q.K k≠15/\k'=k\/q.K k=15/\k'=k+2/\u=true/\(q.K (k+1)=1\/q.K (k+1)=2)/\(q.T (k+1)=⟨#[115,107,105,112]⟩\/q.T (k+1)=⟨#[104,105,100,100,101,110]⟩\/q.T (k+1)=⟨#[119,111,114,100]⟩)
theorem Rx{ru:Nat}{at':Int}(hR:Rd F q k H M)(hS:SH S H0 H<|(ru,141,sZ nm u f w ch root at')::(M++L)):
 az Pg X 113 [pr q.rr,pr ru] H λv H'=>∃(b w':Bool)(ch':Int)(k':Nat)(M':List cz),v=.bool b/\Rd F q k' H' M'/\k<=k'/\SH S H0 H' ((ru,141,sZ nm u f w' ch' root at')::(M'++L))/\(b=true->ArP q u k k'):=by
 have hkn:=hR.le;refine ce [0,1,4,5,40] ?_;refine tl ?_;refine aF ?_;refine hR.Pb (P:=[_]) hS 0 aa λH1 xu hS1 hx1=>?_;rw[show min (k+0) (q.n-1)=k by omega];obtain⟨kd,Wd,e1,t1,xa,xn,xc,he,_,_,_,hz⟩:=xu.tok hkn.1;rw[he,Dk];refine aF ?_;refine bq (λhc=>?_) λhc=>?_
 .refine rr ?_;exact⟨true,w,ch,k,M,rfl,xu,aj _,hS1,λ_=>.inl ⟨λe=>hc<|(kZ he).symm.trans e,rfl⟩⟩
 have hk1:k+1<q.n:=by
  have:k≠q.n-1:=λe=>absurd ((hz e).symm.trans hc) (by decide);omega
 refine xu.TX (P:=[_]) hS1 λH2 M2 hR2 hS2 _=>?_;rw[show min (k+1) (q.n-1)=k+1 by omega]at hR2;have hk2:=hR2.le;refine hR2.Pb (P:=[_]) hS2 0 aa λH3 Dj tu hx3=>?_;rw[show min (k+1+0) (q.n-1)=k+1 by omega];obtain⟨Rm,at2,e2,t2,ya,yn,yc,he2,_,ht2,_,hz2⟩:=Dj.tok hk1;rw[he2];have hK:=(kZ he).trans hc;have hK2:q.K (k+1)=Rm:=kZ he2;have hT2:q.T (k+1)=t2:=y_ he2;refine tu.mO rfl rfl rfl λH4 rt vY hx4=>?_;have Et:=Dj.ex hx4;have hS:SH S H0 H4 ((rt,128,[vi Rm,vn at2,vn e2,.string t2,.slice ya yn yc])::(ru,141,sZ nm u f w ch root at')::(M2++L)):=vY;refine hS.aY ?_;refine hS.eU ?_;refine az.mono (Dl hS.wf _ _ _ _ _ rfl) ?_;rintro v H5 ⟨rfl,hx5⟩;have JF:=Et.ex hx5;have hS:=hS.call hx5;refine hS.aY ?_;refine bO (λhb=>?_) λhb=>?_
 .refine az.mono (Zu (P:=[_,_]) JF hS) ?_;rintro v H6 ⟨rfl,M6,zM,wB⟩;refine rr ?_;exact⟨false,w,ch,_,M6,rfl,zM,aa,SH.drop (A:=[_]) wB,λh=>by cases h⟩
 have adi:∀cd p:Int,az Pg X 110 [pr q.rr,vi cd,vi p] H5 λv H'=>v=.bool false/\∃M',Rd F q (k+1) H' M'/\SH S H0 H' ((ru,141,sZ nm u f w ch root at')::(M'++L)):=λcd p=>by
  refine az.mono (Zt (P:=[_,_]) JF hS cd p) ?_;rintro v H6 ⟨rfl,M6,zM,wB⟩;exact⟨rfl,M6,zM,SH.drop (A:=[_]) wB⟩
 have hk2:k+2<q.n/\(Rm=1\/Rm=2):=by
  have h3:Rm=1\/Rm=2:=by
   rcases fu (Rm=1)with h|h
   .exact .inl h
   .rcases fu (Rm=2)with h'|h'
    .exact .inr h'
    .simp[h,h']at hb
  have:k+1≠q.n-1:=λe=>by have:=hz2 e;omega
  exact⟨aa,h3⟩
 have last:∀(H6:ag)(w':Bool)(ch':Int) y,u=true->(t2=⟨#[115,107,105,112]⟩\/t2=⟨#[104,105,100,100,101,110]⟩\/t2=⟨#[119,111,114,100]⟩)->Rd F q (k+1) H6 M2->SH S H0 H6 ((ru,141,sZ nm u f w' ch' root at')::(M2++L))->dJ Pg X (sub BR [1,1,1,1,1,1,1]) (AA (pr q.rr) (pr ru) (.bool false) (pr rt) (.string t2) y H6) (f_ Pg [.tmp 4] λv H'=>∃(b w':Bool)(ch':Int)(k':Nat)(M':List cz),v=.bool b/\Rd F q k' H' M'/\k<=k'/\SH S H0 H' ((ru,141,sZ nm u f w' ch' root at')::(M'++L))/\(b=true->ArP q u k k')):=by
  intro H6 w' ch' y hu ht zM wB;refine tl ?_;refine aF ?_;refine zM.TX (P:=[_]) wB λH7 M7 Rp KX _=>?_;rw[show min (k+1+1) (q.n-1)=k+2 by omega]at Rp;refine rr ?_;exact⟨true,w',ch',_,M7,rfl,Rp,aa,KX,λ_=>.inr ⟨hK,rfl,hu,by rw[hK2];exact hk2.2,by rw[hT2];exact ht⟩⟩
 refine hS.dQ ?_;refine hS.aY ?_;refine bO (λhb2=>?_) λhb2=>?_
 .refine hS.dQ ?_;refine az.mono (adi _ _) ?_;rintro v H6 ⟨rfl,M6,zM,wB⟩;refine rr ?_;exact⟨false,w,ch,_,M6,rfl,zM,aa,wB,λh=>by cases h⟩
 refine hS.dQ ?_;refine hS.aY ?_;refine bO (λhb3=>?_) λhb3=>?_
 .refine JF.st (SH.drop (A:=[_]) hS) rfl rfl rfl rfl (ai rfl) rfl λH6 zM wB _=>?_;exact last _ _ _ _ (by simpa using hb2) (.inl<|by simpa using hb3) zM wB
 refine bO (λhb4=>?_) λhb4=>?_
 .refine JF.st (SH.drop (A:=[_]) hS) rfl rfl rfl rfl (ai rfl) rfl λH6 zM wB _=>?_;exact last _ _ _ _ (by simpa using hb2) (.inr<|.inl<|by simpa using hb4) zM wB
 refine bO (λhb5=>?_) λhb5=>?_
 .refine JF.st (SH.drop (A:=[_]) hS) rfl rfl rfl rfl (ai rfl) rfl λH6 zM wB _=>?_;exact last _ _ _ _ (by simpa using hb2) (.inr<|.inr<|by simpa using hb5) zM wB
 refine hS.dQ ?_;refine az.mono (adi _ _) ?_;rintro v H6 ⟨rfl,M6,zM,wB⟩;refine rr ?_;exact⟨false,w,ch,_,M6,rfl,zM,aa,wB,λh=>by cases h⟩
end
section
open Go.Ae Go.Ae.M
variable{S:List Nat}{F:Nat->Prop}
theorem _root_.Go.Ae.SH.abI{ty:TypeId}{K:Value->ag->Prop}(hS:SH S H0 H L)(k:∀H2 r,SH S H0 H2 ((r,ty,z)::L)->Ext H H2->K (.pointer<|some ⟨r,0,none⟩) H2):ME (Go.Ae.iI ty z H) K:=by
 have hO:=SH.refl hS.wf;refine hO.iI λH1 r hO=>?_;exact k H1 r (SH.frame (M:=[]) (L:=L) hS hO) hO.ext
theorem zw(P M L:List cz):(P++(M++L)).Perm (M++(P++L)):=by
 rw[<-bg,<-bg];exact l_ _ au
abbrev RC.wr(q:RC)(N:List PN)(R:List PR):RC:={q with nd:=N,rl:=R}
def Gd(F:Nat->Prop)(q:RC)(k:Nat)(S:List Nat)(H0:ag)(L:List cz)(v:Value)(H':ag):Prop:=∃(b:Bool)(k':Nat)(M':List cz)(N':List PN)(R':List PR),v=.bool b/\Rd F (q.wr N' R') k' H' M'/\SH S H0 H' (M'++L)/\k<=k'/\(b=true->k<k'/\RuP q.K q.T k q.nd q.rl k' N' R')
theorem Gd.no{k':Nat}{ru:Nat}(hk:k<=k')(hR:Rd F (q.wn N) k' H M')(hS:SH S H0 H<|(ru,141,l)::(M'++L)):Gd F q k S H0 L (.bool false) H:=
 ⟨false,k',M',N,q.rl,rfl,hR,SH.drop (A:=[_]) hS,hk,λh=>by cases h⟩
def RnP(q:RC)(k0 k:Nat)(f:Bool):Prop:=(f=true<->q.K k0=2/\q.T k0=⟨#[102,114,97,103,109,101,110,116]⟩/\(q.K (k0+1)=1\/q.K (k0+1)=2))/\k=(if f=true then k0+1 else k0)
theorem Zv{ru root:Nat}{at':Int}(hnm:nm.size<=1000000)(hk:k0<k)(hp:RuP q.K q.T k0 q.nd q.rl k N<|q.rl++[(nm,u,root)])(hR:Rd F (q.wn N) k H M)(hS:SH S H0 H<|(ru,141,sZ nm u f w ch (root:Int) at')::(M++L))(x4 x5 x6 x7:Value)(rg):
 dJ Pg X (sub jg [1,1,1,1,1,1,1,1,1,1,1,1,1,1]) (kQ (pr q.rr) (.bool false) (pr ru) x4 x5 x6 x7 rg H) (f_ Pg [.tmp 2]<|Gd F q k0 S H0 L):=by
 have hty:=hR.ty<|SH.drop (A:=[_]) hS
 have Pd:¬wR H ru 3/\¬wR H ru 269/\¬wR H ru 128:=by
  have h:=(hS.bk _<|aD ..).Tn;exact⟨λht=>(by have:=h.one ht;cases this),λht=>(by have:=h.one ht;cases this),λht=>(by have:=h.one ht;cases this)⟩
 have hR0:=hR;have hnq:(q.wn N).nu=q.nu:=rfl;have hnu:q.nu<120:=by obtain⟨_,_,_,_,_,_,_,_,h,_⟩:=hp;exact h
 have hS0:=hS;obtain⟨rv,rcs,gr,nv,eG,gn,sc,sa,nr,nn,rfl,h1,h2,h3,h4,h5,h6,h7,h8,h9,h10,zL⟩:=hR
 obtain⟨na',nc,cc,rfl,hnl,_⟩:∃a n c,rv=.slice a n c/\rcs.length=n*7/\True:=by
  rcases h3 with⟨rfl,rfl,_⟩|⟨r,n,dH,rfl,hn,_⟩
  .exact⟨_,_,_,rfl,by simp,trivial⟩
  .exact⟨_,_,_,rfl,hn,trivial⟩
 have hnn:nc=nr:=by omega
 subst hnn;subst h5;have hS:=SH.own (M:=(ru,141,sZ nm u f w ch root at')::(q.rt,122,[.slice q.a q.n q.c])::(q.ra,3,[vn k])::(q.rp,129,[lT q.rt q.ra])::(q.rr,133,[lT q.rt q.ra,vL q.rp q.ra q.rt,.slice na' q.nu cc,nv,vi sc,vi sa])::(gr++gn)) (L:=L) hS0;refine tl ?_
 repeat(first|(refine hS.aY ?_)|(refine hS.kI ?_)|(refine hS.nN ?_))
 refine hS.U8 rfl rfl rfl aa λH2 rx hS qP=>?_;have hS:=hS.to (cs':=sZ nm u f w ch root at') rfl;have hS:=hS.perm (L':=(rx,141,sZ nm u f w ch root at')::(gr++((ru,141,sZ nm u f w ch root at')::(q.rt,122,[.slice q.a q.n q.c])::(q.ra,3,[vn k])::(q.rp,129,[lT q.rt q.ra])::(q.rr,133,[lT q.rt q.ra,vL q.rp q.ra q.rt,.slice na' q.nu cc,nv,vi sc,vi sa])::gn)))<|List.Perm.cons _<|zw [_,_,_,_,_] gr gn;refine h3.Ou hS aa rfl rfl aa λv' H3 gr' hg' hS hx' QI uI=>?_;have hS:=hS.perm<|zw gr' [_,_,_,_,_] gn;simp only[a_,bB]at hS
 obtain⟨va,vn',vc,rfl,hvl,_⟩:∃a n c,v'=.slice a n c/\(rcs++sZ nm u f w ch root at').length=n*7/\True:=by
  rcases hg' with⟨_,h,_⟩|⟨r,n,dH,rfl,hn,_⟩
  .exact absurd h (by simp)
  .exact⟨_,_,_,rfl,hn,trivial⟩
 have hvn:vn'=q.nu+1:=by rw[ay,h4]at hvl;simp at hvl;omega
 subst hvn;refine hS.qJ λHn hS=>?_;have hne:q.rr≠ru:=(hS.nq 0 4 rfl rfl aa).symm;refine splitK (λK hK=>?_) ?_
 .simp only[qP,cB,dn];generalize q.rr=rr at hne;rcases uI with e|e<;>rw[e]<;>apply q_ (a:=rr) (b:=ru) hne (by intros;rfl) (by kernel_rfl) (by kernel_rfl) hK
 have hx:=hS.ext;have hE:=ze (es:=7) (n:=q.nu) h4 (xs:=sZ nm u f w ch root at') rfl;refine rr ?_;refine⟨true,k,(q.rt,122,[.slice q.a q.n q.c])::(q.ra,3,[vn k])::(q.rp,129,[lT q.rt q.ra])::(q.rr,133,[lT q.rt q.ra,vL q.rp q.ra q.rt,.slice va (q.nu+1) vc,nv,vi sc,vi sa])::(gr'++gn),N,q.rl++[(nm,u,root)],rfl,?_,?_,aa,λ_=>⟨hk,hp⟩⟩
 .refine⟨.slice va (q.nu+1) vc,rcs++sZ nm u f w ch root at',gr',nv,eG,gn,sc,sa,q.nu+1,nn,rfl,h1,?_,hg',hvl,by show _=(q.rl++[(nm,u,root)]).length;rw[ay];rfl,λi y hi=>?_,h7,h8,h9,λi y hi=>?_,zL⟩
  .refine h2.st hx (λr hr=>.inr ?_) (aj _);rcases bP.1 hr with rfl|hr
   .exact Pd.2
   .exact(hty r hr).2
  .have hi:(q.rl++[(nm,u,root)])[i]?=some y:=hi;rcases aN i q.nu with h|h
   .rw[hE.1 i h];rw[aP h]at hi;exact h6 i y hi
   .have hi2:=(aL.1 hi).1;rw[ay]at hi2;have hi2:i<q.nu+1:=hi2;obtain rfl:i=q.nu:=by omega
    rw[bf (aj _),dY]at hi;cases hi;rw[hE.2];exact⟨f,w,ch,at',rfl,hnm⟩
  .have hst:∀r∈((ru,141,sZ nm u f w ch root at')::(q.rt,122,[.slice q.a q.n q.c])::(q.ra,3,[vn k])::(q.rp,129,[lT q.rt q.ra])::(q.rr,133,[lT q.rt q.ra,vL q.rp q.ra q.rt,.slice na' q.nu cc,nv,vi sc,vi sa])::(gr++gn)).map (λe:cz=>e.1),(¬F r\/¬wR H r 3)/\¬wR H r 269:=λr hr=>by
    rcases bP.1 hr with rfl|hr
    .exact⟨.inr Pd.1,Pd.2.1⟩
    .exact⟨(hty r hr).1.imp_left (λe=>by rw[e];exact zL),(hty r hr).2.1⟩
   exact(h10 i y hi).st hx hst
 .have hF:=SH.frame (M:=(ru,141,sZ nm u f w ch root at')::(q.rt,122,[.slice q.a q.n q.c])::(q.ra,3,[vn k])::(q.rp,129,[lT q.rt q.ra])::(q.rr,133,[lT q.rt q.ra,vL q.rp q.ra q.rt,.slice na' q.nu cc,nv,vi sc,vi sa])::(gr++gn)) hS0 hS;exact SH.drop (A:=[_]) hF
theorem aew{ru:Nat}{at':Int}(hF:∀r,H.next<=r->F r)(hnm:nm.size<=1000000)(hq:RnP q k0 k f)(hK:q.K k=1/\u=true\/q.K k=2/\u=false)(hT:q.T k=nm)(hfu:¬(f=true/\u=false))(hnu:q.nu<120)(hR:Rd F q k H M)(hS:SH S H0 H<|(ru,141,sZ nm u f w ch root at')::(M++L))(x4 x5 x6 x7:Value)(rg):
 dJ Pg X (sub jg [1,1,1,1,1,1,1,1]) (kQ (pr q.rr) (.bool false) (pr ru) x4 x5 x6 x7 rg H) (f_ Pg [.tmp 2]<|Gd F q k0 S H0 L):=by
 have hkn:=hR.le;have hk:k0<=k:=by have h:k=_:=hq.2;rw[h];split<;>omega
 have hk1:k+1<q.n:=by
  obtain⟨kd',at',e',t,xa,xn,xc,he,_,_,_,hz⟩:=hR.tok hkn.1;have hKk:q.K k=kd':=kZ he;have:k≠q.n-1:=λe=>by have:=hz e;omega
  omega
 refine tl ?_;refine aF ?_;refine hR.TX (P:=[_]) hS λH1 M1 xu hS1 hn1=>?_;rw[show min (k+1) (q.n-1)=k+1 by omega]at xu;refine az.mono (adh (P:=[_]) xu hS1 5<|by decide) ?_;rintro v H2 ⟨b,k2,M2,rfl,hR2,hS2,hk2,hb2,hn1'⟩;refine aF ?_;refine bO (λhb=>?_) λhb=>?_
 .refine rr ?_;exact(.no aa hR2 hS2)
 have hb':b=true:=by simpa using hb
 obtain⟨rfl,hK5⟩:=hb2 hb';have hkn2:=hR2.le;have hn2:H.next<=H2.next:=by omega
 refine az.mono (Rw q (k+1+1) F H2 M2 0 (λr hr=>hF r aa) hR2 hS2.Zs.own aa) ?_;rintro v H3 ⟨i,b3,k3,M3,N3,rfl,Dj,aia,hk3,hb3⟩;have tu:=hS2.MP aia;refine aF ?_;refine bO (λhb=>?_) λhb=>?_
 .refine rr ?_;exact(.no aa Dj tu)
 have hp3:=hb3 (by simpa using hb);refine Dj.st tu rfl rfl rfl rfl (ai rfl) rfl λH4 Et vY _=>?_;have vY:SH S H0 H4 ((ru,141,sZ nm u f w ch i at')::(M3++L)):=vY;refine az.mono (Rx (q:=q.wn N3) Et vY) ?_;rintro v H5 ⟨b5,w5,ch5,k5,M5,rfl,JF,hk5,hS5,hb5⟩;refine aF ?_;refine bO (λhb=>?_) λhb=>?_
 .refine rr ?_;exact(.no aa JF hS5)
 have hp5:=hb5 (by simpa using hb);refine az.mono (adh (P:=[_]) JF hS5 7<|by decide) ?_;rintro v H6 ⟨b6,k6,M6,rfl,zM,wB,hk6,hb6,_⟩;refine aF ?_;refine bO (λhb=>?_) λhb=>?_
 .refine rr ?_;exact(.no aa zM wB)
 obtain⟨rfl,hK7⟩:=hb6 (by simpa using hb);have zM:Rd F (q.wn N3) (k5+1) H6 M6:=zM;refine Zv hnm aa ⟨f,k,k3,k5,i,hq.1,hq.2,aa,hnu,λh=>?_,hK5,hp3,?_,hK7,rfl,?_⟩ zM wB _ _ _ _ _
 .rcases hK with⟨h1,h2⟩|⟨h1,h2⟩
  .omega
  .exact hfu ⟨h.1,h2⟩
 .rcases hp5 with⟨h1,h2⟩|⟨h1,h2,h3,h4⟩
  .exact .inl ⟨h1,h2⟩
  .refine .inr ⟨h1,h2,?_,h4⟩;rcases hK with h|h
   .exact h.1
   .rw[h3]at h;cases h.2
 .rw[hT];rcases hK with⟨h1,rfl⟩|⟨h1,rfl⟩<;>simp[h1]
theorem Zw{ru:Nat}(hF:∀r,H.next<=r->F r)(hnu:q.nu<=120)(hq:RnP q k0 k f)(hR:Rd F q k H M)(hS:SH S H0 H<|(ru,141,sZ ⟨#[]⟩ false f false 0 0 0)::(M++L))(x4 x5 x6 x7:Value)(rg):
 dJ Pg X (sub jg [1,1,1]) (kQ (pr q.rr) (.bool false) (pr ru) x4 x5 x6 x7 rg H) (f_ Pg [.tmp 2]<|Gd F q k0 S H0 L):=by
 have hkn:=hR.le;have hk0:k0<=k:=by have h:k=_:=hq.2;rw[h];split<;>omega
 refine tl ?_;refine aF ?_;refine hR.Pb (P:=[_]) hS 0 aa λH1 xu hS1 hx1=>?_;rw[show min (k+0) (q.n-1)=k by omega];obtain⟨kd,Wd,e1,t1,xa,xn,xc,he,_,ht1,_,hz⟩:=xu.tok hkn.1;rw[he]
 have Pd:¬wR H1 ru 3/\¬wR H1 ru 269/\¬wR H1 ru 128:=by
  have h:=(hS1.bk _<|aD ..).Tn;exact⟨λht=>(by have:=h.one ht;cases this),λht=>(by have:=h.one ht;cases this),λht=>(by have:=h.one ht;cases this)⟩
 have hS1:SH S H0 H1 ([(ru,141,sZ ⟨#[]⟩ false f false 0 0 0)]++(M++L)):=hS1;refine hS1.own.mO rfl rfl rfl λH4 rt vY hx4=>?_;have hS:SH [ru] H1 H4 [(rt,128,[vi kd,vn Wd,vn e1,.string t1,.slice xa xn xc]),(ru,141,sZ ⟨#[]⟩ false f false 0 0 0)]:=vY;refine hS.aY ?_;refine hS.eU ?_;refine az.mono (Dl hS.wf _ _ _ _ _ rfl) ?_;rintro v H5 ⟨rfl,hx5⟩;have hS:=hS.call hx5;refine hS.aY ?_;refine bO (λhb=>?_) λhb=>?_
 .have hf:=hS1.frame (M:=[_]) hS
  have JF:=xu.stay hS.ext λr hr=>by
   rw[aO]at hr;subst hr;exact⟨.inr Pd.1,Pd.2⟩
  refine az.mono (Zu (P:=[_,_]) JF hf) ?_;rintro v H6 ⟨rfl,M6,zM,wB⟩;refine rr ?_;exact(.no hk0 zM<|SH.drop (A:=[_]) wB)
 have hKn:q.K k=1/\decide (kd=1)=true\/q.K k=2/\decide (kd=1)=false:=by
  have hK:q.K k=kd:=kZ he;rw[hK];rcases fu (kd=1)with h|h
  .exact .inl ⟨h,aS h⟩
  .refine .inr ⟨?_,bM h⟩;rcases fu (kd=2)with h'|h'
   .exact h'
   .simp[h,h']at hb
 repeat(first|(refine hS.aY ?_)|(refine hS.kI ?_)|(refine hS.qJ λHn hS=>?_))
 have hne:rt≠ru:=hS.nq 0 1 rfl rfl aa;refine splitK (λK hK=>?_) ?_
 .simp only[cB,dn];apply q_ (a:=rt) (b:=ru) hne (by intros;rfl) (by kernel_rfl) (by kernel_rfl) hK
 have hx:=hS.ext;generalize hM (hM (hM H5 _) _) Hn=H6 at*;have hSf:=hS1.frame (M:=[_]) hS;have hSf:SH S H0 H6 ((ru,141,sZ t1 (decide<|kd=1) f false 0 0 Wd)::(M++L)):=SH.drop (A:=[_]) hSf;have hn6:H.next<=H6.next:=by have:=hx.next;have:=hx1.next;omega
 have zM:Rd F q k H6 M:=xu.stay hx λr hr=>by
  have hr:r∈[ru]:=hr;rw[aO]at hr;subst hr;exact⟨.inr Pd.1,Pd.2⟩
 clear hS;obtain⟨⟨ra,rc,hrc⟩,hrl⟩:=zM.rules (L:=[_]++L)<|SH.Zs (P:=[_]) hSf;have hS:=hSf;refine ME.ld hrc ?_;refine aF ?_;refine ah (λhc=>?_) λhc=>?_
 .refine hS.dQ ?_;refine az.mono (Zt (P:=[_]) zM hS 3 _) ?_;rintro v H7 ⟨rfl,M7,Rp,KX⟩;refine rr ?_;exact(.no hk0 Rp KX)
 refine hS.dQ ?_;refine hS.aY ?_
 have sU:∀(b:Bool) rg,BA rg 72=.bool b->(b=false->¬(f=true/\decide (kd=1)=false))->dJ Pg X (sub jg [1,1,1,1,1,1,1,0,1]) (kQ (pr q.rr) (.bool false) (pr ru) x4 (pr rt) x6 x7 rg H6) (nR Pg X (sub jg [1,1,1,1,1,1,1,1])<|f_ Pg [.tmp 2]<|Gd F q k0 S H0 L):=by
  intro b rg hb hb2;refine tl ?_;rw[hb];refine aF ?_;refine bO (λhb=>?_) λhb=>?_
  .refine hS.dQ ?_;refine az.mono (Zt (P:=[_]) zM hS 18 _) ?_;rintro v H7 ⟨rfl,M7,Rp,KX⟩;refine rr ?_;exact(.no hk0 Rp KX)
  .exact aew (λr hr=>hF r aa) ht1 hq hKn (y_ he) (hb2 hb) aa zM hS _ _ _ _ _
 refine bO (λhb=>?_) λhb=>?_
 .refine hS.dQ ?_;refine hS.aY ?_;exact sU _ _ rfl λh=>by simp_all
 .exact sU _ _ rfl λh=>by simp_all
theorem Vs(hF:∀r,H.next<=r->F r)(hnu:q.nu<=120)(hR:Rd F q k H M)(hS:SH S H0 H<|M++L):az Pg X 73 [pr q.rr] H (Gd F q k S H0 L):=by
 have hkn:=hR.le;refine ce [0,2,3,4,5,6,7] ?_;refine tl ?_;refine hS.abI λH1 ru hS1 hx1=>?_;have xu:=hR.ex hx1;have hS1:SH S H0 H1 ((ru,141,sZ ⟨#[]⟩ false false false 0 0 0)::(M++L)):=hS1;refine aF ?_;refine xu.Pb (P:=[_]) hS1 0 aa λH2 hR2 hS2 hx2=>?_;rw[show min (k+0) (q.n-1)=k by omega];obtain⟨kd,Wd,e1,t1,xa,xn,xc,he,_,_,_,hz⟩:=hR2.tok hkn.1;rw[he];refine hS2.mO rfl rfl rfl λH3 rt tu hx3=>?_;have Dj:=hR2.ex hx3;have hS:SH S H0 H3 ((rt,128,[vi kd,vn Wd,vn e1,.string t1,.slice xa xn xc])::(ru,141,sZ ⟨#[]⟩ false false false 0 0 0)::(M++L)):=tu;have hn3:H.next<=H3.next:=by have:=hx1.next;have:=hx2.next;have:=hx3.next;omega
 have mid:∀(b:Bool) x5 x6 x7 rg H4,BA rg 28=.bool b->(b=true<->q.K k=2/\q.T k=⟨#[102,114,97,103,109,101,110,116]⟩/\(q.K (k+1)=1\/q.K (k+1)=2))->Rd F q k H4 M->H3.next<=H4.next->SH S H0 H4 ((ru,141,sZ ⟨#[]⟩ false false false 0 0 0)::(M++L))->dJ Pg X (sub jg [1,1,0,1,1]) (kQ (pr q.rr) (.bool false) (pr ru) (pr rt) x5 x6 x7 rg H4) (nR Pg X (sub jg [1,1,1])<|f_ Pg [.tmp 2]<|Gd F q k S H0 L):=by
  intro b x5 x6 x7 rg H4 hb hbf Et hn4 vY;refine tl ?_;rw[hb];refine aF ?_;refine bO (λhb=>?_) λhb=>?_
  .refine Et.TX (P:=[_]) vY λH5 M5 JF hS5 hn5=>?_;have hk1:k≠q.n-1:=λe=>by have:=hz e;have h:=(hbf.1 hb).1;have hK:q.K k=kd:=kZ he;omega
   rw[show min (k+1) (q.n-1)=k+1 by omega]at JF;refine JF.st hS5 rfl rfl rfl rfl (ai rfl) rfl λH6 zM wB hn6=>?_;exact Zw (λr hr=>hF r aa) hnu ⟨⟨λ_=>hbf.1 hb,λ_=>rfl⟩,rfl⟩ zM wB _ _ _ _ _
  .exact Zw (f:=false) (λr hr=>hF r aa) hnu ⟨⟨λh=>by(cases h),λh=>absurd (hbf.2 h) (by rw[hb];decide)⟩,rfl⟩ Et vY _ _ _ _ _
 repeat(first|(refine hS.aY ?_)|(refine hS.dQ ?_))
 refine ah (λhc=>?_) λhc=>?_
 .refine hS.dQ ?_;refine hS.aY ?_;refine bO (λhb=>?_) λhb=>?_
  .refine Dj.Pb (P:=[_,_]) hS 1 aa λH4 Et vY hx4=>?_;obtain⟨kd3,at3,e3,t3,ya,yn,yc,he3,_⟩:=Et.tok (i:=min (k+1)<|q.n-1) aa;rw[he3];refine az.mono (Dl vY.wf _ _ _ _ _ rfl) ?_;rintro v H5 ⟨rfl,hx5⟩
   exact mid _ _ _ _ _ _ rfl (by
    have hk1:k≠q.n-1:=λe=>by have:=hz e;omega
    rw[show min (k+1) (q.n-1)=k+1 by omega]at he3;rw[show q.K k=kd from kZ he,show q.T k=t1 from y_ he,show q.K (k+1)=kd3 from kZ he3];simp_all) (Et.ex hx5) (by have:=hx4.next;have:=hx5.next;omega) (SH.drop (A:=[_])<|vY.call hx5)
  .exact mid _ _ _ _ _ _ rfl (by rw[show q.K k=kd from kZ he,show q.T k=t1 from y_ he];simp_all) Dj (aj _)<|SH.drop (A:=[_]) hS
 .exact mid _ _ _ _ _ _ rfl (by rw[show q.K k=kd from kZ he,show q.T k=t1 from y_ he];simp_all) Dj (aj _)<|SH.drop (A:=[_]) hS
end
section
open Go.Ae Go.Ae.M
variable{S:List Nat}{F:Nat->Prop}
def Gr(b:Nat)(H:ag)(ra:Option Addr)(rn:Nat)(rcs:List Value)(na:Option Addr)(nn:Nat)(eG:List Value):Prop:=
 jT (b<=·) 141 H ra rn 7 rcs/\rn<=120/\(∀i,i<rn->RuC (El rcs 7 i))/\jT (b<=·) 145 H na nn 5 eG/\nn<=4000/\∀i,i<nn->NoC (b<=·) H (El eG 5 i)
def Kz(K:Nat->Int)(n:Nat):Prop:=(∀i,n<=i->K i=0)/\n<=20001/\K (n-1)=0
def GrX(s:ByteArray)(b:Nat)(H:ag)(rn:Nat)(rcs:List Value)(nn:Nat)(eG:List Value):Prop:=∃K T n nd rl,Lx s K T n 0 0/\Kz K n/\O9 K T 0 [] [] nd rl/\rn=rl.length/\nn=nd.length/\(∀i y,rl[i]?=some y->RuX (El rcs 7 i) y)/\∀i x,nd[i]?=some x->TW (b<=·) H (El eG 5 i) x
theorem Zx{n:Nat}(hl:cs.length=n*5)(hi:n<=i):BV cs i=0:=by
 have:El cs 5 i=[]:=by unfold El;rw[gJ aa];rfl
 unfold BV;rw[this];rfl
theorem Zy{n:Nat}(h:O5 b H a n cs):BV cs (n-1)=0:=by
 have h1:=h.2.1;obtain⟨k,a1,e1,t1,rs,he,_⟩:=h.2.2.2.1 (n-1) aa;have h0:=h.2.2.2.2;have:=bW (λl=>l[0]?) he;simp only[j4]at this;have e:cs[(n-1)*5]?=some (vi k):=by simpa using this
 rw[h0]at e;cases e;unfold BV;rw[he];rfl
def Zz(s:ByteArray)(b:Nat)(v:Value)(H:ag):Prop:=∃ra rn rc rcs na nn nc eG,∃(cd e:Int),v=.tuple ⟨[.agg ⟨[.slice ra rn rc,.slice na nn nc]⟩,.agg ⟨[vi cd,vi e]⟩]⟩/\Gr b H ra rn rcs na nn eG/\(na=none\/nc=dV 5)/\(1<=rn->GrX s b H rn rcs nn eG)
theorem Gr.nil(b:Nat)(H:ag):Gr b H none 0 [] none 0 []:=
 ⟨jT.nil _ _ _ _ _,aa,λi h=>absurd h aa,jT.nil _ _ _ _ _,aa,λi h=>absurd h aa⟩
theorem Rd.agK(hR:Rd F q k H M)(hS:SH S H0 H<|M++L)(j:Nat)(hj:j<=1000){K:Value->Value->ag->Prop}(h:∀H',Rd F q k H' M->SH S H0 H' (M++L)->Ext H H'->K (lT q.rt q.ra) (.agg ⟨El q.cs 5<|min (k+j)<|q.n-1⟩) H'):ME (rQ none (.pointer<|some ⟨q.rp,0,none⟩) H) λv H1=>lK Pg X (KA v) [vn j] H1 (K v):=by
 have hR0:=hR;obtain⟨rv,rcs,gr,nv,eG,gn,sc,sa,nr,nn,rfl,_⟩:=hR;refine hS.ld 2 rfl rfl ?_;show az Pg X 71 [vn j,pr q.rt,pr q.ra] H<|K _;refine az.mono (Zm hR0 hS j hj) ?_;rintro v H' ⟨rfl,hx⟩;exact h H' (hR0.ex hx) (hS.call hx) hx
theorem oK{α:Type}{x:α}(A B:List α){C:List α}(h:(A++B).Perm C):(A++x::B).Perm (x::C):=jE.trans<|h.cons x
theorem Vt(hw:Wf H)(x0:Value)(q0:RC)(rs rg re rf:Nat)(f8:Value)(H1:ag)(hge:H.next<=q0.ra/\q0.ra<H1.next)(hR:Rd (λr=>H.next<=r/\r≠q0.ra) (q0.wr [] []) 0 H1 M)(TY:Lx s q0.K q0.T q0.n 0 0/\Kz q0.K q0.n)(xe:List Value)(hS:SH [] H H1<|M++[(re,72,xe),(rs,72,[vi 0,vi 0]),(rg,69,[.slice none 0 0,.slice none 0 0])])(x4 x6:Value)(l7):
 dJ Pg X (.loop<|sub F5 [1,1,1,1,1,1,1,0,1,0,0]) (Mj x0 (pr rg) (pr rs) x4 (pr re) x6 (pr q0.rp) f8 (pr q0.rr) (.bool true) l7 H1) (j3 0<|nR Pg X (sub F5 [1,1,1,1,1,1,1,1])<|f_ Pg [.cell 2 69,.cell 3 72]<|Q1 (Zz s H.next) H):=by
 refine zm 10 (I:=λm dR H'=>∃(b:Bool)(N:List PN)(R:List PR)(k:Nat)(M:List cz),dR=.bool b/\Rd (λr=>H.next<=r/\r≠q0.ra) (q0.wr N R) k H' M/\k+m=q0.n/\R.length<=120/\q0.ra<H'.next/\(∀N' R',(b=true->O9 q0.K q0.T k N R N' R')->(b=false->N'=N/\R'=R)->O9 q0.K q0.T 0 [] [] N' R')/\SH [] H H' (M++[(re,72,xe),(rs,72,[vi 0,vi 0]),(rg,69,[.slice none 0 0,.slice none 0 0])])) ?_ q0.n ⟨true,[],[],0,M,rfl,hR,aa,aM _,hge.2,λ_ _ h _=>h rfl,hS⟩;clear hR hS;rintro m dR l7 H2 ⟨b,N,R,k,M2,rfl,hR,hkm,hj,hra,Vu,hS⟩;refine tl ?_;refine aF ?_;refine bO (λhb=>?_) λhb=>?_;rotate_left
 .refine tl ?_;obtain⟨rv,rcs,gr,nv,eG,gn,sc,sa,nr,nn,rfl,h1,h2,h3,h4,h5,h6,h7,h8,h9,h10,zL⟩:=hR;have h5:nr=R.length:=h5;subst h5;have h9':nn=N.length:=h9.2;have hS:=hS.perm<|zw _ [_,_,_] [];simp only[a_,bB,aQ]at hS;obtain⟨va,vn',vc,rfl⟩:∃a n c,rv=.slice a n c:=by rcases h3 with⟨rfl,_⟩|⟨r,n,dH,rfl,_⟩<;>exact⟨_,_,_,rfl⟩
  obtain⟨wa,wn,wc,rfl⟩:∃a n c,nv=.slice a n c:=by rcases h7 with⟨rfl,_⟩|⟨r,n,dH,rfl,_⟩<;>exact⟨_,_,_,rfl⟩
  refine aF ?_;refine hS.eU ?_;have hS0:=hS;have hS:=SH.own (M:=[(re,72,xe),(rs,72,[vi 0,vi 0]),(rg,69,[.slice none 0 0,.slice none 0 0])]) hS0
  repeat(first|(refine PU.b2 rfl ?_)|(refine hS.kJ λHn hS=>?_))
  refine rr ?_
  repeat(refine hS.eU ?_)
  have hx:=hS.ext;have hS:=hS0.frame (M:=[_,_,_]) hS;have hxH:Ext H Hn:=hS.ext;have hf:∀e:cz,e∈gr++gn->H.next<=e.1:=λe he=>hS.zN<|bD [_,_,_,_,_,_,_] he
  obtain⟨a1,n1,c1,e1,hl1,hf1⟩:=h3.Nn (F:=(H.next<=·)) (hS.perm<|zw [_,_,_,_,_,_,_] gr gn) λe he=>hf e<|bI _ he;obtain⟨a2,n2,c2,e2,hl2,hf2⟩:=h7.Nn (F:=(H.next<=·)) (hS.perm<|(iV [_,_,_,_,_,_,_] au).trans<|zw [_,_,_,_,_,_,_] gn gr) λe he=>hf e<|bD _ he;cases e1;cases e2;obtain rfl:vn'=R.length:=by omega
  obtain rfl:wn=nn:=by omega
  have hO:=SH.own (M:=[(re,72,xe),(rs,72,[vi 0,vi 0]),(rg,69,[.slice none 0 0,.slice none 0 0])]) hS0;have hty:=hO.Gt (ty:=3) rfl;have aib:=hO.Gt (ty:=269) rfl
  have hcap:wa=none\/wc=dV 5:=by
   rcases h7 with⟨e,_,_⟩|⟨r,n,dH,e,_,_⟩<;>cases e
   .exact .inl rfl
   .exact .inr rfl
  have hno:∀i x,N[i]?=some x->TW (H.next<=·) Hn (El eG 5 i) x:=λi x hi=>((h10 i x hi).wk λr _ h=>h.1).st hx λr hr=>⟨.inr<|hty r hr,aib r hr⟩;have hbf:b=false:=hb;refine⟨⟨va,R.length,vc,rcs,wa,wn,wc,eG,0,0,rfl,⟨hf1,hj,λi hi=>(h6 i _<|ae hi).c,hf2,h9.1,λi hi=>(hno i _<|ae<|h9'▸hi).c⟩,hcap,λ_=>⟨q0.K,q0.T,q0.n,N,R,TY.1,TY.2,Vu _ _ (λh=>by rw[hbf]at h;cases h) λ_=>⟨rfl,rfl⟩,rfl,h9',h6,hno⟩⟩,hxH⟩
 have hbt:b=true:=by simpa using hb
 refine az.mono (Vs (F:=λr=>H.next<=r/\r≠q0.ra) (q:=q0.wr N R) (λr hr=>⟨?_,?_⟩) hj hR hS) ?_
 .have:=hS.ext.next;omega
 .omega
 rintro v H3 ⟨b2,k3,M3,N3,R3,rfl,Dj,tu,hk3,hb3⟩;refine aF ?_;refine bO (λhb=>?_) λhb=>?_
 .have hb':b2=false:=by simpa using hb
  subst hb';obtain⟨rv,rcs,gr,nv,eG,gn,sc,sa,nr,nn,rfl,h1,h2,h3,h4,h5,h6,h7,h8,h9,h10,zL⟩:=Dj;have hS:=tu.perm<|zw _ [_,_,_] [];simp only[a_,bB,aQ]at hS
  repeat(first|(refine hS.aY ?_)|(refine PU.b2 rfl ?_)|(refine hS.nN ?_)|(refine hS.qJ λHn hS=>?_))
  refine splitK (λK hK=>?_) ?_
  .simp only[cB,dn];have n1:=hS.nq 1 2 rfl rfl aa;have n2:=hS.nq 1 6 rfl rfl aa;have n3:=hS.nq 2 6 rfl rfl aa;generalize q0.rr=rr at n2 n3|-;apply Ar (a:=rs) (b:=rg) (c:=rr) n1 n2 n3 (by intros;rfl) (by kernel_rfl) (by kernel_rfl) hK
  refine rr ?_
  repeat(refine hS.eU ?_)
  exact⟨⟨none,0,0,[],none,0,0,[],sc,sa,rfl,Gr.nil _ _,.inl rfl,λh=>absurd h aa⟩,hS.ext⟩
 have hb':b2=true:=by simpa using hb
 subst hb';have hk4:=hb3 rfl;have Dj:Rd (λr=>H.next<=r/\r≠q0.ra) (q0.wr N3 R3) k3 H3 M3:=Dj;refine Dj.agK tu 0 aa λH4 Et vY hx4=>?_;have hkn:=Et.le;rw[show min (k3+0) (q0.n-1)=k3 by have:k3<q0.n:=hkn.1;omega];obtain⟨kd,Wd,e1,t1,xa,xn,xc,he,_⟩:=Et.tok hkn.1;have he:El q0.cs 5 k3=_:=he;rw[he,Dk];have hKd:q0.K k3=kd:=kZ he;obtain⟨hk4,hp⟩:=hk4
 have hRl:R3.length<=120:=by
  obtain⟨_,_,_,_,_,_,_,_,h,_,_,_,_,_,_,e⟩:=hp;subst e;have h:R.length<120:=h;rw[ay];exact h
 have hkn2:k3<q0.n:=hkn.1;refine aF ?_;refine⟨q0.n-k3,aa,_,_,_,rfl,_,N3,R3,k3,M3,rfl,Et,aa,hRl,(vY.lo _<|bI _ Et.mem).2,λN' R' h1 h2=>Vu _ _ (λ_=>?_) (λh=>by rw[hbt]at h;cases h),vY⟩;rcases fu (kd=0)with h0|h0
 .obtain⟨rfl,rfl⟩:=h2 (by simp[h0]);exact .one _ _ _ k3 _ _ hp<|hKd.trans h0
 .exact .more _ _ _ k3 _ _ _ _ hp (λe=>h0<|hKd.symm.trans e)<|h1 (by simp[h0])
theorem J5(hw:Wf H)(hT:AP H)(s:ByteArray):az Pg X 29 [.string s] H (Q1 (Zz s H.next) H):=by
 have hS:=SH.refl hw;refine ce [0,2,3,4,5,6,7,8,9,10] ?_;refine tl ?_;refine hS.iI λHn rg hS=>?_;refine hS.iI λHn rs hS=>?_;refine az.mono (O6 hS.wf (hT.ex hS.ext) s) ?_;rintro v H1 ⟨⟨ts,cd,e,rfl,hts,hT1⟩,hx⟩;have hlt:=hS.lt;have hS1:=hS.call hx;have hS:=hS1.base;refine aF ?_;refine hS.iI λHn rt hS=>?_;refine hS.iI λHn re hS=>?_;have key:aX ts=[ts]/\dK ts=true:=by rcases hts with rfl|⟨a,n,c,rfl⟩<;>exact⟨rfl,rfl⟩
 refine hS.st 1 rfl (by rw[key.1];rfl) (aj 1) (by rw[key.1];show aU (dK ts) _ _=_;rw[key.2];rfl) λHn hS=>?_;rw[key.1]at hS;have hS:SH [rs,rg] H1 Hn [(re,72,[vi 0,vi 0]),(rt,122,[ts]),(rs,72,[vi 0,vi 0]),(rg,69,[.slice none 0 0,.slice none 0 0])]:=hS
 repeat(first|(refine hS.aY ?_)|(refine hS.dQ ?_)|(refine hS.kJ λHn hS=>?_))
 refine bq (λhc=>?_) λhc=>?_
 .repeat(first|(refine hS.aY ?_)|(refine PU.b2 rfl ?_)|(refine hS.nN ?_)|(refine hS.qJ λHn hS=>?_))
  refine splitK (λK hK=>?_) ?_
  .simp only[cB,dn];apply Ar (a:=rs) (b:=rg) (c:=re) (hS.nq 2 3 rfl rfl aa) (hS.nq 0 2 rfl rfl aa).symm (hS.nq 0 3 rfl rfl aa).symm (by intros;rfl) (by kernel_rfl) (by kernel_rfl) hK
  refine rr ?_
  repeat(refine hS.eU ?_)
  exact⟨⟨none,0,0,[],none,0,0,[],cd,e,rfl,Gr.nil _ _,.inl rfl,λh=>absurd h aa⟩,(hS1.over hS).ext⟩
 refine hS.iI λHn ra hS=>?_;refine hS.kJ λHn hS=>?_;refine hS.iI λHn rp hS=>?_;refine hS.kJ λHn hS=>?_;refine hS.dQ ?_;refine PU.b6 rfl ?_;refine hS.aY ?_;obtain⟨ta,tn,tc,tcs,rfl,hTk,TY⟩:=hT1 hc;refine hS.box rfl λH2 rr hS=>?_;have hS:SH [rs,rg] H1 H2 [(rr,133,[lT rt ra,vL rp ra rt,.slice none 0 0,.slice none 0 0,vi 0,vi 0]),(rp,129,[lT rt ra]),(ra,3,[vn 0]),(re,72,[vi cd,vi e]),(rt,122,[.slice ta tn tc]),(rs,72,[vi 0,vi 0]),(rg,69,[.slice none 0 0,.slice none 0 0])]:=hS;have hS:=hS.perm (L':=[(rt,122,[.slice ta tn tc]),(ra,3,[vn 0]),(rp,129,[lT rt ra]),(rr,133,[lT rt ra,vL rp ra rt,.slice none 0 0,.slice none 0 0,vi 0,vi 0]),(re,72,[vi cd,vi e]),(rs,72,[vi 0,vi 0]),(rg,69,[.slice none 0 0,.slice none 0 0])])<|oK [_,_,_,_] [_,_]<|oK [_,_] [_,_,_]<|oK [_] [_,_,_]<|rT _;have hx2:=hS.ext;have hS:=hS1.over hS;have hra:=hS.lo _<|aA (i:=1) rfl;refine Vt hw (.string s) ⟨rt,ra,rp,rr,ta,tn,tc,tcs,[],[]⟩ rs rg re rp _ H2 (M:=[(rt,122,[.slice ta tn tc]),(ra,3,[vn 0]),(rp,129,[lT rt ra]),(rr,133,[lT rt ra,vL rp ra rt,.slice none 0 0,.slice none 0 0,vi 0,vi 0])]) ⟨hS.zN<|aA (i:=1) rfl,hra.2⟩ ?_ ⟨TY,λi hi=>Zx hTk.1.1.1 hi,hTk.2.2.1,Zy hTk⟩ [vi cd,vi e] hS _ _ _;refine⟨.slice none 0 0,[],[],.slice none 0 0,[],[],0,0,0,0,rfl,?_,?_,GB.nil _ _,rfl,rfl,(λi y h=>nomatch h),GB.nil _ _,rfl,⟨aM _,rfl⟩,(λi y h=>nomatch h),λh=>h.2 rfl⟩
 .have:=hTk.2.1;show 0<tn;omega
 .exact hTk.st hx2 (λr hr=>.inl<|hlt r hr)<|aM _
end
end Go.Proofs.Lu
