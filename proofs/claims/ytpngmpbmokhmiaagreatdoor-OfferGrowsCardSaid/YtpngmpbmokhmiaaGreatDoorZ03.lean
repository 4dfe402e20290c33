/-
  Part 03 of the proof. No condition.
-/
import Derived.Test.YtpngmpbmokhmiaaGreatDoorZ02
set_option linter.unusedVariables false
set_option linter.unusedSimpArgs false
set_option maxRecDepth 100000
set_option maxHeartbeats 4000000
set_option linter.defProp false
open Option renaming some->Z,none->T,rec->aP
open Bool renaming true->F,false->aA,rec->iA
open Go renaming Value->D,TypeId->aH,Program->aX,World->cZ,Operand->cB,IntKind->gm,BinOp->tN
open Go.Value renaming int->bq,slice->u,bool->aR,string->aJ,pointer->bG
open Nat renaming rec->kH,beq->aB,succ->dh,ble->aD,add->a_,mul->bO,sub->dQ
open List renaming rec->dF,length->J,replicate->aY,range->dZ
open List.Pairwise renaming nil->qy
open List.Perm renaming swap->gX
open ByteArray renaming mk->dJ
open BitVec renaming ofInt->kW
noncomputable section
namespace Go.Ae
variable{H Q H0:R}{K K' Km:D->R->Prop}{e t t2 ty ty':aH}{args f vs:C D}{ops:Array Oper}{c cx es hi i j k lo m n nl o q rx:Nat}{v:D}{a:aC Addr}{A vn p:Prop}{Kp:D->Prop}{z:Int}{g:Nat->Nat}{b d:Bool}{au:Cl->Prop}{ak:Nat->Nat->Nat->C Cl}{ox oy:cB}{H':Int->Prop}{S' l sk:C Nat}{acc cls:C Cl}{α:Type}{rs:C ResultVar}{x y:Cl}{fn:Func}{kk:gm}
def PU(o:aC D)(K:D->Prop):Prop:=@aP D (λ_=>Prop) False (λv=>K v) o
def ME(o:aC<|D×R)(K:D->R->Prop):Prop:=@aP (D×R) (λ_=>Prop) False (λp=>K p.1 p.2) o
def CV(o:aC D)(q:aC<|D×R)(Kp:D->Prop)(Km:D->R->Prop):Prop:=@aP D (λ_=>Prop) (ME q Km) (λv=>Kp v) o
def bQ(P:aX)(X:Xt)(g:FuncId)(args:C D)(H:R)(K:D->R->Prop):Prop:=∃v Q,Ca P X g args H v Q/\K v Q
def qh(P:aX)(X:Xt)(q:aC<|FuncId×C D×C D)(args:C D)(H:R)(K:D->R->Prop):Prop:=
 @aP (FuncId×C D×C D) (λ_=>Prop) False (λq=>bQ P X q.1 (app q.2.1<|app args q.2.2) H K) q
def AM(b:Builtin):C aH->C D->aX->R->(D->Prop)->(D->R->Prop)->Prop:=
 @Builtin.rec (λ_=>C aH->C D->aX->R->(D->Prop)->(D->R->Prop)->Prop)
  (λs args P H Kp Km=>ME (EZ P s args H) Km) (λ_ _ _ _ _ _=>False) (λs args P H Kp Km=>ME (Jb P s args H) Km) (λ_ _ _ _ _ _=>False) (λ_ _ _ _ _ _=>False) (λs args P H Kp Km=>ME (OX P s args H) Km) (λ_ _ _ _ _ _=>False) (λ_ _ _ _ _ _=>False) (λs args P H Kp Km=>CV (one (LP P) s args) (LW P s args H) Kp Km) (λ_ _ _ _ _ _=>False) (λs args P H Kp Km=>PU (UZ F args) Kp) (λs args P H Kp Km=>PU (UZ aA args) Kp) (λ_ _ _ _ _ _=>False) (λ_ _ _ _ _ _=>False) (λ_ _ _ _ _ _=>False) (λ_ _ _ _ _ _=>False) (λ_ _ _ _ _ _=>False) (λ_ _ _ _ _ _=>False) (λ_ _ _ _ _ _=>False) (λ_ _ _ _ _ _=>False) (λs args P H Kp Km=>ME (G_ args H) Km) (λs args P H Kp Km=>ME (yL P s args H) Km) (λ_ _ _ _ _ _=>False) (λ_ _ _ _ _ _=>False) (λ_ _ _ _ _ _=>False) (λ_ _ _ _ _ _=>False) b
def ab5(P:aX)(X:Xt)(c:Call)(s:St)(Kp:D->Prop)(Km:D->R->Prop):Prop:=
 @aP Builtin (λ_=>Prop) (qh P X (pF c.callee P s) (mp (ev s) c.args.toList) s.H Km)
  (λb=>AM b c.argTypes.toList (mp (ev s) c.args.toList) P s.H Kp Km) (isBuiltin c.callee)
def opK(o:Op):aX->Xt->St->(D->Prop)->(D->R->Prop)->Prop:=
 @Op.rec (λ_=>aX->Xt->St->(D->Prop)->(D->R->Prop)->Prop)
  (λx P X s Kp Km=>Kp<|ev s x) (λx P X s Kp Km=>Kp<|ev s x) (λc a b P X s Kp Km=>PU (LM (ev s c) (ev s a)<|ev s b) Kp) (λe P X s Kp Km=>ME (D_ P e s.H) Km) (λe x P X s Kp Km=>ME (LQ e (ev s x) s.H) Km) (λt w P X s Kp Km=>PU (CS P t<|Qk s w) Kp) (λt n w P X s Kp Km=>ME (vC P t n (Qk s w) s.H) Km) (λ_ _ _ _ _ _ _ _ _=>False) (λt x P X s Kp Km=>ME (xV P t (ev s x) s.H) Km) (λt x v P X s Kp Km=>ME (Aw P t (ev s x) (ev s v) s.H) Km) (λ_ _ _ _ _ _=>False) (λ_ _ _ _ _ _=>False) (λx P X s Kp Km=>PU (Qj<|ev s x) Kp) (λop t x y _ P X s Kp Km=>PU (mW P op t x y (ev s x)<|ev s y) Kp) (λop _ x P X s Kp Km=>PU (lH<|Op.unary op<|ev s x) Kp) (λa b x P X s Kp Km=>CV (D7 P a b<|ev s x) (wC P a b (ev s x) s.H) Kp Km) (λ_ _ _ _ _ _ _=>False) (λ_ _ _ _ _ _ _=>False) (λcs E B P X s Kp Km=>Kp<|.func cs ⟨mp (ev s) E.toList⟩ ⟨mp (ev s) B.toList⟩) (λt r P X s Kp Km=>ME (vD P t (KB s r) s.H) Km) (λ_ _ _ _ _ _ _=>False) (λt l c P X s Kp Km=>ME (sK P t (ev s l) (ev s c) s.H) Km) (λt x lo hi I P X s Kp Km=>PU (BQ P t (ev s x) (KB s lo) (KB s hi)<|KB s I) Kp) (λt x cs P X s Kp Km=>PU (uy P t (ev s x) cs) Kp) (λt x cs P X s Kp Km=>PU (D9 P t (ev s x) cs) Kp) (λt x i P X s Kp Km=>PU (uw P t (ev s x)<|ev s i) Kp) (λt x i P X s Kp Km=>PU (D8 P t (ev s x)<|ev s i) Kp) (λt x k M P X s Kp Km=>ME (uT P t (ev s x) (ev s k) M s.H) Km) (λt m k v P X s Kp Km=>ME (w_ P t (ev s m) (ev s k) (ev s v) s.H) Km) (λ_ _ _ _ _ _ _ _=>False) (λ_ _ _ _ _ _ _ _ _=>False) (λ_ _ _ _ _ _ _=>False) (λ_ _ _ _ _ _ _=>False) (λ_ _ _ _ _ _=>False) (λ_ _ _ _ _ _ _ _ _=>False) (λt i P X s Kp Km=>PU (wN (ev s t) i) Kp) (λc P X s Kp Km=>ab5 P X c s Kp Km) (λ_ _ _ _ _ _=>False) (λ_ _ _ _ _ _=>False) (λ_ _ _ _ _ _=>False) (λ_ _ _ _ _ _ _=>False) (λ_ _ _ _ _ _ _ _=>False) (λ_ _ _ _ _ _ _=>False) o
def yU(v:aC Bool)(A vn:Prop):Prop:=@aP Bool (λ_=>Prop) False (λb=>@iA (λ_=>Prop) vn A b) v
def Cm(l:C Nat)(t:Nat):Bool:=@dF Nat (λ_=>Bool) aA (λx _ r=>cr (aB x t) F r) l
def sw(l:C Nat)(t:Nat):C Nat:=@dF Nat (λ_=>C Nat) [] (λx _ r=>cr (aB x t) r<|x::r) l
def nM(l:C Nat)(d:aC Nat):C Nat:=@aP Nat (λ_=>C Nat) l (sw l) d
def Oq(s:St)(l:C Nat)(d:aC Nat):C Nat:=@aP Nat (λ_=>C Nat) l (λd=>cr (wr s d) (d::l) l) d
def GuW(ops:Array Oper)(s:St)(sk:C Nat)(g:aC<|Nat×Bool)(K:Bool->St->C Nat->Prop):Prop:=
 @aP (Nat×Bool) (λ_=>Prop) (K F s sk) (λg=>
  @aP Oper (λ_=>Prop) False (λo=>@aP Nat (λ_=>Prop) False (λt=>
   @iA (λ_=>Prop)
    (yU (kV<|jc s t) (K (CK F g.2) (sM s t (.bool F) s.H)<|sw sk t)<|K (CK aA g.2) (sM s t (.bool aA) s.H)<|sw sk t)
    (K aA s sk) (Cm sk t)) o.dst) (nth ops.toList g.1)) g
def Cn(P:aX)(X:Xt)(ops:Array Oper)(l:C Oper):St->C Nat->(St->Prop)->Prop:=
 @dF Oper (λ_=>St->C Nat->(St->Prop)->Prop) (λs _ K=>K s)
  (λo _ w s sk K=>GuW ops s sk o.guard (λb s sk=>@iA (λ_=>Prop)
   (w (jY s o.dst undef s.H) (Oq s sk o.dst) K)
   (@aP Call (λ_=>Prop) (opK o.op P X s (λv=>w (jY s o.dst v s.H) (nM sk o.dst) K) λv H=>w (jY s o.dst v H) (nM sk o.dst) K) (λ_=>False)<|tJ o.op)
   b)) l
def VG(P:aX)(X:Xt)(ops:Array Oper)(l:C Oper):St->C Nat->C Cl->(St->C Cl->Prop)->Prop:=
 @dF Oper (λ_=>St->C Nat->C Cl->(St->C Cl->Prop)->Prop) (λs _ acc K=>K s acc)
  (λo _ w s sk acc K=>GuW ops s sk o.guard (λb s sk=>@iA (λ_=>Prop)
   (w (jY s o.dst undef s.H) (Oq s sk o.dst) (cl 0::acc) K)
   (opK o.op P X (iU s) (λv=>w (jY s o.dst v s.H) (nM sk o.dst) (cl 0::acc) K) λv H=>w (jY s o.dst v ⟨H.xO,H.bU,pW s.H.low H.low⟩) (nM sk o.dst) (uJ P o.op s H::acc) K)
   b)) l
def anS(P:aX)(X:Xt)(ops:Array Oper)(w:Bool)(s:St)(K:Out->Prop):Prop:=
 @iA (λ_=>Prop) (Cn P X ops ops.toList (clear s) [] λs=>K<|.norm s)
  (@iA (λ_=>Prop) False (VG P X ops ops.toList (clear s) [] [] λs cls=>kZ ops cls=F/\K (.norm s))<|lT ops&&qM ops) w
def uB(id:Nat)(K:Out->Prop):Out->Prop:=λo=>K<|yN id o
def iG(P:aX)(X:Xt)(c:Code)(s:St)(K:Out->Prop):Prop:=∃o w,Ev P X c s o/\CL o w/\K w
def uW(P:aX)(X:Xt)(b:Code)(K:Out->Prop):Out->Prop:=
 λo=>@Out.rec (λ_=>Prop) (K .fail) (λs=>iG P X b s K) (λi s=>K<|.exit i s) (λl s=>K<|.goto l s) (λs=>K<|.ret s) o
def anT(l:C Oper):Nat:=@dF Oper (λ_=>Nat) 1 (λo _ r=>@aP (Nat×Bool) (λ_=>Nat) r (λ_=>2) o.guard) l
def ai8(c:Code)(i:Nat):Nat:=
 @Code.rec (λ_=>Nat) 0 (λ_ _ _=>0) (λ_ _ a b=>a_ a b) (λ_ _ _ a b=>a_ a b) (λ_ _ a=>a) (λ_ _=>0) (λ_ _ _ _ _ _=>0) (λj=>cr (aB j i) 1 0) (λ_ _=>0) (λ_=>0) (λ_=>0) 0 (λ_=>0) c
def akY(c:Code):Nat:=
 @Code.rec (λ_=>Nat) 1 (λ_ ops _=>anT ops.toList) (λ_ _ a b=>bO a b) (λ_ _ _ a b=>a_ a b) (λi a r=>a_ r<|ai8 a i) (λ_ _=>0) (λ_ _ _ _ _ _=>0) (λ_=>0) (λ_ _=>0) (λ_=>1) (λ_=>0) 0 (λ_=>0) c
def af6(c:Code):Nat:=
 @Code.rec (λ_=>Nat) 0 (λ_ ops _=>len ops.toList) (λ_ _ a b=>a_ a b) (λ_ _ _ a b=>a_ a b) (λ_ _ r=>r) (λ_ _=>4) (λ_ _ _ _ _ _=>0) (λ_=>0) (λ_ _=>4) (λ_=>0) (λ_=>0) 0 (λ_=>0) c
def H_(a b:Code):Bool:=aD 2 (akY a)&&aD 4 (af6 b)
section mem
variable{P:aX}{X:Xt}
def akZ{o:aC D}{K:D->Prop}(h:PU o K):∃v,o=Z v/\K v:=by
 cases o with
 |none=>exact h.elim
 |some v=>exact⟨v,O,h⟩
def ahv{o:aC (D×R)}(h:ME o K):∃v H,o=Z (v,H)/\K v H:=by
 cases o with
 |none=>exact h.elim
 |some v=>exact⟨v.1,v.2,O,h⟩
def BC(P:aX)(X:Xt)(o:Op)(s:St)(Kp:D->Prop)(Km:D->R->Prop):Prop:=
 ∃k,(∃v,Aa o P (lW P X k) s=.DN v/\Kp v)\/∃v H,Aa o P (lW P X k) s=.mem v H/\Km v H
def BC.pu{o:Op}{s:St}{q:aC D}(w:∀cf,Aa o P cf s=rp q)(h:PU q Kp):BC P X o s Kp Km:=by
 have⟨v,I,W⟩:=akZ h;exact⟨0,.inl ⟨v,by rw[w,I];rfl,W⟩⟩
def BC.me{o:Op}{s:St}{q:aC (D×R)}(w:∀cf,Aa o P cf s=rm q)(h:ME q Km):BC P X o s Kp Km:=by
 have⟨v,H,I,W⟩:=ahv h;exact⟨0,.inr ⟨v,H,by rw[w,I];rfl,W⟩⟩
def BC.cv{o:Op}{s:St}{q:aC D}{r:aC (D×R)}(w:∀cf,Aa o P cf s=rpm q (rm r))(h:CV q r Kp Km):BC P X o s Kp Km:=by
 cases q with
 |none=>exact BC.me (q:=r) (λcf=>w cf) h
 |some v=>exact⟨0,.inl ⟨v,by rw[w];rfl,h⟩⟩
def BC.cons{o:Op}{s:St}(w:∀cf,Aa o P cf s=.DN v)(h:Kp v):BC P X o s Kp Km:=⟨0,.inl ⟨v,w _,h⟩⟩
def SV{b:Builtin}{c:Call}{s:St}{ats:C aH}(w:∀cf,Aa (.call c) P cf s=Cg b ats args P s.H)(h:AM b ats args P s.H Kp Km):BC P X (.call c) s Kp Km:=by
 cases b with
 |append=>exact BC.me w h
 |clear=>exact BC.me w h
 |copy=>exact BC.me w h
 |len=>exact BC.cv w h
 |max=>exact BC.pu w h
 |min=>exact BC.pu w h
 |unsafeSliceData=>exact BC.me w h
 |unsafeString=>exact BC.me w h
 |_=>exact h.elim
theorem ab6{c:Call}{s:St}(h:ab5 P X c s Kp Km):BC P X (.call c) s Kp Km:=by
 unfold ab5 at h;cases hb:isBuiltin c.callee with
 |some b=>
  rw[hb]at h;refine SV (b:=b) (ats:=c.argTypes.toList) (args:=mp (ev s) c.args.toList) (λcf=>?_) h;show zx c P cf s=_;unfold zx;rw[hb]
 |none=>
  rw[hb]at h;replace h:qh P X (pF c.callee P s) (mp (ev s) c.args.toList) s.H Km:=h;unfold qh at h;cases hc:pF c.callee P s with
  |none=>rw[hc]at h;exact h.elim
  |some q=>
   rw[hc]at h;have⟨v,Q,⟨k,I⟩,W⟩:=h;refine⟨k,.inr ⟨v,Q,?_,W⟩⟩;show zx c P (lW P X k) s=_;unfold zx;rw[hb];show rm (aN (pF c.callee P s) λz=>lW P X k z.1 (app z.2.1<|app (mp (ev s) c.args.toList) z.2.2) s.H)=_;rw[hc];show rm (lW P X k q.1 (app q.2.1<|app (mp (ev s) c.args.toList) q.2.2) s.H)=_;rw[I];rfl
def ab7{o:Op}{s:St}(h:opK o P X s Kp Km):BC P X o s Kp Km:=by
 cases o with
 |move _=>exact BC.cons (λ_=>rfl) h
 |assign _=>exact BC.cons (λ_=>rfl) h
 |pick _ _ _=>exact BC.pu (λ_=>rfl) h
 |alloc _=>exact BC.me (λ_=>rfl) h
 |box _ _=>exact BC.me (λ_=>rfl) h
 |build _ _=>exact BC.pu (λ_=>rfl) h
 |buildSlice _ _ _=>exact BC.me (λ_=>rfl) h
 |load _ _=>exact BC.me (λ_=>rfl) h
 |store _ _ _=>exact BC.me (λ_=>rfl) h
 |nilCheck _=>exact BC.pu (λ_=>rfl) h
 |binOp _ _ _ _ _=>exact BC.pu (λ_=>rfl) h
 |unOp _ _ _=>exact BC.pu (λ_=>rfl) h
 |convert _ _ _=>exact BC.cv (λ_=>rfl) h
 |makeFunc _ _ _=>exact BC.cons (λ_=>rfl) h
 |makeMap _ _=>exact BC.me (λ_=>rfl) h
 |makeSlice _ _ _=>exact BC.me (λ_=>rfl) h
 |slice _ _ _ _ _=>exact BC.pu (λ_=>rfl) h
 |fieldAddr _ _ _=>exact BC.pu (λ_=>rfl) h
 |field _ _ _=>exact BC.pu (λ_=>rfl) h
 |indexAddr _ _ _=>exact BC.pu (λ_=>rfl) h
 |index _ _ _=>exact BC.pu (λ_=>rfl) h
 |lookup _ _ _ _=>exact BC.me (λ_=>rfl) h
 |mapUpdate _ _ _ _=>exact BC.me (λ_=>rfl) h
 |extract _ _=>exact BC.pu (λ_=>rfl) h
 |call c=>exact ab6 h
 |_=>exact h.elim
theorem ab8{t:Nat}:Cm l t=F<->t∈l:=by
 induction l with
 |nil=>exact⟨(λh=>by cases h),(λh=>by cases h)⟩
 |cons x l s=>
  show cr (aB x t) F (Cm l t)=F<->_
  by_cases e:x=t
  .subst e;rw[show aB x x=F from dW x];simp[oh]
  .rw[show aB x t=aA from by rw[<-dn];exactλg=>e<|bA g];rw[lz,s,bW];exact⟨.inr,λh=>h.resolve_left λg=>e g.symm⟩
theorem af7{t ai:Nat}(h:ai∈sw l t):ai∈l/\ai≠t:=by
 induction l with
 |nil=>cases h
 |cons x l s=>
  replace h:ai∈cr (aB x t) (sw l t) (x::sw l t):=h
  by_cases e:x=t
  .subst e;rw[show aB x x=F from dW x,oh]at h;exact⟨bL _ (s h).1,(s h).2⟩
  .rw[show aB x t=aA from by rw[<-dn];exactλg=>e<|bA g,lz,bW]at h;rcases h with h|h
   .subst h;exact⟨aL ..,e⟩
   .exact⟨bL _ (s h).1,(s h).2⟩
def Left(s:St)(sk:C Nat):Prop:=∀t,t∈sk->jc s t=undef
def Left.put{s:St}(h:Left s sk)(d:aC Nat)(v:D)(H:R):Left (jY s d v H) (nM sk d):=by
 cases d with
 |none=>exactλt w=>h t w
 |some d=>
  intro t w;have⟨I,W⟩:=af7 (l:=sk) w;show jc (sM s d v H) t=_;rw[Ap,if_neg λg=>W g.1.symm];exact h t I
def Left.skip{s:St}(h:Left s sk)(d:aC Nat):Left (jY s d undef s.H) (Oq s sk d):=by
 cases d with
 |none=>exactλt ht=>h t ht
 |some d=>
  intro t ht;show jc (sM s d undef s.H) t=_;rw[Ap];split
  .rfl
  .next w=>
   replace ht:t∈cr (wr s d) (d::sk) sk:=ht;cases hw:wr s d with
   |true=>
    rw[hw,oh,bW]at ht;rcases ht with e|ht
    .exact absurd ⟨e.symm,hw⟩ w
    .exact h t ht
   |false=>rw[hw]at ht;exact h t ht
def Left.iU{s:St}(h:Left s sk):Left (iU s) sk:=h
def QL{v:aC Bool}(h:yU v A vn):(v=Z F/\A)\/(v=Z aA/\vn):=by
 cases v with
 |none=>exact h.elim
 |some b=>cases b with
  |true=>exact .inl ⟨O,h⟩
  |false=>exact .inr ⟨O,h⟩
def ab9{s:St}{g:aC (Nat×Bool)}{K:Bool->St->C Nat->Prop}(hl:Left s sk)(h:GuW ops s sk g K):
 ∃b s' sk',sU ops s g=Z b/\qg s s'/\Left s' sk'/\K b s' sk':=by
 cases g with
 |none=>exact⟨F,s,sk,O,qg.refl s,hl,h⟩
 |some g=>
  cases ho:nth ops.toList g.1 with
  |none=>
   unfold GuW at h;replace h:@aP Oper (λ_=>Prop) False _ (nth ops.toList g.1):=h;rw[ho]at h;exact h.elim
  |some o=>
   cases ht:o.dst with
   |none=>
    unfold GuW at h;replace h:@aP Oper (λ_=>Prop) False _ (nth ops.toList g.1):=h;rw[ho]at h;replace h:@aP Nat (λ_=>Prop) False _ o.dst:=h;rw[ht]at h;exact h.elim
   |some t=>
    unfold GuW at h;replace h:@aP Oper (λ_=>Prop) False _ (nth ops.toList g.1):=h;rw[ho]at h;replace h:@aP Nat (λ_=>Prop) False _ o.dst:=h;rw[ht]at h
    have w:∀y,(@aP Bool (λ_=>aC<|aC Bool) (gd (isU<|jc s t)<|Z T) (λb=>Z<|Z b)<|kV<|jc s t)=Z y->CW ops s g.1=Z y:=by
     intro y w;unfold CW;rw[ho];show(aN o.dst _)=_;rw[ht];exact w
    have M:∀y,CW ops s g.1=Z y->sU ops s (Z g)=Z (@aP Bool (λ_=>Bool) aA (λb=>CK b g.2) y):=by
     intro y w;show OZ ops s g=_;unfold OZ;rw[w];rfl
    cases he:Cm sk t with
    |true=>
     replace h:@iA (λ_=>Prop) _ (K aA s sk) (Cm sk t):=h;rw[he]at h;refine⟨aA,s,sk,?_,qg.refl s,hl,h⟩;have U:=hl t<|ab8.1 he;exact M T<|w T (by rw[U];rfl)
    |false=>
     replace h:@iA (λ_=>Prop) (yU (kV<|jc s t) (K (CK F g.2) (sM s t (.bool F) s.H)<|sw sk t)<|K (CK aA g.2) (sM s t (.bool aA) s.H)<|sw sk t) (K aA s sk) (Cm sk t):=h;rw[he]at h
     have B:∀b,kV (jc s t)=Z b->K (CK b g.2) (sM s t (.bool b) s.H) (sw sk t)->∃b s' sk',sU ops s (Z g)=Z b/\qg s s'/\Left s' sk'/\K b s' sk':=by
      intro b E N;refine⟨_,_,_,M (Z b)<|w (Z b)<|by rw[E],?_,Left.put hl (Z t) _ _,N⟩;have V:=qN E;have:=qg.same s t;rw[V]at this;exact this
     rcases QL h with⟨I,W⟩|⟨I,W⟩
     .exact B _ I W
     .exact B _ I W
def acd:∀{l:C Oper}{s:St}{sk:C Nat}{K:St->Prop},Left s sk->Cn P X ops l s sk K->∃s' s2,Ro P X ops l s s'/\qg s' s2/\K s2:=by
 intro l
 induction l with
 |nil=>intro s sk K _ h;exact⟨s,s,Ro.nil,qg.refl s,h⟩
 |cons o l ih=>
  intro s0 ab K V h
  have⟨b,s,sk,hw,U,hl,h⟩:=ab9 (K:=λb s sk=>@iA (λ_=>Prop)
   (Cn P X ops l (jY s o.dst undef s.H) (Oq s sk o.dst) K)
   (@aP Call (λ_=>Prop) (opK o.op P X s (λv=>Cn P X ops l (jY s o.dst v s.H) (nM sk o.dst) K) λv H=>Cn P X ops l (jY s o.dst v H) (nM sk o.dst) K) (λ_=>False)<|tJ o.op)
   b) V h
  have w:∀k O B,oq P (lW P X k) ops o s0=Z O\/oq P (lW P X k) ops o s=Z O->Left O B->Cn P X ops l O B K->∃s' s2,Ro P X ops (o::l) s0 s'/\qg s' s2/\K s2:=by
   intro k O B hst Y hK;have⟨s',s2,h3,h4,h5⟩:=ih Y hK;rcases hst with hst|hst
   .exact⟨s',s2,Ro.cons ⟨k,hst⟩ h3,h4,h5⟩
   .have M:=U.oq (P:=P) (cf:=lW P X k) ops o;rw[hst]at M;generalize hz:oq P (lW P X k) ops o s0=z at M;cases M with
    |some M=>
     rename_i s3;have⟨k2,h3⟩:=h3;have N:=qg.oK (P:=P) (cf:=lW P X k2) ops l M;rw[h3]at N;generalize hq:oK P (lW P X k2) ops l s3=q at N;cases N with
     |some N=>exact⟨_,s2,Ro.cons ⟨k,hz⟩ ⟨k2,hq⟩,N.trans h4,h5⟩
  have E:sU ops s o.guard=Z b:=by rw[<-U.sU];exact hw
  cases b with
  |false=>
   refine w 0 _ _ (.inr ?_) (Left.skip hl o.dst) h;unfold oq;rw[E];rfl
  |true=>
   cases hd:tJ o.op with
   |some c=>
    replace h:@aP Call (λ_=>Prop) _ (λ_=>False) (tJ o.op):=h;rw[hd]at h;exact h.elim
   |none=>
    replace h:@aP Call (λ_=>Prop) (opK o.op P X s (λv=>Cn P X ops l (jY s o.dst v s.H) (nM sk o.dst) K) λv H=>Cn P X ops l (jY s o.dst v H) (nM sk o.dst) K) (λ_=>False) (tJ o.op):=h;rw[hd]at h
    have st:∀k v H,F3 o s (Aa o.op P (lW P X k) s)=Z (jY s o.dst v H)->oq P (lW P X k) ops o s=Z (jY s o.dst v H):=by
     intro k v H U;unfold oq;rw[E];show Bi P (lW P X k) o s=_;unfold Bi;rw[hd];exact U
    obtain⟨k,⟨v,I,W⟩|⟨v,H,I,W⟩⟩:=ab7 h
    .exact w k _ _ (.inr<|st k v s.H (by rw[I];rfl)) (Left.put hl o.dst v s.H) W
    .exact w k _ _ (.inr<|st k v H (by rw[I];rfl)) (Left.put hl o.dst v H) W
def RoD.ak0{o:Oper}{l:C Oper}{s s1:St}{c:Cl}{r:St×C Cl}(I:mV P (lW P X k) ops o s=Z (s1,c))(W:RoD P X ops l s1 (c::acc) r):RoD P X ops (o::l) s acc r:=by
 have⟨k2,W⟩:=W;refine⟨max k k2,?_⟩;show(aN (mV P (lW P X<|max k k2) ops o s) λq=>jV P (lW P X<|max k k2) ops l q.1<|q.2::acc)=_;rw[show mV P (lW P X<|max k k2) ops o s=Z (s1,c)from Hy (Ag k _<|nL k k2).1 I];exact HV (Ag k2 _<|kJ k k2).1 W
def ai9:∀{l:C Oper}{s:St}{sk:C Nat}{acc:C Cl}{K:St->C Cl->Prop},Left s sk->VG P X ops l s sk acc K->∃s' s2 cls,RoD P X ops l s acc (s',cls)/\qg s' s2/\K s2 cls:=by
 intro l
 induction l with
 |nil=>intro s sk acc K _ h;exact⟨s,s,acc,⟨0,O⟩,qg.refl s,h⟩
 |cons o l ih=>
  intro s0 ac acc K V h
  have⟨b,s,sk,hw,he,hl,h⟩:=ab9 (K:=λb s sk=>@iA (λ_=>Prop)
   (VG P X ops l (jY s o.dst undef s.H) (Oq s sk o.dst) (cl 0::acc) K)
   (opK o.op P X (iU s) (λv=>VG P X ops l (jY s o.dst v s.H) (nM sk o.dst) (cl 0::acc) K) λv H=>VG P X ops l (jY s o.dst v ⟨H.xO,H.bU,pW s.H.low H.low⟩) (nM sk o.dst) (uJ P o.op s H::acc) K)
   b) V h
  have w:∀k U E c,mV P (lW P X k) ops o s=Z (U,c)->Left U E->VG P X ops l U E (c::acc) K->∃s' s2 cls,RoD P X ops (o::l) s0 acc (s',cls)/\qg s' s2/\K s2 cls:=by
   intro k U E c ab Y hK;have⟨s',s2,cls,h3,h4,h5⟩:=ih Y hK;have M:=he.mV (P:=P) (cf:=lW P X k) ops o;rw[ab]at M;generalize hz:mV P (lW P X k) ops o s0=z at M;cases M with
   |some _ M=>
    rename_i s3;have⟨k2,h3⟩:=h3;have N:=qg.jV (P:=P) (cf:=lW P X k2) ops l (c::acc) M;rw[h3]at N;generalize hq:jV P (lW P X k2) ops l s3 (c::acc)=q at N;cases N with
    |some _ N=>exact⟨_,s2,cls,RoD.ak0 hz ⟨k2,hq⟩,N.trans h4,h5⟩
  have B:sU ops s o.guard=Z b:=by rw[<-he.sU];exact hw
  cases b with
  |false=>
   refine w 0 _ _ (cl 0) ?_ (Left.skip hl o.dst) h;unfold mV;rw[B];rfl
  |true=>
   obtain⟨k,⟨v,I,W⟩|⟨v,H,I,W⟩⟩:=ab7 h
   .refine w k _ _ (cl 0) ?_ (Left.put hl o.dst v s.H) W;unfold mV;rw[B];show JK P o s (Aa o.op P (lW P X k)<|iU s)=_;rw[I];rfl
   .refine w k _ _ (uJ P o.op s H) ?_ (Left.put hl o.dst v ⟨H.xO,H.bU,pW s.H.low H.low⟩) W;unfold mV;rw[B];show JK P o s (Aa o.op P (lW P X k)<|iU s)=_;rw[I];rfl
def iG.alike{c:Code}{s s':St}{K:Out->Prop}(w:qg s s')(h:iG P X c s' K):iG P X c s K:=by
 have⟨o,o',I,W,h3⟩:=h;have⟨o2,h4,h5⟩:=Ev.alike w.symm I;refine⟨o2,o',h5,?_,h3⟩
 have:CL o2 o:=by
  cases h4 with
  |fail=>exact .fail
  |norm h=>exact .norm h.symm
  |exit i h=>exact .exit i h.symm
  |goto l h=>exact .goto l h.symm
  |ret h=>exact .ret h.symm
 exact this.trans W
def Left.nil(s:St):Left s []:=λt h=>by cases h
def af8{id:Nat}{s:St}{K:Out->Prop}(h:anS P X ops d s K):iG P X (.region id ops d) s K:=by
 cases d with
 |false=>
  have⟨s',s2,I,W,h3⟩:=acd (l:=ops.toList) (s:=clear s) (K:=λs=>K<|.norm s) (Left.nil _) h;exact⟨_,_,Ev.region I,.norm W,h3⟩
 |true=>
  cases hst:(lT ops&&qM ops)with
  |false=>
   have w:@iA (λ_=>Prop) False (VG P X ops ops.toList (clear s) [] [] λs cls=>kZ ops cls=F/\K (.norm s)) (lT ops&&qM ops):=h;rw[hst]at w;exact w.elim
  |true=>
   have w:@iA (λ_=>Prop) False (VG P X ops ops.toList (clear s) [] [] λs cls=>kZ ops cls=F/\K (.norm s)) (lT ops&&qM ops):=h;rw[hst]at w;have⟨s',s2,cls,I,he,W,h3⟩:=ai9 (Left.nil _) w;exact⟨_,_,Ev.SS hst I W,.norm he,h3⟩
def iG.mono{c:Code}{s:St}{K K':Out->Prop}(h:iG P X c s K)(hk:∀o,K o->K' o):iG P X c s K':=by
 have⟨o,o',I,W,h3⟩:=h;exact⟨o,o',I,W,hk o' h3⟩
def iG.seq{a b:Code}{s:St}{K:Out->Prop}(h:iG P X a s<|uW P X b K):iG P X (.seq a b) s K:=by
 have⟨o,o1,I,w,W⟩:=h;cases w with
 |fail=>exact absurd O I.1
 |norm w=>
  have⟨o',o2,h3,h5,h4⟩:=iG.alike w (K:=K) W;exact⟨o',o2,Ev.seq I h3,h5,h4⟩
 |exit i w=>exact⟨_,_,Ev.abY I,.exit i w,W⟩
 |goto l w=>
  refine⟨_,_,?_,.goto l w,W⟩;have⟨n1,k1,I⟩:=I;refine⟨n1,k1,?_⟩;show andThen (HZ P X k1 a s) (HZ P X k1 b)=_;rw[I];rfl
 |ret w=>exact⟨_,_,Ev.af3 I,.ret w,W⟩
def iG.block{id:Nat}{a:Code}{s:St}{K:Out->Prop}(h:iG P X a s<|uB id K):iG P X (.block id a) s K:=by
 have⟨o,o',I,w,W⟩:=h;refine⟨yN id o,_,?_,?_,W⟩
 .have⟨n1,k1,I⟩:=I;refine⟨?_,k1,?_⟩
  .cases o with
   |fail=>exact absurd O n1
   |exit i B=>
    show cr (aB i id) (Out.norm B) (Out.exit i B)≠.fail;cases aB i id<;>simp[oh,lz]
   |_=>intro e;cases e
  .show yN id (HZ P X k1 a s)=_;rw[I]
 .cases w with
  |fail=>exact .fail
  |norm w=>exact .norm w
  |exit i w=>
   show CL (cr (aB i id) _ _)<|cr (aB i id) _ _;cases aB i id with
   |true=>exact .norm w
   |false=>exact .exit i w
  |goto l w=>exact .goto l w
  |ret w=>exact .ret w
def aja{au:Type}(s:au->St)(Inv:au->Prop)(μ:au->Nat)(n:Nat)(K:Out->Prop):Out->Prop:=λo=>match o with
 |.norm B=>∃w,B=s w/\Inv w/\μ w<n
 |.fail=>False
 |o=>K o
def iG.loop{au:Type}{a:Code}{K:Out->Prop}(s:au->St)(Inv:au->Prop)(μ:au->Nat)(h:∀t,Inv t->iG P X a (s t) (aja s Inv μ (μ t) K)):
 ∀(t:au),Inv t->iG P X (.loop a) (s t) K:=by
 suffices∀n t,μ t<n->Inv t->iG P X (.loop a) (s t) K fromλt O=>this (μ t+1) t (dI _) O;intro n
 induction n with
 |zero=>intro t M;omega
 |succ n U=>
  intro t M E;have⟨o,o',I,w,W⟩:=h t E;cases w with
  |fail=>exact W.elim
  |norm w=>
   obtain⟨V,rfl,B,Y⟩:=W;have⟨o',o2,h5,h7,h6⟩:=iG.alike w<|U V N B;exact⟨o',o2,Ev.af4 I h5,h7,h6⟩
  |exit i w=>exact⟨_,_,Ev.abZ I,.exit i w,W⟩
  |goto l w=>
   refine⟨_,_,?_,.goto l w,W⟩;have⟨n1,k1,I⟩:=I;refine⟨n1,k1+1,?_⟩;show andThen (HZ P X (k1+1) a<|s t) _=_;rw[Dc I n1 (jv _)];rfl
  |ret w=>exact⟨_,_,Ev.ab0 I,.ret w,W⟩
def bQ.mono{g:FuncId}{args:C D}{H:R}{K K':D->R->Prop}(h:bQ P X g args H K)(hk:∀v Q,K v Q->K' v Q):bQ P X g args H K':=by
 have⟨v,Q,I,W⟩:=h;exact⟨v,Q,I,hk _ _ W⟩
def dD:type_of%@bQ.mono:=@bQ.mono
def jZ(P:aX)(rs:C ResultVar)(K:D->R->Prop):Out->Prop:=λo=>
 @Out.rec (λ_=>Prop) False (λs=>s.df=[]/\@aP (C D) (λ_=>Prop) False (λvs=>K (uO vs) s.H) (ny P s rs)) (λ_ _=>False) (λ_ _=>False)
  (λs=>s.df=[]/\@aP (C D) (λ_=>Prop) False (λvs=>K (uO vs) s.H) (ny P s rs)) o
def Fp(args:C D)(n:Nat):Tr D:=Tr.uY top (app args<|aaW top<|dQ n<|len args) 0 .nil
def SX(args:C D)(n k:Nat):(Tr.uY top args 0 .nil).get top k=(Fp args n).get top k:=by
 unfold Fp;rw[Tr.nY,Tr.nY,uq];simp only[bD,true_and,bB,mD];have B:∀m,J (aaW top m)=m:=by intro m;induction m with|zero=>rfl|succ m w=>exact fq dh w
 have s:∀m j,(aaW top m).getD j top=top:=by
  intro m
  induction m with
  |zero=>intro j;rfl
  |succ m w=>intro j;cases j with
   |zero=>rfl
   |succ j=>exact w j
 by_cases I:k<J args
 .rw[if_pos I,if_pos K4];simp[aU,bX I]
 .rw[if_neg I];split
  .rw[aU,eD N,<-aU,s,Tr.get_nil]
  .rfl
theorem bQ.body{g:FuncId}{c:Code}(N:X.o g args H=T)(hg:nth P.funcs.toList g=Z fn)(V:fn.body=Z c)(hl:aD (len args) fn.ntmps=F)(hn:kC P g=nl)(h:iG P X c ⟨nl,fn.ntmps,[],Fp args fn.ntmps,[],H⟩<|jZ P fn.results.toList K):bQ P X g args H K:=by
 have⟨o,o1,I,h0,W⟩:=h;subst hn
 have he:qg ⟨kC P g,fn.ntmps,[],Fp args fn.ntmps,[],H⟩ ⟨kC P g,fn.ntmps,[],Tr.uY top args 0 .nil,[],H⟩:=⟨O,O,O,O,λk=>by
  show cr (iR (kC P g) k) ((Fp args fn.ntmps).get top k) _=cr (iR (kC P g) k) ((Tr.uY top args 0 .nil).get top k) _;rw[SX args fn.ntmps k]⟩
 have⟨o',h3,h4⟩:=Ev.alike he I
 have w:∀s E:St,qg E s->Ql o'=Z E->(s.df=[]/\@aP (C D) (λ_=>Prop) False (λvs=>K (uO vs) s.H) (ny P s fn.results.toList))->bQ P X g args H K:=by
  intro s E hs ho ⟨Y,B⟩;rw[<-hs.ny]at B;cases ha:ny P E fn.results.toList with
  |none=>rw[ha]at B;exact B.elim
  |some vs=>
   rw[ha]at B;refine⟨_,_,Ca.body N hg V hl h4 ho ?_ ha,?_⟩
   .rw[hs.df,Y];rfl
   .rw[hs.H];exact B
 have M:CL o' o:=by
  cases h3 with
  |fail=>exact .fail
  |norm h=>exact .norm h.symm
  |exit i h=>exact .exit i h.symm
  |goto l h=>exact .goto l h.symm
  |ret h=>exact .ret h.symm
 have U:=M.trans h0;cases U with
 |fail=>exact W.elim
 |norm hs=>exact w _ _ hs O W
 |exit i hs=>exact W.elim
 |goto l hs=>exact W.elim
 |ret hs=>exact w _ _ hs O W
def SY{b:Code}{K:Out->Prop}{s:St}:uW P X b K (.norm s)=iG P X b s K:=rfl
def S7{b:Code}{K:Out->Prop}{s:St}{i:Nat}:uW P X b K (.exit i s)=K (.exit i s):=rfl
def XT{b:Code}{K:Out->Prop}{s:St}:uW P X b K (.ret s)=K (.ret s):=rfl
def S8{K:Out->Prop}{s:St}{i:Nat}:uB i K (.norm s)=K (.norm s):=rfl
def XU{K:Out->Prop}{s:St}{i:Nat}:uB i K (.ret s)=K (.ret s):=rfl
def S9{K:Out->Prop}{s:St}{i:Nat}:uB i K (.exit i s)=K (.norm s):=by
 show K (cr (aB i i) _ _)=_;rw[show aB i i=F from dW i];rfl
def S_{K:Out->Prop}{s:St}(h:j≠i):uB i K (.exit j s)=K (.exit j s):=by
 show K (cr (aB j i) _ _)=_;rw[show aB j i=aA from by rw[<-dn];exactλg=>h<|bA g];rfl
def Ta{A vn:Prop}:yU (Z F) A vn=A:=rfl
def Pq{A vn:Prop}:yU (Z aA) A vn=vn:=rfl
def Ld{v:D}{K:D->Prop}:PU (Z v) K=K v:=rfl
def XV{v:D}{H:R}{K:D->R->Prop}:ME (Z (v,H)) K=K v H:=rfl
def XW{v:D}{q:aC (D×R)}{Kp:D->Prop}{Km:D->R->Prop}:CV (Z v) q Kp Km=Kp v:=rfl
end mem
def kid(c:Code)(i:Nat):Code:=
 @Code.rec (λ_=>Nat->Code) (λ_=>.skip) (λ_ _ _ _=>.skip) (λa b _ _ i=>@kH (λ_=>Code) a (λ_ _=>b) i)
  (λ_ a b _ _ i=>@kH (λ_=>Code) a (λ_ _=>b) i) (λ_ a _ _=>a) (λa _ _=>a) (λ_ _ _ _ _ _ _=>.skip) (λ_ _=>.skip) (λa _ _=>a) (λ_ _=>.skip) (λ_ _=>.skip) (λ_=>.skip) (λ_ _=>.skip) c i
def sub(c:Code)(p:C Nat):Code:=@dF Nat (λ_=>Code->Code) (λc=>c) (λi _ s c=>s<|kid c i) p c
def opsOf(c:Code):Array Oper:=
 @Code.rec (λ_=>Array Oper) #[] (λ_ ops _=>ops) (λ_ _ _ _=>#[]) (λ_ _ _ _ _=>#[]) (λ_ _ _=>#[]) (λ_ _=>#[]) (λ_ _ _ _ _ _=>#[]) (λ_=>#[]) (λ_ _=>#[]) (λ_=>#[]) (λ_=>#[]) #[] (λ_=>#[]) c
def QM(cs:Func):Code:=@aP Code (λ_=>Code) .skip (λc=>c) cs.body
def fld(off:Nat)(x:D):aC D:=aN (sJ x) λa=>Z<|.pointer<|Z ⟨a.block,a_ a.off off,T⟩
def ajb(l:aC Nat)(off:Nat)(x:D):aC D:=aN (vP x) λf=>apart l f off
def wR(l:aC Nat)(x:D)(H:R):aC (D×R):=aN (sJ x) λa=>loadAt l a H
def Es(n:Nat)(x v:D)(H:R):aC (D×R):=
 aN (sJ x) λa=>gd (aB (len<|bY v) n)<|aN (H.write a.block a.off<|bY v) λQ=>Z (undef,Q)
def B_(es:Nat)(x i:D):aC D:=aN (Bh i) λk=>aN (Ky x) λp=>aN p.1 λa=>gd (aD (dh k) p.2.1)<|Z<|.pointer<|Z ⟨a.block,a_ a.off<|bO k es,T⟩
def idR(n es:Nat)(x i:D):aC D:=aN (Bh i) λk=>aN (sJ x) λa=>gd (aD (dh k) n)<|Z<|.pointer<|Z ⟨a.block,a_ a.off<|bO k es,T⟩
def idS(x i:D):aC D:=aN (Bh i) λk=>aN (vO x) λs=>aN (nth s.data.toList k) λb=>Z<|.int .u8<|.ofNat b.toNat
def R4(es:Nat)(x:D)(lo hi s:aC D):aC D:=aN (Ky x) λp=>Xm es p lo hi s
def slT(x:D)(lo hi w:aC D):aC D:=aN (vO x) λs=>gd (fQ w)<|Qi s lo hi
def ak1(x:D):aC D:=aN (Ky x) λp=>Z<|.int .i64<|.ofNat p.2.1
def ak2(x:D):aC D:=aN (vO x) λs=>Z<|.int .i64<|.ofNat<|len s.data.toList
def jP(e:aH)(z:C D)(H:R):aC (D×R):=Z (OW H.bU,H.new<|rowOf e z)
def mkS(e:aH)(z:C D)(l c:D)(H:R):aC (D×R):=
 aN (Bh l) λn=>aN (Bh c) λm=>gd (aD n m&&aD m 16777216&&F)<|Z (u (Z ⟨H.bU,0,T⟩) n m,H.new<|rowOf e<|pV z m)
def Bo(e:aH)(es:Nat)(s x:D)(H:R):aC (D×R):=
 aN (Ky s) λp=>aN (appended H es x) λr=>gd (aD r.1 16777216)<|Sg (e,es) s p r.1 r.2 H
def cpA(es:Nat)(d x:D)(H:R):aC (D×R):=
 aN (Ky d) λp=>aN (appended H es x) λe=>
  @aP Addr (λ_=>aC<|D×R) (gd (aB p.2.1 0)<|Z (.int .i64 0,H))
   (λa=>aN (H.write a.block a.off<|tk (bO (cr (aD e.1 p.2.1) e.1 p.2.1) es) e.2) λQ=>Z (.int .i64<|.ofNat<|cr (aD e.1 p.2.1) e.1 p.2.1,Q)) p.1
def clA(z:C D)(d:D)(H:R):aC (D×R):=
 aN (Ky d) λp=>@aP Addr (λ_=>aC<|D×R) (Z (.tuple #[],H)) (λa=>aN (H.write a.block a.off<|pV z p.2.1) λQ=>Z (.tuple #[],Q)) p.1
def Ou(x:D):aC (FuncId×C D×C D):=aN (vFn x) λq=>aN (fFn q.1) λg=>Z (g,q.2)
def hN(H:R):R:=⟨H.xO,H.bU,H.bU⟩
def hM(H Q:R):R:=⟨Q.xO,Q.bU,pW H.low Q.low⟩
def Df(H Q:R):Cl:=cr (aD H.bU Q.low) (cl 1) ⟨2,0,0,0,H,Q⟩
def N_(H Q:R):Cl:=cr (aD H.bU Q.low) (cl 5) ⟨2,0,0,0,H,Q⟩
def clL(n:Nat)(x:D)(H Q:R):Cl:=cr (aD H.bU Q.low) ((aN (sJ x) λa=>Z<|Cl.mk 4 a.block a.off n hh0 hh0).getD<|cl 1) ⟨2,0,0,0,H,Q⟩
def clS(x v:D)(H Q:R):Cl:=@aP Addr (λ_=>Cl) ⟨2,0,0,0,H,Q⟩ (λa=>⟨3,a.block,a.off,len<|bY v,hh0,hh0⟩)<|sJ x
def IW(az:Nat->St->Prop)(n:Nat)(K:Out->Prop):Out->Prop:=λo=>
 @Out.rec (λ_=>Prop) False (λs=>∃m,m<n/\az m s) (λi s=>K<|.exit i s) (λl s=>K<|.goto l s) (λs=>K<|.ret s) o
def Tc{az:Nat->St->Prop}{n:Nat}{K:Out->Prop}{s:St}:IW az n K (.norm s)=∃m,m<n/\az m s:=rfl
def Td{az:Nat->St->Prop}{n:Nat}{K:Out->Prop}{s:St}{i:Nat}:IW az n K (.exit i s)=K (.exit i s):=rfl
def XX{az:Nat->St->Prop}{n:Nat}{K:Out->Prop}{s:St}:IW az n K (.ret s)=K (.ret s):=rfl
theorem iG.Et{P:aX}{X:Xt}{a:Code}{K:Out->Prop}{az:Nat->St->Prop}(h:∀n s,az n s->iG P X a s (IW az n K)):∀n s,az n s->iG P X (.loop a) s K:=by
 intro n s hs;refine iG.loop (au:=Nat×St) (λt=>t.2) (λt=>az t.1 t.2) (λt=>t.1) ?_ (n,s) hs;rintro⟨n,s⟩ E;refine iG.mono (h n s E) λo w=>?_;cases o with
 |fail=>exact w
 |norm B=>
  have⟨m,I,W⟩:=w;exact⟨(m,B),O,W,I⟩
 |exit i B=>exact w
 |goto l B=>exact w
 |ret B=>exact w
abbrev Co:=look
def VH(P:aX)(s:St)(rs:C ResultVar):(C D->Prop)->Prop:=
 @dF ResultVar (λ_=>(C D->Prop)->Prop) (λk=>k []) (λr _ w k=>
  @ResultVar.rec (λ_=>Prop) (λt=>w λvs=>k<|jc s t::vs) (λa t=>ME (xV P t (jc s a) s.H) λv _=>w λvs=>k<|v::vs) r) rs
def XY{P:aX}{s:St}:∀{rs:C ResultVar}{k:C D->Prop},VH P s rs k->∃vs,ny P s rs=Z vs/\k vs:=by
 intro rs
 induction rs with
 |nil=>intro k h;exact⟨[],O,h⟩
 |cons r rs w=>
  intro k h;cases r with
  |tmp t=>
   have⟨vs,I,W⟩:=w (k:=λvs=>k<|jc s t::vs) h;refine⟨jc s t::vs,?_,W⟩;show(aN (Z<|jc s t) λv=>aN (ny P s rs) λvs=>Z<|v::vs)=_;rw[I];rfl
  |cell a t=>
   have⟨v,Q,h0,h⟩:=ahv (K:=λv _=>VH P s rs λvs=>k<|v::vs) h;have⟨vs,I,W⟩:=w (k:=λvs=>k<|v::vs) h;refine⟨v::vs,?_,W⟩;show(aN (aN (xV P t (jc s a) s.H) λp=>Z p.1) λv=>aN (ny P s rs) λvs=>Z<|v::vs)=_;rw[h0,I];rfl
def ace{P:aX}{s:St}(hd:s.df=[])(h:VH P s rs λvs=>K (uO vs) s.H):jZ P rs K (.ret s):=by
 have⟨vs,I,W⟩:=XY h;refine⟨hd,?_⟩;rw[I];exact W
def ZW{P:aX}{s:St}(hd:s.df=[])(h:VH P s rs λvs=>K (uO vs) s.H):jZ P rs K (.norm s):=by
 have⟨vs,I,W⟩:=XY h;refine⟨hd,?_⟩;rw[I];exact W
section
def wS(H:R)(r:Nat)(o:nE)(q:Nat):(H.put r o).obj q=if q=r then o else H.obj q:=Tr.w9 _ _ _ _ _
def yf(H:R)(o:nE)(q:Nat):(H.new o).obj q=if q=H.bU then o else H.obj q:=Tr.w9 _ _ _ _ _
def wT(H:R)(r:Nat)(o:nE):(H.put r o).low=min H.low r:=by
 show cr (aD H.low r) H.low r=_;cases h:aD H.low r with
 |true=>have:=aF h;rw[oh,jI this]
 |false=>
  have:¬H.low<=r:=λg=>by rw[aG g]at h;cases h
  rw[lz,wo N]
def Bk(H:R)(r:Nat)(ty:aH)(f:C D):Prop:=
 ∃az:Row,H.obj r=.row az/\az.ty=ty/\az.n=J f/\az.mR=aA/\az.fz=0/\∀i(h:i<J f),az.cells.get top i=f[i]
def Bk.cell{r:Nat}(h:Bk H r ty f)(s:f[o]?=Z v):H.cell r o=Z v:=by
 have⟨az,I,_,W,_,_,h3⟩:=h;have⟨ho,s⟩:=bI.1 s;unfold R.cell;rw[I];show gd (aD (dh o) az.n) (Z<|az.cells.get top o)=_;rw[W,aG N,h3 o ho,s];rfl
def Bk.iE{r:Nat}(h:Bk H r ty f)(e:Q.obj r=H.obj r):Bk Q r ty f:=by
 have⟨az,I,W⟩:=h;exact⟨az,e.trans I,W⟩
def nU{r:Nat}(e:Q.obj r=H.obj r)(o:Nat):Q.cell r o=H.cell r o:=by unfold R.cell;rw[e]
def xI{r:Nat}(e:Q.obj r=H.obj r)(o n:Nat):Q.read r o n=H.read r o n:=by unfold R.read;rw[e]
def Bk.new(H:R)(ty:aH)(f:C D):Bk (H.new<|rowOf ty f) H.bU ty f:=by
 refine⟨⟨ty,Tr.uY top f 0 .nil,len f,aA,0⟩,by rw[yf,if_pos O];rfl,rfl,ig f,rfl,rfl,λi h=>?_⟩;rw[Tr.nY,if_pos N,aU];simp[h]
def acf:∀{k:Nat}(t:Tr D)(f:C D),k+n<=J f->(∀i(h:i<J f),t.get top i=f[i])->Tr.FW top t k n=(f.drop k).take n:=by
 induction n with
 |zero=>intro k t f _ _;rw[Tr.D5];simp
 |succ n w=>
  intro k t f B s;rw[Tr.zu,w t f N s,s k N,eO (by omega:k<J f),jU]
def Bk.read{r:Nat}(h:Bk H r ty f)(s:o+n<=J f):H.read r o n=Z ((f.drop o).take n):=by
 have⟨az,I,_,W,_,_,h3⟩:=h;cases n with
 |zero=>show Z []=_;simp
 |succ n=>
  show(aN (xN<|H.obj r) λw=>gd (aD (a_ o<|n+1) w.n)<|Z<|Tr.FW top w.cells o<|n+1)=_;rw[I];show gd (aD (a_ o<|n+1) az.n) (Z<|Tr.FW top az.cells o<|n+1)=_;rw[W,aG<|nZ s,acf az.cells f s h3];rfl
def splice(f:C D)(o:Nat)(vs:C D):C D:=f.take o++vs++f.drop (o+J vs)
def og(h:o+J vs<=J f):J (splice f o vs)=J f:=by unfold splice;simp;omega
def sN(h:o+J vs<=J f)(i:Nat):(splice f o vs)[i]?=if o<=i/\i<o+J vs then vs[i-o]? else f[i]?:=by
 unfold splice;rw[cz,tC,tC];simp only[dX]
 by_cases I:i<o
 .rw[if_pos N,if_neg N,iB,if_pos I]
 .rw[if_neg N]
  by_cases W:i<o+J vs
  .rw[if_pos N,if_pos ⟨N,W⟩];congr 1;omega
  .rw[if_neg N,if_neg N,qV];congr 1;omega
theorem Bk.write{r:Nat}(h:Bk H r ty f)(E:o+J vs<=J f)(hk:all' fZ vs=F):
 ∃Q,H.write r o vs=Z Q/\Bk Q r ty (splice f o vs)/\Q.bU=H.bU/\(∀q,q≠r->Q.obj q=H.obj q)/\(Q.low=min H.low r\/Q.low=H.low):=by
 have⟨az,I,W,h3,h4,h5,h6⟩:=h;cases vs with
 |nil=>
  refine⟨H,O,⟨az,I,W,by rw[og E];exact h3,h4,h5,λi hi=>?_⟩,rfl,λ_ _=>rfl,.inr O⟩;have B:i<J f:=by rwa [og E]at hi
  have:=sN E i;rw[if_neg (λh=>absurd h.2 K4),av hi,av B]at this;rw[h6 i B];exact(eF this).symm
 |cons v s=>
  have U:H.write r o (v::s)=Z (H.put r<|.row ⟨az.ty,Tr.uY top (v::s) o az.cells,az.n,aA,az.fz⟩):=by
   show(aN (xN<|H.obj r) λw=>gd (!w.mR&&aD (a_ o<|len<|v::s) w.n&&aD w.fz o&&all' fZ (v::s))<|Z<|H.put r<|.row ⟨w.ty,Tr.uY top (v::s) o w.cells,w.n,aA,w.fz⟩)=_;rw[I];show gd (!az.mR&&aD (a_ o<|len<|v::s) az.n&&aD az.fz o&&all' fZ (v::s)) _=_;rw[hk,h4,h3,h5,ig,aG<|nZ E,aG<|bD o];rfl
  refine⟨_,U,⟨⟨az.ty,Tr.uY top (v::s) o az.cells,az.n,aA,az.fz⟩,by rw[wS,if_pos O],W,by rw[og E];exact h3,O,h5,λi hi=>?_⟩,rfl,λq N=>by rw[wS,if_neg N],.inl<|wT _ _ _⟩;have B:i<J f:=by rwa [og E]at hi
  have M:=sN E i;rw[av hi]at M;show(Tr.uY top (v::s) o az.cells).get top i=_;rw[Tr.nY]
  by_cases hc:o<=i/\i<o+(v::s).length
  .rw[if_pos hc]at M|-;rw[aU,<-M];rfl
  .rw[if_neg hc]at M|-;rw[h6 i B];rw[av B]at M;exact(eF M).symm
structure pI(S:C Nat)(H Q:R):Prop where
 bU:H.bU<=Q.bU
 obj:∀r,r<H.bU->r∉S->Q.obj r=H.obj r
 low:∀b,b<=H.low->b<=H.bU->(∀r∈S,b<=r)->b<=Q.low
 wf:H.low<=H.bU->Q.low<=Q.bU
abbrev Wf(H:R):Prop:=H.low<=H.bU
abbrev Ext(H Q:R):Prop:=pI [] H Q
def Ext.refl(H:R):Ext H H:=⟨ax _,λ_ _ _=>rfl,λ_ h _ _=>h,λh=>h⟩
def pI.refl(S:C Nat)(H:R):pI S H H:=⟨ax _,λ_ _ _=>rfl,λ_ h _ _=>h,λh=>h⟩
def pI.trans{S:C Nat}{A vn ak:R}(I:pI S A vn)(W:pI S vn ak):pI S A ak:=
 ⟨aQ I.bU W.bU,λr w G=>(W.obj r (aO w I.bU) G).trans<|I.obj r w G,λb B s G=>W.low b (I.low b B s G) (aQ s I.bU) G,λh=>W.wf<|I.wf h⟩
def pI.later{S:C Nat}{A vn ak:R}(I:pI S A vn)(W:pI S' vn ak)(G:∀r∈S',r∈S\/A.bU<=r):pI S A ak:=
 ⟨aQ I.bU W.bU,λr w s=>(W.obj r (aO w I.bU) (λh=>by
  rcases G r h with h|h
  .exact s h
  .omega)).trans (I.obj r w s),
  λb E s B=>W.low b (I.low b E s B) (aQ s I.bU) (λr w=>by
   rcases G r w with h|h
   .exact B r h
   .omega),λh=>W.wf<|I.wf h⟩
def pI.weaken{S:C Nat}{A vn:R}(h:pI S A vn)(hs:∀r∈S,r∈S'):pI S' A vn:=⟨h.bU,λr w s=>h.obj r w λg=>s<|hs r g,λb E s B=>h.low b E s λr w=>B r<|hs r w,h.wf⟩
def Ext.new(H:R)(o:nE):Ext H (H.new o):=⟨jv _,λr s _=>by rw[yf,if_neg N],λ_ h _ _=>h,λh=>rW h⟩
def pI.put(H:R)(r:Nat)(o:nE):pI [r] H (H.put r o):=⟨ax _,λq _ w=>by rw[wS,if_neg λe=>w<|by simp[e]],λb h _ s=>by rw[wT];have:=s r gD;omega,λh=>by rw[wT];show min H.low r<=H.bU;omega⟩
abbrev eB:=Nat×aH×C D
structure SH(S:C Nat)(H0 H:R)(L:C eB):Prop where
 ext:pI S H0 H
 bk:∀e∈L,Bk H e.1 e.2.1 e.2.2
 lo:∀e∈L,(e.1∈S\/H0.bU<=e.1)/\e.1<H.bU
 ne:L.Pairwise λa b=>a.1≠b.1
 wf:H.low<=H.bU
variable{S:C Nat}
def SH.refl{H:R}(s:Wf H):SH [] H H []:=⟨Ext.refl H,(λe h=>by cases h),(λe h=>by cases h),qy,s⟩
def h_:type_of%@SH.refl:=@SH.refl
def SH.yV{L:C eB}(G:SH [] H0 H L){e:eB}(s:e∈L):H0.bU<=e.1:=(G.lo e s).1.resolve_left<|nofun
def SH.get{L:C eB}(G:SH S H0 H L)(i:Nat){r:Nat}(hi:L[i]?=Z (r,ty,f)):Bk H r ty f:=G.bk _<|aV hi
def SH.old{L:C eB}(G:SH [] H0 H L){r:Nat}(s:r<H0.bU):H.cell r o=H0.cell r o:=nU (G.ext.obj r s gD) o
def SH.grow{L:C eB}(G:SH S H0 H L)(ty:aH)(f:C D):SH S H0 (H.new<|rowOf ty f) ((H.bU,ty,f)::L):=by
 refine⟨G.ext.later (Ext.new _ _)<|nofun,?_,?_,?_,(Ext.new _ _).wf G.wf⟩
 .intro e he;rcases bW.1 he with rfl|he
  .exact Bk.new H ty f
  .exact(G.bk e he).iE (by rw[yf,if_neg (by have:=(G.lo e he).2;omega)])
 .intro e he;rcases bW.1 he with rfl|he
  .exact⟨.inr G.ext.bU,dI _⟩
  .exact⟨(G.lo e he).1,Nat.lt_succ_of_lt (G.lo e he).2⟩
 .refine List.Pairwise.cons (λe he=>?_) G.ne;have:=(G.lo e he).2;show H.bU≠e.1;omega
def SH.turn{A A' L:C eB}(G:SH S H0 H<|A++L)(M:pI (A.map (·.1)) H Q)(E:∀e∈A',Bk Q e.1 e.2.1 e.2.2/\(e.1∈A.map (·.1)\/H.bU<=e.1)/\e.1<Q.bU)(V:A'.Pairwise λa b=>a.1≠b.1):SH S H0 Q (A'++L):=by
 have U:=nQ.1 G.ne;have I:∀r∈A.map (·.1),∃e∈A,e.1=r:=λr O=>nZ O
 have s:∀e∈L,e.1∉A.map (·.1):=λe he h=>by
  have⟨a,w,B⟩:=I _ h;exact U.2.2 a w e he B
 refine⟨?_,?_,?_,?_,M.wf G.wf⟩
 .refine pI.later G.ext M (λr O=>?_);obtain⟨a,w,rfl⟩:=I r O;exact(G.lo a<|dK _ w).1
 .intro e he;rcases cK.1 he with he|he
  .exact(E e he).1
  .exact(G.bk e<|dL _ he).iE<|M.obj _ (G.lo e<|dL _ he).2<|s e he
 .intro e he;rcases cK.1 he with he|he
  .refine⟨?_,(E e he).2.2⟩;rcases(E e he).2.1 with h|h
   .have⟨a,w,B⟩:=I _ h;rw[<-B];exact(G.lo a<|dK _ w).1
   .have:=G.ext.bU;exact .inr N
  .have:=G.lo e (dL _ he);exact⟨this.1,aO this.2 M.bU⟩
 .refine nQ.2 ⟨V,U.2.1,λa w e he=>?_⟩;rcases(E a w).2.1 with h|h
  .exactλB=>s e he (by rw[<-B];exact h)
  .have:=(G.lo e<|dL _ he).2;omega
theorem SH.call{L:C eB}(G:SH S H0 H L)(M:Ext H Q):SH S H0 Q L:=SH.turn (A:=[]) (A':=[]) G M (nofun) qy
def SH.drop{H0 H:R}{A L:C eB}(G:SH S H0 H<|A++L):SH S H0 H L:=SH.turn (A:=A) (A':=[]) G (pI.refl _ _) (nofun) qy
def fU:type_of%@SH.drop:=@SH.drop
def SH.perm{L L':C eB}(G:SH S H0 H L)(w:L.Perm L'):SH S H0 H L':=
 ⟨G.ext,λe s=>G.bk e<|w.mem_iff.2 s,λe s=>G.lo e<|w.mem_iff.2 s,w.pairwise G.ne λh=>h.symm,G.wf⟩
def SH.base{L:C eB}(G:SH S H0 H L):SH (L.map (·.1)) H H L:=
 ⟨pI.refl _ _,G.bk,λe s=>⟨.inl<|bP.2 ⟨e,s,rfl⟩,(G.lo e s).2⟩,G.ne,G.wf⟩
def SH.over{L L':C eB}(G:SH S H0 H L)(h:SH (L.map (·.1)) H Q L'):SH S H0 Q L':=by
 have B:∀r∈L.map (·.1),∃e∈L,e.1=r:=λr w=>nZ w;refine⟨pI.later G.ext h.ext λr w=>?_,h.bk,λe E=>⟨?_,(h.lo e E).2⟩,h.ne,h.wf⟩
 .obtain⟨a,s,rfl⟩:=B r w;exact(G.lo a s).1
 .rcases(h.lo e E).1 with I|I
  .have⟨a,s,e1⟩:=B _ I;rw[<-e1];exact(G.lo a s).1
  .have:=G.ext.bU;exact .inr N
def SH.lt{L:C eB}(G:SH S H0 H L):∀r∈L.map (·.1),r<H.bU:=λr w=>by
 obtain⟨e,s,rfl⟩:=bP.1 w;exact(G.lo e s).2
def SH.weaken{L:C eB}(G:SH S H0 H L)(h:∀r∈S,r∈S'):SH S' H0 H L:=
 ⟨G.ext.weaken h,G.bk,λe s=>⟨(G.lo e s).1.imp_left<|h _,(G.lo e s).2⟩,G.ne,G.wf⟩
section steps
variable{L:C eB}
def SH.box(G:SH S H0 H L){x:D}(M:rJ x=F)(k:∀H1 r,SH S H0 H1 ((r,ty,bY x)::L)->K (.pointer<|Z ⟨r,0,T⟩) H1):ME (LQ ty x H) K:=by
 unfold LQ;rw[M];exact k _ _<|G.grow ty<|bY x
def SH.jP(G:SH S H0 H L){z:C D}(k:∀H1 r,SH S H0 H1 ((r,ty,z)::L)->K (.pointer<|Z ⟨r,0,T⟩) H1):ME (Go.Ae.jP ty z H) K:=k _ _<|G.grow ty z
def ME.ld{r o:Nat}{v:D}(h:H.cell r o=Z v)(k:K v H):ME (wR T (.pointer<|Z ⟨r,o,T⟩) H) K:=by
 show ME (aN (H.cell r o) λv=>Z (v,H)) K;rw[h];exact k
def iY:type_of%@ME.ld:=@ME.ld
def ME.uL{r:Nat}(h:H.read r o n=Z vs)(k:K (.agg ⟨vs⟩) H):ME (wR (Z n) (.pointer<|Z ⟨r,o,T⟩) H) K:=by
 show ME (aN (H.read r o n) λvs=>Z (.agg ⟨vs⟩,H)) K;rw[h];exact k
def SH.ld(G:SH S H0 H L)(i:Nat){r o:Nat}{ty:aH}{f:C D}{v:D}(hi:L[i]?=Z (r,ty,f))(s:f[o]?=Z v)(k:K v H):ME (wR T (.pointer<|Z ⟨r,o,T⟩) H) K:=iY ((G.get i hi).cell s) k
def SH.uL(G:SH S H0 H L)(i:Nat){r:Nat}(hi:L[i]?=Z (r,ty,f))(s:o+n<=J f)(k:K (.agg ⟨(f.drop o).take n⟩) H):ME (wR (Z n) (.pointer<|Z ⟨r,o,T⟩) H) K:=ME.uL ((G.get i hi).read s) k
def SH.CO(G:SH [] H0 H L){r:Nat}(h:H0.cell r o=Z v)(s:r<H0.bU)(k:K v H):ME (wR T (.pointer<|Z ⟨r,o,T⟩) H) K:=iY ((G.old s).trans h) k
def SH.BU(G:SH [] H0 H L){r:Nat}(h:H0.read r o n=Z vs)(s:r<H0.bU)(k:K (.agg ⟨vs⟩) H):ME (wR (Z n) (.pointer<|Z ⟨r,o,T⟩) H) K:=ME.uL ((xI (G.ext.obj r s gD) o n).trans h) k
def Mx:∀{l:C α}{i:Nat}(h:i<J l),(l[i]::l.eraseIdx i).Perm l:=by
 intro l
 induction l with
 |nil=>intro i h;cases h
 |cons x l s=>
  intro i h;cases i with
  |zero=>exact rQ _
  |succ i=>exact(gX x _ _).trans<|(s<|nZ h).cons x
def SH.zl(G:SH S H0 H L)(i:Nat){r:Nat}(hi:L[i]?=Z (r,ty,f))(hn:o+J vs<=J f)(hk:all' fZ vs=F):
 ∃H1,H.write r o vs=Z H1/\SH S H0 H1 (L.set i (r,ty,splice f o vs))/\pI [r] H H1:=by
 have s:i<J L:=(bI.1 hi).1;have E:L[i]=(r,ty,f):=(bI.1 hi).2;have⟨H1,I,W,h3,h4,h5⟩:=(G.get i hi).write hn hk
 have M:pI [r] H H1:=⟨N,λq _ w=>h4 q λe=>w<|by simp[e],λb U _ V=>by
  have:=V r gD;rcases h5 with h5|h5<;>omega,λh=>by rcases h5 with h5|h5<;>omega⟩
 refine⟨H1,I,?_,M⟩;have hp:L.Perm ((r,ty,f)::L.eraseIdx i):=by rw[<-E];exact(Mx s).symm
 have B:SH S H0 H ([(r,ty,f)]++L.eraseIdx i):=G.perm hp
 have wD:=SH.turn (A':=[(r,ty,splice f o vs)]) B M (λe O=>by
  rw[aT]at O;subst O;refine⟨W,.inl gD,?_⟩;have:=(G.lo _<|aV hi).2;show r<H1.bU;omega) (jG _ _)
 apply wD.perm;have:(L.set i (r,ty,splice f o vs)).eraseIdx i=L.eraseIdx i:=by rw[List.eraseIdx_set_eq]
 have U:i<J (L.set i (r,ty,splice f o vs)):=nZ s;have Y:(L.set i (r,ty,splice f o vs))[i]=(r,ty,splice f o vs):=gD;have w:=Mx U;rw[Y,this]at w;exact w
def SH.st(G:SH S H0 H L)(i:Nat){r:Nat}(hi:L[i]?=Z (r,ty,f))(hl:J (bY v)=n)(s:o+n<=J f)(hk:all' fZ (bY v)=F)(k:∀H1,SH S H0 H1 (L.set i (r,ty,splice f o<|bY v))->K undef H1):ME (Es n (.pointer<|Z ⟨r,o,T⟩) v H) K:=by
 have⟨H1,I,W,_⟩:=G.zl (vs:=bY v) (o:=o) i hi N hk;show ME (gd (aB (len<|bY v) n)<|aN (H.write r o<|bY v) λQ=>Z (undef,Q)) K;rw[ig,hl,dW,I];exact k H1 W
end steps
def iT(h:H.low<=H.bU):hM H (hN H)=H:=by
 show R.mk H.xO H.bU (cr (aD H.low H.bU) H.low H.bU)=H;rw[aG h];rfl
def oU(H:R):Wf (hN H):=ax _
def Jo(a b:Nat):pW a b=min a b:=by
 show cr (aD a b) a b=_;cases h:aD a b with
 |true=>rw[oh,jI<|aF h]
 |false=>
  have:¬a<=b:=λg=>by rw[aG g]at h;cases h
  rw[lz,wo N]
def pI.draw(M:pI S (hN H) Q):pI S H (hM H Q):=
 ⟨M.bU,M.obj,λb B s w=>by show b<=pW H.low Q.low;rw[Jo];have:=M.low b s s w;omega,λh=>by show pW H.low Q.low<=Q.bU;rw[Jo];have:H.bU<=Q.bU:=M.bU;omega⟩
def SH.oI{L:C eB}(G:SH S H0 H L)(M:Ext (hN H) Q):SH S H0 (hM H Q) L:=G.call M.draw
def SH.hN{L:C eB}(G:SH S H0 H L):(∀r o,(Go.Ae.hN H).cell r o=H.cell r o)/\(∀r o n,(Go.Ae.hN H).read r o n=H.read r o n):=⟨λ_ _=>rfl,λ_ _ _=>rfl⟩
def fu(n r o:Nat)(H:R):clL n (.pointer<|Z ⟨r,o,T⟩) H (hN H)=⟨4,r,o,n,hh0,hh0⟩:=by
 show cr (aD H.bU H.bU) _ _=_;rw[aG (ax _)];rfl
def gJ(M:Ext (hN H) Q):Df H Q=cl 1:=by
 show cr (aD H.bU Q.low) _ _=_;rw[aG (M.low H.bU (ax _) (ax _)<|nofun)];rfl
def yg(M:Ext (hN H) Q):N_ H Q=cl 5:=by
 show cr (aD H.bU Q.low) _ _=_;rw[aG (M.low H.bU (ax _) (ax _)<|nofun)];rfl
def gT(r o:Nat)(v:D)(H Q:R):clS (.pointer<|Z ⟨r,o,T⟩) v H Q=⟨3,r,o,len<|bY v,hh0,hh0⟩:=rfl
def JX(h:noTwo cls=F):kZ ops cls=F:=by
 unfold kZ;rw[h];rfl
end
variable{L L' hx M' gb:C eB}
section
variable{S:C Nat}
abbrev vi(n:Int):D:=.int .i64 n
abbrev B(n:Nat):D:=.int .i64 (n:Int)
def Fq(a b:Int):Oe a b=decide (a<b):=by
 cases a with
 |ofNat m=>cases b with
  |ofNat n=>show aD (dh m) n=_;rw[iD,Nat.ble_eq];simp;omega
  |negSucc n=>show aA=_;symm;simp;omega
 |negSucc m=>cases b with
  |ofNat n=>show F=_;symm;simp;omega
  |negSucc n=>show aD (dh n) m=_;rw[iD,Nat.ble_eq];simp;omega
def BD(a b:Int):FI a b=decide (a=b):=by
 cases a with
 |ofNat m=>cases b with
  |ofNat n=>show aB m n=_;rw[iD,kU];simp;omega
  |negSucc n=>show aA=_;symm;simp
 |negSucc m=>cases b with
  |ofNat n=>show aA=_;symm;simp
  |negSucc n=>show aB m n=_;rw[iD,kU];simp
def yX{n:Int}(I:-9223372036854775808<=n)(W:n<=9223372036854775807):qd .i64 n=n:=by
 cases n with
 |ofNat m=>
  show cr (FH .i64&&aD m 9223372036854775807) (Int.ofNat m) _=_
  rw[show(FH .i64&&aD m 9223372036854775807)=F from by
   rw[show FH .i64=F from O,oZ];exact aG (by have:(m:Int)<=9223372036854775807:=W;omega)];rfl
 |negSucc m=>
  show cr (FH .i64&&aD m 9223372036854775807) (Int.negSucc m) _=_
  rw[show(FH .i64&&aD m 9223372036854775807)=F from by
   rw[show FH .i64=F from O,oZ];exact aG N];rfl
section bin
variable{P:aX}{a b:Int}{k:gm}
def Dg:aB (sQ k) (sQ k)=F:=dW _
def nV{op:tN}(hs:K6 op=aA)(h:Ze op k a b=Z v):mW P op t ox oy (.int k a) (.int k b)=Z v:=by
 show cr (K6 op) (aaX op t (.int k a)<|.int k b) (gd (aB (sQ k)<|sQ k)<|Ze op k a b)=_;rw[hs,Dg];exact h
def Te:mW P .lss t ox oy (.int k a) (.int k b)=Z (.bool<|decide<|a<b):=nV O (by show Z (aR<|Oe a b)=_;rw[Fq])
def Tf:mW P .gtr t ox oy (.int k a) (.int k b)=Z (.bool<|decide<|b<a):=nV O (by show Z (aR<|Oe b a)=_;rw[Fq])
def Tg:mW P .leq t ox oy (.int k a) (.int k b)=Z (.bool<|decide<|a<=b):=nV O (by
 show Z (aR<|!(Oe b a))=_;rw[Fq,<-decide_not];simp[Int.not_lt])
def Cq:mW P .geq t ox oy (.int k a) (.int k b)=Z (.bool<|decide<|b<=a):=nV O (by
 show Z (aR<|!(Oe a b))=_;rw[Fq,<-decide_not];simp[Int.not_lt])
def Ti:mW P .eql t ox oy (.int k a) (.int k b)=Z (.bool<|decide<|a=b):=nV O (by show Z (aR<|FI a b)=_;rw[BD])
def Tj:mW P .neq t ox oy (.int k a) (.int k b)=Z (.bool<|!decide (a=b)):=nV O (by show Z (aR<|!(FI a b))=_;rw[BD])
def gB(I:-9223372036854775808<=a+b)(W:a+b<=9223372036854775807):mW P .add t ox oy (vi a) (vi b)=Z (vi<|a+b):=nV O (by show Z (bq .i64<|qd .i64<|a+b)=_;rw[yX I W])
def qO(I:-9223372036854775808<=a-b)(W:a-b<=9223372036854775807):mW P .sub t ox oy (vi a) (vi b)=Z (vi<|a-b):=nV O (by show Z (bq .i64<|qd .i64<|a-b)=_;rw[yX I W])
def acg(I:-9223372036854775808<=a*b)(W:a*b<=9223372036854775807):mW P .mul t ox oy (vi a) (vi b)=Z (vi<|a*b):=nV O (by show Z (bq .i64<|qd .i64<|a*b)=_;rw[yX I W])
end bin
def Tm(b:Bool):lH (Op.unary .not<|.bool b)=Z (.bool !b):=rfl
def min2(k:gm)(a b:Int):UZ aA [.int k a,.int k b]=Z (.int k<|min a b):=by
 show aN (gd (aB (sQ k)<|sQ k)<|Z<|cr (Oe b a) (bq k b)<|bq k a) Z=_;rw[Dg,Bv,LF,Fq]
 by_cases h:b<a
 .rw[b_ h,oh,Int.min_eq_right N]
 .rw[dR h,lz,Int.min_eq_left N]
def max2(k:gm)(a b:Int):UZ F [.int k a,.int k b]=Z (.int k<|max a b):=by
 show aN (gd (aB (sQ k)<|sQ k)<|Z<|cr (Oe a b) (bq k b)<|bq k a) Z=_;rw[Dg,Bv,LF,Fq]
 by_cases h:a<b
 .rw[b_ h,oh,Int.max_eq_right N]
 .rw[dR h,lz,Int.max_eq_left N]
def My(b:Bool):kV (.bool b)=Z b:=rfl
def XZ(off r o:Nat):fld off (.pointer<|Z ⟨r,o,T⟩)=Z (.pointer<|Z ⟨r,o+off,T⟩):=rfl
def Tn(a:Addr):Qj (.pointer<|Z a)=Z (.pointer<|Z a):=rfl
def X3(a:aC Addr)(n c:Nat):ak1 (u a n c)=Z (B n):=rfl
def Tp(s:aZ):ak2 (.string s)=Z (B s.size):=by
 show Z (bq .i64<|Int.ofNat<|len s.data.toList)=_;rw[ig];rfl
def uQ{r:Nat}(h:k<n):B_ es (u (Z ⟨r,o,T⟩) n c) (B k)=Z (.pointer<|Z ⟨r,o+k*es,T⟩):=by
 show gd (aD (dh k) n) (Z<|bG<|Z ⟨r,a_ o<|bO k es,T⟩)=_;rw[aG h];rfl
def uV{s:aZ}(h:k<s.size):idS (.string s) (B k)=Z (.int .u8 ((s.data.toList[k]'(nZ h)).toNat:Int)):=by
 show(aN (nth s.data.toList k) λb=>Z<|bq .u8<|.ofNat b.toNat)=_;rw[qw,av<|nZ h];rfl
def Fl(H:R)(a:aC Addr)(n es:Nat)(f:C D):Prop:=
 J f=n*es/\∀(i:Nat)(x:D),f[i]?=Z x->∃r o,a=Z ⟨r,o,T⟩/\r<H.bU/\H.cell r (o+i)=Z x
def Fl.ext{S:C Nat}{H Q:R}{a:aC Addr}{n es:Nat}{f:C D}(h:Fl H a n es f)(M:pI S H Q)(G:∀r o,a=Z ⟨r,o,T⟩->r∉S):Fl Q a n es f:=
 ⟨h.1,λi x hi=>by
   have⟨r,o,I,W,h3⟩:=h.2 i x hi;exact⟨r,o,I,aO W M.bU,(nU (M.obj r W<|G r o I) _).trans h3⟩⟩
def Fl.ex(h:Fl H a n es f)(M:Ext H Q):Fl Q a n es f:=h.ext M<|nofun
def Fl.nil(H:R)(a:aC Addr)(es:Nat):Fl H a 0 es []:=⟨gD,λi x h=>by simp at h⟩
def Fl.idx(h:Fl H a n es f)(w:0<es)(hk:k<n):
 ∃r o,B_ es (u a n c) (B k)=Z (.pointer<|Z ⟨r,o,T⟩)/\r<H.bU/\(∀cs x,cs<es->f[k*es+cs]?=Z x->H.cell r (o+cs)=Z x)/\(∃s,a=Z ⟨r,s,T⟩/\o=s+k*es):=by
 have E:k*es<J f:=by rw[h.1];exact Nat.mul_lt_mul_of_pos_right hk w
 obtain⟨r,o,rfl,W,I⟩:=h.2 (k*es) _<|av E;refine⟨r,o+k*es,uQ hk,W,λcs x N M=>?_,o,rfl,rfl⟩;have⟨r',o',h4,_,h5⟩:=h.2 _ _ M;cases h4;rw[Nat.add_assoc];exact h5
def Bk.fl{r:Nat}(h:Bk H r ty f)(w:r<H.bU)(s:J f=n*es):Fl H (Z ⟨r,0,T⟩) n es f:=
 ⟨s,λi x hi=>⟨r,0,rfl,w,by rw[bB];exact h.cell hi⟩⟩
abbrev gq(l:C Nat):C D:=l.map B
abbrev bools(l:C Bool):C D:=l.map aR
def jX(cs:α->D){l:C α}{x:α}(h:l[i]?=Z x):(l.map cs)[i]?=Z (cs x):=by rw[bK,h];rfl
def Ps(z:C D)(n:Nat):J (pV z n)=n*J z:=by
 induction n with
 |zero=>show([]:C D).length=_;simp
 |succ n s=>show J (app z<|pV z n)=_;rw[uq,aS,s,jR];omega
def mK(x:D)(n:Nat):pV [x] n=aY n x:=by
 induction n with
 |zero=>rfl
 |succ n s=>show app [x] (pV [x] n)=_;rw[uq,s];rfl
def SH.mkS(G:SH S H0 H L){z:C D}(w:n<=m)(s:m<=16777216)(k:∀H1 r,SH S H0 H1 ((r,e,pV z m)::L)->K (u (Z ⟨r,0,T⟩) n m) H1):ME (Go.Ae.mkS e z (B n) (B m) H) K:=by
 show ME (gd (aD n m&&aD m 16777216&&F)<|Z (u (Z ⟨H.bU,0,T⟩) n m,H.new<|rowOf e<|pV z m)) K;rw[aG w,aG s];exact k _ _<|G.grow e _
def SH.sub(G:SH S H0 H L)(h:L'.Sublist L):SH S H0 H L':=
 ⟨G.ext,λe s=>G.bk e<|h.mem s,λe s=>G.lo e<|h.mem s,G.ne.sublist h,G.wf⟩
def SH.take(G:SH S H0 H L)(n:Nat):SH S H0 H (L.take n):=G.sub<|List.take_sublist n L
def SH.cast(G:SH S H0 H L)(h:L=L'):SH S H0 H L':=h▸G
def SH.to{r:Nat}{cs':C D}(G:SH S H0 H<|(r,ty,f)::L)(h:f=cs'):SH S H0 H ((r,ty,cs')::L):=h▸G
def qP(cs:α->D){l:C α}(hk:k<J l)(x:α):splice (l.map cs) k [cs x]=(l.set k x).map cs:=by
 apply iV;intro i;rw[sN K4,bK,bK,dU]
 by_cases h:k=i
 .subst h;rw[if_pos ⟨ax _,gD⟩,if_pos O,if_pos hk,kN];rfl
 .rw[if_neg K4,if_neg h]
end
section
variable{S:C Nat}
def bS(e:aH)(z:C D)(es n:Nat)(ps:C<|Nat×D)(H:R):aC (D×R):=
 gd (aD (bO n es) 16777216) (aN (FJ (λk=>Z (bO k es,es)) ps<|pV z n) λf=>Z (u (Z ⟨H.bU,0,T⟩) n n,H.new<|rowOf e f))
def bld(pl:C<|Nat×Nat)(z:C D)(ps:C<|Nat×D):aC D:=aN (FJ (nth pl) ps z) λf=>Z<|.agg ⟨f⟩
def PU.of{o:aC D}{v:D}{K:D->Prop}(h:o=Z v)(k:K v):PU o K:=by rw[h];exact k
def dA:type_of%@PU.of:=@PU.of
def ME.of{o:aC (D×R)}{v:D}{H:R}{K:D->R->Prop}(h:o=Z (v,H))(k:K v H):ME o K:=by rw[h];exact k
def ach:∀(vs:C D)(k:Nat)(f:C D),k+J vs<=J f->Ja vs k f=splice f k vs:=by
 intro vs
 induction vs with
 |nil=>
  intro k f h;show f=_;unfold splice;simp
 |cons v vs B=>
  intro k f h
  have s:∀(k:Nat)(f:C D),setAt v k f=f.set k v:=by
   intro k
   induction k with
   |zero=>intro f;cases f<;>rfl
   |succ k w=>intro f;cases f with
    |nil=>rfl
    |cons c f=>exact fq (c::·)<|w f
  show Ja vs (dh k) (setAt v k f)=_;simp only[cO]at h;rw[s,B (k+1) _ K4];apply iV;intro i;rw[sN K4,sN K4,dU]
  by_cases I:i=k
  .subst I;rw[if_neg N,if_pos O,if_pos N,if_pos ⟨ax _,gD⟩];simp
  .by_cases W:k+1<=i/\i<k+1+J vs
   .rw[if_pos W,if_pos K4,show i-k=(i-(k+1))+1 by omega];simp
   .rw[if_neg W,if_neg λe=>I e.symm,if_neg (by simp only[cO];omega)]
def oz(f vs:C D)(h:J f=J vs):splice f 0 vs=vs:=by
 unfold splice;rw[oN N];simp
def QN{z:C D}(hz:J z=es)(E:rJ v=F)(w:J (bY v)=es)(I:es<=16777216):
 bS e z es 1 [(0,v)] H=Z (u (Z ⟨H.bU,0,T⟩) 1 1,H.new<|rowOf e<|bY v):=by
 have B:pV z 1=z:=by show app z []=z;rw[uq,bF]
 unfold bS;rw[aG (by show 1*es<=_;omega),B];show(aN (gd (rJ v&&aB (len<|bY v) es&&aD (a_ (bO 0 es) es) (len z))<|Z<|Ja (bY v) (bO 0 es) z) λf=>Z (u (Z ⟨H.bU,0,T⟩) 1 1,H.new<|rowOf e f))=_;have s:bO 0 es=0:=jm es;rw[E,ig,w,dW,ig,hz,s];rw[show aD (a_ 0 es) es=F from aG (by show 0+es<=es;omega),ach _ _ _ N,oz _ _ N];rfl
def xJ{r:Nat}{xs:C D}(h:Bk H r ty xs)(hk:J xs=k*es):appended H es (u (Z ⟨r,0,T⟩) k c)=Z (k,xs):=by
 show(aN (H.read r 0<|bO k es) λl=>Z (k,l))=_
 have:H.read r 0 (bO k es)=Z xs:=by
  rw[h.read (by show 0+k*es<=_;omega)];simp only[jE];rw[dV (by show J xs<=k*es;omega)]
 rw[this];rfl
def QO{x:D}{xs:C D}(s:appended H es x=Z (k+1,xs))(hk:k+1<=16777216):
 Bo e es (u T 0 0) x H=Z (u (Z ⟨H.bU,0,T⟩) (k+1)<|gQ es,H.new<|rowOf e xs):=by
 unfold Bo;show(aN (appended H es x) λr=>gd (aD r.1 16777216)<|Sg (e,es) (u T 0 0) (T,0,0) r.1 r.2 H)=_;rw[s];show gd (aD (k+1) 16777216) _=_;rw[aG hk];rfl
def Aq(es:Nat):gW (gQ es)=aA:=by
 show aD (18446744073709551616+es) 9223372036854775807=aA;rw[<-dn];intro h;have:=aF h;omega
theorem QS{r:Nat}{x:D}{eY xs:C D}(he:0<es)(U:Bk H r e<|f++eY)(hr:r<H.bU)(hn:J f=n*es)(ha:appended H es x=Z (k+1,xs))(M:J xs=(k+1)*es)(E:all' fZ xs=F)(hk:k+1<=16777216)(ag:n<=16777216):
 ∃r' Q FM,Bo e es (u (Z ⟨r,0,T⟩) n<|gQ es) x H=Z (u (Z ⟨r',0,T⟩) (n+(k+1))<|gQ es,Q)/\Bk Q r' e (f++xs++FM)/\(r'=r\/r'=H.bU)/\r'<Q.bU/\pI [r] H Q/\(Q.low<=r):=by
 have ac:Bo e es (u (Z ⟨r,0,T⟩) n<|gQ es) x H=uA (e,es) ⟨r,0,T⟩ n (gQ es) (k+1) xs H:=by
  unfold Bo;show(aN (appended H es x) λq=>gd (aD q.1 16777216)<|Sg (e,es) (u (Z ⟨r,0,T⟩) n<|gQ es) (Z ⟨r,0,T⟩,n,gQ es) q.1 q.2 H)=_;rw[ha];show gd (aD (k+1) 16777216) (gd (aD n 16777216)<|cr (gW<|gQ es) _<|gd (aB (gQ es)<|gQ es)<|uA (e,es) ⟨r,0,T⟩ n (gQ es) (k+1) xs H)=_;rw[aG hk,aG ag,Aq,dW];rfl
 rw[ac];have⟨az,I,W,h3,h4,h5,h6⟩:=id U;have Y:(n+(k+1))*es=n*es+(k+1)*es:=iC ..
 have B:J (f++eY)=n*es+J eY:=by rw[aS,hn]
 have al:uA (e,es) ⟨r,0,T⟩ n (gQ es) (k+1) xs H=cr (aD (a_ 0<|bO (a_ n<|k+1) es) az.n)
  (aN (H.write r (a_ 0<|bO n es) xs) λQ=>Z (u (Z ⟨r,0,T⟩) (a_ n<|k+1)<|gQ es,Q))
  (gd (aD (a_ 0<|bO n es) az.n&&aD az.fz (a_ 0<|bO n es)&&all' fZ xs)
   (Z (u (Z ⟨H.bU,0,T⟩) (a_ n<|k+1)<|gQ es,
    (H.put r .dead).new (.row ⟨az.ty,Tr.uY top xs (a_ 0<|bO n es) az.cells,a_ 0<|bO (a_ n<|k+1) es,aA,az.fz⟩)))):=by
  unfold uA;show(aN (xN<|H.obj r) _)=_;rw[I];show gd (aB az.ty e&&!az.mR) _=_;rw[W,dW,h4];rfl
 rw[al];have e1:a_ 0 (bO n es)=n*es:=bB _;have e2:a_ 0 (bO (a_ n<|k+1) es)=n*es+(k+1)*es:=(bB _).trans Y;rw[e1,e2,h3,B]
 by_cases hc:n*es+(k+1)*es<=n*es+J eY
 .rw[aG hc,oh];have⟨H1,w1,w2,w3,w4,w5⟩:=U.write (o:=n*es) (vs:=xs) (by rw[B];omega) E;rw[w1]
  have V:H1.low<=r:=by
   rcases w5 with w5|w5
   .omega
   .
    cases xs with
    |nil=>
     have h0:0<(k+1)*es:=tF N he;rw[<-M]at h0;cases h0
    |cons v s=>
     have:H.write r (n*es) (v::s)=Z (H.put r<|.row ⟨az.ty,Tr.uY top (v::s) (n*es) az.cells,az.n,aA,az.fz⟩):=by
      show(aN (xN<|H.obj r) λw=>gd (!w.mR&&aD (a_ (n*es)<|len<|v::s) w.n&&aD w.fz (n*es)&&all' fZ (v::s))<|Z<|H.put r<|.row ⟨w.ty,Tr.uY top (v::s) (n*es) w.cells,w.n,aA,w.fz⟩)=_;rw[I];show gd (!az.mR&&aD (a_ (n*es)<|len<|v::s) az.n&&aD az.fz (n*es)&&all' fZ (v::s)) _=_;rw[E,h4,h3,h5,ig,aG (by show n*es+(v::s).length<=_;rw[B];omega),aG<|bD _];rfl
     rw[this]at w1;cases w1;rw[wT];omega
  refine⟨r,H1,eY.drop<|J xs,O,?_,.inl O,N,⟨N,λq _ hq=>w4 q λe=>hq<|by simp[e],λb hl _ U=>by
   have:=U r gD;rcases w5 with w5|w5<;>omega,λh=>by rcases w5 with w5|w5<;>omega⟩,V⟩
  have:splice (f++eY) (n*es) xs=f++xs++eY.drop (J xs):=by
   unfold splice;rw[<-hn,rV,vZ,oN N,bZ,jH]
  rw[<-this];exact w2
 .have ad:aD (n*es+(k+1)*es) (n*es+J eY)=aA:=by
   rw[<-dn];intro h;exact hc<|aF h
  rw[ad,lz,aG (by omega:n*es<=n*es+J eY),h5,aG<|bD _,E];refine⟨H.bU,_,[],O,?_,.inr O,dI _,⟨jv _,λq hq ab=>?_,λb hl ab U=>?_,λh=>?_⟩,?_⟩
  .refine⟨⟨az.ty,Tr.uY top xs (n*es) az.cells,n*es+(k+1)*es,aA,az.fz⟩,by rw[yf,if_pos (show H.bU=(H.put r nE.dead).bU from O),h5],W,by simp;omega,rfl,h5,λi hi=>?_⟩;show(Tr.uY top xs (n*es) az.cells).get top i=_;rw[Tr.nY];have am:i<n*es+(k+1)*es:=by simp at hi;omega
   by_cases hc':n*es<=i/\i<n*es+J xs
   .rw[if_pos hc',aU,av N];simp only[bF,p_];rw[List.getElem_append_right N];congr 1;omega
   .rw[if_neg hc'];have an:i<n*es:=N;rw[h6 i (by rw[B];omega)];simp only[bF];rw[jB N,jB N]
  .rw[yf,if_neg (by show q≠H.bU;omega),wS,if_neg λe=>ab<|by simp[e]]
  .show b<=(H.put r nE.dead).low;rw[wT];have:=U r gD;omega
  .show(H.put r nE.dead).low<=H.bU+1;rw[wT];omega
  .show(H.put r nE.dead).low<=r;rw[wT];omega
section steps
theorem SH.zC(G:SH S H0 H L)(ty:aH)(f:C D):SH S H0 (hM H<|(Go.Ae.hN H).new<|rowOf ty f) ((H.bU,ty,f)::L):=by
 have M:Ext (Go.Ae.hN H) ((Go.Ae.hN H).new<|rowOf ty f):=Ext.new _ _;refine SH.turn (A:=[]) (A':=[(H.bU,ty,f)]) G M.draw (λe s=>?_)<|jG _ _;rw[aT]at s;subst s;exact⟨Bk.new (Go.Ae.hN H) ty f,.inr<|ax _,dI _⟩
def SH.Tq(G:SH S H0 H L){z:C D}(hz:J z=es)(B:rJ v=F)(s:J (bY v)=es)(w:es<=16777216)(k:∀H1 r,SH S H0 (hM H H1) ((r,e,bY v)::L)->N_ H H1=cl 5->K (u (Z ⟨r,0,T⟩) 1 1) H1):ME (bS e z es 1 [(0,v)]<|Go.Ae.hN H) K:=by
 rw[QN hz B s w];exact k _ _ (G.zC e _)<|yg<|Ext.new _ _
def SH.bS(G:SH S H0 H L){z:C D}(hz:J z=es)(B:rJ v=F)(s:J (bY v)=es)(w:es<=16777216)(k:∀H1 r,SH S H0 H1 ((r,e,bY v)::L)->K (u (Z ⟨r,0,T⟩) 1 1) H1):ME (Go.Ae.bS e z es 1 [(0,v)] H) K:=by
 rw[QN hz B s w];exact k _ _<|G.grow e _
end steps
end
section
variable{S:C Nat}
def GB(ty:aH)(es:Nat)(v:D)(f:C D)(gb:C eB):Prop:=
 (v=u T 0 0/\f=[]/\gb=[])\/∃r n s,v=u (Z ⟨r,0,T⟩) n (gQ es)/\J f=n*es/\gb=[(r,ty,f++s)]
def GB.nil(ty:aH)(es:Nat):GB ty es (u T 0 0) [] []:=.inl ⟨O,O,O⟩
section steps
variable{xs:C D}
def X4(h:Q.low<H.bU):Df H Q=⟨2,0,0,0,H,Q⟩:=by
 show cr (aD H.bU Q.low) _ _=_;rw[show aD H.bU Q.low=aA from by rw[<-dn];intro g;have:=aF g;omega];rfl
def GB.app(hg:GB ty es v f gb)(G:SH S H0 H<|(rx,ty,xs)::(gb++L))(V:0<es)(M:J xs=(m+1)*es)(N:all' fZ xs=F)(Y:m+1<=16777216)(hc:J f<=16777216):
 ∃v' H1 iN,Bo ty es v (u (Z ⟨rx,0,T⟩) (m+1) cx) H=Z (v',H1)/\GB ty es v' (f++xs) iN/\SH S H0 H1 (iN++L)/\pI (gb.map (·.1)) H H1:=by
 have B:=G.get 0 O;have U:=xJ (k:=m+1) (c:=cx) B M;have s:SH S H0 H (gb++L):=fU (A:=[(rx,ty,xs)]) G;rcases hg with⟨rfl,rfl,rfl⟩|⟨r,n,eY,rfl,hn,rfl⟩
 .refine⟨_,_,[(H.bU,ty,xs)],QO U Y,.inr ⟨H.bU,m+1,[],O,M,gD⟩,s.grow ty xs,Ext.new _ _⟩
 .have hb:=s.get 0 O;have hr:=(s.lo _<|aL ..).2
  have E:n<=16777216:=by
   have:n*1<=n*es:=gM n V;omega
  have⟨r',H1,FM,I,W,h3,h4,h5,h6⟩:=QS V hb hr hn U M N Y E;refine⟨_,H1,[(r',ty,f++xs++FM)],I,.inr ⟨r',n+(m+1),FM,O,?_,O⟩,?_,h5⟩
  .rw[aS,hn,M,<-iC]
  .refine SH.turn (A:=[(r,ty,f++eY)]) s h5 (λe w=>?_) (jG _ _);rw[aT]at w;subst w;refine⟨W,?_,h4⟩;rcases h3 with h3|h3
   .exact .inl (by simp[h3])
   .exact .inr (by show H.bU<=r';omega)
def GB.add(E:GB ty es v f gb)(G:SH S H0 H<|(rx,ty,xs)::(gb++L))(B:0<es)(M:J xs=es)(s:all' fZ xs=F)(w:J f<=16777216)(k:∀v' H1 iN,GB ty es v' (f++xs) iN->SH S H0 H1 (iN++L)->pI (gb.map (·.1)) H H1->K v' H1):ME (Bo ty es v (u (Z ⟨rx,0,T⟩) 1 cx) H) K:=by
 have⟨v',H1,iN,I,W,h3,h4⟩:=E.app (m:=0) (cx:=cx) G B N s N w;rw[I];exact k v' H1 iN W h3 h4
def SH.zD(G:SH S H0 H L):SH S (Go.Ae.hN H0) (Go.Ae.hN H) L:=
 ⟨⟨G.ext.bU,G.ext.obj,λb w s _=>aQ s G.ext.bU,λ_=>ax _⟩,G.bk,G.lo,G.ne,ax _⟩
def GB.Jp(hg:GB ty es v f gb)(G:SH S H0 H<|(rx,ty,xs)::(gb++L))(he:0<es)(M:J xs=es)(ab:all' fZ xs=F)(hc:J f<=16777216)(k:∀v' H1 iN,GB ty es v' (f++xs) iN->SH S H0 (hM H H1) (iN++L)->pI (gb.map (·.1)) H (hM H H1)->(∀r,r<H.bU->r∉gb.map (·.1)->H1.obj r=H.obj r)->(Df H H1=cl 1\/Df H H1=⟨2,0,0,0,H,H1⟩)->K v' H1):ME (Bo ty es v (u (Z ⟨rx,0,T⟩) 1 cx)<|Go.Ae.hN H) K:=by
 have ac:SH [] (Go.Ae.hN H) (Go.Ae.hN H) []:=h_<|ax _;have V:=G.get 0 O;have ha:appended (Go.Ae.hN H) es (u (Z ⟨rx,0,T⟩) (0+1) cx)=Z (0+1,xs):=xJ (H:=Go.Ae.hN H) (k:=0+1) V N;have s:SH S H0 H (gb++L):=fU (A:=[(rx,ty,xs)]) G
 have w:∀H1:R,Df H H1=cl 1\/Df H H1=⟨2,0,0,0,H,H1⟩:=by
  intro H1;show cr (aD H.bU H1.low) _ _=_\/cr (aD H.bU H1.low) _ _=_;cases aD H.bU H1.low with
  |true=>exact .inl O
  |false=>exact .inr O
 rcases hg with⟨rfl,rfl,rfl⟩|⟨r,n,eY,rfl,hn,rfl⟩
 .rw[show Bo ty es (u T 0 0) (u (Z ⟨rx,0,T⟩) 1 cx) (Go.Ae.hN H)=_ from QO ha N];have U:Ext (Go.Ae.hN H) ((Go.Ae.hN H).new<|rowOf ty xs):=Ext.new _ _;exact k _ _ [(H.bU,ty,xs)] (.inr ⟨H.bU,1,[],O,by simp;omega,gD⟩) (s.zC ty xs) U.draw (λq hq E=>U.obj q hq gD)<|w _
 .have hb:Bk (Go.Ae.hN H) r ty (f++eY):=s.get 0 O;have hr:=(s.lo _<|aL ..).2
  have Y:n<=16777216:=by
   have:n*1<=n*es:=gM n he;omega
  have⟨r',H1,FM,I,W,h3,h4,h5,h6⟩:=QS he hb hr hn ha N ab N Y;rw[show Bo ty es (u (Z ⟨r,0,T⟩) n<|gQ es) (u (Z ⟨rx,0,T⟩) 1 cx) (Go.Ae.hN H)=_ from I];refine k _ H1 [(r',ty,f++xs++FM)] (.inr ⟨r',n+(0+1),FM,O,?_,O⟩) ?_ h5.draw (λq hq E=>h5.obj q hq E)<|w _
  .rw[aS,hn,M,iC];omega
  .refine SH.turn (A:=[(r,ty,f++eY)]) s h5.draw (λe B=>?_) (jG _ _);rw[aT]at B;subst B;refine⟨W,?_,h4⟩;rcases h3 with h3|h3
   .exact .inl (by simp[h3])
   .exact .inr (by show H.bU<=r';rw[h3];exact ax _)
def GB.fl(w:GB ty es v f gb)(G:SH S H0 H<|gb++L):∃a n c,v=u a n c/\J f=n*es/\Fl H a n es f:=by
 rcases w with⟨rfl,rfl,rfl⟩|⟨r,n,B,rfl,s,rfl⟩
 .exact⟨T,0,0,O,gD,Fl.nil _ _ _⟩
 .refine⟨_,n,_,O,s,s,λi x hi=>⟨r,0,rfl,(G.lo _<|aL ..).2,?_⟩⟩;rw[bB];refine(G.get 0 O).cell ?_;rw[bX (bI.1 hi).1];exact hi
def GB.fZ(s:GB ty es v f gb):all' Go.Ae.fZ (bY v)=F/\J (bY v)=1/\bY v=[v]:=by
 rcases s with⟨rfl,_,_⟩|⟨r,n,w,rfl,_,_⟩<;>exact⟨O,O,O⟩
end steps
def Cr{A vn:R}{r off:Nat}(s:A.read r off n=Z vs)(w:vn.read r off n=Z vs)(hs:He vs vs=F):sameAt A vn r off n=F:=by
 unfold sameAt;rw[s,w];show rY (gd (He vs vs)<|Z ())=F;rw[hs];rfl
end
section bin
variable{P:aX}{a b:Int}{k:gm}
end bin
def aci:∀(a b:C UInt8),u8L a=u8L b->a=b:=by
 intro a
 induction a with
 |nil=>intro b h;cases b with
  |nil=>rfl
  |cons y b=>cases h
 |cons x a s=>intro b h;cases b with
  |nil=>cases h
  |cons y b=>
   have I:x.toNat=y.toNat:=(kP h).1;have W:u8L a=u8L b:=(kP h).2;rw[s b W,UInt8.toNat_inj.1 I]
theorem Tt:∀(a b:C Nat),LK a b=F<->a=b:=by
 intro a
 induction a with
 |nil=>intro b;cases b with
  |nil=>exact⟨λ_=>rfl,λ_=>rfl⟩
  |cons y b=>exact⟨(λh=>by cases h),(λh=>by cases h)⟩
 |cons x a s=>intro b;cases b with
  |nil=>exact⟨(λh=>by cases h),(λh=>by cases h)⟩
  |cons y b=>
   show cr (aB x y) (LK a b) aA=F<->_
   by_cases e:x=y
   .subst e;rw[dW,oh,s];simp
   .rw[show aB x y=aA from by rw[<-dn];exactλg=>e<|bA g,lz];simp[e]
def Pt(a b:aZ):tZ a b=decide (a=b):=by
 rw[iD,decide_eq_true_iff];unfold tZ;rw[Tt];constructor
 .intro h;have:=aci _ _ h;have⟨⟨x⟩⟩:=a;have⟨⟨y⟩⟩:=b;exact fq (λl=>dJ<|Array.mk l) this
 .intro h;rw[h]
section bin
variable{P:aX}
def Pv(a b:aZ):mW P .eql t ox oy (.string a) (.string b)=Z (.bool<|decide<|a=b):=by
 show Z (aR<|tZ a b)=_;rw[Pt]
def Pw(a b:aZ):mW P .neq t ox oy (.string a) (.string b)=Z (.bool<|!decide (a=b)):=by
 show Z (aR<|!(tZ a b))=_;rw[Pt]
end bin
def part(s:aZ)(lo hi:Nat):aZ:=⟨⟨(s.data.toList.drop lo).take<|hi-lo⟩⟩
def rO(s:aZ)(h:lo<=hi)(W:hi<=s.size):(part s lo hi).size=hi-lo:=by
 show J ((s.data.toList.drop lo).take<|hi-lo)=_;have:J s.data.toList=s.size:=rfl;simp;omega
def Eu{s:aZ}(h:lo<=hi)(W:hi<=s.size):slT (.string s) (Z<|B lo) (Z<|B hi) T=Z (.string<|part s lo hi):=by
 show gd (aD lo hi&&aD hi (len s.data.toList)) (Z<|aJ ⟨⟨tk (dQ hi lo)<|dp lo s.data.toList⟩⟩)=_;rw[ig,aG h,aG (show hi<=J s.data.toList from W),FF,OT];rfl
def Cs{s:aZ}(h:lo<=s.size):slT (.string s) (Z<|B lo) T T=Z (.string<|part s lo s.size):=by
 show gd (aD lo (len s.data.toList)&&aD (len s.data.toList) (len s.data.toList)) (Z<|aJ ⟨⟨tk (dQ (len s.data.toList) lo)<|dp lo s.data.toList⟩⟩)=_;rw[ig,aG (show lo<=J s.data.toList from h),aG<|ax _,FF,OT];rfl
def ajc{s:aZ}(W:hi<=s.size):slT (.string s) T (Z<|B hi) T=Z (.string<|part s 0 hi):=by
 show gd (aD 0 hi&&aD hi (len s.data.toList)) (Z<|aJ ⟨⟨tk (dQ hi 0)<|dp 0 s.data.toList⟩⟩)=_;rw[ig,aG<|bD _,aG (show hi<=J s.data.toList from W),FF,OT];rfl
def xh{s:aZ}(h:k<s.size):∃c:UInt8,idS (.string s) (B k)=Z (.int .u8 (c.toNat:Int)):=⟨_,uV h⟩
def cvI(k:gm)(x:D):aC D:=@aP (gm×Int) (λ_=>aC D) (aN (vO x) λb=>gd aA<|Z<|.string b) (λa=>Z<|.int k<|qd k a.2)<|vw x
def cvT(x:D):aC D:=@aP (gm×Int) (λ_=>aC D) (aN (vO x) λb=>gd F<|Z<|.string b) (λa=>Z<|.string<|Utf8.encode a.2)<|vw x
def Lf(k k':gm)(a:Int):cvI k (.int k' a)=Z (.int k<|qd k a):=rfl
def X5(k:gm)(a:Int):cvT (.int k a)=Z (.string<|Utf8.encode a):=rfl
def X6(s:aZ):cvT (.string s)=Z (.string s):=rfl
def ajd(vs:C D)(i:Nat):wN (.tuple ⟨vs⟩) i=vs[i]?:=qw vs i
section
variable{S:C Nat}
def aW[Decidable p](I:p->A)(W:¬p->vn):yU (Z<|decide p) A vn:=by
 by_cases h:p
 .rw[b_ h];exact I h
 .rw[dR h];exact W h
def fP[Decidable p](I:¬p->A)(W:p->vn):yU (Z<|!decide p) A vn:=by
 by_cases h:p
 .rw[b_ h];exact W h
 .rw[dR h];exact I h
def nN[Decidable p](W:¬p->vn)(I:p->A):yU (Z<|decide p) A vn:=aW I W
def iI(I:b=F->A)(W:b=aA->vn):yU (Z b) A vn:=by
 cases b with
 |true=>exact I O
 |false=>exact W O
def ZX(k:gm)(a b:Int):Int:=k.wrap<|BitVec.toNat<|kW k.bits a&&&kW k.bits b
def bOr(k:gm)(a b:Int):Int:=k.wrap<|BitVec.toNat<|kW k.bits a|||kW k.bits b
def QT(k:gm)(a b:Int):Int:=k.wrap<|BitVec.toNat<|kW k.bits a&&&~~~kW k.bits b
def QU(k:gm)(a b:Int):Int:=k.wrap<|a*2^min b.toNat k.bits
def F_(k:gm)(a b:Int):Int:=a.fdiv<|2^min b.toNat k.bits
section bits
variable{P:aX}{a b:Int}{k:gm}
def Px:mW P .and t ox oy (.int k a) (.int k b)=Z (.int k<|ZX k a b):=nV O O
def MB:mW P .or t ox oy (.int k a) (.int k b)=Z (.int k<|bOr k a b):=nV O O
def Dh:mW P .andNot t ox oy (.int k a) (.int k b)=Z (.int k<|QT k a b):=nV O O
def Cu(h:0<=b):mW P .shl t ox oy (.int k a) (.int .u64 b)=Z (.int k<|QU k a b):=by
 show lH (Op.shift .shl k a .u64 b)=_;unfold Op.shift;rw[if_neg N];rfl
def xK(h:0<=b):mW P .shr t ox oy (.int k a) (.int .u64 b)=Z (.int k<|F_ k a b):=by
 show lH (Op.shift .shr k a .u64 b)=_;unfold Op.shift;rw[if_neg N];rfl
def MC:mW P .shl t ox oy (.int k a) (.int .u64 4)=Z (.int k<|QU k a 4):=Cu jq
def MF:mW P .shl t ox oy (.int k a) (.int .u64 6)=Z (.int k<|QU k a 6):=Cu jq
def JY:mW P .shl t ox oy (.int k a) (.int .u64 12)=Z (.int k<|QU k a 12):=Cu jq
def JZ:mW P .shl t ox oy (.int k a) (.int .u64 18)=Z (.int k<|QU k a 18):=Cu jq
def J2:mW P .shl t ox oy (.int k a) (.int .u64 31)=Z (.int k<|QU k a 31):=Cu jq
def MG:mW P .shr t ox oy (.int k a) (.int .u64 4)=Z (.int k<|F_ k a 4):=xK jq
def MH:mW P .shr t ox oy (.int k a) (.int .u64 6)=Z (.int k<|F_ k a 6):=xK jq
def J3:mW P .shr t ox oy (.int k a) (.int .u64 12)=Z (.int k<|F_ k a 12):=xK jq
def J4:mW P .shr t ox oy (.int k a) (.int .u64 18)=Z (.int k<|F_ k a 18):=xK jq
def J5:mW P .shr t ox oy (.int k a) (.int .u64 31)=Z (.int k<|F_ k a 31):=xK jq
end bits
def acj{r:Nat}(h:k<n):idR n es (.pointer<|Z ⟨r,o,T⟩) (.int kk (k:Int))=Z (.pointer<|Z ⟨r,o+k*es,T⟩):=by
 show gd (aD (dh k) n) (Z<|bG<|Z ⟨r,a_ o<|bO k es,T⟩)=_;rw[aG h];rfl
section ar
variable{P:aX}{a b:Int}
def J6:mW P .add t ox oy (.int .u8 a) (.int .u8 b)=Z (.int .u8<|qd .u8<|a+b):=nV O O
def Ia:mW P .add t ox oy (.int .i32 a) (.int .i32 b)=Z (.int .i32<|qd .i32<|a+b):=nV O O
def J7:mW P .sub t ox oy (.int .u8 a) (.int .u8 b)=Z (.int .u8<|qd .u8<|a-b):=nV O O
def Ib:mW P .sub t ox oy (.int .i32 a) (.int .i32 b)=Z (.int .i32<|qd .i32<|a-b):=nV O O
def J8:mW P .mul t ox oy (.int .u8 a) (.int .u8 b)=Z (.int .u8<|qd .u8<|a*b):=nV O O
def Ic:mW P .mul t ox oy (.int .i32 a) (.int .i32 b)=Z (.int .i32<|qd .i32<|a*b):=nV O O
end ar
def yY{t:Nat}{v:D}{l:C (Nat×D)}:Co ((t,v)::l) t=v:=by
 show Go.Ae.look ((t,v)::l) t=v;rw[Fj,if_pos O]
def Di{d t:Nat}{v:D}{l:C (Nat×D)}(h:(d==t)=aA):Co ((d,v)::l) t=Co l t:=by
 show Go.Ae.look ((d,v)::l) t=Go.Ae.look l t;rw[Fj,if_neg<|nZ h]
section quiet
def SH.Ov(G:SH S H0 H L)(i:Nat){r:Nat}(hi:L[i]?=Z (r,ty,f))(s:f[o]?=Z v)(k:K v<|Go.Ae.hN H):ME (wR T (.pointer<|Z ⟨r,o,T⟩)<|Go.Ae.hN H) K:=
 iY (H:=Go.Ae.hN H) ((G.get i hi).cell s) k
def SH.MI(G:SH S H0 H L)(i:Nat){r:Nat}(hi:L[i]?=Z (r,ty,f))(s:o+n<=J f)(k:K (.agg ⟨(f.drop o).take n⟩)<|Go.Ae.hN H):ME (wR (Z n) (.pointer<|Z ⟨r,o,T⟩)<|Go.Ae.hN H) K:=
 ME.uL (H:=Go.Ae.hN H) ((G.get i hi).read s) k
def SH.Jq(G:SH [] H0 H L){r:Nat}(h:H0.cell r o=Z v)(s:r<H0.bU)(k:K v<|Go.Ae.hN H):ME (wR T (.pointer<|Z ⟨r,o,T⟩)<|Go.Ae.hN H) K:=
 iY (H:=Go.Ae.hN H) ((G.old s).trans h) k
end quiet
section mem
variable{P:aX}{X:Xt}
def gtW(a:Code)(az:Nat->Nat->St->Prop)(n:Nat)(K:Out->Prop):Out->Prop:=λo=>
 @Out.rec (λ_=>Prop) False (λs=>K<|.norm s) (λi s=>K<|.exit i s) (λl s=>@aP Code (λ_=>Prop) (K<|.goto l s) (λ_=>∃m,m<n/\az m l s)<|findLabel a l) (λs=>K<|.ret s) o
def ack{a:Code}{az:Nat->Nat->St->Prop}{K:Out->Prop}{s:St}:gtW a az n K (.norm s)=K (.norm s):=rfl
def QV{a:Code}{az:Nat->Nat->St->Prop}{K:Out->Prop}{s:St}:gtW a az n K (.ret s)=K (.ret s):=rfl
def MK{a rest:Code}{az:Nat->Nat->St->Prop}{l:Nat}{K:Out->Prop}{s:St}(h:findLabel a l=Z rest):gtW a az n K (.goto l s)=∃m,m<n/\az m l s:=by
 show(@aP Code (λ_=>Prop) _ _<|findLabel a l)=_;rw[h]
def ScP(P:aX)(X:Xt)(a:Code)(o:Out)(K:Out->Prop):Prop:=∃k s w,pG (lv P X k).cx k a o=s/\s≠.fail/\CL s w/\K w
def acm{a:Code}{K:Out->Prop}{az:Nat->Nat->St->Prop}(h:∀n l s rest,az n l s->findLabel a l=Z rest->iG P X rest s (gtW a az n K)):
 ∀n o o',CL o o'->o≠.fail->gtW a az n K o'->ScP P X a o K:=by
 intro n
 induction n using Nat.strongRecOn with
 |_ n Y=>
  intro o o' w V B;cases w with
  |fail=>exact absurd O V
  |norm w=>exact⟨1,.norm _,_,O,nofun,.norm w,B⟩
  |exit i w=>exact⟨1,.exit i _,_,O,nofun,.exit i w,B⟩
  |ret w=>exact⟨1,.ret _,_,O,nofun,.ret w,B⟩
  |goto l w=>
   rename_i s E;cases hf:findLabel a l with
   |none=>
    have U:K (.goto l E):=by
     have:(@aP Code (λ_=>Prop) (K<|.goto l E) (λ_=>∃m,m<n/\az m l E)<|findLabel a l):=B;rw[hf]at this;exact this
    refine⟨1,.goto l s,_,?_,gD,.goto l w,U⟩;show(@aP Code (λ_=>Out) (.goto l s) _<|findLabel a l)=_;rw[hf]
   |some rest=>
    rw[MK hf]at B;have⟨m,hm,hR⟩:=B;have⟨o1,o1',I,W,h3⟩:=iG.alike w<|h m l E rest hR hf;have⟨n1,k1,I⟩:=I;have⟨k2,o3,o4,h4,h5,h6,h7⟩:=Y m hm o1 o1' W n1 h3;refine⟨max k1 k2+1,o3,o4,?_,h5,h6,h7⟩;show(@aP Code (λ_=>Out) (.goto l s) (λrest=>pG (lv P X<|max k1 k2+1).cx (max k1 k2) a<|(lv P X<|max k1 k2+1).cx rest s)<|findLabel a l)=o3;rw[hf];show pG (lv P X<|max k1 k2+1).cx (max k1 k2) a (HZ P X (max k1 k2) rest s)=o3;rw[Dc I n1 (nL _ _),<-h4];have M:abX (lv P X k2).cx (lv P X<|max k1 k2+1).cx:=(Ag k2 _ N).2;refine Er M a k2 _ (kJ _ _) o1 ?_;rw[h4];exact h5
def iG.scope{a:Code}{K:Out->Prop}{s:St}(az:Nat->Nat->St->Prop)(h:∀n l s rest,az n l s->findLabel a l=Z rest->iG P X rest s (gtW a az n K))(n:Nat)(h0:iG P X a s<|gtW a az n K):iG P X (.scope a) s K:=by
 have⟨o,o',I,W,h3⟩:=h0;have⟨n1,k1,I⟩:=I;have⟨k2,o3,o4,h4,h5,h6,h7⟩:=acm h n o o' W n1 h3;refine⟨o3,o4,⟨h5,max k1 k2,?_⟩,h6,h7⟩;show pG (lv P X<|max k1 k2).cx (max k1 k2) a (HZ P X (max k1 k2) a s)=o3;rw[Dc I n1 (nL _ _),<-h4];refine Er (Ag k2 _<|kJ _ _).2 a k2 _ (kJ _ _) o ?_;rw[h4];exact h5
end mem
end
def af9{r:Nat}(h0:0<=z)(h:z<n):B_ es (u (Z ⟨r,o,T⟩) n c) (vi z)=Z (.pointer<|Z ⟨r,o+z.toNat*es,T⟩):=by
 obtain⟨k,rfl⟩:∃k:Nat,z=k:=⟨z.toNat,N⟩;exact uQ N
section bin
variable{P:aX}{a b:Int}
def Ie(s:0<=a)(B:0<b)(h:a<=9223372036854775807):mW P .quo t ox oy (vi a) (vi b)=Z (vi<|a/b):=nV O (by
 show lH (Op.intDiv .quo .i64 a b)=_;unfold Op.intDiv;rw[if_neg N];show Z (bq .i64<|IntKind.i64.wrap<|a.tdiv b)=_;have I:a.tdiv b=a/b:=Int.tdiv_eq_ediv_of_nonneg s;have W:0<=a/b:=Int.ediv_nonneg s N;have w:a/b<=a:=Int.ediv_le_self b s;rw[I];have:IntKind.i64.wrap (a/b)=a/b:=IntWalk.i64_in _ N;rw[this])
def PU.quo{K:D->Prop}(s:0<=a)(w:0<b)(h:a<=9223372036854775807)(k:∀q:Int,0<=q->b*q<=a->a<b*q+b->K (vi q)):PU (mW P .quo t ox oy (vi a)<|vi b) K:=by
 rw[Ie s w h];have I:=Int.mul_ediv_add_emod a b;have W:=Int.emod_nonneg a (show b≠0 by omega);have B:=Int.emod_lt_of_pos a w;exact k (a/b) (Int.ediv_nonneg s N) N N
end bin
def SH.stQ(G:SH [] H0 H L)(i:Nat){r:Nat}(hi:L[i]?=Z (r,ty,f))(hl:J (bY v)=n)(B:o+n<=J f)(hk:all' fZ (bY v)=F)(k:∀H1,SH [] H0 (hM H H1) (L.set i (r,ty,splice f o<|bY v))->K undef H1):ME (Es n (.pointer<|Z ⟨r,o,T⟩) v<|Go.Ae.hN H) K:=by
 have⟨H1,I,W,h3⟩:=G.zD.zl (vs:=bY v) (o:=o) i hi N hk;show ME (gd (aB (len<|bY v) n)<|aN ((Go.Ae.hN H).write r o<|bY v) λQ=>Z (undef,Q)) K;rw[ig,hl,dW,I];refine k H1 ⟨G.ext.later h3.draw λq s=>.inr ?_,λe w=>(W.bk e w).iE O,W.lo,W.ne,h3.draw.wf G.wf⟩;rw[aT]at s;subst s;exact G.yV<|aV hi
def El(f:C D)(es k:Nat):C D:=(f.drop<|k*es).take es
def oL(f:C D)(es k i:Nat):(El f es k)[i]?=if i<es then f[k*es+i]? else T:=by
 unfold El;rw[iB];split
 .rw[qV]
 .rfl
theorem Py(s:J vs=es)(h:k*es+es<=J f)(k':Nat):El (splice f (k*es) vs) es k'=if k'=k then vs else El f es k':=by
 apply iV;intro i;rw[oL]
 by_cases hi:i<es
 .rw[if_pos hi,sN N]
  by_cases hk:k'=k
  .subst hk;rw[if_pos N,if_pos O,jH]
  .rw[if_neg hk,oL,if_pos hi,if_neg];rintro⟨I,W⟩;rcases dH k' k with h3|h3
   .have:(k'+1)*es<=k*es:=fA es h3;rw[iC]at this;omega
   .have:(k+1)*es<=k'*es:=fA es N;rw[iC]at this;omega
 .rw[if_neg hi];split
  .symm;exact dw N
  .rw[oL,if_neg hi]
def SB(P:C D->Prop)(r:Nat)(ty:aH)(es n:Nat)(H0 H:R)(L:C eB):Prop:=∃f,n*es<=J f/\(∀k,k<n->P (El f es k))/\SH [] H0 H ((r,ty,f)::L)
section steps
variable{P:C D->Prop}{r:Nat}
def SB.wf(h:SB P r ty es n H0 H L):Wf H:=by have⟨_,_,_,G⟩:=h;exact G.wf
def SB.ext(h:SB P r ty es n H0 H L):Ext H0 H:=by have⟨_,_,_,G⟩:=h;exact G.ext
def SB.call(h:SB P r ty es n H0 H L)(M:Ext H Q):SB P r ty es n H0 Q L:=by have⟨f,I,W,G⟩:=h;exact⟨f,I,W,G.call M⟩
def SB.new(h:SB P r ty es n H0 H L){z:C D}(k:∀H1 q,SB P r ty es n H0 H1 ((q,t2,z)::L)->K (.pointer<|Z ⟨q,0,T⟩) H1):ME (jP t2 z H) K:=by
 have⟨f,I,W,G⟩:=h;exact G.jP λH1 q G=>k H1 q ⟨f,I,W,G.perm<|gX _ _ _⟩
def SB.ld(h:SB P r ty es n H0 H L)(i:Nat){q o:Nat}{t2:aH}{f:C D}{v:D}(hi:L[i]?=Z (q,t2,f))(s:f[o]?=Z v)(k:K v H):ME (wR T (.pointer<|Z ⟨q,o,T⟩) H) K:=by
 have⟨f,I,W,G⟩:=h;exact G.ld (i+1) (by rw[eP];exact hi) s k
def SB.Ov(h:SB P r ty es n H0 H L)(i:Nat)(hi:L[i]?=Z (q,t2,f))(s:f[o]?=Z v)(k:K v<|Go.Ae.hN H):ME (wR T (.pointer<|Z ⟨q,o,T⟩)<|Go.Ae.hN H) K:=by
 have⟨f,I,W,G⟩:=h;exact G.Ov (i+1) (by rw[eP];exact hi) s k
def SB.st(h:SB P r ty es n H0 H L)(i:Nat)(hi:L[i]?=Z (q,t2,f))(hl:J (bY v)=m)(s:o+m<=J f)(hk:all' fZ (bY v)=F)(k:∀H1,SB P r ty es n H0 H1 (L.set i (q,t2,splice f o<|bY v))->K undef H1):ME (Es m (.pointer<|Z ⟨q,o,T⟩) v H) K:=by
 have⟨ds,I,W,G⟩:=h;exact G.st (i+1) (by rw[eP];exact hi) hl s hk λH1 G=>k H1 ⟨ds,I,W,G⟩
def SB.row(h:SB P r ty es n H0 H L)(hk:k<n):∃f,SH [] H0 H ((r,ty,f)::L)/\P (El f es k)/\k*es+es<=J f:=by
 have⟨f,I,W,G⟩:=h;refine⟨f,G,W k hk,?_⟩;have:(k+1)*es<=n*es:=fA es hk;rw[iC]at this;omega
def SB.e1(h:SB P r ty 1 n H0 H L)(h0:0<=z)(hz:z<n)(k:∀v,P [v]->K v H):ME (wR T (.pointer<|Z ⟨r,z.toNat*1,T⟩) H) K:=by
 have⟨f,G,hp,hl⟩:=h.row (k:=z.toNat) N;have s:z.toNat<J f:=N;refine G.ld 0 O (v:=f[z.toNat]) (by rw[dN];exact av s)<|k _ ?_
 have:El f 1 z.toNat=[f[z.toNat]]:=by
  unfold El;rw[dN,eO s];rfl
 rw[<-this];exact hp
def SB.zD(h:SB P r ty es n H0 H L):SB P r ty es n (Go.Ae.hN H0) (Go.Ae.hN H) L:=by have⟨f,I,W,G⟩:=h;exact⟨f,I,W,G.zD⟩
def SB.e1Q(h:SB P r ty 1 n H0 H L)(h0:0<=z)(hz:z<n)(k:∀v,P [v]->K v (Go.Ae.hN H)):ME (wR T (.pointer<|Z ⟨r,z.toNat*1,T⟩)<|Go.Ae.hN H) K:=h.zD.e1 h0 hz k
def SB.em(h:SB P r ty es n H0 H L)(h0:0<=z)(hz:z<n)(k:∀l,P l->K (.agg ⟨l⟩) H):ME (wR (Z es) (.pointer<|Z ⟨r,z.toNat*es,T⟩) H) K:=by
 have⟨f,G,hp,hl⟩:=h.row (k:=z.toNat) N;exact G.uL 0 O N<|k _ hp
theorem SB.w(h:SB P r ty es n H0 H L)(h0:0<=z)(hz:z<n)(E:P<|bY v)(hl:J (bY v)=es)(hk:all' fZ (bY v)=F)(k:∀H1,SB P r ty es n H0 H1 L->K undef H1):
 ME (Es es (.pointer<|Z ⟨r,z.toNat*es,T⟩) v H) K:=by
 have⟨f,I,W,G⟩:=h
 have s:z.toNat*es+es<=J f:=by
  have:(z.toNat+1)*es<=n*es:=fA es N;rw[iC]at this;omega
 refine G.st 0 O hl N hk λH1 G=>k H1 ⟨splice f (z.toNat*es)<|bY v,?_,λj B=>?_,?_⟩
 .rw[og N];exact I
 .rw[Py hl s];split
  .exact E
  .exact W j B
 .exact G
def Jr(H':Int->Prop)(l:C D):Prop:=∃z:Int,l=[vi z]/\H' z
def SB.i1(h:SB (Jr H') r ty 1 n H0 H L)(h0:0<=z)(hz:z<n)(k:∀x,H' x->K (vi x) H):ME (wR T (.pointer<|Z ⟨r,z.toNat*1,T⟩) H) K:=
 h.e1 h0 hz λv ⟨x,M,s⟩=>by cases M;exact k x s
def SB.i1Q(h:SB (Jr H') r ty 1 n H0 H L)(h0:0<=z)(hz:z<n)(k:∀x,H' x->K (vi x) (Go.Ae.hN H)):ME (wR T (.pointer<|Z ⟨r,z.toNat*1,T⟩)<|Go.Ae.hN H) K:=
 h.e1Q h0 hz λv ⟨x,M,s⟩=>by cases M;exact k x s
def SB.iw(h:SB (Jr H') r ty 1 n H0 H L)(h0:0<=z)(hz:z<n){x:Int}(M:H' x)(k:∀H1,SB (Jr H') r ty 1 n H0 H1 L->K undef H1):ME (Es 1 (.pointer<|Z ⟨r,z.toNat*1,T⟩) (vi x) H) K:=
 h.w h0 hz ⟨x,rfl,M⟩ rfl rfl k
end steps
def iG.yD{P:aX}{X:Xt}{c:Code}{s:St}{K:Out->Prop}(h:∀K',K'=K->iG P X c s K'):iG P X c s K:=h K O
def Ig{K:Out->Prop}{s:St}{i j:Nat}(h:(j==i)=aA):uB i K (.exit j s)=K (.exit j s):=S_<|nZ h
def qh.mono{P:aX}{X:Xt}{q:aC (FuncId×C D×C D)}{args:C D}{H:R}{K K':D->R->Prop}(h:qh P X q args H K)(hk:∀v Q,K v Q->K' v Q):qh P X q args H K':=by
 cases q with
 |none=>exact h
 |some q=>exact dD h hk
section bin
variable{P:aX}{a b:Int}{k k2:gm}
end bin
def Ew{k:gm}{n:Int}(h:k.wrap n=n):qd k n=n:=by rw[LX,h]
def u64_in{n:Int}(h:0<=n/\n<18446744073709551616):IntKind.u64.wrap n=n:=by
 show n %18446744073709551616=n;omega
def u8_in{n:Int}(h:0<=n/\n<256):IntKind.u8.wrap n=n:=by
 show n %256=n;omega
def X7{k:gm}{a:Int}(h:n<=32)(W:32<=k.bits):F_ k a (n:Int)=a.fdiv ((2^n:Nat):Int):=by
 unfold F_;have:min ((n:Int).toNat) k.bits=n:=N;rw[this];simp
def aje(s:aZ):Bool:=(dZ 256).all λk=>match s.data.toList[k]? with
 |none=>aA
 |some t=>aD t.toNat 8&&aD (2^t.toNat) (2*k+(if k=0 then 1 else 0))
def PU.aje{s:aZ}{y:Int}{K:D->Prop}(ht:Go.Ae.aje s=F)(h0:0<=y)(I:y<256)(h:∀t:Nat,t<=8->(1<=y->((2^t:Nat):Int)<=2*y)->K (.int .u8 (t:Int))):PU (idS (.string s)<|.int .u8 y) K:=by
 obtain⟨k,rfl⟩:∃k:Nat,y=k:=⟨y.toNat,N⟩;have E:k<256:=N;have:=fE.1 ht k<|jT.2 E;show PU (aN (nth s.data.toList k) λb=>Z<|bq .u8<|.ofNat b.toNat) K;rw[qw]
 revert this
 cases s.data.toList[k]? with
 |none=>intro h;cases h
 |some t=>
  intro W;simp only[bE]at W;have w:=aF W.1;have B:=aF W.2
  exact h t.toNat w λM=>by
   rw[if_neg N]at B;omega
section steps
variable{P:C D->Prop}{r:Nat}
def SB.oI(h:SB P r ty es n H0 H L)(M:Ext (Go.Ae.hN H) Q):SB P r ty es n H0 (hM H Q) L:=by have⟨f,I,W,G⟩:=h;exact⟨f,I,W,G.oI M⟩
def SB.stQ(h:SB P r ty es n H0 H L)(i:Nat)(hi:L[i]?=Z (q,t2,f))(hl:J (bY v)=m)(s:o+m<=J f)(hk:all' fZ (bY v)=F)(k:∀H1,SB P r ty es n H0 (hM H H1) (L.set i (q,t2,splice f o<|bY v))->K undef H1):ME (Es m (.pointer<|Z ⟨q,o,T⟩) v<|Go.Ae.hN H) K:=by
 have⟨ds,I,W,G⟩:=h;exact G.stQ (i+1) (by rw[eP];exact hi) hl s hk λH1 G=>k H1 ⟨ds,I,W,G⟩
def SB.drop{b:eB}(h:SB P r ty es n H0 H<|b::L):SB P r ty es n H0 H L:=by
 have⟨f,g1,g2,G⟩:=h;exact⟨f,g1,g2,fU (A:=[_])<|G.perm<|gX _ _ _⟩
end steps
def Tu(l:C D):Prop:=∃a b:Int,l=[.int .i32 a,.int .i32 b]
def SB.r1{r:Nat}(h:SB Tu r ty 2 n H0 H L)(h0:0<=z)(hz:z<n)(k:∀a b,K (.agg ⟨[.int .i32 a,.int .i32 b]⟩) H):ME (wR (Z 2) (.pointer<|Z ⟨r,z.toNat*2,T⟩) H) K:=
 h.em h0 hz λl s=>by obtain⟨a,b,rfl⟩:=s;exact k a b
def SB.rw'{r:Nat}(h:SB Tu r ty 2 n H0 H L)(h0:0<=z)(hz:z<n){a b:Int}(k:∀H1,SB Tu r ty 2 n H0 H1 L->K undef H1):ME (Es 2 (.pointer<|Z ⟨r,z.toNat*2,T⟩) (.agg ⟨[.int .i32 a,.int .i32 b]⟩) H) K:=
 h.w h0 hz ⟨a,b,rfl⟩ rfl rfl k
def Fu:C Nat:=aY 128 240++(aY 66 241++(aY 30 2++(19::(aY 12 3++([35,3,3,52,4,4,4,68]++aY 11 241)))))
def KE:C Nat:=[128,191,160,191,128,159,144,191,128,143,0,0,0,0,0,0,0,0,0,0,0,0,0,0,0,0,0,0,0,0,0,0]
def Dj(H:R):Prop:=3<=H.bU/\∃s t2,H.obj 1=xz s .u8 Fu/\H.obj 2=xz t2 .u8 KE
def Dj.ex(h:Dj H)(M:Ext H Q):Dj Q:=by
 have⟨h0,t1,t2,I,W⟩:=h;exact⟨aQ h0 M.bU,t1,t2,(M.obj 1 N gD).trans I,(M.obj 2 N gD).trans W⟩
open Classical in
def orT(args:C D)(H:R):aC (D×R):=if args=[]/\Dj H then Z (.bool F,H)else T
def ajf(h:Dj H):orT [] H=Z (.bool F,H):=by unfold orT;rw[if_pos ⟨rfl,h⟩]
def ajg(h:orT args H=Z (v,Q)):args=[]/\Dj H/\v=.bool F/\Q=H:=by
 unfold orT at h;split at h
 .next s=>cases h;exact⟨s.1,s.2,O,O⟩
 .cases h
def acn{k:gm}{r z:Nat}(h:H.obj r=xz ty k l)(hz:l[i]?=Z z):H.cell r i=Z (.int k (z:Int)):=by
 have hi:i<J l:=(bI.1 hz).1;unfold R.cell;rw[h];show gd (aD (dh i)<|len l) (Z<|(Tr.uY top (mp (λn=>bq k<|Int.ofNat n) l) 0 .nil).get top i)=_;rw[ig,aG hi,Bv,Tr.nY,G6,if_pos K4,aU,mD,bK,hz];rfl
def ZY{k:gm}{r x y:Nat}(h:H.obj r=xz ty k l)(M:l[i]?=Z x)(s:l[i+1]?=Z y):H.read r i 2=Z [.int k (x:Int),.int k (y:Int)]:=by
 have hi:i+1<J l:=(bI.1 s).1;show(aN (xN<|H.obj r) λw=>gd (aD (a_ i 2) w.n)<|Z<|Tr.FW top w.cells i 2)=_;rw[h];show gd (aD (i+2)<|len l) (Z<|Tr.FW top (Tr.uY top (mp (λn=>bq k<|Int.ofNat n) l) 0 .nil) i 2)=_;rw[ig,aG hi,Bv,Tr.zu,Tr.zu,Tr.D5,Tr.nY,Tr.nY,G6,if_pos K4,if_pos K4,aU,aU,mD,mD,bK,bK,M,s];rfl
section
variable{S:C Nat}
def ZZ(t:Tr D):∀(n k:Nat)(f:C D),J f=n->(∀i(h:i<J f),t.get top (k+i)=f[i])->Tr.FW top t k n=f:=by
 intro n
 induction n with
 |zero=>intro k f h _;rw[Tr.D5];exact(eU.1 h).symm
 |succ n w=>
  intro k f h s;cases f with
  |nil=>cases h
  |cons x f=>
   rw[Tr.zu,w (k+1) f (nZ h) (λi hi=>by
    have:=s (i+1)<|nZ hi;rw[show k+1+i=k+(i+1) by omega,this];rfl)]
   have:=s 0 gD;rw[d_]at this;rw[this];rfl
def FN{r:Nat}(h:∀i x,f[i]?=Z x->H.cell r (o+i)=Z x):H.read r o (J f)=Z f:=by
 cases f with
 |nil=>rfl
 |cons x f=>
  have B:∃az,H.obj r=.row az:=by
   have:=h 0 x O;unfold R.cell at this;have⟨az,I,_⟩:=aM this;exact⟨az,vN I⟩
  have⟨az,hR⟩:=B
  have s:∀i(hi:i<(x::f).length),o+i<az.n/\az.cells.get top (o+i)=(x::f)[i]:=by
   intro i hi;have I:=h i _<|av hi;unfold R.cell at I;rw[hR]at I;replace I:gd (aD (dh<|o+i) az.n) (Z<|az.cells.get top<|o+i)=Z _:=I;have⟨W,h3⟩:=gN I;exact⟨aF W,eF h3⟩
  show(aN (xN<|H.obj r) λw=>gd (aD (a_ o<|J f+1) w.n)<|Z<|Tr.FW top w.cells o<|J f+1)=_;rw[hR];show gd (aD (o+(J f+1)) az.n) (Z<|Tr.FW top az.cells o<|J f+1)=_;have E:=(s (J f) gD).1;rw[aG N,Bv,ZZ az.cells (J f+1) o (x::f) O λi hi=>(s i hi).2]
def Fl.read(h:Fl H a n es f)(E:0<es)(hk:k<n)(c:Nat):
 ∃r o,B_ es (u a n c) (B k)=Z (.pointer<|Z ⟨r,o,T⟩)/\r<H.bU/\H.read r o es=Z (El f es k)/\J (El f es k)=es/\∃w,a=Z ⟨r,w,T⟩/\o=w+k*es:=by
 have⟨r,o,I,W,h3,h4⟩:=h.idx (c:=c) E hk
 have s:J (El f es k)=es:=by
  unfold El;have:(k+1)*es<=n*es:=fA es hk;rw[iC]at this;have:=h.1;simp;omega
 refine⟨r,o,I,W,?_,s,h4⟩
 have:=FN (H:=H) (r:=r) (o:=o) (f:=El f es k) λi x M=>by
  rw[oL]at M;split at M
  .next hi=>exact h3 i x hi M
  .cases M
 rwa [s]at this
def uf(h:Fl H a n es f)(w:0<es):appended H es (u a n c)=Z (n,f):=by
 rcases gK n with rfl|hn
 .have s:f=[]:=eU.1 (by have:=h.1;omega);subst s;cases a with
  |none=>rfl
  |some a=>
   show(aN (H.read a.block a.off<|bO 0 es) λl=>Z (0,l))=_;rw[show bO 0 es=0 from jm es];rfl
 .have B:0<J f:=by rw[h.1];exact tF hn w
  obtain⟨r,o,rfl,_,_⟩:=h.2 0 _<|av B;show(aN (H.read r o<|bO n es) λl=>Z (n,l))=_
  have I:=FN (H:=H) (r:=r) (o:=o) (f:=f) λi x M=>by
   have⟨r',o',e,_,h5⟩:=h.2 i x M;cases e;exact h5
  rw[h.1]at I;rw[show bO n es=n*es from O,I];rfl
def Cv{x:D}{xs:C D}(E:v=u T 0 0\/∃a,v=u (Z a) 0 0)(s:appended H es x=Z (n,xs))(B:n<=16777216):
 Bo e es v x H=if n=0 then Z (v,H)else Z (u (Z ⟨H.bU,0,T⟩) n<|gQ es,H.new<|rowOf e xs):=by
 cases n with
 |zero=>
  rw[if_pos O];rcases E with rfl|⟨a,rfl⟩
  .unfold Bo;rw[s];show gd (aD 0 16777216) (Z (u T 0 0,H))=_;rw[aG N];rfl
  .unfold Bo;rw[s];show gd (aD 0 16777216) (Z (u (Z a) 0 0,H))=_;rw[aG N];rfl
 |succ k=>
  rw[if_neg N];rcases E with rfl|⟨a,rfl⟩
  .exact QO s B
  .unfold Bo;rw[s];show gd (aD (k+1) 16777216) (gd (aD 0 16777216)<|cr (gW 0) (xW (e,es) a 0 0 (k+1) xs H)<|gd (aB 0<|gQ es)<|uA (e,es) a 0 0 (k+1) xs H)=_;rw[aG B,aG N,show gW 0=F from O];show xW (e,es) a 0 0 (k+1) xs H=_;unfold xW
   have I:aD (a_ 0<|k+1) 0=aA:=by
    rw[<-dn];intro h;have:=aF h;have e:a_ 0 (k+1)=k+1:=bB _;omega
   have M:a_ 0 (k+1)=k+1:=bB _;have U:bO 0 es=0:=jm es;rw[I,lz];show(aN (H.read a.block a.off<|bO 0 es) λw=>Z<|zN e es (a_ 0<|k+1) (app w xs) H)=_;rw[U,M];rfl
section steps
variable{x:D}{xs:C D}
end steps
def BV{r w:Nat}(h:w<=n):R4 es (u (Z ⟨r,o,T⟩) n<|gQ es) T (Z<|B w) T=Z (u (Z ⟨r,o,T⟩) w<|gQ es):=by
 show cr (gW<|gQ es) _ (gd (aB (gQ es)<|gQ es)<|gd (aD 0 w&&aD w n)<|Z<|u (Z ⟨r,a_ o<|bO 0 es,T⟩) (dQ w 0)<|gQ es)=_;rw[Aq,lz,dW,aG<|bD _,aG h,show bO 0 es=0 from jm es];rfl
def Tv{r w:Nat}(h:w<=n):R4 es (u (Z ⟨r,o,T⟩) n<|gQ es) (Z<|B w) T T=Z (u (Z ⟨r,o+w*es,T⟩) (n-w)<|gQ es):=by
 show cr (gW<|gQ es) _ (gd (aB (gQ es)<|gQ es)<|gd (aD w n&&aD n n)<|Z<|u (Z ⟨r,a_ o<|bO w es,T⟩) (dQ n w)<|gQ es)=_;rw[Aq,lz,dW,aG<|ax _,aG h];rfl
def QW:R4 es (u T 0 0) T (Z<|B 0) T=Z (u T 0 0):=rfl
def GB.cut{H0 H:R}{L:C eB}{w:Nat}(N:GB ty es v f gb)(I:0<es)(s:w*es<=J f){K:D->Prop}(k:∀v',GB ty es v' (f.take<|w*es) gb->K v'):PU (R4 es v T (Z<|B w) T) K:=by
 rcases N with⟨rfl,rfl,rfl⟩|⟨r,n,M,rfl,U,rfl⟩
 .have:w=0:=by
   rcases gK w with h|h
   .exact h
   .have:=tF h I;have W:w*es<=0:=s;omega
  subst this;rw[QW];exact k _<|.inl ⟨O,gD,O⟩
 .have E:w<=n:=by rw[U]at s;exact tY s I
  rw[BV E];refine k _<|.inr ⟨r,w,f.drop (w*es)++M,O,?_,?_⟩
  .simp;omega
  .rw[<-cz,iM]
section bin
variable{P:aX}
def Ey(ht:I9 P t=2):mW P .eql t ox (.const<|u T 0 0) (u a n c) (u T 0 0)=Z (.bool<|fQ a):=by
 show D6 .eql (OV (I9 P t) (u T 0 0)<|u a n c)=_;rw[ht];rfl
end bin
def ajh{z:C D}(s:es<=16777216):bS e z es 0 [] H=Z (u (Z ⟨H.bU,0,T⟩) 0 0,H.new<|rowOf e []):=by
 unfold bS;rw[show bO 0 es=0 from jm es,aG<|bD _];rfl
end
def aco(w:cZ)(o:nE)(r:Nat):Prop:=o=.dead\/∃(az:Row)(f:Array D)(fr:Nat×Nat),o=.row az/\w.heap[r]?=Z (.cells f az.ty fr)/\az.mR=F/\az.n<=f.size/\∀i,i<az.n->∃v,f[i]?=Z v/\(az.cells.get top i=top\/(o7 v=F/\az.cells.get top i=v)\/∃t x,v=.iface t x/\az.cells.get top i=.iface t top)
def ak3{w:cZ}(h:H.bU<=w.heap.size)(ht:∀r,r<H.bU->aco w (H.obj r) r):RH (Bl w H) H w:=by
 refine⟨?_,?_,?_⟩
 .intro r l s;unfold Bl at s;split at s
  .next I=>exact I
  .cases s
 .intro r l s;unfold Bl at s;split at s
  .next I=>
   cases s;refine⟨w.heap[r]'N,bJ (i:=r) N,?_⟩;rcases ht r I with W|⟨az,f,fr,W,h3,Y,ab,h4⟩
   .rw[W];trivial
   .have M:De w r=f.size:=by unfold De;rw[h3]
    have U:w.heap[r]'N=.cells f az.ty fr:=by
     have:=bJ (xs:=w.heap) (i:=r) N;rw[h3]at this;injection this with this;exact this.symm
    rw[U,W];refine⟨⟨O,O⟩,O,M.symm,bD _,?_,?_,?_⟩
    .show 0+(az.n-0)<=De w r;rw[M];omega
    .rw[Y];intro h;cases h
    .intro i _ hi;have⟨v,h5,E⟩:=h4 i hi;refine⟨v,nZ h5,?_⟩;rcases E with E|⟨E,V⟩|⟨t,x,rfl,V⟩
     .rw[E];exact .top _
     .rw[V];exact .sc _ E
     .rw[V];exact .iface t top x<|.top x
  .cases s
 .intro r r' l l' s B _ _ hc;unfold Bl at s B;split at s
  .split at B
   .cases s;cases B;exact hc
   .cases B
  .cases s
section mem
variable{P:aX}
def Z0{X:Xt}(hn:n<=H.bU)(E:P.follows .mixedOrders=F)(hP:Ei P n)(hX:XOk P X)(Y:Mj P X n){g:FuncId}(U:P.funcs[g]?=Z fn)(hb:fn.body.isSome=F)(h:bQ P X g args H λv Q=>v=.bool b/\H.bU<=Q.low){w:cZ}(hw:H.bU<=w.heap.size)(ht:∀r,r<H.bU->aco w (H.obj r) r){args':C D}(ha:mX (Bl w H) args args'):
 Calls P g ⟨args'⟩ w λe w'=>e=.returned (.bool b)/\Go.RowKit.Below w.heap.size w w':=by
 obtain⟨v,Q,⟨k,h⟩,rfl,B⟩:=h;refine(levels E hP hX Y k g args _ _ Q fn h U hb (Bl w H) w args' (ak3 hw ht) (λg U=>XQ w H g N) ha).mono ?_;rintro e w' ⟨m',v',rfl,I,W,s⟩;rw[I.of_bool];refine⟨O,⟨s.os,s.tape,s.output,s.size,λc hc=>s.keep c hc ?_⟩⟩;intro r l M _;unfold Bl at M;split at M
 .next V=>exact aO V B
 .cases M
def ML(v:D):D:=if o7 v=F then v else match v with
 |.iface t _=>.iface t top
 |_=>top
def aji:Obj->nE
 |.cells f ty _=>.row ⟨ty,Tr.uY top (f.toList.map ML) 0 .nil,f.size,F,0⟩
 |_=>.dead
def acp(w:cZ)(au:Nat->aC nE)(r:Nat):nE:=(au r).getD (match w.heap[r]? with|some o=>aji o|none=>.dead)
def Bp(w:cZ)(au:Nat->aC nE):R:=⟨Tr.uY .dead ((dZ w.heap.size).map<|acp w au) 0 .nil,w.heap.size,w.heap.size⟩
def MM(w:cZ)(au:Nat->aC nE){r:Nat}(h:r<w.heap.size):(Bp w au).obj r=acp w au r:=by
 show(Tr.uY .dead ((dZ w.heap.size).map<|acp w au) 0 .nil).get .dead r=_;rw[Tr.nY,if_pos K4,aU];simp[h]
theorem aga{w:cZ}{au:Nat->aC nE}(B:∀r o,au r=Z o->aco w o r):∀r,r<(Bp w au).bU->aco w ((Bp w au).obj r) r:=by
 intro r s;replace s:r<w.heap.size:=s;rw[MM w au s];unfold acp;cases hc:au r with
 |some o=>exact B r o hc
 |none=>
  rw[bJ s];show aco w (aji _) r;cases ho:w.heap[r]with
  |cells f ty fr=>
   refine .inr ⟨_,f,fr,O,by rw[bJ s,ho],rfl,ax _,λi hi=>?_⟩;replace hi:i<f.size:=hi;refine⟨f[i],bJ hi,?_⟩;show(Tr.uY top (f.toList.map ML) 0 .nil).get top i=top\/_
   have e:(Tr.uY top (f.toList.map ML) 0 .nil).get top i=ML f[i]:=by
    rw[Tr.nY,if_pos K4,aU];simp[hi]
   show(Tr.uY top (f.toList.map ML) 0 .nil).get top i=top\/(o7 f[i]=F/\(Tr.uY top (f.toList.map ML) 0 .nil).get top i=f[i])\/∃t x,f[i]=.iface t x/\(Tr.uY top (f.toList.map ML) 0 .nil).get top i=.iface t top;rw[e];unfold ML;split
   .next h=>exact .inr<|.inl ⟨h,O⟩
   .split
    .next t x e=>exact .inr<|.inr ⟨t,x,e,O⟩
    .exact .inl O
  |_=>exact .inl O
def Pz{w:cZ}{au:Nat->aC nE}{r:Nat}(B:au r=T)(h:w.cell? ⟨r,o,T⟩=Z v)(hs:o7 v=F):r<w.heap.size/\(Bp w au).cell r o=Z v:=by
 unfold World.cell? at h;cases hr:w.heap[r]? with
 |none=>simp[hr]at h
 |some E=>
  have s:r<w.heap.size:=(eZ.1 hr).1;refine⟨s,?_⟩;cases E with
  |cells f ty fr=>
   simp[hr]at h;have hi:o<f.size:=(eZ.1 h).1;unfold R.cell;rw[MM w au s];unfold acp;rw[B,hr];show gd (aD (dh o) f.size) (Z<|(Tr.uY top (f.toList.map ML) 0 .nil).get top o)=_;rw[aG hi,Bv,Tr.nY,if_pos K4,aU];have W:f[o]=v:=(eZ.1 h).2;simp[hi,W,ML,hs]
  |_=>simp[hr]at h
def X8{w:cZ}{au:Nat->aC nE}{r:Nat}(E:r<w.heap.size)(s:c<=9223372036854775807)(B:n<=c):VR (Bl w<|Bp w au) (u (Z ⟨r,o,T⟩) n c) (u (Z ⟨r,o,T⟩) n c):=by
 have:=VR.slice (m:=Bl w<|Bp w au) r o n c ⟨r,0,0,De w r,ai7<|(Bp w au).obj r⟩ (by unfold Bl;rw[if_pos (show r<(Bp w au).bU from E)]) (bD _) (aG s) B;simpa using this
end mem
section
variable{S:C Nat}
def GK(ty:aH)(es:Nat)(v:D)(f:C D)(gb:C eB):Prop:=
 GB ty es v f gb\/∃r n m s,v=u (Z ⟨r,0,T⟩) n m/\m<=16777216/\J f=n*es/\J (f++s)=m*es/\gb=[(r,ty,f++s)]
def MN(h:m<=16777216):gW m=F:=aG N
section steps
variable{xs:C D}
def GK.app(hg:GK ty es v f gb)(G:SH S H0 H<|(rx,ty,xs)::(gb++L))(he:0<es)(M:J xs=(m+1)*es)(V:all' fZ xs=F)(hm:m+1<=16777216)(hc:J f<=16777216):
 ∃v' H1 iN,Bo ty es v (u (Z ⟨rx,0,T⟩) (m+1) cx) H=Z (v',H1)/\GK ty es v' (f++xs) iN/\SH S H0 H1 (iN++L)/\pI (gb.map (·.1)) H H1:=by
 rcases hg with hg|⟨r,n,s,E,rfl,U,Y,hj,rfl⟩
 .have⟨v',H1,iN,I,W,h3,h4⟩:=hg.app (cx:=cx) G he M V hm hc;exact⟨v',H1,iN,I,.inl W,h3,h4⟩
 have ac:=G.get 0 O;have ha:=xJ (k:=m+1) (c:=cx) ac M;have B:SH S H0 H ([(r,ty,f++E)]++L):=fU (A:=[(rx,ty,xs)]) G;have hb:=B.get 0 O
 have ad:n<=16777216:=by
  have:n*1<=n*es:=gM n he;omega
 have ab:Bo ty es (u (Z ⟨r,0,T⟩) n s) (u (Z ⟨rx,0,T⟩) (m+1) cx) H=xW (ty,es) ⟨r,0,T⟩ n s (m+1) xs H:=by
  unfold Bo;rw[ha];show gd (aD (m+1) 16777216) (gd (aD n 16777216)<|cr (gW s) (xW (ty,es) ⟨r,0,T⟩ n s (m+1) xs H) _)=_;rw[aG hm,aG ad,MN U];rfl
 rw[ab];unfold xW;show∃v' H1 iN,cr (aD (n+(m+1)) s) (aN (H.write r (a_ 0<|n*es) xs) λQ=>Z (u (Z ⟨r,0,T⟩) (n+(m+1)) s,Q)) (aN (H.read r 0<|n*es) λal=>Z<|zN ty es (n+(m+1)) (Go.Ae.app al xs) H)=Z (v',H1)/\_;rw[show a_ 0 (n*es)=n*es from bB _];have w:(n+(m+1))*es=n*es+(m+1)*es:=iC ..
 by_cases hfit:n+(m+1)<=s
 .rw[aG hfit,oh];have am:(n+(m+1))*es<=s*es:=fA es hfit;have⟨H1,I,W,h3⟩:=B.zl (vs:=xs) (o:=n*es) 0 O N V;rw[I]
  have hs:splice (f++E) (n*es) xs=f++xs++E.drop (J xs):=by
   unfold splice;rw[<-Y,rV,vZ,oN N,bZ,jH]
  rw[hs]at W;refine⟨_,H1,[(r,ty,f++xs++E.drop (J xs))],O,.inr ⟨r,n+(m+1),s,E.drop<|J xs,O,U,?_,?_,O⟩,W,h3⟩
  .rw[aS,Y,M,w]
  .rw[<-hs,og N];exact hj
 .rw[show aD (n+(m+1)) s=aA from by rw[<-dn];intro h;exact hfit<|aF h,lz]
  have ag:H.read r 0 (n*es)=Z f:=by
   rw[hb.read K4];simp only[jE];rw[<-Y,rV]
  rw[ag];show∃v' H1 iN,Z (zN ty es (n+(m+1)) (Go.Ae.app f xs) H)=Z (v',H1)/\_;rw[uq];refine⟨_,_,[(H.bU,ty,f++xs)],O,.inl<|.inr ⟨H.bU,n+(m+1),[],O,?_,gD⟩,?_,(Ext.new _ _).weaken<|nofun⟩
  .rw[aS,Y,M,w]
  .exact(fU (A:=[(r,ty,f++E)]) B).grow ty<|f++xs
def GK.fl(s:GK ty es v f gb)(G:SH S H0 H<|gb++L):∃a n c,v=u a n c/\J f=n*es/\Fl H a n es f:=by
 rcases s with s|⟨r,n,m,E,rfl,B,w,I,rfl⟩
 .exact s.fl G
 .refine⟨_,n,_,O,w,w,λi x hi=>⟨r,0,rfl,(G.lo _<|aL ..).2,?_⟩⟩;rw[bB];refine(G.get 0 O).cell ?_;rw[bX (bI.1 hi).1];exact hi
end steps
end
def PP:=aa @Ig<|aa @Ld<|aa @XV<|aa @XW<|aa @XZ<|aa @X3<|aa @Tp<|aa @Te<|aa @Tf<|aa @Tg<|aa @Cq<|aa @Ti<|aa @Tj<|aa @Pv<|aa @Pw<|aa @Tm<|aa @My<|aa @Ta<|aa @Pq<|aa @Tn<|aa @min2<|aa @max2<|aa @Lf<|aa @X5<|aa @X6<|aa @SY<|aa @S7<|aa @XT<|aa @S8<|aa @XU<|aa @S9<|aa @Tc<|aa @Td<|aa @XX<|aa @yY<|aa @Di<|aa @Px<|aa @MB<|aa @Dh<|aa @MC<|aa @MF<|aa @JY<|aa @JZ<|aa @J2<|aa @MG<|aa @MH<|aa @J3<|aa @J4<|aa @J5<|aa @J6<|aa @Ia<|aa @J7<|aa @Ib<|aa @J8<|aa @Ic<|aa @ajd<|aa (@uZ D)<|aa (@eP D)<|aa @bB<|aa @d_<|aa (@qW eB)<|@kG eB
class BX (L:C eB) (r:Nat) (ty:outParam aH) (f:outParam<|C D):Prop where
 at':∃i:Nat,L[i]?=Z ((r,ty,f):eB)
instance BX.there{r:Nat}{ty:aH}{f:C D}{b:eB}{L:C eB}[h:BX L r ty f]:BX (b::L) r ty f:=⟨let⟨i,hi⟩:=h.at';⟨i+1,hi⟩⟩
instance BX.here{r:Nat}{ty:aH}{f:C D}{L:C eB}:BX ((r,ty,f)::L) r ty f:=⟨⟨0,O⟩⟩
class Ga (L:C eB) (r:Nat) (ay:C D->C D) (ty:outParam aH) (f:outParam<|C D) (L':outParam<|C eB):Prop where
 at':∃i:Nat,L[i]?=Z ((r,ty,f):eB)/\L'=L.set i (r,ty,ay f)
instance Ga.there{r:Nat}{ay:C D->C D}{ty:aH}{f:C D}{b:eB}{L L':C eB}[h:Ga L r ay ty f L']:Ga (b::L) r ay ty f (b::L'):=⟨let⟨i,hi,e⟩:=h.at';⟨i+1,hi,by rw[e];rfl⟩⟩
instance Ga.here{r:Nat}{ay:C D->C D}{ty:aH}{f:C D}{L:C eB}:Ga ((r,ty,f)::L) r ay ty f ((r,ty,ay f)::L):=⟨⟨0,O,O⟩⟩
section steps
variable{S:C Nat}{r:Nat}
def SH.qF(G:SH S H0 H L)[s:BX L r ty f](k:K v H)(w:f[o]?=Z v:=by rfl):ME (wR T (.pointer<|Z ⟨r,o,T⟩) H) K:=let⟨i,hi⟩:=s.at';G.ld i hi w k
def SH.jC(G:SH S H0 H L)[s:BX L r ty f](k:K (.agg ⟨(f.drop o).take n⟩) H)(w:o+n<=J f:=by exact aF O):ME (wR (Z n) (.pointer<|Z ⟨r,o,T⟩) H) K:=let⟨i,hi⟩:=s.at';G.uL i hi w k
def SH.VI(G:SH S H0 H L)[s:BX L r ty f](k:K v<|Go.Ae.hN H)(w:f[o]?=Z v:=by rfl):ME (wR T (.pointer<|Z ⟨r,o,T⟩)<|Go.Ae.hN H) K:=let⟨i,hi⟩:=s.at';G.Ov i hi w k
def SH.PD(G:SH S H0 H L)[s:BX L r ty f](k:K (.agg ⟨(f.drop o).take n⟩)<|Go.Ae.hN H)(w:o+n<=J f:=by exact aF O):ME (wR (Z n) (.pointer<|Z ⟨r,o,T⟩)<|Go.Ae.hN H) K:=let⟨i,hi⟩:=s.at';G.MI i hi w k
def SH.kE(G:SH S H0 H L)[s:Ga L r (λf=>splice f o<|bY v) ty f L'](k:∀H1,SH S H0 H1 L'->K undef H1)(hl:J (bY v)=n:=by rfl)(w:o+n<=J f:=by exact aF O)(hk:all' fZ (bY v)=F:=by rfl):ME (Es n (.pointer<|Z ⟨r,o,T⟩) v H) K:=by
 have⟨i,hi,e⟩:=s.at';subst e;exact G.st i hi hl w hk k
end steps
section agg
variable{q:aC D}{K:D->Prop}{a b c d e cs g h i:D}
def PU.b1(s:q=Z (.agg ⟨[a]⟩))(k:K<|.agg ⟨[a]⟩):PU q K:=.of s k
def PU.b2(s:q=Z (.agg ⟨[a,b]⟩))(k:K<|.agg ⟨[a,b]⟩):PU q K:=.of s k
def PU.b3(s:q=Z (.agg ⟨[a,b,c]⟩))(k:K<|.agg ⟨[a,b,c]⟩):PU q K:=.of s k
def PU.b4(s:q=Z (.agg ⟨[a,b,c,d]⟩))(k:K<|.agg ⟨[a,b,c,d]⟩):PU q K:=.of s k
def PU.b5(s:q=Z (.agg ⟨[a,b,c,d,e]⟩))(k:K<|.agg ⟨[a,b,c,d,e]⟩):PU q K:=.of s k
def PU.b6(s:q=Z (.agg ⟨[a,b,c,d,e,cs]⟩))(k:K<|.agg ⟨[a,b,c,d,e,cs]⟩):PU q K:=.of s k
def PU.b7(s:q=Z (.agg ⟨[a,b,c,d,e,cs,g]⟩))(k:K<|.agg ⟨[a,b,c,d,e,cs,g]⟩):PU q K:=.of s k
def PU.b8(s:q=Z (.agg ⟨[a,b,c,d,e,cs,g,h]⟩))(k:K<|.agg ⟨[a,b,c,d,e,cs,g,h]⟩):PU q K:=.of s k
def PU.b9(s:q=Z (.agg ⟨[a,b,c,d,e,cs,g,h,i]⟩))(k:K<|.agg ⟨[a,b,c,d,e,cs,g,h,i]⟩):PU q K:=.of s k
end agg
def Ah(H:R)(r:Nat)(ty:aH):Prop:=∃az,H.obj r=.row az/\az.ty=ty
def Ah.one{r:Nat}(h:Ah H r ty)(s:Ah H r ty'):ty=ty':=by
 have⟨az,I,W⟩:=h;have⟨R',h3,h4⟩:=s;rw[I]at h3;cases h3;rw[<-W,<-h4]
def Bk.Gb{r:Nat}(h:Bk H r ty f):Ah H r ty:=by
 have⟨az,I,W,_⟩:=h;exact⟨az,I,W⟩
def Ah.iE{r:Nat}(h:Ah H r ty)(e:Q.obj r=H.obj r):Ah Q r ty:=by
 have⟨az,I,W⟩:=h;exact⟨az,e.trans I,W⟩
def jJ(ay:Nat->Prop)(ty:aH)(H:R)(a:aC Addr)(n es:Nat)(f:C D):Prop:=Fl H a n es f/\∀r o,a=Z ⟨r,o,T⟩->0<n->ay r/\r<H.bU/\Ah H r ty
def jJ.nil(ay:Nat->Prop)(ty:aH)(H:R)(a:aC Addr)(es:Nat):jJ ay ty H a 0 es []:=⟨Fl.nil _ _ _,λ_ _ _ h=>N⟩
def jJ.stay{S:C Nat}{ay:Nat->Prop}(h:jJ ay ty H a n es f)(M:pI S H Q)(G:∀q∈S,¬ay q\/¬Ah H q ty):jJ ay ty Q a n es f:=by
 have⟨I,W⟩:=h
 have s:∀r o,a=Z ⟨r,o,T⟩->0<n->r∉S:=λr o e hn w=>by
  have⟨h3,_,h4⟩:=W r o e hn;rcases G r w with h5|h5
  .exact h5 h3
  .exact h5 h4
 rcases gK n with rfl|hn
 .have:f=[]:=eU.1 (by have:=I.1;omega);subst this;exact jJ.nil _ _ _ _ _
 .refine⟨I.ext M λr o e=>s r o e hn,λr o e _=>?_⟩;have⟨h3,h4,h5⟩:=W r o e hn;exact⟨h3,aO h4 M.bU,h5.iE<|M.obj r h4<|s r o e hn⟩
def jJ.ex{ay:Nat->Prop}(h:jJ ay ty H a n es f)(M:Ext H Q):jJ ay ty Q a n es f:=h.stay M<|nofun
def jJ.wk{ay F':Nat->Prop}(h:jJ ay ty H a n es f)(w:∀r,ay r->F' r):jJ F' ty H a n es f:=⟨h.1,λr o e s=>⟨w _ (h.2 r o e s).1,(h.2 r o e s).2⟩⟩
def jJ.le{b b':Nat}(h:jJ (b<=·) ty H a n es f)(s:b'<=b):jJ (b'<=·) ty H a n es f:=h.wk λ_ h=>aQ s h
def SH.AO{S:C Nat}(G:SH S H0 H L)(h:L.all (λe=>!(e.2.1==ty))=F):∀q∈L.map (·.1),¬Ah H q ty:=λq w B=>by
 obtain⟨e,s,rfl⟩:=bP.1 w;have I:=(G.bk e s).Gb.one B;have W:=fE.1 h e s;simp[I]at W
def GB.KF{S:C Nat}{ay:Nat->Prop}(B:GB ty es v f gb)(G:SH S H0 H<|gb++L)(w:∀e∈gb,ay e.1):∃a n c,v=u a n c/\J f=n*es/\jJ ay ty H a n es f:=by
 rcases B with⟨rfl,rfl,rfl⟩|⟨r,n,E,rfl,s,rfl⟩
 .exact⟨T,0,0,O,gD,jJ.nil _ _ _ _ _⟩
 .refine⟨_,n,_,O,s,⟨s,λi x hi=>⟨r,0,rfl,(G.lo _<|aL ..).2,?_⟩⟩,λI o e _=>?_⟩
  .rw[bB];refine(G.get 0 O).cell ?_;rw[bX (bI.1 hi).1];exact hi
  .cases e;exact⟨w _<|aL ..,(G.lo _<|aL ..).2,(G.get 0 O).Gb⟩
def GB.UO(w:GB ty es v f gb)(G:SH [] H0 H<|gb++L):∃a n c,v=u a n c/\J f=n*es/\jJ (H0.bU<=·) ty H a n es f:=
 w.KF G λe s=>G.yV<|dK _ s
def GB.all(s:GB ty es v f gb)(h:(ty==ty')=aA):gb.all (λe=>!(e.2.1==ty'))=F:=by
 rcases s with⟨_,_,rfl⟩|⟨r,n,w,_,_,rfl⟩
 .rfl
 .simp at h;simp[h]
section steps
variable{S:C Nat}{r:Nat}
def SH.n_(G:SH S H0 H L)[B:Ga L r (λf=>splice f o<|bY v) ty f L'](k:∀H1,SH S H0 (hM H H1) L'->K undef H1)(hl:J (bY v)=n:=by rfl)(U:o+n<=J f:=by exact aF O)(hk:all' fZ (bY v)=F:=by rfl):ME (Es n (.pointer<|Z ⟨r,o,T⟩) v<|Go.Ae.hN H) K:=by
 have⟨i,hi,e⟩:=B.at';subst e;have⟨H1,I,W,M⟩:=(SH.zD G).zl (vs:=bY v) (o:=o) i hi N hk;show ME (gd (aB (len<|bY v) n)<|aN ((Go.Ae.hN H).write r o<|bY v) λQ=>Z (undef,Q)) K;rw[ig,hl,dW,I];refine k H1 ?_;have E:hM H H1=hM H H1:=rfl
 exact⟨pI.later G.ext M.draw (λq w=>by
  simp at w;subst w;exact(G.lo _<|aV hi).1),W.bk,λe s=>⟨(W.lo e s).1,(W.lo e s).2⟩,W.ne,M.draw.wf G.wf⟩
end steps
def SH.VJ{S:C Nat}{xs:C D}(G:SH S H0 H L)(E:0<es)(w:v=u T 0 0\/∃a,v=u (Z a) 0 0)(M:Fl H a n es xs)(I:n<=16777216)(k:∀a' c' H1 L',jJ (H.bU<=·) ty H1 a' n es xs->SH S H0 H1 (L'++L)->K (u a' n c') H1):ME (Bo ty es v (u a n c) H) K:=by
 rw[Cv w (uf M E) I];split
 .next h0=>
  subst h0;have B:xs=[]:=eU.1 (by have:=M.1;omega);subst B;rcases w with rfl|⟨a,rfl⟩
  .exact k T 0 H [] (jJ.nil _ _ _ _ _) G
  .exact k (Z a) 0 H [] (jJ.nil _ _ _ _ _) G
 .next h0=>
  have s:=Bk.new H ty xs;exact k _ _ _ [(H.bU,ty,xs)] ⟨s.fl (dI _) M.1,λr o e _=>by cases e;exact⟨ax _,dI _,s.Gb⟩⟩<|G.grow ty xs
def SH.own{S:C Nat}(G:SH S H0 H<|hx++L):SH (hx.map (·.1)) H H hx:=(G.sub<|fC hx L).base
def SH.frame{S:C Nat}(G:SH S H0 H<|hx++L)(h:SH (hx.map (·.1)) H Q M'):SH S H0 Q (M'++L):=
 G.turn h.ext (λe s=>⟨h.bk e s,h.lo e s⟩) h.ne
def PE(x:eB)(L:C eB):(x::(L++[])).Perm (L++[x]):=by rw[bF];exact aI (l₁:=[x])
def ak4(x y z:eB)(L:C eB):(x::y::z::(L++[])).Perm (L++[x,y,z]):=by rw[bF];exact aI (l₁:=[x,y,z])
def ji{K:Prop}(h:noTwo cls=F)(k:K):kZ ops cls=F/\K:=⟨JX h,k⟩
def Np(az:C Int->Prop)(r:Nat)(ty:aH)(n:Nat)(H0 H:R)(L:C eB):Prop:=∃f vs,J f=n/\az f/\SH [] H0 H ((r,ty,f.map vi++vs)::L)
def Rn(az:C Int->Prop)(z x:Int)(f:C Int):Prop:=az f/\f[z.toNat]?=Z x
def Wn(az:C Int->Prop)(z x:Int)(f:C Int):Prop:=∃c,az c/\f=c.set z.toNat x
def Pn(c0 f:C Int):Prop:=f.Perm c0
class Bn (az:C Int->Prop) (c0:outParam<|C Int):Prop where
 h:∀f,az f->Pn c0 f
instance Bn.s{c0:C Int}:Bn (Pn c0) c0:=⟨λ_ h=>h⟩
instance Bn.r{az:C Int->Prop}{z x:Int}{c0:C Int}[b:Bn az c0]:Bn (Rn az z x) c0:=⟨λ_ h=>b.h _ h.1⟩
def PG{c:C Int}{x y:Int}(hi:c[i]?=Z x)(s:c[j]?=Z y):((c.set i y).set j x).Perm c:=by
 obtain⟨I,rfl⟩:=bI.1 hi;obtain⟨W,rfl⟩:=bI.1 s;exact List.set_set_perm I W
instance Bn.w{az:C Int->Prop}{c0:C Int}{p q x y:Int}[b:Bn az c0]:Bn (Wn (Wn (Rn (Rn az p x) q y) p y) q x) c0:=⟨λ_ ⟨_,⟨_,h,e⟩,s⟩=>by
 subst e s;exact(PG h.1.2 h.2).trans<|b.h _ h.1.1⟩
instance Bn.w'{az:C Int->Prop}{c0:C Int}{p q x y:Int}[b:Bn az c0]:Bn (Wn (Wn (Rn (Rn az p x) q y) q x) p y) c0:=⟨λ_ ⟨_,⟨_,h,e⟩,s⟩=>by
 subst e s;exact(PG h.2 h.1.2).trans<|b.h _ h.1.1⟩
section steps
variable{az R':C Int->Prop}{r:Nat}
def Np.mono(h:Np az r ty n H0 H L)(s:∀c,J c=n->az c->R' c):Np R' r ty n H0 H L:=by have⟨f,vs,I,W,G⟩:=h;exact⟨f,vs,I,s _ I W,G⟩
def Np.bk{c0:C Int}[b:Bn az c0](h:Np az r ty n H0 H L):Np (Pn c0) r ty n H0 H L:=h.mono λc _=>b.h c
def Np.wf(h:Np az r ty n H0 H L):Wf H:=by have⟨_,_,_,_,G⟩:=h;exact G.wf
def Np.ext(h:Np az r ty n H0 H L):Ext H0 H:=by have⟨_,_,_,_,G⟩:=h;exact G.ext
def Np.new(h:Np az r ty n H0 H L){z:C D}(k:∀H1 q,Np az r ty n H0 H1 ((q,t2,z)::L)->K (.pointer<|Z ⟨q,0,T⟩) H1):ME (jP t2 z H) K:=by
 have⟨f,vs,I,W,G⟩:=h;exact G.jP λH1 q G=>k H1 q ⟨f,vs,I,W,G.perm<|gX _ _ _⟩
def Np.ld(h:Np az r ty n H0 H L)(i:Nat){q o:Nat}{t2:aH}{f:C D}{v:D}(hi:L[i]?=Z (q,t2,f))(s:f[o]?=Z v)(k:K v H):ME (wR T (.pointer<|Z ⟨q,o,T⟩) H) K:=by
 have⟨_,_,_,_,G⟩:=h;exact G.ld (i+1) (by rw[eP];exact hi) s k
def Np.Ov(h:Np az r ty n H0 H L)(i:Nat)(hi:L[i]?=Z (q,t2,f))(s:f[o]?=Z v)(k:K v<|Go.Ae.hN H):ME (wR T (.pointer<|Z ⟨q,o,T⟩)<|Go.Ae.hN H) K:=by
 have⟨_,_,_,_,G⟩:=h;exact G.Ov (i+1) (by rw[eP];exact hi) s k
def Np.st(h:Np az r ty n H0 H L)(i:Nat)(hi:L[i]?=Z (q,t2,f))(hl:J (bY v)=m)(s:o+m<=J f)(hk:all' fZ (bY v)=F)(k:∀H1,Np az r ty n H0 H1 (L.set i (q,t2,splice f o<|bY v))->K undef H1):ME (Es m (.pointer<|Z ⟨q,o,T⟩) v H) K:=by
 have⟨ds,vs,I,W,G⟩:=h;exact G.st (i+1) (by rw[eP];exact hi) hl s hk λH1 G=>k H1 ⟨ds,vs,I,W,G⟩
def Np.stQ(h:Np az r ty n H0 H L)(i:Nat)(hi:L[i]?=Z (q,t2,f))(hl:J (bY v)=m)(s:o+m<=J f)(hk:all' fZ (bY v)=F)(k:∀H1,Np az r ty n H0 (hM H H1) (L.set i (q,t2,splice f o<|bY v))->K undef H1):ME (Es m (.pointer<|Z ⟨q,o,T⟩) v<|Go.Ae.hN H) K:=by
 have⟨ds,vs,I,W,G⟩:=h;exact G.stQ (i+1) (by rw[eP];exact hi) hl s hk λH1 G=>k H1 ⟨ds,vs,I,W,G⟩
def Np.drop{b:eB}(h:Np az r ty n H0 H<|b::L):Np az r ty n H0 H L:=by
 have⟨f,vs,I,W,G⟩:=h;exact⟨f,vs,I,W,fU (A:=[_])<|G.perm<|gX _ _ _⟩
def Np.zD(h:Np az r ty n H0 H L):Np az r ty n (Go.Ae.hN H0) (Go.Ae.hN H) L:=by have⟨f,vs,I,W,G⟩:=h;exact⟨f,vs,I,W,G.zD⟩
theorem Np.i1N(h:Np az r ty n H0 H L)(hz:o<n)(k:∀x,Np (Rn az (o:Int) x) r ty n H0 H L->K (vi x) H):ME (wR T (.pointer<|Z ⟨r,o,T⟩) H) K:=by
 have⟨f,vs,I,W,G⟩:=h;have s:o<J f:=N;refine G.ld 0 O (v:=vi f[o]) (by rw[bX (by rw[aK];exact s),bK,av s];rfl)<|k _ ⟨f,vs,I,⟨W,?_⟩,G⟩;exact av s
theorem Np.acr(h:Np az r ty n H0 H L)(hz:o<n)(k:∀x,Np (Rn az (o:Int) x) r ty n H0 H L->K (vi x) (Go.Ae.hN H)):ME (wR T (.pointer<|Z ⟨r,o,T⟩)<|Go.Ae.hN H) K:=by
 have⟨f,vs,I,W,G⟩:=h;have s:o<J f:=N;refine G.Ov 0 O (v:=vi f[o]) (by rw[bX (by rw[aK];exact s),bK,av s];rfl)<|k _ ⟨f,vs,I,⟨W,?_⟩,G⟩;exact av s
def PI{f:C Int}(h:o<J f)(x:Int):splice (f.map vi++vs) o [vi x]=(f.set o x).map vi++vs:=by
 rw[<-qP vi h x];unfold splice;rw[lS (by rw[aK];omega),rR (by rw[aK];show o+1<=_;omega)];simp
def Np.iwN(h:Np az r ty n H0 H L)(hz:o<n){x:Int}(k:∀H1,Np (Wn az (o:Int) x) r ty n H0 H1 L->K undef H1):ME (Es 1 (.pointer<|Z ⟨r,o,T⟩) (vi x) H) K:=by
 have⟨f,vs,I,W,G⟩:=h;refine G.st 0 O O (by rw[aS,aK];omega) rfl λH1 G=>k H1 ⟨f.set o x,vs,by rw[bR];exact I,⟨f,W,O⟩,?_⟩;rw[<-PI N];exact G
variable(h0:0<=z)(hz:z<n)
include h0 hz
def Np.i1(h:Np az r ty n H0 H L)(k:∀x,Np (Rn az z x) r ty n H0 H L->K (vi x) H):ME (wR T (.pointer<|Z ⟨r,z.toNat*1,T⟩) H) K:=by
 rw[dN];exact h.i1N N λx s=>k x<|s.mono λ_ _ h=>h
def Np.i1Q(h:Np az r ty n H0 H L)(k:∀x,Np (Rn az z x) r ty n H0 H L->K (vi x) (Go.Ae.hN H)):ME (wR T (.pointer<|Z ⟨r,z.toNat*1,T⟩)<|Go.Ae.hN H) K:=by
 rw[dN];exact h.acr N λx s=>k x<|s.mono λ_ _ h=>h
def Np.iw(h:Np az r ty n H0 H L){x:Int}(k:∀H1,Np (Wn az z x) r ty n H0 H1 L->K undef H1):ME (Es 1 (.pointer<|Z ⟨r,z.toNat*1,T⟩) (vi x) H) K:=by
 rw[dN];exact h.iwN N λx s=>k x<|s.mono λ_ _ h=>h
end steps
def bM(h:vn)(s:A=vn:=by simp only[PP,Nat.reduceBEq];rfl):A:=by rw[s];exact h
section lJ
variable{S:C Nat}
def SH.lJ(G:SH S H0 H L)(h:vn)(s:Wf H->A=vn:=by intro w;simp only[PP,Nat.reduceBEq,iT w];rfl):A:=by rw[s G.wf];exact h
def SB.lJ{P:C D->Prop}{r:Nat}(G:SB P r ty es n H0 H L)(h:vn)(s:Wf H->A=vn:=by intro w;simp only[PP,Nat.reduceBEq,iT w];rfl):A:=by rw[s G.wf];exact h
def Np.lJ{az:C Int->Prop}{r:Nat}(G:Np az r ty n H0 H L)(h:vn)(s:Wf H->A=vn:=by intro w;simp only[PP,Nat.reduceBEq,iT w];rfl):A:=by rw[s G.wf];exact h
end lJ
section bin
variable{P:aX}{a b:Int}{K:D->Prop}
def eG(k:K<|vi<|a+b)(I:-9223372036854775808<=a+b:=by omega)(W:a+b<=9223372036854775807:=by omega):PU (mW P .add t ox oy (vi a)<|vi b) K:=dA (gB I W) k
def q_(k:K<|vi<|a-b)(I:-9223372036854775808<=a-b:=by omega)(W:a-b<=9223372036854775807:=by omega):PU (mW P .sub t ox oy (vi a)<|vi b) K:=dA (qO I W) k
def PK{r:Nat}(k:K<|.pointer<|Z ⟨r,o+z.toNat*es,T⟩)(h0:0<=z:=by omega)(h:z<n:=by omega):PU (B_ es (u (Z ⟨r,o,T⟩) n c)<|vi z) K:=dA (af9 h0 h) k
end bin
def pJ:vi ((k:Int)+1)=B (k+1):=by rw[show((k:Int)+1)=((k+1:Nat):Int) by omega]
def anV{q:Prop}(k:q)(h:kZ ops cls=F:=by((try simp only[fu,gT,gJ<|Ext.refl<|hN _]);kernel_rfl)):kZ ops cls=F/\q:=⟨h,k⟩
def acs{q:Prop}(k:q)(h:noTwo cls=F:=by simp only[fu,gJ<|Ext.refl<|hN _];rfl):kZ ops cls=F/\q:=ji h k
def splitK{q:Prop}(h:∀K:Prop,K->p/\K)(k:q):p/\q:=h q k
def fJ(h:vn)(cs:vn->A:=by intro h;(repeat(first|(simp only[PP,Nat.reduceBEq,iT G.wf])|(refine PU.b1 O ?_)|(refine PU.b2 O ?_)|(refine PU.b3 O ?_)|(refine PU.b4 O ?_)|(refine PU.b5 O ?_)|(refine PU.b6 O ?_)|(refine PU.b7 O ?_)|(refine PU.b8 O ?_)|(refine PU.b9 O ?_)|(refine G.qF ?_)|(refine G.jC ?_)|(refine G.VI ?_)|(refine G.PD ?_)|(refine ji (by simp only[fu,gJ<|Ext.refl<|hN _];rfl) ?_)));exact h):A:=cs h
def tO{ah:Prop}{d:Decidable p}(I:p->A)(W:¬p->vn)(cs:yU (Z<|decide p) A vn->ah:=by intro h;refine bM ?_;exact h):ah:=cs<|aW I W
def MO{ah:Prop}{d:Decidable p}(W:¬p->vn)(I:p->A)(cs:yU (Z<|decide p) A vn->ah:=by intro h;refine bM ?_;exact h):ah:=cs<|aW I W
def yx{ah:Prop}{d:Decidable p}(I:¬p->A)(W:p->vn)(cs:yU (Z<|!decide p) A vn->ah:=by intro h;refine bM ?_;exact h):ah:=cs<|fP I W
def sD{ah:Prop}(I:b=F->A)(W:b=aA->vn)(cs:yU (Z b) A vn->ah:=by intro h;refine bM ?_;exact h):ah:=cs<|iI I W
def yz{ah:Prop}{d:Decidable p}(I:p->A)(W:¬p->vn)(cs:yU (Z<|decide p) A vn->ah:=by intro h;refine fJ ?_;exact h):ah:=cs<|aW I W
def acu{ah:Prop}{d:Decidable p}(W:¬p->vn)(I:p->A)(cs:yU (Z<|decide p) A vn->ah:=by intro h;refine fJ ?_;exact h):ah:=cs<|aW I W
def Ow{ah:Prop}{d:Decidable p}(I:¬p->A)(W:p->vn)(cs:yU (Z<|!decide p) A vn->ah:=by intro h;refine fJ ?_;exact h):ah:=cs<|fP I W
def QX{ah:Prop}(I:b=F->A)(W:b=aA->vn)(cs:yU (Z b) A vn->ah:=by intro h;refine fJ ?_;exact h):ah:=cs<|iI I W
def xA(g:Nat->Nat)(c:Cl):Cl:=⟨c.k,g c.r,c.off,c.n,c.a,c.b⟩
def Ez(m:Nat)(c:Cl):Bool:=cr (aB c.k 3||aB c.k 4) (aD 1 c.r&&aD c.r m) F
def kill(c:Cl):Cl:=cr (aB c.k 2) ⟨2,0,0,0,hh0,hh0⟩ c
def Z4(h:g x.r=g y.r->x.r=y.r):zO (xA g x) (xA g y)=zO x y:=by
 unfold zO xA
 have:aB (g x.r) (g y.r)=aB x.r y.r:=by
  rw[iD,kU,kU];exact⟨h,λe=>by rw[e]⟩
 simp only[this]
def Js{a b:R}{l:Cl}(s:a=hh0)(w:l.n≠0):oQ ⟨2,0,0,0,a,b⟩ l=aA:=by
 subst s;unfold oQ sameAt;show rY (aN (R.read hh0 l.r l.off l.n) _)=aA;have⟨k,hk⟩:=Nat.exists_eq_succ_of_ne_zero w;rw[hk];rfl
def X9(h:Ez m x=F)(hk:x.k=3\/x.k=4):1<=x.r/\x.r<=m:=by
 unfold Ez at h
 have:(aB x.k 3||aB x.k 4)=F:=by
  rcases hk with e|e<;>rw[e]<;>rfl
 rw[this]at h;replace h:(aD 1 x.r&&aD x.r m)=F:=h;rw[bE]at h;exact⟨aF h.1,aF h.2⟩
def BF{a b:Nat}(h:a≠b):aB a b=aA:=by rw[<-dn];exactλe=>h<|bA e
theorem acv(Y:∀i j,1<=i->i<=m->1<=j->j<=m->g i=g j->i=j)(M:Ez m x=F)(hy:Ez m y=F)(b:Bool)(h:gI (kill y) (kill x) b=F):gI (xA g y) (xA g x) b=F:=by
 cases b with
 |true=>
  unfold gI at h|-;simp only[Bool.true_or]at h|-
  have V:∀c:Cl,(kill c).k=c.k:=λc=>by
   unfold kill
   by_cases e:c.k=2
   .rw[e];rfl
   .rw[BF e];rfl
  rw[V,V]at h;show cr (aB y.k 0||aB x.k 0||aB y.k 5||aB x.k 5) F _=F;exact h
 |false=>
  by_cases hx2:x.k=2
  .have B:kill x=⟨2,0,0,0,hh0,hh0⟩:=by unfold kill;rw[hx2];rfl
   have w:(kill y).k=y.k:=by
    unfold kill
    by_cases e:y.k=2
    .rw[e];rfl
    .rw[BF e];rfl
   unfold gI at h|-;rw[B]at h;simp only[w]at h;simp only[xA,hx2];simp only[show aB 2 0=aA from O,show aB 2 5=aA from O,show aB 2 3=aA from O,show aB 2 4=aA from O,show aB 2 1=aA from O,show aB 2 2=F from O,nP,tu,Bool.false_and,pM,lz,oh]at h|-
   by_cases h0:(aB y.k 0||aB y.k 5)=F
   .rw[h0];rfl
   .rw[dn]at h0;rw[h0]at h|-
    by_cases h3:y.k=3
    .rw[h3]at h;cases h
    .rw[BF h3]at h|-
     by_cases h4:y.k=4
     .have s:kill y=y:=by unfold kill;rw[BF N];rfl
      rw[s,h4]at h;replace h:oQ ⟨2,0,0,0,hh0,hh0⟩ y=F:=h
      by_cases hn:y.n=0
      .rw[h4];show oQ _ _=F;unfold oQ sameAt;show rY (aN (R.read x.a (g y.r) y.off y.n) λE=>aN (R.read x.b (g y.r) y.off y.n) λv=>gd (He E v)<|Z ())=F;rw[hn];rfl
      .rw[Js O hn]at h;cases h
     .rw[BF h4]at h;cases h
  .have B:kill x=x:=by unfold kill;rw[BF hx2];rfl
   by_cases s:y.k=2
   .have w:kill y=⟨2,0,0,0,hh0,hh0⟩:=by unfold kill;rw[s];rfl
    unfold gI at h|-;rw[w,B]at h;simp only[xA,s];simp only[show aB 2 0=aA from O,show aB 2 5=aA from O,show aB 2 3=aA from O,show aB 2 4=aA from O,show aB 2 1=aA from O,show aB 2 2=F from O,nP,tu,Bool.false_and,pM,lz,oh]at h|-
    by_cases h0:(aB x.k 0||aB x.k 5)=F
    .rw[h0];rfl
    .rw[dn]at h0;rw[h0]at h|-
     by_cases h3:x.k=3
     .rw[h3]at h;cases h
     .rw[BF h3]at h|-
      by_cases h4:x.k=4
      .rw[h4]at h;replace h:oQ ⟨2,0,0,0,hh0,hh0⟩ x=F:=h
       by_cases hn:x.n=0
       .rw[h4];show oQ _ _=F;unfold oQ sameAt;show rY (aN (R.read y.a (g x.r) x.off x.n) λE=>aN (R.read y.b (g x.r) x.off x.n) λv=>gd (He E v)<|Z ())=F;rw[hn];rfl
       .rw[Js O hn]at h;cases h
      .rw[BF h4]at h;cases h
   .have w:kill y=y:=by unfold kill;rw[BF s];rfl
    rw[B,w]at h
    by_cases hm:(x.k=3\/x.k=4)/\(y.k=3\/y.k=4)
    .have⟨a1,a2⟩:=X9 M hm.1;have⟨b1,b2⟩:=X9 hy hm.2;have W:=Z4 (g:=g) (x:=x) (y:=y)<|Y _ _ a1 a2 b1 b2;unfold gI at h|-;rw[W];simp only[xA,BF hx2,BF s,lz]at h|-;exact h
    .unfold gI at h|-;simp only[xA,BF hx2,BF s,lz]at h|-
     by_cases x3:x.k=3
     .have I:y.k≠3:=λe=>hm ⟨.inl x3,.inl e⟩;have U:y.k≠4:=λe=>hm ⟨.inl x3,.inr e⟩;rw[BF I,BF U]at h|-;exact h
     .by_cases x4:x.k=4
      .have I:y.k≠3:=λe=>hm ⟨.inr x4,.inl e⟩;have U:y.k≠4:=λe=>hm ⟨.inr x4,.inr e⟩;rw[BF I,BF U]at h|-;exact h
      .rw[BF x3,BF x4]at h|-;exact h
def BZ{a:Bool}(h:cr a b aA=F):a=F/\b=F:=by
 cases a with
 |true=>exact⟨O,h⟩
 |false=>cases h
def MP(B:∀i j,1<=i->i<=m->1<=j->j<=m->g i=g j->i=j):∀(ms:C Nat)(l:C Cl),(∀c∈l,Ez m c=F)->pairs gI ms (l.map kill)=F->pairs gI ms (l.map<|xA g)=F:=by
 have row:∀(x:Cl)(k:Nat)(l:C Cl),Ez m x=F->(∀c∈l,Ez m c=F)->jW gI (kill x) k (l.map kill)=F->jW gI (xA g x) k (l.map<|xA g)=F:=by
  intro x k l M
  induction l with
  |nil=>intro _ _;rfl
  |cons y l w=>
   intro h I;replace I:cr (gI (kill x) (kill y)<|iR k<|len<|l.map kill) (jW gI (kill x) k<|l.map kill) aA=F:=I;have⟨W,h3⟩:=BZ I;show cr (gI (xA g x) (xA g y)<|iR k<|len<|l.map<|xA g) (jW gI (xA g x) k<|l.map<|xA g) aA=F;rw[ig,aK]at W|-;rw[acv B (h y<|aL ..) M _ W,w (λc s=>h c<|bL _ s) h3];rfl
 intro ms
 induction ms with
 |nil=>intro l _ _;rfl
 |cons k ms w=>
  intro l h I;cases l with
  |nil=>rfl
  |cons x l=>
   replace I:cr (jW gI (kill x) k<|l.map kill) (pairs gI ms<|l.map kill) aA=F:=I;have⟨W,h3⟩:=BZ I;show cr (jW gI (xA g x) k<|l.map<|xA g) (pairs gI ms<|l.map<|xA g) aA=F;rw[row x k l (h x<|aL ..) (λc s=>h c<|bL _ s) W,w l (λc s=>h c<|bL _ s) h3];rfl
def EA(s:∀i j,1<=i->i<=m->1<=j->j<=m->g i=g j->i=j){l:C Cl}(hl:all' (Ez m) l=F)(h:kZ ops (l.map kill)=F):kZ ops (l.map<|xA g)=F:=by
 rw[all_eq,fE]at hl
 have e:noTwo (l.map<|xA g)=noTwo (l.map kill):=by
  unfold noTwo;rw[all_eq,all_eq,List.all_map,List.all_map];congr 1;funext c;show(!(aB c.k 2||aB c.k 3))=(!(aB (kill c).k 2||aB (kill c).k 3));unfold kill
  by_cases e:c.k=2
  .rw[e];rfl
  .rw[BF e];rw[lz,BF e]
 unfold kZ at h|-;rw[e]
 by_cases W:noTwo (l.map kill)=F
 .rw[W];rfl
 .rw[dn]at W;rw[W]at h|-;exact MP s _ l hl h
def g3(a b c d:Nat):Nat->Nat
 |1=>a
 |2=>b
 |3=>c
 |4=>d
 |_=>0
theorem mO{ak:Nat->Nat->C Cl}{a b:Nat}{K:Prop}(s:a≠b)(w:∀a b,ak a b=(ak 1 2).map (xA<|g3 a b 0 0))(hk:all' (Ez 2) (ak 1 2)=F)(h:kZ ops ((ak 1 2).map kill)=F)(k:K):kZ ops (ak a b)=F/\K:=by
 refine⟨?_,k⟩;rw[w];refine EA (m:=2) (λi j I W E M e=>?_) hk h;have hi:i=1\/i=2:=N;have B:j=1\/j=2:=N;rcases hi with rfl|rfl<;>rcases B with rfl|rfl<;>first|rfl|exact absurd e s|exact absurd e.symm s
theorem zP{a b:Nat}{K:Prop}(s:a≠b)(w:a≠c)(B:b≠c)(E:∀a b c,ak a b c=(ak 1 2 3).map (xA<|g3 a b c 0))(hk:all' (Ez 3) (ak 1 2 3)=F)(h:kZ ops ((ak 1 2 3).map kill)=F)(k:K):kZ ops (ak a b c)=F/\K:=by
 refine⟨?_,k⟩;rw[E];refine EA (m:=3) (λi j I W O U e=>?_) hk h;have hi:i=1\/i=2\/i=3:=N;have M:j=1\/j=2\/j=3:=N;rcases hi with rfl|rfl|rfl<;>rcases M with rfl|rfl|rfl<;>first|rfl|exact absurd e s|exact absurd e.symm s|exact absurd e w|exact absurd e.symm w|exact absurd e B|exact absurd e.symm B
theorem VK{ak:Nat->Nat->Nat->Nat->C Cl}{a b d:Nat}{K:Prop}(s:a≠b)(w:a≠c)(B:a≠d)(E:b≠c)(M:b≠d)(O:c≠d)(U:∀a b c d,ak a b c d=(ak 1 2 3 4).map (xA<|g3 a b c d))(hk:all' (Ez 4) (ak 1 2 3 4)=F)(h:kZ ops ((ak 1 2 3 4).map kill)=F)(k:K):kZ ops (ak a b c d)=F/\K:=by
 refine⟨?_,k⟩;rw[U];refine EA (m:=4) (λi j I W Y h4 e=>?_) hk h;have hi:i=1\/i=2\/i=3\/i=4:=N;have V:j=1\/j=2\/j=3\/j=4:=N;rcases hi with rfl|rfl|rfl|rfl<;>rcases V with rfl|rfl|rfl|rfl<;>first|rfl|exact absurd e s|exact absurd e.symm s|exact absurd e w|exact absurd e.symm w|exact absurd e B|exact absurd e.symm B|exact absurd e E|exact absurd e.symm E|exact absurd e M|exact absurd e.symm M|exact absurd e O|exact absurd e.symm O
theorem Gc{ak:Nat->C Cl}{a:Nat}{K:Prop}(s:∀a,ak a=(ak 1).map (xA<|g3 a 0 0 0))(hk:all' (Ez 1) (ak 1)=F)(h:kZ ops ((ak 1).map kill)=F)(k:K):kZ ops (ak a)=F/\K:=by
 refine⟨?_,k⟩;rw[s];refine EA (m:=1) (λi j I W w B e=>?_) hk h;omega
def xB(H Q:R):Df H Q=cl 1\/Df H Q=⟨2,0,0,0,H,Q⟩:=by
 show cr (aD H.bU Q.low) _ _=_\/cr (aD H.bU Q.low) _ _=_;cases aD H.bU Q.low with
 |true=>exact .inl O
 |false=>exact .inr O
def SH.acw{S:C Nat}(G:SH S H0 H<|hx++L)(h:SH (hx.map (·.1)) (Go.Ae.hN H) Q M'):SH S H0 (hM H Q) (M'++L):=
 G.turn h.ext.draw (λe s=>⟨h.bk e s,h.lo e s⟩) h.ne
def SH.apart{S:C Nat}{A vn:C eB}(G:SH S H0 H<|A++vn){x y:eB}(M:x∈A)(s:y∈vn):x.1≠y.1:=(nQ.1 G.ne).2.2 x M y s
def jJ.one{S:C Nat}{ay:Nat->Prop}{r:Nat}(G:SH S H0 H L)(s:((r,ty,f):eB)∈L)(B:J f=n*es)(w:ay r):jJ ay ty H (Z ⟨r,0,T⟩) n es f:=
 ⟨(G.bk _ s).fl (G.lo _ s).2 B,λE o e _=>by cases e;exact⟨w,(G.lo _ s).2,(G.bk _ s).Gb⟩⟩
def SH.nq{S:C Nat}(G:SH S H0 H L)(i j:Nat){r r':Nat}{t':aH}{x y:C D}(hi:L[i]?=Z (r,t,x))(w:L[j]?=Z (r',t',y))(s:i<j):r≠r':=by
 have⟨I,e1⟩:=bI.1 hi;have⟨W,e2⟩:=bI.1 w;have:=jQ.1 G.ne i j I W s;rw[e1,e2]at this;exact this
def SH.neq{S:C Nat}(G:SH S H0 H L)(i j:Nat){x y:eB}(hi:L[i]?=Z x)(w:L[j]?=Z y)(s:i<j):x.1≠y.1:=by
 obtain⟨I,rfl⟩:=bI.1 hi;obtain⟨W,rfl⟩:=bI.1 w;exact jQ.1 G.ne i j I W s
def IX(ty:aH)(es:Nat):C (C D)->C D->C eB->Prop
 |[],[],az=>az=[]
 |ks::IY,v::vs,az=>∃gb R',az=gb++R'/\GB ty es v ks gb/\IX ty es IY vs R'
 |_,_,_=>False
def IX.len:∀{s:C (C D)}{vs:C D}{az:C eB},IX ty es s vs az->J s=J vs
 |[],[],az,h=>rfl
 |ks::s,v::vs,az,⟨gb,R',_,_,h⟩=>fq dh h.len
 |[],v::vs,az,h=>h.elim
 |ks::s,[],az,h=>h.elim
def IX.Z5:∀n,IX ty es (aY n []) (aY n<|u T 0 0) []
 |0=>rfl
 |n+1=>⟨[],[],rfl,GB.nil _ _,IX.Z5 n⟩
def IX.at:∀{w:C (C D)}{vs:C D}{az:C eB}(i:Nat),IX ty es w vs az->(h:i<J vs)->∃A gb vn,az=A++(gb++vn)/\GB ty es vs[i] (w[i]?.getD []) gb/\
 ∀v' s iN,GB ty es v' s iN->IX ty es (w.set i s) (vs.set i v') (A++(iN++vn))
 |ks::w,v::vs,az,0,h,_=>by
  obtain⟨gb,R',rfl,I,E⟩:=h;exact⟨[],gb,R',O,I,λv' s iN B=>⟨iN,R',rfl,B,E⟩⟩
 |ks::w,v::vs,az,i+1,h,hi=>by
  obtain⟨gb,R',rfl,I,E⟩:=h;obtain⟨A,M,vn,rfl,B,N⟩:=IX.at i E (nZ hi);refine⟨gb++A,M,vn,by rw[cz],B,λv' s iN U=>?_⟩;exact⟨gb,A++(iN++vn),by rw[cz],I,N v' s iN U⟩
 |[],[],az,i,h,hi=>absurd hi gD
 |[],v::vs,az,i,h,hi=>h.elim
 |ks::w,[],az,i,h,hi=>h.elim
def IX.snoc:∀{s:C (C D)}{vs:C D}{az gb:C eB}{ks:C D}{v:D},IX ty es s vs az->GB ty es v ks gb->IX ty es (s++[ks]) (vs++[v]) (az++gb)
 |[],[],az,gb,ks,v,h,hg=>by
  subst h;exact⟨gb,[],gD,hg,O⟩
 |k::s,w::vs,az,gb,ks,v,⟨gb0,R',I,W,h3⟩,hg=>⟨gb0,R'++gb,by rw[I,cz],W,h3.snoc hg⟩
 |[],v::vs,az,gb,ks,w,h,hg=>h.elim
 |ks::s,[],az,gb,k,v,h,hg=>h.elim
def IX.all{S:C Nat}:∀{s:C (C D)}{vs:C D}{az L:C eB},IX ty es s vs az->SH S H0 H (az++L)->∀i(h:i<J vs),∃a n c,vs[i]=u a n c/\J (s[i]?.getD [])=n*es/\jJ (λr=>r∈az.map (·.1)) ty H a n es (s[i]?.getD [])
 |[],[],az,L,h,G=>λi hi=>absurd hi gD
 |ks::s,v::vs,az,L,⟨gb,R',I,W,h4⟩,G=>by
  subst I;rw[cz]at G;intro i hi;cases i with
  |zero=>
   have⟨a,n,c,e,hl,hf⟩:=W.KF (ay:=λr=>r∈(gb++R').map (·.1)) G λe w=>bP.2 ⟨e,dK _ w,rfl⟩;exact⟨a,n,c,e,hl,hf⟩
  |succ i=>
   have⟨a,n,c,e,hl,hf⟩:=IX.all h4 (fU G) i<|nZ hi;refine⟨a,n,c,e,hl,hf.wk λr B=>?_⟩;obtain⟨e,w,rfl⟩:=bP.1 B;exact bP.2 ⟨e,dL _ w,O⟩
 |[],v::vs,az,L,h,G=>h.elim
 |ks::s,[],az,L,h,G=>h.elim
section
variable{S:C Nat}{r:Nat}
def Ih(h:k<n):B_ 1 (u (Z ⟨r,o,T⟩) n c) (B k)=Z (.pointer<|Z ⟨r,o+k,T⟩):=by rw[uQ h,dN]
def X_(hi:i<J f):splice f i [v]=f.set i v:=by
 apply iV;intro j;rw[sN (by show i+1<=_;omega),dU]
 by_cases h:i<=j/\j<i+[v].length
 .have:i=j:=by have:=h.2;simp at this;omega
  subst this;rw[if_pos h,if_pos O,if_pos hi,kN];rfl
 .rw[if_neg h,if_neg λe=>h (by subst e;simp)]
def SH.ix{K:D->D->R->Prop}(G:SH S H0 H L)[s:BX L r ty f](hk:k<n)(w:f[k]?=Z v)(kk:∀p,K p v H):
 PU (B_ 1 (u (Z ⟨r,0,T⟩) n c)<|B k) λp=>ME (wR T p H) (K p):=by
 have⟨i,hi⟩:=s.at';refine dA (Ih hk) ?_;rw[bB];exact G.ld i hi w<|kk _
def SH.Ya{K:D->D->R->Prop}(G:SH S H0 H L)[w:Ga L r (λf=>f.set k v) ty f L'](hk:k<n)(hl:k<J f)(s:bY v=[v]:=by rfl)(ho:fZ v=F:=by rfl)(kk:∀p H1,SH S H0 H1 L'->K p undef H1):
 PU (B_ 1 (u (Z ⟨r,0,T⟩) n c)<|B k) λp=>ME (Es 1 p v H) (K p):=by
 have⟨i,hi,e⟩:=w.at';refine dA (Ih hk) ?_;rw[bB];refine G.st i hi (by rw[s];rfl) N (by rw[s];show cr (fZ v) _ _=_;rw[ho];rfl) λH1 h=>kk _ H1 ?_;rw[e];rw[s,X_ hl]at h;exact h
def jJ.ix{ay:Nat->Prop}{K:D->D->R->Prop}(h:jJ ay ty H a n 1 f)(hk:k<n)(s:f[k]?=Z v)(kk:∀p,K p v H):
 PU (B_ 1 (u a n c)<|B k) λp=>ME (wR T p H) (K p):=by
 have⟨r,o,I,W,h3,_⟩:=h.1.idx (c:=c) (dI 0) hk;refine dA I<|iY ?_<|kk _;have:=h3 0 v (dI 0) (by rw[dN,d_];exact s);exact this
def jJ.Yb{ay:Nat->Prop}{K:D->D->R->Prop}(h:jJ ay ty H a n es f)(he:0<es)(hk:k<n){l:C D}(hl:El f es k=l)(kk:∀p,K p (.agg ⟨l⟩) H):
 PU (B_ es (u a n c)<|B k) λp=>ME (wR (Z es) p H) (K p):=by
 have⟨r,o,I,W,h3,_⟩:=h.1.idx (c:=c) he hk;refine dA I ?_
 have U:k*es+es<=J f:=by
  have:(k+1)*es<=n*es:=fA es hk;rw[iC]at this;have:=h.1.1;omega
 refine ME.uL ?_<|kk _;obtain⟨Y,ab⟩:∃Y,f[k*es]?=Z Y:=⟨_,av N⟩;rw[<-hl]
 have hn:∀m,m<=es->H.read r o m=Z ((f.drop<|k*es).take m):=by
  intro m hm
  have s:∀i,i<m->H.cell r (o+i)=f[k*es+i]?:=λi hi=>by
   have:k*es+i<J f:=N;rw[av this];exact h3 i _ N<|av this
  cases m with
  |zero=>show Z []=_;simp
  |succ m=>
   obtain⟨az,M⟩:∃az,H.obj r=.row az:=by
    have h0:=s m N;rw[av N]at h0;unfold R.cell at h0;cases hr:H.obj r with
    |row az=>exact⟨az,O⟩
    |_=>rw[hr]at h0;cases h0
   have cl:∀i,i<m+1->o+i<az.n/\Z (az.cells.get top<|o+i)=f[k*es+i]?:=λi hi=>by
    have h0:=s i hi;rw[av N]at h0;unfold R.cell at h0;rw[M]at h0;have h0:gd (aD (dh<|o+i) az.n) (Z<|az.cells.get top<|o+i)=_:=h0;cases hb:aD (dh<|o+i) az.n with
    |false=>rw[hb]at h0;cases h0
    |true=>
     rw[hb]at h0;refine⟨aF hb,?_⟩;rw[av N];exact h0
   show(aN (xN<|H.obj r) λw=>gd (aD (a_ o<|m+1) w.n)<|Z<|Tr.FW top w.cells o<|m+1)=_;rw[M];show gd (aD (a_ o<|m+1) az.n) (Z<|Tr.FW top az.cells o<|m+1)=_;rw[aG (show a_ o (m+1)<=az.n from(cl m N).1)];refine fq Z ?_
   have E:∀j p,(∀i,i<j->Z (az.cells.get top<|o+p+i)=f[k*es+p+i]?)->Tr.FW top az.cells (o+p) j=(f.drop<|k*es+p).take j:=by
    intro j
    induction j with
    |zero=>intro p _;rw[Tr.D5];simp
    |succ j ih=>
     intro p V;have h0:=V 0 N;rw[d_,d_]at h0;have⟨hl0,e0⟩:=bI.1 h0.symm
     rw[Tr.zu,show o+p+1=o+(p+1) by omega,ih (p+1) (λi hi=>by
      have:=V (i+1) N;rw[show o+(p+1)+i=o+p+(i+1) by omega,show k*es+(p+1)+i=k*es+p+(i+1) by omega];exact this),eO hl0,jU,e0]
     rfl
   have:=E (m+1) 0 (λi hi=>by rw[d_,d_];exact(cl i hi).2);exact this
 exact hn es<|ax _
theorem SH.ns{z:C D}{K:D->D->R->Prop}(G:SH S H0 H L)(hl:J (bY v)=m)(hz:J z=m)(hk:all' fZ (bY v)=F)(kk:∀H2 r,SH S H0 H2 ((r,ty,bY v)::L)->Ext H H2->K (.pointer<|Z ⟨r,0,T⟩) undef H2):ME (Go.Ae.jP ty z H) λp H1=>ME (Go.Ae.Es m p v H1) λai H2=>K p ai H2:=by
 have s:=h_ G.wf;refine s.jP λH1 r s=>s.st 0 O hl N hk λH2 s=>?_;have s:SH [] H H2 [(r,ty,splice z 0<|bY v)]:=s;rw[oz _ _ N]at s;exact kk H2 r (SH.frame (hx:=[]) (L:=L) G s) s.ext
def jw(P hx L:C eB):(P++(hx++L)).Perm (hx++(P++L)):=by
 rw[<-cz,<-cz];exact rF _ aI
def SH.nD(G:SH S H0 H L){z:C D}(k:∀H1 r,SH S H0 (hM H H1) ((r,e,z)::L)->N_ H H1=cl 5->K (.pointer<|Z ⟨r,0,T⟩) H1):ME (Go.Ae.jP e z<|Go.Ae.hN H) K:=
 ME.of rfl (k _ _ (G.zC e z)<|yg<|Ext.new _ _)
def GB.push{x z:C D}{w:D}{xs:C D}{K:D->D->R->Prop}(V:GB ty es v xs gb)(G:SH S H0 H<|gb++L)(U:0<es)(hz:J z=es)(E:bY w=x)(M:J x=es)(ht:rJ w=F)(B:all' Go.Ae.fZ x=F)(I:es<=16777216)(O:J xs<=16777216)(kk:∀q v' Q iN,GB ty es v' (xs++x) iN->SH S H0 Q (iN++L)->K q v' Q):ME (bS ty z es 1 [(0,w)] H) λq H1=>ME (Bo ty es v q H1) (K q):=by
 refine G.bS hz ht (by rw[E];exact M) I λH1 rx s=>?_;rw[E]at s;have⟨v',H6,iN,e1,hg',xP,_⟩:=V.app (m:=0) (cx:=1) s U N B N O;exact ME.of e1<|kk _ v' H6 iN hg' xP
end
def g7(c:Cl):Cl:=cr (aB c.k 2) ⟨7,0,0,0,hh0,hh0⟩ c
def acy{c:Cl}(h:c.k=2):g7 c=⟨7,0,0,0,hh0,hh0⟩:=by unfold g7;rw[h];rfl
def acz{c:Cl}(h:c.k≠2):g7 c=c:=by unfold g7;rw[BF h];rfl
def MQ(h:gI (g7 y) (g7 x) b=F)(M:y.k=2->x.k=4->oQ y x=F)(s:x.k=2->y.k=4->oQ x y=F):gI y x b=F:=by
 by_cases y2:y.k=2
 .rw[acy y2]at h
  by_cases x2:x.k=2
  .rw[acy x2]at h;unfold gI;rw[y2,x2];exact h
  .rw[acz x2]at h;unfold gI at h|-;rw[y2]
   by_cases x0:x.k=0
   .rw[x0];rfl
   by_cases x5:x.k=5
   .rw[x5];rfl
   by_cases x3:x.k=3
   .rw[x3]at h;cases h
   by_cases x4:x.k=4
   .have:=M y2 x4;rw[x4];show(b||oQ y x)=F;rw[this];cases b<;>rfl
   .rw[BF x0,BF x5,BF x3,BF x4]at h|-;have h:cr (aB x.k 1&&aA) F b=F:=h;show cr (aB x.k 1&&aA) F b=F;exact h
 .rw[acz y2]at h
  by_cases x2:x.k=2
  .rw[acy x2]at h;unfold gI at h|-;rw[x2]
   by_cases y0:y.k=0
   .rw[y0];rfl
   by_cases y5:y.k=5
   .rw[y5];rfl
   by_cases y3:y.k=3
   .rw[y3]at h|-;exact h
   by_cases y4:y.k=4
   .have:=s x2 y4;rw[y4];show(b||oQ x y)=F;rw[this];cases b<;>rfl
   .rw[BF y0,BF y5,BF y3,BF y4]at h|-;exact h
  .rw[acz x2]at h;exact h
def Gd{α:Type}(p:α->Prop):C α->Prop
 |[]=>True
 |x::l=>p x/\Gd p l
def Gd.mem{p:α->Prop}:∀{l:C α},Gd p l->∀x∈l,p x
 |y::l,h,x,M=>by
  rcases bW.1 M with rfl|M
  .exact h.1
  .exact Gd.mem h.2 x M
def RdA(A vn:R)(c:Cl):Prop:=(c.k=2->c.a=A/\c.b=vn)/\(c.k=4->oQ ⟨2,0,0,0,A,vn⟩ c=F)
def RdA.rd{A vn:R}(M:RdA A vn x)(w:RdA A vn y)(W:y.k=2)(s:x.k=4):oQ y x=F:=by
 have⟨e1,e2⟩:=w.1 W;have:=M.2 s;unfold oQ at this|-;rw[e1,e2];exact this
def acA{A vn:R}:∀(ms:C Nat)(l:C Cl),Gd (RdA A vn) l->pairs gI ms (l.map g7)=F->pairs gI ms l=F:=by
 have row:∀(x:Cl)(k:Nat)(l:C Cl),RdA A vn x->Gd (RdA A vn) l->jW gI (g7 x) k (l.map g7)=F->jW gI x k l=F:=by
  intro x k l M
  induction l with
  |nil=>intro _ _;rfl
  |cons y l s=>
   intro h I;replace I:cr (gI (g7 x) (g7 y)<|iR k<|len<|l.map g7) (jW gI (g7 x) k<|l.map g7) aA=F:=I;have⟨W,h3⟩:=BZ I;show cr (gI x y<|iR k<|len l) (jW gI x k l) aA=F;rw[ig,aK]at W;rw[ig,MQ W (λa b=>h.1.rd M a b) λa b=>M.rd h.1 a b,s h.2 h3];rfl
 intro ms
 induction ms with
 |nil=>intro l _ _;rfl
 |cons k ms s=>
  intro l h I;cases l with
  |nil=>rfl
  |cons x l=>
   replace I:cr (jW gI (g7 x) k<|l.map g7) (pairs gI ms<|l.map g7) aA=F:=I;have⟨W,h3⟩:=BZ I;show cr (jW gI x k l) (pairs gI ms l) aA=F;rw[row x k l h.1 h.2 W,s l h.2 h3];rfl
def Yc(l:C Cl):(l.map g7).map kill=l.map g7:=by
 rw[uH];apply List.map_congr_left;intro c _;show kill (g7 c)=g7 c
 by_cases h:c.k=2
 .rw[acy h];rfl
 .rw[acz h];unfold kill;rw[BF h];rfl
def acB{l l1:C Cl}{A vn:R}(w:∀i j,1<=i->i<=m->1<=j->j<=m->g i=g j->i=j)(s:l.map g7=(l1.map g7).map (xA g))(hk:all' (Ez m) (l1.map g7)=F)(h:pairs gI (vE ops.toList [] 0) (l1.map g7)=F)(B:Gd (RdA A vn) l):kZ ops l=F:=by
 unfold kZ
 have:pairs gI (vE ops.toList [] 0) l=F:=by
  refine acA (A:=A) (vn:=vn) _ l B ?_;rw[s];rw[all_eq,fE]at hk;refine MP w _ _ hk ?_;rw[Yc];exact h
 rw[this];cases noTwo l<;>rfl
theorem Ii{ak:Nat->Nat->C Cl}{a b:Nat}{A vn:R}{K:Prop}(s:a≠b)(w:(ak a b).map g7=((ak 1 2).map g7).map (xA<|g3 a b 0 0))(hk:all' (Ez 2) ((ak 1 2).map g7)=F)(h:pairs gI (vE ops.toList [] 0) ((ak 1 2).map g7)=F)(k:K)(E:Gd (RdA A vn)<|ak a b):kZ ops (ak a b)=F/\K:=by
 refine⟨acB (m:=2) (λi j I W M O e=>?_) w hk h E,k⟩;have hi:i=1\/i=2:=N;have B:j=1\/j=2:=N;rcases hi with rfl|rfl<;>rcases B with rfl|rfl<;>first|rfl|exact absurd e s|exact absurd e.symm s
theorem QY{a b:Nat}{A vn:R}{K:Prop}(s:a≠b)(w:a≠c)(B:b≠c)(E:(ak a b c).map g7=((ak 1 2 3).map g7).map (xA<|g3 a b c 0))(hk:all' (Ez 3) ((ak 1 2 3).map g7)=F)(h:pairs gI (vE ops.toList [] 0) ((ak 1 2 3).map g7)=F)(k:K)(O:Gd (RdA A vn)<|ak a b c):kZ ops (ak a b c)=F/\K:=by
 refine⟨acB (m:=3) (λi j I W U V e=>?_) E hk h O,k⟩;have hi:i=1\/i=2\/i=3:=N;have M:j=1\/j=2\/j=3:=N;rcases hi with rfl|rfl|rfl<;>rcases M with rfl|rfl|rfl<;>first|rfl|exact absurd e s|exact absurd e.symm s|exact absurd e w|exact absurd e.symm w|exact absurd e B|exact absurd e.symm B
def yZ(k:gm)(n:Int):qA (.int k n) (.int k n)=F:=by
 have h:aa1 (.int k n) (.int k n)=F:=by
  show rY (gd (aB (sQ k) (sQ k)&&FI n n)<|Z ())=F;rw[Dg,BD,b_ O];rfl
 unfold qA FZ Cf;rw[h];rfl
def qQ(a:aC Addr)(n c:Nat)(h:∀x,a=Z x->x.spot=T):qA (u a n c) (u a n c)=F:=by
 have I:K7 a a=F:=by
  cases a with
  |none=>rfl
  |some x=>
   show addrEq x x=F;unfold addrEq;rw[h x O,dW,dW];rfl
 have W:aho (u a n c) (u a n c)=F:=by
  show rY (gd (K7 a a&&aB n n&&aB c c)<|Z ())=F;rw[I,dW,dW];rfl
 unfold qA FZ Cf;rw[W];cases aa1 (u a n c) (u a n c)<;>cases aa0 (u a n c) (u a n c)<;>rfl
def Ar:∀{l:C D},(∀v∈l,qA v v=F)->He l l=F
 |[],_=>rfl
 |x::l,h=>by
  show cr (qA x x) (He l l) aA=F;rw[h x (aL ..),Ar λv s=>h v<|bL _ s];rfl
def sF{A vn:R}{r:Nat}{a b:R}(w:Bk A r ty f)(B:Bk vn r ty f)(s:o+n<=J f)(hs:∀v∈(f.drop o).take n,qA v v=F):oQ ⟨2,0,0,0,A,vn⟩ ⟨4,r,o,n,a,b⟩=F:=
 Cr (w.read s) (B.read s) (Ar hs)
def g8(c:Cl):Cl:=⟨cr (aB c.k 2) 7 c.k,0,0,0,hh0,hh0⟩
def RdT(au:Cl->Prop)(c:Cl):Prop:=(c.k=2->au c)/\(c.k=4->∀w,au w->oQ w c=F)
def acC(x3:x.k≠3)(N:y.k≠3)(h:gI (g8 y) (g8 x) b=F)(M:y.k=2->x.k=4->oQ y x=F)(I:x.k=2->y.k=4->oQ x y=F):gI y x b=F:=by
 refine MQ ?_ M I
 have e:∀c:Cl,c.k≠3->(g7 c).k=(g8 c).k/\(g7 c).k≠3/\(g7 c).k≠2:=λc E=>by
  by_cases W:c.k=2
  .rw[acy W];unfold g8;rw[W];exact⟨O,jq,jq⟩
  .rw[acz W];unfold g8;rw[BF W];exact⟨O,E,W⟩
 have⟨e1,e2,e3⟩:=e x x3;have⟨f1,f2,f3⟩:=e y N;have s:(g8 x).k≠3:=by rw[<-e1];exact e2
 have w:(g8 y).k≠3:=by rw[<-f1];exact f2
 have g3:(g8 x).k≠2:=by rw[<-e1];exact e3
 have B:(g8 y).k≠2:=by rw[<-f1];exact f3
 unfold gI at h|-;rw[BF s,BF w,BF g3,BF B]at h;rw[BF e2,BF f2,BF e3,BF f3,e1,f1];exact h
def acD:∀(ms:C Nat)(l:C Cl),Gd (RdT au) l->(∀c∈l,c.k≠3)->pairs gI ms (l.map g8)=F->pairs gI ms l=F:=by
 have row:∀(x:Cl)(k:Nat)(l:C Cl),RdT au x->x.k≠3->Gd (RdT au) l->(∀c∈l,c.k≠3)->jW gI (g8 x) k (l.map g8)=F->jW gI x k l=F:=by
  intro x k l M B
  induction l with
  |nil=>intro _ _ _;rfl
  |cons y l E=>
   intro h s I;replace I:cr (gI (g8 x) (g8 y)<|iR k<|len<|l.map g8) (jW gI (g8 x) k<|l.map g8) aA=F:=I;have⟨W,h4⟩:=BZ I;show cr (gI x y<|iR k<|len l) (jW gI x k l) aA=F;rw[ig,aK]at W;rw[ig,acC (s y<|aL ..) B W (λa b=>h.1.2 b x<|M.1 a) λa b=>M.2 b y<|h.1.1 a,E h.2 (λc w=>s c<|bL _ w) h4];rfl
 intro ms
 induction ms with
 |nil=>intro l _ _ _;rfl
 |cons k ms E=>
  intro l h s I;cases l with
  |nil=>rfl
  |cons x l=>
   replace I:cr (jW gI (g8 x) k<|l.map g8) (pairs gI ms<|l.map g8) aA=F:=I;have⟨W,h4⟩:=BZ I;show cr (jW gI x k l) (pairs gI ms l) aA=F;rw[row x k l h.1 (s x<|aL ..) h.2 (λc w=>s c<|bL _ w) W,E l h.2 (λc w=>s c<|bL _ w) h4];rfl
def Gf{l:C Cl}{K:Prop}(s:all' (λc=>!(aB c.k 3)) (l.map g8)=F)(h:pairs gI (vE ops.toList [] 0) (l.map g8)=F)(k:K)(B:Gd (RdT au) l):kZ ops l=F/\K:=by
 refine⟨?_,k⟩;unfold kZ
 have:pairs gI (vE ops.toList [] 0) l=F:=by
  refine acD _ l B (λc w e=>?_) h;rw[all_eq,fE]at s;have:=s (g8 c)<|List.mem_map_of_mem w;unfold g8 at this;rw[e]at this;cases this
 rw[this];cases noTwo l<;>rfl
def Z6:∀(ms:C Nat)(l:C Cl),Gd (RdT au) l->pairs gI ms (l.map g7)=F->pairs gI ms l=F:=by
 have row:∀(x:Cl)(k:Nat)(l:C Cl),RdT au x->Gd (RdT au) l->jW gI (g7 x) k (l.map g7)=F->jW gI x k l=F:=by
  intro x k l M
  induction l with
  |nil=>intro _ _;rfl
  |cons y l s=>
   intro h I;replace I:cr (gI (g7 x) (g7 y)<|iR k<|len<|l.map g7) (jW gI (g7 x) k<|l.map g7) aA=F:=I;have⟨W,h3⟩:=BZ I;show cr (gI x y<|iR k<|len l) (jW gI x k l) aA=F;rw[ig,aK]at W;rw[ig,MQ W (λa b=>h.1.2 b x<|M.1 a) λa b=>M.2 b y<|h.1.1 a,s h.2 h3];rfl
 intro ms
 induction ms with
 |nil=>intro l _ _;rfl
 |cons k ms s=>
  intro l h I;cases l with
  |nil=>rfl
  |cons x l=>
   replace I:cr (jW gI (g7 x) k<|l.map g7) (pairs gI ms<|l.map g7) aA=F:=I;have⟨W,h3⟩:=BZ I;show cr (jW gI x k l) (pairs gI ms l) aA=F;rw[row x k l h.1 h.2 W,s l h.2 h3];rfl
theorem agb{ak:Nat->C Cl}{a:Nat}{K:Prop}(s:(ak a).map g7=((ak 1).map g7).map (xA<|g3 a 0 0 0))(hk:all' (Ez 1) ((ak 1).map g7)=F)(h:pairs gI (vE ops.toList [] 0) ((ak 1).map g7)=F)(k:K)(w:Gd (RdT au)<|ak a):kZ ops (ak a)=F/\K:=by
 refine⟨?_,k⟩;unfold kZ
 have:pairs gI (vE ops.toList [] 0) (ak a)=F:=by
  refine Z6 (au:=au) _ _ w ?_;rw[s];rw[all_eq,fE]at hk;refine MP (m:=1) (λi j I W B E e=>N) _ _ hk ?_;rw[Yc];exact h
 rw[this];cases noTwo (ak a)<;>rfl
def agc{S:C Nat}{X H3:R}{r:Nat}{a b:R}{w:Cl}(s:w.a=X/\w.b=H3)(M:pI S (hN X) H3)(E:r<X.bU)(B:r∉S)(h:X.read r o n=Z vs)(hs:∀v∈vs,qA v v=F):oQ w ⟨k,r,o,n,a,b⟩=F:=by
 unfold oQ;rw[s.1,s.2];have W:H3.read r o n=Z vs:=(xI (M.obj r E B) o n).trans h;exact Cr h W<|Ar hs
def acE{r:Nat}(h:H.cell r o=Z v):H.read r o 1=Z [v]:=by
 unfold R.cell at h;cases hr:H.obj r with
 |row az=>
  rw[hr]at h;replace h:gd (aD (dh o) az.n) (Z<|az.cells.get top o)=Z v:=h;cases hb:aD (dh o) az.n with
  |false=>rw[hb]at h;cases h
  |true=>
   rw[hb]at h;have h:Z (az.cells.get top o)=Z v:=h;show(aN (xN<|H.obj r) λw=>gd (aD (a_ o 1) w.n)<|Z<|Tr.FW top w.cells o 1)=_;rw[hr];show gd (aD (dh o) az.n) (Z<|Tr.FW top az.cells o 1)=_;rw[hb,Tr.zu,Tr.D5];rw[eF h];rfl
 |_=>rw[hr]at h;cases h
def Z7(r o:Nat):Cf (.pointer<|Z ⟨r,o,T⟩) (.pointer<|Z ⟨r,o,T⟩)=F:=by
 have h:aa0 (.pointer<|Z ⟨r,o,T⟩) (.pointer<|Z ⟨r,o,T⟩)=F:=by
  show rY (gd (aB r r&&aB o o&&F&&F)<|Z ())=F;rw[dW,dW];rfl
 unfold Cf;rw[h];rfl
def MR{cs:D->D->Bool}:∀{l:C D},(∀v∈l,cs v v=F)->CU cs l l=F
 |[],_=>rfl
 |x::l,h=>by
  show cr (cs x x) (CU cs l l) aA=F;rw[h x (aL ..),MR λv s=>h v<|bL _ s];rfl
def acF(g:Nat){l:C D}(h:∀v∈l,∃r,v=.pointer (Z ⟨r,0,T⟩)):qA (.func (.func g) ⟨[]⟩ ⟨l⟩) (.func (.func g) ⟨[]⟩ ⟨l⟩)=F:=by
 have h0:Xo Cf (.func (.func g) ⟨[]⟩ ⟨l⟩) (.func (.func g) ⟨[]⟩ ⟨l⟩)=F:=by
  show rY (gd (aB g g&&CU Cf [] []&&CU Cf l l)<|Z ())=F;rw[dW,show CU Cf [] []=F from O,MR (l:=l) λv s=>by obtain⟨r,rfl⟩:=h v s;exact Z7 r 0];rfl
 unfold qA FZ;rw[h0];cases Cf (.func (.func g) ⟨[]⟩ ⟨l⟩) (.func (.func g) ⟨[]⟩ ⟨l⟩)<;>rfl
end Go.Ae
