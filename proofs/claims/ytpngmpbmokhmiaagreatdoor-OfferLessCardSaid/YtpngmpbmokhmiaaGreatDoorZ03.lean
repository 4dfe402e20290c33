/-
  Part 03 of the proof. No condition.
-/
import Derived.Test.YtpngmpbmokhmiaaGreatDoorZ02
set_option linter.unusedVariables false
set_option linter.unusedSimpArgs false
set_option maxRecDepth 100000
set_option maxHeartbeats 4000000
set_option linter.defProp false
open Option renaming some->Z,none->T,rec->aQ
open Bool renaming true->f,false->aA,rec->ik
open Go renaming Value->C,TypeId->aI,Program->aX,World->cZ,Operand->cz,IntKind->f_,BinOp->tH
open Go.Value renaming int->a_,slice->J,bool->aO,string->aJ,pointer->bG
open Nat renaming rec->kD,beq->aB,succ->dh,ble->aD,add->bq,mul->bP,sub->dP
open List renaming rec->dF,length->u,replicate->aY,range->d_
open List.Pairwise renaming nil->qy
open List.Perm renaming swap->iF
open ByteArray renaming mk->dJ
open BitVec renaming ofInt->kU
noncomputable section
namespace Go.Ae
variable{H Q H0:R}{K K' Km:C->R->Prop}{e t t2 ty ty':aI}{ops:Array Oper}{args F vs:D C}{c cx es hi i j k lo m n nl o rx:Nat}{v:C}{a:aC Addr}{A h2 p:Prop}{Kp:C->Prop}{z:Int}{g:Nat->Nat}{b d:Bool}{au:Cl->Prop}{ag:Nat->Nat->Nat->D Cl}{ox oy:cz}{H':Int->Prop}{acc cls:D Cl}{S' l sk:D Nat}{rs:D ResultVar}{α:Type}{q:aC (C×R)}{x y:Cl}{fn:Func}{kk:f_}
def PU(o:aC C)(K:C->Prop):Prop:=@aQ C (λ_=>Prop) False (λv=>K v) o
def ME(o:aC<|C×R)(K:C->R->Prop):Prop:=@aQ (C×R) (λ_=>Prop) False (λp=>K p.1 p.2) o
def CV(o:aC C)(q:aC<|C×R)(Kp:C->Prop)(Km:C->R->Prop):Prop:=@aQ C (λ_=>Prop) (ME q Km) (λv=>Kp v) o
def bM(P:aX)(X:Xt)(g:FuncId)(args:D C)(H:R)(K:C->R->Prop):Prop:=∃v Q,Ca P X g args H v Q/\K v Q
def qh(P:aX)(X:Xt)(q:aC<|FuncId×D C×D C)(args:D C)(H:R)(K:C->R->Prop):Prop:=
 @aQ (FuncId×D C×D C) (λ_=>Prop) False (λq=>bM P X q.1 (app q.2.1<|app args q.2.2) H K) q
def Aw(b:Builtin):D aI->D C->aX->R->(C->Prop)->(C->R->Prop)->Prop:=
 @Builtin.rec (λ_=>D aI->D C->aX->R->(C->Prop)->(C->R->Prop)->Prop)
  (λs args P H Kp Km=>ME (EW P s args H) Km) (λ_ _ _ _ _ _=>False) (λs args P H Kp Km=>ME (I7 P s args H) Km) (λ_ _ _ _ _ _=>False) (λ_ _ _ _ _ _=>False) (λs args P H Kp Km=>ME (OV P s args H) Km) (λ_ _ _ _ _ _=>False) (λ_ _ _ _ _ _=>False) (λs args P H Kp Km=>CV (one (LQ P) s args) (LX P s args H) Kp Km) (λ_ _ _ _ _ _=>False) (λs args P H Kp Km=>PU (U5 f args) Kp) (λs args P H Kp Km=>PU (U5 aA args) Kp) (λ_ _ _ _ _ _=>False) (λ_ _ _ _ _ _=>False) (λ_ _ _ _ _ _=>False) (λ_ _ _ _ _ _=>False) (λ_ _ _ _ _ _=>False) (λ_ _ _ _ _ _=>False) (λ_ _ _ _ _ _=>False) (λ_ _ _ _ _ _=>False) (λs args P H Kp Km=>ME (G9 args H) Km) (λs args P H Kp Km=>ME (yE P s args H) Km) (λ_ _ _ _ _ _=>False) (λ_ _ _ _ _ _=>False) (λ_ _ _ _ _ _=>False) (λ_ _ _ _ _ _=>False) b
def acg(P:aX)(X:Xt)(c:Call)(s:St)(Kp:C->Prop)(Km:C->R->Prop):Prop:=
 @aQ Builtin (λ_=>Prop) (qh P X (qM c.callee P s) (mp (ev s) c.args.toList) s.H Km)
  (λb=>Aw b c.argTypes.toList (mp (ev s) c.args.toList) P s.H Kp Km) (isBuiltin c.callee)
def opK(o:Op):aX->Xt->St->(C->Prop)->(C->R->Prop)->Prop:=
 @Op.rec (λ_=>aX->Xt->St->(C->Prop)->(C->R->Prop)->Prop)
  (λx P X s Kp Km=>Kp<|ev s x) (λx P X s Kp Km=>Kp<|ev s x) (λc a b P X s Kp Km=>PU (LP (ev s c) (ev s a)<|ev s b) Kp) (λe P X s Kp Km=>ME (D4 P e s.H) Km) (λe x P X s Kp Km=>ME (LU e (ev s x) s.H) Km) (λt w P X s Kp Km=>PU (CP P t<|Qd s w) Kp) (λt n w P X s Kp Km=>ME (vv P t n (Qd s w) s.H) Km) (λ_ _ _ _ _ _ _ _ _=>False) (λt x P X s Kp Km=>ME (xP P t (ev s x) s.H) Km) (λt x v P X s Kp Km=>ME (Ak P t (ev s x) (ev s v) s.H) Km) (λ_ _ _ _ _ _=>False) (λ_ _ _ _ _ _=>False) (λx P X s Kp Km=>PU (Qc<|ev s x) Kp) (λop t x y _ P X s Kp Km=>PU (mW P op t x y (ev s x)<|ev s y) Kp) (λop _ x P X s Kp Km=>PU (lD<|Op.unary op<|ev s x) Kp) (λa b x P X s Kp Km=>CV (DY P a b<|ev s x) (wo P a b (ev s x) s.H) Kp Km) (λ_ _ _ _ _ _ _=>False) (λ_ _ _ _ _ _ _=>False) (λay E B P X s Kp Km=>Kp<|.func ay ⟨mp (ev s) E.toList⟩ ⟨mp (ev s) B.toList⟩) (λt r P X s Kp Km=>ME (vw P t (Kw s r) s.H) Km) (λ_ _ _ _ _ _ _=>False) (λt l c P X s Kp Km=>ME (sK P t (ev s l) (ev s c) s.H) Km) (λt x lo hi I P X s Kp Km=>PU (BI P t (ev s x) (Kw s lo) (Kw s hi)<|Kw s I) Kp) (λt x ay P X s Kp Km=>PU (ug P t (ev s x) ay) Kp) (λt x ay P X s Kp Km=>PU (D3 P t (ev s x) ay) Kp) (λt x i P X s Kp Km=>PU (uf P t (ev s x)<|ev s i) Kp) (λt x i P X s Kp Km=>PU (DZ P t (ev s x)<|ev s i) Kp) (λt x k M P X s Kp Km=>ME (uM P t (ev s x) (ev s k) M s.H) Km) (λt m k v P X s Kp Km=>ME (wV P t (ev s m) (ev s k) (ev s v) s.H) Km) (λ_ _ _ _ _ _ _ _=>False) (λ_ _ _ _ _ _ _ _ _=>False) (λ_ _ _ _ _ _ _=>False) (λ_ _ _ _ _ _ _=>False) (λ_ _ _ _ _ _=>False) (λ_ _ _ _ _ _ _ _ _=>False) (λt i P X s Kp Km=>PU (wI (ev s t) i) Kp) (λc P X s Kp Km=>acg P X c s Kp Km) (λ_ _ _ _ _ _=>False) (λ_ _ _ _ _ _=>False) (λ_ _ _ _ _ _=>False) (λ_ _ _ _ _ _ _=>False) (λ_ _ _ _ _ _ _ _=>False) (λ_ _ _ _ _ _ _=>False) o
def yN(v:aC Bool)(A h2:Prop):Prop:=@aQ Bool (λ_=>Prop) False (λb=>@ik (λ_=>Prop) h2 A b) v
def Cf(l:D Nat)(t:Nat):Bool:=@dF Nat (λ_=>Bool) aA (λx _ r=>b_ (aB x t) f r) l
def sw(l:D Nat)(t:Nat):D Nat:=@dF Nat (λ_=>D Nat) [] (λx _ r=>b_ (aB x t) r<|x::r) l
def nN(l:D Nat)(d:aC Nat):D Nat:=@aQ Nat (λ_=>D Nat) l (sw l) d
def On(s:St)(l:D Nat)(d:aC Nat):D Nat:=@aQ Nat (λ_=>D Nat) l (λd=>b_ (wr s d) (d::l) l) d
def GuW(ops:Array Oper)(s:St)(sk:D Nat)(g:aC<|Nat×Bool)(K:Bool->St->D Nat->Prop):Prop:=
 @aQ (Nat×Bool) (λ_=>Prop) (K f s sk) (λg=>
  @aQ Oper (λ_=>Prop) False (λo=>@aQ Nat (λ_=>Prop) False (λt=>
   @ik (λ_=>Prop)
    (yN (kT<|jd s t) (K (CE f g.2) (sM s t (.bool f) s.H)<|sw sk t)<|K (CE aA g.2) (sM s t (.bool aA) s.H)<|sw sk t)
    (K aA s sk) (Cf sk t)) o.dst) (nth ops.toList g.1)) g
def Cg(P:aX)(X:Xt)(ops:Array Oper)(l:D Oper):St->D Nat->(St->Prop)->Prop:=
 @dF Oper (λ_=>St->D Nat->(St->Prop)->Prop) (λs _ K=>K s)
  (λo _ w s sk K=>GuW ops s sk o.guard (λb s sk=>@ik (λ_=>Prop)
   (w (kF s o.dst undef s.H) (On s sk o.dst) K)
   (@aQ Call (λ_=>Prop) (opK o.op P X s (λv=>w (kF s o.dst v s.H) (nN sk o.dst) K) λv H=>w (kF s o.dst v H) (nN sk o.dst) K) (λ_=>False)<|vz o.op)
   b)) l
def VK(P:aX)(X:Xt)(ops:Array Oper)(l:D Oper):St->D Nat->D Cl->(St->D Cl->Prop)->Prop:=
 @dF Oper (λ_=>St->D Nat->D Cl->(St->D Cl->Prop)->Prop) (λs _ acc K=>K s acc)
  (λo _ w s sk acc K=>GuW ops s sk o.guard (λb s sk=>@ik (λ_=>Prop)
   (w (kF s o.dst undef s.H) (On s sk o.dst) (cl 0::acc) K)
   (opK o.op P X (iW s) (λv=>w (kF s o.dst v s.H) (nN sk o.dst) (cl 0::acc) K) λv H=>w (kF s o.dst v ⟨H.xI,H.bV,pV s.H.low H.low⟩) (nN sk o.dst) (uB P o.op s H::acc) K)
   b)) l
def anT(P:aX)(X:Xt)(ops:Array Oper)(w:Bool)(s:St)(K:Out->Prop):Prop:=
 @ik (λ_=>Prop) (Cg P X ops ops.toList (clear s) [] λs=>K<|.norm s)
  (@ik (λ_=>Prop) False (VK P X ops ops.toList (clear s) [] [] λs cls=>kY ops cls=f/\K (.norm s))<|lT ops&&qN ops) w
def uk(id:Nat)(K:Out->Prop):Out->Prop:=λo=>K<|zF id o
def iC(P:aX)(X:Xt)(c:Code)(s:St)(K:Out->Prop):Prop:=∃o w,Ev P X c s o/\CF o w/\K w
def uQ(P:aX)(X:Xt)(b:Code)(K:Out->Prop):Out->Prop:=
 λo=>@Out.rec (λ_=>Prop) (K .fail) (λs=>iC P X b s K) (λi s=>K<|.exit i s) (λl s=>K<|.goto l s) (λs=>K<|.ret s) o
def anU(l:D Oper):Nat:=@dF Oper (λ_=>Nat) 1 (λo _ r=>@aQ (Nat×Bool) (λ_=>Nat) r (λ_=>2) o.guard) l
def ai8(c:Code)(i:Nat):Nat:=
 @Code.rec (λ_=>Nat) 0 (λ_ _ _=>0) (λ_ _ a b=>bq a b) (λ_ _ _ a b=>bq a b) (λ_ _ a=>a) (λ_ _=>0) (λ_ _ _ _ _ _=>0) (λj=>b_ (aB j i) 1 0) (λ_ _=>0) (λ_=>0) (λ_=>0) 0 (λ_=>0) c
def akY(c:Code):Nat:=
 @Code.rec (λ_=>Nat) 1 (λ_ ops _=>anU ops.toList) (λ_ _ a b=>bP a b) (λ_ _ _ a b=>bq a b) (λi a r=>bq r<|ai8 a i) (λ_ _=>0) (λ_ _ _ _ _ _=>0) (λ_=>0) (λ_ _=>0) (λ_=>1) (λ_=>0) 0 (λ_=>0) c
def af5(c:Code):Nat:=
 @Code.rec (λ_=>Nat) 0 (λ_ ops _=>len ops.toList) (λ_ _ a b=>bq a b) (λ_ _ _ a b=>bq a b) (λ_ _ r=>r) (λ_ _=>4) (λ_ _ _ _ _ _=>0) (λ_=>0) (λ_ _=>4) (λ_=>0) (λ_=>0) 0 (λ_=>0) c
def HY(a b:Code):Bool:=aD 2 (akY a)&&aD 4 (af5 b)
section mem
variable{P:aX}{X:Xt}
def akZ{o:aC C}{K:C->Prop}(h:PU o K):∃v,o=Z v/\K v:=by
 cases o with
 |none=>exact h.elim
 |some v=>exact⟨v,O,h⟩
def ahv{o:aC (C×R)}(h:ME o K):∃v H,o=Z (v,H)/\K v H:=by
 cases o with
 |none=>exact h.elim
 |some v=>exact⟨v.1,v.2,O,h⟩
def Bq(P:aX)(X:Xt)(o:Op)(s:St)(Kp:C->Prop)(Km:C->R->Prop):Prop:=
 ∃k,(∃v,BK o P (nX P X k) s=.DU v/\Kp v)\/∃v H,BK o P (nX P X k) s=.mem v H/\Km v H
def Bq.pu{o:Op}{s:St}{q:aC C}(w:∀cf,BK o P cf s=rp q)(h:PU q Kp):Bq P X o s Kp Km:=by
 have⟨v,I,B⟩:=akZ h;exact⟨0,.inl ⟨v,by rw[w,I];rfl,B⟩⟩
def Bq.me{o:Op}{s:St}(w:∀cf,BK o P cf s=rm q)(h:ME q Km):Bq P X o s Kp Km:=by
 have⟨v,H,I,B⟩:=ahv h;exact⟨0,.inr ⟨v,H,by rw[w,I];rfl,B⟩⟩
def Bq.cv{o:Op}{s:St}{q:aC C}{r:aC (C×R)}(w:∀cf,BK o P cf s=rpm q (rm r))(h:CV q r Kp Km):Bq P X o s Kp Km:=by
 cases q with
 |none=>exact Bq.me (q:=r) (λcf=>w cf) h
 |some v=>exact⟨0,.inl ⟨v,by rw[w];rfl,h⟩⟩
def Bq.cons{o:Op}{s:St}(w:∀cf,BK o P cf s=.DU v)(h:Kp v):Bq P X o s Kp Km:=⟨0,.inl ⟨v,w _,h⟩⟩
def SV{b:Builtin}{c:Call}{s:St}{ats:D aI}(w:∀cf,BK (.call c) P cf s=B6 b ats args P s.H)(h:Aw b ats args P s.H Kp Km):Bq P X (.call c) s Kp Km:=by
 cases b with
 |append=>exact Bq.me w h
 |clear=>exact Bq.me w h
 |copy=>exact Bq.me w h
 |len=>exact Bq.cv w h
 |max=>exact Bq.pu w h
 |min=>exact Bq.pu w h
 |unsafeSliceData=>exact Bq.me w h
 |unsafeString=>exact Bq.me w h
 |_=>exact h.elim
theorem ach{c:Call}{s:St}(h:acg P X c s Kp Km):Bq P X (.call c) s Kp Km:=by
 unfold acg at h;cases hb:isBuiltin c.callee with
 |some b=>
  rw[hb]at h;refine SV (b:=b) (ats:=c.argTypes.toList) (args:=mp (ev s) c.args.toList) (λcf=>?_) h;show Al c P cf s=_;unfold Al;rw[hb]
 |none=>
  rw[hb]at h;replace h:qh P X (qM c.callee P s) (mp (ev s) c.args.toList) s.H Km:=h;unfold qh at h;cases hc:qM c.callee P s with
  |none=>rw[hc]at h;exact h.elim
  |some q=>
   rw[hc]at h;have⟨v,Q,⟨k,I⟩,B⟩:=h;refine⟨k,.inr ⟨v,Q,?_,B⟩⟩;show Al c P (nX P X k) s=_;unfold Al;rw[hb];show rm (aN (qM c.callee P s) λz=>nX P X k z.1 (app z.2.1<|app (mp (ev s) c.args.toList) z.2.2) s.H)=_;rw[hc];show rm (nX P X k q.1 (app q.2.1<|app (mp (ev s) c.args.toList) q.2.2) s.H)=_;rw[I];rfl
def aci{o:Op}{s:St}(h:opK o P X s Kp Km):Bq P X o s Kp Km:=by
 cases o with
 |move _=>exact Bq.cons (λ_=>rfl) h
 |assign _=>exact Bq.cons (λ_=>rfl) h
 |pick _ _ _=>exact Bq.pu (λ_=>rfl) h
 |alloc _=>exact Bq.me (λ_=>rfl) h
 |box _ _=>exact Bq.me (λ_=>rfl) h
 |build _ _=>exact Bq.pu (λ_=>rfl) h
 |buildSlice _ _ _=>exact Bq.me (λ_=>rfl) h
 |load _ _=>exact Bq.me (λ_=>rfl) h
 |store _ _ _=>exact Bq.me (λ_=>rfl) h
 |nilCheck _=>exact Bq.pu (λ_=>rfl) h
 |binOp _ _ _ _ _=>exact Bq.pu (λ_=>rfl) h
 |unOp _ _ _=>exact Bq.pu (λ_=>rfl) h
 |convert _ _ _=>exact Bq.cv (λ_=>rfl) h
 |makeFunc _ _ _=>exact Bq.cons (λ_=>rfl) h
 |makeMap _ _=>exact Bq.me (λ_=>rfl) h
 |makeSlice _ _ _=>exact Bq.me (λ_=>rfl) h
 |slice _ _ _ _ _=>exact Bq.pu (λ_=>rfl) h
 |fieldAddr _ _ _=>exact Bq.pu (λ_=>rfl) h
 |field _ _ _=>exact Bq.pu (λ_=>rfl) h
 |indexAddr _ _ _=>exact Bq.pu (λ_=>rfl) h
 |index _ _ _=>exact Bq.pu (λ_=>rfl) h
 |lookup _ _ _ _=>exact Bq.me (λ_=>rfl) h
 |mapUpdate _ _ _ _=>exact Bq.me (λ_=>rfl) h
 |extract _ _=>exact Bq.pu (λ_=>rfl) h
 |call c=>exact ach h
 |_=>exact h.elim
theorem acj{t:Nat}:Cf l t=f<->t∈l:=by
 induction l with
 |nil=>exact⟨(λh=>by cases h),(λh=>by cases h)⟩
 |cons x l s=>
  show b_ (aB x t) f (Cf l t)=f<->_
  by_cases e:x=t
  .subst e;rw[show aB x x=f from dW x];simp[oU]
  .rw[show aB x t=aA from by rw[<-dw];exactλg=>e<|bA g];rw[lK,s,bW];exact⟨.inr,λh=>h.resolve_left λg=>e g.symm⟩
theorem af6{t aa:Nat}(h:aa∈sw l t):aa∈l/\aa≠t:=by
 induction l with
 |nil=>cases h
 |cons x l s=>
  replace h:aa∈b_ (aB x t) (sw l t) (x::sw l t):=h
  by_cases e:x=t
  .subst e;rw[show aB x x=f from dW x,oU]at h;exact⟨bJ _ (s h).1,(s h).2⟩
  .rw[show aB x t=aA from by rw[<-dw];exactλg=>e<|bA g,lK,bW]at h;rcases h with h|h
   .subst h;exact⟨aK ..,e⟩
   .exact⟨bJ _ (s h).1,(s h).2⟩
def Left(s:St)(sk:D Nat):Prop:=∀t,t∈sk->jd s t=undef
def Left.put{s:St}(h:Left s sk)(d:aC Nat)(v:C)(H:R):Left (kF s d v H) (nN sk d):=by
 cases d with
 |none=>exactλt w=>h t w
 |some d=>
  intro t w;have⟨I,B⟩:=af6 (l:=sk) w;show jd (sM s d v H) t=_;rw[Ad,jx λg=>B g.1.symm];exact h t I
def Left.skip{s:St}(h:Left s sk)(d:aC Nat):Left (kF s d undef s.H) (On s sk d):=by
 cases d with
 |none=>exactλt ht=>h t ht
 |some d=>
  intro t ht;show jd (sM s d undef s.H) t=_;rw[Ad];split
  .rfl
  .next w=>
   replace ht:t∈b_ (wr s d) (d::sk) sk:=ht;cases hw:wr s d with
   |true=>
    rw[hw,oU,bW]at ht;rcases ht with e|ht
    .exact absurd ⟨e.symm,hw⟩ w
    .exact h t ht
   |false=>rw[hw]at ht;exact h t ht
def QF{v:aC Bool}(h:yN v A h2):(v=Z f/\A)\/(v=Z aA/\h2):=by
 cases v with
 |none=>exact h.elim
 |some b=>cases b with
  |true=>exact .inl ⟨O,h⟩
  |false=>exact .inr ⟨O,h⟩
def ack{s:St}{g:aC (Nat×Bool)}{K:Bool->St->D Nat->Prop}(hl:Left s sk)(h:GuW ops s sk g K):
 ∃b s' sk',uN ops s g=Z b/\qg s s'/\Left s' sk'/\K b s' sk':=by
 cases g with
 |none=>exact⟨f,s,sk,O,qg.refl s,hl,h⟩
 |some g=>
  cases ho:nth ops.toList g.1 with
  |none=>
   unfold GuW at h;replace h:@aQ Oper (λ_=>Prop) False _ (nth ops.toList g.1):=h;rw[ho]at h;exact h.elim
  |some o=>
   cases ht:o.dst with
   |none=>
    unfold GuW at h;replace h:@aQ Oper (λ_=>Prop) False _ (nth ops.toList g.1):=h;rw[ho]at h;replace h:@aQ Nat (λ_=>Prop) False _ o.dst:=h;rw[ht]at h;exact h.elim
   |some t=>
    unfold GuW at h;replace h:@aQ Oper (λ_=>Prop) False _ (nth ops.toList g.1):=h;rw[ho]at h;replace h:@aQ Nat (λ_=>Prop) False _ o.dst:=h;rw[ht]at h
    have w:∀y,(@aQ Bool (λ_=>aC<|aC Bool) (gd (isU<|jd s t)<|Z T) (λb=>Z<|Z b)<|kT<|jd s t)=Z y->CR ops s g.1=Z y:=by
     intro y w;unfold CR;rw[ho];show(aN o.dst _)=_;rw[ht];exact w
    have N:∀y,CR ops s g.1=Z y->uN ops s (Z g)=Z (@aQ Bool (λ_=>Bool) aA (λb=>CE b g.2) y):=by
     intro y w;show OW ops s g=_;unfold OW;rw[w];rfl
    cases he:Cf sk t with
    |true=>
     replace h:@ik (λ_=>Prop) _ (K aA s sk) (Cf sk t):=h;rw[he]at h;refine⟨aA,s,sk,?_,qg.refl s,hl,h⟩;have V:=hl t<|acj.1 he;exact N T<|w T (by rw[V];rfl)
    |false=>
     replace h:@ik (λ_=>Prop) (yN (kT<|jd s t) (K (CE f g.2) (sM s t (.bool f) s.H)<|sw sk t)<|K (CE aA g.2) (sM s t (.bool aA) s.H)<|sw sk t) (K aA s sk) (Cf sk t):=h;rw[he]at h
     have E:∀b,kT (jd s t)=Z b->K (CE b g.2) (sM s t (.bool b) s.H) (sw sk t)->∃b s' sk',uN ops s (Z g)=Z b/\qg s s'/\Left s' sk'/\K b s' sk':=by
      intro b M U;refine⟨_,_,_,N (Z b)<|w (Z b)<|by rw[M],?_,Left.put hl (Z t) _ _,U⟩;have W:=qO M;have:=qg.same s t;rw[W]at this;exact this
     rcases QF h with⟨I,B⟩|⟨I,B⟩
     .exact E _ I B
     .exact E _ I B
def acm:∀{l:D Oper}{s:St}{sk:D Nat}{K:St->Prop},Left s sk->Cg P X ops l s sk K->∃s' s2,Ro P X ops l s s'/\qg s' s2/\K s2:=by
 intro l
 induction l with
 |nil=>intro s sk K _ h;exact⟨s,s,Ro.nil,qg.refl s,h⟩
 |cons o l ih=>
  intro s0 ab K W h
  have⟨b,s,sk,hw,V,hl,h⟩:=ack (K:=λb s sk=>@ik (λ_=>Prop)
   (Cg P X ops l (kF s o.dst undef s.H) (On s sk o.dst) K)
   (@aQ Call (λ_=>Prop) (opK o.op P X s (λv=>Cg P X ops l (kF s o.dst v s.H) (nN sk o.dst) K) λv H=>Cg P X ops l (kF s o.dst v H) (nN sk o.dst) K) (λ_=>False)<|vz o.op)
   b) W h
  have w:∀k U E,pU P (nX P X k) ops o s0=Z U\/pU P (nX P X k) ops o s=Z U->Left U E->Cg P X ops l U E K->∃s' s2,Ro P X ops (o::l) s0 s'/\qg s' s2/\K s2:=by
   intro k U E hst Y hK;have⟨s',s2,h3,h4,h5⟩:=ih Y hK;rcases hst with hst|hst
   .exact⟨s',s2,Ro.cons ⟨k,hst⟩ h3,h4,h5⟩
   .have M:=V.pU (P:=P) (cf:=nX P X k) ops o;rw[hst]at M;generalize hz:pU P (nX P X k) ops o s0=z at M;cases M with
    |some M=>
     rename_i s3;have⟨k2,h3⟩:=h3;have O:=qg.oM (P:=P) (cf:=nX P X k2) ops l M;rw[h3]at O;generalize hq:oM P (nX P X k2) ops l s3=q at O;cases O with
     |some O=>exact⟨_,s2,Ro.cons ⟨k,hz⟩ ⟨k2,hq⟩,O.trans h4,h5⟩
  have N:uN ops s o.guard=Z b:=by rw[<-V.uN];exact hw
  cases b with
  |false=>
   refine w 0 _ _ (.inr ?_) (Left.skip hl o.dst) h;unfold pU;rw[N];rfl
  |true=>
   cases hd:vz o.op with
   |some c=>
    replace h:@aQ Call (λ_=>Prop) _ (λ_=>False) (vz o.op):=h;rw[hd]at h;exact h.elim
   |none=>
    replace h:@aQ Call (λ_=>Prop) (opK o.op P X s (λv=>Cg P X ops l (kF s o.dst v s.H) (nN sk o.dst) K) λv H=>Cg P X ops l (kF s o.dst v H) (nN sk o.dst) K) (λ_=>False) (vz o.op):=h;rw[hd]at h
    have st:∀k v H,Ky o s (BK o.op P (nX P X k) s)=Z (kF s o.dst v H)->pU P (nX P X k) ops o s=Z (kF s o.dst v H):=by
     intro k v H V;unfold pU;rw[N];show Fq P (nX P X k) o s=_;unfold Fq;rw[hd];exact V
    obtain⟨k,⟨v,I,B⟩|⟨v,H,I,B⟩⟩:=aci h
    .exact w k _ _ (.inr<|st k v s.H (by rw[I];rfl)) (Left.put hl o.dst v s.H) B
    .exact w k _ _ (.inr<|st k v H (by rw[I];rfl)) (Left.put hl o.dst v H) B
def RoD.ak0{o:Oper}{l:D Oper}{s s1:St}{c:Cl}{r:St×D Cl}(I:mV P (nX P X k) ops o s=Z (s1,c))(B:RoD P X ops l s1 (c::acc) r):RoD P X ops (o::l) s acc r:=by
 have⟨k2,B⟩:=B;refine⟨max k k2,?_⟩;show(aN (mV P (nX P X<|max k k2) ops o s) λq=>jT P (nX P X<|max k k2) ops l q.1<|q.2::acc)=_;rw[show mV P (nX P X<|max k k2) ops o s=Z (s1,c)from Hw (Bp k _<|nM k k2).1 I];exact Hy (Bp k2 _<|kE k k2).1 B
def ai9:∀{l:D Oper}{s:St}{sk:D Nat}{acc:D Cl}{K:St->D Cl->Prop},Left s sk->VK P X ops l s sk acc K->∃s' s2 cls,RoD P X ops l s acc (s',cls)/\qg s' s2/\K s2 cls:=by
 intro l
 induction l with
 |nil=>intro s sk acc K _ h;exact⟨s,s,acc,⟨0,O⟩,qg.refl s,h⟩
 |cons o l ih=>
  intro s0 ac acc K W h
  have⟨b,s,sk,hw,he,hl,h⟩:=ack (K:=λb s sk=>@ik (λ_=>Prop)
   (VK P X ops l (kF s o.dst undef s.H) (On s sk o.dst) (cl 0::acc) K)
   (opK o.op P X (iW s) (λv=>VK P X ops l (kF s o.dst v s.H) (nN sk o.dst) (cl 0::acc) K) λv H=>VK P X ops l (kF s o.dst v ⟨H.xI,H.bV,pV s.H.low H.low⟩) (nN sk o.dst) (uB P o.op s H::acc) K)
   b) W h
  have w:∀k V N c,mV P (nX P X k) ops o s=Z (V,c)->Left V N->VK P X ops l V N (c::acc) K->∃s' s2 cls,RoD P X ops (o::l) s0 acc (s',cls)/\qg s' s2/\K s2 cls:=by
   intro k V N c ab Y hK;have⟨s',s2,cls,h3,h4,h5⟩:=ih Y hK;have M:=he.mV (P:=P) (cf:=nX P X k) ops o;rw[ab]at M;generalize hz:mV P (nX P X k) ops o s0=z at M;cases M with
   |some _ M=>
    rename_i s3;have⟨k2,h3⟩:=h3;have U:=qg.jT (P:=P) (cf:=nX P X k2) ops l (c::acc) M;rw[h3]at U;generalize hq:jT P (nX P X k2) ops l s3 (c::acc)=q at U;cases U with
    |some _ U=>exact⟨_,s2,cls,RoD.ak0 hz ⟨k2,hq⟩,U.trans h4,h5⟩
  have E:uN ops s o.guard=Z b:=by rw[<-he.uN];exact hw
  cases b with
  |false=>
   refine w 0 _ _ (cl 0) ?_ (Left.skip hl o.dst) h;unfold mV;rw[E];rfl
  |true=>
   obtain⟨k,⟨v,I,B⟩|⟨v,H,I,B⟩⟩:=aci h
   .refine w k _ _ (cl 0) ?_ (Left.put hl o.dst v s.H) B;unfold mV;rw[E];show JH P o s (BK o.op P (nX P X k)<|iW s)=_;rw[I];rfl
   .refine w k _ _ (uB P o.op s H) ?_ (Left.put hl o.dst v ⟨H.xI,H.bV,pV s.H.low H.low⟩) B;unfold mV;rw[E];show JH P o s (BK o.op P (nX P X k)<|iW s)=_;rw[I];rfl
def iC.alike{c:Code}{s s':St}{K:Out->Prop}(w:qg s s')(h:iC P X c s' K):iC P X c s K:=by
 have⟨o,o',I,B,h3⟩:=h;have⟨o2,h4,h5⟩:=Ev.alike w.symm I;refine⟨o2,o',h5,?_,h3⟩
 have:CF o2 o:=by
  cases h4 with
  |fail=>exact .fail
  |norm h=>exact .norm h.symm
  |exit i h=>exact .exit i h.symm
  |goto l h=>exact .goto l h.symm
  |ret h=>exact .ret h.symm
 exact this.trans B
def Left.nil(s:St):Left s []:=λt h=>by cases h
def af7{id:Nat}{s:St}{K:Out->Prop}(h:anT P X ops d s K):iC P X (.region id ops d) s K:=by
 cases d with
 |false=>
  have⟨s',s2,I,B,h3⟩:=acm (l:=ops.toList) (s:=clear s) (K:=λs=>K<|.norm s) (Left.nil _) h;exact⟨_,_,Ev.region I,.norm B,h3⟩
 |true=>
  cases hst:(lT ops&&qN ops)with
  |false=>
   have w:@ik (λ_=>Prop) False (VK P X ops ops.toList (clear s) [] [] λs cls=>kY ops cls=f/\K (.norm s)) (lT ops&&qN ops):=h;rw[hst]at w;exact w.elim
  |true=>
   have w:@ik (λ_=>Prop) False (VK P X ops ops.toList (clear s) [] [] λs cls=>kY ops cls=f/\K (.norm s)) (lT ops&&qN ops):=h;rw[hst]at w;have⟨s',s2,cls,I,he,B,h3⟩:=ai9 (Left.nil _) w;exact⟨_,_,Ev.SS hst I B,.norm he,h3⟩
def iC.mono{c:Code}{s:St}{K K':Out->Prop}(h:iC P X c s K)(hk:∀o,K o->K' o):iC P X c s K':=by
 have⟨o,o',I,B,h3⟩:=h;exact⟨o,o',I,B,hk o' h3⟩
def iC.seq{a b:Code}{s:St}{K:Out->Prop}(h:iC P X a s<|uQ P X b K):iC P X (.seq a b) s K:=by
 have⟨o,o1,I,w,B⟩:=h;cases w with
 |fail=>exact absurd O I.1
 |norm w=>
  have⟨o',o2,h3,h5,h4⟩:=iC.alike w (K:=K) B;exact⟨o',o2,Ev.seq I h3,h5,h4⟩
 |exit i w=>exact⟨_,_,Ev.ab6 I,.exit i w,B⟩
 |goto l w=>
  refine⟨_,_,?_,.goto l w,B⟩;have⟨n1,k1,I⟩:=I;refine⟨n1,k1,?_⟩;show andThen (IQ P X k1 a s) (IQ P X k1 b)=_;rw[I];rfl
 |ret w=>exact⟨_,_,Ev.af2 I,.ret w,B⟩
def iC.block{id:Nat}{a:Code}{s:St}{K:Out->Prop}(h:iC P X a s<|uk id K):iC P X (.block id a) s K:=by
 have⟨o,o',I,w,B⟩:=h;refine⟨zF id o,_,?_,?_,B⟩
 .have⟨n1,k1,I⟩:=I;refine⟨?_,k1,?_⟩
  .cases o with
   |fail=>exact absurd O n1
   |exit i E=>
    show b_ (aB i id) (Out.norm E) (Out.exit i E)≠.fail;cases aB i id<;>simp[oU,lK]
   |_=>intro e;cases e
  .show zF id (IQ P X k1 a s)=_;rw[I]
 .cases w with
  |fail=>exact .fail
  |norm w=>exact .norm w
  |exit i w=>
   show CF (b_ (aB i id) _ _)<|b_ (aB i id) _ _;cases aB i id with
   |true=>exact .norm w
   |false=>exact .exit i w
  |goto l w=>exact .goto l w
  |ret w=>exact .ret w
def aja{au:Type}(s:au->St)(Inv:au->Prop)(μ:au->Nat)(n:Nat)(K:Out->Prop):Out->Prop:=λo=>match o with
 |.norm B=>∃w,B=s w/\Inv w/\μ w<n
 |.fail=>False
 |o=>K o
def iC.loop{au:Type}{a:Code}{K:Out->Prop}(s:au->St)(Inv:au->Prop)(μ:au->Nat)(h:∀t,Inv t->iC P X a (s t) (aja s Inv μ (μ t) K)):
 ∀(t:au),Inv t->iC P X (.loop a) (s t) K:=by
 suffices∀n t,μ t<n->Inv t->iC P X (.loop a) (s t) K fromλt U=>this (μ t+1) t (dI _) U;intro n
 induction n with
 |zero=>intro t O;omega
 |succ n V=>
  intro t O M;have⟨o,o',I,w,B⟩:=h t M;cases w with
  |fail=>exact B.elim
  |norm w=>
   obtain⟨W,rfl,E,Y⟩:=B;have⟨o',o2,h5,h7,h6⟩:=iC.alike w<|V W N E;exact⟨o',o2,Ev.af3 I h5,h7,h6⟩
  |exit i w=>exact⟨_,_,Ev.ab7 I,.exit i w,B⟩
  |goto l w=>
   refine⟨_,_,?_,.goto l w,B⟩;have⟨n1,k1,I⟩:=I;refine⟨n1,k1+1,?_⟩;show andThen (IQ P X (k1+1) a<|s t) _=_;rw[C9 I n1 (jr _)];rfl
  |ret w=>exact⟨_,_,Ev.ab8 I,.ret w,B⟩
def bM.mono{g:FuncId}{args:D C}{H:R}{K K':C->R->Prop}(h:bM P X g args H K)(hk:∀v Q,K v Q->K' v Q):bM P X g args H K':=by
 have⟨v,Q,I,B⟩:=h;exact⟨v,Q,I,hk _ _ B⟩
def dn:type_of%@bM.mono:=@bM.mono
def jO(P:aX)(rs:D ResultVar)(K:C->R->Prop):Out->Prop:=λo=>
 @Out.rec (λ_=>Prop) False (λs=>s.df=[]/\@aQ (D C) (λ_=>Prop) False (λvs=>K (uI vs) s.H) (ny P s rs)) (λ_ _=>False) (λ_ _=>False)
  (λs=>s.df=[]/\@aQ (D C) (λ_=>Prop) False (λvs=>K (uI vs) s.H) (ny P s rs)) o
def Fg(args:D C)(n:Nat):Tr C:=Tr.uS top (app args<|aa4 top<|dP n<|len args) 0 .nil
def SX(args:D C)(n k:Nat):(Tr.uS top args 0 .nil).get top k=(Fg args n).get top k:=by
 unfold Fg;rw[Tr.oh,Tr.oh,uH];simp only[bD,true_and,bB,mD];have B:∀m,u (aa4 top m)=m:=by intro m;induction m with|zero=>rfl|succ m w=>exact eY dh w
 have s:∀m j,(aa4 top m).getD j top=top:=by
  intro m
  induction m with
  |zero=>intro j;rfl
  |succ m w=>intro j;cases j with
   |zero=>rfl
   |succ j=>exact w j
 by_cases I:k<u args
 .rw[jj I,jj N7];simp[aW,bZ I]
 .rw[jx I];split
  .rw[aW,eB N,<-aW,s,Tr.get_nil]
  .rfl
theorem bM.body{g:FuncId}{c:Code}(U:X.o g args H=T)(hg:nth P.funcs.toList g=Z fn)(W:fn.body=Z c)(hl:aD (len args) fn.ntmps=f)(hn:jZ P g=nl)(h:iC P X c ⟨nl,fn.ntmps,[],Fg args fn.ntmps,[],H⟩<|jO P fn.results.toList K):bM P X g args H K:=by
 have⟨o,o1,I,h0,B⟩:=h;subst hn
 have he:qg ⟨jZ P g,fn.ntmps,[],Fg args fn.ntmps,[],H⟩ ⟨jZ P g,fn.ntmps,[],Tr.uS top args 0 .nil,[],H⟩:=⟨O,O,O,O,λk=>by
  show b_ (iP (jZ P g) k) ((Fg args fn.ntmps).get top k) _=b_ (iP (jZ P g) k) ((Tr.uS top args 0 .nil).get top k) _;rw[SX args fn.ntmps k]⟩
 have⟨o',h3,h4⟩:=Ev.alike he I
 have w:∀s M:St,qg M s->Qf o'=Z M->(s.df=[]/\@aQ (D C) (λ_=>Prop) False (λvs=>K (uI vs) s.H) (ny P s fn.results.toList))->bM P X g args H K:=by
  intro s M hs ho ⟨Y,E⟩;rw[<-hs.ny]at E;cases ha:ny P M fn.results.toList with
  |none=>rw[ha]at E;exact E.elim
  |some vs=>
   rw[ha]at E;refine⟨_,_,Ca.body U hg W hl h4 ho ?_ ha,?_⟩
   .rw[hs.df,Y];rfl
   .rw[hs.H];exact E
 have N:CF o' o:=by
  cases h3 with
  |fail=>exact .fail
  |norm h=>exact .norm h.symm
  |exit i h=>exact .exit i h.symm
  |goto l h=>exact .goto l h.symm
  |ret h=>exact .ret h.symm
 have V:=N.trans h0;cases V with
 |fail=>exact B.elim
 |norm hs=>exact w _ _ hs O B
 |exit i hs=>exact B.elim
 |goto l hs=>exact B.elim
 |ret hs=>exact w _ _ hs O B
def SY{b:Code}{K:Out->Prop}{s:St}:uQ P X b K (.norm s)=iC P X b s K:=rfl
def S7{b:Code}{K:Out->Prop}{s:St}{i:Nat}:uQ P X b K (.exit i s)=K (.exit i s):=rfl
def X3{b:Code}{K:Out->Prop}{s:St}:uQ P X b K (.ret s)=K (.ret s):=rfl
def S8{K:Out->Prop}{s:St}{i:Nat}:uk i K (.norm s)=K (.norm s):=rfl
def X4{K:Out->Prop}{s:St}{i:Nat}:uk i K (.ret s)=K (.ret s):=rfl
def S9{K:Out->Prop}{s:St}{i:Nat}:uk i K (.exit i s)=K (.norm s):=by
 show K (b_ (aB i i) _ _)=_;rw[show aB i i=f from dW i];rfl
def S_{K:Out->Prop}{s:St}(h:j≠i):uk i K (.exit j s)=K (.exit j s):=by
 show K (b_ (aB j i) _ _)=_;rw[show aB j i=aA from by rw[<-dw];exactλg=>h<|bA g];rfl
def Ta{A h2:Prop}:yN (Z f) A h2=A:=rfl
def Po{A h2:Prop}:yN (Z aA) A h2=h2:=rfl
def Lg{v:C}{K:C->Prop}:PU (Z v) K=K v:=rfl
def X5{v:C}{H:R}{K:C->R->Prop}:ME (Z (v,H)) K=K v H:=rfl
def X6{v:C}{q:aC (C×R)}{Kp:C->Prop}{Km:C->R->Prop}:CV (Z v) q Kp Km=Kp v:=rfl
end mem
def kid(c:Code)(i:Nat):Code:=
 @Code.rec (λ_=>Nat->Code) (λ_=>.skip) (λ_ _ _ _=>.skip) (λa b _ _ i=>@kD (λ_=>Code) a (λ_ _=>b) i)
  (λ_ a b _ _ i=>@kD (λ_=>Code) a (λ_ _=>b) i) (λ_ a _ _=>a) (λa _ _=>a) (λ_ _ _ _ _ _ _=>.skip) (λ_ _=>.skip) (λa _ _=>a) (λ_ _=>.skip) (λ_ _=>.skip) (λ_=>.skip) (λ_ _=>.skip) c i
def sub(c:Code)(p:D Nat):Code:=@dF Nat (λ_=>Code->Code) (λc=>c) (λi _ s c=>s<|kid c i) p c
def opsOf(c:Code):Array Oper:=
 @Code.rec (λ_=>Array Oper) #[] (λ_ ops _=>ops) (λ_ _ _ _=>#[]) (λ_ _ _ _ _=>#[]) (λ_ _ _=>#[]) (λ_ _=>#[]) (λ_ _ _ _ _ _=>#[]) (λ_=>#[]) (λ_ _=>#[]) (λ_=>#[]) (λ_=>#[]) #[] (λ_=>#[]) c
def QG(ay:Func):Code:=@aQ Code (λ_=>Code) .skip (λc=>c) ay.body
def fld(off:Nat)(x:C):aC C:=aN (sJ x) λa=>Z<|.pointer<|Z ⟨a.block,bq a.off off,T⟩
def ajb(l:aC Nat)(off:Nat)(x:C):aC C:=aN (vM x) λF=>apart l F off
def yh(l:aC Nat)(x:C)(H:R):aC (C×R):=aN (sJ x) λa=>loadAt l a H
def GU(n:Nat)(x v:C)(H:R):aC (C×R):=
 aN (sJ x) λa=>gd (aB (len<|cr v) n)<|aN (H.write a.block a.off<|cr v) λQ=>Z (undef,Q)
def BS(es:Nat)(x i:C):aC C:=aN (AZ i) λk=>aN (Ku x) λp=>aN p.1 λa=>gd (aD (dh k) p.2.1)<|Z<|.pointer<|Z ⟨a.block,bq a.off<|bP k es,T⟩
def idR(n es:Nat)(x i:C):aC C:=aN (AZ i) λk=>aN (sJ x) λa=>gd (aD (dh k) n)<|Z<|.pointer<|Z ⟨a.block,bq a.off<|bP k es,T⟩
def idS(x i:C):aC C:=aN (AZ i) λk=>aN (vL x) λs=>aN (nth s.data.toList k) λb=>Z<|.int .u8<|.ofNat b.toNat
def Tc(es:Nat)(x:C)(lo hi s:aC C):aC C:=aN (Ku x) λp=>Xv es p lo hi s
def slT(x:C)(lo hi w:aC C):aC C:=aN (vL x) λs=>gd (fT w)<|Qb s lo hi
def ak1(x:C):aC C:=aN (Ku x) λp=>Z<|.int .i64<|.ofNat p.2.1
def ak2(x:C):aC C:=aN (vL x) λs=>Z<|.int .i64<|.ofNat<|len s.data.toList
def jM(e:aI)(z:D C)(H:R):aC (C×R):=Z (OU H.bV,H.new<|rowOf e z)
def mkS(e:aI)(z:D C)(l c:C)(H:R):aC (C×R):=
 aN (AZ l) λn=>aN (AZ c) λm=>gd (aD n m&&aD m 16777216&&f)<|Z (J (Z ⟨H.bV,0,T⟩) n m,H.new<|rowOf e<|qd z m)
def Ch(e:aI)(es:Nat)(s x:C)(H:R):aC (C×R):=
 aN (Ku s) λp=>aN (appended H es x) λr=>gd (aD r.1 16777216)<|Si (e,es) s p r.1 r.2 H
def cpA(es:Nat)(d x:C)(H:R):aC (C×R):=
 aN (Ku d) λp=>aN (appended H es x) λe=>
  @aQ Addr (λ_=>aC<|C×R) (gd (aB p.2.1 0)<|Z (.int .i64 0,H))
   (λa=>aN (H.write a.block a.off<|tk (bP (b_ (aD e.1 p.2.1) e.1 p.2.1) es) e.2) λQ=>Z (.int .i64<|.ofNat<|b_ (aD e.1 p.2.1) e.1 p.2.1,Q)) p.1
def clA(z:D C)(d:C)(H:R):aC (C×R):=
 aN (Ku d) λp=>@aQ Addr (λ_=>aC<|C×R) (Z (.tuple #[],H)) (λa=>aN (H.write a.block a.off<|qd z p.2.1) λQ=>Z (.tuple #[],Q)) p.1
def Oo(x:C):aC (FuncId×D C×D C):=aN (vFn x) λq=>aN (fFn q.1) λg=>Z (g,q.2)
def hN(H:R):R:=⟨H.xI,H.bV,H.bV⟩
def hM(H Q:R):R:=⟨Q.xI,Q.bV,pV H.low Q.low⟩
def CG(H Q:R):Cl:=b_ (aD H.bV Q.low) (cl 1) ⟨2,0,0,0,H,Q⟩
def N9(H Q:R):Cl:=b_ (aD H.bV Q.low) (cl 5) ⟨2,0,0,0,H,Q⟩
def clL(n:Nat)(x:C)(H Q:R):Cl:=b_ (aD H.bV Q.low) ((aN (sJ x) λa=>Z<|Cl.mk 4 a.block a.off n hh0 hh0).getD<|cl 1) ⟨2,0,0,0,H,Q⟩
def clS(x v:C)(H Q:R):Cl:=@aQ Addr (λ_=>Cl) ⟨2,0,0,0,H,Q⟩ (λa=>⟨3,a.block,a.off,len<|cr v,hh0,hh0⟩)<|sJ x
def IU(az:Nat->St->Prop)(n:Nat)(K:Out->Prop):Out->Prop:=λo=>
 @Out.rec (λ_=>Prop) False (λs=>∃m,m<n/\az m s) (λi s=>K<|.exit i s) (λl s=>K<|.goto l s) (λs=>K<|.ret s) o
def Td{az:Nat->St->Prop}{n:Nat}{K:Out->Prop}{s:St}:IU az n K (.norm s)=∃m,m<n/\az m s:=rfl
def Te{az:Nat->St->Prop}{n:Nat}{K:Out->Prop}{s:St}{i:Nat}:IU az n K (.exit i s)=K (.exit i s):=rfl
def X7{az:Nat->St->Prop}{n:Nat}{K:Out->Prop}{s:St}:IU az n K (.ret s)=K (.ret s):=rfl
theorem iC.Ei{P:aX}{X:Xt}{a:Code}{K:Out->Prop}{az:Nat->St->Prop}(h:∀n s,az n s->iC P X a s (IU az n K)):∀n s,az n s->iC P X (.loop a) s K:=by
 intro n s hs;refine iC.loop (au:=Nat×St) (λt=>t.2) (λt=>az t.1 t.2) (λt=>t.1) ?_ (n,s) hs;rintro⟨n,s⟩ M;refine iC.mono (h n s M) λo w=>?_;cases o with
 |fail=>exact w
 |norm E=>
  have⟨m,I,B⟩:=w;exact⟨(m,E),O,B,I⟩
 |exit i E=>exact w
 |goto l E=>exact w
 |ret E=>exact w
abbrev Ci:=look
def VL(P:aX)(s:St)(rs:D ResultVar):(D C->Prop)->Prop:=
 @dF ResultVar (λ_=>(D C->Prop)->Prop) (λk=>k []) (λr _ w k=>
  @ResultVar.rec (λ_=>Prop) (λt=>w λvs=>k<|jd s t::vs) (λa t=>ME (xP P t (jd s a) s.H) λv _=>w λvs=>k<|v::vs) r) rs
def X8{P:aX}{s:St}:∀{rs:D ResultVar}{k:D C->Prop},VL P s rs k->∃vs,ny P s rs=Z vs/\k vs:=by
 intro rs
 induction rs with
 |nil=>intro k h;exact⟨[],O,h⟩
 |cons r rs w=>
  intro k h;cases r with
  |tmp t=>
   have⟨vs,I,B⟩:=w (k:=λvs=>k<|jd s t::vs) h;refine⟨jd s t::vs,?_,B⟩;show(aN (Z<|jd s t) λv=>aN (ny P s rs) λvs=>Z<|v::vs)=_;rw[I];rfl
  |cell a t=>
   have⟨v,Q,h0,h⟩:=ahv (K:=λv _=>VL P s rs λvs=>k<|v::vs) h;have⟨vs,I,B⟩:=w (k:=λvs=>k<|v::vs) h;refine⟨v::vs,?_,B⟩;show(aN (aN (xP P t (jd s a) s.H) λp=>Z p.1) λv=>aN (ny P s rs) λvs=>Z<|v::vs)=_;rw[h0,I];rfl
def acn{P:aX}{s:St}(hd:s.df=[])(h:VL P s rs λvs=>K (uI vs) s.H):jO P rs K (.ret s):=by
 have⟨vs,I,B⟩:=X8 h;refine⟨hd,?_⟩;rw[I];exact B
def Z6{P:aX}{s:St}(hd:s.df=[])(h:VL P s rs λvs=>K (uI vs) s.H):jO P rs K (.norm s):=by
 have⟨vs,I,B⟩:=X8 h;refine⟨hd,?_⟩;rw[I];exact B
section
def wM(H:R)(r:Nat)(o:nI)(q:Nat):(H.put r o).obj q=if q=r then o else H.obj q:=Tr.wU _ _ _ _ _
def xV(H:R)(o:nI)(q:Nat):(H.new o).obj q=if q=H.bV then o else H.obj q:=Tr.wU _ _ _ _ _
def wN(H:R)(r:Nat)(o:nI):(H.put r o).low=min H.low r:=by
 show b_ (aD H.low r) H.low r=_;cases h:aD H.low r with
 |true=>have:=aF h;rw[oU,jF this]
 |false=>
  have:¬H.low<=r:=λg=>by rw[aH g]at h;cases h
  rw[lK,vZ N]
def Bk(H:R)(r:Nat)(ty:aI)(F:D C):Prop:=
 ∃az:Row,H.obj r=.row az/\az.ty=ty/\az.n=u F/\az.mR=aA/\az.fz=0/\∀i(h:i<u F),az.cells.get top i=F[i]
def Bk.cell{r:Nat}(h:Bk H r ty F)(s:F[o]?=Z v):H.cell r o=Z v:=by
 have⟨az,I,_,B,_,_,h3⟩:=h;have⟨ho,s⟩:=bK.1 s;unfold R.cell;rw[I];show gd (aD (dh o) az.n) (Z<|az.cells.get top o)=_;rw[B,aH N,h3 o ho,s];rfl
def Bk.iB{r:Nat}(h:Bk H r ty F)(e:Q.obj r=H.obj r):Bk Q r ty F:=by
 have⟨az,I,B⟩:=h;exact⟨az,e.trans I,B⟩
def l8{r:Nat}(e:Q.obj r=H.obj r)(o:Nat):Q.cell r o=H.cell r o:=by unfold R.cell;rw[e]
def xD{r:Nat}(e:Q.obj r=H.obj r)(o n:Nat):Q.read r o n=H.read r o n:=by unfold R.read;rw[e]
def Bk.new(H:R)(ty:aI)(F:D C):Bk (H.new<|rowOf ty F) H.bV ty F:=by
 refine⟨⟨ty,Tr.uS top F 0 .nil,len F,aA,0⟩,by rw[xV,jj O];rfl,rfl,h_ F,rfl,rfl,λi h=>?_⟩;rw[Tr.oh,jj N,aW];simp[h]
def aco:∀{k:Nat}(t:Tr C)(F:D C),k+n<=u F->(∀i(h:i<u F),t.get top i=F[i])->Tr.FX top t k n=(F.drop k).take n:=by
 induction n with
 |zero=>intro k t F _ _;rw[Tr.DW];simp
 |succ n w=>
  intro k t F B s;rw[Tr.zg,w t F N s,s k N,eH (by omega:k<u F),jS]
def Bk.read{r:Nat}(h:Bk H r ty F)(s:o+n<=u F):H.read r o n=Z ((F.drop o).take n):=by
 have⟨az,I,_,B,_,_,h3⟩:=h;cases n with
 |zero=>show Z []=_;simp
 |succ n=>
  show(aN (xH<|H.obj r) λw=>gd (aD (bq o<|n+1) w.n)<|Z<|Tr.FX top w.cells o<|n+1)=_;rw[I];show gd (aD (bq o<|n+1) az.n) (Z<|Tr.FX top az.cells o<|n+1)=_;rw[B,aH<|om s,aco az.cells F s h3];rfl
def splice(F:D C)(o:Nat)(vs:D C):D C:=F.take o++vs++F.drop (o+u vs)
def o_(h:o+u vs<=u F):u (splice F o vs)=u F:=by unfold splice;simp;omega
def sN(h:o+u vs<=u F)(i:Nat):(splice F o vs)[i]?=if o<=i/\i<o+u vs then vs[i-o]? else F[i]?:=by
 unfold splice;rw[cK,tq,tq];simp only[dS]
 by_cases I:i<o
 .rw[jj N,jx N,iq,jj I]
 .rw[jx N]
  by_cases B:i<o+u vs
  .rw[jj N,jj ⟨N,B⟩];congr 1;omega
  .rw[jx N,jx N,qW];congr 1;omega
theorem Bk.write{r:Nat}(h:Bk H r ty F)(M:o+u vs<=u F)(hk:all' gI vs=f):
 ∃Q,H.write r o vs=Z Q/\Bk Q r ty (splice F o vs)/\Q.bV=H.bV/\(∀q,q≠r->Q.obj q=H.obj q)/\(Q.low=min H.low r\/Q.low=H.low):=by
 have⟨az,I,B,h3,h4,h5,h6⟩:=h;cases vs with
 |nil=>
  refine⟨H,O,⟨az,I,B,by rw[o_ M];exact h3,h4,h5,λi hi=>?_⟩,rfl,λ_ _=>rfl,.inr O⟩;have E:i<u F:=by rwa [o_ M]at hi
  have:=sN M i;rw[jx (λh=>absurd h.2 N7),av hi,av E]at this;rw[h6 i E];exact(eO this).symm
 |cons v s=>
  have V:H.write r o (v::s)=Z (H.put r<|.row ⟨az.ty,Tr.uS top (v::s) o az.cells,az.n,aA,az.fz⟩):=by
   show(aN (xH<|H.obj r) λw=>gd (!w.mR&&aD (bq o<|len<|v::s) w.n&&aD w.fz o&&all' gI (v::s))<|Z<|H.put r<|.row ⟨w.ty,Tr.uS top (v::s) o w.cells,w.n,aA,w.fz⟩)=_;rw[I];show gd (!az.mR&&aD (bq o<|len<|v::s) az.n&&aD az.fz o&&all' gI (v::s)) _=_;rw[hk,h4,h3,h5,h_,aH<|om M,aH<|bD o];rfl
  refine⟨_,V,⟨⟨az.ty,Tr.uS top (v::s) o az.cells,az.n,aA,az.fz⟩,by rw[wM,jj O],B,by rw[o_ M];exact h3,O,h5,λi hi=>?_⟩,rfl,λq U=>by rw[wM,jx U],.inl<|wN _ _ _⟩;have E:i<u F:=by rwa [o_ M]at hi
  have N:=sN M i;rw[av hi]at N;show(Tr.uS top (v::s) o az.cells).get top i=_;rw[Tr.oh]
  by_cases hc:o<=i/\i<o+(v::s).length
  .rw[jj hc]at N|-;rw[aW,<-N];rfl
  .rw[jx hc]at N|-;rw[h6 i E];rw[av E]at N;exact(eO N).symm
structure pN(S:D Nat)(H Q:R):Prop where
 bV:H.bV<=Q.bV
 obj:∀r,r<H.bV->r∉S->Q.obj r=H.obj r
 low:∀b,b<=H.low->b<=H.bV->(∀r∈S,b<=r)->b<=Q.low
 wf:H.low<=H.bV->Q.low<=Q.bV
abbrev Wf(H:R):Prop:=H.low<=H.bV
abbrev Ext(H Q:R):Prop:=pN [] H Q
def Ext.refl(H:R):Ext H H:=⟨ax _,λ_ _ _=>rfl,λ_ h _ _=>h,λh=>h⟩
def pN.refl(S:D Nat)(H:R):pN S H H:=⟨ax _,λ_ _ _=>rfl,λ_ h _ _=>h,λh=>h⟩
def pN.trans{S:D Nat}{A h2 ag:R}(I:pN S A h2)(B:pN S h2 ag):pN S A ag:=
 ⟨aR I.bV B.bV,λr w G=>(B.obj r (aP w I.bV) G).trans<|I.obj r w G,λb E s G=>B.low b (I.low b E s G) (aR s I.bV) G,λh=>B.wf<|I.wf h⟩
def pN.later{S:D Nat}{A h2 ag:R}(I:pN S A h2)(B:pN S' h2 ag)(G:∀r∈S',r∈S\/A.bV<=r):pN S A ag:=
 ⟨aR I.bV B.bV,λr w s=>(B.obj r (aP w I.bV) (λh=>by
  rcases G r h with h|h
  .exact s h
  .omega)).trans (I.obj r w s),
  λb M s E=>B.low b (I.low b M s E) (aR s I.bV) (λr w=>by
   rcases G r w with h|h
   .exact E r h
   .omega),λh=>B.wf<|I.wf h⟩
def pN.weaken{S:D Nat}{A h2:R}(h:pN S A h2)(hs:∀r∈S,r∈S'):pN S' A h2:=⟨h.bV,λr w s=>h.obj r w λg=>s<|hs r g,λb E s B=>h.low b E s λr w=>B r<|hs r w,h.wf⟩
def Ext.new(H:R)(o:nI):Ext H (H.new o):=⟨jr _,λr s _=>by rw[xV,jx N],λ_ h _ _=>h,λh=>uW h⟩
def pN.put(H:R)(r:Nat)(o:nI):pN [r] H (H.put r o):=⟨ax _,λq _ w=>by rw[wM,jx λe=>w<|by simp[e]],λb h _ s=>by rw[wN];have:=s r gB;omega,λh=>by rw[wN];show min H.low r<=H.bV;omega⟩
abbrev eF:=Nat×aI×D C
structure SH(S:D Nat)(H0 H:R)(L:D eF):Prop where
 ext:pN S H0 H
 bk:∀e∈L,Bk H e.1 e.2.1 e.2.2
 lo:∀e∈L,(e.1∈S\/H0.bV<=e.1)/\e.1<H.bV
 ne:L.Pairwise λa b=>a.1≠b.1
 wf:H.low<=H.bV
variable{S:D Nat}
def SH.refl{H:R}(s:Wf H):SH [] H H []:=⟨Ext.refl H,(λe h=>by cases h),(λe h=>by cases h),qy,s⟩
def gM:type_of%@SH.refl:=@SH.refl
def SH.yu{L:D eF}(G:SH [] H0 H L){e:eF}(s:e∈L):H0.bV<=e.1:=(G.lo e s).1.resolve_left<|nofun
def SH.get{L:D eF}(G:SH S H0 H L)(i:Nat){r:Nat}(hi:L[i]?=Z (r,ty,F)):Bk H r ty F:=G.bk _<|aT hi
def SH.old{L:D eF}(G:SH [] H0 H L){r:Nat}(s:r<H0.bV):H.cell r o=H0.cell r o:=l8 (G.ext.obj r s gB) o
def SH.grow{L:D eF}(G:SH S H0 H L)(ty:aI)(F:D C):SH S H0 (H.new<|rowOf ty F) ((H.bV,ty,F)::L):=by
 refine⟨G.ext.later (Ext.new _ _)<|nofun,?_,?_,?_,(Ext.new _ _).wf G.wf⟩
 .intro e he;rcases bW.1 he with rfl|he
  .exact Bk.new H ty F
  .exact(G.bk e he).iB (by rw[xV,jx (by have:=(G.lo e he).2;omega)])
 .intro e he;rcases bW.1 he with rfl|he
  .exact⟨.inr G.ext.bV,dI _⟩
  .exact⟨(G.lo e he).1,Nat.lt_succ_of_lt (G.lo e he).2⟩
 .refine List.Pairwise.cons (λe he=>?_) G.ne;have:=(G.lo e he).2;show H.bV≠e.1;omega
def SH.turn{A A' L:D eF}(G:SH S H0 H<|A++L)(M:pN (A.map (·.1)) H Q)(E:∀e∈A',Bk Q e.1 e.2.1 e.2.2/\(e.1∈A.map (·.1)\/H.bV<=e.1)/\e.1<Q.bV)(V:A'.Pairwise λa b=>a.1≠b.1):SH S H0 Q (A'++L):=by
 have U:=nU.1 G.ne;have I:∀r∈A.map (·.1),∃e∈A,e.1=r:=λr O=>om O
 have s:∀e∈L,e.1∉A.map (·.1):=λe he h=>by
  have⟨a,w,B⟩:=I _ h;exact U.2.2 a w e he B
 refine⟨?_,?_,?_,?_,M.wf G.wf⟩
 .refine pN.later G.ext M (λr O=>?_);obtain⟨a,w,rfl⟩:=I r O;exact(G.lo a<|dM _ w).1
 .intro e he;rcases cB.1 he with he|he
  .exact(E e he).1
  .exact(G.bk e<|dL _ he).iB<|M.obj _ (G.lo e<|dL _ he).2<|s e he
 .intro e he;rcases cB.1 he with he|he
  .refine⟨?_,(E e he).2.2⟩;rcases(E e he).2.1 with h|h
   .have⟨a,w,B⟩:=I _ h;rw[<-B];exact(G.lo a<|dM _ w).1
   .have:=G.ext.bV;exact .inr N
  .have:=G.lo e (dL _ he);exact⟨this.1,aP this.2 M.bV⟩
 .refine nU.2 ⟨V,U.2.1,λa w e he=>?_⟩;rcases(E a w).2.1 with h|h
  .exactλB=>s e he (by rw[<-B];exact h)
  .have:=(G.lo e<|dL _ he).2;omega
theorem SH.call{L:D eF}(G:SH S H0 H L)(M:Ext H Q):SH S H0 Q L:=SH.turn (A:=[]) (A':=[]) G M (nofun) qy
def SH.drop{H0 H:R}{A L:D eF}(G:SH S H0 H<|A++L):SH S H0 H L:=SH.turn (A:=A) (A':=[]) G (pN.refl _ _) (nofun) qy
def fV:type_of%@SH.drop:=@SH.drop
def SH.perm{L L':D eF}(G:SH S H0 H L)(w:L.Perm L'):SH S H0 H L':=
 ⟨G.ext,λe s=>G.bk e<|w.mem_iff.2 s,λe s=>G.lo e<|w.mem_iff.2 s,w.pairwise G.ne λh=>h.symm,G.wf⟩
def SH.base{L:D eF}(G:SH S H0 H L):SH (L.map (·.1)) H H L:=
 ⟨pN.refl _ _,G.bk,λe s=>⟨.inl<|bT.2 ⟨e,s,rfl⟩,(G.lo e s).2⟩,G.ne,G.wf⟩
def SH.over{L L':D eF}(G:SH S H0 H L)(h:SH (L.map (·.1)) H Q L'):SH S H0 Q L':=by
 have B:∀r∈L.map (·.1),∃e∈L,e.1=r:=λr w=>om w;refine⟨pN.later G.ext h.ext λr w=>?_,h.bk,λe E=>⟨?_,(h.lo e E).2⟩,h.ne,h.wf⟩
 .obtain⟨a,s,rfl⟩:=B r w;exact(G.lo a s).1
 .rcases(h.lo e E).1 with I|I
  .have⟨a,s,e1⟩:=B _ I;rw[<-e1];exact(G.lo a s).1
  .have:=G.ext.bV;exact .inr N
def SH.lt{L:D eF}(G:SH S H0 H L):∀r∈L.map (·.1),r<H.bV:=λr w=>by
 obtain⟨e,s,rfl⟩:=bT.1 w;exact(G.lo e s).2
def SH.weaken{L:D eF}(G:SH S H0 H L)(h:∀r∈S,r∈S'):SH S' H0 H L:=
 ⟨G.ext.weaken h,G.bk,λe s=>⟨(G.lo e s).1.imp_left<|h _,(G.lo e s).2⟩,G.ne,G.wf⟩
section steps
variable{L:D eF}
def SH.box(G:SH S H0 H L){x:C}(M:rP x=f)(k:∀H1 r,SH S H0 H1 ((r,ty,cr x)::L)->K (.pointer<|Z ⟨r,0,T⟩) H1):ME (LU ty x H) K:=by
 unfold LU;rw[M];exact k _ _<|G.grow ty<|cr x
def SH.jM(G:SH S H0 H L){z:D C}(k:∀H1 r,SH S H0 H1 ((r,ty,z)::L)->K (.pointer<|Z ⟨r,0,T⟩) H1):ME (Go.Ae.jM ty z H) K:=k _ _<|G.grow ty z
def ME.ld{r o:Nat}{v:C}(h:H.cell r o=Z v)(k:K v H):ME (yh T (.pointer<|Z ⟨r,o,T⟩) H) K:=by
 show ME (aN (H.cell r o) λv=>Z (v,H)) K;rw[h];exact k
def iV:type_of%@ME.ld:=@ME.ld
def ME.uE{r:Nat}(h:H.read r o n=Z vs)(k:K (.agg ⟨vs⟩) H):ME (yh (Z n) (.pointer<|Z ⟨r,o,T⟩) H) K:=by
 show ME (aN (H.read r o n) λvs=>Z (.agg ⟨vs⟩,H)) K;rw[h];exact k
def SH.ld(G:SH S H0 H L)(i:Nat){r o:Nat}{ty:aI}{F:D C}{v:C}(hi:L[i]?=Z (r,ty,F))(s:F[o]?=Z v)(k:K v H):ME (yh T (.pointer<|Z ⟨r,o,T⟩) H) K:=iV ((G.get i hi).cell s) k
def SH.uE(G:SH S H0 H L)(i:Nat){r:Nat}(hi:L[i]?=Z (r,ty,F))(s:o+n<=u F)(k:K (.agg ⟨(F.drop o).take n⟩) H):ME (yh (Z n) (.pointer<|Z ⟨r,o,T⟩) H) K:=ME.uE ((G.get i hi).read s) k
def SH.CJ(G:SH [] H0 H L){r:Nat}(h:H0.cell r o=Z v)(s:r<H0.bV)(k:K v H):ME (yh T (.pointer<|Z ⟨r,o,T⟩) H) K:=iV ((G.old s).trans h) k
def SH.BN(G:SH [] H0 H L){r:Nat}(h:H0.read r o n=Z vs)(s:r<H0.bV)(k:K (.agg ⟨vs⟩) H):ME (yh (Z n) (.pointer<|Z ⟨r,o,T⟩) H) K:=ME.uE ((xD (G.ext.obj r s gB) o n).trans h) k
def My:∀{l:D α}{i:Nat}(h:i<u l),(l[i]::l.eraseIdx i).Perm l:=by
 intro l
 induction l with
 |nil=>intro i h;cases h
 |cons x l s=>
  intro i h;cases i with
  |zero=>exact rW _
  |succ i=>exact(iF x _ _).trans<|(s<|om h).cons x
def SH.zV(G:SH S H0 H L)(i:Nat){r:Nat}(hi:L[i]?=Z (r,ty,F))(hn:o+u vs<=u F)(hk:all' gI vs=f):
 ∃H1,H.write r o vs=Z H1/\SH S H0 H1 (L.set i (r,ty,splice F o vs))/\pN [r] H H1:=by
 have s:i<u L:=(bK.1 hi).1;have O:L[i]=(r,ty,F):=(bK.1 hi).2;have⟨H1,I,B,h3,h4,h5⟩:=(G.get i hi).write hn hk
 have M:pN [r] H H1:=⟨N,λq _ w=>h4 q λe=>w<|by simp[e],λb V _ W=>by
  have:=W r gB;rcases h5 with h5|h5<;>omega,λh=>by rcases h5 with h5|h5<;>omega⟩
 refine⟨H1,I,?_,M⟩;have hp:L.Perm ((r,ty,F)::L.eraseIdx i):=by rw[<-O];exact(My s).symm
 have E:SH S H0 H ([(r,ty,F)]++L.eraseIdx i):=G.perm hp
 have wu:=SH.turn (A':=[(r,ty,splice F o vs)]) E M (λe U=>by
  rw[aS]at U;subst U;refine⟨B,.inl gB,?_⟩;have:=(G.lo _<|aT hi).2;show r<H1.bV;omega) (jE _ _)
 apply wu.perm;have:(L.set i (r,ty,splice F o vs)).eraseIdx i=L.eraseIdx i:=by rw[List.eraseIdx_set_eq]
 have V:i<u (L.set i (r,ty,splice F o vs)):=om s;have Y:(L.set i (r,ty,splice F o vs))[i]=(r,ty,splice F o vs):=gB;have w:=My V;rw[Y,this]at w;exact w
def SH.st(G:SH S H0 H L)(i:Nat){r:Nat}(hi:L[i]?=Z (r,ty,F))(hl:u (cr v)=n)(s:o+n<=u F)(hk:all' gI (cr v)=f)(k:∀H1,SH S H0 H1 (L.set i (r,ty,splice F o<|cr v))->K undef H1):ME (GU n (.pointer<|Z ⟨r,o,T⟩) v H) K:=by
 have⟨H1,I,B,_⟩:=G.zV (vs:=cr v) (o:=o) i hi N hk;show ME (gd (aB (len<|cr v) n)<|aN (H.write r o<|cr v) λQ=>Z (undef,Q)) K;rw[h_,hl,dW,I];exact k H1 B
end steps
def iU(h:H.low<=H.bV):hM H (hN H)=H:=by
 show R.mk H.xI H.bV (b_ (aD H.low H.bV) H.low H.bV)=H;rw[aH h];rfl
def oC(H:R):Wf (hN H):=ax _
def Jj(a b:Nat):pV a b=min a b:=by
 show b_ (aD a b) a b=_;cases h:aD a b with
 |true=>rw[oU,jF<|aF h]
 |false=>
  have:¬a<=b:=λg=>by rw[aH g]at h;cases h
  rw[lK,vZ N]
def pN.draw(M:pN S (hN H) Q):pN S H (hM H Q):=
 ⟨M.bV,M.obj,λb B s w=>by show b<=pV H.low Q.low;rw[Jj];have:=M.low b s s w;omega,λh=>by show pV H.low Q.low<=Q.bV;rw[Jj];have:H.bV<=Q.bV:=M.bV;omega⟩
def SH.oD{L:D eF}(G:SH S H0 H L)(M:Ext (hN H) Q):SH S H0 (hM H Q) L:=G.call M.draw
def eZ(n r o:Nat)(H:R):clL n (.pointer<|Z ⟨r,o,T⟩) H (hN H)=⟨4,r,o,n,hh0,hh0⟩:=by
 show b_ (aD H.bV H.bV) _ _=_;rw[aH (ax _)];rfl
def fP(M:Ext (hN H) Q):CG H Q=cl 1:=by
 show b_ (aD H.bV Q.low) _ _=_;rw[aH (M.low H.bV (ax _) (ax _)<|nofun)];rfl
def xW(M:Ext (hN H) Q):N9 H Q=cl 5:=by
 show b_ (aD H.bV Q.low) _ _=_;rw[aH (M.low H.bV (ax _) (ax _)<|nofun)];rfl
def gN(r o:Nat)(v:C)(H Q:R):clS (.pointer<|Z ⟨r,o,T⟩) v H Q=⟨3,r,o,len<|cr v,hh0,hh0⟩:=rfl
def JU(h:noTwo cls=f):kY ops cls=f:=by
 unfold kY;rw[h];rfl
end
variable{L L' hx M' gb:D eF}
section
variable{S:D Nat}
abbrev vi(n:Int):C:=.int .i64 n
abbrev W(n:Nat):C:=.int .i64 (n:Int)
def Fh(a b:Int):Oc a b=decide (a<b):=by
 cases a with
 |ofNat m=>cases b with
  |ofNat n=>show aD (dh m) n=_;rw[fM,Nat.ble_eq];simp;omega
  |negSucc n=>show aA=_;symm;simp;omega
 |negSucc m=>cases b with
  |ofNat n=>show f=_;symm;simp;omega
  |negSucc n=>show aD (dh n) m=_;rw[fM,Nat.ble_eq];simp;omega
def Br(a b:Int):FI a b=decide (a=b):=by
 cases a with
 |ofNat m=>cases b with
  |ofNat n=>show aB m n=_;rw[fM,kS];simp;omega
  |negSucc n=>show aA=_;symm;simp
 |negSucc m=>cases b with
  |ofNat n=>show aA=_;symm;simp
  |negSucc n=>show aB m n=_;rw[fM,kS];simp
def yO{n:Int}(I:-9223372036854775808<=n)(B:n<=9223372036854775807):p_ .i64 n=n:=by
 cases n with
 |ofNat m=>
  show b_ (FH .i64&&aD m 9223372036854775807) (Int.ofNat m) _=_
  rw[show(FH .i64&&aD m 9223372036854775807)=f from by
   rw[show FH .i64=f from O,nS];exact aH (by have:(m:Int)<=9223372036854775807:=B;omega)];rfl
 |negSucc m=>
  show b_ (FH .i64&&aD m 9223372036854775807) (Int.negSucc m) _=_
  rw[show(FH .i64&&aD m 9223372036854775807)=f from by
   rw[show FH .i64=f from O,nS];exact aH N];rfl
section bin
variable{P:aX}{a b:Int}{k:f_}
def Da:aB (sQ k) (sQ k)=f:=dW _
def nY{op:tH}(hs:K8 op=aA)(h:Zl op k a b=Z v):mW P op t ox oy (.int k a) (.int k b)=Z v:=by
 show b_ (K8 op) (aa5 op t (.int k a)<|.int k b) (gd (aB (sQ k)<|sQ k)<|Zl op k a b)=_;rw[hs,Da];exact h
def Tf:mW P .lss t ox oy (.int k a) (.int k b)=Z (.bool<|decide<|a<b):=nY O (by show Z (aO<|Oc a b)=_;rw[Fh])
def Tg:mW P .gtr t ox oy (.int k a) (.int k b)=Z (.bool<|decide<|b<a):=nY O (by show Z (aO<|Oc b a)=_;rw[Fh])
def Ti:mW P .leq t ox oy (.int k a) (.int k b)=Z (.bool<|decide<|a<=b):=nY O (by
 show Z (aO<|!(Oc b a))=_;rw[Fh,<-decide_not];simp[Int.not_lt])
def Cj:mW P .geq t ox oy (.int k a) (.int k b)=Z (.bool<|decide<|b<=a):=nY O (by
 show Z (aO<|!(Oc a b))=_;rw[Fh,<-decide_not];simp[Int.not_lt])
def Tj:mW P .eql t ox oy (.int k a) (.int k b)=Z (.bool<|decide<|a=b):=nY O (by show Z (aO<|FI a b)=_;rw[Br])
def Tm:mW P .neq t ox oy (.int k a) (.int k b)=Z (.bool<|!decide (a=b)):=nY O (by show Z (aO<|!(FI a b))=_;rw[Br])
def gm(I:-9223372036854775808<=a+b)(B:a+b<=9223372036854775807):mW P .add t ox oy (vi a) (vi b)=Z (vi<|a+b):=nY O (by show Z (a_ .i64<|p_ .i64<|a+b)=_;rw[yO I B])
def qP(I:-9223372036854775808<=a-b)(B:a-b<=9223372036854775807):mW P .sub t ox oy (vi a) (vi b)=Z (vi<|a-b):=nY O (by show Z (a_ .i64<|p_ .i64<|a-b)=_;rw[yO I B])
def acp(I:-9223372036854775808<=a*b)(B:a*b<=9223372036854775807):mW P .mul t ox oy (vi a) (vi b)=Z (vi<|a*b):=nY O (by show Z (a_ .i64<|p_ .i64<|a*b)=_;rw[yO I B])
end bin
def Tn(b:Bool):lD (Op.unary .not<|.bool b)=Z (.bool !b):=rfl
def min2(k:f_)(a b:Int):U5 aA [.int k a,.int k b]=Z (.int k<|min a b):=by
 show aN (gd (aB (sQ k)<|sQ k)<|Z<|b_ (Oc b a) (a_ k b)<|a_ k a) Z=_;rw[Da,Bh,LG,Fh]
 by_cases h:b<a
 .rw[bY h,oU,Int.min_eq_right N]
 .rw[dQ h,lK,Int.min_eq_left N]
def max2(k:f_)(a b:Int):U5 f [.int k a,.int k b]=Z (.int k<|max a b):=by
 show aN (gd (aB (sQ k)<|sQ k)<|Z<|b_ (Oc a b) (a_ k b)<|a_ k a) Z=_;rw[Da,Bh,LG,Fh]
 by_cases h:a<b
 .rw[bY h,oU,Int.max_eq_right N]
 .rw[dQ h,lK,Int.max_eq_left N]
def MB(b:Bool):kT (.bool b)=Z b:=rfl
def X9(off r o:Nat):fld off (.pointer<|Z ⟨r,o,T⟩)=Z (.pointer<|Z ⟨r,o+off,T⟩):=rfl
def Tp(a:Addr):Qc (.pointer<|Z a)=Z (.pointer<|Z a):=rfl
def X_(a:aC Addr)(n c:Nat):ak1 (J a n c)=Z (W n):=rfl
def Tq(s:aZ):ak2 (.string s)=Z (W s.size):=by
 show Z (a_ .i64<|Int.ofNat<|len s.data.toList)=_;rw[h_];rfl
def uK{r:Nat}(h:k<n):BS es (J (Z ⟨r,o,T⟩) n c) (W k)=Z (.pointer<|Z ⟨r,o+k*es,T⟩):=by
 show gd (aD (dh k) n) (Z<|bG<|Z ⟨r,bq o<|bP k es,T⟩)=_;rw[aH h];rfl
def uP{s:aZ}(h:k<s.size):idS (.string s) (W k)=Z (.int .u8 ((s.data.toList[k]'(om h)).toNat:Int)):=by
 show(aN (nth s.data.toList k) λb=>Z<|a_ .u8<|.ofNat b.toNat)=_;rw[qw,av<|om h];rfl
def Fl(H:R)(a:aC Addr)(n es:Nat)(F:D C):Prop:=
 u F=n*es/\∀(i:Nat)(x:C),F[i]?=Z x->∃r o,a=Z ⟨r,o,T⟩/\r<H.bV/\H.cell r (o+i)=Z x
def Fl.ext{S:D Nat}{H Q:R}{a:aC Addr}{n es:Nat}{F:D C}(h:Fl H a n es F)(M:pN S H Q)(G:∀r o,a=Z ⟨r,o,T⟩->r∉S):Fl Q a n es F:=
 ⟨h.1,λi x hi=>by
   have⟨r,o,I,B,h3⟩:=h.2 i x hi;exact⟨r,o,I,aP B M.bV,(l8 (M.obj r B<|G r o I) _).trans h3⟩⟩
def Fl.ex(h:Fl H a n es F)(M:Ext H Q):Fl Q a n es F:=h.ext M<|nofun
def Fl.nil(H:R)(a:aC Addr)(es:Nat):Fl H a 0 es []:=⟨gB,λi x h=>by simp at h⟩
def Fl.idx(h:Fl H a n es F)(w:0<es)(hk:k<n):
 ∃r o,BS es (J a n c) (W k)=Z (.pointer<|Z ⟨r,o,T⟩)/\r<H.bV/\(∀ay x,ay<es->F[k*es+ay]?=Z x->H.cell r (o+ay)=Z x)/\(∃s,a=Z ⟨r,s,T⟩/\o=s+k*es):=by
 have E:k*es<u F:=by rw[h.1];exact Nat.mul_lt_mul_of_pos_right hk w
 obtain⟨r,o,rfl,B,I⟩:=h.2 (k*es) _<|av E;refine⟨r,o+k*es,uK hk,B,λay x N M=>?_,o,rfl,rfl⟩;have⟨r',o',h4,_,h5⟩:=h.2 _ _ M;cases h4;rw[Nat.add_assoc];exact h5
def Bk.fl{r:Nat}(h:Bk H r ty F)(w:r<H.bV)(s:u F=n*es):Fl H (Z ⟨r,0,T⟩) n es F:=
 ⟨s,λi x hi=>⟨r,0,rfl,w,by rw[bB];exact h.cell hi⟩⟩
abbrev gq(l:D Nat):D C:=l.map W
abbrev bools(l:D Bool):D C:=l.map aO
def jV(ay:α->C){l:D α}{x:α}(h:l[i]?=Z x):(l.map ay)[i]?=Z (ay x):=by rw[bL,h];rfl
def Pp(z:D C)(n:Nat):u (qd z n)=n*u z:=by
 induction n with
 |zero=>show([]:D C).length=_;simp
 |succ n s=>show u (app z<|qd z n)=_;rw[uH,aU,s,jN];omega
def nC(x:C)(n:Nat):qd [x] n=aY n x:=by
 induction n with
 |zero=>rfl
 |succ n s=>show app [x] (qd [x] n)=_;rw[uH,s];rfl
def SH.mkS(G:SH S H0 H L){z:D C}(w:n<=m)(s:m<=16777216)(k:∀H1 r,SH S H0 H1 ((r,e,qd z m)::L)->K (J (Z ⟨r,0,T⟩) n m) H1):ME (Go.Ae.mkS e z (W n) (W m) H) K:=by
 show ME (gd (aD n m&&aD m 16777216&&f)<|Z (J (Z ⟨H.bV,0,T⟩) n m,H.new<|rowOf e<|qd z m)) K;rw[aH w,aH s];exact k _ _<|G.grow e _
def SH.sub(G:SH S H0 H L)(h:L'.Sublist L):SH S H0 H L':=
 ⟨G.ext,λe s=>G.bk e<|h.mem s,λe s=>G.lo e<|h.mem s,G.ne.sublist h,G.wf⟩
def SH.cast(G:SH S H0 H L)(h:L=L'):SH S H0 H L':=h▸G
def SH.to{r:Nat}{cs':D C}(G:SH S H0 H<|(r,ty,F)::L)(h:F=cs'):SH S H0 H ((r,ty,cs')::L):=h▸G
def qQ(ay:α->C){l:D α}(hk:k<u l)(x:α):splice (l.map ay) k [ay x]=(l.set k x).map ay:=by
 apply iQ;intro i;rw[sN N7,bL,bL,dX]
 by_cases h:k=i
 .subst h;rw[jj ⟨ax _,gB⟩,jj O,jj hk,kJ];rfl
 .rw[jx N7,jx h]
end
section
variable{S:D Nat}
def bS(e:aI)(z:D C)(es n:Nat)(ps:D<|Nat×C)(H:R):aC (C×R):=
 gd (aD (bP n es) 16777216) (aN (FJ (λk=>Z (bP k es,es)) ps<|qd z n) λF=>Z (J (Z ⟨H.bV,0,T⟩) n n,H.new<|rowOf e F))
def bld(pl:D<|Nat×Nat)(z:D C)(ps:D<|Nat×C):aC C:=aN (FJ (nth pl) ps z) λF=>Z<|.agg ⟨F⟩
def PU.of{o:aC C}{v:C}{K:C->Prop}(h:o=Z v)(k:K v):PU o K:=by rw[h];exact k
def dA:type_of%@PU.of:=@PU.of
def ME.of{o:aC (C×R)}{v:C}{H:R}{K:C->R->Prop}(h:o=Z (v,H))(k:K v H):ME o K:=by rw[h];exact k
def acr:∀(vs:D C)(k:Nat)(F:D C),k+u vs<=u F->I6 vs k F=splice F k vs:=by
 intro vs
 induction vs with
 |nil=>
  intro k F h;show F=_;unfold splice;simp
 |cons v vs E=>
  intro k F h
  have s:∀(k:Nat)(F:D C),setAt v k F=F.set k v:=by
   intro k
   induction k with
   |zero=>intro F;cases F<;>rfl
   |succ k w=>intro F;cases F with
    |nil=>rfl
    |cons c F=>exact eY (c::·)<|w F
  show I6 vs (dh k) (setAt v k F)=_;simp only[cO]at h;rw[s,E (k+1) _ N7];apply iQ;intro i;rw[sN N7,sN N7,dX]
  by_cases I:i=k
  .subst I;rw[jx N,jj O,jj N,jj ⟨ax _,gB⟩];simp
  .by_cases B:k+1<=i/\i<k+1+u vs
   .rw[jj B,jj N7,show i-k=(i-(k+1))+1 by omega];simp
   .rw[jx B,jx λe=>I e.symm,jx (by simp only[cO];omega)]
def oF(F vs:D C)(h:u F=u vs):splice F 0 vs=vs:=by
 unfold splice;rw[rJ N];simp
def QH{z:D C}(hz:u z=es)(E:rP v=f)(w:u (cr v)=es)(I:es<=16777216):
 bS e z es 1 [(0,v)] H=Z (J (Z ⟨H.bV,0,T⟩) 1 1,H.new<|rowOf e<|cr v):=by
 have B:qd z 1=z:=by show app z []=z;rw[uH,bF]
 unfold bS;rw[aH (by show 1*es<=_;omega),B];show(aN (gd (rP v&&aB (len<|cr v) es&&aD (bq (bP 0 es) es) (len z))<|Z<|I6 (cr v) (bP 0 es) z) λF=>Z (J (Z ⟨H.bV,0,T⟩) 1 1,H.new<|rowOf e F))=_;have s:bP 0 es=0:=jq es;rw[E,h_,w,dW,h_,hz,s];rw[show aD (bq 0 es) es=f from aH (by show 0+es<=es;omega),acr _ _ _ N,oF _ _ N];rfl
def zo{r:Nat}{xs:D C}(h:Bk H r ty xs)(hk:u xs=k*es):appended H es (J (Z ⟨r,0,T⟩) k c)=Z (k,xs):=by
 show(aN (H.read r 0<|bP k es) λl=>Z (k,l))=_
 have:H.read r 0 (bP k es)=Z xs:=by
  rw[h.read (by show 0+k*es<=_;omega)];simp only[jQ];rw[dV (by show u xs<=k*es;omega)]
 rw[this];rfl
def QI{x:C}{xs:D C}(s:appended H es x=Z (k+1,xs))(hk:k+1<=16777216):
 Ch e es (J T 0 0) x H=Z (J (Z ⟨H.bV,0,T⟩) (k+1)<|gK es,H.new<|rowOf e xs):=by
 unfold Ch;show(aN (appended H es x) λr=>gd (aD r.1 16777216)<|Si (e,es) (J T 0 0) (T,0,0) r.1 r.2 H)=_;rw[s];show gd (aD (k+1) 16777216) _=_;rw[aH hk];rfl
def Af(es:Nat):gZ (gK es)=aA:=by
 show aD (18446744073709551616+es) 9223372036854775807=aA;rw[<-dw];intro h;have:=aF h;omega
theorem QJ{r:Nat}{x:C}{fE xs:D C}(he:0<es)(V:Bk H r e<|F++fE)(hr:r<H.bV)(hn:u F=n*es)(ha:appended H es x=Z (k+1,xs))(M:u xs=(k+1)*es)(U:all' gI xs=f)(hk:k+1<=16777216)(al:n<=16777216):
 ∃r' Q FN,Ch e es (J (Z ⟨r,0,T⟩) n<|gK es) x H=Z (J (Z ⟨r',0,T⟩) (n+(k+1))<|gK es,Q)/\Bk Q r' e (F++xs++FN)/\(r'=r\/r'=H.bV)/\r'<Q.bV/\pN [r] H Q/\(Q.low<=r):=by
 have ac:Ch e es (J (Z ⟨r,0,T⟩) n<|gK es) x H=uj (e,es) ⟨r,0,T⟩ n (gK es) (k+1) xs H:=by
  unfold Ch;show(aN (appended H es x) λq=>gd (aD q.1 16777216)<|Si (e,es) (J (Z ⟨r,0,T⟩) n<|gK es) (Z ⟨r,0,T⟩,n,gK es) q.1 q.2 H)=_;rw[ha];show gd (aD (k+1) 16777216) (gd (aD n 16777216)<|b_ (gZ<|gK es) _<|gd (aB (gK es)<|gK es)<|uj (e,es) ⟨r,0,T⟩ n (gK es) (k+1) xs H)=_;rw[aH hk,aH al,Af,dW];rfl
 rw[ac];have⟨az,I,B,h3,h4,h5,h6⟩:=id V;have Y:(n+(k+1))*es=n*es+(k+1)*es:=iH ..
 have E:u (F++fE)=n*es+u fE:=by rw[aU,hn]
 have am:uj (e,es) ⟨r,0,T⟩ n (gK es) (k+1) xs H=b_ (aD (bq 0<|bP (bq n<|k+1) es) az.n)
  (aN (H.write r (bq 0<|bP n es) xs) λQ=>Z (J (Z ⟨r,0,T⟩) (bq n<|k+1)<|gK es,Q))
  (gd (aD (bq 0<|bP n es) az.n&&aD az.fz (bq 0<|bP n es)&&all' gI xs)
   (Z (J (Z ⟨H.bV,0,T⟩) (bq n<|k+1)<|gK es,
    (H.put r .dead).new (.row ⟨az.ty,Tr.uS top xs (bq 0<|bP n es) az.cells,bq 0<|bP (bq n<|k+1) es,aA,az.fz⟩)))):=by
  unfold uj;show(aN (xH<|H.obj r) _)=_;rw[I];show gd (aB az.ty e&&!az.mR) _=_;rw[B,dW,h4];rfl
 rw[am];have e1:bq 0 (bP n es)=n*es:=bB _;have e2:bq 0 (bP (bq n<|k+1) es)=n*es+(k+1)*es:=(bB _).trans Y;rw[e1,e2,h3,E]
 by_cases hc:n*es+(k+1)*es<=n*es+u fE
 .rw[aH hc,oU];have⟨H1,w1,w2,w3,w4,w5⟩:=V.write (o:=n*es) (vs:=xs) (by rw[E];omega) U;rw[w1]
  have W:H1.low<=r:=by
   rcases w5 with w5|w5
   .omega
   .
    cases xs with
    |nil=>
     have h0:0<(k+1)*es:=uX N he;rw[<-M]at h0;cases h0
    |cons v s=>
     have:H.write r (n*es) (v::s)=Z (H.put r<|.row ⟨az.ty,Tr.uS top (v::s) (n*es) az.cells,az.n,aA,az.fz⟩):=by
      show(aN (xH<|H.obj r) λw=>gd (!w.mR&&aD (bq (n*es)<|len<|v::s) w.n&&aD w.fz (n*es)&&all' gI (v::s))<|Z<|H.put r<|.row ⟨w.ty,Tr.uS top (v::s) (n*es) w.cells,w.n,aA,w.fz⟩)=_;rw[I];show gd (!az.mR&&aD (bq (n*es)<|len<|v::s) az.n&&aD az.fz (n*es)&&all' gI (v::s)) _=_;rw[U,h4,h3,h5,h_,aH (by show n*es+(v::s).length<=_;rw[E];omega),aH<|bD _];rfl
     rw[this]at w1;cases w1;rw[wN];omega
  refine⟨r,H1,fE.drop<|u xs,O,?_,.inl O,N,⟨N,λq _ hq=>w4 q λe=>hq<|by simp[e],λb hl _ V=>by
   have:=V r gB;rcases w5 with w5|w5<;>omega,λh=>by rcases w5 with w5|w5<;>omega⟩,W⟩
  have:splice (F++fE) (n*es) xs=F++xs++fE.drop (u xs):=by
   unfold splice;rw[<-hn,xM,List.drop_append,rJ N,bX,kM]
  rw[<-this];exact w2
 .have ad:aD (n*es+(k+1)*es) (n*es+u fE)=aA:=by
   rw[<-dw];intro h;exact hc<|aF h
  rw[ad,lK,aH (by omega:n*es<=n*es+u fE),h5,aH<|bD _,U];refine⟨H.bV,_,[],O,?_,.inr O,dI _,⟨jr _,λq hq ab=>?_,λb hl ab V=>?_,λh=>?_⟩,?_⟩
  .refine⟨⟨az.ty,Tr.uS top xs (n*es) az.cells,n*es+(k+1)*es,aA,az.fz⟩,by rw[xV,jj (show H.bV=(H.put r nI.dead).bV from O),h5],B,by simp;omega,rfl,h5,λi hi=>?_⟩;show(Tr.uS top xs (n*es) az.cells).get top i=_;rw[Tr.oh];have an:i<n*es+(k+1)*es:=by simp at hi;omega
   by_cases hc':n*es<=i/\i<n*es+u xs
   .rw[jj hc',aW,av N];simp only[bF,p9];rw[List.getElem_append_right N];congr 1;omega
   .rw[jx hc'];have ao:i<n*es:=N;rw[h6 i (by rw[E];omega)];simp only[bF];rw[jy N,jy N]
  .rw[xV,jx (by show q≠H.bV;omega),wM,jx λe=>ab<|by simp[e]]
  .show b<=(H.put r nI.dead).low;rw[wN];have:=V r gB;omega
  .show(H.put r nI.dead).low<=H.bV+1;rw[wN];omega
  .show(H.put r nI.dead).low<=r;rw[wN];omega
section steps
theorem SH.zq(G:SH S H0 H L)(ty:aI)(F:D C):SH S H0 (hM H<|(Go.Ae.hN H).new<|rowOf ty F) ((H.bV,ty,F)::L):=by
 have M:Ext (Go.Ae.hN H) ((Go.Ae.hN H).new<|rowOf ty F):=Ext.new _ _;refine SH.turn (A:=[]) (A':=[(H.bV,ty,F)]) G M.draw (λe s=>?_)<|jE _ _;rw[aS]at s;subst s;exact⟨Bk.new (Go.Ae.hN H) ty F,.inr<|ax _,dI _⟩
def SH.R4(G:SH S H0 H L){z:D C}(hz:u z=es)(B:rP v=f)(s:u (cr v)=es)(w:es<=16777216)(k:∀H1 r,SH S H0 (hM H H1) ((r,e,cr v)::L)->N9 H H1=cl 5->K (J (Z ⟨r,0,T⟩) 1 1) H1):ME (bS e z es 1 [(0,v)]<|Go.Ae.hN H) K:=by
 rw[QH hz B s w];exact k _ _ (G.zq e _)<|xW<|Ext.new _ _
def SH.bS(G:SH S H0 H L){z:D C}(hz:u z=es)(B:rP v=f)(s:u (cr v)=es)(w:es<=16777216)(k:∀H1 r,SH S H0 H1 ((r,e,cr v)::L)->K (J (Z ⟨r,0,T⟩) 1 1) H1):ME (Go.Ae.bS e z es 1 [(0,v)] H) K:=by
 rw[QH hz B s w];exact k _ _<|G.grow e _
end steps
end
section
variable{S:D Nat}
def GB(ty:aI)(es:Nat)(v:C)(F:D C)(gb:D eF):Prop:=
 (v=J T 0 0/\F=[]/\gb=[])\/∃r n s,v=J (Z ⟨r,0,T⟩) n (gK es)/\u F=n*es/\gb=[(r,ty,F++s)]
def GB.nil(ty:aI)(es:Nat):GB ty es (J T 0 0) [] []:=.inl ⟨O,O,O⟩
section steps
variable{xs:D C}
def Ya(h:Q.low<H.bV):CG H Q=⟨2,0,0,0,H,Q⟩:=by
 show b_ (aD H.bV Q.low) _ _=_;rw[show aD H.bV Q.low=aA from by rw[<-dw];intro g;have:=aF g;omega];rfl
def GB.app(hg:GB ty es v F gb)(G:SH S H0 H<|(rx,ty,xs)::(gb++L))(W:0<es)(M:u xs=(m+1)*es)(U:all' gI xs=f)(Y:m+1<=16777216)(hc:u F<=16777216):
 ∃v' H1 iX,Ch ty es v (J (Z ⟨rx,0,T⟩) (m+1) cx) H=Z (v',H1)/\GB ty es v' (F++xs) iX/\SH S H0 H1 (iX++L)/\pN (gb.map (·.1)) H H1:=by
 have E:=G.get 0 O;have V:=zo (k:=m+1) (c:=cx) E M;have s:SH S H0 H (gb++L):=fV (A:=[(rx,ty,xs)]) G;rcases hg with⟨rfl,rfl,rfl⟩|⟨r,n,fE,rfl,hn,rfl⟩
 .refine⟨_,_,[(H.bV,ty,xs)],QI V Y,.inr ⟨H.bV,m+1,[],O,M,gB⟩,s.grow ty xs,Ext.new _ _⟩
 .have hb:=s.get 0 O;have hr:=(s.lo _<|aK ..).2
  have N:n<=16777216:=by
   have:n*1<=n*es:=g_ n W;omega
  have⟨r',H1,FN,I,B,h3,h4,h5,h6⟩:=QJ W hb hr hn V M U Y N;refine⟨_,H1,[(r',ty,F++xs++FN)],I,.inr ⟨r',n+(m+1),FN,O,?_,O⟩,?_,h5⟩
  .rw[aU,hn,M,<-iH]
  .refine SH.turn (A:=[(r,ty,F++fE)]) s h5 (λe w=>?_) (jE _ _);rw[aS]at w;subst w;refine⟨B,?_,h4⟩;rcases h3 with h3|h3
   .exact .inl (by simp[h3])
   .exact .inr (by show H.bV<=r';omega)
def GB.add(O:GB ty es v F gb)(G:SH S H0 H<|(rx,ty,xs)::(gb++L))(E:0<es)(M:u xs=es)(s:all' gI xs=f)(w:u F<=16777216)(k:∀v' H1 iX,GB ty es v' (F++xs) iX->SH S H0 H1 (iX++L)->pN (gb.map (·.1)) H H1->K v' H1):ME (Ch ty es v (J (Z ⟨rx,0,T⟩) 1 cx) H) K:=by
 have⟨v',H1,iX,I,B,h3,h4⟩:=O.app (m:=0) (cx:=cx) G E N s N w;rw[I];exact k v' H1 iX B h3 h4
def SH.Bt(G:SH S H0 H L):SH S (Go.Ae.hN H0) (Go.Ae.hN H) L:=
 ⟨⟨G.ext.bV,G.ext.obj,λb w s _=>aR s G.ext.bV,λ_=>ax _⟩,G.bk,G.lo,G.ne,ax _⟩
def GB.KB(hg:GB ty es v F gb)(G:SH S H0 H<|(rx,ty,xs)::(gb++L))(he:0<es)(M:u xs=es)(ab:all' gI xs=f)(hc:u F<=16777216)(k:∀v' H1 iX,GB ty es v' (F++xs) iX->SH S H0 (hM H H1) (iX++L)->pN (gb.map (·.1)) H (hM H H1)->(∀r,r<H.bV->r∉gb.map (·.1)->H1.obj r=H.obj r)->(CG H H1=cl 1\/CG H H1=⟨2,0,0,0,H,H1⟩)->K v' H1):ME (Ch ty es v (J (Z ⟨rx,0,T⟩) 1 cx)<|Go.Ae.hN H) K:=by
 have ac:SH [] (Go.Ae.hN H) (Go.Ae.hN H) []:=gM<|ax _;have W:=G.get 0 O;have ha:appended (Go.Ae.hN H) es (J (Z ⟨rx,0,T⟩) (0+1) cx)=Z (0+1,xs):=zo (H:=Go.Ae.hN H) (k:=0+1) W N;have s:SH S H0 H (gb++L):=fV (A:=[(rx,ty,xs)]) G
 have w:∀H1:R,CG H H1=cl 1\/CG H H1=⟨2,0,0,0,H,H1⟩:=by
  intro H1;show b_ (aD H.bV H1.low) _ _=_\/b_ (aD H.bV H1.low) _ _=_;cases aD H.bV H1.low with
  |true=>exact .inl O
  |false=>exact .inr O
 rcases hg with⟨rfl,rfl,rfl⟩|⟨r,n,fE,rfl,hn,rfl⟩
 .rw[show Ch ty es (J T 0 0) (J (Z ⟨rx,0,T⟩) 1 cx) (Go.Ae.hN H)=_ from QI ha N];have V:Ext (Go.Ae.hN H) ((Go.Ae.hN H).new<|rowOf ty xs):=Ext.new _ _;exact k _ _ [(H.bV,ty,xs)] (.inr ⟨H.bV,1,[],O,by simp;omega,gB⟩) (s.zq ty xs) V.draw (λq hq U=>V.obj q hq gB)<|w _
 .have hb:Bk (Go.Ae.hN H) r ty (F++fE):=s.get 0 O;have hr:=(s.lo _<|aK ..).2
  have Y:n<=16777216:=by
   have:n*1<=n*es:=g_ n he;omega
  have⟨r',H1,FN,I,B,h3,h4,h5,h6⟩:=QJ he hb hr hn ha N ab N Y;rw[show Ch ty es (J (Z ⟨r,0,T⟩) n<|gK es) (J (Z ⟨rx,0,T⟩) 1 cx) (Go.Ae.hN H)=_ from I];refine k _ H1 [(r',ty,F++xs++FN)] (.inr ⟨r',n+(0+1),FN,O,?_,O⟩) ?_ h5.draw (λq hq U=>h5.obj q hq U)<|w _
  .rw[aU,hn,M,iH];omega
  .refine SH.turn (A:=[(r,ty,F++fE)]) s h5.draw (λe E=>?_) (jE _ _);rw[aS]at E;subst E;refine⟨B,?_,h4⟩;rcases h3 with h3|h3
   .exact .inl (by simp[h3])
   .exact .inr (by show H.bV<=r';rw[h3];exact ax _)
def GB.fl(w:GB ty es v F gb)(G:SH S H0 H<|gb++L):∃a n c,v=J a n c/\u F=n*es/\Fl H a n es F:=by
 rcases w with⟨rfl,rfl,rfl⟩|⟨r,n,B,rfl,s,rfl⟩
 .exact⟨T,0,0,O,gB,Fl.nil _ _ _⟩
 .refine⟨_,n,_,O,s,s,λi x hi=>⟨r,0,rfl,(G.lo _<|aK ..).2,?_⟩⟩;rw[bB];refine(G.get 0 O).cell ?_;rw[bZ (bK.1 hi).1];exact hi
def GB.gI(s:GB ty es v F gb):all' Go.Ae.gI (cr v)=f/\u (cr v)=1/\cr v=[v]:=by
 rcases s with⟨rfl,_,_⟩|⟨r,n,w,rfl,_,_⟩<;>exact⟨O,O,O⟩
end steps
def Ck{A h2:R}{r off:Nat}(s:A.read r off n=Z vs)(w:h2.read r off n=Z vs)(hs:G_ vs vs=f):sameAt A h2 r off n=f:=by
 unfold sameAt;rw[s,w];show rY (gd (G_ vs vs)<|Z ())=f;rw[hs];rfl
end
section bin
variable{P:aX}{a b:Int}{k:f_}
end bin
def acs:∀(a b:D UInt8),u8L a=u8L b->a=b:=by
 intro a
 induction a with
 |nil=>intro b h;cases b with
  |nil=>rfl
  |cons y b=>cases h
 |cons x a s=>intro b h;cases b with
  |nil=>cases h
  |cons y b=>
   have I:x.toNat=y.toNat:=(kK h).1;have B:u8L a=u8L b:=(kK h).2;rw[s b B,UInt8.toNat_inj.1 I]
theorem Tt:∀(a b:D Nat),LM a b=f<->a=b:=by
 intro a
 induction a with
 |nil=>intro b;cases b with
  |nil=>exact⟨λ_=>rfl,λ_=>rfl⟩
  |cons y b=>exact⟨(λh=>by cases h),(λh=>by cases h)⟩
 |cons x a s=>intro b;cases b with
  |nil=>exact⟨(λh=>by cases h),(λh=>by cases h)⟩
  |cons y b=>
   show b_ (aB x y) (LM a b) aA=f<->_
   by_cases e:x=y
   .subst e;rw[dW,oU,s];simp
   .rw[show aB x y=aA from by rw[<-dw];exactλg=>e<|bA g,lK];simp[e]
def Pq(a b:aZ):tO a b=decide (a=b):=by
 rw[fM,decide_eq_true_iff];unfold tO;rw[Tt];constructor
 .intro h;have:=acs _ _ h;have⟨⟨x⟩⟩:=a;have⟨⟨y⟩⟩:=b;exact eY (λl=>dJ<|Array.mk l) this
 .intro h;rw[h]
section bin
variable{P:aX}
def Ps(a b:aZ):mW P .eql t ox oy (.string a) (.string b)=Z (.bool<|decide<|a=b):=by
 show Z (aO<|tO a b)=_;rw[Pq]
def Pt(a b:aZ):mW P .neq t ox oy (.string a) (.string b)=Z (.bool<|!decide (a=b)):=by
 show Z (aO<|!(tO a b))=_;rw[Pq]
end bin
def part(s:aZ)(lo hi:Nat):aZ:=⟨⟨(s.data.toList.drop lo).take<|hi-lo⟩⟩
def rR(s:aZ)(h:lo<=hi)(B:hi<=s.size):(part s lo hi).size=hi-lo:=by
 show u ((s.data.toList.drop lo).take<|hi-lo)=_;have:u s.data.toList=s.size:=rfl;simp;omega
def Ej{s:aZ}(h:lo<=hi)(B:hi<=s.size):slT (.string s) (Z<|W lo) (Z<|W hi) T=Z (.string<|part s lo hi):=by
 show gd (aD lo hi&&aD hi (len s.data.toList)) (Z<|aJ ⟨⟨tk (dP hi lo)<|dp lo s.data.toList⟩⟩)=_;rw[h_,aH h,aH (show hi<=u s.data.toList from B),FF,OP];rfl
def Cm{s:aZ}(h:lo<=s.size):slT (.string s) (Z<|W lo) T T=Z (.string<|part s lo s.size):=by
 show gd (aD lo (len s.data.toList)&&aD (len s.data.toList) (len s.data.toList)) (Z<|aJ ⟨⟨tk (dP (len s.data.toList) lo)<|dp lo s.data.toList⟩⟩)=_;rw[h_,aH (show lo<=u s.data.toList from h),aH<|ax _,FF,OP];rfl
def ajc{s:aZ}(B:hi<=s.size):slT (.string s) T (Z<|W hi) T=Z (.string<|part s 0 hi):=by
 show gd (aD 0 hi&&aD hi (len s.data.toList)) (Z<|aJ ⟨⟨tk (dP hi 0)<|dp 0 s.data.toList⟩⟩)=_;rw[h_,aH<|bD _,aH (show hi<=u s.data.toList from B),FF,OP];rfl
def wX{s:aZ}(h:k<s.size):∃c:UInt8,idS (.string s) (W k)=Z (.int .u8 (c.toNat:Int)):=⟨_,uP h⟩
def cvI(k:f_)(x:C):aC C:=@aQ (f_×Int) (λ_=>aC C) (aN (vL x) λb=>gd aA<|Z<|.string b) (λa=>Z<|.int k<|p_ k a.2)<|vg x
def cvT(x:C):aC C:=@aQ (f_×Int) (λ_=>aC C) (aN (vL x) λb=>gd f<|Z<|.string b) (λa=>Z<|.string<|Utf8.encode a.2)<|vg x
def Lh(k k':f_)(a:Int):cvI k (.int k' a)=Z (.int k<|p_ k a):=rfl
def Yb(k:f_)(a:Int):cvT (.int k a)=Z (.string<|Utf8.encode a):=rfl
def Yc(s:aZ):cvT (.string s)=Z (.string s):=rfl
def ajd(vs:D C)(i:Nat):wI (.tuple ⟨vs⟩) i=vs[i]?:=qw vs i
section
variable{S:D Nat}
def aV[Decidable p](I:p->A)(B:¬p->h2):yN (Z<|decide p) A h2:=by
 by_cases h:p
 .rw[bY h];exact I h
 .rw[dQ h];exact B h
def eU[Decidable p](I:¬p->A)(B:p->h2):yN (Z<|!decide p) A h2:=by
 by_cases h:p
 .rw[bY h];exact B h
 .rw[dQ h];exact I h
def nO[Decidable p](B:¬p->h2)(I:p->A):yN (Z<|decide p) A h2:=aV I B
def ig(I:b=f->A)(B:b=aA->h2):yN (Z b) A h2:=by
 cases b with
 |true=>exact I O
 |false=>exact B O
def af8(k:f_)(a b:Int):Int:=k.wrap<|BitVec.toNat<|kU k.bits a&&&kU k.bits b
def bOr(k:f_)(a b:Int):Int:=k.wrap<|BitVec.toNat<|kU k.bits a|||kU k.bits b
def QK(k:f_)(a b:Int):Int:=k.wrap<|BitVec.toNat<|kU k.bits a&&&~~~kU k.bits b
def QL(k:f_)(a b:Int):Int:=k.wrap<|a*2^min b.toNat k.bits
def F_(k:f_)(a b:Int):Int:=a.fdiv<|2^min b.toNat k.bits
section bits
variable{P:aX}{a b:Int}{k:f_}
def Pv:mW P .and t ox oy (.int k a) (.int k b)=Z (.int k<|af8 k a b):=nY O O
def MC:mW P .or t ox oy (.int k a) (.int k b)=Z (.int k<|bOr k a b):=nY O O
def Db:mW P .andNot t ox oy (.int k a) (.int k b)=Z (.int k<|QK k a b):=nY O O
def Cn(h:0<=b):mW P .shl t ox oy (.int k a) (.int .u64 b)=Z (.int k<|QL k a b):=by
 show lD (Op.shift .shl k a .u64 b)=_;unfold Op.shift;rw[jx N];rfl
def xE(h:0<=b):mW P .shr t ox oy (.int k a) (.int .u64 b)=Z (.int k<|F_ k a b):=by
 show lD (Op.shift .shr k a .u64 b)=_;unfold Op.shift;rw[jx N];rfl
def MF:mW P .shl t ox oy (.int k a) (.int .u64 4)=Z (.int k<|QL k a 4):=Cn jg
def MG:mW P .shl t ox oy (.int k a) (.int .u64 6)=Z (.int k<|QL k a 6):=Cn jg
def JV:mW P .shl t ox oy (.int k a) (.int .u64 12)=Z (.int k<|QL k a 12):=Cn jg
def JW:mW P .shl t ox oy (.int k a) (.int .u64 18)=Z (.int k<|QL k a 18):=Cn jg
def JX:mW P .shl t ox oy (.int k a) (.int .u64 31)=Z (.int k<|QL k a 31):=Cn jg
def MH:mW P .shr t ox oy (.int k a) (.int .u64 4)=Z (.int k<|F_ k a 4):=xE jg
def MI:mW P .shr t ox oy (.int k a) (.int .u64 6)=Z (.int k<|F_ k a 6):=xE jg
def JY:mW P .shr t ox oy (.int k a) (.int .u64 12)=Z (.int k<|F_ k a 12):=xE jg
def JZ:mW P .shr t ox oy (.int k a) (.int .u64 18)=Z (.int k<|F_ k a 18):=xE jg
def J2:mW P .shr t ox oy (.int k a) (.int .u64 31)=Z (.int k<|F_ k a 31):=xE jg
end bits
def acu{r:Nat}(h:k<n):idR n es (.pointer<|Z ⟨r,o,T⟩) (.int kk (k:Int))=Z (.pointer<|Z ⟨r,o+k*es,T⟩):=by
 show gd (aD (dh k) n) (Z<|bG<|Z ⟨r,bq o<|bP k es,T⟩)=_;rw[aH h];rfl
section ar
variable{P:aX}{a b:Int}
def J3:mW P .add t ox oy (.int .u8 a) (.int .u8 b)=Z (.int .u8<|p_ .u8<|a+b):=nY O O
def HZ:mW P .add t ox oy (.int .i32 a) (.int .i32 b)=Z (.int .i32<|p_ .i32<|a+b):=nY O O
def J4:mW P .sub t ox oy (.int .u8 a) (.int .u8 b)=Z (.int .u8<|p_ .u8<|a-b):=nY O O
def H_:mW P .sub t ox oy (.int .i32 a) (.int .i32 b)=Z (.int .i32<|p_ .i32<|a-b):=nY O O
def J5:mW P .mul t ox oy (.int .u8 a) (.int .u8 b)=Z (.int .u8<|p_ .u8<|a*b):=nY O O
def Ia:mW P .mul t ox oy (.int .i32 a) (.int .i32 b)=Z (.int .i32<|p_ .i32<|a*b):=nY O O
end ar
def yP{t:Nat}{v:C}{l:D (Nat×C)}:Ci ((t,v)::l) t=v:=by
 show Go.Ae.look ((t,v)::l) t=v;rw[Ff,jj O]
def Dc{d t:Nat}{v:C}{l:D (Nat×C)}(h:(d==t)=aA):Ci ((d,v)::l) t=Ci l t:=by
 show Go.Ae.look ((d,v)::l) t=Go.Ae.look l t;rw[Ff,jx<|om h]
section quiet
def SH.R5(G:SH S H0 H L)(i:Nat){r:Nat}(hi:L[i]?=Z (r,ty,F))(s:F[o]?=Z v)(k:K v<|Go.Ae.hN H):ME (yh T (.pointer<|Z ⟨r,o,T⟩)<|Go.Ae.hN H) K:=
 iV (H:=Go.Ae.hN H) ((G.get i hi).cell s) k
def SH.MK(G:SH S H0 H L)(i:Nat){r:Nat}(hi:L[i]?=Z (r,ty,F))(s:o+n<=u F)(k:K (.agg ⟨(F.drop o).take n⟩)<|Go.Ae.hN H):ME (yh (Z n) (.pointer<|Z ⟨r,o,T⟩)<|Go.Ae.hN H) K:=
 ME.uE (H:=Go.Ae.hN H) ((G.get i hi).read s) k
def SH.Jk(G:SH [] H0 H L){r:Nat}(h:H0.cell r o=Z v)(s:r<H0.bV)(k:K v<|Go.Ae.hN H):ME (yh T (.pointer<|Z ⟨r,o,T⟩)<|Go.Ae.hN H) K:=
 iV (H:=Go.Ae.hN H) ((G.old s).trans h) k
end quiet
section mem
variable{P:aX}{X:Xt}
def gtW(a:Code)(az:Nat->Nat->St->Prop)(n:Nat)(K:Out->Prop):Out->Prop:=λo=>
 @Out.rec (λ_=>Prop) False (λs=>K<|.norm s) (λi s=>K<|.exit i s) (λl s=>@aQ Code (λ_=>Prop) (K<|.goto l s) (λ_=>∃m,m<n/\az m l s)<|findLabel a l) (λs=>K<|.ret s) o
def acv{a:Code}{az:Nat->Nat->St->Prop}{K:Out->Prop}{s:St}:gtW a az n K (.norm s)=K (.norm s):=rfl
def QM{a:Code}{az:Nat->Nat->St->Prop}{K:Out->Prop}{s:St}:gtW a az n K (.ret s)=K (.ret s):=rfl
def ML{a rest:Code}{az:Nat->Nat->St->Prop}{l:Nat}{K:Out->Prop}{s:St}(h:findLabel a l=Z rest):gtW a az n K (.goto l s)=∃m,m<n/\az m l s:=by
 show(@aQ Code (λ_=>Prop) _ _<|findLabel a l)=_;rw[h]
def ScP(P:aX)(X:Xt)(a:Code)(o:Out)(K:Out->Prop):Prop:=∃k s w,pG (lv P X k).cx k a o=s/\s≠.fail/\CF s w/\K w
def acw{a:Code}{K:Out->Prop}{az:Nat->Nat->St->Prop}(h:∀n l s rest,az n l s->findLabel a l=Z rest->iC P X rest s (gtW a az n K)):
 ∀n o o',CF o o'->o≠.fail->gtW a az n K o'->ScP P X a o K:=by
 intro n
 induction n using Nat.strongRecOn with
 |_ n Y=>
  intro o o' w W E;cases w with
  |fail=>exact absurd O W
  |norm w=>exact⟨1,.norm _,_,O,nofun,.norm w,E⟩
  |exit i w=>exact⟨1,.exit i _,_,O,nofun,.exit i w,E⟩
  |ret w=>exact⟨1,.ret _,_,O,nofun,.ret w,E⟩
  |goto l w=>
   rename_i s U;cases hf:findLabel a l with
   |none=>
    have V:K (.goto l U):=by
     have:(@aQ Code (λ_=>Prop) (K<|.goto l U) (λ_=>∃m,m<n/\az m l U)<|findLabel a l):=E;rw[hf]at this;exact this
    refine⟨1,.goto l s,_,?_,gB,.goto l w,V⟩;show(@aQ Code (λ_=>Out) (.goto l s) _<|findLabel a l)=_;rw[hf]
   |some rest=>
    rw[ML hf]at E;have⟨m,hm,hR⟩:=E;have⟨o1,o1',I,B,h3⟩:=iC.alike w<|h m l U rest hR hf;have⟨n1,k1,I⟩:=I;have⟨k2,o3,o4,h4,h5,h6,h7⟩:=Y m hm o1 o1' B n1 h3;refine⟨max k1 k2+1,o3,o4,?_,h5,h6,h7⟩;show(@aQ Code (λ_=>Out) (.goto l s) (λrest=>pG (lv P X<|max k1 k2+1).cx (max k1 k2) a<|(lv P X<|max k1 k2+1).cx rest s)<|findLabel a l)=o3;rw[hf];show pG (lv P X<|max k1 k2+1).cx (max k1 k2) a (IQ P X (max k1 k2) rest s)=o3;rw[C9 I n1 (nM _ _),<-h4];have M:ab5 (lv P X k2).cx (lv P X<|max k1 k2+1).cx:=(Bp k2 _ N).2;refine Eh M a k2 _ (kE _ _) o1 ?_;rw[h4];exact h5
def iC.scope{a:Code}{K:Out->Prop}{s:St}(az:Nat->Nat->St->Prop)(h:∀n l s rest,az n l s->findLabel a l=Z rest->iC P X rest s (gtW a az n K))(n:Nat)(h0:iC P X a s<|gtW a az n K):iC P X (.scope a) s K:=by
 have⟨o,o',I,B,h3⟩:=h0;have⟨n1,k1,I⟩:=I;have⟨k2,o3,o4,h4,h5,h6,h7⟩:=acw h n o o' B n1 h3;refine⟨o3,o4,⟨h5,max k1 k2,?_⟩,h6,h7⟩;show pG (lv P X<|max k1 k2).cx (max k1 k2) a (IQ P X (max k1 k2) a s)=o3;rw[C9 I n1 (nM _ _),<-h4];refine Eh (Bp k2 _<|kE _ _).2 a k2 _ (kE _ _) o ?_;rw[h4];exact h5
end mem
end
def af9{r:Nat}(h0:0<=z)(h:z<n):BS es (J (Z ⟨r,o,T⟩) n c) (vi z)=Z (.pointer<|Z ⟨r,o+z.toNat*es,T⟩):=by
 obtain⟨k,rfl⟩:∃k:Nat,z=k:=⟨z.toNat,N⟩;exact uK N
section bin
variable{P:aX}{a b:Int}
def MM(s:0<=a)(E:0<b)(h:a<=9223372036854775807):mW P .quo t ox oy (vi a) (vi b)=Z (vi<|a/b):=nY O (by
 show lD (Op.intDiv .quo .i64 a b)=_;unfold Op.intDiv;rw[jx N];show Z (a_ .i64<|IntKind.i64.wrap<|a.tdiv b)=_;have I:a.tdiv b=a/b:=Int.tdiv_eq_ediv_of_nonneg s;have B:0<=a/b:=Int.ediv_nonneg s N;have w:a/b<=a:=Int.ediv_le_self b s;rw[I];have:IntKind.i64.wrap (a/b)=a/b:=IntWalk.i64_in _ N;rw[this])
end bin
def SH.stQ(G:SH [] H0 H L)(i:Nat){r:Nat}(hi:L[i]?=Z (r,ty,F))(hl:u (cr v)=n)(E:o+n<=u F)(hk:all' gI (cr v)=f)(k:∀H1,SH [] H0 (hM H H1) (L.set i (r,ty,splice F o<|cr v))->K undef H1):ME (GU n (.pointer<|Z ⟨r,o,T⟩) v<|Go.Ae.hN H) K:=by
 have⟨H1,I,B,h3⟩:=G.Bt.zV (vs:=cr v) (o:=o) i hi N hk;show ME (gd (aB (len<|cr v) n)<|aN ((Go.Ae.hN H).write r o<|cr v) λQ=>Z (undef,Q)) K;rw[h_,hl,dW,I];refine k H1 ⟨G.ext.later h3.draw λq s=>.inr ?_,λe w=>(B.bk e w).iB O,B.lo,B.ne,h3.draw.wf G.wf⟩;rw[aS]at s;subst s;exact G.yu<|aT hi
def El(F:D C)(es k:Nat):D C:=(F.drop<|k*es).take es
def oN(F:D C)(es k i:Nat):(El F es k)[i]?=if i<es then F[k*es+i]? else T:=by
 unfold El;rw[iq];split
 .rw[qW]
 .rfl
theorem Pw(s:u vs=es)(h:k*es+es<=u F)(k':Nat):El (splice F (k*es) vs) es k'=if k'=k then vs else El F es k':=by
 apply iQ;intro i;rw[oN]
 by_cases hi:i<es
 .rw[jj hi,sN N]
  by_cases hk:k'=k
  .subst hk;rw[jj N,jj O,kM]
  .rw[jx hk,oN,jj hi,jx];rintro⟨I,B⟩;rcases dH k' k with h3|h3
   .have:(k'+1)*es<=k*es:=fH es h3;rw[iH]at this;omega
   .have:(k+1)*es<=k'*es:=fH es N;rw[iH]at this;omega
 .rw[jx hi];split
  .symm;exact dB N
  .rw[oN,jx hi]
def SB(P:D C->Prop)(r:Nat)(ty:aI)(es n:Nat)(H0 H:R)(L:D eF):Prop:=∃F,n*es<=u F/\(∀k,k<n->P (El F es k))/\SH [] H0 H ((r,ty,F)::L)
section steps
variable{P:D C->Prop}{r:Nat}
def SB.wf(h:SB P r ty es n H0 H L):Wf H:=by have⟨_,_,_,G⟩:=h;exact G.wf
def SB.ext(h:SB P r ty es n H0 H L):Ext H0 H:=by have⟨_,_,_,G⟩:=h;exact G.ext
def SB.call(h:SB P r ty es n H0 H L)(M:Ext H Q):SB P r ty es n H0 Q L:=by have⟨F,I,B,G⟩:=h;exact⟨F,I,B,G.call M⟩
def SB.new(h:SB P r ty es n H0 H L){z:D C}(k:∀H1 q,SB P r ty es n H0 H1 ((q,t2,z)::L)->K (.pointer<|Z ⟨q,0,T⟩) H1):ME (jM t2 z H) K:=by
 have⟨F,I,B,G⟩:=h;exact G.jM λH1 q G=>k H1 q ⟨F,I,B,G.perm<|iF _ _ _⟩
def SB.R5(h:SB P r ty es n H0 H L)(i:Nat){q:Nat}(hi:L[i]?=Z (q,t2,F))(s:F[o]?=Z v)(k:K v<|Go.Ae.hN H):ME (yh T (.pointer<|Z ⟨q,o,T⟩)<|Go.Ae.hN H) K:=by
 have⟨F,I,B,G⟩:=h;exact G.R5 (i+1) (by rw[iA];exact hi) s k
def SB.st(h:SB P r ty es n H0 H L)(i:Nat){q:Nat}(hi:L[i]?=Z (q,t2,F))(hl:u (cr v)=m)(s:o+m<=u F)(hk:all' gI (cr v)=f)(k:∀H1,SB P r ty es n H0 H1 (L.set i (q,t2,splice F o<|cr v))->K undef H1):ME (GU m (.pointer<|Z ⟨q,o,T⟩) v H) K:=by
 have⟨ds,I,B,G⟩:=h;exact G.st (i+1) (by rw[iA];exact hi) hl s hk λH1 G=>k H1 ⟨ds,I,B,G⟩
def SB.row(h:SB P r ty es n H0 H L)(hk:k<n):∃F,SH [] H0 H ((r,ty,F)::L)/\P (El F es k)/\k*es+es<=u F:=by
 have⟨F,I,B,G⟩:=h;refine⟨F,G,B k hk,?_⟩;have:(k+1)*es<=n*es:=fH es hk;rw[iH]at this;omega
def SB.e1(h:SB P r ty 1 n H0 H L)(h0:0<=z)(hz:z<n)(k:∀v,P [v]->K v H):ME (yh T (.pointer<|Z ⟨r,z.toNat*1,T⟩) H) K:=by
 have⟨F,G,hp,hl⟩:=h.row (k:=z.toNat) N;have s:z.toNat<u F:=N;refine G.ld 0 O (v:=F[z.toNat]) (by rw[dY];exact av s)<|k _ ?_
 have:El F 1 z.toNat=[F[z.toNat]]:=by
  unfold El;rw[dY,eH s];rfl
 rw[<-this];exact hp
def SB.Bt(h:SB P r ty es n H0 H L):SB P r ty es n (Go.Ae.hN H0) (Go.Ae.hN H) L:=by have⟨F,I,B,G⟩:=h;exact⟨F,I,B,G.Bt⟩
def SB.e1Q(h:SB P r ty 1 n H0 H L)(h0:0<=z)(hz:z<n)(k:∀v,P [v]->K v (Go.Ae.hN H)):ME (yh T (.pointer<|Z ⟨r,z.toNat*1,T⟩)<|Go.Ae.hN H) K:=h.Bt.e1 h0 hz k
def SB.em(h:SB P r ty es n H0 H L)(h0:0<=z)(hz:z<n)(k:∀l,P l->K (.agg ⟨l⟩) H):ME (yh (Z es) (.pointer<|Z ⟨r,z.toNat*es,T⟩) H) K:=by
 have⟨F,G,hp,hl⟩:=h.row (k:=z.toNat) N;exact G.uE 0 O N<|k _ hp
theorem SB.w(h:SB P r ty es n H0 H L)(h0:0<=z)(hz:z<n)(M:P<|cr v)(hl:u (cr v)=es)(hk:all' gI (cr v)=f)(k:∀H1,SB P r ty es n H0 H1 L->K undef H1):
 ME (GU es (.pointer<|Z ⟨r,z.toNat*es,T⟩) v H) K:=by
 have⟨F,I,B,G⟩:=h
 have s:z.toNat*es+es<=u F:=by
  have:(z.toNat+1)*es<=n*es:=fH es N;rw[iH]at this;omega
 refine G.st 0 O hl N hk λH1 G=>k H1 ⟨splice F (z.toNat*es)<|cr v,?_,λj E=>?_,?_⟩
 .rw[o_ N];exact I
 .rw[Pw hl s];split
  .exact M
  .exact B j E
 .exact G
def MN(H':Int->Prop)(l:D C):Prop:=∃z:Int,l=[vi z]/\H' z
def SB.i1(h:SB (MN H') r ty 1 n H0 H L)(h0:0<=z)(hz:z<n)(k:∀x,H' x->K (vi x) H):ME (yh T (.pointer<|Z ⟨r,z.toNat*1,T⟩) H) K:=
 h.e1 h0 hz λv ⟨x,M,s⟩=>by cases M;exact k x s
def SB.i1Q(h:SB (MN H') r ty 1 n H0 H L)(h0:0<=z)(hz:z<n)(k:∀x,H' x->K (vi x) (Go.Ae.hN H)):ME (yh T (.pointer<|Z ⟨r,z.toNat*1,T⟩)<|Go.Ae.hN H) K:=
 h.e1Q h0 hz λv ⟨x,M,s⟩=>by cases M;exact k x s
def SB.iw(h:SB (MN H') r ty 1 n H0 H L)(h0:0<=z)(hz:z<n){x:Int}(M:H' x)(k:∀H1,SB (MN H') r ty 1 n H0 H1 L->K undef H1):ME (GU 1 (.pointer<|Z ⟨r,z.toNat*1,T⟩) (vi x) H) K:=
 h.w h0 hz ⟨x,rfl,M⟩ rfl rfl k
end steps
def iC.yw{P:aX}{X:Xt}{c:Code}{s:St}{K:Out->Prop}(h:∀K',K'=K->iC P X c s K'):iC P X c s K:=h K O
def Ib{K:Out->Prop}{s:St}{i j:Nat}(h:(j==i)=aA):uk i K (.exit j s)=K (.exit j s):=S_<|om h
def qh.mono{P:aX}{X:Xt}{q:aC (FuncId×D C×D C)}{args:D C}{H:R}{K K':C->R->Prop}(h:qh P X q args H K)(hk:∀v Q,K v Q->K' v Q):qh P X q args H K':=by
 cases q with
 |none=>exact h
 |some q=>exact dn h hk
section bin
variable{P:aX}{a b:Int}{k k2:f_}
end bin
def Eo{k:f_}{n:Int}(h:k.wrap n=n):p_ k n=n:=by rw[LY,h]
def u64_in{n:Int}(h:0<=n/\n<18446744073709551616):IntKind.u64.wrap n=n:=by
 show n %18446744073709551616=n;omega
def u8_in{n:Int}(h:0<=n/\n<256):IntKind.u8.wrap n=n:=by
 show n %256=n;omega
def Yd{k:f_}{a:Int}(h:n<=32)(B:32<=k.bits):F_ k a (n:Int)=a.fdiv ((2^n:Nat):Int):=by
 unfold F_;have:min ((n:Int).toNat) k.bits=n:=N;rw[this];simp
def aje(s:aZ):Bool:=(d_ 256).all λk=>match s.data.toList[k]? with
 |none=>aA
 |some t=>aD t.toNat 8&&aD (2^t.toNat) (2*k+(if k=0 then 1 else 0))
def PU.aje{s:aZ}{y:Int}{K:C->Prop}(ht:Go.Ae.aje s=f)(h0:0<=y)(I:y<256)(h:∀t:Nat,t<=8->(1<=y->((2^t:Nat):Int)<=2*y)->K (.int .u8 (t:Int))):PU (idS (.string s)<|.int .u8 y) K:=by
 obtain⟨k,rfl⟩:∃k:Nat,y=k:=⟨y.toNat,N⟩;have M:k<256:=N;have:=fD.1 ht k<|jR.2 M;show PU (aN (nth s.data.toList k) λb=>Z<|a_ .u8<|.ofNat b.toNat) K;rw[qw]
 revert this
 cases s.data.toList[k]? with
 |none=>intro h;cases h
 |some t=>
  intro B;simp only[bE]at B;have w:=aF B.1;have E:=aF B.2
  exact h t.toNat w λO=>by
   rw[jx N]at E;omega
section steps
variable{P:D C->Prop}{r:Nat}
def SB.drop{b:eF}(h:SB P r ty es n H0 H<|b::L):SB P r ty es n H0 H L:=by
 have⟨F,g1,g2,G⟩:=h;exact⟨F,g1,g2,fV (A:=[_])<|G.perm<|iF _ _ _⟩
end steps
def Tu(l:D C):Prop:=∃a b:Int,l=[.int .i32 a,.int .i32 b]
def SB.r1{r:Nat}(h:SB Tu r ty 2 n H0 H L)(h0:0<=z)(hz:z<n)(k:∀a b,K (.agg ⟨[.int .i32 a,.int .i32 b]⟩) H):ME (yh (Z 2) (.pointer<|Z ⟨r,z.toNat*2,T⟩) H) K:=
 h.em h0 hz λl s=>by obtain⟨a,b,rfl⟩:=s;exact k a b
def SB.rw'{r:Nat}(h:SB Tu r ty 2 n H0 H L)(h0:0<=z)(hz:z<n){a b:Int}(k:∀H1,SB Tu r ty 2 n H0 H1 L->K undef H1):ME (GU 2 (.pointer<|Z ⟨r,z.toNat*2,T⟩) (.agg ⟨[.int .i32 a,.int .i32 b]⟩) H) K:=
 h.w h0 hz ⟨a,b,rfl⟩ rfl rfl k
def Fu:D Nat:=aY 128 240++(aY 66 241++(aY 30 2++(19::(aY 12 3++([35,3,3,52,4,4,4,68]++aY 11 241)))))
def KC:D Nat:=[128,191,160,191,128,159,144,191,128,143,0,0,0,0,0,0,0,0,0,0,0,0,0,0,0,0,0,0,0,0,0,0]
def Ay(H:R):Prop:=3<=H.bV/\∃s t2,H.obj 1=xm s .u8 Fu/\H.obj 2=xm t2 .u8 KC
def Ay.ex(h:Ay H)(M:Ext H Q):Ay Q:=by
 have⟨h0,t1,t2,I,B⟩:=h;exact⟨aR h0 M.bV,t1,t2,(M.obj 1 N gB).trans I,(M.obj 2 N gB).trans B⟩
open Classical in
def orT(args:D C)(H:R):aC (C×R):=if args=[]/\Ay H then Z (.bool f,H)else T
def acy(h:Ay H):orT [] H=Z (.bool f,H):=by unfold orT;rw[jj ⟨rfl,h⟩]
def ajf(h:orT args H=Z (v,Q)):args=[]/\Ay H/\v=.bool f/\Q=H:=by
 unfold orT at h;split at h
 .next s=>cases h;exact⟨s.1,s.2,O,O⟩
 .cases h
def acz{k:f_}{r z:Nat}(h:H.obj r=xm ty k l)(hz:l[i]?=Z z):H.cell r i=Z (.int k (z:Int)):=by
 have hi:i<u l:=(bK.1 hz).1;unfold R.cell;rw[h];show gd (aD (dh i)<|len l) (Z<|(Tr.uS top (mp (λn=>a_ k<|Int.ofNat n) l) 0 .nil).get top i)=_;rw[h_,aH hi,Bh,Tr.oh,G5,jj N7,aW,mD,bL,hz];rfl
def Z7{k:f_}{r x y:Nat}(h:H.obj r=xm ty k l)(M:l[i]?=Z x)(s:l[i+1]?=Z y):H.read r i 2=Z [.int k (x:Int),.int k (y:Int)]:=by
 have hi:i+1<u l:=(bK.1 s).1;show(aN (xH<|H.obj r) λw=>gd (aD (bq i 2) w.n)<|Z<|Tr.FX top w.cells i 2)=_;rw[h];show gd (aD (i+2)<|len l) (Z<|Tr.FX top (Tr.uS top (mp (λn=>a_ k<|Int.ofNat n) l) 0 .nil) i 2)=_;rw[h_,aH hi,Bh,Tr.zg,Tr.zg,Tr.DW,Tr.oh,Tr.oh,G5,jj N7,jj N7,aW,aW,mD,mD,bL,bL,M,s];rfl
section
variable{S:D Nat}
def Z8(t:Tr C):∀(n k:Nat)(F:D C),u F=n->(∀i(h:i<u F),t.get top (k+i)=F[i])->Tr.FX top t k n=F:=by
 intro n
 induction n with
 |zero=>intro k F h _;rw[Tr.DW];exact(eP.1 h).symm
 |succ n w=>
  intro k F h s;cases F with
  |nil=>cases h
  |cons x F=>
   rw[Tr.zg,w (k+1) F (om h) (λi hi=>by
    have:=s (i+1)<|om hi;rw[show k+1+i=k+(i+1) by omega,this];rfl)]
   have:=s 0 gB;rw[dZ]at this;rw[this];rfl
def FO{r:Nat}(h:∀i x,F[i]?=Z x->H.cell r (o+i)=Z x):H.read r o (u F)=Z F:=by
 cases F with
 |nil=>rfl
 |cons x F=>
  have E:∃az,H.obj r=.row az:=by
   have:=h 0 x O;unfold R.cell at this;have⟨az,I,_⟩:=aL this;exact⟨az,vK I⟩
  have⟨az,hR⟩:=E
  have s:∀i(hi:i<(x::F).length),o+i<az.n/\az.cells.get top (o+i)=(x::F)[i]:=by
   intro i hi;have I:=h i _<|av hi;unfold R.cell at I;rw[hR]at I;replace I:gd (aD (dh<|o+i) az.n) (Z<|az.cells.get top<|o+i)=Z _:=I;have⟨B,h3⟩:=gJ I;exact⟨aF B,eO h3⟩
  show(aN (xH<|H.obj r) λw=>gd (aD (bq o<|u F+1) w.n)<|Z<|Tr.FX top w.cells o<|u F+1)=_;rw[hR];show gd (aD (o+(u F+1)) az.n) (Z<|Tr.FX top az.cells o<|u F+1)=_;have M:=(s (u F) gB).1;rw[aH N,Bh,Z8 az.cells (u F+1) o (x::F) O λi hi=>(s i hi).2]
def Fl.read(h:Fl H a n es F)(E:0<es)(hk:k<n)(c:Nat):
 ∃r o,BS es (J a n c) (W k)=Z (.pointer<|Z ⟨r,o,T⟩)/\r<H.bV/\H.read r o es=Z (El F es k)/\u (El F es k)=es/\∃w,a=Z ⟨r,w,T⟩/\o=w+k*es:=by
 have⟨r,o,I,B,h3,h4⟩:=h.idx (c:=c) E hk
 have s:u (El F es k)=es:=by
  unfold El;have:(k+1)*es<=n*es:=fH es hk;rw[iH]at this;have:=h.1;simp;omega
 refine⟨r,o,I,B,?_,s,h4⟩
 have:=FO (H:=H) (r:=r) (o:=o) (F:=El F es k) λi x M=>by
  rw[oN]at M;split at M
  .next hi=>exact h3 i x hi M
  .cases M
 rwa [s]at this
def tT(h:Fl H a n es F)(w:0<es):appended H es (J a n c)=Z (n,F):=by
 rcases gX n with rfl|hn
 .have s:F=[]:=eP.1 (by have:=h.1;omega);subst s;cases a with
  |none=>rfl
  |some a=>
   show(aN (H.read a.block a.off<|bP 0 es) λl=>Z (0,l))=_;rw[show bP 0 es=0 from jq es];rfl
 .have B:0<u F:=by rw[h.1];exact uX hn w
  obtain⟨r,o,rfl,_,_⟩:=h.2 0 _<|av B;show(aN (H.read r o<|bP n es) λl=>Z (n,l))=_
  have I:=FO (H:=H) (r:=r) (o:=o) (F:=F) λi x M=>by
   have⟨r',o',e,_,h5⟩:=h.2 i x M;cases e;exact h5
  rw[h.1]at I;rw[show bP n es=n*es from O,I];rfl
def Co{x:C}{xs:D C}(E:v=J T 0 0\/∃a,v=J (Z a) 0 0)(s:appended H es x=Z (n,xs))(B:n<=16777216):
 Ch e es v x H=if n=0 then Z (v,H)else Z (J (Z ⟨H.bV,0,T⟩) n<|gK es,H.new<|rowOf e xs):=by
 cases n with
 |zero=>
  rw[jj O];rcases E with rfl|⟨a,rfl⟩
  .unfold Ch;rw[s];show gd (aD 0 16777216) (Z (J T 0 0,H))=_;rw[aH N];rfl
  .unfold Ch;rw[s];show gd (aD 0 16777216) (Z (J (Z a) 0 0,H))=_;rw[aH N];rfl
 |succ k=>
  rw[jx N];rcases E with rfl|⟨a,rfl⟩
  .exact QI s B
  .unfold Ch;rw[s];show gd (aD (k+1) 16777216) (gd (aD 0 16777216)<|b_ (gZ 0) (BZ (e,es) a 0 0 (k+1) xs H)<|gd (aB 0<|gK es)<|uj (e,es) a 0 0 (k+1) xs H)=_;rw[aH B,aH N,show gZ 0=f from O];show BZ (e,es) a 0 0 (k+1) xs H=_;unfold BZ
   have I:aD (bq 0<|k+1) 0=aA:=by
    rw[<-dw];intro h;have:=aF h;have e:bq 0 (k+1)=k+1:=bB _;omega
   have M:bq 0 (k+1)=k+1:=bB _;have U:bP 0 es=0:=jq es;rw[I,lK];show(aN (H.read a.block a.off<|bP 0 es) λw=>Z<|BJ e es (bq 0<|k+1) (app w xs) H)=_;rw[U,M];rfl
section steps
variable{x:C}{xs:D C}
end steps
def De{r w:Nat}(h:w<=n):Tc es (J (Z ⟨r,o,T⟩) n<|gK es) T (Z<|W w) T=Z (J (Z ⟨r,o,T⟩) w<|gK es):=by
 show b_ (gZ<|gK es) _ (gd (aB (gK es)<|gK es)<|gd (aD 0 w&&aD w n)<|Z<|J (Z ⟨r,bq o<|bP 0 es,T⟩) (dP w 0)<|gK es)=_;rw[Af,lK,dW,aH<|bD _,aH h,show bP 0 es=0 from jq es];rfl
def Tv{r w:Nat}(h:w<=n):Tc es (J (Z ⟨r,o,T⟩) n<|gK es) (Z<|W w) T T=Z (J (Z ⟨r,o+w*es,T⟩) (n-w)<|gK es):=by
 show b_ (gZ<|gK es) _ (gd (aB (gK es)<|gK es)<|gd (aD w n&&aD n n)<|Z<|J (Z ⟨r,bq o<|bP w es,T⟩) (dP n w)<|gK es)=_;rw[Af,lK,dW,aH<|ax _,aH h];rfl
def Ye:Tc es (J T 0 0) T (Z<|W 0) T=Z (J T 0 0):=rfl
section bin
variable{P:aX}
def Ep(ht:I4 P t=2):mW P .eql t ox (.const<|J T 0 0) (J a n c) (J T 0 0)=Z (.bool<|fT a):=by
 show DX .eql (OT (I4 P t) (J T 0 0)<|J a n c)=_;rw[ht];rfl
end bin
def ajg{z:D C}(s:es<=16777216):bS e z es 0 [] H=Z (J (Z ⟨H.bV,0,T⟩) 0 0,H.new<|rowOf e []):=by
 unfold bS;rw[show bP 0 es=0 from jq es,aH<|bD _];rfl
end
def acA(w:cZ)(o:nI)(r:Nat):Prop:=o=.dead\/∃(az:Row)(F:Array C)(fr:Nat×Nat),o=.row az/\w.heap[r]?=Z (.cells F az.ty fr)/\az.mR=f/\az.n<=F.size/\∀i,i<az.n->∃v,F[i]?=Z v/\(az.cells.get top i=top\/(oZ v=f/\az.cells.get top i=v)\/∃t x,v=.iface t x/\az.cells.get top i=.iface t top)
def ak3{w:cZ}(h:H.bV<=w.heap.size)(ht:∀r,r<H.bV->acA w (H.obj r) r):RH (Ba w H) H w:=by
 refine⟨?_,?_,?_⟩
 .intro r l s;unfold Ba at s;split at s
  .next I=>exact I
  .cases s
 .intro r l s;unfold Ba at s;split at s
  .next I=>
   cases s;refine⟨w.heap[r]'N,bI (i:=r) N,?_⟩;rcases ht r I with B|⟨az,F,fr,B,h3,Y,ab,h4⟩
   .rw[B];trivial
   .have U:C_ w r=F.size:=by unfold C_;rw[h3]
    have V:w.heap[r]'N=.cells F az.ty fr:=by
     have:=bI (xs:=w.heap) (i:=r) N;rw[h3]at this;injection this with this;exact this.symm
    rw[V,B];refine⟨⟨O,O⟩,O,U.symm,bD _,?_,?_,?_⟩
    .show 0+(az.n-0)<=C_ w r;rw[U];omega
    .rw[Y];intro h;cases h
    .intro i _ hi;have⟨v,h5,M⟩:=h4 i hi;refine⟨v,om h5,?_⟩;rcases M with M|⟨M,W⟩|⟨t,x,rfl,W⟩
     .rw[M];exact .top _
     .rw[W];exact .sc _ M
     .rw[W];exact .iface t top x<|.top x
  .cases s
 .intro r r' l l' s E _ _ hc;unfold Ba at s E;split at s
  .split at E
   .cases s;cases E;exact hc
   .cases E
  .cases s
section mem
variable{P:aX}
def Z9{X:Xt}(hn:n<=H.bV)(M:P.follows .mixedOrders=f)(hP:Ec P n)(hX:XOk P X)(Y:Ml P X n){g:FuncId}(V:P.funcs[g]?=Z fn)(hb:fn.body.isSome=f)(h:bM P X g args H λv Q=>v=.bool b/\H.bV<=Q.low){w:cZ}(hw:H.bV<=w.heap.size)(ht:∀r,r<H.bV->acA w (H.obj r) r){args':D C}(ha:mX (Ba w H) args args'):
 Calls P g ⟨args'⟩ w λe w'=>e=.returned (.bool b)/\Go.RowKit.Below w.heap.size w w':=by
 obtain⟨v,Q,⟨k,h⟩,rfl,E⟩:=h;refine(levels M hP hX Y k g args _ _ Q fn h V hb (Ba w H) w args' (ak3 hw ht) (λg V=>XY w H g N) ha).mono ?_;rintro e w' ⟨m',v',rfl,I,B,s⟩;rw[I.of_bool];refine⟨O,⟨s.os,s.tape,s.output,s.size,λc hc=>s.keep c hc ?_⟩⟩;intro r l U _;unfold Ba at U;split at U
 .next W=>exact aP W E
 .cases U
def MO(v:C):C:=if oZ v=f then v else match v with
 |.iface t _=>.iface t top
 |_=>top
def ajh:Obj->nI
 |.cells F ty _=>.row ⟨ty,Tr.uS top (F.toList.map MO) 0 .nil,F.size,f,0⟩
 |_=>.dead
def acB(w:cZ)(au:Nat->aC nI)(r:Nat):nI:=(au r).getD (match w.heap[r]? with|some o=>ajh o|none=>.dead)
def Bb(w:cZ)(au:Nat->aC nI):R:=⟨Tr.uS .dead ((d_ w.heap.size).map<|acB w au) 0 .nil,w.heap.size,w.heap.size⟩
def MP(w:cZ)(au:Nat->aC nI){r:Nat}(h:r<w.heap.size):(Bb w au).obj r=acB w au r:=by
 show(Tr.uS .dead ((d_ w.heap.size).map<|acB w au) 0 .nil).get .dead r=_;rw[Tr.oh,jj N7,aW];simp[h]
theorem aga{w:cZ}{au:Nat->aC nI}(B:∀r o,au r=Z o->acA w o r):∀r,r<(Bb w au).bV->acA w ((Bb w au).obj r) r:=by
 intro r s;replace s:r<w.heap.size:=s;rw[MP w au s];unfold acB;cases hc:au r with
 |some o=>exact B r o hc
 |none=>
  rw[bI s];show acA w (ajh _) r;cases ho:w.heap[r]with
  |cells F ty fr=>
   refine .inr ⟨_,F,fr,O,by rw[bI s,ho],rfl,ax _,λi hi=>?_⟩;replace hi:i<F.size:=hi;refine⟨F[i],bI hi,?_⟩;show(Tr.uS top (F.toList.map MO) 0 .nil).get top i=top\/_
   have e:(Tr.uS top (F.toList.map MO) 0 .nil).get top i=MO F[i]:=by
    rw[Tr.oh,jj N7,aW];simp[hi]
   show(Tr.uS top (F.toList.map MO) 0 .nil).get top i=top\/(oZ F[i]=f/\(Tr.uS top (F.toList.map MO) 0 .nil).get top i=F[i])\/∃t x,F[i]=.iface t x/\(Tr.uS top (F.toList.map MO) 0 .nil).get top i=.iface t top;rw[e];unfold MO;split
   .next h=>exact .inr<|.inl ⟨h,O⟩
   .split
    .next t x e=>exact .inr<|.inr ⟨t,x,e,O⟩
    .exact .inl O
  |_=>exact .inl O
def Px{w:cZ}{au:Nat->aC nI}{r:Nat}(E:au r=T)(h:w.cell? ⟨r,o,T⟩=Z v)(hs:oZ v=f):r<w.heap.size/\(Bb w au).cell r o=Z v:=by
 unfold World.cell? at h;cases hr:w.heap[r]? with
 |none=>simp[hr]at h
 |some I=>
  have s:r<w.heap.size:=(eX.1 hr).1;refine⟨s,?_⟩;cases I with
  |cells F ty fr=>
   simp[hr]at h;have hi:o<F.size:=(eX.1 h).1;unfold R.cell;rw[MP w au s];unfold acB;rw[E,hr];show gd (aD (dh o) F.size) (Z<|(Tr.uS top (F.toList.map MO) 0 .nil).get top o)=_;rw[aH hi,Bh,Tr.oh,jj N7,aW];have B:F[o]=v:=(eX.1 h).2;simp[hi,B,MO,hs]
  |_=>simp[hr]at h
def Yf{w:cZ}{au:Nat->aC nI}{r:Nat}(E:r<w.heap.size)(s:c<=9223372036854775807)(B:n<=c):VR (Ba w<|Bb w au) (J (Z ⟨r,o,T⟩) n c) (J (Z ⟨r,o,T⟩) n c):=by
 have:=VR.slice (m:=Ba w<|Bb w au) r o n c ⟨r,0,0,C_ w r,ai7<|(Bb w au).obj r⟩ (by unfold Ba;rw[jj (show r<(Bb w au).bV from E)]) (bD _) (aH s) B;simpa using this
end mem
section
variable{S:D Nat}
section steps
variable{xs:D C}
end steps
end
def PP:=ah @Ib<|ah @Lg<|ah @X5<|ah @X6<|ah @X9<|ah @X_<|ah @Tq<|ah @Tf<|ah @Tg<|ah @Ti<|ah @Cj<|ah @Tj<|ah @Tm<|ah @Ps<|ah @Pt<|ah @Tn<|ah @MB<|ah @Ta<|ah @Po<|ah @Tp<|ah @min2<|ah @max2<|ah @Lh<|ah @Yb<|ah @Yc<|ah @SY<|ah @S7<|ah @X3<|ah @S8<|ah @X4<|ah @S9<|ah @Td<|ah @Te<|ah @X7<|ah @yP<|ah @Dc<|ah @Pv<|ah @MC<|ah @Db<|ah @MF<|ah @MG<|ah @JV<|ah @JW<|ah @JX<|ah @MH<|ah @MI<|ah @JY<|ah @JZ<|ah @J2<|ah @J3<|ah @HZ<|ah @J4<|ah @H_<|ah @J5<|ah @Ia<|ah @ajd<|ah (@uT C)<|ah (@iA C)<|ah @bB<|ah @dZ<|ah (@qX eF)<|@kC eF
class BO (L:D eF) (r:Nat) (ty:outParam aI) (F:outParam<|D C):Prop where
 at':∃i:Nat,L[i]?=Z ((r,ty,F):eF)
instance BO.there{r:Nat}{ty:aI}{F:D C}{b:eF}{L:D eF}[h:BO L r ty F]:BO (b::L) r ty F:=⟨let⟨i,hi⟩:=h.at';⟨i+1,hi⟩⟩
instance BO.here{r:Nat}{ty:aI}{F:D C}{L:D eF}:BO ((r,ty,F)::L) r ty F:=⟨⟨0,O⟩⟩
class Ga (L:D eF) (r:Nat) (cs:D C->D C) (ty:outParam aI) (F:outParam<|D C) (L':outParam<|D eF):Prop where
 at':∃i:Nat,L[i]?=Z ((r,ty,F):eF)/\L'=L.set i (r,ty,cs F)
instance Ga.there{r:Nat}{cs:D C->D C}{ty:aI}{F:D C}{b:eF}{L L':D eF}[h:Ga L r cs ty F L']:Ga (b::L) r cs ty F (b::L'):=⟨let⟨i,hi,e⟩:=h.at';⟨i+1,hi,by rw[e];rfl⟩⟩
instance Ga.here{r:Nat}{cs:D C->D C}{ty:aI}{F:D C}{L:D eF}:Ga ((r,ty,F)::L) r cs ty F ((r,ty,cs F)::L):=⟨⟨0,O,O⟩⟩
section steps
variable{S:D Nat}{r:Nat}
def SH.qE(G:SH S H0 H L)[s:BO L r ty F](k:K v H)(w:F[o]?=Z v:=by rfl):ME (yh T (.pointer<|Z ⟨r,o,T⟩) H) K:=let⟨i,hi⟩:=s.at';G.ld i hi w k
def SH.jl(G:SH S H0 H L)[s:BO L r ty F](k:K (.agg ⟨(F.drop o).take n⟩) H)(w:o+n<=u F:=by exact aF O):ME (yh (Z n) (.pointer<|Z ⟨r,o,T⟩) H) K:=let⟨i,hi⟩:=s.at';G.uE i hi w k
def SH.VM(G:SH S H0 H L)[s:BO L r ty F](k:K v<|Go.Ae.hN H)(w:F[o]?=Z v:=by rfl):ME (yh T (.pointer<|Z ⟨r,o,T⟩)<|Go.Ae.hN H) K:=let⟨i,hi⟩:=s.at';G.R5 i hi w k
def SH.Py(G:SH S H0 H L)[s:BO L r ty F](k:K (.agg ⟨(F.drop o).take n⟩)<|Go.Ae.hN H)(w:o+n<=u F:=by exact aF O):ME (yh (Z n) (.pointer<|Z ⟨r,o,T⟩)<|Go.Ae.hN H) K:=let⟨i,hi⟩:=s.at';G.MK i hi w k
def SH.j_(G:SH S H0 H L)[s:Ga L r (λF=>splice F o<|cr v) ty F L'](k:∀H1,SH S H0 H1 L'->K undef H1)(hl:u (cr v)=n:=by rfl)(w:o+n<=u F:=by exact aF O)(hk:all' gI (cr v)=f:=by rfl):ME (GU n (.pointer<|Z ⟨r,o,T⟩) v H) K:=by
 have⟨i,hi,e⟩:=s.at';subst e;exact G.st i hi hl w hk k
end steps
section agg
variable{q:aC C}{K:C->Prop}{a b c d e ay g h i:C}
def PU.b1(s:q=Z (.agg ⟨[a]⟩))(k:K<|.agg ⟨[a]⟩):PU q K:=.of s k
def PU.b2(s:q=Z (.agg ⟨[a,b]⟩))(k:K<|.agg ⟨[a,b]⟩):PU q K:=.of s k
def PU.b3(s:q=Z (.agg ⟨[a,b,c]⟩))(k:K<|.agg ⟨[a,b,c]⟩):PU q K:=.of s k
def PU.b4(s:q=Z (.agg ⟨[a,b,c,d]⟩))(k:K<|.agg ⟨[a,b,c,d]⟩):PU q K:=.of s k
def PU.b5(s:q=Z (.agg ⟨[a,b,c,d,e]⟩))(k:K<|.agg ⟨[a,b,c,d,e]⟩):PU q K:=.of s k
def PU.b6(s:q=Z (.agg ⟨[a,b,c,d,e,ay]⟩))(k:K<|.agg ⟨[a,b,c,d,e,ay]⟩):PU q K:=.of s k
def PU.b7(s:q=Z (.agg ⟨[a,b,c,d,e,ay,g]⟩))(k:K<|.agg ⟨[a,b,c,d,e,ay,g]⟩):PU q K:=.of s k
def PU.b8(s:q=Z (.agg ⟨[a,b,c,d,e,ay,g,h]⟩))(k:K<|.agg ⟨[a,b,c,d,e,ay,g,h]⟩):PU q K:=.of s k
def PU.b9(s:q=Z (.agg ⟨[a,b,c,d,e,ay,g,h,i]⟩))(k:K<|.agg ⟨[a,b,c,d,e,ay,g,h,i]⟩):PU q K:=.of s k
end agg
def zW(H:R)(r:Nat)(ty:aI):Prop:=∃az,H.obj r=.row az/\az.ty=ty
def zW.one{r:Nat}(h:zW H r ty)(s:zW H r ty'):ty=ty':=by
 have⟨az,I,B⟩:=h;have⟨R',h3,h4⟩:=s;rw[I]at h3;cases h3;rw[<-B,<-h4]
def Bk.Gb{r:Nat}(h:Bk H r ty F):zW H r ty:=by
 have⟨az,I,B,_⟩:=h;exact⟨az,I,B⟩
def zW.iB{r:Nat}(h:zW H r ty)(e:Q.obj r=H.obj r):zW Q r ty:=by
 have⟨az,I,B⟩:=h;exact⟨az,e.trans I,B⟩
def jC(cs:Nat->Prop)(ty:aI)(H:R)(a:aC Addr)(n es:Nat)(F:D C):Prop:=Fl H a n es F/\∀r o,a=Z ⟨r,o,T⟩->0<n->cs r/\r<H.bV/\zW H r ty
def jC.nil(cs:Nat->Prop)(ty:aI)(H:R)(a:aC Addr)(es:Nat):jC cs ty H a 0 es []:=⟨Fl.nil _ _ _,λ_ _ _ h=>N⟩
def jC.stay{S:D Nat}{cs:Nat->Prop}(h:jC cs ty H a n es F)(M:pN S H Q)(G:∀q∈S,¬cs q\/¬zW H q ty):jC cs ty Q a n es F:=by
 have⟨I,B⟩:=h
 have s:∀r o,a=Z ⟨r,o,T⟩->0<n->r∉S:=λr o e hn w=>by
  have⟨h3,_,h4⟩:=B r o e hn;rcases G r w with h5|h5
  .exact h5 h3
  .exact h5 h4
 rcases gX n with rfl|hn
 .have:F=[]:=eP.1 (by have:=I.1;omega);subst this;exact jC.nil _ _ _ _ _
 .refine⟨I.ext M λr o e=>s r o e hn,λr o e _=>?_⟩;have⟨h3,h4,h5⟩:=B r o e hn;exact⟨h3,aP h4 M.bV,h5.iB<|M.obj r h4<|s r o e hn⟩
def jC.ex{cs:Nat->Prop}(h:jC cs ty H a n es F)(M:Ext H Q):jC cs ty Q a n es F:=h.stay M<|nofun
def jC.wk{cs F':Nat->Prop}(h:jC cs ty H a n es F)(w:∀r,cs r->F' r):jC F' ty H a n es F:=⟨h.1,λr o e s=>⟨w _ (h.2 r o e s).1,(h.2 r o e s).2⟩⟩
def jC.le{b b':Nat}(h:jC (b<=·) ty H a n es F)(s:b'<=b):jC (b'<=·) ty H a n es F:=h.wk λ_ h=>aR s h
def SH.Az{S:D Nat}(G:SH S H0 H L)(h:L.all (λe=>!(e.2.1==ty))=f):∀q∈L.map (·.1),¬zW H q ty:=λq w E=>by
 obtain⟨e,s,rfl⟩:=bT.1 w;have I:=(G.bk e s).Gb.one E;have B:=fD.1 h e s;simp[I]at B
def GB.KE{S:D Nat}{cs:Nat->Prop}(B:GB ty es v F gb)(G:SH S H0 H<|gb++L)(w:∀e∈gb,cs e.1):∃a n c,v=J a n c/\u F=n*es/\jC cs ty H a n es F:=by
 rcases B with⟨rfl,rfl,rfl⟩|⟨r,n,E,rfl,s,rfl⟩
 .exact⟨T,0,0,O,gB,jC.nil _ _ _ _ _⟩
 .refine⟨_,n,_,O,s,⟨s,λi x hi=>⟨r,0,rfl,(G.lo _<|aK ..).2,?_⟩⟩,λI o e _=>?_⟩
  .rw[bB];refine(G.get 0 O).cell ?_;rw[bZ (bK.1 hi).1];exact hi
  .cases e;exact⟨w _<|aK ..,(G.lo _<|aK ..).2,(G.get 0 O).Gb⟩
def GB.UT(w:GB ty es v F gb)(G:SH [] H0 H<|gb++L):∃a n c,v=J a n c/\u F=n*es/\jC (H0.bV<=·) ty H a n es F:=
 w.KE G λe s=>G.yu<|dM _ s
def GB.all(s:GB ty es v F gb)(h:(ty==ty')=aA):gb.all (λe=>!(e.2.1==ty'))=f:=by
 rcases s with⟨_,_,rfl⟩|⟨r,n,w,_,_,rfl⟩
 .rfl
 .simp at h;simp[h]
section steps
variable{S:D Nat}{r:Nat}
def SH.oq(G:SH S H0 H L)[E:Ga L r (λF=>splice F o<|cr v) ty F L'](k:∀H1,SH S H0 (hM H H1) L'->K undef H1)(hl:u (cr v)=n:=by rfl)(V:o+n<=u F:=by exact aF O)(hk:all' gI (cr v)=f:=by rfl):ME (GU n (.pointer<|Z ⟨r,o,T⟩) v<|Go.Ae.hN H) K:=by
 have⟨i,hi,e⟩:=E.at';subst e;have⟨H1,I,B,M⟩:=(SH.Bt G).zV (vs:=cr v) (o:=o) i hi N hk;show ME (gd (aB (len<|cr v) n)<|aN ((Go.Ae.hN H).write r o<|cr v) λQ=>Z (undef,Q)) K;rw[h_,hl,dW,I];refine k H1 ?_;have U:hM H H1=hM H H1:=rfl
 exact⟨pN.later G.ext M.draw (λq w=>by
  simp at w;subst w;exact(G.lo _<|aT hi).1),B.bk,λe s=>⟨(B.lo e s).1,(B.lo e s).2⟩,B.ne,M.draw.wf G.wf⟩
end steps
def SH.VN{S:D Nat}{xs:D C}(G:SH S H0 H L)(E:0<es)(w:v=J T 0 0\/∃a,v=J (Z a) 0 0)(M:Fl H a n es xs)(I:n<=16777216)(k:∀a' c' H1 L',jC (H.bV<=·) ty H1 a' n es xs->SH S H0 H1 (L'++L)->K (J a' n c') H1):ME (Ch ty es v (J a n c) H) K:=by
 rw[Co w (tT M E) I];split
 .next h0=>
  subst h0;have B:xs=[]:=eP.1 (by have:=M.1;omega);subst B;rcases w with rfl|⟨a,rfl⟩
  .exact k T 0 H [] (jC.nil _ _ _ _ _) G
  .exact k (Z a) 0 H [] (jC.nil _ _ _ _ _) G
 .next h0=>
  have s:=Bk.new H ty xs;exact k _ _ _ [(H.bV,ty,xs)] ⟨s.fl (dI _) M.1,λr o e _=>by cases e;exact⟨ax _,dI _,s.Gb⟩⟩<|G.grow ty xs
def SH.own{S:D Nat}(G:SH S H0 H<|hx++L):SH (hx.map (·.1)) H H hx:=(G.sub<|fB hx L).base
def SH.frame{S:D Nat}(G:SH S H0 H<|hx++L)(h:SH (hx.map (·.1)) H Q M'):SH S H0 Q (M'++L):=
 G.turn h.ext (λe s=>⟨h.bk e s,h.lo e s⟩) h.ne
def Pz(x:eF)(L:D eF):(x::(L++[])).Perm (L++[x]):=by rw[bF];exact aG (l₁:=[x])
def ak4(x y z:eF)(L:D eF):(x::y::z::(L++[])).Perm (L++[x,y,z]):=by rw[bF];exact aG (l₁:=[x,y,z])
def iY{K:Prop}(h:noTwo cls=f)(k:K):kY ops cls=f/\K:=⟨JU h,k⟩
def Rn(az:D Int->Prop)(z x:Int)(F:D Int):Prop:=az F/\F[z.toNat]?=Z x
def Wn(az:D Int->Prop)(z x:Int)(F:D Int):Prop:=∃c,az c/\F=c.set z.toNat x
def Pn(c0 F:D Int):Prop:=F.Perm c0
class Bn (az:D Int->Prop) (c0:outParam<|D Int):Prop where
 h:∀F,az F->Pn c0 F
instance Bn.s{c0:D Int}:Bn (Pn c0) c0:=⟨λ_ h=>h⟩
instance Bn.r{az:D Int->Prop}{z x:Int}{c0:D Int}[b:Bn az c0]:Bn (Rn az z x) c0:=⟨λ_ h=>b.h _ h.1⟩
def PD{c:D Int}{x y:Int}(hi:c[i]?=Z x)(s:c[j]?=Z y):((c.set i y).set j x).Perm c:=by
 obtain⟨I,rfl⟩:=bK.1 hi;obtain⟨B,rfl⟩:=bK.1 s;exact List.set_set_perm I B
instance Bn.w{az:D Int->Prop}{c0:D Int}{p q x y:Int}[b:Bn az c0]:Bn (Wn (Wn (Rn (Rn az p x) q y) p y) q x) c0:=⟨λ_ ⟨_,⟨_,h,e⟩,s⟩=>by
 subst e s;exact(PD h.1.2 h.2).trans<|b.h _ h.1.1⟩
instance Bn.w'{az:D Int->Prop}{c0:D Int}{p q x y:Int}[b:Bn az c0]:Bn (Wn (Wn (Rn (Rn az p x) q y) q x) p y) c0:=⟨λ_ ⟨_,⟨_,h,e⟩,s⟩=>by
 subst e s;exact(PD h.2 h.1.2).trans<|b.h _ h.1.1⟩
section steps
variable{az R':D Int->Prop}{r:Nat}
def Z'{F:D Int}(h:o<u F)(x:Int):splice (F.map vi++vs) o [vi x]=(F.set o x).map vi++vs:=by
 rw[<-qQ vi h x];unfold splice;rw[lS (by rw[aM];omega),rX (by rw[aM];show o+1<=_;omega)];simp
variable(h0:0<=z)(hz:z<n)
include h0 hz
end steps
def bN(h:h2)(s:A=h2:=by simp only[PP,Nat.reduceBEq];rfl):A:=by rw[s];exact h
section kN
variable{S:D Nat}
def SH.kN(G:SH S H0 H L)(h:h2)(s:Wf H->A=h2:=by intro w;simp only[PP,Nat.reduceBEq,iU w];rfl):A:=by rw[s G.wf];exact h
def SB.kN{P:D C->Prop}{r:Nat}(G:SB P r ty es n H0 H L)(h:h2)(s:Wf H->A=h2:=by intro w;simp only[PP,Nat.reduceBEq,iU w];rfl):A:=by rw[s G.wf];exact h
end kN
section bin
variable{P:aX}{a b:Int}{K:C->Prop}
def eD(k:K<|vi<|a+b)(I:-9223372036854775808<=a+b:=by omega)(B:a+b<=9223372036854775807:=by omega):PU (mW P .add t ox oy (vi a)<|vi b) K:=dA (gm I B) k
def rA(k:K<|vi<|a-b)(I:-9223372036854775808<=a-b:=by omega)(B:a-b<=9223372036854775807:=by omega):PU (mW P .sub t ox oy (vi a)<|vi b) K:=dA (qP I B) k
def PE{r:Nat}(k:K<|.pointer<|Z ⟨r,o+z.toNat*es,T⟩)(h0:0<=z:=by omega)(h:z<n:=by omega):PU (BS es (J (Z ⟨r,o,T⟩) n c)<|vi z) K:=dA (af9 h0 h) k
end bin
def pq:vi ((k:Int)+1)=W (k+1):=by rw[show((k:Int)+1)=((k+1:Nat):Int) by omega]
def anW{q:Prop}(k:q)(h:kY ops cls=f:=by((try simp only[eZ,gN,fP<|Ext.refl<|hN _]);kernel_rfl)):kY ops cls=f/\q:=⟨h,k⟩
def VO{q:Prop}(k:q)(h:noTwo cls=f:=by simp only[eZ,fP<|Ext.refl<|hN _];rfl):kY ops cls=f/\q:=iY h k
def splitK{q:Prop}(h:∀K:Prop,K->p/\K)(k:q):p/\q:=h q k
def fF(h:h2)(ay:h2->A:=by intro h;(repeat(first|(simp only[PP,Nat.reduceBEq,iU G.wf])|(refine PU.b1 O ?_)|(refine PU.b2 O ?_)|(refine PU.b3 O ?_)|(refine PU.b4 O ?_)|(refine PU.b5 O ?_)|(refine PU.b6 O ?_)|(refine PU.b7 O ?_)|(refine PU.b8 O ?_)|(refine PU.b9 O ?_)|(refine G.qE ?_)|(refine G.jl ?_)|(refine G.VM ?_)|(refine G.Py ?_)|(refine iY (by simp only[eZ,fP<|Ext.refl<|hN _];rfl) ?_)));exact h):A:=ay h
def tJ{ai:Prop}{d:Decidable p}(I:p->A)(B:¬p->h2)(ay:yN (Z<|decide p) A h2->ai:=by intro h;refine bN ?_;exact h):ai:=ay<|aV I B
def MQ{ai:Prop}{d:Decidable p}(B:¬p->h2)(I:p->A)(ay:yN (Z<|decide p) A h2->ai:=by intro h;refine bN ?_;exact h):ai:=ay<|aV I B
def yl{ai:Prop}{d:Decidable p}(I:¬p->A)(B:p->h2)(ay:yN (Z<|!decide p) A h2->ai:=by intro h;refine bN ?_;exact h):ai:=ay<|eU I B
def sD{ai:Prop}(I:b=f->A)(B:b=aA->h2)(ay:yN (Z b) A h2->ai:=by intro h;refine bN ?_;exact h):ai:=ay<|ig I B
def ym{ai:Prop}{d:Decidable p}(I:p->A)(B:¬p->h2)(ay:yN (Z<|decide p) A h2->ai:=by intro h;refine fF ?_;exact h):ai:=ay<|aV I B
def acC{ai:Prop}{d:Decidable p}(B:¬p->h2)(I:p->A)(ay:yN (Z<|decide p) A h2->ai:=by intro h;refine fF ?_;exact h):ai:=ay<|aV I B
def Oq{ai:Prop}{d:Decidable p}(I:¬p->A)(B:p->h2)(ay:yN (Z<|!decide p) A h2->ai:=by intro h;refine fF ?_;exact h):ai:=ay<|eU I B
def QN{ai:Prop}(I:b=f->A)(B:b=aA->h2)(ay:yN (Z b) A h2->ai:=by intro h;refine fF ?_;exact h):ai:=ay<|ig I B
def xq(g:Nat->Nat)(c:Cl):Cl:=⟨c.k,g c.r,c.off,c.n,c.a,c.b⟩
def Er(m:Nat)(c:Cl):Bool:=b_ (aB c.k 3||aB c.k 4) (aD 1 c.r&&aD c.r m) f
def kill(c:Cl):Cl:=b_ (aB c.k 2) ⟨2,0,0,0,hh0,hh0⟩ c
def Z_(h:g x.r=g y.r->x.r=y.r):zD (xq g x) (xq g y)=zD x y:=by
 unfold zD xq
 have:aB (g x.r) (g y.r)=aB x.r y.r:=by
  rw[fM,kS,kS];exact⟨h,λe=>by rw[e]⟩
 simp only[this]
def Jl{a b:R}{l:Cl}(s:a=hh0)(w:l.n≠0):oV ⟨2,0,0,0,a,b⟩ l=aA:=by
 subst s;unfold oV sameAt;show rY (aN (R.read hh0 l.r l.off l.n) _)=aA;have⟨k,hk⟩:=Nat.exists_eq_succ_of_ne_zero w;rw[hk];rfl
def Yg(h:Er m x=f)(hk:x.k=3\/x.k=4):1<=x.r/\x.r<=m:=by
 unfold Er at h
 have:(aB x.k 3||aB x.k 4)=f:=by
  rcases hk with e|e<;>rw[e]<;>rfl
 rw[this]at h;replace h:(aD 1 x.r&&aD x.r m)=f:=h;rw[bE]at h;exact⟨aF h.1,aF h.2⟩
def Bv{a b:Nat}(h:a≠b):aB a b=aA:=by rw[<-dw];exactλe=>h<|bA e
theorem acD(Y:∀i j,1<=i->i<=m->1<=j->j<=m->g i=g j->i=j)(M:Er m x=f)(hy:Er m y=f)(b:Bool)(h:gG (kill y) (kill x) b=f):gG (xq g y) (xq g x) b=f:=by
 cases b with
 |true=>
  unfold gG at h|-;simp only[Bool.true_or]at h|-
  have V:∀c:Cl,(kill c).k=c.k:=λc=>by
   unfold kill
   by_cases e:c.k=2
   .rw[e];rfl
   .rw[Bv e];rfl
  rw[V,V]at h;show b_ (aB y.k 0||aB x.k 0||aB y.k 5||aB x.k 5) f _=f;exact h
 |false=>
  by_cases hx2:x.k=2
  .have B:kill x=⟨2,0,0,0,hh0,hh0⟩:=by unfold kill;rw[hx2];rfl
   have w:(kill y).k=y.k:=by
    unfold kill
    by_cases e:y.k=2
    .rw[e];rfl
    .rw[Bv e];rfl
   unfold gG at h|-;rw[B]at h;simp only[w]at h;simp only[xq,hx2];simp only[show aB 2 0=aA from O,show aB 2 5=aA from O,show aB 2 3=aA from O,show aB 2 4=aA from O,show aB 2 1=aA from O,show aB 2 2=f from O,nR,sZ,Bool.false_and,pK,lK,oU]at h|-
   by_cases h0:(aB y.k 0||aB y.k 5)=f
   .rw[h0];rfl
   .rw[dw]at h0;rw[h0]at h|-
    by_cases h3:y.k=3
    .rw[h3]at h;cases h
    .rw[Bv h3]at h|-
     by_cases h4:y.k=4
     .have s:kill y=y:=by unfold kill;rw[Bv N];rfl
      rw[s,h4]at h;replace h:oV ⟨2,0,0,0,hh0,hh0⟩ y=f:=h
      by_cases hn:y.n=0
      .rw[h4];show oV _ _=f;unfold oV sameAt;show rY (aN (R.read x.a (g y.r) y.off y.n) λE=>aN (R.read x.b (g y.r) y.off y.n) λv=>gd (G_ E v)<|Z ())=f;rw[hn];rfl
      .rw[Jl O hn]at h;cases h
     .rw[Bv h4]at h;cases h
  .have B:kill x=x:=by unfold kill;rw[Bv hx2];rfl
   by_cases s:y.k=2
   .have w:kill y=⟨2,0,0,0,hh0,hh0⟩:=by unfold kill;rw[s];rfl
    unfold gG at h|-;rw[w,B]at h;simp only[xq,s];simp only[show aB 2 0=aA from O,show aB 2 5=aA from O,show aB 2 3=aA from O,show aB 2 4=aA from O,show aB 2 1=aA from O,show aB 2 2=f from O,nR,sZ,Bool.false_and,pK,lK,oU]at h|-
    by_cases h0:(aB x.k 0||aB x.k 5)=f
    .rw[h0];rfl
    .rw[dw]at h0;rw[h0]at h|-
     by_cases h3:x.k=3
     .rw[h3]at h;cases h
     .rw[Bv h3]at h|-
      by_cases h4:x.k=4
      .rw[h4]at h;replace h:oV ⟨2,0,0,0,hh0,hh0⟩ x=f:=h
       by_cases hn:x.n=0
       .rw[h4];show oV _ _=f;unfold oV sameAt;show rY (aN (R.read y.a (g x.r) x.off x.n) λE=>aN (R.read y.b (g x.r) x.off x.n) λv=>gd (G_ E v)<|Z ())=f;rw[hn];rfl
       .rw[Jl O hn]at h;cases h
      .rw[Bv h4]at h;cases h
   .have w:kill y=y:=by unfold kill;rw[Bv s];rfl
    rw[B,w]at h
    by_cases hm:(x.k=3\/x.k=4)/\(y.k=3\/y.k=4)
    .have⟨a1,a2⟩:=Yg M hm.1;have⟨b1,b2⟩:=Yg hy hm.2;have W:=Z_ (g:=g) (x:=x) (y:=y)<|Y _ _ a1 a2 b1 b2;unfold gG at h|-;rw[W];simp only[xq,Bv hx2,Bv s,lK]at h|-;exact h
    .unfold gG at h|-;simp only[xq,Bv hx2,Bv s,lK]at h|-
     by_cases x3:x.k=3
     .have I:y.k≠3:=λe=>hm ⟨.inl x3,.inl e⟩;have U:y.k≠4:=λe=>hm ⟨.inl x3,.inr e⟩;rw[Bv I,Bv U]at h|-;exact h
     .by_cases x4:x.k=4
      .have I:y.k≠3:=λe=>hm ⟨.inr x4,.inl e⟩;have U:y.k≠4:=λe=>hm ⟨.inr x4,.inr e⟩;rw[Bv I,Bv U]at h|-;exact h
      .rw[Bv x3,Bv x4]at h|-;exact h
def BP{a:Bool}(h:b_ a b aA=f):a=f/\b=f:=by
 cases a with
 |true=>exact⟨O,h⟩
 |false=>cases h
def MR(E:∀i j,1<=i->i<=m->1<=j->j<=m->g i=g j->i=j):∀(ms:D Nat)(l:D Cl),(∀c∈l,Er m c=f)->pairs gG ms (l.map kill)=f->pairs gG ms (l.map<|xq g)=f:=by
 have row:∀(x:Cl)(k:Nat)(l:D Cl),Er m x=f->(∀c∈l,Er m c=f)->jU gG (kill x) k (l.map kill)=f->jU gG (xq g x) k (l.map<|xq g)=f:=by
  intro x k l M
  induction l with
  |nil=>intro _ _;rfl
  |cons y l w=>
   intro h I;replace I:b_ (gG (kill x) (kill y)<|iP k<|len<|l.map kill) (jU gG (kill x) k<|l.map kill) aA=f:=I;have⟨B,h3⟩:=BP I;show b_ (gG (xq g x) (xq g y)<|iP k<|len<|l.map<|xq g) (jU gG (xq g x) k<|l.map<|xq g) aA=f;rw[h_,aM]at B|-;rw[acD E (h y<|aK ..) M _ B,w (λc s=>h c<|bJ _ s) h3];rfl
 intro ms
 induction ms with
 |nil=>intro l _ _;rfl
 |cons k ms w=>
  intro l h I;cases l with
  |nil=>rfl
  |cons x l=>
   replace I:b_ (jU gG (kill x) k<|l.map kill) (pairs gG ms<|l.map kill) aA=f:=I;have⟨B,h3⟩:=BP I;show b_ (jU gG (xq g x) k<|l.map<|xq g) (pairs gG ms<|l.map<|xq g) aA=f;rw[row x k l (h x<|aK ..) (λc s=>h c<|bJ _ s) B,w l (λc s=>h c<|bJ _ s) h3];rfl
def Es(s:∀i j,1<=i->i<=m->1<=j->j<=m->g i=g j->i=j){l:D Cl}(hl:all' (Er m) l=f)(h:kY ops (l.map kill)=f):kY ops (l.map<|xq g)=f:=by
 rw[all_eq,fD]at hl
 have e:noTwo (l.map<|xq g)=noTwo (l.map kill):=by
  unfold noTwo;rw[all_eq,all_eq,List.all_map,List.all_map];congr 1;funext c;show(!(aB c.k 2||aB c.k 3))=(!(aB (kill c).k 2||aB (kill c).k 3));unfold kill
  by_cases e:c.k=2
  .rw[e];rfl
  .rw[Bv e];rw[lK,Bv e]
 unfold kY at h|-;rw[e]
 by_cases B:noTwo (l.map kill)=f
 .rw[B];rfl
 .rw[dw]at B;rw[B]at h|-;exact MR s _ l hl h
def g3(a b c d:Nat):Nat->Nat
 |1=>a
 |2=>b
 |3=>c
 |4=>d
 |_=>0
theorem nE{ag:Nat->Nat->D Cl}{a b:Nat}{K:Prop}(s:a≠b)(w:∀a b,ag a b=(ag 1 2).map (xq<|g3 a b 0 0))(hk:all' (Er 2) (ag 1 2)=f)(h:kY ops ((ag 1 2).map kill)=f)(k:K):kY ops (ag a b)=f/\K:=by
 refine⟨?_,k⟩;rw[w];refine Es (m:=2) (λi j I B M O e=>?_) hk h;have hi:i=1\/i=2:=N;have E:j=1\/j=2:=N;rcases hi with rfl|rfl<;>rcases E with rfl|rfl<;>first|rfl|exact absurd e s|exact absurd e.symm s
theorem AA{a b:Nat}{K:Prop}(s:a≠b)(w:a≠c)(E:b≠c)(M:∀a b c,ag a b c=(ag 1 2 3).map (xq<|g3 a b c 0))(hk:all' (Er 3) (ag 1 2 3)=f)(h:kY ops ((ag 1 2 3).map kill)=f)(k:K):kY ops (ag a b c)=f/\K:=by
 refine⟨?_,k⟩;rw[M];refine Es (m:=3) (λi j I B U V e=>?_) hk h;have hi:i=1\/i=2\/i=3:=N;have O:j=1\/j=2\/j=3:=N;rcases hi with rfl|rfl|rfl<;>rcases O with rfl|rfl|rfl<;>first|rfl|exact absurd e s|exact absurd e.symm s|exact absurd e w|exact absurd e.symm w|exact absurd e E|exact absurd e.symm E
theorem VP{ag:Nat->Nat->Nat->Nat->D Cl}{a b d:Nat}{K:Prop}(s:a≠b)(w:a≠c)(E:a≠d)(M:b≠c)(O:b≠d)(U:c≠d)(V:∀a b c d,ag a b c d=(ag 1 2 3 4).map (xq<|g3 a b c d))(hk:all' (Er 4) (ag 1 2 3 4)=f)(h:kY ops ((ag 1 2 3 4).map kill)=f)(k:K):kY ops (ag a b c d)=f/\K:=by
 refine⟨?_,k⟩;rw[V];refine Es (m:=4) (λi j I B Y h4 e=>?_) hk h;have hi:i=1\/i=2\/i=3\/i=4:=N;have W:j=1\/j=2\/j=3\/j=4:=N;rcases hi with rfl|rfl|rfl|rfl<;>rcases W with rfl|rfl|rfl|rfl<;>first|rfl|exact absurd e s|exact absurd e.symm s|exact absurd e w|exact absurd e.symm w|exact absurd e E|exact absurd e.symm E|exact absurd e M|exact absurd e.symm M|exact absurd e O|exact absurd e.symm O|exact absurd e U|exact absurd e.symm U
theorem Gc{ag:Nat->D Cl}{a:Nat}{K:Prop}(s:∀a,ag a=(ag 1).map (xq<|g3 a 0 0 0))(hk:all' (Er 1) (ag 1)=f)(h:kY ops ((ag 1).map kill)=f)(k:K):kY ops (ag a)=f/\K:=by
 refine⟨?_,k⟩;rw[s];refine Es (m:=1) (λi j I B w E e=>?_) hk h;omega
def xu(H Q:R):CG H Q=cl 1\/CG H Q=⟨2,0,0,0,H,Q⟩:=by
 show b_ (aD H.bV Q.low) _ _=_\/b_ (aD H.bV Q.low) _ _=_;cases aD H.bV Q.low with
 |true=>exact .inl O
 |false=>exact .inr O
def SH.acE{S:D Nat}(G:SH S H0 H<|hx++L)(h:SH (hx.map (·.1)) (Go.Ae.hN H) Q M'):SH S H0 (hM H Q) (M'++L):=
 G.turn h.ext.draw (λe s=>⟨h.bk e s,h.lo e s⟩) h.ne
def SH.apart{S:D Nat}{A h2:D eF}(G:SH S H0 H<|A++h2){x y:eF}(M:x∈A)(s:y∈h2):x.1≠y.1:=(nU.1 G.ne).2.2 x M y s
def jC.one{S:D Nat}{cs:Nat->Prop}{r:Nat}(G:SH S H0 H L)(s:((r,ty,F):eF)∈L)(B:u F=n*es)(w:cs r):jC cs ty H (Z ⟨r,0,T⟩) n es F:=
 ⟨(G.bk _ s).fl (G.lo _ s).2 B,λE o e _=>by cases e;exact⟨w,(G.lo _ s).2,(G.bk _ s).Gb⟩⟩
def SH.nq{S:D Nat}(G:SH S H0 H L)(i j:Nat){r r':Nat}{t':aI}{x y:D C}(hi:L[i]?=Z (r,t,x))(w:L[j]?=Z (r',t',y))(s:i<j):r≠r':=by
 have⟨I,e1⟩:=bK.1 hi;have⟨B,e2⟩:=bK.1 w;have:=lI.1 G.ne i j I B s;rw[e1,e2]at this;exact this
def Jm(ty:aI)(es:Nat):D (D C)->D C->D eF->Prop
 |[],[],az=>az=[]
 |ks::IV,v::vs,az=>∃gb R',az=gb++R'/\GB ty es v ks gb/\Jm ty es IV vs R'
 |_,_,_=>False
def Jm.len:∀{s:D (D C)}{vs:D C}{az:D eF},Jm ty es s vs az->u s=u vs
 |[],[],az,h=>rfl
 |ks::s,v::vs,az,⟨gb,R',_,_,h⟩=>eY dh h.len
 |[],v::vs,az,h=>h.elim
 |ks::s,[],az,h=>h.elim
def Jm.aaa:∀n,Jm ty es (aY n []) (aY n<|J T 0 0) []
 |0=>rfl
 |n+1=>⟨[],[],rfl,GB.nil _ _,Jm.aaa n⟩
def Jm.at:∀{w:D (D C)}{vs:D C}{az:D eF}(i:Nat),Jm ty es w vs az->(h:i<u vs)->∃A gb h2,az=A++(gb++h2)/\GB ty es vs[i] (w[i]?.getD []) gb/\
 ∀v' s iX,GB ty es v' s iX->Jm ty es (w.set i s) (vs.set i v') (A++(iX++h2))
 |ks::w,v::vs,az,0,h,_=>by
  obtain⟨gb,R',rfl,I,E⟩:=h;exact⟨[],gb,R',O,I,λv' s iX B=>⟨iX,R',rfl,B,E⟩⟩
 |ks::w,v::vs,az,i+1,h,hi=>by
  obtain⟨gb,R',rfl,I,E⟩:=h;obtain⟨A,M,h2,rfl,B,N⟩:=Jm.at i E (om hi);refine⟨gb++A,M,h2,by rw[cK],B,λv' s iX U=>?_⟩;exact⟨gb,A++(iX++h2),by rw[cK],I,N v' s iX U⟩
 |[],[],az,i,h,hi=>absurd hi gB
 |[],v::vs,az,i,h,hi=>h.elim
 |ks::w,[],az,i,h,hi=>h.elim
def Jm.snoc:∀{s:D (D C)}{vs:D C}{az gb:D eF}{ks:D C}{v:C},Jm ty es s vs az->GB ty es v ks gb->Jm ty es (s++[ks]) (vs++[v]) (az++gb)
 |[],[],az,gb,ks,v,h,hg=>by
  subst h;exact⟨gb,[],gB,hg,O⟩
 |k::s,w::vs,az,gb,ks,v,⟨gb0,R',I,B,h3⟩,hg=>⟨gb0,R'++gb,by rw[I,cK],B,h3.snoc hg⟩
 |[],v::vs,az,gb,ks,w,h,hg=>h.elim
 |ks::s,[],az,gb,k,v,h,hg=>h.elim
def Jm.all{S:D Nat}:∀{s:D (D C)}{vs:D C}{az L:D eF},Jm ty es s vs az->SH S H0 H (az++L)->∀i(h:i<u vs),∃a n c,vs[i]=J a n c/\u (s[i]?.getD [])=n*es/\jC (λr=>r∈az.map (·.1)) ty H a n es (s[i]?.getD [])
 |[],[],az,L,h,G=>λi hi=>absurd hi gB
 |ks::s,v::vs,az,L,⟨gb,R',I,B,h4⟩,G=>by
  subst I;rw[cK]at G;intro i hi;cases i with
  |zero=>
   have⟨a,n,c,e,hl,hf⟩:=B.KE (cs:=λr=>r∈(gb++R').map (·.1)) G λe w=>bT.2 ⟨e,dM _ w,rfl⟩;exact⟨a,n,c,e,hl,hf⟩
  |succ i=>
   have⟨a,n,c,e,hl,hf⟩:=Jm.all h4 (fV G) i<|om hi;refine⟨a,n,c,e,hl,hf.wk λr E=>?_⟩;obtain⟨e,w,rfl⟩:=bT.1 E;exact bT.2 ⟨e,dL _ w,O⟩
 |[],v::vs,az,L,h,G=>h.elim
 |ks::s,[],az,L,h,G=>h.elim
section
variable{S:D Nat}{r:Nat}
def Ic(h:k<n):BS 1 (J (Z ⟨r,o,T⟩) n c) (W k)=Z (.pointer<|Z ⟨r,o+k,T⟩):=by rw[uK h,dY]
def Yh(hi:i<u F):splice F i [v]=F.set i v:=by
 apply iQ;intro j;rw[sN (by show i+1<=_;omega),dX]
 by_cases h:i<=j/\j<i+[v].length
 .have:i=j:=by have:=h.2;simp at this;omega
  subst this;rw[jj h,jj O,jj hi,kJ];rfl
 .rw[jx h,jx λe=>h (by subst e;simp)]
def SH.ix{K:C->C->R->Prop}(G:SH S H0 H L)[s:BO L r ty F](hk:k<n)(w:F[k]?=Z v)(kk:∀p,K p v H):
 PU (BS 1 (J (Z ⟨r,0,T⟩) n c)<|W k) λp=>ME (yh T p H) (K p):=by
 have⟨i,hi⟩:=s.at';refine dA (Ic hk) ?_;rw[bB];exact G.ld i hi w<|kk _
def SH.Yi{K:C->C->R->Prop}(G:SH S H0 H L)[w:Ga L r (λF=>F.set k v) ty F L'](hk:k<n)(hl:k<u F)(s:cr v=[v]:=by rfl)(ho:gI v=f:=by rfl)(kk:∀p H1,SH S H0 H1 L'->K p undef H1):
 PU (BS 1 (J (Z ⟨r,0,T⟩) n c)<|W k) λp=>ME (GU 1 p v H) (K p):=by
 have⟨i,hi,e⟩:=w.at';refine dA (Ic hk) ?_;rw[bB];refine G.st i hi (by rw[s];rfl) N (by rw[s];show b_ (gI v) _ _=_;rw[ho];rfl) λH1 h=>kk _ H1 ?_;rw[e];rw[s,Yh hl]at h;exact h
def jC.ix{cs:Nat->Prop}{K:C->C->R->Prop}(h:jC cs ty H a n 1 F)(hk:k<n)(s:F[k]?=Z v)(kk:∀p,K p v H):
 PU (BS 1 (J a n c)<|W k) λp=>ME (yh T p H) (K p):=by
 have⟨r,o,I,B,h3,_⟩:=h.1.idx (c:=c) (dI 0) hk;refine dA I<|iV ?_<|kk _;have:=h3 0 v (dI 0) (by rw[dY,dZ];exact s);exact this
def jC.VS{cs:Nat->Prop}{K:C->C->R->Prop}(h:jC cs ty H a n es F)(he:0<es)(hk:k<n){l:D C}(hl:El F es k=l)(kk:∀p,K p (.agg ⟨l⟩) H):
 PU (BS es (J a n c)<|W k) λp=>ME (yh (Z es) p H) (K p):=by
 have⟨r,o,I,B,h3,_⟩:=h.1.idx (c:=c) he hk;refine dA I ?_
 have U:k*es+es<=u F:=by
  have:(k+1)*es<=n*es:=fH es hk;rw[iH]at this;have:=h.1.1;omega
 refine ME.uE ?_<|kk _;obtain⟨Y,ab⟩:∃Y,F[k*es]?=Z Y:=⟨_,av N⟩;rw[<-hl]
 have hn:∀m,m<=es->H.read r o m=Z ((F.drop<|k*es).take m):=by
  intro m hm
  have s:∀i,i<m->H.cell r (o+i)=F[k*es+i]?:=λi hi=>by
   have:k*es+i<u F:=N;rw[av this];exact h3 i _ N<|av this
  cases m with
  |zero=>show Z []=_;simp
  |succ m=>
   obtain⟨az,M⟩:∃az,H.obj r=.row az:=by
    have h0:=s m N;rw[av N]at h0;unfold R.cell at h0;cases hr:H.obj r with
    |row az=>exact⟨az,O⟩
    |_=>rw[hr]at h0;cases h0
   have cl:∀i,i<m+1->o+i<az.n/\Z (az.cells.get top<|o+i)=F[k*es+i]?:=λi hi=>by
    have h0:=s i hi;rw[av N]at h0;unfold R.cell at h0;rw[M]at h0;have h0:gd (aD (dh<|o+i) az.n) (Z<|az.cells.get top<|o+i)=_:=h0;cases hb:aD (dh<|o+i) az.n with
    |false=>rw[hb]at h0;cases h0
    |true=>
     rw[hb]at h0;refine⟨aF hb,?_⟩;rw[av N];exact h0
   show(aN (xH<|H.obj r) λw=>gd (aD (bq o<|m+1) w.n)<|Z<|Tr.FX top w.cells o<|m+1)=_;rw[M];show gd (aD (bq o<|m+1) az.n) (Z<|Tr.FX top az.cells o<|m+1)=_;rw[aH (show bq o (m+1)<=az.n from(cl m N).1)];refine eY Z ?_
   have E:∀j p,(∀i,i<j->Z (az.cells.get top<|o+p+i)=F[k*es+p+i]?)->Tr.FX top az.cells (o+p) j=(F.drop<|k*es+p).take j:=by
    intro j
    induction j with
    |zero=>intro p _;rw[Tr.DW];simp
    |succ j ih=>
     intro p V;have h0:=V 0 N;rw[dZ,dZ]at h0;have⟨hl0,e0⟩:=bK.1 h0.symm
     rw[Tr.zg,show o+p+1=o+(p+1) by omega,ih (p+1) (λi hi=>by
      have:=V (i+1) N;rw[show o+(p+1)+i=o+p+(i+1) by omega,show k*es+(p+1)+i=k*es+p+(i+1) by omega];exact this),eH hl0,jS,e0]
     rfl
   have:=E (m+1) 0 (λi hi=>by rw[dZ,dZ];exact(cl i hi).2);exact this
 exact hn es<|ax _
theorem SH.ns{z:D C}{K:C->C->R->Prop}(G:SH S H0 H L)(hl:u (cr v)=m)(hz:u z=m)(hk:all' gI (cr v)=f)(kk:∀H2 r,SH S H0 H2 ((r,ty,cr v)::L)->Ext H H2->K (.pointer<|Z ⟨r,0,T⟩) undef H2):ME (Go.Ae.jM ty z H) λp H1=>ME (Go.Ae.GU m p v H1) λaa H2=>K p aa H2:=by
 have s:=gM G.wf;refine s.jM λH1 r s=>s.st 0 O hl N hk λH2 s=>?_;have s:SH [] H H2 [(r,ty,splice z 0<|cr v)]:=s;rw[oF _ _ N]at s;exact kk H2 r (SH.frame (hx:=[]) (L:=L) G s) s.ext
def jB(P hx L:D eF):(P++(hx++L)).Perm (hx++(P++L)):=by
 rw[<-cK,<-cK];exact rG _ aG
def SH.nD(G:SH S H0 H L){z:D C}(k:∀H1 r,SH S H0 (hM H H1) ((r,e,z)::L)->N9 H H1=cl 5->K (.pointer<|Z ⟨r,0,T⟩) H1):ME (Go.Ae.jM e z<|Go.Ae.hN H) K:=
 ME.of rfl (k _ _ (G.zq e z)<|xW<|Ext.new _ _)
def GB.push{x z:D C}{w:C}{xs:D C}{K:C->C->R->Prop}(V:GB ty es v xs gb)(G:SH S H0 H<|gb++L)(U:0<es)(hz:u z=es)(E:cr w=x)(M:u x=es)(ht:rP w=f)(B:all' Go.Ae.gI x=f)(I:es<=16777216)(O:u xs<=16777216)(kk:∀q v' Q iX,GB ty es v' (xs++x) iX->SH S H0 Q (iX++L)->K q v' Q):ME (bS ty z es 1 [(0,w)] H) λq H1=>ME (Ch ty es v q H1) (K q):=by
 refine G.bS hz ht (by rw[E];exact M) I λH1 rx s=>?_;rw[E]at s;have⟨v',H6,iX,e1,hg',xJ,_⟩:=V.app (m:=0) (cx:=1) s U N B N O;exact ME.of e1<|kk _ v' H6 iX hg' xJ
end
def g7(c:Cl):Cl:=b_ (aB c.k 2) ⟨7,0,0,0,hh0,hh0⟩ c
def acF{c:Cl}(h:c.k=2):g7 c=⟨7,0,0,0,hh0,hh0⟩:=by unfold g7;rw[h];rfl
def acG{c:Cl}(h:c.k≠2):g7 c=c:=by unfold g7;rw[Bv h];rfl
def MS(h:gG (g7 y) (g7 x) b=f)(M:y.k=2->x.k=4->oV y x=f)(s:x.k=2->y.k=4->oV x y=f):gG y x b=f:=by
 by_cases y2:y.k=2
 .rw[acF y2]at h
  by_cases x2:x.k=2
  .rw[acF x2]at h;unfold gG;rw[y2,x2];exact h
  .rw[acG x2]at h;unfold gG at h|-;rw[y2]
   by_cases x0:x.k=0
   .rw[x0];rfl
   by_cases x5:x.k=5
   .rw[x5];rfl
   by_cases x3:x.k=3
   .rw[x3]at h;cases h
   by_cases x4:x.k=4
   .have:=M y2 x4;rw[x4];show(b||oV y x)=f;rw[this];cases b<;>rfl
   .rw[Bv x0,Bv x5,Bv x3,Bv x4]at h|-;have h:b_ (aB x.k 1&&aA) f b=f:=h;show b_ (aB x.k 1&&aA) f b=f;exact h
 .rw[acG y2]at h
  by_cases x2:x.k=2
  .rw[acF x2]at h;unfold gG at h|-;rw[x2]
   by_cases y0:y.k=0
   .rw[y0];rfl
   by_cases y5:y.k=5
   .rw[y5];rfl
   by_cases y3:y.k=3
   .rw[y3]at h|-;exact h
   by_cases y4:y.k=4
   .have:=s x2 y4;rw[y4];show(b||oV x y)=f;rw[this];cases b<;>rfl
   .rw[Bv y0,Bv y5,Bv y3,Bv y4]at h|-;exact h
  .rw[acG x2]at h;exact h
def KF{α:Type}(p:α->Prop):D α->Prop
 |[]=>True
 |x::l=>p x/\KF p l
def RdA(A h2:R)(c:Cl):Prop:=(c.k=2->c.a=A/\c.b=h2)/\(c.k=4->oV ⟨2,0,0,0,A,h2⟩ c=f)
def RdA.rd{A h2:R}(M:RdA A h2 x)(w:RdA A h2 y)(B:y.k=2)(s:x.k=4):oV y x=f:=by
 have⟨e1,e2⟩:=w.1 B;have:=M.2 s;unfold oV at this|-;rw[e1,e2];exact this
def acH{A h2:R}:∀(ms:D Nat)(l:D Cl),KF (RdA A h2) l->pairs gG ms (l.map g7)=f->pairs gG ms l=f:=by
 have row:∀(x:Cl)(k:Nat)(l:D Cl),RdA A h2 x->KF (RdA A h2) l->jU gG (g7 x) k (l.map g7)=f->jU gG x k l=f:=by
  intro x k l M
  induction l with
  |nil=>intro _ _;rfl
  |cons y l s=>
   intro h I;replace I:b_ (gG (g7 x) (g7 y)<|iP k<|len<|l.map g7) (jU gG (g7 x) k<|l.map g7) aA=f:=I;have⟨B,h3⟩:=BP I;show b_ (gG x y<|iP k<|len l) (jU gG x k l) aA=f;rw[h_,aM]at B;rw[h_,MS B (λa b=>h.1.rd M a b) λa b=>M.rd h.1 a b,s h.2 h3];rfl
 intro ms
 induction ms with
 |nil=>intro l _ _;rfl
 |cons k ms s=>
  intro l h I;cases l with
  |nil=>rfl
  |cons x l=>
   replace I:b_ (jU gG (g7 x) k<|l.map g7) (pairs gG ms<|l.map g7) aA=f:=I;have⟨B,h3⟩:=BP I;show b_ (jU gG x k l) (pairs gG ms l) aA=f;rw[row x k l h.1 h.2 B,s l h.2 h3];rfl
def Yj(l:D Cl):(l.map g7).map kill=l.map g7:=by
 rw[uz];apply List.map_congr_left;intro c _;show kill (g7 c)=g7 c
 by_cases h:c.k=2
 .rw[acF h];rfl
 .rw[acG h];unfold kill;rw[Bv h];rfl
def acI{l l1:D Cl}{A h2:R}(w:∀i j,1<=i->i<=m->1<=j->j<=m->g i=g j->i=j)(s:l.map g7=(l1.map g7).map (xq g))(hk:all' (Er m) (l1.map g7)=f)(h:pairs gG (vB ops.toList [] 0) (l1.map g7)=f)(B:KF (RdA A h2) l):kY ops l=f:=by
 unfold kY
 have:pairs gG (vB ops.toList [] 0) l=f:=by
  refine acH (A:=A) (h2:=h2) _ l B ?_;rw[s];rw[all_eq,fD]at hk;refine MR w _ _ hk ?_;rw[Yj];exact h
 rw[this];cases noTwo l<;>rfl
theorem Ie{ag:Nat->Nat->D Cl}{a b:Nat}{A h2:R}{K:Prop}(s:a≠b)(w:(ag a b).map g7=((ag 1 2).map g7).map (xq<|g3 a b 0 0))(hk:all' (Er 2) ((ag 1 2).map g7)=f)(h:pairs gG (vB ops.toList [] 0) ((ag 1 2).map g7)=f)(k:K)(M:KF (RdA A h2)<|ag a b):kY ops (ag a b)=f/\K:=by
 refine⟨acI (m:=2) (λi j I B O U e=>?_) w hk h M,k⟩;have hi:i=1\/i=2:=N;have E:j=1\/j=2:=N;rcases hi with rfl|rfl<;>rcases E with rfl|rfl<;>first|rfl|exact absurd e s|exact absurd e.symm s
theorem QO{a b:Nat}{A h2:R}{K:Prop}(s:a≠b)(w:a≠c)(E:b≠c)(M:(ag a b c).map g7=((ag 1 2 3).map g7).map (xq<|g3 a b c 0))(hk:all' (Er 3) ((ag 1 2 3).map g7)=f)(h:pairs gG (vB ops.toList [] 0) ((ag 1 2 3).map g7)=f)(k:K)(U:KF (RdA A h2)<|ag a b c):kY ops (ag a b c)=f/\K:=by
 refine⟨acI (m:=3) (λi j I B V W e=>?_) M hk h U,k⟩;have hi:i=1\/i=2\/i=3:=N;have O:j=1\/j=2\/j=3:=N;rcases hi with rfl|rfl|rfl<;>rcases O with rfl|rfl|rfl<;>first|rfl|exact absurd e s|exact absurd e.symm s|exact absurd e w|exact absurd e.symm w|exact absurd e E|exact absurd e.symm E
def yQ(k:f_)(n:Int):qL (.int k n) (.int k n)=f:=by
 have h:aa9 (.int k n) (.int k n)=f:=by
  show rY (gd (aB (sQ k) (sQ k)&&FI n n)<|Z ())=f;rw[Da,Br,bY O];rfl
 unfold qL F3 B5;rw[h];rfl
def qR(a:aC Addr)(n c:Nat)(h:∀x,a=Z x->x.spot=T):qL (J a n c) (J a n c)=f:=by
 have I:K9 a a=f:=by
  cases a with
  |none=>rfl
  |some x=>
   show addrEq x x=f;unfold addrEq;rw[h x O,dW,dW];rfl
 have B:FK (J a n c) (J a n c)=f:=by
  show rY (gd (K9 a a&&aB n n&&aB c c)<|Z ())=f;rw[I,dW,dW];rfl
 unfold qL F3 B5;rw[B];cases aa9 (J a n c) (J a n c)<;>cases aa8 (J a n c) (J a n c)<;>rfl
def Ag:∀{l:D C},(∀v∈l,qL v v=f)->G_ l l=f
 |[],_=>rfl
 |x::l,h=>by
  show b_ (qL x x) (G_ l l) aA=f;rw[h x (aK ..),Ag λv s=>h v<|bJ _ s];rfl
def sF{A h2:R}{r:Nat}{a b:R}(w:Bk A r ty F)(B:Bk h2 r ty F)(s:o+n<=u F)(hs:∀v∈(F.drop o).take n,qL v v=f):oV ⟨2,0,0,0,A,h2⟩ ⟨4,r,o,n,a,b⟩=f:=
 Ck (w.read s) (B.read s) (Ag hs)
def g8(c:Cl):Cl:=⟨b_ (aB c.k 2) 7 c.k,0,0,0,hh0,hh0⟩
def RdT(au:Cl->Prop)(c:Cl):Prop:=(c.k=2->au c)/\(c.k=4->∀w,au w->oV w c=f)
def acJ(x3:x.k≠3)(U:y.k≠3)(h:gG (g8 y) (g8 x) b=f)(M:y.k=2->x.k=4->oV y x=f)(N:x.k=2->y.k=4->oV x y=f):gG y x b=f:=by
 refine MS ?_ M N
 have e:∀c:Cl,c.k≠3->(g7 c).k=(g8 c).k/\(g7 c).k≠3/\(g7 c).k≠2:=λc I=>by
  by_cases B:c.k=2
  .rw[acF B];unfold g8;rw[B];exact⟨O,jg,jg⟩
  .rw[acG B];unfold g8;rw[Bv B];exact⟨O,I,B⟩
 have⟨e1,e2,e3⟩:=e x x3;have⟨f1,f2,f3⟩:=e y U;have s:(g8 x).k≠3:=by rw[<-e1];exact e2
 have w:(g8 y).k≠3:=by rw[<-f1];exact f2
 have g3:(g8 x).k≠2:=by rw[<-e1];exact e3
 have E:(g8 y).k≠2:=by rw[<-f1];exact f3
 unfold gG at h|-;rw[Bv s,Bv w,Bv g3,Bv E]at h;rw[Bv e2,Bv f2,Bv e3,Bv f3,e1,f1];exact h
def acK:∀(ms:D Nat)(l:D Cl),KF (RdT au) l->(∀c∈l,c.k≠3)->pairs gG ms (l.map g8)=f->pairs gG ms l=f:=by
 have row:∀(x:Cl)(k:Nat)(l:D Cl),RdT au x->x.k≠3->KF (RdT au) l->(∀c∈l,c.k≠3)->jU gG (g8 x) k (l.map g8)=f->jU gG x k l=f:=by
  intro x k l M E
  induction l with
  |nil=>intro _ _ _;rfl
  |cons y l N=>
   intro h s I;replace I:b_ (gG (g8 x) (g8 y)<|iP k<|len<|l.map g8) (jU gG (g8 x) k<|l.map g8) aA=f:=I;have⟨B,h4⟩:=BP I;show b_ (gG x y<|iP k<|len l) (jU gG x k l) aA=f;rw[h_,aM]at B;rw[h_,acJ (s y<|aK ..) E B (λa b=>h.1.2 b x<|M.1 a) λa b=>M.2 b y<|h.1.1 a,N h.2 (λc w=>s c<|bJ _ w) h4];rfl
 intro ms
 induction ms with
 |nil=>intro l _ _ _;rfl
 |cons k ms N=>
  intro l h s I;cases l with
  |nil=>rfl
  |cons x l=>
   replace I:b_ (jU gG (g8 x) k<|l.map g8) (pairs gG ms<|l.map g8) aA=f:=I;have⟨B,h4⟩:=BP I;show b_ (jU gG x k l) (pairs gG ms l) aA=f;rw[row x k l h.1 (s x<|aK ..) h.2 (λc w=>s c<|bJ _ w) B,N l h.2 (λc w=>s c<|bJ _ w) h4];rfl
def Gd{l:D Cl}{K:Prop}(s:all' (λc=>!(aB c.k 3)) (l.map g8)=f)(h:pairs gG (vB ops.toList [] 0) (l.map g8)=f)(k:K)(B:KF (RdT au) l):kY ops l=f/\K:=by
 refine⟨?_,k⟩;unfold kY
 have:pairs gG (vB ops.toList [] 0) l=f:=by
  refine acK _ l B (λc w e=>?_) h;rw[all_eq,fD]at s;have:=s (g8 c)<|List.mem_map_of_mem w;unfold g8 at this;rw[e]at this;cases this
 rw[this];cases noTwo l<;>rfl
def aab:∀(ms:D Nat)(l:D Cl),KF (RdT au) l->pairs gG ms (l.map g7)=f->pairs gG ms l=f:=by
 have row:∀(x:Cl)(k:Nat)(l:D Cl),RdT au x->KF (RdT au) l->jU gG (g7 x) k (l.map g7)=f->jU gG x k l=f:=by
  intro x k l M
  induction l with
  |nil=>intro _ _;rfl
  |cons y l s=>
   intro h I;replace I:b_ (gG (g7 x) (g7 y)<|iP k<|len<|l.map g7) (jU gG (g7 x) k<|l.map g7) aA=f:=I;have⟨B,h3⟩:=BP I;show b_ (gG x y<|iP k<|len l) (jU gG x k l) aA=f;rw[h_,aM]at B;rw[h_,MS B (λa b=>h.1.2 b x<|M.1 a) λa b=>M.2 b y<|h.1.1 a,s h.2 h3];rfl
 intro ms
 induction ms with
 |nil=>intro l _ _;rfl
 |cons k ms s=>
  intro l h I;cases l with
  |nil=>rfl
  |cons x l=>
   replace I:b_ (jU gG (g7 x) k<|l.map g7) (pairs gG ms<|l.map g7) aA=f:=I;have⟨B,h3⟩:=BP I;show b_ (jU gG x k l) (pairs gG ms l) aA=f;rw[row x k l h.1 h.2 B,s l h.2 h3];rfl
theorem agb{ag:Nat->D Cl}{a:Nat}{K:Prop}(s:(ag a).map g7=((ag 1).map g7).map (xq<|g3 a 0 0 0))(hk:all' (Er 1) ((ag 1).map g7)=f)(h:pairs gG (vB ops.toList [] 0) ((ag 1).map g7)=f)(k:K)(w:KF (RdT au)<|ag a):kY ops (ag a)=f/\K:=by
 refine⟨?_,k⟩;unfold kY
 have:pairs gG (vB ops.toList [] 0) (ag a)=f:=by
  refine aab (au:=au) _ _ w ?_;rw[s];rw[all_eq,fD]at hk;refine MR (m:=1) (λi j I B E M e=>N) _ _ hk ?_;rw[Yj];exact h
 rw[this];cases noTwo (ag a)<;>rfl
def agc{S:D Nat}{X H3:R}{r:Nat}{a b:R}{w:Cl}(s:w.a=X/\w.b=H3)(M:pN S (hN X) H3)(I:r<X.bV)(E:r∉S)(h:X.read r o n=Z vs)(hs:∀v∈vs,qL v v=f):oV w ⟨k,r,o,n,a,b⟩=f:=by
 unfold oV;rw[s.1,s.2];have B:H3.read r o n=Z vs:=(xD (M.obj r I E) o n).trans h;exact Ck h B<|Ag hs
def acL{r:Nat}(h:H.cell r o=Z v):H.read r o 1=Z [v]:=by
 unfold R.cell at h;cases hr:H.obj r with
 |row az=>
  rw[hr]at h;replace h:gd (aD (dh o) az.n) (Z<|az.cells.get top o)=Z v:=h;cases hb:aD (dh o) az.n with
  |false=>rw[hb]at h;cases h
  |true=>
   rw[hb]at h;have h:Z (az.cells.get top o)=Z v:=h;show(aN (xH<|H.obj r) λw=>gd (aD (bq o 1) w.n)<|Z<|Tr.FX top w.cells o 1)=_;rw[hr];show gd (aD (dh o) az.n) (Z<|Tr.FX top az.cells o 1)=_;rw[hb,Tr.zg,Tr.DW];rw[eO h];rfl
 |_=>rw[hr]at h;cases h
def aac(r o:Nat):B5 (.pointer<|Z ⟨r,o,T⟩) (.pointer<|Z ⟨r,o,T⟩)=f:=by
 have h:aa8 (.pointer<|Z ⟨r,o,T⟩) (.pointer<|Z ⟨r,o,T⟩)=f:=by
  show rY (gd (aB r r&&aB o o&&f&&f)<|Z ())=f;rw[dW,dW];rfl
 unfold B5;rw[h];rfl
def MU{ay:C->C->Bool}:∀{l:D C},(∀v∈l,ay v v=f)->CQ ay l l=f
 |[],_=>rfl
 |x::l,h=>by
  show b_ (ay x x) (CQ ay l l) aA=f;rw[h x (aK ..),MU λv s=>h v<|bJ _ s];rfl
def acM(g:Nat){l:D C}(h:∀v∈l,∃r,v=.pointer (Z ⟨r,0,T⟩)):qL (.func (.func g) ⟨[]⟩ ⟨l⟩) (.func (.func g) ⟨[]⟩ ⟨l⟩)=f:=by
 have h0:Xx B5 (.func (.func g) ⟨[]⟩ ⟨l⟩) (.func (.func g) ⟨[]⟩ ⟨l⟩)=f:=by
  show rY (gd (aB g g&&CQ B5 [] []&&CQ B5 l l)<|Z ())=f;rw[dW,show CQ B5 [] []=f from O,MU (l:=l) λv s=>by obtain⟨r,rfl⟩:=h v s;exact aac r 0];rfl
 unfold qL F3;rw[h0];cases B5 (.func (.func g) ⟨[]⟩ ⟨l⟩) (.func (.func g) ⟨[]⟩ ⟨l⟩)<;>rfl
end Go.Ae
