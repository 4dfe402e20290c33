/-
  Part 04 of the proof. No condition.
-/
import Derived.Test.YtpngmpbmokhmiaaGreatDoorZ03
set_option linter.unusedVariables false
set_option linter.unusedSimpArgs false
set_option maxRecDepth 100000
set_option maxHeartbeats 4000000
set_option linter.defProp false
open Option renaming some->Z,none->W,rec->aN
open Bool renaming true->f,false->aA,rec->gq
open Go renaming Value->D,TypeId->aG,Program->aS,World->bW,Operand->bO,IntKind->fu,BinOp->qQ
open Go.Value renaming int->bV,slice->T,bool->gF,string->fO,pointer->tN
open Nat renaming rec->jq,beq->ay,succ->bU,ble->aB,add->aV,mul->bL,sub->dA
open List renaming rec->b_,replicate->aU,range->fZ
open List.Perm renaming swap->gm
open ByteArray renaming mk->cz
open BitVec renaming ofInt->g_
noncomputable section
namespace Go.Ae
variable{args args' E vs z:List D}{H C H0:F}{K K' Km:D->F->Prop}{e t t2 ty ty':aG}{ops:Array Oper}{c cx es hi i j k lo m n nl o rx:Nat}{v:D}{a:Option Addr}{g:Nat->Nat}{ai:Nat->Option lu}{A vn p:Prop}{H':Nat->Nat->Nat->List Cl}{S' l sk:List Nat}{acc cls l1:List Cl}{ox oy:bO}{h1:Int->Prop}{b d:Bool}{rs:List ResultVar}{q:Option D}{α:Type}{x hc:Cl}{fn:Func}{kk:fu}
def PU(o:Option D)(K:D->Prop):Prop:=@aN D (λ_=>Prop) False (λv=>K v) o
def ME(o:Option<|D×F)(K:D->F->Prop):Prop:=@aN (D×F) (λ_=>Prop) False (λp=>K p.1 p.2) o
def CV(o:Option D)(q:Option<|D×F)(Kp:D->Prop)(Km:D->F->Prop):Prop:=@aN D (λ_=>Prop) (ME q Km) (λv=>Kp v) o
def aJ(P:aS)(X:Xt)(g:FuncId)(args:List D)(H:F)(K:D->F->Prop):Prop:=∃v C,Ca P X g args H v C/\K v C
def nJ(P:aS)(X:Xt)(q:Option<|FuncId×List D×List D)(args:List D)(H:F)(K:D->F->Prop):Prop:=
 @aN (FuncId×List D×List D) (λ_=>Prop) False (λq=>aJ P X q.1 (app q.2.1<|app args q.2.2) H K) q
def yQ(b:Builtin):List aG->List D->aS->F->(D->Prop)->(D->F->Prop)->Prop:=
 @Builtin.rec (λ_=>List aG->List D->aS->F->(D->Prop)->(D->F->Prop)->Prop)
  (λats args P H Kp Km=>ME (C8 P ats args H) Km) (λ_ _ _ _ _ _=>False) (λats args P H Kp Km=>ME (F8 P ats args H) Km) (λ_ _ _ _ _ _=>False) (λ_ _ _ _ _ _=>False) (λats args P H Kp Km=>ME (L9 P ats args H) Km) (λ_ _ _ _ _ _=>False) (λ_ _ _ _ _ _=>False) (λats args P H Kp Km=>CV (one (Ju P) ats args) (Jz P ats args H) Kp Km) (λ_ _ _ _ _ _=>False) (λats args P H Kp Km=>PU (O6 f args) Kp) (λats args P H Kp Km=>PU (O6 aA args) Kp) (λ_ _ _ _ _ _=>False) (λ_ _ _ _ _ _=>False) (λ_ _ _ _ _ _=>False) (λ_ _ _ _ _ _=>False) (λ_ _ _ _ _ _=>False) (λ_ _ _ _ _ _=>False) (λ_ _ _ _ _ _=>False) (λ_ _ _ _ _ _=>False) (λats args P H Kp Km=>ME (EU args H) Km) (λats args P H Kp Km=>ME (wL P ats args H) Km) (λ_ _ _ _ _ _=>False) (λ_ _ _ _ _ _=>False) (λ_ _ _ _ _ _=>False) (λ_ _ _ _ _ _=>False) b
def ZW(P:aS)(X:Xt)(c:Call)(s:St)(Kp:D->Prop)(Km:D->F->Prop):Prop:=
 @aN Builtin (λ_=>Prop) (nJ P X (nC c.callee P s) (mp (ev s) c.args.toList) s.H Km)
  (λb=>yQ b c.argTypes.toList (mp (ev s) c.args.toList) P s.H Kp Km) (isBuiltin c.callee)
def YB(o:Op):aS->Xt->St->(D->Prop)->(D->F->Prop)->Prop:=
 @Op.rec (λ_=>aS->Xt->St->(D->Prop)->(D->F->Prop)->Prop)
  (λx P X s Kp Km=>Kp<|ev s x) (λx P X s Kp Km=>Kp<|ev s x) (λc a b P X s Kp Km=>PU (Jt (ev s c) (ev s a)<|ev s b) Kp) (λe P X s Kp Km=>ME (Cf P e s.H) Km) (λe x P X s Kp Km=>ME (Jv e (ev s x) s.H) Km) (λt ps P X s Kp Km=>PU (AB P t<|Nl s ps) Kp) (λt n ps P X s Kp Km=>ME (sO P t n (Nl s ps) s.H) Km) (λ_ _ _ _ _ _ _ _ _=>False) (λt x P X s Kp Km=>ME (vJ P t (ev s x) s.H) Km) (λt x v P X s Kp Km=>ME (yI P t (ev s x) (ev s v) s.H) Km) (λ_ _ _ _ _ _=>False) (λ_ _ _ _ _ _=>False) (λx P X s Kp Km=>PU (Nk<|ev s x) Kp) (λop t x hc _ P X s Kp Km=>PU (lN P op t x hc (ev s x)<|ev s hc) Kp) (λop _ x P X s Kp Km=>PU (jQ<|Op.unary op<|ev s x) Kp) (λa b x P X s Kp Km=>CV (Cb P a b<|ev s x) (uh P a b (ev s x) s.H) Kp Km) (λ_ _ _ _ _ _ _=>False) (λ_ _ _ _ _ _ _=>False) (λav fi ca P X s Kp Km=>Kp<|.func av ⟨mp (ev s) fi.toList⟩ ⟨mp (ev s) ca.toList⟩) (λt r P X s Kp Km=>ME (uB P t (IB s r) s.H) Km) (λ_ _ _ _ _ _ _=>False) (λt l c P X s Kp Km=>ME (qh P t (ev s l) (ev s c) s.H) Km) (λt x lo hi mx P X s Kp Km=>PU (zM P t (ev s x) (IB s lo) (IB s hi)<|IB s mx) Kp) (λt x av P X s Kp Km=>PU (q9 P t (ev s x) av) Kp) (λt x av P X s Kp Km=>PU (Ce P t (ev s x) av) Kp) (λt x i P X s Kp Km=>PU (q8 P t (ev s x)<|ev s i) Kp) (λt x i P X s Kp Km=>PU (Cc P t (ev s x)<|ev s i) Kp) (λt x k ok P X s Kp Km=>ME (r_ P t (ev s x) (ev s k) ok s.H) Km) (λt m k v P X s Kp Km=>ME (uN P t (ev s m) (ev s k) (ev s v) s.H) Km) (λ_ _ _ _ _ _ _ _=>False) (λ_ _ _ _ _ _ _ _ _=>False) (λ_ _ _ _ _ _ _=>False) (λ_ _ _ _ _ _ _=>False) (λ_ _ _ _ _ _=>False) (λ_ _ _ _ _ _ _ _ _=>False) (λt i P X s Kp Km=>PU (uA (ev s t) i) Kp) (λc P X s Kp Km=>ZW P X c s Kp Km) (λ_ _ _ _ _ _=>False) (λ_ _ _ _ _ _=>False) (λ_ _ _ _ _ _=>False) (λ_ _ _ _ _ _ _=>False) (λ_ _ _ _ _ _ _ _=>False) (λ_ _ _ _ _ _ _=>False) o
def BI(v:Option Bool)(A vn:Prop):Prop:=@aN Bool (λ_=>Prop) False (λb=>@gq (λ_=>Prop) vn A b) v
def Aa(l:List Nat)(t:Nat):Bool:=@b_ Nat (λ_=>Bool) aA (λx _ r=>bR (ay x t) f r) l
def qj(l:List Nat)(t:Nat):List Nat:=@b_ Nat (λ_=>List Nat) [] (λx _ r=>bR (ay x t) r<|x::r) l
def lz(l:List Nat)(d:Option Nat):List Nat:=@aN Nat (λ_=>List Nat) l (qj l) d
def Lp(s:St)(l:List Nat)(d:Option Nat):List Nat:=@aN Nat (λ_=>List Nat) l (λd=>bR (wr s d) (d::l) l) d
def GuW(ops:Array Oper)(s:St)(sk:List Nat)(g:Option<|Nat×Bool)(K:Bool->St->List Nat->Prop):Prop:=
 @aN (Nat×Bool) (λ_=>Prop) (K f s sk) (λg=>
  @aN Oper (λ_=>Prop) False (λo=>@aN Nat (λ_=>Prop) False (λt=>
   @gq (λ_=>Prop)
    (BI (jH<|ig s t) (K (Au f g.2) (qi s t (.bool f) s.H)<|qj sk t)<|K (Au aA g.2) (qi s t (.bool aA) s.H)<|qj sk t)
    (K aA s sk) (Aa sk t)) o.dst) (nth ops.toList g.1)) g
def Ab(P:aS)(X:Xt)(ops:Array Oper)(l:List Oper):St->List Nat->(St->Prop)->Prop:=
 @b_ Oper (λ_=>St->List Nat->(St->Prop)->Prop) (λs _ K=>K s)
  (λo _ ih s sk K=>GuW ops s sk o.guard (λb s sk=>@gq (λ_=>Prop)
   (ih (jg s o.dst undef s.H) (Lp s sk o.dst) K)
   (@aN Call (λ_=>Prop) (YB o.op P X s (λv=>ih (jg s o.dst v s.H) (lz sk o.dst) K) λv H=>ih (jg s o.dst v H) (lz sk o.dst) K) (λ_=>False)<|qM o.op)
   b)) l
def SK(P:aS)(X:Xt)(ops:Array Oper)(l:List Oper):St->List Nat->List Cl->(St->List Cl->Prop)->Prop:=
 @b_ Oper (λ_=>St->List Nat->List Cl->(St->List Cl->Prop)->Prop) (λs _ acc K=>K s acc)
  (λo _ ih s sk acc K=>GuW ops s sk o.guard (λb s sk=>@gq (λ_=>Prop)
   (ih (jg s o.dst undef s.H) (Lp s sk o.dst) (cl 0::acc) K)
   (YB o.op P X (gW s) (λv=>ih (jg s o.dst v s.H) (lz sk o.dst) (cl 0::acc) K) λv H=>ih (jg s o.dst v ⟨H.vF,H.next,nN s.H.low H.low⟩) (lz sk o.dst) (rM P o.op s H::acc) K)
   b)) l
def akY(P:aS)(X:Xt)(ops:Array Oper)(draw:Bool)(s:St)(K:Out->Prop):Prop:=
 @gq (λ_=>Prop) (Ab P X ops ops.toList (clear s) [] λs=>K<|.norm s)
  (@gq (λ_=>Prop) False (SK P X ops ops.toList (clear s) [] [] λs cls=>jI ops cls=f/\K (.norm s))<|j4 ops&&oN ops) draw
def rO(id:Nat)(K:Out->Prop):Out->Prop:=λo=>K<|wN id o
def gJ(P:aS)(X:Xt)(c:Code)(s:St)(K:Out->Prop):Prop:=∃o o',Ev P X c s o/\Av o o'/\K o'
def sW(P:aS)(X:Xt)(b:Code)(K:Out->Prop):Out->Prop:=
 λo=>@Out.rec (λ_=>Prop) (K .fail) (λs=>gJ P X b s K) (λi s=>K<|.exit i s) (λl s=>K<|.goto l s) (λs=>K<|.ret s) o
def akZ(l:List Oper):Nat:=@b_ Oper (λ_=>Nat) 1 (λo _ r=>@aN (Nat×Bool) (λ_=>Nat) r (λ_=>2) o.guard) l
def agC(c:Code)(i:Nat):Nat:=
 @Code.rec (λ_=>Nat) 0 (λ_ _ _=>0) (λ_ _ a b=>aV a b) (λ_ _ _ a b=>aV a b) (λ_ _ a=>a) (λ_ _=>0) (λ_ _ _ _ _ _=>0) (λj=>bR (ay j i) 1 0) (λ_ _=>0) (λ_=>0) (λ_=>0) 0 (λ_=>0) c
def aiq(c:Code):Nat:=
 @Code.rec (λ_=>Nat) 1 (λ_ ops _=>akZ ops.toList) (λ_ _ a b=>bL a b) (λ_ _ _ a b=>aV a b) (λi a r=>aV r<|agC a i) (λ_ _=>0) (λ_ _ _ _ _ _=>0) (λ_=>0) (λ_ _=>0) (λ_=>1) (λ_=>0) 0 (λ_=>0) c
def adD(c:Code):Nat:=
 @Code.rec (λ_=>Nat) 0 (λ_ ops _=>len ops.toList) (λ_ _ a b=>aV a b) (λ_ _ _ a b=>aV a b) (λ_ _ r=>r) (λ_ _=>4) (λ_ _ _ _ _ _=>0) (λ_=>0) (λ_ _=>4) (λ_=>0) (λ_=>0) 0 (λ_=>0) c
def Fg(a b:Code):Bool:=aB 2 (aiq a)&&aB 4 (adD b)
section mem
variable{P:aS}{X:Xt}
def air{o:Option D}{K:D->Prop}(h:PU o K):∃v,o=Z v/\K v:=by
 cases o with
 |none=>exact h.elim
 |some v=>exact⟨v,O,h⟩
def ae0{o:Option (D×F)}(h:ME o K):∃v H,o=Z (v,H)/\K v H:=by
 cases o with
 |none=>exact h.elim
 |some v=>exact⟨v.1,v.2,O,h⟩
def zA(P:aS)(X:Xt)(o:Op)(s:St)(Kp:D->Prop)(Km:D->F->Prop):Prop:=
 ∃k,(∃v,yh o P (j5 P X k) s=.BP v/\Kp v)\/∃v H,yh o P (j5 P X k) s=.mem v H/\Km v H
def zA.pu{o:Op}{s:St}{Kp:D->Prop}(hq:∀cf,yh o P cf s=rp q)(h:PU q Kp):zA P X o s Kp Km:=by
 obtain⟨v,Q,I⟩:=air h;exact⟨0,.inl ⟨v,by rw[hq,Q];rfl,I⟩⟩
def zA.me{o:Op}{s:St}{Kp:D->Prop}{q:Option (D×F)}(hq:∀cf,yh o P cf s=rm q)(h:ME q Km):zA P X o s Kp Km:=by
 obtain⟨v,H,Q,I⟩:=ae0 h;exact⟨0,.inr ⟨v,H,by rw[hq,Q];rfl,I⟩⟩
def zA.cv{o:Op}{s:St}{Kp:D->Prop}{r:Option (D×F)}(hq:∀cf,yh o P cf s=rpm q (rm r))(h:CV q r Kp Km):zA P X o s Kp Km:=by
 cases q with
 |none=>exact zA.me (q:=r) (λcf=>hq cf) h
 |some v=>exact⟨0,.inl ⟨v,by rw[hq];rfl,h⟩⟩
def zA.cons{o:Op}{s:St}{Kp:D->Prop}(hq:∀cf,yh o P cf s=.BP v)(h:Kp v):zA P X o s Kp Km:=⟨0,.inl ⟨v,hq _,h⟩⟩
def PM{b:Builtin}{c:Call}{s:St}{ats:List aG}{Kp:D->Prop}(hq:∀cf,yh (.call c) P cf s=zW b ats args P s.H)(h:yQ b ats args P s.H Kp Km):zA P X (.call c) s Kp Km:=by
 cases b with
 |append=>exact zA.me hq h
 |clear=>exact zA.me hq h
 |copy=>exact zA.me hq h
 |len=>exact zA.cv hq h
 |max=>exact zA.pu hq h
 |min=>exact zA.pu hq h
 |unsafeSliceData=>exact zA.me hq h
 |unsafeString=>exact zA.me hq h
 |_=>exact h.elim
theorem ZX{c:Call}{s:St}{Kp:D->Prop}(h:ZW P X c s Kp Km):zA P X (.call c) s Kp Km:=by
 unfold ZW at h;cases hb:isBuiltin c.callee with
 |some b=>
  rw[hb]at h;refine PM (b:=b) (ats:=c.argTypes.toList) (args:=mp (ev s) c.args.toList) (λcf=>?_) h;show wu c P cf s=_;unfold wu;rw[hb]
 |none=>
  rw[hb]at h;replace h:nJ P X (nC c.callee P s) (mp (ev s) c.args.toList) s.H Km:=h;unfold nJ at h;cases y:nC c.callee P s with
  |none=>rw[y]at h;exact h.elim
  |some q=>
   rw[y]at h;obtain⟨v,C,⟨k,Q⟩,I⟩:=h;refine⟨k,.inr ⟨v,C,?_,I⟩⟩;show wu c P (j5 P X k) s=_;unfold wu;rw[hb];show rm (aK (nC c.callee P s) λz=>j5 P X k z.1 (app z.2.1<|app (mp (ev s) c.args.toList) z.2.2) s.H)=_;rw[y];show rm (j5 P X k q.1 (app q.2.1<|app (mp (ev s) c.args.toList) q.2.2) s.H)=_;rw[Q];rfl
def ZY{o:Op}{s:St}{Kp:D->Prop}(h:YB o P X s Kp Km):zA P X o s Kp Km:=by
 cases o with
 |move _=>exact zA.cons (λ_=>rfl) h
 |assign _=>exact zA.cons (λ_=>rfl) h
 |pick _ _ _=>exact zA.pu (λ_=>rfl) h
 |alloc _=>exact zA.me (λ_=>rfl) h
 |box _ _=>exact zA.me (λ_=>rfl) h
 |build _ _=>exact zA.pu (λ_=>rfl) h
 |buildSlice _ _ _=>exact zA.me (λ_=>rfl) h
 |load _ _=>exact zA.me (λ_=>rfl) h
 |store _ _ _=>exact zA.me (λ_=>rfl) h
 |nilCheck _=>exact zA.pu (λ_=>rfl) h
 |binOp _ _ _ _ _=>exact zA.pu (λ_=>rfl) h
 |unOp _ _ _=>exact zA.pu (λ_=>rfl) h
 |convert _ _ _=>exact zA.cv (λ_=>rfl) h
 |makeFunc _ _ _=>exact zA.cons (λ_=>rfl) h
 |makeMap _ _=>exact zA.me (λ_=>rfl) h
 |makeSlice _ _ _=>exact zA.me (λ_=>rfl) h
 |slice _ _ _ _ _=>exact zA.pu (λ_=>rfl) h
 |fieldAddr _ _ _=>exact zA.pu (λ_=>rfl) h
 |field _ _ _=>exact zA.pu (λ_=>rfl) h
 |indexAddr _ _ _=>exact zA.pu (λ_=>rfl) h
 |index _ _ _=>exact zA.pu (λ_=>rfl) h
 |lookup _ _ _ _=>exact zA.me (λ_=>rfl) h
 |mapUpdate _ _ _ _=>exact zA.me (λ_=>rfl) h
 |extract _ _=>exact zA.pu (λ_=>rfl) h
 |call c=>exact ZX h
 |_=>exact h.elim
theorem ZZ{t:Nat}:Aa l t=f<->t∈l:=by
 induction l with
 |nil=>exact⟨(λh=>by cases h),(λh=>by cases h)⟩
 |cons x l ih=>
  show bR (ay x t) f (Aa l t)=f<->_
  by_cases e:x=t
  .subst e;rw[show ay x x=f from dw x];simp[nT]
  .rw[show ay x t=aA from by rw[<-bY];exactλg=>e<|aT g];rw[jL,ih,bM];exact⟨.inr,λh=>h.resolve_left λg=>e g.symm⟩
theorem adE{t rg:Nat}(h:rg∈qj l t):rg∈l/\rg≠t:=by
 induction l with
 |nil=>cases h
 |cons x l ih=>
  replace h:rg∈bR (ay x t) (qj l t) (x::qj l t):=h
  by_cases e:x=t
  .subst e;rw[show ay x x=f from dw x,nT]at h;exact⟨bH _ (ih h).1,(ih h).2⟩
  .rw[show ay x t=aA from by rw[<-bY];exactλg=>e<|aT g,jL,bM]at h;rcases h with h|h
   .subst h;exact⟨aL ..,e⟩
   .exact⟨bH _ (ih h).1,(ih h).2⟩
def Left(s:St)(sk:List Nat):Prop:=∀t,t∈sk->ig s t=undef
def Left.put{s:St}(h:Left s sk)(d:Option Nat)(v:D)(H:F):Left (jg s d v H) (lz sk d):=by
 cases d with
 |none=>exactλt ht=>h t ht
 |some d=>
  intro t ht;obtain⟨Q,I⟩:=adE (l:=sk) ht;show ig (qi s d v H) t=_;rw[yD,if_neg λg=>I g.1.symm];exact h t Q
def Left.skip{s:St}(h:Left s sk)(d:Option Nat):Left (jg s d undef s.H) (Lp s sk d):=by
 cases d with
 |none=>exactλt ht=>h t ht
 |some d=>
  intro t ht;show ig (qi s d undef s.H) t=_;rw[yD];split
  .rfl
  .next hn=>
   replace ht:t∈bR (wr s d) (d::sk) sk:=ht;cases hw:wr s d with
   |true=>
    rw[hw,nT,bM]at ht;rcases ht with e|ht
    .exact absurd ⟨e.symm,hw⟩ hn
    .exact h t ht
   |false=>rw[hw]at ht;exact h t ht
def Left.gW{s:St}(h:Left s sk):Left (gW s) sk:=h
def NT{v:Option Bool}(h:BI v A vn):(v=Z f/\A)\/(v=Z aA/\vn):=by
 cases v with
 |none=>exact h.elim
 |some b=>cases b with
  |true=>exact .inl ⟨O,h⟩
  |false=>exact .inr ⟨O,h⟩
def Z0{s:St}{g:Option (Nat×Bool)}{K:Bool->St->List Nat->Prop}(hl:Left s sk)(h:GuW ops s sk g K):
 ∃b s' sk',qy ops s g=Z b/\nV s s'/\Left s' sk'/\K b s' sk':=by
 cases g with
 |none=>exact⟨f,s,sk,O,nV.refl s,hl,h⟩
 |some g=>
  cases ho:nth ops.toList g.1 with
  |none=>
   unfold GuW at h;replace h:@aN Oper (λ_=>Prop) False _ (nth ops.toList g.1):=h;rw[ho]at h;exact h.elim
  |some o=>
   cases ht:o.dst with
   |none=>
    unfold GuW at h;replace h:@aN Oper (λ_=>Prop) False _ (nth ops.toList g.1):=h;rw[ho]at h;replace h:@aN Nat (λ_=>Prop) False _ o.dst:=h;rw[ht]at h;exact h.elim
   |some t=>
    unfold GuW at h;replace h:@aN Oper (λ_=>Prop) False _ (nth ops.toList g.1):=h;rw[ho]at h;replace h:@aN Nat (λ_=>Prop) False _ o.dst:=h;rw[ht]at h
    have hy:∀hc,(@aN Bool (λ_=>Option<|Option Bool) (gd (isU<|ig s t)<|Z W) (λb=>Z<|Z b)<|jH<|ig s t)=Z hc->AJ ops s g.1=Z hc:=by
     intro hc hy;unfold AJ;rw[ho];show(aK o.dst _)=_;rw[ht];exact hy
    have hw:∀hc,AJ ops s g.1=Z hc->qy ops s (Z g)=Z (@aN Bool (λ_=>Bool) aA (λb=>Au b g.2) hc):=by
     intro hc hy;show L_ ops s g=_;unfold L_;rw[hy];rfl
    cases he:Aa sk t with
    |true=>
     replace h:@gq (λ_=>Prop) _ (K aA s sk) (Aa sk t):=h;rw[he]at h;refine⟨aA,s,sk,?_,nV.refl s,hl,h⟩;have hu:=hl t<|ZZ.1 he;exact hw W<|hy W (by rw[hu];rfl)
    |false=>
     replace h:@gq (λ_=>Prop) (BI (jH<|ig s t) (K (Au f g.2) (qi s t (.bool f) s.H)<|qj sk t)<|K (Au aA g.2) (qi s t (.bool aA) s.H)<|qj sk t) (K aA s sk) (Aa sk t):=h;rw[he]at h
     have fin:∀b,jH (ig s t)=Z b->K (Au b g.2) (qi s t (.bool b) s.H) (qj sk t)->∃b s' sk',qy ops s (Z g)=Z b/\nV s s'/\Left s' sk'/\K b s' sk':=by
      intro b hb hk;refine⟨_,_,_,hw (Z b)<|hy (Z b)<|by rw[hb],?_,Left.put hl (Z t) _ _,hk⟩;have hv:=oO hb;have:=nV.same s t;rw[hv]at this;exact this
     rcases NT h with⟨Q,I⟩|⟨Q,I⟩
     .exact fin _ Q I
     .exact fin _ Q I
def Z4:∀{l:List Oper}{s:St}{sk:List Nat}{K:St->Prop},Left s sk->Ab P X ops l s sk K->∃s' s2,Ro P X ops l s s'/\nV s' s2/\K s2:=by
 intro l
 induction l with
 |nil=>intro s sk K _ h;exact⟨s,s,Ro.nil,nV.refl s,h⟩
 |cons o l ih=>
  intro s0 sk0 K hl0 h
  obtain⟨b,s,sk,hw,he,hl,h⟩:=Z0 (K:=λb s sk=>@gq (λ_=>Prop)
   (Ab P X ops l (jg s o.dst undef s.H) (Lp s sk o.dst) K)
   (@aN Call (λ_=>Prop) (YB o.op P X s (λv=>Ab P X ops l (jg s o.dst v s.H) (lz sk o.dst) K) λv H=>Ab P X ops l (jg s o.dst v H) (lz sk o.dst) K) (λ_=>False)<|qM o.op)
   b) hl0 h
  have fin:∀k s1 sk1,l7 P (j5 P X k) ops o s0=Z s1\/l7 P (j5 P X k) ops o s=Z s1->Left s1 sk1->Ab P X ops l s1 sk1 K->∃s' s2,Ro P X ops (o::l) s0 s'/\nV s' s2/\K s2:=by
   intro k s1 sk1 hst hl1 hK;obtain⟨s',s2,h3,h4,h5⟩:=ih hl1 hK;rcases hst with hst|hst
   .exact⟨s',s2,Ro.cons ⟨k,hst⟩ h3,h4,h5⟩
   .have J:=he.l7 (P:=P) (cf:=j5 P X k) ops o;rw[hst]at J;generalize hz:l7 P (j5 P X k) ops o s0=z at J;cases J with
    |some J=>
     rename_i s3;obtain⟨k2,h3⟩:=h3;have hy:=nV.mF (P:=P) (cf:=j5 P X k2) ops l J;rw[h3]at hy;generalize hq:mF P (j5 P X k2) ops l s3=q at hy;cases hy with
     |some hy=>exact⟨_,s2,Ro.cons ⟨k,hz⟩ ⟨k2,hq⟩,hy.trans h4,h5⟩
  have hw':qy ops s o.guard=Z b:=by rw[<-he.qy];exact hw
  cases b with
  |false=>
   refine fin 0 _ _ (.inr ?_) (Left.skip hl o.dst) h;unfold l7;rw[hw'];rfl
  |true=>
   cases hd:qM o.op with
   |some c=>
    replace h:@aN Call (λ_=>Prop) _ (λ_=>False) (qM o.op):=h;rw[hd]at h;exact h.elim
   |none=>
    replace h:@aN Call (λ_=>Prop) (YB o.op P X s (λv=>Ab P X ops l (jg s o.dst v s.H) (lz sk o.dst) K) λv H=>Ab P X ops l (jg s o.dst v H) (lz sk o.dst) K) (λ_=>False) (qM o.op):=h;rw[hd]at h
    have st:∀k v H,D5 o s (yh o.op P (j5 P X k) s)=Z (jg s o.dst v H)->l7 P (j5 P X k) ops o s=Z (jg s o.dst v H):=by
     intro k v H he;unfold l7;rw[hw'];show zi P (j5 P X k) o s=_;unfold zi;rw[hd];exact he
    obtain⟨k,⟨v,Q,I⟩|⟨v,H,Q,I⟩⟩:=ZY h
    .exact fin k _ _ (.inr<|st k v s.H (by rw[Q];rfl)) (Left.put hl o.dst v s.H) I
    .exact fin k _ _ (.inr<|st k v H (by rw[Q];rfl)) (Left.put hl o.dst v H) I
def RoD.ais{o:Oper}{l:List Oper}{s s1:St}{c:Cl}{r:St×List Cl}(Q:kS P (j5 P X k) ops o s=Z (s1,c))(I:RoD P X ops l s1 (c::acc) r):RoD P X ops (o::l) s acc r:=by
 obtain⟨k2,I⟩:=I;refine⟨max k k2,?_⟩;show(aK (kS P (j5 P X<|max k k2) ops o s) λq=>jd P (j5 P X<|max k k2) ops l q.1<|q.2::acc)=_;rw[show kS P (j5 P X<|max k k2) ops o s=Z (s1,c)from E_ (yu k _<|mR k k2).1 Q];exact Fb (yu k2 _<|jW k k2).1 I
def agD:∀{l:List Oper}{s:St}{sk:List Nat}{acc:List Cl}{K:St->List Cl->Prop},Left s sk->SK P X ops l s sk acc K->∃s' s2 cls,RoD P X ops l s acc (s',cls)/\nV s' s2/\K s2 cls:=by
 intro l
 induction l with
 |nil=>intro s sk acc K _ h;exact⟨s,s,acc,⟨0,O⟩,nV.refl s,h⟩
 |cons o l ih=>
  intro s0 sk0 acc K hl0 h
  obtain⟨b,s,sk,hw,he,hl,h⟩:=Z0 (K:=λb s sk=>@gq (λ_=>Prop)
   (SK P X ops l (jg s o.dst undef s.H) (Lp s sk o.dst) (cl 0::acc) K)
   (YB o.op P X (gW s) (λv=>SK P X ops l (jg s o.dst v s.H) (lz sk o.dst) (cl 0::acc) K) λv H=>SK P X ops l (jg s o.dst v ⟨H.vF,H.next,nN s.H.low H.low⟩) (lz sk o.dst) (rM P o.op s H::acc) K)
   b) hl0 h
  have fin:∀k s1 sk1 c,kS P (j5 P X k) ops o s=Z (s1,c)->Left s1 sk1->SK P X ops l s1 sk1 (c::acc) K->∃s' s2 cls,RoD P X ops (o::l) s0 acc (s',cls)/\nV s' s2/\K s2 cls:=by
   intro k s1 sk1 c hst hl1 hK;obtain⟨s',s2,cls,h3,h4,h5⟩:=ih hl1 hK;have J:=he.kS (P:=P) (cf:=j5 P X k) ops o;rw[hst]at J;generalize hz:kS P (j5 P X k) ops o s0=z at J;cases J with
   |some _ J=>
    rename_i s3;obtain⟨k2,h3⟩:=h3;have hy:=nV.jd (P:=P) (cf:=j5 P X k2) ops l (c::acc) J;rw[h3]at hy;generalize hq:jd P (j5 P X k2) ops l s3 (c::acc)=q at hy;cases hy with
    |some _ hy=>exact⟨_,s2,cls,RoD.ais hz ⟨k2,hq⟩,hy.trans h4,h5⟩
  have hw':qy ops s o.guard=Z b:=by rw[<-he.qy];exact hw
  cases b with
  |false=>
   refine fin 0 _ _ (cl 0) ?_ (Left.skip hl o.dst) h;unfold kS;rw[hw'];rfl
  |true=>
   obtain⟨k,⟨v,Q,I⟩|⟨v,H,Q,I⟩⟩:=ZY h
   .refine fin k _ _ (cl 0) ?_ (Left.put hl o.dst v s.H) I;unfold kS;rw[hw'];show GY P o s (yh o.op P (j5 P X k)<|gW s)=_;rw[Q];rfl
   .refine fin k _ _ (rM P o.op s H) ?_ (Left.put hl o.dst v ⟨H.vF,H.next,nN s.H.low H.low⟩) I;unfold kS;rw[hw'];show GY P o s (yh o.op P (j5 P X k)<|gW s)=_;rw[Q];rfl
def gJ.alike{c:Code}{s s':St}{K:Out->Prop}(he:nV s s')(h:gJ P X c s' K):gJ P X c s K:=by
 obtain⟨o,o',Q,I,h3⟩:=h;obtain⟨o2,h4,h5⟩:=Ev.alike he.symm Q;refine⟨o2,o',h5,?_,h3⟩
 have:Av o2 o:=by
  cases h4 with
  |fail=>exact .fail
  |norm h=>exact .norm h.symm
  |exit i h=>exact .exit i h.symm
  |goto l h=>exact .goto l h.symm
  |ret h=>exact .ret h.symm
 exact this.trans I
def Left.nil(s:St):Left s []:=λt h=>by cases h
def adF{id:Nat}{s:St}{K:Out->Prop}(h:akY P X ops d s K):gJ P X (.region id ops d) s K:=by
 cases d with
 |false=>
  obtain⟨s',s2,Q,I,h3⟩:=Z4 (l:=ops.toList) (s:=clear s) (K:=λs=>K<|.norm s) (Left.nil _) h;exact⟨_,_,Ev.region Q,.norm I,h3⟩
 |true=>
  cases hst:(j4 ops&&oN ops)with
  |false=>
   have h':@gq (λ_=>Prop) False (SK P X ops ops.toList (clear s) [] [] λs cls=>jI ops cls=f/\K (.norm s)) (j4 ops&&oN ops):=h;rw[hst]at h';exact h'.elim
  |true=>
   have h':@gq (λ_=>Prop) False (SK P X ops ops.toList (clear s) [] [] λs cls=>jI ops cls=f/\K (.norm s)) (j4 ops&&oN ops):=h;rw[hst]at h';obtain⟨s',s2,cls,Q,he,I,h3⟩:=agD (Left.nil _) h';exact⟨_,_,Ev.PL hst Q I,.norm he,h3⟩
def gJ.mono{c:Code}{s:St}{K K':Out->Prop}(h:gJ P X c s K)(hk:∀o,K o->K' o):gJ P X c s K':=by
 obtain⟨o,o',Q,I,h3⟩:=h;exact⟨o,o',Q,I,hk o' h3⟩
def gJ.seq{a b:Code}{s:St}{K:Out->Prop}(h:gJ P X a s<|sW P X b K):gJ P X (.seq a b) s K:=by
 obtain⟨o,o1,Q,he,I⟩:=h;cases he with
 |fail=>exact absurd O Q.1
 |norm he=>
  obtain⟨o',o2,h3,h5,h4⟩:=gJ.alike he (K:=K) I;exact⟨o',o2,Ev.seq Q h3,h5,h4⟩
 |exit i he=>exact⟨_,_,Ev.ZR Q,.exit i he,I⟩
 |goto l he=>
  refine⟨_,_,?_,.goto l he,I⟩;obtain⟨n1,k1,Q⟩:=Q;refine⟨n1,k1,?_⟩;show andThen (Ff P X k1 a s) (Ff P X k1 b)=_;rw[Q];rfl
 |ret he=>exact⟨_,_,Ev.adA Q,.ret he,I⟩
def gJ.block{id:Nat}{a:Code}{s:St}{K:Out->Prop}(h:gJ P X a s<|rO id K):gJ P X (.block id a) s K:=by
 obtain⟨o,o',Q,he,I⟩:=h;refine⟨wN id o,_,?_,?_,I⟩
 .obtain⟨n1,k1,Q⟩:=Q;refine⟨?_,k1,?_⟩
  .cases o with
   |fail=>exact absurd O n1
   |exit i s'=>
    show bR (ay i id) (Out.norm s') (Out.exit i s')≠.fail;cases ay i id<;>simp[nT,jL]
   |_=>intro e;cases e
  .show wN id (Ff P X k1 a s)=_;rw[Q]
 .cases he with
  |fail=>exact .fail
  |norm he=>exact .norm he
  |exit i he=>
   show Av (bR (ay i id) _ _)<|bR (ay i id) _ _;cases ay i id with
   |true=>exact .norm he
   |false=>exact .exit i he
  |goto l he=>exact .goto l he
  |ret he=>exact .ret he
def agE{ai:Type}(emb:ai->St)(Inv:ai->Prop)(μ:ai->Nat)(n:Nat)(K:Out->Prop):Out->Prop:=λo=>match o with
 |.norm s'=>∃t',s'=emb t'/\Inv t'/\μ t'<n
 |.fail=>False
 |o=>K o
def gJ.loop{ai:Type}{a:Code}{K:Out->Prop}(emb:ai->St)(Inv:ai->Prop)(μ:ai->Nat)(h:∀t,Inv t->gJ P X a (emb t) (agE emb Inv μ (μ t) K)):
 ∀(t:ai),Inv t->gJ P X (.loop a) (emb t) K:=by
 suffices∀n t,μ t<n->Inv t->gJ P X (.loop a) (emb t) K fromλt ht=>this (μ t+1) t (dI _) ht;intro n
 induction n with
 |zero=>intro t hn;omega
 |succ n ih=>
  intro t hn hI;obtain⟨o,o',Q,he,I⟩:=h t hI;cases he with
  |fail=>exact I.elim
  |norm he=>
   obtain⟨t',rfl,h3,h4⟩:=I;obtain⟨o',o2,h5,h7,h6⟩:=gJ.alike he<|ih t' N h3;exact⟨o',o2,Ev.adB Q h5,h7,h6⟩
  |exit i he=>exact⟨_,_,Ev.ZS Q,.exit i he,I⟩
  |goto l he=>
   refine⟨_,_,?_,.goto l he,I⟩;obtain⟨n1,k1,Q⟩:=Q;refine⟨n1,k1+1,?_⟩;show andThen (Ff P X (k1+1) a<|emb t) _=_;rw[A_ Q n1 (iG _)];rfl
  |ret he=>exact⟨_,_,Ev.ZT Q,.ret he,I⟩
def aJ.mono{g:FuncId}(h:aJ P X g args H K)(hk:∀v C,K v C->K' v C):aJ P X g args H K':=by
 obtain⟨v,C,Q,I⟩:=h;exact⟨v,C,Q,hk _ _ I⟩
def jR(P:aS)(rs:List ResultVar)(K:D->F->Prop):Out->Prop:=λo=>
 @Out.rec (λ_=>Prop) False (λs=>s.df=[]/\@aN (List D) (λ_=>Prop) False (λvs=>K (rV vs) s.H) (kZ P s rs)) (λ_ _=>False) (λ_ _=>False)
  (λs=>s.df=[]/\@aN (List D) (λ_=>Prop) False (λvs=>K (rV vs) s.H) (kZ P s rs)) o
def Dk(args:List D)(n:Nat):Tr D:=Tr.sD top (app args<|YS top<|dA n<|len args) 0 .nil
def PN(args:List D)(n k:Nat):(Tr.sD top args 0 .nil).get top k=(Dk args n).get top k:=by
 unfold Dk;rw[Tr.lV,Tr.lV,qd];simp only[bg,true_and,aW,jT];have hrep:∀m,(YS top m).length=m:=by intro m;induction m with|zero=>rfl|succ m ih=>exact dV bU ih
 have hget:∀m j,(YS top m).getD j top=top:=by
  intro m
  induction m with
  |zero=>intro j;rfl
  |succ m ih=>intro j;cases j with
   |zero=>rfl
   |succ j=>exact ih j
 by_cases Q:k<args.length
 .rw[if_pos Q,if_pos (by simp;omega)];simp[bC,bJ Q]
 .rw[if_neg Q];split
  .rw[bC,dS N,<-bC,hget,Tr.get_nil]
  .rfl
theorem aJ.body{g:FuncId}{c:Code}(hor:X.o g args H=W)(hg:nth P.funcs.toList g=Z fn)(hb:fn.body=Z c)(hl:aB (len args) fn.ntmps=f)(hn:jm P g=nl)(h:gJ P X c ⟨nl,fn.ntmps,[],Dk args fn.ntmps,[],H⟩<|jR P fn.results.toList K):aJ P X g args H K:=by
 obtain⟨o,o1,Q,h0,I⟩:=h;subst hn
 have he:nV ⟨jm P g,fn.ntmps,[],Dk args fn.ntmps,[],H⟩ ⟨jm P g,fn.ntmps,[],Tr.sD top args 0 .nil,[],H⟩:=⟨O,O,O,O,λk=>by
  show bR (gQ (jm P g) k) ((Dk args fn.ntmps).get top k) _=bR (gQ (jm P g) k) ((Tr.sD top args 0 .nil).get top k) _;rw[PN args fn.ntmps k]⟩
 obtain⟨o',h3,h4⟩:=Ev.alike he Q
 have fin:∀s s':St,nV s' s->Nn o'=Z s'->(s.df=[]/\@aN (List D) (λ_=>Prop) False (λvs=>K (rV vs) s.H) (kZ P s fn.results.toList))->aJ P X g args H K:=by
  intro s s' hs ho ⟨hd,R⟩;rw[<-hs.kZ]at R;cases ha:kZ P s' fn.results.toList with
  |none=>rw[ha]at R;exact R.elim
  |some vs=>
   rw[ha]at R;refine⟨_,_,Ca.body hor hg hb hl h4 ho ?_ ha,?_⟩
   .rw[hs.df,hd];rfl
   .rw[hs.H];exact R
 have ak0:Av o' o:=by
  cases h3 with
  |fail=>exact .fail
  |norm h=>exact .norm h.symm
  |exit i h=>exact .exit i h.symm
  |goto l h=>exact .goto l h.symm
  |ret h=>exact .ret h.symm
 have h5:=ak0.trans h0;cases h5 with
 |fail=>exact I.elim
 |norm hs=>exact fin _ _ hs O I
 |exit i hs=>exact I.elim
 |goto l hs=>exact I.elim
 |ret hs=>exact fin _ _ hs O I
def PO{b:Code}{K:Out->Prop}{s:St}:sW P X b K (.norm s)=gJ P X b s K:=rfl
def PR{b:Code}{K:Out->Prop}{s:St}{i:Nat}:sW P X b K (.exit i s)=K (.exit i s):=rfl
def U0{b:Code}{K:Out->Prop}{s:St}:sW P X b K (.ret s)=K (.ret s):=rfl
def PS{K:Out->Prop}{s:St}{i:Nat}:rO i K (.norm s)=K (.norm s):=rfl
def U1{K:Out->Prop}{s:St}{i:Nat}:rO i K (.ret s)=K (.ret s):=rfl
def PT{K:Out->Prop}{s:St}{i:Nat}:rO i K (.exit i s)=K (.norm s):=by
 show K (bR (ay i i) _ _)=_;rw[show ay i i=f from dw i];rfl
def PV{K:Out->Prop}{s:St}(h:j≠i):rO i K (.exit j s)=K (.exit j s):=by
 show K (bR (ay j i) _ _)=_;rw[show ay j i=aA from by rw[<-bY];exactλg=>h<|aT g];rfl
def PW{A vn:Prop}:BI (Z f) A vn=A:=rfl
def MC{A vn:Prop}:BI (Z aA) A vn=vn:=rfl
def Ja{v:D}{K:D->Prop}:PU (Z v) K=K v:=rfl
def U2{v:D}{H:F}{K:D->F->Prop}:ME (Z (v,H)) K=K v H:=rfl
def U3{v:D}{q:Option (D×F)}{Kp:D->Prop}{Km:D->F->Prop}:CV (Z v) q Kp Km=Kp v:=rfl
end mem
def kid(c:Code)(i:Nat):Code:=
 @Code.rec (λ_=>Nat->Code) (λ_=>.skip) (λ_ _ _ _=>.skip) (λa b _ _ i=>@jq (λ_=>Code) a (λ_ _=>b) i)
  (λ_ a b _ _ i=>@jq (λ_=>Code) a (λ_ _=>b) i) (λ_ a _ _=>a) (λa _ _=>a) (λ_ _ _ _ _ _ _=>.skip) (λ_ _=>.skip) (λa _ _=>a) (λ_ _=>.skip) (λ_ _=>.skip) (λ_=>.skip) (λ_ _=>.skip) c i
def sub(c:Code)(p:List Nat):Code:=@b_ Nat (λ_=>Code->Code) (λc=>c) (λi _ ih c=>ih<|kid c i) p c
def opsOf(c:Code):Array Oper:=
 @Code.rec (λ_=>Array Oper) #[] (λ_ ops _=>ops) (λ_ _ _ _=>#[]) (λ_ _ _ _ _=>#[]) (λ_ _ _=>#[]) (λ_ _=>#[]) (λ_ _ _ _ _ _=>#[]) (λ_=>#[]) (λ_ _=>#[]) (λ_=>#[]) (λ_=>#[]) #[] (λ_=>#[]) c
def NU(av:Func):Code:=@aN Code (λ_=>Code) .skip (λc=>c) av.body
def fld(off:Nat)(x:D):Option D:=aK (qg x) λa=>Z<|.pointer<|Z ⟨a.block,aV a.off off,W⟩
def agF(l:Option Nat)(off:Nat)(x:D):Option D:=aK (wm x) λE=>apart l E off
def uP(l:Option Nat)(x:D)(H:F):Option (D×F):=aK (qg x) λa=>loadAt l a H
def Cq(n:Nat)(x v:D)(H:F):Option (D×F):=
 aK (qg x) λa=>gd (ay (len<|bI v) n)<|aK (H.write a.block a.off<|bI v) λC=>Z (undef,C)
def Ac(es:Nat)(x i:D):Option D:=aK (zh i) λk=>aK (Iz x) λp=>aK p.1 λa=>gd (aB (bU k) p.2.1)<|Z<|.pointer<|Z ⟨a.block,aV a.off<|bL k es,W⟩
def idR(n es:Nat)(x i:D):Option D:=aK (zh i) λk=>aK (qg x) λa=>gd (aB (bU k) n)<|Z<|.pointer<|Z ⟨a.block,aV a.off<|bL k es,W⟩
def idS(x i:D):Option D:=aK (zh i) λk=>aK (tC x) λs=>aK (nth s.data.toList k) λb=>Z<|.int .u8<|.ofNat b.toNat
def U4(es:Nat)(x:D)(lo hi mx:Option D):Option D:=aK (Iz x) λp=>Uu es p lo hi mx
def slT(x:D)(lo hi mx:Option D):Option D:=aK (tC x) λs=>gd (eX mx)<|Nj s lo hi
def ait(x:D):Option D:=aK (Iz x) λp=>Z<|.int .i64<|.ofNat p.2.1
def aiu(x:D):Option D:=aK (tC x) λs=>Z<|.int .i64<|.ofNat<|len s.data.toList
def iZ(e:aG)(z:List D)(H:F):Option (D×F):=Z (L8 H.next,H.new<|rowOf e z)
def mkS(e:aG)(z:List D)(l c:D)(H:F):Option (D×F):=
 aK (zh l) λn=>aK (zh c) λm=>gd (aB n m&&aB m 16777216&&f)<|Z (T (Z ⟨H.next,0,W⟩) n m,H.new<|rowOf e<|oL z m)
def zB(e:aG)(es:Nat)(s x:D)(H:F):Option (D×F):=
 aK (Iz s) λp=>aK (appended H es x) λr=>gd (aB r.1 16777216)<|O7 (e,es) s p r.1 r.2 H
def cpA(es:Nat)(d x:D)(H:F):Option (D×F):=
 aK (Iz d) λp=>aK (appended H es x) λe=>
  @aN Addr (λ_=>Option<|D×F) (gd (ay p.2.1 0)<|Z (.int .i64 0,H))
   (λa=>aK (H.write a.block a.off<|tk (bL (bR (aB e.1 p.2.1) e.1 p.2.1) es) e.2) λC=>Z (.int .i64<|.ofNat<|bR (aB e.1 p.2.1) e.1 p.2.1,C)) p.1
def clA(z:List D)(d:D)(H:F):Option (D×F):=
 aK (Iz d) λp=>@aN Addr (λ_=>Option<|D×F) (Z (.tuple #[],H)) (λa=>aK (H.write a.block a.off<|oL z p.2.1) λC=>Z (.tuple #[],C)) p.1
def Ls(x:D):Option (FuncId×List D×List D):=aK (YO x) λq=>aK (fFn q.1) λg=>Z (g,q.2)
def hN(H:F):F:=⟨H.vF,H.next,H.next⟩
def hM(H C:F):F:=⟨C.vF,C.next,nN H.low C.low⟩
def Dq(H C:F):Cl:=bR (aB H.next C.low) (cl 1) ⟨2,0,0,0,H,C⟩
def Lt(H C:F):Cl:=bR (aB H.next C.low) (cl 5) ⟨2,0,0,0,H,C⟩
def clL(n:Nat)(x:D)(H C:F):Cl:=bR (aB H.next C.low) ((aK (qg x) λa=>Z<|Cl.mk 4 a.block a.off n hh0 hh0).getD<|cl 1) ⟨2,0,0,0,H,C⟩
def clS(x v:D)(H C:F):Cl:=@aN Addr (λ_=>Cl) ⟨2,0,0,0,H,C⟩ (λa=>⟨3,a.block,a.off,len<|bI v,hh0,hh0⟩)<|qg x
def FV(hr:Nat->St->Prop)(n:Nat)(K:Out->Prop):Out->Prop:=λo=>
 @Out.rec (λ_=>Prop) False (λs=>∃m,m<n/\hr m s) (λi s=>K<|.exit i s) (λl s=>K<|.goto l s) (λs=>K<|.ret s) o
def PX{hr:Nat->St->Prop}{n:Nat}{K:Out->Prop}{s:St}:FV hr n K (.norm s)=∃m,m<n/\hr m s:=rfl
def PY{hr:Nat->St->Prop}{n:Nat}{K:Out->Prop}{s:St}{i:Nat}:FV hr n K (.exit i s)=K (.exit i s):=rfl
def U5{hr:Nat->St->Prop}{n:Nat}{K:Out->Prop}{s:St}:FV hr n K (.ret s)=K (.ret s):=rfl
theorem gJ.Cr{P:aS}{X:Xt}{a:Code}{K:Out->Prop}{hr:Nat->St->Prop}(h:∀n s,hr n s->gJ P X a s (FV hr n K)):∀n s,hr n s->gJ P X (.loop a) s K:=by
 intro n s hs;refine gJ.loop (ai:=Nat×St) (λt=>t.2) (λt=>hr t.1 t.2) (λt=>t.1) ?_ (n,s) hs;rintro⟨n,s⟩ hR;refine gJ.mono (h n s hR) λo ho=>?_;cases o with
 |fail=>exact ho
 |norm s'=>
  obtain⟨m,Q,I⟩:=ho;exact⟨(m,s'),O,I,Q⟩
 |exit i s'=>exact ho
 |goto l s'=>exact ho
 |ret s'=>exact ho
abbrev Aw:=look
def SL(P:aS)(s:St)(rs:List ResultVar):(List D->Prop)->Prop:=
 @b_ ResultVar (λ_=>(List D->Prop)->Prop) (λk=>k []) (λr _ ih k=>
  @ResultVar.rec (λ_=>Prop) (λt=>ih λvs=>k<|ig s t::vs) (λa t=>ME (vJ P t (ig s a) s.H) λv _=>ih λvs=>k<|v::vs) r) rs
def U6{P:aS}{s:St}:∀{rs:List ResultVar}{k:List D->Prop},SL P s rs k->∃vs,kZ P s rs=Z vs/\k vs:=by
 intro rs
 induction rs with
 |nil=>intro k h;exact⟨[],O,h⟩
 |cons r rs ih=>
  intro k h;cases r with
  |tmp t=>
   obtain⟨vs,Q,I⟩:=ih (k:=λvs=>k<|ig s t::vs) h;refine⟨ig s t::vs,?_,I⟩;show(aK (Z<|ig s t) λv=>aK (kZ P s rs) λvs=>Z<|v::vs)=_;rw[Q];rfl
  |cell a t=>
   obtain⟨v,C,h0,h⟩:=ae0 (K:=λv _=>SL P s rs λvs=>k<|v::vs) h;obtain⟨vs,Q,I⟩:=ih (k:=λvs=>k<|v::vs) h;refine⟨v::vs,?_,I⟩;show(aK (aK (vJ P t (ig s a) s.H) λp=>Z p.1) λv=>aK (kZ P s rs) λvs=>Z<|v::vs)=_;rw[h0,Q];rfl
def Z5{P:aS}{s:St}(hd:s.df=[])(h:SL P s rs λvs=>K (rV vs) s.H):jR P rs K (.ret s):=by
 obtain⟨vs,Q,I⟩:=U6 h;refine⟨hd,?_⟩;rw[Q];exact I
def Xo{P:aS}{s:St}(hd:s.df=[])(h:SL P s rs λvs=>K (rV vs) s.H):jR P rs K (.norm s):=by
 obtain⟨vs,Q,I⟩:=U6 h;refine⟨hd,?_⟩;rw[Q];exact I
section
def uF(H:F)(r:Nat)(o:lu)(q:Nat):(H.put r o).obj q=if q=r then o else H.obj q:=Tr.uM _ _ _ _ _
def xF(H:F)(o:lu)(q:Nat):(H.new o).obj q=if q=H.next then o else H.obj q:=Tr.uM _ _ _ _ _
def uG(H:F)(r:Nat)(o:lu):(H.put r o).low=min H.low r:=by
 show bR (aB H.low r) H.low r=_;cases h:aB H.low r with
 |true=>have:=aD h;rw[nT,iT this]
 |false=>
  have:¬H.low<=r:=λg=>by rw[aH g]at h;cases h
  rw[jL,uf N]
def Bk(H:F)(r:Nat)(ty:aG)(E:List D):Prop:=
 ∃hr:Row,H.obj r=.row hr/\hr.ty=ty/\hr.n=E.length/\hr.kR=aA/\hr.fz=0/\∀i(h:i<E.length),hr.cells.get top i=E[i]
def Bk.cell{r:Nat}(h:Bk H r ty E)(hv:E[o]?=Z v):H.cell r o=Z v:=by
 obtain⟨hr,Q,_,I,_,_,h3⟩:=h;obtain⟨ho,hv⟩:=bA.1 hv;unfold F.cell;rw[Q];show gd (aB (bU o) hr.n) (Z<|hr.cells.get top o)=_;rw[I,aH N,h3 o ho,hv];rfl
def Bk.jf{r:Nat}(h:Bk H r ty E)(e:C.obj r=H.obj r):Bk C r ty E:=by
 obtain⟨hr,Q,I⟩:=h;exact⟨hr,e.trans Q,I⟩
def lQ{r:Nat}(e:C.obj r=H.obj r)(o:Nat):C.cell r o=H.cell r o:=by unfold F.cell;rw[e]
def vw{r:Nat}(e:C.obj r=H.obj r)(o n:Nat):C.read r o n=H.read r o n:=by unfold F.read;rw[e]
def Bk.new(H:F)(ty:aG)(E:List D):Bk (H.new<|rowOf ty E) H.next ty E:=by
 refine⟨⟨ty,Tr.sD top E 0 .nil,len E,aA,0⟩,by rw[xF,if_pos O];rfl,rfl,fQ E,rfl,rfl,λi h=>?_⟩;rw[Tr.lV,if_pos N,bC];simp[h]
def Z6:∀{k:Nat}(t:Tr D)(E:List D),k+n<=E.length->(∀i(h:i<E.length),t.get top i=E[i])->Tr.DX top t k n=(E.drop k).take n:=by
 induction n with
 |zero=>intro k t E _ _;rw[Tr.B6];simp
 |succ n ih=>
  intro k t E hk ht;rw[Tr.xx,ih t E N ht,ht k N,dN (by omega:k<E.length),jO]
def Bk.read{r:Nat}(h:Bk H r ty E)(hn:o+n<=E.length):H.read r o n=Z ((E.drop o).take n):=by
 obtain⟨hr,Q,_,I,_,_,h3⟩:=h;cases n with
 |zero=>show Z []=_;simp
 |succ n=>
  show(aK (vE<|H.obj r) λw=>gd (aB (aV o<|n+1) w.n)<|Z<|Tr.DX top w.cells o<|n+1)=_;rw[Q];show gd (aB (aV o<|n+1) hr.n) (Z<|Tr.DX top hr.cells o<|n+1)=_;rw[I,aH<|by simpa using hn,Z6 hr.cells E hn h3];rfl
def splice(E:List D)(o:Nat)(vs:List D):List D:=E.take o++vs++E.drop (o+vs.length)
def lY(h:o+vs.length<=E.length):(splice E o vs).length=E.length:=by unfold splice;simp;omega
def qo(h:o+vs.length<=E.length)(i:Nat):(splice E o vs)[i]?=if o<=i/\i<o+vs.length then vs[i-o]? else E[i]?:=by
 unfold splice;rw[bP,qH,qH];simp only[eH]
 by_cases Q:i<o
 .rw[if_pos N,if_neg N,iU,if_pos Q]
 .rw[if_neg N]
  by_cases I:i<o+vs.length
  .rw[if_pos N,if_pos ⟨N,I⟩];congr 1;omega
  .rw[if_neg N,if_neg N,oZ];congr 1;omega
theorem Bk.write{r:Nat}(h:Bk H r ty E)(hn:o+vs.length<=E.length)(hk:all' fB vs=f):
 ∃C,H.write r o vs=Z C/\Bk C r ty (splice E o vs)/\C.next=H.next/\(∀q,q≠r->C.obj q=H.obj q)/\(C.low=min H.low r\/C.low=H.low):=by
 obtain⟨hr,Q,I,h3,h4,h5,h6⟩:=h;cases vs with
 |nil=>
  refine⟨H,O,⟨hr,Q,I,by rw[lY hn];exact h3,h4,h5,λi hi=>?_⟩,rfl,λ_ _=>rfl,.inr O⟩;have hi':i<E.length:=by rwa [lY hn]at hi
  have:=qo hn i;rw[if_neg (λh=>absurd h.2 (by simp;omega)),au hi,au hi']at this;rw[h6 i hi'];exact(dH this).symm
 |cons v vs'=>
  have hw:H.write r o (v::vs')=Z (H.put r<|.row ⟨hr.ty,Tr.sD top (v::vs') o hr.cells,hr.n,aA,hr.fz⟩):=by
   show(aK (vE<|H.obj r) λw=>gd (!w.kR&&aB (aV o<|len<|v::vs') w.n&&aB w.fz o&&all' fB (v::vs'))<|Z<|H.put r<|.row ⟨w.ty,Tr.sD top (v::vs') o w.cells,w.n,aA,w.fz⟩)=_;rw[Q];show gd (!hr.kR&&aB (aV o<|len<|v::vs') hr.n&&aB hr.fz o&&all' fB (v::vs')) _=_;rw[hk,h4,h3,h5,fQ,aH<|by simpa using hn,aH<|bg o];rfl
  refine⟨_,hw,⟨⟨hr.ty,Tr.sD top (v::vs') o hr.cells,hr.n,aA,hr.fz⟩,by rw[uF,if_pos O],I,by rw[lY hn];exact h3,O,h5,λi hi=>?_⟩,rfl,λq hq=>by rw[uF,if_neg hq],.inl<|uG _ _ _⟩;have hi':i<E.length:=by rwa [lY hn]at hi
  have hg:=qo hn i;rw[au hi]at hg;show(Tr.sD top (v::vs') o hr.cells).get top i=_;rw[Tr.lV]
  by_cases y:o<=i/\i<o+(v::vs').length
  .rw[if_pos y]at hg|-;rw[bC,<-hg];rfl
  .rw[if_neg y]at hg|-;rw[h6 i hi'];rw[au hi']at hg;exact(dH hg).symm
structure oz(S:List Nat)(H C:F):Prop where
 next:H.next<=C.next
 obj:∀r,r<H.next->r∉S->C.obj r=H.obj r
 low:∀b,b<=H.low->b<=H.next->(∀r∈S,b<=r)->b<=C.low
 wf:H.low<=H.next->C.low<=C.next
abbrev Wf(H:F):Prop:=H.low<=H.next
abbrev Ext(H C:F):Prop:=oz [] H C
def Ext.refl(H:F):Ext H H:=⟨az _,λ_ _ _=>rfl,λ_ h _ _=>h,λh=>h⟩
def oz.refl(S:List Nat)(H:F):oz S H H:=⟨az _,λ_ _ _=>rfl,λ_ h _ _=>h,λh=>h⟩
def oz.trans{S:List Nat}{A vn H':F}(Q:oz S A vn)(I:oz S vn H'):oz S A H':=
 ⟨aX Q.next I.next,λr R G=>(I.obj r (aP R Q.next) G).trans<|Q.obj r R G,λb hl hn G=>I.low b (Q.low b hl hn G) (aX hn Q.next) G,λh=>I.wf<|Q.wf h⟩
def oz.later{S:List Nat}{A vn H':F}(Q:oz S A vn)(I:oz S' vn H')(G:∀r∈S',r∈S\/A.next<=r):oz S A H':=
 ⟨aX Q.next I.next,λr R hn=>(I.obj r (aP R Q.next) (λh=>by
  rcases G r h with h|h
  .exact hn h
  .omega)).trans (Q.obj r R hn),
  λb hl hn hb=>I.low b (Q.low b hl hn hb) (aX hn Q.next) (λr R=>by
   rcases G r R with h|h
   .exact hb r h
   .omega),λh=>I.wf<|Q.wf h⟩
def oz.weaken{S:List Nat}{A vn:F}(h:oz S A vn)(hs:∀r∈S,r∈S'):oz S' A vn:=⟨h.next,λr R hn=>h.obj r R λg=>hn<|hs r g,λb hl hn hb=>h.low b hl hn λr R=>hb r<|hs r R,h.wf⟩
def Ext.new(H:F)(o:lu):Ext H (H.new o):=⟨iG _,λr R _=>by rw[xF,if_neg N],λ_ h _ _=>h,λh=>pV h⟩
def oz.put(H:F)(r:Nat)(o:lu):oz [r] H (H.put r o):=⟨az _,λq _ hq=>by rw[uF,if_neg λe=>hq<|by simp[e]],λb h _ hb=>by rw[uG];have:=hb r (by simp);omega,λh=>by rw[uG];show min H.low r<=H.next;omega⟩
abbrev dJ:=Nat×aG×List D
structure M(S:List Nat)(H0 H:F)(L:List dJ):Prop where
 ext:oz S H0 H
 bk:∀e∈L,Bk H e.1 e.2.1 e.2.2
 lo:∀e∈L,(e.1∈S\/H0.next<=e.1)/\e.1<H.next
 ne:L.Pairwise λa b=>a.1≠b.1
 wf:H.low<=H.next
variable{S:List Nat}
def M.refl{H:F}(hw:Wf H):M [] H H []:=⟨Ext.refl H,(λe h=>by cases h),(λe h=>by cases h),List.Pairwise.nil,hw⟩
def M.wB{L:List dJ}(G:M [] H0 H L){e:dJ}(he:e∈L):H0.next<=e.1:=(G.lo e he).1.resolve_left λh=>nomatch h
def M.get{L:List dJ}(G:M S H0 H L)(i:Nat){r:Nat}(hi:L[i]?=Z (r,ty,E)):Bk H r ty E:=G.bk _<|aR hi
def M.old{L:List dJ}(G:M [] H0 H L){r:Nat}(R:r<H0.next):H.cell r o=H0.cell r o:=lQ (G.ext.obj r R<|by simp) o
def M.grow{L:List dJ}(G:M S H0 H L)(ty:aG)(E:List D):M S H0 (H.new<|rowOf ty E) ((H.next,ty,E)::L):=by
 refine⟨G.ext.later (Ext.new _ _) (λr h=>nomatch h),?_,?_,?_,(Ext.new _ _).wf G.wf⟩
 .intro e he;rcases bM.1 he with rfl|he
  .exact Bk.new H ty E
  .exact(G.bk e he).jf (by rw[xF,if_neg (by have:=(G.lo e he).2;omega)])
 .intro e he;rcases bM.1 he with rfl|he
  .exact⟨.inr G.ext.next,dI _⟩
  .exact⟨(G.lo e he).1,Nat.lt_succ_of_lt (G.lo e he).2⟩
 .refine List.Pairwise.cons (λe he=>?_) G.ne;have:=(G.lo e he).2;show H.next≠e.1
  omega
def M.turn{A A' L:List dJ}(G:M S H0 H<|A++L)(J:oz (A.map (·.1)) H C)(hb:∀e∈A',Bk C e.1 e.2.1 e.2.2/\(e.1∈A.map (·.1)\/H.next<=e.1)/\e.1<C.next)(hn:A'.Pairwise λa b=>a.1≠b.1):M S H0 C (A'++L):=by
 have hp:=lK.1 G.ne;have hA:∀r∈A.map (·.1),∃e∈A,e.1=r:=λr R=>by simpa using R
 have hnot:∀e∈L,e.1∉A.map (·.1):=λe he h=>by
  obtain⟨a,ha,e1⟩:=hA _ h;exact hp.2.2 a ha e he e1
 refine⟨?_,?_,?_,?_,J.wf G.wf⟩
 .refine oz.later G.ext J (λr R=>?_);obtain⟨a,ha,rfl⟩:=hA r R;exact(G.lo a<|cZ _ ha).1
 .intro e he;rcases bX.1 he with he|he
  .exact(hb e he).1
  .exact(G.bk e<|cO _ he).jf<|J.obj _ (G.lo e<|cO _ he).2<|hnot e he
 .intro e he;rcases bX.1 he with he|he
  .refine⟨?_,(hb e he).2.2⟩;rcases(hb e he).2.1 with h|h
   .obtain⟨a,ha,e1⟩:=hA _ h;rw[<-e1];exact(G.lo a<|cZ _ ha).1
   .have:=G.ext.next;exact .inr N
  .have:=G.lo e (cO _ he);exact⟨this.1,aP this.2 J.next⟩
 .refine lK.2 ⟨hn,hp.2.1,λa ha e he=>?_⟩;rcases(hb a ha).2.1 with h|h
  .exactλe1=>hnot e he (by rw[<-e1];exact h)
  .have:=(G.lo e<|cO _ he).2;omega
theorem M.call{L:List dJ}(G:M S H0 H L)(J:Ext H C):M S H0 C L:=M.turn (A:=[]) (A':=[]) G J (λe h=>nomatch h) List.Pairwise.nil
def M.drop{A L:List dJ}(G:M S H0 H<|A++L):M S H0 H L:=M.turn (A:=A) (A':=[]) G (oz.refl _ _) (λe h=>nomatch h) List.Pairwise.nil
def M.perm{L L':List dJ}(G:M S H0 H L)(hp:L.Perm L'):M S H0 H L':=
 ⟨G.ext,λe he=>G.bk e<|hp.mem_iff.2 he,λe he=>G.lo e<|hp.mem_iff.2 he,hp.pairwise G.ne λh=>h.symm,G.wf⟩
def M.base{L:List dJ}(G:M S H0 H L):M (L.map (·.1)) H H L:=
 ⟨oz.refl _ _,G.bk,λe he=>⟨.inl<|bQ.2 ⟨e,he,rfl⟩,(G.lo e he).2⟩,G.ne,G.wf⟩
def M.over{L L':List dJ}(G:M S H0 H L)(h:M (L.map (·.1)) H C L'):M S H0 C L':=by
 have hA:∀r∈L.map (·.1),∃e∈L,e.1=r:=λr R=>by simpa using R
 refine⟨oz.later G.ext h.ext λr R=>?_,h.bk,λe he=>⟨?_,(h.lo e he).2⟩,h.ne,h.wf⟩
 .obtain⟨a,ha,rfl⟩:=hA r R;exact(G.lo a ha).1
 .rcases(h.lo e he).1 with Q|Q
  .obtain⟨a,ha,e1⟩:=hA _ Q;rw[<-e1];exact(G.lo a ha).1
  .have:=G.ext.next;exact .inr N
def M.lt{L:List dJ}(G:M S H0 H L):∀r∈L.map (·.1),r<H.next:=λr R=>by
 obtain⟨e,he,rfl⟩:=bQ.1 R;exact(G.lo e he).2
def M.weaken{L:List dJ}(G:M S H0 H L)(h:∀r∈S,r∈S'):M S' H0 H L:=
 ⟨G.ext.weaken h,G.bk,λe he=>⟨(G.lo e he).1.imp_left<|h _,(G.lo e he).2⟩,G.ne,G.wf⟩
section steps
variable{L:List dJ}
def M.box(G:M S H0 H L){x:D}(J:pK x=f)(k:∀H1 r,M S H0 H1 ((r,ty,bI x)::L)->K (.pointer<|Z ⟨r,0,W⟩) H1):ME (Jv ty x H) K:=by
 unfold Jv;rw[J];exact k _ _<|G.grow ty<|bI x
def M.iZ(G:M S H0 H L)(k:∀H1 r,M S H0 H1 ((r,ty,z)::L)->K (.pointer<|Z ⟨r,0,W⟩) H1):ME (Go.Ae.iZ ty z H) K:=k _ _<|G.grow ty z
def ME.ld{r:Nat}(h:H.cell r o=Z v)(k:K v H):ME (uP W (.pointer<|Z ⟨r,o,W⟩) H) K:=by
 show ME (aK (H.cell r o) λv=>Z (v,H)) K;rw[h];exact k
def ME.rF{r:Nat}(h:H.read r o n=Z vs)(k:K (.agg ⟨vs⟩) H):ME (uP (Z n) (.pointer<|Z ⟨r,o,W⟩) H) K:=by
 show ME (aK (H.read r o n) λvs=>Z (.agg ⟨vs⟩,H)) K;rw[h];exact k
def M.ld(G:M S H0 H L)(i:Nat){r:Nat}(hi:L[i]?=Z (r,ty,E))(hv:E[o]?=Z v)(k:K v H):ME (uP W (.pointer<|Z ⟨r,o,W⟩) H) K:=ME.ld ((G.get i hi).cell hv) k
def M.rF(G:M S H0 H L)(i:Nat){r:Nat}(hi:L[i]?=Z (r,ty,E))(hn:o+n<=E.length)(k:K (.agg ⟨(E.drop o).take n⟩) H):ME (uP (Z n) (.pointer<|Z ⟨r,o,W⟩) H) K:=ME.rF ((G.get i hi).read hn) k
def M.Ay(G:M [] H0 H L){r:Nat}(h:H0.cell r o=Z v)(R:r<H0.next)(k:K v H):ME (uP W (.pointer<|Z ⟨r,o,W⟩) H) K:=ME.ld ((G.old R).trans h) k
def M.zP(G:M [] H0 H L){r:Nat}(h:H0.read r o n=Z vs)(R:r<H0.next)(k:K (.agg ⟨vs⟩) H):ME (uP (Z n) (.pointer<|Z ⟨r,o,W⟩) H) K:=ME.rF ((vw (G.ext.obj r R<|by simp) o n).trans h) k
def J2:∀{l:List α}{i:Nat}(h:i<l.length),(l[i]::l.eraseIdx i).Perm l:=by
 intro l
 induction l with
 |nil=>intro i h;cases h
 |cons x l ih=>
  intro i h;cases i with
  |zero=>exact pN _
  |succ i=>exact(gm x _ _).trans<|(ih<|by simpa using h).cons x
def M.zC(G:M S H0 H L)(i:Nat){r:Nat}(hi:L[i]?=Z (r,ty,E))(hn:o+vs.length<=E.length)(hk:all' fB vs=f):
 ∃H1,H.write r o vs=Z H1/\M S H0 H1 (L.set i (r,ty,splice E o vs))/\oz [r] H H1:=by
 have hil:i<L.length:=(bA.1 hi).1;have hig:L[i]=(r,ty,E):=(bA.1 hi).2;obtain⟨H1,Q,I,h3,h4,h5⟩:=(G.get i hi).write hn hk
 have J:oz [r] H H1:=⟨N,λq _ hq=>h4 q λe=>hq<|by simp[e],λb hl _ hb=>by
  have:=hb r (by simp);rcases h5 with h5|h5<;>omega,λh=>by rcases h5 with h5|h5<;>omega⟩
 refine⟨H1,Q,?_,J⟩;have hp:L.Perm ((r,ty,E)::L.eraseIdx i):=by rw[<-hig];exact(J2 hil).symm
 have hS2:M S H0 H ([(r,ty,E)]++L.eraseIdx i):=G.perm hp
 have rQ:=M.turn (A':=[(r,ty,splice E o vs)]) hS2 J (λe he=>by
  rw[aO]at he;subst he;refine⟨I,.inl<|by simp,?_⟩;have:=(G.lo _<|aR hi).2;show r<H1.next
  omega) (iQ _ _)
 refine rQ.perm ?_;have:(L.set i (r,ty,splice E o vs)).eraseIdx i=L.eraseIdx i:=by rw[List.eraseIdx_set_eq]
 have hl:i<(L.set i (r,ty,splice E o vs)).length:=by simpa using hil
 have hg:(L.set i (r,ty,splice E o vs))[i]=(r,ty,splice E o vs):=by simp
 have hq:=J2 hl;rw[hg,this]at hq;exact hq
def M.st(G:M S H0 H L)(i:Nat){r:Nat}(hi:L[i]?=Z (r,ty,E))(hl:(bI v).length=n)(hn:o+n<=E.length)(hk:all' fB (bI v)=f)(k:∀H1,M S H0 H1 (L.set i (r,ty,splice E o<|bI v))->K undef H1):ME (Cq n (.pointer<|Z ⟨r,o,W⟩) v H) K:=by
 obtain⟨H1,Q,I,_⟩:=G.zC (vs:=bI v) (o:=o) i hi N hk;show ME (gd (ay (len<|bI v) n)<|aK (H.write r o<|bI v) λC=>Z (undef,C)) K;rw[fQ,hl,dw,Q];exact k H1 I
end steps
def gZ(h:H.low<=H.next):hM H (hN H)=H:=by
 show F.mk H.vF H.next (bR (aB H.low H.next) H.low H.next)=H
 rw[aH h];rfl
def nG(H:F):Wf (hN H):=az _
def Gi(a b:Nat):nN a b=min a b:=by
 show bR (aB a b) a b=_;cases h:aB a b with
 |true=>rw[nT,iT<|aD h]
 |false=>
  have:¬a<=b:=λg=>by rw[aH g]at h;cases h
  rw[jL,uf N]
def oz.draw(J:oz S (hN H) C):oz S H (hM H C):=
 ⟨J.next,J.obj,λb hl hn hb=>by show b<=nN H.low C.low;rw[Gi];have:=J.low b hn hn hb;omega,λh=>by show nN H.low C.low<=C.next;rw[Gi];have:H.next<=C.next:=J.next;omega⟩
def M.mV{L:List dJ}(G:M S H0 H L)(J:Ext (hN H) C):M S H0 (hM H C) L:=G.call J.draw
def M.hN{L:List dJ}(G:M S H0 H L):(∀r o,(Go.Ae.hN H).cell r o=H.cell r o)/\(∀r o n,(Go.Ae.hN H).read r o n=H.read r o n):=⟨λ_ _=>rfl,λ_ _ _=>rfl⟩
def eG(n r o:Nat)(H:F):clL n (.pointer<|Z ⟨r,o,W⟩) H (hN H)=⟨4,r,o,n,hh0,hh0⟩:=by
 show bR (aB H.next H.next) _ _=_;rw[aH (az _)];rfl
def fK(J:Ext (hN H) C):Dq H C=cl 1:=by
 show bR (aB H.next C.low) _ _=_;rw[aH (J.low H.next (az _) (az _) λr h=>nomatch h)];rfl
def xq(J:Ext (hN H) C):Lt H C=cl 5:=by
 show bR (aB H.next C.low) _ _=_;rw[aH (J.low H.next (az _) (az _) λr h=>nomatch h)];rfl
def fT(r o:Nat)(v:D)(H C:F):clS (.pointer<|Z ⟨r,o,W⟩) v H C=⟨3,r,o,len<|bI v,hh0,hh0⟩:=rfl
def Hg(h:noTwo cls=f):jI ops cls=f:=by
 unfold jI;rw[h];rfl
end
variable{L L' SH M' gb:List dJ}
section
variable{S:List Nat}
abbrev vi(n:Int):D:=.int .i64 n
abbrev B(n:Nat):D:=.int .i64 (n:Int)
def Dl(a b:Int):Ld a b=decide (a<b):=by
 cases a with
 |ofNat m=>cases b with
  |ofNat n=>show aB (bU m) n=_;rw[f_,Nat.ble_eq];simp;omega
  |negSucc n=>show aA=_;symm;simp;omega
 |negSucc m=>cases b with
  |ofNat n=>show f=_;symm;simp;omega
  |negSucc n=>show aB (bU n) m=_;rw[f_,Nat.ble_eq];simp;omega
def Bc(a b:Int):IZ a b=decide (a=b):=by
 cases a with
 |ofNat m=>cases b with
  |ofNat n=>show ay m n=_;rw[f_,jG];simp;omega
  |negSucc n=>show aA=_;symm;simp
 |negSucc m=>cases b with
  |ofNat n=>show aA=_;symm;simp
  |negSucc n=>show ay m n=_;rw[f_,jG];simp
def wW{n:Int}(Q:-9223372036854775808<=n)(I:n<=9223372036854775807):nU .i64 n=n:=by
 cases n with
 |ofNat m=>
  show bR (DD .i64&&aB m 9223372036854775807) (Int.ofNat m) _=_
  rw[show(DD .i64&&aB m 9223372036854775807)=f from by
   rw[show DD .i64=f from O,qG];exact aH (by have:(m:Int)<=9223372036854775807:=I;omega)];rfl
 |negSucc m=>
  show bR (DD .i64&&aB m 9223372036854775807) (Int.negSucc m) _=_
  rw[show(DD .i64&&aB m 9223372036854775807)=f from by
   rw[show DD .i64=f from O,qG];exact aH N];rfl
section bin
variable{P:aS}{a b:Int}{k:fu}
def Be:ay (qx k) (qx k)=f:=dw _
def lS{op:qQ}(hs:I1 op=aA)(h:Wl op k a b=Z v):lN P op t ox oy (.int k a) (.int k b)=Z v:=by
 show bR (I1 op) (YU op t (.int k a)<|.int k b) (gd (ay (qx k)<|qx k)<|Wl op k a b)=_;rw[hs,Be];exact h
def PZ:lN P .lss t ox oy (.int k a) (.int k b)=Z (.bool<|decide<|a<b):=lS O (by show Z (gF<|Ld a b)=_;rw[Dl])
def P4:lN P .gtr t ox oy (.int k a) (.int k b)=Z (.bool<|decide<|b<a):=lS O (by show Z (gF<|Ld b a)=_;rw[Dl])
def P5:lN P .leq t ox oy (.int k a) (.int k b)=Z (.bool<|decide<|a<=b):=lS O (by
 show Z (gF<|!(Ld b a))=_;rw[Dl,<-decide_not];simp[Int.not_lt])
def Ad:lN P .geq t ox oy (.int k a) (.int k b)=Z (.bool<|decide<|b<=a):=lS O (by
 show Z (gF<|!(Ld a b))=_;rw[Dl,<-decide_not];simp[Int.not_lt])
def P6:lN P .eql t ox oy (.int k a) (.int k b)=Z (.bool<|decide<|a=b):=lS O (by show Z (gF<|IZ a b)=_;rw[Bc])
def P7:lN P .neq t ox oy (.int k a) (.int k b)=Z (.bool<|!decide (a=b)):=lS O (by show Z (gF<|!(IZ a b))=_;rw[Bc])
def fA(Q:-9223372036854775808<=a+b)(I:a+b<=9223372036854775807):lN P .add t ox oy (vi a) (vi b)=Z (vi<|a+b):=lS O (by show Z (bV .i64<|nU .i64<|a+b)=_;rw[wW Q I])
def nW(Q:-9223372036854775808<=a-b)(I:a-b<=9223372036854775807):lN P .sub t ox oy (vi a) (vi b)=Z (vi<|a-b):=lS O (by show Z (bV .i64<|nU .i64<|a-b)=_;rw[wW Q I])
def Z7(Q:-9223372036854775808<=a*b)(I:a*b<=9223372036854775807):lN P .mul t ox oy (vi a) (vi b)=Z (vi<|a*b):=lS O (by show Z (bV .i64<|nU .i64<|a*b)=_;rw[wW Q I])
end bin
def P8(b:Bool):jQ (Op.unary .not<|.bool b)=Z (.bool !b):=rfl
def min2(k:fu)(a b:Int):O6 aA [.int k a,.int k b]=Z (.int k<|min a b):=by
 show aK (gd (ay (qx k)<|qx k)<|Z<|bR (Ld b a) (bV k b)<|bV k a) Z=_;rw[Be,zu,Jo,Dl]
 by_cases h:b<a
 .rw[bG h,nT,Int.min_eq_right N]
 .rw[dn h,jL,Int.min_eq_left N]
def max2(k:fu)(a b:Int):O6 f [.int k a,.int k b]=Z (.int k<|max a b):=by
 show aK (gd (ay (qx k)<|qx k)<|Z<|bR (Ld a b) (bV k b)<|bV k a) Z=_;rw[Be,zu,Jo,Dl]
 by_cases h:a<b
 .rw[bG h,nT,Int.max_eq_right N]
 .rw[dn h,jL,Int.max_eq_left N]
def J3(b:Bool):jH (.bool b)=Z b:=rfl
def U7(off r o:Nat):fld off (.pointer<|Z ⟨r,o,W⟩)=Z (.pointer<|Z ⟨r,o+off,W⟩):=rfl
def P9(a:Addr):Nk (.pointer<|Z a)=Z (.pointer<|Z a):=rfl
def U8(a:Option Addr)(n c:Nat):ait (T a n c)=Z (B n):=rfl
def P_(s:ByteArray):aiu (.string s)=Z (B s.size):=by
 show Z (bV .i64<|Int.ofNat<|len s.data.toList)=_;rw[fQ];rfl
def vO{r:Nat}(h:k<n):Ac es (T (Z ⟨r,o,W⟩) n c) (B k)=Z (.pointer<|Z ⟨r,o+k*es,W⟩):=by
 show gd (aB (bU k) n) (Z<|tN<|Z ⟨r,aV o<|bL k es,W⟩)=_;rw[aH h];rfl
def su{s:ByteArray}(h:k<s.size):idS (.string s) (B k)=Z (.int .u8 ((s.data.toList[k]'(by simpa using h)).toNat:Int)):=by
 show(aK (nth s.data.toList k) λb=>Z<|bV .u8<|.ofNat b.toNat)=_;rw[om,au<|by simpa using h];rfl
def Fl(H:F)(a:Option Addr)(n es:Nat)(E:List D):Prop:=
 E.length=n*es/\∀(i:Nat)(x:D),E[i]?=Z x->∃r o,a=Z ⟨r,o,W⟩/\r<H.next/\H.cell r (o+i)=Z x
def Fl.ext{S:List Nat}{H C:F}{a:Option Addr}{n es:Nat}{E:List D}(h:Fl H a n es E)(J:oz S H C)(G:∀r o,a=Z ⟨r,o,W⟩->r∉S):Fl C a n es E:=
 ⟨h.1,λi x hi=>by
   obtain⟨r,o,Q,I,h3⟩:=h.2 i x hi;exact⟨r,o,Q,aP I J.next,(lQ (J.obj r I<|G r o Q) _).trans h3⟩⟩
def Fl.ex(h:Fl H a n es E)(J:Ext H C):Fl C a n es E:=h.ext J λr o _ h=>nomatch h
def Fl.nil(H:F)(a:Option Addr)(es:Nat):Fl H a 0 es []:=⟨by simp,λi x h=>by simp at h⟩
def Fl.idx(h:Fl H a n es E)(he:0<es)(hk:k<n):
 ∃r o,Ac es (T a n c) (B k)=Z (.pointer<|Z ⟨r,o,W⟩)/\r<H.next/\(∀av x,av<es->E[k*es+av]?=Z x->H.cell r (o+av)=Z x)/\(∃o0,a=Z ⟨r,o0,W⟩/\o=o0+k*es):=by
 have hl:k*es<E.length:=by rw[h.1];exact Nat.mul_lt_mul_of_pos_right hk he
 obtain⟨r,o,rfl,I,h3⟩:=h.2 (k*es) _<|au hl;refine⟨r,o+k*es,vO hk,I,λav x hf J=>?_,o,rfl,rfl⟩;obtain⟨r',o',h4,_,h5⟩:=h.2 _ _ J;cases h4;rw[Nat.add_assoc];exact h5
def Bk.fl{r:Nat}(h:Bk H r ty E)(R:r<H.next)(hn:E.length=n*es):Fl H (Z ⟨r,0,W⟩) n es E:=
 ⟨hn,λi x hi=>⟨r,0,rfl,R,by rw[aW];exact h.cell hi⟩⟩
abbrev fG(l:List Nat):List D:=l.map B
abbrev bools(l:List Bool):List D:=l.map gF
def kU(av:α->D){l:List α}{x:α}(h:l[i]?=Z x):(l.map av)[i]?=Z (av x):=by rw[bD,h];rfl
def MF(z:List D)(n:Nat):(oL z n).length=n*z.length:=by
 induction n with
 |zero=>show([]:List D).length=_;simp
 |succ n ih=>show(app z<|oL z n).length=_;rw[qd,aQ,ih,kJ];omega
def mK(x:D)(n:Nat):oL [x] n=aU n x:=by
 induction n with
 |zero=>rfl
 |succ n ih=>show app [x] (oL [x] n)=_;rw[qd,ih];rfl
def M.mkS(G:M S H0 H L)(hn:n<=m)(hm:m<=16777216)(k:∀H1 r,M S H0 H1 ((r,e,oL z m)::L)->K (T (Z ⟨r,0,W⟩) n m) H1):ME (Go.Ae.mkS e z (B n) (B m) H) K:=by
 show ME (gd (aB n m&&aB m 16777216&&f)<|Z (T (Z ⟨H.next,0,W⟩) n m,H.new<|rowOf e<|oL z m)) K;rw[aH hn,aH hm];exact k _ _<|G.grow e _
def M.sub(G:M S H0 H L)(h:L'.Sublist L):M S H0 H L':=
 ⟨G.ext,λe he=>G.bk e<|h.mem he,λe he=>G.lo e<|h.mem he,G.ne.sublist h,G.wf⟩
def M.take(G:M S H0 H L)(n:Nat):M S H0 H (L.take n):=G.sub<|List.take_sublist n L
def M.cast(G:M S H0 H L)(h:L=L'):M S H0 H L':=h▸G
def M.to{r:Nat}{cs':List D}(G:M S H0 H<|(r,ty,E)::L)(h:E=cs'):M S H0 H ((r,ty,cs')::L):=h▸G
def oP(av:α->D){l:List α}(hk:k<l.length)(x:α):splice (l.map av) k [av x]=(l.set k x).map av:=by
 apply gX;intro i;rw[qo (by simp;omega),bD,bD,dB]
 by_cases h:k=i
 .subst h;rw[if_pos ⟨az _,by simp⟩,if_pos O,if_pos hk,ja];rfl
 .rw[if_neg (by simp;omega),if_neg h]
end
section
variable{S:List Nat}
def bS(e:aG)(z:List D)(es n:Nat)(ps:List<|Nat×D)(H:F):Option (D×F):=
 gd (aB (bL n es) 16777216) (aK (DF (λk=>Z (bL k es,es)) ps<|oL z n) λE=>Z (T (Z ⟨H.next,0,W⟩) n n,H.new<|rowOf e E))
def bld(pl:List<|Nat×Nat)(z:List D)(ps:List<|Nat×D):Option D:=aK (DF (nth pl) ps z) λE=>Z<|.agg ⟨E⟩
def PU.of{o:Option D}{K:D->Prop}(h:o=Z v)(k:K v):PU o K:=by rw[h];exact k
def ME.of{o:Option (D×F)}(h:o=Z (v,H))(k:K v H):ME o K:=by rw[h];exact k
def Z8:∀(vs:List D)(k:Nat)(E:List D),k+vs.length<=E.length->F7 vs k E=splice E k vs:=by
 intro vs
 induction vs with
 |nil=>
  intro k E h;show E=_;unfold splice;simp
 |cons v vs ih=>
  intro k E h
  have hset:∀(k:Nat)(E:List D),setAt v k E=E.set k v:=by
   intro k
   induction k with
   |zero=>intro E;cases E<;>rfl
   |succ k ihk=>intro E;cases E with
    |nil=>rfl
    |cons c E=>exact dV (c::·)<|ihk E
  show F7 vs (bU k) (setAt v k E)=_;simp only[cr]at h;rw[hset,ih (k+1) _ (by simp;omega)];apply gX;intro i;rw[qo (by simp;omega),qo (by simp;omega),dB]
  by_cases Q:i=k
  .subst Q;rw[if_neg N,if_pos O,if_pos N,if_pos ⟨az _,by simp⟩];simp
  .by_cases I:k+1<=i/\i<k+1+vs.length
   .rw[if_pos I,if_pos (by simp;omega),show i-k=(i-(k+1))+1 by omega];simp
   .rw[if_neg I,if_neg λe=>Q e.symm,if_neg (by simp only[cr];omega)]
def mZ(E vs:List D)(h:E.length=vs.length):splice E 0 vs=vs:=by
 unfold splice;rw[mH N];simp
def NV(hz:z.length=es)(hv:pK v=f)(y:(bI v).length=es)(he:es<=16777216):
 bS e z es 1 [(0,v)] H=Z (T (Z ⟨H.next,0,W⟩) 1 1,H.new<|rowOf e<|bI v):=by
 have R:oL z 1=z:=by show app z []=z;rw[qd,a_]
 unfold bS;rw[aH (by show 1*es<=_;omega),R];show(aK (gd (pK v&&ay (len<|bI v) es&&aB (aV (bL 0 es) es) (len z))<|Z<|F7 (bI v) (bL 0 es) z) λE=>Z (T (Z ⟨H.next,0,W⟩) 1 1,H.new<|rowOf e E))=_;have e0:bL 0 es=0:=iP es;rw[hv,fQ,y,dw,fQ,hz,e0];rw[show aB (aV 0 es) es=f from aH (by show 0+es<=es;omega),Z8 _ _ _ N,mZ _ _ N];rfl
def vz{r:Nat}{xs:List D}(h:Bk H r ty xs)(hk:xs.length=k*es):appended H es (T (Z ⟨r,0,W⟩) k c)=Z (k,xs):=by
 show(aK (H.read r 0<|bL k es) λl=>Z (k,l))=_
 have:H.read r 0 (bL k es)=Z xs:=by
  rw[h.read (by show 0+k*es<=_;omega)];simp only[jc];rw[cK (by show xs.length<=k*es;omega)]
 rw[this];rfl
def NW{x:D}{xs:List D}(ha:appended H es x=Z (k+1,xs))(hk:k+1<=16777216):
 zB e es (T W 0 0) x H=Z (T (Z ⟨H.next,0,W⟩) (k+1)<|fI es,H.new<|rowOf e xs):=by
 unfold zB;show(aK (appended H es x) λr=>gd (aB r.1 16777216)<|O7 (e,es) (T W 0 0) (W,0,0) r.1 r.2 H)=_;rw[ha];show gd (aB (k+1) 16777216) _=_;rw[aH hk];rfl
def yE(es:Nat):gD (fI es)=aA:=by
 show aB (18446744073709551616+es) 9223372036854775807=aA;rw[<-bY];intro h;have:=aD h;omega
theorem NY{r:Nat}{x:D}{dY xs:List D}(he:0<es)(hb:Bk H r e<|E++dY)(R:r<H.next)(hn:E.length=n*es)(ha:appended H es x=Z (k+1,xs))(J:xs.length=(k+1)*es)(hok:all' fB xs=f)(hk:k+1<=16777216)(hnn:n<=16777216):
 ∃r' C DK,zB e es (T (Z ⟨r,0,W⟩) n<|fI es) x H=Z (T (Z ⟨r',0,W⟩) (n+(k+1))<|fI es,C)/\Bk C r' e (E++xs++DK)/\(r'=r\/r'=H.next)/\r'<C.next/\oz [r] H C/\(C.low<=r):=by
 have hap:zB e es (T (Z ⟨r,0,W⟩) n<|fI es) x H=sP (e,es) ⟨r,0,W⟩ n (fI es) (k+1) xs H:=by
  unfold zB;show(aK (appended H es x) λq=>gd (aB q.1 16777216)<|O7 (e,es) (T (Z ⟨r,0,W⟩) n<|fI es) (Z ⟨r,0,W⟩,n,fI es) q.1 q.2 H)=_;rw[ha];show gd (aB (k+1) 16777216) (gd (aB n 16777216)<|bR (gD<|fI es) _<|gd (ay (fI es)<|fI es)<|sP (e,es) ⟨r,0,W⟩ n (fI es) (k+1) xs H)=_;rw[aH hk,aH hnn,yE,dw];rfl
 rw[hap];obtain⟨hr,Q,I,h3,h4,h5,h6⟩:=id hb;have hmul:(n+(k+1))*es=n*es+(k+1)*es:=gM ..
 have hlen:(E++dY).length=n*es+dY.length:=by rw[aQ,hn]
 have hun:sP (e,es) ⟨r,0,W⟩ n (fI es) (k+1) xs H=bR (aB (aV 0<|bL (aV n<|k+1) es) hr.n)
  (aK (H.write r (aV 0<|bL n es) xs) λC=>Z (T (Z ⟨r,0,W⟩) (aV n<|k+1)<|fI es,C))
  (gd (aB (aV 0<|bL n es) hr.n&&aB hr.fz (aV 0<|bL n es)&&all' fB xs)
   (Z (T (Z ⟨H.next,0,W⟩) (aV n<|k+1)<|fI es,
    (H.put r .dead).new (.row ⟨hr.ty,Tr.sD top xs (aV 0<|bL n es) hr.cells,aV 0<|bL (aV n<|k+1) es,aA,hr.fz⟩)))):=by
  unfold sP;show(aK (vE<|H.obj r) _)=_;rw[Q];show gd (ay hr.ty e&&!hr.kR) _=_;rw[I,dw,h4];rfl
 rw[hun];have e1:aV 0 (bL n es)=n*es:=aW _;have e2:aV 0 (bL (aV n<|k+1) es)=n*es+(k+1)*es:=(aW _).trans hmul;rw[e1,e2,h3,hlen]
 by_cases y:n*es+(k+1)*es<=n*es+dY.length
 .rw[aH y,nT];obtain⟨H1,w1,w2,w3,w4,w5⟩:=hb.write (o:=n*es) (vs:=xs) (by rw[hlen];omega) hok;rw[w1]
  have hlow:H1.low<=r:=by
   rcases w5 with w5|w5
   .omega
   .
    cases xs with
    |nil=>
     have h0:0<(k+1)*es:=qJ N he;rw[<-J]at h0;cases h0
    |cons v vs'=>
     have:H.write r (n*es) (v::vs')=Z (H.put r<|.row ⟨hr.ty,Tr.sD top (v::vs') (n*es) hr.cells,hr.n,aA,hr.fz⟩):=by
      show(aK (vE<|H.obj r) λw=>gd (!w.kR&&aB (aV (n*es)<|len<|v::vs') w.n&&aB w.fz (n*es)&&all' fB (v::vs'))<|Z<|H.put r<|.row ⟨w.ty,Tr.sD top (v::vs') (n*es) w.cells,w.n,aA,w.fz⟩)=_;rw[Q];show gd (!hr.kR&&aB (aV (n*es)<|len<|v::vs') hr.n&&aB hr.fz (n*es)&&all' fB (v::vs')) _=_;rw[hok,h4,h3,h5,fQ,aH (by show n*es+(v::vs').length<=_;rw[hlen];omega),aH<|bg _];rfl
     rw[this]at w1;cases w1;rw[uG];omega
  refine⟨r,H1,dY.drop xs.length,O,?_,.inl O,N,⟨N,λq _ hq=>w4 q λe=>hq<|by simp[e],λb hl _ hb=>by
   have:=hb r (by simp);rcases w5 with w5|w5<;>omega,λh=>by rcases w5 with w5|w5<;>omega⟩,hlow⟩
  have:splice (E++dY) (n*es) xs=E++xs++dY.drop xs.length:=by
   unfold splice;rw[<-hn,pU,tX,mH N,bK,iR]
  rw[<-this];exact w2
 .have hb':aB (n*es+(k+1)*es) (n*es+dY.length)=aA:=by
   rw[<-bY];intro h;exact y<|aD h
  rw[hb',jL,aH (by omega:n*es<=n*es+dY.length),h5,aH<|bg _,hok];refine⟨H.next,_,[],O,?_,.inr O,dI _,⟨iG _,λq hq hn'=>?_,λb hl hn' hb=>?_,λh=>?_⟩,?_⟩
  .refine⟨⟨hr.ty,Tr.sD top xs (n*es) hr.cells,n*es+(k+1)*es,aA,hr.fz⟩,by rw[xF,if_pos (show H.next=(H.put r lu.dead).next from O),h5],I,by simp;omega,rfl,h5,λi hi=>?_⟩;show(Tr.sD top xs (n*es) hr.cells).get top i=_;rw[Tr.lV];have hi':i<n*es+(k+1)*es:=by simp at hi;omega
   by_cases hc':n*es<=i/\i<n*es+xs.length
   .rw[if_pos hc',bC,au N];simp only[a_,nS];rw[List.getElem_append_right N];congr 1;omega
   .rw[if_neg hc'];have hin:i<n*es:=by omega
    rw[h6 i (by rw[hlen];omega)];simp only[a_];rw[iI N,iI N]
  .rw[xF,if_neg (by show q≠H.next;omega),uF,if_neg λe=>hn'<|by simp[e]]
  .show b<=(H.put r lu.dead).low;rw[uG];have:=hb r (by simp);omega
  .show(H.put r lu.dead).low<=H.next+1
   rw[uG];omega
  .show(H.put r lu.dead).low<=r;rw[uG];omega
section steps
theorem M.xY(G:M S H0 H L)(ty:aG)(E:List D):M S H0 (hM H<|(Go.Ae.hN H).new<|rowOf ty E) ((H.next,ty,E)::L):=by
 have J:Ext (Go.Ae.hN H) ((Go.Ae.hN H).new<|rowOf ty E):=Ext.new _ _;refine M.turn (A:=[]) (A':=[(H.next,ty,E)]) G J.draw (λe he=>?_)<|iQ _ _;rw[aO]at he;subst he;exact⟨Bk.new (Go.Ae.hN H) ty E,.inr<|az _,dI _⟩
def M.Qa(G:M S H0 H L)(hz:z.length=es)(hv:pK v=f)(y:(bI v).length=es)(he:es<=16777216)(k:∀H1 r,M S H0 (hM H H1) ((r,e,bI v)::L)->Lt H H1=cl 5->K (T (Z ⟨r,0,W⟩) 1 1) H1):ME (bS e z es 1 [(0,v)]<|Go.Ae.hN H) K:=by
 rw[NV hz hv y he];exact k _ _ (G.xY e _)<|xq<|Ext.new _ _
def M.bS(G:M S H0 H L)(hz:z.length=es)(hv:pK v=f)(y:(bI v).length=es)(he:es<=16777216)(k:∀H1 r,M S H0 H1 ((r,e,bI v)::L)->K (T (Z ⟨r,0,W⟩) 1 1) H1):ME (Go.Ae.bS e z es 1 [(0,v)] H) K:=by
 rw[NV hz hv y he];exact k _ _<|G.grow e _
end steps
end
section
variable{S:List Nat}
def GB(ty:aG)(es:Nat)(v:D)(E:List D)(gb:List dJ):Prop:=
 (v=T W 0 0/\E=[]/\gb=[])\/∃r n dY,v=T (Z ⟨r,0,W⟩) n (fI es)/\E.length=n*es/\gb=[(r,ty,E++dY)]
def GB.nil(ty:aG)(es:Nat):GB ty es (T W 0 0) [] []:=.inl ⟨O,O,O⟩
section steps
variable{xs:List D}
def U9(h:C.low<H.next):Dq H C=⟨2,0,0,0,H,C⟩:=by
 show bR (aB H.next C.low) _ _=_;rw[show aB H.next C.low=aA from by rw[<-bY];intro g;have:=aD g;omega];rfl
def GB.app(hg:GB ty es v E gb)(G:M S H0 H<|(rx,ty,xs)::(gb++L))(he:0<es)(J:xs.length=(m+1)*es)(hok:all' fB xs=f)(hm:m+1<=16777216)(y:E.length<=16777216):
 ∃v' H1 gT,zB ty es v (T (Z ⟨rx,0,W⟩) (m+1) cx) H=Z (v',H1)/\GB ty es v' (E++xs) gT/\M S H0 H1 (gT++L)/\oz (gb.map (·.1)) H H1:=by
 have hbx:=G.get 0 O;have ha:=vz (k:=m+1) (c:=cx) hbx J;have hS1:M S H0 H (gb++L):=M.drop (A:=[(rx,ty,xs)]) G;rcases hg with⟨rfl,rfl,rfl⟩|⟨r,n,dY,rfl,hn,rfl⟩
 .refine⟨_,_,[(H.next,ty,xs)],NW ha hm,.inr ⟨H.next,m+1,[],O,J,by simp⟩,hS1.grow ty xs,Ext.new _ _⟩
 .have hb:=hS1.get 0 O;have R:=(hS1.lo _<|aL ..).2
  have hnn:n<=16777216:=by
   have:n*1<=n*es:=fP n he;omega
  obtain⟨r',H1,DK,Q,I,h3,h4,h5,h6⟩:=NY he hb R hn ha J hok hm hnn;refine⟨_,H1,[(r',ty,E++xs++DK)],Q,.inr ⟨r',n+(m+1),DK,O,?_,O⟩,?_,h5⟩
  .rw[aQ,hn,J,<-gM]
  .refine M.turn (A:=[(r,ty,E++dY)]) hS1 h5 (λe he'=>?_) (iQ _ _);rw[aO]at he';subst he';refine⟨I,?_,h4⟩;rcases h3 with h3|h3
   .exact .inl (by simp[h3])
   .exact .inr (by show H.next<=r';omega)
def GB.add(hg:GB ty es v E gb)(G:M S H0 H<|(rx,ty,xs)::(gb++L))(he:0<es)(J:xs.length=es)(hok:all' fB xs=f)(y:E.length<=16777216)(k:∀v' H1 gT,GB ty es v' (E++xs) gT->M S H0 H1 (gT++L)->oz (gb.map (·.1)) H H1->K v' H1):ME (zB ty es v (T (Z ⟨rx,0,W⟩) 1 cx) H) K:=by
 obtain⟨v',H1,gT,Q,I,h3,h4⟩:=hg.app (m:=0) (cx:=cx) G he N hok N y;rw[Q];exact k v' H1 gT I h3 h4
def M.xG(G:M S H0 H L):M S (Go.Ae.hN H0) (Go.Ae.hN H) L:=
 ⟨⟨G.ext.next,G.ext.obj,λb hl hn _=>aX hn G.ext.next,λ_=>az _⟩,G.bk,G.lo,G.ne,az _⟩
def GB.Gj(hg:GB ty es v E gb)(G:M S H0 H<|(rx,ty,xs)::(gb++L))(he:0<es)(J:xs.length=es)(hok:all' fB xs=f)(y:E.length<=16777216)(k:∀v' H1 gT,GB ty es v' (E++xs) gT->M S H0 (hM H H1) (gT++L)->oz (gb.map (·.1)) H (hM H H1)->(∀r,r<H.next->r∉gb.map (·.1)->H1.obj r=H.obj r)->(Dq H H1=cl 1\/Dq H H1=⟨2,0,0,0,H,H1⟩)->K v' H1):ME (zB ty es v (T (Z ⟨rx,0,W⟩) 1 cx)<|Go.Ae.hN H) K:=by
 have hS':M [] (Go.Ae.hN H) (Go.Ae.hN H) []:=M.refl<|az _;have hbx:=G.get 0 O;have ha:appended (Go.Ae.hN H) es (T (Z ⟨rx,0,W⟩) (0+1) cx)=Z (0+1,xs):=vz (H:=Go.Ae.hN H) (k:=0+1) hbx N;have hS1:M S H0 H (gb++L):=M.drop (A:=[(rx,ty,xs)]) G
 have hcls:∀H1:F,Dq H H1=cl 1\/Dq H H1=⟨2,0,0,0,H,H1⟩:=by
  intro H1;show bR (aB H.next H1.low) _ _=_\/bR (aB H.next H1.low) _ _=_;cases aB H.next H1.low with
  |true=>exact .inl O
  |false=>exact .inr O
 rcases hg with⟨rfl,rfl,rfl⟩|⟨r,n,dY,rfl,hn,rfl⟩
 .rw[show zB ty es (T W 0 0) (T (Z ⟨rx,0,W⟩) 1 cx) (Go.Ae.hN H)=_ from NW ha N];have hx':Ext (Go.Ae.hN H) ((Go.Ae.hN H).new<|rowOf ty xs):=Ext.new _ _;exact k _ _ [(H.next,ty,xs)] (.inr ⟨H.next,1,[],O,by simp;omega,by simp⟩) (hS1.xY ty xs) hx'.draw (λq hq hn'=>hx'.obj q hq<|by simp)<|hcls _
 .have hb:Bk (Go.Ae.hN H) r ty (E++dY):=hS1.get 0 O;have R:=(hS1.lo _<|aL ..).2
  have hnn:n<=16777216:=by
   have:n*1<=n*es:=fP n he;omega
  obtain⟨r',H1,DK,Q,I,h3,h4,h5,h6⟩:=NY he hb R hn ha N hok N hnn;rw[show zB ty es (T (Z ⟨r,0,W⟩) n<|fI es) (T (Z ⟨rx,0,W⟩) 1 cx) (Go.Ae.hN H)=_ from Q];refine k _ H1 [(r',ty,E++xs++DK)] (.inr ⟨r',n+(0+1),DK,O,?_,O⟩) ?_ h5.draw (λq hq hn'=>h5.obj q hq hn')<|hcls _
  .rw[aQ,hn,J,gM];omega
  .refine M.turn (A:=[(r,ty,E++dY)]) hS1 h5.draw (λe he'=>?_) (iQ _ _);rw[aO]at he';subst he';refine⟨I,?_,h4⟩;rcases h3 with h3|h3
   .exact .inl (by simp[h3])
   .exact .inr (by show H.next<=r';rw[h3];exact az _)
def GB.fl(hg:GB ty es v E gb)(G:M S H0 H<|gb++L):∃a n c,v=T a n c/\E.length=n*es/\Fl H a n es E:=by
 rcases hg with⟨rfl,rfl,rfl⟩|⟨r,n,dY,rfl,hn,rfl⟩
 .exact⟨W,0,0,O,by simp,Fl.nil _ _ _⟩
 .refine⟨_,n,_,O,hn,hn,λi x hi=>⟨r,0,rfl,(G.lo _<|aL ..).2,?_⟩⟩;rw[aW];refine(G.get 0 O).cell ?_;rw[bJ (bA.1 hi).1];exact hi
def GB.fB(hg:GB ty es v E gb):all' Go.Ae.fB (bI v)=f/\(bI v).length=1/\bI v=[v]:=by
 rcases hg with⟨rfl,_,_⟩|⟨r,n,dY,rfl,_,_⟩<;>exact⟨O,O,O⟩
end steps
def Af{A vn:F}{r off:Nat}(ha:A.read r off n=Z vs)(hb:vn.read r off n=Z vs)(hs:EW vs vs=f):sameAt A vn r off n=f:=by
 unfold sameAt;rw[ha,hb];show pX (gd (EW vs vs)<|Z ())=f;rw[hs];rfl
end
section bin
variable{P:aS}{a b:Int}{k:fu}
end bin
def Z9:∀(a b:List UInt8),u8L a=u8L b->a=b:=by
 intro a
 induction a with
 |nil=>intro b h;cases b with
  |nil=>rfl
  |cons hc b=>cases h
 |cons x a ih=>intro b h;cases b with
  |nil=>cases h
  |cons hc b=>
   have Q:x.toNat=hc.toNat:=(jA h).1;have I:u8L a=u8L b:=(jA h).2;rw[ih b I,UInt8.toNat_inj.1 Q]
theorem Qb:∀(a b:List Nat),Js a b=f<->a=b:=by
 intro a
 induction a with
 |nil=>intro b;cases b with
  |nil=>exact⟨λ_=>rfl,λ_=>rfl⟩
  |cons hc b=>exact⟨(λh=>by cases h),(λh=>by cases h)⟩
 |cons x a ih=>intro b;cases b with
  |nil=>exact⟨(λh=>by cases h),(λh=>by cases h)⟩
  |cons hc b=>
   show bR (ay x hc) (Js a b) aA=f<->_
   by_cases e:x=hc
   .subst e;rw[dw,nT,ih];simp
   .rw[show ay x hc=aA from by rw[<-bY];exactλg=>e<|aT g,jL];simp[e]
def MG(a b:ByteArray):qV a b=decide (a=b):=by
 rw[f_,decide_eq_true_iff];unfold qV;rw[Qb];constructor
 .intro h;have:=Z9 _ _ h;obtain⟨⟨x⟩⟩:=a;obtain⟨⟨hc⟩⟩:=b;exact dV (λl=>cz<|Array.mk l) this
 .intro h;rw[h]
section bin
variable{P:aS}
def MH(a b:ByteArray):lN P .eql t ox oy (.string a) (.string b)=Z (.bool<|decide<|a=b):=by
 show Z (gF<|qV a b)=_;rw[MG]
def MI(a b:ByteArray):lN P .neq t ox oy (.string a) (.string b)=Z (.bool<|!decide (a=b)):=by
 show Z (gF<|!(qV a b))=_;rw[MG]
end bin
def part(s:ByteArray)(lo hi:Nat):ByteArray:=⟨⟨(s.data.toList.drop lo).take<|hi-lo⟩⟩
def pM(s:ByteArray)(h:lo<=hi)(I:hi<=s.size):(part s lo hi).size=hi-lo:=by
 show((s.data.toList.drop lo).take<|hi-lo).length=_;have:s.data.toList.length=s.size:=rfl;simp;omega
def Cs{s:ByteArray}(h:lo<=hi)(I:hi<=s.size):slT (.string s) (Z<|B lo) (Z<|B hi) W=Z (.string<|part s lo hi):=by
 show gd (aB lo hi&&aB hi (len s.data.toList)) (Z<|fO ⟨⟨tk (dA hi lo)<|dp lo s.data.toList⟩⟩)=_;rw[fQ,aH h,aH (show hi<=s.data.toList.length from I),GV,LZ];rfl
def Ag{s:ByteArray}(h:lo<=s.size):slT (.string s) (Z<|B lo) W W=Z (.string<|part s lo s.size):=by
 show gd (aB lo (len s.data.toList)&&aB (len s.data.toList) (len s.data.toList)) (Z<|fO ⟨⟨tk (dA (len s.data.toList) lo)<|dp lo s.data.toList⟩⟩)=_;rw[fQ,aH (show lo<=s.data.toList.length from h),aH<|az _,GV,LZ];rfl
def agG{s:ByteArray}(I:hi<=s.size):slT (.string s) W (Z<|B hi) W=Z (.string<|part s 0 hi):=by
 show gd (aB 0 hi&&aB hi (len s.data.toList)) (Z<|fO ⟨⟨tk (dA hi 0)<|dp 0 s.data.toList⟩⟩)=_;rw[fQ,aH<|bg _,aH (show hi<=s.data.toList.length from I),GV,LZ];rfl
def uQ{s:ByteArray}(h:k<s.size):∃c:UInt8,idS (.string s) (B k)=Z (.int .u8 (c.toNat:Int)):=⟨_,su h⟩
def cvI(k:fu)(x:D):Option D:=@aN (fu×Int) (λ_=>Option D) (aK (tC x) λb=>gd aA<|Z<|.string b) (λa=>Z<|.int k<|nU k a.2)<|sK x
def cvT(x:D):Option D:=@aN (fu×Int) (λ_=>Option D) (aK (tC x) λb=>gd f<|Z<|.string b) (λa=>Z<|.string<|Utf8.encode a.2)<|sK x
def Jb(k k':fu)(a:Int):cvI k (.int k' a)=Z (.int k<|nU k a):=rfl
def U'(k:fu)(a:Int):cvT (.int k a)=Z (.string<|Utf8.encode a):=rfl
def U_(s:ByteArray):cvT (.string s)=Z (.string s):=rfl
def agH(vs:List D)(i:Nat):uA (.tuple ⟨vs⟩) i=vs[i]?:=om vs i
section
variable{S:List Nat}
def aC[Decidable p](Q:p->A)(I:¬p->vn):BI (Z<|decide p) A vn:=by
 by_cases h:p
 .rw[bG h];exact Q h
 .rw[dn h];exact I h
def bT[Decidable p](Q:¬p->A)(I:p->vn):BI (Z<|!decide p) A vn:=by
 by_cases h:p
 .rw[bG h];exact I h
 .rw[dn h];exact Q h
def dL(Q:b=f->A)(I:b=aA->vn):BI (Z b) A vn:=by
 cases b with
 |true=>exact Q O
 |false=>exact I O
def NZ(k:fu)(a b:Int):Int:=k.wrap<|BitVec.toNat<|g_ k.bits a&&&g_ k.bits b
def bOr(k:fu)(a b:Int):Int:=k.wrap<|BitVec.toNat<|g_ k.bits a|||g_ k.bits b
def adG(k:fu)(a b:Int):Int:=k.wrap<|BitVec.toNat<|g_ k.bits a&&&~~~g_ k.bits b
def N7(k:fu)(a b:Int):Int:=k.wrap<|a*2^min b.toNat k.bits
def Ee(k:fu)(a b:Int):Int:=a.fdiv<|2^min b.toNat k.bits
section bits
variable{P:aS}{a b:Int}{k:fu}
def Gm:lN P .and t ox oy (.int k a) (.int k b)=Z (.int k<|NZ k a b):=lS O O
def Qc:lN P .or t ox oy (.int k a) (.int k b)=Z (.int k<|bOr k a b):=lS O O
def Fh:lN P .andNot t ox oy (.int k a) (.int k b)=Z (.int k<|adG k a b):=lS O O
def Ah(h:0<=b):lN P .shl t ox oy (.int k a) (.int .u64 b)=Z (.int k<|N7 k a b):=by
 show jQ (Op.shift .shl k a .u64 b)=_;unfold Op.shift;rw[if_neg N];rfl
def vB(h:0<=b):lN P .shr t ox oy (.int k a) (.int .u64 b)=Z (.int k<|Ee k a b):=by
 show jQ (Op.shift .shr k a .u64 b)=_;unfold Op.shift;rw[if_neg N];rfl
def J4:lN P .shl t ox oy (.int k a) (.int .u64 4)=Z (.int k<|N7 k a 4):=Ah (by decide)
def J5:lN P .shl t ox oy (.int k a) (.int .u64 6)=Z (.int k<|N7 k a 6):=Ah (by decide)
def Hl:lN P .shl t ox oy (.int k a) (.int .u64 12)=Z (.int k<|N7 k a 12):=Ah (by decide)
def Ho:lN P .shl t ox oy (.int k a) (.int .u64 18)=Z (.int k<|N7 k a 18):=Ah (by decide)
def Hr:lN P .shl t ox oy (.int k a) (.int .u64 31)=Z (.int k<|N7 k a 31):=Ah (by decide)
def J6:lN P .shr t ox oy (.int k a) (.int .u64 4)=Z (.int k<|Ee k a 4):=vB (by decide)
def J7:lN P .shr t ox oy (.int k a) (.int .u64 6)=Z (.int k<|Ee k a 6):=vB (by decide)
def Ht:lN P .shr t ox oy (.int k a) (.int .u64 12)=Z (.int k<|Ee k a 12):=vB (by decide)
def Hu:lN P .shr t ox oy (.int k a) (.int .u64 18)=Z (.int k<|Ee k a 18):=vB (by decide)
def Hw:lN P .shr t ox oy (.int k a) (.int .u64 31)=Z (.int k<|Ee k a 31):=vB (by decide)
end bits
def Z'{r:Nat}(h:k<n):idR n es (.pointer<|Z ⟨r,o,W⟩) (.int kk (k:Int))=Z (.pointer<|Z ⟨r,o+k*es,W⟩):=by
 show gd (aB (bU k) n) (Z<|tN<|Z ⟨r,aV o<|bL k es,W⟩)=_;rw[aH h];rfl
section ar
variable{P:aS}{a b:Int}
def Hy:lN P .add t ox oy (.int .u8 a) (.int .u8 b)=Z (.int .u8<|nU .u8<|a+b):=lS O O
def Fj:lN P .add t ox oy (.int .i32 a) (.int .i32 b)=Z (.int .i32<|nU .i32<|a+b):=lS O O
def HV:lN P .sub t ox oy (.int .u8 a) (.int .u8 b)=Z (.int .u8<|nU .u8<|a-b):=lS O O
def Fp:lN P .sub t ox oy (.int .i32 a) (.int .i32 b)=Z (.int .i32<|nU .i32<|a-b):=lS O O
def HY:lN P .mul t ox oy (.int .u8 a) (.int .u8 b)=Z (.int .u8<|nU .u8<|a*b):=lS O O
def Fq:lN P .mul t ox oy (.int .i32 a) (.int .i32 b)=Z (.int .i32<|nU .i32<|a*b):=lS O O
end ar
def wX{t:Nat}{v:D}{l:List (Nat×D)}:Aw ((t,v)::l) t=v:=by
 show Go.Ae.look ((t,v)::l) t=v;rw[Dj,if_pos O]
def Bf{d t:Nat}{v:D}{l:List (Nat×D)}(h:(d==t)=aA):Aw ((d,v)::l) t=Aw l t:=by
 show Go.Ae.look ((d,v)::l) t=Go.Ae.look l t;rw[Dj,if_neg<|by simpa using h]
section quiet
def M.LA(G:M S H0 H L)(i:Nat){r:Nat}(hi:L[i]?=Z (r,ty,E))(hv:E[o]?=Z v)(k:K v<|Go.Ae.hN H):ME (uP W (.pointer<|Z ⟨r,o,W⟩)<|Go.Ae.hN H) K:=
 ME.ld (H:=Go.Ae.hN H) ((G.get i hi).cell hv) k
def M.J8(G:M S H0 H L)(i:Nat){r:Nat}(hi:L[i]?=Z (r,ty,E))(hn:o+n<=E.length)(k:K (.agg ⟨(E.drop o).take n⟩)<|Go.Ae.hN H):ME (uP (Z n) (.pointer<|Z ⟨r,o,W⟩)<|Go.Ae.hN H) K:=
 ME.rF (H:=Go.Ae.hN H) ((G.get i hi).read hn) k
def M.Gn(G:M [] H0 H L){r:Nat}(h:H0.cell r o=Z v)(R:r<H0.next)(k:K v<|Go.Ae.hN H):ME (uP W (.pointer<|Z ⟨r,o,W⟩)<|Go.Ae.hN H) K:=
 ME.ld (H:=Go.Ae.hN H) ((G.old R).trans h) k
end quiet
section mem
variable{P:aS}{X:Xt}
def Z_(a:Code)(hr:Nat->Nat->St->Prop)(n:Nat)(K:Out->Prop):Out->Prop:=λo=>
 @Out.rec (λ_=>Prop) False (λs=>K<|.norm s) (λi s=>K<|.exit i s) (λl s=>@aN Code (λ_=>Prop) (K<|.goto l s) (λ_=>∃m,m<n/\hr m l s)<|findLabel a l) (λs=>K<|.ret s) o
def aaa{a:Code}{hr:Nat->Nat->St->Prop}{K:Out->Prop}{s:St}:Z_ a hr n K (.norm s)=K (.norm s):=rfl
def N8{a:Code}{hr:Nat->Nat->St->Prop}{K:Out->Prop}{s:St}:Z_ a hr n K (.ret s)=K (.ret s):=rfl
def J9{a rest:Code}{hr:Nat->Nat->St->Prop}{l:Nat}{K:Out->Prop}{s:St}(h:findLabel a l=Z rest):Z_ a hr n K (.goto l s)=∃m,m<n/\hr m l s:=by
 show(@aN Code (λ_=>Prop) _ _<|findLabel a l)=_;rw[h]
def ScP(P:aS)(X:Xt)(a:Code)(o:Out)(K:Out->Prop):Prop:=∃k o1 o2,nE (lv P X k).cx k a o=o1/\o1≠.fail/\Av o1 o2/\K o2
def aab{a:Code}{K:Out->Prop}{hr:Nat->Nat->St->Prop}(h:∀n l s rest,hr n l s->findLabel a l=Z rest->gJ P X rest s (Z_ a hr n K)):
 ∀n o o',Av o o'->o≠.fail->Z_ a hr n K o'->ScP P X a o K:=by
 intro n
 induction n using Nat.strongRecOn with
 |_ n ih=>
  intro o o' he hne hg;cases he with
  |fail=>exact absurd O hne
  |norm he=>exact⟨1,.norm _,_,O,(λh=>nomatch h),.norm he,hg⟩
  |exit i he=>exact⟨1,.exit i _,_,O,(λh=>nomatch h),.exit i he,hg⟩
  |ret he=>exact⟨1,.ret _,_,O,(λh=>nomatch h),.ret he,hg⟩
  |goto l he=>
   rename_i s s';cases hf:findLabel a l with
   |none=>
    have hg':K (.goto l s'):=by
     have:(@aN Code (λ_=>Prop) (K<|.goto l s') (λ_=>∃m,m<n/\hr m l s')<|findLabel a l):=hg;rw[hf]at this;exact this
    refine⟨1,.goto l s,_,?_,by simp,.goto l he,hg'⟩;show(@aN Code (λ_=>Out) (.goto l s) _<|findLabel a l)=_;rw[hf]
   |some rest=>
    rw[J9 hf]at hg;obtain⟨m,hm,hR⟩:=hg;obtain⟨o1,o1',Q,I,h3⟩:=gJ.alike he<|h m l s' rest hR hf;obtain⟨n1,k1,Q⟩:=Q;obtain⟨k2,o3,o4,h4,h5,h6,h7⟩:=ih m hm o1 o1' I n1 h3;refine⟨max k1 k2+1,o3,o4,?_,h5,h6,h7⟩;show(@aN Code (λ_=>Out) (.goto l s) (λrest=>nE (lv P X<|max k1 k2+1).cx (max k1 k2) a<|(lv P X<|max k1 k2+1).cx rest s)<|findLabel a l)=o3;rw[hf];show nE (lv P X<|max k1 k2+1).cx (max k1 k2) a (Ff P X (max k1 k2) rest s)=o3;rw[A_ Q n1 (mR _ _),<-h4];have J:ZQ (lv P X k2).cx (lv P X<|max k1 k2+1).cx:=(yu k2 _ N).2;refine Co J a k2 _ (jW _ _) o1 ?_;rw[h4];exact h5
def gJ.scope{a:Code}{K:Out->Prop}{s:St}(hr:Nat->Nat->St->Prop)(h:∀n l s rest,hr n l s->findLabel a l=Z rest->gJ P X rest s (Z_ a hr n K))(n:Nat)(h0:gJ P X a s<|Z_ a hr n K):gJ P X (.scope a) s K:=by
 obtain⟨o,o',Q,I,h3⟩:=h0;obtain⟨n1,k1,Q⟩:=Q;obtain⟨k2,o3,o4,h4,h5,h6,h7⟩:=aab h n o o' I n1 h3;refine⟨o3,o4,⟨h5,max k1 k2,?_⟩,h6,h7⟩;show nE (lv P X<|max k1 k2).cx (max k1 k2) a (Ff P X (max k1 k2) a s)=o3;rw[A_ Q n1 (mR _ _),<-h4];refine Co (yu k2 _<|jW _ _).2 a k2 _ (jW _ _) o ?_;rw[h4];exact h5
end mem
end
def adH{r:Nat}{z:Int}(h0:0<=z)(h:z<n):Ac es (T (Z ⟨r,o,W⟩) n c) (vi z)=Z (.pointer<|Z ⟨r,o+z.toNat*es,W⟩):=by
 obtain⟨k,rfl⟩:∃k:Nat,z=k:=⟨z.toNat,N⟩;exact vO N
section bin
variable{P:aS}{a b:Int}
def Fs(ha:0<=a)(hb:0<b)(h:a<=9223372036854775807):lN P .quo t ox oy (vi a) (vi b)=Z (vi<|a/b):=lS O (by
 show jQ (Op.intDiv .quo .i64 a b)=_;unfold Op.intDiv;rw[if_neg N];show Z (bV .i64<|IntKind.i64.wrap<|a.tdiv b)=_;have Q:a.tdiv b=a/b:=Int.tdiv_eq_ediv_of_nonneg ha;have I:0<=a/b:=Int.ediv_nonneg ha N;have h3:a/b<=a:=Int.ediv_le_self b ha;rw[Q];have:IntKind.i64.wrap (a/b)=a/b:=IntWalk.i64_in _ N;rw[this])
def PU.quo{K:D->Prop}(ha:0<=a)(hb:0<b)(h:a<=9223372036854775807)(k:∀q:Int,0<=q->b*q<=a->a<b*q+b->K (vi q)):PU (lN P .quo t ox oy (vi a)<|vi b) K:=by
 rw[Fs ha hb h];have Q:=Int.mul_ediv_add_emod a b;have I:=Int.emod_nonneg a (show b≠0 by omega);have h3:=Int.emod_lt_of_pos a hb;exact k (a/b) (Int.ediv_nonneg ha N) N N
end bin
def M.stQ(G:M [] H0 H L)(i:Nat){r:Nat}(hi:L[i]?=Z (r,ty,E))(hl:(bI v).length=n)(hn:o+n<=E.length)(hk:all' fB (bI v)=f)(k:∀H1,M [] H0 (hM H H1) (L.set i (r,ty,splice E o<|bI v))->K undef H1):ME (Cq n (.pointer<|Z ⟨r,o,W⟩) v<|Go.Ae.hN H) K:=by
 obtain⟨H1,Q,I,h3⟩:=G.xG.zC (vs:=bI v) (o:=o) i hi N hk;show ME (gd (ay (len<|bI v) n)<|aK ((Go.Ae.hN H).write r o<|bI v) λC=>Z (undef,C)) K;rw[fQ,hl,dw,Q];refine k H1 ⟨G.ext.later h3.draw λq hq=>.inr ?_,λe he=>(I.bk e he).jf O,I.lo,I.ne,h3.draw.wf G.wf⟩;rw[aO]at hq;subst hq;exact G.wB<|aR hi
def El(E:List D)(es k:Nat):List D:=(E.drop<|k*es).take es
def mG(E:List D)(es k i:Nat):(El E es k)[i]?=if i<es then E[k*es+i]? else W:=by
 unfold El;rw[iU];split
 .rw[oZ]
 .rfl
theorem MK(hv:vs.length=es)(h:k*es+es<=E.length)(k':Nat):El (splice E (k*es) vs) es k'=if k'=k then vs else El E es k':=by
 apply gX;intro i;rw[mG]
 by_cases hi:i<es
 .rw[if_pos hi,qo N]
  by_cases hk:k'=k
  .subst hk;rw[if_pos N,if_pos O,iR]
  .rw[if_neg hk,mG,if_pos hi,if_neg];rintro⟨Q,I⟩;rcases bZ k' k with h3|h3
   .have:(k'+1)*es<=k*es:=eU es h3;rw[gM]at this;omega
   .have:(k+1)*es<=k'*es:=eU es N;rw[gM]at this;omega
 .rw[if_neg hi];split
  .symm;exact fC N
  .rw[mG,if_neg hi]
def SB(P:List D->Prop)(r:Nat)(ty:aG)(es n:Nat)(H0 H:F)(L:List dJ):Prop:=∃E,n*es<=E.length/\(∀k,k<n->P (El E es k))/\M [] H0 H ((r,ty,E)::L)
section steps
variable{P:List D->Prop}{r:Nat}
def SB.wf(h:SB P r ty es n H0 H L):Wf H:=by obtain⟨_,_,_,G⟩:=h;exact G.wf
def SB.ext(h:SB P r ty es n H0 H L):Ext H0 H:=by obtain⟨_,_,_,G⟩:=h;exact G.ext
def SB.call(h:SB P r ty es n H0 H L)(J:Ext H C):SB P r ty es n H0 C L:=by obtain⟨E,Q,I,G⟩:=h;exact⟨E,Q,I,G.call J⟩
def SB.new(h:SB P r ty es n H0 H L)(k:∀H1 q,SB P r ty es n H0 H1 ((q,t2,z)::L)->K (.pointer<|Z ⟨q,0,W⟩) H1):ME (iZ t2 z H) K:=by
 obtain⟨E,Q,I,G⟩:=h;exact G.iZ λH1 q G=>k H1 q ⟨E,Q,I,G.perm<|gm _ _ _⟩
def SB.ld(h:SB P r ty es n H0 H L)(i:Nat){q:Nat}(hi:L[i]?=Z (q,t2,E))(hv:E[o]?=Z v)(k:K v H):ME (uP W (.pointer<|Z ⟨q,o,W⟩) H) K:=by
 obtain⟨E,Q,I,G⟩:=h;exact G.ld (i+1) (by rw[dX];exact hi) hv k
def SB.LA(h:SB P r ty es n H0 H L)(i:Nat){q:Nat}(hi:L[i]?=Z (q,t2,E))(hv:E[o]?=Z v)(k:K v<|Go.Ae.hN H):ME (uP W (.pointer<|Z ⟨q,o,W⟩)<|Go.Ae.hN H) K:=by
 obtain⟨E,Q,I,G⟩:=h;exact G.LA (i+1) (by rw[dX];exact hi) hv k
def SB.st(h:SB P r ty es n H0 H L)(i:Nat){q:Nat}(hi:L[i]?=Z (q,t2,E))(hl:(bI v).length=m)(hn:o+m<=E.length)(hk:all' fB (bI v)=f)(k:∀H1,SB P r ty es n H0 H1 (L.set i (q,t2,splice E o<|bI v))->K undef H1):ME (Cq m (.pointer<|Z ⟨q,o,W⟩) v H) K:=by
 obtain⟨ds,Q,I,G⟩:=h;exact G.st (i+1) (by rw[dX];exact hi) hl hn hk λH1 G=>k H1 ⟨ds,Q,I,G⟩
def SB.row(h:SB P r ty es n H0 H L)(hk:k<n):∃E,M [] H0 H ((r,ty,E)::L)/\P (El E es k)/\k*es+es<=E.length:=by
 obtain⟨E,Q,I,G⟩:=h;refine⟨E,G,I k hk,?_⟩;have:(k+1)*es<=n*es:=eU es hk;rw[gM]at this;omega
def SB.e1(h:SB P r ty 1 n H0 H L){z:Int}(h0:0<=z)(hz:z<n)(k:∀v,P [v]->K v H):ME (uP W (.pointer<|Z ⟨r,z.toNat*1,W⟩) H) K:=by
 obtain⟨E,G,hp,hl⟩:=h.row (k:=z.toNat) N;have hlt:z.toNat<E.length:=by omega
 refine G.ld 0 O (v:=E[z.toNat]) (by rw[dz];exact au hlt)<|k _ ?_
 have:El E 1 z.toNat=[E[z.toNat]]:=by
  unfold El;rw[dz,dN hlt];rfl
 rw[<-this];exact hp
def SB.xG(h:SB P r ty es n H0 H L):SB P r ty es n (Go.Ae.hN H0) (Go.Ae.hN H) L:=by obtain⟨E,Q,I,G⟩:=h;exact⟨E,Q,I,G.xG⟩
def SB.e1Q(h:SB P r ty 1 n H0 H L){z:Int}(h0:0<=z)(hz:z<n)(k:∀v,P [v]->K v (Go.Ae.hN H)):ME (uP W (.pointer<|Z ⟨r,z.toNat*1,W⟩)<|Go.Ae.hN H) K:=h.xG.e1 h0 hz k
def SB.em(h:SB P r ty es n H0 H L){z:Int}(h0:0<=z)(hz:z<n)(k:∀l,P l->K (.agg ⟨l⟩) H):ME (uP (Z es) (.pointer<|Z ⟨r,z.toNat*es,W⟩) H) K:=by
 obtain⟨E,G,hp,hl⟩:=h.row (k:=z.toNat) N;exact G.rF 0 O N<|k _ hp
theorem SB.w(h:SB P r ty es n H0 H L){z:Int}(h0:0<=z)(hz:z<n)(hp:P<|bI v)(hl:(bI v).length=es)(hk:all' fB (bI v)=f)(k:∀H1,SB P r ty es n H0 H1 L->K undef H1):
 ME (Cq es (.pointer<|Z ⟨r,z.toNat*es,W⟩) v H) K:=by
 obtain⟨E,Q,I,G⟩:=h
 have hle:z.toNat*es+es<=E.length:=by
  have:(z.toNat+1)*es<=n*es:=eU es N;rw[gM]at this;omega
 refine G.st 0 O hl N hk λH1 G=>k H1 ⟨splice E (z.toNat*es)<|bI v,?_,λj hj=>?_,?_⟩
 .rw[lY N];exact Q
 .rw[MK hl hle];split
  .exact hp
  .exact I j hj
 .exact G
def Gp(h1:Int->Prop)(l:List D):Prop:=∃z:Int,l=[vi z]/\h1 z
def SB.i1(h:SB (Gp h1) r ty 1 n H0 H L){z:Int}(h0:0<=z)(hz:z<n)(k:∀x,h1 x->K (vi x) H):ME (uP W (.pointer<|Z ⟨r,z.toNat*1,W⟩) H) K:=
 h.e1 h0 hz λv ⟨x,J,hq⟩=>by cases J;exact k x hq
def SB.i1Q(h:SB (Gp h1) r ty 1 n H0 H L){z:Int}(h0:0<=z)(hz:z<n)(k:∀x,h1 x->K (vi x) (Go.Ae.hN H)):ME (uP W (.pointer<|Z ⟨r,z.toNat*1,W⟩)<|Go.Ae.hN H) K:=
 h.e1Q h0 hz λv ⟨x,J,hq⟩=>by cases J;exact k x hq
def SB.iw(h:SB (Gp h1) r ty 1 n H0 H L){z:Int}(h0:0<=z)(hz:z<n){x:Int}(J:h1 x)(k:∀H1,SB (Gp h1) r ty 1 n H0 H1 L->K undef H1):ME (Cq 1 (.pointer<|Z ⟨r,z.toNat*1,W⟩) (vi x) H) K:=
 h.w h0 hz ⟨x,rfl,J⟩ rfl rfl k
end steps
def gJ.wC{P:aS}{X:Xt}{c:Code}{s:St}{K:Out->Prop}(h:∀K',K'=K->gJ P X c s K'):gJ P X c s K:=h K O
def Fu{K:Out->Prop}{s:St}{i j:Nat}(h:(j==i)=aA):rO i K (.exit j s)=K (.exit j s):=PV (by simpa using h)
def nJ.mono{P:aS}{X:Xt}{q:Option (FuncId×List D×List D)}(h:nJ P X q args H K)(hk:∀v C,K v C->K' v C):nJ P X q args H K':=by
 cases q with
 |none=>exact h
 |some q=>exact aJ.mono h hk
section bin
variable{P:aS}{a b:Int}{k k2:fu}
end bin
def Cu{k:fu}{n:Int}(h:k.wrap n=n):nU k n=n:=by rw[JB,h]
def u64_in{n:Int}(h:0<=n/\n<18446744073709551616):IntKind.u64.wrap n=n:=by
 show n %18446744073709551616=n;omega
def u8_in{n:Int}(h:0<=n/\n<256):IntKind.u8.wrap n=n:=by
 show n %256=n;omega
def Va{k:fu}{a:Int}(h:n<=32)(I:32<=k.bits):Ee k a (n:Int)=a.fdiv ((2^n:Nat):Int):=by
 unfold Ee;have:min ((n:Int).toNat) k.bits=n:=by omega
 rw[this];simp
def agI(s:ByteArray):Bool:=(fZ 256).all λk=>match s.data.toList[k]? with
 |none=>aA
 |some t=>aB t.toNat 8&&aB (2^t.toNat) (2*k+(if k=0 then 1 else 0))
def PU.agI{s:ByteArray}{hc:Int}{K:D->Prop}(ht:Go.Ae.agI s=f)(h0:0<=hc)(Q:hc<256)(h:∀t:Nat,t<=8->(1<=hc->((2^t:Nat):Int)<=2*hc)->K (.int .u8 (t:Int))):PU (idS (.string s)<|.int .u8 hc) K:=by
 obtain⟨k,rfl⟩:∃k:Nat,hc=k:=⟨hc.toNat,N⟩;have hk:k<256:=by omega
 have:=eD.1 ht k<|lZ.2 hk;show PU (aK (nth s.data.toList k) λb=>Z<|bV .u8<|.ofNat b.toNat) K;rw[om]
 revert this
 cases s.data.toList[k]? with
 |none=>intro h;cases h
 |some t=>
  intro I;simp only[aZ]at I;have h3:=aD I.1;have h4:=aD I.2
  exact h t.toNat h3 λh5=>by
   rw[if_neg N]at h4;omega
section steps
variable{P:List D->Prop}{r:Nat}
def SB.mV(h:SB P r ty es n H0 H L)(J:Ext (Go.Ae.hN H) C):SB P r ty es n H0 (hM H C) L:=by obtain⟨E,Q,I,G⟩:=h;exact⟨E,Q,I,G.mV J⟩
def SB.stQ(h:SB P r ty es n H0 H L)(i:Nat){q:Nat}(hi:L[i]?=Z (q,t2,E))(hl:(bI v).length=m)(hn:o+m<=E.length)(hk:all' fB (bI v)=f)(k:∀H1,SB P r ty es n H0 (hM H H1) (L.set i (q,t2,splice E o<|bI v))->K undef H1):ME (Cq m (.pointer<|Z ⟨q,o,W⟩) v<|Go.Ae.hN H) K:=by
 obtain⟨ds,Q,I,G⟩:=h;exact G.stQ (i+1) (by rw[dX];exact hi) hl hn hk λH1 G=>k H1 ⟨ds,Q,I,G⟩
def SB.drop{b:dJ}(h:SB P r ty es n H0 H<|b::L):SB P r ty es n H0 H L:=by
 obtain⟨E,g1,g2,G⟩:=h;exact⟨E,g1,g2,M.drop (A:=[_])<|G.perm<|gm _ _ _⟩
end steps
def Qd(l:List D):Prop:=∃a b:Int,l=[.int .i32 a,.int .i32 b]
def SB.r1{r:Nat}(h:SB Qd r ty 2 n H0 H L){z:Int}(h0:0<=z)(hz:z<n)(k:∀a b,K (.agg ⟨[.int .i32 a,.int .i32 b]⟩) H):ME (uP (Z 2) (.pointer<|Z ⟨r,z.toNat*2,W⟩) H) K:=
 h.em h0 hz λl hl=>by obtain⟨a,b,rfl⟩:=hl;exact k a b
def SB.rw'{r:Nat}(h:SB Qd r ty 2 n H0 H L){z:Int}(h0:0<=z)(hz:z<n){a b:Int}(k:∀H1,SB Qd r ty 2 n H0 H1 L->K undef H1):ME (Cq 2 (.pointer<|Z ⟨r,z.toNat*2,W⟩) (.agg ⟨[.int .i32 a,.int .i32 b]⟩) H) K:=
 h.w h0 hz ⟨a,b,rfl⟩ rfl rfl k
def Dr:List Nat:=aU 128 240++(aU 66 241++(aU 30 2++(19::(aU 12 3++([35,3,3,52,4,4,4,68]++aU 11 241)))))
def IE:List Nat:=[128,191,160,191,128,159,144,191,128,143,0,0,0,0,0,0,0,0,0,0,0,0,0,0,0,0,0,0,0,0,0,0]
def Bg(H:F):Prop:=3<=H.next/\∃t1 t2,H.obj 1=uX t1 .u8 Dr/\H.obj 2=uX t2 .u8 IE
def Bg.ex(h:Bg H)(J:Ext H C):Bg C:=by
 obtain⟨h0,t1,t2,Q,I⟩:=h;exact⟨aX h0 J.next,t1,t2,(J.obj 1 N<|by simp).trans Q,(J.obj 2 N<|by simp).trans I⟩
open Classical in
def orT(args:List D)(H:F):Option (D×F):=if args=[]/\Bg H then Z (.bool f,H)else W
def agJ(h:Bg H):orT [] H=Z (.bool f,H):=by unfold orT;rw[if_pos ⟨rfl,h⟩]
def agK(h:orT args H=Z (v,C)):args=[]/\Bg H/\v=.bool f/\C=H:=by
 unfold orT at h;split at h
 .next y=>cases h;exact⟨y.1,y.2,O,O⟩
 .cases h
def aac{k:fu}{r z:Nat}(h:H.obj r=uX ty k l)(hz:l[i]?=Z z):H.cell r i=Z (.int k (z:Int)):=by
 have hi:i<l.length:=(bA.1 hz).1;unfold F.cell;rw[h];show gd (aB (bU i)<|len l) (Z<|(Tr.sD top (mp (λn=>bV k<|Int.ofNat n) l) 0 .nil).get top i)=_;rw[fQ,aH hi,zu,Tr.lV,ER,if_pos (by simp;omega),bC,jT,bD,hz];rfl
def Xp{k:fu}{r x hc:Nat}(h:H.obj r=uX ty k l)(J:l[i]?=Z x)(hy:l[i+1]?=Z hc):H.read r i 2=Z [.int k (x:Int),.int k (hc:Int)]:=by
 have hi:i+1<l.length:=(bA.1 hy).1;show(aK (vE<|H.obj r) λw=>gd (aB (aV i 2) w.n)<|Z<|Tr.DX top w.cells i 2)=_;rw[h];show gd (aB (i+2)<|len l) (Z<|Tr.DX top (Tr.sD top (mp (λn=>bV k<|Int.ofNat n) l) 0 .nil) i 2)=_;rw[fQ,aH hi,zu,Tr.xx,Tr.xx,Tr.B6,Tr.lV,Tr.lV,ER,if_pos (by simp;omega),if_pos (by simp;omega),bC,bC,jT,jT,bD,bD,J,hy];rfl
section
variable{S:List Nat}
def Xq(t:Tr D):∀(n k:Nat)(E:List D),E.length=n->(∀i(h:i<E.length),t.get top (k+i)=E[i])->Tr.DX top t k n=E:=by
 intro n
 induction n with
 |zero=>intro k E h _;rw[Tr.B6];exact(dK.1 h).symm
 |succ n ih=>
  intro k E h y;cases E with
  |nil=>cases h
  |cons x E=>
   rw[Tr.xx,ih (k+1) E (by simpa using h) (λi hi=>by
    have:=y (i+1) (by simpa using hi);rw[show k+1+i=k+(i+1) by omega,this];rfl)]
   have:=y 0 (by simp);rw[dD]at this;rw[this];rfl
def DL{r:Nat}(h:∀i x,E[i]?=Z x->H.cell r (o+i)=Z x):H.read r o E.length=Z E:=by
 cases E with
 |nil=>rfl
 |cons x E=>
  have hrow:∃hr,H.obj r=.row hr:=by
   have:=h 0 x O;unfold F.cell at this;obtain⟨hr,Q,_⟩:=aI this;exact⟨hr,tu Q⟩
  obtain⟨hr,hR⟩:=hrow
  have hcell:∀i(hi:i<(x::E).length),o+i<hr.n/\hr.cells.get top (o+i)=(x::E)[i]:=by
   intro i hi;have Q:=h i _<|au hi;unfold F.cell at Q;rw[hR]at Q;replace Q:gd (aB (bU<|o+i) hr.n) (Z<|hr.cells.get top<|o+i)=Z _:=Q;obtain⟨I,h3⟩:=fH Q;exact⟨aD I,dH h3⟩
  show(aK (vE<|H.obj r) λw=>gd (aB (aV o<|E.length+1) w.n)<|Z<|Tr.DX top w.cells o<|E.length+1)=_;rw[hR];show gd (aB (o+(E.length+1)) hr.n) (Z<|Tr.DX top hr.cells o<|E.length+1)=_;have hl:=(hcell E.length<|by simp).1;rw[aH N,zu,Xq hr.cells (E.length+1) o (x::E) O λi hi=>(hcell i hi).2]
def Fl.read(h:Fl H a n es E)(he:0<es)(hk:k<n)(c:Nat):
 ∃r o,Ac es (T a n c) (B k)=Z (.pointer<|Z ⟨r,o,W⟩)/\r<H.next/\H.read r o es=Z (El E es k)/\(El E es k).length=es/\∃o0,a=Z ⟨r,o0,W⟩/\o=o0+k*es:=by
 obtain⟨r,o,Q,I,h3,h4⟩:=h.idx (c:=c) he hk
 have hl:(El E es k).length=es:=by
  unfold El;have:(k+1)*es<=n*es:=eU es hk;rw[gM]at this;have:=h.1;simp;omega
 refine⟨r,o,Q,I,?_,hl,h4⟩
 have:=DL (H:=H) (r:=r) (o:=o) (E:=El E es k) λi x J=>by
  rw[mG]at J;split at J
  .next hi=>exact h3 i x hi J
  .cases J
 rwa [hl]at this
def xH(h:Fl H a n es E)(he:0<es):appended H es (T a n c)=Z (n,E):=by
 rcases gH n with rfl|hn
 .have y:E=[]:=dK.1 (by have:=h.1;omega);subst y;cases a with
  |none=>rfl
  |some a=>
   show(aK (H.read a.block a.off<|bL 0 es) λl=>Z (0,l))=_;rw[show bL 0 es=0 from iP es];rfl
 .have hl:0<E.length:=by rw[h.1];exact qJ hn he
  obtain⟨r,o,rfl,_,_⟩:=h.2 0 _<|au hl;show(aK (H.read r o<|bL n es) λl=>Z (n,l))=_
  have Q:=DL (H:=H) (r:=r) (o:=o) (E:=E) λi x J=>by
   obtain⟨r',o',e,_,h5⟩:=h.2 i x J;cases e;exact h5
  rw[h.1]at Q;rw[show bL n es=n*es from O,Q];rfl
def Cv{x:D}{xs:List D}(hv:v=T W 0 0\/∃a,v=T (Z a) 0 0)(ha:appended H es x=Z (n,xs))(hn:n<=16777216):
 zB e es v x H=if n=0 then Z (v,H)else Z (T (Z ⟨H.next,0,W⟩) n<|fI es,H.new<|rowOf e xs):=by
 cases n with
 |zero=>
  rw[if_pos O];rcases hv with rfl|⟨a,rfl⟩
  .unfold zB;rw[ha];show gd (aB 0 16777216) (Z (T W 0 0,H))=_;rw[aH N];rfl
  .unfold zB;rw[ha];show gd (aB 0 16777216) (Z (T (Z a) 0 0,H))=_;rw[aH N];rfl
 |succ k=>
  rw[if_neg N];rcases hv with rfl|⟨a,rfl⟩
  .exact NW ha hn
  .unfold zB;rw[ha];show gd (aB (k+1) 16777216) (gd (aB 0 16777216)<|bR (gD 0) (xA (e,es) a 0 0 (k+1) xs H)<|gd (ay 0<|fI es)<|sP (e,es) a 0 0 (k+1) xs H)=_;rw[aH hn,aH N,show gD 0=f from O];show xA (e,es) a 0 0 (k+1) xs H=_;unfold xA
   have e1:aB (aV 0<|k+1) 0=aA:=by
    rw[<-bY];intro h;have:=aD h;have e:aV 0 (k+1)=k+1:=aW _;omega
   have e2:aV 0 (k+1)=k+1:=aW _;have e3:bL 0 es=0:=iP es;rw[e1,jL];show(aK (H.read a.block a.off<|bL 0 es) λold=>Z<|xQ e es (aV 0<|k+1) (app old xs) H)=_;rw[e3,e2];rfl
section steps
variable{x:D}{xs:List D}
end steps
def Bh{r w:Nat}(h:w<=n):U4 es (T (Z ⟨r,o,W⟩) n<|fI es) W (Z<|B w) W=Z (T (Z ⟨r,o,W⟩) w<|fI es):=by
 show bR (gD<|fI es) _ (gd (ay (fI es)<|fI es)<|gd (aB 0 w&&aB w n)<|Z<|T (Z ⟨r,aV o<|bL 0 es,W⟩) (dA w 0)<|fI es)=_;rw[yE,jL,dw,aH<|bg _,aH h,show bL 0 es=0 from iP es];rfl
def Qf{r w:Nat}(h:w<=n):U4 es (T (Z ⟨r,o,W⟩) n<|fI es) (Z<|B w) W W=Z (T (Z ⟨r,o+w*es,W⟩) (n-w)<|fI es):=by
 show bR (gD<|fI es) _ (gd (ay (fI es)<|fI es)<|gd (aB w n&&aB n n)<|Z<|T (Z ⟨r,aV o<|bL w es,W⟩) (dA n w)<|fI es)=_;rw[yE,jL,dw,aH<|az _,aH h];rfl
def Vb:U4 es (T W 0 0) W (Z<|B 0) W=Z (T W 0 0):=rfl
def GB.cut{H0 H:F}{L:List dJ}{w:Nat}(hg:GB ty es v E gb)(he:0<es)(hw:w*es<=E.length){K:D->Prop}(k:∀v',GB ty es v' (E.take<|w*es) gb->K v'):PU (U4 es v W (Z<|B w) W) K:=by
 rcases hg with⟨rfl,rfl,rfl⟩|⟨r,n,dY,rfl,hn,rfl⟩
 .have:w=0:=by
   rcases gH w with h|h
   .exact h
   .have:=qJ h he;have I:w*es<=0:=hw;omega
  subst this;rw[Vb];exact k _<|.inl ⟨O,by simp,rfl⟩
 .have hwn:w<=n:=by rw[hn]at hw;exact qU hw he
  rw[Bh hwn];refine k _<|.inr ⟨r,w,E.drop (w*es)++dY,O,?_,?_⟩
  .simp;omega
  .rw[<-bP,iO]
section bin
variable{P:aS}
def Cw(ht:F5 P t=2):lN P .eql t ox (.const<|T W 0 0) (T a n c) (T W 0 0)=Z (.bool<|eX a):=by
 show B_ .eql (L6 (F5 P t) (T W 0 0)<|T a n c)=_;rw[ht];rfl
end bin
def agL(he:es<=16777216):bS e z es 0 [] H=Z (T (Z ⟨H.next,0,W⟩) 0 0,H.new<|rowOf e []):=by
 unfold bS;rw[show bL 0 es=0 from iP es,aH<|bg _];rfl
end
def aad(w:bW)(o:lu)(r:Nat):Prop:=o=.dead\/∃(hr:Row)(E:Array D)(fr:Nat×Nat),o=.row hr/\w.heap[r]?=Z (.cells E hr.ty fr)/\hr.kR=f/\hr.n<=E.size/\∀i,i<hr.n->∃v,E[i]?=Z v/\(hr.cells.get top i=top\/(mU v=f/\hr.cells.get top i=v)\/∃t x,v=.iface t x/\hr.cells.get top i=.iface t top)
def aiv{w:bW}(h:H.next<=w.heap.size)(ht:∀r,r<H.next->aad w (H.obj r) r):RH (Bb w H) H w:=by
 refine⟨?_,?_,?_⟩
 .intro r l R;unfold Bb at R;split at R
  .next Q=>exact Q
  .cases R
 .intro r l R;unfold Bb at R;split at R
  .next Q=>
   cases R;refine⟨w.heap[r]'N,bq (i:=r) N,?_⟩;rcases ht r Q with I|⟨hr,E,fr,I,h3,hse,hle,h4⟩
   .rw[I];trivial
   .have hcn:Ba w r=E.size:=by unfold Ba;rw[h3]
    have hget:w.heap[r]'N=.cells E hr.ty fr:=by
     have:=bq (xs:=w.heap) (i:=r) N;rw[h3]at this;injection this with this;exact this.symm
    rw[hget,I];refine⟨⟨O,O⟩,O,hcn.symm,bg _,?_,?_,?_⟩
    .show 0+(hr.n-0)<=Ba w r;rw[hcn];omega
    .rw[hse];intro h;cases h
    .intro i _ hi;obtain⟨v,h5,h6⟩:=h4 i hi;refine⟨v,by simpa using h5,?_⟩;rcases h6 with h6|⟨h6,h7⟩|⟨t,x,rfl,h7⟩
     .rw[h6];exact .top _
     .rw[h7];exact .sc _ h6
     .rw[h7];exact .iface t top x<|.top x
  .cases R
 .intro r r' l l' R hr' _ _ y;unfold Bb at R hr';split at R
  .split at hr'
   .cases R;cases hr';exact y
   .cases hr'
  .cases R
section mem
variable{P:aS}
def Xr{X:Xt}(hn:n<=H.next)(hmo:P.follows .mixedOrders=f)(hP:BH P n)(hX:Yy P X)(hO:IC P X n){g:FuncId}(hg:P.funcs[g]?=Z fn)(hb:fn.body.isSome=f)(h:aJ P X g args H λv C=>v=.bool b/\H.next<=C.low){w:bW}(hw:H.next<=w.heap.size)(ht:∀r,r<H.next->aad w (H.obj r) r)(ha:kT (Bb w H) args args'):
 Calls P g ⟨args'⟩ w λe w'=>e=.returned (.bool b)/\Go.RowKit.Below w.heap.size w w':=by
 obtain⟨v,C,⟨k,h⟩,rfl,hlow⟩:=h;refine(levels hmo hP hX hO k g args _ _ C fn h hg hb (Bb w H) w args' (aiv hw ht) (λg hg=>UX w H g N) ha).mono ?_;rintro e w' ⟨m',v',rfl,Q,I,h3⟩;rw[Q.of_bool];refine⟨O,⟨h3.os,h3.tape,h3.output,h3.size,λc y=>h3.keep c y ?_⟩⟩;intro r l R _;unfold Bb at R;split at R
 .next h4=>exact aP h4 hlow
 .cases R
def J'(v:D):D:=if mU v=f then v else match v with
 |.iface t _=>.iface t top
 |_=>top
def agM:Obj->lu
 |.cells E ty _=>.row ⟨ty,Tr.sD top (E.toList.map J') 0 .nil,E.size,f,0⟩
 |_=>.dead
def aae(w:bW)(ai:Nat->Option lu)(r:Nat):lu:=(ai r).getD (match w.heap[r]? with|some o=>agM o|none=>.dead)
def Ef(w:bW)(ai:Nat->Option lu):F:=⟨Tr.sD .dead ((fZ w.heap.size).map<|aae w ai) 0 .nil,w.heap.size,w.heap.size⟩
def J_(w:bW)(ai:Nat->Option lu){r:Nat}(h:r<w.heap.size):(Ef w ai).obj r=aae w ai r:=by
 show(Tr.sD .dead ((fZ w.heap.size).map<|aae w ai) 0 .nil).get .dead r=_;rw[Tr.lV,if_pos (by simp;omega),bC];simp[h]
theorem adI{w:bW}(hT:∀r o,ai r=Z o->aad w o r):∀r,r<(Ef w ai).next->aad w ((Ef w ai).obj r) r:=by
 intro r R;replace R:r<w.heap.size:=R;rw[J_ w ai R];unfold aae;cases y:ai r with
 |some o=>exact hT r o y
 |none=>
  rw[bq R];show aad w (agM _) r;cases ho:w.heap[r]with
  |cells E ty fr=>
   refine .inr ⟨_,E,fr,O,by rw[bq R,ho],rfl,az _,λi hi=>?_⟩;replace hi:i<E.size:=hi;refine⟨E[i],bq hi,?_⟩;show(Tr.sD top (E.toList.map J') 0 .nil).get top i=top\/_
   have e:(Tr.sD top (E.toList.map J') 0 .nil).get top i=J' E[i]:=by
    rw[Tr.lV,if_pos (by simp;omega),bC];simp[hi]
   show(Tr.sD top (E.toList.map J') 0 .nil).get top i=top\/(mU E[i]=f/\(Tr.sD top (E.toList.map J') 0 .nil).get top i=E[i])\/∃t x,E[i]=.iface t x/\(Tr.sD top (E.toList.map J') 0 .nil).get top i=.iface t top;rw[e];unfold J';split
   .next h=>exact .inr<|.inl ⟨h,O⟩
   .split
    .next t x e=>exact .inr<|.inr ⟨t,x,e,O⟩
    .exact .inl O
  |_=>exact .inl O
def Xu{w:bW}{r:Nat}(hT:ai r=W)(h:w.cell? ⟨r,o,W⟩=Z v)(hs:mU v=f):r<w.heap.size/\(Ef w ai).cell r o=Z v:=by
 unfold World.cell? at h;cases R:w.heap[r]? with
 |none=>simp[R]at h
 |some ob=>
  have hlt:r<w.heap.size:=(dR.1 R).1;refine⟨hlt,?_⟩;cases ob with
  |cells E ty fr=>
   simp[R]at h;have hi:o<E.size:=(dR.1 h).1;unfold F.cell;rw[J_ w ai hlt];unfold aae;rw[hT,R];show gd (aB (bU o) E.size) (Z<|(Tr.sD top (E.toList.map J') 0 .nil).get top o)=_;rw[aH hi,zu,Tr.lV,if_pos (by simp;omega),bC];have I:E[o]=v:=(dR.1 h).2;simp[hi,I,J',hs]
  |_=>simp[R]at h
def adJ{w:bW}{r:Nat}(R:r<w.heap.size)(y:c<=9223372036854775807)(hn:n<=c):VR (Bb w<|Ef w ai) (T (Z ⟨r,o,W⟩) n c) (T (Z ⟨r,o,W⟩) n c):=by
 have:=VR.slice (m:=Bb w<|Ef w ai) r o n c ⟨r,0,0,Ba w r,agB<|(Ef w ai).obj r⟩ (by unfold Bb;rw[if_pos (show r<(Ef w ai).next from R)]) (bg _) (aH y) hn;simpa using this
end mem
section
variable{S:List Nat}
def GK(ty:aG)(es:Nat)(v:D)(E:List D)(gb:List dJ):Prop:=
 GB ty es v E gb\/∃r n m dY,v=T (Z ⟨r,0,W⟩) n m/\m<=16777216/\E.length=n*es/\(E++dY).length=m*es/\gb=[(r,ty,E++dY)]
def Ka(h:m<=16777216):gD m=f:=aH N
section steps
variable{xs:List D}
def GK.app(hg:GK ty es v E gb)(G:M S H0 H<|(rx,ty,xs)::(gb++L))(he:0<es)(J:xs.length=(m+1)*es)(hok:all' fB xs=f)(hm:m+1<=16777216)(y:E.length<=16777216):
 ∃v' H1 gT,zB ty es v (T (Z ⟨rx,0,W⟩) (m+1) cx) H=Z (v',H1)/\GK ty es v' (E++xs) gT/\M S H0 H1 (gT++L)/\oz (gb.map (·.1)) H H1:=by
 rcases hg with hg|⟨r,n,mm,dY,rfl,hmm,hn,hj,rfl⟩
 .obtain⟨v',H1,gT,Q,I,h3,h4⟩:=hg.app (cx:=cx) G he J hok hm y;exact⟨v',H1,gT,Q,.inl I,h3,h4⟩
 have hbx:=G.get 0 O;have ha:=vz (k:=m+1) (c:=cx) hbx J;have hS1:M S H0 H ([(r,ty,E++dY)]++L):=M.drop (A:=[(rx,ty,xs)]) G;have hb:=hS1.get 0 O
 have hnn:n<=16777216:=by
  have:n*1<=n*es:=fP n he;omega
 have hap:zB ty es (T (Z ⟨r,0,W⟩) n mm) (T (Z ⟨rx,0,W⟩) (m+1) cx) H=xA (ty,es) ⟨r,0,W⟩ n mm (m+1) xs H:=by
  unfold zB;rw[ha];show gd (aB (m+1) 16777216) (gd (aB n 16777216)<|bR (gD mm) (xA (ty,es) ⟨r,0,W⟩ n mm (m+1) xs H) _)=_;rw[aH hm,aH hnn,Ka hmm];rfl
 rw[hap];unfold xA;show∃v' H1 gT,bR (aB (n+(m+1)) mm) (aK (H.write r (aV 0<|n*es) xs) λC=>Z (T (Z ⟨r,0,W⟩) (n+(m+1)) mm,C)) (aK (H.read r 0<|n*es) λold=>Z<|xQ ty es (n+(m+1)) (Go.Ae.app old xs) H)=Z (v',H1)/\_;rw[show aV 0 (n*es)=n*es from aW _];have hmul:(n+(m+1))*es=n*es+(m+1)*es:=gM ..
 by_cases hfit:n+(m+1)<=mm
 .rw[aH hfit,nT];have hle:(n+(m+1))*es<=mm*es:=eU es hfit;obtain⟨H1,Q,I,h3⟩:=hS1.zC (vs:=xs) (o:=n*es) 0 O N hok;rw[Q]
  have hs:splice (E++dY) (n*es) xs=E++xs++dY.drop xs.length:=by
   unfold splice;rw[<-hn,pU,tX,mH N,bK,iR]
  rw[hs]at I;refine⟨_,H1,[(r,ty,E++xs++dY.drop xs.length)],O,.inr ⟨r,n+(m+1),mm,dY.drop xs.length,O,hmm,?_,?_,O⟩,I,h3⟩
  .rw[aQ,hn,J,hmul]
  .rw[<-hs,lY N];exact hj
 .rw[show aB (n+(m+1)) mm=aA from by rw[<-bY];intro h;exact hfit<|aD h,jL]
  have hrd:H.read r 0 (n*es)=Z E:=by
   rw[hb.read (by simp;omega)];simp only[jc];rw[<-hn,pU]
  rw[hrd];show∃v' H1 gT,Z (xQ ty es (n+(m+1)) (Go.Ae.app E xs) H)=Z (v',H1)/\_;rw[qd];refine⟨_,_,[(H.next,ty,E++xs)],O,.inl<|.inr ⟨H.next,n+(m+1),[],O,?_,by simp⟩,?_,(Ext.new _ _).weaken λ_ h=>nomatch h⟩
  .rw[aQ,hn,J,hmul]
  .exact(M.drop (A:=[(r,ty,E++dY)]) hS1).grow ty<|E++xs
def GK.fl(hg:GK ty es v E gb)(G:M S H0 H<|gb++L):∃a n c,v=T a n c/\E.length=n*es/\Fl H a n es E:=by
 rcases hg with hg|⟨r,n,m,dY,rfl,hmm,hn,hj,rfl⟩
 .exact hg.fl G
 .refine⟨_,n,_,O,hn,hn,λi x hi=>⟨r,0,rfl,(G.lo _<|aL ..).2,?_⟩⟩;rw[aW];refine(G.get 0 O).cell ?_;rw[bJ (bA.1 hi).1];exact hi
end steps
end
def PP:type_of%(hx @Fu<|hx @Ja<|hx @U2<|hx @U3<|hx @U7<|hx @U8<|hx @P_<|hx @PZ<|hx @P4<|hx @P5<|hx @Ad<|hx @P6<|hx @P7<|hx @MH<|hx @MI<|hx @P8<|hx @J3<|hx @PW<|hx @MC<|hx @P9<|hx @min2<|hx @max2<|hx @Jb<|hx @U'<|hx @U_<|hx @PO<|hx @PR<|hx @U0<|hx @PS<|hx @U1<|hx @PT<|hx @PX<|hx @PY<|hx @U5<|hx @wX<|hx @Bf<|hx @Gm<|hx @Qc<|hx @Fh<|hx @J4<|hx @J5<|hx @Hl<|hx @Ho<|hx @Hr<|hx @J6<|hx @J7<|hx @Ht<|hx @Hu<|hx @Hw<|hx @Hy<|hx @Fj<|hx @HV<|hx @Fp<|hx @HY<|hx @Fq<|hx @agH<|hx (@sG D)<|hx (@dX D)<|hx @aW<|hx @dD<|hx (@o7 dJ)<|@jo dJ):=hx @Fu<|hx @Ja<|hx @U2<|hx @U3<|hx @U7<|hx @U8<|hx @P_<|hx @PZ<|hx @P4<|hx @P5<|hx @Ad<|hx @P6<|hx @P7<|hx @MH<|hx @MI<|hx @P8<|hx @J3<|hx @PW<|hx @MC<|hx @P9<|hx @min2<|hx @max2<|hx @Jb<|hx @U'<|hx @U_<|hx @PO<|hx @PR<|hx @U0<|hx @PS<|hx @U1<|hx @PT<|hx @PX<|hx @PY<|hx @U5<|hx @wX<|hx @Bf<|hx @Gm<|hx @Qc<|hx @Fh<|hx @J4<|hx @J5<|hx @Hl<|hx @Ho<|hx @Hr<|hx @J6<|hx @J7<|hx @Ht<|hx @Hu<|hx @Hw<|hx @Hy<|hx @Fj<|hx @HV<|hx @Fp<|hx @HY<|hx @Fq<|hx @agH<|hx (@sG D)<|hx (@dX D)<|hx @aW<|hx @dD<|hx (@o7 dJ)<|@jo dJ
class zQ (L:List dJ) (r:Nat) (ty:outParam aG) (E:outParam<|List D):Prop where
 at':∃i:Nat,L[i]?=Z ((r,ty,E):dJ)
instance zQ.there{r:Nat}{ty:aG}{E:List D}{b:dJ}{L:List dJ}[h:zQ L r ty E]:zQ (b::L) r ty E:=⟨let⟨i,hi⟩:=h.at';⟨i+1,hi⟩⟩
instance zQ.here{r:Nat}{ty:aG}{E:List D}{L:List dJ}:zQ ((r,ty,E)::L) r ty E:=⟨⟨0,O⟩⟩
class Eg (L:List dJ) (r:Nat) (ax:List D->List D) (ty:outParam aG) (E:outParam<|List D) (L':outParam<|List dJ):Prop where
 at':∃i:Nat,L[i]?=Z ((r,ty,E):dJ)/\L'=L.set i (r,ty,ax E)
instance Eg.there{r:Nat}{ax:List D->List D}{ty:aG}{E:List D}{b:dJ}{L L':List dJ}[h:Eg L r ax ty E L']:Eg (b::L) r ax ty E (b::L'):=⟨let⟨i,hi,e⟩:=h.at';⟨i+1,hi,by rw[e];rfl⟩⟩
instance Eg.here{r:Nat}{ax:List D->List D}{ty:aG}{E:List D}{L:List dJ}:Eg ((r,ty,E)::L) r ax ty E ((r,ty,ax E)::L):=⟨⟨0,O,O⟩⟩
section steps
variable{S:List Nat}{r:Nat}
def M.oF(G:M S H0 H L)[hb:zQ L r ty E](k:K v H)(hv:E[o]?=Z v:=by rfl):ME (uP W (.pointer<|Z ⟨r,o,W⟩) H) K:=let⟨i,hi⟩:=hb.at';G.ld i hi hv k
def M.iK(G:M S H0 H L)[hb:zQ L r ty E](k:K (.agg ⟨(E.drop o).take n⟩) H)(hn:o+n<=E.length:=by exact aD O):ME (uP (Z n) (.pointer<|Z ⟨r,o,W⟩) H) K:=let⟨i,hi⟩:=hb.at';G.rF i hi hn k
def M.Qg(G:M S H0 H L)[hb:zQ L r ty E](k:K v<|Go.Ae.hN H)(hv:E[o]?=Z v:=by rfl):ME (uP W (.pointer<|Z ⟨r,o,W⟩)<|Go.Ae.hN H) K:=let⟨i,hi⟩:=hb.at';G.LA i hi hv k
def M.Vd(G:M S H0 H L)[hb:zQ L r ty E](k:K (.agg ⟨(E.drop o).take n⟩)<|Go.Ae.hN H)(hn:o+n<=E.length:=by exact aD O):ME (uP (Z n) (.pointer<|Z ⟨r,o,W⟩)<|Go.Ae.hN H) K:=let⟨i,hi⟩:=hb.at';G.J8 i hi hn k
def M.jE(G:M S H0 H L)[hb:Eg L r (λE=>splice E o<|bI v) ty E L'](k:∀H1,M S H0 H1 L'->K undef H1)(hl:(bI v).length=n:=by rfl)(hn:o+n<=E.length:=by exact aD O)(hk:all' fB (bI v)=f:=by rfl):ME (Cq n (.pointer<|Z ⟨r,o,W⟩) v H) K:=by
 obtain⟨i,hi,e⟩:=hb.at';subst e;exact G.st i hi hl hn hk k
end steps
section agg
variable{K:D->Prop}{a b c d e av g h i:D}
def PU.b1(hq:q=Z (.agg ⟨[a]⟩))(k:K<|.agg ⟨[a]⟩):PU q K:=.of hq k
def PU.b2(hq:q=Z (.agg ⟨[a,b]⟩))(k:K<|.agg ⟨[a,b]⟩):PU q K:=.of hq k
def PU.b3(hq:q=Z (.agg ⟨[a,b,c]⟩))(k:K<|.agg ⟨[a,b,c]⟩):PU q K:=.of hq k
def PU.b4(hq:q=Z (.agg ⟨[a,b,c,d]⟩))(k:K<|.agg ⟨[a,b,c,d]⟩):PU q K:=.of hq k
def PU.b5(hq:q=Z (.agg ⟨[a,b,c,d,e]⟩))(k:K<|.agg ⟨[a,b,c,d,e]⟩):PU q K:=.of hq k
def PU.b6(hq:q=Z (.agg ⟨[a,b,c,d,e,av]⟩))(k:K<|.agg ⟨[a,b,c,d,e,av]⟩):PU q K:=.of hq k
def PU.b7(hq:q=Z (.agg ⟨[a,b,c,d,e,av,g]⟩))(k:K<|.agg ⟨[a,b,c,d,e,av,g]⟩):PU q K:=.of hq k
def PU.b8(hq:q=Z (.agg ⟨[a,b,c,d,e,av,g,h]⟩))(k:K<|.agg ⟨[a,b,c,d,e,av,g,h]⟩):PU q K:=.of hq k
def PU.b9(hq:q=Z (.agg ⟨[a,b,c,d,e,av,g,h,i]⟩))(k:K<|.agg ⟨[a,b,c,d,e,av,g,h,i]⟩):PU q K:=.of hq k
end agg
def yw(H:F)(r:Nat)(ty:aG):Prop:=∃hr,H.obj r=.row hr/\hr.ty=ty
def yw.one{r:Nat}(h:yw H r ty)(h':yw H r ty'):ty=ty':=by
 obtain⟨hr,Q,I⟩:=h;obtain⟨R',h3,h4⟩:=h';rw[Q]at h3;cases h3;rw[<-I,<-h4]
def Bk.HZ{r:Nat}(h:Bk H r ty E):yw H r ty:=by
 obtain⟨hr,Q,I,_⟩:=h;exact⟨hr,Q,I⟩
def yw.jf{r:Nat}(h:yw H r ty)(e:C.obj r=H.obj r):yw C r ty:=by
 obtain⟨hr,Q,I⟩:=h;exact⟨hr,e.trans Q,I⟩
def i_(ax:Nat->Prop)(ty:aG)(H:F)(a:Option Addr)(n es:Nat)(E:List D):Prop:=Fl H a n es E/\∀r o,a=Z ⟨r,o,W⟩->0<n->ax r/\r<H.next/\yw H r ty
def i_.nil(ax:Nat->Prop)(ty:aG)(H:F)(a:Option Addr)(es:Nat):i_ ax ty H a 0 es []:=⟨Fl.nil _ _ _,λ_ _ _ h=>absurd h N⟩
def i_.stay{S:List Nat}{ax:Nat->Prop}(h:i_ ax ty H a n es E)(J:oz S H C)(G:∀q∈S,¬ax q\/¬yw H q ty):i_ ax ty C a n es E:=by
 obtain⟨Q,I⟩:=h
 have key:∀r o,a=Z ⟨r,o,W⟩->0<n->r∉S:=λr o e hn R=>by
  obtain⟨h3,_,h4⟩:=I r o e hn;rcases G r R with h5|h5
  .exact h5 h3
  .exact h5 h4
 rcases gH n with rfl|hn
 .have:E=[]:=dK.1 (by have:=Q.1;omega);subst this;exact i_.nil _ _ _ _ _
 .refine⟨Q.ext J λr o e=>key r o e hn,λr o e _=>?_⟩;obtain⟨h3,h4,h5⟩:=I r o e hn;exact⟨h3,aP h4 J.next,h5.jf<|J.obj r h4<|key r o e hn⟩
def i_.ex{ax:Nat->Prop}(h:i_ ax ty H a n es E)(J:Ext H C):i_ ax ty C a n es E:=h.stay J λq h=>nomatch h
def i_.wk{ax F':Nat->Prop}(h:i_ ax ty H a n es E)(hb:∀r,ax r->F' r):i_ F' ty H a n es E:=⟨h.1,λr o e hn=>⟨hb _ (h.2 r o e hn).1,(h.2 r o e hn).2⟩⟩
def i_.le{b b':Nat}(h:i_ (b<=·) ty H a n es E)(hb:b'<=b):i_ (b'<=·) ty H a n es E:=h.wk λ_ h=>aX hb h
def M.IG{S:List Nat}(G:M S H0 H L)(h:L.all (λe=>!(e.2.1==ty))=f):∀q∈L.map (·.1),¬yw H q ty:=λq hq ht=>by
 obtain⟨e,he,rfl⟩:=bQ.1 hq;have Q:=(G.bk e he).HZ.one ht;have I:=eD.1 h e he;simp[Q]at I
def GB.Jc{S:List Nat}{ax:Nat->Prop}(hg:GB ty es v E gb)(G:M S H0 H<|gb++L)(hF:∀e∈gb,ax e.1):∃a n c,v=T a n c/\E.length=n*es/\i_ ax ty H a n es E:=by
 rcases hg with⟨rfl,rfl,rfl⟩|⟨r,n,dY,rfl,hn,rfl⟩
 .exact⟨W,0,0,O,by simp,i_.nil _ _ _ _ _⟩
 .refine⟨_,n,_,O,hn,⟨hn,λi x hi=>⟨r,0,rfl,(G.lo _<|aL ..).2,?_⟩⟩,λr' o e _=>?_⟩
  .rw[aW];refine(G.get 0 O).cell ?_;rw[bJ (bA.1 hi).1];exact hi
  .cases e;exact⟨hF _<|aL ..,(G.lo _<|aL ..).2,(G.get 0 O).HZ⟩
def GB.Rw(hg:GB ty es v E gb)(G:M [] H0 H<|gb++L):∃a n c,v=T a n c/\E.length=n*es/\i_ (H0.next<=·) ty H a n es E:=
 hg.Jc G λe he=>G.wB<|cZ _ he
def GB.all(hg:GB ty es v E gb)(h:(ty==ty')=aA):gb.all (λe=>!(e.2.1==ty'))=f:=by
 rcases hg with⟨_,_,rfl⟩|⟨r,n,dY,_,_,rfl⟩
 .rfl
 .simp at h;simp[h]
section steps
variable{S:List Nat}{r:Nat}
def M.lW(G:M S H0 H L)[hb:Eg L r (λE=>splice E o<|bI v) ty E L'](k:∀H1,M S H0 (hM H H1) L'->K undef H1)(hl:(bI v).length=n:=by rfl)(hn:o+n<=E.length:=by exact aD O)(hk:all' fB (bI v)=f:=by rfl):ME (Cq n (.pointer<|Z ⟨r,o,W⟩) v<|Go.Ae.hN H) K:=by
 obtain⟨i,hi,e⟩:=hb.at';subst e;obtain⟨H1,Q,I,J⟩:=(M.xG G).zC (vs:=bI v) (o:=o) i hi N hk;show ME (gd (ay (len<|bI v) n)<|aK ((Go.Ae.hN H).write r o<|bI v) λC=>Z (undef,C)) K;rw[fQ,hl,dw,Q];refine k H1 ?_;have hm:hM H H1=hM H H1:=rfl
 exact⟨oz.later G.ext J.draw (λq hq=>by
  simp at hq;subst hq;exact(G.lo _<|aR hi).1),I.bk,λe he=>⟨(I.lo e he).1,(I.lo e he).2⟩,I.ne,J.draw.wf G.wf⟩
end steps
def M.SN{S:List Nat}{xs:List D}(G:M S H0 H L)(he:0<es)(hv:v=T W 0 0\/∃a,v=T (Z a) 0 0)(J:Fl H a n es xs)(hn:n<=16777216)(k:∀a' c' H1 L',i_ (H.next<=·) ty H1 a' n es xs->M S H0 H1 (L'++L)->K (T a' n c') H1):ME (zB ty es v (T a n c) H) K:=by
 rw[Cv hv (xH J he) hn];split
 .next h0=>
  subst h0;have y:xs=[]:=dK.1 (by have:=J.1;omega);subst y;rcases hv with rfl|⟨a,rfl⟩
  .exact k W 0 H [] (i_.nil _ _ _ _ _) G
  .exact k (Z a) 0 H [] (i_.nil _ _ _ _ _) G
 .next h0=>
  have hb:=Bk.new H ty xs;exact k _ _ _ [(H.next,ty,xs)] ⟨hb.fl (dI _) J.1,λr o e _=>by cases e;exact⟨az _,dI _,hb.HZ⟩⟩<|G.grow ty xs
def M.own{S:List Nat}(G:M S H0 H<|SH++L):M (SH.map (·.1)) H H SH:=(G.sub<|dZ SH L).base
def M.frame{S:List Nat}(G:M S H0 H<|SH++L)(h:M (SH.map (·.1)) H C M'):M S H0 C (M'++L):=
 G.turn h.ext (λe he=>⟨h.bk e he,h.lo e he⟩) h.ne
def ML(x:dJ)(L:List dJ):(x::(L++[])).Perm (L++[x]):=by rw[a_];exact aF (l₁:=[x])
def aiw(x hc z:dJ)(L:List dJ):(x::hc::z::(L++[])).Perm (L++[x,hc,z]):=by rw[a_];exact aF (l₁:=[x,hc,z])
def iB{K:Prop}(h:noTwo cls=f)(k:K):jI ops cls=f/\K:=⟨Hg h,k⟩
def Np(hr:List Int->Prop)(r:Nat)(ty:aG)(n:Nat)(H0 H:F)(L:List dJ):Prop:=∃E vs,E.length=n/\hr E/\M [] H0 H ((r,ty,E.map vi++vs)::L)
def Rn(hr:List Int->Prop)(z x:Int)(E:List Int):Prop:=hr E/\E[z.toNat]?=Z x
def Wn(hr:List Int->Prop)(z x:Int)(E:List Int):Prop:=∃c,hr c/\E=c.set z.toNat x
def Pn(c0 E:List Int):Prop:=E.Perm c0
class Bn (hr:List Int->Prop) (c0:outParam<|List Int):Prop where
 h:∀E,hr E->Pn c0 E
instance Bn.s{c0:List Int}:Bn (Pn c0) c0:=⟨λ_ h=>h⟩
instance Bn.r{hr:List Int->Prop}{z x:Int}{c0:List Int}[b:Bn hr c0]:Bn (Rn hr z x) c0:=⟨λ_ h=>b.h _ h.1⟩
def MM{c:List Int}{x hc:Int}(hi:c[i]?=Z x)(hj:c[j]?=Z hc):((c.set i hc).set j x).Perm c:=by
 obtain⟨Q,rfl⟩:=bA.1 hi;obtain⟨I,rfl⟩:=bA.1 hj;exact List.set_set_perm Q I
instance Bn.w{hr:List Int->Prop}{c0:List Int}{p q x hc:Int}[b:Bn hr c0]:Bn (Wn (Wn (Rn (Rn hr p x) q hc) p hc) q x) c0:=⟨λ_ ⟨_,⟨_,h,e⟩,e2⟩=>by
 subst e e2;exact(MM h.1.2 h.2).trans<|b.h _ h.1.1⟩
instance Bn.w'{hr:List Int->Prop}{c0:List Int}{p q x hc:Int}[b:Bn hr c0]:Bn (Wn (Wn (Rn (Rn hr p x) q hc) q x) p hc) c0:=⟨λ_ ⟨_,⟨_,h,e⟩,e2⟩=>by
 subst e e2;exact(MM h.2 h.1.2).trans<|b.h _ h.1.1⟩
section steps
variable{hr R':List Int->Prop}{r:Nat}
def Np.mono(h:Np hr r ty n H0 H L)(R:∀c,c.length=n->hr c->R' c):Np R' r ty n H0 H L:=by obtain⟨E,vs,Q,I,G⟩:=h;exact⟨E,vs,Q,R _ Q I,G⟩
def Np.bk{c0:List Int}[b:Bn hr c0](h:Np hr r ty n H0 H L):Np (Pn c0) r ty n H0 H L:=h.mono λc _=>b.h c
def Np.wf(h:Np hr r ty n H0 H L):Wf H:=by obtain⟨_,_,_,_,G⟩:=h;exact G.wf
def Np.ext(h:Np hr r ty n H0 H L):Ext H0 H:=by obtain⟨_,_,_,_,G⟩:=h;exact G.ext
def Np.new(h:Np hr r ty n H0 H L)(k:∀H1 q,Np hr r ty n H0 H1 ((q,t2,z)::L)->K (.pointer<|Z ⟨q,0,W⟩) H1):ME (iZ t2 z H) K:=by
 obtain⟨E,vs,Q,I,G⟩:=h;exact G.iZ λH1 q G=>k H1 q ⟨E,vs,Q,I,G.perm<|gm _ _ _⟩
def Np.ld(h:Np hr r ty n H0 H L)(i:Nat){q:Nat}(hi:L[i]?=Z (q,t2,E))(hv:E[o]?=Z v)(k:K v H):ME (uP W (.pointer<|Z ⟨q,o,W⟩) H) K:=by
 obtain⟨_,_,_,_,G⟩:=h;exact G.ld (i+1) (by rw[dX];exact hi) hv k
def Np.LA(h:Np hr r ty n H0 H L)(i:Nat){q:Nat}(hi:L[i]?=Z (q,t2,E))(hv:E[o]?=Z v)(k:K v<|Go.Ae.hN H):ME (uP W (.pointer<|Z ⟨q,o,W⟩)<|Go.Ae.hN H) K:=by
 obtain⟨_,_,_,_,G⟩:=h;exact G.LA (i+1) (by rw[dX];exact hi) hv k
def Np.st(h:Np hr r ty n H0 H L)(i:Nat){q:Nat}(hi:L[i]?=Z (q,t2,E))(hl:(bI v).length=m)(hn:o+m<=E.length)(hk:all' fB (bI v)=f)(k:∀H1,Np hr r ty n H0 H1 (L.set i (q,t2,splice E o<|bI v))->K undef H1):ME (Cq m (.pointer<|Z ⟨q,o,W⟩) v H) K:=by
 obtain⟨ds,vs,Q,I,G⟩:=h;exact G.st (i+1) (by rw[dX];exact hi) hl hn hk λH1 G=>k H1 ⟨ds,vs,Q,I,G⟩
def Np.stQ(h:Np hr r ty n H0 H L)(i:Nat){q:Nat}(hi:L[i]?=Z (q,t2,E))(hl:(bI v).length=m)(hn:o+m<=E.length)(hk:all' fB (bI v)=f)(k:∀H1,Np hr r ty n H0 (hM H H1) (L.set i (q,t2,splice E o<|bI v))->K undef H1):ME (Cq m (.pointer<|Z ⟨q,o,W⟩) v<|Go.Ae.hN H) K:=by
 obtain⟨ds,vs,Q,I,G⟩:=h;exact G.stQ (i+1) (by rw[dX];exact hi) hl hn hk λH1 G=>k H1 ⟨ds,vs,Q,I,G⟩
def Np.drop{b:dJ}(h:Np hr r ty n H0 H<|b::L):Np hr r ty n H0 H L:=by
 obtain⟨E,vs,Q,I,G⟩:=h;exact⟨E,vs,Q,I,M.drop (A:=[_])<|G.perm<|gm _ _ _⟩
def Np.xG(h:Np hr r ty n H0 H L):Np hr r ty n (Go.Ae.hN H0) (Go.Ae.hN H) L:=by obtain⟨E,vs,Q,I,G⟩:=h;exact⟨E,vs,Q,I,G.xG⟩
theorem Np.i1N(h:Np hr r ty n H0 H L)(hz:o<n)(k:∀x,Np (Rn hr (o:Int) x) r ty n H0 H L->K (vi x) H):ME (uP W (.pointer<|Z ⟨r,o,W⟩) H) K:=by
 obtain⟨E,vs,Q,I,G⟩:=h;have hlt:o<E.length:=by omega
 refine G.ld 0 O (v:=vi E[o]) (by rw[bJ (by rw[aM];exact hlt),bD,au hlt];rfl)<|k _ ⟨E,vs,Q,⟨I,?_⟩,G⟩;exact au hlt
theorem Np.aaf(h:Np hr r ty n H0 H L)(hz:o<n)(k:∀x,Np (Rn hr (o:Int) x) r ty n H0 H L->K (vi x) (Go.Ae.hN H)):ME (uP W (.pointer<|Z ⟨r,o,W⟩)<|Go.Ae.hN H) K:=by
 obtain⟨E,vs,Q,I,G⟩:=h;have hlt:o<E.length:=by omega
 refine G.LA 0 O (v:=vi E[o]) (by rw[bJ (by rw[aM];exact hlt),bD,au hlt];rfl)<|k _ ⟨E,vs,Q,⟨I,?_⟩,G⟩;exact au hlt
def MN{E:List Int}(h:o<E.length)(x:Int):splice (E.map vi++vs) o [vi x]=(E.set o x).map vi++vs:=by
 rw[<-oP vi h x];unfold splice;rw[pR (by rw[aM];omega),pO (by rw[aM];show o+1<=_;omega)];simp
def Np.iwN(h:Np hr r ty n H0 H L)(hz:o<n){x:Int}(k:∀H1,Np (Wn hr (o:Int) x) r ty n H0 H1 L->K undef H1):ME (Cq 1 (.pointer<|Z ⟨r,o,W⟩) (vi x) H) K:=by
 obtain⟨E,vs,Q,I,G⟩:=h;refine G.st 0 O O (by rw[aQ,aM];omega) rfl λH1 G=>k H1 ⟨E.set o x,vs,by rw[bF];exact Q,⟨E,I,O⟩,?_⟩;rw[<-MN N];exact G
variable{z:Int}(h0:0<=z)(hz:z<n)
include h0 hz
def Np.i1(h:Np hr r ty n H0 H L)(k:∀x,Np (Rn hr z x) r ty n H0 H L->K (vi x) H):ME (uP W (.pointer<|Z ⟨r,z.toNat*1,W⟩) H) K:=by
 rw[dz];exact h.i1N N λx hB=>k x<|hB.mono λ_ _ h=>h
def Np.i1Q(h:Np hr r ty n H0 H L)(k:∀x,Np (Rn hr z x) r ty n H0 H L->K (vi x) (Go.Ae.hN H)):ME (uP W (.pointer<|Z ⟨r,z.toNat*1,W⟩)<|Go.Ae.hN H) K:=by
 rw[dz];exact h.aaf N λx hB=>k x<|hB.mono λ_ _ h=>h
def Np.iw(h:Np hr r ty n H0 H L){x:Int}(k:∀H1,Np (Wn hr z x) r ty n H0 H1 L->K undef H1):ME (Cq 1 (.pointer<|Z ⟨r,z.toNat*1,W⟩) (vi x) H) K:=by
 rw[dz];exact h.iwN N λx hB=>k x<|hB.mono λ_ _ h=>h
end steps
def aY(h:vn)(he:A=vn:=by simp only[PP,Nat.reduceBEq];rfl):A:=by rw[he];exact h
section kK
variable{S:List Nat}
def M.kK(G:M S H0 H L)(h:vn)(he:Wf H->A=vn:=by intro w;simp only[PP,Nat.reduceBEq,gZ w];rfl):A:=by rw[he G.wf];exact h
def SB.kK{P:List D->Prop}{r:Nat}(G:SB P r ty es n H0 H L)(h:vn)(he:Wf H->A=vn:=by intro w;simp only[PP,Nat.reduceBEq,gZ w];rfl):A:=by rw[he G.wf];exact h
def Np.kK{hr:List Int->Prop}{r:Nat}(G:Np hr r ty n H0 H L)(h:vn)(he:Wf H->A=vn:=by intro w;simp only[PP,Nat.reduceBEq,gZ w];rfl):A:=by rw[he G.wf];exact h
end kK
section bin
variable{P:aS}{a b:Int}{K:D->Prop}
def dU(k:K<|vi<|a+b)(Q:-9223372036854775808<=a+b:=by omega)(I:a+b<=9223372036854775807:=by omega):PU (lN P .add t ox oy (vi a)<|vi b) K:=PU.of (fA Q I) k
def qX(k:K<|vi<|a-b)(Q:-9223372036854775808<=a-b:=by omega)(I:a-b<=9223372036854775807:=by omega):PU (lN P .sub t ox oy (vi a)<|vi b) K:=PU.of (nW Q I) k
def MO{r:Nat}{z:Int}(k:K<|.pointer<|Z ⟨r,o+z.toNat*es,W⟩)(h0:0<=z:=by omega)(h:z<n:=by omega):PU (Ac es (T (Z ⟨r,o,W⟩) n c)<|vi z) K:=PU.of (adH h0 h) k
end bin
def nX:vi ((k:Int)+1)=B (k+1):=by rw[show((k:Int)+1)=((k+1:Nat):Int) by omega]
def ak1{q:Prop}(k:q)(h:jI ops cls=f:=by((try simp only[eG,fT,fK<|Ext.refl<|hN _]);kernel_rfl)):jI ops cls=f/\q:=⟨h,k⟩
def aag{q:Prop}(k:q)(h:noTwo cls=f:=by simp only[eG,fK<|Ext.refl<|hN _];rfl):jI ops cls=f/\q:=iB h k
def splitK{q:Prop}(h:∀K:Prop,K->p/\K)(k:q):p/\q:=h q k
def d_(h:vn)(av:vn->A:=by intro h;(repeat(first|(simp only[PP,Nat.reduceBEq,gZ G.wf])|(refine PU.b1 O ?_)|(refine PU.b2 O ?_)|(refine PU.b3 O ?_)|(refine PU.b4 O ?_)|(refine PU.b5 O ?_)|(refine PU.b6 O ?_)|(refine PU.b7 O ?_)|(refine PU.b8 O ?_)|(refine PU.b9 O ?_)|(refine G.oF ?_)|(refine G.iK ?_)|(refine G.Qg ?_)|(refine G.Vd ?_)|(refine iB (by simp only[eG,fK<|Ext.refl<|hN _];rfl) ?_)));exact h):A:=av h
def uY(g:Nat->Nat)(c:Cl):Cl:=⟨c.k,g c.r,c.off,c.n,c.a,c.b⟩
def Cx(m:Nat)(c:Cl):Bool:=bR (ay c.k 3||ay c.k 4) (aB 1 c.r&&aB c.r m) f
def kill(c:Cl):Cl:=bR (ay c.k 2) ⟨2,0,0,0,hh0,hh0⟩ c
def Xv(h:g x.r=g hc.r->x.r=hc.r):xR (uY g x) (uY g hc)=xR x hc:=by
 unfold xR uY
 have:ay (g x.r) (g hc.r)=ay x.r hc.r:=by
  rw[f_,jG,jG];exact⟨h,λe=>by rw[e]⟩
 simp only[this]
def Gq{a b:F}{l:Cl}(ha:a=hh0)(hn:l.n≠0):mY ⟨2,0,0,0,a,b⟩ l=aA:=by
 subst ha;unfold mY sameAt;show pX (aK (F.read hh0 l.r l.off l.n) _)=aA;obtain⟨k,hk⟩:=Nat.exists_eq_succ_of_ne_zero hn;rw[hk];rfl
def Ve(h:Cx m x=f)(hk:x.k=3\/x.k=4):1<=x.r/\x.r<=m:=by
 unfold Cx at h
 have:(ay x.k 3||ay x.k 4)=f:=by
  rcases hk with e|e<;>rw[e]<;>rfl
 rw[this]at h;replace h:(aB 1 x.r&&aB x.r m)=f:=h;rw[aZ]at h;exact⟨aD h.1,aD h.2⟩
def zD{a b:Nat}(h:a≠b):ay a b=aA:=by rw[<-bY];exactλe=>h<|aT e
theorem aah(hg:∀i j,1<=i->i<=m->1<=j->j<=m->g i=g j->i=j)(J:Cx m x=f)(hy:Cx m hc=f)(b:Bool)(h:fF (kill hc) (kill x) b=f):fF (uY g hc) (uY g x) b=f:=by
 cases b with
 |true=>
  unfold fF at h|-;simp only[Bool.true_or]at h|-
  have ek:∀c:Cl,(kill c).k=c.k:=λc=>by
   unfold kill
   by_cases e:c.k=2
   .rw[e];rfl
   .rw[zD e];rfl
  rw[ek,ek]at h;show bR (ay hc.k 0||ay x.k 0||ay hc.k 5||ay x.k 5) f _=f;exact h
 |false=>
  by_cases hx2:x.k=2
  .have kx:kill x=⟨2,0,0,0,hh0,hh0⟩:=by unfold kill;rw[hx2];rfl
   have ky:(kill hc).k=hc.k:=by
    unfold kill
    by_cases e:hc.k=2
    .rw[e];rfl
    .rw[zD e];rfl
   unfold fF at h|-;rw[kx]at h;simp only[ky]at h;simp only[uY,hx2];simp only[show ay 2 0=aA from O,show ay 2 5=aA from O,show ay 2 3=aA from O,show ay 2 4=aA from O,show ay 2 1=aA from O,show ay 2 2=f from O,mP,qF,Bool.false_and,rY,jL,nT]at h|-
   by_cases h0:(ay hc.k 0||ay hc.k 5)=f
   .rw[h0];rfl
   .rw[bY]at h0;rw[h0]at h|-
    by_cases h3:hc.k=3
    .rw[h3]at h;cases h
    .rw[zD h3]at h|-
     by_cases h4:hc.k=4
     .have hy2:kill hc=hc:=by unfold kill;rw[zD N];rfl
      rw[hy2,h4]at h;replace h:mY ⟨2,0,0,0,hh0,hh0⟩ hc=f:=h
      by_cases hn:hc.n=0
      .rw[h4];show mY _ _=f;unfold mY sameAt;show pX (aK (F.read x.a (g hc.r) hc.off hc.n) λrg=>aK (F.read x.b (g hc.r) hc.off hc.n) λv=>gd (EW rg v)<|Z ())=f;rw[hn];rfl
      .rw[Gq O hn]at h;cases h
     .rw[zD h4]at h;cases h
  .have kx:kill x=x:=by unfold kill;rw[zD hx2];rfl
   by_cases hy2:hc.k=2
   .have ky:kill hc=⟨2,0,0,0,hh0,hh0⟩:=by unfold kill;rw[hy2];rfl
    unfold fF at h|-;rw[ky,kx]at h;simp only[uY,hy2];simp only[show ay 2 0=aA from O,show ay 2 5=aA from O,show ay 2 3=aA from O,show ay 2 4=aA from O,show ay 2 1=aA from O,show ay 2 2=f from O,mP,qF,Bool.false_and,rY,jL,nT]at h|-
    by_cases h0:(ay x.k 0||ay x.k 5)=f
    .rw[h0];rfl
    .rw[bY]at h0;rw[h0]at h|-
     by_cases h3:x.k=3
     .rw[h3]at h;cases h
     .rw[zD h3]at h|-
      by_cases h4:x.k=4
      .rw[h4]at h;replace h:mY ⟨2,0,0,0,hh0,hh0⟩ x=f:=h
       by_cases hn:x.n=0
       .rw[h4];show mY _ _=f;unfold mY sameAt;show pX (aK (F.read hc.a (g x.r) x.off x.n) λrg=>aK (F.read hc.b (g x.r) x.off x.n) λv=>gd (EW rg v)<|Z ())=f;rw[hn];rfl
       .rw[Gq O hn]at h;cases h
      .rw[zD h4]at h;cases h
   .have ky:kill hc=hc:=by unfold kill;rw[zD hy2];rfl
    rw[kx,ky]at h
    by_cases hm:(x.k=3\/x.k=4)/\(hc.k=3\/hc.k=4)
    .obtain⟨a1,a2⟩:=Ve J hm.1;obtain⟨b1,b2⟩:=Ve hy hm.2;have e2:=Xv (g:=g) (x:=x) (hc:=hc)<|hg _ _ a1 a2 b1 b2;unfold fF at h|-;rw[e2];simp only[uY,zD hx2,zD hy2,jL]at h|-;exact h
    .unfold fF at h|-;simp only[uY,zD hx2,zD hy2,jL]at h|-
     by_cases x3:x.k=3
     .have y3:hc.k≠3:=λe=>hm ⟨.inl x3,.inl e⟩;have y4:hc.k≠4:=λe=>hm ⟨.inl x3,.inr e⟩;rw[zD y3,zD y4]at h|-;exact h
     .by_cases x4:x.k=4
      .have y3:hc.k≠3:=λe=>hm ⟨.inr x4,.inl e⟩;have y4:hc.k≠4:=λe=>hm ⟨.inr x4,.inr e⟩;rw[zD y3,zD y4]at h|-;exact h
      .rw[zD x3,zD x4]at h|-;exact h
def zR{a:Bool}(h:bR a b aA=f):a=f/\b=f:=by
 cases a with
 |true=>exact⟨O,h⟩
 |false=>cases h
def Kb(hg:∀i j,1<=i->i<=m->1<=j->j<=m->g i=g j->i=j):∀(ms:List Nat)(l:List Cl),(∀c∈l,Cx m c=f)->pairs fF ms (l.map kill)=f->pairs fF ms (l.map<|uY g)=f:=by
 have row:∀(x:Cl)(k:Nat)(l:List Cl),Cx m x=f->(∀c∈l,Cx m c=f)->je fF (kill x) k (l.map kill)=f->je fF (uY g x) k (l.map<|uY g)=f:=by
  intro x k l J
  induction l with
  |nil=>intro _ _;rfl
  |cons hc l ih=>
   intro h Q;replace Q:bR (fF (kill x) (kill hc)<|gQ k<|len<|l.map kill) (je fF (kill x) k<|l.map kill) aA=f:=Q;obtain⟨I,h3⟩:=zR Q;show bR (fF (uY g x) (uY g hc)<|gQ k<|len<|l.map<|uY g) (je fF (uY g x) k<|l.map<|uY g) aA=f;rw[fQ,aM]at I|-;rw[aah hg (h hc<|aL ..) J _ I,ih (λc y=>h c<|bH _ y) h3];rfl
 intro ms
 induction ms with
 |nil=>intro l _ _;rfl
 |cons k ms ih=>
  intro l h Q;cases l with
  |nil=>rfl
  |cons x l=>
   replace Q:bR (je fF (kill x) k<|l.map kill) (pairs fF ms<|l.map kill) aA=f:=Q;obtain⟨I,h3⟩:=zR Q;show bR (je fF (uY g x) k<|l.map<|uY g) (pairs fF ms<|l.map<|uY g) aA=f;rw[row x k l (h x<|aL ..) (λc y=>h c<|bH _ y) I,ih l (λc y=>h c<|bH _ y) h3];rfl
def Cz(hg:∀i j,1<=i->i<=m->1<=j->j<=m->g i=g j->i=j){l:List Cl}(hl:all' (Cx m) l=f)(h:jI ops (l.map kill)=f):jI ops (l.map<|uY g)=f:=by
 rw[all_eq,eD]at hl
 have e:noTwo (l.map<|uY g)=noTwo (l.map kill):=by
  unfold noTwo;rw[all_eq,all_eq,List.all_map,List.all_map];congr 1;funext c;show(!(ay c.k 2||ay c.k 3))=(!(ay (kill c).k 2||ay (kill c).k 3));unfold kill
  by_cases e:c.k=2
  .rw[e];rfl
  .rw[zD e];rw[jL,zD e]
 unfold jI at h|-;rw[e]
 by_cases I:noTwo (l.map kill)=f
 .rw[I];rfl
 .rw[bY]at I;rw[I]at h|-;exact Kb hg _ l hl h
def g3(a b c d:Nat):Nat->Nat
 |1=>a
 |2=>b
 |3=>c
 |4=>d
 |_=>0
theorem lX{H':Nat->Nat->List Cl}{a b:Nat}{K:Prop}(hab:a≠b)(hC:∀a b,H' a b=(H' 1 2).map (uY<|g3 a b 0 0))(hk:all' (Cx 2) (H' 1 2)=f)(h:jI ops ((H' 1 2).map kill)=f)(k:K):jI ops (H' a b)=f/\K:=by
 refine⟨?_,k⟩;rw[hC];refine Cz (m:=2) (λi j Q I h3 h4 e=>?_) hk h;have hi:i=1\/i=2:=by omega
 have hj:j=1\/j=2:=by omega
 rcases hi with rfl|rfl<;>rcases hj with rfl|rfl<;>first|rfl|exact absurd e hab|exact absurd e.symm hab
theorem xS{a b:Nat}{K:Prop}(hab:a≠b)(hac:a≠c)(hbc:b≠c)(hC:∀a b c,H' a b c=(H' 1 2 3).map (uY<|g3 a b c 0))(hk:all' (Cx 3) (H' 1 2 3)=f)(h:jI ops ((H' 1 2 3).map kill)=f)(k:K):jI ops (H' a b c)=f/\K:=by
 refine⟨?_,k⟩;rw[hC];refine Cz (m:=3) (λi j Q I h3 h4 e=>?_) hk h;have hi:i=1\/i=2\/i=3:=by omega
 have hj:j=1\/j=2\/j=3:=by omega
 rcases hi with rfl|rfl|rfl<;>rcases hj with rfl|rfl|rfl<;>first|rfl|exact absurd e hab|exact absurd e.symm hab|exact absurd e hac|exact absurd e.symm hac|exact absurd e hbc|exact absurd e.symm hbc
theorem aai{H':Nat->Nat->Nat->Nat->List Cl}{a b d:Nat}{K:Prop}(hab:a≠b)(hac:a≠c)(had:a≠d)(hbc:b≠c)(hbd:b≠d)(hcd:c≠d)(hC:∀a b c d,H' a b c d=(H' 1 2 3 4).map (uY<|g3 a b c d))(hk:all' (Cx 4) (H' 1 2 3 4)=f)(h:jI ops ((H' 1 2 3 4).map kill)=f)(k:K):jI ops (H' a b c d)=f/\K:=by
 refine⟨?_,k⟩;rw[hC];refine Cz (m:=4) (λi j Q I h3 h4 e=>?_) hk h;have hi:i=1\/i=2\/i=3\/i=4:=by omega
 have hj:j=1\/j=2\/j=3\/j=4:=by omega
 rcases hi with rfl|rfl|rfl|rfl<;>rcases hj with rfl|rfl|rfl|rfl<;>first|rfl|exact absurd e hab|exact absurd e.symm hab|exact absurd e hac|exact absurd e.symm hac|exact absurd e had|exact absurd e.symm had|exact absurd e hbc|exact absurd e.symm hbc|exact absurd e hbd|exact absurd e.symm hbd|exact absurd e hcd|exact absurd e.symm hcd
theorem Eh{H':Nat->List Cl}{a:Nat}{K:Prop}(hC:∀a,H' a=(H' 1).map (uY<|g3 a 0 0 0))(hk:all' (Cx 1) (H' 1)=f)(h:jI ops ((H' 1).map kill)=f)(k:K):jI ops (H' a)=f/\K:=by
 refine⟨?_,k⟩;rw[hC];refine Cz (m:=1) (λi j Q I h3 h4 e=>?_) hk h;omega
def vP(H C:F):Dq H C=cl 1\/Dq H C=⟨2,0,0,0,H,C⟩:=by
 show bR (aB H.next C.low) _ _=_\/bR (aB H.next C.low) _ _=_;cases aB H.next C.low with
 |true=>exact .inl O
 |false=>exact .inr O
def M.aaj{S:List Nat}(G:M S H0 H<|SH++L)(h:M (SH.map (·.1)) (Go.Ae.hN H) C M'):M S H0 (hM H C) (M'++L):=
 G.turn h.ext.draw (λe he=>⟨h.bk e he,h.lo e he⟩) h.ne
def M.apart{S:List Nat}{A vn:List dJ}(G:M S H0 H<|A++vn){x hc:dJ}(J:x∈A)(hy:hc∈vn):x.1≠hc.1:=(lK.1 G.ne).2.2 x J hc hy
def i_.one{S:List Nat}{ax:Nat->Prop}{r:Nat}(G:M S H0 H L)(hm:((r,ty,E):dJ)∈L)(hn:E.length=n*es)(hF:ax r):i_ ax ty H (Z ⟨r,0,W⟩) n es E:=
 ⟨(G.bk _ hm).fl (G.lo _ hm).2 hn,λr' o e _=>by cases e;exact⟨hF,(G.lo _ hm).2,(G.bk _ hm).HZ⟩⟩
def M.nq{S:List Nat}(G:M S H0 H L)(i j:Nat){r r':Nat}{t':aG}{x hc:List D}(hi:L[i]?=Z (r,t,x))(hj:L[j]?=Z (r',t',hc))(hij:i<j):r≠r':=by
 obtain⟨Q,e1⟩:=bA.1 hi;obtain⟨I,e2⟩:=bA.1 hj;have:=jS.1 G.ne i j Q I hij;rw[e1,e2]at this;exact this
def M.neq{S:List Nat}(G:M S H0 H L)(i j:Nat){x hc:dJ}(hi:L[i]?=Z x)(hj:L[j]?=Z hc)(hij:i<j):x.1≠hc.1:=by
 obtain⟨Q,rfl⟩:=bA.1 hi;obtain⟨I,rfl⟩:=bA.1 hj;exact jS.1 G.ne i j Q I hij
def H_(ty:aG)(es:Nat):List (List D)->List D->List dJ->Prop
 |[],[],hr=>hr=[]
 |ks::FW,v::vs,hr=>∃gb R',hr=gb++R'/\GB ty es v ks gb/\H_ ty es FW vs R'
 |_,_,_=>False
def H_.len:∀{FW:List (List D)}{vs:List D}{hr:List dJ},H_ ty es FW vs hr->FW.length=vs.length
 |[],[],hr,h=>rfl
 |ks::FW,v::vs,hr,⟨gb,R',_,_,h⟩=>dV bU h.len
 |[],v::vs,hr,h=>h.elim
 |ks::FW,[],hr,h=>h.elim
def H_.aak:∀n,H_ ty es (aU n []) (aU n<|T W 0 0) []
 |0=>rfl
 |n+1=>⟨[],[],rfl,GB.nil _ _,H_.aak n⟩
def H_.at:∀{FW:List (List D)}{vs:List D}{hr:List dJ}(i:Nat),H_ ty es FW vs hr->(h:i<vs.length)->∃A gb vn,hr=A++(gb++vn)/\GB ty es vs[i] (FW[i]?.getD []) gb/\
 ∀v' ks' gT,GB ty es v' ks' gT->H_ ty es (FW.set i ks') (vs.set i v') (A++(gT++vn))
 |ks::FW,v::vs,hr,0,h,_=>by
  obtain⟨gb,R',rfl,Q,h4⟩:=h;exact⟨[],gb,R',O,Q,λv' ks' gT g1=>⟨gT,R',rfl,g1,h4⟩⟩
 |ks::FW,v::vs,hr,i+1,h,hi=>by
  obtain⟨gb,R',rfl,Q,h4⟩:=h;obtain⟨A,YC,vn,rfl,g1,g4⟩:=H_.at i h4 (by simpa using hi);refine⟨gb++A,YC,vn,by rw[bP],g1,λv' ks' gT k1=>?_⟩;exact⟨gb,A++(gT++vn),by rw[bP],Q,g4 v' ks' gT k1⟩
 |[],[],hr,i,h,hi=>absurd hi (by simp)
 |[],v::vs,hr,i,h,hi=>h.elim
 |ks::FW,[],hr,i,h,hi=>h.elim
def H_.snoc:∀{FW:List (List D)}{vs:List D}{hr gb:List dJ}{ks:List D}{v:D},H_ ty es FW vs hr->GB ty es v ks gb->H_ ty es (FW++[ks]) (vs++[v]) (hr++gb)
 |[],[],hr,gb,ks,v,h,hg=>by
  subst h;exact⟨gb,[],by simp,hg,rfl⟩
 |k::FW,w::vs,hr,gb,ks,v,⟨gb0,R',Q,I,h3⟩,hg=>⟨gb0,R'++gb,by rw[Q,bP],I,h3.snoc hg⟩
 |[],v::vs,hr,gb,ks,w,h,hg=>h.elim
 |ks::FW,[],hr,gb,k,v,h,hg=>h.elim
def H_.all{S:List Nat}:∀{FW:List (List D)}{vs:List D}{hr L:List dJ},H_ ty es FW vs hr->M S H0 H (hr++L)->∀i(h:i<vs.length),∃a n c,vs[i]=T a n c/\(FW[i]?.getD []).length=n*es/\i_ (λr=>r∈hr.map (·.1)) ty H a n es (FW[i]?.getD [])
 |[],[],hr,L,h,G=>λi hi=>absurd hi (by simp)
 |ks::FW,v::vs,hr,L,⟨gb,R',Q,I,h4⟩,G=>by
  subst Q;rw[bP]at G;intro i hi;cases i with
  |zero=>
   obtain⟨a,n,c,e,hl,hf⟩:=I.Jc (ax:=λr=>r∈(gb++R').map (·.1)) G λe he=>bQ.2 ⟨e,cZ _ he,rfl⟩;exact⟨a,n,c,e,hl,hf⟩
  |succ i=>
   obtain⟨a,n,c,e,hl,hf⟩:=H_.all h4 (M.drop G) i (by simpa using hi);refine⟨a,n,c,e,hl,hf.wk λr R=>?_⟩;obtain⟨e,he,rfl⟩:=bQ.1 R;exact bQ.2 ⟨e,cO _ he,O⟩
 |[],v::vs,hr,L,h,G=>h.elim
 |ks::FW,[],hr,L,h,G=>h.elim
section
variable{S:List Nat}{r:Nat}
def Fv(h:k<n):Ac 1 (T (Z ⟨r,o,W⟩) n c) (B k)=Z (.pointer<|Z ⟨r,o+k,W⟩):=by rw[vO h,dz]
def Vf(hi:i<E.length):splice E i [v]=E.set i v:=by
 apply gX;intro j;rw[qo (by show i+1<=_;omega),dB]
 by_cases h:i<=j/\j<i+[v].length
 .have:i=j:=by have:=h.2;simp at this;omega
  subst this;rw[if_pos h,if_pos O,if_pos hi,ja];rfl
 .rw[if_neg h,if_neg λe=>h (by subst e;simp)]
def M.ix{K:D->D->F->Prop}(G:M S H0 H L)[hb:zQ L r ty E](hk:k<n)(hv:E[k]?=Z v)(kk:∀p,K p v H):
 PU (Ac 1 (T (Z ⟨r,0,W⟩) n c)<|B k) λp=>ME (uP W p H) (K p):=by
 obtain⟨i,hi⟩:=hb.at';refine PU.of (Fv hk) ?_;rw[aW];exact G.ld i hi hv<|kk _
def M.YD{K:D->D->F->Prop}(G:M S H0 H L)[hb:Eg L r (λE=>E.set k v) ty E L'](hk:k<n)(hl:k<E.length)(y:bI v=[v]:=by rfl)(ho:fB v=f:=by rfl)(kk:∀p H1,M S H0 H1 L'->K p undef H1):
 PU (Ac 1 (T (Z ⟨r,0,W⟩) n c)<|B k) λp=>ME (Cq 1 p v H) (K p):=by
 obtain⟨i,hi,e⟩:=hb.at';refine PU.of (Fv hk) ?_;rw[aW];refine G.st i hi (by rw[y];rfl) N (by rw[y];show bR (fB v) _ _=_;rw[ho];rfl) λH1 h=>kk _ H1 ?_;rw[e];rw[y,Vf hl]at h;exact h
def i_.ix{ax:Nat->Prop}{K:D->D->F->Prop}(h:i_ ax ty H a n 1 E)(hk:k<n)(hv:E[k]?=Z v)(kk:∀p,K p v H):
 PU (Ac 1 (T a n c)<|B k) λp=>ME (uP W p H) (K p):=by
 obtain⟨r,o,Q,I,h3,_⟩:=h.1.idx (c:=c) (dI 0) hk;refine PU.of Q<|ME.ld ?_<|kk _;have:=h3 0 v (dI 0) (by rw[dz,dD];exact hv);exact this
def i_.Xw{ax:Nat->Prop}{K:D->D->F->Prop}(h:i_ ax ty H a n es E)(he:0<es)(hk:k<n){l:List D}(hl:El E es k=l)(kk:∀p,K p (.agg ⟨l⟩) H):
 PU (Ac es (T a n c)<|B k) λp=>ME (uP (Z es) p H) (K p):=by
 obtain⟨r,o,Q,I,h3,_⟩:=h.1.idx (c:=c) he hk;refine PU.of Q ?_
 have hlen:k*es+es<=E.length:=by
  have:(k+1)*es<=n*es:=eU es hk;rw[gM]at this;have:=h.1.1;omega
 refine ME.rF ?_<|kk _;obtain⟨v0,hv0⟩:∃v0,E[k*es]?=Z v0:=⟨_,au N⟩;rw[<-hl]
 have hn:∀m,m<=es->H.read r o m=Z ((E.drop<|k*es).take m):=by
  intro m hm
  have key:∀i,i<m->H.cell r (o+i)=E[k*es+i]?:=λi hi=>by
   have:k*es+i<E.length:=by omega
   rw[au this];exact h3 i _ N<|au this
  cases m with
  |zero=>show Z []=_;simp
  |succ m=>
   obtain⟨hr,hR⟩:∃hr,H.obj r=.row hr:=by
    have h0:=key m N;rw[au N]at h0;unfold F.cell at h0;cases R:H.obj r with
    |row hr=>exact⟨hr,O⟩
    |_=>rw[R]at h0;cases h0
   have cl:∀i,i<m+1->o+i<hr.n/\Z (hr.cells.get top<|o+i)=E[k*es+i]?:=λi hi=>by
    have h0:=key i hi;rw[au N]at h0;unfold F.cell at h0;rw[hR]at h0;have h0:gd (aB (bU<|o+i) hr.n) (Z<|hr.cells.get top<|o+i)=_:=h0;cases hb:aB (bU<|o+i) hr.n with
    |false=>rw[hb]at h0;cases h0
    |true=>
     rw[hb]at h0;refine⟨aD hb,?_⟩;rw[au N];exact h0
   show(aK (vE<|H.obj r) λw=>gd (aB (aV o<|m+1) w.n)<|Z<|Tr.DX top w.cells o<|m+1)=_;rw[hR];show gd (aB (aV o<|m+1) hr.n) (Z<|Tr.DX top hr.cells o<|m+1)=_;rw[aH (show aV o (m+1)<=hr.n from(cl m N).1)];refine dV Z ?_
   have gen:∀j p,(∀i,i<j->Z (hr.cells.get top<|o+p+i)=E[k*es+p+i]?)->Tr.DX top hr.cells (o+p) j=(E.drop<|k*es+p).take j:=by
    intro j
    induction j with
    |zero=>intro p _;rw[Tr.B6];simp
    |succ j ih=>
     intro p hp;have h0:=hp 0 N;rw[dD,dD]at h0;obtain⟨hl0,e0⟩:=bA.1 h0.symm
     rw[Tr.xx,show o+p+1=o+(p+1) by omega,ih (p+1) (λi hi=>by
      have:=hp (i+1) N;rw[show o+(p+1)+i=o+p+(i+1) by omega,show k*es+(p+1)+i=k*es+p+(i+1) by omega];exact this),dN hl0,jO,e0]
     rfl
   have:=gen (m+1) 0 (λi hi=>by rw[dD,dD];exact(cl i hi).2);exact this
 exact hn es<|az _
theorem M.ns{K:D->D->F->Prop}(G:M S H0 H L)(hl:(bI v).length=m)(hz:z.length=m)(hk:all' fB (bI v)=f)(kk:∀H2 r,M S H0 H2 ((r,ty,bI v)::L)->Ext H H2->K (.pointer<|Z ⟨r,0,W⟩) undef H2):ME (Go.Ae.iZ ty z H) λp H1=>ME (Go.Ae.Cq m p v H1) λrg H2=>K p rg H2:=by
 have hO:=M.refl G.wf;refine hO.iZ λH1 r hO=>hO.st 0 O hl N hk λH2 hO=>?_;have hO:M [] H H2 [(r,ty,splice z 0<|bI v)]:=hO;rw[mZ _ _ N]at hO;exact kk H2 r (M.frame (SH:=[]) (L:=L) G hO) hO.ext
def iE(P SH L:List dJ):(P++(SH++L)).Perm (SH++(P++L)):=by
 rw[<-bP,<-bP];exact pI _ aF
def M.nD(G:M S H0 H L)(k:∀H1 r,M S H0 (hM H H1) ((r,e,z)::L)->Lt H H1=cl 5->K (.pointer<|Z ⟨r,0,W⟩) H1):ME (Go.Ae.iZ e z<|Go.Ae.hN H) K:=
 ME.of rfl (k _ _ (G.xY e z)<|xq<|Ext.new _ _)
def GB.push{x:List D}{w:D}{xs:List D}{K:D->D->F->Prop}(hg:GB ty es v xs gb)(G:M S H0 H<|gb++L)(he:0<es)(hz:z.length=es)(hw:bI w=x)(J:x.length=es)(ht:pK w=f)(hok:all' Go.Ae.fB x=f)(hb:es<=16777216)(y:xs.length<=16777216)(kk:∀q v' C gT,GB ty es v' (xs++x) gT->M S H0 C (gT++L)->K q v' C):ME (bS ty z es 1 [(0,w)] H) λq H1=>ME (zB ty es v q H1) (K q):=by
 refine G.bS hz ht (by rw[hw];exact J) hb λH1 rx hS1=>?_;rw[hw]at hS1;obtain⟨v',H6,gT,e1,hg',vZ,_⟩:=hg.app (m:=0) (cx:=1) hS1 he N hok N y;exact ME.of e1<|kk _ v' H6 gT hg' vZ
end
def g7(c:Cl):Cl:=bR (ay c.k 2) ⟨7,0,0,0,hh0,hh0⟩ c
def aal{c:Cl}(h:c.k=2):g7 c=⟨7,0,0,0,hh0,hh0⟩:=by unfold g7;rw[h];rfl
def aam{c:Cl}(h:c.k≠2):g7 c=c:=by unfold g7;rw[zD h];rfl
def Ke(h:fF (g7 hc) (g7 x) b=f)(J:hc.k=2->x.k=4->mY hc x=f)(hy:x.k=2->hc.k=4->mY x hc=f):fF hc x b=f:=by
 by_cases y2:hc.k=2
 .rw[aal y2]at h
  by_cases x2:x.k=2
  .rw[aal x2]at h;unfold fF;rw[y2,x2];exact h
  .rw[aam x2]at h;unfold fF at h|-;rw[y2]
   by_cases x0:x.k=0
   .rw[x0];rfl
   by_cases x5:x.k=5
   .rw[x5];rfl
   by_cases x3:x.k=3
   .rw[x3]at h;cases h
   by_cases x4:x.k=4
   .have:=J y2 x4;rw[x4];show(b||mY hc x)=f;rw[this];cases b<;>rfl
   .rw[zD x0,zD x5,zD x3,zD x4]at h|-;have h:bR (ay x.k 1&&aA) f b=f:=h;show bR (ay x.k 1&&aA) f b=f;exact h
 .rw[aam y2]at h
  by_cases x2:x.k=2
  .rw[aal x2]at h;unfold fF at h|-;rw[x2]
   by_cases y0:hc.k=0
   .rw[y0];rfl
   by_cases y5:hc.k=5
   .rw[y5];rfl
   by_cases y3:hc.k=3
   .rw[y3]at h|-;exact h
   by_cases y4:hc.k=4
   .have:=hy x2 y4;rw[y4];show(b||mY x hc)=f;rw[this];cases b<;>rfl
   .rw[zD y0,zD y5,zD y3,zD y4]at h|-;exact h
  .rw[aam x2]at h;exact h
def Ei{α:Type}(p:α->Prop):List α->Prop
 |[]=>True
 |x::l=>p x/\Ei p l
def Ei.mem{p:α->Prop}:∀{l:List α},Ei p l->∀x∈l,p x
 |hc::l,h,x,J=>by
  rcases bM.1 J with rfl|J
  .exact h.1
  .exact Ei.mem h.2 x J
def RdA(A vn:F)(c:Cl):Prop:=(c.k=2->c.a=A/\c.b=vn)/\(c.k=4->mY ⟨2,0,0,0,A,vn⟩ c=f)
def RdA.rd{A vn:F}(J:RdA A vn x)(hy:RdA A vn hc)(I:hc.k=2)(h4:x.k=4):mY hc x=f:=by
 obtain⟨e1,e2⟩:=hy.1 I;have:=J.2 h4;unfold mY at this|-;rw[e1,e2];exact this
def aan{A vn:F}:∀(ms:List Nat)(l:List Cl),Ei (RdA A vn) l->pairs fF ms (l.map g7)=f->pairs fF ms l=f:=by
 have row:∀(x:Cl)(k:Nat)(l:List Cl),RdA A vn x->Ei (RdA A vn) l->je fF (g7 x) k (l.map g7)=f->je fF x k l=f:=by
  intro x k l J
  induction l with
  |nil=>intro _ _;rfl
  |cons hc l ih=>
   intro h Q;replace Q:bR (fF (g7 x) (g7 hc)<|gQ k<|len<|l.map g7) (je fF (g7 x) k<|l.map g7) aA=f:=Q;obtain⟨I,h3⟩:=zR Q;show bR (fF x hc<|gQ k<|len l) (je fF x k l) aA=f;rw[fQ,aM]at I;rw[fQ,Ke I (λa b=>h.1.rd J a b) λa b=>J.rd h.1 a b,ih h.2 h3];rfl
 intro ms
 induction ms with
 |nil=>intro l _ _;rfl
 |cons k ms ih=>
  intro l h Q;cases l with
  |nil=>rfl
  |cons x l=>
   replace Q:bR (je fF (g7 x) k<|l.map g7) (pairs fF ms<|l.map g7) aA=f:=Q;obtain⟨I,h3⟩:=zR Q;show bR (je fF x k l) (pairs fF ms l) aA=f;rw[row x k l h.1 h.2 I,ih l h.2 h3];rfl
def Vg(l:List Cl):(l.map g7).map kill=l.map g7:=by
 rw[xN];apply List.map_congr_left;intro c _;show kill (g7 c)=g7 c
 by_cases h:c.k=2
 .rw[aal h];rfl
 .rw[aam h];unfold kill;rw[zD h];rfl
def aao{l:List Cl}{A vn:F}(hg:∀i j,1<=i->i<=m->1<=j->j<=m->g i=g j->i=j)(hC:l.map g7=(l1.map g7).map (uY g))(hk:all' (Cx m) (l1.map g7)=f)(h:pairs fF (sQ ops.toList [] 0) (l1.map g7)=f)(R:Ei (RdA A vn) l):jI ops l=f:=by
 unfold jI
 have:pairs fF (sQ ops.toList [] 0) l=f:=by
  refine aan (A:=A) (vn:=vn) _ l R ?_;rw[hC];rw[all_eq,eD]at hk;refine Kb hg _ _ hk ?_;rw[Vg];exact h
 rw[this];cases noTwo l<;>rfl
theorem Jd{H':Nat->Nat->List Cl}{a b:Nat}{A vn:F}{K:Prop}(hab:a≠b)(hC:(H' a b).map g7=((H' 1 2).map g7).map (uY<|g3 a b 0 0))(hk:all' (Cx 2) ((H' 1 2).map g7)=f)(h:pairs fF (sQ ops.toList [] 0) ((H' 1 2).map g7)=f)(k:K)(R:Ei (RdA A vn)<|H' a b):jI ops (H' a b)=f/\K:=by
 refine⟨aao (m:=2) (λi j Q I h3 h4 e=>?_) hC hk h R,k⟩;have hi:i=1\/i=2:=by omega
 have hj:j=1\/j=2:=by omega
 rcases hi with rfl|rfl<;>rcases hj with rfl|rfl<;>first|rfl|exact absurd e hab|exact absurd e.symm hab
theorem N9{a b:Nat}{A vn:F}{K:Prop}(hab:a≠b)(hac:a≠c)(hbc:b≠c)(hC:(H' a b c).map g7=((H' 1 2 3).map g7).map (uY<|g3 a b c 0))(hk:all' (Cx 3) ((H' 1 2 3).map g7)=f)(h:pairs fF (sQ ops.toList [] 0) ((H' 1 2 3).map g7)=f)(k:K)(R:Ei (RdA A vn)<|H' a b c):jI ops (H' a b c)=f/\K:=by
 refine⟨aao (m:=3) (λi j Q I h3 h4 e=>?_) hC hk h R,k⟩;have hi:i=1\/i=2\/i=3:=by omega
 have hj:j=1\/j=2\/j=3:=by omega
 rcases hi with rfl|rfl|rfl<;>rcases hj with rfl|rfl|rfl<;>first|rfl|exact absurd e hab|exact absurd e.symm hab|exact absurd e hac|exact absurd e.symm hac|exact absurd e hbc|exact absurd e.symm hbc
def vC(k:fu)(n:Int):nI (.int k n) (.int k n)=f:=by
 have h:YY (.int k n) (.int k n)=f:=by
  show pX (gd (ay (qx k) (qx k)&&IZ n n)<|Z ())=f;rw[Be,Bc,bG O];rfl
 unfold nI D4 zV;rw[h];rfl
def oQ(a:Option Addr)(n c:Nat)(h:∀x,a=Z x->x.spot=W):nI (T a n c) (T a n c)=f:=by
 have Q:I4 a a=f:=by
  cases a with
  |none=>rfl
  |some x=>
   show addrEq x x=f;unfold addrEq;rw[h x O,dw,dw];rfl
 have I:aeT (T a n c) (T a n c)=f:=by
  show pX (gd (I4 a a&&ay n n&&ay c c)<|Z ())=f;rw[Q,dw,dw];rfl
 unfold nI D4 zV;rw[I];cases YY (T a n c) (T a n c)<;>cases YX (T a n c) (T a n c)<;>rfl
def yF:∀{l:List D},(∀v∈l,nI v v=f)->EW l l=f
 |[],_=>rfl
 |x::l,h=>by
  show bR (nI x x) (EW l l) aA=f;rw[h x (aL ..),yF λv hv=>h v<|bH _ hv];rfl
def p8{A vn:F}{r:Nat}{a b:F}(hA:Bk A r ty E)(hB:Bk vn r ty E)(hn:o+n<=E.length)(hs:∀v∈(E.drop o).take n,nI v v=f):mY ⟨2,0,0,0,A,vn⟩ ⟨4,r,o,n,a,b⟩=f:=
 Af (hA.read hn) (hB.read hn) (yF hs)
def g8(c:Cl):Cl:=⟨bR (ay c.k 2) 7 c.k,0,0,0,hh0,hh0⟩
def RdT(ai:Cl->Prop)(c:Cl):Prop:=(c.k=2->ai c)/\(c.k=4->∀w,ai w->mY w c=f)
def aap(x3:x.k≠3)(y3:hc.k≠3)(h:fF (g8 hc) (g8 x) b=f)(J:hc.k=2->x.k=4->mY hc x=f)(hy:x.k=2->hc.k=4->mY x hc=f):fF hc x b=f:=by
 refine Ke ?_ J hy
 have e:∀c:Cl,c.k≠3->(g7 c).k=(g8 c).k/\(g7 c).k≠3/\(g7 c).k≠2:=λc y=>by
  by_cases I:c.k=2
  .rw[aal I];unfold g8;rw[I];exact⟨O,by decide,by decide⟩
  .rw[aam I];unfold g8;rw[zD I];exact⟨O,y,I⟩
 obtain⟨e1,e2,e3⟩:=e x x3;obtain⟨f1,f2,f3⟩:=e hc y3;have g1:(g8 x).k≠3:=by rw[<-e1];exact e2
 have g2:(g8 hc).k≠3:=by rw[<-f1];exact f2
 have g3:(g8 x).k≠2:=by rw[<-e1];exact e3
 have g4:(g8 hc).k≠2:=by rw[<-f1];exact f3
 unfold fF at h|-;rw[zD g1,zD g2,zD g3,zD g4]at h;rw[zD e2,zD f2,zD e3,zD f3,e1,f1];exact h
def aaq{ai:Cl->Prop}:∀(ms:List Nat)(l:List Cl),Ei (RdT ai) l->(∀c∈l,c.k≠3)->pairs fF ms (l.map g8)=f->pairs fF ms l=f:=by
 have row:∀(x:Cl)(k:Nat)(l:List Cl),RdT ai x->x.k≠3->Ei (RdT ai) l->(∀c∈l,c.k≠3)->je fF (g8 x) k (l.map g8)=f->je fF x k l=f:=by
  intro x k l J hx3
  induction l with
  |nil=>intro _ _ _;rfl
  |cons hc l ih=>
   intro h h3 Q;replace Q:bR (fF (g8 x) (g8 hc)<|gQ k<|len<|l.map g8) (je fF (g8 x) k<|l.map g8) aA=f:=Q;obtain⟨I,h4⟩:=zR Q;show bR (fF x hc<|gQ k<|len l) (je fF x k l) aA=f;rw[fQ,aM]at I;rw[fQ,aap (h3 hc<|aL ..) hx3 I (λa b=>h.1.2 b x<|J.1 a) λa b=>J.2 b hc<|h.1.1 a,ih h.2 (λc y=>h3 c<|bH _ y) h4];rfl
 intro ms
 induction ms with
 |nil=>intro l _ _ _;rfl
 |cons k ms ih=>
  intro l h h3 Q;cases l with
  |nil=>rfl
  |cons x l=>
   replace Q:bR (je fF (g8 x) k<|l.map g8) (pairs fF ms<|l.map g8) aA=f:=Q;obtain⟨I,h4⟩:=zR Q;show bR (je fF x k l) (pairs fF ms l) aA=f;rw[row x k l h.1 (h3 x<|aL ..) h.2 (λc y=>h3 c<|bH _ y) I,ih l h.2 (λc y=>h3 c<|bH _ y) h4];rfl
def Ej{l:List Cl}{ai:Cl->Prop}{K:Prop}(h3:all' (λc=>!(ay c.k 3)) (l.map g8)=f)(h:pairs fF (sQ ops.toList [] 0) (l.map g8)=f)(k:K)(R:Ei (RdT ai) l):jI ops l=f/\K:=by
 refine⟨?_,k⟩;unfold jI
 have:pairs fF (sQ ops.toList [] 0) l=f:=by
  refine aaq _ l R (λc y e=>?_) h;rw[all_eq,eD]at h3;have:=h3 (g8 c)<|List.mem_map_of_mem y;unfold g8 at this;rw[e]at this;cases this
 rw[this];cases noTwo l<;>rfl
def Xx{ai:Cl->Prop}:∀(ms:List Nat)(l:List Cl),Ei (RdT ai) l->pairs fF ms (l.map g7)=f->pairs fF ms l=f:=by
 have row:∀(x:Cl)(k:Nat)(l:List Cl),RdT ai x->Ei (RdT ai) l->je fF (g7 x) k (l.map g7)=f->je fF x k l=f:=by
  intro x k l J
  induction l with
  |nil=>intro _ _;rfl
  |cons hc l ih=>
   intro h Q;replace Q:bR (fF (g7 x) (g7 hc)<|gQ k<|len<|l.map g7) (je fF (g7 x) k<|l.map g7) aA=f:=Q;obtain⟨I,h3⟩:=zR Q;show bR (fF x hc<|gQ k<|len l) (je fF x k l) aA=f;rw[fQ,aM]at I;rw[fQ,Ke I (λa b=>h.1.2 b x<|J.1 a) λa b=>J.2 b hc<|h.1.1 a,ih h.2 h3];rfl
 intro ms
 induction ms with
 |nil=>intro l _ _;rfl
 |cons k ms ih=>
  intro l h Q;cases l with
  |nil=>rfl
  |cons x l=>
   replace Q:bR (je fF (g7 x) k<|l.map g7) (pairs fF ms<|l.map g7) aA=f:=Q;obtain⟨I,h3⟩:=zR Q;show bR (je fF x k l) (pairs fF ms l) aA=f;rw[row x k l h.1 h.2 I,ih l h.2 h3];rfl
theorem adK{H':Nat->List Cl}{a:Nat}{ai:Cl->Prop}{K:Prop}(hC:(H' a).map g7=((H' 1).map g7).map (uY<|g3 a 0 0 0))(hk:all' (Cx 1) ((H' 1).map g7)=f)(h:pairs fF (sQ ops.toList [] 0) ((H' 1).map g7)=f)(k:K)(R:Ei (RdT ai)<|H' a):jI ops (H' a)=f/\K:=by
 refine⟨?_,k⟩;unfold jI
 have:pairs fF (sQ ops.toList [] 0) (H' a)=f:=by
  refine Xx (ai:=ai) _ _ R ?_;rw[hC];rw[all_eq,eD]at hk;refine Kb (m:=1) (λi j Q I h3 h4 e=>by omega) _ _ hk ?_;rw[Vg];exact h
 rw[this];cases noTwo (H' a)<;>rfl
def adL{S:List Nat}{X H3:F}{r:Nat}{a b:F}{w:Cl}(hw:w.a=X/\w.b=H3)(J:oz S (hN X) H3)(R:r<X.next)(hn:r∉S)(h:X.read r o n=Z vs)(hs:∀v∈vs,nI v v=f):mY w ⟨k,r,o,n,a,b⟩=f:=by
 unfold mY;rw[hw.1,hw.2];have I:H3.read r o n=Z vs:=(vw (J.obj r R hn) o n).trans h;exact Af h I<|yF hs
def aar{r:Nat}(h:H.cell r o=Z v):H.read r o 1=Z [v]:=by
 unfold F.cell at h;cases R:H.obj r with
 |row hr=>
  rw[R]at h;replace h:gd (aB (bU o) hr.n) (Z<|hr.cells.get top o)=Z v:=h;cases hb:aB (bU o) hr.n with
  |false=>rw[hb]at h;cases h
  |true=>
   rw[hb]at h;have h:Z (hr.cells.get top o)=Z v:=h;show(aK (vE<|H.obj r) λw=>gd (aB (aV o 1) w.n)<|Z<|Tr.DX top w.cells o 1)=_;rw[R];show gd (aB (bU o) hr.n) (Z<|Tr.DX top hr.cells o 1)=_;rw[hb,Tr.xx,Tr.B6];rw[dH h];rfl
 |_=>rw[R]at h;cases h
def Xy(r o:Nat):zV (.pointer<|Z ⟨r,o,W⟩) (.pointer<|Z ⟨r,o,W⟩)=f:=by
 have h:YX (.pointer<|Z ⟨r,o,W⟩) (.pointer<|Z ⟨r,o,W⟩)=f:=by
  show pX (gd (ay r r&&ay o o&&f&&f)<|Z ())=f;rw[dw,dw];rfl
 unfold zV;rw[h];rfl
def Kg{av:D->D->Bool}:∀{l:List D},(∀v∈l,av v v=f)->AF av l l=f
 |[],_=>rfl
 |x::l,h=>by
  show bR (av x x) (AF av l l) aA=f;rw[h x (aL ..),Kg λv hv=>h v<|bH _ hv];rfl
def aas(g:Nat){l:List D}(h:∀v∈l,∃r,v=.pointer (Z ⟨r,0,W⟩)):nI (.func (.func g) ⟨[]⟩ ⟨l⟩) (.func (.func g) ⟨[]⟩ ⟨l⟩)=f:=by
 have h0:Uw zV (.func (.func g) ⟨[]⟩ ⟨l⟩) (.func (.func g) ⟨[]⟩ ⟨l⟩)=f:=by
  show pX (gd (ay g g&&AF zV [] []&&AF zV l l)<|Z ())=f;rw[dw,show AF zV [] []=f from O,Kg (l:=l) λv hv=>by obtain⟨r,rfl⟩:=h v hv;exact Xy r 0];rfl
 unfold nI D4;rw[h0];cases zV (.func (.func g) ⟨[]⟩ ⟨l⟩) (.func (.func g) ⟨[]⟩ ⟨l⟩)<;>rfl
end Go.Ae
