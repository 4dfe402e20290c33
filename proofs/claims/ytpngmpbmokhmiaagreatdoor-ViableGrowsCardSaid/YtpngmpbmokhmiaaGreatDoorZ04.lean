/-
  Part 04 of the proof. No condition.
-/
import Derived.Test.YtpngmpbmokhmiaaGreatDoorZ03
set_option linter.unusedVariables false
set_option linter.unusedSimpArgs false
set_option maxRecDepth 100000
set_option maxHeartbeats 4000000
set_option linter.defProp false
open Option renaming some->D,none->Q,rec->aM
open Bool renaming true->f,false->aC,rec->gz
open Go renaming Value->Z,TypeId->aH,Program->aU,World->bY,Operand->bT,IntKind->fB,BinOp->rA
open Go.Value renaming int->bX,slice->I,bool->gI,string->fT,pointer->uy
open Nat renaming rec->jA,beq->aA,succ->bW,ble->aD,add->aZ,mul->bO,sub->dJ
open List renaming rec->cz,replicate->aX,range->f_
open List.Perm renaming swap->gq
open ByteArray renaming mk->dh
open BitVec renaming ofInt->lq
noncomputable section
namespace Go.Ae
variable{H T H0:R}{K K' Km:Z->R->Prop}{e t t2 ty ty':aH}{args M vs:C Z}{ops:Array Oper}{c cx es hi i j k lo m n nl o q rx:Nat}{v:Z}{a:aB Addr}{A vn p:Prop}{z:Int}{g:Nat->Nat}{b d:Bool}{H':Cl->Prop}{ak:Nat->Nat->Nat->C Cl}{ox oy:bT}{au:Int->Prop}{S' l sk:C Nat}{acc cls:C Cl}{α:Type}{rs:C ResultVar}{x hr:Cl}{fn:Func}{kk:fB}
def PU(o:aB Z)(K:Z->Prop):Prop:=@aM Z (λ_=>Prop) False (λv=>K v) o
def ME(o:aB<|Z×R)(K:Z->R->Prop):Prop:=@aM (Z×R) (λ_=>Prop) False (λp=>K p.1 p.2) o
def CV(o:aB Z)(q:aB<|Z×R)(Kp:Z->Prop)(Km:Z->R->Prop):Prop:=@aM Z (λ_=>Prop) (ME q Km) (λv=>Kp v) o
def aO(P:aU)(X:Xt)(g:FuncId)(args:C Z)(H:R)(K:Z->R->Prop):Prop:=∃v T,Ca P X g args H v T/\K v T
def nU(P:aU)(X:Xt)(q:aB<|FuncId×C Z×C Z)(args:C Z)(H:R)(K:Z->R->Prop):Prop:=
 @aM (FuncId×C Z×C Z) (λ_=>Prop) False (λq=>aO P X q.1 (app q.2.1<|app args q.2.2) H K) q
def zy(b:Builtin):C aH->C Z->aU->R->(Z->Prop)->(Z->R->Prop)->Prop:=
 @Builtin.rec (λ_=>C aH->C Z->aU->R->(Z->Prop)->(Z->R->Prop)->Prop)
  (λats args P H Kp Km=>ME (Dx P ats args H) Km) (λ_ _ _ _ _ _=>False) (λats args P H Kp Km=>ME (Gy P ats args H) Km) (λ_ _ _ _ _ _=>False) (λ_ _ _ _ _ _=>False) (λats args P H Kp Km=>ME (MP P ats args H) Km) (λ_ _ _ _ _ _=>False) (λ_ _ _ _ _ _=>False) (λats args P H Kp Km=>CV (one (JY P) ats args) (J4 P ats args H) Kp Km) (λ_ _ _ _ _ _=>False) (λats args P H Kp Km=>PU (Sz f args) Kp) (λats args P H Kp Km=>PU (Sz aC args) Kp) (λ_ _ _ _ _ _=>False) (λ_ _ _ _ _ _=>False) (λ_ _ _ _ _ _=>False) (λ_ _ _ _ _ _=>False) (λ_ _ _ _ _ _=>False) (λ_ _ _ _ _ _=>False) (λ_ _ _ _ _ _=>False) (λ_ _ _ _ _ _=>False) (λats args P H Kp Km=>ME (Fw args H) Km) (λats args P H Kp Km=>ME (xh P ats args H) Km) (λ_ _ _ _ _ _=>False) (λ_ _ _ _ _ _=>False) (λ_ _ _ _ _ _=>False) (λ_ _ _ _ _ _=>False) b
def aaw(P:aU)(X:Xt)(c:Call)(s:St)(Kp:Z->Prop)(Km:Z->R->Prop):Prop:=
 @aM Builtin (λ_=>Prop) (nU P X (nQ c.callee P s) (mp (ev s) c.args.toList) s.H Km)
  (λb=>zy b c.argTypes.toList (mp (ev s) c.args.toList) P s.H Kp Km) (isBuiltin c.callee)
def Ze(o:Op):aU->Xt->St->(Z->Prop)->(Z->R->Prop)->Prop:=
 @Op.rec (λ_=>aU->Xt->St->(Z->Prop)->(Z->R->Prop)->Prop)
  (λx P X s Kp Km=>Kp<|ev s x) (λx P X s Kp Km=>Kp<|ev s x) (λc a b P X s Kp Km=>PU (JX (ev s c) (ev s a)<|ev s b) Kp) (λe P X s Kp Km=>ME (CJ P e s.H) Km) (λe x P X s Kp Km=>ME (JZ e (ev s x) s.H) Km) (λt ps P X s Kp Km=>PU (Bj P t<|Ob s ps) Kp) (λt n ps P X s Kp Km=>ME (tO P t n (Ob s ps) s.H) Km) (λ_ _ _ _ _ _ _ _ _=>False) (λt x P X s Kp Km=>ME (wu P t (ev s x) s.H) Km) (λt x v P X s Kp Km=>ME (zi P t (ev s x) (ev s v) s.H) Km) (λ_ _ _ _ _ _=>False) (λ_ _ _ _ _ _=>False) (λx P X s Kp Km=>PU (Oa<|ev s x) Kp) (λop t x hr _ P X s Kp Km=>PU (lY P op t x hr (ev s x)<|ev s hr) Kp) (λop _ x P X s Kp Km=>PU (j3<|Op.unary op<|ev s x) Kp) (λa b x P X s Kp Km=>CV (CE P a b<|ev s x) (uL P a b (ev s x) s.H) Kp Km) (λ_ _ _ _ _ _ _=>False) (λ_ _ _ _ _ _ _=>False) (λay fi ca P X s Kp Km=>Kp<|.func ay ⟨mp (ev s) fi.toList⟩ ⟨mp (ev s) ca.toList⟩) (λt r P X s Kp Km=>ME (uV P t (I9 s r) s.H) Km) (λ_ _ _ _ _ _ _=>False) (λt l c P X s Kp Km=>ME (qD P t (ev s l) (ev s c) s.H) Km) (λt x lo hi mx P X s Kp Km=>PU (Ag P t (ev s x) (I9 s lo) (I9 s hi)<|I9 s mx) Kp) (λt x ay P X s Kp Km=>PU (rR P t (ev s x) ay) Kp) (λt x ay P X s Kp Km=>PU (CG P t (ev s x) ay) Kp) (λt x i P X s Kp Km=>PU (rQ P t (ev s x)<|ev s i) Kp) (λt x i P X s Kp Km=>PU (CF P t (ev s x)<|ev s i) Kp) (λt x k ok P X s Kp Km=>ME (sV P t (ev s x) (ev s k) ok s.H) Km) (λt m k v P X s Kp Km=>ME (vF P t (ev s m) (ev s k) (ev s v) s.H) Km) (λ_ _ _ _ _ _ _ _=>False) (λ_ _ _ _ _ _ _ _ _=>False) (λ_ _ _ _ _ _ _=>False) (λ_ _ _ _ _ _ _=>False) (λ_ _ _ _ _ _=>False) (λ_ _ _ _ _ _ _ _ _=>False) (λt i P X s Kp Km=>PU (uU (ev s t) i) Kp) (λc P X s Kp Km=>aaw P X c s Kp Km) (λ_ _ _ _ _ _=>False) (λ_ _ _ _ _ _=>False) (λ_ _ _ _ _ _=>False) (λ_ _ _ _ _ _ _=>False) (λ_ _ _ _ _ _ _ _=>False) (λ_ _ _ _ _ _ _=>False) o
def xD(v:aB Bool)(A vn:Prop):Prop:=@aM Bool (λ_=>Prop) False (λb=>@gz (λ_=>Prop) vn A b) v
def AB(l:C Nat)(t:Nat):Bool:=@cz Nat (λ_=>Bool) aC (λx _ r=>bV (aA x t) f r) l
def qF(l:C Nat)(t:Nat):C Nat:=@cz Nat (λ_=>C Nat) [] (λx _ r=>bV (aA x t) r<|x::r) l
def lJ(l:C Nat)(d:aB Nat):C Nat:=@aM Nat (λ_=>C Nat) l (qF l) d
def Mi(s:St)(l:C Nat)(d:aB Nat):C Nat:=@aM Nat (λ_=>C Nat) l (λd=>bV (wr s d) (d::l) l) d
def GuW(ops:Array Oper)(s:St)(sk:C Nat)(g:aB<|Nat×Bool)(K:Bool->St->C Nat->Prop):Prop:=
 @aM (Nat×Bool) (λ_=>Prop) (K f s sk) (λg=>
  @aM Oper (λ_=>Prop) False (λo=>@aM Nat (λ_=>Prop) False (λt=>
   @gz (λ_=>Prop)
    (xD (jQ<|iA s t) (K (Ba f g.2) (qE s t (.bool f) s.H)<|qF sk t)<|K (Ba aC g.2) (qE s t (.bool aC) s.H)<|qF sk t)
    (K aC s sk) (AB sk t)) o.dst) (nth ops.toList g.1)) g
def AF(P:aU)(X:Xt)(ops:Array Oper)(l:C Oper):St->C Nat->(St->Prop)->Prop:=
 @cz Oper (λ_=>St->C Nat->(St->Prop)->Prop) (λs _ K=>K s)
  (λo _ ih s sk K=>GuW ops s sk o.guard (λb s sk=>@gz (λ_=>Prop)
   (ih (jk s o.dst undef s.H) (Mi s sk o.dst) K)
   (@aM Call (λ_=>Prop) (Ze o.op P X s (λv=>ih (jk s o.dst v s.H) (lJ sk o.dst) K) λv H=>ih (jk s o.dst v H) (lJ sk o.dst) K) (λ_=>False)<|qZ o.op)
   b)) l
def TJ(P:aU)(X:Xt)(ops:Array Oper)(l:C Oper):St->C Nat->C Cl->(St->C Cl->Prop)->Prop:=
 @cz Oper (λ_=>St->C Nat->C Cl->(St->C Cl->Prop)->Prop) (λs _ acc K=>K s acc)
  (λo _ ih s sk acc K=>GuW ops s sk o.guard (λb s sk=>@gz (λ_=>Prop)
   (ih (jk s o.dst undef s.H) (Mi s sk o.dst) (cl 0::acc) K)
   (Ze o.op P X (g_ s) (λv=>ih (jk s o.dst v s.H) (lJ sk o.dst) (cl 0::acc) K) λv H=>ih (jk s o.dst v ⟨H.v_,H.next,nY s.H.low H.low⟩) (lJ sk o.dst) (su P o.op s H::acc) K)
   b)) l
def alI(P:aU)(X:Xt)(ops:Array Oper)(draw:Bool)(s:St)(K:Out->Prop):Prop:=
 @gz (λ_=>Prop) (AF P X ops ops.toList (clear s) [] λs=>K<|.norm s)
  (@gz (λ_=>Prop) False (TJ P X ops ops.toList (clear s) [] [] λs cls=>jT ops cls=f/\K (.norm s))<|kD ops&&o9 ops) draw
def sw(id:Nat)(K:Out->Prop):Out->Prop:=λo=>K<|xq id o
def gK(P:aU)(X:Xt)(c:Code)(s:St)(K:Out->Prop):Prop:=∃o o',Ev P X c s o/\Bb o o'/\K o'
def t_(P:aU)(X:Xt)(b:Code)(K:Out->Prop):Out->Prop:=
 λo=>@Out.rec (λ_=>Prop) (K .fail) (λs=>gK P X b s K) (λi s=>K<|.exit i s) (λl s=>K<|.goto l s) (λs=>K<|.ret s) o
def alJ(l:C Oper):Nat:=@cz Oper (λ_=>Nat) 1 (λo _ r=>@aM (Nat×Bool) (λ_=>Nat) r (λ_=>2) o.guard) l
def ahk(c:Code)(i:Nat):Nat:=
 @Code.rec (λ_=>Nat) 0 (λ_ _ _=>0) (λ_ _ a b=>aZ a b) (λ_ _ _ a b=>aZ a b) (λ_ _ a=>a) (λ_ _=>0) (λ_ _ _ _ _ _=>0) (λj=>bV (aA j i) 1 0) (λ_ _=>0) (λ_=>0) (λ_=>0) 0 (λ_=>0) c
def ai4(c:Code):Nat:=
 @Code.rec (λ_=>Nat) 1 (λ_ ops _=>alJ ops.toList) (λ_ _ a b=>bO a b) (λ_ _ _ a b=>aZ a b) (λi a r=>aZ r<|ahk a i) (λ_ _=>0) (λ_ _ _ _ _ _=>0) (λ_=>0) (λ_ _=>0) (λ_=>1) (λ_=>0) 0 (λ_=>0) c
def aeg(c:Code):Nat:=
 @Code.rec (λ_=>Nat) 0 (λ_ ops _=>len ops.toList) (λ_ _ a b=>aZ a b) (λ_ _ _ a b=>aZ a b) (λ_ _ r=>r) (λ_ _=>4) (λ_ _ _ _ _ _=>0) (λ_=>0) (λ_ _=>4) (λ_=>0) (λ_=>0) 0 (λ_=>0) c
def FL(a b:Code):Bool:=aD 2 (ai4 a)&&aD 4 (aeg b)
section mem
variable{P:aU}{X:Xt}
def ai5{o:aB Z}{K:Z->Prop}(h:PU o K):∃v,o=D v/\K v:=by
 cases o with
 |none=>exact h.elim
 |some v=>exact⟨v,O,h⟩
def afI{o:aB (Z×R)}(h:ME o K):∃v H,o=D (v,H)/\K v H:=by
 cases o with
 |none=>exact h.elim
 |some v=>exact⟨v.1,v.2,O,h⟩
def zX(P:aU)(X:Xt)(o:Op)(s:St)(Kp:Z->Prop)(Km:Z->R->Prop):Prop:=
 ∃k,(∃v,yL o P (kE P X k) s=.Cm v/\Kp v)\/∃v H,yL o P (kE P X k) s=.mem v H/\Km v H
def zX.pu{o:Op}{s:St}{Kp:Z->Prop}{q:aB Z}(hq:∀cf,yL o P cf s=rp q)(h:PU q Kp):zX P X o s Kp Km:=by
 have⟨v,W,J⟩:=ai5 h;exact⟨0,.inl ⟨v,by rw[hq,W];rfl,J⟩⟩
def zX.me{o:Op}{s:St}{Kp:Z->Prop}{q:aB (Z×R)}(hq:∀cf,yL o P cf s=rm q)(h:ME q Km):zX P X o s Kp Km:=by
 have⟨v,H,W,J⟩:=afI h;exact⟨0,.inr ⟨v,H,by rw[hq,W];rfl,J⟩⟩
def zX.cv{o:Op}{s:St}{Kp:Z->Prop}{q:aB Z}{r:aB (Z×R)}(hq:∀cf,yL o P cf s=rpm q (rm r))(h:CV q r Kp Km):zX P X o s Kp Km:=by
 cases q with
 |none=>exact zX.me (q:=r) (λcf=>hq cf) h
 |some v=>exact⟨0,.inl ⟨v,by rw[hq];rfl,h⟩⟩
def zX.cons{o:Op}{s:St}{Kp:Z->Prop}(hq:∀cf,yL o P cf s=.Cm v)(h:Kp v):zX P X o s Kp Km:=⟨0,.inl ⟨v,hq _,h⟩⟩
def Qr{b:Builtin}{c:Call}{s:St}{ats:C aH}{Kp:Z->Prop}(hq:∀cf,yL (.call c) P cf s=Au b ats args P s.H)(h:zy b ats args P s.H Kp Km):zX P X (.call c) s Kp Km:=by
 cases b with
 |append=>exact zX.me hq h
 |clear=>exact zX.me hq h
 |copy=>exact zX.me hq h
 |len=>exact zX.cv hq h
 |max=>exact zX.pu hq h
 |min=>exact zX.pu hq h
 |unsafeSliceData=>exact zX.me hq h
 |unsafeString=>exact zX.me hq h
 |_=>exact h.elim
theorem aax{c:Call}{s:St}{Kp:Z->Prop}(h:aaw P X c s Kp Km):zX P X (.call c) s Kp Km:=by
 unfold aaw at h;cases hb:isBuiltin c.callee with
 |some b=>
  rw[hb]at h;refine Qr (b:=b) (ats:=c.argTypes.toList) (args:=mp (ev s) c.args.toList) (λcf=>?_) h;show wU c P cf s=_;unfold wU;rw[hb]
 |none=>
  rw[hb]at h;replace h:nU P X (nQ c.callee P s) (mp (ev s) c.args.toList) s.H Km:=h;unfold nU at h;cases hc:nQ c.callee P s with
  |none=>rw[hc]at h;exact h.elim
  |some q=>
   rw[hc]at h;have⟨v,T,⟨k,W⟩,J⟩:=h;refine⟨k,.inr ⟨v,T,?_,J⟩⟩;show wU c P (kE P X k) s=_;unfold wU;rw[hb];show rm (aL (nQ c.callee P s) λz=>kE P X k z.1 (app z.2.1<|app (mp (ev s) c.args.toList) z.2.2) s.H)=_;rw[hc];show rm (kE P X k q.1 (app q.2.1<|app (mp (ev s) c.args.toList) q.2.2) s.H)=_;rw[W];rfl
def aay{o:Op}{s:St}{Kp:Z->Prop}(h:Ze o P X s Kp Km):zX P X o s Kp Km:=by
 cases o with
 |move _=>exact zX.cons (λ_=>rfl) h
 |assign _=>exact zX.cons (λ_=>rfl) h
 |pick _ _ _=>exact zX.pu (λ_=>rfl) h
 |alloc _=>exact zX.me (λ_=>rfl) h
 |box _ _=>exact zX.me (λ_=>rfl) h
 |build _ _=>exact zX.pu (λ_=>rfl) h
 |buildSlice _ _ _=>exact zX.me (λ_=>rfl) h
 |load _ _=>exact zX.me (λ_=>rfl) h
 |store _ _ _=>exact zX.me (λ_=>rfl) h
 |nilCheck _=>exact zX.pu (λ_=>rfl) h
 |binOp _ _ _ _ _=>exact zX.pu (λ_=>rfl) h
 |unOp _ _ _=>exact zX.pu (λ_=>rfl) h
 |convert _ _ _=>exact zX.cv (λ_=>rfl) h
 |makeFunc _ _ _=>exact zX.cons (λ_=>rfl) h
 |makeMap _ _=>exact zX.me (λ_=>rfl) h
 |makeSlice _ _ _=>exact zX.me (λ_=>rfl) h
 |slice _ _ _ _ _=>exact zX.pu (λ_=>rfl) h
 |fieldAddr _ _ _=>exact zX.pu (λ_=>rfl) h
 |field _ _ _=>exact zX.pu (λ_=>rfl) h
 |indexAddr _ _ _=>exact zX.pu (λ_=>rfl) h
 |index _ _ _=>exact zX.pu (λ_=>rfl) h
 |lookup _ _ _ _=>exact zX.me (λ_=>rfl) h
 |mapUpdate _ _ _ _=>exact zX.me (λ_=>rfl) h
 |extract _ _=>exact zX.pu (λ_=>rfl) h
 |call c=>exact aax h
 |_=>exact h.elim
theorem aaz{t:Nat}:AB l t=f<->t∈l:=by
 induction l with
 |nil=>exact⟨(λh=>by cases h),(λh=>by cases h)⟩
 |cons x l ih=>
  show bV (aA x t) f (AB l t)=f<->_
  by_cases e:x=t
  .subst e;rw[show aA x x=f from dD x];simp[oz]
  .rw[show aA x t=aC from by rw[<-b_];exactλg=>e<|aW g];rw[jW,ih,bP];exact⟨.inr,λh=>h.resolve_left λg=>e g.symm⟩
theorem aeh{t rg:Nat}(h:rg∈qF l t):rg∈l/\rg≠t:=by
 induction l with
 |nil=>cases h
 |cons x l ih=>
  replace h:rg∈bV (aA x t) (qF l t) (x::qF l t):=h
  by_cases e:x=t
  .subst e;rw[show aA x x=f from dD x,oz]at h;exact⟨bH _ (ih h).1,(ih h).2⟩
  .rw[show aA x t=aC from by rw[<-b_];exactλg=>e<|aW g,jW,bP]at h;rcases h with h|h
   .subst h;exact⟨aN ..,e⟩
   .exact⟨bH _ (ih h).1,(ih h).2⟩
def Left(s:St)(sk:C Nat):Prop:=∀t,t∈sk->iA s t=undef
def Left.put{s:St}(h:Left s sk)(d:aB Nat)(v:Z)(H:R):Left (jk s d v H) (lJ sk d):=by
 cases d with
 |none=>exactλt ht=>h t ht
 |some d=>
  intro t ht;have⟨W,J⟩:=aeh (l:=sk) ht;show iA (qE s d v H) t=_;rw[yZ,if_neg λg=>J g.1.symm];exact h t W
def Left.skip{s:St}(h:Left s sk)(d:aB Nat):Left (jk s d undef s.H) (Mi s sk d):=by
 cases d with
 |none=>exactλt ht=>h t ht
 |some d=>
  intro t ht;show iA (qE s d undef s.H) t=_;rw[yZ];split
  .rfl
  .next hn=>
   replace ht:t∈bV (wr s d) (d::sk) sk:=ht;cases hw:wr s d with
   |true=>
    rw[hw,oz,bP]at ht;rcases ht with e|ht
    .exact absurd ⟨e.symm,hw⟩ hn
    .exact h t ht
   |false=>rw[hw]at ht;exact h t ht
def Left.g_{s:St}(h:Left s sk):Left (g_ s) sk:=h
def OI{v:aB Bool}(h:xD v A vn):(v=D f/\A)\/(v=D aC/\vn):=by
 cases v with
 |none=>exact h.elim
 |some b=>cases b with
  |true=>exact .inl ⟨O,h⟩
  |false=>exact .inr ⟨O,h⟩
def aaA{s:St}{g:aB (Nat×Bool)}{K:Bool->St->C Nat->Prop}(hl:Left s sk)(h:GuW ops s sk g K):
 ∃b s' sk',qK ops s g=D b/\oD s s'/\Left s' sk'/\K b s' sk':=by
 cases g with
 |none=>exact⟨f,s,sk,O,oD.refl s,hl,h⟩
 |some g=>
  cases ho:nth ops.toList g.1 with
  |none=>
   unfold GuW at h;replace h:@aM Oper (λ_=>Prop) False _ (nth ops.toList g.1):=h;rw[ho]at h;exact h.elim
  |some o=>
   cases ht:o.dst with
   |none=>
    unfold GuW at h;replace h:@aM Oper (λ_=>Prop) False _ (nth ops.toList g.1):=h;rw[ho]at h;replace h:@aM Nat (λ_=>Prop) False _ o.dst:=h;rw[ht]at h;exact h.elim
   |some t=>
    unfold GuW at h;replace h:@aM Oper (λ_=>Prop) False _ (nth ops.toList g.1):=h;rw[ho]at h;replace h:@aM Nat (λ_=>Prop) False _ o.dst:=h;rw[ht]at h
    have hy:∀hr,(@aM Bool (λ_=>aB<|aB Bool) (gd (isU<|iA s t)<|D Q) (λb=>D<|D b)<|jQ<|iA s t)=D hr->Bo ops s g.1=D hr:=by
     intro hr hy;unfold Bo;rw[ho];show(aL o.dst _)=_;rw[ht];exact hy
    have hw:∀hr,Bo ops s g.1=D hr->qK ops s (D g)=D (@aM Bool (λ_=>Bool) aC (λb=>Ba b g.2) hr):=by
     intro hr hy;show MQ ops s g=_;unfold MQ;rw[hy];rfl
    cases he:AB sk t with
    |true=>
     replace h:@gz (λ_=>Prop) _ (K aC s sk) (AB sk t):=h;rw[he]at h;refine⟨aC,s,sk,?_,oD.refl s,hl,h⟩;have hu:=hl t<|aaz.1 he;exact hw Q<|hy Q (by rw[hu];rfl)
    |false=>
     replace h:@gz (λ_=>Prop) (xD (jQ<|iA s t) (K (Ba f g.2) (qE s t (.bool f) s.H)<|qF sk t)<|K (Ba aC g.2) (qE s t (.bool aC) s.H)<|qF sk t) (K aC s sk) (AB sk t):=h;rw[he]at h
     have fin:∀b,jQ (iA s t)=D b->K (Ba b g.2) (qE s t (.bool b) s.H) (qF sk t)->∃b s' sk',qK ops s (D g)=D b/\oD s s'/\Left s' sk'/\K b s' sk':=by
      intro b hb hk;refine⟨_,_,_,hw (D b)<|hy (D b)<|by rw[hb],?_,Left.put hl (D t) _ _,hk⟩;have hv:=o_ hb;have:=oD.same s t;rw[hv]at this;exact this
     rcases OI h with⟨W,J⟩|⟨W,J⟩
     .exact fin _ W J
     .exact fin _ W J
def aaB:∀{l:C Oper}{s:St}{sk:C Nat}{K:St->Prop},Left s sk->AF P X ops l s sk K->∃s' s2,Ro P X ops l s s'/\oD s' s2/\K s2:=by
 intro l
 induction l with
 |nil=>intro s sk K _ h;exact⟨s,s,Ro.nil,oD.refl s,h⟩
 |cons o l ih=>
  intro s0 sk0 K hl0 h
  have⟨b,s,sk,hw,he,hl,h⟩:=aaA (K:=λb s sk=>@gz (λ_=>Prop)
   (AF P X ops l (jk s o.dst undef s.H) (Mi s sk o.dst) K)
   (@aM Call (λ_=>Prop) (Ze o.op P X s (λv=>AF P X ops l (jk s o.dst v s.H) (lJ sk o.dst) K) λv H=>AF P X ops l (jk s o.dst v H) (lJ sk o.dst) K) (λ_=>False)<|qZ o.op)
   b) hl0 h
  have fin:∀k s1 sk1,mE P (kE P X k) ops o s0=D s1\/mE P (kE P X k) ops o s=D s1->Left s1 sk1->AF P X ops l s1 sk1 K->∃s' s2,Ro P X ops (o::l) s0 s'/\oD s' s2/\K s2:=by
   intro k s1 sk1 hst hl1 hK;have⟨s',s2,h3,h4,h5⟩:=ih hl1 hK;rcases hst with hst|hst
   .exact⟨s',s2,Ro.cons ⟨k,hst⟩ h3,h4,h5⟩
   .have E:=he.mE (P:=P) (cf:=kE P X k) ops o;rw[hst]at E;generalize hz:mE P (kE P X k) ops o s0=z at E;cases E with
    |some E=>
     rename_i s3;have⟨k2,h3⟩:=h3;have hy:=oD.mQ (P:=P) (cf:=kE P X k2) ops l E;rw[h3]at hy;generalize hq:mQ P (kE P X k2) ops l s3=q at hy;cases hy with
     |some hy=>exact⟨_,s2,Ro.cons ⟨k,hz⟩ ⟨k2,hq⟩,hy.trans h4,h5⟩
  have hw':qK ops s o.guard=D b:=by rw[<-he.qK];exact hw
  cases b with
  |false=>
   refine fin 0 _ _ (.inr ?_) (Left.skip hl o.dst) h;unfold mE;rw[hw'];rfl
  |true=>
   cases hd:qZ o.op with
   |some c=>
    replace h:@aM Call (λ_=>Prop) _ (λ_=>False) (qZ o.op):=h;rw[hd]at h;exact h.elim
   |none=>
    replace h:@aM Call (λ_=>Prop) (Ze o.op P X s (λv=>AF P X ops l (jk s o.dst v s.H) (lJ sk o.dst) K) λv H=>AF P X ops l (jk s o.dst v H) (lJ sk o.dst) K) (λ_=>False) (qZ o.op):=h;rw[hd]at h
    have st:∀k v H,Ew o s (yL o.op P (kE P X k) s)=D (jk s o.dst v H)->mE P (kE P X k) ops o s=D (jk s o.dst v H):=by
     intro k v H he;unfold mE;rw[hw'];show zL P (kE P X k) o s=_;unfold zL;rw[hd];exact he
    obtain⟨k,⟨v,W,J⟩|⟨v,H,W,J⟩⟩:=aay h
    .exact fin k _ _ (.inr<|st k v s.H (by rw[W];rfl)) (Left.put hl o.dst v s.H) J
    .exact fin k _ _ (.inr<|st k v H (by rw[W];rfl)) (Left.put hl o.dst v H) J
def RoD.ai6{o:Oper}{l:C Oper}{s s1:St}{c:Cl}{r:St×C Cl}(W:kZ P (kE P X k) ops o s=D (s1,c))(J:RoD P X ops l s1 (c::acc) r):RoD P X ops (o::l) s acc r:=by
 have⟨k2,J⟩:=J;refine⟨max k k2,?_⟩;show(aL (kZ P (kE P X<|max k k2) ops o s) λq=>jh P (kE P X<|max k k2) ops l q.1<|q.2::acc)=_;rw[show kZ P (kE P X<|max k k2) ops o s=D (s1,c)from FH (yR k _<|nC k k2).1 W];exact FI (yR k2 _<|ko k k2).1 J
def ahl:∀{l:C Oper}{s:St}{sk:C Nat}{acc:C Cl}{K:St->C Cl->Prop},Left s sk->TJ P X ops l s sk acc K->∃s' s2 cls,RoD P X ops l s acc (s',cls)/\oD s' s2/\K s2 cls:=by
 intro l
 induction l with
 |nil=>intro s sk acc K _ h;exact⟨s,s,acc,⟨0,O⟩,oD.refl s,h⟩
 |cons o l ih=>
  intro s0 sk0 acc K hl0 h
  have⟨b,s,sk,hw,he,hl,h⟩:=aaA (K:=λb s sk=>@gz (λ_=>Prop)
   (TJ P X ops l (jk s o.dst undef s.H) (Mi s sk o.dst) (cl 0::acc) K)
   (Ze o.op P X (g_ s) (λv=>TJ P X ops l (jk s o.dst v s.H) (lJ sk o.dst) (cl 0::acc) K) λv H=>TJ P X ops l (jk s o.dst v ⟨H.v_,H.next,nY s.H.low H.low⟩) (lJ sk o.dst) (su P o.op s H::acc) K)
   b) hl0 h
  have fin:∀k s1 sk1 c,kZ P (kE P X k) ops o s=D (s1,c)->Left s1 sk1->TJ P X ops l s1 sk1 (c::acc) K->∃s' s2 cls,RoD P X ops (o::l) s0 acc (s',cls)/\oD s' s2/\K s2 cls:=by
   intro k s1 sk1 c hst hl1 hK;have⟨s',s2,cls,h3,h4,h5⟩:=ih hl1 hK;have E:=he.kZ (P:=P) (cf:=kE P X k) ops o;rw[hst]at E;generalize hz:kZ P (kE P X k) ops o s0=z at E;cases E with
   |some _ E=>
    rename_i s3;have⟨k2,h3⟩:=h3;have hy:=oD.jh (P:=P) (cf:=kE P X k2) ops l (c::acc) E;rw[h3]at hy;generalize hq:jh P (kE P X k2) ops l s3 (c::acc)=q at hy;cases hy with
    |some _ hy=>exact⟨_,s2,cls,RoD.ai6 hz ⟨k2,hq⟩,hy.trans h4,h5⟩
  have hw':qK ops s o.guard=D b:=by rw[<-he.qK];exact hw
  cases b with
  |false=>
   refine fin 0 _ _ (cl 0) ?_ (Left.skip hl o.dst) h;unfold kZ;rw[hw'];rfl
  |true=>
   obtain⟨k,⟨v,W,J⟩|⟨v,H,W,J⟩⟩:=aay h
   .refine fin k _ _ (cl 0) ?_ (Left.put hl o.dst v s.H) J;unfold kZ;rw[hw'];show H_ P o s (yL o.op P (kE P X k)<|g_ s)=_;rw[W];rfl
   .refine fin k _ _ (su P o.op s H) ?_ (Left.put hl o.dst v ⟨H.v_,H.next,nY s.H.low H.low⟩) J;unfold kZ;rw[hw'];show H_ P o s (yL o.op P (kE P X k)<|g_ s)=_;rw[W];rfl
def gK.alike{c:Code}{s s':St}{K:Out->Prop}(he:oD s s')(h:gK P X c s' K):gK P X c s K:=by
 have⟨o,o',W,J,h3⟩:=h;have⟨o2,h4,h5⟩:=Ev.alike he.symm W;refine⟨o2,o',h5,?_,h3⟩
 have:Bb o2 o:=by
  cases h4 with
  |fail=>exact .fail
  |norm h=>exact .norm h.symm
  |exit i h=>exact .exit i h.symm
  |goto l h=>exact .goto l h.symm
  |ret h=>exact .ret h.symm
 exact this.trans J
def Left.nil(s:St):Left s []:=λt h=>by cases h
def aei{id:Nat}{s:St}{K:Out->Prop}(h:alI P X ops d s K):gK P X (.region id ops d) s K:=by
 cases d with
 |false=>
  have⟨s',s2,W,J,h3⟩:=aaB (l:=ops.toList) (s:=clear s) (K:=λs=>K<|.norm s) (Left.nil _) h;exact⟨_,_,Ev.region W,.norm J,h3⟩
 |true=>
  cases hst:(kD ops&&o9 ops)with
  |false=>
   have h':@gz (λ_=>Prop) False (TJ P X ops ops.toList (clear s) [] [] λs cls=>jT ops cls=f/\K (.norm s)) (kD ops&&o9 ops):=h;rw[hst]at h';exact h'.elim
  |true=>
   have h':@gz (λ_=>Prop) False (TJ P X ops ops.toList (clear s) [] [] λs cls=>jT ops cls=f/\K (.norm s)) (kD ops&&o9 ops):=h;rw[hst]at h';have⟨s',s2,cls,W,he,J,h3⟩:=ahl (Left.nil _) h';exact⟨_,_,Ev.Qq hst W J,.norm he,h3⟩
def gK.mono{c:Code}{s:St}{K K':Out->Prop}(h:gK P X c s K)(hk:∀o,K o->K' o):gK P X c s K':=by
 have⟨o,o',W,J,h3⟩:=h;exact⟨o,o',W,J,hk o' h3⟩
def gK.seq{a b:Code}{s:St}{K:Out->Prop}(h:gK P X a s<|t_ P X b K):gK P X (.seq a b) s K:=by
 have⟨o,o1,W,he,J⟩:=h;cases he with
 |fail=>exact absurd O W.1
 |norm he=>
  have⟨o',o2,h3,h5,h4⟩:=gK.alike he (K:=K) J;exact⟨o',o2,Ev.seq W h3,h5,h4⟩
 |exit i he=>exact⟨_,_,Ev.aar W,.exit i he,J⟩
 |goto l he=>
  refine⟨_,_,?_,.goto l he,J⟩;have⟨n1,k1,W⟩:=W;refine⟨n1,k1,?_⟩;show andThen (FK P X k1 a s) (FK P X k1 b)=_;rw[W];rfl
 |ret he=>exact⟨_,_,Ev.aed W,.ret he,J⟩
def gK.block{id:Nat}{a:Code}{s:St}{K:Out->Prop}(h:gK P X a s<|sw id K):gK P X (.block id a) s K:=by
 have⟨o,o',W,he,J⟩:=h;refine⟨xq id o,_,?_,?_,J⟩
 .have⟨n1,k1,W⟩:=W;refine⟨?_,k1,?_⟩
  .cases o with
   |fail=>exact absurd O n1
   |exit i s'=>
    show bV (aA i id) (Out.norm s') (Out.exit i s')≠.fail;cases aA i id<;>simp[oz,jW]
   |_=>intro e;cases e
  .show xq id (FK P X k1 a s)=_;rw[W]
 .cases he with
  |fail=>exact .fail
  |norm he=>exact .norm he
  |exit i he=>
   show Bb (bV (aA i id) _ _)<|bV (aA i id) _ _;cases aA i id with
   |true=>exact .norm he
   |false=>exact .exit i he
  |goto l he=>exact .goto l he
  |ret he=>exact .ret he
def ahm{H':Type}(emb:H'->St)(Inv:H'->Prop)(μ:H'->Nat)(n:Nat)(K:Out->Prop):Out->Prop:=λo=>match o with
 |.norm s'=>∃t',s'=emb t'/\Inv t'/\μ t'<n
 |.fail=>False
 |o=>K o
def gK.loop{H':Type}{a:Code}{K:Out->Prop}(emb:H'->St)(Inv:H'->Prop)(μ:H'->Nat)(h:∀t,Inv t->gK P X a (emb t) (ahm emb Inv μ (μ t) K)):
 ∀(t:H'),Inv t->gK P X (.loop a) (emb t) K:=by
 suffices∀n t,μ t<n->Inv t->gK P X (.loop a) (emb t) K fromλt ht=>this (μ t+1) t (dM _) ht;intro n
 induction n with
 |zero=>intro t hn;omega
 |succ n ih=>
  intro t hn hI;have⟨o,o',W,he,J⟩:=h t hI;cases he with
  |fail=>exact J.elim
  |norm he=>
   obtain⟨t',rfl,h3,h4⟩:=J;have⟨o',o2,h5,h7,h6⟩:=gK.alike he<|ih t' N h3;exact⟨o',o2,Ev.aee W h5,h7,h6⟩
  |exit i he=>exact⟨_,_,Ev.aas W,.exit i he,J⟩
  |goto l he=>
   refine⟨_,_,?_,.goto l he,J⟩;have⟨n1,k1,W⟩:=W;refine⟨n1,k1+1,?_⟩;show andThen (FK P X (k1+1) a<|emb t) _=_;rw[BD W n1 (iU _)];rfl
  |ret he=>exact⟨_,_,Ev.aat W,.ret he,J⟩
def aO.mono{g:FuncId}(h:aO P X g args H K)(hk:∀v T,K v T->K' v T):aO P X g args H K':=by
 have⟨v,T,W,J⟩:=h;exact⟨v,T,W,hk _ _ J⟩
def jL(P:aU)(rs:C ResultVar)(K:Z->R->Prop):Out->Prop:=λo=>
 @Out.rec (λ_=>Prop) False (λs=>s.df=[]/\@aM (C Z) (λ_=>Prop) False (λvs=>K (sN vs) s.H) (lD P s rs)) (λ_ _=>False) (λ_ _=>False)
  (λs=>s.df=[]/\@aM (C Z) (λ_=>Prop) False (λvs=>K (sN vs) s.H) (lD P s rs)) o
def DT(args:C Z)(n:Nat):Tr Z:=Tr.tu top (app args<|Zs top<|dJ n<|len args) 0 .nil
def Qs(args:C Z)(n k:Nat):(Tr.tu top args 0 .nil).get top k=(DT args n).get top k:=by
 unfold DT;rw[Tr.l_,Tr.l_,qB];simp only[bA,true_and,aY,jG];have hrep:∀m,(Zs top m).length=m:=by intro m;induction m with|zero=>rfl|succ m ih=>exact dW bW ih
 have hget:∀m j,(Zs top m).getD j top=top:=by
  intro m
  induction m with
  |zero=>intro j;rfl
  |succ m ih=>intro j;cases j with
   |zero=>rfl
   |succ j=>exact ih j
 by_cases W:k<args.length
 .rw[if_pos W,if_pos I6];simp[bD,bM W]
 .rw[if_neg W];split
  .rw[bD,dV N,<-bD,hget,Tr.get_nil]
  .rfl
theorem aO.body{g:FuncId}{c:Code}(hor:X.o g args H=Q)(hg:nth P.funcs.toList g=D fn)(hb:fn.body=D c)(hl:aD (len args) fn.ntmps=f)(hn:jv P g=nl)(h:gK P X c ⟨nl,fn.ntmps,[],DT args fn.ntmps,[],H⟩<|jL P fn.results.toList K):aO P X g args H K:=by
 have⟨o,o1,W,h0,J⟩:=h;subst hn
 have he:oD ⟨jv P g,fn.ntmps,[],DT args fn.ntmps,[],H⟩ ⟨jv P g,fn.ntmps,[],Tr.tu top args 0 .nil,[],H⟩:=⟨O,O,O,O,λk=>by
  show bV (gZ (jv P g) k) ((DT args fn.ntmps).get top k) _=bV (gZ (jv P g) k) ((Tr.tu top args 0 .nil).get top k) _;rw[Qs args fn.ntmps k]⟩
 have⟨o',h3,h4⟩:=Ev.alike he W
 have fin:∀s s':St,oD s' s->Oc o'=D s'->(s.df=[]/\@aM (C Z) (λ_=>Prop) False (λvs=>K (sN vs) s.H) (lD P s fn.results.toList))->aO P X g args H K:=by
  intro s s' hs ho ⟨hd,y⟩;rw[<-hs.lD]at y;cases ha:lD P s' fn.results.toList with
  |none=>rw[ha]at y;exact y.elim
  |some vs=>
   rw[ha]at y;refine⟨_,_,Ca.body hor hg hb hl h4 ho ?_ ha,?_⟩
   .rw[hs.df,hd];rfl
   .rw[hs.H];exact y
 have alK:Bb o' o:=by
  cases h3 with
  |fail=>exact .fail
  |norm h=>exact .norm h.symm
  |exit i h=>exact .exit i h.symm
  |goto l h=>exact .goto l h.symm
  |ret h=>exact .ret h.symm
 have h5:=alK.trans h0;cases h5 with
 |fail=>exact J.elim
 |norm hs=>exact fin _ _ hs O J
 |exit i hs=>exact J.elim
 |goto l hs=>exact J.elim
 |ret hs=>exact fin _ _ hs O J
def Qt{b:Code}{K:Out->Prop}{s:St}:t_ P X b K (.norm s)=gK P X b s K:=rfl
def Qu{b:Code}{K:Out->Prop}{s:St}{i:Nat}:t_ P X b K (.exit i s)=K (.exit i s):=rfl
def VB{b:Code}{K:Out->Prop}{s:St}:t_ P X b K (.ret s)=K (.ret s):=rfl
def Qv{K:Out->Prop}{s:St}{i:Nat}:sw i K (.norm s)=K (.norm s):=rfl
def VC{K:Out->Prop}{s:St}{i:Nat}:sw i K (.ret s)=K (.ret s):=rfl
def Qw{K:Out->Prop}{s:St}{i:Nat}:sw i K (.exit i s)=K (.norm s):=by
 show K (bV (aA i i) _ _)=_;rw[show aA i i=f from dD i];rfl
def Qx{K:Out->Prop}{s:St}(h:j≠i):sw i K (.exit j s)=K (.exit j s):=by
 show K (bV (aA j i) _ _)=_;rw[show aA j i=aC from by rw[<-b_];exactλg=>h<|aW g];rfl
def Qy{A vn:Prop}:xD (D f) A vn=A:=rfl
def Nn{A vn:Prop}:xD (D aC) A vn=vn:=rfl
def JB{v:Z}{K:Z->Prop}:PU (D v) K=K v:=rfl
def VD{v:Z}{H:R}{K:Z->R->Prop}:ME (D (v,H)) K=K v H:=rfl
def VE{v:Z}{q:aB (Z×R)}{Kp:Z->Prop}{Km:Z->R->Prop}:CV (D v) q Kp Km=Kp v:=rfl
end mem
def kid(c:Code)(i:Nat):Code:=
 @Code.rec (λ_=>Nat->Code) (λ_=>.skip) (λ_ _ _ _=>.skip) (λa b _ _ i=>@jA (λ_=>Code) a (λ_ _=>b) i)
  (λ_ a b _ _ i=>@jA (λ_=>Code) a (λ_ _=>b) i) (λ_ a _ _=>a) (λa _ _=>a) (λ_ _ _ _ _ _ _=>.skip) (λ_ _=>.skip) (λa _ _=>a) (λ_ _=>.skip) (λ_ _=>.skip) (λ_=>.skip) (λ_ _=>.skip) c i
def sub(c:Code)(p:C Nat):Code:=@cz Nat (λ_=>Code->Code) (λc=>c) (λi _ ih c=>ih<|kid c i) p c
def opsOf(c:Code):Array Oper:=
 @Code.rec (λ_=>Array Oper) #[] (λ_ ops _=>ops) (λ_ _ _ _=>#[]) (λ_ _ _ _ _=>#[]) (λ_ _ _=>#[]) (λ_ _=>#[]) (λ_ _ _ _ _ _=>#[]) (λ_=>#[]) (λ_ _=>#[]) (λ_=>#[]) (λ_=>#[]) #[] (λ_=>#[]) c
def OJ(ay:Func):Code:=@aM Code (λ_=>Code) .skip (λc=>c) ay.body
def fld(off:Nat)(x:Z):aB Z:=aL (qC x) λa=>D<|.pointer<|D ⟨a.block,aZ a.off off,Q⟩
def aho(l:aB Nat)(off:Nat)(x:Z):aB Z:=aL (wP x) λM=>apart l M off
def vH(l:aB Nat)(x:Z)(H:R):aB (Z×R):=aL (qC x) λa=>loadAt l a H
def CW(n:Nat)(x v:Z)(H:R):aB (Z×R):=
 aL (qC x) λa=>gd (aA (len<|bK v) n)<|aL (H.write a.block a.off<|bK v) λT=>D (undef,T)
def zN(es:Nat)(x i:Z):aB Z:=aL (zK i) λk=>aL (I7 x) λp=>aL p.1 λa=>gd (aD (bW k) p.2.1)<|D<|.pointer<|D ⟨a.block,aZ a.off<|bO k es,Q⟩
def idR(n es:Nat)(x i:Z):aB Z:=aL (zK i) λk=>aL (qC x) λa=>gd (aD (bW k) n)<|D<|.pointer<|D ⟨a.block,aZ a.off<|bO k es,Q⟩
def idS(x i:Z):aB Z:=aL (zK i) λk=>aL (uj x) λs=>aL (nth s.data.toList k) λb=>D<|.int .u8<|.ofNat b.toNat
def XY(es:Nat)(x:Z)(lo hi mx:aB Z):aB Z:=aL (I7 x) λp=>U6 es p lo hi mx
def slT(x:Z)(lo hi mx:aB Z):aB Z:=aL (uj x) λs=>gd (eZ mx)<|N_ s lo hi
def ai7(x:Z):aB Z:=aL (I7 x) λp=>D<|.int .i64<|.ofNat p.2.1
def ai8(x:Z):aB Z:=aL (uj x) λs=>D<|.int .i64<|.ofNat<|len s.data.toList
def iX(e:aH)(z:C Z)(H:R):aB (Z×R):=D (MO H.next,H.new<|rowOf e z)
def mkS(e:aH)(z:C Z)(l c:Z)(H:R):aB (Z×R):=
 aL (zK l) λn=>aL (zK c) λm=>gd (aD n m&&aD m 16777216&&f)<|D (I (D ⟨H.next,0,Q⟩) n m,H.new<|rowOf e<|o7 z m)
def zY(e:aH)(es:Nat)(s x:Z)(H:R):aB (Z×R):=
 aL (I7 s) λp=>aL (appended H es x) λr=>gd (aD r.1 16777216)<|PW (e,es) s p r.1 r.2 H
def cpA(es:Nat)(d x:Z)(H:R):aB (Z×R):=
 aL (I7 d) λp=>aL (appended H es x) λe=>
  @aM Addr (λ_=>aB<|Z×R) (gd (aA p.2.1 0)<|D (.int .i64 0,H))
   (λa=>aL (H.write a.block a.off<|tk (bO (bV (aD e.1 p.2.1) e.1 p.2.1) es) e.2) λT=>D (.int .i64<|.ofNat<|bV (aD e.1 p.2.1) e.1 p.2.1,T)) p.1
def clA(z:C Z)(d:Z)(H:R):aB (Z×R):=
 aL (I7 d) λp=>@aM Addr (λ_=>aB<|Z×R) (D (.tuple #[],H)) (λa=>aL (H.write a.block a.off<|o7 z p.2.1) λT=>D (.tuple #[],T)) p.1
def Mj(x:Z):aB (FuncId×C Z×C Z):=aL (Zp x) λq=>aL (fFn q.1) λg=>D (g,q.2)
def hN(H:R):R:=⟨H.v_,H.next,H.next⟩
def hM(H T:R):R:=⟨T.v_,T.next,nY H.low T.low⟩
def DY(H T:R):Cl:=bV (aD H.next T.low) (cl 1) ⟨2,0,0,0,H,T⟩
def Ml(H T:R):Cl:=bV (aD H.next T.low) (cl 5) ⟨2,0,0,0,H,T⟩
def clL(n:Nat)(x:Z)(H T:R):Cl:=bV (aD H.next T.low) ((aL (qC x) λa=>D<|Cl.mk 4 a.block a.off n hh0 hh0).getD<|cl 1) ⟨2,0,0,0,H,T⟩
def clS(x v:Z)(H T:R):Cl:=@aM Addr (λ_=>Cl) ⟨2,0,0,0,H,T⟩ (λa=>⟨3,a.block,a.off,len<|bK v,hh0,hh0⟩)<|qC x
def Gm(az:Nat->St->Prop)(n:Nat)(K:Out->Prop):Out->Prop:=λo=>
 @Out.rec (λ_=>Prop) False (λs=>∃m,m<n/\az m s) (λi s=>K<|.exit i s) (λl s=>K<|.goto l s) (λs=>K<|.ret s) o
def Qz{az:Nat->St->Prop}{n:Nat}{K:Out->Prop}{s:St}:Gm az n K (.norm s)=∃m,m<n/\az m s:=rfl
def QA{az:Nat->St->Prop}{n:Nat}{K:Out->Prop}{s:St}{i:Nat}:Gm az n K (.exit i s)=K (.exit i s):=rfl
def VF{az:Nat->St->Prop}{n:Nat}{K:Out->Prop}{s:St}:Gm az n K (.ret s)=K (.ret s):=rfl
theorem gK.CX{P:aU}{X:Xt}{a:Code}{K:Out->Prop}{az:Nat->St->Prop}(h:∀n s,az n s->gK P X a s (Gm az n K)):∀n s,az n s->gK P X (.loop a) s K:=by
 intro n s hs;refine gK.loop (H':=Nat×St) (λt=>t.2) (λt=>az t.1 t.2) (λt=>t.1) ?_ (n,s) hs;rintro⟨n,s⟩ hR;refine gK.mono (h n s hR) λo ho=>?_;cases o with
 |fail=>exact ho
 |norm s'=>
  have⟨m,W,J⟩:=ho;exact⟨(m,s'),O,J,W⟩
 |exit i s'=>exact ho
 |goto l s'=>exact ho
 |ret s'=>exact ho
abbrev Bc:=look
def TK(P:aU)(s:St)(rs:C ResultVar):(C Z->Prop)->Prop:=
 @cz ResultVar (λ_=>(C Z->Prop)->Prop) (λk=>k []) (λr _ ih k=>
  @ResultVar.rec (λ_=>Prop) (λt=>ih λvs=>k<|iA s t::vs) (λa t=>ME (wu P t (iA s a) s.H) λv _=>ih λvs=>k<|v::vs) r) rs
def VG{P:aU}{s:St}:∀{rs:C ResultVar}{k:C Z->Prop},TK P s rs k->∃vs,lD P s rs=D vs/\k vs:=by
 intro rs
 induction rs with
 |nil=>intro k h;exact⟨[],O,h⟩
 |cons r rs ih=>
  intro k h;cases r with
  |tmp t=>
   have⟨vs,W,J⟩:=ih (k:=λvs=>k<|iA s t::vs) h;refine⟨iA s t::vs,?_,J⟩;show(aL (D<|iA s t) λv=>aL (lD P s rs) λvs=>D<|v::vs)=_;rw[W];rfl
  |cell a t=>
   have⟨v,T,h0,h⟩:=afI (K:=λv _=>TK P s rs λvs=>k<|v::vs) h;have⟨vs,W,J⟩:=ih (k:=λvs=>k<|v::vs) h;refine⟨v::vs,?_,J⟩;show(aL (aL (wu P t (iA s a) s.H) λp=>D p.1) λv=>aL (lD P s rs) λvs=>D<|v::vs)=_;rw[h0,W];rfl
def aaC{P:aU}{s:St}(hd:s.df=[])(h:TK P s rs λvs=>K (sN vs) s.H):jL P rs K (.ret s):=by
 have⟨vs,W,J⟩:=VG h;refine⟨hd,?_⟩;rw[W];exact J
def XZ{P:aU}{s:St}(hd:s.df=[])(h:TK P s rs λvs=>K (sN vs) s.H):jL P rs K (.norm s):=by
 have⟨vs,W,J⟩:=VG h;refine⟨hd,?_⟩;rw[W];exact J
section
def uZ(H:R)(r:Nat)(o:lI)(q:Nat):(H.put r o).obj q=if q=r then o else H.obj q:=Tr.vE _ _ _ _ _
def yg(H:R)(o:lI)(q:Nat):(H.new o).obj q=if q=H.next then o else H.obj q:=Tr.vE _ _ _ _ _
def u_(H:R)(r:Nat)(o:lI):(H.put r o).low=min H.low r:=by
 show bV (aD H.low r) H.low r=_;cases h:aD H.low r with
 |true=>have:=aF h;rw[oz,iV this]
 |false=>
  have:¬H.low<=r:=λg=>by rw[aI g]at h;cases h
  rw[jW,uJ N]
def Bk(H:R)(r:Nat)(ty:aH)(M:C Z):Prop:=
 ∃az:Row,H.obj r=.row az/\az.ty=ty/\az.n=M.length/\az.kY=aC/\az.fz=0/\∀i(h:i<M.length),az.cells.get top i=M[i]
def Bk.cell{r:Nat}(h:Bk H r ty M)(hv:M[o]?=D v):H.cell r o=D v:=by
 have⟨az,W,_,J,_,_,h3⟩:=h;have⟨ho,hv⟩:=bE.1 hv;unfold R.cell;rw[W];show gd (aD (bW o) az.n) (D<|az.cells.get top o)=_;rw[J,aI N,h3 o ho,hv];rfl
def Bk.jb{r:Nat}(h:Bk H r ty M)(e:T.obj r=H.obj r):Bk T r ty M:=by
 have⟨az,W,J⟩:=h;exact⟨az,e.trans W,J⟩
def kr{r:Nat}(e:T.obj r=H.obj r)(o:Nat):T.cell r o=H.cell r o:=by unfold R.cell;rw[e]
def rJ{r:Nat}(e:T.obj r=H.obj r)(o n:Nat):T.read r o n=H.read r o n:=by unfold R.read;rw[e]
def Bk.new(H:R)(ty:aH)(M:C Z):Bk (H.new<|rowOf ty M) H.next ty M:=by
 refine⟨⟨ty,Tr.tu top M 0 .nil,len M,aC,0⟩,by rw[yg,if_pos O];rfl,rfl,fU M,rfl,rfl,λi h=>?_⟩;rw[Tr.l_,if_pos N,bD];simp[h]
def aaD:∀{k:Nat}(t:Tr Z)(M:C Z),k+n<=M.length->(∀i(h:i<M.length),t.get top i=M[i])->Tr.Ep top t k n=(M.drop k).take n:=by
 induction n with
 |zero=>intro k t M _ _;rw[Tr.Cz];simp
 |succ n ih=>
  intro k t M hk ht;rw[Tr.xU,ih t M N ht,ht k N,dY (by omega:k<M.length),jg]
def Bk.read{r:Nat}(h:Bk H r ty M)(hn:o+n<=M.length):H.read r o n=D ((M.drop o).take n):=by
 have⟨az,W,_,J,_,_,h3⟩:=h;cases n with
 |zero=>show D []=_;simp
 |succ n=>
  show(aL (vZ<|H.obj r) λw=>gd (aD (aZ o<|n+1) w.n)<|D<|Tr.Ep top w.cells o<|n+1)=_;rw[W];show gd (aD (aZ o<|n+1) az.n) (D<|Tr.Ep top az.cells o<|n+1)=_;rw[J,aI<|mg hn,aaD az.cells M hn h3];rfl
def splice(M:C Z)(o:Nat)(vs:C Z):C Z:=M.take o++vs++M.drop (o+vs.length)
def mq(h:o+vs.length<=M.length):(splice M o vs).length=M.length:=by unfold splice;simp;omega
def qG(h:o+vs.length<=M.length)(i:Nat):(splice M o vs)[i]?=if o<=i/\i<o+vs.length then vs[i-o]? else M[i]?:=by
 unfold splice;rw[bU,qU,qU];simp only[dF]
 by_cases W:i<o
 .rw[if_pos N,if_neg N,iW,if_pos W]
 .rw[if_neg N]
  by_cases J:i<o+vs.length
  .rw[if_pos N,if_pos ⟨N,J⟩];congr 1;omega
  .rw[if_neg N,if_neg N,pK];congr 1;omega
theorem Bk.write{r:Nat}(h:Bk H r ty M)(hn:o+vs.length<=M.length)(hk:all' fC vs=f):
 ∃T,H.write r o vs=D T/\Bk T r ty (splice M o vs)/\T.next=H.next/\(∀q,q≠r->T.obj q=H.obj q)/\(T.low=min H.low r\/T.low=H.low):=by
 have⟨az,W,J,h3,h4,h5,h6⟩:=h;cases vs with
 |nil=>
  refine⟨H,O,⟨az,W,J,by rw[mq hn];exact h3,h4,h5,λi hi=>?_⟩,rfl,λ_ _=>rfl,.inr O⟩;have hi':i<M.length:=by rwa [mq hn]at hi
  have:=qG hn i;rw[if_neg (λh=>absurd h.2 I6),av hi,av hi']at this;rw[h6 i hi'];exact(dK this).symm
 |cons v vs'=>
  have hw:H.write r o (v::vs')=D (H.put r<|.row ⟨az.ty,Tr.tu top (v::vs') o az.cells,az.n,aC,az.fz⟩):=by
   show(aL (vZ<|H.obj r) λw=>gd (!w.kY&&aD (aZ o<|len<|v::vs') w.n&&aD w.fz o&&all' fC (v::vs'))<|D<|H.put r<|.row ⟨w.ty,Tr.tu top (v::vs') o w.cells,w.n,aC,w.fz⟩)=_;rw[W];show gd (!az.kY&&aD (aZ o<|len<|v::vs') az.n&&aD az.fz o&&all' fC (v::vs')) _=_;rw[hk,h4,h3,h5,fU,aI<|mg hn,aI<|bA o];rfl
  refine⟨_,hw,⟨⟨az.ty,Tr.tu top (v::vs') o az.cells,az.n,aC,az.fz⟩,by rw[uZ,if_pos O],J,by rw[mq hn];exact h3,O,h5,λi hi=>?_⟩,rfl,λq hq=>by rw[uZ,if_neg hq],.inl<|u_ _ _ _⟩;have hi':i<M.length:=by rwa [mq hn]at hi
  have hg:=qG hn i;rw[av hi]at hg;show(Tr.tu top (v::vs') o az.cells).get top i=_;rw[Tr.l_]
  by_cases hc:o<=i/\i<o+(v::vs').length
  .rw[if_pos hc]at hg|-;rw[bD,<-hg];rfl
  .rw[if_neg hc]at hg|-;rw[h6 i hi'];rw[av hi']at hg;exact(dK hg).symm
structure oN(S:C Nat)(H T:R):Prop where
 next:H.next<=T.next
 obj:∀r,r<H.next->r∉S->T.obj r=H.obj r
 low:∀b,b<=H.low->b<=H.next->(∀r∈S,b<=r)->b<=T.low
 wf:H.low<=H.next->T.low<=T.next
abbrev Wf(H:R):Prop:=H.low<=H.next
abbrev Ext(H T:R):Prop:=oN [] H T
def Ext.refl(H:R):Ext H H:=⟨ax _,λ_ _ _=>rfl,λ_ h _ _=>h,λh=>h⟩
def oN.refl(S:C Nat)(H:R):oN S H H:=⟨ax _,λ_ _ _=>rfl,λ_ h _ _=>h,λh=>h⟩
def oN.trans{S:C Nat}{A vn ak:R}(W:oN S A vn)(J:oN S vn ak):oN S A ak:=
 ⟨a_ W.next J.next,λr y G=>(J.obj r (aR y W.next) G).trans<|W.obj r y G,λb hl hn G=>J.low b (W.low b hl hn G) (a_ hn W.next) G,λh=>J.wf<|W.wf h⟩
def oN.later{S:C Nat}{A vn ak:R}(W:oN S A vn)(J:oN S' vn ak)(G:∀r∈S',r∈S\/A.next<=r):oN S A ak:=
 ⟨a_ W.next J.next,λr y hn=>(J.obj r (aR y W.next) (λh=>by
  rcases G r h with h|h
  .exact hn h
  .omega)).trans (W.obj r y hn),
  λb hl hn hb=>J.low b (W.low b hl hn hb) (a_ hn W.next) (λr y=>by
   rcases G r y with h|h
   .exact hb r h
   .omega),λh=>J.wf<|W.wf h⟩
def oN.weaken{S:C Nat}{A vn:R}(h:oN S A vn)(hs:∀r∈S,r∈S'):oN S' A vn:=⟨h.next,λr y hn=>h.obj r y λg=>hn<|hs r g,λb hl hn hb=>h.low b hl hn λr y=>hb r<|hs r y,h.wf⟩
def Ext.new(H:R)(o:lI):Ext H (H.new o):=⟨iU _,λr y _=>by rw[yg,if_neg N],λ_ h _ _=>h,λh=>lX h⟩
def oN.put(H:R)(r:Nat)(o:lI):oN [r] H (H.put r o):=⟨ax _,λq _ hq=>by rw[uZ,if_neg λe=>hq<|by simp[e]],λb h _ hb=>by rw[u_];have:=hb r kg;omega,λh=>by rw[u_];show min H.low r<=H.next;omega⟩
abbrev dL:=Nat×aH×C Z
structure F(S:C Nat)(H0 H:R)(L:C dL):Prop where
 ext:oN S H0 H
 bk:∀e∈L,Bk H e.1 e.2.1 e.2.2
 lo:∀e∈L,(e.1∈S\/H0.next<=e.1)/\e.1<H.next
 ne:L.Pairwise λa b=>a.1≠b.1
 wf:H.low<=H.next
variable{S:C Nat}
def F.refl{H:R}(hw:Wf H):F [] H H []:=⟨Ext.refl H,(λe h=>by cases h),(λe h=>by cases h),List.Pairwise.nil,hw⟩
def F.wQ{L:C dL}(G:F [] H0 H L){e:dL}(he:e∈L):H0.next<=e.1:=(G.lo e he).1.resolve_left<|nofun
def F.get{L:C dL}(G:F S H0 H L)(i:Nat){r:Nat}(hi:L[i]?=D (r,ty,M)):Bk H r ty M:=G.bk _<|aS hi
def F.old{L:C dL}(G:F [] H0 H L){r:Nat}(y:r<H0.next):H.cell r o=H0.cell r o:=kr (G.ext.obj r y kg) o
def F.grow{L:C dL}(G:F S H0 H L)(ty:aH)(M:C Z):F S H0 (H.new<|rowOf ty M) ((H.next,ty,M)::L):=by
 refine⟨G.ext.later (Ext.new _ _)<|nofun,?_,?_,?_,(Ext.new _ _).wf G.wf⟩
 .intro e he;rcases bP.1 he with rfl|he
  .exact Bk.new H ty M
  .exact(G.bk e he).jb (by rw[yg,if_neg (by have:=(G.lo e he).2;omega)])
 .intro e he;rcases bP.1 he with rfl|he
  .exact⟨.inr G.ext.next,dM _⟩
  .exact⟨(G.lo e he).1,Nat.lt_succ_of_lt (G.lo e he).2⟩
 .refine List.Pairwise.cons (λe he=>?_) G.ne;have:=(G.lo e he).2;show H.next≠e.1
  omega
def F.turn{A A' L:C dL}(G:F S H0 H<|A++L)(E:oN (A.map (·.1)) H T)(hb:∀e∈A',Bk T e.1 e.2.1 e.2.2/\(e.1∈A.map (·.1)\/H.next<=e.1)/\e.1<T.next)(hn:A'.Pairwise λa b=>a.1≠b.1):F S H0 T (A'++L):=by
 have hp:=lV.1 G.ne;have hA:∀r∈A.map (·.1),∃e∈A,e.1=r:=λr y=>mg y
 have hnot:∀e∈L,e.1∉A.map (·.1):=λe he h=>by
  have⟨a,ha,e1⟩:=hA _ h;exact hp.2.2 a ha e he e1
 refine⟨?_,?_,?_,?_,E.wf G.wf⟩
 .refine oN.later G.ext E (λr y=>?_);obtain⟨a,ha,rfl⟩:=hA r y;exact(G.lo a<|dn _ ha).1
 .intro e he;rcases bZ.1 he with he|he
  .exact(hb e he).1
  .exact(G.bk e<|cZ _ he).jb<|E.obj _ (G.lo e<|cZ _ he).2<|hnot e he
 .intro e he;rcases bZ.1 he with he|he
  .refine⟨?_,(hb e he).2.2⟩;rcases(hb e he).2.1 with h|h
   .have⟨a,ha,e1⟩:=hA _ h;rw[<-e1];exact(G.lo a<|dn _ ha).1
   .have:=G.ext.next;exact .inr N
  .have:=G.lo e (cZ _ he);exact⟨this.1,aR this.2 E.next⟩
 .refine lV.2 ⟨hn,hp.2.1,λa ha e he=>?_⟩;rcases(hb a ha).2.1 with h|h
  .exactλe1=>hnot e he (by rw[<-e1];exact h)
  .have:=(G.lo e<|cZ _ he).2;omega
theorem F.call{L:C dL}(G:F S H0 H L)(E:Ext H T):F S H0 T L:=F.turn (A:=[]) (A':=[]) G E (nofun) List.Pairwise.nil
def F.drop{A L:C dL}(G:F S H0 H<|A++L):F S H0 H L:=F.turn (A:=A) (A':=[]) G (oN.refl _ _) (nofun) List.Pairwise.nil
def F.perm{L L':C dL}(G:F S H0 H L)(hp:L.Perm L'):F S H0 H L':=
 ⟨G.ext,λe he=>G.bk e<|hp.mem_iff.2 he,λe he=>G.lo e<|hp.mem_iff.2 he,hp.pairwise G.ne λh=>h.symm,G.wf⟩
def F.base{L:C dL}(G:F S H0 H L):F (L.map (·.1)) H H L:=
 ⟨oN.refl _ _,G.bk,λe he=>⟨.inl<|bQ.2 ⟨e,he,rfl⟩,(G.lo e he).2⟩,G.ne,G.wf⟩
def F.over{L L':C dL}(G:F S H0 H L)(h:F (L.map (·.1)) H T L'):F S H0 T L':=by
 have hA:∀r∈L.map (·.1),∃e∈L,e.1=r:=λr y=>mg y;refine⟨oN.later G.ext h.ext λr y=>?_,h.bk,λe he=>⟨?_,(h.lo e he).2⟩,h.ne,h.wf⟩
 .obtain⟨a,ha,rfl⟩:=hA r y;exact(G.lo a ha).1
 .rcases(h.lo e he).1 with W|W
  .have⟨a,ha,e1⟩:=hA _ W;rw[<-e1];exact(G.lo a ha).1
  .have:=G.ext.next;exact .inr N
def F.lt{L:C dL}(G:F S H0 H L):∀r∈L.map (·.1),r<H.next:=λr y=>by
 obtain⟨e,he,rfl⟩:=bQ.1 y;exact(G.lo e he).2
def F.weaken{L:C dL}(G:F S H0 H L)(h:∀r∈S,r∈S'):F S' H0 H L:=
 ⟨G.ext.weaken h,G.bk,λe he=>⟨(G.lo e he).1.imp_left<|h _,(G.lo e he).2⟩,G.ne,G.wf⟩
section steps
variable{L:C dL}
def F.box(G:F S H0 H L){x:Z}(E:pZ x=f)(k:∀H1 r,F S H0 H1 ((r,ty,bK x)::L)->K (.pointer<|D ⟨r,0,Q⟩) H1):ME (JZ ty x H) K:=by
 unfold JZ;rw[E];exact k _ _<|G.grow ty<|bK x
def F.iX(G:F S H0 H L){z:C Z}(k:∀H1 r,F S H0 H1 ((r,ty,z)::L)->K (.pointer<|D ⟨r,0,Q⟩) H1):ME (Go.Ae.iX ty z H) K:=k _ _<|G.grow ty z
def ME.ld{r:Nat}(h:H.cell r o=D v)(k:K v H):ME (vH Q (.pointer<|D ⟨r,o,Q⟩) H) K:=by
 show ME (aL (H.cell r o) λv=>D (v,H)) K;rw[h];exact k
def ME.rZ{r:Nat}(h:H.read r o n=D vs)(k:K (.agg ⟨vs⟩) H):ME (vH (D n) (.pointer<|D ⟨r,o,Q⟩) H) K:=by
 show ME (aL (H.read r o n) λvs=>D (.agg ⟨vs⟩,H)) K;rw[h];exact k
def F.ld(G:F S H0 H L)(i:Nat){r:Nat}(hi:L[i]?=D (r,ty,M))(hv:M[o]?=D v)(k:K v H):ME (vH Q (.pointer<|D ⟨r,o,Q⟩) H) K:=ME.ld ((G.get i hi).cell hv) k
def F.rZ(G:F S H0 H L)(i:Nat){r:Nat}(hi:L[i]?=D (r,ty,M))(hn:o+n<=M.length)(k:K (.agg ⟨(M.drop o).take n⟩) H):ME (vH (D n) (.pointer<|D ⟨r,o,Q⟩) H) K:=ME.rZ ((G.get i hi).read hn) k
def F.Be(G:F [] H0 H L){r:Nat}(h:H0.cell r o=D v)(y:r<H0.next)(k:K v H):ME (vH Q (.pointer<|D ⟨r,o,Q⟩) H) K:=ME.ld ((G.old y).trans h) k
def F.Aj(G:F [] H0 H L){r:Nat}(h:H0.read r o n=D vs)(y:r<H0.next)(k:K (.agg ⟨vs⟩) H):ME (vH (D n) (.pointer<|D ⟨r,o,Q⟩) H) K:=ME.rZ ((rJ (G.ext.obj r y kg) o n).trans h) k
def Ky:∀{l:C α}{i:Nat}(h:i<l.length),(l[i]::l.eraseIdx i).Perm l:=by
 intro l
 induction l with
 |nil=>intro i h;cases h
 |cons x l ih=>
  intro i h;cases i with
  |zero=>exact p9 _
  |succ i=>exact(gq x _ _).trans<|(ih<|mg h).cons x
def F.zZ(G:F S H0 H L)(i:Nat){r:Nat}(hi:L[i]?=D (r,ty,M))(hn:o+vs.length<=M.length)(hk:all' fC vs=f):
 ∃H1,H.write r o vs=D H1/\F S H0 H1 (L.set i (r,ty,splice M o vs))/\oN [r] H H1:=by
 have hil:i<L.length:=(bE.1 hi).1;have hig:L[i]=(r,ty,M):=(bE.1 hi).2;have⟨H1,W,J,h3,h4,h5⟩:=(G.get i hi).write hn hk
 have E:oN [r] H H1:=⟨N,λq _ hq=>h4 q λe=>hq<|by simp[e],λb hl _ hb=>by
  have:=hb r kg;rcases h5 with h5|h5<;>omega,λh=>by rcases h5 with h5|h5<;>omega⟩
 refine⟨H1,W,?_,E⟩;have hp:L.Perm ((r,ty,M)::L.eraseIdx i):=by rw[<-hig];exact(Ky hil).symm
 have hS2:F S H0 H ([(r,ty,M)]++L.eraseIdx i):=G.perm hp
 have sG:=F.turn (A':=[(r,ty,splice M o vs)]) hS2 E (λe he=>by
  rw[aP]at he;subst he;refine⟨J,.inl kg,?_⟩;have:=(G.lo _<|aS hi).2;show r<H1.next
  omega) (iR _ _)
 apply sG.perm;have:(L.set i (r,ty,splice M o vs)).eraseIdx i=L.eraseIdx i:=by rw[List.eraseIdx_set_eq]
 have hl:i<(L.set i (r,ty,splice M o vs)).length:=mg hil;have hg:(L.set i (r,ty,splice M o vs))[i]=(r,ty,splice M o vs):=by simp
 have hq:=Ky hl;rw[hg,this]at hq;exact hq
def F.st(G:F S H0 H L)(i:Nat){r:Nat}(hi:L[i]?=D (r,ty,M))(hl:(bK v).length=n)(hn:o+n<=M.length)(hk:all' fC (bK v)=f)(k:∀H1,F S H0 H1 (L.set i (r,ty,splice M o<|bK v))->K undef H1):ME (CW n (.pointer<|D ⟨r,o,Q⟩) v H) K:=by
 have⟨H1,W,J,_⟩:=G.zZ (vs:=bK v) (o:=o) i hi N hk;show ME (gd (aA (len<|bK v) n)<|aL (H.write r o<|bK v) λT=>D (undef,T)) K;rw[fU,hl,dD,W];exact k H1 J
end steps
def gN(h:H.low<=H.next):hM H (hN H)=H:=by
 show R.mk H.v_ H.next (bV (aD H.low H.next) H.low H.next)=H
 rw[aI h];rfl
def nS(H:R):Wf (hN H):=ax _
def GQ(a b:Nat):nY a b=min a b:=by
 show bV (aD a b) a b=_;cases h:aD a b with
 |true=>rw[oz,iV<|aF h]
 |false=>
  have:¬a<=b:=λg=>by rw[aI g]at h;cases h
  rw[jW,uJ N]
def oN.draw(E:oN S (hN H) T):oN S H (hM H T):=
 ⟨E.next,E.obj,λb hl hn hb=>by show b<=nY H.low T.low;rw[GQ];have:=E.low b hn hn hb;omega,λh=>by show nY H.low T.low<=T.next;rw[GQ];have:H.next<=T.next:=E.next;omega⟩
def F.nH{L:C dL}(G:F S H0 H L)(E:Ext (hN H) T):F S H0 (hM H T) L:=G.call E.draw
def F.hN{L:C dL}(G:F S H0 H L):(∀r o,(Go.Ae.hN H).cell r o=H.cell r o)/\(∀r o n,(Go.Ae.hN H).read r o n=H.read r o n):=⟨λ_ _=>rfl,λ_ _ _=>rfl⟩
def d_(n r o:Nat)(H:R):clL n (.pointer<|D ⟨r,o,Q⟩) H (hN H)=⟨4,r,o,n,hh0,hh0⟩:=by
 show bV (aD H.next H.next) _ _=_;rw[aI (ax _)];rfl
def fP(E:Ext (hN H) T):DY H T=cl 1:=by
 show bV (aD H.next T.low) _ _=_;rw[aI (E.low H.next (ax _) (ax _)<|nofun)];rfl
def xQ(E:Ext (hN H) T):Ml H T=cl 5:=by
 show bV (aD H.next T.low) _ _=_;rw[aI (E.low H.next (ax _) (ax _)<|nofun)];rfl
def fK(r o:Nat)(v:Z)(H T:R):clS (.pointer<|D ⟨r,o,Q⟩) v H T=⟨3,r,o,len<|bK v,hh0,hh0⟩:=rfl
def Im(h:noTwo cls=f):jT ops cls=f:=by
 unfold jT;rw[h];rfl
end
variable{L L' cs M' gb:C dL}
section
variable{S:C Nat}
abbrev vi(n:Int):Z:=.int .i64 n
abbrev B(n:Nat):Z:=.int .i64 (n:Int)
def DU(a b:Int):L9 a b=decide (a<b):=by
 cases a with
 |ofNat m=>cases b with
  |ofNat n=>show aD (bW m) n=_;rw[gm,Nat.ble_eq];simp;omega
  |negSucc n=>show aC=_;symm;simp;omega
 |negSucc m=>cases b with
  |ofNat n=>show f=_;symm;simp;omega
  |negSucc n=>show aD (bW n) m=_;rw[gm,Nat.ble_eq];simp;omega
def BI(a b:Int):Jq a b=decide (a=b):=by
 cases a with
 |ofNat m=>cases b with
  |ofNat n=>show aA m n=_;rw[gm,jP];simp;omega
  |negSucc n=>show aC=_;symm;simp
 |negSucc m=>cases b with
  |ofNat n=>show aC=_;symm;simp
  |negSucc n=>show aA m n=_;rw[gm,jP];simp
def xE{n:Int}(W:-9223372036854775808<=n)(J:n<=9223372036854775807):oC .i64 n=n:=by
 cases n with
 |ofNat m=>
  show bV (Ea .i64&&aD m 9223372036854775807) (Int.ofNat m) _=_
  rw[show(Ea .i64&&aD m 9223372036854775807)=f from by
   rw[show Ea .i64=f from O,qT];exact aI (by have:(m:Int)<=9223372036854775807:=J;omega)];rfl
 |negSucc m=>
  show bV (Ea .i64&&aD m 9223372036854775807) (Int.negSucc m) _=_
  rw[show(Ea .i64&&aD m 9223372036854775807)=f from by
   rw[show Ea .i64=f from O,qT];exact aI N];rfl
section bin
variable{P:aU}{a b:Int}{k:fB}
def BJ:aA (qJ k) (qJ k)=f:=dD _
def lZ{op:rA}(hs:Jr op=aC)(h:W_ op k a b=D v):lY P op t ox oy (.int k a) (.int k b)=D v:=by
 show bV (Jr op) (Zt op t (.int k a)<|.int k b) (gd (aA (qJ k)<|qJ k)<|W_ op k a b)=_;rw[hs,BJ];exact h
def QB:lY P .lss t ox oy (.int k a) (.int k b)=D (.bool<|decide<|a<b):=lZ O (by show D (gI<|L9 a b)=_;rw[DU])
def QC:lY P .gtr t ox oy (.int k a) (.int k b)=D (.bool<|decide<|b<a):=lZ O (by show D (gI<|L9 b a)=_;rw[DU])
def QD:lY P .leq t ox oy (.int k a) (.int k b)=D (.bool<|decide<|a<=b):=lZ O (by
 show D (gI<|!(L9 b a))=_;rw[DU,<-decide_not];simp[Int.not_lt])
def AJ:lY P .geq t ox oy (.int k a) (.int k b)=D (.bool<|decide<|b<=a):=lZ O (by
 show D (gI<|!(L9 a b))=_;rw[DU,<-decide_not];simp[Int.not_lt])
def QE:lY P .eql t ox oy (.int k a) (.int k b)=D (.bool<|decide<|a=b):=lZ O (by show D (gI<|Jq a b)=_;rw[BI])
def QF:lY P .neq t ox oy (.int k a) (.int k b)=D (.bool<|!decide (a=b)):=lZ O (by show D (gI<|!(Jq a b))=_;rw[BI])
def fD(W:-9223372036854775808<=a+b)(J:a+b<=9223372036854775807):lY P .add t ox oy (vi a) (vi b)=D (vi<|a+b):=lZ O (by show D (bX .i64<|oC .i64<|a+b)=_;rw[xE W J])
def pg(W:-9223372036854775808<=a-b)(J:a-b<=9223372036854775807):lY P .sub t ox oy (vi a) (vi b)=D (vi<|a-b):=lZ O (by show D (bX .i64<|oC .i64<|a-b)=_;rw[xE W J])
def aaE(W:-9223372036854775808<=a*b)(J:a*b<=9223372036854775807):lY P .mul t ox oy (vi a) (vi b)=D (vi<|a*b):=lZ O (by show D (bX .i64<|oC .i64<|a*b)=_;rw[xE W J])
end bin
def QG(b:Bool):j3 (Op.unary .not<|.bool b)=D (.bool !b):=rfl
def min2(k:fB)(a b:Int):Sz aC [.int k a,.int k b]=D (.int k<|min a b):=by
 show aL (gd (aA (qJ k)<|qJ k)<|D<|bV (L9 b a) (bX k b)<|bX k a) D=_;rw[BJ,zR,JR,DU]
 by_cases h:b<a
 .rw[bL h,oz,Int.min_eq_right N]
 .rw[dB h,jW,Int.min_eq_left N]
def max2(k:fB)(a b:Int):Sz f [.int k a,.int k b]=D (.int k<|max a b):=by
 show aL (gd (aA (qJ k)<|qJ k)<|D<|bV (L9 a b) (bX k b)<|bX k a) D=_;rw[BJ,zR,JR,DU]
 by_cases h:a<b
 .rw[bL h,oz,Int.max_eq_right N]
 .rw[dB h,jW,Int.max_eq_left N]
def KA(b:Bool):jQ (.bool b)=D b:=rfl
def VH(off r o:Nat):fld off (.pointer<|D ⟨r,o,Q⟩)=D (.pointer<|D ⟨r,o+off,Q⟩):=rfl
def QH(a:Addr):Oa (.pointer<|D a)=D (.pointer<|D a):=rfl
def VI(a:aB Addr)(n c:Nat):ai7 (I a n c)=D (B n):=rfl
def QI(s:aV):ai8 (.string s)=D (B s.size):=by
 show D (bX .i64<|Int.ofNat<|len s.data.toList)=_;rw[fU];rfl
def tX{r:Nat}(h:k<n):zN es (I (D ⟨r,o,Q⟩) n c) (B k)=D (.pointer<|D ⟨r,o+k*es,Q⟩):=by
 show gd (aD (bW k) n) (D<|uy<|D ⟨r,aZ o<|bO k es,Q⟩)=_;rw[aI h];rfl
def sZ{s:aV}(h:k<s.size):idS (.string s) (B k)=D (.int .u8 ((s.data.toList[k]'(mg h)).toNat:Int)):=by
 show(aL (nth s.data.toList k) λb=>D<|bX .u8<|.ofNat b.toNat)=_;rw[oL,av<|mg h];rfl
def Fl(H:R)(a:aB Addr)(n es:Nat)(M:C Z):Prop:=
 M.length=n*es/\∀(i:Nat)(x:Z),M[i]?=D x->∃r o,a=D ⟨r,o,Q⟩/\r<H.next/\H.cell r (o+i)=D x
def Fl.ext{S:C Nat}{H T:R}{a:aB Addr}{n es:Nat}{M:C Z}(h:Fl H a n es M)(E:oN S H T)(G:∀r o,a=D ⟨r,o,Q⟩->r∉S):Fl T a n es M:=
 ⟨h.1,λi x hi=>by
   have⟨r,o,W,J,h3⟩:=h.2 i x hi;exact⟨r,o,W,aR J E.next,(kr (E.obj r J<|G r o W) _).trans h3⟩⟩
def Fl.ex(h:Fl H a n es M)(E:Ext H T):Fl T a n es M:=h.ext E<|nofun
def Fl.nil(H:R)(a:aB Addr)(es:Nat):Fl H a 0 es []:=⟨by simp,λi x h=>by simp at h⟩
def Fl.idx(h:Fl H a n es M)(he:0<es)(hk:k<n):
 ∃r o,zN es (I a n c) (B k)=D (.pointer<|D ⟨r,o,Q⟩)/\r<H.next/\(∀ay x,ay<es->M[k*es+ay]?=D x->H.cell r (o+ay)=D x)/\(∃o0,a=D ⟨r,o0,Q⟩/\o=o0+k*es):=by
 have hl:k*es<M.length:=by rw[h.1];exact Nat.mul_lt_mul_of_pos_right hk he
 obtain⟨r,o,rfl,J,h3⟩:=h.2 (k*es) _<|av hl;refine⟨r,o+k*es,tX hk,J,λay x hf E=>?_,o,rfl,rfl⟩;have⟨r',o',h4,_,h5⟩:=h.2 _ _ E;cases h4;rw[Nat.add_assoc];exact h5
def Bk.fl{r:Nat}(h:Bk H r ty M)(y:r<H.next)(hn:M.length=n*es):Fl H (D ⟨r,0,Q⟩) n es M:=
 ⟨hn,λi x hi=>⟨r,0,rfl,y,by rw[aY];exact h.cell hi⟩⟩
abbrev fF(l:C Nat):C Z:=l.map B
abbrev bools(l:C Bool):C Z:=l.map gI
def jR(ay:α->Z){l:C α}{x:α}(h:l[i]?=D x):(l.map ay)[i]?=D (ay x):=by rw[bF,h];rfl
def Nq(z:C Z)(n:Nat):(o7 z n).length=n*z.length:=by
 induction n with
 |zero=>show([]:C Z).length=_;simp
 |succ n ih=>show(app z<|o7 z n).length=_;rw[qB,aQ,ih,kR];omega
def mZ(x:Z)(n:Nat):o7 [x] n=aX n x:=by
 induction n with
 |zero=>rfl
 |succ n ih=>show app [x] (o7 [x] n)=_;rw[qB,ih];rfl
def F.mkS(G:F S H0 H L){z:C Z}(hn:n<=m)(hm:m<=16777216)(k:∀H1 r,F S H0 H1 ((r,e,o7 z m)::L)->K (I (D ⟨r,0,Q⟩) n m) H1):ME (Go.Ae.mkS e z (B n) (B m) H) K:=by
 show ME (gd (aD n m&&aD m 16777216&&f)<|D (I (D ⟨H.next,0,Q⟩) n m,H.new<|rowOf e<|o7 z m)) K;rw[aI hn,aI hm];exact k _ _<|G.grow e _
def F.sub(G:F S H0 H L)(h:L'.Sublist L):F S H0 H L':=
 ⟨G.ext,λe he=>G.bk e<|h.mem he,λe he=>G.lo e<|h.mem he,G.ne.sublist h,G.wf⟩
def F.take(G:F S H0 H L)(n:Nat):F S H0 H (L.take n):=G.sub<|List.take_sublist n L
def F.cast(G:F S H0 H L)(h:L=L'):F S H0 H L':=h▸G
def F.to{r:Nat}{cs':C Z}(G:F S H0 H<|(r,ty,M)::L)(h:M=cs'):F S H0 H ((r,ty,cs')::L):=h▸G
def pq(ay:α->Z){l:C α}(hk:k<l.length)(x:α):splice (l.map ay) k [ay x]=(l.set k x).map ay:=by
 apply h_;intro i;rw[qG I6,bF,bF,dG]
 by_cases h:k=i
 .subst h;rw[if_pos ⟨ax _,by simp⟩,if_pos O,if_pos hk,jc];rfl
 .rw[if_neg I6,if_neg h]
end
section
variable{S:C Nat}
def bS(e:aH)(z:C Z)(es n:Nat)(ps:C<|Nat×Z)(H:R):aB (Z×R):=
 gd (aD (bO n es) 16777216) (aL (Eb (λk=>D (bO k es,es)) ps<|o7 z n) λM=>D (I (D ⟨H.next,0,Q⟩) n n,H.new<|rowOf e M))
def bld(pl:C<|Nat×Nat)(z:C Z)(ps:C<|Nat×Z):aB Z:=aL (Eb (nth pl) ps z) λM=>D<|.agg ⟨M⟩
def PU.of{o:aB Z}{K:Z->Prop}(h:o=D v)(k:K v):PU o K:=by rw[h];exact k
def ME.of{o:aB (Z×R)}(h:o=D (v,H))(k:K v H):ME o K:=by rw[h];exact k
def aaF:∀(vs:C Z)(k:Nat)(M:C Z),k+vs.length<=M.length->Gx vs k M=splice M k vs:=by
 intro vs
 induction vs with
 |nil=>
  intro k M h;show M=_;unfold splice;simp
 |cons v vs ih=>
  intro k M h
  have hset:∀(k:Nat)(M:C Z),setAt v k M=M.set k v:=by
   intro k
   induction k with
   |zero=>intro M;cases M<;>rfl
   |succ k ihk=>intro M;cases M with
    |nil=>rfl
    |cons c M=>exact dW (c::·)<|ihk M
  show Gx vs (bW k) (setAt v k M)=_;simp only[cK]at h;rw[hset,ih (k+1) _ I6];apply h_;intro i;rw[qG I6,qG I6,dG]
  by_cases W:i=k
  .subst W;rw[if_neg N,if_pos O,if_pos N,if_pos ⟨ax _,by simp⟩];simp
  .by_cases J:k+1<=i/\i<k+1+vs.length
   .rw[if_pos J,if_pos I6,show i-k=(i-(k+1))+1 by omega];simp
   .rw[if_neg J,if_neg λe=>W e.symm,if_neg (by simp only[cK];omega)]
def nL(M vs:C Z)(h:M.length=vs.length):splice M 0 vs=vs:=by
 unfold splice;rw[mU N];simp
def OK{z:C Z}(hz:z.length=es)(hv:pZ v=f)(hc:(bK v).length=es)(he:es<=16777216):
 bS e z es 1 [(0,v)] H=D (I (D ⟨H.next,0,Q⟩) 1 1,H.new<|rowOf e<|bK v):=by
 have y:o7 z 1=z:=by show app z []=z;rw[qB,bq]
 unfold bS;rw[aI (by show 1*es<=_;omega),y];show(aL (gd (pZ v&&aA (len<|bK v) es&&aD (aZ (bO 0 es) es) (len z))<|D<|Gx (bK v) (bO 0 es) z) λM=>D (I (D ⟨H.next,0,Q⟩) 1 1,H.new<|rowOf e M))=_;have e0:bO 0 es=0:=iQ es;rw[hv,fU,hc,dD,fU,hz,e0];rw[show aD (aZ 0 es) es=f from aI (by show 0+es<=es;omega),aaF _ _ _ N,nL _ _ N];rfl
def vW{r:Nat}{xs:C Z}(h:Bk H r ty xs)(hk:xs.length=k*es):appended H es (I (D ⟨r,0,Q⟩) k c)=D (k,xs):=by
 show(aL (H.read r 0<|bO k es) λl=>D (k,l))=_
 have:H.read r 0 (bO k es)=D xs:=by
  rw[h.read (by show 0+k*es<=_;omega)];simp only[jf];rw[cO (by show xs.length<=k*es;omega)]
 rw[this];rfl
def OL{x:Z}{xs:C Z}(ha:appended H es x=D (k+1,xs))(hk:k+1<=16777216):
 zY e es (I Q 0 0) x H=D (I (D ⟨H.next,0,Q⟩) (k+1)<|fJ es,H.new<|rowOf e xs):=by
 unfold zY;show(aL (appended H es x) λr=>gd (aD r.1 16777216)<|PW (e,es) (I Q 0 0) (Q,0,0) r.1 r.2 H)=_;rw[ha];show gd (aD (k+1) 16777216) _=_;rw[aI hk];rfl
def y_(es:Nat):gH (fJ es)=aC:=by
 show aD (18446744073709551616+es) 9223372036854775807=aC;rw[<-b_];intro h;have:=aF h;omega
theorem OM{r:Nat}{x:Z}{eB xs:C Z}(he:0<es)(hb:Bk H r e<|M++eB)(y:r<H.next)(hn:M.length=n*es)(ha:appended H es x=D (k+1,xs))(E:xs.length=(k+1)*es)(hok:all' fC xs=f)(hk:k+1<=16777216)(hnn:n<=16777216):
 ∃r' T Ef,zY e es (I (D ⟨r,0,Q⟩) n<|fJ es) x H=D (I (D ⟨r',0,Q⟩) (n+(k+1))<|fJ es,T)/\Bk T r' e (M++xs++Ef)/\(r'=r\/r'=H.next)/\r'<T.next/\oN [r] H T/\(T.low<=r):=by
 have hap:zY e es (I (D ⟨r,0,Q⟩) n<|fJ es) x H=tQ (e,es) ⟨r,0,Q⟩ n (fJ es) (k+1) xs H:=by
  unfold zY;show(aL (appended H es x) λq=>gd (aD q.1 16777216)<|PW (e,es) (I (D ⟨r,0,Q⟩) n<|fJ es) (D ⟨r,0,Q⟩,n,fJ es) q.1 q.2 H)=_;rw[ha];show gd (aD (k+1) 16777216) (gd (aD n 16777216)<|bV (gH<|fJ es) _<|gd (aA (fJ es)<|fJ es)<|tQ (e,es) ⟨r,0,Q⟩ n (fJ es) (k+1) xs H)=_;rw[aI hk,aI hnn,y_,dD];rfl
 rw[hap];have⟨az,W,J,h3,h4,h5,h6⟩:=id hb;have hmul:(n+(k+1))*es=n*es+(k+1)*es:=gX ..
 have hlen:(M++eB).length=n*es+eB.length:=by rw[aQ,hn]
 have hun:tQ (e,es) ⟨r,0,Q⟩ n (fJ es) (k+1) xs H=bV (aD (aZ 0<|bO (aZ n<|k+1) es) az.n)
  (aL (H.write r (aZ 0<|bO n es) xs) λT=>D (I (D ⟨r,0,Q⟩) (aZ n<|k+1)<|fJ es,T))
  (gd (aD (aZ 0<|bO n es) az.n&&aD az.fz (aZ 0<|bO n es)&&all' fC xs)
   (D (I (D ⟨H.next,0,Q⟩) (aZ n<|k+1)<|fJ es,
    (H.put r .dead).new (.row ⟨az.ty,Tr.tu top xs (aZ 0<|bO n es) az.cells,aZ 0<|bO (aZ n<|k+1) es,aC,az.fz⟩)))):=by
  unfold tQ;show(aL (vZ<|H.obj r) _)=_;rw[W];show gd (aA az.ty e&&!az.kY) _=_;rw[J,dD,h4];rfl
 rw[hun];have e1:aZ 0 (bO n es)=n*es:=aY _;have e2:aZ 0 (bO (aZ n<|k+1) es)=n*es+(k+1)*es:=(aY _).trans hmul;rw[e1,e2,h3,hlen]
 by_cases hc:n*es+(k+1)*es<=n*es+eB.length
 .rw[aI hc,oz];have⟨H1,w1,w2,w3,w4,w5⟩:=hb.write (o:=n*es) (vs:=xs) (by rw[hlen];omega) hok;rw[w1]
  have hlow:H1.low<=r:=by
   rcases w5 with w5|w5
   .omega
   .
    cases xs with
    |nil=>
     have h0:0<(k+1)*es:=qW N he;rw[<-E]at h0;cases h0
    |cons v vs'=>
     have:H.write r (n*es) (v::vs')=D (H.put r<|.row ⟨az.ty,Tr.tu top (v::vs') (n*es) az.cells,az.n,aC,az.fz⟩):=by
      show(aL (vZ<|H.obj r) λw=>gd (!w.kY&&aD (aZ (n*es)<|len<|v::vs') w.n&&aD w.fz (n*es)&&all' fC (v::vs'))<|D<|H.put r<|.row ⟨w.ty,Tr.tu top (v::vs') (n*es) w.cells,w.n,aC,w.fz⟩)=_;rw[W];show gd (!az.kY&&aD (aZ (n*es)<|len<|v::vs') az.n&&aD az.fz (n*es)&&all' fC (v::vs')) _=_;rw[hok,h4,h3,h5,fU,aI (by show n*es+(v::vs').length<=_;rw[hlen];omega),aI<|bA _];rfl
     rw[this]at w1;cases w1;rw[u_];omega
  refine⟨r,H1,eB.drop xs.length,O,?_,.inl O,N,⟨N,λq _ hq=>w4 q λe=>hq<|by simp[e],λb hl _ hb=>by
   have:=hb r kg;rcases w5 with w5|w5<;>omega,λh=>by rcases w5 with w5|w5<;>omega⟩,hlow⟩
  have:splice (M++eB) (n*es) xs=M++xs++eB.drop xs.length:=by
   unfold splice;rw[<-hn,qi,uE,mU N,bN,iT]
  rw[<-this];exact w2
 .have hb':aD (n*es+(k+1)*es) (n*es+eB.length)=aC:=by
   rw[<-b_];intro h;exact hc<|aF h
  rw[hb',jW,aI (by omega:n*es<=n*es+eB.length),h5,aI<|bA _,hok];refine⟨H.next,_,[],O,?_,.inr O,dM _,⟨iU _,λq hq hn'=>?_,λb hl hn' hb=>?_,λh=>?_⟩,?_⟩
  .refine⟨⟨az.ty,Tr.tu top xs (n*es) az.cells,n*es+(k+1)*es,aC,az.fz⟩,by rw[yg,if_pos (show H.next=(H.put r lI.dead).next from O),h5],J,by simp;omega,rfl,h5,λi hi=>?_⟩;show(Tr.tu top xs (n*es) az.cells).get top i=_;rw[Tr.l_];have hi':i<n*es+(k+1)*es:=by simp at hi;omega
   by_cases hc':n*es<=i/\i<n*es+xs.length
   .rw[if_pos hc',bD,av N];simp only[bq,oq];rw[alList_getElem_append_rightQ N];congr 1;omega
   .rw[if_neg hc'];have hin:i<n*es:=N;rw[h6 i (by rw[hlen];omega)];simp only[bq];rw[iL N,iL N]
  .rw[yg,if_neg (by show q≠H.next;omega),uZ,if_neg λe=>hn'<|by simp[e]]
  .show b<=(H.put r lI.dead).low;rw[u_];have:=hb r kg;omega
  .show(H.put r lI.dead).low<=H.next+1
   rw[u_];omega
  .show(H.put r lI.dead).low<=r;rw[u_];omega
section steps
theorem F.yG(G:F S H0 H L)(ty:aH)(M:C Z):F S H0 (hM H<|(Go.Ae.hN H).new<|rowOf ty M) ((H.next,ty,M)::L):=by
 have E:Ext (Go.Ae.hN H) ((Go.Ae.hN H).new<|rowOf ty M):=Ext.new _ _;refine F.turn (A:=[]) (A':=[(H.next,ty,M)]) G E.draw (λe he=>?_)<|iR _ _;rw[aP]at he;subst he;exact⟨Bk.new (Go.Ae.hN H) ty M,.inr<|ax _,dM _⟩
def F.PL(G:F S H0 H L){z:C Z}(hz:z.length=es)(hv:pZ v=f)(hc:(bK v).length=es)(he:es<=16777216)(k:∀H1 r,F S H0 (hM H H1) ((r,e,bK v)::L)->Ml H H1=cl 5->K (I (D ⟨r,0,Q⟩) 1 1) H1):ME (bS e z es 1 [(0,v)]<|Go.Ae.hN H) K:=by
 rw[OK hz hv hc he];exact k _ _ (G.yG e _)<|xQ<|Ext.new _ _
def F.bS(G:F S H0 H L){z:C Z}(hz:z.length=es)(hv:pZ v=f)(hc:(bK v).length=es)(he:es<=16777216)(k:∀H1 r,F S H0 H1 ((r,e,bK v)::L)->K (I (D ⟨r,0,Q⟩) 1 1) H1):ME (Go.Ae.bS e z es 1 [(0,v)] H) K:=by
 rw[OK hz hv hc he];exact k _ _<|G.grow e _
end steps
end
section
variable{S:C Nat}
def GB(ty:aH)(es:Nat)(v:Z)(M:C Z)(gb:C dL):Prop:=
 (v=I Q 0 0/\M=[]/\gb=[])\/∃r n eB,v=I (D ⟨r,0,Q⟩) n (fJ es)/\M.length=n*es/\gb=[(r,ty,M++eB)]
def GB.nil(ty:aH)(es:Nat):GB ty es (I Q 0 0) [] []:=.inl ⟨O,O,O⟩
section steps
variable{xs:C Z}
def VJ(h:T.low<H.next):DY H T=⟨2,0,0,0,H,T⟩:=by
 show bV (aD H.next T.low) _ _=_;rw[show aD H.next T.low=aC from by rw[<-b_];intro g;have:=aF g;omega];rfl
def GB.app(hg:GB ty es v M gb)(G:F S H0 H<|(rx,ty,xs)::(gb++L))(he:0<es)(E:xs.length=(m+1)*es)(hok:all' fC xs=f)(hm:m+1<=16777216)(hc:M.length<=16777216):
 ∃v' H1 gQ,zY ty es v (I (D ⟨rx,0,Q⟩) (m+1) cx) H=D (v',H1)/\GB ty es v' (M++xs) gQ/\F S H0 H1 (gQ++L)/\oN (gb.map (·.1)) H H1:=by
 have hbx:=G.get 0 O;have ha:=vW (k:=m+1) (c:=cx) hbx E;have hS1:F S H0 H (gb++L):=F.drop (A:=[(rx,ty,xs)]) G;rcases hg with⟨rfl,rfl,rfl⟩|⟨r,n,eB,rfl,hn,rfl⟩
 .refine⟨_,_,[(H.next,ty,xs)],OL ha hm,.inr ⟨H.next,m+1,[],O,E,by simp⟩,hS1.grow ty xs,Ext.new _ _⟩
 .have hb:=hS1.get 0 O;have y:=(hS1.lo _<|aN ..).2
  have hnn:n<=16777216:=by
   have:n*1<=n*es:=gG n he;omega
  have⟨r',H1,Ef,W,J,h3,h4,h5,h6⟩:=OM he hb y hn ha E hok hm hnn;refine⟨_,H1,[(r',ty,M++xs++Ef)],W,.inr ⟨r',n+(m+1),Ef,O,?_,O⟩,?_,h5⟩
  .rw[aQ,hn,E,<-gX]
  .refine F.turn (A:=[(r,ty,M++eB)]) hS1 h5 (λe he'=>?_) (iR _ _);rw[aP]at he';subst he';refine⟨J,?_,h4⟩;rcases h3 with h3|h3
   .exact .inl (by simp[h3])
   .exact .inr (by show H.next<=r';omega)
def GB.add(hg:GB ty es v M gb)(G:F S H0 H<|(rx,ty,xs)::(gb++L))(he:0<es)(E:xs.length=es)(hok:all' fC xs=f)(hc:M.length<=16777216)(k:∀v' H1 gQ,GB ty es v' (M++xs) gQ->F S H0 H1 (gQ++L)->oN (gb.map (·.1)) H H1->K v' H1):ME (zY ty es v (I (D ⟨rx,0,Q⟩) 1 cx) H) K:=by
 have⟨v',H1,gQ,W,J,h3,h4⟩:=hg.app (m:=0) (cx:=cx) G he N hok N hc;rw[W];exact k v' H1 gQ J h3 h4
def F.yh(G:F S H0 H L):F S (Go.Ae.hN H0) (Go.Ae.hN H) L:=
 ⟨⟨G.ext.next,G.ext.obj,λb hl hn _=>a_ hn G.ext.next,λ_=>ax _⟩,G.bk,G.lo,G.ne,ax _⟩
def GB.FM(hg:GB ty es v M gb)(G:F S H0 H<|(rx,ty,xs)::(gb++L))(he:0<es)(E:xs.length=es)(hok:all' fC xs=f)(hc:M.length<=16777216)(k:∀v' H1 gQ,GB ty es v' (M++xs) gQ->F S H0 (hM H H1) (gQ++L)->oN (gb.map (·.1)) H (hM H H1)->(∀r,r<H.next->r∉gb.map (·.1)->H1.obj r=H.obj r)->(DY H H1=cl 1\/DY H H1=⟨2,0,0,0,H,H1⟩)->K v' H1):ME (zY ty es v (I (D ⟨rx,0,Q⟩) 1 cx)<|Go.Ae.hN H) K:=by
 have hS':F [] (Go.Ae.hN H) (Go.Ae.hN H) []:=F.refl<|ax _;have hbx:=G.get 0 O;have ha:appended (Go.Ae.hN H) es (I (D ⟨rx,0,Q⟩) (0+1) cx)=D (0+1,xs):=vW (H:=Go.Ae.hN H) (k:=0+1) hbx N;have hS1:F S H0 H (gb++L):=F.drop (A:=[(rx,ty,xs)]) G
 have hcls:∀H1:R,DY H H1=cl 1\/DY H H1=⟨2,0,0,0,H,H1⟩:=by
  intro H1;show bV (aD H.next H1.low) _ _=_\/bV (aD H.next H1.low) _ _=_;cases aD H.next H1.low with
  |true=>exact .inl O
  |false=>exact .inr O
 rcases hg with⟨rfl,rfl,rfl⟩|⟨r,n,eB,rfl,hn,rfl⟩
 .rw[show zY ty es (I Q 0 0) (I (D ⟨rx,0,Q⟩) 1 cx) (Go.Ae.hN H)=_ from OL ha N];have hx':Ext (Go.Ae.hN H) ((Go.Ae.hN H).new<|rowOf ty xs):=Ext.new _ _;exact k _ _ [(H.next,ty,xs)] (.inr ⟨H.next,1,[],O,by simp;omega,by simp⟩) (hS1.yG ty xs) hx'.draw (λq hq hn'=>hx'.obj q hq kg)<|hcls _
 .have hb:Bk (Go.Ae.hN H) r ty (M++eB):=hS1.get 0 O;have y:=(hS1.lo _<|aN ..).2
  have hnn:n<=16777216:=by
   have:n*1<=n*es:=gG n he;omega
  have⟨r',H1,Ef,W,J,h3,h4,h5,h6⟩:=OM he hb y hn ha N hok N hnn;rw[show zY ty es (I (D ⟨r,0,Q⟩) n<|fJ es) (I (D ⟨rx,0,Q⟩) 1 cx) (Go.Ae.hN H)=_ from W];refine k _ H1 [(r',ty,M++xs++Ef)] (.inr ⟨r',n+(0+1),Ef,O,?_,O⟩) ?_ h5.draw (λq hq hn'=>h5.obj q hq hn')<|hcls _
  .rw[aQ,hn,E,gX];omega
  .refine F.turn (A:=[(r,ty,M++eB)]) hS1 h5.draw (λe he'=>?_) (iR _ _);rw[aP]at he';subst he';refine⟨J,?_,h4⟩;rcases h3 with h3|h3
   .exact .inl (by simp[h3])
   .exact .inr (by show H.next<=r';rw[h3];exact ax _)
def GB.fl(hg:GB ty es v M gb)(G:F S H0 H<|gb++L):∃a n c,v=I a n c/\M.length=n*es/\Fl H a n es M:=by
 rcases hg with⟨rfl,rfl,rfl⟩|⟨r,n,eB,rfl,hn,rfl⟩
 .exact⟨Q,0,0,O,by simp,Fl.nil _ _ _⟩
 .refine⟨_,n,_,O,hn,hn,λi x hi=>⟨r,0,rfl,(G.lo _<|aN ..).2,?_⟩⟩;rw[aY];refine(G.get 0 O).cell ?_;rw[bM (bE.1 hi).1];exact hi
def GB.fC(hg:GB ty es v M gb):all' Go.Ae.fC (bK v)=f/\(bK v).length=1/\bK v=[v]:=by
 rcases hg with⟨rfl,_,_⟩|⟨r,n,eB,rfl,_,_⟩<;>exact⟨O,O,O⟩
end steps
def ze{A vn:R}{r off:Nat}(ha:A.read r off n=D vs)(hb:vn.read r off n=D vs)(hs:Fx vs vs=f):sameAt A vn r off n=f:=by
 unfold sameAt;rw[ha,hb];show qo (gd (Fx vs vs)<|D ())=f;rw[hs];rfl
end
section bin
variable{P:aU}{a b:Int}{k:fB}
end bin
def aaG:∀(a b:C UInt8),u8L a=u8L b->a=b:=by
 intro a
 induction a with
 |nil=>intro b h;cases b with
  |nil=>rfl
  |cons hr b=>cases h
 |cons x a ih=>intro b h;cases b with
  |nil=>cases h
  |cons hr b=>
   have W:x.toNat=hr.toNat:=(jJ h).1;have J:u8L a=u8L b:=(jJ h).2;rw[ih b J,UInt8.toNat_inj.1 W]
theorem QJ:∀(a b:C Nat),JW a b=f<->a=b:=by
 intro a
 induction a with
 |nil=>intro b;cases b with
  |nil=>exact⟨λ_=>rfl,λ_=>rfl⟩
  |cons hr b=>exact⟨(λh=>by cases h),(λh=>by cases h)⟩
 |cons x a ih=>intro b;cases b with
  |nil=>exact⟨(λh=>by cases h),(λh=>by cases h)⟩
  |cons hr b=>
   show bV (aA x hr) (JW a b) aC=f<->_
   by_cases e:x=hr
   .subst e;rw[dD,oz,ih];simp
   .rw[show aA x hr=aC from by rw[<-b_];exactλg=>e<|aW g,jW];simp[e]
def Nr(a b:aV):rG a b=decide (a=b):=by
 rw[gm,decide_eq_true_iff];unfold rG;rw[QJ];constructor
 .intro h;have:=aaG _ _ h;have⟨⟨x⟩⟩:=a;have⟨⟨hr⟩⟩:=b;exact dW (λl=>dh<|Array.mk l) this
 .intro h;rw[h]
section bin
variable{P:aU}
def Ns(a b:aV):lY P .eql t ox oy (.string a) (.string b)=D (.bool<|decide<|a=b):=by
 show D (gI<|rG a b)=_;rw[Nr]
def Nt(a b:aV):lY P .neq t ox oy (.string a) (.string b)=D (.bool<|!decide (a=b)):=by
 show D (gI<|!(rG a b))=_;rw[Nr]
end bin
def part(s:aV)(lo hi:Nat):aV:=⟨⟨(s.data.toList.drop lo).take<|hi-lo⟩⟩
def p8(s:aV)(h:lo<=hi)(J:hi<=s.size):(part s lo hi).size=hi-lo:=by
 show((s.data.toList.drop lo).take<|hi-lo).length=_;have:s.data.toList.length=s.size:=rfl;simp;omega
def CZ{s:aV}(h:lo<=hi)(J:hi<=s.size):slT (.string s) (D<|B lo) (D<|B hi) Q=D (.string<|part s lo hi):=by
 show gd (aD lo hi&&aD hi (len s.data.toList)) (D<|fT ⟨⟨tk (dJ hi lo)<|dp lo s.data.toList⟩⟩)=_;rw[fU,aI h,aI (show hi<=s.data.toList.length from J),HY,ML];rfl
def AL{s:aV}(h:lo<=s.size):slT (.string s) (D<|B lo) Q Q=D (.string<|part s lo s.size):=by
 show gd (aD lo (len s.data.toList)&&aD (len s.data.toList) (len s.data.toList)) (D<|fT ⟨⟨tk (dJ (len s.data.toList) lo)<|dp lo s.data.toList⟩⟩)=_;rw[fU,aI (show lo<=s.data.toList.length from h),aI<|ax _,HY,ML];rfl
def ahp{s:aV}(J:hi<=s.size):slT (.string s) Q (D<|B hi) Q=D (.string<|part s 0 hi):=by
 show gd (aD 0 hi&&aD hi (len s.data.toList)) (D<|fT ⟨⟨tk (dJ hi 0)<|dp 0 s.data.toList⟩⟩)=_;rw[fU,aI<|bA _,aI (show hi<=s.data.toList.length from J),HY,ML];rfl
def vI{s:aV}(h:k<s.size):∃c:UInt8,idS (.string s) (B k)=D (.int .u8 (c.toNat:Int)):=⟨_,sZ h⟩
def cvI(k:fB)(x:Z):aB Z:=@aM (fB×Int) (λ_=>aB Z) (aL (uj x) λb=>gd aC<|D<|.string b) (λa=>D<|.int k<|oC k a.2)<|tL x
def cvT(x:Z):aB Z:=@aM (fB×Int) (λ_=>aB Z) (aL (uj x) λb=>gd f<|D<|.string b) (λa=>D<|.string<|Utf8.encode a.2)<|tL x
def JC(k k':fB)(a:Int):cvI k (.int k' a)=D (.int k<|oC k a):=rfl
def VK(k:fB)(a:Int):cvT (.int k a)=D (.string<|Utf8.encode a):=rfl
def VL(s:aV):cvT (.string s)=D (.string s):=rfl
def ahq(vs:C Z)(i:Nat):uU (.tuple ⟨vs⟩) i=vs[i]?:=oL vs i
section
variable{S:C Nat}
def aT[Decidable p](W:p->A)(J:¬p->vn):xD (D<|decide p) A vn:=by
 by_cases h:p
 .rw[bL h];exact W h
 .rw[dB h];exact J h
def dN[Decidable p](W:¬p->A)(J:p->vn):xD (D<|!decide p) A vn:=by
 by_cases h:p
 .rw[bL h];exact J h
 .rw[dB h];exact W h
def mF[Decidable p](J:¬p->vn)(W:p->A):xD (D<|decide p) A vn:=aT W J
def gF(W:b=f->A)(J:b=aC->vn):xD (D b) A vn:=by
 cases b with
 |true=>exact W O
 |false=>exact J O
def aej(k:fB)(a b:Int):Int:=k.wrap<|BitVec.toNat<|lq k.bits a&&&lq k.bits b
def bOr(k:fB)(a b:Int):Int:=k.wrap<|BitVec.toNat<|lq k.bits a|||lq k.bits b
def aek(k:fB)(a b:Int):Int:=k.wrap<|BitVec.toNat<|lq k.bits a&&&~~~lq k.bits b
def OO(k:fB)(a b:Int):Int:=k.wrap<|a*2^min b.toNat k.bits
def EI(k:fB)(a b:Int):Int:=a.fdiv<|2^min b.toNat k.bits
section bits
variable{P:aU}{a b:Int}{k:fB}
def Nu:lY P .and t ox oy (.int k a) (.int k b)=D (.int k<|aej k a b):=lZ O O
def QK:lY P .or t ox oy (.int k a) (.int k b)=D (.int k<|bOr k a b):=lZ O O
def FN:lY P .andNot t ox oy (.int k a) (.int k b)=D (.int k<|aek k a b):=lZ O O
def AM(h:0<=b):lY P .shl t ox oy (.int k a) (.int .u64 b)=D (.int k<|OO k a b):=by
 show j3 (Op.shift .shl k a .u64 b)=_;unfold Op.shift;rw[if_neg N];rfl
def vX(h:0<=b):lY P .shr t ox oy (.int k a) (.int .u64 b)=D (.int k<|EI k a b):=by
 show j3 (Op.shift .shr k a .u64 b)=_;unfold Op.shift;rw[if_neg N];rfl
def KB:lY P .shl t ox oy (.int k a) (.int .u64 4)=D (.int k<|OO k a 4):=AM mO
def KC:lY P .shl t ox oy (.int k a) (.int .u64 6)=D (.int k<|OO k a 6):=AM mO
def Io:lY P .shl t ox oy (.int k a) (.int .u64 12)=D (.int k<|OO k a 12):=AM mO
def Ip:lY P .shl t ox oy (.int k a) (.int .u64 18)=D (.int k<|OO k a 18):=AM mO
def Iq:lY P .shl t ox oy (.int k a) (.int .u64 31)=D (.int k<|OO k a 31):=AM mO
def KE:lY P .shr t ox oy (.int k a) (.int .u64 4)=D (.int k<|EI k a 4):=vX mO
def KF:lY P .shr t ox oy (.int k a) (.int .u64 6)=D (.int k<|EI k a 6):=vX mO
def Ir:lY P .shr t ox oy (.int k a) (.int .u64 12)=D (.int k<|EI k a 12):=vX mO
def Iu:lY P .shr t ox oy (.int k a) (.int .u64 18)=D (.int k<|EI k a 18):=vX mO
def Iv:lY P .shr t ox oy (.int k a) (.int .u64 31)=D (.int k<|EI k a 31):=vX mO
end bits
def aaH{r:Nat}(h:k<n):idR n es (.pointer<|D ⟨r,o,Q⟩) (.int kk (k:Int))=D (.pointer<|D ⟨r,o+k*es,Q⟩):=by
 show gd (aD (bW k) n) (D<|uy<|D ⟨r,aZ o<|bO k es,Q⟩)=_;rw[aI h];rfl
section ar
variable{P:aU}{a b:Int}
def Iw:lY P .add t ox oy (.int .u8 a) (.int .u8 b)=D (.int .u8<|oC .u8<|a+b):=lZ O O
def FO:lY P .add t ox oy (.int .i32 a) (.int .i32 b)=D (.int .i32<|oC .i32<|a+b):=lZ O O
def Iy:lY P .sub t ox oy (.int .u8 a) (.int .u8 b)=D (.int .u8<|oC .u8<|a-b):=lZ O O
def FP:lY P .sub t ox oy (.int .i32 a) (.int .i32 b)=D (.int .i32<|oC .i32<|a-b):=lZ O O
def Iz:lY P .mul t ox oy (.int .u8 a) (.int .u8 b)=D (.int .u8<|oC .u8<|a*b):=lZ O O
def FQ:lY P .mul t ox oy (.int .i32 a) (.int .i32 b)=D (.int .i32<|oC .i32<|a*b):=lZ O O
end ar
def xF{t:Nat}{v:Z}{l:C (Nat×Z)}:Bc ((t,v)::l) t=v:=by
 show Go.Ae.look ((t,v)::l) t=v;rw[DR,if_pos O]
def BK{d t:Nat}{v:Z}{l:C (Nat×Z)}(h:(d==t)=aC):Bc ((d,v)::l) t=Bc l t:=by
 show Go.Ae.look ((d,v)::l) t=Go.Ae.look l t;rw[DR,if_neg<|mg h]
section quiet
def F.Mm(G:F S H0 H L)(i:Nat){r:Nat}(hi:L[i]?=D (r,ty,M))(hv:M[o]?=D v)(k:K v<|Go.Ae.hN H):ME (vH Q (.pointer<|D ⟨r,o,Q⟩)<|Go.Ae.hN H) K:=
 ME.ld (H:=Go.Ae.hN H) ((G.get i hi).cell hv) k
def F.KH(G:F S H0 H L)(i:Nat){r:Nat}(hi:L[i]?=D (r,ty,M))(hn:o+n<=M.length)(k:K (.agg ⟨(M.drop o).take n⟩)<|Go.Ae.hN H):ME (vH (D n) (.pointer<|D ⟨r,o,Q⟩)<|Go.Ae.hN H) K:=
 ME.rZ (H:=Go.Ae.hN H) ((G.get i hi).read hn) k
def F.GU(G:F [] H0 H L){r:Nat}(h:H0.cell r o=D v)(y:r<H0.next)(k:K v<|Go.Ae.hN H):ME (vH Q (.pointer<|D ⟨r,o,Q⟩)<|Go.Ae.hN H) K:=
 ME.ld (H:=Go.Ae.hN H) ((G.old y).trans h) k
end quiet
section mem
variable{P:aU}{X:Xt}
def gtW(a:Code)(az:Nat->Nat->St->Prop)(n:Nat)(K:Out->Prop):Out->Prop:=λo=>
 @Out.rec (λ_=>Prop) False (λs=>K<|.norm s) (λi s=>K<|.exit i s) (λl s=>@aM Code (λ_=>Prop) (K<|.goto l s) (λ_=>∃m,m<n/\az m l s)<|findLabel a l) (λs=>K<|.ret s) o
def aaI{a:Code}{az:Nat->Nat->St->Prop}{K:Out->Prop}{s:St}:gtW a az n K (.norm s)=K (.norm s):=rfl
def JD{a:Code}{az:Nat->Nat->St->Prop}{K:Out->Prop}{s:St}:gtW a az n K (.ret s)=K (.ret s):=rfl
def KI{a rest:Code}{az:Nat->Nat->St->Prop}{l:Nat}{K:Out->Prop}{s:St}(h:findLabel a l=D rest):gtW a az n K (.goto l s)=∃m,m<n/\az m l s:=by
 show(@aM Code (λ_=>Prop) _ _<|findLabel a l)=_;rw[h]
def ScP(P:aU)(X:Xt)(a:Code)(o:Out)(K:Out->Prop):Prop:=∃k o1 o2,nR (lv P X k).cx k a o=o1/\o1≠.fail/\Bb o1 o2/\K o2
def aaJ{a:Code}{K:Out->Prop}{az:Nat->Nat->St->Prop}(h:∀n l s rest,az n l s->findLabel a l=D rest->gK P X rest s (gtW a az n K)):
 ∀n o o',Bb o o'->o≠.fail->gtW a az n K o'->ScP P X a o K:=by
 intro n
 induction n using Nat.strongRecOn with
 |_ n ih=>
  intro o o' he hne hg;cases he with
  |fail=>exact absurd O hne
  |norm he=>exact⟨1,.norm _,_,O,(nofun),.norm he,hg⟩
  |exit i he=>exact⟨1,.exit i _,_,O,(nofun),.exit i he,hg⟩
  |ret he=>exact⟨1,.ret _,_,O,(nofun),.ret he,hg⟩
  |goto l he=>
   rename_i s s';cases hf:findLabel a l with
   |none=>
    have hg':K (.goto l s'):=by
     have:(@aM Code (λ_=>Prop) (K<|.goto l s') (λ_=>∃m,m<n/\az m l s')<|findLabel a l):=hg;rw[hf]at this;exact this
    refine⟨1,.goto l s,_,?_,by simp,.goto l he,hg'⟩;show(@aM Code (λ_=>Out) (.goto l s) _<|findLabel a l)=_;rw[hf]
   |some rest=>
    rw[KI hf]at hg;have⟨m,hm,hR⟩:=hg;have⟨o1,o1',W,J,h3⟩:=gK.alike he<|h m l s' rest hR hf;have⟨n1,k1,W⟩:=W;have⟨k2,o3,o4,h4,h5,h6,h7⟩:=ih m hm o1 o1' J n1 h3;refine⟨max k1 k2+1,o3,o4,?_,h5,h6,h7⟩;show(@aM Code (λ_=>Out) (.goto l s) (λrest=>nR (lv P X<|max k1 k2+1).cx (max k1 k2) a<|(lv P X<|max k1 k2+1).cx rest s)<|findLabel a l)=o3;rw[hf];show nR (lv P X<|max k1 k2+1).cx (max k1 k2) a (FK P X (max k1 k2) rest s)=o3;rw[BD W n1 (nC _ _),<-h4];have E:aaq (lv P X k2).cx (lv P X<|max k1 k2+1).cx:=(yR k2 _ N).2;refine CU E a k2 _ (ko _ _) o1 ?_;rw[h4];exact h5
def gK.scope{a:Code}{K:Out->Prop}{s:St}(az:Nat->Nat->St->Prop)(h:∀n l s rest,az n l s->findLabel a l=D rest->gK P X rest s (gtW a az n K))(n:Nat)(h0:gK P X a s<|gtW a az n K):gK P X (.scope a) s K:=by
 have⟨o,o',W,J,h3⟩:=h0;have⟨n1,k1,W⟩:=W;have⟨k2,o3,o4,h4,h5,h6,h7⟩:=aaJ h n o o' J n1 h3;refine⟨o3,o4,⟨h5,max k1 k2,?_⟩,h6,h7⟩;show nR (lv P X<|max k1 k2).cx (max k1 k2) a (FK P X (max k1 k2) a s)=o3;rw[BD W n1 (nC _ _),<-h4];refine CU (yR k2 _<|ko _ _).2 a k2 _ (ko _ _) o ?_;rw[h4];exact h5
end mem
end
def ael{r:Nat}(h0:0<=z)(h:z<n):zN es (I (D ⟨r,o,Q⟩) n c) (vi z)=D (.pointer<|D ⟨r,o+z.toNat*es,Q⟩):=by
 obtain⟨k,rfl⟩:∃k:Nat,z=k:=⟨z.toNat,N⟩;exact tX N
section bin
variable{P:aU}{a b:Int}
def FT(ha:0<=a)(hb:0<b)(h:a<=9223372036854775807):lY P .quo t ox oy (vi a) (vi b)=D (vi<|a/b):=lZ O (by
 show j3 (Op.intDiv .quo .i64 a b)=_;unfold Op.intDiv;rw[if_neg N];show D (bX .i64<|IntKind.i64.wrap<|a.tdiv b)=_;have W:a.tdiv b=a/b:=Int.tdiv_eq_ediv_of_nonneg ha;have J:0<=a/b:=Int.ediv_nonneg ha N;have h3:a/b<=a:=Int.ediv_le_self b ha;rw[W];have:IntKind.i64.wrap (a/b)=a/b:=IntWalk.i64_in _ N;rw[this])
def PU.quo{K:Z->Prop}(ha:0<=a)(hb:0<b)(h:a<=9223372036854775807)(k:∀q:Int,0<=q->b*q<=a->a<b*q+b->K (vi q)):PU (lY P .quo t ox oy (vi a)<|vi b) K:=by
 rw[FT ha hb h];have W:=Int.mul_ediv_add_emod a b;have J:=Int.emod_nonneg a (show b≠0 by omega);have h3:=Int.emod_lt_of_pos a hb;exact k (a/b) (Int.ediv_nonneg ha N) N N
end bin
def F.stQ(G:F [] H0 H L)(i:Nat){r:Nat}(hi:L[i]?=D (r,ty,M))(hl:(bK v).length=n)(hn:o+n<=M.length)(hk:all' fC (bK v)=f)(k:∀H1,F [] H0 (hM H H1) (L.set i (r,ty,splice M o<|bK v))->K undef H1):ME (CW n (.pointer<|D ⟨r,o,Q⟩) v<|Go.Ae.hN H) K:=by
 have⟨H1,W,J,h3⟩:=G.yh.zZ (vs:=bK v) (o:=o) i hi N hk;show ME (gd (aA (len<|bK v) n)<|aL ((Go.Ae.hN H).write r o<|bK v) λT=>D (undef,T)) K;rw[fU,hl,dD,W];refine k H1 ⟨G.ext.later h3.draw λq hq=>.inr ?_,λe he=>(J.bk e he).jb O,J.lo,J.ne,h3.draw.wf G.wf⟩;rw[aP]at hq;subst hq;exact G.wQ<|aS hi
def El(M:C Z)(es k:Nat):C Z:=(M.drop<|k*es).take es
def mR(M:C Z)(es k i:Nat):(El M es k)[i]?=if i<es then M[k*es+i]? else Q:=by
 unfold El;rw[iW];split
 .rw[pK]
 .rfl
theorem Nv(hv:vs.length=es)(h:k*es+es<=M.length)(k':Nat):El (splice M (k*es) vs) es k'=if k'=k then vs else El M es k':=by
 apply h_;intro i;rw[mR]
 by_cases hi:i<es
 .rw[if_pos hi,qG N]
  by_cases hk:k'=k
  .subst hk;rw[if_pos N,if_pos O,iT]
  .rw[if_neg hk,mR,if_pos hi,if_neg];rintro⟨W,J⟩;rcases cr k' k with h3|h3
   .have:(k'+1)*es<=k*es:=eY es h3;rw[gX]at this;omega
   .have:(k+1)*es<=k'*es:=eY es N;rw[gX]at this;omega
 .rw[if_neg hi];split
  .symm;exact fE N
  .rw[mR,if_neg hi]
def SB(P:C Z->Prop)(r:Nat)(ty:aH)(es n:Nat)(H0 H:R)(L:C dL):Prop:=∃M,n*es<=M.length/\(∀k,k<n->P (El M es k))/\F [] H0 H ((r,ty,M)::L)
section steps
variable{P:C Z->Prop}{r:Nat}
def SB.wf(h:SB P r ty es n H0 H L):Wf H:=by have⟨_,_,_,G⟩:=h;exact G.wf
def SB.ext(h:SB P r ty es n H0 H L):Ext H0 H:=by have⟨_,_,_,G⟩:=h;exact G.ext
def SB.call(h:SB P r ty es n H0 H L)(E:Ext H T):SB P r ty es n H0 T L:=by have⟨M,W,J,G⟩:=h;exact⟨M,W,J,G.call E⟩
def SB.new(h:SB P r ty es n H0 H L){z:C Z}(k:∀H1 q,SB P r ty es n H0 H1 ((q,t2,z)::L)->K (.pointer<|D ⟨q,0,Q⟩) H1):ME (iX t2 z H) K:=by
 have⟨M,W,J,G⟩:=h;exact G.iX λH1 q G=>k H1 q ⟨M,W,J,G.perm<|gq _ _ _⟩
def SB.ld(h:SB P r ty es n H0 H L)(i:Nat)(hi:L[i]?=D (q,t2,M))(hv:M[o]?=D v)(k:K v H):ME (vH Q (.pointer<|D ⟨q,o,Q⟩) H) K:=by
 have⟨M,W,J,G⟩:=h;exact G.ld (i+1) (by rw[dZ];exact hi) hv k
def SB.Mm(h:SB P r ty es n H0 H L)(i:Nat)(hi:L[i]?=D (q,t2,M))(hv:M[o]?=D v)(k:K v<|Go.Ae.hN H):ME (vH Q (.pointer<|D ⟨q,o,Q⟩)<|Go.Ae.hN H) K:=by
 have⟨M,W,J,G⟩:=h;exact G.Mm (i+1) (by rw[dZ];exact hi) hv k
def SB.st(h:SB P r ty es n H0 H L)(i:Nat)(hi:L[i]?=D (q,t2,M))(hl:(bK v).length=m)(hn:o+m<=M.length)(hk:all' fC (bK v)=f)(k:∀H1,SB P r ty es n H0 H1 (L.set i (q,t2,splice M o<|bK v))->K undef H1):ME (CW m (.pointer<|D ⟨q,o,Q⟩) v H) K:=by
 have⟨ds,W,J,G⟩:=h;exact G.st (i+1) (by rw[dZ];exact hi) hl hn hk λH1 G=>k H1 ⟨ds,W,J,G⟩
def SB.row(h:SB P r ty es n H0 H L)(hk:k<n):∃M,F [] H0 H ((r,ty,M)::L)/\P (El M es k)/\k*es+es<=M.length:=by
 have⟨M,W,J,G⟩:=h;refine⟨M,G,J k hk,?_⟩;have:(k+1)*es<=n*es:=eY es hk;rw[gX]at this;omega
def SB.e1(h:SB P r ty 1 n H0 H L)(h0:0<=z)(hz:z<n)(k:∀v,P [v]->K v H):ME (vH Q (.pointer<|D ⟨r,z.toNat*1,Q⟩) H) K:=by
 have⟨M,G,hp,hl⟩:=h.row (k:=z.toNat) N;have hlt:z.toNat<M.length:=N;refine G.ld 0 O (v:=M[z.toNat]) (by rw[dz];exact av hlt)<|k _ ?_
 have:El M 1 z.toNat=[M[z.toNat]]:=by
  unfold El;rw[dz,dY hlt];rfl
 rw[<-this];exact hp
def SB.yh(h:SB P r ty es n H0 H L):SB P r ty es n (Go.Ae.hN H0) (Go.Ae.hN H) L:=by have⟨M,W,J,G⟩:=h;exact⟨M,W,J,G.yh⟩
def SB.e1Q(h:SB P r ty 1 n H0 H L)(h0:0<=z)(hz:z<n)(k:∀v,P [v]->K v (Go.Ae.hN H)):ME (vH Q (.pointer<|D ⟨r,z.toNat*1,Q⟩)<|Go.Ae.hN H) K:=h.yh.e1 h0 hz k
def SB.em(h:SB P r ty es n H0 H L)(h0:0<=z)(hz:z<n)(k:∀l,P l->K (.agg ⟨l⟩) H):ME (vH (D es) (.pointer<|D ⟨r,z.toNat*es,Q⟩) H) K:=by
 have⟨M,G,hp,hl⟩:=h.row (k:=z.toNat) N;exact G.rZ 0 O N<|k _ hp
theorem SB.w(h:SB P r ty es n H0 H L)(h0:0<=z)(hz:z<n)(hp:P<|bK v)(hl:(bK v).length=es)(hk:all' fC (bK v)=f)(k:∀H1,SB P r ty es n H0 H1 L->K undef H1):
 ME (CW es (.pointer<|D ⟨r,z.toNat*es,Q⟩) v H) K:=by
 have⟨M,W,J,G⟩:=h
 have hle:z.toNat*es+es<=M.length:=by
  have:(z.toNat+1)*es<=n*es:=eY es N;rw[gX]at this;omega
 refine G.st 0 O hl N hk λH1 G=>k H1 ⟨splice M (z.toNat*es)<|bK v,?_,λj hj=>?_,?_⟩
 .rw[mq N];exact W
 .rw[Nv hl hle];split
  .exact hp
  .exact J j hj
 .exact G
def GV(au:Int->Prop)(l:C Z):Prop:=∃z:Int,l=[vi z]/\au z
def SB.i1(h:SB (GV au) r ty 1 n H0 H L)(h0:0<=z)(hz:z<n)(k:∀x,au x->K (vi x) H):ME (vH Q (.pointer<|D ⟨r,z.toNat*1,Q⟩) H) K:=
 h.e1 h0 hz λv ⟨x,E,hq⟩=>by cases E;exact k x hq
def SB.i1Q(h:SB (GV au) r ty 1 n H0 H L)(h0:0<=z)(hz:z<n)(k:∀x,au x->K (vi x) (Go.Ae.hN H)):ME (vH Q (.pointer<|D ⟨r,z.toNat*1,Q⟩)<|Go.Ae.hN H) K:=
 h.e1Q h0 hz λv ⟨x,E,hq⟩=>by cases E;exact k x hq
def SB.iw(h:SB (GV au) r ty 1 n H0 H L)(h0:0<=z)(hz:z<n){x:Int}(E:au x)(k:∀H1,SB (GV au) r ty 1 n H0 H1 L->K undef H1):ME (CW 1 (.pointer<|D ⟨r,z.toNat*1,Q⟩) (vi x) H) K:=
 h.w h0 hz ⟨x,rfl,E⟩ rfl rfl k
end steps
def gK.vg{P:aU}{X:Xt}{c:Code}{s:St}{K:Out->Prop}(h:∀K',K'=K->gK P X c s K'):gK P X c s K:=h K O
def FU{K:Out->Prop}{s:St}{i j:Nat}(h:(j==i)=aC):sw i K (.exit j s)=K (.exit j s):=Qx<|mg h
def nU.mono{P:aU}{X:Xt}{q:aB (FuncId×C Z×C Z)}(h:nU P X q args H K)(hk:∀v T,K v T->K' v T):nU P X q args H K':=by
 cases q with
 |none=>exact h
 |some q=>exact aO.mono h hk
section bin
variable{P:aU}{a b:Int}{k k2:fB}
end bin
def C4{k:fB}{n:Int}(h:k.wrap n=n):oC k n=n:=by rw[J6,h]
def u64_in{n:Int}(h:0<=n/\n<18446744073709551616):IntKind.u64.wrap n=n:=by
 show n %18446744073709551616=n;omega
def u8_in{n:Int}(h:0<=n/\n<256):IntKind.u8.wrap n=n:=by
 show n %256=n;omega
def VM{k:fB}{a:Int}(h:n<=32)(J:32<=k.bits):EI k a (n:Int)=a.fdiv ((2^n:Nat):Int):=by
 unfold EI;have:min ((n:Int).toNat) k.bits=n:=N;rw[this];simp
def ahr(s:aV):Bool:=(f_ 256).all λk=>match s.data.toList[k]? with
 |none=>aC
 |some t=>aD t.toNat 8&&aD (2^t.toNat) (2*k+(if k=0 then 1 else 0))
def PU.ahr{s:aV}{hr:Int}{K:Z->Prop}(ht:Go.Ae.ahr s=f)(h0:0<=hr)(W:hr<256)(h:∀t:Nat,t<=8->(1<=hr->((2^t:Nat):Int)<=2*hr)->K (.int .u8 (t:Int))):PU (idS (.string s)<|.int .u8 hr) K:=by
 obtain⟨k,rfl⟩:∃k:Nat,hr=k:=⟨hr.toNat,N⟩;have hk:k<256:=N;have:=eG.1 ht k<|my.2 hk;show PU (aL (nth s.data.toList k) λb=>D<|bX .u8<|.ofNat b.toNat) K;rw[oL]
 revert this
 cases s.data.toList[k]? with
 |none=>intro h;cases h
 |some t=>
  intro J;simp only[bg]at J;have h3:=aF J.1;have h4:=aF J.2
  exact h t.toNat h3 λh5=>by
   rw[if_neg N]at h4;omega
section steps
variable{P:C Z->Prop}{r:Nat}
def SB.nH(h:SB P r ty es n H0 H L)(E:Ext (Go.Ae.hN H) T):SB P r ty es n H0 (hM H T) L:=by have⟨M,W,J,G⟩:=h;exact⟨M,W,J,G.nH E⟩
def SB.stQ(h:SB P r ty es n H0 H L)(i:Nat)(hi:L[i]?=D (q,t2,M))(hl:(bK v).length=m)(hn:o+m<=M.length)(hk:all' fC (bK v)=f)(k:∀H1,SB P r ty es n H0 (hM H H1) (L.set i (q,t2,splice M o<|bK v))->K undef H1):ME (CW m (.pointer<|D ⟨q,o,Q⟩) v<|Go.Ae.hN H) K:=by
 have⟨ds,W,J,G⟩:=h;exact G.stQ (i+1) (by rw[dZ];exact hi) hl hn hk λH1 G=>k H1 ⟨ds,W,J,G⟩
def SB.drop{b:dL}(h:SB P r ty es n H0 H<|b::L):SB P r ty es n H0 H L:=by
 have⟨M,g1,g2,G⟩:=h;exact⟨M,g1,g2,F.drop (A:=[_])<|G.perm<|gq _ _ _⟩
end steps
def QL(l:C Z):Prop:=∃a b:Int,l=[.int .i32 a,.int .i32 b]
def SB.r1{r:Nat}(h:SB QL r ty 2 n H0 H L)(h0:0<=z)(hz:z<n)(k:∀a b,K (.agg ⟨[.int .i32 a,.int .i32 b]⟩) H):ME (vH (D 2) (.pointer<|D ⟨r,z.toNat*2,Q⟩) H) K:=
 h.em h0 hz λl hl=>by obtain⟨a,b,rfl⟩:=hl;exact k a b
def SB.rw'{r:Nat}(h:SB QL r ty 2 n H0 H L)(h0:0<=z)(hz:z<n){a b:Int}(k:∀H1,SB QL r ty 2 n H0 H1 L->K undef H1):ME (CW 2 (.pointer<|D ⟨r,z.toNat*2,Q⟩) (.agg ⟨[.int .i32 a,.int .i32 b]⟩) H) K:=
 h.w h0 hz ⟨a,b,rfl⟩ rfl rfl k
def DZ:C Nat:=aX 128 240++(aX 66 241++(aX 30 2++(19::(aX 12 3++([35,3,3,52,4,4,4,68]++aX 11 241)))))
def Jb:C Nat:=[128,191,160,191,128,159,144,191,128,143,0,0,0,0,0,0,0,0,0,0,0,0,0,0,0,0,0,0,0,0,0,0]
def BL(H:R):Prop:=3<=H.next/\∃t1 t2,H.obj 1=vO t1 .u8 DZ/\H.obj 2=vO t2 .u8 Jb
def BL.ex(h:BL H)(E:Ext H T):BL T:=by
 have⟨h0,t1,t2,W,J⟩:=h;exact⟨a_ h0 E.next,t1,t2,(E.obj 1 N kg).trans W,(E.obj 2 N kg).trans J⟩
open Classical in
def orT(args:C Z)(H:R):aB (Z×R):=if args=[]/\BL H then D (.bool f,H)else Q
def ahs(h:BL H):orT [] H=D (.bool f,H):=by unfold orT;rw[if_pos ⟨rfl,h⟩]
def aht(h:orT args H=D (v,T)):args=[]/\BL H/\v=.bool f/\T=H:=by
 unfold orT at h;split at h
 .next hc=>cases h;exact⟨hc.1,hc.2,O,O⟩
 .cases h
def aaK{k:fB}{r z:Nat}(h:H.obj r=vO ty k l)(hz:l[i]?=D z):H.cell r i=D (.int k (z:Int)):=by
 have hi:i<l.length:=(bE.1 hz).1;unfold R.cell;rw[h];show gd (aD (bW i)<|len l) (D<|(Tr.tu top (mp (λn=>bX k<|Int.ofNat n) l) 0 .nil).get top i)=_;rw[fU,aI hi,zR,Tr.l_,Fs,if_pos I6,bD,jG,bF,hz];rfl
def X3{k:fB}{r x hr:Nat}(h:H.obj r=vO ty k l)(E:l[i]?=D x)(hy:l[i+1]?=D hr):H.read r i 2=D [.int k (x:Int),.int k (hr:Int)]:=by
 have hi:i+1<l.length:=(bE.1 hy).1;show(aL (vZ<|H.obj r) λw=>gd (aD (aZ i 2) w.n)<|D<|Tr.Ep top w.cells i 2)=_;rw[h];show gd (aD (i+2)<|len l) (D<|Tr.Ep top (Tr.tu top (mp (λn=>bX k<|Int.ofNat n) l) 0 .nil) i 2)=_;rw[fU,aI hi,zR,Tr.xU,Tr.xU,Tr.Cz,Tr.l_,Tr.l_,Fs,if_pos I6,if_pos I6,bD,bD,jG,jG,bF,bF,E,hy];rfl
section
variable{S:C Nat}
def X4(t:Tr Z):∀(n k:Nat)(M:C Z),M.length=n->(∀i(h:i<M.length),t.get top (k+i)=M[i])->Tr.Ep top t k n=M:=by
 intro n
 induction n with
 |zero=>intro k M h _;rw[Tr.Cz];exact(dR.1 h).symm
 |succ n ih=>
  intro k M h hc;cases M with
  |nil=>cases h
  |cons x M=>
   rw[Tr.xU,ih (k+1) M (mg h) (λi hi=>by
    have:=hc (i+1)<|mg hi;rw[show k+1+i=k+(i+1) by omega,this];rfl)]
   have:=hc 0 kg;rw[dH]at this;rw[this];rfl
def Eg{r:Nat}(h:∀i x,M[i]?=D x->H.cell r (o+i)=D x):H.read r o M.length=D M:=by
 cases M with
 |nil=>rfl
 |cons x M=>
  have hrow:∃az,H.obj r=.row az:=by
   have:=h 0 x O;unfold R.cell at this;have⟨az,W,_⟩:=aJ this;exact⟨az,uh W⟩
  have⟨az,hR⟩:=hrow
  have hcell:∀i(hi:i<(x::M).length),o+i<az.n/\az.cells.get top (o+i)=(x::M)[i]:=by
   intro i hi;have W:=h i _<|av hi;unfold R.cell at W;rw[hR]at W;replace W:gd (aD (bW<|o+i) az.n) (D<|az.cells.get top<|o+i)=D _:=W;have⟨J,h3⟩:=fI W;exact⟨aF J,dK h3⟩
  show(aL (vZ<|H.obj r) λw=>gd (aD (aZ o<|M.length+1) w.n)<|D<|Tr.Ep top w.cells o<|M.length+1)=_;rw[hR];show gd (aD (o+(M.length+1)) az.n) (D<|Tr.Ep top az.cells o<|M.length+1)=_;have hl:=(hcell M.length kg).1;rw[aI N,zR,X4 az.cells (M.length+1) o (x::M) O λi hi=>(hcell i hi).2]
def Fl.read(h:Fl H a n es M)(he:0<es)(hk:k<n)(c:Nat):
 ∃r o,zN es (I a n c) (B k)=D (.pointer<|D ⟨r,o,Q⟩)/\r<H.next/\H.read r o es=D (El M es k)/\(El M es k).length=es/\∃o0,a=D ⟨r,o0,Q⟩/\o=o0+k*es:=by
 have⟨r,o,W,J,h3,h4⟩:=h.idx (c:=c) he hk
 have hl:(El M es k).length=es:=by
  unfold El;have:(k+1)*es<=n*es:=eY es hk;rw[gX]at this;have:=h.1;simp;omega
 refine⟨r,o,W,J,?_,hl,h4⟩
 have:=Eg (H:=H) (r:=r) (o:=o) (M:=El M es k) λi x E=>by
  rw[mR]at E;split at E
  .next hi=>exact h3 i x hi E
  .cases E
 rwa [hl]at this
def yj(h:Fl H a n es M)(he:0<es):appended H es (I a n c)=D (n,M):=by
 rcases gM n with rfl|hn
 .have hc:M=[]:=dR.1 (by have:=h.1;omega);subst hc;cases a with
  |none=>rfl
  |some a=>
   show(aL (H.read a.block a.off<|bO 0 es) λl=>D (0,l))=_;rw[show bO 0 es=0 from iQ es];rfl
 .have hl:0<M.length:=by rw[h.1];exact qW hn he
  obtain⟨r,o,rfl,_,_⟩:=h.2 0 _<|av hl;show(aL (H.read r o<|bO n es) λl=>D (n,l))=_
  have W:=Eg (H:=H) (r:=r) (o:=o) (M:=M) λi x E=>by
   have⟨r',o',e,_,h5⟩:=h.2 i x E;cases e;exact h5
  rw[h.1]at W;rw[show bO n es=n*es from O,W];rfl
def C5{x:Z}{xs:C Z}(hv:v=I Q 0 0\/∃a,v=I (D a) 0 0)(ha:appended H es x=D (n,xs))(hn:n<=16777216):
 zY e es v x H=if n=0 then D (v,H)else D (I (D ⟨H.next,0,Q⟩) n<|fJ es,H.new<|rowOf e xs):=by
 cases n with
 |zero=>
  rw[if_pos O];rcases hv with rfl|⟨a,rfl⟩
  .unfold zY;rw[ha];show gd (aD 0 16777216) (D (I Q 0 0,H))=_;rw[aI N];rfl
  .unfold zY;rw[ha];show gd (aD 0 16777216) (D (I (D a) 0 0,H))=_;rw[aI N];rfl
 |succ k=>
  rw[if_neg N];rcases hv with rfl|⟨a,rfl⟩
  .exact OL ha hn
  .unfold zY;rw[ha];show gd (aD (k+1) 16777216) (gd (aD 0 16777216)<|bV (gH 0) (xX (e,es) a 0 0 (k+1) xs H)<|gd (aA 0<|fJ es)<|tQ (e,es) a 0 0 (k+1) xs H)=_;rw[aI hn,aI N,show gH 0=f from O];show xX (e,es) a 0 0 (k+1) xs H=_;unfold xX
   have e1:aD (aZ 0<|k+1) 0=aC:=by
    rw[<-b_];intro h;have:=aF h;have e:aZ 0 (k+1)=k+1:=aY _;omega
   have e2:aZ 0 (k+1)=k+1:=aY _;have e3:bO 0 es=0:=iQ es;rw[e1,jW];show(aL (H.read a.block a.off<|bO 0 es) λold=>D<|yA e es (aZ 0<|k+1) (app old xs) H)=_;rw[e3,e2];rfl
section steps
variable{x:Z}{xs:C Z}
end steps
def BM{r w:Nat}(h:w<=n):XY es (I (D ⟨r,o,Q⟩) n<|fJ es) Q (D<|B w) Q=D (I (D ⟨r,o,Q⟩) w<|fJ es):=by
 show bV (gH<|fJ es) _ (gd (aA (fJ es)<|fJ es)<|gd (aD 0 w&&aD w n)<|D<|I (D ⟨r,aZ o<|bO 0 es,Q⟩) (dJ w 0)<|fJ es)=_;rw[y_,jW,dD,aI<|bA _,aI h,show bO 0 es=0 from iQ es];rfl
def QM{r w:Nat}(h:w<=n):XY es (I (D ⟨r,o,Q⟩) n<|fJ es) (D<|B w) Q Q=D (I (D ⟨r,o+w*es,Q⟩) (n-w)<|fJ es):=by
 show bV (gH<|fJ es) _ (gd (aA (fJ es)<|fJ es)<|gd (aD w n&&aD n n)<|D<|I (D ⟨r,aZ o<|bO w es,Q⟩) (dJ n w)<|fJ es)=_;rw[y_,jW,dD,aI<|ax _,aI h];rfl
def VN:XY es (I Q 0 0) Q (D<|B 0) Q=D (I Q 0 0):=rfl
def GB.cut{H0 H:R}{L:C dL}{w:Nat}(hg:GB ty es v M gb)(he:0<es)(hw:w*es<=M.length){K:Z->Prop}(k:∀v',GB ty es v' (M.take<|w*es) gb->K v'):PU (XY es v Q (D<|B w) Q) K:=by
 rcases hg with⟨rfl,rfl,rfl⟩|⟨r,n,eB,rfl,hn,rfl⟩
 .have:w=0:=by
   rcases gM w with h|h
   .exact h
   .have:=qW h he;have J:w*es<=0:=hw;omega
  subst this;rw[VN];exact k _<|.inl ⟨O,by simp,rfl⟩
 .have hwn:w<=n:=by rw[hn]at hw;exact rF hw he
  rw[BM hwn];refine k _<|.inr ⟨r,w,M.drop (w*es)++eB,O,?_,?_⟩
  .simp;omega
  .rw[<-bU,iP]
section bin
variable{P:aU}
def C6(ht:Gu P t=2):lY P .eql t ox (.const<|I Q 0 0) (I a n c) (I Q 0 0)=D (.bool<|eZ a):=by
 show CB .eql (MN (Gu P t) (I Q 0 0)<|I a n c)=_;rw[ht];rfl
end bin
def ahu{z:C Z}(he:es<=16777216):bS e z es 0 [] H=D (I (D ⟨H.next,0,Q⟩) 0 0,H.new<|rowOf e []):=by
 unfold bS;rw[show bO 0 es=0 from iQ es,aI<|bA _];rfl
end
def aaL(w:bY)(o:lI)(r:Nat):Prop:=o=.dead\/∃(az:Row)(M:Array Z)(fr:Nat×Nat),o=.row az/\w.heap[r]?=D (.cells M az.ty fr)/\az.kY=f/\az.n<=M.size/\∀i,i<az.n->∃v,M[i]?=D v/\(az.cells.get top i=top\/(nE v=f/\az.cells.get top i=v)\/∃t x,v=.iface t x/\az.cells.get top i=.iface t top)
def ai9{w:bY}(h:H.next<=w.heap.size)(ht:∀r,r<H.next->aaL w (H.obj r) r):RH (BH w H) H w:=by
 refine⟨?_,?_,?_⟩
 .intro r l y;unfold BH at y;split at y
  .next W=>exact W
  .cases y
 .intro r l y;unfold BH at y;split at y
  .next W=>
   cases y;refine⟨w.heap[r]'N,bC (i:=r) N,?_⟩;rcases ht r W with J|⟨az,M,fr,J,h3,hse,hle,h4⟩
   .rw[J];trivial
   .have hcn:BF w r=M.size:=by unfold BF;rw[h3]
    have hget:w.heap[r]'N=.cells M az.ty fr:=by
     have:=bC (xs:=w.heap) (i:=r) N;rw[h3]at this;injection this with this;exact this.symm
    rw[hget,J];refine⟨⟨O,O⟩,O,hcn.symm,bA _,?_,?_,?_⟩
    .show 0+(az.n-0)<=BF w r;rw[hcn];omega
    .rw[hse];intro h;cases h
    .intro i _ hi;have⟨v,h5,h6⟩:=h4 i hi;refine⟨v,mg h5,?_⟩;rcases h6 with h6|⟨h6,h7⟩|⟨t,x,rfl,h7⟩
     .rw[h6];exact .top _
     .rw[h7];exact .sc _ h6
     .rw[h7];exact .iface t top x<|.top x
  .cases y
 .intro r r' l l' y hr' _ _ hc;unfold BH at y hr';split at y
  .split at hr'
   .cases y;cases hr';exact hc
   .cases hr'
  .cases y
section mem
variable{P:aU}
def X5{X:Xt}(hn:n<=H.next)(hmo:P.follows .mixedOrders=f)(hP:Ce P n)(hX:Zc P X)(hO:I_ P X n){g:FuncId}(hg:P.funcs[g]?=D fn)(hb:fn.body.isSome=f)(h:aO P X g args H λv T=>v=.bool b/\H.next<=T.low){w:bY}(hw:H.next<=w.heap.size)(ht:∀r,r<H.next->aaL w (H.obj r) r){args':C Z}(ha:k_ (BH w H) args args'):
 Calls P g ⟨args'⟩ w λe w'=>e=.returned (.bool b)/\Go.RowKit.Below w.heap.size w w':=by
 obtain⟨v,T,⟨k,h⟩,rfl,hlow⟩:=h;refine(levels hmo hP hX hO k g args _ _ T fn h hg hb (BH w H) w args' (ai9 hw ht) (λg hg=>Vy w H g N) ha).mono ?_;rintro e w' ⟨m',v',rfl,W,J,h3⟩;rw[W.of_bool];refine⟨O,⟨h3.os,h3.tape,h3.output,h3.size,λc hc=>h3.keep c hc ?_⟩⟩;intro r l y _;unfold BH at y;split at y
 .next h4=>exact aR h4 hlow
 .cases y
def KJ(v:Z):Z:=if nE v=f then v else match v with
 |.iface t _=>.iface t top
 |_=>top
def ahv:Obj->lI
 |.cells M ty _=>.row ⟨ty,Tr.tu top (M.toList.map KJ) 0 .nil,M.size,f,0⟩
 |_=>.dead
def aaM(w:bY)(H':Nat->aB lI)(r:Nat):lI:=(H' r).getD (match w.heap[r]? with|some o=>ahv o|none=>.dead)
def EJ(w:bY)(H':Nat->aB lI):R:=⟨Tr.tu .dead ((f_ w.heap.size).map<|aaM w H') 0 .nil,w.heap.size,w.heap.size⟩
def KL(w:bY)(H':Nat->aB lI){r:Nat}(h:r<w.heap.size):(EJ w H').obj r=aaM w H' r:=by
 show(Tr.tu .dead ((f_ w.heap.size).map<|aaM w H') 0 .nil).get .dead r=_;rw[Tr.l_,if_pos I6,bD];simp[h]
theorem aem{w:bY}{H':Nat->aB lI}(hT:∀r o,H' r=D o->aaL w o r):∀r,r<(EJ w H').next->aaL w ((EJ w H').obj r) r:=by
 intro r y;replace y:r<w.heap.size:=y;rw[KL w H' y];unfold aaM;cases hc:H' r with
 |some o=>exact hT r o hc
 |none=>
  rw[bC y];show aaL w (ahv _) r;cases ho:w.heap[r]with
  |cells M ty fr=>
   refine .inr ⟨_,M,fr,O,by rw[bC y,ho],rfl,ax _,λi hi=>?_⟩;replace hi:i<M.size:=hi;refine⟨M[i],bC hi,?_⟩;show(Tr.tu top (M.toList.map KJ) 0 .nil).get top i=top\/_
   have e:(Tr.tu top (M.toList.map KJ) 0 .nil).get top i=KJ M[i]:=by
    rw[Tr.l_,if_pos I6,bD];simp[hi]
   show(Tr.tu top (M.toList.map KJ) 0 .nil).get top i=top\/(nE M[i]=f/\(Tr.tu top (M.toList.map KJ) 0 .nil).get top i=M[i])\/∃t x,M[i]=.iface t x/\(Tr.tu top (M.toList.map KJ) 0 .nil).get top i=.iface t top;rw[e];unfold KJ;split
   .next h=>exact .inr<|.inl ⟨h,O⟩
   .split
    .next t x e=>exact .inr<|.inr ⟨t,x,e,O⟩
    .exact .inl O
  |_=>exact .inl O
def X6{w:bY}{H':Nat->aB lI}{r:Nat}(hT:H' r=Q)(h:w.cell? ⟨r,o,Q⟩=D v)(hs:nE v=f):r<w.heap.size/\(EJ w H').cell r o=D v:=by
 unfold World.cell? at h;cases y:w.heap[r]? with
 |none=>simp[y]at h
 |some ob=>
  have hlt:r<w.heap.size:=(dU.1 y).1;refine⟨hlt,?_⟩;cases ob with
  |cells M ty fr=>
   simp[y]at h;have hi:o<M.size:=(dU.1 h).1;unfold R.cell;rw[KL w H' hlt];unfold aaM;rw[hT,y];show gd (aD (bW o) M.size) (D<|(Tr.tu top (M.toList.map KJ) 0 .nil).get top o)=_;rw[aI hi,zR,Tr.l_,if_pos I6,bD];have J:M[o]=v:=(dU.1 h).2;simp[hi,J,KJ,hs]
  |_=>simp[y]at h
def aen{w:bY}{H':Nat->aB lI}{r:Nat}(y:r<w.heap.size)(hc:c<=9223372036854775807)(hn:n<=c):VR (BH w<|EJ w H') (I (D ⟨r,o,Q⟩) n c) (I (D ⟨r,o,Q⟩) n c):=by
 have:=VR.slice (m:=BH w<|EJ w H') r o n c ⟨r,0,0,BF w r,ahj<|(EJ w H').obj r⟩ (by unfold BH;rw[if_pos (show r<(EJ w H').next from y)]) (bA _) (aI hc) hn;simpa using this
end mem
section
variable{S:C Nat}
def GK(ty:aH)(es:Nat)(v:Z)(M:C Z)(gb:C dL):Prop:=
 GB ty es v M gb\/∃r n m eB,v=I (D ⟨r,0,Q⟩) n m/\m<=16777216/\M.length=n*es/\(M++eB).length=m*es/\gb=[(r,ty,M++eB)]
def KN(h:m<=16777216):gH m=f:=aI N
section steps
variable{xs:C Z}
def GK.app(hg:GK ty es v M gb)(G:F S H0 H<|(rx,ty,xs)::(gb++L))(he:0<es)(E:xs.length=(m+1)*es)(hok:all' fC xs=f)(hm:m+1<=16777216)(hc:M.length<=16777216):
 ∃v' H1 gQ,zY ty es v (I (D ⟨rx,0,Q⟩) (m+1) cx) H=D (v',H1)/\GK ty es v' (M++xs) gQ/\F S H0 H1 (gQ++L)/\oN (gb.map (·.1)) H H1:=by
 rcases hg with hg|⟨r,n,mm,eB,rfl,hmm,hn,hj,rfl⟩
 .have⟨v',H1,gQ,W,J,h3,h4⟩:=hg.app (cx:=cx) G he E hok hm hc;exact⟨v',H1,gQ,W,.inl J,h3,h4⟩
 have hbx:=G.get 0 O;have ha:=vW (k:=m+1) (c:=cx) hbx E;have hS1:F S H0 H ([(r,ty,M++eB)]++L):=F.drop (A:=[(rx,ty,xs)]) G;have hb:=hS1.get 0 O
 have hnn:n<=16777216:=by
  have:n*1<=n*es:=gG n he;omega
 have hap:zY ty es (I (D ⟨r,0,Q⟩) n mm) (I (D ⟨rx,0,Q⟩) (m+1) cx) H=xX (ty,es) ⟨r,0,Q⟩ n mm (m+1) xs H:=by
  unfold zY;rw[ha];show gd (aD (m+1) 16777216) (gd (aD n 16777216)<|bV (gH mm) (xX (ty,es) ⟨r,0,Q⟩ n mm (m+1) xs H) _)=_;rw[aI hm,aI hnn,KN hmm];rfl
 rw[hap];unfold xX;show∃v' H1 gQ,bV (aD (n+(m+1)) mm) (aL (H.write r (aZ 0<|n*es) xs) λT=>D (I (D ⟨r,0,Q⟩) (n+(m+1)) mm,T)) (aL (H.read r 0<|n*es) λold=>D<|yA ty es (n+(m+1)) (Go.Ae.app old xs) H)=D (v',H1)/\_;rw[show aZ 0 (n*es)=n*es from aY _];have hmul:(n+(m+1))*es=n*es+(m+1)*es:=gX ..
 by_cases hfit:n+(m+1)<=mm
 .rw[aI hfit,oz];have hle:(n+(m+1))*es<=mm*es:=eY es hfit;have⟨H1,W,J,h3⟩:=hS1.zZ (vs:=xs) (o:=n*es) 0 O N hok;rw[W]
  have hs:splice (M++eB) (n*es) xs=M++xs++eB.drop xs.length:=by
   unfold splice;rw[<-hn,qi,uE,mU N,bN,iT]
  rw[hs]at J;refine⟨_,H1,[(r,ty,M++xs++eB.drop xs.length)],O,.inr ⟨r,n+(m+1),mm,eB.drop xs.length,O,hmm,?_,?_,O⟩,J,h3⟩
  .rw[aQ,hn,E,hmul]
  .rw[<-hs,mq N];exact hj
 .rw[show aD (n+(m+1)) mm=aC from by rw[<-b_];intro h;exact hfit<|aF h,jW]
  have hrd:H.read r 0 (n*es)=D M:=by
   rw[hb.read I6];simp only[jf];rw[<-hn,qi]
  rw[hrd];show∃v' H1 gQ,D (yA ty es (n+(m+1)) (Go.Ae.app M xs) H)=D (v',H1)/\_;rw[qB];refine⟨_,_,[(H.next,ty,M++xs)],O,.inl<|.inr ⟨H.next,n+(m+1),[],O,?_,by simp⟩,?_,(Ext.new _ _).weaken<|nofun⟩
  .rw[aQ,hn,E,hmul]
  .exact(F.drop (A:=[(r,ty,M++eB)]) hS1).grow ty<|M++xs
def GK.fl(hg:GK ty es v M gb)(G:F S H0 H<|gb++L):∃a n c,v=I a n c/\M.length=n*es/\Fl H a n es M:=by
 rcases hg with hg|⟨r,n,m,eB,rfl,hmm,hn,hj,rfl⟩
 .exact hg.fl G
 .refine⟨_,n,_,O,hn,hn,λi x hi=>⟨r,0,rfl,(G.lo _<|aN ..).2,?_⟩⟩;rw[aY];refine(G.get 0 O).cell ?_;rw[bM (bE.1 hi).1];exact hi
end steps
end
def PP:type_of%(h2 @FU<|h2 @JB<|h2 @VD<|h2 @VE<|h2 @VH<|h2 @VI<|h2 @QI<|h2 @QB<|h2 @QC<|h2 @QD<|h2 @AJ<|h2 @QE<|h2 @QF<|h2 @Ns<|h2 @Nt<|h2 @QG<|h2 @KA<|h2 @Qy<|h2 @Nn<|h2 @QH<|h2 @min2<|h2 @max2<|h2 @JC<|h2 @VK<|h2 @VL<|h2 @Qt<|h2 @Qu<|h2 @VB<|h2 @Qv<|h2 @VC<|h2 @Qw<|h2 @Qz<|h2 @QA<|h2 @VF<|h2 @xF<|h2 @BK<|h2 @Nu<|h2 @QK<|h2 @FN<|h2 @KB<|h2 @KC<|h2 @Io<|h2 @Ip<|h2 @Iq<|h2 @KE<|h2 @KF<|h2 @Ir<|h2 @Iu<|h2 @Iv<|h2 @Iw<|h2 @FO<|h2 @Iy<|h2 @FP<|h2 @Iz<|h2 @FQ<|h2 @ahq<|h2 (@tF Z)<|h2 (@dZ Z)<|h2 @aY<|h2 @dH<|h2 (@pM dL)<|@jy dL):=h2 @FU<|h2 @JB<|h2 @VD<|h2 @VE<|h2 @VH<|h2 @VI<|h2 @QI<|h2 @QB<|h2 @QC<|h2 @QD<|h2 @AJ<|h2 @QE<|h2 @QF<|h2 @Ns<|h2 @Nt<|h2 @QG<|h2 @KA<|h2 @Qy<|h2 @Nn<|h2 @QH<|h2 @min2<|h2 @max2<|h2 @JC<|h2 @VK<|h2 @VL<|h2 @Qt<|h2 @Qu<|h2 @VB<|h2 @Qv<|h2 @VC<|h2 @Qw<|h2 @Qz<|h2 @QA<|h2 @VF<|h2 @xF<|h2 @BK<|h2 @Nu<|h2 @QK<|h2 @FN<|h2 @KB<|h2 @KC<|h2 @Io<|h2 @Ip<|h2 @Iq<|h2 @KE<|h2 @KF<|h2 @Ir<|h2 @Iu<|h2 @Iv<|h2 @Iw<|h2 @FO<|h2 @Iy<|h2 @FP<|h2 @Iz<|h2 @FQ<|h2 @ahq<|h2 (@tF Z)<|h2 (@dZ Z)<|h2 @aY<|h2 @dH<|h2 (@pM dL)<|@jy dL
class Ak (L:C dL) (r:Nat) (ty:outParam aH) (M:outParam<|C Z):Prop where
 at':∃i:Nat,L[i]?=D ((r,ty,M):dL)
instance Ak.there{r:Nat}{ty:aH}{M:C Z}{b:dL}{L:C dL}[h:Ak L r ty M]:Ak (b::L) r ty M:=⟨let⟨i,hi⟩:=h.at';⟨i+1,hi⟩⟩
instance Ak.here{r:Nat}{ty:aH}{M:C Z}{L:C dL}:Ak ((r,ty,M)::L) r ty M:=⟨⟨0,O⟩⟩
class EK (L:C dL) (r:Nat) (SH:C Z->C Z) (ty:outParam aH) (M:outParam<|C Z) (L':outParam<|C dL):Prop where
 at':∃i:Nat,L[i]?=D ((r,ty,M):dL)/\L'=L.set i (r,ty,SH M)
instance EK.there{r:Nat}{SH:C Z->C Z}{ty:aH}{M:C Z}{b:dL}{L L':C dL}[h:EK L r SH ty M L']:EK (b::L) r SH ty M (b::L'):=⟨let⟨i,hi,e⟩:=h.at';⟨i+1,hi,by rw[e];rfl⟩⟩
instance EK.here{r:Nat}{SH:C Z->C Z}{ty:aH}{M:C Z}{L:C dL}:EK ((r,ty,M)::L) r SH ty M ((r,ty,SH M)::L):=⟨⟨0,O,O⟩⟩
section steps
variable{S:C Nat}{r:Nat}
def F.pz(G:F S H0 H L)[hb:Ak L r ty M](k:K v H)(hv:M[o]?=D v:=by rfl):ME (vH Q (.pointer<|D ⟨r,o,Q⟩) H) K:=let⟨i,hi⟩:=hb.at';G.ld i hi hv k
def F.iI(G:F S H0 H L)[hb:Ak L r ty M](k:K (.agg ⟨(M.drop o).take n⟩) H)(hn:o+n<=M.length:=by exact aF O):ME (vH (D n) (.pointer<|D ⟨r,o,Q⟩) H) K:=let⟨i,hi⟩:=hb.at';G.rZ i hi hn k
def F.QN(G:F S H0 H L)[hb:Ak L r ty M](k:K v<|Go.Ae.hN H)(hv:M[o]?=D v:=by rfl):ME (vH Q (.pointer<|D ⟨r,o,Q⟩)<|Go.Ae.hN H) K:=let⟨i,hi⟩:=hb.at';G.Mm i hi hv k
def F.VO(G:F S H0 H L)[hb:Ak L r ty M](k:K (.agg ⟨(M.drop o).take n⟩)<|Go.Ae.hN H)(hn:o+n<=M.length:=by exact aF O):ME (vH (D n) (.pointer<|D ⟨r,o,Q⟩)<|Go.Ae.hN H) K:=let⟨i,hi⟩:=hb.at';G.KH i hi hn k
def F.jH(G:F S H0 H L)[hb:EK L r (λM=>splice M o<|bK v) ty M L'](k:∀H1,F S H0 H1 L'->K undef H1)(hl:(bK v).length=n:=by rfl)(hn:o+n<=M.length:=by exact aF O)(hk:all' fC (bK v)=f:=by rfl):ME (CW n (.pointer<|D ⟨r,o,Q⟩) v H) K:=by
 have⟨i,hi,e⟩:=hb.at';subst e;exact G.st i hi hl hn hk k
end steps
section agg
variable{q:aB Z}{K:Z->Prop}{a b c d e ay g h i:Z}
def PU.b1(hq:q=D (.agg ⟨[a]⟩))(k:K<|.agg ⟨[a]⟩):PU q K:=.of hq k
def PU.b2(hq:q=D (.agg ⟨[a,b]⟩))(k:K<|.agg ⟨[a,b]⟩):PU q K:=.of hq k
def PU.b3(hq:q=D (.agg ⟨[a,b,c]⟩))(k:K<|.agg ⟨[a,b,c]⟩):PU q K:=.of hq k
def PU.b4(hq:q=D (.agg ⟨[a,b,c,d]⟩))(k:K<|.agg ⟨[a,b,c,d]⟩):PU q K:=.of hq k
def PU.b5(hq:q=D (.agg ⟨[a,b,c,d,e]⟩))(k:K<|.agg ⟨[a,b,c,d,e]⟩):PU q K:=.of hq k
def PU.b6(hq:q=D (.agg ⟨[a,b,c,d,e,ay]⟩))(k:K<|.agg ⟨[a,b,c,d,e,ay]⟩):PU q K:=.of hq k
def PU.b7(hq:q=D (.agg ⟨[a,b,c,d,e,ay,g]⟩))(k:K<|.agg ⟨[a,b,c,d,e,ay,g]⟩):PU q K:=.of hq k
def PU.b8(hq:q=D (.agg ⟨[a,b,c,d,e,ay,g,h]⟩))(k:K<|.agg ⟨[a,b,c,d,e,ay,g,h]⟩):PU q K:=.of hq k
def PU.b9(hq:q=D (.agg ⟨[a,b,c,d,e,ay,g,h,i]⟩))(k:K<|.agg ⟨[a,b,c,d,e,ay,g,h,i]⟩):PU q K:=.of hq k
end agg
def yS(H:R)(r:Nat)(ty:aH):Prop:=∃az,H.obj r=.row az/\az.ty=ty
def yS.one{r:Nat}(h:yS H r ty)(h':yS H r ty'):ty=ty':=by
 have⟨az,W,J⟩:=h;have⟨R',h3,h4⟩:=h';rw[W]at h3;cases h3;rw[<-J,<-h4]
def Bk.Jc{r:Nat}(h:Bk H r ty M):yS H r ty:=by
 have⟨az,W,J,_⟩:=h;exact⟨az,W,J⟩
def yS.jb{r:Nat}(h:yS H r ty)(e:T.obj r=H.obj r):yS T r ty:=by
 have⟨az,W,J⟩:=h;exact⟨az,e.trans W,J⟩
def je(SH:Nat->Prop)(ty:aH)(H:R)(a:aB Addr)(n es:Nat)(M:C Z):Prop:=Fl H a n es M/\∀r o,a=D ⟨r,o,Q⟩->0<n->SH r/\r<H.next/\yS H r ty
def je.nil(SH:Nat->Prop)(ty:aH)(H:R)(a:aB Addr)(es:Nat):je SH ty H a 0 es []:=⟨Fl.nil _ _ _,λ_ _ _ h=>N⟩
def je.stay{S:C Nat}{SH:Nat->Prop}(h:je SH ty H a n es M)(E:oN S H T)(G:∀q∈S,¬SH q\/¬yS H q ty):je SH ty T a n es M:=by
 have⟨W,J⟩:=h
 have key:∀r o,a=D ⟨r,o,Q⟩->0<n->r∉S:=λr o e hn y=>by
  have⟨h3,_,h4⟩:=J r o e hn;rcases G r y with h5|h5
  .exact h5 h3
  .exact h5 h4
 rcases gM n with rfl|hn
 .have:M=[]:=dR.1 (by have:=W.1;omega);subst this;exact je.nil _ _ _ _ _
 .refine⟨W.ext E λr o e=>key r o e hn,λr o e _=>?_⟩;have⟨h3,h4,h5⟩:=J r o e hn;exact⟨h3,aR h4 E.next,h5.jb<|E.obj r h4<|key r o e hn⟩
def je.ex{SH:Nat->Prop}(h:je SH ty H a n es M)(E:Ext H T):je SH ty T a n es M:=h.stay E<|nofun
def je.wk{SH F':Nat->Prop}(h:je SH ty H a n es M)(hb:∀r,SH r->F' r):je F' ty H a n es M:=⟨h.1,λr o e hn=>⟨hb _ (h.2 r o e hn).1,(h.2 r o e hn).2⟩⟩
def je.le{b b':Nat}(h:je (b<=·) ty H a n es M)(hb:b'<=b):je (b'<=·) ty H a n es M:=h.wk λ_ h=>a_ hb h
def F.GX{S:C Nat}(G:F S H0 H L)(h:L.all (λe=>!(e.2.1==ty))=f):∀q∈L.map (·.1),¬yS H q ty:=λq hq ht=>by
 obtain⟨e,he,rfl⟩:=bQ.1 hq;have W:=(G.bk e he).Jc.one ht;have J:=eG.1 h e he;simp[W]at J
def GB.IA{S:C Nat}{SH:Nat->Prop}(hg:GB ty es v M gb)(G:F S H0 H<|gb++L)(hF:∀e∈gb,SH e.1):∃a n c,v=I a n c/\M.length=n*es/\je SH ty H a n es M:=by
 rcases hg with⟨rfl,rfl,rfl⟩|⟨r,n,eB,rfl,hn,rfl⟩
 .exact⟨Q,0,0,O,by simp,je.nil _ _ _ _ _⟩
 .refine⟨_,n,_,O,hn,⟨hn,λi x hi=>⟨r,0,rfl,(G.lo _<|aN ..).2,?_⟩⟩,λr' o e _=>?_⟩
  .rw[aY];refine(G.get 0 O).cell ?_;rw[bM (bE.1 hi).1];exact hi
  .cases e;exact⟨hF _<|aN ..,(G.lo _<|aN ..).2,(G.get 0 O).Jc⟩
def GB.Sj(hg:GB ty es v M gb)(G:F [] H0 H<|gb++L):∃a n c,v=I a n c/\M.length=n*es/\je (H0.next<=·) ty H a n es M:=
 hg.IA G λe he=>G.wQ<|dn _ he
def GB.all(hg:GB ty es v M gb)(h:(ty==ty')=aC):gb.all (λe=>!(e.2.1==ty'))=f:=by
 rcases hg with⟨_,_,rfl⟩|⟨r,n,eB,_,_,rfl⟩
 .rfl
 .simp at h;simp[h]
section steps
variable{S:C Nat}{r:Nat}
def F.mh(G:F S H0 H L)[hb:EK L r (λM=>splice M o<|bK v) ty M L'](k:∀H1,F S H0 (hM H H1) L'->K undef H1)(hl:(bK v).length=n:=by rfl)(hn:o+n<=M.length:=by exact aF O)(hk:all' fC (bK v)=f:=by rfl):ME (CW n (.pointer<|D ⟨r,o,Q⟩) v<|Go.Ae.hN H) K:=by
 have⟨i,hi,e⟩:=hb.at';subst e;have⟨H1,W,J,E⟩:=(F.yh G).zZ (vs:=bK v) (o:=o) i hi N hk;show ME (gd (aA (len<|bK v) n)<|aL ((Go.Ae.hN H).write r o<|bK v) λT=>D (undef,T)) K;rw[fU,hl,dD,W];refine k H1 ?_;have hm:hM H H1=hM H H1:=rfl
 exact⟨oN.later G.ext E.draw (λq hq=>by
  simp at hq;subst hq;exact(G.lo _<|aS hi).1),J.bk,λe he=>⟨(J.lo e he).1,(J.lo e he).2⟩,J.ne,E.draw.wf G.wf⟩
end steps
def F.TL{S:C Nat}{xs:C Z}(G:F S H0 H L)(he:0<es)(hv:v=I Q 0 0\/∃a,v=I (D a) 0 0)(E:Fl H a n es xs)(hn:n<=16777216)(k:∀a' c' H1 L',je (H.next<=·) ty H1 a' n es xs->F S H0 H1 (L'++L)->K (I a' n c') H1):ME (zY ty es v (I a n c) H) K:=by
 rw[C5 hv (yj E he) hn];split
 .next h0=>
  subst h0;have hc:xs=[]:=dR.1 (by have:=E.1;omega);subst hc;rcases hv with rfl|⟨a,rfl⟩
  .exact k Q 0 H [] (je.nil _ _ _ _ _) G
  .exact k (D a) 0 H [] (je.nil _ _ _ _ _) G
 .next h0=>
  have hb:=Bk.new H ty xs;exact k _ _ _ [(H.next,ty,xs)] ⟨hb.fl (dM _) E.1,λr o e _=>by cases e;exact⟨ax _,dM _,hb.Jc⟩⟩<|G.grow ty xs
def F.own{S:C Nat}(G:F S H0 H<|cs++L):F (cs.map (·.1)) H H cs:=(G.sub<|eD cs L).base
def F.frame{S:C Nat}(G:F S H0 H<|cs++L)(h:F (cs.map (·.1)) H T M'):F S H0 T (M'++L):=
 G.turn h.ext (λe he=>⟨h.bk e he,h.lo e he⟩) h.ne
def Ny(x:dL)(L:C dL):(x::(L++[])).Perm (L++[x]):=by rw[bq];exact aG (l₁:=[x])
def aja(x hr z:dL)(L:C dL):(x::hr::z::(L++[])).Perm (L++[x,hr,z]):=by rw[bq];exact aG (l₁:=[x,hr,z])
def iD{K:Prop}(h:noTwo cls=f)(k:K):jT ops cls=f/\K:=⟨Im h,k⟩
def Np(az:C Int->Prop)(r:Nat)(ty:aH)(n:Nat)(H0 H:R)(L:C dL):Prop:=∃M vs,M.length=n/\az M/\F [] H0 H ((r,ty,M.map vi++vs)::L)
def Rn(az:C Int->Prop)(z x:Int)(M:C Int):Prop:=az M/\M[z.toNat]?=D x
def Wn(az:C Int->Prop)(z x:Int)(M:C Int):Prop:=∃c,az c/\M=c.set z.toNat x
def Pn(c0 M:C Int):Prop:=M.Perm c0
class Bn (az:C Int->Prop) (c0:outParam<|C Int):Prop where
 h:∀M,az M->Pn c0 M
instance Bn.s{c0:C Int}:Bn (Pn c0) c0:=⟨λ_ h=>h⟩
instance Bn.r{az:C Int->Prop}{z x:Int}{c0:C Int}[b:Bn az c0]:Bn (Rn az z x) c0:=⟨λ_ h=>b.h _ h.1⟩
def Nz{c:C Int}{x hr:Int}(hi:c[i]?=D x)(hj:c[j]?=D hr):((c.set i hr).set j x).Perm c:=by
 obtain⟨W,rfl⟩:=bE.1 hi;obtain⟨J,rfl⟩:=bE.1 hj;exact List.set_set_perm W J
instance Bn.w{az:C Int->Prop}{c0:C Int}{p q x hr:Int}[b:Bn az c0]:Bn (Wn (Wn (Rn (Rn az p x) q hr) p hr) q x) c0:=⟨λ_ ⟨_,⟨_,h,e⟩,e2⟩=>by
 subst e e2;exact(Nz h.1.2 h.2).trans<|b.h _ h.1.1⟩
instance Bn.w'{az:C Int->Prop}{c0:C Int}{p q x hr:Int}[b:Bn az c0]:Bn (Wn (Wn (Rn (Rn az p x) q hr) q x) p hr) c0:=⟨λ_ ⟨_,⟨_,h,e⟩,e2⟩=>by
 subst e e2;exact(Nz h.2 h.1.2).trans<|b.h _ h.1.1⟩
section steps
variable{az R':C Int->Prop}{r:Nat}
def Np.mono(h:Np az r ty n H0 H L)(y:∀c,c.length=n->az c->R' c):Np R' r ty n H0 H L:=by have⟨M,vs,W,J,G⟩:=h;exact⟨M,vs,W,y _ W J,G⟩
def Np.bk{c0:C Int}[b:Bn az c0](h:Np az r ty n H0 H L):Np (Pn c0) r ty n H0 H L:=h.mono λc _=>b.h c
def Np.wf(h:Np az r ty n H0 H L):Wf H:=by have⟨_,_,_,_,G⟩:=h;exact G.wf
def Np.ext(h:Np az r ty n H0 H L):Ext H0 H:=by have⟨_,_,_,_,G⟩:=h;exact G.ext
def Np.new(h:Np az r ty n H0 H L){z:C Z}(k:∀H1 q,Np az r ty n H0 H1 ((q,t2,z)::L)->K (.pointer<|D ⟨q,0,Q⟩) H1):ME (iX t2 z H) K:=by
 have⟨M,vs,W,J,G⟩:=h;exact G.iX λH1 q G=>k H1 q ⟨M,vs,W,J,G.perm<|gq _ _ _⟩
def Np.ld(h:Np az r ty n H0 H L)(i:Nat)(hi:L[i]?=D (q,t2,M))(hv:M[o]?=D v)(k:K v H):ME (vH Q (.pointer<|D ⟨q,o,Q⟩) H) K:=by
 have⟨_,_,_,_,G⟩:=h;exact G.ld (i+1) (by rw[dZ];exact hi) hv k
def Np.Mm(h:Np az r ty n H0 H L)(i:Nat)(hi:L[i]?=D (q,t2,M))(hv:M[o]?=D v)(k:K v<|Go.Ae.hN H):ME (vH Q (.pointer<|D ⟨q,o,Q⟩)<|Go.Ae.hN H) K:=by
 have⟨_,_,_,_,G⟩:=h;exact G.Mm (i+1) (by rw[dZ];exact hi) hv k
def Np.st(h:Np az r ty n H0 H L)(i:Nat)(hi:L[i]?=D (q,t2,M))(hl:(bK v).length=m)(hn:o+m<=M.length)(hk:all' fC (bK v)=f)(k:∀H1,Np az r ty n H0 H1 (L.set i (q,t2,splice M o<|bK v))->K undef H1):ME (CW m (.pointer<|D ⟨q,o,Q⟩) v H) K:=by
 have⟨ds,vs,W,J,G⟩:=h;exact G.st (i+1) (by rw[dZ];exact hi) hl hn hk λH1 G=>k H1 ⟨ds,vs,W,J,G⟩
def Np.stQ(h:Np az r ty n H0 H L)(i:Nat)(hi:L[i]?=D (q,t2,M))(hl:(bK v).length=m)(hn:o+m<=M.length)(hk:all' fC (bK v)=f)(k:∀H1,Np az r ty n H0 (hM H H1) (L.set i (q,t2,splice M o<|bK v))->K undef H1):ME (CW m (.pointer<|D ⟨q,o,Q⟩) v<|Go.Ae.hN H) K:=by
 have⟨ds,vs,W,J,G⟩:=h;exact G.stQ (i+1) (by rw[dZ];exact hi) hl hn hk λH1 G=>k H1 ⟨ds,vs,W,J,G⟩
def Np.drop{b:dL}(h:Np az r ty n H0 H<|b::L):Np az r ty n H0 H L:=by
 have⟨M,vs,W,J,G⟩:=h;exact⟨M,vs,W,J,F.drop (A:=[_])<|G.perm<|gq _ _ _⟩
def Np.yh(h:Np az r ty n H0 H L):Np az r ty n (Go.Ae.hN H0) (Go.Ae.hN H) L:=by have⟨M,vs,W,J,G⟩:=h;exact⟨M,vs,W,J,G.yh⟩
theorem Np.i1N(h:Np az r ty n H0 H L)(hz:o<n)(k:∀x,Np (Rn az (o:Int) x) r ty n H0 H L->K (vi x) H):ME (vH Q (.pointer<|D ⟨r,o,Q⟩) H) K:=by
 have⟨M,vs,W,J,G⟩:=h;have hlt:o<M.length:=N;refine G.ld 0 O (v:=vi M[o]) (by rw[bM (by rw[aK];exact hlt),bF,av hlt];rfl)<|k _ ⟨M,vs,W,⟨J,?_⟩,G⟩;exact av hlt
theorem Np.aaN(h:Np az r ty n H0 H L)(hz:o<n)(k:∀x,Np (Rn az (o:Int) x) r ty n H0 H L->K (vi x) (Go.Ae.hN H)):ME (vH Q (.pointer<|D ⟨r,o,Q⟩)<|Go.Ae.hN H) K:=by
 have⟨M,vs,W,J,G⟩:=h;have hlt:o<M.length:=N;refine G.Mm 0 O (v:=vi M[o]) (by rw[bM (by rw[aK];exact hlt),bF,av hlt];rfl)<|k _ ⟨M,vs,W,⟨J,?_⟩,G⟩;exact av hlt
def NA{M:C Int}(h:o<M.length)(x:Int):splice (M.map vi++vs) o [vi x]=(M.set o x).map vi++vs:=by
 rw[<-pq vi h x];unfold splice;rw[qh (by rw[aK];omega),p_ (by rw[aK];show o+1<=_;omega)];simp
def Np.iwN(h:Np az r ty n H0 H L)(hz:o<n){x:Int}(k:∀H1,Np (Wn az (o:Int) x) r ty n H0 H1 L->K undef H1):ME (CW 1 (.pointer<|D ⟨r,o,Q⟩) (vi x) H) K:=by
 have⟨M,vs,W,J,G⟩:=h;refine G.st 0 O O (by rw[aQ,aK];omega) rfl λH1 G=>k H1 ⟨M.set o x,vs,by rw[bJ];exact W,⟨M,J,O⟩,?_⟩;rw[<-NA N];exact G
variable(h0:0<=z)(hz:z<n)
include h0 hz
def Np.i1(h:Np az r ty n H0 H L)(k:∀x,Np (Rn az z x) r ty n H0 H L->K (vi x) H):ME (vH Q (.pointer<|D ⟨r,z.toNat*1,Q⟩) H) K:=by
 rw[dz];exact h.i1N N λx hB=>k x<|hB.mono λ_ _ h=>h
def Np.i1Q(h:Np az r ty n H0 H L)(k:∀x,Np (Rn az z x) r ty n H0 H L->K (vi x) (Go.Ae.hN H)):ME (vH Q (.pointer<|D ⟨r,z.toNat*1,Q⟩)<|Go.Ae.hN H) K:=by
 rw[dz];exact h.aaN N λx hB=>k x<|hB.mono λ_ _ h=>h
def Np.iw(h:Np az r ty n H0 H L){x:Int}(k:∀H1,Np (Wn az z x) r ty n H0 H1 L->K undef H1):ME (CW 1 (.pointer<|D ⟨r,z.toNat*1,Q⟩) (vi x) H) K:=by
 rw[dz];exact h.iwN N λx hB=>k x<|hB.mono λ_ _ h=>h
end steps
def bG(h:vn)(he:A=vn:=by simp only[PP,Nat.reduceBEq];rfl):A:=by rw[he];exact h
section kL
variable{S:C Nat}
def F.kL(G:F S H0 H L)(h:vn)(he:Wf H->A=vn:=by intro w;simp only[PP,Nat.reduceBEq,gN w];rfl):A:=by rw[he G.wf];exact h
def SB.kL{P:C Z->Prop}{r:Nat}(G:SB P r ty es n H0 H L)(h:vn)(he:Wf H->A=vn:=by intro w;simp only[PP,Nat.reduceBEq,gN w];rfl):A:=by rw[he G.wf];exact h
def Np.kL{az:C Int->Prop}{r:Nat}(G:Np az r ty n H0 H L)(h:vn)(he:Wf H->A=vn:=by intro w;simp only[PP,Nat.reduceBEq,gN w];rfl):A:=by rw[he G.wf];exact h
end kL
section bin
variable{P:aU}{a b:Int}{K:Z->Prop}
def dQ(k:K<|vi<|a+b)(W:-9223372036854775808<=a+b:=by omega)(J:a+b<=9223372036854775807:=by omega):PU (lY P .add t ox oy (vi a)<|vi b) K:=PU.of (fD W J) k
def qL(k:K<|vi<|a-b)(W:-9223372036854775808<=a-b:=by omega)(J:a-b<=9223372036854775807:=by omega):PU (lY P .sub t ox oy (vi a)<|vi b) K:=PU.of (pg W J) k
def NB{r:Nat}(k:K<|.pointer<|D ⟨r,o+z.toNat*es,Q⟩)(h0:0<=z:=by omega)(h:z<n:=by omega):PU (zN es (I (D ⟨r,o,Q⟩) n c)<|vi z) K:=PU.of (ael h0 h) k
end bin
def og:vi ((k:Int)+1)=B (k+1):=by rw[show((k:Int)+1)=((k+1:Nat):Int) by omega]
def alL{q:Prop}(k:q)(h:jT ops cls=f:=by((try simp only[d_,fK,fP<|Ext.refl<|hN _]);kernel_rfl)):jT ops cls=f/\q:=⟨h,k⟩
def aaO{q:Prop}(k:q)(h:noTwo cls=f:=by simp only[d_,fP<|Ext.refl<|hN _];rfl):jT ops cls=f/\q:=iD h k
def splitK{q:Prop}(h:∀K:Prop,K->p/\K)(k:q):p/\q:=h q k
def eU(h:vn)(ay:vn->A:=by intro h;(repeat(first|(simp only[PP,Nat.reduceBEq,gN G.wf])|(refine PU.b1 O ?_)|(refine PU.b2 O ?_)|(refine PU.b3 O ?_)|(refine PU.b4 O ?_)|(refine PU.b5 O ?_)|(refine PU.b6 O ?_)|(refine PU.b7 O ?_)|(refine PU.b8 O ?_)|(refine PU.b9 O ?_)|(refine G.pz ?_)|(refine G.iI ?_)|(refine G.QN ?_)|(refine G.VO ?_)|(refine iD (by simp only[d_,fP<|Ext.refl<|hN _];rfl) ?_)));exact h):A:=ay h
def rV{ae:Prop}{d:Decidable p}(W:p->A)(J:¬p->vn)(ay:xD (D<|decide p) A vn->ae:=by intro h;refine bG ?_;exact h):ae:=ay<|aT W J
def Mo{ae:Prop}{d:Decidable p}(J:¬p->vn)(W:p->A)(ay:xD (D<|decide p) A vn->ae:=by intro h;refine bG ?_;exact h):ae:=ay<|aT W J
def wR{ae:Prop}{d:Decidable p}(W:¬p->A)(J:p->vn)(ay:xD (D<|!decide p) A vn->ae:=by intro h;refine bG ?_;exact h):ae:=ay<|dN W J
def qx{ae:Prop}(W:b=f->A)(J:b=aC->vn)(ay:xD (D b) A vn->ae:=by intro h;refine bG ?_;exact h):ae:=ay<|gF W J
def wS{ae:Prop}{d:Decidable p}(W:p->A)(J:¬p->vn)(ay:xD (D<|decide p) A vn->ae:=by intro h;refine eU ?_;exact h):ae:=ay<|aT W J
def X7{ae:Prop}{d:Decidable p}(J:¬p->vn)(W:p->A)(ay:xD (D<|decide p) A vn->ae:=by intro h;refine eU ?_;exact h):ae:=ay<|aT W J
def Mq{ae:Prop}{d:Decidable p}(W:¬p->A)(J:p->vn)(ay:xD (D<|!decide p) A vn->ae:=by intro h;refine eU ?_;exact h):ae:=ay<|dN W J
def OP{ae:Prop}(W:b=f->A)(J:b=aC->vn)(ay:xD (D b) A vn->ae:=by intro h;refine eU ?_;exact h):ae:=ay<|gF W J
def vP(g:Nat->Nat)(c:Cl):Cl:=⟨c.k,g c.r,c.off,c.n,c.a,c.b⟩
def C8(m:Nat)(c:Cl):Bool:=bV (aA c.k 3||aA c.k 4) (aD 1 c.r&&aD c.r m) f
def kill(c:Cl):Cl:=bV (aA c.k 2) ⟨2,0,0,0,hh0,hh0⟩ c
def X8(h:g x.r=g hr.r->x.r=hr.r):yB (vP g x) (vP g hr)=yB x hr:=by
 unfold yB vP
 have:aA (g x.r) (g hr.r)=aA x.r hr.r:=by
  rw[gm,jP,jP];exact⟨h,λe=>by rw[e]⟩
 simp only[this]
def GY{a b:R}{l:Cl}(ha:a=hh0)(hn:l.n≠0):mY ⟨2,0,0,0,a,b⟩ l=aC:=by
 subst ha;unfold mY sameAt;show qo (aL (R.read hh0 l.r l.off l.n) _)=aC;have⟨k,hk⟩:=Nat.exists_eq_succ_of_ne_zero hn;rw[hk];rfl
def VP(h:C8 m x=f)(hk:x.k=3\/x.k=4):1<=x.r/\x.r<=m:=by
 unfold C8 at h
 have:(aA x.k 3||aA x.k 4)=f:=by
  rcases hk with e|e<;>rw[e]<;>rfl
 rw[this]at h;replace h:(aD 1 x.r&&aD x.r m)=f:=h;rw[bg]at h;exact⟨aF h.1,aF h.2⟩
def z8{a b:Nat}(h:a≠b):aA a b=aC:=by rw[<-b_];exactλe=>h<|aW e
theorem aaP(hg:∀i j,1<=i->i<=m->1<=j->j<=m->g i=g j->i=j)(E:C8 m x=f)(hy:C8 m hr=f)(b:Bool)(h:fH (kill hr) (kill x) b=f):fH (vP g hr) (vP g x) b=f:=by
 cases b with
 |true=>
  unfold fH at h|-;simp only[Bool.true_or]at h|-
  have ek:∀c:Cl,(kill c).k=c.k:=λc=>by
   unfold kill
   by_cases e:c.k=2
   .rw[e];rfl
   .rw[z8 e];rfl
  rw[ek,ek]at h;show bV (aA hr.k 0||aA x.k 0||aA hr.k 5||aA x.k 5) f _=f;exact h
 |false=>
  by_cases hx2:x.k=2
  .have kx:kill x=⟨2,0,0,0,hh0,hh0⟩:=by unfold kill;rw[hx2];rfl
   have ky:(kill hr).k=hr.k:=by
    unfold kill
    by_cases e:hr.k=2
    .rw[e];rfl
    .rw[z8 e];rfl
   unfold fH at h|-;rw[kx]at h;simp only[ky]at h;simp only[vP,hx2];simp only[show aA 2 0=aC from O,show aA 2 5=aC from O,show aA 2 3=aC from O,show aA 2 4=aC from O,show aA 2 1=aC from O,show aA 2 2=f from O,ny,qR,Bool.false_and,sS,jW,oz]at h|-
   by_cases h0:(aA hr.k 0||aA hr.k 5)=f
   .rw[h0];rfl
   .rw[b_]at h0;rw[h0]at h|-
    by_cases h3:hr.k=3
    .rw[h3]at h;cases h
    .rw[z8 h3]at h|-
     by_cases h4:hr.k=4
     .have hy2:kill hr=hr:=by unfold kill;rw[z8 N];rfl
      rw[hy2,h4]at h;replace h:mY ⟨2,0,0,0,hh0,hh0⟩ hr=f:=h
      by_cases hn:hr.n=0
      .rw[h4];show mY _ _=f;unfold mY sameAt;show qo (aL (R.read x.a (g hr.r) hr.off hr.n) λrg=>aL (R.read x.b (g hr.r) hr.off hr.n) λv=>gd (Fx rg v)<|D ())=f;rw[hn];rfl
      .rw[GY O hn]at h;cases h
     .rw[z8 h4]at h;cases h
  .have kx:kill x=x:=by unfold kill;rw[z8 hx2];rfl
   by_cases hy2:hr.k=2
   .have ky:kill hr=⟨2,0,0,0,hh0,hh0⟩:=by unfold kill;rw[hy2];rfl
    unfold fH at h|-;rw[ky,kx]at h;simp only[vP,hy2];simp only[show aA 2 0=aC from O,show aA 2 5=aC from O,show aA 2 3=aC from O,show aA 2 4=aC from O,show aA 2 1=aC from O,show aA 2 2=f from O,ny,qR,Bool.false_and,sS,jW,oz]at h|-
    by_cases h0:(aA x.k 0||aA x.k 5)=f
    .rw[h0];rfl
    .rw[b_]at h0;rw[h0]at h|-
     by_cases h3:x.k=3
     .rw[h3]at h;cases h
     .rw[z8 h3]at h|-
      by_cases h4:x.k=4
      .rw[h4]at h;replace h:mY ⟨2,0,0,0,hh0,hh0⟩ x=f:=h
       by_cases hn:x.n=0
       .rw[h4];show mY _ _=f;unfold mY sameAt;show qo (aL (R.read hr.a (g x.r) x.off x.n) λrg=>aL (R.read hr.b (g x.r) x.off x.n) λv=>gd (Fx rg v)<|D ())=f;rw[hn];rfl
       .rw[GY O hn]at h;cases h
      .rw[z8 h4]at h;cases h
   .have ky:kill hr=hr:=by unfold kill;rw[z8 hy2];rfl
    rw[kx,ky]at h
    by_cases hm:(x.k=3\/x.k=4)/\(hr.k=3\/hr.k=4)
    .have⟨a1,a2⟩:=VP E hm.1;have⟨b1,b2⟩:=VP hy hm.2;have e2:=X8 (g:=g) (x:=x) (hr:=hr)<|hg _ _ a1 a2 b1 b2;unfold fH at h|-;rw[e2];simp only[vP,z8 hx2,z8 hy2,jW]at h|-;exact h
    .unfold fH at h|-;simp only[vP,z8 hx2,z8 hy2,jW]at h|-
     by_cases x3:x.k=3
     .have y3:hr.k≠3:=λe=>hm ⟨.inl x3,.inl e⟩;have y4:hr.k≠4:=λe=>hm ⟨.inl x3,.inr e⟩;rw[z8 y3,z8 y4]at h|-;exact h
     .by_cases x4:x.k=4
      .have y3:hr.k≠3:=λe=>hm ⟨.inr x4,.inl e⟩;have y4:hr.k≠4:=λe=>hm ⟨.inr x4,.inr e⟩;rw[z8 y3,z8 y4]at h|-;exact h
      .rw[z8 x3,z8 x4]at h|-;exact h
def Al{a:Bool}(h:bV a b aC=f):a=f/\b=f:=by
 cases a with
 |true=>exact⟨O,h⟩
 |false=>cases h
def KP(hg:∀i j,1<=i->i<=m->1<=j->j<=m->g i=g j->i=j):∀(ms:C Nat)(l:C Cl),(∀c∈l,C8 m c=f)->pairs fH ms (l.map kill)=f->pairs fH ms (l.map<|vP g)=f:=by
 have row:∀(x:Cl)(k:Nat)(l:C Cl),C8 m x=f->(∀c∈l,C8 m c=f)->ji fH (kill x) k (l.map kill)=f->ji fH (vP g x) k (l.map<|vP g)=f:=by
  intro x k l E
  induction l with
  |nil=>intro _ _;rfl
  |cons hr l ih=>
   intro h W;replace W:bV (fH (kill x) (kill hr)<|gZ k<|len<|l.map kill) (ji fH (kill x) k<|l.map kill) aC=f:=W;have⟨J,h3⟩:=Al W;show bV (fH (vP g x) (vP g hr)<|gZ k<|len<|l.map<|vP g) (ji fH (vP g x) k<|l.map<|vP g) aC=f;rw[fU,aK]at J|-;rw[aaP hg (h hr<|aN ..) E _ J,ih (λc hc=>h c<|bH _ hc) h3];rfl
 intro ms
 induction ms with
 |nil=>intro l _ _;rfl
 |cons k ms ih=>
  intro l h W;cases l with
  |nil=>rfl
  |cons x l=>
   replace W:bV (ji fH (kill x) k<|l.map kill) (pairs fH ms<|l.map kill) aC=f:=W;have⟨J,h3⟩:=Al W;show bV (ji fH (vP g x) k<|l.map<|vP g) (pairs fH ms<|l.map<|vP g) aC=f;rw[row x k l (h x<|aN ..) (λc hc=>h c<|bH _ hc) J,ih l (λc hc=>h c<|bH _ hc) h3];rfl
def C9(hg:∀i j,1<=i->i<=m->1<=j->j<=m->g i=g j->i=j){l:C Cl}(hl:all' (C8 m) l=f)(h:jT ops (l.map kill)=f):jT ops (l.map<|vP g)=f:=by
 rw[all_eq,eG]at hl
 have e:noTwo (l.map<|vP g)=noTwo (l.map kill):=by
  unfold noTwo;rw[all_eq,all_eq,List.all_map,List.all_map];congr 1;funext c;show(!(aA c.k 2||aA c.k 3))=(!(aA (kill c).k 2||aA (kill c).k 3));unfold kill
  by_cases e:c.k=2
  .rw[e];rfl
  .rw[z8 e];rw[jW,z8 e]
 unfold jT at h|-;rw[e]
 by_cases J:noTwo (l.map kill)=f
 .rw[J];rfl
 .rw[b_]at J;rw[J]at h|-;exact KP hg _ l hl h
def g3(a b c d:Nat):Nat->Nat
 |1=>a
 |2=>b
 |3=>c
 |4=>d
 |_=>0
theorem lQ{ak:Nat->Nat->C Cl}{a b:Nat}{K:Prop}(hab:a≠b)(hC:∀a b,ak a b=(ak 1 2).map (vP<|g3 a b 0 0))(hk:all' (C8 2) (ak 1 2)=f)(h:jT ops ((ak 1 2).map kill)=f)(k:K):jT ops (ak a b)=f/\K:=by
 refine⟨?_,k⟩;rw[hC];refine C9 (m:=2) (λi j W J h3 h4 e=>?_) hk h;have hi:i=1\/i=2:=N;have hj:j=1\/j=2:=N;rcases hi with rfl|rfl<;>rcases hj with rfl|rfl<;>first|rfl|exact absurd e hab|exact absurd e.symm hab
theorem xG{a b:Nat}{K:Prop}(hab:a≠b)(hac:a≠c)(hbc:b≠c)(hC:∀a b c,ak a b c=(ak 1 2 3).map (vP<|g3 a b c 0))(hk:all' (C8 3) (ak 1 2 3)=f)(h:jT ops ((ak 1 2 3).map kill)=f)(k:K):jT ops (ak a b c)=f/\K:=by
 refine⟨?_,k⟩;rw[hC];refine C9 (m:=3) (λi j W J h3 h4 e=>?_) hk h;have hi:i=1\/i=2\/i=3:=N;have hj:j=1\/j=2\/j=3:=N;rcases hi with rfl|rfl|rfl<;>rcases hj with rfl|rfl|rfl<;>first|rfl|exact absurd e hab|exact absurd e.symm hab|exact absurd e hac|exact absurd e.symm hac|exact absurd e hbc|exact absurd e.symm hbc
theorem aaQ{ak:Nat->Nat->Nat->Nat->C Cl}{a b d:Nat}{K:Prop}(hab:a≠b)(hac:a≠c)(had:a≠d)(hbc:b≠c)(hbd:b≠d)(hcd:c≠d)(hC:∀a b c d,ak a b c d=(ak 1 2 3 4).map (vP<|g3 a b c d))(hk:all' (C8 4) (ak 1 2 3 4)=f)(h:jT ops ((ak 1 2 3 4).map kill)=f)(k:K):jT ops (ak a b c d)=f/\K:=by
 refine⟨?_,k⟩;rw[hC];refine C9 (m:=4) (λi j W J h3 h4 e=>?_) hk h;have hi:i=1\/i=2\/i=3\/i=4:=N;have hj:j=1\/j=2\/j=3\/j=4:=N;rcases hi with rfl|rfl|rfl|rfl<;>rcases hj with rfl|rfl|rfl|rfl<;>first|rfl|exact absurd e hab|exact absurd e.symm hab|exact absurd e hac|exact absurd e.symm hac|exact absurd e had|exact absurd e.symm had|exact absurd e hbc|exact absurd e.symm hbc|exact absurd e hbd|exact absurd e.symm hbd|exact absurd e hcd|exact absurd e.symm hcd
theorem EL{ak:Nat->C Cl}{a:Nat}{K:Prop}(hC:∀a,ak a=(ak 1).map (vP<|g3 a 0 0 0))(hk:all' (C8 1) (ak 1)=f)(h:jT ops ((ak 1).map kill)=f)(k:K):jT ops (ak a)=f/\K:=by
 refine⟨?_,k⟩;rw[hC];refine C9 (m:=1) (λi j W J h3 h4 e=>?_) hk h;omega
def vQ(H T:R):DY H T=cl 1\/DY H T=⟨2,0,0,0,H,T⟩:=by
 show bV (aD H.next T.low) _ _=_\/bV (aD H.next T.low) _ _=_;cases aD H.next T.low with
 |true=>exact .inl O
 |false=>exact .inr O
def F.aaR{S:C Nat}(G:F S H0 H<|cs++L)(h:F (cs.map (·.1)) (Go.Ae.hN H) T M'):F S H0 (hM H T) (M'++L):=
 G.turn h.ext.draw (λe he=>⟨h.bk e he,h.lo e he⟩) h.ne
def F.apart{S:C Nat}{A vn:C dL}(G:F S H0 H<|A++vn){x hr:dL}(E:x∈A)(hy:hr∈vn):x.1≠hr.1:=(lV.1 G.ne).2.2 x E hr hy
def je.one{S:C Nat}{SH:Nat->Prop}{r:Nat}(G:F S H0 H L)(hm:((r,ty,M):dL)∈L)(hn:M.length=n*es)(hF:SH r):je SH ty H (D ⟨r,0,Q⟩) n es M:=
 ⟨(G.bk _ hm).fl (G.lo _ hm).2 hn,λr' o e _=>by cases e;exact⟨hF,(G.lo _ hm).2,(G.bk _ hm).Jc⟩⟩
def F.nq{S:C Nat}(G:F S H0 H L)(i j:Nat){r r':Nat}{t':aH}{x hr:C Z}(hi:L[i]?=D (r,t,x))(hj:L[j]?=D (r',t',hr))(hij:i<j):r≠r':=by
 have⟨W,e1⟩:=bE.1 hi;have⟨J,e2⟩:=bE.1 hj;have:=j5.1 G.ne i j W J hij;rw[e1,e2]at this;exact this
def F.neq{S:C Nat}(G:F S H0 H L)(i j:Nat){x hr:dL}(hi:L[i]?=D x)(hj:L[j]?=D hr)(hij:i<j):x.1≠hr.1:=by
 obtain⟨W,rfl⟩:=bE.1 hi;obtain⟨J,rfl⟩:=bE.1 hj;exact j5.1 G.ne i j W J hij
def IB(ty:aH)(es:Nat):C (C Z)->C Z->C dL->Prop
 |[],[],az=>az=[]
 |ks::Gn,v::vs,az=>∃gb R',az=gb++R'/\GB ty es v ks gb/\IB ty es Gn vs R'
 |_,_,_=>False
def IB.len:∀{Gn:C (C Z)}{vs:C Z}{az:C dL},IB ty es Gn vs az->Gn.length=vs.length
 |[],[],az,h=>rfl
 |ks::Gn,v::vs,az,⟨gb,R',_,_,h⟩=>dW bW h.len
 |[],v::vs,az,h=>h.elim
 |ks::Gn,[],az,h=>h.elim
def IB.aaS:∀n,IB ty es (aX n []) (aX n<|I Q 0 0) []
 |0=>rfl
 |n+1=>⟨[],[],rfl,GB.nil _ _,IB.aaS n⟩
def IB.at:∀{Gn:C (C Z)}{vs:C Z}{az:C dL}(i:Nat),IB ty es Gn vs az->(h:i<vs.length)->∃A gb vn,az=A++(gb++vn)/\GB ty es vs[i] (Gn[i]?.getD []) gb/\
 ∀v' ks' gQ,GB ty es v' ks' gQ->IB ty es (Gn.set i ks') (vs.set i v') (A++(gQ++vn))
 |ks::Gn,v::vs,az,0,h,_=>by
  obtain⟨gb,R',rfl,W,h4⟩:=h;exact⟨[],gb,R',O,W,λv' ks' gQ g1=>⟨gQ,R',rfl,g1,h4⟩⟩
 |ks::Gn,v::vs,az,i+1,h,hi=>by
  obtain⟨gb,R',rfl,W,h4⟩:=h;obtain⟨A,Zf,vn,rfl,g1,g4⟩:=IB.at i h4 (mg hi);refine⟨gb++A,Zf,vn,by rw[bU],g1,λv' ks' gQ k1=>?_⟩;exact⟨gb,A++(gQ++vn),by rw[bU],W,g4 v' ks' gQ k1⟩
 |[],[],az,i,h,hi=>absurd hi kg
 |[],v::vs,az,i,h,hi=>h.elim
 |ks::Gn,[],az,i,h,hi=>h.elim
def IB.snoc:∀{Gn:C (C Z)}{vs:C Z}{az gb:C dL}{ks:C Z}{v:Z},IB ty es Gn vs az->GB ty es v ks gb->IB ty es (Gn++[ks]) (vs++[v]) (az++gb)
 |[],[],az,gb,ks,v,h,hg=>by
  subst h;exact⟨gb,[],by simp,hg,rfl⟩
 |k::Gn,w::vs,az,gb,ks,v,⟨gb0,R',W,J,h3⟩,hg=>⟨gb0,R'++gb,by rw[W,bU],J,h3.snoc hg⟩
 |[],v::vs,az,gb,ks,w,h,hg=>h.elim
 |ks::Gn,[],az,gb,k,v,h,hg=>h.elim
def IB.all{S:C Nat}:∀{Gn:C (C Z)}{vs:C Z}{az L:C dL},IB ty es Gn vs az->F S H0 H (az++L)->∀i(h:i<vs.length),∃a n c,vs[i]=I a n c/\(Gn[i]?.getD []).length=n*es/\je (λr=>r∈az.map (·.1)) ty H a n es (Gn[i]?.getD [])
 |[],[],az,L,h,G=>λi hi=>absurd hi kg
 |ks::Gn,v::vs,az,L,⟨gb,R',W,J,h4⟩,G=>by
  subst W;rw[bU]at G;intro i hi;cases i with
  |zero=>
   have⟨a,n,c,e,hl,hf⟩:=J.IA (SH:=λr=>r∈(gb++R').map (·.1)) G λe he=>bQ.2 ⟨e,dn _ he,rfl⟩;exact⟨a,n,c,e,hl,hf⟩
  |succ i=>
   have⟨a,n,c,e,hl,hf⟩:=IB.all h4 (F.drop G) i<|mg hi;refine⟨a,n,c,e,hl,hf.wk λr y=>?_⟩;obtain⟨e,he,rfl⟩:=bQ.1 y;exact bQ.2 ⟨e,cZ _ he,O⟩
 |[],v::vs,az,L,h,G=>h.elim
 |ks::Gn,[],az,L,h,G=>h.elim
section
variable{S:C Nat}{r:Nat}
def FV(h:k<n):zN 1 (I (D ⟨r,o,Q⟩) n c) (B k)=D (.pointer<|D ⟨r,o+k,Q⟩):=by rw[tX h,dz]
def VQ(hi:i<M.length):splice M i [v]=M.set i v:=by
 apply h_;intro j;rw[qG (by show i+1<=_;omega),dG]
 by_cases h:i<=j/\j<i+[v].length
 .have:i=j:=by have:=h.2;simp at this;omega
  subst this;rw[if_pos h,if_pos O,if_pos hi,jc];rfl
 .rw[if_neg h,if_neg λe=>h (by subst e;simp)]
def F.ix{K:Z->Z->R->Prop}(G:F S H0 H L)[hb:Ak L r ty M](hk:k<n)(hv:M[k]?=D v)(kk:∀p,K p v H):
 PU (zN 1 (I (D ⟨r,0,Q⟩) n c)<|B k) λp=>ME (vH Q p H) (K p):=by
 have⟨i,hi⟩:=hb.at';refine PU.of (FV hk) ?_;rw[aY];exact G.ld i hi hv<|kk _
def F.Zg{K:Z->Z->R->Prop}(G:F S H0 H L)[hb:EK L r (λM=>M.set k v) ty M L'](hk:k<n)(hl:k<M.length)(hc:bK v=[v]:=by rfl)(ho:fC v=f:=by rfl)(kk:∀p H1,F S H0 H1 L'->K p undef H1):
 PU (zN 1 (I (D ⟨r,0,Q⟩) n c)<|B k) λp=>ME (CW 1 p v H) (K p):=by
 have⟨i,hi,e⟩:=hb.at';refine PU.of (FV hk) ?_;rw[aY];refine G.st i hi (by rw[hc];rfl) N (by rw[hc];show bV (fC v) _ _=_;rw[ho];rfl) λH1 h=>kk _ H1 ?_;rw[e];rw[hc,VQ hl]at h;exact h
def je.ix{SH:Nat->Prop}{K:Z->Z->R->Prop}(h:je SH ty H a n 1 M)(hk:k<n)(hv:M[k]?=D v)(kk:∀p,K p v H):
 PU (zN 1 (I a n c)<|B k) λp=>ME (vH Q p H) (K p):=by
 have⟨r,o,W,J,h3,_⟩:=h.1.idx (c:=c) (dM 0) hk;refine PU.of W<|ME.ld ?_<|kk _;have:=h3 0 v (dM 0) (by rw[dz,dH];exact hv);exact this
def je.TM{SH:Nat->Prop}{K:Z->Z->R->Prop}(h:je SH ty H a n es M)(he:0<es)(hk:k<n){l:C Z}(hl:El M es k=l)(kk:∀p,K p (.agg ⟨l⟩) H):
 PU (zN es (I a n c)<|B k) λp=>ME (vH (D es) p H) (K p):=by
 have⟨r,o,W,J,h3,_⟩:=h.1.idx (c:=c) he hk;refine PU.of W ?_
 have hlen:k*es+es<=M.length:=by
  have:(k+1)*es<=n*es:=eY es hk;rw[gX]at this;have:=h.1.1;omega
 refine ME.rZ ?_<|kk _;obtain⟨v0,hv0⟩:∃v0,M[k*es]?=D v0:=⟨_,av N⟩;rw[<-hl]
 have hn:∀m,m<=es->H.read r o m=D ((M.drop<|k*es).take m):=by
  intro m hm
  have key:∀i,i<m->H.cell r (o+i)=M[k*es+i]?:=λi hi=>by
   have:k*es+i<M.length:=N;rw[av this];exact h3 i _ N<|av this
  cases m with
  |zero=>show D []=_;simp
  |succ m=>
   obtain⟨az,hR⟩:∃az,H.obj r=.row az:=by
    have h0:=key m N;rw[av N]at h0;unfold R.cell at h0;cases y:H.obj r with
    |row az=>exact⟨az,O⟩
    |_=>rw[y]at h0;cases h0
   have cl:∀i,i<m+1->o+i<az.n/\D (az.cells.get top<|o+i)=M[k*es+i]?:=λi hi=>by
    have h0:=key i hi;rw[av N]at h0;unfold R.cell at h0;rw[hR]at h0;have h0:gd (aD (bW<|o+i) az.n) (D<|az.cells.get top<|o+i)=_:=h0;cases hb:aD (bW<|o+i) az.n with
    |false=>rw[hb]at h0;cases h0
    |true=>
     rw[hb]at h0;refine⟨aF hb,?_⟩;rw[av N];exact h0
   show(aL (vZ<|H.obj r) λw=>gd (aD (aZ o<|m+1) w.n)<|D<|Tr.Ep top w.cells o<|m+1)=_;rw[hR];show gd (aD (aZ o<|m+1) az.n) (D<|Tr.Ep top az.cells o<|m+1)=_;rw[aI (show aZ o (m+1)<=az.n from(cl m N).1)];refine dW D ?_
   have gen:∀j p,(∀i,i<j->D (az.cells.get top<|o+p+i)=M[k*es+p+i]?)->Tr.Ep top az.cells (o+p) j=(M.drop<|k*es+p).take j:=by
    intro j
    induction j with
    |zero=>intro p _;rw[Tr.Cz];simp
    |succ j ih=>
     intro p hp;have h0:=hp 0 N;rw[dH,dH]at h0;have⟨hl0,e0⟩:=bE.1 h0.symm
     rw[Tr.xU,show o+p+1=o+(p+1) by omega,ih (p+1) (λi hi=>by
      have:=hp (i+1) N;rw[show o+(p+1)+i=o+p+(i+1) by omega,show k*es+(p+1)+i=k*es+p+(i+1) by omega];exact this),dY hl0,jg,e0]
     rfl
   have:=gen (m+1) 0 (λi hi=>by rw[dH,dH];exact(cl i hi).2);exact this
 exact hn es<|ax _
theorem F.ns{z:C Z}{K:Z->Z->R->Prop}(G:F S H0 H L)(hl:(bK v).length=m)(hz:z.length=m)(hk:all' fC (bK v)=f)(kk:∀H2 r,F S H0 H2 ((r,ty,bK v)::L)->Ext H H2->K (.pointer<|D ⟨r,0,Q⟩) undef H2):ME (Go.Ae.iX ty z H) λp H1=>ME (Go.Ae.CW m p v H1) λrg H2=>K p rg H2:=by
 have hO:=F.refl G.wf;refine hO.iX λH1 r hO=>hO.st 0 O hl N hk λH2 hO=>?_;have hO:F [] H H2 [(r,ty,splice z 0<|bK v)]:=hO;rw[nL _ _ N]at hO;exact kk H2 r (F.frame (cs:=[]) (L:=L) G hO) hO.ext
def iG(P cs L:C dL):(P++(cs++L)).Perm (cs++(P++L)):=by
 rw[<-bU,<-bU];exact pX _ aG
def F.nD(G:F S H0 H L){z:C Z}(k:∀H1 r,F S H0 (hM H H1) ((r,e,z)::L)->Ml H H1=cl 5->K (.pointer<|D ⟨r,0,Q⟩) H1):ME (Go.Ae.iX e z<|Go.Ae.hN H) K:=
 ME.of rfl (k _ _ (G.yG e z)<|xQ<|Ext.new _ _)
def GB.push{x z:C Z}{w:Z}{xs:C Z}{K:Z->Z->R->Prop}(hg:GB ty es v xs gb)(G:F S H0 H<|gb++L)(he:0<es)(hz:z.length=es)(hw:bK w=x)(E:x.length=es)(ht:pZ w=f)(hok:all' Go.Ae.fC x=f)(hb:es<=16777216)(hc:xs.length<=16777216)(kk:∀q v' T gQ,GB ty es v' (xs++x) gQ->F S H0 T (gQ++L)->K q v' T):ME (bS ty z es 1 [(0,w)] H) λq H1=>ME (zY ty es v q H1) (K q):=by
 refine G.bS hz ht (by rw[hw];exact E) hb λH1 rx hS1=>?_;rw[hw]at hS1;have⟨v',H6,gQ,e1,hg',wM,_⟩:=hg.app (m:=0) (cx:=1) hS1 he N hok N hc;exact ME.of e1<|kk _ v' H6 gQ hg' wM
end
def g7(c:Cl):Cl:=bV (aA c.k 2) ⟨7,0,0,0,hh0,hh0⟩ c
def aaT{c:Cl}(h:c.k=2):g7 c=⟨7,0,0,0,hh0,hh0⟩:=by unfold g7;rw[h];rfl
def aaU{c:Cl}(h:c.k≠2):g7 c=c:=by unfold g7;rw[z8 h];rfl
def KQ(h:fH (g7 hr) (g7 x) b=f)(E:hr.k=2->x.k=4->mY hr x=f)(hy:x.k=2->hr.k=4->mY x hr=f):fH hr x b=f:=by
 by_cases y2:hr.k=2
 .rw[aaT y2]at h
  by_cases x2:x.k=2
  .rw[aaT x2]at h;unfold fH;rw[y2,x2];exact h
  .rw[aaU x2]at h;unfold fH at h|-;rw[y2]
   by_cases x0:x.k=0
   .rw[x0];rfl
   by_cases x5:x.k=5
   .rw[x5];rfl
   by_cases x3:x.k=3
   .rw[x3]at h;cases h
   by_cases x4:x.k=4
   .have:=E y2 x4;rw[x4];show(b||mY hr x)=f;rw[this];cases b<;>rfl
   .rw[z8 x0,z8 x5,z8 x3,z8 x4]at h|-;have h:bV (aA x.k 1&&aC) f b=f:=h;show bV (aA x.k 1&&aC) f b=f;exact h
 .rw[aaU y2]at h
  by_cases x2:x.k=2
  .rw[aaT x2]at h;unfold fH at h|-;rw[x2]
   by_cases y0:hr.k=0
   .rw[y0];rfl
   by_cases y5:hr.k=5
   .rw[y5];rfl
   by_cases y3:hr.k=3
   .rw[y3]at h|-;exact h
   by_cases y4:hr.k=4
   .have:=hy x2 y4;rw[y4];show(b||mY x hr)=f;rw[this];cases b<;>rfl
   .rw[z8 y0,z8 y5,z8 y3,z8 y4]at h|-;exact h
  .rw[aaU x2]at h;exact h
def EM{α:Type}(p:α->Prop):C α->Prop
 |[]=>True
 |x::l=>p x/\EM p l
def EM.mem{p:α->Prop}:∀{l:C α},EM p l->∀x∈l,p x
 |hr::l,h,x,E=>by
  rcases bP.1 E with rfl|E
  .exact h.1
  .exact EM.mem h.2 x E
def RdA(A vn:R)(c:Cl):Prop:=(c.k=2->c.a=A/\c.b=vn)/\(c.k=4->mY ⟨2,0,0,0,A,vn⟩ c=f)
def RdA.rd{A vn:R}(E:RdA A vn x)(hy:RdA A vn hr)(J:hr.k=2)(h4:x.k=4):mY hr x=f:=by
 have⟨e1,e2⟩:=hy.1 J;have:=E.2 h4;unfold mY at this|-;rw[e1,e2];exact this
def aaV{A vn:R}:∀(ms:C Nat)(l:C Cl),EM (RdA A vn) l->pairs fH ms (l.map g7)=f->pairs fH ms l=f:=by
 have row:∀(x:Cl)(k:Nat)(l:C Cl),RdA A vn x->EM (RdA A vn) l->ji fH (g7 x) k (l.map g7)=f->ji fH x k l=f:=by
  intro x k l E
  induction l with
  |nil=>intro _ _;rfl
  |cons hr l ih=>
   intro h W;replace W:bV (fH (g7 x) (g7 hr)<|gZ k<|len<|l.map g7) (ji fH (g7 x) k<|l.map g7) aC=f:=W;have⟨J,h3⟩:=Al W;show bV (fH x hr<|gZ k<|len l) (ji fH x k l) aC=f;rw[fU,aK]at J;rw[fU,KQ J (λa b=>h.1.rd E a b) λa b=>E.rd h.1 a b,ih h.2 h3];rfl
 intro ms
 induction ms with
 |nil=>intro l _ _;rfl
 |cons k ms ih=>
  intro l h W;cases l with
  |nil=>rfl
  |cons x l=>
   replace W:bV (ji fH (g7 x) k<|l.map g7) (pairs fH ms<|l.map g7) aC=f:=W;have⟨J,h3⟩:=Al W;show bV (ji fH x k l) (pairs fH ms l) aC=f;rw[row x k l h.1 h.2 J,ih l h.2 h3];rfl
def VS(l:C Cl):(l.map g7).map kill=l.map g7:=by
 rw[vw];apply List.map_congr_left;intro c _;show kill (g7 c)=g7 c
 by_cases h:c.k=2
 .rw[aaT h];rfl
 .rw[aaU h];unfold kill;rw[z8 h];rfl
def aaW{l l1:C Cl}{A vn:R}(hg:∀i j,1<=i->i<=m->1<=j->j<=m->g i=g j->i=j)(hC:l.map g7=(l1.map g7).map (vP g))(hk:all' (C8 m) (l1.map g7)=f)(h:pairs fH (tT ops.toList [] 0) (l1.map g7)=f)(y:EM (RdA A vn) l):jT ops l=f:=by
 unfold jT
 have:pairs fH (tT ops.toList [] 0) l=f:=by
  refine aaV (A:=A) (vn:=vn) _ l y ?_;rw[hC];rw[all_eq,eG]at hk;refine KP hg _ _ hk ?_;rw[VS];exact h
 rw[this];cases noTwo l<;>rfl
theorem JE{ak:Nat->Nat->C Cl}{a b:Nat}{A vn:R}{K:Prop}(hab:a≠b)(hC:(ak a b).map g7=((ak 1 2).map g7).map (vP<|g3 a b 0 0))(hk:all' (C8 2) ((ak 1 2).map g7)=f)(h:pairs fH (tT ops.toList [] 0) ((ak 1 2).map g7)=f)(k:K)(y:EM (RdA A vn)<|ak a b):jT ops (ak a b)=f/\K:=by
 refine⟨aaW (m:=2) (λi j W J h3 h4 e=>?_) hC hk h y,k⟩;have hi:i=1\/i=2:=N;have hj:j=1\/j=2:=N;rcases hi with rfl|rfl<;>rcases hj with rfl|rfl<;>first|rfl|exact absurd e hab|exact absurd e.symm hab
theorem OQ{a b:Nat}{A vn:R}{K:Prop}(hab:a≠b)(hac:a≠c)(hbc:b≠c)(hC:(ak a b c).map g7=((ak 1 2 3).map g7).map (vP<|g3 a b c 0))(hk:all' (C8 3) ((ak 1 2 3).map g7)=f)(h:pairs fH (tT ops.toList [] 0) ((ak 1 2 3).map g7)=f)(k:K)(y:EM (RdA A vn)<|ak a b c):jT ops (ak a b c)=f/\K:=by
 refine⟨aaW (m:=3) (λi j W J h3 h4 e=>?_) hC hk h y,k⟩;have hi:i=1\/i=2\/i=3:=N;have hj:j=1\/j=2\/j=3:=N;rcases hi with rfl|rfl|rfl<;>rcases hj with rfl|rfl|rfl<;>first|rfl|exact absurd e hab|exact absurd e.symm hab|exact absurd e hac|exact absurd e.symm hac|exact absurd e hbc|exact absurd e.symm hbc
def sH(k:fB)(n:Int):nG (.int k n) (.int k n)=f:=by
 have h:Zx (.int k n) (.int k n)=f:=by
  show qo (gd (aA (qJ k) (qJ k)&&Jq n n)<|D ())=f;rw[BJ,BI,bL O];rfl
 unfold nG Eu Ar;rw[h];rfl
def oF(a:aB Addr)(n c:Nat)(h:∀x,a=D x->x.spot=Q):nG (I a n c) (I a n c)=f:=by
 have W:Js a a=f:=by
  cases a with
  |none=>rfl
  |some x=>
   show addrEq x x=f;unfold addrEq;rw[h x O,dD,dD];rfl
 have J:afB (I a n c) (I a n c)=f:=by
  show qo (gd (Js a a&&aA n n&&aA c c)<|D ())=f;rw[W,dD,dD];rfl
 unfold nG Eu Ar;rw[J];cases Zx (I a n c) (I a n c)<;>cases Zw (I a n c) (I a n c)<;>rfl
def xH:∀{l:C Z},(∀v∈l,nG v v=f)->Fx l l=f
 |[],_=>rfl
 |x::l,h=>by
  show bV (nG x x) (Fx l l) aC=f;rw[h x (aN ..),xH λv hv=>h v<|bH _ hv];rfl
def pP{A vn:R}{r:Nat}{a b:R}(hA:Bk A r ty M)(hB:Bk vn r ty M)(hn:o+n<=M.length)(hs:∀v∈(M.drop o).take n,nG v v=f):mY ⟨2,0,0,0,A,vn⟩ ⟨4,r,o,n,a,b⟩=f:=
 ze (hA.read hn) (hB.read hn) (xH hs)
def g8(c:Cl):Cl:=⟨bV (aA c.k 2) 7 c.k,0,0,0,hh0,hh0⟩
def RdT(H':Cl->Prop)(c:Cl):Prop:=(c.k=2->H' c)/\(c.k=4->∀w,H' w->mY w c=f)
def aaX(x3:x.k≠3)(y3:hr.k≠3)(h:fH (g8 hr) (g8 x) b=f)(E:hr.k=2->x.k=4->mY hr x=f)(hy:x.k=2->hr.k=4->mY x hr=f):fH hr x b=f:=by
 refine KQ ?_ E hy
 have e:∀c:Cl,c.k≠3->(g7 c).k=(g8 c).k/\(g7 c).k≠3/\(g7 c).k≠2:=λc hc=>by
  by_cases J:c.k=2
  .rw[aaT J];unfold g8;rw[J];exact⟨O,by decide,by decide⟩
  .rw[aaU J];unfold g8;rw[z8 J];exact⟨O,hc,J⟩
 have⟨e1,e2,e3⟩:=e x x3;have⟨f1,f2,f3⟩:=e hr y3;have g1:(g8 x).k≠3:=by rw[<-e1];exact e2
 have g2:(g8 hr).k≠3:=by rw[<-f1];exact f2
 have g3:(g8 x).k≠2:=by rw[<-e1];exact e3
 have g4:(g8 hr).k≠2:=by rw[<-f1];exact f3
 unfold fH at h|-;rw[z8 g1,z8 g2,z8 g3,z8 g4]at h;rw[z8 e2,z8 f2,z8 e3,z8 f3,e1,f1];exact h
def aaY:∀(ms:C Nat)(l:C Cl),EM (RdT H') l->(∀c∈l,c.k≠3)->pairs fH ms (l.map g8)=f->pairs fH ms l=f:=by
 have row:∀(x:Cl)(k:Nat)(l:C Cl),RdT H' x->x.k≠3->EM (RdT H') l->(∀c∈l,c.k≠3)->ji fH (g8 x) k (l.map g8)=f->ji fH x k l=f:=by
  intro x k l E hx3
  induction l with
  |nil=>intro _ _ _;rfl
  |cons hr l ih=>
   intro h h3 W;replace W:bV (fH (g8 x) (g8 hr)<|gZ k<|len<|l.map g8) (ji fH (g8 x) k<|l.map g8) aC=f:=W;have⟨J,h4⟩:=Al W;show bV (fH x hr<|gZ k<|len l) (ji fH x k l) aC=f;rw[fU,aK]at J;rw[fU,aaX (h3 hr<|aN ..) hx3 J (λa b=>h.1.2 b x<|E.1 a) λa b=>E.2 b hr<|h.1.1 a,ih h.2 (λc hc=>h3 c<|bH _ hc) h4];rfl
 intro ms
 induction ms with
 |nil=>intro l _ _ _;rfl
 |cons k ms ih=>
  intro l h h3 W;cases l with
  |nil=>rfl
  |cons x l=>
   replace W:bV (ji fH (g8 x) k<|l.map g8) (pairs fH ms<|l.map g8) aC=f:=W;have⟨J,h4⟩:=Al W;show bV (ji fH x k l) (pairs fH ms l) aC=f;rw[row x k l h.1 (h3 x<|aN ..) h.2 (λc hc=>h3 c<|bH _ hc) J,ih l h.2 (λc hc=>h3 c<|bH _ hc) h4];rfl
def C_{l:C Cl}{K:Prop}(h3:all' (λc=>!(aA c.k 3)) (l.map g8)=f)(h:pairs fH (tT ops.toList [] 0) (l.map g8)=f)(k:K)(y:EM (RdT H') l):jT ops l=f/\K:=by
 refine⟨?_,k⟩;unfold jT
 have:pairs fH (tT ops.toList [] 0) l=f:=by
  refine aaY _ l y (λc hc e=>?_) h;rw[all_eq,eG]at h3;have:=h3 (g8 c)<|List.mem_map_of_mem hc;unfold g8 at this;rw[e]at this;cases this
 rw[this];cases noTwo l<;>rfl
def X9:∀(ms:C Nat)(l:C Cl),EM (RdT H') l->pairs fH ms (l.map g7)=f->pairs fH ms l=f:=by
 have row:∀(x:Cl)(k:Nat)(l:C Cl),RdT H' x->EM (RdT H') l->ji fH (g7 x) k (l.map g7)=f->ji fH x k l=f:=by
  intro x k l E
  induction l with
  |nil=>intro _ _;rfl
  |cons hr l ih=>
   intro h W;replace W:bV (fH (g7 x) (g7 hr)<|gZ k<|len<|l.map g7) (ji fH (g7 x) k<|l.map g7) aC=f:=W;have⟨J,h3⟩:=Al W;show bV (fH x hr<|gZ k<|len l) (ji fH x k l) aC=f;rw[fU,aK]at J;rw[fU,KQ J (λa b=>h.1.2 b x<|E.1 a) λa b=>E.2 b hr<|h.1.1 a,ih h.2 h3];rfl
 intro ms
 induction ms with
 |nil=>intro l _ _;rfl
 |cons k ms ih=>
  intro l h W;cases l with
  |nil=>rfl
  |cons x l=>
   replace W:bV (ji fH (g7 x) k<|l.map g7) (pairs fH ms<|l.map g7) aC=f:=W;have⟨J,h3⟩:=Al W;show bV (ji fH x k l) (pairs fH ms l) aC=f;rw[row x k l h.1 h.2 J,ih l h.2 h3];rfl
theorem aeo{ak:Nat->C Cl}{a:Nat}{K:Prop}(hC:(ak a).map g7=((ak 1).map g7).map (vP<|g3 a 0 0 0))(hk:all' (C8 1) ((ak 1).map g7)=f)(h:pairs fH (tT ops.toList [] 0) ((ak 1).map g7)=f)(k:K)(y:EM (RdT H')<|ak a):jT ops (ak a)=f/\K:=by
 refine⟨?_,k⟩;unfold jT
 have:pairs fH (tT ops.toList [] 0) (ak a)=f:=by
  refine X9 (H':=H') _ _ y ?_;rw[hC];rw[all_eq,eG]at hk;refine KP (m:=1) (λi j W J h3 h4 e=>N) _ _ hk ?_;rw[VS];exact h
 rw[this];cases noTwo (ak a)<;>rfl
def aep{S:C Nat}{X H3:R}{r:Nat}{a b:R}{w:Cl}(hw:w.a=X/\w.b=H3)(E:oN S (hN X) H3)(y:r<X.next)(hn:r∉S)(h:X.read r o n=D vs)(hs:∀v∈vs,nG v v=f):mY w ⟨k,r,o,n,a,b⟩=f:=by
 unfold mY;rw[hw.1,hw.2];have J:H3.read r o n=D vs:=(rJ (E.obj r y hn) o n).trans h;exact ze h J<|xH hs
def QO{r:Nat}(h:H.cell r o=D v):H.read r o 1=D [v]:=by
 unfold R.cell at h;cases y:H.obj r with
 |row az=>
  rw[y]at h;replace h:gd (aD (bW o) az.n) (D<|az.cells.get top o)=D v:=h;cases hb:aD (bW o) az.n with
  |false=>rw[hb]at h;cases h
  |true=>
   rw[hb]at h;have h:D (az.cells.get top o)=D v:=h;show(aL (vZ<|H.obj r) λw=>gd (aD (aZ o 1) w.n)<|D<|Tr.Ep top w.cells o 1)=_;rw[y];show gd (aD (bW o) az.n) (D<|Tr.Ep top az.cells o 1)=_;rw[hb,Tr.xU,Tr.Cz];rw[dK h];rfl
 |_=>rw[y]at h;cases h
def X_(r o:Nat):Ar (.pointer<|D ⟨r,o,Q⟩) (.pointer<|D ⟨r,o,Q⟩)=f:=by
 have h:Zw (.pointer<|D ⟨r,o,Q⟩) (.pointer<|D ⟨r,o,Q⟩)=f:=by
  show qo (gd (aA r r&&aA o o&&f&&f)<|D ())=f;rw[dD,dD];rfl
 unfold Ar;rw[h];rfl
def KS{ay:Z->Z->Bool}:∀{l:C Z},(∀v∈l,ay v v=f)->Bl ay l l=f
 |[],_=>rfl
 |x::l,h=>by
  show bV (ay x x) (Bl ay l l) aC=f;rw[h x (aN ..),KS λv hv=>h v<|bH _ hv];rfl
def aaZ(g:Nat){l:C Z}(h:∀v∈l,∃r,v=.pointer (D ⟨r,0,Q⟩)):nG (.func (.func g) ⟨[]⟩ ⟨l⟩) (.func (.func g) ⟨[]⟩ ⟨l⟩)=f:=by
 have h0:U8 Ar (.func (.func g) ⟨[]⟩ ⟨l⟩) (.func (.func g) ⟨[]⟩ ⟨l⟩)=f:=by
  show qo (gd (aA g g&&Bl Ar [] []&&Bl Ar l l)<|D ())=f;rw[dD,show Bl Ar [] []=f from O,KS (l:=l) λv hv=>by obtain⟨r,rfl⟩:=h v hv;exact X_ r 0];rfl
 unfold nG Eu;rw[h0];cases Ar (.func (.func g) ⟨[]⟩ ⟨l⟩) (.func (.func g) ⟨[]⟩ ⟨l⟩)<;>rfl
end Go.Ae
