/-
  Part 04 of the proof. No condition.
-/
import Derived.Test.YtdkcdlnfeodaaaaGreatDoorR03
set_option linter.unusedVariables false
set_option linter.unusedSimpArgs false
set_option maxRecDepth 100000
set_option maxHeartbeats 4000000
noncomputable section
namespace Go.Ae
variable{args args' cs cs' dH vs z:List Value}{e t t' t2 ty ty':TypeId}{K K' Km:Value->ag->Prop}{H H' H0:ag}{v:Value}{ops:Array Oper}{c cx es hi i j lo m n nl o rx u:Nat}{a:Option Addr}{Kp:Value->Prop}{k k2 kk:IntKind}{ox oy:Operand}{g:Nat->Nat}{S' l sk:List Nat}{cls l1:List Cl}{Q:Int->Prop}{C:Nat->Nat->Nat->List Cl}{q:Option Value}{T:Cl->Prop}{b x:Int}{A p:Prop}{rs:List ResultVar}{α:Type}{y:Cl}{fn:Func}
def PU(o:Option Value)(K:Value->Prop):Prop:=@Option.rec Value (λ_=>Prop) False (λv=>K v) o
def ME(o:Option<|Value×ag)(K:Value->ag->Prop):Prop:=@Option.rec (Value×ag) (λ_=>Prop) False (λp=>K p.1 p.2) o
def CV(o:Option Value)(q:Option<|Value×ag)(Kp:Value->Prop)(Km:Value->ag->Prop):Prop:=@Option.rec Value (λ_=>Prop) (ME q Km) (λv=>Kp v) o
def az(P:Program)(X:Xt)(g:FuncId)(args:List Value)(H:ag)(K:Value->ag->Prop):Prop:=∃v H',Ca P X g args H v H'/\K v H'
def lK(P:Program)(X:Xt)(q:Option<|FuncId×List Value×List Value)(args:List Value)(H:ag)(K:Value->ag->Prop):Prop:=
 @Option.rec (FuncId×List Value×List Value) (λ_=>Prop) False (λq=>az P X q.1 (app q.2.1<|app args q.2.2) H K) q
def Ag(b:Builtin):List TypeId->List Value->Program->ag->(Value->Prop)->(Value->ag->Prop)->Prop:=
 @Builtin.rec (λ_=>List TypeId->List Value->Program->ag->(Value->Prop)->(Value->ag->Prop)->Prop)
  (λats args P H Kp Km=>ME (Bc P ats args H) Km) (λ_ _ _ _ _ _=>False) (λats args P H Kp Km=>ME (EJ P ats args H) Km) (λ_ _ _ _ _ _=>False) (λ_ _ _ _ _ _=>False) (λats args P H Kp Km=>ME (J_ P ats args H) Km) (λ_ _ _ _ _ _=>False) (λ_ _ _ _ _ _=>False) (λats args P H Kp Km=>CV (one (Hw P) ats args) (HZ P ats args H) Kp Km) (λ_ _ _ _ _ _=>False) (λats args P H Kp Km=>PU (V4 true args) Kp) (λats args P H Kp Km=>PU (V4 false args) Kp) (λ_ _ _ _ _ _=>False) (λ_ _ _ _ _ _=>False) (λ_ _ _ _ _ _=>False) (λ_ _ _ _ _ _=>False) (λ_ _ _ _ _ _=>False) (λ_ _ _ _ _ _=>False) (λ_ _ _ _ _ _=>False) (λ_ _ _ _ _ _=>False) (λats args P H Kp Km=>ME (DJ args H) Km) (λats args P H Kp Km=>ME (ug P ats args H) Km) (λ_ _ _ _ _ _=>False) (λ_ _ _ _ _ _=>False) (λ_ _ _ _ _ _=>False) (λ_ _ _ _ _ _=>False) b
def XN(P:Program)(X:Xt)(c:Call)(s:St)(Kp:Value->Prop)(Km:Value->ag->Prop):Prop:=
 @Option.rec Builtin (λ_=>Prop) (lK P X (jY c.callee P s) (mp (ev s) c.args.toList) s.H Km)
  (λb=>Ag b c.argTypes.toList (mp (ev s) c.args.toList) P s.H Kp Km) (isBuiltin c.callee)
def V8(o:Op):Program->Xt->St->(Value->Prop)->(Value->ag->Prop)->Prop:=
 @Op.rec (λ_=>Program->Xt->St->(Value->Prop)->(Value->ag->Prop)->Prop)
  (λx P X s Kp Km=>Kp<|ev s x) (λx P X s Kp Km=>Kp<|ev s x) (λc a b P X s Kp Km=>PU (Hu (ev s c) (ev s a)<|ev s b) Kp) (λe P X s Kp Km=>ME (zW P e s.H) Km) (λe x P X s Kp Km=>ME (Le e (ev s x) s.H) Km) (λt ps P X s Kp Km=>PU (zV P t<|Lf s ps) Kp) (λt n ps P X s Kp Km=>ME (pJ P t n (Lf s ps) s.H) Km) (λt m k v P X s Kp Km=>ME (oU P t (ev s m) (ev s k) (ev s v) s.H) Km) (λt x P X s Kp Km=>ME (r_ P t (ev s x) s.H) Km) (λt x v P X s Kp Km=>ME (wG P t (ev s x) (ev s v) s.H) Km) (λ_ _ _ _ _ _=>False) (λ_ _ _ _ _ _=>False) (λx P X s Kp Km=>PU (Ld<|ev s x) Kp) (λop t x y _ P X s Kp Km=>PU (jb P op t x y (ev s x)<|ev s y) Kp) (λop _ x P X s Kp Km=>PU (gU<|Op.unary op<|ev s x) Kp) (λa b x P X s Kp Km=>CV (zR P a b<|ev s x) (qw P a b (ev s x) s.H) Kp Km) (λ_ _ _ _ _ _ _=>False) (λt x P X s Kp Km=>PU (P_ P t<|ev s x) Kp) (λf fi ca P X s Kp Km=>Kp<|.func f ⟨mp (ev s) fi.toList⟩ ⟨mp (ev s) ca.toList⟩) (λt r P X s Kp Km=>ME (si P t (Gq s r) s.H) Km) (λ_ _ _ _ _ _ _=>False) (λt l c P X s Kp Km=>ME (mP P t (ev s l) (ev s c) s.H) Km) (λt x lo hi mx P X s Kp Km=>PU (xG P t (ev s x) (Gq s lo) (Gq s hi)<|Gq s mx) Kp) (λt x f P X s Kp Km=>PU (oh P t (ev s x) f) Kp) (λt x f P X s Kp Km=>PU (zU P t (ev s x) f) Kp) (λt x i P X s Kp Km=>PU (og P t (ev s x)<|ev s i) Kp) (λt x i P X s Kp Km=>PU (zT P t (ev s x)<|ev s i) Kp) (λt x k ok P X s Kp Km=>ME (uK P t (ev s x) (ev s k) ok s.H) Km) (λt m k v P X s Kp Km=>ME (oU P t (ev s m) (ev s k) (ev s v) s.H) Km) (λ_ _ _ _ _ _ _ _=>False) (λ_ _ _ _ _ _ _ _ _=>False) (λt x P X s Kp Km=>ME (EK P t (ev s x) s.H) Km) (λx b P X s Kp Km=>ME (Ka (ev s x) b s.H) Km) (λ_ _ _ _ _ _=>False) (λ_ _ _ _ _ _ _ _ _=>False) (λt i P X s Kp Km=>PU (qD (ev s t) i) Kp) (λc P X s Kp Km=>XN P X c s Kp Km) (λ_ _ _ _ _ _=>False) (λ_ _ _ _ _ _=>False) (λ_ _ _ _ _ _=>False) (λ_ _ _ _ _ _ _=>False) (λ_ _ _ _ _ _ _ _=>False) (λ_ _ _ _ _ _ _=>False) o
def zk(v:Option Bool)(A B:Prop):Prop:=@Option.rec Bool (λ_=>Prop) False (λb=>@Bool.rec (λ_=>Prop) B A b) v
def xW(l:List Nat)(t:Nat):Bool:=@List.rec Nat (λ_=>Bool) false (λx _ r=>aU (Nat.beq x t) true r) l
def nL(l:List Nat)(t:Nat):List Nat:=@List.rec Nat (λ_=>List Nat) [] (λx _ r=>aU (Nat.beq x t) r<|x::r) l
def iQ(l:List Nat)(d:Option Nat):List Nat:=@Option.rec Nat (λ_=>List Nat) l (nL l) d
def JQ(s:St)(l:List Nat)(d:Option Nat):List Nat:=@Option.rec Nat (λ_=>List Nat) l (λd=>aU (wr s d) (d::l) l) d
def GuW(ops:Array Oper)(s:St)(sk:List Nat)(g:Option<|Nat×Bool)(K:Bool->St->List Nat->Prop):Prop:=
 @Option.rec (Nat×Bool) (λ_=>Prop) (K true s sk) (λg=>
  @Option.rec Oper (λ_=>Prop) False (λo=>@Option.rec Nat (λ_=>Prop) False (λt=>
   @Bool.rec (λ_=>Prop)
    (zk (gF<|eO s t) (K (yu true g.2) (mQ s t (.bool true) s.H)<|nL sk t)<|K (yu false g.2) (mQ s t (.bool false) s.H)<|nL sk t)
    (K false s sk) (xW sk t)) o.dst) (nth ops.toList g.1)) g
def xX(P:Program)(X:Xt)(ops:Array Oper)(l:List Oper):St->List Nat->(St->Prop)->Prop:=
 @List.rec Oper (λ_=>St->List Nat->(St->Prop)->Prop) (λs _ K=>K s)
  (λo _ ih s sk K=>GuW ops s sk o.guard (λb s sk=>@Bool.rec (λ_=>Prop)
   (ih (fU s o.dst undef s.H) (JQ s sk o.dst) K)
   (@Option.rec Call (λ_=>Prop) (V8 o.op P X s (λv=>ih (fU s o.dst v s.H) (iQ sk o.dst) K) λv H=>ih (fU s o.dst v H) (iQ sk o.dst) K) (λ_=>False)<|nI o.op)
   b)) l
def QU(P:Program)(X:Xt)(ops:Array Oper)(l:List Oper):St->List Nat->List Cl->(St->List Cl->Prop)->Prop:=
 @List.rec Oper (λ_=>St->List Nat->List Cl->(St->List Cl->Prop)->Prop) (λs _ acc K=>K s acc)
  (λo _ ih s sk acc K=>GuW ops s sk o.guard (λb s sk=>@Bool.rec (λ_=>Prop)
   (ih (fU s o.dst undef s.H) (JQ s sk o.dst) (cl 0::acc) K)
   (V8 o.op P X (dX s) (λv=>ih (fU s o.dst v s.H) (iQ sk o.dst) (cl 0::acc) K) λv H=>ih (fU s o.dst v ⟨H.rM,H.next,kV s.H.low H.low⟩) (iQ sk o.dst) (oI P o.op s H::acc) K)
   b)) l
def ahI(P:Program)(X:Xt)(ops:Array Oper)(draw:Bool)(s:St)(K:Out->Prop):Prop:=
 @Bool.rec (λ_=>Prop) (xX P X ops ops.toList (clear s) [] λs=>K<|.norm s)
  (@Bool.rec (λ_=>Prop) False (QU P X ops ops.toList (clear s) [] [] λs cls=>gQ ops cls=true/\K (.norm s))<|iC ops&&lI ops) draw
def j3(id:Nat)(K:Out->Prop):Out->Prop:=λo=>K<|uj id o
def dJ(P:Program)(X:Xt)(c:Code)(s:St)(K:Out->Prop):Prop:=∃o o',Ev P X c s o/\yw o o'/\K o'
def nR(P:Program)(X:Xt)(b:Code)(K:Out->Prop):Out->Prop:=
 λo=>@Out.rec (λ_=>Prop) (K .fail) (λs=>dJ P X b s K) (λi s=>K<|.exit i s) (λl s=>K<|.goto l s) (λs=>K<|.ret s) o
def ahJ(l:List Oper):Nat:=@List.rec Oper (λ_=>Nat) 1 (λo _ r=>@Option.rec (Nat×Bool) (λ_=>Nat) r (λ_=>2) o.guard) l
def adW(c:Code)(i:Nat):Nat:=
 @Code.rec (λ_=>Nat) 0 (λ_ _ _=>0) (λ_ _ a b=>Nat.add a b) (λ_ _ _ a b=>Nat.add a b) (λ_ _ a=>a) (λ_ _=>0) (λ_ _ _ _ _ _=>0) (λj=>aU (Nat.beq j i) 1 0) (λ_ _=>0) (λ_=>0) (λ_=>0) 0 (λ_=>0) c
def afw(c:Code):Nat:=
 @Code.rec (λ_=>Nat) 1 (λ_ ops _=>ahJ ops.toList) (λ_ _ a b=>Nat.mul a b) (λ_ _ _ a b=>Nat.add a b) (λi a r=>Nat.add r<|adW a i) (λ_ _=>0) (λ_ _ _ _ _ _=>0) (λ_=>0) (λ_ _=>0) (λ_=>1) (λ_=>0) 0 (λ_=>0) c
def abk(c:Code):Nat:=
 @Code.rec (λ_=>Nat) 0 (λ_ ops _=>len ops.toList) (λ_ _ a b=>Nat.add a b) (λ_ _ _ a b=>Nat.add a b) (λ_ _ r=>r) (λ_ _=>4) (λ_ _ _ _ _ _=>0) (λ_=>0) (λ_ _=>4) (λ_=>0) (λ_=>0) 0 (λ_=>0) c
def D4(a b:Code):Bool:=Nat.ble 2 (afw a)&&Nat.ble 4 (abk b)
section mem
variable{P:Program}{X:Xt}
theorem afx{o:Option Value}{K:Value->Prop}(h:PU o K):∃v,o=some v/\K v:=by
 cases o with
 |none=>exact h.elim
 |some v=>exact⟨v,rfl,h⟩
theorem acs{o:Option (Value×ag)}(h:ME o K):∃v H,o=some (v,H)/\K v H:=by
 cases o with
 |none=>exact h.elim
 |some v=>exact⟨v.1,v.2,rfl,h⟩
def wu(P:Program)(X:Xt)(o:Op)(s:St)(Kp:Value->Prop)(Km:Value->ag->Prop):Prop:=
 ∃k,(∃v,vN o P (h_ P X k) s=.zF v/\Kp v)\/∃v H,vN o P (h_ P X k) s=.mem v H/\Km v H
theorem wu.pu{o:Op}{s:St}(hq:∀cf,vN o P cf s=rp q)(h:PU q Kp):wu P X o s Kp Km:=by
 obtain⟨v,h1,h2⟩:=afx h;exact⟨0,.inl ⟨v,by rw[hq,h1];rfl,h2⟩⟩
theorem wu.me{o:Op}{s:St}{q:Option (Value×ag)}(hq:∀cf,vN o P cf s=rm q)(h:ME q Km):wu P X o s Kp Km:=by
 obtain⟨v,H,h1,h2⟩:=acs h;exact⟨0,.inr ⟨v,H,by rw[hq,h1];rfl,h2⟩⟩
theorem wu.cv{o:Op}{s:St}{r:Option (Value×ag)}(hq:∀cf,vN o P cf s=rpm q (rm r))(h:CV q r Kp Km):wu P X o s Kp Km:=by
 cases q with
 |none=>exact wu.me (q:=r) (λcf=>hq cf) h
 |some v=>exact⟨0,.inl ⟨v,by rw[hq];rfl,h⟩⟩
theorem wu.cons{o:Op}{s:St}(hq:∀cf,vN o P cf s=.zF v)(h:Kp v):wu P X o s Kp Km:=⟨0,.inl ⟨v,hq _,h⟩⟩
theorem N9{b:Builtin}{c:Call}{s:St}{ats:List TypeId}(hq:∀cf,vN (.call c) P cf s=xP b ats args P s.H)(h:Ag b ats args P s.H Kp Km):wu P X (.call c) s Kp Km:=by
 cases b with
 |append=>exact wu.me hq h
 |clear=>exact wu.me hq h
 |copy=>exact wu.me hq h
 |len=>exact wu.cv hq h
 |max=>exact wu.pu hq h
 |min=>exact wu.pu hq h
 |unsafeSliceData=>exact wu.me hq h
 |unsafeString=>exact wu.me hq h
 |_=>exact h.elim
theorem XO{c:Call}{s:St}(h:XN P X c s Kp Km):wu P X (.call c) s Kp Km:=by
 unfold XN at h;cases hb:isBuiltin c.callee with
 |some b=>
  rw[hb]at h;refine N9 (b:=b) (ats:=c.argTypes.toList) (args:=mp (ev s) c.args.toList) (λcf=>?_) h;show tJ c P cf s=_;unfold tJ;rw[hb]
 |none=>
  rw[hb]at h;replace h:lK P X (jY c.callee P s) (mp (ev s) c.args.toList) s.H Km:=h;unfold lK at h;cases hc:jY c.callee P s with
  |none=>rw[hc]at h;exact h.elim
  |some q=>
   rw[hc]at h;obtain⟨v,H',⟨k,h1⟩,h2⟩:=h;refine⟨k,.inr ⟨v,H',?_,h2⟩⟩;show tJ c P (h_ P X k) s=_;unfold tJ;rw[hb];show rm (ax (jY c.callee P s) λz=>h_ P X k z.1 (app z.2.1<|app (mp (ev s) c.args.toList) z.2.2) s.H)=_;rw[hc];show rm (h_ P X k q.1 (app q.2.1<|app (mp (ev s) c.args.toList) q.2.2) s.H)=_;rw[h1];rfl
theorem XP{o:Op}{s:St}(h:V8 o P X s Kp Km):wu P X o s Kp Km:=by
 cases o with
 |move _=>exact wu.cons (λ_=>rfl) h
 |assign _=>exact wu.cons (λ_=>rfl) h
 |pick _ _ _=>exact wu.pu (λ_=>rfl) h
 |alloc _=>exact wu.me (λ_=>rfl) h
 |box _ _=>exact wu.me (λ_=>rfl) h
 |build _ _=>exact wu.pu (λ_=>rfl) h
 |buildSlice _ _ _=>exact wu.me (λ_=>rfl) h
 |insert _ _ _ _=>exact wu.me (λ_=>rfl) h
 |load _ _=>exact wu.me (λ_=>rfl) h
 |store _ _ _=>exact wu.me (λ_=>rfl) h
 |nilCheck _=>exact wu.pu (λ_=>rfl) h
 |binOp _ _ _ _ _=>exact wu.pu (λ_=>rfl) h
 |unOp _ _ _=>exact wu.pu (λ_=>rfl) h
 |convert _ _ _=>exact wu.cv (λ_=>rfl) h
 |makeInterface _ _=>exact wu.pu (λ_=>rfl) h
 |makeFunc _ _ _=>exact wu.cons (λ_=>rfl) h
 |makeMap _ _=>exact wu.me (λ_=>rfl) h
 |makeSlice _ _ _=>exact wu.me (λ_=>rfl) h
 |slice _ _ _ _ _=>exact wu.pu (λ_=>rfl) h
 |fieldAddr _ _ _=>exact wu.pu (λ_=>rfl) h
 |field _ _ _=>exact wu.pu (λ_=>rfl) h
 |indexAddr _ _ _=>exact wu.pu (λ_=>rfl) h
 |index _ _ _=>exact wu.pu (λ_=>rfl) h
 |lookup _ _ _ _=>exact wu.me (λ_=>rfl) h
 |mapUpdate _ _ _ _=>exact wu.me (λ_=>rfl) h
 |range _ _=>exact wu.me (λ_=>rfl) h
 |next _ _=>exact wu.me (λ_=>rfl) h
 |extract _ _=>exact wu.pu (λ_=>rfl) h
 |call c=>exact XO h
 |_=>exact h.elim
theorem XQ{t:Nat}:xW l t=true<->t∈l:=by
 induction l with
 |nil=>exact⟨(λh=>by cases h),(λh=>by cases h)⟩
 |cons x l ih=>
  show aU (Nat.beq x t) true (xW l t)=true<->_
  by_cases e:x=t
  .subst e;rw[show Nat.beq x x=true from bC x];simp[lG]
  .rw[show Nat.beq x t=false from by rw[<-aV];exactλg=>e<|aB g];rw[iE,ih,bP];exact⟨.inr,λh=>h.resolve_left λg=>e g.symm⟩
theorem abl{t:Nat}(h:u∈nL l t):u∈l/\u≠t:=by
 induction l with
 |nil=>cases h
 |cons x l ih=>
  replace h:u∈aU (Nat.beq x t) (nL l t) (x::nL l t):=h
  by_cases e:x=t
  .subst e;rw[show Nat.beq x x=true from bC x,lG]at h;exact⟨aT _ (ih h).1,(ih h).2⟩
  .rw[show Nat.beq x t=false from by rw[<-aV];exactλg=>e<|aB g,iE,bP]at h;rcases h with h|h
   .subst h;exact⟨aD ..,e⟩
   .exact⟨aT _ (ih h).1,(ih h).2⟩
def Left(s:St)(sk:List Nat):Prop:=∀t,t∈sk->eO s t=undef
theorem Left.put{s:St}(h:Left s sk)(d:Option Nat)(v:Value)(H:ag):Left (fU s d v H) (iQ sk d):=by
 cases d with
 |none=>exactλt ht=>h t ht
 |some d=>
  intro t ht;obtain⟨h1,h2⟩:=abl (l:=sk) ht;show eO (mQ s d v H) t=_;rw[wo,if_neg λg=>h2 g.1.symm];exact h t h1
theorem Left.skip{s:St}(h:Left s sk)(d:Option Nat):Left (fU s d undef s.H) (JQ s sk d):=by
 cases d with
 |none=>exactλt ht=>h t ht
 |some d=>
  intro t ht;show eO (mQ s d undef s.H) t=_;rw[wo];split
  .rfl
  .next hn=>
   replace ht:t∈aU (wr s d) (d::sk) sk:=ht;cases hw:wr s d with
   |true=>
    rw[hw,lG,bP]at ht;rcases ht with e|ht
    .exact absurd ⟨e.symm,hw⟩ hn
    .exact h t ht
   |false=>rw[hw]at ht;exact h t ht
theorem Left.dX{s:St}(h:Left s sk):Left (dX s) sk:=h
theorem L_{v:Option Bool}{B:Prop}(h:zk v A B):(v=some true/\A)\/(v=some false/\B):=by
 cases v with
 |none=>exact h.elim
 |some b=>cases b with
  |true=>exact .inl ⟨rfl,h⟩
  |false=>exact .inr ⟨rfl,h⟩
theorem XR{s:St}{g:Option (Nat×Bool)}{K:Bool->St->List Nat->Prop}(hl:Left s sk)(h:GuW ops s sk g K):
 ∃b s' sk',mX ops s g=some b/\kP s s'/\Left s' sk'/\K b s' sk':=by
 cases g with
 |none=>exact⟨true,s,sk,rfl,kP.refl s,hl,h⟩
 |some g=>
  cases ho:nth ops.toList g.1 with
  |none=>
   unfold GuW at h;replace h:@Option.rec Oper (λ_=>Prop) False _ (nth ops.toList g.1):=h;rw[ho]at h;exact h.elim
  |some o=>
   cases ht:o.dst with
   |none=>
    unfold GuW at h;replace h:@Option.rec Oper (λ_=>Prop) False _ (nth ops.toList g.1):=h;rw[ho]at h;replace h:@Option.rec Nat (λ_=>Prop) False _ o.dst:=h;rw[ht]at h;exact h.elim
   |some t=>
    unfold GuW at h;replace h:@Option.rec Oper (λ_=>Prop) False _ (nth ops.toList g.1):=h;rw[ho]at h;replace h:@Option.rec Nat (λ_=>Prop) False _ o.dst:=h;rw[ht]at h
    have hy:∀y,(@Option.rec Bool (λ_=>Option<|Option Bool) (gd (isU<|eO s t)<|some none) (λb=>some<|some b)<|gF<|eO s t)=some y->yB ops s g.1=some y:=by
     intro y hy;unfold yB;rw[ho];show(ax o.dst _)=_;rw[ht];exact hy
    have hw:∀y,yB ops s g.1=some y->mX ops s (some g)=some (@Option.rec Bool (λ_=>Bool) false (λb=>yu b g.2) y):=by
     intro y hy;show Kb ops s g=_;unfold Kb;rw[hy];rfl
    cases he:xW sk t with
    |true=>
     replace h:@Bool.rec (λ_=>Prop) _ (K false s sk) (xW sk t):=h;rw[he]at h;refine⟨false,s,sk,?_,kP.refl s,hl,h⟩;have hu:=hl t<|XQ.1 he;exact hw none<|hy none (by rw[hu];rfl)
    |false=>
     replace h:@Bool.rec (λ_=>Prop) (zk (gF<|eO s t) (K (yu true g.2) (mQ s t (.bool true) s.H)<|nL sk t)<|K (yu false g.2) (mQ s t (.bool false) s.H)<|nL sk t) (K false s sk) (xW sk t):=h;rw[he]at h
     have fin:∀b,gF (eO s t)=some b->K (yu b g.2) (mQ s t (.bool b) s.H) (nL sk t)->∃b s' sk',mX ops s (some g)=some b/\kP s s'/\Left s' sk'/\K b s' sk':=by
      intro b hb hk;refine⟨_,_,_,hw (some b)<|hy (some b)<|by rw[hb],?_,Left.put hl (some t) _ _,hk⟩;have hv:=lJ hb;have:=kP.same s t;rw[hv]at this;exact this
     rcases L_ h with⟨h1,h2⟩|⟨h1,h2⟩
     .exact fin _ h1 h2
     .exact fin _ h1 h2
theorem XT:∀{l:List Oper}{s:St}{sk:List Nat}{K:St->Prop},Left s sk->xX P X ops l s sk K->∃s' s2,Ro P X ops l s s'/\kP s' s2/\K s2:=by
 intro l
 induction l with
 |nil=>intro s sk K _ h;exact⟨s,s,Ro.nil,kP.refl s,h⟩
 |cons o l ih=>
  intro s0 sk0 K hl0 h
  obtain⟨b,s,sk,hw,he,hl,h⟩:=XR (K:=λb s sk=>@Bool.rec (λ_=>Prop)
   (xX P X ops l (fU s o.dst undef s.H) (JQ s sk o.dst) K)
   (@Option.rec Call (λ_=>Prop) (V8 o.op P X s (λv=>xX P X ops l (fU s o.dst v s.H) (iQ sk o.dst) K) λv H=>xX P X ops l (fU s o.dst v H) (iQ sk o.dst) K) (λ_=>False)<|nI o.op)
   b) hl0 h
  have fin:∀k s1 sk1,jy P (h_ P X k) ops o s0=some s1\/jy P (h_ P X k) ops o s=some s1->Left s1 sk1->xX P X ops l s1 sk1 K->∃s' s2,Ro P X ops (o::l) s0 s'/\kP s' s2/\K s2:=by
   intro k s1 sk1 hst hl1 hK;obtain⟨s',s2,h3,h4,h5⟩:=ih hl1 hK;rcases hst with hst|hst
   .exact⟨s',s2,Ro.cons ⟨k,hst⟩ h3,h4,h5⟩
   .have hx:=he.jy (P:=P) (cf:=h_ P X k) ops o;rw[hst]at hx;generalize hz:jy P (h_ P X k) ops o s0=z at hx;cases hx with
    |some hx=>
     rename_i s3;obtain⟨k2,h3⟩:=h3;have hy:=kP.jJ (P:=P) (cf:=h_ P X k2) ops l hx;rw[h3]at hy;generalize hq:jJ P (h_ P X k2) ops l s3=q at hy;cases hy with
     |some hy=>exact⟨_,s2,Ro.cons ⟨k,hz⟩ ⟨k2,hq⟩,hy.trans h4,h5⟩
  have hw':mX ops s o.guard=some b:=by rw[<-he.mX];exact hw
  cases b with
  |false=>
   refine fin 0 _ _ (.inr ?_) (Left.skip hl o.dst) h;unfold jy;rw[hw'];rfl
  |true=>
   cases hd:nI o.op with
   |some c=>
    replace h:@Option.rec Call (λ_=>Prop) _ (λ_=>False) (nI o.op):=h;rw[hd]at h;exact h.elim
   |none=>
    replace h:@Option.rec Call (λ_=>Prop) (V8 o.op P X s (λv=>xX P X ops l (fU s o.dst v s.H) (iQ sk o.dst) K) λv H=>xX P X ops l (fU s o.dst v H) (iQ sk o.dst) K) (λ_=>False) (nI o.op):=h;rw[hd]at h
    have st:∀k v H,CE o s (vN o.op P (h_ P X k) s)=some (fU s o.dst v H)->jy P (h_ P X k) ops o s=some (fU s o.dst v H):=by
     intro k v H he;unfold jy;rw[hw'];show xg P (h_ P X k) o s=_;unfold xg;rw[hd];exact he
    obtain⟨k,⟨v,h1,h2⟩|⟨v,H,h1,h2⟩⟩:=XP h
    .exact fin k _ _ (.inr<|st k v s.H (by rw[h1];rfl)) (Left.put hl o.dst v s.H) h2
    .exact fin k _ _ (.inr<|st k v H (by rw[h1];rfl)) (Left.put hl o.dst v H) h2
theorem RoD.afy{o:Oper}{l:List Oper}{s s1:St}{c:Cl}{acc:List Cl}{r:St×List Cl}{k:Nat}(h1:iT P (h_ P X k) ops o s=some (s1,c))(h2:RoD P X ops l s1 (c::acc) r):RoD P X ops (o::l) s acc r:=by
 obtain⟨k2,h2⟩:=h2;refine⟨max k k2,?_⟩;show(ax (iT P (h_ P X<|max k k2) ops o s) λq=>fT P (h_ P X<|max k k2) ops l q.1<|q.2::acc)=_;rw[show iT P (h_ P X<|max k k2) ops o s=some (s1,c)from DX (vT k _<|jS k k2).1 h1];exact DY (vT k2 _<|gZ k k2).1 h2
theorem adX:∀{l:List Oper}{s:St}{sk:List Nat}{acc:List Cl}{K:St->List Cl->Prop},Left s sk->QU P X ops l s sk acc K->∃s' s2 cls,RoD P X ops l s acc (s',cls)/\kP s' s2/\K s2 cls:=by
 intro l
 induction l with
 |nil=>intro s sk acc K _ h;exact⟨s,s,acc,⟨0,rfl⟩,kP.refl s,h⟩
 |cons o l ih=>
  intro s0 sk0 acc K hl0 h
  obtain⟨b,s,sk,hw,he,hl,h⟩:=XR (K:=λb s sk=>@Bool.rec (λ_=>Prop)
   (QU P X ops l (fU s o.dst undef s.H) (JQ s sk o.dst) (cl 0::acc) K)
   (V8 o.op P X (dX s) (λv=>QU P X ops l (fU s o.dst v s.H) (iQ sk o.dst) (cl 0::acc) K) λv H=>QU P X ops l (fU s o.dst v ⟨H.rM,H.next,kV s.H.low H.low⟩) (iQ sk o.dst) (oI P o.op s H::acc) K)
   b) hl0 h
  have fin:∀k s1 sk1 c,iT P (h_ P X k) ops o s=some (s1,c)->Left s1 sk1->QU P X ops l s1 sk1 (c::acc) K->∃s' s2 cls,RoD P X ops (o::l) s0 acc (s',cls)/\kP s' s2/\K s2 cls:=by
   intro k s1 sk1 c hst hl1 hK;obtain⟨s',s2,cls,h3,h4,h5⟩:=ih hl1 hK;have hx:=he.iT (P:=P) (cf:=h_ P X k) ops o;rw[hst]at hx;generalize hz:iT P (h_ P X k) ops o s0=z at hx;cases hx with
   |some _ hx=>
    rename_i s3;obtain⟨k2,h3⟩:=h3;have hy:=kP.fT (P:=P) (cf:=h_ P X k2) ops l (c::acc) hx;rw[h3]at hy;generalize hq:fT P (h_ P X k2) ops l s3 (c::acc)=q at hy;cases hy with
    |some _ hy=>exact⟨_,s2,cls,RoD.afy hz ⟨k2,hq⟩,hy.trans h4,h5⟩
  have hw':mX ops s o.guard=some b:=by rw[<-he.mX];exact hw
  cases b with
  |false=>
   refine fin 0 _ _ (cl 0) ?_ (Left.skip hl o.dst) h;unfold iT;rw[hw'];rfl
  |true=>
   obtain⟨k,⟨v,h1,h2⟩|⟨v,H,h1,h2⟩⟩:=XP h
   .refine fin k _ _ (cl 0) ?_ (Left.put hl o.dst v s.H) h2;unfold iT;rw[hw'];show Fx P o s (vN o.op P (h_ P X k)<|dX s)=_;rw[h1];rfl
   .refine fin k _ _ (oI P o.op s H) ?_ (Left.put hl o.dst v ⟨H.rM,H.next,kV s.H.low H.low⟩) h2;unfold iT;rw[hw'];show Fx P o s (vN o.op P (h_ P X k)<|dX s)=_;rw[h1];rfl
theorem dJ.alike{c:Code}{s s':St}{K:Out->Prop}(he:kP s s')(h:dJ P X c s' K):dJ P X c s K:=by
 obtain⟨o,o',h1,h2,h3⟩:=h;obtain⟨o2,h4,h5⟩:=Ev.alike he.symm h1;refine⟨o2,o',h5,?_,h3⟩
 have:yw o2 o:=by
  cases h4 with
  |fail=>exact .fail
  |norm h=>exact .norm h.symm
  |exit i h=>exact .exit i h.symm
  |goto l h=>exact .goto l h.symm
  |ret h=>exact .ret h.symm
 exact this.trans h2
theorem Left.nil(s:St):Left s []:=λt h=>by cases h
theorem abm{id:Nat}{d:Bool}{s:St}{K:Out->Prop}(h:ahI P X ops d s K):dJ P X (.region id ops d) s K:=by
 cases d with
 |false=>
  obtain⟨s',s2,h1,h2,h3⟩:=XT (l:=ops.toList) (s:=clear s) (K:=λs=>K<|.norm s) (Left.nil _) h;exact⟨_,_,Ev.region h1,.norm h2,h3⟩
 |true=>
  cases hst:(iC ops&&lI ops)with
  |false=>
   have h':@Bool.rec (λ_=>Prop) False (QU P X ops ops.toList (clear s) [] [] λs cls=>gQ ops cls=true/\K (.norm s)) (iC ops&&lI ops):=h;rw[hst]at h';exact h'.elim
  |true=>
   have h':@Bool.rec (λ_=>Prop) False (QU P X ops ops.toList (clear s) [] [] λs cls=>gQ ops cls=true/\K (.norm s)) (iC ops&&lI ops):=h;rw[hst]at h';obtain⟨s',s2,cls,h1,he,h2,h3⟩:=adX (Left.nil _) h';exact⟨_,_,Ev.N7 hst h1 h2,.norm he,h3⟩
theorem dJ.mono{c:Code}{s:St}{K K':Out->Prop}(h:dJ P X c s K)(hk:∀o,K o->K' o):dJ P X c s K':=by
 obtain⟨o,o',h1,h2,h3⟩:=h;exact⟨o,o',h1,h2,hk o' h3⟩
theorem dJ.seq{a b:Code}{s:St}{K:Out->Prop}(h:dJ P X a s<|nR P X b K):dJ P X (.seq a b) s K:=by
 obtain⟨o,o1,h1,he,h2⟩:=h;cases he with
 |fail=>exact absurd rfl h1.1
 |norm he=>
  obtain⟨o',o2,h3,h5,h4⟩:=dJ.alike he (K:=K) h2;exact⟨o',o2,Ev.seq h1 h3,h5,h4⟩
 |exit i he=>exact⟨_,_,Ev.XI h1,.exit i he,h2⟩
 |goto l he=>
  refine⟨_,_,?_,.goto l he,h2⟩;obtain⟨n1,k1,h1⟩:=h1;refine⟨n1,k1,?_⟩;show andThen (D3 P X k1 a s) (D3 P X k1 b)=_;rw[h1];rfl
 |ret he=>exact⟨_,_,Ev.abg h1,.ret he,h2⟩
theorem dJ.block{id:Nat}{a:Code}{s:St}{K:Out->Prop}(h:dJ P X a s<|j3 id K):dJ P X (.block id a) s K:=by
 obtain⟨o,o',h1,he,h2⟩:=h;refine⟨uj id o,_,?_,?_,h2⟩
 .obtain⟨n1,k1,h1⟩:=h1;refine⟨?_,k1,?_⟩
  .cases o with
   |fail=>exact absurd rfl n1
   |exit i s'=>
    show aU (Nat.beq i id) (Out.norm s') (Out.exit i s')≠.fail;cases Nat.beq i id<;>simp[lG,iE]
   |_=>intro e;cases e
  .show uj id (D3 P X k1 a s)=_;rw[h1]
 .cases he with
  |fail=>exact .fail
  |norm he=>exact .norm he
  |exit i he=>
   show yw (aU (Nat.beq i id) _ _)<|aU (Nat.beq i id) _ _;cases Nat.beq i id with
   |true=>exact .norm he
   |false=>exact .exit i he
  |goto l he=>exact .goto l he
  |ret he=>exact .ret he
def adY{T:Type}(emb:T->St)(Inv:T->Prop)(μ:T->Nat)(n:Nat)(K:Out->Prop):Out->Prop:=λo=>match o with
 |.norm s'=>∃t',s'=emb t'/\Inv t'/\μ t'<n
 |.fail=>False
 |o=>K o
theorem dJ.loop{T:Type}{a:Code}{K:Out->Prop}(emb:T->St)(Inv:T->Prop)(μ:T->Nat)(h:∀t,Inv t->dJ P X a (emb t) (adY emb Inv μ (μ t) K)):
 ∀(t:T),Inv t->dJ P X (.loop a) (emb t) K:=by
 suffices∀n t,μ t<n->Inv t->dJ P X (.loop a) (emb t) K fromλt ht=>this (μ t+1) t (bL _) ht;intro n
 induction n with
 |zero=>intro t hn;omega
 |succ n ih=>
  intro t hn hI;obtain⟨o,o',h1,he,h2⟩:=h t hI;cases he with
  |fail=>exact h2.elim
  |norm he=>
   obtain⟨t',rfl,h3,h4⟩:=h2;obtain⟨o',o2,h5,h7,h6⟩:=dJ.alike he<|ih t' aa h3;exact⟨o',o2,Ev.abh h1 h5,h7,h6⟩
  |exit i he=>exact⟨_,_,Ev.XJ h1,.exit i he,h2⟩
  |goto l he=>
   refine⟨_,_,?_,.goto l he,h2⟩;obtain⟨n1,k1,h1⟩:=h1;refine⟨n1,k1+1,?_⟩;show andThen (D3 P X (k1+1) a<|emb t) _=_;rw[yM h1 n1 (jv _)];rfl
  |ret he=>exact⟨_,_,Ev.XK h1,.ret he,h2⟩
theorem az.mono{g:FuncId}(h:az P X g args H K)(hk:∀v H',K v H'->K' v H'):az P X g args H K':=by
 obtain⟨v,H',h1,h2⟩:=h;exact⟨v,H',h1,hk _ _ h2⟩
def f_(P:Program)(rs:List ResultVar)(K:Value->ag->Prop):Out->Prop:=λo=>
 @Out.rec (λ_=>Prop) False (λs=>s.df=[]/\@Option.rec (List Value) (λ_=>Prop) False (λvs=>K (oN vs) s.H) (iX P s rs)) (λ_ _=>False) (λ_ _=>False)
  (λs=>s.df=[]/\@Option.rec (List Value) (λ_=>Prop) False (λvs=>K (oN vs) s.H) (iX P s rs)) o
def Bw(args:List Value)(n:Nat):Tr Value:=Tr.pU top (app args<|Ws top<|Nat.sub n<|len args) 0 .nil
theorem N_(args:List Value)(n k:Nat):(Tr.pU top args 0 .nil).get top k=(Bw args n).get top k:=by
 unfold Bw;rw[Tr.jM,Tr.jM,nY];simp only[aM,true_and,aI,iK];have hrep:∀m,(Ws top m).length=m:=by intro m;induction m with|zero=>rfl|succ m ih=>exact bW Nat.succ ih
 have hget:∀m j,(Ws top m).getD j top=top:=by
  intro m
  induction m with
  |zero=>intro j;rfl
  |succ m ih=>intro j;cases j with
   |zero=>rfl
   |succ j=>exact ih j
 by_cases h1:k<args.length
 .rw[if_pos h1,if_pos (by simp;omega)];simp[aK,aP h1]
 .rw[if_neg h1];split
  .rw[aK,bf aa,<-aK,hget,Tr.get_nil]
  .rfl
theorem az.body{g:FuncId}{c:Code}(hor:X.o g args H=none)(hg:nth P.funcs.toList g=some fn)(hb:fn.body=some c)(hl:Nat.ble (len args) fn.ntmps=true)(hn:gW P g=nl)(h:dJ P X c ⟨nl,fn.ntmps,[],Bw args fn.ntmps,[],H⟩<|f_ P fn.results.toList K):az P X g args H K:=by
 obtain⟨o,o1,h1,h0,h2⟩:=h;subst hn
 have he:kP ⟨gW P g,fn.ntmps,[],Bw args fn.ntmps,[],H⟩ ⟨gW P g,fn.ntmps,[],Tr.pU top args 0 .nil,[],H⟩:=⟨rfl,rfl,rfl,rfl,λk=>by
  show aU (d_ (gW P g) k) ((Bw args fn.ntmps).get top k) _=aU (d_ (gW P g) k) ((Tr.pU top args 0 .nil).get top k) _;rw[N_ args fn.ntmps k]⟩
 obtain⟨o',h3,h4⟩:=Ev.alike he h1
 have fin:∀s s':St,kP s' s->Lg o'=some s'->(s.df=[]/\@Option.rec (List Value) (λ_=>Prop) False (λvs=>K (oN vs) s.H) (iX P s fn.results.toList))->az P X g args H K:=by
  intro s s' hs ho ⟨hd,hr⟩;rw[<-hs.iX]at hr;cases ha:iX P s' fn.results.toList with
  |none=>rw[ha]at hr;exact hr.elim
  |some vs=>
   rw[ha]at hr;refine⟨_,_,Ca.body hor hg hb hl h4 ho ?_ ha,?_⟩
   .rw[hs.df,hd];rfl
   .rw[hs.H];exact hr
 have ahK:yw o' o:=by
  cases h3 with
  |fail=>exact .fail
  |norm h=>exact .norm h.symm
  |exit i h=>exact .exit i h.symm
  |goto l h=>exact .goto l h.symm
  |ret h=>exact .ret h.symm
 have h5:=ahK.trans h0;cases h5 with
 |fail=>exact h2.elim
 |norm hs=>exact fin _ _ hs rfl h2
 |exit i hs=>exact h2.elim
 |goto l hs=>exact h2.elim
 |ret hs=>exact fin _ _ hs rfl h2
theorem Oa{b:Code}{K:Out->Prop}{s:St}:nR P X b K (.norm s)=dJ P X b s K:=rfl
theorem Ob{b:Code}{K:Out->Prop}{s:St}{i:Nat}:nR P X b K (.exit i s)=K (.exit i s):=rfl
theorem SV{b:Code}{K:Out->Prop}{s:St}:nR P X b K (.ret s)=K (.ret s):=rfl
theorem Oc{K:Out->Prop}{s:St}{i:Nat}:j3 i K (.norm s)=K (.norm s):=rfl
theorem SX{K:Out->Prop}{s:St}{i:Nat}:j3 i K (.ret s)=K (.ret s):=rfl
theorem Od{K:Out->Prop}{s:St}{i:Nat}:j3 i K (.exit i s)=K (.norm s):=by
 show K (aU (Nat.beq i i) _ _)=_;rw[show Nat.beq i i=true from bC i];rfl
theorem Oe{K:Out->Prop}{s:St}(h:j≠i):j3 i K (.exit j s)=K (.exit j s):=by
 show K (aU (Nat.beq j i) _ _)=_;rw[show Nat.beq j i=false from by rw[<-aV];exactλg=>h<|aB g];rfl
theorem Og{A B:Prop}:zk (some true) A B=A:=rfl
theorem Ky{A B:Prop}:zk (some false) A B=B:=rfl
theorem jO{v:Value}{K:Value->Prop}:PU (some v) K=K v:=rfl
theorem SY{v:Value}{H:ag}{K:Value->ag->Prop}:ME (some (v,H)) K=K v H:=rfl
theorem S7{v:Value}{q:Option (Value×ag)}{Kp:Value->Prop}{Km:Value->ag->Prop}:CV (some v) q Kp Km=Kp v:=rfl
end mem
def kid(c:Code)(i:Nat):Code:=
 @Code.rec (λ_=>Nat->Code) (λ_=>.skip) (λ_ _ _ _=>.skip) (λa b _ _ i=>@Nat.rec (λ_=>Code) a (λ_ _=>b) i)
  (λ_ a b _ _ i=>@Nat.rec (λ_=>Code) a (λ_ _=>b) i) (λ_ a _ _=>a) (λa _ _=>a) (λ_ _ _ _ _ _ _=>.skip) (λ_ _=>.skip) (λa _ _=>a) (λ_ _=>.skip) (λ_ _=>.skip) (λ_=>.skip) (λ_ _=>.skip) c i
def sub(c:Code)(p:List Nat):Code:=@List.rec Nat (λ_=>Code->Code) (λc=>c) (λi _ ih c=>ih<|kid c i) p c
def opsOf(c:Code):Array Oper:=
 @Code.rec (λ_=>Array Oper) #[] (λ_ ops _=>ops) (λ_ _ _ _=>#[]) (λ_ _ _ _ _=>#[]) (λ_ _ _=>#[]) (λ_ _=>#[]) (λ_ _ _ _ _ _=>#[]) (λ_=>#[]) (λ_ _=>#[]) (λ_=>#[]) (λ_=>#[]) #[] (λ_=>#[]) c
def Ma(f:Func):Code:=@Option.rec Code (λ_=>Code) .skip (λc=>c) f.body
def fld(off:Nat)(x:Value):Option Value:=ax (mF x) λa=>some<|.pointer<|some ⟨a.block,Nat.add a.off off,none⟩
def adZ(l:Option Nat)(off:Nat)(x:Value):Option Value:=ax (tq x) λcs=>apart l cs off
def rQ(l:Option Nat)(x:Value)(H:ag):Option (Value×ag):=ax (mF x) λa=>loadAt l a H
def CS(n:Nat)(x v:Value)(H:ag):Option (Value×ag):=
 ax (mF x) λa=>gd (Nat.beq (len<|aX v) n)<|ax (H.write a.block a.off<|aX v) λH'=>some (undef,H')
def zH(es:Nat)(x i:Value):Option Value:=ax (w_ i) λk=>ax (Gn x) λp=>ax p.1 λa=>gd (Nat.ble (Nat.succ k) p.2.1)<|some<|.pointer<|some ⟨a.block,Nat.add a.off<|Nat.mul k es,none⟩
def idR(n es:Nat)(x i:Value):Option Value:=ax (w_ i) λk=>ax (mF x) λa=>gd (Nat.ble (Nat.succ k) n)<|some<|.pointer<|some ⟨a.block,Nat.add a.off<|Nat.mul k es,none⟩
def XU(x i:Value):Option Value:=ax (w_ i) λk=>ax (pG x) λs=>ax (nth s.data.toList k) λb=>some<|.int .u8<|.ofNat b.toNat
def slA(es:Nat)(x:Value)(lo hi mx:Option Value):Option Value:=ax (Gn x) λp=>Sg es p lo hi mx
def slT(x:Value)(lo hi mx:Option Value):Option Value:=ax (pG x) λs=>gd (cO mx)<|Lc s lo hi
def afz(x:Value):Option Value:=ax (Gn x) λp=>some<|.int .i64<|.ofNat p.2.1
def afA(x:Value):Option Value:=ax (pG x) λs=>some<|.int .i64<|.ofNat<|len s.data.toList
def iI(e:TypeId)(z:List Value)(H:ag):Option (Value×ag):=some (Hy H.next,H.new<|rowOf e z)
def mkS(e:TypeId)(z:List Value)(l c:Value)(H:ag):Option (Value×ag):=
 ax (w_ l) λn=>ax (w_ c) λm=>gd (Nat.ble n m&&Nat.ble m 16777216&&true)<|some (.slice (some ⟨H.next,0,none⟩) n m,H.new<|rowOf e<|mg z m)
def Bz(e:TypeId)(es:Nat)(s x:Value)(H:ag):Option (Value×ag):=
 ax (Gn s) λp=>ax (appended H es x) λr=>gd (Nat.ble r.1 16777216)<|Nz (e,es) s p r.1 r.2 H
def cpA(es:Nat)(d x:Value)(H:ag):Option (Value×ag):=
 ax (Gn d) λp=>ax (appended H es x) λe=>
  @Option.rec Addr (λ_=>Option<|Value×ag) (gd (Nat.beq p.2.1 0)<|some (.int .i64 0,H))
   (λa=>ax (H.write a.block a.off<|tk (Nat.mul (aU (Nat.ble e.1 p.2.1) e.1 p.2.1) es) e.2) λH'=>some (.int .i64<|.ofNat<|aU (Nat.ble e.1 p.2.1) e.1 p.2.1,H')) p.1
def clA(z:List Value)(d:Value)(H:ag):Option (Value×ag):=
 ax (Gn d) λp=>@Option.rec Addr (λ_=>Option<|Value×ag) (some (.tuple #[],H)) (λa=>ax (H.write a.block a.off<|mg z p.2.1) λH'=>some (.tuple #[],H')) p.1
def KA(x:Value):Option (FuncId×List Value×List Value):=ax (Wm x) λq=>ax (fFn q.1) λg=>some (g,q.2)
def hN(H:ag):ag:=⟨H.rM,H.next,H.next⟩
def hM(H H':ag):ag:=⟨H'.rM,H'.next,kV H.low H'.low⟩
def E7(H H':ag):Cl:=aU (Nat.ble H.next H'.low) (cl 1) ⟨2,0,0,0,H,H'⟩
def S8(H H':ag):Cl:=aU (Nat.ble H.next H'.low) (cl 5) ⟨2,0,0,0,H,H'⟩
def clL(n:Nat)(x:Value)(H H':ag):Cl:=aU (Nat.ble H.next H'.low) ((ax (mF x) λa=>some<|Cl.mk 4 a.block a.off n hh0 hh0).getD<|cl 1) ⟨2,0,0,0,H,H'⟩
def clS(x v:Value)(H H':ag):Cl:=@Option.rec Addr (λ_=>Cl) ⟨2,0,0,0,H,H'⟩ (λa=>⟨3,a.block,a.off,len<|aX v,hh0,hh0⟩)<|mF x
def Ah(R:Nat->St->Prop)(n:Nat)(K:Out->Prop):Out->Prop:=λo=>
 @Out.rec (λ_=>Prop) False (λs=>∃m,m<n/\R m s) (λi s=>K<|.exit i s) (λl s=>K<|.goto l s) (λs=>K<|.ret s) o
theorem Oh{R:Nat->St->Prop}{n:Nat}{K:Out->Prop}{s:St}:Ah R n K (.norm s)=∃m,m<n/\R m s:=rfl
theorem Oi{R:Nat->St->Prop}{n:Nat}{K:Out->Prop}{s:St}{i:Nat}:Ah R n K (.exit i s)=K (.exit i s):=rfl
theorem S9{R:Nat->St->Prop}{n:Nat}{K:Out->Prop}{s:St}:Ah R n K (.ret s)=K (.ret s):=rfl
theorem dJ.Ai{P:Program}{X:Xt}{a:Code}{K:Out->Prop}{R:Nat->St->Prop}(h:∀n s,R n s->dJ P X a s (Ah R n K)):∀n s,R n s->dJ P X (.loop a) s K:=by
 intro n s hs;refine dJ.loop (T:=Nat×St) (λt=>t.2) (λt=>R t.1 t.2) (λt=>t.1) ?_ (n,s) hs;rintro⟨n,s⟩ hR;refine dJ.mono (h n s hR) λo ho=>?_;cases o with
 |fail=>exact ho
 |norm s'=>
  obtain⟨m,h1,h2⟩:=ho;exact⟨(m,s'),rfl,h2,h1⟩
 |exit i s'=>exact ho
 |goto l s'=>exact ho
 |ret s'=>exact ho
abbrev BA:=look
def QV(P:Program)(s:St)(rs:List ResultVar):(List Value->Prop)->Prop:=
 @List.rec ResultVar (λ_=>(List Value->Prop)->Prop) (λk=>k []) (λr _ ih k=>
  @ResultVar.rec (λ_=>Prop) (λt=>ih λvs=>k<|eO s t::vs) (λa t=>ME (r_ P t (eO s a) s.H) λv _=>ih λvs=>k<|v::vs) r) rs
theorem S_{P:Program}{s:St}:∀{rs:List ResultVar}{k:List Value->Prop},QV P s rs k->∃vs,iX P s rs=some vs/\k vs:=by
 intro rs
 induction rs with
 |nil=>intro k h;exact⟨[],rfl,h⟩
 |cons r rs ih=>
  intro k h;cases r with
  |tmp t=>
   obtain⟨vs,h1,h2⟩:=ih (k:=λvs=>k<|eO s t::vs) h;refine⟨eO s t::vs,?_,h2⟩;show(ax (some<|eO s t) λv=>ax (iX P s rs) λvs=>some<|v::vs)=_;rw[h1];rfl
  |cell a t=>
   obtain⟨v,H',h0,h⟩:=acs (K:=λv _=>QV P s rs λvs=>k<|v::vs) h;obtain⟨vs,h1,h2⟩:=ih (k:=λvs=>k<|v::vs) h;refine⟨v::vs,?_,h2⟩;show(ax (ax (r_ P t (eO s a) s.H) λp=>some p.1) λv=>ax (iX P s rs) λvs=>some<|v::vs)=_;rw[h0,h1];rfl
theorem XV{P:Program}{s:St}(hd:s.df=[])(h:QV P s rs λvs=>K (oN vs) s.H):f_ P rs K (.ret s):=by
 obtain⟨vs,h1,h2⟩:=S_ h;refine⟨hd,?_⟩;rw[h1];exact h2
theorem U7{P:Program}{s:St}(hd:s.df=[])(h:QV P s rs λvs=>K (oN vs) s.H):f_ P rs K (.norm s):=by
 obtain⟨vs,h1,h2⟩:=S_ h;refine⟨hd,?_⟩;rw[h1];exact h2
section
theorem xY(H:ag)(r:Nat)(o:iW)(q:Nat):(H.put r o).obj q=if q=r then o else H.obj q:=Tr.qQ _ _ _ _ _
theorem wO(H:ag)(o:iW)(q:Nat):(H.new o).obj q=if q=H.next then o else H.obj q:=Tr.qQ _ _ _ _ _
theorem sD(H:ag)(r:Nat)(o:iW):(H.put r o).low=min H.low r:=by
 show aU (Nat.ble H.low r) H.low r=_;cases h:Nat.ble H.low r with
 |true=>have:=ai h;rw[lG,je this]
 |false=>
  have:¬H.low<=r:=λg=>by rw[av g]at h;cases h
  rw[iE,qp aa]
def Bk(H:ag)(r:Nat)(ty:TypeId)(cs:List Value):Prop:=
 ∃R:Row,H.obj r=.row R/\R.ty=ty/\R.n=cs.length/\R.ja=false/\R.fz=0/\∀i(h:i<cs.length),R.cells.get top i=cs[i]
theorem Bk.cell{r:Nat}(h:Bk H r ty cs)(hv:cs[o]?=some v):H.cell r o=some v:=by
 obtain⟨R,h1,_,h2,_,_,h3⟩:=h;obtain⟨ho,hv⟩:=aL.1 hv;unfold ag.cell;rw[h1];show gd (Nat.ble (Nat.succ o) R.n) (some<|R.cells.get top o)=_;rw[h2,av aa,h3 o ho,hv];rfl
theorem Bk.mR{r:Nat}(h:Bk H r ty cs)(e:H'.obj r=H.obj r):Bk H' r ty cs:=by
 obtain⟨R,h1,h2⟩:=h;exact⟨R,e.trans h1,h2⟩
theorem rG{r:Nat}(e:H'.obj r=H.obj r)(o:Nat):H'.cell r o=H.cell r o:=by unfold ag.cell;rw[e]
theorem rH{r:Nat}(e:H'.obj r=H.obj r)(o n:Nat):H'.read r o n=H.read r o n:=by unfold ag.read;rw[e]
theorem Bk.new(H:ag)(ty:TypeId)(cs:List Value):Bk (H.new<|rowOf ty cs) H.next ty cs:=by
 refine⟨⟨ty,Tr.pU top cs 0 .nil,len cs,false,0⟩,by rw[wO,if_pos rfl];rfl,rfl,dG cs,rfl,rfl,λi h=>?_⟩;rw[Tr.jM,if_pos aa,aK];simp[h]
theorem XW:∀{k:Nat}(t:Tr Value)(cs:List Value),k+n<=cs.length->(∀i(h:i<cs.length),t.get top i=cs[i])->Tr.Cu top t k n=(cs.drop k).take n:=by
 induction n with
 |zero=>intro k t cs _ _;rw[Tr.zP];simp
 |succ n ih=>
  intro k t cs hk ht;rw[Tr.uQ,ih t cs aa ht,ht k aa,fA (by omega:k<cs.length),nW]
theorem Bk.read{r:Nat}(h:Bk H r ty cs)(hn:o+n<=cs.length):H.read r o n=some ((cs.drop o).take n):=by
 obtain⟨R,h1,_,h2,_,_,h3⟩:=h;cases n with
 |zero=>show some []=_;simp
 |succ n=>
  show(ax (rX<|H.obj r) λw=>gd (Nat.ble (Nat.add o<|n+1) w.n)<|some<|Tr.Cu top w.cells o<|n+1)=_;rw[h1];show gd (Nat.ble (Nat.add o<|n+1) R.n) (some<|Tr.Cu top R.cells o<|n+1)=_;rw[h2,av<|by simpa using hn,XW R.cells cs hn h3];rfl
def splice(cs:List Value)(o:Nat)(vs:List Value):List Value:=cs.take o++vs++cs.drop (o+vs.length)
theorem jr(h:o+vs.length<=cs.length):(splice cs o vs).length=cs.length:=by unfold splice;simp;omega
theorem mU(h:o+vs.length<=cs.length)(i:Nat):(splice cs o vs)[i]?=if o<=i/\i<o+vs.length then vs[i-o]? else cs[i]?:=by
 unfold splice;rw[bg,List.getElem?_append,List.getElem?_append];simp only[eH]
 by_cases h1:i<o
 .rw[if_pos aa,if_neg aa,eB,if_pos h1]
 .rw[if_neg aa]
  by_cases h2:i<o+vs.length
  .rw[if_pos aa,if_pos ⟨aa,h2⟩];congr 1;omega
  .rw[if_neg aa,if_neg aa,ig];congr 1;omega
theorem Bk.write{r:Nat}(h:Bk H r ty cs)(hn:o+vs.length<=cs.length)(hk:all' dK vs=true):
 ∃H',H.write r o vs=some H'/\Bk H' r ty (splice cs o vs)/\H'.next=H.next/\(∀q,q≠r->H'.obj q=H.obj q)/\(H'.low=min H.low r\/H'.low=H.low):=by
 obtain⟨R,h1,h2,h3,h4,h5,h6⟩:=h;cases vs with
 |nil=>
  refine⟨H,rfl,⟨R,h1,h2,by rw[jr hn];exact h3,h4,h5,λi hi=>?_⟩,rfl,λ_ _=>rfl,.inr rfl⟩;have hi':i<cs.length:=by rwa [jr hn]at hi
  have:=mU hn i;rw[if_neg (λh=>absurd h.2 (by simp;omega)),ae hi,ae hi']at this;rw[h6 i hi'];exact(bN this).symm
 |cons v vs'=>
  have hw:H.write r o (v::vs')=some (H.put r<|.row ⟨R.ty,Tr.pU top (v::vs') o R.cells,R.n,false,R.fz⟩):=by
   show(ax (rX<|H.obj r) λw=>gd (!w.ja&&Nat.ble (Nat.add o<|len<|v::vs') w.n&&Nat.ble w.fz o&&all' dK (v::vs'))<|some<|H.put r<|.row ⟨w.ty,Tr.pU top (v::vs') o w.cells,w.n,false,w.fz⟩)=_;rw[h1];show gd (!R.ja&&Nat.ble (Nat.add o<|len<|v::vs') R.n&&Nat.ble R.fz o&&all' dK (v::vs')) _=_;rw[hk,h4,h3,h5,dG,av<|by simpa using hn,av<|aM o];rfl
  refine⟨_,hw,⟨⟨R.ty,Tr.pU top (v::vs') o R.cells,R.n,false,R.fz⟩,by rw[xY,if_pos rfl],h2,by rw[jr hn];exact h3,rfl,h5,λi hi=>?_⟩,rfl,λq hq=>by rw[xY,if_neg hq],.inl<|sD _ _ _⟩;have hi':i<cs.length:=by rwa [jr hn]at hi
  have hg:=mU hn i;rw[ae hi]at hg;show(Tr.pU top (v::vs') o R.cells).get top i=_;rw[Tr.jM]
  by_cases hc:o<=i/\i<o+(v::vs').length
  .rw[if_pos hc]at hg|-;rw[aK,<-hg];rfl
  .rw[if_neg hc]at hg|-;rw[h6 i hi'];rw[ae hi']at hg;exact(bN hg).symm
structure qU(S:List Nat)(H H':ag):Prop where
 next:H.next<=H'.next
 obj:∀r,r<H.next->r∉S->H'.obj r=H.obj r
 low:∀b,b<=H.low->b<=H.next->(∀r∈S,b<=r)->b<=H'.low
 wf:H.low<=H.next->H'.low<=H'.next
abbrev Wf(H:ag):Prop:=H.low<=H.next
abbrev Ext(H H':ag):Prop:=qU [] H H'
theorem Ext.refl(H:ag):Ext H H:=⟨aj _,λ_ _ _=>rfl,λ_ h _ _=>h,λh=>h⟩
theorem qU.refl(S:List Nat)(H:ag):qU S H H:=⟨aj _,λ_ _ _=>rfl,λ_ h _ _=>h,λh=>h⟩
theorem qU.trans{S:List Nat}{A B C:ag}(h1:qU S A B)(h2:qU S B C):qU S A C:=
 ⟨aW h1.next h2.next,λr hr hS=>(h2.obj r (aH hr h1.next) hS).trans<|h1.obj r hr hS,λb hl hn hS=>h2.low b (h1.low b hl hn hS) (aW hn h1.next) hS,λh=>h2.wf<|h1.wf h⟩
theorem qU.later{S:List Nat}{A B C:ag}(h1:qU S A B)(h2:qU S' B C)(hS:∀r∈S',r∈S\/A.next<=r):qU S A C:=
 ⟨aW h1.next h2.next,λr hr hn=>(h2.obj r (aH hr h1.next) (λh=>by
  rcases hS r h with h|h
  .exact hn h
  .omega)).trans (h1.obj r hr hn),
  λb hl hn hb=>h2.low b (h1.low b hl hn hb) (aW hn h1.next) (λr hr=>by
   rcases hS r hr with h|h
   .exact hb r h
   .omega),λh=>h2.wf<|h1.wf h⟩
theorem qU.weaken{S:List Nat}{A B:ag}(h:qU S A B)(hs:∀r∈S,r∈S'):qU S' A B:=⟨h.next,λr hr hn=>h.obj r hr λg=>hn<|hs r g,λb hl hn hb=>h.low b hl hn λr hr=>hb r<|hs r hr,h.wf⟩
theorem Ext.new(H:ag)(o:iW):Ext H (H.new o):=⟨jv _,λr hr _=>by rw[wO,if_neg aa],λ_ h _ _=>h,λh=>Nat.le_succ_of_le h⟩
theorem qU.put(H:ag)(r:Nat)(o:iW):qU [r] H (H.put r o):=⟨aj _,λq _ hq=>by rw[xY,if_neg λe=>hq<|by simp[e]],λb h _ hb=>by rw[sD];have:=hb r (by simp);omega,λh=>by rw[sD];show min H.low r<=H.next;omega⟩
abbrev cz:=Nat×TypeId×List Value
structure SH(S:List Nat)(H0 H:ag)(L:List cz):Prop where
 ext:qU S H0 H
 bk:∀e∈L,Bk H e.1 e.2.1 e.2.2
 lo:∀e∈L,(e.1∈S\/H0.next<=e.1)/\e.1<H.next
 ne:L.Pairwise λa b=>a.1≠b.1
 wf:H.low<=H.next
variable{S:List Nat}
theorem SH.refl{H:ag}(hw:Wf H):SH [] H H []:=⟨Ext.refl H,(λe h=>by cases h),(λe h=>by cases h),List.Pairwise.nil,hw⟩
theorem SH.zN{L:List cz}(hS:SH [] H0 H L){e:cz}(he:e∈L):H0.next<=e.1:=(hS.lo e he).1.resolve_left λh=>nomatch h
theorem SH.get{L:List cz}(hS:SH S H0 H L)(i:Nat){r:Nat}(hi:L[i]?=some (r,ty,cs)):Bk H r ty cs:=hS.bk _<|aA hi
theorem SH.old{L:List cz}(hS:SH [] H0 H L){r:Nat}(hr:r<H0.next):H.cell r o=H0.cell r o:=rG (hS.ext.obj r hr<|by simp) o
theorem SH.grow{L:List cz}(hS:SH S H0 H L)(ty:TypeId)(cs:List Value):SH S H0 (H.new<|rowOf ty cs) ((H.next,ty,cs)::L):=by
 refine⟨hS.ext.later (Ext.new _ _) (λr h=>nomatch h),?_,?_,?_,(Ext.new _ _).wf hS.wf⟩
 .intro e he;rcases bP.1 he with rfl|he
  .exact Bk.new H ty cs
  .exact(hS.bk e he).mR (by rw[wO,if_neg (by have:=(hS.lo e he).2;omega)])
 .intro e he;rcases bP.1 he with rfl|he
  .exact⟨.inr hS.ext.next,bL _⟩
  .exact⟨(hS.lo e he).1,Nat.lt_succ_of_lt (hS.lo e he).2⟩
 .refine List.Pairwise.cons (λe he=>?_) hS.ne;have:=(hS.lo e he).2;show H.next≠e.1
  omega
theorem SH.turn{A A' L:List cz}(hS:SH S H0 H<|A++L)(hx:qU (A.map (·.1)) H H')(hb:∀e∈A',Bk H' e.1 e.2.1 e.2.2/\(e.1∈A.map (·.1)\/H.next<=e.1)/\e.1<H'.next)(hn:A'.Pairwise λa b=>a.1≠b.1):SH S H0 H' (A'++L):=by
 have hp:=ko.1 hS.ne;have hA:∀r∈A.map (·.1),∃e∈A,e.1=r:=λr hr=>by simpa using hr
 have hnot:∀e∈L,e.1∉A.map (·.1):=λe he h=>by
  obtain⟨a,ha,e1⟩:=hA _ h;exact hp.2.2 a ha e he e1
 refine⟨?_,?_,?_,?_,hx.wf hS.wf⟩
 .refine qU.later hS.ext hx (λr hr=>?_);obtain⟨a,ha,rfl⟩:=hA r hr;exact(hS.lo a<|bI _ ha).1
 .intro e he;rcases bX.1 he with he|he
  .exact(hb e he).1
  .exact(hS.bk e<|bD _ he).mR<|hx.obj _ (hS.lo e<|bD _ he).2<|hnot e he
 .intro e he;rcases bX.1 he with he|he
  .refine⟨?_,(hb e he).2.2⟩;rcases(hb e he).2.1 with h|h
   .obtain⟨a,ha,e1⟩:=hA _ h;rw[<-e1];exact(hS.lo a<|bI _ ha).1
   .have:=hS.ext.next;exact .inr aa
  .have:=hS.lo e (bD _ he);exact⟨this.1,aH this.2 hx.next⟩
 .refine ko.2 ⟨hn,hp.2.1,λa ha e he=>?_⟩;rcases(hb a ha).2.1 with h|h
  .exactλe1=>hnot e he (by rw[<-e1];exact h)
  .have:=(hS.lo e<|bD _ he).2;omega
theorem SH.call{L:List cz}(hS:SH S H0 H L)(hx:Ext H H'):SH S H0 H' L:=SH.turn (A:=[]) (A':=[]) hS hx (λe h=>nomatch h) List.Pairwise.nil
theorem SH.drop{A L:List cz}(hS:SH S H0 H<|A++L):SH S H0 H L:=SH.turn (A:=A) (A':=[]) hS (qU.refl _ _) (λe h=>nomatch h) List.Pairwise.nil
theorem SH.perm{L L':List cz}(hS:SH S H0 H L)(hp:L.Perm L'):SH S H0 H L':=
 ⟨hS.ext,λe he=>hS.bk e<|hp.mem_iff.2 he,λe he=>hS.lo e<|hp.mem_iff.2 he,hp.pairwise hS.ne λh=>h.symm,hS.wf⟩
theorem SH.base{L:List cz}(hS:SH S H0 H L):SH (L.map (·.1)) H H L:=
 ⟨qU.refl _ _,hS.bk,λe he=>⟨.inl<|aZ.2 ⟨e,he,rfl⟩,(hS.lo e he).2⟩,hS.ne,hS.wf⟩
theorem SH.over{L L':List cz}(hS:SH S H0 H L)(h:SH (L.map (·.1)) H H' L'):SH S H0 H' L':=by
 have hA:∀r∈L.map (·.1),∃e∈L,e.1=r:=λr hr=>by simpa using hr
 refine⟨qU.later hS.ext h.ext λr hr=>?_,h.bk,λe he=>⟨?_,(h.lo e he).2⟩,h.ne,h.wf⟩
 .obtain⟨a,ha,rfl⟩:=hA r hr;exact(hS.lo a ha).1
 .rcases(h.lo e he).1 with h1|h1
  .obtain⟨a,ha,e1⟩:=hA _ h1;rw[<-e1];exact(hS.lo a ha).1
  .have:=hS.ext.next;exact .inr aa
theorem SH.lt{L:List cz}(hS:SH S H0 H L):∀r∈L.map (·.1),r<H.next:=λr hr=>by
 obtain⟨e,he,rfl⟩:=aZ.1 hr;exact(hS.lo e he).2
theorem SH.weaken{L:List cz}(hS:SH S H0 H L)(h:∀r∈S,r∈S'):SH S' H0 H L:=
 ⟨hS.ext.weaken h,hS.bk,λe he=>⟨(hS.lo e he).1.imp_left<|h _,(hS.lo e he).2⟩,hS.ne,hS.wf⟩
section steps
variable{L:List cz}
theorem SH.box(hS:SH S H0 H L){x:Value}(hx:rY x=true)(k:∀H1 r,SH S H0 H1 ((r,ty,aX x)::L)->K (.pointer<|some ⟨r,0,none⟩) H1):ME (Le ty x H) K:=by
 unfold Le;rw[hx];exact k _ _<|hS.grow ty<|aX x
theorem SH.iI(hS:SH S H0 H L)(k:∀H1 r,SH S H0 H1 ((r,ty,z)::L)->K (.pointer<|some ⟨r,0,none⟩) H1):ME (Go.Ae.iI ty z H) K:=k _ _<|hS.grow ty z
theorem ME.ld{r:Nat}(h:H.cell r o=some v)(k:K v H):ME (rQ none (.pointer<|some ⟨r,o,none⟩) H) K:=by
 show ME (ax (H.cell r o) λv=>some (v,H)) K;rw[h];exact k
theorem ME.CU{r:Nat}(h:H.read r o n=some vs)(k:K (.agg ⟨vs⟩) H):ME (rQ (some n) (.pointer<|some ⟨r,o,none⟩) H) K:=by
 show ME (ax (H.read r o n) λvs=>some (.agg ⟨vs⟩,H)) K;rw[h];exact k
theorem SH.ld(hS:SH S H0 H L)(i:Nat){r:Nat}(hi:L[i]?=some (r,ty,cs))(hv:cs[o]?=some v)(k:K v H):ME (rQ none (.pointer<|some ⟨r,o,none⟩) H) K:=ME.ld ((hS.get i hi).cell hv) k
theorem SH.CU(hS:SH S H0 H L)(i:Nat){r:Nat}(hi:L[i]?=some (r,ty,cs))(hn:o+n<=cs.length)(k:K (.agg ⟨(cs.drop o).take n⟩) H):ME (rQ (some n) (.pointer<|some ⟨r,o,none⟩) H) K:=ME.CU ((hS.get i hi).read hn) k
theorem SH.E8(hS:SH [] H0 H L){r:Nat}(h:H0.cell r o=some v)(hr:r<H0.next)(k:K v H):ME (rQ none (.pointer<|some ⟨r,o,none⟩) H) K:=ME.ld ((hS.old hr).trans h) k
theorem SH.xZ(hS:SH [] H0 H L){r:Nat}(h:H0.read r o n=some vs)(hr:r<H0.next)(k:K (.agg ⟨vs⟩) H):ME (rQ (some n) (.pointer<|some ⟨r,o,none⟩) H) K:=ME.CU ((rH (hS.ext.obj r hr<|by simp) o n).trans h) k
theorem ID:∀{l:List α}{i:Nat}(h:i<l.length),(l[i]::l.eraseIdx i).Perm l:=by
 intro l
 induction l with
 |nil=>intro i h;cases h
 |cons x l ih=>
  intro i h;cases i with
  |zero=>exact rT _
  |succ i=>exact(List.Perm.swap x _ _).trans<|(ih<|by simpa using h).cons x
theorem SH.yN(hS:SH S H0 H L)(i:Nat){r:Nat}(hi:L[i]?=some (r,ty,cs))(hn:o+vs.length<=cs.length)(hk:all' dK vs=true):
 ∃H1,H.write r o vs=some H1/\SH S H0 H1 (L.set i (r,ty,splice cs o vs))/\qU [r] H H1:=by
 have hil:i<L.length:=(aL.1 hi).1;have hig:L[i]=(r,ty,cs):=(aL.1 hi).2;obtain⟨H1,h1,h2,h3,h4,h5⟩:=(hS.get i hi).write hn hk
 have hx:qU [r] H H1:=⟨aa,λq _ hq=>h4 q λe=>hq<|by simp[e],λb hl _ hb=>by
  have:=hb r (by simp);rcases h5 with h5|h5<;>omega,λh=>by rcases h5 with h5|h5<;>omega⟩
 refine⟨H1,h1,?_,hx⟩;have hp:L.Perm ((r,ty,cs)::L.eraseIdx i):=by rw[<-hig];exact(ID hil).symm
 have hS2:SH S H0 H ([(r,ty,cs)]++L.eraseIdx i):=hS.perm hp
 have tu:=SH.turn (A':=[(r,ty,splice cs o vs)]) hS2 hx (λe he=>by
  rw[aO]at he;subst he;refine⟨h2,.inl<|by simp,?_⟩;have:=(hS.lo _<|aA hi).2;show r<H1.next
  omega) (iF _ _)
 refine tu.perm ?_;have:(L.set i (r,ty,splice cs o vs)).eraseIdx i=L.eraseIdx i:=by rw[List.eraseIdx_set_eq]
 have hl:i<(L.set i (r,ty,splice cs o vs)).length:=by simpa using hil
 have hg:(L.set i (r,ty,splice cs o vs))[i]=(r,ty,splice cs o vs):=by simp
 have hq:=ID hl;rw[hg,this]at hq;exact hq
theorem SH.st(hS:SH S H0 H L)(i:Nat){r:Nat}(hi:L[i]?=some (r,ty,cs))(hl:(aX v).length=n)(hn:o+n<=cs.length)(hk:all' dK (aX v)=true)(k:∀H1,SH S H0 H1 (L.set i (r,ty,splice cs o<|aX v))->K undef H1):ME (CS n (.pointer<|some ⟨r,o,none⟩) v H) K:=by
 obtain⟨H1,h1,h2,_⟩:=hS.yN (vs:=aX v) (o:=o) i hi aa hk;show ME (gd (Nat.beq (len<|aX v) n)<|ax (H.write r o<|aX v) λH'=>some (undef,H')) K;rw[dG,hl,bC,h1];exact k H1 h2
end steps
theorem eF(h:H.low<=H.next):hM H (hN H)=H:=by
 show ag.mk H.rM H.next (aU (Nat.ble H.low H.next) H.low H.next)=H
 rw[av h];rfl
theorem qH(H:ag):Wf (hN H):=aj _
theorem KB(a b:Nat):kV a b=min a b:=by
 show aU (Nat.ble a b) a b=_;cases h:Nat.ble a b with
 |true=>rw[lG,je<|ai h]
 |false=>
  have:¬a<=b:=λg=>by rw[av g]at h;cases h
  rw[iE,qp aa]
theorem qU.draw(hx:qU S (hN H) H'):qU S H (hM H H'):=
 ⟨hx.next,hx.obj,λb hl hn hb=>by show b<=kV H.low H'.low;rw[KB];have:=hx.low b hn hn hb;omega,λh=>by show kV H.low H'.low<=H'.next;rw[KB];have:H.next<=H'.next:=hx.next;omega⟩
theorem SH.oV{L:List cz}(hS:SH S H0 H L)(hx:Ext (hN H) H'):SH S H0 (hM H H') L:=hS.call hx.draw
theorem SH.hN{L:List cz}(hS:SH S H0 H L):(∀r o,(Go.Ae.hN H).cell r o=H.cell r o)/\(∀r o n,(Go.Ae.hN H).read r o n=H.read r o n):=⟨λ_ _=>rfl,λ_ _ _=>rfl⟩
theorem cB(n r o:Nat)(H:ag):clL n (.pointer<|some ⟨r,o,none⟩) H (hN H)=⟨4,r,o,n,hh0,hh0⟩:=by
 show aU (Nat.ble H.next H.next) _ _=_;rw[av (aj _)];rfl
theorem dL(hx:Ext (hN H) H'):E7 H H'=cl 1:=by
 show aU (Nat.ble H.next H'.low) _ _=_;rw[av (hx.low H.next (aj _) (aj _) λr h=>nomatch h)];rfl
theorem D5(hx:Ext (hN H) H'):S8 H H'=cl 5:=by
 show aU (Nat.ble H.next H'.low) _ _=_;rw[av (hx.low H.next (aj _) (aj _) λr h=>nomatch h)];rfl
theorem dn(r o:Nat)(v:Value)(H H':ag):clS (.pointer<|some ⟨r,o,none⟩) v H H'=⟨3,r,o,len<|aX v,hh0,hh0⟩:=rfl
theorem FK(h:noTwo cls=true):gQ ops cls=true:=by
 unfold gQ;rw[h];rfl
end
variable{L L' M M' gb:List cz}
section
variable{S:List Nat}
abbrev vi(n:Int):Value:=.int .i64 n
abbrev vn(n:Nat):Value:=.int .i64 (n:Int)
theorem BB(a b:Int):JJ a b=decide (a<b):=by
 cases a with
 |ofNat m=>cases b with
  |ofNat n=>show Nat.ble (Nat.succ m) n=_;rw[bZ,Nat.ble_eq];simp;omega
  |negSucc n=>show false=_;symm;simp;omega
 |negSucc m=>cases b with
  |ofNat n=>show true=_;symm;simp;omega
  |negSucc n=>show Nat.ble (Nat.succ n) m=_;rw[bZ,Nat.ble_eq];simp;omega
theorem Mc(a b:Int):Nv a b=decide (a=b):=by
 cases a with
 |ofNat m=>cases b with
  |ofNat n=>show Nat.beq m n=_;rw[bZ,gD];simp;omega
  |negSucc n=>show false=_;symm;simp
 |negSucc m=>cases b with
  |ofNat n=>show false=_;symm;simp
  |negSucc n=>show Nat.beq m n=_;rw[bZ,gD];simp
theorem pZ{n:Int}(h1:-9223372036854775808<=n)(h2:n<=9223372036854775807):fZ .i64 n=n:=by
 cases n with
 |ofNat m=>
  show aU (B_ .i64&&Nat.ble m 9223372036854775807) (Int.ofNat m) _=_
  rw[show(B_ .i64&&Nat.ble m 9223372036854775807)=true from by
   rw[show B_ .i64=true from rfl,pQ];exact av (by have:(m:Int)<=9223372036854775807:=h2;omega)];rfl
 |negSucc m=>
  show aU (B_ .i64&&Nat.ble m 9223372036854775807) (Int.negSucc m) _=_
  rw[show(B_ .i64&&Nat.ble m 9223372036854775807)=true from by
   rw[show B_ .i64=true from rfl,pQ];exact av aa];rfl
section bin
variable{P:Program}{a:Int}
theorem yO:Nat.beq (mW k) (mW k)=true:=bC _
theorem iJ{op:BinOp}(hs:GN op=false)(h:Uj op k a b=some v):jb P op t ox oy (.int k a) (.int k b)=some v:=by
 show aU (GN op) (Wt op t (.int k a)<|.int k b) (gd (Nat.beq (mW k)<|mW k)<|Uj op k a b)=_;rw[hs,yO];exact h
theorem D6:jb P .lss t ox oy (.int k a) (.int k b)=some (.bool<|decide<|a<b):=iJ rfl (by show some (Value.bool<|JJ a b)=_;rw[BB])
theorem Oj:jb P .gtr t ox oy (.int k a) (.int k b)=some (.bool<|decide<|b<a):=iJ rfl (by show some (Value.bool<|JJ b a)=_;rw[BB])
theorem D7:jb P .leq t ox oy (.int k a) (.int k b)=some (.bool<|decide<|a<=b):=iJ rfl (by
 show some (Value.bool<|!(JJ b a))=_;rw[BB,<-decide_not];simp[Int.not_lt])
theorem oJ:jb P .geq t ox oy (.int k a) (.int k b)=some (.bool<|decide<|b<=a):=iJ rfl (by
 show some (Value.bool<|!(JJ a b))=_;rw[BB,<-decide_not];simp[Int.not_lt])
theorem Ol:jb P .eql t ox oy (.int k a) (.int k b)=some (.bool<|decide<|a=b):=iJ rfl (by show some (Value.bool<|Nv a b)=_;rw[Mc])
theorem Om:jb P .neq t ox oy (.int k a) (.int k b)=some (.bool<|!decide (a=b)):=iJ rfl (by show some (Value.bool<|!(Nv a b))=_;rw[Mc])
theorem dI(h1:-9223372036854775808<=a+b)(h2:a+b<=9223372036854775807):jb P .add t ox oy (vi a) (vi b)=some (vi<|a+b):=iJ rfl (by show some (Value.int .i64<|fZ .i64<|a+b)=_;rw[pZ h1 h2])
theorem nM(h1:-9223372036854775808<=a-b)(h2:a-b<=9223372036854775807):jb P .sub t ox oy (vi a) (vi b)=some (vi<|a-b):=iJ rfl (by show some (Value.int .i64<|fZ .i64<|a-b)=_;rw[pZ h1 h2])
theorem On(h1:-9223372036854775808<=a*b)(h2:a*b<=9223372036854775807):jb P .mul t ox oy (vi a) (vi b)=some (vi<|a*b):=iJ rfl (by show some (Value.int .i64<|fZ .i64<|a*b)=_;rw[pZ h1 h2])
end bin
theorem Oo(b:Bool):gU (Op.unary .not<|.bool b)=some (.bool !b):=rfl
theorem min2(k:IntKind)(a b:Int):V4 false [.int k a,.int k b]=some (.int k<|min a b):=by
 show ax (gd (Nat.beq (mW k)<|mW k)<|some<|aU (JJ b a) (Value.int k b)<|Value.int k a) some=_;rw[yO,yz,Ho,BB]
 by_cases h:b<a
 .rw[aS h,lG,Int.min_eq_right aa]
 .rw[bM h,iE,Int.min_eq_left aa]
theorem max2(k:IntKind)(a b:Int):V4 true [.int k a,.int k b]=some (.int k<|max a b):=by
 show ax (gd (Nat.beq (mW k)<|mW k)<|some<|aU (JJ a b) (Value.int k b)<|Value.int k a) some=_;rw[yO,yz,Ho,BB]
 by_cases h:a<b
 .rw[aS h,lG,Int.max_eq_right aa]
 .rw[bM h,iE,Int.max_eq_left aa]
theorem IE(b:Bool):gF (.bool b)=some b:=rfl
theorem Ta(off r o:Nat):fld off (.pointer<|some ⟨r,o,none⟩)=some (.pointer<|some ⟨r,o+off,none⟩):=rfl
theorem jl(a:Addr):Ld (.pointer<|some a)=some (.pointer<|some a):=rfl
theorem Tc(a:Option Addr)(n c:Nat):afz (.slice a n c)=some (vn n):=rfl
theorem Oq(s:ByteArray):afA (.string s)=some (vn s.size):=by
 show some (Value.int .i64<|Int.ofNat<|len s.data.toList)=_;rw[dG];rfl
theorem uB{r k:Nat}(h:k<n):zH es (.slice (some ⟨r,o,none⟩) n c) (vn k)=some (.pointer<|some ⟨r,o+k*es,none⟩):=by
 show gd (Nat.ble (Nat.succ k) n) (some<|Value.pointer<|some ⟨r,Nat.add o<|Nat.mul k es,none⟩)=_;rw[av h];rfl
theorem abn{s:ByteArray}{k:Nat}(h:k<s.size):XU (.string s) (vn k)=some (.int .u8 ((s.data.toList[k]'(by simpa using h)).toNat:Int)):=by
 show(ax (nth s.data.toList k) λb=>some<|Value.int .u8<|.ofNat b.toNat)=_;rw[kU,ae<|by simpa using h];rfl
def Fl(H:ag)(a:Option Addr)(n es:Nat)(cs:List Value):Prop:=
 cs.length=n*es/\∀(i:Nat)(x:Value),cs[i]?=some x->∃r o,a=some ⟨r,o,none⟩/\r<H.next/\H.cell r (o+i)=some x
theorem Fl.ext{S:List Nat}{H H':ag}{a:Option Addr}{n es:Nat}{cs:List Value}(h:Fl H a n es cs)(hx:qU S H H')(hS:∀r o,a=some ⟨r,o,none⟩->r∉S):Fl H' a n es cs:=
 ⟨h.1,λi x hi=>by
   obtain⟨r,o,h1,h2,h3⟩:=h.2 i x hi;exact⟨r,o,h1,aH h2 hx.next,(rG (hx.obj r h2<|hS r o h1) _).trans h3⟩⟩
theorem Fl.ex(h:Fl H a n es cs)(hx:Ext H H'):Fl H' a n es cs:=h.ext hx λr o _ h=>nomatch h
theorem Fl.nil(H:ag)(a:Option Addr)(es:Nat):Fl H a 0 es []:=⟨by simp,λi x h=>by simp at h⟩
theorem Fl.idx(h:Fl H a n es cs)(he:0<es){k:Nat}(hk:k<n):
 ∃r o,zH es (.slice a n c) (vn k)=some (.pointer<|some ⟨r,o,none⟩)/\r<H.next/\(∀f x,f<es->cs[k*es+f]?=some x->H.cell r (o+f)=some x)/\(∃o0,a=some ⟨r,o0,none⟩/\o=o0+k*es):=by
 have hl:k*es<cs.length:=by rw[h.1];exact Nat.mul_lt_mul_of_pos_right hk he
 obtain⟨r,o,rfl,h2,h3⟩:=h.2 (k*es) _<|ae hl;refine⟨r,o+k*es,uB hk,h2,λf x hf hx=>?_,o,rfl,rfl⟩;obtain⟨r',o',h4,_,h5⟩:=h.2 _ _ hx;cases h4;rw[Nat.add_assoc];exact h5
theorem Bk.fl{r:Nat}(h:Bk H r ty cs)(hr:r<H.next)(hn:cs.length=n*es):Fl H (some ⟨r,0,none⟩) n es cs:=
 ⟨hn,λi x hi=>⟨r,0,rfl,hr,by rw[aI];exact h.cell hi⟩⟩
abbrev fG(l:List Nat):List Value:=l.map vn
abbrev bools(l:List Bool):List Value:=l.map Value.bool
theorem oz(f:α->Value){l:List α}{x:α}(h:l[i]?=some x):(l.map f)[i]?=some (f x):=by rw[aR,h];rfl
theorem KC(z:List Value)(n:Nat):(mg z n).length=n*z.length:=by
 induction n with
 |zero=>show([]:List Value).length=_;simp
 |succ n ih=>show(app z<|mg z n).length=_;rw[nY,ay,ih,vC];omega
theorem pN(x:Value)(n:Nat):mg [x] n=List.replicate n x:=by
 induction n with
 |zero=>rfl
 |succ n ih=>show app [x] (mg [x] n)=_;rw[nY,ih];rfl
theorem SH.mkS(hS:SH S H0 H L)(hn:n<=m)(hm:m<=16777216)(k:∀H1 r,SH S H0 H1 ((r,e,mg z m)::L)->K (.slice (some ⟨r,0,none⟩) n m) H1):ME (Go.Ae.mkS e z (vn n) (vn m) H) K:=by
 show ME (gd (Nat.ble n m&&Nat.ble m 16777216&&true)<|some (Value.slice (some ⟨H.next,0,none⟩) n m,H.new<|rowOf e<|mg z m)) K;rw[av hn,av hm];exact k _ _<|hS.grow e _
theorem SH.sub(hS:SH S H0 H L)(h:L'.Sublist L):SH S H0 H L':=
 ⟨hS.ext,λe he=>hS.bk e<|h.mem he,λe he=>hS.lo e<|h.mem he,hS.ne.sublist h,hS.wf⟩
theorem SH.take(hS:SH S H0 H L)(n:Nat):SH S H0 H (L.take n):=hS.sub<|List.take_sublist n L
theorem SH.cast(hS:SH S H0 H L)(h:L=L'):SH S H0 H L':=h▸hS
theorem SH.to{r:Nat}(hS:SH S H0 H<|(r,ty,cs)::L)(h:cs=cs'):SH S H0 H ((r,ty,cs')::L):=h▸hS
theorem lM(f:α->Value){l:List α}{k:Nat}(hk:k<l.length)(x:α):splice (l.map f) k [f x]=(l.set k x).map f:=by
 apply eP;intro i;rw[mU (by simp;omega),aR,aR,bV]
 by_cases h:k=i
 .subst h;rw[if_pos ⟨aj _,by simp⟩,if_pos rfl,if_pos hk,dY];rfl
 .rw[if_neg (by simp;omega),if_neg h]
end
section
variable{S:List Nat}
def bS(e:TypeId)(z:List Value)(es n:Nat)(ps:List<|Nat×Value)(H:ag):Option (Value×ag):=
 gd (Nat.ble (Nat.mul n es) 16777216) (ax (Cf (λk=>some (Nat.mul k es,es)) ps<|mg z n) λcs=>some (.slice (some ⟨H.next,0,none⟩) n n,H.new<|rowOf e cs))
def bld(pl:List<|Nat×Nat)(z:List Value)(ps:List<|Nat×Value):Option Value:=ax (Cf (nth pl) ps z) λcs=>some<|.agg ⟨cs⟩
theorem PU.of{o:Option Value}{K:Value->Prop}(h:o=some v)(k:K v):PU o K:=by rw[h];exact k
theorem ME.of{o:Option (Value×ag)}(h:o=some (v,H))(k:K v H):ME o K:=by rw[h];exact k
theorem XX:∀(vs:List Value)(k:Nat)(cs:List Value),k+vs.length<=cs.length->EI vs k cs=splice cs k vs:=by
 intro vs
 induction vs with
 |nil=>
  intro k cs h;show cs=_;unfold splice;simp
 |cons v vs ih=>
  intro k cs h
  have hset:∀(k:Nat)(cs:List Value),setAt v k cs=cs.set k v:=by
   intro k
   induction k with
   |zero=>intro cs;cases cs<;>rfl
   |succ k ihk=>intro cs;cases cs with
    |nil=>rfl
    |cons c cs=>exact bW (c::·)<|ihk cs
  show EI vs (Nat.succ k) (setAt v k cs)=_;simp only[bH]at h;rw[hset,ih (k+1) _ (by simp;omega)];apply eP;intro i;rw[mU (by simp;omega),mU (by simp;omega),bV]
  by_cases h1:i=k
  .subst h1;rw[if_neg aa,if_pos rfl,if_pos aa,if_pos ⟨aj _,by simp⟩];simp
  .by_cases h2:k+1<=i/\i<k+1+vs.length
   .rw[if_pos h2,if_pos (by simp;omega),show i-k=(i-(k+1))+1 by omega];simp
   .rw[if_neg h2,if_neg λe=>h1 e.symm,if_neg (by simp only[bH];omega)]
theorem sF(cs vs:List Value)(h:cs.length=vs.length):splice cs 0 vs=vs:=by
 unfold splice;rw[gJ aa];simp
theorem XY(hz:z.length=es)(hv:rY v=true)(hc:(aX v).length=es)(he:es<=16777216):
 bS e z es 1 [(0,v)] H=some (.slice (some ⟨H.next,0,none⟩) 1 1,H.new<|rowOf e<|aX v):=by
 have hr:mg z 1=z:=by show app z []=z;rw[nY,aQ]
 unfold bS;rw[av (by show 1*es<=_;omega),hr];show(ax (gd (rY v&&Nat.beq (len<|aX v) es&&Nat.ble (Nat.add (Nat.mul 0 es) es) (len z))<|some<|EI (aX v) (Nat.mul 0 es) z) λcs=>some (Value.slice (some ⟨H.next,0,none⟩) 1 1,H.new<|rowOf e cs))=_;have e0:Nat.mul 0 es=0:=gP es;rw[hv,dG,hc,bC,dG,hz,e0];rw[show Nat.ble (Nat.add 0 es) es=true from av (by show 0+es<=es;omega),XX _ _ _ aa,sF _ _ aa];rfl
theorem xA{r k:Nat}{xs:List Value}(h:Bk H r ty xs)(hk:xs.length=k*es):appended H es (.slice (some ⟨r,0,none⟩) k c)=some (k,xs):=by
 show(ax (H.read r 0<|Nat.mul k es) λl=>some (k,l))=_
 have:H.read r 0 (Nat.mul k es)=some xs:=by
  rw[h.read (by show 0+k*es<=_;omega)];simp only[iR];rw[fO (by show xs.length<=k*es;omega)]
 rw[this];rfl
theorem Me{k:Nat}{x:Value}{xs:List Value}(ha:appended H es x=some (k+1,xs))(hk:k+1<=16777216):
 Bz e es (.slice none 0 0) x H=some (.slice (some ⟨H.next,0,none⟩) (k+1)<|dV es,H.new<|rowOf e xs):=by
 unfold Bz;show(ax (appended H es x) λr=>gd (Nat.ble r.1 16777216)<|Nz (e,es) (.slice none 0 0) (none,0,0) r.1 r.2 H)=_;rw[ha];show gd (Nat.ble (k+1) 16777216) _=_;rw[av hk];rfl
theorem BC(es:Nat):eY (dV es)=false:=by
 show Nat.ble (18446744073709551616+es) 9223372036854775807=false;rw[<-aV];intro h;have:=ai h;omega
theorem Mf{k r:Nat}{x:Value}{xs:List Value}(he:0<es)(hb:Bk H r e<|cs++dH)(hr:r<H.next)(hn:cs.length=n*es)(ha:appended H es x=some (k+1,xs))(hx:xs.length=(k+1)*es)(hok:all' dK xs=true)(hk:k+1<=16777216)(hnn:n<=16777216):
 ∃r' H' Ci,Bz e es (.slice (some ⟨r,0,none⟩) n<|dV es) x H=some (.slice (some ⟨r',0,none⟩) (n+(k+1))<|dV es,H')/\Bk H' r' e (cs++xs++Ci)/\(r'=r\/r'=H.next)/\r'<H'.next/\qU [r] H H'/\(H'.low<=r):=by
 have hap:Bz e es (.slice (some ⟨r,0,none⟩) n<|dV es) x H=pK (e,es) ⟨r,0,none⟩ n (dV es) (k+1) xs H:=by
  unfold Bz;show(ax (appended H es x) λq=>gd (Nat.ble q.1 16777216)<|Nz (e,es) (.slice (some ⟨r,0,none⟩) n<|dV es) (some ⟨r,0,none⟩,n,dV es) q.1 q.2 H)=_;rw[ha];show gd (Nat.ble (k+1) 16777216) (gd (Nat.ble n 16777216)<|aU (eY<|dV es) _<|gd (Nat.beq (dV es)<|dV es)<|pK (e,es) ⟨r,0,none⟩ n (dV es) (k+1) xs H)=_;rw[av hk,av hnn,BC,bC];rfl
 rw[hap];obtain⟨R,h1,h2,h3,h4,h5,h6⟩:=id hb;have hmul:(n+(k+1))*es=n*es+(k+1)*es:=dN ..
 have hlen:(cs++dH).length=n*es+dH.length:=by rw[ay,hn]
 have hun:pK (e,es) ⟨r,0,none⟩ n (dV es) (k+1) xs H=aU (Nat.ble (Nat.add 0<|Nat.mul (Nat.add n<|k+1) es) R.n)
  (ax (H.write r (Nat.add 0<|Nat.mul n es) xs) λH'=>some (Value.slice (some ⟨r,0,none⟩) (Nat.add n<|k+1)<|dV es,H'))
  (gd (Nat.ble (Nat.add 0<|Nat.mul n es) R.n&&Nat.ble R.fz (Nat.add 0<|Nat.mul n es)&&all' dK xs)
   (some (Value.slice (some ⟨H.next,0,none⟩) (Nat.add n<|k+1)<|dV es,
    (H.put r .dead).new (.row ⟨R.ty,Tr.pU top xs (Nat.add 0<|Nat.mul n es) R.cells,Nat.add 0<|Nat.mul (Nat.add n<|k+1) es,false,R.fz⟩)))):=by
  unfold pK;show(ax (rX<|H.obj r) _)=_;rw[h1];show gd (Nat.beq R.ty e&&!R.ja) _=_;rw[h2,bC,h4];rfl
 rw[hun];have e1:Nat.add 0 (Nat.mul n es)=n*es:=aI _;have e2:Nat.add 0 (Nat.mul (Nat.add n<|k+1) es)=n*es+(k+1)*es:=(aI _).trans hmul;rw[e1,e2,h3,hlen]
 by_cases hc:n*es+(k+1)*es<=n*es+dH.length
 .rw[av hc,lG];obtain⟨H1,w1,w2,w3,w4,w5⟩:=hb.write (o:=n*es) (vs:=xs) (by rw[hlen];omega) hok;rw[w1]
  have hlow:H1.low<=r:=by
   rcases w5 with w5|w5
   .omega
   .
    cases xs with
    |nil=>
     have h0:0<(k+1)*es:=o_ aa he;rw[<-hx]at h0;cases h0
    |cons v vs'=>
     have:H.write r (n*es) (v::vs')=some (H.put r<|.row ⟨R.ty,Tr.pU top (v::vs') (n*es) R.cells,R.n,false,R.fz⟩):=by
      show(ax (rX<|H.obj r) λw=>gd (!w.ja&&Nat.ble (Nat.add (n*es)<|len<|v::vs') w.n&&Nat.ble w.fz (n*es)&&all' dK (v::vs'))<|some<|H.put r<|.row ⟨w.ty,Tr.pU top (v::vs') (n*es) w.cells,w.n,false,w.fz⟩)=_;rw[h1];show gd (!R.ja&&Nat.ble (Nat.add (n*es)<|len<|v::vs') R.n&&Nat.ble R.fz (n*es)&&all' dK (v::vs')) _=_;rw[hok,h4,h3,h5,dG,av (by show n*es+(v::vs').length<=_;rw[hlen];omega),av<|aM _];rfl
     rw[this]at w1;cases w1;rw[sD];omega
  refine⟨r,H1,dH.drop xs.length,rfl,?_,.inl rfl,aa,⟨aa,λq _ hq=>w4 q λe=>hq<|by simp[e],λb hl _ hb=>by
   have:=hb r (by simp);rcases w5 with w5|w5<;>omega,λh=>by rcases w5 with w5|w5<;>omega⟩,hlow⟩
  have:splice (cs++dH) (n*es) xs=cs++xs++dH.drop xs.length:=by
   unfold splice;rw[<-hn,mE,qh,gJ aa,bB,iG]
  rw[<-this];exact w2
 .have hb':Nat.ble (n*es+(k+1)*es) (n*es+dH.length)=false:=by
   rw[<-aV];intro h;exact hc<|ai h
  rw[hb',iE,av (by omega:n*es<=n*es+dH.length),h5,av<|aM _,hok];refine⟨H.next,_,[],rfl,?_,.inr rfl,bL _,⟨jv _,λq hq hn'=>?_,λb hl hn' hb=>?_,λh=>?_⟩,?_⟩
  .refine⟨⟨R.ty,Tr.pU top xs (n*es) R.cells,n*es+(k+1)*es,false,R.fz⟩,by rw[wO,if_pos (show H.next=(H.put r iW.dead).next from rfl),h5],h2,by simp;omega,rfl,h5,λi hi=>?_⟩;show(Tr.pU top xs (n*es) R.cells).get top i=_;rw[Tr.jM];have hi':i<n*es+(k+1)*es:=by simp at hi;omega
   by_cases hc':n*es<=i/\i<n*es+xs.length
   .rw[if_pos hc',aK,ae aa];simp only[aQ,kM];rw[List.getElem_append_right aa];congr 1;omega
   .rw[if_neg hc'];have hin:i<n*es:=by omega
    rw[h6 i (by rw[hlen];omega)];simp only[aQ];rw[jo aa,jo aa]
  .rw[wO,if_neg (by show q≠H.next;omega),xY,if_neg λe=>hn'<|by simp[e]]
  .show b<=(H.put r iW.dead).low;rw[sD];have:=hb r (by simp);omega
  .show(H.put r iW.dead).low<=H.next+1
   rw[sD];omega
  .show(H.put r iW.dead).low<=r;rw[sD];omega
section steps
theorem SH.FL(hS:SH S H0 H L)(ty:TypeId)(cs:List Value):SH S H0 (hM H<|(Go.Ae.hN H).new<|rowOf ty cs) ((H.next,ty,cs)::L):=by
 have hx:Ext (Go.Ae.hN H) ((Go.Ae.hN H).new<|rowOf ty cs):=Ext.new _ _;refine SH.turn (A:=[]) (A':=[(H.next,ty,cs)]) hS hx.draw (λe he=>?_)<|iF _ _;rw[aO]at he;subst he;exact⟨Bk.new (Go.Ae.hN H) ty cs,.inr<|aj _,bL _⟩
theorem SH.U8(hS:SH S H0 H L)(hz:z.length=es)(hv:rY v=true)(hc:(aX v).length=es)(he:es<=16777216)(k:∀H1 r,SH S H0 (hM H H1) ((r,e,aX v)::L)->S8 H H1=cl 5->K (.slice (some ⟨r,0,none⟩) 1 1) H1):ME (bS e z es 1 [(0,v)]<|Go.Ae.hN H) K:=by
 rw[XY hz hv hc he];exact k _ _ (hS.FL e _)<|D5<|Ext.new _ _
theorem SH.bS(hS:SH S H0 H L)(hz:z.length=es)(hv:rY v=true)(hc:(aX v).length=es)(he:es<=16777216)(k:∀H1 r,SH S H0 H1 ((r,e,aX v)::L)->K (.slice (some ⟨r,0,none⟩) 1 1) H1):ME (Go.Ae.bS e z es 1 [(0,v)] H) K:=by
 rw[XY hz hv hc he];exact k _ _<|hS.grow e _
end steps
end
section
variable{S:List Nat}
def GB(ty:TypeId)(es:Nat)(v:Value)(cs:List Value)(gb:List cz):Prop:=
 (v=.slice none 0 0/\cs=[]/\gb=[])\/∃r n dH,v=.slice (some ⟨r,0,none⟩) n (dV es)/\cs.length=n*es/\gb=[(r,ty,cs++dH)]
theorem GB.nil(ty:TypeId)(es:Nat):GB ty es (.slice none 0 0) [] []:=.inl ⟨rfl,rfl,rfl⟩
section steps
variable{xs:List Value}
theorem abo(h:H'.low<H.next):E7 H H'=⟨2,0,0,0,H,H'⟩:=by
 show aU (Nat.ble H.next H'.low) _ _=_;rw[show Nat.ble H.next H'.low=false from by rw[<-aV];intro g;have:=ai g;omega];rfl
theorem GB.app(hg:GB ty es v cs gb)(hS:SH S H0 H<|(rx,ty,xs)::(gb++L))(he:0<es)(hx:xs.length=(m+1)*es)(hok:all' dK xs=true)(hm:m+1<=16777216)(hc:cs.length<=16777216):
 ∃v' H1 gY,Bz ty es v (.slice (some ⟨rx,0,none⟩) (m+1) cx) H=some (v',H1)/\GB ty es v' (cs++xs) gY/\SH S H0 H1 (gY++L)/\qU (gb.map (·.1)) H H1:=by
 have hbx:=hS.get 0 rfl;have ha:=xA (k:=m+1) (c:=cx) hbx hx;have hS1:SH S H0 H (gb++L):=SH.drop (A:=[(rx,ty,xs)]) hS;rcases hg with⟨rfl,rfl,rfl⟩|⟨r,n,dH,rfl,hn,rfl⟩
 .refine⟨_,_,[(H.next,ty,xs)],Me ha hm,.inr ⟨H.next,m+1,[],rfl,hx,by simp⟩,hS1.grow ty xs,Ext.new _ _⟩
 .have hb:=hS1.get 0 rfl;have hr:=(hS1.lo _<|aD ..).2
  have hnn:n<=16777216:=by
   have:n*1<=n*es:=jw n he;omega
  obtain⟨r',H1,Ci,h1,h2,h3,h4,h5,h6⟩:=Mf he hb hr hn ha hx hok hm hnn;refine⟨_,H1,[(r',ty,cs++xs++Ci)],h1,.inr ⟨r',n+(m+1),Ci,rfl,?_,rfl⟩,?_,h5⟩
  .rw[ay,hn,hx,<-dN]
  .refine SH.turn (A:=[(r,ty,cs++dH)]) hS1 h5 (λe he'=>?_) (iF _ _);rw[aO]at he';subst he';refine⟨h2,?_,h4⟩;rcases h3 with h3|h3
   .exact .inl (by simp[h3])
   .exact .inr (by show H.next<=r';omega)
theorem GB.add(hg:GB ty es v cs gb)(hS:SH S H0 H<|(rx,ty,xs)::(gb++L))(he:0<es)(hx:xs.length=es)(hok:all' dK xs=true)(hc:cs.length<=16777216)(k:∀v' H1 gY,GB ty es v' (cs++xs) gY->SH S H0 H1 (gY++L)->qU (gb.map (·.1)) H H1->K v' H1):ME (Bz ty es v (.slice (some ⟨rx,0,none⟩) 1 cx) H) K:=by
 obtain⟨v',H1,gY,h1,h2,h3,h4⟩:=hg.app (m:=0) (cx:=cx) hS he aa hok aa hc;rw[h1];exact k v' H1 gY h2 h3 h4
theorem SH.uY(hS:SH S H0 H L):SH S (Go.Ae.hN H0) (Go.Ae.hN H) L:=
 ⟨⟨hS.ext.next,hS.ext.obj,λb hl hn _=>aW hn hS.ext.next,λ_=>aj _⟩,hS.bk,hS.lo,hS.ne,aj _⟩
theorem GB.Ou(hg:GB ty es v cs gb)(hS:SH S H0 H<|(rx,ty,xs)::(gb++L))(he:0<es)(hx:xs.length=es)(hok:all' dK xs=true)(hc:cs.length<=16777216)(k:∀v' H1 gY,GB ty es v' (cs++xs) gY->SH S H0 (hM H H1) (gY++L)->qU (gb.map (·.1)) H (hM H H1)->(∀r,r<H.next->r∉gb.map (·.1)->H1.obj r=H.obj r)->(E7 H H1=cl 1\/E7 H H1=⟨2,0,0,0,H,H1⟩)->K v' H1):ME (Bz ty es v (.slice (some ⟨rx,0,none⟩) 1 cx)<|Go.Ae.hN H) K:=by
 have hS':SH [] (Go.Ae.hN H) (Go.Ae.hN H) []:=SH.refl<|aj _;have hbx:=hS.get 0 rfl;have ha:appended (Go.Ae.hN H) es (.slice (some ⟨rx,0,none⟩) (0+1) cx)=some (0+1,xs):=xA (H:=Go.Ae.hN H) (k:=0+1) hbx aa;have hS1:SH S H0 H (gb++L):=SH.drop (A:=[(rx,ty,xs)]) hS
 have hcls:∀H1:ag,E7 H H1=cl 1\/E7 H H1=⟨2,0,0,0,H,H1⟩:=by
  intro H1;show aU (Nat.ble H.next H1.low) _ _=_\/aU (Nat.ble H.next H1.low) _ _=_;cases Nat.ble H.next H1.low with
  |true=>exact .inl rfl
  |false=>exact .inr rfl
 rcases hg with⟨rfl,rfl,rfl⟩|⟨r,n,dH,rfl,hn,rfl⟩
 .rw[show Bz ty es (.slice none 0 0) (.slice (some ⟨rx,0,none⟩) 1 cx) (Go.Ae.hN H)=_ from Me ha aa];have hx':Ext (Go.Ae.hN H) ((Go.Ae.hN H).new<|rowOf ty xs):=Ext.new _ _;exact k _ _ [(H.next,ty,xs)] (.inr ⟨H.next,1,[],rfl,by simp;omega,by simp⟩) (hS1.FL ty xs) hx'.draw (λq hq hn'=>hx'.obj q hq<|by simp)<|hcls _
 .have hb:Bk (Go.Ae.hN H) r ty (cs++dH):=hS1.get 0 rfl;have hr:=(hS1.lo _<|aD ..).2
  have hnn:n<=16777216:=by
   have:n*1<=n*es:=jw n he;omega
  obtain⟨r',H1,Ci,h1,h2,h3,h4,h5,h6⟩:=Mf he hb hr hn ha aa hok aa hnn;rw[show Bz ty es (.slice (some ⟨r,0,none⟩) n<|dV es) (.slice (some ⟨rx,0,none⟩) 1 cx) (Go.Ae.hN H)=_ from h1];refine k _ H1 [(r',ty,cs++xs++Ci)] (.inr ⟨r',n+(0+1),Ci,rfl,?_,rfl⟩) ?_ h5.draw (λq hq hn'=>h5.obj q hq hn')<|hcls _
  .rw[ay,hn,hx,dN];omega
  .refine SH.turn (A:=[(r,ty,cs++dH)]) hS1 h5.draw (λe he'=>?_) (iF _ _);rw[aO]at he';subst he';refine⟨h2,?_,h4⟩;rcases h3 with h3|h3
   .exact .inl (by simp[h3])
   .exact .inr (by show H.next<=r';rw[h3];exact aj _)
theorem GB.fl(hg:GB ty es v cs gb)(hS:SH S H0 H<|gb++L):∃a n c,v=.slice a n c/\cs.length=n*es/\Fl H a n es cs:=by
 rcases hg with⟨rfl,rfl,rfl⟩|⟨r,n,dH,rfl,hn,rfl⟩
 .exact⟨none,0,0,rfl,by simp,Fl.nil _ _ _⟩
 .refine⟨_,n,_,rfl,hn,hn,λi x hi=>⟨r,0,rfl,(hS.lo _<|aD ..).2,?_⟩⟩;rw[aI];refine(hS.get 0 rfl).cell ?_;rw[aP (aL.1 hi).1];exact hi
theorem GB.dK(hg:GB ty es v cs gb):all' Go.Ae.dK (aX v)=true/\(aX v).length=1/\aX v=[v]:=by
 rcases hg with⟨rfl,_,_⟩|⟨r,n,dH,rfl,_,_⟩<;>exact⟨rfl,rfl,rfl⟩
end steps
theorem x_{A B:ag}{r off:Nat}(ha:A.read r off n=some vs)(hb:B.read r off n=some vs)(hs:DK vs vs=true):sameAt A B r off n=true:=by
 unfold sameAt;rw[ha,hb];show mG (gd (DK vs vs)<|some ())=true;rw[hs];rfl
end
section bin
variable{P:Program}{a:Int}
end bin
theorem XZ:∀(a b:List UInt8),u8L a=u8L b->a=b:=by
 intro a
 induction a with
 |nil=>intro b h;cases b with
  |nil=>rfl
  |cons y b=>cases h
 |cons x a ih=>intro b h;cases b with
  |nil=>cases h
  |cons y b=>
   have h1:x.toNat=y.toNat:=(jh h).1;have h2:u8L a=u8L b:=(jh h).2;rw[ih b h2,lD.1 h1]
theorem Ov:∀(a b:List Nat),Ht a b=true<->a=b:=by
 intro a
 induction a with
 |nil=>intro b;cases b with
  |nil=>exact⟨λ_=>rfl,λ_=>rfl⟩
  |cons y b=>exact⟨(λh=>by cases h),(λh=>by cases h)⟩
 |cons x a ih=>intro b;cases b with
  |nil=>exact⟨(λh=>by cases h),(λh=>by cases h)⟩
  |cons y b=>
   show aU (Nat.beq x y) (Ht a b) false=true<->_
   by_cases e:x=y
   .subst e;rw[bC,lG,ih];simp
   .rw[show Nat.beq x y=false from by rw[<-aV];exactλg=>e<|aB g,iE];simp[e]
theorem KE(a b:ByteArray):nT a b=decide (a=b):=by
 rw[bZ,decide_eq_true_iff];unfold nT;rw[Ov];constructor
 .intro h;have:=XZ _ _ h;obtain⟨⟨x⟩⟩:=a;obtain⟨⟨y⟩⟩:=b;exact bW (λl=>ByteArray.mk<|Array.mk l) this
 .intro h;rw[h]
section bin
variable{P:Program}
theorem KF(a b:ByteArray):jb P .eql t ox oy (.string a) (.string b)=some (.bool<|decide<|a=b):=by
 show some (Value.bool<|nT a b)=_;rw[KE]
theorem KH(a b:ByteArray):jb P .neq t ox oy (.string a) (.string b)=some (.bool<|!decide (a=b)):=by
 show some (Value.bool<|!(nT a b))=_;rw[KE]
end bin
def part(s:ByteArray)(lo hi:Nat):ByteArray:=⟨⟨(s.data.toList.drop lo).take<|hi-lo⟩⟩
theorem mq(s:ByteArray)(h:lo<=hi)(h2:hi<=s.size):(part s lo hi).size=hi-lo:=by
 show((s.data.toList.drop lo).take<|hi-lo).length=_;have:s.data.toList.length=s.size:=rfl;simp;omega
theorem Aj{s:ByteArray}(h:lo<=hi)(h2:hi<=s.size):slT (.string s) (some<|vn lo) (some<|vn hi) none=some (.string<|part s lo hi):=by
 show gd (Nat.ble lo hi&&Nat.ble hi (len s.data.toList)) (some<|Value.string ⟨⟨tk (Nat.sub hi lo)<|dp lo s.data.toList⟩⟩)=_;rw[dG,av h,av (show hi<=s.data.toList.length from h2),Fv,J9];rfl
theorem wP{s:ByteArray}(h:lo<=s.size):slT (.string s) (some<|vn lo) none none=some (.string<|part s lo s.size):=by
 show gd (Nat.ble lo (len s.data.toList)&&Nat.ble (len s.data.toList) (len s.data.toList)) (some<|Value.string ⟨⟨tk (Nat.sub (len s.data.toList) lo)<|dp lo s.data.toList⟩⟩)=_;rw[dG,av (show lo<=s.data.toList.length from h),av<|aj _,Fv,J9];rfl
theorem ad1{s:ByteArray}(h2:hi<=s.size):slT (.string s) none (some<|vn hi) none=some (.string<|part s 0 hi):=by
 show gd (Nat.ble 0 hi&&Nat.ble hi (len s.data.toList)) (some<|Value.string ⟨⟨tk (Nat.sub hi 0)<|dp 0 s.data.toList⟩⟩)=_;rw[dG,av<|aM _,av (show hi<=s.data.toList.length from h2),Fv,J9];rfl
def cvI(k:IntKind)(x:Value):Option Value:=@Option.rec (IntKind×Int) (λ_=>Option Value) (ax (pG x) λb=>gd false<|some<|.string b) (λa=>some<|.int k<|fZ k a.2)<|pF x
def cvT(x:Value):Option Value:=@Option.rec (IntKind×Int) (λ_=>Option Value) (ax (pG x) λb=>gd true<|some<|.string b) (λa=>some<|.string<|Utf8.encode a.2)<|pF x
theorem vU(k k':IntKind)(a:Int):cvI k (.int k' a)=some (.int k<|fZ k a):=rfl
theorem Td(k:IntKind)(a:Int):cvT (.int k a)=some (.string<|Utf8.encode a):=rfl
theorem Te(s:ByteArray):cvT (.string s)=some (.string s):=rfl
theorem ad2(vs:List Value)(i:Nat):qD (.tuple ⟨vs⟩) i=vs[i]?:=kU vs i
section
variable{S:List Nat}
theorem ah[Decidable p]{B:Prop}(h1:p->A)(h2:¬p->B):zk (some<|decide p) A B:=by
 by_cases h:p
 .rw[aS h];exact h1 h
 .rw[bM h];exact h2 h
theorem bq[Decidable p]{B:Prop}(h1:¬p->A)(h2:p->B):zk (some<|!decide p) A B:=by
 by_cases h:p
 .rw[aS h];exact h2 h
 .rw[bM h];exact h1 h
theorem bO{b:Bool}{B:Prop}(h1:b=true->A)(h2:b=false->B):zk (some b) A B:=by
 cases b with
 |true=>exact h1 rfl
 |false=>exact h2 rfl
def rO(k:IntKind)(a b:Int):Int:=k.wrap<|BitVec.toNat<|BitVec.ofInt k.bits a&&&BitVec.ofInt k.bits b
def Tf(k:IntKind)(a b:Int):Int:=k.wrap<|BitVec.toNat<|BitVec.ofInt k.bits a|||BitVec.ofInt k.bits b
def G5(k:IntKind)(a b:Int):Int:=k.wrap<|BitVec.toNat<|BitVec.ofInt k.bits a&&&~~~BitVec.ofInt k.bits b
def sG(k:IntKind)(a b:Int):Int:=k.wrap<|a*2^min b.toNat k.bits
def Ak(k:IntKind)(a b:Int):Int:=a.fdiv<|2^min b.toNat k.bits
section bits
variable{P:Program}{a:Int}
theorem BD:jb P .and t ox oy (.int k a) (.int k b)=some (.int k<|rO k a b):=iJ rfl rfl
theorem Ow:jb P .or t ox oy (.int k a) (.int k b)=some (.int k<|Tf k a b):=iJ rfl rfl
theorem D8:jb P .andNot t ox oy (.int k a) (.int k b)=some (.int k<|G5 k a b):=iJ rfl rfl
theorem yf(h:0<=b):jb P .shl t ox oy (.int k a) (.int .u64 b)=some (.int k<|sG k a b):=by
 show gU (Op.shift .shl k a .u64 b)=_;unfold Op.shift;rw[if_neg aa];rfl
theorem oL(h:0<=b):jb P .shr t ox oy (.int k a) (.int .u64 b)=some (.int k<|Ak k a b):=by
 show gU (Op.shift .shr k a .u64 b)=_;unfold Op.shift;rw[if_neg aa];rfl
theorem IG:jb P .shl t ox oy (.int k a) (.int .u64 4)=some (.int k<|sG k a 4):=yf (by decide)
theorem II:jb P .shl t ox oy (.int k a) (.int .u64 6)=some (.int k<|sG k a 6):=yf (by decide)
theorem FM:jb P .shl t ox oy (.int k a) (.int .u64 12)=some (.int k<|sG k a 12):=yf (by decide)
theorem FN:jb P .shl t ox oy (.int k a) (.int .u64 18)=some (.int k<|sG k a 18):=yf (by decide)
theorem FO:jb P .shl t ox oy (.int k a) (.int .u64 31)=some (.int k<|sG k a 31):=yf (by decide)
theorem IJ:jb P .shr t ox oy (.int k a) (.int .u64 4)=some (.int k<|Ak k a 4):=oL (by decide)
theorem IK:jb P .shr t ox oy (.int k a) (.int .u64 6)=some (.int k<|Ak k a 6):=oL (by decide)
theorem FP:jb P .shr t ox oy (.int k a) (.int .u64 12)=some (.int k<|Ak k a 12):=oL (by decide)
theorem FQ:jb P .shr t ox oy (.int k a) (.int .u64 18)=some (.int k<|Ak k a 18):=oL (by decide)
theorem FT:jb P .shr t ox oy (.int k a) (.int .u64 31)=some (.int k<|Ak k a 31):=oL (by decide)
end bits
theorem X3{k r:Nat}(h:k<n):idR n es (.pointer<|some ⟨r,o,none⟩) (.int kk (k:Int))=some (.pointer<|some ⟨r,o+k*es,none⟩):=by
 show gd (Nat.ble (Nat.succ k) n) (some<|Value.pointer<|some ⟨r,Nat.add o<|Nat.mul k es,none⟩)=_;rw[av h];rfl
section ar
variable{P:Program}{a:Int}
theorem FU:jb P .add t ox oy (.int .u8 a) (.int .u8 b)=some (.int .u8<|fZ .u8<|a+b):=iJ rfl rfl
theorem D9:jb P .add t ox oy (.int .i32 a) (.int .i32 b)=some (.int .i32<|fZ .i32<|a+b):=iJ rfl rfl
theorem FV:jb P .sub t ox oy (.int .u8 a) (.int .u8 b)=some (.int .u8<|fZ .u8<|a-b):=iJ rfl rfl
theorem D_:jb P .sub t ox oy (.int .i32 a) (.int .i32 b)=some (.int .i32<|fZ .i32<|a-b):=iJ rfl rfl
theorem FW:jb P .mul t ox oy (.int .u8 a) (.int .u8 b)=some (.int .u8<|fZ .u8<|a*b):=iJ rfl rfl
theorem Ea:jb P .mul t ox oy (.int .i32 a) (.int .i32 b)=some (.int .i32<|fZ .i32<|a*b):=iJ rfl rfl
end ar
theorem uC{t:Nat}{v:Value}{l:List (Nat×Value)}:BA ((t,v)::l) t=v:=by
 show Go.Ae.look ((t,v)::l) t=v;rw[Bv,if_pos rfl]
theorem yP{d t:Nat}{v:Value}{l:List (Nat×Value)}(h:(d==t)=false):BA ((d,v)::l) t=BA l t:=by
 show Go.Ae.look ((d,v)::l) t=Go.Ae.look l t;rw[Bv,if_neg<|by simpa using h]
section quiet
theorem SH.BQ(hS:SH S H0 H L)(i:Nat){r:Nat}(hi:L[i]?=some (r,ty,cs))(hv:cs[o]?=some v)(k:K v<|Go.Ae.hN H):ME (rQ none (.pointer<|some ⟨r,o,none⟩)<|Go.Ae.hN H) K:=
 ME.ld (H:=Go.Ae.hN H) ((hS.get i hi).cell hv) k
theorem SH.X4(hS:SH S H0 H L)(i:Nat){r:Nat}(hi:L[i]?=some (r,ty,cs))(hn:o+n<=cs.length)(k:K (.agg ⟨(cs.drop o).take n⟩)<|Go.Ae.hN H):ME (rQ (some n) (.pointer<|some ⟨r,o,none⟩)<|Go.Ae.hN H) K:=
 ME.CU (H:=Go.Ae.hN H) ((hS.get i hi).read hn) k
theorem SH.JR(hS:SH [] H0 H L){r:Nat}(h:H0.cell r o=some v)(hr:r<H0.next)(k:K v<|Go.Ae.hN H):ME (rQ none (.pointer<|some ⟨r,o,none⟩)<|Go.Ae.hN H) K:=
 ME.ld (H:=Go.Ae.hN H) ((hS.old hr).trans h) k
end quiet
section mem
variable{P:Program}{X:Xt}
def X5(a:Code)(R:Nat->Nat->St->Prop)(n:Nat)(K:Out->Prop):Out->Prop:=λo=>
 @Out.rec (λ_=>Prop) False (λs=>K<|.norm s) (λi s=>K<|.exit i s) (λl s=>@Option.rec Code (λ_=>Prop) (K<|.goto l s) (λ_=>∃m,m<n/\R m l s)<|findLabel a l) (λs=>K<|.ret s) o
theorem X6{a:Code}{R:Nat->Nat->St->Prop}{K:Out->Prop}{s:St}:X5 a R n K (.norm s)=K (.norm s):=rfl
theorem Tg{a:Code}{R:Nat->Nat->St->Prop}{K:Out->Prop}{s:St}:X5 a R n K (.ret s)=K (.ret s):=rfl
theorem IL{a rest:Code}{R:Nat->Nat->St->Prop}{l:Nat}{K:Out->Prop}{s:St}(h:findLabel a l=some rest):X5 a R n K (.goto l s)=∃m,m<n/\R m l s:=by
 show(@Option.rec Code (λ_=>Prop) _ _<|findLabel a l)=_;rw[h]
def ScP(P:Program)(X:Xt)(a:Code)(o:Out)(K:Out->Prop):Prop:=∃k o1 o2,jZ (lv P X k).cx k a o=o1/\o1≠.fail/\yw o1 o2/\K o2
theorem X7{a:Code}{K:Out->Prop}{R:Nat->Nat->St->Prop}(h:∀n l s rest,R n l s->findLabel a l=some rest->dJ P X rest s (X5 a R n K)):
 ∀n o o',yw o o'->o≠.fail->X5 a R n K o'->ScP P X a o K:=by
 intro n
 induction n using Nat.strongRecOn with
 |_ n ih=>
  intro o o' he hne hg;cases he with
  |fail=>exact absurd rfl hne
  |norm he=>exact⟨1,.norm _,_,rfl,(λh=>nomatch h),.norm he,hg⟩
  |exit i he=>exact⟨1,.exit i _,_,rfl,(λh=>nomatch h),.exit i he,hg⟩
  |ret he=>exact⟨1,.ret _,_,rfl,(λh=>nomatch h),.ret he,hg⟩
  |goto l he=>
   rename_i s s';cases hf:findLabel a l with
   |none=>
    have hg':K (.goto l s'):=by
     have:(@Option.rec Code (λ_=>Prop) (K<|.goto l s') (λ_=>∃m,m<n/\R m l s')<|findLabel a l):=hg;rw[hf]at this;exact this
    refine⟨1,.goto l s,_,?_,by simp,.goto l he,hg'⟩;show(@Option.rec Code (λ_=>Out) (.goto l s) _<|findLabel a l)=_;rw[hf]
   |some rest=>
    rw[IL hf]at hg;obtain⟨m,hm,hR⟩:=hg;obtain⟨o1,o1',h1,h2,h3⟩:=dJ.alike he<|h m l s' rest hR hf;obtain⟨n1,k1,h1⟩:=h1;obtain⟨k2,o3,o4,h4,h5,h6,h7⟩:=ih m hm o1 o1' h2 n1 h3;refine⟨max k1 k2+1,o3,o4,?_,h5,h6,h7⟩;show(@Option.rec Code (λ_=>Out) (.goto l s) (λrest=>jZ (lv P X<|max k1 k2+1).cx (max k1 k2) a<|(lv P X<|max k1 k2+1).cx rest s)<|findLabel a l)=o3;rw[hf];show jZ (lv P X<|max k1 k2+1).cx (max k1 k2) a (D3 P X (max k1 k2) rest s)=o3;rw[yM h1 n1 (jS _ _),<-h4];have hx:XH (lv P X k2).cx (lv P X<|max k1 k2+1).cx:=(vT k2 _ aa).2;refine Ad hx a k2 _ (gZ _ _) o1 ?_;rw[h4];exact h5
theorem dJ.scope{a:Code}{K:Out->Prop}{s:St}(R:Nat->Nat->St->Prop)(h:∀n l s rest,R n l s->findLabel a l=some rest->dJ P X rest s (X5 a R n K))(n:Nat)(h0:dJ P X a s<|X5 a R n K):dJ P X (.scope a) s K:=by
 obtain⟨o,o',h1,h2,h3⟩:=h0;obtain⟨n1,k1,h1⟩:=h1;obtain⟨k2,o3,o4,h4,h5,h6,h7⟩:=X7 h n o o' h2 n1 h3;refine⟨o3,o4,⟨h5,max k1 k2,?_⟩,h6,h7⟩;show jZ (lv P X<|max k1 k2).cx (max k1 k2) a (D3 P X (max k1 k2) a s)=o3;rw[yM h1 n1 (jS _ _),<-h4];refine Ad (vT k2 _<|gZ _ _).2 a k2 _ (gZ _ _) o ?_;rw[h4];exact h5
end mem
end
theorem abp{r:Nat}{z:Int}(h0:0<=z)(h:z<n):zH es (.slice (some ⟨r,o,none⟩) n c) (vi z)=some (.pointer<|some ⟨r,o+z.toNat*es,none⟩):=by
 obtain⟨k,rfl⟩:∃k:Nat,z=k:=⟨z.toNat,aa⟩;exact uB aa
section bin
variable{P:Program}{a:Int}
theorem Ox(ha:0<=a)(hb:0<b)(h:a<=9223372036854775807):jb P .quo t ox oy (vi a) (vi b)=some (vi<|a/b):=iJ rfl (by
 show gU (Op.intDiv .quo .i64 a b)=_;unfold Op.intDiv;rw[if_neg aa];show some (Value.int .i64<|IntKind.i64.wrap<|a.tdiv b)=_;have h1:a.tdiv b=a/b:=Int.tdiv_eq_ediv_of_nonneg ha;have h2:0<=a/b:=Int.ediv_nonneg ha aa;have h3:a/b<=a:=Int.ediv_le_self b ha;rw[h1];have:IntKind.i64.wrap (a/b)=a/b:=IntWalk.i64_in _ aa;rw[this])
theorem PU.quo{K:Value->Prop}(ha:0<=a)(hb:0<b)(h:a<=9223372036854775807)(k:∀q:Int,0<=q->b*q<=a->a<b*q+b->K (vi q)):PU (jb P .quo t ox oy (vi a)<|vi b) K:=by
 rw[Ox ha hb h];have h1:=Int.mul_ediv_add_emod a b;have h2:=Int.emod_nonneg a (show b≠0 by omega);have h3:=Int.emod_lt_of_pos a hb;exact k (a/b) (Int.ediv_nonneg ha aa) aa aa
end bin
theorem SH.QW(hS:SH [] H0 H L)(i:Nat){r:Nat}(hi:L[i]?=some (r,ty,cs))(hl:(aX v).length=n)(hn:o+n<=cs.length)(hk:all' dK (aX v)=true)(k:∀H1,SH [] H0 (hM H H1) (L.set i (r,ty,splice cs o<|aX v))->K undef H1):ME (CS n (.pointer<|some ⟨r,o,none⟩) v<|Go.Ae.hN H) K:=by
 obtain⟨H1,h1,h2,h3⟩:=hS.uY.yN (vs:=aX v) (o:=o) i hi aa hk;show ME (gd (Nat.beq (len<|aX v) n)<|ax ((Go.Ae.hN H).write r o<|aX v) λH'=>some (undef,H')) K;rw[dG,hl,bC,h1];refine k H1 ⟨hS.ext.later h3.draw λq hq=>.inr ?_,λe he=>(h2.bk e he).mR rfl,h2.lo,h2.ne,h3.draw.wf hS.wf⟩;rw[aO]at hq;subst hq;exact hS.zN<|aA hi
def El(cs:List Value)(es k:Nat):List Value:=(cs.drop<|k*es).take es
theorem j4(cs:List Value)(es k i:Nat):(El cs es k)[i]?=if i<es then cs[k*es+i]? else none:=by
 unfold El;rw[eB];split
 .rw[ig]
 .rfl
theorem E9{k:Nat}(hv:vs.length=es)(h:k*es+es<=cs.length)(k':Nat):El (splice cs (k*es) vs) es k'=if k'=k then vs else El cs es k':=by
 apply eP;intro i;rw[j4]
 by_cases hi:i<es
 .rw[if_pos hi,mU aa]
  by_cases hk:k'=k
  .subst hk;rw[if_pos aa,if_pos rfl,iG]
  .rw[if_neg hk,j4,if_pos hi,if_neg];rintro⟨h1,h2⟩;rcases aN k' k with h3|h3
   .have:(k'+1)*es<=k*es:=b_ es h3;rw[dN]at this;omega
   .have:(k+1)*es<=k'*es:=b_ es aa;rw[dN]at this;omega
 .rw[if_neg hi];split
  .symm;exact dS aa
  .rw[j4,if_neg hi]
def SB(P:List Value->Prop)(r:Nat)(ty:TypeId)(es n:Nat)(H0 H:ag)(L:List cz):Prop:=∃cs,n*es<=cs.length/\(∀k,k<n->P (El cs es k))/\SH [] H0 H ((r,ty,cs)::L)
section steps
variable{P:List Value->Prop}{r:Nat}
theorem SB.wf(h:SB P r ty es n H0 H L):Wf H:=by obtain⟨_,_,_,hS⟩:=h;exact hS.wf
theorem SB.ext(h:SB P r ty es n H0 H L):Ext H0 H:=by obtain⟨_,_,_,hS⟩:=h;exact hS.ext
theorem SB.call(h:SB P r ty es n H0 H L)(hx:Ext H H'):SB P r ty es n H0 H' L:=by obtain⟨cs,h1,h2,hS⟩:=h;exact⟨cs,h1,h2,hS.call hx⟩
theorem SB.new(h:SB P r ty es n H0 H L)(k:∀H1 q,SB P r ty es n H0 H1 ((q,t2,z)::L)->K (.pointer<|some ⟨q,0,none⟩) H1):ME (iI t2 z H) K:=by
 obtain⟨cs,h1,h2,hS⟩:=h;exact hS.iI λH1 q hS=>k H1 q ⟨cs,h1,h2,hS.perm<|List.Perm.swap _ _ _⟩
theorem SB.ld(h:SB P r ty es n H0 H L)(i:Nat){q:Nat}(hi:L[i]?=some (q,t2,cs))(hv:cs[o]?=some v)(k:K v H):ME (rQ none (.pointer<|some ⟨q,o,none⟩) H) K:=by
 obtain⟨cs,h1,h2,hS⟩:=h;exact hS.ld (i+1) (by rw[cK];exact hi) hv k
theorem SB.BQ(h:SB P r ty es n H0 H L)(i:Nat){q:Nat}(hi:L[i]?=some (q,t2,cs))(hv:cs[o]?=some v)(k:K v<|Go.Ae.hN H):ME (rQ none (.pointer<|some ⟨q,o,none⟩)<|Go.Ae.hN H) K:=by
 obtain⟨cs,h1,h2,hS⟩:=h;exact hS.BQ (i+1) (by rw[cK];exact hi) hv k
theorem SB.st(h:SB P r ty es n H0 H L)(i:Nat){q:Nat}(hi:L[i]?=some (q,t2,cs))(hl:(aX v).length=m)(hn:o+m<=cs.length)(hk:all' dK (aX v)=true)(k:∀H1,SB P r ty es n H0 H1 (L.set i (q,t2,splice cs o<|aX v))->K undef H1):ME (CS m (.pointer<|some ⟨q,o,none⟩) v H) K:=by
 obtain⟨ds,h1,h2,hS⟩:=h;exact hS.st (i+1) (by rw[cK];exact hi) hl hn hk λH1 hS=>k H1 ⟨ds,h1,h2,hS⟩
theorem SB.row(h:SB P r ty es n H0 H L){k:Nat}(hk:k<n):∃cs,SH [] H0 H ((r,ty,cs)::L)/\P (El cs es k)/\k*es+es<=cs.length:=by
 obtain⟨cs,h1,h2,hS⟩:=h;refine⟨cs,hS,h2 k hk,?_⟩;have:(k+1)*es<=n*es:=b_ es hk;rw[dN]at this;omega
theorem SB.e1(h:SB P r ty 1 n H0 H L){z:Int}(h0:0<=z)(hz:z<n)(k:∀v,P [v]->K v H):ME (rQ none (.pointer<|some ⟨r,z.toNat*1,none⟩) H) K:=by
 obtain⟨cs,hS,hp,hl⟩:=h.row (k:=z.toNat) aa;have hlt:z.toNat<cs.length:=by omega
 refine hS.ld 0 rfl (v:=cs[z.toNat]) (by rw[bG];exact ae hlt)<|k _ ?_
 have:El cs 1 z.toNat=[cs[z.toNat]]:=by
  unfold El;rw[bG,fA hlt];rfl
 rw[<-this];exact hp
theorem SB.uY(h:SB P r ty es n H0 H L):SB P r ty es n (Go.Ae.hN H0) (Go.Ae.hN H) L:=by obtain⟨cs,h1,h2,hS⟩:=h;exact⟨cs,h1,h2,hS.uY⟩
theorem SB.e1Q(h:SB P r ty 1 n H0 H L){z:Int}(h0:0<=z)(hz:z<n)(k:∀v,P [v]->K v (Go.Ae.hN H)):ME (rQ none (.pointer<|some ⟨r,z.toNat*1,none⟩)<|Go.Ae.hN H) K:=h.uY.e1 h0 hz k
theorem SB.em(h:SB P r ty es n H0 H L){z:Int}(h0:0<=z)(hz:z<n)(k:∀l,P l->K (.agg ⟨l⟩) H):ME (rQ (some es) (.pointer<|some ⟨r,z.toNat*es,none⟩) H) K:=by
 obtain⟨cs,hS,hp,hl⟩:=h.row (k:=z.toNat) aa;exact hS.CU 0 rfl aa<|k _ hp
theorem SB.emQ(h:SB P r ty es n H0 H L){z:Int}(h0:0<=z)(hz:z<n)(k:∀l,P l->K (.agg ⟨l⟩) (Go.Ae.hN H)):ME (rQ (some es) (.pointer<|some ⟨r,z.toNat*es,none⟩)<|Go.Ae.hN H) K:=h.uY.em h0 hz k
theorem SB.w(h:SB P r ty es n H0 H L){z:Int}(h0:0<=z)(hz:z<n)(hp:P<|aX v)(hl:(aX v).length=es)(hk:all' dK (aX v)=true)(k:∀H1,SB P r ty es n H0 H1 L->K undef H1):
 ME (CS es (.pointer<|some ⟨r,z.toNat*es,none⟩) v H) K:=by
 obtain⟨cs,h1,h2,hS⟩:=h
 have hle:z.toNat*es+es<=cs.length:=by
  have:(z.toNat+1)*es<=n*es:=b_ es aa;rw[dN]at this;omega
 refine hS.st 0 rfl hl aa hk λH1 hS=>k H1 ⟨splice cs (z.toNat*es)<|aX v,?_,λj hj=>?_,?_⟩
 .rw[jr aa];exact h1
 .rw[E9 hl hle];split
  .exact hp
  .exact h2 j hj
 .exact hS
theorem SB.wQ(h:SB P r ty es n H0 H L){z:Int}(h0:0<=z)(hz:z<n)(hp:P<|aX v)(hl:(aX v).length=es)(hk:all' dK (aX v)=true)(k:∀H1,SB P r ty es n H0 (hM H H1) L->K undef H1):
 ME (CS es (.pointer<|some ⟨r,z.toNat*es,none⟩) v<|Go.Ae.hN H) K:=by
 obtain⟨cs,h1,h2,hS⟩:=h
 have hle:z.toNat*es+es<=cs.length:=by
  have:(z.toNat+1)*es<=n*es:=b_ es aa;rw[dN]at this;omega
 refine hS.QW 0 rfl hl aa hk λH1 hS=>k H1 ⟨splice cs (z.toNat*es)<|aX v,?_,λj hj=>?_,?_⟩
 .rw[jr aa];exact h1
 .rw[E9 hl hle];split
  .exact hp
  .exact h2 j hj
 .exact hS
def CW(Q:Int->Prop)(l:List Value):Prop:=∃z:Int,l=[vi z]/\Q z
theorem SB.i1(h:SB (CW Q) r ty 1 n H0 H L){z:Int}(h0:0<=z)(hz:z<n)(k:∀x,Q x->K (vi x) H):ME (rQ none (.pointer<|some ⟨r,z.toNat*1,none⟩) H) K:=
 h.e1 h0 hz λv ⟨x,hx,hq⟩=>by cases hx;exact k x hq
theorem SB.CX(h:SB (CW Q) r ty 1 n H0 H L){z:Int}(h0:0<=z)(hz:z<n)(k:∀x,Q x->K (vi x) (Go.Ae.hN H)):ME (rQ none (.pointer<|some ⟨r,z.toNat*1,none⟩)<|Go.Ae.hN H) K:=
 h.e1Q h0 hz λv ⟨x,hx,hq⟩=>by cases hx;exact k x hq
theorem SB.iw(h:SB (CW Q) r ty 1 n H0 H L){z:Int}(h0:0<=z)(hz:z<n)(hx:Q x)(k:∀H1,SB (CW Q) r ty 1 n H0 H1 L->K undef H1):ME (CS 1 (.pointer<|some ⟨r,z.toNat*1,none⟩) (vi x) H) K:=
 h.w h0 hz ⟨x,rfl,hx⟩ rfl rfl k
theorem SB.PS(h:SB (CW Q) r ty 1 n H0 H L){z:Int}(h0:0<=z)(hz:z<n)(hx:Q x)(k:∀H1,SB (CW Q) r ty 1 n H0 (hM H H1) L->K undef H1):ME (CS 1 (.pointer<|some ⟨r,z.toNat*1,none⟩) (vi x)<|Go.Ae.hN H) K:=
 h.wQ h0 hz ⟨x,rfl,hx⟩ rfl rfl k
end steps
theorem dJ.sH{P:Program}{X:Xt}{c:Code}{s:St}{K:Out->Prop}(h:∀K',K'=K->dJ P X c s K'):dJ P X c s K:=h K rfl
theorem Eb{K:Out->Prop}{s:St}{i j:Nat}(h:(j==i)=false):j3 i K (.exit j s)=K (.exit j s):=Oe (by simpa using h)
theorem lK.mono{P:Program}{X:Xt}{q:Option (FuncId×List Value×List Value)}(h:lK P X q args H K)(hk:∀v H',K v H'->K' v H'):lK P X q args H K':=by
 cases q with
 |none=>exact h
 |some q=>exact az.mono h hk
def ahL(k:IntKind)(a b:Int):Int:=k.wrap<|BitVec.toNat<|BitVec.ofInt k.bits a^^^BitVec.ofInt k.bits b
section bin
variable{P:Program}{a:Int}
theorem wz:jb P .xor t ox oy (.int k a) (.int k b)=some (.int k<|ahL k a b):=iJ rfl rfl
theorem yg(h:0<=b):jb P .shl t ox oy (.int k a) (.int k2 b)=some (.int k<|sG k a b):=by
 show gU (Op.shift .shl k a k2 b)=_;unfold Op.shift;rw[if_neg aa];rfl
theorem IM(h:k.wrap (a-b)=a-b):jb P .sub t ox oy (.int k a) (.int k b)=some (.int k<|a-b):=iJ rfl (by
 show some (Value.int k<|fZ k<|a-b)=_;rw[DN,h])
end bin
theorem qI{n:Int}(h:k.wrap n=n):fZ k n=n:=by rw[DN,h]
theorem u64_in{n:Int}(h:0<=n/\n<18446744073709551616):IntKind.u64.wrap n=n:=by
 show n %18446744073709551616=n;omega
theorem u8_in{n:Int}(h:0<=n/\n<256):IntKind.u8.wrap n=n:=by
 show n %256=n;omega
theorem Ti{a:Int}(h:0<=b/\b<18446744073709551616):0<=rO .u64 a b/\rO .u64 a b<=b:=by
 unfold rO
 have h1:(BitVec.ofInt IntKind.u64.bits a&&&BitVec.ofInt IntKind.u64.bits b).toNat<=(BitVec.ofInt IntKind.u64.bits b).toNat:=by
  rw[BitVec.toNat_and];exact Nat.and_le_right
 have h2:((BitVec.ofInt IntKind.u64.bits b).toNat:Int)=b:=by
  show((BitVec.ofInt 64 b).toNat:Int)=b;rw[BitVec.toNat_ofInt];omega
 rw[u64_in aa];omega
theorem X8{l:Nat}(h:l<=32):sG .u64 1 (l:Int)=((2^l:Nat):Int):=by
 unfold sG
 have h1:min ((l:Int).toNat) IntKind.u64.bits=l:=by
  show min ((l:Int).toNat) 64=l;omega
 rw[h1];have h2:(2:Nat)^l<=2^32:=jk aa h
 have h3:(1:Int)*2^l=((2^l:Nat):Int):=by
  rw[Int.one_mul];simp
 rw[h3];have h4:(2:Nat)^l<=4294967296:=h2;generalize(2:Nat)^l=m at h4;exact u64_in aa
theorem Tj{a:Int}(h:n<=32)(h2:32<=k.bits):Ak k a (n:Int)=a.fdiv ((2^n:Nat):Int):=by
 unfold Ak;have:min ((n:Int).toNat) k.bits=n:=by omega
 rw[this];simp
def ad3(s:ByteArray):Bool:=(List.range 256).all λk=>match s.data.toList[k]? with
 |none=>false
 |some t=>Nat.ble t.toNat 8&&Nat.ble (2^t.toNat) (2*k+(if k=0 then 1 else 0))
theorem PU.ad3{s:ByteArray}{y:Int}{K:Value->Prop}(ht:Go.Ae.ad3 s=true)(h0:0<=y)(h1:y<256)(h:∀t:Nat,t<=8->(1<=y->((2^t:Nat):Int)<=2*y)->K (.int .u8 (t:Int))):PU (XU (.string s)<|.int .u8 y) K:=by
 obtain⟨k,rfl⟩:∃k:Nat,y=k:=⟨y.toNat,aa⟩;have hk:k<256:=by omega
 have:=bU.1 ht k<|rV.2 hk;show PU (ax (nth s.data.toList k) λb=>some<|Value.int .u8<|.ofNat b.toNat) K;rw[kU]
 revert this
 cases s.data.toList[k]? with
 |none=>intro h;cases h
 |some t=>
  intro h2;simp only[aG]at h2;have h3:=ai h2.1;have h4:=ai h2.2
  exact h t.toNat h3 λh5=>by
   rw[if_neg aa]at h4;omega
section steps
variable{P:List Value->Prop}{r:Nat}
theorem SB.oV(h:SB P r ty es n H0 H L)(hx:Ext (Go.Ae.hN H) H'):SB P r ty es n H0 (hM H H') L:=by obtain⟨cs,h1,h2,hS⟩:=h;exact⟨cs,h1,h2,hS.oV hx⟩
theorem SB.QW(h:SB P r ty es n H0 H L)(i:Nat){q:Nat}(hi:L[i]?=some (q,t2,cs))(hl:(aX v).length=m)(hn:o+m<=cs.length)(hk:all' dK (aX v)=true)(k:∀H1,SB P r ty es n H0 (hM H H1) (L.set i (q,t2,splice cs o<|aX v))->K undef H1):ME (CS m (.pointer<|some ⟨q,o,none⟩) v<|Go.Ae.hN H) K:=by
 obtain⟨ds,h1,h2,hS⟩:=h;exact hS.QW (i+1) (by rw[cK];exact hi) hl hn hk λH1 hS=>k H1 ⟨ds,h1,h2,hS⟩
theorem SB.drop{b:cz}(h:SB P r ty es n H0 H<|b::L):SB P r ty es n H0 H L:=by
 obtain⟨cs,g1,g2,hS⟩:=h;exact⟨cs,g1,g2,SH.drop (A:=[_])<|hS.perm<|List.Perm.swap _ _ _⟩
end steps
def Nl(l:List Value):Prop:=∃a b:Int,l=[.int .i32 a,.int .i32 b]
theorem SB.Ec{r:Nat}(h:SB Nl r ty 2 n H0 H L){z:Int}(h0:0<=z)(hz:z<n)(k:∀a b,K (.agg ⟨[.int .i32 a,.int .i32 b]⟩)<|Go.Ae.hN H):ME (rQ (some 2) (.pointer<|some ⟨r,z.toNat*2,none⟩)<|Go.Ae.hN H) K:=
 h.emQ h0 hz λl hl=>by obtain⟨a,b,rfl⟩:=hl;exact k a b
theorem SB.r1{r:Nat}(h:SB Nl r ty 2 n H0 H L){z:Int}(h0:0<=z)(hz:z<n)(k:∀a b,K (.agg ⟨[.int .i32 a,.int .i32 b]⟩) H):ME (rQ (some 2) (.pointer<|some ⟨r,z.toNat*2,none⟩) H) K:=
 h.em h0 hz λl hl=>by obtain⟨a,b,rfl⟩:=hl;exact k a b
theorem SB.QX{r:Nat}(h:SB Nl r ty 2 n H0 H L){z:Int}(h0:0<=z)(hz:z<n){a:Int}(k:∀H1,SB Nl r ty 2 n H0 (hM H H1) L->K undef H1):ME (CS 2 (.pointer<|some ⟨r,z.toNat*2,none⟩) (.agg ⟨[.int .i32 a,.int .i32 b]⟩)<|Go.Ae.hN H) K:=
 h.wQ h0 hz ⟨a,b,rfl⟩ rfl rfl k
theorem SB.rw'{r:Nat}(h:SB Nl r ty 2 n H0 H L){z:Int}(h0:0<=z)(hz:z<n){a:Int}(k:∀H1,SB Nl r ty 2 n H0 H1 L->K undef H1):ME (CS 2 (.pointer<|some ⟨r,z.toNat*2,none⟩) (.agg ⟨[.int .i32 a,.int .i32 b]⟩) H) K:=
 h.w h0 hz ⟨a,b,rfl⟩ rfl rfl k
def tC:List Nat:=List.replicate 128 240++(List.replicate 66 241++(List.replicate 30 2++(19::(List.replicate 12 3++([35,3,3,52,4,4,4,68]++List.replicate 11 241)))))
def q8:List Nat:=[128,191,160,191,128,159,144,191,128,143,0,0,0,0,0,0,0,0,0,0,0,0,0,0,0,0,0,0,0,0,0,0]
def yQ(H:ag):Prop:=3<=H.next/\∃t1 t2,H.obj 1=qZ t1 .u8 tC/\H.obj 2=qZ t2 .u8 q8
theorem yQ.ex(h:yQ H)(hx:Ext H H'):yQ H':=by
 obtain⟨h0,t1,t2,h1,h2⟩:=h;exact⟨aW h0 hx.next,t1,t2,(hx.obj 1 aa<|by simp).trans h1,(hx.obj 2 aa<|by simp).trans h2⟩
open Classical in
def orT(args:List Value)(H:ag):Option (Value×ag):=if args=[]/\yQ H then some (.bool true,H)else none
theorem X9(h:yQ H):orT [] H=some (.bool true,H):=by unfold orT;rw[if_pos ⟨rfl,h⟩]
theorem ad4(h:orT args H=some (v,H')):args=[]/\yQ H/\v=.bool true/\H'=H:=by
 unfold orT at h;split at h
 .next hc=>cases h;exact⟨hc.1,hc.2,rfl,rfl⟩
 .cases h
theorem X_{r z:Nat}(h:H.obj r=qZ ty k l)(hz:l[i]?=some z):H.cell r i=some (.int k (z:Int)):=by
 have hi:i<l.length:=(aL.1 hz).1;unfold ag.cell;rw[h];show gd (Nat.ble (Nat.succ i)<|len l) (some<|(Tr.pU top (mp (λn=>Value.int k<|Int.ofNat n) l) 0 .nil).get top i)=_;rw[dG,av hi,yz,Tr.jM,DC,if_pos (by simp;omega),aK,iK,aR,hz];rfl
theorem U9{r x y:Nat}(h:H.obj r=qZ ty k l)(hx:l[i]?=some x)(hy:l[i+1]?=some y):H.read r i 2=some [.int k (x:Int),.int k (y:Int)]:=by
 have hi:i+1<l.length:=(aL.1 hy).1;show(ax (rX<|H.obj r) λw=>gd (Nat.ble (Nat.add i 2) w.n)<|some<|Tr.Cu top w.cells i 2)=_;rw[h];show gd (Nat.ble (i+2)<|len l) (some<|Tr.Cu top (Tr.pU top (mp (λn=>Value.int k<|Int.ofNat n) l) 0 .nil) i 2)=_;rw[dG,av hi,yz,Tr.uQ,Tr.uQ,Tr.zP,Tr.jM,Tr.jM,DC,if_pos (by simp;omega),if_pos (by simp;omega),aK,aK,iK,iK,aR,aR,hx,hy];rfl
section
variable{S:List Nat}
theorem U'(t:Tr Value):∀(n k:Nat)(cs:List Value),cs.length=n->(∀i(h:i<cs.length),t.get top (k+i)=cs[i])->Tr.Cu top t k n=cs:=by
 intro n
 induction n with
 |zero=>intro k cs h _;rw[Tr.zP];exact(bK.1 h).symm
 |succ n ih=>
  intro k cs h hc;cases cs with
  |nil=>cases h
  |cons x cs=>
   rw[Tr.uQ,ih (k+1) cs (by simpa using h) (λi hi=>by
    have:=hc (i+1) (by simpa using hi);rw[show k+1+i=k+(i+1) by omega,this];rfl)]
   have:=hc 0 (by simp);rw[bn]at this;rw[this];rfl
theorem Cj{r:Nat}(h:∀i x,cs[i]?=some x->H.cell r (o+i)=some x):H.read r o cs.length=some cs:=by
 cases cs with
 |nil=>rfl
 |cons x cs=>
  have hrow:∃R,H.obj r=.row R:=by
   have:=h 0 x rfl;unfold ag.cell at this;obtain⟨R,h1,_⟩:=ak this;exact⟨R,qR h1⟩
  obtain⟨R,hR⟩:=hrow
  have hcell:∀i(hi:i<(x::cs).length),o+i<R.n/\R.cells.get top (o+i)=(x::cs)[i]:=by
   intro i hi;have h1:=h i _<|ae hi;unfold ag.cell at h1;rw[hR]at h1;replace h1:gd (Nat.ble (Nat.succ<|o+i) R.n) (some<|R.cells.get top<|o+i)=some _:=h1;obtain⟨h2,h3⟩:=dh h1;exact⟨ai h2,bN h3⟩
  show(ax (rX<|H.obj r) λw=>gd (Nat.ble (Nat.add o<|cs.length+1) w.n)<|some<|Tr.Cu top w.cells o<|cs.length+1)=_;rw[hR];show gd (Nat.ble (o+(cs.length+1)) R.n) (some<|Tr.Cu top R.cells o<|cs.length+1)=_;have hl:=(hcell cs.length<|by simp).1;rw[av aa,yz,U' R.cells (cs.length+1) o (x::cs) rfl λi hi=>(hcell i hi).2]
theorem Fl.read{k:Nat}(h:Fl H a n es cs)(he:0<es)(hk:k<n)(c:Nat):
 ∃r o,zH es (.slice a n c) (vn k)=some (.pointer<|some ⟨r,o,none⟩)/\r<H.next/\H.read r o es=some (El cs es k)/\(El cs es k).length=es/\∃o0,a=some ⟨r,o0,none⟩/\o=o0+k*es:=by
 obtain⟨r,o,h1,h2,h3,h4⟩:=h.idx (c:=c) he hk
 have hl:(El cs es k).length=es:=by
  unfold El;have:(k+1)*es<=n*es:=b_ es hk;rw[dN]at this;have:=h.1;simp;omega
 refine⟨r,o,h1,h2,?_,hl,h4⟩
 have:=Cj (H:=H) (r:=r) (o:=o) (cs:=El cs es k) λi x hx=>by
  rw[j4]at hx;split at hx
  .next hi=>exact h3 i x hi hx
  .cases hx
 rwa [hl]at this
theorem Al(h:Fl H a n es cs)(he:0<es):appended H es (.slice a n c)=some (n,cs):=by
 rcases fq n with rfl|hn
 .have hc:cs=[]:=bK.1 (by have:=h.1;omega);subst hc;cases a with
  |none=>rfl
  |some a=>
   show(ax (H.read a.block a.off<|Nat.mul 0 es) λl=>some (0,l))=_;rw[show Nat.mul 0 es=0 from gP es];rfl
 .have hl:0<cs.length:=by rw[h.1];exact o_ hn he
  obtain⟨r,o,rfl,_,_⟩:=h.2 0 _<|ae hl;show(ax (H.read r o<|Nat.mul n es) λl=>some (n,l))=_
  have h1:=Cj (H:=H) (r:=r) (o:=o) (cs:=cs) λi x hx=>by
   obtain⟨r',o',e,_,h5⟩:=h.2 i x hx;cases e;exact h5
  rw[h.1]at h1;rw[show Nat.mul n es=n*es from rfl,h1];rfl
theorem IP{x:Value}{xs:List Value}(hv:v=.slice none 0 0\/∃a,v=.slice (some a) 0 0)(ha:appended H es x=some (n,xs))(hn:n<=16777216):
 Bz e es v x H=if n=0 then some (v,H)else some (.slice (some ⟨H.next,0,none⟩) n<|dV es,H.new<|rowOf e xs):=by
 cases n with
 |zero=>
  rw[if_pos rfl];rcases hv with rfl|⟨a,rfl⟩
  .unfold Bz;rw[ha];show gd (Nat.ble 0 16777216) (some (Value.slice none 0 0,H))=_;rw[av aa];rfl
  .unfold Bz;rw[ha];show gd (Nat.ble 0 16777216) (some (Value.slice (some a) 0 0,H))=_;rw[av aa];rfl
 |succ k=>
  rw[if_neg aa];rcases hv with rfl|⟨a,rfl⟩
  .exact Me ha hn
  .unfold Bz;rw[ha];show gd (Nat.ble (k+1) 16777216) (gd (Nat.ble 0 16777216)<|aU (eY 0) (uT (e,es) a 0 0 (k+1) xs H)<|gd (Nat.beq 0<|dV es)<|pK (e,es) a 0 0 (k+1) xs H)=_;rw[av hn,av aa,show eY 0=true from rfl];show uT (e,es) a 0 0 (k+1) xs H=_;unfold uT
   have e1:Nat.ble (Nat.add 0<|k+1) 0=false:=by
    rw[<-aV];intro h;have:=ai h;have e:Nat.add 0 (k+1)=k+1:=aI _;omega
   have e2:Nat.add 0 (k+1)=k+1:=aI _;have e3:Nat.mul 0 es=0:=gP es;rw[e1,iE];show(ax (H.read a.block a.off<|Nat.mul 0 es) λold=>some<|xH e es (Nat.add 0<|k+1) (app old xs) H)=_;rw[e3,e2];rfl
section steps
variable{x:Value}{xs:List Value}
end steps
theorem CZ{r w:Nat}(h:w<=n):slA es (.slice (some ⟨r,o,none⟩) n<|dV es) none (some<|vn w) none=some (.slice (some ⟨r,o,none⟩) w<|dV es):=by
 show aU (eY<|dV es) _ (gd (Nat.beq (dV es)<|dV es)<|gd (Nat.ble 0 w&&Nat.ble w n)<|some<|Value.slice (some ⟨r,Nat.add o<|Nat.mul 0 es,none⟩) (Nat.sub w 0)<|dV es)=_;rw[BC,iE,bC,av<|aM _,av h,show Nat.mul 0 es=0 from gP es];rfl
theorem Oy{r w:Nat}(h:w<=n):slA es (.slice (some ⟨r,o,none⟩) n<|dV es) (some<|vn w) none none=some (.slice (some ⟨r,o+w*es,none⟩) (n-w)<|dV es):=by
 show aU (eY<|dV es) _ (gd (Nat.beq (dV es)<|dV es)<|gd (Nat.ble w n&&Nat.ble n n)<|some<|Value.slice (some ⟨r,Nat.add o<|Nat.mul w es,none⟩) (Nat.sub n w)<|dV es)=_;rw[BC,iE,bC,av<|aj _,av h];rfl
theorem Tm:slA es (.slice none 0 0) none (some<|vn 0) none=some (.slice none 0 0):=rfl
theorem GB.cut{H0 H:ag}{L:List cz}{w:Nat}(hg:GB ty es v cs gb)(he:0<es)(hw:w*es<=cs.length){K:Value->Prop}(k:∀v',GB ty es v' (cs.take<|w*es) gb->K v'):PU (slA es v none (some<|vn w) none) K:=by
 rcases hg with⟨rfl,rfl,rfl⟩|⟨r,n,dH,rfl,hn,rfl⟩
 .have:w=0:=by
   rcases fq w with h|h
   .exact h
   .have:=o_ h he;have h2:w*es<=0:=hw;omega
  subst this;rw[Tm];exact k _<|.inl ⟨rfl,by simp,rfl⟩
 .have hwn:w<=n:=by rw[hn]at hw;exact nS hw he
  rw[CZ hwn];refine k _<|.inr ⟨r,w,cs.drop (w*es)++dH,rfl,?_,?_⟩
  .simp;omega
  .rw[<-bg,fV]
section bin
variable{P:Program}
theorem Am(ht:EG P t=2):jb P .eql t ox (.const<|.slice none 0 0) (.slice a n c) (.slice none 0 0)=some (.bool<|cO a):=by
 show Cc .eql (J' (EG P t) (.slice none 0 0)<|.slice a n c)=_;rw[ht];rfl
end bin
theorem ad5(he:es<=16777216):bS e z es 0 [] H=some (.slice (some ⟨H.next,0,none⟩) 0 0,H.new<|rowOf e []):=by
 unfold bS;rw[show Nat.mul 0 es=0 from gP es,av<|aM _];rfl
end
def Ya(w:World)(o:iW)(r:Nat):Prop:=o=.dead\/∃(R:Row)(cs:Array Value)(fr:Nat×Nat),o=.row R/\w.heap[r]?=some (.cells cs R.ty fr)/\R.ja=true/\R.n<=cs.size/\∀i,i<R.n->∃v,cs[i]?=some v/\(R.cells.get top i=top\/(jW v=true/\R.cells.get top i=v)\/∃t x,v=.iface t x/\R.cells.get top i=.iface t top)
theorem afB{w:World}(h:H.next<=w.heap.size)(ht:∀r,r<H.next->Ya w (H.obj r) r):RH (CQ w H) H w:=by
 refine⟨?_,?_,?_⟩
 .intro r l hr;unfold CQ at hr;split at hr
  .next h1=>exact h1
  .cases hr
 .intro r l hr;unfold CQ at hr;split at hr
  .next h1=>
   cases hr;refine⟨w.heap[r]'aa,aJ (i:=r) aa,?_⟩;rcases ht r h1 with h2|⟨R,cs,fr,h2,h3,hse,hle,h4⟩
   .rw[h2];trivial
   .have hcn:Af w r=cs.size:=by unfold Af;rw[h3]
    have hget:w.heap[r]'aa=.cells cs R.ty fr:=by
     have:=aJ (xs:=w.heap) (i:=r) aa;rw[h3]at this;injection this with this;exact this.symm
    rw[hget,h2];refine⟨⟨rfl,rfl⟩,rfl,hcn.symm,aM _,?_,?_,?_⟩
    .show 0+(R.n-0)<=Af w r;rw[hcn];omega
    .rw[hse];intro h;cases h
    .intro i _ hi;obtain⟨v,h5,h6⟩:=h4 i hi;refine⟨v,by simpa using h5,?_⟩;rcases h6 with h6|⟨h6,h7⟩|⟨t,x,rfl,h7⟩
     .rw[h6];exact .top _
     .rw[h7];exact .sc _ h6
     .rw[h7];exact .iface t top x<|.top x
  .cases hr
 .intro r r' l l' hr hr' _ _ hc;unfold CQ at hr hr';split at hr
  .split at hr'
   .cases hr;cases hr';exact hc
   .cases hr'
  .cases hr
section mem
variable{P:Program}
theorem U_{X:Xt}(hn:n<=H.next)(hmo:P.follows .mixedOrders=true)(hP:xU P n)(hX:V5 P X)(hO:EX P X n){g:FuncId}(hg:P.funcs[g]?=some fn)(hb:fn.body.isSome=true){b:Bool}(h:az P X g args H λv H'=>v=.bool b/\H.next<=H'.low){w:World}(hw:H.next<=w.heap.size)(ht:∀r,r<H.next->Ya w (H.obj r) r)(ha:jf (CQ w H) args args'):
 Calls P g ⟨args'⟩ w λe w'=>e=.returned (.bool b)/\Go.RowKit.Below w.heap.size w w':=by
 obtain⟨v,H',⟨k,h⟩,rfl,hlow⟩:=h;refine(levels hmo hP hX hO k g args _ _ H' fn h hg hb (CQ w H) w args' (afB hw ht) (λg hg=>SQ w H g aa) ha).mono ?_;rintro e w' ⟨m',v',rfl,h1,h2,h3⟩;rw[h1.of_bool];refine⟨rfl,⟨h3.os,h3.tape,h3.output,h3.size,λc hc=>h3.keep c hc ?_⟩⟩;intro r l hr _;unfold CQ at hr;split at hr
 .next h4=>exact aH h4 hlow
 .cases hr
def Mg(v:Value):Value:=if jW v=true then v else match v with
 |.iface t _=>.iface t top
 |_=>top
def ad6:Obj->iW
 |.cells cs ty _=>.row ⟨ty,Tr.pU top (cs.toList.map Mg) 0 .nil,cs.size,true,0⟩
 |_=>.dead
def abq(w:World)(T:Nat->Option iW)(r:Nat):iW:=(T r).getD (match w.heap[r]? with|some o=>ad6 o|none=>.dead)
def QY(w:World)(T:Nat->Option iW):ag:=⟨Tr.pU .dead ((List.range w.heap.size).map<|abq w T) 0 .nil,w.heap.size,w.heap.size⟩
theorem Oz(w:World)(T:Nat->Option iW){r:Nat}(h:r<w.heap.size):(QY w T).obj r=abq w T r:=by
 show(Tr.pU .dead ((List.range w.heap.size).map<|abq w T) 0 .nil).get .dead r=_;rw[Tr.jM,if_pos (by simp;omega),aK];simp[h]
theorem abr{w:World}{T:Nat->Option iW}(hT:∀r o,T r=some o->Ya w o r):∀r,r<(QY w T).next->Ya w ((QY w T).obj r) r:=by
 intro r hr;replace hr:r<w.heap.size:=hr;rw[Oz w T hr];unfold abq;cases hc:T r with
 |some o=>exact hT r o hc
 |none=>
  rw[aJ hr];show Ya w (ad6 _) r;cases ho:w.heap[r]with
  |cells cs ty fr=>
   refine .inr ⟨_,cs,fr,rfl,by rw[aJ hr,ho],rfl,aj _,λi hi=>?_⟩;replace hi:i<cs.size:=hi;refine⟨cs[i],aJ hi,?_⟩;show(Tr.pU top (cs.toList.map Mg) 0 .nil).get top i=top\/_
   have e:(Tr.pU top (cs.toList.map Mg) 0 .nil).get top i=Mg cs[i]:=by
    rw[Tr.jM,if_pos (by simp;omega),aK];simp[hi]
   show(Tr.pU top (cs.toList.map Mg) 0 .nil).get top i=top\/(jW cs[i]=true/\(Tr.pU top (cs.toList.map Mg) 0 .nil).get top i=cs[i])\/∃t x,cs[i]=.iface t x/\(Tr.pU top (cs.toList.map Mg) 0 .nil).get top i=.iface t top;rw[e];unfold Mg;split
   .next h=>exact .inr<|.inl ⟨h,rfl⟩
   .split
    .next t x e=>exact .inr<|.inr ⟨t,x,e,rfl⟩
    .exact .inl rfl
  |_=>exact .inl rfl
end mem
section
variable{S:List Nat}
def GK(ty:TypeId)(es:Nat)(v:Value)(cs:List Value)(gb:List cz):Prop:=
 GB ty es v cs gb\/∃r n m dH,v=.slice (some ⟨r,0,none⟩) n m/\m<=16777216/\cs.length=n*es/\(cs++dH).length=m*es/\gb=[(r,ty,cs++dH)]
theorem IQ(h:m<=16777216):eY m=true:=av aa
section steps
variable{xs:List Value}
theorem GK.app(hg:GK ty es v cs gb)(hS:SH S H0 H<|(rx,ty,xs)::(gb++L))(he:0<es)(hx:xs.length=(m+1)*es)(hok:all' dK xs=true)(hm:m+1<=16777216)(hc:cs.length<=16777216):
 ∃v' H1 gY,Bz ty es v (.slice (some ⟨rx,0,none⟩) (m+1) cx) H=some (v',H1)/\GK ty es v' (cs++xs) gY/\SH S H0 H1 (gY++L)/\qU (gb.map (·.1)) H H1:=by
 rcases hg with hg|⟨r,n,mm,dH,rfl,hmm,hn,hj,rfl⟩
 .obtain⟨v',H1,gY,h1,h2,h3,h4⟩:=hg.app (cx:=cx) hS he hx hok hm hc;exact⟨v',H1,gY,h1,.inl h2,h3,h4⟩
 have hbx:=hS.get 0 rfl;have ha:=xA (k:=m+1) (c:=cx) hbx hx;have hS1:SH S H0 H ([(r,ty,cs++dH)]++L):=SH.drop (A:=[(rx,ty,xs)]) hS;have hb:=hS1.get 0 rfl
 have hnn:n<=16777216:=by
  have:n*1<=n*es:=jw n he;omega
 have hap:Bz ty es (.slice (some ⟨r,0,none⟩) n mm) (.slice (some ⟨rx,0,none⟩) (m+1) cx) H=uT (ty,es) ⟨r,0,none⟩ n mm (m+1) xs H:=by
  unfold Bz;rw[ha];show gd (Nat.ble (m+1) 16777216) (gd (Nat.ble n 16777216)<|aU (eY mm) (uT (ty,es) ⟨r,0,none⟩ n mm (m+1) xs H) _)=_;rw[av hm,av hnn,IQ hmm];rfl
 rw[hap];unfold uT;show∃v' H1 gY,aU (Nat.ble (n+(m+1)) mm) (ax (H.write r (Nat.add 0<|n*es) xs) λH'=>some (Value.slice (some ⟨r,0,none⟩) (n+(m+1)) mm,H')) (ax (H.read r 0<|n*es) λold=>some<|xH ty es (n+(m+1)) (Go.Ae.app old xs) H)=some (v',H1)/\_;rw[show Nat.add 0 (n*es)=n*es from aI _];have hmul:(n+(m+1))*es=n*es+(m+1)*es:=dN ..
 by_cases hfit:n+(m+1)<=mm
 .rw[av hfit,lG];have hle:(n+(m+1))*es<=mm*es:=b_ es hfit;obtain⟨H1,h1,h2,h3⟩:=hS1.yN (vs:=xs) (o:=n*es) 0 rfl aa hok;rw[h1]
  have hs:splice (cs++dH) (n*es) xs=cs++xs++dH.drop xs.length:=by
   unfold splice;rw[<-hn,mE,qh,gJ aa,bB,iG]
  rw[hs]at h2;refine⟨_,H1,[(r,ty,cs++xs++dH.drop xs.length)],rfl,.inr ⟨r,n+(m+1),mm,dH.drop xs.length,rfl,hmm,?_,?_,rfl⟩,h2,h3⟩
  .rw[ay,hn,hx,hmul]
  .rw[<-hs,jr aa];exact hj
 .rw[show Nat.ble (n+(m+1)) mm=false from by rw[<-aV];intro h;exact hfit<|ai h,iE]
  have hrd:H.read r 0 (n*es)=some cs:=by
   rw[hb.read (by simp;omega)];simp only[iR];rw[<-hn,mE]
  rw[hrd];show∃v' H1 gY,some (xH ty es (n+(m+1)) (Go.Ae.app cs xs) H)=some (v',H1)/\_;rw[nY];refine⟨_,_,[(H.next,ty,cs++xs)],rfl,.inl<|.inr ⟨H.next,n+(m+1),[],rfl,?_,by simp⟩,?_,(Ext.new _ _).weaken λ_ h=>nomatch h⟩
  .rw[ay,hn,hx,hmul]
  .exact(SH.drop (A:=[(r,ty,cs++dH)]) hS1).grow ty<|cs++xs
theorem GK.fl(hg:GK ty es v cs gb)(hS:SH S H0 H<|gb++L):∃a n c,v=.slice a n c/\cs.length=n*es/\Fl H a n es cs:=by
 rcases hg with hg|⟨r,n,m,dH,rfl,hmm,hn,hj,rfl⟩
 .exact hg.fl hS
 .refine⟨_,n,_,rfl,hn,hn,λi x hi=>⟨r,0,rfl,(hS.lo _<|aD ..).2,?_⟩⟩;rw[aI];refine(hS.get 0 rfl).cell ?_;rw[aP (aL.1 hi).1];exact hi
end steps
end
theorem PP:type_of%(J @Eb<|J @jO<|J @SY<|J @S7<|J @Ta<|J @Tc<|J @Oq<|J @D6<|J @Oj<|J @D7<|J @oJ<|J @Ol<|J @Om<|J @KF<|J @KH<|J @Oo<|J @IE<|J @Og<|J @Ky<|J @jl<|J @min2<|J @max2<|J @vU<|J @Td<|J @Te<|J @Oa<|J @Ob<|J @SV<|J @Oc<|J @SX<|J @Od<|J @Oh<|J @Oi<|J @S9<|J @uC<|J @yP<|J @BD<|J @Ow<|J @D8<|J @IG<|J @II<|J @FM<|J @FN<|J @FO<|J @IJ<|J @IK<|J @FP<|J @FQ<|J @FT<|J @FU<|J @D9<|J @FV<|J @D_<|J @FW<|J @Ea<|J @ad2<|J (@o7 Value)<|J (@cK Value)<|J @aI<|J @bn<|J (@lU cz)<|@ik cz):=J @Eb<|J @jO<|J @SY<|J @S7<|J @Ta<|J @Tc<|J @Oq<|J @D6<|J @Oj<|J @D7<|J @oJ<|J @Ol<|J @Om<|J @KF<|J @KH<|J @Oo<|J @IE<|J @Og<|J @Ky<|J @jl<|J @min2<|J @max2<|J @vU<|J @Td<|J @Te<|J @Oa<|J @Ob<|J @SV<|J @Oc<|J @SX<|J @Od<|J @Oh<|J @Oi<|J @S9<|J @uC<|J @yP<|J @BD<|J @Ow<|J @D8<|J @IG<|J @II<|J @FM<|J @FN<|J @FO<|J @IJ<|J @IK<|J @FP<|J @FQ<|J @FT<|J @FU<|J @D9<|J @FV<|J @D_<|J @FW<|J @Ea<|J @ad2<|J (@o7 Value)<|J (@cK Value)<|J @aI<|J @bn<|J (@lU cz)<|@ik cz
class IU (L:List cz) (r:Nat) (ty:outParam TypeId) (cs:outParam<|List Value):Prop where
 at':∃i:Nat,L[i]?=some ((r,ty,cs):cz)
instance IU.there{r:Nat}{ty:TypeId}{cs:List Value}{b:cz}{L:List cz}[h:IU L r ty cs]:IU (b::L) r ty cs:=⟨let⟨i,hi⟩:=h.at';⟨i+1,hi⟩⟩
instance IU.here{r:Nat}{ty:TypeId}{cs:List Value}{L:List cz}:IU ((r,ty,cs)::L) r ty cs:=⟨⟨0,rfl⟩⟩
class Mh (L:List cz) (r:Nat) (F:List Value->List Value) (ty:outParam TypeId) (cs:outParam<|List Value) (L':outParam<|List cz):Prop where
 at':∃i:Nat,L[i]?=some ((r,ty,cs):cz)/\L'=L.set i (r,ty,F cs)
instance Mh.there{r:Nat}{F:List Value->List Value}{ty:TypeId}{cs:List Value}{b:cz}{L L':List cz}[h:Mh L r F ty cs L']:Mh (b::L) r F ty cs (b::L'):=⟨let⟨i,hi,e⟩:=h.at';⟨i+1,hi,by rw[e];rfl⟩⟩
instance Mh.here{r:Nat}{F:List Value->List Value}{ty:TypeId}{cs:List Value}{L:List cz}:Mh ((r,ty,cs)::L) r F ty cs ((r,ty,F cs)::L):=⟨⟨0,rfl,rfl⟩⟩
section steps
variable{S:List Nat}{r:Nat}
theorem SH.dQ(hS:SH S H0 H L)[hb:IU L r ty cs](k:K v H)(hv:cs[o]?=some v:=by rfl):ME (rQ none (.pointer<|some ⟨r,o,none⟩) H) K:=let⟨i,hi⟩:=hb.at';hS.ld i hi hv k
theorem SH.eU(hS:SH S H0 H L)[hb:IU L r ty cs](k:K (.agg ⟨(cs.drop o).take n⟩) H)(hn:o+n<=cs.length:=by exact ai rfl):ME (rQ (some n) (.pointer<|some ⟨r,o,none⟩) H) K:=let⟨i,hi⟩:=hb.at';hS.CU i hi hn k
theorem SH.kI(hS:SH S H0 H L)[hb:IU L r ty cs](k:K v<|Go.Ae.hN H)(hv:cs[o]?=some v:=by rfl):ME (rQ none (.pointer<|some ⟨r,o,none⟩)<|Go.Ae.hN H) K:=let⟨i,hi⟩:=hb.at';hS.BQ i hi hv k
theorem SH.nN(hS:SH S H0 H L)[hb:IU L r ty cs](k:K (.agg ⟨(cs.drop o).take n⟩)<|Go.Ae.hN H)(hn:o+n<=cs.length:=by exact ai rfl):ME (rQ (some n) (.pointer<|some ⟨r,o,none⟩)<|Go.Ae.hN H) K:=let⟨i,hi⟩:=hb.at';hS.X4 i hi hn k
theorem SH.kJ(hS:SH S H0 H L)[hb:Mh L r (λcs=>splice cs o<|aX v) ty cs L'](k:∀H1,SH S H0 H1 L'->K undef H1)(hl:(aX v).length=n:=by rfl)(hn:o+n<=cs.length:=by exact ai rfl)(hk:all' dK (aX v)=true:=by rfl):ME (CS n (.pointer<|some ⟨r,o,none⟩) v H) K:=by
 obtain⟨i,hi,e⟩:=hb.at';subst e;exact hS.st i hi hl hn hk k
end steps
section agg
variable{K:Value->Prop}{a b c d e f g h i:Value}
theorem PU.b1(hq:q=some (.agg ⟨[a]⟩))(k:K<|.agg ⟨[a]⟩):PU q K:=.of hq k
theorem PU.b2(hq:q=some (.agg ⟨[a,b]⟩))(k:K<|.agg ⟨[a,b]⟩):PU q K:=.of hq k
theorem PU.b3(hq:q=some (.agg ⟨[a,b,c]⟩))(k:K<|.agg ⟨[a,b,c]⟩):PU q K:=.of hq k
theorem PU.b4(hq:q=some (.agg ⟨[a,b,c,d]⟩))(k:K<|.agg ⟨[a,b,c,d]⟩):PU q K:=.of hq k
theorem PU.b5(hq:q=some (.agg ⟨[a,b,c,d,e]⟩))(k:K<|.agg ⟨[a,b,c,d,e]⟩):PU q K:=.of hq k
theorem PU.b6(hq:q=some (.agg ⟨[a,b,c,d,e,f]⟩))(k:K<|.agg ⟨[a,b,c,d,e,f]⟩):PU q K:=.of hq k
theorem PU.b7(hq:q=some (.agg ⟨[a,b,c,d,e,f,g]⟩))(k:K<|.agg ⟨[a,b,c,d,e,f,g]⟩):PU q K:=.of hq k
theorem PU.b8(hq:q=some (.agg ⟨[a,b,c,d,e,f,g,h]⟩))(k:K<|.agg ⟨[a,b,c,d,e,f,g,h]⟩):PU q K:=.of hq k
theorem PU.b9(hq:q=some (.agg ⟨[a,b,c,d,e,f,g,h,i]⟩))(k:K<|.agg ⟨[a,b,c,d,e,f,g,h,i]⟩):PU q K:=.of hq k
end agg
def wR(H:ag)(r:Nat)(ty:TypeId):Prop:=∃R,H.obj r=.row R/\R.ty=ty
theorem wR.one{r:Nat}(h:wR H r ty)(h':wR H r ty'):ty=ty':=by
 obtain⟨R,h1,h2⟩:=h;obtain⟨R',h3,h4⟩:=h';rw[h1]at h3;cases h3;rw[<-h2,<-h4]
theorem Bk.Tn{r:Nat}(h:Bk H r ty cs):wR H r ty:=by
 obtain⟨R,h1,h2,_⟩:=h;exact⟨R,h1,h2⟩
theorem wR.mR{r:Nat}(h:wR H r ty)(e:H'.obj r=H.obj r):wR H' r ty:=by
 obtain⟨R,h1,h2⟩:=h;exact⟨R,e.trans h1,h2⟩
def jT(F:Nat->Prop)(ty:TypeId)(H:ag)(a:Option Addr)(n es:Nat)(cs:List Value):Prop:=Fl H a n es cs/\∀r o,a=some ⟨r,o,none⟩->0<n->F r/\r<H.next/\wR H r ty
theorem jT.nil(F:Nat->Prop)(ty:TypeId)(H:ag)(a:Option Addr)(es:Nat):jT F ty H a 0 es []:=⟨Fl.nil _ _ _,λ_ _ _ h=>absurd h aa⟩
theorem jT.stay{S:List Nat}{F:Nat->Prop}(h:jT F ty H a n es cs)(hx:qU S H H')(hS:∀q∈S,¬F q\/¬wR H q ty):jT F ty H' a n es cs:=by
 obtain⟨h1,h2⟩:=h
 have key:∀r o,a=some ⟨r,o,none⟩->0<n->r∉S:=λr o e hn hr=>by
  obtain⟨h3,_,h4⟩:=h2 r o e hn;rcases hS r hr with h5|h5
  .exact h5 h3
  .exact h5 h4
 rcases fq n with rfl|hn
 .have:cs=[]:=bK.1 (by have:=h1.1;omega);subst this;exact jT.nil _ _ _ _ _
 .refine⟨h1.ext hx λr o e=>key r o e hn,λr o e _=>?_⟩;obtain⟨h3,h4,h5⟩:=h2 r o e hn;exact⟨h3,aH h4 hx.next,h5.mR<|hx.obj r h4<|key r o e hn⟩
theorem jT.ex{F:Nat->Prop}(h:jT F ty H a n es cs)(hx:Ext H H'):jT F ty H' a n es cs:=h.stay hx λq h=>nomatch h
theorem jT.wk{F F':Nat->Prop}(h:jT F ty H a n es cs)(hb:∀r,F r->F' r):jT F' ty H a n es cs:=⟨h.1,λr o e hn=>⟨hb _ (h.2 r o e hn).1,(h.2 r o e hn).2⟩⟩
theorem jT.le{b b':Nat}(h:jT (b<=·) ty H a n es cs)(hb:b'<=b):jT (b'<=·) ty H a n es cs:=h.wk λ_ h=>aW hb h
theorem SH.Gt{S:List Nat}(hS:SH S H0 H L)(h:L.all (λe=>!(e.2.1==ty))=true):∀q∈L.map (·.1),¬wR H q ty:=λq hq ht=>by
 obtain⟨e,he,rfl⟩:=aZ.1 hq;have h1:=(hS.bk e he).Tn.one ht;have h2:=bU.1 h e he;simp[h1]at h2
theorem GB.Nn{S:List Nat}{F:Nat->Prop}(hg:GB ty es v cs gb)(hS:SH S H0 H<|gb++L)(hF:∀e∈gb,F e.1):∃a n c,v=.slice a n c/\cs.length=n*es/\jT F ty H a n es cs:=by
 rcases hg with⟨rfl,rfl,rfl⟩|⟨r,n,dH,rfl,hn,rfl⟩
 .exact⟨none,0,0,rfl,by simp,jT.nil _ _ _ _ _⟩
 .refine⟨_,n,_,rfl,hn,⟨hn,λi x hi=>⟨r,0,rfl,(hS.lo _<|aD ..).2,?_⟩⟩,λr' o e _=>?_⟩
  .rw[aI];refine(hS.get 0 rfl).cell ?_;rw[aP (aL.1 hi).1];exact hi
  .cases e;exact⟨hF _<|aD ..,(hS.lo _<|aD ..).2,(hS.get 0 rfl).Tn⟩
theorem GB.PT(hg:GB ty es v cs gb)(hS:SH [] H0 H<|gb++L):∃a n c,v=.slice a n c/\cs.length=n*es/\jT (H0.next<=·) ty H a n es cs:=
 hg.Nn hS λe he=>hS.zN<|bI _ he
theorem GB.all(hg:GB ty es v cs gb)(h:(ty==ty')=false):gb.all (λe=>!(e.2.1==ty'))=true:=by
 rcases hg with⟨_,_,rfl⟩|⟨r,n,dH,_,_,rfl⟩
 .rfl
 .simp at h;simp[h]
section steps
variable{S:List Nat}{r:Nat}
theorem SH.qJ(hS:SH S H0 H L)[hb:Mh L r (λcs=>splice cs o<|aX v) ty cs L'](k:∀H1,SH S H0 (hM H H1) L'->K undef H1)(hl:(aX v).length=n:=by rfl)(hn:o+n<=cs.length:=by exact ai rfl)(hk:all' dK (aX v)=true:=by rfl):ME (CS n (.pointer<|some ⟨r,o,none⟩) v<|Go.Ae.hN H) K:=by
 obtain⟨i,hi,e⟩:=hb.at';subst e;obtain⟨H1,h1,h2,hx⟩:=(SH.uY hS).yN (vs:=aX v) (o:=o) i hi aa hk;show ME (gd (Nat.beq (len<|aX v) n)<|ax ((Go.Ae.hN H).write r o<|aX v) λH'=>some (undef,H')) K;rw[dG,hl,bC,h1];refine k H1 ?_;have hm:hM H H1=hM H H1:=rfl
 exact⟨qU.later hS.ext hx.draw (λq hq=>by
  simp at hq;subst hq;exact(hS.lo _<|aA hi).1),h2.bk,λe he=>⟨(h2.lo e he).1,(h2.lo e he).2⟩,h2.ne,hx.draw.wf hS.wf⟩
end steps
theorem SH.QZ{S:List Nat}{xs:List Value}(hS:SH S H0 H L)(he:0<es)(hv:v=.slice none 0 0\/∃a,v=.slice (some a) 0 0)(hx:Fl H a n es xs)(hn:n<=16777216)(k:∀a' c' H1 L',jT (H.next<=·) ty H1 a' n es xs->SH S H0 H1 (L'++L)->K (.slice a' n c') H1):ME (Bz ty es v (.slice a n c) H) K:=by
 rw[IP hv (Al hx he) hn];split
 .next h0=>
  subst h0;have hc:xs=[]:=bK.1 (by have:=hx.1;omega);subst hc;rcases hv with rfl|⟨a,rfl⟩
  .exact k none 0 H [] (jT.nil _ _ _ _ _) hS
  .exact k (some a) 0 H [] (jT.nil _ _ _ _ _) hS
 .next h0=>
  have hb:=Bk.new H ty xs;exact k _ _ _ [(H.next,ty,xs)] ⟨hb.fl (bL _) hx.1,λr o e _=>by cases e;exact⟨aj _,bL _,hb.Tn⟩⟩<|hS.grow ty xs
theorem SH.own{S:List Nat}(hS:SH S H0 H<|M++L):SH (M.map (·.1)) H H M:=(hS.sub<|bR M L).base
theorem SH.frame{S:List Nat}(hS:SH S H0 H<|M++L)(h:SH (M.map (·.1)) H H' M'):SH S H0 H' (M'++L):=
 hS.turn h.ext (λe he=>⟨h.bk e he,h.lo e he⟩) h.ne
theorem KI(x:cz)(L:List cz):(x::(L++[])).Perm (L++[x]):=by rw[aQ];exact au (l₁:=[x])
theorem afC(x y z:cz)(L:List cz):(x::y::z::(L++[])).Perm (L++[x,y,z]):=by rw[aQ];exact au (l₁:=[x,y,z])
theorem lN{K:Prop}(h:noTwo cls=true)(k:K):gQ ops cls=true/\K:=⟨FK h,k⟩
def Np(R:List Int->Prop)(r:Nat)(ty:TypeId)(n:Nat)(H0 H:ag)(L:List cz):Prop:=∃cs vs,cs.length=n/\R cs/\SH [] H0 H ((r,ty,cs.map vi++vs)::L)
def Rn(R:List Int->Prop)(z x:Int)(cs:List Int):Prop:=R cs/\cs[z.toNat]?=some x
def Wn(R:List Int->Prop)(z x:Int)(cs:List Int):Prop:=∃c,R c/\cs=c.set z.toNat x
def Pn(c0 cs:List Int):Prop:=cs.Perm c0
class Bn (R:List Int->Prop) (c0:outParam<|List Int):Prop where
 h:∀cs,R cs->Pn c0 cs
instance Bn.s{c0:List Int}:Bn (Pn c0) c0:=⟨λ_ h=>h⟩
instance Bn.r{R:List Int->Prop}{z x:Int}{c0:List Int}[b:Bn R c0]:Bn (Rn R z x) c0:=⟨λ_ h=>b.h _ h.1⟩
theorem KJ{c:List Int}{y:Int}(hi:c[i]?=some x)(hj:c[j]?=some y):((c.set i y).set j x).Perm c:=by
 obtain⟨h1,rfl⟩:=aL.1 hi;obtain⟨h2,rfl⟩:=aL.1 hj;exact List.set_set_perm h1 h2
instance Bn.w{R:List Int->Prop}{c0:List Int}{p q x y:Int}[b:Bn R c0]:Bn (Wn (Wn (Rn (Rn R p x) q y) p y) q x) c0:=⟨λ_ ⟨_,⟨_,h,e⟩,e2⟩=>by
 subst e e2;exact(KJ h.1.2 h.2).trans<|b.h _ h.1.1⟩
instance Bn.w'{R:List Int->Prop}{c0:List Int}{p q x y:Int}[b:Bn R c0]:Bn (Wn (Wn (Rn (Rn R p x) q y) q x) p y) c0:=⟨λ_ ⟨_,⟨_,h,e⟩,e2⟩=>by
 subst e e2;exact(KJ h.2 h.1.2).trans<|b.h _ h.1.1⟩
section steps
variable{R R':List Int->Prop}{r:Nat}
theorem Np.mono(h:Np R r ty n H0 H L)(hr:∀c,c.length=n->R c->R' c):Np R' r ty n H0 H L:=by obtain⟨cs,vs,h1,h2,hS⟩:=h;exact⟨cs,vs,h1,hr _ h1 h2,hS⟩
theorem Np.bk{c0:List Int}[b:Bn R c0](h:Np R r ty n H0 H L):Np (Pn c0) r ty n H0 H L:=h.mono λc _=>b.h c
theorem Np.wf(h:Np R r ty n H0 H L):Wf H:=by obtain⟨_,_,_,_,hS⟩:=h;exact hS.wf
theorem Np.ext(h:Np R r ty n H0 H L):Ext H0 H:=by obtain⟨_,_,_,_,hS⟩:=h;exact hS.ext
theorem Np.new(h:Np R r ty n H0 H L)(k:∀H1 q,Np R r ty n H0 H1 ((q,t2,z)::L)->K (.pointer<|some ⟨q,0,none⟩) H1):ME (iI t2 z H) K:=by
 obtain⟨cs,vs,h1,h2,hS⟩:=h;exact hS.iI λH1 q hS=>k H1 q ⟨cs,vs,h1,h2,hS.perm<|List.Perm.swap _ _ _⟩
theorem Np.ld(h:Np R r ty n H0 H L)(i:Nat){q:Nat}(hi:L[i]?=some (q,t2,cs))(hv:cs[o]?=some v)(k:K v H):ME (rQ none (.pointer<|some ⟨q,o,none⟩) H) K:=by
 obtain⟨_,_,_,_,hS⟩:=h;exact hS.ld (i+1) (by rw[cK];exact hi) hv k
theorem Np.BQ(h:Np R r ty n H0 H L)(i:Nat){q:Nat}(hi:L[i]?=some (q,t2,cs))(hv:cs[o]?=some v)(k:K v<|Go.Ae.hN H):ME (rQ none (.pointer<|some ⟨q,o,none⟩)<|Go.Ae.hN H) K:=by
 obtain⟨_,_,_,_,hS⟩:=h;exact hS.BQ (i+1) (by rw[cK];exact hi) hv k
theorem Np.st(h:Np R r ty n H0 H L)(i:Nat){q:Nat}(hi:L[i]?=some (q,t2,cs))(hl:(aX v).length=m)(hn:o+m<=cs.length)(hk:all' dK (aX v)=true)(k:∀H1,Np R r ty n H0 H1 (L.set i (q,t2,splice cs o<|aX v))->K undef H1):ME (CS m (.pointer<|some ⟨q,o,none⟩) v H) K:=by
 obtain⟨ds,vs,h1,h2,hS⟩:=h;exact hS.st (i+1) (by rw[cK];exact hi) hl hn hk λH1 hS=>k H1 ⟨ds,vs,h1,h2,hS⟩
theorem Np.QW(h:Np R r ty n H0 H L)(i:Nat){q:Nat}(hi:L[i]?=some (q,t2,cs))(hl:(aX v).length=m)(hn:o+m<=cs.length)(hk:all' dK (aX v)=true)(k:∀H1,Np R r ty n H0 (hM H H1) (L.set i (q,t2,splice cs o<|aX v))->K undef H1):ME (CS m (.pointer<|some ⟨q,o,none⟩) v<|Go.Ae.hN H) K:=by
 obtain⟨ds,vs,h1,h2,hS⟩:=h;exact hS.QW (i+1) (by rw[cK];exact hi) hl hn hk λH1 hS=>k H1 ⟨ds,vs,h1,h2,hS⟩
theorem Np.drop{b:cz}(h:Np R r ty n H0 H<|b::L):Np R r ty n H0 H L:=by
 obtain⟨cs,vs,h1,h2,hS⟩:=h;exact⟨cs,vs,h1,h2,SH.drop (A:=[_])<|hS.perm<|List.Perm.swap _ _ _⟩
theorem Np.uY(h:Np R r ty n H0 H L):Np R r ty n (Go.Ae.hN H0) (Go.Ae.hN H) L:=by obtain⟨cs,vs,h1,h2,hS⟩:=h;exact⟨cs,vs,h1,h2,hS.uY⟩
theorem Np.i1N(h:Np R r ty n H0 H L)(hz:o<n)(k:∀x,Np (Rn R (o:Int) x) r ty n H0 H L->K (vi x) H):ME (rQ none (.pointer<|some ⟨r,o,none⟩) H) K:=by
 obtain⟨cs,vs,h1,h2,hS⟩:=h;have hlt:o<cs.length:=by omega
 refine hS.ld 0 rfl (v:=vi cs[o]) (by rw[aP (by rw[aC];exact hlt),aR,ae hlt];rfl)<|k _ ⟨cs,vs,h1,⟨h2,?_⟩,hS⟩;exact ae hlt
theorem Np.Yb(h:Np R r ty n H0 H L)(hz:o<n)(k:∀x,Np (Rn R (o:Int) x) r ty n H0 H L->K (vi x) (Go.Ae.hN H)):ME (rQ none (.pointer<|some ⟨r,o,none⟩)<|Go.Ae.hN H) K:=by
 obtain⟨cs,vs,h1,h2,hS⟩:=h;have hlt:o<cs.length:=by omega
 refine hS.BQ 0 rfl (v:=vi cs[o]) (by rw[aP (by rw[aC];exact hlt),aR,ae hlt];rfl)<|k _ ⟨cs,vs,h1,⟨h2,?_⟩,hS⟩;exact ae hlt
theorem E_{cs:List Int}(h:o<cs.length)(x:Int):splice (cs.map vi++vs) o [vi x]=(cs.set o x).map vi++vs:=by
 rw[<-lM vi h x];unfold splice;rw[mD (by rw[aC];omega),my (by rw[aC];show o+1<=_;omega)];simp
theorem Np.iwN(h:Np R r ty n H0 H L)(hz:o<n)(k:∀H1,Np (Wn R (o:Int) x) r ty n H0 H1 L->K undef H1):ME (CS 1 (.pointer<|some ⟨r,o,none⟩) (vi x) H) K:=by
 obtain⟨cs,vs,h1,h2,hS⟩:=h;refine hS.st 0 rfl rfl (by rw[ay,aC];omega) rfl λH1 hS=>k H1 ⟨cs.set o x,vs,by rw[bJ];exact h1,⟨cs,h2,rfl⟩,?_⟩;rw[<-E_ aa];exact hS
theorem Np.ahM(h:Np R r ty n H0 H L)(hz:o<n)(k:∀H1,Np (Wn R (o:Int) x) r ty n H0 (hM H H1) L->K undef H1):ME (CS 1 (.pointer<|some ⟨r,o,none⟩) (vi x)<|Go.Ae.hN H) K:=by
 obtain⟨cs,vs,h1,h2,hS⟩:=h;refine hS.QW 0 rfl rfl (by rw[ay,aC];omega) rfl λH1 hS=>k H1 ⟨cs.set o x,vs,by rw[bJ];exact h1,⟨cs,h2,rfl⟩,?_⟩;rw[<-E_ aa];exact hS
variable{z:Int}(h0:0<=z)(hz:z<n)
include h0 hz
theorem Np.i1(h:Np R r ty n H0 H L)(k:∀x,Np (Rn R z x) r ty n H0 H L->K (vi x) H):ME (rQ none (.pointer<|some ⟨r,z.toNat*1,none⟩) H) K:=by
 rw[bG];exact h.i1N aa λx hB=>k x<|hB.mono λ_ _ h=>h
theorem Np.CX(h:Np R r ty n H0 H L)(k:∀x,Np (Rn R z x) r ty n H0 H L->K (vi x) (Go.Ae.hN H)):ME (rQ none (.pointer<|some ⟨r,z.toNat*1,none⟩)<|Go.Ae.hN H) K:=by
 rw[bG];exact h.Yb aa λx hB=>k x<|hB.mono λ_ _ h=>h
theorem Np.iw(h:Np R r ty n H0 H L)(k:∀H1,Np (Wn R z x) r ty n H0 H1 L->K undef H1):ME (CS 1 (.pointer<|some ⟨r,z.toNat*1,none⟩) (vi x) H) K:=by
 rw[bG];exact h.iwN aa λx hB=>k x<|hB.mono λ_ _ h=>h
theorem Np.PS(h:Np R r ty n H0 H L)(k:∀H1,Np (Wn R z x) r ty n H0 (hM H H1) L->K undef H1):ME (CS 1 (.pointer<|some ⟨r,z.toNat*1,none⟩) (vi x)<|Go.Ae.hN H) K:=by
 rw[bG];exact h.ahM aa λx hB=>k x<|hB.mono λ_ _ h=>h
end steps
theorem aF{B:Prop}(h:B)(he:A=B:=by simp only[PP,Nat.reduceBEq];rfl):A:=by rw[he];exact h
section aY
variable{B:Prop}{S:List Nat}
theorem SH.aY(hS:SH S H0 H L)(h:B)(he:Wf H->A=B:=by intro w;simp only[PP,Nat.reduceBEq,eF w];rfl):A:=by rw[he hS.wf];exact h
theorem SB.aY{P:List Value->Prop}{r:Nat}(hS:SB P r ty es n H0 H L)(h:B)(he:Wf H->A=B:=by intro w;simp only[PP,Nat.reduceBEq,eF w];rfl):A:=by rw[he hS.wf];exact h
theorem Np.aY{R:List Int->Prop}{r:Nat}(hS:Np R r ty n H0 H L)(h:B)(he:Wf H->A=B:=by intro w;simp only[PP,Nat.reduceBEq,eF w];rfl):A:=by rw[he hS.wf];exact h
end aY
section bin
variable{P:Program}{a:Int}{K:Value->Prop}
theorem bE(k:K<|vi<|a+b)(h1:-9223372036854775808<=a+b:=by omega)(h2:a+b<=9223372036854775807:=by omega):PU (jb P .add t ox oy (vi a)<|vi b) K:=PU.of (dI h1 h2) k
theorem dD(k:K<|vi<|a-b)(h1:-9223372036854775808<=a-b:=by omega)(h2:a-b<=9223372036854775807:=by omega):PU (jb P .sub t ox oy (vi a)<|vi b) K:=PU.of (nM h1 h2) k
theorem FX(k:K<|vi<|a*b)(h1:-9223372036854775808<=a*b:=by omega)(h2:a*b<=9223372036854775807:=by omega):PU (jb P .mul t ox oy (vi a)<|vi b) K:=PU.of (On h1 h2) k
theorem fH{r:Nat}{z:Int}(k:K<|.pointer<|some ⟨r,o+z.toNat*es,none⟩)(h0:0<=z:=by omega)(h:z<n:=by omega):PU (zH es (.slice (some ⟨r,o,none⟩) n c)<|vi z) K:=PU.of (abp h0 h) k
end bin
theorem uN{k:Nat}:vi ((k:Int)+1)=vn (k+1):=by rw[show((k:Int)+1)=((k+1:Nat):Int) by omega]
theorem nO{q:Prop}(k:q)(h:gQ ops cls=true:=by((try simp only[cB,dn,dL<|Ext.refl<|hN _]);kernel_rfl)):gQ ops cls=true/\q:=⟨h,k⟩
theorem wS{q:Prop}(k:q)(h:noTwo cls=true:=by simp only[cB,dL<|Ext.refl<|hN _];rfl):gQ ops cls=true/\q:=lN h k
theorem splitK{q:Prop}(h:∀K:Prop,K->p/\K)(k:q):p/\q:=h q k
def q9(g:Nat->Nat)(c:Cl):Cl:=⟨c.k,g c.r,c.off,c.n,c.a,c.b⟩
def Ao(m:Nat)(c:Cl):Bool:=aU (Nat.beq c.k 3||Nat.beq c.k 4) (Nat.ble 1 c.r&&Nat.ble c.r m) true
def kill(c:Cl):Cl:=aU (Nat.beq c.k 2) ⟨2,0,0,0,hh0,hh0⟩ c
theorem Va{x:Cl}(h:g x.r=g y.r->x.r=y.r):vD (q9 g x) (q9 g y)=vD x y:=by
 unfold vD q9
 have:Nat.beq (g x.r) (g y.r)=Nat.beq x.r y.r:=by
  rw[bZ,gD,gD];exact⟨h,λe=>by rw[e]⟩
 simp only[this]
theorem KL{a b:ag}{l:Cl}(ha:a=hh0)(hn:l.n≠0):ng ⟨2,0,0,0,a,b⟩ l=false:=by
 subst ha;unfold ng sameAt;show mG (ax (ag.read hh0 l.r l.off l.n) _)=false;obtain⟨k,hk⟩:=Nat.exists_eq_succ_of_ne_zero hn;rw[hk];rfl
theorem Tp{x:Cl}(h:Ao m x=true)(hk:x.k=3\/x.k=4):1<=x.r/\x.r<=m:=by
 unfold Ao at h
 have:(Nat.beq x.k 3||Nat.beq x.k 4)=true:=by
  rcases hk with e|e<;>rw[e]<;>rfl
 rw[this]at h;replace h:(Nat.ble 1 x.r&&Nat.ble x.r m)=true:=h;rw[aG]at h;exact⟨ai h.1,ai h.2⟩
theorem yx{a b:Nat}(h:a≠b):Nat.beq a b=false:=by rw[<-aV];exactλe=>h<|aB e
theorem Yc(hg:∀i j,1<=i->i<=m->1<=j->j<=m->g i=g j->i=j){x:Cl}(hx:Ao m x=true)(hy:Ao m y=true)(b:Bool)(h:dP (kill y) (kill x) b=true):dP (q9 g y) (q9 g x) b=true:=by
 cases b with
 |true=>
  unfold dP at h|-;simp only[Bool.true_or]at h|-
  have ek:∀c:Cl,(kill c).k=c.k:=λc=>by
   unfold kill
   by_cases e:c.k=2
   .rw[e];rfl
   .rw[yx e];rfl
  rw[ek,ek]at h;show aU (Nat.beq y.k 0||Nat.beq x.k 0||Nat.beq y.k 5||Nat.beq x.k 5) true _=true;exact h
 |false=>
  by_cases hx2:x.k=2
  .have kx:kill x=⟨2,0,0,0,hh0,hh0⟩:=by unfold kill;rw[hx2];rfl
   have ky:(kill y).k=y.k:=by
    unfold kill
    by_cases e:y.k=2
    .rw[e];rfl
    .rw[yx e];rfl
   unfold dP at h|-;rw[kx]at h;simp only[ky]at h;simp only[q9,hx2];simp only[show Nat.beq 2 0=false from rfl,show Nat.beq 2 5=false from rfl,show Nat.beq 2 3=false from rfl,show Nat.beq 2 4=false from rfl,show Nat.beq 2 1=false from rfl,show Nat.beq 2 2=true from rfl,pP,pO,Bool.false_and,oP,iE,lG]at h|-
   by_cases h0:(Nat.beq y.k 0||Nat.beq y.k 5)=true
   .rw[h0];rfl
   .rw[aV]at h0;rw[h0]at h|-
    by_cases h3:y.k=3
    .rw[h3]at h;cases h
    .rw[yx h3]at h|-
     by_cases h4:y.k=4
     .have hy2:kill y=y:=by unfold kill;rw[yx aa];rfl
      rw[hy2,h4]at h;replace h:ng ⟨2,0,0,0,hh0,hh0⟩ y=true:=h
      by_cases hn:y.n=0
      .rw[h4];show ng _ _=true;unfold ng sameAt;show mG (ax (ag.read x.a (g y.r) y.off y.n) λu=>ax (ag.read x.b (g y.r) y.off y.n) λv=>gd (DK u v)<|some ())=true;rw[hn];rfl
      .rw[KL rfl hn]at h;cases h
     .rw[yx h4]at h;cases h
  .have kx:kill x=x:=by unfold kill;rw[yx hx2];rfl
   by_cases hy2:y.k=2
   .have ky:kill y=⟨2,0,0,0,hh0,hh0⟩:=by unfold kill;rw[hy2];rfl
    unfold dP at h|-;rw[ky,kx]at h;simp only[q9,hy2];simp only[show Nat.beq 2 0=false from rfl,show Nat.beq 2 5=false from rfl,show Nat.beq 2 3=false from rfl,show Nat.beq 2 4=false from rfl,show Nat.beq 2 1=false from rfl,show Nat.beq 2 2=true from rfl,pP,pO,Bool.false_and,oP,iE,lG]at h|-
    by_cases h0:(Nat.beq x.k 0||Nat.beq x.k 5)=true
    .rw[h0];rfl
    .rw[aV]at h0;rw[h0]at h|-
     by_cases h3:x.k=3
     .rw[h3]at h;cases h
     .rw[yx h3]at h|-
      by_cases h4:x.k=4
      .rw[h4]at h;replace h:ng ⟨2,0,0,0,hh0,hh0⟩ x=true:=h
       by_cases hn:x.n=0
       .rw[h4];show ng _ _=true;unfold ng sameAt;show mG (ax (ag.read y.a (g x.r) x.off x.n) λu=>ax (ag.read y.b (g x.r) x.off x.n) λv=>gd (DK u v)<|some ())=true;rw[hn];rfl
       .rw[KL rfl hn]at h;cases h
      .rw[yx h4]at h;cases h
   .have ky:kill y=y:=by unfold kill;rw[yx hy2];rfl
    rw[kx,ky]at h
    by_cases hm:(x.k=3\/x.k=4)/\(y.k=3\/y.k=4)
    .obtain⟨a1,a2⟩:=Tp hx hm.1;obtain⟨b1,b2⟩:=Tp hy hm.2;have e2:=Va (g:=g) (x:=x) (y:=y)<|hg _ _ a1 a2 b1 b2;unfold dP at h|-;rw[e2];simp only[q9,yx hx2,yx hy2,iE]at h|-;exact h
    .unfold dP at h|-;simp only[q9,yx hx2,yx hy2,iE]at h|-
     by_cases x3:x.k=3
     .have y3:y.k≠3:=λe=>hm ⟨.inl x3,.inl e⟩;have y4:y.k≠4:=λe=>hm ⟨.inl x3,.inr e⟩;rw[yx y3,yx y4]at h|-;exact h
     .by_cases x4:x.k=4
      .have y3:y.k≠3:=λe=>hm ⟨.inr x4,.inl e⟩;have y4:y.k≠4:=λe=>hm ⟨.inr x4,.inr e⟩;rw[yx y3,yx y4]at h|-;exact h
      .rw[yx x3,yx x4]at h|-;exact h
theorem Ap{a:Bool}{b:Bool}(h:aU a b false=true):a=true/\b=true:=by
 cases a with
 |true=>exact⟨rfl,h⟩
 |false=>cases h
theorem IV(hg:∀i j,1<=i->i<=m->1<=j->j<=m->g i=g j->i=j):∀(ms:List Nat)(l:List Cl),(∀c∈l,Ao m c=true)->pairs dP ms (l.map kill)=true->pairs dP ms (l.map<|q9 g)=true:=by
 have row:∀(x:Cl)(k:Nat)(l:List Cl),Ao m x=true->(∀c∈l,Ao m c=true)->iB dP (kill x) k (l.map kill)=true->iB dP (q9 g x) k (l.map<|q9 g)=true:=by
  intro x k l hx
  induction l with
  |nil=>intro _ _;rfl
  |cons y l ih=>
   intro h h1;replace h1:aU (dP (kill x) (kill y)<|d_ k<|len<|l.map kill) (iB dP (kill x) k<|l.map kill) false=true:=h1;obtain⟨h2,h3⟩:=Ap h1;show aU (dP (q9 g x) (q9 g y)<|d_ k<|len<|l.map<|q9 g) (iB dP (q9 g x) k<|l.map<|q9 g) false=true;rw[dG,aC]at h2|-;rw[Yc hg (h y<|aD ..) hx _ h2,ih (λc hc=>h c<|aT _ hc) h3];rfl
 intro ms
 induction ms with
 |nil=>intro l _ _;rfl
 |cons k ms ih=>
  intro l h h1;cases l with
  |nil=>rfl
  |cons x l=>
   replace h1:aU (iB dP (kill x) k<|l.map kill) (pairs dP ms<|l.map kill) false=true:=h1;obtain⟨h2,h3⟩:=Ap h1;show aU (iB dP (q9 g x) k<|l.map<|q9 g) (pairs dP ms<|l.map<|q9 g) false=true;rw[row x k l (h x<|aD ..) (λc hc=>h c<|aT _ hc) h2,ih l (λc hc=>h c<|aT _ hc) h3];rfl
theorem Aq(hg:∀i j,1<=i->i<=m->1<=j->j<=m->g i=g j->i=j){l:List Cl}(hl:all' (Ao m) l=true)(h:gQ ops (l.map kill)=true):gQ ops (l.map<|q9 g)=true:=by
 rw[all_eq,bU]at hl
 have e:noTwo (l.map<|q9 g)=noTwo (l.map kill):=by
  unfold noTwo;rw[all_eq,all_eq,List.all_map,List.all_map];congr 1;funext c;show(!(Nat.beq c.k 2||Nat.beq c.k 3))=(!(Nat.beq (kill c).k 2||Nat.beq (kill c).k 3));unfold kill
  by_cases e:c.k=2
  .rw[e];rfl
  .rw[yx e];rw[iE,yx e]
 unfold gQ at h|-;rw[e]
 by_cases h2:noTwo (l.map kill)=true
 .rw[h2];rfl
 .rw[aV]at h2;rw[h2]at h|-;exact IV hg _ l hl h
def g3(a b c d:Nat):Nat->Nat
 |1=>a
 |2=>b
 |3=>c
 |4=>d
 |_=>0
theorem q_{C:Nat->Nat->List Cl}{a b:Nat}{K:Prop}(hab:a≠b)(hC:∀a b,C a b=(C 1 2).map (q9<|g3 a b 0 0))(hk:all' (Ao 2) (C 1 2)=true)(h:gQ ops ((C 1 2).map kill)=true)(k:K):gQ ops (C a b)=true/\K:=by
 refine⟨?_,k⟩;rw[hC];refine Aq (m:=2) (λi j h1 h2 h3 h4 e=>?_) hk h;have hi:i=1\/i=2:=by omega
 have hj:j=1\/j=2:=by omega
 rcases hi with rfl|rfl<;>rcases hj with rfl|rfl<;>first|rfl|exact absurd e hab|exact absurd e.symm hab
theorem Ar{a b:Nat}{K:Prop}(hab:a≠b)(hac:a≠c)(hbc:b≠c)(hC:∀a b c,C a b c=(C 1 2 3).map (q9<|g3 a b c 0))(hk:all' (Ao 3) (C 1 2 3)=true)(h:gQ ops ((C 1 2 3).map kill)=true)(k:K):gQ ops (C a b c)=true/\K:=by
 refine⟨?_,k⟩;rw[hC];refine Aq (m:=3) (λi j h1 h2 h3 h4 e=>?_) hk h;have hi:i=1\/i=2\/i=3:=by omega
 have hj:j=1\/j=2\/j=3:=by omega
 rcases hi with rfl|rfl|rfl<;>rcases hj with rfl|rfl|rfl<;>first|rfl|exact absurd e hab|exact absurd e.symm hab|exact absurd e hac|exact absurd e.symm hac|exact absurd e hbc|exact absurd e.symm hbc
theorem ad7{C:Nat->Nat->Nat->Nat->List Cl}{a b d:Nat}{K:Prop}(hab:a≠b)(hac:a≠c)(had:a≠d)(hbc:b≠c)(hbd:b≠d)(hcd:c≠d)(hC:∀a b c d,C a b c d=(C 1 2 3 4).map (q9<|g3 a b c d))(hk:all' (Ao 4) (C 1 2 3 4)=true)(h:gQ ops ((C 1 2 3 4).map kill)=true)(k:K):gQ ops (C a b c d)=true/\K:=by
 refine⟨?_,k⟩;rw[hC];refine Aq (m:=4) (λi j h1 h2 h3 h4 e=>?_) hk h;have hi:i=1\/i=2\/i=3\/i=4:=by omega
 have hj:j=1\/j=2\/j=3\/j=4:=by omega
 rcases hi with rfl|rfl|rfl|rfl<;>rcases hj with rfl|rfl|rfl|rfl<;>first|rfl|exact absurd e hab|exact absurd e.symm hab|exact absurd e hac|exact absurd e.symm hac|exact absurd e had|exact absurd e.symm had|exact absurd e hbc|exact absurd e.symm hbc|exact absurd e hbd|exact absurd e.symm hbd|exact absurd e hcd|exact absurd e.symm hcd
theorem IW{C:Nat->List Cl}{a:Nat}{K:Prop}(hC:∀a,C a=(C 1).map (q9<|g3 a 0 0 0))(hk:all' (Ao 1) (C 1)=true)(h:gQ ops ((C 1).map kill)=true)(k:K):gQ ops (C a)=true/\K:=by
 refine⟨?_,k⟩;rw[hC];refine Aq (m:=1) (λi j h1 h2 h3 h4 e=>?_) hk h;omega
theorem yR(H H':ag):E7 H H'=cl 1\/E7 H H'=⟨2,0,0,0,H,H'⟩:=by
 show aU (Nat.ble H.next H'.low) _ _=_\/aU (Nat.ble H.next H'.low) _ _=_;cases Nat.ble H.next H'.low with
 |true=>exact .inl rfl
 |false=>exact .inr rfl
theorem SH.Yd{S:List Nat}(hS:SH S H0 H<|M++L)(h:SH (M.map (·.1)) (Go.Ae.hN H) H' M'):SH S H0 (hM H H') (M'++L):=
 hS.turn h.ext.draw (λe he=>⟨h.bk e he,h.lo e he⟩) h.ne
theorem SH.apart{S:List Nat}{A B:List cz}(hS:SH S H0 H<|A++B){x y:cz}(hx:x∈A)(hy:y∈B):x.1≠y.1:=(ko.1 hS.ne).2.2 x hx y hy
theorem jT.one{S:List Nat}{F:Nat->Prop}{r:Nat}(hS:SH S H0 H L)(hm:((r,ty,cs):cz)∈L)(hn:cs.length=n*es)(hF:F r):jT F ty H (some ⟨r,0,none⟩) n es cs:=
 ⟨(hS.bk _ hm).fl (hS.lo _ hm).2 hn,λr' o e _=>by cases e;exact⟨hF,(hS.lo _ hm).2,(hS.bk _ hm).Tn⟩⟩
theorem SH.nq{S:List Nat}(hS:SH S H0 H L)(i j:Nat){r r':Nat}{x y:List Value}(hi:L[i]?=some (r,t,x))(hj:L[j]?=some (r',t',y))(hij:i<j):r≠r':=by
 obtain⟨h1,e1⟩:=aL.1 hi;obtain⟨h2,e2⟩:=aL.1 hj;have:=kG.1 hS.ne i j h1 h2 hij;rw[e1,e2]at this;exact this
theorem SH.neq{S:List Nat}(hS:SH S H0 H L)(i j:Nat){x y:cz}(hi:L[i]?=some x)(hj:L[j]?=some y)(hij:i<j):x.1≠y.1:=by
 obtain⟨h1,rfl⟩:=aL.1 hi;obtain⟨h2,rfl⟩:=aL.1 hj;exact kG.1 hS.ne i j h1 h2 hij
def KN(ty:TypeId)(es:Nat):List (List Value)->List Value->List cz->Prop
 |[],[],R=>R=[]
 |ks::EB,v::vs,R=>∃gb R',R=gb++R'/\GB ty es v ks gb/\KN ty es EB vs R'
 |_,_,_=>False
theorem KN.len:∀{EB:List (List Value)}{vs:List Value}{R:List cz},KN ty es EB vs R->EB.length=vs.length
 |[],[],R,h=>rfl
 |ks::EB,v::vs,R,⟨gb,R',_,_,h⟩=>bW Nat.succ h.len
 |[],v::vs,R,h=>h.elim
 |ks::EB,[],R,h=>h.elim
theorem KN.Ye:∀n,KN ty es (List.replicate n []) (List.replicate n<|.slice none 0 0) []
 |0=>rfl
 |n+1=>⟨[],[],rfl,GB.nil _ _,KN.Ye n⟩
theorem KN.at:∀{EB:List (List Value)}{vs:List Value}{R:List cz}(i:Nat),KN ty es EB vs R->(h:i<vs.length)->∃A gb B,R=A++(gb++B)/\GB ty es vs[i] (EB[i]?.getD []) gb/\
 ∀v' ks' gY,GB ty es v' ks' gY->KN ty es (EB.set i ks') (vs.set i v') (A++(gY++B))
 |ks::EB,v::vs,R,0,h,_=>by
  obtain⟨gb,R',rfl,h1,h4⟩:=h;exact⟨[],gb,R',rfl,h1,λv' ks' gY g1=>⟨gY,R',rfl,g1,h4⟩⟩
 |ks::EB,v::vs,R,i+1,h,hi=>by
  obtain⟨gb,R',rfl,h1,h4⟩:=h;obtain⟨A,gb2,B,rfl,g1,g4⟩:=KN.at i h4 (by simpa using hi);refine⟨gb++A,gb2,B,by rw[bg],g1,λv' ks' gY k1=>?_⟩;exact⟨gb,A++(gY++B),by rw[bg],h1,g4 v' ks' gY k1⟩
 |[],[],R,i,h,hi=>absurd hi (by simp)
 |[],v::vs,R,i,h,hi=>h.elim
 |ks::EB,[],R,i,h,hi=>h.elim
theorem KN.snoc:∀{EB:List (List Value)}{vs:List Value}{R gb:List cz}{ks:List Value}{v:Value},KN ty es EB vs R->GB ty es v ks gb->KN ty es (EB++[ks]) (vs++[v]) (R++gb)
 |[],[],R,gb,ks,v,h,hg=>by
  subst h;exact⟨gb,[],by simp,hg,rfl⟩
 |k::EB,w::vs,R,gb,ks,v,⟨gb0,R',h1,h2,h3⟩,hg=>⟨gb0,R'++gb,by rw[h1,bg],h2,h3.snoc hg⟩
 |[],v::vs,R,gb,ks,w,h,hg=>h.elim
 |ks::EB,[],R,gb,k,v,h,hg=>h.elim
theorem KN.all{S:List Nat}:∀{EB:List (List Value)}{vs:List Value}{R L:List cz},KN ty es EB vs R->SH S H0 H (R++L)->∀i(h:i<vs.length),∃a n c,vs[i]=.slice a n c/\(EB[i]?.getD []).length=n*es/\jT (λr=>r∈R.map (·.1)) ty H a n es (EB[i]?.getD [])
 |[],[],R,L,h,hS=>λi hi=>absurd hi (by simp)
 |ks::EB,v::vs,R,L,⟨gb,R',h1,h2,h4⟩,hS=>by
  subst h1;rw[bg]at hS;intro i hi;cases i with
  |zero=>
   obtain⟨a,n,c,e,hl,hf⟩:=h2.Nn (F:=λr=>r∈(gb++R').map (·.1)) hS λe he=>aZ.2 ⟨e,bI _ he,rfl⟩;exact⟨a,n,c,e,hl,hf⟩
  |succ i=>
   obtain⟨a,n,c,e,hl,hf⟩:=KN.all h4 (SH.drop hS) i (by simpa using hi);refine⟨a,n,c,e,hl,hf.wk λr hr=>?_⟩;obtain⟨e,he,rfl⟩:=aZ.1 hr;exact aZ.2 ⟨e,bD _ he,rfl⟩
 |[],v::vs,R,L,h,hS=>h.elim
 |ks::EB,[],R,L,h,hS=>h.elim
section
variable{S:List Nat}{r k:Nat}
theorem Ee(h:k<n):zH 1 (.slice (some ⟨r,o,none⟩) n c) (vn k)=some (.pointer<|some ⟨r,o+k,none⟩):=by rw[uB h,bG]
theorem Tq(hi:i<cs.length):splice cs i [v]=cs.set i v:=by
 apply eP;intro j;rw[mU (by show i+1<=_;omega),bV]
 by_cases h:i<=j/\j<i+[v].length
 .have:i=j:=by have:=h.2;simp at this;omega
  subst this;rw[if_pos h,if_pos rfl,if_pos hi,dY];rfl
 .rw[if_neg h,if_neg λe=>h (by subst e;simp)]
theorem SH.ix{K:Value->Value->ag->Prop}(hS:SH S H0 H L)[hb:IU L r ty cs](hk:k<n)(hv:cs[k]?=some v)(kk:∀p,K p v H):
 PU (zH 1 (.slice (some ⟨r,0,none⟩) n c)<|vn k) λp=>ME (rQ none p H) (K p):=by
 obtain⟨i,hi⟩:=hb.at';refine PU.of (Ee hk) ?_;rw[aI];exact hS.ld i hi hv<|kk _
theorem SH.ixS{K:Value->Value->ag->Prop}(hS:SH S H0 H L)[hb:Mh L r (λcs=>cs.set k v) ty cs L'](hk:k<n)(hl:k<cs.length)(hc:aX v=[v]:=by rfl)(ho:dK v=true:=by rfl)(kk:∀p H1,SH S H0 H1 L'->K p undef H1):
 PU (zH 1 (.slice (some ⟨r,0,none⟩) n c)<|vn k) λp=>ME (CS 1 p v H) (K p):=by
 obtain⟨i,hi,e⟩:=hb.at';refine PU.of (Ee hk) ?_;rw[aI];refine hS.st i hi (by rw[hc];rfl) aa (by rw[hc];show aU (dK v) _ _=_;rw[ho];rfl) λH1 h=>kk _ H1 ?_;rw[e];rw[hc,Tq hl]at h;exact h
theorem jT.ix{F:Nat->Prop}{K:Value->Value->ag->Prop}(h:jT F ty H a n 1 cs)(hk:k<n)(hv:cs[k]?=some v)(kk:∀p,K p v H):
 PU (zH 1 (.slice a n c)<|vn k) λp=>ME (rQ none p H) (K p):=by
 obtain⟨r,o,h1,h2,h3,_⟩:=h.1.idx (c:=c) (bL 0) hk;refine PU.of h1 ?_;refine ME.ld ?_<|kk _;have:=h3 0 v (bL 0) (by rw[bG,bn];exact hv);exact this
theorem jT.ixN{F:Nat->Prop}{K:Value->Value->ag->Prop}(h:jT F ty H a n es cs)(he:0<es)(hk:k<n){l:List Value}(hl:El cs es k=l)(kk:∀p,K p (.agg ⟨l⟩) H):
 PU (zH es (.slice a n c)<|vn k) λp=>ME (rQ (some es) p H) (K p):=by
 obtain⟨r,o,h1,h2,h3,_⟩:=h.1.idx (c:=c) he hk;refine PU.of h1 ?_
 have hlen:k*es+es<=cs.length:=by
  have:(k+1)*es<=n*es:=b_ es hk;rw[dN]at this;have:=h.1.1;omega
 refine ME.CU ?_<|kk _;obtain⟨v0,hv0⟩:∃v0,cs[k*es]?=some v0:=⟨_,ae aa⟩;rw[<-hl]
 have hn:∀m,m<=es->H.read r o m=some ((cs.drop<|k*es).take m):=by
  intro m hm
  have key:∀i,i<m->H.cell r (o+i)=cs[k*es+i]?:=λi hi=>by
   have:k*es+i<cs.length:=by omega
   rw[ae this];exact h3 i _ aa<|ae this
  cases m with
  |zero=>show some []=_;simp
  |succ m=>
   obtain⟨R,hR⟩:∃R,H.obj r=.row R:=by
    have h0:=key m aa;rw[ae aa]at h0;unfold ag.cell at h0;cases hr:H.obj r with
    |row R=>exact⟨R,rfl⟩
    |_=>rw[hr]at h0;cases h0
   have cl:∀i,i<m+1->o+i<R.n/\some (R.cells.get top<|o+i)=cs[k*es+i]?:=λi hi=>by
    have h0:=key i hi;rw[ae aa]at h0;unfold ag.cell at h0;rw[hR]at h0;have h0:gd (Nat.ble (Nat.succ<|o+i) R.n) (some<|R.cells.get top<|o+i)=_:=h0;cases hb:Nat.ble (Nat.succ<|o+i) R.n with
    |false=>rw[hb]at h0;cases h0
    |true=>
     rw[hb]at h0;refine⟨ai hb,?_⟩;rw[ae aa];exact h0
   show(ax (rX<|H.obj r) λw=>gd (Nat.ble (Nat.add o<|m+1) w.n)<|some<|Tr.Cu top w.cells o<|m+1)=_;rw[hR];show gd (Nat.ble (Nat.add o<|m+1) R.n) (some<|Tr.Cu top R.cells o<|m+1)=_;rw[av (show Nat.add o (m+1)<=R.n from(cl m aa).1)];refine bW some ?_
   have gen:∀j p,(∀i,i<j->some (R.cells.get top<|o+p+i)=cs[k*es+p+i]?)->Tr.Cu top R.cells (o+p) j=(cs.drop<|k*es+p).take j:=by
    intro j
    induction j with
    |zero=>intro p _;rw[Tr.zP];simp
    |succ j ih=>
     intro p hp;have h0:=hp 0 aa;rw[bn,bn]at h0;obtain⟨hl0,e0⟩:=aL.1 h0.symm
     rw[Tr.uQ,show o+p+1=o+(p+1) by omega,ih (p+1) (λi hi=>by
      have:=hp (i+1) aa;rw[show o+(p+1)+i=o+p+(i+1) by omega,show k*es+(p+1)+i=k*es+p+(i+1) by omega];exact this),fA hl0,nW,e0]
     rfl
   have:=gen (m+1) 0 (λi hi=>by rw[bn,bn];exact(cl i hi).2);exact this
 exact hn es<|aj _
theorem SH.ns{K:Value->Value->ag->Prop}(hS:SH S H0 H L)(hl:(aX v).length=m)(hz:z.length=m)(hk:all' dK (aX v)=true)(kk:∀H2 r,SH S H0 H2 ((r,ty,aX v)::L)->Ext H H2->K (.pointer<|some ⟨r,0,none⟩) undef H2):ME (Go.Ae.iI ty z H) λp H1=>ME (Go.Ae.CS m p v H1) λu H2=>K p u H2:=by
 have hO:=SH.refl hS.wf;refine hO.iI λH1 r hO=>?_;refine hO.st 0 rfl hl aa hk λH2 hO=>?_;have hO:SH [] H H2 [(r,ty,splice z 0<|aX v)]:=hO;rw[sF _ _ aa]at hO;exact kk H2 r (SH.frame (M:=[]) (L:=L) hS hO) hO.ext
theorem mI(P M L:List cz):(P++(M++L)).Perm (M++(P++L)):=by
 rw[<-bg,<-bg];exact l_ _ au
theorem SH.nD(hS:SH S H0 H L)(k:∀H1 r,SH S H0 (hM H H1) ((r,e,z)::L)->S8 H H1=cl 5->K (.pointer<|some ⟨r,0,none⟩) H1):ME (Go.Ae.iI e z<|Go.Ae.hN H) K:=
 ME.of rfl (k _ _ (hS.FL e z)<|D5<|Ext.new _ _)
theorem GB.push{x:List Value}{w:Value}{xs:List Value}{K:Value->Value->ag->Prop}(hg:GB ty es v xs gb)(hS:SH S H0 H<|gb++L)(he:0<es)(hz:z.length=es)(hw:aX w=x)(hx:x.length=es)(ht:rY w=true)(hok:all' Go.Ae.dK x=true)(hb:es<=16777216)(hc:xs.length<=16777216)(kk:∀q v' H' gY,GB ty es v' (xs++x) gY->SH S H0 H' (gY++L)->K q v' H'):ME (bS ty z es 1 [(0,w)] H) λq H1=>ME (Bz ty es v q H1) (K q):=by
 refine hS.bS hz ht (by rw[hw];exact hx) hb λH1 rx hS1=>?_;rw[hw]at hS1;obtain⟨v',H6,gY,e1,hg',wB,_⟩:=hg.app (m:=0) (cx:=1) hS1 he aa hok aa hc;exact ME.of e1<|kk _ v' H6 gY hg' wB
end
def g7(c:Cl):Cl:=aU (Nat.beq c.k 2) ⟨7,0,0,0,hh0,hh0⟩ c
theorem Yf{c:Cl}(h:c.k=2):g7 c=⟨7,0,0,0,hh0,hh0⟩:=by unfold g7;rw[h];rfl
theorem Yg{c:Cl}(h:c.k≠2):g7 c=c:=by unfold g7;rw[yx h];rfl
theorem IX{x:Cl}{b:Bool}(h:dP (g7 y) (g7 x) b=true)(hx:y.k=2->x.k=4->ng y x=true)(hy:x.k=2->y.k=4->ng x y=true):dP y x b=true:=by
 by_cases y2:y.k=2
 .rw[Yf y2]at h
  by_cases x2:x.k=2
  .rw[Yf x2]at h;unfold dP;rw[y2,x2];exact h
  .rw[Yg x2]at h;unfold dP at h|-;rw[y2]
   by_cases x0:x.k=0
   .rw[x0];rfl
   by_cases x5:x.k=5
   .rw[x5];rfl
   by_cases x3:x.k=3
   .rw[x3]at h;cases h
   by_cases x4:x.k=4
   .have:=hx y2 x4;rw[x4];show(b||ng y x)=true;rw[this];cases b<;>rfl
   .rw[yx x0,yx x5,yx x3,yx x4]at h|-;have h:aU (Nat.beq x.k 1&&false) true b=true:=h;show aU (Nat.beq x.k 1&&false) true b=true;exact h
 .rw[Yg y2]at h
  by_cases x2:x.k=2
  .rw[Yf x2]at h;unfold dP at h|-;rw[x2]
   by_cases y0:y.k=0
   .rw[y0];rfl
   by_cases y5:y.k=5
   .rw[y5];rfl
   by_cases y3:y.k=3
   .rw[y3]at h|-;exact h
   by_cases y4:y.k=4
   .have:=hy x2 y4;rw[y4];show(b||ng x y)=true;rw[this];cases b<;>rfl
   .rw[yx y0,yx y5,yx y3,yx y4]at h|-;exact h
  .rw[Yg x2]at h;exact h
def C4{α:Type}(p:α->Prop):List α->Prop
 |[]=>True
 |x::l=>p x/\C4 p l
theorem C4.mem{p:α->Prop}:∀{l:List α},C4 p l->∀x∈l,p x
 |y::l,h,x,hx=>by
  rcases bP.1 hx with rfl|hx
  .exact h.1
  .exact C4.mem h.2 x hx
def RdA(A B:ag)(c:Cl):Prop:=(c.k=2->c.a=A/\c.b=B)/\(c.k=4->ng ⟨2,0,0,0,A,B⟩ c=true)
theorem RdA.rd{A B:ag}{x:Cl}(hx:RdA A B x)(hy:RdA A B y)(h2:y.k=2)(h4:x.k=4):ng y x=true:=by
 obtain⟨e1,e2⟩:=hy.1 h2;have:=hx.2 h4;unfold ng at this|-;rw[e1,e2];exact this
theorem Yh{A B:ag}:∀(ms:List Nat)(l:List Cl),C4 (RdA A B) l->pairs dP ms (l.map g7)=true->pairs dP ms l=true:=by
 have row:∀(x:Cl)(k:Nat)(l:List Cl),RdA A B x->C4 (RdA A B) l->iB dP (g7 x) k (l.map g7)=true->iB dP x k l=true:=by
  intro x k l hx
  induction l with
  |nil=>intro _ _;rfl
  |cons y l ih=>
   intro h h1;replace h1:aU (dP (g7 x) (g7 y)<|d_ k<|len<|l.map g7) (iB dP (g7 x) k<|l.map g7) false=true:=h1;obtain⟨h2,h3⟩:=Ap h1;show aU (dP x y<|d_ k<|len l) (iB dP x k l) false=true;rw[dG,aC]at h2;rw[dG,IX h2 (λa b=>h.1.rd hx a b) λa b=>hx.rd h.1 a b,ih h.2 h3];rfl
 intro ms
 induction ms with
 |nil=>intro l _ _;rfl
 |cons k ms ih=>
  intro l h h1;cases l with
  |nil=>rfl
  |cons x l=>
   replace h1:aU (iB dP (g7 x) k<|l.map g7) (pairs dP ms<|l.map g7) false=true:=h1;obtain⟨h2,h3⟩:=Ap h1;show aU (iB dP x k l) (pairs dP ms l) false=true;rw[row x k l h.1 h.2 h2,ih l h.2 h3];rfl
theorem Tt(l:List Cl):(l.map g7).map kill=l.map g7:=by
 rw[vw];apply nV;intro c _;show kill (g7 c)=g7 c
 by_cases h:c.k=2
 .rw[Yf h];rfl
 .rw[Yg h];unfold kill;rw[yx h];rfl
theorem Yi{l:List Cl}{A B:ag}(hg:∀i j,1<=i->i<=m->1<=j->j<=m->g i=g j->i=j)(hC:l.map g7=(l1.map g7).map (q9 g))(hk:all' (Ao m) (l1.map g7)=true)(h:pairs dP (qc ops.toList [] 0) (l1.map g7)=true)(hr:C4 (RdA A B) l):gQ ops l=true:=by
 unfold gQ
 have:pairs dP (qc ops.toList [] 0) l=true:=by
  refine Yh (A:=A) (B:=B) _ l hr ?_;rw[hC];rw[all_eq,bU]at hk;refine IV hg _ _ hk ?_;rw[Tt];exact h
 rw[this];cases noTwo l<;>rfl
theorem Tu{C:Nat->Nat->List Cl}{a b:Nat}{A B:ag}{K:Prop}(hab:a≠b)(hC:(C a b).map g7=((C 1 2).map g7).map (q9<|g3 a b 0 0))(hk:all' (Ao 2) ((C 1 2).map g7)=true)(h:pairs dP (qc ops.toList [] 0) ((C 1 2).map g7)=true)(k:K)(hr:C4 (RdA A B)<|C a b):gQ ops (C a b)=true/\K:=by
 refine⟨Yi (m:=2) (λi j h1 h2 h3 h4 e=>?_) hC hk h hr,k⟩;have hi:i=1\/i=2:=by omega
 have hj:j=1\/j=2:=by omega
 rcases hi with rfl|rfl<;>rcases hj with rfl|rfl<;>first|rfl|exact absurd e hab|exact absurd e.symm hab
theorem abt{a b:Nat}{A B:ag}{K:Prop}(hab:a≠b)(hac:a≠c)(hbc:b≠c)(hC:(C a b c).map g7=((C 1 2 3).map g7).map (q9<|g3 a b c 0))(hk:all' (Ao 3) ((C 1 2 3).map g7)=true)(h:pairs dP (qc ops.toList [] 0) ((C 1 2 3).map g7)=true)(k:K)(hr:C4 (RdA A B)<|C a b c):gQ ops (C a b c)=true/\K:=by
 refine⟨Yi (m:=3) (λi j h1 h2 h3 h4 e=>?_) hC hk h hr,k⟩;have hi:i=1\/i=2\/i=3:=by omega
 have hj:j=1\/j=2\/j=3:=by omega
 rcases hi with rfl|rfl|rfl<;>rcases hj with rfl|rfl|rfl<;>first|rfl|exact absurd e hab|exact absurd e.symm hab|exact absurd e hac|exact absurd e.symm hac|exact absurd e hbc|exact absurd e.symm hbc
theorem uD(k:IntKind)(n:Int):lX (.int k n) (.int k n)=true:=by
 have h:Wy (.int k n) (.int k n)=true:=by
  show mG (gd (Nat.beq (mW k) (mW k)&&Nv n n)<|some ())=true;rw[yO,Mc,aS rfl];rfl
 unfold lX CB xO;rw[h];rfl
theorem qK(a:Option Addr)(n c:Nat)(h:∀x,a=some x->x.spot=none):lX (.slice a n c) (.slice a n c)=true:=by
 have h1:GQ a a=true:=by
  cases a with
  |none=>rfl
  |some x=>
   show addrEq x x=true;unfold addrEq;rw[h x rfl,bC,bC];rfl
 have h2:aci (.slice a n c) (.slice a n c)=true:=by
  show mG (gd (GQ a a&&Nat.beq n n&&Nat.beq c c)<|some ())=true;rw[h1,bC,bC];rfl
 unfold lX CB xO;rw[h2];cases Wy (.slice a n c) (.slice a n c)<;>cases Wx (.slice a n c) (.slice a n c)<;>rfl
theorem wC:∀{l:List Value},(∀v∈l,lX v v=true)->DK l l=true
 |[],_=>rfl
 |x::l,h=>by
  show aU (lX x x) (DK l l) false=true;rw[h x (aD ..),wC λv hv=>h v<|aT _ hv];rfl
theorem xB{A B:ag}{r:Nat}{a b:ag}(hA:Bk A r ty cs)(hB:Bk B r ty cs)(hn:o+n<=cs.length)(hs:∀v∈(cs.drop o).take n,lX v v=true):ng ⟨2,0,0,0,A,B⟩ ⟨4,r,o,n,a,b⟩=true:=
 x_ (hA.read hn) (hB.read hn) (wC hs)
def g8(c:Cl):Cl:=⟨aU (Nat.beq c.k 2) 7 c.k,0,0,0,hh0,hh0⟩
def RdT(T:Cl->Prop)(c:Cl):Prop:=(c.k=2->T c)/\(c.k=4->∀w,T w->ng w c=true)
theorem Yj{x:Cl}{b:Bool}(x3:x.k≠3)(y3:y.k≠3)(h:dP (g8 y) (g8 x) b=true)(hx:y.k=2->x.k=4->ng y x=true)(hy:x.k=2->y.k=4->ng x y=true):dP y x b=true:=by
 refine IX ?_ hx hy
 have e:∀c:Cl,c.k≠3->(g7 c).k=(g8 c).k/\(g7 c).k≠3/\(g7 c).k≠2:=λc hc=>by
  by_cases h2:c.k=2
  .rw[Yf h2];unfold g8;rw[h2];exact⟨rfl,by decide,by decide⟩
  .rw[Yg h2];unfold g8;rw[yx h2];exact⟨rfl,hc,h2⟩
 obtain⟨e1,e2,e3⟩:=e x x3;obtain⟨f1,f2,f3⟩:=e y y3;have g1:(g8 x).k≠3:=by rw[<-e1];exact e2
 have g2:(g8 y).k≠3:=by rw[<-f1];exact f2
 have g3:(g8 x).k≠2:=by rw[<-e1];exact e3
 have g4:(g8 y).k≠2:=by rw[<-f1];exact f3
 unfold dP at h|-;rw[yx g1,yx g2,yx g3,yx g4]at h;rw[yx e2,yx f2,yx e3,yx f3,e1,f1];exact h
theorem Yk:∀(ms:List Nat)(l:List Cl),C4 (RdT T) l->(∀c∈l,c.k≠3)->pairs dP ms (l.map g8)=true->pairs dP ms l=true:=by
 have row:∀(x:Cl)(k:Nat)(l:List Cl),RdT T x->x.k≠3->C4 (RdT T) l->(∀c∈l,c.k≠3)->iB dP (g8 x) k (l.map g8)=true->iB dP x k l=true:=by
  intro x k l hx hx3
  induction l with
  |nil=>intro _ _ _;rfl
  |cons y l ih=>
   intro h h3 h1;replace h1:aU (dP (g8 x) (g8 y)<|d_ k<|len<|l.map g8) (iB dP (g8 x) k<|l.map g8) false=true:=h1;obtain⟨h2,h4⟩:=Ap h1;show aU (dP x y<|d_ k<|len l) (iB dP x k l) false=true;rw[dG,aC]at h2;rw[dG,Yj (h3 y<|aD ..) hx3 h2 (λa b=>h.1.2 b x<|hx.1 a) λa b=>hx.2 b y<|h.1.1 a,ih h.2 (λc hc=>h3 c<|aT _ hc) h4];rfl
 intro ms
 induction ms with
 |nil=>intro l _ _ _;rfl
 |cons k ms ih=>
  intro l h h3 h1;cases l with
  |nil=>rfl
  |cons x l=>
   replace h1:aU (iB dP (g8 x) k<|l.map g8) (pairs dP ms<|l.map g8) false=true:=h1;obtain⟨h2,h4⟩:=Ap h1;show aU (iB dP x k l) (pairs dP ms l) false=true;rw[row x k l h.1 (h3 x<|aD ..) h.2 (λc hc=>h3 c<|aT _ hc) h2,ih l h.2 (λc hc=>h3 c<|aT _ hc) h4];rfl
theorem C5{l:List Cl}{K:Prop}(h3:all' (λc=>!(Nat.beq c.k 3)) (l.map g8)=true)(h:pairs dP (qc ops.toList [] 0) (l.map g8)=true)(k:K)(hr:C4 (RdT T) l):gQ ops l=true/\K:=by
 refine⟨?_,k⟩;unfold gQ
 have:pairs dP (qc ops.toList [] 0) l=true:=by
  refine Yk _ l hr (λc hc e=>?_) h;rw[all_eq,bU]at h3;have:=h3 (g8 c)<|List.mem_map_of_mem hc;unfold g8 at this;rw[e]at this;cases this
 rw[this];cases noTwo l<;>rfl
theorem Vb:∀(ms:List Nat)(l:List Cl),C4 (RdT T) l->pairs dP ms (l.map g7)=true->pairs dP ms l=true:=by
 have row:∀(x:Cl)(k:Nat)(l:List Cl),RdT T x->C4 (RdT T) l->iB dP (g7 x) k (l.map g7)=true->iB dP x k l=true:=by
  intro x k l hx
  induction l with
  |nil=>intro _ _;rfl
  |cons y l ih=>
   intro h h1;replace h1:aU (dP (g7 x) (g7 y)<|d_ k<|len<|l.map g7) (iB dP (g7 x) k<|l.map g7) false=true:=h1;obtain⟨h2,h3⟩:=Ap h1;show aU (dP x y<|d_ k<|len l) (iB dP x k l) false=true;rw[dG,aC]at h2;rw[dG,IX h2 (λa b=>h.1.2 b x<|hx.1 a) λa b=>hx.2 b y<|h.1.1 a,ih h.2 h3];rfl
 intro ms
 induction ms with
 |nil=>intro l _ _;rfl
 |cons k ms ih=>
  intro l h h1;cases l with
  |nil=>rfl
  |cons x l=>
   replace h1:aU (iB dP (g7 x) k<|l.map g7) (pairs dP ms<|l.map g7) false=true:=h1;obtain⟨h2,h3⟩:=Ap h1;show aU (iB dP x k l) (pairs dP ms l) false=true;rw[row x k l h.1 h.2 h2,ih l h.2 h3];rfl
theorem abu{C:Nat->List Cl}{a:Nat}{K:Prop}(hC:(C a).map g7=((C 1).map g7).map (q9<|g3 a 0 0 0))(hk:all' (Ao 1) ((C 1).map g7)=true)(h:pairs dP (qc ops.toList [] 0) ((C 1).map g7)=true)(k:K)(hr:C4 (RdT T)<|C a):gQ ops (C a)=true/\K:=by
 refine⟨?_,k⟩;unfold gQ
 have:pairs dP (qc ops.toList [] 0) (C a)=true:=by
  refine Vb (T:=T) _ _ hr ?_;rw[hC];rw[all_eq,bU]at hk;refine IV (m:=1) (λi j h1 h2 h3 h4 e=>by omega) _ _ hk ?_;rw[Tt];exact h
 rw[this];cases noTwo (C a)<;>rfl
theorem abv{S:List Nat}{X H3:ag}{r k:Nat}{a b:ag}{w:Cl}(hw:w.a=X/\w.b=H3)(hx:qU S (hN X) H3)(hr:r<X.next)(hn:r∉S)(h:X.read r o n=some vs)(hs:∀v∈vs,lX v v=true):ng w ⟨k,r,o,n,a,b⟩=true:=by
 unfold ng;rw[hw.1,hw.2];have h2:H3.read r o n=some vs:=(rH (hx.obj r hr hn) o n).trans h;exact x_ h h2<|wC hs
theorem Yl{r:Nat}(h:H.cell r o=some v):H.read r o 1=some [v]:=by
 unfold ag.cell at h;cases hr:H.obj r with
 |row R=>
  rw[hr]at h;replace h:gd (Nat.ble (Nat.succ o) R.n) (some<|R.cells.get top o)=some v:=h;cases hb:Nat.ble (Nat.succ o) R.n with
  |false=>rw[hb]at h;cases h
  |true=>
   rw[hb]at h;have h:some (R.cells.get top o)=some v:=h;show(ax (rX<|H.obj r) λw=>gd (Nat.ble (Nat.add o 1) w.n)<|some<|Tr.Cu top w.cells o 1)=_;rw[hr];show gd (Nat.ble (Nat.succ o) R.n) (some<|Tr.Cu top R.cells o 1)=_;rw[hb,Tr.uQ,Tr.zP];rw[bN h];rfl
 |_=>rw[hr]at h;cases h
theorem Vd(r o:Nat):xO (.pointer<|some ⟨r,o,none⟩) (.pointer<|some ⟨r,o,none⟩)=true:=by
 have h:Wx (.pointer<|some ⟨r,o,none⟩) (.pointer<|some ⟨r,o,none⟩)=true:=by
  show mG (gd (Nat.beq r r&&Nat.beq o o&&true&&true)<|some ())=true;rw[bC,bC];rfl
 unfold xO;rw[h];rfl
theorem IY{f:Value->Value->Bool}:∀{l:List Value},(∀v∈l,f v v=true)->yA f l l=true
 |[],_=>rfl
 |x::l,h=>by
  show aU (f x x) (yA f l l) false=true;rw[h x (aD ..),IY λv hv=>h v<|aT _ hv];rfl
theorem Ym(g:Nat){l:List Value}(h:∀v∈l,∃r,v=.pointer (some ⟨r,0,none⟩)):lX (.func (.func g) ⟨[]⟩ ⟨l⟩) (.func (.func g) ⟨[]⟩ ⟨l⟩)=true:=by
 have h0:Sj xO (.func (.func g) ⟨[]⟩ ⟨l⟩) (.func (.func g) ⟨[]⟩ ⟨l⟩)=true:=by
  show mG (gd (Nat.beq g g&&yA xO [] []&&yA xO l l)<|some ())=true;rw[bC,show yA xO [] []=true from rfl,IY (l:=l) λv hv=>by obtain⟨r,rfl⟩:=h v hv;exact Vd r 0];rfl
 unfold lX CB;rw[h0];cases xO (.func (.func g) ⟨[]⟩ ⟨l⟩) (.func (.func g) ⟨[]⟩ ⟨l⟩)<;>rfl
end Go.Ae
