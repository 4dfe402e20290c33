/-
  Part 05 of the proof. No condition.
-/
import Derived.Test.YtpngmpbmokhmiaaGreatDoorZ04
set_option linter.unusedVariables false
set_option linter.unusedSimpArgs false
set_option maxRecDepth 100000
set_option maxHeartbeats 4000000
set_option linter.defProp false
open Option renaming some->Z,none->W,rec->aN
open Bool renaming true->f,false->aA,rec->gq
open Go renaming Value->D,TypeId->aG,Program->aS,World->bW,Operand->bO,IntKind->fu,BinOp->qQ
open Go.Value renaming int->bV,slice->T,bool->gF,string->fO,pointer->tN,map->Wi
open Nat renaming rec->jq,beq->ay,succ->bU,ble->aB,add->aV
open List renaming rec->b_,toArray->iC
open ByteArray renaming mk->cz
open And renaming intro->iq
noncomputable section
namespace Go.Ae.SH
variable{ps:Array (Nat×bO)}{args ps1 ps2:Array bO}{ats:Array aG}{K K' Km Km':D->F->Prop}{α β:Type}{vn c:Code}{p sk:List Nat}{hi lo mx r:Option bO}{i j n nl nt t:Nat}{ρ:bO->D}{o:Op}{b gb ok:Bool}{Kp':D->Prop}{ty rg:aG}{H C:F}{s:St}{a vs:List D}{w:D}
inductive Fr where
 |n
 |c(i:Nat)(v:D)(l:Fr)
abbrev Rs:=List<|Nat×D
def tsF(l:Fr):Tr D:=@Fr.rec (λ_=>Tr D) .nil (λi v _ r=>r.set top i v) l
def S(nl nt:Nat)(sl:Fr)(u:Rs)(H:F):St:=⟨nl,nt,u,tsF sl,[],H⟩
def lk(sl:Fr)(u:Rs)(t:Nat):D:=@Fr.rec (λ_=>D) (look u t) (λi v _ r=>bR (ay i t) v r) sl
def hs(sl:Fr)(t:Nat):Bool:=@Fr.rec (λ_=>Bool) aA (λi _ _ r=>bR (ay i t) f r) sl
def up(sl:Fr)(t:Nat)(v:D):Fr:=@Fr.rec (λ_=>Fr) .n (λi w l r=>bR (ay i t) (.c i v l)<|.c i w r) sl
def Qh(nl nt:Nat)(sl:Fr):Bool:=aB (bU nl) (Nat.pow 2 nt)&&@jq (λ_=>Bool) f (λt r=>bR (hs sl t) (gQ nl t) (!(gQ nl t))&&r) nt&&@Fr.rec (λ_=>Bool) f (λi _ _ r=>aB (bU i) nt&&r) sl
def eq'(sl:Fr)(u:Rs)(x:bO):D:=@Operand.rec (λ_=>D) (λt=>lk sl u t) (λv=>v) (λg=>.pointer<|Z ⟨g,0,W⟩) (λav=>.func (.func av) #[] #[]) x
def eqO(ρ:bO->D)(x:Option bO):Option D:=@aN bO (λ_=>Option D) W (λx=>Z<|ρ x) x
def aat(ρ:bO->D)(ps:Array<|Nat×bO):Rs:=mp (λp=>(p.1,ρ p.2)) ps.toList
def adM(c:Callee):aS->(bO->D)->Option (FuncId×List D×List D):=
 @Callee.rec (λ_=>aS->(bO->D)->Option (FuncId×List D×List D))
  (λav _ ρ=>Ls<|ρ av) (λr name P ρ=>aK (DY<|ρ r) λp=>aK (methodOf P p.1 name) λq=>Z (q.1,[p.2],[]))
  (λ_ _ _=>W) c
def aix(P:aS)(X:Xt)(c:Call)(ρ:bO->D)(H:F)(Kp:D->Prop)(Km:D->F->Prop):Prop:=
 @aN Builtin (λ_=>Prop) (nJ P X (adM c.callee P ρ) (mp ρ c.args.toList) H Km)
  (λb=>yQ b c.argTypes.toList (mp ρ c.args.toList) P H Kp Km) (isBuiltin c.callee)
def opG(o:Op):aS->Xt->(bO->D)->F->(D->Prop)->(D->F->Prop)->Prop:=
 @Op.rec (λ_=>aS->Xt->(bO->D)->F->(D->Prop)->(D->F->Prop)->Prop)
  (λx P X ρ H Kp Km=>Kp<|ρ x) (λx P X ρ H Kp Km=>Kp<|ρ x) (λc a b P X ρ H Kp Km=>PU (Jt (ρ c) (ρ a)<|ρ b) Kp) (λe P X ρ H Kp Km=>ME (Cf P e H) Km) (λe x P X ρ H Kp Km=>ME (Jv e (ρ x) H) Km) (λt ps P X ρ H Kp Km=>PU (AB P t<|aat ρ ps) Kp) (λt n ps P X ρ H Kp Km=>ME (sO P t n (aat ρ ps) H) Km) (λ_ _ _ _ _ _ _ _ _ _=>False) (λt x P X ρ H Kp Km=>ME (vJ P t (ρ x) H) Km) (λt x v P X ρ H Kp Km=>ME (yI P t (ρ x) (ρ v) H) Km) (λ_ _ _ _ _ _ _=>False) (λ_ _ _ _ _ _ _=>False) (λx P X ρ H Kp Km=>PU (Nk<|ρ x) Kp) (λop t x hc _ P X ρ H Kp Km=>PU (lN P op t x hc (ρ x)<|ρ hc) Kp) (λop _ x P X ρ H Kp Km=>PU (jQ<|Op.unary op<|ρ x) Kp) (λa b x P X ρ H Kp Km=>CV (Cb P a b<|ρ x) (uh P a b (ρ x) H) Kp Km) (λ_ _ _ _ _ _ _ _=>False) (λ_ _ _ _ _ _ _ _=>False) (λav fi ca P X ρ H Kp Km=>Kp<|.func av ⟨mp ρ fi.toList⟩ ⟨mp ρ ca.toList⟩) (λt r P X ρ H Kp Km=>ME (uB P t (eqO ρ r) H) Km) (λ_ _ _ _ _ _ _ _=>False) (λt l c P X ρ H Kp Km=>ME (qh P t (ρ l) (ρ c) H) Km) (λt x lo hi mx P X ρ H Kp Km=>PU (zM P t (ρ x) (eqO ρ lo) (eqO ρ hi)<|eqO ρ mx) Kp) (λt x av P X ρ H Kp Km=>PU (q9 P t (ρ x) av) Kp) (λt x av P X ρ H Kp Km=>PU (Ce P t (ρ x) av) Kp) (λt x i P X ρ H Kp Km=>PU (q8 P t (ρ x)<|ρ i) Kp) (λt x i P X ρ H Kp Km=>PU (Cc P t (ρ x)<|ρ i) Kp) (λt x k ok P X ρ H Kp Km=>ME (r_ P t (ρ x) (ρ k) ok H) Km) (λt m k v P X ρ H Kp Km=>ME (uN P t (ρ m) (ρ k) (ρ v) H) Km) (λ_ _ _ _ _ _ _ _ _=>False) (λ_ _ _ _ _ _ _ _ _ _=>False) (λ_ _ _ _ _ _ _ _=>False) (λ_ _ _ _ _ _ _ _=>False) (λ_ _ _ _ _ _ _=>False) (λ_ _ _ _ _ _ _ _ _ _=>False) (λt i P X ρ H Kp Km=>PU (uA (ρ t) i) Kp) (λc P X ρ H Kp Km=>aix P X c ρ H Kp Km) (λ_ _ _ _ _ _ _=>False) (λ_ _ _ _ _ _ _=>False) (λ_ _ _ _ _ _ _=>False) (λ_ _ _ _ _ _ _ _=>False) (λ_ _ _ _ _ _ _ _ _=>False) (λ_ _ _ _ _ _ _ _=>False) o
def aau(P:aS)(o:Op)(ρ:bO->D):Cl:=
 (aK (F9 o) λp=>aK (qg<|ρ p.2) λa=>aK (Yw P p.1) λl=>Z<|Cl.mk 4 a.block a.off (l.getD 1) hh0 hh0).getD (cl 1)
def Fw(P:aS)(o:Op)(ρ:bO->D)(H C:F):Cl:=
 @aN (bO×bO) (λ_=>Cl) (bR (aB H.next C.low) (bR (zx o) (cl 5)<|aau P o ρ) ⟨2,0,0,0,H,C⟩)
  (λp=>@aN Addr (λ_=>Cl) ⟨2,0,0,0,H,C⟩ (λa=>⟨3,a.block,a.off,len<|bI<|ρ p.2,hh0,hh0⟩)<|qg<|ρ p.1) (AM o)
inductive Kd where
 |norm
 |exit(i:Nat)
 |goto(l:Nat)
 |ret
def Kd.out(k:Kd)(s:St):Out:=@Kd.rec (λ_=>Out) (.norm s) (λi=>.exit i s) (λl=>.goto l s) (.ret s) k
def blQ(id:Nat)(k:Kd):Kd:=@Kd.rec (λ_=>Kd) .norm (λi=>bR (ay i id) .norm<|.exit i) (λl=>.goto l) .ret k
inductive Fm where
 |sq(p:List Nat)(c:Code)
 |sj(p:List Nat)
 |bk(id:Nat)
inductive Md where
 |pl
 |dr(aj:Array Oper)(acc:List Cl)
def Em(m:Md):Md:=@Md.rec (λ_=>Md) .pl (λaj acc=>.dr aj<|cl 0::acc) m
def N_(m:Md)(c:Cl):Md:=@Md.rec (λ_=>Md) .pl (λaj acc=>.dr aj<|c::acc) m
def hX(m:Md)(H:F):F:=@Md.rec (λ_=>F) H (λ_ _=>hN H) m
def hY(m:Md)(H C:F):F:=@Md.rec (λ_=>F) C (λ_ _=>hM H C) m
inductive Ct where
 |co(c:Code)(p:List Nat)
 |cd(v:Option Bool)(a b:Code)(p:List Nat)
 |ou(k:Kd)
 |op(L l:List Oper)(m:Md)(sk:List Nat)
 |gu(L l:List Oper)(m:Md)(sk:List Nat)(d:Option Nat)(o:Op)(gb:Bool)(t:Option Nat)
 |gv(L l:List Oper)(m:Md)(sk:List Nat)(d:Option Nat)(o:Op)(gb:Bool)(t:Nat)(e:Bool)(v:Option Bool)
 |ge(L l:List Oper)(m:Md)(sk:List Nat)(d:Option Nat)(o:Op)(b:Bool)
 |ex(L l:List Oper)(m:Md)(sk:List Nat)(d:Option Nat)(o:Op)
 |pk(L l:List Oper)(m:Md)(sk:List Nat)(d:Option Nat)(c:Option Bool)(a b:D)
 |af(L l:List Oper)(m:Md)(sk:List Nat)(d:Option Nat)(v:D)
 |pt(h:Bool)(t:Nat)(v:D)(nx:Ct)
def yR(p:List Nat):List Nat->List Nat:=@b_ Nat (λ_=>List Nat->List Nat) (λq=>q) (λi _ ih q=>ih<|i::q) p
def kO(P:aS)(X:Xt)(vn:Code)(st:List Fm)(cs:Out->Prop):Out->Prop:=
 @b_ Fm (λ_=>Out->Prop) cs (λav _ r=>@Fm.rec (λ_=>Out->Prop) (λp _=>sW P X (sub vn<|yR p []) r) (λp=>sW P X (sub vn<|yR p []) r) (λid=>rO id r) av) st
def gtN(l:List Oper)(j:Nat):Option Nat:=aK (nth l j) λo=>o.dst
def Xz(sk:List Nat)(d:Option Nat):List Nat:=@aN Nat (λ_=>List Nat) sk (λd=>d::sk) d
def hr(P:aS)(X:Xt)(nl nt:Nat)(vn:Code):Nat->Ct->List Fm->Fr->Rs->F->(Out->Prop)->Prop
 |0,_,_,_,_,_,_=>False
 |n+1,.co .skip _,st,sl,u,H,cs=>hr P X nl nt vn n (.ou .norm) st sl u H cs
 |n+1,.co (.region _ ops aA) _,st,sl,_,H,cs=>hr P X nl nt vn n (.op ops.toList ops.toList .pl []) st sl [] H cs
 |n+1,.co (.region _ ops f) p,st,sl,_,H,cs=>(j4 ops&&oN ops)=f/\hr P X nl nt vn n (.op ops.toList ops.toList (.dr (opsOf<|sub vn<|yR p []) []) []) st sl [] H cs
 |n+1,.co (.seq a b) p,st,sl,u,H,cs=>hr P X nl nt vn n (.co a<|0::p) (bR (Fg a b) (.sj<|1::p) (.sq (1::p) b)::st) sl u H cs
 |n+1,.co (.cond x a b) p,st,sl,u,H,cs=>hr P X nl nt vn n (.cd (jH<|eq' sl u x) a b p) st sl u H cs
 |n+1,.co (.block id a) p,st,sl,u,H,cs=>hr P X nl nt vn n (.co a<|0::p) (.bk id::st) sl u H cs
 |_+1,.co (.loop _) p,st,sl,u,H,cs=>gJ P X (.loop<|sub vn<|yR (0::p) []) (S nl nt sl u H)<|kO P X vn st cs
 |_+1,.co (.scope _) p,st,sl,u,H,cs=>gJ P X (.scope<|sub vn<|yR (0::p) []) (S nl nt sl u H)<|kO P X vn st cs
 |n+1,.co (.exit i) _,st,sl,u,H,cs=>hr P X nl nt vn n (.ou<|.exit i) st sl u H cs
 |n+1,.co (.goto i) _,st,sl,u,H,cs=>hr P X nl nt vn n (.ou<|.goto i) st sl u H cs
 |n+1,.co (.label _) _,st,sl,u,H,cs=>hr P X nl nt vn n (.ou .norm) st sl u H cs
 |n+1,.co .ret _,st,sl,u,H,cs=>hr P X nl nt vn n (.ou .ret) st sl u H cs
 |_+1,.co _ _,_,_,_,_,_=>False
 |n+1,.cd v a b p,st,sl,u,H,cs=>BI v (hr P X nl nt vn n (.co a<|0::p) st sl u H cs)<|hr P X nl nt vn n (.co b<|1::p) st sl u H cs
 |_+1,.ou k,[],sl,u,H,cs=>cs<|k.out<|S nl nt sl u H
 |n+1,.ou .norm,.sq p c::st,sl,u,H,cs=>hr P X nl nt vn n (.co c p) st sl u H cs
 |_+1,.ou .norm,.sj p::st,sl,u,H,cs=>gJ P X (sub vn<|yR p []) (S nl nt sl u H)<|kO P X vn st cs
 |n+1,.ou k,.bk id::st,sl,u,H,cs=>hr P X nl nt vn n (.ou<|blQ id k) st sl u H cs
 |n+1,.ou k,_::st,sl,u,H,cs=>hr P X nl nt vn n (.ou k) st sl u H cs
 |n+1,.op L [] m sk,st,sl,u,H,cs=>@Md.rec (λ_=>Prop) (hr P X nl nt vn n (.ou .norm) st sl u H cs) (λaj acc=>jI aj acc=f/\hr P X nl nt vn n (.ou .norm) st sl u H cs) m
 |n+1,.op L (o::l) m sk,st,sl,u,H,cs=>@aN (Nat×Bool) (λ_=>Prop) (hr P X nl nt vn n (.ex L l m sk o.dst o.op) st sl u H cs)
   (λg=>hr P X nl nt vn n (.gu L l m sk o.dst o.op g.2<|gtN L g.1) st sl u H cs) o.guard
 |_+1,.gu _ _ _ _ _ _ _ W,_,_,_,_,_=>False
 |n+1,.gu L l m sk d o gb<|Z t,st,sl,u,H,cs=>hr P X nl nt vn n (.gv L l m sk d o gb t (Aa sk t)<|jH<|lk sl u t) st sl u H cs
 |n+1,.gv L l m sk d o gb t e v,st,sl,u,H,cs=>@gq (λ_=>Prop)
   (BI v (hr P X nl nt vn n (.pt (hs sl t) t (.bool f)<|.ge L l m (qj sk t) d o<|Au f gb) st sl u H cs)<|hr P X nl nt vn n (.pt (hs sl t) t (.bool aA)<|.ge L l m (qj sk t) d o<|Au aA gb) st sl u H cs)
   (hr P X nl nt vn n (.ge L l m sk d o aA) st sl u H cs) e
 |n+1,.ge L l m sk d o b,st,sl,u,H,cs=>@gq (λ_=>Prop) (hr P X nl nt vn n (.af L l (Em m) (Xz sk d) d undef) st sl u H cs) (hr P X nl nt vn n (.ex L l m sk d o) st sl u H cs) b
 |n+1,.ex L l m sk d<|.move x,st,sl,u,H,cs=>hr P X nl nt vn n (.af L l (Em m) (lz sk d) d<|eq' sl u x) st sl u H cs
 |n+1,.ex L l m sk d<|.assign x,st,sl,u,H,cs=>hr P X nl nt vn n (.af L l (Em m) (lz sk d) d<|eq' sl u x) st sl u H cs
 |n+1,.ex L l m sk d<|.makeFunc av ps1 ps2,st,sl,u,H,cs=>hr P X nl nt vn n (.af L l (Em m) (lz sk d) d<|.func av ⟨mp (eq' sl u) ps1.toList⟩ ⟨mp (eq' sl u) ps2.toList⟩) st sl u H cs
 |n+1,.ex L l m sk d<|.pick c a b,st,sl,u,H,cs=>hr P X nl nt vn n (.pk L l (Em m) (lz sk d) d (jH<|eq' sl u c) (eq' sl u a)<|eq' sl u b) st sl u H cs
 |n+1,.ex L l m sk d o,st,sl,u,H,cs=>opG o P X (eq' sl u) (hX m H) (λv=>hr P X nl nt vn n (.af L l (Em m) (lz sk d) d v) st sl u H cs) λv C=>hr P X nl nt vn n (.af L l (N_ m<|Fw P o (eq' sl u) H C) (lz sk d) d v) st sl u (hY m H C) cs
 |n+1,.pk L l m sk d c a b,st,sl,u,H,cs=>PU (aK c λt=>Z<|bR t a b) λv=>hr P X nl nt vn n (.af L l m sk d v) st sl u H cs
 |n+1,.af L l m sk W v,st,sl,u,H,cs=>hr P X nl nt vn n (.op L l m sk) st sl u H cs
 |n+1,.af L l m sk (Z t) v,st,sl,u,H,cs=>hr P X nl nt vn n (.pt (hs sl t) t v<|.op L l m sk) st sl u H cs
 |n+1,.pt f t v nx,st,sl,u,H,cs=>hr P X nl nt vn n nx st (up sl t v) u H cs
 |n+1,.pt aA t v nx,st,sl,u,H,cs=>hr P X nl nt vn n nx st sl ((t,v)::u) H cs
variable{st:List Fm}{u:Rs}
section eqs
variable{P:aS}{X:Xt}{a b:Code}{q:List Nat}{sl:Fr}{cs:Out->Prop}{L l:List Oper}{m:Md}{d:Option Nat}{rg:Nat}{v:D}{x hc z:bO}{k:Kd}{aj:Array Oper}{acc:List Cl}{E:Cl}{pos:String}{aav:Array Edge}{nx:Ct}
def nr{α:Sort _}{a b:α}(h:a=b):a=b:=h
def aiy{α:Type}{x hc:α}:bR f x hc=x:=nr O
def aiz{α:Type}{x hc:α}:bR aA x hc=hc:=nr O
def nb:ay i j=(i==j):=nr (by
 by_cases h:i=j
 .subst h;rw[show ay i i=f from dw i];simp
 .rw[show(i==j)=aA by simp[h]];rw[<-bY];intro e;exact h<|aT e)
def ct{b:Bool}{x hc:α}:bR b x hc=if b=f then x else hc:=by cases b<;>rfl
def cb{x hc:α}:bR (ay j i) x hc=if(j==i)=f then x else hc:=by rw[ct,nb]
def aiA:lk .n u i=Aw u i:=nr O
def aiB:lk (.c j v sl) u i=if(j==i)=f then v else lk sl u i:=cb
def aiC:Aw [] i=top:=nr O
def aiD:Aw ((j,v)::u) i=if(j==i)=f then v else Aw u i:=cb
def aiE:hs .n i=aA:=nr O
def aiF:hs (.c j v sl) i=if(j==i)=f then f else hs sl i:=cb
def Gs:up .n i v=.n:=nr O
def Gt:up (.c j w sl) i v=if(j==i)=f then .c j v sl else .c j w (up sl i v):=cb
def ae1:eq' sl u (.tmp i)=lk sl u i:=nr O
def Vh:eq' sl u (.const v)=v:=by cases v<;>rfl
def Qi:eq' sl u (.global i)=.pointer (Z ⟨i,0,W⟩):=nr O
def aaw:eq' sl u (.func i)=.func (.func i) #[] #[]:=nr O
def aax:eqO ρ W=W:=nr O
def aay:eqO ρ (Z x)=Z (ρ x):=nr O
def aiG:jH (.bool f)=Z f:=nr O
def aiH:jH (.bool aA)=Z aA:=nr O
def aaz{α β:Type}{av:α->β}:mp av []=[]:=nr O
def Vi{α β:Type}{av:α->β}{x:α}{l:List α}:mp av (x::l)=av x::mp av l:=nr O
def ae2{ps:Array (Nat×bO)}:aat ρ ps=mp (λp=>(p.1,ρ p.2)) ps.toList:=nr O
def aaA(l:List α):app l []=l:=by rw[qd,a_]
def aiI:blQ i .norm=.norm:=nr O
def aiJ:blQ i (.exit j)=if(j==i)=f then .norm else .exit j:=cb
def aiK:blQ i (.goto j)=.goto j:=nr O
def aiL:blQ i .ret=.ret:=nr O
def aiM:Kd.out .norm s=.norm s:=nr O
def aiN:Kd.out (.exit i) s=.exit i s:=nr O
def aiO:Kd.out (.goto i) s=.goto i s:=nr O
def aiP:Kd.out .ret s=.ret s:=nr O
def ae3:Em .pl=.pl:=nr O
def ae4:Em (.dr aj acc)=.dr aj (cl 0::acc):=nr O
def ae5:N_ .pl E=.pl:=nr O
def ae6:N_ (.dr aj acc) E=.dr aj (E::acc):=nr O
def ae7:hX .pl H=H:=nr O
def ae8:hX (.dr aj acc) H=hN H:=nr O
def ae9:hY .pl H C=C:=nr O
def afa:hY (.dr aj acc) H C=hM H C:=nr O
def aiQ:yR [] q=q:=nr O
def aiR:yR (i::p) q=yR p (i::q):=nr O
def aiS:kO P X vn [] cs=cs:=nr O
def aiT:kO P X vn (.sq p c::st) cs=sW P X (sub vn<|yR p []) (kO P X vn st cs):=nr O
def aiU:kO P X vn (.sj p::st) cs=sW P X (sub vn<|yR p []) (kO P X vn st cs):=nr O
def aiV:kO P X vn (.bk i::st) cs=rO i (kO P X vn st cs):=nr O
def aiW{g:Option (Nat×Bool)}:gtN (⟨d,o,ty,pos,aav,g⟩::l) 0=d:=nr O
def aiX{o:Oper}:gtN (o::l) (j+1)=gtN l j:=nr O
def afb:Aa [] i=aA:=nr O
def aaB:Aa (j::sk) i=if(j==i)=f then f else Aa sk i:=cb
def aaC:Xz sk W=sk:=nr O
def aaD:Xz sk (Z i)=i::sk:=nr O
def afc:qj [] i=[]:=nr O
def aaE:qj (j::sk) i=if(j==i)=f then qj sk i else j::qj sk i:=cb
def aaF:lz sk (Z i)=qj sk i:=nr O
def aaG:lz sk W=sk:=nr O
def afd:Au f f=f:=nr O
def afe:Au f aA=aA:=nr O
def aff:Au aA f=aA:=nr O
def afg:Au aA aA=f:=nr O
def aaH:hr P X nl nt vn (n+1) (.co .skip p) st sl u H cs=hr P X nl nt vn n (.ou .norm) st sl u H cs:=rfl
def afh:hr P X nl nt vn (n+1) (.co (.region i (iC l) aA) p) st sl u H cs=hr P X nl nt vn n (.op l l .pl []) st sl [] H cs:=rfl
def SQ(h:(j4 (iC l)&&oN (iC l))=f):hr P X nl nt vn (n+1) (.co (.region i (iC l) f) p) st sl u H cs=hr P X nl nt vn n (.op l l (.dr (opsOf<|sub vn<|yR p []) []) []) st sl [] H cs:=by
 show((j4 (iC l)&&oN (iC l))=f/\hr P X nl nt vn n (.op l l (.dr (opsOf<|sub vn<|yR p []) []) []) st sl [] H cs)=_;rw[h];simp
def SS(h:Fg a b=f):hr P X nl nt vn (n+1) (.co (.seq a b) p) st sl u H cs=hr P X nl nt vn n (.co a<|0::p) (.sj (1::p)::st) sl u H cs:=by
 show hr P X nl nt vn n (.co a<|0::p) (bR (Fg a b) _ _::st) sl u H cs=_;rw[h];rfl
def SV(h:Fg a b=aA):hr P X nl nt vn (n+1) (.co (.seq a b) p) st sl u H cs=hr P X nl nt vn n (.co a<|0::p) (.sq (1::p) b::st) sl u H cs:=by
 show hr P X nl nt vn n (.co a<|0::p) (bR (Fg a b) _ _::st) sl u H cs=_;rw[h];rfl
def aaI:hr P X nl nt vn (n+1) (.co (.cond x a b) p) st sl u H cs=hr P X nl nt vn n (.cd (jH<|eq' sl u x) a b p) st sl u H cs:=rfl
def Vj:hr P X nl nt vn (n+1) (.co (.block i a) p) st sl u H cs=hr P X nl nt vn n (.co a<|0::p) (.bk i::st) sl u H cs:=rfl
def aaJ:hr P X nl nt vn (n+1) (.co (.loop a) p) st sl u H cs=gJ P X (.loop<|sub vn<|yR (0::p) []) (S nl nt sl u H) (kO P X vn st cs):=rfl
def Vk:hr P X nl nt vn (n+1) (.co (.scope a) p) st sl u H cs=gJ P X (.scope<|sub vn<|yR (0::p) []) (S nl nt sl u H) (kO P X vn st cs):=rfl
def aaK:hr P X nl nt vn (n+1) (.co (.exit i) p) st sl u H cs=hr P X nl nt vn n (.ou<|.exit i) st sl u H cs:=rfl
def aaL:hr P X nl nt vn (n+1) (.co (.goto i) p) st sl u H cs=hr P X nl nt vn n (.ou<|.goto i) st sl u H cs:=rfl
def Vl:hr P X nl nt vn (n+1) (.co (.label i) p) st sl u H cs=hr P X nl nt vn n (.ou .norm) st sl u H cs:=rfl
def afi:hr P X nl nt vn (n+1) (.co .ret p) st sl u H cs=hr P X nl nt vn n (.ou .ret) st sl u H cs:=rfl
def afj:hr P X nl nt vn (n+1) (.cd (Z f) a b p) st sl u H cs=hr P X nl nt vn n (.co a<|0::p) st sl u H cs:=rfl
def afk:hr P X nl nt vn (n+1) (.cd (Z aA) a b p) st sl u H cs=hr P X nl nt vn n (.co b<|1::p) st sl u H cs:=rfl
def afl:hr P X nl nt vn (n+1) (.cd (jH v) a b p) st sl u H cs=BI (jH v) (hr P X nl nt vn n (.co a<|0::p) st sl u H cs) (hr P X nl nt vn n (.co b<|1::p) st sl u H cs):=rfl
def agN:hr P X nl nt vn (n+1) (.ou k) [] sl u H cs=cs (k.out<|S nl nt sl u H):=by cases k<;>rfl
def aaM:hr P X nl nt vn (n+1) (.ou .norm) (.sq p c::st) sl u H cs=hr P X nl nt vn n (.co c p) st sl u H cs:=rfl
def aaN:hr P X nl nt vn (n+1) (.ou .norm) (.sj p::st) sl u H cs=gJ P X (sub vn<|yR p []) (S nl nt sl u H) (kO P X vn st cs):=rfl
def SX:hr P X nl nt vn (n+1) (.ou k) (.bk i::st) sl u H cs=hr P X nl nt vn n (.ou<|blQ i k) st sl u H cs:=by cases k<;>rfl
def aaO:hr P X nl nt vn (n+1) (.ou<|.exit i) (.sq p c::st) sl u H cs=hr P X nl nt vn n (.ou<|.exit i) st sl u H cs:=rfl
def aaP:hr P X nl nt vn (n+1) (.ou<|.exit i) (.sj p::st) sl u H cs=hr P X nl nt vn n (.ou<|.exit i) st sl u H cs:=rfl
def aaQ:hr P X nl nt vn (n+1) (.ou<|.goto i) (.sq p c::st) sl u H cs=hr P X nl nt vn n (.ou<|.goto i) st sl u H cs:=rfl
def aaR:hr P X nl nt vn (n+1) (.ou<|.goto i) (.sj p::st) sl u H cs=hr P X nl nt vn n (.ou<|.goto i) st sl u H cs:=rfl
def aaS:hr P X nl nt vn (n+1) (.ou .ret) (.sq p c::st) sl u H cs=hr P X nl nt vn n (.ou .ret) st sl u H cs:=rfl
def aaT:hr P X nl nt vn (n+1) (.ou .ret) (.sj p::st) sl u H cs=hr P X nl nt vn n (.ou .ret) st sl u H cs:=rfl
def afm:hr P X nl nt vn (n+1) (.op L [] .pl sk) st sl u H cs=hr P X nl nt vn n (.ou .norm) st sl u H cs:=rfl
def afn:hr P X nl nt vn (n+1) (.op L [] (.dr aj acc) sk) st sl u H cs=(jI aj acc=f/\hr P X nl nt vn n (.ou .norm) st sl u H cs):=rfl
def aiY:hr P X nl nt vn (n+1) (.op L (⟨d,o,ty,pos,aav,W⟩::l) m sk) st sl u H cs=hr P X nl nt vn n (.ex L l m sk d o) st sl u H cs:=rfl
def afo:hr P X nl nt vn (n+1) (.op L (⟨d,o,ty,pos,aav,Z (j,gb)⟩::l) m sk) st sl u H cs=hr P X nl nt vn n (.gu L l m sk d o gb<|gtN L j) st sl u H cs:=rfl
def aiZ:hr P X nl nt vn (n+1) (.gu L l m sk d o gb<|Z t) st sl u H cs=hr P X nl nt vn n (.gv L l m sk d o gb t (Aa sk t)<|jH<|lk sl u t) st sl u H cs:=rfl
def afp{v:Option Bool}:hr P X nl nt vn (n+1) (.gv L l m sk d o gb t f v) st sl u H cs=hr P X nl nt vn n (.ge L l m sk d o aA) st sl u H cs:=rfl
def afq:hr P X nl nt vn (n+1) (.gv L l m sk d o gb t aA<|Z f) st sl u H cs=hr P X nl nt vn n (.pt (hs sl t) t (.bool f)<|.ge L l m (qj sk t) d o<|Au f gb) st sl u H cs:=rfl
def afr:hr P X nl nt vn (n+1) (.gv L l m sk d o gb t aA<|Z aA) st sl u H cs=hr P X nl nt vn n (.pt (hs sl t) t (.bool aA)<|.ge L l m (qj sk t) d o<|Au aA gb) st sl u H cs:=rfl
def afs:hr P X nl nt vn (n+1) (.gv L l m sk d o gb t aA<|jH v) st sl u H cs=BI (jH v) (hr P X nl nt vn n (.pt (hs sl t) t (.bool f)<|.ge L l m (qj sk t) d o<|Au f gb) st sl u H cs) (hr P X nl nt vn n (.pt (hs sl t) t (.bool aA)<|.ge L l m (qj sk t) d o<|Au aA gb) st sl u H cs):=rfl
def aft:hr P X nl nt vn (n+1) (.ge L l m sk d o f) st sl u H cs=hr P X nl nt vn n (.ex L l m sk d o) st sl u H cs:=rfl
def afu:hr P X nl nt vn (n+1) (.ge L l m sk d o aA) st sl u H cs=hr P X nl nt vn n (.af L l (Em m) (Xz sk d) d undef) st sl u H cs:=rfl
def aaU:hr P X nl nt vn (n+1) (.ex L l m sk d<|.move x) st sl u H cs=hr P X nl nt vn n (.af L l (Em m) (lz sk d) d<|eq' sl u x) st sl u H cs:=rfl
def Qj:hr P X nl nt vn (n+1) (.ex L l m sk d<|.assign x) st sl u H cs=hr P X nl nt vn n (.af L l (Em m) (lz sk d) d<|eq' sl u x) st sl u H cs:=rfl
def ai0{av:Fn}{ps1 ps2:Array bO}:hr P X nl nt vn (n+1) (.ex L l m sk d<|.makeFunc av ps1 ps2) st sl u H cs=hr P X nl nt vn n (.af L l (Em m) (lz sk d) d<|.func av ⟨mp (eq' sl u) ps1.toList⟩ ⟨mp (eq' sl u) ps2.toList⟩) st sl u H cs:=rfl
def aaV:hr P X nl nt vn (n+1) (.ex L l m sk d<|.pick x hc z) st sl u H cs=hr P X nl nt vn n (.pk L l (Em m) (lz sk d) d (jH<|eq' sl u x) (eq' sl u hc)<|eq' sl u z) st sl u H cs:=rfl
def afv:hr P X nl nt vn (n+1) (.pk L l m sk d (Z f) v w) st sl u H cs=hr P X nl nt vn n (.af L l m sk d v) st sl u H cs:=rfl
def afw:hr P X nl nt vn (n+1) (.pk L l m sk d (Z aA) v w) st sl u H cs=hr P X nl nt vn n (.af L l m sk d w) st sl u H cs:=rfl
def afx{rg:D}:hr P X nl nt vn (n+1) (.pk L l m sk d (jH rg) v w) st sl u H cs=PU (Jt rg v w) λv=>hr P X nl nt vn n (.af L l m sk d v) st sl u H cs:=rfl
def afy:hr P X nl nt vn (n+1) (.af L l m sk W v) st sl u H cs=hr P X nl nt vn n (.op L l m sk) st sl u H cs:=rfl
def afz:hr P X nl nt vn (n+1) (.af L l m sk (Z t) v) st sl u H cs=hr P X nl nt vn n (.pt (hs sl t) t v<|.op L l m sk) st sl u H cs:=rfl
def afA:hr P X nl nt vn (n+1) (.pt f t v nx) st sl u H cs=hr P X nl nt vn n nx st (up sl t v) u H cs:=rfl
def afB:hr P X nl nt vn (n+1) (.pt aA t v nx) st sl u H cs=hr P X nl nt vn n nx st sl ((t,v)::u) H cs:=rfl
def l_call{c:Call}:Fw P (.call c) ρ H C=Dq H C:=nr O
def Vm:Fw P (.store t x hc) ρ H C=clS (ρ x) (ρ hc) H C:=nr O
def Vn:Fw P (.alloc t) ρ H C=Lt H C:=nr O
def afC:Fw P (.box t x) ρ H C=Lt H C:=nr O
def ai1{ps:Array (Nat×bO)}:Fw P (.buildSlice t i ps) ρ H C=Lt H C:=nr O
def ai2:Fw P (.makeSlice t x hc) ρ H C=Lt H C:=nr O
def ai3{r:Option bO}:Fw P (.makeMap t r) ρ H C=Lt H C:=nr O
def Qk{ok:Bool}:Fw P (.lookup t x hc ok) ρ H C=Dq H C:=nr O
def l_conv:Fw P (.convert t rg x) ρ H C=Dq H C:=nr O
def ai4:Fw P (.mapUpdate t x hc z) ρ H C=Dq H C:=nr O
def Vp:hr P X nl nt vn (n+1) (.ex L l m sk d<|.alloc t) st sl u H cs=ME (Cf P t<|hX m H) (λv C=>hr P X nl nt vn n (.af L l (N_ m<|Fw P (.alloc t) (eq' sl u) H C) (lz sk d) d v) st sl u (hY m H C) cs):=rfl
def afD:hr P X nl nt vn (n+1) (.ex L l m sk d<|.box t x) st sl u H cs=ME (Jv t (eq' sl u x)<|hX m H) (λv C=>hr P X nl nt vn n (.af L l (N_ m<|Fw P (.box t x) (eq' sl u) H C) (lz sk d) d v) st sl u (hY m H C) cs):=rfl
def Vq{ps:Array (Nat×bO)}:hr P X nl nt vn (n+1) (.ex L l m sk d<|.build t ps) st sl u H cs=PU (AB P t<|aat (eq' sl u) ps) (λv=>hr P X nl nt vn n (.af L l (Em m) (lz sk d) d v) st sl u H cs):=rfl
def Fx{ps:Array (Nat×bO)}:hr P X nl nt vn (n+1) (.ex L l m sk d<|.buildSlice t i ps) st sl u H cs=ME (sO P t i (aat (eq' sl u) ps)<|hX m H) (λv C=>hr P X nl nt vn n (.af L l (N_ m<|Fw P (.buildSlice t i ps) (eq' sl u) H C) (lz sk d) d v) st sl u (hY m H C) cs):=rfl
def aaW:hr P X nl nt vn (n+1) (.ex L l m sk d<|.load t x) st sl u H cs=ME (vJ P t (eq' sl u x)<|hX m H) (λv C=>hr P X nl nt vn n (.af L l (N_ m<|Fw P (.load t x) (eq' sl u) H C) (lz sk d) d v) st sl u (hY m H C) cs):=rfl
def Vr:hr P X nl nt vn (n+1) (.ex L l m sk d<|.store t x hc) st sl u H cs=ME (yI P t (eq' sl u x) (eq' sl u hc)<|hX m H) (λv C=>hr P X nl nt vn n (.af L l (N_ m<|Fw P (.store t x hc) (eq' sl u) H C) (lz sk d) d v) st sl u (hY m H C) cs):=rfl
def Kh:hr P X nl nt vn (n+1) (.ex L l m sk d<|.nilCheck x) st sl u H cs=PU (Nk<|eq' sl u x) (λv=>hr P X nl nt vn n (.af L l (Em m) (lz sk d) d v) st sl u H cs):=rfl
def Vs{bo:qQ}{rg:aG}:hr P X nl nt vn (n+1) (.ex L l m sk d<|.binOp bo t x hc rg) st sl u H cs=PU (lN P bo t x hc (eq' sl u x)<|eq' sl u hc) (λv=>hr P X nl nt vn n (.af L l (Em m) (lz sk d) d v) st sl u H cs):=rfl
def aaX{uo:UnOp}:hr P X nl nt vn (n+1) (.ex L l m sk d<|.unOp uo t x) st sl u H cs=PU (jQ<|Op.unary uo<|eq' sl u x) (λv=>hr P X nl nt vn n (.af L l (Em m) (lz sk d) d v) st sl u H cs):=rfl
def MP{rg:aG}:hr P X nl nt vn (n+1) (.ex L l m sk d<|.convert t rg x) st sl u H cs=CV (Cb P t rg<|eq' sl u x) (uh P t rg (eq' sl u x)<|hX m H) (λv=>hr P X nl nt vn n (.af L l (Em m) (lz sk d) d v) st sl u H cs) (λv C=>hr P X nl nt vn n (.af L l (N_ m<|Fw P (.convert t rg x) (eq' sl u) H C) (lz sk d) d v) st sl u (hY m H C) cs):=rfl
def MQ{r:Option bO}:hr P X nl nt vn (n+1) (.ex L l m sk d<|.makeMap t r) st sl u H cs=ME (uB P t (eqO (eq' sl u) r)<|hX m H) (λv C=>hr P X nl nt vn n (.af L l (N_ m<|Fw P (.makeMap t r) (eq' sl u) H C) (lz sk d) d v) st sl u (hY m H C) cs):=rfl
def Ia:hr P X nl nt vn (n+1) (.ex L l m sk d<|.makeSlice t x hc) st sl u H cs=ME (qh P t (eq' sl u x) (eq' sl u hc)<|hX m H) (λv C=>hr P X nl nt vn n (.af L l (N_ m<|Fw P (.makeSlice t x hc) (eq' sl u) H C) (lz sk d) d v) st sl u (hY m H C) cs):=rfl
def Vt{lo:Option bO}{hi:Option bO}{mx:Option bO}:hr P X nl nt vn (n+1) (.ex L l m sk d<|.slice t x lo hi mx) st sl u H cs=PU (zM P t (eq' sl u x) (eqO (eq' sl u) lo) (eqO (eq' sl u) hi)<|eqO (eq' sl u) mx) (λv=>hr P X nl nt vn n (.af L l (Em m) (lz sk d) d v) st sl u H cs):=rfl
def Ib:hr P X nl nt vn (n+1) (.ex L l m sk d<|.fieldAddr t x i) st sl u H cs=PU (q9 P t (eq' sl u x) i) (λv=>hr P X nl nt vn n (.af L l (Em m) (lz sk d) d v) st sl u H cs):=rfl
def Vu:hr P X nl nt vn (n+1) (.ex L l m sk d<|.field t x i) st sl u H cs=PU (Ce P t (eq' sl u x) i) (λv=>hr P X nl nt vn n (.af L l (Em m) (lz sk d) d v) st sl u H cs):=rfl
def Ic:hr P X nl nt vn (n+1) (.ex L l m sk d<|.indexAddr t x hc) st sl u H cs=PU (q8 P t (eq' sl u x)<|eq' sl u hc) (λv=>hr P X nl nt vn n (.af L l (Em m) (lz sk d) d v) st sl u H cs):=rfl
def Vv:hr P X nl nt vn (n+1) (.ex L l m sk d<|.index t x hc) st sl u H cs=PU (Cc P t (eq' sl u x)<|eq' sl u hc) (λv=>hr P X nl nt vn n (.af L l (Em m) (lz sk d) d v) st sl u H cs):=rfl
def Ql{ok:Bool}:hr P X nl nt vn (n+1) (.ex L l m sk d<|.lookup t x hc ok) st sl u H cs=ME (r_ P t (eq' sl u x) (eq' sl u hc) ok<|hX m H) (λv C=>hr P X nl nt vn n (.af L l (N_ m<|Fw P (.lookup t x hc ok) (eq' sl u) H C) (lz sk d) d v) st sl u (hY m H C) cs):=rfl
def Ie:hr P X nl nt vn (n+1) (.ex L l m sk d<|.mapUpdate t x hc z) st sl u H cs=ME (uN P t (eq' sl u x) (eq' sl u hc) (eq' sl u z)<|hX m H) (λv C=>hr P X nl nt vn n (.af L l (N_ m<|Fw P (.mapUpdate t x hc z) (eq' sl u) H C) (lz sk d) d v) st sl u (hY m H C) cs):=rfl
def MR:hr P X nl nt vn (n+1) (.ex L l m sk d<|.extract x i) st sl u H cs=PU (uA (eq' sl u x) i) (λv=>hr P X nl nt vn n (.af L l (Em m) (lz sk d) d v) st sl u H cs):=rfl
def aaY{args:Array bO}{ats:Array aG}:hr P X nl nt vn (n+1) (.ex L l m sk d<|.call ⟨.value<|.func i,args,ats⟩) st sl u H cs=aJ P X i (mp (eq' sl u) args.toList) (hX m H) (λv C=>hr P X nl nt vn n (.af L l (N_ m<|Fw P (.call ⟨.value<|.func i,args,ats⟩) (eq' sl u) H C) (lz sk d) d v) st sl u (hY m H C) cs):=by
 show aJ P X i (app []<|app (mp (eq' sl u) args.toList) []) (hX m H) _=_;rw[aaA];rfl
def afE{args:Array bO}{ats:Array aG}:hr P X nl nt vn (n+1) (.ex L l m sk d<|.call ⟨.value<|.tmp i,args,ats⟩) st sl u H cs=nJ P X (Ls<|lk sl u i) (mp (eq' sl u) args.toList) (hX m H) (λv C=>hr P X nl nt vn n (.af L l (N_ m<|Fw P (.call ⟨.value<|.tmp i,args,ats⟩) (eq' sl u) H C) (lz sk d) d v) st sl u (hY m H C) cs):=rfl
def Vw{args:Array bO}{ats:Array aG}:hr P X nl nt vn (n+1) (.ex L l m sk d<|.call ⟨.value<|.const w,args,ats⟩) st sl u H cs=nJ P X (Ls w) (mp (eq' sl u) args.toList) (hX m H) (λv C=>hr P X nl nt vn n (.af L l (N_ m<|Fw P (.call ⟨.value<|.const w,args,ats⟩) (eq' sl u) H C) (lz sk d) d v) st sl u (hY m H C) cs):=rfl
def afF{nm:String}{args:Array bO}{ats:Array aG}:hr P X nl nt vn (n+1) (.ex L l m sk d<|.call ⟨.invoke x nm,args,ats⟩) st sl u H cs=nJ P X (aK (DY<|eq' sl u x) λp=>aK (methodOf P p.1 nm) λq=>Z (q.1,[p.2],[])) (mp (eq' sl u) args.toList) (hX m H) (λv C=>hr P X nl nt vn n (.af L l (N_ m<|Fw P (.call ⟨.invoke x nm,args,ats⟩) (eq' sl u) H C) (lz sk d) d v) st sl u (hY m H C) cs):=rfl
def ai5{bi:Builtin}{args:Array bO}{ats:Array aG}:hr P X nl nt vn (n+1) (.ex L l m sk d<|.call ⟨.builtin bi,args,ats⟩) st sl u H cs=yQ bi ats.toList (mp (eq' sl u) args.toList) P (hX m H) (λv=>hr P X nl nt vn n (.af L l (Em m) (lz sk d) d v) st sl u H cs) (λv C=>hr P X nl nt vn n (.af L l (N_ m<|Fw P (.call ⟨.builtin bi,args,ats⟩) (eq' sl u) H C) (lz sk d) d v) st sl u (hY m H C) cs):=rfl
end eqs
def EE:type_of%(hx @aiA<|hx @aiB<|hx @aiC<|hx @aiD<|hx @aiE<|hx @aiF<|hx @Gs<|hx @Gt<|hx @ae1<|hx @Vh<|hx @Qi<|hx @aaw<|hx @aax<|hx @aay<|hx @aiG<|hx @aiH<|hx @aaz<|hx @Vi<|hx @ae2<|hx @aiI<|hx @aiJ<|hx @aiK<|hx @aiL<|hx @aiM<|hx @aiN<|hx @aiO<|hx @aiP<|hx @ae3<|hx @ae4<|hx @ae6<|hx @ae7<|hx @ae8<|hx @ae9<|hx @afa<|hx @aiQ<|hx @aiR<|hx @aiS<|hx @aiT<|hx @aiU<|hx @aiV<|hx @aiW<|hx @aiX<|hx @afb<|hx @aaB<|hx @aaC<|hx @aaD<|hx @afc<|hx @aaE<|hx @aaF<|hx @aaG<|hx @afd<|hx @afe<|hx @aff<|hx @afg<|hx @afj<|hx @afk<|hx @afl<|hx @agN<|hx @aaM<|hx @aaN<|hx @SX<|hx @aaO<|hx @aaP<|hx @aaQ<|hx @aaR<|hx @aaS<|hx @aaT<|hx @afm<|hx @afn<|hx @aiY<|hx @afo<|hx @aiZ<|hx @afp<|hx @afq<|hx @afr<|hx @afs<|hx @aft<|hx @afu<|hx @aaU<|hx @Qj<|hx @ai0<|hx @aaV<|hx @afv<|hx @afw<|hx @afx<|hx @afy<|hx @afz<|hx @afA<|hx @afB<|hx @l_call<|hx @Vm<|hx @Vn<|hx @afC<|hx @ai1<|hx @ai2<|hx @ai3<|hx @Qk<|hx @l_conv<|hx @ai4<|hx @Vp<|hx @afD<|hx @Vq<|hx @Fx<|hx @aaW<|hx @Vr<|hx @Kh<|hx @Vs<|hx @aaX<|hx @MP<|hx @MQ<|hx @Ia<|hx @Vt<|hx @Ib<|hx @Vu<|hx @Ic<|hx @Vv<|hx @Ql<|hx @Ie<|hx @MR<|hx @aaY<|hx @afE<|hx @Vw<|hx @afF @ai5):=hx @aiA<|hx @aiB<|hx @aiC<|hx @aiD<|hx @aiE<|hx @aiF<|hx @Gs<|hx @Gt<|hx @ae1<|hx @Vh<|hx @Qi<|hx @aaw<|hx @aax<|hx @aay<|hx @aiG<|hx @aiH<|hx @aaz<|hx @Vi<|hx @ae2<|hx @aiI<|hx @aiJ<|hx @aiK<|hx @aiL<|hx @aiM<|hx @aiN<|hx @aiO<|hx @aiP<|hx @ae3<|hx @ae4<|hx @ae6<|hx @ae7<|hx @ae8<|hx @ae9<|hx @afa<|hx @aiQ<|hx @aiR<|hx @aiS<|hx @aiT<|hx @aiU<|hx @aiV<|hx @aiW<|hx @aiX<|hx @afb<|hx @aaB<|hx @aaC<|hx @aaD<|hx @afc<|hx @aaE<|hx @aaF<|hx @aaG<|hx @afd<|hx @afe<|hx @aff<|hx @afg<|hx @afj<|hx @afk<|hx @afl<|hx @agN<|hx @aaM<|hx @aaN<|hx @SX<|hx @aaO<|hx @aaP<|hx @aaQ<|hx @aaR<|hx @aaS<|hx @aaT<|hx @afm<|hx @afn<|hx @aiY<|hx @afo<|hx @aiZ<|hx @afp<|hx @afq<|hx @afr<|hx @afs<|hx @aft<|hx @afu<|hx @aaU<|hx @Qj<|hx @ai0<|hx @aaV<|hx @afv<|hx @afw<|hx @afx<|hx @afy<|hx @afz<|hx @afA<|hx @afB<|hx @l_call<|hx @Vm<|hx @Vn<|hx @afC<|hx @ai1<|hx @ai2<|hx @ai3<|hx @Qk<|hx @l_conv<|hx @ai4<|hx @Vp<|hx @afD<|hx @Vq<|hx @Fx<|hx @aaW<|hx @Vr<|hx @Kh<|hx @Vs<|hx @aaX<|hx @MP<|hx @MQ<|hx @Ia<|hx @Vt<|hx @Ib<|hx @Vu<|hx @Ic<|hx @Vv<|hx @Ql<|hx @Ie<|hx @MR<|hx @aaY<|hx @afE<|hx @Vw<|hx @afF @ai5
def ED:type_of%(hx @aiy<|hx @aiz<|hx @ae5<|hx @aaH<|hx @afh<|hx @aaI<|hx @Vj<|hx @aaJ<|hx @Vk<|hx @aaK<|hx @aaL<|hx @Vl @afi):=hx @aiy<|hx @aiz<|hx @ae5<|hx @aaH<|hx @afh<|hx @aaI<|hx @Vj<|hx @aaJ<|hx @Vk<|hx @aaK<|hx @aaL<|hx @Vl @afi
section sound
variable{P:aS}{X:Xt}{sl:Fr}{cs:Out->Prop}{d rg:Nat}{v:D}
def KO(nl nt:Nat)(sl:Fr):Prop:=(∀t,hs sl t=gQ nl t)/\∀t,gQ nl t=f->t<nt
def Ki(h:i≠t):ay i t=aA:=by
 rw[<-bY];exactλg=>h<|aT g
def afG:hs (up sl t v) rg=hs sl rg:=by
 induction sl with
 |n=>rfl
 |c i w l ih=>
  show hs (bR (ay i t) (.c i v l)<|.c i w<|up l t v) rg=bR (ay i rg) f (hs l rg);cases ay i t
  .show bR (ay i rg) f (hs (up l t v) rg)=_;rw[ih]
  .rfl
theorem KO.up(h:KO nl nt sl):KO nl nt (up sl t v):=⟨λrg=>by rw[afG];exact h.1 rg,h.2⟩
def Kj:lk sl u t=bR (hs sl t) ((tsF sl).get top t) (look u t):=by
 induction sl with
 |n=>rfl
 |c i v l ih=>
  show bR (ay i t) v (lk l u t)=bR (bR (ay i t) f<|hs l t) (((tsF l).set top i v).get top t) (look u t);rw[Tr.uM]
  by_cases e:i=t
  .subst e;rw[show ay i i=f from dw i,if_pos O];rfl
  .rw[Ki e,if_neg λh=>e h.symm,ih];rfl
def Bi(h:KO nl nt sl)(t:Nat):ig (S nl nt sl u H) t=lk sl u t:=by
 rw[Kj,h.1];rfl
def ai6:lk (up sl d v) u t=bR (hs sl d&&ay d t) v (lk sl u t):=by
 induction sl with
 |n=>rfl
 |c i w l ih=>
  show lk (bR (ay i d) (.c i v l)<|.c i w<|up l d v) u t=bR (bR (ay i d) f (hs l d)&&ay d t) v (bR (ay i t) w<|lk l u t)
  by_cases e:i=d
  .subst e;rw[show ay i i=f from dw i];show bR (ay i t) v (lk l u t)=bR (ay i t) v (bR (ay i t) w<|lk l u t);cases ay i t<;>rfl
  .rw[Ki e];show bR (ay i t) w (lk (up l d v) u t)=bR (hs l d&&ay d t) v (bR (ay i t) w<|lk l u t);rw[ih]
   by_cases e2:i=t
   .subst e2;rw[Ki (λh=>e h.symm),rY];rfl
   .rw[Ki e2];rfl
theorem ai7(hk:KO nl nt sl)(he:nV s<|S nl nt sl u H)(d:Nat)(v:D)(C:F):nV (qi s d v C) (S nl nt (bR (hs sl d) (up sl d v) sl) (bR (hs sl d) u<|(d,v)::u) C):=by
 refine(he.qi d v C).trans ?_;obtain⟨a1,a2,a3,a4⟩:=I_ (S nl nt sl u H) d v C;refine⟨a1,a2,a3,a4,λt=>?_⟩
 have hw:wr (S nl nt sl u H) d=f:=by
  show bR (gQ nl d) (aB (bU d) nt) f=f;cases hb:gQ nl d with
  |true=>exact aH<|hk.2 d hb
  |false=>rfl
 rw[yD,hw,Bi hk];cases hh:hs sl d with
 |true=>
  show _=ig (S nl nt (up sl d v) u C) t;rw[Bi hk.up,ai6,hh]
  by_cases e:d=t
  .subst e;rw[if_pos ⟨rfl,rfl⟩,show ay d d=f from dw d];rfl
  .rw[if_neg (λh=>e h.1),Ki e];rfl
 |false=>
  show _=ig (S nl nt sl ((d,v)::u) C) t;rw[Bi hk,Kj,Kj,Dj]
  by_cases e:d=t
  .subst e;rw[if_pos ⟨rfl,rfl⟩,if_pos O,hh];rfl
  .rw[if_neg (λh=>e h.1),if_neg e]
def ak2(hk:KO nl nt sl)(he:nV s<|S nl nt sl u H):wr s d=f:=by
 show bR (gQ s.nl d) (aB (bU d) s.nt) f=f;rw[he.nl,he.nt];show bR (gQ nl d) (aB (bU d) nt) f=f;cases hb:gQ nl d with
 |true=>exact aH<|hk.2 d hb
 |false=>rfl
def KO.of(h:Qh nl nt sl=f):KO nl nt sl:=by
 unfold Qh at h;rw[aZ,aZ]at h;obtain⟨⟨Q,I⟩,h3⟩:=h;have hn:nl<2^nt:=aD Q
 have hb:∀t,nt<=t->gQ nl t=aA:=λt ht=>by
  show ay (Nat.mod (Nat.shiftRight nl t) 2) 1=aA
  have:Nat.shiftRight nl t=0:=by
   show nl>>>t=0;rw[rJ];exact t_<|aP hn<|qK N ht
  rw[this];rfl
 have hq:∀t,t<nt->hs sl t=gQ nl t:=by
  intro t ht;clear Q h3 hn hb
  induction nt with
  |zero=>omega
  |succ n ih=>
   replace I:(bR (hs sl n) (gQ nl n) (!(gQ nl n))&&_)=f:=I;rw[aZ]at I
   by_cases e:t=n
   .subst e;have:=I.1;cases h5:hs sl t with
    |true=>rw[h5]at this;exact this.symm
    |false=>rw[h5,jL]at this;rw[sF]at this;exact this.symm
   .exact ih I.2 N
 have hz:∀t,nt<=t->hs sl t=aA:=by
  intro t ht;clear Q I hn hb hq
  induction sl with
  |n=>rfl
  |c i w l ih=>
   replace h3:(aB (bU i) nt&&_)=f:=h3;rw[aZ]at h3;have:=aD h3.1;show bR (ay i t) f (hs l t)=aA;rw[Ki N];exact ih h3.2
 refine⟨λt=>?_,λt ht=>?_⟩
 .by_cases h:t<nt
  .exact hq t h
  .rw[hz t N,hb t N]
 .by_cases h:t<nt
  .exact h
  .rw[hb t N]at ht;cases ht
def aaZ{Kp:D->Prop}:YB o P X s Kp Km=opG o P X (ev s) s.H Kp Km:=by
 cases o with
 |call c=>
  obtain⟨callee,args,ats⟩:=c;cases callee with
  |builtin b=>cases b<;>rfl
  |_=>rfl
 |_=>rfl
def PUm{q:Option D}{K K':D->Prop}(hp:∀v,K v->K' v)(h:PU q K):PU q K':=by
 cases q with
 |none=>exact h.elim
 |some v=>exact hp v h
def MEm{q:Option (D×F)}(hp:∀v H,K v H->K' v H)(h:ME q K):ME q K':=by
 cases q with
 |none=>exact h.elim
 |some v=>exact hp _ _ h
def CVm{q:Option D}{r:Option (D×F)}{Kp:D->Prop}(hp:∀v,Kp v->Kp' v)(hm:∀v H,K v H->K' v H)(h:CV q r Kp K):CV q r Kp' K':=by
 cases q with
 |none=>exact MEm hm h
 |some v=>exact hp _ h
def aa0{q:Option (FuncId×List D×List D)}{args:List D}(hm:∀v H,K v H->K' v H)(h:nJ P X q args H K):nJ P X q args H K':=by
 cases q with
 |none=>exact h.elim
 |some v=>exact aJ.mono (K:=K) h hm
theorem Qm{Kp:D->Prop}(hp:∀v,Kp v->Kp' v)(hm:∀v H,Km v H->Km' v H)(h:opG o P X ρ H Kp Km):opG o P X ρ H Kp' Km':=by
 cases o with
 |call c=>
  obtain⟨callee,args,ats⟩:=c;cases callee with
  |builtin b=>cases b<;>first|exact CVm hp hm h|exact PUm hp h|exact MEm hm h|exact False.elim h
  |value av=>exact aa0 hm h
  |invoke r n=>exact aa0 hm h
 |_=>first|exact hp _ h|exact CVm hp hm h|exact PUm hp h|exact MEm hm h|exact False.elim h
def KK(P:aS)(X:Xt)(vn:Code)(st:List Fm)(cs:Out->Prop)(o:Out):Prop:=∃o',Av o o'/\kO P X vn st cs o'
def gJ.kk(h:gJ P X c s<|KK P X vn st cs):gJ P X c s (kO P X vn st cs):=by
 obtain⟨o,o',Q,I,o2,h3,h4⟩:=h;exact⟨o,o2,Q,I.trans h3,h4⟩
def WM(P:aS)(X:Xt)(vn:Code)(st:List Fm)(cs:Out->Prop)(L l:List Oper)(m:Md)(s:St)(sk:List Nat):Prop:=
 @Md.rec (λ_=>Prop) (Ab P X ⟨L⟩ l s sk λs=>KK P X vn st cs<|.norm s) (λaj acc=>SK P X ⟨L⟩ l s sk acc λs cls=>jI aj cls=f/\KK P X vn st cs (.norm s)) m
def KG(P:aS)(X:Xt)(vn:Code)(st:List Fm)(cs:Out->Prop)(L l:List Oper)(m:Md)(d:Option Nat)(o:Op)(b:Bool)(s:St)(sk:List Nat):Prop:=
 @Md.rec (λ_=>Prop)
  (@gq (λ_=>Prop) (Ab P X ⟨L⟩ l (jg s d undef s.H) (Lp s sk d) λs=>KK P X vn st cs<|.norm s)
    (@aN Call (λ_=>Prop) (YB o P X s (λv=>Ab P X ⟨L⟩ l (jg s d v s.H) (lz sk d) λs=>KK P X vn st cs<|.norm s) λv H=>Ab P X ⟨L⟩ l (jg s d v H) (lz sk d) λs=>KK P X vn st cs<|.norm s) (λ_=>False)<|qM o) b)
  (λaj acc=>@gq (λ_=>Prop) (SK P X ⟨L⟩ l (jg s d undef s.H) (Lp s sk d) (cl 0::acc) λs cls=>jI aj cls=f/\KK P X vn st cs (.norm s))
   (YB o P X (gW s) (λv=>SK P X ⟨L⟩ l (jg s d v s.H) (lz sk d) (cl 0::acc) λs cls=>jI aj cls=f/\KK P X vn st cs (.norm s)) λv H=>SK P X ⟨L⟩ l (jg s d v ⟨H.vF,H.next,nN s.H.low H.low⟩) (lz sk d) (rM P o s H::acc) λs cls=>jI aj cls=f/\KK P X vn st cs (.norm s)) b) m
def Sem(P:aS)(X:Xt)(vn:Code)(st:List Fm)(cs:Out->Prop):Ct->St->Prop
 |.co c _,s=>gJ P X c s<|kO P X vn st cs
 |.cd v a b _,s=>BI v (gJ P X a s<|kO P X vn st cs)<|gJ P X b s<|kO P X vn st cs
 |.ou k,s=>∃s',nV s s'/\kO P X vn st cs (k.out s')
 |.op L l m sk,s=>WM P X vn st cs L l m s sk
 |.gu L l m sk d o gb t,s=>@aN Nat (λ_=>Prop) False (λt=>@gq (λ_=>Prop)
  (BI (jH<|ig s t) (KG P X vn st cs L l m d o (Au f gb) (qi s t (.bool f) s.H)<|qj sk t)<|KG P X vn st cs L l m d o (Au aA gb) (qi s t (.bool aA) s.H)<|qj sk t)
  (KG P X vn st cs L l m d o aA s sk) (Aa sk t)) t
 |.gv L l m sk d o gb t e v,s=>@gq (λ_=>Prop)
  (BI v (KG P X vn st cs L l m d o (Au f gb) (qi s t (.bool f) s.H)<|qj sk t)<|KG P X vn st cs L l m d o (Au aA gb) (qi s t (.bool aA) s.H)<|qj sk t)
  (KG P X vn st cs L l m d o aA s sk) e
 |.ge L l m sk d o b,s=>KG P X vn st cs L l m d o b s sk
 |.ex L l m sk d o,s=>KG P X vn st cs L l m d o f s sk
 |.pk L l m sk d c a b,s=>PU (aK c λt=>Z<|bR t a b) λv=>WM P X vn st cs L l m (jg s d v s.H) sk
 |.af L l m sk d v,s=>WM P X vn st cs L l m (jg s d v s.H) sk
 |.pt _ t v nx,s=>Sem P X vn st cs nx<|qi s t v s.H
def FOk(vn:Code)(st:List Fm):Prop:=∀p c,Fm.sq p c∈st->sub vn (yR p [])=c
def COk(vn:Code)(g:Nat->Bool):Ct->Prop
 |.co c p=>sub vn (yR p [])=c
 |.cd _ a b p=>∃x,sub vn (yR p [])=.cond x a b
 |.pt h t _ nx=>h=g t/\COk vn g nx
 |_=>True
def agO:∀{p q:List Nat},sub vn (yR p q)=sub (sub vn<|yR p []) q:=by
 intro p
 induction p with
 |nil=>intro q;rfl
 |cons i p ih=>
  intro q;show sub vn (yR p<|i::q)=sub (sub vn<|yR p [i]) q;rw[ih (q:=i::q),ih (q:=[i])];rfl
def Kk(h:sub vn (yR p [])=c):sub vn (yR (i::p) [])=kid c i:=by
 show sub vn (yR p [i])=_;rw[agO,h];rfl
def ak3(hk:KO nl nt sl)(he:nV s<|S nl nt sl u H):ev s=eq' sl u:=by
 rw[he.ev];funext x;cases x with
 |tmp t=>exact Bi hk t
 |_=>rfl
theorem snd:∀n ct st sl u H s,FOk vn st->KO nl nt sl->COk vn (hs sl) ct->nV s (S nl nt sl u H)->hr P X nl nt vn n ct st sl u H cs->Sem P X vn st cs ct s:=by
 intro n
 induction n with
 |zero=>intro ct st sl u H s _ _ _ _ h;exact False.elim (by simp only[hr]at h)
 |succ n ih=>
  intro ct st sl u H s hf hk y he h;have hH:s.H=H:=he.H;have hev:=ak3 hk he;cases ct with
  |co c p=>
   replace y:sub vn (yR p [])=c:=y;cases c with
   |skip=>
    obtain⟨s',e,h⟩:=ih (.ou .norm) st sl u H s hf hk trivial he h;exact⟨_,_,Ev.skip,.norm e,h⟩
   |region id ops dr=>
    have hcl:nV (clear s) (S nl nt sl [] H):=by
     refine⟨he.nl,he.nt,he.df,he.H,λt=>?_⟩;rw[Ec,he.lk,Bi hk,Bi hk,Kj,Kj,he.nl];show bR (gQ nl t) _ top=_;rw[<-hk.1];show bR (hs sl t) (bR (hs sl t) _ _) top=bR (hs sl t) _ top;cases hs sl t<;>rfl
    refine gJ.kk<|adF ?_;cases dr with
    |false=>exact ih (.op ops.toList ops.toList .pl []) st sl [] H (clear s) hf hk trivial hcl h
    |true=>
     obtain⟨Q,h⟩:(j4 ops&&oN ops)=f/\hr P X nl nt vn n (.op ops.toList ops.toList (.dr (opsOf<|sub vn<|yR p []) []) []) st sl [] H cs:=h;have I:=ih (.op ops.toList ops.toList (.dr (opsOf<|sub vn<|yR p []) []) []) st sl [] H (clear s) hf hk trivial hcl h;rw[y]at I;show @gq (λ_=>Prop) False (SK P X ops ops.toList (clear s) [] [] λs cls=>jI ops cls=f/\KK P X vn st cs (.norm s))<|j4 ops&&oN ops;rw[Q];exact I
   |seq a b=>
    refine gJ.seq ?_;have Q:=Kk (i:=1) y
    have key:∀av:Fm,av=.sj (1::p)\/av=.sq (1::p) b->kO P X vn (av::st) cs=sW P X b (kO P X vn st cs)/\FOk vn (av::st):=by
     intro av hff;refine⟨?_,λq c hq=>?_⟩
     .rcases hff with rfl|rfl<;>(show sW P X (sub vn<|yR (1::p) []) _=_;rw[Q];rfl)
     .rcases bM.1 hq with e|hq
      .rcases hff with rfl|rfl
       .cases e
       .cases e;exact Q
      .exact hf q c hq
    replace h:hr P X nl nt vn n (.co a<|0::p) (bR (Fg a b) (.sj<|1::p) (.sq (1::p) b)::st) sl u H cs:=h;obtain⟨k1,k2⟩:=key (bR (Fg a b) (.sj<|1::p)<|.sq (1::p) b) (by cases Fg a b;exact .inr O;exact .inl O);have:=ih (.co a<|0::p) _ sl u H s k2 hk (Kk (i:=0) y) he h;replace this:gJ P X a s (kO P X vn (bR (Fg a b) (.sj<|1::p) (.sq (1::p) b)::st) cs):=this;rw[k1]at this;exact this
   |cond x a b=>
    have:=ih (.cd (jH<|eq' sl u x) a b p) st sl u H s hf hk ⟨x,y⟩ he h;replace this:BI (jH<|eq' sl u x) (gJ P X a s<|kO P X vn st cs) (gJ P X b s<|kO P X vn st cs):=this;rw[<-hev]at this;rcases NT this with⟨hv,h⟩|⟨hv,h⟩
    .obtain⟨o,o',Q,I,h3⟩:=h;exact⟨o,o',Ev.cond hv Q,I,h3⟩
    .obtain⟨o,o',Q,I,h3⟩:=h;exact⟨o,o',Ev.cond hv Q,I,h3⟩
   |block id a=>
    exact gJ.block<|ih (.co a<|0::p) (.bk id::st) sl u H s (λq c hq=>by
     rcases bM.1 hq with e|hq
     .cases e
     .exact hf q c hq) hk (Kk (i:=0) y) he h
   |loop a=>
    replace h:gJ P X (.loop<|sub vn<|yR (0::p) []) (S nl nt sl u H) (kO P X vn st cs):=h;rw[Kk y]at h;exact gJ.alike he h
   |scope a=>
    replace h:gJ P X (.scope<|sub vn<|yR (0::p) []) (S nl nt sl u H) (kO P X vn st cs):=h;rw[Kk y]at h;exact gJ.alike he h
   |exit i=>
    obtain⟨s',e,h⟩:=ih (.ou<|.exit i) st sl u H s hf hk trivial he h;exact⟨_,_,Ev.exit,.exit i e,h⟩
   |goto i=>
    obtain⟨s',e,h⟩:=ih (.ou<|.goto i) st sl u H s hf hk trivial he h;exact⟨.goto i s,_,⟨by simp,0,rfl⟩,.goto i e,h⟩
   |label i=>
    obtain⟨s',e,h⟩:=ih (.ou .norm) st sl u H s hf hk trivial he h;exact⟨_,_,Ev.label,.norm e,h⟩
   |ret=>
    obtain⟨s',e,h⟩:=ih (.ou .ret) st sl u H s hf hk trivial he h;exact⟨_,_,Ev.ret,.ret e,h⟩
   |_=>exact False.elim h
  |cd v a b p=>
   obtain⟨x,y⟩:=y;replace h:BI v (hr P X nl nt vn n (.co a<|0::p) st sl u H cs) (hr P X nl nt vn n (.co b<|1::p) st sl u H cs):=h;show BI v (gJ P X a s<|kO P X vn st cs)<|gJ P X b s<|kO P X vn st cs;rcases NT h with⟨rfl,h⟩|⟨rfl,h⟩
   .exact ih (.co a<|0::p) st sl u H s hf hk (Kk (i:=0) y) he h
   .exact ih (.co b<|1::p) st sl u H s hf hk (Kk (i:=1) y) he h
  |ou k=>
   show∃s',nV s s'/\kO P X vn st cs (k.out s');cases st with
   |nil=>
    rw[agN]at h;exact⟨_,he,h⟩
   |cons av st=>
    have hf':FOk vn st:=λq c hq=>hf q c<|bH _ hq;cases av with
    |sq p c=>
     cases k with
     |norm=>
      have Q:gJ P X c s (kO P X vn st cs):=ih (.co c p) st sl u H s hf' hk (hf p c<|aL ..) he h;refine⟨s,nV.refl s,?_⟩;show gJ P X (sub vn<|yR p []) s<|kO P X vn st cs;rw[hf p c (aL ..)];exact Q
     |exit i=>exact ih (.ou<|.exit i) st sl u H s hf' hk trivial he h
     |goto i=>exact ih (.ou<|.goto i) st sl u H s hf' hk trivial he h
     |ret=>exact ih (.ou .ret) st sl u H s hf' hk trivial he h
    |sj p=>
     cases k with
     |norm=>exact⟨_,he,h⟩
     |exit i=>exact ih (.ou<|.exit i) st sl u H s hf' hk trivial he h
     |goto i=>exact ih (.ou<|.goto i) st sl u H s hf' hk trivial he h
     |ret=>exact ih (.ou .ret) st sl u H s hf' hk trivial he h
    |bk id=>
     rw[SX]at h;obtain⟨s',e,h⟩:=ih (.ou<|blQ id k) st sl u H s hf' hk trivial he h;refine⟨s',e,?_⟩;show kO P X vn st cs<|wN id<|k.out s'
     have:wN id (k.out s')=(blQ id k).out s':=by
      cases k with
      |exit i=>
       show bR (ay i id) _ _=Kd.out (bR (ay i id) _ _) s';cases ay i id<;>rfl
      |_=>rfl
     rw[this];exact h
  |op L l m sk=>
   cases l with
   |nil=>
    cases m with
    |pl=>
     obtain⟨s',e,h⟩:=ih (.ou .norm) st sl u H s hf hk trivial he h;exact⟨_,.norm e,h⟩
    |dr aj acc=>
     obtain⟨Q,h⟩:jI aj acc=f/\hr P X nl nt vn n (.ou .norm) st sl u H cs:=h;obtain⟨s',e,h⟩:=ih (.ou .norm) st sl u H s hf hk trivial he h;exact⟨Q,_,.norm e,h⟩
   |cons o l=>
    obtain⟨d,op,ty,pos,af,g⟩:=o;cases g with
    |none=>
     have:=ih (.ex L l m sk d op) st sl u H s hf hk trivial he h;cases m<;>exact this
    |some g=>
     have:=ih (.gu L l m sk d op g.2<|gtN L g.1) st sl u H s hf hk trivial he h;replace this:@aN Nat (λ_=>Prop) False _ (aK (nth L g.1) λo=>o.dst):=this
     have key:GuW ⟨L⟩ s sk (Z g) (KG P X vn st cs L l m d op):=by
      show @aN Oper (λ_=>Prop) False _<|nth L g.1;cases hn:nth L g.1 with
      |none=>rw[hn]at this;exact this
      |some o=>
       rw[hn]at this;replace this:@aN Nat (λ_=>Prop) False _ o.dst:=this;show @aN Nat (λ_=>Prop) False _ o.dst;cases ho:o.dst with
       |none=>rw[ho]at this;exact this
       |some t=>rw[ho]at this;exact this
     cases m<;>exact key
  |gu L l m sk d o gb t=>
   cases t with
   |none=>exact False.elim h
   |some t=>
    have:=ih (.gv L l m sk d o gb t (Aa sk t)<|jH<|lk sl u t) st sl u H s hf hk trivial he h;have hl:ig s t=lk sl u t:=by rw[he.lk,Bi hk]
    rw[<-hl]at this;exact this
  |gv L l m sk d o gb t e v=>
   cases e with
   |true=>exact ih (.ge L l m sk d o aA) st sl u H s hf hk trivial he h
   |false=>
    replace h:BI v (hr P X nl nt vn n (.pt (hs sl t) t (.bool f)<|.ge L l m (qj sk t) d o<|Au f gb) st sl u H cs) (hr P X nl nt vn n (.pt (hs sl t) t (.bool aA)<|.ge L l m (qj sk t) d o<|Au aA gb) st sl u H cs):=h;show BI v (KG P X vn st cs L l m d o (Au f gb) (qi s t (.bool f) s.H)<|qj sk t)<|KG P X vn st cs L l m d o (Au aA gb) (qi s t (.bool aA) s.H)<|qj sk t;rcases NT h with⟨rfl,h⟩|⟨rfl,h⟩
    .exact ih (.pt (hs sl t) t (.bool f)<|.ge L l m (qj sk t) d o<|Au f gb) st sl u H s hf hk ⟨O,trivial⟩ he h
    .exact ih (.pt (hs sl t) t (.bool aA)<|.ge L l m (qj sk t) d o<|Au aA gb) st sl u H s hf hk ⟨O,trivial⟩ he h
  |ge L l m sk d o b=>
   cases b with
   |true=>exact ih (.ex L l m sk d o) st sl u H s hf hk trivial he h
   |false=>
    have:=ih (.af L l (Em m) (Xz sk d) d undef) st sl u H s hf hk trivial he h
    have ha:Lp s sk d=Xz sk d:=by
     cases d with
     |none=>rfl
     |some d=>show bR (wr s d) _ _=_;rw[ak2 hk he];rfl
    cases m with
    |pl=>show Ab P X ⟨L⟩ l (jg s d undef s.H) (Lp s sk d) _;rw[ha];exact this
    |dr aj acc=>show SK P X ⟨L⟩ l (jg s d undef s.H) (Lp s sk d) (cl 0::acc) _;rw[ha];exact this
  |ex L l m sk d o=>
   show KG P X vn st cs L l m d o f s sk;have val:∀v,hr P X nl nt vn n (.af L l (Em m) (lz sk d) d v) st sl u H cs->WM P X vn st cs L l (Em m) (jg s d v s.H) (lz sk d):=λv hv=>ih (.af L l (Em m) (lz sk d) d v) st sl u H s hf hk trivial he hv
   have gen:qM o=W->opG o P X (eq' sl u) (hX m H) (λv=>hr P X nl nt vn n (.af L l (Em m) (lz sk d) d v) st sl u H cs) (λv C=>hr P X nl nt vn n (.af L l (N_ m<|Fw P o (eq' sl u) H C) (lz sk d) d v) st sl u (hY m H C) cs)->KG P X vn st cs L l m d o f s sk:=by
    intro hd h
    have hmem:∀v H2 m2,hr P X nl nt vn n (.af L l m2 (lz sk d) d v) st sl u H2 cs->WM P X vn st cs L l m2 (jg s d v H2) (lz sk d):=by
     intro v H2 m2 hv;have:=ih (.af L l m2 (lz sk d) d v) st sl u H2 ⟨s.nl,s.nt,s.reg,s.tm,s.df,H2⟩ hf hk trivial ⟨he.nl,he.nt,he.df,O,he.lk⟩ hv;cases d<;>exact this
    cases m with
    |pl=>
     show @aN Call (λ_=>Prop) _ (λ_=>False)<|qM o;rw[hd];show YB o P X s _ _;rw[aaZ,hev,hH];refine Qm (λv hv=>?_) (λv C hv=>hmem v C .pl hv) h;have:=val v hv;rw[hH]at this;exact this
    |dr aj acc=>
     show YB o P X (gW s) _ _;rw[aaZ];have Q:ev (gW s)=ev s:=by funext x;cases x<;>rfl
     rw[Q,hev];have I:(gW s).H=hN H:=by rw[<-hH];rfl
     rw[I];refine Qm (λv hv=>val v hv) (λv C hv=>?_) h;have h3:rM P o s C=Fw P o (eq' sl u) H C:=by rw[<-hev,<-hH];rfl
     rw[h3,hH];exact hmem v _ _ hv
   cases o with
   |pick x hc z=>
    have:=ih (.pk L l (Em m) (lz sk d) d (jH<|eq' sl u x) (eq' sl u hc)<|eq' sl u z) st sl u H s hf hk trivial he h;rw[<-hev]at this;cases m with
    |pl=>exact this
    |dr aj acc=>
     show YB (.pick x hc z) P X (gW s) (λv=>SK P X ⟨L⟩ l (jg s d v s.H) (lz sk d) (cl 0::acc) λs cls=>jI aj cls=f/\KK P X vn st cs (.norm s)) λ_ _=>True;rw[aaZ,show ev (gW s)=ev s from by funext x;cases x<;>rfl];exact this
   |_=>first|exact gen O h|exact False.elim h
  |pk L l m sk d c a b=>
   exact PUm (λv hv=>ih (.af L l m sk d v) st sl u H s hf hk trivial he hv) h
  |af L l m sk d v=>
   cases d with
   |none=>exact ih (.op L l m sk) st sl u H s hf hk trivial he h
   |some t=>exact ih (.pt (hs sl t) t v<|.op L l m sk) st sl u H s hf hk ⟨O,trivial⟩ he h
  |pt b t v nx=>
   obtain⟨rfl,y⟩:=y;have Q:=ai7 hk he t v s.H;rw[hH]at Q;show Sem P X vn st cs nx<|qi s t v s.H;rw[hH];cases hb:hs sl t with
   |true=>
    rw[hb]at h Q;exact ih nx st (up sl t v) u H _ hf hk.up (by rw[show hs (up sl t v)=hs sl from funext λrg=>afG];exact y) Q h
   |false=>
    rw[hb]at h Q;exact ih nx st sl ((t,v)::u) H _ hf hk y Q h
def gJ.go(hk:Qh nl nt sl=f)(y:sub vn (yR p [])=c)(h:hr P X nl nt vn n (.co c p) [] sl u H cs):gJ P X c (S nl nt sl u H) cs:=
 snd n (.co c p) [] sl u H _ (λp c h=>nomatch h) (KO.of hk) y (nV.refl _) h
end sound
def BG(P:aS)(g:Nat):Code:=@aN Func (λ_=>Code) .skip (λav=>NU av)<|nth P.funcs.toList g
def Qn(P:aS)(g:Nat):Nat:=@aN Func (λ_=>Nat) 0 (λav=>av.ntmps)<|nth P.funcs.toList g
def rsG(P:aS)(g:Nat):List ResultVar:=@aN Func (λ_=>List ResultVar) [] (λav=>av.results.toList)<|nth P.funcs.toList g
abbrev ax(P:aS)(g:Nat)(sl:Fr)(u:Rs)(H:F):St:=S (jm P g) (Qn P g) sl u H
def Kl(l:List D)(i:Nat):D:=@aN D (λ_=>D) top (λv=>v)<|nth l i
def mkS(l:List Nat)(args:List D):Fr:=@b_ Nat (λ_=>Fr) .n (λi _ r=>.c i (Kl args i) r) l
def okF(P:aS)(g:Nat)(l:List Nat)(n:Nat):Bool:=
 @aN Func (λ_=>Bool) aA (λav=>@aN Code (λ_=>Bool) aA (λ_=>f) av.body&&aB n av.ntmps) (nth P.funcs.toList g)&&Qh (jm P g) (Qn P g) (mkS l [])
def LB(P:aS)(rs:List ResultVar)(sl:Fr)(u:Rs)(H:F):(List D->Prop)->Prop:=
 @b_ ResultVar (λ_=>(List D->Prop)->Prop) (λk=>k []) (λr _ ih k=>
  @ResultVar.rec (λ_=>Prop) (λt=>ih λvs=>k<|lk sl u t::vs) (λa t=>ME (vJ P t (lk sl u a) H) λv _=>ih λvs=>k<|v::vs) r) rs
section gen
variable{P:aS}{X:Xt}{g:Nat}{q l:List Nat}{sl:Fr}{K:Out->Prop}{rs:List ResultVar}{args:List D}{k:List D->Prop}{v:D}
def ai8:Kl [] i=top:=nr (by cases i<;>rfl)
def ai9:Kl (v::vs) 0=v:=nr O
def aja:Kl (v::vs) (i+1)=Kl vs i:=nr O
def ajb:mkS [] args=.n:=nr O
def ajc:mkS (i::l) args=.c i (Kl args i) (mkS l args):=nr O
def ajd:LB P [] sl u H k=k []:=nr O
def aje:LB P (.tmp t::rs) sl u H k=LB P rs sl u H (λvs=>k<|lk sl u t::vs):=nr O
def ajf:LB P (.cell i t::rs) sl u H k=ME (vJ P t (lk sl u i) H) λv _=>LB P rs sl u H (λvs=>k<|v::vs):=nr O
def ajg:rV [v]=v:=nr O
def ajh:rV (v::w::vs)=.tuple ⟨v::w::vs⟩:=nr O
def aji:rV []=.tuple ⟨[]⟩:=nr O
def EV:type_of%(hx @ai8<|hx @ai9<|hx @aja<|hx @ajb<|hx @ajc<|hx @ajd<|hx @aje<|hx @ajf<|hx @ajg<|hx @ajh @aji):=hx @ai8<|hx @ai9<|hx @aja<|hx @ajb<|hx @ajc<|hx @ajd<|hx @aje<|hx @ajf<|hx @ajg<|hx @ajh @aji
def ajj:yR (yR q []) []=q:=by
 have:∀(q r:List Nat),yR (yR q r) []=yR r q:=by
  intro q
  induction q with
  |nil=>intro r;rfl
  |cons i q ih=>intro r;show yR (yR q<|i::r) []=_;rw[ih];rfl
 exact this q []
def goF(h:hr P X (jm P g) (Qn P g) (BG P g) n (.co c<|yR q []) [] sl u H K)(y:sub (BG P g) q=c)(hk:Qh (jm P g) (Qn P g) sl=f):gJ P X (sub (BG P g) q) (ax P g sl u H) K:=by
 have Q:sub (BG P g) (yR (yR q []) [])=c:=by rw[ajj];exact y
 rw[y];exact gJ.go hk Q h
def ajk(h:hs (mkS l args) t=f):lk (mkS l args) u t=Kl args t:=by
 induction l with
 |nil=>cases h
 |cons i l ih=>
  replace h:bR (ay i t) f (hs (mkS l args) t)=f:=h;show bR (ay i t) (Kl args i) (lk (mkS l args) u t)=_
  by_cases e:i=t
  .subst e;rw[show ay i i=f from dw i];rfl
  .rw[Ki e]at h|-;exact ih h
def ajl{b:List D}:hs (mkS l a) t=hs (mkS l b) t:=by
 induction l with
 |nil=>rfl
 |cons i l ih=>
  show bR (ay i t) f (hs (mkS l a) t)=bR (ay i t) f (hs (mkS l b) t);rw[ih]
def aa1:Kl args t=(Tr.sD top args 0 .nil).get top t:=by
 rw[Tr.lV]
 have:∀(a:List D)(k:Nat),Kl a k=a.getD k top:=by
  intro a
  induction a with
  |nil=>intro k;cases k<;>rfl
  |cons x a ih=>intro k;cases k with
   |zero=>rfl
   |succ k=>exact ih k
 rw[this];split
 .rfl
 .rename_i h;rw[bC,fC N];rw[Tr.get_nil];rfl
def ceF{K:D->F->Prop}(h:gJ P X (sub (BG P g) []) (ax P g sl [] H)<|jR P rs K)(hs':mkS l args=sl)(R:rsG P g=rs)(hor:X.o g args H=W)(hq:okF P g l (len args)=f):aJ P X g args H K:=by
 unfold okF at hq;rw[aZ]at hq;obtain⟨Q,I⟩:=hq;unfold BG ax Qn at h;unfold rsG at R;unfold Qn at I;cases hg:nth P.funcs.toList g with
 |none=>rw[hg]at Q;cases Q
 |some fn=>
  rw[hg]at h Q I R;replace Q:(@aN Code (λ_=>Bool) aA (λ_=>f) fn.body&&aB (len args) fn.ntmps)=f:=Q;rw[aZ]at Q;replace h:gJ P X (NU fn) (S (jm P g) fn.ntmps sl [] H) (jR P rs K):=h;replace I:Qh (jm P g) fn.ntmps (mkS l [])=f:=I;cases hb:fn.body with
  |none=>rw[hb]at Q;cases Q.1
  |some c=>
   have hbo:NU fn=c:=by unfold NU;rw[hb]
   rw[hbo]at h;replace R:fn.results.toList=rs:=R;subst R;refine aJ.body hor hg hb Q.2 O<|gJ.alike ?_ h;have hk:=KO.of I;have hk':KO (jm P g) fn.ntmps sl:=⟨λt=>by rw[<-hs',<-hk.1 t];exact ajl,hk.2⟩;refine⟨O,O,O,O,λt=>?_⟩;rw[Bi hk'];show bR (gQ (jm P g) t) ((Dk args fn.ntmps).get top t) top=_;rw[<-PN,<-aa1,Kj,hk'.1];cases hbit:gQ (jm P g) t with
   |false=>rfl
   |true=>
    have h3:hs sl t=f:=by rw[hk'.1];exact hbit
    have h4:lk sl [] t=Kl args t:=by subst hs';exact ajk h3
    rw[Kj,h3]at h4;exact h4.symm
def aa2(hk:Qh (jm P g) (Qn P g) sl=f):∀{rs:List ResultVar}{k:List D->Prop},LB P rs sl u H k->SL P (ax P g sl u H) rs k:=by
 have hk:=KO.of hk;have hl:∀t,ig (ax P g sl u H) t=lk sl u t:=Bi hk;intro rs
 induction rs with
 |nil=>intro k h;exact h
 |cons r rs ih=>
  intro k h;cases r with
  |tmp t=>
   show SL P _ rs λvs=>k<|ig _ t::vs;rw[hl];exact ih h
  |cell a t=>
   show ME (vJ P t (ig _ a) H) λv _=>SL P _ rs λvs=>k<|v::vs;rw[hl];exact MEm (λv C hv=>ih hv) h
def rrF{K:D->F->Prop}(h:LB P rs sl u H λvs=>K (rV vs) H)(hk:Qh (jm P g) (Qn P g) sl=f):jR P rs K (.ret<|ax P g sl u H):=Z5 O<|aa2 hk h
def rnF{K:D->F->Prop}(h:LB P rs sl u H λvs=>K (rV vs) H)(hk:Qh (jm P g) (Qn P g) sl=f):jR P rs K (.norm<|ax P g sl u H):=Xo O<|aa2 hk h
def YE{sl':D->Fr}(a0:Nat){h2:Nat->D->F->Prop}(h:∀n(x0:D)(u:Rs)(H:F),h2 n x0 H->gJ P X (sub (BG P g) p) (ax P g (sl' x0) u H) (FV (λm s=>∃(x0:D)(u:Rs)(H:F),s=ax P g (sl' x0) u H/\h2 m x0 H) n K))(n:Nat)(h0:h2 n (lk sl [] a0) H)(hu:∀x0,up sl a0 x0=sl' x0:=by intros;conv=>lhs;simp only[Gs,Gt,↓reduceIte,dh,Nat.reduceBEq])(he:sl' (lk sl [] a0)=sl:=by rfl):gJ P X (.loop<|sub (BG P g) p) (ax P g sl u H) K:=
 gJ.Cr (hr:=λm s=>∃(x0:D)(u:Rs)(H:F),s=ax P g (sl' x0) u H/\h2 m x0 H) (λn s hs=>by obtain⟨x0,u,H,rfl,hI⟩:=hs;exact h n x0 u H hI) n _ ⟨_,u,H,by rw[he],h0⟩
def lp2{sl':D->D->Fr}(a0 a1:Nat){h2:Nat->D->D->F->Prop}(h:∀n(x0 x1:D)(u:Rs)(H:F),h2 n x0 x1 H->gJ P X (sub (BG P g) p) (ax P g (sl' x0 x1) u H) (FV (λm s=>∃(x0 x1:D)(u:Rs)(H:F),s=ax P g (sl' x0 x1) u H/\h2 m x0 x1 H) n K))(n:Nat)(h0:h2 n (lk sl [] a0) (lk sl [] a1) H)(hu:∀x0 x1,up (up sl a0 x0) a1 x1=sl' x0 x1:=by intros;conv=>lhs;simp only[Gs,Gt,↓reduceIte,dh,Nat.reduceBEq])(he:sl' (lk sl [] a0) (lk sl [] a1)=sl:=by rfl):gJ P X (.loop<|sub (BG P g) p) (ax P g sl u H) K:=
 gJ.Cr (hr:=λm s=>∃(x0 x1:D)(u:Rs)(H:F),s=ax P g (sl' x0 x1) u H/\h2 m x0 x1 H) (λn s hs=>by obtain⟨x0,x1,u,H,rfl,hI⟩:=hs;exact h n x0 x1 u H hI) n _ ⟨_,_,u,H,by rw[he],h0⟩
def Ig{sl':D->D->D->Fr}(a0 a1 a2:Nat){h2:Nat->D->D->D->F->Prop}(h:∀n(x0 x1 x2:D)(u:Rs)(H:F),h2 n x0 x1 x2 H->gJ P X (sub (BG P g) p) (ax P g (sl' x0 x1 x2) u H) (FV (λm s=>∃(x0 x1 x2:D)(u:Rs)(H:F),s=ax P g (sl' x0 x1 x2) u H/\h2 m x0 x1 x2 H) n K))(n:Nat)(h0:h2 n (lk sl [] a0) (lk sl [] a1) (lk sl [] a2) H)(hu:∀x0 x1 x2,up (up (up sl a0 x0) a1 x1) a2 x2=sl' x0 x1 x2:=by intros;conv=>lhs;simp only[Gs,Gt,↓reduceIte,dh,Nat.reduceBEq])(he:sl' (lk sl [] a0) (lk sl [] a1) (lk sl [] a2)=sl:=by rfl):gJ P X (.loop<|sub (BG P g) p) (ax P g sl u H) K:=
 gJ.Cr (hr:=λm s=>∃(x0 x1 x2:D)(u:Rs)(H:F),s=ax P g (sl' x0 x1 x2) u H/\h2 m x0 x1 x2 H) (λn s hs=>by obtain⟨x0,x1,x2,u,H,rfl,hI⟩:=hs;exact h n x0 x1 x2 u H hI) n _ ⟨_,_,_,u,H,by rw[he],h0⟩
def Oa{sl':D->D->D->D->Fr}(a0 a1 a2 a3:Nat){h2:Nat->D->D->D->D->F->Prop}(h:∀n(x0 x1 x2 x3:D)(u:Rs)(H:F),h2 n x0 x1 x2 x3 H->gJ P X (sub (BG P g) p) (ax P g (sl' x0 x1 x2 x3) u H) (FV (λm s=>∃(x0 x1 x2 x3:D)(u:Rs)(H:F),s=ax P g (sl' x0 x1 x2 x3) u H/\h2 m x0 x1 x2 x3 H) n K))(n:Nat)(h0:h2 n (lk sl [] a0) (lk sl [] a1) (lk sl [] a2) (lk sl [] a3) H)(hu:∀x0 x1 x2 x3,up (up (up (up sl a0 x0) a1 x1) a2 x2) a3 x3=sl' x0 x1 x2 x3:=by intros;conv=>lhs;simp only[Gs,Gt,↓reduceIte,dh,Nat.reduceBEq])(he:sl' (lk sl [] a0) (lk sl [] a1) (lk sl [] a2) (lk sl [] a3)=sl:=by rfl):gJ P X (.loop<|sub (BG P g) p) (ax P g sl u H) K:=
 gJ.Cr (hr:=λm s=>∃(x0 x1 x2 x3:D)(u:Rs)(H:F),s=ax P g (sl' x0 x1 x2 x3) u H/\h2 m x0 x1 x2 x3 H) (λn s hs=>by obtain⟨x0,x1,x2,x3,u,H,rfl,hI⟩:=hs;exact h n x0 x1 x2 x3 u H hI) n _ ⟨_,_,_,_,u,H,by rw[he],h0⟩
def Vx{sl':D->D->D->D->D->Fr}(a0 a1 a2 a3 a4:Nat){h2:Nat->D->D->D->D->D->F->Prop}(h:∀n(x0 x1 x2 x3 x4:D)(u:Rs)(H:F),h2 n x0 x1 x2 x3 x4 H->gJ P X (sub (BG P g) p) (ax P g (sl' x0 x1 x2 x3 x4) u H) (FV (λm s=>∃(x0 x1 x2 x3 x4:D)(u:Rs)(H:F),s=ax P g (sl' x0 x1 x2 x3 x4) u H/\h2 m x0 x1 x2 x3 x4 H) n K))(n:Nat)(h0:h2 n (lk sl [] a0) (lk sl [] a1) (lk sl [] a2) (lk sl [] a3) (lk sl [] a4) H)(hu:∀x0 x1 x2 x3 x4,up (up (up (up (up sl a0 x0) a1 x1) a2 x2) a3 x3) a4 x4=sl' x0 x1 x2 x3 x4:=by intros;conv=>lhs;simp only[Gs,Gt,↓reduceIte,dh,Nat.reduceBEq])(he:sl' (lk sl [] a0) (lk sl [] a1) (lk sl [] a2) (lk sl [] a3) (lk sl [] a4)=sl:=by rfl):gJ P X (.loop<|sub (BG P g) p) (ax P g sl u H) K:=
 gJ.Cr (hr:=λm s=>∃(x0 x1 x2 x3 x4:D)(u:Rs)(H:F),s=ax P g (sl' x0 x1 x2 x3 x4) u H/\h2 m x0 x1 x2 x3 x4 H) (λn s hs=>by obtain⟨x0,x1,x2,x3,x4,u,H,rfl,hI⟩:=hs;exact h n x0 x1 x2 x3 x4 u H hI) n _ ⟨_,_,_,_,_,u,H,by rw[he],h0⟩
def lp6{sl':D->D->D->D->D->D->Fr}(a0 a1 a2 a3 a4 a5:Nat){h2:Nat->D->D->D->D->D->D->F->Prop}(h:∀n(x0 x1 x2 x3 x4 x5:D)(u:Rs)(H:F),h2 n x0 x1 x2 x3 x4 x5 H->gJ P X (sub (BG P g) p) (ax P g (sl' x0 x1 x2 x3 x4 x5) u H) (FV (λm s=>∃(x0 x1 x2 x3 x4 x5:D)(u:Rs)(H:F),s=ax P g (sl' x0 x1 x2 x3 x4 x5) u H/\h2 m x0 x1 x2 x3 x4 x5 H) n K))(n:Nat)(h0:h2 n (lk sl [] a0) (lk sl [] a1) (lk sl [] a2) (lk sl [] a3) (lk sl [] a4) (lk sl [] a5) H)(hu:∀x0 x1 x2 x3 x4 x5,up (up (up (up (up (up sl a0 x0) a1 x1) a2 x2) a3 x3) a4 x4) a5 x5=sl' x0 x1 x2 x3 x4 x5:=by intros;conv=>lhs;simp only[Gs,Gt,↓reduceIte,dh,Nat.reduceBEq])(he:sl' (lk sl [] a0) (lk sl [] a1) (lk sl [] a2) (lk sl [] a3) (lk sl [] a4) (lk sl [] a5)=sl:=by rfl):gJ P X (.loop<|sub (BG P g) p) (ax P g sl u H) K:=
 gJ.Cr (hr:=λm s=>∃(x0 x1 x2 x3 x4 x5:D)(u:Rs)(H:F),s=ax P g (sl' x0 x1 x2 x3 x4 x5) u H/\h2 m x0 x1 x2 x3 x4 x5 H) (λn s hs=>by obtain⟨x0,x1,x2,x3,x4,x5,u,H,rfl,hI⟩:=hs;exact h n x0 x1 x2 x3 x4 x5 u H hI) n _ ⟨_,_,_,_,_,_,u,H,by rw[he],h0⟩
def lp7{sl':D->D->D->D->D->D->D->Fr}(a0 a1 a2 a3 a4 a5 a6:Nat){h2:Nat->D->D->D->D->D->D->D->F->Prop}(h:∀n(x0 x1 x2 x3 x4 x5 x6:D)(u:Rs)(H:F),h2 n x0 x1 x2 x3 x4 x5 x6 H->gJ P X (sub (BG P g) p) (ax P g (sl' x0 x1 x2 x3 x4 x5 x6) u H) (FV (λm s=>∃(x0 x1 x2 x3 x4 x5 x6:D)(u:Rs)(H:F),s=ax P g (sl' x0 x1 x2 x3 x4 x5 x6) u H/\h2 m x0 x1 x2 x3 x4 x5 x6 H) n K))(n:Nat)(h0:h2 n (lk sl [] a0) (lk sl [] a1) (lk sl [] a2) (lk sl [] a3) (lk sl [] a4) (lk sl [] a5) (lk sl [] a6) H)(hu:∀x0 x1 x2 x3 x4 x5 x6,up (up (up (up (up (up (up sl a0 x0) a1 x1) a2 x2) a3 x3) a4 x4) a5 x5) a6 x6=sl' x0 x1 x2 x3 x4 x5 x6:=by intros;conv=>lhs;simp only[Gs,Gt,↓reduceIte,dh,Nat.reduceBEq])(he:sl' (lk sl [] a0) (lk sl [] a1) (lk sl [] a2) (lk sl [] a3) (lk sl [] a4) (lk sl [] a5) (lk sl [] a6)=sl:=by rfl):gJ P X (.loop<|sub (BG P g) p) (ax P g sl u H) K:=
 gJ.Cr (hr:=λm s=>∃(x0 x1 x2 x3 x4 x5 x6:D)(u:Rs)(H:F),s=ax P g (sl' x0 x1 x2 x3 x4 x5 x6) u H/\h2 m x0 x1 x2 x3 x4 x5 x6 H) (λn s hs=>by obtain⟨x0,x1,x2,x3,x4,x5,x6,u,H,rfl,hI⟩:=hs;exact h n x0 x1 x2 x3 x4 x5 x6 u H hI) n _ ⟨_,_,_,_,_,_,_,u,H,by rw[he],h0⟩
def lp8{sl':D->D->D->D->D->D->D->D->Fr}(a0 a1 a2 a3 a4 a5 a6 a7:Nat){h2:Nat->D->D->D->D->D->D->D->D->F->Prop}(h:∀n(x0 x1 x2 x3 x4 x5 x6 x7:D)(u:Rs)(H:F),h2 n x0 x1 x2 x3 x4 x5 x6 x7 H->gJ P X (sub (BG P g) p) (ax P g (sl' x0 x1 x2 x3 x4 x5 x6 x7) u H) (FV (λm s=>∃(x0 x1 x2 x3 x4 x5 x6 x7:D)(u:Rs)(H:F),s=ax P g (sl' x0 x1 x2 x3 x4 x5 x6 x7) u H/\h2 m x0 x1 x2 x3 x4 x5 x6 x7 H) n K))(n:Nat)(h0:h2 n (lk sl [] a0) (lk sl [] a1) (lk sl [] a2) (lk sl [] a3) (lk sl [] a4) (lk sl [] a5) (lk sl [] a6) (lk sl [] a7) H)(hu:∀x0 x1 x2 x3 x4 x5 x6 x7,up (up (up (up (up (up (up (up sl a0 x0) a1 x1) a2 x2) a3 x3) a4 x4) a5 x5) a6 x6) a7 x7=sl' x0 x1 x2 x3 x4 x5 x6 x7:=by intros;conv=>lhs;simp only[Gs,Gt,↓reduceIte,dh,Nat.reduceBEq])(he:sl' (lk sl [] a0) (lk sl [] a1) (lk sl [] a2) (lk sl [] a3) (lk sl [] a4) (lk sl [] a5) (lk sl [] a6) (lk sl [] a7)=sl:=by rfl):gJ P X (.loop<|sub (BG P g) p) (ax P g sl u H) K:=
 gJ.Cr (hr:=λm s=>∃(x0 x1 x2 x3 x4 x5 x6 x7:D)(u:Rs)(H:F),s=ax P g (sl' x0 x1 x2 x3 x4 x5 x6 x7) u H/\h2 m x0 x1 x2 x3 x4 x5 x6 x7 H) (λn s hs=>by obtain⟨x0,x1,x2,x3,x4,x5,x6,x7,u,H,rfl,hI⟩:=hs;exact h n x0 x1 x2 x3 x4 x5 x6 x7 u H hI) n _ ⟨_,_,_,_,_,_,_,_,u,H,by rw[he],h0⟩
def lp9{sl':D->D->D->D->D->D->D->D->D->Fr}(a0 a1 a2 a3 a4 a5 a6 a7 a8:Nat){h2:Nat->D->D->D->D->D->D->D->D->D->F->Prop}(h:∀n(x0 x1 x2 x3 x4 x5 x6 x7 x8:D)(u:Rs)(H:F),h2 n x0 x1 x2 x3 x4 x5 x6 x7 x8 H->gJ P X (sub (BG P g) p) (ax P g (sl' x0 x1 x2 x3 x4 x5 x6 x7 x8) u H) (FV (λm s=>∃(x0 x1 x2 x3 x4 x5 x6 x7 x8:D)(u:Rs)(H:F),s=ax P g (sl' x0 x1 x2 x3 x4 x5 x6 x7 x8) u H/\h2 m x0 x1 x2 x3 x4 x5 x6 x7 x8 H) n K))(n:Nat)(h0:h2 n (lk sl [] a0) (lk sl [] a1) (lk sl [] a2) (lk sl [] a3) (lk sl [] a4) (lk sl [] a5) (lk sl [] a6) (lk sl [] a7) (lk sl [] a8) H)(hu:∀x0 x1 x2 x3 x4 x5 x6 x7 x8,up (up (up (up (up (up (up (up (up sl a0 x0) a1 x1) a2 x2) a3 x3) a4 x4) a5 x5) a6 x6) a7 x7) a8 x8=sl' x0 x1 x2 x3 x4 x5 x6 x7 x8:=by intros;conv=>lhs;simp only[Gs,Gt,↓reduceIte,dh,Nat.reduceBEq])(he:sl' (lk sl [] a0) (lk sl [] a1) (lk sl [] a2) (lk sl [] a3) (lk sl [] a4) (lk sl [] a5) (lk sl [] a6) (lk sl [] a7) (lk sl [] a8)=sl:=by rfl):gJ P X (.loop<|sub (BG P g) p) (ax P g sl u H) K:=
 gJ.Cr (hr:=λm s=>∃(x0 x1 x2 x3 x4 x5 x6 x7 x8:D)(u:Rs)(H:F),s=ax P g (sl' x0 x1 x2 x3 x4 x5 x6 x7 x8) u H/\h2 m x0 x1 x2 x3 x4 x5 x6 x7 x8 H) (λn s hs=>by obtain⟨x0,x1,x2,x3,x4,x5,x6,x7,x8,u,H,rfl,hI⟩:=hs;exact h n x0 x1 x2 x3 x4 x5 x6 x7 x8 u H hI) n _ ⟨_,_,_,_,_,_,_,_,_,u,H,by rw[he],h0⟩
def agP{sl':D->D->D->D->D->D->D->D->D->D->Fr}(a0 a1 a2 a3 a4 a5 a6 a7 a8 a9:Nat){h2:Nat->D->D->D->D->D->D->D->D->D->D->F->Prop}(h:∀n(x0 x1 x2 x3 x4 x5 x6 x7 x8 x9:D)(u:Rs)(H:F),h2 n x0 x1 x2 x3 x4 x5 x6 x7 x8 x9 H->gJ P X (sub (BG P g) p) (ax P g (sl' x0 x1 x2 x3 x4 x5 x6 x7 x8 x9) u H) (FV (λm s=>∃(x0 x1 x2 x3 x4 x5 x6 x7 x8 x9:D)(u:Rs)(H:F),s=ax P g (sl' x0 x1 x2 x3 x4 x5 x6 x7 x8 x9) u H/\h2 m x0 x1 x2 x3 x4 x5 x6 x7 x8 x9 H) n K))(n:Nat)(h0:h2 n (lk sl [] a0) (lk sl [] a1) (lk sl [] a2) (lk sl [] a3) (lk sl [] a4) (lk sl [] a5) (lk sl [] a6) (lk sl [] a7) (lk sl [] a8) (lk sl [] a9) H)(hu:∀x0 x1 x2 x3 x4 x5 x6 x7 x8 x9,up (up (up (up (up (up (up (up (up (up sl a0 x0) a1 x1) a2 x2) a3 x3) a4 x4) a5 x5) a6 x6) a7 x7) a8 x8) a9 x9=sl' x0 x1 x2 x3 x4 x5 x6 x7 x8 x9:=by intros;conv=>lhs;simp only[Gs,Gt,↓reduceIte,dh,Nat.reduceBEq])(he:sl' (lk sl [] a0) (lk sl [] a1) (lk sl [] a2) (lk sl [] a3) (lk sl [] a4) (lk sl [] a5) (lk sl [] a6) (lk sl [] a7) (lk sl [] a8) (lk sl [] a9)=sl:=by rfl):gJ P X (.loop<|sub (BG P g) p) (ax P g sl u H) K:=
 gJ.Cr (hr:=λm s=>∃(x0 x1 x2 x3 x4 x5 x6 x7 x8 x9:D)(u:Rs)(H:F),s=ax P g (sl' x0 x1 x2 x3 x4 x5 x6 x7 x8 x9) u H/\h2 m x0 x1 x2 x3 x4 x5 x6 x7 x8 x9 H) (λn s hs=>by obtain⟨x0,x1,x2,x3,x4,x5,x6,x7,x8,x9,u,H,rfl,hI⟩:=hs;exact h n x0 x1 x2 x3 x4 x5 x6 x7 x8 x9 u H hI) n _ ⟨_,_,_,_,_,_,_,_,_,_,u,H,by rw[he],h0⟩
def ajm{sl':D->D->D->D->D->D->D->D->D->D->D->D->D->D->Fr}(a0 a1 a2 a3 a4 a5 a6 a7 a8 a9 a10 a11 a12 a13:Nat){h2:Nat->D->D->D->D->D->D->D->D->D->D->D->D->D->D->F->Prop}(h:∀n(x0 x1 x2 x3 x4 x5 x6 x7 x8 x9 jh iL kQ jF:D)(u:Rs)(H:F),h2 n x0 x1 x2 x3 x4 x5 x6 x7 x8 x9 jh iL kQ jF H->gJ P X (sub (BG P g) p) (ax P g (sl' x0 x1 x2 x3 x4 x5 x6 x7 x8 x9 jh iL kQ jF) u H) (FV (λm s=>∃(x0 x1 x2 x3 x4 x5 x6 x7 x8 x9 jh iL kQ jF:D)(u:Rs)(H:F),s=ax P g (sl' x0 x1 x2 x3 x4 x5 x6 x7 x8 x9 jh iL kQ jF) u H/\h2 m x0 x1 x2 x3 x4 x5 x6 x7 x8 x9 jh iL kQ jF H) n K))(n:Nat)(h0:h2 n (lk sl [] a0) (lk sl [] a1) (lk sl [] a2) (lk sl [] a3) (lk sl [] a4) (lk sl [] a5) (lk sl [] a6) (lk sl [] a7) (lk sl [] a8) (lk sl [] a9) (lk sl [] a10) (lk sl [] a11) (lk sl [] a12) (lk sl [] a13) H)(hu:∀x0 x1 x2 x3 x4 x5 x6 x7 x8 x9 jh iL kQ jF,up (up (up (up (up (up (up (up (up (up (up (up (up (up sl a0 x0) a1 x1) a2 x2) a3 x3) a4 x4) a5 x5) a6 x6) a7 x7) a8 x8) a9 x9) a10 jh) a11 iL) a12 kQ) a13 jF=sl' x0 x1 x2 x3 x4 x5 x6 x7 x8 x9 jh iL kQ jF:=by intros;conv=>lhs;simp only[Gs,Gt,↓reduceIte,dh,Nat.reduceBEq])(he:sl' (lk sl [] a0) (lk sl [] a1) (lk sl [] a2) (lk sl [] a3) (lk sl [] a4) (lk sl [] a5) (lk sl [] a6) (lk sl [] a7) (lk sl [] a8) (lk sl [] a9) (lk sl [] a10) (lk sl [] a11) (lk sl [] a12) (lk sl [] a13)=sl:=by rfl):gJ P X (.loop<|sub (BG P g) p) (ax P g sl u H) K:=
 gJ.Cr (hr:=λm s=>∃(x0 x1 x2 x3 x4 x5 x6 x7 x8 x9 jh iL kQ jF:D)(u:Rs)(H:F),s=ax P g (sl' x0 x1 x2 x3 x4 x5 x6 x7 x8 x9 jh iL kQ jF) u H/\h2 m x0 x1 x2 x3 x4 x5 x6 x7 x8 x9 jh iL kQ jF H) (λn s hs=>by obtain⟨x0,x1,x2,x3,x4,x5,x6,x7,x8,x9,jh,iL,kQ,jF,u,H,rfl,hI⟩:=hs;exact h n x0 x1 x2 x3 x4 x5 x6 x7 x8 x9 jh iL kQ jF u H hI) n _ ⟨_,_,_,_,_,_,_,_,_,_,_,_,_,_,u,H,by rw[he],h0⟩
end gen
end Go.Ae.SH
namespace Go.Ae
variable{args rest vs:List D}{H C H0:F}{m:Mp}{g:FuncId}{w:bW}{c es n r:Nat}{L:List dJ}{ty:aG}{v:D}
def hpT(n:Nat)(t1 t2:aG):F:=⟨Tr.set .dead (Tr.set .dead .nil 1<|uX t1 .u8 Dr) 2<|uX t2 .u8 IE,n,n⟩
def adN(n:Nat)(t1 t2:aG)(r:Nat):(hpT n t1 t2).obj r=if r=2 then uX t2 .u8 IE else if r=1 then uX t1 .u8 Dr else .dead:=by
 show(Tr.set .dead (Tr.set .dead .nil 1<|uX t1 .u8 Dr) 2<|uX t2 .u8 IE).get .dead r=_;rw[Tr.uM,Tr.uM,Tr.get_nil]
def Qo(rh:RH m H w)(gl:Gl n m)(R:r<n){k:fu}{l:List Nat}(h:H.obj r=uX ty k l):TabAt w (uX ty k l) r:=by
 obtain⟨lc,Q,I,h3,h4⟩:=gl r R;obtain⟨o,h5,h6⟩:=rh.ok r lc Q;rw[I]at h5;rw[h]at h6;cases o with
 |cells E ty' fr=>
  obtain⟨⟨e1,_⟩,e2,e3,e4,e5,e6,e7⟩:=h6;have e1:ty'=ty:=e1;subst e1;refine .inr ⟨ty',k,l,E,fr,O,h5,λi z hz=>?_⟩;have hi:i<l.length:=(bA.1 hz).1;have hi':i<(len l):=by rw[fQ];exact hi
  obtain⟨v,g1,g2⟩:=e7 i N hi';rw[h4,h3,aW,jT]at g1;have:VR m ((Tr.sD top (mp (λn=>bV k<|Int.ofNat n) l) 0 .nil).get top i) v:=g2;rw[Tr.lV,ER,if_pos (by simp;omega),bC,jT,bD,hz]at this;rw[g1,this.of_int];rfl
 |_=>exact absurd h6 id
def adO(rh:RH m H w)(gl:Gl n m):n<=w.heap.size:=by
 cases n with
 |zero=>exact bg _
 |succ n=>
  obtain⟨lc,Q,I,_⟩:=gl n<|dI n;obtain⟨o,h5,_⟩:=rh.ok n lc Q;have:=oG h5;omega
def RH.below{w':bW}(rh:RH m H w)(hb:Go.RowKit.Below w.heap.size w w'):RH m H w'/\Ex m m H H w w':=by
 refine⟨⟨rh.dom,λr l R=>?_,rh.sep⟩,?_⟩
 .obtain⟨o,Q,I⟩:=rh.ok r l R;exact⟨o,by rw[hb.block _ (oG Q)];exact Q,I⟩
 .exact⟨λ_ _ h=>h,λr l h h'=>(by rw[h]at h';cases h'),λr l h h'=>(by rw[h]at h';cases h'),hb.os,hb.tape,hb.output,hb.size,λc y _=>hb.block c y,az _,az _,λ_ _ _=>rfl,λ_ _ _=>rfl⟩
section mem
variable{P:aS}
def Vy{X:Xt}{k:Nat}(hn:3<=n)(hmo:P.follows .mixedOrders=f)(hP:BH P n)(hX:Yy P X)(hO:IC P X n){fn:Func}(hg:P.funcs[g]?=Z fn)(hb:fn.body.isSome=f)(h:∀t1 t2,UY n f (j5 P X k g []<|hpT n t1 t2)=f)(ho:orT args H=Z (v,C)):
 (∃fn,P.funcs[g]?=Z fn/\fn.body.isSome=f)/\∀m w args',RH m H w->Gl n m->kT m args args'->
  Calls P g ⟨args'⟩ w λe w'=>∃m' v',e=.returned v'/\VR m' v v'/\RH m' C w'/\Ex m m' H C w w':=by
 obtain⟨rfl,hT,rfl,rfl⟩:=agK ho;refine⟨⟨fn,hg,hb⟩,λm w args' rh gl ha=>?_⟩;cases ha;obtain⟨h0,t1,t2,e1,e2⟩:=hT;obtain⟨H1,Q,I⟩:=ZU<|h t1 t2;refine(SI (H:=hpT n t1 t2) hmo hP hX hO hg hb Q I O O (adO rh gl) ?_).mono ?_
 .intro r R;rw[adN]
  by_cases r2:r=2
  .subst r2;rw[if_pos O];exact Qo rh gl N e2
  .rw[if_neg r2]
   by_cases r1:r=1
   .subst r1;rw[if_pos O];exact Qo rh gl N e1
   .rw[if_neg r1];exact .inl O
 .rintro e w' ⟨rfl,hbw⟩;obtain⟨g1,g2⟩:=rh.below hbw;exact⟨m,.bool f,O,.sc _ O,g1,g2⟩
end mem
section
open Go.Sort
section turn
def RH.grown(rh:RH m H w)(n:Nat)(os:Array Obj):RH m H (grow (Sort.ahead w n) os)/\Ex m m H H w (grow (Sort.ahead w n) os):=by
 have hk:∀c,c<w.heap.size->(grow (Sort.ahead w n) os).heap[c]?=w.heap[c]?:=λc y=>by
  show(w.heap++os)[c]?=_;rw[qR y]
 refine⟨⟨rh.dom,λr l R=>?_,rh.sep⟩,?_⟩
 .obtain⟨o,Q,I⟩:=rh.ok r l R;exact⟨o,by rw[hk _ (oG Q)];exact Q,I⟩
 .exact⟨λ_ _ h=>h,λr l h h'=>(by rw[h]at h';cases h'),λr l h h'=>(by rw[h]at h';cases h'),rfl,rfl,rfl,by show w.heap.size<=(w.heap++os).size;simp,λc y _=>hk c y,az _,az _,λ_ _ _=>rfl,λ_ _ _=>rfl⟩
theorem RH.turn(rh:RH m H w){off:Nat}{l:Loc}(h:H.write r off vs=Z C)(hv:kT m vs vs)(hn:vs≠[])(hm:m r=Z l)(hl:l.lo<=off)(n:Nat)(os:Array Obj):
 (RH m C (grow (putRow id (Sort.ahead w n) l.c (l.base+(off-l.lo)) vs.toArray) os)/\Ex m m H C w (grow (putRow id (Sort.ahead w n) l.c (l.base+(off-l.lo)) vs.toArray) os))/\
 l.c<w.heap.size/\∀j,w.frozen? ⟨l.c,l.base+(off-l.lo)+j,W⟩=aA:=by
 cases vs with
 |nil=>exact absurd O hn
 |cons v x=>
  replace h:(aK (vE<|H.obj r) λw=>
   gd (!w.kR&&aB (aV off<|len<|v::x) w.n&&aB w.fz off&&all' fB (v::x))
   (Z<|H.put r<|.row ⟨w.ty,Tr.sD top (v::x) off w.cells,w.n,aA,w.fz⟩))=Z C:=h
  obtain⟨hr,hR,h⟩:=aI h;obtain⟨hg,h⟩:=fH h;cases h;have G6:=tu hR;simp only[aZ,fQ,all_eq]at hg;obtain⟨⟨⟨g0,g1⟩,g2⟩,g3⟩:=hg;have g1:off+(v::x).length<=hr.n:=aD g1;have g2:=aD g2;obtain⟨E,fr,hb,hnn,I,h3,h4,h5,h6⟩:=row_of rh hm G6;have hfr:=h5 (by simpa using g0);have y:=oG hb
  have e1:(putRow id (Sort.ahead w n) l.c (l.base+(off-l.lo)) (v::x).toArray).heap[l.c]?=Z (.cells (putCells id (l.base+(off-l.lo)) (v::x).toArray E) hr.ty fr):=by
   show(w.heap.modify l.c<|onCells _)[l.c]?=_;rw[iM,if_pos O,hb];rfl
  have hu:=RH.update rh r l (.row ⟨hr.ty,Tr.sD top (v::x) off hr.cells,hr.n,aA,hr.fz⟩) (.cells (putCells id (l.base+(off-l.lo)) (v::x).toArray E) hr.ty fr) hm (by rw[G6];simp) ?_ e1 (by simp) (λc h=>by
   show(w.heap.modify l.c<|onCells _)[c]?=_;rw[iM,if_neg<|oJ h]) O O O
  .have hg:=hu.1.grown 0 os;refine⟨⟨hg.1,hu.2.trans hg.2⟩,y,λj=>?_⟩;show(match w.heap[l.c]? with|some (.cells _ _ (lo,hi))=>lo<=l.base+(off-l.lo)+j&&l.base+(off-l.lo)+j<hi|_=>aA)=aA;rw[hb];show(decide (fr.1<=_)&&decide (_<fr.2))=aA;rw[Bool.and_eq_false_iff];exact .inr<|dn N
  .refine⟨⟨O,base_of rh hm G6⟩,hnn,by simp[putCells,I],h3,h4,λ_=>hfr,?_⟩;intro i a b;rw[Tr.lV];obtain⟨rg,hu1,hu2⟩:=h6 i a b
   have e2:(putCells id (l.base+(off-l.lo)) (v::x).toArray E)[l.base+(i-l.lo)]?=Z (if l.base+(off-l.lo)<=l.base+(i-l.lo)/\l.base+(i-l.lo)<l.base+(off-l.lo)+(v::x).length then(v::x).toArray[l.base+(i-l.lo)-(l.base+(off-l.lo))]! else rg):=by
    unfold putCells;rw[um,hu1];rfl
   rw[e2]
   by_cases hin:off<=i/\i<off+(v::x).length
   .rw[if_pos N,if_pos hin,show l.base+(i-l.lo)-(l.base+(off-l.lo))=i-off from by omega];have hlt:i-off<(v::x).length:=by omega
    have hgi:(v::x)[i-off]?=Z ((v::x).getD (i-off) top):=by
     rw[bC,au hlt];rfl
    obtain⟨rg,hu1,hu2⟩:=hv.get (i-off) hgi;refine⟨_,O,?_⟩
    have:(v::x).toArray[i-off]! =rg:=by
     rw[pJ,List.getElem!_eq_getElem?_getD,hu1];rfl
    rw[this];exact hu2
   .rw[if_neg N,if_neg hin];exact⟨rg,O,hu2⟩
def kT.row(h:kT m (T (Z ⟨r,0,W⟩) (n+1) c::rest) args):∃l c' rest',m r=Z l/\l.lo<=0/\kT m rest rest'/\args=T (Z ⟨l.c,l.base+(0-l.lo),W⟩) (n+1) c'::rest':=by
 cases h with
 |cons _ v' _ x' hv J=>
  cases hv with
  |sc _ h=>exact Bool.noConfusion h
  |slice _ _ _ _ l h hl hk hn=>exact⟨l,_,_,h,hl,J,O⟩
  |rW _ _ _ _ cc l h hl he ht y hN=>exact⟨l,_,_,h,hl,J,O⟩
end turn
section rows
variable{α:Type}(enc:α->List D)(av:List α->List α)
open Classical in
def orW(es:Nat)(rest:List D):List D->F->Option (D×F)
 |.slice (Z ⟨r,0,W⟩) (n+1) _::l,H=>
  if h:l=rest/\n<1000000/\∃zs:List α,zs.length=n+1/\H.read r 0 ((n+1)*es)=Z (zs.flatMap enc)then
   (H.write r 0<|(av h.2.2.choose).flatMap enc).map λC=>(.tuple ⟨[]⟩,C)else W
 |_,_=>W
structure Put(es:Nat):Prop where
 len:∀x,(enc x).length=es
 pos:0<es
 sc:∀x,∀v∈enc x,mU v=f/\fB v=f
 perm:∀zs,(av zs).Perm zs
variable{enc av}
def Put.flat(hp:Put enc av es):∀zs:List α,(zs.flatMap enc).length=zs.length*es
 |[]=>(iP _).symm
 |z::zs=>by rw[ni,aQ,hp.len,hp.flat zs,cr,kJ];omega
theorem Put.scs(hp:Put enc av es)(zs:List α):(zs.flatMap enc).all mU=f:=eD.2 λv hv=>by
 obtain⟨x,_,J⟩:=qB.1 hv;exact(hp.sc x v J).1
def Put.el(hp:Put enc av es):∀(zs:List α)(k:Nat)(hk:k<zs.length)(dY:List D),El (zs.flatMap enc++dY) es k=enc zs[k]
 |z::zs,0,_,dY=>by
  unfold El;rw[iP,jc,ni,bP,<-hp.len z,pU];rfl
 |z::zs,k+1,hk,dY=>by
  have:=hp.el zs k (tT hk) dY;unfold El at this|-;rw[kJ,Nat.add_comm,<-pP,ni,bP,<-hp.len z,List.drop_left,hp.len z];exact this
def aa3{P:aS}(hp:Put enc av es){args':List D}(ho:orW enc av es rest args H=Z (v,C))(rh:RH m H w)(ha:kT m args args')(y:∀(blk off cap:Nat)(zs:List α)(rest':List D),(∃r c,args=T (Z ⟨r,0,W⟩) zs.length c::rest)->kT m rest rest'->0<zs.length->zs.length<=1000000->blk<w.heap.size->(∀j v,(zs.flatMap enc)[j]?=Z v->w.cell? ⟨blk,off+j,W⟩=Z v/\w.frozen? ⟨blk,off+j,W⟩=aA)->
  Calls P g ⟨T (Z ⟨blk,off,W⟩) zs.length cap::rest'⟩ w λe w'=>e=.returned (.tuple #[])/\∃n os,w'=grow (putRow id (Sort.ahead w n) blk off ((av zs).flatMap enc).toArray) os):
 Calls P g ⟨args'⟩ w λe w'=>∃m' v',e=.returned v'/\VR m' v v'/\RH m' C w'/\Ex m m' H C w w':=by
 unfold orW at ho;split at ho
 .next r n c l=>
  split at ho
  .next h=>
   obtain⟨H1,h3,ho⟩:=Option.map_eq_some_iff.1 ho;cases ho;obtain⟨I,Q⟩:=h.2.2.choose_spec;generalize h.2.2.choose=zs at Q I h3;obtain⟨rfl,hn,_⟩:=h;obtain⟨lc,c',rest',hm,hl,R,rfl⟩:=ha.row;obtain⟨vs',g1,g2,g3⟩:=EY rh Q hm hl;have g1:=g1.vM<|hp.scs _;subst g1;have hsl:(av zs).length=n+1:=(hp.perm zs).length_eq.trans I
   have hne:(av zs).flatMap enc≠[]:=λe=>by
    have h:=hp.flat<|av zs;rw[e,hsl]at h;exact absurd h<|Nat.ne_of_lt<|qJ (xO n) hp.pos
   have ht:=λk os=>RH.turn rh h3 (kT.mU<|hp.scs _) hne hm hl k os
   have:=y lc.c (lc.base+(0-lc.lo)) c' zs rest' ⟨r,c,by rw[I]⟩ R N N (ht 0 #[]).2.1 λj v hj=>by
    refine⟨?_,(ht 0 #[]).2.2 j⟩;have:=g3 j v hj
    have e:(⟨lc.c,lc.base+(0-lc.lo),W⟩:Addr).add j=⟨lc.c,lc.base+(0-lc.lo)+j,W⟩:=by
     unfold Addr.add;split
     .next h=>subst h;rfl
     .rfl
    rw[e]at this;exact this
   rw[I]at this;refine this.mono ?_;rintro e w' ⟨rfl,k,os,rfl⟩;exact⟨m,_,O,.tuple _ _ .nil,(ht k os).1⟩
  .cases ho
 .cases ho
def SB.put(hp:Put enc av es){h1:List D->Prop}(hQ:∀l,h1 l->∃x,l=enc x)(hn:n<1000000)(hB:SB h1 r ty es (n+1) H0 H L):
 ∃C,orW enc av es rest (T (Z ⟨r,0,W⟩) (n+1) c::rest) H=Z (.tuple ⟨[]⟩,C)/\SB h1 r ty es (n+1) H0 C L:=by
 obtain⟨E,Q,I,G⟩:=hB
 have key:∀k,k<=n+1->∃zs:List α,zs.length=k/\E.take (k*es)=zs.flatMap enc:=by
  intro k
  induction k with
  |zero=>exactλ_=>⟨[],rfl,by rw[iP];rfl⟩
  |succ k ih=>
   intro hk;obtain⟨zs,g1,g2⟩:=ih N;obtain⟨x,J⟩:=hQ _<|I k N;refine⟨zs++[x],by simp[g1],?_⟩;rw[kJ,List.take_add,g2,List.flatMap_append,ni,List.flatMap_nil,a_,<-J];rfl
 obtain⟨zs0,g1,g2⟩:=key (n+1)<|az _
 have R:H.read r 0 ((n+1)*es)=Z (zs0.flatMap enc):=by
  rw[(G.get 0 O).read N,jc,g2]
 have J:∃zs:List α,zs.length=n+1/\H.read r 0 ((n+1)*es)=Z (zs.flatMap enc):=⟨zs0,g1,R⟩;obtain⟨z1,z2⟩:=J.choose_spec
 have e0:orW enc av es rest (T (Z ⟨r,0,W⟩) (n+1) c::rest) H=(H.write r 0<|(av J.choose).flatMap enc).map λC=>(.tuple ⟨[]⟩,C):=by
  unfold orW;exact dif_pos ⟨O,hn,J⟩
 generalize J.choose=zs at z1 z2 e0;rw[R]at z2;have z2:=dH z2;have hl:((av zs).flatMap enc).length=(n+1)*es:=by rw[hp.flat,(hp.perm zs).length_eq,z1]
 obtain⟨C,e1,e2,e3⟩:=G.zC 0 (o:=0) (vs:=(av zs).flatMap enc) O N (by
  rw[all_eq,eD];intro v hv;obtain⟨x,_,J⟩:=qB.1 hv;exact(hp.sc x v J).2)
 refine⟨C,by rw[e0,e1];rfl,_,?_,?_,e2⟩
 .rw[lY N];exact Q
 .intro k hk;have hk':k<(av zs).length:=by rw[(hp.perm zs).length_eq,z1];exact hk
  show h1<|El (splice E 0 _) es k;have e:splice E 0 ((av zs).flatMap enc)=(av zs).flatMap enc++E.drop (0+((av zs).flatMap enc).length):=by unfold splice;rw[j3,bK]
  rw[e,hp.el _ _ hk'];obtain⟨j,hj,ej⟩:=kg.1<|(hp.perm zs).mem_iff.1<|bB hk';have:=hp.el zs j hj<|E.drop<|(n+1)*es;rw[<-z2,<-g2,iO]at this;rw[<-ej,<-this];exact I j N
end rows
def enI(z:Int):List D:=[.int .i64 z]
def srt(zs:List Int):List Int:=zs.mergeSort λx hc=>decide<|x<=hc
def ajn:Put enI srt 1:=⟨λ_=>rfl,Nat.one_pos,λx v h=>by rw[aO.1 h];exact⟨O,O⟩,λzs=>List.mergeSort_perm zs _⟩
def enR(x:Int×Int):List D:=[.int .i32 x.1,.int .i32 x.2]
def ltR(x hc:Int×Int):Bool:=decide<|x.1<hc.1
def ajo:SWO ltR where
 irrefl x:=by simp[ltR]
 trans x hc z Q I:=by simp[ltR]at*;omega
 ntrans x hc z Q I:=by simp[ltR]at*;omega
def fR(l:Nat)(zs:List<|Int×Int):List (Int×Int):=(pdq ltR zs.toArray 0 zs.length l f f).toList
def adP(l:Nat):Put enR (fR l) 2:=⟨λ_=>rfl,Nat.zero_lt_two,λx v h=>by simp[enR]at h;rcases h with rfl|rfl<;>exact⟨O,O⟩,λzs=>by
 obtain⟨Q,_,I⟩:=(pdq_sorts ltR ajo zs.toArray 0 zs.length l f f (bg _) (az _)<|.inl O).1;have e:∀d:Array<|Int×Int,d.size=zs.length->(d.extract 0 zs.length).toList=d.toList:=λd hd=>by rw[<-hd,Array.extract_size]
 rw[e _ Q,e _ O]at I;exact I⟩
def adQ:List D->Nat
 |_::_::_::.int _ l::_=>l.toNat
 |_=>0
def orR(cv:D):List D->F->Option (D×F)
 |.slice a (n+1) c::l,H=>if adQ (T a (n+1) c::l)<=64 then orW enR (fR<|adQ<|T a (n+1) c::l) 2 [.int .i64 0,.int .i64 ((n+1:Nat):Int),.int .i64 (adQ (T a (n+1) c::l):Nat),cv] (T a (n+1) c::l) H else W
 |_,_=>W
def SB.ajp{cv:D}{l:Nat}(hn:n<1000000)(hl:l<=64)(hB:SB Qd r ty 2 (n+1) H0 H L):
 ∃C,orR cv [T (Z ⟨r,0,W⟩) (n+1) c,.int .i64 0,.int .i64 ((n+1:Nat):Int),.int .i64 (l:Nat),cv] H=Z (.tuple ⟨[]⟩,C)/\SB Qd r ty 2 (n+1) H0 C L:=by
 obtain⟨C,e,h⟩:=SB.put (adP l) (λx ⟨a,b,h⟩=>⟨(a,b),h⟩) (rest:=[.int .i64 0,.int .i64 ((n+1:Nat):Int),.int .i64 (l:Nat),cv]) (c:=c) hn hB;exact⟨C,(if_pos hl).trans e,h⟩
def aJ.orc{P:aS}{X:Xt}{K:D->F->Prop}(h:X.o g args H=Z (v,C))(k:K v C):aJ P X g args H K:=⟨v,C,⟨1,Ck h⟩,k⟩
end
end Go.Ae
namespace Go.Proofs.Lu
open Go.Ae Go.Ae.SH
variable{A:(Out->Prop)->Prop}{K:D->F->Prop}{vn:Prop}
abbrev Pg:aS:=Tryz.prog
def X:Xt:=⟨λg=>bR (ay g 239) 1<|bR (ay g 220) 3 0,λg args H=>bR (ay g 10||ay g 30) (orT args H)<|bR (ay g 160) (orW enI srt 1 [] args H)<|bR (ay g 249) (orR (.func (.func 242) ⟨[]⟩ ⟨[]⟩) args H) W⟩
abbrev vQ:Code:=BG Pg 9
abbrev BR:Code:=BG Pg 43
abbrev LC:Code:=BG Pg 52
abbrev xI:Code:=BG Pg 57
abbrev ik:Code:=BG Pg 70
abbrev fq:Code:=BG Pg 72
abbrev Dt:Code:=BG Pg 73
abbrev vR:Code:=BG Pg 74
abbrev oU:Code:=BG Pg 77
abbrev CB:Code:=BG Pg 89
abbrev Fy:Code:=BG Pg 92
abbrev Ih:Code:=BG Pg 93
abbrev aa4:Code:=BG Pg 94
abbrev wY:Code:=BG Pg 95
abbrev uH:Code:=BG Pg 102
abbrev Bj:Code:=BG Pg 103
abbrev l8:Code:=BG Pg 106
abbrev o_:Code:=BG Pg 109
abbrev lG:Code:=BG Pg 120
abbrev xU:Code:=BG Pg 123
abbrev nH:Code:=BG Pg 124
abbrev CE:Code:=BG Pg 125
abbrev lT:Code:=BG Pg 134
abbrev Ai:Code:=BG Pg 135
abbrev BS:Code:=BG Pg 136
abbrev jU:Code:=BG Pg 137
abbrev l_:Code:=BG Pg 140
abbrev Du:Code:=BG Pg 147
abbrev CF:Code:=BG Pg 148
abbrev lq:Code:=BG Pg 157
abbrev gI:Code:=BG Pg 165
abbrev Kn:Code:=BG Pg 170
abbrev xu:Code:=BG Pg 171
abbrev Fz:Code:=BG Pg 175
abbrev Ob:Code:=BG Pg 185
abbrev mg:Code:=BG Pg 186
abbrev kN:Code:=BG Pg 194
abbrev aa5:Code:=BG Pg 199
abbrev CG:Code:=BG Pg 201
abbrev Bl:Code:=BG Pg 203
abbrev BU:Code:=BG Pg 205
abbrev FB:Code:=BG Pg 218
abbrev wD:Code:=BG Pg 219
abbrev Ko:Code:=BG Pg 222
abbrev nK:Code:=BG Pg 226
abbrev yS:Code:=BG Pg 227
abbrev CJ:Code:=BG Pg 228
abbrev pq:Code:=BG Pg 240
abbrev BJ:Code:=BG Pg 246
abbrev Aj(x0 x2 x3 x4 x5 x6 x7 x8 x9 jh:D)(u:Rs)(H:F):St:=ax Pg 9 (.c 0 x0<|.c 2 x2<|.c 3 x3<|.c 4 x4<|.c 5 x5<|.c 6 x6<|.c 7 x7<|.c 8 x8<|.c 9 x9<|.c 10 jh<|.n) u H
abbrev vS(x0 x2 x3 x4 x5 x6 x7:D)(u:Rs)(H:F):St:=ax Pg 43 (.c 0 x0<|.c 2 x2<|.c 3 x3<|.c 4 x4<|.c 5 x5<|.c 6 x6<|.c 7 x7<|.n) u H
abbrev CK(x0 x1 x2 x3 x4 x5 x6 x7 x8 jh XA x27 x28 zT x38 x39:D)(u:Rs)(H:F):St:=ax Pg 52 (.c 0 x0<|.c 1 x1<|.c 2 x2<|.c 3 x3<|.c 4 x4<|.c 5 x5<|.c 6 x6<|.c 7 x7<|.c 8 x8<|.c 10 jh<|.c 26 XA<|.c 27 x27<|.c 28 x28<|.c 37 zT<|.c 38 x38<|.c 39 x39<|.n) u H
abbrev BV(x0 x1 x2 x3 x4 x5 kQ jF lH pz zf uZ x20 v_ xM x32 Az x34 YF x66 LD XB XC Oc:D)(u:Rs)(H:F):St:=ax Pg 57 (.c 0 x0<|.c 1 x1<|.c 2 x2<|.c 3 x3<|.c 4 x4<|.c 5 x5<|.c 12 kQ<|.c 13 jF<|.c 15 lH<|.c 16 pz<|.c 18 zf<|.c 19 uZ<|.c 20 x20<|.c 21 v_<|.c 23 xM<|.c 32 x32<|.c 33 Az<|.c 34 x34<|.c 65 YF<|.c 66 x66<|.c 67 LD<|.c 119 XB<|.c 120 XC<|.c 121 Oc<|.n) u H
abbrev pg(x0 x2 x3 x4 x5 x6 x7 x8 x9 jh:D)(u:Rs)(H:F):St:=ax Pg 70 (.c 0 x0<|.c 2 x2<|.c 3 x3<|.c 4 x4<|.c 5 x5<|.c 6 x6<|.c 7 x7<|.c 8 x8<|.c 9 x9<|.c 10 jh<|.n) u H
abbrev fD(x0 x1 x2 x3 x4 x5 x153:D)(u:Rs)(H:F):St:=ax Pg 72 (.c 0 x0<|.c 1 x1<|.c 2 x2<|.c 3 x3<|.c 4 x4<|.c 5 x5<|.c 153 x153<|.n) u H
abbrev xJ(x0 x1 x2 x3 x4 x5 x6 x7 x8 x9:D)(u:Rs)(H:F):St:=ax Pg 73 (.c 0 x0<|.c 1 x1<|.c 2 x2<|.c 3 x3<|.c 4 x4<|.c 5 x5<|.c 6 x6<|.c 7 x7<|.c 8 x8<|.c 9 x9<|.n) u H
abbrev qO(x0 x1 x2 x3 x4 x5 x6 x7 x8 x9:D)(u:Rs)(H:F):St:=ax Pg 74 (.c 0 x0<|.c 1 x1<|.c 2 x2<|.c 3 x3<|.c 4 x4<|.c 5 x5<|.c 6 x6<|.c 7 x7<|.c 8 x8<|.c 9 x9<|.n) u H
abbrev lC(x0 x1 x2 x4 x5 x6 x7 x8 jh iL kQ jF lH pz zf uZ v_ x30 x31 x32 zT x38 x39 x88 x89 x90 x115 Eo Ak x157 x158 x159:D)(u:Rs)(H:F):St:=ax Pg 77 (.c 0 x0<|.c 1 x1<|.c 2 x2<|.c 4 x4<|.c 5 x5<|.c 6 x6<|.c 7 x7<|.c 8 x8<|.c 10 jh<|.c 11 iL<|.c 12 kQ<|.c 13 jF<|.c 15 lH<|.c 16 pz<|.c 18 zf<|.c 19 uZ<|.c 21 v_<|.c 30 x30<|.c 31 x31<|.c 32 x32<|.c 37 zT<|.c 38 x38<|.c 39 x39<|.c 88 x88<|.c 89 x89<|.c 90 x90<|.c 115 x115<|.c 116 Eo<|.c 117 Ak<|.c 157 x157<|.c 158 x158<|.c 159 x159<|.n) u H
abbrev BX(x0 x1 x2 x3 x4 x5 x6 jh iL rA lH pz zf uZ v_:D)(u:Rs)(H:F):St:=ax Pg 89 (.c 0 x0<|.c 1 x1<|.c 2 x2<|.c 3 x3<|.c 4 x4<|.c 5 x5<|.c 6 x6<|.c 10 jh<|.c 11 iL<|.c 14 rA<|.c 15 lH<|.c 16 pz<|.c 18 zf<|.c 19 uZ<|.c 21 v_<|.n) u H
abbrev Ep(x0 x1 x2 x3 x8 x9 jh iL kQ jF rA lH zF:D)(u:Rs)(H:F):St:=ax Pg 92 (.c 0 x0<|.c 1 x1<|.c 2 x2<|.c 3 x3<|.c 8 x8<|.c 9 x9<|.c 10 jh<|.c 11 iL<|.c 12 kQ<|.c 13 jF<|.c 14 rA<|.c 15 lH<|.c 17 zF<|.n) u H
abbrev Od(x0 x2 x3 x4 x5 x6 x7 x8 x9 jh:D)(u:Rs)(H:F):St:=ax Pg 93 (.c 0 x0<|.c 2 x2<|.c 3 x3<|.c 4 x4<|.c 5 x5<|.c 6 x6<|.c 7 x7<|.c 8 x8<|.c 9 x9<|.c 10 jh<|.n) u H
abbrev XD(x0 x1 x2 x3 x4 x5 x6 x7 x8 x9 iL x34 DN K6:D)(u:Rs)(H:F):St:=ax Pg 94 (.c 0 x0<|.c 1 x1<|.c 2 x2<|.c 3 x3<|.c 4 x4<|.c 5 x5<|.c 6 x6<|.c 7 x7<|.c 8 x8<|.c 9 x9<|.c 11 iL<|.c 34 x34<|.c 35 DN<|.c 36 K6<|.n) u H
abbrev vD(x0 x1 x2 x3 x4 x5 x7 x9 iL kQ jF v_ DR xM Az x34 DN x74 x75 SY:D)(u:Rs)(H:F):St:=ax Pg 95 (.c 0 x0<|.c 1 x1<|.c 2 x2<|.c 3 x3<|.c 4 x4<|.c 5 x5<|.c 7 x7<|.c 9 x9<|.c 11 iL<|.c 12 kQ<|.c 13 jF<|.c 21 v_<|.c 22 DR<|.c 23 xM<|.c 33 Az<|.c 34 x34<|.c 35 DN<|.c 74 x74<|.c 75 x75<|.c 76 SY<|.n) u H
abbrev tV(x0 x1 x4 x5 x6 x7 x8 x9 jh iL kQ jF:D)(u:Rs)(H:F):St:=ax Pg 102 (.c 0 x0<|.c 1 x1<|.c 4 x4<|.c 5 x5<|.c 6 x6<|.c 7 x7<|.c 8 x8<|.c 9 x9<|.c 10 jh<|.c 11 iL<|.c 12 kQ<|.c 13 jF<|.n) u H
abbrev Al(x0 x1 x4 x5 x6 x7 x8 x9 jh iL:D)(u:Rs)(H:F):St:=ax Pg 103 (.c 0 x0<|.c 1 x1<|.c 4 x4<|.c 5 x5<|.c 6 x6<|.c 7 x7<|.c 8 x8<|.c 9 x9<|.c 10 jh<|.c 11 iL<|.n) u H
abbrev wo(x0 x1 x2 x4:D)(u:Rs)(H:F):St:=ax Pg 105 (.c 0 x0<|.c 1 x1<|.c 2 x2<|.c 4 x4<|.n) u H
abbrev pF(x0 x1 x2 x4 x5 x6 x7 x8:D)(u:Rs)(H:F):St:=ax Pg 106 (.c 0 x0<|.c 1 x1<|.c 2 x2<|.c 4 x4<|.c 5 x5<|.c 6 x6<|.c 7 x7<|.c 8 x8<|.n) u H
abbrev vT(x0 x1 x2 x3 x4 x6 x7 x8 x9 jh iL kQ jF rA lH pz zF zf x25:D)(u:Rs)(H:F):St:=ax Pg 109 (.c 0 x0<|.c 1 x1<|.c 2 x2<|.c 3 x3<|.c 4 x4<|.c 6 x6<|.c 7 x7<|.c 8 x8<|.c 9 x9<|.c 10 jh<|.c 11 iL<|.c 12 kQ<|.c 13 jF<|.c 14 rA<|.c 15 lH<|.c 16 pz<|.c 17 zF<|.c 18 zf<|.c 25 x25<|.n) u H
abbrev nY(x0 x2 x3 x4 x5 x6 x7:D)(u:Rs)(H:F):St:=ax Pg 120 (.c 0 x0<|.c 2 x2<|.c 3 x3<|.c 4 x4<|.c 5 x5<|.c 6 x6<|.c 7 x7<|.n) u H
abbrev oI(x0 x1 x2 x3 x4 x5 x6 x7 x8 x9 iL kQ jF rA lH zf uZ x20 x59 x60 S7 LD:D)(u:Rs)(H:F):St:=ax Pg 123 (.c 0 x0<|.c 1 x1<|.c 2 x2<|.c 3 x3<|.c 4 x4<|.c 5 x5<|.c 6 x6<|.c 7 x7<|.c 8 x8<|.c 9 x9<|.c 11 iL<|.c 12 kQ<|.c 13 jF<|.c 14 rA<|.c 15 lH<|.c 18 zf<|.c 19 uZ<|.c 20 x20<|.c 59 x59<|.c 60 x60<|.c 61 S7<|.c 67 LD<|.n) u H
abbrev rC(x0 x1 x2 x4 x5 x6 x7 x8 x9 jh iL jF xM x24 x25 x31 LF Gu Dv:D)(u:Rs)(H:F):St:=ax Pg 124 (.c 0 x0<|.c 1 x1<|.c 2 x2<|.c 4 x4<|.c 5 x5<|.c 6 x6<|.c 7 x7<|.c 8 x8<|.c 9 x9<|.c 10 jh<|.c 11 iL<|.c 13 jF<|.c 23 xM<|.c 24 x24<|.c 25 x25<|.c 31 x31<|.c 49 LF<|.c 50 Gu<|.c 51 Dv<|.n) u H
abbrev Oe(x0 x1 x2 x3 x4 x5 x8 x9 jh iL kQ rA lH pz x29 x30 x31:D)(u:Rs)(H:F):St:=ax Pg 125 (.c 0 x0<|.c 1 x1<|.c 2 x2<|.c 3 x3<|.c 4 x4<|.c 5 x5<|.c 8 x8<|.c 9 x9<|.c 10 jh<|.c 11 iL<|.c 12 kQ<|.c 14 rA<|.c 15 lH<|.c 16 pz<|.c 29 x29<|.c 30 x30<|.c 31 x31<|.n) u H
abbrev qp(x0 x2 x3 x4 x5 x9:D)(u:Rs)(H:F):St:=ax Pg 134 (.c 0 x0<|.c 2 x2<|.c 3 x3<|.c 4 x4<|.c 5 x5<|.c 9 x9<|.n) u H
abbrev zS(x0 x2:D)(u:Rs)(H:F):St:=ax Pg 135 (.c 0 x0<|.c 2 x2<|.n) u H
abbrev Bo(x0 x2 x3 x4 x5 x6 x7 x8 x9 jh iL kQ jF rA:D)(u:Rs)(H:F):St:=ax Pg 136 (.c 0 x0<|.c 2 x2<|.c 3 x3<|.c 4 x4<|.c 5 x5<|.c 6 x6<|.c 7 x7<|.c 8 x8<|.c 9 x9<|.c 10 jh<|.c 11 iL<|.c 12 kQ<|.c 13 jF<|.c 14 rA<|.n) u H
abbrev jK(x0 x1 x2 x4 x5 x6 x7 x8 x9:D)(u:Rs)(H:F):St:=ax Pg 137 (.c 0 x0<|.c 1 x1<|.c 2 x2<|.c 4 x4<|.c 5 x5<|.c 6 x6<|.c 7 x7<|.c 8 x8<|.c 9 x9<|.n) u H
abbrev rD(x0 x1 x4 x5:D)(u:Rs)(H:F):St:=ax Pg 140 (.c 0 x0<|.c 1 x1<|.c 4 x4<|.c 5 x5<|.n) u H
abbrev CL(x0 x1 x4 x5 x40:D)(u:Rs)(H:F):St:=ax Pg 147 (.c 0 x0<|.c 1 x1<|.c 4 x4<|.c 5 x5<|.c 40 x40<|.n) u H
abbrev Bp(x0 x1 x2 x3 x4 x5 x6 x7 x8 x9 jh iL kQ x30 x31 x32 Gu Dv S8 x88 x89 x90:D)(u:Rs)(H:F):St:=ax Pg 148 (.c 0 x0<|.c 1 x1<|.c 2 x2<|.c 3 x3<|.c 4 x4<|.c 5 x5<|.c 6 x6<|.c 7 x7<|.c 8 x8<|.c 9 x9<|.c 10 jh<|.c 11 iL<|.c 12 kQ<|.c 30 x30<|.c 31 x31<|.c 32 x32<|.c 50 Gu<|.c 51 Dv<|.c 52 S8<|.c 88 x88<|.c 89 x89<|.c 90 x90<|.n) u H
abbrev kL(x0 x2 x3 x4 x5 x6 x7 x8 x9 jh iL kQ jF rA lH pz x32 Az:D)(u:Rs)(H:F):St:=ax Pg 157 (.c 0 x0<|.c 2 x2<|.c 3 x3<|.c 4 x4<|.c 5 x5<|.c 6 x6<|.c 7 x7<|.c 8 x8<|.c 9 x9<|.c 10 jh<|.c 11 iL<|.c 12 kQ<|.c 13 jF<|.c 14 rA<|.c 15 lH<|.c 16 pz<|.c 32 x32<|.c 33 Az<|.n) u H
abbrev kP(x0 x1 x2 x4 x5 x6 x7 x8 x9 jh iL uZ:D)(u:Rs)(H:F):St:=ax Pg 165 (.c 0 x0<|.c 1 x1<|.c 2 x2<|.c 4 x4<|.c 5 x5<|.c 6 x6<|.c 7 x7<|.c 8 x8<|.c 9 x9<|.c 10 jh<|.c 11 iL<|.c 19 uZ<|.n) u H
abbrev Ii(x0 x1 x4 x5 x6 x7:D)(u:Rs)(H:F):St:=ax Pg 170 (.c 0 x0<|.c 1 x1<|.c 4 x4<|.c 5 x5<|.c 6 x6<|.c 7 x7<|.n) u H
abbrev yT(x0 x1 x4 x5 x6 x7 x8 x9 jh iL:D)(u:Rs)(H:F):St:=ax Pg 171 (.c 0 x0<|.c 1 x1<|.c 4 x4<|.c 5 x5<|.c 6 x6<|.c 7 x7<|.c 8 x8<|.c 9 x9<|.c 10 jh<|.c 11 iL<|.n) u H
abbrev CO(x0 x1 x2 x3 x4 x5 x7 jF rA lH:D)(u:Rs)(H:F):St:=ax Pg 177 (.c 0 x0<|.c 1 x1<|.c 2 x2<|.c 3 x3<|.c 4 x4<|.c 5 x5<|.c 7 x7<|.c 13 jF<|.c 14 rA<|.c 15 lH<|.n) u H
abbrev BK(x0 x1 x2 x4 x5 x6 x7 x9 lH pz zF x28 x29 x30:D)(u:Rs)(H:F):St:=ax Pg 180 (.c 0 x0<|.c 1 x1<|.c 2 x2<|.c 4 x4<|.c 5 x5<|.c 6 x6<|.c 7 x7<|.c 9 x9<|.c 15 lH<|.c 16 pz<|.c 17 zF<|.c 28 x28<|.c 29 x29<|.c 30 x30<|.n) u H
abbrev LG(x0 x1 x2 x3 x4 x5 x7 x8 x9 jh iL:D)(u:Rs)(H:F):St:=ax Pg 185 (.c 0 x0<|.c 1 x1<|.c 2 x2<|.c 3 x3<|.c 4 x4<|.c 5 x5<|.c 7 x7<|.c 8 x8<|.c 9 x9<|.c 10 jh<|.c 11 iL<|.n) u H
abbrev uI(x0 x1 x2 x3 x4 x5 x6 x7 x8 x9 kQ jF lH pz zF uZ x20 v_ DR xM x24 x25 x32 K6 zT x38 x64 YF x66:D)(u:Rs)(H:F):St:=ax Pg 186 (.c 0 x0<|.c 1 x1<|.c 2 x2<|.c 3 x3<|.c 4 x4<|.c 5 x5<|.c 6 x6<|.c 7 x7<|.c 8 x8<|.c 9 x9<|.c 12 kQ<|.c 13 jF<|.c 15 lH<|.c 16 pz<|.c 17 zF<|.c 19 uZ<|.c 20 x20<|.c 21 v_<|.c 22 DR<|.c 23 xM<|.c 24 x24<|.c 25 x25<|.c 32 x32<|.c 36 K6<|.c 37 zT<|.c 38 x38<|.c 64 x64<|.c 65 YF<|.c 66 x66<|.n) u H
abbrev wE(x0 x1 x4 x5:D)(u:Rs)(H:F):St:=ax Pg 193 (.c 0 x0<|.c 1 x1<|.c 4 x4<|.c 5 x5<|.n) u H
abbrev nL(x0 x1 x4 x5 x6 x7:D)(u:Rs)(H:F):St:=ax Pg 194 (.c 0 x0<|.c 1 x1<|.c 4 x4<|.c 5 x5<|.c 6 x6<|.c 7 x7<|.n) u H
abbrev XE(x0 x1 x4 x5 x6:D)(u:Rs)(H:F):St:=ax Pg 199 (.c 0 x0<|.c 1 x1<|.c 4 x4<|.c 5 x5<|.c 6 x6<|.n) u H
abbrev II(x0 x2 x3 x4 x8:D)(u:Rs)(H:F):St:=ax Pg 201 (.c 0 x0<|.c 2 x2<|.c 3 x3<|.c 4 x4<|.c 8 x8<|.n) u H
abbrev DT(x0 x2 x3 x4 x5 x6 x7 x8 x9 jh:D)(u:Rs)(H:F):St:=ax Pg 203 (.c 0 x0<|.c 2 x2<|.c 3 x3<|.c 4 x4<|.c 5 x5<|.c 6 x6<|.c 7 x7<|.c 8 x8<|.c 9 x9<|.c 10 jh<|.n) u H
abbrev Bq(x0 x1 x4 x5 x6 x7 x8 DR:D)(u:Rs)(H:F):St:=ax Pg 205 (.c 0 x0<|.c 1 x1<|.c 4 x4<|.c 5 x5<|.c 6 x6<|.c 7 x7<|.c 8 x8<|.c 22 DR<|.n) u H
abbrev DU(x0 x1 x2 x3 x6 x7 x8 x9 jh iL:D)(u:Rs)(H:F):St:=ax Pg 207 (.c 0 x0<|.c 1 x1<|.c 2 x2<|.c 3 x3<|.c 6 x6<|.c 7 x7<|.c 8 x8<|.c 9 x9<|.c 10 jh<|.c 11 iL<|.n) u H
abbrev Er(x0 x2:D)(u:Rs)(H:F):St:=ax Pg 218 (.c 0 x0<|.c 2 x2<|.n) u H
abbrev vU(x0 x1 x4 x5:D)(u:Rs)(H:F):St:=ax Pg 219 (.c 0 x0<|.c 1 x1<|.c 4 x4<|.c 5 x5<|.n) u H
abbrev IJ(x0 x2 x3 x4 x5 x6 x7 x8 jh:D)(u:Rs)(H:F):St:=ax Pg 222 (.c 0 x0<|.c 2 x2<|.c 3 x3<|.c 4 x4<|.c 5 x5<|.c 6 x6<|.c 7 x7<|.c 8 x8<|.c 10 jh<|.n) u H
abbrev u_(x0 x2 x3 x5 x6 x8 x9 jh iL DN K6 zT:D)(u:Rs)(H:F):St:=ax Pg 226 (.c 0 x0<|.c 2 x2<|.c 3 x3<|.c 5 x5<|.c 6 x6<|.c 8 x8<|.c 9 x9<|.c 10 jh<|.c 11 iL<|.c 35 DN<|.c 36 K6<|.c 37 zT<|.n) u H
abbrev Dw(x0 x1 x4 x5 x6 x7 x8 x9 pz:D)(u:Rs)(H:F):St:=ax Pg 227 (.c 0 x0<|.c 1 x1<|.c 4 x4<|.c 5 x5<|.c 6 x6<|.c 7 x7<|.c 8 x8<|.c 9 x9<|.c 16 pz<|.n) u H
abbrev FC(x0 x1 x4 x5:D)(u:Rs)(H:F):St:=ax Pg 228 (.c 0 x0<|.c 1 x1<|.c 4 x4<|.c 5 x5<|.n) u H
abbrev oV(x0 x1 x4 x5:D)(u:Rs)(H:F):St:=ax Pg 240 (.c 0 x0<|.c 1 x1<|.c 4 x4<|.c 5 x5<|.n) u H
abbrev Gv(x0 x2 x3 x4 x6 x8 x9 jh:D)(u:Rs)(H:F):St:=ax Pg 246 (.c 0 x0<|.c 2 x2<|.c 3 x3<|.c 4 x4<|.c 6 x6<|.c 8 x8<|.c 9 x9<|.c 10 jh<|.n) u H
abbrev yU(x0 x1 x2 x4 x5 x6 x7 x8 jh iL kQ jF lH x30 x31 x32 zT x38 x39 x88 x89 x90:D)(h2:Nat->D->D->D->D->D->D->D->D->D->D->F->Prop)(m:Nat)(s:St):Prop:=∃(pz zf uZ v_ x115 Eo Ak x157 x158 x159:D)(u:Rs)(H:F),s=lC x0 x1 x2 x4 x5 x6 x7 x8 jh iL kQ jF lH pz zf uZ v_ x30 x31 x32 zT x38 x39 x88 x89 x90 x115 Eo Ak x157 x158 x159 u H/\h2 m pz zf uZ v_ x115 Eo Ak x157 x158 x159 H
abbrev vg(x0 x1 x2 x4 x5 x6 x7 x8 jh iL kQ jF lH pz uZ v_ x30 x31 x32 zT x38 x39 x88 x89 x90 x115 Eo x157 x158 x159:D)(h2:Nat->D->D->F->Prop)(m:Nat)(s:St):Prop:=∃(zf Ak:D)(u:Rs)(H:F),s=lC x0 x1 x2 x4 x5 x6 x7 x8 jh iL kQ jF lH pz zf uZ v_ x30 x31 x32 zT x38 x39 x88 x89 x90 x115 Eo Ak x157 x158 x159 u H/\h2 m zf Ak H
abbrev xK(x0 x1 x2 x4 x5 x7 kQ jF v_ DR xM Az x34 x74 x75 SY:D)(h2:Nat->D->D->D->D->F->Prop)(m:Nat)(s:St):Prop:=∃(x3 x9 iL DN:D)(u:Rs)(H:F),s=vD x0 x1 x2 x3 x4 x5 x7 x9 iL kQ jF v_ DR xM Az x34 DN x74 x75 SY u H/\h2 m x3 x9 iL DN H
abbrev wF(x0 x1 x2 x4 x5 x7 x9 iL v_ DR xM Az x34 DN x74 x75:D)(h2:Nat->D->D->D->D->F->Prop)(m:Nat)(s:St):Prop:=∃(x3 kQ jF SY:D)(u:Rs)(H:F),s=vD x0 x1 x2 x3 x4 x5 x7 x9 iL kQ jF v_ DR xM Az x34 DN x74 x75 SY u H/\h2 m x3 kQ jF SY H
abbrev zm(x0 x1 x2 x3 x4 x5 x6 x7 x8 x9 iL kQ zf uZ x20 x59 x60:D)(h2:Nat->D->D->D->D->D->F->Prop)(m:Nat)(s:St):Prop:=∃(jF rA lH S7 LD:D)(u:Rs)(H:F),s=oI x0 x1 x2 x3 x4 x5 x6 x7 x8 x9 iL kQ jF rA lH zf uZ x20 x59 x60 S7 LD u H/\h2 m jF rA lH S7 LD H
abbrev xZ(x0 x1 x2 x4 x5 x6 x7 xM x24:D)(h2:Nat->D->D->D->D->D->D->D->D->D->D->F->Prop)(m:Nat)(s:St):Prop:=∃(x8 x9 jh iL jF x25 x31 LF Gu Dv:D)(u:Rs)(H:F),s=rC x0 x1 x2 x4 x5 x6 x7 x8 x9 jh iL jF xM x24 x25 x31 LF Gu Dv u H/\h2 m x8 x9 jh iL jF x25 x31 LF Gu Dv H
abbrev wZ(x0 x1 x2 x4 x5 x6 x7 x8 x9 xM x24 x25 x31 LF Gu:D)(h2:Nat->D->D->D->D->F->Prop)(m:Nat)(s:St):Prop:=∃(jh iL jF Dv:D)(u:Rs)(H:F),s=rC x0 x1 x2 x4 x5 x6 x7 x8 x9 jh iL jF xM x24 x25 x31 LF Gu Dv u H/\h2 m jh iL jF Dv H
abbrev yx(x0 x2 x3 x4 x5 x6 x7 x8 x9 jh iL x32:D)(h2:Nat->D->D->D->D->D->D->F->Prop)(m:Nat)(s:St):Prop:=∃(kQ jF rA lH pz Az:D)(u:Rs)(H:F),s=kL x0 x2 x3 x4 x5 x6 x7 x8 x9 jh iL kQ jF rA lH pz x32 Az u H/\h2 m kQ jF rA lH pz Az H
abbrev nM(x0 x2 x3 x4 x5 x6 x7 x8 x9 jh iL kQ x32 Az:D)(h2:Nat->D->D->D->D->F->Prop)(m:Nat)(s:St):Prop:=∃(jF rA lH pz:D)(u:Rs)(H:F),s=kL x0 x2 x3 x4 x5 x6 x7 x8 x9 jh iL kQ jF rA lH pz x32 Az u H/\h2 m jF rA lH pz H
abbrev lU(x0 x2 x3 x4 x5 x6 x7 x8 x9 jh iL kQ jF rA pz x32 Az:D)(h2:Nat->D->F->Prop)(m:Nat)(s:St):Prop:=∃(lH:D)(u:Rs)(H:F),s=kL x0 x2 x3 x4 x5 x6 x7 x8 x9 jh iL kQ jF rA lH pz x32 Az u H/\h2 m lH H
abbrev xL(x0 x1 x4 x5 x6:D)(h2:Nat->D->D->D->D->D->F->Prop)(m:Nat)(s:St):Prop:=∃(x7 x8 x9 jh iL:D)(u:Rs)(H:F),s=yT x0 x1 x4 x5 x6 x7 x8 x9 jh iL u H/\h2 m x7 x8 x9 jh iL H
abbrev CP(x0 x1 x2 x3 jF rA:D)(h2:Nat->D->D->D->D->F->Prop)(m:Nat)(s:St):Prop:=∃(x4 x5 x7 lH:D)(u:Rs)(H:F),s=CO x0 x1 x2 x3 x4 x5 x7 jF rA lH u H/\h2 m x4 x5 x7 lH H
abbrev BZ(x0 x1 x2 x4 x5 lH pz:D)(h2:Nat->D->D->D->D->D->D->D->F->Prop)(m:Nat)(s:St):Prop:=∃(x6 x7 x9 zF x28 x29 x30:D)(u:Rs)(H:F),s=BK x0 x1 x2 x4 x5 x6 x7 x9 lH pz zF x28 x29 x30 u H/\h2 m x6 x7 x9 zF x28 x29 x30 H
abbrev Dx(x0 x1 x2 x3 x6:D)(h2:Nat->D->D->D->D->D->F->Prop)(m:Nat)(s:St):Prop:=∃(x7 x8 x9 jh iL:D)(u:Rs)(H:F),s=DU x0 x1 x2 x3 x6 x7 x8 x9 jh iL u H/\h2 m x7 x8 x9 jh iL H
abbrev Br(p0:Nat)(p2:List D):Prop:=∀(H:F),Cf Pg p0 H=iZ p0 p2 H
abbrev K7(p0:List Nat)(p1:Nat)(p2:Nat):Prop:=∀(x hc:D)(H:F),C8 Pg p0 [x,hc] H=zB p1 p2 x hc H
abbrev Je(p0:Nat)(p1:Nat)(p2:Nat)(p3:List D)(p4:Nat):Prop:=∀(ps:Rs)(H:F),sO Pg p0 p1 ps H=bS p2 p3 p4 p1 ps H
abbrev sh3(p0:Nat)(p1:Nat)(p2:Nat)(p3:List D):Prop:=∀(ps:Rs)(H:F),sO Pg p0 p1 ps H=bS p2 p3 p1 p1 ps H
abbrev Dy(p0:Nat)(p1:List<|Nat×Nat)(p2:List D):Prop:=∀(ps:Rs),AB Pg p0 ps=bld p1 p2 ps
abbrev sh5(p0:Nat)(p1:List D):Prop:=∀(ps:Rs),AB Pg p0 ps=bld List.nil p1 ps
abbrev uk(p0:Nat)(p1:Nat):Prop:=∀(x:bO)(ρ:bO->D)(H C:F),Fw Pg (.load p0 x) ρ H C=clL p1 (ρ x) H C
abbrev sh7(p0:List Nat)(p1:Nat):Prop:=∀(x hc:D)(H:F),L9 Pg p0 [x,hc] H=cpA p1 x hc H
abbrev sh8(p0:List Nat)(p1:List D):Prop:=∀(x:D)(H:F),F8 Pg p0 [x] H=clA p1 x H
abbrev sh9(p0:Nat)(p1:Nat)(p4:fu):Prop:=∀(x:D)(H:F)(Kp:D->Prop)(Km:D->F->Prop),CV (Cb Pg p0 p1 x) (uh Pg p0 p1 x H) Kp Km=PU (cvI p4 x) Kp
abbrev ak4(p0:Nat)(p1:Nat):Prop:=∀(x:D)(H:F)(Kp:D->Prop)(Km:D->F->Prop),CV (Cb Pg p0 p1 x) (uh Pg p0 p1 x H) Kp Km=PU (cvT x) Kp
abbrev iV(p0:Nat)(p1:Nat):Prop:=∀(x:D),q9 Pg p0 x p1=fld p1 x
abbrev LH(p0:Nat)(p1:Nat)(p2:Nat):Prop:=∀(x:D),q9 Pg p0 x p1=fld p2 x
abbrev agQ(p0:Nat)(p1:Nat)(p2:Option Nat):Prop:=∀(x:D),Ce Pg p0 x p1=agF p2 p1 x
abbrev xV(p0:Nat)(p1:Nat):Prop:=∀(x hc:D),q8 Pg p0 x hc=Ac p1 x hc
abbrev agR(p0:Nat)(p1:Nat)(p2:Nat):Prop:=∀(x hc:D),q8 Pg p0 x hc=idR p1 p2 x hc
abbrev ak5(p0:Nat):Prop:=∀(x hc:D),Cc Pg p0 x hc=idS x hc
abbrev kV(p0:Nat)(p1:Option Nat):Prop:=∀(x:D)(H:F),vJ Pg p0 x H=uP p1 x H
abbrev yV(p0:List Nat):Prop:=∀(ρ:bO->D)(x:bO)(H:F)(Kp:D->Prop)(Km:D->F->Prop),CV (one (Ju Pg) (Array.toList<|iC p0)<|mp ρ<|Array.toList<|iC [x]) (Jz Pg (Array.toList<|iC p0) (mp ρ<|Array.toList<|iC [x]) H) Kp Km=PU (ait<|ρ x) Kp
abbrev ak6(p0:List Nat):Prop:=∀(ρ:bO->D)(x:bO)(H:F)(Kp:D->Prop)(Km:D->F->Prop),CV (one (Ju Pg) (Array.toList<|iC p0)<|mp ρ<|Array.toList<|iC [x]) (Jz Pg (Array.toList<|iC p0) (mp ρ<|Array.toList<|iC [x]) H) Kp Km=PU (aiu<|ρ x) Kp
abbrev S9(p0:Nat)(p1:Nat)(p2:List D):Prop:=∀(x hc:D)(H:F),qh Pg p0 x hc H=mkS p1 p2 x hc H
abbrev XF(p0:Nat)(p1:Nat):Prop:=∀(x:D)(a b c:Option D),zM Pg p0 x a b c=U4 p1 x a b c
abbrev ak7(p0:Nat):Prop:=∀(x:D)(a b c:Option D),zM Pg p0 x a b c=slT x a b c
abbrev mM(p0:Nat)(p1:Nat):Prop:=∀(x v:D)(H:F),yI Pg p0 x v H=Cq p1 x v H
def TD:sh9 105 5 .u8/\sh9 164 323 .u32/\sh9 21 323 .u32/\sh9 21 5 .u8/\ak4 21 9/\sh9 3 164 .u64/\sh9 3 5 .u8/\sh9 323 5 .u8/\sh9 5 21 .i32/\sh9 5 3 .i64/\yV [119]/\yV [123]/\yV [124]/\yV [168]/\yV [169]/\yV [178]/\yV [184]/\yV [207]/\yV [215]/\yV [219]/\yV [22]/\yV [24]/\yV [25]/\yV [260]/\yV [271]/\yV [28]/\yV [29]/\yV [290]/\yV [30]/\yV [33]/\yV [34]/\yV [51]/\yV [65]/\ak6 [9]:=by
 repeat' apply iq
 all_goals((repeat intro _);kernel_rfl)
def TF:Br 104 [Value.nilFunc]/\Br 121 [(bV .i64 0),(bV .i64 0),(bV .i64 0)]/\Br 124 [(T W 0 0)]/\Br 133 []/\Br 161 [(bV .i64 0),(bV .i64 0)]/\Br 163 [(bV .i64 0),(bV .i64 0)]/\Br 171 [(T W 0 0),(T W 0 0)]/\Br 173 [(bV .i64 0),(bV .i64 0)]/\Br 180 [(T W 0 0)]/\Br 186 [(bV .i64 0),(bV .i64 0),(bV .i64 0),(fO<|cz #[]),(T W 0 0)]/\Br 194 [(fO<|cz #[]),(gF aA),(gF aA),(gF aA),(bV .i64 0),(bV .i64 0),(bV .i64 0)]/\Br 200 [(bV .i64 0),(T W 0 0),(fO<|cz #[]),(T W 0 0),(bV .i64 0)]/\Br 209 [(bV .i64 0),(bV .i64 0),(bV .i64 0),(bV .i64 0)]/\Br 215 [(T W 0 0)]/\Br 22 [(T W 0 0)]/\Br 221 [(bV .i64 0),(bV .i64 0),(bV .i64 0),(fO<|cz #[]),(T W 0 0)]/\Br 222 [Value.nilFunc]/\Br 228 [(bV .i64 0),(bV .i64 0),(bV .i64 0)]/\Br 234 [(fO<|cz #[]),(gF aA),(gF aA),(gF aA),(bV .i64 0),(bV .i64 0),(bV .i64 0)]/\Br 238 [(bV .i64 0),(T W 0 0),(fO<|cz #[]),(T W 0 0),(bV .i64 0)]/\Br 240 [(fO<|cz #[]),(bV .i64 0),(bV .i64 0),(gF aA)]/\Br 27 [(T W 0 0),(T W 0 0),(T W 0 0),(T W 0 0),(T W 0 0),(bV .i64 0)]/\Br 287 [Value.nilFunc]/\Br 288 [Value.nilFunc]/\Br 290 [(T W 0 0)]/\Br 3 [(bV .i64 0)]/\Br 301 [(tN W),(T W 0 0)]/\Br 303 [(bV .i64 0),(bV .i64 0),(bV .i32 0),(gF aA)]/\Br 32 [(T W 0 0),(T W 0 0),(T W 0 0),(bV .i64 0),(bV .i64 0),(bV .i64 0)]/\Br 331 [(bV .i32 0),(bV .i32 0)]/\Br 34 [(T W 0 0)]/\Br 353 [(bV .u8 0),(bV .u8 0)]/\Br 36 [(T W 0 0),(T W 0 0)]/\Br 38 [(T W 0 0),(T W 0 0),(T W 0 0),(bV .i64 0),(bV .i64 0),(bV .i64 0),(T W 0 0),(T W 0 0),(T W 0 0)]/\Br 43 [(T W 0 0),(T W 0 0)]/\Br 44 [(tN W)]/\Br 68 [(T W 0 0),(gF aA),(T W 0 0),(bV .i64 0)]/\Br 76 [(bV .i64 0),(T W 0 0)]/\Br 86 [(bV .i64 0),(bV .i64 0)]/\K7 [119,119] 121 3/\K7 [123,123] 161 2/\K7 [124,124] 22 1/\K7 [168,168] 234 7/\K7 [169,169] 238 5/\K7 [178,178] 240 4/\K7 [184,184] 275 2/\K7 [207,207] 209 4/\K7 [215,215] 221 5/\K7 [219,219] 331 2/\K7 [22,22] 3 1/\K7 [24,24] 9 1/\K7 [25,25] 119 1/\K7 [260,260] 228 3/\K7 [271,271] 5 1/\K7 [28,28] 194 7/\K7 [29,29] 200 5/\K7 [290,290] 292 2/\K7 [30,30] 186 5/\K7 [33,33] 202 4/\K7 [34,34] 4 1/\K7 [65,65] 86 2/\Je 119 1 121 [(bV .i64 0),(bV .i64 0),(bV .i64 0)] 3/\Je 123 1 161 [(bV .i64 0),(bV .i64 0)] 2/\sh3 124 1 22 [(T W 0 0)]/\Je 168 1 234 [(fO<|cz #[]),(gF aA),(gF aA),(gF aA),(bV .i64 0),(bV .i64 0),(bV .i64 0)] 7/\Je 169 1 238 [(bV .i64 0),(T W 0 0),(fO<|cz #[]),(T W 0 0),(bV .i64 0)] 5/\Je 178 0 240 [(fO<|cz #[]),(bV .i64 0),(bV .i64 0),(gF aA)] 4/\Je 178 1 240 [(fO<|cz #[]),(bV .i64 0),(bV .i64 0),(gF aA)] 4/\Je 184 1 275 [(bV .i64 0),(bV .i64 0)] 2/\Je 207 1 209 [(bV .i64 0),(bV .i64 0),(bV .i64 0),(bV .i64 0)] 4/\Je 215 1 221 [(bV .i64 0),(bV .i64 0),(bV .i64 0),(fO<|cz #[]),(T W 0 0)] 5/\Je 219 0 331 [(bV .i32 0),(bV .i32 0)] 2/\Je 219 1 331 [(bV .i32 0),(bV .i32 0)] 2/\Je 22 0 3 [(bV .i64 0)] 1/\sh3 22 1 3 [(bV .i64 0)]/\sh3 24 1 9 [(fO<|cz #[])]/\sh3 25 1 119 [(T W 0 0)]/\Je 260 1 228 [(bV .i64 0),(bV .i64 0),(bV .i64 0)] 3/\sh3 271 1 5 [(bV .u8 0)]/\Je 271 2 5 [(bV .u8 0)] 1/\Je 271 3 5 [(bV .u8 0)] 1/\Je 271 4 5 [(bV .u8 0)] 1/\Je 28 0 194 [(fO<|cz #[]),(gF aA),(gF aA),(gF aA),(bV .i64 0),(bV .i64 0),(bV .i64 0)] 7/\Je 28 1 194 [(fO<|cz #[]),(gF aA),(gF aA),(gF aA),(bV .i64 0),(bV .i64 0),(bV .i64 0)] 7/\Je 29 0 200 [(bV .i64 0),(T W 0 0),(fO<|cz #[]),(T W 0 0),(bV .i64 0)] 5/\Je 29 1 200 [(bV .i64 0),(T W 0 0),(fO<|cz #[]),(T W 0 0),(bV .i64 0)] 5/\Je 290 1 292 [(bV .i64 0),(bV .i64 0)] 2/\Je 30 1 186 [(bV .i64 0),(bV .i64 0),(bV .i64 0),(fO<|cz #[]),(T W 0 0)] 5/\Je 33 1 202 [(fO<|cz #[]),(bV .i64 0),(bV .i64 0),(gF aA)] 4/\sh3 34 1 4 [(gF aA)]/\Je 65 1 86 [(bV .i64 0),(bV .i64 0)] 2/\Dy 114 [(0,6),(6,1),(7,1)] [(T W 0 0),(T W 0 0),(T W 0 0),(T W 0 0),(T W 0 0),(bV .i64 0),(T W 0 0),(T W 0 0)]/\Dy 121 [(0,1),(1,1),(2,1)] [(bV .i64 0),(bV .i64 0),(bV .i64 0)]/\Dy 128 [(0,1),(1,1),(2,1),(3,1)] [(T W 0 0),(T W 0 0),(Wi W),(Wi W)]/\sh5 133 []/\Dy 156 [(0,4),(4,1),(5,1),(6,1)] [(T W 0 0),(gF aA),(T W 0 0),(bV .i64 0),(Wi W),(Wi W),(bV .i64 0)]/\Dy 161 [(0,1),(1,1)] [(bV .i64 0),(bV .i64 0)]/\Dy 163 [(0,1),(1,1)] [(bV .i64 0),(bV .i64 0)]/\Dy 171 [(0,1),(1,1)] [(T W 0 0),(T W 0 0)]/\Dy 173 [(0,1),(1,1)] [(bV .i64 0),(bV .i64 0)]/\Dy 180 [(0,1)] [(T W 0 0)]/\Dy 186 [(0,1),(1,1),(2,1),(3,1),(4,1)] [(bV .i64 0),(bV .i64 0),(bV .i64 0),(fO<|cz #[]),(T W 0 0)]/\Dy 194 [(0,1),(1,1),(2,1),(3,1),(4,1),(5,1),(6,1)] [(fO<|cz #[]),(gF aA),(gF aA),(gF aA),(bV .i64 0),(bV .i64 0),(bV .i64 0)]/\Dy 200 [(0,1),(1,1),(2,1),(3,1),(4,1)] [(bV .i64 0),(T W 0 0),(fO<|cz #[]),(T W 0 0),(bV .i64 0)]/\Dy 202 [(0,1),(1,1),(2,1),(3,1)] [(fO<|cz #[]),(bV .i64 0),(bV .i64 0),(gF aA)]/\Dy 209 [(0,1),(1,3)] [(bV .i64 0),(bV .i64 0),(bV .i64 0),(bV .i64 0)]/\Dy 221 [(0,1),(1,1),(2,1),(3,1),(4,1)] [(bV .i64 0),(bV .i64 0),(bV .i64 0),(fO<|cz #[]),(T W 0 0)]/\Dy 226 [(0,1),(1,1),(2,2),(4,2)] [Value.nilFunc,Value.nilFunc,(T W 0 0),(T W 0 0),(bV .i64 0),(bV .i64 0)]/\Dy 228 [(0,1),(1,1),(2,1)] [(bV .i64 0),(bV .i64 0),(bV .i64 0)]/\Dy 238 [(0,1),(1,1),(2,1),(3,1),(4,1)] [(bV .i64 0),(T W 0 0),(fO<|cz #[]),(T W 0 0),(bV .i64 0)]/\Dy 240 [(0,1),(1,1),(2,1),(3,1)] [(fO<|cz #[]),(bV .i64 0),(bV .i64 0),(gF aA)]/\Dy 27 [(0,1),(1,1),(2,1),(3,1),(4,1),(5,1)] [(T W 0 0),(T W 0 0),(T W 0 0),(T W 0 0),(T W 0 0),(bV .i64 0)]/\Dy 275 [(0,1),(1,1)] [(bV .i64 0),(bV .i64 0)]/\Dy 292 [(0,1),(1,1)] [(bV .i64 0),(bV .i64 0)]/\Dy 303 [(0,1),(1,1),(2,1),(3,1)] [(bV .i64 0),(bV .i64 0),(bV .i32 0),(gF aA)]/\Dy 32 [(0,1),(1,1),(2,1),(3,1),(4,1),(5,1)] [(T W 0 0),(T W 0 0),(T W 0 0),(bV .i64 0),(bV .i64 0),(bV .i64 0)]/\Dy 331 [(0,1),(1,1)] [(bV .i32 0),(bV .i32 0)]/\Dy 36 [(0,1),(1,1)] [(T W 0 0),(T W 0 0)]/\Dy 38 [(0,6),(6,1),(7,2)] [(T W 0 0),(T W 0 0),(T W 0 0),(bV .i64 0),(bV .i64 0),(bV .i64 0),(T W 0 0),(T W 0 0),(T W 0 0)]/\Dy 43 [(0,1),(1,1)] [(T W 0 0),(T W 0 0)]/\Dy 68 [(0,1),(1,1),(2,1),(3,1)] [(T W 0 0),(gF aA),(T W 0 0),(bV .i64 0)]/\Dy 76 [(0,1),(1,1)] [(bV .i64 0),(T W 0 0)]/\Dy 86 [(0,1),(1,1)] [(bV .i64 0),(bV .i64 0)]/\Dy 88 [(0,1),(1,2)] [(bV .i64 0),(bV .i64 0),(bV .i64 0)]/\Dy 92 [(0,1),(1,1),(2,1),(3,1),(4,4),(8,1),(9,1),(10,1),(11,1)] [(tN W),(tN W),(T W 0 0),(bV .i64 0),(T W 0 0),(gF aA),(T W 0 0),(bV .i64 0),(bV .i64 0),(bV .i64 0),(bV .i64 0),(gF aA)]/\uk 104 1/\uk 105 1/\uk 119 1/\uk 121 3/\uk 123 1/\uk 124 1/\uk 125 1/\uk 126 1/\uk 151 1/\uk 154 1/\uk 161 2/\uk 163 2/\uk 168 1/\uk 169 1/\uk 171 2/\uk 173 2/\uk 178 1/\uk 180 1/\uk 184 1/\uk 186 5/\uk 194 7/\uk 200 5/\uk 207 1/\uk 209 4/\uk 21 1/\uk 215 1/\uk 219 1/\uk 22 1/\uk 221 5/\uk 222 1/\uk 223 1/\uk 228 3/\uk 23 1/\uk 234 7/\uk 238 5/\uk 24 1/\uk 240 4/\uk 25 1/\uk 265 1/\uk 27 6/\uk 271 1/\uk 28 1/\uk 287 1/\uk 288 1/\uk 29 1/\uk 290 1/\uk 299 1/\uk 3 1/\uk 30 1/\uk 32 6/\uk 331 2/\uk 34 1/\uk 353 2/\uk 36 2/\uk 4 1/\uk 43 2/\uk 44 1/\uk 45 1/\uk 5 1/\uk 58 1/\uk 65 1/\uk 68 4/\uk 69 1/\uk 76 2/\uk 86 2/\uk 9 1/\sh7 [271,9] 1/\sh7 [51,51] 1/\sh8 [22] [(bV .i64 0)]/\iV 114 0/\LH 114 1 6/\LH 114 2 7/\iV 121 0/\iV 121 1/\iV 121 2/\iV 128 0/\iV 128 1/\iV 128 2/\iV 128 3/\iV 156 0/\LH 156 1 4/\LH 156 2 5/\LH 156 3 6/\iV 161 0/\iV 171 0/\iV 171 1/\iV 173 0/\iV 173 1/\iV 180 0/\iV 186 0/\iV 186 1/\iV 186 2/\iV 186 3/\iV 186 4/\iV 194 0/\iV 194 1/\iV 194 2/\iV 194 3/\iV 194 4/\iV 194 5/\iV 194 6/\iV 200 0/\iV 200 1/\iV 200 2/\iV 202 0/\iV 209 0/\iV 209 1/\iV 221 0/\iV 221 1/\iV 221 2/\iV 221 3/\iV 221 4/\iV 226 0/\iV 226 1/\iV 226 2/\LH 226 3 4/\iV 234 0/\iV 234 1/\iV 234 2/\iV 234 3/\iV 234 4/\iV 234 5/\iV 234 6/\iV 238 0/\iV 238 1/\iV 238 2/\iV 240 0/\iV 240 1/\iV 27 0/\iV 27 1/\iV 27 2/\iV 27 3/\iV 27 4/\iV 27 5/\iV 275 0/\iV 275 1/\iV 292 0/\iV 292 1/\iV 301 0/\iV 301 1/\iV 303 1/\iV 303 2/\iV 303 3/\iV 32 0/\iV 32 1/\iV 32 2/\iV 32 3/\iV 32 4/\iV 32 5/\iV 331 0/\iV 331 1/\iV 353 0/\iV 353 1/\iV 36 0/\iV 36 1/\iV 43 0/\iV 43 1/\iV 68 0/\iV 68 1/\iV 68 3/\iV 76 0/\iV 76 1/\iV 86 0/\iV 86 1/\iV 92 0/\iV 92 1/\iV 92 2/\iV 92 3/\iV 92 4/\LH 92 5 8/\LH 92 6 9/\LH 92 7 10/\LH 92 8 11/\agQ 221 0 W/\agQ 221 1 W/\agQ 228 0 W/\xV 119 3/\xV 123 2/\xV 124 1/\xV 168 7/\xV 169 5/\xV 178 4/\xV 184 2/\xV 206 1/\xV 207 4/\xV 215 5/\xV 218 2/\xV 219 2/\xV 22 1/\xV 24 1/\xV 25 1/\xV 260 3/\xV 271 1/\xV 28 7/\xV 29 5/\xV 290 2/\xV 30 5/\xV 33 4/\xV 34 1/\agR 351 256 1/\agR 354 16 2/\xV 51 1/\agR 57 2 1/\xV 65 2/\ak5 9/\kV 104 W/\kV 105 W/\kV 119 W/\kV 121 (Z 3)/\kV 123 W/\kV 124 W/\kV 125 W/\kV 126 W/\kV 151 W/\kV 154 W/\kV 161 (Z 2)/\kV 163 (Z 2)/\kV 168 W/\kV 169 W/\kV 171 (Z 2)/\kV 173 (Z 2)/\kV 178 W/\kV 180 (Z 1)/\kV 184 W/\kV 186 (Z 5)/\kV 194 (Z 7)/\kV 200 (Z 5)/\kV 207 W/\kV 209 (Z 4)/\kV 21 W/\kV 215 W/\kV 219 W/\kV 22 W/\kV 221 (Z 5)/\kV 222 W/\kV 223 W/\kV 228 (Z 3)/\kV 23 W/\kV 234 (Z 7)/\kV 238 (Z 5)/\kV 24 W/\kV 240 (Z 4)/\kV 25 W/\kV 265 W/\kV 27 (Z 6)/\kV 271 W/\kV 28 W/\kV 287 W/\kV 288 W/\kV 29 W/\kV 290 W/\kV 299 W/\kV 3 W/\kV 30 W/\kV 32 (Z 6)/\kV 331 (Z 2)/\kV 34 W/\kV 353 (Z 2)/\kV 36 (Z 2)/\kV 4 W/\kV 43 (Z 2)/\kV 44 W/\kV 45 W/\kV 5 W/\kV 58 W/\kV 65 W/\kV 68 (Z 4)/\kV 69 W/\kV 76 (Z 2)/\kV 86 (Z 2)/\kV 9 W/\S9 119 121 [(bV .i64 0),(bV .i64 0),(bV .i64 0)]/\S9 124 22 [(T W 0 0)]/\S9 206 207 [(T W 0 0)]/\S9 22 3 [(bV .i64 0)]/\S9 271 5 [(bV .u8 0)]/\S9 34 4 [(gF aA)]/\S9 51 105 [(bV .u64 0)]/\XF 169 5/\XF 219 2/\XF 22 1/\XF 290 2/\XF 51 1/\XF 65 2/\ak7 9/\mM 104 1/\mM 105 1/\mM 119 1/\mM 121 3/\mM 123 1/\mM 124 1/\mM 133 0/\mM 161 2/\mM 163 2/\mM 168 1/\mM 169 1/\mM 171 2/\mM 173 2/\mM 180 1/\mM 184 1/\mM 186 5/\mM 194 7/\mM 200 5/\mM 207 1/\mM 209 4/\mM 21 1/\mM 215 1/\mM 22 1/\mM 221 5/\mM 222 1/\mM 228 3/\mM 234 7/\mM 238 5/\mM 24 1/\mM 240 4/\mM 25 1/\mM 27 6/\mM 271 1/\mM 28 1/\mM 287 1/\mM 288 1/\mM 29 1/\mM 290 1/\mM 299 1/\mM 3 1/\mM 303 4/\mM 32 6/\mM 331 2/\mM 34 1/\mM 353 2/\mM 36 2/\mM 38 9/\mM 4 1/\mM 43 2/\mM 44 1/\mM 65 1/\mM 68 4/\mM 69 1/\mM 76 2/\mM 86 2/\mM 9 1:=by
 repeat' apply iq
 all_goals((repeat intro _);kernel_rfl)
def TFq:type_of%TF:=TF
def TDq:type_of%TD:=TD
section steps
variable{g:Nat}{q l:List Nat}{c:Code}{sl:Fr}{u:Rs}{H:F}{rs:List ResultVar}{args:List D}
def tl{K:Out->Prop}(h:A K)(y:sub (BG Pg g) q=c:=by conv=>lhs;whnf)(he:∀K,hr Pg X (jm Pg g) (Qn Pg g) (BG Pg g) 9999 (.co c<|yR q []) [] sl u H K=A K:=by intro K;conv=>lhs;simp(config:={maxSteps:=4000000}) (disch:=decide)only[↓SS,↓SV,↓SQ,↓yQ,↓ED,EE,TFq,↓TDq,↓reduceIte,dh,Nat.reduceBEq])(hk:Qh (jm Pg g) (Qn Pg g) sl=f:=by kernel_rfl):gJ Pg X (sub (BG Pg g) q) (ax Pg g sl u H) K:=
 goF (n:=9999) (by rw[he];exact h) y hk
def tm{K:Out->Prop}(h:vn)(y:sub (BG Pg g) q=c:=by conv=>lhs;whnf)(he:∀K,hr Pg X (jm Pg g) (Qn Pg g) (BG Pg g) 9999 (.co c<|yR q []) [] sl u H K=A K:=by intro K;conv=>lhs;simp(config:={maxSteps:=4000000}) (disch:=decide)only[↓SS,↓SV,↓SQ,↓yQ,↓ED,EE,TFq,↓TDq,↓reduceIte,dh,Nat.reduceBEq])(hk:Qh (jm Pg g) (Qn Pg g) sl=f:=by kernel_rfl)(av:vn->A K:=by intro h;(repeat(first|(simp only[PP,Nat.reduceBEq,gZ G.wf])|(refine PU.b1 O ?_)|(refine PU.b2 O ?_)|(refine PU.b3 O ?_)|(refine PU.b4 O ?_)|(refine PU.b5 O ?_)|(refine PU.b6 O ?_)|(refine PU.b7 O ?_)|(refine PU.b8 O ?_)|(refine PU.b9 O ?_)|(refine G.oF ?_)|(refine G.iK ?_)|(refine G.Qg ?_)|(refine G.Vd ?_)|(refine iB (by simp only[eG,fK<|Ext.refl<|hN _];rfl) ?_)));exact h):gJ Pg X (sub (BG Pg g) q) (ax Pg g sl u H) K:=tl (av h) y he hk
def tp{K:Out->Prop}(h:vn)(y:sub (BG Pg g) q=c:=by conv=>lhs;whnf)(he:∀K,hr Pg X (jm Pg g) (Qn Pg g) (BG Pg g) 9999 (.co c<|yR q []) [] sl u H K=A K:=by intro K;conv=>lhs;simp(config:={maxSteps:=4000000}) (disch:=decide)only[↓SS,↓SV,↓SQ,↓yQ,↓ED,EE,TFq,↓TDq,↓reduceIte,dh,Nat.reduceBEq])(hk:Qh (jm Pg g) (Qn Pg g) sl=f:=by kernel_rfl)(av:vn->A K:=by intro h;simp only[PP,Nat.reduceBEq];exact h):gJ Pg X (sub (BG Pg g) q) (ax Pg g sl u H) K:=tl (av h) y he hk
def ce(l:List Nat)(h:gJ Pg X (sub (BG Pg g) []) (ax Pg g sl [] H)<|jR Pg rs K)(hs:mkS l args=sl:=by conv=>lhs;simp only[EV,EE,TFq,↓reduceIte,dh,Nat.reduceBEq])(R:rsG Pg g=rs:=by conv=>lhs;whnf)(ho:X.o g args H=W:=by kernel_rfl)(hq:okF Pg g l (len args)=f:=by kernel_rfl):aJ Pg X g args H K:=ceF h hs R ho hq
def rr{A:(D->F->Prop)->Prop}(h:A K)(he:∀K:D->F->Prop,LB Pg rs sl u H (λvs=>K (rV vs) H)=A K:=by intro K;conv=>lhs;simp only[EV,EE,TFq,↓reduceIte,dh,Nat.reduceBEq])(hk:Qh (jm Pg g) (Qn Pg g) sl=f:=by kernel_rfl):jR Pg rs K (.ret<|ax Pg g sl u H):=rrF (by rw[he];exact h) hk
def rn{A:(D->F->Prop)->Prop}(h:A K)(he:∀K:D->F->Prop,LB Pg rs sl u H (λvs=>K (rV vs) H)=A K:=by intro K;conv=>lhs;simp only[EV,EE,TFq,↓reduceIte,dh,Nat.reduceBEq])(hk:Qh (jm Pg g) (Qn Pg g) sl=f:=by kernel_rfl):jR Pg rs K (.norm<|ax Pg g sl u H):=rnF (by rw[he];exact h) hk
end steps
end Go.Proofs.Lu
