/-
  OfferLess: with more less these go, and nothing else; each rule is told where it is called from
-/
import Derived.Test.YtpngmpbmokhmiaaGreatDoorZ10
import Derived.Test.YtpngmpbmokhmiaaGreatDoorZ12
import Derived.Test.YtpngmpbmokhmiaaGreatDoorZ13
import Derived.Test.YtpngmpbmokhmiaaGreatDoorCards
import Derived.Test.YtpngmpbmokhmiaaGreatDoorTie
set_option linter.unusedVariables false
set_option linter.unusedSimpArgs false
set_option maxRecDepth 100000
set_option maxHeartbeats 4000000
set_option linter.defProp false
open Option renaming some->Z,none->T
open Bool renaming true->f,false->aA
open Go renaming Value->C,TypeId->aI,Program->aX,World->cZ
open Go.Value renaming int->a_,slice->J,bool->aO,string->aJ,pointer->bG,tuple->fJ,agg->dN
open Nat renaming beq->aB,ble->aD,sub->dP
open List renaming length->u,range->d_
open Classical renaming choose->jI
open Go.IntKind renaming i64->bC
open Go.DataW renaming trod->mF
noncomputable section
namespace Go.Proofs.Lv
open Go.Proofs.Lu Go.Proofs.Lu.Wk
open Go.Ae Go.Ae.hx
variable{k s:Nat}
section
variable{H0 H:R}{L hx:D eF}{S au:D Nat}{cs F':Nat->Prop}{A:At}{q q':AV}{ev sv:C}{sb:D Bool}{rw' most n:Nat}{z:ai}
def akp:bM Pg X 59 [bG T] H (Q0 (λv=>v=aO f) H):=by
 refine lF [0,2] ?_;refine dA (v:=aO f) fQ ?_;refine bN ?_;refine Lu.rr ?_;exact⟨O,O⟩
def ao9(e:Wf H):bM Pg X 65 [bG T] H (Q1 (λv _=>v=dN ⟨agN⟩) H):=by
 refine lF [0,2] ?_;have G:=gM e;refine G.jM λH1 E G=>?_;refine dn akp ?_;rintro _ g ⟨rfl,rfl⟩;refine bN ?_;refine dA (v:=dN ⟨agN⟩) O ?_;refine G.j_ λj G=>Lu.rr ?_;apply G.jl;exact⟨O,G.ext⟩
def anv(e:Wf H):bM Pg X 35 [dN ⟨agN⟩] H (Q1 (λv _=>v=vi 0) H):=by
 refine lF [0,1,2] ?_;have G:=gM e;refine G.box O λH1 E G=>?_;refine fF ?_;refine Lu.rr ?_;exact⟨O,G.ext⟩
def apa(e:Wf H)(z:Int):bM Pg X 45 [bG T,vi z] H (Q1 (λv _=>v=fJ ⟨[bG T,vi 1]⟩) H):=by
 refine lF [0,1,4,5,6,7,8,9] ?_;refine dn (ao9 e) ?_;rintro _ H1 ⟨rfl,M⟩;have G:=(gM e).call M;refine G.ns O O O λt ra G g=>?_;refine fF ?_;refine G.cm (anv G.wf) ?_;rintro _ w rfl j G;refine bN ?_;refine aV (λ_=>?_) λh=>absurd trivial h;refine Lu.rr ?_;exact⟨O,G.ext⟩
def mmN{b:Bool}(x y:Nat):U5 b [W x,a_ bC y]=Z (W (if b=f then max x y else min x y)):=by
 cases b with
 |false=>show U5 aA [a_ bC x,a_ bC y]=_;rw[min2];show _=Z (W<|min x y);rw[show min (x:Int) y=((min x y:Nat):Int) by omega]
 |true=>show U5 f [a_ bC x,a_ bC y]=_;rw[max2];show _=Z (W<|max x y);rw[show max (x:Int) y=((max x y:Nat):Int) by omega]
def ag0(hs:s<=602)(hk:k<=61)(g:Wf H):bM Pg X 47 [W s,W k] H (Q0 (λv=>v=W (s*(s*(k+1)+1)*(k+1))) H):=by
 have I:s*(k+1)<=602*62:=jk N N;have B:s*(s*(k+1)+1)<=602*37325:=jk N N;have e:s*(s*(k+1)+1)*(k+1)<=22469650*62:=jk N N;refine lF [0,1,4,5,6] ?_;refine dA (v:=W s) ((mmN s 0).trans<|by rw[jj O,w9<|bD _]) ?_;refine dA (v:=W s) ((mmN s 32768).trans<|by rw[jx jg,jF N]) ?_;refine dA (v:=W k) ((mmN k 0).trans<|by rw[jj O,w9<|bD _]) ?_;refine dA (v:=W k) ((mmN k 32768).trans<|by rw[jx jg,jF N]) ?_;refine dA (v:=W<|k+1) (k_ 1 O N)<|dA (v:=W<|s*(k+1)) (mulN s O N)<|dA (v:=W<|s*(k+1)+1) (k_ 1 O N)<|dA (v:=W<|s*(s*(k+1)+1)) (mulN s O N)<|dA (v:=W<|s*(s*(k+1)+1)*(k+1)) (mulN _ O N)<|dA (v:=W<|s*(s*(k+1)+1)*(k+1)) ((min2 _ _ _).trans<|by rw[Int.min_eq_left N])<|Lu.rr ?_;exact⟨O,O⟩
abbrev ints(l:D Int):D C:=l.map vi
structure Rm(A:At)(n most:Nat):Prop where
 b:bnd A n<=8000000
 s:A.ns*(n+1)<=1000000
 e:(n+1)*bnd A n<=most
 m:most<=1000000000000000
def Rm.lim(h:Rm A n most)(j:ai.vn A z)(hl:z.long+1<=n):Lim A (z.long+1) (most-z.st)/\z.st<=most:=by
 have I:bnd A (z.long+1)<=bnd A n:=GM hl;have B:bnd A z.long<=bnd A n:=GM N;have t:z.st<=n*bnd A n:=aR j.st<|jk hl B;have g:=h.e;rw[jN]at g;exact⟨⟨N,aR I h.b,aR (g_ _ N) h.s⟩,N⟩
def Rm.apb(h:Rm A n most):Lim A 0 most:=by
 have I:bnd A 0<=bnd A n:=GM<|bD _;have g:=h.e;rw[jN]at g;exact⟨N,aR I h.b,aR (g_ _ N) h.s⟩
def Bg(A:At):Nat:=A.ns*(A.ns*(31+1)+1)*(31+1)
def Rm.bg(hs:A.ns<=300):Rm A 31 (Bg A):=by
 have I:A.ns*(31+1)<=300*32:=jk hs N;have B:bnd A 31<=300*(300*32+1):=jk hs N;have e:Bg A<=300*(300*32+1)*32:=jk B<|ax _;refine⟨N,N,?_,N⟩;show(31+1)*bnd A 31<=bnd A 31*(31+1);rw[wR];exact ax _
def GN.both(h:GN cs H rw' A q ev sv sb):GN (λr=>cs r/\r<H.bV) H rw' A q ev sv sb:=
 ⟨⟨h.k,h.k.2⟩,h.b,h.a.both,let⟨sa,sc,e,hf⟩:=h.s;⟨sa,sc,e,hf.1,λr o e g=>let⟨I,B,h3⟩:=hf.2 r o e g;⟨⟨I,B⟩,B,h3⟩⟩,h.l,h.on,let⟨eb,ea,ec,e,hf,hm⟩:=h.e;⟨eb,ea,ec,e,⟨hf.1,λr o e g=>let⟨I,B,h3⟩:=hf.2 r o e g;⟨⟨I,B⟩,B,h3⟩⟩,hm⟩⟩
def Fla(n:Nat)(v:C):Prop:=∃l,v=dN ⟨l⟩/\cr v=l/\u l=n/\all' gI l=f
def Bgn(H:R)(x a:C)(Q:R):Prop:=∃(A:At)(rp rw c b:Nat)(q q':AV)(ev sv:C)(sb:D Bool)(S:D Nat),At.Ok A/\A.ns<=300/\A.ty<=5000/\A.tot<=2*A.ns/\vF (λ_=>True) Q A q/\x=pr rp/\a=q.v A/\b<=Q.bV/\
 GN (λr=>c<=r/\r<b) Q rw A q' ev sv sb/\(∀r∈S,b<=r/\H.bV<=r/\r<Q.bV)/\Sm S Q Q rp rw (Bg A) A (ai.new A)
theorem Xl(hw:Wf H)(hT:Dl H)(s:aZ):bM Pg X 19 [aJ s] H (Q1 (λv Q=>∃(x a g:C)(ok:Int),v=fJ ⟨[x,a,g,vi ok]⟩/\Fla 6 a/\Fla 9 g/\(ok≠0->Bgn H x a Q)) H):=by
 have G:=gM hw;refine lF [0,2,3,4,5,6,7,8,9,10,11,12] ?_;refine G.jM λH1 r27 G=>?_;refine G.jM λH2 ad G=>?_;have a7:=G;refine G.cm (Ut G.wf (hT.ex G.ext) s) ?_;rintro v H3 ⟨x,ok,rfl,bh,a8⟩ M G;refine G.kN ?_
 obtain⟨y,B,P,U,Y,a6,rfl,OI⟩:∃y B P U Y a6,x=dN ⟨[y,B,P,U,Y,a6]⟩/\all' gI [y,B,P,U,Y,a6]=f/\cr (dN ⟨[y,B,P,U,Y,a6]⟩)=[y,B,P,U,Y,a6]:=by
  by_cases c:ok=0
  .rw[bh c];exact⟨_,_,_,_,_,_,O,O,O⟩
  .obtain⟨A,_,_,_,_,_,q,rfl,_⟩:=a8 c;exact⟨_,_,_,_,_,_,O,O,O⟩
 refine G.og (by rw[OI.2];rfl) rfl (by rw[OI.2];exact OI.1) λH4 r6 G aq=>?_;rw[OI.2]at G;have xG:=G;refine aV (λhc=>?_) λhc=>?_
 .refine fF ?_;refine G.j_ λHn G=>?_;refine G.j_ λHn G=>?_;refine Lu.rr ?_;refine fF ?_;exact⟨⟨_,_,_,0,O,⟨_,O,O,O,O⟩,⟨_,O,O,O,O⟩,λh=>absurd O h⟩,G.ext⟩
 have⟨A,ho,ae5,hty,UW,htr,q,eq,hA⟩:=a8 hc;refine G.uE 0 O (ax 6) ?_;show bM Pg X 21 [dN ⟨[y,B,P,U,Y,a6]⟩] H4 _;rw[eq];refine G.cm (aek G.wf (hA.ex aq) ho htr) ?_;rintro v H5 ⟨w,ab,rfl,bf,be⟩ a9 G;refine bN ?_;refine G.uE 0 O (ax 6) ?_;show bM Pg X 35 [dN ⟨[y,B,P,U,Y,a6]⟩] H5 _;rw[eq];refine G.cm (vR G.wf q A) ?_;rintro _ H6 rfl am G;refine dn (ag0 (s:=A.ns) (k:=31) N N G.wf) ?_;rintro _ H6 ⟨rfl,rfl⟩
 have bd:bM Pg X 45 [w,W<|Bg A] H6 (λv Q=>∃(x:C)(ay:Int),v=fJ ⟨[x,vi ay]⟩/\Ext H6 Q/\(ab=0->∃rp rw q' ev sv sb,x=pr rp/\GN (λr=>H4.bV<=r/\r<H5.bV) Q rw A q' ev sv sb/\Sm [] H6 Q rp rw (Bg A) A (ai.new A))):=by
  by_cases c:ab=0
  .obtain⟨rw,q',ev,sv,sb,rfl,hk⟩:=be c;have hk:=(hk.both).stay am nofun;refine(aj3 ho G.wf hk (λr h=>aP h.2 am.bV) (Rm.bg ae5).apb).mono ?_;rintro _ Q ⟨rp,rfl,t⟩;exact⟨_,_,O,t.ext,λ_=>⟨rp,rw,q',ev,sv,sb,rfl,hk.stay t.ext<|nofun,t⟩⟩
  .rw[bf c];exact(apa G.wf _).mono λv Q h=>⟨_,_,h.1,h.2,λh=>absurd h c⟩
 refine dn bd ?_;rintro _ H7 ⟨x,ay,rfl,ar,t⟩;have al:H5.bV<=H6.bV:=am.bV;have G:=G.call ar;refine bN ?_;refine G.cm (anq G.wf s) ?_;rintro v H8 ⟨ra,rl,rc,na,m,nc,ta,n,tc,p,e,at',rfl,hg⟩ z8 G;refine G.og O O O λH9 r12 G GY=>?_
 have an:∀{b:Bool}{E:Rs},Ci E 47=aO b->(b=aA->ab=0/\e=0)->iC Pg X (sub (BG Pg 19) [1,1,1,1,1,1,0,1]) (Go.Ae.hx.cs Pg 19 (Fr.c 0 (aJ s)<|Fr.c 2 (bG T)<|Fr.c 3 (pr r27)<|Fr.c 4 (pr ad)<|Fr.c 5 (vi 0)<|Fr.c 6 (pr r6)<|Fr.c 7 (vi ok)<|Fr.c 8 w<|Fr.c 9 (vi ab)<|Fr.c 10 x<|Fr.c 11 (vi ay)<|Fr.c 12 (pr r12)<|Fr.n) E H9) (uQ Pg X (sub (BG Pg 19) [1,1,1,1,1,1,1])<|jO Pg [.tmp 2,.cell 3 27,.cell 4 38,.tmp 5]<|Q1 (λv Q=>∃(x a g:C)(ok:Int),v=fJ ⟨[x,a,g,vi ok]⟩/\Fla 6 a/\Fla 9 g/\(ok≠0->Bgn H x a Q)) H):=by
  intro b E bc hb;refine tl ?_;rw[bc];cases b;rotate_left
  .refine fF ?_;refine G.j_ λHn G=>?_;refine G.j_ λHn G=>?_;refine Lu.rr ?_;refine fF ?_;exact⟨⟨_,_,_,0,O,⟨_,O,O,O,O⟩,⟨_,O,O,O,O⟩,λh=>absurd O h⟩,G.ext⟩
  obtain⟨I,rfl⟩:=hb O;have⟨aa,hu⟩:=(hg O).gr;refine bN ?_;refine tm ?_;refine dn (yOf (oC H9) (show GR aa TT (hN H9) _ m rl from(hu.ex GY:GR aa TT H9 _ m rl))) ?_;rintro v Cw ⟨⟨hv,l9,rfl,c9,n9,k9⟩,uD⟩;have G:=G.oD uD;have n1:=G.nq 0 1 O O N;have n2:=G.nq 0 2 O O N;have n3:=G.nq 0 3 O O N;have n4:=G.nq 1 2 O O N;have n5:=G.nq 1 3 O O N;have n6:=G.nq 2 3 O O N;have ao:SH [] H (hM H9 Cw) ([(ad,38,_),(r27,27,_)]):=fV (A:=[_,_]) G;have G:=ao.base;refine G.oq (λRt G=>?_) (show u (cr<|dN ⟨[y,B,P,U,Y,a6]⟩)=6 by rw[OI.2];rfl) jg (show all' gI (cr<|dN ⟨[y,B,P,U,Y,a6]⟩)=f by rw[OI.2];exact OI.1);refine G.oq (λbi G=>?_) (by rw[c9];exact n9) jg (by rw[c9];exact k9);refine(show∀K:Prop,K->_/\K fromλKz hK=>?_) _ ?_
  .simp only[eZ,gN,fP uD];apply VP n1 n2 n3 n4 n5 n6 yX fQ fQ hK
  have T4:=((ao.over G).cast (L':=[(ad,38,l9),(r27,27,[y,B,P,U,Y,a6])]) (by
   rw[oF _ _ (by rw[c9];exact n9.symm),c9,oF _ _ (by rw[show cr (dN ⟨List.take 6<|List.drop 0 [y,B,P,U,Y,a6]⟩)=[y,B,P,U,Y,a6]from OI.2];rfl),show cr (dN ⟨List.take 6<|List.drop 0 [y,B,P,U,Y,a6]⟩)=[y,B,P,U,Y,a6]from OI.2]))
  obtain⟨rp,rw,q',ev,sv,sb,rfl,hk,t⟩:=t I;have Jb:Ext H7 (hM H9 Cw):=(z8.trans GY).trans uD.draw;have⟨S',hS',hown⟩:=(t.ex Jb).own;have ba:=(a7.lo _<|aT (i:=0) O).2;have bb:=(a7.lo _<|aT (i:=1) O).2;have aw:=M.bV;have aE:=aq.bV;have a0:=a9.bV
  have ac:∀r∈[ad,r27],r<H2.bV:=λr j=>by
   simp only[bW,fq,je]at j;rcases j with rfl|rfl
   .exact ba
   .exact bb
  have ap:∀r∈S',H6.bV<=r:=λr j=>((hS' r j).1).resolve_left<|nofun;have he:=xG.ext.bV;refine Lu.rr ?_;refine T4.uE 1 O (ax 6) ?_;refine T4.uE 0 O (show 0+9<=u l9 by rw[n9];decide) ?_;have e9:List.take Pg.types[38].size (List.drop 0 l9)=l9:=dV<|rQ n9;refine⟨⟨_,_,_,1,O,⟨_,O,OI.2,O,OI.1⟩,⟨_,O,by rw[e9];exact c9,by rw[e9];exact n9,by rw[e9];exact k9⟩,λ_=>⟨A,rp,rw,H4.bV,H5.bV,q,q',ev,sv,sb,S',ho,ae5,hty,UW,?_,rfl,eq,?_,?_,λr j=>⟨?_,?_,?_⟩,hown [ad,r27] _ G.ext λr j=>⟨?_,?_⟩⟩⟩,T4.ext⟩
  .exact((hA.ex<|aq.trans<|a9.trans<|am.trans<|ar.trans Jb).stay G.ext λr j h=>absurd (ac r j)<|fu h).wk λ_ _=>trivial
  .exact aR al<|aR ar.bV<|aR Jb.bV G.ext.bV
  .exact(hk.stay Jb nofun).stay G.ext λr j h=>absurd (ac r j)<|fu<|aR (aR aw aE) h.1
  .exact aR al<|ap r j
  .exact aR (aR he<|aR a0 al)<|ap r j
  .exact aP (hS' r j).2 G.ext.bV
  .exactλh=>fu (aR (aR (aR aw aE)<|aR a0 al)<|ap r h)<|ac r j
  .exact ao.Az (ty:=86) O r j
 refine eU (λc=>an O nofun) λc=>?_;refine bN ?_;refine eU (λc2=>an O nofun) λc2=>?_;refine fF ?_;exact an O λh=>⟨c,om h⟩
end
end Go.Proofs.Lv
namespace Go.Proofs.Lu
open Go.Ae Go.Ae.hx
section
variable{cs F':Nat->Prop}{H0 H:R}{L hx:D eF}{S:D Nat}
def ag1:∀i,i<256->∃z:Nat,Fu[i]?=Z z/\(z=240\/z=241\/z=2\/z=19\/z=3\/z=35\/z=52\/z=4\/z=68):=by
 have h:((d_ 256).all λi=>match Fu[i]? with|some z=>decide (z=240\/z=241\/z=2\/z=19\/z=3\/z=35\/z=52\/z=4\/z=68)|none=>aA)=f:=by decide +kernel
 intro i e;have:=fD.1 h i<|jR.2 e;cases hz:Fu[i]? with
 |none=>rw[hz]at this;cases this
 |some z=>rw[hz]at this;exact⟨z,O,om this⟩
def ag2:∀i,i<16->∃x y:Nat,KC[i*2]?=Z x/\KC[i*2+1]?=Z y:=by
 intro i e;have g:u KC=32:=rfl;exact⟨_,_,av N,av N⟩
def Dl.of(h:Ay H):Dl H:=by
 have⟨h0,t1,t2,I,B⟩:=h;refine⟨λi e=>?_,λi e=>?_,h0⟩
 .have⟨z,hz,hv⟩:=ag1 i e;exact⟨z,N,acz I hz⟩
 .have⟨x,y,M,hy⟩:=ag2 i e;exact⟨x,y,Z7 B M hy⟩
def akq(a:Bool)(i j:Nat):mW Pg .neq 4 (.tmp i) (.tmp j) (aO a) (aO a)=Z (aO aA):=by
 cases a<;>kernel_rfl
def Hd(a:aC Addr)(n c:Nat):Prop:=(a=T/\n=0/\c=0)\/∃r o,a=Z ⟨r,o,T⟩/\n<=c/\c<=9223372036854775807
end
end Go.Proofs.Lu
namespace Go.Proofs.Lv
open Go.Proofs.Lu Go.Proofs.Lu.Wk
open Go.Ae Go.Ae.hx
variable{l:D Int}{i m r tc:Nat}{v:C}
section
variable{H0 H:R}{L hx:D eF}{S au:D Nat}{cs F':Nat->Prop}{A:At}{q q':AV}{ev sv:C}{sb:D Bool}{rw' most n:Nat}{ta:aC Addr}
def ints_at(h:i<u l):(ints l)[i]?=Z (vi l[i]):=jV _<|av h
def _root_.Go.Ae.SH.whole{K:C->R->Prop}{ty:aI}{F:D C}(G:SH S H0 H L)(i:Nat)(hi:L[i]?=Z (r,ty,F))(hc:u F=m)(hv:Fla m v)(kk:∀H1 l,v=dN ⟨l⟩->u l=m->SH S H0 H1 (L.set i (r,ty,l))->K undef H1):ME (GU m (bG<|Z ⟨r,0,T⟩) v H) K:=by
 obtain⟨l,rfl,I,B,e⟩:=hv;refine G.st i hi (by rw[I];exact B) N (by rw[I];exact e) λH1 G=>?_;rw[I,oF _ _ N]at G;exact kk H1 l O B G
end
end Go.Proofs.Lv
namespace Go.Proofs.Lu
open Go.Proofs.YtpngmpbmokhmiaaGreatDoor Go.Ae Go.ChangeShapes Go.WideShapes Go.ChangeAt Go.RowKit Go.Deep
variable{p:D MemPlace}{sp:Nat->Bool}{base fuel o r:Nat}{held:Bool}{H:Type}{F:D C}{a b:Int}{v:C}
abbrev T0:Nat->aC nI:=λ_=>T
structure Laid(vn:cZ):Prop where
 size:3<=vn.heap.size
 t1:∃(ty:aI)(F:Array C)(fr:Nat×Nat),vn.heap[1]?=Z (.cells F ty fr)/\F.toList=Fu.map λz=>a_ .u8 (z:Nat)
 t2:∃(ty:aI)(F:Array C)(fr:Nat×Nat),vn.heap[2]?=Z (.cells F ty fr)/\F.toList=KC.map λz=>a_ .u8 (z:Nat)
def Zi{vn:cZ}{ty:aI}{F:Array C}{fr:Nat×Nat}{l:D Nat}(h:vn.heap[r]?=Z (.cells F ty fr))(e:F.toList=l.map λz=>a_ .u8 (z:Nat)):(Bb vn T0).obj r=xm ty .u8 l:=by
 have j:r<vn.heap.size:=(eX.1 h).1;rw[MP vn T0 j];show(match vn.heap[r]? with|some o=>ajh o|none=>.dead)=_;rw[h];show nI.row ⟨ty,Tr.uS top (F.toList.map MO) 0 .nil,F.size,f,0⟩=nI.row ⟨ty,Tr.uS top (mp (λn=>a_ .u8<|Int.ofNat n) l) 0 .nil,len l,f,0⟩
 have g:F.size=len l:=by
  rw[h_,<-qo,e,aM]
 rw[e,G5,g,uz];rfl
def Laid.tabs{vn:cZ}(h:Laid vn):Ay (Bb vn T0):=by
 have⟨t1,c1,f1,I,e1⟩:=h.t1;have⟨t2,c2,f2,B,e2⟩:=h.t2;exact⟨h.size,t1,t2,Zi I e1,Zi B e2⟩
def ae6{enc:aI×C->H}{vn:cZ}(h:mF enc Tryz.prog vn base sp held fuel 5 F=Z (.lit<|.int .u8 a,p)):F=[.int .u8 a]:=by
 have⟨n,e1,e2,_⟩:=DataW.trod_int Tryz.underlying5 h;have:a=n:=by injection e2 with e3 _;injection e3 with e4;injection e4
 rw[e1,this]
def ag3{enc:aI×C->H}{vn:cZ}(h:mF enc Tryz.prog vn base sp held fuel 353 F=Z (.agg [.lit (.int .u8 a),.lit<|.int .u8 b],p)):F=[.int .u8 a,.int .u8 b]:=by
 have⟨ys,n,_,e,hl,hy,hf⟩:=DataW.trod_struct Tryz.underlying353 h;have K:Tryz.prog.cellsOf 5=1:=fQ;have j:Tryz.prog.cellsOf 353=2:=fQ;rw[j]at hl;have g:ys.map (·.1)=[.lit (.int .u8 a),.lit<|.int .u8 b]:=(DataW.agg.inj (Prod.mk.inj e).1).symm
 match F,hl with
 |[x,y],_=>
  match ys,g with
  |[y0,y1],g=>
   simp only[i_,kI,List.cons.injEq,zf]at g;have⟨q0,q1⟩:=g;have M:=hf 0 _ O;have N:=hf 1 _ O;have⟨d0,p0⟩:=y0;have⟨d1,p1⟩:=y1;simp only at q0 q1;subst q0 q1;have t:mF enc Tryz.prog vn base sp held n 5 (([x,y].drop 0).take<|Tryz.prog.cellsOf 5)=Z (.lit<|.int .u8 a,p0):=M;have w:mF enc Tryz.prog vn base sp held n 5 (([x,y].drop 1).take<|Tryz.prog.cellsOf 5)=Z (.lit<|.int .u8 b,p1):=N;rw[K]at t w;have B:=ae6 t;have I:=ae6 w;simp at B I;rw[B,I]
def ae7{enc:aI×C->H}{vn:cZ}(h:mF enc Tryz.prog vn base sp held fuel 351 F=Z (.agg<|Fu.map λz=>.lit<|.int .u8 (z:Nat),p)):F=Fu.map λz=>a_ .u8 (z:Nat):=by
 have⟨xs,m,_,ex,hl,hn,hel⟩:=DataW.trod_array Tryz.underlying351 h;have y:Tryz.prog.cellsOf 5=1:=fQ;have e:Tryz.prog.cellsOf 351=256:=fQ;have g:Fu.length=256:=jg;have K:xs.map (·.1)=Fu.map λz=>.lit (.int .u8 (z:Nat)):=(DataW.agg.inj (Prod.mk.inj ex).1).symm;apply ja
 .rw[hl,e,aM,g]
 intro i I B;rw[aM]at B;have j:=hel i N;rw[y,dY,av N]at j;have t:(xs.map (·.1))[i]?=(Fu.map λz=>DataW.lit<|.int .u8 (z:Nat))[i]?:=by rw[K]
 rw[bL,bL,av (by omega:i<xs.length),av B]at t;have M:xs[i].1=.lit (.int .u8 (Fu[i]:Nat)):=om t;have O:=ae6 (p:=xs[i].2) (a:=(Fu[i]:Nat)) (by rw[j,<-M]);have w:((F.drop i).take 1)[0]?=Z (a_ .u8 (Fu[i]:Nat)):=by rw[O];rfl
 simp at w;rw[iD];have P:=bK.1 w;exact P.2
def RQ:∀i,i<16->∃a b:Nat,(match(Rows.laid_unicode_utf8_acceptRanges:DataW Unit)with|.agg l=>l[i]?|_=>T)=Z (.agg [.lit (.int .u8 (a:Nat)),.lit<|.int .u8 (b:Nat)])/\KC[i*2]?=Z a/\KC[i*2+1]?=Z b:=by
 intro i e;have:i=0\/i=1\/i=2\/i=3\/i=4\/i=5\/i=6\/i=7\/i=8\/i=9\/i=10\/i=11\/i=12\/i=13\/i=14\/i=15:=N;rcases this with rfl|rfl|rfl|rfl|rfl|rfl|rfl|rfl|rfl|rfl|rfl|rfl|rfl|rfl|rfl|rfl<;>exact⟨_,_,O,O,O⟩
def aaU{vn:cZ}(h:mF (λ_=>()) Tryz.prog vn base sp held fuel 354 F=Z (Rows.laid_unicode_utf8_acceptRanges,p)):F=KC.map λz=>a_ .u8 (z:Nat):=by
 have⟨xs,m,_,ex,hl,hn,hel⟩:=DataW.trod_array Tryz.underlying354 h;have t:Tryz.prog.cellsOf 353=2:=fQ;have w:Tryz.prog.cellsOf 354=32:=fQ;have K:KC.length=32:=jg;have P:Rows.laid_unicode_utf8_acceptRanges=.agg (xs.map (·.1)):=(Prod.mk.inj ex).1;rw[w]at hl;apply ja
 .rw[hl,aM,K]
 intro i I B;rw[aM]at B;have⟨a,b,e,q2,q3⟩:=RQ (i/2) N;rw[P]at e;have e:(xs.map (·.1))[i/2]?=Z (.agg [.lit (.int .u8 (a:Nat)),.lit<|.int .u8 (b:Nat)]):=e;rw[bL,av (by omega:i/2<xs.length)]at e;have e:xs[i/2].1=.agg [.lit (.int .u8 (a:Nat)),.lit<|.int .u8 (b:Nat)]:=om e;have M:=hel (i/2) N;rw[t,av N]at M;have T:=ag3 (p:=xs[i/2].2) (a:=(a:Nat)) (b:=(b:Nat)) (by rw[M,<-e]);have O:∀j,j<2->((F.drop<|i/2*2).take 2)[j]?=[a_ .u8 (a:Nat),a_ .u8 (b:Nat)][j]?:=λj _=>by rw[T]
 rw[iD];have y:i %2=0\/i %2=1:=N;rcases y with h8|h8
 .have g:=O 0 N;rw[iq,jj N,qW,show i/2*2+0=i by omega,av I]at g;rw[show i/2*2=i by omega,av B]at q2;have:=eO g;rw[this,eO q2]
 .have g:=O 1 N;rw[iq,jj N,qW,show i/2*2+1=i by omega,av I]at g;rw[show i/2*2+1=i by omega,av B]at q3;have:=eO g;rw[this,eO q3]
def ag4{H:R}(h:H.cell r o=Z v):∃ty,zW H r ty:=by
 unfold R.cell at h;cases e:H.obj r with
 |row az=>exact⟨az.ty,az,e,O⟩
 |_=>rw[e]at h;cases h
theorem ag5{enc:aI×C->H}{vn:cZ}{d:DataW H}(hv:mF enc Tryz.prog vn 0 (λ_=>f) f fuel 22 [v]=Z (d,p)):
 ∃(a:aC Addr)(c:Nat)(l:D Int)(ty:aI),jC (λ_=>True) ty (Bb vn T0) a l.length 1 (l.map vi)/\Hd a l.length c/\VR (Ba vn<|Bb vn T0) (J a l.length c) v:=by
 have c3:Tryz.prog.cellsOf 3=1:=fQ;rcases open_slice1 Tryz.underlying22 c3 hv with⟨I,B⟩|⟨a,len,ab,m,n,V,ak,Pl,I,hb,hl,hm,P,M,W⟩
 .cases I;exact⟨T,0,[],3,jC.nil _ _ _ _ _,.inl ⟨O,O,O⟩,.sc _ O⟩
 .cases I;rw[jj O]at P;subst P;rcases gX m with rfl|hpos
  .obtain rfl:len=0:=N;exact⟨Z ⟨0,0,T⟩,0,[],3,jC.nil _ _ _ _ _,.inr ⟨0,0,O,ax _,bD _⟩,.xh _ _⟩
  .have⟨b,off,spot⟩:=a
   have Y:spot=T:=by
    have h3:=World.cell?_spot (W 0 hpos).1;simpa [Addr.add]using h3
   subst Y
   have Od:∀i,i<m->∃z:Int,V i=vi z:=by
    intro i t;have⟨z,e1,_,_⟩:=DataW.trod_int Tryz.underlying3 (W i t).2;simp at e1;exact⟨z,e1⟩
   have y:∀i,∃z:Int,i<m->V i=vi z:=λi=>by
    by_cases h:i<m
    .have⟨z,hz⟩:=Od i h;exact⟨z,λ_=>hz⟩
    .exact⟨0,λhh=>absurd hh h⟩
   let U:Nat->Int:=λi=>jI<|y i
   have hf:∀i,i<m->V i=vi (U i):=λi=>mZ<|y i
   have g:∀i,i<m->b<vn.heap.size/\(Bb vn T0).cell b (off+i)=Z (vi<|U i):=by
    intro i t;have h4:=(W i t).1;rw[Addr.add_lit,hf i t]at h4;exact Px O h4 O
   have w:=(g 0 hpos).1;have⟨ty,hty⟩:=ag4 (g 0 hpos).2;have K:m<=9223372036854775807:=hm;have X:((d_ len).map U).length=len:=by rw[aM,l6]
   refine⟨Z ⟨b,off,T⟩,m,(d_ len).map U,ty,⟨⟨by rw[aM];omega,λi x M=>?_⟩,λr o e _=>by cases e;exact⟨trivial,w,hty⟩⟩,.inr ⟨b,off,O,N,K⟩,by rw[X];exact Yf w K hl⟩;rw[uz,bL]at M;cases hr:(d_ len)[i]? with
   |none=>rw[hr]at M;cases M
   |some j=>
    rw[hr]at M;obtain⟨hj,rfl⟩:=bK.1 hr;cases M;rw[lQ];rw[l6]at hj;exact⟨b,off,O,w,(g i N).2⟩
end Go.Proofs.Lu
namespace Go.Proofs.Lv
open Go.Proofs.Lu Go.Proofs.Lu.Wk
open Go.Ae Go.Ae.hx
variable{a b:aC Addr}{c n:Nat}
section
variable{ty:aI}{H0 H:R}{L hx:D eF}{S au:D Nat}{cs F':Nat->Prop}{A:At}{q q':AV}{ev sv:C}{sb:D Bool}{rw' most:Nat}{l:D Int}{ta:aC Addr}{tc d:Nat}{vn V:D Nat}
structure Sd(H:R)(a:aC Addr)(c:Nat)(l:D Nat):Prop where
 ay:Fl H a (u l) 1 (l.map zA)
 w:∀w∈l,w<2^64
 d:Hd a (u l) c
def aks{m:Nat}(h:Hd a n c)(e:m<=n):∃c',Tc 1 (J a n c) T (Z<|W m) T=Z (J a m c'):=by
 rcases h with⟨rfl,rfl,rfl⟩|⟨r,o,rfl,I,B⟩
 .obtain rfl:m=0:=Nat.le_zero.1 e;exact⟨0,O⟩
 .refine⟨c,?_⟩;show b_ (gZ c) (gd (aD 0 m&&aD m c&&aD c c&&f)<|Z<|J (Z ⟨r,sS c 0 o 1,T⟩) (dP m 0)<|dP c 0) _=_;have g:sS c 0 o 1=o:=by unfold sS;cases aB c 0<;>rfl
  rw[show gZ c=f from aH B,oU,aH<|bD _,aH<|aR e I,aH<|ax _,g];rfl
def Sd.bit(h:Sd H a c vn)(hl:u vn<=20):pJ H (J a (u vn) c) vn:=⟨a,c,O,h.ay,N,h.w,λm e=>aks h.d e⟩
def ape(a:Bool)(i j:Nat):mW Pg .eql 4 (.tmp i) (.tmp j) (aO a) (aO a)=Z (aO f):=by cases a<;>kernel_rfl
end
end Go.Proofs.Lv
namespace Go.Proofs.Lu
open Go.Proofs.YtpngmpbmokhmiaaGreatDoor Go.Ae Go.ChangeShapes Go.WideShapes Go.ChangeAt Go.RowKit Go.Deep
def ae8{H:Type}{enc:aI×C->H}{vn:cZ}{fuel:Nat}{v:C}{d:DataW H}{p:D MemPlace}(hv:mF enc Tryz.prog vn 0 (λ_=>f) f fuel 51 [v]=Z (d,p)):
 ∃(a:aC Addr)(c:Nat)(l:D Nat),Lv.Sd (Bb vn T0) a c l/\VR (Ba vn<|Bb vn T0) (J a l.length c) v:=by
 have c3:Tryz.prog.cellsOf 105=1:=fQ;rcases open_slice1 Tryz.underlying51 c3 hv with⟨I,B⟩|⟨a,len,ad,m,n,V,ak,Pl,I,hb,hl,hm,U,M,X⟩
 .cases I;exact⟨T,0,[],⟨Fl.nil _ _ _,nofun,.inl ⟨O,O,O⟩⟩,.sc _ O⟩
 .cases I;rw[jj O]at U;subst U;rcases gX m with rfl|hpos
  .obtain rfl:len=0:=N;exact⟨Z ⟨0,0,T⟩,0,[],⟨Fl.nil _ _ _,nofun,.inr ⟨0,0,O,ax _,bD _⟩⟩,.xh _ _⟩
  .have⟨b,off,spot⟩:=a
   have ac:spot=T:=by
    have h3:=World.cell?_spot (X 0 hpos).1;simpa [Addr.add]using h3
   subst ac
   have Od:∀i,i<m->∃z:Nat,V i=Lv.zA z/\z<2^64:=by
    intro i g;have⟨z,e1,_,W⟩:=DataW.trod_int Tryz.underlying105 (X i g).2;simp at e1;have W:(decide (IntKind.u64.min<=z)&&decide (z<=IntKind.u64.max))=f:=W;rw[bE,kX,kX]at W;have e4:(0:Int)<=z/\z<=18446744073709551615:=W;exact⟨z.toNat,by rw[e1];show a_ .u64 z=.int .u64 (z.toNat:Int);rw[Int.toNat_of_nonneg e4.1],N⟩
   have K:∀i,∃z:Nat,i<m->V i=Lv.zA z/\z<2^64:=λi=>by
    by_cases h:i<m
    .have⟨z,hz⟩:=Od i h;exact⟨z,λ_=>hz⟩
    .exact⟨0,λhh=>absurd hh h⟩
   let t:Nat->Nat:=λi=>jI<|K i
   have hf:∀i,i<m->V i=Lv.zA (t i)/\t i<2^64:=λi=>mZ<|K i
   have e:∀i,i<m->b<vn.heap.size/\(Bb vn T0).cell b (off+i)=Z (Lv.zA<|t i):=by
    intro i g;have h4:=(X i g).1;rw[Addr.add_lit,(hf i g).1]at h4;exact Px O h4 O
   have y:=(e 0 hpos).1;have P:m<=9223372036854775807:=hm;have ab:((d_ len).map t).length=len:=by rw[aM,l6]
   refine⟨Z ⟨b,off,T⟩,m,(d_ len).map t,⟨⟨by rw[aM];omega,λi x M=>?_⟩,λw hw=>?_,.inr ⟨b,off,rfl,N,P⟩⟩,by rw[ab];exact Yf y P hl⟩
   .rw[uz,bL]at M;cases hr:(d_ len)[i]? with
    |none=>rw[hr]at M;cases M
    |some j=>
     rw[hr]at M;obtain⟨Y,rfl⟩:=bK.1 hr;cases M;rw[lQ];rw[l6]at Y;exact⟨b,off,O,y,(e i N).2⟩
   .obtain⟨j,Y,rfl⟩:=bT.1 hw;exact(hf j (by have:=jR.1 Y;omega)).2
end Go.Proofs.Lu
namespace Go.Proofs.Lv
open Go.Proofs.Lu
open Go.Ae Go.Ae.hx
variable{au V:List Nat}{sb:List Bool}{l:List Int}{ne ok:Bool}{L hx:List eF}{F':Nat->Prop}{c d most n pc r rw' tc:Nat}{a b ha pa ta:Option Addr}{A:At}{H Q H0:R}{ty:aI}{q q':AV}{cv hv rv sv tv v x:C}
section
variable{S:List Nat}{cs:Nat->Prop}{v':C}{vn:List Nat}
def aaV(e:∀w∈vn,w<2^64)(hv:∀w∈V,w<2^64)(h:∀t,hasB vn t=hasB V t)(i:Nat):vn.getD i 0=V.getD i 0:=by
 refine Nat.eq_of_testBit_eq λj=>?_
 by_cases hj:j<64
 .have:=h (i*64+j);unfold hasB at this;rw[show(i*64+j)/64=i by omega,show(i*64+j) %64=j by omega]at this;exact this
 .rw[rO (aP (getD_lt e i)<|lW (jg) N),rO<|aP (getD_lt hv i)<|lW (jg) N]
def NY(vn:List Nat):∀m,u vn<=m->FE vn m=FE vn (u vn)
 |0,h=>by rw[show u vn=0 by omega]
 |m+1,h=>by
  by_cases e:u vn=m+1
  .rw[e]
  .rw[<-NY vn m N];exact jj (by rw[aW,dB N];rfl)
def UO(h:∀i,vn.getD i 0=V.getD i 0):∀m,FE vn m=FE V m
 |0=>rfl
 |m+1=>by unfold FE;rw[h m,UO h m]
def take_same(h:∀i,vn.getD i 0=V.getD i 0):vn.take (FE vn<|u vn)=V.take (FE V<|u V):=by
 have e:FE vn (u vn)=FE V (u V):=by
  rw[<-NY vn (max (u vn)<|u V) N,<-NY V (max (u vn)<|u V) N];exact UO h _
 have g:=Du vn<|u vn;have j:=Du V<|u V;refine ja (by simp;omega) λi I B=>?_;rw[dS]at I B;rw[nT,nT];have:=h i
 rwa [aW,aW,av N,av N]at this
def FK(hv:pJ H v vn)(g:pJ H v' V)(h:∀t,hasB vn t=hasB V t):bM Pg X 15 [v,v'] H (Q0 (λv=>v=aO f) H):=by
 have M:=take_same<|aaV hv.lt g.lt h;refine ce [0,1,4,5,6,7,8,18,19,20] ?_;refine tl ?_;refine dn (Ks hv) ?_;rintro _ H1 ⟨⟨a,c0,c,rfl,rfl⟩,rfl⟩;obtain⟨_,_,e,P,hl,U⟩:=hv.cut (c':=c)<|Du vn<|u vn;cases e;refine dn (Ks g) ?_;rintro _ I ⟨⟨a2,c2,K,rfl,rfl⟩,rfl⟩;obtain⟨_,_,e,w,T,B⟩:=g.cut (c':=K)<|Du V<|u V;cases e;rw[<-M]at w|-;generalize vn.take (FE vn<|u vn)=W1 at*;refine bN ?_;refine eU (λh=>absurd trivial h) λ_=>?_;refine Ov 4 7 8 20 (h1:=λm Y x7 x8 y Q=>∃j:Nat,y=W j/\j+m=u W1/\Q=I) ?_ (u W1) ⟨0,rfl,bB _,rfl⟩;rintro m Y x7 x8 y E H1 ⟨j,rfl,hj,rfl⟩;refine tp ?_;refine aV (λhc=>?_) λhc=>?_;rotate_left
 .refine tl ?_;refine rr ?_;exact⟨O,O⟩
 have ev:W1[j]?=Z (W1.getD j 0):=by rw[aW,av N];rfl
 refine P.ix1 N (jV _ ev) λ_=>?_;refine w.ix1 N (jV _ ev) λ_=>?_;refine bN ?_;refine eU (λh=>absurd trivial h) λ_=>?_;refine eD ?_;exact⟨u W1-(j+1),N,_,_,_,_,_,_,O,j+1,pq,N,O⟩
end
section
open Go.Proofs.Lu Go.Proofs.Lu.Wk
open Go.Ae Go.Ae.hx
variable{S:List Nat}{ev:C}{vn:List Nat}
def anC(N:Wf H)(hv:pJ H v vn)(K:r<65536):bM Pg X 36 [v,W r] H (Q1 (λv Q=>∃U,K5 (H.bV<=·) Q v U/\∀t,hasB U t=(hasB vn t||decide (t=r))) H):=by
 refine ce [0,1,4] ?_;refine tl ?_;have G:=gM N;refine G.bS (v:=W r) O O O (jg) λH1 Y G=>?_;refine dn (ES (cs:=λ_=>True) (ts:=[r]) G.wf (jC.one (es:=1) G (n:=1) (aK ..) O trivial) (by simp[K])<|gB) ?_;rintro v1 P ⟨y,M⟩;have G:=G.call M;refine dn (orS G.wf (hv.ex G.ext) y.s) ?_;rintro v2 T ⟨⟨U,w,B⟩,e⟩;have I:=G.ext.bV;refine Lu.rr ?_;refine⟨⟨U,?_,λt=>by rw[B,Fp];simp⟩,G.ext.trans' e⟩;obtain⟨q,g,j,g3⟩:=w;exact⟨q,g,aR I j,g3⟩
def akt{rs:Nat}{xs:List C}(e:Bk H rs 128<|J pa n pc::xs):bM Pg X 29 [pr rs] H (Q0 (λv=>v=W n) H):=JD<|e.cell (o:=0) O
def anD{az:List Nat}(t:Wf H)(ht:pJ H tv au)(e:pJ H rv az)(j:∃a n c,hv=J a n c)(hc:∃p,cv=bG p):bM Pg X 39 [dN ⟨[tv,aO ok,rv,hv,cv]⟩,dN ⟨[tv,aO ok,rv,hv,cv]⟩] H (Q1 (λv _=>v=aO f) H):=by
 obtain⟨y,K,rfl,_⟩:=id ht;obtain⟨B,M,rfl,_⟩:=id e;obtain⟨I,P,N,rfl⟩:=j;obtain⟨p,rfl⟩:=hc;refine ce [0,1,2,3,4] ?_;refine tl ?_;have G:=gM t;refine G.box O λH1 T G=>?_;refine G.box O λw U G=>?_;refine fF ?_;refine dn (FK (ht.ex G.ext) (ht.ex G.ext) λ_=>rfl) ?_;rintro _ g ⟨rfl,rfl⟩;refine fF ?_;refine dA (ape ..) ?_;refine fF ?_;refine dn (FK (e.ex G.ext) (e.ex G.ext) λ_=>rfl) ?_;rintro _ g ⟨rfl,rfl⟩;refine Lu.rr ?_;exact⟨O,G.ext⟩
abbrev zOf:C:=dN ⟨[J T 0 0,aO aA,J T 0 0,J T 0 0,bG T]⟩
def NoS(H:R)(x:C):Prop:=x=bG T\/∃r,x=pr r/\H.cell r 0=Z (bG T)
def ag8(h:NoS H x):bM Pg X 48 [x] H (Q0 (λv=>v=aO f) H):=by
 rcases h with rfl|⟨r,rfl,hc⟩
 .refine ce [0,2] ?_;refine tl ?_;refine dA (v:=aO f) (fQ) ?_;refine bN ?_;refine Lu.rr ?_;exact⟨O,O⟩
 .refine ce [0,2] ?_;refine tl ?_;refine dA (v:=aO aA) (fQ) ?_;refine bN ?_;refine iV hc ?_;refine dA (v:=aO f) (fQ) ?_;refine Lu.rr ?_;exact⟨O,O⟩
def anE(g:Wf H)(h:NoS H x)(e:∀r,x=pr r->r<H.bV):bM Pg X 25 [x,hv] H (Q1 (λv _=>v=fJ ⟨[dN ⟨[J T 0 0,aO aA,J T 0 0,vi 0]⟩,bG T,vi 1]⟩) H):=by
 refine ce [0,1,4,5,6,7,8,9] ?_;refine tl ?_;have G:=gM g;refine G.jM λH1 ra G=>?_;refine dn (ag8 (H:=H1) ?_) ?_
 .rcases h with rfl|⟨r,rfl,hc⟩
  .exact .inl O
  .exact .inr ⟨r,O,(l8 (G.ext.obj _ (e r O) λh=>nomatch h) 0).trans hc⟩
 rintro _ j ⟨rfl,rfl⟩;refine fF ?_;refine G.j_ λt G=>?_;refine Lu.rr ?_;refine G.jl ?_;exact⟨O,G.ext⟩
def ofN(y:Wf H){w lv:C}(h:NoS H x)(t:∀r,x=pr r->r<H.bV)(j:∃a n c,w=J a n c)(g:∃a n c,lv=J a n c):bM Pg X 34 [x,dN ⟨[w,lv,aO ne]⟩] H (Q1 (λv _=>v=fJ ⟨[zOf,vi 1]⟩) H):=by
 obtain⟨T,n1,W,rfl⟩:=j;obtain⟨U,n2,Y,rfl⟩:=g;refine ce [0,1,3,4,5,6,7,8,9,10,11,13,15,62,63,64] ?_;refine tl ?_;have G:=gM y;refine G.box O λH1 rw G=>?_;refine G.jM λI r4 G=>?_;refine fF ?_;refine dn (anE G.wf (x:=x) ?_ λr e=>aP (t r e) G.ext.bV) ?_
 .rcases h with rfl|⟨r,rfl,hc⟩
  .exact .inl O
  .exact .inr ⟨r,O,(l8 (G.ext.obj _ (t r O) λh=>nomatch h) 0).trans hc⟩
 rintro _ K ⟨rfl,M⟩;have G:=G.call M;refine bN ?_;refine G.og O O O λN r8 G B=>?_;refine eU (λ_=>?_) λh=>absurd h<|jg;refine PU.b5 O ?_;refine G.j_ λP G=>?_;refine Lu.rr ?_;refine G.jl ?_;exact⟨O,G.ext⟩
def ag9(g:Wf H):bM Pg X 38 [zOf] H (Q1 (λv _=>v=vi 0) H):=by
 refine ce [0,1,2,3] ?_;refine tl ?_;have G:=gM g;refine G.box O λH1 j G=>?_;refine fF ?_;refine dn (JE pJ.nil λt=>by simp[hasB]) ?_;rintro _ e ⟨rfl,rfl⟩;refine fF ?_;refine dn (JE pJ.nil λt=>by simp[hasB]) ?_;rintro _ e ⟨rfl,rfl⟩;refine fF ?_;refine Lu.rr ?_;exact⟨O,G.ext⟩
def anF:bM Pg X 62 [zA 1] H (Q0 (λv=>v=vi 1) H):=⟨vi 1,H,⟨60,fQ⟩,O,O⟩
def aku(hv:pJ H v [1]):bM Pg X 28 [v] H (Q0 (λv=>v=vi 1) H):=by
 refine ce [0,2,3,5,7,8,9] ?_;refine tl ?_;refine dn (Ks hv) ?_;rintro _ H1 ⟨⟨a,c,I,rfl,rfl⟩,rfl⟩;obtain⟨_,_,e,t,_⟩:=hv;cases e;rw[show FE [1] ([1]:List Nat).length=1 from O];refine bN ?_;refine Gg 3 5 9 (h1:=λm g w j Q=>∃i:Nat,g=W i/\j=W i/\i+m=1/\Q=H1) ?_ 1 ⟨0,rfl,rfl,rfl,rfl⟩;rintro m g w j E y ⟨i,rfl,rfl,K,rfl⟩;refine tp ?_;refine aV (λhc=>?_) λhc=>?_;rotate_left
 .refine tl ?_;obtain rfl:i=1:=by simp at hc;omega
  refine Lu.rr ?_;exact⟨O,O⟩
 obtain rfl:i=0:=by simp at hc;omega
 refine t.ix1 (v:=zA 1) (k:=0) (jg) O λ_=>?_;refine dn anF ?_;rintro _ B ⟨rfl,rfl⟩;refine dA (v:=W 1) (fQ) ?_;refine dA (v:=W 1) (fQ) ?_;exact⟨0,N,_,_,_,_,_,O,1,O,O,O,O⟩
end
section
open Go.Proofs.Lu Go.Proofs.Lu.Wk
open Go.Ae Go.Ae.hx
variable{H1:R}{S az:List Nat}{ak:List (Nat×Sp)}{o1:Bool}{hc nn rp:Nat}{r16 r14 r12 r27 ra:Nat}{c16 c12:List C}{vn:List Nat}{z:ai}{v0 v1 v6 v10 v11 v13 v15 v17 v18 v19 v20 v21 v22 v24:C}{E:Rs}
def RS(W:Ay H)(G:SH [] H H1 [(r16,82,c16),(r14,82,[tv,aO o1,rv,J ha (u ak) hc,cv]),(r12,82,c12),(r27,27,q.cells A),(ra,80,[J a (u vn) c,J b (u V) d,aO ne])])(U:pJ H1 tv au)(P:pJ H1 rv az)(w:∃p,cv=bG p):
 iC Pg X (sub (BG Pg 7) [1,1,1,1,1,1,1,1,1,1,1]) (cs Pg 7 (Fr.c 0 v0<|Fr.c 1 v1<|Fr.c 2 (dN ⟨[J a (u vn) c,J b (u V) d,aO ne]⟩)<|Fr.c 5 (pr ra)<|Fr.c 6 v6<|Fr.c 7 (pr rp)<|Fr.c 8 (pr r27)<|Fr.c 10 v10<|Fr.c 11 v11<|Fr.c 12 (pr r12)<|Fr.c 13 v13<|Fr.c 14 (pr r14)<|Fr.c 15 v15<|Fr.c 16 (pr r16)<|Fr.c 17 v17<|Fr.c 18 v18<|Fr.c 19 v19<|Fr.c 20 v20<|Fr.c 21 top<|Fr.c 22 top<|Fr.c 24 top<|Fr.n) E H1)
  (jO Pg [.tmp 6]<|Q1 (λv _=>v=aO f) H):=by
 refine tl ?_;refine dA (v:=dN ⟨[bG T,bG T,J T 0 0,vi 0,J T 0 0,aO aA,J T 0 0,vi 0,vi 0,vi 0,vi 0,aO aA]⟩) (fQ) ?_;refine(gM G.wf).box O λH2 K N=>?_;have y:=N.ext;have G:=SH.frame (hx:=[]) G N;refine G.jl ?_;obtain⟨p,rfl⟩:=w;have Y:=G.wf;refine dn (ofN G.wf (.inr ⟨K,O,?_⟩) (λr e=>by cases e;exact(G.lo _<|aK ..).2) ⟨_,_,_,O⟩ ⟨_,_,_,O⟩) ?_
 .exact(G.get 0 O).cell (o:=0) O
 rintro _ H3 ⟨rfl,g⟩;have G:=G.call g;refine bN ?_;refine G.og O O O λH4 ab G B=>?_;refine G.jl ?_;refine dn (ofN G.wf (.inl O) (λr e=>by cases e) ⟨_,_,_,rfl⟩ ⟨_,_,_,rfl⟩) ?_;rintro _ H5 ⟨rfl,j⟩;have G:=G.call j;refine bN ?_;refine G.og O O O λH6 ac G I=>?_;refine aV (λ_=>?_) λh=>absurd trivial h;refine aV (λ_=>?_) λh=>absurd trivial h;refine G.jl ?_;refine dn (ag9 G.wf) ?_;rintro _ H7 ⟨rfl,t⟩;have G:=G.call t;refine G.kN ?_;refine aV (λ_=>?_) λh=>absurd trivial h;refine fF ?_;have M:=(y.trans g).trans<|(B.trans j).trans<|I.trans t;refine dn (anD G.wf (U.ex M) (P.ex M) ⟨_,_,_,O⟩ ⟨_,O⟩) ?_;rintro _ H8 ⟨rfl,z8⟩;have G:=G.call z8;refine G.kN ?_;refine bM.orc (acy<|W.ex G.ext) ?_;refine Lu.rr ?_;exact⟨O,G.ext⟩
def UQ(hT:Ay H)(G:SH [] H H1 [(r16,82,c16),(r14,82,[tv,aO o1,rv,J ha (u ak) hc,cv]),(r12,82,c12),(r27,27,q.cells A),(ra,80,[J a (u vn) c,J b (u V) d,aO ne])])(h:Sm S H0 H1 rp rw' most A z)(K:pJ H1 tv au)(w:pJ H1 rv az)(hf:jC (λ_=>True) 88 H1 ha (u ak) 3<|hts ak)(hl:u ak<=5592404)(T:∃p,cv=bG p)(hD:∀h∈ak,h.1<65536/\h.2.1<A.ns/\h.2.2<nn)(hC:ak≠[]->OfC H1 cv nn)(hR:ak≠[]->∀r,hasB az r=decide (r∈ak.map (·.1)))(al:ak=[]->(∀r,hasB az r=aA)\/(z.long=0/\az=OO [0])):
 iC Pg X (sub (BG Pg 7) [1,1,1,1,1,1,1,1]) (cs Pg 7 (Fr.c 0 v0<|Fr.c 1 v1<|Fr.c 2 (dN ⟨[J a (u vn) c,J b (u V) d,aO ne]⟩)<|Fr.c 5 (pr ra)<|Fr.c 6 v6<|Fr.c 7 (pr rp)<|Fr.c 8 (pr r27)<|Fr.c 10 v10<|Fr.c 11 v11<|Fr.c 12 (pr r12)<|Fr.c 13 v13<|Fr.c 14 (pr r14)<|Fr.c 15 v15<|Fr.c 16 (pr r16)<|Fr.c 17 v17<|Fr.c 18 top<|Fr.c 19 top<|Fr.c 20 top<|Fr.c 21 top<|Fr.c 22 top<|Fr.c 24 top<|Fr.n) E H1)
  (jO Pg [.tmp 6]<|Q1 (λv _=>v=aO f) H):=by
 refine tl ?_;refine Gg 18 19 20 (h1:=λm zX wB aq Q=>∃(i:Nat)(U:List Nat),wB=W i/\i+m=u ak/\pJ Q zX U/\(∀r,hasB U r=decide (r∈(ak.take i).map (·.1)))/\Ext H1 Q/\SH [] H Q [(r16,82,c16),(r14,82,[tv,aO o1,rv,J ha (u ak) hc,cv]),(r12,82,c12),(r27,27,q.cells A),(ra,80,[J a (u vn) c,J b (u V) d,aO ne])]) ?_ (u ak) ⟨0,[],rfl,bB _,pJ.nil,λr=>by simp[hasB],Ext.refl H1,G⟩;rintro m zX wB aq E H2 ⟨i,U,rfl,hi,hU,hh,y,G⟩;refine tm ?_;refine aV (λhc=>?_) λhc=>?_;rotate_left
 .obtain rfl:i=u ak:=N;rw[jL]at hh;refine tm ?_;have K:=K.ex y;have w:=w.ex y;refine aV (λhp=>?_) λhp=>?_
  .have ap:ak≠[]:=λe=>by rw[e]at hp;simp at hp
   refine fF ?_;refine dn (FK (hU.ex<|Ext.hN H2) (w.ex<|Ext.hN H2) λr=>by rw[hh,hR ap]) ?_;rintro _ I ⟨rfl,rfl⟩;refine G.kN ?_;refine ig (λM=>by cases M) λ_=>?_;refine fF ?_;refine aV (λh=>absurd h N) λ_=>?_;refine VO ?_;exact RS hT G K w T
  obtain rfl:ak=[]:=iL N;refine fF ?_;refine aV (λ_=>?_) λh=>absurd O h;refine fF ?_;rcases al rfl with h0|⟨hz,rfl⟩
  .refine dn (JE (w.ex<|Ext.hN H2) h0) ?_;rintro _ I ⟨rfl,rfl⟩;refine fF ?_;exact RS hT G K w T
  refine dn (aku<|w.ex<|Ext.hN H2) ?_;rintro _ I ⟨rfl,rfl⟩;refine G.kN ?_;refine aV (λ_=>?_) λh=>absurd (jg) h;refine dn (aeD<|(h.ex y).ex<|Ext.hN H2) ?_;rintro _ I ⟨rfl,rfl⟩;rw[hz];refine G.kN ?_;refine aV (λh=>absurd h<|jg) λ_=>?_;refine fF ?_;refine(gM G.wf).R4 (v:=vi 0) O O O (jg) λI r5 hB cf=>?_;have B:=hB.ext;have ao:jC (λ_=>True) 3 _ _ 1 1 [vi 0]:=jC.one (es:=1) hB (n:=1) (aK ..) O trivial;have G:=fV (A:=[_])<|SH.frame (hx:=[]) G hB;generalize hM H2 I=H4 at*;refine dn (ES (cs:=λ_=>True) (ts:=[0]) (oC _) (ao.ex<|Ext.hN _) (gB)<|gB) ?_;rintro v5 H5 ⟨M,g⟩;have c5:CG H4 H5=cl 1:=fP g;have M:pJ (hM H4 H5) v5 (OO [0]):=M.s;have G:=G.oD g;have w:=w.ex<|B.trans g.draw;have K:=K.ex<|B.trans g.draw;generalize hM H4 H5=H6 at G M w K|-;refine dn (FK (w.ex<|Ext.hN H6) (M.ex<|Ext.hN H6) λr=>rfl) ?_;rintro _ H7 ⟨rfl,rfl⟩;refine G.kN ?_;refine iY (by simp only[eZ,fP<|Ext.refl<|hN _,cf,c5];rfl) ?_;refine ig (λM=>by cases M) λ_=>?_;exact RS hT G K w T
 have t:i<u ak:=N
 have eh:El (hts ak) 3 i=[W ak[i].1,W ak[i].2.1,W ak[i].2.2]:=by
  have:=RF (l:=ak) (i:=i) (j:=[])<|av t;rw[bF]at this;exact this
 refine G.qE ?_;refine(hf.ex y).VS (jg) t eh λ_=>?_;have hm:=bH t;obtain⟨d1,d2,d3⟩:=hD _ hm;have e1:(ak.take<|i+1).map (·.1)=(ak.take i).map (·.1)++[ak[i].1]:=by rw[dU,av t,dK];rfl
 obtain⟨rc,pa,pc,xs,rfl,ab,an⟩:=hC λe=>by rw[e]at t;exact absurd t<|iN _
 generalize ak[i]=h at*;refine G.ns O O O λI rb G B=>?_;refine fF ?_;refine aV (λh=>absurd h N) λ_=>?_;refine fF ?_;refine dn (NC (q:=q) (A:=A)<|oC _) ?_;rintro _ H4 ⟨rfl,Y⟩;have G:=G.oD Y;have P:=B.trans Y.draw;have g:=y.trans P;have c4:CG I H4=cl 1:=fP Y;generalize hM I H4=H5 at G g P c4|-;refine G.kN ?_;refine aV (λh=>absurd h N) λ_=>?_;refine fF ?_;refine aV (λh=>absurd h N) λ_=>?_;refine fF ?_;refine dn (akt<|(an.iB<|g.obj _ ab λh=>nomatch h).iB<|(Ext.hN H5).obj _ (aP ab g.bV) λh=>nomatch h) ?_;rintro _ H6 ⟨rfl,rfl⟩;refine G.kN ?_;refine iY (by simp only[eZ,fP<|Ext.refl<|hN _,c4];rfl) ?_;refine aV (λh=>absurd h N) λ_=>?_;refine tm ?_;refine dn (anC G.wf (hU.ex P) d1) ?_;rintro v7 H7 ⟨⟨U2,ad,am⟩,ac⟩;have G:=fV (A:=[_])<|G.call ac;refine tm ?_;refine eD ?_;refine⟨u ak-(i+1),N,_,_,_,_,_,O,i+1,U2,pq,N,ad.s,λr=>?_,g.trans ac,G⟩;rw[am,hh,e1];exact fM.2 (by simp[cB])
def OfC.ex(h:OfC H cv nn)(M:Ext H Q):OfC Q cv nn:=by
 obtain⟨g,pa,pc,xs,e,I,B⟩:=h;exact⟨g,pa,pc,xs,e,aP I M.bV,B.iB<|M.obj _ I λh=>nomatch h⟩
def aha(ho:A.Ok)(j:ai.vn A z)(N:∀r,hasB az r=f<->ofR A (hasB vn) z r)(h:(z.long=0/\hasB vn 0=f/\ak=[]/\az=OO [0])\/(¬(z.long=0/\hasB vn 0=f)/\ak=K6 (yH A vn z).ht/\OfC H cv nn))(M:nn=(yH A vn z).sk.length+1):
 (ak≠[]->OfC H cv nn)/\(∀h∈ak,h.1<65536/\h.2.1<A.ns/\h.2.2<nn)/\(ak≠[]->∀r,hasB az r=decide (r∈ak.map (·.1)))/\(ak=[]->(∀r,hasB az r=aA)\/(z.long=0/\az=OO [0])):=by
 rcases h with⟨I,B,rfl,rfl⟩|⟨I,rfl,B⟩
 .exact⟨λh=>absurd O h,λh w=>(by cases w),λh=>absurd O h,λ_=>.inr ⟨I,rfl⟩⟩
 .have g:∀r,hasB az r=decide (r∈(K6 (yH A vn z).ht).map (·.1)):=λr=>fM.2 (by
   rw[N r,kX];unfold ofR;rw[jx I];simp only[bT,LF])
  refine⟨λ_=>B,λh w=>?_,λ_=>g,λe=>.inl λr=>by rw[g,e];rfl⟩;obtain⟨_,y,e,K,P,T⟩:=JF (hd:=hasB vn) (em:=A.Em) ho j.s0 j.fr h<|(LF _ _).1 w;have t:=(ID (hd:=hasB vn) (em:=A.Em) ho j.s0 j.fr).b _ y;refine⟨?_,t.1,by rw[M];exact pz t.2⟩;rcases(ho.e _ t.1 e K).2.2 with h|h|h
  .omega
  .omega
  .have:=ho.few;omega
end
section
open Go.Proofs.Lu Go.Proofs.Lu.Wk
open Go.Ae Go.Ae.hx
variable{S:List Nat}{cs:Nat->Prop}{ev:C}{vn:List Nat}
def offerLess(hw:Wf H)(hT:Ay H)(s:ByteArray)(hf:jC F' ty H ta (u l) 1<|ints l)(I:Sd H a c vn)(B:Sd H b d V):
 bM Pg X 7 [aJ s,J ta (u l) tc,dN ⟨[J a (u vn) c,J b (u V) d,aO ne]⟩] H (Q1 (λv _=>v=aO f) H):=by
 have G:=gM hw;refine ce [0,1,2,5,6,7,8,10,11,12,13,14,15,16,17,18,19,20,21,22,24] ?_;refine tl ?_;refine G.box O λH1 ra G=>?_;have G:SH [] H H1 [(ra,80,[J a (u vn) c,J b (u V) d,aO ne])]:=G;have b9:=G.lo _<|aK ..
 have b7:=G.ext.bV;refine dn (Xl G.wf (Dl.of<|hT.ex G.ext) s) ?_;rintro v H2 ⟨⟨x,at',g,ok,rfl,ha,hg,b8⟩,M⟩;have G:=G.call M;have bp:=G;have G:=gM bp.wf;refine bN ?_;refine G.jM λH3 r27 G=>?_;refine G.jM λH4 cj G=>?_;refine G.whole 1 O O ha λH5 la ea na G=>?_;refine G.whole 0 O O hg λH6 lg eg ng G=>?_;have a8:=G.ext;have bz:=G.yu<|aT (i:=0) O;have bx:=G.yu<|aT (i:=1) O;have G:=SH.frame (hx:=[]) bp G;have G:SH [] H H6 [(cj,38,lg),(r27,27,la),(ra,80,[J a (u vn) c,J b (u V) d,aO ne])]:=G;have ab:∀{Q:R}{K:C->R->Prop},Ext H Q->K (aO f) Q->bM Pg X 33 [] Q K:=λcg k=>bM.orc (acy<|hT.ex cg) k;refine aV (λc=>?_) λc=>?_
 .refine ab G.ext ?_;refine Lu.rr ?_;exact⟨O,G.ext⟩
 refine aV (λbw=>?_) λbw=>?_
 .refine ab G.ext ?_;refine Lu.rr ?_;exact⟨O,G.ext⟩
 refine fF ?_;refine aV (λc1=>?_) λc1=>?_
 .refine ab G.ext ?_;refine Lu.rr ?_;exact⟨O,G.ext⟩
 refine fF ?_;refine aV (λc2=>?_) λc2=>?_
 .refine ab G.ext ?_;refine Lu.rr ?_;exact⟨O,G.ext⟩
 obtain⟨A,rp,rw,c0,b0,q,q',ev,sv,sb,S',ho,be,cI,UW,cw,rfl,rfl,b6,hk,a3,j⟩:=b8 c;cases ea;obtain⟨S2,KT,br⟩:=j.own;have KT:∀r∈S2,r∈S':=λr hr=>(KT r hr).1.resolve_right<|fI (KT r hr).2;have j:=br [] H6 a8 λr h=>nomatch h;have Q4:GN (λr=>c0<=r/\r<b0) H6 rw A q' ev sv sb:=hk.stay a8 λr h=>nomatch h;have a2:∀r,c0<=r/\r<b0->r<H6.bV/\r∉S2:=λr h=>⟨aP h.2<|aR b6 a8.bV,λhr=>fu (a3 r<|KT r hr).1 h.2⟩;have Wm:A.ty<=65536:=N;have rm:=Rm.bg be;have ap:∀r∈S2,H.bV<=r:=λr hr=>aR b7 (a3 r<|KT r hr).2.1;refine tl ?_;refine VX 11 (h1:=λm jh Q=>∃i:Nat,jh=W i/\i+m=u l/\Sm S2 H6 Q rp rw (Bg A) A ((ai.new A).all A<|l.take i)) ?_ (u l) ⟨0,rfl,bB _,j⟩;rintro m jh E H7 ⟨i,rfl,hi,j⟩;have ci:Ext H H7:=G.ext.later j.ext λr hr=>.inr<|ap r hr;refine tp ?_;refine aV (λhc=>?_) λhc=>?_;rotate_left
 .obtain rfl:i=u l:=N;rw[jL]at j
  have G:=G.past j.ext (λr hr=>.inr<|ap r hr) λe he hm=>by
   have ao:=(a3 _<|KT _ hm).2.2;have bt:=(a3 _<|KT _ hm).2.1;simp only[bW,fq,je]at he;rcases he with rfl|rfl|rfl
   .exact fu bz ao
   .exact fu bx ao
   .exact fu bt b9.2
  have G:=fV (A:=[_]) G;have hz:=ai.V.all (A:=A) ho l _<|ai.V.new ho;have an:=ai.aeN (A:=A) l<|ai.new A;rw[show(ai.new A).long=0 from O]at an;generalize(ai.new A).all A l=z at j hz an;have a6:=Q4.stay j.ext λr hr h=>(a2 r h).2 hr;have a9:∀r,c0<=r/\r<b0->r<H7.bV:=λr h=>aP (a2 r h).1 j.ext.bV;have bb:bnd A z.long<=8000000:=aR (GM N) rm.b;have ba:Lim A z.long 9223372036854775807:=⟨N,bb,aR (g_ _ N) rm.s⟩;have bc:=aR hz.ay bb
  have a1:∀U,(yH A U z).ht.length<=5592404:=λU=>by
   have g1:=Xf (hd:=hasB U) (em:=A.Em) ho hz.w.s0 hz.w.fr;have g2:A.ns*(z.long+1)<=300*31:=jk be N;have g3:(A.ns*(z.long+1)+1)*A.tot<=9301*600:=jk N N;exact aR g1 N
  have b1:=I.bit N;have b2:=B.bit N;refine tm ?_;refine dn (cof (ne:=aA) ho Wm a6 a9 j hz.w pJ.nil pJ.nil ba bc<|a1 []) ?_;rintro _ H8 ⟨z8,T0,R0,_,_,⟨cN,cJ,cA,cE,rfl,ac,ad,_,p0,rfl⟩,t0,r0,_⟩;obtain⟨cR,cU,rfl,_⟩:=id ac;obtain⟨cX,c4,rfl,_⟩:=id ad;have G:=G.call z8;refine bN ?_;refine G.og O O O λH9 r12 G GY=>?_;refine fF ?_;refine dn (cof (ne:=ne) ho Wm (a6.stay (z8.trans GY) λr h=>nomatch h) (λr h=>aP (a9 r h) (z8.trans GY).bV) (j.ex<|z8.trans GY) hz.w (b1.ex G.ext) (b2.ex G.ext) ba bc<|a1 vn) ?_;rintro _ Cw ⟨uD,T1,R1,D1,cq,⟨cP,cL,cC,cF,rfl,Sa,RU,y,p1,rfl⟩,t1,r1,o1⟩;obtain⟨cS,cV,rfl,_⟩:=id Sa;obtain⟨cY,c5,rfl,_⟩:=id RU;obtain⟨hC,bl,bo,bn⟩:=aha ho hz.w r1 o1 O
  have bm:u D1<=5592404:=by
   rcases o1 with⟨_,_,e,_⟩|⟨_,e,_⟩
   .rw[e];exact bD _
   .rw[e];exact aR (RO _)<|a1 vn
  have G:=G.call uD;refine bN ?_;refine G.og O O O λRt r14 G OM=>?_;refine fF ?_;have Zj:=(z8.trans GY).trans<|uD.trans OM;refine dn (cof (ne:=aA) ho Wm (a6.stay Zj λr h=>nomatch h) (λr h=>aP (a9 r h) Zj.bV) (j.ex Zj) hz.w (b1.ex G.ext) pJ.nil ba bc<|a1 vn) ?_;rintro _ ck ⟨Ru,T2,R2,D2,cu,⟨cQ,cM,cD,cG,rfl,Y,T,cy,p2,rfl⟩,t2,r2,o2⟩;obtain⟨cT,cW,rfl,_⟩:=id Y;obtain⟨c3,c6,rfl,_⟩:=id T;have G:=G.call Ru;refine bN ?_;refine G.og O O O λaq r16 G ND=>?_;refine bN ?_;refine eU (λh=>absurd trivial h) λ_=>?_;refine eU (λh=>absurd trivial h) λ_=>?_;refine eU (λh=>absurd trivial h) λ_=>?_;have a4:hasB []=λ_=>aA:=funext λt=>by simp[hasB]
  have cH:(yH A [] z).sp=z.sp:=by unfold yH;rw[a4,AU];exact hz.w.c.2.1.symm
  have ac:=ac.ex<|GY.trans<|(uD.trans OM).trans<|Ru.trans ND;have ad:=ad.ex<|GY.trans<|(uD.trans OM).trans<|Ru.trans ND;have Sa:=Sa.ex<|OM.trans<|Ru.trans ND;have RU:=RU.ex<|OM.trans<|Ru.trans ND;have y:=y.ex<|OM.trans<|Ru.trans ND;have hC:=λh=>(hC h).ex<|OM.trans<|Ru.trans ND;have Y:=Y.ex ND;have T:=T.ex ND;have bf:=Zj.trans<|Ru.trans ND;have j:=j.ex bf;have cn:=a6.stay bf λr h=>nomatch h;refine fF ?_
  have bv:∀t:Nat,hasB T0 t=f<->off A z.sp t:=λt=>by
   rw[t0 t,a4];unfold ofT;rw[show(lG A (λ_=>aA) A.Em z.long z.s0 z.fr).sp=z.sp by rw[AU];exact hz.w.c.2.1.symm];exact⟨λh=>h.1.2,λh=>⟨⟨(λh=>nomatch h.2),h⟩,rfl⟩⟩
  refine dn (UD ho Wm Q4 (λr h=>(a2 r h).2) (j.ex<|Ext.hN aq) hz.w bb) ?_;rintro _ a7 ⟨a5,NZ⟩;have bh:CG aq a7=cl 1:=fP NZ;have a5:pJ (hM aq a7) _ (OO<|NS A z.sp):=a5.s;have G:=G.oD NZ;have ac:=ac.ex NZ.draw;have ad:=ad.ex NZ.draw;have Sa:=Sa.ex NZ.draw;have RU:=RU.ex NZ.draw;have Y:=Y.ex NZ.draw;have T:=T.ex NZ.draw;have y:=y.ex NZ.draw;have hC:=λh=>(hC h).ex NZ.draw;have j:=j.ex NZ.draw;generalize hM aq a7=H15 at G a5 ac ad Sa RU Y T y hC j|-;refine dn (FK (ac.ex<|Ext.hN H15) (a5.ex<|Ext.hN H15) λt=>fM.2 ?_) ?_
  .rw[bv t,Fp,kX,ET λp hp=>(hz.w.b p hp).1]
  rintro _ al ⟨rfl,rfl⟩;refine G.kN ?_;refine ig (λhb=>by cases hb) λ_=>?_;refine fF ?_;refine dn (aeC<|j.ex<|Ext.hN H15) ?_;rintro _ al ⟨rfl,rfl⟩;refine dA (v:=aO aA) (by rw[show(z.ok&&!aA)=z.ok by simp];exact akq ..) ?_;refine fF ?_;refine dn (JE (ad.ex<|Ext.hN H15) λt=>?_) ?_
  .cases h:hasB R0 t
   .rfl
   .have:=UK ho hz.w ((r0 t).1 h);rw[a4]at this;cases this
  rintro _ al ⟨rfl,rfl⟩;refine G.kN ?_;refine eU (λh=>absurd trivial h) λ_=>?_;refine fF ?_;refine dn (Zb (oC H15) (Y.ex<|Ext.hN H15)<|ac.ex<|Ext.hN H15) ?_;rintro _ al ⟨⟨U1,aw,b3⟩,P⟩;have c16:CG H15 al=cl 1:=fP P;have aw:pJ (hM H15 al) _ U1:=aw.s;have G:=G.oD P;have Sa:=Sa.ex P.draw;have RU:=RU.ex P.draw;have Y:=Y.ex P.draw;have T:=T.ex P.draw;have y:=y.ex P.draw;have hC:=λh=>(hC h).ex P.draw;have j:=j.ex P.draw;generalize hM H15 al=H17 at G aw Sa RU Y T y hC j|-;refine dn (JE (aw.ex<|Ext.hN H17) λt=>?_) ?_
  .rw[b3];cases h:hasB T2 t
   .rfl
   .rw[(t0 t).2 ⟨aeL ho hz.w (λr h=>by rw[a4]at h;cases h) ((t2 t).1 h).1,by simp[hasB]⟩];rfl
  rintro _ ar ⟨rfl,rfl⟩;refine G.kN ?_;refine eU (λh=>absurd trivial h) λ_=>?_;refine fF ?_;refine dn (Zb (oC H17) (Y.ex<|Ext.hN H17)<|b2.ex<|G.ext.trans'<|Ext.hN H17) ?_;rintro _ ar ⟨⟨U2,aE,b4⟩,UR⟩;have bi:CG H17 ar=cl 1:=fP UR;have aE:pJ (hM H17 ar) _ U2:=aE.s;have G:=G.oD UR;have Sa:=Sa.ex UR.draw;have RU:=RU.ex UR.draw;have T:=T.ex UR.draw;have y:=y.ex UR.draw;have hC:=λh=>(hC h).ex UR.draw;have j:=j.ex UR.draw;generalize hM H17 ar=H19 at G aE Sa RU T y hC j|-;refine dn (FK (Sa.ex<|Ext.hN H19) (aE.ex<|Ext.hN H19) λt=>fM.2 ?_) ?_
  .rw[t1 t,b4,bE,t2 t,nQ];exact⟨λh=>⟨⟨h.1,by simp[hasB]⟩,h.2⟩,λh=>⟨h.1.1,h.2⟩⟩
  rintro _ am ⟨rfl,rfl⟩;refine G.kN ?_;refine ig (λhb=>by cases hb) λ_=>?_;refine fF ?_;refine dn (FK (RU.ex<|Ext.hN H19) (T.ex<|Ext.hN H19) λt=>fM.2<|(r1 t).trans (r2 t).symm) ?_;rintro _ am ⟨rfl,rfl⟩;refine G.kN ?_;refine ig (λhb=>by cases hb) λ_=>?_;refine fF ?_;refine dn (Zb (oC H19) (RU.ex<|Ext.hN H19)<|b1.ex<|G.ext.trans'<|Ext.hN H19) ?_;rintro _ am ⟨⟨U3,a0,b5⟩,Xn⟩;have bj:CG H19 am=cl 1:=fP Xn;have a0:pJ (hM H19 am) _ U3:=a0.s;have G:=G.oD Xn;have Sa:=Sa.ex Xn.draw;have RU:=RU.ex Xn.draw;have y:=y.ex Xn.draw;have hC:=λh=>(hC h).ex Xn.draw;have j:=j.ex Xn.draw;generalize hM H19 am=H21 at G a0 Sa RU y hC j|-;refine dn (JE (a0.ex<|Ext.hN H21) λt=>?_) ?_
  .rw[b5];cases h:hasB R1 t
   .rfl
   .rw[UK ho hz.w ((r1 t).1 h)];rfl
  rintro _ cm ⟨rfl,rfl⟩;refine G.kN ?_;refine eU (λh=>absurd trivial h) λ_=>?_;refine fF ?_;refine ig (λhb=>?_) λhb=>?_
  .refine fF ?_;refine dA (v:=aO aA) (by rw[show(z.ok&&!ne)=!ne by rw[rV,Bool.and_true]at hb;rw[hb,nS]];exact akq ..) ?_;refine iY (by simp only[eZ,fP<|Ext.refl<|hN _,bh,c16,bi,bj];rfl) ?_;refine G.kN ?_;exact UQ hT G j Sa RU y bm ⟨p1,O⟩ bl hC bo bn
  rw[rV,Bool.and_true]at hb;rw[hb];refine dA (v:=aO aA) (akq ..) ?_;refine iY (by simp only[eZ,fP<|Ext.refl<|hN _,bh,c16,bi,bj];rfl) ?_;refine G.kN ?_;exact UQ hT G j Sa RU y bm ⟨p1,O⟩ bl hC bo bn
 have bd:i<u l:=N;refine(hf.ex ci).ix (v:=vi l[i]) bd (ints_at bd) λp=>?_;have hz:=ai.V.all (A:=A) ho (l.take i) _<|ai.V.new ho;have an:=ai.aeN (A:=A) (l.take i)<|ai.new A
 have an:((ai.new A).all A<|l.take i).long<=i:=by
  rw[show(ai.new A).long=0 from O,dS]at an;omega
 obtain⟨hL,ca⟩:=rm.lim hz.w N;refine dn (aj5 ho Wm Q4 a2 j hz.w hL ca rm.m N _) ?_;rintro _ H8 ⟨rfl,j⟩;refine eD ?_;refine⟨u l-(i+1),N,_,_,_,O,i+1,pq,N,?_⟩;rw[dU,av bd];exact(ai.aed (A:=A) (l.take i) l[i]<|ai.new A)▸j
end
end Go.Proofs.Lv
namespace Go.Proofs.YtpngmpbmokhmiaaGreatDoor
open Go.Ae Go.Proofs.Lu Go.ChangeShapes Go.WideShapes Go.ChangeAt Go.RowKit Go.Deep
variable{p p1 p2:List MemPlace}{H:Type}{v:C}
def own:ownKnob Tryz.prog.godebug=T:=fQ
def laidOut:laidOutB Tryz.prog=f:=fQ
def ahk{vn:cZ}(h:laidMetH Tryz.prog Rows.offerLessRow.laid vn):Lu.Laid vn:=by
 rw[MakeChecks.laidMetH_plain _ _ _ (fQ)]at h;obtain⟨ps,⟨ga,ta,csa,fa,pa,qa,hga,II,hva,hda,⟨gb,tb,csb,fb,pb,qb,hgb,htb,hvb,hdb,_⟩,_⟩,_,_⟩:=h;obtain rfl:=eO<|(show Tryz.prog.globalNamed "unicode/utf8.acceptRanges" =Z 2 by kernel_rfl).symm.trans hga;obtain rfl:=eO<|(show Tryz.prog.globalNamed "unicode/utf8.first" =Z 1 by kernel_rfl).symm.trans hgb;obtain rfl:=eO<|(show(Tryz.prog.globals[2]?).map (·.type)=Z 354 by kernel_rfl).symm.trans II;obtain rfl:=eO<|(show(Tryz.prog.globals[1]?).map (·.type)=Z 351 by kernel_rfl).symm.trans htb
 have block:∀{n:String}{g:Nat}{F:Array C},Tryz.prog.globalNamed n=Z g->vn.var? Tryz.prog n=Z F->∃ty fr,vn.heap[g]?=Z (.cells F ty fr):=by
  intro n g F hg hv;simp only[World.var?,hg,Option.bind_some]at hv;split at hv
  .next cs' ty fr hh=>cases hv;exact⟨ty,fr,hh⟩
  .cases hv
 obtain⟨tya,fra,ba⟩:=block hga hva;obtain⟨tyb,frb,bb⟩:=block hgb hvb;refine⟨?_,⟨tyb,csb,frb,bb,ae7 hdb⟩,⟨tya,csa,fra,ba,aaU hda⟩⟩;have:=(eX.1 ba).1;omega
def ahl{enc:aI×C->H}{vn:cZ}{d:DataW H}(h:DataW.Trod enc Tryz.prog vn 0 (λ_=>f) f 80 v d p){F:Array C}(hv:v=.agg F):
 ∃(a b:Option Addr)(c e:Nat)(l m:List Nat)(x y:C)(aa:Bool),v=.agg ⟨[x,y,.bool aa]⟩/\Lv.Sd (Bb vn T0) a c l/\VR (Ba vn<|Bb vn T0) (J a l.length c) x/\Lv.Sd (Bb vn T0) b e m/\VR (Ba vn<|Bb vn T0) (J b m.length e) y:=by
 subst hv;obtain⟨fuel,hd⟩:=h;have P:Tryz.prog.cellsOf 51=1:=fQ;have N:Tryz.prog.cellsOf 4=1:=fQ;have T:Tryz.prog.cellsOf 80=3:=fQ;obtain⟨M,n,_,e,g,t,j⟩:=DataW.trod_struct Tryz.underlying80 hd;rw[T]at g;obtain⟨l⟩:=F;have g:l.length=3:=g
 match l,g with
 |[x,y,z],_=>
  have t:M.length=3:=t
  match M,t with
  |[(d0,p0),(d1,p1),(d2,p2)],_=>
   have U:=j 0 _ O;have W:=j 1 _ O;have X:=j 2 _ O;have w:mF enc Tryz.prog vn 0 (λ_=>f) f n 51 (([x,y,z].drop 0).take<|Tryz.prog.cellsOf 51)=Z (d0,p0):=U;have B:mF enc Tryz.prog vn 0 (λ_=>f) f n 51 (([x,y,z].drop 1).take<|Tryz.prog.cellsOf 51)=Z (d1,p1):=W;have K:mF enc Tryz.prog vn 0 (λ_=>f) f n 4 (([x,y,z].drop 2).take<|Tryz.prog.cellsOf 4)=Z (d2,p2):=X;rw[P]at w B;rw[N]at K;obtain⟨a,c,l0,I,Y⟩:=ae8 w;obtain⟨b,e,l1,h4,h6⟩:=ae8 B;obtain⟨aa,hu,_⟩:=DataW.trod_bool Tryz.underlying4 K;have hz:z=.bool aa:=by simpa using hu
   exact⟨a,b,c,e,l0,l1,x,y,aa,by rw[hz],I,Y,h4,h6⟩
def Xo{P:aX}{w:cZ}{r:Reach}{base:Nat}{t:aI}{fs:Array Field}(ht:P.underlying t=Z (.struct fs))(h:Value.okWide P w r base t v):∃F,v=.agg F:=by
 unfold Value.okWide at h;rw[ht]at h;obtain⟨F,I,_⟩:=h;exact⟨F,I⟩
def ahm{vn:cZ}(T:Lu.Laid vn)(s:ByteArray){enc:aI×C->H}{v1 M:C}{d1 d2:DataW H}(I:DataW.Trod enc Tryz.prog vn 0 (λ_=>f) f 22 v1 d1 p1)(o1:∃a n c,v1=J a n c)(B:DataW.Trod enc Tryz.prog vn 0 (λ_=>f) f 80 M d2 p2)(o2:∃F,M=.agg F):Calls Tryz.prog 7 #[.string s,v1,M] vn λe w'=>e=.returned (.bool f)/\Below vn.heap.size vn w':=by
 have K:Wf (Bb vn T0):=ax _;obtain⟨xa,xn,xc,rfl⟩:=o1;obtain⟨fuel,hd⟩:=I;obtain⟨a,c,l,ty,hf,hr,hv⟩:=ag5 hd;obtain⟨F,o2⟩:=o2;obtain⟨Y,a2,c1,c2,U,W,x,y,N,rfl,g,t,j,w⟩:=ahl B o2;refine Z9 (P:=Tryz.prog) (X:=X) (H:=Bb vn T0) (b:=f) (args:=[.string s,J a l.length c,.agg ⟨[J Y U.length c1,J a2 W.length c2,.bool N]⟩]) T.size mixed (Ec.ab4 fns) xs ors Tryz.func7 (fQ) ?_ (ax _) (aga λr o h=>nomatch h) (args':=[.string s,J xa xn xc,.agg ⟨[x,y,.bool N]⟩])<|.cons _ _ _ _ (.sc _ O)<|.cons _ _ _ _ hv<|.cons _ _ _ _ (.agg _ _<|.cons _ _ _ _ t<|.cons _ _ _ _ w<|.cons _ _ _ _ (.sc _ O) .nil) .nil;exact(Go.Proofs.Lv.offerLess K T.tabs s hf g j).mono λv Q h=>⟨h.1,h.2.low _ (ax _) (ax _) λr h=>nomatch h⟩
def lifted(os:Os)(K:os.Started)(H:Type)(enc:aI×C->H):
 ReturnsInHanded {} Tryz.checked os 7 .any (λw args=>(Rows.offerLessSpec.pre enc Tryz.prog Tryz.f7 [] aA w args/\laidMetH Tryz.prog Rows.offerLessRow.laid w)/\sizedMet enc Tryz.prog Tryz.f7 (OpenSpec.ofChange Rows.offerLessSpec) aA w args)
  (Rows.offerLessSpec.post enc Tryz.prog Tryz.f7 aA f aA aA):=by
 refine returnsInHanded_of_change_and (C:=Tryz.checked) (X:=λw _=>laidMetH Tryz.prog Rows.offerLessRow.laid w) (λ_ _ _ hh h=>h.of_heap hh) own K (fQ) Tryz.func7
  (ChangeSpec.witness_shaped (enc:=enc) (C:=Tryz.checked) (os:=os) (X:=λw _=>laidMetH Tryz.prog Rows.offerLessRow.laid w) aA (World.laidAll Tryz.prog os Rows.offerLessRow.laid) #[.string ⟨#[]⟩,J T 0 0,.agg #[J T 0 0,J T 0 0,.bool aA]] 8 (World.laidAll_os _ _ _)
   (World.shaped_of_ZipB (fQ)<|fQ) (fQ) (fQ) (fQ)
   (by rw[MakeChecks.laidMetH_plain _ _ _ (fQ)];exact laidMet_laidAll _ (fQ)<|fQ)) ?_
 intro vn base args ds gs Y U hW _ ad hL _;have y:∀(j:Nat) t v,Tryz.f7.params[j]?=Z t->args[j]?=Z v->Value.okWide Tryz.prog vn .any base t v:=U;have P:=hW;obtain⟨p,q,ac,hV,rfl,_,_⟩:=hW;have hA:DataW.TrodAll enc Tryz.prog vn 0 (λ_=>f) f Tryz.f7.params.toList args.toList ds p:=ac;rw[Tryz.params7]at hA y ad;obtain⟨v0,ao,d0,al,p0,q0,ab,rfl,rfl,h0,r0⟩:=trodAll_cons hA;obtain⟨v1,ap,d1,am,p1,q1,rfl,rfl,rfl,I,r1⟩:=trodAll_cons r0;obtain⟨v2,aq,d2,an,p2,q2,rfl,rfl,rfl,B,r2⟩:=trodAll_cons r1;obtain⟨rfl,rfl,rfl⟩:=trodAll_nil r2;obtain rfl:args=#[v0,v1,v2]:=by cases args;simp_all
 obtain⟨rfl,rfl⟩:=trodVars_none hV;simp only[bF]at P;obtain⟨fuel,hd⟩:=id h0;obtain⟨s,rfl⟩:=okWide_string Tryz.underlying9<|y 0 9 v0 O O;refine(ahm (ahk hL) s I (okWide_slice Tryz.underlying22<|y 1 22 v1 O O) B<|Xo Tryz.underlying80<|y 2 80 v2 O O).mono λe W' ⟨he,hb⟩=>?_;subst he;have W:∀x∈p0++(p1++p2),x.block<vn.heap.size:=λx M=>P.lt x (by simpa using M)
 have g:∀{t:aI}{v:C}{d:DataW H}{ps:List MemPlace},Tryz.prog.readableRec t=f->t<Tryz.prog.types.size->(∀x∈ps,x∈p0++(p1++p2))->DataW.Trod enc Tryz.prog vn 0 (λ_=>f) f t v d ps->DataW.Trod enc Tryz.prog W' 0 (λb=>decide<|b<vn.heap.size) f t v d ps:=λhr ht N h=>
  WideElems.Trod_stays laidOut hr ht h (λx M=>hb.same<|W x<|N x M) (λx M=>by simpa using W x (N x M))
 have g0:=g (fQ) (gF<|fQ) (λx M=>by simp[M]) h0;have g1:=g (fQ) (gF<|fQ) (λx M=>by simp[M]) I;have g2:=g (fQ) (gF<|fQ) (λx M=>by simp[M]) B;refine⟨_,O,_,_,_,[],p0++(p1++(p2++[])),[],P,trodAll_mk1<|shut_bool Tryz.underlying4 _,trodAll_cons_mk g0<|trodAll_cons_mk g1<|trodAll_cons_mk g2 trodAll_mk0,O,?_,λh=>by cases h⟩;simp only[bF,bX];refine World.keptBut_mono (λx M=>⟨M,?_⟩)<|hb.frame (·∈p0++(p1++p2));simpa using M
def named:Tryz.pinned.checked.prog.funcNamed Rows.offerLessRow.func=Z 7:=fQ
def aaW:Tryz.f7.isInstance Tryz.pinned.checked.prog Rows.offerLessRow.origin Rows.offerLessRow.targs:=gF<|fQ
def wrapper:Tryz.f7.isWrapper Tryz.pinned.checked.prog Rows.offerLessRow.wrapper Rows.offerLessRow.mainSum:=by
 unfold Func.isWrapper
 first|(rw[jj (by decide +kernel)];kernel_rfl)|(rw[jx (by decide +kernel)];exact⟨O,O⟩)
def holds:Rows.OfferLessSaid:=
 OpenClaim.holds_of_wide 7 Tryz.f7 rfl rfl rfl rfl rfl rfl rfl ⟨rfl,rfl,rfl,rfl,rfl⟩ rfl rfl rfl rfl rfl named Tryz.func7 closed aaW wrapper (λj e H g _=>lifted j e H g)
def ahn:Rows.offerLessRow.wfByText (OpenSpec.ofChange Rows.offerLessSpec)=f:=fQ
def aaX:Tryz.pinned.checked.prog.mainIs=Z (f, "c7ba5974f1e424090d746d4cc289330a9863f6ddbae9006ee732232eac0b4017".toList):=fQ
def Xp:Tryz.prog.funcNamed "souffleur/souffleurlaw24.OfferLess" =Z 7:=fQ
def Xq:aA=Tryz.pinned.checked.prog.looks []:=fQ
def Xr:([9,22,80].all λaa=>!Tryz.prog.wantsStandIn aa)=f:=fQ
def aaY:aA=Rows.offerLessRow.goesBy Tryz.pinned.checked.prog:=fQ
theorem offerLess_card:Rows.OfferLessCardSaid:=
 Claim7.holds_tied_plain_at .later [] [.data,.pinned] f (f, "c7ba5974f1e424090d746d4cc289330a9863f6ddbae9006ee732232eac0b4017") aA holds (λ_ h=>by cases h) ahn (λ_ h=>by cases h) offerLess_row_tie rfl ⟨rfl,rfl⟩ aaX rfl
  (λay fn hf hfn=>by
   obtain rfl:ay=7:=eO (Xp.symm.trans hf)|>.symm;obtain rfl:fn=Tryz.f7:=(eO<|Tryz.func7.symm.trans hfn).symm
   exact⟨Xq,λj t ht=>by
    rw[Tryz.params7]at ht;have hm:t∈[9,22,80]:=by simpa using Array.mem_of_getElem? ht
    exact(show Tryz.prog.wantsStandIn t=aA by simpa using fD.1 Xr t hm)⟩)
  aaY
#print axioms offerLess_card
end Go.Proofs.YtpngmpbmokhmiaaGreatDoor
