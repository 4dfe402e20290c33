/-
  OfferGrows: with more rules preferred no type comes, and no rule of those that were preferred ahead of that
-/
import Derived.Test.YtpngmpbmokhmiaaGreatDoorZ10
import Derived.Test.YtpngmpbmokhmiaaGreatDoorZ12
import Derived.Test.YtpngmpbmokhmiaaGreatDoorZ13
import Derived.Test.YtpngmpbmokhmiaaGreatDoorCards
import Derived.Test.YtpngmpbmokhmiaaGreatDoorTie
set_option linter.unusedVariables false
set_option linter.unusedSimpArgs false
set_option maxRecDepth 100000
set_option maxHeartbeats 4000000
set_option linter.defProp false
open Option renaming some->Z,none->T
open Bool renaming true->F,false->aA
open Go renaming Value->D,TypeId->aH,Program->aX,World->cZ
open Go.Value renaming int->bq,slice->u,bool->aR,string->aJ,pointer->bG,tuple->fO,agg->dP
open Nat renaming beq->aB,ble->aD,sub->dQ
open List renaming length->J,range->dZ
open Classical renaming choose->jM
open Go.IntKind renaming i64->bC
open Go.DataW renaming trod->nI
noncomputable section
namespace Go.Proofs.Lv
open Go.Proofs.Lu Go.Proofs.Lu.Wk
open Go.Ae Go.Ae.hx
variable{k s:Nat}
section
variable{H0 H:R}{L hx:C eB}{S au:C Nat}{ay F':Nat->Prop}{A:At}{q q':AV}{ev sv:D}{sb:C Bool}{rw' most n:Nat}{z:ah}
def aks:bQ Pg X 59 [bG T] H (Q0 (λv=>v=aR F) H):=by
 refine lq [0,2] ?_;refine dA (v:=aR F) fT ?_;refine bM ?_;refine Lu.rr ?_;exact⟨O,O⟩
def ao9(e:Wf H):bQ Pg X 65 [bG T] H (Q1 (λv _=>v=dP ⟨agO⟩) H):=by
 refine lq [0,2] ?_;have G:=h_ e;refine G.jP λg E G=>?_;refine dD aks ?_;rintro _ j ⟨rfl,rfl⟩;refine bM ?_;refine dA (v:=dP ⟨agO⟩) O ?_;refine G.kE λt G=>Lu.rr ?_;apply G.jC;exact⟨O,G.ext⟩
def anx(e:Wf H):bQ Pg X 35 [dP ⟨agO⟩] H (Q1 (λv _=>v=vi 0) H):=by
 refine lq [0,1,2] ?_;have G:=h_ e;refine G.box O λg E G=>?_;refine fJ ?_;refine Lu.rr ?_;exact⟨O,G.ext⟩
def apa(e:Wf H)(z:Int):bQ Pg X 45 [bG T,vi z] H (Q1 (λv _=>v=fO ⟨[bG T,vi 1]⟩) H):=by
 refine lq [0,1,4,5,6,7,8,9] ?_;refine dD (ao9 e) ?_;rintro _ t ⟨rfl,M⟩;have G:=(h_ e).call M;refine G.ns O O O λw y G g=>?_;refine fJ ?_;refine G.cm (anx G.wf) ?_;rintro _ x rfl j G;refine bM ?_;refine aW (λ_=>?_) λh=>absurd trivial h;refine Lu.rr ?_;exact⟨O,G.ext⟩
def mmN{b:Bool}(x y:Nat):UZ b [B x,bq bC y]=Z (B (if b=F then max x y else min x y)):=by
 cases b with
 |false=>show UZ aA [bq bC x,bq bC y]=_;rw[min2];show _=Z (B<|min x y);rw[show min (x:Int) y=((min x y:Nat):Int) by omega]
 |true=>show UZ F [bq bC x,bq bC y]=_;rw[max2];show _=Z (B<|max x y);rw[show max (x:Int) y=((max x y:Nat):Int) by omega]
def ag2(hs:s<=602)(hk:k<=61)(g:Wf H):bQ Pg X 47 [B s,B k] H (Q0 (λv=>v=B (s*(s*(k+1)+1)*(k+1))) H):=by
 have I:s*(k+1)<=602*62:=jh N N;have W:s*(s*(k+1)+1)<=602*37325:=jh N N;have e:s*(s*(k+1)+1)*(k+1)<=22469650*62:=jh N N;refine lq [0,1,4,5,6] ?_;refine dA (v:=B s) ((mmN s 0).trans<|by rw[jj O,xu<|bD _]) ?_;refine dA (v:=B s) ((mmN s 32768).trans<|by rw[jk jq,jI N]) ?_;refine dA (v:=B k) ((mmN k 0).trans<|by rw[jj O,xu<|bD _]) ?_;refine dA (v:=B k) ((mmN k 32768).trans<|by rw[jk jq,jI N]) ?_;refine dA (v:=B<|k+1) (lu 1 O N)<|dA (v:=B<|s*(k+1)) (mulN s O N)<|dA (v:=B<|s*(k+1)+1) (lu 1 O N)<|dA (v:=B<|s*(s*(k+1)+1)) (mulN s O N)<|dA (v:=B<|s*(s*(k+1)+1)*(k+1)) (mulN _ O N)<|dA (v:=B<|s*(s*(k+1)+1)*(k+1)) ((min2 _ _ _).trans<|by rw[Int.min_eq_left N])<|Lu.rr ?_;exact⟨O,O⟩
abbrev ints(l:C Int):C D:=l.map vi
structure Rm(A:At)(n most:Nat):Prop where
 b:bnd A n<=8000000
 s:A.ns*(n+1)<=1000000
 e:(n+1)*bnd A n<=most
 m:most<=1000000000000000
def Rm.lim(h:Rm A n most)(j:ah.h2 A z)(hl:z.long+1<=n):Lim A (z.long+1) (most-z.st)/\z.st<=most:=by
 have I:bnd A (z.long+1)<=bnd A n:=GN hl;have W:bnd A z.long<=bnd A n:=GN N;have t:z.st<=n*bnd A n:=aQ j.st<|jh hl W;have g:=h.e;rw[jR]at g;exact⟨⟨N,aQ I h.b,aQ (gM _ N) h.s⟩,N⟩
def Rm.apb(h:Rm A n most):Lim A 0 most:=by
 have I:bnd A 0<=bnd A n:=GN<|bD _;have g:=h.e;rw[jR]at g;exact⟨N,aQ I h.b,aQ (gM _ N) h.s⟩
def Bg(A:At):Nat:=A.ns*(A.ns*(31+1)+1)*(31+1)
def Rm.bg(hs:A.ns<=300):Rm A 31 (Bg A):=by
 have I:A.ns*(31+1)<=300*32:=jh hs N;have W:bnd A 31<=300*(300*32+1):=jh hs N;have e:Bg A<=300*(300*32+1)*32:=jh W<|ax _;refine⟨N,N,?_,N⟩;show(31+1)*bnd A 31<=bnd A 31*(31+1);rw[wX];exact ax _
def GU.both(h:GU ay H rw' A q ev sv sb):GU (λr=>ay r/\r<H.bU) H rw' A q ev sv sb:=
 ⟨⟨h.k,h.k.2⟩,h.b,h.a.both,let⟨sa,sc,e,hf⟩:=h.s;⟨sa,sc,e,hf.1,λr o e g=>let⟨I,W,h3⟩:=hf.2 r o e g;⟨⟨I,W⟩,W,h3⟩⟩,h.l,h.on,let⟨eb,ea,ec,e,hf,hm⟩:=h.e;⟨eb,ea,ec,e,⟨hf.1,λr o e g=>let⟨I,W,h3⟩:=hf.2 r o e g;⟨⟨I,W⟩,W,h3⟩⟩,hm⟩⟩
def Fla(n:Nat)(v:D):Prop:=∃l,v=dP ⟨l⟩/\bY v=l/\J l=n/\all' fZ l=F
def Bgn(H:R)(x a:D)(Q:R):Prop:=∃(A:At)(rp rw c b:Nat)(q q':AV)(ev sv:D)(sb:C Bool)(S:C Nat),At.Ok A/\A.ns<=300/\A.ty<=5000/\A.tot<=2*A.ns/\vI (λ_=>True) Q A q/\x=pr rp/\a=q.v A/\b<=Q.bU/\
 GU (λr=>c<=r/\r<b) Q rw A q' ev sv sb/\(∀r∈S,b<=r/\H.bU<=r/\r<Q.bU)/\Sm S Q Q rp rw (Bg A) A (ah.new A)
theorem Xf(hw:Wf H)(hT:Dr H)(s:aZ):bQ Pg X 19 [aJ s] H (Q1 (λv Q=>∃(x a g:D)(ok:Int),v=fO ⟨[x,a,g,vi ok]⟩/\Fla 6 a/\Fla 9 g/\(ok≠0->Bgn H x a Q)) H):=by
 have G:=h_ hw;refine lq [0,2,3,4,5,6,7,8,9,10,11,12] ?_;refine G.jP λH1 ad G=>?_;refine G.jP λH2 ag G=>?_;have a8:=G;refine G.cm (Uu G.wf (hT.ex G.ext) s) ?_;rintro v H3 ⟨x,ok,rfl,bi,a9⟩ M G;refine G.lJ ?_
 obtain⟨y,P,U,W,Y,a6,rfl,OK⟩:∃y P U W Y a6,x=dP ⟨[y,P,U,W,Y,a6]⟩/\all' fZ [y,P,U,W,Y,a6]=F/\bY (dP ⟨[y,P,U,W,Y,a6]⟩)=[y,P,U,W,Y,a6]:=by
  by_cases c:ok=0
  .rw[bi c];exact⟨_,_,_,_,_,_,O,O,O⟩
  .obtain⟨A,_,_,_,_,_,q,rfl,_⟩:=a9 c;exact⟨_,_,_,_,_,_,O,O,O⟩
 refine G.oV (by rw[OK.2];rfl) rfl (by rw[OK.2];exact OK.1) λH4 r6 G aq=>?_;rw[OK.2]at G;have xM:=G;refine aW (λhc=>?_) λhc=>?_
 .refine fJ ?_;refine G.kE λHn G=>?_;refine G.kE λHn G=>?_;refine Lu.rr ?_;refine fJ ?_;exact⟨⟨_,_,_,0,O,⟨_,O,O,O,O⟩,⟨_,O,O,O,O⟩,λh=>absurd O h⟩,G.ext⟩
 have⟨A,ho,ae5,hty,UR,htr,q,eq,hA⟩:=a9 hc;refine G.uL 0 O (ax 6) ?_;show bQ Pg X 21 [dP ⟨[y,P,U,W,Y,a6]⟩] H4 _;rw[eq];refine G.cm (aef G.wf (hA.ex aq) ho htr) ?_;rintro v H5 ⟨w,ab,rfl,bh,bf⟩ ba G;refine bM ?_;refine G.uL 0 O (ax 6) ?_;show bQ Pg X 35 [dP ⟨[y,P,U,W,Y,a6]⟩] H5 _;rw[eq];refine G.cm (vU G.wf q A) ?_;rintro _ H6 rfl am G;refine dD (ag2 (s:=A.ns) (k:=31) N N G.wf) ?_;rintro _ H6 ⟨rfl,rfl⟩
 have be:bQ Pg X 45 [w,B<|Bg A] H6 (λv Q=>∃(x:D)(cs:Int),v=fO ⟨[x,vi cs]⟩/\Ext H6 Q/\(ab=0->∃rp rw q' ev sv sb,x=pr rp/\GU (λr=>H4.bU<=r/\r<H5.bU) Q rw A q' ev sv sb/\Sm [] H6 Q rp rw (Bg A) A (ah.new A))):=by
  by_cases c:ab=0
  .obtain⟨rw,q',ev,sv,sb,rfl,hk⟩:=bf c;have hk:=(hk.both).stay am nofun;refine(aj3 ho G.wf hk (λr h=>aO h.2 am.bU) (Rm.bg ae5).apb).mono ?_;rintro _ Q ⟨rp,rfl,t⟩;exact⟨_,_,O,t.ext,λ_=>⟨rp,rw,q',ev,sv,sb,rfl,hk.stay t.ext<|nofun,t⟩⟩
  .rw[bh c];exact(apa G.wf _).mono λv Q h=>⟨_,_,h.1,h.2,λh=>absurd h c⟩
 refine dD be ?_;rintro _ H7 ⟨x,cs,rfl,ar,t⟩;have al:H5.bU<=H6.bU:=am.bU;have G:=G.call ar;refine bM ?_;refine G.cm (ant G.wf s) ?_;rintro v H8 ⟨ra,rl,rc,na,m,nc,ta,n,tc,p,e,at',rfl,hg⟩ BK G;refine G.oV O O O λH9 bj G Kt=>?_
 have an:∀{b:Bool}{E:Rs},Co E 47=aR b->(b=aA->ab=0/\e=0)->iG Pg X (sub (BG Pg 19) [1,1,1,1,1,1,0,1]) (Go.Ae.hx.ay Pg 19 (Fr.c 0 (aJ s)<|Fr.c 2 (bG T)<|Fr.c 3 (pr ad)<|Fr.c 4 (pr ag)<|Fr.c 5 (vi 0)<|Fr.c 6 (pr r6)<|Fr.c 7 (vi ok)<|Fr.c 8 w<|Fr.c 9 (vi ab)<|Fr.c 10 x<|Fr.c 11 (vi cs)<|Fr.c 12 (pr bj)<|Fr.n) E H9) (uW Pg X (sub (BG Pg 19) [1,1,1,1,1,1,1])<|jZ Pg [.tmp 2,.cell 3 27,.cell 4 38,.tmp 5]<|Q1 (λv Q=>∃(x a g:D)(ok:Int),v=fO ⟨[x,a,g,vi ok]⟩/\Fla 6 a/\Fla 9 g/\(ok≠0->Bgn H x a Q)) H):=by
  intro b E bd hb;refine tl ?_;rw[bd];cases b;rotate_left
  .refine fJ ?_;refine G.kE λHn G=>?_;refine G.kE λHn G=>?_;refine Lu.rr ?_;refine fJ ?_;exact⟨⟨_,_,_,0,O,⟨_,O,O,O,O⟩,⟨_,O,O,O,O⟩,λh=>absurd O h⟩,G.ext⟩
  obtain⟨I,rfl⟩:=hb O;have⟨ai,hu⟩:=(hg O).gr;refine bM ?_;refine tm ?_;refine dD (yOf (oU H9) (show GR ai TT (hN H9) _ m rl from(hu.ex Kt:GR ai TT H9 _ m rl))) ?_;rintro v CF ⟨⟨hv,l9,rfl,c9,n9,k9⟩,uR⟩;have G:=G.oI uR;have n1:=G.nq 0 1 O O N;have n2:=G.nq 0 2 O O N;have n3:=G.nq 0 3 O O N;have n4:=G.nq 1 2 O O N;have n5:=G.nq 1 3 O O N;have n6:=G.nq 2 3 O O N;have ao:SH [] H (hM H9 CF) ([(ag,38,_),(ad,27,_)]):=fU (A:=[_,_]) G;have G:=ao.base;refine G.n_ (λRy G=>?_) (show J (bY<|dP ⟨[y,P,U,W,Y,a6]⟩)=6 by rw[OK.2];rfl) jq (show all' fZ (bY<|dP ⟨[y,P,U,W,Y,a6]⟩)=F by rw[OK.2];exact OK.1);refine G.n_ (λUq G=>?_) (by rw[c9];exact n9) jq (by rw[c9];exact k9);refine(show∀K:Prop,K->_/\K fromλKz hK=>?_) _ ?_
  .simp only[fu,gT,gJ uR];apply VK n1 n2 n3 n4 n5 n6 yB fT fT hK
  have T4:=((ao.over G).cast (L':=[(ag,38,l9),(ad,27,[y,P,U,W,Y,a6])]) (by
   rw[oz _ _ (by rw[c9];exact n9.symm),c9,oz _ _ (by rw[show bY (dP ⟨List.take 6<|List.drop 0 [y,P,U,W,Y,a6]⟩)=[y,P,U,W,Y,a6]from OK.2];rfl),show bY (dP ⟨List.take 6<|List.drop 0 [y,P,U,W,Y,a6]⟩)=[y,P,U,W,Y,a6]from OK.2]))
  obtain⟨rp,rw,q',ev,sv,sb,rfl,hk,t⟩:=t I;have Jg:Ext H7 (hM H9 CF):=(BK.trans Kt).trans uR.draw;have⟨S',hS',hown⟩:=(t.ex Jg).own;have bc:=(a8.lo _<|aV (i:=0) O).2;have bb:=(a8.lo _<|aV (i:=1) O).2;have aE:=M.bU;have a0:=aq.bU;have a7:=ba.bU
  have ac:∀r∈[ag,ad],r<H2.bU:=λr j=>by
   simp only[bW,fF,jo]at j;rcases j with rfl|rfl
   .exact bc
   .exact bb
  have ap:∀r∈S',H6.bU<=r:=λr j=>((hS' r j).1).resolve_left<|nofun;have he:=xM.ext.bU;refine Lu.rr ?_;refine T4.uL 1 O (ax 6) ?_;refine T4.uL 0 O (show 0+9<=J l9 by rw[n9];decide) ?_;have e9:List.take Pg.types[38].size (List.drop 0 l9)=l9:=dV<|rM n9;refine⟨⟨_,_,_,1,O,⟨_,O,OK.2,O,OK.1⟩,⟨_,O,by rw[e9];exact c9,by rw[e9];exact n9,by rw[e9];exact k9⟩,λ_=>⟨A,rp,rw,H4.bU,H5.bU,q,q',ev,sv,sb,S',ho,ae5,hty,UR,?_,rfl,eq,?_,?_,λr j=>⟨?_,?_,?_⟩,hown [ag,ad] _ G.ext λr j=>⟨?_,?_⟩⟩⟩,T4.ext⟩
  .exact((hA.ex<|aq.trans<|ba.trans<|am.trans<|ar.trans Jg).stay G.ext λr j h=>absurd (ac r j)<|fI h).wk λ_ _=>trivial
  .exact aQ al<|aQ ar.bU<|aQ Jg.bU G.ext.bU
  .exact(hk.stay Jg nofun).stay G.ext λr j h=>absurd (ac r j)<|fI<|aQ (aQ aE a0) h.1
  .exact aQ al<|ap r j
  .exact aQ (aQ he<|aQ a7 al)<|ap r j
  .exact aO (hS' r j).2 G.ext.bU
  .exactλh=>fI (aQ (aQ (aQ aE a0)<|aQ a7 al)<|ap r h)<|ac r j
  .exact ao.AO (ty:=86) O r j
 refine fP (λc=>an O nofun) λc=>?_;refine bM ?_;refine fP (λc2=>an O nofun) λc2=>?_;refine fJ ?_;exact an O λh=>⟨c,nZ h⟩
end
end Go.Proofs.Lv
namespace Go.Proofs.Lu
open Go.Ae Go.Ae.hx
section
variable{ay F':Nat->Prop}{H0 H:R}{L hx:C eB}{S:C Nat}
def ag3:∀i,i<256->∃z:Nat,Fu[i]?=Z z/\(z=240\/z=241\/z=2\/z=19\/z=3\/z=35\/z=52\/z=4\/z=68):=by
 have h:((dZ 256).all λi=>match Fu[i]? with|some z=>decide (z=240\/z=241\/z=2\/z=19\/z=3\/z=35\/z=52\/z=4\/z=68)|none=>aA)=F:=by decide +kernel
 intro i e;have:=fE.1 h i<|jT.2 e;cases hz:Fu[i]? with
 |none=>rw[hz]at this;cases this
 |some z=>rw[hz]at this;exact⟨z,O,nZ this⟩
def ag4:∀i,i<16->∃x y:Nat,KE[i*2]?=Z x/\KE[i*2+1]?=Z y:=by
 intro i e;have g:J KE=32:=rfl;exact⟨_,_,av N,av N⟩
def Dr.of(h:Dj H):Dr H:=by
 have⟨h0,t1,t2,I,W⟩:=h;refine⟨λi e=>?_,λi e=>?_,h0⟩
 .have⟨z,hz,hv⟩:=ag3 i e;exact⟨z,N,acn I hz⟩
 .have⟨x,y,M,hy⟩:=ag4 i e;exact⟨x,y,ZY W M hy⟩
def Hd(a:aC Addr)(n c:Nat):Prop:=(a=T/\n=0/\c=0)\/∃r o,a=Z ⟨r,o,T⟩/\n<=c/\c<=9223372036854775807
end
end Go.Proofs.Lu
namespace Go.Proofs.Lv
open Go.Proofs.Lu Go.Proofs.Lu.Wk
open Go.Ae Go.Ae.hx
variable{l:C Int}{i m r tc:Nat}{v:D}
section
variable{H0 H:R}{L hx:C eB}{S au:C Nat}{ay F':Nat->Prop}{A:At}{q q':AV}{ev sv:D}{sb:C Bool}{rw' most n:Nat}{ta:aC Addr}
def ints_at(h:i<J l):(ints l)[i]?=Z (vi l[i]):=jX _<|av h
def _root_.Go.Ae.SH.whole{K:D->R->Prop}{ty:aH}{f:C D}(G:SH S H0 H L)(i:Nat)(hi:L[i]?=Z (r,ty,f))(j:J f=m)(g:Fla m v)(kk:∀H1 l,v=dP ⟨l⟩->J l=m->SH S H0 H1 (L.set i (r,ty,l))->K undef H1):ME (Es m (bG<|Z ⟨r,0,T⟩) v H) K:=by
 obtain⟨l,rfl,I,W,e⟩:=g;refine G.st i hi (by rw[I];exact W) N (by rw[I];exact e) λH1 G=>?_;rw[I,oz _ _ N]at G;exact kk H1 l O W G
end
end Go.Proofs.Lv
namespace Go.Proofs.Lu
open Go.Proofs.YtpngmpbmokhmiaaGreatDoor Go.Ae Go.ChangeShapes Go.WideShapes Go.ChangeAt Go.RowKit Go.Deep
variable{p:C MemPlace}{sp:Nat->Bool}{base fuel o r:Nat}{held:Bool}{H:Type}{f:C D}{a b:Int}{v:D}
abbrev T0:Nat->aC nE:=λ_=>T
structure Laid(h2:cZ):Prop where
 size:3<=h2.heap.size
 t1:∃(ty:aH)(f:Array D)(fr:Nat×Nat),h2.heap[1]?=Z (.cells f ty fr)/\f.toList=Fu.map λz=>bq .u8 (z:Nat)
 t2:∃(ty:aH)(f:Array D)(fr:Nat×Nat),h2.heap[2]?=Z (.cells f ty fr)/\f.toList=KE.map λz=>bq .u8 (z:Nat)
def Zc{h2:cZ}{ty:aH}{f:Array D}{fr:Nat×Nat}{l:C Nat}(h:h2.heap[r]?=Z (.cells f ty fr))(e:f.toList=l.map λz=>bq .u8 (z:Nat)):(Bp h2 T0).obj r=xz ty .u8 l:=by
 have j:r<h2.heap.size:=(eZ.1 h).1;rw[MM h2 T0 j];show(match h2.heap[r]? with|some o=>aji o|none=>.dead)=_;rw[h];show nE.row ⟨ty,Tr.uY top (f.toList.map ML) 0 .nil,f.size,F,0⟩=nE.row ⟨ty,Tr.uY top (mp (λn=>bq .u8<|Int.ofNat n) l) 0 .nil,len l,F,0⟩
 have g:f.size=len l:=by
  rw[ig,<-qo,e,aK]
 rw[e,G6,g,uH];rfl
def Laid.tabs{h2:cZ}(h:Laid h2):Dj (Bp h2 T0):=by
 have⟨t1,c1,f1,I,e1⟩:=h.t1;have⟨t2,c2,f2,W,e2⟩:=h.t2;exact⟨h.size,t1,t2,Zc I e1,Zc W e2⟩
def ae6{enc:aH×D->H}{h2:cZ}(h:nI enc Tryz.prog h2 base sp held fuel 5 f=Z (.lit<|.int .u8 a,p)):f=[.int .u8 a]:=by
 have⟨n,e1,e2,_⟩:=DataW.trod_int Tryz.underlying5 h;have:a=n:=by injection e2 with e3 _;injection e3 with e4;injection e4
 rw[e1,this]
def ag5{enc:aH×D->H}{h2:cZ}(h:nI enc Tryz.prog h2 base sp held fuel 353 f=Z (.agg [.lit (.int .u8 a),.lit<|.int .u8 b],p)):f=[.int .u8 a,.int .u8 b]:=by
 have⟨ys,n,_,e,hl,hy,hf⟩:=DataW.trod_struct Tryz.underlying353 h;have E:Tryz.prog.cellsOf 5=1:=fT;have j:Tryz.prog.cellsOf 353=2:=fT;rw[j]at hl;have g:ys.map (·.1)=[.lit (.int .u8 a),.lit<|.int .u8 b]:=(DataW.agg.inj (Prod.mk.inj e).1).symm
 match f,hl with
 |[x,y],_=>
  match ys,g with
  |[y0,y1],g=>
   simp only[i_,kM,List.cons.injEq,zq]at g;have⟨q0,q1⟩:=g;have K:=hf 0 _ O;have M:=hf 1 _ O;have⟨d0,p0⟩:=y0;have⟨d1,p1⟩:=y1;simp only at q0 q1;subst q0 q1;have t:nI enc Tryz.prog h2 base sp held n 5 (([x,y].drop 0).take<|Tryz.prog.cellsOf 5)=Z (.lit<|.int .u8 a,p0):=K;have w:nI enc Tryz.prog h2 base sp held n 5 (([x,y].drop 1).take<|Tryz.prog.cellsOf 5)=Z (.lit<|.int .u8 b,p1):=M;rw[E]at t w;have B:=ae6 t;have I:=ae6 w;simp at B I;rw[B,I]
def ae7{enc:aH×D->H}{h2:cZ}(h:nI enc Tryz.prog h2 base sp held fuel 351 f=Z (.agg<|Fu.map λz=>.lit<|.int .u8 (z:Nat),p)):f=Fu.map λz=>bq .u8 (z:Nat):=by
 have⟨xs,m,_,ex,hl,hn,hel⟩:=DataW.trod_array Tryz.underlying351 h;have x:Tryz.prog.cellsOf 5=1:=fT;have e:Tryz.prog.cellsOf 351=256:=fT;have g:Fu.length=256:=jq;have y:xs.map (·.1)=Fu.map λz=>.lit (.int .u8 (z:Nat)):=(DataW.agg.inj (Prod.mk.inj ex).1).symm;apply ja
 .rw[hl,e,aK,g]
 intro i I W;rw[aK]at W;have j:=hel i N;rw[x,dN,av N]at j;have t:(xs.map (·.1))[i]?=(Fu.map λz=>DataW.lit<|.int .u8 (z:Nat))[i]?:=by rw[y]
 rw[bK,bK,av (by omega:i<xs.length),av W]at t;have B:xs[i].1=.lit (.int .u8 (Fu[i]:Nat)):=nZ t;have E:=ae6 (p:=xs[i].2) (a:=(Fu[i]:Nat)) (by rw[j,<-B]);have w:((f.drop i).take 1)[0]?=Z (bq .u8 (Fu[i]:Nat)):=by rw[E];rfl
 simp at w;rw[ik];have K:=bI.1 w;exact K.2
def RU:∀i,i<16->∃a b:Nat,(match(Rows.laid_unicode_utf8_acceptRanges:DataW Unit)with|.agg l=>l[i]?|_=>T)=Z (.agg [.lit (.int .u8 (a:Nat)),.lit<|.int .u8 (b:Nat)])/\KE[i*2]?=Z a/\KE[i*2+1]?=Z b:=by
 intro i e;have:i=0\/i=1\/i=2\/i=3\/i=4\/i=5\/i=6\/i=7\/i=8\/i=9\/i=10\/i=11\/i=12\/i=13\/i=14\/i=15:=N;rcases this with rfl|rfl|rfl|rfl|rfl|rfl|rfl|rfl|rfl|rfl|rfl|rfl|rfl|rfl|rfl|rfl<;>exact⟨_,_,O,O,O⟩
def aaN{h2:cZ}(h:nI (λ_=>()) Tryz.prog h2 base sp held fuel 354 f=Z (Rows.laid_unicode_utf8_acceptRanges,p)):f=KE.map λz=>bq .u8 (z:Nat):=by
 have⟨xs,m,_,ex,hl,hn,hel⟩:=DataW.trod_array Tryz.underlying354 h;have t:Tryz.prog.cellsOf 353=2:=fT;have w:Tryz.prog.cellsOf 354=32:=fT;have y:KE.length=32:=jq;have K:Rows.laid_unicode_utf8_acceptRanges=.agg (xs.map (·.1)):=(Prod.mk.inj ex).1;rw[w]at hl;apply ja
 .rw[hl,aK,y]
 intro i I W;rw[aK]at W;have⟨a,b,e,q2,q3⟩:=RU (i/2) N;rw[K]at e;have e:(xs.map (·.1))[i/2]?=Z (.agg [.lit (.int .u8 (a:Nat)),.lit<|.int .u8 (b:Nat)]):=e;rw[bK,av (by omega:i/2<xs.length)]at e;have e:xs[i/2].1=.agg [.lit (.int .u8 (a:Nat)),.lit<|.int .u8 (b:Nat)]:=nZ e;have B:=hel (i/2) N;rw[t,av N]at B;have M:=ag5 (p:=xs[i/2].2) (a:=(a:Nat)) (b:=(b:Nat)) (by rw[B,<-e]);have E:∀j,j<2->((f.drop<|i/2*2).take 2)[j]?=[bq .u8 (a:Nat),bq .u8 (b:Nat)][j]?:=λj _=>by rw[M]
 rw[ik];have x:i %2=0\/i %2=1:=N;rcases x with h8|h8
 .have g:=E 0 N;rw[iB,jj N,qV,show i/2*2+0=i by omega,av I]at g;rw[show i/2*2=i by omega,av W]at q2;have:=eF g;rw[this,eF q2]
 .have g:=E 1 N;rw[iB,jj N,qV,show i/2*2+1=i by omega,av I]at g;rw[show i/2*2+1=i by omega,av W]at q3;have:=eF g;rw[this,eF q3]
def ag6{H:R}(h:H.cell r o=Z v):∃ty,Ah H r ty:=by
 unfold R.cell at h;cases e:H.obj r with
 |row az=>exact⟨az.ty,az,e,O⟩
 |_=>rw[e]at h;cases h
theorem ag7{enc:aH×D->H}{h2:cZ}{d:DataW H}(hv:nI enc Tryz.prog h2 0 (λ_=>F) F fuel 22 [v]=Z (d,p)):
 ∃(a:aC Addr)(c:Nat)(l:C Int)(ty:aH),jJ (λ_=>True) ty (Bp h2 T0) a l.length 1 (l.map vi)/\Hd a l.length c/\VR (Bl h2<|Bp h2 T0) (u a l.length c) v:=by
 have c3:Tryz.prog.cellsOf 3=1:=fT;rcases open_slice1 Tryz.underlying22 c3 hv with⟨I,W⟩|⟨a,len,ab,m,n,V,ag,Pl,I,hb,hl,hm,K,M,Q⟩
 .cases I;exact⟨T,0,[],3,jJ.nil _ _ _ _ _,.inl ⟨O,O,O⟩,.sc _ O⟩
 .cases I;rw[jj O]at K;subst K;rcases gK m with rfl|hpos
  .obtain rfl:len=0:=N;exact⟨Z ⟨0,0,T⟩,0,[],3,jJ.nil _ _ _ _ _,.inr ⟨0,0,O,ax _,bD _⟩,.xy _ _⟩
  .have⟨b,off,spot⟩:=a
   have X:spot=T:=by
    have h3:=World.cell?_spot (Q 0 hpos).1;simpa [Addr.add]using h3
   subst X
   have Og:∀i,i<m->∃z:Int,V i=vi z:=by
    intro i w;have⟨z,e1,_,_⟩:=DataW.trod_int Tryz.underlying3 (Q i w).2;simp at e1;exact⟨z,e1⟩
   have B:∀i,∃z:Int,i<m->V i=vi z:=λi=>by
    by_cases h:i<m
    .have⟨z,hz⟩:=Og i h;exact⟨z,λ_=>hz⟩
    .exact⟨0,λhh=>absurd hh h⟩
   let P:Nat->Int:=λi=>jM<|B i
   have hf:∀i,i<m->V i=vi (P i):=λi=>mZ<|B i
   have g:∀i,i<m->b<h2.heap.size/\(Bp h2 T0).cell b (off+i)=Z (vi<|P i):=by
    intro i w;have Y:=(Q i w).1;rw[Addr.add_lit,hf i w]at Y;exact Pz O Y O
   have y:=(g 0 hpos).1;have⟨ty,hty⟩:=ag6 (g 0 hpos).2;have E:m<=9223372036854775807:=hm;have U:((dZ len).map P).length=len:=by rw[aK,l7]
   refine⟨Z ⟨b,off,T⟩,m,(dZ len).map P,ty,⟨⟨by rw[aK];omega,λi x M=>?_⟩,λr o e _=>by cases e;exact⟨trivial,y,hty⟩⟩,.inr ⟨b,off,O,N,E⟩,by rw[U];exact X8 y E hl⟩;rw[uH,bK]at M;cases hr:(dZ len)[i]? with
   |none=>rw[hr]at M;cases M
   |some j=>
    rw[hr]at M;obtain⟨hj,rfl⟩:=bI.1 hr;cases M;rw[kF];rw[l7]at hj;exact⟨b,off,O,y,(g i N).2⟩
end Go.Proofs.Lu
namespace Go.Proofs.Lv
open Go.Proofs.Lu Go.Proofs.Lu.Wk
open Go.Ae Go.Ae.hx
variable{a b:aC Addr}{c n:Nat}
section
variable{ty:aH}{H0 H:R}{L hx:C eB}{S au:C Nat}{ay F':Nat->Prop}{A:At}{q q':AV}{ev sv:D}{sb:C Bool}{rw' most:Nat}{l:C Int}{ta:aC Addr}{tc d:Nat}{h2 V:C Nat}
structure Sd(H:R)(a:aC Addr)(c:Nat)(l:C Nat):Prop where
 cs:Fl H a (J l) 1 (l.map zJ)
 w:∀w∈l,w<2^64
 d:Hd a (J l) c
def aku{m:Nat}(h:Hd a n c)(e:m<=n):∃c',R4 1 (u a n c) T (Z<|B m) T=Z (u a m c'):=by
 rcases h with⟨rfl,rfl,rfl⟩|⟨r,o,rfl,I,W⟩
 .obtain rfl:m=0:=Nat.le_zero.1 e;exact⟨0,O⟩
 .refine⟨c,?_⟩;show cr (gW c) (gd (aD 0 m&&aD m c&&aD c c&&F)<|Z<|u (Z ⟨r,sS c 0 o 1,T⟩) (dQ m 0)<|dQ c 0) _=_;have g:sS c 0 o 1=o:=by unfold sS;cases aB c 0<;>rfl
  rw[show gW c=F from aG W,oh,aG<|bD _,aG<|aQ e I,aG<|ax _,g];rfl
def Sd.bit(h:Sd H a c h2)(hl:J h2<=20):tT H (u a (J h2) c) h2:=⟨a,c,O,h.cs,N,h.w,λm e=>aku h.d e⟩
def ape(a:Bool)(i j:Nat):mW Pg .eql 4 (.tmp i) (.tmp j) (aR a) (aR a)=Z (aR F):=by cases a<;>kernel_rfl
def offerGrows(hw:Wf H)(hT:Dj H)(s:aZ)(hf:jJ F' ty H ta (J l) 1<|ints l)(I:Sd H a c h2)(W:Sd H b d V):
 bQ Pg X 8 [aJ s,u ta (J l) tc,dP ⟨[u a (J h2) c,u b (J V) d]⟩] H (Q1 (λv _=>v=aR F) H):=by
 have G:=h_ hw;refine lq [0,1,2,5,6,7,10,11,12,13,14,15] ?_;refine G.box O λH1 ra G=>?_;have G:SH [] H H1 [(ra,95,[u a (J h2) c,u b (J V) d])]:=G;have b3:=G.lo _<|aL ..
 have bx:=G.ext.bU;refine G.cm (Xf G.wf (Dr.of<|hT.ex G.ext) s) ?_;rintro v H2 ⟨x,at',g,ok,rfl,ha,hg,bz⟩ M G;have bf:=G;have G:=h_ bf.wf;refine bM ?_;refine G.jP λH3 b5 G=>?_;refine G.jP λH4 b6 G=>?_;refine G.whole 1 O O ha λH5 la ea na G=>G.whole 0 O O hg λH6 lg eg ng G=>?_;have a3:=G.ext;have G:=SH.frame (hx:=[]) bf G;have G:SH [] H H6 [(b6,38,lg),(b5,27,la),(ra,95,[u a (J h2) c,u b (J V) d])]:=G;have y:∀{Q:R}{K:D->R->Prop},Ext H Q->K (aR F) Q->bQ Pg X 33 [] Q K:=λb4 k=>bQ.orc (ajf<|hT.ex b4) k;refine aW (λc=>?_) λc=>?_
 .refine y G.ext<|Lu.rr ?_;exact⟨O,G.ext⟩
 refine aW (λbp=>?_) λbp=>?_
 .refine y G.ext<|Lu.rr ?_;exact⟨O,G.ext⟩
 refine dA (v:=bG<|Z ⟨ra,0,T⟩) O<|fJ ?_;refine aW (λc1=>?_) λc1=>?_
 .refine y G.ext<|Lu.rr ?_;exact⟨O,G.ext⟩
 refine dA (v:=bG<|Z ⟨ra,1,T⟩) O<|fJ ?_;refine aW (λc2=>?_) λc2=>?_
 .refine y G.ext<|Lu.rr ?_;exact⟨O,G.ext⟩
 obtain⟨A,rp,rw,c0,b0,q,q',ev,sv,sb,S',ho,a8,cj,UR,b8,rfl,rfl,bw,hk,a6,j⟩:=bz c;have⟨S2,Nj,apf⟩:=j.own;have Nj:∀r∈S2,r∈S':=λr hr=>(Nj r hr).1.resolve_right<|fH (Nj r hr).2;have j:=apf [] H6 a3 nofun;have R7:GU (λr=>c0<=r/\r<b0) H6 rw A q' ev sv sb:=hk.stay a3 nofun;have a5:∀r,c0<=r/\r<b0->r<H6.bU/\r∉S2:=λr h=>⟨aO h.2<|aQ bw a3.bU,λhr=>fI (a6 r<|Nj r hr).1 h.2⟩;have a0:A.ty<=65536:=N;have rm:=Rm.bg a8;have ac:∀r∈S2,H.bU<=r:=λr hr=>aQ bx (a6 r<|Nj r hr).2.1;refine tl ?_;refine VQ 11 (h1:=λm je Q=>∃i:Nat,je=B i/\i+m=J l/\Sm S2 H6 Q rp rw (Bg A) A ((ah.new A).all A<|l.take i)) ?_ (J l) ⟨0,rfl,bB _,j⟩;rintro m je E H7 ⟨i,rfl,hi,j⟩;have bl:Ext H H7:=G.ext.later j.ext λr hr=>.inr<|ac r hr;refine lX (λhc=>?_) λhc=>?_
 .obtain rfl:i=J l:=N;rw[kI]at j
  have G:=(fU (A:=[_,_]) G).past j.ext (λr hr=>.inr<|ac r hr) λe he hm=>by
   rw[aT.1 he]at hm;exact fI (a6 ra<|Nj ra hm).2.1 b3.2
  have hz:=ah.V.all (A:=A) ho l _<|ah.V.new ho;have ab:=ah.aeN (A:=A) l<|ah.new A;rw[show(ah.new A).long=0 from O]at ab;generalize(ah.new A).all A l=z at j hz ab;have bj:=R7.stay j.ext λr hr h=>(a5 r h).2 hr;have bd:∀r,c0<=r/\r<b0->r<H7.bU:=λr h=>aO (a5 r h).1 j.ext.bU;have bh:bnd A z.long<=8000000:=aQ (GN N) rm.b;have be:Lim A z.long 9223372036854775807:=⟨N,bh,aQ (gM _ N) rm.s⟩;have bi:=aQ hz.cs bh
  have bc:∀U,(yH A U z).ht.length<=5592404:=λU=>by
   have g1:=W_ (hd:=hasB U) (em:=A.Em) ho hz.w.s0 hz.w.fr;have g2:A.ns*(z.long+1)<=300*31:=jh a8 N;have g3:(A.ns*(z.long+1)+1)*A.tot<=9301*600:=jh N N;exact aQ g1 N
  have b1:=I.bit N;have b2:=W.bit N;refine tl<|dA (v:=bG<|Z ⟨ra,0,T⟩) O ?_;refine fJ ?_;refine dD (cof (ne:=aA) ho a0 bj bd j hz.w (b1.ex bl) tT.nil be bi<|bc h2) ?_;rintro _ H8 ⟨BK,T1,R1,_,_,⟨cw,cq,b9,cg,rfl,am,P,_,p1,rfl⟩,t1,r1,_⟩;obtain⟨cA,cD,rfl,_⟩:=id am;obtain⟨cF,cH,rfl,_⟩:=id P;have G:=G.call BK;refine bM ?_;refine G.oV O O O λH9 ck G Kt=>dA (v:=bG<|Z ⟨ra,0,T⟩) O ?_;refine fJ ?_;refine dA (v:=bG<|Z ⟨ra,1,T⟩) O<|G.qF<|dD (orS G.wf (b1.ex G.ext)<|b2.ex G.ext) ?_;rintro _ CF ⟨⟨U,bu,hU⟩,uR⟩;have bu:=bu.s;obtain⟨ua,uc,rfl,_⟩:=id bu;have G:=G.call uR;refine fJ ?_;have a1:=BK.trans<|Kt.trans uR;refine dD (cof (ne:=aA) ho a0 (bj.stay a1 nofun) (λr h=>aO (bd r h) a1.bU) (j.ex a1) hz.w bu tT.nil be bi<|bc U) ?_;rintro _ Ry ⟨a9,T2,R2,_,_,⟨cy,cu,ca,ci,rfl,an,Y,_,p2,rfl⟩,t2,r2,_⟩;obtain⟨cC,cE,rfl,_⟩:=id an;obtain⟨cG,cI,rfl,_⟩:=id Y;have G:=G.call a9;refine bM ?_;refine G.oV O O O λUq cn G a2=>?_;refine bM ?_;refine aW (λ_=>?_) λh=>absurd trivial h;refine aW (λ_=>?_) λh=>absurd trivial h;refine fJ ?_;have ad:∀r,hasB h2 r=F->hasB U r=F:=λr h=>by rw[hU,h];rfl
  have tt:∀t,hasB T2 t=F->hasB T1 t=F:=λt h=>(t1 t).2 ⟨aeK ho hz.w ad ((t2 t).1 h).1,by simp[hasB]⟩;have rs:∀r,hasB R2 r=F->hasB h2 r=F->hasB R1 r=F:=λr h h'=>(r1 r).2<|aeL ho hz.w ad ((r2 r).1 h) h';have ba:=Kt.trans<|uR.trans<|a9.trans a2;have am:=am.ex ba;have P:=P.ex ba;have an:=an.ex a2;have Y:=Y.ex a2;refine dD (aeH (oU Uq) (an.ex<|Ext.hN Uq)<|am.ex<|Ext.hN Uq) ?_;rintro _ ar ⟨⟨U1,ao,br⟩,al⟩;have bm:Df Uq ar=cl 1:=gJ al;have ao:tT (hM Uq ar) _ U1:=ao.s;have G:=G.oI al;have P:=P.ex al.draw;have Y:=Y.ex al.draw;generalize hM Uq ar=H14 at G ao P Y|-;refine dD (aeI (ao.ex<|Ext.hN H14) λt=>?_) ?_
  .rw[br];cases h:hasB T2 t
   .rfl
   .rw[tt t h];rfl
  rintro _ ag ⟨rfl,rfl⟩;refine bM ?_;refine aW (λ_=>?_) λh=>absurd trivial h;refine fJ ?_;refine dA (v:=bG<|Z ⟨ra,0,T⟩) O<|fJ ?_;refine dD (aoY (oU H14) (Y.ex<|Ext.hN H14)<|b1.ex<|G.ext.trans'<|Ext.hN H14) ?_;rintro _ ag ⟨⟨U2,ap,bt⟩,a4⟩;have bn:Df H14 ag=cl 1:=gJ a4;have ap:tT (hM H14 ag) _ U2:=ap.s;have G:=G.oI a4;have P:=P.ex a4.draw;generalize hM H14 ag=H16 at G ap P|-;refine fJ ?_;refine dD (aeH (oU H16) (ap.ex<|Ext.hN H16)<|P.ex<|Ext.hN H16) ?_;rintro _ aE ⟨⟨U3,aq,bv⟩,bb⟩;have bo:Df H16 aE=cl 1:=gJ bb;have aq:tT (hM H16 aE) _ U3:=aq.s;have G:=G.oI bb;generalize hM H16 aE=H18 at G aq|-;refine dD (aeI (aq.ex<|Ext.hN H18) λt=>?_) ?_
  .rw[bv,bt];cases h:hasB R2 t
   .rfl
   .cases h':hasB h2 t
    .rfl
    .rw[rs t h h'];rfl
  rintro _ b7 ⟨rfl,rfl⟩;refine bM ?_;refine aW (λ_=>?_) λh=>absurd trivial h;refine fJ ?_;refine dA (ape ..)<|bM ?_;refine y (G.ext.trans'<|Ext.hN H18)<|ji (by simp only[fu,gJ<|Ext.refl<|hN _,bm,bn,bo];rfl) ?_;refine Lu.rr ?_;refine G.lJ ?_;exact⟨O,G.ext⟩
 have a7:i<J l:=N;refine(hf.ex bl).ix (v:=vi l[i]) a7 (ints_at a7) λp=>?_;have hz:=ah.V.all (A:=A) ho (l.take i) _<|ah.V.new ho;have ab:=ah.aeN (A:=A) (l.take i)<|ah.new A
 have ab:((ah.new A).all A<|l.take i).long<=i:=by
  rw[show(ah.new A).long=0 from O,dX]at ab;omega
 have⟨hL,hst⟩:=rm.lim hz.w N;refine dD (aj7 ho a0 R7 a5 j hz.w hL hst rm.m N _) ?_;rintro _ H8 ⟨rfl,j⟩;refine eG ?_;refine⟨J l-(i+1),N,_,_,_,O,i+1,pJ,N,?_⟩;rw[dY,av a7];exact(ah.ad8 (A:=A) (l.take i) l[i]<|ah.new A)▸j
end
end Go.Proofs.Lv
namespace Go.Proofs.Lu
open Go.Proofs.YtpngmpbmokhmiaaGreatDoor Go.Ae Go.ChangeShapes Go.WideShapes Go.ChangeAt Go.RowKit Go.Deep
def ae9{H:Type}{enc:aH×D->H}{h2:cZ}{fuel:Nat}{v:D}{d:DataW H}{p:C MemPlace}(hv:nI enc Tryz.prog h2 0 (λ_=>F) F fuel 51 [v]=Z (d,p)):
 ∃(a:aC Addr)(c:Nat)(l:C Nat),Lv.Sd (Bp h2 T0) a c l/\VR (Bl h2<|Bp h2 T0) (u a l.length c) v:=by
 have c3:Tryz.prog.cellsOf 105=1:=fT;rcases open_slice1 Tryz.underlying51 c3 hv with⟨I,W⟩|⟨a,len,ac,m,n,V,ag,Pl,I,hb,hl,hm,P,M,U⟩
 .cases I;exact⟨T,0,[],⟨Fl.nil _ _ _,nofun,.inl ⟨O,O,O⟩⟩,.sc _ O⟩
 .cases I;rw[jj O]at P;subst P;rcases gK m with rfl|hpos
  .obtain rfl:len=0:=N;exact⟨Z ⟨0,0,T⟩,0,[],⟨Fl.nil _ _ _,nofun,.inr ⟨0,0,O,ax _,bD _⟩⟩,.xy _ _⟩
  .have⟨b,off,spot⟩:=a
   have ab:spot=T:=by
    have h3:=World.cell?_spot (U 0 hpos).1;simpa [Addr.add]using h3
   subst ab
   have Og:∀i,i<m->∃z:Nat,V i=Lv.zJ z/\z<2^64:=by
    intro i t;have⟨z,e1,_,Q⟩:=DataW.trod_int Tryz.underlying105 (U i t).2;simp at e1;have Q:(decide (IntKind.u64.min<=z)&&decide (z<=IntKind.u64.max))=F:=Q;rw[bE,nS,nS]at Q;have e4:(0:Int)<=z/\z<=18446744073709551615:=Q;exact⟨z.toNat,by rw[e1];show bq .u64 z=.int .u64 (z.toNat:Int);rw[Int.toNat_of_nonneg e4.1],N⟩
   have E:∀i,∃z:Nat,i<m->V i=Lv.zJ z/\z<2^64:=λi=>by
    by_cases h:i<m
    .have⟨z,hz⟩:=Og i h;exact⟨z,λ_=>hz⟩
    .exact⟨0,λhh=>absurd hh h⟩
   let y:Nat->Nat:=λi=>jM<|E i
   have hf:∀i,i<m->V i=Lv.zJ (y i)/\y i<2^64:=λi=>mZ<|E i
   have g:∀i,i<m->b<h2.heap.size/\(Bp h2 T0).cell b (off+i)=Z (Lv.zJ<|y i):=by
    intro i t;have h4:=(U i t).1;rw[Addr.add_lit,(hf i t).1]at h4;exact Pz O h4 O
   have B:=(g 0 hpos).1;have K:m<=9223372036854775807:=hm;have Y:((dZ len).map y).length=len:=by rw[aK,l7]
   refine⟨Z ⟨b,off,T⟩,m,(dZ len).map y,⟨⟨by rw[aK];omega,λi x M=>?_⟩,λw hw=>?_,.inr ⟨b,off,rfl,N,K⟩⟩,by rw[Y];exact X8 B K hl⟩
   .rw[uH,bK]at M;cases hr:(dZ len)[i]? with
    |none=>rw[hr]at M;cases M
    |some j=>
     rw[hr]at M;obtain⟨X,rfl⟩:=bI.1 hr;cases M;rw[kF];rw[l7]at X;exact⟨b,off,O,B,(g i N).2⟩
   .obtain⟨j,X,rfl⟩:=bP.1 hw;exact(hf j (by have:=jT.1 X;omega)).2
end Go.Proofs.Lu
namespace Go.Proofs.YtpngmpbmokhmiaaGreatDoor
open Go.Ae Go.Proofs.Lu Go.ChangeShapes Go.WideShapes Go.ChangeAt Go.RowKit Go.Deep
variable{p p1 p2:List MemPlace}{H:Type}{v:D}{n:Nat}
def own:ownKnob Tryz.prog.godebug=T:=fT
def laidOut:laidOutB Tryz.prog=F:=fT
theorem ahj{h2:cZ}(h:laidMetH Tryz.prog Rows.offerGrowsRow.laid h2):Lu.Laid h2:=by
 rw[MakeChecks.laidMetH_plain _ _ _ (fT)]at h;obtain⟨ps,⟨ga,ta,csa,fa,pa,qa,hga,IL,hva,hda,⟨gb,tb,csb,fb,pb,qb,hgb,htb,hvb,hdb,_⟩,_⟩,_,_⟩:=h;obtain rfl:=eF<|(show Tryz.prog.globalNamed "unicode/utf8.acceptRanges" =Z 2 by kernel_rfl).symm.trans hga;obtain rfl:=eF<|(show Tryz.prog.globalNamed "unicode/utf8.first" =Z 1 by kernel_rfl).symm.trans hgb;obtain rfl:=eF<|(show(Tryz.prog.globals[2]?).map (·.type)=Z 354 by kernel_rfl).symm.trans IL;obtain rfl:=eF<|(show(Tryz.prog.globals[1]?).map (·.type)=Z 351 by kernel_rfl).symm.trans htb
 have block:∀{n:String}{g:Nat}{f:Array D},Tryz.prog.globalNamed n=Z g->h2.var? Tryz.prog n=Z f->∃ty fr,h2.heap[g]?=Z (.cells f ty fr):=by
  intro n g f hg hv;simp only[World.var?,hg,Option.bind_some]at hv;split at hv
  .next cs' ty fr hh=>cases hv;exact⟨ty,fr,hh⟩
  .cases hv
 obtain⟨tya,fra,ba⟩:=block hga hva;obtain⟨tyb,frb,bb⟩:=block hgb hvb;refine⟨?_,⟨tyb,csb,frb,bb,ae7 hdb⟩,⟨tya,csa,fra,ba,aaN hda⟩⟩;have:=(eZ.1 ba).1;omega
def ahk{enc:aH×D->H}{h2:cZ}{d:DataW H}(h:DataW.Trod enc Tryz.prog h2 0 (λ_=>F) F 95 v d p){f:Array D}(X:v=.agg f):
 ∃(a b:Option Addr)(c e:Nat)(l m:List Nat)(x y:D),v=.agg ⟨[x,y]⟩/\Lv.Sd (Bp h2 T0) a c l/\VR (Bl h2<|Bp h2 T0) (u a l.length c) x/\Lv.Sd (Bp h2 T0) b e m/\VR (Bl h2<|Bp h2 T0) (u b m.length e) y:=by
 subst X;obtain⟨fuel,U⟩:=h;have B:Tryz.prog.cellsOf 51=1:=fT;have E:Tryz.prog.cellsOf 95=2:=fT;obtain⟨xs,m,_,ex,w,W,g⟩:=DataW.trod_array Tryz.underlying95 U;rw[E]at w;obtain⟨l⟩:=f;have w:l.length=2:=w
 match l,w with
 |[x,y],_=>
  have j:=g 0 N;have t:=g 1 N;rw[B,av N]at j t
  match xs,W,j,t with
  |[(d0,p0),(d1,p1)],_,j,t=>
   have K:nI enc Tryz.prog h2 0 (λ_=>F) F m 51 [x]=Z (d0,p0):=j;have M:nI enc Tryz.prog h2 0 (λ_=>F) F m 51 [y]=Z (d1,p1):=t;obtain⟨a,c,Y,I,P⟩:=ae9 K;obtain⟨b,e,l1,Q,T⟩:=ae9 M;exact⟨a,b,c,e,Y,l1,x,y,O,I,P,Q,T⟩
def Xh{P:aX}{w:cZ}{r:Reach}{base:Nat}{t e:aH}(ht:P.underlying t=Z (.array n e))(h:Value.okWide P w r base t v):∃f,v=.agg f:=by
 unfold Value.okWide at h;rw[ht]at h;obtain⟨f,I,_⟩:=h;exact⟨f,I⟩
def ahl{h2:cZ}(M:Lu.Laid h2)(s:ByteArray){enc:aH×D->H}{E K:D}{d1 d2:DataW H}(I:DataW.Trod enc Tryz.prog h2 0 (λ_=>F) F 22 E d1 p1)(o1:∃a n c,E=u a n c)(W:DataW.Trod enc Tryz.prog h2 0 (λ_=>F) F 95 K d2 p2)(o2:∃f,K=.agg f):Calls Tryz.prog 8 #[.string s,E,K] h2 λe w'=>e=.returned (.bool F)/\Below h2.heap.size h2 w':=by
 have B:Wf (Bp h2 T0):=ax _;obtain⟨xa,xn,xc,rfl⟩:=o1;obtain⟨fuel,hd⟩:=I;obtain⟨a,c,l,ty,hf,hr,hv⟩:=ag7 hd;obtain⟨f,o2⟩:=o2;obtain⟨U,Y,c1,c2,N,T,x,y,rfl,g,t,j,w⟩:=ahk W o2;refine Z0 (P:=Tryz.prog) (X:=X) (H:=Bp h2 T0) (b:=F) (args:=[.string s,u a l.length c,.agg ⟨[u U N.length c1,u Y T.length c2]⟩]) M.size mixed (Ei.abW fns) xs ors Tryz.func8 (fT) ?_ (ax _) (aga λr o h=>nomatch h) (args':=[.string s,u xa xn xc,.agg ⟨[x,y]⟩])<|.cons _ _ _ _ (.sc _ O)<|.cons _ _ _ _ hv<|.cons _ _ _ _ (.agg _ _<|.cons _ _ _ _ t<|.cons _ _ _ _ w .nil) .nil;exact(Go.Proofs.Lv.offerGrows B M.tabs s hf g j).mono λv Q h=>⟨h.1,h.2.low _ (ax _) (ax _) λr h=>nomatch h⟩
def lifted(os:Os)(B:os.Started)(H:Type)(enc:aH×D->H):
 ReturnsInHanded {} Tryz.checked os 8 .any (λw args=>(Rows.offerGrowsSpec.pre enc Tryz.prog Tryz.f8 [] aA w args/\laidMetH Tryz.prog Rows.offerGrowsRow.laid w)/\sizedMet enc Tryz.prog Tryz.f8 (OpenSpec.ofChange Rows.offerGrowsSpec) aA w args)
  (Rows.offerGrowsSpec.post enc Tryz.prog Tryz.f8 aA F aA aA):=by
 refine returnsInHanded_of_change_and (C:=Tryz.checked) (X:=λw _=>laidMetH Tryz.prog Rows.offerGrowsRow.laid w) (λ_ _ _ hh h=>h.of_heap hh) own B (fT) Tryz.func8
  (ChangeSpec.witness_shaped (enc:=enc) (C:=Tryz.checked) (os:=os) (X:=λw _=>laidMetH Tryz.prog Rows.offerGrowsRow.laid w) aA (World.laidAll Tryz.prog os Rows.offerGrowsRow.laid) #[.string ⟨#[]⟩,u T 0 0,.agg #[u T 0 0,u T 0 0]] 8 (World.laidAll_os _ _ _)
   (World.shaped_of_ZipB (fT)<|fT) (fT) (fT) (fT)
   (by rw[MakeChecks.laidMetH_plain _ _ _ (fT)];exact laidMet_laidAll _ (fT)<|fT)) ?_
 intro h2 base args ds gs Q N hW _ ac hL _;have y:∀(j:Nat) t v,Tryz.f8.params[j]?=Z t->args[j]?=Z v->Value.okWide Tryz.prog h2 .any base t v:=N;have K:=hW;obtain⟨p,q,Y,hV,rfl,_,_⟩:=hW;have hA:DataW.TrodAll enc Tryz.prog h2 0 (λ_=>F) F Tryz.f8.params.toList args.toList ds p:=Y;rw[Tryz.params8]at hA y ac;obtain⟨v0,am,d0,ad,U,q0,ab,rfl,rfl,h0,r0⟩:=trodAll_cons hA;obtain⟨v1,an,d1,ag,p1,q1,rfl,rfl,rfl,I,r1⟩:=trodAll_cons r0;obtain⟨v2,ao,d2,al,p2,q2,rfl,rfl,rfl,W,r2⟩:=trodAll_cons r1;obtain⟨rfl,rfl,rfl⟩:=trodAll_nil r2;obtain rfl:args=#[v0,v1,v2]:=by cases args;simp_all
 obtain⟨rfl,rfl⟩:=trodVars_none hV;simp only[bF]at K;obtain⟨fuel,hd⟩:=id h0;obtain⟨s,rfl⟩:=okWide_string Tryz.underlying9<|y 0 9 v0 O O;refine(ahl (ahj hL) s I (okWide_slice Tryz.underlying22<|y 1 22 v1 O O) W<|Xh Tryz.underlying95<|y 2 95 v2 O O).mono λe W' ⟨he,hb⟩=>?_;subst he;have P:∀x∈U++(p1++p2),x.block<h2.heap.size:=λx M=>K.lt x (by simpa using M)
 have g:∀{t:aH}{v:D}{d:DataW H}{ps:List MemPlace},Tryz.prog.readableRec t=F->t<Tryz.prog.types.size->(∀x∈ps,x∈U++(p1++p2))->DataW.Trod enc Tryz.prog h2 0 (λ_=>F) F t v d ps->DataW.Trod enc Tryz.prog W' 0 (λb=>decide<|b<h2.heap.size) F t v d ps:=λhr ht E h=>
  WideElems.Trod_stays laidOut hr ht h (λx M=>hb.same<|P x<|E x M) (λx M=>by simpa using P x (E x M))
 have g0:=g (fT) (gG<|fT) (λx M=>by simp[M]) h0;have g1:=g (fT) (gG<|fT) (λx M=>by simp[M]) I;have g2:=g (fT) (gG<|fT) (λx M=>by simp[M]) W;refine⟨_,O,_,_,_,[],U++(p1++(p2++[])),[],K,trodAll_mk1<|shut_bool Tryz.underlying4 _,trodAll_cons_mk g0<|trodAll_cons_mk g1<|trodAll_cons_mk g2 trodAll_mk0,O,?_,λh=>by cases h⟩;simp only[bF,bZ];refine World.keptBut_mono (λx M=>⟨M,?_⟩)<|hb.frame (·∈U++(p1++p2));simpa using M
def named:Tryz.pinned.checked.prog.funcNamed Rows.offerGrowsRow.func=Z 8:=fT
def aaO:Tryz.f8.isInstance Tryz.pinned.checked.prog Rows.offerGrowsRow.origin Rows.offerGrowsRow.targs:=gG<|fT
def wrapper:Tryz.f8.isWrapper Tryz.pinned.checked.prog Rows.offerGrowsRow.wrapper Rows.offerGrowsRow.mainSum:=by
 unfold Func.isWrapper
 first|(rw[jj (by decide +kernel)];kernel_rfl)|(rw[jk (by decide +kernel)];exact⟨O,O⟩)
def holds:Rows.OfferGrowsSaid:=
 OpenClaim.holds_of_wide 8 Tryz.f8 rfl rfl rfl rfl rfl rfl rfl ⟨rfl,rfl,rfl,rfl,rfl⟩ rfl rfl rfl rfl rfl named Tryz.func8 closed aaO wrapper (λj e H g _=>lifted j e H g)
def ahm:Rows.offerGrowsRow.wfByText (OpenSpec.ofChange Rows.offerGrowsSpec)=F:=fT
def aaP:Tryz.pinned.checked.prog.mainIs=Z (F, "c7ba5974f1e424090d746d4cc289330a9863f6ddbae9006ee732232eac0b4017".toList):=fT
def Xi:Tryz.prog.funcNamed "souffleur/souffleurlaw24.OfferGrows" =Z 8:=fT
def Xj:aA=Tryz.pinned.checked.prog.looks []:=fT
def Xk:([9,22,95].all λai=>!Tryz.prog.wantsStandIn ai)=F:=fT
def aaQ:aA=Rows.offerGrowsRow.goesBy Tryz.pinned.checked.prog:=fT
theorem offerGrows_card:Rows.OfferGrowsCardSaid:=
 Claim7.holds_tied_plain_at .later [] [.data,.pinned] F (F, "c7ba5974f1e424090d746d4cc289330a9863f6ddbae9006ee732232eac0b4017") aA holds (λ_ h=>by cases h) ahm (λ_ h=>by cases h) offerGrows_row_tie rfl ⟨rfl,rfl⟩ aaP rfl
  (λcs fn hf hfn=>by
   obtain rfl:cs=8:=eF (Xi.symm.trans hf)|>.symm;obtain rfl:fn=Tryz.f8:=(eF<|Tryz.func8.symm.trans hfn).symm
   exact⟨Xj,λj t ht=>by
    rw[Tryz.params8]at ht;have hm:t∈[9,22,95]:=by simpa using Array.mem_of_getElem? ht
    exact(show Tryz.prog.wantsStandIn t=aA by simpa using fE.1 Xk t hm)⟩)
  aaQ
#print axioms offerGrows_card
end Go.Proofs.YtpngmpbmokhmiaaGreatDoor
