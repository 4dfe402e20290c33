/-
  Part 17 of the proof. No condition.
-/
import Derived.Test.YtpngmpbmokhmiaaGreatDoorZ13
import Derived.Test.YtpngmpbmokhmiaaGreatDoorZ16
set_option linter.unusedVariables false
set_option linter.unusedSimpArgs false
set_option maxRecDepth 100000
set_option maxHeartbeats 4000000
set_option linter.defProp false
open Option renaming some->Z,none->W
open Bool renaming true->f,false->aA
open Go renaming Value->D,TypeId->aG
open Go.Value renaming slice->T,agg->Ru
open List renaming range->fZ
noncomputable section
namespace Go.Proofs.Lv
open Go.Proofs.Lu Go.Proofs.Lu.Wk
open Go.Ae Go.Ae.SH
variable{ta:Option Addr}{sb:List Bool}{l:List Int}{F':Nat->Prop}{ai:List Nat}{b most n rw' tc:Nat}{L SH:List dJ}{A:At}{q q':AV}{H H0:F}{sv:D}
section
variable{S:List Nat}{ax:Nat->Prop}{ev:D}
def zU.le{b':Nat}(h:zU (b<=·) H rw' A q ev sv sb)(hb:b'<=b):zU (b'<=·) H rw' A q ev sv sb:=⟨⟨aX hb h.k.1,h.k.2⟩,h.b,h.a.wk λr R=>aX hb R,let⟨sa,sc,e,hf⟩:=h.s;⟨sa,sc,e,hf.le hb⟩,h.l,h.on⟩
def rX.same(h:rX ax H A q)(ho:A.Ok):∀v∈q.cells A,nI v v=f:=by
 have key:∀{ty:aG}{a:Option Addr}{n c:Nat}{E:List D},i_ ax ty H a n 1 E->0<n->nI (T a n c) (T a n c)=f:=λ{ty a n c E} hf hn=>by
  obtain⟨r,o,e1,R,hcl,o0,e0,_⟩:=hf.1.idx (c:=c) N hn;exact oQ _ _ _ λx J=>by rw[e0]at J;cases J;rfl
 obtain⟨evs,he,_⟩:=h.e;have h0:=(ho.s 0 ho.pos).1;intro v hv;simp only[AV.cells,bM,dW,iD]at hv;rcases hv with rfl|rfl|rfl|rfl|rfl|rfl
 .exact key h.n ho.pos
 .exact key h.s ho.pos
 .exact key h.p ho.pos
 .exact key h.o N
 .exact key he N
 .exact vC _ _
def amd(hw:Wf H):aJ Pg X 21 [.agg ⟨LY⟩] H (Q1 (λv _=>∃w c,v=.tuple ⟨[w,vi c]⟩) H):=by
 have G:=M.refl hw;refine ce [0,1,2,3,4,6,8,33,34,35] ?_;refine tl ?_;refine G.box O λH1 u G=>?_;refine G.iK ?_;refine aJ.mono (ahE G.wf) ?_;rintro v H2 ⟨⟨z,rfl⟩,J⟩;have G:=G.call J;refine aY ?_;refine bT (λ_=>?_) λc=>absurd c (by decide);refine iB O<|rr ?_;exact⟨⟨_,_,O⟩,G.ext⟩
def Fla(n:Nat)(v:D):Prop:=∃l,v=.agg ⟨l⟩/\bI v=l/\l.length=n/\all' fB l=f
def Un(hw:Wf H)(hT:Bt H)(s:ByteArray):aJ Pg X 9 [.string s] H (Q1 (λv C=>∃(w a g:D)(ok:Int),v=.tuple ⟨[w,a,g,vi ok]⟩/\Fla 6 a/\Fla 9 g/\(ok≠0->∃(A:At)(rw:Nat)(q q':AV)(ev sv:D)(sb:List Bool),At.Ok A/\A.ns<=300/\A.ty<=5000/\rX (λ_=>True) C A q/\w=pr rw/\a=q.v A/\zU (H.next<=·) C rw A q' ev sv sb)) H):=by
 have G:=M.refl hw;refine ce [0,2,3,4,5,6,7,8,9,10] ?_;refine tl ?_;refine G.iZ λH1 r27 G=>?_;refine G.iZ λH2 r38 G=>?_;have hS2:=G;refine aJ.mono (Ri G.wf (hT.ex G.ext) s) ?_;rintro v H3 ⟨⟨x,ok,rfl,hx0,hx1⟩,J⟩;have G:=G.call J
 obtain⟨l6,rfl,K8⟩:∃l,x=.agg ⟨l⟩/\l.length=6/\all' fB l=f/\bI x=l:=by
  by_cases c:ok=0
  .rw[hx0 c];exact⟨LY,O,O,O,O⟩
  .obtain⟨A,_,_,_,_,q,rfl,_⟩:=hx1 c;exact⟨q.cells A,O,O,O,O⟩
 have hS0:=G;refine G.kK ?_
 obtain⟨a1,a2,a3,a4,a5,a6,rfl⟩:∃a1 a2 a3 a4 a5 a6,l6=[a1,a2,a3,a4,a5,a6]:=by
  match l6,K8.1 with
  |[a1,a2,a3,a4,a5,a6],_=>exact⟨_,_,_,_,_,_,O⟩
 refine G.nZ (by rw[K8.2.2];rfl) rfl (by rw[K8.2.2];exact K8.2.1) λH4 r6 G hx4=>?_;rw[K8.2.2]at G;have uR:=G
 have hn:aJ Pg X 21 [.agg ⟨[a1,a2,a3,a4,a5,a6]⟩] H4 (Q1 (λv C=>∃(w:D)(code:Int),v=.tuple ⟨[w,vi code]⟩/\(ok≠0->code=0->∃(A:At)(rw:Nat)(q q':AV)(ev sv:D)(sb:List Bool),At.Ok A/\A.ns<=300/\A.ty<=5000/\rX (H2.next<=·) C A q/\w=pr rw/\Ru ⟨[a1,a2,a3,a4,a5,a6]⟩=q.v A/\zU (H4.next<=·) C rw A q' ev sv sb)) H4):=by
  by_cases c:ok=0
  .rw[hx0 c];exact(amd G.wf).mono λv C ⟨⟨w,c',h⟩,J⟩=>⟨⟨w,c',h,λh=>absurd c h⟩,J⟩
  .obtain⟨A,ho,Q,I,h3,q,e,hq⟩:=hx1 c;rw[e];exact(ab9 G.wf (hq.ex hx4) ho h3).mono λv C ⟨⟨w,c',h,h4⟩,J⟩=>⟨⟨w,c',h,λ_ h5=>let⟨rw,q',ev,sv,sb,h6,h7⟩:=h4 h5;⟨A,rw,q,q',ev,sv,sb,ho,Q,I,(hq.ex<|hx4.trans J).wk λ_ h=>h,h6,rfl,h7⟩⟩,J⟩
 refine G.iK ?_;refine aJ.mono hn ?_;rintro v H5 ⟨⟨w,code,rfl,hwk⟩,hx5⟩;have G:=G.call hx5;refine aY ?_;refine aJ.mono (aj6 G.wf s) ?_;rintro v H6 ⟨⟨ra,rl,rc,na,m,nc,ta,n,tc,p,e,at',rfl,hg⟩,hx6⟩;have G:=G.call hx6;refine G.nZ O O O λH7 r10 G hx7=>?_
 have fin:∀{b:Bool}{u:Rs},Aw u 33=.bool b->(b=aA->ok≠0/\code=0/\e=0)->gJ Pg X (sub vQ [1,1,1,1,0,1]) (Aj (.string s) (.pointer W) (pr r27) (pr r38) (vi 0) (pr r6) (vi ok) w (vi code) (pr r10) u H7) (sW Pg X (sub vQ [1,1,1,1,1])<|jR Pg [.tmp 2,.cell 3 27,.cell 4 38,.tmp 5]<|Q1 (λv C=>∃(w a g:D)(ok:Int),v=.tuple ⟨[w,a,g,vi ok]⟩/\Fla 6 a/\Fla 9 g/\(ok≠0->∃(A:At)(rw:Nat)(q q':AV)(ev sv:D)(sb:List Bool),At.Ok A/\A.ns<=300/\A.ty<=5000/\rX (λ_=>True) C A q/\w=pr rw/\a=q.v A/\zU (H.next<=·) C rw A q' ev sv sb)) H):=by
  intro b u hlk hb;refine tl ?_;rw[hlk];cases b;rotate_left
  .refine d_ ?_;refine G.jE λHn G=>?_;refine G.jE λHn G=>?_;refine Lu.rr ?_;refine G.rF 3 O (az 6) ?_;exact G.rF 2 O (az 9)<|⟨⟨_,_,_,0,O,⟨_,O,O,O,O⟩,⟨_,O,O,O,O⟩,λh=>absurd O h⟩,G.ext⟩
  obtain⟨Q,rfl,rfl⟩:=hb O;obtain⟨rg,hu⟩:=(hg O).gr;refine aY ?_;refine tm ?_;refine aJ.mono (yOf (nG H7) (show GR rg TT (hN H7) _ m rl from(hu.ex hx7:GR rg TT H7 _ m rl))) ?_;rintro v H8 ⟨⟨hv,l9,rfl,c9,n9,k9⟩,Bw⟩;have G:=G.mV Bw;have n1:=G.nq 0 1 O O N;have n2:=G.nq 0 2 O O N;have n3:=G.nq 0 3 O O N;have n4:=G.nq 1 2 O O N;have n5:=G.nq 1 3 O O N;have n6:=G.nq 2 3 O O N;have hS1:M [] H (hM H7 H8) ([(r38,38,_),(r27,27,_)]):=M.drop (A:=[_,_]) G;have G:=hS1.base;refine G.lW (λDm G=>?_) (show(bI<|.agg ⟨[a1,a2,a3,a4,a5,a6]⟩).length=6 by rw[K8.2.2];rfl) (by decide) (show all' fB (bI<|.agg ⟨[a1,a2,a3,a4,a5,a6]⟩)=f by rw[K8.2.2];exact K8.2.1);refine G.lW (λOW G=>?_) (by rw[c9];exact n9) (by decide) (by rw[c9];exact k9);refine(show∀K:Prop,K->_/\K fromλKz hK=>?_) _ ?_
  .simp only[eG,fT,fK Bw];apply aai n1 n2 n3 n4 n5 n6 (by intros;rfl) (by kernel_rfl) (by kernel_rfl) hK
  have QG:=((hS1.over G).cast (L':=[(r38,38,l9),(r27,27,[a1,a2,a3,a4,a5,a6])]) (by
   rw[mZ _ _ (by rw[c9];exact n9.symm),c9,mZ _ _ (by rw[show bI (.agg ⟨List.take 6<|List.drop 0 [a1,a2,a3,a4,a5,a6]⟩)=[a1,a2,a3,a4,a5,a6]from K8.2.2];rfl),show bI (.agg ⟨List.take 6<|List.drop 0 [a1,a2,a3,a4,a5,a6]⟩)=[a1,a2,a3,a4,a5,a6]from K8.2.2]))
  obtain⟨A,rw,q,q',ev,sv,sb,f1,f2,f3,f4,rfl,f5,f6⟩:=hwk Q O;refine Lu.rr ?_;refine QG.rF 1 O (az 6) ?_;refine QG.rF 0 O (show 0+9<=l9.length by rw[n9];decide) ?_;refine⟨⟨_,_,_,1,O,⟨_,O,K8.2.2,O,K8.2.1⟩,⟨_,O,?_,?_,?_⟩,λ_=>⟨A,rw,q,q',ev,sv,sb,f1,f2,f3,((f4.ex<|(hx6.trans hx7).trans Bw.draw).stay G.ext λr R h=>?_).wk λ_ _=>trivial,rfl,f5,zU.le ((f6.stay ((hx6.trans hx7).trans Bw.draw) λr h=>nomatch h).stay G.ext λr R h=>?_) uR.ext.next⟩⟩,QG.ext⟩
  .rw[show List.take Pg.types[38].size (List.drop 0 l9)=l9 from cK<|rH n9];exact c9
  .rw[show List.take Pg.types[38].size (List.drop 0 l9)=l9 from cK<|rH n9];exact n9
  .rw[show List.take Pg.types[38].size (List.drop 0 l9)=l9 from cK<|rH n9];exact k9
  .have h:H2.next<=r:=h
   simp only[iA,jy,bM,dW,iD]at R;rcases R with rfl|rfl
   .exact eF h (hS2.lo _<|aR (i:=0) O).2
   .exact eF h (hS2.lo _<|aR (i:=1) O).2
  have h:H4.next<=r:=h
  simp only[iA,jy,bM,dW,iD]at R;rcases R with rfl|rfl
  .exact eF h (uR.lo _<|aR (i:=1) O).2
  .exact eF h (uR.lo _<|aR (i:=2) O).2
 refine aC (λc=>fin O λh=>nomatch h) λc=>?_;refine aY ?_;refine bT (λc2=>fin O λh=>nomatch h) λc2=>?_;refine d_ ?_;exact fin O λh=>⟨c,c2,by simpa using h⟩
end
section
variable{S:List Nat}{ax:Nat->Prop}{ev:D}
end
section
variable{S:List Nat}{ax:Nat->Prop}{ev:D}{rr rs ms me a:Nat}
end
end Go.Proofs.Lv
namespace Go.Proofs.Lu
open Go.Ae Go.Ae.SH
section
variable{ax F':Nat->Prop}{H0 H:F}{L SH:List dJ}{S:List Nat}
def aez:∀i,i<256->∃z:Nat,Dr[i]?=Z z/\(z=240\/z=241\/z=2\/z=19\/z=3\/z=35\/z=52\/z=4\/z=68):=by
 have h:((fZ 256).all λi=>match Dr[i]? with|some z=>decide (z=240\/z=241\/z=2\/z=19\/z=3\/z=35\/z=52\/z=4\/z=68)|none=>aA)=f:=by decide +kernel
 intro i hi;have:=eD.1 h i<|lZ.2 hi;cases hz:Dr[i]? with
 |none=>rw[hz]at this;cases this
 |some z=>rw[hz]at this;exact⟨z,O,by simpa using this⟩
def aeA:∀i,i<16->∃x hc:Nat,IE[i*2]?=Z x/\IE[i*2+1]?=Z hc:=by
 intro i hi;have hl:IE.length=32:=rfl;exact⟨_,_,au N,au N⟩
def Bt.of(h:Bg H):Bt H:=by
 obtain⟨h0,t1,t2,Q,I⟩:=h;refine⟨λi hi=>?_,λi hi=>?_,h0⟩
 .obtain⟨z,hz,hv⟩:=aez i hi;exact⟨z,N,aac Q hz⟩
 .obtain⟨x,hc,J,hy⟩:=aeA i hi;exact⟨x,hc,Xp I J hy⟩
def akF(a:Bool)(i j:Nat):lN Pg .neq 4 (.tmp i) (.tmp j) (.bool a) (.bool a)=Z (.bool aA):=by
 cases a<;>kernel_rfl
def Hd(a:Option Addr)(n c:Nat):Prop:=(a=W/\n=0/\c=0)\/∃r o,a=Z ⟨r,o,W⟩/\n<=c/\c<=9223372036854775807
end
end Go.Proofs.Lu
namespace Go.Proofs.Lv
open Go.Proofs.Lu Go.Proofs.Lu.Wk
open Go.Ae Go.Ae.SH
variable{E:List D}{a ta:Option Addr}{ty:aG}{m n r tc:Nat}{v x:D}
section
variable{H0 H:F}{L SH:List dJ}{S ai:List Nat}{ax F':Nat->Prop}{A:At}{q q':AV}{ev sv:D}{sb:List Bool}{rw' most:Nat}{l:List Int}
def zU.both(h:zU ax H rw' A q ev sv sb):zU (λr=>ax r/\r<H.next) H rw' A q ev sv sb:=
 ⟨⟨h.k,h.k.2⟩,h.b,h.a.both,let⟨sa,sc,e,hf⟩:=h.s;⟨sa,sc,e,hf.1,λr o e hn=>let⟨Q,I,h3⟩:=hf.2 r o e hn;⟨⟨Q,I⟩,I,h3⟩⟩,h.l,h.on⟩
def _root_.Go.Ae.i_.rd1{c i:Nat}(h:i_ ax ty H a n 1 E)(hi:i<n)(J:E[i]?=Z x):∃r o,Ac 1 (T a n c) (B i)=Z (.pointer<|Z ⟨r,o,W⟩)/\H.cell r o=Z x/\r<H.next/\yw H r ty:=by
 obtain⟨r,o,e1,R,hcl,o0,e0,_⟩:=h.1.idx (c:=c) N hi;exact⟨r,o,e1,hcl 0 _ N (by rw[dz,dD];exact J),R,(h.2 r o0 e0 N).2.2⟩
def _root_.Go.Ae.M.whole{K:D->F->Prop}(G:M S H0 H L)(i:Nat)(hi:L[i]?=Z (r,ty,E))(y:E.length=m)(hv:Fla m v)(kk:∀H1 l,v=.agg ⟨l⟩->l.length=m->M S H0 H1 (L.set i (r,ty,l))->K undef H1):ME (Cq m (.pointer<|Z ⟨r,0,W⟩) v H) K:=by
 obtain⟨l,rfl,Q,I,h3⟩:=hv;refine G.st i hi (by rw[Q];exact I) N (by rw[Q];exact h3) λH1 G=>?_;rw[Q,mZ _ _ N]at G;exact kk H1 l O I G
end
end Go.Proofs.Lv
