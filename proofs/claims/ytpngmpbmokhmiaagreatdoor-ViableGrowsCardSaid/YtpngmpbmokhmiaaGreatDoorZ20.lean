/-
  ViableGrows: whatever text and two rows of numbers it is given, the call returns true; the listed package-level variables begin as the program text lays them.
-/
import Derived.Test.YtpngmpbmokhmiaaGreatDoorZ17
import Derived.Test.YtpngmpbmokhmiaaGreatDoorZ18
import Derived.Test.YtpngmpbmokhmiaaGreatDoorZ19
import Derived.Test.YtpngmpbmokhmiaaGreatDoorCards
import Derived.Test.YtpngmpbmokhmiaaGreatDoorTie
set_option linter.unusedVariables false
set_option linter.unusedSimpArgs false
set_option maxRecDepth 100000
set_option maxHeartbeats 4000000
set_option linter.defProp false
open Option renaming some->D,none->Q
open Bool renaming true->f,false->aC
open Go renaming Value->Z,TypeId->aH,Program->aU,World->bY
open Go.Value renaming int->bX,slice->I
open Classical renaming choose->jB
open List renaming range->f_
open And renaming intro->ik
noncomputable section
namespace Go.Proofs.Lu
open Go.Proofs.YtpngmpbmokhmiaaGreatDoor Go.Ae Go.ChangeShapes Go.WideShapes Go.ChangeAt Go.RowKit Go.Deep
variable{p:C MemPlace}{sp:Nat->Bool}{base fuel o r:Nat}{held:Bool}{H:Type}{M:C Z}{a b:Int}{v:Z}
abbrev T0:Nat->aB lI:=λ_=>Q
structure Laid(h1:bY):Prop where
 size:3<=h1.heap.size
 t1:∃(ty:aH)(M:Array Z)(fr:Nat×Nat),h1.heap[1]?=D (.cells M ty fr)/\M.toList=DZ.map λz=>bX .u8 (z:Nat)
 t2:∃(ty:aH)(M:Array Z)(fr:Nat×Nat),h1.heap[2]?=D (.cells M ty fr)/\M.toList=Jb.map λz=>bX .u8 (z:Nat)
def WY{h1:bY}{ty:aH}{M:Array Z}{fr:Nat×Nat}{l:C Nat}(h:h1.heap[r]?=D (.cells M ty fr))(e:M.toList=l.map λz=>bX .u8 (z:Nat)):(EJ h1 T0).obj r=vO ty .u8 l:=by
 have y:r<h1.heap.size:=(dU.1 h).1;rw[KL h1 T0 y];show(match h1.heap[r]? with|some o=>ahv o|none=>.dead)=_;rw[h];show lI.row ⟨ty,Tr.tu top (M.toList.map KJ) 0 .nil,M.size,f,0⟩=lI.row ⟨ty,Tr.tu top (mp (λn=>bX .u8<|Int.ofNat n) l) 0 .nil,len l,f,0⟩
 have e2:M.size=len l:=by
  rw[fU,<-oI,e,aK]
 rw[e,Fs,e2,vw];rfl
def Laid.tabs{h1:bY}(h:Laid h1):BL (EJ h1 T0):=by
 have⟨t1,c1,f1,W,e1⟩:=h.t1;have⟨t2,c2,f2,J,e2⟩:=h.t2;exact⟨h.size,t1,t2,WY W e1,WY J e2⟩
def adg{enc:aH×Z->H}{h1:bY}(h:DataW.trod enc Tryz.prog h1 base sp held fuel 5 M=D (.lit<|.int .u8 a,p)):M=[.int .u8 a]:=by
 have⟨n,e1,e2,_⟩:=DataW.trod_int Tryz.underlying5 h;have:a=n:=by injection e2 with e3 _;injection e3 with e4;injection e4
 rw[e1,this]
def afh{enc:aH×Z->H}{h1:bY}(h:DataW.trod enc Tryz.prog h1 base sp held fuel 353 M=D (.agg [.lit (.int .u8 a),.lit<|.int .u8 b],p)):M=[.int .u8 a,.int .u8 b]:=by
 have⟨ys,n,_,e,hl,hy,hf⟩:=DataW.trod_struct Tryz.underlying353 h;have c5:Tryz.prog.cellsOf 5=1:=by kernel_rfl
 have aiB:Tryz.prog.cellsOf 353=2:=by kernel_rfl
 rw[aiB]at hl;have e1:ys.map (·.1)=[.lit (.int .u8 a),.lit<|.int .u8 b]:=(DataW.agg.inj (Prod.mk.inj e).1).symm
 match M,hl with
 |[x,hr],_=>
  match ys,e1 with
  |[y0,y1],e1=>
   simp only[iC,jF,List.cons.injEq,xS]at e1;have⟨q0,q1⟩:=e1;have f0:=hf 0 _ O;have f1:=hf 1 _ O;have⟨d0,p0⟩:=y0;have⟨d1,p1⟩:=y1;simp only at q0 q1;subst q0 q1;have g0:DataW.trod enc Tryz.prog h1 base sp held n 5 (([x,hr].drop 0).take<|Tryz.prog.cellsOf 5)=D (.lit<|.int .u8 a,p0):=f0;have g1:DataW.trod enc Tryz.prog h1 base sp held n 5 (([x,hr].drop 1).take<|Tryz.prog.cellsOf 5)=D (.lit<|.int .u8 b,p1):=f1;rw[c5]at g0 g1;have h0:=adg g0;have W:=adg g1;simp at h0 W;rw[h0,W]
def adh{enc:aH×Z->H}{h1:bY}(h:DataW.trod enc Tryz.prog h1 base sp held fuel 351 M=D (.agg<|DZ.map λz=>.lit<|.int .u8 (z:Nat),p)):M=DZ.map λz=>bX .u8 (z:Nat):=by
 have⟨xs,m,_,ex,hl,hn,hel⟩:=DataW.trod_array Tryz.underlying351 h;have c5:Tryz.prog.cellsOf 5=1:=by kernel_rfl
 have am1:Tryz.prog.cellsOf 351=256:=by kernel_rfl
 have hlf:DZ.length=256:=by decide
 have e1:xs.map (·.1)=DZ.map λz=>.lit (.int .u8 (z:Nat)):=(DataW.agg.inj (Prod.mk.inj ex).1).symm;apply qN
 .rw[hl,am1,aK,hlf]
 intro i W J;rw[aK]at J;have h3:=hel i N;rw[c5,dz,av N]at h3;have h4:(xs.map (·.1))[i]?=(DZ.map λz=>DataW.lit<|.int .u8 (z:Nat))[i]?:=by rw[e1]
 rw[bF,bF,av (by omega:i<xs.length),av J]at h4;have h5:xs[i].1=.lit (.int .u8 (DZ[i]:Nat)):=mg h4;have h6:=adg (p:=xs[i].2) (a:=(DZ[i]:Nat)) (by rw[h3,<-h5]);have h7:((M.drop i).take 1)[0]?=D (bX .u8 (DZ[i]:Nat)):=by rw[h6];rfl
 simp at h7;rw[mJ];have h8:=bE.1 h7;exact h8.2
def PG:∀i,i<16->∃a b:Nat,(match(Rows.laid_unicode_utf8_acceptRanges:DataW Unit)with|.agg l=>l[i]?|_=>Q)=D (.agg [.lit (.int .u8 (a:Nat)),.lit<|.int .u8 (b:Nat)])/\Jb[i*2]?=D a/\Jb[i*2+1]?=D b:=by
 intro i hi;have:i=0\/i=1\/i=2\/i=3\/i=4\/i=5\/i=6\/i=7\/i=8\/i=9\/i=10\/i=11\/i=12\/i=13\/i=14\/i=15:=N;rcases this with rfl|rfl|rfl|rfl|rfl|rfl|rfl|rfl|rfl|rfl|rfl|rfl|rfl|rfl|rfl|rfl<;>exact⟨_,_,O,O,O⟩
def Y7{h1:bY}(h:DataW.trod (λ_=>()) Tryz.prog h1 base sp held fuel 354 M=D (Rows.laid_unicode_utf8_acceptRanges,p)):M=Jb.map λz=>bX .u8 (z:Nat):=by
 have⟨xs,m,_,ex,hl,hn,hel⟩:=DataW.trod_array Tryz.underlying354 h;have aiB:Tryz.prog.cellsOf 353=2:=by kernel_rfl
 have am2:Tryz.prog.cellsOf 354=32:=by kernel_rfl
 have hla:Jb.length=32:=by decide
 have e1:Rows.laid_unicode_utf8_acceptRanges=.agg (xs.map (·.1)):=(Prod.mk.inj ex).1;rw[am2]at hl;apply qN
 .rw[hl,aK,hla]
 intro i W J;rw[aK]at J;have⟨a,b,q1,q2,q3⟩:=PG (i/2) N;rw[e1]at q1;have q1:(xs.map (·.1))[i/2]?=D (.agg [.lit (.int .u8 (a:Nat)),.lit<|.int .u8 (b:Nat)]):=q1;rw[bF,av (by omega:i/2<xs.length)]at q1;have q1:xs[i/2].1=.agg [.lit (.int .u8 (a:Nat)),.lit<|.int .u8 (b:Nat)]:=mg q1;have h3:=hel (i/2) N;rw[aiB,av N]at h3;have h6:=afh (p:=xs[i/2].2) (a:=(a:Nat)) (b:=(b:Nat)) (by rw[h3,<-q1]);have h7:∀j,j<2->((M.drop<|i/2*2).take 2)[j]?=[bX .u8 (a:Nat),bX .u8 (b:Nat)][j]?:=λj _=>by rw[h6]
 rw[mJ];have hi2:i %2=0\/i %2=1:=N;rcases hi2 with h8|h8
 .have h9:=h7 0 N;rw[iW,if_pos N,pK,show i/2*2+0=i by omega,av W]at h9;rw[show i/2*2=i by omega,av J]at q2;have:=dK h9;rw[this,dK q2]
 .have h9:=h7 1 N;rw[iW,if_pos N,pK,show i/2*2+1=i by omega,av W]at h9;rw[show i/2*2+1=i by omega,av J]at q3;have:=dK h9;rw[this,dK q3]
def afi{H:R}(h:H.cell r o=D v):∃ty,yS H r ty:=by
 unfold R.cell at h;cases e:H.obj r with
 |row az=>exact⟨az.ty,az,e,O⟩
 |_=>rw[e]at h;cases h
theorem afj{enc:aH×Z->H}{h1:bY}{d:DataW H}(hv:DataW.trod enc Tryz.prog h1 0 (λ_=>f) f fuel 22 [v]=D (d,p)):
 ∃(a:aB Addr)(c:Nat)(l:C Int)(ty:aH),je (λ_=>True) ty (EJ h1 T0) a l.length 1 (l.map vi)/\Hd a l.length c/\VR (BH h1<|EJ h1 T0) (I a l.length c) v:=by
 have c3:Tryz.prog.cellsOf 3=1:=by kernel_rfl
 rcases open_slice1 Tryz.underlying22 c3 hv with⟨W,J⟩|⟨a,len,cap,m,n,V,ag,Pl,W,hb,hl,hm,hmm,E,hi⟩
 .cases W;exact⟨Q,0,[],3,je.nil _ _ _ _ _,.inl ⟨O,O,O⟩,.sc _ O⟩
 .cases W;rw[if_pos O]at hmm;subst hmm;rcases gM m with rfl|hpos
  .obtain rfl:len=0:=N;exact⟨D ⟨0,0,Q⟩,0,[],3,je.nil _ _ _ _ _,.inr ⟨0,0,O,ax _,bA _⟩,.wz _ _⟩
  .have⟨b,off,spot⟩:=a
   have hsp:spot=Q:=by
    have h3:=World.cell?_spot (hi 0 hpos).1;simpa [Addr.add]using h3
   subst hsp
   have P5:∀i,i<m->∃z:Int,V i=vi z:=by
    intro i him;have⟨z,e1,_,_⟩:=DataW.trod_int Tryz.underlying3 (hi i him).2;simp at e1;exact⟨z,e1⟩
   have hch:∀i,∃z:Int,i<m->V i=vi z:=λi=>by
    by_cases h:i<m
    .have⟨z,hz⟩:=P5 i h;exact⟨z,λ_=>hz⟩
    .exact⟨0,λhh=>absurd hh h⟩
   let ay:Nat->Int:=λi=>jB<|hch i
   have hf:∀i,i<m->V i=vi (ay i):=λi=>nJ<|hch i
   have hcell:∀i,i<m->b<h1.heap.size/\(EJ h1 T0).cell b (off+i)=D (vi<|ay i):=by
    intro i him;have h4:=(hi i him).1;rw[Addr.add_lit,hf i him]at h4;exact X6 O h4 O
   have hbl:=(hcell 0 hpos).1;have⟨ty,hty⟩:=afi (hcell 0 hpos).2;have hml:m<=9223372036854775807:=hm;have hln:((f_ len).map ay).length=len:=by rw[aK,qg]
   refine⟨D ⟨b,off,Q⟩,m,(f_ len).map ay,ty,⟨⟨by rw[aK];omega,λi x E=>?_⟩,λr o e _=>by cases e;exact⟨trivial,hbl,hty⟩⟩,.inr ⟨b,off,O,N,hml⟩,by rw[hln];exact aen hbl hml hl⟩;rw[vw,bF]at E;cases y:(f_ len)[i]? with
   |none=>rw[y]at E;cases E
   |some j=>
    rw[y]at E;obtain⟨hj,rfl⟩:=bE.1 y;cases E;rw[alList_getElem_rangeQ];rw[qg]at hj;exact⟨b,off,O,hbl,(hcell i N).2⟩
namespace Wk
end Wk
end Go.Proofs.Lu
namespace Go.Ae
variable{L gb:List dL}
section
variable{S:List Nat}{H0 H:R}{ty:aH}{v:Z}{M xs:List Z}{a:Option Addr}{n c:Nat}
def GE(ty:aH)(v:Z)(M:List Z)(gb:List dL):Prop:=GB ty 1 v M gb\/∃a,v=I (D a) 0 0/\M=[]/\gb=[]
def GE.cat{K:Z->R->Prop}(hg:GE ty v M gb)(G:F S H0 H<|gb++L)(E:Fl (hN H) a n 1 xs)(hok:all' fC xs=f)(hn:n<=16777216)(hc:M.length<=16777216)(kk:∀v' H1 gQ,GE ty v' (M++xs) gQ->F S H0 (hM H H1) (gQ++L)->oN (gb.map (·.1)) H (hM H H1)->(gb=[]->Ext (hN H) H1)->K v' H1):ME (zY ty 1 v (I a n c)<|hN H) K:=by
 have ha:=yj (c:=c) E<|Nat.one_pos;have hxl:=E.1;have hx':Ext (hN H) ((hN H).new<|rowOf ty xs):=Ext.new _ _;cases n with
 |zero=>
  have e:xs=[]:=dR.1 N;subst e
  have h0:zY ty 1 v (I a 0 c) (hN H)=D (v,hN H):=by
   rcases hg with hg|⟨b,rfl,rfl,rfl⟩
   .obtain⟨b,m,d,rfl,_⟩:=hg.UK;unfold zY;rw[ha];rfl
   .rw[C5 (.inr ⟨_,rfl⟩) ha (bA _),if_pos O]
  rw[h0];exact kk v (hN H) gb (by rw[bq];exact hg) (by rw[gN G.wf];exact G) (by rw[gN G.wf];exact oN.refl _ _) λ_=>Ext.refl _
 |succ m=>
  rcases hg with(⟨rfl,rfl,rfl⟩|⟨r,k,eB,rfl,hk,rfl⟩)|⟨b,rfl,rfl,rfl⟩
  .rw[show zY ty 1 (I Q 0 0) (I a (m+1) c) (hN H)=_ from OL ha hn];exact kk _ _ [(H.next,ty,xs)] (.inl<|.inr ⟨H.next,m+1,[],O,hxl,by simp⟩) (G.yG ty xs) hx'.draw λ_=>hx'
  .have hb:Bk (hN H) r ty (M++eB):=G.get 0 O;have y:=(G.lo _<|aN ..).2;have⟨r',H1,Ef,W,J,h3,h4,h5,h6⟩:=OM Nat.one_pos hb y hk ha hxl hok hn N;rw[show zY ty 1 (I (D ⟨r,0,Q⟩) k<|fJ 1) (I a (m+1) c) (hN H)=_ from W];refine kk _ H1 [(r',ty,M++xs++Ef)] (.inl<|.inr ⟨r',k+(m+1),Ef,O,by rw[aQ];omega,rfl⟩) ?_ h5.draw nofun;refine F.turn (A:=[(r,ty,M++eB)]) G h5.draw (λe he'=>?_)<|iR _ _;rw[aP]at he';subst he';refine⟨J,?_,h4⟩;rcases h3 with h3|h3
   .exact .inl (by simp[h3])
   .exact .inr (by show H.next<=r';rw[h3];exact ax _)
  .rw[show zY ty 1 (I (D b) 0 0) (I a (m+1) c) (hN H)=_ from(C5 (.inr ⟨_,O⟩) ha hn).trans<|if_neg N];exact kk _ _ [(H.next,ty,xs)] (.inl<|.inr ⟨H.next,m+1,[],O,hxl,by simp⟩) (G.yG ty xs) hx'.draw λ_=>hx'
def GE.IA{SH:Nat->Prop}(hg:GE ty v M gb)(G:F S H0 H<|gb++L)(hF:∀e∈gb,SH e.1):∃a c,v=I a M.length c/\je SH ty H a M.length 1 M:=by
 rcases hg with hg|⟨a,rfl,rfl,rfl⟩
 .obtain⟨a,n,c,rfl,hn,hf⟩:=hg.IA G hF;obtain rfl:n=M.length:=N;exact⟨a,c,O,hf⟩
 .exact⟨D a,0,O,je.nil _ _ _ _ _⟩
end
end Go.Ae
namespace Go.Proofs.Lv
open Go.Proofs.Lu Go.Proofs.Lu.Wk
open Go.Ae Go.Ae.cs
variable{sb:List Bool}{a ia oa ta tb:Option Addr}{l l2:List Int}{F':Nat->Prop}{H' ins is:List Nat}{L cs:List dL}{c ic most n rw' tc:Nat}{ty:aH}{A:At}{q:AV}{H H0 H1:R}{sv v:Z}{z:ae}
section
variable{S:List Nat}{SH:Nat->Prop}{ev:Z}
def ctypesG(hw:Wf H)(hf:je F' ty H ta l.length 1<|ints l)(hi:je SH 3 H ia is.length 1<|fF is)(hil:∀i∈is,i<l.length)(hn:l.length<=1000)(hn2:is.length<=1000){on oc:Nat}:
 aO Pg X 13 [.agg ⟨[I ia is.length ic,I oa on oc]⟩,I ta l.length tc] H (λv T=>∃gb,GB 3 1 v (ints<|is.map λi=>l[i]?.getD 0) gb/\F [] H T gb):=by
 refine jS [0,1,2,4,5,7,9,10,11] ?_;have G:=F.refl hw;refine G.box O λH1 rk G=>?_;have G:F [] H H1 [(rk,43,[I ia is.length ic,I oa on oc])]:=G;refine eU ?_;refine FY 5 7 11 (ai:=λm x5 x7 iJ T=>∃(i:Nat)(gb:List dL),iJ=B i/\i+m=is.length/\GB 3 1 x5 (ints<|(is.take i).map λi=>l[i]?.getD 0) gb/\F [] H T ((rk,43,[I ia is.length ic,I oa on oc])::gb)) ?_ is.length ⟨0,[],rfl,aY _,GB.nil _ _,G⟩;clear G;rintro m x5 x7 iJ u H2 ⟨i,gb,rfl,him,hg,G⟩;refine kX (λhc=>?_) λhc=>?_
 .refine tl ?_;rw[cO N]at hg;refine Lu.rr ?_;exact⟨gb,hg,F.drop (A:=[_]) G⟩
 have hii:i<is.length:=N;have hb:=hil _<|bB hii;refine(hi.ex G.ext).ix (v:=B is[i]) hii (by rw[bF,av hii];rfl) λ_=>?_;refine bG ?_;refine aT (λ_=>?_) λh=>absurd (jw _) h;refine tp ?_;refine aT (λ_=>?_) λh=>N;refine(hf.ex G.ext).ix (v:=vi l[is[i]]) hb (by rw[bF,av hb];rfl) λ_=>?_;refine hg.I4 G O O O (by rw[aK,aK,dF];omega) λq' v' H3 gQ hg G=>?_;refine tl ?_;refine dQ ?_;refine⟨is.length-(i+1),N,_,_,_,_,_,O,i+1,gQ,og,N,?_,G⟩;rw[eH,av hii]
 have e:((is.take i++(D is[i]).toList).map λi=>l[i]?.getD 0)=(is.take i).map (λi=>l[i]?.getD 0)++[l[is[i]]]:=by
  rw[dA];show _++[l[is[i]]?.getD 0]=_;rw[av hb];rfl
 rw[e,show∀a b:List Int,ints (a++b)=ints a++ints b fromλa b=>dA];exact hg
end
section
variable{S:List Nat}{SH:Nat->Prop}{ev:Z}{rk rs ro rp:Nat}{t:Int}{outs:List Nat}
theorem ckeepS(ho:A.Ok)(ht:A.ty<=65536)(hw:Wf H)(hk:Bh SH H rw' A q ev sv sb)(hF:∀r,SH r->r<H.next)(hf:je F' ty H ta l.length 1<|ints l)(hn:l.length<=1000)(hR:Rm A l.length most):
 aO Pg X 11 [pr rw',I ta l.length tc,B most] H λv T=>∃rp ia ic oa oc S,v=.tuple ⟨[.agg ⟨[.slice ia (rY f 0<|zk A l).length ic,.slice oa (rY aC 0<|zk A l).length oc]⟩,pr rp,vi 0]⟩/\
  Sm S T T rp rw' most A (za A l)/\(∀r∈S,H.next<=r)/\je (H.next<=·) 3 T ia (rY f 0<|zk A l).length 1 (fF<|rY f 0<|zk A l)/\je (H.next<=·) 3 T oa (rY aC 0<|zk A l).length 1 (fF<|rY aC 0<|zk A l)/\Ext H T/\(∀hr,ia=D hr->hr.spot=Q)/\(∀hr,oa=D hr->hr.spot=Q):=by
 refine jS [0,1,2,6,7,8,9,10,11,12,13,14,15,28,29,30] ?_;have G:=F.refl hw;refine G.iX λH1 ro G=>?_;have G:F [] H H1 [(ro,43,[Bi,Bi])]:=G;have hx1:=G.ext;have hro:=G.lo _<|aN ..
 have hk1:Bh SH H1 rw' A q ev sv sb:=hk.stay hx1 nofun;have hF1:∀r,SH r->r<H1.next:=λr y=>aR (hF r y) hx1.next
 refine aO.mono (ait ho G.wf hk1 hF1 hR.amW) ?_;rintro _ H2 ⟨rp,rfl,hsm⟩;have G:=G.call hsm.ext;refine bG ?_;have hO:=F.refl hsm.wf;refine hO.ns O O O λH3 rs hO hx3=>?_;refine dN (λh=>absurd trivial h) λ_=>?_;refine PU.of (v:=.agg ⟨[Bi,Bi]⟩) O ?_;refine hO.ns O O O λH4 rk hO hx4=>?_;have hO:F [] H2 H4 [(rk,43,[Bi,Bi]),(rs,44,[pr rp])]:=hO;have⟨S,hSo,hown⟩:=hsm.own
 have hkp:Kp H H4 rk rs ro rp rw' most A (ae.new A) [] []:=by
  refine⟨S,Bi,Bi,[],[],hown [] H4 hO.ext<|nofun,λr y=>⟨a_ hx1.next<|(hSo r y).1.resolve_left nofun,aR (hSo r y).2 hO.ext.next⟩,F.frame (cs:=[]) (L:=[_]) G hO,λe he hm=>?_,GB.nil _ _,GB.nil _ _⟩;have he:e∈[(rk,43,[Bi,Bi]),(rs,44,[pr rp])]\/e=(ro,43,[Bi,Bi]):=by simpa [or_assoc]using he
  rcases he with he|rfl
  .exact absurd (hSo _ hm).2<|eP<|hO.wQ he
  .exact absurd hro.2<|eP<|(hSo _ hm).1.resolve_left nofun
 have hzW:∀i,ae.h1 A (za A<|l.take i):=λi=>ae.ade ho _ _<|ae.agK ho;refine lp6 7 8 13 14 15 30 (ai:=λm x7 x8 jI sP lH x30 T=>∃i:Nat,x30=B i/\i+m=l.length/\Kp H T rk rs ro rp rw' most A (za A<|l.take i) (rY f 0<|zk A<|l.take i) (rY aC 0<|zk A<|l.take i)) ?_ l.length ⟨0,rfl,aY _,hkp⟩;clear hkp hO G;rintro m x7 x8 jI sP lH x30 u H5 ⟨i,rfl,him,hkp⟩;refine kX (λhc=>?_) λhc=>?_
 .rw[cO N]at hkp;have⟨S,v,w,g,g',hsm,hS1,G,hd,hg,hg'⟩:=hkp;obtain⟨ia,n1,ic,rfl,hn1,hf1⟩:=hg.IA (SH:=(H.next<=·)) (G.perm<|iG [_,_,_] g g') λe he=>G.wQ (by simp[he]);obtain⟨oa,n2,oc,rfl,hn2,hf2⟩:=hg'.IA (SH:=(H.next<=·)) (G.perm<|aG (l₁:=_::_::_::g)) λe he=>G.wQ (by simp[he]);have hsi:=hg.sp;have hso:=hg'.sp;rw[aK,dz]at hn1 hn2;subst hn1 hn2;have m1:rk≠rs:=G.neT;have m2:rk≠ro:=G.nq 0 2 O O N;have m3:rs≠ro:=G.neT;have hr1:F [] H H5 [(ro,43,[Bi,Bi])]:=⟨G.ext,λe he=>G.bk e (by rw[aP.1 he];simp),λe he=>G.lo e (by rw[aP.1 he];simp),iR _ _,G.wf⟩;have h5:=G;have G:=F.refl h5.wf;refine tl ?_;apply h5.VO;refine G.kL ?_;apply h5.QN;refine G.kL ?_;refine hr1.base.mh λH6 h6=>?_;refine splitK (λK hK=>?_) ?_
  .simp only[d_,fK];apply xG (a:=rk) (b:=rs) (c:=ro) m1 m2 m3 xN jr jr hK
  have hr6:=hr1.over h6;have hty:=(hr1.get 0 O).Jc;refine Lu.rr ?_;apply hr6.iI;have⟨S2,g1,g2⟩:=hsm.own
  have hnr:∀r∈[(ro,43,([Bi,Bi]:List Z))].map (·.1),∀{ty:aH},ty≠43->¬yS H5 r ty:=λr y ty hne ht=>by
   rw[aP.1 (show r∈[ro]from y)]at ht;exact hne<|ht.one hty
  refine⟨rp,ia,ic,oa,oc,S2,O,g2 _ _ h6.ext λr y=>⟨λhm=>?_,hnr r y mO⟩,λr y=>(g1 r y).1.elim (λh=>(hS1 r h).1)<|a_ h5.ext.next,hf1.stay h6.ext λr y=>.inr<|hnr r y mO,hf2.stay h6.ext λr y=>.inr<|hnr r y mO,hr6.ext,hsi,hso⟩;rw[aP.1 (show r∈[ro]from y)]at hm;exact(g1 ro hm).1.elim (hd (ro,43,[Bi,Bi]) kg)<|eO (hr1.lo _<|aN ..).2
 have hil:i<l.length:=N;have⟨_,_,_,_,_,_,_,hS0,_⟩:=id hkp;refine(hf.ex hS0.ext).ix (v:=vi l[i]) hil (by rw[bF,av hil];rfl) λ_=>?_;show aO Pg X 46 [B i,vi l[i],pr rs,pr rk] H5 _
 have hlong:(za A<|l.take i).long<=i:=by
  have:=ae.adb (A:=A) (l.take i)<|ae.new A;rw[dF]at this;have e:(ae.new A).long=0:=rfl;unfold za;omega
 have hiz:∀b,(rY b 0<|zk A<|l.take i).length<=1000:=λb=>by
  have:=PD (b:=b) (zk A<|l.take i) 0;rw[ae.sF,dF]at this;omega
 have⟨hL,hst⟩:=hR.lim (hzW i) N;have e0:l.take (i+1)=l.take i++[l[i]]:=by rw[eH,av hil];rfl
 have e1:za A (l.take<|i+1)=(za A<|l.take i).feed A l[i]:=by rw[e0];exact ae.acQ _ _ _
 have e2:∀b,rY b 0 (zk A<|l.take<|i+1)=if decide (off A (za A<|l.take i).sp l[i])=b then rY b 0 (zk A<|l.take i)++[i]else rY b 0 (zk A<|l.take i):=λb=>by
  unfold zk za;rw[e0,ae.Ht,WV,ae.sF,dF,iV N,aY];show _++(if _=b then i::[]else[])=_;split<;>simp
 refine aO.mono (alh ho ht hk hF hkp (hzW i) hL hst hR.m N (hiz f) (hiz aC) i) ?_;rintro _ H6 ⟨rfl,hkp⟩;refine bG ?_;refine dN (λh=>absurd trivial h) λ_=>?_;refine dQ ?_;refine⟨l.length-(i+1),N,_,_,_,_,_,_,_,_,O,i+1,og,N,?_⟩;rw[e1,e2,e2]
 by_cases h:off A (za A<|l.take i).sp l[i]
 .rw[if_pos h,if_pos h]at hkp;rw[bL h];exact hkp
 .rw[if_neg h,if_neg h]at hkp;rw[dB h];exact hkp
end
section
variable{ty2:aH}{S:List Nat}{SH:Nat->Prop}{q':AV}{ev:Z}{rp:Nat}{td:Nat}
def ok_ints:∀l:List Int,all' fC (ints l)=f
 |[]=>rfl
 |_::l=>ok_ints l
def Sm.m(hw:Wf H)(E:Ext (hN H) H1)(h:Sm S H1 H1 rp rw' most A z):Sm S (hM H H1) (hM H H1) rp rw' most A z:=
 let⟨H',rs,fv,ah,sa,sc,G,W,J,h3,h4,h5⟩:=h
 ⟨H',rs,fv,ah,sa,sc,⟨oN.refl _ _,λe he=>(G.bk e he).jb O,G.lo,G.ne,E.draw.wf hw⟩,W.m hw E,J,h3,h4,h5⟩
def Px.m{h1:List Nat}(h:Px SH H1 v h1):Px SH (hM H H1) v h1:=let⟨r,g1,g2,g3,g4,g5⟩:=h;⟨r,g1,g2,g3,g4.jb rfl,g5⟩
def beqT(a:Bool)(i j:Nat):lY Pg .eql 4 (.tmp i) (.tmp j) (.bool a) (.bool a)=D (.bool f):=by
 cases a<;>kernel_rfl
def hd_same(h:Hd a n c):nG (I a n c) (I a n c)=f:=by
 rcases h with⟨rfl,rfl,rfl⟩|⟨r,o,rfl,_⟩
 .rfl
 .exact oF _ _ _ λx E=>by cases E;rfl
theorem viableGrows(hw:Wf H)(hT:BL H)(s:ByteArray)(hf:je SH ty H ta l.length 1<|ints l)(hg:je F' ty2 H tb l2.length 1<|ints l2)(hd:Hd ta l.length tc)(hd2:Hd tb l2.length td):aO Pg X 4 [.string s,.agg ⟨[I ta l.length tc,I tb l2.length td]⟩] H (Q1 (λv _=>v=.bool f) H):=by
 have G:=F.refl hw;refine jS [0,1,3,4,5,6,8,9,10,11,12,13,15,16,17,18,19] ?_;refine G.box O λH1 ra G=>?_;have G:F [] H H1 [(ra,57,[I ta l.length tc,I tb l2.length td])]:=G;refine aO.mono (U0 G.wf (BV.of<|hT.ex G.ext) s) ?_;rintro v H2 ⟨⟨w,a,g,ok,rfl,ha,hgg,hok⟩,E⟩;have hra:=(G.lo _<|aN ..).2;have hS2:=G.call E;have G:=hS2.base;refine bG ?_;refine G.iX λH3 JP G=>?_;refine G.iX λH4 LQ G=>?_;refine G.whole 1 O O ha λH5 la ea na G=>?_;refine G.whole 0 O O hgg λH6 lg eg ng G=>?_;have G:F [ra] H2 H6 [(LQ,38,lg),(JP,27,la),(ra,57,[I ta l.length tc,I tb l2.length td])]:=G;have hX:∀{T:R}{L':List dL},F [ra] H2 T L'->Ext H T:=λh'=>(hS2.over h').ext;have works:∀{T:R}{L':List dL}{K:Z->R->Prop},F [ra] H2 T L'->K (.bool f) T->aO Pg X 10 [] T K:=λh' k=>aO.orc (ahs<|hT.ex<|hX h') k;refine aT (λc=>?_) λc=>?_
 .refine works G ?_;refine Lu.rr ?_;exact⟨O,hX G⟩
 refine PU.of (v:=.pointer<|D ⟨ra,0,Q⟩) O ?_;refine wS (λc1=>?_) λc1=>?_
 .refine works G ?_;refine Lu.rr ?_;exact⟨O,hX G⟩
 refine PU.of (v:=.pointer<|D ⟨ra,1,Q⟩) O ?_;refine wS (λc2=>?_) λc2=>?_
 .refine works G ?_;refine Lu.rr ?_;exact⟨O,hX G⟩
 obtain⟨A,rw,q,q',ev,sv,sb,ho,hns,hty,hAq,rfl,rfl,hk⟩:=hok c;have hsm:=hAq.same ho;cases ea;have hk:=hk.both;refine tl ?_;have hWk:∀{T:R}{L':List dL},F [ra] H2 T L'->Bh (λr=>H1.next<=r/\r<H2.next) T rw A q' ev sv sb:=λh'=>hk.stay h'.ext λr h=>by rw[aP.1 h];exactλh=>absurd h.1<|eO hra
 have hF:∀{T:R}{L':List dL},F [ra] H2 T L'->∀r,H1.next<=r/\r<H2.next->r<T.next:=λh' r h=>aR h.2 h'.ext.next
 have Uf:A.ty<=65536:=N;apply G.iI;refine G.cm (PE G.wf hns (n:=24) N) ?_;rintro v H7 rfl hx7 G;refine ME.of (ahu (H:=hN H7) N) ?_;have G:=F.drop (A:=[_])<|G.yG 3 [];have c8:Ml H7 ((hN H7).new<|rowOf 3 [])=cl 5:=xQ<|Ext.new _ _;generalize(hN H7).new (rowOf 3 [])=H8 at G c8|-;refine PU.of (v:=.pointer<|D ⟨ra,0,Q⟩) O ?_;refine eU ?_;refine GE.cat (gb:=[]) (.inr ⟨_,O,O,O⟩) G (hf.ex<|hX G).1 (ok_ints l) N (bA _) λv9 H9 gb1 hg1 G x1 e1=>?_;have Wl:=G;have x9:=e1 O;refine PU.of (v:=.pointer<|D ⟨ra,1,Q⟩) O ?_;refine eU ?_;refine hg1.cat G (hg.ex<|hX G).1 (ok_ints l2) N (by rw[bN,aK];omega) λv10 Dq Zf hg2 G x2 e2=>?_;have e12:([]++ints l)++ints l2=ints (l++l2):=dA.symm;have hg2S:=G;obtain⟨ca,cc,rfl,hcf⟩:=hg2.IA (SH:=λ_=>True) G λ_ _=>trivial;rw[e12,aK]at hcf|-;have hl2:(l++l2).length<=24:=by rw[aQ];omega
 refine aO.mono (ckeepS (l:=l++l2) ho Uf (nS _) ((hWk G).stay (Ext.hN _) nofun) (λr y=>hF G r y) (hcf.ex<|Ext.hN _) N<|Rm.en (n:=24) hns N hl2) ?_;rintro v H12 ⟨rp,ia,ic,oa,oc,SX,rfl,hz,hSX,hfi,hfo,aeW,si_q,so⟩;have hge12:=G.ext.next
 have hz:=hz.m G.wf aeW;have G:=G.nH aeW;have hW12:=hWk G;refine bG ?_;refine G.nsD O O O λH13 rk H14 G c13 hrk YN=>?_;refine splitK (λK hK=>?_) ?_
 .simp only[d_,c8,fP x9,fP aeW,c13,fK];have n1:rk≠ra:=G.neT
  have sm:∀v∈[I ta l.length tc,I tb l2.length td],nG v v=f:=λv hv=>by
   rcases bP.1 hv with rfl|hv
   .exact hd_same hd
   .rw[aP.1 hv];exact hd_same hd2
  have r1:∀{o}{a b:R},(o=0\/o=1)->mY ⟨2,0,0,0,hM (hM H7 H8) H9,Dq⟩ ⟨4,ra,o,1,a,b⟩=f:=λ{o a b} ho=>Wl.rd hg2S (λv hv=>sm v<|jK<|eX hv) (by show o+1<=2;omega);rcases vQ (hM (hM H7 H8) H9) Dq with e|e<;>rw[e]<;>apply JE (A:=hM (hM H7 H8) H9) (vn:=Dq) (a:=rk) (b:=ra) n1 (by rfl) jr jr hK<;>repeat' apply ik
  all_goals first|exact trivial|(intro h;cases h;done)|exactλ_=>⟨rfl,rfl⟩|exactλ_=>r1 (.inl O)|exactλ_=>r1<|.inr O
 have hz:=hz.ex YN;have hfi:je (λ_=>True) 3 (hM (hM (hM (hM H7 H8) H9) Dq) H12) ia _ 1 _:=hfi.wk λ_ _=>trivial;have hfi:=hfi.ex YN;generalize hM (hM (hM (hM (hM (hM H7 H8) H9) Dq) H12) H13) H14=Pv at G hz hfi|-;have G:=G.sub<|(alList_sublist_append_rightQ Zf _).cons_cons _;generalize hKI:rY f 0 (zk A<|l++l2)=KI_q at hfi G|-;generalize hKO:rY aC 0 (zk A<|l++l2)=KO at G|-;clear hg2S Wl hg1 hg2 x1 x2 e1 e2;refine PU.of (v:=.pointer<|D ⟨ra,0,Q⟩) O ?_;refine eU ?_;refine aO.mono (ckeepS (l:=l) ho Uf G.wf (hWk G) (hF G) (hf.ex<|hX G) N<|Rm.en (n:=24) hns N N) ?_;rintro v H16 ⟨rp2,ia2,ic2,oa2,oc2,SX2,rfl,hz2,am9,anI,ana,hx16,si2,so2⟩;have G:=G.call hx16;have hz:=hz.ex hx16;have hfi:=hfi.ex hx16;refine bG ?_;refine G.nI O O O λSr rm G anK=>?_;have hz:=hz.ex anK;have hfi:=hfi.ex anK;have anI:=anI.ex anK
 have hil:∀i∈rY f 0 (zk A l),i<l.length:=λi hi=>by
  have:=(I5 _ _ i hi).2;rw[ae.sF]at this;omega
 have hle:(rY f 0<|zk A l).length<=l.length:=by
  rw[<-ae.sF (A:=A) l (ae.new A)];exact PD _ _
 have hp:((rY f 0<|zk A l).map λi=>l[i]?.getD 0)=pick l (zk A l):=LP l _<|ae.sF l _;refine eU ?_;refine PU.of (v:=.pointer<|D ⟨ra,0,Q⟩) O ?_;refine eU ?_;refine aO.mono (ctypesG (nS _) ((hf.ex<|hX G).ex<|Ext.hN _) (anI.ex<|Ext.hN _) hil N N) ?_;rintro v H18 ⟨gb3,hg3,hS18⟩;have anL:=hS18.ext;have G:=F.aaR (cs:=[]) G hS18;have ane:=G;rw[hp]at hg3;have hpl:(pick l<|zk A l).length=(rY f 0<|zk A l).length:=by rw[<-hp,aK]
 refine PU.of (v:=.pointer<|D ⟨ra,1,Q⟩) O ?_;refine eU ?_;refine GE.cat (.inl hg3) G (hg.ex<|hX G).1 (ok_ints l2) N (by rw[aK];omega) λv20 H20 gb4 hg4 G x4 e4=>?_;have hS20:=G;have e34:ints (pick l<|zk A l)++ints l2=ints (pick l (zk A l)++l2):=dA.symm;obtain⟨cb,cd,rfl,hcf2⟩:=hg4.IA (SH:=λ_=>True) G λ_ _=>trivial;rw[e34,aK]at hcf2|-;have hl3:(pick l (zk A l)++l2).length<=24:=by rw[aQ,hpl];omega
 refine aO.mono (ckeepS (l:=pick l (zk A l)++l2) ho Uf (nS _) ((hWk G).stay (Ext.hN _) nofun) (λr y=>hF G r y) (hcf2.ex<|Ext.hN _) N<|Rm.en (n:=24) hns N hl3) ?_;rintro v H21 ⟨rp3,ia3,ic3,oa3,oc3,SX3,rfl,hz3,hSX3,hfi3,hfo3,als,si3,so3⟩;have hge21:=G.ext.next
 have hz3:=hz3.m G.wf als;have G:=G.nH als;have hW21:=hWk G;refine bG ?_;refine G.nsD O O O λH22 ro H23 G c22 hro hx22=>?_;refine splitK (λK hK=>?_) ?_
 .simp only[d_,fP anL,fP als,c22,fK];have n1:ro≠ra:=G.neT
  have n2:ro≠rm:=λe=>by
   have W:=(hS20.lo _<|cZ gb4<|aN ..).2;have J:=als.next
   have W:rm<(hM (hM Sr H18) H20).next:=W
   have J:(hM (hM Sr H18) H20).next<=H21.next:=J
   have hro:H21.next<=ro:=hro
   omega
  have n3:ra≠rm:=hS20.neT
  have sm:∀v∈[I ta l.length tc,I tb l2.length td],nG v v=f:=λv hv=>by
   rcases bP.1 hv with rfl|hv
   .exact hd_same hd
   .rw[aP.1 hv];exact hd_same hd2
  have r1:∀{o}{a b:R},(o=0\/o=1)->mY ⟨2,0,0,0,hM Sr H18,H20⟩ ⟨4,ra,o,1,a,b⟩=f:=λ{o a b} ho=>ane.rd hS20 (λv hv=>sm v<|jK<|eX hv) (by show o+1<=2;omega)
  have r2:∀{a b:R},mY ⟨2,0,0,0,hM Sr H18,H20⟩ ⟨4,rm,0,2,a,b⟩=f:=ane.rd hS20 λv hv=>by
   have hv:v∈[I ia2 _ ic2,I oa2 _ oc2]:=hv;rcases bP.1 hv with rfl|hv
   .exact oF _ _ _ si2
   .rw[aP.1 hv];exact oF _ _ _ so2
  rcases vQ (hM Sr H18) H20 with e|e<;>rw[e]<;>apply OQ (A:=hM Sr H18) (vn:=H20) (a:=ro) (b:=ra) (c:=rm) n1 n2 n3 (by rfl) jr jr hK<;>repeat' apply ik
  all_goals first|exact trivial|(intro h;cases h;done)|exactλ_=>⟨rfl,rfl⟩|exactλ_=>r1 (.inl O)|exactλ_=>r1 (.inr O)|exactλ_=>r2
 have afn:Ext Sr (hM (hM Sr H18) H20):=anL.draw.later x4 λr y=>.inr (by
  obtain⟨e,he,rfl⟩:=bQ.1 y;exact hS18.wQ he)
 have hX24:=(afn.trans als.draw).trans hx22;have hz:=hz.ex hX24;have hfi:=hfi.ex hX24;have anI:=anI.ex hX24;have hz3:=hz3.ex hx22;have hfi3:je (λ_=>True) 3 (hM (hM (hM Sr H18) H20) H21) ia3 _ 1 _:=hfi3.wk λ_ _=>trivial;have hfi3:=hfi3.ex hx22;generalize hM (hM (hM (hM (hM Sr H18) H20) H21) H22) H23=H24 at G hz hz3 hfi anI hfi3|-;have G:=G.sub<|(alList_sublist_append_rightQ gb4 _).cons_cons _;clear ane hS18 hS20 hg3 hg4 afn hX24 x4 e4 anL als hx22;have⟨gr1,gr2,gr3⟩:=ae.grows (A:=A) l l2<|ae.new A;obtain⟨MI_q,hMI⟩:∃MI_q,MI_q=rY f 0 (zk A l):=⟨_,O⟩;obtain⟨OI_q,hOI⟩:∃OI_q,OI_q=rY f 0 (zk A<|pick l (zk A l)++l2):=⟨_,O⟩;obtain⟨XI_q,hXI⟩:∃XI_q,XI_q=rY f 0 ((za A l).kept A l2):=⟨_,O⟩;have gk:KI_q=MI_q++XI_q.map (·+l.length):=by rw[<-hKI,hMI,hXI];exact gr1
 have go:OI_q=f_ MI_q.length++XI_q.map (·+MI_q.length):=by rw[hOI,hMI,hXI];exact gr2
 have hlen:KI_q.length=OI_q.length:=by rw[gk,go];simp
 have hlm:MI_q.length<=KI_q.length:=by rw[gk];simp
 have hkl:KI_q.length<=24:=by
  rw[<-hKI];have:=PD (b:=f) (zk A<|l++l2) 0;rw[ae.sF]at this;omega
 rw[<-hMI]at G anI;rw[<-hOI]at G hfi3;refine bG ?_;refine dN (λh=>absurd (by trivial) h) λ_=>?_;refine dN (λh=>absurd (by trivial) h) λ_=>?_;refine dN (λh=>absurd (by trivial) h) λ_=>?_;refine eU ?_;refine dN (λh=>absurd N h) λ_=>?_;refine eU ?_;refine aT (λh=>N) λ_=>?_;refine tl ?_;refine lp2 4 19 (ai:=λz x4 uC T=>∃i,uC=B i/\i+z=KI_q.length/\T=H24) ?_ KI_q.length ⟨0,rfl,N,rfl⟩;rintro z x4 uC u H25 ⟨i,rfl,hiz,rfl⟩;refine abG (λhc=>?_) λhc=>?_
 .refine tl ?_;have zW:ae.h1 A (za A<|l++l2):=ae.ade ho _ _<|ae.agK ho
  have hlg:(za A<|l++l2).long=KI_q.length:=by
   rw[<-hKI];exact(ae.lng (l++l2) (ae.new A) 0).trans<|aY _
  have zb:bnd A (za A<|l++l2).long<=8000000:=a_ (Hu (show(za A<|l++l2).long<=24 by omega)) (Rm.en (n:=24) hns N<|ax _).b;rw[show za A (pick l (zk A l)++l2)=za A (l++l2)from gr3]at hz3;refine aO.mono (LM ho Uf hW12 (λr y hm=>absurd (hSX r hm)<|eO<|aR y.2 hge12) (hz.ex<|Ext.hN _) zW zb) ?_;rintro v H26 ⟨hb1,hx26⟩;have G:=G.nH hx26;have hz:=hz.ex hx26.draw;have hz3:=hz3.ex hx26.draw;refine aO.mono (LM ho Uf hW21 (λr y hm=>absurd (hSX3 r hm)<|eO<|aR y.2 hge21) (hz3.ex<|Ext.hN _) zW zb) ?_;rintro v' H27 ⟨hb2,hx27⟩;have G:=G.nH hx27;have hz:=hz.ex hx27.draw;have hz3:=hz3.ex hx27.draw;refine aO.mono (UU ((hb1.m.stay hx27.draw nofun).stay (Ext.hN _) nofun)<|hb2.m.stay (Ext.hN _) nofun) ?_;rintro v H28 ⟨rfl,rfl⟩;refine G.kL ?_;refine aO.mono (ac9<|hz.ex<|Ext.hN _) ?_;rintro v H29 ⟨rfl,rfl⟩;refine G.kL ?_;refine aO.mono (ac9<|hz3.ex<|Ext.hN _) ?_;rintro v H30 ⟨rfl,rfl⟩;refine G.kL ?_;refine PU.of (beqT ..) ?_;refine(show∀{a b:Prop},a->xD (D f) a b fromλh=>h) ?_;refine aO.mono (smlong<|hz.ex<|Ext.hN _) ?_;rintro v Pp ⟨rfl,rfl⟩;refine eU ?_;refine aT (λ_=>?_) λh=>absurd (by rw[hlg]) h;refine aO.orc (ahs<|(hT.ex<|hX G).ex<|Ext.hN _) ?_;refine iD (by simp only[d_,fP hx26,fP hx27,fP<|Ext.refl<|hN _];rfl) ?_;simp only[gN G.wf];refine Lu.rr ?_;exact⟨O,hX G⟩
 have hiK:i<KI_q.length:=N;have hiO:i<OI_q.length:=N;have rK:(fF KI_q)[i]?=D (B KI_q[i]):=jR _<|av hiK;have rO_q:(fF OI_q)[i]?=D (B OI_q[i]):=jR _<|av hiO
 by_cases hM:i<MI_q.length
 .have rM_q:(fF MI_q)[i]?=D (B MI_q[i]):=jR _ (av hM);have ekm:KI_q[i]=MI_q[i]:=by subst gk;exact iL hM
  have eoi:OI_q[i]=i:=by subst go;rw[iL (by rw[qg];exact hM),alList_getElem_rangeQ]
  refine eU ?_;refine aT (λ_=>?_) λh=>absurd N h;refine eU ?_;refine hfi.Uw hiK rK λr1 o1=>?_;refine eU ?_;refine anI.Uw hM rM_q λr2 o2=>?_;refine G.kL ?_;rw[ekm];refine dN (λh=>absurd O h) λ_=>?_;refine eU ?_;refine hfi3.Uw hiO rO_q λr3 o3=>?_;refine G.kL ?_;rw[eoi];refine dN (λh=>absurd O h) λ_=>?_;refine eU ?_;refine aT (λh=>N) λ_=>?_;refine aaO ?_;refine dQ ?_;exact⟨KI_q.length-(i+1),N,_,_,_,_,O,i+1,og,N,O⟩
 have hMi:MI_q.length<=i:=N;have hxi:i-MI_q.length<XI_q.length:=by rw[gk,aQ,aK]at hiK;omega
 have ekx:KI_q[i]=XI_q[i-MI_q.length]+l.length:=by subst gk;rw[alList_getElem_append_rightQ hMi,mJ]
 have eox:OI_q[i]=XI_q[i-MI_q.length]+MI_q.length:=by subst go;rw[alList_getElem_append_rightQ (by rw[qg];exact hMi),mJ];simp only[qg]
 refine eU ?_;refine aT (λh=>N) λ_=>?_;refine eU ?_;refine aT (λ_=>?_) λh=>absurd N h;refine eU ?_
 have hxb:XI_q[i-MI_q.length]<=24:=by
  have:=(I5 (b:=f) ((za A l).kept A l2) 0 XI_q[i-MI_q.length] (by rw[<-hXI];exact bB hxi)).2;rw[ae.sF]at this;omega
 refine hfi.Uw hiK rK λr1 o1=>?_;refine G.kL ?_;refine PU.of (v:=.pointer<|D ⟨ra,0,Q⟩) O ?_;refine eU ?_;refine qL ?_;refine eU ?_;refine hfi3.Uw hiO rO_q λr3 o3=>?_;refine eU ?_;rw[BI,show oC .i64 ((OI_q[i]:Int).sub MI_q.length)=(OI_q[i]:Int)-MI_q.length from xE (by show(_:Int)<=(OI_q[i]:Int)-MI_q.length;omega) (by show(OI_q[i]:Int)-MI_q.length<=_;omega)];refine dN (λh=>absurd N h) λ_=>?_;refine dQ ?_;exact⟨KI_q.length-(i+1),N,_,_,_,_,O,i+1,og,N,O⟩
end
end Go.Proofs.Lv
namespace Go.Proofs.YtpngmpbmokhmiaaGreatDoor
open Go.Ae Go.Proofs.Lu Go.ChangeShapes Go.WideShapes Go.ChangeAt Go.RowKit Go.Deep
variable{p p1:List MemPlace}{H:Type}{v:Z}{n:Nat}
def own:ownKnob Tryz.prog.godebug=Q:=by kernel_rfl
def laidOut:laidOutB Tryz.prog=f:=by kernel_rfl
theorem afx{h1:bY}(h:laidMetH Tryz.prog Rows.viableGrowsRow.laid h1):Lu.Laid h1:=by
 rw[MakeChecks.laidMetH_plain _ _ _ (by kernel_rfl)]at h;obtain⟨ps,⟨ga,ta,csa,fa,pa,qa,hga,hta,hva,hda,⟨gb,tb,csb,fb,pb,qb,hgb,htb,hvb,hdb,_⟩,_⟩,_,_⟩:=h;obtain rfl:=dK<|(show Tryz.prog.globalNamed "unicode/utf8.acceptRanges" =D 2 by kernel_rfl).symm.trans hga;obtain rfl:=dK<|(show Tryz.prog.globalNamed "unicode/utf8.first" =D 1 by kernel_rfl).symm.trans hgb;obtain rfl:=dK<|(show(Tryz.prog.globals[2]?).map (·.type)=D 354 by kernel_rfl).symm.trans hta;obtain rfl:=dK<|(show(Tryz.prog.globals[1]?).map (·.type)=D 351 by kernel_rfl).symm.trans htb
 have block:∀{n:String}{g:Nat}{M:Array Z},Tryz.prog.globalNamed n=D g->h1.var? Tryz.prog n=D M->∃ty fr,h1.heap[g]?=D (.cells M ty fr):=by
  intro n g M hg hv;simp only[World.var?,hg,Option.bind_some]at hv;split at hv
  .next cs' ty fr hh=>cases hv;exact⟨ty,fr,hh⟩
  .cases hv
 obtain⟨tya,fra,ba⟩:=block hga hva;obtain⟨tyb,frb,bb⟩:=block hgb hvb;refine⟨?_,⟨tyb,csb,frb,bb,adh hdb⟩,⟨tya,csa,fra,ba,Y7 hda⟩⟩;have:=(dU.1 ba).1;omega
def rows_of{enc:aH×Z->H}{h1:bY}{d:DataW H}(h:DataW.Trod enc Tryz.prog h1 0 (λ_=>f) f 57 v d p){M:Array Z}(hv:v=.agg M):
 ∃(a b:Option Addr)(c e:Nat)(l m:List Int)(ty ty2:aH)(x hr:Z),v=.agg ⟨[x,hr]⟩/\je (λ_=>True) ty (EJ h1 T0) a l.length 1 (l.map vi)/\Hd a l.length c/\VR (BH h1<|EJ h1 T0) (I a l.length c) x/\je (λ_=>True) ty2 (EJ h1 T0) b m.length 1 (m.map vi)/\Hd b m.length e/\VR (BH h1<|EJ h1 T0) (I b m.length e) hr:=by
 subst hv;obtain⟨fuel,hd⟩:=h;have c22:Tryz.prog.cellsOf 22=1:=by kernel_rfl
 have c57:Tryz.prog.cellsOf 57=2:=by kernel_rfl
 obtain⟨xs,m,_,ex,hl,hn,hel⟩:=DataW.trod_array Tryz.underlying57 hd;rw[c57]at hl;obtain⟨l⟩:=M;have hl:l.length=2:=hl
 match l,hl with
 |[x,hr],_=>
  have f0:=hel 0 N;have f1:=hel 1 N;rw[c22,av N]at f0 f1
  match xs,hn,f0,f1 with
  |[(d0,p0),(d1,p1)],_,f0,f1=>
   have g0:DataW.trod enc Tryz.prog h1 0 (λ_=>f) f m 22 [x]=D (d0,p0):=f0;have g1:DataW.trod enc Tryz.prog h1 0 (λ_=>f) f m 22 [hr]=D (d1,p1):=f1;obtain⟨a,c,l0,ty,W,J,h3⟩:=afj g0;obtain⟨b,e,l1,ty2,h4,h5,h6⟩:=afj g1;exact⟨a,b,c,e,l0,l1,ty,ty2,x,hr,O,W,J,h3,h4,h5,h6⟩
def okWide_agg{P:aU}{w:bY}{r:Reach}{base:Nat}{t e:aH}(ht:P.underlying t=D (.array n e))(h:Value.okWide P w r base t v):∃M,v=.agg M:=by
 unfold Value.okWide at h;rw[ht]at h;obtain⟨M,W,_⟩:=h;exact⟨M,W⟩
def afy{h1:bY}(hL:Lu.Laid h1)(s:ByteArray){enc:aH×Z->H}{v1:Z}{d1:DataW H}(W:DataW.Trod enc Tryz.prog h1 0 (λ_=>f) f 57 v1 d1 p1)(o1:∃M,v1=.agg M):Calls Tryz.prog 4 #[.string s,v1] h1 λe w'=>e=.returned (.bool f)/\Below h1.heap.size h1 w':=by
 have hwf:Wf (EJ h1 T0):=ax _;obtain⟨M,o1⟩:=o1;obtain⟨a,b,c,e,l,m,ty,ty2,x,hr,rfl,hf,y,hv,hg,hr2,hv2⟩:=rows_of W o1;refine X5 (P:=Tryz.prog) (X:=X) (H:=EJ h1 T0) (b:=f) (args:=[.string s,.agg ⟨[I a l.length c,I b m.length e]⟩]) hL.size mixed (Ce.TE fns) xs ors Tryz.func4 (by kernel_rfl) ?_ (ax _) (aem λr o h=>nomatch h) (args':=[.string s,.agg ⟨[x,hr]⟩])<|.cons _ _ _ _ (.sc _ O)<|.cons _ _ _ _ (.agg _ _<|.cons _ _ _ _ hv<|.cons _ _ _ _ hv2 .nil) .nil;exact(Go.Proofs.Lv.viableGrows hwf hL.tabs s hf hg y hr2).mono λv T h=>⟨h.1,h.2.low _ (ax _) (ax _) λr h=>nomatch h⟩
def lifted(os:Os)(started:os.Started)(H:Type)(enc:aH×Z->H):
 ReturnsInHanded {} Tryz.checked os 4 .any (λw args=>(Rows.viableGrowsSpec.pre enc Tryz.prog Tryz.f4 [] aC w args/\laidMetH Tryz.prog Rows.viableGrowsRow.laid w)/\sizedMet enc Tryz.prog Tryz.f4 (OpenSpec.ofChange Rows.viableGrowsSpec) aC w args)
  (Rows.viableGrowsSpec.post enc Tryz.prog Tryz.f4 aC f aC aC):=by
 refine returnsInHanded_of_change_and (C:=Tryz.checked) (X:=λw _=>laidMetH Tryz.prog Rows.viableGrowsRow.laid w) (λ_ _ _ hh h=>h.of_heap hh) own started (by kernel_rfl) Tryz.func4
  (ChangeSpec.witness_shaped (enc:=enc) (C:=Tryz.checked) (os:=os) (X:=λw _=>laidMetH Tryz.prog Rows.viableGrowsRow.laid w) aC (World.laidAll Tryz.prog os Rows.viableGrowsRow.laid) #[.string ⟨#[]⟩,.agg #[I Q 0 0,I Q 0 0]] 8 (World.laidAll_os _ _ _)
   (World.shaped_of_ZipB (by kernel_rfl)<|by kernel_rfl) (by kernel_rfl) (by kernel_rfl) (by kernel_rfl)
   (by rw[MakeChecks.laidMetH_plain _ _ _ (by kernel_rfl)];exact laidMet_laidAll _ (by kernel_rfl)<|by kernel_rfl)) ?_
 intro h1 base args ds gs before hval0 hW _ hwt hL _;have hval:∀(j:Nat) t v,Tryz.f4.params[j]?=D t->args[j]?=D v->Value.okWide Tryz.prog h1 .any base t v:=hval0;have hW':=hW;obtain⟨p,q,hA0,hV,rfl,_,_⟩:=hW;have hA:DataW.TrodAll enc Tryz.prog h1 0 (λ_=>f) f Tryz.f4.params.toList args.toList ds p:=hA0;rw[Tryz.params4]at hA hval hwt;obtain⟨v0,vs0,d0,ds0,p0,q0,hargs,rfl,rfl,h0,r0⟩:=trodAll_cons hA;obtain⟨v1,vs1,d1,ds1,p1,q1,rfl,rfl,rfl,W,r1⟩:=trodAll_cons r0;obtain⟨rfl,rfl,rfl⟩:=trodAll_nil r1;obtain rfl:args=#[v0,v1]:=by cases args;simp_all
 obtain⟨rfl,rfl⟩:=trodVars_none hV;simp only[bq]at hW';obtain⟨fuel,hd⟩:=id h0;obtain⟨s,rfl⟩:=okWide_string Tryz.underlying9<|hval 0 9 v0 O O;refine(afy (afx hL) s W<|okWide_agg Tryz.underlying57<|hval 1 57 v1 O O).mono λe W' ⟨he,hb⟩=>?_;subst he;have hlt:∀x∈p0++p1,x.block<h1.heap.size:=λx E=>hW'.lt x (by simpa using E)
 have stays:∀{t:aH}{v:Z}{d:DataW H}{ps:List MemPlace},Tryz.prog.readableRec t=f->t<Tryz.prog.types.size->(∀x∈ps,x∈p0++p1)->DataW.Trod enc Tryz.prog h1 0 (λ_=>f) f t v d ps->DataW.Trod enc Tryz.prog W' 0 (λb=>decide<|b<h1.heap.size) f t v d ps:=λy ht hsub h=>
  WideElems.Trod_stays laidOut y ht h (λx E=>hb.same<|hlt x<|hsub x E) (λx E=>by simpa using hlt x (hsub x E))
 have g0:=stays (by kernel_rfl) (fM<|by kernel_rfl) (λx E=>by simp[E]) h0;have g1:=stays (by kernel_rfl) (fM<|by kernel_rfl) (λx E=>by simp[E]) W;refine⟨_,O,_,_,_,[],p0++(p1++[]),[],hW',trodAll_mk1<|shut_bool Tryz.underlying4 _,trodAll_cons_mk g0<|trodAll_cons_mk g1 trodAll_mk0,O,?_,λh=>by cases h⟩;simp only[bq,bN];refine World.keptBut_mono (λx E=>⟨E,?_⟩)<|hb.frame (·∈p0++p1);simpa using E
def named:Tryz.pinned.checked.prog.funcNamed Rows.viableGrowsRow.func=D 4:=by kernel_rfl
def Y8:Tryz.f4.isInstance Tryz.pinned.checked.prog Rows.viableGrowsRow.origin Rows.viableGrowsRow.targs:=fM (by kernel_rfl)
def wrapper:Tryz.f4.isWrapper Tryz.pinned.checked.prog Rows.viableGrowsRow.wrapper Rows.viableGrowsRow.mainSum:=by
 unfold Func.isWrapper
 first|(rw[if_pos (by decide +kernel)];kernel_rfl)|(rw[if_neg (by decide +kernel)];exact⟨O,O⟩)
def holds:Rows.ViableGrowsSaid:=
 OpenClaim.holds_of_wide 4 Tryz.f4 rfl rfl rfl rfl rfl rfl rfl ⟨rfl,rfl,rfl,rfl,rfl⟩ rfl rfl rfl rfl rfl named Tryz.func4 closed Y8 wrapper (λos started H enc _=>lifted os started H enc)
def afz:Rows.viableGrowsRow.wfByText (OpenSpec.ofChange Rows.viableGrowsSpec)=f:=by kernel_rfl
def Y9:Tryz.pinned.checked.prog.mainIs=D (f, "c7ba5974f1e424090d746d4cc289330a9863f6ddbae9006ee732232eac0b4017".toList):=by kernel_rfl
def U2:Tryz.prog.funcNamed "souffleur/souffleurlaw23.ViableGrows" =D 4:=by kernel_rfl
def U3:aC=Tryz.pinned.checked.prog.looks []:=by kernel_rfl
def U4:([9,57].all λrg=>!Tryz.prog.wantsStandIn rg)=f:=by kernel_rfl
def Y_:aC=Rows.viableGrowsRow.goesBy Tryz.pinned.checked.prog:=by kernel_rfl
theorem viableGrows_card:Rows.ViableGrowsCardSaid:=
 Claim7.holds_tied_plain_at .later [] [.data,.pinned] f (f, "c7ba5974f1e424090d746d4cc289330a9863f6ddbae9006ee732232eac0b4017") aC holds (λ_ h=>by cases h) afz (λ_ h=>by cases h) viableGrows_row_tie rfl ⟨rfl,rfl⟩ Y9 rfl
  (λay fn hf hfn=>by
   obtain rfl:ay=4:=dK (U2.symm.trans hf)|>.symm;obtain rfl:fn=Tryz.f4:=(dK<|Tryz.func4.symm.trans hfn).symm
   exact⟨U3,λj t ht=>by
    rw[Tryz.params4]at ht;have hm:t∈[9,57]:=by simpa using Array.mem_of_getElem? ht
    exact(show Tryz.prog.wantsStandIn t=aC by simpa using eG.1 U4 t hm)⟩)
  Y_
#print axioms viableGrows_card
end Go.Proofs.YtpngmpbmokhmiaaGreatDoor
