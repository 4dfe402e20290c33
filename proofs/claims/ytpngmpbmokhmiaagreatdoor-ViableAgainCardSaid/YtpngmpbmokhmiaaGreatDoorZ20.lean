/-
  ViableAgain: whatever text and row of numbers it is given, the call returns true; the listed package-level variables begin as the program text lays them.
-/
import Derived.Test.YtpngmpbmokhmiaaGreatDoorZ17
import Derived.Test.YtpngmpbmokhmiaaGreatDoorZ18
import Derived.Test.YtpngmpbmokhmiaaGreatDoorZ19
import Derived.Test.YtpngmpbmokhmiaaGreatDoorCards
import Derived.Test.YtpngmpbmokhmiaaGreatDoorTie
set_option linter.unusedVariables false
set_option linter.unusedSimpArgs false
set_option maxRecDepth 100000
set_option maxHeartbeats 4000000
set_option linter.defProp false
open Option renaming some->D,none->Q
open Bool renaming true->f,false->aC
open Go renaming Value->Z,TypeId->aH,World->bY
open Go.Value renaming int->bX,slice->I
open Classical renaming choose->jB
open List renaming range->f_
open And renaming intro->ik
noncomputable section
namespace Go.Proofs.Lu
open Go.Proofs.YtpngmpbmokhmiaaGreatDoor Go.Ae Go.ChangeShapes Go.WideShapes Go.ChangeAt Go.RowKit Go.Deep
variable{p:C MemPlace}{sp:Nat->Bool}{base fuel o r:Nat}{held:Bool}{H:Type}{M:C Z}{a b:Int}{v:Z}
abbrev T0:Nat->aB lI:=λ_=>Q
structure Laid(h1:bY):Prop where
 size:3<=h1.heap.size
 t1:∃(ty:aH)(M:Array Z)(fr:Nat×Nat),h1.heap[1]?=D (.cells M ty fr)/\M.toList=DZ.map λz=>bX .u8 (z:Nat)
 t2:∃(ty:aH)(M:Array Z)(fr:Nat×Nat),h1.heap[2]?=D (.cells M ty fr)/\M.toList=Jb.map λz=>bX .u8 (z:Nat)
def WY{h1:bY}{ty:aH}{M:Array Z}{fr:Nat×Nat}{l:C Nat}(h:h1.heap[r]?=D (.cells M ty fr))(e:M.toList=l.map λz=>bX .u8 (z:Nat)):(EJ h1 T0).obj r=vO ty .u8 l:=by
 have y:r<h1.heap.size:=(dU.1 h).1;rw[KL h1 T0 y];show(match h1.heap[r]? with|some o=>ahv o|none=>.dead)=_;rw[h];show lI.row ⟨ty,Tr.tu top (M.toList.map KJ) 0 .nil,M.size,f,0⟩=lI.row ⟨ty,Tr.tu top (mp (λn=>bX .u8<|Int.ofNat n) l) 0 .nil,len l,f,0⟩
 have e2:M.size=len l:=by
  rw[fU,<-oI,e,aK]
 rw[e,Fs,e2,vw];rfl
def Laid.tabs{h1:bY}(h:Laid h1):BL (EJ h1 T0):=by
 have⟨t1,c1,f1,W,e1⟩:=h.t1;have⟨t2,c2,f2,J,e2⟩:=h.t2;exact⟨h.size,t1,t2,WY W e1,WY J e2⟩
def adg{enc:aH×Z->H}{h1:bY}(h:DataW.trod enc Tryz.prog h1 base sp held fuel 5 M=D (.lit<|.int .u8 a,p)):M=[.int .u8 a]:=by
 have⟨n,e1,e2,_⟩:=DataW.trod_int Tryz.underlying5 h;have:a=n:=by injection e2 with e3 _;injection e3 with e4;injection e4
 rw[e1,this]
def afh{enc:aH×Z->H}{h1:bY}(h:DataW.trod enc Tryz.prog h1 base sp held fuel 353 M=D (.agg [.lit (.int .u8 a),.lit<|.int .u8 b],p)):M=[.int .u8 a,.int .u8 b]:=by
 have⟨ys,n,_,e,hl,hy,hf⟩:=DataW.trod_struct Tryz.underlying353 h;have c5:Tryz.prog.cellsOf 5=1:=by kernel_rfl
 have aiB:Tryz.prog.cellsOf 353=2:=by kernel_rfl
 rw[aiB]at hl;have e1:ys.map (·.1)=[.lit (.int .u8 a),.lit<|.int .u8 b]:=(DataW.agg.inj (Prod.mk.inj e).1).symm
 match M,hl with
 |[x,hr],_=>
  match ys,e1 with
  |[y0,y1],e1=>
   simp only[iC,jF,List.cons.injEq,xS]at e1;have⟨q0,q1⟩:=e1;have f0:=hf 0 _ O;have f1:=hf 1 _ O;have⟨d0,p0⟩:=y0;have⟨d1,p1⟩:=y1;simp only at q0 q1;subst q0 q1;have g0:DataW.trod enc Tryz.prog h1 base sp held n 5 (([x,hr].drop 0).take<|Tryz.prog.cellsOf 5)=D (.lit<|.int .u8 a,p0):=f0;have g1:DataW.trod enc Tryz.prog h1 base sp held n 5 (([x,hr].drop 1).take<|Tryz.prog.cellsOf 5)=D (.lit<|.int .u8 b,p1):=f1;rw[c5]at g0 g1;have h0:=adg g0;have W:=adg g1;simp at h0 W;rw[h0,W]
def adh{enc:aH×Z->H}{h1:bY}(h:DataW.trod enc Tryz.prog h1 base sp held fuel 351 M=D (.agg<|DZ.map λz=>.lit<|.int .u8 (z:Nat),p)):M=DZ.map λz=>bX .u8 (z:Nat):=by
 have⟨xs,m,_,ex,hl,hn,hel⟩:=DataW.trod_array Tryz.underlying351 h;have c5:Tryz.prog.cellsOf 5=1:=by kernel_rfl
 have am1:Tryz.prog.cellsOf 351=256:=by kernel_rfl
 have hlf:DZ.length=256:=by decide
 have e1:xs.map (·.1)=DZ.map λz=>.lit (.int .u8 (z:Nat)):=(DataW.agg.inj (Prod.mk.inj ex).1).symm;apply qN
 .rw[hl,am1,aK,hlf]
 intro i W J;rw[aK]at J;have h3:=hel i N;rw[c5,dz,av N]at h3;have h4:(xs.map (·.1))[i]?=(DZ.map λz=>DataW.lit<|.int .u8 (z:Nat))[i]?:=by rw[e1]
 rw[bF,bF,av (by omega:i<xs.length),av J]at h4;have h5:xs[i].1=.lit (.int .u8 (DZ[i]:Nat)):=mg h4;have h6:=adg (p:=xs[i].2) (a:=(DZ[i]:Nat)) (by rw[h3,<-h5]);have h7:((M.drop i).take 1)[0]?=D (bX .u8 (DZ[i]:Nat)):=by rw[h6];rfl
 simp at h7;rw[mJ];have h8:=bE.1 h7;exact h8.2
def PG:∀i,i<16->∃a b:Nat,(match(Rows.laid_unicode_utf8_acceptRanges:DataW Unit)with|.agg l=>l[i]?|_=>Q)=D (.agg [.lit (.int .u8 (a:Nat)),.lit<|.int .u8 (b:Nat)])/\Jb[i*2]?=D a/\Jb[i*2+1]?=D b:=by
 intro i hi;have:i=0\/i=1\/i=2\/i=3\/i=4\/i=5\/i=6\/i=7\/i=8\/i=9\/i=10\/i=11\/i=12\/i=13\/i=14\/i=15:=N;rcases this with rfl|rfl|rfl|rfl|rfl|rfl|rfl|rfl|rfl|rfl|rfl|rfl|rfl|rfl|rfl|rfl<;>exact⟨_,_,O,O,O⟩
def Y7{h1:bY}(h:DataW.trod (λ_=>()) Tryz.prog h1 base sp held fuel 354 M=D (Rows.laid_unicode_utf8_acceptRanges,p)):M=Jb.map λz=>bX .u8 (z:Nat):=by
 have⟨xs,m,_,ex,hl,hn,hel⟩:=DataW.trod_array Tryz.underlying354 h;have aiB:Tryz.prog.cellsOf 353=2:=by kernel_rfl
 have am2:Tryz.prog.cellsOf 354=32:=by kernel_rfl
 have hla:Jb.length=32:=by decide
 have e1:Rows.laid_unicode_utf8_acceptRanges=.agg (xs.map (·.1)):=(Prod.mk.inj ex).1;rw[am2]at hl;apply qN
 .rw[hl,aK,hla]
 intro i W J;rw[aK]at J;have⟨a,b,q1,q2,q3⟩:=PG (i/2) N;rw[e1]at q1;have q1:(xs.map (·.1))[i/2]?=D (.agg [.lit (.int .u8 (a:Nat)),.lit<|.int .u8 (b:Nat)]):=q1;rw[bF,av (by omega:i/2<xs.length)]at q1;have q1:xs[i/2].1=.agg [.lit (.int .u8 (a:Nat)),.lit<|.int .u8 (b:Nat)]:=mg q1;have h3:=hel (i/2) N;rw[aiB,av N]at h3;have h6:=afh (p:=xs[i/2].2) (a:=(a:Nat)) (b:=(b:Nat)) (by rw[h3,<-q1]);have h7:∀j,j<2->((M.drop<|i/2*2).take 2)[j]?=[bX .u8 (a:Nat),bX .u8 (b:Nat)][j]?:=λj _=>by rw[h6]
 rw[mJ];have hi2:i %2=0\/i %2=1:=N;rcases hi2 with h8|h8
 .have h9:=h7 0 N;rw[iW,if_pos N,pK,show i/2*2+0=i by omega,av W]at h9;rw[show i/2*2=i by omega,av J]at q2;have:=dK h9;rw[this,dK q2]
 .have h9:=h7 1 N;rw[iW,if_pos N,pK,show i/2*2+1=i by omega,av W]at h9;rw[show i/2*2+1=i by omega,av J]at q3;have:=dK h9;rw[this,dK q3]
def afi{H:R}(h:H.cell r o=D v):∃ty,yS H r ty:=by
 unfold R.cell at h;cases e:H.obj r with
 |row az=>exact⟨az.ty,az,e,O⟩
 |_=>rw[e]at h;cases h
theorem afj{enc:aH×Z->H}{h1:bY}{d:DataW H}(hv:DataW.trod enc Tryz.prog h1 0 (λ_=>f) f fuel 22 [v]=D (d,p)):
 ∃(a:aB Addr)(c:Nat)(l:C Int)(ty:aH),je (λ_=>True) ty (EJ h1 T0) a l.length 1 (l.map vi)/\Hd a l.length c/\VR (BH h1<|EJ h1 T0) (I a l.length c) v:=by
 have c3:Tryz.prog.cellsOf 3=1:=by kernel_rfl
 rcases open_slice1 Tryz.underlying22 c3 hv with⟨W,J⟩|⟨a,len,cap,m,n,V,ag,Pl,W,hb,hl,hm,hmm,E,hi⟩
 .cases W;exact⟨Q,0,[],3,je.nil _ _ _ _ _,.inl ⟨O,O,O⟩,.sc _ O⟩
 .cases W;rw[if_pos O]at hmm;subst hmm;rcases gM m with rfl|hpos
  .obtain rfl:len=0:=N;exact⟨D ⟨0,0,Q⟩,0,[],3,je.nil _ _ _ _ _,.inr ⟨0,0,O,ax _,bA _⟩,.wz _ _⟩
  .have⟨b,off,spot⟩:=a
   have hsp:spot=Q:=by
    have h3:=World.cell?_spot (hi 0 hpos).1;simpa [Addr.add]using h3
   subst hsp
   have P5:∀i,i<m->∃z:Int,V i=vi z:=by
    intro i him;have⟨z,e1,_,_⟩:=DataW.trod_int Tryz.underlying3 (hi i him).2;simp at e1;exact⟨z,e1⟩
   have hch:∀i,∃z:Int,i<m->V i=vi z:=λi=>by
    by_cases h:i<m
    .have⟨z,hz⟩:=P5 i h;exact⟨z,λ_=>hz⟩
    .exact⟨0,λhh=>absurd hh h⟩
   let ay:Nat->Int:=λi=>jB<|hch i
   have hf:∀i,i<m->V i=vi (ay i):=λi=>nJ<|hch i
   have hcell:∀i,i<m->b<h1.heap.size/\(EJ h1 T0).cell b (off+i)=D (vi<|ay i):=by
    intro i him;have h4:=(hi i him).1;rw[Addr.add_lit,hf i him]at h4;exact X6 O h4 O
   have hbl:=(hcell 0 hpos).1;have⟨ty,hty⟩:=afi (hcell 0 hpos).2;have hml:m<=9223372036854775807:=hm;have hln:((f_ len).map ay).length=len:=by rw[aK,qg]
   refine⟨D ⟨b,off,Q⟩,m,(f_ len).map ay,ty,⟨⟨by rw[aK];omega,λi x E=>?_⟩,λr o e _=>by cases e;exact⟨trivial,hbl,hty⟩⟩,.inr ⟨b,off,O,N,hml⟩,by rw[hln];exact aen hbl hml hl⟩;rw[vw,bF]at E;cases y:(f_ len)[i]? with
   |none=>rw[y]at E;cases E
   |some j=>
    rw[y]at E;obtain⟨hj,rfl⟩:=bE.1 y;cases E;rw[List.getElem_range];rw[qg]at hj;exact⟨b,off,O,hbl,(hcell i N).2⟩
end Go.Proofs.Lu
namespace Go.Proofs.Lv
open Go.Proofs.Lu Go.Proofs.Lu.Wk
open Go.Ae Go.Ae.cs
variable{tc:Nat}
section
variable{ty:aH}{H0 H:R}{L cs:List dL}{S H':List Nat}{SH F':Nat->Prop}{A:At}{q q':AV}{ev sv:Z}{sb:List Bool}{rw' most n:Nat}{l:List Int}{ta:Option Addr}
abbrev L3(r9 LQ JP:Nat)(k g a:List Z):List dL:=[(r9,43,k),(LQ,38,g),(JP,27,a)]
theorem viableAgain(hw:Wf H)(hT:BL H)(s:ByteArray)(hf:je F' ty H ta l.length 1<|ints l):aO Pg X 3 [.string s,I ta l.length tc] H (Q1 (λv _=>v=.bool f) H):=by
 have G:=F.refl hw;refine jS [0,1,4,5,6,8,9,10,11,12,13,14,15,16,17,18,19,20,22,23,24,26] ?_;refine aO.mono (U0 hw (BV.of hT) s) ?_;rintro v H1 ⟨⟨w,a,g,ok,rfl,ha,hg,hok⟩,E⟩;have G:=F.refl (G.call E).wf;refine bG ?_;refine G.iX λH2 JP G=>?_;refine G.iX λH3 LQ G=>?_;refine G.whole 1 O O ha λH4 la ea na G=>?_;refine G.whole 0 O O hg λH5 lg eg ng G=>?_;have G:F [] H1 H5 [(LQ,38,lg),(JP,27,la)]:=G;have works:∀{T:R}{K:Z->R->Prop},Ext H1 T->K (.bool f) T->aO Pg X 10 [] T K:=λhx' k=>aO.orc (ahs<|hT.ex<|E.trans hx') k;refine aT (λc=>?_) λc=>?_
 .refine works G.ext ?_;refine Lu.rr ?_;exact⟨O,E.trans G.ext⟩
 refine aT (λc30=>?_) λc30=>?_
 .refine works G.ext ?_;refine Lu.rr ?_;exact⟨O,E.trans G.ext⟩
 obtain⟨A,rw,q,q',ev,sv,sb,ho,hns,hty,hAq,rfl,rfl,hk⟩:=hok c;have hsm:=hAq.same ho;cases ea;have hn:l.length<=30:=N;have hk:=hk.both;refine tl ?_;have hWk:∀{T},Ext H1 T->Bh (λr=>H.next<=r/\r<H1.next) T rw A q' ev sv sb:=λE=>hk.stay E nofun;have hF:∀{T:R},Ext H1 T->∀r,H.next<=r/\r<H1.next->r<T.next:=λE r h=>aR h.2 E.next
 have Uf:A.ty<=65536:=N;refine eU ?_;refine G.cm (PE G.wf hns (n:=l.length) N) ?_;rintro v H6 rfl hx6 G;have hX6:=G.ext;refine aO.mono (adf ho Uf G.wf (hWk G.ext) (hF G.ext) (hf.ex<|E.trans G.ext) N<|Rm.en hns N<|ax _) ?_;rintro v H7 ⟨rp,ia,ic,oa,oc,SX,rfl,hz,hSX,hfi,hfo,hx7⟩;have G:=G.call hx7;have hX7:=G.ext;generalize hin:rY f 0 (zk A l)=IN at hfi hfo|-;generalize hout:rY aC 0 (zk A l)=OUT at hfi hfo|-;refine bG ?_;refine G.nI O O O λH8 r9 G Bg=>?_;refine bG ?_;refine dN (λh=>absurd (by trivial) h) λ_=>?_;have hp:(IN.map λi=>l[i]?.getD 0)=pick l (zk A l):=by rw[<-hin];exact LP l _<|ae.sF l _
 have hpl:(pick l<|zk A l).length=IN.length:=by rw[<-hp,aK]
 have hil:∀i∈IN,i<l.length:=λi hi=>by
  rw[<-hin]at hi;have:=(I5 _ _ i hi).2;rw[ae.sF]at this;omega
 have hle:IN.length<=l.length:=by
  rw[<-hin,<-ae.sF (A:=A) l (ae.new A)];exact PD _ _
 have hole:OUT.length<=l.length:=by
  rw[<-hout,<-ae.sF (A:=A) l (ae.new A)];exact PD _ _
 apply G.iI;refine G.cm (aiy G.wf (hf.ex<|E.trans G.ext) (hfi.ex Bg) hil N N) ?_;rintro v H9 ⟨pa,pc,rfl,hfp⟩ NN G;rw[hp,<-hpl]at hfp;refine eU ?_;refine G.cm (PE G.wf hns (n:=l.length) N) ?_;rintro v Dq rfl Ap G;have am8:=G.ext;rw[<-hpl];refine aO.mono (adf ho Uf G.wf (hWk G.ext) (hF G.ext) (hfp.ex Ap) N<|Rm.en hns N N) ?_;rintro v Sn ⟨rp2,ia2,ic2,oa2,oc2,SX2,rfl,hz2,am9,anI,ana,ae2⟩;have G:=G.call ae2;have anb:=G.ext;have⟨ag1,ag2⟩:=ae.again (A:=A) l<|ae.new A;rw[show za A (pick l<|zk A l)=za A l from ag1]at hz2;have⟨iz1,iz2⟩:=WW _ 0 ag2;have l2:(rY f 0<|zk A<|pick l<|zk A l).length=(pick l<|zk A l).length:=by rw[show rY f 0 (zk A<|pick l<|zk A l)=_ from iz1,List.length_range',ae.sF]
 rw[show rY aC 0 (zk A<|pick l<|zk A l)=[]from iz2]at ana|-;rw[l2];refine bG ?_;refine G.nI O O O λH12 r13 G aeW=>?_;refine bG ?_;refine dN (λh=>absurd (by trivial) h) λ_=>?_;refine eU ?_;rw[hpl];refine bG ?_;refine dN (λh=>absurd (by trivial) h) λ_=>?_;refine eU ?_;rw[hpl];refine bG ?_;refine dN (λh=>absurd (by trivial) h) λ_=>?_;refine eU ?_;refine dN (λh=>absurd (by trivial) h) λ_=>?_;have aiC:Ext H7 H12:=(((Bg.trans NN).trans Ap).trans ae2).trans aeW;have zW:ae.h1 A (za A l):=ae.ade ho l _<|ae.agK ho
 have zb:bnd A (za A l).long<=8000000:=by
  have h:(za A l).long<=l.length:=by
   have:=ae.adb (A:=A) l<|ae.new A
   rwa [show(ae.new A).long=0 from O,aY]at this
  exact a_ (Hu h) (Rm.en hns N<|ax _).b
 have anJ:=G;refine G.cm (LM ho Uf (hWk hX7) (λr y hm=>absurd (hSX r hm)<|eO<|aR y.2 hX6.next) (hz.ex aiC) zW zb) ?_;rintro v H13 hb1 YN G;refine G.cm (LM ho Uf (hWk anb) (λr y hm=>absurd (am9 r hm)<|eO<|aR y.2 am8.next) (hz2.ex<|aeW.trans YN) zW zb) ?_;rintro v' H14 hb2 afm G;refine aO.mono (UU (hb1.stay afm λr h=>nomatch h) hb2) ?_;rintro v Pv ⟨rfl,rfl⟩;refine bG ?_;refine aO.mono (ac9<|hz.ex<|(aiC.trans YN).trans afm) ?_;rintro v Pv ⟨rfl,rfl⟩;refine aO.mono (ac9<|hz2.ex<|(aeW.trans YN).trans afm) ?_;rintro v Pv ⟨rfl,rfl⟩;refine PU.of (am0 ..) ?_;refine(show∀{a b:Prop},b->xD (D aC) a b fromλh=>h) ?_;refine tl ?_;have hS1:F [] H1 Pv (L3 r9 LQ JP [I ia IN.length ic,I oa OUT.length oc] lg<|q.cells A):=F.drop (A:=[_]) G;have G:=hS1.base;have aiD:Ext H7 Pv:=(aiC.trans YN).trans afm;have h3:=hS1.GX (ty:=3) O;have old:∀{T:R}{L':List dL}{r o:Nat}{x:Z},F [r9,LQ,JP] Pv T L'->Pv.cell r o=D x->r<Pv.next/\r∉[r9,LQ,JP]->T.cell r o=D x:=λG hc y=>(kr (G.ext.obj _ y.1 y.2) _).trans hc
 have rdI:∀{i},(h:i<IN.length)->∃r o,zN 1 (I ia IN.length ic) (B i)=D (.pointer<|D ⟨r,o,Q⟩)/\Pv.cell r o=D (B IN[i])/\r<Pv.next/\r∉[r9,LQ,JP]:=λh=>let⟨r,o,g1,g2,g3,g4⟩:=(hfi.ex aiD).rd1 h<|jR _<|av h;⟨r,o,g1,g2,g3,λhm=>h3 _ hm g4⟩
 have rdO:∀{i},(h:i<OUT.length)->∃r o,zN 1 (I oa OUT.length oc) (B i)=D (.pointer<|D ⟨r,o,Q⟩)/\Pv.cell r o=D (B OUT[i])/\r<Pv.next/\r∉[r9,LQ,JP]:=λh=>let⟨r,o,g1,g2,g3,g4⟩:=(hfo.ex aiD).rd1 h<|jR _<|av h;⟨r,o,g1,g2,g3,λhm=>h3 _ hm g4⟩
 have rdT:∀{i},(h:i<l.length)->∃r o,zN 1 (I ta l.length tc) (B i)=D (.pointer<|D ⟨r,o,Q⟩)/\Pv.cell r o=D (vi l[i])/\r<Pv.next/\r∉[r9,LQ,JP]:=λh=>by
  obtain⟨r,o,g1,g2,g3,_⟩:=hf.rd1 h<|ints_at h;have Jw:=E.trans hS1.ext;refine⟨r,o,g1,(kr (Jw.obj r g3 nofun) _).trans g2,aR g3 Jw.next,λhm=>?_⟩;obtain⟨e,he,rfl⟩:∃e∈L3 r9 LQ JP [I ia IN.length ic,I oa OUT.length oc] lg (q.cells A),e.1=r:=bQ.1 hm;have:=hS1.wQ he;have:=E.next
  omega
 refine lp6 4 16 17 18 19 20 (ai:=λz x4 pG yo wN uC x20 T=>∃i,pG=B i/\i+z=OUT.length/\F [r9,LQ,JP] Pv T (L3 r9 LQ JP [I ia IN.length ic,I oa OUT.length oc] lg<|q.cells A)) ?_ OUT.length ⟨0,rfl,N,G⟩;clear G;rintro z x4 pG yo wN uC x20 u H16 ⟨i,rfl,hiz,G⟩;refine abG (λhc=>?_) λhc=>?_
 .refine tl ?_;refine G.cm (agQ (c:=1) (by decide) O G.wf λT _ hw'=>amZ hw' 9) ?_;rintro v Sr rfl anK G;refine bG ?_;refine G.nI O O O λH18 r1 G anL=>?_;have hX:=(hS1.over G).ext;refine G.cm (agQ (c:=31) (by decide) O G.wf λT hx' hw'=>afe ho hw'<|(hWk hX).stay hx' λr h=>nomatch h) ?_;rintro v H19 rfl anc G;refine bG ?_;refine G.nI O O O λH20 r2 G afn=>?_;refine G.kL ?_;refine PU.of (v:=.bool f) jr ?_;refine(show∀{a b:Prop},a->xD (D f) a b fromλh=>h) ?_;refine aT (λ_=>?_) λh=>absurd (by trivial) h;refine aT (λ_=>?_) λh=>absurd (by trivial) h;refine eU ?_;refine dQ ?_;refine bG ?_;refine aT (λ_=>?_) λh=>absurd mO h;refine works (hS1.over G).ext ?_;refine Lu.rr ?_;exact⟨O,E.trans (hS1.over G).ext⟩
 have hio:i<OUT.length:=N;refine gK.vg λK hK=>?_
 have fin:∀{Sr:R}{j:Nat}{gb:List dL}{yo wN:Z}{u:Rs},GB 3 1 yo (ints<|(IN.take j).map λi=>l[i]?.getD 0) gb->j<=IN.length->(∀i'∈IN.take j,i'<OUT[i])->(∀h:j<IN.length,OUT[i]<=IN[j])->F [r9,LQ,JP] Pv Sr (gb++L3 r9 LQ JP [I ia IN.length ic,I oa OUT.length oc] lg (q.cells A))->K (.exit 2<|ym (.string s) (I ta l.length tc) x4 (pr rw) (pr JP) (vi ok) (pr r9) (pr rp) (vi 0) (I pa IN.length pc) (pr r13) (pr rp2) (vi 0) (B i) yo wN uC x20 top top top top u Sr):=by
  intro Sr j gb yo wN u hgb hjl hlt hge G;rw[hK];have hah:=adl (l:=l) (bs:=zk A l) (ae.sF l _) (o:=OUT[i]) (j:=j) (by rw[hin];exact hjl) (by rw[hin];exact hlt) (by rw[hin];exact hge);rw[hin]at hah;have⟨r2,o2,e2,hc2,hr2⟩:=rdO hio;have hc2:=old G hc2 hr2
  have hol:OUT[i]<l.length:=by
   have:=(I5 _ _ OUT[i] (by rw[hout];exact bB hio)).2;rw[ae.sF]at this;omega
  have⟨r3,o3,e3,hc3,hr3⟩:=rdT hol;have hc3:=old G hc3 hr3;have ane:=G;refine bG ?_;refine tm ?_;refine PU.of e2 ?_;refine ME.ld (H:=hN Sr) hc2 ?_;simp only[gN G.wf];refine PU.of e3 ?_;refine ME.ld (H:=hN Sr) hc3 ?_;simp only[gN G.wf];refine G.PL O O O N λH18 ry G hc4=>?_;have hSy:=G;refine hgb.FM G N O O (by rw[aK,aK,dF];omega) λv' H19 gQ hgb' G anc Nj Vw=>?_;have hX:=(hS1.over G).ext;obtain⟨ah,ahn,ahc,rfl,alr,haf⟩:=hgb'.IA (SH:=λ_=>True) G λ_ _=>trivial;refine eU ?_;refine aO.mono (PE (nS<|hM (hM Sr H18) H19) hns (n:=l.length) N) ?_;rintro v H20 ⟨rfl,afn⟩;have G:=G.nH afn;have hX:=(hS1.over G).ext;generalize hL2:((IN.take j).map λi=>l[i]?.getD 0)++[l[OUT[i]]]=L2 at*;have anf:ints L2=ints ((IN.take j).map λi=>l[i]?.getD 0)++bK (vi l[OUT[i]]):=by rw[<-hL2];exact dA
  rw[<-anf]at haf alr;have hal:L2.length=ahn:=by rw[aK]at alr;omega
  subst hal
  have hl2:L2.length<=l.length:=by
   rw[<-hL2,aQ,aK,dF];have:=hah.2;rw[<-hah.1,aK,dF]at this;show _+1<=_;omega
  refine aO.mono (afb (l:=L2) ho Uf (nS _) ((hWk hX).stay (Ext.hN _) nofun) (hF (T:=hM (hM (hM Sr H18) H19) H20) hX) ((haf.ex afn.draw).ex<|Ext.hN _) N<|Rm.en hns N hl2) ?_;rintro v H21 ⟨rfl,als⟩;have G:=G.nH als;refine bG ?_;refine splitK (λK hK=>?_) ?_
  .simp only[d_,hc4,fP afn,fP als]
   have ngb:∀r,r<Pv.next/\r∉[r9,LQ,JP]->r∉gb.map (·.1):=λr y hm=>by
    obtain⟨e,he,rfl⟩:=bQ.1 hm;rcases(hSy.lo e<|bH _<|dn _ he).1 with h|h
    .exact y.2 h
    .omega
   have rd1:∀{r o:Nat}{x:Z},r<Pv.next/\r∉[r9,LQ,JP]->Sr.cell r o=D x->nG x x=f->∀w:Cl,w=⟨2,0,0,0,hM Sr H18,H19⟩->mY w ⟨4,r,o,1,hh0,hh0⟩=f:=λ{r o x} y hc hs w hw=>by
    subst hw;have e0:=y.2;have e1:=(hSy.ext.obj r y.1 e0).trans (ane.ext.obj r y.1 e0).symm;have e2:=Nj r (aR y.1 hSy.ext.next)<|ngb r y;exact ze ((rJ e1 o 1).trans<|QO hc) ((rJ (e2.trans e1) o 1).trans<|QO hc) (xH λhr hy=>by rw[aP]at hy;subst hy;exact hs)
   have rd2:∀{r o n:Nat}{ty:aH}{M:List Z},((r,ty,M):dL)∈L3 r9 LQ JP [I ia IN.length ic,I oa OUT.length oc] lg (q.cells A)->o+n<=M.length->(∀v∈(M.drop o).take n,nG v v=f)->∀w:Cl,w=⟨2,0,0,0,hM Sr H18,H19⟩->mY w ⟨4,r,o,n,hh0,hh0⟩=f:=λ{r o n ty M} hm hn hs w hw=>by
    subst hw;have hm':=bH (ry,3,bK<|vi l[OUT[i]])<|cZ gb hm;have hb:=hSy.bk _ hm'
    exact pP hb (hb.jb (Nj r (hSy.lo _ hm').2 λh=>by
     have⟨e,he,h⟩:=bQ.1 h;exact F.apart (A:=(ry,3,bK<|vi l[OUT[i]])::gb) hSy (bH _ he) hm h)) hn hs
   rcases Vw with e|e<;>rw[e]
   .exact UW jr jr hK
   apply C_ (H':=λw=>w=⟨2,0,0,0,hM Sr H18,H19⟩) jr jr hK<;>repeat' apply ik
   all_goals first|exact trivial|(intro h;cases h;done)|exactλ_=>rfl|exactλ_=>rd1 hr3 hc3 (sH _ _)|exactλ_=>rd1 hr2 hc2 (sH _ _)|skip
   .exactλ_=>rd2 (ty:=27) (M:=q.cells A) (aS (i:=2) O) (ax 6) λv hv=>hsm v<|jK<|eX hv
   .refineλ_=>rd2 (ty:=43) (M:=[I ia IN.length ic,I oa OUT.length oc]) (aS (i:=0) O) (ax 2) λv hv=>?_;have hv:v∈[I oa OUT.length oc]:=hv;rw[aP]at hv;subst hv;obtain⟨_,_,_,_,_,o5,e5,_⟩:=(hfo.ex aiD).1.idx (c:=oc) N hio;exact oF _ _ _ λx E=>by rw[e5]at E;cases E;rfl
  refine dN (λh=>absurd (by trivial) h) λ_=>?_;refine aT (λh=>?_) λ_=>?_
  .obtain⟨_,hno⟩:=ae.not l (ae.new A) (o:=OUT[i]) (by rw[show rY aC 0 ((ae.new A).kept A l)=OUT from hout];exact bB hio);rw[<-hL2,hah.1]at h;exact absurd h hno
  refine tl ?_;refine PU.of (jC 1 O N) ?_;exact⟨z-1,N,_,_,_,_,_,_,_,_,O,i+1,O,N,F.drop (A:=gQ) G⟩
 refine lp2 17 18 (ai:=λz yo wN T=>∃j gb,wN=B j/\j+z=IN.length/\GB 3 1 yo (ints<|(IN.take j).map λi=>l[i]?.getD 0) gb/\(∀i'∈IN.take j,i'<OUT[i])/\F [r9,LQ,JP] Pv T (gb++L3 r9 LQ JP [I ia IN.length ic,I oa OUT.length oc] lg (q.cells A))) ?_ IN.length ⟨0,[],rfl,N,GB.nil _ _,(λi' h=>by simp at h),G⟩;clear G;rintro z2 yo wN u Sr ⟨j,gb,rfl,hjz,hgb,hlt,G⟩;refine tl ?_;have⟨r2,o2,e2,hc2,hr2⟩:=rdO hio;have hc2:=old G hc2 hr2;refine X7 (λc1=>?_) λc1=>?_
 .refine iD (by simp only[d_];rfl) ?_;exact fin hgb N hlt (λh=>N) G
 have hji:j<IN.length:=N;have⟨r1,o1,e1,hc1,hr1⟩:=rdI hji;have hc1:=old G hc1 hr1;have⟨r3,o3,e3,hc3,hr3⟩:=rdT<|hil _<|bB hji;have hc3:=old G hc3 hr3;refine eU ?_;refine PU.of e1 ?_;refine ME.ld (H:=hN Sr) hc1 ?_;simp only[gN G.wf];refine eU ?_;refine PU.of e2 ?_;refine ME.ld (H:=hN Sr) hc2 ?_;simp only[gN G.wf,PP];refine iD (by simp only[d_];rfl) ?_;refine mF (λc2=>?_) λc2=>?_
 .exact fin hgb N hlt (λh=>N) G
 refine tm ?_;refine PU.of e1 ?_;refine ME.ld hc1 ?_;refine PU.of e3 ?_;refine ME.ld hc3 ?_;refine hgb.push G N O O O O O N (by rw[aK,aK,dF];omega) λw v' H18 gQ hgb' G=>?_;refine PU.of (jC 1 O N) ?_;refine⟨z2-1,N,_,_,_,_,O,j+1,gQ,O,N,?_,λi' h=>?_,G⟩
 .show GB 3 1 v' (List.map vi<|List.map (λi=>l[i]?.getD 0)<|IN.take<|j+1) gQ;rw[oO hji,dA,dA,List.map_singleton,List.map_singleton,av<|hil _<|bB hji];exact hgb'
 .rw[oO hji]at h;rcases bZ.1 h with h|h
  .exact hlt i' h
  .rw[aP.1 h];omega
end
end Go.Proofs.Lv
namespace Go.Proofs.YtpngmpbmokhmiaaGreatDoor
open Go.Ae Go.Proofs.Lu Go.ChangeShapes Go.WideShapes Go.ChangeAt Go.RowKit Go.Deep
def own:ownKnob Tryz.prog.godebug=Q:=by kernel_rfl
def laidOut:laidOutB Tryz.prog=f:=by kernel_rfl
def afx{h1:bY}(h:laidMetH Tryz.prog Rows.viableAgainRow.laid h1):Lu.Laid h1:=by
 rw[MakeChecks.laidMetH_plain _ _ _ (by kernel_rfl)]at h;obtain⟨ps,⟨ga,ta,csa,fa,pa,qa,hga,hta,hva,hda,⟨gb,tb,csb,fb,pb,qb,hgb,htb,hvb,hdb,_⟩,_⟩,_,_⟩:=h;obtain rfl:=dK<|(show Tryz.prog.globalNamed "unicode/utf8.acceptRanges" =D 2 by kernel_rfl).symm.trans hga;obtain rfl:=dK<|(show Tryz.prog.globalNamed "unicode/utf8.first" =D 1 by kernel_rfl).symm.trans hgb;obtain rfl:=dK<|(show(Tryz.prog.globals[2]?).map (·.type)=D 354 by kernel_rfl).symm.trans hta;obtain rfl:=dK<|(show(Tryz.prog.globals[1]?).map (·.type)=D 351 by kernel_rfl).symm.trans htb
 have block:∀{n:String}{g:Nat}{M:Array Z},Tryz.prog.globalNamed n=D g->h1.var? Tryz.prog n=D M->∃ty fr,h1.heap[g]?=D (.cells M ty fr):=by
  intro n g M hg hv;simp only[World.var?,hg,Option.bind_some]at hv;split at hv
  .next cs' ty fr hh=>cases hv;exact⟨ty,fr,hh⟩
  .cases hv
 obtain⟨tya,fra,ba⟩:=block hga hva;obtain⟨tyb,frb,bb⟩:=block hgb hvb;refine⟨?_,⟨tyb,csb,frb,bb,adh hdb⟩,⟨tya,csa,fra,ba,Y7 hda⟩⟩;have:=(dU.1 ba).1;omega
def afy{h1:bY}(hL:Lu.Laid h1)(s:ByteArray){H:Type}{enc:aH×Z->H}{v1:Z}{d1:DataW H}{p1:List MemPlace}(W:DataW.Trod enc Tryz.prog h1 0 (λ_=>f) f 22 v1 d1 p1)(o1:∃a n c,v1=I a n c):Calls Tryz.prog 3 #[.string s,v1] h1 λe w'=>e=.returned (.bool f)/\Below h1.heap.size h1 w':=by
 have hwf:Wf (EJ h1 T0):=ax _;obtain⟨xa,xn,xc,rfl⟩:=o1;obtain⟨fuel,hd⟩:=W;obtain⟨a,c,l,ty,hf,y,hv⟩:=afj hd;refine X5 (P:=Tryz.prog) (X:=X) (H:=EJ h1 T0) (b:=f) (args:=[.string s,I a l.length c]) hL.size mixed (Ce.TE fns) xs ors Tryz.func3 (by kernel_rfl) ?_ (ax _) (aem λr o h=>nomatch h) (args':=[.string s,I xa xn xc])<|.cons _ _ _ _ (.sc _ O)<|.cons _ _ _ _ hv .nil;exact(Go.Proofs.Lv.viableAgain hwf hL.tabs s hf).mono λv T h=>⟨h.1,h.2.low _ (ax _) (ax _) λr h=>nomatch h⟩
def lifted(os:Os)(started:os.Started)(H:Type)(enc:aH×Z->H):
 ReturnsInHanded {} Tryz.checked os 3 .any (λw args=>(Rows.viableAgainSpec.pre enc Tryz.prog Tryz.f3 [] aC w args/\laidMetH Tryz.prog Rows.viableAgainRow.laid w)/\sizedMet enc Tryz.prog Tryz.f3 (OpenSpec.ofChange Rows.viableAgainSpec) aC w args)
  (Rows.viableAgainSpec.post enc Tryz.prog Tryz.f3 aC f aC aC):=by
 refine returnsInHanded_of_change_and (C:=Tryz.checked) (X:=λw _=>laidMetH Tryz.prog Rows.viableAgainRow.laid w) (λ_ _ _ hh h=>h.of_heap hh) own started (by kernel_rfl) Tryz.func3
  (ChangeSpec.witness_shaped (enc:=enc) (C:=Tryz.checked) (os:=os) (X:=λw _=>laidMetH Tryz.prog Rows.viableAgainRow.laid w) aC (World.laidAll Tryz.prog os Rows.viableAgainRow.laid) #[.string ⟨#[]⟩,I Q 0 0] 8 (World.laidAll_os _ _ _)
   (World.shaped_of_ZipB (by kernel_rfl)<|by kernel_rfl) (by kernel_rfl) (by kernel_rfl) (by kernel_rfl)
   (by rw[MakeChecks.laidMetH_plain _ _ _ (by kernel_rfl)];exact laidMet_laidAll _ (by kernel_rfl)<|by kernel_rfl)) ?_
 intro h1 base args ds gs before hval0 hW _ hwt hL _;have hval:∀(j:Nat) t v,Tryz.f3.params[j]?=D t->args[j]?=D v->Value.okWide Tryz.prog h1 .any base t v:=hval0;have hW':=hW;obtain⟨p,q,hA0,hV,rfl,_,_⟩:=hW;have hA:DataW.TrodAll enc Tryz.prog h1 0 (λ_=>f) f Tryz.f3.params.toList args.toList ds p:=hA0;rw[Tryz.params3]at hA hval hwt;obtain⟨v0,vs0,d0,ds0,p0,q0,hargs,rfl,rfl,h0,r0⟩:=trodAll_cons hA;obtain⟨v1,vs1,d1,ds1,p1,q1,rfl,rfl,rfl,W,r1⟩:=trodAll_cons r0;obtain⟨rfl,rfl,rfl⟩:=trodAll_nil r1;obtain rfl:args=#[v0,v1]:=by cases args;simp_all
 obtain⟨rfl,rfl⟩:=trodVars_none hV;simp only[bq]at hW';obtain⟨fuel,hd⟩:=id h0;obtain⟨s,rfl⟩:=okWide_string Tryz.underlying9<|hval 0 9 v0 O O;refine(afy (afx hL) s W<|okWide_slice Tryz.underlying22<|hval 1 22 v1 O O).mono λe W' ⟨he,hb⟩=>?_;subst he;have hlt:∀x∈p0++p1,x.block<h1.heap.size:=λx E=>hW'.lt x (by simpa using E)
 have stays:∀{t:aH}{v:Z}{d:DataW H}{ps:List MemPlace},Tryz.prog.readableRec t=f->t<Tryz.prog.types.size->(∀x∈ps,x∈p0++p1)->DataW.Trod enc Tryz.prog h1 0 (λ_=>f) f t v d ps->DataW.Trod enc Tryz.prog W' 0 (λb=>decide<|b<h1.heap.size) f t v d ps:=λy ht hsub h=>
  WideElems.Trod_stays laidOut y ht h (λx E=>hb.same<|hlt x<|hsub x E) (λx E=>by simpa using hlt x (hsub x E))
 have g0:=stays (by kernel_rfl) (fM<|by kernel_rfl) (λx E=>by simp[E]) h0;have g1:=stays (by kernel_rfl) (fM<|by kernel_rfl) (λx E=>by simp[E]) W;refine⟨_,O,_,_,_,[],p0++(p1++[]),[],hW',trodAll_mk1<|shut_bool Tryz.underlying4 _,trodAll_cons_mk g0<|trodAll_cons_mk g1 trodAll_mk0,O,?_,λh=>by cases h⟩;simp only[bq,bN];refine World.keptBut_mono (λx E=>⟨E,?_⟩)<|hb.frame (·∈p0++p1);simpa using E
def named:Tryz.pinned.checked.prog.funcNamed Rows.viableAgainRow.func=D 3:=by kernel_rfl
def Y8:Tryz.f3.isInstance Tryz.pinned.checked.prog Rows.viableAgainRow.origin Rows.viableAgainRow.targs:=fM (by kernel_rfl)
def wrapper:Tryz.f3.isWrapper Tryz.pinned.checked.prog Rows.viableAgainRow.wrapper Rows.viableAgainRow.mainSum:=by
 unfold Func.isWrapper
 first|(rw[if_pos (by decide +kernel)];kernel_rfl)|(rw[if_neg (by decide +kernel)];exact⟨O,O⟩)
def holds:Rows.ViableAgainSaid:=
 OpenClaim.holds_of_wide 3 Tryz.f3 rfl rfl rfl rfl rfl rfl rfl ⟨rfl,rfl,rfl,rfl,rfl⟩ rfl rfl rfl rfl rfl named Tryz.func3 closed Y8 wrapper (λos started H enc _=>lifted os started H enc)
def afz:Rows.viableAgainRow.wfByText (OpenSpec.ofChange Rows.viableAgainSpec)=f:=by kernel_rfl
def Y9:Tryz.pinned.checked.prog.mainIs=D (f, "c7ba5974f1e424090d746d4cc289330a9863f6ddbae9006ee732232eac0b4017".toList):=by kernel_rfl
def U2:Tryz.prog.funcNamed "souffleur/souffleurlaw23.ViableAgain" =D 3:=by kernel_rfl
def U3:aC=Tryz.pinned.checked.prog.looks []:=by kernel_rfl
def U4:([9,22].all λrg=>!Tryz.prog.wantsStandIn rg)=f:=by kernel_rfl
def Y_:aC=Rows.viableAgainRow.goesBy Tryz.pinned.checked.prog:=by kernel_rfl
theorem viableAgain_card:Rows.ViableAgainCardSaid:=
 Claim7.holds_tied_plain_at .later [] [.data,.pinned] f (f, "c7ba5974f1e424090d746d4cc289330a9863f6ddbae9006ee732232eac0b4017") aC holds (λ_ h=>by cases h) afz (λ_ h=>by cases h) viableAgain_row_tie rfl ⟨rfl,rfl⟩ Y9 rfl
  (λay fn hf hfn=>by
   obtain rfl:ay=3:=dK (U2.symm.trans hf)|>.symm;obtain rfl:fn=Tryz.f3:=(dK<|Tryz.func3.symm.trans hfn).symm
   exact⟨U3,λj t ht=>by
    rw[Tryz.params3]at ht;have hm:t∈[9,22]:=by simpa using Array.mem_of_getElem? ht
    exact(show Tryz.prog.wantsStandIn t=aC by simpa using eG.1 U4 t hm)⟩)
  Y_
#print axioms viableAgain_card
end Go.Proofs.YtpngmpbmokhmiaaGreatDoor
