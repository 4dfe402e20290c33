/-
  Part 13 of the proof. No condition.
-/
import Derived.Test.YtdkcdlnfeodaaaaGreatDoorR12
set_option linter.unusedVariables false
set_option linter.unusedSimpArgs false
set_option maxRecDepth 100000
set_option maxHeartbeats 4000000
noncomputable section
namespace Go.Proofs.Lu
open Go.Ae Go.Ae.M Go.Proofs.Lv
variable{L M gb:List cz}{s:ByteArray}{b c e es i j k m n nc nn r rc tn vc:Nat}{H H' H0 H1:ag}{l zs:List Nat}{t ty:TypeId}{v w x x0 x1:Value}{cs dH eG rcs vcs:List Value}{a ea na ra va:Option Addr}{ox oy:Operand}{F' K:Nat->Prop}{T:Nat->ByteArray}{z:Int}{rl:List PR}{A:At}{d:WD}
section
variable{F:Nat->Prop}{S:List Nat}
theorem _root_.Go.Ae.Bk.ex(h:Bk H r ty cs)(hr:r<H.next)(hx:Ext H H'):Bk H' r ty cs:=h.mR<|hx.obj r hr λh=>nomatch h
abbrev ZW(tn:Nat)(P:At->Prop)(H:ag)(v:Value)(H':ag):Prop:=∃(x:Value)(e:Int),v=.tuple ⟨[x,vi e]⟩/\(aX x).length=6/\all' dK (aX x)=true/\(e=0->ZV tn P H x H')
def Gra(s:ByteArray)(A:At):Prop:=∃K T n nd rl,Lx s K T n 0 0/\Kz K n/\O9 K T 0 [] [] nd rl/\A.nr=fB (i_ rl) rl.length/\Gm.Is (tT nd rl) A/\Gm.Fit (tT nd rl) nd.length/\(rl.length<=120/\nd.length<=4000)/\∀y∈rl,y.2.1=PY y.1/\y.2.2<nd.length
theorem GrX.ex{rn:Nat}(h:GrX s b H rn rcs nn eG)(hx:Ext H H'):GrX s b H' rn rcs nn eG:=by
 obtain⟨K,T,n,nd,rl,h1,h2,h3,h4,h5,h6,h7⟩:=h;exact⟨K,T,n,nd,rl,h1,h2,h3,h4,h5,h6,λi x hi=>(h7 i x hi).st hx λ_ h=>nomatch h⟩
theorem ZX(h:∀i y,rl[i]?=some y->RuX (El rcs 7 i) y)(hi:i<rl.length):Gh rcs i=i_ rl i:=by
 have hy:rl[i]?=some (i_ rl i):=by unfold i_;rw[ae hi];rfl
 obtain⟨f,w,ch,at',e,_⟩:=h i _ hy;unfold Gh B6 vI rootOf;rw[e];rfl
theorem UpN.of{rn:Nat}(h:GrX s b H rn rcs nn eG):UpN rn rcs:=by
 obtain⟨K,T,n,nd,rl,h1,h2,h3,rfl,_,h5,_⟩:=h;have hu:=h3.up h1 h2.1 λy h=>nomatch h
 have key:∀i,i<rl.length->vI rcs i=PY (B6 rcs i):=λi hi=>by
  have e:=ZX h5 hi
  have:(Gh rcs i).2.1=PY (Gh rcs i).1:=by
   rw[e];unfold i_;rw[ae hi];exact hu _<|bF hi
  exact this
 intro i j hi hj e;rw[key i hi,key j hj,e]
theorem Gra.of{rn:Nat}{K:Nat->Int}{nd:List PN}(hL:Lx s K T n 0 0)(hK:Kz K n)(hP:O9 K T 0 [] [] nd rl)(hr:rn=rl.length)(hn:nn=nd.length)(hru:∀i y,rl[i]?=some y->RuX (El rcs 7 i) y)(hno:∀i x,nd[i]?=some x->TW F H (El eG 5 i) x)(hl:eG.length=nn*5)(hR:∀i,i<rn->0<=rootOf rcs i/\rootOf rcs i<nn)(hN:RP F H nn eG (λi=>(l8 nd i).1) λi=>(l8 nd i).2.1)(h1:rn<=120)(h2:nn<=4000)(hnr:A.nr=vk rcs rn)(hI:Gm.Is ⟨λi=>(l8 nd i).1,λi=>(l8 nd i).2.1,λk=>Dr rcs rn<|El eG 5 k,Wi (Gh rcs) rn⟩ A):Gra s A:=by
 subst hr hn;have hy:∀i,i<rl.length->Gh rcs i=i_ rl i:=λi hi=>ZX hru hi;have hu:=hP.up hL hK.1 λy h=>nomatch h
 have hro:∀i,i<rl.length->(i_ rl i).2.2<nd.length:=λi hi=>by
  rw[<-hy i hi];have:=hR i hi;show(rootOf rcs i).toNat<_;omega
 have hg:(⟨λi=>(l8 nd i).1,λi=>(l8 nd i).2.1,λk=>Dr rcs rl.length<|El eG 5 k,Wi (Gh rcs) rl.length⟩:Gm)=tT nd rl:=by
  have e1:(λk=>Dr rcs rl.length<|El eG 5 k)=(tT nd rl).G9:=by
   funext k;rcases aN k nd.length with hk|hk
   .have hx:nd[k]?=some (l8 nd k):=by unfold l8;rw[ae hk];rfl
    obtain⟨a,c,t,rs,at',e,_,_,ht,_⟩:=hno k _ hx;rw[e];show(if(l8 nd k).1=5 then mV (Gh rcs) t rl.length else none)=if(l8 nd k).1=5 then _ else _
    rcases fu ((l8 nd k).1=5)with h5|h5
    .rw[if_pos h5,if_pos h5,ht h5,K6 _ hy]
    .rw[if_neg h5,if_neg h5]
   .have e:El eG 5 k=[]:=by unfold El;rw[gJ aa];rfl
    have e2:l8 nd k=(0,[],e0):=by unfold l8;rw[dS hk];rfl
    rw[e];show none=if(l8 nd k).1=5 then _ else _
    rw[e2];rfl
  have e2:Wi (Gh rcs) rl.length=(tT nd rl).rt:=funext λl=>Py _ hy;rw[e1,e2]
 rw[hg]at hI;refine⟨K,T,n,nd,rl,hL,hK,hP,hnr.trans<|BN _ hy,hI,⟨λk hk=>?_,λk hk=>?_,λk l h=>?_⟩,⟨h1,h2⟩,λy hm=>⟨hu y hm,?_⟩⟩
 .obtain⟨_,_,_,_,_,_,_,_,_,_,h,_⟩:=hN k hk;exact h
 .obtain⟨_,_,_,_,_,_,_,_,_,h,_⟩:=hN k hk;rcases h with h|h|h|h
  .exact .inl h.1
  .exact .inr<|.inl h
  .exact .inr<|.inr<|.inl ⟨h.1,p9.1 h.2⟩
  .have h1:(l8 nd k).1=5\/(l8 nd k).1=6\/(l8 nd k).1=7:=h.1;exact .inr<|.inr<|.inr (show(5:Int)<=(l8 nd k).1 by omega)
 .have h:(if(l8 nd k).1=5 then mV (i_ rl) (l8 nd k).2.2 rl.length else none)=some l:=h;split at h
  .obtain⟨j,h3,_,h4,rfl⟩:=BM _ h;show Wi (i_ rl) rl.length (fB (i_ rl) j)<_;rw[Jo h4 _ h3];exact hro j h3
  .cases h
 .obtain⟨i,hi,rfl⟩:=fD hm;have:=hro i hi;unfold i_ at this
  rwa [ae hi]at this
theorem aiv(hw:Wf H){rz rv rg:Nat}{rn:Nat}(hG:Gr b H ra rn rcs na nn eG)(hC:zf (b<=·) H rn rcs nn eG/\1<=rn/\vI rcs 0=false)(hV:Vo F H va tn vcs)(hX:GrX s b H rn rcs nn eG)(hS:SH [] H H1 [(rz,26,[.slice none 0 0,.slice none 0 0,.slice none 0 0,.slice none 0 0,.slice none 0 0,vi 0]),(rv,79,[.slice va tn vc]),(rg,69,[.slice ra rn rc,.slice na nn nc])]){x6 x7 x8 x9 fC x34 G6 Ml:Value}{l7:List (Nat×Value)}:
 dJ Pg X (sub Y3 [1,1]) (Vh x0 x1 (pr rg) (pr rv) (pr rz) (vi 0) x6 x7 x8 x9 fC x34 G6 Ml l7 H1) (f_ Pg [.cell 4 26,.tmp 5]<|Q1 (ZW tn (Gra s) H) H):=by
 have g2:=hG.2.1;have g5:=hG.2.2.2.2.1;obtain⟨hC1,hC2,hC3⟩:=hC;refine tl ?_;refine hS.aY ?_;refine hS.eU ?_;refine hS.eU ?_;refine az.mono (RO hS.wf (hG.ex hS.ext) (λi hi=>(hC1.1 i hi).ex hS.ext) ⟨hV.1.ex hS.ext,hV.2⟩<|.of hX) ?_;rintro v H2 ⟨⟨rl,lcs,rfl,hl1,hl2,hl3,hl4,hl5⟩,hx2⟩;have hS:=hS.call hx2;obtain⟨K,T,np,nd,rl,TY,hK0,hGP,hrl,hnl,hru,hno⟩:=hX;have hNd:=RP.of hnl hno hC1.1;refine hS.eU ?_;refine az.mono (RQ hS.wf (hG.ex hS.ext) (hNd.ex hS.ext) hl3 hl2 hl4 hl5) ?_;rintro v H3 ⟨⟨rs,rr,ws,bs,rfl,⟨hs1,hs2⟩,⟨hr1,hr2⟩,hs3,hr3,hwl,hbl,hsz⟩,hx3⟩;have hS:=hS.call hx3;have hfs:jT (λ_=>True) 3 H3 (some ⟨rs,0,none⟩) nn 1 (fG ws):=hs3.PT hs2 (by rw[bG,aC];exact hwl) trivial;have hfr:jT (λ_=>True) 4 H3 (some ⟨rr,0,none⟩) nn 1 (bools bs):=hr3.PT hr2 (by rw[bG,aC];exact hbl) trivial;have hl3:=hl3.ex hl2 hx3
 repeat(first|(refine hS.aY ?_)|(refine hS.dQ ?_))
 refine PV 5 9 11 36 (I:=λm x5 x9 fC Ml H'=>∃i,Ml=vn i/\i+m=rn/\x5=vi 0/\x9=vn (min (Dv rcs ws i) 4001)/\Ext H3 H'/\(∀j,j<i->vI rcs j=false->B bs (rootOf rcs j).toNat=true)/\SH [] H H' [(rz,26,[.slice none 0 0,.slice none 0 0,.slice none 0 0,.slice none 0 0,.slice none 0 0,vi 0]),(rv,79,[.slice va tn vc]),(rg,69,[.slice ra rn rc,.slice na nn nc])]) ?_ rn ⟨0,rfl,aa,rfl,rfl,Ext.refl _,λj h=>absurd h aa,hS⟩;clear hS;rintro m x5 x9 fC Ml l7 H4 ⟨i,rfl,him,rfl,rfl,hx4,hbs,hS⟩;refine tl ?_;refine aF ?_;refine ah (λhc=>?_) λhc=>?_;rotate_left
 .obtain rfl:i=rn:=by omega
  refine tl ?_;refine aF ?_;refine ah (λh4=>?_) λh4=>?_
  .refine PU.b6 rfl ?_;refine hS.kJ λHn hS=>?_;refine Lu.rr ?_;refine hS.eU ?_;exact⟨⟨_,_,rfl,rfl,rfl,λh=>absurd h<|by decide⟩,hS.ext⟩
  have ht:Dv rcs ws i<=4000:=by omega
  repeat(refine hS.eU ?_)
  have hx:=hx3.trans hx4;have aiw:=λ{A:At}=>Gra.of (A:=A) TY hK0 hGP hrl hnl hru hno hG.2.2.2.1.1.1 hC1.2 hNd aa g5;refine az.mono (R7 hS.wf (hG.ex hS.ext) (hNd.ex hS.ext) hC1.2 hC3 hC2 ⟨hl3.ex (aH hl2 hx3.next) hx4,aH hl2 hx.next,hl4⟩ hl5 ⟨hs3.ex hs2 hx4,aH hs2 hx4.next,hwl⟩ hsz hbs ht) ?_;rintro v H5 ⟨⟨A,q,rfl,hA,hok,hty,hnr,hI⟩,hx5⟩;have hge:=hS.ext.next
  have hlo:=hS.lo;have hS:=hS.call hx5;have hO:=hS.base;refine hO.st 0 rfl rfl (aj 6) rfl λH6 hO6=>?_
  have hA:=hA.stay hO6.ext (λr hr=>by
   obtain⟨e,he,rfl⟩:=aZ.1 hr;exact nA (hlo e he).2)
  have hS:SH [] H H6 [(rz,26,q.cells A),(rv,79,[.slice va tn vc]),(rg,69,[.slice ra i rc,.slice na nn nc])]:=hS.over hO6;refine Lu.rr ?_;refine hS.eU ?_;exact⟨⟨_,_,rfl,rfl,rfl,λ_=>⟨A,q,rfl,hA.wk λr hr=>by omega,hok,hty,aiw hnr hI⟩⟩,hS.ext⟩
 have hi:i<rn:=by omega
 obtain⟨r1,o1,tQ,u1,f1,w1,c1,a1,e1,hl1,xw,qP,hsz1,hel⟩:=hG.ru hi rc;have hroot:=hC1.2 i hi;have htt:Dv rcs ws (i+1)=Dv rcs ws i+(if vI rcs i=true then 0 else 2+W ws (rootOf rcs i).toNat):=rfl;rw[BK hel]at htt;obtain⟨k,hk⟩:∃k:Nat,rootOf rcs i=k:=⟨(rootOf rcs i).toNat,aa⟩;have hkn:k<nn:=by omega
 rw[e1];refine aF ?_;refine hS.xZ xw hl1 ?_;refine hS.mO rfl rfl rfl λH5 ru hS hx5=>?_;have hS:SH [] H H5 [(ru,141,sZ tQ u1 f1 w1 c1 (rootOf rcs i) a1),(rz,26,[.slice none 0 0,.slice none 0 0,.slice none 0 0,.slice none 0 0,.slice none 0 0,vi 0]),(rv,79,[.slice va tn vc]),(rg,69,[.slice ra rn rc,.slice na nn nc])]:=hS;have abV:=hx4.trans hx5;rw[hk]at hS htt
 repeat(first|(refine hS.aY ?_)|(refine hS.dQ ?_))
 refine bO (λhb=>?_) λhb=>?_
 .rw[if_pos hb]at htt;refine bE ?_
  exact⟨rn-(i+1),aa,_,_,_,_,_,_,rfl,i+1,uN,aa,rfl,by rw[htt];rfl,abV,λj hj hu=>(by
   rcases aN j i with h|h
   .exact hbs j h hu
   .obtain rfl:j=i:=by omega
    rw[BK hel,hb]at hu;cases hu),SH.drop (A:=[_]) hS⟩
 rw[if_neg (by rw[hb];simp)]at htt;refine hS.dQ ?_;refine(hfr.ex abV).ix (k:=k) (v:=.bool<|bs[k]?.getD false) hkn (by rw[aR,ae (show k<bs.length by omega)];rfl) λp=>?_;refine aF ?_;refine bO (λhb2=>?_) λhb2=>?_
 .refine PU.b6 rfl ?_;refine hS.kJ λHn hS=>?_;refine Lu.rr ?_;refine hS.eU ?_;exact⟨⟨_,_,rfl,rfl,rfl,λh=>absurd h<|by decide⟩,hS.ext⟩
 have hWk:W ws k<=4001:=agW (hsz k hkn).1;have hW2:W ws ((k:Int)).toNat=W ws k:=rfl;refine bE ?_;refine hS.dQ ?_;refine(hfs.ex abV).ix (k:=k) (v:=vn<|W ws k) hkn (by rw[aR,ae (show k<ws.length by omega)];show _=some (vn<|ws[k]?.getD 0);rw[ae (show k<ws.length by omega)];rfl) λp=>?_;refine bE ?_;rw[min2];refine aF ?_;refine bE ?_
 exact⟨rn-(i+1),aa,_,_,_,_,_,_,rfl,i+1,uN,aa,rfl,by rw[show min (((min (Dv rcs ws i) 4001:Nat):Int)+2+(W ws k:Int)) 4001=((min (Dv rcs ws<|i+1) 4001:Nat):Int) by omega],abV,λj hj hu=>(by
  rcases aN j i with h|h
  .exact hbs j h hu
  .obtain rfl:j=i:=by omega
   rw[hk];show B bs k=true;simpa [B]using hb2),SH.drop (A:=[_]) hS⟩
end
section
variable{F:Nat->Prop}{S:List Nat}
theorem MY(hw:Wf H){rn:Nat}(hG:Gr b H ra rn rcs na nn eG)(hcap:na=none\/nc=dV 5)(hV:Vo F H va tn vcs)(hX:1<=rn->GrX s b H rn rcs nn eG):
 az Pg X 30 [gV ra rn rc na nn nc,vV va tn vc] H (Q1 (ZW tn (Gra s) H) H):=by
 have hS:=SH.refl hw;refine ce [0,1,2,3,4,5,6,7,8,9,11,34,35,36] ?_;refine tl ?_;refine hS.box rfl λH1 rg hS=>?_;refine hS.box rfl λH2 rv hS=>?_;refine hS.iI λH3 rz hS=>?_;refine hS.nN ?_;refine hS.aY ?_;have hG3:=hG.ex hS.ext;refine az.mono (Jn (qH H3) (show Gr b (hN H3) ra rn rcs na nn eG from hG3)) ?_;rintro v H4 ⟨⟨z,a,c,rfl,hcl⟩,hx4⟩;have aix:=hS.ext;have hS:=hS.oV hx4;rw[Dk];refine aF ?_;refine bq (λhc=>?_) λhc=>?_
 .refine splitK (λK hK=>?_) ?_
  .exact lN (by simp only[cB,dL hx4];rfl) hK
  refine PU.b6 rfl ?_;refine hS.kJ λHn hS=>?_;refine rr ?_;refine hS.eU ?_;exact⟨⟨_,_,rfl,rfl,rfl,λh=>absurd h<|by decide⟩,hS.ext⟩
 have hC:=hcl hc;have hC:zf (b<=·) H rn rcs nn eG/\1<=rn/\vI rcs 0=false:=⟨zf.back hG aix hC.1.1,hC.1.2.1,hC.2⟩;refine hS.nN ?_;refine hS.aY ?_;refine az.mono (Px (qH _) (show Gr b (hN<|hM H3 H4) ra rn rcs na nn eG from(hG.ex hS.ext:Gr b (hM H3 H4) ra rn rcs na nn eG)) hcap) ?_;rintro v H5 ⟨⟨ya,yn,yc,ycs,rfl,hY⟩,hx5⟩;have hS:=hS.oV hx5;refine hS.nN ?_;refine hS.aY ?_;refine az.mono (RN (qH _) (F:=((hN<|hM H3 H4).next<=·)) (F':=F) (a:=ya) (n:=yn) (c:=yc) (cs:=ycs) (a':=va) (n':=tn) (c':=vc) (cs':=vcs) ?_ ?_) ?_
 .exact hY
 .exact⟨(show jT F 149 (hN<|hM (hM H3 H4) H5) va tn 4 vcs from(hV.1.ex hS.ext:jT F 149 (hM (hM H3 H4) H5) va tn 4 vcs)),hV.2⟩
 rintro v H6 ⟨⟨bb,rfl⟩,hx6⟩;have hS:=hS.oV hx6;refine aF ?_;refine splitK (λK hK=>?_) ?_
 .exact lN (by simp only[cB,dL hx4,dL hx5,dL hx6];rfl) hK
 refine bO (λhb=>?_) λhb=>?_
 .refine PU.b6 rfl ?_;refine hS.kJ λHn hS=>?_;refine rr ?_;refine hS.eU ?_;exact⟨⟨_,_,rfl,rfl,rfl,λh=>absurd h<|by decide⟩,hS.ext⟩
 exact aiv hw hG hC hV (hX hC.2.1) hS
end
section
variable{F:Nat->Prop}{S:List Nat}
theorem R8(hw:Wf H){q:AV}:az Pg X 17 [q.v A] H (Q1 (λv _=>v=vn A.ns) H):=by
 have hS:=SH.refl hw;refine ce [0,1,2] ?_;refine tl ?_;refine hS.box rfl λH1 rg hS=>?_
 repeat(first|(refine hS.aY ?_)|(refine hS.dQ ?_))
 refine rr ?_;exact⟨rfl,hS.ext⟩
abbrev ag7(s:ByteArray)(H:ag)(v:Value)(H':ag):Prop:=∃(A:At)(q:AV),v=q.v A/\BO (H.next<=·) H' A q/\A.Ok/\A.ns<=1000/\s.size<=1500/\Gra s A
theorem VM(hw:Wf H)(hT:AP H)(s:ByteArray):az Pg X 8 [.string s] H (Q1 (λv H'=>∃(x:Value)(ok:Int),v=.tuple ⟨[x,vi ok]⟩/\(aX x).length=6/\all' dK (aX x)=true/\(ok≠0->ag7 s H x H')) H):=by
 have hS:=SH.refl hw;refine ce [0,2,3,4,5,6,7] ?_;refine tl ?_;refine hS.iI λH1 rz hS=>?_;refine aF ?_;refine ah (λhc=>?_) λhc=>?_
 .refine PU.b6 rfl ?_;refine hS.kJ λHn hS=>?_;refine rr ?_;refine hS.eU ?_;exact⟨⟨_,_,rfl,rfl,rfl,λh=>absurd rfl h⟩,hS.ext⟩
 have hsz:s.size<=1500:=by omega
 refine az.mono (J5 hS.wf (hT.ex hS.ext) s) ?_;rintro v H2 ⟨⟨ra,rn,rc,rcs,na,nn,nc,eG,cd,e,rfl,hG,hcap,hX⟩,hx2⟩;have hS:=hS.call hx2;refine hS.aY ?_;have hS0:=hS;have hS:=SH.refl hS0.wf;refine hS.iI λH3 rg hS=>?_;refine hS.iI λH4 re hS=>?_
 repeat(first|(refine hS.aY ?_)|(refine hS.dQ ?_)|(refine hS.kJ λHn hS=>?_))
 have ag8:=hS.ext;have hS:SH [] H _ [(re,72,[vi cd,vi e]),(rg,69,[.slice ra rn rc,.slice na nn nc]),(rz,26,[.slice none 0 0,.slice none 0 0,.slice none 0 0,.slice none 0 0,.slice none 0 0,vi 0])]:=SH.frame (M:=[]) hS0 hS;refine bq (λhc=>?_) λhc=>?_
 .refine PU.b6 rfl ?_;refine hS.kJ λHn hS=>?_;refine rr ?_;refine hS.eU ?_;exact⟨⟨_,_,rfl,rfl,rfl,λh=>absurd rfl h⟩,hS.ext⟩
 have hG3:Gr H1.next Hn ra rn rcs na nn eG:=hG.ex ag8
 repeat(first|(refine hS.aY ?_)|(refine hS.nN ?_))
 refine az.mono (Px (qH _) (show Gr H1.next (hN Hn) ra rn rcs na nn eG from hG3) hcap) ?_;rintro v H5 ⟨⟨ya,yn,yc,ycs,rfl,hY⟩,hx5⟩;have hS:=hS.oV hx5;have hlo:=hS.lo;have hge:=hS.ext.next
 refine az.mono (MY (qH _) (F:=((hN Hn).next<=·)) (show Gr H1.next (hN<|hM Hn H5) ra rn rcs na nn eG from(hG3.ex hx5.draw:Gr H1.next (hM Hn H5) ra rn rcs na nn eG)) hcap hY (s:=s) λh=>(show GrX s H1.next (hN<|hM Hn H5) rn rcs nn eG from(((hX h).ex ag8).ex hx5.draw:GrX s H1.next (hM Hn H5) rn rcs nn eG))) ?_;rintro v H6 ⟨⟨x,e,rfl,hl6,hk6,hA⟩,hx6⟩;have hS:=hS.oV hx6;refine aF ?_;have hS0:=hS;have hS:=SH.refl hS0.wf;refine hS.VD λH7 rm hS f7=>?_
 have hnr:rm≠rg:=by
  have h1:=hS.zN<|aD ..
  have h2:=(hS0.lo _<|aA (i:=1) rfl).2;intro h;subst h;exact jF h1 h2
 refine hS.qJ (hl:=hl6) (hk:=hk6) λH8 hS=>?_;refine splitK (λK hK=>?_) ?_
 .simp only[cB,dL hx5,dL hx6,f7,dn];rw[dG,hl6];apply q_ (a:=rm) (b:=rg) hnr (by intros;rfl) (by kernel_rfl) (by kernel_rfl) hK
 have hxB:=hS.ext;have hS:=SH.frame (M:=[]) hS0 hS;simp only[a_,bB]at hS;refine bq (λhc=>?_) λhc=>?_
 .refine PU.b6 rfl ?_;refine hS.kJ λHn hS=>?_;refine rr ?_;refine hS.eU ?_;exact⟨⟨_,_,rfl,rfl,rfl,λh=>absurd rfl h⟩,hS.ext⟩
 obtain⟨A,q,rfl,hA,hok,hty,hgr⟩:=hA hc;have hS:SH [] H _ [(rm,26,q.cells A),(re,72,[vi cd,vi _]),(rg,69,[.slice ra rn rc,.slice na nn nc]),(rz,26,[.slice none 0 0,.slice none 0 0,.slice none 0 0,.slice none 0 0,.slice none 0 0,vi 0])]:=hS;refine hS.eU ?_;refine az.mono (R8 hS.wf) ?_;rintro v H9 ⟨rfl,hx9⟩;have hS:=hS.call hx9;refine aF ?_;refine ah (λhc=>?_) λhc=>?_
 .refine PU.b6 rfl ?_;refine hS.kJ λHn hS=>?_;refine rr ?_;refine hS.eU ?_;exact⟨⟨_,_,rfl,rfl,rfl,λh=>absurd rfl h⟩,hS.ext⟩
 have hA:BO ((hM Hn H5).next<=·) (hM (hM Hn H5) H6) A q:=⟨hA.n,hA.s,hA.p,hA.o,hA.e⟩;have hA:=(hA.ex hxB).ex hx9;have hS:=hS.perm (L':=[(rz,26,[.slice none 0 0,.slice none 0 0,.slice none 0 0,.slice none 0 0,.slice none 0 0,vi 0])]++[(rm,26,q.cells A),(re,72,[vi cd,vi _]),(rg,69,[.slice ra rn rc,.slice na nn nc])])<|au (l₁:=[_,_,_]);refine hS.CU 1 rfl (aj 6) ?_;have hO:=SH.own hS;refine hO.st 0 rfl rfl (aj 6) rfl λH10 hO=>?_
 have hA:=hA.stay hO.ext (λr hr=>by
  obtain rfl:r=rz:=aO.1 hr;exact nA (hlo _<|aA (i:=2) rfl).2)
 have hS:SH [] H H10 [(rz,26,q.cells A),(rm,26,q.cells A),(re,72,[vi cd,vi _]),(rg,69,[.slice ra rn rc,.slice na nn nc])]:=SH.frame hS hO;refine rr ?_;refine hS.CU 0 rfl (aj 6) ?_;exact⟨⟨_,_,rfl,rfl,rfl,λ_=>⟨A,q,rfl,hA.wk λr hr=>aW hge hr,hok,aa,hsz,hgr⟩⟩,hS.ext⟩
end
section
open Go.Ae Go.Ae.M Go.Ae.AM
abbrev VN(n:Nat):Value:=.int .u8 (n:Int)
theorem R9:∀(l:List Nat),(∀x∈l,x<256)->om (l.map VN)=some (l.map UInt8.ofNat):=by
 intro l
 induction l with
 |nil=>intro _;rfl
 |cons x l ih=>
  intro h;have hx:=h x<|aD ..
  show(ax (Hq<|.ofNat x) λn=>gd (Gp .u8&&Nat.ble n 255)<|ax (om<|l.map VN) λbs=>some<|UInt8.ofNat n::bs)=_;rw[ih λy hy=>h y<|aT _ hy];show gd (Nat.ble x 255) (some<|UInt8.ofNat x::l.map UInt8.ofNat)=_;rw[av aa,yz];rfl
theorem ag9(l:List Nat)(h:∀x∈l,x<256):tx ⟨⟨l.map UInt8.ofNat⟩⟩=l:=by
 unfold tx;show(l.map UInt8.ofNat).map UInt8.toNat=l;rw[vw]
 conv=>rhs;rw[<-List.map_id l]
 refine nV λx hx=>?_;have:=h x hx;simp[UInt8.toNat_ofNat'];omega
theorem strOf(hl:∀n∈l,n<256)(hn:0<l.length)(hS:SH [] H0 H L){Kp:Value->Prop}{Km:Value->ag->Prop}(k:∀t,tx t=l->SH [] H0 (H.new<|rowOf 5<|l.map VN) L->Km (.string t) (H.new<|rowOf 5<|l.map VN)):
 CV (zR Pg 225 9<|.slice (some ⟨H.next,0,none⟩) l.length l.length) (qw Pg 225 9 (.slice (some ⟨H.next,0,none⟩) l.length l.length)<|H.new<|rowOf 5<|l.map VN) Kp Km:=by
 have hS2:=hS.grow 5<|l.map VN;have hb:Bk (H.new<|rowOf 5<|l.map VN) H.next 5 (l.map VN):=hS2.get 0 rfl
 have hr:=hb.read (o:=0) (n:=l.length) (by simp);have hq:qw Pg 225 9 (.slice (some ⟨H.next,0,none⟩) l.length l.length) (H.new<|rowOf 5<|l.map VN)=ax ((H.new<|rowOf 5<|l.map VN).read H.next 0 l.length) λz=>ax (om z) λbs=>some (.string ⟨⟨bs⟩⟩,H.new<|rowOf 5<|l.map VN):=by kernel_rfl
 refine CV.me (by kernel_rfl) (v:=.string ⟨⟨l.map UInt8.ofNat⟩⟩) (H1:=H.new<|rowOf 5<|l.map VN) ?_<|k _ (ag9 l hl)<|SH.drop (A:=[_]) hS2;rw[hq,hr,iR,fO<|by simp];show(ax (om<|l.map VN) λbs=>some (Value.string ⟨⟨bs⟩⟩,_))=_;rw[R9 l hl];rfl
theorem ZY{a b:Int}{A B:Prop}(h1:a<b->A)(h2:¬a<b->B):zk (some<|decide<|a<b) A B:=ah h1 h2
theorem ZZ{P:Program}{a:Nat}(hb:0<b)(h:a<=9223372036854775807):jb P .rem t ox oy (vn a) (vn b)=some (vn<|a %b):=iJ rfl (by
 show gU (Op.intDiv .rem .i64 a b)=_;unfold Op.intDiv;rw[if_neg aa];show some (Value.int .i64<|(a:Int).tmod b)=_;have h1:(a:Int).tmod b=((a %b:Nat):Int):=by rw[Int.tmod_eq_emod_of_nonneg aa];rfl
 have h2:a %b<=a:=Nat.mod_le _ _;rw[h1])
theorem Cs(h:n<256):fZ .u8 (n:Int)=(n:Int):=OL h
theorem VO{P:Program}{a:Nat}(b:Nat)(e:z=(b:Int))(hb:0<b)(h:a<=9223372036854775807):jb P .quo t ox oy (vn a) (.int .i64 z)=some (vn<|a/b):=by subst e;exact Ox aa aa aa
theorem addN{P:Program}(a:Nat)(e:z=(a:Int))(h:a+b<=9223372036854775807):jb P .add t ox oy (.int .i64 z) (vn b)=some (vn<|a+b):=by subst e;exact dI aa aa
theorem nL{P:Program}{a:Nat}(b:Nat)(e:z=(b:Int))(hb:0<b)(h:a<=9223372036854775807):jb P .rem t ox oy (vn a) (.int .i64 z)=some (vn<|a %b):=by subst e;exact ZZ hb h
theorem Z0(hw:Wf H)(r:Nat)(hr:r<2147483648):az Pg X 124 [vn r] H (Q1 (λv _=>∃t,v=.string t/\tx t=encR r) H):=by
 have hS:=SH.refl hw;refine ce [0,2] ?_;refine tl ?_;refine aF ?_;refine ah (λh1=>?_) λh1=>?_
 .exact absurd h1 aa
 refine ah (λh2=>?_) λh2=>?_
 .refine rr ?_;refine⟨⟨_,rfl,?_⟩,hS.ext⟩;unfold encR;rw[if_neg (by unfold Ej;omega)];rfl
 have rest:Ej r->∀rg,dJ Pg X (sub yh [1,1]) (xL (vn r) (.string ⟨#[]⟩) rg H) (f_ Pg [.tmp 2]<|Q1 (λv _=>∃t,v=.string t/\tx t=encR r) H):=by
  intro ho rg;have he:encR r=enc r:=by unfold encR;rw[if_pos ho]
  have hr2:r<1114112:=by unfold Ej at ho;omega
  refine tl ?_;refine aF ?_;refine ah (λg1=>?_) λg1=>?_
  .rw[Cs aa];refine ME.of adb ?_;refine strOf (l:=[r]) (by intro n hn;simp at hn;omega) (by simp) hS λt ht hS=>?_;refine rr ?_;refine⟨⟨t,rfl,?_⟩,hS.ext⟩;rw[ht,he];unfold enc;rw[if_pos aa]
  refine ah (λg2=>?_) λg2=>?_
  .refine PU.of (VO 64 aa (by decide) aa) ?_;refine PU.of (addN 192 aa aa) ?_;refine aF ?_;refine PU.of (nL 64 aa (by decide) aa) ?_;refine PU.of (addN 128 aa aa) ?_;refine aF ?_;rw[Cs aa,Cs aa];refine ME.of ade ?_;refine strOf (l:=[192+r/64,128+r %64]) (by intro n hn;simp at hn;omega) (by simp) hS λt ht hS=>?_;refine rr ?_;refine⟨⟨t,rfl,?_⟩,hS.ext⟩;rw[ht,he];unfold enc;rw[if_neg aa,if_pos aa]
  with_reducible refine ZY (λg3=>?_) λg3=>?_
  .refine PU.of (VO 4096 aa (by decide) aa) ?_;refine PU.of (addN 224 aa aa) ?_;refine aF ?_;refine PU.of (VO 64 aa (by decide) aa) ?_;refine PU.of (nL 64 aa (by decide) aa) ?_;refine PU.of (addN 128 aa aa) ?_;refine aF ?_;refine PU.of (nL 64 aa (by decide) aa) ?_;refine PU.of (addN 128 aa aa) ?_;refine aF ?_;rw[Cs aa,Cs aa,Cs aa];refine ME.of Za ?_;refine strOf (l:=[224+r/4096,128+r/64 %64,128+r %64]) (by intro n hn;simp at hn;omega) (by simp) hS λt ht hS=>?_;refine rr ?_;refine⟨⟨t,rfl,?_⟩,hS.ext⟩;rw[ht,he];unfold enc;rw[if_neg aa,if_neg aa,if_pos aa]
  .refine PU.of (VO 262144 aa (by decide) aa) ?_;refine PU.of (addN 240 aa aa) ?_;refine aF ?_;refine PU.of (VO 4096 aa (by decide) aa) ?_;refine PU.of (nL 64 aa (by decide) aa) ?_;refine PU.of (addN 128 aa aa) ?_;refine aF ?_;refine PU.of (VO 64 aa (by decide) aa) ?_;refine PU.of (nL 64 aa (by decide) aa) ?_;refine PU.of (addN 128 aa aa) ?_;refine aF ?_;refine PU.of (nL 64 aa (by decide) aa) ?_;refine PU.of (addN 128 aa aa) ?_;refine aF ?_;rw[Cs aa,Cs aa,Cs aa,Cs aa];refine ME.of adf ?_;refine strOf (l:=[240+r/262144,128+r/4096 %64,128+r/64 %64,128+r %64]) (by intro n hn;simp at hn;omega) (by simp) hS λt ht hS=>?_;refine rr ?_;refine⟨⟨t,rfl,?_⟩,hS.ext⟩;rw[ht,he];unfold enc;rw[if_neg aa,if_neg aa,if_neg aa]
 refine ah (λh3=>?_) λh3=>?_
 .refine ah (λh4=>?_) (λh4=>?_)
  .refine rr ?_;refine⟨⟨_,rfl,?_⟩,hS.ext⟩;unfold encR;rw[if_neg (by unfold Ej;omega)];rfl
  .exact rest (by unfold Ej;omega) _
 .exact rest (by unfold Ej;omega) _
end
section
open Go.Ae Go.Ae.M Go.Ae.AM
theorem aeQ{t:ByteArray}(h:tx s=tx t):s=t:=by
 obtain⟨⟨a⟩⟩:=s;obtain⟨⟨b⟩⟩:=t;have h:a.map UInt8.toNat=b.map UInt8.toNat:=h;have:a=b:=List.map_inj_right (λx y e=>lD.1 e)|>.1 h;rw[this]
theorem Uc(s:ByteArray)(i:Nat):(tx s).getD i 0<256:=by
 unfold tx;rw[aK,aR];cases s.data.toList[i]? with
 |none=>decide
 |some x=>exact UInt8.toNat_lt _
theorem getD_drop(l:List Nat)(k i:Nat):(l.drop k).getD i 0=l.getD (k+i) 0:=by simp only[aK,ig]
theorem getD_take(h:i<k):(l.take k).getD i 0=l.getD i 0:=by simp only[aK,eB,if_pos h]
def cat(a b:ByteArray):ByteArray:=⟨⟨a.data.toList++b.data.toList⟩⟩
theorem aeR(a b:ByteArray):tx (cat a b)=tx a++tx b:=by
 show(a.data.toList++b.data.toList).map UInt8.toNat=_;rw[dw];rfl
theorem VP{P:Program}{a b:ByteArray}(h:a.size+b.size<=4611686018427387904):jb P .add t ox oy (.string a) (.string b)=some (.string<|cat a b):=by
 show gd (Nat.ble (Nat.add (len a.data.toList)<|len b.data.toList) 4611686018427387904) (some<|Value.string ⟨⟨app a.data.toList b.data.toList⟩⟩)=_;rw[nY,dG,dG,av (show Nat.add a.data.toList.length b.data.toList.length<=_ from h)];rfl
def Z4(l:List Nat):Value:=match dec l with
 |some (r,n)=>.tuple ⟨[vn r,vn n]⟩
 |none=>.tuple ⟨[vi (-1),vn 1]⟩
def acc(m:Nat)(l:List Nat):Nat->Nat
 |0=>l.getD 0 0 %m
 |i+1=>64*acc m l i+l.getD (i+1) 0 %64
def mo(j:Nat):Nat:=if j=2 then 32 else if j=3 then 16 else if j=4 then 8 else 256
theorem Z5(hm:0<m)(l:List Nat):∀i,acc m l i<m*64^i:=by
 intro i
 induction i with
 |zero=>show _ %m<m*1;rw[bG];exact Nat.mod_lt _ hm
 |succ i ih=>
  show 64*acc m l i+_ %64<m*64^(i+1);rw[vB,<-Nat.mul_assoc];generalize m*64^i=A at ih|-;omega
theorem abW(h0:l.getD 0 0<256)(h1:1<=j)(h4:j<=4):aei j l=acc (mo j) l (j-1)/\acc (mo j) l (j-1)<2147483648:=by
 have hb:acc (mo j) l (j-1)<2147483648:=by
  have:=Z5 (m:=mo j) (by unfold mo;split;decide;split;decide;split<;>decide) l<|j-1;refine aH this ?_;rcases(by omega:j=1\/j=2\/j=3\/j=4)with rfl|rfl|rfl|rfl<;>decide
 refine⟨?_,hb⟩;rcases(by omega:j=1\/j=2\/j=3\/j=4)with rfl|rfl|rfl|rfl
 .show l.getD 0 0=l.getD 0 0 %256;omega
 .show l.getD 0 0 %32*64+l.getD 1 0 %64=64*(l.getD 0 0 %32)+l.getD 1 0 %64;omega
 .show(l.getD 0 0 %16*64+l.getD 1 0 %64)*64+l.getD 2 0 %64=64*(64*(l.getD 0 0 %16)+l.getD 1 0 %64)+l.getD 2 0 %64;omega
 .show((l.getD 0 0 %8*64+l.getD 1 0 %64)*64+l.getD 2 0 %64)*64+l.getD 3 0 %64=64*(64*(64*(l.getD 0 0 %8)+l.getD 1 0 %64)+l.getD 2 0 %64)+l.getD 3 0 %64;omega
theorem wrapN(h:n<=9223372036854775807):fZ .i64 (n:Int)=(n:Int):=pZ aa aa
theorem mulN{P:Program}(a:Nat)(e:z=(a:Int))(h:a*b<=9223372036854775807):jb P .mul t ox oy (.int .i64 z) (vn b)=some (vn<|a*b):=by
 subst e;have h':(a:Int)*(b:Int)=((a*b:Nat):Int):=by push_cast;rfl
 rw[On (by rw[h'];omega) (by rw[h'];omega),h']
theorem iN{P:Program}{a:Nat}(b:Nat)(e:z=(b:Int))(h:a+b<=9223372036854775807):jb P .add t ox oy (vn a) (.int .i64 z)=some (vn<|a+b):=by subst e;exact dI aa aa
theorem aeS(hw:Wf H)(s:ByteArray)(k:Nat)(hk:k<s.size)(hs:s.size<=1000000000):az Pg X 122 [.string s,vn k] H (Q1 (λv _=>v=Z4 ((tx s).drop k)) H):=by
 have hlen:((tx s).drop k).length=s.size-k:=by rw[dW,j_]
 generalize hl:(tx s).drop k=l at hlen|-;have hb0:∀i,l.getD i 0<256:=λi=>by rw[<-hl,getD_drop];exact Uc _ _
 refine ce [0,1,4,5,6,7,8,9] ?_;refine tl ?_;refine lp6 4 5 6 7 8 9 (I:=λn x4 x5 x6 x7 x8 x9 H'=>SH [] H H' []/\∃j:Nat,x6=vn j/\1<=j/\n+j=5/\∀r n,dec l=some (r,n)->j<=n) ?_ 4 ⟨SH.refl hw,1,rfl,aa,aa,λr n h=>(OK h).1⟩;rintro n x4 x5 x6 x7 x8 x9 rg H1 ⟨hS,j,rfl,hj1,hjn,hno⟩
 have none:(∀r n,dec l=some (r,n)->False)->Z4 l=.tuple ⟨[vi (-1),vn 1]⟩:=λh=>by
  unfold Z4;cases hd:dec l with
  |none=>rfl
  |some p=>exact(h p.1 p.2 hd).elim
 refine tl ?_;refine aF ?_;refine ah (λh4=>?_) λh4=>?_;rotate_left
 .refine tl ?_;refine rr ?_;exact⟨(none λr n h=>by have:=(OK h).2.1;have:=hno r n h;omega).symm,hS.ext⟩
 rw[nM aa aa];refine aF ?_;refine ah (λh5=>?_) λh5=>?_;rotate_left
 .refine tl ?_;refine rr ?_;exact⟨(none λr n h=>by have:=(OK h).2.2.1;have:=hno r n h;omega).symm,hS.ext⟩
 refine tl ?_;refine PU.of (iN j rfl aa) ?_;rw[Aj aa aa];refine aF ?_;have hp:=mq s (lo:=k) (hi:=k+j) aa aa;have htp:tx (Go.Ae.part s k<|k+j)=l.take j:=by rw[Mx,hl,iG]
 obtain⟨e0,_⟩:=xC (s:=Go.Ae.part s k<|k+j) (z:=0) 0 rfl aa;rw[htp,getD_take aa]at e0;simp only[e0];refine aF ?_;rw[wrapN (by have:=hb0 0;omega)];have hc0:=hb0 0
 have m0:∀z:Nat,z=acc (mo j) l 0->z<=255:=by
  intro z hz;rw[hz];show l.getD 0 0 %_<=_;have:=Nat.mod_le (l.getD 0 0)<|mo j;omega
 have h4':j<=4:=by omega
 repeat' (first
  |(refine aF ?_)
  |(with_reducible refine ah (λe=>?_) λe=>?_)
  |(refine PU.of (nL 32 rfl (by decide) aa) ?_)
  |(refine PU.of (nL 16 rfl (by decide) aa) ?_)
  |(refine PU.of (nL 8 rfl (by decide) aa) ?_)
  |(refine tl ?_))
 all_goals first|(exfalso;omega)|skip
 all_goals
  refine lp2 8 9 (I:=λm x8 x9 H'=>H'=H1/\∃i:Nat,i+1+m=j/\x8=vn (acc (mo j) l i)/\x9=vn (i+1)) ?_ (j-1) ⟨rfl,0,aa,?_,rfl⟩;rotate_left
  .show vn _=vn (l.getD 0 0 %mo j);congr 2;have:j=1\/j=2\/j=3\/j=4:=by omega
   rcases this with rfl|rfl|rfl|rfl<;>first|rfl|(exfalso;omega)|(show l.getD 0 0=l.getD 0 0 %256;omega)
  rintro m x8 x9 rg H2 ⟨rfl,i,him,rfl,rfl⟩;refine tl ?_
  try simp only[PP,Nat.reduceBEq]
  have hai:=Z5 (m:=mo j) (by unfold mo;split;decide;split;decide;split<;>decide) l i
  have hai2:acc (mo j) l i<134217728:=by
   refine aH hai ?_;have:mo j<=256:=by unfold mo;split;decide;split;decide;split<;>decide
   have h2:64^i<=64^3:=jk (by decide) aa;exact aW (oQ this h2) (by decide)
  refine ah (λe=>?_) λe=>?_
  .refine PU.of (mulN 64 rfl aa) ?_;obtain⟨e1,_⟩:=xC (s:=Go.Ae.part s k<|k+j) (z:=((i+1:Nat):Int)) (i+1) rfl aa;rw[htp,getD_take aa]at e1;simp only[e1]
   try simp only[PP,Nat.reduceBEq]
   rw[wrapN (by have:=hb0<|i+1;omega)];refine PU.of (nL 64 rfl (by decide) (by have:=hb0<|i+1;omega)) ?_;refine PU.of (iN _ rfl aa) ?_;refine PU.of (iN 1 rfl aa) ?_;exact⟨m-1,aa,_,_,_,_,rfl,rfl,i+1,aa,rfl,rfl⟩
  .have hij:i=j-1:=by omega
   obtain⟨hv1,hv2⟩:=abW (hb0 0) hj1 h4';rw[<-hij]at hv1 hv2;refine tl ?_;refine az.mono (Z0 hS.wf _ hv2) ?_;rintro v H2 ⟨⟨t,rfl,ht⟩,hx⟩;have hS:=hS.call hx
   try simp only[PP,Nat.reduceBEq]
   refine ah (λg=>?_) λg=>?_
   .refine rr ?_;refine⟨?_,hS.ext⟩;have hd:dec l=some (acc (mo j) l i,j):=agz (by rw[<-ht,g,htp]) hj1 aa;unfold Z4;rw[hd]
   .refine tl ?_;refine PU.of (iN 1 rfl aa) ?_
    try simp only[PP,Nat.reduceBEq]
    refine⟨n-1,aa,_,_,_,_,_,_,_,_,rfl,hS,j+1,rfl,aa,aa,λr n h=>?_⟩;have h6:=hno r n h;rcases aN j n with h7|h7
    .exact h7
    .exfalso;have h8:n=j:=by omega
     subst h8;obtain⟨_,_,_,h9,h10⟩:=OK h;apply g;apply aeQ;rw[ht,htp,<-h10,<-h9,hv1]
end
section
open Go.Ae Go.Ae.M Go.Ae.AM
theorem Ud(c:Nat):az Pg X 82 [.int .u8 (c:Int)] H (Q0 (isP<|Db c) H):=by
 refine ce [0,2] ?_;refine tl ?_
 repeat' (first|(refine aF ?_)|(refine ah (λhc=>?_) λhc=>?_)|(refine rr ?_))
 all_goals exact⟨⟨_,rfl,by unfold Db;simp[*]<;>omega⟩,rfl⟩
theorem aha(c:Nat):az Pg X 83 [.int .u8 (c:Int)] H (Q0 (isP<|JX c) H):=by
 refine ce [0,2] ?_;refine tl ?_
 repeat' (first|(refine aF ?_)|((refine az.mono (Ud _) ?_;rintro v H' ⟨⟨b,rfl,hb0⟩,rfl⟩))|(refine bO (λhb=>?_) λhb=>?_)|(refine rr ?_))
 all_goals exact⟨⟨_,rfl,by unfold JX;rw[<-hb0];clear hb0;simp_all<;>omega⟩,rfl⟩
theorem Z6(c:Nat)(hc:c<256):az Pg X 161 [.int .u8 (c:Int)] H (Q0 (λv=>∃z:Int,v=vi z/\(dgt c=none/\z=-1\/∃d:Nat,dgt c=some d/\z=d/\d<16)) H):=by
 refine ce [0,2] ?_;refine tl ?_
 repeat' (first|(refine aF ?_)|(refine ah (λhc=>?_) λhc=>?_)|(refine tl ?_)|(refine rr ?_))
 all_goals try rw[w8 aa,pZ aa aa]
 all_goals try
  rw[dI aa aa];simp only[PP];refine rr ?_
 all_goals
  refine⟨⟨_,rfl,?_⟩,rfl⟩;unfold dgt
  first
   |(refine .inr ⟨_,if_pos aa,?_⟩;omega)
   |(rw[if_neg aa];refine .inr ⟨_,if_pos aa,?_⟩;omega)
   |(rw[if_neg aa,if_neg aa];refine .inr ⟨_,if_pos aa,?_⟩;omega)
   |(rw[if_neg aa,if_neg aa,if_neg aa];exact .inl ⟨rfl,rfl⟩)
theorem ahb(c k:Nat)(hk:mk1 c=some k):az Pg X 86 [.int .u8 (c:Int)] H (Q0 (λv=>v=vn k) H):=by
 refine ce [0,2,3,4] ?_;refine tl ?_;refine zm 4 (I:=λm x4 H'=>H'=H/\∃i,x4=vn i/\i+m=10/\∀j,j<i->[58,124,59,40,41,63,42,43,46,126][j]?≠some c) ?_ 10 ⟨rfl,0,rfl,rfl,λj h=>absurd h<|fI _⟩;rintro m x4 rg H' ⟨rfl,i,rfl,him,hno⟩;refine tl ?_;refine aF ?_;refine ah (λhc=>?_) λhc=>?_
 .have hi:i<10:=by have:((i:Nat):Int)<10:=hc;omega
  rw[jL (s:=⟨#[58,124,59,40,41,63,42,43,46,126]⟩) (k:=i) hi];refine aF ?_;have et:∀i,i<10->[58,124,59,40,41,63,42,43,46,126][i]?=some (at' (tx ⟨#[58,124,59,40,41,63,42,43,46,126]⟩) i)/\mk1 (at' (tx ⟨#[58,124,59,40,41,63,42,43,46,126]⟩) i)=some (5+i):=by decide
  obtain⟨e1,e2⟩:=et i hi;refine ah (λe=>?_) λe=>?_
  .refine PU.of (addN 5 rfl aa) ?_;refine rr ?_;refine⟨?_,rfl⟩;rw[show c=_ from(Int.ofNat.inj e).symm,e2]at hk;cases hk;rfl
  .refine PU.of (iN 1 rfl aa) ?_
   exact⟨m-1,aa,_,_,_,rfl,rfl,i+1,rfl,aa,λj hj h=>by
    rcases aN j i with h1|h1
    .exact hno j h1 h
    .obtain rfl:j=i:=by omega
     rw[e1]at h;cases h;exact e rfl⟩
 .have hi:¬i<10:=λh=>hc (by show((i:Nat):Int)<10;omega)
  have hm:c∉[58,124,59,40,41,63,42,43,46,126]:=λh=>by
   obtain⟨j,hj⟩:=List.mem_iff_getElem?.1 h;exact hno j (by have h2:j<10:=(aL.1 hj).1;omega) hj
  simp at hm;simp[mk1,hm]at hk
theorem adp(h:Bl l k b):k<=l.length/\(k<l.length->ws (at' l k)->Bl l (k+1) b)/\(¬(k<l.length/\ws (at' l k))->(k+1<l.length/\at' l k=47/\at' l (k+1)=47/\∃e,k<e/\e<=l.length/\(∀j,k<=j->j<e->at' l j≠10)/\(e<l.length->at' l e=10)/\Bl l e b)\/b=k/\¬(at' l k=47/\at' l (k+1)=47)):=by
 cases h with
 |ws _ _ h1 h2 h3=>exact⟨aa,λ_ _=>h3,λh=>absurd ⟨h1,h2⟩ h⟩
 |cm _ e _ h1 h2 h3 h4 h5 h6 h7 h8=>exact⟨aa,λ_ hw=>absurd hw (by unfold ws;omega),λ_=>.inl ⟨h1,h2,h3,e,h4,h5,h6,h7,h8⟩⟩
 |st _ h1 h2 h3=>exact⟨h1,λh4 h5=>absurd h5<|h2 h4,λ_=>.inr ⟨rfl,h3⟩⟩
theorem Z7(s:ByteArray)(hs:s.size<=1000000){k0:Nat}(h:Bl (tx s) k0 b):az Pg X 81 [.string s,vn k0] H (Q0 (λv=>v=vn b) H):=by
 have hl:=j_ s;refine ce [0,1,4] ?_;refine tl ?_;refine zm 1 (I:=λm x1 H'=>H'=H/\∃k,x1=vn k/\k+m=s.size/\Bl (tx s) k b) ?_ (s.size-k0) ⟨rfl,k0,rfl,by have:=(adp h).1;omega,h⟩;clear h;rintro m x1 rg H' ⟨rfl,k,rfl,hkm,h⟩;obtain⟨_,h1,h2⟩:=(adp h);rw[hl]at h1 h2;refine tl ?_;refine aF ?_;refine ah (λhc=>?_) λhc=>?_;rotate_left
 .refine tl ?_;refine rr ?_;refine⟨?_,rfl⟩;rcases h2 (λh=>by omega)with⟨h3,_⟩|⟨h3,_⟩
  .omega
  .rw[h3]
 have e1:=jL (s:=s) (k:=k) aa;rw[e1];refine aF ?_;have Je:at' (tx s) k<256:=(xC (s:=s) k rfl aa).2;refine ah (λc1=>?_) λc1=>?_
 .refine PU.of (iN 1 rfl aa) ?_;exact⟨m-1,aa,_,_,_,rfl,rfl,k+1,rfl,aa,h1 aa<|.inl aa⟩
 refine ah (λc2=>?_) λc2=>?_
 .refine PU.of (iN 1 rfl aa) ?_;exact⟨m-1,aa,_,_,_,rfl,rfl,k+1,rfl,aa,h1 aa<|.inr<|.inl aa⟩
 refine ah (λc3=>?_) λc3=>?_
 .refine PU.of (iN 1 rfl aa) ?_;exact⟨m-1,aa,_,_,_,rfl,rfl,k+1,rfl,aa,h1 aa<|.inr<|.inr<|.inl aa⟩
 refine ah (λc4=>?_) λc4=>?_
 .refine PU.of (iN 1 rfl aa) ?_;exact⟨m-1,aa,_,_,_,rfl,rfl,k+1,rfl,aa,h1 aa<|.inr<|.inr<|.inr aa⟩
 refine tl ?_;rw[e1];refine aF ?_;rcases h2 (λh=>by unfold ws at h;omega)with⟨h3,h4,h5,e,g1,g2,g3,g4,g5⟩|⟨rfl,h3⟩
 .refine bq (λc5=>absurd aa c5) (λc5=>?_);refine PU.of (iN 1 rfl aa) ?_;refine aF ?_;refine ah (λc6=>absurd c6 aa) λc6=>?_;refine PU.of (iN 1 rfl aa) ?_;rw[jL aa];refine aF ?_;refine bq (λc7=>absurd aa c7) λc7=>?_;refine tl ?_;refine zm 1 (I:=λn x1 H2=>H2=H'/\∃j,x1=vn j/\j+n=e/\k<=j) ?_ (e-k) ⟨rfl,k,rfl,aa,aj _⟩;rintro n x1 rg H2 ⟨rfl,j,rfl,hjn,hkj⟩;refine tl ?_;refine aF ?_;refine ah (λd1=>?_) λd1=>?_
  .rw[jL (s:=s) (k:=j) aa];refine aF ?_;refine bq (λd2=>?_) λd2=>?_
   .have hje:j<e:=by
     rcases aN j e with h|h
     .exact h
     .obtain rfl:j=e:=by omega
      exact absurd (by have:=g4 aa;omega) d2
    refine PU.of (iN 1 rfl aa) ?_;exact⟨n-1,aa,_,_,_,rfl,rfl,j+1,rfl,aa,aa⟩
   .obtain rfl:j=e:=by
     rcases aN j e with h|h
     .exact absurd (show at' (tx s) j=10 by omega)<|g3 j hkj h
     .omega
    exact⟨s.size-j,aa,_,_,_,rfl,rfl,j,rfl,aa,g5⟩
  .obtain rfl:j=e:=by omega
   exact⟨s.size-j,aa,_,_,_,rfl,rfl,j,rfl,aa,g5⟩
 .refine bq (λc5=>?_) (λc5=>?_)
  .refine rr ?_;exact⟨rfl,rfl⟩
  refine PU.of (iN 1 rfl aa) ?_;refine aF ?_;refine ah (λc6=>?_) λc6=>?_
  .refine rr ?_;exact⟨rfl,rfl⟩
  refine PU.of (iN 1 rfl aa) ?_;rw[jL aa];refine aF ?_;refine bq (λc7=>?_) λc7=>?_
  .refine rr ?_;exact⟨rfl,rfl⟩
  .exact absurd ⟨aa,aa⟩ h3
end
section
open Go.Ae Go.Ae.M Go.Ae.AM
theorem ahc(h:0<s.size):XU (.string s) (.int .i64 0)=some (.int .u8 ((at' (tx s) 0:Nat):Int)):=jL h
theorem Z8(h:esc (tx s)=some (r,n)):0<s.size/\Dc (at' (tx s) 0) ((tx s).drop 1)=some (r,n):=by
 have hl:=j_ s;cases hs:tx s with
 |nil=>rw[hs]at h;cases h
 |cons c m=>rw[hs]at h hl;exact⟨by simp at hl;omega,h⟩
theorem Ue(hw:Wf H)(s:ByteArray)(hs:s.size<=1000000)(h:esc (tx s)=some (r,n)):az Pg X 123 [.string s] H (Q1 (λv _=>v=.tuple ⟨[vn r,vn n]⟩) H):=by
 have hl:=j_ s;obtain⟨h0,h1⟩:=Z8 h;have hS:=SH.refl hw;refine ce [0,2,3,4,5,9] ?_;refine tl ?_;refine aF ?_;refine ah (λe=>absurd (by rw[e];rfl:s.size=0) aa) λ_=>?_;rw[ahc h0];refine aF ?_;unfold Dc at h1;have Je:at' (tx s) 0<256:=(xC (s:=s) 0 rfl h0).2;refine ah (λc1=>?_) λc1=>?_
 .rw[if_pos aa]at h1;cases h1;refine rr ?_;exact⟨rfl,hS.ext⟩
 rw[if_neg aa]at h1;refine ah (λc2=>?_) λc2=>?_
 .rw[if_pos aa]at h1;cases h1;refine rr ?_;exact⟨rfl,hS.ext⟩
 rw[if_neg aa]at h1;refine ah (λc3=>?_) λc3=>?_
 .rw[if_pos aa]at h1;cases h1;refine rr ?_;exact⟨rfl,hS.ext⟩
 rw[if_neg aa]at h1
 have one:(at' (tx s) 0=92\/at' (tx s) 0=39\/at' (tx s) 0=93\/at' (tx s) 0=45\/at' (tx s) 0=94)->∀rg,BA rg 16=.bool true->dJ Pg X (sub kr [1,1,0,1,0,1,1,1,1,1,1,1]) (qM (.string s) (vi 0) (vi 0) top top (.int .u8 (at' (tx s) 0:Int)) rg H) (j3 0<|nR Pg X (sub kr [1,1,1])<|f_ Pg [.tmp 2,.tmp 3]<|Q1 (λv _=>v=.tuple ⟨[vn r,vn n]⟩) H):=by
  intro c rg hlk;rw[if_pos c]at h1;cases h1;refine tl ?_;rw[hlk];refine aF ?_;rw[ahc h0];refine aF ?_;rw[pZ aa aa];refine rr ?_;exact⟨rfl,hS.ext⟩
 refine ah (λd1=>one aa _ (by rw[aS d1];rfl)) λd1=>?_;refine ah (λd2=>one aa _ (by rw[aS d2];rfl)) λd2=>?_;refine ah (λd3=>one aa _ (by rw[aS d3];rfl)) λd3=>?_;refine ah (λd4=>one aa _ (by rw[aS d4];rfl)) λd4=>?_
 by_cases d5:at' (tx s) 0=94
 .exact one aa _ (by rw[aS (show(at' (tx s) 0:Int)=94 by omega)];rfl)
 rw[if_neg aa]at h1;rw[bM (show¬(at' (tx s) 0:Int)=94 by omega)];refine tl ?_;refine aF ?_
 by_cases d6:at' (tx s) 0=117/\at' ((tx s).drop 1) 0=123
 rotate_left
 .rw[if_neg d6]at h1;cases h1
 rw[if_pos d6]at h1;refine ah (λ_=>?_) λd7=>absurd aa d7;rw[iA]at h1;generalize hD:(tx s).drop 2=D at h1;have hDl:D.length=s.size-2:=by rw[<-hD,dW,hl]
 generalize hVC:xN 6 D 0=VC at h1;obtain⟨V,C⟩:=VC
 have h2:C≠0/\at' ((tx s).drop 1) (C+1)=125/\Ej V:=by
  split at h1
  .assumption
  .cases h1
 rw[if_pos h2]at h1;cases h1;rw[p8,show 1+(C+1)=C+2 by omega]at h2;rw[p8]at d6;have d6:at' (tx s) 1=123:=d6.2;refine lp2 4 5 (I:=λm x4 x5 H'=>H'=H/\∃v i:Nat,x4=vn v/\x5=vn (i+2)/\i+m=6/\v<16^i/\V=(xN m (D.drop i) v).1/\C=(xN m (D.drop i) v).2+i) ?_ 6 ⟨rfl,0,0,rfl,rfl,rfl,by decide,by simp[hVC],by simp[hVC]⟩;rintro m x4 x5 rg H' ⟨rfl,v,i,rfl,rfl,him,hv,hx1,hx2⟩;have hk:=My (l:=tx s) (k:=C+2) (by rw[h2.2.1];decide)
 have fin:xN m (D.drop i) v=(v,0)->∀rg,dJ Pg X (sub kr [1,1,0,1,0,1,1,1,1,1,1,1,1,1,0,1,1]) (qM (.string s) (vi 0) (vi 0) (vn v) (vn<|i+2) (.int .u8 (at' (tx s) 0:Int)) rg H') (j3 0<|nR Pg X (sub kr [1,1,1])<|f_ Pg [.tmp 2,.tmp 3]<|Q1 (λv _=>v=.tuple ⟨[vn V,vn<|C+3]⟩) H'):=by
  intro h3 rg;rw[h3]at hx1 hx2;obtain rfl:V=v:=hx1;obtain rfl:C=i:=by rw[hx2];exact aI i
  refine tl ?_;refine aF ?_;refine ah (λc=>absurd c aa) λ_=>?_;rw[show XU (.string s) (.int .i64 1)=_ from jL (k:=1) aa];refine aF ?_;refine bq (λc=>absurd aa c) λ_=>?_;refine ah (λc=>absurd c aa) λ_=>?_;refine ah (λc=>absurd c aa) λ_=>?_;rw[jL aa];refine aF ?_;refine bq (λc=>absurd aa c) λ_=>?_;refine az.mono (Z0 hS.wf _ (by have:=h2.2.2;unfold Ej at this;omega)) ?_;rintro w H2 ⟨⟨t,rfl,ht⟩,hx⟩;refine aF ?_;refine ah (λc=>?_) λ_=>?_
  .rw[c]at ht;have:encR V=enc V:=if_pos h2.2.2;have hlen:=G7 V;rw[<-this,<-ht]at hlen;exact absurd hlen.1 (by decide)
  refine tl ?_;refine PU.of (iN 1 rfl aa) ?_;refine aF ?_;refine rr ?_;exact⟨rfl,hx⟩
 refine tl ?_;refine aF ?_;refine ah (λhc=>?_) λhc=>fin (OZ _ _ (by rw[dW];omega)) _;refine ah (λhd=>?_) λhc=>fin (by rw[show m=0 by omega];rfl) _;obtain⟨m,rfl⟩:∃k,m=k+1:=⟨m-1,aa⟩;have hstep:=KT m v (l:=D.drop i) (by rw[dW];omega);have ec:at' (D.drop i) 0=at' (tx s) (i+2):=by rw[<-hD,p8,p8,show 2+(i+0)=i+2 by omega]
 have Je:at' (tx s) (i+2)<256:=(xC (s:=s) (i+2) rfl aa).2;rw[ec]at hstep;have eb:=jL (s:=s) (k:=i+2) aa;rw[eb];refine aF ?_;refine az.mono (Z6 _ Je) ?_;rintro w H' ⟨⟨z,rfl,hz⟩,rfl⟩;refine aF ?_;rcases hz with⟨hz,rfl⟩|⟨d,hz,rfl,hd⟩
 .refine ah (λc=>absurd c<|by decide) λ_=>fin (by rw[hstep,hz]) _
 refine ah (λ_=>?_) λc=>absurd (Int.natCast_nonneg d) c;rw[hz]at hstep;have h16:16^i<=16^5:=jk (by decide) aa;have ahX:(16:Nat)^5=1048576:=by decide
 have hp:16^(i+1)=16^i*16:=vB ..
 refine tl ?_;refine PU.of (mulN 16 rfl aa) ?_;rw[eb];refine aF ?_;refine az.mono (Z6 _ Je) ?_;rintro w H' ⟨⟨z,rfl,hz2⟩,rfl⟩
 obtain rfl:z=d:=by
  rcases hz2 with⟨h,_⟩|⟨d',h,rfl,_⟩<;>rw[hz]at h<;>cases h;rfl
 refine PU.of (addN (16*v) rfl aa) ?_;refine PU.of (iN 1 rfl aa) ?_;refine⟨m,aa,_,_,_,_,rfl,rfl,16*v+d,i+1,rfl,by rw[show i+2+1=i+1+2 by omega],aa,aa,?_,?_⟩
 .rw[hx1,hstep,iA,vz v 16]
 .rw[hx2,hstep,iA,vz v 16];show _+1+i=_+(i+1);omega
theorem ahd(hl:∀i,at' l i<256)(h:esc l=some (r,n)):1<=n/\n<=l.length/\Ej r:=by
 unfold Ej;cases l with
 |nil=>cases h
 |cons c m=>
  have h:Dc c m=some (r,n):=h;have hc:c<256:=hl 0;have e:(c::m).length=m.length+1:=rfl;unfold Dc at h;split at h
  .cases h;omega
  split at h
  .cases h;omega
  split at h
  .cases h;omega
  split at h
  .cases h;omega
  split at h
  .split at h
   .next h2=>
    cases h;have:=My (l:=m) (k:=(xN 6 (m.drop 1) 0).2+1) (by rw[h2.2.1];decide);have ho:=h2.2.2;unfold Ej at ho;omega
   .cases h
  .cases h
theorem Z9(hl:∀i,at' l i<256)(h:De l k=some (r,n)):∃q m,dec (l.drop k)=some (q,m)/\(1<=m/\k+m<=l.length/\Ej q)/\(1<=n/\k+n<=l.length/\Ej r)/\(q=92/\(∃n',esc (l.drop<|k+1)=some (r,n')/\n=n'+1)\/q≠92/\r=q/\n=m):=by
 unfold De at h;cases hd:dec (l.drop k)with
 |none=>rw[hd]at h;cases h
 |some p=>
  obtain⟨q,m⟩:=p;rw[hd]at h;obtain⟨h1,h2,h3,_⟩:=OK hd;have ho:=(G8 hd).1;rw[dW]at h3;have h:(if q=92 then(esc<|l.drop<|k+1).map λp=>(p.1,p.2+1)else some (q,m))=some (r,n):=h;refine⟨q,m,rfl,⟨h1,aa,ho⟩,?_⟩
  by_cases h92:q=92
  .rw[if_pos h92]at h;cases he:esc (l.drop<|k+1)with
   |none=>rw[he]at h;cases h
   |some p=>
    obtain⟨r',n'⟩:=p;rw[he]at h;cases h;obtain⟨g1,g2,g3⟩:=ahd (λi=>by rw[p8];exact hl _) he;rw[dW]at g2;exact⟨⟨aa,aa,g3⟩,.inl ⟨h92,n',rfl,rfl⟩⟩
  .rw[if_neg h92]at h;cases h;exact⟨⟨h1,aa,ho⟩,.inr ⟨h92,rfl,rfl⟩⟩
theorem Z'(h:Ej r):r<1114112:=by unfold Ej at h;omega
theorem yat(hw:Wf H)(s:ByteArray)(hs:s.size<=1000000){q:Nat}(hk:k<s.size)(hd:dec ((tx s).drop k)=some (q,m)){K:Value->ag->Prop}(hK:∀H',Ext H H'->K (.tuple ⟨[vn q,vn m]⟩) H'):az Pg X 122 [.string s,vn k] H K:=by
 refine az.mono (aeS hw s k hk aa) ?_;rintro v H' ⟨rfl,hx⟩;unfold Z4;rw[hd];exact hK H' hx
theorem ahe(hw:Wf H)(s:ByteArray)(hs:s.size<=1000000)(h:De (tx s) k=some (r,n)):1<=n/\k+n<=s.size/\r<1114112/\az Pg X 162 [.string s,vn k] H (Q1 (λv _=>v=.tuple ⟨[vn r,vn n,vi 0]⟩) H):=by
 have hl:=j_ s;obtain⟨q,m,hd,⟨h1,h2,h3⟩,⟨g1,g2,g3⟩,h⟩:=Z9 (Uc s) h;rw[hl]at h2 g2;refine⟨g1,g2,Z' g3,?_⟩;refine ce [0,1,4,5,6,7,8] ?_;refine tl ?_;refine yat hw s hs aa hd λH1 hx1=>?_;refine aF ?_;refine ah (λc=>absurd c aa) λ_=>?_;rcases h with⟨h92,n',he,rfl⟩|⟨h92,rfl,rfl⟩
 .refine bq (λc=>absurd aa c) (λ_=>?_);refine PU.of (iN 1 rfl aa) ?_;rw[wP aa];refine aF ?_;refine az.mono (Ue ((SH.refl hw).call hx1).wf _ (by rw[mq s aa (aj _)];omega) (by rw[yY];exact he)) ?_;rintro v H2 ⟨rfl,hx2⟩;refine aF ?_;refine ah (λc=>absurd c aa) λ_=>?_;refine PU.of (iN 1 rfl aa) ?_;refine rr ?_;exact⟨rfl,hx1.trans hx2⟩
 .refine bq (λ_=>?_) (λc=>absurd aa h92);refine rr ?_;exact⟨rfl,hx1⟩
end
section
open Go.Ae Go.Ae.M Go.Ae.AM
abbrev TT:Nat->Prop:=λ_=>True
def zi(F:Nat->Prop)(H:ag)(v:Value):Prop:=∃(a:Option Addr)(n c:Nat)(zs:List Nat),v=.slice a n c/\jT F 230 H a n 2 (fG zs)/\n<=1000000/\(∀z∈zs,z<1114112)/\∀y,a=some y->y.spot=none
theorem _root_.Go.Ae.GB.sp(h:GB ty es (.slice a n c) cs gb):∀y,a=some y->y.spot=none:=λy e=>by
 subst e;rcases h with⟨h,_⟩|⟨r,n,dH,h,_⟩<;>cases h;rfl
theorem zi.st{F:Nat->Prop}{S:List Nat}(h:zi F H v)(hx:qU S H H')(hS:∀q∈S,¬F q\/¬wR H q 230):zi F H' v:=let⟨a,n,c,zs,h1,h2,h3⟩:=h;⟨a,n,c,zs,h1,h2.stay hx hS,h3⟩
theorem _root_.Go.Ae.jT.by{F:Nat->Prop}(h:jT F ty H a n es cs)(hF:∀r,r<H.next->F r->F' r):jT F' ty H a n es cs:=⟨h.1,λr o e hn=>let⟨h1,h2,h3⟩:=h.2 r o e hn;⟨hF r h2 h1,h2,h3⟩⟩
theorem zi.by{F:Nat->Prop}(h:zi F H v)(hF:∀r,r<H.next->F r->F' r):zi F' H v:=let⟨a,n,c,zs,h1,h2,h3⟩:=h;⟨a,n,c,zs,h1,h2.by hF,h3⟩
theorem ahf(hw:Wf H)(s:ByteArray)(hs:s.size<=1000000)(h0:0<s.size)(h:Cr (tx s) 0):az Pg X 125 [.string s] H (Q1 (λv H'=>∃x,v=.tuple ⟨[x,vi 0,vi 0]⟩/\zi TT H' x) H):=by
 have hl:=j_ s;refine ce [0,2,3,4,5,6,7,8,9,10,11,12,13,14] ?_;refine tl ?_;refine aF ?_;refine ah (λe=>absurd (by rw[e];rfl:s.size=0) aa) λ_=>?_;refine aed 5 6 7 8 9 10 11 12 13 14 (I:=λm x5 x6 x7 x8 x9 dR fC gK gq lu H'=>∃k zs gb,x6=vn k/\k+m=s.size/\Cr (tx s) k/\GB 230 2 x5 (fG zs) gb/\SH [] H H' gb/\(∀z∈zs,z<1114112)/\zs.length<=2*k) ?_ s.size ⟨0,[],[],rfl,aa,h,GB.nil _ _,SH.refl hw,λz h=>(nomatch h),aj _⟩;clear h;rintro m x5 x6 x7 x8 x9 dR fC gK gq lu rg H1 ⟨k,zs,gb,rfl,hkm,h,hg,hS,hz,hzl⟩;refine tl ?_;refine aF ?_;refine ah (λhc=>?_) λhc=>?_;rotate_left
 .refine tl ?_;refine rr ?_;obtain⟨a,n,c,rfl,hn,hf⟩:=hg.Nn (F:=TT) (hS.cast (aQ gb).symm) λ_ _=>trivial;exact⟨⟨_,rfl,a,n,c,zs,rfl,hf,by rw[aC]at hn;omega,hz,hg.sp⟩,hS.ext⟩
 have hne:∃r n,De (tx s) k=some (r,n):=by
  cases h with
  |fin=>omega
  |one _ r n _ h=>exact⟨r,n,h⟩
  |two _ r n _ _ _ h=>exact⟨r,n,h⟩
 obtain⟨r,n,hrn⟩:=hne;obtain⟨g2,g3,g4,hcall⟩:=ahe hS.wf s hs hrn;refine az.mono hcall ?_;rintro v H2 ⟨rfl,hx⟩;have hS:=hS.call hx;refine aF ?_;refine bq (λc=>absurd trivial c) λ_=>?_;refine PU.of (addN k rfl aa) ?_;refine PU.of (iN 1 rfl aa) ?_;refine aF ?_
 have last:∀(hi k':Nat),k<k'->k'<=s.size->Cr (tx s) k'->hi<1114112->∀{H3}(hS:SH [] H H3 gb){x8 x9 fC gK gq lu:Value}{rg},dJ Pg X (sub tK [1,1,1,0,1,0,0,1,0,1,1,1,1,1]) (sN (.string s) (.slice none 0 0) (vi 0) (vi 0) x5 (vn k') (vn r) x8 x9 (vn hi) fC gK gq lu rg H3)
  (j3 1<|Ah (λm s_1=>∃x5 x6 x7 x8 x9 dR fC gK gq lu rg H',s_1=sN (.string s) (.slice none 0 0) (vi 0) (vi 0) x5 x6 x7 x8 x9 dR fC gK gq lu rg H'/\∃k zs gb,x6=vn k/\k+m=s.size/\Cr (tx s) k/\GB 230 2 x5 (fG zs) gb/\SH [] H H' gb/\(∀z∈zs,z<1114112)/\zs.length<=2*k) m<|j3 0<|nR Pg X (sub tK [1,1,1,1])<|f_ Pg [.tmp 2,.tmp 3,.tmp 4]<|Q1 (λv H'=>∃x,v=.tuple ⟨[x,vi 0,vi 0]⟩/\zi TT H' x) H):=by
  intro hi k' h1 h2 h3 h4 H3 hS x8 x9 fC gK gq lu rg;refine tl ?_;refine PU.b2 rfl ?_;refine hg.push (hS.cast (aQ gb).symm) aa rfl rfl rfl rfl rfl aa (by rw[aC];omega) λw v' H4 gY hg' hS=>?_;refine aF ?_;refine⟨s.size-k',aa,_,_,_,_,_,_,_,_,_,_,_,_,rfl,k',zs++[r,hi],gY,rfl,aa,h3,by rw[show fG (zs++[r,hi])=fG zs++[vn r,vn hi]from dw];exact hg',hS.cast<|aQ gY,λz hz'=>?_,by simp;omega⟩;rcases bX.1 hz' with h|h
  .exact hz z h
  .simp at h;omega
 have idb:k+n+1<s.size->XU (.string s) (vn<|k+n)=some (.int .u8 ((at' (tx s) (k+n):Nat):Int)):=λh=>jL aa;cases h with
 |fin=>omega
 |one _ r' n' h1 h2 h3 h4=>
  rw[hrn]at h2;cases h2;rw[hl]at h3;refine ah (λc1=>?_) λc1=>?_
  .rw[idb aa];refine aF ?_;rw[bM aa];refine tl ?_;refine aF ?_;exact last r (k+n) aa g3 h4 g4 hS
  .refine tl ?_;refine aF ?_;exact last r (k+n) aa g3 h4 g4 hS
 |two _ r' n' q m' h1 h2 h3 h4 h5 h6 h7=>
  rw[hrn]at h2;cases h2;rw[hl]at h3;refine ah (λc1=>?_) λc1=>absurd aa c1;rw[idb h3];refine aF ?_;rw[aS aa];refine tl ?_;refine PU.of (iN 1 rfl aa) ?_;obtain⟨f2,f3,f4,hcall⟩:=ahe hS.wf s hs h5;refine az.mono hcall ?_;rintro v H3 ⟨rfl,hx⟩;have hS:=hS.call hx;refine aF ?_;refine bq (λc=>absurd trivial c) λ_=>?_;refine ah (λc=>absurd c aa) λ_=>?_;refine PU.of (iN 1 rfl aa) ?_;refine PU.of (addN (k+n+1) rfl aa) ?_;exact last q (k+n+1+m') aa f3 h7 f4 hS
end
section
open Go.Ae Go.Ae.M Go.Ae.AM
theorem Hg(t:ByteArray):t.size=(tx t).length:=(j_ t).symm
theorem liB(h:Li (tx s) k e):k<e/\e<=s.size:=by
 have hl:=j_ s
 induction h with
 |fin k h1 h2=>omega
 |go k r n e h1 h2 h3 h4 h5 h6 ih=>obtain⟨_,_,_,_,⟨h7,h8,_⟩,_⟩:=Z9 (Uc s) h5;omega
theorem ceB(h:Ce (tx s) k e):k<=e/\e<s.size:=by
 have hl:=j_ s
 induction h with
 |fin k h1 h2=>omega
 |bs k e h1 h2 h3 ih=>omega
 |go k e h1 h2 h3 h4 ih=>omega
theorem Z_(hw:Wf H)(s:ByteArray)(hs:s.size<=1000000)(h1:at' (tx s) (b+1)≠39)(h:Li (tx s) (b+1) e):e<=s.size/\b<e/\az Pg X 84 [.string s,vn b] H (Q1 (λv _=>∃t:ByteArray,v=.tuple ⟨[.string t,vn e,vi 0,vi 0]⟩/\t.size<=4000000) H):=by
 have hl:=j_ s;have bd:∀{k},Li (tx s) k e->k<e/\e<=s.size:=λh=>liB h;refine⟨(bd h).2,by have:=(bd h).1;omega,?_⟩;refine ce [0,1,4,5,6,7,8,9,10,11,12,13] ?_;refine tl ?_;refine PU.of (iN 1 rfl (by have:=bd h;omega)) ?_;refine lp6 8 9 10 11 12 13 (I:=λm x8 x9 dR fC gK gq H'=>∃k t,x8=.string t/\x9=vn k/\k+m=s.size/\Li (tx s) k e/\t.size<=4*k/\(k=b+1\/0<t.size)/\SH [] H H' []) ?_ (s.size-(b+1)) ⟨b+1,_,rfl,rfl,by have:=bd h;omega,h,aM _,.inl rfl,SH.refl hw⟩;clear h;rintro m x8 x9 dR fC gK gq rg H1 ⟨k,t,rfl,rfl,hkm,h,ht,hk,hS⟩;have hb:=bd h;refine tl ?_;refine aF ?_;refine ah (λhc=>?_) λhc=>absurd aa hc;rw[jL aa];refine aF ?_;cases h with
 |fin _ h2 h3=>
  refine bq (λc=>absurd aa c) λ_=>?_;refine tl ?_;refine aF ?_;refine ah (λc=>absurd c aa) λ_=>?_;refine ah (λc=>?_) λ_=>?_
  .rcases hk with rfl|hk
   .exact absurd h3 h1
   .rw[c]at hk;exact absurd hk (by decide)
  refine PU.of (iN 1 rfl aa) ?_;refine rr ?_;exact⟨⟨t,rfl,aa⟩,hS.ext⟩
 |go _ r n _ h2 h3 h4 h5 h6 h7=>
  refine bq (λ_=>?_) λc=>absurd aa h3;obtain⟨q,mm,hd,⟨g1,g2,g3⟩,⟨g4,g5,g6⟩,h⟩:=Z9 (Uc s) h6;have h10:q≠10:=λe=>h5 mm (by rw[hd,e]);have hb2:=bd h7;refine tl ?_;refine yat hS.wf s hs aa hd λH2 hx=>?_;have hS:=hS.call hx;refine aF ?_;refine ah (λc=>absurd c aa) λ_=>?_;rw[bM (show¬(q:Int)=10 by omega)];refine tl ?_;refine aF ?_
  have last:∀{H3}(hS:SH [] H H3 []){gK gq rg},dJ Pg X (sub qL [1,1,1,0,0,0,1,0,1,1,1]) (qg (.string s) (vn b) (.string ⟨#[]⟩) (vi 0) (vi 0) (vi 0) (.string t) (vn k) (vn r) (vn n) gK gq rg H3)
   (j3 1<|Ah (λm s_1=>∃x8 x9 dR fC gK gq rg H',s_1=qg (.string s) (vn b) (.string ⟨#[]⟩) (vi 0) (vi 0) (vi 0) x8 x9 dR fC gK gq rg H'/\∃k t,x8=.string t/\x9=vn k/\k+m=s.size/\Li (tx s) k e/\t.size<=4*k/\(k=b+1\/0<t.size)/\SH [] H H' []) m<|j3 0<|nR Pg X (sub qL [1,1,1,1])<|f_ Pg [.tmp 4,.tmp 5,.tmp 6,.tmp 7]<|Q1 (λv _=>∃t:ByteArray,v=.tuple ⟨[.string t,vn e,vi 0,vi 0]⟩/\t.size<=4000000) H):=by
   intro H3 hS gK gq rg;refine tl ?_;refine az.mono (Z0 hS.wf r (by have:=Z' g6;omega)) ?_;rintro v H4 ⟨⟨t2,rfl,ht2⟩,hx⟩;have hS:=hS.call hx;have e2:t2.size=(enc r).length:=by rw[Hg,ht2];unfold encR;rw[if_pos g6]
   have l2:=G7 r;refine PU.of (VP aa) ?_;refine PU.of (addN k rfl aa) ?_;have ec:(cat t t2).size=t.size+t2.size:=by rw[Hg,aeR,ay,<-Hg,<-Hg]
   refine aF ?_;exact⟨s.size-(k+n),aa,_,_,_,_,_,_,_,_,rfl,k+n,_,rfl,rfl,aa,h7,aa,.inr aa,hS⟩
  refine tl ?_;refine aF ?_;rcases h with⟨h92,n',he,rfl⟩|⟨h92,rfl,rfl⟩
  .refine ah (λ_=>?_) (λc=>absurd aa c);refine PU.of (iN 1 rfl aa) ?_;rw[wP aa];refine aF ?_;refine az.mono (Ue hS.wf _ (by rw[mq s aa (aj _)];omega) (by rw[yY];exact he)) ?_;rintro v H3 ⟨rfl,hx2⟩;have hS:=hS.call hx2;refine aF ?_;refine ah (λc=>absurd c aa) λ_=>?_;refine PU.of (iN 1 rfl aa) ?_;exact last hS
  .refine ah (λc=>absurd aa h92) (λ_=>?_);exact last hS
theorem aeT(hw:Wf H)(s:ByteArray)(hs:s.size<=1000000)(h:Ce (tx s) (b+1) e)(hbe:b+1<e)(hcr:Cr (tx<|Ae.part s (b+1) e) 0):e<s.size/\az Pg X 85 [.string s,vn b] H (Q1 (λv H'=>∃x,v=.tuple ⟨[x,vn<|e+1,vi 0,vi 0]⟩/\zi TT H' x) H):=by
 have hl:=j_ s;have bd:∀{k},Ce (tx s) k e->k<=e/\e<s.size:=λh=>ceB h;refine⟨(bd h).2,?_⟩;have hp:=mq s (lo:=b+1) (hi:=e) aa (by have:=bd h;omega);refine ce [0,1,4,5,6,7,8,9,10,11] ?_;refine tl ?_;refine PU.of (iN 1 rfl (by have:=bd h;omega)) ?_;refine zm 8 (I:=λm x8 H'=>H'=H/\∃k,x8=vn k/\k+m=s.size/\Ce (tx s) k e) ?_ (s.size-(b+1)) ⟨rfl,b+1,rfl,by have:=bd h;omega,h⟩;clear h;rintro m x8 rg H1 ⟨rfl,k,rfl,hkm,h⟩;have hb:=bd h;refine tl ?_;refine aF ?_;refine ah (λhc=>?_) λhc=>absurd aa hc;rw[jL aa];refine aF ?_;cases h with
 |fin _ h2 h3=>
  refine bq (λc=>absurd aa c) λ_=>?_;refine tl ?_;refine aF ?_;refine ah (λc=>absurd c aa) λ_=>?_;refine PU.of (iN 1 rfl aa) ?_;rw[Aj aa aa];refine aF ?_;refine az.mono (ahf hw _ aa aa hcr) ?_;rintro v H2 ⟨⟨x,rfl,hx⟩,hx2⟩;refine aF ?_;refine bq (λc=>absurd trivial c) λ_=>?_;refine PU.of (iN 1 rfl aa) ?_;refine rr ?_;exact⟨⟨x,rfl,hx⟩,hx2⟩
 |bs _ _ h2 h3 h4=>
  have hb4:=bd h4;refine bq (λ_=>?_) λc=>absurd c aa;refine tl ?_;rw[jL aa];refine aF ?_;refine ah (λ_=>?_) λc=>absurd aa c;refine PU.of (iN 1 rfl aa) ?_;refine PU.of (iN 1 rfl aa) ?_;exact⟨s.size-(k+2),aa,_,_,_,rfl,rfl,k+2,rfl,aa,h4⟩
 |go _ _ h2 h3 h4 h5=>
  have hb4:=bd h5;refine bq (λ_=>?_) λc=>absurd c aa;refine tl ?_;rw[jL aa];refine aF ?_;refine ah (λc=>absurd c aa) λ_=>?_;refine PU.of (iN 1 rfl aa) ?_;exact⟨s.size-(k+1),aa,_,_,_,rfl,rfl,k+1,rfl,aa,h5⟩
end
section
open Go.Ae Go.Ae.M Go.Ae.AM
def PK(F:Nat->Prop)(H:ag)(l:List Value)(k:Int)(t:ByteArray):Prop:=∃(a e:Nat)(t':ByteArray)(x:Value),l=[vi k,vn a,vn e,.string t',x]/\(k=1\/k=2->t'=t)/\t'.size<=4000000/\zi F H x
def w9(F:Nat->Prop)(H:ag)(v:Value)(n:Nat)(K:Nat->Int)(T:Nat->ByteArray):Prop:=∃(a:Option Addr)(c:Nat)(cs:List Value),v=.slice a n c/\jT F 153 H a n 5 cs/\∀i,i<n->PK F H (El cs 5 i) (K i) (T i)
theorem PK.st{F:Nat->Prop}{S:List Nat}{l:List Value}{k:Int}{t:ByteArray}(h:PK F H l k t)(hx:qU S H H')(hS:∀q∈S,¬F q\/¬wR H q 230):PK F H' l k t:=let⟨a,e,t',x,h1,h2,h3,h4⟩:=h;⟨a,e,t',x,h1,h2,h3,h4.st hx hS⟩
section
variable{K:Nat->Int}
def Hd(s:ByteArray)(K:Nat->Int)(T:Nat->ByteArray)(n i b:Nat):Prop:=b<=s.size/\i<n/\(b=s.size/\n=i+1/\K i=0\/b<s.size/\∃t e,One s b (K i) t e/\(K i=1\/K i=2->T i=t)/\Lx s K T n (i+1) e)
theorem Lx.hd(h:Lx s K T n i k):∃b,Bl (tx s) k b/\Hd s K T n i b:=by
 have key:∀{i k},Lx s K T n i k->i<n:=λh=>by
  induction h with
  |fin i k h1 h2 h3=>omega
  |go i k b e t h1 h2 h3 h4 h5 ih=>omega
 cases h with
 |fin _ _ h1 h2 h3=>exact⟨_,h1,aj _,aa,.inl ⟨rfl,h2,h3⟩⟩
 |go _ _ b e t h1 h2 h3 h4 h5=>exact⟨b,h1,Nat.le_of_lt h2,by have:=key h5;omega,.inr ⟨h2,t,e,h3,h4,h5⟩⟩
theorem adq(h:mk1 c=some m):¬Db c/\c≠39/\c≠91/\c≠45/\5<=m/\m<=14:=by
 unfold mk1 at h;unfold Db
 repeat' split at h
 all_goals cases h<;>omega
theorem One.inv{k:Int}{t:ByteArray}(h:One s b k t e):(Db (at' (tx s) b)/\b<e/\e<=s.size/\e<=b+60/\(∀j,b<=j->j<e->JX (at' (tx s) j))/\(e<s.size->¬JX (at' (tx s) e))/\k=(if 65<=at' (tx s) b/\at' (tx s) b<=90 then 1 else 2)/\t=Ae.part s b e)\/
 (at' (tx s) b=39/\at' (tx s) (b+1)≠39/\Li (tx s) (b+1) e/\k=3)\/(at' (tx s) b=91/\∃e',e=e'+1/\Ce (tx s) (b+1) e'/\b+1<e'/\Cr (tx<|Ae.part s (b+1) e') 0/\k=4)\/
 (at' (tx s) b=45/\at' (tx s) (b+1)=62/\b+1<s.size/\k=15/\e=b+2)\/∃m:Nat,mk1 (at' (tx s) b)=some m/\k=m/\e=b+1:=by
 cases h with
 |nm e h1 h2 h3 h4 h5 h6=>exact .inl ⟨h4,h1,h2,h3,h5,h6,rfl,rfl⟩
 |li e t h1 h2 h3=>exact .inr<|.inl ⟨h1,h2,h3,rfl⟩
 |cl e t h1 h2 h3 h4=>exact .inr<|.inr<|.inl ⟨h1,e,rfl,h2,h3,h4,rfl⟩
 |ar t h1 h2 h3=>exact .inr<|.inr<|.inr<|.inl ⟨h1,h2,h3,rfl,rfl⟩
 |mk k t h=>exact .inr<|.inr<|.inr<|.inr ⟨k,h,rfl,rfl⟩
theorem PL(H:ag):zi TT H (.slice none 0 0):=⟨none,0,0,[],rfl,jT.nil _ _ _ _ _,aM _,(λz h=>nomatch h),λy h=>nomatch h⟩
theorem adr{S:List Nat}{l:List Value}(hg:GB 153 5 x cs gb)(hcl:cs.length=i*5)(hi:i<=20001)(hS:SH S H0 H<|gb++L)(hty:(gb++L).all (λe=>!(e.2.1==230))=true)(hrow:∀j,j<i->PK TT H (El cs 5 j) (K j) (T j))(ht:PK TT H l (K i)<|T i)(hw:aX w=l)(h1:rY w=true)(h2:all' dK l=true){Kp:Value->Value->ag->Prop}(kk:∀q v' H3 gY cs',GB 153 5 v' cs' gY->cs'.length=(i+1)*5->SH S H0 H3 (gY++L)->(∀j,j<i+1->PK TT H3 (El cs' 5 j) (K j) (T j))->Kp q v' H3):ME (bS 153 [vi 0,vi 0,vi 0,.string ⟨#[]⟩,.slice none 0 0] 5 1 [(0,w)] H) λq H1=>ME (Bz 153 5 x q H1) (Kp q):=by
 have hl:l.length=5:=by obtain⟨_,_,_,_,rfl,_⟩:=ht;rfl
 have htn:=hS.Gt hty;refine hg.push hS.base aa rfl hw hl h1 h2 aa aa λq v' H3 gY hg' hO=>?_;have hE:=ze (es:=5) (n:=i) hcl hl;refine kk q v' H3 gY (cs++l) hg' (by rw[ay];omega) (hS.over hO) λj hj=>?_;rcases aN j i with h|h
 .rw[hE.1 j h];exact(hrow j h).st hO.ext λq hq=>.inr<|htn q hq
 .obtain rfl:j=i:=by omega
  rw[hE.2];exact ht.st hO.ext λq hq=>.inr<|htn q hq
theorem aiy(hw:Wf H)(s:ByteArray)(hs:s.size<=20000)(hn:n<=20001)(h:Lx s K T n 0 0):az Pg X 33 [.string s] H (Q1 (λv H'=>∃x,v=.tuple ⟨[x,vi 0,vi 0]⟩/\w9 TT H' x n K T) H):=by
 have hl:=j_ s;refine ce [0,2,3,4,5,6,7,8,9,10] ?_;refine tl ?_;refine aF ?_;refine ah (λc=>absurd c aa) λ_=>?_;obtain⟨b0,hb0,hd0⟩:=h.hd;refine az.mono (Z7 s aa hb0) ?_;rintro v H1 ⟨rfl,rfl⟩;refine lp6 5 6 7 8 9 10 (I:=λm x5 x6 x7 x8 x9 dR H'=>∃i b cs gb,x6=vn b/\i+m=n/\Hd s K T n i b/\GB 153 5 x5 cs gb/\cs.length=i*5/\SH [] H1 H' gb/\∀j,j<i->PK TT H' (El cs 5 j) (K j) (T j)) ?_ n ⟨0,b0,[],[],rfl,aI n,hd0,GB.nil _ _,rfl,SH.refl hw,λj h=>absurd h<|fI _⟩;clear h hb0 hd0;rintro m x5 x6 x7 x8 x9 dR rg H2 ⟨i,b,cs,gb,rfl,him,⟨hbs,hin,hd⟩,hg,hcl,hS,hrow⟩;refine tl ?_;refine aF ?_;refine ah (λhc=>?_) λhc=>?_;rotate_left
 .rcases hd with⟨h1,h2,h3⟩|⟨h1,_⟩;rotate_left
  .omega
  refine tl ?_;refine aF ?_;refine PU.b5 rfl ?_;refine adr hg hcl aa (hS.cast (aQ gb).symm) (by simp[hg.all]) hrow ⟨_,_,_,_,rfl,λh=>by omega,aM _,PL _⟩ (by rw[h3];rfl) rfl rfl λw v' H3 gY cs' hg' abX hS hrow=>?_;refine aF ?_;obtain⟨a,n',c,rfl,hn',hf⟩:=hg'.Nn (F:=TT) hS λ_ _=>trivial;obtain rfl:n'=n:=by omega
  refine rr ?_;exact⟨⟨_,rfl,a,c,_,rfl,hf,λj hj=>hrow j aa⟩,hS.ext⟩
 obtain⟨h1,t,e,hone,hT,TY⟩:b<s.size/\_:=hd.resolve_left λh=>by omega
 refine PU.of (iN 1 rfl aa) ?_;refine PU.b5 rfl ?_;have hS0:=hS;refine hS.mO rfl rfl rfl λH3 rt hS hx3=>?_;have hS:SH [] H1 H3 ((rt,153,[vi 0,vn b,vn<|b+1,.string ⟨#[]⟩,.slice none 0 0])::gb):=hS;have hrow:∀j,j<i->PK TT H3 (El cs 5 j) (K j) (T j):=λj hj=>(hrow j hj).st hx3 λq h=>nomatch h;have e1:=jL (s:=s) (k:=b) h1;rw[e1];have Je:at' (tx s) b<256:=(xC (s:=s) b rfl h1).2;refine az.mono (Ud _) ?_;rintro v H4 ⟨⟨bl,rfl,hbl⟩,rfl⟩
 have tail:∀{H5:ag}{e:Nat}{t':ByteArray}{x:Value},SH [] H1 H5 ((rt,153,[vi (K i),vn b,vn e,.string t',x])::gb)->(∀j,j<i->PK TT H5 (El cs 5 j) (K j) (T j))->zi TT H5 x->(K i=1\/K i=2->t'=T i)->t'.size<=4000000->Lx s K T n (i+1) e->∀{x8 dR rg},dJ Pg X (sub eX [1,1,1,0,1,0,0,1,0,0,1,1,1,1]) (iU (.string s) (.slice none 0 0) (vi 0) (vi 0) x5 (vn b) (pr rt) x8 (vi 0) dR rg H5)
  (j3 1<|nR Pg X (sub eX [1,1,1,0,1,0,0,1,1])<|Ah (λm s_1=>∃x5 x6 x7 x8 x9 dR rg H',s_1=iU (.string s) (.slice none 0 0) (vi 0) (vi 0) x5 x6 x7 x8 x9 dR rg H'/\∃i b cs gb,x6=vn b/\i+m=n/\Hd s K T n i b/\GB 153 5 x5 cs gb/\cs.length=i*5/\SH [] H1 H' gb/\∀j,j<i->PK TT H' (El cs 5 j) (K j) (T j)) m<|j3 0<|nR Pg X (sub eX [1,1,1,1])<|f_ Pg [.tmp 2,.tmp 3,.tmp 4]<|Q1 (λv H'=>∃x,v=.tuple ⟨[x,vi 0,vi 0]⟩/\w9 TT H' x n K T) H1):=by
  intro H5 e t' x hS hrow hx ht hts hL x8 dR rg;obtain⟨b',hb',hd'⟩:=hL.hd;obtain⟨xa,xn,xc,zs,rfl,hx'⟩:=id hx;refine tl ?_;refine aF ?_;refine bq (λc=>absurd trivial c) λ_=>?_;refine hS.CU 0 rfl (aj 5) ?_;refine adr hg hcl aa (hS.perm<|au (l₁:=[_])) (by simp[hg.all]) hrow ⟨_,_,_,_,rfl,ht,hts,hx⟩ rfl rfl rfl λw v' H6 gY cs' hg' abX hS hrow=>?_;have hS:=hS.perm<|au (l₂:=[_]);refine hS.ld 0 (o:=2) rfl rfl ?_;refine tl ?_;refine az.mono (Z7 s aa hb') ?_;rintro v H7 ⟨rfl,rfl⟩;refine aF ?_;exact⟨m-1,aa,_,_,_,_,_,_,_,_,rfl,i+1,b',cs',gY,rfl,aa,hd',hg',abX,SH.drop (A:=[_]) hS,hrow⟩
 have rows:∀{H5 H6:ag}{l:List Value}{L':List cz},SH [] H1 H5 ((rt,153,l)::gb)->SH ((((rt,153,l)::gb):List cz).map (·.1)) H5 H6 L'->(∀j,j<i->PK TT H5 (El cs 5 j) (K j) (T j))->∀j,j<i->PK TT H6 (El cs 5 j) (K j) (T j):=λh1 h2 h3 j hj=>(h3 j hj).st h2.ext λq hq=>.inr<|h1.Gt (by simp[hg.all]) q hq;refine aF ?_;rcases hone.inv with⟨g1,g2,g3,g4,g5,g6,g7,g8⟩|h
 .refine bO (λ_=>?_) (λc=>absurd (hbl.2 g1) (by rw[c];decide))
  have post:∀{H5:ag},SH [] H1 H5 ((rt,153,[vi 0,vn b,vn e,.string ⟨#[]⟩,.slice none 0 0])::gb)->(∀j,j<i->PK TT H5 (El cs 5 j) (K j) (T j))->∀{rg},dJ Pg X (sub eX [1,1,1,0,1,0,0,1,0,0,1,1,1,0,0,1,0,1]) (iU (.string s) (.slice none 0 0) (vi 0) (vi 0) x5 (vn b) (pr rt) (.int .u8 (at' (tx s) b:Int)) (vi 0) (vi 0) rg H5)
   (j3 2<|nR Pg X (sub eX [1,1,1,0,1,0,0,1,0,0,1,1,1,1])<|j3 1<|nR Pg X (sub eX [1,1,1,0,1,0,0,1,1])<|Ah (λm s_1=>∃x5 x6 x7 x8 x9 dR rg H',s_1=iU (.string s) (.slice none 0 0) (vi 0) (vi 0) x5 x6 x7 x8 x9 dR rg H'/\∃i b cs gb,x6=vn b/\i+m=n/\Hd s K T n i b/\GB 153 5 x5 cs gb/\cs.length=i*5/\SH [] H1 H' gb/\∀j,j<i->PK TT H' (El cs 5 j) (K j) (T j)) m<|j3 0<|nR Pg X (sub eX [1,1,1,1])<|f_ Pg [.tmp 2,.tmp 3,.tmp 4]<|Q1 (λv H'=>∃x,v=.tuple ⟨[x,vi 0,vi 0]⟩/\w9 TT H' x n K T) H1):=by
   intro H5 hS hrow rg;have hS0:=hS;have hS:=hS.base;refine tl ?_
   repeat(first|(refine hS.aY ?_)|(refine hS.kI ?_))
   rw[Aj aa g3]
   repeat(first|(refine hS.aY ?_)|(refine hS.qJ λHn hS=>?_))
   refine splitK (λK hK=>?_) ?_
   .simp only[cB,dn];apply IW (a:=rt) (by intros;rfl) (by kernel_rfl) (by kernel_rfl) hK
   have hp:=mq s (lo:=b) (hi:=e) aa g3
   have fin:∀{z:Int}{H6:ag},K i=z->SH ((((rt,153,[vi 0,vn b,vn e,.string ⟨#[]⟩,.slice none 0 0])::gb):List cz).map (·.1)) H5 H6 ((rt,153,[vi z,vn b,vn e,.string<|Ae.part s b e,.slice none 0 0])::gb)->∀{rg},dJ Pg X (sub eX [1,1,1,0,1,0,0,1,0,0,1,1,1,0,0,1,0,1,1,1]) (iU (.string s) (.slice none 0 0) (vi 0) (vi 0) x5 (vn b) (pr rt) (.int .u8 (at' (tx s) b:Int)) (vi 0) (vi 0) rg H6)
    (j3 2<|nR Pg X (sub eX [1,1,1,0,1,0,0,1,0,0,1,1,1,1])<|j3 1<|nR Pg X (sub eX [1,1,1,0,1,0,0,1,1])<|Ah (λm s_1=>∃x5 x6 x7 x8 x9 dR rg H',s_1=iU (.string s) (.slice none 0 0) (vi 0) (vi 0) x5 x6 x7 x8 x9 dR rg H'/\∃i b cs gb,x6=vn b/\i+m=n/\Hd s K T n i b/\GB 153 5 x5 cs gb/\cs.length=i*5/\SH [] H1 H' gb/\∀j,j<i->PK TT H' (El cs 5 j) (K j) (T j)) m<|j3 0<|nR Pg X (sub eX [1,1,1,1])<|f_ Pg [.tmp 2,.tmp 3,.tmp 4]<|Q1 (λv H'=>∃x,v=.tuple ⟨[x,vi 0,vi 0]⟩/\w9 TT H' x n K T) H1):=by
    intro z H6 hz hO rg;have hrow:=rows hS0 hO hrow;have hS:=hS0.over hO;refine tl ?_;refine aF ?_;refine hS.ld 0 (o:=2) rfl rfl ?_;rw[nM aa aa];refine aF ?_;refine ah (λc=>absurd c aa) λ_=>?_;subst hz;exact tail hS hrow (PL _) (λh=>by rw[hT h,g8]) aa TY
   refine ah (λc=>?_) λc=>?_
   .refine hS.kJ λHn hS=>?_;refine fin (by rw[g7,if_pos (by unfold Db at g1;omega)]) hS
   .exact fin (by rw[g7,if_neg aa]) hS
  refine zm 9 (I:=λm x9 H'=>x9=vi 0/\∃k,k+m=e/\b+1<=k/\SH [] H1 H' ((rt,153,[vi 0,vn b,vn k,.string ⟨#[]⟩,.slice none 0 0])::gb)/\∀j,j<i->PK TT H' (El cs 5 j) (K j) (T j)) ?_ (e-(b+1)) ⟨rfl,b+1,aa,aj _,hS,hrow⟩;clear hS hrow;rintro q x9 rg H5 ⟨rfl,k,hkq,hbk,hS,hrow⟩;refine tl ?_;refine aF ?_;refine hS.ld 0 (o:=2) rfl rfl ?_;refine aF ?_;refine ah (λc=>?_) λc=>?_;rotate_left
  .obtain rfl:k=e:=by omega
   exact post hS hrow
  refine hS.ld 0 (o:=2) rfl rfl ?_;rw[jL aa];refine aF ?_;refine az.mono (aha _) ?_;rintro v H6 ⟨⟨bp,rfl,hbp⟩,rfl⟩;refine aF ?_;refine bO (λc2=>?_) λc2=>?_
  .have hke:k<e:=by
    rcases aN k e with h|h
    .exact h
    .obtain rfl:k=e:=by omega
     exact absurd (hbp.1 c2)<|g6 aa
   have hS0:=hS;have hS:=hS.base;refine tl ?_;refine aF ?_;refine hS.ld 0 (o:=2) rfl rfl ?_;refine PU.of (iN 1 rfl aa) ?_;refine hS.kJ λHn hS=>?_;exact⟨q-1,aa,_,_,_,rfl,rfl,k+1,aa,aa,hS0.over hS,rows hS0 hS hrow⟩
  .obtain rfl:k=e:=by
    rcases aN k e with h|h
    .exact absurd (hbp.2<|g5 k aa h) (by rw[c2];decide)
    .omega
   exact post hS hrow
 have hnl:¬Db (at' (tx s) b):=by
  rcases h with h|h|h|⟨m,h,_⟩
  .unfold Db;omega
  .unfold Db;omega
  .unfold Db;omega
  .exact(adq h).1
 have hS0:=hS;have hS:=hS.base;refine bO (λc=>absurd (hbl.1 c) hnl) λ_=>?_;rcases h with⟨g1,g2,g3,g4⟩|⟨g1,e',rfl,g2,g3,g4,g5⟩|⟨g1,g2,g3,g4,rfl⟩|⟨k,g1,g2,rfl⟩
 .refine ah (λ_=>?_) (λc=>absurd aa c);refine hS.kJ λHn hS=>?_;obtain⟨f1,f2,f3⟩:=Z_ hS.wf s aa g2 g3;refine az.mono f3 ?_;rintro v H5 ⟨⟨t',rfl,ht'⟩,hx⟩;have hS:=hS.call hx
  repeat(first|(refine hS.aY ?_)|(refine hS.kJ λHn hS=>?_))
  rw[<-g4]at hS;exact tail (hS0.over hS) (rows hS0 hS hrow) (PL _) (λh=>by omega) ht' TY
 .refine ah (λc=>absurd c aa) (λ_=>?_);refine ah (λ_=>?_) λc=>absurd aa c;refine hS.kJ λHn hS=>?_;obtain⟨f1,f2⟩:=aeT hS.wf s aa g2 g3 g4;refine az.mono f2 ?_;rintro v H5 ⟨⟨x,rfl,hx'⟩,hx⟩;have hS:=hS.call hx;have htn:=hS.Gt (ty:=230) (by simp[hg.all]);have hS1:=hS;have hS:=hS.base;obtain⟨xa,xn,xc,zs,rfl,hx4⟩:=id hx'
  repeat(first|(refine hS.aY ?_)|(refine hS.kJ λHn hS=>?_))
  have hx':=hx'.st hS.ext λq hq=>.inr<|htn q hq;have hS:=hS1.over hS;rw[<-g5]at hS;exact tail (hS0.over hS) (rows hS0 hS hrow) hx' (λh=>by omega) (aM _) TY
 .refine ah (λc=>absurd c aa) (λ_=>?_);refine ah (λc=>absurd c aa) λ_=>?_;refine ah (λ_=>?_) λc=>absurd aa c;refine PU.of (iN 1 rfl aa) ?_;refine aF ?_;refine ah (λ_=>?_) λc=>absurd aa c;refine PU.of (iN 1 rfl aa) ?_;rw[jL aa];refine aF ?_;rw[aS (show((at' (tx s) (b+1):Nat):Int)=62 by omega)];refine tl ?_;refine PU.of (iN 2 rfl aa) ?_
  repeat(first|(refine hS.aY ?_)|(refine hS.kJ λHn hS=>?_))
  rw[<-g4]at hS;exact tail (hS0.over hS) (rows hS0 hS hrow) (PL _) (λh=>by omega) (aM _) TY
 .obtain⟨_,f1,f2,f3,f4,f5⟩:=adq g1;refine ah (λc=>absurd c aa) λ_=>?_;refine ah (λc=>absurd c aa) λ_=>?_;refine ah (λc=>absurd c aa) λ_=>?_;refine tl ?_;refine az.mono (ahb _ k g1) ?_;rintro v H5 ⟨rfl,rfl⟩
  repeat(first|(refine hS.aY ?_)|(refine hS.dQ ?_)|(refine hS.kJ λHn hS=>?_))
  refine ah (λc=>absurd c aa) λ_=>?_;have hS:=hS.to (cs':=[vi (K i),vn b,vn<|b+1,.string ⟨#[]⟩,.slice none 0 0]) (by rw[g2];rfl);exact tail (hS0.over hS) (rows hS0 hS hrow) (PL _) (λh=>by omega) (aM _) TY
end
end
section
open Go.Ae Go.Ae.M Go.Ae.AM
variable{S:List Nat}{K:Value->ag->Prop}{xs:List Value}
def GE(ty:TypeId)(es:Nat)(v:Value)(cs:List Value)(gb:List cz):Prop:=GB ty es v cs gb\/∃a,v=.slice (some a) 0 0/\cs=[]/\gb=[]
theorem GE.sl(h:GE ty es v cs gb):∃a n c,v=.slice a n c:=by
 rcases h with(⟨rfl,_⟩|⟨r,n,dH,rfl,_⟩)|⟨a,rfl,_⟩<;>exact⟨_,_,_,rfl⟩
theorem GE.Nn{F:Nat->Prop}(h:GE ty es v cs gb)(hS:SH S H0 H<|gb++L)(hF:∀e∈gb,F e.1):∃a n c,v=.slice a n c/\cs.length=n*es/\jT F ty H a n es cs:=by
 rcases h with h|⟨a,rfl,rfl,rfl⟩
 .exact h.Nn hS hF
 .exact⟨some a,0,0,rfl,by simp,⟨by simp,λi x h=>by simp at h⟩,λr o e h=>absurd h<|nG 0⟩
theorem _root_.Go.Ae.SH.aeU(hS:SH S H0 H L){z:List Value}(k:∀H1 a,SH S H0 (hM H H1) L->S8 H H1=cl 5->K (.slice (some a) 0 0) H1):ME (bS ty z es 0 []<|hN H) K:=by
 refine ME.of (v:=.slice (some ⟨H.next,0,none⟩) 0 0) (H:=(hN H).new<|rowOf ty []) ?_<|k _ _ (SH.drop (A:=[_])<|hS.FL ty [])<|D5<|Ext.new _ _;unfold bS;rw[show Nat.mul 0 es=0 from gP es];rfl
theorem _root_.Go.Ae.SH.aeV(hS:SH S H0 H L)(ha:appended (hN H) es x=some (n,xs))(hx:xs.length=n*es)(hn:n<=16777216){a0:Addr}(k:∀v' H1 gY,GE ty es v' xs gY->SH S H0 (hM H H1) (gY++L)->E7 H H1=cl 1->K v' H1):ME (Bz ty es (.slice (some a0) 0 0) x<|hN H) K:=by
 rw[IP (.inr ⟨_,rfl⟩) ha hn];split
 .next h0=>
  subst h0;obtain rfl:xs=[]:=bK.1 aa;refine k _ (hN H) [] (.inr ⟨a0,rfl,rfl,rfl⟩) ?_<|dL<|Ext.refl _;rw[eF hS.wf];exact hS
 .exact k _ _ [(H.next,ty,xs)] (.inl<|.inr ⟨H.next,n,[],rfl,hx,by simp⟩) (hS.FL ty xs)<|dL<|Ext.new _ _
theorem GE.apX(hg:GE ty es v cs gb)(hS:SH S H0 H<|gb++L)(he:0<es)(ha:appended (hN H) es x=some (n,xs))(hx:xs.length=n*es)(hok:all' dK xs=true)(hn:n<=16777216)(hc:cs.length<=16777216)(k:∀v' H1 gY,GE ty es v' (cs++xs) gY->SH S H0 (hM H H1) (gY++L)->(E7 H H1=cl 1\/E7 H H1=⟨2,0,0,0,H,H1⟩)->K v' H1):ME (Bz ty es v x<|hN H) K:=by
 have hnew:∀{w},(w=.slice none 0 0\/∃a,w=.slice (some a) 0 0)->GE ty es w [] []->SH S H0 H L->(∀v' H1 gY,GE ty es v' xs gY->SH S H0 (hM H H1) (gY++L)->(E7 H H1=cl 1\/E7 H H1=⟨2,0,0,0,H,H1⟩)->K v' H1)->ME (Bz ty es w x<|hN H) K:=λhw hgw hS k=>by
  rw[IP hw ha hn];split
  .next h0=>
   subst h0;obtain rfl:xs=[]:=bK.1 aa;refine k _ (hN H) [] hgw ?_<|.inl<|dL<|Ext.refl _;rw[eF hS.wf];exact hS
  .exact k _ _ [(H.next,ty,xs)] (.inl<|.inr ⟨H.next,n,[],rfl,hx,by simp⟩) (hS.FL ty xs)<|.inl<|dL<|Ext.new _ _
 rcases id hg with(⟨rfl,rfl,rfl⟩|⟨r,m,dH,rfl,hm,rfl⟩)|⟨a,rfl,rfl,rfl⟩
 .exact hnew (.inl rfl) hg hS k
 .cases n with
  |zero=>
   obtain rfl:xs=[]:=bK.1 aa;refine ME.of (v:=.slice (some ⟨r,0,none⟩) m<|dV es) (H:=hN H) ?_<|k _ (hN H) _ (by rw[aQ];exact hg) (by rw[eF hS.wf];exact hS)<|.inl<|dL<|Ext.refl _;unfold Bz;show(ax (appended (hN H) es x) λq=>gd (Nat.ble q.1 16777216)<|Nz (ty,es) _ (some ⟨r,0,none⟩,m,dV es) q.1 q.2<|hN H)=_;rw[ha];rfl
  |succ n=>
   have hb:Bk (hN H) r ty (cs++dH):=hS.get 0 rfl;have hr:=(hS.lo _<|aD ..).2
   have hnn:m<=16777216:=by
    have:m*1<=m*es:=jw m he;omega
   obtain⟨r',H1,Ci,h1,h2,h3,h4,h5,h6⟩:=Mf he hb hr hm ha aa hok aa hnn;refine ME.of h1<|k _ H1 [(r',ty,cs++xs++Ci)] (.inl<|.inr ⟨r',m+(n+1),Ci,rfl,?_,rfl⟩) ?_<|yR _ _
   .rw[ay,hm,hx,<-dN]
   .refine SH.turn (A:=[(r,ty,cs++dH)]) hS h5.draw (λe he'=>?_) (iF _ _);rw[aO]at he';subst he';refine⟨h2,?_,h4⟩;rcases h3 with h3|h3
    .exact .inl (by simp[h3])
    .exact .inr (by show H.next<=r';rw[h3];exact aj _)
 .exact hnew (.inr ⟨a,rfl⟩) hg hS k
theorem GE.aaa(hg:GE ty es v cs gb){rx cx:Nat}(hS:SH S H0 H<|(rx,ty,xs)::(gb++L))(he:0<es)(hx:xs.length=es)(hok:all' dK xs=true)(hc:cs.length<=16777216)(k:∀v' H1 gY,GE ty es v' (cs++xs) gY->SH S H0 (hM H H1) (gY++L)->(E7 H H1=cl 1\/E7 H H1=⟨2,0,0,0,H,H1⟩)->K v' H1):ME (Bz ty es v (.slice (some ⟨rx,0,none⟩) 1 cx)<|hN H) K:=
 hg.apX (SH.drop (A:=[_]) hS) he (xA (H:=hN H) (k:=1) (hS.get 0 rfl) aa) aa hok aa hc k
end
section
open Go.Ae Go.Ae.M Go.Ae.AM
def zz(H:ag)(v:Value)(k:Nat):Prop:=∃(r n c:Nat)(xs:List Nat)(dH:List Value),v=.slice (some ⟨r,0,none⟩) n c/\(c=dV 1\/n=1/\c=1)/\Bk H r 3 (fG xs++dH)/\r<H.next/\xs.length=n/\n<=k/\∀x∈xs,x<=1114112
theorem zz.ex(h:zz H v k)(hx:Ext H H'):zz H' v k:=let⟨r,n,c,xs,dH,h1,h2,h3,h4,h5⟩:=h;⟨r,n,c,xs,dH,h1,h2,h3.ex h4 hx,aH h4 hx.next,h5⟩
theorem ahg(hc:c=dV 1\/n=1/\c=1)(h:k<=n):∃c',slA 1 (.slice (some ⟨r,0,none⟩) n c) none (some<|vn k) none=some (.slice (some ⟨r,0,none⟩) k c'):=by
 rcases hc with rfl|⟨rfl,rfl⟩
 .exact⟨_,CZ h⟩
 .obtain rfl|rfl:k=0\/k=1:=by omega
  .exact⟨_,rfl⟩
  .exact⟨_,rfl⟩
theorem abY(hc:c=dV 1\/n=1/\c=1)(h:k<=n):∃o c',slA 1 (.slice (some ⟨r,0,none⟩) n c) (some<|vn k) none none=some (.slice (some ⟨r,o,none⟩) (n-k) c')/\o+(n-k)<=n:=by
 rcases hc with rfl|⟨rfl,rfl⟩
 .exact⟨_,_,Oy h,aa⟩
 .obtain rfl|rfl:k=0\/k=1:=by omega
  .exact⟨_,_,rfl,aj 1⟩
  .first|exact⟨_,_,rfl,aj 1⟩|exact⟨_,_,rfl,aM 1⟩
theorem aab{o:Nat}{xs:List Value}(h:Bk H r ty<|xs++dH)(hl:o+k<=xs.length):appended (hN H) 1 (.slice (some ⟨r,o,none⟩) k c)=some (k,(xs.drop o).take k):=by
 have h:Bk (hN H) r ty (xs++dH):=h;show(ax ((hN H).read r o<|Nat.mul k 1) λl=>some (k,l))=_;rw[show Nat.mul k 1=k from bG k,h.read (by rw[ay];omega),my aa,mD (by rw[dW];omega)];rfl
theorem aac:∀xs:List Nat,all' dK (fG xs)=true
 |[]=>rfl
 |x::xs=>by show aU true (all' dK<|fG xs) false=true;exact aac xs
theorem ads(hw:Wf H){z:Nat}(hl:zz H v k)(hk:k<=3000000)(hz:z<=1114112):az Pg X 201 [v,vn z] H (Q1 (λw H'=>zz H' w<|k+1) H):=by
 obtain⟨r,n,c,xs,dH,rfl,hc,hb,hr,hn,hnk,hxs⟩:=id hl;have hS:=SH.refl hw;have same:zz H (.slice (some ⟨r,0,none⟩) n c) (k+1):=⟨r,n,c,xs,dH,rfl,hc,hb,hr,hn,aa,hxs⟩;refine ce [0,1,4,5] ?_;refine tl ?_;refine aF ?_;refine ah (λc=>absurd c aa) λ_=>?_;refine ah (λc=>?_) λ_=>?_
 .refine rr ?_;exact⟨same,hS.ext⟩
 refine tl ?_
 have ix:∀{i}{K:Value->Value->ag->Prop},i<n->(∀p x,K p (vn x) H)->PU (zH 1 (.slice (some ⟨r,0,none⟩) n c)<|vn i) λp=>ME (rQ none p H) (K p):=λ{i K} hi hk=>by
  have hf:jT (λ_=>True) 3 H (some ⟨r,0,none⟩) n 1 (fG xs):=⟨⟨by rw[aC];omega,λj x hj=>⟨r,0,rfl,hr,by rw[aI];refine hb.cell ?_;rw[aP (aL.1 hj).1];exact hj⟩⟩,λr' o e _=>by cases e;exact⟨trivial,hr,hb.Tn⟩⟩;exact hf.ix hi (oz _<|ae aa) λp=>hk p _
 refine zm 5 (I:=λm x5 H'=>H'=H/\∃i,x5=vn i/\i+m=n) ?_ n ⟨rfl,0,rfl,aI n⟩;rintro m x5 rg H' ⟨rfl,i,rfl,him⟩
 have fin:∀{x4 rg},dJ Pg X (sub tL [1,1,1,1,1]) (sP (.slice (some ⟨r,0,none⟩) n c) (vn z) x4 (vn i) rg H') (f_ Pg [.tmp 4]<|Q1 (λw H'=>zz H' w<|k+1) H'):=by
  intro x4 rg;refine tl ?_;refine hS.aeU λH1 a hS hc1=>?_;obtain⟨c1,e1⟩:=ahg (r:=r) (k:=i) hc aa;refine PU.of e1 ?_;have hlx:(fG xs).length=n:=by rw[aC];exact hn
  refine hS.aeV (aab (hb.ex hr hS.ext) aa) (by rw[eH,iR,hlx];omega) aa λv2 H2 g2 hg2 hS hc2=>?_;refine hS.U8 rfl rfl rfl aa λH3 rx hS hc3=>?_;refine hg2.aaa hS aa rfl rfl (by rw[eH,iR,hlx];omega) λv4 H4 g4 hg4 hS hc4=>?_;obtain⟨o,c5,e5,ho⟩:=abY (r:=r) (k:=i) hc aa;refine PU.of e5 ?_;have e2:((fG xs).drop o).take (n-i)=fG ((xs.drop o).take<|n-i):=by show _=List.map _ _;rw[tY,List.map_drop]
  refine hg4.apX hS aa (aab (hb.ex hr hS.ext) aa) (by rw[eH,dW,hlx];omega) ?_ aa (by rw[ay,eH,iR,hlx];show min i n+1<=_;omega) λv6 H6 g6 hg6 hS hc6=>?_
  .rw[e2];exact aac _
  refine splitK (λK hK=>?_) ?_
  .simp only[hc1,hc2,hc3];rcases hc4 with e|e<;>rw[e]<;>rcases hc6 with e|e<;>rw[e]<;>apply C5 (T:=λ_=>True) (by kernel_rfl) (by kernel_rfl) hK<;>repeat' apply And.intro
   all_goals first|exact trivial|(intro h;cases h;done)|exactλ_=>trivial
  rw[e2,iR,<-tY,show aX (vn z)=fG [z]from rfl,<-dw,<-dw]at hg6;generalize hys:xs.take i++[z]++(xs.drop o).take (n-i)=ys at hg6;have hyl:ys.length=n+1:=by rw[<-hys];simp;omega
  have hyb:∀y∈ys,y<=1114112:=λy hy=>by
   rw[<-hys]at hy;simp only[bX,aO]at hy;rcases hy with(hy|hy)|hy
   .exact hxs y<|iD hy
   .omega
   .exact hxs y<|kg<|iD hy
  rcases hg6 with(⟨_,h,_⟩|⟨r6,n6,j6,rfl,hn6,rfl⟩)|⟨_,_,h,_⟩
  .have:=bW List.length h;rw[aC,hyl]at this;cases this
  .rw[aC]at hn6;refine rr ?_;exact⟨⟨r6,n6,_,ys,j6,rfl,.inl rfl,hS.get 0 rfl,(hS.lo _<|aD ..).2,aa,aa,hyb⟩,hS.ext⟩
  .have:=bW List.length h;rw[aC,hyl]at this;cases this
 have post:∀{x4 rg},dJ Pg X (sub tL [1,1,1,1]) (sP (.slice (some ⟨r,0,none⟩) n c) (vn z) x4 (vn i) rg H') (f_ Pg [.tmp 4]<|Q1 (λw H'=>zz H' w<|k+1) H'):=by
  intro x4 rg;refine tl ?_;refine aF ?_;refine ah (λc=>?_) λ_=>fin;refine ix aa λp x=>?_;refine aF ?_;refine ah (λc=>?_) λ_=>fin;refine rr ?_;exact⟨same,hS.ext⟩
 refine tl ?_;refine aF ?_;refine ah (λc=>?_) λ_=>post;refine ix aa λp x=>?_;refine aF ?_;refine ah (λc=>?_) λ_=>post;refine PU.of (iN 1 rfl aa) ?_;exact⟨m-1,aa,_,_,_,rfl,rfl,i+1,rfl,aa⟩
end
section
open Go.Ae Go.Ae.M Go.Ae.AM
theorem zi.rd{F:Nat->Prop}{f:Nat}(h:jT F 230 H a n 2<|fG zs)(hi:i<n)(hf:f<2)(hz:∀z∈zs,z<1114112):∃r o,zH 2 (.slice a n c) (vn i)=some (.pointer<|some ⟨r,o,none⟩)/\r<H.next/\∃x:Nat,x<1114112/\H.cell r (o+f)=some (vn x):=by
 obtain⟨r,o,e,hr,hcl,_⟩:=h.1.idx (c:=c) aa hi;have hl:i*2+f<zs.length:=by have:=h.1.1;rw[aC]at this;omega
 refine⟨r,o,e,hr,zs[i*2+f],hz _<|bF hl,hcl f _ hf ?_⟩;exact oz _<|ae hl
theorem ahh(x:Nat):V4 true [vn x,vi 0]=some (vn x):=by rw[max2,show max (x:Int) 0=x by omega]
theorem aiz{F:Nat->Prop}{z:Nat}(hs:zi F H v):az Pg X 188 [v,vn z] H (Q0 (λw=>∃b,w=.bool b) H):=by
 obtain⟨a,n,c,zs,rfl,hf,hn,hz,_⟩:=hs;refine ce [0,1,4,5] ?_;refine tl ?_;refine zm 5 (I:=λm x5 H'=>H'=H/\∃i,x5=vn i/\i+m=n) ?_ n ⟨rfl,0,rfl,aI n⟩;rintro m x5 rg H' ⟨rfl,i,rfl,him⟩;refine tl ?_;refine aF ?_;refine ah (λhc=>?_) λhc=>?_;rotate_left
 .refine tl ?_;refine rr ?_;exact⟨⟨_,rfl⟩,rfl⟩
 obtain⟨r,o,e1,_,x,_,h1⟩:=zi.rd (c:=c) (f:=0) hf (show i<n by omega) aa hz;obtain⟨r',o',e1',_,y,_,h2⟩:=zi.rd (c:=c) (f:=1) hf (show i<n by omega) aa hz;rw[e1]at e1';cases e1';rw[bn]at h1
 have BX:∀{rg:Value->Rs},PU (jb Pg .add 3 (.tmp 10) (.const<|vi 1) (vn i)<|vi 1) λv=>∃m_1,m_1<m/\∃x5 xD H'',tN (.slice a n c) (vn z) (.bool false) v (rg v) H'=tN (.slice a n c) (vn z) (.bool false) x5 xD H''/\H''=H'/\∃i,x5=vn i/\i+m_1=n:=λ{rg}=>by
  refine PU.of (iN 1 rfl aa) ?_;exact⟨m-1,aa,_,_,_,rfl,rfl,i+1,rfl,aa⟩
 refine ah (λ_=>?_) λ_=>BX;refine ah (λ_=>?_) λ_=>BX;refine PU.of e1 ?_;refine aF ?_;refine ME.ld h1 ?_;refine aF ?_;refine ah (λ_=>?_) λ_=>BX;refine PU.of e1 ?_;refine aF ?_;refine ME.ld h2 ?_;refine aF ?_;refine ah (λ_=>?_) λ_=>BX;refine rr ?_;exact⟨⟨_,rfl⟩,rfl⟩
theorem aeW{F:Nat->Prop}(hw:Wf H)(hs:zi F H v):az Pg X 187 [v] H (Q1 (λw H'=>zz H' w 3000000) H):=by
 obtain⟨a,n,c,zs,rfl,hf,hn,hz,_⟩:=hs;have hS:=SH.refl hw;refine ce [0,2,3,4] ?_;refine tl ?_;refine hS.bS rfl rfl rfl aa λH1 rx hS=>?_;have hb:=hS.get 0 rfl;refine lp2 3 4 (I:=λm x3 x4 H'=>∃i,x4=vn i/\i+m=n/\zz H' x3 (1+2*i)/\SH [] H H' []) ?_ n ⟨0,rfl,aI n,⟨rx,1,1,[0],[],rfl,.inr ⟨rfl,rfl⟩,hb,(hS.lo _<|aD ..).2,rfl,aj _,by simp⟩,SH.drop (A:=[_]) hS⟩;clear hS hb;rintro m x3 x4 rg H2 ⟨i,rfl,him,hl,hS⟩;refine tl ?_;refine aF ?_;refine ah (λhc=>?_) λhc=>?_;rotate_left
 .refine tl ?_;obtain⟨r,k,c,xs,j,h1,h2,h3,h4,h5,h6,h7⟩:=hl;refine rr ?_;exact⟨⟨r,k,c,xs,j,h1,h2,h3,h4,h5,aa,h7⟩,hS.ext⟩
 obtain⟨r,o,e1,hr,x,hx,h1⟩:=zi.rd (c:=c) (f:=0) hf (show i<n by omega) aa hz;obtain⟨r',o',e1',_,y,hy,h2⟩:=zi.rd (c:=c) (f:=1) hf (show i<n by omega) aa hz;rw[e1]at e1';cases e1';rw[bn]at h1;have cl:∀{H3:ag}{o:Nat}{x:Value},SH [] H H3 []->H.cell r o=some x->H3.cell r o=some x:=λhS h=>(rG (hS.ext.obj r hr λh=>nomatch h) _).trans h;refine PU.of e1 ?_;refine aF ?_;refine ME.ld (cl hS h1) ?_;refine PU.of (ahh x) ?_;refine az.mono (ads hS.wf hl aa aa) ?_;rintro w H3 ⟨hl,hx3⟩;have hS:=hS.call hx3;refine PU.of e1 ?_;refine aF ?_;refine ME.ld (cl hS h2) ?_;refine aF ?_
 with_reducible refine ZY (λ_=>?_) λ_=>?_
 .refine PU.of e1 ?_;refine aF ?_;refine ME.ld (cl hS h2) ?_;refine PU.of (iN 1 rfl aa) ?_;refine PU.of (ahh<|y+1) ?_;refine az.mono (ads hS.wf hl aa aa) ?_;rintro w H4 ⟨hl,hx4⟩;have hS:=hS.call hx4;refine PU.of (iN 1 rfl aa) ?_;exact⟨m-1,aa,_,_,_,_,rfl,i+1,rfl,aa,by rw[show 1+2*(i+1)=1+2*i+1+1 by omega];exact hl,hS⟩
 .refine PU.of (iN 1 rfl aa) ?_;obtain⟨r,k,c,xs,j,h1,h2,h3,h4,h5,h6,h7⟩:=hl;exact⟨m-1,aa,_,_,_,_,rfl,i+1,rfl,aa,⟨r,k,c,xs,j,h1,h2,h3,h4,h5,aa,h7⟩,hS⟩
end
section
open Go.Ae Go.Ae.M Go.Ae.AM
theorem zz.fl(h:zz H v k):∃(a:Option Addr)(n c:Nat)(xs:List Nat),v=.slice a n c/\jT (λ_=>True) 3 H a n 1 (fG xs)/\n<=k/\xs.length=n/\∀x∈xs,x<=1114112:=by
 obtain⟨r,n,c,xs,dH,rfl,hc,hb,hr,hn,hnk,hxs⟩:=h;exact⟨_,n,c,xs,rfl,⟨⟨by rw[aC];omega,λj x hj=>⟨r,0,rfl,hr,by rw[aI];refine hb.cell ?_;rw[aP (aL.1 hj).1];exact hj⟩⟩,λr' o e _=>by cases e;exact⟨trivial,hr,hb.Tn⟩⟩,hnk,hn,hxs⟩
theorem aeX(hw:Wf H){en ec:Nat}{xs:List Nat}{bs:List Bool}(hf:jT (λ_=>True) 3 H ea en 1<|fG xs)(hen:en<=3000000)(hxl:xs.length=en)(hxs:∀x∈xs,x<=1114112)(hb:jT (λ_=>True) 4 H a n 1<|bools bs):az Pg X 189 [.slice ea en ec,.slice a n c] H (Q1 (λw _=>∃a n c,w=.slice a n c) H):=by
 have hbl:bs.length=n:=by have:=hb.1.1;rw[aC]at this;omega
 refine ce [0,1,4,5,6,7] ?_;refine tl ?_;refine Vg 5 6 7 (I:=λm x5 x6 x7 H'=>∃i zs gb,x6=vn i/\i+m=en/\GB 230 2 x5 (zs.map vi) gb/\zs.length<=2*i/\(∀z∈zs,-1<=z/\z<=1114112)/\SH [] H H' gb) ?_ en ⟨0,[],[],rfl,aI en,GB.nil _ _,aj _,(λz h=>nomatch h),SH.refl hw⟩;rintro m x5 x6 x7 rg H1 ⟨i,zs,gb,rfl,him,hg,hzl,hz,hS⟩
 have out:∀{x7 rg},dJ Pg X (sub iP [1,1,1]) (kC (.slice ea en ec) (.slice a n c) (.slice none 0 0) x5 (vn i) x7 rg H1) (f_ Pg [.tmp 4]<|Q1 (λw _=>∃a n c,w=.slice a n c) H):=by
  intro x7 rg;refine tl ?_;obtain⟨ga,gn,gc,rfl⟩:=hg.sl;refine rr ?_;exact⟨⟨_,_,_,rfl⟩,hS.ext⟩
 refine tl ?_;refine aF ?_;refine ah (λc1=>?_) λ_=>out;refine ah (λc2=>?_) λ_=>out;have hx:∀{j},j<en->∃x:Nat,x<=1114112/\(fG xs)[j]?=some (vn x):=λ{j} hj=>⟨xs[j],hxs _<|bF _,oz _<|ae aa⟩
 have mid:∀(R:Out->Prop)(z:Int),-1<=z/\z<=1114112->(∀{x5':Value}{zs':List Int}{gY:List cz}{H':ag}{x7:Value}{rg:Rs},GB 230 2 x5' (zs'.map vi) gY->zs'.length<=2*(i+1)->(∀z∈zs',-1<=z/\z<=1114112)->SH [] H H' gY->dJ Pg X (sub iP [1,1,0,1,0,0,1,1]) (kC (.slice ea en ec) (.slice a n c) (.slice none 0 0) x5' (vn i) x7 rg H') R)->∀rg,dJ Pg X (sub iP [1,1,0,1,0,0,1,0,0,1,1]) (kC (.slice ea en ec) (.slice a n c) (.slice none 0 0) x5 (vn i) (vi z) rg H1) (j3 1<|nR Pg X (sub iP [1,1,0,1,0,0,1,1]) R):=by
  intro R z hzz kk rg;obtain⟨b,hbi⟩:∃b,bs[i]?=some b:=⟨_,ae aa⟩;obtain⟨x,hxb,hxi⟩:=hx (j:=i) aa;refine tl ?_;refine(hb.ex hS.ext).ix aa (oz _ hbi) λp=>?_;refine aF ?_
  have app:∀{rg},BA rg 53=.bool false->dJ Pg X (sub iP [1,1,0,1,0,0,1,0,0,1,1,1,1]) (kC (.slice ea en ec) (.slice a n c) (.slice none 0 0) x5 (vn i) (vi z) rg H1) (j3 1<|nR Pg X (sub iP [1,1,0,1,0,0,1,1]) R):=by
   intro rg hlk;refine tl ?_;rw[hlk];refine aF ?_;refine(hf.ex hS.ext).ix aa hxi λp=>?_;refine PU.b2 rfl ?_;refine hg.push (hS.cast (aQ gb).symm) aa rfl rfl rfl rfl rfl aa (by rw[aC];omega) λw v' H4 gY hg' hS=>?_;refine aF ?_;refine kk (zs':=zs++[(x:Int),z]) (by rw[show(zs++[(x:Int),z]).map vi=zs.map vi++[vn x,vi z]from dw];exact hg') (by simp;omega) (λy hy=>?_)<|hS.cast<|aQ gY;rcases bX.1 hy with h|h
   .exact hz y h
   .simp at h;omega
  refine bO (λ_=>?_) λ_=>?_
  .exact kk hg aa hz hS
  rcases id hg with⟨rfl,h0,rfl⟩|⟨r,k,dH,rfl,hk,rfl⟩
  .refine aF ?_;refine lN rfl ?_;exact app rfl
  rw[aC]at hk;refine aF ?_;refine ah (λc3=>?_) λc3=>?_;rotate_left
  .refine lN rfl ?_;exact app rfl
  have hk1:(k-1)*2+1<zs.length:=by omega
  have hv:((zs.map vi)++dH)[(k-1)*2+1]?=some (vi zs[(k-1)*2+1]):=by
   rw[aP (by rw[aC];exact hk1),aR,ae hk1];rfl
  have LK:=hz _<|bF hk1;rw[nM aa aa];refine aF ?_;rw[show((k:Int)-1)=((k-1:Nat):Int) by omega];refine PU.of (uB aa) ?_;rw[aI];refine aF ?_;refine hS.BQ 0 rfl hv ?_;simp only[eF hS.wf];rw[dI aa aa];refine aF ?_;obtain⟨r2,o2,e2,_,hcl,_⟩:=(hf.ex hS.ext).1.idx (c:=ec) aa (show i<en by omega);refine PU.of e2 ?_;refine ME.ld (H:=hN H1) (o:=o2) (hcl 0 _ aa (by rw[bG,bn];exact hxi)) ?_;refine aF ?_;simp only[eF hS.wf];refine splitK (λK hK=>?_) ?_
  .simp only[cB];apply C5 (T:=λ_=>False) (by kernel_rfl) (by kernel_rfl) hK<;>repeat' apply And.intro
   all_goals first|exact trivial|(intro h;cases h;done)|exactλ_ _ h=>h.elim
  by_cases hq:zs[(k-1)*2+1]+1=(x:Int)
  .rw[aS hq];refine tl ?_;refine aF ?_;rw[nM aa aa];refine aF ?_;rw[show((k:Int)-1)=((k-1:Nat):Int) by omega];refine PU.of (uB aa) ?_;rw[aI];refine aF ?_;refine hS.st 0 rfl rfl (by rw[ay,aC];omega) rfl λH2 hS=>?_;have hS:SH [] H H2 [(r,230,(zs.set ((k-1)*2+1) z).map vi++dH)]:=hS.to<|E_ hk1 z;refine kk (zs':=zs.set ((k-1)*2+1) z) (.inr ⟨r,k,dH,rfl,by rw[aC,bJ];exact hk,rfl⟩) (by rw[bJ];omega) (λy hy=>?_) hS;rcases kF hy with h|h
   .exact hz y h
   .rw[h];exact hzz
  .rw[bM hq];exact app rfl
 refine tl ?_;refine PU.of (iN 1 rfl aa) ?_;refine aF ?_;refine ah (λc3=>?_) λc3=>?_
 .refine PU.of (iN 1 rfl aa) ?_;obtain⟨x,hxb,hxi⟩:=hx (j:=i+1) aa;refine(hf.ex hS.ext).ix aa hxi λp=>?_;refine dD ?_;refine mid _ _ aa (λhg hl hz hS=>?_) _;refine tl ?_;refine PU.of (iN 1 rfl aa) ?_;exact⟨m-1,aa,_,_,_,_,_,rfl,i+1,_,_,rfl,aa,hg,hl,hz,hS⟩
 .refine mid _ _ aa (λhg hl hz hS=>?_) _;refine tl ?_;refine PU.of (iN 1 rfl aa) ?_;exact⟨m-1,aa,_,_,_,_,_,rfl,i+1,_,_,rfl,aa,hg,hl,hz,hS⟩
end
end Go.Proofs.Lu
