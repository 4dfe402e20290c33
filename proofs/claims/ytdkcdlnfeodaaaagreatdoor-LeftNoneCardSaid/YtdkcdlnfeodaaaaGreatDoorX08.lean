/-
  Part 8 of the proof. No condition.
-/
import Derived.Test.YtdkcdlnfeodaaaaGreatDoorX07
set_option linter.unusedVariables false
set_option linter.unusedSimpArgs false
set_option maxRecDepth 100000
set_option maxHeartbeats 4000000
noncomputable section
namespace Go.Proofs.Lv
open Go.Proofs.Lu
open Go.Ae Go.Ae.M
section
variable{H0 H:ae}{L L' M:List aC}{S:List Nat}{F:Nat→Prop}{A:At}{q:AV}{n s:Nat}{Q P:Nat→Prop}{mk mk':List Bool}{nx nx':List Nat}
def Kh:List (Nat×Ed)→List Value
 |[]=>[]
 |p::l=>vn p.1::vn p.2.1::vn p.2.2.1::vn p.2.2.2::Kh l
theorem G6:∀l,(Kh l).length=l.length*4
 |[]=>rfl
 |e::l=>by
  have:=G6 l
  simp only[Kh,List.length_cons];omega
theorem Oy:∀l l',Kh (l++l')=Kh l++Kh l'
 |[],l'=>rfl
 |e::l,l'=>by simp only[List.cons_append,Kh,Oy l l']
theorem U5:∀{l:List (Nat×Ed)}{i:Nat}{p:Nat×Ed},l[i]?=some p→El (Kh l) 4 i=[vn p.1,vn p.2.1,vn p.2.2.1,vn p.2.2.2]
 |[],i,e,h=>by simp at h
 |x::l,0,e,h=>by
  simp at h;subst h
  simp[El,Kh]
 |x::l,i +1,e,h=>by
  have:=U5 (l:=l) (i:=i) (by simpa using h)
  rw[←this]
  unfold El
  rw[show(i +1)*4=i*4 +4 by omega]
  rfl
section steps
variable{K:Value→Value→ae→Prop}{a:Option Addr}{ty:TypeId}{cs:List Value}{v:Value}{r c k:Nat}
theorem _root_.Go.Ae.SH.XI(hS:SH S H0 H L)[hb:CE L r ty cs](hk:k<n)(hv:cs[k]?=some v)(kk:K (.pointer (some ⟨r,k,none⟩)) v (hN H)):
 PU (sS 1 (.slice (some ⟨r,0,none⟩) n c) (vn k)) fun p=>ME (lM none p (hN H)) (K p):=by
 obtain⟨i,hi⟩:=hb.at'
 refine PU.of (Xb hk) ?_
 rw[Nat.zero_add]
 exact hS.vC i hi hv kk
theorem _root_.Go.Ae.eO.XI(h:eO F ty H a n 1 cs)(hk:k<n)(hv:cs[k]?=some v)(kk:∀r o,K (.pointer (some ⟨r,o,none⟩)) v (hN H)):
 PU (sS 1 (.slice a n c) (vn k)) fun p=>ME (lM none p (hN H)) (K p):=by
 obtain⟨r,o,h1,h2,h3,_⟩:=h.1.idx (c:=c) (Nat.lt_succ_self 0) hk
 refine PU.of h1 ?_
 refine ME.ld (H:=hN H) ?_ (kk _ _)
 have:=h3 0 v (Nat.lt_succ_self 0) (by rw[Nat.mul_one,Nat.add_zero];exact hv)
 exact this
theorem mJ.aef(h:mJ F H A q)(ho:A.Ok)(hk:k<A.nr)(kk:∀r o,K (.pointer (some ⟨r,o,none⟩)) (vn (A.S k)) (hN H)):PU (sS 1 (.slice q.sa A.nr q.sc) (vn k)) fun p=>ME (lM none p (hN H)) (K p):=h.s.XI hk (zz (by rw[ho.Oj];exact hk)) kk
theorem ac5{l:List (Nat×Ed)}(h:eO F 166 H a l.length 4 (Kh l))(hk:k<l.length)(kk:∀p,K p (.agg ⟨[vn l[k].1,vn l[k].2.1,vn l[k].2.2.1,vn l[k].2.2.2]⟩) H):PU (sS 4 (.slice a l.length c) (vn k)) fun p=>ME (lM (some 4) p H) (K p):=
 h.ixN aa hk (U5 (List.getElem?_eq_getElem hk)) kk
end steps
def ac6(A:At)(tok:Bool)(t:Nat)(l:List (Nat×Ed)):Prop:=(∀p∈l,p.2∈A.E p.1∧p.2.2.2=t∧At.Om tok p.2)∧∀s e,e∈A.E s→At.Om tok e→e.2.2=t→(s,e)∈l
def ac7(A:At)(r:Nat)(l:List (Nat×Ed)):Prop:=(∀p∈l,p.2∈A.E p.1∧p.2.1=2∧p.2.2.1=r)∧∀s e,e∈A.E s→e.1=2→e.2.1=r→(s,e)∈l
def BkM(G:Nat→List (Nat×Ed)→Prop)(H:ae)(n:Nat)(a:Option Addr):Prop:=∃vs,eO (fun _=>True) 164 H a n 1 vs∧∀t,t<n→∃b c l,vs[t]?=some (.slice b l.length c)∧eO (fun _=>True) 166 H b l.length 4 (Kh l)∧G t l∧l.length≤1000000000
theorem BkM.ld{G:Nat→List (Nat×Ed)→Prop}{a:Option Addr}{t c:Nat}{H':ae}{K:Value→Value→ae→Prop}(h:BkM G H n a)(hx:Ext H H')(ht:t<n)(kk:∀p b c l,eO (fun _=>True) 166 H b l.length 4 (Kh l)→G t l→l.length≤1000000000→K p (.slice b l.length c) H'):PU (sS 1 (.slice a n c) (vn t)) fun p=>ME (lM none p H') (K p):=by
 obtain⟨vs,h1,h2⟩:=h
 obtain⟨b,c,l,h3,h4,h5,h6⟩:=h2 t ht
 exact(h1.ex hx).ix ht h3 fun p=>kk p b c l h4 h5 h6
theorem XJ{tok:Bool}{rg:Nat}{ia ca:Option Addr}{ic cc:Nat}(hw:Wf H)(h:mJ F H A q)(ho:A.Ok)(hg:Bk H rg 26 (q.cells A))(hgl:rg<H.next)(hI:BkM (ac6 A tok) H A.ns ia)(hC:BkM (ac7 A) H A.nr ca){x4 x7 x8 aW bg b_ bQ bU dJ jK nT oQ x30 x31 x32 pN x38 x39 x88 x89 x90 x115 wB qj x157 x158 x159:Value}{eP:List (Nat×Value)}:
 aT Pg X (sub gG [1,1,1,1]) (dB (q.v A) (.bool tok) (pt rg) x4 (.slice ia A.ns ic) (.slice ca A.nr cc) x7 x8 aW bg b_ bQ bU dJ jK nT oQ x30 x31 x32 pN x38 x39 x88 x89 x90 x115 wB qj x157 x158 x159 eP H)
  (cK Pg [.tmp 4] (Qe (fun v H'=>∃mk,Bs H.next H' A.ns v mk∧∀s,on mk s↔A.Mk tok s) H)):=by
 have hS:=SH.refl hw
 have hbig:=ho.big
 have G4:=ho.few
 refine tl ?_
 refine ME.mU (vs:=q.cells A) (hg.read (by show 0 +6≤6;omega)) ?_
 refine ak.mono (lW hS.wf q A) ?_
 rintro v H2 ⟨rfl,hx⟩
 have hS:=hS.call hx
 refine hS.mkS (Nat.le_refl _) aa fun H3 dm hS=>?_
 rw[gD]at hS
 refine hS.bZ fun H4 mr hS=>?_
 refine hS.az ?_;refine hS.iB fun Hn hS=>?_
 refine hS.bZ fun H5 xr hS=>?_
 refine hS.wo (hg.cell (o:=2) rfl) hgl ?_
 refine au ?_
 have hS:SH [] H H5 ([(xr,23,[.slice none 0 0]),(mr,36,[.slice (some ⟨dm,0,none⟩) A.ns A.ns]),(dm,4,List.replicate A.ns (.bool false))]):=hS
 have hS:=hS.perm (L':=[(mr,36,[.slice (some ⟨dm,0,none⟩) A.ns A.ns]),(xr,23,[.slice none 0 0]),(dm,4,List.replicate A.ns (.bool false))]) (List.Perm.swap _ _ _)
 have hM:Ms mr xr dm A.ns (List.replicate A.ns false) [] [(mr,36,[.slice (some ⟨dm,0,none⟩) A.ns A.ns]),(xr,23,[.slice none 0 0]),(dm,4,List.replicate A.ns (.bool false))]:=⟨.slice none 0 0,[],by simp,GB.nil _ _,by simp⟩
 have hmu:mu (List.replicate A.ns false) []≤8000:=by unfold mu;rw[Bl];show 2*A.ns +0≤8000;omega
 have call:∀{s:Nat}{mk:List Bool}{nx:List Nat}{M L:List aC}{H':ae}{P:Nat→Prop}{K:Value→ae→Prop},s<A.ns→Ms mr xr dm A.ns mk nx M→SH [] H H' (M++L)→MJ A.ns (A.Mk tok) P mk nx→mu mk nx≤8000→A.Mk tok s→
  (∀v H2 mk' nx' M',Ms mr xr dm A.ns mk' nx' M'→SH [] H H2 (M'++L)→MJ A.ns (A.Mk tok) P mk' nx'→on mk' s→(∀t,on mk t→on mk' t)→mu mk' nx'≤mu mk nx→K v H2)→
  eG Pg X (Dy (.func (.func 89) ⟨[]⟩ ⟨[pt mr,pt xr]⟩)) [vn s] H' K:=by
  intro s mk nx M L H' P K hs hM hS hJ hmu hq kk
  show ak Pg X 89 [vn s,pt mr,pt xr] H' K
  refine ak.mono (zl hM hS hs (Ox hmu)) ?_
  rintro v H2 ⟨mk',nx',M',hM',hS',hk⟩
  obtain⟨a,b,c,d⟩:=hk.mj hJ hq
  exact kk v H2 mk' nx' M' hM' hS' a b c d
 refine lp2 15 90 (I:=fun m bU x90 H'=>∃i mk nx M,x90=vn i∧i +m=A.nr∧Ms mr xr dm A.ns mk nx M∧SH [] H H' (M++[])∧MJ A.ns (A.Mk tok) (fun _=>False) mk nx∧mu mk nx≤8000∧∀j,j<i→on mk (A.P j)) ?_ A.nr ⟨0,_,_,_,rfl,aa,hM,hS,MJ.nil _ _,hmu,fun j hj=>absurd hj aa⟩
 clear hS hM hmu hx
 rintro m bU x90 eP H6 ⟨i,mk,nx,M,rfl,him,hM,hS,hJ,hmu,hb⟩
 refine tl ?_
 refine au ?_
 refine ah (fun hc=>?_) (fun hc=>?_)
 ·have hi:i<A.nr:=by omega
  refine(h.ex hS.ext).ldP ho hi fun p=>?_
  refine call (ho.p i hi).1 hM hS hJ hmu (.stop i hi) fun v H7 mk' nx' M' hM hS hJ hon hmo U4=>?_
  refine ay ?_
  refine⟨A.nr -(i +1),aa,_,_,_,_,rfl,i +1,mk',nx',M',iC,aa,hM,hS,hJ,aa,fun j hj=>?_⟩
  rcases Nat.lt_or_ge j i with h1|h1
  ·exact hmo _ (hb j h1)
  ·obtain rfl:j=i:=by omega
   exact hon
 have hbase:∀r,r<A.nr→on mk (A.P r):=fun r hr=>hb r aa
 clear hb hc him
 refine tl ?_
 refine acC 16 18 19 21 115 116 117 157 158 159 (I:=fun m dJ jK nT oQ x115 wB qj x157 x158 x159 H'=>∃mk nx M P,Ms mr xr dm A.ns mk nx M∧SH [] H H' (M++[])∧MJ A.ns (A.Mk tok) P mk nx∧mu mk nx≤8000∧mu mk nx=m∧(∀r,r<A.nr→on mk (A.P r))∧A.Clo tok P mk) ?_ (mu mk nx) ⟨mk,nx,M,_,hM,hS,hJ,hmu,rfl,hbase,fun s e _ _ h=>h.elim⟩
 clear hS hM hJ hmu hbase
 rintro m dJ jK nT oQ x115 wB qj x157 x158 x159 eP H6 ⟨mk,nx,M,P,hM,hS,hJ,hmu,rfl,hbase,Mq⟩
 obtain⟨nv,gb,rfl,hgb,hl⟩:=hM
 have hS:SH [] H H6 ((mr,36,[.slice (some ⟨dm,0,none⟩) A.ns A.ns])::(xr,23,[nv])::(dm,4,bools mk)::(gb++[])):=hS
 refine tl ?_
 refine hS.az ?_;refine hS.a_ ?_
 have fin:nx=[]→∀eP,aT Pg X (sub gG [1,1,1,1,1,1,1,1,1]) (dB (q.v A) (.bool tok) (pt rg) x4 (.slice ia A.ns ic) (.slice ca A.nr cc) x7 x8 aW (pt mr) (pt xr) (.func (.func 89) ⟨[]⟩ ⟨[pt mr,pt xr]⟩) bU dJ jK nT oQ x30 x31 x32 pN x38 x39 (.slice q.pa A.nr q.pc) (vn A.nr) (vn i) x115 wB qj x157 x158 x159 eP H6)
  (cK Pg [.tmp 4] (Qe (fun v H'=>∃mk,Bs H.next H' A.ns v mk∧∀s,on mk s↔A.Mk tok s) H)):=by
  intro hn eP
  subst hn
  refine tl ?_
  refine hS.a_ ?_
  refine rr ?_;exact⟨⟨mk,⟨_,_,rfl,hl,eO.one hS (List.mem_of_getElem? (i:=2) rfl) (by simpa using hl) (hS.wm (List.mem_of_getElem? (i:=2) rfl))⟩,At.XA ho hJ Mq hbase⟩,hS.ext⟩
 rcases hgb with⟨rfl,hn,rfl⟩|⟨r,n,aF,rfl,hn,rfl⟩
 ·obtain rfl:nx=[]:=by simpa using hn
  refine au ?_
  refine ah (fun hc=>absurd hc aa) (fun _=>?_)
  exact fin rfl _
 have hn:nx.length=n:=by simpa using hn
 subst hn
 refine au ?_
 refine ah (fun hc=>?_) (fun hc=>?_)
 rotate_left
 ·exact fin (List.length_eq_zero_iff.1 aa) _
 clear fin
 obtain⟨oU,cur,rfl⟩:∃a b,nx=a++[b]:=⟨nx.dropLast,nx.getLast (fun e=>by subst e;simp at hc),(List.dropLast_concat_getLast _).symm⟩
 have hlen:(oU++[cur]).length=oU.length +1:=by simp
 rw[hlen]at hS
 simp only[List.cons_append,List.nil_append]at hS
 have aaP:=Ox hmu
 rw[hlen]at aaP
 refine hS.a_ ?_;refine hS.a_ ?_;refine hS.az ?_
 refine aH ?_
 rw[show((oU.length +1:Nat):Int) -1=(oU.length:Nat) by omega]
 refine hS.ix (v:=vn cur) aa (by simp) fun p=>?_
 refine hS.a_ ?_;refine hS.a_ ?_;refine hS.az ?_
 refine aH ?_
 rw[show((oU.length +1:Nat):Int) -1=(oU.length:Nat) by omega]
 refine PU.of (tq aa) ?_
 refine hS.iB fun Hn hS=>?_
 have wT:cur<A.ns:=by have:=Zn (hJ.Zo cur (by simp));rw[hJ.len]at this;exact this
 have hJ':=hJ.pop
 have Mr:=UN mk oU cur
 have hM:Ms mr xr dm A.ns mk oU ((mr,36,[.slice (some ⟨dm,0,none⟩) A.ns A.ns])::(xr,23,[.slice (some ⟨r,0,none⟩) oU.length (aK 1)])::(dm,4,bools mk)::[(r,3,aP (oU++[cur])++aF)]):=⟨_,_,rfl,.inr ⟨r,_,vn cur::aF,rfl,by simp,by simp⟩,hl⟩
 refine hI.ld hS.ext wT fun p ba bc l hl hG hln=>?_
 refine au ?_
 have hS:SH [] H _ (((mr,36,[.slice (some ⟨dm,0,none⟩) A.ns A.ns])::(xr,23,[.slice (some ⟨r,0,none⟩) oU.length (aK 1)])::(dm,4,bools mk)::[(r,3,aP (oU++[cur])++aF)])++[]):=hS
 have hrc:=hJ.snd cur (hJ.Zo cur (by simp))
 refine lp2 18 117 (I:=fun m jK qj H'=>∃k mk' nx' M,qj=vn k∧k +m=l.length∧Ms mr xr dm A.ns mk' nx' M∧SH [] H H' (M++[])∧MJ A.ns (A.Mk tok) (fun t=>P t∨t=cur) mk' nx'∧mu mk' nx'≤mu mk oU∧(∀t,on mk t→on mk' t)∧∀(j:Nat)(p:Nat×Ed),j<k→l[j]?=some p→(p.2.1=2→P (A.S p.2.2.1)∨A.S p.2.2.1=cur)→on mk' p.1) ?_ l.length ⟨0,mk,oU,_,rfl,aa,hM,hS,hJ',Nat.le_refl _,fun t h=>h,fun j e hj=>absurd hj aa⟩
 clear hS hM hJ'
 rintro m' y18 aeM Eg H7 ⟨k,mk',nx',M,rfl,hkm,hM,hS,hJ',U4,hmo,hdone⟩
 refine tl ?_
 refine au ?_
 refine ah (fun hc2=>?_) (fun hc2=>?_)
 ·have hk:k<l.length:=by omega
  refine ac5 (hl.ex hS.ext) hk fun p=>?_
  have hmem:=List.getElem_mem hk
  have hke:l[k]?=some l[k]:=List.getElem?_eq_getElem hk
  obtain⟨g1,g2,g3⟩:=hG.1 _ hmem
  generalize hee:l[k]=pe at g1 g2 g3 hke hmem⊢
  obtain⟨s,e⟩:=pe
  replace g1:e∈A.E s:=g1
  replace g2:e.2.2=cur:=g2
  replace g3:At.Om tok e:=g3
  have hss:=ho.lt g1
  refine hS.ns rfl rfl rfl fun H8 re hS DD=>?_
  have hS:SH [] H H8 ((re,166,[vn s,vn e.1,vn e.2.1,vn e.2.2])::(M++[])):=hS
  have uY:∀y18 zA G5 M2 pO H9,Ms mr xr dm A.ns zA G5 M2→SH [] H H9 (M2++[])→MJ A.ns (A.Mk tok) (fun t=>P t∨t=cur) zA G5→mu zA G5≤mu mk' nx'→(∀t,on mk' t→on zA t)→((e.1=2→P (A.S e.2.1)∨A.S e.2.1=cur)→on zA s)→
   aT Pg X (sub gG [1,1,1,1,1,1,1,1,0,0,0,1,0,1,1,0,1,0,0,1,1,1]) (dB (q.v A) (.bool tok) (pt rg) x4 (.slice ia A.ns ic) (.slice ca A.nr cc) x7 x8 aW (pt mr) (pt xr) (.func (.func 89) ⟨[]⟩ ⟨[pt mr,pt xr]⟩) bU (vn cur) y18 nT oQ x30 x31 x32 pN x38 x39 (.slice q.pa A.nr q.pc) (vn A.nr) (vn i) (.slice ba l.length bc) (vn l.length) (vn k) x157 x158 x159 pO H9)
    (wZ (jZ (q.v A) (.bool tok) (pt rg) x4 (.slice ia A.ns ic) (.slice ca A.nr cc) x7 x8 aW (pt mr) (pt xr) (.func (.func 89) ⟨[]⟩ ⟨[pt mr,pt xr]⟩) bU (vn cur) nT oQ x30 x31 x32 pN x38 x39 (.slice q.pa A.nr q.pc) (vn A.nr) (vn i) (.slice ba l.length bc) (vn l.length) x157 x158 x159 (fun m jK qj H'=>∃k mk' nx' M,qj=vn k∧k +m=l.length∧Ms mr xr dm A.ns mk' nx' M∧SH [] H H' (M++[])∧MJ A.ns (A.Mk tok) (fun t=>P t∨t=cur) mk' nx'∧mu mk' nx'≤mu mk oU∧(∀t,on mk t→on mk' t)∧∀(j:Nat)(p:Nat×Ed),j<k→l[j]?=some p→(p.2.1=2→P (A.S p.2.2.1)∨A.S p.2.2.1=cur)→on mk' p.1)) m' (iA 8 (kN Pg X (sub gG [1,1,1,1,1,1,1,1,0,0,0,1,0,1,1,1]) (iA 7 (wZ (oL (q.v A) (.bool tok) (pt rg) x4 (.slice ia A.ns ic) (.slice ca A.nr cc) x7 x8 aW (pt mr) (pt xr) (.func (.func 89) ⟨[]⟩ ⟨[pt mr,pt xr]⟩) bU x30 x31 x32 pN x38 x39 (.slice q.pa A.nr q.pc) (vn A.nr) (vn i) (fun m dJ jK nT oQ x115 wB qj x157 x158 x159 H'=>∃mk nx M P,Ms mr xr dm A.ns mk nx M∧SH [] H H' (M++[])∧MJ A.ns (A.Mk tok) P mk nx∧mu mk nx≤8000∧mu mk nx=m∧(∀r,r<A.nr→on mk (A.P r))∧A.Clo tok P mk)) (mu mk (oU++[cur])) (iA 6 (kN Pg X (sub gG [1,1,1,1,1,1,1,1,1]) (cK Pg [.tmp 4] (Qe (fun v H'=>∃mk,Bs H.next H' A.ns v mk∧∀s,on mk s↔A.Mk tok s) H))))))))):=by
   intro y18 zA G5 M2 pO H9 hM2 hS2 hJ2 Mr wU Mv
   refine tl ?_
   refine ay ?_
   refine⟨l.length -(k +1),aa,_,_,_,_,rfl,k +1,zA,G5,M2,iC,aa,hM2,hS2,hJ2,aa,fun t ht=>wU t (hmo t ht),fun j p' hj hp' Mt=>?_⟩
   rcases Nat.lt_or_ge j k with h1|h1
   ·exact wU _ (hdone j p' h1 hp' Mt)
   ·obtain rfl:j=k:=by omega
    rw[hke]at hp';cases hp';exact Mv Mt
  repeat(first|(refine hS.az ?_)|(refine hS.iG ?_))
  refine aO (fun hc3=>?_) (fun hc3=>?_)
  ·refine pK ?_
   refine tl ?_
   refine hS.az ?_;refine hS.a_ ?_
   refine call hss hM (hS.perm (bB [_] M [])) hJ' aa (.edge s e g1 g3 (fun h2=>absurd aa hc3) (by rw[g2];exact hrc)) fun v GU zA G5 M2 hM2 hS2 hJ2 Mv wU Mr=>?_
   exact uY _ zA G5 M2 _ _ hM2 (SH.drop (A:=[_]) (hS2.perm (bB M2 [_] []))) hJ2 Mr wU fun _=>Mv
  ·have he2:e.1=2:=by omega
   have hca:=ho.call g1 he2
   have hM0:=hM
   have hSt:=ho.s _ hca
   obtain⟨nv',bJ,rfl,hgb',hl'⟩:=hM
   simp only[List.cons_append]at hS
   refine hS.iG ?_;refine hS.az ?_
   refine hS.zf (hg.cell (o:=1) rfl) hgl ?_
   repeat(first|(refine hS.az ?_)|(refine hS.iG ?_))
   refine mJ.aef (h.ex hS.ext) ho hca fun r1 o1=>?_
   refine hS.az ?_
   obtain⟨b,hb1⟩:∃b,mk'[A.S e.2.1]?=some b:=⟨_,List.getElem?_eq_getElem aa⟩
   refine hS.XI hSt.1 (dZ _ hb1) ?_
   refine hS.az ?_;refine pK ?_
   refine tl ?_
   refine hS.az ?_
   refine aA (fun hb2=>?_) (fun hb2=>?_)
   ·refine hS.a_ ?_
    refine call hss hM0 (hS.perm (bB [_] (_::_::_::bJ) [])) hJ' aa (.edge s e g1 g3 (fun h2=>hJ'.snd _ (by unfold on;rw[hb1,hb2])) (by rw[g2];exact hrc)) fun v GU zA G5 M2 hM2 hS2 hJ2 Mv wU Mr=>?_
    exact uY _ zA G5 M2 _ _ hM2 (SH.drop (A:=[_]) (hS2.perm (bB M2 [_] []))) hJ2 Mr wU fun _=>Mv
   ·refine uY _ mk' nx' _ _ _ hM0 (SH.drop (A:=[_]) hS) hJ' (Nat.le_refl _) (fun t h=>h) fun h2=>?_
    have:=hJ'.pon _ (h2 he2)
    unfold on at this
    rw[hb1]at this
    cases this
    cases hb2
 have hin:∀s e,e∈A.E s→At.Om tok e→e.2.2=cur→(e.1=2→P (A.S e.2.1)∨A.S e.2.1=cur)→on mk' s:=fun s e he hk ht hc'=>by
  obtain⟨j,hj,e1⟩:=List.mem_iff_getElem.1 (hG.2 s e he hk ht)
  exact hdone j (s,e) aa (by rw[←e1];exact List.getElem?_eq_getElem hj) hc'
 clear hdone hc2 hkm hl hG
 refine tl ?_
 refine au ?_
 refine hS.wo (hg.cell (o:=3) rfl) hgl ?_
 refine(h.ex hS.ext).wo wT fun p=>?_
 refine hS.wo (hg.cell (o:=1) rfl) hgl ?_
 refine(h.ex hS.ext).ldS ho (ho.o cur wT) fun p=>?_
 refine au ?_
 refine ah (fun hc3=>?_) (fun hc3=>?_)
 rotate_left
 ·refine⟨mu mk' nx',aa,_,_,_,_,_,_,_,_,_,_,_,_,rfl,mk',nx',M,_,hM,hS,hJ',aa,rfl,fun r hr=>hmo _ (hbase r hr),Mq.step hmo hin fun s e he h2 hs _=>?_⟩
  have:=(ho.s _ (ho.call he h2)).2
  rw[hs]at this
  exact absurd (by rw[this,hs]) hc3
 have aaQ:A.S (A.O cur)=cur:=by omega
 refine hC.ld hS.ext (ho.o cur wT) fun p ba bc l hl hG hln=>?_
 refine au ?_
 refine lp2 21 159 (I:=fun m oQ x159 H'=>∃k zA G5 M,x159=vn k∧k +m=l.length∧Ms mr xr dm A.ns zA G5 M∧SH [] H H' (M++[])∧MJ A.ns (A.Mk tok) (fun t=>P t∨t=cur) zA G5∧mu zA G5≤mu mk oU∧(∀t,on mk' t→on zA t)∧∀(j:Nat)(p:Nat×Ed),j<k→l[j]?=some p→(P p.2.2.2∨p.2.2.2=cur)→on zA p.1) ?_ l.length ⟨0,mk',nx',M,rfl,aa,hM,hS,hJ',aa,fun t h=>h,fun j e hj=>absurd hj aa⟩
 clear hS hM hJ' U4
 rintro m' y21 y159 Eg H7 ⟨k,zA,G5,M,rfl,hkm,hM,hS,hJ',U4,wU,hdone⟩
 refine tl ?_
 refine au ?_
 refine ah (fun hc2=>?_) (fun hc2=>?_)
 rotate_left
 ·refine⟨mu zA G5,aa,_,_,_,_,_,_,_,_,_,_,_,_,rfl,zA,G5,M,_,hM,hS,hJ',aa,rfl,fun r hr=>wU _ (hmo _ (hbase r hr)),Mq.step (fun t ht=>wU t (hmo t ht)) (fun s e h1 h2 h3 h4=>wU _ (hin s e h1 h2 h3 h4)) fun s e he h2 hs ht=>?_⟩
  have hs2:=(ho.s _ (ho.call he h2)).2
  rw[hs]at hs2
  obtain⟨j,hj,e1⟩:=List.mem_iff_getElem.1 (hG.2 s e he h2 hs2.symm)
  exact hdone j (s,e) aa (by rw[←e1];exact List.getElem?_eq_getElem hj) ht
 have hk:k<l.length:=by omega
 refine ac5 (hl.ex hS.ext) hk fun p=>?_
 have hmem:=List.getElem_mem hk
 have hke:l[k]?=some l[k]:=List.getElem?_eq_getElem hk
 obtain⟨g1,g2,g3⟩:=hG.1 _ hmem
 generalize hee:l[k]=pe at g1 g2 g3 hke hmem⊢
 obtain⟨s,e⟩:=pe
 replace g1:e∈A.E s:=g1
 replace g2:e.1=2:=g2
 replace g3:e.2.1=A.O cur:=g3
 have hss:=ho.lt g1
 have het:=(ho.e s hss e g1).1
 refine hS.ns rfl rfl rfl fun H8 re hS DD=>?_
 have hM0:=hM
 obtain⟨nv',bJ,rfl,hgb',hl'⟩:=hM
 have hS:SH [] H H8 ((re,166,[vn s,vn e.1,vn e.2.1,vn e.2.2])::(mr,36,[.slice (some ⟨dm,0,none⟩) A.ns A.ns])::(xr,23,[nv'])::(dm,4,bools zA)::(bJ++[])):=hS
 refine hS.az ?_;refine hS.a_ ?_;refine hS.a_ ?_
 obtain⟨b,hb1⟩:∃b,zA[e.2.2]?=some b:=⟨_,List.getElem?_eq_getElem aa⟩
 refine hS.ix het (dZ _ hb1) fun p=>?_
 refine au ?_
 refine aA (fun hb2=>?_) (fun hb2=>?_)
 ·refine hS.a_ ?_
  refine call hss hM0 (hS.perm (bB [_] (_::_::_::bJ) [])) hJ' aa (.edge s e g1 (fun h1=>by omega) (fun _=>by rw[g3,aaQ];exact hrc) (hJ'.snd _ (by unfold on;rw[hb1,hb2]))) fun v GU mk3 nx3 M3 hM3 kH hJ3 aeg ac8 aeN=>?_
  refine ay ?_
  refine⟨l.length -(k +1),aa,_,_,_,_,rfl,k +1,mk3,nx3,M3,iC,aa,hM3,SH.drop (A:=[_]) (kH.perm (bB M3 [_] [])),hJ3,aa,fun t ht=>ac8 t (wU t ht),fun j p' hj hp' Mt=>?_⟩
  rcases Nat.lt_or_ge j k with h1|h1
  ·exact ac8 _ (hdone j p' h1 hp' Mt)
  ·obtain rfl:j=k:=by omega
   rw[hke]at hp';cases hp';exact aeg
 ·refine ay ?_
  refine⟨l.length -(k +1),aa,_,_,_,_,rfl,k +1,zA,G5,_,iC,aa,hM0,SH.drop (A:=[_]) hS,hJ',aa,wU,fun j p' hj hp' Mt=>?_⟩
  rcases Nat.lt_or_ge j k with h1|h1
  ·exact hdone j p' h1 hp' Mt
  ·obtain rfl:j=k:=by omega
   rw[hke]at hp';cases hp'
   have:=hJ'.pon _ Mt
   unfold on at this
   rw[show((s,e):Nat×Ed).2.2.2=e.2.2 from rfl,hb1]at this
   cases this
   cases hb2
end
section
variable{H0 H:ae}{L L' M:List aC}{S:List Nat}{F:Nat→Prop}{A:At}{q:AV}{n s:Nat}{Q P:Nat→Prop}{mk mk':List Bool}{nx nx':List Nat}
structure KD(A:At)(ok:Ed→Prop)(key:Ed→Nat)(D:Nat→Ed→Prop)(c:Nat)(b:List (List (Nat×Ed))):Prop where
 snd:∀(t:Nat) l,b[t]?=some l→∀p∈l,p.2∈A.E p.1∧key p.2=t∧ok p.2
 cpl:∀s e l,D s e→ok e→b[key e]?=some l→(s,e)∈l
 len:∀l∈b,l.length≤c
section kd
variable{ok:Ed→Prop}{key:Ed→Nat}{D D':Nat→Ed→Prop}{c:Nat}{b:List (List (Nat×Ed))}
theorem KD.nil(n:Nat):KD A ok key (fun _ _=>False) 0 (List.replicate n []):=by
 refine⟨fun t l h p hp=>?_,fun s e l h=>h.elim,fun l h=>?_⟩
 ·have:=List.mem_of_getElem? h
  rw[List.mem_replicate]at this
  rw[this.2]at hp;cases hp
 ·rw[List.mem_replicate]at h
  rw[h.2];exact Nat.le_refl _
theorem KD.wk(h:KD A ok key D c b)(hd:∀s e,D' s e→D s e){c':Nat}(hc:c≤c'):KD A ok key D' c' b:=⟨h.snd,fun s e l g=>h.cpl s e l (hd s e g),fun l g=>Nat.le_trans (h.len l g) hc⟩
theorem KD.add(h:KD A ok key D c b){s:Nat}{e:Ed}{l:List (Nat×Ed)}(he:e∈A.E s)(hk:ok e)(hl:b[key e]?=some l):KD A ok key (fun s' e'=>D s' e'∨(s'=s∧e'=e)) (c +1) (b.set (key e) (l++[(s,e)])):=by
 have hlt:=(List.getElem?_eq_some_iff.1 hl).1
 refine⟨fun t l' h' p hp=>?_,fun s' e' l' hd hk' h'=>?_,fun l' h'=>?_⟩
 ·rw[List.getElem?_set]at h'
  by_cases ht:key e=t
  ·rw[if_pos ht,if_pos hlt]at h'
   cases h'
   rcases List.mem_append.1 hp with hp|hp
   ·rw[←ht];exact h.snd _ l hl p hp
   ·rw[List.mem_singleton]at hp
    subst hp
    exact⟨he,ht,hk⟩
  ·rw[if_neg ht]at h'
   exact h.snd t l' h' p hp
 ·rw[List.getElem?_set]at h'
  by_cases ht:key e=key e'
  ·rw[if_pos ht,if_pos hlt]at h'
   cases h'
   rcases hd with hd|⟨rfl,rfl⟩
   ·exact List.mem_append_left _ (h.cpl s' e' l hd hk' (by rw[←ht];exact hl))
   ·simp
  ·rw[if_neg ht]at h'
   rcases hd with hd|⟨rfl,rfl⟩
   ·exact h.cpl s' e' l' hd hk' h'
   ·exact absurd rfl ht
 ·rcases List.mem_or_eq_of_mem_set h' with h1|rfl
  ·have:=h.len l' h1;omega
  ·have:=h.len l (List.mem_of_getElem? hl)
   rw[List.length_append]
   show l.length +1≤c +1
   omega
theorem KD.skip(h:KD A ok key D c b){s:Nat}{e:Ed}(hk:¬ok e):KD A ok key (fun s' e'=>D s' e'∨(s'=s∧e'=e)) (c +1) b:=by
 refine⟨h.snd,fun s' e' l hd hk' h'=>?_,fun l' h'=>Nat.le_succ_of_le (h.len l' h')⟩
 rcases hd with hd|⟨rfl,rfl⟩
 ·exact h.cpl s' e' l hd hk' h'
 ·exact absurd hk' hk
end kd
def Seen(A:At)(i k:Nat)(s:Nat)(e:Ed):Prop:=(s<i∧e∈A.E s)∨(s=i∧∃j:Nat,j<k∧(A.E i)[j]?=some e)
theorem Seen.next{i k:Nat}{e0:Ed}(h0:(A.E i)[k]?=some e0){s:Nat}{e:Ed}(h:Seen A i (k +1) s e):Seen A i k s e∨(s=i∧e=e0):=by
 rcases h with h|⟨h1,j,h2,h3⟩
 ·exact .inl (.inl h)
 ·rcases Nat.lt_or_ge j k with h4|h4
  ·exact .inl (.inr ⟨h1,j,h4,h3⟩)
  ·obtain rfl:j=k:=by omega
   rw[h0]at h3;cases h3
   exact .inr ⟨h1,rfl⟩
theorem Seen.all{i:Nat}{s:Nat}{e:Ed}(h:Seen A (i +1) 0 s e):Seen A i (A.E i).length s e:=by
 rcases h with⟨h1,h2⟩|⟨h1,j,h2,h3⟩
 ·rcases Nat.lt_or_ge s i with h4|h4
  ·exact .inl ⟨h4,h2⟩
  ·obtain rfl:s=i:=by omega
   obtain⟨j,hj,e1⟩:=List.mem_iff_getElem.1 h2
   exact .inr ⟨rfl,j,hj,by rw[←e1];exact List.getElem?_eq_getElem hj⟩
 ·omega
theorem _root_.Go.Ae.SH.Qr{K:Value→Value→ae→Prop}{r k c:Nat}{ty:TypeId}{cs:List Value}{v:Value}(hS:SH S H0 H L)[hb:Gd L r (fun cs=>cs.set k v) ty cs L'](hk:k<n)(hl:k<cs.length)(hc:ax v=[v]:=by rfl)(ho:aR v=true:=by rfl)(kk:∀H1,SH S H0 (hM H H1) L'→K (.pointer (some ⟨r,k,none⟩)) undef H1):
 PU (sS 1 (.slice (some ⟨r,0,none⟩) n c) (vn k)) fun p=>ME (yB 1 p v (hN H)) (K p):=by
 obtain⟨i,hi,e⟩:=hb.at'
 refine PU.of (Xb hk) ?_
 rw[Nat.zero_add]
 obtain⟨H1,h1,h2,hx⟩:=(SH.mV hS).qP (vs:=[v]) (o:=k) i hi (by show k +1≤_;omega) (by show av (aR v) _ _=_;rw[ho];rfl)
 rw[NN hl]at h2
 show ME (gd (Nat.beq (len (ax v)) 1) (aj ((Go.Ae.hN H).write r k (ax v)) fun H'=>some (undef,H'))) _
 rw[hc,aM,show Nat.beq [v].length 1=true from rfl,h1]
 refine kk H1 ?_
 rw[e]
 exact⟨kP.later hS.ext hx.draw (fun q hq=>by
  simp at hq;subst hq
  exact(hS.lo _ (List.mem_of_getElem? hi)).1),h2.bk,fun e he=>⟨(h2.lo e he).1,(h2.lo e he).2⟩,h2.ne,hx.draw.wf hS.wf⟩
def Bq(ok:Ed→Prop)(key:Ed→Nat)(A:At)(D:Nat→Ed→Prop)(c n:Nat)(vs:List Value)(R:List aC):Prop:=∃b,KD A ok key D c b∧b.length=n∧CG 166 4 (b.map Kh) vs R
theorem Bq.wk{ok:Ed→Prop}{key:Ed→Nat}{D D':Nat→Ed→Prop}{c c' n:Nat}{vs:List Value}{R:List aC}(h:Bq ok key A D c n vs R)(hd:∀s e,D' s e→D s e)(hc:c≤c'):Bq ok key A D' c' n vs R:=let⟨b,h1,h2,h3⟩:=h;⟨b,h1.wk hd hc,h2,h3⟩
theorem Bq.skip{ok:Ed→Prop}{key:Ed→Nat}{D:Nat→Ed→Prop}{c n:Nat}{vs:List Value}{R:List aC}(h:Bq ok key A D c n vs R){s:Nat}{e:Ed}(hk:¬ok e):Bq ok key A (fun s' e'=>D s' e'∨(s'=s∧e'=e)) (c +1) n vs R:=let⟨b,h1,h2,h3⟩:=h;⟨b,h1.skip hk,h2,h3⟩
theorem Bq.put{ok:Ed→Prop}{key:Ed→Nat}{D:Nat→Ed→Prop}{c n:Nat}{vs:List Value}{R P0 L0:List aC}{rx s:Nat}{e:Ed}{K:Value→ae→Prop}(h:Bq ok key A D c n vs R)(hc:c≤1000000)(he:e∈A.E s)(hk:ok e)(hn:key e<n){v:Value}(hv:vs[key e]?=some v)(hS:SH S H0 H ((rx,166,[vn s,vn e.1,vn e.2.1,vn e.2.2])::(P0++(R++L0))))
 (kk:∀va vl vc H1 R',Bq ok key A (fun s' e'=>D s' e'∨(s'=s∧e'=e)) (c +1) n (vs.set (key e) (.slice va vl vc)) R'→SH S H0 (hM H H1) (P0++(R'++L0))→(DZ H H1=cl 1∨DZ H H1=⟨2,0,0,0,H,H1⟩)→K (.slice va vl vc) H1):
 ME (wh 166 4 v (.slice (some ⟨rx,0,none⟩) 1 1) (hN H)) K:=by
 obtain⟨b,h1,h2,h3⟩:=h
 have hvl:vs.length=n:=by rw[←h3.len,List.length_map,h2]
 obtain⟨A',gb,B,rfl,hg,hput⟩:=h3.at (key e) aa
 obtain⟨l,hl⟩:∃l,b[key e]?=some l:=⟨_,List.getElem?_eq_getElem aa⟩
 have hll:=h1.len l (List.mem_of_getElem? hl)
 rw[List.getElem?_map,hl]at hg
 have hg:GB 166 4 vs[key e] (Kh l) gb:=hg
 rw[List.getElem?_eq_getElem aa]at hv
 rw[Option.some.inj hv]at hg
 have e1:P0++((A'++(gb++B))++L0)=(P0++A')++(gb++(B++L0)):=by simp
 rw[e1]at hS
 refine hg.Co (hS.perm (List.Perm.cons _ (bB (P0++A') gb (B++L0)))) aa rfl rfl (by rw[G6];omega) fun v' H1 bJ hg' hS' _ _ hcl=>?_
 obtain⟨va,vl,vc,rfl⟩:=hg'.sl
 have hS':=hS'.perm (bB bJ (P0++A') (B++L0))
 have e2:(P0++A')++(bJ++(B++L0))=P0++((A'++(bJ++B))++L0):=by simp
 rw[e2]at hS'
 refine kk va vl vc H1 (A'++(bJ++B)) ⟨b.set (key e) (l++[(s,e)]),h1.add he hk hl,by rw[List.length_set];exact h2,?_⟩ hS' hcl
 have:=hput (.slice va vl vc) (Kh (l++[(s,e)])) bJ (by rw[Oy];exact hg')
 rw[List.map_set];exact this
theorem uw{ty:TypeId}{es:Nat}:∀{yC:List (List Value)}{vs:List Value}{R:List aC},CG ty es yC vs R→∀v∈vs,gK v v=true
 |[],[],R,h=>fun v hv=>nomatch hv
 |ks::yC,w::vs,R,⟨gb,R',_,h1,h2⟩=>fun v hv=>by
  rcases List.mem_cons.1 hv with rfl|hv
  ·rcases h1 with⟨rfl,_⟩|⟨r,n,aF,rfl,_⟩
   ·exact jy _ _ _ fun x h=>by cases h
   ·exact jy _ _ _ fun x h=>by cases h;rfl
  ·exact uw h2 v hv
 |[],v::vs,R,h=>h.elim
 |ks::yC,[],R,h=>h.elim
theorem Bq.same{ok:Ed→Prop}{key:Ed→Nat}{D:Nat→Ed→Prop}{c n:Nat}{vs:List Value}{R:List aC}(h:Bq ok key A D c n vs R):∀v∈vs,gK v v=true:=let⟨_,_,_,h3⟩:=h;uw h3
theorem yx{l:List Value}(h:∃a b c:Nat,l=[vn a,vn b,vn c]){o n:Nat}:∀v∈(l.drop o).take n,gK v v=true:=fun v hv=>by
 obtain⟨a,b,c,rfl⟩:=h
 have:=List.mem_of_mem_drop (List.mem_of_mem_take hv)
 simp at this
 rcases this with rfl|rfl|rfl<;>exact qg _ _
end
section
variable{H0 H:ae}{L L' M:List aC}{S:List Nat}{F:Nat→Prop}{A:At}{q:AV}{n s:Nat}{Q P:Nat→Prop}{mk mk':List Bool}{nx nx':List Nat}
theorem Mw{rs:List ResultVar}{K K':Value→ae→Prop}(h:∀v H,K v H→K' v H):∀o,cK Pg rs K o→cK Pg rs K' o:=by
 have key:∀s:St,(s.df=[]∧@Option.rec (List Value) (fun _=>Prop) False (fun vs=>K (je vs) s.H) (dn Pg s rs))→(s.df=[]∧@Option.rec (List Value) (fun _=>Prop) False (fun vs=>K' (je vs) s.H) (dn Pg s rs)):=by
  rintro s ⟨h1,h2⟩
  refine⟨h1,?_⟩
  cases ha:dn Pg s rs with
  |none=>rw[ha]at h2;exact h2
  |some vs=>rw[ha]at h2;exact h _ _ h2
 intro o ho
 cases o with
 |norm s=>exact key s ho
 |ret s=>exact key s ho
 |fail=>exact ho
 |exit i s=>exact ho
 |goto l s=>exact ho
theorem Bq.bk{ok:Ed→Prop}{key:Ed→Nat}{D:Nat→Ed→Prop}{c r:Nat}{vs:List Value}{R:List aC}(h:Bq ok key A D c n vs R)(hc:c≤1000000)(hS:SH S H0 H (R++L))(hr:Bk H r 164 vs)(hl:r<H.next):
 BkM (fun t l=>(∀p∈l,p.2∈A.E p.1∧key p.2=t∧ok p.2)∧∀s e,D s e→ok e→key e=t→(s,e)∈l) H n (some ⟨r,0,none⟩):=by
 obtain⟨b,h1,h2,h3⟩:=h
 have hvl:vs.length=n:=by rw[←h3.len,List.length_map,h2]
 refine⟨vs,⟨hr.fl hl aa,fun r' o e _=>by cases e;exact⟨trivial,hl,hr.QS⟩⟩,fun t ht=>?_⟩
 obtain⟨a,m,c',e1,e2,hf⟩:=h3.all hS t aa
 obtain⟨l,hl⟩:∃l,b[t]?=some l:=⟨_,List.getElem?_eq_getElem aa⟩
 rw[List.getElem?_map,hl]at e2 hf
 have e2:(Kh l).length=m*4:=e2
 rw[G6]at e2
 obtain rfl:m=l.length:=by omega
 have:=h1.len l (List.mem_of_getElem? hl)
 exact⟨a,c',l,by rw[List.getElem?_eq_getElem aa,e1],hf.wk fun _ _=>trivial,⟨h1.snd t l hl,fun s e hd hk hkey=>h1.cpl s e l hd hk (by rw[hkey];exact hl)⟩,aa⟩
abbrev AU:Ed→Nat:=fun e=>e.2.2
abbrev Dq:Ed→Nat:=fun e=>e.2.1
abbrev okC:Ed→Prop:=fun e=>e.1=2
theorem XK{tok:Bool}{e:Ed}{D:Nat→Ed→Prop}{c re dc di rg ic cc:Nat}{Ej DI:List Value}{RI RC:List aC}{H1:ae}(hc:c≤1000000)(ho:A.Ok)(he:e∈A.E s)(hok:At.Om tok e)(hI:Bq (At.Om tok) AU A D c A.ns Ej RI)(hC:Bq okC Dq A D c A.nr DI RC)
 (hS:SH [] H H1 ((re,47,[vn e.1,vn e.2.1,vn e.2.2])::(dc,164,DI)::(di,164,Ej)::(rg,26,q.cells A)::(RI++RC))){K:Out→Prop}{x0 x1 x2 x4 x8 bg b_ bQ bU dJ jK nT oQ x30 x31 x32 pN x38 x39 x88 x89 x90 x115 wB qj x157 x158 x159:Value}{eP:List (Nat×Value)}
 (kk:∀Dr Dt Mx Qs pO H',Bq (At.Om tok) AU A (fun s' e'=>D s' e'∨(s'=s∧e'=e)) (c +1) A.ns Dr Mx→Bq okC Dq A (fun s' e'=>D s' e'∨(s'=s∧e'=e)) (c +1) A.nr Dt Qs→SH [] H H' ((re,47,[vn e.1,vn e.2.1,vn e.2.2])::(dc,164,Dt)::(di,164,Dr)::(rg,26,q.cells A)::(Mx++Qs))→
  K (.norm (dB x0 x1 x2 x4 (.slice (some ⟨di,0,none⟩) A.ns ic) (.slice (some ⟨dc,0,none⟩) A.nr cc) (vn s) x8 (pt re) bg b_ bQ bU dJ jK nT oQ x30 x31 x32 pN x38 x39 x88 x89 x90 x115 wB qj x157 x158 x159 pO H'))):
 aT Pg X (sub gG [1,1,1,0,1,0,0,1,1,0,0,1,1,0,0,1,1,0,0,1,1]) (dB x0 x1 x2 x4 (.slice (some ⟨di,0,none⟩) A.ns ic) (.slice (some ⟨dc,0,none⟩) A.nr cc) (vn s) x8 (pt re) bg b_ bQ bU dJ jK nT oQ x30 x31 x32 pN x38 x39 x88 x89 x90 x115 wB qj x157 x158 x159 eP H1) K:=by
 have hs:=ho.lt he
 have hto:AU e<A.ns:=(ho.e s hs e he).1
 have hvI:Ej.length=A.ns:=let⟨b,_,h2,h3⟩:=hI;by rw[←h3.len,List.length_map,h2]
 have hvC:DI.length=A.nr:=let⟨b,_,h2,h3⟩:=hC;by rw[←h3.len,List.length_map,h2]
 refine tl ?_
 repeat(first|(refine hS.az ?_)|(refine hS.iG ?_))
 obtain⟨v,hv,_⟩:∃v,Ej[AU e]?=some v∧True:=⟨_,List.getElem?_eq_getElem aa,trivial⟩
 refine hS.XI (k:=AU e) hto hv ?_
 repeat(first|(refine hS.az ?_)|(refine PU.b4 rfl ?_)|(refine hS.mW ?_))
 refine hS.S8 rfl rfl rfl aa fun H2 rx hS ji=>?_
 have hS:SH [] H (hM H1 H2) ((rx,166,[vn s,vn e.1,vn e.2.1,vn e.2.2])::([(re,47,[vn e.1,vn e.2.1,vn e.2.2]),(dc,164,DI),(di,164,Ej),(rg,26,q.cells A)]++(RI++RC))):=hS
 have hS0:=hS
 refine hI.put hc he hok hto hv hS fun va vl vc H3 Mx hI' hS kV=>?_
 simp only[List.cons_append,List.nil_append]at hS
 have hS1:=hS
 refine hS.Qr (k:=AU e) hto aa (kk:=fun H4 hS=>?_)
 have n1:re≠di:=hS.nq 0 2 rfl rfl aa
 refine splitK (fun K hK=>?_) ?_
 ·have r1:∀{o n:Nat}{a b:ae},o +n≤3→fQ ⟨2,0,0,0,hM H1 H2,H3⟩ ⟨4,re,o,n,a,b⟩=true:=fun h=>iV (hS0.get 1 rfl) ((hS1.get 0 rfl).dL rfl) h (yx ⟨_,_,_,rfl⟩)
  have r2:∀{n:Nat}{a b:ae},n=1→fQ ⟨2,0,0,0,hM H1 H2,H3⟩ ⟨4,di,AU e,n,a,b⟩=true:=fun h=>iV (hS0.get 3 rfl) ((hS1.get 2 rfl).dL rfl) aa fun v hv=>hI.same v (List.mem_of_mem_drop (List.mem_of_mem_take hv))
  simp only[ji,aN,aQ]
  generalize hke:AU e=ke at r2⊢
  rcases kV with e|e<;>rw[e]<;>apply Gg (A:=hM H1 H2) (B:=H3) (a:=re) (b:=di) n1 (by rfl) (by kernel_rfl) (by kernel_rfl) hK<;>repeat' apply And.intro
  all_goals first|exact trivial|(intro h;cases h;done)|exact fun _=>⟨rfl,rfl⟩|exact fun _=>r1 aa|exact fun _=>r2 rfl
 refine hS.a_ ?_;refine hS.az ?_
 refine ah (fun hk=>?_) (fun hk=>?_)
 rotate_left
 ·exact kk _ DI Mx RC _ _ hI' (hC.skip (s:=s) (e:=e) (fun h=>hk (by have:e.1=2:=h;omega))) hS
 have hk2:okC e:=by show e.1=2;omega
 have hca:Dq e<A.nr:=ho.call he hk2
 clear hS0 hS1 ji kV n1
 generalize hM _ H4=Hz at hS⊢
 repeat(first|(refine hS.az ?_)|(refine hS.iG ?_))
 obtain⟨v,hv,_⟩:∃v,DI[Dq e]?=some v∧True:=⟨_,List.getElem?_eq_getElem aa,trivial⟩
 refine hS.XI (k:=Dq e) hca hv ?_
 repeat(first|(refine hS.az ?_)|(refine PU.b4 rfl ?_)|(refine hS.mW ?_))
 refine hS.S8 rfl rfl rfl aa fun H5 ry hS ji=>?_
 have hS0:=hS
 have hS:=(hS.to (cs':=[vn s,vn e.1,vn e.2.1,vn e.2.2]) rfl).cast (L':=(ry,166,[vn s,vn e.1,vn e.2.1,vn e.2.2])::(([(re,47,[vn e.1,vn e.2.1,vn e.2.2]),(dc,164,DI),(di,164,Ej.set (AU e) (.slice va vl vc)),(rg,26,q.cells A)]++Mx)++(RC++[]))) (by simp)
 refine hC.put hc he hk2 hca hv hS fun vb vm vd H6 Qs hC' hS kV=>?_
 simp only[List.cons_append,List.nil_append,List.append_nil]at hS
 have hS1:=hS
 refine hS.Qr (k:=Dq e) hca aa (kk:=fun H7 hS=>?_)
 have n1:re≠dc:=hS.nq 0 1 rfl rfl aa
 refine splitK (fun K hK=>?_) ?_
 ·have r1:∀{o n:Nat}{a b:ae},o +n≤3→fQ ⟨2,0,0,0,hM Hz H5,H6⟩ ⟨4,re,o,n,a,b⟩=true:=fun h=>iV (hS0.get 1 rfl) ((hS1.get 0 rfl).dL rfl) h (yx ⟨_,_,_,rfl⟩)
  have r2:∀{n:Nat}{a b:ae},n=1→fQ ⟨2,0,0,0,hM Hz H5,H6⟩ ⟨4,dc,Dq e,n,a,b⟩=true:=fun h=>iV (hS0.get 2 rfl) ((hS1.get 1 rfl).dL rfl) aa fun v hv=>hC.same v (List.mem_of_mem_drop (List.mem_of_mem_take hv))
  simp only[ji,aN,aQ]
  generalize hke:Dq e=ke at r2⊢
  rcases kV with e|e<;>rw[e]<;>apply Gg (A:=hM Hz H5) (B:=H6) (a:=re) (b:=dc) n1 (by rfl) (by kernel_rfl) (by kernel_rfl) hK<;>repeat' apply And.intro
  all_goals first|exact trivial|(intro h;cases h;done)|exact fun _=>⟨rfl,rfl⟩|exact fun _=>r1 aa|exact fun _=>r2 rfl
 exact kk _ _ Mx Qs _ _ hI' hC' hS
end
section
variable{H0 H:ae}{L L' M:List aC}{S:List Nat}{F:Nat→Prop}{A:At}{q:AV}{n s:Nat}{Q P:Nat→Prop}{mk mk':List Bool}{nx nx':List Nat}
theorem wV(hw:Wf H)(h:mJ F H A q)(ho:A.Ok)(tok:Bool):ak Pg X 38 [q.v A,.bool tok] H (Qe (fun v H'=>∃mk,Bs H.next H' A.ns v mk∧∀s,on mk s↔A.Mk tok s) H):=by
 have hS:=SH.refl hw
 have hbig:=ho.big
 have G4:=ho.few
 refine ce [0,1,2,4,5,6,7,8,10,11,12,13,15,16,18,19,21,30,31,32,37,38,39,88,89,90,115,116,117,157,158,159] ?_;refine tl ?_
 refine hS.box rfl fun H1 rg hS=>?_
 rw[fZ]at hS
 refine hS.mU 0 rfl (by show 0 +6≤6;omega) ?_
 refine ak.mono (lW hS.wf q A) ?_
 rintro v H2 ⟨rfl,hx⟩
 have hS:=hS.call hx
 refine hS.mkS (Nat.le_refl _) aa fun H3 di hS=>?_
 rw[gD]at hS
 refine au ?_
 refine hS.ld 1 (o:=0) rfl rfl ?_
 refine au ?_
 refine hS.mkS (Nat.le_refl _) aa fun H4 dc hS=>?_
 rw[gD]at hS
 refine hS.ld 2 (o:=4) rfl rfl ?_
 refine au ?_
 have hS:SH [] H H4 ((dc,164,List.replicate A.nr (.slice none 0 0))::(di,164,List.replicate A.ns (.slice none 0 0))::(rg,26,q.cells A)::([]++[])):=hS
 have ini:∀(ok:Ed→Prop) key n,Bq ok key A (Seen A 0 0) (A.pre 0) n (List.replicate n (.slice none 0 0)) []:=fun ok key n=>⟨List.replicate n [],(KD.nil n).wk (fun s e h=>by rcases h with⟨h,_⟩|⟨_,j,h,_⟩<;>omega) (Nat.zero_le _),by simp,by rw[List.map_replicate];exact CG.Jd n⟩
 refine lp7 7 8 10 32 37 38 39 (I:=fun m x7 x8 aW x32 pN x38 x39 H'=>∃i Ej DI RI RC,x32=vn i∧i +m=A.ns∧Bq (At.Om tok) AU A (Seen A i 0) (A.pre i) A.ns Ej RI∧Bq okC Dq A (Seen A i 0) (A.pre i) A.nr DI RC∧SH [] H H' ((dc,164,DI)::(di,164,Ej)::(rg,26,q.cells A)::(RI++RC))) ?_ A.ns ⟨0,_,_,[],[],rfl,aa,ini _ _ _,ini _ _ _,hS⟩
 clear hS hx ini
 rintro m x7 x8 aW x32 pN x38 x39 eP H5 ⟨i,Ej,DI,RI,RC,rfl,him,hI,hC,hS⟩
 refine tl ?_
 refine au ?_
 refine ah (fun hc=>?_) (fun hc=>?_)
 rotate_left
 ·obtain rfl:i=A.ns:=by omega
  have hpre:=At.wO ho A.ns
  have all:∀s e,e∈A.E s→Seen A A.ns 0 s e:=fun s e he=>.inl ⟨ho.lt he,he⟩
  have hS2:SH [] H H5 ((RI++RC)++[(dc,164,DI),(di,164,Ej),(rg,26,q.cells A)]):=hS.perm (List.perm_append_comm (l₁:=[_,_,_]))
  have b1:=hI.bk (L:=RC++[(dc,164,DI),(di,164,Ej),(rg,26,q.cells A)]) aa (hS2.cast (by simp)) (hS.get 1 rfl) (hS.lo _ (List.mem_of_getElem? (i:=1) rfl)).2
  have b2:=hC.bk (L:=[(dc,164,DI),(di,164,Ej),(rg,26,q.cells A)]) aa (SH.drop (A:=RI) (hS2.cast (by simp))) (hS.get 0 rfl) (hS.lo _ (List.mem_of_getElem? (i:=0) rfl)).2
  have c1:BkM (ac6 A tok) H5 A.ns (some ⟨di,0,none⟩):=by
   obtain⟨vs,g1,g2⟩:=b1
   refine⟨vs,g1,fun t ht=>?_⟩
   obtain⟨b,c,l,g3,g4,⟨g5,g6⟩,g7⟩:=g2 t ht
   exact⟨b,c,l,g3,g4,⟨g5,fun s e he hk hkey=>g6 s e (all s e he) hk hkey⟩,g7⟩
  have c2:BkM (ac7 A) H5 A.nr (some ⟨dc,0,none⟩):=by
   obtain⟨vs,g1,g2⟩:=b2
   refine⟨vs,g1,fun t ht=>?_⟩
   obtain⟨b,c,l,g3,g4,⟨g5,g6⟩,g7⟩:=g2 t ht
   exact⟨b,c,l,g3,g4,⟨fun p hp=>⟨(g5 p hp).1,(g5 p hp).2.2,(g5 p hp).2.1⟩,fun s e he hk hkey=>g6 s e (all s e he) hk hkey⟩,g7⟩
  have hx:=hS.ext
  refine aT.mono (XJ hS.wf (h.ex hx) ho (hS.get 2 rfl) (hS.lo _ (List.mem_of_getElem? (i:=2) rfl)).2 c1 c2) (Mw ?_)
  rintro v H6 ⟨⟨mk,g1,g2⟩,g3⟩
  exact⟨⟨mk,g1.le hx.next,g2⟩,hx.trans g3⟩
 have hi:i<A.ns:=by omega
 refine h.XH hS.ext hi fun p ea ec hE=>?_
 refine au ?_
 have hpre:=At.uq ho hi
 have hpl:=At.wO ho (i +1)
 refine lp2 10 39 (I:=fun m aW x39 H'=>∃k Ej DI RI RC,x39=vn k∧k +m=(A.E i).length∧Bq (At.Om tok) AU A (Seen A i k) (A.pre i +k) A.ns Ej RI∧Bq okC Dq A (Seen A i k) (A.pre i +k) A.nr DI RC∧SH [] H H' ((dc,164,DI)::(di,164,Ej)::(rg,26,q.cells A)::(RI++RC))) ?_ (A.E i).length ⟨0,Ej,DI,RI,RC,rfl,aa,hI,hC,hS⟩
 clear hS hI hC hc
 rintro m' y10 y39 Eg H6 ⟨k,Ej,DI,RI,RC,rfl,hkm,hI,hC,hS⟩
 refine tl ?_
 refine au ?_
 refine ah (fun hc=>?_) (fun hc=>?_)
 rotate_left
 ·obtain rfl:k=(A.E i).length:=by omega
  refine tl ?_
  refine ay ?_
  exact⟨A.ns -(i +1),aa,_,_,_,_,_,_,_,_,_,rfl,i +1,Ej,DI,RI,RC,iC,aa,hI.wk (fun s e h=>h.all) aa,hC.wk (fun s e h=>h.all) aa,hS⟩
 have hk:k<(A.E i).length:=by omega
 refine J3 (hE.ex hS.ext) hk fun p=>?_
 have hmem:=List.getElem_mem hk
 have JV:=ho.len i
 have hke:(A.E i)[k]?=some (A.E i)[k]:=List.getElem?_eq_getElem hk
 generalize hee:(A.E i)[k]=e at hke hmem⊢
 refine hS.ns rfl rfl rfl fun H8 re hS DD=>?_
 have hS:SH [] H H8 ((re,47,[vn e.1,vn e.2.1,vn e.2.2])::(dc,164,DI)::(di,164,Ej)::(rg,26,q.cells A)::(RI++RC)):=hS
 have cm:At.Om tok e→∀eP(K:Out→Prop),(∀Dr Dt Mx Qs pO H',Bq (At.Om tok) AU A (Seen A i (k +1)) (A.pre i +(k +1)) A.ns Dr Mx→Bq okC Dq A (Seen A i (k +1)) (A.pre i +(k +1)) A.nr Dt Qs→SH [] H H' ((dc,164,Dt)::(di,164,Dr)::(rg,26,q.cells A)::(Mx++Qs))→
  K (.norm (dB (q.v A) (.bool tok) (pt rg) (.slice none 0 0) (.slice (some ⟨di,0,none⟩) A.ns A.ns) (.slice (some ⟨dc,0,none⟩) A.nr A.nr) (vn i) (.slice ea (A.E i).length ec) (pt re) top top top top top top top top (.slice q.ea A.ns q.ec) (vn A.ns) (vn i) (.slice ea (A.E i).length ec) (vn (A.E i).length) (vn k) top top top top top top top top top pO H')))→
  aT Pg X (sub gG [1,1,1,0,1,0,0,1,1,0,0,1,1,0,0,1,1,0,0,1,1]) (dB (q.v A) (.bool tok) (pt rg) (.slice none 0 0) (.slice (some ⟨di,0,none⟩) A.ns A.ns) (.slice (some ⟨dc,0,none⟩) A.nr A.nr) (vn i) (.slice ea (A.E i).length ec) (pt re) top top top top top top top top (.slice q.ea A.ns q.ec) (vn A.ns) (vn i) (.slice ea (A.E i).length ec) (vn (A.E i).length) (vn k) top top top top top top top top top eP H8) K:=by
  intro hok eP K kk
  refine XK aa ho hmem hok hI hC hS fun Dr Dt Mx Qs pO H' g1 g2 g3=>?_
  exact kk Dr Dt Mx Qs pO H' (g1.wk (fun s e h=>h.next hke) (Nat.le_refl _)) (g2.wk (fun s e h=>h.next hke) (Nat.le_refl _)) (SH.drop (A:=[_]) g3)
 repeat(first|(refine hS.az ?_)|(refine hS.a_ ?_))
 refine ah (fun hc1=>?_) (fun hc1=>?_)
 ·refine aA (fun hb=>?_) (fun hb=>?_)
  ·have hno:¬At.Om tok e:=fun h=>by
    have:=h aa
    subst this;cases hb
   refine ay ?_
   exact⟨(A.E i).length -(k +1),aa,_,_,_,_,rfl,k +1,Ej,DI,RI,RC,iC,aa,(hI.skip hno).wk (fun s e h=>h.next hke) (Nat.le_refl _),(hC.skip (fun h:e.1=2=>by omega)).wk (fun s e h=>h.next hke) (Nat.le_refl _),SH.drop (A:=[_]) hS⟩
  ·refine cm (fun _=>by cases tok<;>simp_all) _ _ fun Dr Dt Mx Qs pO H' g1 g2 g3=>?_
   refine au ?_
   refine tl ?_
   refine ay ?_
   exact⟨(A.E i).length -(k +1),aa,_,_,_,_,rfl,k +1,Dr,Dt,Mx,Qs,iC,aa,g1,g2,g3⟩
 ·refine cm (fun h=>absurd aa hc1) _ _ fun Dr Dt Mx Qs pO H' g1 g2 g3=>?_
  refine au ?_
  refine tl ?_
  refine ay ?_
  exact⟨(A.E i).length -(k +1),aa,_,_,_,_,rfl,k +1,Dr,Dt,Mx,Qs,iC,aa,g1,g2,g3⟩
end
section
variable{H0 H:ae}{L L' M:List aC}{S:List Nat}{F:Nat→Prop}{A:At}{q:AV}{n s:Nat}{Q P:Nat→Prop}{mk mk':List Bool}{nx nx':List Nat}
theorem mJ.n'(h:mJ F H A q):mJ F (hN H) A q:=⟨h.n,h.s,h.p,h.o,h.e⟩
theorem Bs.at{b k c:Nat}{a:Option Addr}{K:Value→Value→ae→Prop}(h:Bs b H n (.slice a n c) mk)(hk:k<n)(kk:∀p t,(t=true↔on mk k)→K p (.bool t) H):PU (sS 1 (.slice a n c) (vn k)) fun p=>ME (lM none p H) (K p):=by
 obtain⟨a',c',e,hl,hf⟩:=h
 cases e
 obtain⟨t,ht⟩:∃t,mk[k]?=some t:=⟨_,List.getElem?_eq_getElem aa⟩
 refine hf.ix hk (dZ _ ht) fun p=>kk p t ?_
 unfold on
 rw[ht]
 simp
theorem Ar{b:Nat}{v:Value}(hw:Wf H)(h:mJ F H A q)(ho:A.Ok)(hm:Bs b H A.ns v mk):ak Pg X 37 [q.v A,v] H (Qe (fun v H'=>∃l,Bs H.next H' A.nr v l∧∀r,r<A.nr→(on l r↔on mk (A.S r))) H):=by
 have hS:=SH.refl hw
 have G4:=ho.few
 obtain⟨ma,mc,rfl,_⟩:=id hm
 refine ce [0,1,2,4,5,6,7,13,14,15] ?_;refine tl ?_
 refine hS.box rfl fun H1 rg hS=>?_
 rw[fZ]at hS
 refine au ?_
 refine hS.ld 0 (o:=0) rfl rfl ?_
 refine au ?_
 refine hS.mkS (Nat.le_refl _) aa fun H2 rl hS=>?_
 rw[gD]at hS
 refine hS.ld 1 (o:=1) rfl rfl ?_
 refine au ?_
 have hS:SH [] H H2 [(rl,4,bools (List.replicate A.nr false)),(rg,26,q.cells A)]:=hS.to (by simp)
 refine Oc 6 7 15 (I:=fun m x6 x7 bU H'=>∃i l,bU=vn i∧i +m=A.nr∧l.length=A.nr∧SH [] H H' [(rl,4,bools l),(rg,26,q.cells A)]∧∀r,r<i→(on l r↔on mk (A.S r))) ?_ A.nr ⟨0,_,rfl,aa,by simp,hS,fun r hr=>absurd hr aa⟩
 clear hS
 rintro m x6 x7 bU eP H3 ⟨i,l,rfl,him,hl,hS,hb⟩
 refine tl ?_
 refine au ?_
 refine ah (fun hc=>?_) (fun hc=>?_)
 rotate_left
 ·refine tl ?_
  obtain rfl:i=A.nr:=by omega
  refine rr ?_;exact⟨⟨l,⟨_,_,rfl,hl,eO.one hS (List.mem_cons_self ..) (by simpa using hl) (hS.wm (List.mem_cons_self ..))⟩,hb⟩,hS.ext⟩
 have hi:i<A.nr:=by omega
 refine(h.ex hS.ext).ldS ho hi fun p=>?_
 refine(hm.ex hS.ext).at (ho.s i hi).1 fun p t ht=>?_
 refine hS.Tt hi (by simpa using(by omega:i<l.length)) (kk:=fun p H4 hS=>?_)
 refine ay ?_
 refine⟨A.nr -(i +1),aa,_,_,_,_,_,rfl,i +1,l.set i t,iC,aa,by rw[List.length_set];exact hl,?_,fun r hr=>?_⟩
 ·have:bools (l.set i t)=(bools l).set i (.bool t):=List.map_set
  rw[this];exact hS
 ·unfold on
  rw[List.getElem?_set]
  by_cases e:i=r
  ·subst e
   rw[if_pos rfl,if_pos aa]
   unfold on at ht
   rw[←ht];simp
  ·rw[if_neg e]
   exact hb r aa
theorem wW(hw:Wf H)(h:mJ F H A q)(ho:A.Ok):ak Pg X 12 [q.v A] H (Qe (fun v H'=>∃l,Bs H.next H' A.nr v l∧∀r,r<A.nr→(on l r↔A.Mk false (A.S r))) H):=by
 have hS:=SH.refl hw
 refine ce [0,1,2] ?_;refine tl ?_
 refine hS.box rfl fun H1 rg hS=>?_
 rw[fZ]at hS
 refine hS.mU 0 rfl (by show 0 +6≤6;omega) ?_
 refine ak.mono (jA hS.wf (h.ex hS.ext) ho) ?_
 rintro v H2 ⟨rfl,hx⟩
 have hS:=hS.call hx
 refine au ?_
 refine aA (fun hb=>by cases hb) (fun _=>?_)
 refine hS.PL 0 rfl (by show 0 +6≤6;omega) ?_
 (try simp only[aZ hS.wf])
 refine hS.PL 0 rfl (by show 0 +6≤6;omega) ?_
 (try simp only[aZ hS.wf])
 refine ak.mono (wV (oC H2) (h.ex hS.ext).n' ho false) ?_
 rintro v H3 ⟨⟨mk,hm,hk⟩,hx3⟩
 have kH:=hS.kX hx3
 have hm':Bs H2.next (hN (hM H2 H3)) A.ns v mk:=hm
 refine ak.mono (Ar (oC (hM H2 H3)) (h.ex kH.ext).n' ho hm') ?_
 rintro w H4 ⟨⟨l,hl,hlr⟩,hx4⟩
 have nK:=kH.kX hx4
 refine jw (by simp only[aN,bn hx3,bn hx4];rfl) ?_
 have hge:H.next≤(hM H2 H3).next:=kH.ext.next
 have hl':Bs (hM H2 H3).next (hM (hM H2 H3) H4) A.nr w l:=hl
 refine rr ?_;exact⟨⟨l,hl'.le hge,fun r hr=>(hlr r hr).trans (hk _)⟩,nK.ext⟩
theorem Qt(hw:Wf H)(h:mJ F H A q)(ho:A.Ok):ak Pg X 13 [q.v A] H (Qe (fun v H'=>∃l,Bs H.next H' A.nr v l∧∀r,r<A.nr→(on l r↔A.Mk true (A.S r))) H):=by
 have hS:=SH.refl hw
 refine ce [0,1,2] ?_;refine tl ?_
 refine hS.box rfl fun H1 rg hS=>?_
 rw[fZ]at hS
 refine hS.mU 0 rfl (by show 0 +6≤6;omega) ?_
 refine ak.mono (jA hS.wf (h.ex hS.ext) ho) ?_
 rintro v H2 ⟨rfl,hx⟩
 have hS:=hS.call hx
 refine au ?_
 refine aA (fun hb=>by cases hb) (fun _=>?_)
 refine hS.PL 0 rfl (by show 0 +6≤6;omega) ?_
 (try simp only[aZ hS.wf])
 refine hS.PL 0 rfl (by show 0 +6≤6;omega) ?_
 (try simp only[aZ hS.wf])
 refine ak.mono (wV (oC H2) (h.ex hS.ext).n' ho true) ?_
 rintro v H3 ⟨⟨mk,hm,hk⟩,hx3⟩
 have kH:=hS.kX hx3
 have hm':Bs H2.next (hN (hM H2 H3)) A.ns v mk:=hm
 refine ak.mono (Ar (oC (hM H2 H3)) (h.ex kH.ext).n' ho hm') ?_
 rintro w H4 ⟨⟨l,hl,hlr⟩,hx4⟩
 have nK:=kH.kX hx4
 refine jw (by simp only[aN,bn hx3,bn hx4];rfl) ?_
 have hge:H.next≤(hM H2 H3).next:=kH.ext.next
 have hl':Bs (hM H2 H3).next (hM (hM H2 H3) H4) A.nr w l:=hl
 refine rr ?_;exact⟨⟨l,hl'.le hge,fun r hr=>(hlr r hr).trans (hk _)⟩,nK.ext⟩
end
section
variable{H0 H:ae}{L L' M:List aC}{S:List Nat}{F:Nat→Prop}{A:At}{q:AV}{n s:Nat}{Q P:Nat→Prop}{mk mk':List Bool}{nx nx':List Nat}
theorem _root_.Go.Ae.SH.bSx(hS:SH S H0 H L){e:TypeId}{z:List Value}{es:Nat}{v:Value}{K:Value→ae→Prop}(hz:z.length=es)(hv:ko v=true)(hc:(ax v).length=es)(he:es≤16777216)
 (k:∀H1 r,SH S H0 H1 ((r,e,ax v)::L)→Ext H H1→K (.slice (some ⟨r,0,none⟩) 1 1) H1):ME (Go.Ae.bS e z es 1 [(0,v)] H) K:=
 (SH.refl hS.wf).bS hz hv hc he fun H1 r hO=>k H1 r (SH.frame (M:=[]) (L:=L) hS hO) hO.ext
theorem Qu{b re:Nat}{v:Value}{l:List Bool}(h:H.cell re 0=some v)(hr:re<H.next)(hl:Bs b H A.nr v l)(ho:A.Ok)(hlr:∀r,r<A.nr→(on l r↔A.Mk false (A.S r))):Wnt A A.JO H (.func (.func 48) ⟨[]⟩ ⟨[pt re]⟩):=by
 intro H' s e hx hw he
 have hl:=hl.ex hx
 have h:H'.cell re 0=some v:=(fP (hx.obj re hr (by simp)) 0).trans h
 have hr:=Nat.lt_of_lt_of_le hr hx.next
 show ak Pg X 48 [_,pt re] H' _
 have hS:=SH.refl hw
 refine ce [0,1,2,3] ?_;refine tl ?_
 refine hS.box rfl fun H1 rb hS=>?_
 have hS:SH [] H' H1 [(rb,47,[vn e.1,vn e.2.1,vn e.2.2])]:=hS
 repeat(first|(refine hS.az ?_)|(refine hS.a_ ?_))
 refine ah (fun hc=>?_) (fun hc=>?_)
 ·refine rr ?_;exact⟨⟨true,rfl,fun _=>.inl aa,fun _=>rfl⟩,hS.ext⟩
 refine hS.a_ ?_;refine hS.az ?_
 refine ah (fun hc2=>?_) (fun hc2=>?_)
 ·have hca:=ho.call he aa
  refine hS.wo h hr ?_
  refine hS.a_ ?_
  obtain⟨ea,ec,rfl,_⟩:=id hl
  refine(hl.ex hS.ext).at hca fun p t ht=>?_
  refine rr ?_;refine⟨⟨t,rfl,fun h=>.inr ⟨aa,(hlr _ hca).1 (ht.1 h)⟩,fun h=>?_⟩,hS.ext⟩
  rcases h with h|h
  ·exact absurd aa hc
  ·exact ht.2 ((hlr _ hca).2 h.2)
 ·refine rr ?_;refine⟨⟨false,rfl,fun h=>(by cases h),fun h=>?_⟩,hS.ext⟩
  rcases h with h|h
  ·exact absurd aa hc
  ·exact absurd (by have:=h.1;omega) hc2
def aeh(b:Nat)(H:ae)(v:Value)(p:Nat→Prop):Prop:=∃a c l,v=.slice a l.length c∧eO (b≤·) 3 H a l.length 1 (aP l)∧l.Pairwise (·<·)∧∀t,t∈l↔p t
def QY(mk:List Bool)(i:Nat):List Nat:=(List.range i).filter fun t=>mk[t]?==some true
theorem J4(mk:List Bool)(i:Nat):QY mk (i +1)=QY mk i++(if mk[i]?==some true then[i]else[]):=by
 unfold QY
 rw[List.range_succ,List.filter_append]
 congr 1
 simp[List.filter_cons]
theorem XL(mk:List Bool)(i:Nat):(QY mk i).length≤i:=by
 unfold QY
 have:=List.length_filter_le (fun t=>mk[t]?==some true) (List.range i)
 rwa [List.length_range]at this
theorem free_spec(hw:Wf H)(h:mJ F H A q)(ho:A.Ok)(hs:s<A.ns):ak Pg X 19 [q.v A,vn s] H (Qe (fun v H'=>aeh H.next H' v (A.fre s)) H):=by
 have hS:=SH.refl hw
 have hbig:=ho.big
 refine ce [0,1,2,4,5,6,7,8,9,30,31,32] ?_;refine tl ?_
 refine hS.box rfl fun H1 rg hS=>?_
 rw[fZ]at hS
 refine hS.mU 0 rfl (by show 0 +6≤6;omega) ?_
 refine ak.mono (jA hS.wf (h.ex hS.ext) ho) ?_
 rintro v H2 ⟨rfl,hx⟩
 have hS:=hS.call hx
 refine au ?_
 refine aA (fun hb=>by cases hb) (fun _=>?_)
 refine ah (fun hc=>absurd hc aa) (fun _=>?_)
 refine hS.mU 0 rfl (by show 0 +6≤6;omega) ?_
 refine ak.mono (lW hS.wf q A) ?_
 rintro v H3 ⟨rfl,hx⟩
 have hS:=hS.call hx
 refine au ?_
 refine ah (fun hc=>absurd hc aa) (fun _=>?_)
 refine tl ?_
 refine hS.mU 0 rfl (by show 0 +6≤6;omega) ?_
 refine ak.mono (wW hS.wf (h.ex hS.ext) ho) ?_
 rintro v H4 ⟨⟨l,hl,hlr⟩,hx⟩
 have hS:=hS.call hx
 obtain⟨ea,ec,rfl,_⟩:=id hl
 refine hS.ns rfl rfl rfl fun H5 re hS hx5=>?_
 have hS:SH [] H H5 [(re,36,[.slice ea A.nr ec]),(rg,26,q.cells A)]:=hS
 have hl5:=hl.ex hx5
 refine hS.mU 1 rfl (by show 0 +6≤6;omega) ?_
 refine hS.bSx rfl rfl rfl aa fun H6 rx hS hx6=>?_
 have hS:SH [] H H6 [(rx,3,aP [s]),(re,36,[.slice ea A.nr ec]),(rg,26,q.cells A)]:=hS
 have hge:=hS.ext.next
 refine ak.mono (Fp (F:=fun _=>True) (fl:=[s]) (w:=A.JO) hS.wf ((h.ex hS.ext).wk fun _ _=>trivial) ho (eO.one hS (List.mem_cons_self ..) rfl trivial) (by simpa using hs) (by simp) (Qu ((hS.get 1 rfl).cell rfl) (hS.lo _ (List.mem_of_getElem? (i:=1) rfl)).2 (hl5.ex hx6) ho hlr)) ?_
 rintro v H7 ⟨⟨mk,hm,hk⟩,hx⟩
 have hS:=hS.call hx
 have hlen:mk.length=A.ns:=let⟨_,_,_,h,_⟩:=hm;h
 have hfr:∀t,on mk t↔A.fre s t:=fun t=>by
  rw[hk]
  have:(·∈[s])=(·=s):=by funext x;simp
  rw[this];rfl
 obtain⟨ma,mc,rfl,_⟩:=id hm
 refine au ?_
 have hS0:=hS
 refine Ht 7 8 9 32 (I:=fun m x7 x8 x9 x32 H'=>∃i gb,x32=vn i∧i +m=A.ns∧GB 3 1 x7 (aP (QY mk i)) gb∧SH [] H7 H' (gb++[])) ?_ A.ns ⟨0,[],rfl,aa,GB.nil _ _,SH.refl hS.wf⟩
 clear hS
 rintro m x7 x8 x9 x32 eP H8 ⟨i,gb,rfl,him,hg,hS⟩
 refine tl ?_
 refine au ?_
 refine ah (fun hc=>?_) (fun hc=>?_)
 rotate_left
 ·refine tl ?_
  obtain rfl:i=A.ns:=by omega
  obtain⟨a,n,c,rfl,hn,hf⟩:=hg.QT hS
  have hn:(QY mk A.ns).length=n:=by simpa using hn
  subst hn
  refine rr ?_;refine⟨⟨a,c,QY mk A.ns,rfl,hf.le (Nat.le_trans hge hx.next),?_,fun t=>?_⟩,hS0.ext.trans hS.ext⟩
  ·exact List.Pairwise.filter _ List.pairwise_lt_range
  ·rw[←hfr]
   unfold QY on
   rw[List.mem_filter,List.mem_range]
   constructor
   ·intro h;simpa using h.2
   ·intro h
    exact⟨by have:=(List.getElem?_eq_some_iff.1 h).1;omega,by simpa using h⟩
 have hi:i<A.ns:=by omega
 have hol:=XL mk i
 refine(hm.ex hS.ext).at hi fun p t ht=>?_
 refine au ?_
 refine aA (fun hb=>?_) (fun hb=>?_)
 ·subst hb
  refine hg.push hS aa rfl rfl rfl rfl rfl aa (by simpa using(by omega:(QY mk i).length≤16777216)) fun w v' H9 bJ hg' hS=>?_
  refine ay ?_
  refine⟨A.ns -(i +1),aa,_,_,_,_,_,_,rfl,i +1,bJ,iC,aa,?_,hS⟩
  have h1:=ht.1 rfl
  unfold on at h1
  rw[J4,h1]
  have:aP (QY mk i++if(some true==some true)=true then[i]else[])=aP (QY mk i)++ax (vn i):=by simp;rfl
  rw[this];exact hg'
 ·subst hb
  refine ay ?_
  refine⟨A.ns -(i +1),aa,_,_,_,_,_,_,rfl,i +1,gb,iC,aa,?_,hS⟩
  have h1:¬on mk i:=fun h=>by cases ht.2 h
  unfold on at h1
  rw[J4,if_neg (by simpa using h1),List.append_nil]
  exact hg
end
end Go.Proofs.Lv
namespace Go.Proofs.Lu
open Go.Ae Go.Ae.M Go.Proofs.Lv
section
variable{H0 H:ae}{L M:List aC}{S:List Nat}{F:Nat→Prop}{A:At}
def Bd(ra:Nat)(A:At)(M:List aC):Prop:=∃nv sv pv ov ev evs gn gs gp go ge R,M=(ra,26,[nv,sv,pv,ov,ev,vn A.ty])::(gn++(gs++(gp++(go++(ge++R)))))∧GB 9 1 nv (A.nm.map .string) gn∧GB 3 1 sv (aP A.st) gs∧GB 3 1 pv (aP A.sp) gp∧GB 3 1 ov (aP A.ow) go∧GB 45 1 ev evs ge∧CG 47 3 (A.eg.map rC) evs R
theorem _root_.Go.Ae.GB.KA{ty:TypeId}{v:Value}{cs:List Value}{gb:List aC}(h:GB ty 1 v cs gb):∃a c,v=.slice a cs.length c:=by
 rcases h with⟨rfl,rfl,_⟩|⟨r,n,aF,rfl,hn,_⟩
 ·exact⟨none,0,rfl⟩
 ·obtain rfl:n=cs.length:=by omega
  exact⟨_,_,rfl⟩
theorem My{ra:Nat}(hB:Bd ra A M)(hS:SH S H0 H (M++L))(hp:1≤A.nr)(hn:A.nr≤1000)(hs:A.ns≤100000)(hl:A.eg.length=A.ns):ak Pg X 118 [pr ra] H fun v H'=>v=vn A.ns∧∃M',Bd ra A.fr M'∧SH S H0 H' (M'++L):=by
 obtain⟨nv,sv,pv,ov,ev,evs,gn,gs,gp,go,ge,R,rfl,hgn,hgs,J5,hgo,hge,hR⟩:=hB
 have hS:=hS.cast (L':=(ra,26,[nv,sv,pv,ov,ev,vn A.ty])::(gn++(gs++(gp++(go++(ge++(R++L))))))) (by simp)
 have hev:evs.length=A.ns:=by rw[←hR.len,List.length_map,hl]
 refine ce [0,1] ?_;refine tl ?_
 refine au ?_
 refine hS.ld 0 (o:=3) rfl rfl ?_
 refine hS.ld 0 (o:=0) rfl rfl ?_
 obtain⟨na,nc,rfl⟩:=hgn.KA
 refine au ?_
 rw[List.length_map]
 refine PU.of (oD (by have:A.nr=A.nm.length:=rfl;omega) (by have:A.nr=A.nm.length:=rfl;omega)) ?_
 rw[show((A.nm.length:Int) -1)=((A.nr -1:Nat):Int) by have:A.nr=A.nm.length:=rfl;omega]
 have hS:=hS.perm (L':=go++((ra,26,[.slice na (A.nm.map Value.string).length nc,sv,pv,ov,ev,vn A.ty])::(gn++(gs++(gp++(ge++(R++L))))))) (by
  have:=bB ((ra,26,[.slice na (A.nm.map Value.string).length nc,sv,pv,ov,ev,vn A.ty])::(gn++(gs++gp))) go (ge++(R++L))
  simpa using this)
 refine hgo.push hS aa rfl rfl rfl rfl rfl aa (by simpa using(by unfold At.ns at hs;omega:A.ow.length≤16777216)) fun w v1 H1 go' hgo' hS=>?_
 have hS:=hS.perm (L':=(ra,26,[.slice na (A.nm.map Value.string).length nc,sv,pv,ov,ev,vn A.ty])::(go'++(gn++(gs++(gp++(ge++(R++L))))))) List.perm_middle
 obtain⟨oa,oc,rfl⟩:=hgo'.KA
 refine hS.st 0 rfl rfl (by show 3 +1≤6;omega) rfl fun H2 hS=>?_
 have hS:=hS.to (cs':=[.slice na (A.nm.map Value.string).length nc,sv,pv,.slice oa (aP A.ow++ax (vn (A.nr -1))).length oc,ev,vn A.ty]) rfl
 refine hS.ld 0 (o:=4) rfl rfl ?_
 have hS:=hS.perm (L':=ge++((ra,26,[.slice na (A.nm.map Value.string).length nc,sv,pv,.slice oa (aP A.ow++ax (vn (A.nr -1))).length oc,ev,vn A.ty])::(go'++(gn++(gs++(gp++(R++L))))))) (by
  have:=bB ((ra,26,[.slice na (A.nm.map Value.string).length nc,sv,pv,.slice oa (aP A.ow++ax (vn (A.nr -1))).length oc,ev,vn A.ty])::(go'++(gn++(gs++gp)))) ge (R++L)
  simpa using this)
 refine hge.push hS aa rfl rfl rfl rfl rfl aa aa fun w v2 H3 XM hge' hS=>?_
 have hS:=hS.perm (L':=(ra,26,[.slice na (A.nm.map Value.string).length nc,sv,pv,.slice oa (aP A.ow++ax (vn (A.nr -1))).length oc,ev,vn A.ty])::(XM++(go'++(gn++(gs++(gp++(R++L))))))) List.perm_middle
 obtain⟨ea,ec,rfl⟩:=hge'.KA
 refine hS.st 0 rfl rfl (by show 4 +1≤6;omega) rfl fun H4 hS=>?_
 have hS:=hS.to (cs':=[.slice na (A.nm.map Value.string).length nc,sv,pv,.slice oa (aP A.ow++ax (vn (A.nr -1))).length oc,.slice ea (evs++ax (.slice none 0 0)).length ec,vn A.ty]) rfl
 refine hS.ld 0 (o:=3) rfl rfl ?_
 refine au ?_
 have ol:(aP A.ow++ax (vn (A.nr -1))).length=A.ns +1:=by rw[List.length_append,List.length_map];rfl
 rw[ol]at hS⊢
 refine aH ?_
 rw[show(((A.ns +1:Nat):Int) -1)=(A.ns:Int) by omega]
 refine rr ?_;refine⟨rfl,(ra,26,[.slice na (A.nm.map Value.string).length nc,sv,pv,.slice oa (A.ns +1) oc,.slice ea (evs++ax (.slice none 0 0)).length ec,vn A.ty])::(gn++(gs++(gp++(go'++(XM++R))))),⟨_,_,_,_,_,evs++[.slice none 0 0],gn,gs,gp,go',XM,R,rfl,hgn,hgs,J5,?_,hge',?_⟩,?_⟩
 ·have:aP (A.fr).ow=aP A.ow++ax (vn (A.nr -1)):=by show aP (A.ow++[A.nr -1])=_;simp;rfl
  rw[this,←ol];exact hgo'
 ·have:(A.fr).eg.map rC=A.eg.map rC++[[]]:=by show(A.eg++[[]]).map rC=_;simp;rfl
  rw[this]
  have:=hR.snoc (GB.nil 47 3)
  rwa [List.append_nil]at this
 ·refine hS.perm ?_
  have p1:=bB XM go' ((gn++(gs++gp))++(R++L))
  have p2:=bB (go'++XM) (gn++(gs++gp)) (R++L)
  simp only[List.append_assoc]at p1 p2
  have p3:=p1.trans p2
  simp only[List.cons_append,List.append_assoc]
  rw[ol]at*
  exact p3.cons _
end
section
variable{H0 H:ae}{L M:List aC}{S:List Nat}{F:Nat→Prop}{A:At}
theorem U6:∀{l:List Nat}{x:Nat},x∈l→x≤l.sum
 |y::l,x,h=>by
  rw[List.sum_cons]
  rcases List.mem_cons.1 h with rfl|h
  ·omega
  ·have:=U6 h
   omega
theorem Qv{ra fr:Nat}{e:Ed}(hB:Bd ra A M)(hS:SH S H0 H (M++L))(hf:fr<A.ns)(hl:A.eg.length=A.ns)(ht:A.tot≤1000000):ak Pg X 119 [vn fr,.agg ⟨[vn e.1,vn e.2.1,vn e.2.2]⟩,pr ra] H fun v H'=>∃M',Bd ra (A.pu fr e) M'∧SH S H0 H' (M'++L):=by
 obtain⟨nv,sv,pv,ov,ev,evs,gn,gs,gp,go,ge,R,rfl,hgn,hgs,J5,hgo,hge,hR⟩:=hB
 have hev:evs.length=A.ns:=by rw[←hR.len,List.length_map,hl]
 rcases hge with⟨_,h0,_⟩|⟨rE,n,aF,rfl,hn,rfl⟩
 ·rw[h0]at hev;simp at hev;omega
 obtain rfl:n=A.ns:=by omega
 obtain⟨A',gb,B,rfl,hgb,hput⟩:=hR.at fr aa
 have hE:(A.eg.map rC)[fr]?.getD []=rC (A.E fr):=by
  unfold At.E
  rw[List.getElem?_map,List.getElem?_eq_getElem (show fr<A.eg.length by omega)];rfl
 rw[hE]at hgb
 have hEl:(A.E fr).length≤1000000:=by
  have:(A.E fr).length≤A.tot:=by
   unfold At.E At.tot
   rw[List.getElem?_eq_getElem (show fr<A.eg.length by omega)]
   exact U6 (List.mem_map.2 ⟨_,List.getElem_mem _,rfl⟩)
  omega
 have hv0:(evs++aF)[fr]?=some evs[fr]:=by rw[List.getElem?_append_left aa];exact List.getElem?_eq_getElem aa
 have hS:=hS.perm (L':=(ra,26,[nv,sv,pv,ov,.slice (some ⟨rE,0,none⟩) A.ns (aK 1),vn A.ty])::(rE,45,evs++aF)::(gb++((gn++(gs++(gp++go)))++(A'++(B++L))))) (by
  have p1:=bB (gn++(gs++(gp++go))) [(rE,45,evs++aF)] (A'++(gb++(B++L)))
  have p2:=bB ((gn++(gs++(gp++go)))++A') gb (B++L)
  simp only[List.append_assoc,List.cons_append,List.nil_append]at p1 p2⊢
  exact(p1.trans (p2.cons _)).cons _)
 refine ce [0,1,2,4] ?_;refine tl ?_
 refine hS.box rfl fun H1 re hS=>?_
 have hS:SH S H0 H1 ((re,47,[vn e.1,vn e.2.1,vn e.2.2])::(ra,26,[nv,sv,pv,ov,.slice (some ⟨rE,0,none⟩) A.ns (aK 1),vn A.ty])::(rE,45,evs++aF)::(gb++((gn++(gs++(gp++go)))++(A'++(B++L))))):=hS
 repeat(first|(refine hS.az ?_)|(refine hS.iG ?_))
 refine hS.XI hf hv0 ?_
 repeat(first|(refine hS.az ?_)|(refine hS.mW ?_))
 refine hS.S8 rfl rfl rfl aa fun H2 rx hS ji=>?_
 have hS0:=hS
 have hS:=(hS.to (cs':=[vn e.1,vn e.2.1,vn e.2.2]) rfl).perm (L':=(rx,47,[vn e.1,vn e.2.1,vn e.2.2])::(gb++([(re,47,[vn e.1,vn e.2.1,vn e.2.2]),(ra,26,[nv,sv,pv,ov,.slice (some ⟨rE,0,none⟩) A.ns (aK 1),vn A.ty]),(rE,45,evs++aF)]++((gn++(gs++(gp++go)))++(A'++(B++L)))))) ((bB [_,_,_] gb _).cons _)
 refine hgb.Co hS aa rfl rfl (by rw[Bp];omega) fun v' H3 bJ hgb' hS _ _ kV=>?_
 have hS:=hS.perm (bB bJ [_,_,_] _)
 simp only[List.cons_append,List.nil_append]at hS
 have hS1:=hS
 obtain⟨va,vl,vc,rfl⟩:=hgb'.sl
 refine hS.Qr hf (by rw[List.length_append];omega) (kk:=fun H4 hS=>?_)
 have n1:re≠ra:=hS.nq 0 1 rfl rfl aa
 have n2:re≠rE:=hS.nq 0 2 rfl rfl aa
 have n3:ra≠rE:=hS.nq 1 2 rfl rfl aa
 refine splitK (fun K hK=>?_) ?_
 ·have r1:∀{o n:Nat}{a b:ae},o +n≤3→fQ ⟨2,0,0,0,hM H1 H2,H3⟩ ⟨4,re,o,n,a,b⟩=true:=fun h=>iV (hS0.get 1 rfl) ((hS1.get 0 rfl).dL rfl) h (yx ⟨_,_,_,rfl⟩)
  have r2:∀{a b:ae},fQ ⟨2,0,0,0,hM H1 H2,H3⟩ ⟨4,ra,4,1,a,b⟩=true:=fun{a b}=>iV (hS0.get 2 rfl) ((hS1.get 1 rfl).dL rfl) (by show 4 +1≤6;omega) (by
   intro v hv
   have hv:v∈[Value.slice (some ⟨rE,0,none⟩) A.ns (aK 1)]:=hv
   rw[List.mem_singleton]at hv
   subst hv
   exact jy _ _ _ fun x h=>by cases h;rfl)
  have r3:∀{a b:ae},fQ ⟨2,0,0,0,hM H1 H2,H3⟩ ⟨4,rE,fr,1,a,b⟩=true:=fun{a b}=>iV (hS0.get 3 rfl) ((hS1.get 2 rfl).dL rfl) (by rw[List.length_append];omega) (by
   intro v hv
   have:v=evs[fr]:=by
    have h1:((evs++aF).drop fr).take 1=[evs[fr]]:=by
     rw[List.drop_eq_getElem_cons (by rw[List.length_append];omega),List.take_succ_cons,List.take_zero,List.getElem_append_left aa]
    rw[h1,List.mem_singleton]at hv
    exact hv
   subst this
   exact uw hR _ (List.getElem_mem _))
  simp only[ji,aN,aQ]
  rcases kV with e|e<;>rw[e]<;>apply Gh (A:=hM H1 H2) (B:=H3) (a:=re) (b:=ra) (c:=rE) n1 n2 n3 (by rfl) (by kernel_rfl) (by kernel_rfl) hK<;>repeat' apply And.intro
  all_goals first|exact trivial|(intro h;cases h;done)|exact fun _=>⟨rfl,rfl⟩|exact fun _=>r1 aa|exact fun _=>r2|exact fun _=>r3
 refine rn ?_;refine⟨(ra,26,[nv,sv,pv,ov,.slice (some ⟨rE,0,none⟩) A.ns (aK 1),vn A.ty])::(gn++(gs++(gp++(go++([(rE,45,evs.set fr (.slice va vl vc)++aF)]++(A'++(bJ++B))))))),⟨nv,sv,pv,ov,_,evs.set fr (.slice va vl vc),gn,gs,gp,go,_,A'++(bJ++B),rfl,hgn,hgs,J5,hgo,.inr ⟨rE,A.ns,aF,rfl,by rw[List.length_set];omega,rfl⟩,?_⟩,?_⟩
 ·have:=hput (.slice va vl vc) (rC (A.E fr++[e])) bJ (by rw[GY];exact hgb')
  have e2:(A.pu fr e).eg.map rC=(A.eg.map rC).set fr (rC (A.E fr++[e])):=List.map_set
  rw[e2];exact this
 ·have hS:=SH.drop (A:=[_]) hS
  rw[List.set_append_left _ _ aa]at hS
  refine hS.perm (List.Perm.symm ?_)
  have p1:=bB (gn++(gs++(gp++go))) [(rE,45,evs.set fr (.slice va vl vc)++aF)] (A'++(bJ++(B++L)))
  have p2:=bB ((gn++(gs++(gp++go)))++A') bJ (B++L)
  simp only[List.append_assoc,List.cons_append,List.nil_append]at p1 p2⊢
  exact(p1.trans (p2.cons _)).cons _
theorem Qw{ra:Nat}(hB:Bd ra A M)(hS:SH S H0 H (M++L))(hp:1≤A.nr)(hn:A.nr≤1000)(hs:A.ns≤100000)(hl:A.eg.length=A.ns):ak Pg X 118 [pr ra] H fun v H'=>v=vn A.ns∧∃M',Bd ra A.fr M'∧SH (M.map (·.1)) H H' M':=by
 refine ak.mono (My (L:=[]) hB ((SH.own hS).cast (List.append_nil M).symm) hp hn hs hl) ?_
 rintro v H' ⟨rfl,M',h1,h2⟩
 rw[List.append_nil]at h2
 exact⟨rfl,M',h1,h2⟩
theorem G7{ra fr:Nat}{e:Ed}(hB:Bd ra A M)(hS:SH S H0 H (M++L))(hf:fr<A.ns)(hl:A.eg.length=A.ns)(ht:A.tot≤1000000):ak Pg X 119 [vn fr,.agg ⟨[vn e.1,vn e.2.1,vn e.2.2]⟩,pr ra] H fun v H'=>∃M',Bd ra (A.pu fr e) M'∧SH (M.map (·.1)) H H' M':=by
 refine ak.mono (Qv (L:=[]) hB ((SH.own hS).cast (List.append_nil M).symm) hf hl ht) ?_
 rintro v H' ⟨M',h1,h2⟩
 rw[List.append_nil]at h2
 exact⟨M',h1,h2⟩
end
section
variable{H0 H:ae}{L M:List aC}{S:List Nat}{K:Nat→Prop}{A:At}
structure WD where
 g:Nat
 s:Nat
 w:Nat
 f:Nat
 fe:Nat
 lo:Nat
 p:Nat
 l:Nat
 ra:Nat
 na:Option Addr
 nc:Nat
 nn:Nat
 rs:Nat
 rl:Nat
 bY:List Value
 lcs:List Value
 ws:List Nat
 kd:Nat→Int
 zs:Nat→List Nat
 tn:Nat
 lw:Nat
abbrev WD.ps(d:WD):List Value:=[pr d.g,pr d.s,pr d.w,pr d.f,pr d.fe,pr d.lo,pr d.p,pr d.l]
abbrev WD.wv(d:WD):Value:=.func (.func 160) ⟨[]⟩ ⟨d.ps⟩
abbrev WD.fev(d:WD):Value:=.func (.func 158) ⟨[]⟩ ⟨[pr d.p]⟩
abbrev WD.lov(d:WD):Value:=.func (.func 159) ⟨[]⟩ ⟨[pr d.f,pr d.fe,pr d.w]⟩
abbrev WD.fv(d:WD):Value:=.func (.func 118) ⟨[]⟩ ⟨[pr d.ra]⟩
abbrev WD.pv(d:WD):Value:=.func (.func 119) ⟨[]⟩ ⟨[pr d.ra]⟩
structure WE(K:Nat→Prop)(d:WD)(H:ae):Prop where
 hK:∀r,K r→r<H.next
 g:K d.g∧H.cell d.g 1=some (.slice d.na d.nn d.nc)
 s:K d.s∧H.cell d.s 0=some (.slice (some ⟨d.rs,0,none⟩) d.nn d.nn)
 w:K d.w∧H.cell d.w 0=some d.wv
 f:K d.f∧H.cell d.f 0=some d.fv
 fe:K d.fe∧H.cell d.fe 0=some d.fev
 lo:K d.lo∧H.cell d.lo 0=some d.lov
 p:K d.p∧H.cell d.p 0=some d.pv
 l:K d.l∧H.cell d.l 0=some (.slice (some ⟨d.rl,0,none⟩) d.nn d.nn)
 nd:eO K 145 H d.na d.nn 5 d.bY
 kid:Ov K H d.nn d.bY d.kd d.zs
 st:eO K 3 H (some ⟨d.rs,0,none⟩) d.nn 1 (aP d.ws)
 lf:eO K 47 H (some ⟨d.rl,0,none⟩) d.nn 3 d.lcs
variable{d:WD}
theorem WE.stay{H':ae}(h:WE K d H)(hx:kP S H H')(hS:∀r∈S,¬K r):WE K d H':=by
 have c:∀{r o v},K r∧H.cell r o=some v→K r∧H'.cell r o=some v:=fun{r o v}⟨h1,h2⟩=>⟨h1,(fP (hx.obj r (h.hK r h1) fun hr=>hS r hr h1) o).trans h2⟩
 exact⟨fun r hr=>Nat.lt_of_lt_of_le (h.hK r hr) hx.next,c h.g,c h.s,c h.w,c h.f,c h.fe,c h.lo,c h.p,c h.l,h.nd.stay hx fun q hq=>.inl (hS q hq),fun i hi=>let⟨a,c,t,xa,xn,xc,at',h1,h2,h3⟩:=h.kid i hi;⟨a,c,t,xa,xn,xc,at',h1,h2.stay hx fun q hq=>.inl (hS q hq),h3⟩,h.st.stay hx fun q hq=>.inl (hS q hq),h.lf.stay hx fun q hq=>.inl (hS q hq)⟩
theorem WE.n(h:WE K d H):WE K d (hN H):=⟨h.hK,h.g,h.s,h.w,h.f,h.fe,h.lo,h.p,h.l,h.nd,h.kid,h.st,h.lf⟩
structure RY(K:Nat→Prop)(d:WD)(S:List Nat)(H0 H:ae)(M L:List aC)(A:At):Prop where
 we:WE K d H
 nk:∀r∈M.map (·.1),¬K r
 bd:Bd d.ra A M
 sh:SH S H0 H (M++L)
 bu:At.Bu d.lw A
 ty:A.ty=d.tn
 pos:1≤A.nr
 few:A.nr≤1000
variable{A':At}{k c:Nat}{H':ae}{M':List aC}
theorem RY.step(h:RY K d S H0 H M L A)(hB:Bd d.ra A' M')(hS:SH (M.map (·.1)) H H' M')(g:At.Gw A A' k c)(hu:At.Bu d.lw A'):RY K d S H0 H' M' L A':=
 ⟨h.we.stay hS.ext h.nk,fun r hr hk=>by
   obtain⟨e,he,rfl⟩:=List.mem_map.1 hr
   rcases(hS.lo e he).1 with h1|h1
   ·exact h.nk _ h1 hk
   ·have:=h.we.hK _ hk;omega,hB,SH.frame h.sh hS,hu,g.ty.trans h.ty,by rw[g.nr];exact h.pos,by rw[g.nr];exact h.few⟩
theorem RY.U7(h:RY K d S H0 H M L A)(hB:Bd d.ra A' M')(hS:SH (M.map (·.1)) (hN H) H' M')(g:At.Gw A A' k c)(hu:At.Bu d.lw A'):RY K d S H0 (hM H H') M' L A':=
 ⟨h.we.stay hS.ext.draw h.nk,fun r hr hk=>by
   obtain⟨e,he,rfl⟩:=List.mem_map.1 hr
   rcases(hS.lo e he).1 with h1|h1
   ·exact h.nk _ h1 hk
   ·have h2:=h.we.hK _ hk
    have h1:H.next≤e.1:=h1
    omega,hB,SH.Tq h.sh hS,hu,g.ty.trans h.ty,by rw[g.nr];exact h.pos,by rw[g.nr];exact h.few⟩
section steps
variable{Kp:Value→ae→Prop}{a b:Nat}
theorem RY.fresh(h:RY K d S H0 H M L A)(hs:A.ns≤100000)(kk:∀H' M' A',RY K d S H0 H' M' L A'→At.Gw A A' 1 0→A'.cur A.ns→Kp (vn A.ns) H'):eG Pg X (Dy d.fv) [] H Kp:=by
 show ak Pg X 118 [pr d.ra] H Kp
 refine ak.mono (Qw h.bd h.sh h.pos h.few hs h.bu.pz) ?_
 rintro v H' ⟨rfl,M',h1,h2⟩
 exact kk H' M' _ (h.step h1 h2 (At.Gw.fr A) (h.bu.fr h.pos)) (At.Gw.fr A) (At.UO A)
theorem Du(hW:WE K d H)(hB:Bd d.ra A M)(hS:SH S H0 H (M++L))(ha:a<A.ns)(hl:A.eg.length=A.ns)(ht:A.tot≤1000000):ak Pg X 158 [vn a,vn b,pr d.p] H fun v H'=>∃M',Bd d.ra (A.pu a (0,0,b)) M'∧SH (M.map (·.1)) H H' M':=by
 refine ce [0,1,2] ?_;refine tl ?_
 refine ME.ld hW.p.2 ?_
 refine PU.b3 rfl ?_
 show ak Pg X 119 [vn a,_,pr d.ra] H _
 refine ak.mono (G7 (e:=(0,0,b)) hB hS ha hl ht) ?_
 rintro v H' h
 refine rn ?_;exact h
theorem aaR(lw ty b:Nat):At.Zp lw ty (0,0,b):=.inl rfl
theorem RY.free(h:RY K d S H0 H M L A)(ha:A.cur a)(hb:A.cur b)(ht:A.tot≤1000000)(kk:∀v H' M' A',RY K d S H0 H' M' L A'→At.Gw A A' 0 1→Kp v H'):eG Pg X (Dy d.fev) [vn a,vn b] H Kp:=by
 show ak Pg X 158 [vn a,vn b,pr d.p] H Kp
 refine ak.mono (Du h.we h.bd h.sh ha.1 h.bu.pz ht) ?_
 rintro v H' ⟨M',h1,h2⟩
 exact kk v H' M' _ (h.step h1 h2 (At.Gw.pu h.bu.pz ha.1 _) (h.bu.puC (e:=(0,0,b)) ha hb (aaR ..))) (At.Gw.pu h.bu.pz ha.1 _)
theorem RY.Zu(h:RY K d S H0 H M L A)(ha:A.cur a)(hb:A.cur b)(ht:A.tot≤1000000)(kk:∀v H1 M' A',RY K d S H0 (hM H H1) M' L A'→At.Gw A A' 0 1→kP (M.map (·.1)) (hN H) H1→Kp v H1):eG Pg X (Dy d.fev) [vn a,vn b] (hN H) Kp:=by
 show ak Pg X 158 [vn a,vn b,pr d.p] (hN H) Kp
 refine ak.mono (Du h.we.n h.bd h.sh.mV ha.1 h.bu.pz ht) ?_
 rintro v H' ⟨M',h1,h2⟩
 exact kk v H' M' _ (h.U7 h1 h2 (At.Gw.pu h.bu.pz ha.1 _) (h.bu.puC (e:=(0,0,b)) ha hb (aaR ..))) (At.Gw.pu h.bu.pz ha.1 _) h2.ext
theorem RY.aei{e:Ed}(h:RY K d S H0 H M L A)(ha:A.cur a)(hb:A.cur e.2.2)(he:At.Zp d.lw A.ty e)(ht:A.tot≤1000000)(kk:∀v H1 M' A',RY K d S H0 (hM H H1) M' L A'→At.Gw A A' 0 1→kP (M.map (·.1)) (hN H) H1→Kp v H1):eG Pg X (Dy d.pv) [vn a,.agg ⟨[vn e.1,vn e.2.1,vn e.2.2]⟩] (hN H) Kp:=by
 show ak Pg X 119 [vn a,_,pr d.ra] (hN H) Kp
 refine ak.mono (G7 (e:=e) h.bd h.sh.mV ha.1 h.bu.pz ht) ?_
 rintro v H' ⟨M',h1,h2⟩
 exact kk v H' M' _ (h.U7 h1 h2 (At.Gw.pu h.bu.pz ha.1 _) (h.bu.puC ha hb he)) (At.Gw.pu h.bu.pz ha.1 _) h2.ext
def aaS(d:WD)(i:Nat)(A:At)(M:List aC)(H:ae)(v:Value)(H':ae):Prop:=∃A' M' to c,v=vn to∧Bd d.ra A' M'∧SH (M.map (·.1)) H H' M'∧At.Gw A A' (W d.ws i) c∧c≤2*W d.ws i∧At.Bu d.lw A'∧A'.cur to
def Au(K:Nat→Prop)(d:WD)(i:Nat):Prop:=∀{S:List Nat}{H0 H:ae}{M L:List aC}{A:At}{fr:Nat},RY K d S H0 H M L A→A.ns +W d.ws i≤4000→A.tot +2*W d.ws i≤20000→A.cur fr→ak Pg X 160 (vn i::vn fr::d.ps) H (aaS d i A M H)
theorem RY.way{i fr:Nat}(hw:Au K d i)(h:RY K d S H0 H M L A)(h1:A.ns +W d.ws i≤4000)(h2:A.tot +2*W d.ws i≤20000)(hf:A.cur fr)(kk:∀to H' M' A' c,RY K d S H0 H' M' L A'→At.Gw A A' (W d.ws i) c→c≤2*W d.ws i→A'.cur to→Kp (vn to) H'):eG Pg X (Dy d.wv) [vn i,vn fr] H Kp:=by
 show ak Pg X 160 (vn i::vn fr::d.ps) H Kp
 refine ak.mono (hw h h1 h2 hf) ?_
 rintro v H' ⟨A',M',to,c,rfl,g1,g2,g3,g4,g5,g6⟩
 exact kk to H' M' A' c (h.step g1 g2 g3 g5) g3 g4 g6
theorem RY.n(h:RY K d S H0 H M L A):RY K d S (hN H0) (hN H) M L A:=⟨h.we.n,h.nk,h.bd,h.sh.mV,h.bu,h.ty,h.pos,h.few⟩
theorem RY.aaT{i fr:Nat}(hw:Au K d i)(h:RY K d S H0 H M L A)(h1:A.ns +W d.ws i≤4000)(h2:A.tot +2*W d.ws i≤20000)(hf:A.cur fr)(kk:∀to H1 M' A' c,RY K d S H0 (hM H H1) M' L A'→At.Gw A A' (W d.ws i) c→c≤2*W d.ws i→A'.cur to→kP (M.map (·.1)) (hN H) H1→Kp (vn to) H1):eG Pg X (Dy d.wv) [vn i,vn fr] (hN H) Kp:=by
 show ak Pg X 160 (vn i::vn fr::d.ps) (hN H) Kp
 refine ak.mono (hw h.n h1 h2 hf) ?_
 rintro v H' ⟨A',M',to,c,rfl,g1,g2,g3,g4,g5,g6⟩
 exact kk to H' M' A' c (h.U7 g1 g2 g3 g5) g3 g4 g6 g2.ext
end steps
end
section
variable{H0 H:ae}{L M:List aC}{S:List Nat}{K:Nat→Prop}{A:At}{d:WD}
theorem RY.ext{H1:ae}{L':List aC}(h:RY K d S H0 H M L A)(hx:Ext H H1)(hS:SH S H0 H1 (M++L')):RY K d S H0 H1 M L' A:=⟨h.we.stay hx (fun r hr=>nomatch hr),h.nk,h.bd,hS,h.bu,h.ty,h.pos,h.few⟩
theorem RY.own(h:RY K d S H0 H M L A):RY K d (M.map (·.1)) H H M [] A:=⟨h.we,h.nk,h.bd,(SH.own h.sh).cast (List.append_nil M).symm,h.bu,h.ty,h.pos,h.few⟩
theorem RY.fin(h:RY K d S H0 H M L A):SH S H0 H M:=h.sh.sub (List.sublist_append_left M L)
theorem RY.ac9{H1:ae}{r:Nat}{ty:TypeId}{cs:List Value}(h:RY K d S H0 H M [] A)(hS1:SH [] H H1 [(r,ty,cs)]):RY K d S H0 H1 M [(r,ty,cs)] A:=
 h.ext hS1.ext ((SH.frame (M:=[]) (L:=M) h.fin hS1).perm (List.perm_append_comm (l₁:=[_])))
theorem RY.not{r:Nat}(h:RY K d S H0 H M L A)(hr:K r∨∃e∈L,e.1=r):r<H.next∧r∉M.map (·.1):=by
 rcases hr with hr|⟨e,he,rfl⟩
 ·exact⟨h.we.hK r hr,fun hm=>h.nk r hm hr⟩
 ·refine⟨(h.sh.lo e (List.mem_append_right _ he)).2,fun hm=>?_⟩
  obtain⟨x,hx,e2⟩:=List.mem_map.1 hm
  exact h.sh.apart hx he e2
theorem RY.rd{H3:ae}{r o:Nat}{v:Value}{w:Cl}(h:RY K d S H0 H M L A)(hx:kP (M.map (·.1)) (hN H) H3)(hr:K r∨∃e∈L,e.1=r)(hc:H.cell r o=some v)(hs:gK v v=true)(hw:w.a=H∧w.b=H3):fQ w ⟨4,r,o,1,hh0,hh0⟩=true:=
 Xe hw hx (h.not hr).1 (h.not hr).2 (abE hc) (fun v hv=>by rw[List.mem_singleton]at hv;subst hv;exact hs)
theorem RY.keep{H3:ae}{r o:Nat}{v:Value}(h:RY K d S H0 H M L A)(hx:kP (M.map (·.1)) (hN H) H3)(hr:K r∨∃e∈L,e.1=r)(hc:H.cell r o=some v):(hM H H3).cell r o=some v:=
 (fP (H':=hM H H3) (hx.obj r (h.not hr).1 (h.not hr).2) o).trans hc
theorem G8{l:List Nat}{g:Nat}:gK (.func (.func g) ⟨[]⟩ ⟨l.map pr⟩) (.func (.func g) ⟨[]⟩ ⟨l.map pr⟩)=true:=TA g fun v hv=>by
 obtain⟨r,_,rfl⟩:=List.mem_map.1 hv
 exact⟨r,rfl⟩
theorem G9(d:WD):gK d.wv d.wv=true:=G8 (l:=[d.g,d.s,d.w,d.f,d.fe,d.lo,d.p,d.l])
theorem J6(d:WD):gK d.fev d.fev=true:=G8 (l:=[d.p])
theorem XN(d:WD):gK d.pv d.pv=true:=G8 (l:=[d.ra])
theorem aej{F:Nat→Prop}{a:Option Addr}{n c k z:Nat}{zs:List Nat}(h:eO F 3 H a n 1 (aP zs))(hz:zs[k]?=some z)(hk:k<n):∃r o,a=some ⟨r,o,none⟩∧F r∧H.cell r (o +k)=some (vn z)∧sS 1 (.slice a n c) (vn k)=some (.pointer (some ⟨r,o +k,none⟩)):=by
 obtain⟨r,o,h1,h2,h3,o0,rfl,rfl⟩:=h.1.idx (c:=c) (Nat.lt_succ_self 0) hk
 have hc:=h3 0 (vn z) (Nat.lt_succ_self 0) (by rw[Nat.mul_one,Nat.add_zero];exact dZ _ hz)
 rw[Nat.mul_one,Nat.add_zero]at hc
 rw[Nat.mul_one]at h1
 exact⟨r,o0,rfl,(h.2 r o0 rfl aa).1,hc,h1⟩
theorem Fq{i j z n kc xn xc:Nat}{kd at':Int}{ka xa:Option Addr}{t:ByteArray}(hW:WE K d H)(hi:i<d.nn)(he:El d.bY 5 i=[vi kd,.slice ka n kc,.string t,.slice xa xn xc,vi at'])(hj:(d.zs i)[j]?=some z):∃r o,ka=some ⟨r,o,none⟩∧K r∧H.cell r (o +j)=some (vn z)∧sS 1 (.slice ka n kc) (vn j)=some (.pointer (some ⟨r,o +j,none⟩))∧n=(d.zs i).length:=by
 obtain⟨a,c,t',xa',xn',xc',at2,he2,hf,_⟩:=hW.kid i hi
 rw[he]at he2
 cases he2
 obtain⟨r,o,h1,h2,h3,h4⟩:=aej (c:=kc) hf hj (List.getElem?_eq_some_iff.1 hj).1
 exact⟨r,o,h1,h2,h3,h4,rfl⟩
theorem zB{i z fr kc xn xc:Nat}{kd at':Int}{ka xa:Option Addr}{t:ByteArray}(hwz:Au K d z)(h:RY K d S H0 H M L A)(hi:i<d.nn)(he:El d.bY 5 i=[vi kd,.slice ka 1 kc,.string t,.slice xa xn xc,vi at'])(hz:(d.zs i)[0]?=some z)(hn:A.ns +(3 +W d.ws z)≤4000)(ht:A.tot +2*(3 +W d.ws z)≤20000)(hf:A.cur fr):
 ak Pg X 159 [.agg ⟨[vi kd,.slice ka 1 kc,.string t,.slice xa xn xc,vi at']⟩,vn fr,pr d.f,pr d.fe,pr d.w] H fun v H'=>∃A' M' to c,v=vn to∧Bd d.ra A' M'∧SH (M.map (·.1)) H H' M'∧At.Gw A A' (3 +W d.ws z) c∧c≤2*(3 +W d.ws z)∧At.Bu d.lw A'∧A'.cur to:=by
 have h:=h.own
 obtain⟨rk,ok,rfl,_⟩:=Fq h.we hi he hz
 refine ce [0,1,2,3,4,5,7,8,9,10,11] ?_;refine tl ?_
 refine(SH.refl h.sh.wf).box rfl fun H1 rb hS1=>?_
 have hx1:=hS1.ext
 have h:RY K d (M.map (·.1)) H H1 M [(rb,145,[vi kd,.slice (some ⟨rk,ok,none⟩) 1 kc,.string t,.slice xa xn xc,vi at'])] A:=h.ac9 hS1
 have hm:∀{H' M' A'},RY K d (M.map (·.1)) H H' M' [(rb,145,[vi kd,.slice (some ⟨rk,ok,none⟩) 1 kc,.string t,.slice xa xn xc,vi at'])] A'→H'.cell rb 0=some (vi kd)∧H'.cell rb 1=some (.slice (some ⟨rk,ok,none⟩) 1 kc):=fun h=>by
  have hb:=h.sh.bk _ (List.mem_append_right _ (List.mem_cons_self ..))
  exact⟨hb.cell rfl,hb.cell rfl⟩
 refine ME.ld h.we.f.2 ?_
 refine h.fresh aa fun H2 M2 A1 h g1 c1=>?_
 have hf:=hf.gw g1
 have n1:=g1.ns
 have t1:=g1.tt
 refine ME.ld h.we.fe.2 ?_
 refine h.free hf c1 aa fun _ H3 M3 A2 h g2=>?_
 have g:=g1.trans g2
 have n2:=g2.ns
 have t2:=g2.tt
 refine ME.ld h.we.f.2 ?_
 refine h.fresh aa fun H4 M4 A3 h g3 c3=>?_
 have g:=g.trans g3
 have n3:=g3.ns
 have t3:=g3.tt
 refine ME.ld h.we.f.2 ?_
 refine h.fresh aa fun H5 M5 A4 h g4 c4=>?_
 have g:=g.trans g4
 have n4:=g4.ns
 have t4:=g4.tt
 have cd:=((c1.gw g2).gw g3).gw g4
 have ce:=c3.gw g4
 refine ME.ld h.we.fe.2 ?_
 refine h.free cd c4 aa fun _ H6 M6 A5 h g5=>?_
 have g:=g.trans g5
 have n5:=g5.ns
 have t5:=g5.tt
 have cd:=cd.gw g5
 have ce:=ce.gw g5
 have cb:=c4.gw g5
 refine au ?_
 refine ME.ld (hm h).1 ?_
 refine au ?_
 have tl:∀bk,A5.cur bk→∀{x0 x1 eP},aT Pg X (sub Gj [1,1,1,1,1,1,1,1]) (D5 x0 x1 (pr d.f) (pr d.fe) (pr d.w) (pr rb) (vi 0) (vn A.ns) (vn A2.ns) (vn A3.ns) (vn bk) eP H6) (cK Pg [.tmp 7] fun v H'=>∃A' M' to c,v=vn to∧Bd d.ra A' M'∧SH (M.map (·.1)) H H' M'∧At.Gw A A' (3 +W d.ws z) c∧c≤2*(3 +W d.ws z)∧At.Bu d.lw A'∧A'.cur to):=by
  intro bk cbk x0 x1 eP
  refine tl ?_
  refine ME.ld (H:=hN H6) h.we.fe.2 ?_
  simp only[aZ h.sh.wf]
  refine ME.ld (H:=hN H6) h.we.w.2 ?_
  simp only[aZ h.sh.wf,PP]
  refine ME.ld (H:=hN H6) (hm h).2 ?_
  simp only[aZ h.sh.wf]
  obtain⟨rk',ok',e1,hKr,hkc,hid,_⟩:=Fq h.we hi he hz
  cases e1
  refine PU.of hid ?_
  refine ME.ld (H:=hN H6) hkc ?_
  simp only[aZ h.sh.wf]
  have h6:=h
  refine h.aaT hwz aa aa cb fun to H7 M7 A7 c7 h g7 b7 cto hx7=>?_
  have n7:=g7.ns
  have t7:=g7.tt
  have g:=g.trans g7
  refine h.Zu cto (cbk.gw g7) aa fun v8 H8 M8 A8 h8 g8 DD=>?_
  have n8:=g8.ns
  have t8:=g8.tt
  have g:=g.trans g8
  refine(show∀K:Prop,K→_∧K from fun Kz hK=>?_) _ ?_
  ·have rd:∀{r o v},(K r∨∃e∈[((rb,145,[vi kd,.slice (some ⟨rk,ok,none⟩) 1 kc,.string t,.slice xa xn xc,vi at']):aC)],e.1=r)→H6.cell r o=some v→gK v v=true→∀w:Cl,((w.a=H6∧w.b=H7)∨(w.a=hM H6 H7∧w.b=H8))→fQ w ⟨4,r,o,1,hh0,hh0⟩=true:=by
    intro r o v hr hc hs w hw
    rcases hw with hw|hw
    ·exact h6.rd hx7 hr hc hs hw
    ·exact h.rd DD hr (h6.keep hx7 hr hc) hs hw
   have r1:=rd (.inl h6.we.fe.1) h6.we.fe.2 (J6 d)
   have r2:=rd (.inl h6.we.w.1) h6.we.w.2 (G9 d)
   have r3:=rd (.inr ⟨_,List.mem_cons_self ..,rfl⟩) (hm h6).2 (jy _ _ _ fun x h=>by cases h;rfl)
   have r4:=rd (.inl hKr) hkc (qg _ _)
   simp only[aN]
   rcases qU H6 H7 with e|e<;>rw[e]<;>rcases qU (hM H6 H7) H8 with e|e<;>rw[e]<;>apply Gi (T:=fun w=>(w.a=H6∧w.b=H7)∨(w.a=hM H6 H7∧w.b=H8)) (by kernel_rfl) (by kernel_rfl) hK<;>repeat' apply And.intro
   all_goals first|exact trivial|(intro h;cases h;done)|exact fun _=>.inl ⟨rfl,rfl⟩|exact fun _=>.inr ⟨rfl,rfl⟩|exact fun _=>r1|exact fun _=>r2|exact fun _=>r3|exact fun _=>r4
  refine ME.ld h8.we.fe.2 ?_
  refine h8.free ((cd.gw g7).gw g8) ((ce.gw g7).gw g8) aa fun _ H9 M9 A9 h9 g9=>?_
  have g:=g.trans g9
  have n9:=g9.ns
  have t9:=g9.tt
  refine rr ?_;exact⟨A9,M9,A2.ns,_,rfl,h9.bd,(h9.sh.sub (List.sublist_append_left M9 _)),g.cast aa rfl,aa,h9.bu,((ce.gw g7).gw g8).gw g9⟩
 refine ah (fun hc=>?_) (fun hc=>?_)
 ·exact tl _ cd
 ·exact tl _ ce
end
section
variable{H0 H:ae}{L M:List aC}{S:List Nat}{K:Nat→Prop}{A:At}{d:WD}
theorem Fs{ws:List Nat}{kd:Int}{l:List Nat}{k z:Nat}(hz:l[k]?=some z):ig ws kd (l.take (k +1))=ig ws kd (l.take k) +(W ws z +AR kd):=by
 unfold ig
 rw[List.take_add_one,hz]
 show(List.map _ (_++[_])).sum=_
 rw[List.map_append,List.sum_append]
 rfl
theorem Oz(ws:List Nat)(kd:Int)(l:List Nat)(k:Nat):ig ws kd (l.take k)≤ig ws kd l:=by
 have:ig ws kd l=ig ws kd (l.take k) +ig ws kd (l.drop k):=by
  unfold ig
  rw[←List.sum_append,←List.map_append,List.take_append_drop]
 omega
structure WQ(d:WD):Prop where
 nn:d.nn≤4000
 sz:∀j,j<d.nn→yw d.kd d.zs d.ws j
 lf:∀j,j<d.nn→kM d.tn d.lw (El d.lcs 3 j)
theorem WE.lM{z:Nat}{Kp:Value→Value→ae→Prop}(hW:WE K d H)(hz:z<d.nn)(kk:∀p,Kp p (vn (W d.ws z)) H):PU (sS 1 (.slice (some ⟨d.rs,0,none⟩) d.nn d.nn) (vn z)) fun p=>ME (Go.Ae.lM none p H) (Kp p):=by
 have hl:d.ws.length=d.nn:=by have:=hW.st.1.1;simpa using this
 refine hW.st.ix hz ?_ kk
 rw[List.getElem?_map,List.getElem?_eq_getElem (show z<d.ws.length by omega)]
 show _=some (vn (d.ws[z]?.getD 0))
 rw[List.getElem?_eq_getElem (show z<d.ws.length by omega)];rfl
theorem U8{i fr rb:Nat}{cs:List Value}(hQ:WQ d)(h:RY K d (M.map (·.1)) H0 H M [(rb,145,cs)] A)(hi:i<d.nn)(hn:A.ns +1≤4000)(ht:A.tot +2≤20000)(hf:A.cur fr){b_ bQ bU dJ jc nT x20 oQ Af qi x24 x25 x32 DC pN x38 VQ VS x66:Value}{eP:List (Nat×Value)}{Q:Value→ae→Prop}
 (kk:∀A' M' to c H',Bd d.ra A' M'→SH (M.map (·.1)) H0 H' M'→At.Gw A A' 1 c→c≤2→At.Bu d.lw A'→A'.cur to→Q (vn to) H'):
 aT Pg X (sub dN [1,1,1]) (jO (vn i) (vn fr) (pr d.g) (pr d.s) (pr d.w) (pr d.f) (pr d.fe) (pr d.lo) (pr d.p) (pr d.l) b_ bQ bU dJ jc nT x20 oQ Af qi x24 x25 x32 DC pN x38 VQ VS x66 eP H) (cK Pg [.tmp 12] Q):=by
 refine tl ?_
 refine ME.ld h.we.f.2 ?_
 refine h.fresh aa fun H1 M1 A1 h g1 c1=>?_
 have n1:=g1.ns
 have t1:=g1.tt
 refine ME.ld (H:=hN H1) h.we.p.2 ?_
 simp only[aZ h.sh.wf]
 refine ME.ld (H:=hN H1) h.we.l.2 ?_
 simp only[aZ h.sh.wf]
 obtain⟨r,o,e1,e2,e3,o0,e4,_⟩:=h.we.lf.1.idx (c:=d.nn) aa hi
 cases e4
 obtain⟨k1,a1,hle,hlp⟩:=hQ.lf i hi
 have cell:∀f x,f<3→[vn k1,vn a1,vn 0][f]?=some x→H1.cell d.rl (o +f)=some x:=fun f x hf3 hx=>by
  refine e3 f x hf3 ?_
  have:=congrArg (fun l=>l[f]?) hle
  simp only[jv,if_pos hf3]at this
  rw[this];exact hx
 have hKl:K d.rl:=(h.we.lf.2 d.rl 0 rfl aa).1
 refine PU.of e1 ?_
 refine au ?_
 refine ME.ld (H:=hN H1) (by have:=cell 0 _ aa rfl;rwa [Nat.add_zero]at this) ?_
 simp only[aZ h.sh.wf]
 refine ME.ld (H:=hN H1) h.we.l.2 ?_
 simp only[aZ h.sh.wf]
 refine PU.of e1 ?_
 refine au ?_
 refine ME.ld (H:=hN H1) (cell 1 _ aa rfl) ?_
 simp only[aZ h.sh.wf]
 refine PU.b3 rfl ?_
 have h1:=h
 refine h.aei (e:=(k1,a1,A.ns)) (hf.gw g1) c1 (by
  unfold At.Zp
  rw[h.ty]
  rcases hlp with hlp|⟨p1,p2⟩|⟨p1,p2⟩
  ·exact .inl hlp
  ·exact .inr (.inl ⟨p1,p2⟩)
  ·exact .inr (.inr ⟨p1,p2⟩)) aa fun v H2 M2 A2 h g2 hx2=>?_
 have n2:=g2.ns
 have t2:=g2.tt
 refine(show∀K:Prop,K→_∧K from fun Kz hK=>?_) _ ?_
 ·have rd:∀{r o v},K r→H1.cell r o=some v→gK v v=true→∀w:Cl,(w.a=H1∧w.b=H2)→fQ w ⟨4,r,o,1,hh0,hh0⟩=true:=fun hr hc hs w hw=>h1.rd hx2 (.inl hr) hc hs hw
  have r1:=rd h1.we.p.1 h1.we.p.2 (XN d)
  have r2:=rd h1.we.l.1 h1.we.l.2 (jy _ _ _ fun x h=>by cases h;rfl)
  have r3:=rd hKl (by have:=cell 0 _ aa rfl;rwa [Nat.add_zero]at this) (qg _ _)
  have r4:=rd hKl (cell 1 _ aa rfl) (qg _ _)
  simp only[aN]
  rcases qU H1 H2 with e|e<;>rw[e]<;>apply Gi (T:=fun w=>w.a=H1∧w.b=H2) (by kernel_rfl) (by kernel_rfl) hK<;>repeat' apply And.intro
  all_goals first|exact trivial|(intro h;cases h;done)|exact fun _=>⟨rfl,rfl⟩|exact fun _=>r1|exact fun _=>r2|exact fun _=>r3|exact fun _=>r4
 refine rr ?_;exact(kk A2 M2 A.ns _ _ h.bd (h.sh.sub (List.sublist_append_left M2 _)) (g1.trans g2) aa h.bu (c1.gw g2))
end
section
variable{H0 H:ae}{L M:List aC}{S:List Nat}{K:Nat→Prop}{A:At}{d:WD}
theorem Ov.row{F:Nat→Prop}{nn i:Nat}{bY:List Value}{kd:Nat→Int}{zs:Nat→List Nat}(h:Ov F H nn bY kd zs)(hi:i<nn):∃(a:Option Addr)(c:Nat)(t:ByteArray)(xa:Option Addr)(xn xc:Nat)(at':Int),El bY 5 i=[vi (kd i),.slice a (zs i).length c,.string t,.slice xa xn xc,vi at']∧Dc (kd i) (zs i).length∧(∀z∈zs i,z<i)∧(zs i).length≤20001:=let⟨a,c,t,xa,xn,xc,at',h1,_,h3,h4,_,h6⟩:=h i hi;⟨a,c,t,xa,xn,xc,at',h1,h3,h4,h6⟩
section
variable{i fr rb kc xn xc:Nat}{at':Int}{ka xa:Option Addr}{t:ByteArray}{Q:Value→ae→Prop}
theorem XO(hQ:WQ d)(ih:∀z,z<i→Au K d z)(h:RY K d (M.map (·.1)) H0 H M [(rb,145,[vi (d.kd i),.slice ka (d.zs i).length kc,.string t,.slice xa xn xc,vi at'])] A)(hi:i<d.nn)(h1:d.kd i=1)(he:El d.bY 5 i=[vi (d.kd i),.slice ka (d.zs i).length kc,.string t,.slice xa xn xc,vi at'])(hz:∀z∈d.zs i,z<i)(hzl:(d.zs i).length≤20001)
 (hn:A.ns +ig d.ws (d.kd i) (d.zs i)≤4000)(ht:A.tot +2*ig d.ws (d.kd i) (d.zs i)≤20000)(hf:A.cur fr){b_ bU dJ jc nT x20 oQ Af qi x24 x25 x32 VQ VS x66:Value}{eP:List (Nat×Value)}
 (kk:∀A' M' to c H',Bd d.ra A' M'→SH (M.map (·.1)) H0 H' M'→At.Gw A A' (ig d.ws (d.kd i) (d.zs i)) c→c≤2*ig d.ws (d.kd i) (d.zs i)→At.Bu d.lw A'→A'.cur to→Q (vn to) H'):
 aT Pg X (.loop (sub dN [1,1,0,1,0,1,0,0,1,0,0])) (jO (vn i) (vn fr) (pr d.g) (pr d.s) (pr d.w) (pr d.f) (pr d.fe) (pr d.lo) (pr d.p) (pr d.l) b_ (pr rb) bU dJ jc nT x20 oQ Af qi x24 x25 x32 (.slice ka (d.zs i).length kc) (vn (d.zs i).length) (vn 0) VQ VS x66 eP H) (iA 1 (kN Pg X (sub dN [1,1,0,1,0,1,0,1]) (iA 0 (kN Pg X (sub dN [1,1,1]) (cK Pg [.tmp 12] Q))))):=by
 have hal:AR (d.kd i)=0:=by unfold AR;rw[if_neg aa]
 refine Oc 1 15 38 (I:=fun m x1 bU x38 H'=>∃k fk A' M' c,x38=vn k∧k +m=(d.zs i).length∧x1=vn fk∧RY K d (M.map (·.1)) H0 H' M' [(rb,145,[vi (d.kd i),.slice ka (d.zs i).length kc,.string t,.slice xa xn xc,vi at'])] A'∧At.Gw A A' (ig d.ws (d.kd i) ((d.zs i).take k)) c∧c≤2*ig d.ws (d.kd i) ((d.zs i).take k)∧A'.cur fk) ?_ (d.zs i).length ⟨0,fr,A,M,0,rfl,aa,rfl,h,(At.Gw.refl A).cast (by simp[ig]) rfl,Nat.zero_le _,hf⟩
 clear h hf
 rintro m x1 bU x38 eP H1 ⟨k,fk,A1,M1,c,rfl,hkm,rfl,h,g,hc,hf⟩
 refine tl ?_
 refine au ?_
 refine ah (fun hc2=>?_) (fun hc2=>?_)
 rotate_left
 ·obtain rfl:k=(d.zs i).length:=by omega
  rw[List.take_length]at g hc
  refine tl ?_
  refine au ?_
  refine rr ?_;exact(kk A1 M1 fk c H1 h.bd (h.sh.sub (List.sublist_append_left M1 _)) g hc h.bu hf)
 have hk:k<(d.zs i).length:=by omega
 have O4:(d.zs i)[k]?=some (d.zs i)[k]:=List.getElem?_eq_getElem hk
 have hzi:=hz _ (List.getElem_mem hk)
 generalize(d.zs i)[k]=z at O4 hzi
 have hks:=Fs (ws:=d.ws) (kd:=d.kd i) O4
 have hkl:=Oz d.ws (d.kd i) (d.zs i) (k +1)
 have n1:=g.ns
 have t1:=g.tt
 obtain⟨r,o,rfl,hKr,hcell,hid,_⟩:=Fq h.we hi he O4
 refine PU.of hid ?_
 refine ME.ld hcell ?_
 refine ME.ld h.we.s.2 ?_
 refine h.we.lM aa fun p=>?_
 refine au ?_
 refine ah (fun hc3=>?_) (fun hc3=>?_)
 ·refine ME.ld h.we.w.2 ?_
  refine h.way (ih z hzi) aa aa hf fun to H2 M2 A2 c2 h g2 hc2' hto=>?_
  refine ay ?_
  exact⟨(d.zs i).length -(k +1),aa,_,_,_,_,_,rfl,k +1,to,A2,M2,c +c2,iC,aa,rfl,h,(g.trans g2).cast aa rfl,aa,hto⟩
 ·refine ay ?_
  exact⟨(d.zs i).length -(k +1),aa,_,_,_,_,_,rfl,k +1,fk,A1,M1,c,iC,aa,rfl,h,g.cast aa rfl,aa,hf⟩
theorem XP{d0 e0:Nat}(hQ:WQ d)(ih:∀z,z<i→Au K d z){A1:At}{c1:Nat}{M1:List aC}(h:RY K d (M.map (·.1)) H0 H M1 [(rb,145,[vi (d.kd i),.slice ka (d.zs i).length kc,.string t,.slice xa xn xc,vi at'])] A1)(g1:At.Gw A A1 2 c1)(hc1:c1≤1)(hd0:A1.cur d0)(he0:A1.cur e0)(hi:i<d.nn)(h1:d.kd i=0)(he:El d.bY 5 i=[vi (d.kd i),.slice ka (d.zs i).length kc,.string t,.slice xa xn xc,vi at'])(hz:∀z∈d.zs i,z<i)(hzl:(d.zs i).length≤20001)
 (hn:A.ns +(2 +ig d.ws (d.kd i) (d.zs i))≤4000)(ht:A.tot +2*(2 +ig d.ws (d.kd i) (d.zs i))≤20000){x1 b_ bQ bU nT x20 oQ Af qi x24 x25 x32 DC pN x38:Value}{eP:List (Nat×Value)}{Q:Value→ae→Prop}
 (kk:∀A' M' to c H',Bd d.ra A' M'→SH (M.map (·.1)) H0 H' M'→At.Gw A A' (2 +ig d.ws (d.kd i) (d.zs i)) c→c≤2*(2 +ig d.ws (d.kd i) (d.zs i))→At.Bu d.lw A'→A'.cur to→Q (vn to) H'):
 aT Pg X (.loop (sub dN [1,1,0,1,0,1,1,1,0,1,1,1,0,1,0,0])) (jO (vn i) x1 (pr d.g) (pr d.s) (pr d.w) (pr d.f) (pr d.fe) (pr d.lo) (pr d.p) (pr d.l) b_ bQ bU (vn d0) (vn e0) nT x20 oQ Af qi x24 x25 x32 DC pN x38 (.slice ka (d.zs i).length kc) (vn (d.zs i).length) (vn 0) eP H) (iA 3 (kN Pg X (sub dN [1,1,0,1,0,1,1,1,0,1,1,1,1]) (iA 0 (kN Pg X (sub dN [1,1,1]) (cK Pg [.tmp 12] Q))))):=by
 have hal:AR (d.kd i)=1:=by unfold AR;rw[if_pos h1]
 refine Oc 19 20 66 (I:=fun m nT x20 x66 H'=>∃k A' M' c,x66=vn k∧k +m=(d.zs i).length∧RY K d (M.map (·.1)) H0 H' M' [(rb,145,[vi (d.kd i),.slice ka (d.zs i).length kc,.string t,.slice xa xn xc,vi at'])] A'∧At.Gw A A' (2 +ig d.ws (d.kd i) ((d.zs i).take k)) c∧c +3≤2*(2 +ig d.ws (d.kd i) ((d.zs i).take k))∧A'.cur d0∧A'.cur e0) ?_ (d.zs i).length ⟨0,A1,M1,c1,rfl,aa,h,g1.cast (by simp[ig]) rfl,aa,hd0,he0⟩
 clear h hd0 he0 g1 hc1
 rintro m nT x20 x66 eP H1 ⟨k,A2,M2,c,rfl,hkm,h,g,hc,hd0,he0⟩
 refine tl ?_
 refine au ?_
 refine ah (fun hc2=>?_) (fun hc2=>?_)
 rotate_left
 ·obtain rfl:k=(d.zs i).length:=by omega
  rw[List.take_length]at g hc
  refine tl ?_
  refine au ?_
  refine rr ?_;exact(kk A2 M2 e0 c H1 h.bd (h.sh.sub (List.sublist_append_left M2 _)) g aa h.bu he0)
 have hk:k<(d.zs i).length:=by omega
 have O4:(d.zs i)[k]?=some (d.zs i)[k]:=List.getElem?_eq_getElem hk
 have hzi:=hz _ (List.getElem_mem hk)
 generalize(d.zs i)[k]=z at O4 hzi
 have hks:=Fs (ws:=d.ws) (kd:=d.kd i) O4
 have hkl:=Oz d.ws (d.kd i) (d.zs i) (k +1)
 have n1:=g.ns
 have t1:=g.tt
 obtain⟨r,o,rfl,hKr,hcell,hid,_⟩:=Fq h.we hi he O4
 refine PU.of hid ?_
 refine ME.ld hcell ?_
 refine ME.ld h.we.f.2 ?_
 refine h.fresh aa fun H2 M2 A3 h g3 cb=>?_
 have n3:=g3.ns
 have t3:=g3.tt
 have g:=g.trans g3
 have hd0:=hd0.gw g3
 have he0:=he0.gw g3
 refine ME.ld h.we.fe.2 ?_
 refine h.free hd0 cb aa fun _ H3 M3 A4 h g4=>?_
 have n4:=g4.ns
 have t4:=g4.tt
 have g:=g.trans g4
 have hd0:=hd0.gw g4
 have he0:=he0.gw g4
 have cb:=cb.gw g4
 refine ME.ld (H:=hN H3) h.we.fe.2 ?_
 simp only[aZ h.sh.wf]
 refine ME.ld (H:=hN H3) h.we.w.2 ?_
 simp only[aZ h.sh.wf]
 have h6:=h
 refine h.aaT (ih z hzi) aa aa cb fun to H4 M4 A5 c5 h g5 b5 cto hx4=>?_
 have n5:=g5.ns
 have t5:=g5.tt
 have g:=g.trans g5
 have hd0:=hd0.gw g5
 have he0:=he0.gw g5
 refine h.Zu cto he0 aa fun v5 H5 M5 A6 h8 g6 hx5=>?_
 have n6:=g6.ns
 have t6:=g6.tt
 have g:=g.trans g6
 refine(show∀K:Prop,K→_∧K from fun Kz hK=>?_) _ ?_
 ·have rd:∀{r o v},K r→H3.cell r o=some v→gK v v=true→∀w:Cl,((w.a=H3∧w.b=H4)∨(w.a=hM H3 H4∧w.b=H5))→fQ w ⟨4,r,o,1,hh0,hh0⟩=true:=by
   intro r o v hr hc hs w hw
   rcases hw with hw|hw
   ·exact h6.rd hx4 (.inl hr) hc hs hw
   ·exact h.rd hx5 (.inl hr) (h6.keep hx4 (.inl hr) hc) hs hw
  have r1:=rd h6.we.fe.1 h6.we.fe.2 (J6 d)
  have r2:=rd h6.we.w.1 h6.we.w.2 (G9 d)
  simp only[aN]
  rcases qU H3 H4 with e|e<;>rw[e]<;>rcases qU (hM H3 H4) H5 with e|e<;>rw[e]<;>apply Gi (T:=fun w=>(w.a=H3∧w.b=H4)∨(w.a=hM H3 H4∧w.b=H5)) (by kernel_rfl) (by kernel_rfl) hK<;>repeat' apply And.intro
  all_goals first|exact trivial|(intro h;cases h;done)|exact fun _=>.inl ⟨rfl,rfl⟩|exact fun _=>.inr ⟨rfl,rfl⟩|exact fun _=>r1|exact fun _=>r2
 refine ay ?_
 exact⟨(d.zs i).length -(k +1),aa,_,_,_,_,_,rfl,k +1,A6,M5,_,iC,aa,h8,g.cast aa rfl,aa,hd0.gw g6,he0.gw g6⟩
end
end
section
variable{H0 H:ae}{L M:List aC}{S:List Nat}{K:Nat→Prop}{A:At}{d:WD}
theorem U9{i z fr rb kc xn xc:Nat}{at':Int}{ka xa:Option Addr}{t:ByteArray}(hwz:Au K d z)(h:RY K d (M.map (·.1)) H0 H M [(rb,145,[vi (d.kd i),.slice ka 1 kc,.string t,.slice xa xn xc,vi at'])] A)(hi:i<d.nn)(h4:d.kd i=4)(he:El d.bY 5 i=[vi (d.kd i),.slice ka 1 kc,.string t,.slice xa xn xc,vi at'])(hz:(d.zs i)[0]?=some z)
 (hn:A.ns +(3 +W d.ws z)≤4000)(ht:A.tot +2*(3 +W d.ws z)≤20000)(hf:A.cur fr){b_ bU dJ jc nT x20 oQ Af qi x24 x25 DC pN x38 VQ VS x66:Value}{eP:List (Nat×Value)}{Q:Value→ae→Prop}(hlk:Az eP 85=.bool false)
 (kk:∀A' M' to c H',Bd d.ra A' M'→SH (M.map (·.1)) H0 H' M'→At.Gw A A' (3 +W d.ws z) c→c≤2*(3 +W d.ws z)→At.Bu d.lw A'→A'.cur to→Q (vn to) H'):
 aT Pg X (sub dN [1,1,0,1,0,1,1,1,1,1]) (jO (vn i) (vn fr) (pr d.g) (pr d.s) (pr d.w) (pr d.f) (pr d.fe) (pr d.lo) (pr d.p) (pr d.l) b_ (pr rb) bU dJ jc nT x20 oQ Af qi x24 x25 (vi (d.kd i)) DC pN x38 VQ VS x66 eP H) (iA 0 (kN Pg X (sub dN [1,1,1]) (cK Pg [.tmp 12] Q))):=by
 obtain⟨rk,ok,rfl,_⟩:=Fq h.we hi he hz
 have hm:∀{H' M' A'},RY K d (M.map (·.1)) H0 H' M' [(rb,145,[vi (d.kd i),.slice (some ⟨rk,ok,none⟩) 1 kc,.string t,.slice xa xn xc,vi at'])] A'→H'.cell rb 1=some (.slice (some ⟨rk,ok,none⟩) 1 kc):=fun h=>by
  have hb:=h.sh.bk _ (List.mem_append_right _ (List.mem_cons_self ..))
  exact hb.cell rfl
 refine tl ?_
 rw[hlk]
 refine au ?_
 refine ah (fun _=>?_) (fun hc=>absurd h4 hc)
 refine ME.ld h.we.f.2 ?_
 refine h.fresh aa fun H1 M1 A1 h g1 cb=>?_
 have n1:=g1.ns
 have t1:=g1.tt
 refine ME.ld h.we.fe.2 ?_
 refine h.free (hf.gw g1) cb aa fun _ H2 M2 A2 h g2=>?_
 have n2:=g2.ns
 have t2:=g2.tt
 have g:=g1.trans g2
 have cb:=cb.gw g2
 refine ME.ld (H:=hN H2) h.we.w.2 ?_
 simp only[aZ h.sh.wf,PP]
 have hmc:=hm h
 refine ME.ld (H:=hN H2) hmc ?_
 simp only[aZ h.sh.wf]
 obtain⟨rk',ok',e1,hKr,hkc,hid,_⟩:=Fq h.we hi he hz
 cases e1
 refine PU.of hid ?_
 refine ME.ld (H:=hN H2) hkc ?_
 simp only[aZ h.sh.wf]
 have h6:=h
 refine h.aaT hwz aa aa cb fun la H3 M3 A3 c3 h g3 b3 cl hx3=>?_
 have n3:=g3.ns
 have t3:=g3.tt
 have g:=g.trans g3
 have cb:=cb.gw g3
 refine(show∀K:Prop,K→_∧K from fun Kz hK=>?_) _ ?_
 ·have rd:∀{r o v},(K r∨∃e∈[((rb,145,[vi (d.kd i),.slice (some ⟨rk,ok,none⟩) 1 kc,.string t,.slice xa xn xc,vi at']):aC)],e.1=r)→H2.cell r o=some v→gK v v=true→∀w:Cl,(w.a=H2∧w.b=H3)→fQ w ⟨4,r,o,1,hh0,hh0⟩=true:=fun hr hc hs w hw=>h6.rd hx3 hr hc hs hw
  have r2:=rd (.inl h6.we.w.1) h6.we.w.2 (G9 d)
  have r3:=rd (.inr ⟨_,List.mem_cons_self ..,rfl⟩) (hm h6) (jy _ _ _ fun x h=>by cases h;rfl)
  have r4:=rd (.inl hKr) hkc (qg _ _)
  simp only[aN]
  rcases qU H2 H3 with e|e<;>rw[e]<;>apply Gi (T:=fun w=>w.a=H2∧w.b=H3) (by kernel_rfl) (by kernel_rfl) hK<;>repeat' apply And.intro
  all_goals first|exact trivial|(intro h;cases h;done)|exact fun _=>⟨rfl,rfl⟩|exact fun _=>r2|exact fun _=>r3|exact fun _=>r4
 refine ME.ld h.we.f.2 ?_
 refine h.fresh aa fun H4 M4 A4 h g4 cd=>?_
 have n4:=g4.ns
 have t4:=g4.tt
 have g:=g.trans g4
 have cl:=cl.gw g4
 have cb:=cb.gw g4
 refine ME.ld h.we.fe.2 ?_
 refine h.free cl cd aa fun _ H5 M5 A5 h g5=>?_
 have n5:=g5.ns
 have t5:=g5.tt
 have g:=g.trans g5
 have cd:=cd.gw g5
 have cb:=cb.gw g5
 refine ME.ld h.we.fe.2 ?_
 refine h.free cd cb aa fun _ H6 M6 A6 h g6=>?_
 have n6:=g6.ns
 have t6:=g6.tt
 have g:=g.trans g6
 have cd:=cd.gw g6
 refine ME.ld h.we.f.2 ?_
 refine h.fresh aa fun H7 M7 A7 h g7 ce=>?_
 have n7:=g7.ns
 have t7:=g7.tt
 have g:=g.trans g7
 have cd:=cd.gw g7
 refine ME.ld h.we.fe.2 ?_
 refine h.free cd ce aa fun _ H8 M8 A8 h g8=>?_
 have n8:=g8.ns
 have t8:=g8.tt
 have g:=g.trans g8
 refine rr ?_;exact(kk A8 M8 A6.ns _ _ h.bd (h.sh.sub (List.sublist_append_left M8 _)) (g.cast aa rfl) aa h.bu (ce.gw g8))
theorem aaU(hQ:WQ d):∀i,i<d.nn→Au K d i:=by
 intro i
 induction i using Nat.strongRecOn with
 |ind i ih=>
  intro hi S H0 H M L A fr h hn ht hf
  have h:=h.own
  obtain⟨ka,kc,t,xa,xn,xc,at',he,hfit,hz,hzl⟩:=h.we.kid.row hi
  have ih:∀z,z<i→Au K d z:=fun z hz=>ih z hz aa
  have hsz:=hQ.sz i hi
  unfold yw at hsz
  have hW:W d.ws i=w_ (d.kd i) +ig d.ws (d.kd i) (d.zs i):=by omega
  refine ce [0,1,2,3,4,5,6,7,8,9,12,13,15,16,17,19,20,21,22,23,24,25,32,36,37,38,64,65,66] ?_;refine tl ?_
  refine au ?_
  refine ME.ld h.we.g.2 ?_
  refine h.we.nd.ixN aa hi he fun p=>?_
  refine(SH.refl h.sh.wf).ns rfl rfl rfl fun H1 rb hS1 _=>?_
  have h:RY K d (M.map (·.1)) H H1 M [(rb,145,[vi (d.kd i),.slice ka (d.zs i).length kc,.string t,.slice xa xn xc,vi at'])] A:=h.ac9 hS1
  have hm:∀{H' M' A'},RY K d (M.map (·.1)) H H' M' [(rb,145,[vi (d.kd i),.slice ka (d.zs i).length kc,.string t,.slice xa xn xc,vi at'])] A'→Bk H' rb 145 [vi (d.kd i),.slice ka (d.zs i).length kc,.string t,.slice xa xn xc,vi at']:=fun h=>h.sh.bk _ (List.mem_append_right _ (List.mem_cons_self ..))
  refine au ?_
  refine ME.ld ((hm h).cell (o:=0) rfl) ?_
  refine au ?_
  have fin:∀A' M' to c H',Bd d.ra A' M'→SH (M.map (·.1)) H H' M'→At.Gw A A' (W d.ws i) c→c≤2*W d.ws i→At.Bu d.lw A'→A'.cur to→aaS d i A M H (vn to) H':=fun A' M' to c H' a1 a2 a3 a4 a5 a6=>⟨A',M',to,c,rfl,a1,a2,a3,a4,a5,a6⟩
  refine ah (fun h1=>?_) (fun h1=>?_)
  ·refine ME.ld ((hm h).cell (o:=1) rfl) ?_
   refine au ?_
   have hb:w_ (d.kd i)=0:=by unfold w_;rw[if_neg aa,if_pos h1]
   have e:W d.ws i=ig d.ws (d.kd i) (d.zs i):=by omega
   rw[e]at fin
   exact XO hQ ih h hi h1 he hz hzl aa aa hf fin
  refine ah (fun h0=>?_) (fun h0=>?_)
  ·have hb:w_ (d.kd i)=2:=by unfold w_;rw[if_pos h0]
   have e:W d.ws i=2 +ig d.ws (d.kd i) (d.zs i):=by omega
   rw[e]at fin
   refine ME.ld h.we.f.2 ?_
   refine h.fresh aa fun H2 M2 A2 h g2 cd=>?_
   have n2:=g2.ns
   have t2:=g2.tt
   refine ME.ld h.we.fe.2 ?_
   refine h.free (hf.gw g2) cd aa fun _ H3 M3 A3 h g3=>?_
   have n3:=g3.ns
   have t3:=g3.tt
   have g:=g2.trans g3
   refine ME.ld h.we.f.2 ?_
   refine h.fresh aa fun H4 M4 A4 h g4 ce=>?_
   have n4:=g4.ns
   have t4:=g4.tt
   have g:=g.trans g4
   refine ME.ld ((hm h).cell (o:=1) rfl) ?_
   refine au ?_
   exact XP hQ ih h g aa ((cd.gw g3).gw g4) ce hi h0 he hz hzl aa aa fin
  have three:(d.kd i=2∨d.kd i=3∨d.kd i=4)→∃z,d.zs i=[z]∧z<i∧W d.ws i=3 +W d.ws z:=fun hk=>by
   have hl:(d.zs i).length=1:=by rcases hfit with h|h|h|h<;>omega
   obtain⟨z,hz1⟩:=List.length_eq_one_iff.1 hl
   refine⟨z,hz1,hz z (by rw[hz1];simp),?_⟩
   rw[hW,hz1]
   have hb:w_ (d.kd i)=3:=by unfold w_;rw[if_neg aa,if_neg aa,if_pos hk]
   have ha:AR (d.kd i)=0:=by unfold AR;rw[if_neg aa]
   unfold ig
   simp[hb,ha]
  have one:¬(d.kd i=2∨d.kd i=3∨d.kd i=4)→W d.ws i=1:=fun hk=>by
   have hl:(d.zs i).length=0:=by rcases hfit with h|h|h|h<;>omega
   have hz0:=List.length_eq_zero_iff.1 hl
   rw[hW,hz0]
   have hb:w_ (d.kd i)=1:=by unfold w_;rw[if_neg aa,if_neg aa,if_neg hk]
   rw[hb];rfl
  have loop:∀{b_ bU dJ jc nT x20 oQ Af qi x24 x25 DC pN x38 VQ VS x66:Value}{eP:List (Nat×Value)},(d.kd i=2∨d.kd i=3)→Az eP 85=.bool true→aT Pg X (sub dN [1,1,0,1,0,1,1,1,1,1]) (jO (vn i) (vn fr) (pr d.g) (pr d.s) (pr d.w) (pr d.f) (pr d.fe) (pr d.lo) (pr d.p) (pr d.l) b_ (pr rb) bU dJ jc nT x20 oQ Af qi x24 x25 (vi (d.kd i)) DC pN x38 VQ VS x66 eP H1) (iA 0 (kN Pg X (sub dN [1,1,1]) (cK Pg [.tmp 12] (aaS d i A M H)))):=by
   intro b_ bU dJ jc nT x20 oQ Af qi x24 x25 DC pN x38 VQ VS x66 eP hk hlk
   obtain⟨z,hz1,hzi,e⟩:=three aa
   rw[e]at fin hn ht
   have hz0:(d.zs i)[0]?=some z:=by rw[hz1];rfl
   have hl:(d.zs i).length=1:=by rw[hz1];rfl
   refine tl ?_
   rw[hlk]
   refine au ?_
   refine ME.ld h.we.lo.2 ?_
   refine ME.mU ((hm h).read (o:=0) (n:=5) (by show 0 +5≤5;omega)) ?_
   show ak Pg X 159 [.agg ⟨[vi (d.kd i),.slice ka (d.zs i).length kc,.string t,.slice xa xn xc,vi at']⟩,vn fr,pr d.f,pr d.fe,pr d.w] H1 _
   rw[hl]at he⊢
   refine ak.mono (zB (ih z hzi) h hi he hz0 hn ht hf) ?_
   rintro v H2 ⟨A',M',to,c,rfl,b1,b2,b3,b4,b5,b6⟩
   refine rr ?_;refine(fin A' M' to c H2 b1 ?_ b3 b4 b5 b6)
   exact(SH.frame h.sh b2).sub (List.sublist_append_left M' _)
  refine ah (fun h2=>?_) (fun h2=>?_)
  ·exact loop (.inl h2) (by show Value.bool (decide (d.kd i=2))=_;rw[decide_eq_true h2])
  by_cases h3:d.kd i=3
  ·exact loop (.inr h3) (by show Value.bool (decide (d.kd i=3))=_;rw[decide_eq_true h3])
  by_cases h4:d.kd i=4
  ·obtain⟨z,hz1,hzi,e⟩:=three aa
   rw[e]at fin hn ht
   have hz0:(d.zs i)[0]?=some z:=by rw[hz1];rfl
   have hl:(d.zs i).length=1:=by rw[hz1];rfl
   rw[hl]at he h
   exact U9 (ih z hzi) h hi h4 he hz0 hn ht hf (by show Value.bool (decide (d.kd i=3))=_;rw[decide_eq_false h3]) fin
  ·have e:=one aa
   rw[e]at fin hn ht
   refine tl ?_
   refine au ?_
   refine ah (fun hc=>absurd hc h3) (fun _=>?_)
   refine ah (fun hc=>absurd hc h4) (fun _=>?_)
   exact U8 hQ h hi hn ht hf fin
end
section
variable{H0 H:ae}{L M:List aC}{S:List Nat}{K:Nat→Prop}{A:At}{d:WD}
theorem Qx(hw:Wf H){ra na:Option Addr}{rn rc nn nc:Nat}{lv sv:Value}{rb:Nat}(hl:∃a n c,lv=.slice a n c)(hs:∃a n c,sv=.slice a n c):ak Pg X 120 [gV ra rn rc na nn nc,lv,sv,.func (.func 118) ⟨[]⟩ ⟨[pr rb]⟩,.func (.func 119) ⟨[]⟩ ⟨[pr rb]⟩] H fun v H'=>∃g s w f fe lo p l,v=.func (.func 160) ⟨[]⟩ ⟨[pr g,pr s,pr w,pr f,pr fe,pr lo,pr p,pr l]⟩∧Ext H H'∧(∀r∈[g,s,w,f,fe,lo,p,l],H.next≤r∧r<H'.next)∧H'.cell g 1=some (.slice na nn nc)∧H'.cell s 0=some sv∧H'.cell w 0=some v∧H'.cell f 0=some (.func (.func 118) ⟨[]⟩ ⟨[pr rb]⟩)∧H'.cell fe 0=some (.func (.func 158) ⟨[]⟩ ⟨[pr p]⟩)∧H'.cell lo 0=some (.func (.func 159) ⟨[]⟩ ⟨[pr f,pr fe,pr w]⟩)∧H'.cell p 0=some (.func (.func 119) ⟨[]⟩ ⟨[pr rb]⟩)∧H'.cell l 0=some lv:=by
 obtain⟨la,ln,lc,rfl⟩:=hl
 obtain⟨sa,sn,sc,rfl⟩:=hs
 have hS:=SH.refl hw
 refine ce [0,1,2,3,4,5,6,7,8,9,10,11,12,13] ?_;refine tl ?_
 refine hS.box rfl fun H1 g hS=>?_
 refine hS.box rfl fun H2 l hS=>?_
 refine hS.box rfl fun H3 s hS=>?_
 refine hS.box rfl fun H4 f hS=>?_
 refine hS.box rfl fun H5 p hS=>?_
 refine hS.bZ fun H6 fe hS=>?_
 refine hS.iB fun Hn hS=>?_
 refine hS.bZ fun H7 w hS=>?_
 refine hS.bZ fun H8 lo hS=>?_
 repeat(first|(refine hS.a_ ?_)|(refine hS.iB fun Hn hS=>?_))
 refine rr ?_;refine⟨g,s,w,f,fe,lo,p,l,rfl,hS.ext,?_,(hS.get 7 rfl).cell rfl,(hS.get 5 rfl).cell rfl,(hS.get 1 rfl).cell rfl,(hS.get 4 rfl).cell rfl,(hS.get 2 rfl).cell rfl,(hS.get 0 rfl).cell rfl,(hS.get 3 rfl).cell rfl,(hS.get 6 rfl).cell rfl⟩
 intro r hr
 simp only[List.mem_cons,List.mem_nil_iff,or_false]at hr
 rcases hr with rfl|rfl|rfl|rfl|rfl|rfl|rfl|rfl
 ·exact⟨hS.wm (List.mem_of_getElem? (i:=7) rfl),(hS.lo _ (List.mem_of_getElem? (i:=7) rfl)).2⟩
 ·exact⟨hS.wm (List.mem_of_getElem? (i:=5) rfl),(hS.lo _ (List.mem_of_getElem? (i:=5) rfl)).2⟩
 ·exact⟨hS.wm (List.mem_of_getElem? (i:=1) rfl),(hS.lo _ (List.mem_of_getElem? (i:=1) rfl)).2⟩
 ·exact⟨hS.wm (List.mem_of_getElem? (i:=4) rfl),(hS.lo _ (List.mem_of_getElem? (i:=4) rfl)).2⟩
 ·exact⟨hS.wm (List.mem_of_getElem? (i:=2) rfl),(hS.lo _ (List.mem_of_getElem? (i:=2) rfl)).2⟩
 ·exact⟨hS.wm (List.mem_of_getElem? (i:=0) rfl),(hS.lo _ (List.mem_of_getElem? (i:=0) rfl)).2⟩
 ·exact⟨hS.wm (List.mem_of_getElem? (i:=3) rfl),(hS.lo _ (List.mem_of_getElem? (i:=3) rfl)).2⟩
 ·exact⟨hS.wm (List.mem_of_getElem? (i:=6) rfl),(hS.lo _ (List.mem_of_getElem? (i:=6) rfl)).2⟩
theorem Bd.name{ra:Nat}{nm:ByteArray}(hB:Bd ra A M)(hS:SH S H0 H (M++L))(hn:A.nr≤1000):∃v,H.cell ra 0=some v∧∀{Kp:Value→Value→Value→ae→Prop},(∀w v' u H' M',Bd ra (A.ru nm) M'→SH (M.map (·.1)) H H' M'→Kp w v' u H')→
 ME (bS 9 [.string ⟨#[]⟩] 1 1 [(0,.string nm)] H) fun w H1=>ME (wh 9 1 v w H1) fun v2 H2=>ME (yB 1 (pr ra) v2 H2) fun u H3=>Kp w v2 u H3:=by
 have hS:=SH.own hS
 obtain⟨nv,sv,pv,ov,ev,evs,gn,gs,gp,go,ge,R,rfl,hgn,hgs,J5,hgo,hge,hR⟩:=hB
 refine⟨nv,(hS.get 0 rfl).cell rfl,fun{Kp} kk=>?_⟩
 refine hgn.push (hS.perm (bB [_] gn _)) aa rfl rfl rfl rfl rfl aa (by rw[List.length_map];unfold At.nr at hn;omega) fun w v' H1 gn' ada hS=>?_
 have hS:=hS.perm (bB gn' [(ra,26,[nv,sv,pv,ov,ev,vn A.ty])] _)
 obtain⟨na',nc',rfl⟩:=ada.KA
 refine hS.st 0 rfl rfl (by show 0 +1≤6;omega) rfl fun H2 hS=>?_
 refine kk _ _ _ H2 _ ⟨_,sv,pv,ov,ev,evs,gn',gs,gp,go,ge,R,rfl,?_,hgs,J5,hgo,hge,hR⟩ hS
 have:(A.ru nm).nm.map Value.string=A.nm.map Value.string++ax (.string nm):=by show(A.nm++[nm]).map Value.string=_;simp;rfl
 rw[this];exact ada
end
section
variable{H0 H:ae}{L M:List aC}{S:List Nat}{K:Nat→Prop}{A:At}{d:WD}
theorem _root_.Go.Ae.GB.same{ty:TypeId}{es:Nat}{v:Value}{cs:List Value}{gb:List aC}(h:GB ty es v cs gb):gK v v=true:=by
 rcases h with⟨rfl,_⟩|⟨r,n,aF,rfl,_⟩
 ·exact jy _ _ _ fun x h=>by cases h
 ·exact jy _ _ _ fun x h=>by cases h;rfl
theorem RY.put{e:Ed}{a:Nat}{Kp:Value→ae→Prop}(h:RY K d S H0 H M L A)(ha:A.cur a)(hb:A.cur e.2.2)(he:At.Zp d.lw A.ty e)(ht:A.tot≤1000000)(kk:∀v H' M' A',RY K d S H0 H' M' L A'→At.Gw A A' 0 1→Kp v H'):eG Pg X (Dy d.pv) [vn a,.agg ⟨[vn e.1,vn e.2.1,vn e.2.2]⟩] H Kp:=by
 show ak Pg X 119 [vn a,_,pr d.ra] H Kp
 refine ak.mono (G7 (e:=e) h.bd h.sh ha.1 h.bu.pz ht) ?_
 rintro v H' ⟨M',h1,h2⟩
 exact kk v H' M' _ (h.step h1 h2 (At.Gw.pu h.bu.pz ha.1 _) (h.bu.puC ha hb he)) (At.Gw.pu h.bu.pz ha.1 _)
structure RZ(K:Nat→Prop)(d:WD)(S:List Nat)(H0 H:ae)(M L:List aC)(A:At):Prop where
 we:WE K d H
 nk:∀r∈M.map (·.1),¬K r
 bd:Bd d.ra A M
 sh:SH S H0 H (M++L)
 bs:At.Bs' d.lw A
 ty:A.ty=d.tn
 few:A.nr≤120
 tt:A.tot≤2*A.ns
theorem RZ.ext{H1:ae}{L':List aC}(h:RZ K d S H0 H M L A)(hx:Ext H H1)(hS:SH S H0 H1 (M++L')):RZ K d S H0 H1 M L' A:=⟨h.we.stay hx (fun r hr=>nomatch hr),h.nk,h.bd,hS,h.bs,h.ty,h.few,h.tt⟩
theorem RZ.nks{H':ae}{M':List aC}(h:RZ K d S H0 H M L A)(hS:SH (M.map (·.1)) H H' M'):∀r∈M'.map (·.1),¬K r:=fun r hr hk=>by
 obtain⟨e,he,rfl⟩:=List.mem_map.1 hr
 rcases(hS.lo e he).1 with h1|h1
 ·exact h.nk _ h1 hk
 ·have:=h.we.hK _ hk;omega
theorem RY.ends{a b:Nat}(h:RY K d S H0 H M L A)(hl:A.st.length≤1000)(hl2:A.sp.length≤1000){O:Array Oper}{Kp:Value→ae→Value→ae→Value→ae→Value→ae→Value→ae→Value→ae→Value→ae→Value→ae→Prop}
 (hO:O=opsOf (sub tJ [1,1,1,1,1,0,1,0,0,1,1,0,0,1,1,1,1,0]))
 (kk:∀v1 G_ v2 J7 v3 MB v4 Qy v5 U' v6 XQ v7 H45 v8 H48 M',RY K d S H0 (hM (hM (hM (hM (hM (hM (hM (hM H G_) J7) MB) Qy) U') XQ) H45) H48) M' L (A.se a b)→Kp v1 G_ v2 J7 v3 MB v4 Qy v5 U' v6 XQ v7 H45 v8 H48):
 ME (lM none (.pointer (some ⟨d.ra,1,none⟩)) (hN H)) fun v32 G_=>
 ME (bS 3 [(Value.int .i64 0)] 1 1 [(0,vn a)] (hN (hM H G_))) fun v34 J7=>
 ME (wh 3 1 v32 v34 (hN (hM (hM H G_) J7))) fun v36 MB=>
 ME (lM none (.pointer (some ⟨d.ra,2,none⟩)) (hN (hM (hM (hM H G_) J7) MB))) fun v39 Qy=>
 ME (bS 3 [(Value.int .i64 0)] 1 1 [(0,vn b)] (hN (hM (hM (hM (hM H G_) J7) MB) Qy))) fun v41 U'=>
 ME (wh 3 1 v39 v41 (hN (hM (hM (hM (hM (hM H G_) J7) MB) Qy) U'))) fun v43 XQ=>
 ME (yB 1 (.pointer (some ⟨d.ra,1,none⟩)) v36 (hN (hM (hM (hM (hM (hM (hM H G_) J7) MB) Qy) U') XQ))) fun u46 H45=>
 ME (yB 1 (.pointer (some ⟨d.ra,2,none⟩)) v43 (hN (hM (hM (hM (hM (hM (hM (hM H G_) J7) MB) Qy) U') XQ) H45))) fun u49 H48=>
 bO O [(clS (.pointer (some ⟨d.ra,2,none⟩)) v43 (hM (hM (hM (hM (hM (hM (hM H G_) J7) MB) Qy) U') XQ) H45) H48),(cl 0),(clS (.pointer (some ⟨d.ra,1,none⟩)) v36 (hM (hM (hM (hM (hM (hM H G_) J7) MB) Qy) U') XQ) H45),(cl 0),(DZ (hM (hM (hM (hM (hM H G_) J7) MB) Qy) U') XQ),(PI (hM (hM (hM (hM H G_) J7) MB) Qy) U'),(cl 0),(Yu 1 (.pointer (some ⟨d.ra,2,none⟩)) (hM (hM (hM H G_) J7) MB) Qy),(cl 0),(DZ (hM (hM H G_) J7) MB),(PI (hM H G_) J7),(cl 0),(Yu 1 (.pointer (some ⟨d.ra,1,none⟩)) H G_),(cl 0)]=true∧Kp v32 G_ v34 J7 v36 MB v39 Qy v41 U' v43 XQ u46 H45 u49 H48:=by
 subst hO
 have hS0:=SH.own h.sh
 obtain⟨nv,sv,pv,ov,ev,evs,gn,gs,gp,go,ge,R,rfl,hgn,hgs,J5,hgo,hge,hR⟩:=id h.bd
 have hS:=hS0.perm (L':=(d.ra,26,[nv,sv,pv,ov,ev,vn A.ty])::(gs++(gp++(gn++(go++(ge++R)))))) (by
  have p1:=bB gn gs (gp++(go++(ge++R)))
  have p2:=bB gn gp (go++(ge++R))
  exact(p1.trans (List.Perm.append_left gs p2)).cons _)
 refine hS.iG ?_
 simp only[aZ hS.wf]
 refine hS.S8 rfl rfl rfl aa fun H1 rx hS ji=>?_
 have hX1:=hS.get 1 rfl
 have hS:=(hS.to (cs':=[vn a]) rfl).perm ((bB [_] gs _).cons _)
 refine hgs.Co hS aa rfl rfl (by rw[List.length_map];omega) fun v' H2 gs' hgs' hS _ _ hc1=>?_
 have hS:=hS.perm (bB gs' [_] _)
 simp only[List.cons_append,List.nil_append]at hS
 have hY1:=(hS.get 0 rfl).dL (H':=H2) rfl
 generalize hz1:hM (hM H H1) H2=Z1 at hS⊢
 have hwZ:=hS.wf
 refine hS.iG ?_
 simp only[aZ hS.wf]
 refine hS.S8 rfl rfl rfl aa fun H3 ry hS kV=>?_
 have hX2:=hS.get 1 rfl
 have hS:=(hS.to (cs':=[vn b]) rfl).perm (L':=(ry,3,[vn b])::(gp++((d.ra,26,[nv,sv,pv,ov,ev,vn A.ty])::(gs'++(gn++(go++(ge++R))))))) (by
  have:=bB ((d.ra,26,[nv,sv,pv,ov,ev,vn A.ty])::gs') gp (gn++(go++(ge++R)))
  exact this.cons _)
 refine J5.Co hS aa rfl rfl (by rw[List.length_map];omega) fun w' H4 gp' adb hS _ _ hc2=>?_
 have hS:=hS.perm (List.perm_middle)
 have hY2:=(hS.get 0 rfl).dL (H':=H4) rfl
 obtain⟨va,vc,rfl⟩:=hgs'.KA
 obtain⟨wa,wc,rfl⟩:=adb.KA
 refine hS.qf fun H5 hS=>?_
 have hS:=hS.to (cs':=[nv,.slice va (aP A.st++[vn a]).length vc,pv,ov,ev,vn A.ty]) rfl
 refine hS.qf fun H6 hS=>?_
 have hS:=hS.to (cs':=[nv,.slice va (aP A.st++[vn a]).length vc,.slice wa (aP A.sp++[vn b]).length wc,ov,ev,vn A.ty]) rfl
 refine(show∀K:Prop,K→_∧K from fun Kz hK=>?_) _ ?_
 ·have sm:∀{o},(o=1∨o=2)→∀v∈(([nv,sv,pv,ov,ev,vn A.ty]:List Value).drop o).take 1,gK v v=true:=fun ho v hv=>by
   rcases ho with rfl|rfl
   ·have hv:v∈[sv]:=hv
    rw[List.mem_singleton]at hv
    subst hv;exact hgs.same
   ·have hv:v∈[pv]:=hv
    rw[List.mem_singleton]at hv
    subst hv;exact J5.same
  have rd:∀{o},(o=1∨o=2)→∀w:Cl,((w.a=hM H H1∧w.b=H2)∨(w.a=hM Z1 H3∧w.b=H4))→fQ w ⟨4,d.ra,o,1,hh0,hh0⟩=true:=fun{o} ho w hw=>by
   have hle:o +1≤6:=by omega
   unfold fQ
   rcases hw with hw|hw
   ·rw[hw.1,hw.2]
    exact uP (hX1.read hle) (hY1.read hle) (qh (sm ho))
   ·rw[hw.1,hw.2]
    exact uP (hX2.read hle) (hY2.read hle) (qh (sm ho))
  have r1:=rd (.inl rfl)
  have r2:=rd (.inr rfl)
  simp only[ji,kV,aN,aQ]
  generalize d.ra=ra at r1 r2⊢
  rcases hc1 with e|e<;>rw[e]<;>rcases hc2 with e|e<;>rw[e]<;>apply Xd (a:=ra) (T:=fun w=>(w.a=hM H H1∧w.b=H2)∨(w.a=hM Z1 H3∧w.b=H4)) (by rfl) (by kernel_rfl) (by kernel_rfl) hK<;>repeat' apply And.intro
  all_goals first|exact trivial|(intro h;cases h;done)|exact fun _=>.inl ⟨rfl,rfl⟩|exact fun _=>.inr ⟨rfl,rfl⟩|exact fun _=>r1|exact fun _=>r2
 have hS:=hS.perm (L':=(d.ra,26,[nv,.slice va (aP A.st++[vn a]).length vc,.slice wa (aP A.sp++[vn b]).length wc,ov,ev,vn A.ty])::(gn++(gs'++(gp'++(go++(ge++R)))))) (by
  refine List.Perm.cons _ ?_
  have p1:=bB (gp'++gs') gn (go++(ge++R))
  have p2:=bB gp' gs' (go++(ge++R))
  simp only[List.append_assoc]at p1
  exact p1.trans (List.Perm.append_left gn p2))
 have hB:Bd d.ra (A.se a b) ((d.ra,26,[nv,.slice va (aP A.st++[vn a]).length vc,.slice wa (aP A.sp++[vn b]).length wc,ov,ev,vn A.ty])::(gn++(gs'++(gp'++(go++(ge++R)))))):=⟨nv,_,_,ov,ev,evs,gn,gs',gp',go,ge,R,rfl,hgn,by
  have:aP (A.se a b).st=aP A.st++ax (vn a):=by show aP (A.st++[a])=_;simp;rfl
  rw[this];exact hgs',by
  have:aP (A.se a b).sp=aP A.sp++ax (vn b):=by show aP (A.sp++[b])=_;simp;rfl
  rw[this];exact adb,hgo,hge,hR⟩
 have hnk:∀{M':List aC}{H':ae},SH ((((d.ra,26,[nv,sv,pv,ov,ev,vn A.ty])::(gn++(gs++(gp++(go++(ge++R))))):List aC).map (·.1))) H H' M'→∀r∈M'.map (·.1),¬K r:=fun hS r hr hk=>by
  obtain⟨e,he,rfl⟩:=List.mem_map.1 hr
  rcases(hS.lo e he).1 with h1|h1
  ·exact h.nk _ h1 hk
  ·have:=h.we.hK _ hk;omega
 have hY:RY K d S H0 _ ((d.ra,26,[nv,.slice va (aP A.st++[vn a]).length vc,.slice wa (aP A.sp++[vn b]).length wc,ov,ev,vn A.ty])::(gn++(gs'++(gp'++(go++(ge++R)))))) L (A.se a b):=⟨h.we.stay hS.ext h.nk,hnk hS,hB,SH.frame h.sh hS,⟨h.bu.pz,h.bu.o,h.bu.e⟩,h.ty,h.pos,h.few⟩
 refine kk _ _ _ _ _ _ _ _ _ _ _ _ _ _ _ _ ((d.ra,26,[nv,.slice va (aP A.st++[vn a]).length vc,.slice wa (aP A.sp++[vn b]).length wc,ov,ev,vn A.ty])::(gn++(gs'++(gp'++(go++(ge++R)))))) ?_
 rw[aZ h.sh.wf,hz1,aZ hwZ]
 exact hY
end
section
variable{H0 H:ae}{L M:List aC}{S:List Nat}{K:Nat→Prop}{A:At}{d:WD}
theorem _root_.Go.Ae.eO.within{F F':Nat→Prop}{ty:TypeId}{a:Option Addr}{n es:Nat}{cs:List Value}(h:eO F ty H a n es cs)(hF:∀r,r<H.next→F' r):eO F' ty H a n es cs:=⟨h.1,fun r o e hn=>let⟨_,h2,h3⟩:=h.2 r o e hn;⟨hF r h2,h2,h3⟩⟩
theorem Ov.within{F F':Nat→Prop}{nn:Nat}{bY:List Value}{kd:Nat→Int}{zs:Nat→List Nat}(h:Ov F H nn bY kd zs)(hF:∀r,r<H.next→F' r):Ov F' H nn bY kd zs:=fun i hi=>let⟨a,c,t,xa,xn,xc,at',h1,h2,h3⟩:=h i hi;⟨a,c,t,xa,xn,xc,at',h1,h2.within hF,h3⟩
theorem Ov.ex{F:Nat→Prop}{nn:Nat}{bY:List Value}{kd:Nat→Int}{zs:Nat→List Nat}{H':ae}(h:Ov F H nn bY kd zs)(hx:Ext H H'):Ov F H' nn bY kd zs:=fun i hi=>let⟨a,c,t,xa,xn,xc,at',h1,h2,h3⟩:=h i hi;⟨a,c,t,xa,xn,xc,at',h1,h2.ex hx,h3⟩
theorem _root_.Go.Ae.Bk.QT{F:Nat→Prop}{r:Nat}{ty:TypeId}{cs:List Value}{n es:Nat}(h:Bk H r ty cs)(hr:r<H.next)(hn:cs.length=n*es)(hF:F r):eO F ty H (some ⟨r,0,none⟩) n es cs:=⟨h.fl hr hn,fun r' o e _=>by cases e;exact⟨hF,hr,h.QS⟩⟩
def wX(rcs:List Value)(ws:List Nat):Nat→Nat
 |0=>0
 |i +1=>wX rcs ws i +(if yt rcs i=true then 0 else 2 +W ws (rootOf rcs i).toNat)
theorem Qz(rcs:List Value)(ws:List Nat){i j:Nat}(h:i≤j):wX rcs ws i≤wX rcs ws j:=by
 induction j with
 |zero=>obtain rfl:i=0:=by omega
        exact Nat.le_refl _
 |succ j ih=>
  rcases Nat.lt_or_ge i (j +1)with h1|h1
  ·have:=ih aa
   show _≤wX rcs ws j +_
   omega
  ·obtain rfl:i=j +1:=by omega
   exact Nat.le_refl _
theorem Bd.atM{ra:Nat}{H':ae}(hB:Bd ra A M)(hS:SH [] H H' (M++L))(ho:A.Ok):∃q:AV,H'.read ra 0 6=some (q.cells A)∧mJ (H.next≤·) H' A q:=by
 obtain⟨nv,sv,pv,ov,ev,evs,gn,gs,gp,go,ge,R,rfl,hgn,hgs,J5,hgo,hge,hR⟩:=hB
 have hev:evs.length=A.ns:=by rw[←hR.len,List.length_map,ho.pz]
 have hS:=hS.cast (L':=(ra,26,[nv,sv,pv,ov,ev,vn A.ty])::(gn++(gs++(gp++(go++(ge++(R++L))))))) (by simp)
 have hf:∀{e:aC},e∈(ra,26,[nv,sv,pv,ov,ev,vn A.ty])::(gn++(gs++(gp++(go++(ge++(R++L))))))→H.next≤e.1:=fun he=>hS.wm he
 have hread:=(hS.get 0 rfl).read (o:=0) (n:=6) (by show 0 +6≤6;omega)
 have hT:=SH.drop (A:=[_]) hS
 have QX:=SH.drop hT
 have hT3:=SH.drop QX
 have hT4:=SH.drop hT3
 have hT5:=SH.drop hT4
 have hT6:=SH.drop hT5
 obtain⟨na,n1,nc,rfl,l1,f1⟩:=hgn.QT hT
 obtain⟨sa,n2,sc,rfl,l2,f2⟩:=hgs.QT QX
 obtain⟨pa,n3,pc,rfl,l3,f3⟩:=J5.QT hT3
 obtain⟨oa,n4,oc,rfl,l4,f4⟩:=hgo.QT hT4
 obtain⟨ea,n5,ec,rfl,l5,f5⟩:=hge.QT hT5
 have e1:n1=A.nr:=by rw[List.length_map]at l1;unfold At.nr;omega
 have e2:n2=A.nr:=by rw[List.length_map,ho.Oj]at l2;omega
 have e3:n3=A.nr:=by rw[List.length_map,ho.QW]at l3;omega
 have e4:n4=A.ns:=by rw[List.length_map]at l4;unfold At.ns;omega
 have e5:n5=A.ns:=by omega
 subst e1
 rw[e2]at hread f2
 rw[e3]at hread f3
 rw[e4]at hread f4
 rw[e5]at hread f5
 refine⟨⟨na,sa,pa,oa,ea,nc,sc,pc,oc,ec⟩,hread,f1,f2,f3,f4,evs,f5,fun i hi=>?_⟩
 obtain⟨a,n,c,g1,g2,g3⟩:=hR.all hT6 i aa
 have hE:(A.eg.map rC)[i]?.getD []=rC (A.E i):=by
  unfold At.E
  rw[List.getElem?_map,List.getElem?_eq_getElem (show i<A.eg.length by rw[ho.pz];exact hi)];rfl
 rw[hE]at g2 g3
 rw[Bp]at g2
 obtain rfl:n=(A.E i).length:=by omega
 refine⟨a,c,by rw[List.getElem?_eq_getElem (show i<evs.length by omega),g1],g3.wk fun r hr=>?_⟩
 obtain⟨e,he,rfl⟩:=List.mem_map.1 hr
 exact hT6.wm (List.mem_append_left _ he)
end
section
variable{H0 H:ae}{L M:List aC}{S:List Nat}{K:Nat→Prop}{A:At}{d:WD}
abbrev U_(tn:Nat)(H:ae)(v:Value)(H':ae):Prop:=∃(A:At)(q:AV),v=q.v A∧mJ (H.next≤·) H' A q∧A.Ok∧A.ty=tn
theorem XR{b rz rv rg vc tn:Nat}{ra na va:Option Addr}{rn rc nn nc:Nat}{rcs bY:List Value}{x2 x3 fU bU dJ:Value}{eP:List (Nat×Value)}{H1:ae}(hG:Gr b H ra rn rcs na nn bY)(hR:∀i,i<rn→0≤rootOf rcs i∧rootOf rcs i<nn)(hup:yt rcs 0=false)(hrn:1≤rn)(hQ:WQ d)(hd:d.nn=nn∧d.tn=tn∧d.lw=oP rcs rn)(htot:wX rcs d.ws rn≤4000)
 (hZ:RZ K d [] H H1 M [(rz,26,[.slice none 0 0,.slice none 0 0,.slice none 0 0,.slice none 0 0,.slice none 0 0,vi 0]),(rv,79,[.slice va tn vc]),(rg,69,[.slice ra rn rc,.slice na nn nc])] A)(hA:A.nr=0∧A.ns=0):
 aT Pg X (.loop (sub tJ [1,1,1,1,1,0,1,0,0])) (Gn (gV ra rn rc na nn nc) (vV va tn vc) x2 x3 (pr rg) (pr rv) (pr rz) (pr d.ra) d.fv d.pv d.wv fU bU dJ (.slice ra rn rc) (vn rn) (vn 0) eP H1) (iA 0 (kN Pg X (sub tJ [1,1,1,1,1,1]) (cK Pg [.cell 8 26] (Q1 (U_ tn H) H)))):=by
 have g2:=hG.2.1
 refine Ht 14 15 16 31 (I:=fun m fU bU dJ x31 H'=>∃i A M,x31=vn i∧i +m=rn∧RZ K d [] H H' M [(rz,26,[.slice none 0 0,.slice none 0 0,.slice none 0 0,.slice none 0 0,.slice none 0 0,vi 0]),(rv,79,[.slice va tn vc]),(rg,69,[.slice ra rn rc,.slice na nn nc])] A∧A.nr=oP rcs i∧A.ns=wX rcs d.ws i) ?_ rn ⟨0,A,M,rfl,aa,hZ,hA.1,hA.2⟩
 clear hZ hA
 rintro m fU bU dJ x31 eP H2 ⟨i,A,M,rfl,him,hZ,hnr,hns⟩
 refine tl ?_
 refine au ?_
 refine ah (fun hc=>?_) (fun hc=>?_)
 rotate_left
 ·obtain rfl:i=rn:=by omega
  have hlo:=zy rcs hrn
  have hl1:oP rcs 1=1:=by show 0 +(if yt rcs 0=true then 0 else 1)=1;rw[hup];rfl
  have tt:=hZ.tt
  have ok:A.Ok:=hZ.bs.ok (by rw[hnr,hd.2.2]) aa (by have:=hZ.few;omega) aa aa
  refine tl ?_
  obtain⟨q0,hr0,_⟩:=hZ.bd.atM hZ.sh ok
  refine ME.mU hr0 ?_
  have hS:=hZ.sh.perm (List.perm_append_comm (l₁:=M))
  refine hS.st 0 rfl rfl (Nat.le_refl 6) rfl fun H3 hS=>?_
  have hS:SH [] H H3 ((rz,26,q0.cells A)::(rv,79,[.slice va tn vc])::(rg,69,[.slice ra i rc,.slice na nn nc])::M):=hS
  have hS2:=hS.perm (L':=M++[(rz,26,q0.cells A),(rv,79,[.slice va tn vc]),(rg,69,[.slice ra i rc,.slice na nn nc])]) (List.perm_append_comm (l₁:=[_,_,_]))
  obtain⟨q1,hr1,hat⟩:=hZ.bd.atM hS2 ok
  have eq:q1.cells A=q0.cells A:=by
   obtain⟨cs,hm,h6⟩:∃cs,((d.ra,26,cs):aC)∈M∧cs.length=6:=by
    obtain⟨nv,sv,pv,ov,ev,evs,gn,gs,gp,go,ge,R,rfl,_⟩:=hZ.bd
    exact⟨_,List.mem_cons_self ..,rfl⟩
   have a0:=(hZ.sh.bk _ (List.mem_append_left _ hm)).read (o:=0) (n:=6) (by show 0 +6≤cs.length;omega)
   have a1:=(hS2.bk _ (List.mem_append_left _ hm)).read (o:=0) (n:=6) (by show 0 +6≤cs.length;omega)
   have b0:=a0.symm.trans hr0
   have b1:=a1.symm.trans hr1
   exact Option.some.inj (b1.symm.trans b0)
  refine rr ?_
  refine hS.mU 0 rfl (Nat.le_refl 6) ?_
  rw[←eq]
  exact⟨⟨A,q1,rfl,hat,ok,hZ.ty.trans hd.2.1⟩,hS.ext⟩
 have hi:i<rn:=by omega
 obtain⟨r1,o1,mZ,u1,f1,w1,c1,a1,e1,hl1,o7,ji,hsz,hel⟩:=hG.ru hi rc
 have hroot:=hR i hi
 rw[e1]
 refine au ?_
 refine hZ.sh.mM o7 hl1 ?_
 refine(SH.refl hZ.sh.wf).jI rfl rfl rfl fun H3 ru hS1 hx3=>?_
 have hS1:SH [] H2 H3 [(ru,141,kQ mZ u1 f1 w1 c1 (rootOf rcs i) a1)]:=hS1
 have kH:=(SH.frame (M:=[]) hZ.sh hS1).perm (L':=M++([(rz,26,[.slice none 0 0,.slice none 0 0,.slice none 0 0,.slice none 0 0,.slice none 0 0,vi 0]),(rv,79,[.slice va tn vc]),(rg,69,[.slice ra rn rc,.slice na nn nc])]++[(ru,141,kQ mZ u1 f1 w1 c1 (rootOf rcs i) a1)])) (by
  rw[←List.append_assoc];exact List.perm_append_comm (l₁:=[_]))
 have hZ:=hZ.ext hx3 kH
 have hlow:oP rcs (i +1)=oP rcs i +(if yt rcs i=true then 0 else 1):=rfl
 have XT:wX rcs d.ws (i +1)=wX rcs d.ws i +(if yt rcs i=true then 0 else 2 +W d.ws (rootOf rcs i).toNat):=rfl
 rw[Bo hel]at hlow XT
 have hmo:=Qz rcs d.ws (show i +1≤rn by omega)
 have aeO:=zy rcs (show i +1≤rn by omega)
 have aed:=GV rcs rn
 have hru:∀{H' M'}(_:SH [] H H' (M'++([(rz,26,[.slice none 0 0,.slice none 0 0,.slice none 0 0,.slice none 0 0,.slice none 0 0,vi 0]),(rv,79,[.slice va tn vc]),(rg,69,[.slice ra rn rc,.slice na nn nc])]++[(ru,141,kQ mZ u1 f1 w1 c1 (rootOf rcs i) a1)]))),Bk H' ru 141 (kQ mZ u1 f1 w1 c1 (rootOf rcs i) a1):=fun{H' M'} hS=>hS.bk _ (List.mem_append_right _ (List.mem_append_right _ (List.mem_cons_self ..)))
 have back:∀{H' M'}(_:SH [] H H' (M'++([(rz,26,[.slice none 0 0,.slice none 0 0,.slice none 0 0,.slice none 0 0,.slice none 0 0,vi 0]),(rv,79,[.slice va tn vc]),(rg,69,[.slice ra rn rc,.slice na nn nc])]++[(ru,141,kQ mZ u1 f1 w1 c1 (rootOf rcs i) a1)]))),SH [] H H' (M'++[(rz,26,[.slice none 0 0,.slice none 0 0,.slice none 0 0,.slice none 0 0,.slice none 0 0,vi 0]),(rv,79,[.slice va tn vc]),(rg,69,[.slice ra rn rc,.slice na nn nc])]):=fun{H' M'} hS=>hS.sub (List.Sublist.append_left (List.sublist_append_left _ _) M')
 refine au ?_
 refine ME.ld ((hru hZ.sh).cell (o:=1) rfl) ?_
 refine au ?_
 refine aA (fun hb=>?_) (fun hb=>?_)
 ·rw[if_pos hb]at hlow XT
  refine ay ?_
  exact⟨rn -(i +1),aa,_,_,_,_,_,_,rfl,i +1,A,M,iC,aa,hZ.ext (Ext.refl _) (back hZ.sh),aa,aa⟩
 rw[if_neg (by rw[hb];simp)]at hlow XT
 have G4:=hZ.few
 have aeP:=hZ.tt
 obtain⟨v0,hv0,hname⟩:=hZ.bd.name (nm:=mZ) hZ.sh aa
 refine ME.ld hv0 ?_
 refine ME.ld ((hru hZ.sh).cell (o:=0) rfl) ?_
 refine hname fun w v' u H4 M4 hB4 nK=>?_
 have aek:(A.ru mZ).nr=A.nr +1:=by show(A.nm++[mZ]).length=_;rw[List.length_append];rfl
 have hY:RY K d [] H H4 M4 _ (A.ru mZ):=⟨hZ.we.stay nK.ext hZ.nk,hZ.nks nK,hB4,SH.frame hZ.sh nK,hZ.bs.bu.ru mZ,hZ.ty,aa,aa⟩
 have hns0:(A.ru mZ).ns=A.ns:=rfl
 have aez:(A.ru mZ).tot=A.tot:=rfl
 refine hY.fresh aa fun H5 M5 A1 hY g1 cs=>?_
 have n1:=g1.ns
 have t1:=g1.tt
 refine hY.fresh aa fun H6 M6 A2 hY g2 cp=>?_
 have n2:=g2.ns
 have t2:=g2.tt
 have cs:=cs.gw g2
 have hst:A2.st=A.st:=by rw[g2.st,g1.st];rfl
 have hsp:A2.sp=A.sp:=by rw[g2.sp,g1.sp];rfl
 refine hY.ends (by rw[hst,hZ.bs.Oj];omega) (by rw[hsp,hZ.bs.QW];omega) rfl fun u1 e1 u2 e2 u3 e3 u4 e4 u5 e5 u6 e6 u7 e7 u8 e8 M7 hY=>?_
 generalize hM (hM (hM (hM (hM (hM (hM (hM H6 e1) e2) e3) e4) e5) e6) e7) e8=H7 at hY⊢
 have n3:(A2.se (A.ru mZ).ns A1.ns).ns=A2.ns:=rfl
 have t3:(A2.se (A.ru mZ).ns A1.ns).tot=A2.tot:=rfl
 obtain⟨k,hk⟩:∃k:Nat,rootOf rcs i=k:=⟨(rootOf rcs i).toNat,aa⟩
 have hkn:k<d.nn:=by omega
 have hWk:W d.ws (rootOf rcs i).toNat=W d.ws k:=by rw[hk];rfl
 refine ME.ld ((hru hY.sh).cell (o:=5) rfl) ?_
 rw[hk]
 refine hY.way (aaU hQ k hkn) aa aa (show(A2.se (A.ru mZ).ns A1.ns).cur _ from cs) fun to H8 M8 A4 c hY g4 hc4 cto=>?_
 have n4:=g4.ns
 have t4:=g4.tt
 refine PU.b3 rfl ?_
 have cp4:A4.cur A1.ns:=At.cur.gw (A:=A2.se (A.ru mZ).ns A1.ns) cp g4
 refine hY.put (e:=(0,0,A1.ns)) cto cp4 (aaR ..) aa fun v9 H9 M9 A5 hY g5=>?_
 have n5:=g5.ns
 have t5:=g5.tt
 refine ay ?_
 have aeQ:A5.nr=A.nr +1:=by rw[g5.nr,g4.nr];show A2.nr=_;rw[g2.nr,g1.nr,aek]
 exact⟨rn -(i +1),aa,_,_,_,_,_,_,rfl,i +1,A5,M9,iC,aa,⟨hY.we,hY.nk,hY.bd,back hY.sh,hZ.bs.next (g1.trans g2) cs cp (g4.trans g5) hY.bu,hY.ty,aa,aa⟩,aa,aa⟩
end
section
variable{F:Nat→Prop}{H0 H:ae}{L M:List aC}{S:List Nat}{K:Nat→Prop}{A:At}{d:WD}
theorem Bd.nil(ra tn:Nat):Bd ra ⟨[],[],[],[],[],tn⟩ [(ra,26,[.slice none 0 0,.slice none 0 0,.slice none 0 0,.slice none 0 0,.slice none 0 0,vn tn])]:=
 ⟨_,_,_,_,_,[],[],[],[],[],[],[],rfl,.inl ⟨rfl,rfl,rfl⟩,.inl ⟨rfl,rfl,rfl⟩,.inl ⟨rfl,rfl,rfl⟩,.inl ⟨rfl,rfl,rfl⟩,.inl ⟨rfl,rfl,rfl⟩,rfl⟩
theorem MC(hw:Wf H){b tn vc rl rs:Nat}{ra na va:Option Addr}{rn rc nn nc:Nat}{rcs bY lcs:List Value}{ws:List Nat}{kd:Nat→Int}{zs:Nat→List Nat}(hG:Gr b H ra rn rcs na nn bY)(hNd:Ov F H nn bY kd zs)(hR:∀i,i<rn→0≤rootOf rcs i∧rootOf rcs i<nn)(hup:yt rcs 0=false)(hrn:1≤rn)
 (hl:Bk H rl 47 lcs∧rl<H.next∧lcs.length=nn*3)(hlp:∀i,i<nn→kM tn (oP rcs rn) (El lcs 3 i))(hs:Bk H rs 3 (aP ws)∧rs<H.next∧ws.length=nn)(hsz:∀j,j<nn→yw kd zs ws j)(htot:wX rcs ws rn≤4000):
 ak Pg X 78 [gV ra rn rc na nn nc,vV va tn vc,.slice (some ⟨rl,0,none⟩) nn nn,.slice (some ⟨rs,0,none⟩) nn nn] H (Q1 (U_ tn H) H):=by
 have hS:=SH.refl hw
 refine ce [0,1,2,3,4,5,8,9,10,11,12,14,15,16,29,30,31] ?_;refine tl ?_
 refine hS.box rfl fun H1 rg hS=>?_
 refine hS.box rfl fun H2 rv hS=>?_
 refine hS.bZ fun H3 rz hS=>?_
 refine hS.az ?_;refine hS.bL ?_
 refine ak.mono (Mi hS.wf) ?_
 rintro v H4 ⟨rfl,hx⟩
 have hS:=hS.call hx
 refine PU.b6 rfl ?_;refine hS.az ?_
 refine hS.bZ fun H5 rb hS=>?_
 refine hS.iB fun Hn hS=>?_;refine hS.bL ?_
 have hb:=And.intro (hS.wm (List.mem_of_getElem? (i:=0) rfl)) (hS.lo _ (List.mem_of_getElem? (i:=0) rfl)).2
 refine ak.mono (Qx hS.wf ⟨_,_,_,rfl⟩ ⟨_,_,_,rfl⟩) ?_
 rintro v H7 ⟨g,s,w,f,fe,lo,p,l,rfl,hx7,hn7,c1,c2,c3,c4,c5,c6,c7,c8⟩
 have hS:=hS.call hx7
 have hx:=hS.ext
 have hK:∀r∈[g,s,w,f,fe,lo,p,l],r<H7.next∧r≠rb:=fun r hr=>by
  have:=hn7 r hr
  exact⟨this.2,aa⟩
 have hF:∀r,r<H.next→r<H7.next∧r≠rb:=fun r hr=>⟨by have:=hx.next;omega,aa⟩
 have hW:WE (fun r=>r<H7.next∧r≠rb) ⟨g,s,w,f,fe,lo,p,l,rb,na,nc,nn,rs,rl,bY,lcs,ws,kd,zs,tn,oP rcs rn⟩ H7:=
  ⟨fun r hr=>hr.1,⟨hK g (by simp),c1⟩,⟨hK s (by simp),c2⟩,⟨hK w (by simp),c3⟩,⟨hK f (by simp),c4⟩,⟨hK fe (by simp),c5⟩,⟨hK lo (by simp),c6⟩,⟨hK p (by simp),c7⟩,⟨hK l (by simp),c8⟩,
   (hG.2.2.2.1.within hF).ex hx,(hNd.within hF).ex hx,((hs.1.QT hs.2.1 (by rw[Nat.mul_one,List.length_map];exact hs.2.2) (hF _ hs.2.1))).ex hx,(hl.1.QT hl.2.1 hl.2.2 (hF _ hl.2.1)).ex hx⟩
 refine hS.a_ ?_;refine hS.az ?_
 refine XR (d:=⟨g,s,w,f,fe,lo,p,l,rb,na,nc,nn,rs,rl,bY,lcs,ws,kd,zs,tn,oP rcs rn⟩) (K:=fun r=>r<H7.next∧r≠rb) (A:=⟨[],[],[],[],[],tn⟩) (M:=[(rb,26,[.slice none 0 0,.slice none 0 0,.slice none 0 0,.slice none 0 0,.slice none 0 0,vn tn])]) hG hR hup hrn ⟨hG.2.2.2.2.1,hsz,hlp⟩ ⟨rfl,rfl,rfl⟩ htot ⟨hW,fun r hr hk=>?_,Bd.nil rb tn,hS,?_,rfl,Nat.zero_le _,Nat.zero_le _⟩ ⟨rfl,rfl⟩
 ·obtain rfl:r=rb:=List.mem_singleton.1 hr
  exact hk.2 rfl
 ·exact⟨⟨rfl,fun s h=>absurd h (Nat.not_lt_zero _),fun s h=>absurd h (Nat.not_lt_zero _)⟩,rfl,rfl,fun s h=>absurd h (Nat.not_lt_zero _),fun s h=>absurd h (Nat.not_lt_zero _)⟩
end
section
variable{F:Nat→Prop}{H0 H:ae}{L M:List aC}{S:List Nat}{K:Nat→Prop}{A:At}{d:WD}
theorem _root_.Go.Ae.Bk.ex{H':ae}{r:Nat}{ty:TypeId}{cs:List Value}(h:Bk H r ty cs)(hr:r<H.next)(hx:Ext H H'):Bk H' r ty cs:=h.dL (hx.obj r hr fun h=>nomatch h)
abbrev Va(tn:Nat)(H:ae)(v:Value)(H':ae):Prop:=∃(x:Value)(e:Int),v=.tuple ⟨[x,vi e]⟩∧(ax x).length=6∧all' aR (ax x)=true∧(e=0→U_ tn H x H')
theorem ael(hw:Wf H){b tn vc rz rv rg:Nat}{ra na va:Option Addr}{rn rc nn nc:Nat}{rcs bY vcs:List Value}{x0 x1:Value}{H1:ae}(hG:Gr b H ra rn rcs na nn bY)(hC:q9 (b≤·) H rn rcs nn bY∧1≤rn∧yt rcs 0=false)(hV:Vo F H va tn vcs)
 (hS:SH [] H H1 [(rz,26,[.slice none 0 0,.slice none 0 0,.slice none 0 0,.slice none 0 0,.slice none 0 0,vi 0]),(rv,79,[.slice va tn vc]),(rg,69,[.slice ra rn rc,.slice na nn nc])]){x6 x7 x8 x9 bg x34 xW DC:Value}{eP:List (Nat×Value)}:
 aT Pg X (sub Uj [1,1]) (PY x0 x1 (pr rg) (pr rv) (pr rz) (vi 0) x6 x7 x8 x9 bg x34 xW DC eP H1) (cK Pg [.cell 4 26,.tmp 5] (Q1 (Va tn H) H)):=by
 have g2:=hG.2.1
 have g5:=hG.2.2.2.2.1
 obtain⟨hC1,hC2,XE⟩:=hC
 refine tl ?_
 refine hS.az ?_;refine hS.bL ?_;refine hS.bL ?_
 refine ak.mono (Mm hS.wf (hG.ex hS.ext) (fun i hi=>(hC1.1 i hi).ex hS.ext) ⟨hV.1.ex hS.ext,hV.2⟩) ?_
 rintro v H2 ⟨⟨rl,lcs,rfl,hl1,hl2,hl3,hl4,hl5⟩,hx2⟩
 have hS:=hS.call hx2
 obtain⟨kd,zs,hNd⟩:=Ov.of (F:=(b≤·)) (H:=H) hC1.1
 refine hS.bL ?_
 refine ak.mono (Mo hS.wf (hG.ex hS.ext) (hNd.ex hS.ext) hl3 hl2 hl4 hl5) ?_
 rintro v H3 ⟨⟨rs,rr,ws,bs,rfl,⟨hs1,hs2⟩,⟨hr1,hr2⟩,hs3,hr3,hwl,hbl,hsz⟩,hx3⟩
 have hS:=hS.call hx3
 have hfs:eO (fun _=>True) 3 H3 (some ⟨rs,0,none⟩) nn 1 (aP ws):=hs3.QT hs2 (by rw[Nat.mul_one,List.length_map];exact hwl) trivial
 have hfr:eO (fun _=>True) 4 H3 (some ⟨rr,0,none⟩) nn 1 (bools bs):=hr3.QT hr2 (by rw[Nat.mul_one,List.length_map];exact hbl) trivial
 have hl3:=hl3.ex hl2 hx3
 repeat(first|(refine hS.az ?_)|(refine hS.a_ ?_))
 refine Ht 5 9 11 36 (I:=fun m x5 x9 bg DC H'=>∃i,DC=vn i∧i +m=rn∧x5=vi 0∧x9=vn (min (wX rcs ws i) 4001)∧Ext H3 H'∧SH [] H H' [(rz,26,[.slice none 0 0,.slice none 0 0,.slice none 0 0,.slice none 0 0,.slice none 0 0,vi 0]),(rv,79,[.slice va tn vc]),(rg,69,[.slice ra rn rc,.slice na nn nc])]) ?_ rn ⟨0,rfl,aa,rfl,rfl,Ext.refl _,hS⟩
 clear hS
 rintro m x5 x9 bg DC eP H4 ⟨i,rfl,him,rfl,rfl,hx4,hS⟩
 refine tl ?_
 refine au ?_
 refine ah (fun hc=>?_) (fun hc=>?_)
 rotate_left
 ·obtain rfl:i=rn:=by omega
  refine tl ?_
  refine au ?_
  refine ah (fun h4=>?_) (fun h4=>?_)
  ·refine PU.b6 rfl ?_;refine hS.iB fun Hn hS=>?_
   refine Lu.rr ?_
   refine hS.bL ?_
   exact⟨⟨_,_,rfl,rfl,rfl,fun h=>absurd h (by decide)⟩,hS.ext⟩
  have ht:wX rcs ws i≤4000:=by omega
  repeat(refine hS.bL ?_)
  have hx:=hx3.trans hx4
  refine ak.mono (MC hS.wf (hG.ex hS.ext) (hNd.ex hS.ext) hC1.2 XE hC2 ⟨hl3.ex (Nat.lt_of_lt_of_le hl2 hx3.next) hx4,Nat.lt_of_lt_of_le hl2 hx.next,hl4⟩ hl5 ⟨hs3.ex hs2 hx4,Nat.lt_of_lt_of_le hs2 hx4.next,hwl⟩ hsz ht) ?_
  rintro v H5 ⟨⟨A,q,rfl,hA,hok,hty⟩,hx5⟩
  have hge:=hS.ext.next
  have hlo:=hS.lo
  have hS:=hS.call hx5
  have hO:=hS.base
  refine hO.st 0 rfl rfl (Nat.le_refl 6) rfl fun H6 hO6=>?_
  have hA:=hA.stay hO6.ext (fun r hr=>by
   obtain⟨e,he,rfl⟩:=List.mem_map.1 hr
   exact Nat.not_le_of_lt (hlo e he).2)
  have hS:SH [] H H6 [(rz,26,q.cells A),(rv,79,[.slice va tn vc]),(rg,69,[.slice ra i rc,.slice na nn nc])]:=hS.over hO6
  refine Lu.rr ?_
  refine hS.bL ?_
  exact⟨⟨_,_,rfl,rfl,rfl,fun _=>⟨A,q,rfl,hA.wk fun r hr=>by omega,hok,hty⟩⟩,hS.ext⟩
 have hi:i<rn:=by omega
 obtain⟨r1,o1,mZ,u1,f1,w1,c1,a1,e1,hl1,o7,ji,hsz1,hel⟩:=hG.ru hi rc
 have hroot:=hC1.2 i hi
 have XT:wX rcs ws (i +1)=wX rcs ws i +(if yt rcs i=true then 0 else 2 +W ws (rootOf rcs i).toNat):=rfl
 rw[Bo hel]at XT
 obtain⟨k,hk⟩:∃k:Nat,rootOf rcs i=k:=⟨(rootOf rcs i).toNat,aa⟩
 have hkn:k<nn:=by omega
 rw[e1]
 refine au ?_
 refine hS.mM o7 hl1 ?_
 refine hS.jI rfl rfl rfl fun H5 ru hS hx5=>?_
 have hS:SH [] H H5 [(ru,141,kQ mZ u1 f1 w1 c1 (rootOf rcs i) a1),(rz,26,[.slice none 0 0,.slice none 0 0,.slice none 0 0,.slice none 0 0,.slice none 0 0,vi 0]),(rv,79,[.slice va tn vc]),(rg,69,[.slice ra rn rc,.slice na nn nc])]:=hS
 have XU:=hx4.trans hx5
 rw[hk]at hS XT
 repeat(first|(refine hS.az ?_)|(refine hS.a_ ?_))
 refine aA (fun hb=>?_) (fun hb=>?_)
 ·rw[if_pos hb]at XT
  refine ay ?_
  exact⟨rn -(i +1),aa,_,_,_,_,_,_,rfl,i +1,iC,aa,rfl,by rw[XT];rfl,XU,SH.drop (A:=[_]) hS⟩
 rw[if_neg (by rw[hb];simp)]at XT
 refine hS.a_ ?_
 refine(hfr.ex XU).ix (k:=k) (v:=.bool (bs[k]?.getD false)) hkn (by rw[List.getElem?_map,List.getElem?_eq_getElem (show k<bs.length by omega)];rfl) fun p=>?_
 refine au ?_
 refine aA (fun hb2=>?_) (fun hb2=>?_)
 ·refine PU.b6 rfl ?_;refine hS.iB fun Hn hS=>?_
  refine Lu.rr ?_
  refine hS.bL ?_
  exact⟨⟨_,_,rfl,rfl,rfl,fun h=>absurd h (by decide)⟩,hS.ext⟩
 have hWk:W ws k≤4001:=ac4 (hsz k hkn)
 have hW2:W ws ((k:Int)).toNat=W ws k:=rfl
 refine ay ?_
 refine hS.a_ ?_
 refine(hfs.ex XU).ix (k:=k) (v:=vn (W ws k)) hkn (by rw[List.getElem?_map,List.getElem?_eq_getElem (show k<ws.length by omega)];show _=some (vn (ws[k]?.getD 0));rw[List.getElem?_eq_getElem (show k<ws.length by omega)];rfl) fun p=>?_
 refine ay ?_
 rw[min2]
 refine au ?_
 refine ay ?_
 exact⟨rn -(i +1),aa,_,_,_,_,_,_,rfl,i +1,iC,aa,rfl,by rw[show min (((min (wX rcs ws i) 4001:Nat):Int) +2 +(W ws k:Int)) 4001=((min (wX rcs ws (i +1)) 4001:Nat):Int) by omega],XU,SH.drop (A:=[_]) hS⟩
end
section
variable{F:Nat→Prop}{H0 H:ae}{L M:List aC}{S:List Nat}{K:Nat→Prop}{A:At}{d:WD}
theorem GZ(hw:Wf H){b tn vc:Nat}{ra na va:Option Addr}{rn rc nn nc:Nat}{rcs bY vcs:List Value}(hG:Gr b H ra rn rcs na nn bY)(hcap:na=none∨nc=aK 5)(hV:Vo F H va tn vcs):
 ak Pg X 30 [gV ra rn rc na nn nc,vV va tn vc] H (Q1 (Va tn H) H):=by
 have hS:=SH.refl hw
 refine ce [0,1,2,3,4,5,6,7,8,9,11,34,35,36] ?_;refine tl ?_
 refine hS.box rfl fun H1 rg hS=>?_
 refine hS.box rfl fun H2 rv hS=>?_
 refine hS.bZ fun H3 rz hS=>?_
 refine hS.mW ?_;refine hS.az ?_
 have hG3:=hG.ex hS.ext
 refine ak.mono (Dp (oC H3) (show Gr b (hN H3) ra rn rcs na nn bY from hG3)) ?_
 rintro v H4 ⟨⟨z,a,c,rfl,hcl⟩,hx4⟩
 have aem:=hS.ext
 have hS:=hS.kX hx4
 rw[wK]
 refine au ?_
 refine aO (fun hc=>?_) (fun hc=>?_)
 ·refine splitK (fun K hK=>?_) ?_
  ·exact jw (by simp only[aN,bn hx4];rfl) hK
  refine PU.b6 rfl ?_;refine hS.iB fun Hn hS=>?_
  refine rr ?_
  refine hS.bL ?_
  exact⟨⟨_,_,rfl,rfl,rfl,fun h=>absurd h (by decide)⟩,hS.ext⟩
 have hC:=hcl hc
 have hC:q9 (b≤·) H rn rcs nn bY∧1≤rn∧yt rcs 0=false:=⟨q9.back hG aem hC.1.1,hC.1.2.1,hC.2⟩
 refine hS.mW ?_;refine hS.az ?_
 refine ak.mono (JZ (oC _) (show Gr b (hN (hM H3 H4)) ra rn rcs na nn bY from(hG.ex hS.ext:Gr b (hM H3 H4) ra rn rcs na nn bY)) hcap) ?_
 rintro v H5 ⟨⟨ya,yn,yc,ycs,rfl,hY⟩,hx5⟩
 have hS:=hS.kX hx5
 refine hS.mW ?_;refine hS.az ?_
 refine ak.mono (Ml (oC _) (F:=((hN (hM H3 H4)).next≤·)) (F':=F) (a:=ya) (n:=yn) (c:=yc) (cs:=ycs) (a':=va) (n':=tn) (c':=vc) (cs':=vcs) ?_ ?_) ?_
 ·exact hY
 ·exact⟨(show eO F 149 (hN (hM (hM H3 H4) H5)) va tn 4 vcs from(hV.1.ex hS.ext:eO F 149 (hM (hM H3 H4) H5) va tn 4 vcs)),hV.2⟩
 rintro v H6 ⟨⟨bb,rfl⟩,hx6⟩
 have hS:=hS.kX hx6
 refine au ?_
 refine splitK (fun K hK=>?_) ?_
 ·exact jw (by simp only[aN,bn hx4,bn hx5,bn hx6];rfl) hK
 refine aA (fun hb=>?_) (fun hb=>?_)
 ·refine PU.b6 rfl ?_;refine hS.iB fun Hn hS=>?_
  refine rr ?_
  refine hS.bL ?_
  exact⟨⟨_,_,rfl,rfl,rfl,fun h=>absurd h (by decide)⟩,hS.ext⟩
 exact ael hw hG hC hV hS
end
section
variable{F:Nat→Prop}{H0 H:ae}{L M:List aC}{S:List Nat}{K:Nat→Prop}{A:At}{d:WD}
theorem MF(hw:Wf H){q:AV}:ak Pg X 17 [q.v A] H (Q1 (fun v _=>v=vn A.ns) H):=by
 have hS:=SH.refl hw
 refine ce [0,1,2] ?_;refine tl ?_
 refine hS.box rfl fun H1 rg hS=>?_
 repeat(first|(refine hS.az ?_)|(refine hS.a_ ?_))
 refine rr ?_;exact⟨rfl,hS.ext⟩
abbrev ade(H:ae)(v:Value)(H':ae):Prop:=∃(A:At)(q:AV),v=q.v A∧mJ (H.next≤·) H' A q∧A.Ok∧A.ns≤1000
theorem QA(hw:Wf H)(hT:rX H)(s:ByteArray):ak Pg X 8 [.string s] H (Q1 (fun v H'=>∃(x:Value)(ok:Int),v=.tuple ⟨[x,vi ok]⟩∧(ax x).length=6∧all' aR (ax x)=true∧(ok≠0→ade H x H')) H):=by
 have hS:=SH.refl hw
 refine ce [0,2,3,4,5,6,7] ?_;refine tl ?_
 refine hS.bZ fun H1 rz hS=>?_
 refine au ?_
 refine ah (fun hc=>?_) (fun hc=>?_)
 ·refine PU.b6 rfl ?_;refine hS.iB fun Hn hS=>?_
  refine rr ?_
  refine hS.bL ?_
  exact⟨⟨_,_,rfl,rfl,rfl,fun h=>absurd rfl h⟩,hS.ext⟩
 refine ak.mono (Ee hS.wf (hT.ex hS.ext) s) ?_
 rintro v H2 ⟨⟨ra,rn,rc,rcs,na,nn,nc,bY,cd,e,rfl,hG,hcap⟩,hx2⟩
 have hS:=hS.call hx2
 refine hS.az ?_
 have hS0:=hS
 have hS:=SH.refl hS0.wf
 refine hS.bZ fun H3 rg hS=>?_
 refine hS.bZ fun H4 re hS=>?_
 repeat(first|(refine hS.az ?_)|(refine hS.a_ ?_)|(refine hS.iB fun Hn hS=>?_))
 have aen:=hS.ext
 have hS:SH [] H _ [(re,72,[vi cd,vi e]),(rg,69,[.slice ra rn rc,.slice na nn nc]),(rz,26,[.slice none 0 0,.slice none 0 0,.slice none 0 0,.slice none 0 0,.slice none 0 0,vi 0])]:=SH.frame (M:=[]) hS0 hS
 refine aO (fun hc=>?_) (fun hc=>?_)
 ·refine PU.b6 rfl ?_;refine hS.iB fun Hn hS=>?_
  refine rr ?_
  refine hS.bL ?_
  exact⟨⟨_,_,rfl,rfl,rfl,fun h=>absurd rfl h⟩,hS.ext⟩
 have hG3:Gr H1.next Hn ra rn rcs na nn bY:=hG.ex aen
 repeat(first|(refine hS.az ?_)|(refine hS.mW ?_))
 refine ak.mono (JZ (oC _) (show Gr H1.next (hN Hn) ra rn rcs na nn bY from hG3) hcap) ?_
 rintro v H5 ⟨⟨ya,yn,yc,ycs,rfl,hY⟩,hx5⟩
 have hS:=hS.kX hx5
 have hlo:=hS.lo
 have hge:=hS.ext.next
 refine ak.mono (GZ (oC _) (F:=((hN Hn).next≤·)) (show Gr H1.next (hN (hM Hn H5)) ra rn rcs na nn bY from(hG3.ex hx5.draw:Gr H1.next (hM Hn H5) ra rn rcs na nn bY)) hcap hY) ?_
 rintro v H6 ⟨⟨x,e,rfl,VY,Qa,hA⟩,hx6⟩
 have hS:=hS.kX hx6
 refine au ?_
 have hS0:=hS
 have hS:=SH.refl hS0.wf
 refine hS.UX fun H7 rm hS f7=>?_
 have hnr:rm≠rg:=by
  have h1:=hS.wm (List.mem_cons_self ..)
  have h2:=(hS0.lo _ (List.mem_of_getElem? (i:=1) rfl)).2
  intro h;subst h;exact Nat.not_lt_of_le h1 h2
 refine hS.qf (hl:=VY) (hk:=Qa) fun H8 hS=>?_
 refine splitK (fun K hK=>?_) ?_
 ·simp only[aN,bn hx5,bn hx6,f7,aQ]
  rw[aM,VY]
  apply oG (a:=rm) (b:=rg) hnr (by intros;rfl) (by kernel_rfl) (by kernel_rfl) hK
 have hxB:=hS.ext
 have hS:=SH.frame (M:=[]) hS0 hS
 simp only[List.cons_append,List.nil_append]at hS
 refine aO (fun hc=>?_) (fun hc=>?_)
 ·refine PU.b6 rfl ?_;refine hS.iB fun Hn hS=>?_
  refine rr ?_
  refine hS.bL ?_
  exact⟨⟨_,_,rfl,rfl,rfl,fun h=>absurd rfl h⟩,hS.ext⟩
 obtain⟨A,q,rfl,hA,hok,hty⟩:=hA hc
 have hS:SH [] H _ [(rm,26,q.cells A),(re,72,[vi cd,vi _]),(rg,69,[.slice ra rn rc,.slice na nn nc]),(rz,26,[.slice none 0 0,.slice none 0 0,.slice none 0 0,.slice none 0 0,.slice none 0 0,vi 0])]:=hS
 refine hS.bL ?_
 refine ak.mono (MF hS.wf) ?_
 rintro v H9 ⟨rfl,Qp⟩
 have hS:=hS.call Qp
 refine au ?_
 refine ah (fun hc=>?_) (fun hc=>?_)
 ·refine PU.b6 rfl ?_;refine hS.iB fun Hn hS=>?_
  refine rr ?_
  refine hS.bL ?_
  exact⟨⟨_,_,rfl,rfl,rfl,fun h=>absurd rfl h⟩,hS.ext⟩
 have hA:mJ ((hM Hn H5).next≤·) (hM (hM Hn H5) H6) A q:=⟨hA.n,hA.s,hA.p,hA.o,hA.e⟩
 have hA:=(hA.ex hxB).ex Qp
 have hS:=hS.perm (L':=[(rz,26,[.slice none 0 0,.slice none 0 0,.slice none 0 0,.slice none 0 0,.slice none 0 0,vi 0])]++[(rm,26,q.cells A),(re,72,[vi cd,vi _]),(rg,69,[.slice ra rn rc,.slice na nn nc])]) (List.perm_append_comm (l₁:=[_,_,_]))
 refine hS.mU 1 rfl (Nat.le_refl 6) ?_
 have hO:=SH.own hS
 refine hO.st 0 rfl rfl (Nat.le_refl 6) rfl fun GU hO=>?_
 have hA:=hA.stay hO.ext (fun r hr=>by
  obtain rfl:r=rz:=List.mem_singleton.1 hr
  exact Nat.not_le_of_lt (hlo _ (List.mem_of_getElem? (i:=2) rfl)).2)
 have hS:SH [] H GU [(rz,26,q.cells A),(rm,26,q.cells A),(re,72,[vi cd,vi _]),(rg,69,[.slice ra rn rc,.slice na nn nc])]:=SH.frame hS hO
 refine rr ?_
 refine hS.mU 0 rfl (Nat.le_refl 6) ?_
 exact⟨⟨_,_,rfl,rfl,rfl,fun _=>⟨A,q,rfl,hA.wk fun r hr=>Nat.le_trans hge hr,hok,aa⟩⟩,hS.ext⟩
end
section
section laid
variable{H0 H:ae}{L:List aC}{S:List Nat}{ty:TypeId}{es n c:Nat}{a:Option Addr}{xs:List Value}{K:Value→ae→Prop}
theorem _root_.Go.Ae.SH.apG(hS:SH S H0 H L)(he:0<es)(hx:Fl H a n es xs)(hn:n≤16777216)(k:∀v' H1 bJ,GB ty es v' xs bJ→SH S H0 H1 (bJ++L)→Ext H H1→K v' H1):ME (wh ty es (.slice none 0 0) (.slice a n c) H) K:=by
 rw[Cz (.inl rfl) (sZ hx he) hn]
 split
 ·next h0=>
  subst h0
  obtain rfl:xs=[]:=List.length_eq_zero_iff.1 (by have:=hx.1;omega)
  exact k _ H [] (GB.nil _ _) hS (Ext.refl _)
 ·next h0=>exact k _ _ [(H.next,ty,xs)] (.inr ⟨H.next,n,[],rfl,hx.1,by simp⟩) (hS.grow ty xs) (Ext.new _ _)
theorem _root_.Go.Ae.SH.aeo(hS:SH S H0 H L)(he:0<es)(hx:Fl H a n es xs)(hn:n≤16777216)(k:∀v' H1 bJ,GB ty es v' xs bJ→SH S H0 (hM H H1) (bJ++L)→Ext (hN H) H1→K v' H1):ME (wh ty es (.slice none 0 0) (.slice a n c) (hN H)) K:=by
 have hx':Fl (hN H) a n es xs:=hx
 rw[Cz (.inl rfl) (sZ hx' he) hn]
 split
 ·next h0=>
  subst h0
  obtain rfl:xs=[]:=List.length_eq_zero_iff.1 (by have:=hx.1;omega)
  refine k _ (hN H) [] (GB.nil _ _) ?_ (Ext.refl _)
  rw[aZ hS.wf];exact hS
 ·next h0=>exact k _ _ [(H.next,ty,xs)] (.inr ⟨H.next,n,[],rfl,hx.1,by simp⟩) (hS.EO ty xs) (Ext.new _ _)
end laid
variable{F:Nat→Prop}{H0 H:ae}{L M:List aC}{S:List Nat}{K:Nat→Prop}{A:At}{q:AV}
def Own(A:At)(cs:List Value)(M:List aC):Prop:=cs.length=6∧all' aR cs=true∧∀r,Bd r A ((r,26,cs)::M)
theorem Own.of{A:At}{nv sv pv ov ev:Value}{evs:List Value}{gn gs gp go ge R:List aC}(h1:GB 9 1 nv (A.nm.map .string) gn)(h2:GB 3 1 sv (aP A.st) gs)(h3:GB 3 1 pv (aP A.sp) gp)(h4:GB 3 1 ov (aP A.ow) go)(h5:GB 45 1 ev evs ge)(h6:CG 47 3 (A.eg.map rC) evs R):Own A [nv,sv,pv,ov,ev,vn A.ty] (gn++(gs++(gp++(go++(ge++R))))):=by
 refine⟨rfl,?_,fun r=>⟨nv,sv,pv,ov,ev,evs,gn,gs,gp,go,ge,R,rfl,h1,h2,h3,h4,h5,h6⟩⟩
 have e1:=h1.sl
 have e2:=h2.sl
 have e3:=h3.sl
 have e4:=h4.sl
 have e5:=h5.sl
 obtain⟨_,_,_,rfl⟩:=e1
 obtain⟨_,_,_,rfl⟩:=e2
 obtain⟨_,_,_,rfl⟩:=e3
 obtain⟨_,_,_,rfl⟩:=e4
 obtain⟨_,_,_,rfl⟩:=e5
 rfl
theorem XV(hl:A.eg.length=A.ns){i:Nat}(hi:i<A.ns):(A.eg.take (i +1)).map rC=(A.eg.take i).map rC++[rC (A.E i)]:=by
 have h:i<A.eg.length:=by omega
 unfold At.E
 rw[List.take_add_one,List.getElem?_eq_getElem h,List.map_append];rfl
theorem Zv(a b c d e f:List aC):(a++(b++(c++(d++(e++f))))).Perm (f++(e++(d++(c++(a++b))))):=by
 have h1:=List.perm_append_comm (l₁:=a++(b++(c++(d++e)))) (l₂:=f)
 have h2:=List.perm_append_comm (l₁:=a++(b++(c++d))) (l₂:=e)
 have h3:=List.perm_append_comm (l₁:=a++(b++c)) (l₂:=d)
 have h4:=List.perm_append_comm (l₁:=a++b) (l₂:=c)
 simp only[List.append_assoc]at h1 h2 h3 h4
 exact h1.trans (List.Perm.append_left f (h2.trans (List.Perm.append_left e (h3.trans (List.Perm.append_left d h4)))))
theorem QB(hw:Wf H)(h:mJ F H A q)(ho:A.Ok):ak Pg X 41 [q.v A] H fun v H'=>∃cs M',v=.agg ⟨cs⟩∧Own A cs M'∧SH [] H H' M':=by
 have hS:=SH.refl hw
 have hbig:=ho.big
 have G4:=ho.few
 refine ce [0,1,2,3,5,34,35,36] ?_;refine tl ?_
 refine hS.box rfl fun H1 rg hS=>?_
 have hS:SH [] H H1 [(rg,26,[.slice q.na A.nr q.nc,.slice q.sa A.nr q.sc,.slice q.pa A.nr q.pc,.slice q.oa A.ns q.oc,.slice q.ea A.ns q.ec,vn A.ty])]:=hS
 refine hS.bZ fun H2 rz hS=>?_
 repeat(first|(refine hS.az ?_)|(refine PU.b6 rfl ?_)|(refine hS.a_ ?_))
 refine hS.bZ fun H3 rt hS=>?_
 refine hS.az ?_;refine hS.iB fun Hn hS=>?_;refine hS.a_ ?_;refine hS.a_ ?_
 refine hS.apG aa (h.ex hS.ext).n.1 aa fun nv H4 gn hgn hS _=>?_
 have hS:=hS.perm (bB gn [_,_,_] [])
 simp only[List.append_nil,List.cons_append,List.nil_append]at hS
 have h1:=hgn.sl
 obtain⟨na,nn,nc,rfl⟩:=h1
 refine hS.iB fun Hn hS=>?_;refine hS.a_ ?_;refine hS.a_ ?_
 refine hS.apG aa (h.ex hS.ext).s.1 aa fun sv H5 gs hgs hS _=>?_
 have hS:=hS.perm (bB gs [_,_,_] gn)
 simp only[List.append_nil,List.cons_append,List.nil_append]at hS
 have h1:=hgs.sl
 obtain⟨sa,sn,sc,rfl⟩:=h1
 refine hS.iB fun Hn hS=>?_;refine hS.a_ ?_;refine hS.a_ ?_
 refine hS.apG aa (h.ex hS.ext).p.1 aa fun pv H6 gp J5 hS _=>?_
 have hS:=hS.perm (bB gp [_,_,_] (gs++gn))
 simp only[List.append_nil,List.cons_append,List.nil_append]at hS
 have h1:=J5.sl
 obtain⟨pa,pn,pc,rfl⟩:=h1
 refine hS.iB fun Hn hS=>?_;refine hS.a_ ?_;refine hS.a_ ?_
 refine hS.apG aa (h.ex hS.ext).o.1 aa fun ov H7 go hgo hS _=>?_
 have hS:=hS.perm (bB go [_,_,_] (gp++(gs++gn)))
 simp only[List.append_nil,List.cons_append,List.nil_append]at hS
 have h1:=hgo.sl
 obtain⟨oa,on,oc,rfl⟩:=h1
 refine hS.iB fun Hn hS=>?_;refine hS.a_ ?_;refine hS.az ?_
 refine lp2 5 36 (I:=fun m x5 DC H'=>∃i ev evs ge R,DC=vn i∧i +m=A.ns∧GB 45 1 ev evs ge∧CG 47 3 ((A.eg.take i).map rC) evs R∧SH [] H H' ((rt,26,[.slice na nn nc,.slice sa sn sc,.slice pa pn pc,.slice oa on oc,ev,vn A.ty])::(rz,26,[.slice none 0 0,.slice none 0 0,.slice none 0 0,.slice none 0 0,.slice none 0 0,vi 0])::(rg,26,[.slice q.na A.nr q.nc,.slice q.sa A.nr q.sc,.slice q.pa A.nr q.pc,.slice q.oa A.ns q.oc,.slice q.ea A.ns q.ec,vn A.ty])::(ge++(R++(go++(gp++(gs++gn))))))) ?_ A.ns ⟨0,_,[],[],[],rfl,aa,GB.nil _ _,rfl,hS⟩
 clear hS
 rintro m x5 DC eP H8 ⟨i,ev,evs,ge,R,rfl,him,hge,hR,hS⟩
 have hE:evs.length=min i A.ns:=by rw[←hR.len,List.length_map,List.length_take,ho.pz]
 refine tl ?_
 refine au ?_
 refine ah (fun hc=>?_) (fun hc=>?_)
 rotate_left
 ·obtain rfl:i=A.ns:=by omega
  refine tl ?_
  rw[List.take_of_length_le (by rw[ho.pz];omega)]at hR
  have hown:=Own.of hgn hgs J5 hgo hge hR
  have h1:=hge.sl
  obtain⟨ea,en,ec,rfl⟩:=h1
  refine hS.bL ?_;refine hS.iB fun Hn hS=>?_
  refine rr ?_
  refine hS.az ?_;refine hS.bL ?_
  exact⟨_,_,rfl,hown,(SH.drop (A:=[_,_,_]) hS).perm (Zv ge R go gp gs gn)⟩
 have hi:i<A.ns:=by omega
 refine h.XH hS.ext hi fun p a c hf=>?_
 refine hS.iG ?_;refine hS.az ?_
 refine hS.aeo aa (hf.ex hS.ext).1 (by have:=ho.len i;omega) fun v2 H9 gr hgr hS Qp=>?_
 have h1:=hgr.sl
 obtain⟨ra,rn,rc,rfl⟩:=h1
 refine hS.S8 rfl rfl rfl aa fun GU rx hS ji=>?_
 have hS:=hS.perm (L':=(rx,45,ax (.slice ra rn rc))::(ge++([(rt,26,[.slice na nn nc,.slice sa sn sc,.slice pa pn pc,.slice oa on oc,ev,vn A.ty]),(rz,26,[.slice none 0 0,.slice none 0 0,.slice none 0 0,.slice none 0 0,.slice none 0 0,vi 0]),(rg,26,[.slice q.na A.nr q.nc,.slice q.sa A.nr q.sc,.slice q.pa A.nr q.pc,.slice q.oa A.ns q.oc,.slice q.ea A.ns q.ec,vn A.ty])]++(gr++(R++(go++(gp++(gs++gn)))))))) (by
  refine List.Perm.cons _ ?_
  have p1:=bB (gr++[(rt,26,[.slice na nn nc,.slice sa sn sc,.slice pa pn pc,.slice oa on oc,ev,vn A.ty]),(rz,26,[.slice none 0 0,.slice none 0 0,.slice none 0 0,.slice none 0 0,.slice none 0 0,vi 0]),(rg,26,[.slice q.na A.nr q.nc,.slice q.sa A.nr q.sc,.slice q.pa A.nr q.pc,.slice q.oa A.ns q.oc,.slice q.ea A.ns q.ec,vn A.ty])]) ge (R++(go++(gp++(gs++gn))))
  have p2:=bB gr [(rt,26,[.slice na nn nc,.slice sa sn sc,.slice pa pn pc,.slice oa on oc,ev,vn A.ty]),(rz,26,[.slice none 0 0,.slice none 0 0,.slice none 0 0,.slice none 0 0,.slice none 0 0,vi 0]),(rg,26,[.slice q.na A.nr q.nc,.slice q.sa A.nr q.sc,.slice q.pa A.nr q.pc,.slice q.oa A.ns q.oc,.slice q.ea A.ns q.ec,vn A.ty])] (R++(go++(gp++(gs++gn))))
  simp only[List.append_assoc]at p1
  exact p1.trans (List.Perm.append_left ge p2))
 refine hge.Co hS aa rfl rfl aa fun v' Zw XM hge' hS _ _ kV=>?_
 have h1:=hge'.sl
 obtain⟨ea,en,ec,rfl⟩:=h1
 have hS:=hS.perm (bB XM [_,_,_] _)
 simp only[List.append_nil,List.cons_append,List.nil_append]at hS
 refine hS.qf fun H12 hS=>?_
 refine splitK (fun K hK=>?_) ?_
 ·simp only[ji,aN,bn Qp,aQ]
  rcases kV with e|e<;>rw[e]<;>apply Lt (a:=rt) (by intros;rfl) (by kernel_rfl) (by kernel_rfl) hK
 refine ay ?_
 refine⟨A.ns -(i +1),aa,_,_,_,_,rfl,i +1,_,_,XM,R++gr,iC,aa,hge',?_,hS.perm ?_⟩
 ·rw[XV ho.pz hi]
  exact hR.snoc hgr
 ·refine(List.Perm.append_left [_,_,_] (List.Perm.append_left XM ?_))
  rw[List.append_assoc]
  exact bB gr R _
end
section
variable{F:Nat→Prop}{H0 H:ae}{L M:List aC}{S:List Nat}{K:Nat→Prop}{A:At}{q:AV}
theorem _root_.Go.Proofs.Lv.Bs.n'{b n:Nat}{v:Value}{mk:List Bool}(h:Bs b H n v mk):Bs b (hN H) n v mk:=h
theorem _root_.Go.Ae.wY{c:Cl}{l:List Cl}(h:c.k≠2∧c.k≠3):noTwo (c::l)=noTwo l:=by
 unfold noTwo
 rw[all_eq,all_eq,List.all_cons]
 have h2:Nat.beq c.k 2=false:=by rw[←Bool.not_eq_true];intro e;exact h.1 (Nat.eq_of_beq_eq_true e)
 have h3:Nat.beq c.k 3=false:=by rw[←Bool.not_eq_true];intro e;exact h.2 (Nat.eq_of_beq_eq_true e)
 rw[h2,h3];rfl
theorem _root_.Go.Ae.yz(n:Nat)(p:Value)(H:ae)(l:List Cl):noTwo (Yu n p H (hN H)::l)=noTwo l:=by
 refine wY ?_
 have:Yu n p H (hN H)=(aj (gT p) fun a=>some (Cl.mk 4 a.block a.off n hh0 hh0)).getD (cl 1):=by
  show av (Nat.ble H.next H.next) _ _=_
  rw[Nat.ble_eq_true_of_le (Nat.le_refl _)];rfl
 rw[this]
 cases gT p with
 |none=>exact⟨by show(1:Nat)≠2;decide,by show(1:Nat)≠3;decide⟩
 |some a=>exact⟨by show(4:Nat)≠2;decide,by show(4:Nat)≠3;decide⟩
theorem _root_.Go.Ae.Br(l:List Cl):noTwo (cl 0::l)=noTwo l:=wY ⟨by decide,by decide⟩
theorem _root_.Go.Ae.XW(l:List Cl):noTwo (cl 1::l)=noTwo l:=wY ⟨by decide,by decide⟩
theorem _root_.Go.Ae.uS:noTwo []=true:=rfl
theorem MG{b rm rg:Nat}{v:Value}{mk:List Bool}(hrm:H.cell rm 0=some v)(hrl:rm<H.next)(hrg:H.cell rg 1=some (.slice q.sa A.nr q.sc))(hgl:rg<H.next)(hA:mJ F H A q)(hl:Bs b H A.ns v mk)(ho:A.Ok)(hmk:∀s,on mk s↔A.Mk true s):
 Wnt A A.leads H (.func (.func 39) ⟨[]⟩ ⟨[pr rm,pr rg]⟩):=by
 intro H' s e hx hw he
 have hl:=hl.ex hx
 have hA:=hA.ex hx
 have hs:=ho.lt he
 obtain⟨he1,_,he3⟩:=ho.e s hs e he
 have hrm:H'.cell rm 0=some v:=(fP (hx.obj rm hrl (by simp)) 0).trans hrm
 have hrg:H'.cell rg 1=some (.slice q.sa A.nr q.sc):=(fP (hx.obj rg hgl (by simp)) 1).trans hrg
 have hrl:=Nat.lt_of_lt_of_le hrl hx.next
 have hgl:=Nat.lt_of_lt_of_le hgl hx.next
 show ak Pg X 39 [_,pr rm,pr rg] H' _
 have hS:=SH.refl hw
 refine ce [0,1,2,3,4] ?_;refine tl ?_
 refine hS.box rfl fun H1 rb hS=>?_
 have hS:SH [] H' H1 [(rb,47,[vn e.1,vn e.2.1,vn e.2.2])]:=hS
 have hl1:=(hl.ex hS.ext).n'
 have hA1:=(hA.ex hS.ext).n'
 obtain⟨ea,ec,rfl,_⟩:=id hl
 refine hS.zf hrm hrl ?_
 repeat(first|(refine hS.az ?_)|(refine hS.iG ?_))
 refine hl1.at he1 fun p t ht=>?_
 (try simp only[aZ hS.wf])
 refine aA (fun hb=>?_) (fun hb=>?_)
 ·refine hS.iG ?_;refine hS.az ?_
  refine aO (fun hc=>?_) (fun hc=>?_)
  ·refine splitK (fun K hK=>?_) ?_
   ·exact jw (by simp only[yz,Br,uS]) hK
   refine rr ?_;exact⟨⟨true,rfl,fun _=>⟨(hmk _).1 (ht.1 hb),fun h=>absurd aa hc⟩,fun _=>rfl⟩,hS.ext⟩
  have hca:=ho.call he aa
  refine hS.zf hrm hrl ?_
  refine hS.az ?_
  refine hS.zf hrg hgl ?_
  repeat(first|(refine hS.az ?_)|(refine hS.iG ?_))
  refine hA1.ldS ho hca fun p=>?_
  (try simp only[aZ hS.wf])
  refine hl1.at (ho.s _ hca).1 fun p t2 ht2=>?_
  (try simp only[aZ hS.wf])
  refine splitK (fun K hK=>?_) ?_
  ·exact jw (by simp only[yz,Br,uS]) hK
  refine rr ?_;exact⟨⟨t2,rfl,fun h=>⟨(hmk _).1 (ht.1 hb),fun _=>(hmk _).1 (ht2.1 h)⟩,fun h=>ht2.2 ((hmk _).2 (h.2 aa))⟩,hS.ext⟩
 ·refine splitK (fun K hK=>?_) ?_
  ·exact jw (by simp only[yz,Br,uS]) hK
  refine rr ?_;refine⟨⟨false,rfl,fun h=>(by cases h),fun h=>?_⟩,hS.ext⟩
  rw[hb]at ht
  exact absurd (ht.2 ((hmk _).2 h.1)) (by simp)
end
section
variable{F:Nat→Prop}{H0 H:ae}{L M:List aC}{S:List Nat}{K:Nat→Prop}{A T:At}{q:AV}
theorem Vb{rt re s:Nat}{e:Ed}(hB:Bd rt T M)(hS:SH S H0 H (M++((re,47,[vn e.1,vn e.2.1,vn e.2.2])::L)))(hs:s<T.ns)(hl:T.eg.length=T.ns)(ht:(T.E s).length≤1000000){x0 x1 x2 x3 x4 x5 x8 Ul x27 x28 pN x38 x39:Value}{eP:List (Nat×Value)}{K:Out→Prop}(hlk:Az eP 51=.bool true)
 (kk:∀eP H' M',Bd rt (T.pu s e) M'→SH S H0 H' (M'++((re,47,[vn e.1,vn e.2.1,vn e.2.2])::L))→K (.norm (tO x0 x1 x2 x3 x4 x5 (pr rt) (vn s) x8 (pr re) Ul x27 x28 pN x38 x39 eP H'))):
 aT Pg X (sub D4 [1,1,1,1,1,1,0,1,0,0,1,1,0,0,1,1,1,0,0,1,1,0,0,1,1]) (tO x0 x1 x2 x3 x4 x5 (pr rt) (vn s) x8 (pr re) Ul x27 x28 pN x38 x39 eP H) K:=by
 obtain⟨nv,sv,pv,ov,ev,evs,gn,gs,gp,go,ge,R,rfl,hgn,hgs,J5,hgo,hge,hR⟩:=hB
 have hev:evs.length=T.ns:=by rw[←hR.len,List.length_map,hl]
 rcases hge with⟨_,h0,_⟩|⟨rE,n,aF,rfl,hn,rfl⟩
 ·rw[h0]at hev;simp at hev;omega
 obtain rfl:n=T.ns:=by omega
 obtain⟨A',gb,B,rfl,hgb,hput⟩:=hR.at s aa
 have hE:(T.eg.map rC)[s]?.getD []=rC (T.E s):=by
  unfold At.E
  rw[List.getElem?_map,List.getElem?_eq_getElem (show s<T.eg.length by omega)];rfl
 rw[hE]at hgb
 have hv0:(evs++aF)[s]?=some evs[s]:=by rw[List.getElem?_append_left aa];exact List.getElem?_eq_getElem aa
 have hS:SH S H0 H ((re,47,[vn e.1,vn e.2.1,vn e.2.2])::(rt,26,[nv,sv,pv,ov,.slice (some ⟨rE,0,none⟩) T.ns (aK 1),vn T.ty])::(rE,45,evs++aF)::(gb++((gn++(gs++(gp++go)))++(A'++(B++L))))):=hS.perm (by
  have p0:=bB ((rt,26,[nv,sv,pv,ov,.slice (some ⟨rE,0,none⟩) T.ns (aK 1),vn T.ty])::(gn++(gs++(gp++(go++([(rE,45,evs++aF)]++(A'++(gb++B)))))))) [(re,47,[vn e.1,vn e.2.1,vn e.2.2])] L
  have p1:=bB (gn++(gs++(gp++go))) [(rE,45,evs++aF)] (A'++(gb++(B++L)))
  have p2:=bB ((gn++(gs++(gp++go)))++A') gb (B++L)
  simp only[List.append_assoc,List.cons_append,List.nil_append]at p0 p1 p2⊢
  exact p0.trans (((p1.trans (p2.cons _)).cons _).cons _))
 refine tl ?_
 rw[hlk]
 refine aA (fun _=>?_) (fun hb=>by cases hb)
 repeat(first|(refine hS.az ?_)|(refine hS.iG ?_))
 refine hS.XI hs hv0 ?_
 repeat(first|(refine hS.az ?_)|(refine hS.mW ?_))
 refine hS.S8 rfl rfl rfl aa fun H2 rx hS ji=>?_
 have hS0:=hS
 have hS:=(hS.to (cs':=[vn e.1,vn e.2.1,vn e.2.2]) rfl).perm (L':=(rx,47,[vn e.1,vn e.2.1,vn e.2.2])::(gb++([(re,47,[vn e.1,vn e.2.1,vn e.2.2]),(rt,26,[nv,sv,pv,ov,.slice (some ⟨rE,0,none⟩) T.ns (aK 1),vn T.ty]),(rE,45,evs++aF)]++((gn++(gs++(gp++go)))++(A'++(B++L)))))) ((bB [_,_,_] gb _).cons _)
 refine hgb.Co hS aa rfl rfl (by rw[Bp];omega) fun v' H3 bJ hgb' hS _ _ kV=>?_
 have hS:=hS.perm (bB bJ [_,_,_] _)
 simp only[List.cons_append,List.nil_append]at hS
 have hS1:=hS
 obtain⟨va,vl,vc,rfl⟩:=hgb'.sl
 refine hS.Qr hs (by rw[List.length_append];omega) (kk:=fun H4 hS=>?_)
 have n1:re≠rt:=hS.nq 0 1 rfl rfl aa
 have n2:re≠rE:=hS.nq 0 2 rfl rfl aa
 have n3:rt≠rE:=hS.nq 1 2 rfl rfl aa
 refine splitK (fun K hK=>?_) ?_
 ·have r1:∀{o n:Nat}{a b:ae},o +n≤3→fQ ⟨2,0,0,0,hM H H2,H3⟩ ⟨4,re,o,n,a,b⟩=true:=fun h=>iV (hS0.get 1 rfl) ((hS1.get 0 rfl).dL rfl) h (yx ⟨_,_,_,rfl⟩)
  have r2:∀{a b:ae},fQ ⟨2,0,0,0,hM H H2,H3⟩ ⟨4,rt,4,1,a,b⟩=true:=fun{a b}=>iV (hS0.get 2 rfl) ((hS1.get 1 rfl).dL rfl) (by show 4 +1≤6;omega) (by
   intro v hv
   have hv:v∈[Value.slice (some ⟨rE,0,none⟩) T.ns (aK 1)]:=hv
   rw[List.mem_singleton]at hv
   subst hv
   exact jy _ _ _ fun x h=>by cases h;rfl)
  have r3:∀{a b:ae},fQ ⟨2,0,0,0,hM H H2,H3⟩ ⟨4,rE,s,1,a,b⟩=true:=fun{a b}=>iV (hS0.get 3 rfl) ((hS1.get 2 rfl).dL rfl) (by rw[List.length_append];omega) (by
   intro v hv
   have:v=evs[s]:=by
    have h1:((evs++aF).drop s).take 1=[evs[s]]:=by
     rw[List.drop_eq_getElem_cons (by rw[List.length_append];omega),List.take_succ_cons,List.take_zero,List.getElem_append_left aa]
    rw[h1,List.mem_singleton]at hv
    exact hv
   subst this
   exact uw hR _ (List.getElem_mem _))
  simp only[ji,aN,aQ]
  rcases kV with e|e<;>rw[e]<;>apply Gh (A:=hM H H2) (B:=H3) (a:=re) (b:=rt) (c:=rE) n1 n2 n3 (by rfl) (by kernel_rfl) (by kernel_rfl) hK<;>repeat' apply And.intro
  all_goals first|exact trivial|(intro h;cases h;done)|exact fun _=>⟨rfl,rfl⟩|exact fun _=>r1 aa|exact fun _=>r2|exact fun _=>r3
 refine kk _ _ ((rt,26,[nv,sv,pv,ov,.slice (some ⟨rE,0,none⟩) T.ns (aK 1),vn T.ty])::(gn++(gs++(gp++(go++([(rE,45,evs.set s (.slice va vl vc)++aF)]++(A'++(bJ++B)))))))) ⟨nv,sv,pv,ov,_,evs.set s (.slice va vl vc),gn,gs,gp,go,_,A'++(bJ++B),rfl,hgn,hgs,J5,hgo,.inr ⟨rE,T.ns,aF,rfl,by rw[List.length_set];omega,rfl⟩,?_⟩ ?_
 ·have:=hput (.slice va vl vc) (rC (T.E s++[e])) bJ (by rw[GY];exact hgb')
  have e2:(T.pu s e).eg.map rC=(T.eg.map rC).set s (rC (T.E s++[e])):=List.map_set
  rw[e2];exact this
 ·rw[List.set_append_left _ _ aa]at hS
  refine hS.perm (List.Perm.symm ?_)
  have p0:=bB ((rt,26,[nv,sv,pv,ov,.slice (some ⟨rE,0,none⟩) T.ns (aK 1),vn T.ty])::(gn++(gs++(gp++(go++([(rE,45,evs.set s (.slice va vl vc)++aF)]++(A'++(bJ++B)))))))) [(re,47,[vn e.1,vn e.2.1,vn e.2.2])] L
  have p1:=bB (gn++(gs++(gp++go))) [(rE,45,evs.set s (.slice va vl vc)++aF)] (A'++(bJ++(B++L)))
  have p2:=bB ((gn++(gs++(gp++go)))++A') bJ (B++L)
  simp only[List.append_assoc,List.cons_append,List.nil_append]at p0 p1 p2⊢
  exact p0.trans (((p1.trans (p2.cons _)).cons _).cons _)
def At.cl(T:At)(s:Nat):At:={T with eg:=T.eg.set s []}
theorem Vd{rt s:Nat}(hB:Bd rt T M)(hS:SH S H0 H (M++L))(hs:s<T.ns)(hl:T.eg.length=T.ns){K:Value→Value→Value→ae→Prop}(kk:∀v p u H' M',Bd rt (T.cl s) M'→SH S H0 H' (M'++L)→K v p u H'):
 ME (Go.Ae.lM none (.pointer (some ⟨rt,4,none⟩)) H) fun v H1=>PU (sS 1 v (vn s)) fun p=>ME (Go.Ae.yB 1 p (.slice none 0 0) H1) fun u H2=>K v p u H2:=by
 obtain⟨nv,sv,pv,ov,ev,evs,gn,gs,gp,go,ge,R,rfl,hgn,hgs,J5,hgo,hge,hR⟩:=hB
 have hev:evs.length=T.ns:=by rw[←hR.len,List.length_map,hl]
 rcases hge with⟨_,h0,_⟩|⟨rE,n,aF,rfl,hn,rfl⟩
 ·rw[h0]at hev;simp at hev;omega
 obtain rfl:n=T.ns:=by omega
 obtain⟨A',gb,B,rfl,hgb,hput⟩:=hR.at s aa
 have hS:SH S H0 H ((rt,26,[nv,sv,pv,ov,.slice (some ⟨rE,0,none⟩) T.ns (aK 1),vn T.ty])::(rE,45,evs++aF)::(gb++((gn++(gs++(gp++go)))++(A'++(B++L))))):=hS.perm (by
  have p1:=bB (gn++(gs++(gp++go))) [(rE,45,evs++aF)] (A'++(gb++(B++L)))
  have p2:=bB ((gn++(gs++(gp++go)))++A') gb (B++L)
  simp only[List.append_assoc,List.cons_append,List.nil_append]at p1 p2⊢
  exact(p1.trans (p2.cons _)).cons _)
 refine hS.a_ ?_
 refine hS.Tt hs (by rw[List.length_append];omega) (kk:=fun p H4 hS=>?_)
 have hS:SH S H0 H4 ((rt,26,[nv,sv,pv,ov,.slice (some ⟨rE,0,none⟩) T.ns (aK 1),vn T.ty])::(rE,45,(evs++aF).set s (.slice none 0 0))::(gb++((gn++(gs++(gp++go)))++(A'++(B++L))))):=hS
 refine kk _ p undef H4 ((rt,26,[nv,sv,pv,ov,.slice (some ⟨rE,0,none⟩) T.ns (aK 1),vn T.ty])::(gn++(gs++(gp++(go++([(rE,45,evs.set s (.slice none 0 0)++aF)]++(A'++([]++B)))))))) ⟨nv,sv,pv,ov,_,evs.set s (.slice none 0 0),gn,gs,gp,go,_,A'++([]++B),rfl,hgn,hgs,J5,hgo,.inr ⟨rE,T.ns,aF,rfl,by rw[List.length_set];omega,rfl⟩,?_⟩ ?_
 ·have:=hput (.slice none 0 0) (rC []) [] (GB.nil _ _)
  have e2:(T.cl s).eg.map rC=(T.eg.map rC).set s (rC []):=List.map_set
  rw[e2];exact this
 ·rw[List.set_append_left _ _ aa]at hS
  have hS:=SH.drop (A:=gb) (hS.perm (bB [_,_] gb _))
  refine hS.perm (List.Perm.symm ?_)
  have p1:=bB (gn++(gs++(gp++go))) [(rE,45,evs.set s (.slice none 0 0)++aF)] (A'++(B++L))
  simp only[List.append_assoc,List.cons_append,List.nil_append]at p1⊢
  exact p1.cons _
end
section
variable{F:Nat→Prop}{H0 H:ae}{L M:List aC}{S:List Nat}{K:Nat→Prop}{A T:At}{q:AV}
namespace At
variable{i j k:Nat}
structure Hy(A T:At)(i:Nat):Prop where
 nm:T.nm=A.nm
 st:T.st=A.st
 sp:T.sp=A.sp
 ow:T.ow=A.ow
 ty:T.ty=A.ty
 pz:T.eg.length=A.ns
 e:∀s,s<i→T.E s=A.Ol s
open Classical in
def yA(A:At)(i j:Nat):List Ed:=if A.met i then((A.E i).take j).filter (fun e=>decide (A.leads e))else[]
theorem aaV(i:Nat):A.yA i 0=[]:=by unfold yA;rw[List.take_zero,List.filter_nil];split<;>rfl
theorem Ve(i:Nat):A.yA i (A.E i).length=A.Ol i:=by unfold yA Ol;rw[List.take_length]
theorem Vf(i j:Nat):(A.yA i j).length≤(A.E i).length:=by
 classical
 unfold yA
 split
 ·exact Nat.le_trans (List.length_filter_le _ _) (by rw[List.length_take];omega)
 ·exact Nat.zero_le _
theorem XX{i j:Nat}(hj:j<(A.E i).length)(hm:A.met i)(hl:A.leads (A.E i)[j]):A.yA i (j +1)=A.yA i j++[(A.E i)[j]]:=by
 unfold yA
 rw[if_pos hm,if_pos hm,List.take_add_one,List.getElem?_eq_getElem hj,List.filter_append]
 congr 1
 show List.filter _ [_]=_
 rw[List.filter_cons,if_pos (by simpa using hl)];rfl
theorem J8{i j:Nat}(hj:j<(A.E i).length)(h:¬(A.met i∧A.leads (A.E i)[j])):A.yA i (j +1)=A.yA i j:=by
 unfold yA
 by_cases hm:A.met i
 ·rw[if_pos hm,if_pos hm,List.take_add_one,List.getElem?_eq_getElem hj,List.filter_append]
  have:List.filter (fun e=>@decide (A.leads e) (Classical.propDecidable _)) (some (A.E i)[j]).toList=[]:=by
   show List.filter _ [_]=_
   rw[List.filter_cons,if_neg (by simpa using fun hl=>h ⟨hm,hl⟩)];rfl
  rw[this,List.append_nil]
 ·rw[if_neg hm,if_neg hm]
theorem Hy.ns(h:Hy A T k):T.ns=A.ns:=congrArg List.length h.ow
theorem Hy.init(ho:A.Ok):Hy A A 0:=⟨rfl,rfl,rfl,rfl,rfl,ho.pz,fun s h=>absurd h (Nat.not_lt_zero s)⟩
theorem adf(hl:T.eg.length=T.ns){i:Nat}(hi:i<T.ns)(t:Nat):(T.cl i).E t=if t=i then[]else T.E t:=by
 show(T.eg.set i [])[t]?.getD []=_
 rw[List.getElem?_set]
 by_cases h:i=t
 ·subst h;rw[if_pos rfl,if_pos aa,if_pos rfl];rfl
 ·rw[if_neg h,if_neg (fun e=>h e.symm)];rfl
theorem Hy.cl(h:Hy A T i)(hi:i<A.ns):Hy A (T.cl i) i∧(T.cl i).E i=A.yA i 0:=by
 have hl:T.eg.length=T.ns:=h.pz.trans h.ns.symm
 refine⟨⟨h.nm,h.st,h.sp,h.ow,h.ty,(List.length_set ..).trans h.pz,fun s hs=>?_⟩,?_⟩
 ·rw[adf hl (by rw[h.ns];exact hi),if_neg aa];exact h.e s hs
 ·rw[adf hl (by rw[h.ns];exact hi),if_pos rfl,aaV]
theorem Hy.pu(h:Hy A T i)(hi:i<A.ns)(e:Ed):Hy A (T.pu i e) i∧(T.pu i e).E i=T.E i++[e]:=by
 have hl:T.eg.length=T.ns:=h.pz.trans h.ns.symm
 refine⟨⟨h.nm,h.st,h.sp,h.ow,h.ty,(List.length_set ..).trans h.pz,fun s hs=>?_⟩,?_⟩
 ·rw[aaD hl (by rw[h.ns];exact hi),if_neg aa];exact h.e s hs
 ·rw[aaD hl (by rw[h.ns];exact hi),if_pos rfl]
theorem Hy.succ(h:Hy A T i)(he:T.E i=A.Ol i):Hy A T (i +1):=
 ⟨h.nm,h.st,h.sp,h.ow,h.ty,h.pz,fun s hs=>by
   rcases Nat.lt_or_ge s i with h1|h1
   ·exact h.e s h1
   ·obtain rfl:s=i:=by omega
    exact he⟩
theorem Hy.done(h:Hy A T A.ns):T=A.trim:=by
 obtain⟨h1,h2,h3,h4,h5,h6,h7⟩:=h
 have:T.eg=(List.range A.ns).map A.Ol:=by
  refine List.ext_getElem (by rw[List.length_map,List.length_range];exact h6) fun s hs hs'=>?_
  rw[List.getElem_map,List.getElem_range,←h7 s aa]
  unfold E
  rw[List.getElem?_eq_getElem hs];rfl
 cases T
 simp only at h1 h2 h3 h4 h5 this
 subst h1 h2 h3 h4 h5 this
 rfl
end At
theorem QC(hw:Wf H)(h:mJ F H A q)(ho:A.Ok):ak Pg X 14 [q.v A] H (Qe (fun v H'=>∃q':AV,v=q'.v A.trim∧mJ (H.next≤·) H' A.trim q') H):=by
 have hS:=SH.refl hw
 have hbig:=ho.big
 refine ce [0,1,2,3,4,5,6,7,8,10,26,27,28,37,38,39] ?_;refine tl ?_
 refine hS.box rfl fun H1 rg hS=>?_
 rw[fZ]at hS
 refine hS.bZ fun H2 rz hS=>?_
 refine hS.mU 1 rfl (by show 0 +6≤6;omega) ?_
 refine ak.mono (jA hS.wf (h.ex hS.ext) ho) ?_
 rintro v H3 ⟨rfl,hx⟩
 have hS:=hS.call hx
 refine au ?_
 refine aA (fun hb=>by cases hb) (fun _=>?_)
 refine hS.mU 1 rfl (by show 0 +6≤6;omega) ?_
 refine ak.mono (wV hS.wf (h.ex hS.ext) ho true) ?_
 rintro v H4 ⟨⟨mk,hm,hmk⟩,hx⟩
 have hS:=hS.call hx
 obtain⟨ma,mc,rfl,_⟩:=id hm
 refine hS.ns rfl rfl rfl fun H5 rm hS hx5=>?_
 have hS:SH [] H H5 [(rm,36,[.slice ma A.ns mc]),(rz,26,[.slice none 0 0,.slice none 0 0,.slice none 0 0,.slice none 0 0,.slice none 0 0,vi 0]),(rg,26,q.cells A)]:=hS
 refine hS.mU 2 rfl (by show 0 +6≤6;omega) ?_
 refine hS.ld 2 (o:=1) rfl rfl ?_
 have hwant:=MG (A:=A) (q:=q) (rm:=rm) (rg:=rg) ((hS.get 0 rfl).cell rfl) (hS.lo _ (List.mem_of_getElem? (i:=0) rfl)).2 ((hS.get 2 rfl).cell (o:=1) rfl) (hS.lo _ (List.mem_of_getElem? (i:=2) rfl)).2 (h.ex hS.ext) (hm.ex hx5) ho hmk
 have hSt:A.st.length=A.nr:=ho.Oj
 have G4:=ho.few
 rw[show Value.slice q.sa A.nr q.sc=.slice q.sa A.st.length q.sc by rw[hSt]]
 refine ak.mono (Fp (fa:=q.sa) (fc:=q.sc) (fl:=A.st) (w:=A.leads) hS.wf (h.ex hS.ext) ho (by rw[hSt];exact(h.ex hS.ext).s) (fun s hs=>?_) aa hwant) ?_
 ·obtain⟨r,hr,rfl⟩:=List.getElem_of_mem hs
  have:=(ho.s r aa).1
  unfold At.S at this
  rwa [List.getElem?_eq_getElem hr]at this
 rintro v H6 ⟨⟨zA,hm2,hk2⟩,hx6⟩
 have hS:=hS.call hx6
 have hmet:∀s,on zA s↔A.met s:=fun s=>by
  rw[hk2]
  have:(·∈A.st)=A.VN:=by
   funext s
   apply propext
   constructor
   ·intro hs
    obtain⟨r,hr,rfl⟩:=List.getElem_of_mem hs
    refine⟨r,aa,?_⟩
    unfold At.S
    rw[List.getElem?_eq_getElem hr];rfl
   ·rintro⟨r,hr,rfl⟩
    unfold At.S
    rw[List.getElem?_eq_getElem (show r<A.st.length by omega)]
    exact List.getElem_mem _
  rw[this];rfl
 obtain⟨na,nc,rfl,_⟩:=id hm2
 refine hS.mU 2 rfl (by show 0 +6≤6;omega) ?_
 refine ak.mono (QB hS.wf (h.ex hS.ext) ho) ?_
 rintro v H7 ⟨cs,M',rfl,hown,Db⟩
 have kY:=hS
 refine Db.ns (v:=.agg ⟨cs⟩) hown.1 rfl hown.2.1 fun H8 rt hS DD=>?_
 have hB:=hown.2.2 rt
 have hS:SH [] H6 H8 (((rt,26,cs)::M')++[]):=hS.cast (List.append_nil _).symm
 generalize(rt,26,cs)::M'=M at hB hS
 have hrg:∀{H'}(_:Ext H6 H'),Bk H' rg 26 (q.cells A):=fun{H'} hx=>(kY.bk (rg,26,q.cells A) (by simp)).ex (kY.lo (rg,26,q.cells A) (by simp)).2 hx
 refine ME.ld ((hrg hS.ext).cell (o:=4) rfl) ?_
 refine au ?_
 refine lp7 7 8 10 28 37 38 39 (I:=fun m x7 x8 aW x28 pN x38 x39 H'=>∃i T M,x28=vn i∧i +m=A.ns∧At.Hy A T i∧Bd rt T M∧SH [] H6 H' (M++[])) ?_ A.ns ⟨0,A,M,rfl,aa,At.Hy.init ho,hB,hS⟩
 clear hS hB Db DD
 clear M
 rintro m x7 x8 aW x28 pN x38 x39 eP H9 ⟨i,T,M,rfl,him,hT,hB,hS⟩
 refine tl ?_
 refine au ?_
 refine ah (fun hc=>?_) (fun hc=>?_)
 rotate_left
 ·obtain rfl:i=A.ns:=by omega
  obtain rfl:=hT.done
  have ok:=At.GM ho
  refine tl ?_
  rw[List.append_nil]at hS
  have Zk:=SH.frame (M:=[]) kY hS
  obtain⟨q0,hr0,_⟩:=hB.atM Zk ok
  refine ME.mU hr0 ?_
  have hS:=Zk.perm (L':=(rz,26,[.slice none 0 0,.slice none 0 0,.slice none 0 0,.slice none 0 0,.slice none 0 0,vi 0])::(rm,36,[.slice ma A.ns mc])::(rg,26,q.cells A)::M) ((List.perm_append_comm (l₁:=M) (l₂:=[(rm,36,[.slice ma A.ns mc]),(rz,26,[.slice none 0 0,.slice none 0 0,.slice none 0 0,.slice none 0 0,.slice none 0 0,vi 0]),(rg,26,q.cells A)])).trans (List.Perm.swap _ _ _))
  refine hS.st 0 rfl rfl (Nat.le_refl 6) rfl fun GU hS=>?_
  have hS:SH [] H GU ((rz,26,q0.cells A.trim)::(rm,36,[.slice ma A.ns mc])::(rg,26,q.cells A)::M):=hS
  have hS2:=hS.perm (L':=M++[(rz,26,q0.cells A.trim),(rm,36,[.slice ma A.ns mc]),(rg,26,q.cells A)]) (List.perm_append_comm (l₁:=[_,_,_]))
  obtain⟨q1,hr1,hat⟩:=hB.atM hS2 ok
  have eq:q1.cells A.trim=q0.cells A.trim:=by
   obtain⟨cs,hm,h6⟩:∃cs,((rt,26,cs):aC)∈M∧cs.length=6:=by
    obtain⟨nv,sv,pv,ov,ev,evs,gn,gs,gp,go,ge,R,rfl,_⟩:=hB
    exact⟨_,List.mem_cons_self ..,rfl⟩
   have a0:=(Zk.bk _ (List.mem_append_left _ hm)).read (o:=0) (n:=6) (by show 0 +6≤cs.length;omega)
   have a1:=(hS2.bk _ (List.mem_append_left _ hm)).read (o:=0) (n:=6) (by show 0 +6≤cs.length;omega)
   have b0:=a0.symm.trans hr0
   have b1:=a1.symm.trans hr1
   exact Option.some.inj (b1.symm.trans b0)
  refine rr ?_
  refine hS.mU 0 rfl (Nat.le_refl 6) ?_
  exact⟨⟨q1,by rw[←eq];rfl,hat⟩,hS.ext⟩
 have hi:i<A.ns:=by omega
 have adg:=kY.ext
 refine h.XH (adg.trans hS.ext) hi fun p ea ec hf=>?_
 refine au ?_
 refine Vd hB hS (by rw[hT.ns];exact hi) (hT.pz.trans hT.ns.symm) fun v p u GU M1 hB1 hS=>?_
 obtain⟨hT1,hj1⟩:=hT.cl hi
 have hlen:=ho.len i
 refine lp2 10 39 (I:=fun m aW x39 H'=>∃j T M,x39=vn j∧j +m=(A.E i).length∧At.Hy A T i∧T.E i=A.yA i j∧Bd rt T M∧SH [] H6 H' (M++[])) ?_ (A.E i).length ⟨0,_,M1,rfl,aa,hT1,hj1,hB1,hS⟩
 clear hS hB hB1 hT hT1 hj1
 rintro m2 aW x39 aaW Zw ⟨j,T,M,rfl,hjm,hT,hrow,hB,hS⟩
 refine tl ?_
 refine au ?_
 refine ah (fun hc=>?_) (fun hc=>?_)
 rotate_left
 ·obtain rfl:j=(A.E i).length:=by omega
  refine tl ?_
  refine ay ?_
  refine⟨A.ns -(i +1),aa,_,_,_,_,_,_,_,_,_,rfl,i +1,T,M,iC,aa,hT.succ (by rw[hrow,At.Ve]),hB,hS⟩
 have hj:j<(A.E i).length:=by omega
 refine J3 (hf.ex (adg.trans hS.ext)) hj fun p=>?_
 refine hS.ns rfl rfl rfl fun H12 re hS aeR=>?_
 have hS:SH [] H6 H12 (M++[(re,47,[vn (A.E i)[j].1,vn (A.E i)[j].2.1,vn (A.E i)[j].2.2])]):=hS.perm (bB [_] M [])
 have hTl:(T.E i).length≤1000000:=by rw[hrow];have:=At.Vf (A:=A) i j;omega
 refine(hm2.ex hS.ext).at hi fun p t ht=>?_
 refine au ?_
 refine aA (fun hb=>?_) (fun hb=>?_)
 ·have hmi:=(hmet i).1 (ht.1 hb)
  refine ME.mU ((hS.bk (re,47,[vn (A.E i)[j].1,vn (A.E i)[j].2.1,vn (A.E i)[j].2.2]) (by simp)).read (o:=0) (n:=3) (Nat.le_refl 3)) ?_
  refine ak.mono (hwant H12 i (A.E i)[j] (hx6.trans hS.ext) hS.wf (List.getElem_mem hj)) ?_
  rintro v H13 ⟨⟨b,rfl,hbl⟩,aep⟩
  have hS:=hS.call aep
  cases b with
  |true=>
   obtain⟨hT1,hr1⟩:=hT.pu hi (A.E i)[j]
   refine Vb (L:=[]) hB hS (by rw[hT.ns];exact hi) (hT.pz.trans hT.ns.symm) hTl rfl fun eP H14 M1 hB1 hS=>?_
   refine au ?_
   refine tl ?_
   refine ay ?_
   refine⟨(A.E i).length -(j +1),aa,_,_,_,_,rfl,j +1,_,M1,iC,aa,hT1,by rw[hr1,hrow,At.XX hj hmi (hbl.1 rfl)],hB1,(SH.drop (A:=[_]) (hS.perm (bB _ [(re,47,_)] [])))⟩
  |false=>
   refine tl ?_
   refine tl ?_
   refine ay ?_
   refine⟨(A.E i).length -(j +1),aa,_,_,_,_,rfl,j +1,T,M,iC,aa,hT,by rw[hrow,At.J8 hj (fun h=>by cases hbl.2 h.2)],hB,(SH.drop (A:=[_]) (hS.perm (bB _ [(re,47,_)] [])))⟩
 ·have hmi:¬A.met i:=fun h=>by
   have:=ht.2 ((hmet i).2 h)
   rw[hb]at this;cases this
  subst hb
  refine tl ?_
  refine tl ?_
  refine ay ?_
  refine⟨(A.E i).length -(j +1),aa,_,_,_,_,rfl,j +1,T,M,iC,aa,hT,by rw[hrow,At.J8 hj (fun h=>hmi h.1)],hB,(SH.drop (A:=[_]) (hS.perm (bB _ [(re,47,_)] [])))⟩
end
end Go.Proofs.Lu
namespace Go.Proofs.Lv
open Go.Proofs.Lu
open Go.Ae Go.Ae.M
section
variable{H0 H:ae}{L M:List aC}{S:List Nat}{F:Nat→Prop}{A:At}{q:AV}{n s:Nat}
structure RB(n c:Nat)(b:List (List Nat)):Prop where
 len:b.length=n
 lt:∀(i:Nat)(l:List Nat),b[i]?=some l→(∀x∈l,x<n)∧l.length≤c
structure Rch(b:List (List Nat))(mk mk':List Bool):Prop where
 gr:∀t,on mk t→on mk' t
 ln:mk'.length=mk.length
 nw:∀x,on mk' x→¬on mk x→∀l:List Nat,b[x]?=some l→∀y∈l,on mk' y
theorem Rch.refl(b:List (List Nat))(mk:List Bool):Rch b mk mk:=⟨fun _ h=>h,rfl,fun x h h'=>absurd h h'⟩
theorem Rch.trans{b:List (List Nat)}{m1 m2 m3:List Bool}(h:Rch b m1 m2)(g:Rch b m2 m3):Rch b m1 m3:=
 ⟨fun t ht=>g.gr t (h.gr t ht),g.ln.trans h.ln,fun x hx hn l hl y hy=>by
  by_cases h2:on m2 x
  ·exact g.gr y (h.nw x h2 hn l hl y hy)
  ·exact g.nw x hx h2 l hl y hy⟩
end
end Go.Proofs.Lv
namespace Go.Ae
def g5(a b c d e:Nat):Nat→Nat
 |1=>a
 |2=>b
 |3=>c
 |4=>d
 |5=>e
 |_=>0
end Go.Ae
namespace Go.Proofs.Lv
open Go.Proofs.Lu
open Go.Ae Go.Ae.M
section
variable{H0 H:ae}{L M:List aC}{S:List Nat}{F:Nat→Prop}{A:At}{q:AV}{n s:Nat}
structure KR(A:At)(mk:List Bool)(D:Nat→Ed→Prop)(c:Nat)(b:List (List Nat)):Prop where
 rb:RB A.nr c b
 cp:∀s e,D s e→e.1=2→on mk s→∃l,b[A.O s]?=some l∧e.2.1∈l
variable{mk:List Bool}{D D':Nat→Ed→Prop}{c:Nat}{b:List (List Nat)}
theorem KR.wk(h:KR A mk D c b)(hd:∀s e,D' s e→D s e){c':Nat}(hc:c≤c'):KR A mk D' c' b:=
 ⟨⟨h.rb.len,fun i l hl=>⟨(h.rb.lt i l hl).1,Nat.le_trans (h.rb.lt i l hl).2 hc⟩⟩,fun s e hs=>h.cp s e (hd s e hs)⟩
theorem KR.skip(h:KR A mk D c b){s:Nat}{e:Ed}(hk:e.1=2→¬on mk s):KR A mk (fun s' e'=>D s' e'∨(s'=s∧e'=e)) (c +1) b:=
 ⟨⟨h.rb.len,fun i l hl=>⟨(h.rb.lt i l hl).1,Nat.le_succ_of_le (h.rb.lt i l hl).2⟩⟩,fun s' e' hs h1 h2=>by
   rcases hs with hs|⟨rfl,rfl⟩
   ·exact h.cp s' e' hs h1 h2
   ·exact absurd h2 (hk h1)⟩
theorem KR.add(h:KR A mk D c b){s:Nat}{e:Ed}{l:List Nat}(he:e.2.1<A.nr)(hl:b[A.O s]?=some l):KR A mk (fun s' e'=>D s' e'∨(s'=s∧e'=e)) (c +1) (b.set (A.O s) (l++[e.2.1])):=by
 have hlt:=(List.getElem?_eq_some_iff.1 hl).1
 refine⟨⟨by rw[List.length_set];exact h.rb.len,fun i l' hl'=>?_⟩,fun s' e' hs h1 h2=>?_⟩
 ·rw[List.getElem?_set]at hl'
  split at hl'
  ·next g=>
   subst g
   injection hl' with hl'
   subst hl'
   obtain⟨g1,g2⟩:=h.rb.lt _ l hl
   refine⟨fun x hx=>?_,by simp;omega⟩
   rcases List.mem_append.1 hx with hx|hx
   ·exact g1 x hx
   ·simp at hx;subst hx;exact he
  ·obtain⟨g1,g2⟩:=h.rb.lt i l' hl'
   exact⟨g1,aa⟩
 ·have key:∀l',b[A.O s']?=some l'→e'.2.1∈l'→∃l2,(b.set (A.O s) (l++[e.2.1]))[A.O s']?=some l2∧e'.2.1∈l2:=fun l' g1 g2=>by
   by_cases g:A.O s=A.O s'
   ·rw[←g,hl]at g1
    injection g1 with g1
    subst g1
    exact⟨l++[e.2.1],by rw[←g,List.getElem?_set_self hlt],List.mem_append_left _ g2⟩
   ·exact⟨l',by rw[List.getElem?_set_ne g];exact g1,g2⟩
  rcases hs with hs|⟨rfl,rfl⟩
  ·obtain⟨l',g1,g2⟩:=h.cp s' e' hs h1 h2
   exact key l' g1 g2
  ·exact⟨l++[e'.2.1],by rw[List.getElem?_set_self hlt],by simp⟩
def RR(A:At)(mk:List Bool)(D:Nat→Ed→Prop)(c:Nat)(vs:List Value)(R:List aC):Prop:=∃b,KR A mk D c b∧CG 3 1 (b.map aP) vs R
theorem RR.wk{vs:List Value}{R:List aC}(h:RR A mk D c vs R)(hd:∀s e,D' s e→D s e){c':Nat}(hc:c≤c'):RR A mk D' c' vs R:=let⟨b,h1,h3⟩:=h;⟨b,h1.wk hd hc,h3⟩
theorem RR.skip{vs:List Value}{R:List aC}(h:RR A mk D c vs R){s:Nat}{e:Ed}(hk:e.1=2→¬on mk s):RR A mk (fun s' e'=>D s' e'∨(s'=s∧e'=e)) (c +1) vs R:=let⟨b,h1,h3⟩:=h;⟨b,h1.skip hk,h3⟩
theorem RR.len{vs:List Value}{R:List aC}(h:RR A mk D c vs R):vs.length=A.nr:=let⟨b,h1,h3⟩:=h;by rw[←h3.len,List.length_map,h1.rb.len]
theorem RR.same{vs:List Value}{R:List aC}(h:RR A mk D c vs R):∀v∈vs,gK v v=true:=let⟨_,_,h3⟩:=h;uw h3
theorem RR.put{vs:List Value}{R P0 L0:List aC}{rx s:Nat}{e:Ed}{K:Value→ae→Prop}(h:RR A mk D c vs R)(hc:c≤1000000)(he:e.2.1<A.nr)(hn:A.O s<A.nr){v:Value}(hv:vs[A.O s]?=some v)(hS:SH S H0 H ((rx,3,[vn e.2.1])::(P0++(R++L0))))
 (kk:∀va vl vc H1 R'(S':List Nat),RR A mk (fun s' e'=>D s' e'∨(s'=s∧e'=e)) (c +1) (vs.set (A.O s) (.slice va vl vc)) R'→SH S H0 (hM H H1) (P0++(R'++L0))→(DZ H H1=cl 1∨DZ H H1=⟨2,0,0,0,H,H1⟩)→(∀r,r<H.next→r∉S'→H1.obj r=H.obj r)→(∀r∈S',r∈R.map (·.1))→K (.slice va vl vc) H1):
 ME (wh 3 1 v (.slice (some ⟨rx,0,none⟩) 1 1) (hN H)) K:=by
 obtain⟨b,h1,h3⟩:=h
 have h2:=h1.rb.len
 have hvl:vs.length=A.nr:=by rw[←h3.len,List.length_map,h2]
 obtain⟨A',gb,B,rfl,hg,hput⟩:=h3.at (A.O s) aa
 obtain⟨l,hl⟩:∃l,b[A.O s]?=some l:=⟨_,List.getElem?_eq_getElem aa⟩
 have hll:=(h1.rb.lt _ l hl).2
 rw[List.getElem?_map,hl]at hg
 have hg:GB 3 1 vs[A.O s] (aP l) gb:=hg
 rw[List.getElem?_eq_getElem aa]at hv
 rw[Option.some.inj hv]at hg
 have e1:P0++((A'++(gb++B))++L0)=(P0++A')++(gb++(B++L0)):=by simp
 rw[e1]at hS
 refine hg.Co (hS.perm (List.Perm.cons _ (bB (P0++A') gb (B++L0)))) aa rfl rfl (by simp;omega) fun v' H1 bJ hg' hS' _ K_ hcl=>?_
 obtain⟨va,vl,vc,rfl⟩:=hg'.sl
 have hS':=hS'.perm (bB bJ (P0++A') (B++L0))
 have e2:(P0++A')++(bJ++(B++L0))=P0++((A'++(bJ++B))++L0):=by simp
 rw[e2]at hS'
 refine kk va vl vc H1 (A'++(bJ++B)) (gb.map (·.1)) ⟨b.set (A.O s) (l++[e.2.1]),h1.add he hl,?_⟩ hS' hcl K_ fun r hr=>by
  obtain⟨x,hx,rfl⟩:=List.mem_map.1 hr
  exact List.mem_map.2 ⟨x,by simp[hx],rfl⟩
 have:=hput (.slice va vl vc) (aP (l++[e.2.1])) bJ (by rw[show aP (l++[e.2.1])=aP l++[vn e.2.1] by simp];exact hg')
 rw[List.map_set];exact this
end
section
variable{H0 H:ae}{L M:List aC}{S:List Nat}{F:Nat→Prop}{A:At}{q:AV}{n s:Nat}
theorem _root_.Go.Ae.eO.old{ty:TypeId}{a:Option Addr}{es:Nat}{cs:List Value}(h:eO F ty H a n es cs):eO (·<H.next) ty H a n es cs:=⟨h.1,fun r o e hn=>let⟨_,h2,h3⟩:=h.2 r o e hn;⟨h2,h2,h3⟩⟩
theorem mJ.old(h:mJ F H A q):mJ (·<H.next) H A q:=⟨h.n.old,h.s.old,h.p.old,h.o.old,let⟨evs,h1,h2⟩:=h.e;⟨evs,h1.old,fun i hi=>let⟨a,c,h3,h4⟩:=h2 i hi;⟨a,c,h3,h4.old⟩⟩⟩
theorem Bs.stay{b:Nat}{v:Value}{mk:List Bool}{H':ae}(h:Bs b H n v mk)(hx:kP S H H')(hS:∀r∈S,r<b):Bs b H' n v mk:=let⟨a,c,h1,h2,h3⟩:=h;⟨a,c,h1,h2,h3.stay hx fun r hr=>.inl (by have:=hS r hr;omega)⟩
theorem RB.wk{c c':Nat}{b:List (List Nat)}(h:RB n c b)(hc:c≤c'):RB n c' b:=⟨h.len,fun i l hl=>⟨(h.lt i l hl).1,Nat.le_trans (h.lt i l hl).2 hc⟩⟩
theorem Zv{α:Type}(a b c d e f:α):[a,b,c,d,e,f].Perm [f,c,b,e,a,d]:=by
 refine List.Perm.trans (List.perm_append_comm (l₁:=[a,b,c,d,e]) (l₂:=[f])) (List.Perm.cons f ?_)
 refine List.Perm.trans (List.perm_append_comm (l₁:=[a,b]) (l₂:=[c,d,e])) (List.Perm.cons c ?_)
 refine List.Perm.trans (List.perm_append_comm (l₁:=[d,e,a]) (l₂:=[b])) (List.Perm.cons b ?_)
 exact List.Perm.trans (List.Perm.swap _ _ _) (List.Perm.cons e (List.Perm.swap _ _ _))
end
end Go.Proofs.Lv
namespace Go.Proofs.Lu
open Go.Ae
theorem J9:∀{l:List Bool},0<off l→∃i:Nat,l[i]?=some false
 |[],h=>by simp[off]at h
 |false::l,h=>⟨0,rfl⟩
 |true::l,h=>by
  obtain⟨i,hi⟩:=J9 (l:=l) (by simpa [off]using h)
  exact⟨i +1,by simpa using hi⟩
theorem QD{n:Nat}{rk:Nat→Nat}{row:Nat→List Nat}(h:∀i,i<n→∀t∈row i,t<n∧rk t<rk i){g:List Bool}(hl:g.length=n)(h0:0<off g):∃i:Nat,g[i]?=some false∧∀t∈row i,g[t]?=some true:=by
 have key:∀m(i:Nat),rk i≤m→g[i]?=some false→∃i:Nat,g[i]?=some false∧∀t∈row i,g[t]?=some true:=by
  intro m
  induction m with
  |zero=>
   intro i hm hi
   refine⟨i,hi,fun t ht=>?_⟩
   have:=(h i (by rw[←hl];exact(List.getElem?_eq_some_iff.1 hi).1) t ht).2
   omega
  |succ m ih=>
   intro i hm hi
   have hin:i<n:=by rw[←hl];exact(List.getElem?_eq_some_iff.1 hi).1
   refine Classical.byContradiction fun hno=>hno ⟨i,hi,fun t ht=>?_⟩
   have h1:=h i hin t ht
   have e:=List.getElem?_eq_getElem (show t<g.length by omega)
   cases hb:g[t]'aa with
   |true=>rw[e,hb]
   |false=>exact absurd (ih t aa (by rw[e,hb])) hno
 obtain⟨i,hi⟩:=J9 h0
 exact key _ i (Nat.le_refl _) hi
end Go.Proofs.Lu
namespace Go.Ae
theorem SH.mN{H0 H H':ae}{L L':List aC}(hS:SH [] H0 H L)(h:SH [] (Go.Ae.hN H0) H' L'):SH [] H0 (hM H H') L':=by
 have hw:=h.wf
 have e:(hM H H').low=fC H.low H'.low:=rfl
 rw[ze]at e
 refine⟨⟨h.ext.next,h.ext.obj,fun b hl hn _=>?_,fun _=>?_⟩,fun x hx=>(h.bk x hx).dL rfl,h.lo,h.ne,?_⟩
 ·have h1:=hS.ext.low b hl hn (fun r h=>nomatch h)
  have h2:=h.ext.low b hn hn (fun r h=>nomatch h)
  omega
 ·show(hM H H').low≤H'.next;omega
 ·show(hM H H').low≤H'.next;omega
end Go.Ae
namespace Go.Proofs.Lv
open Go.Proofs.Lu
open Go.Ae Go.Ae.M
section
variable{H0 H:ae}{L M:List aC}{S:List Nat}{F:Nat→Prop}{A:At}{q:AV}{n s:Nat}
theorem Vg{r n:Nat}(h:n≤1000000):WT 1 (.slice (some ⟨r,0,none⟩) n (aK 1)) none (some (vn n)) (some (vn n))=some (.slice (some ⟨r,0,none⟩) n n):=by
 show av (aX (aK 1)) (aj (some n) fun m=>gd (Nat.ble 0 n&&Nat.ble n m&&Nat.ble m (aK 1)&&(!(aD (some (vn n)))||aD (some (vn n)))) (some (Value.slice (some ⟨r,nW m 0 0 1,none⟩) (Nat.sub n 0) (Nat.sub m 0)))) (gd (Nat.beq (aK 1) (aK 1)) (gd (Nat.ble 0 n&&Nat.ble n n&&Nat.ble n n&&true&&aX n) (some (Value.slice (some ⟨r,nW n 0 0 1,none⟩) (Nat.sub n 0) (Nat.sub n 0)))))=_
 have hk:aX n=true:=Nat.ble_eq_true_of_le aa
 have ho:nW n 0 0 1=0:=by unfold nW;cases Nat.beq n 0<;>rfl
 rw[p9,bR,Nat.beq_refl,Nat.ble_eq_true_of_le (Nat.zero_le _),Nat.ble_eq_true_of_le (Nat.le_refl _),hk,ho];rfl
theorem QE{v:Value}{cs:List Value}{gb:List aC}(hg:GB 3 1 v cs gb)(hl:cs.length≤1000000)(hw:Wf H):ak Pg X 56 [v] H fun v' H'=>H'=H∧((∃c,v'=.slice none 0 c∧cs=[]∧gb=[])∨∃r c aF,v'=.slice (some ⟨r,0,none⟩) cs.length c∧gb=[(r,3,cs++aF)]):=by
 have hS:=SH.refl hw
 rcases hg with⟨rfl,rfl,rfl⟩|⟨r,n,aF,rfl,hn,rfl⟩
 ·refine ce [0,2] ?_;refine tl ?_
  refine au ?_
  refine PU.of (v:=.slice none 0 0) rfl ?_
  refine rr ?_;simp
 ·rw[Nat.mul_one]at hn
  subst hn
  refine ce [0,2] ?_;refine tl ?_
  refine au ?_
  refine PU.of (Vg hl) ?_
  refine rr ?_;exact⟨by trivial,.inr ⟨r,_,aF,rfl,rfl⟩⟩
theorem XY{v:Value}{cs:List Int}{gb:List aC}(hg:GB 3 1 v (cs.map vi) gb)(hl:cs.length≤1000000)(hS:SH [] H0 H (gb++L)):ak Pg X 55 [v] H fun _ H'=>∃(cs':List Int)(bJ:List aC),cs'.Perm cs∧GB 3 1 v (cs'.map vi) bJ∧SH [] H0 H' (bJ++L):=by
 rcases hg with⟨rfl,h1,rfl⟩|⟨r,n,aF,rfl,hn,rfl⟩
 ·refine ak.mono UK ?_
  rintro _ _ rfl
  exact⟨cs,[],List.Perm.refl _,by rw[h1];exact GB.nil _ _,hS⟩
 ·rw[List.length_map,Nat.mul_one]at hn
  subst hn
  refine ak.mono (Dh hl (show Np (Pn cs) r 3 cs.length H0 H L from⟨cs,aF,rfl,List.Perm.refl _,hS⟩)) ?_
  rintro _ H1 ⟨c',vs,h1,h2,hS⟩
  exact⟨c',_,h2,.inr ⟨r,cs.length,vs,rfl,by rw[List.length_map];omega,rfl⟩,hS⟩
theorem XZ{v:Value}{cs:List Int}{gb:List aC}(hg:GB 3 1 v (cs.map vi) gb)(hl:cs.length≤1000000)(hS:SH [] H0 H (gb++L)):ak Pg X 57 [v] H fun v' H'=>∃(cs':List Int)(bJ:List aC),(∀x,x∈cs↔x∈cs')∧cs'.length≤cs.length∧GB 3 1 v' (cs'.map vi) bJ∧SH [] H0 H' (bJ++L):=by
 rcases hg with⟨rfl,h1,rfl⟩|⟨r,n,aF,rfl,hn,rfl⟩
 ·refine ak.mono JK ?_
  rintro _ _ ⟨rfl,rfl⟩
  exact⟨cs,[],fun _=>Iff.rfl,Nat.le_refl _,by rw[h1];exact GB.nil _ _,hS⟩
 ·rw[List.length_map,Nat.mul_one]at hn
  subst hn
  refine ak.mono (vI hl (show Np (Pn cs) r 3 cs.length H0 H L from⟨cs,aF,rfl,List.Perm.refl _,hS⟩)) ?_
  rintro _ H1 ⟨n',hn',rfl,c',vs,h1,h2,hS⟩
  exact⟨c',_,h2,aa,.inr ⟨r,n',vs,rfl,by rw[List.length_map];omega,rfl⟩,hS⟩
def aaX(v:Value)(l:List Nat)(gb:List aC):Prop:=(∃c,v=.slice none 0 c∧l=[]∧gb=[])∨∃r c aF,v=.slice (some ⟨r,0,none⟩) l.length c∧gb=[(r,3,aP l++aF)]
def CR:List (List Nat)→List Value→List aC→Prop
 |[],vs,R=>vs=[]∧R=[]
 |l::ls,vs,R=>∃v vs' gb R',vs=v::vs'∧R=gb++R'∧aaX v l gb∧CR ls vs' R'
theorem CR.len:∀{ls:List (List Nat)}{vs:List Value}{R:List aC},CR ls vs R→ls.length=vs.length
 |[],vs,R,h=>by rw[h.1];rfl
 |l::ls,vs,R,⟨v,vs',gb,R',h1,_,_,h4⟩=>by rw[h1,List.length_cons,List.length_cons,CR.len h4]
theorem CR.Jd:∀n,CR (List.replicate n []) (List.replicate n (.slice none 0 0)) []
 |0=>⟨rfl,rfl⟩
 |n +1=>⟨_,_,[],[],rfl,rfl,.inl ⟨0,rfl,rfl,rfl⟩,CR.Jd n⟩
theorem CR.put:∀{ls:List (List Nat)}{vs:List Value}{R:List aC}(i:Nat),CR ls vs R→vs[i]?=some (.slice none 0 0)→∃A B,R=A++B∧∀v' l' bJ,aaX v' l' bJ→CR (ls.set i l') (vs.set i v') (A++(bJ++B))
 |[],vs,R,i,h,hv=>by rw[h.1]at hv;simp at hv
 |l::ls,vs,R,0,⟨v,vs',gb,R',h1,h2,h3,h4⟩,hv=>by
  subst h1 h2
  simp at hv
  subst hv
  have:gb=[]:=by
   rcases h3 with⟨_,_,_,h⟩|⟨_,_,_,h,_⟩
   ·exact h
   ·cases h
  subst this
  exact⟨[],R',rfl,fun v' l' bJ g=>⟨v',vs',bJ,R',rfl,rfl,g,h4⟩⟩
 |l::ls,vs,R,i +1,⟨v,vs',gb,R',h1,h2,h3,h4⟩,hv=>by
  subst h1 h2
  obtain⟨A,B,rfl,k⟩:=CR.put i h4 (by simpa using hv)
  exact⟨gb++A,B,by rw[List.append_assoc],fun v' l' bJ g=>⟨v,vs'.set i v',gb,A++(bJ++B),rfl,by rw[List.append_assoc],h3,k v' l' bJ g⟩⟩
theorem CR.all{S:List Nat}{H0 H:ae}:∀{ls:List (List Nat)}{vs:List Value}{R L:List aC},CR ls vs R→SH S H0 H (R++L)→∀i(h:i<vs.length),∃a c,vs[i]=.slice a (ls[i]?.getD []).length c∧eO (fun r=>r∈R.map fun e:aC=>e.1) 3 H a (ls[i]?.getD []).length 1 (aP (ls[i]?.getD []))
 |[],vs,R,L,h,hS,i,hi=>by rw[h.1]at hi;simp at hi
 |l::ls,vs,R,L,⟨v,vs',gb,R',h1,h2,h3,h4⟩,hS,i,hi=>by
  subst h1 h2
  cases i with
  |zero=>
   rcases h3 with⟨c,rfl,rfl,rfl⟩|⟨r,c,aF,rfl,rfl⟩
   ·exact⟨none,c,rfl,eO.nil _ _ _ _ _⟩
   ·rw[List.append_assoc]at hS
    obtain⟨a,n,c',e,hl,hf⟩:=(show GB 3 1 (.slice (some ⟨r,0,none⟩) l.length (aK 1)) (aP l) [(r,3,aP l++aF)]from .inr ⟨r,l.length,aF,rfl,by simp,rfl⟩).W9 (F:=fun r'=>r'∈([(r,3,aP l++aF)]++R').map fun e:aC=>e.1) hS fun e he=>List.mem_map.2 ⟨e,List.mem_append_left _ he,rfl⟩
    cases e
    exact⟨_,c,rfl,hf⟩
  |succ i=>
   rw[List.append_assoc]at hS
   obtain⟨a,c,e,hf⟩:=CR.all h4 (SH.drop hS) i (by simpa using hi)
   refine⟨a,c,e,hf.wk fun r hr=>?_⟩
   obtain⟨x,hx,rfl⟩:=List.mem_map.1 hr
   exact List.mem_map.2 ⟨x,List.mem_append_right _ hx,rfl⟩
def Dn(P:Nat→Ed→Prop)(acc:List Nat):Prop:=∀x,x∈acc↔∃s e,P s e∧e.1=2∧e.2.1=x
theorem Dn.wk{P P':Nat→Ed→Prop}{acc:List Nat}(h:Dn P acc)(hp:∀s e,P s e↔P' s e):Dn P' acc:=fun x=>by
 rw[h x]
 exact⟨fun⟨s,e,g,k⟩=>⟨s,e,(hp s e).1 g,k⟩,fun⟨s,e,g,k⟩=>⟨s,e,(hp s e).2 g,k⟩⟩
theorem Dn.skip{P:Nat→Ed→Prop}{acc:List Nat}(h:Dn P acc){s:Nat}{e:Ed}(he:e.1≠2):Dn (fun s' e'=>P s' e'∨s'=s∧e'=e) acc:=fun x=>by
 rw[h x]
 constructor
 ·rintro⟨s',e',g,k⟩
  exact⟨s',e',.inl g,k⟩
 ·rintro⟨s',e',g|⟨rfl,rfl⟩,k⟩
  ·exact⟨s',e',g,k⟩
  ·exact absurd k.1 he
theorem Dn.add{P:Nat→Ed→Prop}{acc:List Nat}(h:Dn P acc){s:Nat}{e:Ed}(he:e.1=2):Dn (fun s' e'=>P s' e'∨s'=s∧e'=e) (acc++[e.2.1]):=fun x=>by
 rw[List.mem_append,h x,List.mem_singleton]
 constructor
 ·rintro(⟨s',e',g,k⟩|rfl)
  ·exact⟨s',e',.inl g,k⟩
  ·exact⟨s,e,.inr ⟨rfl,rfl⟩,he,rfl⟩
 ·rintro⟨s',e',g|⟨rfl,rfl⟩,k⟩
  ·exact .inl ⟨s',e',g,k⟩
  ·exact .inr k.2.symm
end
section
variable{H0 H:ae}{L M:List aC}{S:List Nat}{F:Nat→Prop}{A:At}{q:AV}{n s:Nat}
theorem Vh(ho:A.Ok){i j:Nat}(h:i≤j)(hj:j≤A.ns):A.pre i≤A.pre j:=by
 induction j with
 |zero=>obtain rfl:i=0:=by omega
        exact Nat.le_refl _
 |succ j ih=>
  rcases Nat.lt_or_ge i (j +1)with h1|h1
  ·have:=At.uq ho (i:=j) aa
   have:=ih aa aa
   omega
  ·obtain rfl:i=j +1:=by omega
   exact Nat.le_refl _
def cal(A:At)(r x:Nat):Prop:=∃s e,(A.fre (A.S r) s∧e∈A.E s)∧e.1=2∧e.2.1=x
theorem He(l:List Nat):aP l=(l.map fun x:Nat=>(x:Int)).map vi:=by rw[List.map_map];rfl
theorem J'(h:mJ F H0 A q)(ho:A.Ok){rule dc xc rg:Nat}{vs:List Value}{R:List aC}(hr:rule<A.nr)(hvl:vs.length=A.nr)(hv:vs[rule]?=some (.slice none 0 0))
 (hS:SH [] H0 H ((dc,23,vs)::(xc,50,[.slice (some ⟨dc,0,none⟩) A.nr A.nr])::(rg,26,q.cells A)::R)):
 ak Pg X 54 [vn rule,pt rg,pt xc] H fun _ H'=>∃v l gb,aaX v l gb∧(∀x,x∈l↔cal A rule x)∧l.length≤100000∧SH [] H0 H' ((dc,23,vs.set rule v)::(xc,50,[.slice (some ⟨dc,0,none⟩) A.nr A.nr])::(rg,26,q.cells A)::(gb++R)):=by
 refine ce [0,1,2,5,7,14,15,16,24,25,26] ?_;refine tl ?_
 have hsr:=ho.s rule hr
 have hS0:=hS
 refine hS.PL 2 rfl (by show 0 +6≤6;omega) ?_
 repeat(first|(refine hS.az ?_)|(refine hS.iG ?_))
 refine(h.ex hS.ext).n'.ldS ho hr fun p=>?_
 simp only[aZ hS.wf]
 refine ak.mono (free_spec (F:=F) (oC H) (h.ex hS.ext).n' ho hsr.1) ?_
 rintro _ H2 ⟨⟨fa,fc,l,rfl,hfl,hup,hfm⟩,hx⟩
 have hS:=hS.kX hx
 have hfl:eO ((hN H).next≤·) 3 (hM H H2) fa l.length 1 (aP l):=hfl
 refine au ?_
 refine jw (by simp only[bn hx,yz,Br,XW,uS]) ?_
 have hset:vs.set rule (.slice none 0 0)=vs:=by
  obtain⟨h1,h2⟩:=List.getElem?_eq_some_iff.1 hv
  rw[←h2];exact List.set_getElem_self h1
 have hln:∀s∈l,s<A.ns:=fun s hs=>(At.Rc.own ho (k:=rule) (fun t ht=>by subst ht;exact hsr) ((hfm s).1 hs)).1
 have hSb:=hS
 have hS:=hS.base
 have hB:mJ (·<H0.next) (hM H H2) A q:=h.old.ex hSb.ext
 generalize adh:((dc,23,vs)::(xc,50,[.slice (some ⟨dc,0,none⟩) A.nr A.nr])::(rg,26,q.cells A)::R:List aC).map (fun e:aC=>e.1)=ids at hS
 have hid:∀r∈ids,H0.next≤r∧r<H.next:=fun r hr'=>by
  rw[←adh]at hr'
  obtain⟨x,hx1,rfl⟩:=List.mem_map.1 hr'
  exact⟨hS0.wm hx1,(hS0.lo x hx1).2⟩
 obtain⟨evs,he1,he2⟩:=hB.e
 have hlow:∀r∈ids,¬r<H0.next:=fun r hr'=>by have:=hid r hr';omega
 have aer:∀i(h:i<l.length),i≤l[i]:=fun i=>by
  induction i with
  |zero=>exact fun _=>Nat.zero_le _
  |succ i ih=>
   intro h
   have:=ih aa
   have:=List.pairwise_iff_getElem.1 hup i (i +1) aa h aa
   omega
 have hll:l.length≤4000:=by
  have:=ho.big
  rcases Nat.eq_zero_or_pos l.length with h0|h0
  ·omega
  ·have:=aer (l.length -1) aa
   have:=hln _ (List.getElem_mem (show l.length -1<l.length by omega))
   omega
 have hF:∀{H' L'},SH ids (hM H H2) H' L'→eO ((hN H).next≤·) 3 H' fa l.length 1 (aP l):=fun hS=>hfl.stay hS.ext fun r hr'=>.inl (by have:=hid r hr';show¬H.next≤r;omega)
 refine aT.i_ fun K hK=>?_
 refine Zd 5 7 16 24 25 26 (I:=fun m x5 x7 dJ x24 x25 Ul H'=>∃(i c:Nat)(v:Value)(gb:List aC)(acc:List Nat),dJ=vn i∧i +m=l.length∧GB 3 1 v (aP acc) gb∧Dn (fun s e=>s∈l.take i∧e∈A.E s) acc∧acc.length≤A.pre c∧c≤A.ns∧(∀s∈l.drop i,c≤s)∧SH ids (hM H H2) H' ((dc,23,vs.set rule v)::(xc,50,[.slice (some ⟨dc,0,none⟩) A.nr A.nr])::(rg,26,q.cells A)::(gb++R))) ?_ l.length ⟨0,0,_,[],[],rfl,aa,GB.nil _ _,fun x=>by simp,Nat.zero_le _,Nat.zero_le _,fun s _=>Nat.zero_le _,by rw[hset];exact hS⟩
 clear hS
 rintro m x5 x7 dJ x24 x25 Ul eP H3 ⟨i,c,v,gb,acc,rfl,him,hg,hD,hac,hcn,hdr,hS⟩
 refine tl ?_
 refine au ?_
 refine ah (fun hc=>?_) (fun hc=>?_)
 rotate_left
 ·subst hK
  refine au ?_
  obtain rfl:i=l.length:=by omega
  rw[List.take_length]at hD
  have aes:acc.length≤100000:=by have:=At.wO ho c;omega
  clear hdr him
  subst adh
  have hS:=hSb.over hS
  rw[He]at hg
  obtain⟨va,vl,vc,rfl⟩:=hg.sl
  have Yj:∀{w},(vs.set rule w)[rule]?=some w:=by intro w;rw[List.getElem?_set,if_pos rfl,if_pos aa]
  refine tl ?_
  refine hS.a_ ?_
  refine hS.ix (k:=rule) hr Yj fun p=>?_
  refine ak.mono (XY hg (by rw[List.length_map];omega) (hS.perm (bB [_,_,_] gb R))) ?_
  rintro _ H4 ⟨cs,gb1,hp,hg1,hS1⟩
  have hS:=hS1.perm (bB gb1 [_,_,_] R)
  simp only[List.cons_append,List.nil_append]at hS
  have hcl:cs.length≤100000:=by rw[hp.length_eq,List.length_map];exact aes
  repeat(first|(refine hS.az ?_)|(refine hS.iG ?_))
  refine hS.XI (k:=rule) hr Yj ?_
  refine hS.az ?_
  have hS2:=hS
  refine ak.mono (XZ hg1 aa hS1.mV) ?_
  rintro w H5 ⟨cs2,Xa,hm2,hl2,hg2,kH⟩
  have hS:=(hS1.mN kH).perm (bB Xa [_,_,_] R)
  simp only[List.cons_append,List.nil_append]at hS
  have nK:=hS
  refine ak.mono (QE hg2 (by rw[List.length_map];omega) (oC _)) ?_
  rintro w' H6 ⟨rfl,hw'⟩
  refine hS.az ?_
  have hcs2:∀x∈cs2,∃k:Nat,k∈acc∧x=k:=fun x hx=>by
   have:=hp.mem_iff.1 ((hm2 x).2 hx)
   obtain⟨k,hk,rfl⟩:=List.mem_map.1 this
   exact⟨k,hk,rfl⟩
  have hnl:cs2.map vi=aP (cs2.map Int.toNat):=by
   rw[He,List.map_map,List.map_map]
   refine List.map_congr_left fun x hx=>?_
   obtain⟨k,_,rfl⟩:=hcs2 x hx
   rfl
  rw[hnl]at hw'
  obtain⟨xa,xl,xk,rfl⟩:∃a n c,w'=.slice a n c:=by rcases hw' with⟨c,h,_⟩|⟨r,c,j,h,_⟩<;>exact⟨_,_,_,h⟩
  refine hS.Qr (k:=rule) hr (by rw[List.length_set];omega) (kk:=fun HB hS=>?_)
  refine splitK (fun K hK=>?_) ?_
  ·have n4:dc≠xc:=hS2.nq 0 1 rfl rfl aa
   have r2:∀{n:Nat}{a b:ae},n=1→fQ ⟨2,0,0,0,H4,H5⟩ ⟨4,dc,rule,n,a,b⟩=true:=fun h=>iV (hS2.get 0 rfl) ((nK.get 0 rfl).dL rfl) (by rw[List.length_set];omega) fun v hv=>by
    subst h
    rw[List.drop_eq_getElem_cons (by rw[List.length_set];omega),List.take_succ_cons,List.take_zero,List.mem_singleton,List.getElem_set_self]at hv
    subst hv
    exact hg.same
   have r3:∀{n:Nat}{a b:ae},n=1→fQ ⟨2,0,0,0,H4,H5⟩ ⟨4,xc,0,n,a,b⟩=true:=fun h=>iV (hS2.get 1 rfl) ((nK.get 1 rfl).dL rfl) (by subst h;exact Nat.le_refl 1) fun v hv=>by
    have:=List.mem_of_mem_drop (List.mem_of_mem_take hv)
    simp at this;subst this
    exact jy _ _ _ fun x h=>by cases h;rfl
   simp only[bn (Ext.refl (hN (hM H4 H5))),aN,aQ]
   generalize rule=ke at r2⊢
   rcases qU H4 H5 with e|e<;>rw[e]<;>apply Gg (A:=H4) (B:=H5) (a:=dc) (b:=xc) n4 (by rfl) (by kernel_rfl) (by kernel_rfl) hK<;>repeat' apply And.intro
   all_goals first|exact trivial|(intro h;cases h;done)|exact fun _=>⟨rfl,rfl⟩|exact fun _=>r2 rfl|exact fun _=>r3 rfl
  rw[List.set_set]at hS
  refine rn ?_;refine⟨_,cs2.map Int.toNat,Xa,?_,fun x=>?_,by rw[List.length_map];omega,hS⟩
  ·rcases hw' with⟨c,h,h2,h3⟩|⟨r,c,aF,h,h2⟩
   ·exact .inl ⟨c,h,List.map_eq_nil_iff.1 h2,h3⟩
   ·rw[List.length_map]at h
    exact .inr ⟨r,c,aF,h,h2⟩
  ·have:x∈cs2.map Int.toNat↔x∈acc:=by
    constructor
    ·intro hx
     obtain⟨z,hz,rfl⟩:=List.mem_map.1 hx
     obtain⟨k,hk,rfl⟩:=hcs2 z hz
     exact hk
    ·intro hx
     exact List.mem_map.2 ⟨(x:Int),(hm2 _).1 (hp.mem_iff.2 (List.mem_map.2 ⟨x,hx,rfl⟩)),rfl⟩
   rw[this,hD x]
   constructor
   ·rintro⟨s,e,⟨g1,g2⟩,g3⟩
    exact⟨s,e,⟨(hfm s).1 g1,g2⟩,g3⟩
   ·rintro⟨s,e,⟨g1,g2⟩,g3⟩
    exact⟨s,e,⟨(hfm s).2 g1,g2⟩,g3⟩
 have hi:i<l.length:=by omega
 have hmem:=List.getElem_mem hi
 have hsn:=hln _ hmem
 have hcs:c≤l[i]:=hdr _ (by rw[List.drop_eq_getElem_cons hi];exact List.mem_cons_self ..)
 have hpm:=Vh ho hcs aa
 refine(hF hS).ix hi (zz hi) fun p=>?_
 rw[getD_in (h:=hi)]
 refine hS.ld 2 (o:=4) rfl rfl ?_
 obtain⟨ea,ec,he3,he4⟩:=he2 _ hsn
 refine(he1.stay hS.ext fun r hr'=>.inl (hlow r hr')).ix hsn he3 fun p=>?_
 refine au ?_
 have hpre:=At.uq ho hsn
 have hpl:=At.wO ho (l[i] +1)
 refine lp2 7 26 (I:=fun m x7 Ul H'=>∃(k:Nat)(v:Value)(gb:List aC)(acc:List Nat),Ul=vn k∧k +m=(A.E l[i]).length∧GB 3 1 v (aP acc) gb∧Dn (fun s e=>(s∈l.take i∧e∈A.E s)∨(s=l[i]∧e∈(A.E l[i]).take k)) acc∧acc.length≤A.pre l[i] +k∧SH ids (hM H H2) H' ((dc,23,vs.set rule v)::(xc,50,[.slice (some ⟨dc,0,none⟩) A.nr A.nr])::(rg,26,q.cells A)::(gb++R))) ?_ (A.E l[i]).length ⟨0,v,gb,acc,rfl,aa,hg,hD.wk fun s e=>by simp,aa,hS⟩
 clear hS hg hD hac
 rintro m' x7 Ul Eg H4 ⟨k,v,gb,acc,rfl,hkm,hg,hD,hac,hS⟩
 refine tl ?_
 refine au ?_
 refine ah (fun hc2=>?_) (fun hc2=>?_)
 rotate_left
 ·obtain rfl:k=(A.E l[i]).length:=by omega
  rw[List.take_length]at hD
  refine tl ?_
  refine ay ?_
  subst hK
  refine⟨l.length -(i +1),aa,_,_,_,_,_,_,_,_,rfl,i +1,l[i] +1,v,gb,acc,iC,aa,hg,hD.wk fun s e=>?_,aa,aa,fun s hs=>?_,hS⟩
  ·rw[List.take_add_one,List.getElem?_eq_getElem hi]
   simp only[Option.toList,List.mem_append,List.mem_singleton]
   constructor
   ·rintro(g|⟨rfl,g⟩)
    ·exact⟨.inl g.1,g.2⟩
    ·exact⟨.inr rfl,g⟩
   ·rintro⟨g|rfl,g2⟩
    ·exact .inl ⟨g,g2⟩
    ·exact .inr ⟨rfl,g2⟩
  ·obtain⟨j,hj,rfl⟩:=List.getElem_of_mem hs
   rw[List.getElem_drop]
   have:=List.pairwise_iff_getElem.1 hup i (i +1 +j) hi (by rw[List.length_drop]at hj;omega) aa
   omega
 have hk':k<(A.E l[i]).length:=by omega
 refine J3 (he4.stay hS.ext fun r hr'=>.inl (hlow r hr')) hk' fun p=>?_
 have hem:=List.getElem_mem hk'
 have hke:(A.E l[i])[k]?=some (A.E l[i])[k]:=List.getElem?_eq_getElem hk'
 have JV:=ho.len l[i]
 generalize(A.E l[i])[k]=e at hke hem⊢
 have hDn:∀{acc:List Nat},Dn (fun s' e'=>(s'∈l.take i∧e'∈A.E s'∨s'=l[i]∧e'∈(A.E l[i]).take k)∨s'=l[i]∧e'=e) acc→Dn (fun s' e'=>s'∈l.take i∧e'∈A.E s'∨s'=l[i]∧e'∈(A.E l[i]).take (k +1)) acc:=fun h=>h.wk fun s' e'=>by
  rw[List.take_add_one,hke]
  simp only[Option.toList,List.mem_append,List.mem_singleton]
  constructor
  ·rintro((g|g)|g)
   ·exact .inl g
   ·exact .inr ⟨g.1,.inl g.2⟩
   ·exact .inr ⟨g.1,.inr g.2⟩
  ·rintro(g|⟨g1,g|g⟩)
   ·exact .inl (.inl g)
   ·exact .inl (.inr ⟨g1,g⟩)
   ·exact .inr ⟨g1,g⟩
 refine hS.ns rfl rfl rfl fun H8 re hS DD=>?_
 have hS:SH ids (hM H H2) H8 ((re,47,[vn e.1,vn e.2.1,vn e.2.2])::(dc,23,vs.set rule v)::(xc,50,[.slice (some ⟨dc,0,none⟩) A.nr A.nr])::(rg,26,q.cells A)::(gb++R)):=hS
 repeat(first|(refine hS.az ?_)|(refine hS.a_ ?_))
 refine ah (fun hc1=>?_) (fun hc1=>?_)
 rotate_left
 ·refine ay ?_
  exact⟨(A.E l[i]).length -(k +1),aa,_,_,_,_,rfl,k +1,v,gb,acc,iC,aa,hg,hDn (hD.skip (fun h=>hc1 aa)),aa,SH.drop (A:=[_]) hS⟩
 have hSc:=hS
 have hS:=hS.base
 obtain⟨va,vl,vc,rfl⟩:=hg.sl
 have Yj:(vs.set rule (.slice va vl vc))[rule]?=some (.slice va vl vc):=by rw[List.getElem?_set,if_pos rfl,if_pos aa]
 repeat(first|(refine hS.az ?_)|(refine hS.iG ?_))
 refine hS.XI (k:=rule) hr Yj ?_
 repeat(first|(refine hS.az ?_)|(refine hS.iG ?_))
 refine hS.S8 rfl rfl rfl aa fun H9 rx hS ji=>?_
 have n1:re≠dc:=hS.nq 1 2 rfl rfl aa
 have n2:re≠xc:=hS.nq 1 3 rfl rfl aa
 have n4:dc≠xc:=hS.nq 2 3 rfl rfl aa
 have UL:=hS
 have hS:=(hS.to (cs':=[vn e.2.1]) rfl).perm (List.Perm.cons _ (bB [_,_,_,_] gb R))
 refine hg.Co hS aa rfl rfl (by simp;omega) fun v' HA bJ hg' hS _ _ kV=>?_
 obtain⟨wa,wl,wc,rfl⟩:=hg'.sl
 have hS:=hS.perm (bB bJ [_,_,_,_] R)
 simp only[List.cons_append,List.nil_append]at hS
 have hS1:=hS
 refine hS.Qr (k:=rule) hr (by rw[List.length_set];omega) (kk:=fun HB hS=>?_)
 refine splitK (fun K hK=>?_) ?_
 ·have r1:∀{o n:Nat}{a b:ae},o +n≤3→fQ ⟨2,0,0,0,hM H8 H9,HA⟩ ⟨4,re,o,n,a,b⟩=true:=fun h=>iV (UL.get 1 rfl) ((hS1.get 0 rfl).dL rfl) h (yx ⟨_,_,_,rfl⟩)
  have r2:∀{n:Nat}{a b:ae},n=1→fQ ⟨2,0,0,0,hM H8 H9,HA⟩ ⟨4,dc,rule,n,a,b⟩=true:=fun h=>iV (UL.get 2 rfl) ((hS1.get 1 rfl).dL rfl) (by rw[List.length_set];omega) fun v hv=>by
   subst h
   rw[List.drop_eq_getElem_cons (by rw[List.length_set];omega),List.take_succ_cons,List.take_zero,List.mem_singleton,List.getElem_set_self]at hv
   subst hv
   exact hg.same
  have r3:∀{n:Nat}{a b:ae},n=1→fQ ⟨2,0,0,0,hM H8 H9,HA⟩ ⟨4,xc,0,n,a,b⟩=true:=fun h=>iV (UL.get 3 rfl) ((hS1.get 2 rfl).dL rfl) (by subst h;exact Nat.le_refl 1) fun v hv=>by
   have:=List.mem_of_mem_drop (List.mem_of_mem_take hv)
   simp at this;subst this
   exact jy _ _ _ fun x h=>by cases h;rfl
  simp only[ji,aN,aQ]
  generalize rule=ke at r2⊢
  rcases kV with e|e<;>rw[e]<;>apply Gh (A:=hM H8 H9) (B:=HA) (a:=re) (b:=dc) (c:=xc) n1 n2 n4 (by rfl) (by kernel_rfl) (by kernel_rfl) hK<;>repeat' apply And.intro
  all_goals first|exact trivial|(intro h;cases h;done)|exact fun _=>⟨rfl,rfl⟩|exact fun _=>r1 aa|exact fun _=>r2 rfl|exact fun _=>r3 rfl
 refine ay ?_
 rw[List.set_set]at hS
 exact⟨(A.E l[i]).length -(k +1),aa,_,_,_,_,rfl,k +1,_,bJ,acc++[e.2.1],iC,aa,by rw[show aP (acc++[e.2.1])=aP acc++[vn e.2.1] by simp];exact hg',hDn (hD.add aa),by rw[List.length_append];simp;omega,SH.drop (A:=[_]) (hSc.over hS)⟩
end
end Go.Proofs.Lv
